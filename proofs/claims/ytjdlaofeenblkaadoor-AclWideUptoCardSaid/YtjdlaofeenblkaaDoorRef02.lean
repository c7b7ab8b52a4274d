/- tollhouseref02.Token over this program: it tells what text.Token tells. -/
import Derived.Test.YtjdlaofeenblkaaDoorBytes
namespace Go.Proofs.YtjdlaofeenblkaaDoor.T
open Go.RowKit
set_option linter.unusedSimpArgs false
set_option linter.unusedVariables false
def sgL : List UInt8 := [33, 35, 36, 37, 38, 39, 42, 43, 45, 46, 94, 95, 96, 124, 126]
def alnum (c : UInt8) : Bool := (97 ≤ c && c ≤ 122) || (65 ≤ c && c ≤ 90) || (48 ≤ c && c ≤ 57)
/-- among the first k signs -/
def inSg (k : Nat) (c : UInt8) : Bool := (sgL.take k).contains c
theorem inSg_succ (k : Nat) (hk : k < 15) (c : UInt8) : inSg (k + 1) c = (inSg k c || c == sgL.getD k 0) := by
  have h : ∀ k : Fin 15, ∀ n : Fin 256, inSg (k.val + 1) (UInt8.ofNat n.val) = (inSg k.val (UInt8.ofNat n.val) || UInt8.ofNat n.val == sgL.getD k.val 0) := by decide +kernel
  have := h ⟨k, hk⟩ ⟨c.toNat, c.toNat_lt⟩
  simpa using this
theorem tok_alt (c : UInt8) : isTok c = (alnum c || inSg 15 c) := by
  have h : ∀ n : Fin 256, isTok (UInt8.ofNat n.val) = (alnum (UInt8.ofNat n.val) || inSg 15 (UInt8.ofNat n.val)) := by decide +kernel
  have := h ⟨c.toNat, c.toNat_lt⟩
  simpa using this
theorem alnum_spec (c : UInt8) : alnum c = ((decide (97 ≤ (c.toNat : Int)) && decide ((c.toNat : Int) ≤ 122)) || (decide (65 ≤ (c.toNat : Int)) && decide ((c.toNat : Int) ≤ 90)) || (decide (48 ≤ (c.toNat : Int)) && decide ((c.toNat : Int) ≤ 57))) := by
  have h : ∀ n : Fin 256, alnum (UInt8.ofNat n.val) = ((decide (97 ≤ ((UInt8.ofNat n.val).toNat : Int)) && decide (((UInt8.ofNat n.val).toNat : Int) ≤ 122)) || (decide (65 ≤ ((UInt8.ofNat n.val).toNat : Int)) && decide (((UInt8.ofNat n.val).toNat : Int) ≤ 90)) || (decide (48 ≤ ((UInt8.ofNat n.val).toNat : Int)) && decide (((UInt8.ofNat n.val).toNat : Int) ≤ 57))) := by decide +kernel
  have := h ⟨c.toNat, c.toNat_lt⟩
  simpa using this
theorem classes (x : Int) : (97 ≤ x ∧ x ≤ 122) ∨ (65 ≤ x ∧ x ≤ 90) ∨ (48 ≤ x ∧ x ≤ 57) ∨ x < 48 ∨ (57 < x ∧ x < 65) ∨ (90 < x ∧ x < 97) ∨ 122 < x := by omega
theorem beq_nat (a b : UInt8) : (a == b) = ((a.toNat : Int) == (b.toNat : Int)) := by
  rw [Bool.eq_iff_iff]
  simp only [beq_iff_eq]
  constructor
  · intro h; rw [h]
  · intro h; exact UInt8.toNat_inj.1 (by omega)
theorem sg_at (k : Nat) (hk : k < 15) : (⟨#[33, 35, 36, 37, 38, 39, 42, 43, 45, 46, 94, 95, 96, 124, 126]⟩ : ByteArray)[k]'hk = sgL.getD k 0 := by
  have h : ∀ k : Fin 15, (⟨#[33, 35, 36, 37, 38, 39, 42, 43, 45, 46, 94, 95, 96, 124, 126]⟩ : ByteArray)[k.val]'(k.2) = sgL.getD k.val 0 := by decide
  exact h ⟨k, hk⟩
theorem bool_val {a b : Bool} (h : a = b) : Value.bool a = .bool b := by rw [h]
set_option maxHeartbeats 4000000 in
theorem rtoken_any (s : ByteArray) (w : World) (hs : s.size ≤ 9223372036854775807) :
    Calls Tryd.prog 36 #[.string s] w fun e w' => e = .returned (.bool (tokenB s)) ∧ w = w' := by
  have HL := Lib.hid (size_toList s)
  go_enter Tryd.func36, Tryd.ntmps36
  go_wp2
  go_loopg [4, 5, 6, 7] s.size (fun gg s4 _ _ _ wr => ∃ kk : Nat, kk ≤ s.size ∧ s.size - kk ≤ gg ∧ s4 = .int .i64 kk ∧ wr = w ∧ Aside (∀ j, j < kk → isTok (s.data.toList.getD j 0) = true))
  case atStart => exact ⟨0, Nat.zero_le _, by omega, rfl, rfl, fun j hj => absurd hj (Nat.not_lt_zero _)⟩
  case round =>
    obtain ⟨kk, hkk, hg, rfl, rfl, A⟩ := hrel
    obtain ⟨wo, rfl⟩ : ∃ wo : World, wo = wr := ⟨_, rfl⟩
    by_cases hlt : kk < s.size
    · have hltz : (kk : Int) < (s.size : Int) := by omega
      have HY : Hid (s.data.toList.getD kk 0 = s[kk]) := Lib.hid (by rw [List.getD_eq_getElem?_getD, List.getElem?_eq_getElem (by rw [HL.out]; exact hlt)]; rfl)
      have HA := Lib.hid (alnum_spec s[kk])
      rcases classes ((s[kk]).toNat : Int) with hcl | hcl | hcl | hcl | hcl | hcl | hcl
      all_goals
        have hcl1 := hcl
        try (obtain ⟨hca, hcb⟩ := hcl1)
        go_wp2
        go_loopg [6, 7] 15 (fun gg s6 s7 wr => ∃ k : Nat, k ≤ 15 ∧ 15 - k ≤ gg ∧ s7 = .int .i64 k ∧ s6 = .bool (alnum s[kk] || inSg k s[kk]) ∧ wr = wo)
        case atStart =>
          refine ⟨0, by omega, by omega, rfl, ?_, rfl⟩
          have h0 : inSg 0 s[kk] = false := rfl
          rw [h0, HA.out]
          congr 1
          rw [Bool.eq_iff_iff]
          simp only [Bool.or_eq_true, Bool.and_eq_true, decide_eq_true_eq, true_iff, Bool.false_eq_true, false_iff, or_false]
          omega
        case round =>
          obtain ⟨k, hk, hgk, rfl, rfl, rfl⟩ := hrel
          generalize hx : (alnum s[kk] || inSg k s[kk]) = x
          have HX := Lib.hid hx
          clear hx
          by_cases hlk : k < 15
          · have hltk : (k : Int) < 15 := by omega
            cases x with
            | true =>
              go_wp2
              go_roundg (15 - (k + 1))
              case measure => omega
              case rel =>
                refine ⟨k + 1, by omega, by omega, by go_num, ?_, rfl⟩
                rw [inSg_succ k hlk, ← Bool.or_assoc, HX.out]
                rfl
            | false =>
              go_wp2
              go_roundg (15 - (k + 1))
              case measure => omega
              case rel =>
                refine ⟨k + 1, by omega, by omega, by go_num, bool_val ?_, rfl⟩
                rw [inSg_succ k hlk, ← Bool.or_assoc, HX.out, Bool.false_or, beq_nat, sg_at k hlk, Bool.beq_comm]
          · have hltk : ¬ (k : Int) < 15 := by omega
            obtain rfl : k = 15 := by omega
            rw [← tok_alt] at HX
            cases x with
            | true =>
              go_wp2
              go_roundg (s.size - (kk + 1))
              case measure => omega
              case rel =>
                refine ⟨kk + 1, by omega, by omega, by go_num, rfl, fun j hj => ?_⟩
                by_cases e : j = kk
                · subst e; rw [HY.out]; exact HX.out
                · exact A.out j (by omega)
            | false =>
              go_wp2
              go_ret
              refine ⟨ret_bool ?_, rfl⟩
              unfold tokenB
              rw [all_no_getD isTok 0 s.data.toList kk (by rw [HL.out]; exact hlt) (by rw [HY.out]; exact HX.out), Bool.and_false]
    · have hltz : ¬ (kk : Int) < (s.size : Int) := by omega
      obtain rfl : kk = s.size := by omega
      go_wp2
      go_ret
      refine ⟨ret_bool ?_, rfl⟩
      unfold tokenB
      rw [all_of_getD isTok 0 s.data.toList (by rw [HL.out]; exact A.out), Bool.and_true, ← HL.out]
      cases s.data.toList <;> simp
end Go.Proofs.YtjdlaofeenblkaaDoor.T
