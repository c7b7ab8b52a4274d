/- acl.Admits in the print's form. -/
import Derived.Test.YtjdlaofeenblkaaDoorHAcl0
import Derived.Test.YtjdlaofeenblkaaDoorX5
namespace Go.Proofs.YtjdlaofeenblkaaDoor.X
open Go.RowKit Go.Proofs.YtjdlaofeenblkaaDoorW.PrintWords Go.Proofs.YtjdlaofeenblkaaDoor.T
set_option linter.unusedSimpArgs false
set_option linter.unusedVariables false
def matchF (x : S25) (host : ByteArray) (port : Int) (method : ByteArray) : Option Bool := acl_Matches.f x.f0 x.f1 x.f2 x.f3 x.f4 host port method
/-- the first rule that matches says it -/
def admitsL (host : ByteArray) (port : Int) (method : ByteArray) : List S25 → Option Bool
  | [] => some false
  | x :: t => (matchF x host port method).bind fun m => if m = true then some x.f0 else admitsL host port method t
def acl_Admits.f (l0 : List S25) (a1 : ByteArray) (a2 : Int) (a3 : ByteArray) : Option Bool := if l0.length ≤ 9223372036854775807 then admitsL a1 a2 a3 l0 else none
theorem of_lim2 {α : Type} {c : Prop} [Decidable c] {x : Option α} {r : α} (h : (if c then x else none) = some r) : c ∧ x = some r := by
  by_cases hc : c
  · rw [if_pos hc] at h; exact ⟨hc, h⟩
  · rw [if_neg hc] at h; cases h
theorem admits_drop {host method : ByteArray} {port : Int} {l : List S25} {k : Nat} (hk : k < l.length) : admitsL host port method (l.drop k) = (matchF (l.getD k z25) host port method).bind fun m => if m = true then some (l.getD k z25).f0 else admitsL host port method (l.drop (k + 1)) := by
  rw [List.drop_eq_getElem_cons hk]
  rw [List.getD_eq_getElem?_getD, List.getElem?_eq_getElem hk]
  rfl
set_option maxHeartbeats 4000000 in
theorem acl_Admits.calls (A0 : Option Addr) (c0 : Nat) (l0 : List S25) (a1 : ByteArray) (a2 : Int) (a3 : ByteArray) (r : Bool) (w : World) (hr0 : Kd.C k25 w A0 l0.length l0) (hc0 : l0.length ≤ c0) (HGg : Glob w) (h : acl_Admits.f l0 a1 a2 a3 = some r) :
    Calls Tryd.prog 18 #[.slice A0 l0.length c0, .string a1, .int .i64 a2, .string a3] w fun e w' => e = .returned (.bool r) ∧ Below w.heap.size w w' := by
  obtain ⟨hbig, h⟩ := of_lim2 h
  have HC := Lib.hid (fun h0 => rule_at hr0 h0)
  have HG := Lib.hid HGg
  have HR : Hid (admitsL a1 a2 a3 (l0.drop 0) = some r) := Lib.hid h
  clear hr0 HGg h
  generalize hn : l0.length = n at HC hbig hc0
  have HN := Lib.hid hn; clear hn
  go_enter Tryd.func18, Tryd.ntmps18
  go_wp2
  go_step3
  go_wp2
  go_step3
  go_wp2
  go_loopg [9, 14] n (fun gg s9 s14 wr => ∃ kk : Nat, kk ≤ n ∧ n - kk ≤ gg ∧ s9 = .bool false ∧ s14 = .int .i64 kk ∧ Aside (Below w.heap.size w wr) ∧ Aside (admitsL a1 a2 a3 (l0.drop kk) = some r))
  case atStart => exact ⟨0, Nat.zero_le _, by omega, rfl, rfl, Below.refl _ _, HR.out⟩
  case round =>
    obtain ⟨kk, hkk, hg, rfl, rfl, HB0, AA⟩ := hrel
    have HB : Hid (Below w.heap.size w wr) := Lib.hid HB0.out
    clear HB0
    by_cases hlt : kk < n
    · have hltz : (kk : Int) < (n : Int) := by omega
      have HA := AA.out
      clear AA
      rw [admits_drop (by rw [HN.out]; exact hlt)] at HA
      obtain ⟨m, hm, HA⟩ := Option.bind_eq_some_iff.mp HA
      obtain ⟨b, off, rfl, hcell⟩ := HC.out (by omega)
      obtain ⟨A1, c1, hl1, hC1, e0, e1, e2, e3, e4⟩ := hcell kk hlt
      clear hcell
      generalize hy : l0.getD kk z25 = y at e0 e1 e2 e3 e4 hl1 hC1 HA hm
      clear hy
      replace e0 := (HB.out.cell (World.block_lt_of_cell? w _ e0)).trans e0
      replace e1 := (HB.out.cell (World.block_lt_of_cell? w _ e1)).trans e1
      replace e2 := (HB.out.cell (World.block_lt_of_cell? w _ e2)).trans e2
      replace e3 := (HB.out.cell (World.block_lt_of_cell? w _ e3)).trans e3
      replace e4 := (HB.out.cell (World.block_lt_of_cell? w _ e4)).trans e4
      have HM := Lib.hid (fun (W : World) (h1 : Below wr.heap.size wr W) => acl_Matches.calls y.f0 y.f1 y.f2 y.f3 A1 c1 y.f4 a1 a2 a3 m W (Kd.C_below (Kd.C_below hC1 HB.out) h1) hl1 ((HG.out.below HB.out).below h1) hm)
      clear hC1 hl1 hm
      cases m with
      | true =>
        rw [if_pos rfl] at HA
        have HY := Lib.hid (Option.some.inj HA)
        clear HA
        go_wp2_with (go_at_call 16; refine (HM.out _ (by first | exact below_alc (Below.refl _ _) _ | exact Below.refl _ _)).mono ?_; rintro e w1 ⟨rfl, hb1⟩; have hb10 : w1.cell? ⟨wr.heap.size, 0, none⟩ = some (.bool y.f0) := (hb1.cell (p := ⟨wr.heap.size, 0, none⟩) (by simp)).trans (World.cell?_alloc_new _ _ _ _))
        (try rw [Exit.noGoto_ret])
        go_ret
        exact ⟨ret_bool HY.out, below_next HB.out (below_next (by first | exact below_alc (Below.refl _ _) _ | exact Below.refl _ _) hb1)⟩
      | false =>
        rw [if_neg (by decide)] at HA
        have HY := Lib.hid HA
        clear HA
        go_wp2_with (go_at_call 16; refine (HM.out _ (by first | exact below_alc (Below.refl _ _) _ | exact Below.refl _ _)).mono ?_; rintro e w1 ⟨rfl, hb1⟩)
        go_roundg (n - (kk + 1))
        case measure => omega
        case rel => exact ⟨kk + 1, by omega, by omega, rfl, by go_num, below_next HB.out (below_next (by first | exact below_alc (Below.refl _ _) _ | exact Below.refl _ _) hb1), HY.out⟩
    · have hltz : ¬ (kk : Int) < (n : Int) := by omega
      obtain rfl : kk = n := by omega
      have HY : Hid (false = r) := Lib.hid (by
        have := AA.out
        rw [List.drop_of_length_le (by rw [HN.out]; exact Nat.le_refl _)] at this
        exact Option.some.inj this)
      clear AA
      go_wp2
      (try rw [Exit.noGoto_ret])
      go_ret
      exact ⟨ret_bool HY.out, HB.out⟩
end Go.Proofs.YtjdlaofeenblkaaDoor.X
