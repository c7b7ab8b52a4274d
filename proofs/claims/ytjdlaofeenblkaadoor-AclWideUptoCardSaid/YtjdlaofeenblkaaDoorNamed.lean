/- uri.Named over this program, and what it calls. -/
import Derived.Test.YtjdlaofeenblkaaDoorFmtU
import Derived.Test.YtjdlaofeenblkaaDoorUriAll
import Derived.Test.YtjdlaofeenblkaaDoorStrs
import Derived.WideLaws
namespace Go.Proofs.YtjdlaofeenblkaaDoor.T
open Go.RowKit
set_option linter.unusedSimpArgs false
set_option linter.unusedVariables false

/-! ### a label that is a number from 0 to 255 -/
def octB (s : ByteArray) : Bool := match Lib.parseUintB 8 s.data.toList with | .ok n => s.data.toList == Lib.decDigits n | _ => false
theorem bytes_eq (s : ByteArray) (l : List UInt8) (h : s.data.toList = l) : s = ⟨l.toArray⟩ := by cases s; subst h; rfl
theorem parse8_ok (s : ByteArray) (hlim : s.size ≤ 281474976710656) (u : Nat) (h : Lib.parseUintB 8 s.data.toList = .ok u) (w : World) :
    Calls Tryd.prog 83 #[.string s, .int .i64 10, .int .i64 8] w fun e w' => e = .returned (.tuple #[.int .u64 u, .nilIface]) ∧ Below w.heap.size w w' := by
  refine (Tryd.strconv_ParseUint_10_at8_ok s (by omega) u h w).mono fun e w' ⟨he, hw⟩ => ⟨he, ?_⟩
  rcases hw with rfl | rfl
  · exact Below.refl _ _
  · exact below_bytes (Below.refl _ _) _ _
theorem parse8_no (s : ByteArray) (hlim : s.size ≤ 281474976710656) (h : ∀ u, Lib.parseUintB 8 s.data.toList ≠ .ok u) (w : World) (hg : Glob w) :
    Calls Tryd.prog 83 #[.string s, .int .i64 10, .int .i64 8] w fun e w' => ∃ (n : Int) (N : Nat), e = .returned (.tuple #[.int .u64 n, .iface 103 (.pointer (some ⟨N, 0, none⟩))]) ∧ Below w.heap.size w w' := by
  rcases hp : Lib.parseUintB 8 s.data.toList with u | _ | _
  · exact absurd hp (h u)
  · obtain ⟨tp, p, hv⟩ := hg.errSyntax
    exact (Tryd.strconv_ParseUint_10_at8_syntax_var s hlim hp tp p w hv).mono fun e w' ⟨N, he, _, _, hb⟩ => ⟨0, N, he, hb⟩
  · obtain ⟨tp, p, hv⟩ := hg.errRange
    exact (Tryd.strconv_ParseUint_10_at8_range_var s hlim hp tp p w hv).mono fun e w' ⟨N, he, _, _, hb⟩ => ⟨255, N, he, hb⟩
theorem oct_some {s : ByteArray} {u : Nat} (h : Lib.parseUintB 8 s.data.toList = .ok u) : octB s = (s.data.toList == Lib.decDigits u) := by unfold octB; rw [h]
theorem oct_none {s : ByteArray} (h : ∀ u, Lib.parseUintB 8 s.data.toList ≠ .ok u) : octB s = false := by
  unfold octB
  cases hp : Lib.parseUintB 8 s.data.toList with
  | ok u => exact absurd hp (h u)
  | _ => rfl
theorem oct_1 (w : World) (hg : Glob w) : PredS 82 #[] (fun s => !octB s) (fun s => s.size ≤ 281474976710656) w := by
  intro W s hb hs
  have HG := Lib.hid (hg.below hb)
  clear hb hg
  by_cases hok : ∃ u, Lib.parseUintB 8 s.data.toList = .ok u
  · obtain ⟨u, hu⟩ := hok
    have HP := Lib.hid (parse8_ok s hs u hu)
    have HO := Lib.hid (oct_some hu)
    have hu64 : u < 18446744073709551616 := by have := Lib.parseUintB_le hu; omega
    clear hu
    go_enter Tryd.func82, Tryd.ntmps82
    go_wp2_with (first
      | (go_at_call 83; refine (HP.out _).mono ?_; rintro e w1 ⟨rfl, hb1⟩; have HB1 := Lib.hid hb1; clear hb1)
      | (go_at_call 84; refine (formatUint_any u hu64 _ ((HG.out.below HB1.out).pow10)).mono ?_; rintro e w2 ⟨rfl, hb2⟩; have HB2 := Lib.hid hb2; clear hb2))
    go_ret
    refine ⟨ret_bool ?_, below_next HB1.out (below_grw HB2.out)⟩
    rw [HO.out, ← Lib.toList_data s, Bool.beq_comm]
  · have hno : ∀ u, Lib.parseUintB 8 s.data.toList ≠ .ok u := fun u h => hok ⟨u, h⟩
    have HP := Lib.hid (fun W => parse8_no s hs hno W)
    have HO := Lib.hid (oct_none hno)
    clear hok hno
    go_enter Tryd.func82, Tryd.ntmps82
    go_wp2_with (go_at_call 83; refine (HP.out _ HG.out).mono ?_; rintro e w1 ⟨n, N, rfl, hb1⟩)
    go_ret
    exact ⟨ret_bool (by rw [HO.out]; rfl), hb1⟩
theorem fn_oct : ∀ args w, (callFunc 82 args).run Tryd.prog w = .ok (.enter 82 args) w := enters_of Tryd.func82 (by kernel_rfl) rfl
def quadB (ls : List ByteArray) : Bool := decide (ls.length = 4) && ls.all octB
theorem quad_any (b off n c : Nat) (zs : List ByteArray) (w : World) (hg : Glob w) (hs : ∀ x ∈ zs, x.size ≤ 281474976710656) (hn : zs.length = n) (hbig : n ≤ 9223372036854775807)
    (hc : ∀ j, j < n → w.cell? ⟨b, off + j, none⟩ = some (.string (zs.getD j ByteArray.empty))) :
    Calls Tryd.prog 53 #[.slice (some ⟨b, off, none⟩) n c] w fun e w' => e = .returned (.bool (quadB zs)) ∧ Below w.heap.size w w' := by
  have hc1 := contains_string 82 #[] (fun s => !octB s) _ fn_oct b off n c zs w (oct_1 w hg) hs hn hbig hc
  generalize hr : (zs.any fun s => !octB s) = r at hc1
  have HC := Lib.hid hc1
  have HR := Lib.hid hr
  have HN := Lib.hid hn
  clear hc1 hr hc hs hn hg
  by_cases h4 : n = 4
  · have HQ : Hid (quadB zs = !r) := Lib.hid (by unfold quadB; rw [HN.out, h4, ← HR.out, List.not_any_eq_all_not]; simp)
    subst h4
    go_enter Tryd.func53, Tryd.ntmps53
    go_wp2_with (go_at_call 32; refine HC.out.mono ?_; rintro e w' ⟨rfl, hb⟩)
    go_ret
    exact ⟨ret_bool HQ.out.symm, hb⟩
  · have HQ : Hid (quadB zs = false) := Lib.hid (by unfold quadB; rw [HN.out]; simp [h4])
    have h4b : ((n : Int) == 4) = false := by simp; omega
    have h4c : decide ((n : Int) = 4) = false := by simp; omega
    clear h4
    go_enter Tryd.func53, Tryd.ntmps53
    go_wp2
    go_ret
    exact ⟨ret_bool HQ.out.symm, Below.refl _ _⟩

/-! ### a label that is a number -/
theorem dig_spec (c : UInt8) : isDig c = (decide (48 ≤ (c.toNat : Int)) && decide ((c.toNat : Int) ≤ 57)) := by
  have h : ∀ n : Fin 256, isDig (UInt8.ofNat n.val) = (decide (48 ≤ ((UInt8.ofNat n.val).toNat : Int)) && decide (((UInt8.ofNat n.val).toNat : Int) ≤ 57)) := by decide +kernel
  have := h ⟨c.toNat, c.toNat_lt⟩
  simpa using this
def hexI (c : UInt8) : Int := Lib.indexByte [48, 49, 50, 51, 52, 53, 54, 55, 56, 57, 97, 98, 99, 100, 101, 102, 65, 66, 67, 68, 69, 70] c
theorem hex_spec (c : UInt8) : isHexC c = decide (0 ≤ hexI c) := by
  have h : ∀ n : Fin 256, isHexC (UInt8.ofNat n.val) = decide (0 ≤ hexI (UInt8.ofNat n.val)) := by decide +kernel
  have := h ⟨c.toNat, c.toNat_lt⟩
  simpa using this
theorem hexI_any (c : UInt8) (w : World) : Calls Tryd.prog 58 #[.string ⟨#[48, 49, 50, 51, 52, 53, 54, 55, 56, 57, 97, 98, 99, 100, 101, 102, 65, 66, 67, 68, 69, 70]⟩, .int .u8 c.toNat] w fun e w' => e = .returned (.int .i64 (hexI c)) ∧ w = w' := by
  refine (Tryd.strings_IndexByte _ _ _).mono fun e w' ⟨he, hw⟩ => ⟨?_, hw.symm⟩
  rw [he]
  show Ending.returned (.int .i64 (Lib.indexByte _ (UInt8.ofNat c.toNat))) = _
  rw [UInt8.ofNat_toNat]
  rfl
theorem num_1 (w : World) : PredB 80 #[] isHexC w := by
  intro W c hb
  have HT := Lib.hid (hex_spec c)
  clear hb
  go_enter Tryd.func80, Tryd.ntmps80
  go_wp2_with (go_at_call 58; refine (hexI_any c _).mono ?_; rintro e w' ⟨rfl, rfl⟩)
  go_ret
  exact ⟨ret_bool HT.out.symm, Below.refl _ _⟩
theorem num_2 (w : World) : PredB 81 #[] isDig w := by
  intro W c hb
  have HT := Lib.hid (dig_spec c)
  clear hb
  go_enter Tryd.func81, Tryd.ntmps81
  go_wp2
  all_goals
    go_ret
    refine ⟨ret_bool ?_, Below.refl _ _⟩
    rw [HT.out, Bool.eq_iff_iff]
    simp only [Bool.or_eq_true, Bool.and_eq_true, decide_eq_true_eq, true_iff, Bool.not_eq_true', decide_eq_false_iff_not, bne_iff_ne, ne_eq, beq_iff_eq, Bool.false_eq_true, false_iff]
    omega
theorem fn_num_1 : ∀ args w, (callFunc 80 args).run Tryd.prog w = .ok (.enter 80 args) w := enters_of Tryd.func80 (by kernel_rfl) rfl
theorem fn_num_2 : ∀ args w, (callFunc 81 args).run Tryd.prog w = .ok (.enter 81 args) w := enters_of Tryd.func81 (by kernel_rfl) rfl
def numericB (s : ByteArray) : Bool := if Lib.hasPrefix s.data.toList [48, 120] then (Lib.trimPrefix s.data.toList [48, 120]).all isHexC else s.data.toList.all isDig
theorem numeric_any (s : ByteArray) (w : World) (hs : s.size ≤ 281474976710656) :
    Calls Tryd.prog 52 #[.string s] w fun e w' => e = .returned (.bool (numericB s)) ∧ Below w.heap.size w w' := by
  have hp := Tryd.strings_CutPrefix s ⟨#[48, 120]⟩
  have hpl : (⟨#[48, 120]⟩ : ByteArray).data.toList = [48, 120] := rfl
  rw [hpl] at hp
  clear hpl
  cases hb : Lib.hasPrefix s.data.toList [48, 120] with
  | true =>
    have HS : Hid (numericB s = (Lib.trimPrefix s.data.toList [48, 120]).all isHexC) := Lib.hid (by unfold numericB; rw [hb]; rfl)
    rw [hb] at hp
    have hlen : (Lib.trimPrefix s.data.toList [48, 120]).length ≤ s.size := by
      unfold Lib.trimPrefix
      rw [hb, if_pos rfl, List.length_drop, size_toList]; omega
    generalize hx : Lib.trimPrefix s.data.toList [48, 120] = x at hp HS hlen
    have HA := Lib.hid (fun W => uall_any 80 #[] isHexC fn_num_1 ⟨x.toArray⟩ W (num_1 W) (by show x.toArray.size ≤ _; rw [List.size_toArray]; omega))
    have HP := Lib.hid hp
    clear hp hb hx hlen
    go_enter Tryd.func52, Tryd.ntmps52
    go_wp2_with (first
      | (go_at_call 79; refine (HP.out _).mono ?_; rintro e w1 ⟨rfl, rfl⟩)
      | (go_at_call 49; refine (HA.out _).mono ?_; rintro e w2 ⟨rfl, hb2⟩))
    go_ret
    exact ⟨ret_bool (by rw [HS.out]), hb2⟩
  | false =>
    have HS : Hid (numericB s = s.data.toList.all isDig) := Lib.hid (by unfold numericB; rw [hb]; rfl)
    rw [hb] at hp
    have HA := Lib.hid (fun W => uall_any 81 #[] isDig fn_num_2 s W (num_2 W) (by omega))
    generalize hr : s.data.toList.all isDig = r at HA HS
    have HP := Lib.hid hp
    clear hp hb hr
    go_enter Tryd.func52, Tryd.ntmps52
    go_wp2_with (first
      | (go_at_call 79; refine (HP.out _).mono ?_; rintro e w1 ⟨rfl, rfl⟩)
      | (go_at_call 49; refine (HA.out _).mono ?_; rintro e w2 ⟨rfl, hb2⟩))
    go_ret
    exact ⟨ret_bool (by rw [HS.out]), hb2⟩
end Go.Proofs.YtjdlaofeenblkaaDoor.T
