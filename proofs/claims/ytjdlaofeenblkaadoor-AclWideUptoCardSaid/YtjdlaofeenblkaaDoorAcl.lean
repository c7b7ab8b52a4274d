/- acl.May, acl.All, acl.Admits over this program. -/
import Derived.Test.YtjdlaofeenblkaaDoorHost
import Derived.Test.YtjdlaofeenblkaaDoorToken
namespace Go.Proofs.YtjdlaofeenblkaaDoor.T
open Go.RowKit
set_option linter.unusedSimpArgs false
set_option linter.unusedVariables false
theorem may_1 (w : World) : PredS 33 #[] (fun s => !tokenB s) (fun s => s.size ≤ 281474976710656) w := by
  intro W s hb hs
  have HT := Lib.hid (fun W => token_any s W (by omega))
  cases hq : tokenB s with
  | _ =>
    rw [hq] at HT
    clear hb hs
    have HQ := Lib.hid hq
    clear hq
    go_enter Tryd.func33, Tryd.ntmps33
    go_wp2_with (go_at_call 34; refine (HT.out _).mono ?_; rintro e w1 ⟨rfl, hb1⟩)
    go_ret
    exact ⟨ret_bool (by rw [HQ.out]; rfl), hb1⟩
theorem fn_may_1 : ∀ args w, (callFunc 33 args).run Tryd.prog w = .ok (.enter 33 args) w := enters_of Tryd.func33 (by kernel_rfl) rfl
/-- what acl.May tells of a rule -/
def hostMay (host : ByteArray) : Bool := host.data.toList == [42] || namedB ⟨(Lib.trimPrefix host.data.toList [46]).toArray⟩
def mayB (allow : Bool) (host : ByteArray) (low high : Int) (ms : List ByteArray) : Bool :=
  hostMay host && (decide (1 ≤ low) && decide (low ≤ high) && decide (high ≤ 65535)) && decide (ms.length ≤ 8) && ms.all tokenB
theorem trim_size (host : ByteArray) : (⟨(Lib.trimPrefix host.data.toList [46]).toArray⟩ : ByteArray).size ≤ host.size := by
  show (Lib.trimPrefix host.data.toList [46]).toArray.size ≤ _
  rw [List.size_toArray, ← size_toList host]
  unfold Lib.trimPrefix
  split
  · rw [List.length_drop]; omega
  · exact Nat.le_refl _
set_option maxHeartbeats 4000000 in
theorem may_any (allow : Bool) (host : ByteArray) (low high : Int) (A : Option Addr) (c : Nat) (ms : List ByteArray) (w : World) (hg : Glob w) (hh : host.size < 4294967281)
    (hs : ∀ x ∈ ms, x.size ≤ 281474976710656) (hbig : ms.length ≤ 9223372036854775807)
    (hc : 0 < ms.length → ∃ b off, A = some ⟨b, off, none⟩ ∧ ∀ j, j < ms.length → w.cell? ⟨b, off + j, none⟩ = some (.string (ms.getD j ByteArray.empty))) :
    Calls Tryd.prog 12 #[.agg #[.bool allow, .string host, .int .i64 low, .int .i64 high, .slice A ms.length c]] w fun e w' => e = .returned (.bool (mayB allow host low high ms)) ∧ Below w.heap.size w w' := by
  have HMET := Lib.hid (fun (W : World) (hb : Below w.heap.size w W) => contains_string_any 33 #[] (fun s => !tokenB s) _ fn_may_1 A c ms W (may_1 W) hs hbig (fun h0 => by
    obtain ⟨b, off, e, hc⟩ := hc h0
    exact ⟨b, off, e, fun j hj => (hb.cell (World.block_lt_of_cell? w _ (hc j hj))).trans (hc j hj)⟩))
  have HTR := Lib.hid (Tryd.strings_TrimPrefix host ⟨#[46]⟩)
  have HNM := Lib.hid (fun (W : World) (hb : Below w.heap.size w W) => named_any ⟨(Lib.trimPrefix host.data.toList [46]).toArray⟩ W (by have := trim_size host; omega) (hg.below hb))
  have HM : Hid (mayB allow host low high ms = (hostMay host && (decide (1 ≤ low) && decide (low ≤ high) && decide (high ≤ 65535)) && decide (ms.length ≤ 8) && !(ms.any fun s => !tokenB s))) := Lib.hid (by
    unfold mayB
    congr 1
    rw [List.not_any_eq_all_not]
    simp)
  have HH : Hid (hostMay host = (host.toList == [42] || namedB ⟨(Lib.trimPrefix host.data.toList [46]).toArray⟩)) := Lib.hid (by unfold hostMay; rw [Lib.toList_data])
  generalize hr : (ms.any fun s => !tokenB s) = r at HMET HM
  generalize hN : namedB ⟨(Lib.trimPrefix host.data.toList [46]).toArray⟩ = N at HNM HH
  clear hr hN hs hc hg
  cases h42 : host.toList == [42] with
  | true =>
    rw [h42] at HH
    have h42b : host.toList = [42] := by simpa using h42
    cases r with
    | _ =>
      go_enter Tryd.func12, Tryd.ntmps12
      go_wp2_with (go_at_call 32; refine (HMET.out _ (by first | exact below_alc (Below.refl _ _) _ | exact Below.refl _ _)).mono ?_; rintro e w1 ⟨rfl, hb1⟩)
      all_goals
        go_ret
        refine ⟨ret_bool ?_, ?_⟩
        · rw [HM.out, HH.out, Bool.eq_iff_iff]
          simp only [Bool.or_eq_true, Bool.and_eq_true, decide_eq_true_eq, true_iff, Bool.not_eq_true', decide_eq_false_iff_not, Bool.false_eq_true, false_iff, Bool.not_true, Bool.not_false, true_or, true_and, and_true, and_false, iff_false]
          try omega
        · first
          | exact below_next (below_alc (Below.refl _ _) _) hb1
          | exact below_alc (Below.refl _ _) _
          | exact hb1
          | exact Below.refl _ _
  | false =>
    rw [h42] at HH
    have h42b : ¬ (host.toList = [42]) := by simpa using h42
    cases N with
    | _ =>
      cases r with
      | _ =>
        go_enter Tryd.func12, Tryd.ntmps12
        go_wp2_with (first
          | (go_at_call 31; refine (HTR.out _).mono ?_; rintro e w1 ⟨rfl, rfl⟩)
          | (go_at_call 29; refine (HNM.out _ (by first | exact below_alc (Below.refl _ _) _ | exact Below.refl _ _)).mono ?_; rintro e w1 ⟨rfl, hb0⟩; have HB0 := Lib.hid (below_next (below_alc (Below.refl _ _) _) hb0); have hc2 : w1.cell? ⟨w.heap.size, 2, none⟩ = some (.int .i64 low) := (hb0.cell (p := ⟨w.heap.size, 2, none⟩) (by simp)).trans (World.cell?_alloc_new _ _ _ _); have hc3 : w1.cell? ⟨w.heap.size, 3, none⟩ = some (.int .i64 high) := (hb0.cell (p := ⟨w.heap.size, 3, none⟩) (by simp)).trans (World.cell?_alloc_new _ _ _ _); have hc4 : w1.cell? ⟨w.heap.size, 4, none⟩ = some (.slice A ms.length c) := (hb0.cell (p := ⟨w.heap.size, 4, none⟩) (by simp)).trans (World.cell?_alloc_new _ _ _ _); clear hb0)
          | (go_at_call 32; refine (HMET.out _ HB0.out).mono ?_; rintro e w2 ⟨rfl, hb1⟩))
        all_goals
          go_ret
          refine ⟨ret_bool ?_, ?_⟩
          · rw [HM.out, HH.out, Bool.eq_iff_iff]
            simp only [Bool.or_eq_true, Bool.and_eq_true, decide_eq_true_eq, true_iff, Bool.not_eq_true', decide_eq_false_iff_not, Bool.false_eq_true, false_iff, Bool.not_true, Bool.not_false, true_or, true_and, and_true, and_false, iff_false, or_false, false_or, false_and]
            try omega
          · first
            | exact below_next HB0.out hb1
            | exact HB0.out
end Go.Proofs.YtjdlaofeenblkaaDoor.T
