/- A part of the proof of the law UriBack: contracts of functions that it reaches, and plain lemmas. -/
import Derived.Test.YtjdlaofeenblkaaDoorMUriBack1
import Derived.Test.YtjdlaofeenblkaaDoorMUriBack2
import Derived.Lib.ItoaLen
-- PRINTED by print.py (a twelfth state) out of the translation. Not trusted: Lean checks it.
namespace Go.Proofs.YtjdlaofeenblkaaDoor.X
open Go.RowKit Go.Proofs.YtjdlaofeenblkaaDoorW.PrintWords Go.Proofs.YtjdlaofeenblkaaDoorW.PrintLast Go.Proofs.YtjdlaofeenblkaaDoorW.PrintMore
attribute [local go_sem] max2_int min2_int max_two min_two max_three min_three max_four min_four   -- for this text's walks alone
set_option linter.unusedVariables false
set_option linter.unusedSimpArgs false
open Go.Proofs.YtjdlaofeenblkaaDoor.T

/-! ### uri_Parse: function 23 -/
def uri_Parse.j0 : Nat → ByteArray → ByteArray → Int → ByteArray → Option (ByteArray × Int × ByteArray × Int)
  | 0, _, _, _, _ => none
  | k + 1, x5, x275000, x275001, x275002 => (strings_Cut.f x5 (⟨#[58]⟩ : ByteArray)).bind fun bt276 => ((text_Lower.f bt276.1).bind fun t279 => (if bt276.2.2 = true then ((uri_port.f bt276.2.1).bind fun t280 => ((uri_checked.f t279 t280 x275002).bind fun bt281 => (some (bt281.1, bt281.2.1, bt281.2.2.1, bt281.2.2.2)))) else ((uri_checked.f t279 x275001 x275002).bind fun bt285 => (some (bt285.1, bt285.2.1, bt285.2.2.1, bt285.2.2.2)))))
def uri_Parse.f (k : Nat) (a0 : ByteArray) : Option (ByteArray × Int × ByteArray × Int) := if 0 ≤ (mn (a0.size : Int) 7) then (if (mn (a0.size : Int) 7) ≤ (a0.size : Int) then ((text_Lower.f (a0.extract 0 ((mn (a0.size : Int) 7) : Int).toNat)).bind fun t273 => (if t273.toList = ([104, 116, 116, 112, 58, 47, 47] : List UInt8) then ((strings_IndexAny.f (a0.extract ((mn (a0.size : Int) 7) : Int).toNat a0.size) (⟨#[47, 63]⟩ : ByteArray)).bind fun t275 => (if t275 ≥ 0 then (if 0 ≤ t275 then (if t275 ≤ ((a0.extract ((mn (a0.size : Int) 7) : Int).toNat a0.size).size : Int) then (if 0 < (((a0.extract ((mn (a0.size : Int) 7) : Int).toNat a0.size).extract (t275 : Int).toNat (a0.extract ((mn (a0.size : Int) 7) : Int).toNat a0.size).size).size : Int) then (if (bt ((a0.extract ((mn (a0.size : Int) 7) : Int).toNat a0.size).extract (t275 : Int).toNat (a0.extract ((mn (a0.size : Int) 7) : Int).toNat a0.size).size) 0) = 63 then (if 1 + ((a0.extract ((mn (a0.size : Int) 7) : Int).toNat a0.size).extract (t275 : Int).toNat (a0.extract ((mn (a0.size : Int) 7) : Int).toNat a0.size).size).size ≤ 9223372036854775807 then (uri_Parse.j0 k ((a0.extract ((mn (a0.size : Int) 7) : Int).toNat a0.size).extract 0 (t275 : Int).toNat) (⟨#[]⟩ : ByteArray) 80 ((⟨#[47]⟩ : ByteArray) ++ ((a0.extract ((mn (a0.size : Int) 7) : Int).toNat a0.size).extract (t275 : Int).toNat (a0.extract ((mn (a0.size : Int) 7) : Int).toNat a0.size).size))) else (none)) else (uri_Parse.j0 k ((a0.extract ((mn (a0.size : Int) 7) : Int).toNat a0.size).extract 0 (t275 : Int).toNat) (⟨#[]⟩ : ByteArray) 80 ((a0.extract ((mn (a0.size : Int) 7) : Int).toNat a0.size).extract (t275 : Int).toNat (a0.extract ((mn (a0.size : Int) 7) : Int).toNat a0.size).size))) else (none)) else (none)) else (none)) else (uri_Parse.j0 k (a0.extract ((mn (a0.size : Int) 7) : Int).toNat a0.size) (⟨#[]⟩ : ByteArray) 80 (⟨#[47]⟩ : ByteArray)))) else (some ((⟨#[]⟩ : ByteArray), 0, (⟨#[]⟩ : ByteArray), 23)))) else (none)) else (none)
theorem uri_Parse.mono_l : ∀ k, (∀ y0 y1 y2 y3, LeO (uri_Parse.j0 k y0 y1 y2 y3) (uri_Parse.j0 (k + 1) y0 y1 y2 y3))
  | 0 => fun _ _ _ _ r h => by simp [uri_Parse.j0] at h
  | k + 1 => by
    have ih0 := uri_Parse.mono_l k
    · intro y0 y1 y2 y3
      unfold uri_Parse.j0
      repeat' first
      | (with_reducible exact ih0 _ _ _ _)
      | (with_reducible exact LeO.refl _)
      | (with_reducible exact LeO.none _)
      | (with_reducible refine LeO.ite ?_ ?_)
      | (with_reducible refine LeO.bind ?_ (fun _ => ?_))
      | exact ih0 _ _ _ _
      | exact LeO.none _
      | refine LeO.ite ?_ ?_
      | refine LeO.bind ?_ (fun _ => ?_)
theorem uri_Parse.mono : ∀ a0 k, LeO (uri_Parse.f k a0) (uri_Parse.f (k + 1) a0) := by
  intro a0 k
  have ih0 := uri_Parse.mono_l k
  unfold uri_Parse.f
  repeat' first
      | (with_reducible exact ih0 _ _ _ _)
      | (with_reducible exact LeO.refl _)
      | (with_reducible exact LeO.none _)
      | (with_reducible refine LeO.ite ?_ ?_)
      | (with_reducible refine LeO.bind ?_ (fun _ => ?_))
      | exact ih0 _ _ _ _
      | exact LeO.none _
      | refine LeO.ite ?_ ?_
      | refine LeO.bind ?_ (fun _ => ?_)
def uri_Parse.T8 : Bool × List (List Nat × List Nat) := (true, [([], []), ([], []), ([0, 1], [0, 1]), ([], []), ([], []), ([3, 4], [3, 4]), ([0, 1, 2], []), ([6, 2, 0, 1, 2], [2, 6]), ([5, 7, 0, 1, 2, 3, 4, 5, 6, 7], [0, 3, 5])])
def uri_Parse.B8 : List Nat := [0, 0, 3, 0, 0, 24, 7, 71, 255]
theorem uri_Parse.tab8 : rtab .any (opsOf Tryd.f23 8) = uri_Parse.T8 := by kernel_rfl
theorem uri_Parse.bits8 : waitsOk uri_Parse.T8.2 uri_Parse.B8 = true := by kernel_rfl
set_option maxHeartbeats 8000000 in
set_option maxRecDepth 100000 in
theorem uri_Parse.calls (k : Nat) (a0 : ByteArray) (r1 : ByteArray) (r2 : Int) (r3 : ByteArray) (r4 : Int) (w : World) (HGg : Glob w) (h : uri_Parse.f k a0 = some (r1, r2, r3, r4)) :
    Calls Tryd.prog 23 #[.string a0] w fun e w' => e = .returned (.tuple #[.agg #[.string r1, .int .i64 r2, .string r3], .int .i64 r4]) ∧ Below w.heap.size w w' := by
  have hu35 := Tryd.underlying35
  have HGl := Aside0.mk HGg
  clear HGg
  have HB := Aside0.mk (Below.refl w.heap.size w)
  have H : (if 0 ≤ (mn (a0.size : Int) 7) then (if (mn (a0.size : Int) 7) ≤ (a0.size : Int) then ((text_Lower.f (a0.extract 0 ((mn (a0.size : Int) 7) : Int).toNat)).bind fun t273 => (if t273.toList = ([104, 116, 116, 112, 58, 47, 47] : List UInt8) then ((strings_IndexAny.f (a0.extract ((mn (a0.size : Int) 7) : Int).toNat a0.size) (⟨#[47, 63]⟩ : ByteArray)).bind fun t275 => (if t275 ≥ 0 then (if 0 ≤ t275 then (if t275 ≤ ((a0.extract ((mn (a0.size : Int) 7) : Int).toNat a0.size).size : Int) then (if 0 < (((a0.extract ((mn (a0.size : Int) 7) : Int).toNat a0.size).extract (t275 : Int).toNat (a0.extract ((mn (a0.size : Int) 7) : Int).toNat a0.size).size).size : Int) then (if (bt ((a0.extract ((mn (a0.size : Int) 7) : Int).toNat a0.size).extract (t275 : Int).toNat (a0.extract ((mn (a0.size : Int) 7) : Int).toNat a0.size).size) 0) = 63 then (if 1 + ((a0.extract ((mn (a0.size : Int) 7) : Int).toNat a0.size).extract (t275 : Int).toNat (a0.extract ((mn (a0.size : Int) 7) : Int).toNat a0.size).size).size ≤ 9223372036854775807 then (uri_Parse.j0 k ((a0.extract ((mn (a0.size : Int) 7) : Int).toNat a0.size).extract 0 (t275 : Int).toNat) (⟨#[]⟩ : ByteArray) 80 ((⟨#[47]⟩ : ByteArray) ++ ((a0.extract ((mn (a0.size : Int) 7) : Int).toNat a0.size).extract (t275 : Int).toNat (a0.extract ((mn (a0.size : Int) 7) : Int).toNat a0.size).size))) else (none)) else (uri_Parse.j0 k ((a0.extract ((mn (a0.size : Int) 7) : Int).toNat a0.size).extract 0 (t275 : Int).toNat) (⟨#[]⟩ : ByteArray) 80 ((a0.extract ((mn (a0.size : Int) 7) : Int).toNat a0.size).extract (t275 : Int).toNat (a0.extract ((mn (a0.size : Int) 7) : Int).toNat a0.size).size))) else (none)) else (none)) else (none)) else (uri_Parse.j0 k (a0.extract ((mn (a0.size : Int) 7) : Int).toNat a0.size) (⟨#[]⟩ : ByteArray) 80 (⟨#[47]⟩ : ByteArray)))) else (some ((⟨#[]⟩ : ByteArray), 0, (⟨#[]⟩ : ByteArray), 23)))) else (none)) else (none)) = some (r1, r2, r3, r4) := h
  clear h
  obtain ⟨ji2, hji2⟩ : ∃ j_ : Int, (mn (a0.size : Int) 7) = j_ := ⟨_, rfl⟩
  replace H : (if 0 ≤ (ji2) then (if (ji2) ≤ (a0.size : Int) then ((text_Lower.f (a0.extract 0 ((ji2) : Int).toNat)).bind fun t273 => (if t273.toList = ([104, 116, 116, 112, 58, 47, 47] : List UInt8) then ((strings_IndexAny.f (a0.extract ((ji2) : Int).toNat a0.size) (⟨#[47, 63]⟩ : ByteArray)).bind fun t275 => (if t275 ≥ 0 then (if 0 ≤ t275 then (if t275 ≤ ((a0.extract ((ji2) : Int).toNat a0.size).size : Int) then (if 0 < (((a0.extract ((ji2) : Int).toNat a0.size).extract (t275 : Int).toNat (a0.extract ((ji2) : Int).toNat a0.size).size).size : Int) then (if (bt ((a0.extract ((ji2) : Int).toNat a0.size).extract (t275 : Int).toNat (a0.extract ((ji2) : Int).toNat a0.size).size) 0) = 63 then (if 1 + ((a0.extract ((ji2) : Int).toNat a0.size).extract (t275 : Int).toNat (a0.extract ((ji2) : Int).toNat a0.size).size).size ≤ 9223372036854775807 then (uri_Parse.j0 k ((a0.extract ((ji2) : Int).toNat a0.size).extract 0 (t275 : Int).toNat) (⟨#[]⟩ : ByteArray) 80 ((⟨#[47]⟩ : ByteArray) ++ ((a0.extract ((ji2) : Int).toNat a0.size).extract (t275 : Int).toNat (a0.extract ((ji2) : Int).toNat a0.size).size))) else (none)) else (uri_Parse.j0 k ((a0.extract ((ji2) : Int).toNat a0.size).extract 0 (t275 : Int).toNat) (⟨#[]⟩ : ByteArray) 80 ((a0.extract ((ji2) : Int).toNat a0.size).extract (t275 : Int).toNat (a0.extract ((ji2) : Int).toNat a0.size).size))) else (none)) else (none)) else (none)) else (uri_Parse.j0 k (a0.extract ((ji2) : Int).toNat a0.size) (⟨#[]⟩ : ByteArray) 80 (⟨#[47]⟩ : ByteArray)))) else (some ((⟨#[]⟩ : ByteArray), 0, (⟨#[]⟩ : ByteArray), 23)))) else (none)) else (none)) = some (r1, r2, r3, r4) := by first | (rw [hji2] at H; exact H) | (simp only [hji2] at H ⊢; exact H)
  (try (have hji2h : ji2 ≤ 7 := by (rw [← hji2]; unfold mn; (repeat' split) <;> omega)))
  (try (have hji2g : ji2 ≤ 64 := by omega))
  (try (have hji2l : 0 ≤ ji2 := by (rw [← hji2]; unfold mn; (repeat' split) <;> omega)))
  (try (have hji2m : 0 ≤ ji2 := by omega))
  have hji2_ : (if 7 < (a0.size : Int) then 7 else (a0.size : Int)) = ji2 := hji2
  by_cases c3 : 0 ≤ (ji2)
  · rw [if_pos c3] at H
    have c3b0 := eq_true c3
    have c3b1 : decide (0 ≤ (ji2)) = true := decide_eq_true c3
    clear c3
    by_cases c4 : (ji2) ≤ (a0.size : Int)
    · rw [if_pos c4] at H
      have c4b0 := eq_true c4
      have c4b1 : decide ((ji2) ≤ (a0.size : Int)) = true := decide_eq_true c4
      clear c4
      replace H := Option.bind_eq_some_iff.mp H
      obtain ⟨t273, A50, H⟩ := H
      replace H : (if t273.toList = ([104, 116, 116, 112, 58, 47, 47] : List UInt8) then ((strings_IndexAny.f (a0.extract ((ji2) : Int).toNat a0.size) (⟨#[47, 63]⟩ : ByteArray)).bind fun t275 => (if t275 ≥ 0 then (if 0 ≤ t275 then (if t275 ≤ ((a0.extract ((ji2) : Int).toNat a0.size).size : Int) then (if 0 < (((a0.extract ((ji2) : Int).toNat a0.size).extract (t275 : Int).toNat (a0.extract ((ji2) : Int).toNat a0.size).size).size : Int) then (if (bt ((a0.extract ((ji2) : Int).toNat a0.size).extract (t275 : Int).toNat (a0.extract ((ji2) : Int).toNat a0.size).size) 0) = 63 then (if 1 + ((a0.extract ((ji2) : Int).toNat a0.size).extract (t275 : Int).toNat (a0.extract ((ji2) : Int).toNat a0.size).size).size ≤ 9223372036854775807 then (uri_Parse.j0 k ((a0.extract ((ji2) : Int).toNat a0.size).extract 0 (t275 : Int).toNat) (⟨#[]⟩ : ByteArray) 80 ((⟨#[47]⟩ : ByteArray) ++ ((a0.extract ((ji2) : Int).toNat a0.size).extract (t275 : Int).toNat (a0.extract ((ji2) : Int).toNat a0.size).size))) else (none)) else (uri_Parse.j0 k ((a0.extract ((ji2) : Int).toNat a0.size).extract 0 (t275 : Int).toNat) (⟨#[]⟩ : ByteArray) 80 ((a0.extract ((ji2) : Int).toNat a0.size).extract (t275 : Int).toNat (a0.extract ((ji2) : Int).toNat a0.size).size))) else (none)) else (none)) else (none)) else (uri_Parse.j0 k (a0.extract ((ji2) : Int).toNat a0.size) (⟨#[]⟩ : ByteArray) 80 (⟨#[47]⟩ : ByteArray)))) else (some ((⟨#[]⟩ : ByteArray), 0, (⟨#[]⟩ : ByteArray), 23))) = some (r1, r2, r3, r4) := H
      have A5 := Aside0.mk A50
      clear A50
      by_cases c6 : t273.toList = ([104, 116, 116, 112, 58, 47, 47] : List UInt8)
      · rw [if_pos c6] at H
        have c6b0 : (t273.toList == ([104, 116, 116, 112, 58, 47, 47] : List UInt8)) = true := beq_iff_eq.mpr c6
        have c6b1 : (t273.toList != ([104, 116, 116, 112, 58, 47, 47] : List UInt8)) = false := bne_eq_false_iff_eq.mpr c6
        clear c6
        have c7b0 := eq_true (of_decide_eq_true (by first | (with_reducible assumption) | assumption) : 0 ≤ (ji2))
        have c8b0 := eq_true (of_decide_eq_true (by first | (with_reducible assumption) | assumption) : (ji2) ≤ (a0.size : Int))
        replace H := Option.bind_eq_some_iff.mp H
        obtain ⟨t275, A90, H⟩ := H
        replace H : (if t275 ≥ 0 then (if 0 ≤ t275 then (if t275 ≤ ((a0.extract ((ji2) : Int).toNat a0.size).size : Int) then (if 0 < (((a0.extract ((ji2) : Int).toNat a0.size).extract (t275 : Int).toNat (a0.extract ((ji2) : Int).toNat a0.size).size).size : Int) then (if (bt ((a0.extract ((ji2) : Int).toNat a0.size).extract (t275 : Int).toNat (a0.extract ((ji2) : Int).toNat a0.size).size) 0) = 63 then (if 1 + ((a0.extract ((ji2) : Int).toNat a0.size).extract (t275 : Int).toNat (a0.extract ((ji2) : Int).toNat a0.size).size).size ≤ 9223372036854775807 then (uri_Parse.j0 k ((a0.extract ((ji2) : Int).toNat a0.size).extract 0 (t275 : Int).toNat) (⟨#[]⟩ : ByteArray) 80 ((⟨#[47]⟩ : ByteArray) ++ ((a0.extract ((ji2) : Int).toNat a0.size).extract (t275 : Int).toNat (a0.extract ((ji2) : Int).toNat a0.size).size))) else (none)) else (uri_Parse.j0 k ((a0.extract ((ji2) : Int).toNat a0.size).extract 0 (t275 : Int).toNat) (⟨#[]⟩ : ByteArray) 80 ((a0.extract ((ji2) : Int).toNat a0.size).extract (t275 : Int).toNat (a0.extract ((ji2) : Int).toNat a0.size).size))) else (none)) else (none)) else (none)) else (uri_Parse.j0 k (a0.extract ((ji2) : Int).toNat a0.size) (⟨#[]⟩ : ByteArray) 80 (⟨#[47]⟩ : ByteArray))) = some (r1, r2, r3, r4) := H
        have A9 := Aside0.mk A90
        clear A90
        have HC10 := Aside0.mk H
        clear H
        go_enter Tryd.func23, Tryd.ntmps23
        go_upto_if 27 with (first | ((with_reducible refine gate_dst (N := 2) rfl ?_); refine box_event ?hg (N := 2) ?hd (cs := #[.string (⟨#[]⟩ : ByteArray), .int .i64 0, .string (⟨#[]⟩ : ByteArray)]) (t := 35) ?hr ?_; (case hd => rfl); (case hg => rfl); (case hr => first | (go_simp; done) | (go_simp; rfl)); intro gb272 hg w11 hbox hb; have n0_ := Aside0.mk (below_step (by repeat (first | (with_reducible first | exact HB.out | apply below_alloc | apply pw_below_drewN | apply below_drew1) | exact HB.out)) hb); have n1_ := Aside0.mk (hbox); have n2_ := Aside0.mk ((by rw [hg]; exact (below_size (by repeat (first | (with_reducible first | exact HB.out | apply below_alloc | apply pw_below_drewN | apply below_drew1) | exact HB.out))) : w.heap.size ≤ gb272)); have n3_ := Aside0.mk ((by rw [hg]; exact (below_size (by repeat (first | (with_reducible first | exact HB.out | apply below_alloc | apply pw_below_drewN | apply below_drew1) | exact HB.out))) : w.heap.size ≤ gb272)); clear HB; have HB := n0_; have BK272 := n1_; have GW272 := n2_; have GE272 := n3_; clear n0_ n1_ n2_ n3_; clear hb hbox hg) | ((with_reducible refine gate_callee (f := 27) rfl ?_); refine goesL_ (some 17) rfl rfl Tryd.func27 (by kernel_rfl) rfl #[.string (a0.extract 0 ((ji2) : Int).toNat)] rfl (by (try simp only [List.map_toArray, List.map_cons, List.map_nil]); first | done | (simp only [hji2]; rfl) | rfl | (simp only [List.length_drop, List.length_take]; rfl)) ?_; (with_reducible refine (text_Lower.calls (a0.extract 0 ((ji2) : Int).toNat) t273 _ (Glob.below HGl.out (by repeat (first | (with_reducible first | exact HB.out | apply below_alloc | apply pw_below_drewN | apply below_drew1 | refine below_set ?_ GE272.out) | exact HB.out))) A5.out).mono ?_); rintro e w12 ⟨rfl, hb⟩; refine ⟨_, rfl, ?_⟩; have n0_ := Aside0.mk (blk_below (g := gb272) (o := .cells #[.string (⟨#[]⟩ : ByteArray), .int .i64 0, .string (⟨#[]⟩ : ByteArray)] 35 (0, 0)) (by (with_reducible repeat (first | refine blk_drewN ?_ _ | refine blk_drew ?_ | refine blk_alloc ?_ _)); exact BK272.out) hb); have n1_ := Aside0.mk (below_step (by repeat (first | (with_reducible first | exact HB.out | apply below_alloc | apply pw_below_drewN | apply below_drew1 | refine below_set ?_ GE272.out) | exact HB.out)) hb); clear BK272; clear HB; have BK272 := n0_; have HB := n1_; clear n0_ n1_; (try clear hb); (try clear hb2); (try clear hk); (try clear hi)) | ((with_reducible refine gate_dst (N := 6) rfl ?_); refine box_event ?hg (N := 6) ?hd (cs := #[.string (⟨#[]⟩ : ByteArray), .int .i64 0, .string (⟨#[]⟩ : ByteArray)]) (t := 35) ?hr ?_; (case hd => rfl); (case hg => rfl); (case hr => first | (go_simp; done) | (go_simp; rfl)); intro gb274 hg w13 hbox hb; have n0_ := Aside0.mk (blk_below (g := gb272) (o := .cells #[.string (⟨#[]⟩ : ByteArray), .int .i64 0, .string (⟨#[]⟩ : ByteArray)] 35 (0, 0)) (by (with_reducible repeat (first | refine blk_drewN ?_ _ | refine blk_drew ?_ | refine blk_alloc ?_ _)); exact BK272.out) hb); have n1_ := Aside0.mk (below_step (by repeat (first | (with_reducible first | exact HB.out | apply below_alloc | apply pw_below_drewN | apply below_drew1 | refine below_set ?_ GE272.out) | exact HB.out)) hb); have n2_ := Aside0.mk (hbox); have n3_ := Aside0.mk ((by rw [hg]; exact (below_size (by repeat (first | (with_reducible first | exact HB.out | apply below_alloc | apply pw_below_drewN | apply below_drew1 | refine below_set ?_ GE272.out) | exact HB.out))) : w.heap.size ≤ gb274)); have n4_ := Aside0.mk ((by rw [hg]; exact (below_size (by repeat (first | (with_reducible first | exact HB.out | apply below_alloc | apply pw_below_drewN | apply below_drew1 | refine below_set ?_ GE272.out) | exact HB.out))) : w.heap.size ≤ gb274)); have n5_ := Aside0.mk ((by rw [hg]; exact Nat.ne_of_lt (blk_lt (g := gb272) (o := .cells #[.string (⟨#[]⟩ : ByteArray), .int .i64 0, .string (⟨#[]⟩ : ByteArray)] 35 (0, 0)) (by (with_reducible repeat (first | refine blk_drewN ?_ _ | refine blk_drew ?_ | refine blk_alloc ?_ _)); exact BK272.out)) : gb272 ≠ gb274)); have n6_ := Aside0.mk ((by rw [hg]; exact Nat.ne_of_gt (blk_lt (g := gb272) (o := .cells #[.string (⟨#[]⟩ : ByteArray), .int .i64 0, .string (⟨#[]⟩ : ByteArray)] 35 (0, 0)) (by (with_reducible repeat (first | refine blk_drewN ?_ _ | refine blk_drew ?_ | refine blk_alloc ?_ _)); exact BK272.out)) : gb274 ≠ gb272)); clear BK272; clear HB; have BK272 := n0_; have HB := n1_; have BK274 := n2_; have GW274 := n3_; have GE274 := n4_; have NB272_274 := n5_; have NB274_272 := n6_; clear n0_ n1_ n2_ n3_ n4_ n5_ n6_; clear hb hbox hg; have hnb14 := NB274_272.out; have hnc14 := NB272_274.out; have hcz15_0 : w13.cell? ⟨gb274, 0, none⟩ = some (.string (⟨#[]⟩ : ByteArray)) := (blk_cell BK274.out 0).trans rfl; have hcz15_1 : w13.cell? ⟨gb274, 1, none⟩ = some (.int .i64 0) := (blk_cell BK274.out 1).trans rfl; have hcz15_2 : w13.cell? ⟨gb274, 2, none⟩ = some (.string (⟨#[]⟩ : ByteArray)) := (blk_cell BK274.out 2).trans rfl; have hfz15_0 := blk_frozen BK274.out 0; have hfz15_1 := blk_frozen BK274.out 1; have hfz15_2 := blk_frozen BK274.out 2) | ((with_reducible refine gate_callee (f := 43) rfl ?_); refine goesL_ (some 25) rfl rfl Tryd.func43 (by kernel_rfl) rfl #[.string (a0.extract ((ji2) : Int).toNat a0.size), .string (⟨#[47, 63]⟩ : ByteArray)] rfl (by (try simp only [List.map_toArray, List.map_cons, List.map_nil]); first | done | (simp only [hji2]; rfl) | rfl | (simp only [List.length_drop, List.length_take]; rfl)) ?_; (with_reducible refine (strings_IndexAny.calls (a0.extract ((ji2) : Int).toNat a0.size) (⟨#[47, 63]⟩ : ByteArray) t275 _ (Glob.below HGl.out (by repeat (first | (with_reducible first | exact HB.out | apply below_alloc | apply pw_below_drewN | apply below_drew1 | refine below_set ?_ GE272.out | refine below_set ?_ GE274.out) | exact HB.out))) A9.out).mono ?_); rintro e w16 ⟨rfl, hb⟩; refine ⟨_, rfl, ?_⟩; have n0_ := Aside0.mk (blk_below (g := gb272) (o := .cells #[.string (⟨#[]⟩ : ByteArray), .int .i64 0, .string (⟨#[]⟩ : ByteArray)] 35 (0, 0)) (by (with_reducible repeat (first | refine blk_drewN ?_ _ | refine blk_drew ?_ | refine blk_alloc ?_ _)); refine blk_far ?_ NB272_274.out _; (with_reducible repeat (first | refine blk_drewN ?_ _ | refine blk_drew ?_ | refine blk_alloc ?_ _)); refine blk_far ?_ NB272_274.out _; (with_reducible repeat (first | refine blk_drewN ?_ _ | refine blk_drew ?_ | refine blk_alloc ?_ _)); refine blk_far ?_ NB272_274.out _; (with_reducible repeat (first | refine blk_drewN ?_ _ | refine blk_drew ?_ | refine blk_alloc ?_ _)); exact BK272.out) hb); have n1_ := Aside0.mk (blk_below (g := gb274) (o := .cells #[.string (⟨#[]⟩ : ByteArray), .int .i64 80, .string (⟨#[47]⟩ : ByteArray)] 35 (0, 0)) (by (with_reducible repeat (first | refine blk_drewN ?_ _ | refine blk_drew ?_ | refine blk_alloc ?_ _)); refine blk_put (cs := #[.string (⟨#[]⟩ : ByteArray), .int .i64 80, .string (⟨#[]⟩ : ByteArray)]) ?_ 2 _ rfl; (with_reducible repeat (first | refine blk_drewN ?_ _ | refine blk_drew ?_ | refine blk_alloc ?_ _)); refine blk_put (cs := #[.string (⟨#[]⟩ : ByteArray), .int .i64 0, .string (⟨#[]⟩ : ByteArray)]) ?_ 1 _ rfl; (with_reducible repeat (first | refine blk_drewN ?_ _ | refine blk_drew ?_ | refine blk_alloc ?_ _)); refine blk_put (cs := #[.string (⟨#[]⟩ : ByteArray), .int .i64 0, .string (⟨#[]⟩ : ByteArray)]) ?_ 0 _ rfl; (with_reducible repeat (first | refine blk_drewN ?_ _ | refine blk_drew ?_ | refine blk_alloc ?_ _)); exact BK274.out) hb); have n2_ := Aside0.mk (below_step (by repeat (first | (with_reducible first | exact HB.out | apply below_alloc | apply pw_below_drewN | apply below_drew1 | refine below_set ?_ GE272.out | refine below_set ?_ GE274.out) | exact HB.out)) hb); clear BK272; clear BK274; clear HB; have BK272 := n0_; have BK274 := n1_; have HB := n2_; clear n0_ n1_ n2_; (try clear hb); (try clear hb2); (try clear hk); (try clear hi)))
        (try simp only [Act.put, List.setIfInBounds_toArray, List.set_cons_zero, List.set_cons_succ])
        go_cut [5] (fun v5 wc => ∃ (kq : Nat) (x5_9 : ByteArray) (x275002_9 : ByteArray), v5 = .string x5_9 ∧ Aside0 (uri_Parse.j0 kq x5_9 (⟨#[]⟩ : ByteArray) 80 x275002_9 = some (r1, r2, r3, r4)) ∧ Aside0 (kq ≤ k) ∧ Aside0 (wc.heap[gb272]? = some (.cells #[.string (⟨#[]⟩ : ByteArray), .int .i64 0, .string (⟨#[]⟩ : ByteArray)] 35 (0, 0))) ∧ Aside0 (wc.heap[gb274]? = some (.cells #[.string (⟨#[]⟩ : ByteArray), .int .i64 80, .string x275002_9] 35 (0, 0))) ∧ Aside0 (Below w.heap.size w wc))
        case first =>
          have H := HC10.out
          clear HC10
          clear A9
          generalize a0.extract ((ji2) : Int).toNat a0.size = rest_ at H ⊢
          by_cases c17 : t275 ≥ 0
          · rw [if_pos c17] at H
            have c17b0 : decide (0 ≤ t275) = true := decide_eq_true c17
            clear c17
            (first | rw [c17b0] | (simp only [i64_w, i32_w]; rw [c17b0]) | skip)
            by_cases c18 : 0 ≤ t275
            · rw [if_pos c18] at H
              have c18b0 := eq_true c18
              have c18b1 : decide (0 ≤ t275) = true := decide_eq_true c18
              clear c18
              by_cases c19 : t275 ≤ (rest_.size : Int)
              · rw [if_pos c19] at H
                have c19b0 := eq_true c19
                have c19b1 : decide (t275 ≤ (rest_.size : Int)) = true := decide_eq_true c19
                clear c19
                have c20b0 := eq_true (of_decide_eq_true (by first | (with_reducible assumption) | assumption) : 0 ≤ t275)
                have c21b0 := eq_true (of_decide_eq_true (by first | (with_reducible assumption) | assumption) : t275 ≤ (rest_.size : Int))
                by_cases c22 : 0 < ((rest_.extract (t275 : Int).toNat rest_.size).size : Int)
                · rw [if_pos c22] at H
                  have c22b0 : decide (0 < ((rest_.extract (t275 : Int).toNat rest_.size).size : Int)) = true := decide_eq_true c22
                  have c22b1 : decide (0 < (rest_.extract (t275 : Int).toNat rest_.size).size) = true := decide_eq_true (by omega)
                  have c22n : (0 < rest_.size - (t275 : Int).toNat) = True := eq_true (by have hq_ := of_decide_eq_true c22b1; simp only [ByteArray.size_extract, Nat.min_self] at hq_; exact hq_)
                  clear c22
                  by_cases c24 : (bt (rest_.extract (t275 : Int).toNat rest_.size) 0) = 63
                  · rw [if_pos c24] at H
                    have c24b0 : ((bt (rest_.extract (t275 : Int).toNat rest_.size) 0) == 63) = true := beq_iff_eq.mpr c24
                    have c24b1 : ((bt (rest_.extract (t275 : Int).toNat rest_.size) 0) != 63) = false := bne_eq_false_iff_eq.mpr c24
                    clear c24
                    by_cases c25 : 1 + (rest_.extract (t275 : Int).toNat rest_.size).size ≤ 9223372036854775807
                    · rw [if_pos c25] at H
                      have c25b0 := eq_true c25
                      have c25b1 : decide (1 + (rest_.extract (t275 : Int).toNat rest_.size).size ≤ 9223372036854775807) = true := decide_eq_true c25
                      try have c25b2 : (9223372036854775807 < 1 + (rest_.extract (t275 : Int).toNat rest_.size).size) = False := eq_false (Nat.not_lt.2 c25)
                      have c25n : (9223372036854775807 < 1 + (rest_.size - (t275 : Int).toNat)) = False := eq_false (by have hq_ := c25; simp only [ByteArray.size_extract, Nat.min_self] at hq_; omega)
                      have H' := Aside0.mk H
                      clear H
                      try go_wp2
                      have n0_ := Aside0.mk (blk_drew BK272.out)
                      have n1_ := Aside0.mk (blk_drew BK274.out)
                      have n2_ := Aside0.mk (below_drew1 HB.out)
                      clear BK272
                      clear BK274
                      clear HB
                      have BK272 := n0_
                      have BK274 := n1_
                      have HB := n2_
                      clear n0_ n1_ n2_
                      refine start_ (n := 9) (S := fun w' => True) (ds := []) #[false, false, false, false, false, false, false, false, false] (by kernel_rfl) rfl rfl trivial (fun hHeld => ?_); refine with_tabW uri_Parse.tab8 uri_Parse.bits8 (fun HT_ HW_ => ?_)
                      generalize w16.drew = w26 at BK272 BK274 HB hHeld ⊢
                      refine pure_ (i := 0) (N := some 28) (v := ?_) (a' := ?_) #[true, false, false, false, false, false, false, false, false] rfl rfl (any_of HT_.out (by kernel_rfl)) (fun _ _ _ h => h) (Or.inl ⟨by rfl, ?_⟩) ?_ ?_
                      rotate_left
                      · intro w'
                        go_simp
                        with_reducible rfl
                      rotate_left
                      · simp only [Act.put, List.setIfInBounds_toArray, List.set_cons_zero, List.set_cons_succ, i64_w, i32_w]
                        rfl
                      refine pure_ (i := 1) (N := some 29) (v := ?_) (a' := ?_) #[true, true, false, false, false, false, false, false, false] rfl rfl (any_of HT_.out (by kernel_rfl)) (fun _ _ _ h => h) (Or.inl ⟨by rfl, ?_⟩) ?_ ?_
                      rotate_left
                      · intro w'
                        go_simp
                        with_reducible rfl
                      rotate_left
                      · simp only [Act.put, List.setIfInBounds_toArray, List.set_cons_zero, List.set_cons_succ, i64_w, i32_w]
                        rfl
                      refine pure_ (i := 2) (N := some 30) (v := ?_) (a' := ?_) #[true, true, true, false, false, false, false, false, false] rfl rfl (any_of HT_.out (by kernel_rfl)) (fun _ _ _ h => h) (Or.inl ⟨by rfl, ?_⟩) ?_ ?_
                      rotate_left
                      · intro w'
                        go_simp
                        with_reducible rfl
                      rotate_left
                      · simp only [Act.put, List.setIfInBounds_toArray, List.set_cons_zero, List.set_cons_succ, i64_w, i32_w]
                        rfl
                      refine pure_ (i := 3) (N := some 31) (v := ?_) (a' := ?_) #[true, true, true, true, false, false, false, false, false] rfl rfl (any_of HT_.out (by kernel_rfl)) (fun _ _ _ h => h) (Or.inl ⟨by rfl, ?_⟩) ?_ ?_
                      rotate_left
                      · intro w'
                        go_simp
                        with_reducible rfl
                      rotate_left
                      · simp only [Act.put, List.setIfInBounds_toArray, List.set_cons_zero, List.set_cons_succ, i64_w, i32_w]
                        rfl
                      refine pure_ (i := 4) (N := some 32) (v := ?_) (a' := ?_) #[true, true, true, true, true, false, false, false, false] rfl rfl (any_of HT_.out (by kernel_rfl)) (fun _ _ _ h => h) (Or.inl ⟨by rfl, ?_⟩) ?_ ?_
                      rotate_left
                      · intro w'
                        go_simp
                        with_reducible rfl
                      rotate_left
                      · simp only [Act.put, List.setIfInBounds_toArray, List.set_cons_zero, List.set_cons_succ, i64_w, i32_w]
                        rfl
                      refine pure_ (i := 5) (N := some 33) (v := ?_) (a' := ?_) #[true, true, true, true, true, true, false, false, false] rfl rfl (any_of HT_.out (by kernel_rfl)) (fun _ _ _ h => h) (Or.inl ⟨by rfl, ?_⟩) ?_ ?_
                      rotate_left
                      · intro w'
                        go_simp
                        with_reducible rfl
                      rotate_left
                      · simp only [Act.put, List.setIfInBounds_toArray, List.set_cons_zero, List.set_cons_succ, i64_w, i32_w]
                        rfl
                      refine pure_ (i := 6) (N := some 34) (v := ?_) (a' := ?_) #[true, true, true, true, true, true, true, false, false] rfl rfl (any_of HT_.out (by kernel_rfl)) (fun _ _ _ h => h) (Or.inl ⟨by rfl, ?_⟩) ?_ ?_
                      rotate_left
                      · intro w'
                        go_simp
                        with_reducible rfl
                      rotate_left
                      · simp only [Act.put, List.setIfInBounds_toArray, List.set_cons_zero, List.set_cons_succ, i64_w, i32_w]
                        rfl
                      refine one_ (i := 7) (N := none) #[true, true, true, true, true, true, true, true, false] rfl rfl (one_of HT_.out (by kernel_rfl)) (by decide) (fun K hK => ?_)
                      have hs27 : w26.cell? ⟨gb274, 2, none⟩ = some (.string (⟨#[47]⟩ : ByteArray)) := (blk_cell BK274.out 2).trans rfl
                      have hfs27 := blk_frozen BK274.out 2
                      have hns27_0 := NB272_274.out
                      have hms27_0 := NB274_272.out
                      refine skip_ (w1 := ?_) (by rfl) rfl ?_ ?_
                      rotate_left
                      · go_simp
                        rfl
                      refine hK.out _ _ trivial (fun hHeld => ?_)
                      clear hK K
                      refine pure_ (i := 8) (N := some 5) (v := ?_) (a' := ?_) #[true, true, true, true, true, true, true, true, true] rfl rfl (any_of HT_.out (by kernel_rfl)) (fun _ _ _ h => h) (Or.inl ⟨by rfl, ?_⟩) ?_ ?_
                      rotate_left
                      · intro w'
                        go_simp
                        with_reducible rfl
                      rotate_left
                      · simp only [Act.put, List.setIfInBounds_toArray, List.set_cons_zero, List.set_cons_succ, i64_w, i32_w]
                        rfl
                      refine done_ (done_of HT_.out (by kernel_rfl)) ?_
                      have hnb28 := NB274_272.out
                      have hnc28 := NB272_274.out
                      have hcz29_0 : w26.cell? ⟨gb274, 0, none⟩ = some (.string (⟨#[]⟩ : ByteArray)) := (blk_cell BK274.out 0).trans rfl
                      have hcz29_1 : w26.cell? ⟨gb274, 1, none⟩ = some (.int .i64 80) := (blk_cell BK274.out 1).trans rfl
                      have hcz29_2 : w26.cell? ⟨gb274, 2, none⟩ = some (.string (⟨#[47]⟩ : ByteArray)) := (blk_cell BK274.out 2).trans rfl
                      have hfz29_0 := blk_frozen BK274.out 0
                      have hfz29_1 := blk_frozen BK274.out 1
                      have hfz29_2 := blk_frozen BK274.out 2
                      have p23 : 0 ≤ (0 : Int) := (by omega)
                      have q23 : 0 < (rest_.extract (t275 : Int).toNat rest_.size).size := (by have : (0 : Int) < ((rest_.extract (t275 : Int).toNat rest_.size).size : Int) := of_decide_eq_true (by first | (with_reducible assumption) | assumption); omega)
                      have hx23 : ∀ h : 0 < (rest_.extract (t275 : Int).toNat rest_.size).size, (((rest_.extract (t275 : Int).toNat rest_.size)[0]'h).toNat : Int) = bt (rest_.extract (t275 : Int).toNat rest_.size) 0 := bt_at (rest_.extract (t275 : Int).toNat rest_.size) 0
                      clear p23
                      have qi23 : (0 < ((rest_.extract (t275 : Int).toNat rest_.size).size : Int)) = True := eq_true (of_decide_eq_true (by first | (with_reducible assumption) | assumption))
                      replace q23 := eq_true q23
                      try go_wp2
                      go_meet
                      case rel => exact ⟨_, (rest_.extract 0 (t275 : Int).toNat), ((⟨#[47]⟩ : ByteArray) ++ (rest_.extract (t275 : Int).toNat rest_.size)), (by first | rfl | (simp; done) | (simp only [← hji2] <;> (first | rfl | simp)) | (simp [*]; done)), H', ⟨by first | omega | exact Nat.le_refl _⟩, ⟨by (with_reducible repeat (first | refine blk_drewN ?_ _ | refine blk_drew ?_ | refine blk_alloc ?_ _)); refine blk_far ?_ NB272_274.out _; (with_reducible repeat (first | refine blk_drewN ?_ _ | refine blk_drew ?_ | refine blk_alloc ?_ _)); refine blk_far ?_ NB272_274.out _; (with_reducible repeat (first | refine blk_drewN ?_ _ | refine blk_drew ?_ | refine blk_alloc ?_ _)); exact BK272.out⟩, ⟨by (with_reducible repeat (first | refine blk_drewN ?_ _ | refine blk_drew ?_ | refine blk_alloc ?_ _)); refine blk_put (cs := #[.string (⟨#[]⟩ : ByteArray), .int .i64 80, .string (rest_.extract (t275 : Int).toNat rest_.size)]) ?_ 2 _ rfl; (with_reducible repeat (first | refine blk_drewN ?_ _ | refine blk_drew ?_ | refine blk_alloc ?_ _)); refine blk_put (cs := #[.string (⟨#[]⟩ : ByteArray), .int .i64 80, .string (⟨#[47]⟩ : ByteArray)]) ?_ 2 _ rfl; (with_reducible repeat (first | refine blk_drewN ?_ _ | refine blk_drew ?_ | refine blk_alloc ?_ _)); exact BK274.out⟩, ⟨by repeat (first | (with_reducible first | exact HB.out | apply below_alloc | apply pw_below_drewN | apply below_drew1 | refine below_set ?_ GE272.out | refine below_set ?_ GE274.out) | exact HB.out)⟩⟩
                    · rw [if_neg c25] at H
                      exact absurd H (by simp)
                  · rw [if_neg c24] at H
                    have c24b0 : ((bt (rest_.extract (t275 : Int).toNat rest_.size) 0) == 63) = false := beq_eq_false_iff_ne.mpr c24
                    have c24b1 : ((bt (rest_.extract (t275 : Int).toNat rest_.size) 0) != 63) = true := bne_iff_ne.mpr c24
                    have H' := Aside0.mk H
                    clear H
                    try go_wp2
                    have n0_ := Aside0.mk (blk_drew BK272.out)
                    have n1_ := Aside0.mk (blk_drew BK274.out)
                    have n2_ := Aside0.mk (below_drew1 HB.out)
                    clear BK272
                    clear BK274
                    clear HB
                    have BK272 := n0_
                    have BK274 := n1_
                    have HB := n2_
                    clear n0_ n1_ n2_
                    refine start_ (n := 9) (S := fun w' => True) (ds := []) #[false, false, false, false, false, false, false, false, false] (by kernel_rfl) rfl rfl trivial (fun hHeld => ?_); refine with_tabW uri_Parse.tab8 uri_Parse.bits8 (fun HT_ HW_ => ?_)
                    generalize w16.drew = w30 at BK272 BK274 HB hHeld ⊢
                    refine pure_ (i := 0) (N := some 28) (v := ?_) (a' := ?_) #[true, false, false, false, false, false, false, false, false] rfl rfl (any_of HT_.out (by kernel_rfl)) (fun _ _ _ h => h) (Or.inl ⟨by rfl, ?_⟩) ?_ ?_
                    rotate_left
                    · intro w'
                      go_simp
                      with_reducible rfl
                    rotate_left
                    · simp only [Act.put, List.setIfInBounds_toArray, List.set_cons_zero, List.set_cons_succ, i64_w, i32_w]
                      rfl
                    refine pure_ (i := 1) (N := some 29) (v := ?_) (a' := ?_) #[true, true, false, false, false, false, false, false, false] rfl rfl (any_of HT_.out (by kernel_rfl)) (fun _ _ _ h => h) (Or.inl ⟨by rfl, ?_⟩) ?_ ?_
                    rotate_left
                    · intro w'
                      go_simp
                      with_reducible rfl
                    rotate_left
                    · simp only [Act.put, List.setIfInBounds_toArray, List.set_cons_zero, List.set_cons_succ, i64_w, i32_w]
                      rfl
                    refine pure_ (i := 2) (N := some 30) (v := ?_) (a' := ?_) #[true, true, true, false, false, false, false, false, false] rfl rfl (any_of HT_.out (by kernel_rfl)) (fun _ _ _ h => h) (Or.inl ⟨by rfl, ?_⟩) ?_ ?_
                    rotate_left
                    · intro w'
                      go_simp
                      with_reducible rfl
                    rotate_left
                    · simp only [Act.put, List.setIfInBounds_toArray, List.set_cons_zero, List.set_cons_succ, i64_w, i32_w]
                      rfl
                    refine pure_ (i := 3) (N := some 31) (v := ?_) (a' := ?_) #[true, true, true, true, false, false, false, false, false] rfl rfl (any_of HT_.out (by kernel_rfl)) (fun _ _ _ h => h) (Or.inl ⟨by rfl, ?_⟩) ?_ ?_
                    rotate_left
                    · intro w'
                      go_simp
                      with_reducible rfl
                    rotate_left
                    · simp only [Act.put, List.setIfInBounds_toArray, List.set_cons_zero, List.set_cons_succ, i64_w, i32_w]
                      rfl
                    refine pure_ (i := 4) (N := some 32) (v := ?_) (a' := ?_) #[true, true, true, true, true, false, false, false, false] rfl rfl (any_of HT_.out (by kernel_rfl)) (fun _ _ _ h => h) (Or.inl ⟨by rfl, ?_⟩) ?_ ?_
                    rotate_left
                    · intro w'
                      go_simp
                      with_reducible rfl
                    rotate_left
                    · simp only [Act.put, List.setIfInBounds_toArray, List.set_cons_zero, List.set_cons_succ, i64_w, i32_w]
                      rfl
                    refine pure_ (i := 5) (N := some 33) (v := ?_) (a' := ?_) #[true, true, true, true, true, true, false, false, false] rfl rfl (any_of HT_.out (by kernel_rfl)) (fun _ _ _ h => h) (Or.inl ⟨by rfl, ?_⟩) ?_ ?_
                    rotate_left
                    · intro w'
                      go_simp
                      with_reducible rfl
                    rotate_left
                    · simp only [Act.put, List.setIfInBounds_toArray, List.set_cons_zero, List.set_cons_succ, i64_w, i32_w]
                      rfl
                    refine pure_ (i := 6) (N := some 34) (v := ?_) (a' := ?_) #[true, true, true, true, true, true, true, false, false] rfl rfl (any_of HT_.out (by kernel_rfl)) (fun _ _ _ h => h) (Or.inl ⟨by rfl, ?_⟩) ?_ ?_
                    rotate_left
                    · intro w'
                      go_simp
                      with_reducible rfl
                    rotate_left
                    · simp only [Act.put, List.setIfInBounds_toArray, List.set_cons_zero, List.set_cons_succ, i64_w, i32_w]
                      rfl
                    refine one_ (i := 7) (N := none) #[true, true, true, true, true, true, true, true, false] rfl rfl (one_of HT_.out (by kernel_rfl)) (by decide) (fun K hK => ?_)
                    have hs31 : w30.cell? ⟨gb274, 2, none⟩ = some (.string (⟨#[47]⟩ : ByteArray)) := (blk_cell BK274.out 2).trans rfl
                    have hfs31 := blk_frozen BK274.out 2
                    have hns31_0 := NB272_274.out
                    have hms31_0 := NB274_272.out
                    refine skip_ (w1 := ?_) (by rfl) rfl ?_ ?_
                    rotate_left
                    · go_simp
                      rfl
                    refine hK.out _ _ trivial (fun hHeld => ?_)
                    clear hK K
                    refine pure_ (i := 8) (N := some 5) (v := ?_) (a' := ?_) #[true, true, true, true, true, true, true, true, true] rfl rfl (any_of HT_.out (by kernel_rfl)) (fun _ _ _ h => h) (Or.inl ⟨by rfl, ?_⟩) ?_ ?_
                    rotate_left
                    · intro w'
                      go_simp
                      with_reducible rfl
                    rotate_left
                    · simp only [Act.put, List.setIfInBounds_toArray, List.set_cons_zero, List.set_cons_succ, i64_w, i32_w]
                      rfl
                    refine done_ (done_of HT_.out (by kernel_rfl)) ?_
                    have hnb32 := NB274_272.out
                    have hnc32 := NB272_274.out
                    have hcz33_0 : w30.cell? ⟨gb274, 0, none⟩ = some (.string (⟨#[]⟩ : ByteArray)) := (blk_cell BK274.out 0).trans rfl
                    have hcz33_1 : w30.cell? ⟨gb274, 1, none⟩ = some (.int .i64 80) := (blk_cell BK274.out 1).trans rfl
                    have hcz33_2 : w30.cell? ⟨gb274, 2, none⟩ = some (.string (⟨#[47]⟩ : ByteArray)) := (blk_cell BK274.out 2).trans rfl
                    have hfz33_0 := blk_frozen BK274.out 0
                    have hfz33_1 := blk_frozen BK274.out 1
                    have hfz33_2 := blk_frozen BK274.out 2
                    have p23 : 0 ≤ (0 : Int) := (by omega)
                    have q23 : 0 < (rest_.extract (t275 : Int).toNat rest_.size).size := (by have : (0 : Int) < ((rest_.extract (t275 : Int).toNat rest_.size).size : Int) := of_decide_eq_true (by first | (with_reducible assumption) | assumption); omega)
                    have hx23 : ∀ h : 0 < (rest_.extract (t275 : Int).toNat rest_.size).size, (((rest_.extract (t275 : Int).toNat rest_.size)[0]'h).toNat : Int) = bt (rest_.extract (t275 : Int).toNat rest_.size) 0 := bt_at (rest_.extract (t275 : Int).toNat rest_.size) 0
                    clear p23
                    have qi23 : (0 < ((rest_.extract (t275 : Int).toNat rest_.size).size : Int)) = True := eq_true (of_decide_eq_true (by first | (with_reducible assumption) | assumption))
                    replace q23 := eq_true q23
                    try go_wp2
                    go_meet
                    case rel => exact ⟨_, (rest_.extract 0 (t275 : Int).toNat), (rest_.extract (t275 : Int).toNat rest_.size), (by first | rfl | (simp; done) | (simp only [← hji2] <;> (first | rfl | simp)) | (simp [*]; done)), H', ⟨by first | omega | exact Nat.le_refl _⟩, ⟨by (with_reducible repeat (first | refine blk_drewN ?_ _ | refine blk_drew ?_ | refine blk_alloc ?_ _)); refine blk_far ?_ NB272_274.out _; (with_reducible repeat (first | refine blk_drewN ?_ _ | refine blk_drew ?_ | refine blk_alloc ?_ _)); exact BK272.out⟩, ⟨by (with_reducible repeat (first | refine blk_drewN ?_ _ | refine blk_drew ?_ | refine blk_alloc ?_ _)); refine blk_put (cs := #[.string (⟨#[]⟩ : ByteArray), .int .i64 80, .string (⟨#[47]⟩ : ByteArray)]) ?_ 2 _ rfl; (with_reducible repeat (first | refine blk_drewN ?_ _ | refine blk_drew ?_ | refine blk_alloc ?_ _)); exact BK274.out⟩, ⟨by repeat (first | (with_reducible first | exact HB.out | apply below_alloc | apply pw_below_drewN | apply below_drew1 | refine below_set ?_ GE272.out | refine below_set ?_ GE274.out) | exact HB.out)⟩⟩
                · rw [if_neg c22] at H
                  exact absurd H (by simp)
              · rw [if_neg c19] at H
                exact absurd H (by simp)
            · rw [if_neg c18] at H
              exact absurd H (by simp)
          · rw [if_neg c17] at H
            have c17b0 : decide (0 ≤ t275) = false := decide_eq_false c17
            clear c17
            (first | rw [c17b0] | (simp only [i64_w, i32_w]; rw [c17b0]) | skip)
            have H' := Aside0.mk H
            clear H
            go_wp2
            go_meet
            case rel => exact ⟨_, rest_, ((⟨#[47]⟩ : ByteArray)), (by first | rfl | (simp; done) | (simp only [← hji2] <;> (first | rfl | simp)) | (simp [*]; done)), H', ⟨by first | omega | exact Nat.le_refl _⟩, ⟨by (with_reducible repeat (first | refine blk_drewN ?_ _ | refine blk_drew ?_ | refine blk_alloc ?_ _)); exact BK272.out⟩, ⟨by (with_reducible repeat (first | refine blk_drewN ?_ _ | refine blk_drew ?_ | refine blk_alloc ?_ _)); exact BK274.out⟩, ⟨by repeat (first | (with_reducible first | exact HB.out | apply below_alloc | apply pw_below_drewN | apply below_drew1 | refine below_set ?_ GE272.out | refine below_set ?_ GE274.out) | exact HB.out)⟩⟩
        case rest =>
          clear HC10
          try clear c1
          try clear c2
          try clear p2
          try clear q2
          try clear hx2
          try clear qi2
          try clear c3
          try clear c3b0
          try clear c3b1
          try clear c4
          try clear c4b0
          try clear c4b1
          try clear c6
          try clear c6b0
          try clear c6b1
          try clear c7
          try clear c7b0
          try clear c8
          try clear c8b0
          try clear c14
          try clear c17
          try clear c17b0
          try clear c18
          try clear c18b0
          try clear c18b1
          try clear c19
          try clear c19b0
          try clear c19b1
          try clear c20
          try clear c20b0
          try clear c21
          try clear c21b0
          try clear c22
          try clear c22b0
          try clear c22b1
          try clear c23
          try clear p23
          try clear q23
          try clear hx23
          try clear qi23
          try clear c24
          try clear c24b0
          try clear c24b1
          try clear c25
          try clear c25b0
          try clear c25b1
          try clear c25b2
          try clear c27
          try clear c28
          try clear c32
          try clear hcz15_0
          try clear hcz15_1
          try clear hcz15_2
          try clear hcz29_0
          try clear hcz29_1
          try clear hcz29_2
          try clear hcz33_0
          try clear hcz33_1
          try clear hcz33_2
          try clear hfz15_0
          try clear hfz15_1
          try clear hfz15_2
          try clear hfz29_0
          try clear hfz29_1
          try clear hfz29_2
          try clear hfz33_0
          try clear hfz33_1
          try clear hfz33_2
          try clear p23
          try clear q23
          obtain ⟨kq, x5_9, x275002_9, rfl, HA, HJ9, BK272, BK274, HB⟩ := hcut
          cases kq with
          | zero => exact absurd HA.out (by simp [uri_Parse.j0])
          | succ kj9 =>
            have H := HA.out
            clear HA
            simp only [uri_Parse.j0] at H
            replace H := Option.bind_eq_some_iff.mp H
            obtain ⟨⟨t276, t277, t278⟩, A340, H⟩ := H
            replace H : ((text_Lower.f t276).bind fun t279 => (if t278 = true then ((uri_port.f t277).bind fun t280 => ((uri_checked.f t279 t280 x275002_9).bind fun bt281 => (some (bt281.1, bt281.2.1, bt281.2.2.1, bt281.2.2.2)))) else ((uri_checked.f t279 80 x275002_9).bind fun bt285 => (some (bt285.1, bt285.2.1, bt285.2.2.1, bt285.2.2.2))))) = some (r1, r2, r3, r4) := H
            have A34 := Aside0.mk A340
            clear A340
            replace H := Option.bind_eq_some_iff.mp H
            obtain ⟨t279, A350, H⟩ := H
            replace H : (if t278 = true then ((uri_port.f t277).bind fun t280 => ((uri_checked.f t279 t280 x275002_9).bind fun bt281 => (some (bt281.1, bt281.2.1, bt281.2.2.1, bt281.2.2.2)))) else ((uri_checked.f t279 80 x275002_9).bind fun bt285 => (some (bt285.1, bt285.2.1, bt285.2.2.1, bt285.2.2.2)))) = some (r1, r2, r3, r4) := H
            have A35 := Aside0.mk A350
            clear A350
            by_cases c36 : t278 = true
            · subst c36
              have H1 : ((uri_port.f t277).bind fun t280 => ((uri_checked.f t279 t280 x275002_9).bind fun bt281 => (some (bt281.1, bt281.2.1, bt281.2.2.1, bt281.2.2.2)))) = some (r1, r2, r3, r4) := by rw [if_pos rfl] at H; exact H
              clear H
              have H := H1
              clear H1
              replace H := Option.bind_eq_some_iff.mp H
              obtain ⟨t280, A370, H⟩ := H
              replace H : ((uri_checked.f t279 t280 x275002_9).bind fun bt281 => (some (bt281.1, bt281.2.1, bt281.2.2.1, bt281.2.2.2))) = some (r1, r2, r3, r4) := H
              have A37 := Aside0.mk A370
              clear A370
              replace H := Option.bind_eq_some_iff.mp H
              obtain ⟨⟨t281, t282, t283, t284⟩, A380, H⟩ := H
              replace H : (some (t281, t282, t283, t284)) = some (r1, r2, r3, r4) := H
              have A38 := Aside0.mk A380
              clear A380
              simp only [Option.some.injEq, Prod.mk.injEq] at H
              obtain ⟨rfl, rfl, rfl, rfl⟩ := H
              go_wp2_with (first | ((with_reducible refine gate_callee (f := 44) rfl ?_); refine goesL_ (some 45) rfl rfl Tryd.func44 (by kernel_rfl) rfl #[.string x5_9, .string (⟨#[58]⟩ : ByteArray)] rfl (by (try simp only [List.map_toArray, List.map_cons, List.map_nil]); first | done | rfl | (simp only [List.length_drop, List.length_take]; rfl)) ?_; (with_reducible refine (strings_Cut.calls x5_9 (⟨#[58]⟩ : ByteArray) t276 t277 true _ (Glob.below HGl.out (by repeat (first | (with_reducible first | exact HB.out | apply below_alloc | apply pw_below_drewN | apply below_drew1 | refine below_set ?_ GE272.out | refine below_set ?_ GE274.out) | exact HB.out))) A34.out).mono ?_); rintro e w' ⟨rfl, ⟨nd, rfl⟩⟩; refine ⟨_, rfl, ?_⟩; (try (rw [drewN_self wc]; generalize hq_ : World.drewN wc _ = wc; have n0_ : Aside0 (wc.heap[gb272]? = some (.cells #[.string (⟨#[]⟩ : ByteArray), .int .i64 0, .string (⟨#[]⟩ : ByteArray)] 35 (0, 0))) := ⟨by rw [← hq_]; exact (by (with_reducible repeat (first | refine blk_drewN ?_ _ | refine blk_drew ?_ | refine blk_alloc ?_ _)); exact BK272.out)⟩; have n1_ : Aside0 (wc.heap[gb274]? = some (.cells #[.string (⟨#[]⟩ : ByteArray), .int .i64 80, .string x275002_9] 35 (0, 0))) := ⟨by rw [← hq_]; exact (by (with_reducible repeat (first | refine blk_drewN ?_ _ | refine blk_drew ?_ | refine blk_alloc ?_ _)); exact BK274.out)⟩; have n2_ : Aside0 (Below w.heap.size w wc) := ⟨by rw [← hq_]; exact (by repeat (first | (with_reducible first | exact HB.out | apply below_alloc | apply pw_below_drewN | apply below_drew1 | refine below_set ?_ GE272.out | refine below_set ?_ GE274.out) | exact HB.out))⟩; clear BK272 BK274 HB hq_; have BK272 := n0_; have BK274 := n1_; have HB := n2_; clear n0_ n1_ n2_))) | ((with_reducible refine gate_callee (f := 27) rfl ?_); refine goesL_ (some 50) rfl rfl Tryd.func27 (by kernel_rfl) rfl #[.string t276] rfl (by (try simp only [List.map_toArray, List.map_cons, List.map_nil]); first | done | rfl | (simp only [List.length_drop, List.length_take]; rfl)) ?_; (with_reducible refine (text_Lower.calls t276 t279 _ (Glob.below HGl.out (by repeat (first | (with_reducible first | exact HB.out | apply below_alloc | apply pw_below_drewN | apply below_drew1 | refine below_set ?_ GE272.out | refine below_set ?_ GE274.out) | exact HB.out))) A35.out).mono ?_); rintro e w39 ⟨rfl, hb⟩; refine ⟨_, rfl, ?_⟩; have n0_ := Aside0.mk (blk_below (g := gb272) (o := .cells #[.string (⟨#[]⟩ : ByteArray), .int .i64 0, .string (⟨#[]⟩ : ByteArray)] 35 (0, 0)) (by (with_reducible repeat (first | refine blk_drewN ?_ _ | refine blk_drew ?_ | refine blk_alloc ?_ _)); exact BK272.out) hb); have n1_ := Aside0.mk (blk_below (g := gb274) (o := .cells #[.string (⟨#[]⟩ : ByteArray), .int .i64 80, .string x275002_9] 35 (0, 0)) (by (with_reducible repeat (first | refine blk_drewN ?_ _ | refine blk_drew ?_ | refine blk_alloc ?_ _)); exact BK274.out) hb); have n2_ := Aside0.mk (below_step (by repeat (first | (with_reducible first | exact HB.out | apply below_alloc | apply pw_below_drewN | apply below_drew1 | refine below_set ?_ GE272.out | refine below_set ?_ GE274.out) | exact HB.out)) hb); clear BK272; clear BK274; clear HB; have BK272 := n0_; have BK274 := n1_; have HB := n2_; clear n0_ n1_ n2_; (try clear hb); (try clear hb2); (try clear hk); (try clear hi); have hnb40 := NB274_272.out; have hnc40 := NB272_274.out; have hcz41_0 : w39.cell? ⟨gb274, 0, none⟩ = some (.string (⟨#[]⟩ : ByteArray)) := (blk_cell BK274.out 0).trans rfl; have hcz41_1 : w39.cell? ⟨gb274, 1, none⟩ = some (.int .i64 80) := (blk_cell BK274.out 1).trans rfl; have hcz41_2 : w39.cell? ⟨gb274, 2, none⟩ = some (.string x275002_9) := (blk_cell BK274.out 2).trans rfl; have hfz41_0 := blk_frozen BK274.out 0; have hfz41_1 := blk_frozen BK274.out 1; have hfz41_2 := blk_frozen BK274.out 2) | ((with_reducible refine gate_callee (f := 45) rfl ?_); refine goesL_ (some 54) rfl rfl Tryd.func45 (by kernel_rfl) rfl #[.string t277] rfl (by (try simp only [List.map_toArray, List.map_cons, List.map_nil]); first | done | rfl | (simp only [List.length_drop, List.length_take]; rfl)) ?_; (with_reducible refine (uri_port.calls t277 t280 _ (Glob.below HGl.out (by repeat (first | (with_reducible first | exact HB.out | apply below_alloc | apply pw_below_drewN | apply below_drew1 | refine below_set ?_ GE272.out | refine below_set ?_ GE274.out) | exact HB.out))) A37.out).mono ?_); rintro e w42 ⟨rfl, hb⟩; refine ⟨_, rfl, ?_⟩; have n0_ := Aside0.mk (blk_below (g := gb272) (o := .cells #[.string (⟨#[]⟩ : ByteArray), .int .i64 0, .string (⟨#[]⟩ : ByteArray)] 35 (0, 0)) (by (with_reducible repeat (first | refine blk_drewN ?_ _ | refine blk_drew ?_ | refine blk_alloc ?_ _)); refine blk_far ?_ NB272_274.out _; (with_reducible repeat (first | refine blk_drewN ?_ _ | refine blk_drew ?_ | refine blk_alloc ?_ _)); exact BK272.out) hb); have n1_ := Aside0.mk (blk_below (g := gb274) (o := .cells #[.string t279, .int .i64 80, .string x275002_9] 35 (0, 0)) (by (with_reducible repeat (first | refine blk_drewN ?_ _ | refine blk_drew ?_ | refine blk_alloc ?_ _)); refine blk_put (cs := #[.string (⟨#[]⟩ : ByteArray), .int .i64 80, .string x275002_9]) ?_ 0 _ rfl; (with_reducible repeat (first | refine blk_drewN ?_ _ | refine blk_drew ?_ | refine blk_alloc ?_ _)); exact BK274.out) hb); have n2_ := Aside0.mk (below_step (by repeat (first | (with_reducible first | exact HB.out | apply below_alloc | apply pw_below_drewN | apply below_drew1 | refine below_set ?_ GE272.out | refine below_set ?_ GE274.out) | exact HB.out)) hb); clear BK272; clear BK274; clear HB; have BK272 := n0_; have BK274 := n1_; have HB := n2_; clear n0_ n1_ n2_; (try clear hb); (try clear hb2); (try clear hk); (try clear hi); have hcz43_0 : w42.cell? ⟨gb274, 0, none⟩ = some (.string t279) := (blk_cell BK274.out 0).trans rfl; have hcz43_1 : w42.cell? ⟨gb274, 1, none⟩ = some (.int .i64 80) := (blk_cell BK274.out 1).trans rfl; have hcz43_2 : w42.cell? ⟨gb274, 2, none⟩ = some (.string x275002_9) := (blk_cell BK274.out 2).trans rfl; have hfz43_0 := blk_frozen BK274.out 0; have hfz43_1 := blk_frozen BK274.out 1; have hfz43_2 := blk_frozen BK274.out 2) | ((with_reducible refine gate_callee (f := 46) rfl ?_); refine goesL_ (some 57) rfl rfl Tryd.func46 (by kernel_rfl) rfl #[.agg #[.string t279, .int .i64 t280, .string x275002_9]] rfl (by (try simp only [List.map_toArray, List.map_cons, List.map_nil]); first | done | rfl | (simp only [List.length_drop, List.length_take]; rfl)) ?_; (with_reducible refine (uri_checked.calls t279 t280 x275002_9 t281 t282 t283 t284 _ (Glob.below HGl.out (by repeat (first | (with_reducible first | exact HB.out | apply below_alloc | apply pw_below_drewN | apply below_drew1 | refine below_set ?_ GE272.out | refine below_set ?_ GE274.out) | exact HB.out))) A38.out).mono ?_); rintro e w44 ⟨rfl, hb⟩; refine ⟨_, rfl, ?_⟩; have n0_ := Aside0.mk (blk_below (g := gb272) (o := .cells #[.string (⟨#[]⟩ : ByteArray), .int .i64 0, .string (⟨#[]⟩ : ByteArray)] 35 (0, 0)) (by (with_reducible repeat (first | refine blk_drewN ?_ _ | refine blk_drew ?_ | refine blk_alloc ?_ _)); refine blk_far ?_ NB272_274.out _; (with_reducible repeat (first | refine blk_drewN ?_ _ | refine blk_drew ?_ | refine blk_alloc ?_ _)); exact BK272.out) hb); have n1_ := Aside0.mk (blk_below (g := gb274) (o := .cells #[.string t279, .int .i64 t280, .string x275002_9] 35 (0, 0)) (by (with_reducible repeat (first | refine blk_drewN ?_ _ | refine blk_drew ?_ | refine blk_alloc ?_ _)); refine blk_put (cs := #[.string t279, .int .i64 80, .string x275002_9]) ?_ 1 _ rfl; (with_reducible repeat (first | refine blk_drewN ?_ _ | refine blk_drew ?_ | refine blk_alloc ?_ _)); exact BK274.out) hb); have n2_ := Aside0.mk (below_step (by repeat (first | (with_reducible first | exact HB.out | apply below_alloc | apply pw_below_drewN | apply below_drew1 | refine below_set ?_ GE272.out | refine below_set ?_ GE274.out) | exact HB.out)) hb); clear BK272; clear BK274; clear HB; have BK272 := n0_; have BK274 := n1_; have HB := n2_; clear n0_ n1_ n2_; (try clear hb); (try clear hb2); (try clear hk); (try clear hi); have hcz45_0 : w44.cell? ⟨gb272, 0, none⟩ = some (.string (⟨#[]⟩ : ByteArray)) := (blk_cell BK272.out 0).trans rfl; have hcz45_1 : w44.cell? ⟨gb272, 1, none⟩ = some (.int .i64 0) := (blk_cell BK272.out 1).trans rfl; have hcz45_2 : w44.cell? ⟨gb272, 2, none⟩ = some (.string (⟨#[]⟩ : ByteArray)) := (blk_cell BK272.out 2).trans rfl; have hfz45_0 := blk_frozen BK272.out 0; have hfz45_1 := blk_frozen BK272.out 1; have hfz45_2 := blk_frozen BK272.out 2))
              refine bodyPost_ret (results_ct rfl _ _ gb272 35 #[.string t281, .int .i64 t282, .string t283] (0, 0) _ rfl (by (with_reducible repeat (first | refine blk_drewN ?_ _ | refine blk_drew ?_ | refine blk_alloc ?_ _)); refine blk_put (cs := #[.string t281, .int .i64 t282, .string (⟨#[]⟩ : ByteArray)]) ?_ 2 _ rfl; (with_reducible repeat (first | refine blk_drewN ?_ _ | refine blk_drew ?_ | refine blk_alloc ?_ _)); refine blk_put (cs := #[.string t281, .int .i64 0, .string (⟨#[]⟩ : ByteArray)]) ?_ 1 _ rfl; (with_reducible repeat (first | refine blk_drewN ?_ _ | refine blk_drew ?_ | refine blk_alloc ?_ _)); refine blk_put (cs := #[.string (⟨#[]⟩ : ByteArray), .int .i64 0, .string (⟨#[]⟩ : ByteArray)]) ?_ 0 _ rfl; (with_reducible repeat (first | refine blk_drewN ?_ _ | refine blk_drew ?_ | refine blk_alloc ?_ _)); exact BK272.out) Tryd.underlying35 rfl (by kernel_rfl)) rfl ?_
              exact ⟨by first | rfl | (simp [errW_none, errW_some] <;> rfl) | (simp only [← hji2]; first | rfl | (simp [errW_none, errW_some] <;> rfl)) | (simp [*, errW_none, errW_some] <;> rfl), by repeat (first | (with_reducible first | exact HB.out | apply below_alloc | apply pw_below_drewN | apply below_drew1 | refine below_set ?_ GE272.out | refine below_set ?_ GE274.out) | exact HB.out)⟩
            · replace c36 := Bool.eq_false_iff.mpr c36
              subst c36
              have H1 : ((uri_checked.f t279 80 x275002_9).bind fun bt285 => (some (bt285.1, bt285.2.1, bt285.2.2.1, bt285.2.2.2))) = some (r1, r2, r3, r4) := by rw [if_neg (show ¬ (false = true) by decide)] at H; exact H
              clear H
              have H := H1
              clear H1
              replace H := Option.bind_eq_some_iff.mp H
              obtain ⟨⟨t285, t286, t287, t288⟩, A460, H⟩ := H
              replace H : (some (t285, t286, t287, t288)) = some (r1, r2, r3, r4) := H
              have A46 := Aside0.mk A460
              clear A460
              simp only [Option.some.injEq, Prod.mk.injEq] at H
              obtain ⟨rfl, rfl, rfl, rfl⟩ := H
              go_wp2_with (first | ((with_reducible refine gate_callee (f := 44) rfl ?_); refine goesL_ (some 45) rfl rfl Tryd.func44 (by kernel_rfl) rfl #[.string x5_9, .string (⟨#[58]⟩ : ByteArray)] rfl (by (try simp only [List.map_toArray, List.map_cons, List.map_nil]); first | done | rfl | (simp only [List.length_drop, List.length_take]; rfl)) ?_; (with_reducible refine (strings_Cut.calls x5_9 (⟨#[58]⟩ : ByteArray) t276 t277 false _ (Glob.below HGl.out (by repeat (first | (with_reducible first | exact HB.out | apply below_alloc | apply pw_below_drewN | apply below_drew1 | refine below_set ?_ GE272.out | refine below_set ?_ GE274.out) | exact HB.out))) A34.out).mono ?_); rintro e w' ⟨rfl, ⟨nd, rfl⟩⟩; refine ⟨_, rfl, ?_⟩; (try (rw [drewN_self wc]; generalize hq_ : World.drewN wc _ = wc; have n0_ : Aside0 (wc.heap[gb272]? = some (.cells #[.string (⟨#[]⟩ : ByteArray), .int .i64 0, .string (⟨#[]⟩ : ByteArray)] 35 (0, 0))) := ⟨by rw [← hq_]; exact (by (with_reducible repeat (first | refine blk_drewN ?_ _ | refine blk_drew ?_ | refine blk_alloc ?_ _)); exact BK272.out)⟩; have n1_ : Aside0 (wc.heap[gb274]? = some (.cells #[.string (⟨#[]⟩ : ByteArray), .int .i64 80, .string x275002_9] 35 (0, 0))) := ⟨by rw [← hq_]; exact (by (with_reducible repeat (first | refine blk_drewN ?_ _ | refine blk_drew ?_ | refine blk_alloc ?_ _)); exact BK274.out)⟩; have n2_ : Aside0 (Below w.heap.size w wc) := ⟨by rw [← hq_]; exact (by repeat (first | (with_reducible first | exact HB.out | apply below_alloc | apply pw_below_drewN | apply below_drew1 | refine below_set ?_ GE272.out | refine below_set ?_ GE274.out) | exact HB.out))⟩; clear BK272 BK274 HB hq_; have BK272 := n0_; have BK274 := n1_; have HB := n2_; clear n0_ n1_ n2_))) | ((with_reducible refine gate_callee (f := 27) rfl ?_); refine goesL_ (some 50) rfl rfl Tryd.func27 (by kernel_rfl) rfl #[.string t276] rfl (by (try simp only [List.map_toArray, List.map_cons, List.map_nil]); first | done | rfl | (simp only [List.length_drop, List.length_take]; rfl)) ?_; (with_reducible refine (text_Lower.calls t276 t279 _ (Glob.below HGl.out (by repeat (first | (with_reducible first | exact HB.out | apply below_alloc | apply pw_below_drewN | apply below_drew1 | refine below_set ?_ GE272.out | refine below_set ?_ GE274.out) | exact HB.out))) A35.out).mono ?_); rintro e w47 ⟨rfl, hb⟩; refine ⟨_, rfl, ?_⟩; have n0_ := Aside0.mk (blk_below (g := gb272) (o := .cells #[.string (⟨#[]⟩ : ByteArray), .int .i64 0, .string (⟨#[]⟩ : ByteArray)] 35 (0, 0)) (by (with_reducible repeat (first | refine blk_drewN ?_ _ | refine blk_drew ?_ | refine blk_alloc ?_ _)); exact BK272.out) hb); have n1_ := Aside0.mk (blk_below (g := gb274) (o := .cells #[.string (⟨#[]⟩ : ByteArray), .int .i64 80, .string x275002_9] 35 (0, 0)) (by (with_reducible repeat (first | refine blk_drewN ?_ _ | refine blk_drew ?_ | refine blk_alloc ?_ _)); exact BK274.out) hb); have n2_ := Aside0.mk (below_step (by repeat (first | (with_reducible first | exact HB.out | apply below_alloc | apply pw_below_drewN | apply below_drew1 | refine below_set ?_ GE272.out | refine below_set ?_ GE274.out) | exact HB.out)) hb); clear BK272; clear BK274; clear HB; have BK272 := n0_; have BK274 := n1_; have HB := n2_; clear n0_ n1_ n2_; (try clear hb); (try clear hb2); (try clear hk); (try clear hi); have hnb48 := NB274_272.out; have hnc48 := NB272_274.out; have hcz49_0 : w47.cell? ⟨gb274, 0, none⟩ = some (.string (⟨#[]⟩ : ByteArray)) := (blk_cell BK274.out 0).trans rfl; have hcz49_1 : w47.cell? ⟨gb274, 1, none⟩ = some (.int .i64 80) := (blk_cell BK274.out 1).trans rfl; have hcz49_2 : w47.cell? ⟨gb274, 2, none⟩ = some (.string x275002_9) := (blk_cell BK274.out 2).trans rfl; have hfz49_0 := blk_frozen BK274.out 0; have hfz49_1 := blk_frozen BK274.out 1; have hfz49_2 := blk_frozen BK274.out 2) | ((with_reducible refine gate_callee (f := 46) rfl ?_); refine goesL_ (some 57) rfl rfl Tryd.func46 (by kernel_rfl) rfl #[.agg #[.string t279, .int .i64 80, .string x275002_9]] rfl (by (try simp only [List.map_toArray, List.map_cons, List.map_nil]); first | done | rfl | (simp only [List.length_drop, List.length_take]; rfl)) ?_; (with_reducible refine (uri_checked.calls t279 80 x275002_9 t285 t286 t287 t288 _ (Glob.below HGl.out (by repeat (first | (with_reducible first | exact HB.out | apply below_alloc | apply pw_below_drewN | apply below_drew1 | refine below_set ?_ GE272.out | refine below_set ?_ GE274.out) | exact HB.out))) A46.out).mono ?_); rintro e w50 ⟨rfl, hb⟩; refine ⟨_, rfl, ?_⟩; have n0_ := Aside0.mk (blk_below (g := gb272) (o := .cells #[.string (⟨#[]⟩ : ByteArray), .int .i64 0, .string (⟨#[]⟩ : ByteArray)] 35 (0, 0)) (by (with_reducible repeat (first | refine blk_drewN ?_ _ | refine blk_drew ?_ | refine blk_alloc ?_ _)); refine blk_far ?_ NB272_274.out _; (with_reducible repeat (first | refine blk_drewN ?_ _ | refine blk_drew ?_ | refine blk_alloc ?_ _)); exact BK272.out) hb); have n1_ := Aside0.mk (blk_below (g := gb274) (o := .cells #[.string t279, .int .i64 80, .string x275002_9] 35 (0, 0)) (by (with_reducible repeat (first | refine blk_drewN ?_ _ | refine blk_drew ?_ | refine blk_alloc ?_ _)); refine blk_put (cs := #[.string (⟨#[]⟩ : ByteArray), .int .i64 80, .string x275002_9]) ?_ 0 _ rfl; (with_reducible repeat (first | refine blk_drewN ?_ _ | refine blk_drew ?_ | refine blk_alloc ?_ _)); exact BK274.out) hb); have n2_ := Aside0.mk (below_step (by repeat (first | (with_reducible first | exact HB.out | apply below_alloc | apply pw_below_drewN | apply below_drew1 | refine below_set ?_ GE272.out | refine below_set ?_ GE274.out) | exact HB.out)) hb); clear BK272; clear BK274; clear HB; have BK272 := n0_; have BK274 := n1_; have HB := n2_; clear n0_ n1_ n2_; (try clear hb); (try clear hb2); (try clear hk); (try clear hi); have hcz51_0 : w50.cell? ⟨gb272, 0, none⟩ = some (.string (⟨#[]⟩ : ByteArray)) := (blk_cell BK272.out 0).trans rfl; have hcz51_1 : w50.cell? ⟨gb272, 1, none⟩ = some (.int .i64 0) := (blk_cell BK272.out 1).trans rfl; have hcz51_2 : w50.cell? ⟨gb272, 2, none⟩ = some (.string (⟨#[]⟩ : ByteArray)) := (blk_cell BK272.out 2).trans rfl; have hfz51_0 := blk_frozen BK272.out 0; have hfz51_1 := blk_frozen BK272.out 1; have hfz51_2 := blk_frozen BK272.out 2))
              refine bodyPost_ret (results_ct rfl _ _ gb272 35 #[.string t285, .int .i64 t286, .string t287] (0, 0) _ rfl (by (with_reducible repeat (first | refine blk_drewN ?_ _ | refine blk_drew ?_ | refine blk_alloc ?_ _)); refine blk_put (cs := #[.string t285, .int .i64 t286, .string (⟨#[]⟩ : ByteArray)]) ?_ 2 _ rfl; (with_reducible repeat (first | refine blk_drewN ?_ _ | refine blk_drew ?_ | refine blk_alloc ?_ _)); refine blk_put (cs := #[.string t285, .int .i64 0, .string (⟨#[]⟩ : ByteArray)]) ?_ 1 _ rfl; (with_reducible repeat (first | refine blk_drewN ?_ _ | refine blk_drew ?_ | refine blk_alloc ?_ _)); refine blk_put (cs := #[.string (⟨#[]⟩ : ByteArray), .int .i64 0, .string (⟨#[]⟩ : ByteArray)]) ?_ 0 _ rfl; (with_reducible repeat (first | refine blk_drewN ?_ _ | refine blk_drew ?_ | refine blk_alloc ?_ _)); exact BK272.out) Tryd.underlying35 rfl (by kernel_rfl)) rfl ?_
              exact ⟨by first | rfl | (simp [errW_none, errW_some] <;> rfl) | (simp only [← hji2]; first | rfl | (simp [errW_none, errW_some] <;> rfl)) | (simp [*, errW_none, errW_some] <;> rfl), by repeat (first | (with_reducible first | exact HB.out | apply below_alloc | apply pw_below_drewN | apply below_drew1 | refine below_set ?_ GE272.out | refine below_set ?_ GE274.out) | exact HB.out)⟩
      · rw [if_neg c6] at H
        have c6b0 : (t273.toList == ([104, 116, 116, 112, 58, 47, 47] : List UInt8)) = false := beq_eq_false_iff_ne.mpr c6
        have c6b1 : (t273.toList != ([104, 116, 116, 112, 58, 47, 47] : List UInt8)) = true := bne_iff_ne.mpr c6
        simp only [Option.some.injEq, Prod.mk.injEq] at H
        obtain ⟨rfl, rfl, rfl, rfl⟩ := H
        go_enter Tryd.func23, Tryd.ntmps23
        go_wp2_with (first | ((with_reducible refine gate_dst (N := 2) rfl ?_); refine box_event ?hg (N := 2) ?hd (cs := #[.string (⟨#[]⟩ : ByteArray), .int .i64 0, .string (⟨#[]⟩ : ByteArray)]) (t := 35) ?hr ?_; (case hd => rfl); (case hg => rfl); (case hr => first | (go_simp; done) | (go_simp; rfl)); intro gb272 hg w52 hbox hb; have n0_ := Aside0.mk (below_step (by repeat (first | (with_reducible first | exact HB.out | apply below_alloc | apply pw_below_drewN | apply below_drew1) | exact HB.out)) hb); have n1_ := Aside0.mk (hbox); have n2_ := Aside0.mk ((by rw [hg]; exact (below_size (by repeat (first | (with_reducible first | exact HB.out | apply below_alloc | apply pw_below_drewN | apply below_drew1) | exact HB.out))) : w.heap.size ≤ gb272)); have n3_ := Aside0.mk ((by rw [hg]; exact (below_size (by repeat (first | (with_reducible first | exact HB.out | apply below_alloc | apply pw_below_drewN | apply below_drew1) | exact HB.out))) : w.heap.size ≤ gb272)); clear HB; have HB := n0_; have BK272 := n1_; have GW272 := n2_; have GE272 := n3_; clear n0_ n1_ n2_ n3_; clear hb hbox hg) | ((with_reducible refine gate_callee (f := 27) rfl ?_); refine goesL_ (some 17) rfl rfl Tryd.func27 (by kernel_rfl) rfl #[.string (a0.extract 0 ((ji2) : Int).toNat)] rfl (by (try simp only [List.map_toArray, List.map_cons, List.map_nil]); first | done | (simp only [hji2]; rfl) | rfl | (simp only [List.length_drop, List.length_take]; rfl)) ?_; (with_reducible refine (text_Lower.calls (a0.extract 0 ((ji2) : Int).toNat) t273 _ (Glob.below HGl.out (by repeat (first | (with_reducible first | exact HB.out | apply below_alloc | apply pw_below_drewN | apply below_drew1 | refine below_set ?_ GE272.out) | exact HB.out))) A5.out).mono ?_); rintro e w53 ⟨rfl, hb⟩; refine ⟨_, rfl, ?_⟩; have n0_ := Aside0.mk (blk_below (g := gb272) (o := .cells #[.string (⟨#[]⟩ : ByteArray), .int .i64 0, .string (⟨#[]⟩ : ByteArray)] 35 (0, 0)) (by (with_reducible repeat (first | refine blk_drewN ?_ _ | refine blk_drew ?_ | refine blk_alloc ?_ _)); exact BK272.out) hb); have n1_ := Aside0.mk (below_step (by repeat (first | (with_reducible first | exact HB.out | apply below_alloc | apply pw_below_drewN | apply below_drew1 | refine below_set ?_ GE272.out) | exact HB.out)) hb); clear BK272; clear HB; have BK272 := n0_; have HB := n1_; clear n0_ n1_; (try clear hb); (try clear hb2); (try clear hk); (try clear hi); have hcz54_0 : w53.cell? ⟨gb272, 0, none⟩ = some (.string (⟨#[]⟩ : ByteArray)) := (blk_cell BK272.out 0).trans rfl; have hcz54_1 : w53.cell? ⟨gb272, 1, none⟩ = some (.int .i64 0) := (blk_cell BK272.out 1).trans rfl; have hcz54_2 : w53.cell? ⟨gb272, 2, none⟩ = some (.string (⟨#[]⟩ : ByteArray)) := (blk_cell BK272.out 2).trans rfl; have hfz54_0 := blk_frozen BK272.out 0; have hfz54_1 := blk_frozen BK272.out 1; have hfz54_2 := blk_frozen BK272.out 2))
        refine bodyPost_ret (results_ct rfl _ _ gb272 35 #[.string (⟨#[]⟩ : ByteArray), .int .i64 0, .string (⟨#[]⟩ : ByteArray)] (0, 0) _ rfl (by (with_reducible repeat (first | refine blk_drewN ?_ _ | refine blk_drew ?_ | refine blk_alloc ?_ _)); refine blk_put (cs := #[.string (⟨#[]⟩ : ByteArray), .int .i64 0, .string (⟨#[]⟩ : ByteArray)]) ?_ 2 _ rfl; (with_reducible repeat (first | refine blk_drewN ?_ _ | refine blk_drew ?_ | refine blk_alloc ?_ _)); refine blk_put (cs := #[.string (⟨#[]⟩ : ByteArray), .int .i64 0, .string (⟨#[]⟩ : ByteArray)]) ?_ 1 _ rfl; (with_reducible repeat (first | refine blk_drewN ?_ _ | refine blk_drew ?_ | refine blk_alloc ?_ _)); refine blk_put (cs := #[.string (⟨#[]⟩ : ByteArray), .int .i64 0, .string (⟨#[]⟩ : ByteArray)]) ?_ 0 _ rfl; (with_reducible repeat (first | refine blk_drewN ?_ _ | refine blk_drew ?_ | refine blk_alloc ?_ _)); exact BK272.out) Tryd.underlying35 rfl (by kernel_rfl)) rfl ?_
        exact ⟨by first | rfl | (simp [errW_none, errW_some] <;> rfl) | (simp only [← hji2]; first | rfl | (simp [errW_none, errW_some] <;> rfl)) | (simp [*, errW_none, errW_some] <;> rfl), by repeat (first | (with_reducible first | exact HB.out | apply below_alloc | apply pw_below_drewN | apply below_drew1 | refine below_set ?_ GE272.out) | exact HB.out)⟩
    · rw [if_neg c4] at H
      exact absurd H (by simp)
  · rw [if_neg c3] at H
    exact absurd H (by simp)

end Go.Proofs.YtjdlaofeenblkaaDoor.X

-- PRINTED by print.py (a twelfth state) out of the translation. Not trusted: Lean checks it.
namespace Go.Proofs.YtjdlaofeenblkaaDoor.X
open Go.RowKit Go.Proofs.YtjdlaofeenblkaaDoorW.PrintWords Go.Proofs.YtjdlaofeenblkaaDoorW.PrintLast Go.Proofs.YtjdlaofeenblkaaDoorW.PrintMore
attribute [local go_sem] max2_int min2_int max_two min_two max_three min_three max_four min_four   -- for this text's walks alone
set_option linter.unusedVariables false
set_option linter.unusedSimpArgs false
open Go.Proofs.YtjdlaofeenblkaaDoor.T

/-! ### uri_Join: function 28 -/
def uri_Join.j0 : Nat → ByteArray → Bool → ByteArray → Int → ByteArray → Option (ByteArray × Int × ByteArray × Int)
  | 0, _, _, _, _, _ => none
  | k + 1, x1, x11, x308000, x308001, x308002 => if x11 = true then ((uri_checked.f x308000 x308001 x1).bind fun bt312 => (some (bt312.1, bt312.2.1, bt312.2.2.1, bt312.2.2.2))) else ((uri_Parse.f k x1).bind fun bt316 => (some (bt316.1, bt316.2.1, bt316.2.2.1, bt316.2.2.2)))
def uri_Join.f (k : Nat) (a0_0 : ByteArray) (a0_1 : Int) (a0_2 : ByteArray) (a1 : ByteArray) : Option (ByteArray × Int × ByteArray × Int) := (uri_May.f a0_0 a0_1 a0_2).bind fun t309 => (if t309 = true then ((strings_HasPrefix.f a1 (⟨#[47]⟩ : ByteArray)).bind fun t310 => (if t310 = true then ((strings_HasPrefix.f a1 (⟨#[47, 47]⟩ : ByteArray)).bind fun t311 => (uri_Join.j0 k a1 (!t311) a0_0 a0_1 a0_2)) else (uri_Join.j0 k a1 false a0_0 a0_1 a0_2))) else (some ((⟨#[]⟩ : ByteArray), 0, (⟨#[]⟩ : ByteArray), 23)))
theorem uri_Join.mono_l : ∀ k, (∀ y0 y1 y2 y3 y4, LeO (uri_Join.j0 k y0 y1 y2 y3 y4) (uri_Join.j0 (k + 1) y0 y1 y2 y3 y4))
  | 0 => fun _ _ _ _ _ r h => by simp [uri_Join.j0] at h
  | k + 1 => by
    have ih0 := uri_Join.mono_l k
    · intro y0 y1 y2 y3 y4
      unfold uri_Join.j0
      repeat' first
      | (with_reducible exact ih0 _ _ _ _ _)
      | (with_reducible exact uri_Parse.mono _ _)
      | (with_reducible exact LeO.refl _)
      | (with_reducible exact LeO.none _)
      | (with_reducible refine LeO.ite ?_ ?_)
      | (with_reducible refine LeO.bind ?_ (fun _ => ?_))
      | exact ih0 _ _ _ _ _
      | exact uri_Parse.mono _ _
      | exact LeO.none _
      | refine LeO.ite ?_ ?_
      | refine LeO.bind ?_ (fun _ => ?_)
theorem uri_Join.mono : ∀ a0 a1 a2 a3 k, LeO (uri_Join.f k a0 a1 a2 a3) (uri_Join.f (k + 1) a0 a1 a2 a3) := by
  intro a0 a1 a2 a3 k
  have ih0 := uri_Join.mono_l k
  unfold uri_Join.f
  repeat' first
      | (with_reducible exact ih0 _ _ _ _ _)
      | (with_reducible exact uri_Parse.mono _ _)
      | (with_reducible exact LeO.refl _)
      | (with_reducible exact LeO.none _)
      | (with_reducible refine LeO.ite ?_ ?_)
      | (with_reducible refine LeO.bind ?_ (fun _ => ?_))
      | exact ih0 _ _ _ _ _
      | exact uri_Parse.mono _ _
      | exact LeO.none _
      | refine LeO.ite ?_ ?_
      | refine LeO.bind ?_ (fun _ => ?_)
set_option maxHeartbeats 8000000 in
set_option maxRecDepth 100000 in
theorem uri_Join.calls (k : Nat) (a0_0 : ByteArray) (a0_1 : Int) (a0_2 : ByteArray) (a1 : ByteArray) (r1 : ByteArray) (r2 : Int) (r3 : ByteArray) (r4 : Int) (w : World) (HGg : Glob w) (h : uri_Join.f k a0_0 a0_1 a0_2 a1 = some (r1, r2, r3, r4)) :
    Calls Tryd.prog 28 #[.agg #[.string a0_0, .int .i64 a0_1, .string a0_2], .string a1] w fun e w' => e = .returned (.tuple #[.agg #[.string r1, .int .i64 r2, .string r3], .int .i64 r4]) ∧ Below w.heap.size w w' := by
  have hu35 := Tryd.underlying35
  have HGl := Aside0.mk HGg
  clear HGg
  have HB := Aside0.mk (Below.refl w.heap.size w)
  have H : ((uri_May.f a0_0 a0_1 a0_2).bind fun t309 => (if t309 = true then ((strings_HasPrefix.f a1 (⟨#[47]⟩ : ByteArray)).bind fun t310 => (if t310 = true then ((strings_HasPrefix.f a1 (⟨#[47, 47]⟩ : ByteArray)).bind fun t311 => (uri_Join.j0 k a1 (!t311) a0_0 a0_1 a0_2)) else (uri_Join.j0 k a1 false a0_0 a0_1 a0_2))) else (some ((⟨#[]⟩ : ByteArray), 0, (⟨#[]⟩ : ByteArray), 23)))) = some (r1, r2, r3, r4) := h
  clear h
  replace H := Option.bind_eq_some_iff.mp H
  obtain ⟨t309, A30, H⟩ := H
  replace H : (if t309 = true then ((strings_HasPrefix.f a1 (⟨#[47]⟩ : ByteArray)).bind fun t310 => (if t310 = true then ((strings_HasPrefix.f a1 (⟨#[47, 47]⟩ : ByteArray)).bind fun t311 => (uri_Join.j0 k a1 (!t311) a0_0 a0_1 a0_2)) else (uri_Join.j0 k a1 false a0_0 a0_1 a0_2))) else (some ((⟨#[]⟩ : ByteArray), 0, (⟨#[]⟩ : ByteArray), 23))) = some (r1, r2, r3, r4) := H
  have A3 := Aside0.mk A30
  clear A30
  by_cases c4 : t309 = true
  · subst c4
    have H1 : ((strings_HasPrefix.f a1 (⟨#[47]⟩ : ByteArray)).bind fun t310 => (if t310 = true then ((strings_HasPrefix.f a1 (⟨#[47, 47]⟩ : ByteArray)).bind fun t311 => (uri_Join.j0 k a1 (!t311) a0_0 a0_1 a0_2)) else (uri_Join.j0 k a1 false a0_0 a0_1 a0_2))) = some (r1, r2, r3, r4) := by rw [if_pos rfl] at H; exact H
    clear H
    have H := H1
    clear H1
    have HC5 := Aside0.mk H
    clear H
    go_enter Tryd.func28, Tryd.ntmps28
    go_upto_region 3 with (first | ((with_reducible refine gate_dst (N := 2) rfl ?_); refine box_event ?hg (N := 2) ?hd (cs := #[.string a0_0, .int .i64 a0_1, .string a0_2]) (t := 35) ?hr ?_; (case hd => rfl); (case hg => rfl); (case hr => first | (go_simp; done) | (go_simp; rfl)); intro gb307 hg w6 hbox hb; have n0_ := Aside0.mk (below_step (by repeat (first | (with_reducible first | exact HB.out | apply below_alloc | apply pw_below_drewN | apply below_drew1) | exact HB.out)) hb); have n1_ := Aside0.mk (hbox); have n2_ := Aside0.mk ((by rw [hg]; exact (below_size (by repeat (first | (with_reducible first | exact HB.out | apply below_alloc | apply pw_below_drewN | apply below_drew1) | exact HB.out))) : w.heap.size ≤ gb307)); have n3_ := Aside0.mk ((by rw [hg]; exact (below_size (by repeat (first | (with_reducible first | exact HB.out | apply below_alloc | apply pw_below_drewN | apply below_drew1) | exact HB.out))) : w.heap.size ≤ gb307)); clear HB; have HB := n0_; have BK307 := n1_; have GW307 := n2_; have GE307 := n3_; clear n0_ n1_ n2_ n3_; clear hb hbox hg) | ((with_reducible refine gate_dst (N := 4) rfl ?_); refine box_event ?hg (N := 4) ?hd (cs := #[.string (⟨#[]⟩ : ByteArray), .int .i64 0, .string (⟨#[]⟩ : ByteArray)]) (t := 35) ?hr ?_; (case hd => rfl); (case hg => rfl); (case hr => first | (go_simp; done) | (go_simp; rfl)); intro gb308 hg w7 hbox hb; have n0_ := Aside0.mk (blk_below (g := gb307) (o := .cells #[.string a0_0, .int .i64 a0_1, .string a0_2] 35 (0, 0)) (by (with_reducible repeat (first | refine blk_drewN ?_ _ | refine blk_drew ?_ | refine blk_alloc ?_ _)); exact BK307.out) hb); have n1_ := Aside0.mk (below_step (by repeat (first | (with_reducible first | exact HB.out | apply below_alloc | apply pw_below_drewN | apply below_drew1 | refine below_set ?_ GE307.out) | exact HB.out)) hb); have n2_ := Aside0.mk (hbox); have n3_ := Aside0.mk ((by rw [hg]; exact (below_size (by repeat (first | (with_reducible first | exact HB.out | apply below_alloc | apply pw_below_drewN | apply below_drew1 | refine below_set ?_ GE307.out) | exact HB.out))) : w.heap.size ≤ gb308)); have n4_ := Aside0.mk ((by rw [hg]; exact (below_size (by repeat (first | (with_reducible first | exact HB.out | apply below_alloc | apply pw_below_drewN | apply below_drew1 | refine below_set ?_ GE307.out) | exact HB.out))) : w.heap.size ≤ gb308)); have n5_ := Aside0.mk ((by rw [hg]; exact Nat.ne_of_lt (blk_lt (g := gb307) (o := .cells #[.string a0_0, .int .i64 a0_1, .string a0_2] 35 (0, 0)) (by (with_reducible repeat (first | refine blk_drewN ?_ _ | refine blk_drew ?_ | refine blk_alloc ?_ _)); exact BK307.out)) : gb307 ≠ gb308)); have n6_ := Aside0.mk ((by rw [hg]; exact Nat.ne_of_gt (blk_lt (g := gb307) (o := .cells #[.string a0_0, .int .i64 a0_1, .string a0_2] 35 (0, 0)) (by (with_reducible repeat (first | refine blk_drewN ?_ _ | refine blk_drew ?_ | refine blk_alloc ?_ _)); exact BK307.out)) : gb308 ≠ gb307)); clear BK307; clear HB; have BK307 := n0_; have HB := n1_; have BK308 := n2_; have GW308 := n3_; have GE308 := n4_; have NB307_308 := n5_; have NB308_307 := n6_; clear n0_ n1_ n2_ n3_ n4_ n5_ n6_; clear hb hbox hg; have hnb8 := NB307_308.out; have hnc8 := NB308_307.out; have hcz9_0 : w7.cell? ⟨gb307, 0, none⟩ = some (.string a0_0) := (blk_cell BK307.out 0).trans rfl; have hcz9_1 : w7.cell? ⟨gb307, 1, none⟩ = some (.int .i64 a0_1) := (blk_cell BK307.out 1).trans rfl; have hcz9_2 : w7.cell? ⟨gb307, 2, none⟩ = some (.string a0_2) := (blk_cell BK307.out 2).trans rfl; have hfz9_0 := blk_frozen BK307.out 0; have hfz9_1 := blk_frozen BK307.out 1; have hfz9_2 := blk_frozen BK307.out 2) | ((with_reducible refine gate_callee (f := 22) rfl ?_); refine goesL_ (some 8) rfl rfl Tryd.func22 (by kernel_rfl) rfl #[.agg #[.string a0_0, .int .i64 a0_1, .string a0_2]] rfl (by (try simp only [List.map_toArray, List.map_cons, List.map_nil]); first | done | rfl | (simp only [List.length_drop, List.length_take]; rfl)) ?_; (with_reducible refine (uri_May.calls a0_0 a0_1 a0_2 true _ (Glob.below HGl.out (by repeat (first | (with_reducible first | exact HB.out | apply below_alloc | apply pw_below_drewN | apply below_drew1 | refine below_set ?_ GE307.out | refine below_set ?_ GE308.out) | exact HB.out))) A3.out).mono ?_); rintro e w10 ⟨rfl, hb⟩; refine ⟨_, rfl, ?_⟩; have n0_ := Aside0.mk (blk_below (g := gb307) (o := .cells #[.string a0_0, .int .i64 a0_1, .string a0_2] 35 (0, 0)) (by (with_reducible repeat (first | refine blk_drewN ?_ _ | refine blk_drew ?_ | refine blk_alloc ?_ _)); exact BK307.out) hb); have n1_ := Aside0.mk (blk_below (g := gb308) (o := .cells #[.string (⟨#[]⟩ : ByteArray), .int .i64 0, .string (⟨#[]⟩ : ByteArray)] 35 (0, 0)) (by (with_reducible repeat (first | refine blk_drewN ?_ _ | refine blk_drew ?_ | refine blk_alloc ?_ _)); exact BK308.out) hb); have n2_ := Aside0.mk (below_step (by repeat (first | (with_reducible first | exact HB.out | apply below_alloc | apply pw_below_drewN | apply below_drew1 | refine below_set ?_ GE307.out | refine below_set ?_ GE308.out) | exact HB.out)) hb); clear BK307; clear BK308; clear HB; have BK307 := n0_; have BK308 := n1_; have HB := n2_; clear n0_ n1_ n2_; (try clear hb); (try clear hb2); (try clear hk); (try clear hi)))
    (try simp only [Act.put, List.setIfInBounds_toArray, List.set_cons_zero, List.set_cons_succ])
    go_cut [11] (fun v11 wc => ∃ (kq : Nat) (x11_4 : Bool), v11 = .bool x11_4 ∧ Aside0 (uri_Join.j0 kq a1 x11_4 a0_0 a0_1 a0_2 = some (r1, r2, r3, r4)) ∧ Aside0 (kq ≤ k) ∧ Aside0 (wc.heap[gb307]? = some (.cells #[.string a0_0, .int .i64 a0_1, .string a0_2] 35 (0, 0))) ∧ Aside0 (wc.heap[gb308]? = some (.cells #[.string (⟨#[]⟩ : ByteArray), .int .i64 0, .string (⟨#[]⟩ : ByteArray)] 35 (0, 0))) ∧ Aside0 (Below w.heap.size w wc))
    case first =>
      have H := HC5.out
      clear HC5
      replace H := Option.bind_eq_some_iff.mp H
      obtain ⟨t310, A110, H⟩ := H
      replace H : (if t310 = true then ((strings_HasPrefix.f a1 (⟨#[47, 47]⟩ : ByteArray)).bind fun t311 => (uri_Join.j0 k a1 (!t311) a0_0 a0_1 a0_2)) else (uri_Join.j0 k a1 false a0_0 a0_1 a0_2)) = some (r1, r2, r3, r4) := H
      have A11 := Aside0.mk A110
      clear A110
      by_cases c12 : t310 = true
      · subst c12
        have H1 : ((strings_HasPrefix.f a1 (⟨#[47, 47]⟩ : ByteArray)).bind fun t311 => (uri_Join.j0 k a1 (!t311) a0_0 a0_1 a0_2)) = some (r1, r2, r3, r4) := by rw [if_pos rfl] at H; exact H
        clear H
        have H := H1
        clear H1
        replace H := Option.bind_eq_some_iff.mp H
        obtain ⟨t311, A130, H⟩ := H
        replace H : (uri_Join.j0 k a1 (!t311) a0_0 a0_1 a0_2) = some (r1, r2, r3, r4) := H
        have A13 := Aside0.mk A130
        clear A130
        have H' := Aside0.mk H
        clear H
        go_wp2_with (first | ((with_reducible refine gate_callee (f := 47) rfl ?_); refine goesL_ (some 13) rfl rfl Tryd.func47 (by kernel_rfl) rfl #[.string a1, .string (⟨#[47]⟩ : ByteArray)] rfl (by (try simp only [List.map_toArray, List.map_cons, List.map_nil]); first | done | rfl | (simp only [List.length_drop, List.length_take]; rfl)) ?_; (with_reducible refine (strings_HasPrefix.calls a1 (⟨#[47]⟩ : ByteArray) true _ (Glob.below HGl.out (by repeat (first | (with_reducible first | exact HB.out | apply below_alloc | apply pw_below_drewN | apply below_drew1 | refine below_set ?_ GE307.out | refine below_set ?_ GE308.out) | exact HB.out))) A11.out).mono ?_); rintro e w' ⟨rfl, ⟨nd, rfl⟩⟩; refine ⟨_, rfl, ?_⟩) | (go_at_call 47; (with_reducible refine (strings_HasPrefix.calls a1 (⟨#[47, 47]⟩ : ByteArray) t311 _ (Glob.below HGl.out (by repeat (first | (with_reducible first | exact HB.out | apply below_alloc | apply pw_below_drewN | apply below_drew1 | refine below_set ?_ GE307.out | refine below_set ?_ GE308.out) | exact HB.out))) A13.out).mono ?_); rintro e w' ⟨rfl, ⟨nd, rfl⟩⟩))
        go_meet
        case rel => exact ⟨_, (!t311), (by first | rfl | (simp; done) | (simp [*]; done)), H', ⟨by first | omega | exact Nat.le_refl _⟩, ⟨by (with_reducible repeat (first | refine blk_drewN ?_ _ | refine blk_drew ?_ | refine blk_alloc ?_ _)); exact BK307.out⟩, ⟨by (with_reducible repeat (first | refine blk_drewN ?_ _ | refine blk_drew ?_ | refine blk_alloc ?_ _)); exact BK308.out⟩, ⟨by repeat (first | (with_reducible first | exact HB.out | apply below_alloc | apply pw_below_drewN | apply below_drew1 | refine below_set ?_ GE307.out | refine below_set ?_ GE308.out) | exact HB.out)⟩⟩
      · replace c12 := Bool.eq_false_iff.mpr c12
        subst c12
        have H1 : (uri_Join.j0 k a1 false a0_0 a0_1 a0_2) = some (r1, r2, r3, r4) := by rw [if_neg (show ¬ (false = true) by decide)] at H; exact H
        clear H
        have H := H1
        clear H1
        have H' := Aside0.mk H
        clear H
        go_wp2_with (first | ((with_reducible refine gate_callee (f := 47) rfl ?_); refine goesL_ (some 13) rfl rfl Tryd.func47 (by kernel_rfl) rfl #[.string a1, .string (⟨#[47]⟩ : ByteArray)] rfl (by (try simp only [List.map_toArray, List.map_cons, List.map_nil]); first | done | rfl | (simp only [List.length_drop, List.length_take]; rfl)) ?_; (with_reducible refine (strings_HasPrefix.calls a1 (⟨#[47]⟩ : ByteArray) false _ (Glob.below HGl.out (by repeat (first | (with_reducible first | exact HB.out | apply below_alloc | apply pw_below_drewN | apply below_drew1 | refine below_set ?_ GE307.out | refine below_set ?_ GE308.out) | exact HB.out))) A11.out).mono ?_); rintro e w' ⟨rfl, ⟨nd, rfl⟩⟩; refine ⟨_, rfl, ?_⟩))
        go_meet
        case rel => exact ⟨_, (false), (by first | rfl | (simp; done) | (simp [*]; done)), H', ⟨by first | omega | exact Nat.le_refl _⟩, ⟨by (with_reducible repeat (first | refine blk_drewN ?_ _ | refine blk_drew ?_ | refine blk_alloc ?_ _)); exact BK307.out⟩, ⟨by (with_reducible repeat (first | refine blk_drewN ?_ _ | refine blk_drew ?_ | refine blk_alloc ?_ _)); exact BK308.out⟩, ⟨by repeat (first | (with_reducible first | exact HB.out | apply below_alloc | apply pw_below_drewN | apply below_drew1 | refine below_set ?_ GE307.out | refine below_set ?_ GE308.out) | exact HB.out)⟩⟩
    case rest =>
      clear HC5
      try clear c1
      try clear c2
      try clear p2
      try clear c4
      try clear c8
      try clear c12
      try clear hcz9_0
      try clear hcz9_1
      try clear hcz9_2
      try clear hfz9_0
      try clear hfz9_1
      try clear hfz9_2
      obtain ⟨kq, x11_4, rfl, HA, HJ4, BK307, BK308, HB⟩ := hcut
      cases kq with
      | zero => exact absurd HA.out (by simp [uri_Join.j0])
      | succ kj4 =>
        have H := HA.out
        clear HA
        simp only [uri_Join.j0] at H
        by_cases c14 : x11_4 = true
        · subst c14
          have H1 : ((uri_checked.f a0_0 a0_1 a1).bind fun bt312 => (some (bt312.1, bt312.2.1, bt312.2.2.1, bt312.2.2.2))) = some (r1, r2, r3, r4) := by rw [if_pos rfl] at H; exact H
          clear H
          have H := H1
          clear H1
          replace H := Option.bind_eq_some_iff.mp H
          obtain ⟨⟨t312, t313, t314, t315⟩, A150, H⟩ := H
          replace H : (some (t312, t313, t314, t315)) = some (r1, r2, r3, r4) := H
          have A15 := Aside0.mk A150
          clear A150
          simp only [Option.some.injEq, Prod.mk.injEq] at H
          obtain ⟨rfl, rfl, rfl, rfl⟩ := H
          have hnb16 := NB307_308.out
          have hnc16 := NB308_307.out
          have hcz17_0 : wc.cell? ⟨gb307, 0, none⟩ = some (.string a0_0) := (blk_cell BK307.out 0).trans rfl
          have hcz17_1 : wc.cell? ⟨gb307, 1, none⟩ = some (.int .i64 a0_1) := (blk_cell BK307.out 1).trans rfl
          have hcz17_2 : wc.cell? ⟨gb307, 2, none⟩ = some (.string a0_2) := (blk_cell BK307.out 2).trans rfl
          have hfz17_0 := blk_frozen BK307.out 0
          have hfz17_1 := blk_frozen BK307.out 1
          have hfz17_2 := blk_frozen BK307.out 2
          go_wp2_with (first | ((with_reducible refine gate_callee (f := 46) rfl ?_); refine goesL_ (some 22) rfl rfl Tryd.func46 (by kernel_rfl) rfl #[.agg #[.string a0_0, .int .i64 a0_1, .string a1]] rfl (by (try simp only [List.map_toArray, List.map_cons, List.map_nil]); first | done | rfl | (simp only [List.length_drop, List.length_take]; rfl)) ?_; (with_reducible refine (uri_checked.calls a0_0 a0_1 a1 t312 t313 t314 t315 _ (Glob.below HGl.out (by repeat (first | (with_reducible first | exact HB.out | apply below_alloc | apply pw_below_drewN | apply below_drew1 | refine below_set ?_ GE307.out | refine below_set ?_ GE308.out) | exact HB.out))) A15.out).mono ?_); rintro e w18 ⟨rfl, hb⟩; refine ⟨_, rfl, ?_⟩; have n0_ := Aside0.mk (blk_below (g := gb307) (o := .cells #[.string a0_0, .int .i64 a0_1, .string a1] 35 (0, 0)) (by (with_reducible repeat (first | refine blk_drewN ?_ _ | refine blk_drew ?_ | refine blk_alloc ?_ _)); refine blk_put (cs := #[.string a0_0, .int .i64 a0_1, .string a0_2]) ?_ 2 _ rfl; (with_reducible repeat (first | refine blk_drewN ?_ _ | refine blk_drew ?_ | refine blk_alloc ?_ _)); exact BK307.out) hb); have n1_ := Aside0.mk (blk_below (g := gb308) (o := .cells #[.string (⟨#[]⟩ : ByteArray), .int .i64 0, .string (⟨#[]⟩ : ByteArray)] 35 (0, 0)) (by (with_reducible repeat (first | refine blk_drewN ?_ _ | refine blk_drew ?_ | refine blk_alloc ?_ _)); refine blk_far ?_ NB308_307.out _; (with_reducible repeat (first | refine blk_drewN ?_ _ | refine blk_drew ?_ | refine blk_alloc ?_ _)); exact BK308.out) hb); have n2_ := Aside0.mk (below_step (by repeat (first | (with_reducible first | exact HB.out | apply below_alloc | apply pw_below_drewN | apply below_drew1 | refine below_set ?_ GE307.out | refine below_set ?_ GE308.out) | exact HB.out)) hb); clear BK307; clear BK308; clear HB; have BK307 := n0_; have BK308 := n1_; have HB := n2_; clear n0_ n1_ n2_; (try clear hb); (try clear hb2); (try clear hk); (try clear hi); have hcz19_0 : w18.cell? ⟨gb308, 0, none⟩ = some (.string (⟨#[]⟩ : ByteArray)) := (blk_cell BK308.out 0).trans rfl; have hcz19_1 : w18.cell? ⟨gb308, 1, none⟩ = some (.int .i64 0) := (blk_cell BK308.out 1).trans rfl; have hcz19_2 : w18.cell? ⟨gb308, 2, none⟩ = some (.string (⟨#[]⟩ : ByteArray)) := (blk_cell BK308.out 2).trans rfl; have hfz19_0 := blk_frozen BK308.out 0; have hfz19_1 := blk_frozen BK308.out 1; have hfz19_2 := blk_frozen BK308.out 2))
          refine bodyPost_ret (results_ct rfl _ _ gb308 35 #[.string t312, .int .i64 t313, .string t314] (0, 0) _ rfl (by (with_reducible repeat (first | refine blk_drewN ?_ _ | refine blk_drew ?_ | refine blk_alloc ?_ _)); refine blk_put (cs := #[.string t312, .int .i64 t313, .string (⟨#[]⟩ : ByteArray)]) ?_ 2 _ rfl; (with_reducible repeat (first | refine blk_drewN ?_ _ | refine blk_drew ?_ | refine blk_alloc ?_ _)); refine blk_put (cs := #[.string t312, .int .i64 0, .string (⟨#[]⟩ : ByteArray)]) ?_ 1 _ rfl; (with_reducible repeat (first | refine blk_drewN ?_ _ | refine blk_drew ?_ | refine blk_alloc ?_ _)); refine blk_put (cs := #[.string (⟨#[]⟩ : ByteArray), .int .i64 0, .string (⟨#[]⟩ : ByteArray)]) ?_ 0 _ rfl; (with_reducible repeat (first | refine blk_drewN ?_ _ | refine blk_drew ?_ | refine blk_alloc ?_ _)); exact BK308.out) Tryd.underlying35 rfl (by kernel_rfl)) rfl ?_
          exact ⟨by first | rfl | (simp [errW_none, errW_some] <;> rfl) | (simp [*, errW_none, errW_some] <;> rfl), by repeat (first | (with_reducible first | exact HB.out | apply below_alloc | apply pw_below_drewN | apply below_drew1 | refine below_set ?_ GE307.out | refine below_set ?_ GE308.out) | exact HB.out)⟩
        · replace c14 := Bool.eq_false_iff.mpr c14
          subst c14
          have H1 : ((uri_Parse.f kj4 a1).bind fun bt316 => (some (bt316.1, bt316.2.1, bt316.2.2.1, bt316.2.2.2))) = some (r1, r2, r3, r4) := by rw [if_neg (show ¬ (false = true) by decide)] at H; exact H
          clear H
          have H := H1
          clear H1
          replace H := Option.bind_eq_some_iff.mp H
          obtain ⟨⟨t316, t317, t318, t319⟩, A200, H⟩ := H
          replace H : (some (t316, t317, t318, t319)) = some (r1, r2, r3, r4) := H
          have A20 := Aside0.mk A200
          clear A200
          simp only [Option.some.injEq, Prod.mk.injEq] at H
          obtain ⟨rfl, rfl, rfl, rfl⟩ := H
          go_wp2_with (first | ((with_reducible refine gate_callee (f := 23) rfl ?_); refine goesL_ (some 26) rfl rfl Tryd.func23 (by kernel_rfl) rfl #[.string a1] rfl (by (try simp only [List.map_toArray, List.map_cons, List.map_nil]); first | done | rfl | (simp only [List.length_drop, List.length_take]; rfl)) ?_; (with_reducible refine (uri_Parse.calls kj4 a1 t316 t317 t318 t319 _ (Glob.below HGl.out (by repeat (first | (with_reducible first | exact HB.out | apply below_alloc | apply pw_below_drewN | apply below_drew1 | refine below_set ?_ GE307.out | refine below_set ?_ GE308.out) | exact HB.out))) A20.out).mono ?_); rintro e w21 ⟨rfl, hb⟩; refine ⟨_, rfl, ?_⟩; have n0_ := Aside0.mk (blk_below (g := gb307) (o := .cells #[.string a0_0, .int .i64 a0_1, .string a0_2] 35 (0, 0)) (by (with_reducible repeat (first | refine blk_drewN ?_ _ | refine blk_drew ?_ | refine blk_alloc ?_ _)); exact BK307.out) hb); have n1_ := Aside0.mk (blk_below (g := gb308) (o := .cells #[.string (⟨#[]⟩ : ByteArray), .int .i64 0, .string (⟨#[]⟩ : ByteArray)] 35 (0, 0)) (by (with_reducible repeat (first | refine blk_drewN ?_ _ | refine blk_drew ?_ | refine blk_alloc ?_ _)); exact BK308.out) hb); have n2_ := Aside0.mk (below_step (by repeat (first | (with_reducible first | exact HB.out | apply below_alloc | apply pw_below_drewN | apply below_drew1 | refine below_set ?_ GE307.out | refine below_set ?_ GE308.out) | exact HB.out)) hb); clear BK307; clear BK308; clear HB; have BK307 := n0_; have BK308 := n1_; have HB := n2_; clear n0_ n1_ n2_; (try clear hb); (try clear hb2); (try clear hk); (try clear hi); have hnb22 := NB308_307.out; have hnc22 := NB307_308.out; have hcz23_0 : w21.cell? ⟨gb308, 0, none⟩ = some (.string (⟨#[]⟩ : ByteArray)) := (blk_cell BK308.out 0).trans rfl; have hcz23_1 : w21.cell? ⟨gb308, 1, none⟩ = some (.int .i64 0) := (blk_cell BK308.out 1).trans rfl; have hcz23_2 : w21.cell? ⟨gb308, 2, none⟩ = some (.string (⟨#[]⟩ : ByteArray)) := (blk_cell BK308.out 2).trans rfl; have hfz23_0 := blk_frozen BK308.out 0; have hfz23_1 := blk_frozen BK308.out 1; have hfz23_2 := blk_frozen BK308.out 2))
          refine bodyPost_ret (results_ct rfl _ _ gb308 35 #[.string t316, .int .i64 t317, .string t318] (0, 0) _ rfl (by (with_reducible repeat (first | refine blk_drewN ?_ _ | refine blk_drew ?_ | refine blk_alloc ?_ _)); refine blk_put (cs := #[.string t316, .int .i64 t317, .string (⟨#[]⟩ : ByteArray)]) ?_ 2 _ rfl; (with_reducible repeat (first | refine blk_drewN ?_ _ | refine blk_drew ?_ | refine blk_alloc ?_ _)); refine blk_put (cs := #[.string t316, .int .i64 0, .string (⟨#[]⟩ : ByteArray)]) ?_ 1 _ rfl; (with_reducible repeat (first | refine blk_drewN ?_ _ | refine blk_drew ?_ | refine blk_alloc ?_ _)); refine blk_put (cs := #[.string (⟨#[]⟩ : ByteArray), .int .i64 0, .string (⟨#[]⟩ : ByteArray)]) ?_ 0 _ rfl; (with_reducible repeat (first | refine blk_drewN ?_ _ | refine blk_drew ?_ | refine blk_alloc ?_ _)); exact BK308.out) Tryd.underlying35 rfl (by kernel_rfl)) rfl ?_
          exact ⟨by first | rfl | (simp [errW_none, errW_some] <;> rfl) | (simp [*, errW_none, errW_some] <;> rfl), by repeat (first | (with_reducible first | exact HB.out | apply below_alloc | apply pw_below_drewN | apply below_drew1 | refine below_set ?_ GE307.out | refine below_set ?_ GE308.out) | exact HB.out)⟩
  · replace c4 := Bool.eq_false_iff.mpr c4
    subst c4
    have H1 : (some ((⟨#[]⟩ : ByteArray), 0, (⟨#[]⟩ : ByteArray), 23)) = some (r1, r2, r3, r4) := by rw [if_neg (show ¬ (false = true) by decide)] at H; exact H
    clear H
    have H := H1
    clear H1
    simp only [Option.some.injEq, Prod.mk.injEq] at H
    obtain ⟨rfl, rfl, rfl, rfl⟩ := H
    go_enter Tryd.func28, Tryd.ntmps28
    go_wp2_with (first | ((with_reducible refine gate_dst (N := 2) rfl ?_); refine box_event ?hg (N := 2) ?hd (cs := #[.string a0_0, .int .i64 a0_1, .string a0_2]) (t := 35) ?hr ?_; (case hd => rfl); (case hg => rfl); (case hr => first | (go_simp; done) | (go_simp; rfl)); intro gb307 hg w24 hbox hb; have n0_ := Aside0.mk (below_step (by repeat (first | (with_reducible first | exact HB.out | apply below_alloc | apply pw_below_drewN | apply below_drew1) | exact HB.out)) hb); have n1_ := Aside0.mk (hbox); have n2_ := Aside0.mk ((by rw [hg]; exact (below_size (by repeat (first | (with_reducible first | exact HB.out | apply below_alloc | apply pw_below_drewN | apply below_drew1) | exact HB.out))) : w.heap.size ≤ gb307)); have n3_ := Aside0.mk ((by rw [hg]; exact (below_size (by repeat (first | (with_reducible first | exact HB.out | apply below_alloc | apply pw_below_drewN | apply below_drew1) | exact HB.out))) : w.heap.size ≤ gb307)); clear HB; have HB := n0_; have BK307 := n1_; have GW307 := n2_; have GE307 := n3_; clear n0_ n1_ n2_ n3_; clear hb hbox hg) | ((with_reducible refine gate_dst (N := 4) rfl ?_); refine box_event ?hg (N := 4) ?hd (cs := #[.string (⟨#[]⟩ : ByteArray), .int .i64 0, .string (⟨#[]⟩ : ByteArray)]) (t := 35) ?hr ?_; (case hd => rfl); (case hg => rfl); (case hr => first | (go_simp; done) | (go_simp; rfl)); intro gb308 hg w25 hbox hb; have n0_ := Aside0.mk (blk_below (g := gb307) (o := .cells #[.string a0_0, .int .i64 a0_1, .string a0_2] 35 (0, 0)) (by (with_reducible repeat (first | refine blk_drewN ?_ _ | refine blk_drew ?_ | refine blk_alloc ?_ _)); exact BK307.out) hb); have n1_ := Aside0.mk (below_step (by repeat (first | (with_reducible first | exact HB.out | apply below_alloc | apply pw_below_drewN | apply below_drew1 | refine below_set ?_ GE307.out) | exact HB.out)) hb); have n2_ := Aside0.mk (hbox); have n3_ := Aside0.mk ((by rw [hg]; exact (below_size (by repeat (first | (with_reducible first | exact HB.out | apply below_alloc | apply pw_below_drewN | apply below_drew1 | refine below_set ?_ GE307.out) | exact HB.out))) : w.heap.size ≤ gb308)); have n4_ := Aside0.mk ((by rw [hg]; exact (below_size (by repeat (first | (with_reducible first | exact HB.out | apply below_alloc | apply pw_below_drewN | apply below_drew1 | refine below_set ?_ GE307.out) | exact HB.out))) : w.heap.size ≤ gb308)); have n5_ := Aside0.mk ((by rw [hg]; exact Nat.ne_of_lt (blk_lt (g := gb307) (o := .cells #[.string a0_0, .int .i64 a0_1, .string a0_2] 35 (0, 0)) (by (with_reducible repeat (first | refine blk_drewN ?_ _ | refine blk_drew ?_ | refine blk_alloc ?_ _)); exact BK307.out)) : gb307 ≠ gb308)); have n6_ := Aside0.mk ((by rw [hg]; exact Nat.ne_of_gt (blk_lt (g := gb307) (o := .cells #[.string a0_0, .int .i64 a0_1, .string a0_2] 35 (0, 0)) (by (with_reducible repeat (first | refine blk_drewN ?_ _ | refine blk_drew ?_ | refine blk_alloc ?_ _)); exact BK307.out)) : gb308 ≠ gb307)); clear BK307; clear HB; have BK307 := n0_; have HB := n1_; have BK308 := n2_; have GW308 := n3_; have GE308 := n4_; have NB307_308 := n5_; have NB308_307 := n6_; clear n0_ n1_ n2_ n3_ n4_ n5_ n6_; clear hb hbox hg; have hnb26 := NB307_308.out; have hnc26 := NB308_307.out; have hcz27_0 : w25.cell? ⟨gb307, 0, none⟩ = some (.string a0_0) := (blk_cell BK307.out 0).trans rfl; have hcz27_1 : w25.cell? ⟨gb307, 1, none⟩ = some (.int .i64 a0_1) := (blk_cell BK307.out 1).trans rfl; have hcz27_2 : w25.cell? ⟨gb307, 2, none⟩ = some (.string a0_2) := (blk_cell BK307.out 2).trans rfl; have hfz27_0 := blk_frozen BK307.out 0; have hfz27_1 := blk_frozen BK307.out 1; have hfz27_2 := blk_frozen BK307.out 2) | ((with_reducible refine gate_callee (f := 22) rfl ?_); refine goesL_ (some 8) rfl rfl Tryd.func22 (by kernel_rfl) rfl #[.agg #[.string a0_0, .int .i64 a0_1, .string a0_2]] rfl (by (try simp only [List.map_toArray, List.map_cons, List.map_nil]); first | done | rfl | (simp only [List.length_drop, List.length_take]; rfl)) ?_; (with_reducible refine (uri_May.calls a0_0 a0_1 a0_2 false _ (Glob.below HGl.out (by repeat (first | (with_reducible first | exact HB.out | apply below_alloc | apply pw_below_drewN | apply below_drew1 | refine below_set ?_ GE307.out | refine below_set ?_ GE308.out) | exact HB.out))) A3.out).mono ?_); rintro e w28 ⟨rfl, hb⟩; refine ⟨_, rfl, ?_⟩; have n0_ := Aside0.mk (blk_below (g := gb307) (o := .cells #[.string a0_0, .int .i64 a0_1, .string a0_2] 35 (0, 0)) (by (with_reducible repeat (first | refine blk_drewN ?_ _ | refine blk_drew ?_ | refine blk_alloc ?_ _)); exact BK307.out) hb); have n1_ := Aside0.mk (blk_below (g := gb308) (o := .cells #[.string (⟨#[]⟩ : ByteArray), .int .i64 0, .string (⟨#[]⟩ : ByteArray)] 35 (0, 0)) (by (with_reducible repeat (first | refine blk_drewN ?_ _ | refine blk_drew ?_ | refine blk_alloc ?_ _)); exact BK308.out) hb); have n2_ := Aside0.mk (below_step (by repeat (first | (with_reducible first | exact HB.out | apply below_alloc | apply pw_below_drewN | apply below_drew1 | refine below_set ?_ GE307.out | refine below_set ?_ GE308.out) | exact HB.out)) hb); clear BK307; clear BK308; clear HB; have BK307 := n0_; have BK308 := n1_; have HB := n2_; clear n0_ n1_ n2_; (try clear hb); (try clear hb2); (try clear hk); (try clear hi); have hcz29_0 : w28.cell? ⟨gb308, 0, none⟩ = some (.string (⟨#[]⟩ : ByteArray)) := (blk_cell BK308.out 0).trans rfl; have hcz29_1 : w28.cell? ⟨gb308, 1, none⟩ = some (.int .i64 0) := (blk_cell BK308.out 1).trans rfl; have hcz29_2 : w28.cell? ⟨gb308, 2, none⟩ = some (.string (⟨#[]⟩ : ByteArray)) := (blk_cell BK308.out 2).trans rfl; have hfz29_0 := blk_frozen BK308.out 0; have hfz29_1 := blk_frozen BK308.out 1; have hfz29_2 := blk_frozen BK308.out 2))
    refine bodyPost_ret (results_ct rfl _ _ gb308 35 #[.string (⟨#[]⟩ : ByteArray), .int .i64 0, .string (⟨#[]⟩ : ByteArray)] (0, 0) _ rfl (by (with_reducible repeat (first | refine blk_drewN ?_ _ | refine blk_drew ?_ | refine blk_alloc ?_ _)); refine blk_put (cs := #[.string (⟨#[]⟩ : ByteArray), .int .i64 0, .string (⟨#[]⟩ : ByteArray)]) ?_ 2 _ rfl; (with_reducible repeat (first | refine blk_drewN ?_ _ | refine blk_drew ?_ | refine blk_alloc ?_ _)); refine blk_put (cs := #[.string (⟨#[]⟩ : ByteArray), .int .i64 0, .string (⟨#[]⟩ : ByteArray)]) ?_ 1 _ rfl; (with_reducible repeat (first | refine blk_drewN ?_ _ | refine blk_drew ?_ | refine blk_alloc ?_ _)); refine blk_put (cs := #[.string (⟨#[]⟩ : ByteArray), .int .i64 0, .string (⟨#[]⟩ : ByteArray)]) ?_ 0 _ rfl; (with_reducible repeat (first | refine blk_drewN ?_ _ | refine blk_drew ?_ | refine blk_alloc ?_ _)); exact BK308.out) Tryd.underlying35 rfl (by kernel_rfl)) rfl ?_
    exact ⟨by first | rfl | (simp [errW_none, errW_some] <;> rfl) | (simp [*, errW_none, errW_some] <;> rfl), by repeat (first | (with_reducible first | exact HB.out | apply below_alloc | apply pw_below_drewN | apply below_drew1 | refine below_set ?_ GE307.out | refine below_set ?_ GE308.out) | exact HB.out)⟩

end Go.Proofs.YtjdlaofeenblkaaDoor.X

-- PRINTED by print.py (a twelfth state) out of the translation. Not trusted: Lean checks it.
namespace Go.Proofs.YtjdlaofeenblkaaDoor.X
open Go.RowKit Go.Proofs.YtjdlaofeenblkaaDoorW.PrintWords Go.Proofs.YtjdlaofeenblkaaDoorW.PrintLast Go.Proofs.YtjdlaofeenblkaaDoorW.PrintMore
attribute [local go_sem] max2_int min2_int max_two min_two max_three min_three max_four min_four   -- for this text's walks alone
set_option linter.unusedVariables false
set_option linter.unusedSimpArgs false
open Go.Proofs.YtjdlaofeenblkaaDoor.T

/-! ### uri_Text: function 21 -/
def uri_Text.f (a0_0 : ByteArray) (a0_1 : Int) (a0_2 : ByteArray) : Option (ByteArray) := (uri_May.f a0_0 a0_1 a0_2).bind fun t270 => (if t270 = true then ((uri_authority.f a0_0 a0_1 a0_2).bind fun t271 => (if 7 + t271.size ≤ 9223372036854775807 then (if ((⟨#[104, 116, 116, 112, 58, 47, 47]⟩ : ByteArray) ++ t271).size + a0_2.size ≤ 9223372036854775807 then (some (((⟨#[104, 116, 116, 112, 58, 47, 47]⟩ : ByteArray) ++ t271) ++ a0_2)) else (none)) else (none))) else (some (⟨#[]⟩ : ByteArray)))
set_option maxHeartbeats 8000000 in
set_option maxRecDepth 100000 in
theorem uri_Text.calls (a0_0 : ByteArray) (a0_1 : Int) (a0_2 : ByteArray) (r : ByteArray) (w : World) (HGg : Glob w) (h : uri_Text.f a0_0 a0_1 a0_2 = some r) :
    Calls Tryd.prog 21 #[.agg #[.string a0_0, .int .i64 a0_1, .string a0_2]] w fun e w' => e = .returned (.string r) ∧ Below w.heap.size w w' := by
  have hu35 := Tryd.underlying35
  have HGl := Aside0.mk HGg
  clear HGg
  have HB := Aside0.mk (Below.refl w.heap.size w)
  have H : ((uri_May.f a0_0 a0_1 a0_2).bind fun t270 => (if t270 = true then ((uri_authority.f a0_0 a0_1 a0_2).bind fun t271 => (if 7 + t271.size ≤ 9223372036854775807 then (if ((⟨#[104, 116, 116, 112, 58, 47, 47]⟩ : ByteArray) ++ t271).size + a0_2.size ≤ 9223372036854775807 then (some (((⟨#[104, 116, 116, 112, 58, 47, 47]⟩ : ByteArray) ++ t271) ++ a0_2)) else (none)) else (none))) else (some (⟨#[]⟩ : ByteArray)))) = some r := h
  clear h
  replace H := Option.bind_eq_some_iff.mp H
  obtain ⟨t270, A20, H⟩ := H
  replace H : (if t270 = true then ((uri_authority.f a0_0 a0_1 a0_2).bind fun t271 => (if 7 + t271.size ≤ 9223372036854775807 then (if ((⟨#[104, 116, 116, 112, 58, 47, 47]⟩ : ByteArray) ++ t271).size + a0_2.size ≤ 9223372036854775807 then (some (((⟨#[104, 116, 116, 112, 58, 47, 47]⟩ : ByteArray) ++ t271) ++ a0_2)) else (none)) else (none))) else (some (⟨#[]⟩ : ByteArray))) = some r := H
  have A2 := Aside0.mk A20
  clear A20
  by_cases c3 : t270 = true
  · subst c3
    have H1 : ((uri_authority.f a0_0 a0_1 a0_2).bind fun t271 => (if 7 + t271.size ≤ 9223372036854775807 then (if ((⟨#[104, 116, 116, 112, 58, 47, 47]⟩ : ByteArray) ++ t271).size + a0_2.size ≤ 9223372036854775807 then (some (((⟨#[104, 116, 116, 112, 58, 47, 47]⟩ : ByteArray) ++ t271) ++ a0_2)) else (none)) else (none))) = some r := by rw [if_pos rfl] at H; exact H
    clear H
    have H := H1
    clear H1
    replace H := Option.bind_eq_some_iff.mp H
    obtain ⟨t271, A40, H⟩ := H
    replace H : (if 7 + t271.size ≤ 9223372036854775807 then (if ((⟨#[104, 116, 116, 112, 58, 47, 47]⟩ : ByteArray) ++ t271).size + a0_2.size ≤ 9223372036854775807 then (some (((⟨#[104, 116, 116, 112, 58, 47, 47]⟩ : ByteArray) ++ t271) ++ a0_2)) else (none)) else (none)) = some r := H
    have A4 := Aside0.mk A40
    clear A40
    by_cases c5 : 7 + t271.size ≤ 9223372036854775807
    · rw [if_pos c5] at H
      have c5b0 := eq_true c5
      have c5b1 : decide (7 + t271.size ≤ 9223372036854775807) = true := decide_eq_true c5
      try have c5b2 : (9223372036854775807 < 7 + t271.size) = False := eq_false (Nat.not_lt.2 c5)
      by_cases c6 : ((⟨#[104, 116, 116, 112, 58, 47, 47]⟩ : ByteArray) ++ t271).size + a0_2.size ≤ 9223372036854775807
      · rw [if_pos c6] at H
        have c6b0 := eq_true c6
        have c6b1 : decide (((⟨#[104, 116, 116, 112, 58, 47, 47]⟩ : ByteArray) ++ t271).size + a0_2.size ≤ 9223372036854775807) = true := decide_eq_true c6
        try have c6b3 : (9223372036854775807 < 7 + t271.size + a0_2.size) = False := eq_false (Nat.not_lt.2 (by have hq_ := c6; simp only [ByteArray.size_append] at hq_; first | exact hq_ | (simp at hq_; omega)))
        try have c6b2 : (9223372036854775807 < ((⟨#[104, 116, 116, 112, 58, 47, 47]⟩ : ByteArray) ++ t271).size + a0_2.size) = False := eq_false (Nat.not_lt.2 c6)
        obtain rfl := Option.some.inj H
        go_enter Tryd.func21, Tryd.ntmps21
        try go_wp2_with (first | ((with_reducible refine gate_dst (N := 1) rfl ?_); refine box_event ?hg (N := 1) ?hd (cs := #[.string a0_0, .int .i64 a0_1, .string a0_2]) (t := 35) ?hr ?_; (case hd => rfl); (case hg => rfl); (case hr => first | (go_simp; done) | (go_simp; rfl)); intro gb269 hg w7 hbox hb; have n0_ := Aside0.mk (below_step (by repeat (first | (with_reducible first | exact HB.out | apply below_alloc | apply pw_below_drewN | apply below_drew1) | exact HB.out)) hb); have n1_ := Aside0.mk (hbox); have n2_ := Aside0.mk ((by rw [hg]; exact (below_size (by repeat (first | (with_reducible first | exact HB.out | apply below_alloc | apply pw_below_drewN | apply below_drew1) | exact HB.out))) : w.heap.size ≤ gb269)); have n3_ := Aside0.mk ((by rw [hg]; exact (below_size (by repeat (first | (with_reducible first | exact HB.out | apply below_alloc | apply pw_below_drewN | apply below_drew1) | exact HB.out))) : w.heap.size ≤ gb269)); clear HB; have HB := n0_; have BK269 := n1_; have GW269 := n2_; have GE269 := n3_; clear n0_ n1_ n2_ n3_; clear hb hbox hg; have hcz8_0 : w7.cell? ⟨gb269, 0, none⟩ = some (.string a0_0) := (blk_cell BK269.out 0).trans rfl; have hcz8_1 : w7.cell? ⟨gb269, 1, none⟩ = some (.int .i64 a0_1) := (blk_cell BK269.out 1).trans rfl; have hcz8_2 : w7.cell? ⟨gb269, 2, none⟩ = some (.string a0_2) := (blk_cell BK269.out 2).trans rfl; have hfz8_0 := blk_frozen BK269.out 0; have hfz8_1 := blk_frozen BK269.out 1; have hfz8_2 := blk_frozen BK269.out 2) | ((with_reducible refine gate_callee (f := 22) rfl ?_); refine goesL_ (some 4) rfl rfl Tryd.func22 (by kernel_rfl) rfl #[.agg #[.string a0_0, .int .i64 a0_1, .string a0_2]] rfl (by (try simp only [List.map_toArray, List.map_cons, List.map_nil]); first | done | rfl | (simp only [List.length_drop, List.length_take]; rfl)) ?_; (with_reducible refine (uri_May.calls a0_0 a0_1 a0_2 true _ (Glob.below HGl.out (by repeat (first | (with_reducible first | exact HB.out | apply below_alloc | apply pw_below_drewN | apply below_drew1 | refine below_set ?_ GE269.out) | exact HB.out))) A2.out).mono ?_); rintro e w9 ⟨rfl, hb⟩; refine ⟨_, rfl, ?_⟩; have n0_ := Aside0.mk (blk_below (g := gb269) (o := .cells #[.string a0_0, .int .i64 a0_1, .string a0_2] 35 (0, 0)) (by (with_reducible repeat (first | refine blk_drewN ?_ _ | refine blk_drew ?_ | refine blk_alloc ?_ _)); exact BK269.out) hb); have n1_ := Aside0.mk (below_step (by repeat (first | (with_reducible first | exact HB.out | apply below_alloc | apply pw_below_drewN | apply below_drew1 | refine below_set ?_ GE269.out) | exact HB.out)) hb); clear BK269; clear HB; have BK269 := n0_; have HB := n1_; clear n0_ n1_; (try clear hb); (try clear hb2); (try clear hk); (try clear hi)))
        have n0_ := Aside0.mk (blk_drew BK269.out)
        have n1_ := Aside0.mk (below_drew1 HB.out)
        clear BK269
        clear HB
        have BK269 := n0_
        have HB := n1_
        clear n0_ n1_
        refine start_ (n := 7) (S := fun w' => w'.cell? ⟨gb269, 0, none⟩ = some (.string a0_0) ∧ w'.cell? ⟨gb269, 1, none⟩ = some (.int .i64 a0_1) ∧ w'.cell? ⟨gb269, 2, none⟩ = some (.string a0_2)) (ds := []) #[false, false, false, false, false, false, false] (by kernel_rfl) rfl rfl ⟨(blk_cell BK269.out 0).trans rfl, (blk_cell BK269.out 1).trans rfl, (blk_cell BK269.out 2).trans rfl⟩ (fun hHeld => ?_)
        generalize w9.drew = w10 at BK269 HB hHeld ⊢
        refine pure_ (i := 3) (N := some 9) (v := ?_) (a' := ?_) #[false, false, false, true, false, false, false] rfl rfl (by kernel_rfl) (fun _ _ _ h => h) (Or.inl ⟨by rfl, ?_⟩) ?_ ?_
        rotate_left
        · intro w'
          go_simp
          with_reducible rfl
        rotate_left
        · simp only [Act.put, List.setIfInBounds_toArray, List.set_cons_zero, List.set_cons_succ, i64_w, i32_w]
          rfl
        refine take_ (i := 0) (N := some 6) (v := ?_) (a' := ?_) #[true, false, false, true, false, false, false] rfl rfl (by kernel_rfl) (fun _ _ _ h => h) (Or.inl ⟨by rfl, ?_⟩) hHeld ?_ ?_
        rotate_left
        · rintro w' ⟨s0, s1, s2⟩
          go_simp
          with_reducible rfl
        rotate_left
        · simp only [Act.put, List.setIfInBounds_toArray, List.set_cons_zero, List.set_cons_succ, i64_w, i32_w]
          rfl
        refine take_ (i := 4) (N := some 10) (v := ?_) (a' := ?_) #[true, false, false, true, true, false, false] rfl rfl (by kernel_rfl) (fun _ _ _ h => h) (Or.inl ⟨by rfl, ?_⟩) hHeld ?_ ?_
        rotate_left
        · rintro w' ⟨s0, s1, s2⟩
          go_simp
          with_reducible rfl
        rotate_left
        · simp only [Act.put, List.setIfInBounds_toArray, List.set_cons_zero, List.set_cons_succ, i64_w, i32_w]
          rfl
        refine one_ (i := 1) (N := some 7) #[true, true, false, true, true, false, false] rfl rfl (by kernel_rfl) (by decide) (fun K hK => ?_)
        refine goes_ Tryd.func41 (by kernel_rfl) rfl #[.agg #[.string a0_0, .int .i64 a0_1, .string a0_2]] (by rfl) rfl rfl (by (try simp only [List.map_toArray, List.map_cons, List.map_nil]); first | done | rfl | (simp only [List.length_drop, List.length_take]; rfl)) ?_
        with_reducible refine (uri_authority.calls a0_0 a0_1 a0_2 t271 _ (Glob.below HGl.out (by repeat (first | (with_reducible first | exact HB.out | apply below_alloc | apply pw_below_drewN | apply below_drew1 | refine below_set ?_ GE269.out) | exact HB.out))) A4.out).mono ?_
        rintro e w11 ⟨rfl, hb⟩
        refine ⟨_, rfl, ?_⟩
        have n0_ := Aside0.mk (blk_below (g := gb269) (o := .cells #[.string a0_0, .int .i64 a0_1, .string a0_2] 35 (0, 0)) (by (with_reducible repeat (first | refine blk_drewN ?_ _ | refine blk_drew ?_ | refine blk_alloc ?_ _)); exact BK269.out) hb)
        have n1_ := Aside0.mk (below_step (by repeat (first | (with_reducible first | exact HB.out | apply below_alloc | apply pw_below_drewN | apply below_drew1 | refine below_set ?_ GE269.out) | exact HB.out)) hb)
        clear BK269
        clear HB
        have BK269 := n0_
        have HB := n1_
        clear n0_ n1_
        (try clear hb)
        (try clear hb2)
        (try clear hk)
        (try clear hi)
        refine hK.out _ _ ⟨(blk_cell BK269.out 0).trans rfl, (blk_cell BK269.out 1).trans rfl, (blk_cell BK269.out 2).trans rfl⟩ (fun hHeld => ?_)
        clear hK K
        refine norm_ (a' := ?_) ?_ ?_
        rotate_left
        · show Act.put _ (some 7) _ = _
          simp only [Act.put, List.setIfInBounds_toArray, List.set_cons_zero, List.set_cons_succ, i64_w, i32_w]
          rfl
        refine pure_ (i := 2) (N := some 8) (v := ?_) (a' := ?_) #[true, true, true, true, true, false, false] rfl rfl (by kernel_rfl) (fun _ _ _ h => h) (Or.inl ⟨by rfl, ?_⟩) ?_ ?_
        rotate_left
        · intro w'
          go_simp
          with_reducible rfl
        rotate_left
        · simp only [Act.put, List.setIfInBounds_toArray, List.set_cons_zero, List.set_cons_succ, i64_w, i32_w]
          rfl
        refine pure_ (i := 5) (N := some 11) (v := ?_) (a' := ?_) #[true, true, true, true, true, true, false] rfl rfl (by kernel_rfl) (fun _ _ _ h => h) (Or.inl ⟨by rfl, ?_⟩) ?_ ?_
        rotate_left
        · intro w'
          go_simp
          with_reducible rfl
        rotate_left
        · simp only [Act.put, List.setIfInBounds_toArray, List.set_cons_zero, List.set_cons_succ, i64_w, i32_w]
          rfl
        refine pure_ (i := 6) (N := some 2) (v := ?_) (a' := ?_) #[true, true, true, true, true, true, true] rfl rfl (by kernel_rfl) (fun _ _ _ h => h) (Or.inl ⟨by rfl, ?_⟩) ?_ ?_
        rotate_left
        · intro w'
          go_simp
          with_reducible rfl
        rotate_left
        · simp only [Act.put, List.setIfInBounds_toArray, List.set_cons_zero, List.set_cons_succ, i64_w, i32_w]
          rfl
        refine done_ (by kernel_rfl) ?_
        try go_wp2
        go_ret
        exact ⟨by first | rfl | (simp [errW_none, errW_some] <;> rfl) | (simp [*, errW_none, errW_some] <;> rfl), by repeat (first | (with_reducible first | exact HB.out | apply below_alloc | apply pw_below_drewN | apply below_drew1 | refine below_set ?_ GE269.out) | exact HB.out)⟩
      · rw [if_neg c6] at H
        exact absurd H (by simp)
    · rw [if_neg c5] at H
      exact absurd H (by simp)
  · replace c3 := Bool.eq_false_iff.mpr c3
    subst c3
    have H1 : (some (⟨#[]⟩ : ByteArray)) = some r := by rw [if_neg (show ¬ (false = true) by decide)] at H; exact H
    clear H
    have H := H1
    clear H1
    obtain rfl := Option.some.inj H
    go_enter Tryd.func21, Tryd.ntmps21
    go_wp2_with (first | ((with_reducible refine gate_dst (N := 1) rfl ?_); refine box_event ?hg (N := 1) ?hd (cs := #[.string a0_0, .int .i64 a0_1, .string a0_2]) (t := 35) ?hr ?_; (case hd => rfl); (case hg => rfl); (case hr => first | (go_simp; done) | (go_simp; rfl)); intro gb269 hg w12 hbox hb; have n0_ := Aside0.mk (below_step (by repeat (first | (with_reducible first | exact HB.out | apply below_alloc | apply pw_below_drewN | apply below_drew1) | exact HB.out)) hb); have n1_ := Aside0.mk (hbox); have n2_ := Aside0.mk ((by rw [hg]; exact (below_size (by repeat (first | (with_reducible first | exact HB.out | apply below_alloc | apply pw_below_drewN | apply below_drew1) | exact HB.out))) : w.heap.size ≤ gb269)); have n3_ := Aside0.mk ((by rw [hg]; exact (below_size (by repeat (first | (with_reducible first | exact HB.out | apply below_alloc | apply pw_below_drewN | apply below_drew1) | exact HB.out))) : w.heap.size ≤ gb269)); clear HB; have HB := n0_; have BK269 := n1_; have GW269 := n2_; have GE269 := n3_; clear n0_ n1_ n2_ n3_; clear hb hbox hg; have hcz13_0 : w12.cell? ⟨gb269, 0, none⟩ = some (.string a0_0) := (blk_cell BK269.out 0).trans rfl; have hcz13_1 : w12.cell? ⟨gb269, 1, none⟩ = some (.int .i64 a0_1) := (blk_cell BK269.out 1).trans rfl; have hcz13_2 : w12.cell? ⟨gb269, 2, none⟩ = some (.string a0_2) := (blk_cell BK269.out 2).trans rfl; have hfz13_0 := blk_frozen BK269.out 0; have hfz13_1 := blk_frozen BK269.out 1; have hfz13_2 := blk_frozen BK269.out 2) | ((with_reducible refine gate_callee (f := 22) rfl ?_); refine goesL_ (some 4) rfl rfl Tryd.func22 (by kernel_rfl) rfl #[.agg #[.string a0_0, .int .i64 a0_1, .string a0_2]] rfl (by (try simp only [List.map_toArray, List.map_cons, List.map_nil]); first | done | rfl | (simp only [List.length_drop, List.length_take]; rfl)) ?_; (with_reducible refine (uri_May.calls a0_0 a0_1 a0_2 false _ (Glob.below HGl.out (by repeat (first | (with_reducible first | exact HB.out | apply below_alloc | apply pw_below_drewN | apply below_drew1 | refine below_set ?_ GE269.out) | exact HB.out))) A2.out).mono ?_); rintro e w14 ⟨rfl, hb⟩; refine ⟨_, rfl, ?_⟩; have n0_ := Aside0.mk (blk_below (g := gb269) (o := .cells #[.string a0_0, .int .i64 a0_1, .string a0_2] 35 (0, 0)) (by (with_reducible repeat (first | refine blk_drewN ?_ _ | refine blk_drew ?_ | refine blk_alloc ?_ _)); exact BK269.out) hb); have n1_ := Aside0.mk (below_step (by repeat (first | (with_reducible first | exact HB.out | apply below_alloc | apply pw_below_drewN | apply below_drew1 | refine below_set ?_ GE269.out) | exact HB.out)) hb); clear BK269; clear HB; have BK269 := n0_; have HB := n1_; clear n0_ n1_; (try clear hb); (try clear hb2); (try clear hk); (try clear hi)))
    go_ret
    exact ⟨by first | rfl | (simp [errW_none, errW_some] <;> rfl) | (simp [*, errW_none, errW_some] <;> rfl), by repeat (first | (with_reducible first | exact HB.out | apply below_alloc | apply pw_below_drewN | apply below_drew1 | refine below_set ?_ GE269.out) | exact HB.out)⟩

end Go.Proofs.YtjdlaofeenblkaaDoor.X

/- URLs in plain words: what the functions of uri tell. -/
namespace Go.Proofs.YtjdlaofeenblkaaDoor.X
open Go.RowKit Go.Proofs.YtjdlaofeenblkaaDoorW.PrintWords Go.Proofs.YtjdlaofeenblkaaDoorW.PrintMore Go.Proofs.YtjdlaofeenblkaaDoor.T
set_option linter.unusedSimpArgs false
set_option linter.unusedVariables false
/-! ### numbers as texts -/
theorem dig_mem : ∀ u : Nat, ∀ c ∈ Lib.decDigits u, 48 ≤ c.toNat ∧ c.toNat ≤ 57 := by
  intro u
  induction u using Nat.strongRecOn with
  | ind u ih =>
    intro c hc
    rw [Lib.decDigits] at hc
    by_cases h : u < 10
    · rw [dif_pos h] at hc
      obtain rfl := List.mem_singleton.1 hc
      simp; omega
    · rw [dif_neg h] at hc
      rcases List.mem_append.1 hc with hc | hc
      · exact ih (u / 10) (by omega) c hc
      · obtain rfl := List.mem_singleton.1 hc
        simp; omega
theorem dig_ne (u : Nat) : Lib.decDigits u ≠ [] := by
  rw [Lib.decDigits]
  by_cases h : u < 10
  · rw [dif_pos h]; simp
  · rw [dif_neg h]; simp
theorem parse_dig : ∀ u : Nat, u ≤ 1000000000000000000 → ∀ l : List UInt8, Lib.parseUint10 0 (Lib.decDigits u ++ l) = Lib.parseUint10 u l := by
  intro u
  induction u using Nat.strongRecOn with
  | ind u ih =>
    intro hu l
    rw [Lib.decDigits]
    by_cases h : u < 10
    · rw [dif_pos h, List.singleton_append, Lib.parseUint10]
      have e : (UInt8.ofNat (48 + u)).toNat = 48 + u := by simp; omega
      rw [e, if_pos (by omega), if_neg (by omega), if_neg (by omega)]
      congr 1; omega
    · rw [dif_neg h, List.append_assoc, ih (u / 10) (by omega) (by omega), List.singleton_append, Lib.parseUint10]
      have e : (UInt8.ofNat (48 + u % 10)).toNat = 48 + u % 10 := by simp; omega
      rw [e, if_pos (by omega), if_neg (by omega), if_neg (by omega)]
      congr 1; omega
theorem atoi_dig (u : Nat) (hu : u ≤ 1000000000000000000) : Lib.atoiAll (Lib.decDigits u) = .ok (u : Int) := by
  cases hl : Lib.decDigits u with
  | nil => exact absurd hl (dig_ne u)
  | cons c r =>
    have hc := dig_mem u c (by rw [hl]; simp)
    rw [Lib.atoiAll_plain c r (by omega) (by omega), ← hl]
    have hp := parse_dig u hu []
    rw [List.append_nil] at hp
    unfold Lib.parseMag
    rw [if_neg (dig_ne u), hp]
    show Lib.signless (.ok u) = _
    unfold Lib.signless
    simp only
    rw [if_neg (by omega)]
theorem itoa_dig (p : Int) (h : 0 ≤ p) : Lib.itoa p = Lib.decDigits p.toNat := by unfold Lib.itoa; rw [if_neg (by omega)]
theorem port_itoa (p : Int) (h1 : 1 ≤ p) (h2 : p ≤ 65535) : portB ⟨(Lib.itoa p).toArray⟩ = p := by
  have e := atoi_dig p.toNat (by omega)
  rw [← itoa_dig p (by omega)] at e
  have e2 : ((p.toNat : Nat) : Int) = p := by omega
  rw [e2] at e
  have v : atoiV ⟨(Lib.itoa p).toArray⟩ = p := by unfold atoiV; simp only [e]
  have o : atoiOk ⟨(Lib.itoa p).toArray⟩ = true := by unfold atoiOk; simp only [e]
  unfold portB
  rw [v, o, if_pos ⟨rfl, rfl, h1, h2⟩]
theorem port_bounds (s : ByteArray) : 0 ≤ portB s ∧ portB s ≤ 65535 := by
  unfold portB
  split
  · rename_i h; omega
  · omega
/-! ### the functions -/
def authB (h : ByteArray) (p : Int) : ByteArray := if p = 80 then h else (h ++ ⟨#[58]⟩) ++ ⟨(Lib.itoa p).toArray⟩
def mayU (h : ByteArray) (p : Int) (q : ByteArray) : Bool := namedB h && (decide (1 ≤ p) && (decide (p ≤ 65535) && (pathB q && decide (7 + (authB h p).size + q.size ≤ 384))))
def schemeB : ByteArray := ⟨#[104, 116, 116, 112, 58, 47, 47]⟩
def textU (h : ByteArray) (p : Int) (q : ByteArray) : ByteArray := if mayU h p q = true then (schemeB ++ authB h p) ++ q else ⟨#[]⟩
def checkU (h : ByteArray) (p : Int) (q : ByteArray) : ByteArray × Int × ByteArray × Int := if mayU h p q = true then (h, p, q, 0) else noURL
theorem itoa_size (p : Int) (h1 : 1 ≤ p) (h2 : p ≤ 65535) : (Lib.itoa p).length ≤ 21 := Lib.itoa_length_le p (by omega) (by omega)
theorem auth_size (h : ByteArray) (p : Int) (h1 : 1 ≤ p) (h2 : p ≤ 65535) : (authB h p).size ≤ h.size + 22 := by
  unfold authB
  split
  · omega
  · rw [size_app, size_app]
    have := itoa_size p h1 h2
    show h.size + 1 + (Lib.itoa p).toArray.size ≤ _
    rw [List.size_toArray]; omega
theorem auth_eq (h : ByteArray) (p : Int) (q : ByteArray) (hs : h.size ≤ 4294967000) (h1 : 1 ≤ p) (h2 : p ≤ 65535) : uri_authority.f h p q = some (authB h p) := by
  have hz := itoa_size p h1 h2
  have e : strconv_Itoa.f p = some ⟨(Lib.itoa p).toArray⟩ := by unfold strconv_Itoa.f; rw [if_pos ⟨by omega, by omega⟩]
  unfold uri_authority.f authB
  by_cases h8 : p = 80
  · rw [if_pos h8, if_pos h8]
  · rw [if_neg h8, if_neg h8, if_pos (by omega), e]
    simp only [Option.bind_some]
    rw [if_pos]
    rw [size_app]
    show h.size + 1 + (Lib.itoa p).toArray.size ≤ _
    rw [List.size_toArray]; omega
theorem may_eq (h : ByteArray) (p : Int) (q : ByteArray) (hs : h.size ≤ 4294967000) (hq : q.size ≤ 2147470000) : uri_May.f h p q = some (mayU h p q) := by
  have e1 : uri_Named.f h = some (namedB h) := by unfold uri_Named.f; rw [if_pos (by omega)]
  have e2 : uri_path.f q = some (pathB q) := by unfold uri_path.f; rw [if_pos (by omega)]
  unfold uri_May.f mayU
  rw [e1, e2]
  simp only [Option.bind_some]
  cases namedB h with
  | false => rfl
  | true =>
    rw [if_pos rfl]
    by_cases h1 : p ≥ 1
    · rw [if_pos h1, decide_eq_true (show 1 ≤ p from h1)]
      by_cases h2 : p ≤ 65535
      · rw [if_pos h2, decide_eq_true h2]
        cases pathB q with
        | false => rfl
        | true =>
          rw [if_pos rfl, auth_eq h p q hs h1 h2]
          have hz := auth_size h p h1 h2
          simp only [Option.bind_some]
          have e : wrap64 (wrap64 (7 + ((authB h p).size : Int)) + (q.size : Int)) = 7 + ((authB h p).size : Int) + (q.size : Int) := by unfold wrap64; omega
          rw [e]
          simp only [Bool.true_and]
          congr 1
          rw [decide_eq_decide]; omega
      · rw [if_neg h2, decide_eq_false h2]; rfl
    · rw [if_neg h1, decide_eq_false (show ¬ 1 ≤ p from h1)]; rfl
theorem may_parts {h : ByteArray} {p : Int} {q : ByteArray} (hm : mayU h p q = true) : namedB h = true ∧ 1 ≤ p ∧ p ≤ 65535 ∧ pathB q = true ∧ 7 + (authB h p).size + q.size ≤ 384 := by
  unfold mayU at hm
  simp only [Bool.and_eq_true, decide_eq_true_eq] at hm
  exact hm
theorem text_eq (h : ByteArray) (p : Int) (q : ByteArray) (hs : h.size ≤ 4294967000) (hq : q.size ≤ 2147470000) : uri_Text.f h p q = some (textU h p q) := by
  unfold uri_Text.f textU
  rw [may_eq h p q hs hq]
  simp only [Option.bind_some]
  cases hm : mayU h p q with
  | false => rfl
  | true =>
    obtain ⟨_, h1, h2, _, hz⟩ := may_parts hm
    rw [if_pos rfl, if_pos rfl, auth_eq h p q hs h1 h2]
    simp only [Option.bind_some]
    rw [if_pos (by omega), if_pos]
    · rfl
    · rw [size_app]
      show 7 + (authB h p).size + q.size ≤ _
      omega
theorem named_empty : namedB ⟨#[]⟩ = false := by
  unfold namedB
  have : labelsB ⟨#[]⟩ = [⟨#[]⟩] := labels_no _ (fun k => by simp)
  rw [this]; rfl
theorem empty_of {s : ByteArray} (h : s.toList = []) : s = ⟨#[]⟩ := bytes_ext (by rw [← toList_eq, h])
theorem check_eq (h : ByteArray) (p : Int) (q : ByteArray) (hs : h.size ≤ 4294967000) (hq : q.size ≤ 2147470000) : uri_checked.f h p q = some (checkU h p q) := by
  unfold uri_checked.f checkU
  rw [may_eq h p q hs hq]
  simp only [Option.bind_some]
  by_cases hz : (h.toList == ([] : List UInt8) && (p == 0 && (q.toList == ([] : List UInt8)))) = true
  · rw [if_pos hz]
    simp only [Bool.and_eq_true, beq_iff_eq] at hz
    have hm : mayU h p q = false := by
      unfold mayU
      rw [empty_of hz.1, named_empty]; rfl
    rw [hm]; rfl
  · rw [if_neg hz]
    cases mayU h p q <;> rfl
def cutU (q x : ByteArray) : ByteArray × Int × ByteArray × Int := checkU (lowerB ⟨(Lib.cut x.data.toList [58]).1.toArray⟩) (if (Lib.cut x.data.toList [58]).2.2 = true then portB ⟨(Lib.cut x.data.toList [58]).2.1.toArray⟩ else 80) q
def queryU (q : ByteArray) : ByteArray := if bt q 0 = 63 then ⟨#[47]⟩ ++ q else q
def restU (r : ByteArray) : ByteArray × Int × ByteArray × Int := if Lib.indexAny r.data.toList [47, 63] ≥ 0 then cutU (queryU (r.extract (Lib.indexAny r.data.toList [47, 63]).toNat r.size)) (r.extract 0 (Lib.indexAny r.data.toList [47, 63]).toNat) else cutU ⟨#[47]⟩ r
def parseU (s : ByteArray) : ByteArray × Int × ByteArray × Int := if (lowerB (s.extract 0 7)).toList = [104, 116, 116, 112, 58, 47, 47] then restU (s.extract 7 s.size) else noURL
def joinU (h : ByteArray) (p : Int) (q ref : ByteArray) : ByteArray × Int × ByteArray × Int := if mayU h p q = true then (if Lib.hasPrefix ref.data.toList [47] = true ∧ Lib.hasPrefix ref.data.toList [47, 47] = false then checkU h p ref else parseU ref) else noURL
theorem cut_sz (x : ByteArray) : (⟨(Lib.cut x.data.toList [58]).1.toArray⟩ : ByteArray).size ≤ x.size ∧ (⟨(Lib.cut x.data.toList [58]).2.1.toArray⟩ : ByteArray).size ≤ x.size := by
  have e := size_toList x
  show (Lib.cut x.data.toList [58]).1.toArray.size ≤ _ ∧ (Lib.cut x.data.toList [58]).2.1.toArray.size ≤ _
  rw [List.size_toArray, List.size_toArray]
  unfold Lib.cut
  split
  · exact ⟨by rw [List.length_take]; omega, by rw [List.length_drop]; omega⟩
  · exact ⟨by show x.data.toList.length ≤ _; omega, by simp⟩
theorem lower_f (s : ByteArray) (h : s.size ≤ 4294967296) : text_Lower.f s = some (lowerB s) := by unfold text_Lower.f; rw [if_pos (by omega)]
theorem cutU_eq (q x : ByteArray) (hx : x.size ≤ 2147470000) (hq : q.size ≤ 2147470000) : Ev (fun k => uri_Parse.j0 k x ⟨#[]⟩ 80 q) (cutU q x) := by
  have hz := cut_sz x
  have e1 : strings_Cut.f x (⟨#[58]⟩ : ByteArray) = some (⟨(Lib.cut x.data.toList [58]).1.toArray⟩, ⟨(Lib.cut x.data.toList [58]).2.1.toArray⟩, (Lib.cut x.data.toList [58]).2.2) := by
    unfold strings_Cut.f
    rw [if_pos (by omega)]
  refine Ev.done fun k => ?_
  simp only [uri_Parse.j0]
  rw [e1]
  simp only [Option.bind_some]
  rw [lower_f _ (by omega)]
  simp only [Option.bind_some]
  have e2 : uri_port.f ⟨(Lib.cut x.data.toList [58]).2.1.toArray⟩ = some (portB ⟨(Lib.cut x.data.toList [58]).2.1.toArray⟩) := by unfold uri_port.f; rw [if_pos (by omega)]
  unfold cutU
  cases hc : (Lib.cut x.data.toList [58]).2.2 with
  | true =>
    rw [if_pos rfl, if_pos rfl, e2]
    simp only [Option.bind_some]
    rw [check_eq _ _ _ (by rw [size_lower]; omega) hq]
    rfl
  | false =>
    rw [if_neg (by decide), if_neg (by decide), check_eq _ _ _ (by rw [size_lower]; omega) hq]
    rfl
theorem any_le : ∀ (l c : List UInt8), Lib.indexAny l c < (l.length : Int) ∧ -1 ≤ Lib.indexAny l c := by
  intro l c
  refine ⟨?_, Lib.indexAny_ge c l⟩
  induction l with
  | nil =>
    show Lib.indexAny [] c < 0
    unfold Lib.indexAny
    omega
  | cons x t ih =>
    unfold Lib.indexAny
    split
    · simp only [List.length_cons]; omega
    · simp only [List.length_cons]
      split <;> omega
theorem mn_7 (n : Nat) : mn (n : Int) 7 = ((min n 7 : Nat) : Int) := by unfold mn; split <;> omega
theorem parse_ev (s : ByteArray) (hs : s.size ≤ 2147460000) : Ev (fun k => uri_Parse.f k s) (parseU s) := by
  have e0 : ((min s.size 7 : Nat) : Int).toNat = min s.size 7 := Int.toNat_natCast _
  have ex : s.extract 0 (min s.size 7) = s.extract 0 7 := bytes_ext (by rw [Lib.extract_from_zero, Lib.extract_from_zero, ← size_toList, List.take_eq_take_iff]; omega)
  have hl : text_Lower.f (s.extract 0 7) = some (lowerB (s.extract 0 7)) := lower_f _ (by rw [ByteArray.size_extract]; omega)
  have hm1 : (0 : Int) ≤ ((min s.size 7 : Nat) : Int) := by omega
  have hm2 : ((min s.size 7 : Nat) : Int) ≤ (s.size : Int) := by omega
  by_cases hp : (lowerB (s.extract 0 7)).toList = [104, 116, 116, 112, 58, 47, 47]
  · have h7 : 7 ≤ s.size := by
      have := congrArg List.length hp
      rw [toList_eq, size_toList, size_lower, ByteArray.size_extract] at this
      simp at this; omega
    have em : min s.size 7 = 7 := by omega
    have hrz : (s.extract 7 s.size).size ≤ 2147460000 := by rw [ByteArray.size_extract]; omega
    obtain ⟨r, er⟩ : ∃ r, r = s.extract 7 s.size := ⟨_, rfl⟩
    rw [← er] at hrz
    have hi : strings_IndexAny.f r (⟨#[47, 63]⟩ : ByteArray) = some (Lib.indexAny r.data.toList [47, 63]) := by unfold strings_IndexAny.f; rw [if_pos ⟨rfl, by omega⟩]
    have hb := any_le r.data.toList [47, 63]
    rw [size_toList] at hb
    have eP : parseU s = restU r := by unfold parseU; rw [if_pos hp, er]
    rw [eP]
    unfold restU
    generalize Lib.indexAny r.data.toList [47, 63] = i at hb hi
    by_cases h0 : i ≥ 0
    · rw [if_pos h0]
      obtain ⟨n, rfl⟩ : ∃ n : Nat, i = n := ⟨i.toNat, by omega⟩
      have hq : (r.extract n r.size).size = r.size - n := by rw [ByteArray.size_extract]; omega
      have hx : (r.extract 0 n).size ≤ 2147470000 := by rw [ByteArray.size_extract]; omega
      simp only [Int.toNat_natCast]
      unfold queryU
      by_cases hc : bt (r.extract n r.size) 0 = 63
      · rw [if_pos hc]
        refine Ev.same (fun k => ?_) (cutU_eq _ _ hx (by rw [size_app, hq]; show 1 + _ ≤ _; omega))
        unfold uri_Parse.f
        rw [mn_7, e0, ex, if_pos hm1, if_pos hm2, hl]
        simp only [Option.bind_some]
        rw [if_pos hp, em, ← er, hi]
        simp only [Option.bind_some, Int.toNat_natCast]
        rw [if_pos h0, if_pos h0, if_pos (by omega), if_pos (by omega), if_pos hc, if_pos (by omega)]
      · rw [if_neg hc]
        refine Ev.same (fun k => ?_) (cutU_eq _ _ hx (by omega))
        unfold uri_Parse.f
        rw [mn_7, e0, ex, if_pos hm1, if_pos hm2, hl]
        simp only [Option.bind_some]
        rw [if_pos hp, em, ← er, hi]
        simp only [Option.bind_some, Int.toNat_natCast]
        rw [if_pos h0, if_pos h0, if_pos (by omega), if_pos (by omega), if_neg hc]
    · rw [if_neg h0]
      refine Ev.same (fun k => ?_) (cutU_eq _ _ (show r.size ≤ 2147470000 by omega) (by decide))
      unfold uri_Parse.f
      rw [mn_7, e0, ex, if_pos hm1, if_pos hm2, hl]
      simp only [Option.bind_some]
      rw [if_pos hp, em, ← er, hi]
      simp only [Option.bind_some]
      rw [if_neg h0]
  · have eP : parseU s = noURL := by unfold parseU; rw [if_neg hp]
    rw [eP]
    refine Ev.const fun k => ?_
    unfold uri_Parse.f
    rw [mn_7, e0, ex, if_pos hm1, if_pos hm2, hl]
    simp only [Option.bind_some]
    rw [if_neg hp]; rfl
theorem join_ev (h : ByteArray) (p : Int) (q ref : ByteArray) (hs : h.size ≤ 4294967000) (hq : q.size ≤ 2147470000) (hr : ref.size ≤ 2147460000) : Ev (fun k => uri_Join.f k h p q ref) (joinU h p q ref) := by
  have e1 : strings_HasPrefix.f ref (⟨#[47]⟩ : ByteArray) = some (Lib.hasPrefix ref.data.toList [47]) := rfl
  have e2 : strings_HasPrefix.f ref (⟨#[47, 47]⟩ : ByteArray) = some (Lib.hasPrefix ref.data.toList [47, 47]) := rfl
  have eM := may_eq h p q hs hq
  have hP : Ev (fun k => uri_Join.j0 k ref false h p q) (parseU ref) := Ev.stepBind (f := fun k => uri_Parse.f k ref) (g := fun k bt => some (bt.1, bt.2.1, bt.2.2.1, bt.2.2.2)) (fun k => by simp only [uri_Join.j0]; rw [if_neg (by decide)]) (parse_ev ref hr) (Ev.const fun _ => rfl)
  have hC : Ev (fun k => uri_Join.j0 k ref true h p q) (checkU h p ref) := Ev.done fun k => by
    simp only [uri_Join.j0]
    rw [if_pos trivial, check_eq h p ref hs (by omega)]; rfl
  unfold joinU
  cases hm : mayU h p q with
  | false =>
    rw [hm] at eM
    exact Ev.const fun k => by unfold uri_Join.f; rw [eM]; rfl
  | true =>
    rw [hm] at eM
    rw [if_pos rfl]
    cases h1 : Lib.hasPrefix ref.data.toList [47] with
    | false =>
      rw [if_neg (fun hh => by cases hh.1)]
      refine Ev.same (fun k => ?_) hP
      unfold uri_Join.f
      rw [eM, e1, h1]; rfl
    | true =>
      cases h2 : Lib.hasPrefix ref.data.toList [47, 47] with
      | false =>
        rw [if_pos ⟨rfl, rfl⟩]
        refine Ev.same (fun k => ?_) hC
        unfold uri_Join.f
        rw [eM, e1, h1, e2, h2]; rfl
      | true =>
        rw [if_neg (fun hh => by cases hh.2)]
        refine Ev.same (fun k => ?_) hP
        unfold uri_Join.f
        rw [eM, e1, h1, e2, h2]; rfl
end Go.Proofs.YtjdlaofeenblkaaDoor.X

/- Where a text is cut at a sign. -/
namespace Go.Proofs.YtjdlaofeenblkaaDoor.X
open Go.RowKit Go.Proofs.YtjdlaofeenblkaaDoorW.PrintWords Go.Proofs.YtjdlaofeenblkaaDoorW.PrintMore Go.Proofs.YtjdlaofeenblkaaDoor.T
set_option linter.unusedSimpArgs false
set_option linter.unusedVariables false
theorem index_no (c : UInt8) : ∀ l : List UInt8, c ∉ l → Lib.index l [c] = -1
  | [], _ => rfl
  | x :: t, h => by
    have h1 : c ≠ x := fun e => h (by rw [e]; exact List.mem_cons_self ..)
    have ih := index_no c t (fun m => h (List.mem_cons_of_mem _ m))
    have hp : List.isPrefixOf [c] (x :: t) = false := by simp [List.isPrefixOf, h1]
    rw [Lib.index, hp, ih]; rfl
theorem index_app (c : UInt8) (b : List UInt8) : ∀ a : List UInt8, c ∉ a → Lib.index (a ++ c :: b) [c] = a.length
  | [], _ => by
    have hp : List.isPrefixOf [c] (c :: b) = true := by simp [List.isPrefixOf]
    rw [List.nil_append, Lib.index, hp]; rfl
  | x :: t, h => by
    have h1 : c ≠ x := fun e => h (by rw [e]; exact List.mem_cons_self ..)
    have ih := index_app c b t (fun m => h (List.mem_cons_of_mem _ m))
    have hp : List.isPrefixOf [c] (x :: (t ++ c :: b)) = false := by simp [List.isPrefixOf, h1]
    rw [List.cons_append, Lib.index, hp, ih]
    have e : ((t.length : Int) == -1) = false := by simp
    rw [e]
    simp
theorem cut_no (c : UInt8) (l : List UInt8) (h : c ∉ l) : Lib.cut l [c] = (l, [], false) := by
  unfold Lib.cut
  rw [index_no c l h, if_neg (by decide)]
theorem cut_app (c : UInt8) (a b : List UInt8) (h : c ∉ a) : Lib.cut (a ++ c :: b) [c] = (a, b, true) := by
  unfold Lib.cut
  rw [index_app c b a h, if_pos (by omega), Int.toNat_natCast, List.take_left' rfl]
  have e : (a ++ c :: b).drop (a.length + [c].length) = b := by
    rw [← List.drop_drop, List.drop_left' rfl]; rfl
  rw [e]
end Go.Proofs.YtjdlaofeenblkaaDoor.X

/- A URL's text tells it again. -/
namespace Go.Proofs.YtjdlaofeenblkaaDoor.X
open Go.RowKit Go.Proofs.YtjdlaofeenblkaaDoorW.PrintWords Go.Proofs.YtjdlaofeenblkaaDoorW.PrintMore Go.Proofs.YtjdlaofeenblkaaDoor.T
set_option linter.unusedSimpArgs false
set_option linter.unusedVariables false
/-! ### the bytes of a host -/
theorem host_mem : ∀ (n : Nat) (l : List UInt8), l.length ≤ n → (partsB 46 ⟨l.toArray⟩).all labelB = true → ∀ c ∈ l, c = 46 ∨ isHostC c = true
  | n, l, hl, ha => by
    intro c hc
    by_cases h46 : (46 : UInt8) ∈ l
    · obtain ⟨a, b, e, hn⟩ := split_first 46 l h46
      have hz : l.length = a.length + 1 + b.length := by rw [e]; simp; omega
      rw [parts_cons 46 ⟨l.toArray⟩ a b e hn, List.all_cons, Bool.and_eq_true] at ha
      match n, hl with
      | 0, hl => omega
      | n + 1, hl =>
        rw [e] at hc
        rcases List.mem_append.1 hc with hc | hc
        · have h2 := ha.1
          unfold labelB at h2
          rw [Bool.and_eq_true, List.all_eq_true] at h2
          exact .inr (h2.2 c hc)
        · rcases List.mem_cons.1 hc with rfl | hc
          · exact .inl rfl
          · exact host_mem n b (by omega) ha.2 c hc
    · rw [parts_one 46 ⟨l.toArray⟩ h46, List.all_cons, Bool.and_eq_true] at ha
      have h2 := ha.1
      unfold labelB at h2
      rw [Bool.and_eq_true, List.all_eq_true] at h2
      exact .inr (h2.2 c hc)
theorem named_mem {h : ByteArray} (hn : namedB h = true) : ∀ c ∈ h.data.toList, c = 46 ∨ isHostC c = true := by
  unfold namedB at hn
  rw [Bool.and_eq_true] at hn
  exact host_mem _ h.data.toList (Nat.le_refl _) hn.1
theorem hostC_nat {c : UInt8} (h : c = 46 ∨ isHostC c = true) : c.toNat = 46 ∨ c.toNat = 45 ∨ (97 ≤ c.toNat ∧ c.toNat ≤ 122) ∨ (48 ≤ c.toNat ∧ c.toNat ≤ 57) := by
  have h2 : ∀ n : Fin 256, isHostC (UInt8.ofNat n.val) = true → ((UInt8.ofNat n.val).toNat = 45 ∨ (97 ≤ (UInt8.ofNat n.val).toNat ∧ (UInt8.ofNat n.val).toNat ≤ 122) ∨ (48 ≤ (UInt8.ofNat n.val).toNat ∧ (UInt8.ofNat n.val).toNat ≤ 57)) := by decide +kernel
  rcases h with rfl | h
  · exact .inl rfl
  · have := h2 ⟨c.toNat, c.toNat_lt⟩ (by simpa using h)
    simp only [UInt8.ofNat_toNat] at this
    exact .inr this
theorem byte_ne {c : UInt8} {n : Nat} (h : c.toNat ≠ n) (hn : n < 256) : c ≠ UInt8.ofNat n := fun e => h (by rw [e]; simp; omega)
theorem lowC_same {c : UInt8} (h : c.toNat < 65 ∨ 90 < c.toNat) : lowC c = c := by
  have h2 : ∀ n : Fin 256, ((UInt8.ofNat n.val).toNat < 65 ∨ 90 < (UInt8.ofNat n.val).toNat) → lowC (UInt8.ofNat n.val) = UInt8.ofNat n.val := by decide +kernel
  have := h2 ⟨c.toNat, c.toNat_lt⟩ (by simpa using h)
  simpa using this
theorem lower_data (s : ByteArray) : (lowerB s).data.toList = s.data.toList.map lowC := rfl
theorem lower_host {h : ByteArray} (hn : namedB h = true) : lowerB h = h := bytes_ext (by
  rw [lower_data]
  have : ∀ c ∈ h.data.toList, lowC c = c := fun c hc => by
    have := hostC_nat (named_mem hn c hc)
    exact lowC_same (by omega)
  exact (List.map_congr_left (g := id) this).trans (List.map_id _))
/-! ### a URL's text -/
def AuthC (c : UInt8) : Prop := c.toNat ≠ 47 ∧ c.toNat ≠ 63
theorem auth_mem {hh : ByteArray} (hC : ∀ c ∈ hh.data.toList, AuthC c) (p : Int) (h1 : 1 ≤ p) : ∀ c ∈ (authB hh p).data.toList, AuthC c := by
  intro c hc
  unfold authB at hc
  by_cases h8 : p = 80
  · rw [if_pos h8] at hc; exact hC c hc
  · rw [if_neg h8, toList_app, toList_app] at hc
    rcases List.mem_append.1 hc with hc | hc
    · rcases List.mem_append.1 hc with hc | hc
      · exact hC c hc
      · obtain rfl := List.mem_singleton.1 (show c ∈ [(58 : UInt8)] from hc)
        exact ⟨by decide, by decide⟩
    · have hc2 : c ∈ Lib.itoa p := hc
      rw [itoa_dig p (by omega)] at hc2
      have := dig_mem _ c hc2
      exact ⟨by omega, by omega⟩
theorem any_at (a b : List UInt8) (h : ∀ c ∈ a, AuthC c) : Lib.indexAny (a ++ 47 :: b) [47, 63] = (a.length : Int) := by
  refine Lib.indexAny_hit (x := 47) (fun j c hj hc => ?_) ?_ (by decide)
  · rw [List.getElem?_append_left hj] at hc
    have := h c (List.mem_of_getElem? hc)
    have e1 : c ≠ 47 := fun e => this.1 (by rw [e]; rfl)
    have e2 : c ≠ 63 := fun e => this.2 (by rw [e]; rfl)
    simp [e1, e2]
  · rw [List.getElem?_append_right (Nat.le_refl _), Nat.sub_self]; rfl
theorem path_head {q : ByteArray} (h : pathB q = true) : ∃ t, q.data.toList = 47 :: t := by
  unfold pathB at h
  rw [Bool.and_eq_true] at h
  have h2 := h.1
  cases hl : q.data.toList with
  | nil => rw [hl] at h2; exact absurd h2 (by decide)
  | cons c t =>
    rw [hl] at h2
    have : c = 47 := by
      unfold Lib.hasPrefix at h2
      exact (by simpa using h2 : 47 = c).symm
    exact ⟨t, by rw [this]⟩
theorem extract_app_right (a b : ByteArray) : (a ++ b).extract a.size (a ++ b).size = b := bytes_ext (by
  rw [Lib.extract_to_end, toList_app, ← size_toList, List.drop_left])
theorem extract_app_left (a b : ByteArray) : (a ++ b).extract 0 a.size = a := bytes_ext (by
  rw [Lib.extract_from_zero, toList_app, ← size_toList, List.take_left])
theorem bt_first {s : ByteArray} {c : UInt8} {t : List UInt8} (h : s.data.toList = c :: t) : bt s 0 = (c.toNat : Int) := by
  have hz : 0 < s.size := by rw [← size_toList, h]; simp
  exact (bt_is hz c).2 (by rw [h]; rfl)
theorem rest_form (hh q : ByteArray) (p : Int) (h1 : 1 ≤ p) (h2 : p ≤ 65535) (hC : ∀ c ∈ hh.data.toList, AuthC c ∧ c.toNat ≠ 58) (hq : pathB q = true) : restU (authB hh p ++ q) = checkU (lowerB hh) p q := by
  obtain ⟨t, ht⟩ := path_head hq
  have hi : Lib.indexAny (authB hh p ++ q).data.toList [47, 63] = ((authB hh p).size : Int) := by
    rw [toList_app, ht, any_at _ t (auth_mem (fun c hc => (hC c hc).1) p h1), size_toList]
  unfold restU
  rw [hi, if_pos (by omega)]
  simp only [Int.toNat_natCast]
  rw [extract_app_right, extract_app_left]
  have hQ : queryU q = q := by unfold queryU; rw [bt_first ht, if_neg (by decide)]
  rw [hQ]
  unfold cutU
  have h58 : (58 : UInt8) ∉ hh.data.toList := fun hm => (hC 58 hm).2 rfl
  by_cases h8 : p = 80
  · have ea : authB hh p = hh := by unfold authB; rw [if_pos h8]
    rw [ea, cut_no 58 _ h58]
    dsimp only
    rw [if_neg (by decide), h8]
  · have ea : (authB hh p).data.toList = hh.data.toList ++ 58 :: Lib.itoa p := by
      unfold authB
      rw [if_neg h8, toList_app, toList_app, List.append_assoc]; rfl
    rw [ea, cut_app 58 _ _ h58]
    dsimp only
    rw [if_pos rfl, port_itoa p h1 h2]
theorem parse_form (sc hh q : ByteArray) (p : Int) (hs : lowerB sc = schemeB) (h1 : 1 ≤ p) (h2 : p ≤ 65535) (hC : ∀ c ∈ hh.data.toList, AuthC c ∧ c.toNat ≠ 58) (hq : pathB q = true) : parseU ((sc ++ authB hh p) ++ q) = checkU (lowerB hh) p q := by
  have hz : sc.size = 7 := by rw [← size_lower, hs]; rfl
  have ea : (sc ++ authB hh p) ++ q = sc ++ (authB hh p ++ q) := bytes_ext (by simp only [toList_app, List.append_assoc])
  have e0 : (sc ++ (authB hh p ++ q)).extract 0 7 = sc := by rw [← hz]; exact extract_app_left _ _
  have e1 : (sc ++ (authB hh p ++ q)).extract 7 (sc ++ (authB hh p ++ q)).size = authB hh p ++ q := by
    have := extract_app_right sc (authB hh p ++ q)
    rwa [hz] at this
  unfold parseU
  rw [ea, e0, e1, hs, if_pos (by rw [toList_eq]; rfl)]
  exact rest_form hh q p h1 h2 hC hq
theorem host_auth {h : ByteArray} (hn : namedB h = true) : ∀ c ∈ h.data.toList, AuthC c ∧ c.toNat ≠ 58 := fun c hc => by
  have := hostC_nat (named_mem hn c hc)
  exact ⟨⟨by omega, by omega⟩, by omega⟩
theorem lower_scheme : lowerB schemeB = schemeB := by decide +kernel
theorem parse_text {h q : ByteArray} {p : Int} (hm : mayU h p q = true) : parseU (textU h p q) = (h, p, q, 0) := by
  obtain ⟨hn, h1, h2, hq, hz⟩ := may_parts hm
  unfold textU
  rw [if_pos hm, parse_form schemeB h q p lower_scheme h1 h2 (host_auth hn) hq, lower_host hn]
  unfold checkU
  rw [if_pos hm]
/-! ### what is told -/
theorem may_none : mayU ⟨#[]⟩ 0 ⟨#[]⟩ = false := by unfold mayU; rw [named_empty]; rfl
/-- a URL that may be and no error, or none and ErrURL -/
def Told (r : ByteArray × Int × ByteArray × Int) : Prop := (r.2.2.2 = 0 ∧ mayU r.1 r.2.1 r.2.2.1 = true) ∨ r = noURL
theorem told_check (h : ByteArray) (p : Int) (q : ByteArray) : Told (checkU h p q) := by
  unfold checkU
  cases hm : mayU h p q with
  | true => rw [if_pos rfl]; exact .inl ⟨rfl, hm⟩
  | false => rw [if_neg (by decide)]; exact .inr rfl
theorem told_parse (s : ByteArray) : Told (parseU s) := by
  unfold parseU
  split
  · unfold restU
    split <;> exact told_check _ _ _
  · exact .inr rfl
theorem told_join (h : ByteArray) (p : Int) (q ref : ByteArray) : Told (joinU h p q ref) := by
  unfold joinU
  split
  · split
    · exact told_check _ _ _
    · exact told_parse _
  · exact .inr rfl
theorem may_sizes {h q : ByteArray} {p : Int} (hm : mayU h p q = true) : h.size ≤ 384 ∧ q.size ≤ 384 := by
  obtain ⟨_, _, _, _, hz⟩ := may_parts hm
  have : h.size ≤ (authB h p).size := by
    unfold authB
    split
    · exact Nat.le_refl _
    · rw [size_app, size_app]; omega
  omega
theorem text_size (h : ByteArray) (p : Int) (q : ByteArray) : (textU h p q).size ≤ 384 := by
  unfold textU
  split
  · rename_i hm
    obtain ⟨_, _, _, _, hz⟩ := may_parts hm
    rw [size_app, size_app]
    show 7 + _ + _ ≤ _
    omega
  · decide
end Go.Proofs.YtjdlaofeenblkaaDoor.X

-- PRINTED by print.py (a twelfth state) out of the translation. Not trusted: Lean checks it.
namespace Go.Proofs.YtjdlaofeenblkaaDoor.X
open Go.RowKit Go.Proofs.YtjdlaofeenblkaaDoorW.PrintWords Go.Proofs.YtjdlaofeenblkaaDoorW.PrintLast Go.Proofs.YtjdlaofeenblkaaDoorW.PrintMore
attribute [local go_sem] max2_int min2_int max_two min_two max_three min_three max_four min_four   -- for this text's walks alone
set_option linter.unusedVariables false
set_option linter.unusedSimpArgs false
open Go.Proofs.YtjdlaofeenblkaaDoor.T

/-! ### uri_Host: function 24 -/
def uri_Host.f (a0_0 : ByteArray) (a0_1 : Int) (a0_2 : ByteArray) : Option (ByteArray) := (uri_May.f a0_0 a0_1 a0_2).bind fun t290 => (if t290 = true then ((uri_authority.f a0_0 a0_1 a0_2).bind fun t291 => (some t291)) else (some (⟨#[]⟩ : ByteArray)))
set_option maxHeartbeats 8000000 in
set_option maxRecDepth 100000 in
theorem uri_Host.calls (a0_0 : ByteArray) (a0_1 : Int) (a0_2 : ByteArray) (r : ByteArray) (w : World) (HGg : Glob w) (h : uri_Host.f a0_0 a0_1 a0_2 = some r) :
    Calls Tryd.prog 24 #[.agg #[.string a0_0, .int .i64 a0_1, .string a0_2]] w fun e w' => e = .returned (.string r) ∧ Below w.heap.size w w' := by
  have hu35 := Tryd.underlying35
  have HGl := Aside0.mk HGg
  clear HGg
  have HB := Aside0.mk (Below.refl w.heap.size w)
  have H : ((uri_May.f a0_0 a0_1 a0_2).bind fun t290 => (if t290 = true then ((uri_authority.f a0_0 a0_1 a0_2).bind fun t291 => (some t291)) else (some (⟨#[]⟩ : ByteArray)))) = some r := h
  clear h
  replace H := Option.bind_eq_some_iff.mp H
  obtain ⟨t290, A20, H⟩ := H
  replace H : (if t290 = true then ((uri_authority.f a0_0 a0_1 a0_2).bind fun t291 => (some t291)) else (some (⟨#[]⟩ : ByteArray))) = some r := H
  have A2 := Aside0.mk A20
  clear A20
  by_cases c3 : t290 = true
  · subst c3
    have H1 : ((uri_authority.f a0_0 a0_1 a0_2).bind fun t291 => (some t291)) = some r := by rw [if_pos rfl] at H; exact H
    clear H
    have H := H1
    clear H1
    replace H := Option.bind_eq_some_iff.mp H
    obtain ⟨t291, A40, H⟩ := H
    replace H : (some t291) = some r := H
    have A4 := Aside0.mk A40
    clear A40
    obtain rfl := Option.some.inj H
    go_enter Tryd.func24, Tryd.ntmps24
    go_wp2_with (first | ((with_reducible refine gate_dst (N := 1) rfl ?_); refine box_event ?hg (N := 1) ?hd (cs := #[.string a0_0, .int .i64 a0_1, .string a0_2]) (t := 35) ?hr ?_; (case hd => rfl); (case hg => rfl); (case hr => first | (go_simp; done) | (go_simp; rfl)); intro gb289 hg w5 hbox hb; have n0_ := Aside0.mk (below_step (by repeat (first | (with_reducible first | exact HB.out | apply below_alloc | apply pw_below_drewN | apply below_drew1) | exact HB.out)) hb); have n1_ := Aside0.mk (hbox); have n2_ := Aside0.mk ((by rw [hg]; exact (below_size (by repeat (first | (with_reducible first | exact HB.out | apply below_alloc | apply pw_below_drewN | apply below_drew1) | exact HB.out))) : w.heap.size ≤ gb289)); have n3_ := Aside0.mk ((by rw [hg]; exact (below_size (by repeat (first | (with_reducible first | exact HB.out | apply below_alloc | apply pw_below_drewN | apply below_drew1) | exact HB.out))) : w.heap.size ≤ gb289)); clear HB; have HB := n0_; have BK289 := n1_; have GW289 := n2_; have GE289 := n3_; clear n0_ n1_ n2_ n3_; clear hb hbox hg; have hcz6_0 : w5.cell? ⟨gb289, 0, none⟩ = some (.string a0_0) := (blk_cell BK289.out 0).trans rfl; have hcz6_1 : w5.cell? ⟨gb289, 1, none⟩ = some (.int .i64 a0_1) := (blk_cell BK289.out 1).trans rfl; have hcz6_2 : w5.cell? ⟨gb289, 2, none⟩ = some (.string a0_2) := (blk_cell BK289.out 2).trans rfl; have hfz6_0 := blk_frozen BK289.out 0; have hfz6_1 := blk_frozen BK289.out 1; have hfz6_2 := blk_frozen BK289.out 2) | ((with_reducible refine gate_callee (f := 22) rfl ?_); refine goesL_ (some 4) rfl rfl Tryd.func22 (by kernel_rfl) rfl #[.agg #[.string a0_0, .int .i64 a0_1, .string a0_2]] rfl (by (try simp only [List.map_toArray, List.map_cons, List.map_nil]); first | done | rfl | (simp only [List.length_drop, List.length_take]; rfl)) ?_; (with_reducible refine (uri_May.calls a0_0 a0_1 a0_2 true _ (Glob.below HGl.out (by repeat (first | (with_reducible first | exact HB.out | apply below_alloc | apply pw_below_drewN | apply below_drew1 | refine below_set ?_ GE289.out) | exact HB.out))) A2.out).mono ?_); rintro e w7 ⟨rfl, hb⟩; refine ⟨_, rfl, ?_⟩; have n0_ := Aside0.mk (blk_below (g := gb289) (o := .cells #[.string a0_0, .int .i64 a0_1, .string a0_2] 35 (0, 0)) (by (with_reducible repeat (first | refine blk_drewN ?_ _ | refine blk_drew ?_ | refine blk_alloc ?_ _)); exact BK289.out) hb); have n1_ := Aside0.mk (below_step (by repeat (first | (with_reducible first | exact HB.out | apply below_alloc | apply pw_below_drewN | apply below_drew1 | refine below_set ?_ GE289.out) | exact HB.out)) hb); clear BK289; clear HB; have BK289 := n0_; have HB := n1_; clear n0_ n1_; (try clear hb); (try clear hb2); (try clear hk); (try clear hi); have hcz8_0 : w7.cell? ⟨gb289, 0, none⟩ = some (.string a0_0) := (blk_cell BK289.out 0).trans rfl; have hcz8_1 : w7.cell? ⟨gb289, 1, none⟩ = some (.int .i64 a0_1) := (blk_cell BK289.out 1).trans rfl; have hcz8_2 : w7.cell? ⟨gb289, 2, none⟩ = some (.string a0_2) := (blk_cell BK289.out 2).trans rfl; have hfz8_0 := blk_frozen BK289.out 0; have hfz8_1 := blk_frozen BK289.out 1; have hfz8_2 := blk_frozen BK289.out 2) | ((with_reducible refine gate_callee (f := 41) rfl ?_); refine goesL_ (some 7) rfl rfl Tryd.func41 (by kernel_rfl) rfl #[.agg #[.string a0_0, .int .i64 a0_1, .string a0_2]] rfl (by (try simp only [List.map_toArray, List.map_cons, List.map_nil]); first | done | rfl | (simp only [List.length_drop, List.length_take]; rfl)) ?_; (with_reducible refine (uri_authority.calls a0_0 a0_1 a0_2 t291 _ (Glob.below HGl.out (by repeat (first | (with_reducible first | exact HB.out | apply below_alloc | apply pw_below_drewN | apply below_drew1 | refine below_set ?_ GE289.out) | exact HB.out))) A4.out).mono ?_); rintro e w9 ⟨rfl, hb⟩; refine ⟨_, rfl, ?_⟩; have n0_ := Aside0.mk (blk_below (g := gb289) (o := .cells #[.string a0_0, .int .i64 a0_1, .string a0_2] 35 (0, 0)) (by (with_reducible repeat (first | refine blk_drewN ?_ _ | refine blk_drew ?_ | refine blk_alloc ?_ _)); exact BK289.out) hb); have n1_ := Aside0.mk (below_step (by repeat (first | (with_reducible first | exact HB.out | apply below_alloc | apply pw_below_drewN | apply below_drew1 | refine below_set ?_ GE289.out) | exact HB.out)) hb); clear BK289; clear HB; have BK289 := n0_; have HB := n1_; clear n0_ n1_; (try clear hb); (try clear hb2); (try clear hk); (try clear hi)))
    go_ret
    exact ⟨by first | rfl | (simp [errW_none, errW_some] <;> rfl) | (simp [*, errW_none, errW_some] <;> rfl), by repeat (first | (with_reducible first | exact HB.out | apply below_alloc | apply pw_below_drewN | apply below_drew1 | refine below_set ?_ GE289.out) | exact HB.out)⟩
  · replace c3 := Bool.eq_false_iff.mpr c3
    subst c3
    have H1 : (some (⟨#[]⟩ : ByteArray)) = some r := by rw [if_neg (show ¬ (false = true) by decide)] at H; exact H
    clear H
    have H := H1
    clear H1
    obtain rfl := Option.some.inj H
    go_enter Tryd.func24, Tryd.ntmps24
    go_wp2_with (first | ((with_reducible refine gate_dst (N := 1) rfl ?_); refine box_event ?hg (N := 1) ?hd (cs := #[.string a0_0, .int .i64 a0_1, .string a0_2]) (t := 35) ?hr ?_; (case hd => rfl); (case hg => rfl); (case hr => first | (go_simp; done) | (go_simp; rfl)); intro gb289 hg w10 hbox hb; have n0_ := Aside0.mk (below_step (by repeat (first | (with_reducible first | exact HB.out | apply below_alloc | apply pw_below_drewN | apply below_drew1) | exact HB.out)) hb); have n1_ := Aside0.mk (hbox); have n2_ := Aside0.mk ((by rw [hg]; exact (below_size (by repeat (first | (with_reducible first | exact HB.out | apply below_alloc | apply pw_below_drewN | apply below_drew1) | exact HB.out))) : w.heap.size ≤ gb289)); have n3_ := Aside0.mk ((by rw [hg]; exact (below_size (by repeat (first | (with_reducible first | exact HB.out | apply below_alloc | apply pw_below_drewN | apply below_drew1) | exact HB.out))) : w.heap.size ≤ gb289)); clear HB; have HB := n0_; have BK289 := n1_; have GW289 := n2_; have GE289 := n3_; clear n0_ n1_ n2_ n3_; clear hb hbox hg; have hcz11_0 : w10.cell? ⟨gb289, 0, none⟩ = some (.string a0_0) := (blk_cell BK289.out 0).trans rfl; have hcz11_1 : w10.cell? ⟨gb289, 1, none⟩ = some (.int .i64 a0_1) := (blk_cell BK289.out 1).trans rfl; have hcz11_2 : w10.cell? ⟨gb289, 2, none⟩ = some (.string a0_2) := (blk_cell BK289.out 2).trans rfl; have hfz11_0 := blk_frozen BK289.out 0; have hfz11_1 := blk_frozen BK289.out 1; have hfz11_2 := blk_frozen BK289.out 2) | ((with_reducible refine gate_callee (f := 22) rfl ?_); refine goesL_ (some 4) rfl rfl Tryd.func22 (by kernel_rfl) rfl #[.agg #[.string a0_0, .int .i64 a0_1, .string a0_2]] rfl (by (try simp only [List.map_toArray, List.map_cons, List.map_nil]); first | done | rfl | (simp only [List.length_drop, List.length_take]; rfl)) ?_; (with_reducible refine (uri_May.calls a0_0 a0_1 a0_2 false _ (Glob.below HGl.out (by repeat (first | (with_reducible first | exact HB.out | apply below_alloc | apply pw_below_drewN | apply below_drew1 | refine below_set ?_ GE289.out) | exact HB.out))) A2.out).mono ?_); rintro e w12 ⟨rfl, hb⟩; refine ⟨_, rfl, ?_⟩; have n0_ := Aside0.mk (blk_below (g := gb289) (o := .cells #[.string a0_0, .int .i64 a0_1, .string a0_2] 35 (0, 0)) (by (with_reducible repeat (first | refine blk_drewN ?_ _ | refine blk_drew ?_ | refine blk_alloc ?_ _)); exact BK289.out) hb); have n1_ := Aside0.mk (below_step (by repeat (first | (with_reducible first | exact HB.out | apply below_alloc | apply pw_below_drewN | apply below_drew1 | refine below_set ?_ GE289.out) | exact HB.out)) hb); clear BK289; clear HB; have BK289 := n0_; have HB := n1_; clear n0_ n1_; (try clear hb); (try clear hb2); (try clear hk); (try clear hi)))
    go_ret
    exact ⟨by first | rfl | (simp [errW_none, errW_some] <;> rfl) | (simp [*, errW_none, errW_some] <;> rfl), by repeat (first | (with_reducible first | exact HB.out | apply below_alloc | apply pw_below_drewN | apply below_drew1 | refine below_set ?_ GE289.out) | exact HB.out)⟩

end Go.Proofs.YtjdlaofeenblkaaDoor.X

-- PRINTED by print.py (a twelfth state) out of the translation. Not trusted: Lean checks it.
namespace Go.Proofs.YtjdlaofeenblkaaDoor.X
open Go.RowKit Go.Proofs.YtjdlaofeenblkaaDoorW.PrintWords Go.Proofs.YtjdlaofeenblkaaDoorW.PrintLast Go.Proofs.YtjdlaofeenblkaaDoorW.PrintMore
attribute [local go_sem] max2_int min2_int max_two min_two max_three min_three max_four min_four   -- for this text's walks alone
set_option linter.unusedVariables false
set_option linter.unusedSimpArgs false
open Go.Proofs.YtjdlaofeenblkaaDoor.T

/-! ### uri_Authority: function 26 -/
def uri_Authority.f (a0 : ByteArray) : Option (ByteArray × Int × Int) := (strings_Cut.f a0 (⟨#[58]⟩ : ByteArray)).bind fun bt292 => ((text_Lower.f bt292.1).bind fun t295 => ((uri_port.f bt292.2.1).bind fun t296 => ((uri_Named.f t295).bind fun t297 => (if t297 = true then (if t296 = 0 then (some ((⟨#[]⟩ : ByteArray), 0, 23)) else (some (t295, t296, 0))) else (some ((⟨#[]⟩ : ByteArray), 0, 23))))))
set_option maxHeartbeats 8000000 in
set_option maxRecDepth 100000 in
theorem uri_Authority.calls (a0 : ByteArray) (r1 : ByteArray) (r2 : Int) (r3 : Int) (w : World) (HGg : Glob w) (h : uri_Authority.f a0 = some (r1, r2, r3)) :
    Calls Tryd.prog 26 #[.string a0] w fun e w' => e = .returned (.tuple #[.string r1, .int .i64 r2, .int .i64 r3]) ∧ Below w.heap.size w w' := by
  have HGl := Aside0.mk HGg
  clear HGg
  have HB := Aside0.mk (Below.refl w.heap.size w)
  have H : ((strings_Cut.f a0 (⟨#[58]⟩ : ByteArray)).bind fun bt292 => ((text_Lower.f bt292.1).bind fun t295 => ((uri_port.f bt292.2.1).bind fun t296 => ((uri_Named.f t295).bind fun t297 => (if t297 = true then (if t296 = 0 then (some ((⟨#[]⟩ : ByteArray), 0, 23)) else (some (t295, t296, 0))) else (some ((⟨#[]⟩ : ByteArray), 0, 23))))))) = some (r1, r2, r3) := h
  clear h
  replace H := Option.bind_eq_some_iff.mp H
  obtain ⟨⟨t292, t293, t294⟩, A20, H⟩ := H
  replace H : ((text_Lower.f t292).bind fun t295 => ((uri_port.f t293).bind fun t296 => ((uri_Named.f t295).bind fun t297 => (if t297 = true then (if t296 = 0 then (some ((⟨#[]⟩ : ByteArray), 0, 23)) else (some (t295, t296, 0))) else (some ((⟨#[]⟩ : ByteArray), 0, 23)))))) = some (r1, r2, r3) := H
  have A2 := Aside0.mk A20
  clear A20
  replace H := Option.bind_eq_some_iff.mp H
  obtain ⟨t295, A30, H⟩ := H
  replace H : ((uri_port.f t293).bind fun t296 => ((uri_Named.f t295).bind fun t297 => (if t297 = true then (if t296 = 0 then (some ((⟨#[]⟩ : ByteArray), 0, 23)) else (some (t295, t296, 0))) else (some ((⟨#[]⟩ : ByteArray), 0, 23))))) = some (r1, r2, r3) := H
  have A3 := Aside0.mk A30
  clear A30
  replace H := Option.bind_eq_some_iff.mp H
  obtain ⟨t296, A40, H⟩ := H
  replace H : ((uri_Named.f t295).bind fun t297 => (if t297 = true then (if t296 = 0 then (some ((⟨#[]⟩ : ByteArray), 0, 23)) else (some (t295, t296, 0))) else (some ((⟨#[]⟩ : ByteArray), 0, 23)))) = some (r1, r2, r3) := H
  have A4 := Aside0.mk A40
  clear A40
  replace H := Option.bind_eq_some_iff.mp H
  obtain ⟨t297, A50, H⟩ := H
  replace H : (if t297 = true then (if t296 = 0 then (some ((⟨#[]⟩ : ByteArray), 0, 23)) else (some (t295, t296, 0))) else (some ((⟨#[]⟩ : ByteArray), 0, 23))) = some (r1, r2, r3) := H
  have A5 := Aside0.mk A50
  clear A50
  by_cases c6 : t297 = true
  · subst c6
    have H1 : (if t296 = 0 then (some ((⟨#[]⟩ : ByteArray), 0, 23)) else (some (t295, t296, 0))) = some (r1, r2, r3) := by rw [if_pos rfl] at H; exact H
    clear H
    have H := H1
    clear H1
    by_cases c7 : t296 = 0
    · rw [if_pos c7] at H
      have c7b0 : (t296 == 0) = true := beq_iff_eq.mpr c7
      have c7b1 : (t296 != 0) = false := bne_eq_false_iff_eq.mpr c7
      clear c7
      simp only [Option.some.injEq, Prod.mk.injEq] at H
      obtain ⟨rfl, rfl, rfl⟩ := H
      go_enter Tryd.func26, Tryd.ntmps26
      go_wp2_with (first | ((with_reducible refine gate_callee (f := 44) rfl ?_); refine goesL_ (some 11) rfl rfl Tryd.func44 (by kernel_rfl) rfl #[.string a0, .string (⟨#[58]⟩ : ByteArray)] rfl (by (try simp only [List.map_toArray, List.map_cons, List.map_nil]); first | done | rfl | (simp only [List.length_drop, List.length_take]; rfl)) ?_; (with_reducible refine (strings_Cut.calls a0 (⟨#[58]⟩ : ByteArray) t292 t293 t294 _ (Glob.below HGl.out (by repeat (first | (with_reducible first | exact HB.out | apply below_alloc | apply pw_below_drewN | apply below_drew1) | exact HB.out))) A2.out).mono ?_); rintro e w' ⟨rfl, ⟨nd, rfl⟩⟩; refine ⟨_, rfl, ?_⟩) | ((with_reducible refine gate_callee (f := 27) rfl ?_); refine goesL_ (some 16) rfl rfl Tryd.func27 (by kernel_rfl) rfl #[.string t292] rfl (by (try simp only [List.map_toArray, List.map_cons, List.map_nil]); first | done | rfl | (simp only [List.length_drop, List.length_take]; rfl)) ?_; (with_reducible refine (text_Lower.calls t292 t295 _ (Glob.below HGl.out (by repeat (first | (with_reducible first | exact HB.out | apply below_alloc | apply pw_below_drewN | apply below_drew1) | exact HB.out))) A3.out).mono ?_); rintro e w8 ⟨rfl, hb⟩; refine ⟨_, rfl, ?_⟩; have n0_ := Aside0.mk (below_step (by repeat (first | (with_reducible first | exact HB.out | apply below_alloc | apply pw_below_drewN | apply below_drew1) | exact HB.out)) hb); clear HB; have HB := n0_; clear n0_; (try clear hb); (try clear hb2); (try clear hk); (try clear hi)) | ((with_reducible refine gate_callee (f := 45) rfl ?_); refine goesL_ (some 18) rfl rfl Tryd.func45 (by kernel_rfl) rfl #[.string t293] rfl (by (try simp only [List.map_toArray, List.map_cons, List.map_nil]); first | done | rfl | (simp only [List.length_drop, List.length_take]; rfl)) ?_; (with_reducible refine (uri_port.calls t293 t296 _ (Glob.below HGl.out (by repeat (first | (with_reducible first | exact HB.out | apply below_alloc | apply pw_below_drewN | apply below_drew1) | exact HB.out))) A4.out).mono ?_); rintro e w9 ⟨rfl, hb⟩; refine ⟨_, rfl, ?_⟩; have n0_ := Aside0.mk (below_step (by repeat (first | (with_reducible first | exact HB.out | apply below_alloc | apply pw_below_drewN | apply below_drew1) | exact HB.out)) hb); clear HB; have HB := n0_; clear n0_; (try clear hb); (try clear hb2); (try clear hk); (try clear hi)) | ((with_reducible refine gate_callee (f := 29) rfl ?_); refine goesL_ (some 20) rfl rfl Tryd.func29 (by kernel_rfl) rfl #[.string t295] rfl (by (try simp only [List.map_toArray, List.map_cons, List.map_nil]); first | done | rfl | (simp only [List.length_drop, List.length_take]; rfl)) ?_; (with_reducible refine (uri_Named.calls t295 true _ (Glob.below HGl.out (by repeat (first | (with_reducible first | exact HB.out | apply below_alloc | apply pw_below_drewN | apply below_drew1) | exact HB.out))) A5.out).mono ?_); rintro e w10 ⟨rfl, hb⟩; refine ⟨_, rfl, ?_⟩; have n0_ := Aside0.mk (below_step (by repeat (first | (with_reducible first | exact HB.out | apply below_alloc | apply pw_below_drewN | apply below_drew1) | exact HB.out)) hb); clear HB; have HB := n0_; clear n0_; (try clear hb); (try clear hb2); (try clear hk); (try clear hi)))
      go_ret3
      exact ⟨by first | rfl | (simp [errW_none, errW_some] <;> rfl) | (simp [*, errW_none, errW_some] <;> rfl), by repeat (first | (with_reducible first | exact HB.out | apply below_alloc | apply pw_below_drewN | apply below_drew1) | exact HB.out)⟩
    · rw [if_neg c7] at H
      have c7b0 : (t296 == 0) = false := beq_eq_false_iff_ne.mpr c7
      have c7b1 : (t296 != 0) = true := bne_iff_ne.mpr c7
      simp only [Option.some.injEq, Prod.mk.injEq] at H
      obtain ⟨rfl, rfl, rfl⟩ := H
      go_enter Tryd.func26, Tryd.ntmps26
      go_wp2_with (first | ((with_reducible refine gate_callee (f := 44) rfl ?_); refine goesL_ (some 11) rfl rfl Tryd.func44 (by kernel_rfl) rfl #[.string a0, .string (⟨#[58]⟩ : ByteArray)] rfl (by (try simp only [List.map_toArray, List.map_cons, List.map_nil]); first | done | rfl | (simp only [List.length_drop, List.length_take]; rfl)) ?_; (with_reducible refine (strings_Cut.calls a0 (⟨#[58]⟩ : ByteArray) t292 t293 t294 _ (Glob.below HGl.out (by repeat (first | (with_reducible first | exact HB.out | apply below_alloc | apply pw_below_drewN | apply below_drew1) | exact HB.out))) A2.out).mono ?_); rintro e w' ⟨rfl, ⟨nd, rfl⟩⟩; refine ⟨_, rfl, ?_⟩) | ((with_reducible refine gate_callee (f := 27) rfl ?_); refine goesL_ (some 16) rfl rfl Tryd.func27 (by kernel_rfl) rfl #[.string t292] rfl (by (try simp only [List.map_toArray, List.map_cons, List.map_nil]); first | done | rfl | (simp only [List.length_drop, List.length_take]; rfl)) ?_; (with_reducible refine (text_Lower.calls t292 t295 _ (Glob.below HGl.out (by repeat (first | (with_reducible first | exact HB.out | apply below_alloc | apply pw_below_drewN | apply below_drew1) | exact HB.out))) A3.out).mono ?_); rintro e w11 ⟨rfl, hb⟩; refine ⟨_, rfl, ?_⟩; have n0_ := Aside0.mk (below_step (by repeat (first | (with_reducible first | exact HB.out | apply below_alloc | apply pw_below_drewN | apply below_drew1) | exact HB.out)) hb); clear HB; have HB := n0_; clear n0_; (try clear hb); (try clear hb2); (try clear hk); (try clear hi)) | ((with_reducible refine gate_callee (f := 45) rfl ?_); refine goesL_ (some 18) rfl rfl Tryd.func45 (by kernel_rfl) rfl #[.string t293] rfl (by (try simp only [List.map_toArray, List.map_cons, List.map_nil]); first | done | rfl | (simp only [List.length_drop, List.length_take]; rfl)) ?_; (with_reducible refine (uri_port.calls t293 t296 _ (Glob.below HGl.out (by repeat (first | (with_reducible first | exact HB.out | apply below_alloc | apply pw_below_drewN | apply below_drew1) | exact HB.out))) A4.out).mono ?_); rintro e w12 ⟨rfl, hb⟩; refine ⟨_, rfl, ?_⟩; have n0_ := Aside0.mk (below_step (by repeat (first | (with_reducible first | exact HB.out | apply below_alloc | apply pw_below_drewN | apply below_drew1) | exact HB.out)) hb); clear HB; have HB := n0_; clear n0_; (try clear hb); (try clear hb2); (try clear hk); (try clear hi)) | ((with_reducible refine gate_callee (f := 29) rfl ?_); refine goesL_ (some 20) rfl rfl Tryd.func29 (by kernel_rfl) rfl #[.string t295] rfl (by (try simp only [List.map_toArray, List.map_cons, List.map_nil]); first | done | rfl | (simp only [List.length_drop, List.length_take]; rfl)) ?_; (with_reducible refine (uri_Named.calls t295 true _ (Glob.below HGl.out (by repeat (first | (with_reducible first | exact HB.out | apply below_alloc | apply pw_below_drewN | apply below_drew1) | exact HB.out))) A5.out).mono ?_); rintro e w13 ⟨rfl, hb⟩; refine ⟨_, rfl, ?_⟩; have n0_ := Aside0.mk (below_step (by repeat (first | (with_reducible first | exact HB.out | apply below_alloc | apply pw_below_drewN | apply below_drew1) | exact HB.out)) hb); clear HB; have HB := n0_; clear n0_; (try clear hb); (try clear hb2); (try clear hk); (try clear hi)))
      go_ret3
      exact ⟨by first | rfl | (simp [errW_none, errW_some] <;> rfl) | (simp [*, errW_none, errW_some] <;> rfl), by repeat (first | (with_reducible first | exact HB.out | apply below_alloc | apply pw_below_drewN | apply below_drew1) | exact HB.out)⟩
  · replace c6 := Bool.eq_false_iff.mpr c6
    subst c6
    have H1 : (some ((⟨#[]⟩ : ByteArray), 0, 23)) = some (r1, r2, r3) := by rw [if_neg (show ¬ (false = true) by decide)] at H; exact H
    clear H
    have H := H1
    clear H1
    simp only [Option.some.injEq, Prod.mk.injEq] at H
    obtain ⟨rfl, rfl, rfl⟩ := H
    go_enter Tryd.func26, Tryd.ntmps26
    go_wp2_with (first | ((with_reducible refine gate_callee (f := 44) rfl ?_); refine goesL_ (some 11) rfl rfl Tryd.func44 (by kernel_rfl) rfl #[.string a0, .string (⟨#[58]⟩ : ByteArray)] rfl (by (try simp only [List.map_toArray, List.map_cons, List.map_nil]); first | done | rfl | (simp only [List.length_drop, List.length_take]; rfl)) ?_; (with_reducible refine (strings_Cut.calls a0 (⟨#[58]⟩ : ByteArray) t292 t293 t294 _ (Glob.below HGl.out (by repeat (first | (with_reducible first | exact HB.out | apply below_alloc | apply pw_below_drewN | apply below_drew1) | exact HB.out))) A2.out).mono ?_); rintro e w' ⟨rfl, ⟨nd, rfl⟩⟩; refine ⟨_, rfl, ?_⟩) | ((with_reducible refine gate_callee (f := 27) rfl ?_); refine goesL_ (some 16) rfl rfl Tryd.func27 (by kernel_rfl) rfl #[.string t292] rfl (by (try simp only [List.map_toArray, List.map_cons, List.map_nil]); first | done | rfl | (simp only [List.length_drop, List.length_take]; rfl)) ?_; (with_reducible refine (text_Lower.calls t292 t295 _ (Glob.below HGl.out (by repeat (first | (with_reducible first | exact HB.out | apply below_alloc | apply pw_below_drewN | apply below_drew1) | exact HB.out))) A3.out).mono ?_); rintro e w14 ⟨rfl, hb⟩; refine ⟨_, rfl, ?_⟩; have n0_ := Aside0.mk (below_step (by repeat (first | (with_reducible first | exact HB.out | apply below_alloc | apply pw_below_drewN | apply below_drew1) | exact HB.out)) hb); clear HB; have HB := n0_; clear n0_; (try clear hb); (try clear hb2); (try clear hk); (try clear hi)) | ((with_reducible refine gate_callee (f := 45) rfl ?_); refine goesL_ (some 18) rfl rfl Tryd.func45 (by kernel_rfl) rfl #[.string t293] rfl (by (try simp only [List.map_toArray, List.map_cons, List.map_nil]); first | done | rfl | (simp only [List.length_drop, List.length_take]; rfl)) ?_; (with_reducible refine (uri_port.calls t293 t296 _ (Glob.below HGl.out (by repeat (first | (with_reducible first | exact HB.out | apply below_alloc | apply pw_below_drewN | apply below_drew1) | exact HB.out))) A4.out).mono ?_); rintro e w15 ⟨rfl, hb⟩; refine ⟨_, rfl, ?_⟩; have n0_ := Aside0.mk (below_step (by repeat (first | (with_reducible first | exact HB.out | apply below_alloc | apply pw_below_drewN | apply below_drew1) | exact HB.out)) hb); clear HB; have HB := n0_; clear n0_; (try clear hb); (try clear hb2); (try clear hk); (try clear hi)) | ((with_reducible refine gate_callee (f := 29) rfl ?_); refine goesL_ (some 20) rfl rfl Tryd.func29 (by kernel_rfl) rfl #[.string t295] rfl (by (try simp only [List.map_toArray, List.map_cons, List.map_nil]); first | done | rfl | (simp only [List.length_drop, List.length_take]; rfl)) ?_; (with_reducible refine (uri_Named.calls t295 false _ (Glob.below HGl.out (by repeat (first | (with_reducible first | exact HB.out | apply below_alloc | apply pw_below_drewN | apply below_drew1) | exact HB.out))) A5.out).mono ?_); rintro e w16 ⟨rfl, hb⟩; refine ⟨_, rfl, ?_⟩; have n0_ := Aside0.mk (below_step (by repeat (first | (with_reducible first | exact HB.out | apply below_alloc | apply pw_below_drewN | apply below_drew1) | exact HB.out)) hb); clear HB; have HB := n0_; clear n0_; (try clear hb); (try clear hb2); (try clear hk); (try clear hi)))
    go_ret3
    exact ⟨by first | rfl | (simp [errW_none, errW_some] <;> rfl) | (simp [*, errW_none, errW_some] <;> rfl), by repeat (first | (with_reducible first | exact HB.out | apply below_alloc | apply pw_below_drewN | apply below_drew1) | exact HB.out)⟩

end Go.Proofs.YtjdlaofeenblkaaDoor.X

/- What UriBack asks beside: a host's text, an authority, capital letters. -/
namespace Go.Proofs.YtjdlaofeenblkaaDoor.X
open Go.RowKit Go.Proofs.YtjdlaofeenblkaaDoorW.PrintWords Go.Proofs.YtjdlaofeenblkaaDoorW.PrintMore Go.Proofs.YtjdlaofeenblkaaDoor.T
set_option linter.unusedSimpArgs false
set_option linter.unusedVariables false
def hostU (h : ByteArray) (p : Int) (q : ByteArray) : ByteArray := if mayU h p q = true then authB h p else ⟨#[]⟩
theorem host_eq (h : ByteArray) (p : Int) (q : ByteArray) (hs : h.size ≤ 4294967000) (hq : q.size ≤ 2147470000) : uri_Host.f h p q = some (hostU h p q) := by
  unfold uri_Host.f hostU
  rw [may_eq h p q hs hq]
  simp only [Option.bind_some]
  cases hm : mayU h p q with
  | false => rfl
  | true =>
    obtain ⟨_, h1, h2, _⟩ := may_parts hm
    rw [if_pos rfl, if_pos rfl, auth_eq h p q hs h1 h2]
    rfl
def authU (x : ByteArray) : ByteArray × Int × Int := if namedB (lowerB ⟨(Lib.cut x.data.toList [58]).1.toArray⟩) = true then (if portB ⟨(Lib.cut x.data.toList [58]).2.1.toArray⟩ = 0 then (⟨#[]⟩, 0, 23) else (lowerB ⟨(Lib.cut x.data.toList [58]).1.toArray⟩, portB ⟨(Lib.cut x.data.toList [58]).2.1.toArray⟩, 0)) else (⟨#[]⟩, 0, 23)
theorem authority_eq (x : ByteArray) (hx : x.size ≤ 2147470000) : uri_Authority.f x = some (authU x) := by
  have hz := cut_sz x
  have e1 : strings_Cut.f x (⟨#[58]⟩ : ByteArray) = some (⟨(Lib.cut x.data.toList [58]).1.toArray⟩, ⟨(Lib.cut x.data.toList [58]).2.1.toArray⟩, (Lib.cut x.data.toList [58]).2.2) := by
    unfold strings_Cut.f
    rw [if_pos (by omega)]
  have e2 : uri_port.f ⟨(Lib.cut x.data.toList [58]).2.1.toArray⟩ = some (portB ⟨(Lib.cut x.data.toList [58]).2.1.toArray⟩) := by unfold uri_port.f; rw [if_pos (by omega)]
  have e3 : uri_Named.f (lowerB ⟨(Lib.cut x.data.toList [58]).1.toArray⟩) = some (namedB (lowerB ⟨(Lib.cut x.data.toList [58]).1.toArray⟩)) := by unfold uri_Named.f; rw [if_pos (by rw [size_lower]; omega)]
  unfold uri_Authority.f authU
  rw [e1]
  simp only [Option.bind_some]
  rw [lower_f _ (by omega), e2]
  simp only [Option.bind_some]
  rw [e3]
  simp only [Option.bind_some]
  split
  · split <;> rfl
  · rfl
theorem auth_told (h : ByteArray) (p : Int) (hn : namedB h = true) (h1 : 1 ≤ p) (h2 : p ≤ 65535) (x : ByteArray) (hx : x.data.toList = h.data.toList ++ 58 :: Lib.itoa p) : authU x = (h, p, 0) := by
  have h58 : (58 : UInt8) ∉ h.data.toList := fun hm => (host_auth hn 58 hm).2 rfl
  have eh : (⟨h.data.toList.toArray⟩ : ByteArray) = h := bytes_ext rfl
  unfold authU
  rw [hx, cut_app 58 _ _ h58]
  dsimp only
  rw [port_itoa p h1 h2, eh, lower_host hn, if_pos hn, if_neg (by omega)]
theorem auth_back {h q : ByteArray} {p : Int} (hm : mayU h p q = true) (h8 : p ≠ 80) : authU (hostU h p q) = (h, p, 0) := by
  obtain ⟨hn, h1, h2, _⟩ := may_parts hm
  refine auth_told h p hn h1 h2 _ ?_
  unfold hostU authB
  rw [if_pos hm, if_neg h8, toList_app, toList_app, List.append_assoc]; rfl
theorem auth_back80 {h q : ByteArray} (hm : mayU h 80 q = true) : authU (hostU h 80 q ++ ⟨#[58, 56, 48]⟩) = (h, 80, 0) := by
  obtain ⟨hn, h1, h2, _⟩ := may_parts hm
  refine auth_told h 80 hn h1 h2 _ ?_
  unfold hostU authB
  rw [if_pos hm, if_pos rfl, toList_app]
  have : Lib.itoa 80 = [56, 48] := by decide +kernel
  rw [this]
/-! ### capital letters -/
def upC (c : UInt8) : UInt8 := if 97 ≤ c.toNat ∧ c.toNat ≤ 122 then c - 32 else c
def upB (s : ByteArray) : ByteArray := ⟨(s.data.toList.map upC).toArray⟩
theorem upC_same {c : UInt8} (h : c.toNat < 97 ∨ 122 < c.toNat) : upC c = c := by unfold upC; rw [if_neg (by omega)]
theorem upC_nat (c : UInt8) : (upC c).toNat = if 97 ≤ c.toNat ∧ c.toNat ≤ 122 then c.toNat - 32 else c.toNat := by
  have h2 : ∀ n : Fin 256, (upC (UInt8.ofNat n.val)).toNat = if 97 ≤ (UInt8.ofNat n.val).toNat ∧ (UInt8.ofNat n.val).toNat ≤ 122 then (UInt8.ofNat n.val).toNat - 32 else (UInt8.ofNat n.val).toNat := by decide +kernel
  have := h2 ⟨c.toNat, c.toNat_lt⟩
  simpa only [UInt8.ofNat_toNat] using this
theorem low_up {c : UInt8} (h : c.toNat < 65 ∨ 90 < c.toNat) : lowC (upC c) = c := by
  have h2 : ∀ n : Fin 256, ((UInt8.ofNat n.val).toNat < 65 ∨ 90 < (UInt8.ofNat n.val).toNat) → lowC (upC (UInt8.ofNat n.val)) = UInt8.ofNat n.val := by decide +kernel
  have := h2 ⟨c.toNat, c.toNat_lt⟩ (by simpa only [UInt8.ofNat_toNat] using h)
  simpa only [UInt8.ofNat_toNat] using this
theorem up_app (a b : ByteArray) : upB (a ++ b) = upB a ++ upB b := bytes_ext (by
  rw [toList_app]
  show (a ++ b).data.toList.map upC = a.data.toList.map upC ++ b.data.toList.map upC
  rw [toList_app, List.map_append])
theorem up_itoa (p : Int) (h : 0 ≤ p) : (Lib.itoa p).map upC = Lib.itoa p := by
  rw [itoa_dig p h]
  have : ∀ c ∈ Lib.decDigits p.toNat, upC c = c := fun c hc => by
    have := dig_mem _ c hc
    exact upC_same (by omega)
  exact (List.map_congr_left (g := id) this).trans (List.map_id _)
theorem up_auth (h : ByteArray) (p : Int) (h1 : 1 ≤ p) : upB (authB h p) = authB (upB h) p := by
  unfold authB
  by_cases h8 : p = 80
  · rw [if_pos h8, if_pos h8]
  · rw [if_neg h8, if_neg h8, up_app, up_app]
    have e1 : upB ⟨#[58]⟩ = ⟨#[58]⟩ := by decide +kernel
    have e2 : upB ⟨(Lib.itoa p).toArray⟩ = ⟨(Lib.itoa p).toArray⟩ := bytes_ext (up_itoa p (by omega))
    rw [e1, e2]
theorem parse_up {h q : ByteArray} {p : Int} (hm : mayU h p q = true) : parseU ((upB schemeB ++ upB (authB h p)) ++ q) = (h, p, q, 0) := by
  obtain ⟨hn, h1, h2, hq, hz⟩ := may_parts hm
  have hN : ∀ c ∈ h.data.toList, c.toNat = 46 ∨ c.toNat = 45 ∨ (97 ≤ c.toNat ∧ c.toNat ≤ 122) ∨ (48 ≤ c.toNat ∧ c.toNat ≤ 57) := fun c hc => hostC_nat (named_mem hn c hc)
  have hC : ∀ c ∈ (upB h).data.toList, AuthC c ∧ c.toNat ≠ 58 := fun c hc => by
    obtain ⟨d, hd, rfl⟩ := List.mem_map.1 (show c ∈ h.data.toList.map upC from hc)
    have h3 := hN d hd
    have h4 := upC_nat d
    split at h4
    · exact ⟨⟨by omega, by omega⟩, by omega⟩
    · exact ⟨⟨by omega, by omega⟩, by omega⟩
  have hL : lowerB (upB h) = h := bytes_ext (by
    rw [lower_data]
    show (h.data.toList.map upC).map lowC = _
    rw [List.map_map]
    have : ∀ c ∈ h.data.toList, (lowC ∘ upC) c = c := fun c hc => by
      have := hN c hc
      exact low_up (by omega)
    exact (List.map_congr_left (g := id) this).trans (List.map_id _))
  rw [up_auth h p h1, parse_form (upB schemeB) (upB h) q p (by decide +kernel) h1 h2 hC hq, hL]
  unfold checkU
  rw [if_pos hm]
/-- The text with capital letters in its first n bytes. -/
def upS (s : ByteArray) (n : Nat) : ByteArray := ⟨((s.data.toList.take n).map upC ++ s.data.toList.drop n).toArray⟩
theorem up_text {h q : ByteArray} {p : Int} (hm : mayU h p q = true) : upS (textU h p q) (7 + (hostU h p q).size) = (upB schemeB ++ upB (authB h p)) ++ q := bytes_ext (by
  have e : (textU h p q).data.toList = (schemeB.data.toList ++ (authB h p).data.toList) ++ q.data.toList := by
    unfold textU
    rw [if_pos hm, toList_app, toList_app]
  have ez : 7 + (hostU h p q).size = (schemeB.data.toList ++ (authB h p).data.toList).length := by
    unfold hostU
    rw [if_pos hm, List.length_append, size_toList]; rfl
  show ((textU h p q).data.toList.take _).map upC ++ (textU h p q).data.toList.drop _ = _
  rw [ez, e, List.take_left, List.drop_left, toList_app, toList_app, List.map_append]
  rfl)
theorem parse_upper {h q : ByteArray} {p : Int} (hm : mayU h p q = true) : parseU (upS (textU h p q) (7 + (hostU h p q).size)) = (h, p, q, 0) := by rw [up_text hm, parse_up hm]
theorem text_none {h q : ByteArray} {p : Int} : textU h p q = ⟨#[]⟩ ↔ mayU h p q = false := by
  unfold textU
  constructor
  · intro he
    cases hm : mayU h p q with
    | false => rfl
    | true =>
      rw [hm, if_pos rfl] at he
      have := congrArg ByteArray.size he
      rw [size_app, size_app] at this
      have : schemeB.size = 7 := rfl
      have : (⟨#[]⟩ : ByteArray).size = 0 := rfl
      omega
  · intro hm; rw [hm, if_neg (by decide)]
end Go.Proofs.YtjdlaofeenblkaaDoor.X
