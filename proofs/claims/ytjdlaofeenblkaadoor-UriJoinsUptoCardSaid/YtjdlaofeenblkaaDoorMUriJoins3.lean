/- A part of the proof of the law UriJoins: contracts of functions that it reaches, and plain lemmas. -/
import Derived.Test.YtjdlaofeenblkaaDoorMUriJoins1
import Derived.Test.YtjdlaofeenblkaaDoorMUriJoins2
-- PRINTED by print.py (a twelfth state) out of the translation. Not trusted: Lean checks it.
namespace Go.Proofs.YtjdlaofeenblkaaDoor.X
open Go.RowKit Go.Proofs.YtjdlaofeenblkaaDoorW.PrintWords Go.Proofs.YtjdlaofeenblkaaDoorW.PrintLast Go.Proofs.YtjdlaofeenblkaaDoorW.PrintMore
attribute [local go_sem] max2_int min2_int max_two min_two max_three min_three max_four min_four   -- for this text's walks alone
set_option linter.unusedVariables false
set_option linter.unusedSimpArgs false
open Go.Proofs.YtjdlaofeenblkaaDoor.T

/-! ### uri_Parse: function 23 -/
def uri_Parse.j0 : Nat → ByteArray → ByteArray → Int → ByteArray → Option (ByteArray × Int × ByteArray × Int)
  | 0, _, _, _, _ => none
  | k + 1, x5, x275000, x275001, x275002 => (strings_Cut.f x5 (⟨#[58]⟩ : ByteArray)).bind fun bt276 => ((text_Lower.f bt276.1).bind fun t279 => (if bt276.2.2 = true then ((uri_port.f bt276.2.1).bind fun t280 => ((uri_checked.f t279 t280 x275002).bind fun bt281 => (some (bt281.1, bt281.2.1, bt281.2.2.1, bt281.2.2.2)))) else ((uri_checked.f t279 x275001 x275002).bind fun bt285 => (some (bt285.1, bt285.2.1, bt285.2.2.1, bt285.2.2.2)))))
def uri_Parse.f (k : Nat) (a0 : ByteArray) : Option (ByteArray × Int × ByteArray × Int) := if 0 ≤ (mn (a0.size : Int) 7) then (if (mn (a0.size : Int) 7) ≤ (a0.size : Int) then ((text_Lower.f (a0.extract 0 ((mn (a0.size : Int) 7) : Int).toNat)).bind fun t273 => (if t273.toList = ([104, 116, 116, 112, 58, 47, 47] : List UInt8) then ((strings_IndexAny.f (a0.extract ((mn (a0.size : Int) 7) : Int).toNat a0.size) (⟨#[47, 63]⟩ : ByteArray)).bind fun t275 => (if t275 ≥ 0 then (if 0 ≤ t275 then (if t275 ≤ ((a0.extract ((mn (a0.size : Int) 7) : Int).toNat a0.size).size : Int) then (if 0 < (((a0.extract ((mn (a0.size : Int) 7) : Int).toNat a0.size).extract (t275 : Int).toNat (a0.extract ((mn (a0.size : Int) 7) : Int).toNat a0.size).size).size : Int) then (if (bt ((a0.extract ((mn (a0.size : Int) 7) : Int).toNat a0.size).extract (t275 : Int).toNat (a0.extract ((mn (a0.size : Int) 7) : Int).toNat a0.size).size) 0) = 63 then (if 1 + ((a0.extract ((mn (a0.size : Int) 7) : Int).toNat a0.size).extract (t275 : Int).toNat (a0.extract ((mn (a0.size : Int) 7) : Int).toNat a0.size).size).size ≤ 9223372036854775807 then (uri_Parse.j0 k ((a0.extract ((mn (a0.size : Int) 7) : Int).toNat a0.size).extract 0 (t275 : Int).toNat) (⟨#[]⟩ : ByteArray) 80 ((⟨#[47]⟩ : ByteArray) ++ ((a0.extract ((mn (a0.size : Int) 7) : Int).toNat a0.size).extract (t275 : Int).toNat (a0.extract ((mn (a0.size : Int) 7) : Int).toNat a0.size).size))) else (none)) else (uri_Parse.j0 k ((a0.extract ((mn (a0.size : Int) 7) : Int).toNat a0.size).extract 0 (t275 : Int).toNat) (⟨#[]⟩ : ByteArray) 80 ((a0.extract ((mn (a0.size : Int) 7) : Int).toNat a0.size).extract (t275 : Int).toNat (a0.extract ((mn (a0.size : Int) 7) : Int).toNat a0.size).size))) else (none)) else (none)) else (none)) else (uri_Parse.j0 k (a0.extract ((mn (a0.size : Int) 7) : Int).toNat a0.size) (⟨#[]⟩ : ByteArray) 80 (⟨#[47]⟩ : ByteArray)))) else (some ((⟨#[]⟩ : ByteArray), 0, (⟨#[]⟩ : ByteArray), 23)))) else (none)) else (none)
theorem uri_Parse.mono_l : ∀ k, (∀ y0 y1 y2 y3, LeO (uri_Parse.j0 k y0 y1 y2 y3) (uri_Parse.j0 (k + 1) y0 y1 y2 y3))
  | 0 => fun _ _ _ _ r h => by simp [uri_Parse.j0] at h
  | k + 1 => by
    have ih0 := uri_Parse.mono_l k
    · intro y0 y1 y2 y3
      unfold uri_Parse.j0
      repeat' first
      | (with_reducible exact ih0 _ _ _ _)
      | (with_reducible exact LeO.refl _)
      | (with_reducible exact LeO.none _)
      | (with_reducible refine LeO.ite ?_ ?_)
      | (with_reducible refine LeO.bind ?_ (fun _ => ?_))
      | exact ih0 _ _ _ _
      | exact LeO.none _
      | refine LeO.ite ?_ ?_
      | refine LeO.bind ?_ (fun _ => ?_)
theorem uri_Parse.mono : ∀ a0 k, LeO (uri_Parse.f k a0) (uri_Parse.f (k + 1) a0) := by
  intro a0 k
  have ih0 := uri_Parse.mono_l k
  unfold uri_Parse.f
  repeat' first
      | (with_reducible exact ih0 _ _ _ _)
      | (with_reducible exact LeO.refl _)
      | (with_reducible exact LeO.none _)
      | (with_reducible refine LeO.ite ?_ ?_)
      | (with_reducible refine LeO.bind ?_ (fun _ => ?_))
      | exact ih0 _ _ _ _
      | exact LeO.none _
      | refine LeO.ite ?_ ?_
      | refine LeO.bind ?_ (fun _ => ?_)
def uri_Parse.T8 : Bool × List (List Nat × List Nat) := (true, [([], []), ([], []), ([0, 1], [0, 1]), ([], []), ([], []), ([3, 4], [3, 4]), ([0, 1, 2], []), ([6, 2, 0, 1, 2], [2, 6]), ([5, 7, 0, 1, 2, 3, 4, 5, 6, 7], [0, 3, 5])])
def uri_Parse.B8 : List Nat := [0, 0, 3, 0, 0, 24, 7, 71, 255]
theorem uri_Parse.tab8 : rtab .any (opsOf Tryd.f23 8) = uri_Parse.T8 := by kernel_rfl
theorem uri_Parse.bits8 : waitsOk uri_Parse.T8.2 uri_Parse.B8 = true := by kernel_rfl
set_option maxHeartbeats 8000000 in
set_option maxRecDepth 100000 in
theorem uri_Parse.calls (k : Nat) (a0 : ByteArray) (r1 : ByteArray) (r2 : Int) (r3 : ByteArray) (r4 : Int) (w : World) (HGg : Glob w) (h : uri_Parse.f k a0 = some (r1, r2, r3, r4)) :
    Calls Tryd.prog 23 #[.string a0] w fun e w' => e = .returned (.tuple #[.agg #[.string r1, .int .i64 r2, .string r3], .int .i64 r4]) ∧ Below w.heap.size w w' := by
  have hu35 := Tryd.underlying35
  have HGl := Aside0.mk HGg
  clear HGg
  have HB := Aside0.mk (Below.refl w.heap.size w)
  have H : (if 0 ≤ (mn (a0.size : Int) 7) then (if (mn (a0.size : Int) 7) ≤ (a0.size : Int) then ((text_Lower.f (a0.extract 0 ((mn (a0.size : Int) 7) : Int).toNat)).bind fun t273 => (if t273.toList = ([104, 116, 116, 112, 58, 47, 47] : List UInt8) then ((strings_IndexAny.f (a0.extract ((mn (a0.size : Int) 7) : Int).toNat a0.size) (⟨#[47, 63]⟩ : ByteArray)).bind fun t275 => (if t275 ≥ 0 then (if 0 ≤ t275 then (if t275 ≤ ((a0.extract ((mn (a0.size : Int) 7) : Int).toNat a0.size).size : Int) then (if 0 < (((a0.extract ((mn (a0.size : Int) 7) : Int).toNat a0.size).extract (t275 : Int).toNat (a0.extract ((mn (a0.size : Int) 7) : Int).toNat a0.size).size).size : Int) then (if (bt ((a0.extract ((mn (a0.size : Int) 7) : Int).toNat a0.size).extract (t275 : Int).toNat (a0.extract ((mn (a0.size : Int) 7) : Int).toNat a0.size).size) 0) = 63 then (if 1 + ((a0.extract ((mn (a0.size : Int) 7) : Int).toNat a0.size).extract (t275 : Int).toNat (a0.extract ((mn (a0.size : Int) 7) : Int).toNat a0.size).size).size ≤ 9223372036854775807 then (uri_Parse.j0 k ((a0.extract ((mn (a0.size : Int) 7) : Int).toNat a0.size).extract 0 (t275 : Int).toNat) (⟨#[]⟩ : ByteArray) 80 ((⟨#[47]⟩ : ByteArray) ++ ((a0.extract ((mn (a0.size : Int) 7) : Int).toNat a0.size).extract (t275 : Int).toNat (a0.extract ((mn (a0.size : Int) 7) : Int).toNat a0.size).size))) else (none)) else (uri_Parse.j0 k ((a0.extract ((mn (a0.size : Int) 7) : Int).toNat a0.size).extract 0 (t275 : Int).toNat) (⟨#[]⟩ : ByteArray) 80 ((a0.extract ((mn (a0.size : Int) 7) : Int).toNat a0.size).extract (t275 : Int).toNat (a0.extract ((mn (a0.size : Int) 7) : Int).toNat a0.size).size))) else (none)) else (none)) else (none)) else (uri_Parse.j0 k (a0.extract ((mn (a0.size : Int) 7) : Int).toNat a0.size) (⟨#[]⟩ : ByteArray) 80 (⟨#[47]⟩ : ByteArray)))) else (some ((⟨#[]⟩ : ByteArray), 0, (⟨#[]⟩ : ByteArray), 23)))) else (none)) else (none)) = some (r1, r2, r3, r4) := h
  clear h
  obtain ⟨ji2, hji2⟩ : ∃ j_ : Int, (mn (a0.size : Int) 7) = j_ := ⟨_, rfl⟩
  replace H : (if 0 ≤ (ji2) then (if (ji2) ≤ (a0.size : Int) then ((text_Lower.f (a0.extract 0 ((ji2) : Int).toNat)).bind fun t273 => (if t273.toList = ([104, 116, 116, 112, 58, 47, 47] : List UInt8) then ((strings_IndexAny.f (a0.extract ((ji2) : Int).toNat a0.size) (⟨#[47, 63]⟩ : ByteArray)).bind fun t275 => (if t275 ≥ 0 then (if 0 ≤ t275 then (if t275 ≤ ((a0.extract ((ji2) : Int).toNat a0.size).size : Int) then (if 0 < (((a0.extract ((ji2) : Int).toNat a0.size).extract (t275 : Int).toNat (a0.extract ((ji2) : Int).toNat a0.size).size).size : Int) then (if (bt ((a0.extract ((ji2) : Int).toNat a0.size).extract (t275 : Int).toNat (a0.extract ((ji2) : Int).toNat a0.size).size) 0) = 63 then (if 1 + ((a0.extract ((ji2) : Int).toNat a0.size).extract (t275 : Int).toNat (a0.extract ((ji2) : Int).toNat a0.size).size).size ≤ 9223372036854775807 then (uri_Parse.j0 k ((a0.extract ((ji2) : Int).toNat a0.size).extract 0 (t275 : Int).toNat) (⟨#[]⟩ : ByteArray) 80 ((⟨#[47]⟩ : ByteArray) ++ ((a0.extract ((ji2) : Int).toNat a0.size).extract (t275 : Int).toNat (a0.extract ((ji2) : Int).toNat a0.size).size))) else (none)) else (uri_Parse.j0 k ((a0.extract ((ji2) : Int).toNat a0.size).extract 0 (t275 : Int).toNat) (⟨#[]⟩ : ByteArray) 80 ((a0.extract ((ji2) : Int).toNat a0.size).extract (t275 : Int).toNat (a0.extract ((ji2) : Int).toNat a0.size).size))) else (none)) else (none)) else (none)) else (uri_Parse.j0 k (a0.extract ((ji2) : Int).toNat a0.size) (⟨#[]⟩ : ByteArray) 80 (⟨#[47]⟩ : ByteArray)))) else (some ((⟨#[]⟩ : ByteArray), 0, (⟨#[]⟩ : ByteArray), 23)))) else (none)) else (none)) = some (r1, r2, r3, r4) := by first | (rw [hji2] at H; exact H) | (simp only [hji2] at H ⊢; exact H)
  (try (have hji2h : ji2 ≤ 7 := by (rw [← hji2]; unfold mn; (repeat' split) <;> omega)))
  (try (have hji2g : ji2 ≤ 64 := by omega))
  (try (have hji2l : 0 ≤ ji2 := by (rw [← hji2]; unfold mn; (repeat' split) <;> omega)))
  (try (have hji2m : 0 ≤ ji2 := by omega))
  have hji2_ : (if 7 < (a0.size : Int) then 7 else (a0.size : Int)) = ji2 := hji2
  by_cases c3 : 0 ≤ (ji2)
  · rw [if_pos c3] at H
    have c3b0 := eq_true c3
    have c3b1 : decide (0 ≤ (ji2)) = true := decide_eq_true c3
    clear c3
    by_cases c4 : (ji2) ≤ (a0.size : Int)
    · rw [if_pos c4] at H
      have c4b0 := eq_true c4
      have c4b1 : decide ((ji2) ≤ (a0.size : Int)) = true := decide_eq_true c4
      clear c4
      replace H := Option.bind_eq_some_iff.mp H
      obtain ⟨t273, A50, H⟩ := H
      replace H : (if t273.toList = ([104, 116, 116, 112, 58, 47, 47] : List UInt8) then ((strings_IndexAny.f (a0.extract ((ji2) : Int).toNat a0.size) (⟨#[47, 63]⟩ : ByteArray)).bind fun t275 => (if t275 ≥ 0 then (if 0 ≤ t275 then (if t275 ≤ ((a0.extract ((ji2) : Int).toNat a0.size).size : Int) then (if 0 < (((a0.extract ((ji2) : Int).toNat a0.size).extract (t275 : Int).toNat (a0.extract ((ji2) : Int).toNat a0.size).size).size : Int) then (if (bt ((a0.extract ((ji2) : Int).toNat a0.size).extract (t275 : Int).toNat (a0.extract ((ji2) : Int).toNat a0.size).size) 0) = 63 then (if 1 + ((a0.extract ((ji2) : Int).toNat a0.size).extract (t275 : Int).toNat (a0.extract ((ji2) : Int).toNat a0.size).size).size ≤ 9223372036854775807 then (uri_Parse.j0 k ((a0.extract ((ji2) : Int).toNat a0.size).extract 0 (t275 : Int).toNat) (⟨#[]⟩ : ByteArray) 80 ((⟨#[47]⟩ : ByteArray) ++ ((a0.extract ((ji2) : Int).toNat a0.size).extract (t275 : Int).toNat (a0.extract ((ji2) : Int).toNat a0.size).size))) else (none)) else (uri_Parse.j0 k ((a0.extract ((ji2) : Int).toNat a0.size).extract 0 (t275 : Int).toNat) (⟨#[]⟩ : ByteArray) 80 ((a0.extract ((ji2) : Int).toNat a0.size).extract (t275 : Int).toNat (a0.extract ((ji2) : Int).toNat a0.size).size))) else (none)) else (none)) else (none)) else (uri_Parse.j0 k (a0.extract ((ji2) : Int).toNat a0.size) (⟨#[]⟩ : ByteArray) 80 (⟨#[47]⟩ : ByteArray)))) else (some ((⟨#[]⟩ : ByteArray), 0, (⟨#[]⟩ : ByteArray), 23))) = some (r1, r2, r3, r4) := H
      have A5 := Aside0.mk A50
      clear A50
      by_cases c6 : t273.toList = ([104, 116, 116, 112, 58, 47, 47] : List UInt8)
      · rw [if_pos c6] at H
        have c6b0 : (t273.toList == ([104, 116, 116, 112, 58, 47, 47] : List UInt8)) = true := beq_iff_eq.mpr c6
        have c6b1 : (t273.toList != ([104, 116, 116, 112, 58, 47, 47] : List UInt8)) = false := bne_eq_false_iff_eq.mpr c6
        clear c6
        have c7b0 := eq_true (of_decide_eq_true (by first | (with_reducible assumption) | assumption) : 0 ≤ (ji2))
        have c8b0 := eq_true (of_decide_eq_true (by first | (with_reducible assumption) | assumption) : (ji2) ≤ (a0.size : Int))
        replace H := Option.bind_eq_some_iff.mp H
        obtain ⟨t275, A90, H⟩ := H
        replace H : (if t275 ≥ 0 then (if 0 ≤ t275 then (if t275 ≤ ((a0.extract ((ji2) : Int).toNat a0.size).size : Int) then (if 0 < (((a0.extract ((ji2) : Int).toNat a0.size).extract (t275 : Int).toNat (a0.extract ((ji2) : Int).toNat a0.size).size).size : Int) then (if (bt ((a0.extract ((ji2) : Int).toNat a0.size).extract (t275 : Int).toNat (a0.extract ((ji2) : Int).toNat a0.size).size) 0) = 63 then (if 1 + ((a0.extract ((ji2) : Int).toNat a0.size).extract (t275 : Int).toNat (a0.extract ((ji2) : Int).toNat a0.size).size).size ≤ 9223372036854775807 then (uri_Parse.j0 k ((a0.extract ((ji2) : Int).toNat a0.size).extract 0 (t275 : Int).toNat) (⟨#[]⟩ : ByteArray) 80 ((⟨#[47]⟩ : ByteArray) ++ ((a0.extract ((ji2) : Int).toNat a0.size).extract (t275 : Int).toNat (a0.extract ((ji2) : Int).toNat a0.size).size))) else (none)) else (uri_Parse.j0 k ((a0.extract ((ji2) : Int).toNat a0.size).extract 0 (t275 : Int).toNat) (⟨#[]⟩ : ByteArray) 80 ((a0.extract ((ji2) : Int).toNat a0.size).extract (t275 : Int).toNat (a0.extract ((ji2) : Int).toNat a0.size).size))) else (none)) else (none)) else (none)) else (uri_Parse.j0 k (a0.extract ((ji2) : Int).toNat a0.size) (⟨#[]⟩ : ByteArray) 80 (⟨#[47]⟩ : ByteArray))) = some (r1, r2, r3, r4) := H
        have A9 := Aside0.mk A90
        clear A90
        have HC10 := Aside0.mk H
        clear H
        go_enter Tryd.func23, Tryd.ntmps23
        go_upto_if 27 with (first | ((with_reducible refine gate_dst (N := 2) rfl ?_); refine box_event ?hg (N := 2) ?hd (cs := #[.string (⟨#[]⟩ : ByteArray), .int .i64 0, .string (⟨#[]⟩ : ByteArray)]) (t := 35) ?hr ?_; (case hd => rfl); (case hg => rfl); (case hr => first | (go_simp; done) | (go_simp; rfl)); intro gb272 hg w11 hbox hb; have n0_ := Aside0.mk (below_step (by repeat (first | (with_reducible first | exact HB.out | apply below_alloc | apply pw_below_drewN | apply below_drew1) | exact HB.out)) hb); have n1_ := Aside0.mk (hbox); have n2_ := Aside0.mk ((by rw [hg]; exact (below_size (by repeat (first | (with_reducible first | exact HB.out | apply below_alloc | apply pw_below_drewN | apply below_drew1) | exact HB.out))) : w.heap.size ≤ gb272)); have n3_ := Aside0.mk ((by rw [hg]; exact (below_size (by repeat (first | (with_reducible first | exact HB.out | apply below_alloc | apply pw_below_drewN | apply below_drew1) | exact HB.out))) : w.heap.size ≤ gb272)); clear HB; have HB := n0_; have BK272 := n1_; have GW272 := n2_; have GE272 := n3_; clear n0_ n1_ n2_ n3_; clear hb hbox hg) | ((with_reducible refine gate_callee (f := 27) rfl ?_); refine goesL_ (some 17) rfl rfl Tryd.func27 (by kernel_rfl) rfl #[.string (a0.extract 0 ((ji2) : Int).toNat)] rfl (by (try simp only [List.map_toArray, List.map_cons, List.map_nil]); first | done | (simp only [hji2]; rfl) | rfl | (simp only [List.length_drop, List.length_take]; rfl)) ?_; (with_reducible refine (text_Lower.calls (a0.extract 0 ((ji2) : Int).toNat) t273 _ (Glob.below HGl.out (by repeat (first | (with_reducible first | exact HB.out | apply below_alloc | apply pw_below_drewN | apply below_drew1 | refine below_set ?_ GE272.out) | exact HB.out))) A5.out).mono ?_); rintro e w12 ⟨rfl, hb⟩; refine ⟨_, rfl, ?_⟩; have n0_ := Aside0.mk (blk_below (g := gb272) (o := .cells #[.string (⟨#[]⟩ : ByteArray), .int .i64 0, .string (⟨#[]⟩ : ByteArray)] 35 (0, 0)) (by (with_reducible repeat (first | refine blk_drewN ?_ _ | refine blk_drew ?_ | refine blk_alloc ?_ _)); exact BK272.out) hb); have n1_ := Aside0.mk (below_step (by repeat (first | (with_reducible first | exact HB.out | apply below_alloc | apply pw_below_drewN | apply below_drew1 | refine below_set ?_ GE272.out) | exact HB.out)) hb); clear BK272; clear HB; have BK272 := n0_; have HB := n1_; clear n0_ n1_; (try clear hb); (try clear hb2); (try clear hk); (try clear hi)) | ((with_reducible refine gate_dst (N := 6) rfl ?_); refine box_event ?hg (N := 6) ?hd (cs := #[.string (⟨#[]⟩ : ByteArray), .int .i64 0, .string (⟨#[]⟩ : ByteArray)]) (t := 35) ?hr ?_; (case hd => rfl); (case hg => rfl); (case hr => first | (go_simp; done) | (go_simp; rfl)); intro gb274 hg w13 hbox hb; have n0_ := Aside0.mk (blk_below (g := gb272) (o := .cells #[.string (⟨#[]⟩ : ByteArray), .int .i64 0, .string (⟨#[]⟩ : ByteArray)] 35 (0, 0)) (by (with_reducible repeat (first | refine blk_drewN ?_ _ | refine blk_drew ?_ | refine blk_alloc ?_ _)); exact BK272.out) hb); have n1_ := Aside0.mk (below_step (by repeat (first | (with_reducible first | exact HB.out | apply below_alloc | apply pw_below_drewN | apply below_drew1 | refine below_set ?_ GE272.out) | exact HB.out)) hb); have n2_ := Aside0.mk (hbox); have n3_ := Aside0.mk ((by rw [hg]; exact (below_size (by repeat (first | (with_reducible first | exact HB.out | apply below_alloc | apply pw_below_drewN | apply below_drew1 | refine below_set ?_ GE272.out) | exact HB.out))) : w.heap.size ≤ gb274)); have n4_ := Aside0.mk ((by rw [hg]; exact (below_size (by repeat (first | (with_reducible first | exact HB.out | apply below_alloc | apply pw_below_drewN | apply below_drew1 | refine below_set ?_ GE272.out) | exact HB.out))) : w.heap.size ≤ gb274)); have n5_ := Aside0.mk ((by rw [hg]; exact Nat.ne_of_lt (blk_lt (g := gb272) (o := .cells #[.string (⟨#[]⟩ : ByteArray), .int .i64 0, .string (⟨#[]⟩ : ByteArray)] 35 (0, 0)) (by (with_reducible repeat (first | refine blk_drewN ?_ _ | refine blk_drew ?_ | refine blk_alloc ?_ _)); exact BK272.out)) : gb272 ≠ gb274)); have n6_ := Aside0.mk ((by rw [hg]; exact Nat.ne_of_gt (blk_lt (g := gb272) (o := .cells #[.string (⟨#[]⟩ : ByteArray), .int .i64 0, .string (⟨#[]⟩ : ByteArray)] 35 (0, 0)) (by (with_reducible repeat (first | refine blk_drewN ?_ _ | refine blk_drew ?_ | refine blk_alloc ?_ _)); exact BK272.out)) : gb274 ≠ gb272)); clear BK272; clear HB; have BK272 := n0_; have HB := n1_; have BK274 := n2_; have GW274 := n3_; have GE274 := n4_; have NB272_274 := n5_; have NB274_272 := n6_; clear n0_ n1_ n2_ n3_ n4_ n5_ n6_; clear hb hbox hg; have hnb14 := NB274_272.out; have hnc14 := NB272_274.out; have hcz15_0 : w13.cell? ⟨gb274, 0, none⟩ = some (.string (⟨#[]⟩ : ByteArray)) := (blk_cell BK274.out 0).trans rfl; have hcz15_1 : w13.cell? ⟨gb274, 1, none⟩ = some (.int .i64 0) := (blk_cell BK274.out 1).trans rfl; have hcz15_2 : w13.cell? ⟨gb274, 2, none⟩ = some (.string (⟨#[]⟩ : ByteArray)) := (blk_cell BK274.out 2).trans rfl; have hfz15_0 := blk_frozen BK274.out 0; have hfz15_1 := blk_frozen BK274.out 1; have hfz15_2 := blk_frozen BK274.out 2) | ((with_reducible refine gate_callee (f := 43) rfl ?_); refine goesL_ (some 25) rfl rfl Tryd.func43 (by kernel_rfl) rfl #[.string (a0.extract ((ji2) : Int).toNat a0.size), .string (⟨#[47, 63]⟩ : ByteArray)] rfl (by (try simp only [List.map_toArray, List.map_cons, List.map_nil]); first | done | (simp only [hji2]; rfl) | rfl | (simp only [List.length_drop, List.length_take]; rfl)) ?_; (with_reducible refine (strings_IndexAny.calls (a0.extract ((ji2) : Int).toNat a0.size) (⟨#[47, 63]⟩ : ByteArray) t275 _ (Glob.below HGl.out (by repeat (first | (with_reducible first | exact HB.out | apply below_alloc | apply pw_below_drewN | apply below_drew1 | refine below_set ?_ GE272.out | refine below_set ?_ GE274.out) | exact HB.out))) A9.out).mono ?_); rintro e w16 ⟨rfl, hb⟩; refine ⟨_, rfl, ?_⟩; have n0_ := Aside0.mk (blk_below (g := gb272) (o := .cells #[.string (⟨#[]⟩ : ByteArray), .int .i64 0, .string (⟨#[]⟩ : ByteArray)] 35 (0, 0)) (by (with_reducible repeat (first | refine blk_drewN ?_ _ | refine blk_drew ?_ | refine blk_alloc ?_ _)); refine blk_far ?_ NB272_274.out _; (with_reducible repeat (first | refine blk_drewN ?_ _ | refine blk_drew ?_ | refine blk_alloc ?_ _)); refine blk_far ?_ NB272_274.out _; (with_reducible repeat (first | refine blk_drewN ?_ _ | refine blk_drew ?_ | refine blk_alloc ?_ _)); refine blk_far ?_ NB272_274.out _; (with_reducible repeat (first | refine blk_drewN ?_ _ | refine blk_drew ?_ | refine blk_alloc ?_ _)); exact BK272.out) hb); have n1_ := Aside0.mk (blk_below (g := gb274) (o := .cells #[.string (⟨#[]⟩ : ByteArray), .int .i64 80, .string (⟨#[47]⟩ : ByteArray)] 35 (0, 0)) (by (with_reducible repeat (first | refine blk_drewN ?_ _ | refine blk_drew ?_ | refine blk_alloc ?_ _)); refine blk_put (cs := #[.string (⟨#[]⟩ : ByteArray), .int .i64 80, .string (⟨#[]⟩ : ByteArray)]) ?_ 2 _ rfl; (with_reducible repeat (first | refine blk_drewN ?_ _ | refine blk_drew ?_ | refine blk_alloc ?_ _)); refine blk_put (cs := #[.string (⟨#[]⟩ : ByteArray), .int .i64 0, .string (⟨#[]⟩ : ByteArray)]) ?_ 1 _ rfl; (with_reducible repeat (first | refine blk_drewN ?_ _ | refine blk_drew ?_ | refine blk_alloc ?_ _)); refine blk_put (cs := #[.string (⟨#[]⟩ : ByteArray), .int .i64 0, .string (⟨#[]⟩ : ByteArray)]) ?_ 0 _ rfl; (with_reducible repeat (first | refine blk_drewN ?_ _ | refine blk_drew ?_ | refine blk_alloc ?_ _)); exact BK274.out) hb); have n2_ := Aside0.mk (below_step (by repeat (first | (with_reducible first | exact HB.out | apply below_alloc | apply pw_below_drewN | apply below_drew1 | refine below_set ?_ GE272.out | refine below_set ?_ GE274.out) | exact HB.out)) hb); clear BK272; clear BK274; clear HB; have BK272 := n0_; have BK274 := n1_; have HB := n2_; clear n0_ n1_ n2_; (try clear hb); (try clear hb2); (try clear hk); (try clear hi)))
        (try simp only [Act.put, List.setIfInBounds_toArray, List.set_cons_zero, List.set_cons_succ])
        go_cut [5] (fun v5 wc => ∃ (kq : Nat) (x5_9 : ByteArray) (x275002_9 : ByteArray), v5 = .string x5_9 ∧ Aside0 (uri_Parse.j0 kq x5_9 (⟨#[]⟩ : ByteArray) 80 x275002_9 = some (r1, r2, r3, r4)) ∧ Aside0 (kq ≤ k) ∧ Aside0 (wc.heap[gb272]? = some (.cells #[.string (⟨#[]⟩ : ByteArray), .int .i64 0, .string (⟨#[]⟩ : ByteArray)] 35 (0, 0))) ∧ Aside0 (wc.heap[gb274]? = some (.cells #[.string (⟨#[]⟩ : ByteArray), .int .i64 80, .string x275002_9] 35 (0, 0))) ∧ Aside0 (Below w.heap.size w wc))
        case first =>
          have H := HC10.out
          clear HC10
          clear A9
          generalize a0.extract ((ji2) : Int).toNat a0.size = rest_ at H ⊢
          by_cases c17 : t275 ≥ 0
          · rw [if_pos c17] at H
            have c17b0 : decide (0 ≤ t275) = true := decide_eq_true c17
            clear c17
            (first | rw [c17b0] | (simp only [i64_w, i32_w]; rw [c17b0]) | skip)
            by_cases c18 : 0 ≤ t275
            · rw [if_pos c18] at H
              have c18b0 := eq_true c18
              have c18b1 : decide (0 ≤ t275) = true := decide_eq_true c18
              clear c18
              by_cases c19 : t275 ≤ (rest_.size : Int)
              · rw [if_pos c19] at H
                have c19b0 := eq_true c19
                have c19b1 : decide (t275 ≤ (rest_.size : Int)) = true := decide_eq_true c19
                clear c19
                have c20b0 := eq_true (of_decide_eq_true (by first | (with_reducible assumption) | assumption) : 0 ≤ t275)
                have c21b0 := eq_true (of_decide_eq_true (by first | (with_reducible assumption) | assumption) : t275 ≤ (rest_.size : Int))
                by_cases c22 : 0 < ((rest_.extract (t275 : Int).toNat rest_.size).size : Int)
                · rw [if_pos c22] at H
                  have c22b0 : decide (0 < ((rest_.extract (t275 : Int).toNat rest_.size).size : Int)) = true := decide_eq_true c22
                  have c22b1 : decide (0 < (rest_.extract (t275 : Int).toNat rest_.size).size) = true := decide_eq_true (by omega)
                  have c22n : (0 < rest_.size - (t275 : Int).toNat) = True := eq_true (by have hq_ := of_decide_eq_true c22b1; simp only [ByteArray.size_extract, Nat.min_self] at hq_; exact hq_)
                  clear c22
                  by_cases c24 : (bt (rest_.extract (t275 : Int).toNat rest_.size) 0) = 63
                  · rw [if_pos c24] at H
                    have c24b0 : ((bt (rest_.extract (t275 : Int).toNat rest_.size) 0) == 63) = true := beq_iff_eq.mpr c24
                    have c24b1 : ((bt (rest_.extract (t275 : Int).toNat rest_.size) 0) != 63) = false := bne_eq_false_iff_eq.mpr c24
                    clear c24
                    by_cases c25 : 1 + (rest_.extract (t275 : Int).toNat rest_.size).size ≤ 9223372036854775807
                    · rw [if_pos c25] at H
                      have c25b0 := eq_true c25
                      have c25b1 : decide (1 + (rest_.extract (t275 : Int).toNat rest_.size).size ≤ 9223372036854775807) = true := decide_eq_true c25
                      try have c25b2 : (9223372036854775807 < 1 + (rest_.extract (t275 : Int).toNat rest_.size).size) = False := eq_false (Nat.not_lt.2 c25)
                      have c25n : (9223372036854775807 < 1 + (rest_.size - (t275 : Int).toNat)) = False := eq_false (by have hq_ := c25; simp only [ByteArray.size_extract, Nat.min_self] at hq_; omega)
                      have H' := Aside0.mk H
                      clear H
                      try go_wp2
                      have n0_ := Aside0.mk (blk_drew BK272.out)
                      have n1_ := Aside0.mk (blk_drew BK274.out)
                      have n2_ := Aside0.mk (below_drew1 HB.out)
                      clear BK272
                      clear BK274
                      clear HB
                      have BK272 := n0_
                      have BK274 := n1_
                      have HB := n2_
                      clear n0_ n1_ n2_
                      refine start_ (n := 9) (S := fun w' => True) (ds := []) #[false, false, false, false, false, false, false, false, false] (by kernel_rfl) rfl rfl trivial (fun hHeld => ?_); refine with_tabW uri_Parse.tab8 uri_Parse.bits8 (fun HT_ HW_ => ?_)
                      generalize w16.drew = w26 at BK272 BK274 HB hHeld ⊢
                      refine pure_ (i := 0) (N := some 28) (v := ?_) (a' := ?_) #[true, false, false, false, false, false, false, false, false] rfl rfl (any_of HT_.out (by kernel_rfl)) (fun _ _ _ h => h) (Or.inl ⟨by rfl, ?_⟩) ?_ ?_
                      rotate_left
                      · intro w'
                        go_simp
                        with_reducible rfl
                      rotate_left
                      · simp only [Act.put, List.setIfInBounds_toArray, List.set_cons_zero, List.set_cons_succ, i64_w, i32_w]
                        rfl
                      refine pure_ (i := 1) (N := some 29) (v := ?_) (a' := ?_) #[true, true, false, false, false, false, false, false, false] rfl rfl (any_of HT_.out (by kernel_rfl)) (fun _ _ _ h => h) (Or.inl ⟨by rfl, ?_⟩) ?_ ?_
                      rotate_left
                      · intro w'
                        go_simp
                        with_reducible rfl
                      rotate_left
                      · simp only [Act.put, List.setIfInBounds_toArray, List.set_cons_zero, List.set_cons_succ, i64_w, i32_w]
                        rfl
                      refine pure_ (i := 2) (N := some 30) (v := ?_) (a' := ?_) #[true, true, true, false, false, false, false, false, false] rfl rfl (any_of HT_.out (by kernel_rfl)) (fun _ _ _ h => h) (Or.inl ⟨by rfl, ?_⟩) ?_ ?_
                      rotate_left
                      · intro w'
                        go_simp
                        with_reducible rfl
                      rotate_left
                      · simp only [Act.put, List.setIfInBounds_toArray, List.set_cons_zero, List.set_cons_succ, i64_w, i32_w]
                        rfl
                      refine pure_ (i := 3) (N := some 31) (v := ?_) (a' := ?_) #[true, true, true, true, false, false, false, false, false] rfl rfl (any_of HT_.out (by kernel_rfl)) (fun _ _ _ h => h) (Or.inl ⟨by rfl, ?_⟩) ?_ ?_
                      rotate_left
                      · intro w'
                        go_simp
                        with_reducible rfl
                      rotate_left
                      · simp only [Act.put, List.setIfInBounds_toArray, List.set_cons_zero, List.set_cons_succ, i64_w, i32_w]
                        rfl
                      refine pure_ (i := 4) (N := some 32) (v := ?_) (a' := ?_) #[true, true, true, true, true, false, false, false, false] rfl rfl (any_of HT_.out (by kernel_rfl)) (fun _ _ _ h => h) (Or.inl ⟨by rfl, ?_⟩) ?_ ?_
                      rotate_left
                      · intro w'
                        go_simp
                        with_reducible rfl
                      rotate_left
                      · simp only [Act.put, List.setIfInBounds_toArray, List.set_cons_zero, List.set_cons_succ, i64_w, i32_w]
                        rfl
                      refine pure_ (i := 5) (N := some 33) (v := ?_) (a' := ?_) #[true, true, true, true, true, true, false, false, false] rfl rfl (any_of HT_.out (by kernel_rfl)) (fun _ _ _ h => h) (Or.inl ⟨by rfl, ?_⟩) ?_ ?_
                      rotate_left
                      · intro w'
                        go_simp
                        with_reducible rfl
                      rotate_left
                      · simp only [Act.put, List.setIfInBounds_toArray, List.set_cons_zero, List.set_cons_succ, i64_w, i32_w]
                        rfl
                      refine pure_ (i := 6) (N := some 34) (v := ?_) (a' := ?_) #[true, true, true, true, true, true, true, false, false] rfl rfl (any_of HT_.out (by kernel_rfl)) (fun _ _ _ h => h) (Or.inl ⟨by rfl, ?_⟩) ?_ ?_
                      rotate_left
                      · intro w'
                        go_simp
                        with_reducible rfl
                      rotate_left
                      · simp only [Act.put, List.setIfInBounds_toArray, List.set_cons_zero, List.set_cons_succ, i64_w, i32_w]
                        rfl
                      refine one_ (i := 7) (N := none) #[true, true, true, true, true, true, true, true, false] rfl rfl (one_of HT_.out (by kernel_rfl)) (by decide) (fun K hK => ?_)
                      have hs27 : w26.cell? ⟨gb274, 2, none⟩ = some (.string (⟨#[47]⟩ : ByteArray)) := (blk_cell BK274.out 2).trans rfl
                      have hfs27 := blk_frozen BK274.out 2
                      have hns27_0 := NB272_274.out
                      have hms27_0 := NB274_272.out
                      refine skip_ (w1 := ?_) (by rfl) rfl ?_ ?_
                      rotate_left
                      · go_simp
                        rfl
                      refine hK.out _ _ trivial (fun hHeld => ?_)
                      clear hK K
                      refine pure_ (i := 8) (N := some 5) (v := ?_) (a' := ?_) #[true, true, true, true, true, true, true, true, true] rfl rfl (any_of HT_.out (by kernel_rfl)) (fun _ _ _ h => h) (Or.inl ⟨by rfl, ?_⟩) ?_ ?_
                      rotate_left
                      · intro w'
                        go_simp
                        with_reducible rfl
                      rotate_left
                      · simp only [Act.put, List.setIfInBounds_toArray, List.set_cons_zero, List.set_cons_succ, i64_w, i32_w]
                        rfl
                      refine done_ (done_of HT_.out (by kernel_rfl)) ?_
                      have hnb28 := NB274_272.out
                      have hnc28 := NB272_274.out
                      have hcz29_0 : w26.cell? ⟨gb274, 0, none⟩ = some (.string (⟨#[]⟩ : ByteArray)) := (blk_cell BK274.out 0).trans rfl
                      have hcz29_1 : w26.cell? ⟨gb274, 1, none⟩ = some (.int .i64 80) := (blk_cell BK274.out 1).trans rfl
                      have hcz29_2 : w26.cell? ⟨gb274, 2, none⟩ = some (.string (⟨#[47]⟩ : ByteArray)) := (blk_cell BK274.out 2).trans rfl
                      have hfz29_0 := blk_frozen BK274.out 0
                      have hfz29_1 := blk_frozen BK274.out 1
                      have hfz29_2 := blk_frozen BK274.out 2
                      have p23 : 0 ≤ (0 : Int) := (by omega)
                      have q23 : 0 < (rest_.extract (t275 : Int).toNat rest_.size).size := (by have : (0 : Int) < ((rest_.extract (t275 : Int).toNat rest_.size).size : Int) := of_decide_eq_true (by first | (with_reducible assumption) | assumption); omega)
                      have hx23 : ∀ h : 0 < (rest_.extract (t275 : Int).toNat rest_.size).size, (((rest_.extract (t275 : Int).toNat rest_.size)[0]'h).toNat : Int) = bt (rest_.extract (t275 : Int).toNat rest_.size) 0 := bt_at (rest_.extract (t275 : Int).toNat rest_.size) 0
                      clear p23
                      have qi23 : (0 < ((rest_.extract (t275 : Int).toNat rest_.size).size : Int)) = True := eq_true (of_decide_eq_true (by first | (with_reducible assumption) | assumption))
                      replace q23 := eq_true q23
                      try go_wp2
                      go_meet
                      case rel => exact ⟨_, (rest_.extract 0 (t275 : Int).toNat), ((⟨#[47]⟩ : ByteArray) ++ (rest_.extract (t275 : Int).toNat rest_.size)), (by first | rfl | (simp; done) | (simp only [← hji2] <;> (first | rfl | simp)) | (simp [*]; done)), H', ⟨by first | omega | exact Nat.le_refl _⟩, ⟨by (with_reducible repeat (first | refine blk_drewN ?_ _ | refine blk_drew ?_ | refine blk_alloc ?_ _)); refine blk_far ?_ NB272_274.out _; (with_reducible repeat (first | refine blk_drewN ?_ _ | refine blk_drew ?_ | refine blk_alloc ?_ _)); refine blk_far ?_ NB272_274.out _; (with_reducible repeat (first | refine blk_drewN ?_ _ | refine blk_drew ?_ | refine blk_alloc ?_ _)); exact BK272.out⟩, ⟨by (with_reducible repeat (first | refine blk_drewN ?_ _ | refine blk_drew ?_ | refine blk_alloc ?_ _)); refine blk_put (cs := #[.string (⟨#[]⟩ : ByteArray), .int .i64 80, .string (rest_.extract (t275 : Int).toNat rest_.size)]) ?_ 2 _ rfl; (with_reducible repeat (first | refine blk_drewN ?_ _ | refine blk_drew ?_ | refine blk_alloc ?_ _)); refine blk_put (cs := #[.string (⟨#[]⟩ : ByteArray), .int .i64 80, .string (⟨#[47]⟩ : ByteArray)]) ?_ 2 _ rfl; (with_reducible repeat (first | refine blk_drewN ?_ _ | refine blk_drew ?_ | refine blk_alloc ?_ _)); exact BK274.out⟩, ⟨by repeat (first | (with_reducible first | exact HB.out | apply below_alloc | apply pw_below_drewN | apply below_drew1 | refine below_set ?_ GE272.out | refine below_set ?_ GE274.out) | exact HB.out)⟩⟩
                    · rw [if_neg c25] at H
                      exact absurd H (by simp)
                  · rw [if_neg c24] at H
                    have c24b0 : ((bt (rest_.extract (t275 : Int).toNat rest_.size) 0) == 63) = false := beq_eq_false_iff_ne.mpr c24
                    have c24b1 : ((bt (rest_.extract (t275 : Int).toNat rest_.size) 0) != 63) = true := bne_iff_ne.mpr c24
                    have H' := Aside0.mk H
                    clear H
                    try go_wp2
                    have n0_ := Aside0.mk (blk_drew BK272.out)
                    have n1_ := Aside0.mk (blk_drew BK274.out)
                    have n2_ := Aside0.mk (below_drew1 HB.out)
                    clear BK272
                    clear BK274
                    clear HB
                    have BK272 := n0_
                    have BK274 := n1_
                    have HB := n2_
                    clear n0_ n1_ n2_
                    refine start_ (n := 9) (S := fun w' => True) (ds := []) #[false, false, false, false, false, false, false, false, false] (by kernel_rfl) rfl rfl trivial (fun hHeld => ?_); refine with_tabW uri_Parse.tab8 uri_Parse.bits8 (fun HT_ HW_ => ?_)
                    generalize w16.drew = w30 at BK272 BK274 HB hHeld ⊢
                    refine pure_ (i := 0) (N := some 28) (v := ?_) (a' := ?_) #[true, false, false, false, false, false, false, false, false] rfl rfl (any_of HT_.out (by kernel_rfl)) (fun _ _ _ h => h) (Or.inl ⟨by rfl, ?_⟩) ?_ ?_
                    rotate_left
                    · intro w'
                      go_simp
                      with_reducible rfl
                    rotate_left
                    · simp only [Act.put, List.setIfInBounds_toArray, List.set_cons_zero, List.set_cons_succ, i64_w, i32_w]
                      rfl
                    refine pure_ (i := 1) (N := some 29) (v := ?_) (a' := ?_) #[true, true, false, false, false, false, false, false, false] rfl rfl (any_of HT_.out (by kernel_rfl)) (fun _ _ _ h => h) (Or.inl ⟨by rfl, ?_⟩) ?_ ?_
                    rotate_left
                    · intro w'
                      go_simp
                      with_reducible rfl
                    rotate_left
                    · simp only [Act.put, List.setIfInBounds_toArray, List.set_cons_zero, List.set_cons_succ, i64_w, i32_w]
                      rfl
                    refine pure_ (i := 2) (N := some 30) (v := ?_) (a' := ?_) #[true, true, true, false, false, false, false, false, false] rfl rfl (any_of HT_.out (by kernel_rfl)) (fun _ _ _ h => h) (Or.inl ⟨by rfl, ?_⟩) ?_ ?_
                    rotate_left
                    · intro w'
                      go_simp
                      with_reducible rfl
                    rotate_left
                    · simp only [Act.put, List.setIfInBounds_toArray, List.set_cons_zero, List.set_cons_succ, i64_w, i32_w]
                      rfl
                    refine pure_ (i := 3) (N := some 31) (v := ?_) (a' := ?_) #[true, true, true, true, false, false, false, false, false] rfl rfl (any_of HT_.out (by kernel_rfl)) (fun _ _ _ h => h) (Or.inl ⟨by rfl, ?_⟩) ?_ ?_
                    rotate_left
                    · intro w'
                      go_simp
                      with_reducible rfl
                    rotate_left
                    · simp only [Act.put, List.setIfInBounds_toArray, List.set_cons_zero, List.set_cons_succ, i64_w, i32_w]
                      rfl
                    refine pure_ (i := 4) (N := some 32) (v := ?_) (a' := ?_) #[true, true, true, true, true, false, false, false, false] rfl rfl (any_of HT_.out (by kernel_rfl)) (fun _ _ _ h => h) (Or.inl ⟨by rfl, ?_⟩) ?_ ?_
                    rotate_left
                    · intro w'
                      go_simp
                      with_reducible rfl
                    rotate_left
                    · simp only [Act.put, List.setIfInBounds_toArray, List.set_cons_zero, List.set_cons_succ, i64_w, i32_w]
                      rfl
                    refine pure_ (i := 5) (N := some 33) (v := ?_) (a' := ?_) #[true, true, true, true, true, true, false, false, false] rfl rfl (any_of HT_.out (by kernel_rfl)) (fun _ _ _ h => h) (Or.inl ⟨by rfl, ?_⟩) ?_ ?_
                    rotate_left
                    · intro w'
                      go_simp
                      with_reducible rfl
                    rotate_left
                    · simp only [Act.put, List.setIfInBounds_toArray, List.set_cons_zero, List.set_cons_succ, i64_w, i32_w]
                      rfl
                    refine pure_ (i := 6) (N := some 34) (v := ?_) (a' := ?_) #[true, true, true, true, true, true, true, false, false] rfl rfl (any_of HT_.out (by kernel_rfl)) (fun _ _ _ h => h) (Or.inl ⟨by rfl, ?_⟩) ?_ ?_
                    rotate_left
                    · intro w'
                      go_simp
                      with_reducible rfl
                    rotate_left
                    · simp only [Act.put, List.setIfInBounds_toArray, List.set_cons_zero, List.set_cons_succ, i64_w, i32_w]
                      rfl
                    refine one_ (i := 7) (N := none) #[true, true, true, true, true, true, true, true, false] rfl rfl (one_of HT_.out (by kernel_rfl)) (by decide) (fun K hK => ?_)
                    have hs31 : w30.cell? ⟨gb274, 2, none⟩ = some (.string (⟨#[47]⟩ : ByteArray)) := (blk_cell BK274.out 2).trans rfl
                    have hfs31 := blk_frozen BK274.out 2
                    have hns31_0 := NB272_274.out
                    have hms31_0 := NB274_272.out
                    refine skip_ (w1 := ?_) (by rfl) rfl ?_ ?_
                    rotate_left
                    · go_simp
                      rfl
                    refine hK.out _ _ trivial (fun hHeld => ?_)
                    clear hK K
                    refine pure_ (i := 8) (N := some 5) (v := ?_) (a' := ?_) #[true, true, true, true, true, true, true, true, true] rfl rfl (any_of HT_.out (by kernel_rfl)) (fun _ _ _ h => h) (Or.inl ⟨by rfl, ?_⟩) ?_ ?_
                    rotate_left
                    · intro w'
                      go_simp
                      with_reducible rfl
                    rotate_left
                    · simp only [Act.put, List.setIfInBounds_toArray, List.set_cons_zero, List.set_cons_succ, i64_w, i32_w]
                      rfl
                    refine done_ (done_of HT_.out (by kernel_rfl)) ?_
                    have hnb32 := NB274_272.out
                    have hnc32 := NB272_274.out
                    have hcz33_0 : w30.cell? ⟨gb274, 0, none⟩ = some (.string (⟨#[]⟩ : ByteArray)) := (blk_cell BK274.out 0).trans rfl
                    have hcz33_1 : w30.cell? ⟨gb274, 1, none⟩ = some (.int .i64 80) := (blk_cell BK274.out 1).trans rfl
                    have hcz33_2 : w30.cell? ⟨gb274, 2, none⟩ = some (.string (⟨#[47]⟩ : ByteArray)) := (blk_cell BK274.out 2).trans rfl
                    have hfz33_0 := blk_frozen BK274.out 0
                    have hfz33_1 := blk_frozen BK274.out 1
                    have hfz33_2 := blk_frozen BK274.out 2
                    have p23 : 0 ≤ (0 : Int) := (by omega)
                    have q23 : 0 < (rest_.extract (t275 : Int).toNat rest_.size).size := (by have : (0 : Int) < ((rest_.extract (t275 : Int).toNat rest_.size).size : Int) := of_decide_eq_true (by first | (with_reducible assumption) | assumption); omega)
                    have hx23 : ∀ h : 0 < (rest_.extract (t275 : Int).toNat rest_.size).size, (((rest_.extract (t275 : Int).toNat rest_.size)[0]'h).toNat : Int) = bt (rest_.extract (t275 : Int).toNat rest_.size) 0 := bt_at (rest_.extract (t275 : Int).toNat rest_.size) 0
                    clear p23
                    have qi23 : (0 < ((rest_.extract (t275 : Int).toNat rest_.size).size : Int)) = True := eq_true (of_decide_eq_true (by first | (with_reducible assumption) | assumption))
                    replace q23 := eq_true q23
                    try go_wp2
                    go_meet
                    case rel => exact ⟨_, (rest_.extract 0 (t275 : Int).toNat), (rest_.extract (t275 : Int).toNat rest_.size), (by first | rfl | (simp; done) | (simp only [← hji2] <;> (first | rfl | simp)) | (simp [*]; done)), H', ⟨by first | omega | exact Nat.le_refl _⟩, ⟨by (with_reducible repeat (first | refine blk_drewN ?_ _ | refine blk_drew ?_ | refine blk_alloc ?_ _)); refine blk_far ?_ NB272_274.out _; (with_reducible repeat (first | refine blk_drewN ?_ _ | refine blk_drew ?_ | refine blk_alloc ?_ _)); exact BK272.out⟩, ⟨by (with_reducible repeat (first | refine blk_drewN ?_ _ | refine blk_drew ?_ | refine blk_alloc ?_ _)); refine blk_put (cs := #[.string (⟨#[]⟩ : ByteArray), .int .i64 80, .string (⟨#[47]⟩ : ByteArray)]) ?_ 2 _ rfl; (with_reducible repeat (first | refine blk_drewN ?_ _ | refine blk_drew ?_ | refine blk_alloc ?_ _)); exact BK274.out⟩, ⟨by repeat (first | (with_reducible first | exact HB.out | apply below_alloc | apply pw_below_drewN | apply below_drew1 | refine below_set ?_ GE272.out | refine below_set ?_ GE274.out) | exact HB.out)⟩⟩
                · rw [if_neg c22] at H
                  exact absurd H (by simp)
              · rw [if_neg c19] at H
                exact absurd H (by simp)
            · rw [if_neg c18] at H
              exact absurd H (by simp)
          · rw [if_neg c17] at H
            have c17b0 : decide (0 ≤ t275) = false := decide_eq_false c17
            clear c17
            (first | rw [c17b0] | (simp only [i64_w, i32_w]; rw [c17b0]) | skip)
            have H' := Aside0.mk H
            clear H
            go_wp2
            go_meet
            case rel => exact ⟨_, rest_, ((⟨#[47]⟩ : ByteArray)), (by first | rfl | (simp; done) | (simp only [← hji2] <;> (first | rfl | simp)) | (simp [*]; done)), H', ⟨by first | omega | exact Nat.le_refl _⟩, ⟨by (with_reducible repeat (first | refine blk_drewN ?_ _ | refine blk_drew ?_ | refine blk_alloc ?_ _)); exact BK272.out⟩, ⟨by (with_reducible repeat (first | refine blk_drewN ?_ _ | refine blk_drew ?_ | refine blk_alloc ?_ _)); exact BK274.out⟩, ⟨by repeat (first | (with_reducible first | exact HB.out | apply below_alloc | apply pw_below_drewN | apply below_drew1 | refine below_set ?_ GE272.out | refine below_set ?_ GE274.out) | exact HB.out)⟩⟩
        case rest =>
          clear HC10
          try clear c1
          try clear c2
          try clear p2
          try clear q2
          try clear hx2
          try clear qi2
          try clear c3
          try clear c3b0
          try clear c3b1
          try clear c4
          try clear c4b0
          try clear c4b1
          try clear c6
          try clear c6b0
          try clear c6b1
          try clear c7
          try clear c7b0
          try clear c8
          try clear c8b0
          try clear c14
          try clear c17
          try clear c17b0
          try clear c18
          try clear c18b0
          try clear c18b1
          try clear c19
          try clear c19b0
          try clear c19b1
          try clear c20
          try clear c20b0
          try clear c21
          try clear c21b0
          try clear c22
          try clear c22b0
          try clear c22b1
          try clear c23
          try clear p23
          try clear q23
          try clear hx23
          try clear qi23
          try clear c24
          try clear c24b0
          try clear c24b1
          try clear c25
          try clear c25b0
          try clear c25b1
          try clear c25b2
          try clear c27
          try clear c28
          try clear c32
          try clear hcz15_0
          try clear hcz15_1
          try clear hcz15_2
          try clear hcz29_0
          try clear hcz29_1
          try clear hcz29_2
          try clear hcz33_0
          try clear hcz33_1
          try clear hcz33_2
          try clear hfz15_0
          try clear hfz15_1
          try clear hfz15_2
          try clear hfz29_0
          try clear hfz29_1
          try clear hfz29_2
          try clear hfz33_0
          try clear hfz33_1
          try clear hfz33_2
          try clear p23
          try clear q23
          obtain ⟨kq, x5_9, x275002_9, rfl, HA, HJ9, BK272, BK274, HB⟩ := hcut
          cases kq with
          | zero => exact absurd HA.out (by simp [uri_Parse.j0])
          | succ kj9 =>
            have H := HA.out
            clear HA
            simp only [uri_Parse.j0] at H
            replace H := Option.bind_eq_some_iff.mp H
            obtain ⟨⟨t276, t277, t278⟩, A340, H⟩ := H
            replace H : ((text_Lower.f t276).bind fun t279 => (if t278 = true then ((uri_port.f t277).bind fun t280 => ((uri_checked.f t279 t280 x275002_9).bind fun bt281 => (some (bt281.1, bt281.2.1, bt281.2.2.1, bt281.2.2.2)))) else ((uri_checked.f t279 80 x275002_9).bind fun bt285 => (some (bt285.1, bt285.2.1, bt285.2.2.1, bt285.2.2.2))))) = some (r1, r2, r3, r4) := H
            have A34 := Aside0.mk A340
            clear A340
            replace H := Option.bind_eq_some_iff.mp H
            obtain ⟨t279, A350, H⟩ := H
            replace H : (if t278 = true then ((uri_port.f t277).bind fun t280 => ((uri_checked.f t279 t280 x275002_9).bind fun bt281 => (some (bt281.1, bt281.2.1, bt281.2.2.1, bt281.2.2.2)))) else ((uri_checked.f t279 80 x275002_9).bind fun bt285 => (some (bt285.1, bt285.2.1, bt285.2.2.1, bt285.2.2.2)))) = some (r1, r2, r3, r4) := H
            have A35 := Aside0.mk A350
            clear A350
            by_cases c36 : t278 = true
            · subst c36
              have H1 : ((uri_port.f t277).bind fun t280 => ((uri_checked.f t279 t280 x275002_9).bind fun bt281 => (some (bt281.1, bt281.2.1, bt281.2.2.1, bt281.2.2.2)))) = some (r1, r2, r3, r4) := by rw [if_pos rfl] at H; exact H
              clear H
              have H := H1
              clear H1
              replace H := Option.bind_eq_some_iff.mp H
              obtain ⟨t280, A370, H⟩ := H
              replace H : ((uri_checked.f t279 t280 x275002_9).bind fun bt281 => (some (bt281.1, bt281.2.1, bt281.2.2.1, bt281.2.2.2))) = some (r1, r2, r3, r4) := H
              have A37 := Aside0.mk A370
              clear A370
              replace H := Option.bind_eq_some_iff.mp H
              obtain ⟨⟨t281, t282, t283, t284⟩, A380, H⟩ := H
              replace H : (some (t281, t282, t283, t284)) = some (r1, r2, r3, r4) := H
              have A38 := Aside0.mk A380
              clear A380
              simp only [Option.some.injEq, Prod.mk.injEq] at H
              obtain ⟨rfl, rfl, rfl, rfl⟩ := H
              go_wp2_with (first | ((with_reducible refine gate_callee (f := 44) rfl ?_); refine goesL_ (some 45) rfl rfl Tryd.func44 (by kernel_rfl) rfl #[.string x5_9, .string (⟨#[58]⟩ : ByteArray)] rfl (by (try simp only [List.map_toArray, List.map_cons, List.map_nil]); first | done | rfl | (simp only [List.length_drop, List.length_take]; rfl)) ?_; (with_reducible refine (strings_Cut.calls x5_9 (⟨#[58]⟩ : ByteArray) t276 t277 true _ (Glob.below HGl.out (by repeat (first | (with_reducible first | exact HB.out | apply below_alloc | apply pw_below_drewN | apply below_drew1 | refine below_set ?_ GE272.out | refine below_set ?_ GE274.out) | exact HB.out))) A34.out).mono ?_); rintro e w' ⟨rfl, ⟨nd, rfl⟩⟩; refine ⟨_, rfl, ?_⟩; (try (rw [drewN_self wc]; generalize hq_ : World.drewN wc _ = wc; have n0_ : Aside0 (wc.heap[gb272]? = some (.cells #[.string (⟨#[]⟩ : ByteArray), .int .i64 0, .string (⟨#[]⟩ : ByteArray)] 35 (0, 0))) := ⟨by rw [← hq_]; exact (by (with_reducible repeat (first | refine blk_drewN ?_ _ | refine blk_drew ?_ | refine blk_alloc ?_ _)); exact BK272.out)⟩; have n1_ : Aside0 (wc.heap[gb274]? = some (.cells #[.string (⟨#[]⟩ : ByteArray), .int .i64 80, .string x275002_9] 35 (0, 0))) := ⟨by rw [← hq_]; exact (by (with_reducible repeat (first | refine blk_drewN ?_ _ | refine blk_drew ?_ | refine blk_alloc ?_ _)); exact BK274.out)⟩; have n2_ : Aside0 (Below w.heap.size w wc) := ⟨by rw [← hq_]; exact (by repeat (first | (with_reducible first | exact HB.out | apply below_alloc | apply pw_below_drewN | apply below_drew1 | refine below_set ?_ GE272.out | refine below_set ?_ GE274.out) | exact HB.out))⟩; clear BK272 BK274 HB hq_; have BK272 := n0_; have BK274 := n1_; have HB := n2_; clear n0_ n1_ n2_))) | ((with_reducible refine gate_callee (f := 27) rfl ?_); refine goesL_ (some 50) rfl rfl Tryd.func27 (by kernel_rfl) rfl #[.string t276] rfl (by (try simp only [List.map_toArray, List.map_cons, List.map_nil]); first | done | rfl | (simp only [List.length_drop, List.length_take]; rfl)) ?_; (with_reducible refine (text_Lower.calls t276 t279 _ (Glob.below HGl.out (by repeat (first | (with_reducible first | exact HB.out | apply below_alloc | apply pw_below_drewN | apply below_drew1 | refine below_set ?_ GE272.out | refine below_set ?_ GE274.out) | exact HB.out))) A35.out).mono ?_); rintro e w39 ⟨rfl, hb⟩; refine ⟨_, rfl, ?_⟩; have n0_ := Aside0.mk (blk_below (g := gb272) (o := .cells #[.string (⟨#[]⟩ : ByteArray), .int .i64 0, .string (⟨#[]⟩ : ByteArray)] 35 (0, 0)) (by (with_reducible repeat (first | refine blk_drewN ?_ _ | refine blk_drew ?_ | refine blk_alloc ?_ _)); exact BK272.out) hb); have n1_ := Aside0.mk (blk_below (g := gb274) (o := .cells #[.string (⟨#[]⟩ : ByteArray), .int .i64 80, .string x275002_9] 35 (0, 0)) (by (with_reducible repeat (first | refine blk_drewN ?_ _ | refine blk_drew ?_ | refine blk_alloc ?_ _)); exact BK274.out) hb); have n2_ := Aside0.mk (below_step (by repeat (first | (with_reducible first | exact HB.out | apply below_alloc | apply pw_below_drewN | apply below_drew1 | refine below_set ?_ GE272.out | refine below_set ?_ GE274.out) | exact HB.out)) hb); clear BK272; clear BK274; clear HB; have BK272 := n0_; have BK274 := n1_; have HB := n2_; clear n0_ n1_ n2_; (try clear hb); (try clear hb2); (try clear hk); (try clear hi); have hnb40 := NB274_272.out; have hnc40 := NB272_274.out; have hcz41_0 : w39.cell? ⟨gb274, 0, none⟩ = some (.string (⟨#[]⟩ : ByteArray)) := (blk_cell BK274.out 0).trans rfl; have hcz41_1 : w39.cell? ⟨gb274, 1, none⟩ = some (.int .i64 80) := (blk_cell BK274.out 1).trans rfl; have hcz41_2 : w39.cell? ⟨gb274, 2, none⟩ = some (.string x275002_9) := (blk_cell BK274.out 2).trans rfl; have hfz41_0 := blk_frozen BK274.out 0; have hfz41_1 := blk_frozen BK274.out 1; have hfz41_2 := blk_frozen BK274.out 2) | ((with_reducible refine gate_callee (f := 45) rfl ?_); refine goesL_ (some 54) rfl rfl Tryd.func45 (by kernel_rfl) rfl #[.string t277] rfl (by (try simp only [List.map_toArray, List.map_cons, List.map_nil]); first | done | rfl | (simp only [List.length_drop, List.length_take]; rfl)) ?_; (with_reducible refine (uri_port.calls t277 t280 _ (Glob.below HGl.out (by repeat (first | (with_reducible first | exact HB.out | apply below_alloc | apply pw_below_drewN | apply below_drew1 | refine below_set ?_ GE272.out | refine below_set ?_ GE274.out) | exact HB.out))) A37.out).mono ?_); rintro e w42 ⟨rfl, hb⟩; refine ⟨_, rfl, ?_⟩; have n0_ := Aside0.mk (blk_below (g := gb272) (o := .cells #[.string (⟨#[]⟩ : ByteArray), .int .i64 0, .string (⟨#[]⟩ : ByteArray)] 35 (0, 0)) (by (with_reducible repeat (first | refine blk_drewN ?_ _ | refine blk_drew ?_ | refine blk_alloc ?_ _)); refine blk_far ?_ NB272_274.out _; (with_reducible repeat (first | refine blk_drewN ?_ _ | refine blk_drew ?_ | refine blk_alloc ?_ _)); exact BK272.out) hb); have n1_ := Aside0.mk (blk_below (g := gb274) (o := .cells #[.string t279, .int .i64 80, .string x275002_9] 35 (0, 0)) (by (with_reducible repeat (first | refine blk_drewN ?_ _ | refine blk_drew ?_ | refine blk_alloc ?_ _)); refine blk_put (cs := #[.string (⟨#[]⟩ : ByteArray), .int .i64 80, .string x275002_9]) ?_ 0 _ rfl; (with_reducible repeat (first | refine blk_drewN ?_ _ | refine blk_drew ?_ | refine blk_alloc ?_ _)); exact BK274.out) hb); have n2_ := Aside0.mk (below_step (by repeat (first | (with_reducible first | exact HB.out | apply below_alloc | apply pw_below_drewN | apply below_drew1 | refine below_set ?_ GE272.out | refine below_set ?_ GE274.out) | exact HB.out)) hb); clear BK272; clear BK274; clear HB; have BK272 := n0_; have BK274 := n1_; have HB := n2_; clear n0_ n1_ n2_; (try clear hb); (try clear hb2); (try clear hk); (try clear hi); have hcz43_0 : w42.cell? ⟨gb274, 0, none⟩ = some (.string t279) := (blk_cell BK274.out 0).trans rfl; have hcz43_1 : w42.cell? ⟨gb274, 1, none⟩ = some (.int .i64 80) := (blk_cell BK274.out 1).trans rfl; have hcz43_2 : w42.cell? ⟨gb274, 2, none⟩ = some (.string x275002_9) := (blk_cell BK274.out 2).trans rfl; have hfz43_0 := blk_frozen BK274.out 0; have hfz43_1 := blk_frozen BK274.out 1; have hfz43_2 := blk_frozen BK274.out 2) | ((with_reducible refine gate_callee (f := 46) rfl ?_); refine goesL_ (some 57) rfl rfl Tryd.func46 (by kernel_rfl) rfl #[.agg #[.string t279, .int .i64 t280, .string x275002_9]] rfl (by (try simp only [List.map_toArray, List.map_cons, List.map_nil]); first | done | rfl | (simp only [List.length_drop, List.length_take]; rfl)) ?_; (with_reducible refine (uri_checked.calls t279 t280 x275002_9 t281 t282 t283 t284 _ (Glob.below HGl.out (by repeat (first | (with_reducible first | exact HB.out | apply below_alloc | apply pw_below_drewN | apply below_drew1 | refine below_set ?_ GE272.out | refine below_set ?_ GE274.out) | exact HB.out))) A38.out).mono ?_); rintro e w44 ⟨rfl, hb⟩; refine ⟨_, rfl, ?_⟩; have n0_ := Aside0.mk (blk_below (g := gb272) (o := .cells #[.string (⟨#[]⟩ : ByteArray), .int .i64 0, .string (⟨#[]⟩ : ByteArray)] 35 (0, 0)) (by (with_reducible repeat (first | refine blk_drewN ?_ _ | refine blk_drew ?_ | refine blk_alloc ?_ _)); refine blk_far ?_ NB272_274.out _; (with_reducible repeat (first | refine blk_drewN ?_ _ | refine blk_drew ?_ | refine blk_alloc ?_ _)); exact BK272.out) hb); have n1_ := Aside0.mk (blk_below (g := gb274) (o := .cells #[.string t279, .int .i64 t280, .string x275002_9] 35 (0, 0)) (by (with_reducible repeat (first | refine blk_drewN ?_ _ | refine blk_drew ?_ | refine blk_alloc ?_ _)); refine blk_put (cs := #[.string t279, .int .i64 80, .string x275002_9]) ?_ 1 _ rfl; (with_reducible repeat (first | refine blk_drewN ?_ _ | refine blk_drew ?_ | refine blk_alloc ?_ _)); exact BK274.out) hb); have n2_ := Aside0.mk (below_step (by repeat (first | (with_reducible first | exact HB.out | apply below_alloc | apply pw_below_drewN | apply below_drew1 | refine below_set ?_ GE272.out | refine below_set ?_ GE274.out) | exact HB.out)) hb); clear BK272; clear BK274; clear HB; have BK272 := n0_; have BK274 := n1_; have HB := n2_; clear n0_ n1_ n2_; (try clear hb); (try clear hb2); (try clear hk); (try clear hi); have hcz45_0 : w44.cell? ⟨gb272, 0, none⟩ = some (.string (⟨#[]⟩ : ByteArray)) := (blk_cell BK272.out 0).trans rfl; have hcz45_1 : w44.cell? ⟨gb272, 1, none⟩ = some (.int .i64 0) := (blk_cell BK272.out 1).trans rfl; have hcz45_2 : w44.cell? ⟨gb272, 2, none⟩ = some (.string (⟨#[]⟩ : ByteArray)) := (blk_cell BK272.out 2).trans rfl; have hfz45_0 := blk_frozen BK272.out 0; have hfz45_1 := blk_frozen BK272.out 1; have hfz45_2 := blk_frozen BK272.out 2))
              refine bodyPost_ret (results_ct rfl _ _ gb272 35 #[.string t281, .int .i64 t282, .string t283] (0, 0) _ rfl (by (with_reducible repeat (first | refine blk_drewN ?_ _ | refine blk_drew ?_ | refine blk_alloc ?_ _)); refine blk_put (cs := #[.string t281, .int .i64 t282, .string (⟨#[]⟩ : ByteArray)]) ?_ 2 _ rfl; (with_reducible repeat (first | refine blk_drewN ?_ _ | refine blk_drew ?_ | refine blk_alloc ?_ _)); refine blk_put (cs := #[.string t281, .int .i64 0, .string (⟨#[]⟩ : ByteArray)]) ?_ 1 _ rfl; (with_reducible repeat (first | refine blk_drewN ?_ _ | refine blk_drew ?_ | refine blk_alloc ?_ _)); refine blk_put (cs := #[.string (⟨#[]⟩ : ByteArray), .int .i64 0, .string (⟨#[]⟩ : ByteArray)]) ?_ 0 _ rfl; (with_reducible repeat (first | refine blk_drewN ?_ _ | refine blk_drew ?_ | refine blk_alloc ?_ _)); exact BK272.out) Tryd.underlying35 rfl (by kernel_rfl)) rfl ?_
              exact ⟨by first | rfl | (simp [errW_none, errW_some] <;> rfl) | (simp only [← hji2]; first | rfl | (simp [errW_none, errW_some] <;> rfl)) | (simp [*, errW_none, errW_some] <;> rfl), by repeat (first | (with_reducible first | exact HB.out | apply below_alloc | apply pw_below_drewN | apply below_drew1 | refine below_set ?_ GE272.out | refine below_set ?_ GE274.out) | exact HB.out)⟩
            · replace c36 := Bool.eq_false_iff.mpr c36
              subst c36
              have H1 : ((uri_checked.f t279 80 x275002_9).bind fun bt285 => (some (bt285.1, bt285.2.1, bt285.2.2.1, bt285.2.2.2))) = some (r1, r2, r3, r4) := by rw [if_neg (show ¬ (false = true) by decide)] at H; exact H
              clear H
              have H := H1
              clear H1
              replace H := Option.bind_eq_some_iff.mp H
              obtain ⟨⟨t285, t286, t287, t288⟩, A460, H⟩ := H
              replace H : (some (t285, t286, t287, t288)) = some (r1, r2, r3, r4) := H
              have A46 := Aside0.mk A460
              clear A460
              simp only [Option.some.injEq, Prod.mk.injEq] at H
              obtain ⟨rfl, rfl, rfl, rfl⟩ := H
              go_wp2_with (first | ((with_reducible refine gate_callee (f := 44) rfl ?_); refine goesL_ (some 45) rfl rfl Tryd.func44 (by kernel_rfl) rfl #[.string x5_9, .string (⟨#[58]⟩ : ByteArray)] rfl (by (try simp only [List.map_toArray, List.map_cons, List.map_nil]); first | done | rfl | (simp only [List.length_drop, List.length_take]; rfl)) ?_; (with_reducible refine (strings_Cut.calls x5_9 (⟨#[58]⟩ : ByteArray) t276 t277 false _ (Glob.below HGl.out (by repeat (first | (with_reducible first | exact HB.out | apply below_alloc | apply pw_below_drewN | apply below_drew1 | refine below_set ?_ GE272.out | refine below_set ?_ GE274.out) | exact HB.out))) A34.out).mono ?_); rintro e w' ⟨rfl, ⟨nd, rfl⟩⟩; refine ⟨_, rfl, ?_⟩; (try (rw [drewN_self wc]; generalize hq_ : World.drewN wc _ = wc; have n0_ : Aside0 (wc.heap[gb272]? = some (.cells #[.string (⟨#[]⟩ : ByteArray), .int .i64 0, .string (⟨#[]⟩ : ByteArray)] 35 (0, 0))) := ⟨by rw [← hq_]; exact (by (with_reducible repeat (first | refine blk_drewN ?_ _ | refine blk_drew ?_ | refine blk_alloc ?_ _)); exact BK272.out)⟩; have n1_ : Aside0 (wc.heap[gb274]? = some (.cells #[.string (⟨#[]⟩ : ByteArray), .int .i64 80, .string x275002_9] 35 (0, 0))) := ⟨by rw [← hq_]; exact (by (with_reducible repeat (first | refine blk_drewN ?_ _ | refine blk_drew ?_ | refine blk_alloc ?_ _)); exact BK274.out)⟩; have n2_ : Aside0 (Below w.heap.size w wc) := ⟨by rw [← hq_]; exact (by repeat (first | (with_reducible first | exact HB.out | apply below_alloc | apply pw_below_drewN | apply below_drew1 | refine below_set ?_ GE272.out | refine below_set ?_ GE274.out) | exact HB.out))⟩; clear BK272 BK274 HB hq_; have BK272 := n0_; have BK274 := n1_; have HB := n2_; clear n0_ n1_ n2_))) | ((with_reducible refine gate_callee (f := 27) rfl ?_); refine goesL_ (some 50) rfl rfl Tryd.func27 (by kernel_rfl) rfl #[.string t276] rfl (by (try simp only [List.map_toArray, List.map_cons, List.map_nil]); first | done | rfl | (simp only [List.length_drop, List.length_take]; rfl)) ?_; (with_reducible refine (text_Lower.calls t276 t279 _ (Glob.below HGl.out (by repeat (first | (with_reducible first | exact HB.out | apply below_alloc | apply pw_below_drewN | apply below_drew1 | refine below_set ?_ GE272.out | refine below_set ?_ GE274.out) | exact HB.out))) A35.out).mono ?_); rintro e w47 ⟨rfl, hb⟩; refine ⟨_, rfl, ?_⟩; have n0_ := Aside0.mk (blk_below (g := gb272) (o := .cells #[.string (⟨#[]⟩ : ByteArray), .int .i64 0, .string (⟨#[]⟩ : ByteArray)] 35 (0, 0)) (by (with_reducible repeat (first | refine blk_drewN ?_ _ | refine blk_drew ?_ | refine blk_alloc ?_ _)); exact BK272.out) hb); have n1_ := Aside0.mk (blk_below (g := gb274) (o := .cells #[.string (⟨#[]⟩ : ByteArray), .int .i64 80, .string x275002_9] 35 (0, 0)) (by (with_reducible repeat (first | refine blk_drewN ?_ _ | refine blk_drew ?_ | refine blk_alloc ?_ _)); exact BK274.out) hb); have n2_ := Aside0.mk (below_step (by repeat (first | (with_reducible first | exact HB.out | apply below_alloc | apply pw_below_drewN | apply below_drew1 | refine below_set ?_ GE272.out | refine below_set ?_ GE274.out) | exact HB.out)) hb); clear BK272; clear BK274; clear HB; have BK272 := n0_; have BK274 := n1_; have HB := n2_; clear n0_ n1_ n2_; (try clear hb); (try clear hb2); (try clear hk); (try clear hi); have hnb48 := NB274_272.out; have hnc48 := NB272_274.out; have hcz49_0 : w47.cell? ⟨gb274, 0, none⟩ = some (.string (⟨#[]⟩ : ByteArray)) := (blk_cell BK274.out 0).trans rfl; have hcz49_1 : w47.cell? ⟨gb274, 1, none⟩ = some (.int .i64 80) := (blk_cell BK274.out 1).trans rfl; have hcz49_2 : w47.cell? ⟨gb274, 2, none⟩ = some (.string x275002_9) := (blk_cell BK274.out 2).trans rfl; have hfz49_0 := blk_frozen BK274.out 0; have hfz49_1 := blk_frozen BK274.out 1; have hfz49_2 := blk_frozen BK274.out 2) | ((with_reducible refine gate_callee (f := 46) rfl ?_); refine goesL_ (some 57) rfl rfl Tryd.func46 (by kernel_rfl) rfl #[.agg #[.string t279, .int .i64 80, .string x275002_9]] rfl (by (try simp only [List.map_toArray, List.map_cons, List.map_nil]); first | done | rfl | (simp only [List.length_drop, List.length_take]; rfl)) ?_; (with_reducible refine (uri_checked.calls t279 80 x275002_9 t285 t286 t287 t288 _ (Glob.below HGl.out (by repeat (first | (with_reducible first | exact HB.out | apply below_alloc | apply pw_below_drewN | apply below_drew1 | refine below_set ?_ GE272.out | refine below_set ?_ GE274.out) | exact HB.out))) A46.out).mono ?_); rintro e w50 ⟨rfl, hb⟩; refine ⟨_, rfl, ?_⟩; have n0_ := Aside0.mk (blk_below (g := gb272) (o := .cells #[.string (⟨#[]⟩ : ByteArray), .int .i64 0, .string (⟨#[]⟩ : ByteArray)] 35 (0, 0)) (by (with_reducible repeat (first | refine blk_drewN ?_ _ | refine blk_drew ?_ | refine blk_alloc ?_ _)); refine blk_far ?_ NB272_274.out _; (with_reducible repeat (first | refine blk_drewN ?_ _ | refine blk_drew ?_ | refine blk_alloc ?_ _)); exact BK272.out) hb); have n1_ := Aside0.mk (blk_below (g := gb274) (o := .cells #[.string t279, .int .i64 80, .string x275002_9] 35 (0, 0)) (by (with_reducible repeat (first | refine blk_drewN ?_ _ | refine blk_drew ?_ | refine blk_alloc ?_ _)); refine blk_put (cs := #[.string (⟨#[]⟩ : ByteArray), .int .i64 80, .string x275002_9]) ?_ 0 _ rfl; (with_reducible repeat (first | refine blk_drewN ?_ _ | refine blk_drew ?_ | refine blk_alloc ?_ _)); exact BK274.out) hb); have n2_ := Aside0.mk (below_step (by repeat (first | (with_reducible first | exact HB.out | apply below_alloc | apply pw_below_drewN | apply below_drew1 | refine below_set ?_ GE272.out | refine below_set ?_ GE274.out) | exact HB.out)) hb); clear BK272; clear BK274; clear HB; have BK272 := n0_; have BK274 := n1_; have HB := n2_; clear n0_ n1_ n2_; (try clear hb); (try clear hb2); (try clear hk); (try clear hi); have hcz51_0 : w50.cell? ⟨gb272, 0, none⟩ = some (.string (⟨#[]⟩ : ByteArray)) := (blk_cell BK272.out 0).trans rfl; have hcz51_1 : w50.cell? ⟨gb272, 1, none⟩ = some (.int .i64 0) := (blk_cell BK272.out 1).trans rfl; have hcz51_2 : w50.cell? ⟨gb272, 2, none⟩ = some (.string (⟨#[]⟩ : ByteArray)) := (blk_cell BK272.out 2).trans rfl; have hfz51_0 := blk_frozen BK272.out 0; have hfz51_1 := blk_frozen BK272.out 1; have hfz51_2 := blk_frozen BK272.out 2))
              refine bodyPost_ret (results_ct rfl _ _ gb272 35 #[.string t285, .int .i64 t286, .string t287] (0, 0) _ rfl (by (with_reducible repeat (first | refine blk_drewN ?_ _ | refine blk_drew ?_ | refine blk_alloc ?_ _)); refine blk_put (cs := #[.string t285, .int .i64 t286, .string (⟨#[]⟩ : ByteArray)]) ?_ 2 _ rfl; (with_reducible repeat (first | refine blk_drewN ?_ _ | refine blk_drew ?_ | refine blk_alloc ?_ _)); refine blk_put (cs := #[.string t285, .int .i64 0, .string (⟨#[]⟩ : ByteArray)]) ?_ 1 _ rfl; (with_reducible repeat (first | refine blk_drewN ?_ _ | refine blk_drew ?_ | refine blk_alloc ?_ _)); refine blk_put (cs := #[.string (⟨#[]⟩ : ByteArray), .int .i64 0, .string (⟨#[]⟩ : ByteArray)]) ?_ 0 _ rfl; (with_reducible repeat (first | refine blk_drewN ?_ _ | refine blk_drew ?_ | refine blk_alloc ?_ _)); exact BK272.out) Tryd.underlying35 rfl (by kernel_rfl)) rfl ?_
              exact ⟨by first | rfl | (simp [errW_none, errW_some] <;> rfl) | (simp only [← hji2]; first | rfl | (simp [errW_none, errW_some] <;> rfl)) | (simp [*, errW_none, errW_some] <;> rfl), by repeat (first | (with_reducible first | exact HB.out | apply below_alloc | apply pw_below_drewN | apply below_drew1 | refine below_set ?_ GE272.out | refine below_set ?_ GE274.out) | exact HB.out)⟩
      · rw [if_neg c6] at H
        have c6b0 : (t273.toList == ([104, 116, 116, 112, 58, 47, 47] : List UInt8)) = false := beq_eq_false_iff_ne.mpr c6
        have c6b1 : (t273.toList != ([104, 116, 116, 112, 58, 47, 47] : List UInt8)) = true := bne_iff_ne.mpr c6
        simp only [Option.some.injEq, Prod.mk.injEq] at H
        obtain ⟨rfl, rfl, rfl, rfl⟩ := H
        go_enter Tryd.func23, Tryd.ntmps23
        go_wp2_with (first | ((with_reducible refine gate_dst (N := 2) rfl ?_); refine box_event ?hg (N := 2) ?hd (cs := #[.string (⟨#[]⟩ : ByteArray), .int .i64 0, .string (⟨#[]⟩ : ByteArray)]) (t := 35) ?hr ?_; (case hd => rfl); (case hg => rfl); (case hr => first | (go_simp; done) | (go_simp; rfl)); intro gb272 hg w52 hbox hb; have n0_ := Aside0.mk (below_step (by repeat (first | (with_reducible first | exact HB.out | apply below_alloc | apply pw_below_drewN | apply below_drew1) | exact HB.out)) hb); have n1_ := Aside0.mk (hbox); have n2_ := Aside0.mk ((by rw [hg]; exact (below_size (by repeat (first | (with_reducible first | exact HB.out | apply below_alloc | apply pw_below_drewN | apply below_drew1) | exact HB.out))) : w.heap.size ≤ gb272)); have n3_ := Aside0.mk ((by rw [hg]; exact (below_size (by repeat (first | (with_reducible first | exact HB.out | apply below_alloc | apply pw_below_drewN | apply below_drew1) | exact HB.out))) : w.heap.size ≤ gb272)); clear HB; have HB := n0_; have BK272 := n1_; have GW272 := n2_; have GE272 := n3_; clear n0_ n1_ n2_ n3_; clear hb hbox hg) | ((with_reducible refine gate_callee (f := 27) rfl ?_); refine goesL_ (some 17) rfl rfl Tryd.func27 (by kernel_rfl) rfl #[.string (a0.extract 0 ((ji2) : Int).toNat)] rfl (by (try simp only [List.map_toArray, List.map_cons, List.map_nil]); first | done | (simp only [hji2]; rfl) | rfl | (simp only [List.length_drop, List.length_take]; rfl)) ?_; (with_reducible refine (text_Lower.calls (a0.extract 0 ((ji2) : Int).toNat) t273 _ (Glob.below HGl.out (by repeat (first | (with_reducible first | exact HB.out | apply below_alloc | apply pw_below_drewN | apply below_drew1 | refine below_set ?_ GE272.out) | exact HB.out))) A5.out).mono ?_); rintro e w53 ⟨rfl, hb⟩; refine ⟨_, rfl, ?_⟩; have n0_ := Aside0.mk (blk_below (g := gb272) (o := .cells #[.string (⟨#[]⟩ : ByteArray), .int .i64 0, .string (⟨#[]⟩ : ByteArray)] 35 (0, 0)) (by (with_reducible repeat (first | refine blk_drewN ?_ _ | refine blk_drew ?_ | refine blk_alloc ?_ _)); exact BK272.out) hb); have n1_ := Aside0.mk (below_step (by repeat (first | (with_reducible first | exact HB.out | apply below_alloc | apply pw_below_drewN | apply below_drew1 | refine below_set ?_ GE272.out) | exact HB.out)) hb); clear BK272; clear HB; have BK272 := n0_; have HB := n1_; clear n0_ n1_; (try clear hb); (try clear hb2); (try clear hk); (try clear hi); have hcz54_0 : w53.cell? ⟨gb272, 0, none⟩ = some (.string (⟨#[]⟩ : ByteArray)) := (blk_cell BK272.out 0).trans rfl; have hcz54_1 : w53.cell? ⟨gb272, 1, none⟩ = some (.int .i64 0) := (blk_cell BK272.out 1).trans rfl; have hcz54_2 : w53.cell? ⟨gb272, 2, none⟩ = some (.string (⟨#[]⟩ : ByteArray)) := (blk_cell BK272.out 2).trans rfl; have hfz54_0 := blk_frozen BK272.out 0; have hfz54_1 := blk_frozen BK272.out 1; have hfz54_2 := blk_frozen BK272.out 2))
        refine bodyPost_ret (results_ct rfl _ _ gb272 35 #[.string (⟨#[]⟩ : ByteArray), .int .i64 0, .string (⟨#[]⟩ : ByteArray)] (0, 0) _ rfl (by (with_reducible repeat (first | refine blk_drewN ?_ _ | refine blk_drew ?_ | refine blk_alloc ?_ _)); refine blk_put (cs := #[.string (⟨#[]⟩ : ByteArray), .int .i64 0, .string (⟨#[]⟩ : ByteArray)]) ?_ 2 _ rfl; (with_reducible repeat (first | refine blk_drewN ?_ _ | refine blk_drew ?_ | refine blk_alloc ?_ _)); refine blk_put (cs := #[.string (⟨#[]⟩ : ByteArray), .int .i64 0, .string (⟨#[]⟩ : ByteArray)]) ?_ 1 _ rfl; (with_reducible repeat (first | refine blk_drewN ?_ _ | refine blk_drew ?_ | refine blk_alloc ?_ _)); refine blk_put (cs := #[.string (⟨#[]⟩ : ByteArray), .int .i64 0, .string (⟨#[]⟩ : ByteArray)]) ?_ 0 _ rfl; (with_reducible repeat (first | refine blk_drewN ?_ _ | refine blk_drew ?_ | refine blk_alloc ?_ _)); exact BK272.out) Tryd.underlying35 rfl (by kernel_rfl)) rfl ?_
        exact ⟨by first | rfl | (simp [errW_none, errW_some] <;> rfl) | (simp only [← hji2]; first | rfl | (simp [errW_none, errW_some] <;> rfl)) | (simp [*, errW_none, errW_some] <;> rfl), by repeat (first | (with_reducible first | exact HB.out | apply below_alloc | apply pw_below_drewN | apply below_drew1 | refine below_set ?_ GE272.out) | exact HB.out)⟩
    · rw [if_neg c4] at H
      exact absurd H (by simp)
  · rw [if_neg c3] at H
    exact absurd H (by simp)

end Go.Proofs.YtjdlaofeenblkaaDoor.X

-- PRINTED by print.py (a twelfth state) out of the translation. Not trusted: Lean checks it.
namespace Go.Proofs.YtjdlaofeenblkaaDoor.X
open Go.RowKit Go.Proofs.YtjdlaofeenblkaaDoorW.PrintWords Go.Proofs.YtjdlaofeenblkaaDoorW.PrintLast Go.Proofs.YtjdlaofeenblkaaDoorW.PrintMore
attribute [local go_sem] max2_int min2_int max_two min_two max_three min_three max_four min_four   -- for this text's walks alone
set_option linter.unusedVariables false
set_option linter.unusedSimpArgs false
open Go.Proofs.YtjdlaofeenblkaaDoor.T

/-! ### uri_Join: function 28 -/
def uri_Join.j0 : Nat → ByteArray → Bool → ByteArray → Int → ByteArray → Option (ByteArray × Int × ByteArray × Int)
  | 0, _, _, _, _, _ => none
  | k + 1, x1, x11, x308000, x308001, x308002 => if x11 = true then ((uri_checked.f x308000 x308001 x1).bind fun bt312 => (some (bt312.1, bt312.2.1, bt312.2.2.1, bt312.2.2.2))) else ((uri_Parse.f k x1).bind fun bt316 => (some (bt316.1, bt316.2.1, bt316.2.2.1, bt316.2.2.2)))
def uri_Join.f (k : Nat) (a0_0 : ByteArray) (a0_1 : Int) (a0_2 : ByteArray) (a1 : ByteArray) : Option (ByteArray × Int × ByteArray × Int) := (uri_May.f a0_0 a0_1 a0_2).bind fun t309 => (if t309 = true then ((strings_HasPrefix.f a1 (⟨#[47]⟩ : ByteArray)).bind fun t310 => (if t310 = true then ((strings_HasPrefix.f a1 (⟨#[47, 47]⟩ : ByteArray)).bind fun t311 => (uri_Join.j0 k a1 (!t311) a0_0 a0_1 a0_2)) else (uri_Join.j0 k a1 false a0_0 a0_1 a0_2))) else (some ((⟨#[]⟩ : ByteArray), 0, (⟨#[]⟩ : ByteArray), 23)))
theorem uri_Join.mono_l : ∀ k, (∀ y0 y1 y2 y3 y4, LeO (uri_Join.j0 k y0 y1 y2 y3 y4) (uri_Join.j0 (k + 1) y0 y1 y2 y3 y4))
  | 0 => fun _ _ _ _ _ r h => by simp [uri_Join.j0] at h
  | k + 1 => by
    have ih0 := uri_Join.mono_l k
    · intro y0 y1 y2 y3 y4
      unfold uri_Join.j0
      repeat' first
      | (with_reducible exact ih0 _ _ _ _ _)
      | (with_reducible exact uri_Parse.mono _ _)
      | (with_reducible exact LeO.refl _)
      | (with_reducible exact LeO.none _)
      | (with_reducible refine LeO.ite ?_ ?_)
      | (with_reducible refine LeO.bind ?_ (fun _ => ?_))
      | exact ih0 _ _ _ _ _
      | exact uri_Parse.mono _ _
      | exact LeO.none _
      | refine LeO.ite ?_ ?_
      | refine LeO.bind ?_ (fun _ => ?_)
theorem uri_Join.mono : ∀ a0 a1 a2 a3 k, LeO (uri_Join.f k a0 a1 a2 a3) (uri_Join.f (k + 1) a0 a1 a2 a3) := by
  intro a0 a1 a2 a3 k
  have ih0 := uri_Join.mono_l k
  unfold uri_Join.f
  repeat' first
      | (with_reducible exact ih0 _ _ _ _ _)
      | (with_reducible exact uri_Parse.mono _ _)
      | (with_reducible exact LeO.refl _)
      | (with_reducible exact LeO.none _)
      | (with_reducible refine LeO.ite ?_ ?_)
      | (with_reducible refine LeO.bind ?_ (fun _ => ?_))
      | exact ih0 _ _ _ _ _
      | exact uri_Parse.mono _ _
      | exact LeO.none _
      | refine LeO.ite ?_ ?_
      | refine LeO.bind ?_ (fun _ => ?_)
set_option maxHeartbeats 8000000 in
set_option maxRecDepth 100000 in
theorem uri_Join.calls (k : Nat) (a0_0 : ByteArray) (a0_1 : Int) (a0_2 : ByteArray) (a1 : ByteArray) (r1 : ByteArray) (r2 : Int) (r3 : ByteArray) (r4 : Int) (w : World) (HGg : Glob w) (h : uri_Join.f k a0_0 a0_1 a0_2 a1 = some (r1, r2, r3, r4)) :
    Calls Tryd.prog 28 #[.agg #[.string a0_0, .int .i64 a0_1, .string a0_2], .string a1] w fun e w' => e = .returned (.tuple #[.agg #[.string r1, .int .i64 r2, .string r3], .int .i64 r4]) ∧ Below w.heap.size w w' := by
  have hu35 := Tryd.underlying35
  have HGl := Aside0.mk HGg
  clear HGg
  have HB := Aside0.mk (Below.refl w.heap.size w)
  have H : ((uri_May.f a0_0 a0_1 a0_2).bind fun t309 => (if t309 = true then ((strings_HasPrefix.f a1 (⟨#[47]⟩ : ByteArray)).bind fun t310 => (if t310 = true then ((strings_HasPrefix.f a1 (⟨#[47, 47]⟩ : ByteArray)).bind fun t311 => (uri_Join.j0 k a1 (!t311) a0_0 a0_1 a0_2)) else (uri_Join.j0 k a1 false a0_0 a0_1 a0_2))) else (some ((⟨#[]⟩ : ByteArray), 0, (⟨#[]⟩ : ByteArray), 23)))) = some (r1, r2, r3, r4) := h
  clear h
  replace H := Option.bind_eq_some_iff.mp H
  obtain ⟨t309, A30, H⟩ := H
  replace H : (if t309 = true then ((strings_HasPrefix.f a1 (⟨#[47]⟩ : ByteArray)).bind fun t310 => (if t310 = true then ((strings_HasPrefix.f a1 (⟨#[47, 47]⟩ : ByteArray)).bind fun t311 => (uri_Join.j0 k a1 (!t311) a0_0 a0_1 a0_2)) else (uri_Join.j0 k a1 false a0_0 a0_1 a0_2))) else (some ((⟨#[]⟩ : ByteArray), 0, (⟨#[]⟩ : ByteArray), 23))) = some (r1, r2, r3, r4) := H
  have A3 := Aside0.mk A30
  clear A30
  by_cases c4 : t309 = true
  · subst c4
    have H1 : ((strings_HasPrefix.f a1 (⟨#[47]⟩ : ByteArray)).bind fun t310 => (if t310 = true then ((strings_HasPrefix.f a1 (⟨#[47, 47]⟩ : ByteArray)).bind fun t311 => (uri_Join.j0 k a1 (!t311) a0_0 a0_1 a0_2)) else (uri_Join.j0 k a1 false a0_0 a0_1 a0_2))) = some (r1, r2, r3, r4) := by rw [if_pos rfl] at H; exact H
    clear H
    have H := H1
    clear H1
    have HC5 := Aside0.mk H
    clear H
    go_enter Tryd.func28, Tryd.ntmps28
    go_upto_region 3 with (first | ((with_reducible refine gate_dst (N := 2) rfl ?_); refine box_event ?hg (N := 2) ?hd (cs := #[.string a0_0, .int .i64 a0_1, .string a0_2]) (t := 35) ?hr ?_; (case hd => rfl); (case hg => rfl); (case hr => first | (go_simp; done) | (go_simp; rfl)); intro gb307 hg w6 hbox hb; have n0_ := Aside0.mk (below_step (by repeat (first | (with_reducible first | exact HB.out | apply below_alloc | apply pw_below_drewN | apply below_drew1) | exact HB.out)) hb); have n1_ := Aside0.mk (hbox); have n2_ := Aside0.mk ((by rw [hg]; exact (below_size (by repeat (first | (with_reducible first | exact HB.out | apply below_alloc | apply pw_below_drewN | apply below_drew1) | exact HB.out))) : w.heap.size ≤ gb307)); have n3_ := Aside0.mk ((by rw [hg]; exact (below_size (by repeat (first | (with_reducible first | exact HB.out | apply below_alloc | apply pw_below_drewN | apply below_drew1) | exact HB.out))) : w.heap.size ≤ gb307)); clear HB; have HB := n0_; have BK307 := n1_; have GW307 := n2_; have GE307 := n3_; clear n0_ n1_ n2_ n3_; clear hb hbox hg) | ((with_reducible refine gate_dst (N := 4) rfl ?_); refine box_event ?hg (N := 4) ?hd (cs := #[.string (⟨#[]⟩ : ByteArray), .int .i64 0, .string (⟨#[]⟩ : ByteArray)]) (t := 35) ?hr ?_; (case hd => rfl); (case hg => rfl); (case hr => first | (go_simp; done) | (go_simp; rfl)); intro gb308 hg w7 hbox hb; have n0_ := Aside0.mk (blk_below (g := gb307) (o := .cells #[.string a0_0, .int .i64 a0_1, .string a0_2] 35 (0, 0)) (by (with_reducible repeat (first | refine blk_drewN ?_ _ | refine blk_drew ?_ | refine blk_alloc ?_ _)); exact BK307.out) hb); have n1_ := Aside0.mk (below_step (by repeat (first | (with_reducible first | exact HB.out | apply below_alloc | apply pw_below_drewN | apply below_drew1 | refine below_set ?_ GE307.out) | exact HB.out)) hb); have n2_ := Aside0.mk (hbox); have n3_ := Aside0.mk ((by rw [hg]; exact (below_size (by repeat (first | (with_reducible first | exact HB.out | apply below_alloc | apply pw_below_drewN | apply below_drew1 | refine below_set ?_ GE307.out) | exact HB.out))) : w.heap.size ≤ gb308)); have n4_ := Aside0.mk ((by rw [hg]; exact (below_size (by repeat (first | (with_reducible first | exact HB.out | apply below_alloc | apply pw_below_drewN | apply below_drew1 | refine below_set ?_ GE307.out) | exact HB.out))) : w.heap.size ≤ gb308)); have n5_ := Aside0.mk ((by rw [hg]; exact Nat.ne_of_lt (blk_lt (g := gb307) (o := .cells #[.string a0_0, .int .i64 a0_1, .string a0_2] 35 (0, 0)) (by (with_reducible repeat (first | refine blk_drewN ?_ _ | refine blk_drew ?_ | refine blk_alloc ?_ _)); exact BK307.out)) : gb307 ≠ gb308)); have n6_ := Aside0.mk ((by rw [hg]; exact Nat.ne_of_gt (blk_lt (g := gb307) (o := .cells #[.string a0_0, .int .i64 a0_1, .string a0_2] 35 (0, 0)) (by (with_reducible repeat (first | refine blk_drewN ?_ _ | refine blk_drew ?_ | refine blk_alloc ?_ _)); exact BK307.out)) : gb308 ≠ gb307)); clear BK307; clear HB; have BK307 := n0_; have HB := n1_; have BK308 := n2_; have GW308 := n3_; have GE308 := n4_; have NB307_308 := n5_; have NB308_307 := n6_; clear n0_ n1_ n2_ n3_ n4_ n5_ n6_; clear hb hbox hg; have hnb8 := NB307_308.out; have hnc8 := NB308_307.out; have hcz9_0 : w7.cell? ⟨gb307, 0, none⟩ = some (.string a0_0) := (blk_cell BK307.out 0).trans rfl; have hcz9_1 : w7.cell? ⟨gb307, 1, none⟩ = some (.int .i64 a0_1) := (blk_cell BK307.out 1).trans rfl; have hcz9_2 : w7.cell? ⟨gb307, 2, none⟩ = some (.string a0_2) := (blk_cell BK307.out 2).trans rfl; have hfz9_0 := blk_frozen BK307.out 0; have hfz9_1 := blk_frozen BK307.out 1; have hfz9_2 := blk_frozen BK307.out 2) | ((with_reducible refine gate_callee (f := 22) rfl ?_); refine goesL_ (some 8) rfl rfl Tryd.func22 (by kernel_rfl) rfl #[.agg #[.string a0_0, .int .i64 a0_1, .string a0_2]] rfl (by (try simp only [List.map_toArray, List.map_cons, List.map_nil]); first | done | rfl | (simp only [List.length_drop, List.length_take]; rfl)) ?_; (with_reducible refine (uri_May.calls a0_0 a0_1 a0_2 true _ (Glob.below HGl.out (by repeat (first | (with_reducible first | exact HB.out | apply below_alloc | apply pw_below_drewN | apply below_drew1 | refine below_set ?_ GE307.out | refine below_set ?_ GE308.out) | exact HB.out))) A3.out).mono ?_); rintro e w10 ⟨rfl, hb⟩; refine ⟨_, rfl, ?_⟩; have n0_ := Aside0.mk (blk_below (g := gb307) (o := .cells #[.string a0_0, .int .i64 a0_1, .string a0_2] 35 (0, 0)) (by (with_reducible repeat (first | refine blk_drewN ?_ _ | refine blk_drew ?_ | refine blk_alloc ?_ _)); exact BK307.out) hb); have n1_ := Aside0.mk (blk_below (g := gb308) (o := .cells #[.string (⟨#[]⟩ : ByteArray), .int .i64 0, .string (⟨#[]⟩ : ByteArray)] 35 (0, 0)) (by (with_reducible repeat (first | refine blk_drewN ?_ _ | refine blk_drew ?_ | refine blk_alloc ?_ _)); exact BK308.out) hb); have n2_ := Aside0.mk (below_step (by repeat (first | (with_reducible first | exact HB.out | apply below_alloc | apply pw_below_drewN | apply below_drew1 | refine below_set ?_ GE307.out | refine below_set ?_ GE308.out) | exact HB.out)) hb); clear BK307; clear BK308; clear HB; have BK307 := n0_; have BK308 := n1_; have HB := n2_; clear n0_ n1_ n2_; (try clear hb); (try clear hb2); (try clear hk); (try clear hi)))
    (try simp only [Act.put, List.setIfInBounds_toArray, List.set_cons_zero, List.set_cons_succ])
    go_cut [11] (fun v11 wc => ∃ (kq : Nat) (x11_4 : Bool), v11 = .bool x11_4 ∧ Aside0 (uri_Join.j0 kq a1 x11_4 a0_0 a0_1 a0_2 = some (r1, r2, r3, r4)) ∧ Aside0 (kq ≤ k) ∧ Aside0 (wc.heap[gb307]? = some (.cells #[.string a0_0, .int .i64 a0_1, .string a0_2] 35 (0, 0))) ∧ Aside0 (wc.heap[gb308]? = some (.cells #[.string (⟨#[]⟩ : ByteArray), .int .i64 0, .string (⟨#[]⟩ : ByteArray)] 35 (0, 0))) ∧ Aside0 (Below w.heap.size w wc))
    case first =>
      have H := HC5.out
      clear HC5
      replace H := Option.bind_eq_some_iff.mp H
      obtain ⟨t310, A110, H⟩ := H
      replace H : (if t310 = true then ((strings_HasPrefix.f a1 (⟨#[47, 47]⟩ : ByteArray)).bind fun t311 => (uri_Join.j0 k a1 (!t311) a0_0 a0_1 a0_2)) else (uri_Join.j0 k a1 false a0_0 a0_1 a0_2)) = some (r1, r2, r3, r4) := H
      have A11 := Aside0.mk A110
      clear A110
      by_cases c12 : t310 = true
      · subst c12
        have H1 : ((strings_HasPrefix.f a1 (⟨#[47, 47]⟩ : ByteArray)).bind fun t311 => (uri_Join.j0 k a1 (!t311) a0_0 a0_1 a0_2)) = some (r1, r2, r3, r4) := by rw [if_pos rfl] at H; exact H
        clear H
        have H := H1
        clear H1
        replace H := Option.bind_eq_some_iff.mp H
        obtain ⟨t311, A130, H⟩ := H
        replace H : (uri_Join.j0 k a1 (!t311) a0_0 a0_1 a0_2) = some (r1, r2, r3, r4) := H
        have A13 := Aside0.mk A130
        clear A130
        have H' := Aside0.mk H
        clear H
        go_wp2_with (first | ((with_reducible refine gate_callee (f := 47) rfl ?_); refine goesL_ (some 13) rfl rfl Tryd.func47 (by kernel_rfl) rfl #[.string a1, .string (⟨#[47]⟩ : ByteArray)] rfl (by (try simp only [List.map_toArray, List.map_cons, List.map_nil]); first | done | rfl | (simp only [List.length_drop, List.length_take]; rfl)) ?_; (with_reducible refine (strings_HasPrefix.calls a1 (⟨#[47]⟩ : ByteArray) true _ (Glob.below HGl.out (by repeat (first | (with_reducible first | exact HB.out | apply below_alloc | apply pw_below_drewN | apply below_drew1 | refine below_set ?_ GE307.out | refine below_set ?_ GE308.out) | exact HB.out))) A11.out).mono ?_); rintro e w' ⟨rfl, ⟨nd, rfl⟩⟩; refine ⟨_, rfl, ?_⟩) | (go_at_call 47; (with_reducible refine (strings_HasPrefix.calls a1 (⟨#[47, 47]⟩ : ByteArray) t311 _ (Glob.below HGl.out (by repeat (first | (with_reducible first | exact HB.out | apply below_alloc | apply pw_below_drewN | apply below_drew1 | refine below_set ?_ GE307.out | refine below_set ?_ GE308.out) | exact HB.out))) A13.out).mono ?_); rintro e w' ⟨rfl, ⟨nd, rfl⟩⟩))
        go_meet
        case rel => exact ⟨_, (!t311), (by first | rfl | (simp; done) | (simp [*]; done)), H', ⟨by first | omega | exact Nat.le_refl _⟩, ⟨by (with_reducible repeat (first | refine blk_drewN ?_ _ | refine blk_drew ?_ | refine blk_alloc ?_ _)); exact BK307.out⟩, ⟨by (with_reducible repeat (first | refine blk_drewN ?_ _ | refine blk_drew ?_ | refine blk_alloc ?_ _)); exact BK308.out⟩, ⟨by repeat (first | (with_reducible first | exact HB.out | apply below_alloc | apply pw_below_drewN | apply below_drew1 | refine below_set ?_ GE307.out | refine below_set ?_ GE308.out) | exact HB.out)⟩⟩
      · replace c12 := Bool.eq_false_iff.mpr c12
        subst c12
        have H1 : (uri_Join.j0 k a1 false a0_0 a0_1 a0_2) = some (r1, r2, r3, r4) := by rw [if_neg (show ¬ (false = true) by decide)] at H; exact H
        clear H
        have H := H1
        clear H1
        have H' := Aside0.mk H
        clear H
        go_wp2_with (first | ((with_reducible refine gate_callee (f := 47) rfl ?_); refine goesL_ (some 13) rfl rfl Tryd.func47 (by kernel_rfl) rfl #[.string a1, .string (⟨#[47]⟩ : ByteArray)] rfl (by (try simp only [List.map_toArray, List.map_cons, List.map_nil]); first | done | rfl | (simp only [List.length_drop, List.length_take]; rfl)) ?_; (with_reducible refine (strings_HasPrefix.calls a1 (⟨#[47]⟩ : ByteArray) false _ (Glob.below HGl.out (by repeat (first | (with_reducible first | exact HB.out | apply below_alloc | apply pw_below_drewN | apply below_drew1 | refine below_set ?_ GE307.out | refine below_set ?_ GE308.out) | exact HB.out))) A11.out).mono ?_); rintro e w' ⟨rfl, ⟨nd, rfl⟩⟩; refine ⟨_, rfl, ?_⟩))
        go_meet
        case rel => exact ⟨_, (false), (by first | rfl | (simp; done) | (simp [*]; done)), H', ⟨by first | omega | exact Nat.le_refl _⟩, ⟨by (with_reducible repeat (first | refine blk_drewN ?_ _ | refine blk_drew ?_ | refine blk_alloc ?_ _)); exact BK307.out⟩, ⟨by (with_reducible repeat (first | refine blk_drewN ?_ _ | refine blk_drew ?_ | refine blk_alloc ?_ _)); exact BK308.out⟩, ⟨by repeat (first | (with_reducible first | exact HB.out | apply below_alloc | apply pw_below_drewN | apply below_drew1 | refine below_set ?_ GE307.out | refine below_set ?_ GE308.out) | exact HB.out)⟩⟩
    case rest =>
      clear HC5
      try clear c1
      try clear c2
      try clear p2
      try clear c4
      try clear c8
      try clear c12
      try clear hcz9_0
      try clear hcz9_1
      try clear hcz9_2
      try clear hfz9_0
      try clear hfz9_1
      try clear hfz9_2
      obtain ⟨kq, x11_4, rfl, HA, HJ4, BK307, BK308, HB⟩ := hcut
      cases kq with
      | zero => exact absurd HA.out (by simp [uri_Join.j0])
      | succ kj4 =>
        have H := HA.out
        clear HA
        simp only [uri_Join.j0] at H
        by_cases c14 : x11_4 = true
        · subst c14
          have H1 : ((uri_checked.f a0_0 a0_1 a1).bind fun bt312 => (some (bt312.1, bt312.2.1, bt312.2.2.1, bt312.2.2.2))) = some (r1, r2, r3, r4) := by rw [if_pos rfl] at H; exact H
          clear H
          have H := H1
          clear H1
          replace H := Option.bind_eq_some_iff.mp H
          obtain ⟨⟨t312, t313, t314, t315⟩, A150, H⟩ := H
          replace H : (some (t312, t313, t314, t315)) = some (r1, r2, r3, r4) := H
          have A15 := Aside0.mk A150
          clear A150
          simp only [Option.some.injEq, Prod.mk.injEq] at H
          obtain ⟨rfl, rfl, rfl, rfl⟩ := H
          have hnb16 := NB307_308.out
          have hnc16 := NB308_307.out
          have hcz17_0 : wc.cell? ⟨gb307, 0, none⟩ = some (.string a0_0) := (blk_cell BK307.out 0).trans rfl
          have hcz17_1 : wc.cell? ⟨gb307, 1, none⟩ = some (.int .i64 a0_1) := (blk_cell BK307.out 1).trans rfl
          have hcz17_2 : wc.cell? ⟨gb307, 2, none⟩ = some (.string a0_2) := (blk_cell BK307.out 2).trans rfl
          have hfz17_0 := blk_frozen BK307.out 0
          have hfz17_1 := blk_frozen BK307.out 1
          have hfz17_2 := blk_frozen BK307.out 2
          go_wp2_with (first | ((with_reducible refine gate_callee (f := 46) rfl ?_); refine goesL_ (some 22) rfl rfl Tryd.func46 (by kernel_rfl) rfl #[.agg #[.string a0_0, .int .i64 a0_1, .string a1]] rfl (by (try simp only [List.map_toArray, List.map_cons, List.map_nil]); first | done | rfl | (simp only [List.length_drop, List.length_take]; rfl)) ?_; (with_reducible refine (uri_checked.calls a0_0 a0_1 a1 t312 t313 t314 t315 _ (Glob.below HGl.out (by repeat (first | (with_reducible first | exact HB.out | apply below_alloc | apply pw_below_drewN | apply below_drew1 | refine below_set ?_ GE307.out | refine below_set ?_ GE308.out) | exact HB.out))) A15.out).mono ?_); rintro e w18 ⟨rfl, hb⟩; refine ⟨_, rfl, ?_⟩; have n0_ := Aside0.mk (blk_below (g := gb307) (o := .cells #[.string a0_0, .int .i64 a0_1, .string a1] 35 (0, 0)) (by (with_reducible repeat (first | refine blk_drewN ?_ _ | refine blk_drew ?_ | refine blk_alloc ?_ _)); refine blk_put (cs := #[.string a0_0, .int .i64 a0_1, .string a0_2]) ?_ 2 _ rfl; (with_reducible repeat (first | refine blk_drewN ?_ _ | refine blk_drew ?_ | refine blk_alloc ?_ _)); exact BK307.out) hb); have n1_ := Aside0.mk (blk_below (g := gb308) (o := .cells #[.string (⟨#[]⟩ : ByteArray), .int .i64 0, .string (⟨#[]⟩ : ByteArray)] 35 (0, 0)) (by (with_reducible repeat (first | refine blk_drewN ?_ _ | refine blk_drew ?_ | refine blk_alloc ?_ _)); refine blk_far ?_ NB308_307.out _; (with_reducible repeat (first | refine blk_drewN ?_ _ | refine blk_drew ?_ | refine blk_alloc ?_ _)); exact BK308.out) hb); have n2_ := Aside0.mk (below_step (by repeat (first | (with_reducible first | exact HB.out | apply below_alloc | apply pw_below_drewN | apply below_drew1 | refine below_set ?_ GE307.out | refine below_set ?_ GE308.out) | exact HB.out)) hb); clear BK307; clear BK308; clear HB; have BK307 := n0_; have BK308 := n1_; have HB := n2_; clear n0_ n1_ n2_; (try clear hb); (try clear hb2); (try clear hk); (try clear hi); have hcz19_0 : w18.cell? ⟨gb308, 0, none⟩ = some (.string (⟨#[]⟩ : ByteArray)) := (blk_cell BK308.out 0).trans rfl; have hcz19_1 : w18.cell? ⟨gb308, 1, none⟩ = some (.int .i64 0) := (blk_cell BK308.out 1).trans rfl; have hcz19_2 : w18.cell? ⟨gb308, 2, none⟩ = some (.string (⟨#[]⟩ : ByteArray)) := (blk_cell BK308.out 2).trans rfl; have hfz19_0 := blk_frozen BK308.out 0; have hfz19_1 := blk_frozen BK308.out 1; have hfz19_2 := blk_frozen BK308.out 2))
          refine bodyPost_ret (results_ct rfl _ _ gb308 35 #[.string t312, .int .i64 t313, .string t314] (0, 0) _ rfl (by (with_reducible repeat (first | refine blk_drewN ?_ _ | refine blk_drew ?_ | refine blk_alloc ?_ _)); refine blk_put (cs := #[.string t312, .int .i64 t313, .string (⟨#[]⟩ : ByteArray)]) ?_ 2 _ rfl; (with_reducible repeat (first | refine blk_drewN ?_ _ | refine blk_drew ?_ | refine blk_alloc ?_ _)); refine blk_put (cs := #[.string t312, .int .i64 0, .string (⟨#[]⟩ : ByteArray)]) ?_ 1 _ rfl; (with_reducible repeat (first | refine blk_drewN ?_ _ | refine blk_drew ?_ | refine blk_alloc ?_ _)); refine blk_put (cs := #[.string (⟨#[]⟩ : ByteArray), .int .i64 0, .string (⟨#[]⟩ : ByteArray)]) ?_ 0 _ rfl; (with_reducible repeat (first | refine blk_drewN ?_ _ | refine blk_drew ?_ | refine blk_alloc ?_ _)); exact BK308.out) Tryd.underlying35 rfl (by kernel_rfl)) rfl ?_
          exact ⟨by first | rfl | (simp [errW_none, errW_some] <;> rfl) | (simp [*, errW_none, errW_some] <;> rfl), by repeat (first | (with_reducible first | exact HB.out | apply below_alloc | apply pw_below_drewN | apply below_drew1 | refine below_set ?_ GE307.out | refine below_set ?_ GE308.out) | exact HB.out)⟩
        · replace c14 := Bool.eq_false_iff.mpr c14
          subst c14
          have H1 : ((uri_Parse.f kj4 a1).bind fun bt316 => (some (bt316.1, bt316.2.1, bt316.2.2.1, bt316.2.2.2))) = some (r1, r2, r3, r4) := by rw [if_neg (show ¬ (false = true) by decide)] at H; exact H
          clear H
          have H := H1
          clear H1
          replace H := Option.bind_eq_some_iff.mp H
          obtain ⟨⟨t316, t317, t318, t319⟩, A200, H⟩ := H
          replace H : (some (t316, t317, t318, t319)) = some (r1, r2, r3, r4) := H
          have A20 := Aside0.mk A200
          clear A200
          simp only [Option.some.injEq, Prod.mk.injEq] at H
          obtain ⟨rfl, rfl, rfl, rfl⟩ := H
          go_wp2_with (first | ((with_reducible refine gate_callee (f := 23) rfl ?_); refine goesL_ (some 26) rfl rfl Tryd.func23 (by kernel_rfl) rfl #[.string a1] rfl (by (try simp only [List.map_toArray, List.map_cons, List.map_nil]); first | done | rfl | (simp only [List.length_drop, List.length_take]; rfl)) ?_; (with_reducible refine (uri_Parse.calls kj4 a1 t316 t317 t318 t319 _ (Glob.below HGl.out (by repeat (first | (with_reducible first | exact HB.out | apply below_alloc | apply pw_below_drewN | apply below_drew1 | refine below_set ?_ GE307.out | refine below_set ?_ GE308.out) | exact HB.out))) A20.out).mono ?_); rintro e w21 ⟨rfl, hb⟩; refine ⟨_, rfl, ?_⟩; have n0_ := Aside0.mk (blk_below (g := gb307) (o := .cells #[.string a0_0, .int .i64 a0_1, .string a0_2] 35 (0, 0)) (by (with_reducible repeat (first | refine blk_drewN ?_ _ | refine blk_drew ?_ | refine blk_alloc ?_ _)); exact BK307.out) hb); have n1_ := Aside0.mk (blk_below (g := gb308) (o := .cells #[.string (⟨#[]⟩ : ByteArray), .int .i64 0, .string (⟨#[]⟩ : ByteArray)] 35 (0, 0)) (by (with_reducible repeat (first | refine blk_drewN ?_ _ | refine blk_drew ?_ | refine blk_alloc ?_ _)); exact BK308.out) hb); have n2_ := Aside0.mk (below_step (by repeat (first | (with_reducible first | exact HB.out | apply below_alloc | apply pw_below_drewN | apply below_drew1 | refine below_set ?_ GE307.out | refine below_set ?_ GE308.out) | exact HB.out)) hb); clear BK307; clear BK308; clear HB; have BK307 := n0_; have BK308 := n1_; have HB := n2_; clear n0_ n1_ n2_; (try clear hb); (try clear hb2); (try clear hk); (try clear hi); have hnb22 := NB308_307.out; have hnc22 := NB307_308.out; have hcz23_0 : w21.cell? ⟨gb308, 0, none⟩ = some (.string (⟨#[]⟩ : ByteArray)) := (blk_cell BK308.out 0).trans rfl; have hcz23_1 : w21.cell? ⟨gb308, 1, none⟩ = some (.int .i64 0) := (blk_cell BK308.out 1).trans rfl; have hcz23_2 : w21.cell? ⟨gb308, 2, none⟩ = some (.string (⟨#[]⟩ : ByteArray)) := (blk_cell BK308.out 2).trans rfl; have hfz23_0 := blk_frozen BK308.out 0; have hfz23_1 := blk_frozen BK308.out 1; have hfz23_2 := blk_frozen BK308.out 2))
          refine bodyPost_ret (results_ct rfl _ _ gb308 35 #[.string t316, .int .i64 t317, .string t318] (0, 0) _ rfl (by (with_reducible repeat (first | refine blk_drewN ?_ _ | refine blk_drew ?_ | refine blk_alloc ?_ _)); refine blk_put (cs := #[.string t316, .int .i64 t317, .string (⟨#[]⟩ : ByteArray)]) ?_ 2 _ rfl; (with_reducible repeat (first | refine blk_drewN ?_ _ | refine blk_drew ?_ | refine blk_alloc ?_ _)); refine blk_put (cs := #[.string t316, .int .i64 0, .string (⟨#[]⟩ : ByteArray)]) ?_ 1 _ rfl; (with_reducible repeat (first | refine blk_drewN ?_ _ | refine blk_drew ?_ | refine blk_alloc ?_ _)); refine blk_put (cs := #[.string (⟨#[]⟩ : ByteArray), .int .i64 0, .string (⟨#[]⟩ : ByteArray)]) ?_ 0 _ rfl; (with_reducible repeat (first | refine blk_drewN ?_ _ | refine blk_drew ?_ | refine blk_alloc ?_ _)); exact BK308.out) Tryd.underlying35 rfl (by kernel_rfl)) rfl ?_
          exact ⟨by first | rfl | (simp [errW_none, errW_some] <;> rfl) | (simp [*, errW_none, errW_some] <;> rfl), by repeat (first | (with_reducible first | exact HB.out | apply below_alloc | apply pw_below_drewN | apply below_drew1 | refine below_set ?_ GE307.out | refine below_set ?_ GE308.out) | exact HB.out)⟩
  · replace c4 := Bool.eq_false_iff.mpr c4
    subst c4
    have H1 : (some ((⟨#[]⟩ : ByteArray), 0, (⟨#[]⟩ : ByteArray), 23)) = some (r1, r2, r3, r4) := by rw [if_neg (show ¬ (false = true) by decide)] at H; exact H
    clear H
    have H := H1
    clear H1
    simp only [Option.some.injEq, Prod.mk.injEq] at H
    obtain ⟨rfl, rfl, rfl, rfl⟩ := H
    go_enter Tryd.func28, Tryd.ntmps28
    go_wp2_with (first | ((with_reducible refine gate_dst (N := 2) rfl ?_); refine box_event ?hg (N := 2) ?hd (cs := #[.string a0_0, .int .i64 a0_1, .string a0_2]) (t := 35) ?hr ?_; (case hd => rfl); (case hg => rfl); (case hr => first | (go_simp; done) | (go_simp; rfl)); intro gb307 hg w24 hbox hb; have n0_ := Aside0.mk (below_step (by repeat (first | (with_reducible first | exact HB.out | apply below_alloc | apply pw_below_drewN | apply below_drew1) | exact HB.out)) hb); have n1_ := Aside0.mk (hbox); have n2_ := Aside0.mk ((by rw [hg]; exact (below_size (by repeat (first | (with_reducible first | exact HB.out | apply below_alloc | apply pw_below_drewN | apply below_drew1) | exact HB.out))) : w.heap.size ≤ gb307)); have n3_ := Aside0.mk ((by rw [hg]; exact (below_size (by repeat (first | (with_reducible first | exact HB.out | apply below_alloc | apply pw_below_drewN | apply below_drew1) | exact HB.out))) : w.heap.size ≤ gb307)); clear HB; have HB := n0_; have BK307 := n1_; have GW307 := n2_; have GE307 := n3_; clear n0_ n1_ n2_ n3_; clear hb hbox hg) | ((with_reducible refine gate_dst (N := 4) rfl ?_); refine box_event ?hg (N := 4) ?hd (cs := #[.string (⟨#[]⟩ : ByteArray), .int .i64 0, .string (⟨#[]⟩ : ByteArray)]) (t := 35) ?hr ?_; (case hd => rfl); (case hg => rfl); (case hr => first | (go_simp; done) | (go_simp; rfl)); intro gb308 hg w25 hbox hb; have n0_ := Aside0.mk (blk_below (g := gb307) (o := .cells #[.string a0_0, .int .i64 a0_1, .string a0_2] 35 (0, 0)) (by (with_reducible repeat (first | refine blk_drewN ?_ _ | refine blk_drew ?_ | refine blk_alloc ?_ _)); exact BK307.out) hb); have n1_ := Aside0.mk (below_step (by repeat (first | (with_reducible first | exact HB.out | apply below_alloc | apply pw_below_drewN | apply below_drew1 | refine below_set ?_ GE307.out) | exact HB.out)) hb); have n2_ := Aside0.mk (hbox); have n3_ := Aside0.mk ((by rw [hg]; exact (below_size (by repeat (first | (with_reducible first | exact HB.out | apply below_alloc | apply pw_below_drewN | apply below_drew1 | refine below_set ?_ GE307.out) | exact HB.out))) : w.heap.size ≤ gb308)); have n4_ := Aside0.mk ((by rw [hg]; exact (below_size (by repeat (first | (with_reducible first | exact HB.out | apply below_alloc | apply pw_below_drewN | apply below_drew1 | refine below_set ?_ GE307.out) | exact HB.out))) : w.heap.size ≤ gb308)); have n5_ := Aside0.mk ((by rw [hg]; exact Nat.ne_of_lt (blk_lt (g := gb307) (o := .cells #[.string a0_0, .int .i64 a0_1, .string a0_2] 35 (0, 0)) (by (with_reducible repeat (first | refine blk_drewN ?_ _ | refine blk_drew ?_ | refine blk_alloc ?_ _)); exact BK307.out)) : gb307 ≠ gb308)); have n6_ := Aside0.mk ((by rw [hg]; exact Nat.ne_of_gt (blk_lt (g := gb307) (o := .cells #[.string a0_0, .int .i64 a0_1, .string a0_2] 35 (0, 0)) (by (with_reducible repeat (first | refine blk_drewN ?_ _ | refine blk_drew ?_ | refine blk_alloc ?_ _)); exact BK307.out)) : gb308 ≠ gb307)); clear BK307; clear HB; have BK307 := n0_; have HB := n1_; have BK308 := n2_; have GW308 := n3_; have GE308 := n4_; have NB307_308 := n5_; have NB308_307 := n6_; clear n0_ n1_ n2_ n3_ n4_ n5_ n6_; clear hb hbox hg; have hnb26 := NB307_308.out; have hnc26 := NB308_307.out; have hcz27_0 : w25.cell? ⟨gb307, 0, none⟩ = some (.string a0_0) := (blk_cell BK307.out 0).trans rfl; have hcz27_1 : w25.cell? ⟨gb307, 1, none⟩ = some (.int .i64 a0_1) := (blk_cell BK307.out 1).trans rfl; have hcz27_2 : w25.cell? ⟨gb307, 2, none⟩ = some (.string a0_2) := (blk_cell BK307.out 2).trans rfl; have hfz27_0 := blk_frozen BK307.out 0; have hfz27_1 := blk_frozen BK307.out 1; have hfz27_2 := blk_frozen BK307.out 2) | ((with_reducible refine gate_callee (f := 22) rfl ?_); refine goesL_ (some 8) rfl rfl Tryd.func22 (by kernel_rfl) rfl #[.agg #[.string a0_0, .int .i64 a0_1, .string a0_2]] rfl (by (try simp only [List.map_toArray, List.map_cons, List.map_nil]); first | done | rfl | (simp only [List.length_drop, List.length_take]; rfl)) ?_; (with_reducible refine (uri_May.calls a0_0 a0_1 a0_2 false _ (Glob.below HGl.out (by repeat (first | (with_reducible first | exact HB.out | apply below_alloc | apply pw_below_drewN | apply below_drew1 | refine below_set ?_ GE307.out | refine below_set ?_ GE308.out) | exact HB.out))) A3.out).mono ?_); rintro e w28 ⟨rfl, hb⟩; refine ⟨_, rfl, ?_⟩; have n0_ := Aside0.mk (blk_below (g := gb307) (o := .cells #[.string a0_0, .int .i64 a0_1, .string a0_2] 35 (0, 0)) (by (with_reducible repeat (first | refine blk_drewN ?_ _ | refine blk_drew ?_ | refine blk_alloc ?_ _)); exact BK307.out) hb); have n1_ := Aside0.mk (blk_below (g := gb308) (o := .cells #[.string (⟨#[]⟩ : ByteArray), .int .i64 0, .string (⟨#[]⟩ : ByteArray)] 35 (0, 0)) (by (with_reducible repeat (first | refine blk_drewN ?_ _ | refine blk_drew ?_ | refine blk_alloc ?_ _)); exact BK308.out) hb); have n2_ := Aside0.mk (below_step (by repeat (first | (with_reducible first | exact HB.out | apply below_alloc | apply pw_below_drewN | apply below_drew1 | refine below_set ?_ GE307.out | refine below_set ?_ GE308.out) | exact HB.out)) hb); clear BK307; clear BK308; clear HB; have BK307 := n0_; have BK308 := n1_; have HB := n2_; clear n0_ n1_ n2_; (try clear hb); (try clear hb2); (try clear hk); (try clear hi); have hcz29_0 : w28.cell? ⟨gb308, 0, none⟩ = some (.string (⟨#[]⟩ : ByteArray)) := (blk_cell BK308.out 0).trans rfl; have hcz29_1 : w28.cell? ⟨gb308, 1, none⟩ = some (.int .i64 0) := (blk_cell BK308.out 1).trans rfl; have hcz29_2 : w28.cell? ⟨gb308, 2, none⟩ = some (.string (⟨#[]⟩ : ByteArray)) := (blk_cell BK308.out 2).trans rfl; have hfz29_0 := blk_frozen BK308.out 0; have hfz29_1 := blk_frozen BK308.out 1; have hfz29_2 := blk_frozen BK308.out 2))
    refine bodyPost_ret (results_ct rfl _ _ gb308 35 #[.string (⟨#[]⟩ : ByteArray), .int .i64 0, .string (⟨#[]⟩ : ByteArray)] (0, 0) _ rfl (by (with_reducible repeat (first | refine blk_drewN ?_ _ | refine blk_drew ?_ | refine blk_alloc ?_ _)); refine blk_put (cs := #[.string (⟨#[]⟩ : ByteArray), .int .i64 0, .string (⟨#[]⟩ : ByteArray)]) ?_ 2 _ rfl; (with_reducible repeat (first | refine blk_drewN ?_ _ | refine blk_drew ?_ | refine blk_alloc ?_ _)); refine blk_put (cs := #[.string (⟨#[]⟩ : ByteArray), .int .i64 0, .string (⟨#[]⟩ : ByteArray)]) ?_ 1 _ rfl; (with_reducible repeat (first | refine blk_drewN ?_ _ | refine blk_drew ?_ | refine blk_alloc ?_ _)); refine blk_put (cs := #[.string (⟨#[]⟩ : ByteArray), .int .i64 0, .string (⟨#[]⟩ : ByteArray)]) ?_ 0 _ rfl; (with_reducible repeat (first | refine blk_drewN ?_ _ | refine blk_drew ?_ | refine blk_alloc ?_ _)); exact BK308.out) Tryd.underlying35 rfl (by kernel_rfl)) rfl ?_
    exact ⟨by first | rfl | (simp [errW_none, errW_some] <;> rfl) | (simp [*, errW_none, errW_some] <;> rfl), by repeat (first | (with_reducible first | exact HB.out | apply below_alloc | apply pw_below_drewN | apply below_drew1 | refine below_set ?_ GE307.out | refine below_set ?_ GE308.out) | exact HB.out)⟩

end Go.Proofs.YtjdlaofeenblkaaDoor.X

-- PRINTED by print.py (a twelfth state) out of the translation. Not trusted: Lean checks it.
namespace Go.Proofs.YtjdlaofeenblkaaDoor.X
open Go.RowKit Go.Proofs.YtjdlaofeenblkaaDoorW.PrintWords Go.Proofs.YtjdlaofeenblkaaDoorW.PrintLast Go.Proofs.YtjdlaofeenblkaaDoorW.PrintMore
attribute [local go_sem] max2_int min2_int max_two min_two max_three min_three max_four min_four   -- for this text's walks alone
set_option linter.unusedVariables false
set_option linter.unusedSimpArgs false
open Go.Proofs.YtjdlaofeenblkaaDoor.T

/-! ### uri_Host: function 24 -/
def uri_Host.f (a0_0 : ByteArray) (a0_1 : Int) (a0_2 : ByteArray) : Option (ByteArray) := (uri_May.f a0_0 a0_1 a0_2).bind fun t290 => (if t290 = true then ((uri_authority.f a0_0 a0_1 a0_2).bind fun t291 => (some t291)) else (some (⟨#[]⟩ : ByteArray)))
set_option maxHeartbeats 8000000 in
set_option maxRecDepth 100000 in
theorem uri_Host.calls (a0_0 : ByteArray) (a0_1 : Int) (a0_2 : ByteArray) (r : ByteArray) (w : World) (HGg : Glob w) (h : uri_Host.f a0_0 a0_1 a0_2 = some r) :
    Calls Tryd.prog 24 #[.agg #[.string a0_0, .int .i64 a0_1, .string a0_2]] w fun e w' => e = .returned (.string r) ∧ Below w.heap.size w w' := by
  have hu35 := Tryd.underlying35
  have HGl := Aside0.mk HGg
  clear HGg
  have HB := Aside0.mk (Below.refl w.heap.size w)
  have H : ((uri_May.f a0_0 a0_1 a0_2).bind fun t290 => (if t290 = true then ((uri_authority.f a0_0 a0_1 a0_2).bind fun t291 => (some t291)) else (some (⟨#[]⟩ : ByteArray)))) = some r := h
  clear h
  replace H := Option.bind_eq_some_iff.mp H
  obtain ⟨t290, A20, H⟩ := H
  replace H : (if t290 = true then ((uri_authority.f a0_0 a0_1 a0_2).bind fun t291 => (some t291)) else (some (⟨#[]⟩ : ByteArray))) = some r := H
  have A2 := Aside0.mk A20
  clear A20
  by_cases c3 : t290 = true
  · subst c3
    have H1 : ((uri_authority.f a0_0 a0_1 a0_2).bind fun t291 => (some t291)) = some r := by rw [if_pos rfl] at H; exact H
    clear H
    have H := H1
    clear H1
    replace H := Option.bind_eq_some_iff.mp H
    obtain ⟨t291, A40, H⟩ := H
    replace H : (some t291) = some r := H
    have A4 := Aside0.mk A40
    clear A40
    obtain rfl := Option.some.inj H
    go_enter Tryd.func24, Tryd.ntmps24
    go_wp2_with (first | ((with_reducible refine gate_dst (N := 1) rfl ?_); refine box_event ?hg (N := 1) ?hd (cs := #[.string a0_0, .int .i64 a0_1, .string a0_2]) (t := 35) ?hr ?_; (case hd => rfl); (case hg => rfl); (case hr => first | (go_simp; done) | (go_simp; rfl)); intro gb289 hg w5 hbox hb; have n0_ := Aside0.mk (below_step (by repeat (first | (with_reducible first | exact HB.out | apply below_alloc | apply pw_below_drewN | apply below_drew1) | exact HB.out)) hb); have n1_ := Aside0.mk (hbox); have n2_ := Aside0.mk ((by rw [hg]; exact (below_size (by repeat (first | (with_reducible first | exact HB.out | apply below_alloc | apply pw_below_drewN | apply below_drew1) | exact HB.out))) : w.heap.size ≤ gb289)); have n3_ := Aside0.mk ((by rw [hg]; exact (below_size (by repeat (first | (with_reducible first | exact HB.out | apply below_alloc | apply pw_below_drewN | apply below_drew1) | exact HB.out))) : w.heap.size ≤ gb289)); clear HB; have HB := n0_; have BK289 := n1_; have GW289 := n2_; have GE289 := n3_; clear n0_ n1_ n2_ n3_; clear hb hbox hg; have hcz6_0 : w5.cell? ⟨gb289, 0, none⟩ = some (.string a0_0) := (blk_cell BK289.out 0).trans rfl; have hcz6_1 : w5.cell? ⟨gb289, 1, none⟩ = some (.int .i64 a0_1) := (blk_cell BK289.out 1).trans rfl; have hcz6_2 : w5.cell? ⟨gb289, 2, none⟩ = some (.string a0_2) := (blk_cell BK289.out 2).trans rfl; have hfz6_0 := blk_frozen BK289.out 0; have hfz6_1 := blk_frozen BK289.out 1; have hfz6_2 := blk_frozen BK289.out 2) | ((with_reducible refine gate_callee (f := 22) rfl ?_); refine goesL_ (some 4) rfl rfl Tryd.func22 (by kernel_rfl) rfl #[.agg #[.string a0_0, .int .i64 a0_1, .string a0_2]] rfl (by (try simp only [List.map_toArray, List.map_cons, List.map_nil]); first | done | rfl | (simp only [List.length_drop, List.length_take]; rfl)) ?_; (with_reducible refine (uri_May.calls a0_0 a0_1 a0_2 true _ (Glob.below HGl.out (by repeat (first | (with_reducible first | exact HB.out | apply below_alloc | apply pw_below_drewN | apply below_drew1 | refine below_set ?_ GE289.out) | exact HB.out))) A2.out).mono ?_); rintro e w7 ⟨rfl, hb⟩; refine ⟨_, rfl, ?_⟩; have n0_ := Aside0.mk (blk_below (g := gb289) (o := .cells #[.string a0_0, .int .i64 a0_1, .string a0_2] 35 (0, 0)) (by (with_reducible repeat (first | refine blk_drewN ?_ _ | refine blk_drew ?_ | refine blk_alloc ?_ _)); exact BK289.out) hb); have n1_ := Aside0.mk (below_step (by repeat (first | (with_reducible first | exact HB.out | apply below_alloc | apply pw_below_drewN | apply below_drew1 | refine below_set ?_ GE289.out) | exact HB.out)) hb); clear BK289; clear HB; have BK289 := n0_; have HB := n1_; clear n0_ n1_; (try clear hb); (try clear hb2); (try clear hk); (try clear hi); have hcz8_0 : w7.cell? ⟨gb289, 0, none⟩ = some (.string a0_0) := (blk_cell BK289.out 0).trans rfl; have hcz8_1 : w7.cell? ⟨gb289, 1, none⟩ = some (.int .i64 a0_1) := (blk_cell BK289.out 1).trans rfl; have hcz8_2 : w7.cell? ⟨gb289, 2, none⟩ = some (.string a0_2) := (blk_cell BK289.out 2).trans rfl; have hfz8_0 := blk_frozen BK289.out 0; have hfz8_1 := blk_frozen BK289.out 1; have hfz8_2 := blk_frozen BK289.out 2) | ((with_reducible refine gate_callee (f := 41) rfl ?_); refine goesL_ (some 7) rfl rfl Tryd.func41 (by kernel_rfl) rfl #[.agg #[.string a0_0, .int .i64 a0_1, .string a0_2]] rfl (by (try simp only [List.map_toArray, List.map_cons, List.map_nil]); first | done | rfl | (simp only [List.length_drop, List.length_take]; rfl)) ?_; (with_reducible refine (uri_authority.calls a0_0 a0_1 a0_2 t291 _ (Glob.below HGl.out (by repeat (first | (with_reducible first | exact HB.out | apply below_alloc | apply pw_below_drewN | apply below_drew1 | refine below_set ?_ GE289.out) | exact HB.out))) A4.out).mono ?_); rintro e w9 ⟨rfl, hb⟩; refine ⟨_, rfl, ?_⟩; have n0_ := Aside0.mk (blk_below (g := gb289) (o := .cells #[.string a0_0, .int .i64 a0_1, .string a0_2] 35 (0, 0)) (by (with_reducible repeat (first | refine blk_drewN ?_ _ | refine blk_drew ?_ | refine blk_alloc ?_ _)); exact BK289.out) hb); have n1_ := Aside0.mk (below_step (by repeat (first | (with_reducible first | exact HB.out | apply below_alloc | apply pw_below_drewN | apply below_drew1 | refine below_set ?_ GE289.out) | exact HB.out)) hb); clear BK289; clear HB; have BK289 := n0_; have HB := n1_; clear n0_ n1_; (try clear hb); (try clear hb2); (try clear hk); (try clear hi)))
    go_ret
    exact ⟨by first | rfl | (simp [errW_none, errW_some] <;> rfl) | (simp [*, errW_none, errW_some] <;> rfl), by repeat (first | (with_reducible first | exact HB.out | apply below_alloc | apply pw_below_drewN | apply below_drew1 | refine below_set ?_ GE289.out) | exact HB.out)⟩
  · replace c3 := Bool.eq_false_iff.mpr c3
    subst c3
    have H1 : (some (⟨#[]⟩ : ByteArray)) = some r := by rw [if_neg (show ¬ (false = true) by decide)] at H; exact H
    clear H
    have H := H1
    clear H1
    obtain rfl := Option.some.inj H
    go_enter Tryd.func24, Tryd.ntmps24
    go_wp2_with (first | ((with_reducible refine gate_dst (N := 1) rfl ?_); refine box_event ?hg (N := 1) ?hd (cs := #[.string a0_0, .int .i64 a0_1, .string a0_2]) (t := 35) ?hr ?_; (case hd => rfl); (case hg => rfl); (case hr => first | (go_simp; done) | (go_simp; rfl)); intro gb289 hg w10 hbox hb; have n0_ := Aside0.mk (below_step (by repeat (first | (with_reducible first | exact HB.out | apply below_alloc | apply pw_below_drewN | apply below_drew1) | exact HB.out)) hb); have n1_ := Aside0.mk (hbox); have n2_ := Aside0.mk ((by rw [hg]; exact (below_size (by repeat (first | (with_reducible first | exact HB.out | apply below_alloc | apply pw_below_drewN | apply below_drew1) | exact HB.out))) : w.heap.size ≤ gb289)); have n3_ := Aside0.mk ((by rw [hg]; exact (below_size (by repeat (first | (with_reducible first | exact HB.out | apply below_alloc | apply pw_below_drewN | apply below_drew1) | exact HB.out))) : w.heap.size ≤ gb289)); clear HB; have HB := n0_; have BK289 := n1_; have GW289 := n2_; have GE289 := n3_; clear n0_ n1_ n2_ n3_; clear hb hbox hg; have hcz11_0 : w10.cell? ⟨gb289, 0, none⟩ = some (.string a0_0) := (blk_cell BK289.out 0).trans rfl; have hcz11_1 : w10.cell? ⟨gb289, 1, none⟩ = some (.int .i64 a0_1) := (blk_cell BK289.out 1).trans rfl; have hcz11_2 : w10.cell? ⟨gb289, 2, none⟩ = some (.string a0_2) := (blk_cell BK289.out 2).trans rfl; have hfz11_0 := blk_frozen BK289.out 0; have hfz11_1 := blk_frozen BK289.out 1; have hfz11_2 := blk_frozen BK289.out 2) | ((with_reducible refine gate_callee (f := 22) rfl ?_); refine goesL_ (some 4) rfl rfl Tryd.func22 (by kernel_rfl) rfl #[.agg #[.string a0_0, .int .i64 a0_1, .string a0_2]] rfl (by (try simp only [List.map_toArray, List.map_cons, List.map_nil]); first | done | rfl | (simp only [List.length_drop, List.length_take]; rfl)) ?_; (with_reducible refine (uri_May.calls a0_0 a0_1 a0_2 false _ (Glob.below HGl.out (by repeat (first | (with_reducible first | exact HB.out | apply below_alloc | apply pw_below_drewN | apply below_drew1 | refine below_set ?_ GE289.out) | exact HB.out))) A2.out).mono ?_); rintro e w12 ⟨rfl, hb⟩; refine ⟨_, rfl, ?_⟩; have n0_ := Aside0.mk (blk_below (g := gb289) (o := .cells #[.string a0_0, .int .i64 a0_1, .string a0_2] 35 (0, 0)) (by (with_reducible repeat (first | refine blk_drewN ?_ _ | refine blk_drew ?_ | refine blk_alloc ?_ _)); exact BK289.out) hb); have n1_ := Aside0.mk (below_step (by repeat (first | (with_reducible first | exact HB.out | apply below_alloc | apply pw_below_drewN | apply below_drew1 | refine below_set ?_ GE289.out) | exact HB.out)) hb); clear BK289; clear HB; have BK289 := n0_; have HB := n1_; clear n0_ n1_; (try clear hb); (try clear hb2); (try clear hk); (try clear hi)))
    go_ret
    exact ⟨by first | rfl | (simp [errW_none, errW_some] <;> rfl) | (simp [*, errW_none, errW_some] <;> rfl), by repeat (first | (with_reducible first | exact HB.out | apply below_alloc | apply pw_below_drewN | apply below_drew1 | refine below_set ?_ GE289.out) | exact HB.out)⟩

end Go.Proofs.YtjdlaofeenblkaaDoor.X

-- PRINTED by print.py (a twelfth state) out of the translation. Not trusted: Lean checks it.
namespace Go.Proofs.YtjdlaofeenblkaaDoor.X
open Go.RowKit Go.Proofs.YtjdlaofeenblkaaDoorW.PrintWords Go.Proofs.YtjdlaofeenblkaaDoorW.PrintLast Go.Proofs.YtjdlaofeenblkaaDoorW.PrintMore
attribute [local go_sem] max2_int min2_int max_two min_two max_three min_three max_four min_four   -- for this text's walks alone
set_option linter.unusedVariables false
set_option linter.unusedSimpArgs false
open Go.Proofs.YtjdlaofeenblkaaDoor.T

/-! ### uri_Authority: function 26 -/
def uri_Authority.f (a0 : ByteArray) : Option (ByteArray × Int × Int) := (strings_Cut.f a0 (⟨#[58]⟩ : ByteArray)).bind fun bt292 => ((text_Lower.f bt292.1).bind fun t295 => ((uri_port.f bt292.2.1).bind fun t296 => ((uri_Named.f t295).bind fun t297 => (if t297 = true then (if t296 = 0 then (some ((⟨#[]⟩ : ByteArray), 0, 23)) else (some (t295, t296, 0))) else (some ((⟨#[]⟩ : ByteArray), 0, 23))))))
set_option maxHeartbeats 8000000 in
set_option maxRecDepth 100000 in
theorem uri_Authority.calls (a0 : ByteArray) (r1 : ByteArray) (r2 : Int) (r3 : Int) (w : World) (HGg : Glob w) (h : uri_Authority.f a0 = some (r1, r2, r3)) :
    Calls Tryd.prog 26 #[.string a0] w fun e w' => e = .returned (.tuple #[.string r1, .int .i64 r2, .int .i64 r3]) ∧ Below w.heap.size w w' := by
  have HGl := Aside0.mk HGg
  clear HGg
  have HB := Aside0.mk (Below.refl w.heap.size w)
  have H : ((strings_Cut.f a0 (⟨#[58]⟩ : ByteArray)).bind fun bt292 => ((text_Lower.f bt292.1).bind fun t295 => ((uri_port.f bt292.2.1).bind fun t296 => ((uri_Named.f t295).bind fun t297 => (if t297 = true then (if t296 = 0 then (some ((⟨#[]⟩ : ByteArray), 0, 23)) else (some (t295, t296, 0))) else (some ((⟨#[]⟩ : ByteArray), 0, 23))))))) = some (r1, r2, r3) := h
  clear h
  replace H := Option.bind_eq_some_iff.mp H
  obtain ⟨⟨t292, t293, t294⟩, A20, H⟩ := H
  replace H : ((text_Lower.f t292).bind fun t295 => ((uri_port.f t293).bind fun t296 => ((uri_Named.f t295).bind fun t297 => (if t297 = true then (if t296 = 0 then (some ((⟨#[]⟩ : ByteArray), 0, 23)) else (some (t295, t296, 0))) else (some ((⟨#[]⟩ : ByteArray), 0, 23)))))) = some (r1, r2, r3) := H
  have A2 := Aside0.mk A20
  clear A20
  replace H := Option.bind_eq_some_iff.mp H
  obtain ⟨t295, A30, H⟩ := H
  replace H : ((uri_port.f t293).bind fun t296 => ((uri_Named.f t295).bind fun t297 => (if t297 = true then (if t296 = 0 then (some ((⟨#[]⟩ : ByteArray), 0, 23)) else (some (t295, t296, 0))) else (some ((⟨#[]⟩ : ByteArray), 0, 23))))) = some (r1, r2, r3) := H
  have A3 := Aside0.mk A30
  clear A30
  replace H := Option.bind_eq_some_iff.mp H
  obtain ⟨t296, A40, H⟩ := H
  replace H : ((uri_Named.f t295).bind fun t297 => (if t297 = true then (if t296 = 0 then (some ((⟨#[]⟩ : ByteArray), 0, 23)) else (some (t295, t296, 0))) else (some ((⟨#[]⟩ : ByteArray), 0, 23)))) = some (r1, r2, r3) := H
  have A4 := Aside0.mk A40
  clear A40
  replace H := Option.bind_eq_some_iff.mp H
  obtain ⟨t297, A50, H⟩ := H
  replace H : (if t297 = true then (if t296 = 0 then (some ((⟨#[]⟩ : ByteArray), 0, 23)) else (some (t295, t296, 0))) else (some ((⟨#[]⟩ : ByteArray), 0, 23))) = some (r1, r2, r3) := H
  have A5 := Aside0.mk A50
  clear A50
  by_cases c6 : t297 = true
  · subst c6
    have H1 : (if t296 = 0 then (some ((⟨#[]⟩ : ByteArray), 0, 23)) else (some (t295, t296, 0))) = some (r1, r2, r3) := by rw [if_pos rfl] at H; exact H
    clear H
    have H := H1
    clear H1
    by_cases c7 : t296 = 0
    · rw [if_pos c7] at H
      have c7b0 : (t296 == 0) = true := beq_iff_eq.mpr c7
      have c7b1 : (t296 != 0) = false := bne_eq_false_iff_eq.mpr c7
      clear c7
      simp only [Option.some.injEq, Prod.mk.injEq] at H
      obtain ⟨rfl, rfl, rfl⟩ := H
      go_enter Tryd.func26, Tryd.ntmps26
      go_wp2_with (first | ((with_reducible refine gate_callee (f := 44) rfl ?_); refine goesL_ (some 11) rfl rfl Tryd.func44 (by kernel_rfl) rfl #[.string a0, .string (⟨#[58]⟩ : ByteArray)] rfl (by (try simp only [List.map_toArray, List.map_cons, List.map_nil]); first | done | rfl | (simp only [List.length_drop, List.length_take]; rfl)) ?_; (with_reducible refine (strings_Cut.calls a0 (⟨#[58]⟩ : ByteArray) t292 t293 t294 _ (Glob.below HGl.out (by repeat (first | (with_reducible first | exact HB.out | apply below_alloc | apply pw_below_drewN | apply below_drew1) | exact HB.out))) A2.out).mono ?_); rintro e w' ⟨rfl, ⟨nd, rfl⟩⟩; refine ⟨_, rfl, ?_⟩) | ((with_reducible refine gate_callee (f := 27) rfl ?_); refine goesL_ (some 16) rfl rfl Tryd.func27 (by kernel_rfl) rfl #[.string t292] rfl (by (try simp only [List.map_toArray, List.map_cons, List.map_nil]); first | done | rfl | (simp only [List.length_drop, List.length_take]; rfl)) ?_; (with_reducible refine (text_Lower.calls t292 t295 _ (Glob.below HGl.out (by repeat (first | (with_reducible first | exact HB.out | apply below_alloc | apply pw_below_drewN | apply below_drew1) | exact HB.out))) A3.out).mono ?_); rintro e w8 ⟨rfl, hb⟩; refine ⟨_, rfl, ?_⟩; have n0_ := Aside0.mk (below_step (by repeat (first | (with_reducible first | exact HB.out | apply below_alloc | apply pw_below_drewN | apply below_drew1) | exact HB.out)) hb); clear HB; have HB := n0_; clear n0_; (try clear hb); (try clear hb2); (try clear hk); (try clear hi)) | ((with_reducible refine gate_callee (f := 45) rfl ?_); refine goesL_ (some 18) rfl rfl Tryd.func45 (by kernel_rfl) rfl #[.string t293] rfl (by (try simp only [List.map_toArray, List.map_cons, List.map_nil]); first | done | rfl | (simp only [List.length_drop, List.length_take]; rfl)) ?_; (with_reducible refine (uri_port.calls t293 t296 _ (Glob.below HGl.out (by repeat (first | (with_reducible first | exact HB.out | apply below_alloc | apply pw_below_drewN | apply below_drew1) | exact HB.out))) A4.out).mono ?_); rintro e w9 ⟨rfl, hb⟩; refine ⟨_, rfl, ?_⟩; have n0_ := Aside0.mk (below_step (by repeat (first | (with_reducible first | exact HB.out | apply below_alloc | apply pw_below_drewN | apply below_drew1) | exact HB.out)) hb); clear HB; have HB := n0_; clear n0_; (try clear hb); (try clear hb2); (try clear hk); (try clear hi)) | ((with_reducible refine gate_callee (f := 29) rfl ?_); refine goesL_ (some 20) rfl rfl Tryd.func29 (by kernel_rfl) rfl #[.string t295] rfl (by (try simp only [List.map_toArray, List.map_cons, List.map_nil]); first | done | rfl | (simp only [List.length_drop, List.length_take]; rfl)) ?_; (with_reducible refine (uri_Named.calls t295 true _ (Glob.below HGl.out (by repeat (first | (with_reducible first | exact HB.out | apply below_alloc | apply pw_below_drewN | apply below_drew1) | exact HB.out))) A5.out).mono ?_); rintro e w10 ⟨rfl, hb⟩; refine ⟨_, rfl, ?_⟩; have n0_ := Aside0.mk (below_step (by repeat (first | (with_reducible first | exact HB.out | apply below_alloc | apply pw_below_drewN | apply below_drew1) | exact HB.out)) hb); clear HB; have HB := n0_; clear n0_; (try clear hb); (try clear hb2); (try clear hk); (try clear hi)))
      go_ret3
      exact ⟨by first | rfl | (simp [errW_none, errW_some] <;> rfl) | (simp [*, errW_none, errW_some] <;> rfl), by repeat (first | (with_reducible first | exact HB.out | apply below_alloc | apply pw_below_drewN | apply below_drew1) | exact HB.out)⟩
    · rw [if_neg c7] at H
      have c7b0 : (t296 == 0) = false := beq_eq_false_iff_ne.mpr c7
      have c7b1 : (t296 != 0) = true := bne_iff_ne.mpr c7
      simp only [Option.some.injEq, Prod.mk.injEq] at H
      obtain ⟨rfl, rfl, rfl⟩ := H
      go_enter Tryd.func26, Tryd.ntmps26
      go_wp2_with (first | ((with_reducible refine gate_callee (f := 44) rfl ?_); refine goesL_ (some 11) rfl rfl Tryd.func44 (by kernel_rfl) rfl #[.string a0, .string (⟨#[58]⟩ : ByteArray)] rfl (by (try simp only [List.map_toArray, List.map_cons, List.map_nil]); first | done | rfl | (simp only [List.length_drop, List.length_take]; rfl)) ?_; (with_reducible refine (strings_Cut.calls a0 (⟨#[58]⟩ : ByteArray) t292 t293 t294 _ (Glob.below HGl.out (by repeat (first | (with_reducible first | exact HB.out | apply below_alloc | apply pw_below_drewN | apply below_drew1) | exact HB.out))) A2.out).mono ?_); rintro e w' ⟨rfl, ⟨nd, rfl⟩⟩; refine ⟨_, rfl, ?_⟩) | ((with_reducible refine gate_callee (f := 27) rfl ?_); refine goesL_ (some 16) rfl rfl Tryd.func27 (by kernel_rfl) rfl #[.string t292] rfl (by (try simp only [List.map_toArray, List.map_cons, List.map_nil]); first | done | rfl | (simp only [List.length_drop, List.length_take]; rfl)) ?_; (with_reducible refine (text_Lower.calls t292 t295 _ (Glob.below HGl.out (by repeat (first | (with_reducible first | exact HB.out | apply below_alloc | apply pw_below_drewN | apply below_drew1) | exact HB.out))) A3.out).mono ?_); rintro e w11 ⟨rfl, hb⟩; refine ⟨_, rfl, ?_⟩; have n0_ := Aside0.mk (below_step (by repeat (first | (with_reducible first | exact HB.out | apply below_alloc | apply pw_below_drewN | apply below_drew1) | exact HB.out)) hb); clear HB; have HB := n0_; clear n0_; (try clear hb); (try clear hb2); (try clear hk); (try clear hi)) | ((with_reducible refine gate_callee (f := 45) rfl ?_); refine goesL_ (some 18) rfl rfl Tryd.func45 (by kernel_rfl) rfl #[.string t293] rfl (by (try simp only [List.map_toArray, List.map_cons, List.map_nil]); first | done | rfl | (simp only [List.length_drop, List.length_take]; rfl)) ?_; (with_reducible refine (uri_port.calls t293 t296 _ (Glob.below HGl.out (by repeat (first | (with_reducible first | exact HB.out | apply below_alloc | apply pw_below_drewN | apply below_drew1) | exact HB.out))) A4.out).mono ?_); rintro e w12 ⟨rfl, hb⟩; refine ⟨_, rfl, ?_⟩; have n0_ := Aside0.mk (below_step (by repeat (first | (with_reducible first | exact HB.out | apply below_alloc | apply pw_below_drewN | apply below_drew1) | exact HB.out)) hb); clear HB; have HB := n0_; clear n0_; (try clear hb); (try clear hb2); (try clear hk); (try clear hi)) | ((with_reducible refine gate_callee (f := 29) rfl ?_); refine goesL_ (some 20) rfl rfl Tryd.func29 (by kernel_rfl) rfl #[.string t295] rfl (by (try simp only [List.map_toArray, List.map_cons, List.map_nil]); first | done | rfl | (simp only [List.length_drop, List.length_take]; rfl)) ?_; (with_reducible refine (uri_Named.calls t295 true _ (Glob.below HGl.out (by repeat (first | (with_reducible first | exact HB.out | apply below_alloc | apply pw_below_drewN | apply below_drew1) | exact HB.out))) A5.out).mono ?_); rintro e w13 ⟨rfl, hb⟩; refine ⟨_, rfl, ?_⟩; have n0_ := Aside0.mk (below_step (by repeat (first | (with_reducible first | exact HB.out | apply below_alloc | apply pw_below_drewN | apply below_drew1) | exact HB.out)) hb); clear HB; have HB := n0_; clear n0_; (try clear hb); (try clear hb2); (try clear hk); (try clear hi)))
      go_ret3
      exact ⟨by first | rfl | (simp [errW_none, errW_some] <;> rfl) | (simp [*, errW_none, errW_some] <;> rfl), by repeat (first | (with_reducible first | exact HB.out | apply below_alloc | apply pw_below_drewN | apply below_drew1) | exact HB.out)⟩
  · replace c6 := Bool.eq_false_iff.mpr c6
    subst c6
    have H1 : (some ((⟨#[]⟩ : ByteArray), 0, 23)) = some (r1, r2, r3) := by rw [if_neg (show ¬ (false = true) by decide)] at H; exact H
    clear H
    have H := H1
    clear H1
    simp only [Option.some.injEq, Prod.mk.injEq] at H
    obtain ⟨rfl, rfl, rfl⟩ := H
    go_enter Tryd.func26, Tryd.ntmps26
    go_wp2_with (first | ((with_reducible refine gate_callee (f := 44) rfl ?_); refine goesL_ (some 11) rfl rfl Tryd.func44 (by kernel_rfl) rfl #[.string a0, .string (⟨#[58]⟩ : ByteArray)] rfl (by (try simp only [List.map_toArray, List.map_cons, List.map_nil]); first | done | rfl | (simp only [List.length_drop, List.length_take]; rfl)) ?_; (with_reducible refine (strings_Cut.calls a0 (⟨#[58]⟩ : ByteArray) t292 t293 t294 _ (Glob.below HGl.out (by repeat (first | (with_reducible first | exact HB.out | apply below_alloc | apply pw_below_drewN | apply below_drew1) | exact HB.out))) A2.out).mono ?_); rintro e w' ⟨rfl, ⟨nd, rfl⟩⟩; refine ⟨_, rfl, ?_⟩) | ((with_reducible refine gate_callee (f := 27) rfl ?_); refine goesL_ (some 16) rfl rfl Tryd.func27 (by kernel_rfl) rfl #[.string t292] rfl (by (try simp only [List.map_toArray, List.map_cons, List.map_nil]); first | done | rfl | (simp only [List.length_drop, List.length_take]; rfl)) ?_; (with_reducible refine (text_Lower.calls t292 t295 _ (Glob.below HGl.out (by repeat (first | (with_reducible first | exact HB.out | apply below_alloc | apply pw_below_drewN | apply below_drew1) | exact HB.out))) A3.out).mono ?_); rintro e w14 ⟨rfl, hb⟩; refine ⟨_, rfl, ?_⟩; have n0_ := Aside0.mk (below_step (by repeat (first | (with_reducible first | exact HB.out | apply below_alloc | apply pw_below_drewN | apply below_drew1) | exact HB.out)) hb); clear HB; have HB := n0_; clear n0_; (try clear hb); (try clear hb2); (try clear hk); (try clear hi)) | ((with_reducible refine gate_callee (f := 45) rfl ?_); refine goesL_ (some 18) rfl rfl Tryd.func45 (by kernel_rfl) rfl #[.string t293] rfl (by (try simp only [List.map_toArray, List.map_cons, List.map_nil]); first | done | rfl | (simp only [List.length_drop, List.length_take]; rfl)) ?_; (with_reducible refine (uri_port.calls t293 t296 _ (Glob.below HGl.out (by repeat (first | (with_reducible first | exact HB.out | apply below_alloc | apply pw_below_drewN | apply below_drew1) | exact HB.out))) A4.out).mono ?_); rintro e w15 ⟨rfl, hb⟩; refine ⟨_, rfl, ?_⟩; have n0_ := Aside0.mk (below_step (by repeat (first | (with_reducible first | exact HB.out | apply below_alloc | apply pw_below_drewN | apply below_drew1) | exact HB.out)) hb); clear HB; have HB := n0_; clear n0_; (try clear hb); (try clear hb2); (try clear hk); (try clear hi)) | ((with_reducible refine gate_callee (f := 29) rfl ?_); refine goesL_ (some 20) rfl rfl Tryd.func29 (by kernel_rfl) rfl #[.string t295] rfl (by (try simp only [List.map_toArray, List.map_cons, List.map_nil]); first | done | rfl | (simp only [List.length_drop, List.length_take]; rfl)) ?_; (with_reducible refine (uri_Named.calls t295 false _ (Glob.below HGl.out (by repeat (first | (with_reducible first | exact HB.out | apply below_alloc | apply pw_below_drewN | apply below_drew1) | exact HB.out))) A5.out).mono ?_); rintro e w16 ⟨rfl, hb⟩; refine ⟨_, rfl, ?_⟩; have n0_ := Aside0.mk (below_step (by repeat (first | (with_reducible first | exact HB.out | apply below_alloc | apply pw_below_drewN | apply below_drew1) | exact HB.out)) hb); clear HB; have HB := n0_; clear n0_; (try clear hb); (try clear hb2); (try clear hk); (try clear hi)))
    go_ret3
    exact ⟨by first | rfl | (simp [errW_none, errW_some] <;> rfl) | (simp [*, errW_none, errW_some] <;> rfl), by repeat (first | (with_reducible first | exact HB.out | apply below_alloc | apply pw_below_drewN | apply below_drew1) | exact HB.out)⟩

end Go.Proofs.YtjdlaofeenblkaaDoor.X

/- tollhouselaw10.wakes, a closed function: walked by hand. -/
namespace Go.Proofs.YtjdlaofeenblkaaDoor.X
open Go.RowKit Go.Proofs.YtjdlaofeenblkaaDoorW.PrintWords Go.Proofs.YtjdlaofeenblkaaDoorW.PrintMore Go.Proofs.YtjdlaofeenblkaaDoor.T
set_option linter.unusedSimpArgs false
set_option linter.unusedVariables false
theorem wk0 : uri_Parse.f 9 (⟨#[104, 116, 116, 112, 58, 47, 47, 65, 46, 98, 58, 56, 48, 56, 48, 47, 120, 63, 121]⟩ : ByteArray) = some ((⟨#[97, 46, 98]⟩ : ByteArray), 8080, (⟨#[47, 120, 63, 121]⟩ : ByteArray), 0) := by decide +kernel
theorem wk1 : uri_Parse.f 9 (⟨#[104, 116, 116, 112, 58, 47, 47, 97, 58, 56, 48, 63, 113]⟩ : ByteArray) = some ((⟨#[97]⟩ : ByteArray), 80, (⟨#[47, 63, 113]⟩ : ByteArray), 0) := by decide +kernel
theorem wk2 : uri_Parse.f 9 (⟨#[104, 116, 116, 112, 58, 47, 47, 97, 58, 48, 56, 48, 47]⟩ : ByteArray) = some ((⟨#[]⟩ : ByteArray), 0, (⟨#[]⟩ : ByteArray), 23) := by decide +kernel
theorem wk3 : uri_Authority.f (⟨#[65, 58, 52, 52, 51]⟩ : ByteArray) = some ((⟨#[97]⟩ : ByteArray), 443, 0) := by decide +kernel
theorem wk4 : uri_Join.f 9 (⟨#[97, 46, 98]⟩ : ByteArray) 8080 (⟨#[47, 120, 63, 121]⟩ : ByteArray) (⟨#[47, 122]⟩ : ByteArray) = some ((⟨#[97, 46, 98]⟩ : ByteArray), 8080, (⟨#[47, 122]⟩ : ByteArray), 0) := by decide +kernel
theorem wk5 : uri_Join.f 9 (⟨#[97, 46, 98]⟩ : ByteArray) 8080 (⟨#[47, 120, 63, 121]⟩ : ByteArray) (⟨#[122]⟩ : ByteArray) = some ((⟨#[]⟩ : ByteArray), 0, (⟨#[]⟩ : ByteArray), 23) := by decide +kernel
theorem wk6 : uri_Text.f (⟨#[97, 46, 98]⟩ : ByteArray) 8080 (⟨#[47, 120, 63, 121]⟩ : ByteArray) = some (⟨#[104, 116, 116, 112, 58, 47, 47, 97, 46, 98, 58, 56, 48, 56, 48, 47, 120, 63, 121]⟩ : ByteArray) := by decide +kernel
theorem wk7 : uri_Host.f (⟨#[97]⟩ : ByteArray) 80 (⟨#[47, 63, 113]⟩ : ByteArray) = some (⟨#[97]⟩ : ByteArray) := by decide +kernel
def tollhouselaw10_wakes.f : Option Bool := some true
set_option maxRecDepth 100000 in
set_option maxHeartbeats 8000000 in
theorem tollhouselaw10_wakes.calls (r : Bool) (w : World) (HGg : Glob w) (h : tollhouselaw10_wakes.f = some r) : Calls Tryd.prog 25 #[] w fun e w' => e = .returned (.bool r) ∧ Below w.heap.size w w' := by
  obtain rfl := Option.some.inj h
  clear h
  have Q0 := Lib.hid (fun (W : World) (hb : Below w.heap.size w W) => uri_Parse.calls _ _ _ _ _ _ W (HGg.below hb) wk0)
  have Q1 := Lib.hid (fun (W : World) (hb : Below w.heap.size w W) => uri_Parse.calls _ _ _ _ _ _ W (HGg.below hb) wk1)
  have Q2 := Lib.hid (fun (W : World) (hb : Below w.heap.size w W) => uri_Parse.calls _ _ _ _ _ _ W (HGg.below hb) wk2)
  have Q3 := Lib.hid (fun (W : World) (hb : Below w.heap.size w W) => uri_Authority.calls _ _ _ _ W (HGg.below hb) wk3)
  have Q4 := Lib.hid (fun (W : World) (hb : Below w.heap.size w W) => uri_Join.calls _ _ _ _ _ _ _ _ _ W (HGg.below hb) wk4)
  have Q5 := Lib.hid (fun (W : World) (hb : Below w.heap.size w W) => uri_Join.calls _ _ _ _ _ _ _ _ _ W (HGg.below hb) wk5)
  have Q6 := Lib.hid (fun (W : World) (hb : Below w.heap.size w W) => uri_Text.calls _ _ _ _ W (HGg.below hb) wk6)
  have Q7 := Lib.hid (fun (W : World) (hb : Below w.heap.size w W) => uri_Host.calls _ _ _ _ W (HGg.below hb) wk7)
  clear HGg
  have tk0 : True := trivial
  have tk1 : True := trivial
  have tk2 : True := trivial
  have tk3 : True := trivial
  have tk4 : True := trivial
  have tk5 : True := trivial
  have tk6 : True := trivial
  have tk7 : True := trivial
  go_enter Tryd.func25, Tryd.ntmps25
  go_wp2_with (first
    | (go_at_call 23; have t_ := tk0; clear tk0; clear t_; refine (Q0.out _ (Below.refl _ _)).mono ?_; rintro e w0 ⟨rfl, hb⟩; have HB0 := Lib.hid (below_next (Below.refl _ _) hb); clear hb)
    | (go_at_call 23; have t_ := tk1; clear tk1; clear t_; refine (Q1.out _ (below_alc HB0.out _)).mono ?_; rintro e w1 ⟨rfl, hb⟩; have hc1_0_0 : w1.cell? ⟨w0.heap.size, 0, none⟩ = some (.string (⟨#[97, 46, 98]⟩ : ByteArray)) := pw_cell_below hb (show (w0.alloc (.cells #[.string (⟨#[97, 46, 98]⟩ : ByteArray), .int .i64 8080, .string (⟨#[47, 120, 63, 121]⟩ : ByteArray)] 35)).cell? ⟨w0.heap.size, 0, none⟩ = some (.string (⟨#[97, 46, 98]⟩ : ByteArray)) by go_simp); have hd1_0_0 : (w1.alloc (.cells #[.string (⟨#[97]⟩ : ByteArray), .int .i64 80, .string (⟨#[47, 63, 113]⟩ : ByteArray)] 35)).cell? ⟨w0.heap.size, 0, none⟩ = some (.string (⟨#[97, 46, 98]⟩ : ByteArray)) := pw_cell_below (below_alc (Below.refl _ _) _) hc1_0_0; have hc1_0_1 : w1.cell? ⟨w0.heap.size, 1, none⟩ = some (.int .i64 8080) := pw_cell_below hb (show (w0.alloc (.cells #[.string (⟨#[97, 46, 98]⟩ : ByteArray), .int .i64 8080, .string (⟨#[47, 120, 63, 121]⟩ : ByteArray)] 35)).cell? ⟨w0.heap.size, 1, none⟩ = some (.int .i64 8080) by go_simp); have hd1_0_1 : (w1.alloc (.cells #[.string (⟨#[97]⟩ : ByteArray), .int .i64 80, .string (⟨#[47, 63, 113]⟩ : ByteArray)] 35)).cell? ⟨w0.heap.size, 1, none⟩ = some (.int .i64 8080) := pw_cell_below (below_alc (Below.refl _ _) _) hc1_0_1; have hc1_0_2 : w1.cell? ⟨w0.heap.size, 2, none⟩ = some (.string (⟨#[47, 120, 63, 121]⟩ : ByteArray)) := pw_cell_below hb (show (w0.alloc (.cells #[.string (⟨#[97, 46, 98]⟩ : ByteArray), .int .i64 8080, .string (⟨#[47, 120, 63, 121]⟩ : ByteArray)] 35)).cell? ⟨w0.heap.size, 2, none⟩ = some (.string (⟨#[47, 120, 63, 121]⟩ : ByteArray)) by go_simp); have hd1_0_2 : (w1.alloc (.cells #[.string (⟨#[97]⟩ : ByteArray), .int .i64 80, .string (⟨#[47, 63, 113]⟩ : ByteArray)] 35)).cell? ⟨w0.heap.size, 2, none⟩ = some (.string (⟨#[47, 120, 63, 121]⟩ : ByteArray)) := pw_cell_below (below_alc (Below.refl _ _) _) hc1_0_2; have HB1 := Lib.hid (below_next (below_alc HB0.out _) hb); clear hb)
    | (go_at_call 23; have t_ := tk2; clear tk2; clear t_; refine (Q2.out _ (below_alc HB1.out _)).mono ?_; rintro e w2 ⟨rfl, hb⟩; have hc2_0_0 : w2.cell? ⟨w0.heap.size, 0, none⟩ = some (.string (⟨#[97, 46, 98]⟩ : ByteArray)) := pw_cell_below hb (pw_cell_below (below_alc (Below.refl _ _) (.cells #[.string (⟨#[97]⟩ : ByteArray), .int .i64 80, .string (⟨#[47, 63, 113]⟩ : ByteArray)] 35)) hc1_0_0); have hd2_0_0 : (w2.alloc (.cells #[.string (⟨#[]⟩ : ByteArray), .int .i64 0, .string (⟨#[]⟩ : ByteArray)] 35)).cell? ⟨w0.heap.size, 0, none⟩ = some (.string (⟨#[97, 46, 98]⟩ : ByteArray)) := pw_cell_below (below_alc (Below.refl _ _) _) hc2_0_0; have hc2_0_1 : w2.cell? ⟨w0.heap.size, 1, none⟩ = some (.int .i64 8080) := pw_cell_below hb (pw_cell_below (below_alc (Below.refl _ _) (.cells #[.string (⟨#[97]⟩ : ByteArray), .int .i64 80, .string (⟨#[47, 63, 113]⟩ : ByteArray)] 35)) hc1_0_1); have hd2_0_1 : (w2.alloc (.cells #[.string (⟨#[]⟩ : ByteArray), .int .i64 0, .string (⟨#[]⟩ : ByteArray)] 35)).cell? ⟨w0.heap.size, 1, none⟩ = some (.int .i64 8080) := pw_cell_below (below_alc (Below.refl _ _) _) hc2_0_1; have hc2_0_2 : w2.cell? ⟨w0.heap.size, 2, none⟩ = some (.string (⟨#[47, 120, 63, 121]⟩ : ByteArray)) := pw_cell_below hb (pw_cell_below (below_alc (Below.refl _ _) (.cells #[.string (⟨#[97]⟩ : ByteArray), .int .i64 80, .string (⟨#[47, 63, 113]⟩ : ByteArray)] 35)) hc1_0_2); have hd2_0_2 : (w2.alloc (.cells #[.string (⟨#[]⟩ : ByteArray), .int .i64 0, .string (⟨#[]⟩ : ByteArray)] 35)).cell? ⟨w0.heap.size, 2, none⟩ = some (.string (⟨#[47, 120, 63, 121]⟩ : ByteArray)) := pw_cell_below (below_alc (Below.refl _ _) _) hc2_0_2; have hc2_1_0 : w2.cell? ⟨w1.heap.size, 0, none⟩ = some (.string (⟨#[97]⟩ : ByteArray)) := pw_cell_below hb (show (w1.alloc (.cells #[.string (⟨#[97]⟩ : ByteArray), .int .i64 80, .string (⟨#[47, 63, 113]⟩ : ByteArray)] 35)).cell? ⟨w1.heap.size, 0, none⟩ = some (.string (⟨#[97]⟩ : ByteArray)) by go_simp); have hd2_1_0 : (w2.alloc (.cells #[.string (⟨#[]⟩ : ByteArray), .int .i64 0, .string (⟨#[]⟩ : ByteArray)] 35)).cell? ⟨w1.heap.size, 0, none⟩ = some (.string (⟨#[97]⟩ : ByteArray)) := pw_cell_below (below_alc (Below.refl _ _) _) hc2_1_0; have hc2_1_1 : w2.cell? ⟨w1.heap.size, 1, none⟩ = some (.int .i64 80) := pw_cell_below hb (show (w1.alloc (.cells #[.string (⟨#[97]⟩ : ByteArray), .int .i64 80, .string (⟨#[47, 63, 113]⟩ : ByteArray)] 35)).cell? ⟨w1.heap.size, 1, none⟩ = some (.int .i64 80) by go_simp); have hd2_1_1 : (w2.alloc (.cells #[.string (⟨#[]⟩ : ByteArray), .int .i64 0, .string (⟨#[]⟩ : ByteArray)] 35)).cell? ⟨w1.heap.size, 1, none⟩ = some (.int .i64 80) := pw_cell_below (below_alc (Below.refl _ _) _) hc2_1_1; have hc2_1_2 : w2.cell? ⟨w1.heap.size, 2, none⟩ = some (.string (⟨#[47, 63, 113]⟩ : ByteArray)) := pw_cell_below hb (show (w1.alloc (.cells #[.string (⟨#[97]⟩ : ByteArray), .int .i64 80, .string (⟨#[47, 63, 113]⟩ : ByteArray)] 35)).cell? ⟨w1.heap.size, 2, none⟩ = some (.string (⟨#[47, 63, 113]⟩ : ByteArray)) by go_simp); have hd2_1_2 : (w2.alloc (.cells #[.string (⟨#[]⟩ : ByteArray), .int .i64 0, .string (⟨#[]⟩ : ByteArray)] 35)).cell? ⟨w1.heap.size, 2, none⟩ = some (.string (⟨#[47, 63, 113]⟩ : ByteArray)) := pw_cell_below (below_alc (Below.refl _ _) _) hc2_1_2; (try clear hc1_0_0 hc1_0_1 hc1_0_2); (try clear hd1_0_0 hd1_0_1 hd1_0_2); have HB2 := Lib.hid (below_next (below_alc HB1.out _) hb); clear hb)
    | (go_at_call 26; have t_ := tk3; clear tk3; clear t_; refine (Q3.out _ (below_alc HB2.out _)).mono ?_; rintro e w3 ⟨rfl, hb⟩; have hc3_0_0 : w3.cell? ⟨w0.heap.size, 0, none⟩ = some (.string (⟨#[97, 46, 98]⟩ : ByteArray)) := pw_cell_below hb (pw_cell_below (below_alc (Below.refl _ _) (.cells #[.string (⟨#[]⟩ : ByteArray), .int .i64 0, .string (⟨#[]⟩ : ByteArray)] 35)) hc2_0_0); have hc3_0_1 : w3.cell? ⟨w0.heap.size, 1, none⟩ = some (.int .i64 8080) := pw_cell_below hb (pw_cell_below (below_alc (Below.refl _ _) (.cells #[.string (⟨#[]⟩ : ByteArray), .int .i64 0, .string (⟨#[]⟩ : ByteArray)] 35)) hc2_0_1); have hc3_0_2 : w3.cell? ⟨w0.heap.size, 2, none⟩ = some (.string (⟨#[47, 120, 63, 121]⟩ : ByteArray)) := pw_cell_below hb (pw_cell_below (below_alc (Below.refl _ _) (.cells #[.string (⟨#[]⟩ : ByteArray), .int .i64 0, .string (⟨#[]⟩ : ByteArray)] 35)) hc2_0_2); have hc3_1_0 : w3.cell? ⟨w1.heap.size, 0, none⟩ = some (.string (⟨#[97]⟩ : ByteArray)) := pw_cell_below hb (pw_cell_below (below_alc (Below.refl _ _) (.cells #[.string (⟨#[]⟩ : ByteArray), .int .i64 0, .string (⟨#[]⟩ : ByteArray)] 35)) hc2_1_0); have hc3_1_1 : w3.cell? ⟨w1.heap.size, 1, none⟩ = some (.int .i64 80) := pw_cell_below hb (pw_cell_below (below_alc (Below.refl _ _) (.cells #[.string (⟨#[]⟩ : ByteArray), .int .i64 0, .string (⟨#[]⟩ : ByteArray)] 35)) hc2_1_1); have hc3_1_2 : w3.cell? ⟨w1.heap.size, 2, none⟩ = some (.string (⟨#[47, 63, 113]⟩ : ByteArray)) := pw_cell_below hb (pw_cell_below (below_alc (Below.refl _ _) (.cells #[.string (⟨#[]⟩ : ByteArray), .int .i64 0, .string (⟨#[]⟩ : ByteArray)] 35)) hc2_1_2); have hc3_2_0 : w3.cell? ⟨w2.heap.size, 0, none⟩ = some (.string (⟨#[]⟩ : ByteArray)) := pw_cell_below hb (show (w2.alloc (.cells #[.string (⟨#[]⟩ : ByteArray), .int .i64 0, .string (⟨#[]⟩ : ByteArray)] 35)).cell? ⟨w2.heap.size, 0, none⟩ = some (.string (⟨#[]⟩ : ByteArray)) by go_simp); have hc3_2_1 : w3.cell? ⟨w2.heap.size, 1, none⟩ = some (.int .i64 0) := pw_cell_below hb (show (w2.alloc (.cells #[.string (⟨#[]⟩ : ByteArray), .int .i64 0, .string (⟨#[]⟩ : ByteArray)] 35)).cell? ⟨w2.heap.size, 1, none⟩ = some (.int .i64 0) by go_simp); have hc3_2_2 : w3.cell? ⟨w2.heap.size, 2, none⟩ = some (.string (⟨#[]⟩ : ByteArray)) := pw_cell_below hb (show (w2.alloc (.cells #[.string (⟨#[]⟩ : ByteArray), .int .i64 0, .string (⟨#[]⟩ : ByteArray)] 35)).cell? ⟨w2.heap.size, 2, none⟩ = some (.string (⟨#[]⟩ : ByteArray)) by go_simp); (try clear hc2_0_0 hc2_0_1 hc2_0_2); (try clear hd2_0_0 hd2_0_1 hd2_0_2); (try clear hc2_1_0 hc2_1_1 hc2_1_2); (try clear hd2_1_0 hd2_1_1 hd2_1_2); have HB3 := Lib.hid (below_next (below_alc HB2.out _) hb); clear hb)
    | (go_at_call 28; have t_ := tk4; clear tk4; clear t_; refine (Q4.out _ HB3.out).mono ?_; rintro e w4 ⟨rfl, hb⟩; have hc4_0_0 : w4.cell? ⟨w0.heap.size, 0, none⟩ = some (.string (⟨#[97, 46, 98]⟩ : ByteArray)) := pw_cell_below hb hc3_0_0; have hd4_0_0 : (w4.alloc (.cells #[.string (⟨#[97, 46, 98]⟩ : ByteArray), .int .i64 8080, .string (⟨#[47, 122]⟩ : ByteArray)] 35)).cell? ⟨w0.heap.size, 0, none⟩ = some (.string (⟨#[97, 46, 98]⟩ : ByteArray)) := pw_cell_below (below_alc (Below.refl _ _) _) hc4_0_0; have hc4_0_1 : w4.cell? ⟨w0.heap.size, 1, none⟩ = some (.int .i64 8080) := pw_cell_below hb hc3_0_1; have hd4_0_1 : (w4.alloc (.cells #[.string (⟨#[97, 46, 98]⟩ : ByteArray), .int .i64 8080, .string (⟨#[47, 122]⟩ : ByteArray)] 35)).cell? ⟨w0.heap.size, 1, none⟩ = some (.int .i64 8080) := pw_cell_below (below_alc (Below.refl _ _) _) hc4_0_1; have hc4_0_2 : w4.cell? ⟨w0.heap.size, 2, none⟩ = some (.string (⟨#[47, 120, 63, 121]⟩ : ByteArray)) := pw_cell_below hb hc3_0_2; have hd4_0_2 : (w4.alloc (.cells #[.string (⟨#[97, 46, 98]⟩ : ByteArray), .int .i64 8080, .string (⟨#[47, 122]⟩ : ByteArray)] 35)).cell? ⟨w0.heap.size, 2, none⟩ = some (.string (⟨#[47, 120, 63, 121]⟩ : ByteArray)) := pw_cell_below (below_alc (Below.refl _ _) _) hc4_0_2; have hc4_1_0 : w4.cell? ⟨w1.heap.size, 0, none⟩ = some (.string (⟨#[97]⟩ : ByteArray)) := pw_cell_below hb hc3_1_0; have hd4_1_0 : (w4.alloc (.cells #[.string (⟨#[97, 46, 98]⟩ : ByteArray), .int .i64 8080, .string (⟨#[47, 122]⟩ : ByteArray)] 35)).cell? ⟨w1.heap.size, 0, none⟩ = some (.string (⟨#[97]⟩ : ByteArray)) := pw_cell_below (below_alc (Below.refl _ _) _) hc4_1_0; have hc4_1_1 : w4.cell? ⟨w1.heap.size, 1, none⟩ = some (.int .i64 80) := pw_cell_below hb hc3_1_1; have hd4_1_1 : (w4.alloc (.cells #[.string (⟨#[97, 46, 98]⟩ : ByteArray), .int .i64 8080, .string (⟨#[47, 122]⟩ : ByteArray)] 35)).cell? ⟨w1.heap.size, 1, none⟩ = some (.int .i64 80) := pw_cell_below (below_alc (Below.refl _ _) _) hc4_1_1; have hc4_1_2 : w4.cell? ⟨w1.heap.size, 2, none⟩ = some (.string (⟨#[47, 63, 113]⟩ : ByteArray)) := pw_cell_below hb hc3_1_2; have hd4_1_2 : (w4.alloc (.cells #[.string (⟨#[97, 46, 98]⟩ : ByteArray), .int .i64 8080, .string (⟨#[47, 122]⟩ : ByteArray)] 35)).cell? ⟨w1.heap.size, 2, none⟩ = some (.string (⟨#[47, 63, 113]⟩ : ByteArray)) := pw_cell_below (below_alc (Below.refl _ _) _) hc4_1_2; have hc4_2_0 : w4.cell? ⟨w2.heap.size, 0, none⟩ = some (.string (⟨#[]⟩ : ByteArray)) := pw_cell_below hb hc3_2_0; have hd4_2_0 : (w4.alloc (.cells #[.string (⟨#[97, 46, 98]⟩ : ByteArray), .int .i64 8080, .string (⟨#[47, 122]⟩ : ByteArray)] 35)).cell? ⟨w2.heap.size, 0, none⟩ = some (.string (⟨#[]⟩ : ByteArray)) := pw_cell_below (below_alc (Below.refl _ _) _) hc4_2_0; have hc4_2_1 : w4.cell? ⟨w2.heap.size, 1, none⟩ = some (.int .i64 0) := pw_cell_below hb hc3_2_1; have hd4_2_1 : (w4.alloc (.cells #[.string (⟨#[97, 46, 98]⟩ : ByteArray), .int .i64 8080, .string (⟨#[47, 122]⟩ : ByteArray)] 35)).cell? ⟨w2.heap.size, 1, none⟩ = some (.int .i64 0) := pw_cell_below (below_alc (Below.refl _ _) _) hc4_2_1; have hc4_2_2 : w4.cell? ⟨w2.heap.size, 2, none⟩ = some (.string (⟨#[]⟩ : ByteArray)) := pw_cell_below hb hc3_2_2; have hd4_2_2 : (w4.alloc (.cells #[.string (⟨#[97, 46, 98]⟩ : ByteArray), .int .i64 8080, .string (⟨#[47, 122]⟩ : ByteArray)] 35)).cell? ⟨w2.heap.size, 2, none⟩ = some (.string (⟨#[]⟩ : ByteArray)) := pw_cell_below (below_alc (Below.refl _ _) _) hc4_2_2; (try clear hc3_0_0 hc3_0_1 hc3_0_2); (try clear hd3_0_0 hd3_0_1 hd3_0_2); (try clear hc3_1_0 hc3_1_1 hc3_1_2); (try clear hd3_1_0 hd3_1_1 hd3_1_2); (try clear hc3_2_0 hc3_2_1 hc3_2_2); (try clear hd3_2_0 hd3_2_1 hd3_2_2); have HB4 := Lib.hid (below_next HB3.out hb); clear hb)
    | (go_at_call 28; have t_ := tk5; clear tk5; clear t_; refine (Q5.out _ (below_alc HB4.out _)).mono ?_; rintro e w5 ⟨rfl, hb⟩; have hc5_0_0 : w5.cell? ⟨w0.heap.size, 0, none⟩ = some (.string (⟨#[97, 46, 98]⟩ : ByteArray)) := pw_cell_below hb (pw_cell_below (below_alc (Below.refl _ _) (.cells #[.string (⟨#[97, 46, 98]⟩ : ByteArray), .int .i64 8080, .string (⟨#[47, 122]⟩ : ByteArray)] 35)) hc4_0_0); have hd5_0_0 : (w5.alloc (.cells #[.string (⟨#[]⟩ : ByteArray), .int .i64 0, .string (⟨#[]⟩ : ByteArray)] 35)).cell? ⟨w0.heap.size, 0, none⟩ = some (.string (⟨#[97, 46, 98]⟩ : ByteArray)) := pw_cell_below (below_alc (Below.refl _ _) _) hc5_0_0; have hc5_0_1 : w5.cell? ⟨w0.heap.size, 1, none⟩ = some (.int .i64 8080) := pw_cell_below hb (pw_cell_below (below_alc (Below.refl _ _) (.cells #[.string (⟨#[97, 46, 98]⟩ : ByteArray), .int .i64 8080, .string (⟨#[47, 122]⟩ : ByteArray)] 35)) hc4_0_1); have hd5_0_1 : (w5.alloc (.cells #[.string (⟨#[]⟩ : ByteArray), .int .i64 0, .string (⟨#[]⟩ : ByteArray)] 35)).cell? ⟨w0.heap.size, 1, none⟩ = some (.int .i64 8080) := pw_cell_below (below_alc (Below.refl _ _) _) hc5_0_1; have hc5_0_2 : w5.cell? ⟨w0.heap.size, 2, none⟩ = some (.string (⟨#[47, 120, 63, 121]⟩ : ByteArray)) := pw_cell_below hb (pw_cell_below (below_alc (Below.refl _ _) (.cells #[.string (⟨#[97, 46, 98]⟩ : ByteArray), .int .i64 8080, .string (⟨#[47, 122]⟩ : ByteArray)] 35)) hc4_0_2); have hd5_0_2 : (w5.alloc (.cells #[.string (⟨#[]⟩ : ByteArray), .int .i64 0, .string (⟨#[]⟩ : ByteArray)] 35)).cell? ⟨w0.heap.size, 2, none⟩ = some (.string (⟨#[47, 120, 63, 121]⟩ : ByteArray)) := pw_cell_below (below_alc (Below.refl _ _) _) hc5_0_2; have hc5_1_0 : w5.cell? ⟨w1.heap.size, 0, none⟩ = some (.string (⟨#[97]⟩ : ByteArray)) := pw_cell_below hb (pw_cell_below (below_alc (Below.refl _ _) (.cells #[.string (⟨#[97, 46, 98]⟩ : ByteArray), .int .i64 8080, .string (⟨#[47, 122]⟩ : ByteArray)] 35)) hc4_1_0); have hd5_1_0 : (w5.alloc (.cells #[.string (⟨#[]⟩ : ByteArray), .int .i64 0, .string (⟨#[]⟩ : ByteArray)] 35)).cell? ⟨w1.heap.size, 0, none⟩ = some (.string (⟨#[97]⟩ : ByteArray)) := pw_cell_below (below_alc (Below.refl _ _) _) hc5_1_0; have hc5_1_1 : w5.cell? ⟨w1.heap.size, 1, none⟩ = some (.int .i64 80) := pw_cell_below hb (pw_cell_below (below_alc (Below.refl _ _) (.cells #[.string (⟨#[97, 46, 98]⟩ : ByteArray), .int .i64 8080, .string (⟨#[47, 122]⟩ : ByteArray)] 35)) hc4_1_1); have hd5_1_1 : (w5.alloc (.cells #[.string (⟨#[]⟩ : ByteArray), .int .i64 0, .string (⟨#[]⟩ : ByteArray)] 35)).cell? ⟨w1.heap.size, 1, none⟩ = some (.int .i64 80) := pw_cell_below (below_alc (Below.refl _ _) _) hc5_1_1; have hc5_1_2 : w5.cell? ⟨w1.heap.size, 2, none⟩ = some (.string (⟨#[47, 63, 113]⟩ : ByteArray)) := pw_cell_below hb (pw_cell_below (below_alc (Below.refl _ _) (.cells #[.string (⟨#[97, 46, 98]⟩ : ByteArray), .int .i64 8080, .string (⟨#[47, 122]⟩ : ByteArray)] 35)) hc4_1_2); have hd5_1_2 : (w5.alloc (.cells #[.string (⟨#[]⟩ : ByteArray), .int .i64 0, .string (⟨#[]⟩ : ByteArray)] 35)).cell? ⟨w1.heap.size, 2, none⟩ = some (.string (⟨#[47, 63, 113]⟩ : ByteArray)) := pw_cell_below (below_alc (Below.refl _ _) _) hc5_1_2; have hc5_2_0 : w5.cell? ⟨w2.heap.size, 0, none⟩ = some (.string (⟨#[]⟩ : ByteArray)) := pw_cell_below hb (pw_cell_below (below_alc (Below.refl _ _) (.cells #[.string (⟨#[97, 46, 98]⟩ : ByteArray), .int .i64 8080, .string (⟨#[47, 122]⟩ : ByteArray)] 35)) hc4_2_0); have hd5_2_0 : (w5.alloc (.cells #[.string (⟨#[]⟩ : ByteArray), .int .i64 0, .string (⟨#[]⟩ : ByteArray)] 35)).cell? ⟨w2.heap.size, 0, none⟩ = some (.string (⟨#[]⟩ : ByteArray)) := pw_cell_below (below_alc (Below.refl _ _) _) hc5_2_0; have hc5_2_1 : w5.cell? ⟨w2.heap.size, 1, none⟩ = some (.int .i64 0) := pw_cell_below hb (pw_cell_below (below_alc (Below.refl _ _) (.cells #[.string (⟨#[97, 46, 98]⟩ : ByteArray), .int .i64 8080, .string (⟨#[47, 122]⟩ : ByteArray)] 35)) hc4_2_1); have hd5_2_1 : (w5.alloc (.cells #[.string (⟨#[]⟩ : ByteArray), .int .i64 0, .string (⟨#[]⟩ : ByteArray)] 35)).cell? ⟨w2.heap.size, 1, none⟩ = some (.int .i64 0) := pw_cell_below (below_alc (Below.refl _ _) _) hc5_2_1; have hc5_2_2 : w5.cell? ⟨w2.heap.size, 2, none⟩ = some (.string (⟨#[]⟩ : ByteArray)) := pw_cell_below hb (pw_cell_below (below_alc (Below.refl _ _) (.cells #[.string (⟨#[97, 46, 98]⟩ : ByteArray), .int .i64 8080, .string (⟨#[47, 122]⟩ : ByteArray)] 35)) hc4_2_2); have hd5_2_2 : (w5.alloc (.cells #[.string (⟨#[]⟩ : ByteArray), .int .i64 0, .string (⟨#[]⟩ : ByteArray)] 35)).cell? ⟨w2.heap.size, 2, none⟩ = some (.string (⟨#[]⟩ : ByteArray)) := pw_cell_below (below_alc (Below.refl _ _) _) hc5_2_2; have hc5_4_0 : w5.cell? ⟨w4.heap.size, 0, none⟩ = some (.string (⟨#[97, 46, 98]⟩ : ByteArray)) := pw_cell_below hb (show (w4.alloc (.cells #[.string (⟨#[97, 46, 98]⟩ : ByteArray), .int .i64 8080, .string (⟨#[47, 122]⟩ : ByteArray)] 35)).cell? ⟨w4.heap.size, 0, none⟩ = some (.string (⟨#[97, 46, 98]⟩ : ByteArray)) by go_simp); have hd5_4_0 : (w5.alloc (.cells #[.string (⟨#[]⟩ : ByteArray), .int .i64 0, .string (⟨#[]⟩ : ByteArray)] 35)).cell? ⟨w4.heap.size, 0, none⟩ = some (.string (⟨#[97, 46, 98]⟩ : ByteArray)) := pw_cell_below (below_alc (Below.refl _ _) _) hc5_4_0; have hc5_4_1 : w5.cell? ⟨w4.heap.size, 1, none⟩ = some (.int .i64 8080) := pw_cell_below hb (show (w4.alloc (.cells #[.string (⟨#[97, 46, 98]⟩ : ByteArray), .int .i64 8080, .string (⟨#[47, 122]⟩ : ByteArray)] 35)).cell? ⟨w4.heap.size, 1, none⟩ = some (.int .i64 8080) by go_simp); have hd5_4_1 : (w5.alloc (.cells #[.string (⟨#[]⟩ : ByteArray), .int .i64 0, .string (⟨#[]⟩ : ByteArray)] 35)).cell? ⟨w4.heap.size, 1, none⟩ = some (.int .i64 8080) := pw_cell_below (below_alc (Below.refl _ _) _) hc5_4_1; have hc5_4_2 : w5.cell? ⟨w4.heap.size, 2, none⟩ = some (.string (⟨#[47, 122]⟩ : ByteArray)) := pw_cell_below hb (show (w4.alloc (.cells #[.string (⟨#[97, 46, 98]⟩ : ByteArray), .int .i64 8080, .string (⟨#[47, 122]⟩ : ByteArray)] 35)).cell? ⟨w4.heap.size, 2, none⟩ = some (.string (⟨#[47, 122]⟩ : ByteArray)) by go_simp); have hd5_4_2 : (w5.alloc (.cells #[.string (⟨#[]⟩ : ByteArray), .int .i64 0, .string (⟨#[]⟩ : ByteArray)] 35)).cell? ⟨w4.heap.size, 2, none⟩ = some (.string (⟨#[47, 122]⟩ : ByteArray)) := pw_cell_below (below_alc (Below.refl _ _) _) hc5_4_2; (try clear hc4_0_0 hc4_0_1 hc4_0_2); (try clear hd4_0_0 hd4_0_1 hd4_0_2); (try clear hc4_1_0 hc4_1_1 hc4_1_2); (try clear hd4_1_0 hd4_1_1 hd4_1_2); (try clear hc4_2_0 hc4_2_1 hc4_2_2); (try clear hd4_2_0 hd4_2_1 hd4_2_2); have HB5 := Lib.hid (below_next (below_alc HB4.out _) hb); clear hb)
    | (go_at_call 21; have t_ := tk6; clear tk6; clear t_; refine (Q6.out _ (below_alc HB5.out _)).mono ?_; rintro e w6 ⟨rfl, hb⟩; have hc6_0_0 : w6.cell? ⟨w0.heap.size, 0, none⟩ = some (.string (⟨#[97, 46, 98]⟩ : ByteArray)) := pw_cell_below hb (pw_cell_below (below_alc (Below.refl _ _) (.cells #[.string (⟨#[]⟩ : ByteArray), .int .i64 0, .string (⟨#[]⟩ : ByteArray)] 35)) hc5_0_0); have hc6_0_1 : w6.cell? ⟨w0.heap.size, 1, none⟩ = some (.int .i64 8080) := pw_cell_below hb (pw_cell_below (below_alc (Below.refl _ _) (.cells #[.string (⟨#[]⟩ : ByteArray), .int .i64 0, .string (⟨#[]⟩ : ByteArray)] 35)) hc5_0_1); have hc6_0_2 : w6.cell? ⟨w0.heap.size, 2, none⟩ = some (.string (⟨#[47, 120, 63, 121]⟩ : ByteArray)) := pw_cell_below hb (pw_cell_below (below_alc (Below.refl _ _) (.cells #[.string (⟨#[]⟩ : ByteArray), .int .i64 0, .string (⟨#[]⟩ : ByteArray)] 35)) hc5_0_2); have hc6_1_0 : w6.cell? ⟨w1.heap.size, 0, none⟩ = some (.string (⟨#[97]⟩ : ByteArray)) := pw_cell_below hb (pw_cell_below (below_alc (Below.refl _ _) (.cells #[.string (⟨#[]⟩ : ByteArray), .int .i64 0, .string (⟨#[]⟩ : ByteArray)] 35)) hc5_1_0); have hc6_1_1 : w6.cell? ⟨w1.heap.size, 1, none⟩ = some (.int .i64 80) := pw_cell_below hb (pw_cell_below (below_alc (Below.refl _ _) (.cells #[.string (⟨#[]⟩ : ByteArray), .int .i64 0, .string (⟨#[]⟩ : ByteArray)] 35)) hc5_1_1); have hc6_1_2 : w6.cell? ⟨w1.heap.size, 2, none⟩ = some (.string (⟨#[47, 63, 113]⟩ : ByteArray)) := pw_cell_below hb (pw_cell_below (below_alc (Below.refl _ _) (.cells #[.string (⟨#[]⟩ : ByteArray), .int .i64 0, .string (⟨#[]⟩ : ByteArray)] 35)) hc5_1_2); have hc6_2_0 : w6.cell? ⟨w2.heap.size, 0, none⟩ = some (.string (⟨#[]⟩ : ByteArray)) := pw_cell_below hb (pw_cell_below (below_alc (Below.refl _ _) (.cells #[.string (⟨#[]⟩ : ByteArray), .int .i64 0, .string (⟨#[]⟩ : ByteArray)] 35)) hc5_2_0); have hc6_2_1 : w6.cell? ⟨w2.heap.size, 1, none⟩ = some (.int .i64 0) := pw_cell_below hb (pw_cell_below (below_alc (Below.refl _ _) (.cells #[.string (⟨#[]⟩ : ByteArray), .int .i64 0, .string (⟨#[]⟩ : ByteArray)] 35)) hc5_2_1); have hc6_2_2 : w6.cell? ⟨w2.heap.size, 2, none⟩ = some (.string (⟨#[]⟩ : ByteArray)) := pw_cell_below hb (pw_cell_below (below_alc (Below.refl _ _) (.cells #[.string (⟨#[]⟩ : ByteArray), .int .i64 0, .string (⟨#[]⟩ : ByteArray)] 35)) hc5_2_2); have hc6_4_0 : w6.cell? ⟨w4.heap.size, 0, none⟩ = some (.string (⟨#[97, 46, 98]⟩ : ByteArray)) := pw_cell_below hb (pw_cell_below (below_alc (Below.refl _ _) (.cells #[.string (⟨#[]⟩ : ByteArray), .int .i64 0, .string (⟨#[]⟩ : ByteArray)] 35)) hc5_4_0); have hc6_4_1 : w6.cell? ⟨w4.heap.size, 1, none⟩ = some (.int .i64 8080) := pw_cell_below hb (pw_cell_below (below_alc (Below.refl _ _) (.cells #[.string (⟨#[]⟩ : ByteArray), .int .i64 0, .string (⟨#[]⟩ : ByteArray)] 35)) hc5_4_1); have hc6_4_2 : w6.cell? ⟨w4.heap.size, 2, none⟩ = some (.string (⟨#[47, 122]⟩ : ByteArray)) := pw_cell_below hb (pw_cell_below (below_alc (Below.refl _ _) (.cells #[.string (⟨#[]⟩ : ByteArray), .int .i64 0, .string (⟨#[]⟩ : ByteArray)] 35)) hc5_4_2); have hc6_5_0 : w6.cell? ⟨w5.heap.size, 0, none⟩ = some (.string (⟨#[]⟩ : ByteArray)) := pw_cell_below hb (show (w5.alloc (.cells #[.string (⟨#[]⟩ : ByteArray), .int .i64 0, .string (⟨#[]⟩ : ByteArray)] 35)).cell? ⟨w5.heap.size, 0, none⟩ = some (.string (⟨#[]⟩ : ByteArray)) by go_simp); have hc6_5_1 : w6.cell? ⟨w5.heap.size, 1, none⟩ = some (.int .i64 0) := pw_cell_below hb (show (w5.alloc (.cells #[.string (⟨#[]⟩ : ByteArray), .int .i64 0, .string (⟨#[]⟩ : ByteArray)] 35)).cell? ⟨w5.heap.size, 1, none⟩ = some (.int .i64 0) by go_simp); have hc6_5_2 : w6.cell? ⟨w5.heap.size, 2, none⟩ = some (.string (⟨#[]⟩ : ByteArray)) := pw_cell_below hb (show (w5.alloc (.cells #[.string (⟨#[]⟩ : ByteArray), .int .i64 0, .string (⟨#[]⟩ : ByteArray)] 35)).cell? ⟨w5.heap.size, 2, none⟩ = some (.string (⟨#[]⟩ : ByteArray)) by go_simp); (try clear hc5_0_0 hc5_0_1 hc5_0_2); (try clear hd5_0_0 hd5_0_1 hd5_0_2); (try clear hc5_1_0 hc5_1_1 hc5_1_2); (try clear hd5_1_0 hd5_1_1 hd5_1_2); (try clear hc5_2_0 hc5_2_1 hc5_2_2); (try clear hd5_2_0 hd5_2_1 hd5_2_2); (try clear hc5_4_0 hc5_4_1 hc5_4_2); (try clear hd5_4_0 hd5_4_1 hd5_4_2); have HB6 := Lib.hid (below_next (below_alc HB5.out _) hb); clear hb)
    | (go_at_call 24; have t_ := tk7; clear tk7; clear t_; refine (Q7.out _ HB6.out).mono ?_; rintro e w7 ⟨rfl, hb⟩; have hc7_0_0 : w7.cell? ⟨w0.heap.size, 0, none⟩ = some (.string (⟨#[97, 46, 98]⟩ : ByteArray)) := pw_cell_below hb hc6_0_0; have hc7_0_1 : w7.cell? ⟨w0.heap.size, 1, none⟩ = some (.int .i64 8080) := pw_cell_below hb hc6_0_1; have hc7_0_2 : w7.cell? ⟨w0.heap.size, 2, none⟩ = some (.string (⟨#[47, 120, 63, 121]⟩ : ByteArray)) := pw_cell_below hb hc6_0_2; have hc7_1_0 : w7.cell? ⟨w1.heap.size, 0, none⟩ = some (.string (⟨#[97]⟩ : ByteArray)) := pw_cell_below hb hc6_1_0; have hc7_1_1 : w7.cell? ⟨w1.heap.size, 1, none⟩ = some (.int .i64 80) := pw_cell_below hb hc6_1_1; have hc7_1_2 : w7.cell? ⟨w1.heap.size, 2, none⟩ = some (.string (⟨#[47, 63, 113]⟩ : ByteArray)) := pw_cell_below hb hc6_1_2; have hc7_2_0 : w7.cell? ⟨w2.heap.size, 0, none⟩ = some (.string (⟨#[]⟩ : ByteArray)) := pw_cell_below hb hc6_2_0; have hc7_2_1 : w7.cell? ⟨w2.heap.size, 1, none⟩ = some (.int .i64 0) := pw_cell_below hb hc6_2_1; have hc7_2_2 : w7.cell? ⟨w2.heap.size, 2, none⟩ = some (.string (⟨#[]⟩ : ByteArray)) := pw_cell_below hb hc6_2_2; have hc7_4_0 : w7.cell? ⟨w4.heap.size, 0, none⟩ = some (.string (⟨#[97, 46, 98]⟩ : ByteArray)) := pw_cell_below hb hc6_4_0; have hc7_4_1 : w7.cell? ⟨w4.heap.size, 1, none⟩ = some (.int .i64 8080) := pw_cell_below hb hc6_4_1; have hc7_4_2 : w7.cell? ⟨w4.heap.size, 2, none⟩ = some (.string (⟨#[47, 122]⟩ : ByteArray)) := pw_cell_below hb hc6_4_2; have hc7_5_0 : w7.cell? ⟨w5.heap.size, 0, none⟩ = some (.string (⟨#[]⟩ : ByteArray)) := pw_cell_below hb hc6_5_0; have hc7_5_1 : w7.cell? ⟨w5.heap.size, 1, none⟩ = some (.int .i64 0) := pw_cell_below hb hc6_5_1; have hc7_5_2 : w7.cell? ⟨w5.heap.size, 2, none⟩ = some (.string (⟨#[]⟩ : ByteArray)) := pw_cell_below hb hc6_5_2; (try clear hc6_0_0 hc6_0_1 hc6_0_2); (try clear hd6_0_0 hd6_0_1 hd6_0_2); (try clear hc6_1_0 hc6_1_1 hc6_1_2); (try clear hd6_1_0 hd6_1_1 hd6_1_2); (try clear hc6_2_0 hc6_2_1 hc6_2_2); (try clear hd6_2_0 hd6_2_1 hd6_2_2); (try clear hc6_4_0 hc6_4_1 hc6_4_2); (try clear hd6_4_0 hd6_4_1 hd6_4_2); (try clear hc6_5_0 hc6_5_1 hc6_5_2); (try clear hd6_5_0 hd6_5_1 hd6_5_2); have HB7 := Lib.hid (below_next HB6.out hb); clear hb))
  go_ret
  exact ⟨rfl, HB7.out⟩
end Go.Proofs.YtjdlaofeenblkaaDoor.X
