/- A part of the proof of the law UriJoins: contracts of functions that it reaches, and plain lemmas. -/
import Derived.Test.YtjdlaofeenblkaaDoorMUriJoins1
import Derived.Test.YtjdlaofeenblkaaDoorMUriJoins2
import Derived.Test.YtjdlaofeenblkaaDoorMUriJoins3
-- PRINTED by print.py (a twelfth state) out of the translation. Not trusted: Lean checks it.
namespace Go.Proofs.YtjdlaofeenblkaaDoor.X
open Go.RowKit Go.Proofs.YtjdlaofeenblkaaDoorW.PrintWords Go.Proofs.YtjdlaofeenblkaaDoorW.PrintLast Go.Proofs.YtjdlaofeenblkaaDoorW.PrintMore
attribute [local go_sem] max2_int min2_int max_two min_two max_three min_three max_four min_four   -- for this text's walks alone
set_option linter.unusedVariables false
set_option linter.unusedSimpArgs false
open Go.Proofs.YtjdlaofeenblkaaDoor.T

attribute [local go_sem high] eqA35
/-! ### tollhouselaw10_UriJoins: function 9 -/
mutual
def tollhouselaw10_UriJoins.j0 : Nat → ByteArray → Bool → ByteArray → Int → ByteArray → ByteArray → Int → ByteArray → Option (Bool)
  | 0, _, _, _, _, _, _, _, _ => none
  | k + 1, x2, x38, x321000, x321001, x321002, x322000, x322001, x322002 => if x38 = true then (some false) else ((uri_May.f x321000 x321001 x321002).bind fun t330 => (if t330 = true then ((uri_May.f x322000 x322001 x322002).bind fun t331 => (if t331 = true then (if (x322002.size : Int) < 2 then (tollhouselaw10_UriJoins.j1 k x2 true x321000 x321001 x321002 x322000 x322001 x322002) else (if 1 < (x322002.size : Int) then (tollhouselaw10_UriJoins.j1 k x2 ((bt x322002 1) != 47) x321000 x321001 x321002 x322000 x322001 x322002) else (none))) else (tollhouselaw10_UriJoins.j1 k x2 false x321000 x321001 x321002 x322000 x322001 x322002))) else (tollhouselaw10_UriJoins.j1 k x2 false x321000 x321001 x321002 x322000 x322001 x322002)))
def tollhouselaw10_UriJoins.j1 : Nat → ByteArray → Bool → ByteArray → Int → ByteArray → ByteArray → Int → ByteArray → Option (Bool)
  | 0, _, _, _, _, _, _, _, _ => none
  | k + 1, x2, x56, x321000, x321001, x321002, x322000, x322001, x322002 => if x56 = true then ((uri_Join.f k x321000 x321001 x321002 x322002).bind fun bt332 => ((uri_May.f x321000 x321001 x322002).bind fun t338 => (if ((bt332.2.2.2 == 0) != t338) = true then (tollhouselaw10_UriJoins.j2 k x2 true x321000 x321001 x321002) else (if bt332.2.2.2 = 0 then (tollhouselaw10_UriJoins.j2 k x2 (!(bt332.1.toList == x321000.toList) || (!(bt332.2.1 == x321001) || (!(bt332.2.2.1.toList == x322002.toList)))) x321000 x321001 x321002) else (tollhouselaw10_UriJoins.j2 k x2 false x321000 x321001 x321002))))) else ((uri_Join.f k x321000 x321001 x321002 x2).bind fun bt347 => ((uri_May.f bt347.1 bt347.2.1 bt347.2.2.1).bind fun t352 => (if ((bt347.2.2.2 == 0) == t352) = true then (if bt347.2.2.2 = 0 then ((tollhouselaw10_wakes.f).bind fun t353 => (some t353)) else (if bt347.2.2.2 = 23 then (if (bt347.1.toList == ([] : List UInt8) && (bt347.2.1 == 0 && (bt347.2.2.1.toList == ([] : List UInt8)))) = true then ((tollhouselaw10_wakes.f).bind fun t354 => (some t354)) else (some false)) else (some false))) else (some false))))
def tollhouselaw10_UriJoins.j2 : Nat → ByteArray → Bool → ByteArray → Int → ByteArray → Option (Bool)
  | 0, _, _, _, _, _ => none
  | k + 1, x2, x84, x321000, x321001, x321002 => if x84 = true then (some false) else ((uri_Join.f k x321000 x321001 x321002 x2).bind fun bt339 => ((uri_May.f bt339.1 bt339.2.1 bt339.2.2.1).bind fun t344 => (if ((bt339.2.2.2 == 0) == t344) = true then (if bt339.2.2.2 = 0 then ((tollhouselaw10_wakes.f).bind fun t345 => (some t345)) else (if bt339.2.2.2 = 23 then (if (bt339.1.toList == ([] : List UInt8) && (bt339.2.1 == 0 && (bt339.2.2.1.toList == ([] : List UInt8)))) = true then ((tollhouselaw10_wakes.f).bind fun t346 => (some t346)) else (some false)) else (some false))) else (some false))))
end
def tollhouselaw10_UriJoins.f (k : Nat) (a0_0 : ByteArray) (a0_1 : Int) (a0_2 : ByteArray) (a1_0 : ByteArray) (a1_1 : Int) (a1_2 : ByteArray) (a2 : ByteArray) : Option (Bool) := (uri_Text.f a1_0 a1_1 a1_2).bind fun t322 => ((uri_Join.f k a0_0 a0_1 a0_2 t322).bind fun bt323 => ((uri_May.f a0_0 a0_1 a0_2).bind fun t328 => (if t328 = true then ((uri_May.f a1_0 a1_1 a1_2).bind fun t329 => (if ((bt323.2.2.2 == 0) != t329) = true then (tollhouselaw10_UriJoins.j0 k a2 true a0_0 a0_1 a0_2 a1_0 a1_1 a1_2) else (if bt323.2.2.2 = 0 then (tollhouselaw10_UriJoins.j0 k a2 (!(bt323.1.toList == a1_0.toList) || (!(bt323.2.1 == a1_1) || (!(bt323.2.2.1.toList == a1_2.toList)))) a0_0 a0_1 a0_2 a1_0 a1_1 a1_2) else (tollhouselaw10_UriJoins.j0 k a2 false a0_0 a0_1 a0_2 a1_0 a1_1 a1_2)))) else (if ((bt323.2.2.2 == 0) != false) = true then (tollhouselaw10_UriJoins.j0 k a2 true a0_0 a0_1 a0_2 a1_0 a1_1 a1_2) else (if bt323.2.2.2 = 0 then (tollhouselaw10_UriJoins.j0 k a2 (!(bt323.1.toList == a1_0.toList) || (!(bt323.2.1 == a1_1) || (!(bt323.2.2.1.toList == a1_2.toList)))) a0_0 a0_1 a0_2 a1_0 a1_1 a1_2) else (tollhouselaw10_UriJoins.j0 k a2 false a0_0 a0_1 a0_2 a1_0 a1_1 a1_2))))))
theorem tollhouselaw10_UriJoins.mono_l : ∀ k, (∀ y0 y1 y2 y3 y4 y5 y6 y7, LeO (tollhouselaw10_UriJoins.j0 k y0 y1 y2 y3 y4 y5 y6 y7) (tollhouselaw10_UriJoins.j0 (k + 1) y0 y1 y2 y3 y4 y5 y6 y7)) ∧ (∀ y0 y1 y2 y3 y4 y5 y6 y7, LeO (tollhouselaw10_UriJoins.j1 k y0 y1 y2 y3 y4 y5 y6 y7) (tollhouselaw10_UriJoins.j1 (k + 1) y0 y1 y2 y3 y4 y5 y6 y7)) ∧ (∀ y0 y1 y2 y3 y4, LeO (tollhouselaw10_UriJoins.j2 k y0 y1 y2 y3 y4) (tollhouselaw10_UriJoins.j2 (k + 1) y0 y1 y2 y3 y4))
  | 0 => ⟨fun _ _ _ _ _ _ _ _ r h => by simp [tollhouselaw10_UriJoins.j0] at h, fun _ _ _ _ _ _ _ _ r h => by simp [tollhouselaw10_UriJoins.j1] at h, fun _ _ _ _ _ r h => by simp [tollhouselaw10_UriJoins.j2] at h⟩
  | k + 1 => by
    obtain ⟨ih0, ih1, ih2⟩ := tollhouselaw10_UriJoins.mono_l k
    refine ⟨?_, ?_, ?_⟩
    · intro y0 y1 y2 y3 y4 y5 y6 y7
      unfold tollhouselaw10_UriJoins.j0
      repeat' first
      | (with_reducible exact ih0 _ _ _ _ _ _ _ _)
      | (with_reducible exact ih1 _ _ _ _ _ _ _ _)
      | (with_reducible exact ih2 _ _ _ _ _)
      | (with_reducible exact uri_Join.mono _ _ _ _ _)
      | (with_reducible exact LeO.refl _)
      | (with_reducible exact LeO.none _)
      | (with_reducible refine LeO.ite ?_ ?_)
      | (with_reducible refine LeO.bind ?_ (fun _ => ?_))
      | exact ih0 _ _ _ _ _ _ _ _
      | exact ih1 _ _ _ _ _ _ _ _
      | exact ih2 _ _ _ _ _
      | exact uri_Join.mono _ _ _ _ _
      | exact LeO.none _
      | refine LeO.ite ?_ ?_
      | refine LeO.bind ?_ (fun _ => ?_)
    · intro y0 y1 y2 y3 y4 y5 y6 y7
      unfold tollhouselaw10_UriJoins.j1
      repeat' first
      | (with_reducible exact ih0 _ _ _ _ _ _ _ _)
      | (with_reducible exact ih1 _ _ _ _ _ _ _ _)
      | (with_reducible exact ih2 _ _ _ _ _)
      | (with_reducible exact uri_Join.mono _ _ _ _ _)
      | (with_reducible exact LeO.refl _)
      | (with_reducible exact LeO.none _)
      | (with_reducible refine LeO.ite ?_ ?_)
      | (with_reducible refine LeO.bind ?_ (fun _ => ?_))
      | exact ih0 _ _ _ _ _ _ _ _
      | exact ih1 _ _ _ _ _ _ _ _
      | exact ih2 _ _ _ _ _
      | exact uri_Join.mono _ _ _ _ _
      | exact LeO.none _
      | refine LeO.ite ?_ ?_
      | refine LeO.bind ?_ (fun _ => ?_)
    · intro y0 y1 y2 y3 y4
      unfold tollhouselaw10_UriJoins.j2
      repeat' first
      | (with_reducible exact ih0 _ _ _ _ _ _ _ _)
      | (with_reducible exact ih1 _ _ _ _ _ _ _ _)
      | (with_reducible exact ih2 _ _ _ _ _)
      | (with_reducible exact uri_Join.mono _ _ _ _ _)
      | (with_reducible exact LeO.refl _)
      | (with_reducible exact LeO.none _)
      | (with_reducible refine LeO.ite ?_ ?_)
      | (with_reducible refine LeO.bind ?_ (fun _ => ?_))
      | exact ih0 _ _ _ _ _ _ _ _
      | exact ih1 _ _ _ _ _ _ _ _
      | exact ih2 _ _ _ _ _
      | exact uri_Join.mono _ _ _ _ _
      | exact LeO.none _
      | refine LeO.ite ?_ ?_
      | refine LeO.bind ?_ (fun _ => ?_)
theorem tollhouselaw10_UriJoins.mono : ∀ a0 a1 a2 a3 a4 a5 a6 k, LeO (tollhouselaw10_UriJoins.f k a0 a1 a2 a3 a4 a5 a6) (tollhouselaw10_UriJoins.f (k + 1) a0 a1 a2 a3 a4 a5 a6) := by
  intro a0 a1 a2 a3 a4 a5 a6 k
  obtain ⟨ih0, ih1, ih2⟩ := tollhouselaw10_UriJoins.mono_l k
  unfold tollhouselaw10_UriJoins.f
  repeat' first
      | (with_reducible exact ih0 _ _ _ _ _ _ _ _)
      | (with_reducible exact ih1 _ _ _ _ _ _ _ _)
      | (with_reducible exact ih2 _ _ _ _ _)
      | (with_reducible exact uri_Join.mono _ _ _ _ _)
      | (with_reducible exact LeO.refl _)
      | (with_reducible exact LeO.none _)
      | (with_reducible refine LeO.ite ?_ ?_)
      | (with_reducible refine LeO.bind ?_ (fun _ => ?_))
      | exact ih0 _ _ _ _ _ _ _ _
      | exact ih1 _ _ _ _ _ _ _ _
      | exact ih2 _ _ _ _ _
      | exact uri_Join.mono _ _ _ _ _
      | exact LeO.none _
      | refine LeO.ite ?_ ?_
      | refine LeO.bind ?_ (fun _ => ?_)
def tollhouselaw10_UriJoins.T1 : Bool × List (List Nat × List Nat) := (true, [([], []), ([], []), ([1], [1]), ([0, 2, 2], [0, 2]), ([3], [3]), ([4], [4]), ([4], [4]), ([], []), ([7, 5, 3, 0, 1, 2, 3, 4, 5, 7], [5, 7]), ([6, 8, 0, 1, 2, 3, 4, 5, 6, 7, 8], [6])])
def tollhouselaw10_UriJoins.B1 : List Nat := [0, 0, 2, 7, 15, 31, 31, 0, 191, 511]
theorem tollhouselaw10_UriJoins.tab1 : rtab .any (opsOf Tryd.f9 1) = tollhouselaw10_UriJoins.T1 := by kernel_rfl
theorem tollhouselaw10_UriJoins.bits1 : waitsOk tollhouselaw10_UriJoins.T1.2 tollhouselaw10_UriJoins.B1 = true := by kernel_rfl
set_option maxHeartbeats 8000000 in
set_option maxRecDepth 100000 in
theorem tollhouselaw10_UriJoins.calls (k : Nat) (a0_0 : ByteArray) (a0_1 : Int) (a0_2 : ByteArray) (a1_0 : ByteArray) (a1_1 : Int) (a1_2 : ByteArray) (a2 : ByteArray) (r : Bool) (w : World) (HGg : Glob w) (hr_ : r = true) (h : tollhouselaw10_UriJoins.f k a0_0 a0_1 a0_2 a1_0 a1_1 a1_2 a2 = some r) :
  Calls Tryd.prog 9 #[.agg #[.string a0_0, .int .i64 a0_1, .string a0_2], .agg #[.string a1_0, .int .i64 a1_1, .string a1_2], .string a2] w fun e w' => e = .returned (.bool r) ∧ Below w.heap.size w w' := by
 have HR_ := Aside0.mk hr_
 clear hr_
 have hu35 := Tryd.underlying35
 have HGl := Aside0.mk HGg
 clear HGg
 have HB := Aside0.mk (Below.refl w.heap.size w)
 have H : ((uri_Text.f a1_0 a1_1 a1_2).bind fun t322 => ((uri_Join.f k a0_0 a0_1 a0_2 t322).bind fun bt323 => ((uri_May.f a0_0 a0_1 a0_2).bind fun t328 => (if t328 = true then ((uri_May.f a1_0 a1_1 a1_2).bind fun t329 => (if ((bt323.2.2.2 == 0) != t329) = true then (tollhouselaw10_UriJoins.j0 k a2 true a0_0 a0_1 a0_2 a1_0 a1_1 a1_2) else (if bt323.2.2.2 = 0 then (tollhouselaw10_UriJoins.j0 k a2 (!(bt323.1.toList == a1_0.toList) || (!(bt323.2.1 == a1_1) || (!(bt323.2.2.1.toList == a1_2.toList)))) a0_0 a0_1 a0_2 a1_0 a1_1 a1_2) else (tollhouselaw10_UriJoins.j0 k a2 false a0_0 a0_1 a0_2 a1_0 a1_1 a1_2)))) else (if ((bt323.2.2.2 == 0) != false) = true then (tollhouselaw10_UriJoins.j0 k a2 true a0_0 a0_1 a0_2 a1_0 a1_1 a1_2) else (if bt323.2.2.2 = 0 then (tollhouselaw10_UriJoins.j0 k a2 (!(bt323.1.toList == a1_0.toList) || (!(bt323.2.1 == a1_1) || (!(bt323.2.2.1.toList == a1_2.toList)))) a0_0 a0_1 a0_2 a1_0 a1_1 a1_2) else (tollhouselaw10_UriJoins.j0 k a2 false a0_0 a0_1 a0_2 a1_0 a1_1 a1_2))))))) = some r := h
 clear h
 replace H := Option.bind_eq_some_iff.mp H
 obtain ⟨t322, A40, H⟩ := H
 replace H : ((uri_Join.f k a0_0 a0_1 a0_2 t322).bind fun bt323 => ((uri_May.f a0_0 a0_1 a0_2).bind fun t328 => (if t328 = true then ((uri_May.f a1_0 a1_1 a1_2).bind fun t329 => (if ((bt323.2.2.2 == 0) != t329) = true then (tollhouselaw10_UriJoins.j0 k a2 true a0_0 a0_1 a0_2 a1_0 a1_1 a1_2) else (if bt323.2.2.2 = 0 then (tollhouselaw10_UriJoins.j0 k a2 (!(bt323.1.toList == a1_0.toList) || (!(bt323.2.1 == a1_1) || (!(bt323.2.2.1.toList == a1_2.toList)))) a0_0 a0_1 a0_2 a1_0 a1_1 a1_2) else (tollhouselaw10_UriJoins.j0 k a2 false a0_0 a0_1 a0_2 a1_0 a1_1 a1_2)))) else (if ((bt323.2.2.2 == 0) != false) = true then (tollhouselaw10_UriJoins.j0 k a2 true a0_0 a0_1 a0_2 a1_0 a1_1 a1_2) else (if bt323.2.2.2 = 0 then (tollhouselaw10_UriJoins.j0 k a2 (!(bt323.1.toList == a1_0.toList) || (!(bt323.2.1 == a1_1) || (!(bt323.2.2.1.toList == a1_2.toList)))) a0_0 a0_1 a0_2 a1_0 a1_1 a1_2) else (tollhouselaw10_UriJoins.j0 k a2 false a0_0 a0_1 a0_2 a1_0 a1_1 a1_2)))))) = some r := H
 have A4 := Aside0.mk A40
 clear A40
 replace H := Option.bind_eq_some_iff.mp H
 obtain ⟨⟨t323, t324, t325, t326⟩, A50, H⟩ := H
 replace H : ((uri_May.f a0_0 a0_1 a0_2).bind fun t328 => (if t328 = true then ((uri_May.f a1_0 a1_1 a1_2).bind fun t329 => (if ((t326 == 0) != t329) = true then (tollhouselaw10_UriJoins.j0 k a2 true a0_0 a0_1 a0_2 a1_0 a1_1 a1_2) else (if t326 = 0 then (tollhouselaw10_UriJoins.j0 k a2 (!(t323.toList == a1_0.toList) || (!(t324 == a1_1) || (!(t325.toList == a1_2.toList)))) a0_0 a0_1 a0_2 a1_0 a1_1 a1_2) else (tollhouselaw10_UriJoins.j0 k a2 false a0_0 a0_1 a0_2 a1_0 a1_1 a1_2)))) else (if ((t326 == 0) != false) = true then (tollhouselaw10_UriJoins.j0 k a2 true a0_0 a0_1 a0_2 a1_0 a1_1 a1_2) else (if t326 = 0 then (tollhouselaw10_UriJoins.j0 k a2 (!(t323.toList == a1_0.toList) || (!(t324 == a1_1) || (!(t325.toList == a1_2.toList)))) a0_0 a0_1 a0_2 a1_0 a1_1 a1_2) else (tollhouselaw10_UriJoins.j0 k a2 false a0_0 a0_1 a0_2 a1_0 a1_1 a1_2))))) = some r := H
 have A5 := Aside0.mk A50
 clear A50
 have HC6 := Aside0.mk H
 clear H
 go_enter Tryd.func9, Tryd.ntmps9
 try go_wp2_with (first | ((with_reducible refine gate_dst (N := 3) rfl ?_); (try (refine gate_guard (by rfl) ?_; dsimp only)); refine box_event ?hg (N := 3) ?hd (cs := #[.string a0_0, .int .i64 a0_1, .string a0_2]) (t := 35) ?hr ?_; (case hd => rfl); (case hg => rfl); (case hr => first | (go_simp; done) | (go_simp; rfl)); intro gb320 hg w7 hbox hb; have n0_ := Aside0.mk (below_step (by repeat (first | (with_reducible first | exact HB.out | apply below_alloc | apply pw_below_drewN | apply below_drew1) | exact HB.out)) hb); have n1_ := Aside0.mk (hbox); have n2_ := Aside0.mk ((by rw [hg]; exact (below_size (by repeat (first | (with_reducible first | exact HB.out | apply below_alloc | apply pw_below_drewN | apply below_drew1) | exact HB.out))) : w.heap.size ≤ gb320)); have n3_ := Aside0.mk ((by rw [hg]; exact (below_size (by repeat (first | (with_reducible first | exact HB.out | apply below_alloc | apply pw_below_drewN | apply below_drew1) | exact HB.out))) : w.heap.size ≤ gb320)); clear HB; have HB := n0_; have BK320 := n1_; have GW320 := n2_; have GE320 := n3_; clear n0_ n1_ n2_ n3_; clear hb hbox hg) | ((with_reducible refine gate_dst (N := 4) rfl ?_); (try (refine gate_guard (by rfl) ?_; dsimp only)); refine box_event ?hg (N := 4) ?hd (cs := #[.string a1_0, .int .i64 a1_1, .string a1_2]) (t := 35) ?hr ?_; (case hd => rfl); (case hg => rfl); (case hr => first | (go_simp; done) | (go_simp; rfl)); intro gb321 hg w8 hbox hb; have n0_ := Aside0.mk (blk_below (g := gb320) (o := .cells #[.string a0_0, .int .i64 a0_1, .string a0_2] 35 (0, 0)) (by (with_reducible repeat (first | refine blk_drewN ?_ _ | refine blk_drew ?_ | refine blk_alloc ?_ _)); exact BK320.out) hb); have n1_ := Aside0.mk (below_step (by repeat (first | (with_reducible first | exact HB.out | apply below_alloc | apply pw_below_drewN | apply below_drew1 | refine below_set ?_ GE320.out) | exact HB.out)) hb); have n2_ := Aside0.mk (hbox); have n3_ := Aside0.mk ((by rw [hg]; exact (below_size (by repeat (first | (with_reducible first | exact HB.out | apply below_alloc | apply pw_below_drewN | apply below_drew1 | refine below_set ?_ GE320.out) | exact HB.out))) : w.heap.size ≤ gb321)); have n4_ := Aside0.mk ((by rw [hg]; exact (below_size (by repeat (first | (with_reducible first | exact HB.out | apply below_alloc | apply pw_below_drewN | apply below_drew1 | refine below_set ?_ GE320.out) | exact HB.out))) : w.heap.size ≤ gb321)); have n5_ := Aside0.mk ((by rw [hg]; exact Nat.ne_of_lt (blk_lt (g := gb320) (o := .cells #[.string a0_0, .int .i64 a0_1, .string a0_2] 35 (0, 0)) (by (with_reducible repeat (first | refine blk_drewN ?_ _ | refine blk_drew ?_ | refine blk_alloc ?_ _)); exact BK320.out)) : gb320 ≠ gb321)); have n6_ := Aside0.mk ((by rw [hg]; exact Nat.ne_of_gt (blk_lt (g := gb320) (o := .cells #[.string a0_0, .int .i64 a0_1, .string a0_2] 35 (0, 0)) (by (with_reducible repeat (first | refine blk_drewN ?_ _ | refine blk_drew ?_ | refine blk_alloc ?_ _)); exact BK320.out)) : gb321 ≠ gb320)); clear BK320; clear HB; have BK320 := n0_; have HB := n1_; have BK321 := n2_; have GW321 := n3_; have GE321 := n4_; have NB320_321 := n5_; have NB321_320 := n6_; clear n0_ n1_ n2_ n3_ n4_ n5_ n6_; clear hb hbox hg))
 have n0_ := Aside0.mk (blk_drew BK320.out)
 have n1_ := Aside0.mk (blk_drew BK321.out)
 have n2_ := Aside0.mk (below_drew1 HB.out)
 clear BK320
 clear BK321
 clear HB
 have BK320 := n0_
 have BK321 := n1_
 have HB := n2_
 clear n0_ n1_ n2_
 refine start_ (n := 10) (S := fun w' => w'.cell? ⟨gb320, 0, none⟩ = some (.string a0_0) ∧ w'.cell? ⟨gb320, 1, none⟩ = some (.int .i64 a0_1) ∧ w'.cell? ⟨gb320, 2, none⟩ = some (.string a0_2) ∧ w'.cell? ⟨gb321, 0, none⟩ = some (.string a1_0) ∧ w'.cell? ⟨gb321, 1, none⟩ = some (.int .i64 a1_1) ∧ w'.cell? ⟨gb321, 2, none⟩ = some (.string a1_2)) (ds := []) #[false, false, false, false, false, false, false, false, false, false] (by kernel_rfl) rfl rfl ⟨(blk_cell BK320.out 0).trans rfl, (blk_cell BK320.out 1).trans rfl, (blk_cell BK320.out 2).trans rfl, (blk_cell BK321.out 0).trans rfl, (blk_cell BK321.out 1).trans rfl, (blk_cell BK321.out 2).trans rfl⟩ (fun hHeld => ?_); refine with_tabW tollhouselaw10_UriJoins.tab1 tollhouselaw10_UriJoins.bits1 (fun HT_ HW_ => ?_)
 generalize w8.drew = w9 at BK320 BK321 HB hHeld ⊢
 refine take_ (i := 0) (N := some 15) (v := ?_) (a' := ?_) #[true, false, false, false, false, false, false, false, false, false] rfl rfl (take_ofW HT_.out HW_.out (by kernel_rfl)) (fun _ _ _ h => h) (Or.inl ⟨by rfl, ?_⟩) hHeld ?_ ?_
 rotate_left
 ·
  rintro w' ⟨s0, s1, s2, s3, s4, s5⟩
  go_simp
  with_reducible rfl
 rotate_left
 ·
  simp only [Act.put, List.setIfInBounds_toArray, List.set_cons_zero, List.set_cons_succ, i64_w, i32_w]
  rfl
 refine take_ (i := 1) (N := some 16) (v := ?_) (a' := ?_) #[true, true, false, false, false, false, false, false, false, false] rfl rfl (take_ofW HT_.out HW_.out (by kernel_rfl)) (fun _ _ _ h => h) (Or.inl ⟨by rfl, ?_⟩) hHeld ?_ ?_
 rotate_left
 ·
  rintro w' ⟨s0, s1, s2, s3, s4, s5⟩
  go_simp
  with_reducible rfl
 rotate_left
 ·
  simp only [Act.put, List.setIfInBounds_toArray, List.set_cons_zero, List.set_cons_succ, i64_w, i32_w]
  rfl
 refine join_ (σ := Nat) 2 #[true, true, true, true, true, true, true, true, false, false] (fun s_ => [(17, .string t322), (18, .tuple #[.agg #[.string t323, .int .i64 t324, .string t325], .int .i64 t326]), (7, .pointer (some ⟨s_, 0, none⟩)), (14, .tuple #[.agg #[.string t323, .int .i64 t324, .string t325], .int .i64 t326]), (19, .agg #[.string t323, .int .i64 t324, .string t325]), (20, .int .i64 t326)]) (fun s_ w' => (w'.cell? ⟨gb320, 0, none⟩ = some (.string a0_0) ∧ w'.cell? ⟨gb320, 1, none⟩ = some (.int .i64 a0_1) ∧ w'.cell? ⟨gb320, 2, none⟩ = some (.string a0_2) ∧ w'.cell? ⟨gb321, 0, none⟩ = some (.string a1_0) ∧ w'.cell? ⟨gb321, 1, none⟩ = some (.int .i64 a1_1) ∧ w'.cell? ⟨gb321, 2, none⟩ = some (.string a1_2)) ∧ (w'.heap[gb320]? = some (.cells #[.string a0_0, .int .i64 a0_1, .string a0_2] 35 (0, 0))) ∧ (w'.heap[gb321]? = some (.cells #[.string a1_0, .int .i64 a1_1, .string a1_2] 35 (0, 0))) ∧ (w'.heap[s_]? = some (.cells #[.string (⟨#[]⟩ : ByteArray), .int .i64 0, .string (⟨#[]⟩ : ByteArray)] 35 (0, 0))) ∧ (w.heap.size ≤ s_) ∧ (w.heap.size ≤ s_) ∧ (gb320 ≠ s_) ∧ (s_ ≠ gb320) ∧ (gb321 ≠ s_) ∧ (s_ ≠ gb321) ∧ (Below w.heap.size w w')) ?_ ?_
 rotate_left
 ·
  intro hCont
  refine two_ (i := 2) (j := 7) (Ni := some 17) (Nj := some 7) #[true, true, true, false, false, false, false, false, false, false] #[true, true, false, false, false, false, false, true, false, false] rfl rfl rfl rfl (two_of HT_.out (by kernel_rfl)) (by decide) (by decide) (fun K hK => ?_) (fun K hK => ?_)
  ·
   skip
   refine goes_ Tryd.func21 (by kernel_rfl) rfl #[.agg #[.string a1_0, .int .i64 a1_1, .string a1_2]] (by rfl) rfl rfl (by (try simp only [List.map_toArray, List.map_cons, List.map_nil]); first | done | rfl | (simp only [List.length_drop, List.length_take]; rfl)) ?_
   with_reducible refine (uri_Text.calls a1_0 a1_1 a1_2 t322 _ (Glob.below HGl.out (by repeat (first | (with_reducible first | exact HB.out | apply below_alloc | apply pw_below_drewN | apply below_drew1 | refine below_set ?_ GE320.out | refine below_set ?_ GE321.out) | exact HB.out))) A4.out).mono ?_
   rintro e w10 ⟨rfl, hb⟩
   refine ⟨_, rfl, ?_⟩
   have n0_ := Aside0.mk (blk_below (g := gb320) (o := .cells #[.string a0_0, .int .i64 a0_1, .string a0_2] 35 (0, 0)) (by (with_reducible repeat (first | refine blk_drewN ?_ _ | refine blk_drew ?_ | refine blk_alloc ?_ _)); exact BK320.out) hb)
   have n1_ := Aside0.mk (blk_below (g := gb321) (o := .cells #[.string a1_0, .int .i64 a1_1, .string a1_2] 35 (0, 0)) (by (with_reducible repeat (first | refine blk_drewN ?_ _ | refine blk_drew ?_ | refine blk_alloc ?_ _)); exact BK321.out) hb)
   have n2_ := Aside0.mk (below_step (by repeat (first | (with_reducible first | exact HB.out | apply below_alloc | apply pw_below_drewN | apply below_drew1 | refine below_set ?_ GE320.out | refine below_set ?_ GE321.out) | exact HB.out)) hb)
   clear BK320
   clear BK321
   clear HB
   have BK320 := n0_
   have BK321 := n1_
   have HB := n2_
   clear n0_ n1_ n2_
   (try clear hb)
   (try clear hb2)
   (try clear hk)
   (try clear hi)
   refine hK.out _ _ ⟨(blk_cell BK320.out 0).trans rfl, (blk_cell BK320.out 1).trans rfl, (blk_cell BK320.out 2).trans rfl, (blk_cell BK321.out 0).trans rfl, (blk_cell BK321.out 1).trans rfl, (blk_cell BK321.out 2).trans rfl⟩ (fun hHeld => ?_)
   clear hK K
   refine norm_ (a' := ?_) ?_ ?_
   rotate_left
   ·
    show Act.put _ (some 17) _ = _
    simp only [Act.put, List.setIfInBounds_toArray, List.set_cons_zero, List.set_cons_succ, i64_w, i32_w]
    rfl
   refine two_ (i := 3) (j := 7) (Ni := some 18) (Nj := some 7) #[true, true, true, true, false, false, false, false, false, false] #[true, true, true, false, false, false, false, true, false, false] rfl rfl rfl rfl (two_of HT_.out (by kernel_rfl)) (by decide) (by decide) (fun K hK => ?_) (fun K hK => ?_)
   ·
    skip
    refine goes_ Tryd.func28 (by kernel_rfl) rfl #[.agg #[.string a0_0, .int .i64 a0_1, .string a0_2], .string t322] (by rfl) rfl rfl (by (try simp only [List.map_toArray, List.map_cons, List.map_nil]); first | done | rfl | (simp only [List.length_drop, List.length_take]; rfl)) ?_
    with_reducible refine (uri_Join.calls k a0_0 a0_1 a0_2 t322 t323 t324 t325 t326 _ (Glob.below HGl.out (by repeat (first | (with_reducible first | exact HB.out | apply below_alloc | apply pw_below_drewN | apply below_drew1 | refine below_set ?_ GE320.out | refine below_set ?_ GE321.out) | exact HB.out))) A5.out).mono ?_
    rintro e w11 ⟨rfl, hb⟩
    refine ⟨_, rfl, ?_⟩
    have n0_ := Aside0.mk (blk_below (g := gb320) (o := .cells #[.string a0_0, .int .i64 a0_1, .string a0_2] 35 (0, 0)) (by (with_reducible repeat (first | refine blk_drewN ?_ _ | refine blk_drew ?_ | refine blk_alloc ?_ _)); exact BK320.out) hb)
    have n1_ := Aside0.mk (blk_below (g := gb321) (o := .cells #[.string a1_0, .int .i64 a1_1, .string a1_2] 35 (0, 0)) (by (with_reducible repeat (first | refine blk_drewN ?_ _ | refine blk_drew ?_ | refine blk_alloc ?_ _)); exact BK321.out) hb)
    have n2_ := Aside0.mk (below_step (by repeat (first | (with_reducible first | exact HB.out | apply below_alloc | apply pw_below_drewN | apply below_drew1 | refine below_set ?_ GE320.out | refine below_set ?_ GE321.out) | exact HB.out)) hb)
    clear BK320
    clear BK321
    clear HB
    have BK320 := n0_
    have BK321 := n1_
    have HB := n2_
    clear n0_ n1_ n2_
    (try clear hb)
    (try clear hb2)
    (try clear hk)
    (try clear hi)
    refine hK.out _ _ ⟨(blk_cell BK320.out 0).trans rfl, (blk_cell BK320.out 1).trans rfl, (blk_cell BK320.out 2).trans rfl, (blk_cell BK321.out 0).trans rfl, (blk_cell BK321.out 1).trans rfl, (blk_cell BK321.out 2).trans rfl⟩ (fun hHeld => ?_)
    clear hK K
    refine norm_ (a' := ?_) ?_ ?_
    rotate_left
    ·
     show Act.put _ (some 18) _ = _
     simp only [Act.put, List.setIfInBounds_toArray, List.set_cons_zero, List.set_cons_succ, i64_w, i32_w]
     rfl
    refine pure_ (i := 4) (N := some 14) (v := ?_) (a' := ?_) #[true, true, true, true, true, false, false, false, false, false] rfl rfl (any_of HT_.out (by kernel_rfl)) (fun _ _ _ h => h) (Or.inl ⟨by rfl, ?_⟩) ?_ ?_
    rotate_left
    ·
     intro w'
     go_simp
     with_reducible rfl
    rotate_left
    ·
     simp only [Act.put, List.setIfInBounds_toArray, List.set_cons_zero, List.set_cons_succ, i64_w, i32_w]
     rfl
    refine pure_ (i := 5) (N := some 19) (v := ?_) (a' := ?_) #[true, true, true, true, true, true, false, false, false, false] rfl rfl (any_of HT_.out (by kernel_rfl)) (fun _ _ _ h => h) (Or.inl ⟨by rfl, ?_⟩) ?_ ?_
    rotate_left
    ·
     intro w'
     go_simp
     with_reducible rfl
    rotate_left
    ·
     simp only [Act.put, List.setIfInBounds_toArray, List.set_cons_zero, List.set_cons_succ, i64_w, i32_w]
     rfl
    refine pure_ (i := 6) (N := some 20) (v := ?_) (a' := ?_) #[true, true, true, true, true, true, true, false, false, false] rfl rfl (any_of HT_.out (by kernel_rfl)) (fun _ _ _ h => h) (Or.inl ⟨by rfl, ?_⟩) ?_ ?_
    rotate_left
    ·
     intro w'
     go_simp
     with_reducible rfl
    rotate_left
    ·
     simp only [Act.put, List.setIfInBounds_toArray, List.set_cons_zero, List.set_cons_succ, i64_w, i32_w]
     rfl
    refine one_ (i := 7) (N := some 7) #[true, true, true, true, true, true, true, true, false, false] rfl rfl (one_of HT_.out (by kernel_rfl)) (by decide) (fun K hK => ?_)
    refine box_step ?hg (N := 7) ?hd (cs := #[.string (⟨#[]⟩ : ByteArray), .int .i64 0, .string (⟨#[]⟩ : ByteArray)]) (t := 35) ?hr ?_; (case hd => rfl); (case hg => rfl); (case hr => first | (go_simp; done) | (go_simp; rfl))
    intro gb327 hg w12 hbox hb
    have n0_ := Aside0.mk (blk_below (g := gb320) (o := .cells #[.string a0_0, .int .i64 a0_1, .string a0_2] 35 (0, 0)) (by (with_reducible repeat (first | refine blk_drewN ?_ _ | refine blk_drew ?_ | refine blk_alloc ?_ _)); exact BK320.out) hb)
    have n1_ := Aside0.mk (blk_below (g := gb321) (o := .cells #[.string a1_0, .int .i64 a1_1, .string a1_2] 35 (0, 0)) (by (with_reducible repeat (first | refine blk_drewN ?_ _ | refine blk_drew ?_ | refine blk_alloc ?_ _)); exact BK321.out) hb)
    have n2_ := Aside0.mk (below_step (by repeat (first | (with_reducible first | exact HB.out | apply below_alloc | apply pw_below_drewN | apply below_drew1 | refine below_set ?_ GE320.out | refine below_set ?_ GE321.out) | exact HB.out)) hb)
    have n3_ := Aside0.mk (hbox)
    have n4_ := Aside0.mk ((by rw [hg]; exact (below_size (by repeat (first | (with_reducible first | exact HB.out | apply below_alloc | apply pw_below_drewN | apply below_drew1 | refine below_set ?_ GE320.out | refine below_set ?_ GE321.out) | exact HB.out))) : w.heap.size ≤ gb327))
    have n5_ := Aside0.mk ((by rw [hg]; exact (below_size (by repeat (first | (with_reducible first | exact HB.out | apply below_alloc | apply pw_below_drewN | apply below_drew1 | refine below_set ?_ GE320.out | refine below_set ?_ GE321.out) | exact HB.out))) : w.heap.size ≤ gb327))
    have n6_ := Aside0.mk ((by rw [hg]; exact Nat.ne_of_lt (blk_lt (g := gb320) (o := .cells #[.string a0_0, .int .i64 a0_1, .string a0_2] 35 (0, 0)) (by (with_reducible repeat (first | refine blk_drewN ?_ _ | refine blk_drew ?_ | refine blk_alloc ?_ _)); exact BK320.out)) : gb320 ≠ gb327))
    have n7_ := Aside0.mk ((by rw [hg]; exact Nat.ne_of_gt (blk_lt (g := gb320) (o := .cells #[.string a0_0, .int .i64 a0_1, .string a0_2] 35 (0, 0)) (by (with_reducible repeat (first | refine blk_drewN ?_ _ | refine blk_drew ?_ | refine blk_alloc ?_ _)); exact BK320.out)) : gb327 ≠ gb320))
    have n8_ := Aside0.mk ((by rw [hg]; exact Nat.ne_of_lt (blk_lt (g := gb321) (o := .cells #[.string a1_0, .int .i64 a1_1, .string a1_2] 35 (0, 0)) (by (with_reducible repeat (first | refine blk_drewN ?_ _ | refine blk_drew ?_ | refine blk_alloc ?_ _)); exact BK321.out)) : gb321 ≠ gb327))
    have n9_ := Aside0.mk ((by rw [hg]; exact Nat.ne_of_gt (blk_lt (g := gb321) (o := .cells #[.string a1_0, .int .i64 a1_1, .string a1_2] 35 (0, 0)) (by (with_reducible repeat (first | refine blk_drewN ?_ _ | refine blk_drew ?_ | refine blk_alloc ?_ _)); exact BK321.out)) : gb327 ≠ gb321))
    clear BK320
    clear BK321
    clear HB
    have BK320 := n0_
    have BK321 := n1_
    have HB := n2_
    have BK327 := n3_
    have GW327 := n4_
    have GE327 := n5_
    have NB320_327 := n6_
    have NB327_320 := n7_
    have NB321_327 := n8_
    have NB327_321 := n9_
    clear n0_ n1_ n2_ n3_ n4_ n5_ n6_ n7_ n8_ n9_
    clear hb hbox hg
    refine hK.out _ _ ⟨(blk_cell BK320.out 0).trans rfl, (blk_cell BK320.out 1).trans rfl, (blk_cell BK320.out 2).trans rfl, (blk_cell BK321.out 0).trans rfl, (blk_cell BK321.out 1).trans rfl, (blk_cell BK321.out 2).trans rfl⟩ (fun hHeld => ?_)
    clear hK K
    refine norm_ (a' := ?_) ?_ ?_
    rotate_left
    ·
     show Act.put _ (some 7) _ = _
     simp only [Act.put, List.setIfInBounds_toArray, List.set_cons_zero, List.set_cons_succ, i64_w, i32_w]
     rfl
    exact norm_ (by simp only [putAll, Act.put, List.setIfInBounds_toArray, List.set_cons_zero, List.set_cons_succ]) (hCont (gb327) _ ⟨hHeld, (by (with_reducible repeat (first | refine blk_drewN ?_ _ | refine blk_drew ?_ | refine blk_alloc ?_ _)); exact BK320.out), (by (with_reducible repeat (first | refine blk_drewN ?_ _ | refine blk_drew ?_ | refine blk_alloc ?_ _)); exact BK321.out), (by (with_reducible repeat (first | refine blk_drewN ?_ _ | refine blk_drew ?_ | refine blk_alloc ?_ _)); exact BK327.out), GW327.out, GE327.out, NB320_327.out, NB327_320.out, NB321_327.out, NB327_321.out, (by repeat (first | (with_reducible first | exact HB.out | apply below_alloc | apply pw_below_drewN | apply below_drew1 | refine below_set ?_ GE320.out | refine below_set ?_ GE321.out | refine below_set ?_ GE327.out) | exact HB.out))⟩)
   ·
    skip
    refine box_step ?hg (N := 7) ?hd (cs := #[.string (⟨#[]⟩ : ByteArray), .int .i64 0, .string (⟨#[]⟩ : ByteArray)]) (t := 35) ?hr ?_; (case hd => rfl); (case hg => rfl); (case hr => first | (go_simp; done) | (go_simp; rfl))
    intro gb327 hg w11 hbox hb
    have n0_ := Aside0.mk (blk_below (g := gb320) (o := .cells #[.string a0_0, .int .i64 a0_1, .string a0_2] 35 (0, 0)) (by (with_reducible repeat (first | refine blk_drewN ?_ _ | refine blk_drew ?_ | refine blk_alloc ?_ _)); exact BK320.out) hb)
    have n1_ := Aside0.mk (blk_below (g := gb321) (o := .cells #[.string a1_0, .int .i64 a1_1, .string a1_2] 35 (0, 0)) (by (with_reducible repeat (first | refine blk_drewN ?_ _ | refine blk_drew ?_ | refine blk_alloc ?_ _)); exact BK321.out) hb)
    have n2_ := Aside0.mk (below_step (by repeat (first | (with_reducible first | exact HB.out | apply below_alloc | apply pw_below_drewN | apply below_drew1 | refine below_set ?_ GE320.out | refine below_set ?_ GE321.out) | exact HB.out)) hb)
    have n3_ := Aside0.mk (hbox)
    have n4_ := Aside0.mk ((by rw [hg]; exact (below_size (by repeat (first | (with_reducible first | exact HB.out | apply below_alloc | apply pw_below_drewN | apply below_drew1 | refine below_set ?_ GE320.out | refine below_set ?_ GE321.out) | exact HB.out))) : w.heap.size ≤ gb327))
    have n5_ := Aside0.mk ((by rw [hg]; exact (below_size (by repeat (first | (with_reducible first | exact HB.out | apply below_alloc | apply pw_below_drewN | apply below_drew1 | refine below_set ?_ GE320.out | refine below_set ?_ GE321.out) | exact HB.out))) : w.heap.size ≤ gb327))
    have n6_ := Aside0.mk ((by rw [hg]; exact Nat.ne_of_lt (blk_lt (g := gb320) (o := .cells #[.string a0_0, .int .i64 a0_1, .string a0_2] 35 (0, 0)) (by (with_reducible repeat (first | refine blk_drewN ?_ _ | refine blk_drew ?_ | refine blk_alloc ?_ _)); exact BK320.out)) : gb320 ≠ gb327))
    have n7_ := Aside0.mk ((by rw [hg]; exact Nat.ne_of_gt (blk_lt (g := gb320) (o := .cells #[.string a0_0, .int .i64 a0_1, .string a0_2] 35 (0, 0)) (by (with_reducible repeat (first | refine blk_drewN ?_ _ | refine blk_drew ?_ | refine blk_alloc ?_ _)); exact BK320.out)) : gb327 ≠ gb320))
    have n8_ := Aside0.mk ((by rw [hg]; exact Nat.ne_of_lt (blk_lt (g := gb321) (o := .cells #[.string a1_0, .int .i64 a1_1, .string a1_2] 35 (0, 0)) (by (with_reducible repeat (first | refine blk_drewN ?_ _ | refine blk_drew ?_ | refine blk_alloc ?_ _)); exact BK321.out)) : gb321 ≠ gb327))
    have n9_ := Aside0.mk ((by rw [hg]; exact Nat.ne_of_gt (blk_lt (g := gb321) (o := .cells #[.string a1_0, .int .i64 a1_1, .string a1_2] 35 (0, 0)) (by (with_reducible repeat (first | refine blk_drewN ?_ _ | refine blk_drew ?_ | refine blk_alloc ?_ _)); exact BK321.out)) : gb327 ≠ gb321))
    clear BK320
    clear BK321
    clear HB
    have BK320 := n0_
    have BK321 := n1_
    have HB := n2_
    have BK327 := n3_
    have GW327 := n4_
    have GE327 := n5_
    have NB320_327 := n6_
    have NB327_320 := n7_
    have NB321_327 := n8_
    have NB327_321 := n9_
    clear n0_ n1_ n2_ n3_ n4_ n5_ n6_ n7_ n8_ n9_
    clear hb hbox hg
    refine hK.out _ _ ⟨(blk_cell BK320.out 0).trans rfl, (blk_cell BK320.out 1).trans rfl, (blk_cell BK320.out 2).trans rfl, (blk_cell BK321.out 0).trans rfl, (blk_cell BK321.out 1).trans rfl, (blk_cell BK321.out 2).trans rfl⟩ (fun hHeld => ?_)
    clear hK K
    refine norm_ (a' := ?_) ?_ ?_
    rotate_left
    ·
     show Act.put _ (some 7) _ = _
     simp only [Act.put, List.setIfInBounds_toArray, List.set_cons_zero, List.set_cons_succ, i64_w, i32_w]
     rfl
    refine one_ (i := 3) (N := some 18) #[true, true, true, true, false, false, false, true, false, false] rfl rfl (one_of HT_.out (by kernel_rfl)) (by decide) (fun K hK => ?_)
    refine goes_ Tryd.func28 (by kernel_rfl) rfl #[.agg #[.string a0_0, .int .i64 a0_1, .string a0_2], .string t322] (by rfl) rfl rfl (by (try simp only [List.map_toArray, List.map_cons, List.map_nil]); first | done | rfl | (simp only [List.length_drop, List.length_take]; rfl)) ?_
    with_reducible refine (uri_Join.calls k a0_0 a0_1 a0_2 t322 t323 t324 t325 t326 _ (Glob.below HGl.out (by repeat (first | (with_reducible first | exact HB.out | apply below_alloc | apply pw_below_drewN | apply below_drew1 | refine below_set ?_ GE320.out | refine below_set ?_ GE321.out | refine below_set ?_ GE327.out) | exact HB.out))) A5.out).mono ?_
    rintro e w12 ⟨rfl, hb⟩
    refine ⟨_, rfl, ?_⟩
    have n0_ := Aside0.mk (blk_below (g := gb320) (o := .cells #[.string a0_0, .int .i64 a0_1, .string a0_2] 35 (0, 0)) (by (with_reducible repeat (first | refine blk_drewN ?_ _ | refine blk_drew ?_ | refine blk_alloc ?_ _)); exact BK320.out) hb)
    have n1_ := Aside0.mk (blk_below (g := gb321) (o := .cells #[.string a1_0, .int .i64 a1_1, .string a1_2] 35 (0, 0)) (by (with_reducible repeat (first | refine blk_drewN ?_ _ | refine blk_drew ?_ | refine blk_alloc ?_ _)); exact BK321.out) hb)
    have n2_ := Aside0.mk (blk_below (g := gb327) (o := .cells #[.string (⟨#[]⟩ : ByteArray), .int .i64 0, .string (⟨#[]⟩ : ByteArray)] 35 (0, 0)) (by (with_reducible repeat (first | refine blk_drewN ?_ _ | refine blk_drew ?_ | refine blk_alloc ?_ _)); exact BK327.out) hb)
    have n3_ := Aside0.mk (below_step (by repeat (first | (with_reducible first | exact HB.out | apply below_alloc | apply pw_below_drewN | apply below_drew1 | refine below_set ?_ GE320.out | refine below_set ?_ GE321.out | refine below_set ?_ GE327.out) | exact HB.out)) hb)
    clear BK320
    clear BK321
    clear BK327
    clear HB
    have BK320 := n0_
    have BK321 := n1_
    have BK327 := n2_
    have HB := n3_
    clear n0_ n1_ n2_ n3_
    (try clear hb)
    (try clear hb2)
    (try clear hk)
    (try clear hi)
    refine hK.out _ _ ⟨(blk_cell BK320.out 0).trans rfl, (blk_cell BK320.out 1).trans rfl, (blk_cell BK320.out 2).trans rfl, (blk_cell BK321.out 0).trans rfl, (blk_cell BK321.out 1).trans rfl, (blk_cell BK321.out 2).trans rfl⟩ (fun hHeld => ?_)
    clear hK K
    refine norm_ (a' := ?_) ?_ ?_
    rotate_left
    ·
     show Act.put _ (some 18) _ = _
     simp only [Act.put, List.setIfInBounds_toArray, List.set_cons_zero, List.set_cons_succ, i64_w, i32_w]
     rfl
    refine pure_ (i := 4) (N := some 14) (v := ?_) (a' := ?_) #[true, true, true, true, true, false, false, true, false, false] rfl rfl (any_of HT_.out (by kernel_rfl)) (fun _ _ _ h => h) (Or.inl ⟨by rfl, ?_⟩) ?_ ?_
    rotate_left
    ·
     intro w'
     go_simp
     with_reducible rfl
    rotate_left
    ·
     simp only [Act.put, List.setIfInBounds_toArray, List.set_cons_zero, List.set_cons_succ, i64_w, i32_w]
     rfl
    refine pure_ (i := 5) (N := some 19) (v := ?_) (a' := ?_) #[true, true, true, true, true, true, false, true, false, false] rfl rfl (any_of HT_.out (by kernel_rfl)) (fun _ _ _ h => h) (Or.inl ⟨by rfl, ?_⟩) ?_ ?_
    rotate_left
    ·
     intro w'
     go_simp
     with_reducible rfl
    rotate_left
    ·
     simp only [Act.put, List.setIfInBounds_toArray, List.set_cons_zero, List.set_cons_succ, i64_w, i32_w]
     rfl
    refine pure_ (i := 6) (N := some 20) (v := ?_) (a' := ?_) #[true, true, true, true, true, true, true, true, false, false] rfl rfl (any_of HT_.out (by kernel_rfl)) (fun _ _ _ h => h) (Or.inl ⟨by rfl, ?_⟩) ?_ ?_
    rotate_left
    ·
     intro w'
     go_simp
     with_reducible rfl
    rotate_left
    ·
     simp only [Act.put, List.setIfInBounds_toArray, List.set_cons_zero, List.set_cons_succ, i64_w, i32_w]
     rfl
    exact norm_ (by simp only [putAll, Act.put, List.setIfInBounds_toArray, List.set_cons_zero, List.set_cons_succ]) (hCont (gb327) _ ⟨hHeld, (by (with_reducible repeat (first | refine blk_drewN ?_ _ | refine blk_drew ?_ | refine blk_alloc ?_ _)); exact BK320.out), (by (with_reducible repeat (first | refine blk_drewN ?_ _ | refine blk_drew ?_ | refine blk_alloc ?_ _)); exact BK321.out), (by (with_reducible repeat (first | refine blk_drewN ?_ _ | refine blk_drew ?_ | refine blk_alloc ?_ _)); exact BK327.out), GW327.out, GE327.out, NB320_327.out, NB327_320.out, NB321_327.out, NB327_321.out, (by repeat (first | (with_reducible first | exact HB.out | apply below_alloc | apply pw_below_drewN | apply below_drew1 | refine below_set ?_ GE320.out | refine below_set ?_ GE321.out | refine below_set ?_ GE327.out) | exact HB.out))⟩)
  ·
   skip
   refine box_step ?hg (N := 7) ?hd (cs := #[.string (⟨#[]⟩ : ByteArray), .int .i64 0, .string (⟨#[]⟩ : ByteArray)]) (t := 35) ?hr ?_; (case hd => rfl); (case hg => rfl); (case hr => first | (go_simp; done) | (go_simp; rfl))
   intro gb327 hg w10 hbox hb
   have n0_ := Aside0.mk (blk_below (g := gb320) (o := .cells #[.string a0_0, .int .i64 a0_1, .string a0_2] 35 (0, 0)) (by (with_reducible repeat (first | refine blk_drewN ?_ _ | refine blk_drew ?_ | refine blk_alloc ?_ _)); exact BK320.out) hb)
   have n1_ := Aside0.mk (blk_below (g := gb321) (o := .cells #[.string a1_0, .int .i64 a1_1, .string a1_2] 35 (0, 0)) (by (with_reducible repeat (first | refine blk_drewN ?_ _ | refine blk_drew ?_ | refine blk_alloc ?_ _)); exact BK321.out) hb)
   have n2_ := Aside0.mk (below_step (by repeat (first | (with_reducible first | exact HB.out | apply below_alloc | apply pw_below_drewN | apply below_drew1 | refine below_set ?_ GE320.out | refine below_set ?_ GE321.out) | exact HB.out)) hb)
   have n3_ := Aside0.mk (hbox)
   have n4_ := Aside0.mk ((by rw [hg]; exact (below_size (by repeat (first | (with_reducible first | exact HB.out | apply below_alloc | apply pw_below_drewN | apply below_drew1 | refine below_set ?_ GE320.out | refine below_set ?_ GE321.out) | exact HB.out))) : w.heap.size ≤ gb327))
   have n5_ := Aside0.mk ((by rw [hg]; exact (below_size (by repeat (first | (with_reducible first | exact HB.out | apply below_alloc | apply pw_below_drewN | apply below_drew1 | refine below_set ?_ GE320.out | refine below_set ?_ GE321.out) | exact HB.out))) : w.heap.size ≤ gb327))
   have n6_ := Aside0.mk ((by rw [hg]; exact Nat.ne_of_lt (blk_lt (g := gb320) (o := .cells #[.string a0_0, .int .i64 a0_1, .string a0_2] 35 (0, 0)) (by (with_reducible repeat (first | refine blk_drewN ?_ _ | refine blk_drew ?_ | refine blk_alloc ?_ _)); exact BK320.out)) : gb320 ≠ gb327))
   have n7_ := Aside0.mk ((by rw [hg]; exact Nat.ne_of_gt (blk_lt (g := gb320) (o := .cells #[.string a0_0, .int .i64 a0_1, .string a0_2] 35 (0, 0)) (by (with_reducible repeat (first | refine blk_drewN ?_ _ | refine blk_drew ?_ | refine blk_alloc ?_ _)); exact BK320.out)) : gb327 ≠ gb320))
   have n8_ := Aside0.mk ((by rw [hg]; exact Nat.ne_of_lt (blk_lt (g := gb321) (o := .cells #[.string a1_0, .int .i64 a1_1, .string a1_2] 35 (0, 0)) (by (with_reducible repeat (first | refine blk_drewN ?_ _ | refine blk_drew ?_ | refine blk_alloc ?_ _)); exact BK321.out)) : gb321 ≠ gb327))
   have n9_ := Aside0.mk ((by rw [hg]; exact Nat.ne_of_gt (blk_lt (g := gb321) (o := .cells #[.string a1_0, .int .i64 a1_1, .string a1_2] 35 (0, 0)) (by (with_reducible repeat (first | refine blk_drewN ?_ _ | refine blk_drew ?_ | refine blk_alloc ?_ _)); exact BK321.out)) : gb327 ≠ gb321))
   clear BK320
   clear BK321
   clear HB
   have BK320 := n0_
   have BK321 := n1_
   have HB := n2_
   have BK327 := n3_
   have GW327 := n4_
   have GE327 := n5_
   have NB320_327 := n6_
   have NB327_320 := n7_
   have NB321_327 := n8_
   have NB327_321 := n9_
   clear n0_ n1_ n2_ n3_ n4_ n5_ n6_ n7_ n8_ n9_
   clear hb hbox hg
   refine hK.out _ _ ⟨(blk_cell BK320.out 0).trans rfl, (blk_cell BK320.out 1).trans rfl, (blk_cell BK320.out 2).trans rfl, (blk_cell BK321.out 0).trans rfl, (blk_cell BK321.out 1).trans rfl, (blk_cell BK321.out 2).trans rfl⟩ (fun hHeld => ?_)
   clear hK K
   refine norm_ (a' := ?_) ?_ ?_
   rotate_left
   ·
    show Act.put _ (some 7) _ = _
    simp only [Act.put, List.setIfInBounds_toArray, List.set_cons_zero, List.set_cons_succ, i64_w, i32_w]
    rfl
   refine one_ (i := 2) (N := some 17) #[true, true, true, false, false, false, false, true, false, false] rfl rfl (one_of HT_.out (by kernel_rfl)) (by decide) (fun K hK => ?_)
   refine goes_ Tryd.func21 (by kernel_rfl) rfl #[.agg #[.string a1_0, .int .i64 a1_1, .string a1_2]] (by rfl) rfl rfl (by (try simp only [List.map_toArray, List.map_cons, List.map_nil]); first | done | rfl | (simp only [List.length_drop, List.length_take]; rfl)) ?_
   with_reducible refine (uri_Text.calls a1_0 a1_1 a1_2 t322 _ (Glob.below HGl.out (by repeat (first | (with_reducible first | exact HB.out | apply below_alloc | apply pw_below_drewN | apply below_drew1 | refine below_set ?_ GE320.out | refine below_set ?_ GE321.out | refine below_set ?_ GE327.out) | exact HB.out))) A4.out).mono ?_
   rintro e w11 ⟨rfl, hb⟩
   refine ⟨_, rfl, ?_⟩
   have n0_ := Aside0.mk (blk_below (g := gb320) (o := .cells #[.string a0_0, .int .i64 a0_1, .string a0_2] 35 (0, 0)) (by (with_reducible repeat (first | refine blk_drewN ?_ _ | refine blk_drew ?_ | refine blk_alloc ?_ _)); exact BK320.out) hb)
   have n1_ := Aside0.mk (blk_below (g := gb321) (o := .cells #[.string a1_0, .int .i64 a1_1, .string a1_2] 35 (0, 0)) (by (with_reducible repeat (first | refine blk_drewN ?_ _ | refine blk_drew ?_ | refine blk_alloc ?_ _)); exact BK321.out) hb)
   have n2_ := Aside0.mk (blk_below (g := gb327) (o := .cells #[.string (⟨#[]⟩ : ByteArray), .int .i64 0, .string (⟨#[]⟩ : ByteArray)] 35 (0, 0)) (by (with_reducible repeat (first | refine blk_drewN ?_ _ | refine blk_drew ?_ | refine blk_alloc ?_ _)); exact BK327.out) hb)
   have n3_ := Aside0.mk (below_step (by repeat (first | (with_reducible first | exact HB.out | apply below_alloc | apply pw_below_drewN | apply below_drew1 | refine below_set ?_ GE320.out | refine below_set ?_ GE321.out | refine below_set ?_ GE327.out) | exact HB.out)) hb)
   clear BK320
   clear BK321
   clear BK327
   clear HB
   have BK320 := n0_
   have BK321 := n1_
   have BK327 := n2_
   have HB := n3_
   clear n0_ n1_ n2_ n3_
   (try clear hb)
   (try clear hb2)
   (try clear hk)
   (try clear hi)
   refine hK.out _ _ ⟨(blk_cell BK320.out 0).trans rfl, (blk_cell BK320.out 1).trans rfl, (blk_cell BK320.out 2).trans rfl, (blk_cell BK321.out 0).trans rfl, (blk_cell BK321.out 1).trans rfl, (blk_cell BK321.out 2).trans rfl⟩ (fun hHeld => ?_)
   clear hK K
   refine norm_ (a' := ?_) ?_ ?_
   rotate_left
   ·
    show Act.put _ (some 17) _ = _
    simp only [Act.put, List.setIfInBounds_toArray, List.set_cons_zero, List.set_cons_succ, i64_w, i32_w]
    rfl
   refine one_ (i := 3) (N := some 18) #[true, true, true, true, false, false, false, true, false, false] rfl rfl (one_of HT_.out (by kernel_rfl)) (by decide) (fun K hK => ?_)
   refine goes_ Tryd.func28 (by kernel_rfl) rfl #[.agg #[.string a0_0, .int .i64 a0_1, .string a0_2], .string t322] (by rfl) rfl rfl (by (try simp only [List.map_toArray, List.map_cons, List.map_nil]); first | done | rfl | (simp only [List.length_drop, List.length_take]; rfl)) ?_
   with_reducible refine (uri_Join.calls k a0_0 a0_1 a0_2 t322 t323 t324 t325 t326 _ (Glob.below HGl.out (by repeat (first | (with_reducible first | exact HB.out | apply below_alloc | apply pw_below_drewN | apply below_drew1 | refine below_set ?_ GE320.out | refine below_set ?_ GE321.out | refine below_set ?_ GE327.out) | exact HB.out))) A5.out).mono ?_
   rintro e w12 ⟨rfl, hb⟩
   refine ⟨_, rfl, ?_⟩
   have n0_ := Aside0.mk (blk_below (g := gb320) (o := .cells #[.string a0_0, .int .i64 a0_1, .string a0_2] 35 (0, 0)) (by (with_reducible repeat (first | refine blk_drewN ?_ _ | refine blk_drew ?_ | refine blk_alloc ?_ _)); exact BK320.out) hb)
   have n1_ := Aside0.mk (blk_below (g := gb321) (o := .cells #[.string a1_0, .int .i64 a1_1, .string a1_2] 35 (0, 0)) (by (with_reducible repeat (first | refine blk_drewN ?_ _ | refine blk_drew ?_ | refine blk_alloc ?_ _)); exact BK321.out) hb)
   have n2_ := Aside0.mk (blk_below (g := gb327) (o := .cells #[.string (⟨#[]⟩ : ByteArray), .int .i64 0, .string (⟨#[]⟩ : ByteArray)] 35 (0, 0)) (by (with_reducible repeat (first | refine blk_drewN ?_ _ | refine blk_drew ?_ | refine blk_alloc ?_ _)); exact BK327.out) hb)
   have n3_ := Aside0.mk (below_step (by repeat (first | (with_reducible first | exact HB.out | apply below_alloc | apply pw_below_drewN | apply below_drew1 | refine below_set ?_ GE320.out | refine below_set ?_ GE321.out | refine below_set ?_ GE327.out) | exact HB.out)) hb)
   clear BK320
   clear BK321
   clear BK327
   clear HB
   have BK320 := n0_
   have BK321 := n1_
   have BK327 := n2_
   have HB := n3_
   clear n0_ n1_ n2_ n3_
   (try clear hb)
   (try clear hb2)
   (try clear hk)
   (try clear hi)
   refine hK.out _ _ ⟨(blk_cell BK320.out 0).trans rfl, (blk_cell BK320.out 1).trans rfl, (blk_cell BK320.out 2).trans rfl, (blk_cell BK321.out 0).trans rfl, (blk_cell BK321.out 1).trans rfl, (blk_cell BK321.out 2).trans rfl⟩ (fun hHeld => ?_)
   clear hK K
   refine norm_ (a' := ?_) ?_ ?_
   rotate_left
   ·
    show Act.put _ (some 18) _ = _
    simp only [Act.put, List.setIfInBounds_toArray, List.set_cons_zero, List.set_cons_succ, i64_w, i32_w]
    rfl
   refine pure_ (i := 4) (N := some 14) (v := ?_) (a' := ?_) #[true, true, true, true, true, false, false, true, false, false] rfl rfl (any_of HT_.out (by kernel_rfl)) (fun _ _ _ h => h) (Or.inl ⟨by rfl, ?_⟩) ?_ ?_
   rotate_left
   ·
    intro w'
    go_simp
    with_reducible rfl
   rotate_left
   ·
    simp only [Act.put, List.setIfInBounds_toArray, List.set_cons_zero, List.set_cons_succ, i64_w, i32_w]
    rfl
   refine pure_ (i := 5) (N := some 19) (v := ?_) (a' := ?_) #[true, true, true, true, true, true, false, true, false, false] rfl rfl (any_of HT_.out (by kernel_rfl)) (fun _ _ _ h => h) (Or.inl ⟨by rfl, ?_⟩) ?_ ?_
   rotate_left
   ·
    intro w'
    go_simp
    with_reducible rfl
   rotate_left
   ·
    simp only [Act.put, List.setIfInBounds_toArray, List.set_cons_zero, List.set_cons_succ, i64_w, i32_w]
    rfl
   refine pure_ (i := 6) (N := some 20) (v := ?_) (a' := ?_) #[true, true, true, true, true, true, true, true, false, false] rfl rfl (any_of HT_.out (by kernel_rfl)) (fun _ _ _ h => h) (Or.inl ⟨by rfl, ?_⟩) ?_ ?_
   rotate_left
   ·
    intro w'
    go_simp
    with_reducible rfl
   rotate_left
   ·
    simp only [Act.put, List.setIfInBounds_toArray, List.set_cons_zero, List.set_cons_succ, i64_w, i32_w]
    rfl
   exact norm_ (by simp only [putAll, Act.put, List.setIfInBounds_toArray, List.set_cons_zero, List.set_cons_succ]) (hCont (gb327) _ ⟨hHeld, (by (with_reducible repeat (first | refine blk_drewN ?_ _ | refine blk_drew ?_ | refine blk_alloc ?_ _)); exact BK320.out), (by (with_reducible repeat (first | refine blk_drewN ?_ _ | refine blk_drew ?_ | refine blk_alloc ?_ _)); exact BK321.out), (by (with_reducible repeat (first | refine blk_drewN ?_ _ | refine blk_drew ?_ | refine blk_alloc ?_ _)); exact BK327.out), GW327.out, GE327.out, NB320_327.out, NB327_320.out, NB321_327.out, NB327_321.out, (by repeat (first | (with_reducible first | exact HB.out | apply below_alloc | apply pw_below_drewN | apply below_drew1 | refine below_set ?_ GE320.out | refine below_set ?_ GE321.out | refine below_set ?_ GE327.out) | exact HB.out))⟩)
 rintro gb327 w13 ⟨hS_, h0_, h1_, h2_, h3_, h4_, h5_, h6_, h7_, h8_, h9_⟩
 have n0_ : Aside0 (w13.heap[gb320]? = some (.cells #[.string a0_0, .int .i64 a0_1, .string a0_2] 35 (0, 0))) := ⟨h0_⟩
 have n1_ : Aside0 (w13.heap[gb321]? = some (.cells #[.string a1_0, .int .i64 a1_1, .string a1_2] 35 (0, 0))) := ⟨h1_⟩
 have n2_ : Aside0 (w13.heap[gb327]? = some (.cells #[.string (⟨#[]⟩ : ByteArray), .int .i64 0, .string (⟨#[]⟩ : ByteArray)] 35 (0, 0))) := ⟨h2_⟩
 have n3_ : Aside0 (w.heap.size ≤ gb327) := ⟨h3_⟩
 have n4_ : Aside0 (w.heap.size ≤ gb327) := ⟨h4_⟩
 have n5_ : Aside0 (gb320 ≠ gb327) := ⟨h5_⟩
 have n6_ : Aside0 (gb327 ≠ gb320) := ⟨h6_⟩
 have n7_ : Aside0 (gb321 ≠ gb327) := ⟨h7_⟩
 have n8_ : Aside0 (gb327 ≠ gb321) := ⟨h8_⟩
 have n9_ : Aside0 (Below w.heap.size w w13) := ⟨h9_⟩
 clear BK320
 clear BK321
 clear HB
 clear h0_ h1_ h2_ h3_ h4_ h5_ h6_ h7_ h8_ h9_
 have BK320 := n0_
 have BK321 := n1_
 have BK327 := n2_
 have GW327 := n3_
 have GE327 := n4_
 have NB320_327 := n5_
 have NB327_320 := n6_
 have NB321_327 := n7_
 have NB327_321 := n8_
 have HB := n9_
 clear n0_ n1_ n2_ n3_ n4_ n5_ n6_ n7_ n8_ n9_
 have hHeld : w13.cell? ⟨gb320, 0, none⟩ = some (.string a0_0) ∧ w13.cell? ⟨gb320, 1, none⟩ = some (.int .i64 a0_1) ∧ w13.cell? ⟨gb320, 2, none⟩ = some (.string a0_2) ∧ w13.cell? ⟨gb321, 0, none⟩ = some (.string a1_0) ∧ w13.cell? ⟨gb321, 1, none⟩ = some (.int .i64 a1_1) ∧ w13.cell? ⟨gb321, 2, none⟩ = some (.string a1_2) := hS_
 refine norm_ (a' := ?_) ?_ ?_
 rotate_left
 ·
  simp only [putAll, Act.put, List.setIfInBounds_toArray, List.set_cons_zero, List.set_cons_succ]
  rfl
 refine one_ (i := 8) (N := none) #[true, true, true, true, true, true, true, true, true, false] rfl rfl (one_of HT_.out (by kernel_rfl)) (by decide) (fun K hK => ?_)
 have hs14 : w13.cell? ⟨gb327, 0, none⟩ = some (.string (⟨#[]⟩ : ByteArray)) := (blk_cell BK327.out 0).trans rfl
 have hfs14 := blk_frozen BK327.out 0
 have hns14_0 := NB320_327.out
 have hns14_1 := NB321_327.out
 have hms14_0 := NB327_320.out
 have hms14_1 := NB327_321.out
 have hs15 : w13.cell? ⟨gb327, 1, none⟩ = some (.int .i64 0) := (blk_cell BK327.out 1).trans rfl
 have hfs15 := blk_frozen BK327.out 1
 have hns15_0 := NB320_327.out
 have hns15_1 := NB321_327.out
 have hms15_0 := NB327_320.out
 have hms15_1 := NB327_321.out
 have hs16 : w13.cell? ⟨gb327, 2, none⟩ = some (.string (⟨#[]⟩ : ByteArray)) := (blk_cell BK327.out 2).trans rfl
 have hfs16 := blk_frozen BK327.out 2
 have hns16_0 := NB320_327.out
 have hns16_1 := NB321_327.out
 have hms16_0 := NB327_320.out
 have hms16_1 := NB327_321.out
 refine skip_ (w1 := ?_) (by rfl) rfl ?_ ?_
 rotate_left
 ·
  go_simp
  rfl
 refine hK.out _ _ ⟨((cell_far (p := ⟨gb327, _, none⟩) NB320_327.out _).trans (((cell_far (p := ⟨gb327, _, none⟩) NB320_327.out _).trans (((cell_far (p := ⟨gb327, _, none⟩) NB320_327.out _).trans (hHeld.1)))))), ((cell_far (p := ⟨gb327, _, none⟩) NB320_327.out _).trans (((cell_far (p := ⟨gb327, _, none⟩) NB320_327.out _).trans (((cell_far (p := ⟨gb327, _, none⟩) NB320_327.out _).trans (hHeld.2.1)))))), ((cell_far (p := ⟨gb327, _, none⟩) NB320_327.out _).trans (((cell_far (p := ⟨gb327, _, none⟩) NB320_327.out _).trans (((cell_far (p := ⟨gb327, _, none⟩) NB320_327.out _).trans (hHeld.2.2.1)))))), ((cell_far (p := ⟨gb327, _, none⟩) NB321_327.out _).trans (((cell_far (p := ⟨gb327, _, none⟩) NB321_327.out _).trans (((cell_far (p := ⟨gb327, _, none⟩) NB321_327.out _).trans (hHeld.2.2.2.1)))))), ((cell_far (p := ⟨gb327, _, none⟩) NB321_327.out _).trans (((cell_far (p := ⟨gb327, _, none⟩) NB321_327.out _).trans (((cell_far (p := ⟨gb327, _, none⟩) NB321_327.out _).trans (hHeld.2.2.2.2.1)))))), ((cell_far (p := ⟨gb327, _, none⟩) NB321_327.out _).trans (((cell_far (p := ⟨gb327, _, none⟩) NB321_327.out _).trans (((cell_far (p := ⟨gb327, _, none⟩) NB321_327.out _).trans (hHeld.2.2.2.2.2))))))⟩ (fun hHeld => ?_)
 clear hK K
 refine pure_ (i := 9) (N := some 8) (v := ?_) (a' := ?_) #[true, true, true, true, true, true, true, true, true, true] rfl rfl (any_of HT_.out (by kernel_rfl)) (fun _ _ _ h => h) (Or.inl ⟨by rfl, ?_⟩) ?_ ?_
 rotate_left
 ·
  intro w'
  go_simp
  with_reducible rfl
 rotate_left
 ·
  simp only [Act.put, List.setIfInBounds_toArray, List.set_cons_zero, List.set_cons_succ, i64_w, i32_w]
  rfl
 refine done_ (done_of HT_.out (by kernel_rfl)) ?_
 go_upto_region 2 with (fail)
 go_cut [38] (fun v38 wc => ∃ (kq : Nat) (x38_5 : Bool), v38 = .bool x38_5 ∧ Aside0 (tollhouselaw10_UriJoins.j0 kq a2 x38_5 a0_0 a0_1 a0_2 a1_0 a1_1 a1_2 = some r) ∧ Aside0 (kq ≤ k) ∧ Aside0 (wc.heap[gb320]? = some (.cells #[.string a0_0, .int .i64 a0_1, .string a0_2] 35 (0, 0))) ∧ Aside0 (wc.heap[gb321]? = some (.cells #[.string a1_0, .int .i64 a1_1, .string a1_2] 35 (0, 0))) ∧ Aside0 (wc.heap[gb327]? = some (.cells #[.string t323, .int .i64 t324, .string t325] 35 (0, 0))) ∧ Aside0 (Below w.heap.size w wc))
 case first =>
  have H := HC6.out
  clear HC6
  replace H := Option.bind_eq_some_iff.mp H
  obtain ⟨t328, A170, H⟩ := H
  replace H : (if t328 = true then ((uri_May.f a1_0 a1_1 a1_2).bind fun t329 => (if ((t326 == 0) != t329) = true then (tollhouselaw10_UriJoins.j0 k a2 true a0_0 a0_1 a0_2 a1_0 a1_1 a1_2) else (if t326 = 0 then (tollhouselaw10_UriJoins.j0 k a2 (!(t323.toList == a1_0.toList) || (!(t324 == a1_1) || (!(t325.toList == a1_2.toList)))) a0_0 a0_1 a0_2 a1_0 a1_1 a1_2) else (tollhouselaw10_UriJoins.j0 k a2 false a0_0 a0_1 a0_2 a1_0 a1_1 a1_2)))) else (if ((t326 == 0) != false) = true then (tollhouselaw10_UriJoins.j0 k a2 true a0_0 a0_1 a0_2 a1_0 a1_1 a1_2) else (if t326 = 0 then (tollhouselaw10_UriJoins.j0 k a2 (!(t323.toList == a1_0.toList) || (!(t324 == a1_1) || (!(t325.toList == a1_2.toList)))) a0_0 a0_1 a0_2 a1_0 a1_1 a1_2) else (tollhouselaw10_UriJoins.j0 k a2 false a0_0 a0_1 a0_2 a1_0 a1_1 a1_2)))) = some r := H
  have A17 := Aside0.mk A170
  clear A170
  by_cases c18 : t328 = true
  ·
   subst c18
   have H1 : ((uri_May.f a1_0 a1_1 a1_2).bind fun t329 => (if ((t326 == 0) != t329) = true then (tollhouselaw10_UriJoins.j0 k a2 true a0_0 a0_1 a0_2 a1_0 a1_1 a1_2) else (if t326 = 0 then (tollhouselaw10_UriJoins.j0 k a2 (!(t323.toList == a1_0.toList) || (!(t324 == a1_1) || (!(t325.toList == a1_2.toList)))) a0_0 a0_1 a0_2 a1_0 a1_1 a1_2) else (tollhouselaw10_UriJoins.j0 k a2 false a0_0 a0_1 a0_2 a1_0 a1_1 a1_2)))) = some r := by rw [if_pos rfl] at H; exact H
   clear H
   have H := H1
   clear H1
   replace H := Option.bind_eq_some_iff.mp H
   obtain ⟨t329, A190, H⟩ := H
   replace H : (if ((t326 == 0) != t329) = true then (tollhouselaw10_UriJoins.j0 k a2 true a0_0 a0_1 a0_2 a1_0 a1_1 a1_2) else (if t326 = 0 then (tollhouselaw10_UriJoins.j0 k a2 (!(t323.toList == a1_0.toList) || (!(t324 == a1_1) || (!(t325.toList == a1_2.toList)))) a0_0 a0_1 a0_2 a1_0 a1_1 a1_2) else (tollhouselaw10_UriJoins.j0 k a2 false a0_0 a0_1 a0_2 a1_0 a1_1 a1_2))) = some r := H
   have A19 := Aside0.mk A190
   clear A190
   by_cases c20 : ((t326 == 0) != t329) = true
   ·
    rw [if_pos c20] at H
    have c20b0 : ((t326 == 0) != t329) = true := c20
    (try (have c20b1 : decide ((t326 == 0) = t329) = false := by simpa using c20))
    (try (have c20b2 : ((t326 == 0) == t329) = false := by simpa using c20))
    (try (have c20b3 : ¬ ((t326 == 0) = t329) := by simpa using c20))
    clear c20
    (first | rw [c20b0] | (simp only [i64_w, i32_w]; rw [c20b0]) | skip)
    have H' := Aside0.mk H
    clear H
    have hnb21 := NB320_321.out
    have hnc21 := NB321_320.out
    have hnb22 := NB320_327.out
    have hnc22 := NB327_320.out
    have hcz23_0 : w13.cell? ⟨gb320, 0, none⟩ = some (.string a0_0) := (blk_cell BK320.out 0).trans rfl
    have hcz23_1 : w13.cell? ⟨gb320, 1, none⟩ = some (.int .i64 a0_1) := (blk_cell BK320.out 1).trans rfl
    have hcz23_2 : w13.cell? ⟨gb320, 2, none⟩ = some (.string a0_2) := (blk_cell BK320.out 2).trans rfl
    have hfz23_0 := blk_frozen BK320.out 0
    have hfz23_1 := blk_frozen BK320.out 1
    have hfz23_2 := blk_frozen BK320.out 2
    go_wp2_with (first | ((with_reducible refine gate_callee (f := 22) rfl ?_); refine goesL_ (some 24) rfl rfl Tryd.func22 (by kernel_rfl) rfl #[.agg #[.string a0_0, .int .i64 a0_1, .string a0_2]] rfl (by (try simp only [List.map_toArray, List.map_cons, List.map_nil]); first | done | rfl | (simp only [List.length_drop, List.length_take]; rfl)) ?_; (with_reducible refine (uri_May.calls a0_0 a0_1 a0_2 true _ (Glob.below HGl.out (by repeat (first | (with_reducible first | exact HB.out | apply below_alloc | apply pw_below_drewN | apply below_drew1 | refine below_set ?_ GE320.out | refine below_set ?_ GE321.out | refine below_set ?_ GE327.out) | exact HB.out))) A17.out).mono ?_); rintro e w24 ⟨rfl, hb⟩; refine ⟨_, rfl, ?_⟩; have n0_ := Aside0.mk (blk_below (g := gb320) (o := .cells #[.string a0_0, .int .i64 a0_1, .string a0_2] 35 (0, 0)) (by (with_reducible repeat (first | refine blk_drewN ?_ _ | refine blk_drew ?_ | refine blk_alloc ?_ _)); refine blk_far ?_ NB320_327.out _; (with_reducible repeat (first | refine blk_drewN ?_ _ | refine blk_drew ?_ | refine blk_alloc ?_ _)); refine blk_far ?_ NB320_327.out _; (with_reducible repeat (first | refine blk_drewN ?_ _ | refine blk_drew ?_ | refine blk_alloc ?_ _)); refine blk_far ?_ NB320_327.out _; (with_reducible repeat (first | refine blk_drewN ?_ _ | refine blk_drew ?_ | refine blk_alloc ?_ _)); exact BK320.out) hb); have n1_ := Aside0.mk (blk_below (g := gb321) (o := .cells #[.string a1_0, .int .i64 a1_1, .string a1_2] 35 (0, 0)) (by (with_reducible repeat (first | refine blk_drewN ?_ _ | refine blk_drew ?_ | refine blk_alloc ?_ _)); refine blk_far ?_ NB321_327.out _; (with_reducible repeat (first | refine blk_drewN ?_ _ | refine blk_drew ?_ | refine blk_alloc ?_ _)); refine blk_far ?_ NB321_327.out _; (with_reducible repeat (first | refine blk_drewN ?_ _ | refine blk_drew ?_ | refine blk_alloc ?_ _)); refine blk_far ?_ NB321_327.out _; (with_reducible repeat (first | refine blk_drewN ?_ _ | refine blk_drew ?_ | refine blk_alloc ?_ _)); exact BK321.out) hb); have n2_ := Aside0.mk (blk_below (g := gb327) (o := .cells #[.string t323, .int .i64 t324, .string t325] 35 (0, 0)) (by (with_reducible repeat (first | refine blk_drewN ?_ _ | refine blk_drew ?_ | refine blk_alloc ?_ _)); refine blk_put (cs := #[.string t323, .int .i64 t324, .string (⟨#[]⟩ : ByteArray)]) ?_ 2 _ rfl; (with_reducible repeat (first | refine blk_drewN ?_ _ | refine blk_drew ?_ | refine blk_alloc ?_ _)); refine blk_put (cs := #[.string t323, .int .i64 0, .string (⟨#[]⟩ : ByteArray)]) ?_ 1 _ rfl; (with_reducible repeat (first | refine blk_drewN ?_ _ | refine blk_drew ?_ | refine blk_alloc ?_ _)); refine blk_put (cs := #[.string (⟨#[]⟩ : ByteArray), .int .i64 0, .string (⟨#[]⟩ : ByteArray)]) ?_ 0 _ rfl; (with_reducible repeat (first | refine blk_drewN ?_ _ | refine blk_drew ?_ | refine blk_alloc ?_ _)); exact BK327.out) hb); have n3_ := Aside0.mk (below_step (by repeat (first | (with_reducible first | exact HB.out | apply below_alloc | apply pw_below_drewN | apply below_drew1 | refine below_set ?_ GE320.out | refine below_set ?_ GE321.out | refine below_set ?_ GE327.out) | exact HB.out)) hb); clear BK320; clear BK321; clear BK327; clear HB; have BK320 := n0_; have BK321 := n1_; have BK327 := n2_; have HB := n3_; clear n0_ n1_ n2_ n3_; (try clear hb); (try clear hb2); (try clear hk); (try clear hi); have hnb25 := NB321_327.out; have hnc25 := NB327_321.out; have hcz26_0 : w24.cell? ⟨gb321, 0, none⟩ = some (.string a1_0) := (blk_cell BK321.out 0).trans rfl; have hcz26_1 : w24.cell? ⟨gb321, 1, none⟩ = some (.int .i64 a1_1) := (blk_cell BK321.out 1).trans rfl; have hcz26_2 : w24.cell? ⟨gb321, 2, none⟩ = some (.string a1_2) := (blk_cell BK321.out 2).trans rfl; have hfz26_0 := blk_frozen BK321.out 0; have hfz26_1 := blk_frozen BK321.out 1; have hfz26_2 := blk_frozen BK321.out 2) | (go_at_call 22; (with_reducible refine (uri_May.calls a1_0 a1_1 a1_2 t329 _ (Glob.below HGl.out (by repeat (first | (with_reducible first | exact HB.out | apply below_alloc | apply pw_below_drewN | apply below_drew1 | refine below_set ?_ GE320.out | refine below_set ?_ GE321.out | refine below_set ?_ GE327.out) | exact HB.out))) A19.out).mono ?_); rintro e w27 ⟨rfl, hb⟩; have n0_ := Aside0.mk (blk_below (g := gb320) (o := .cells #[.string a0_0, .int .i64 a0_1, .string a0_2] 35 (0, 0)) (by (with_reducible repeat (first | refine blk_drewN ?_ _ | refine blk_drew ?_ | refine blk_alloc ?_ _)); exact BK320.out) hb); have n1_ := Aside0.mk (blk_below (g := gb321) (o := .cells #[.string a1_0, .int .i64 a1_1, .string a1_2] 35 (0, 0)) (by (with_reducible repeat (first | refine blk_drewN ?_ _ | refine blk_drew ?_ | refine blk_alloc ?_ _)); exact BK321.out) hb); have n2_ := Aside0.mk (blk_below (g := gb327) (o := .cells #[.string t323, .int .i64 t324, .string t325] 35 (0, 0)) (by (with_reducible repeat (first | refine blk_drewN ?_ _ | refine blk_drew ?_ | refine blk_alloc ?_ _)); exact BK327.out) hb); have n3_ := Aside0.mk (below_step (by repeat (first | (with_reducible first | exact HB.out | apply below_alloc | apply pw_below_drewN | apply below_drew1 | refine below_set ?_ GE320.out | refine below_set ?_ GE321.out | refine below_set ?_ GE327.out) | exact HB.out)) hb); clear BK320; clear BK321; clear BK327; clear HB; have BK320 := n0_; have BK321 := n1_; have BK327 := n2_; have HB := n3_; clear n0_ n1_ n2_ n3_; (try clear hb); (try clear hb2); (try clear hk); (try clear hi)))
    go_meet
    case rel => exact ⟨_, (true), (by first | rfl | (simp; done) | (simp [*]; done)), H', ⟨by first | omega | exact Nat.le_refl _⟩, ⟨by (with_reducible repeat (first | refine blk_drewN ?_ _ | refine blk_drew ?_ | refine blk_alloc ?_ _)); exact BK320.out⟩, ⟨by (with_reducible repeat (first | refine blk_drewN ?_ _ | refine blk_drew ?_ | refine blk_alloc ?_ _)); exact BK321.out⟩, ⟨by (with_reducible repeat (first | refine blk_drewN ?_ _ | refine blk_drew ?_ | refine blk_alloc ?_ _)); exact BK327.out⟩, ⟨by repeat (first | (with_reducible first | exact HB.out | apply below_alloc | apply pw_below_drewN | apply below_drew1 | refine below_set ?_ GE320.out | refine below_set ?_ GE321.out | refine below_set ?_ GE327.out) | exact HB.out)⟩⟩
   ·
    rw [if_neg c20] at H
    have c20b0 : ((t326 == 0) != t329) = false := by simpa using c20
    (try (have c20b1 : decide ((t326 == 0) = t329) = true := by simpa using c20))
    (try (have c20b2 : ((t326 == 0) == t329) = true := by simpa using c20))
    clear c20
    (first | rw [c20b0] | (simp only [i64_w, i32_w]; rw [c20b0]) | skip)
    by_cases c28 : t326 = 0
    ·
     rw [if_pos c28] at H
     have c28b0 : (t326 == 0) = true := beq_iff_eq.mpr c28
     have hx1_ : t329 = true := by have h_ := c20b0; rw [c28b0] at h_; simpa using h_
     have c28b1 : (t326 != 0) = false := bne_eq_false_iff_eq.mpr c28
     clear c28
     have H' := Aside0.mk H
     clear H
     have hnb29 := NB320_321.out
     have hnc29 := NB321_320.out
     have hnb30 := NB320_327.out
     have hnc30 := NB327_320.out
     have hcz31_0 : w13.cell? ⟨gb320, 0, none⟩ = some (.string a0_0) := (blk_cell BK320.out 0).trans rfl
     have hcz31_1 : w13.cell? ⟨gb320, 1, none⟩ = some (.int .i64 a0_1) := (blk_cell BK320.out 1).trans rfl
     have hcz31_2 : w13.cell? ⟨gb320, 2, none⟩ = some (.string a0_2) := (blk_cell BK320.out 2).trans rfl
     have hfz31_0 := blk_frozen BK320.out 0
     have hfz31_1 := blk_frozen BK320.out 1
     have hfz31_2 := blk_frozen BK320.out 2
     go_wp2_with (first | ((with_reducible refine gate_callee (f := 22) rfl ?_); refine goesL_ (some 24) rfl rfl Tryd.func22 (by kernel_rfl) rfl #[.agg #[.string a0_0, .int .i64 a0_1, .string a0_2]] rfl (by (try simp only [List.map_toArray, List.map_cons, List.map_nil]); first | done | rfl | (simp only [List.length_drop, List.length_take]; rfl)) ?_; (with_reducible refine (uri_May.calls a0_0 a0_1 a0_2 true _ (Glob.below HGl.out (by repeat (first | (with_reducible first | exact HB.out | apply below_alloc | apply pw_below_drewN | apply below_drew1 | refine below_set ?_ GE320.out | refine below_set ?_ GE321.out | refine below_set ?_ GE327.out) | exact HB.out))) A17.out).mono ?_); rintro e w32 ⟨rfl, hb⟩; refine ⟨_, rfl, ?_⟩; have n0_ := Aside0.mk (blk_below (g := gb320) (o := .cells #[.string a0_0, .int .i64 a0_1, .string a0_2] 35 (0, 0)) (by (with_reducible repeat (first | refine blk_drewN ?_ _ | refine blk_drew ?_ | refine blk_alloc ?_ _)); refine blk_far ?_ NB320_327.out _; (with_reducible repeat (first | refine blk_drewN ?_ _ | refine blk_drew ?_ | refine blk_alloc ?_ _)); refine blk_far ?_ NB320_327.out _; (with_reducible repeat (first | refine blk_drewN ?_ _ | refine blk_drew ?_ | refine blk_alloc ?_ _)); refine blk_far ?_ NB320_327.out _; (with_reducible repeat (first | refine blk_drewN ?_ _ | refine blk_drew ?_ | refine blk_alloc ?_ _)); exact BK320.out) hb); have n1_ := Aside0.mk (blk_below (g := gb321) (o := .cells #[.string a1_0, .int .i64 a1_1, .string a1_2] 35 (0, 0)) (by (with_reducible repeat (first | refine blk_drewN ?_ _ | refine blk_drew ?_ | refine blk_alloc ?_ _)); refine blk_far ?_ NB321_327.out _; (with_reducible repeat (first | refine blk_drewN ?_ _ | refine blk_drew ?_ | refine blk_alloc ?_ _)); refine blk_far ?_ NB321_327.out _; (with_reducible repeat (first | refine blk_drewN ?_ _ | refine blk_drew ?_ | refine blk_alloc ?_ _)); refine blk_far ?_ NB321_327.out _; (with_reducible repeat (first | refine blk_drewN ?_ _ | refine blk_drew ?_ | refine blk_alloc ?_ _)); exact BK321.out) hb); have n2_ := Aside0.mk (blk_below (g := gb327) (o := .cells #[.string t323, .int .i64 t324, .string t325] 35 (0, 0)) (by (with_reducible repeat (first | refine blk_drewN ?_ _ | refine blk_drew ?_ | refine blk_alloc ?_ _)); refine blk_put (cs := #[.string t323, .int .i64 t324, .string (⟨#[]⟩ : ByteArray)]) ?_ 2 _ rfl; (with_reducible repeat (first | refine blk_drewN ?_ _ | refine blk_drew ?_ | refine blk_alloc ?_ _)); refine blk_put (cs := #[.string t323, .int .i64 0, .string (⟨#[]⟩ : ByteArray)]) ?_ 1 _ rfl; (with_reducible repeat (first | refine blk_drewN ?_ _ | refine blk_drew ?_ | refine blk_alloc ?_ _)); refine blk_put (cs := #[.string (⟨#[]⟩ : ByteArray), .int .i64 0, .string (⟨#[]⟩ : ByteArray)]) ?_ 0 _ rfl; (with_reducible repeat (first | refine blk_drewN ?_ _ | refine blk_drew ?_ | refine blk_alloc ?_ _)); exact BK327.out) hb); have n3_ := Aside0.mk (below_step (by repeat (first | (with_reducible first | exact HB.out | apply below_alloc | apply pw_below_drewN | apply below_drew1 | refine below_set ?_ GE320.out | refine below_set ?_ GE321.out | refine below_set ?_ GE327.out) | exact HB.out)) hb); clear BK320; clear BK321; clear BK327; clear HB; have BK320 := n0_; have BK321 := n1_; have BK327 := n2_; have HB := n3_; clear n0_ n1_ n2_ n3_; (try clear hb); (try clear hb2); (try clear hk); (try clear hi); have hnb33 := NB321_327.out; have hnc33 := NB327_321.out; have hcz34_0 : w32.cell? ⟨gb321, 0, none⟩ = some (.string a1_0) := (blk_cell BK321.out 0).trans rfl; have hcz34_1 : w32.cell? ⟨gb321, 1, none⟩ = some (.int .i64 a1_1) := (blk_cell BK321.out 1).trans rfl; have hcz34_2 : w32.cell? ⟨gb321, 2, none⟩ = some (.string a1_2) := (blk_cell BK321.out 2).trans rfl; have hfz34_0 := blk_frozen BK321.out 0; have hfz34_1 := blk_frozen BK321.out 1; have hfz34_2 := blk_frozen BK321.out 2) | (go_at_call 22; (with_reducible refine (uri_May.calls a1_0 a1_1 a1_2 t329 _ (Glob.below HGl.out (by repeat (first | (with_reducible first | exact HB.out | apply below_alloc | apply pw_below_drewN | apply below_drew1 | refine below_set ?_ GE320.out | refine below_set ?_ GE321.out | refine below_set ?_ GE327.out) | exact HB.out))) A19.out).mono ?_); rintro e w35 ⟨rfl, hb⟩; have n0_ := Aside0.mk (blk_below (g := gb320) (o := .cells #[.string a0_0, .int .i64 a0_1, .string a0_2] 35 (0, 0)) (by (with_reducible repeat (first | refine blk_drewN ?_ _ | refine blk_drew ?_ | refine blk_alloc ?_ _)); exact BK320.out) hb); have n1_ := Aside0.mk (blk_below (g := gb321) (o := .cells #[.string a1_0, .int .i64 a1_1, .string a1_2] 35 (0, 0)) (by (with_reducible repeat (first | refine blk_drewN ?_ _ | refine blk_drew ?_ | refine blk_alloc ?_ _)); exact BK321.out) hb); have n2_ := Aside0.mk (blk_below (g := gb327) (o := .cells #[.string t323, .int .i64 t324, .string t325] 35 (0, 0)) (by (with_reducible repeat (first | refine blk_drewN ?_ _ | refine blk_drew ?_ | refine blk_alloc ?_ _)); exact BK327.out) hb); have n3_ := Aside0.mk (below_step (by repeat (first | (with_reducible first | exact HB.out | apply below_alloc | apply pw_below_drewN | apply below_drew1 | refine below_set ?_ GE320.out | refine below_set ?_ GE321.out | refine below_set ?_ GE327.out) | exact HB.out)) hb); clear BK320; clear BK321; clear BK327; clear HB; have BK320 := n0_; have BK321 := n1_; have BK327 := n2_; have HB := n3_; clear n0_ n1_ n2_ n3_; (try clear hb); (try clear hb2); (try clear hk); (try clear hi); have hcz36_0 : w35.cell? ⟨gb327, 0, none⟩ = some (.string t323) := (blk_cell BK327.out 0).trans rfl; have hcz36_1 : w35.cell? ⟨gb327, 1, none⟩ = some (.int .i64 t324) := (blk_cell BK327.out 1).trans rfl; have hcz36_2 : w35.cell? ⟨gb327, 2, none⟩ = some (.string t325) := (blk_cell BK327.out 2).trans rfl; have hfz36_0 := blk_frozen BK327.out 0; have hfz36_1 := blk_frozen BK327.out 1; have hfz36_2 := blk_frozen BK327.out 2; have hcz37_0 : w35.cell? ⟨gb321, 0, none⟩ = some (.string a1_0) := (blk_cell BK321.out 0).trans rfl; have hcz37_1 : w35.cell? ⟨gb321, 1, none⟩ = some (.int .i64 a1_1) := (blk_cell BK321.out 1).trans rfl; have hcz37_2 : w35.cell? ⟨gb321, 2, none⟩ = some (.string a1_2) := (blk_cell BK321.out 2).trans rfl; have hfz37_0 := blk_frozen BK321.out 0; have hfz37_1 := blk_frozen BK321.out 1; have hfz37_2 := blk_frozen BK321.out 2))
     go_meet
     case rel => exact ⟨_, ((!(t323.toList == a1_0.toList) || (!(t324 == a1_1) || (!(t325.toList == a1_2.toList))))), (by first | rfl | (simp; done) | (simp [*]; done)), H', ⟨by first | omega | exact Nat.le_refl _⟩, ⟨by (with_reducible repeat (first | refine blk_drewN ?_ _ | refine blk_drew ?_ | refine blk_alloc ?_ _)); exact BK320.out⟩, ⟨by (with_reducible repeat (first | refine blk_drewN ?_ _ | refine blk_drew ?_ | refine blk_alloc ?_ _)); exact BK321.out⟩, ⟨by (with_reducible repeat (first | refine blk_drewN ?_ _ | refine blk_drew ?_ | refine blk_alloc ?_ _)); exact BK327.out⟩, ⟨by repeat (first | (with_reducible first | exact HB.out | apply below_alloc | apply pw_below_drewN | apply below_drew1 | refine below_set ?_ GE320.out | refine below_set ?_ GE321.out | refine below_set ?_ GE327.out) | exact HB.out)⟩⟩
    ·
     rw [if_neg c28] at H
     have c28b0 : (t326 == 0) = false := beq_eq_false_iff_ne.mpr c28
     have hx2_ : t329 = false := by have h_ := c20b0; rw [c28b0] at h_; simpa using h_
     have c28b1 : (t326 != 0) = true := bne_iff_ne.mpr c28
     have H' := Aside0.mk H
     clear H
     have hnb38 := NB320_321.out
     have hnc38 := NB321_320.out
     have hnb39 := NB320_327.out
     have hnc39 := NB327_320.out
     have hcz40_0 : w13.cell? ⟨gb320, 0, none⟩ = some (.string a0_0) := (blk_cell BK320.out 0).trans rfl
     have hcz40_1 : w13.cell? ⟨gb320, 1, none⟩ = some (.int .i64 a0_1) := (blk_cell BK320.out 1).trans rfl
     have hcz40_2 : w13.cell? ⟨gb320, 2, none⟩ = some (.string a0_2) := (blk_cell BK320.out 2).trans rfl
     have hfz40_0 := blk_frozen BK320.out 0
     have hfz40_1 := blk_frozen BK320.out 1
     have hfz40_2 := blk_frozen BK320.out 2
     go_wp2_with (first | ((with_reducible refine gate_callee (f := 22) rfl ?_); refine goesL_ (some 24) rfl rfl Tryd.func22 (by kernel_rfl) rfl #[.agg #[.string a0_0, .int .i64 a0_1, .string a0_2]] rfl (by (try simp only [List.map_toArray, List.map_cons, List.map_nil]); first | done | rfl | (simp only [List.length_drop, List.length_take]; rfl)) ?_; (with_reducible refine (uri_May.calls a0_0 a0_1 a0_2 true _ (Glob.below HGl.out (by repeat (first | (with_reducible first | exact HB.out | apply below_alloc | apply pw_below_drewN | apply below_drew1 | refine below_set ?_ GE320.out | refine below_set ?_ GE321.out | refine below_set ?_ GE327.out) | exact HB.out))) A17.out).mono ?_); rintro e w41 ⟨rfl, hb⟩; refine ⟨_, rfl, ?_⟩; have n0_ := Aside0.mk (blk_below (g := gb320) (o := .cells #[.string a0_0, .int .i64 a0_1, .string a0_2] 35 (0, 0)) (by (with_reducible repeat (first | refine blk_drewN ?_ _ | refine blk_drew ?_ | refine blk_alloc ?_ _)); refine blk_far ?_ NB320_327.out _; (with_reducible repeat (first | refine blk_drewN ?_ _ | refine blk_drew ?_ | refine blk_alloc ?_ _)); refine blk_far ?_ NB320_327.out _; (with_reducible repeat (first | refine blk_drewN ?_ _ | refine blk_drew ?_ | refine blk_alloc ?_ _)); refine blk_far ?_ NB320_327.out _; (with_reducible repeat (first | refine blk_drewN ?_ _ | refine blk_drew ?_ | refine blk_alloc ?_ _)); exact BK320.out) hb); have n1_ := Aside0.mk (blk_below (g := gb321) (o := .cells #[.string a1_0, .int .i64 a1_1, .string a1_2] 35 (0, 0)) (by (with_reducible repeat (first | refine blk_drewN ?_ _ | refine blk_drew ?_ | refine blk_alloc ?_ _)); refine blk_far ?_ NB321_327.out _; (with_reducible repeat (first | refine blk_drewN ?_ _ | refine blk_drew ?_ | refine blk_alloc ?_ _)); refine blk_far ?_ NB321_327.out _; (with_reducible repeat (first | refine blk_drewN ?_ _ | refine blk_drew ?_ | refine blk_alloc ?_ _)); refine blk_far ?_ NB321_327.out _; (with_reducible repeat (first | refine blk_drewN ?_ _ | refine blk_drew ?_ | refine blk_alloc ?_ _)); exact BK321.out) hb); have n2_ := Aside0.mk (blk_below (g := gb327) (o := .cells #[.string t323, .int .i64 t324, .string t325] 35 (0, 0)) (by (with_reducible repeat (first | refine blk_drewN ?_ _ | refine blk_drew ?_ | refine blk_alloc ?_ _)); refine blk_put (cs := #[.string t323, .int .i64 t324, .string (⟨#[]⟩ : ByteArray)]) ?_ 2 _ rfl; (with_reducible repeat (first | refine blk_drewN ?_ _ | refine blk_drew ?_ | refine blk_alloc ?_ _)); refine blk_put (cs := #[.string t323, .int .i64 0, .string (⟨#[]⟩ : ByteArray)]) ?_ 1 _ rfl; (with_reducible repeat (first | refine blk_drewN ?_ _ | refine blk_drew ?_ | refine blk_alloc ?_ _)); refine blk_put (cs := #[.string (⟨#[]⟩ : ByteArray), .int .i64 0, .string (⟨#[]⟩ : ByteArray)]) ?_ 0 _ rfl; (with_reducible repeat (first | refine blk_drewN ?_ _ | refine blk_drew ?_ | refine blk_alloc ?_ _)); exact BK327.out) hb); have n3_ := Aside0.mk (below_step (by repeat (first | (with_reducible first | exact HB.out | apply below_alloc | apply pw_below_drewN | apply below_drew1 | refine below_set ?_ GE320.out | refine below_set ?_ GE321.out | refine below_set ?_ GE327.out) | exact HB.out)) hb); clear BK320; clear BK321; clear BK327; clear HB; have BK320 := n0_; have BK321 := n1_; have BK327 := n2_; have HB := n3_; clear n0_ n1_ n2_ n3_; (try clear hb); (try clear hb2); (try clear hk); (try clear hi); have hnb42 := NB321_327.out; have hnc42 := NB327_321.out; have hcz43_0 : w41.cell? ⟨gb321, 0, none⟩ = some (.string a1_0) := (blk_cell BK321.out 0).trans rfl; have hcz43_1 : w41.cell? ⟨gb321, 1, none⟩ = some (.int .i64 a1_1) := (blk_cell BK321.out 1).trans rfl; have hcz43_2 : w41.cell? ⟨gb321, 2, none⟩ = some (.string a1_2) := (blk_cell BK321.out 2).trans rfl; have hfz43_0 := blk_frozen BK321.out 0; have hfz43_1 := blk_frozen BK321.out 1; have hfz43_2 := blk_frozen BK321.out 2) | (go_at_call 22; (with_reducible refine (uri_May.calls a1_0 a1_1 a1_2 t329 _ (Glob.below HGl.out (by repeat (first | (with_reducible first | exact HB.out | apply below_alloc | apply pw_below_drewN | apply below_drew1 | refine below_set ?_ GE320.out | refine below_set ?_ GE321.out | refine below_set ?_ GE327.out) | exact HB.out))) A19.out).mono ?_); rintro e w44 ⟨rfl, hb⟩; have n0_ := Aside0.mk (blk_below (g := gb320) (o := .cells #[.string a0_0, .int .i64 a0_1, .string a0_2] 35 (0, 0)) (by (with_reducible repeat (first | refine blk_drewN ?_ _ | refine blk_drew ?_ | refine blk_alloc ?_ _)); exact BK320.out) hb); have n1_ := Aside0.mk (blk_below (g := gb321) (o := .cells #[.string a1_0, .int .i64 a1_1, .string a1_2] 35 (0, 0)) (by (with_reducible repeat (first | refine blk_drewN ?_ _ | refine blk_drew ?_ | refine blk_alloc ?_ _)); exact BK321.out) hb); have n2_ := Aside0.mk (blk_below (g := gb327) (o := .cells #[.string t323, .int .i64 t324, .string t325] 35 (0, 0)) (by (with_reducible repeat (first | refine blk_drewN ?_ _ | refine blk_drew ?_ | refine blk_alloc ?_ _)); exact BK327.out) hb); have n3_ := Aside0.mk (below_step (by repeat (first | (with_reducible first | exact HB.out | apply below_alloc | apply pw_below_drewN | apply below_drew1 | refine below_set ?_ GE320.out | refine below_set ?_ GE321.out | refine below_set ?_ GE327.out) | exact HB.out)) hb); clear BK320; clear BK321; clear BK327; clear HB; have BK320 := n0_; have BK321 := n1_; have BK327 := n2_; have HB := n3_; clear n0_ n1_ n2_ n3_; (try clear hb); (try clear hb2); (try clear hk); (try clear hi)))
     go_meet
     case rel => exact ⟨_, (false), (by first | rfl | (simp; done) | (simp [*]; done)), H', ⟨by first | omega | exact Nat.le_refl _⟩, ⟨by (with_reducible repeat (first | refine blk_drewN ?_ _ | refine blk_drew ?_ | refine blk_alloc ?_ _)); exact BK320.out⟩, ⟨by (with_reducible repeat (first | refine blk_drewN ?_ _ | refine blk_drew ?_ | refine blk_alloc ?_ _)); exact BK321.out⟩, ⟨by (with_reducible repeat (first | refine blk_drewN ?_ _ | refine blk_drew ?_ | refine blk_alloc ?_ _)); exact BK327.out⟩, ⟨by repeat (first | (with_reducible first | exact HB.out | apply below_alloc | apply pw_below_drewN | apply below_drew1 | refine below_set ?_ GE320.out | refine below_set ?_ GE321.out | refine below_set ?_ GE327.out) | exact HB.out)⟩⟩
  ·
   replace c18 := Bool.eq_false_iff.mpr c18
   subst c18
   have H1 : (if ((t326 == 0) != false) = true then (tollhouselaw10_UriJoins.j0 k a2 true a0_0 a0_1 a0_2 a1_0 a1_1 a1_2) else (if t326 = 0 then (tollhouselaw10_UriJoins.j0 k a2 (!(t323.toList == a1_0.toList) || (!(t324 == a1_1) || (!(t325.toList == a1_2.toList)))) a0_0 a0_1 a0_2 a1_0 a1_1 a1_2) else (tollhouselaw10_UriJoins.j0 k a2 false a0_0 a0_1 a0_2 a1_0 a1_1 a1_2))) = some r := by rw [if_neg (show ¬ (false = true) by decide)] at H; exact H
   clear H
   have H := H1
   clear H1
   by_cases c45 : ((t326 == 0) != false) = true
   ·
    rw [if_pos c45] at H
    have c45b0 : ((t326 == 0) != false) = true := c45
    (try (have c45b1 : decide ((t326 == 0) = false) = false := by simpa using c45))
    (try (have c45b2 : ((t326 == 0) == false) = false := by simpa using c45))
    (try (have c45b3 : ¬ ((t326 == 0) = false) := by simpa using c45))
    clear c45
    have H' := Aside0.mk H
    clear H
    have hnb46 := NB320_321.out
    have hnc46 := NB321_320.out
    have hnb47 := NB320_327.out
    have hnc47 := NB327_320.out
    have hcz48_0 : w13.cell? ⟨gb320, 0, none⟩ = some (.string a0_0) := (blk_cell BK320.out 0).trans rfl
    have hcz48_1 : w13.cell? ⟨gb320, 1, none⟩ = some (.int .i64 a0_1) := (blk_cell BK320.out 1).trans rfl
    have hcz48_2 : w13.cell? ⟨gb320, 2, none⟩ = some (.string a0_2) := (blk_cell BK320.out 2).trans rfl
    have hfz48_0 := blk_frozen BK320.out 0
    have hfz48_1 := blk_frozen BK320.out 1
    have hfz48_2 := blk_frozen BK320.out 2
    go_wp2_with (first | ((with_reducible refine gate_callee (f := 22) rfl ?_); refine goesL_ (some 24) rfl rfl Tryd.func22 (by kernel_rfl) rfl #[.agg #[.string a0_0, .int .i64 a0_1, .string a0_2]] rfl (by (try simp only [List.map_toArray, List.map_cons, List.map_nil]); first | done | rfl | (simp only [List.length_drop, List.length_take]; rfl)) ?_; (with_reducible refine (uri_May.calls a0_0 a0_1 a0_2 false _ (Glob.below HGl.out (by repeat (first | (with_reducible first | exact HB.out | apply below_alloc | apply pw_below_drewN | apply below_drew1 | refine below_set ?_ GE320.out | refine below_set ?_ GE321.out | refine below_set ?_ GE327.out) | exact HB.out))) A17.out).mono ?_); rintro e w49 ⟨rfl, hb⟩; refine ⟨_, rfl, ?_⟩; have n0_ := Aside0.mk (blk_below (g := gb320) (o := .cells #[.string a0_0, .int .i64 a0_1, .string a0_2] 35 (0, 0)) (by (with_reducible repeat (first | refine blk_drewN ?_ _ | refine blk_drew ?_ | refine blk_alloc ?_ _)); refine blk_far ?_ NB320_327.out _; (with_reducible repeat (first | refine blk_drewN ?_ _ | refine blk_drew ?_ | refine blk_alloc ?_ _)); refine blk_far ?_ NB320_327.out _; (with_reducible repeat (first | refine blk_drewN ?_ _ | refine blk_drew ?_ | refine blk_alloc ?_ _)); refine blk_far ?_ NB320_327.out _; (with_reducible repeat (first | refine blk_drewN ?_ _ | refine blk_drew ?_ | refine blk_alloc ?_ _)); exact BK320.out) hb); have n1_ := Aside0.mk (blk_below (g := gb321) (o := .cells #[.string a1_0, .int .i64 a1_1, .string a1_2] 35 (0, 0)) (by (with_reducible repeat (first | refine blk_drewN ?_ _ | refine blk_drew ?_ | refine blk_alloc ?_ _)); refine blk_far ?_ NB321_327.out _; (with_reducible repeat (first | refine blk_drewN ?_ _ | refine blk_drew ?_ | refine blk_alloc ?_ _)); refine blk_far ?_ NB321_327.out _; (with_reducible repeat (first | refine blk_drewN ?_ _ | refine blk_drew ?_ | refine blk_alloc ?_ _)); refine blk_far ?_ NB321_327.out _; (with_reducible repeat (first | refine blk_drewN ?_ _ | refine blk_drew ?_ | refine blk_alloc ?_ _)); exact BK321.out) hb); have n2_ := Aside0.mk (blk_below (g := gb327) (o := .cells #[.string t323, .int .i64 t324, .string t325] 35 (0, 0)) (by (with_reducible repeat (first | refine blk_drewN ?_ _ | refine blk_drew ?_ | refine blk_alloc ?_ _)); refine blk_put (cs := #[.string t323, .int .i64 t324, .string (⟨#[]⟩ : ByteArray)]) ?_ 2 _ rfl; (with_reducible repeat (first | refine blk_drewN ?_ _ | refine blk_drew ?_ | refine blk_alloc ?_ _)); refine blk_put (cs := #[.string t323, .int .i64 0, .string (⟨#[]⟩ : ByteArray)]) ?_ 1 _ rfl; (with_reducible repeat (first | refine blk_drewN ?_ _ | refine blk_drew ?_ | refine blk_alloc ?_ _)); refine blk_put (cs := #[.string (⟨#[]⟩ : ByteArray), .int .i64 0, .string (⟨#[]⟩ : ByteArray)]) ?_ 0 _ rfl; (with_reducible repeat (first | refine blk_drewN ?_ _ | refine blk_drew ?_ | refine blk_alloc ?_ _)); exact BK327.out) hb); have n3_ := Aside0.mk (below_step (by repeat (first | (with_reducible first | exact HB.out | apply below_alloc | apply pw_below_drewN | apply below_drew1 | refine below_set ?_ GE320.out | refine below_set ?_ GE321.out | refine below_set ?_ GE327.out) | exact HB.out)) hb); clear BK320; clear BK321; clear BK327; clear HB; have BK320 := n0_; have BK321 := n1_; have BK327 := n2_; have HB := n3_; clear n0_ n1_ n2_ n3_; (try clear hb); (try clear hb2); (try clear hk); (try clear hi)))
    go_meet
    case rel => exact ⟨_, (true), (by first | rfl | (simp; done) | (simp [*]; done)), H', ⟨by first | omega | exact Nat.le_refl _⟩, ⟨by (with_reducible repeat (first | refine blk_drewN ?_ _ | refine blk_drew ?_ | refine blk_alloc ?_ _)); exact BK320.out⟩, ⟨by (with_reducible repeat (first | refine blk_drewN ?_ _ | refine blk_drew ?_ | refine blk_alloc ?_ _)); exact BK321.out⟩, ⟨by (with_reducible repeat (first | refine blk_drewN ?_ _ | refine blk_drew ?_ | refine blk_alloc ?_ _)); exact BK327.out⟩, ⟨by repeat (first | (with_reducible first | exact HB.out | apply below_alloc | apply pw_below_drewN | apply below_drew1 | refine below_set ?_ GE320.out | refine below_set ?_ GE321.out | refine below_set ?_ GE327.out) | exact HB.out)⟩⟩
   ·
    rw [if_neg c45] at H
    have c45b0 : ((t326 == 0) != false) = false := by simpa using c45
    (try (have c45b1 : decide ((t326 == 0) = false) = true := by simpa using c45))
    (try (have c45b2 : ((t326 == 0) == false) = true := by simpa using c45))
    clear c45
    by_cases c50 : t326 = 0
    ·
     rw [if_pos c50] at H
     have c50b0 : (t326 == 0) = true := beq_iff_eq.mpr c50
     exact absurd c45b0 (by rw [c50b0]; decide)
    ·
     rw [if_neg c50] at H
     have c50b0 : (t326 == 0) = false := beq_eq_false_iff_ne.mpr c50
     have c50b1 : (t326 != 0) = true := bne_iff_ne.mpr c50
     have H' := Aside0.mk H
     clear H
     have hnb58 := NB320_321.out
     have hnc58 := NB321_320.out
     have hnb59 := NB320_327.out
     have hnc59 := NB327_320.out
     have hcz60_0 : w13.cell? ⟨gb320, 0, none⟩ = some (.string a0_0) := (blk_cell BK320.out 0).trans rfl
     have hcz60_1 : w13.cell? ⟨gb320, 1, none⟩ = some (.int .i64 a0_1) := (blk_cell BK320.out 1).trans rfl
     have hcz60_2 : w13.cell? ⟨gb320, 2, none⟩ = some (.string a0_2) := (blk_cell BK320.out 2).trans rfl
     have hfz60_0 := blk_frozen BK320.out 0
     have hfz60_1 := blk_frozen BK320.out 1
     have hfz60_2 := blk_frozen BK320.out 2
     go_wp2_with (first | ((with_reducible refine gate_callee (f := 22) rfl ?_); refine goesL_ (some 24) rfl rfl Tryd.func22 (by kernel_rfl) rfl #[.agg #[.string a0_0, .int .i64 a0_1, .string a0_2]] rfl (by (try simp only [List.map_toArray, List.map_cons, List.map_nil]); first | done | rfl | (simp only [List.length_drop, List.length_take]; rfl)) ?_; (with_reducible refine (uri_May.calls a0_0 a0_1 a0_2 false _ (Glob.below HGl.out (by repeat (first | (with_reducible first | exact HB.out | apply below_alloc | apply pw_below_drewN | apply below_drew1 | refine below_set ?_ GE320.out | refine below_set ?_ GE321.out | refine below_set ?_ GE327.out) | exact HB.out))) A17.out).mono ?_); rintro e w61 ⟨rfl, hb⟩; refine ⟨_, rfl, ?_⟩; have n0_ := Aside0.mk (blk_below (g := gb320) (o := .cells #[.string a0_0, .int .i64 a0_1, .string a0_2] 35 (0, 0)) (by (with_reducible repeat (first | refine blk_drewN ?_ _ | refine blk_drew ?_ | refine blk_alloc ?_ _)); refine blk_far ?_ NB320_327.out _; (with_reducible repeat (first | refine blk_drewN ?_ _ | refine blk_drew ?_ | refine blk_alloc ?_ _)); refine blk_far ?_ NB320_327.out _; (with_reducible repeat (first | refine blk_drewN ?_ _ | refine blk_drew ?_ | refine blk_alloc ?_ _)); refine blk_far ?_ NB320_327.out _; (with_reducible repeat (first | refine blk_drewN ?_ _ | refine blk_drew ?_ | refine blk_alloc ?_ _)); exact BK320.out) hb); have n1_ := Aside0.mk (blk_below (g := gb321) (o := .cells #[.string a1_0, .int .i64 a1_1, .string a1_2] 35 (0, 0)) (by (with_reducible repeat (first | refine blk_drewN ?_ _ | refine blk_drew ?_ | refine blk_alloc ?_ _)); refine blk_far ?_ NB321_327.out _; (with_reducible repeat (first | refine blk_drewN ?_ _ | refine blk_drew ?_ | refine blk_alloc ?_ _)); refine blk_far ?_ NB321_327.out _; (with_reducible repeat (first | refine blk_drewN ?_ _ | refine blk_drew ?_ | refine blk_alloc ?_ _)); refine blk_far ?_ NB321_327.out _; (with_reducible repeat (first | refine blk_drewN ?_ _ | refine blk_drew ?_ | refine blk_alloc ?_ _)); exact BK321.out) hb); have n2_ := Aside0.mk (blk_below (g := gb327) (o := .cells #[.string t323, .int .i64 t324, .string t325] 35 (0, 0)) (by (with_reducible repeat (first | refine blk_drewN ?_ _ | refine blk_drew ?_ | refine blk_alloc ?_ _)); refine blk_put (cs := #[.string t323, .int .i64 t324, .string (⟨#[]⟩ : ByteArray)]) ?_ 2 _ rfl; (with_reducible repeat (first | refine blk_drewN ?_ _ | refine blk_drew ?_ | refine blk_alloc ?_ _)); refine blk_put (cs := #[.string t323, .int .i64 0, .string (⟨#[]⟩ : ByteArray)]) ?_ 1 _ rfl; (with_reducible repeat (first | refine blk_drewN ?_ _ | refine blk_drew ?_ | refine blk_alloc ?_ _)); refine blk_put (cs := #[.string (⟨#[]⟩ : ByteArray), .int .i64 0, .string (⟨#[]⟩ : ByteArray)]) ?_ 0 _ rfl; (with_reducible repeat (first | refine blk_drewN ?_ _ | refine blk_drew ?_ | refine blk_alloc ?_ _)); exact BK327.out) hb); have n3_ := Aside0.mk (below_step (by repeat (first | (with_reducible first | exact HB.out | apply below_alloc | apply pw_below_drewN | apply below_drew1 | refine below_set ?_ GE320.out | refine below_set ?_ GE321.out | refine below_set ?_ GE327.out) | exact HB.out)) hb); clear BK320; clear BK321; clear BK327; clear HB; have BK320 := n0_; have BK321 := n1_; have BK327 := n2_; have HB := n3_; clear n0_ n1_ n2_ n3_; (try clear hb); (try clear hb2); (try clear hk); (try clear hi)))
     go_meet
     case rel => exact ⟨_, (false), (by first | rfl | (simp; done) | (simp [*]; done)), H', ⟨by first | omega | exact Nat.le_refl _⟩, ⟨by (with_reducible repeat (first | refine blk_drewN ?_ _ | refine blk_drew ?_ | refine blk_alloc ?_ _)); exact BK320.out⟩, ⟨by (with_reducible repeat (first | refine blk_drewN ?_ _ | refine blk_drew ?_ | refine blk_alloc ?_ _)); exact BK321.out⟩, ⟨by (with_reducible repeat (first | refine blk_drewN ?_ _ | refine blk_drew ?_ | refine blk_alloc ?_ _)); exact BK327.out⟩, ⟨by repeat (first | (with_reducible first | exact HB.out | apply below_alloc | apply pw_below_drewN | apply below_drew1 | refine below_set ?_ GE320.out | refine below_set ?_ GE321.out | refine below_set ?_ GE327.out) | exact HB.out)⟩⟩
 case rest =>
  clear HC6
  try clear c1
  try clear c2
  try clear p2
  try clear c3
  try clear c4
  try clear c5
  try clear c9
  try clear c18
  try clear c20
  try clear c20b0
  try clear c20b1
  try clear c20b2
  try clear c21
  try clear c22
  try clear c25
  try clear c28
  try clear c28b0
  try clear c28b1
  try clear c29
  try clear c30
  try clear c33
  try clear c38
  try clear c39
  try clear c42
  try clear c45
  try clear c45b0
  try clear c45b1
  try clear c45b2
  try clear c46
  try clear c47
  try clear c50
  try clear c50b0
  try clear c50b1
  try clear c51
  try clear c52
  try clear c55
  try clear c58
  try clear c59
  try clear hcz23_0
  try clear hcz23_1
  try clear hcz23_2
  try clear hcz26_0
  try clear hcz26_1
  try clear hcz26_2
  try clear hcz31_0
  try clear hcz31_1
  try clear hcz31_2
  try clear hcz34_0
  try clear hcz34_1
  try clear hcz34_2
  try clear hcz36_0
  try clear hcz36_1
  try clear hcz36_2
  try clear hcz37_0
  try clear hcz37_1
  try clear hcz37_2
  try clear hcz40_0
  try clear hcz40_1
  try clear hcz40_2
  try clear hcz43_0
  try clear hcz43_1
  try clear hcz43_2
  try clear hcz48_0
  try clear hcz48_1
  try clear hcz48_2
  try clear hcz53_0
  try clear hcz53_1
  try clear hcz53_2
  try clear hcz56_0
  try clear hcz56_1
  try clear hcz56_2
  try clear hcz57_0
  try clear hcz57_1
  try clear hcz57_2
  try clear hcz60_0
  try clear hcz60_1
  try clear hcz60_2
  try clear hfz23_0
  try clear hfz23_1
  try clear hfz23_2
  try clear hfz26_0
  try clear hfz26_1
  try clear hfz26_2
  try clear hfz31_0
  try clear hfz31_1
  try clear hfz31_2
  try clear hfz34_0
  try clear hfz34_1
  try clear hfz34_2
  try clear hfz36_0
  try clear hfz36_1
  try clear hfz36_2
  try clear hfz37_0
  try clear hfz37_1
  try clear hfz37_2
  try clear hfz40_0
  try clear hfz40_1
  try clear hfz40_2
  try clear hfz43_0
  try clear hfz43_1
  try clear hfz43_2
  try clear hfz48_0
  try clear hfz48_1
  try clear hfz48_2
  try clear hfz53_0
  try clear hfz53_1
  try clear hfz53_2
  try clear hfz56_0
  try clear hfz56_1
  try clear hfz56_2
  try clear hfz57_0
  try clear hfz57_1
  try clear hfz57_2
  try clear hfz60_0
  try clear hfz60_1
  try clear hfz60_2
  obtain ⟨kq, x38_5, rfl, HA, HJ5, BK320, BK321, BK327, HB⟩ := hcut
  cases kq with
  | zero => exact absurd HA.out (by simp [tollhouselaw10_UriJoins.j0])
  | succ kj5 =>
   have H := HA.out
   clear HA
   simp only [tollhouselaw10_UriJoins.j0] at H
   by_cases c62 : x38_5 = true
   ·
    subst c62
    have H1 : (some false) = some r := by rw [if_pos rfl] at H; exact H
    clear H
    have H := H1
    clear H1
    exact absurd ((Option.some.inj H).trans HR_.out) (by decide)
   ·
    replace c62 := Bool.eq_false_iff.mpr c62
    subst c62
    have H1 : ((uri_May.f a0_0 a0_1 a0_2).bind fun t330 => (if t330 = true then ((uri_May.f a1_0 a1_1 a1_2).bind fun t331 => (if t331 = true then (if (a1_2.size : Int) < 2 then (tollhouselaw10_UriJoins.j1 kj5 a2 true a0_0 a0_1 a0_2 a1_0 a1_1 a1_2) else (if 1 < (a1_2.size : Int) then (tollhouselaw10_UriJoins.j1 kj5 a2 ((bt a1_2 1) != 47) a0_0 a0_1 a0_2 a1_0 a1_1 a1_2) else (none))) else (tollhouselaw10_UriJoins.j1 kj5 a2 false a0_0 a0_1 a0_2 a1_0 a1_1 a1_2))) else (tollhouselaw10_UriJoins.j1 kj5 a2 false a0_0 a0_1 a0_2 a1_0 a1_1 a1_2))) = some r := by rw [if_neg (show ¬ (false = true) by decide)] at H; exact H
    clear H
    have H := H1
    clear H1
    have HC63 := Aside0.mk H
    clear H
    go_upto_region 4 with (fail)
    go_cut [56] (fun v56 wc => ∃ (kq : Nat) (x56_62 : Bool), v56 = .bool x56_62 ∧ Aside0 (tollhouselaw10_UriJoins.j1 kq a2 x56_62 a0_0 a0_1 a0_2 a1_0 a1_1 a1_2 = some r) ∧ Aside0 (kq ≤ kj5) ∧ Aside0 (wc.heap[gb320]? = some (.cells #[.string a0_0, .int .i64 a0_1, .string a0_2] 35 (0, 0))) ∧ Aside0 (wc.heap[gb321]? = some (.cells #[.string a1_0, .int .i64 a1_1, .string a1_2] 35 (0, 0))) ∧ Aside0 (wc.heap[gb327]? = some (.cells #[.string t323, .int .i64 t324, .string t325] 35 (0, 0))) ∧ Aside0 (Below w.heap.size w wc))
    case first =>
     have H := HC63.out
     clear HC63
     replace H := Option.bind_eq_some_iff.mp H
     obtain ⟨t330, A640, H⟩ := H
     replace H : (if t330 = true then ((uri_May.f a1_0 a1_1 a1_2).bind fun t331 => (if t331 = true then (if (a1_2.size : Int) < 2 then (tollhouselaw10_UriJoins.j1 kj5 a2 true a0_0 a0_1 a0_2 a1_0 a1_1 a1_2) else (if 1 < (a1_2.size : Int) then (tollhouselaw10_UriJoins.j1 kj5 a2 ((bt a1_2 1) != 47) a0_0 a0_1 a0_2 a1_0 a1_1 a1_2) else (none))) else (tollhouselaw10_UriJoins.j1 kj5 a2 false a0_0 a0_1 a0_2 a1_0 a1_1 a1_2))) else (tollhouselaw10_UriJoins.j1 kj5 a2 false a0_0 a0_1 a0_2 a1_0 a1_1 a1_2)) = some r := H
     have A64 := Aside0.mk A640
     clear A640
     by_cases c65 : t330 = true
     ·
      subst c65
      have H1 : ((uri_May.f a1_0 a1_1 a1_2).bind fun t331 => (if t331 = true then (if (a1_2.size : Int) < 2 then (tollhouselaw10_UriJoins.j1 kj5 a2 true a0_0 a0_1 a0_2 a1_0 a1_1 a1_2) else (if 1 < (a1_2.size : Int) then (tollhouselaw10_UriJoins.j1 kj5 a2 ((bt a1_2 1) != 47) a0_0 a0_1 a0_2 a1_0 a1_1 a1_2) else (none))) else (tollhouselaw10_UriJoins.j1 kj5 a2 false a0_0 a0_1 a0_2 a1_0 a1_1 a1_2))) = some r := by rw [if_pos rfl] at H; exact H
      clear H
      have H := H1
      clear H1
      replace H := Option.bind_eq_some_iff.mp H
      obtain ⟨t331, A660, H⟩ := H
      replace H : (if t331 = true then (if (a1_2.size : Int) < 2 then (tollhouselaw10_UriJoins.j1 kj5 a2 true a0_0 a0_1 a0_2 a1_0 a1_1 a1_2) else (if 1 < (a1_2.size : Int) then (tollhouselaw10_UriJoins.j1 kj5 a2 ((bt a1_2 1) != 47) a0_0 a0_1 a0_2 a1_0 a1_1 a1_2) else (none))) else (tollhouselaw10_UriJoins.j1 kj5 a2 false a0_0 a0_1 a0_2 a1_0 a1_1 a1_2)) = some r := H
      have A66 := Aside0.mk A660
      clear A660
      by_cases c67 : t331 = true
      ·
       subst c67
       have H1 : (if (a1_2.size : Int) < 2 then (tollhouselaw10_UriJoins.j1 kj5 a2 true a0_0 a0_1 a0_2 a1_0 a1_1 a1_2) else (if 1 < (a1_2.size : Int) then (tollhouselaw10_UriJoins.j1 kj5 a2 ((bt a1_2 1) != 47) a0_0 a0_1 a0_2 a1_0 a1_1 a1_2) else (none))) = some r := by rw [if_pos rfl] at H; exact H
       clear H
       have H := H1
       clear H1
       by_cases c68 : (a1_2.size : Int) < 2
       ·
        rw [if_pos c68] at H
        have c68b0 : decide ((a1_2.size : Int) < 2) = true := decide_eq_true c68
        have c68b1 : decide (a1_2.size < 2) = true := decide_eq_true (by omega)
        clear c68
        (first | rw [c68b0] | (simp only [i64_w, i32_w]; rw [c68b0]) | skip)
        have H' := Aside0.mk H
        clear H
        have hnb69 := NB320_321.out
        have hnc69 := NB321_320.out
        have hnb70 := NB320_327.out
        have hnc70 := NB327_320.out
        have hcz71_0 : wc.cell? ⟨gb320, 0, none⟩ = some (.string a0_0) := (blk_cell BK320.out 0).trans rfl
        have hcz71_1 : wc.cell? ⟨gb320, 1, none⟩ = some (.int .i64 a0_1) := (blk_cell BK320.out 1).trans rfl
        have hcz71_2 : wc.cell? ⟨gb320, 2, none⟩ = some (.string a0_2) := (blk_cell BK320.out 2).trans rfl
        have hfz71_0 := blk_frozen BK320.out 0
        have hfz71_1 := blk_frozen BK320.out 1
        have hfz71_2 := blk_frozen BK320.out 2
        go_wp2_with (first | ((with_reducible refine gate_callee (f := 22) rfl ?_); refine goesL_ (some 40) rfl rfl Tryd.func22 (by kernel_rfl) rfl #[.agg #[.string a0_0, .int .i64 a0_1, .string a0_2]] rfl (by (try simp only [List.map_toArray, List.map_cons, List.map_nil]); first | done | rfl | (simp only [List.length_drop, List.length_take]; rfl)) ?_; (with_reducible refine (uri_May.calls a0_0 a0_1 a0_2 true _ (Glob.below HGl.out (by repeat (first | (with_reducible first | exact HB.out | apply below_alloc | apply pw_below_drewN | apply below_drew1 | refine below_set ?_ GE320.out | refine below_set ?_ GE321.out | refine below_set ?_ GE327.out) | exact HB.out))) A64.out).mono ?_); rintro e w72 ⟨rfl, hb⟩; refine ⟨_, rfl, ?_⟩; have n0_ := Aside0.mk (blk_below (g := gb320) (o := .cells #[.string a0_0, .int .i64 a0_1, .string a0_2] 35 (0, 0)) (by (with_reducible repeat (first | refine blk_drewN ?_ _ | refine blk_drew ?_ | refine blk_alloc ?_ _)); exact BK320.out) hb); have n1_ := Aside0.mk (blk_below (g := gb321) (o := .cells #[.string a1_0, .int .i64 a1_1, .string a1_2] 35 (0, 0)) (by (with_reducible repeat (first | refine blk_drewN ?_ _ | refine blk_drew ?_ | refine blk_alloc ?_ _)); exact BK321.out) hb); have n2_ := Aside0.mk (blk_below (g := gb327) (o := .cells #[.string t323, .int .i64 t324, .string t325] 35 (0, 0)) (by (with_reducible repeat (first | refine blk_drewN ?_ _ | refine blk_drew ?_ | refine blk_alloc ?_ _)); exact BK327.out) hb); have n3_ := Aside0.mk (below_step (by repeat (first | (with_reducible first | exact HB.out | apply below_alloc | apply pw_below_drewN | apply below_drew1 | refine below_set ?_ GE320.out | refine below_set ?_ GE321.out | refine below_set ?_ GE327.out) | exact HB.out)) hb); clear BK320; clear BK321; clear BK327; clear HB; have BK320 := n0_; have BK321 := n1_; have BK327 := n2_; have HB := n3_; clear n0_ n1_ n2_ n3_; (try clear hb); (try clear hb2); (try clear hk); (try clear hi); have hnb73 := NB321_327.out; have hnc73 := NB327_321.out; have hcz74_0 : w72.cell? ⟨gb321, 0, none⟩ = some (.string a1_0) := (blk_cell BK321.out 0).trans rfl; have hcz74_1 : w72.cell? ⟨gb321, 1, none⟩ = some (.int .i64 a1_1) := (blk_cell BK321.out 1).trans rfl; have hcz74_2 : w72.cell? ⟨gb321, 2, none⟩ = some (.string a1_2) := (blk_cell BK321.out 2).trans rfl; have hfz74_0 := blk_frozen BK321.out 0; have hfz74_1 := blk_frozen BK321.out 1; have hfz74_2 := blk_frozen BK321.out 2) | (go_at_call 22; (with_reducible refine (uri_May.calls a1_0 a1_1 a1_2 true _ (Glob.below HGl.out (by repeat (first | (with_reducible first | exact HB.out | apply below_alloc | apply pw_below_drewN | apply below_drew1 | refine below_set ?_ GE320.out | refine below_set ?_ GE321.out | refine below_set ?_ GE327.out) | exact HB.out))) A66.out).mono ?_); rintro e w75 ⟨rfl, hb⟩; have n0_ := Aside0.mk (blk_below (g := gb320) (o := .cells #[.string a0_0, .int .i64 a0_1, .string a0_2] 35 (0, 0)) (by (with_reducible repeat (first | refine blk_drewN ?_ _ | refine blk_drew ?_ | refine blk_alloc ?_ _)); exact BK320.out) hb); have n1_ := Aside0.mk (blk_below (g := gb321) (o := .cells #[.string a1_0, .int .i64 a1_1, .string a1_2] 35 (0, 0)) (by (with_reducible repeat (first | refine blk_drewN ?_ _ | refine blk_drew ?_ | refine blk_alloc ?_ _)); exact BK321.out) hb); have n2_ := Aside0.mk (blk_below (g := gb327) (o := .cells #[.string t323, .int .i64 t324, .string t325] 35 (0, 0)) (by (with_reducible repeat (first | refine blk_drewN ?_ _ | refine blk_drew ?_ | refine blk_alloc ?_ _)); exact BK327.out) hb); have n3_ := Aside0.mk (below_step (by repeat (first | (with_reducible first | exact HB.out | apply below_alloc | apply pw_below_drewN | apply below_drew1 | refine below_set ?_ GE320.out | refine below_set ?_ GE321.out | refine below_set ?_ GE327.out) | exact HB.out)) hb); clear BK320; clear BK321; clear BK327; clear HB; have BK320 := n0_; have BK321 := n1_; have BK327 := n2_; have HB := n3_; clear n0_ n1_ n2_ n3_; (try clear hb); (try clear hb2); (try clear hk); (try clear hi); have hcz76_0 : w75.cell? ⟨gb321, 0, none⟩ = some (.string a1_0) := (blk_cell BK321.out 0).trans rfl; have hcz76_1 : w75.cell? ⟨gb321, 1, none⟩ = some (.int .i64 a1_1) := (blk_cell BK321.out 1).trans rfl; have hcz76_2 : w75.cell? ⟨gb321, 2, none⟩ = some (.string a1_2) := (blk_cell BK321.out 2).trans rfl; have hfz76_0 := blk_frozen BK321.out 0; have hfz76_1 := blk_frozen BK321.out 1; have hfz76_2 := blk_frozen BK321.out 2))
        go_meet
        case rel => exact ⟨_, (true), (by first | rfl | (simp; done) | (simp [*]; done)), H', ⟨by have := HJ5.out; first | omega | exact Nat.le_refl _⟩, ⟨by (with_reducible repeat (first | refine blk_drewN ?_ _ | refine blk_drew ?_ | refine blk_alloc ?_ _)); exact BK320.out⟩, ⟨by (with_reducible repeat (first | refine blk_drewN ?_ _ | refine blk_drew ?_ | refine blk_alloc ?_ _)); exact BK321.out⟩, ⟨by (with_reducible repeat (first | refine blk_drewN ?_ _ | refine blk_drew ?_ | refine blk_alloc ?_ _)); exact BK327.out⟩, ⟨by repeat (first | (with_reducible first | exact HB.out | apply below_alloc | apply pw_below_drewN | apply below_drew1 | refine below_set ?_ GE320.out | refine below_set ?_ GE321.out | refine below_set ?_ GE327.out) | exact HB.out)⟩⟩
       ·
        rw [if_neg c68] at H
        have c68b0 : decide ((a1_2.size : Int) < 2) = false := decide_eq_false c68
        have c68b1 : decide (a1_2.size < 2) = false := decide_eq_false (by omega)
        clear c68
        (first | rw [c68b0] | (simp only [i64_w, i32_w]; rw [c68b0]) | skip)
        by_cases c77 : 1 < (a1_2.size : Int)
        ·
         rw [if_pos c77] at H
         have c77b0 : decide (1 < (a1_2.size : Int)) = true := decide_eq_true c77
         have c77b1 : decide (1 < a1_2.size) = true := decide_eq_true (by omega)
         clear c77
         have H' := Aside0.mk H
         clear H
         have hnb79 := NB320_321.out
         have hnc79 := NB321_320.out
         have hnb80 := NB320_327.out
         have hnc80 := NB327_320.out
         have hcz81_0 : wc.cell? ⟨gb320, 0, none⟩ = some (.string a0_0) := (blk_cell BK320.out 0).trans rfl
         have hcz81_1 : wc.cell? ⟨gb320, 1, none⟩ = some (.int .i64 a0_1) := (blk_cell BK320.out 1).trans rfl
         have hcz81_2 : wc.cell? ⟨gb320, 2, none⟩ = some (.string a0_2) := (blk_cell BK320.out 2).trans rfl
         have hfz81_0 := blk_frozen BK320.out 0
         have hfz81_1 := blk_frozen BK320.out 1
         have hfz81_2 := blk_frozen BK320.out 2
         go_wp2_with (first | ((with_reducible refine gate_callee (f := 22) rfl ?_); refine goesL_ (some 40) rfl rfl Tryd.func22 (by kernel_rfl) rfl #[.agg #[.string a0_0, .int .i64 a0_1, .string a0_2]] rfl (by (try simp only [List.map_toArray, List.map_cons, List.map_nil]); first | done | rfl | (simp only [List.length_drop, List.length_take]; rfl)) ?_; (with_reducible refine (uri_May.calls a0_0 a0_1 a0_2 true _ (Glob.below HGl.out (by repeat (first | (with_reducible first | exact HB.out | apply below_alloc | apply pw_below_drewN | apply below_drew1 | refine below_set ?_ GE320.out | refine below_set ?_ GE321.out | refine below_set ?_ GE327.out) | exact HB.out))) A64.out).mono ?_); rintro e w82 ⟨rfl, hb⟩; refine ⟨_, rfl, ?_⟩; have n0_ := Aside0.mk (blk_below (g := gb320) (o := .cells #[.string a0_0, .int .i64 a0_1, .string a0_2] 35 (0, 0)) (by (with_reducible repeat (first | refine blk_drewN ?_ _ | refine blk_drew ?_ | refine blk_alloc ?_ _)); exact BK320.out) hb); have n1_ := Aside0.mk (blk_below (g := gb321) (o := .cells #[.string a1_0, .int .i64 a1_1, .string a1_2] 35 (0, 0)) (by (with_reducible repeat (first | refine blk_drewN ?_ _ | refine blk_drew ?_ | refine blk_alloc ?_ _)); exact BK321.out) hb); have n2_ := Aside0.mk (blk_below (g := gb327) (o := .cells #[.string t323, .int .i64 t324, .string t325] 35 (0, 0)) (by (with_reducible repeat (first | refine blk_drewN ?_ _ | refine blk_drew ?_ | refine blk_alloc ?_ _)); exact BK327.out) hb); have n3_ := Aside0.mk (below_step (by repeat (first | (with_reducible first | exact HB.out | apply below_alloc | apply pw_below_drewN | apply below_drew1 | refine below_set ?_ GE320.out | refine below_set ?_ GE321.out | refine below_set ?_ GE327.out) | exact HB.out)) hb); clear BK320; clear BK321; clear BK327; clear HB; have BK320 := n0_; have BK321 := n1_; have BK327 := n2_; have HB := n3_; clear n0_ n1_ n2_ n3_; (try clear hb); (try clear hb2); (try clear hk); (try clear hi); have hnb83 := NB321_327.out; have hnc83 := NB327_321.out; have hcz84_0 : w82.cell? ⟨gb321, 0, none⟩ = some (.string a1_0) := (blk_cell BK321.out 0).trans rfl; have hcz84_1 : w82.cell? ⟨gb321, 1, none⟩ = some (.int .i64 a1_1) := (blk_cell BK321.out 1).trans rfl; have hcz84_2 : w82.cell? ⟨gb321, 2, none⟩ = some (.string a1_2) := (blk_cell BK321.out 2).trans rfl; have hfz84_0 := blk_frozen BK321.out 0; have hfz84_1 := blk_frozen BK321.out 1; have hfz84_2 := blk_frozen BK321.out 2) | (go_at_call 22; (with_reducible refine (uri_May.calls a1_0 a1_1 a1_2 true _ (Glob.below HGl.out (by repeat (first | (with_reducible first | exact HB.out | apply below_alloc | apply pw_below_drewN | apply below_drew1 | refine below_set ?_ GE320.out | refine below_set ?_ GE321.out | refine below_set ?_ GE327.out) | exact HB.out))) A66.out).mono ?_); rintro e w85 ⟨rfl, hb⟩; have n0_ := Aside0.mk (blk_below (g := gb320) (o := .cells #[.string a0_0, .int .i64 a0_1, .string a0_2] 35 (0, 0)) (by (with_reducible repeat (first | refine blk_drewN ?_ _ | refine blk_drew ?_ | refine blk_alloc ?_ _)); exact BK320.out) hb); have n1_ := Aside0.mk (blk_below (g := gb321) (o := .cells #[.string a1_0, .int .i64 a1_1, .string a1_2] 35 (0, 0)) (by (with_reducible repeat (first | refine blk_drewN ?_ _ | refine blk_drew ?_ | refine blk_alloc ?_ _)); exact BK321.out) hb); have n2_ := Aside0.mk (blk_below (g := gb327) (o := .cells #[.string t323, .int .i64 t324, .string t325] 35 (0, 0)) (by (with_reducible repeat (first | refine blk_drewN ?_ _ | refine blk_drew ?_ | refine blk_alloc ?_ _)); exact BK327.out) hb); have n3_ := Aside0.mk (below_step (by repeat (first | (with_reducible first | exact HB.out | apply below_alloc | apply pw_below_drewN | apply below_drew1 | refine below_set ?_ GE320.out | refine below_set ?_ GE321.out | refine below_set ?_ GE327.out) | exact HB.out)) hb); clear BK320; clear BK321; clear BK327; clear HB; have BK320 := n0_; have BK321 := n1_; have BK327 := n2_; have HB := n3_; clear n0_ n1_ n2_ n3_; (try clear hb); (try clear hb2); (try clear hk); (try clear hi); have hcz86_0 : w85.cell? ⟨gb321, 0, none⟩ = some (.string a1_0) := (blk_cell BK321.out 0).trans rfl; have hcz86_1 : w85.cell? ⟨gb321, 1, none⟩ = some (.int .i64 a1_1) := (blk_cell BK321.out 1).trans rfl; have hcz86_2 : w85.cell? ⟨gb321, 2, none⟩ = some (.string a1_2) := (blk_cell BK321.out 2).trans rfl; have hfz86_0 := blk_frozen BK321.out 0; have hfz86_1 := blk_frozen BK321.out 1; have hfz86_2 := blk_frozen BK321.out 2; have p78 : 0 ≤ (1 : Int) := (by omega); have q78 : 1 < a1_2.size := (by have : (1 : Int) < (a1_2.size : Int) := of_decide_eq_true (by first | (with_reducible assumption) | assumption); omega); have hx78 : ∀ h : 1 < a1_2.size, ((a1_2[1]'h).toNat : Int) = bt a1_2 1 := bt_at a1_2 1; clear p78; have qi78 : (1 < (a1_2.size : Int)) = True := eq_true (of_decide_eq_true (by first | (with_reducible assumption) | assumption)); replace q78 := eq_true q78))
         go_meet
         case rel => exact ⟨_, (((bt a1_2 1) != 47)), (by first | rfl | (simp; done) | (simp [*]; done)), H', ⟨by have := HJ5.out; first | omega | exact Nat.le_refl _⟩, ⟨by (with_reducible repeat (first | refine blk_drewN ?_ _ | refine blk_drew ?_ | refine blk_alloc ?_ _)); exact BK320.out⟩, ⟨by (with_reducible repeat (first | refine blk_drewN ?_ _ | refine blk_drew ?_ | refine blk_alloc ?_ _)); exact BK321.out⟩, ⟨by (with_reducible repeat (first | refine blk_drewN ?_ _ | refine blk_drew ?_ | refine blk_alloc ?_ _)); exact BK327.out⟩, ⟨by repeat (first | (with_reducible first | exact HB.out | apply below_alloc | apply pw_below_drewN | apply below_drew1 | refine below_set ?_ GE320.out | refine below_set ?_ GE321.out | refine below_set ?_ GE327.out) | exact HB.out)⟩⟩
        ·
         rw [if_neg c77] at H
         exact absurd H (by simp)
      ·
       replace c67 := Bool.eq_false_iff.mpr c67
       subst c67
       have H1 : (tollhouselaw10_UriJoins.j1 kj5 a2 false a0_0 a0_1 a0_2 a1_0 a1_1 a1_2) = some r := by rw [if_neg (show ¬ (false = true) by decide)] at H; exact H
       clear H
       have H := H1
       clear H1
       have H' := Aside0.mk H
       clear H
       have hnb87 := NB320_321.out
       have hnc87 := NB321_320.out
       have hnb88 := NB320_327.out
       have hnc88 := NB327_320.out
       have hcz89_0 : wc.cell? ⟨gb320, 0, none⟩ = some (.string a0_0) := (blk_cell BK320.out 0).trans rfl
       have hcz89_1 : wc.cell? ⟨gb320, 1, none⟩ = some (.int .i64 a0_1) := (blk_cell BK320.out 1).trans rfl
       have hcz89_2 : wc.cell? ⟨gb320, 2, none⟩ = some (.string a0_2) := (blk_cell BK320.out 2).trans rfl
       have hfz89_0 := blk_frozen BK320.out 0
       have hfz89_1 := blk_frozen BK320.out 1
       have hfz89_2 := blk_frozen BK320.out 2
       go_wp2_with (first | ((with_reducible refine gate_callee (f := 22) rfl ?_); refine goesL_ (some 40) rfl rfl Tryd.func22 (by kernel_rfl) rfl #[.agg #[.string a0_0, .int .i64 a0_1, .string a0_2]] rfl (by (try simp only [List.map_toArray, List.map_cons, List.map_nil]); first | done | rfl | (simp only [List.length_drop, List.length_take]; rfl)) ?_; (with_reducible refine (uri_May.calls a0_0 a0_1 a0_2 true _ (Glob.below HGl.out (by repeat (first | (with_reducible first | exact HB.out | apply below_alloc | apply pw_below_drewN | apply below_drew1 | refine below_set ?_ GE320.out | refine below_set ?_ GE321.out | refine below_set ?_ GE327.out) | exact HB.out))) A64.out).mono ?_); rintro e w90 ⟨rfl, hb⟩; refine ⟨_, rfl, ?_⟩; have n0_ := Aside0.mk (blk_below (g := gb320) (o := .cells #[.string a0_0, .int .i64 a0_1, .string a0_2] 35 (0, 0)) (by (with_reducible repeat (first | refine blk_drewN ?_ _ | refine blk_drew ?_ | refine blk_alloc ?_ _)); exact BK320.out) hb); have n1_ := Aside0.mk (blk_below (g := gb321) (o := .cells #[.string a1_0, .int .i64 a1_1, .string a1_2] 35 (0, 0)) (by (with_reducible repeat (first | refine blk_drewN ?_ _ | refine blk_drew ?_ | refine blk_alloc ?_ _)); exact BK321.out) hb); have n2_ := Aside0.mk (blk_below (g := gb327) (o := .cells #[.string t323, .int .i64 t324, .string t325] 35 (0, 0)) (by (with_reducible repeat (first | refine blk_drewN ?_ _ | refine blk_drew ?_ | refine blk_alloc ?_ _)); exact BK327.out) hb); have n3_ := Aside0.mk (below_step (by repeat (first | (with_reducible first | exact HB.out | apply below_alloc | apply pw_below_drewN | apply below_drew1 | refine below_set ?_ GE320.out | refine below_set ?_ GE321.out | refine below_set ?_ GE327.out) | exact HB.out)) hb); clear BK320; clear BK321; clear BK327; clear HB; have BK320 := n0_; have BK321 := n1_; have BK327 := n2_; have HB := n3_; clear n0_ n1_ n2_ n3_; (try clear hb); (try clear hb2); (try clear hk); (try clear hi); have hnb91 := NB321_327.out; have hnc91 := NB327_321.out; have hcz92_0 : w90.cell? ⟨gb321, 0, none⟩ = some (.string a1_0) := (blk_cell BK321.out 0).trans rfl; have hcz92_1 : w90.cell? ⟨gb321, 1, none⟩ = some (.int .i64 a1_1) := (blk_cell BK321.out 1).trans rfl; have hcz92_2 : w90.cell? ⟨gb321, 2, none⟩ = some (.string a1_2) := (blk_cell BK321.out 2).trans rfl; have hfz92_0 := blk_frozen BK321.out 0; have hfz92_1 := blk_frozen BK321.out 1; have hfz92_2 := blk_frozen BK321.out 2) | (go_at_call 22; (with_reducible refine (uri_May.calls a1_0 a1_1 a1_2 false _ (Glob.below HGl.out (by repeat (first | (with_reducible first | exact HB.out | apply below_alloc | apply pw_below_drewN | apply below_drew1 | refine below_set ?_ GE320.out | refine below_set ?_ GE321.out | refine below_set ?_ GE327.out) | exact HB.out))) A66.out).mono ?_); rintro e w93 ⟨rfl, hb⟩; have n0_ := Aside0.mk (blk_below (g := gb320) (o := .cells #[.string a0_0, .int .i64 a0_1, .string a0_2] 35 (0, 0)) (by (with_reducible repeat (first | refine blk_drewN ?_ _ | refine blk_drew ?_ | refine blk_alloc ?_ _)); exact BK320.out) hb); have n1_ := Aside0.mk (blk_below (g := gb321) (o := .cells #[.string a1_0, .int .i64 a1_1, .string a1_2] 35 (0, 0)) (by (with_reducible repeat (first | refine blk_drewN ?_ _ | refine blk_drew ?_ | refine blk_alloc ?_ _)); exact BK321.out) hb); have n2_ := Aside0.mk (blk_below (g := gb327) (o := .cells #[.string t323, .int .i64 t324, .string t325] 35 (0, 0)) (by (with_reducible repeat (first | refine blk_drewN ?_ _ | refine blk_drew ?_ | refine blk_alloc ?_ _)); exact BK327.out) hb); have n3_ := Aside0.mk (below_step (by repeat (first | (with_reducible first | exact HB.out | apply below_alloc | apply pw_below_drewN | apply below_drew1 | refine below_set ?_ GE320.out | refine below_set ?_ GE321.out | refine below_set ?_ GE327.out) | exact HB.out)) hb); clear BK320; clear BK321; clear BK327; clear HB; have BK320 := n0_; have BK321 := n1_; have BK327 := n2_; have HB := n3_; clear n0_ n1_ n2_ n3_; (try clear hb); (try clear hb2); (try clear hk); (try clear hi)))
       go_meet
       case rel => exact ⟨_, (false), (by first | rfl | (simp; done) | (simp [*]; done)), H', ⟨by have := HJ5.out; first | omega | exact Nat.le_refl _⟩, ⟨by (with_reducible repeat (first | refine blk_drewN ?_ _ | refine blk_drew ?_ | refine blk_alloc ?_ _)); exact BK320.out⟩, ⟨by (with_reducible repeat (first | refine blk_drewN ?_ _ | refine blk_drew ?_ | refine blk_alloc ?_ _)); exact BK321.out⟩, ⟨by (with_reducible repeat (first | refine blk_drewN ?_ _ | refine blk_drew ?_ | refine blk_alloc ?_ _)); exact BK327.out⟩, ⟨by repeat (first | (with_reducible first | exact HB.out | apply below_alloc | apply pw_below_drewN | apply below_drew1 | refine below_set ?_ GE320.out | refine below_set ?_ GE321.out | refine below_set ?_ GE327.out) | exact HB.out)⟩⟩
     ·
      replace c65 := Bool.eq_false_iff.mpr c65
      subst c65
      have H1 : (tollhouselaw10_UriJoins.j1 kj5 a2 false a0_0 a0_1 a0_2 a1_0 a1_1 a1_2) = some r := by rw [if_neg (show ¬ (false = true) by decide)] at H; exact H
      clear H
      have H := H1
      clear H1
      have H' := Aside0.mk H
      clear H
      have hnb94 := NB320_321.out
      have hnc94 := NB321_320.out
      have hnb95 := NB320_327.out
      have hnc95 := NB327_320.out
      have hcz96_0 : wc.cell? ⟨gb320, 0, none⟩ = some (.string a0_0) := (blk_cell BK320.out 0).trans rfl
      have hcz96_1 : wc.cell? ⟨gb320, 1, none⟩ = some (.int .i64 a0_1) := (blk_cell BK320.out 1).trans rfl
      have hcz96_2 : wc.cell? ⟨gb320, 2, none⟩ = some (.string a0_2) := (blk_cell BK320.out 2).trans rfl
      have hfz96_0 := blk_frozen BK320.out 0
      have hfz96_1 := blk_frozen BK320.out 1
      have hfz96_2 := blk_frozen BK320.out 2
      go_wp2_with (first | ((with_reducible refine gate_callee (f := 22) rfl ?_); refine goesL_ (some 40) rfl rfl Tryd.func22 (by kernel_rfl) rfl #[.agg #[.string a0_0, .int .i64 a0_1, .string a0_2]] rfl (by (try simp only [List.map_toArray, List.map_cons, List.map_nil]); first | done | rfl | (simp only [List.length_drop, List.length_take]; rfl)) ?_; (with_reducible refine (uri_May.calls a0_0 a0_1 a0_2 false _ (Glob.below HGl.out (by repeat (first | (with_reducible first | exact HB.out | apply below_alloc | apply pw_below_drewN | apply below_drew1 | refine below_set ?_ GE320.out | refine below_set ?_ GE321.out | refine below_set ?_ GE327.out) | exact HB.out))) A64.out).mono ?_); rintro e w97 ⟨rfl, hb⟩; refine ⟨_, rfl, ?_⟩; have n0_ := Aside0.mk (blk_below (g := gb320) (o := .cells #[.string a0_0, .int .i64 a0_1, .string a0_2] 35 (0, 0)) (by (with_reducible repeat (first | refine blk_drewN ?_ _ | refine blk_drew ?_ | refine blk_alloc ?_ _)); exact BK320.out) hb); have n1_ := Aside0.mk (blk_below (g := gb321) (o := .cells #[.string a1_0, .int .i64 a1_1, .string a1_2] 35 (0, 0)) (by (with_reducible repeat (first | refine blk_drewN ?_ _ | refine blk_drew ?_ | refine blk_alloc ?_ _)); exact BK321.out) hb); have n2_ := Aside0.mk (blk_below (g := gb327) (o := .cells #[.string t323, .int .i64 t324, .string t325] 35 (0, 0)) (by (with_reducible repeat (first | refine blk_drewN ?_ _ | refine blk_drew ?_ | refine blk_alloc ?_ _)); exact BK327.out) hb); have n3_ := Aside0.mk (below_step (by repeat (first | (with_reducible first | exact HB.out | apply below_alloc | apply pw_below_drewN | apply below_drew1 | refine below_set ?_ GE320.out | refine below_set ?_ GE321.out | refine below_set ?_ GE327.out) | exact HB.out)) hb); clear BK320; clear BK321; clear BK327; clear HB; have BK320 := n0_; have BK321 := n1_; have BK327 := n2_; have HB := n3_; clear n0_ n1_ n2_ n3_; (try clear hb); (try clear hb2); (try clear hk); (try clear hi)))
      go_meet
      case rel => exact ⟨_, (false), (by first | rfl | (simp; done) | (simp [*]; done)), H', ⟨by have := HJ5.out; first | omega | exact Nat.le_refl _⟩, ⟨by (with_reducible repeat (first | refine blk_drewN ?_ _ | refine blk_drew ?_ | refine blk_alloc ?_ _)); exact BK320.out⟩, ⟨by (with_reducible repeat (first | refine blk_drewN ?_ _ | refine blk_drew ?_ | refine blk_alloc ?_ _)); exact BK321.out⟩, ⟨by (with_reducible repeat (first | refine blk_drewN ?_ _ | refine blk_drew ?_ | refine blk_alloc ?_ _)); exact BK327.out⟩, ⟨by repeat (first | (with_reducible first | exact HB.out | apply below_alloc | apply pw_below_drewN | apply below_drew1 | refine below_set ?_ GE320.out | refine below_set ?_ GE321.out | refine below_set ?_ GE327.out) | exact HB.out)⟩⟩
    case rest =>
     clear HC63
     try clear c1
     try clear c2
     try clear p2
     try clear c3
     try clear c4
     try clear c5
     try clear c6
     try clear c7
     try clear p7
     try clear q7
     try clear hx7
     try clear qi7
     try clear c8
     try clear c9
     try clear c18
     try clear c20
     try clear c20b0
     try clear c20b1
     try clear c20b2
     try clear c21
     try clear c22
     try clear c25
     try clear c28
     try clear c28b0
     try clear c28b1
     try clear c29
     try clear c30
     try clear c33
     try clear c38
     try clear c39
     try clear c42
     try clear c45
     try clear c45b0
     try clear c45b1
     try clear c45b2
     try clear c46
     try clear c47
     try clear c50
     try clear c50b0
     try clear c50b1
     try clear c51
     try clear c52
     try clear c55
     try clear c58
     try clear c59
     try clear c62
     try clear c65
     try clear c67
     try clear c68
     try clear c68b0
     try clear c68b1
     try clear c69
     try clear c70
     try clear c73
     try clear c77
     try clear c77b0
     try clear c77b1
     try clear p78
     try clear q78
     try clear hx78
     try clear qi78
     try clear c79
     try clear c80
     try clear c83
     try clear c87
     try clear c88
     try clear c91
     try clear c94
     try clear c95
     try clear hcz23_0
     try clear hcz23_1
     try clear hcz23_2
     try clear hcz26_0
     try clear hcz26_1
     try clear hcz26_2
     try clear hcz31_0
     try clear hcz31_1
     try clear hcz31_2
     try clear hcz34_0
     try clear hcz34_1
     try clear hcz34_2
     try clear hcz36_0
     try clear hcz36_1
     try clear hcz36_2
     try clear hcz37_0
     try clear hcz37_1
     try clear hcz37_2
     try clear hcz40_0
     try clear hcz40_1
     try clear hcz40_2
     try clear hcz43_0
     try clear hcz43_1
     try clear hcz43_2
     try clear hcz48_0
     try clear hcz48_1
     try clear hcz48_2
     try clear hcz53_0
     try clear hcz53_1
     try clear hcz53_2
     try clear hcz56_0
     try clear hcz56_1
     try clear hcz56_2
     try clear hcz57_0
     try clear hcz57_1
     try clear hcz57_2
     try clear hcz60_0
     try clear hcz60_1
     try clear hcz60_2
     try clear hcz71_0
     try clear hcz71_1
     try clear hcz71_2
     try clear hcz74_0
     try clear hcz74_1
     try clear hcz74_2
     try clear hcz76_0
     try clear hcz76_1
     try clear hcz76_2
     try clear hcz81_0
     try clear hcz81_1
     try clear hcz81_2
     try clear hcz84_0
     try clear hcz84_1
     try clear hcz84_2
     try clear hcz86_0
     try clear hcz86_1
     try clear hcz86_2
     try clear hcz89_0
     try clear hcz89_1
     try clear hcz89_2
     try clear hcz92_0
     try clear hcz92_1
     try clear hcz92_2
     try clear hcz96_0
     try clear hcz96_1
     try clear hcz96_2
     try clear hfz23_0
     try clear hfz23_1
     try clear hfz23_2
     try clear hfz26_0
     try clear hfz26_1
     try clear hfz26_2
     try clear hfz31_0
     try clear hfz31_1
     try clear hfz31_2
     try clear hfz34_0
     try clear hfz34_1
     try clear hfz34_2
     try clear hfz36_0
     try clear hfz36_1
     try clear hfz36_2
     try clear hfz37_0
     try clear hfz37_1
     try clear hfz37_2
     try clear hfz40_0
     try clear hfz40_1
     try clear hfz40_2
     try clear hfz43_0
     try clear hfz43_1
     try clear hfz43_2
     try clear hfz48_0
     try clear hfz48_1
     try clear hfz48_2
     try clear hfz53_0
     try clear hfz53_1
     try clear hfz53_2
     try clear hfz56_0
     try clear hfz56_1
     try clear hfz56_2
     try clear hfz57_0
     try clear hfz57_1
     try clear hfz57_2
     try clear hfz60_0
     try clear hfz60_1
     try clear hfz60_2
     try clear hfz71_0
     try clear hfz71_1
     try clear hfz71_2
     try clear hfz74_0
     try clear hfz74_1
     try clear hfz74_2
     try clear hfz76_0
     try clear hfz76_1
     try clear hfz76_2
     try clear hfz81_0
     try clear hfz81_1
     try clear hfz81_2
     try clear hfz84_0
     try clear hfz84_1
     try clear hfz84_2
     try clear hfz86_0
     try clear hfz86_1
     try clear hfz86_2
     try clear hfz89_0
     try clear hfz89_1
     try clear hfz89_2
     try clear hfz92_0
     try clear hfz92_1
     try clear hfz92_2
     try clear hfz96_0
     try clear hfz96_1
     try clear hfz96_2
     try clear p2
     try clear p78
     try clear q78
     obtain ⟨kq, x56_62, rfl, HA, HJ62, BK320, BK321, BK327, HB⟩ := hcut
     cases kq with
     | zero => exact absurd HA.out (by simp [tollhouselaw10_UriJoins.j1])
     | succ kj62 =>
      have H := HA.out
      clear HA
      simp only [tollhouselaw10_UriJoins.j1] at H
      by_cases c98 : x56_62 = true
      ·
       subst c98
       have H1 : ((uri_Join.f kj62 a0_0 a0_1 a0_2 a1_2).bind fun bt332 => ((uri_May.f a0_0 a0_1 a1_2).bind fun t338 => (if ((bt332.2.2.2 == 0) != t338) = true then (tollhouselaw10_UriJoins.j2 kj62 a2 true a0_0 a0_1 a0_2) else (if bt332.2.2.2 = 0 then (tollhouselaw10_UriJoins.j2 kj62 a2 (!(bt332.1.toList == a0_0.toList) || (!(bt332.2.1 == a0_1) || (!(bt332.2.2.1.toList == a1_2.toList)))) a0_0 a0_1 a0_2) else (tollhouselaw10_UriJoins.j2 kj62 a2 false a0_0 a0_1 a0_2))))) = some r := by rw [if_pos rfl] at H; exact H
       clear H
       have H := H1
       clear H1
       replace H := Option.bind_eq_some_iff.mp H
       obtain ⟨⟨t332, t333, t334, t335⟩, A990, H⟩ := H
       replace H : ((uri_May.f a0_0 a0_1 a1_2).bind fun t338 => (if ((t335 == 0) != t338) = true then (tollhouselaw10_UriJoins.j2 kj62 a2 true a0_0 a0_1 a0_2) else (if t335 = 0 then (tollhouselaw10_UriJoins.j2 kj62 a2 (!(t332.toList == a0_0.toList) || (!(t333 == a0_1) || (!(t334.toList == a1_2.toList)))) a0_0 a0_1 a0_2) else (tollhouselaw10_UriJoins.j2 kj62 a2 false a0_0 a0_1 a0_2)))) = some r := H
       have A99 := Aside0.mk A990
       clear A990
       have HC100 := Aside0.mk H
       clear H
       have hnb101 := NB320_321.out
       have hnc101 := NB321_320.out
       have hnb102 := NB320_327.out
       have hnc102 := NB327_320.out
       have hcz103_0 : wc.cell? ⟨gb320, 0, none⟩ = some (.string a0_0) := (blk_cell BK320.out 0).trans rfl
       have hcz103_1 : wc.cell? ⟨gb320, 1, none⟩ = some (.int .i64 a0_1) := (blk_cell BK320.out 1).trans rfl
       have hcz103_2 : wc.cell? ⟨gb320, 2, none⟩ = some (.string a0_2) := (blk_cell BK320.out 2).trans rfl
       have hfz103_0 := blk_frozen BK320.out 0
       have hfz103_1 := blk_frozen BK320.out 1
       have hfz103_2 := blk_frozen BK320.out 2
       have hnb104 := NB321_327.out
       have hnc104 := NB327_321.out
       have hcz105_0 : wc.cell? ⟨gb321, 0, none⟩ = some (.string a1_0) := (blk_cell BK321.out 0).trans rfl
       have hcz105_1 : wc.cell? ⟨gb321, 1, none⟩ = some (.int .i64 a1_1) := (blk_cell BK321.out 1).trans rfl
       have hcz105_2 : wc.cell? ⟨gb321, 2, none⟩ = some (.string a1_2) := (blk_cell BK321.out 2).trans rfl
       have hfz105_0 := blk_frozen BK321.out 0
       have hfz105_1 := blk_frozen BK321.out 1
       have hfz105_2 := blk_frozen BK321.out 2
       go_upto_region 7 with (first | ((with_reducible refine gate_callee (f := 28) rfl ?_); refine goesL_ (some 61) rfl rfl Tryd.func28 (by kernel_rfl) rfl #[.agg #[.string a0_0, .int .i64 a0_1, .string a0_2], .string a1_2] rfl (by (try simp only [List.map_toArray, List.map_cons, List.map_nil]); first | done | rfl | (simp only [List.length_drop, List.length_take]; rfl)) ?_; (with_reducible refine (uri_Join.calls kj62 a0_0 a0_1 a0_2 a1_2 t332 t333 t334 t335 _ (Glob.below HGl.out (by repeat (first | (with_reducible first | exact HB.out | apply below_alloc | apply pw_below_drewN | apply below_drew1 | refine below_set ?_ GE320.out | refine below_set ?_ GE321.out | refine below_set ?_ GE327.out) | exact HB.out))) A99.out).mono ?_); rintro e w106 ⟨rfl, hb⟩; refine ⟨_, rfl, ?_⟩; have n0_ := Aside0.mk (blk_below (g := gb320) (o := .cells #[.string a0_0, .int .i64 a0_1, .string a0_2] 35 (0, 0)) (by (with_reducible repeat (first | refine blk_drewN ?_ _ | refine blk_drew ?_ | refine blk_alloc ?_ _)); exact BK320.out) hb); have n1_ := Aside0.mk (blk_below (g := gb321) (o := .cells #[.string a1_0, .int .i64 a1_1, .string a1_2] 35 (0, 0)) (by (with_reducible repeat (first | refine blk_drewN ?_ _ | refine blk_drew ?_ | refine blk_alloc ?_ _)); exact BK321.out) hb); have n2_ := Aside0.mk (blk_below (g := gb327) (o := .cells #[.string t323, .int .i64 t324, .string t325] 35 (0, 0)) (by (with_reducible repeat (first | refine blk_drewN ?_ _ | refine blk_drew ?_ | refine blk_alloc ?_ _)); exact BK327.out) hb); have n3_ := Aside0.mk (below_step (by repeat (first | (with_reducible first | exact HB.out | apply below_alloc | apply pw_below_drewN | apply below_drew1 | refine below_set ?_ GE320.out | refine below_set ?_ GE321.out | refine below_set ?_ GE327.out) | exact HB.out)) hb); clear BK320; clear BK321; clear BK327; clear HB; have BK320 := n0_; have BK321 := n1_; have BK327 := n2_; have HB := n3_; clear n0_ n1_ n2_ n3_; (try clear hb); (try clear hb2); (try clear hk); (try clear hi)) | ((with_reducible refine gate_dst (N := 9) rfl ?_); (try (refine gate_guard (by rfl) ?_; dsimp only)); refine box_event ?hg (N := 9) ?hd (cs := #[.string (⟨#[]⟩ : ByteArray), .int .i64 0, .string (⟨#[]⟩ : ByteArray)]) (t := 35) ?hr ?_; (case hd => rfl); (case hg => rfl); (case hr => first | (go_simp; done) | (go_simp; rfl)); intro gb336 hg w107 hbox hb; have n0_ := Aside0.mk (blk_below (g := gb320) (o := .cells #[.string a0_0, .int .i64 a0_1, .string a0_2] 35 (0, 0)) (by (with_reducible repeat (first | refine blk_drewN ?_ _ | refine blk_drew ?_ | refine blk_alloc ?_ _)); exact BK320.out) hb); have n1_ := Aside0.mk (blk_below (g := gb321) (o := .cells #[.string a1_0, .int .i64 a1_1, .string a1_2] 35 (0, 0)) (by (with_reducible repeat (first | refine blk_drewN ?_ _ | refine blk_drew ?_ | refine blk_alloc ?_ _)); exact BK321.out) hb); have n2_ := Aside0.mk (blk_below (g := gb327) (o := .cells #[.string t323, .int .i64 t324, .string t325] 35 (0, 0)) (by (with_reducible repeat (first | refine blk_drewN ?_ _ | refine blk_drew ?_ | refine blk_alloc ?_ _)); exact BK327.out) hb); have n3_ := Aside0.mk (below_step (by repeat (first | (with_reducible first | exact HB.out | apply below_alloc | apply pw_below_drewN | apply below_drew1 | refine below_set ?_ GE320.out | refine below_set ?_ GE321.out | refine below_set ?_ GE327.out) | exact HB.out)) hb); have n4_ := Aside0.mk (hbox); have n5_ := Aside0.mk ((by rw [hg]; exact (below_size (by repeat (first | (with_reducible first | exact HB.out | apply below_alloc | apply pw_below_drewN | apply below_drew1 | refine below_set ?_ GE320.out | refine below_set ?_ GE321.out | refine below_set ?_ GE327.out) | exact HB.out))) : w.heap.size ≤ gb336)); have n6_ := Aside0.mk ((by rw [hg]; exact (below_size (by repeat (first | (with_reducible first | exact HB.out | apply below_alloc | apply pw_below_drewN | apply below_drew1 | refine below_set ?_ GE320.out | refine below_set ?_ GE321.out | refine below_set ?_ GE327.out) | exact HB.out))) : w.heap.size ≤ gb336)); have n7_ := Aside0.mk ((by rw [hg]; exact Nat.ne_of_lt (blk_lt (g := gb320) (o := .cells #[.string a0_0, .int .i64 a0_1, .string a0_2] 35 (0, 0)) (by (with_reducible repeat (first | refine blk_drewN ?_ _ | refine blk_drew ?_ | refine blk_alloc ?_ _)); exact BK320.out)) : gb320 ≠ gb336)); have n8_ := Aside0.mk ((by rw [hg]; exact Nat.ne_of_gt (blk_lt (g := gb320) (o := .cells #[.string a0_0, .int .i64 a0_1, .string a0_2] 35 (0, 0)) (by (with_reducible repeat (first | refine blk_drewN ?_ _ | refine blk_drew ?_ | refine blk_alloc ?_ _)); exact BK320.out)) : gb336 ≠ gb320)); have n9_ := Aside0.mk ((by rw [hg]; exact Nat.ne_of_lt (blk_lt (g := gb321) (o := .cells #[.string a1_0, .int .i64 a1_1, .string a1_2] 35 (0, 0)) (by (with_reducible repeat (first | refine blk_drewN ?_ _ | refine blk_drew ?_ | refine blk_alloc ?_ _)); exact BK321.out)) : gb321 ≠ gb336)); have n10_ := Aside0.mk ((by rw [hg]; exact Nat.ne_of_gt (blk_lt (g := gb321) (o := .cells #[.string a1_0, .int .i64 a1_1, .string a1_2] 35 (0, 0)) (by (with_reducible repeat (first | refine blk_drewN ?_ _ | refine blk_drew ?_ | refine blk_alloc ?_ _)); exact BK321.out)) : gb336 ≠ gb321)); have n11_ := Aside0.mk ((by rw [hg]; exact Nat.ne_of_lt (blk_lt (g := gb327) (o := .cells #[.string t323, .int .i64 t324, .string t325] 35 (0, 0)) (by (with_reducible repeat (first | refine blk_drewN ?_ _ | refine blk_drew ?_ | refine blk_alloc ?_ _)); exact BK327.out)) : gb327 ≠ gb336)); have n12_ := Aside0.mk ((by rw [hg]; exact Nat.ne_of_gt (blk_lt (g := gb327) (o := .cells #[.string t323, .int .i64 t324, .string t325] 35 (0, 0)) (by (with_reducible repeat (first | refine blk_drewN ?_ _ | refine blk_drew ?_ | refine blk_alloc ?_ _)); exact BK327.out)) : gb336 ≠ gb327)); clear BK320; clear BK321; clear BK327; clear HB; have BK320 := n0_; have BK321 := n1_; have BK327 := n2_; have HB := n3_; have BK336 := n4_; have GW336 := n5_; have GE336 := n6_; have NB320_336 := n7_; have NB336_320 := n8_; have NB321_336 := n9_; have NB336_321 := n10_; have NB327_336 := n11_; have NB336_327 := n12_; clear n0_ n1_ n2_ n3_ n4_ n5_ n6_ n7_ n8_ n9_ n10_ n11_ n12_; clear hb hbox hg; have hnb108 := NB336_320.out; have hnc108 := NB320_336.out; have hnb109 := NB336_321.out; have hnc109 := NB321_336.out; have hnb110 := NB336_327.out; have hnc110 := NB327_336.out; have hcz111_0 : w107.cell? ⟨gb336, 0, none⟩ = some (.string (⟨#[]⟩ : ByteArray)) := (blk_cell BK336.out 0).trans rfl; have hcz111_1 : w107.cell? ⟨gb336, 1, none⟩ = some (.int .i64 0) := (blk_cell BK336.out 1).trans rfl; have hcz111_2 : w107.cell? ⟨gb336, 2, none⟩ = some (.string (⟨#[]⟩ : ByteArray)) := (blk_cell BK336.out 2).trans rfl; have hfz111_0 := blk_frozen BK336.out 0; have hfz111_1 := blk_frozen BK336.out 1; have hfz111_2 := blk_frozen BK336.out 2; have hcz112_0 : w107.cell? ⟨gb320, 0, none⟩ = some (.string a0_0) := (blk_cell BK320.out 0).trans rfl; have hcz112_1 : w107.cell? ⟨gb320, 1, none⟩ = some (.int .i64 a0_1) := (blk_cell BK320.out 1).trans rfl; have hcz112_2 : w107.cell? ⟨gb320, 2, none⟩ = some (.string a0_2) := (blk_cell BK320.out 2).trans rfl; have hfz112_0 := blk_frozen BK320.out 0; have hfz112_1 := blk_frozen BK320.out 1; have hfz112_2 := blk_frozen BK320.out 2; have hcz113_0 : w107.cell? ⟨gb321, 0, none⟩ = some (.string a1_0) := (blk_cell BK321.out 0).trans rfl; have hcz113_1 : w107.cell? ⟨gb321, 1, none⟩ = some (.int .i64 a1_1) := (blk_cell BK321.out 1).trans rfl; have hcz113_2 : w107.cell? ⟨gb321, 2, none⟩ = some (.string a1_2) := (blk_cell BK321.out 2).trans rfl; have hfz113_0 := blk_frozen BK321.out 0; have hfz113_1 := blk_frozen BK321.out 1; have hfz113_2 := blk_frozen BK321.out 2) | ((with_reducible refine gate_dst (N := 11) rfl ?_); (try (refine gate_guard (by rfl) ?_; dsimp only)); refine box_event ?hg (N := 11) ?hd (cs := #[.string (⟨#[]⟩ : ByteArray), .int .i64 0, .string (⟨#[]⟩ : ByteArray)]) (t := 35) ?hr ?_; (case hd => rfl); (case hg => rfl); (case hr => first | (go_simp; done) | (go_simp; rfl)); intro gb337 hg w114 hbox hb; have n0_ := Aside0.mk (blk_below (g := gb320) (o := .cells #[.string a0_0, .int .i64 a0_1, .string a0_2] 35 (0, 0)) (by (with_reducible repeat (first | refine blk_drewN ?_ _ | refine blk_drew ?_ | refine blk_alloc ?_ _)); refine blk_far ?_ NB320_336.out _; (with_reducible repeat (first | refine blk_drewN ?_ _ | refine blk_drew ?_ | refine blk_alloc ?_ _)); refine blk_far ?_ NB320_336.out _; (with_reducible repeat (first | refine blk_drewN ?_ _ | refine blk_drew ?_ | refine blk_alloc ?_ _)); refine blk_far ?_ NB320_336.out _; (with_reducible repeat (first | refine blk_drewN ?_ _ | refine blk_drew ?_ | refine blk_alloc ?_ _)); exact BK320.out) hb); have n1_ := Aside0.mk (blk_below (g := gb321) (o := .cells #[.string a1_0, .int .i64 a1_1, .string a1_2] 35 (0, 0)) (by (with_reducible repeat (first | refine blk_drewN ?_ _ | refine blk_drew ?_ | refine blk_alloc ?_ _)); refine blk_far ?_ NB321_336.out _; (with_reducible repeat (first | refine blk_drewN ?_ _ | refine blk_drew ?_ | refine blk_alloc ?_ _)); refine blk_far ?_ NB321_336.out _; (with_reducible repeat (first | refine blk_drewN ?_ _ | refine blk_drew ?_ | refine blk_alloc ?_ _)); refine blk_far ?_ NB321_336.out _; (with_reducible repeat (first | refine blk_drewN ?_ _ | refine blk_drew ?_ | refine blk_alloc ?_ _)); exact BK321.out) hb); have n2_ := Aside0.mk (blk_below (g := gb327) (o := .cells #[.string t323, .int .i64 t324, .string t325] 35 (0, 0)) (by (with_reducible repeat (first | refine blk_drewN ?_ _ | refine blk_drew ?_ | refine blk_alloc ?_ _)); refine blk_far ?_ NB327_336.out _; (with_reducible repeat (first | refine blk_drewN ?_ _ | refine blk_drew ?_ | refine blk_alloc ?_ _)); refine blk_far ?_ NB327_336.out _; (with_reducible repeat (first | refine blk_drewN ?_ _ | refine blk_drew ?_ | refine blk_alloc ?_ _)); refine blk_far ?_ NB327_336.out _; (with_reducible repeat (first | refine blk_drewN ?_ _ | refine blk_drew ?_ | refine blk_alloc ?_ _)); exact BK327.out) hb); have n3_ := Aside0.mk (blk_below (g := gb336) (o := .cells #[.string t332, .int .i64 t333, .string t334] 35 (0, 0)) (by (with_reducible repeat (first | refine blk_drewN ?_ _ | refine blk_drew ?_ | refine blk_alloc ?_ _)); refine blk_put (cs := #[.string t332, .int .i64 t333, .string (⟨#[]⟩ : ByteArray)]) ?_ 2 _ rfl; (with_reducible repeat (first | refine blk_drewN ?_ _ | refine blk_drew ?_ | refine blk_alloc ?_ _)); refine blk_put (cs := #[.string t332, .int .i64 0, .string (⟨#[]⟩ : ByteArray)]) ?_ 1 _ rfl; (with_reducible repeat (first | refine blk_drewN ?_ _ | refine blk_drew ?_ | refine blk_alloc ?_ _)); refine blk_put (cs := #[.string (⟨#[]⟩ : ByteArray), .int .i64 0, .string (⟨#[]⟩ : ByteArray)]) ?_ 0 _ rfl; (with_reducible repeat (first | refine blk_drewN ?_ _ | refine blk_drew ?_ | refine blk_alloc ?_ _)); exact BK336.out) hb); have n4_ := Aside0.mk (below_step (by repeat (first | (with_reducible first | exact HB.out | apply below_alloc | apply pw_below_drewN | apply below_drew1 | refine below_set ?_ GE320.out | refine below_set ?_ GE321.out | refine below_set ?_ GE327.out | refine below_set ?_ GE336.out) | exact HB.out)) hb); have n5_ := Aside0.mk (hbox); have n6_ := Aside0.mk ((by rw [hg]; exact (below_size (by repeat (first | (with_reducible first | exact HB.out | apply below_alloc | apply pw_below_drewN | apply below_drew1 | refine below_set ?_ GE320.out | refine below_set ?_ GE321.out | refine below_set ?_ GE327.out | refine below_set ?_ GE336.out) | exact HB.out))) : w.heap.size ≤ gb337)); have n7_ := Aside0.mk ((by rw [hg]; exact (below_size (by repeat (first | (with_reducible first | exact HB.out | apply below_alloc | apply pw_below_drewN | apply below_drew1 | refine below_set ?_ GE320.out | refine below_set ?_ GE321.out | refine below_set ?_ GE327.out | refine below_set ?_ GE336.out) | exact HB.out))) : w.heap.size ≤ gb337)); have n8_ := Aside0.mk ((by rw [hg]; exact Nat.ne_of_lt (blk_lt (g := gb320) (o := .cells #[.string a0_0, .int .i64 a0_1, .string a0_2] 35 (0, 0)) (by (with_reducible repeat (first | refine blk_drewN ?_ _ | refine blk_drew ?_ | refine blk_alloc ?_ _)); refine blk_far ?_ NB320_336.out _; (with_reducible repeat (first | refine blk_drewN ?_ _ | refine blk_drew ?_ | refine blk_alloc ?_ _)); refine blk_far ?_ NB320_336.out _; (with_reducible repeat (first | refine blk_drewN ?_ _ | refine blk_drew ?_ | refine blk_alloc ?_ _)); refine blk_far ?_ NB320_336.out _; (with_reducible repeat (first | refine blk_drewN ?_ _ | refine blk_drew ?_ | refine blk_alloc ?_ _)); exact BK320.out)) : gb320 ≠ gb337)); have n9_ := Aside0.mk ((by rw [hg]; exact Nat.ne_of_gt (blk_lt (g := gb320) (o := .cells #[.string a0_0, .int .i64 a0_1, .string a0_2] 35 (0, 0)) (by (with_reducible repeat (first | refine blk_drewN ?_ _ | refine blk_drew ?_ | refine blk_alloc ?_ _)); refine blk_far ?_ NB320_336.out _; (with_reducible repeat (first | refine blk_drewN ?_ _ | refine blk_drew ?_ | refine blk_alloc ?_ _)); refine blk_far ?_ NB320_336.out _; (with_reducible repeat (first | refine blk_drewN ?_ _ | refine blk_drew ?_ | refine blk_alloc ?_ _)); refine blk_far ?_ NB320_336.out _; (with_reducible repeat (first | refine blk_drewN ?_ _ | refine blk_drew ?_ | refine blk_alloc ?_ _)); exact BK320.out)) : gb337 ≠ gb320)); have n10_ := Aside0.mk ((by rw [hg]; exact Nat.ne_of_lt (blk_lt (g := gb321) (o := .cells #[.string a1_0, .int .i64 a1_1, .string a1_2] 35 (0, 0)) (by (with_reducible repeat (first | refine blk_drewN ?_ _ | refine blk_drew ?_ | refine blk_alloc ?_ _)); refine blk_far ?_ NB321_336.out _; (with_reducible repeat (first | refine blk_drewN ?_ _ | refine blk_drew ?_ | refine blk_alloc ?_ _)); refine blk_far ?_ NB321_336.out _; (with_reducible repeat (first | refine blk_drewN ?_ _ | refine blk_drew ?_ | refine blk_alloc ?_ _)); refine blk_far ?_ NB321_336.out _; (with_reducible repeat (first | refine blk_drewN ?_ _ | refine blk_drew ?_ | refine blk_alloc ?_ _)); exact BK321.out)) : gb321 ≠ gb337)); have n11_ := Aside0.mk ((by rw [hg]; exact Nat.ne_of_gt (blk_lt (g := gb321) (o := .cells #[.string a1_0, .int .i64 a1_1, .string a1_2] 35 (0, 0)) (by (with_reducible repeat (first | refine blk_drewN ?_ _ | refine blk_drew ?_ | refine blk_alloc ?_ _)); refine blk_far ?_ NB321_336.out _; (with_reducible repeat (first | refine blk_drewN ?_ _ | refine blk_drew ?_ | refine blk_alloc ?_ _)); refine blk_far ?_ NB321_336.out _; (with_reducible repeat (first | refine blk_drewN ?_ _ | refine blk_drew ?_ | refine blk_alloc ?_ _)); refine blk_far ?_ NB321_336.out _; (with_reducible repeat (first | refine blk_drewN ?_ _ | refine blk_drew ?_ | refine blk_alloc ?_ _)); exact BK321.out)) : gb337 ≠ gb321)); have n12_ := Aside0.mk ((by rw [hg]; exact Nat.ne_of_lt (blk_lt (g := gb327) (o := .cells #[.string t323, .int .i64 t324, .string t325] 35 (0, 0)) (by (with_reducible repeat (first | refine blk_drewN ?_ _ | refine blk_drew ?_ | refine blk_alloc ?_ _)); refine blk_far ?_ NB327_336.out _; (with_reducible repeat (first | refine blk_drewN ?_ _ | refine blk_drew ?_ | refine blk_alloc ?_ _)); refine blk_far ?_ NB327_336.out _; (with_reducible repeat (first | refine blk_drewN ?_ _ | refine blk_drew ?_ | refine blk_alloc ?_ _)); refine blk_far ?_ NB327_336.out _; (with_reducible repeat (first | refine blk_drewN ?_ _ | refine blk_drew ?_ | refine blk_alloc ?_ _)); exact BK327.out)) : gb327 ≠ gb337)); have n13_ := Aside0.mk ((by rw [hg]; exact Nat.ne_of_gt (blk_lt (g := gb327) (o := .cells #[.string t323, .int .i64 t324, .string t325] 35 (0, 0)) (by (with_reducible repeat (first | refine blk_drewN ?_ _ | refine blk_drew ?_ | refine blk_alloc ?_ _)); refine blk_far ?_ NB327_336.out _; (with_reducible repeat (first | refine blk_drewN ?_ _ | refine blk_drew ?_ | refine blk_alloc ?_ _)); refine blk_far ?_ NB327_336.out _; (with_reducible repeat (first | refine blk_drewN ?_ _ | refine blk_drew ?_ | refine blk_alloc ?_ _)); refine blk_far ?_ NB327_336.out _; (with_reducible repeat (first | refine blk_drewN ?_ _ | refine blk_drew ?_ | refine blk_alloc ?_ _)); exact BK327.out)) : gb337 ≠ gb327)); have n14_ := Aside0.mk ((by rw [hg]; exact Nat.ne_of_lt (blk_lt (g := gb336) (o := .cells #[.string t332, .int .i64 t333, .string t334] 35 (0, 0)) (by (with_reducible repeat (first | refine blk_drewN ?_ _ | refine blk_drew ?_ | refine blk_alloc ?_ _)); refine blk_put (cs := #[.string t332, .int .i64 t333, .string (⟨#[]⟩ : ByteArray)]) ?_ 2 _ rfl; (with_reducible repeat (first | refine blk_drewN ?_ _ | refine blk_drew ?_ | refine blk_alloc ?_ _)); refine blk_put (cs := #[.string t332, .int .i64 0, .string (⟨#[]⟩ : ByteArray)]) ?_ 1 _ rfl; (with_reducible repeat (first | refine blk_drewN ?_ _ | refine blk_drew ?_ | refine blk_alloc ?_ _)); refine blk_put (cs := #[.string (⟨#[]⟩ : ByteArray), .int .i64 0, .string (⟨#[]⟩ : ByteArray)]) ?_ 0 _ rfl; (with_reducible repeat (first | refine blk_drewN ?_ _ | refine blk_drew ?_ | refine blk_alloc ?_ _)); exact BK336.out)) : gb336 ≠ gb337)); have n15_ := Aside0.mk ((by rw [hg]; exact Nat.ne_of_gt (blk_lt (g := gb336) (o := .cells #[.string t332, .int .i64 t333, .string t334] 35 (0, 0)) (by (with_reducible repeat (first | refine blk_drewN ?_ _ | refine blk_drew ?_ | refine blk_alloc ?_ _)); refine blk_put (cs := #[.string t332, .int .i64 t333, .string (⟨#[]⟩ : ByteArray)]) ?_ 2 _ rfl; (with_reducible repeat (first | refine blk_drewN ?_ _ | refine blk_drew ?_ | refine blk_alloc ?_ _)); refine blk_put (cs := #[.string t332, .int .i64 0, .string (⟨#[]⟩ : ByteArray)]) ?_ 1 _ rfl; (with_reducible repeat (first | refine blk_drewN ?_ _ | refine blk_drew ?_ | refine blk_alloc ?_ _)); refine blk_put (cs := #[.string (⟨#[]⟩ : ByteArray), .int .i64 0, .string (⟨#[]⟩ : ByteArray)]) ?_ 0 _ rfl; (with_reducible repeat (first | refine blk_drewN ?_ _ | refine blk_drew ?_ | refine blk_alloc ?_ _)); exact BK336.out)) : gb337 ≠ gb336)); clear BK320; clear BK321; clear BK327; clear BK336; clear HB; have BK320 := n0_; have BK321 := n1_; have BK327 := n2_; have BK336 := n3_; have HB := n4_; have BK337 := n5_; have GW337 := n6_; have GE337 := n7_; have NB320_337 := n8_; have NB337_320 := n9_; have NB321_337 := n10_; have NB337_321 := n11_; have NB327_337 := n12_; have NB337_327 := n13_; have NB336_337 := n14_; have NB337_336 := n15_; clear n0_ n1_ n2_ n3_ n4_ n5_ n6_ n7_ n8_ n9_ n10_ n11_ n12_ n13_ n14_ n15_; clear hb hbox hg; have hnb115 := NB337_320.out; have hnc115 := NB320_337.out; have hnb116 := NB337_321.out; have hnc116 := NB321_337.out; have hnb117 := NB337_327.out; have hnc117 := NB327_337.out; have hnb118 := NB337_336.out; have hnc118 := NB336_337.out; have hcz119_0 : w114.cell? ⟨gb337, 0, none⟩ = some (.string (⟨#[]⟩ : ByteArray)) := (blk_cell BK337.out 0).trans rfl; have hcz119_1 : w114.cell? ⟨gb337, 1, none⟩ = some (.int .i64 0) := (blk_cell BK337.out 1).trans rfl; have hcz119_2 : w114.cell? ⟨gb337, 2, none⟩ = some (.string (⟨#[]⟩ : ByteArray)) := (blk_cell BK337.out 2).trans rfl; have hfz119_0 := blk_frozen BK337.out 0; have hfz119_1 := blk_frozen BK337.out 1; have hfz119_2 := blk_frozen BK337.out 2))
       (try simp only [Act.put, List.setIfInBounds_toArray, List.set_cons_zero, List.set_cons_succ])
       go_cut [84] (fun v84 wc => ∃ (kq : Nat) (x84_99 : Bool), v84 = .bool x84_99 ∧ Aside0 (tollhouselaw10_UriJoins.j2 kq a2 x84_99 a0_0 a0_1 a0_2 = some r) ∧ Aside0 (kq ≤ kj62) ∧ Aside0 (wc.heap[gb320]? = some (.cells #[.string a0_0, .int .i64 a0_1, .string a0_2] 35 (0, 0))) ∧ Aside0 (wc.heap[gb321]? = some (.cells #[.string a1_0, .int .i64 a1_1, .string a1_2] 35 (0, 0))) ∧ Aside0 (wc.heap[gb327]? = some (.cells #[.string t323, .int .i64 t324, .string t325] 35 (0, 0))) ∧ Aside0 (wc.heap[gb336]? = some (.cells #[.string t332, .int .i64 t333, .string t334] 35 (0, 0))) ∧ Aside0 (wc.heap[gb337]? = some (.cells #[.string a0_0, .int .i64 a0_1, .string a1_2] 35 (0, 0))) ∧ Aside0 (Below w.heap.size w wc))
       case first =>
        have H := HC100.out
        clear HC100
        replace H := Option.bind_eq_some_iff.mp H
        obtain ⟨t338, A1200, H⟩ := H
        replace H : (if ((t335 == 0) != t338) = true then (tollhouselaw10_UriJoins.j2 kj62 a2 true a0_0 a0_1 a0_2) else (if t335 = 0 then (tollhouselaw10_UriJoins.j2 kj62 a2 (!(t332.toList == a0_0.toList) || (!(t333 == a0_1) || (!(t334.toList == a1_2.toList)))) a0_0 a0_1 a0_2) else (tollhouselaw10_UriJoins.j2 kj62 a2 false a0_0 a0_1 a0_2))) = some r := H
        have A120 := Aside0.mk A1200
        clear A1200
        by_cases c121 : ((t335 == 0) != t338) = true
        ·
         rw [if_pos c121] at H
         have c121b0 : ((t335 == 0) != t338) = true := c121
         (try (have c121b1 : decide ((t335 == 0) = t338) = false := by simpa using c121))
         (try (have c121b2 : ((t335 == 0) == t338) = false := by simpa using c121))
         (try (have c121b3 : ¬ ((t335 == 0) = t338) := by simpa using c121))
         clear c121
         (first | rw [c121b0] | (simp only [i64_w, i32_w]; rw [c121b0]) | skip)
         have H' := Aside0.mk H
         clear H
         have hnb122 := NB337_320.out
         have hnc122 := NB320_337.out
         have hnb123 := NB337_321.out
         have hnc123 := NB321_337.out
         have hnb124 := NB337_327.out
         have hnc124 := NB327_337.out
         have hnb125 := NB337_336.out
         have hnc125 := NB336_337.out
         have hcz126_0 : w114.cell? ⟨gb337, 0, none⟩ = some (.string (⟨#[]⟩ : ByteArray)) := (blk_cell BK337.out 0).trans rfl
         have hcz126_1 : w114.cell? ⟨gb337, 1, none⟩ = some (.int .i64 0) := (blk_cell BK337.out 1).trans rfl
         have hcz126_2 : w114.cell? ⟨gb337, 2, none⟩ = some (.string (⟨#[]⟩ : ByteArray)) := (blk_cell BK337.out 2).trans rfl
         have hfz126_0 := blk_frozen BK337.out 0
         have hfz126_1 := blk_frozen BK337.out 1
         have hfz126_2 := blk_frozen BK337.out 2
         go_wp2_with (first | ((with_reducible refine gate_callee (f := 22) rfl ?_); refine goesL_ (some 74) rfl rfl Tryd.func22 (by kernel_rfl) rfl #[.agg #[.string a0_0, .int .i64 a0_1, .string a1_2]] rfl (by (try simp only [List.map_toArray, List.map_cons, List.map_nil]); first | done | rfl | (simp only [List.length_drop, List.length_take]; rfl)) ?_; (with_reducible refine (uri_May.calls a0_0 a0_1 a1_2 t338 _ (Glob.below HGl.out (by repeat (first | (with_reducible first | exact HB.out | apply below_alloc | apply pw_below_drewN | apply below_drew1 | refine below_set ?_ GE320.out | refine below_set ?_ GE321.out | refine below_set ?_ GE327.out | refine below_set ?_ GE336.out | refine below_set ?_ GE337.out) | exact HB.out))) A120.out).mono ?_); rintro e w127 ⟨rfl, hb⟩; refine ⟨_, rfl, ?_⟩; have n0_ := Aside0.mk (blk_below (g := gb320) (o := .cells #[.string a0_0, .int .i64 a0_1, .string a0_2] 35 (0, 0)) (by (with_reducible repeat (first | refine blk_drewN ?_ _ | refine blk_drew ?_ | refine blk_alloc ?_ _)); refine blk_far ?_ NB320_337.out _; (with_reducible repeat (first | refine blk_drewN ?_ _ | refine blk_drew ?_ | refine blk_alloc ?_ _)); refine blk_far ?_ NB320_337.out _; (with_reducible repeat (first | refine blk_drewN ?_ _ | refine blk_drew ?_ | refine blk_alloc ?_ _)); refine blk_far ?_ NB320_337.out _; (with_reducible repeat (first | refine blk_drewN ?_ _ | refine blk_drew ?_ | refine blk_alloc ?_ _)); exact BK320.out) hb); have n1_ := Aside0.mk (blk_below (g := gb321) (o := .cells #[.string a1_0, .int .i64 a1_1, .string a1_2] 35 (0, 0)) (by (with_reducible repeat (first | refine blk_drewN ?_ _ | refine blk_drew ?_ | refine blk_alloc ?_ _)); refine blk_far ?_ NB321_337.out _; (with_reducible repeat (first | refine blk_drewN ?_ _ | refine blk_drew ?_ | refine blk_alloc ?_ _)); refine blk_far ?_ NB321_337.out _; (with_reducible repeat (first | refine blk_drewN ?_ _ | refine blk_drew ?_ | refine blk_alloc ?_ _)); refine blk_far ?_ NB321_337.out _; (with_reducible repeat (first | refine blk_drewN ?_ _ | refine blk_drew ?_ | refine blk_alloc ?_ _)); exact BK321.out) hb); have n2_ := Aside0.mk (blk_below (g := gb327) (o := .cells #[.string t323, .int .i64 t324, .string t325] 35 (0, 0)) (by (with_reducible repeat (first | refine blk_drewN ?_ _ | refine blk_drew ?_ | refine blk_alloc ?_ _)); refine blk_far ?_ NB327_337.out _; (with_reducible repeat (first | refine blk_drewN ?_ _ | refine blk_drew ?_ | refine blk_alloc ?_ _)); refine blk_far ?_ NB327_337.out _; (with_reducible repeat (first | refine blk_drewN ?_ _ | refine blk_drew ?_ | refine blk_alloc ?_ _)); refine blk_far ?_ NB327_337.out _; (with_reducible repeat (first | refine blk_drewN ?_ _ | refine blk_drew ?_ | refine blk_alloc ?_ _)); exact BK327.out) hb); have n3_ := Aside0.mk (blk_below (g := gb336) (o := .cells #[.string t332, .int .i64 t333, .string t334] 35 (0, 0)) (by (with_reducible repeat (first | refine blk_drewN ?_ _ | refine blk_drew ?_ | refine blk_alloc ?_ _)); refine blk_far ?_ NB336_337.out _; (with_reducible repeat (first | refine blk_drewN ?_ _ | refine blk_drew ?_ | refine blk_alloc ?_ _)); refine blk_far ?_ NB336_337.out _; (with_reducible repeat (first | refine blk_drewN ?_ _ | refine blk_drew ?_ | refine blk_alloc ?_ _)); refine blk_far ?_ NB336_337.out _; (with_reducible repeat (first | refine blk_drewN ?_ _ | refine blk_drew ?_ | refine blk_alloc ?_ _)); exact BK336.out) hb); have n4_ := Aside0.mk (blk_below (g := gb337) (o := .cells #[.string a0_0, .int .i64 a0_1, .string a1_2] 35 (0, 0)) (by (with_reducible repeat (first | refine blk_drewN ?_ _ | refine blk_drew ?_ | refine blk_alloc ?_ _)); refine blk_put (cs := #[.string a0_0, .int .i64 a0_1, .string (⟨#[]⟩ : ByteArray)]) ?_ 2 _ rfl; (with_reducible repeat (first | refine blk_drewN ?_ _ | refine blk_drew ?_ | refine blk_alloc ?_ _)); refine blk_put (cs := #[.string a0_0, .int .i64 0, .string (⟨#[]⟩ : ByteArray)]) ?_ 1 _ rfl; (with_reducible repeat (first | refine blk_drewN ?_ _ | refine blk_drew ?_ | refine blk_alloc ?_ _)); refine blk_put (cs := #[.string (⟨#[]⟩ : ByteArray), .int .i64 0, .string (⟨#[]⟩ : ByteArray)]) ?_ 0 _ rfl; (with_reducible repeat (first | refine blk_drewN ?_ _ | refine blk_drew ?_ | refine blk_alloc ?_ _)); exact BK337.out) hb); have n5_ := Aside0.mk (below_step (by repeat (first | (with_reducible first | exact HB.out | apply below_alloc | apply pw_below_drewN | apply below_drew1 | refine below_set ?_ GE320.out | refine below_set ?_ GE321.out | refine below_set ?_ GE327.out | refine below_set ?_ GE336.out | refine below_set ?_ GE337.out) | exact HB.out)) hb); clear BK320; clear BK321; clear BK327; clear BK336; clear BK337; clear HB; have BK320 := n0_; have BK321 := n1_; have BK327 := n2_; have BK336 := n3_; have BK337 := n4_; have HB := n5_; clear n0_ n1_ n2_ n3_ n4_ n5_; (try clear hb); (try clear hb2); (try clear hk); (try clear hi)))
         go_meet
         case rel => exact ⟨_, (true), (by first | rfl | (simp; done) | (simp [*]; done)), H', ⟨by have := HJ5.out; have := HJ62.out; first | omega | exact Nat.le_refl _⟩, ⟨by (with_reducible repeat (first | refine blk_drewN ?_ _ | refine blk_drew ?_ | refine blk_alloc ?_ _)); exact BK320.out⟩, ⟨by (with_reducible repeat (first | refine blk_drewN ?_ _ | refine blk_drew ?_ | refine blk_alloc ?_ _)); exact BK321.out⟩, ⟨by (with_reducible repeat (first | refine blk_drewN ?_ _ | refine blk_drew ?_ | refine blk_alloc ?_ _)); exact BK327.out⟩, ⟨by (with_reducible repeat (first | refine blk_drewN ?_ _ | refine blk_drew ?_ | refine blk_alloc ?_ _)); exact BK336.out⟩, ⟨by (with_reducible repeat (first | refine blk_drewN ?_ _ | refine blk_drew ?_ | refine blk_alloc ?_ _)); exact BK337.out⟩, ⟨by repeat (first | (with_reducible first | exact HB.out | apply below_alloc | apply pw_below_drewN | apply below_drew1 | refine below_set ?_ GE320.out | refine below_set ?_ GE321.out | refine below_set ?_ GE327.out | refine below_set ?_ GE336.out | refine below_set ?_ GE337.out) | exact HB.out)⟩⟩
        ·
         rw [if_neg c121] at H
         have c121b0 : ((t335 == 0) != t338) = false := by simpa using c121
         (try (have c121b1 : decide ((t335 == 0) = t338) = true := by simpa using c121))
         (try (have c121b2 : ((t335 == 0) == t338) = true := by simpa using c121))
         clear c121
         (first | rw [c121b0] | (simp only [i64_w, i32_w]; rw [c121b0]) | skip)
         by_cases c128 : t335 = 0
         ·
          rw [if_pos c128] at H
          have c128b0 : (t335 == 0) = true := beq_iff_eq.mpr c128
          have hx3_ : t338 = true := by have h_ := c121b0; rw [c128b0] at h_; simpa using h_
          have c128b1 : (t335 != 0) = false := bne_eq_false_iff_eq.mpr c128
          clear c128
          have H' := Aside0.mk H
          clear H
          have hnb129 := NB337_320.out
          have hnc129 := NB320_337.out
          have hnb130 := NB337_321.out
          have hnc130 := NB321_337.out
          have hnb131 := NB337_327.out
          have hnc131 := NB327_337.out
          have hnb132 := NB337_336.out
          have hnc132 := NB336_337.out
          have hcz133_0 : w114.cell? ⟨gb337, 0, none⟩ = some (.string (⟨#[]⟩ : ByteArray)) := (blk_cell BK337.out 0).trans rfl
          have hcz133_1 : w114.cell? ⟨gb337, 1, none⟩ = some (.int .i64 0) := (blk_cell BK337.out 1).trans rfl
          have hcz133_2 : w114.cell? ⟨gb337, 2, none⟩ = some (.string (⟨#[]⟩ : ByteArray)) := (blk_cell BK337.out 2).trans rfl
          have hfz133_0 := blk_frozen BK337.out 0
          have hfz133_1 := blk_frozen BK337.out 1
          have hfz133_2 := blk_frozen BK337.out 2
          go_wp2_with (first | ((with_reducible refine gate_callee (f := 22) rfl ?_); refine goesL_ (some 74) rfl rfl Tryd.func22 (by kernel_rfl) rfl #[.agg #[.string a0_0, .int .i64 a0_1, .string a1_2]] rfl (by (try simp only [List.map_toArray, List.map_cons, List.map_nil]); first | done | rfl | (simp only [List.length_drop, List.length_take]; rfl)) ?_; (with_reducible refine (uri_May.calls a0_0 a0_1 a1_2 t338 _ (Glob.below HGl.out (by repeat (first | (with_reducible first | exact HB.out | apply below_alloc | apply pw_below_drewN | apply below_drew1 | refine below_set ?_ GE320.out | refine below_set ?_ GE321.out | refine below_set ?_ GE327.out | refine below_set ?_ GE336.out | refine below_set ?_ GE337.out) | exact HB.out))) A120.out).mono ?_); rintro e w134 ⟨rfl, hb⟩; refine ⟨_, rfl, ?_⟩; have n0_ := Aside0.mk (blk_below (g := gb320) (o := .cells #[.string a0_0, .int .i64 a0_1, .string a0_2] 35 (0, 0)) (by (with_reducible repeat (first | refine blk_drewN ?_ _ | refine blk_drew ?_ | refine blk_alloc ?_ _)); refine blk_far ?_ NB320_337.out _; (with_reducible repeat (first | refine blk_drewN ?_ _ | refine blk_drew ?_ | refine blk_alloc ?_ _)); refine blk_far ?_ NB320_337.out _; (with_reducible repeat (first | refine blk_drewN ?_ _ | refine blk_drew ?_ | refine blk_alloc ?_ _)); refine blk_far ?_ NB320_337.out _; (with_reducible repeat (first | refine blk_drewN ?_ _ | refine blk_drew ?_ | refine blk_alloc ?_ _)); exact BK320.out) hb); have n1_ := Aside0.mk (blk_below (g := gb321) (o := .cells #[.string a1_0, .int .i64 a1_1, .string a1_2] 35 (0, 0)) (by (with_reducible repeat (first | refine blk_drewN ?_ _ | refine blk_drew ?_ | refine blk_alloc ?_ _)); refine blk_far ?_ NB321_337.out _; (with_reducible repeat (first | refine blk_drewN ?_ _ | refine blk_drew ?_ | refine blk_alloc ?_ _)); refine blk_far ?_ NB321_337.out _; (with_reducible repeat (first | refine blk_drewN ?_ _ | refine blk_drew ?_ | refine blk_alloc ?_ _)); refine blk_far ?_ NB321_337.out _; (with_reducible repeat (first | refine blk_drewN ?_ _ | refine blk_drew ?_ | refine blk_alloc ?_ _)); exact BK321.out) hb); have n2_ := Aside0.mk (blk_below (g := gb327) (o := .cells #[.string t323, .int .i64 t324, .string t325] 35 (0, 0)) (by (with_reducible repeat (first | refine blk_drewN ?_ _ | refine blk_drew ?_ | refine blk_alloc ?_ _)); refine blk_far ?_ NB327_337.out _; (with_reducible repeat (first | refine blk_drewN ?_ _ | refine blk_drew ?_ | refine blk_alloc ?_ _)); refine blk_far ?_ NB327_337.out _; (with_reducible repeat (first | refine blk_drewN ?_ _ | refine blk_drew ?_ | refine blk_alloc ?_ _)); refine blk_far ?_ NB327_337.out _; (with_reducible repeat (first | refine blk_drewN ?_ _ | refine blk_drew ?_ | refine blk_alloc ?_ _)); exact BK327.out) hb); have n3_ := Aside0.mk (blk_below (g := gb336) (o := .cells #[.string t332, .int .i64 t333, .string t334] 35 (0, 0)) (by (with_reducible repeat (first | refine blk_drewN ?_ _ | refine blk_drew ?_ | refine blk_alloc ?_ _)); refine blk_far ?_ NB336_337.out _; (with_reducible repeat (first | refine blk_drewN ?_ _ | refine blk_drew ?_ | refine blk_alloc ?_ _)); refine blk_far ?_ NB336_337.out _; (with_reducible repeat (first | refine blk_drewN ?_ _ | refine blk_drew ?_ | refine blk_alloc ?_ _)); refine blk_far ?_ NB336_337.out _; (with_reducible repeat (first | refine blk_drewN ?_ _ | refine blk_drew ?_ | refine blk_alloc ?_ _)); exact BK336.out) hb); have n4_ := Aside0.mk (blk_below (g := gb337) (o := .cells #[.string a0_0, .int .i64 a0_1, .string a1_2] 35 (0, 0)) (by (with_reducible repeat (first | refine blk_drewN ?_ _ | refine blk_drew ?_ | refine blk_alloc ?_ _)); refine blk_put (cs := #[.string a0_0, .int .i64 a0_1, .string (⟨#[]⟩ : ByteArray)]) ?_ 2 _ rfl; (with_reducible repeat (first | refine blk_drewN ?_ _ | refine blk_drew ?_ | refine blk_alloc ?_ _)); refine blk_put (cs := #[.string a0_0, .int .i64 0, .string (⟨#[]⟩ : ByteArray)]) ?_ 1 _ rfl; (with_reducible repeat (first | refine blk_drewN ?_ _ | refine blk_drew ?_ | refine blk_alloc ?_ _)); refine blk_put (cs := #[.string (⟨#[]⟩ : ByteArray), .int .i64 0, .string (⟨#[]⟩ : ByteArray)]) ?_ 0 _ rfl; (with_reducible repeat (first | refine blk_drewN ?_ _ | refine blk_drew ?_ | refine blk_alloc ?_ _)); exact BK337.out) hb); have n5_ := Aside0.mk (below_step (by repeat (first | (with_reducible first | exact HB.out | apply below_alloc | apply pw_below_drewN | apply below_drew1 | refine below_set ?_ GE320.out | refine below_set ?_ GE321.out | refine below_set ?_ GE327.out | refine below_set ?_ GE336.out | refine below_set ?_ GE337.out) | exact HB.out)) hb); clear BK320; clear BK321; clear BK327; clear BK336; clear BK337; clear HB; have BK320 := n0_; have BK321 := n1_; have BK327 := n2_; have BK336 := n3_; have BK337 := n4_; have HB := n5_; clear n0_ n1_ n2_ n3_ n4_ n5_; (try clear hb); (try clear hb2); (try clear hk); (try clear hi); have hnb135 := NB336_320.out; have hnc135 := NB320_336.out; have hnb136 := NB336_321.out; have hnc136 := NB321_336.out; have hnb137 := NB336_327.out; have hnc137 := NB327_336.out; have hcz138_0 : w134.cell? ⟨gb336, 0, none⟩ = some (.string t332) := (blk_cell BK336.out 0).trans rfl; have hcz138_1 : w134.cell? ⟨gb336, 1, none⟩ = some (.int .i64 t333) := (blk_cell BK336.out 1).trans rfl; have hcz138_2 : w134.cell? ⟨gb336, 2, none⟩ = some (.string t334) := (blk_cell BK336.out 2).trans rfl; have hfz138_0 := blk_frozen BK336.out 0; have hfz138_1 := blk_frozen BK336.out 1; have hfz138_2 := blk_frozen BK336.out 2; have hcz139_0 : w134.cell? ⟨gb337, 0, none⟩ = some (.string a0_0) := (blk_cell BK337.out 0).trans rfl; have hcz139_1 : w134.cell? ⟨gb337, 1, none⟩ = some (.int .i64 a0_1) := (blk_cell BK337.out 1).trans rfl; have hcz139_2 : w134.cell? ⟨gb337, 2, none⟩ = some (.string a1_2) := (blk_cell BK337.out 2).trans rfl; have hfz139_0 := blk_frozen BK337.out 0; have hfz139_1 := blk_frozen BK337.out 1; have hfz139_2 := blk_frozen BK337.out 2))
          go_meet
          case rel => exact ⟨_, ((!(t332.toList == a0_0.toList) || (!(t333 == a0_1) || (!(t334.toList == a1_2.toList))))), (by first | rfl | (simp; done) | (simp [*]; done)), H', ⟨by have := HJ5.out; have := HJ62.out; first | omega | exact Nat.le_refl _⟩, ⟨by (with_reducible repeat (first | refine blk_drewN ?_ _ | refine blk_drew ?_ | refine blk_alloc ?_ _)); exact BK320.out⟩, ⟨by (with_reducible repeat (first | refine blk_drewN ?_ _ | refine blk_drew ?_ | refine blk_alloc ?_ _)); exact BK321.out⟩, ⟨by (with_reducible repeat (first | refine blk_drewN ?_ _ | refine blk_drew ?_ | refine blk_alloc ?_ _)); exact BK327.out⟩, ⟨by (with_reducible repeat (first | refine blk_drewN ?_ _ | refine blk_drew ?_ | refine blk_alloc ?_ _)); exact BK336.out⟩, ⟨by (with_reducible repeat (first | refine blk_drewN ?_ _ | refine blk_drew ?_ | refine blk_alloc ?_ _)); exact BK337.out⟩, ⟨by repeat (first | (with_reducible first | exact HB.out | apply below_alloc | apply pw_below_drewN | apply below_drew1 | refine below_set ?_ GE320.out | refine below_set ?_ GE321.out | refine below_set ?_ GE327.out | refine below_set ?_ GE336.out | refine below_set ?_ GE337.out) | exact HB.out)⟩⟩
         ·
          rw [if_neg c128] at H
          have c128b0 : (t335 == 0) = false := beq_eq_false_iff_ne.mpr c128
          have hx4_ : t338 = false := by have h_ := c121b0; rw [c128b0] at h_; simpa using h_
          have c128b1 : (t335 != 0) = true := bne_iff_ne.mpr c128
          have H' := Aside0.mk H
          clear H
          have hnb140 := NB337_320.out
          have hnc140 := NB320_337.out
          have hnb141 := NB337_321.out
          have hnc141 := NB321_337.out
          have hnb142 := NB337_327.out
          have hnc142 := NB327_337.out
          have hnb143 := NB337_336.out
          have hnc143 := NB336_337.out
          have hcz144_0 : w114.cell? ⟨gb337, 0, none⟩ = some (.string (⟨#[]⟩ : ByteArray)) := (blk_cell BK337.out 0).trans rfl
          have hcz144_1 : w114.cell? ⟨gb337, 1, none⟩ = some (.int .i64 0) := (blk_cell BK337.out 1).trans rfl
          have hcz144_2 : w114.cell? ⟨gb337, 2, none⟩ = some (.string (⟨#[]⟩ : ByteArray)) := (blk_cell BK337.out 2).trans rfl
          have hfz144_0 := blk_frozen BK337.out 0
          have hfz144_1 := blk_frozen BK337.out 1
          have hfz144_2 := blk_frozen BK337.out 2
          go_wp2_with (first | ((with_reducible refine gate_callee (f := 22) rfl ?_); refine goesL_ (some 74) rfl rfl Tryd.func22 (by kernel_rfl) rfl #[.agg #[.string a0_0, .int .i64 a0_1, .string a1_2]] rfl (by (try simp only [List.map_toArray, List.map_cons, List.map_nil]); first | done | rfl | (simp only [List.length_drop, List.length_take]; rfl)) ?_; (with_reducible refine (uri_May.calls a0_0 a0_1 a1_2 t338 _ (Glob.below HGl.out (by repeat (first | (with_reducible first | exact HB.out | apply below_alloc | apply pw_below_drewN | apply below_drew1 | refine below_set ?_ GE320.out | refine below_set ?_ GE321.out | refine below_set ?_ GE327.out | refine below_set ?_ GE336.out | refine below_set ?_ GE337.out) | exact HB.out))) A120.out).mono ?_); rintro e w145 ⟨rfl, hb⟩; refine ⟨_, rfl, ?_⟩; have n0_ := Aside0.mk (blk_below (g := gb320) (o := .cells #[.string a0_0, .int .i64 a0_1, .string a0_2] 35 (0, 0)) (by (with_reducible repeat (first | refine blk_drewN ?_ _ | refine blk_drew ?_ | refine blk_alloc ?_ _)); refine blk_far ?_ NB320_337.out _; (with_reducible repeat (first | refine blk_drewN ?_ _ | refine blk_drew ?_ | refine blk_alloc ?_ _)); refine blk_far ?_ NB320_337.out _; (with_reducible repeat (first | refine blk_drewN ?_ _ | refine blk_drew ?_ | refine blk_alloc ?_ _)); refine blk_far ?_ NB320_337.out _; (with_reducible repeat (first | refine blk_drewN ?_ _ | refine blk_drew ?_ | refine blk_alloc ?_ _)); exact BK320.out) hb); have n1_ := Aside0.mk (blk_below (g := gb321) (o := .cells #[.string a1_0, .int .i64 a1_1, .string a1_2] 35 (0, 0)) (by (with_reducible repeat (first | refine blk_drewN ?_ _ | refine blk_drew ?_ | refine blk_alloc ?_ _)); refine blk_far ?_ NB321_337.out _; (with_reducible repeat (first | refine blk_drewN ?_ _ | refine blk_drew ?_ | refine blk_alloc ?_ _)); refine blk_far ?_ NB321_337.out _; (with_reducible repeat (first | refine blk_drewN ?_ _ | refine blk_drew ?_ | refine blk_alloc ?_ _)); refine blk_far ?_ NB321_337.out _; (with_reducible repeat (first | refine blk_drewN ?_ _ | refine blk_drew ?_ | refine blk_alloc ?_ _)); exact BK321.out) hb); have n2_ := Aside0.mk (blk_below (g := gb327) (o := .cells #[.string t323, .int .i64 t324, .string t325] 35 (0, 0)) (by (with_reducible repeat (first | refine blk_drewN ?_ _ | refine blk_drew ?_ | refine blk_alloc ?_ _)); refine blk_far ?_ NB327_337.out _; (with_reducible repeat (first | refine blk_drewN ?_ _ | refine blk_drew ?_ | refine blk_alloc ?_ _)); refine blk_far ?_ NB327_337.out _; (with_reducible repeat (first | refine blk_drewN ?_ _ | refine blk_drew ?_ | refine blk_alloc ?_ _)); refine blk_far ?_ NB327_337.out _; (with_reducible repeat (first | refine blk_drewN ?_ _ | refine blk_drew ?_ | refine blk_alloc ?_ _)); exact BK327.out) hb); have n3_ := Aside0.mk (blk_below (g := gb336) (o := .cells #[.string t332, .int .i64 t333, .string t334] 35 (0, 0)) (by (with_reducible repeat (first | refine blk_drewN ?_ _ | refine blk_drew ?_ | refine blk_alloc ?_ _)); refine blk_far ?_ NB336_337.out _; (with_reducible repeat (first | refine blk_drewN ?_ _ | refine blk_drew ?_ | refine blk_alloc ?_ _)); refine blk_far ?_ NB336_337.out _; (with_reducible repeat (first | refine blk_drewN ?_ _ | refine blk_drew ?_ | refine blk_alloc ?_ _)); refine blk_far ?_ NB336_337.out _; (with_reducible repeat (first | refine blk_drewN ?_ _ | refine blk_drew ?_ | refine blk_alloc ?_ _)); exact BK336.out) hb); have n4_ := Aside0.mk (blk_below (g := gb337) (o := .cells #[.string a0_0, .int .i64 a0_1, .string a1_2] 35 (0, 0)) (by (with_reducible repeat (first | refine blk_drewN ?_ _ | refine blk_drew ?_ | refine blk_alloc ?_ _)); refine blk_put (cs := #[.string a0_0, .int .i64 a0_1, .string (⟨#[]⟩ : ByteArray)]) ?_ 2 _ rfl; (with_reducible repeat (first | refine blk_drewN ?_ _ | refine blk_drew ?_ | refine blk_alloc ?_ _)); refine blk_put (cs := #[.string a0_0, .int .i64 0, .string (⟨#[]⟩ : ByteArray)]) ?_ 1 _ rfl; (with_reducible repeat (first | refine blk_drewN ?_ _ | refine blk_drew ?_ | refine blk_alloc ?_ _)); refine blk_put (cs := #[.string (⟨#[]⟩ : ByteArray), .int .i64 0, .string (⟨#[]⟩ : ByteArray)]) ?_ 0 _ rfl; (with_reducible repeat (first | refine blk_drewN ?_ _ | refine blk_drew ?_ | refine blk_alloc ?_ _)); exact BK337.out) hb); have n5_ := Aside0.mk (below_step (by repeat (first | (with_reducible first | exact HB.out | apply below_alloc | apply pw_below_drewN | apply below_drew1 | refine below_set ?_ GE320.out | refine below_set ?_ GE321.out | refine below_set ?_ GE327.out | refine below_set ?_ GE336.out | refine below_set ?_ GE337.out) | exact HB.out)) hb); clear BK320; clear BK321; clear BK327; clear BK336; clear BK337; clear HB; have BK320 := n0_; have BK321 := n1_; have BK327 := n2_; have BK336 := n3_; have BK337 := n4_; have HB := n5_; clear n0_ n1_ n2_ n3_ n4_ n5_; (try clear hb); (try clear hb2); (try clear hk); (try clear hi)))
          go_meet
          case rel => exact ⟨_, (false), (by first | rfl | (simp; done) | (simp [*]; done)), H', ⟨by have := HJ5.out; have := HJ62.out; first | omega | exact Nat.le_refl _⟩, ⟨by (with_reducible repeat (first | refine blk_drewN ?_ _ | refine blk_drew ?_ | refine blk_alloc ?_ _)); exact BK320.out⟩, ⟨by (with_reducible repeat (first | refine blk_drewN ?_ _ | refine blk_drew ?_ | refine blk_alloc ?_ _)); exact BK321.out⟩, ⟨by (with_reducible repeat (first | refine blk_drewN ?_ _ | refine blk_drew ?_ | refine blk_alloc ?_ _)); exact BK327.out⟩, ⟨by (with_reducible repeat (first | refine blk_drewN ?_ _ | refine blk_drew ?_ | refine blk_alloc ?_ _)); exact BK336.out⟩, ⟨by (with_reducible repeat (first | refine blk_drewN ?_ _ | refine blk_drew ?_ | refine blk_alloc ?_ _)); exact BK337.out⟩, ⟨by repeat (first | (with_reducible first | exact HB.out | apply below_alloc | apply pw_below_drewN | apply below_drew1 | refine below_set ?_ GE320.out | refine below_set ?_ GE321.out | refine below_set ?_ GE327.out | refine below_set ?_ GE336.out | refine below_set ?_ GE337.out) | exact HB.out)⟩⟩
       case rest =>
        clear HC100
        try clear c1
        try clear c2
        try clear p2
        try clear c3
        try clear c4
        try clear c5
        try clear c6
        try clear c7
        try clear p7
        try clear q7
        try clear hx7
        try clear qi7
        try clear c8
        try clear c9
        try clear c10
        try clear c11
        try clear c12
        try clear c13
        try clear c14
        try clear c18
        try clear c20
        try clear c20b0
        try clear c20b1
        try clear c20b2
        try clear c21
        try clear c22
        try clear c25
        try clear c28
        try clear c28b0
        try clear c28b1
        try clear c29
        try clear c30
        try clear c33
        try clear c38
        try clear c39
        try clear c42
        try clear c45
        try clear c45b0
        try clear c45b1
        try clear c45b2
        try clear c46
        try clear c47
        try clear c50
        try clear c50b0
        try clear c50b1
        try clear c51
        try clear c52
        try clear c55
        try clear c58
        try clear c59
        try clear c62
        try clear c65
        try clear c67
        try clear c68
        try clear c68b0
        try clear c68b1
        try clear c69
        try clear c70
        try clear c73
        try clear c77
        try clear c77b0
        try clear c77b1
        try clear p78
        try clear q78
        try clear hx78
        try clear qi78
        try clear c79
        try clear c80
        try clear c83
        try clear c87
        try clear c88
        try clear c91
        try clear c94
        try clear c95
        try clear c98
        try clear c101
        try clear c102
        try clear c104
        try clear c108
        try clear c109
        try clear c110
        try clear c115
        try clear c116
        try clear c117
        try clear c118
        try clear c121
        try clear c121b0
        try clear c121b1
        try clear c121b2
        try clear c122
        try clear c123
        try clear c124
        try clear c125
        try clear c128
        try clear c128b0
        try clear c128b1
        try clear c129
        try clear c130
        try clear c131
        try clear c132
        try clear c135
        try clear c136
        try clear c137
        try clear c140
        try clear c141
        try clear c142
        try clear c143
        try clear hcz103_0
        try clear hcz103_1
        try clear hcz103_2
        try clear hcz105_0
        try clear hcz105_1
        try clear hcz105_2
        try clear hcz111_0
        try clear hcz111_1
        try clear hcz111_2
        try clear hcz112_0
        try clear hcz112_1
        try clear hcz112_2
        try clear hcz113_0
        try clear hcz113_1
        try clear hcz113_2
        try clear hcz119_0
        try clear hcz119_1
        try clear hcz119_2
        try clear hcz126_0
        try clear hcz126_1
        try clear hcz126_2
        try clear hcz133_0
        try clear hcz133_1
        try clear hcz133_2
        try clear hcz138_0
        try clear hcz138_1
        try clear hcz138_2
        try clear hcz139_0
        try clear hcz139_1
        try clear hcz139_2
        try clear hcz144_0
        try clear hcz144_1
        try clear hcz144_2
        try clear hcz23_0
        try clear hcz23_1
        try clear hcz23_2
        try clear hcz26_0
        try clear hcz26_1
        try clear hcz26_2
        try clear hcz31_0
        try clear hcz31_1
        try clear hcz31_2
        try clear hcz34_0
        try clear hcz34_1
        try clear hcz34_2
        try clear hcz36_0
        try clear hcz36_1
        try clear hcz36_2
        try clear hcz37_0
        try clear hcz37_1
        try clear hcz37_2
        try clear hcz40_0
        try clear hcz40_1
        try clear hcz40_2
        try clear hcz43_0
        try clear hcz43_1
        try clear hcz43_2
        try clear hcz48_0
        try clear hcz48_1
        try clear hcz48_2
        try clear hcz53_0
        try clear hcz53_1
        try clear hcz53_2
        try clear hcz56_0
        try clear hcz56_1
        try clear hcz56_2
        try clear hcz57_0
        try clear hcz57_1
        try clear hcz57_2
        try clear hcz60_0
        try clear hcz60_1
        try clear hcz60_2
        try clear hcz71_0
        try clear hcz71_1
        try clear hcz71_2
        try clear hcz74_0
        try clear hcz74_1
        try clear hcz74_2
        try clear hcz76_0
        try clear hcz76_1
        try clear hcz76_2
        try clear hcz81_0
        try clear hcz81_1
        try clear hcz81_2
        try clear hcz84_0
        try clear hcz84_1
        try clear hcz84_2
        try clear hcz86_0
        try clear hcz86_1
        try clear hcz86_2
        try clear hcz89_0
        try clear hcz89_1
        try clear hcz89_2
        try clear hcz92_0
        try clear hcz92_1
        try clear hcz92_2
        try clear hcz96_0
        try clear hcz96_1
        try clear hcz96_2
        try clear hfz103_0
        try clear hfz103_1
        try clear hfz103_2
        try clear hfz105_0
        try clear hfz105_1
        try clear hfz105_2
        try clear hfz111_0
        try clear hfz111_1
        try clear hfz111_2
        try clear hfz112_0
        try clear hfz112_1
        try clear hfz112_2
        try clear hfz113_0
        try clear hfz113_1
        try clear hfz113_2
        try clear hfz119_0
        try clear hfz119_1
        try clear hfz119_2
        try clear hfz126_0
        try clear hfz126_1
        try clear hfz126_2
        try clear hfz133_0
        try clear hfz133_1
        try clear hfz133_2
        try clear hfz138_0
        try clear hfz138_1
        try clear hfz138_2
        try clear hfz139_0
        try clear hfz139_1
        try clear hfz139_2
        try clear hfz144_0
        try clear hfz144_1
        try clear hfz144_2
        try clear hfz23_0
        try clear hfz23_1
        try clear hfz23_2
        try clear hfz26_0
        try clear hfz26_1
        try clear hfz26_2
        try clear hfz31_0
        try clear hfz31_1
        try clear hfz31_2
        try clear hfz34_0
        try clear hfz34_1
        try clear hfz34_2
        try clear hfz36_0
        try clear hfz36_1
        try clear hfz36_2
        try clear hfz37_0
        try clear hfz37_1
        try clear hfz37_2
        try clear hfz40_0
        try clear hfz40_1
        try clear hfz40_2
        try clear hfz43_0
        try clear hfz43_1
        try clear hfz43_2
        try clear hfz48_0
        try clear hfz48_1
        try clear hfz48_2
        try clear hfz53_0
        try clear hfz53_1
        try clear hfz53_2
        try clear hfz56_0
        try clear hfz56_1
        try clear hfz56_2
        try clear hfz57_0
        try clear hfz57_1
        try clear hfz57_2
        try clear hfz60_0
        try clear hfz60_1
        try clear hfz60_2
        try clear hfz71_0
        try clear hfz71_1
        try clear hfz71_2
        try clear hfz74_0
        try clear hfz74_1
        try clear hfz74_2
        try clear hfz76_0
        try clear hfz76_1
        try clear hfz76_2
        try clear hfz81_0
        try clear hfz81_1
        try clear hfz81_2
        try clear hfz84_0
        try clear hfz84_1
        try clear hfz84_2
        try clear hfz86_0
        try clear hfz86_1
        try clear hfz86_2
        try clear hfz89_0
        try clear hfz89_1
        try clear hfz89_2
        try clear hfz92_0
        try clear hfz92_1
        try clear hfz92_2
        try clear hfz96_0
        try clear hfz96_1
        try clear hfz96_2
        try clear p2
        try clear p7
        try clear p78
        try clear q7
        try clear q78
        obtain ⟨kq, x84_99, rfl, HA, HJ99, BK320, BK321, BK327, BK336, BK337, HB⟩ := hcut
        cases kq with
        | zero => exact absurd HA.out (by simp [tollhouselaw10_UriJoins.j2])
        | succ kj99 =>
         have H := HA.out
         clear HA
         simp only [tollhouselaw10_UriJoins.j2] at H
         by_cases c146 : x84_99 = true
         ·
          subst c146
          have H1 : (some false) = some r := by rw [if_pos rfl] at H; exact H
          clear H
          have H := H1
          clear H1
          exact absurd ((Option.some.inj H).trans HR_.out) (by decide)
         ·
          replace c146 := Bool.eq_false_iff.mpr c146
          subst c146
          have H1 : ((uri_Join.f kj99 a0_0 a0_1 a0_2 a2).bind fun bt339 => ((uri_May.f bt339.1 bt339.2.1 bt339.2.2.1).bind fun t344 => (if ((bt339.2.2.2 == 0) == t344) = true then (if bt339.2.2.2 = 0 then ((tollhouselaw10_wakes.f).bind fun t345 => (some t345)) else (if bt339.2.2.2 = 23 then (if (bt339.1.toList == ([] : List UInt8) && (bt339.2.1 == 0 && (bt339.2.2.1.toList == ([] : List UInt8)))) = true then ((tollhouselaw10_wakes.f).bind fun t346 => (some t346)) else (some false)) else (some false))) else (some false)))) = some r := by rw [if_neg (show ¬ (false = true) by decide)] at H; exact H
          clear H
          have H := H1
          clear H1
          replace H := Option.bind_eq_some_iff.mp H
          obtain ⟨⟨t339, t340, t341, t342⟩, A1470, H⟩ := H
          replace H : ((uri_May.f t339 t340 t341).bind fun t344 => (if ((t342 == 0) == t344) = true then (if t342 = 0 then ((tollhouselaw10_wakes.f).bind fun t345 => (some t345)) else (if t342 = 23 then (if (t339.toList == ([] : List UInt8) && (t340 == 0 && (t341.toList == ([] : List UInt8)))) = true then ((tollhouselaw10_wakes.f).bind fun t346 => (some t346)) else (some false)) else (some false))) else (some false))) = some r := H
          have A147 := Aside0.mk A1470
          clear A1470
          replace H := Option.bind_eq_some_iff.mp H
          obtain ⟨t344, A1480, H⟩ := H
          replace H : (if ((t342 == 0) == t344) = true then (if t342 = 0 then ((tollhouselaw10_wakes.f).bind fun t345 => (some t345)) else (if t342 = 23 then (if (t339.toList == ([] : List UInt8) && (t340 == 0 && (t341.toList == ([] : List UInt8)))) = true then ((tollhouselaw10_wakes.f).bind fun t346 => (some t346)) else (some false)) else (some false))) else (some false)) = some r := H
          have A148 := Aside0.mk A1480
          clear A1480
          by_cases c149 : ((t342 == 0) == t344) = true
          ·
           rw [if_pos c149] at H
           have c149b0 : ((t342 == 0) == t344) = true := c149
           (try (have c149b1 : decide ((t342 == 0) = t344) = true := by simpa using c149))
           (try (have c149b2 : ((t342 == 0) == t344) = true := by simpa using c149))
           clear c149
           by_cases c150 : t342 = 0
           ·
            rw [if_pos c150] at H
            have c150b0 : (t342 == 0) = true := beq_iff_eq.mpr c150
            have hx5_ : t344 = true := by have h_ := c149b0; rw [c150b0] at h_; simpa using h_
            have c150b1 : (t342 != 0) = false := bne_eq_false_iff_eq.mpr c150
            clear c150
            replace H := Option.bind_eq_some_iff.mp H
            obtain ⟨t345, A1510, H⟩ := H
            replace H : (some t345) = some r := H
            have A151 := Aside0.mk A1510
            clear A1510
            obtain rfl := Option.some.inj H
            have hnb152 := NB320_321.out
            have hnc152 := NB321_320.out
            have hnb153 := NB320_327.out
            have hnc153 := NB327_320.out
            have hnb154 := NB320_336.out
            have hnc154 := NB336_320.out
            have hnb155 := NB320_337.out
            have hnc155 := NB337_320.out
            have hcz156_0 : wc.cell? ⟨gb320, 0, none⟩ = some (.string a0_0) := (blk_cell BK320.out 0).trans rfl
            have hcz156_1 : wc.cell? ⟨gb320, 1, none⟩ = some (.int .i64 a0_1) := (blk_cell BK320.out 1).trans rfl
            have hcz156_2 : wc.cell? ⟨gb320, 2, none⟩ = some (.string a0_2) := (blk_cell BK320.out 2).trans rfl
            have hfz156_0 := blk_frozen BK320.out 0
            have hfz156_1 := blk_frozen BK320.out 1
            have hfz156_2 := blk_frozen BK320.out 2
            go_wp2_with (first | ((with_reducible refine gate_callee (f := 28) rfl ?_); refine goesL_ (some 88) rfl rfl Tryd.func28 (by kernel_rfl) rfl #[.agg #[.string a0_0, .int .i64 a0_1, .string a0_2], .string a2] rfl (by (try simp only [List.map_toArray, List.map_cons, List.map_nil]); first | done | rfl | (simp only [List.length_drop, List.length_take]; rfl)) ?_; (with_reducible refine (uri_Join.calls kj99 a0_0 a0_1 a0_2 a2 t339 t340 t341 t342 _ (Glob.below HGl.out (by repeat (first | (with_reducible first | exact HB.out | apply below_alloc | apply pw_below_drewN | apply below_drew1 | refine below_set ?_ GE320.out | refine below_set ?_ GE321.out | refine below_set ?_ GE327.out | refine below_set ?_ GE336.out | refine below_set ?_ GE337.out) | exact HB.out))) A147.out).mono ?_); rintro e w157 ⟨rfl, hb⟩; refine ⟨_, rfl, ?_⟩; have n0_ := Aside0.mk (blk_below (g := gb320) (o := .cells #[.string a0_0, .int .i64 a0_1, .string a0_2] 35 (0, 0)) (by (with_reducible repeat (first | refine blk_drewN ?_ _ | refine blk_drew ?_ | refine blk_alloc ?_ _)); exact BK320.out) hb); have n1_ := Aside0.mk (blk_below (g := gb321) (o := .cells #[.string a1_0, .int .i64 a1_1, .string a1_2] 35 (0, 0)) (by (with_reducible repeat (first | refine blk_drewN ?_ _ | refine blk_drew ?_ | refine blk_alloc ?_ _)); exact BK321.out) hb); have n2_ := Aside0.mk (blk_below (g := gb327) (o := .cells #[.string t323, .int .i64 t324, .string t325] 35 (0, 0)) (by (with_reducible repeat (first | refine blk_drewN ?_ _ | refine blk_drew ?_ | refine blk_alloc ?_ _)); exact BK327.out) hb); have n3_ := Aside0.mk (blk_below (g := gb336) (o := .cells #[.string t332, .int .i64 t333, .string t334] 35 (0, 0)) (by (with_reducible repeat (first | refine blk_drewN ?_ _ | refine blk_drew ?_ | refine blk_alloc ?_ _)); exact BK336.out) hb); have n4_ := Aside0.mk (blk_below (g := gb337) (o := .cells #[.string a0_0, .int .i64 a0_1, .string a1_2] 35 (0, 0)) (by (with_reducible repeat (first | refine blk_drewN ?_ _ | refine blk_drew ?_ | refine blk_alloc ?_ _)); exact BK337.out) hb); have n5_ := Aside0.mk (below_step (by repeat (first | (with_reducible first | exact HB.out | apply below_alloc | apply pw_below_drewN | apply below_drew1 | refine below_set ?_ GE320.out | refine below_set ?_ GE321.out | refine below_set ?_ GE327.out | refine below_set ?_ GE336.out | refine below_set ?_ GE337.out) | exact HB.out)) hb); clear BK320; clear BK321; clear BK327; clear BK336; clear BK337; clear HB; have BK320 := n0_; have BK321 := n1_; have BK327 := n2_; have BK336 := n3_; have BK337 := n4_; have HB := n5_; clear n0_ n1_ n2_ n3_ n4_ n5_; (try clear hb); (try clear hb2); (try clear hk); (try clear hi)) | ((with_reducible refine gate_dst (N := 12) rfl ?_); (try (refine gate_guard (by rfl) ?_; dsimp only)); refine box_event ?hg (N := 12) ?hd (cs := #[.string (⟨#[]⟩ : ByteArray), .int .i64 0, .string (⟨#[]⟩ : ByteArray)]) (t := 35) ?hr ?_; (case hd => rfl); (case hg => rfl); (case hr => first | (go_simp; done) | (go_simp; rfl)); intro gb343 hg w158 hbox hb; have n0_ := Aside0.mk (blk_below (g := gb320) (o := .cells #[.string a0_0, .int .i64 a0_1, .string a0_2] 35 (0, 0)) (by (with_reducible repeat (first | refine blk_drewN ?_ _ | refine blk_drew ?_ | refine blk_alloc ?_ _)); exact BK320.out) hb); have n1_ := Aside0.mk (blk_below (g := gb321) (o := .cells #[.string a1_0, .int .i64 a1_1, .string a1_2] 35 (0, 0)) (by (with_reducible repeat (first | refine blk_drewN ?_ _ | refine blk_drew ?_ | refine blk_alloc ?_ _)); exact BK321.out) hb); have n2_ := Aside0.mk (blk_below (g := gb327) (o := .cells #[.string t323, .int .i64 t324, .string t325] 35 (0, 0)) (by (with_reducible repeat (first | refine blk_drewN ?_ _ | refine blk_drew ?_ | refine blk_alloc ?_ _)); exact BK327.out) hb); have n3_ := Aside0.mk (blk_below (g := gb336) (o := .cells #[.string t332, .int .i64 t333, .string t334] 35 (0, 0)) (by (with_reducible repeat (first | refine blk_drewN ?_ _ | refine blk_drew ?_ | refine blk_alloc ?_ _)); exact BK336.out) hb); have n4_ := Aside0.mk (blk_below (g := gb337) (o := .cells #[.string a0_0, .int .i64 a0_1, .string a1_2] 35 (0, 0)) (by (with_reducible repeat (first | refine blk_drewN ?_ _ | refine blk_drew ?_ | refine blk_alloc ?_ _)); exact BK337.out) hb); have n5_ := Aside0.mk (below_step (by repeat (first | (with_reducible first | exact HB.out | apply below_alloc | apply pw_below_drewN | apply below_drew1 | refine below_set ?_ GE320.out | refine below_set ?_ GE321.out | refine below_set ?_ GE327.out | refine below_set ?_ GE336.out | refine below_set ?_ GE337.out) | exact HB.out)) hb); have n6_ := Aside0.mk (hbox); have n7_ := Aside0.mk ((by rw [hg]; exact (below_size (by repeat (first | (with_reducible first | exact HB.out | apply below_alloc | apply pw_below_drewN | apply below_drew1 | refine below_set ?_ GE320.out | refine below_set ?_ GE321.out | refine below_set ?_ GE327.out | refine below_set ?_ GE336.out | refine below_set ?_ GE337.out) | exact HB.out))) : w.heap.size ≤ gb343)); have n8_ := Aside0.mk ((by rw [hg]; exact (below_size (by repeat (first | (with_reducible first | exact HB.out | apply below_alloc | apply pw_below_drewN | apply below_drew1 | refine below_set ?_ GE320.out | refine below_set ?_ GE321.out | refine below_set ?_ GE327.out | refine below_set ?_ GE336.out | refine below_set ?_ GE337.out) | exact HB.out))) : w.heap.size ≤ gb343)); have n9_ := Aside0.mk ((by rw [hg]; exact Nat.ne_of_lt (blk_lt (g := gb320) (o := .cells #[.string a0_0, .int .i64 a0_1, .string a0_2] 35 (0, 0)) (by (with_reducible repeat (first | refine blk_drewN ?_ _ | refine blk_drew ?_ | refine blk_alloc ?_ _)); exact BK320.out)) : gb320 ≠ gb343)); have n10_ := Aside0.mk ((by rw [hg]; exact Nat.ne_of_gt (blk_lt (g := gb320) (o := .cells #[.string a0_0, .int .i64 a0_1, .string a0_2] 35 (0, 0)) (by (with_reducible repeat (first | refine blk_drewN ?_ _ | refine blk_drew ?_ | refine blk_alloc ?_ _)); exact BK320.out)) : gb343 ≠ gb320)); have n11_ := Aside0.mk ((by rw [hg]; exact Nat.ne_of_lt (blk_lt (g := gb321) (o := .cells #[.string a1_0, .int .i64 a1_1, .string a1_2] 35 (0, 0)) (by (with_reducible repeat (first | refine blk_drewN ?_ _ | refine blk_drew ?_ | refine blk_alloc ?_ _)); exact BK321.out)) : gb321 ≠ gb343)); have n12_ := Aside0.mk ((by rw [hg]; exact Nat.ne_of_gt (blk_lt (g := gb321) (o := .cells #[.string a1_0, .int .i64 a1_1, .string a1_2] 35 (0, 0)) (by (with_reducible repeat (first | refine blk_drewN ?_ _ | refine blk_drew ?_ | refine blk_alloc ?_ _)); exact BK321.out)) : gb343 ≠ gb321)); have n13_ := Aside0.mk ((by rw [hg]; exact Nat.ne_of_lt (blk_lt (g := gb327) (o := .cells #[.string t323, .int .i64 t324, .string t325] 35 (0, 0)) (by (with_reducible repeat (first | refine blk_drewN ?_ _ | refine blk_drew ?_ | refine blk_alloc ?_ _)); exact BK327.out)) : gb327 ≠ gb343)); have n14_ := Aside0.mk ((by rw [hg]; exact Nat.ne_of_gt (blk_lt (g := gb327) (o := .cells #[.string t323, .int .i64 t324, .string t325] 35 (0, 0)) (by (with_reducible repeat (first | refine blk_drewN ?_ _ | refine blk_drew ?_ | refine blk_alloc ?_ _)); exact BK327.out)) : gb343 ≠ gb327)); have n15_ := Aside0.mk ((by rw [hg]; exact Nat.ne_of_lt (blk_lt (g := gb336) (o := .cells #[.string t332, .int .i64 t333, .string t334] 35 (0, 0)) (by (with_reducible repeat (first | refine blk_drewN ?_ _ | refine blk_drew ?_ | refine blk_alloc ?_ _)); exact BK336.out)) : gb336 ≠ gb343)); have n16_ := Aside0.mk ((by rw [hg]; exact Nat.ne_of_gt (blk_lt (g := gb336) (o := .cells #[.string t332, .int .i64 t333, .string t334] 35 (0, 0)) (by (with_reducible repeat (first | refine blk_drewN ?_ _ | refine blk_drew ?_ | refine blk_alloc ?_ _)); exact BK336.out)) : gb343 ≠ gb336)); have n17_ := Aside0.mk ((by rw [hg]; exact Nat.ne_of_lt (blk_lt (g := gb337) (o := .cells #[.string a0_0, .int .i64 a0_1, .string a1_2] 35 (0, 0)) (by (with_reducible repeat (first | refine blk_drewN ?_ _ | refine blk_drew ?_ | refine blk_alloc ?_ _)); exact BK337.out)) : gb337 ≠ gb343)); have n18_ := Aside0.mk ((by rw [hg]; exact Nat.ne_of_gt (blk_lt (g := gb337) (o := .cells #[.string a0_0, .int .i64 a0_1, .string a1_2] 35 (0, 0)) (by (with_reducible repeat (first | refine blk_drewN ?_ _ | refine blk_drew ?_ | refine blk_alloc ?_ _)); exact BK337.out)) : gb343 ≠ gb337)); clear BK320; clear BK321; clear BK327; clear BK336; clear BK337; clear HB; have BK320 := n0_; have BK321 := n1_; have BK327 := n2_; have BK336 := n3_; have BK337 := n4_; have HB := n5_; have BK343 := n6_; have GW343 := n7_; have GE343 := n8_; have NB320_343 := n9_; have NB343_320 := n10_; have NB321_343 := n11_; have NB343_321 := n12_; have NB327_343 := n13_; have NB343_327 := n14_; have NB336_343 := n15_; have NB343_336 := n16_; have NB337_343 := n17_; have NB343_337 := n18_; clear n0_ n1_ n2_ n3_ n4_ n5_ n6_ n7_ n8_ n9_ n10_ n11_ n12_ n13_ n14_ n15_ n16_ n17_ n18_; clear hb hbox hg; have hnb159 := NB343_320.out; have hnc159 := NB320_343.out; have hnb160 := NB343_321.out; have hnc160 := NB321_343.out; have hnb161 := NB343_327.out; have hnc161 := NB327_343.out; have hnb162 := NB343_336.out; have hnc162 := NB336_343.out; have hnb163 := NB343_337.out; have hnc163 := NB337_343.out; have hcz164_0 : w158.cell? ⟨gb343, 0, none⟩ = some (.string (⟨#[]⟩ : ByteArray)) := (blk_cell BK343.out 0).trans rfl; have hcz164_1 : w158.cell? ⟨gb343, 1, none⟩ = some (.int .i64 0) := (blk_cell BK343.out 1).trans rfl; have hcz164_2 : w158.cell? ⟨gb343, 2, none⟩ = some (.string (⟨#[]⟩ : ByteArray)) := (blk_cell BK343.out 2).trans rfl; have hfz164_0 := blk_frozen BK343.out 0; have hfz164_1 := blk_frozen BK343.out 1; have hfz164_2 := blk_frozen BK343.out 2) | ((with_reducible refine gate_callee (f := 22) rfl ?_); refine goesL_ (some 94) rfl rfl Tryd.func22 (by kernel_rfl) rfl #[.agg #[.string t339, .int .i64 t340, .string t341]] rfl (by (try simp only [List.map_toArray, List.map_cons, List.map_nil]); first | done | rfl | (simp only [List.length_drop, List.length_take]; rfl)) ?_; (with_reducible refine (uri_May.calls t339 t340 t341 t344 _ (Glob.below HGl.out (by repeat (first | (with_reducible first | exact HB.out | apply below_alloc | apply pw_below_drewN | apply below_drew1 | refine below_set ?_ GE320.out | refine below_set ?_ GE321.out | refine below_set ?_ GE327.out | refine below_set ?_ GE336.out | refine below_set ?_ GE337.out | refine below_set ?_ GE343.out) | exact HB.out))) A148.out).mono ?_); rintro e w165 ⟨rfl, hb⟩; refine ⟨_, rfl, ?_⟩; have n0_ := Aside0.mk (blk_below (g := gb320) (o := .cells #[.string a0_0, .int .i64 a0_1, .string a0_2] 35 (0, 0)) (by (with_reducible repeat (first | refine blk_drewN ?_ _ | refine blk_drew ?_ | refine blk_alloc ?_ _)); refine blk_far ?_ NB320_343.out _; (with_reducible repeat (first | refine blk_drewN ?_ _ | refine blk_drew ?_ | refine blk_alloc ?_ _)); refine blk_far ?_ NB320_343.out _; (with_reducible repeat (first | refine blk_drewN ?_ _ | refine blk_drew ?_ | refine blk_alloc ?_ _)); refine blk_far ?_ NB320_343.out _; (with_reducible repeat (first | refine blk_drewN ?_ _ | refine blk_drew ?_ | refine blk_alloc ?_ _)); exact BK320.out) hb); have n1_ := Aside0.mk (blk_below (g := gb321) (o := .cells #[.string a1_0, .int .i64 a1_1, .string a1_2] 35 (0, 0)) (by (with_reducible repeat (first | refine blk_drewN ?_ _ | refine blk_drew ?_ | refine blk_alloc ?_ _)); refine blk_far ?_ NB321_343.out _; (with_reducible repeat (first | refine blk_drewN ?_ _ | refine blk_drew ?_ | refine blk_alloc ?_ _)); refine blk_far ?_ NB321_343.out _; (with_reducible repeat (first | refine blk_drewN ?_ _ | refine blk_drew ?_ | refine blk_alloc ?_ _)); refine blk_far ?_ NB321_343.out _; (with_reducible repeat (first | refine blk_drewN ?_ _ | refine blk_drew ?_ | refine blk_alloc ?_ _)); exact BK321.out) hb); have n2_ := Aside0.mk (blk_below (g := gb327) (o := .cells #[.string t323, .int .i64 t324, .string t325] 35 (0, 0)) (by (with_reducible repeat (first | refine blk_drewN ?_ _ | refine blk_drew ?_ | refine blk_alloc ?_ _)); refine blk_far ?_ NB327_343.out _; (with_reducible repeat (first | refine blk_drewN ?_ _ | refine blk_drew ?_ | refine blk_alloc ?_ _)); refine blk_far ?_ NB327_343.out _; (with_reducible repeat (first | refine blk_drewN ?_ _ | refine blk_drew ?_ | refine blk_alloc ?_ _)); refine blk_far ?_ NB327_343.out _; (with_reducible repeat (first | refine blk_drewN ?_ _ | refine blk_drew ?_ | refine blk_alloc ?_ _)); exact BK327.out) hb); have n3_ := Aside0.mk (blk_below (g := gb336) (o := .cells #[.string t332, .int .i64 t333, .string t334] 35 (0, 0)) (by (with_reducible repeat (first | refine blk_drewN ?_ _ | refine blk_drew ?_ | refine blk_alloc ?_ _)); refine blk_far ?_ NB336_343.out _; (with_reducible repeat (first | refine blk_drewN ?_ _ | refine blk_drew ?_ | refine blk_alloc ?_ _)); refine blk_far ?_ NB336_343.out _; (with_reducible repeat (first | refine blk_drewN ?_ _ | refine blk_drew ?_ | refine blk_alloc ?_ _)); refine blk_far ?_ NB336_343.out _; (with_reducible repeat (first | refine blk_drewN ?_ _ | refine blk_drew ?_ | refine blk_alloc ?_ _)); exact BK336.out) hb); have n4_ := Aside0.mk (blk_below (g := gb337) (o := .cells #[.string a0_0, .int .i64 a0_1, .string a1_2] 35 (0, 0)) (by (with_reducible repeat (first | refine blk_drewN ?_ _ | refine blk_drew ?_ | refine blk_alloc ?_ _)); refine blk_far ?_ NB337_343.out _; (with_reducible repeat (first | refine blk_drewN ?_ _ | refine blk_drew ?_ | refine blk_alloc ?_ _)); refine blk_far ?_ NB337_343.out _; (with_reducible repeat (first | refine blk_drewN ?_ _ | refine blk_drew ?_ | refine blk_alloc ?_ _)); refine blk_far ?_ NB337_343.out _; (with_reducible repeat (first | refine blk_drewN ?_ _ | refine blk_drew ?_ | refine blk_alloc ?_ _)); exact BK337.out) hb); have n5_ := Aside0.mk (blk_below (g := gb343) (o := .cells #[.string t339, .int .i64 t340, .string t341] 35 (0, 0)) (by (with_reducible repeat (first | refine blk_drewN ?_ _ | refine blk_drew ?_ | refine blk_alloc ?_ _)); refine blk_put (cs := #[.string t339, .int .i64 t340, .string (⟨#[]⟩ : ByteArray)]) ?_ 2 _ rfl; (with_reducible repeat (first | refine blk_drewN ?_ _ | refine blk_drew ?_ | refine blk_alloc ?_ _)); refine blk_put (cs := #[.string t339, .int .i64 0, .string (⟨#[]⟩ : ByteArray)]) ?_ 1 _ rfl; (with_reducible repeat (first | refine blk_drewN ?_ _ | refine blk_drew ?_ | refine blk_alloc ?_ _)); refine blk_put (cs := #[.string (⟨#[]⟩ : ByteArray), .int .i64 0, .string (⟨#[]⟩ : ByteArray)]) ?_ 0 _ rfl; (with_reducible repeat (first | refine blk_drewN ?_ _ | refine blk_drew ?_ | refine blk_alloc ?_ _)); exact BK343.out) hb); have n6_ := Aside0.mk (below_step (by repeat (first | (with_reducible first | exact HB.out | apply below_alloc | apply pw_below_drewN | apply below_drew1 | refine below_set ?_ GE320.out | refine below_set ?_ GE321.out | refine below_set ?_ GE327.out | refine below_set ?_ GE336.out | refine below_set ?_ GE337.out | refine below_set ?_ GE343.out) | exact HB.out)) hb); clear BK320; clear BK321; clear BK327; clear BK336; clear BK337; clear BK343; clear HB; have BK320 := n0_; have BK321 := n1_; have BK327 := n2_; have BK336 := n3_; have BK337 := n4_; have BK343 := n5_; have HB := n6_; clear n0_ n1_ n2_ n3_ n4_ n5_ n6_; (try clear hb); (try clear hb2); (try clear hk); (try clear hi)) | (go_at_call 25; (with_reducible refine (tollhouselaw10_wakes.calls  t345 _ (Glob.below HGl.out (by repeat (first | (with_reducible first | exact HB.out | apply below_alloc | apply pw_below_drewN | apply below_drew1 | refine below_set ?_ GE320.out | refine below_set ?_ GE321.out | refine below_set ?_ GE327.out | refine below_set ?_ GE336.out | refine below_set ?_ GE337.out | refine below_set ?_ GE343.out) | exact HB.out))) A151.out).mono ?_); rintro e w166 ⟨rfl, hb⟩; have n0_ := Aside0.mk (blk_below (g := gb320) (o := .cells #[.string a0_0, .int .i64 a0_1, .string a0_2] 35 (0, 0)) (by (with_reducible repeat (first | refine blk_drewN ?_ _ | refine blk_drew ?_ | refine blk_alloc ?_ _)); exact BK320.out) hb); have n1_ := Aside0.mk (blk_below (g := gb321) (o := .cells #[.string a1_0, .int .i64 a1_1, .string a1_2] 35 (0, 0)) (by (with_reducible repeat (first | refine blk_drewN ?_ _ | refine blk_drew ?_ | refine blk_alloc ?_ _)); exact BK321.out) hb); have n2_ := Aside0.mk (blk_below (g := gb327) (o := .cells #[.string t323, .int .i64 t324, .string t325] 35 (0, 0)) (by (with_reducible repeat (first | refine blk_drewN ?_ _ | refine blk_drew ?_ | refine blk_alloc ?_ _)); exact BK327.out) hb); have n3_ := Aside0.mk (blk_below (g := gb336) (o := .cells #[.string t332, .int .i64 t333, .string t334] 35 (0, 0)) (by (with_reducible repeat (first | refine blk_drewN ?_ _ | refine blk_drew ?_ | refine blk_alloc ?_ _)); exact BK336.out) hb); have n4_ := Aside0.mk (blk_below (g := gb337) (o := .cells #[.string a0_0, .int .i64 a0_1, .string a1_2] 35 (0, 0)) (by (with_reducible repeat (first | refine blk_drewN ?_ _ | refine blk_drew ?_ | refine blk_alloc ?_ _)); exact BK337.out) hb); have n5_ := Aside0.mk (blk_below (g := gb343) (o := .cells #[.string t339, .int .i64 t340, .string t341] 35 (0, 0)) (by (with_reducible repeat (first | refine blk_drewN ?_ _ | refine blk_drew ?_ | refine blk_alloc ?_ _)); exact BK343.out) hb); have n6_ := Aside0.mk (below_step (by repeat (first | (with_reducible first | exact HB.out | apply below_alloc | apply pw_below_drewN | apply below_drew1 | refine below_set ?_ GE320.out | refine below_set ?_ GE321.out | refine below_set ?_ GE327.out | refine below_set ?_ GE336.out | refine below_set ?_ GE337.out | refine below_set ?_ GE343.out) | exact HB.out)) hb); clear BK320; clear BK321; clear BK327; clear BK336; clear BK337; clear BK343; clear HB; have BK320 := n0_; have BK321 := n1_; have BK327 := n2_; have BK336 := n3_; have BK337 := n4_; have BK343 := n5_; have HB := n6_; clear n0_ n1_ n2_ n3_ n4_ n5_ n6_; (try clear hb); (try clear hb2); (try clear hk); (try clear hi)))
            go_ret
            exact ⟨by first | rfl | (simp [errW_none, errW_some] <;> rfl) | (simp [*, errW_none, errW_some] <;> rfl), by repeat (first | (with_reducible first | exact HB.out | apply below_alloc | apply pw_below_drewN | apply below_drew1 | refine below_set ?_ GE320.out | refine below_set ?_ GE321.out | refine below_set ?_ GE327.out | refine below_set ?_ GE336.out | refine below_set ?_ GE337.out | refine below_set ?_ GE343.out) | exact HB.out)⟩
           ·
            rw [if_neg c150] at H
            have c150b0 : (t342 == 0) = false := beq_eq_false_iff_ne.mpr c150
            have hx6_ : t344 = false := by have h_ := c149b0; rw [c150b0] at h_; simpa using h_
            have c150b1 : (t342 != 0) = true := bne_iff_ne.mpr c150
            by_cases c167 : t342 = 23
            ·
             rw [if_pos c167] at H
             have c167b0 : (t342 == 23) = true := beq_iff_eq.mpr c167
             have c167b1 : (t342 != 23) = false := bne_eq_false_iff_eq.mpr c167
             clear c167
             by_cases c168 : (t339.toList == ([] : List UInt8) && (t340 == 0 && (t341.toList == ([] : List UInt8)))) = true
             ·
              rw [if_pos c168] at H
              have c168b0 : (t339.toList == ([] : List UInt8) && (t340 == 0 && (t341.toList == ([] : List UInt8)))) = true := c168
              obtain ⟨hz7_, hy7_, hw7_⟩ : t339.toList = ([] : List UInt8) ∧ (t340 == 0) = true ∧ t341.toList = ([] : List UInt8) := by simpa using c168b0
              have hv7_ : decide (t340 = 0) = true := by simpa using hy7_
              (try (have c168b1 : decide (t339.toList = ([] : List UInt8) && (t340 == 0 && (t341.toList == ([] : List UInt8)))) = true := by simpa using c168))
              (try (have c168b2 : (t339.toList == ([] : List UInt8) && (t340 == 0 && (t341.toList == ([] : List UInt8)))) = true := by simpa using c168))
              clear c168
              replace H := Option.bind_eq_some_iff.mp H
              obtain ⟨t346, A1690, H⟩ := H
              replace H : (some t346) = some r := H
              have A169 := Aside0.mk A1690
              clear A1690
              obtain rfl := Option.some.inj H
              have hnb170 := NB320_321.out
              have hnc170 := NB321_320.out
              have hnb171 := NB320_327.out
              have hnc171 := NB327_320.out
              have hnb172 := NB320_336.out
              have hnc172 := NB336_320.out
              have hnb173 := NB320_337.out
              have hnc173 := NB337_320.out
              have hcz174_0 : wc.cell? ⟨gb320, 0, none⟩ = some (.string a0_0) := (blk_cell BK320.out 0).trans rfl
              have hcz174_1 : wc.cell? ⟨gb320, 1, none⟩ = some (.int .i64 a0_1) := (blk_cell BK320.out 1).trans rfl
              have hcz174_2 : wc.cell? ⟨gb320, 2, none⟩ = some (.string a0_2) := (blk_cell BK320.out 2).trans rfl
              have hfz174_0 := blk_frozen BK320.out 0
              have hfz174_1 := blk_frozen BK320.out 1
              have hfz174_2 := blk_frozen BK320.out 2
              go_wp2_with (first | ((with_reducible refine gate_callee (f := 28) rfl ?_); refine goesL_ (some 88) rfl rfl Tryd.func28 (by kernel_rfl) rfl #[.agg #[.string a0_0, .int .i64 a0_1, .string a0_2], .string a2] rfl (by (try simp only [List.map_toArray, List.map_cons, List.map_nil]); first | done | rfl | (simp only [List.length_drop, List.length_take]; rfl)) ?_; (with_reducible refine (uri_Join.calls kj99 a0_0 a0_1 a0_2 a2 t339 t340 t341 t342 _ (Glob.below HGl.out (by repeat (first | (with_reducible first | exact HB.out | apply below_alloc | apply pw_below_drewN | apply below_drew1 | refine below_set ?_ GE320.out | refine below_set ?_ GE321.out | refine below_set ?_ GE327.out | refine below_set ?_ GE336.out | refine below_set ?_ GE337.out) | exact HB.out))) A147.out).mono ?_); rintro e w175 ⟨rfl, hb⟩; refine ⟨_, rfl, ?_⟩; have n0_ := Aside0.mk (blk_below (g := gb320) (o := .cells #[.string a0_0, .int .i64 a0_1, .string a0_2] 35 (0, 0)) (by (with_reducible repeat (first | refine blk_drewN ?_ _ | refine blk_drew ?_ | refine blk_alloc ?_ _)); exact BK320.out) hb); have n1_ := Aside0.mk (blk_below (g := gb321) (o := .cells #[.string a1_0, .int .i64 a1_1, .string a1_2] 35 (0, 0)) (by (with_reducible repeat (first | refine blk_drewN ?_ _ | refine blk_drew ?_ | refine blk_alloc ?_ _)); exact BK321.out) hb); have n2_ := Aside0.mk (blk_below (g := gb327) (o := .cells #[.string t323, .int .i64 t324, .string t325] 35 (0, 0)) (by (with_reducible repeat (first | refine blk_drewN ?_ _ | refine blk_drew ?_ | refine blk_alloc ?_ _)); exact BK327.out) hb); have n3_ := Aside0.mk (blk_below (g := gb336) (o := .cells #[.string t332, .int .i64 t333, .string t334] 35 (0, 0)) (by (with_reducible repeat (first | refine blk_drewN ?_ _ | refine blk_drew ?_ | refine blk_alloc ?_ _)); exact BK336.out) hb); have n4_ := Aside0.mk (blk_below (g := gb337) (o := .cells #[.string a0_0, .int .i64 a0_1, .string a1_2] 35 (0, 0)) (by (with_reducible repeat (first | refine blk_drewN ?_ _ | refine blk_drew ?_ | refine blk_alloc ?_ _)); exact BK337.out) hb); have n5_ := Aside0.mk (below_step (by repeat (first | (with_reducible first | exact HB.out | apply below_alloc | apply pw_below_drewN | apply below_drew1 | refine below_set ?_ GE320.out | refine below_set ?_ GE321.out | refine below_set ?_ GE327.out | refine below_set ?_ GE336.out | refine below_set ?_ GE337.out) | exact HB.out)) hb); clear BK320; clear BK321; clear BK327; clear BK336; clear BK337; clear HB; have BK320 := n0_; have BK321 := n1_; have BK327 := n2_; have BK336 := n3_; have BK337 := n4_; have HB := n5_; clear n0_ n1_ n2_ n3_ n4_ n5_; (try clear hb); (try clear hb2); (try clear hk); (try clear hi)) | ((with_reducible refine gate_dst (N := 12) rfl ?_); (try (refine gate_guard (by rfl) ?_; dsimp only)); refine box_event ?hg (N := 12) ?hd (cs := #[.string (⟨#[]⟩ : ByteArray), .int .i64 0, .string (⟨#[]⟩ : ByteArray)]) (t := 35) ?hr ?_; (case hd => rfl); (case hg => rfl); (case hr => first | (go_simp; done) | (go_simp; rfl)); intro gb343 hg w176 hbox hb; have n0_ := Aside0.mk (blk_below (g := gb320) (o := .cells #[.string a0_0, .int .i64 a0_1, .string a0_2] 35 (0, 0)) (by (with_reducible repeat (first | refine blk_drewN ?_ _ | refine blk_drew ?_ | refine blk_alloc ?_ _)); exact BK320.out) hb); have n1_ := Aside0.mk (blk_below (g := gb321) (o := .cells #[.string a1_0, .int .i64 a1_1, .string a1_2] 35 (0, 0)) (by (with_reducible repeat (first | refine blk_drewN ?_ _ | refine blk_drew ?_ | refine blk_alloc ?_ _)); exact BK321.out) hb); have n2_ := Aside0.mk (blk_below (g := gb327) (o := .cells #[.string t323, .int .i64 t324, .string t325] 35 (0, 0)) (by (with_reducible repeat (first | refine blk_drewN ?_ _ | refine blk_drew ?_ | refine blk_alloc ?_ _)); exact BK327.out) hb); have n3_ := Aside0.mk (blk_below (g := gb336) (o := .cells #[.string t332, .int .i64 t333, .string t334] 35 (0, 0)) (by (with_reducible repeat (first | refine blk_drewN ?_ _ | refine blk_drew ?_ | refine blk_alloc ?_ _)); exact BK336.out) hb); have n4_ := Aside0.mk (blk_below (g := gb337) (o := .cells #[.string a0_0, .int .i64 a0_1, .string a1_2] 35 (0, 0)) (by (with_reducible repeat (first | refine blk_drewN ?_ _ | refine blk_drew ?_ | refine blk_alloc ?_ _)); exact BK337.out) hb); have n5_ := Aside0.mk (below_step (by repeat (first | (with_reducible first | exact HB.out | apply below_alloc | apply pw_below_drewN | apply below_drew1 | refine below_set ?_ GE320.out | refine below_set ?_ GE321.out | refine below_set ?_ GE327.out | refine below_set ?_ GE336.out | refine below_set ?_ GE337.out) | exact HB.out)) hb); have n6_ := Aside0.mk (hbox); have n7_ := Aside0.mk ((by rw [hg]; exact (below_size (by repeat (first | (with_reducible first | exact HB.out | apply below_alloc | apply pw_below_drewN | apply below_drew1 | refine below_set ?_ GE320.out | refine below_set ?_ GE321.out | refine below_set ?_ GE327.out | refine below_set ?_ GE336.out | refine below_set ?_ GE337.out) | exact HB.out))) : w.heap.size ≤ gb343)); have n8_ := Aside0.mk ((by rw [hg]; exact (below_size (by repeat (first | (with_reducible first | exact HB.out | apply below_alloc | apply pw_below_drewN | apply below_drew1 | refine below_set ?_ GE320.out | refine below_set ?_ GE321.out | refine below_set ?_ GE327.out | refine below_set ?_ GE336.out | refine below_set ?_ GE337.out) | exact HB.out))) : w.heap.size ≤ gb343)); have n9_ := Aside0.mk ((by rw [hg]; exact Nat.ne_of_lt (blk_lt (g := gb320) (o := .cells #[.string a0_0, .int .i64 a0_1, .string a0_2] 35 (0, 0)) (by (with_reducible repeat (first | refine blk_drewN ?_ _ | refine blk_drew ?_ | refine blk_alloc ?_ _)); exact BK320.out)) : gb320 ≠ gb343)); have n10_ := Aside0.mk ((by rw [hg]; exact Nat.ne_of_gt (blk_lt (g := gb320) (o := .cells #[.string a0_0, .int .i64 a0_1, .string a0_2] 35 (0, 0)) (by (with_reducible repeat (first | refine blk_drewN ?_ _ | refine blk_drew ?_ | refine blk_alloc ?_ _)); exact BK320.out)) : gb343 ≠ gb320)); have n11_ := Aside0.mk ((by rw [hg]; exact Nat.ne_of_lt (blk_lt (g := gb321) (o := .cells #[.string a1_0, .int .i64 a1_1, .string a1_2] 35 (0, 0)) (by (with_reducible repeat (first | refine blk_drewN ?_ _ | refine blk_drew ?_ | refine blk_alloc ?_ _)); exact BK321.out)) : gb321 ≠ gb343)); have n12_ := Aside0.mk ((by rw [hg]; exact Nat.ne_of_gt (blk_lt (g := gb321) (o := .cells #[.string a1_0, .int .i64 a1_1, .string a1_2] 35 (0, 0)) (by (with_reducible repeat (first | refine blk_drewN ?_ _ | refine blk_drew ?_ | refine blk_alloc ?_ _)); exact BK321.out)) : gb343 ≠ gb321)); have n13_ := Aside0.mk ((by rw [hg]; exact Nat.ne_of_lt (blk_lt (g := gb327) (o := .cells #[.string t323, .int .i64 t324, .string t325] 35 (0, 0)) (by (with_reducible repeat (first | refine blk_drewN ?_ _ | refine blk_drew ?_ | refine blk_alloc ?_ _)); exact BK327.out)) : gb327 ≠ gb343)); have n14_ := Aside0.mk ((by rw [hg]; exact Nat.ne_of_gt (blk_lt (g := gb327) (o := .cells #[.string t323, .int .i64 t324, .string t325] 35 (0, 0)) (by (with_reducible repeat (first | refine blk_drewN ?_ _ | refine blk_drew ?_ | refine blk_alloc ?_ _)); exact BK327.out)) : gb343 ≠ gb327)); have n15_ := Aside0.mk ((by rw [hg]; exact Nat.ne_of_lt (blk_lt (g := gb336) (o := .cells #[.string t332, .int .i64 t333, .string t334] 35 (0, 0)) (by (with_reducible repeat (first | refine blk_drewN ?_ _ | refine blk_drew ?_ | refine blk_alloc ?_ _)); exact BK336.out)) : gb336 ≠ gb343)); have n16_ := Aside0.mk ((by rw [hg]; exact Nat.ne_of_gt (blk_lt (g := gb336) (o := .cells #[.string t332, .int .i64 t333, .string t334] 35 (0, 0)) (by (with_reducible repeat (first | refine blk_drewN ?_ _ | refine blk_drew ?_ | refine blk_alloc ?_ _)); exact BK336.out)) : gb343 ≠ gb336)); have n17_ := Aside0.mk ((by rw [hg]; exact Nat.ne_of_lt (blk_lt (g := gb337) (o := .cells #[.string a0_0, .int .i64 a0_1, .string a1_2] 35 (0, 0)) (by (with_reducible repeat (first | refine blk_drewN ?_ _ | refine blk_drew ?_ | refine blk_alloc ?_ _)); exact BK337.out)) : gb337 ≠ gb343)); have n18_ := Aside0.mk ((by rw [hg]; exact Nat.ne_of_gt (blk_lt (g := gb337) (o := .cells #[.string a0_0, .int .i64 a0_1, .string a1_2] 35 (0, 0)) (by (with_reducible repeat (first | refine blk_drewN ?_ _ | refine blk_drew ?_ | refine blk_alloc ?_ _)); exact BK337.out)) : gb343 ≠ gb337)); clear BK320; clear BK321; clear BK327; clear BK336; clear BK337; clear HB; have BK320 := n0_; have BK321 := n1_; have BK327 := n2_; have BK336 := n3_; have BK337 := n4_; have HB := n5_; have BK343 := n6_; have GW343 := n7_; have GE343 := n8_; have NB320_343 := n9_; have NB343_320 := n10_; have NB321_343 := n11_; have NB343_321 := n12_; have NB327_343 := n13_; have NB343_327 := n14_; have NB336_343 := n15_; have NB343_336 := n16_; have NB337_343 := n17_; have NB343_337 := n18_; clear n0_ n1_ n2_ n3_ n4_ n5_ n6_ n7_ n8_ n9_ n10_ n11_ n12_ n13_ n14_ n15_ n16_ n17_ n18_; clear hb hbox hg; have hnb177 := NB343_320.out; have hnc177 := NB320_343.out; have hnb178 := NB343_321.out; have hnc178 := NB321_343.out; have hnb179 := NB343_327.out; have hnc179 := NB327_343.out; have hnb180 := NB343_336.out; have hnc180 := NB336_343.out; have hnb181 := NB343_337.out; have hnc181 := NB337_343.out; have hcz182_0 : w176.cell? ⟨gb343, 0, none⟩ = some (.string (⟨#[]⟩ : ByteArray)) := (blk_cell BK343.out 0).trans rfl; have hcz182_1 : w176.cell? ⟨gb343, 1, none⟩ = some (.int .i64 0) := (blk_cell BK343.out 1).trans rfl; have hcz182_2 : w176.cell? ⟨gb343, 2, none⟩ = some (.string (⟨#[]⟩ : ByteArray)) := (blk_cell BK343.out 2).trans rfl; have hfz182_0 := blk_frozen BK343.out 0; have hfz182_1 := blk_frozen BK343.out 1; have hfz182_2 := blk_frozen BK343.out 2) | ((with_reducible refine gate_callee (f := 22) rfl ?_); refine goesL_ (some 94) rfl rfl Tryd.func22 (by kernel_rfl) rfl #[.agg #[.string t339, .int .i64 t340, .string t341]] rfl (by (try simp only [List.map_toArray, List.map_cons, List.map_nil]); first | done | rfl | (simp only [List.length_drop, List.length_take]; rfl)) ?_; (with_reducible refine (uri_May.calls t339 t340 t341 t344 _ (Glob.below HGl.out (by repeat (first | (with_reducible first | exact HB.out | apply below_alloc | apply pw_below_drewN | apply below_drew1 | refine below_set ?_ GE320.out | refine below_set ?_ GE321.out | refine below_set ?_ GE327.out | refine below_set ?_ GE336.out | refine below_set ?_ GE337.out | refine below_set ?_ GE343.out) | exact HB.out))) A148.out).mono ?_); rintro e w183 ⟨rfl, hb⟩; refine ⟨_, rfl, ?_⟩; have n0_ := Aside0.mk (blk_below (g := gb320) (o := .cells #[.string a0_0, .int .i64 a0_1, .string a0_2] 35 (0, 0)) (by (with_reducible repeat (first | refine blk_drewN ?_ _ | refine blk_drew ?_ | refine blk_alloc ?_ _)); refine blk_far ?_ NB320_343.out _; (with_reducible repeat (first | refine blk_drewN ?_ _ | refine blk_drew ?_ | refine blk_alloc ?_ _)); refine blk_far ?_ NB320_343.out _; (with_reducible repeat (first | refine blk_drewN ?_ _ | refine blk_drew ?_ | refine blk_alloc ?_ _)); refine blk_far ?_ NB320_343.out _; (with_reducible repeat (first | refine blk_drewN ?_ _ | refine blk_drew ?_ | refine blk_alloc ?_ _)); exact BK320.out) hb); have n1_ := Aside0.mk (blk_below (g := gb321) (o := .cells #[.string a1_0, .int .i64 a1_1, .string a1_2] 35 (0, 0)) (by (with_reducible repeat (first | refine blk_drewN ?_ _ | refine blk_drew ?_ | refine blk_alloc ?_ _)); refine blk_far ?_ NB321_343.out _; (with_reducible repeat (first | refine blk_drewN ?_ _ | refine blk_drew ?_ | refine blk_alloc ?_ _)); refine blk_far ?_ NB321_343.out _; (with_reducible repeat (first | refine blk_drewN ?_ _ | refine blk_drew ?_ | refine blk_alloc ?_ _)); refine blk_far ?_ NB321_343.out _; (with_reducible repeat (first | refine blk_drewN ?_ _ | refine blk_drew ?_ | refine blk_alloc ?_ _)); exact BK321.out) hb); have n2_ := Aside0.mk (blk_below (g := gb327) (o := .cells #[.string t323, .int .i64 t324, .string t325] 35 (0, 0)) (by (with_reducible repeat (first | refine blk_drewN ?_ _ | refine blk_drew ?_ | refine blk_alloc ?_ _)); refine blk_far ?_ NB327_343.out _; (with_reducible repeat (first | refine blk_drewN ?_ _ | refine blk_drew ?_ | refine blk_alloc ?_ _)); refine blk_far ?_ NB327_343.out _; (with_reducible repeat (first | refine blk_drewN ?_ _ | refine blk_drew ?_ | refine blk_alloc ?_ _)); refine blk_far ?_ NB327_343.out _; (with_reducible repeat (first | refine blk_drewN ?_ _ | refine blk_drew ?_ | refine blk_alloc ?_ _)); exact BK327.out) hb); have n3_ := Aside0.mk (blk_below (g := gb336) (o := .cells #[.string t332, .int .i64 t333, .string t334] 35 (0, 0)) (by (with_reducible repeat (first | refine blk_drewN ?_ _ | refine blk_drew ?_ | refine blk_alloc ?_ _)); refine blk_far ?_ NB336_343.out _; (with_reducible repeat (first | refine blk_drewN ?_ _ | refine blk_drew ?_ | refine blk_alloc ?_ _)); refine blk_far ?_ NB336_343.out _; (with_reducible repeat (first | refine blk_drewN ?_ _ | refine blk_drew ?_ | refine blk_alloc ?_ _)); refine blk_far ?_ NB336_343.out _; (with_reducible repeat (first | refine blk_drewN ?_ _ | refine blk_drew ?_ | refine blk_alloc ?_ _)); exact BK336.out) hb); have n4_ := Aside0.mk (blk_below (g := gb337) (o := .cells #[.string a0_0, .int .i64 a0_1, .string a1_2] 35 (0, 0)) (by (with_reducible repeat (first | refine blk_drewN ?_ _ | refine blk_drew ?_ | refine blk_alloc ?_ _)); refine blk_far ?_ NB337_343.out _; (with_reducible repeat (first | refine blk_drewN ?_ _ | refine blk_drew ?_ | refine blk_alloc ?_ _)); refine blk_far ?_ NB337_343.out _; (with_reducible repeat (first | refine blk_drewN ?_ _ | refine blk_drew ?_ | refine blk_alloc ?_ _)); refine blk_far ?_ NB337_343.out _; (with_reducible repeat (first | refine blk_drewN ?_ _ | refine blk_drew ?_ | refine blk_alloc ?_ _)); exact BK337.out) hb); have n5_ := Aside0.mk (blk_below (g := gb343) (o := .cells #[.string t339, .int .i64 t340, .string t341] 35 (0, 0)) (by (with_reducible repeat (first | refine blk_drewN ?_ _ | refine blk_drew ?_ | refine blk_alloc ?_ _)); refine blk_put (cs := #[.string t339, .int .i64 t340, .string (⟨#[]⟩ : ByteArray)]) ?_ 2 _ rfl; (with_reducible repeat (first | refine blk_drewN ?_ _ | refine blk_drew ?_ | refine blk_alloc ?_ _)); refine blk_put (cs := #[.string t339, .int .i64 0, .string (⟨#[]⟩ : ByteArray)]) ?_ 1 _ rfl; (with_reducible repeat (first | refine blk_drewN ?_ _ | refine blk_drew ?_ | refine blk_alloc ?_ _)); refine blk_put (cs := #[.string (⟨#[]⟩ : ByteArray), .int .i64 0, .string (⟨#[]⟩ : ByteArray)]) ?_ 0 _ rfl; (with_reducible repeat (first | refine blk_drewN ?_ _ | refine blk_drew ?_ | refine blk_alloc ?_ _)); exact BK343.out) hb); have n6_ := Aside0.mk (below_step (by repeat (first | (with_reducible first | exact HB.out | apply below_alloc | apply pw_below_drewN | apply below_drew1 | refine below_set ?_ GE320.out | refine below_set ?_ GE321.out | refine below_set ?_ GE327.out | refine below_set ?_ GE336.out | refine below_set ?_ GE337.out | refine below_set ?_ GE343.out) | exact HB.out)) hb); clear BK320; clear BK321; clear BK327; clear BK336; clear BK337; clear BK343; clear HB; have BK320 := n0_; have BK321 := n1_; have BK327 := n2_; have BK336 := n3_; have BK337 := n4_; have BK343 := n5_; have HB := n6_; clear n0_ n1_ n2_ n3_ n4_ n5_ n6_; (try clear hb); (try clear hb2); (try clear hk); (try clear hi); have hcz184_0 : w183.cell? ⟨gb343, 0, none⟩ = some (.string t339) := (blk_cell BK343.out 0).trans rfl; have hcz184_1 : w183.cell? ⟨gb343, 1, none⟩ = some (.int .i64 t340) := (blk_cell BK343.out 1).trans rfl; have hcz184_2 : w183.cell? ⟨gb343, 2, none⟩ = some (.string t341) := (blk_cell BK343.out 2).trans rfl; have hfz184_0 := blk_frozen BK343.out 0; have hfz184_1 := blk_frozen BK343.out 1; have hfz184_2 := blk_frozen BK343.out 2) | (go_at_call 25; (with_reducible refine (tollhouselaw10_wakes.calls  t346 _ (Glob.below HGl.out (by repeat (first | (with_reducible first | exact HB.out | apply below_alloc | apply pw_below_drewN | apply below_drew1 | refine below_set ?_ GE320.out | refine below_set ?_ GE321.out | refine below_set ?_ GE327.out | refine below_set ?_ GE336.out | refine below_set ?_ GE337.out | refine below_set ?_ GE343.out) | exact HB.out))) A169.out).mono ?_); rintro e w185 ⟨rfl, hb⟩; have n0_ := Aside0.mk (blk_below (g := gb320) (o := .cells #[.string a0_0, .int .i64 a0_1, .string a0_2] 35 (0, 0)) (by (with_reducible repeat (first | refine blk_drewN ?_ _ | refine blk_drew ?_ | refine blk_alloc ?_ _)); exact BK320.out) hb); have n1_ := Aside0.mk (blk_below (g := gb321) (o := .cells #[.string a1_0, .int .i64 a1_1, .string a1_2] 35 (0, 0)) (by (with_reducible repeat (first | refine blk_drewN ?_ _ | refine blk_drew ?_ | refine blk_alloc ?_ _)); exact BK321.out) hb); have n2_ := Aside0.mk (blk_below (g := gb327) (o := .cells #[.string t323, .int .i64 t324, .string t325] 35 (0, 0)) (by (with_reducible repeat (first | refine blk_drewN ?_ _ | refine blk_drew ?_ | refine blk_alloc ?_ _)); exact BK327.out) hb); have n3_ := Aside0.mk (blk_below (g := gb336) (o := .cells #[.string t332, .int .i64 t333, .string t334] 35 (0, 0)) (by (with_reducible repeat (first | refine blk_drewN ?_ _ | refine blk_drew ?_ | refine blk_alloc ?_ _)); exact BK336.out) hb); have n4_ := Aside0.mk (blk_below (g := gb337) (o := .cells #[.string a0_0, .int .i64 a0_1, .string a1_2] 35 (0, 0)) (by (with_reducible repeat (first | refine blk_drewN ?_ _ | refine blk_drew ?_ | refine blk_alloc ?_ _)); exact BK337.out) hb); have n5_ := Aside0.mk (blk_below (g := gb343) (o := .cells #[.string t339, .int .i64 t340, .string t341] 35 (0, 0)) (by (with_reducible repeat (first | refine blk_drewN ?_ _ | refine blk_drew ?_ | refine blk_alloc ?_ _)); exact BK343.out) hb); have n6_ := Aside0.mk (below_step (by repeat (first | (with_reducible first | exact HB.out | apply below_alloc | apply pw_below_drewN | apply below_drew1 | refine below_set ?_ GE320.out | refine below_set ?_ GE321.out | refine below_set ?_ GE327.out | refine below_set ?_ GE336.out | refine below_set ?_ GE337.out | refine below_set ?_ GE343.out) | exact HB.out)) hb); clear BK320; clear BK321; clear BK327; clear BK336; clear BK337; clear BK343; clear HB; have BK320 := n0_; have BK321 := n1_; have BK327 := n2_; have BK336 := n3_; have BK337 := n4_; have BK343 := n5_; have HB := n6_; clear n0_ n1_ n2_ n3_ n4_ n5_ n6_; (try clear hb); (try clear hb2); (try clear hk); (try clear hi)))
              go_ret
              exact ⟨by first | rfl | (simp [errW_none, errW_some] <;> rfl) | (simp [*, errW_none, errW_some] <;> rfl), by repeat (first | (with_reducible first | exact HB.out | apply below_alloc | apply pw_below_drewN | apply below_drew1 | refine below_set ?_ GE320.out | refine below_set ?_ GE321.out | refine below_set ?_ GE327.out | refine below_set ?_ GE336.out | refine below_set ?_ GE337.out | refine below_set ?_ GE343.out) | exact HB.out)⟩
             ·
              rw [if_neg c168] at H
              have c168b0 : (t339.toList == ([] : List UInt8) && (t340 == 0 && (t341.toList == ([] : List UInt8)))) = false := by simpa using c168
              (try (have c168b1 : decide (t339.toList = ([] : List UInt8) && (t340 == 0 && (t341.toList == ([] : List UInt8)))) = false := by simpa using c168))
              (try (have c168b2 : (t339.toList == ([] : List UInt8) && (t340 == 0 && (t341.toList == ([] : List UInt8)))) = false := by simpa using c168))
              (try (have c168b3 : ¬ (t339.toList = ([] : List UInt8) && (t340 == 0 && (t341.toList == ([] : List UInt8)))) := by simpa using c168))
              clear c168
              exact absurd ((Option.some.inj H).trans HR_.out) (by decide)
            ·
             rw [if_neg c167] at H
             have c167b0 : (t342 == 23) = false := beq_eq_false_iff_ne.mpr c167
             have c167b1 : (t342 != 23) = true := bne_iff_ne.mpr c167
             exact absurd ((Option.some.inj H).trans HR_.out) (by decide)
          ·
           rw [if_neg c149] at H
           have c149b0 : ((t342 == 0) == t344) = false := by simpa using c149
           (try (have c149b1 : decide ((t342 == 0) = t344) = false := by simpa using c149))
           (try (have c149b2 : ((t342 == 0) == t344) = false := by simpa using c149))
           (try (have c149b3 : ¬ ((t342 == 0) = t344) := by simpa using c149))
           clear c149
           exact absurd ((Option.some.inj H).trans HR_.out) (by decide)
      ·
       replace c98 := Bool.eq_false_iff.mpr c98
       subst c98
       have H1 : ((uri_Join.f kj62 a0_0 a0_1 a0_2 a2).bind fun bt347 => ((uri_May.f bt347.1 bt347.2.1 bt347.2.2.1).bind fun t352 => (if ((bt347.2.2.2 == 0) == t352) = true then (if bt347.2.2.2 = 0 then ((tollhouselaw10_wakes.f).bind fun t353 => (some t353)) else (if bt347.2.2.2 = 23 then (if (bt347.1.toList == ([] : List UInt8) && (bt347.2.1 == 0 && (bt347.2.2.1.toList == ([] : List UInt8)))) = true then ((tollhouselaw10_wakes.f).bind fun t354 => (some t354)) else (some false)) else (some false))) else (some false)))) = some r := by rw [if_neg (show ¬ (false = true) by decide)] at H; exact H
       clear H
       have H := H1
       clear H1
       replace H := Option.bind_eq_some_iff.mp H
       obtain ⟨⟨t347, t348, t349, t350⟩, A2290, H⟩ := H
       replace H : ((uri_May.f t347 t348 t349).bind fun t352 => (if ((t350 == 0) == t352) = true then (if t350 = 0 then ((tollhouselaw10_wakes.f).bind fun t353 => (some t353)) else (if t350 = 23 then (if (t347.toList == ([] : List UInt8) && (t348 == 0 && (t349.toList == ([] : List UInt8)))) = true then ((tollhouselaw10_wakes.f).bind fun t354 => (some t354)) else (some false)) else (some false))) else (some false))) = some r := H
       have A229 := Aside0.mk A2290
       clear A2290
       replace H := Option.bind_eq_some_iff.mp H
       obtain ⟨t352, A2300, H⟩ := H
       replace H : (if ((t350 == 0) == t352) = true then (if t350 = 0 then ((tollhouselaw10_wakes.f).bind fun t353 => (some t353)) else (if t350 = 23 then (if (t347.toList == ([] : List UInt8) && (t348 == 0 && (t349.toList == ([] : List UInt8)))) = true then ((tollhouselaw10_wakes.f).bind fun t354 => (some t354)) else (some false)) else (some false))) else (some false)) = some r := H
       have A230 := Aside0.mk A2300
       clear A2300
       by_cases c231 : ((t350 == 0) == t352) = true
       ·
        rw [if_pos c231] at H
        have c231b0 : ((t350 == 0) == t352) = true := c231
        (try (have c231b1 : decide ((t350 == 0) = t352) = true := by simpa using c231))
        (try (have c231b2 : ((t350 == 0) == t352) = true := by simpa using c231))
        clear c231
        by_cases c232 : t350 = 0
        ·
         rw [if_pos c232] at H
         have c232b0 : (t350 == 0) = true := beq_iff_eq.mpr c232
         have hx8_ : t352 = true := by have h_ := c231b0; rw [c232b0] at h_; simpa using h_
         have c232b1 : (t350 != 0) = false := bne_eq_false_iff_eq.mpr c232
         clear c232
         replace H := Option.bind_eq_some_iff.mp H
         obtain ⟨t353, A2330, H⟩ := H
         replace H : (some t353) = some r := H
         have A233 := Aside0.mk A2330
         clear A2330
         obtain rfl := Option.some.inj H
         have hnb234 := NB320_321.out
         have hnc234 := NB321_320.out
         have hnb235 := NB320_327.out
         have hnc235 := NB327_320.out
         have hcz236_0 : wc.cell? ⟨gb320, 0, none⟩ = some (.string a0_0) := (blk_cell BK320.out 0).trans rfl
         have hcz236_1 : wc.cell? ⟨gb320, 1, none⟩ = some (.int .i64 a0_1) := (blk_cell BK320.out 1).trans rfl
         have hcz236_2 : wc.cell? ⟨gb320, 2, none⟩ = some (.string a0_2) := (blk_cell BK320.out 2).trans rfl
         have hfz236_0 := blk_frozen BK320.out 0
         have hfz236_1 := blk_frozen BK320.out 1
         have hfz236_2 := blk_frozen BK320.out 2
         go_wp2_with (first | ((with_reducible refine gate_callee (f := 28) rfl ?_); refine goesL_ (some 88) rfl rfl Tryd.func28 (by kernel_rfl) rfl #[.agg #[.string a0_0, .int .i64 a0_1, .string a0_2], .string a2] rfl (by (try simp only [List.map_toArray, List.map_cons, List.map_nil]); first | done | rfl | (simp only [List.length_drop, List.length_take]; rfl)) ?_; (with_reducible refine (uri_Join.calls kj62 a0_0 a0_1 a0_2 a2 t347 t348 t349 t350 _ (Glob.below HGl.out (by repeat (first | (with_reducible first | exact HB.out | apply below_alloc | apply pw_below_drewN | apply below_drew1 | refine below_set ?_ GE320.out | refine below_set ?_ GE321.out | refine below_set ?_ GE327.out) | exact HB.out))) A229.out).mono ?_); rintro e w237 ⟨rfl, hb⟩; refine ⟨_, rfl, ?_⟩; have n0_ := Aside0.mk (blk_below (g := gb320) (o := .cells #[.string a0_0, .int .i64 a0_1, .string a0_2] 35 (0, 0)) (by (with_reducible repeat (first | refine blk_drewN ?_ _ | refine blk_drew ?_ | refine blk_alloc ?_ _)); exact BK320.out) hb); have n1_ := Aside0.mk (blk_below (g := gb321) (o := .cells #[.string a1_0, .int .i64 a1_1, .string a1_2] 35 (0, 0)) (by (with_reducible repeat (first | refine blk_drewN ?_ _ | refine blk_drew ?_ | refine blk_alloc ?_ _)); exact BK321.out) hb); have n2_ := Aside0.mk (blk_below (g := gb327) (o := .cells #[.string t323, .int .i64 t324, .string t325] 35 (0, 0)) (by (with_reducible repeat (first | refine blk_drewN ?_ _ | refine blk_drew ?_ | refine blk_alloc ?_ _)); exact BK327.out) hb); have n3_ := Aside0.mk (below_step (by repeat (first | (with_reducible first | exact HB.out | apply below_alloc | apply pw_below_drewN | apply below_drew1 | refine below_set ?_ GE320.out | refine below_set ?_ GE321.out | refine below_set ?_ GE327.out) | exact HB.out)) hb); clear BK320; clear BK321; clear BK327; clear HB; have BK320 := n0_; have BK321 := n1_; have BK327 := n2_; have HB := n3_; clear n0_ n1_ n2_ n3_; (try clear hb); (try clear hb2); (try clear hk); (try clear hi)) | ((with_reducible refine gate_dst (N := 12) rfl ?_); (try (refine gate_guard (by rfl) ?_; dsimp only)); refine box_event ?hg (N := 12) ?hd (cs := #[.string (⟨#[]⟩ : ByteArray), .int .i64 0, .string (⟨#[]⟩ : ByteArray)]) (t := 35) ?hr ?_; (case hd => rfl); (case hg => rfl); (case hr => first | (go_simp; done) | (go_simp; rfl)); intro gb351 hg w238 hbox hb; have n0_ := Aside0.mk (blk_below (g := gb320) (o := .cells #[.string a0_0, .int .i64 a0_1, .string a0_2] 35 (0, 0)) (by (with_reducible repeat (first | refine blk_drewN ?_ _ | refine blk_drew ?_ | refine blk_alloc ?_ _)); exact BK320.out) hb); have n1_ := Aside0.mk (blk_below (g := gb321) (o := .cells #[.string a1_0, .int .i64 a1_1, .string a1_2] 35 (0, 0)) (by (with_reducible repeat (first | refine blk_drewN ?_ _ | refine blk_drew ?_ | refine blk_alloc ?_ _)); exact BK321.out) hb); have n2_ := Aside0.mk (blk_below (g := gb327) (o := .cells #[.string t323, .int .i64 t324, .string t325] 35 (0, 0)) (by (with_reducible repeat (first | refine blk_drewN ?_ _ | refine blk_drew ?_ | refine blk_alloc ?_ _)); exact BK327.out) hb); have n3_ := Aside0.mk (below_step (by repeat (first | (with_reducible first | exact HB.out | apply below_alloc | apply pw_below_drewN | apply below_drew1 | refine below_set ?_ GE320.out | refine below_set ?_ GE321.out | refine below_set ?_ GE327.out) | exact HB.out)) hb); have n4_ := Aside0.mk (hbox); have n5_ := Aside0.mk ((by rw [hg]; exact (below_size (by repeat (first | (with_reducible first | exact HB.out | apply below_alloc | apply pw_below_drewN | apply below_drew1 | refine below_set ?_ GE320.out | refine below_set ?_ GE321.out | refine below_set ?_ GE327.out) | exact HB.out))) : w.heap.size ≤ gb351)); have n6_ := Aside0.mk ((by rw [hg]; exact (below_size (by repeat (first | (with_reducible first | exact HB.out | apply below_alloc | apply pw_below_drewN | apply below_drew1 | refine below_set ?_ GE320.out | refine below_set ?_ GE321.out | refine below_set ?_ GE327.out) | exact HB.out))) : w.heap.size ≤ gb351)); have n7_ := Aside0.mk ((by rw [hg]; exact Nat.ne_of_lt (blk_lt (g := gb320) (o := .cells #[.string a0_0, .int .i64 a0_1, .string a0_2] 35 (0, 0)) (by (with_reducible repeat (first | refine blk_drewN ?_ _ | refine blk_drew ?_ | refine blk_alloc ?_ _)); exact BK320.out)) : gb320 ≠ gb351)); have n8_ := Aside0.mk ((by rw [hg]; exact Nat.ne_of_gt (blk_lt (g := gb320) (o := .cells #[.string a0_0, .int .i64 a0_1, .string a0_2] 35 (0, 0)) (by (with_reducible repeat (first | refine blk_drewN ?_ _ | refine blk_drew ?_ | refine blk_alloc ?_ _)); exact BK320.out)) : gb351 ≠ gb320)); have n9_ := Aside0.mk ((by rw [hg]; exact Nat.ne_of_lt (blk_lt (g := gb321) (o := .cells #[.string a1_0, .int .i64 a1_1, .string a1_2] 35 (0, 0)) (by (with_reducible repeat (first | refine blk_drewN ?_ _ | refine blk_drew ?_ | refine blk_alloc ?_ _)); exact BK321.out)) : gb321 ≠ gb351)); have n10_ := Aside0.mk ((by rw [hg]; exact Nat.ne_of_gt (blk_lt (g := gb321) (o := .cells #[.string a1_0, .int .i64 a1_1, .string a1_2] 35 (0, 0)) (by (with_reducible repeat (first | refine blk_drewN ?_ _ | refine blk_drew ?_ | refine blk_alloc ?_ _)); exact BK321.out)) : gb351 ≠ gb321)); have n11_ := Aside0.mk ((by rw [hg]; exact Nat.ne_of_lt (blk_lt (g := gb327) (o := .cells #[.string t323, .int .i64 t324, .string t325] 35 (0, 0)) (by (with_reducible repeat (first | refine blk_drewN ?_ _ | refine blk_drew ?_ | refine blk_alloc ?_ _)); exact BK327.out)) : gb327 ≠ gb351)); have n12_ := Aside0.mk ((by rw [hg]; exact Nat.ne_of_gt (blk_lt (g := gb327) (o := .cells #[.string t323, .int .i64 t324, .string t325] 35 (0, 0)) (by (with_reducible repeat (first | refine blk_drewN ?_ _ | refine blk_drew ?_ | refine blk_alloc ?_ _)); exact BK327.out)) : gb351 ≠ gb327)); clear BK320; clear BK321; clear BK327; clear HB; have BK320 := n0_; have BK321 := n1_; have BK327 := n2_; have HB := n3_; have BK351 := n4_; have GW351 := n5_; have GE351 := n6_; have NB320_351 := n7_; have NB351_320 := n8_; have NB321_351 := n9_; have NB351_321 := n10_; have NB327_351 := n11_; have NB351_327 := n12_; clear n0_ n1_ n2_ n3_ n4_ n5_ n6_ n7_ n8_ n9_ n10_ n11_ n12_; clear hb hbox hg; have hnb239 := NB351_320.out; have hnc239 := NB320_351.out; have hnb240 := NB351_321.out; have hnc240 := NB321_351.out; have hnb241 := NB351_327.out; have hnc241 := NB327_351.out; have hcz242_0 : w238.cell? ⟨gb351, 0, none⟩ = some (.string (⟨#[]⟩ : ByteArray)) := (blk_cell BK351.out 0).trans rfl; have hcz242_1 : w238.cell? ⟨gb351, 1, none⟩ = some (.int .i64 0) := (blk_cell BK351.out 1).trans rfl; have hcz242_2 : w238.cell? ⟨gb351, 2, none⟩ = some (.string (⟨#[]⟩ : ByteArray)) := (blk_cell BK351.out 2).trans rfl; have hfz242_0 := blk_frozen BK351.out 0; have hfz242_1 := blk_frozen BK351.out 1; have hfz242_2 := blk_frozen BK351.out 2) | ((with_reducible refine gate_callee (f := 22) rfl ?_); refine goesL_ (some 94) rfl rfl Tryd.func22 (by kernel_rfl) rfl #[.agg #[.string t347, .int .i64 t348, .string t349]] rfl (by (try simp only [List.map_toArray, List.map_cons, List.map_nil]); first | done | rfl | (simp only [List.length_drop, List.length_take]; rfl)) ?_; (with_reducible refine (uri_May.calls t347 t348 t349 t352 _ (Glob.below HGl.out (by repeat (first | (with_reducible first | exact HB.out | apply below_alloc | apply pw_below_drewN | apply below_drew1 | refine below_set ?_ GE320.out | refine below_set ?_ GE321.out | refine below_set ?_ GE327.out | refine below_set ?_ GE351.out) | exact HB.out))) A230.out).mono ?_); rintro e w243 ⟨rfl, hb⟩; refine ⟨_, rfl, ?_⟩; have n0_ := Aside0.mk (blk_below (g := gb320) (o := .cells #[.string a0_0, .int .i64 a0_1, .string a0_2] 35 (0, 0)) (by (with_reducible repeat (first | refine blk_drewN ?_ _ | refine blk_drew ?_ | refine blk_alloc ?_ _)); refine blk_far ?_ NB320_351.out _; (with_reducible repeat (first | refine blk_drewN ?_ _ | refine blk_drew ?_ | refine blk_alloc ?_ _)); refine blk_far ?_ NB320_351.out _; (with_reducible repeat (first | refine blk_drewN ?_ _ | refine blk_drew ?_ | refine blk_alloc ?_ _)); refine blk_far ?_ NB320_351.out _; (with_reducible repeat (first | refine blk_drewN ?_ _ | refine blk_drew ?_ | refine blk_alloc ?_ _)); exact BK320.out) hb); have n1_ := Aside0.mk (blk_below (g := gb321) (o := .cells #[.string a1_0, .int .i64 a1_1, .string a1_2] 35 (0, 0)) (by (with_reducible repeat (first | refine blk_drewN ?_ _ | refine blk_drew ?_ | refine blk_alloc ?_ _)); refine blk_far ?_ NB321_351.out _; (with_reducible repeat (first | refine blk_drewN ?_ _ | refine blk_drew ?_ | refine blk_alloc ?_ _)); refine blk_far ?_ NB321_351.out _; (with_reducible repeat (first | refine blk_drewN ?_ _ | refine blk_drew ?_ | refine blk_alloc ?_ _)); refine blk_far ?_ NB321_351.out _; (with_reducible repeat (first | refine blk_drewN ?_ _ | refine blk_drew ?_ | refine blk_alloc ?_ _)); exact BK321.out) hb); have n2_ := Aside0.mk (blk_below (g := gb327) (o := .cells #[.string t323, .int .i64 t324, .string t325] 35 (0, 0)) (by (with_reducible repeat (first | refine blk_drewN ?_ _ | refine blk_drew ?_ | refine blk_alloc ?_ _)); refine blk_far ?_ NB327_351.out _; (with_reducible repeat (first | refine blk_drewN ?_ _ | refine blk_drew ?_ | refine blk_alloc ?_ _)); refine blk_far ?_ NB327_351.out _; (with_reducible repeat (first | refine blk_drewN ?_ _ | refine blk_drew ?_ | refine blk_alloc ?_ _)); refine blk_far ?_ NB327_351.out _; (with_reducible repeat (first | refine blk_drewN ?_ _ | refine blk_drew ?_ | refine blk_alloc ?_ _)); exact BK327.out) hb); have n3_ := Aside0.mk (blk_below (g := gb351) (o := .cells #[.string t347, .int .i64 t348, .string t349] 35 (0, 0)) (by (with_reducible repeat (first | refine blk_drewN ?_ _ | refine blk_drew ?_ | refine blk_alloc ?_ _)); refine blk_put (cs := #[.string t347, .int .i64 t348, .string (⟨#[]⟩ : ByteArray)]) ?_ 2 _ rfl; (with_reducible repeat (first | refine blk_drewN ?_ _ | refine blk_drew ?_ | refine blk_alloc ?_ _)); refine blk_put (cs := #[.string t347, .int .i64 0, .string (⟨#[]⟩ : ByteArray)]) ?_ 1 _ rfl; (with_reducible repeat (first | refine blk_drewN ?_ _ | refine blk_drew ?_ | refine blk_alloc ?_ _)); refine blk_put (cs := #[.string (⟨#[]⟩ : ByteArray), .int .i64 0, .string (⟨#[]⟩ : ByteArray)]) ?_ 0 _ rfl; (with_reducible repeat (first | refine blk_drewN ?_ _ | refine blk_drew ?_ | refine blk_alloc ?_ _)); exact BK351.out) hb); have n4_ := Aside0.mk (below_step (by repeat (first | (with_reducible first | exact HB.out | apply below_alloc | apply pw_below_drewN | apply below_drew1 | refine below_set ?_ GE320.out | refine below_set ?_ GE321.out | refine below_set ?_ GE327.out | refine below_set ?_ GE351.out) | exact HB.out)) hb); clear BK320; clear BK321; clear BK327; clear BK351; clear HB; have BK320 := n0_; have BK321 := n1_; have BK327 := n2_; have BK351 := n3_; have HB := n4_; clear n0_ n1_ n2_ n3_ n4_; (try clear hb); (try clear hb2); (try clear hk); (try clear hi)) | (go_at_call 25; (with_reducible refine (tollhouselaw10_wakes.calls  t353 _ (Glob.below HGl.out (by repeat (first | (with_reducible first | exact HB.out | apply below_alloc | apply pw_below_drewN | apply below_drew1 | refine below_set ?_ GE320.out | refine below_set ?_ GE321.out | refine below_set ?_ GE327.out | refine below_set ?_ GE351.out) | exact HB.out))) A233.out).mono ?_); rintro e w244 ⟨rfl, hb⟩; have n0_ := Aside0.mk (blk_below (g := gb320) (o := .cells #[.string a0_0, .int .i64 a0_1, .string a0_2] 35 (0, 0)) (by (with_reducible repeat (first | refine blk_drewN ?_ _ | refine blk_drew ?_ | refine blk_alloc ?_ _)); exact BK320.out) hb); have n1_ := Aside0.mk (blk_below (g := gb321) (o := .cells #[.string a1_0, .int .i64 a1_1, .string a1_2] 35 (0, 0)) (by (with_reducible repeat (first | refine blk_drewN ?_ _ | refine blk_drew ?_ | refine blk_alloc ?_ _)); exact BK321.out) hb); have n2_ := Aside0.mk (blk_below (g := gb327) (o := .cells #[.string t323, .int .i64 t324, .string t325] 35 (0, 0)) (by (with_reducible repeat (first | refine blk_drewN ?_ _ | refine blk_drew ?_ | refine blk_alloc ?_ _)); exact BK327.out) hb); have n3_ := Aside0.mk (blk_below (g := gb351) (o := .cells #[.string t347, .int .i64 t348, .string t349] 35 (0, 0)) (by (with_reducible repeat (first | refine blk_drewN ?_ _ | refine blk_drew ?_ | refine blk_alloc ?_ _)); exact BK351.out) hb); have n4_ := Aside0.mk (below_step (by repeat (first | (with_reducible first | exact HB.out | apply below_alloc | apply pw_below_drewN | apply below_drew1 | refine below_set ?_ GE320.out | refine below_set ?_ GE321.out | refine below_set ?_ GE327.out | refine below_set ?_ GE351.out) | exact HB.out)) hb); clear BK320; clear BK321; clear BK327; clear BK351; clear HB; have BK320 := n0_; have BK321 := n1_; have BK327 := n2_; have BK351 := n3_; have HB := n4_; clear n0_ n1_ n2_ n3_ n4_; (try clear hb); (try clear hb2); (try clear hk); (try clear hi)))
         go_ret
         exact ⟨by first | rfl | (simp [errW_none, errW_some] <;> rfl) | (simp [*, errW_none, errW_some] <;> rfl), by repeat (first | (with_reducible first | exact HB.out | apply below_alloc | apply pw_below_drewN | apply below_drew1 | refine below_set ?_ GE320.out | refine below_set ?_ GE321.out | refine below_set ?_ GE327.out | refine below_set ?_ GE351.out) | exact HB.out)⟩
        ·
         rw [if_neg c232] at H
         have c232b0 : (t350 == 0) = false := beq_eq_false_iff_ne.mpr c232
         have hx9_ : t352 = false := by have h_ := c231b0; rw [c232b0] at h_; simpa using h_
         have c232b1 : (t350 != 0) = true := bne_iff_ne.mpr c232
         by_cases c245 : t350 = 23
         ·
          rw [if_pos c245] at H
          have c245b0 : (t350 == 23) = true := beq_iff_eq.mpr c245
          have c245b1 : (t350 != 23) = false := bne_eq_false_iff_eq.mpr c245
          clear c245
          by_cases c246 : (t347.toList == ([] : List UInt8) && (t348 == 0 && (t349.toList == ([] : List UInt8)))) = true
          ·
           rw [if_pos c246] at H
           have c246b0 : (t347.toList == ([] : List UInt8) && (t348 == 0 && (t349.toList == ([] : List UInt8)))) = true := c246
           obtain ⟨hz10_, hy10_, hw10_⟩ : t347.toList = ([] : List UInt8) ∧ (t348 == 0) = true ∧ t349.toList = ([] : List UInt8) := by simpa using c246b0
           have hv10_ : decide (t348 = 0) = true := by simpa using hy10_
           (try (have c246b1 : decide (t347.toList = ([] : List UInt8) && (t348 == 0 && (t349.toList == ([] : List UInt8)))) = true := by simpa using c246))
           (try (have c246b2 : (t347.toList == ([] : List UInt8) && (t348 == 0 && (t349.toList == ([] : List UInt8)))) = true := by simpa using c246))
           clear c246
           replace H := Option.bind_eq_some_iff.mp H
           obtain ⟨t354, A2470, H⟩ := H
           replace H : (some t354) = some r := H
           have A247 := Aside0.mk A2470
           clear A2470
           obtain rfl := Option.some.inj H
           have hnb248 := NB320_321.out
           have hnc248 := NB321_320.out
           have hnb249 := NB320_327.out
           have hnc249 := NB327_320.out
           have hcz250_0 : wc.cell? ⟨gb320, 0, none⟩ = some (.string a0_0) := (blk_cell BK320.out 0).trans rfl
           have hcz250_1 : wc.cell? ⟨gb320, 1, none⟩ = some (.int .i64 a0_1) := (blk_cell BK320.out 1).trans rfl
           have hcz250_2 : wc.cell? ⟨gb320, 2, none⟩ = some (.string a0_2) := (blk_cell BK320.out 2).trans rfl
           have hfz250_0 := blk_frozen BK320.out 0
           have hfz250_1 := blk_frozen BK320.out 1
           have hfz250_2 := blk_frozen BK320.out 2
           go_wp2_with (first | ((with_reducible refine gate_callee (f := 28) rfl ?_); refine goesL_ (some 88) rfl rfl Tryd.func28 (by kernel_rfl) rfl #[.agg #[.string a0_0, .int .i64 a0_1, .string a0_2], .string a2] rfl (by (try simp only [List.map_toArray, List.map_cons, List.map_nil]); first | done | rfl | (simp only [List.length_drop, List.length_take]; rfl)) ?_; (with_reducible refine (uri_Join.calls kj62 a0_0 a0_1 a0_2 a2 t347 t348 t349 t350 _ (Glob.below HGl.out (by repeat (first | (with_reducible first | exact HB.out | apply below_alloc | apply pw_below_drewN | apply below_drew1 | refine below_set ?_ GE320.out | refine below_set ?_ GE321.out | refine below_set ?_ GE327.out) | exact HB.out))) A229.out).mono ?_); rintro e w251 ⟨rfl, hb⟩; refine ⟨_, rfl, ?_⟩; have n0_ := Aside0.mk (blk_below (g := gb320) (o := .cells #[.string a0_0, .int .i64 a0_1, .string a0_2] 35 (0, 0)) (by (with_reducible repeat (first | refine blk_drewN ?_ _ | refine blk_drew ?_ | refine blk_alloc ?_ _)); exact BK320.out) hb); have n1_ := Aside0.mk (blk_below (g := gb321) (o := .cells #[.string a1_0, .int .i64 a1_1, .string a1_2] 35 (0, 0)) (by (with_reducible repeat (first | refine blk_drewN ?_ _ | refine blk_drew ?_ | refine blk_alloc ?_ _)); exact BK321.out) hb); have n2_ := Aside0.mk (blk_below (g := gb327) (o := .cells #[.string t323, .int .i64 t324, .string t325] 35 (0, 0)) (by (with_reducible repeat (first | refine blk_drewN ?_ _ | refine blk_drew ?_ | refine blk_alloc ?_ _)); exact BK327.out) hb); have n3_ := Aside0.mk (below_step (by repeat (first | (with_reducible first | exact HB.out | apply below_alloc | apply pw_below_drewN | apply below_drew1 | refine below_set ?_ GE320.out | refine below_set ?_ GE321.out | refine below_set ?_ GE327.out) | exact HB.out)) hb); clear BK320; clear BK321; clear BK327; clear HB; have BK320 := n0_; have BK321 := n1_; have BK327 := n2_; have HB := n3_; clear n0_ n1_ n2_ n3_; (try clear hb); (try clear hb2); (try clear hk); (try clear hi)) | ((with_reducible refine gate_dst (N := 12) rfl ?_); (try (refine gate_guard (by rfl) ?_; dsimp only)); refine box_event ?hg (N := 12) ?hd (cs := #[.string (⟨#[]⟩ : ByteArray), .int .i64 0, .string (⟨#[]⟩ : ByteArray)]) (t := 35) ?hr ?_; (case hd => rfl); (case hg => rfl); (case hr => first | (go_simp; done) | (go_simp; rfl)); intro gb351 hg w252 hbox hb; have n0_ := Aside0.mk (blk_below (g := gb320) (o := .cells #[.string a0_0, .int .i64 a0_1, .string a0_2] 35 (0, 0)) (by (with_reducible repeat (first | refine blk_drewN ?_ _ | refine blk_drew ?_ | refine blk_alloc ?_ _)); exact BK320.out) hb); have n1_ := Aside0.mk (blk_below (g := gb321) (o := .cells #[.string a1_0, .int .i64 a1_1, .string a1_2] 35 (0, 0)) (by (with_reducible repeat (first | refine blk_drewN ?_ _ | refine blk_drew ?_ | refine blk_alloc ?_ _)); exact BK321.out) hb); have n2_ := Aside0.mk (blk_below (g := gb327) (o := .cells #[.string t323, .int .i64 t324, .string t325] 35 (0, 0)) (by (with_reducible repeat (first | refine blk_drewN ?_ _ | refine blk_drew ?_ | refine blk_alloc ?_ _)); exact BK327.out) hb); have n3_ := Aside0.mk (below_step (by repeat (first | (with_reducible first | exact HB.out | apply below_alloc | apply pw_below_drewN | apply below_drew1 | refine below_set ?_ GE320.out | refine below_set ?_ GE321.out | refine below_set ?_ GE327.out) | exact HB.out)) hb); have n4_ := Aside0.mk (hbox); have n5_ := Aside0.mk ((by rw [hg]; exact (below_size (by repeat (first | (with_reducible first | exact HB.out | apply below_alloc | apply pw_below_drewN | apply below_drew1 | refine below_set ?_ GE320.out | refine below_set ?_ GE321.out | refine below_set ?_ GE327.out) | exact HB.out))) : w.heap.size ≤ gb351)); have n6_ := Aside0.mk ((by rw [hg]; exact (below_size (by repeat (first | (with_reducible first | exact HB.out | apply below_alloc | apply pw_below_drewN | apply below_drew1 | refine below_set ?_ GE320.out | refine below_set ?_ GE321.out | refine below_set ?_ GE327.out) | exact HB.out))) : w.heap.size ≤ gb351)); have n7_ := Aside0.mk ((by rw [hg]; exact Nat.ne_of_lt (blk_lt (g := gb320) (o := .cells #[.string a0_0, .int .i64 a0_1, .string a0_2] 35 (0, 0)) (by (with_reducible repeat (first | refine blk_drewN ?_ _ | refine blk_drew ?_ | refine blk_alloc ?_ _)); exact BK320.out)) : gb320 ≠ gb351)); have n8_ := Aside0.mk ((by rw [hg]; exact Nat.ne_of_gt (blk_lt (g := gb320) (o := .cells #[.string a0_0, .int .i64 a0_1, .string a0_2] 35 (0, 0)) (by (with_reducible repeat (first | refine blk_drewN ?_ _ | refine blk_drew ?_ | refine blk_alloc ?_ _)); exact BK320.out)) : gb351 ≠ gb320)); have n9_ := Aside0.mk ((by rw [hg]; exact Nat.ne_of_lt (blk_lt (g := gb321) (o := .cells #[.string a1_0, .int .i64 a1_1, .string a1_2] 35 (0, 0)) (by (with_reducible repeat (first | refine blk_drewN ?_ _ | refine blk_drew ?_ | refine blk_alloc ?_ _)); exact BK321.out)) : gb321 ≠ gb351)); have n10_ := Aside0.mk ((by rw [hg]; exact Nat.ne_of_gt (blk_lt (g := gb321) (o := .cells #[.string a1_0, .int .i64 a1_1, .string a1_2] 35 (0, 0)) (by (with_reducible repeat (first | refine blk_drewN ?_ _ | refine blk_drew ?_ | refine blk_alloc ?_ _)); exact BK321.out)) : gb351 ≠ gb321)); have n11_ := Aside0.mk ((by rw [hg]; exact Nat.ne_of_lt (blk_lt (g := gb327) (o := .cells #[.string t323, .int .i64 t324, .string t325] 35 (0, 0)) (by (with_reducible repeat (first | refine blk_drewN ?_ _ | refine blk_drew ?_ | refine blk_alloc ?_ _)); exact BK327.out)) : gb327 ≠ gb351)); have n12_ := Aside0.mk ((by rw [hg]; exact Nat.ne_of_gt (blk_lt (g := gb327) (o := .cells #[.string t323, .int .i64 t324, .string t325] 35 (0, 0)) (by (with_reducible repeat (first | refine blk_drewN ?_ _ | refine blk_drew ?_ | refine blk_alloc ?_ _)); exact BK327.out)) : gb351 ≠ gb327)); clear BK320; clear BK321; clear BK327; clear HB; have BK320 := n0_; have BK321 := n1_; have BK327 := n2_; have HB := n3_; have BK351 := n4_; have GW351 := n5_; have GE351 := n6_; have NB320_351 := n7_; have NB351_320 := n8_; have NB321_351 := n9_; have NB351_321 := n10_; have NB327_351 := n11_; have NB351_327 := n12_; clear n0_ n1_ n2_ n3_ n4_ n5_ n6_ n7_ n8_ n9_ n10_ n11_ n12_; clear hb hbox hg; have hnb253 := NB351_320.out; have hnc253 := NB320_351.out; have hnb254 := NB351_321.out; have hnc254 := NB321_351.out; have hnb255 := NB351_327.out; have hnc255 := NB327_351.out; have hcz256_0 : w252.cell? ⟨gb351, 0, none⟩ = some (.string (⟨#[]⟩ : ByteArray)) := (blk_cell BK351.out 0).trans rfl; have hcz256_1 : w252.cell? ⟨gb351, 1, none⟩ = some (.int .i64 0) := (blk_cell BK351.out 1).trans rfl; have hcz256_2 : w252.cell? ⟨gb351, 2, none⟩ = some (.string (⟨#[]⟩ : ByteArray)) := (blk_cell BK351.out 2).trans rfl; have hfz256_0 := blk_frozen BK351.out 0; have hfz256_1 := blk_frozen BK351.out 1; have hfz256_2 := blk_frozen BK351.out 2) | ((with_reducible refine gate_callee (f := 22) rfl ?_); refine goesL_ (some 94) rfl rfl Tryd.func22 (by kernel_rfl) rfl #[.agg #[.string t347, .int .i64 t348, .string t349]] rfl (by (try simp only [List.map_toArray, List.map_cons, List.map_nil]); first | done | rfl | (simp only [List.length_drop, List.length_take]; rfl)) ?_; (with_reducible refine (uri_May.calls t347 t348 t349 t352 _ (Glob.below HGl.out (by repeat (first | (with_reducible first | exact HB.out | apply below_alloc | apply pw_below_drewN | apply below_drew1 | refine below_set ?_ GE320.out | refine below_set ?_ GE321.out | refine below_set ?_ GE327.out | refine below_set ?_ GE351.out) | exact HB.out))) A230.out).mono ?_); rintro e w257 ⟨rfl, hb⟩; refine ⟨_, rfl, ?_⟩; have n0_ := Aside0.mk (blk_below (g := gb320) (o := .cells #[.string a0_0, .int .i64 a0_1, .string a0_2] 35 (0, 0)) (by (with_reducible repeat (first | refine blk_drewN ?_ _ | refine blk_drew ?_ | refine blk_alloc ?_ _)); refine blk_far ?_ NB320_351.out _; (with_reducible repeat (first | refine blk_drewN ?_ _ | refine blk_drew ?_ | refine blk_alloc ?_ _)); refine blk_far ?_ NB320_351.out _; (with_reducible repeat (first | refine blk_drewN ?_ _ | refine blk_drew ?_ | refine blk_alloc ?_ _)); refine blk_far ?_ NB320_351.out _; (with_reducible repeat (first | refine blk_drewN ?_ _ | refine blk_drew ?_ | refine blk_alloc ?_ _)); exact BK320.out) hb); have n1_ := Aside0.mk (blk_below (g := gb321) (o := .cells #[.string a1_0, .int .i64 a1_1, .string a1_2] 35 (0, 0)) (by (with_reducible repeat (first | refine blk_drewN ?_ _ | refine blk_drew ?_ | refine blk_alloc ?_ _)); refine blk_far ?_ NB321_351.out _; (with_reducible repeat (first | refine blk_drewN ?_ _ | refine blk_drew ?_ | refine blk_alloc ?_ _)); refine blk_far ?_ NB321_351.out _; (with_reducible repeat (first | refine blk_drewN ?_ _ | refine blk_drew ?_ | refine blk_alloc ?_ _)); refine blk_far ?_ NB321_351.out _; (with_reducible repeat (first | refine blk_drewN ?_ _ | refine blk_drew ?_ | refine blk_alloc ?_ _)); exact BK321.out) hb); have n2_ := Aside0.mk (blk_below (g := gb327) (o := .cells #[.string t323, .int .i64 t324, .string t325] 35 (0, 0)) (by (with_reducible repeat (first | refine blk_drewN ?_ _ | refine blk_drew ?_ | refine blk_alloc ?_ _)); refine blk_far ?_ NB327_351.out _; (with_reducible repeat (first | refine blk_drewN ?_ _ | refine blk_drew ?_ | refine blk_alloc ?_ _)); refine blk_far ?_ NB327_351.out _; (with_reducible repeat (first | refine blk_drewN ?_ _ | refine blk_drew ?_ | refine blk_alloc ?_ _)); refine blk_far ?_ NB327_351.out _; (with_reducible repeat (first | refine blk_drewN ?_ _ | refine blk_drew ?_ | refine blk_alloc ?_ _)); exact BK327.out) hb); have n3_ := Aside0.mk (blk_below (g := gb351) (o := .cells #[.string t347, .int .i64 t348, .string t349] 35 (0, 0)) (by (with_reducible repeat (first | refine blk_drewN ?_ _ | refine blk_drew ?_ | refine blk_alloc ?_ _)); refine blk_put (cs := #[.string t347, .int .i64 t348, .string (⟨#[]⟩ : ByteArray)]) ?_ 2 _ rfl; (with_reducible repeat (first | refine blk_drewN ?_ _ | refine blk_drew ?_ | refine blk_alloc ?_ _)); refine blk_put (cs := #[.string t347, .int .i64 0, .string (⟨#[]⟩ : ByteArray)]) ?_ 1 _ rfl; (with_reducible repeat (first | refine blk_drewN ?_ _ | refine blk_drew ?_ | refine blk_alloc ?_ _)); refine blk_put (cs := #[.string (⟨#[]⟩ : ByteArray), .int .i64 0, .string (⟨#[]⟩ : ByteArray)]) ?_ 0 _ rfl; (with_reducible repeat (first | refine blk_drewN ?_ _ | refine blk_drew ?_ | refine blk_alloc ?_ _)); exact BK351.out) hb); have n4_ := Aside0.mk (below_step (by repeat (first | (with_reducible first | exact HB.out | apply below_alloc | apply pw_below_drewN | apply below_drew1 | refine below_set ?_ GE320.out | refine below_set ?_ GE321.out | refine below_set ?_ GE327.out | refine below_set ?_ GE351.out) | exact HB.out)) hb); clear BK320; clear BK321; clear BK327; clear BK351; clear HB; have BK320 := n0_; have BK321 := n1_; have BK327 := n2_; have BK351 := n3_; have HB := n4_; clear n0_ n1_ n2_ n3_ n4_; (try clear hb); (try clear hb2); (try clear hk); (try clear hi); have hcz258_0 : w257.cell? ⟨gb351, 0, none⟩ = some (.string t347) := (blk_cell BK351.out 0).trans rfl; have hcz258_1 : w257.cell? ⟨gb351, 1, none⟩ = some (.int .i64 t348) := (blk_cell BK351.out 1).trans rfl; have hcz258_2 : w257.cell? ⟨gb351, 2, none⟩ = some (.string t349) := (blk_cell BK351.out 2).trans rfl; have hfz258_0 := blk_frozen BK351.out 0; have hfz258_1 := blk_frozen BK351.out 1; have hfz258_2 := blk_frozen BK351.out 2) | (go_at_call 25; (with_reducible refine (tollhouselaw10_wakes.calls  t354 _ (Glob.below HGl.out (by repeat (first | (with_reducible first | exact HB.out | apply below_alloc | apply pw_below_drewN | apply below_drew1 | refine below_set ?_ GE320.out | refine below_set ?_ GE321.out | refine below_set ?_ GE327.out | refine below_set ?_ GE351.out) | exact HB.out))) A247.out).mono ?_); rintro e w259 ⟨rfl, hb⟩; have n0_ := Aside0.mk (blk_below (g := gb320) (o := .cells #[.string a0_0, .int .i64 a0_1, .string a0_2] 35 (0, 0)) (by (with_reducible repeat (first | refine blk_drewN ?_ _ | refine blk_drew ?_ | refine blk_alloc ?_ _)); exact BK320.out) hb); have n1_ := Aside0.mk (blk_below (g := gb321) (o := .cells #[.string a1_0, .int .i64 a1_1, .string a1_2] 35 (0, 0)) (by (with_reducible repeat (first | refine blk_drewN ?_ _ | refine blk_drew ?_ | refine blk_alloc ?_ _)); exact BK321.out) hb); have n2_ := Aside0.mk (blk_below (g := gb327) (o := .cells #[.string t323, .int .i64 t324, .string t325] 35 (0, 0)) (by (with_reducible repeat (first | refine blk_drewN ?_ _ | refine blk_drew ?_ | refine blk_alloc ?_ _)); exact BK327.out) hb); have n3_ := Aside0.mk (blk_below (g := gb351) (o := .cells #[.string t347, .int .i64 t348, .string t349] 35 (0, 0)) (by (with_reducible repeat (first | refine blk_drewN ?_ _ | refine blk_drew ?_ | refine blk_alloc ?_ _)); exact BK351.out) hb); have n4_ := Aside0.mk (below_step (by repeat (first | (with_reducible first | exact HB.out | apply below_alloc | apply pw_below_drewN | apply below_drew1 | refine below_set ?_ GE320.out | refine below_set ?_ GE321.out | refine below_set ?_ GE327.out | refine below_set ?_ GE351.out) | exact HB.out)) hb); clear BK320; clear BK321; clear BK327; clear BK351; clear HB; have BK320 := n0_; have BK321 := n1_; have BK327 := n2_; have BK351 := n3_; have HB := n4_; clear n0_ n1_ n2_ n3_ n4_; (try clear hb); (try clear hb2); (try clear hk); (try clear hi)))
           go_ret
           exact ⟨by first | rfl | (simp [errW_none, errW_some] <;> rfl) | (simp [*, errW_none, errW_some] <;> rfl), by repeat (first | (with_reducible first | exact HB.out | apply below_alloc | apply pw_below_drewN | apply below_drew1 | refine below_set ?_ GE320.out | refine below_set ?_ GE321.out | refine below_set ?_ GE327.out | refine below_set ?_ GE351.out) | exact HB.out)⟩
          ·
           rw [if_neg c246] at H
           have c246b0 : (t347.toList == ([] : List UInt8) && (t348 == 0 && (t349.toList == ([] : List UInt8)))) = false := by simpa using c246
           (try (have c246b1 : decide (t347.toList = ([] : List UInt8) && (t348 == 0 && (t349.toList == ([] : List UInt8)))) = false := by simpa using c246))
           (try (have c246b2 : (t347.toList == ([] : List UInt8) && (t348 == 0 && (t349.toList == ([] : List UInt8)))) = false := by simpa using c246))
           (try (have c246b3 : ¬ (t347.toList = ([] : List UInt8) && (t348 == 0 && (t349.toList == ([] : List UInt8)))) := by simpa using c246))
           clear c246
           exact absurd ((Option.some.inj H).trans HR_.out) (by decide)
         ·
          rw [if_neg c245] at H
          have c245b0 : (t350 == 23) = false := beq_eq_false_iff_ne.mpr c245
          have c245b1 : (t350 != 23) = true := bne_iff_ne.mpr c245
          exact absurd ((Option.some.inj H).trans HR_.out) (by decide)
       ·
        rw [if_neg c231] at H
        have c231b0 : ((t350 == 0) == t352) = false := by simpa using c231
        (try (have c231b1 : decide ((t350 == 0) = t352) = false := by simpa using c231))
        (try (have c231b2 : ((t350 == 0) == t352) = false := by simpa using c231))
        (try (have c231b3 : ¬ ((t350 == 0) = t352) := by simpa using c231))
        clear c231
        exact absurd ((Option.some.inj H).trans HR_.out) (by decide)

end Go.Proofs.YtjdlaofeenblkaaDoor.X
