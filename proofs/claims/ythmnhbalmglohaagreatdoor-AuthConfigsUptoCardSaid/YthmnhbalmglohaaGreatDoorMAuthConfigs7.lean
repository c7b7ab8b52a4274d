/- A part of the proof of the law AuthConfigs: contracts of functions that it reaches, and plain lemmas. -/
import Derived.Test.YthmnhbalmglohaaGreatDoorMAuthConfigs1
import Derived.Test.YthmnhbalmglohaaGreatDoorMAuthConfigs2
import Derived.Test.YthmnhbalmglohaaGreatDoorMAuthConfigs3
import Derived.Test.YthmnhbalmglohaaGreatDoorMAuthConfigs4
import Derived.Test.YthmnhbalmglohaaGreatDoorMAuthConfigs6
import Derived.Test.YthmnhbalmglohaaGreatDoorMAuthConfigs5
import Derived.Lib.Split
import Derived.Shelf.Strings.Split
import Derived.Lib.IndexBytes
-- PRINTED by print.py (a twelfth state) out of the translation. Not trusted: Lean checks it.
namespace Go.Proofs.YthmnhbalmglohaaGreatDoor.X
open Go.RowKit Go.Proofs.YthmnhbalmglohaaGreatDoorW.PrintWords Go.Proofs.YthmnhbalmglohaaGreatDoorW.PrintLast Go.Proofs.YthmnhbalmglohaaGreatDoorW.PrintMore
attribute [local go_sem] max2_int min2_int max_two min_two max_three min_three max_four min_four   -- for this text's walks alone
set_option linter.unusedVariables false
set_option linter.unusedSimpArgs false
open Go.Proofs.YthmnhbalmglohaaGreatDoor.T

/-! ### tollhouselaw15_AuthConfigs: function 3 -/
def tollhouselaw15_AuthConfigs.f (k : Nat) (l0_0 : List (S27)) (a0_1 : Int) (a0_2 : Int) (a1_0 : ByteArray) (l1_1 : List (S46)) (a1_2 : Int) (a1_3 : Int) (a1_4 : Int) (a1_5 : Int) (a1_6 : Int) (a1_7 : Int) (a1_8 : Int) (a2 : ByteArray) : Option (Bool) := (auth_Config.f l0_0 a0_1 a0_2).bind fun t221 => ((tollhouseref15_Config.f k l0_0 a0_1 a0_2).bind fun t222 => (if (t221 == t222) = true then ((auth_Tenant.f a1_0 l1_1 a1_2 a1_3 a1_4 a1_5 a1_6 a1_7 a1_8).bind fun t223 => ((tollhouseref15_Tenant.f k a1_0 l1_1 a1_2 a1_3 a1_4 a1_5 a1_6 a1_7 a1_8).bind fun t224 => (if (t223 == t224) = true then ((auth_May.f a2).bind fun t225 => ((tollhouseref15_May.f k a2).bind fun t226 => (if (t225 == t226) = true then ((tollhouselaw15_wakes.f k).bind fun t227 => (some t227)) else (some false)))) else (some false)))) else (some false)))
theorem tollhouselaw15_AuthConfigs.mono : ∀ a0 a1 a2 a3 a4 a5 a6 a7 a8 a9 a10 a11 a12 k, LeO (tollhouselaw15_AuthConfigs.f k a0 a1 a2 a3 a4 a5 a6 a7 a8 a9 a10 a11 a12) (tollhouselaw15_AuthConfigs.f (k + 1) a0 a1 a2 a3 a4 a5 a6 a7 a8 a9 a10 a11 a12) := by
  intro a0 a1 a2 a3 a4 a5 a6 a7 a8 a9 a10 a11 a12 k
  unfold tollhouselaw15_AuthConfigs.f
  repeat' first
      | (with_reducible exact tollhouselaw15_wakes.mono _)
      | (with_reducible exact tollhouseref15_Config.mono _ _ _ _)
      | (with_reducible exact tollhouseref15_May.mono _ _)
      | (with_reducible exact tollhouseref15_Tenant.mono _ _ _ _ _ _ _ _ _ _)
      | (with_reducible exact LeO.refl _)
      | (with_reducible exact LeO.none _)
      | (with_reducible refine LeO.ite ?_ ?_)
      | (with_reducible refine LeO.bind ?_ (fun _ => ?_))
      | exact tollhouselaw15_wakes.mono _
      | exact tollhouseref15_Config.mono _ _ _ _
      | exact tollhouseref15_May.mono _ _
      | exact tollhouseref15_Tenant.mono _ _ _ _ _ _ _ _ _ _
      | exact LeO.none _
      | refine LeO.ite ?_ ?_
      | refine LeO.bind ?_ (fun _ => ?_)
def tollhouselaw15_AuthConfigs.T1 : Bool × List (List Nat × List Nat) := (true, [([], []), ([0], [0]), ([], []), ([2, 1], [2]), ([1, 3], [1, 3]), ([4, 3], [4]), ([5], [5]), ([6, 5, 5], [5, 6]), ([5], [5]), ([8, 7, 5], [5, 8]), ([7, 9, 5], [5, 7, 9]), ([5, 10], [5, 10]), ([11, 9], [11]), ([12], [12]), ([13, 12, 12], [12, 13]), ([12], [12]), ([15, 14, 12], [12, 15]), ([14, 16, 12], [12, 14, 16]), ([12, 17], [12, 17]), ([18, 16], [18]), ([19, 19], [19]), ([19, 20], [19, 20]), ([21, 20, 0, 1, 2, 3, 4, 5, 6, 7, 8, 9, 10, 11, 12, 13, 14, 15, 16, 17, 18, 19, 20, 21], [21])])
def tollhouselaw15_AuthConfigs.B1 : List Nat := [0, 1, 0, 7, 15, 31, 63, 127, 63, 511, 1023, 2047, 4095, 8191, 16383, 8191, 65535, 131071, 262143, 524287, 1048575, 2097151, 4194303]
theorem tollhouselaw15_AuthConfigs.tab1 : rtab .any (opsOf Tryz.f3 1) = tollhouselaw15_AuthConfigs.T1 := by kernel_rfl
theorem tollhouselaw15_AuthConfigs.bits1 : waitsOk tollhouselaw15_AuthConfigs.T1.2 tollhouselaw15_AuthConfigs.B1 = true := by kernel_rfl
set_option maxHeartbeats 8000000 in
set_option maxRecDepth 100000 in
theorem tollhouselaw15_AuthConfigs.calls (k : Nat) (A0_0 : Option Addr) (c0_0 : Nat) (l0_0 : List (S27)) (a0_1 : Int) (a0_2 : Int) (a1_0 : ByteArray) (A1_1 : Option Addr) (c1_1 : Nat) (l1_1 : List (S46)) (a1_2 : Int) (a1_3 : Int) (a1_4 : Int) (a1_5 : Int) (a1_6 : Int) (a1_7 : Int) (a1_8 : Int) (a2 : ByteArray) (r : Bool) (w : World) (hr0_0 : Kd.C k27 w A0_0 l0_0.length l0_0) (hc0_0 : l0_0.length ≤ c0_0) (hr1_1 : Kd.C k46 w A1_1 l1_1.length l1_1) (hc1_1 : l1_1.length ≤ c1_1) (HGg : Glob w) (h : tollhouselaw15_AuthConfigs.f k l0_0 a0_1 a0_2 a1_0 l1_1 a1_2 a1_3 a1_4 a1_5 a1_6 a1_7 a1_8 a2 = some r) :
    Calls Tryz.prog 3 #[.agg #[.slice A0_0 l0_0.length c0_0, .int .i64 a0_1, .int .i64 a0_2], .agg #[.string a1_0, .slice A1_1 l1_1.length c1_1, .int .i64 a1_2, .int .i64 a1_3, .int .i64 a1_4, .int .i64 a1_5, .int .i64 a1_6, .int .i64 a1_7, .int .i64 a1_8], .string a2] w fun e w' => e = .returned (.bool r) ∧ Below w.heap.size w w' := by
  have hu24 := Tryz.underlying24
  have hu27 := Tryz.underlying27
  have HGl := Aside0.mk HGg
  clear HGg
  have HR0_0 := Aside0.mk hr0_0
  have HC0_0 := Aside0.mk hc0_0
  clear hr0_0 hc0_0
  have HR1_1 := Aside0.mk hr1_1
  have HC1_1 := Aside0.mk hc1_1
  clear hr1_1 hc1_1
  have HB := Aside0.mk (Below.refl w.heap.size w)
  have H : ((auth_Config.f l0_0 a0_1 a0_2).bind fun t221 => ((tollhouseref15_Config.f k l0_0 a0_1 a0_2).bind fun t222 => (if (t221 == t222) = true then ((auth_Tenant.f a1_0 l1_1 a1_2 a1_3 a1_4 a1_5 a1_6 a1_7 a1_8).bind fun t223 => ((tollhouseref15_Tenant.f k a1_0 l1_1 a1_2 a1_3 a1_4 a1_5 a1_6 a1_7 a1_8).bind fun t224 => (if (t223 == t224) = true then ((auth_May.f a2).bind fun t225 => ((tollhouseref15_May.f k a2).bind fun t226 => (if (t225 == t226) = true then ((tollhouselaw15_wakes.f k).bind fun t227 => (some t227)) else (some false)))) else (some false)))) else (some false)))) = some r := h
  clear h
  replace H := Option.bind_eq_some_iff.mp H
  obtain ⟨t221, A40, H⟩ := H
  replace H : ((tollhouseref15_Config.f k l0_0 a0_1 a0_2).bind fun t222 => (if (t221 == t222) = true then ((auth_Tenant.f a1_0 l1_1 a1_2 a1_3 a1_4 a1_5 a1_6 a1_7 a1_8).bind fun t223 => ((tollhouseref15_Tenant.f k a1_0 l1_1 a1_2 a1_3 a1_4 a1_5 a1_6 a1_7 a1_8).bind fun t224 => (if (t223 == t224) = true then ((auth_May.f a2).bind fun t225 => ((tollhouseref15_May.f k a2).bind fun t226 => (if (t225 == t226) = true then ((tollhouselaw15_wakes.f k).bind fun t227 => (some t227)) else (some false)))) else (some false)))) else (some false))) = some r := H
  have A4 := Aside0.mk A40
  clear A40
  replace H := Option.bind_eq_some_iff.mp H
  obtain ⟨t222, A50, H⟩ := H
  replace H : (if (t221 == t222) = true then ((auth_Tenant.f a1_0 l1_1 a1_2 a1_3 a1_4 a1_5 a1_6 a1_7 a1_8).bind fun t223 => ((tollhouseref15_Tenant.f k a1_0 l1_1 a1_2 a1_3 a1_4 a1_5 a1_6 a1_7 a1_8).bind fun t224 => (if (t223 == t224) = true then ((auth_May.f a2).bind fun t225 => ((tollhouseref15_May.f k a2).bind fun t226 => (if (t225 == t226) = true then ((tollhouselaw15_wakes.f k).bind fun t227 => (some t227)) else (some false)))) else (some false)))) else (some false)) = some r := H
  have A5 := Aside0.mk A50
  clear A50
  by_cases c6 : (t221 == t222) = true
  · rw [if_pos c6] at H
    have c6b0 : (t221 == t222) = true := c6
    (try (have c6b1 : decide (t221 = t222) = true := by simpa using c6))
    (try (have c6b2 : (t221 == t222) = true := by simpa using c6))
    clear c6
    replace H := Option.bind_eq_some_iff.mp H
    obtain ⟨t223, A70, H⟩ := H
    replace H : ((tollhouseref15_Tenant.f k a1_0 l1_1 a1_2 a1_3 a1_4 a1_5 a1_6 a1_7 a1_8).bind fun t224 => (if (t223 == t224) = true then ((auth_May.f a2).bind fun t225 => ((tollhouseref15_May.f k a2).bind fun t226 => (if (t225 == t226) = true then ((tollhouselaw15_wakes.f k).bind fun t227 => (some t227)) else (some false)))) else (some false))) = some r := H
    have A7 := Aside0.mk A70
    clear A70
    replace H := Option.bind_eq_some_iff.mp H
    obtain ⟨t224, A80, H⟩ := H
    replace H : (if (t223 == t224) = true then ((auth_May.f a2).bind fun t225 => ((tollhouseref15_May.f k a2).bind fun t226 => (if (t225 == t226) = true then ((tollhouselaw15_wakes.f k).bind fun t227 => (some t227)) else (some false)))) else (some false)) = some r := H
    have A8 := Aside0.mk A80
    clear A80
    by_cases c9 : (t223 == t224) = true
    · rw [if_pos c9] at H
      have c9b0 : (t223 == t224) = true := c9
      (try (have c9b1 : decide (t223 = t224) = true := by simpa using c9))
      (try (have c9b2 : (t223 == t224) = true := by simpa using c9))
      clear c9
      replace H := Option.bind_eq_some_iff.mp H
      obtain ⟨t225, A100, H⟩ := H
      replace H : ((tollhouseref15_May.f k a2).bind fun t226 => (if (t225 == t226) = true then ((tollhouselaw15_wakes.f k).bind fun t227 => (some t227)) else (some false))) = some r := H
      have A10 := Aside0.mk A100
      clear A100
      replace H := Option.bind_eq_some_iff.mp H
      obtain ⟨t226, A110, H⟩ := H
      replace H : (if (t225 == t226) = true then ((tollhouselaw15_wakes.f k).bind fun t227 => (some t227)) else (some false)) = some r := H
      have A11 := Aside0.mk A110
      clear A110
      by_cases c12 : (t225 == t226) = true
      · rw [if_pos c12] at H
        have c12b0 : (t225 == t226) = true := c12
        (try (have c12b1 : decide (t225 = t226) = true := by simpa using c12))
        (try (have c12b2 : (t225 == t226) = true := by simpa using c12))
        clear c12
        replace H := Option.bind_eq_some_iff.mp H
        obtain ⟨t227, A130, H⟩ := H
        replace H : (some t227) = some r := H
        have A13 := Aside0.mk A130
        clear A130
        obtain rfl := Option.some.inj H
        go_enter Tryz.func3, Tryz.ntmps3
        try go_wp2_with (first | ((with_reducible refine gate_dst (N := 3) rfl ?_); refine box_event ?hg (N := 3) ?hd (cs := #[.slice A0_0 l0_0.length c0_0, .int .i64 a0_1, .int .i64 a0_2]) (t := 24) ?hr ?_; (case hd => rfl); (case hg => rfl); (case hr => first | (go_simp; done) | (go_simp; rfl)); intro gb219 hg w14 hbox hb; have n0_ := Aside0.mk (below_step (by repeat (first | (with_reducible first | exact HB.out | apply below_alloc | apply pw_below_drewN | apply below_drew1) | exact HB.out)) hb); have n1_ := Aside0.mk (hbox); have n2_ := Aside0.mk ((by rw [hg]; exact (below_size (by repeat (first | (with_reducible first | exact HB.out | apply below_alloc | apply pw_below_drewN | apply below_drew1) | exact HB.out))) : w.heap.size ≤ gb219)); have n3_ := Aside0.mk ((by rw [hg]; exact (below_size (by repeat (first | (with_reducible first | exact HB.out | apply below_alloc | apply pw_below_drewN | apply below_drew1) | exact HB.out))) : w.heap.size ≤ gb219)); clear HB; have HB := n0_; have BK219 := n1_; have GW219 := n2_; have GE219 := n3_; clear n0_ n1_ n2_ n3_; clear hb hbox hg) | ((with_reducible refine gate_dst (N := 4) rfl ?_); refine box_event ?hg (N := 4) ?hd (cs := #[.string a1_0, .slice A1_1 l1_1.length c1_1, .int .i64 a1_2, .int .i64 a1_3, .int .i64 a1_4, .int .i64 a1_5, .int .i64 a1_6, .int .i64 a1_7, .int .i64 a1_8]) (t := 27) ?hr ?_; (case hd => rfl); (case hg => rfl); (case hr => first | (go_simp; done) | (go_simp; rfl)); intro gb220 hg w15 hbox hb; have n0_ := Aside0.mk (blk_below (g := gb219) (o := .cells #[.slice A0_0 l0_0.length c0_0, .int .i64 a0_1, .int .i64 a0_2] 24 (0, 0)) (by (with_reducible repeat (first | refine blk_drewN ?_ _ | refine blk_drew ?_ | refine blk_alloc ?_ _)); exact BK219.out) hb); have n1_ := Aside0.mk (below_step (by repeat (first | (with_reducible first | exact HB.out | apply below_alloc | apply pw_below_drewN | apply below_drew1 | refine below_set ?_ GE219.out) | exact HB.out)) hb); have n2_ := Aside0.mk (hbox); have n3_ := Aside0.mk ((by rw [hg]; exact (below_size (by repeat (first | (with_reducible first | exact HB.out | apply below_alloc | apply pw_below_drewN | apply below_drew1 | refine below_set ?_ GE219.out) | exact HB.out))) : w.heap.size ≤ gb220)); have n4_ := Aside0.mk ((by rw [hg]; exact (below_size (by repeat (first | (with_reducible first | exact HB.out | apply below_alloc | apply pw_below_drewN | apply below_drew1 | refine below_set ?_ GE219.out) | exact HB.out))) : w.heap.size ≤ gb220)); have n5_ := Aside0.mk ((by rw [hg]; exact Nat.ne_of_lt (blk_lt (g := gb219) (o := .cells #[.slice A0_0 l0_0.length c0_0, .int .i64 a0_1, .int .i64 a0_2] 24 (0, 0)) (by (with_reducible repeat (first | refine blk_drewN ?_ _ | refine blk_drew ?_ | refine blk_alloc ?_ _)); exact BK219.out)) : gb219 ≠ gb220)); have n6_ := Aside0.mk ((by rw [hg]; exact Nat.ne_of_gt (blk_lt (g := gb219) (o := .cells #[.slice A0_0 l0_0.length c0_0, .int .i64 a0_1, .int .i64 a0_2] 24 (0, 0)) (by (with_reducible repeat (first | refine blk_drewN ?_ _ | refine blk_drew ?_ | refine blk_alloc ?_ _)); exact BK219.out)) : gb220 ≠ gb219)); clear BK219; clear HB; have BK219 := n0_; have HB := n1_; have BK220 := n2_; have GW220 := n3_; have GE220 := n4_; have NB219_220 := n5_; have NB220_219 := n6_; clear n0_ n1_ n2_ n3_ n4_ n5_ n6_; clear hb hbox hg))
        have n0_ := Aside0.mk (blk_drew BK219.out)
        have n1_ := Aside0.mk (blk_drew BK220.out)
        have n2_ := Aside0.mk (below_drew1 HB.out)
        clear BK219
        clear BK220
        clear HB
        have BK219 := n0_
        have BK220 := n1_
        have HB := n2_
        clear n0_ n1_ n2_
        refine start_ (n := 23) (S := fun w' => w'.cell? ⟨gb219, 0, none⟩ = some (.slice A0_0 l0_0.length c0_0) ∧ w'.cell? ⟨gb219, 1, none⟩ = some (.int .i64 a0_1) ∧ w'.cell? ⟨gb219, 2, none⟩ = some (.int .i64 a0_2) ∧ w'.cell? ⟨gb220, 0, none⟩ = some (.string a1_0) ∧ w'.cell? ⟨gb220, 1, none⟩ = some (.slice A1_1 l1_1.length c1_1) ∧ w'.cell? ⟨gb220, 2, none⟩ = some (.int .i64 a1_2) ∧ w'.cell? ⟨gb220, 3, none⟩ = some (.int .i64 a1_3) ∧ w'.cell? ⟨gb220, 4, none⟩ = some (.int .i64 a1_4) ∧ w'.cell? ⟨gb220, 5, none⟩ = some (.int .i64 a1_5) ∧ w'.cell? ⟨gb220, 6, none⟩ = some (.int .i64 a1_6) ∧ w'.cell? ⟨gb220, 7, none⟩ = some (.int .i64 a1_7) ∧ w'.cell? ⟨gb220, 8, none⟩ = some (.int .i64 a1_8)) (ds := []) #[false, false, false, false, false, false, false, false, false, false, false, false, false, false, false, false, false, false, false, false, false, false, false] (by kernel_rfl) rfl rfl ⟨(blk_cell BK219.out 0).trans rfl, (blk_cell BK219.out 1).trans rfl, (blk_cell BK219.out 2).trans rfl, (blk_cell BK220.out 0).trans rfl, (blk_cell BK220.out 1).trans rfl, (blk_cell BK220.out 2).trans rfl, (blk_cell BK220.out 3).trans rfl, (blk_cell BK220.out 4).trans rfl, (blk_cell BK220.out 5).trans rfl, (blk_cell BK220.out 6).trans rfl, (blk_cell BK220.out 7).trans rfl, (blk_cell BK220.out 8).trans rfl⟩ (fun hHeld => ?_); refine with_tabW tollhouselaw15_AuthConfigs.tab1 tollhouselaw15_AuthConfigs.bits1 (fun HT_ HW_ => ?_)
        generalize w15.drew = w16 at BK219 BK220 HB hHeld ⊢
        refine take_ (i := 0) (N := some 7) (v := ?_) (a' := ?_) #[true, false, false, false, false, false, false, false, false, false, false, false, false, false, false, false, false, false, false, false, false, false, false] rfl rfl (take_ofW HT_.out HW_.out (by kernel_rfl)) (fun _ _ _ h => h) (Or.inl ⟨by rfl, ?_⟩) hHeld ?_ ?_
        rotate_left
        · rintro w' ⟨s0, s1, s2, s3, s4, s5, s6, s7, s8, s9, s10, s11⟩
          go_simp
          with_reducible rfl
        rotate_left
        · simp only [Act.put, List.setIfInBounds_toArray, List.set_cons_zero, List.set_cons_succ, i64_w, i32_w]
          rfl
        refine take_ (i := 2) (N := some 9) (v := ?_) (a' := ?_) #[true, false, true, false, false, false, false, false, false, false, false, false, false, false, false, false, false, false, false, false, false, false, false] rfl rfl (take_ofW HT_.out HW_.out (by kernel_rfl)) (fun _ _ _ h => h) (Or.inl ⟨by rfl, ?_⟩) hHeld ?_ ?_
        rotate_left
        · rintro w' ⟨s0, s1, s2, s3, s4, s5, s6, s7, s8, s9, s10, s11⟩
          go_simp
          with_reducible rfl
        rotate_left
        · simp only [Act.put, List.setIfInBounds_toArray, List.set_cons_zero, List.set_cons_succ, i64_w, i32_w]
          rfl
        refine one_ (i := 1) (N := some 8) #[true, true, true, false, false, false, false, false, false, false, false, false, false, false, false, false, false, false, false, false, false, false, false] rfl rfl (one_of HT_.out (by kernel_rfl)) (by decide) (fun K hK => ?_)
        refine goes_ Tryz.func9 (by kernel_rfl) rfl #[.agg #[.slice A0_0 l0_0.length c0_0, .int .i64 a0_1, .int .i64 a0_2]] (by rfl) rfl rfl (by (try simp only [List.map_toArray, List.map_cons, List.map_nil]); first | done | rfl | (simp only [List.length_drop, List.length_take]; rfl)) ?_
        with_reducible refine (auth_Config.calls _ _ l0_0 a0_1 a0_2 t221 _ ?side1 ?side2 (Glob.below HGl.out (by repeat (first | (with_reducible first | exact HB.out | apply below_alloc | apply pw_below_drewN | apply below_drew1 | refine below_set ?_ GE219.out | refine below_set ?_ GE220.out) | exact HB.out))) A4.out).mono ?_
        (case side1 => repeat (first | exact (Kd.C_below HR0_0.out HB.out) | (with_reducible refine Kd.C_alloc ?_ _) | (with_reducible refine Kd.C_drewN ?_ _) | (with_reducible refine Kd.C_drew ?_)))
        (case side2 => exact HC0_0.out)
        rintro e w17 ⟨rfl, hb⟩
        refine ⟨_, rfl, ?_⟩
        have n0_ := Aside0.mk (blk_below (g := gb219) (o := .cells #[.slice A0_0 l0_0.length c0_0, .int .i64 a0_1, .int .i64 a0_2] 24 (0, 0)) (by (with_reducible repeat (first | refine blk_drewN ?_ _ | refine blk_drew ?_ | refine blk_alloc ?_ _)); exact BK219.out) hb)
        have n1_ := Aside0.mk (blk_below (g := gb220) (o := .cells #[.string a1_0, .slice A1_1 l1_1.length c1_1, .int .i64 a1_2, .int .i64 a1_3, .int .i64 a1_4, .int .i64 a1_5, .int .i64 a1_6, .int .i64 a1_7, .int .i64 a1_8] 27 (0, 0)) (by (with_reducible repeat (first | refine blk_drewN ?_ _ | refine blk_drew ?_ | refine blk_alloc ?_ _)); exact BK220.out) hb)
        have n2_ := Aside0.mk (below_step (by repeat (first | (with_reducible first | exact HB.out | apply below_alloc | apply pw_below_drewN | apply below_drew1 | refine below_set ?_ GE219.out | refine below_set ?_ GE220.out) | exact HB.out)) hb)
        clear BK219
        clear BK220
        clear HB
        have BK219 := n0_
        have BK220 := n1_
        have HB := n2_
        clear n0_ n1_ n2_
        (try clear hb)
        (try clear hb2)
        (try clear hk)
        (try clear hi)
        refine hK.out _ _ ⟨(blk_cell BK219.out 0).trans rfl, (blk_cell BK219.out 1).trans rfl, (blk_cell BK219.out 2).trans rfl, (blk_cell BK220.out 0).trans rfl, (blk_cell BK220.out 1).trans rfl, (blk_cell BK220.out 2).trans rfl, (blk_cell BK220.out 3).trans rfl, (blk_cell BK220.out 4).trans rfl, (blk_cell BK220.out 5).trans rfl, (blk_cell BK220.out 6).trans rfl, (blk_cell BK220.out 7).trans rfl, (blk_cell BK220.out 8).trans rfl⟩ (fun hHeld => ?_)
        clear hK K
        refine norm_ (a' := ?_) ?_ ?_
        rotate_left
        · show Act.put _ (some 8) _ = _
          simp only [Act.put, List.setIfInBounds_toArray, List.set_cons_zero, List.set_cons_succ, i64_w, i32_w]
          rfl
        refine one_ (i := 3) (N := some 10) #[true, true, true, true, false, false, false, false, false, false, false, false, false, false, false, false, false, false, false, false, false, false, false] rfl rfl (one_of HT_.out (by kernel_rfl)) (by decide) (fun K hK => ?_)
        refine goes_ Tryz.func10 (by kernel_rfl) rfl #[.agg #[.slice A0_0 l0_0.length c0_0, .int .i64 a0_1, .int .i64 a0_2]] (by rfl) rfl rfl (by (try simp only [List.map_toArray, List.map_cons, List.map_nil]); first | done | rfl | (simp only [List.length_drop, List.length_take]; rfl)) ?_
        with_reducible refine (tollhouseref15_Config.calls k _ _ l0_0 a0_1 a0_2 t222 _ ?side1 ?side2 (Glob.below HGl.out (by repeat (first | (with_reducible first | exact HB.out | apply below_alloc | apply pw_below_drewN | apply below_drew1 | refine below_set ?_ GE219.out | refine below_set ?_ GE220.out) | exact HB.out))) A5.out).mono ?_
        (case side1 => repeat (first | exact (Kd.C_below HR0_0.out HB.out) | (with_reducible refine Kd.C_alloc ?_ _) | (with_reducible refine Kd.C_drewN ?_ _) | (with_reducible refine Kd.C_drew ?_)))
        (case side2 => exact HC0_0.out)
        rintro e w18 ⟨rfl, hb⟩
        refine ⟨_, rfl, ?_⟩
        have n0_ := Aside0.mk (blk_below (g := gb219) (o := .cells #[.slice A0_0 l0_0.length c0_0, .int .i64 a0_1, .int .i64 a0_2] 24 (0, 0)) (by (with_reducible repeat (first | refine blk_drewN ?_ _ | refine blk_drew ?_ | refine blk_alloc ?_ _)); exact BK219.out) hb)
        have n1_ := Aside0.mk (blk_below (g := gb220) (o := .cells #[.string a1_0, .slice A1_1 l1_1.length c1_1, .int .i64 a1_2, .int .i64 a1_3, .int .i64 a1_4, .int .i64 a1_5, .int .i64 a1_6, .int .i64 a1_7, .int .i64 a1_8] 27 (0, 0)) (by (with_reducible repeat (first | refine blk_drewN ?_ _ | refine blk_drew ?_ | refine blk_alloc ?_ _)); exact BK220.out) hb)
        have n2_ := Aside0.mk (below_step (by repeat (first | (with_reducible first | exact HB.out | apply below_alloc | apply pw_below_drewN | apply below_drew1 | refine below_set ?_ GE219.out | refine below_set ?_ GE220.out) | exact HB.out)) hb)
        clear BK219
        clear BK220
        clear HB
        have BK219 := n0_
        have BK220 := n1_
        have HB := n2_
        clear n0_ n1_ n2_
        (try clear hb)
        (try clear hb2)
        (try clear hk)
        (try clear hi)
        refine hK.out _ _ ⟨(blk_cell BK219.out 0).trans rfl, (blk_cell BK219.out 1).trans rfl, (blk_cell BK219.out 2).trans rfl, (blk_cell BK220.out 0).trans rfl, (blk_cell BK220.out 1).trans rfl, (blk_cell BK220.out 2).trans rfl, (blk_cell BK220.out 3).trans rfl, (blk_cell BK220.out 4).trans rfl, (blk_cell BK220.out 5).trans rfl, (blk_cell BK220.out 6).trans rfl, (blk_cell BK220.out 7).trans rfl, (blk_cell BK220.out 8).trans rfl⟩ (fun hHeld => ?_)
        clear hK K
        refine norm_ (a' := ?_) ?_ ?_
        rotate_left
        · show Act.put _ (some 10) _ = _
          simp only [Act.put, List.setIfInBounds_toArray, List.set_cons_zero, List.set_cons_succ, i64_w, i32_w]
          rfl
        refine pure_ (i := 4) (N := some 11) (v := ?_) (a' := ?_) #[true, true, true, true, true, false, false, false, false, false, false, false, false, false, false, false, false, false, false, false, false, false, false] rfl rfl (any_of HT_.out (by kernel_rfl)) (fun _ _ _ h => h) (Or.inl ⟨by rfl, ?_⟩) ?_ ?_
        rotate_left
        · intro w'
          go_simp
          with_reducible rfl
        rotate_left
        · simp only [Act.put, List.setIfInBounds_toArray, List.set_cons_zero, List.set_cons_succ, i64_w, i32_w]
          rfl
        refine pure_ (i := 5) (N := some 12) (v := ?_) (a' := ?_) #[true, true, true, true, true, true, false, false, false, false, false, false, false, false, false, false, false, false, false, false, false, false, false] rfl rfl (any_of HT_.out (by kernel_rfl)) (fun _ _ _ h => h) (Or.inl ⟨by rfl, ?_⟩) ?_ ?_
        rotate_left
        · intro w'
          go_simp
          with_reducible rfl
        rotate_left
        · simp only [Act.put, List.setIfInBounds_toArray, List.set_cons_zero, List.set_cons_succ, i64_w, i32_w]
          rfl
        refine take_ (i := 6) (N := some 13) (v := ?_) (a' := ?_) #[true, true, true, true, true, true, true, false, false, false, false, false, false, false, false, false, false, false, false, false, false, false, false] rfl rfl (take_ofW HT_.out HW_.out (by kernel_rfl)) (fun _ _ _ h => h) (Or.inl ⟨by rfl, ?_⟩) hHeld ?_ ?_
        rotate_left
        · rintro w' ⟨s0, s1, s2, s3, s4, s5, s6, s7, s8, s9, s10, s11⟩
          go_simp
          with_reducible rfl
        rotate_left
        · simp only [Act.put, List.setIfInBounds_toArray, List.set_cons_zero, List.set_cons_succ, i64_w, i32_w]
          rfl
        refine take_ (i := 8) (N := some 15) (v := ?_) (a' := ?_) #[true, true, true, true, true, true, true, false, true, false, false, false, false, false, false, false, false, false, false, false, false, false, false] rfl rfl (take_ofW HT_.out HW_.out (by kernel_rfl)) (fun _ _ _ h => h) (Or.inl ⟨by rfl, ?_⟩) hHeld ?_ ?_
        rotate_left
        · rintro w' ⟨s0, s1, s2, s3, s4, s5, s6, s7, s8, s9, s10, s11⟩
          go_simp
          with_reducible rfl
        rotate_left
        · simp only [Act.put, List.setIfInBounds_toArray, List.set_cons_zero, List.set_cons_succ, i64_w, i32_w]
          rfl
        refine one_ (i := 7) (N := some 14) #[true, true, true, true, true, true, true, true, true, false, false, false, false, false, false, false, false, false, false, false, false, false, false] rfl rfl (one_of HT_.out (by kernel_rfl)) (by decide) (fun K hK => ?_)
        refine goes_ Tryz.func11 (by kernel_rfl) rfl #[.agg #[.string a1_0, .slice A1_1 l1_1.length c1_1, .int .i64 a1_2, .int .i64 a1_3, .int .i64 a1_4, .int .i64 a1_5, .int .i64 a1_6, .int .i64 a1_7, .int .i64 a1_8]] (by rfl) rfl rfl (by (try simp only [List.map_toArray, List.map_cons, List.map_nil]); first | done | rfl | (simp only [List.length_drop, List.length_take]; rfl)) ?_
        with_reducible refine (auth_Tenant.calls a1_0 _ _ l1_1 a1_2 a1_3 a1_4 a1_5 a1_6 a1_7 a1_8 t223 _ ?side1 ?side2 (Glob.below HGl.out (by repeat (first | (with_reducible first | exact HB.out | apply below_alloc | apply pw_below_drewN | apply below_drew1 | refine below_set ?_ GE219.out | refine below_set ?_ GE220.out) | exact HB.out))) A7.out).mono ?_
        (case side1 => repeat (first | exact (Kd.C_below HR1_1.out HB.out) | (with_reducible refine Kd.C_alloc ?_ _) | (with_reducible refine Kd.C_drewN ?_ _) | (with_reducible refine Kd.C_drew ?_)))
        (case side2 => exact HC1_1.out)
        rintro e w19 ⟨rfl, hb⟩
        refine ⟨_, rfl, ?_⟩
        have n0_ := Aside0.mk (blk_below (g := gb219) (o := .cells #[.slice A0_0 l0_0.length c0_0, .int .i64 a0_1, .int .i64 a0_2] 24 (0, 0)) (by (with_reducible repeat (first | refine blk_drewN ?_ _ | refine blk_drew ?_ | refine blk_alloc ?_ _)); exact BK219.out) hb)
        have n1_ := Aside0.mk (blk_below (g := gb220) (o := .cells #[.string a1_0, .slice A1_1 l1_1.length c1_1, .int .i64 a1_2, .int .i64 a1_3, .int .i64 a1_4, .int .i64 a1_5, .int .i64 a1_6, .int .i64 a1_7, .int .i64 a1_8] 27 (0, 0)) (by (with_reducible repeat (first | refine blk_drewN ?_ _ | refine blk_drew ?_ | refine blk_alloc ?_ _)); exact BK220.out) hb)
        have n2_ := Aside0.mk (below_step (by repeat (first | (with_reducible first | exact HB.out | apply below_alloc | apply pw_below_drewN | apply below_drew1 | refine below_set ?_ GE219.out | refine below_set ?_ GE220.out) | exact HB.out)) hb)
        clear BK219
        clear BK220
        clear HB
        have BK219 := n0_
        have BK220 := n1_
        have HB := n2_
        clear n0_ n1_ n2_
        (try clear hb)
        (try clear hb2)
        (try clear hk)
        (try clear hi)
        refine hK.out _ _ ⟨(blk_cell BK219.out 0).trans rfl, (blk_cell BK219.out 1).trans rfl, (blk_cell BK219.out 2).trans rfl, (blk_cell BK220.out 0).trans rfl, (blk_cell BK220.out 1).trans rfl, (blk_cell BK220.out 2).trans rfl, (blk_cell BK220.out 3).trans rfl, (blk_cell BK220.out 4).trans rfl, (blk_cell BK220.out 5).trans rfl, (blk_cell BK220.out 6).trans rfl, (blk_cell BK220.out 7).trans rfl, (blk_cell BK220.out 8).trans rfl⟩ (fun hHeld => ?_)
        clear hK K
        refine norm_ (a' := ?_) ?_ ?_
        rotate_left
        · show Act.put _ (some 14) _ = _
          simp only [Act.put, List.setIfInBounds_toArray, List.set_cons_zero, List.set_cons_succ, i64_w, i32_w]
          rfl
        refine one_ (i := 9) (N := some 16) #[true, true, true, true, true, true, true, true, true, true, false, false, false, false, false, false, false, false, false, false, false, false, false] rfl rfl (one_of HT_.out (by kernel_rfl)) (by decide) (fun K hK => ?_)
        refine goes_ Tryz.func12 (by kernel_rfl) rfl #[.agg #[.string a1_0, .slice A1_1 l1_1.length c1_1, .int .i64 a1_2, .int .i64 a1_3, .int .i64 a1_4, .int .i64 a1_5, .int .i64 a1_6, .int .i64 a1_7, .int .i64 a1_8]] (by rfl) rfl rfl (by (try simp only [List.map_toArray, List.map_cons, List.map_nil]); first | done | rfl | (simp only [List.length_drop, List.length_take]; rfl)) ?_
        with_reducible refine (tollhouseref15_Tenant.calls k a1_0 _ _ l1_1 a1_2 a1_3 a1_4 a1_5 a1_6 a1_7 a1_8 t224 _ ?side1 ?side2 (Glob.below HGl.out (by repeat (first | (with_reducible first | exact HB.out | apply below_alloc | apply pw_below_drewN | apply below_drew1 | refine below_set ?_ GE219.out | refine below_set ?_ GE220.out) | exact HB.out))) A8.out).mono ?_
        (case side1 => repeat (first | exact (Kd.C_below HR1_1.out HB.out) | (with_reducible refine Kd.C_alloc ?_ _) | (with_reducible refine Kd.C_drewN ?_ _) | (with_reducible refine Kd.C_drew ?_)))
        (case side2 => exact HC1_1.out)
        rintro e w20 ⟨rfl, hb⟩
        refine ⟨_, rfl, ?_⟩
        have n0_ := Aside0.mk (blk_below (g := gb219) (o := .cells #[.slice A0_0 l0_0.length c0_0, .int .i64 a0_1, .int .i64 a0_2] 24 (0, 0)) (by (with_reducible repeat (first | refine blk_drewN ?_ _ | refine blk_drew ?_ | refine blk_alloc ?_ _)); exact BK219.out) hb)
        have n1_ := Aside0.mk (blk_below (g := gb220) (o := .cells #[.string a1_0, .slice A1_1 l1_1.length c1_1, .int .i64 a1_2, .int .i64 a1_3, .int .i64 a1_4, .int .i64 a1_5, .int .i64 a1_6, .int .i64 a1_7, .int .i64 a1_8] 27 (0, 0)) (by (with_reducible repeat (first | refine blk_drewN ?_ _ | refine blk_drew ?_ | refine blk_alloc ?_ _)); exact BK220.out) hb)
        have n2_ := Aside0.mk (below_step (by repeat (first | (with_reducible first | exact HB.out | apply below_alloc | apply pw_below_drewN | apply below_drew1 | refine below_set ?_ GE219.out | refine below_set ?_ GE220.out) | exact HB.out)) hb)
        clear BK219
        clear BK220
        clear HB
        have BK219 := n0_
        have BK220 := n1_
        have HB := n2_
        clear n0_ n1_ n2_
        (try clear hb)
        (try clear hb2)
        (try clear hk)
        (try clear hi)
        refine hK.out _ _ ⟨(blk_cell BK219.out 0).trans rfl, (blk_cell BK219.out 1).trans rfl, (blk_cell BK219.out 2).trans rfl, (blk_cell BK220.out 0).trans rfl, (blk_cell BK220.out 1).trans rfl, (blk_cell BK220.out 2).trans rfl, (blk_cell BK220.out 3).trans rfl, (blk_cell BK220.out 4).trans rfl, (blk_cell BK220.out 5).trans rfl, (blk_cell BK220.out 6).trans rfl, (blk_cell BK220.out 7).trans rfl, (blk_cell BK220.out 8).trans rfl⟩ (fun hHeld => ?_)
        clear hK K
        refine norm_ (a' := ?_) ?_ ?_
        rotate_left
        · show Act.put _ (some 16) _ = _
          simp only [Act.put, List.setIfInBounds_toArray, List.set_cons_zero, List.set_cons_succ, i64_w, i32_w]
          rfl
        refine pure_ (i := 10) (N := some 17) (v := ?_) (a' := ?_) #[true, true, true, true, true, true, true, true, true, true, true, false, false, false, false, false, false, false, false, false, false, false, false] rfl rfl (any_of HT_.out (by kernel_rfl)) (fun _ _ _ h => h) (Or.inl ⟨by rfl, ?_⟩) ?_ ?_
        rotate_left
        · intro w'
          go_simp
          with_reducible rfl
        rotate_left
        · simp only [Act.put, List.setIfInBounds_toArray, List.set_cons_zero, List.set_cons_succ, i64_w, i32_w]
          rfl
        refine pure_ (i := 11) (N := some 18) (v := ?_) (a' := ?_) #[true, true, true, true, true, true, true, true, true, true, true, true, false, false, false, false, false, false, false, false, false, false, false] rfl rfl (any_of HT_.out (by kernel_rfl)) (fun _ _ _ h => h) (Or.inl ⟨by rfl, ?_⟩) ?_ ?_
        rotate_left
        · intro w'
          go_simp
          with_reducible rfl
        rotate_left
        · simp only [Act.put, List.setIfInBounds_toArray, List.set_cons_zero, List.set_cons_succ, i64_w, i32_w]
          rfl
        refine pure_ (i := 12) (N := some 19) (v := ?_) (a' := ?_) #[true, true, true, true, true, true, true, true, true, true, true, true, true, false, false, false, false, false, false, false, false, false, false] rfl rfl (any_of HT_.out (by kernel_rfl)) (fun _ _ _ h => h) (Or.inl ⟨by rfl, ?_⟩) ?_ ?_
        rotate_left
        · intro w'
          go_simp
          with_reducible rfl
        rotate_left
        · simp only [Act.put, List.setIfInBounds_toArray, List.set_cons_zero, List.set_cons_succ, i64_w, i32_w]
          rfl
        refine pure_ (i := 13) (N := some 20) (v := ?_) (a' := ?_) #[true, true, true, true, true, true, true, true, true, true, true, true, true, true, false, false, false, false, false, false, false, false, false] rfl rfl (any_of HT_.out (by kernel_rfl)) (fun _ _ _ h => h) (Or.inl ⟨by rfl, ?_⟩) ?_ ?_
        rotate_left
        · intro w'
          go_simp
          with_reducible rfl
        rotate_left
        · simp only [Act.put, List.setIfInBounds_toArray, List.set_cons_zero, List.set_cons_succ, i64_w, i32_w]
          rfl
        refine pure_ (i := 15) (N := some 22) (v := ?_) (a' := ?_) #[true, true, true, true, true, true, true, true, true, true, true, true, true, true, false, true, false, false, false, false, false, false, false] rfl rfl (any_of HT_.out (by kernel_rfl)) (fun _ _ _ h => h) (Or.inl ⟨by rfl, ?_⟩) ?_ ?_
        rotate_left
        · intro w'
          go_simp
          with_reducible rfl
        rotate_left
        · simp only [Act.put, List.setIfInBounds_toArray, List.set_cons_zero, List.set_cons_succ, i64_w, i32_w]
          rfl
        refine one_ (i := 14) (N := some 21) #[true, true, true, true, true, true, true, true, true, true, true, true, true, true, true, true, false, false, false, false, false, false, false] rfl rfl (one_of HT_.out (by kernel_rfl)) (by decide) (fun K hK => ?_)
        refine goes_ Tryz.func13 (by kernel_rfl) rfl #[.string a2] (by rfl) rfl rfl (by (try simp only [List.map_toArray, List.map_cons, List.map_nil]); first | done | rfl | (simp only [List.length_drop, List.length_take]; rfl)) ?_
        with_reducible refine (auth_May.calls a2 t225 _ (Glob.below HGl.out (by repeat (first | (with_reducible first | exact HB.out | apply below_alloc | apply pw_below_drewN | apply below_drew1 | refine below_set ?_ GE219.out | refine below_set ?_ GE220.out) | exact HB.out))) A10.out).mono ?_
        rintro e w21 ⟨rfl, hb⟩
        refine ⟨_, rfl, ?_⟩
        have n0_ := Aside0.mk (blk_below (g := gb219) (o := .cells #[.slice A0_0 l0_0.length c0_0, .int .i64 a0_1, .int .i64 a0_2] 24 (0, 0)) (by (with_reducible repeat (first | refine blk_drewN ?_ _ | refine blk_drew ?_ | refine blk_alloc ?_ _)); exact BK219.out) hb)
        have n1_ := Aside0.mk (blk_below (g := gb220) (o := .cells #[.string a1_0, .slice A1_1 l1_1.length c1_1, .int .i64 a1_2, .int .i64 a1_3, .int .i64 a1_4, .int .i64 a1_5, .int .i64 a1_6, .int .i64 a1_7, .int .i64 a1_8] 27 (0, 0)) (by (with_reducible repeat (first | refine blk_drewN ?_ _ | refine blk_drew ?_ | refine blk_alloc ?_ _)); exact BK220.out) hb)
        have n2_ := Aside0.mk (below_step (by repeat (first | (with_reducible first | exact HB.out | apply below_alloc | apply pw_below_drewN | apply below_drew1 | refine below_set ?_ GE219.out | refine below_set ?_ GE220.out) | exact HB.out)) hb)
        clear BK219
        clear BK220
        clear HB
        have BK219 := n0_
        have BK220 := n1_
        have HB := n2_
        clear n0_ n1_ n2_
        (try clear hb)
        (try clear hb2)
        (try clear hk)
        (try clear hi)
        refine hK.out _ _ ⟨(blk_cell BK219.out 0).trans rfl, (blk_cell BK219.out 1).trans rfl, (blk_cell BK219.out 2).trans rfl, (blk_cell BK220.out 0).trans rfl, (blk_cell BK220.out 1).trans rfl, (blk_cell BK220.out 2).trans rfl, (blk_cell BK220.out 3).trans rfl, (blk_cell BK220.out 4).trans rfl, (blk_cell BK220.out 5).trans rfl, (blk_cell BK220.out 6).trans rfl, (blk_cell BK220.out 7).trans rfl, (blk_cell BK220.out 8).trans rfl⟩ (fun hHeld => ?_)
        clear hK K
        refine norm_ (a' := ?_) ?_ ?_
        rotate_left
        · show Act.put _ (some 21) _ = _
          simp only [Act.put, List.setIfInBounds_toArray, List.set_cons_zero, List.set_cons_succ, i64_w, i32_w]
          rfl
        refine one_ (i := 16) (N := some 23) #[true, true, true, true, true, true, true, true, true, true, true, true, true, true, true, true, true, false, false, false, false, false, false] rfl rfl (one_of HT_.out (by kernel_rfl)) (by decide) (fun K hK => ?_)
        refine goes_ Tryz.func14 (by kernel_rfl) rfl #[.string a2] (by rfl) rfl rfl (by (try simp only [List.map_toArray, List.map_cons, List.map_nil]); first | done | rfl | (simp only [List.length_drop, List.length_take]; rfl)) ?_
        with_reducible refine (tollhouseref15_May.calls k a2 t226 _ (Glob.below HGl.out (by repeat (first | (with_reducible first | exact HB.out | apply below_alloc | apply pw_below_drewN | apply below_drew1 | refine below_set ?_ GE219.out | refine below_set ?_ GE220.out) | exact HB.out))) A11.out).mono ?_
        rintro e w' ⟨rfl, ⟨nd, rfl⟩⟩
        refine ⟨_, rfl, ?_⟩
        refine hK.out _ _ ⟨(blk_cell BK219.out 0).trans rfl, (blk_cell BK219.out 1).trans rfl, (blk_cell BK219.out 2).trans rfl, (blk_cell BK220.out 0).trans rfl, (blk_cell BK220.out 1).trans rfl, (blk_cell BK220.out 2).trans rfl, (blk_cell BK220.out 3).trans rfl, (blk_cell BK220.out 4).trans rfl, (blk_cell BK220.out 5).trans rfl, (blk_cell BK220.out 6).trans rfl, (blk_cell BK220.out 7).trans rfl, (blk_cell BK220.out 8).trans rfl⟩ (fun hHeld => ?_)
        clear hK K
        refine norm_ (a' := ?_) ?_ ?_
        rotate_left
        · show Act.put _ (some 23) _ = _
          simp only [Act.put, List.setIfInBounds_toArray, List.set_cons_zero, List.set_cons_succ, i64_w, i32_w]
          rfl
        refine pure_ (i := 17) (N := some 24) (v := ?_) (a' := ?_) #[true, true, true, true, true, true, true, true, true, true, true, true, true, true, true, true, true, true, false, false, false, false, false] rfl rfl (any_of HT_.out (by kernel_rfl)) (fun _ _ _ h => h) (Or.inl ⟨by rfl, ?_⟩) ?_ ?_
        rotate_left
        · intro w'
          go_simp
          with_reducible rfl
        rotate_left
        · simp only [Act.put, List.setIfInBounds_toArray, List.set_cons_zero, List.set_cons_succ, i64_w, i32_w]
          rfl
        refine pure_ (i := 18) (N := some 25) (v := ?_) (a' := ?_) #[true, true, true, true, true, true, true, true, true, true, true, true, true, true, true, true, true, true, true, false, false, false, false] rfl rfl (any_of HT_.out (by kernel_rfl)) (fun _ _ _ h => h) (Or.inl ⟨by rfl, ?_⟩) ?_ ?_
        rotate_left
        · intro w'
          go_simp
          with_reducible rfl
        rotate_left
        · simp only [Act.put, List.setIfInBounds_toArray, List.set_cons_zero, List.set_cons_succ, i64_w, i32_w]
          rfl
        refine pure_ (i := 19) (N := some 26) (v := ?_) (a' := ?_) #[true, true, true, true, true, true, true, true, true, true, true, true, true, true, true, true, true, true, true, true, false, false, false] rfl rfl (any_of HT_.out (by kernel_rfl)) (fun _ _ _ h => h) (Or.inl ⟨by rfl, ?_⟩) ?_ ?_
        rotate_left
        · intro w'
          go_simp
          with_reducible rfl
        rotate_left
        · simp only [Act.put, List.setIfInBounds_toArray, List.set_cons_zero, List.set_cons_succ, i64_w, i32_w]
          rfl
        refine one_ (i := 20) (N := some 27) #[true, true, true, true, true, true, true, true, true, true, true, true, true, true, true, true, true, true, true, true, true, false, false] rfl rfl (one_of HT_.out (by kernel_rfl)) (by decide) (fun K hK => ?_)
        refine goes_ Tryz.func15 (by kernel_rfl) rfl #[] (by rfl) rfl rfl (by (try simp only [List.map_toArray, List.map_cons, List.map_nil]); first | done | rfl | (simp only [List.length_drop, List.length_take]; rfl)) ?_
        with_reducible refine (tollhouselaw15_wakes.calls k  t227 _ (Glob.below HGl.out (by repeat (first | (with_reducible first | exact HB.out | apply below_alloc | apply pw_below_drewN | apply below_drew1 | refine below_set ?_ GE219.out | refine below_set ?_ GE220.out) | exact HB.out))) A13.out).mono ?_
        rintro e w22 ⟨rfl, hb⟩
        refine ⟨_, rfl, ?_⟩
        have n0_ := Aside0.mk (blk_below (g := gb219) (o := .cells #[.slice A0_0 l0_0.length c0_0, .int .i64 a0_1, .int .i64 a0_2] 24 (0, 0)) (by (with_reducible repeat (first | refine blk_drewN ?_ _ | refine blk_drew ?_ | refine blk_alloc ?_ _)); exact BK219.out) hb)
        have n1_ := Aside0.mk (blk_below (g := gb220) (o := .cells #[.string a1_0, .slice A1_1 l1_1.length c1_1, .int .i64 a1_2, .int .i64 a1_3, .int .i64 a1_4, .int .i64 a1_5, .int .i64 a1_6, .int .i64 a1_7, .int .i64 a1_8] 27 (0, 0)) (by (with_reducible repeat (first | refine blk_drewN ?_ _ | refine blk_drew ?_ | refine blk_alloc ?_ _)); exact BK220.out) hb)
        have n2_ := Aside0.mk (below_step (by repeat (first | (with_reducible first | exact HB.out | apply below_alloc | apply pw_below_drewN | apply below_drew1 | refine below_set ?_ GE219.out | refine below_set ?_ GE220.out) | exact HB.out)) hb)
        clear BK219
        clear BK220
        clear HB
        have BK219 := n0_
        have BK220 := n1_
        have HB := n2_
        clear n0_ n1_ n2_
        (try clear hb)
        (try clear hb2)
        (try clear hk)
        (try clear hi)
        refine hK.out _ _ ⟨(blk_cell BK219.out 0).trans rfl, (blk_cell BK219.out 1).trans rfl, (blk_cell BK219.out 2).trans rfl, (blk_cell BK220.out 0).trans rfl, (blk_cell BK220.out 1).trans rfl, (blk_cell BK220.out 2).trans rfl, (blk_cell BK220.out 3).trans rfl, (blk_cell BK220.out 4).trans rfl, (blk_cell BK220.out 5).trans rfl, (blk_cell BK220.out 6).trans rfl, (blk_cell BK220.out 7).trans rfl, (blk_cell BK220.out 8).trans rfl⟩ (fun hHeld => ?_)
        clear hK K
        refine norm_ (a' := ?_) ?_ ?_
        rotate_left
        · show Act.put _ (some 27) _ = _
          simp only [Act.put, List.setIfInBounds_toArray, List.set_cons_zero, List.set_cons_succ, i64_w, i32_w]
          rfl
        refine pure_ (i := 21) (N := some 28) (v := ?_) (a' := ?_) #[true, true, true, true, true, true, true, true, true, true, true, true, true, true, true, true, true, true, true, true, true, true, false] rfl rfl (any_of HT_.out (by kernel_rfl)) (fun _ _ _ h => h) (Or.inl ⟨by rfl, ?_⟩) ?_ ?_
        rotate_left
        · intro w'
          go_simp
          with_reducible rfl
        rotate_left
        · simp only [Act.put, List.setIfInBounds_toArray, List.set_cons_zero, List.set_cons_succ, i64_w, i32_w]
          rfl
        refine pure_ (i := 22) (N := some 6) (v := ?_) (a' := ?_) #[true, true, true, true, true, true, true, true, true, true, true, true, true, true, true, true, true, true, true, true, true, true, true] rfl rfl (any_of HT_.out (by kernel_rfl)) (fun _ _ _ h => h) (Or.inl ⟨by rfl, ?_⟩) ?_ ?_
        rotate_left
        · intro w'
          go_simp
          with_reducible rfl
        rotate_left
        · simp only [Act.put, List.setIfInBounds_toArray, List.set_cons_zero, List.set_cons_succ, i64_w, i32_w]
          rfl
        refine done_ (done_of HT_.out (by kernel_rfl)) ?_
        try go_wp2
        go_ret
        exact ⟨by first | rfl | (simp [errW_none, errW_some] <;> rfl) | (simp [*, errW_none, errW_some] <;> rfl), by repeat (first | (with_reducible first | exact HB.out | apply below_alloc | apply pw_below_drewN | apply below_drew1 | refine below_set ?_ GE219.out | refine below_set ?_ GE220.out) | exact HB.out)⟩
      · rw [if_neg c12] at H
        have c12b0 : (t225 == t226) = false := by simpa using c12
        (try (have c12b1 : decide (t225 = t226) = false := by simpa using c12))
        (try (have c12b2 : (t225 == t226) = false := by simpa using c12))
        (try (have c12b3 : ¬ (t225 = t226) := by simpa using c12))
        clear c12
        obtain rfl := Option.some.inj H
        go_enter Tryz.func3, Tryz.ntmps3
        try go_wp2_with (first | ((with_reducible refine gate_dst (N := 3) rfl ?_); refine box_event ?hg (N := 3) ?hd (cs := #[.slice A0_0 l0_0.length c0_0, .int .i64 a0_1, .int .i64 a0_2]) (t := 24) ?hr ?_; (case hd => rfl); (case hg => rfl); (case hr => first | (go_simp; done) | (go_simp; rfl)); intro gb219 hg w23 hbox hb; have n0_ := Aside0.mk (below_step (by repeat (first | (with_reducible first | exact HB.out | apply below_alloc | apply pw_below_drewN | apply below_drew1) | exact HB.out)) hb); have n1_ := Aside0.mk (hbox); have n2_ := Aside0.mk ((by rw [hg]; exact (below_size (by repeat (first | (with_reducible first | exact HB.out | apply below_alloc | apply pw_below_drewN | apply below_drew1) | exact HB.out))) : w.heap.size ≤ gb219)); have n3_ := Aside0.mk ((by rw [hg]; exact (below_size (by repeat (first | (with_reducible first | exact HB.out | apply below_alloc | apply pw_below_drewN | apply below_drew1) | exact HB.out))) : w.heap.size ≤ gb219)); clear HB; have HB := n0_; have BK219 := n1_; have GW219 := n2_; have GE219 := n3_; clear n0_ n1_ n2_ n3_; clear hb hbox hg) | ((with_reducible refine gate_dst (N := 4) rfl ?_); refine box_event ?hg (N := 4) ?hd (cs := #[.string a1_0, .slice A1_1 l1_1.length c1_1, .int .i64 a1_2, .int .i64 a1_3, .int .i64 a1_4, .int .i64 a1_5, .int .i64 a1_6, .int .i64 a1_7, .int .i64 a1_8]) (t := 27) ?hr ?_; (case hd => rfl); (case hg => rfl); (case hr => first | (go_simp; done) | (go_simp; rfl)); intro gb220 hg w24 hbox hb; have n0_ := Aside0.mk (blk_below (g := gb219) (o := .cells #[.slice A0_0 l0_0.length c0_0, .int .i64 a0_1, .int .i64 a0_2] 24 (0, 0)) (by (with_reducible repeat (first | refine blk_drewN ?_ _ | refine blk_drew ?_ | refine blk_alloc ?_ _)); exact BK219.out) hb); have n1_ := Aside0.mk (below_step (by repeat (first | (with_reducible first | exact HB.out | apply below_alloc | apply pw_below_drewN | apply below_drew1 | refine below_set ?_ GE219.out) | exact HB.out)) hb); have n2_ := Aside0.mk (hbox); have n3_ := Aside0.mk ((by rw [hg]; exact (below_size (by repeat (first | (with_reducible first | exact HB.out | apply below_alloc | apply pw_below_drewN | apply below_drew1 | refine below_set ?_ GE219.out) | exact HB.out))) : w.heap.size ≤ gb220)); have n4_ := Aside0.mk ((by rw [hg]; exact (below_size (by repeat (first | (with_reducible first | exact HB.out | apply below_alloc | apply pw_below_drewN | apply below_drew1 | refine below_set ?_ GE219.out) | exact HB.out))) : w.heap.size ≤ gb220)); have n5_ := Aside0.mk ((by rw [hg]; exact Nat.ne_of_lt (blk_lt (g := gb219) (o := .cells #[.slice A0_0 l0_0.length c0_0, .int .i64 a0_1, .int .i64 a0_2] 24 (0, 0)) (by (with_reducible repeat (first | refine blk_drewN ?_ _ | refine blk_drew ?_ | refine blk_alloc ?_ _)); exact BK219.out)) : gb219 ≠ gb220)); have n6_ := Aside0.mk ((by rw [hg]; exact Nat.ne_of_gt (blk_lt (g := gb219) (o := .cells #[.slice A0_0 l0_0.length c0_0, .int .i64 a0_1, .int .i64 a0_2] 24 (0, 0)) (by (with_reducible repeat (first | refine blk_drewN ?_ _ | refine blk_drew ?_ | refine blk_alloc ?_ _)); exact BK219.out)) : gb220 ≠ gb219)); clear BK219; clear HB; have BK219 := n0_; have HB := n1_; have BK220 := n2_; have GW220 := n3_; have GE220 := n4_; have NB219_220 := n5_; have NB220_219 := n6_; clear n0_ n1_ n2_ n3_ n4_ n5_ n6_; clear hb hbox hg))
        have n0_ := Aside0.mk (blk_drew BK219.out)
        have n1_ := Aside0.mk (blk_drew BK220.out)
        have n2_ := Aside0.mk (below_drew1 HB.out)
        clear BK219
        clear BK220
        clear HB
        have BK219 := n0_
        have BK220 := n1_
        have HB := n2_
        clear n0_ n1_ n2_
        refine start_ (n := 23) (S := fun w' => w'.cell? ⟨gb219, 0, none⟩ = some (.slice A0_0 l0_0.length c0_0) ∧ w'.cell? ⟨gb219, 1, none⟩ = some (.int .i64 a0_1) ∧ w'.cell? ⟨gb219, 2, none⟩ = some (.int .i64 a0_2) ∧ w'.cell? ⟨gb220, 0, none⟩ = some (.string a1_0) ∧ w'.cell? ⟨gb220, 1, none⟩ = some (.slice A1_1 l1_1.length c1_1) ∧ w'.cell? ⟨gb220, 2, none⟩ = some (.int .i64 a1_2) ∧ w'.cell? ⟨gb220, 3, none⟩ = some (.int .i64 a1_3) ∧ w'.cell? ⟨gb220, 4, none⟩ = some (.int .i64 a1_4) ∧ w'.cell? ⟨gb220, 5, none⟩ = some (.int .i64 a1_5) ∧ w'.cell? ⟨gb220, 6, none⟩ = some (.int .i64 a1_6) ∧ w'.cell? ⟨gb220, 7, none⟩ = some (.int .i64 a1_7) ∧ w'.cell? ⟨gb220, 8, none⟩ = some (.int .i64 a1_8)) (ds := []) #[false, false, false, false, false, false, false, false, false, false, false, false, false, false, false, false, false, false, false, false, false, false, false] (by kernel_rfl) rfl rfl ⟨(blk_cell BK219.out 0).trans rfl, (blk_cell BK219.out 1).trans rfl, (blk_cell BK219.out 2).trans rfl, (blk_cell BK220.out 0).trans rfl, (blk_cell BK220.out 1).trans rfl, (blk_cell BK220.out 2).trans rfl, (blk_cell BK220.out 3).trans rfl, (blk_cell BK220.out 4).trans rfl, (blk_cell BK220.out 5).trans rfl, (blk_cell BK220.out 6).trans rfl, (blk_cell BK220.out 7).trans rfl, (blk_cell BK220.out 8).trans rfl⟩ (fun hHeld => ?_); refine with_tabW tollhouselaw15_AuthConfigs.tab1 tollhouselaw15_AuthConfigs.bits1 (fun HT_ HW_ => ?_)
        generalize w24.drew = w25 at BK219 BK220 HB hHeld ⊢
        refine take_ (i := 0) (N := some 7) (v := ?_) (a' := ?_) #[true, false, false, false, false, false, false, false, false, false, false, false, false, false, false, false, false, false, false, false, false, false, false] rfl rfl (take_ofW HT_.out HW_.out (by kernel_rfl)) (fun _ _ _ h => h) (Or.inl ⟨by rfl, ?_⟩) hHeld ?_ ?_
        rotate_left
        · rintro w' ⟨s0, s1, s2, s3, s4, s5, s6, s7, s8, s9, s10, s11⟩
          go_simp
          with_reducible rfl
        rotate_left
        · simp only [Act.put, List.setIfInBounds_toArray, List.set_cons_zero, List.set_cons_succ, i64_w, i32_w]
          rfl
        refine take_ (i := 2) (N := some 9) (v := ?_) (a' := ?_) #[true, false, true, false, false, false, false, false, false, false, false, false, false, false, false, false, false, false, false, false, false, false, false] rfl rfl (take_ofW HT_.out HW_.out (by kernel_rfl)) (fun _ _ _ h => h) (Or.inl ⟨by rfl, ?_⟩) hHeld ?_ ?_
        rotate_left
        · rintro w' ⟨s0, s1, s2, s3, s4, s5, s6, s7, s8, s9, s10, s11⟩
          go_simp
          with_reducible rfl
        rotate_left
        · simp only [Act.put, List.setIfInBounds_toArray, List.set_cons_zero, List.set_cons_succ, i64_w, i32_w]
          rfl
        refine one_ (i := 1) (N := some 8) #[true, true, true, false, false, false, false, false, false, false, false, false, false, false, false, false, false, false, false, false, false, false, false] rfl rfl (one_of HT_.out (by kernel_rfl)) (by decide) (fun K hK => ?_)
        refine goes_ Tryz.func9 (by kernel_rfl) rfl #[.agg #[.slice A0_0 l0_0.length c0_0, .int .i64 a0_1, .int .i64 a0_2]] (by rfl) rfl rfl (by (try simp only [List.map_toArray, List.map_cons, List.map_nil]); first | done | rfl | (simp only [List.length_drop, List.length_take]; rfl)) ?_
        with_reducible refine (auth_Config.calls _ _ l0_0 a0_1 a0_2 t221 _ ?side1 ?side2 (Glob.below HGl.out (by repeat (first | (with_reducible first | exact HB.out | apply below_alloc | apply pw_below_drewN | apply below_drew1 | refine below_set ?_ GE219.out | refine below_set ?_ GE220.out) | exact HB.out))) A4.out).mono ?_
        (case side1 => repeat (first | exact (Kd.C_below HR0_0.out HB.out) | (with_reducible refine Kd.C_alloc ?_ _) | (with_reducible refine Kd.C_drewN ?_ _) | (with_reducible refine Kd.C_drew ?_)))
        (case side2 => exact HC0_0.out)
        rintro e w26 ⟨rfl, hb⟩
        refine ⟨_, rfl, ?_⟩
        have n0_ := Aside0.mk (blk_below (g := gb219) (o := .cells #[.slice A0_0 l0_0.length c0_0, .int .i64 a0_1, .int .i64 a0_2] 24 (0, 0)) (by (with_reducible repeat (first | refine blk_drewN ?_ _ | refine blk_drew ?_ | refine blk_alloc ?_ _)); exact BK219.out) hb)
        have n1_ := Aside0.mk (blk_below (g := gb220) (o := .cells #[.string a1_0, .slice A1_1 l1_1.length c1_1, .int .i64 a1_2, .int .i64 a1_3, .int .i64 a1_4, .int .i64 a1_5, .int .i64 a1_6, .int .i64 a1_7, .int .i64 a1_8] 27 (0, 0)) (by (with_reducible repeat (first | refine blk_drewN ?_ _ | refine blk_drew ?_ | refine blk_alloc ?_ _)); exact BK220.out) hb)
        have n2_ := Aside0.mk (below_step (by repeat (first | (with_reducible first | exact HB.out | apply below_alloc | apply pw_below_drewN | apply below_drew1 | refine below_set ?_ GE219.out | refine below_set ?_ GE220.out) | exact HB.out)) hb)
        clear BK219
        clear BK220
        clear HB
        have BK219 := n0_
        have BK220 := n1_
        have HB := n2_
        clear n0_ n1_ n2_
        (try clear hb)
        (try clear hb2)
        (try clear hk)
        (try clear hi)
        refine hK.out _ _ ⟨(blk_cell BK219.out 0).trans rfl, (blk_cell BK219.out 1).trans rfl, (blk_cell BK219.out 2).trans rfl, (blk_cell BK220.out 0).trans rfl, (blk_cell BK220.out 1).trans rfl, (blk_cell BK220.out 2).trans rfl, (blk_cell BK220.out 3).trans rfl, (blk_cell BK220.out 4).trans rfl, (blk_cell BK220.out 5).trans rfl, (blk_cell BK220.out 6).trans rfl, (blk_cell BK220.out 7).trans rfl, (blk_cell BK220.out 8).trans rfl⟩ (fun hHeld => ?_)
        clear hK K
        refine norm_ (a' := ?_) ?_ ?_
        rotate_left
        · show Act.put _ (some 8) _ = _
          simp only [Act.put, List.setIfInBounds_toArray, List.set_cons_zero, List.set_cons_succ, i64_w, i32_w]
          rfl
        refine one_ (i := 3) (N := some 10) #[true, true, true, true, false, false, false, false, false, false, false, false, false, false, false, false, false, false, false, false, false, false, false] rfl rfl (one_of HT_.out (by kernel_rfl)) (by decide) (fun K hK => ?_)
        refine goes_ Tryz.func10 (by kernel_rfl) rfl #[.agg #[.slice A0_0 l0_0.length c0_0, .int .i64 a0_1, .int .i64 a0_2]] (by rfl) rfl rfl (by (try simp only [List.map_toArray, List.map_cons, List.map_nil]); first | done | rfl | (simp only [List.length_drop, List.length_take]; rfl)) ?_
        with_reducible refine (tollhouseref15_Config.calls k _ _ l0_0 a0_1 a0_2 t222 _ ?side1 ?side2 (Glob.below HGl.out (by repeat (first | (with_reducible first | exact HB.out | apply below_alloc | apply pw_below_drewN | apply below_drew1 | refine below_set ?_ GE219.out | refine below_set ?_ GE220.out) | exact HB.out))) A5.out).mono ?_
        (case side1 => repeat (first | exact (Kd.C_below HR0_0.out HB.out) | (with_reducible refine Kd.C_alloc ?_ _) | (with_reducible refine Kd.C_drewN ?_ _) | (with_reducible refine Kd.C_drew ?_)))
        (case side2 => exact HC0_0.out)
        rintro e w27 ⟨rfl, hb⟩
        refine ⟨_, rfl, ?_⟩
        have n0_ := Aside0.mk (blk_below (g := gb219) (o := .cells #[.slice A0_0 l0_0.length c0_0, .int .i64 a0_1, .int .i64 a0_2] 24 (0, 0)) (by (with_reducible repeat (first | refine blk_drewN ?_ _ | refine blk_drew ?_ | refine blk_alloc ?_ _)); exact BK219.out) hb)
        have n1_ := Aside0.mk (blk_below (g := gb220) (o := .cells #[.string a1_0, .slice A1_1 l1_1.length c1_1, .int .i64 a1_2, .int .i64 a1_3, .int .i64 a1_4, .int .i64 a1_5, .int .i64 a1_6, .int .i64 a1_7, .int .i64 a1_8] 27 (0, 0)) (by (with_reducible repeat (first | refine blk_drewN ?_ _ | refine blk_drew ?_ | refine blk_alloc ?_ _)); exact BK220.out) hb)
        have n2_ := Aside0.mk (below_step (by repeat (first | (with_reducible first | exact HB.out | apply below_alloc | apply pw_below_drewN | apply below_drew1 | refine below_set ?_ GE219.out | refine below_set ?_ GE220.out) | exact HB.out)) hb)
        clear BK219
        clear BK220
        clear HB
        have BK219 := n0_
        have BK220 := n1_
        have HB := n2_
        clear n0_ n1_ n2_
        (try clear hb)
        (try clear hb2)
        (try clear hk)
        (try clear hi)
        refine hK.out _ _ ⟨(blk_cell BK219.out 0).trans rfl, (blk_cell BK219.out 1).trans rfl, (blk_cell BK219.out 2).trans rfl, (blk_cell BK220.out 0).trans rfl, (blk_cell BK220.out 1).trans rfl, (blk_cell BK220.out 2).trans rfl, (blk_cell BK220.out 3).trans rfl, (blk_cell BK220.out 4).trans rfl, (blk_cell BK220.out 5).trans rfl, (blk_cell BK220.out 6).trans rfl, (blk_cell BK220.out 7).trans rfl, (blk_cell BK220.out 8).trans rfl⟩ (fun hHeld => ?_)
        clear hK K
        refine norm_ (a' := ?_) ?_ ?_
        rotate_left
        · show Act.put _ (some 10) _ = _
          simp only [Act.put, List.setIfInBounds_toArray, List.set_cons_zero, List.set_cons_succ, i64_w, i32_w]
          rfl
        refine pure_ (i := 4) (N := some 11) (v := ?_) (a' := ?_) #[true, true, true, true, true, false, false, false, false, false, false, false, false, false, false, false, false, false, false, false, false, false, false] rfl rfl (any_of HT_.out (by kernel_rfl)) (fun _ _ _ h => h) (Or.inl ⟨by rfl, ?_⟩) ?_ ?_
        rotate_left
        · intro w'
          go_simp
          with_reducible rfl
        rotate_left
        · simp only [Act.put, List.setIfInBounds_toArray, List.set_cons_zero, List.set_cons_succ, i64_w, i32_w]
          rfl
        refine pure_ (i := 5) (N := some 12) (v := ?_) (a' := ?_) #[true, true, true, true, true, true, false, false, false, false, false, false, false, false, false, false, false, false, false, false, false, false, false] rfl rfl (any_of HT_.out (by kernel_rfl)) (fun _ _ _ h => h) (Or.inl ⟨by rfl, ?_⟩) ?_ ?_
        rotate_left
        · intro w'
          go_simp
          with_reducible rfl
        rotate_left
        · simp only [Act.put, List.setIfInBounds_toArray, List.set_cons_zero, List.set_cons_succ, i64_w, i32_w]
          rfl
        refine take_ (i := 6) (N := some 13) (v := ?_) (a' := ?_) #[true, true, true, true, true, true, true, false, false, false, false, false, false, false, false, false, false, false, false, false, false, false, false] rfl rfl (take_ofW HT_.out HW_.out (by kernel_rfl)) (fun _ _ _ h => h) (Or.inl ⟨by rfl, ?_⟩) hHeld ?_ ?_
        rotate_left
        · rintro w' ⟨s0, s1, s2, s3, s4, s5, s6, s7, s8, s9, s10, s11⟩
          go_simp
          with_reducible rfl
        rotate_left
        · simp only [Act.put, List.setIfInBounds_toArray, List.set_cons_zero, List.set_cons_succ, i64_w, i32_w]
          rfl
        refine take_ (i := 8) (N := some 15) (v := ?_) (a' := ?_) #[true, true, true, true, true, true, true, false, true, false, false, false, false, false, false, false, false, false, false, false, false, false, false] rfl rfl (take_ofW HT_.out HW_.out (by kernel_rfl)) (fun _ _ _ h => h) (Or.inl ⟨by rfl, ?_⟩) hHeld ?_ ?_
        rotate_left
        · rintro w' ⟨s0, s1, s2, s3, s4, s5, s6, s7, s8, s9, s10, s11⟩
          go_simp
          with_reducible rfl
        rotate_left
        · simp only [Act.put, List.setIfInBounds_toArray, List.set_cons_zero, List.set_cons_succ, i64_w, i32_w]
          rfl
        refine one_ (i := 7) (N := some 14) #[true, true, true, true, true, true, true, true, true, false, false, false, false, false, false, false, false, false, false, false, false, false, false] rfl rfl (one_of HT_.out (by kernel_rfl)) (by decide) (fun K hK => ?_)
        refine goes_ Tryz.func11 (by kernel_rfl) rfl #[.agg #[.string a1_0, .slice A1_1 l1_1.length c1_1, .int .i64 a1_2, .int .i64 a1_3, .int .i64 a1_4, .int .i64 a1_5, .int .i64 a1_6, .int .i64 a1_7, .int .i64 a1_8]] (by rfl) rfl rfl (by (try simp only [List.map_toArray, List.map_cons, List.map_nil]); first | done | rfl | (simp only [List.length_drop, List.length_take]; rfl)) ?_
        with_reducible refine (auth_Tenant.calls a1_0 _ _ l1_1 a1_2 a1_3 a1_4 a1_5 a1_6 a1_7 a1_8 t223 _ ?side1 ?side2 (Glob.below HGl.out (by repeat (first | (with_reducible first | exact HB.out | apply below_alloc | apply pw_below_drewN | apply below_drew1 | refine below_set ?_ GE219.out | refine below_set ?_ GE220.out) | exact HB.out))) A7.out).mono ?_
        (case side1 => repeat (first | exact (Kd.C_below HR1_1.out HB.out) | (with_reducible refine Kd.C_alloc ?_ _) | (with_reducible refine Kd.C_drewN ?_ _) | (with_reducible refine Kd.C_drew ?_)))
        (case side2 => exact HC1_1.out)
        rintro e w28 ⟨rfl, hb⟩
        refine ⟨_, rfl, ?_⟩
        have n0_ := Aside0.mk (blk_below (g := gb219) (o := .cells #[.slice A0_0 l0_0.length c0_0, .int .i64 a0_1, .int .i64 a0_2] 24 (0, 0)) (by (with_reducible repeat (first | refine blk_drewN ?_ _ | refine blk_drew ?_ | refine blk_alloc ?_ _)); exact BK219.out) hb)
        have n1_ := Aside0.mk (blk_below (g := gb220) (o := .cells #[.string a1_0, .slice A1_1 l1_1.length c1_1, .int .i64 a1_2, .int .i64 a1_3, .int .i64 a1_4, .int .i64 a1_5, .int .i64 a1_6, .int .i64 a1_7, .int .i64 a1_8] 27 (0, 0)) (by (with_reducible repeat (first | refine blk_drewN ?_ _ | refine blk_drew ?_ | refine blk_alloc ?_ _)); exact BK220.out) hb)
        have n2_ := Aside0.mk (below_step (by repeat (first | (with_reducible first | exact HB.out | apply below_alloc | apply pw_below_drewN | apply below_drew1 | refine below_set ?_ GE219.out | refine below_set ?_ GE220.out) | exact HB.out)) hb)
        clear BK219
        clear BK220
        clear HB
        have BK219 := n0_
        have BK220 := n1_
        have HB := n2_
        clear n0_ n1_ n2_
        (try clear hb)
        (try clear hb2)
        (try clear hk)
        (try clear hi)
        refine hK.out _ _ ⟨(blk_cell BK219.out 0).trans rfl, (blk_cell BK219.out 1).trans rfl, (blk_cell BK219.out 2).trans rfl, (blk_cell BK220.out 0).trans rfl, (blk_cell BK220.out 1).trans rfl, (blk_cell BK220.out 2).trans rfl, (blk_cell BK220.out 3).trans rfl, (blk_cell BK220.out 4).trans rfl, (blk_cell BK220.out 5).trans rfl, (blk_cell BK220.out 6).trans rfl, (blk_cell BK220.out 7).trans rfl, (blk_cell BK220.out 8).trans rfl⟩ (fun hHeld => ?_)
        clear hK K
        refine norm_ (a' := ?_) ?_ ?_
        rotate_left
        · show Act.put _ (some 14) _ = _
          simp only [Act.put, List.setIfInBounds_toArray, List.set_cons_zero, List.set_cons_succ, i64_w, i32_w]
          rfl
        refine one_ (i := 9) (N := some 16) #[true, true, true, true, true, true, true, true, true, true, false, false, false, false, false, false, false, false, false, false, false, false, false] rfl rfl (one_of HT_.out (by kernel_rfl)) (by decide) (fun K hK => ?_)
        refine goes_ Tryz.func12 (by kernel_rfl) rfl #[.agg #[.string a1_0, .slice A1_1 l1_1.length c1_1, .int .i64 a1_2, .int .i64 a1_3, .int .i64 a1_4, .int .i64 a1_5, .int .i64 a1_6, .int .i64 a1_7, .int .i64 a1_8]] (by rfl) rfl rfl (by (try simp only [List.map_toArray, List.map_cons, List.map_nil]); first | done | rfl | (simp only [List.length_drop, List.length_take]; rfl)) ?_
        with_reducible refine (tollhouseref15_Tenant.calls k a1_0 _ _ l1_1 a1_2 a1_3 a1_4 a1_5 a1_6 a1_7 a1_8 t224 _ ?side1 ?side2 (Glob.below HGl.out (by repeat (first | (with_reducible first | exact HB.out | apply below_alloc | apply pw_below_drewN | apply below_drew1 | refine below_set ?_ GE219.out | refine below_set ?_ GE220.out) | exact HB.out))) A8.out).mono ?_
        (case side1 => repeat (first | exact (Kd.C_below HR1_1.out HB.out) | (with_reducible refine Kd.C_alloc ?_ _) | (with_reducible refine Kd.C_drewN ?_ _) | (with_reducible refine Kd.C_drew ?_)))
        (case side2 => exact HC1_1.out)
        rintro e w29 ⟨rfl, hb⟩
        refine ⟨_, rfl, ?_⟩
        have n0_ := Aside0.mk (blk_below (g := gb219) (o := .cells #[.slice A0_0 l0_0.length c0_0, .int .i64 a0_1, .int .i64 a0_2] 24 (0, 0)) (by (with_reducible repeat (first | refine blk_drewN ?_ _ | refine blk_drew ?_ | refine blk_alloc ?_ _)); exact BK219.out) hb)
        have n1_ := Aside0.mk (blk_below (g := gb220) (o := .cells #[.string a1_0, .slice A1_1 l1_1.length c1_1, .int .i64 a1_2, .int .i64 a1_3, .int .i64 a1_4, .int .i64 a1_5, .int .i64 a1_6, .int .i64 a1_7, .int .i64 a1_8] 27 (0, 0)) (by (with_reducible repeat (first | refine blk_drewN ?_ _ | refine blk_drew ?_ | refine blk_alloc ?_ _)); exact BK220.out) hb)
        have n2_ := Aside0.mk (below_step (by repeat (first | (with_reducible first | exact HB.out | apply below_alloc | apply pw_below_drewN | apply below_drew1 | refine below_set ?_ GE219.out | refine below_set ?_ GE220.out) | exact HB.out)) hb)
        clear BK219
        clear BK220
        clear HB
        have BK219 := n0_
        have BK220 := n1_
        have HB := n2_
        clear n0_ n1_ n2_
        (try clear hb)
        (try clear hb2)
        (try clear hk)
        (try clear hi)
        refine hK.out _ _ ⟨(blk_cell BK219.out 0).trans rfl, (blk_cell BK219.out 1).trans rfl, (blk_cell BK219.out 2).trans rfl, (blk_cell BK220.out 0).trans rfl, (blk_cell BK220.out 1).trans rfl, (blk_cell BK220.out 2).trans rfl, (blk_cell BK220.out 3).trans rfl, (blk_cell BK220.out 4).trans rfl, (blk_cell BK220.out 5).trans rfl, (blk_cell BK220.out 6).trans rfl, (blk_cell BK220.out 7).trans rfl, (blk_cell BK220.out 8).trans rfl⟩ (fun hHeld => ?_)
        clear hK K
        refine norm_ (a' := ?_) ?_ ?_
        rotate_left
        · show Act.put _ (some 16) _ = _
          simp only [Act.put, List.setIfInBounds_toArray, List.set_cons_zero, List.set_cons_succ, i64_w, i32_w]
          rfl
        refine pure_ (i := 10) (N := some 17) (v := ?_) (a' := ?_) #[true, true, true, true, true, true, true, true, true, true, true, false, false, false, false, false, false, false, false, false, false, false, false] rfl rfl (any_of HT_.out (by kernel_rfl)) (fun _ _ _ h => h) (Or.inl ⟨by rfl, ?_⟩) ?_ ?_
        rotate_left
        · intro w'
          go_simp
          with_reducible rfl
        rotate_left
        · simp only [Act.put, List.setIfInBounds_toArray, List.set_cons_zero, List.set_cons_succ, i64_w, i32_w]
          rfl
        refine pure_ (i := 11) (N := some 18) (v := ?_) (a' := ?_) #[true, true, true, true, true, true, true, true, true, true, true, true, false, false, false, false, false, false, false, false, false, false, false] rfl rfl (any_of HT_.out (by kernel_rfl)) (fun _ _ _ h => h) (Or.inl ⟨by rfl, ?_⟩) ?_ ?_
        rotate_left
        · intro w'
          go_simp
          with_reducible rfl
        rotate_left
        · simp only [Act.put, List.setIfInBounds_toArray, List.set_cons_zero, List.set_cons_succ, i64_w, i32_w]
          rfl
        refine pure_ (i := 12) (N := some 19) (v := ?_) (a' := ?_) #[true, true, true, true, true, true, true, true, true, true, true, true, true, false, false, false, false, false, false, false, false, false, false] rfl rfl (any_of HT_.out (by kernel_rfl)) (fun _ _ _ h => h) (Or.inl ⟨by rfl, ?_⟩) ?_ ?_
        rotate_left
        · intro w'
          go_simp
          with_reducible rfl
        rotate_left
        · simp only [Act.put, List.setIfInBounds_toArray, List.set_cons_zero, List.set_cons_succ, i64_w, i32_w]
          rfl
        refine pure_ (i := 13) (N := some 20) (v := ?_) (a' := ?_) #[true, true, true, true, true, true, true, true, true, true, true, true, true, true, false, false, false, false, false, false, false, false, false] rfl rfl (any_of HT_.out (by kernel_rfl)) (fun _ _ _ h => h) (Or.inl ⟨by rfl, ?_⟩) ?_ ?_
        rotate_left
        · intro w'
          go_simp
          with_reducible rfl
        rotate_left
        · simp only [Act.put, List.setIfInBounds_toArray, List.set_cons_zero, List.set_cons_succ, i64_w, i32_w]
          rfl
        refine pure_ (i := 15) (N := some 22) (v := ?_) (a' := ?_) #[true, true, true, true, true, true, true, true, true, true, true, true, true, true, false, true, false, false, false, false, false, false, false] rfl rfl (any_of HT_.out (by kernel_rfl)) (fun _ _ _ h => h) (Or.inl ⟨by rfl, ?_⟩) ?_ ?_
        rotate_left
        · intro w'
          go_simp
          with_reducible rfl
        rotate_left
        · simp only [Act.put, List.setIfInBounds_toArray, List.set_cons_zero, List.set_cons_succ, i64_w, i32_w]
          rfl
        refine one_ (i := 14) (N := some 21) #[true, true, true, true, true, true, true, true, true, true, true, true, true, true, true, true, false, false, false, false, false, false, false] rfl rfl (one_of HT_.out (by kernel_rfl)) (by decide) (fun K hK => ?_)
        refine goes_ Tryz.func13 (by kernel_rfl) rfl #[.string a2] (by rfl) rfl rfl (by (try simp only [List.map_toArray, List.map_cons, List.map_nil]); first | done | rfl | (simp only [List.length_drop, List.length_take]; rfl)) ?_
        with_reducible refine (auth_May.calls a2 t225 _ (Glob.below HGl.out (by repeat (first | (with_reducible first | exact HB.out | apply below_alloc | apply pw_below_drewN | apply below_drew1 | refine below_set ?_ GE219.out | refine below_set ?_ GE220.out) | exact HB.out))) A10.out).mono ?_
        rintro e w30 ⟨rfl, hb⟩
        refine ⟨_, rfl, ?_⟩
        have n0_ := Aside0.mk (blk_below (g := gb219) (o := .cells #[.slice A0_0 l0_0.length c0_0, .int .i64 a0_1, .int .i64 a0_2] 24 (0, 0)) (by (with_reducible repeat (first | refine blk_drewN ?_ _ | refine blk_drew ?_ | refine blk_alloc ?_ _)); exact BK219.out) hb)
        have n1_ := Aside0.mk (blk_below (g := gb220) (o := .cells #[.string a1_0, .slice A1_1 l1_1.length c1_1, .int .i64 a1_2, .int .i64 a1_3, .int .i64 a1_4, .int .i64 a1_5, .int .i64 a1_6, .int .i64 a1_7, .int .i64 a1_8] 27 (0, 0)) (by (with_reducible repeat (first | refine blk_drewN ?_ _ | refine blk_drew ?_ | refine blk_alloc ?_ _)); exact BK220.out) hb)
        have n2_ := Aside0.mk (below_step (by repeat (first | (with_reducible first | exact HB.out | apply below_alloc | apply pw_below_drewN | apply below_drew1 | refine below_set ?_ GE219.out | refine below_set ?_ GE220.out) | exact HB.out)) hb)
        clear BK219
        clear BK220
        clear HB
        have BK219 := n0_
        have BK220 := n1_
        have HB := n2_
        clear n0_ n1_ n2_
        (try clear hb)
        (try clear hb2)
        (try clear hk)
        (try clear hi)
        refine hK.out _ _ ⟨(blk_cell BK219.out 0).trans rfl, (blk_cell BK219.out 1).trans rfl, (blk_cell BK219.out 2).trans rfl, (blk_cell BK220.out 0).trans rfl, (blk_cell BK220.out 1).trans rfl, (blk_cell BK220.out 2).trans rfl, (blk_cell BK220.out 3).trans rfl, (blk_cell BK220.out 4).trans rfl, (blk_cell BK220.out 5).trans rfl, (blk_cell BK220.out 6).trans rfl, (blk_cell BK220.out 7).trans rfl, (blk_cell BK220.out 8).trans rfl⟩ (fun hHeld => ?_)
        clear hK K
        refine norm_ (a' := ?_) ?_ ?_
        rotate_left
        · show Act.put _ (some 21) _ = _
          simp only [Act.put, List.setIfInBounds_toArray, List.set_cons_zero, List.set_cons_succ, i64_w, i32_w]
          rfl
        refine one_ (i := 16) (N := some 23) #[true, true, true, true, true, true, true, true, true, true, true, true, true, true, true, true, true, false, false, false, false, false, false] rfl rfl (one_of HT_.out (by kernel_rfl)) (by decide) (fun K hK => ?_)
        refine goes_ Tryz.func14 (by kernel_rfl) rfl #[.string a2] (by rfl) rfl rfl (by (try simp only [List.map_toArray, List.map_cons, List.map_nil]); first | done | rfl | (simp only [List.length_drop, List.length_take]; rfl)) ?_
        with_reducible refine (tollhouseref15_May.calls k a2 t226 _ (Glob.below HGl.out (by repeat (first | (with_reducible first | exact HB.out | apply below_alloc | apply pw_below_drewN | apply below_drew1 | refine below_set ?_ GE219.out | refine below_set ?_ GE220.out) | exact HB.out))) A11.out).mono ?_
        rintro e w' ⟨rfl, ⟨nd, rfl⟩⟩
        refine ⟨_, rfl, ?_⟩
        refine hK.out _ _ ⟨(blk_cell BK219.out 0).trans rfl, (blk_cell BK219.out 1).trans rfl, (blk_cell BK219.out 2).trans rfl, (blk_cell BK220.out 0).trans rfl, (blk_cell BK220.out 1).trans rfl, (blk_cell BK220.out 2).trans rfl, (blk_cell BK220.out 3).trans rfl, (blk_cell BK220.out 4).trans rfl, (blk_cell BK220.out 5).trans rfl, (blk_cell BK220.out 6).trans rfl, (blk_cell BK220.out 7).trans rfl, (blk_cell BK220.out 8).trans rfl⟩ (fun hHeld => ?_)
        clear hK K
        refine norm_ (a' := ?_) ?_ ?_
        rotate_left
        · show Act.put _ (some 23) _ = _
          simp only [Act.put, List.setIfInBounds_toArray, List.set_cons_zero, List.set_cons_succ, i64_w, i32_w]
          rfl
        refine pure_ (i := 17) (N := some 24) (v := ?_) (a' := ?_) #[true, true, true, true, true, true, true, true, true, true, true, true, true, true, true, true, true, true, false, false, false, false, false] rfl rfl (any_of HT_.out (by kernel_rfl)) (fun _ _ _ h => h) (Or.inl ⟨by rfl, ?_⟩) ?_ ?_
        rotate_left
        · intro w'
          go_simp
          with_reducible rfl
        rotate_left
        · simp only [Act.put, List.setIfInBounds_toArray, List.set_cons_zero, List.set_cons_succ, i64_w, i32_w]
          rfl
        refine pure_ (i := 18) (N := some 25) (v := ?_) (a' := ?_) #[true, true, true, true, true, true, true, true, true, true, true, true, true, true, true, true, true, true, true, false, false, false, false] rfl rfl (any_of HT_.out (by kernel_rfl)) (fun _ _ _ h => h) (Or.inl ⟨by rfl, ?_⟩) ?_ ?_
        rotate_left
        · intro w'
          go_simp
          with_reducible rfl
        rotate_left
        · simp only [Act.put, List.setIfInBounds_toArray, List.set_cons_zero, List.set_cons_succ, i64_w, i32_w]
          rfl
        refine pure_ (i := 19) (N := some 26) (v := ?_) (a' := ?_) #[true, true, true, true, true, true, true, true, true, true, true, true, true, true, true, true, true, true, true, true, false, false, false] rfl rfl (any_of HT_.out (by kernel_rfl)) (fun _ _ _ h => h) (Or.inl ⟨by rfl, ?_⟩) ?_ ?_
        rotate_left
        · intro w'
          go_simp
          with_reducible rfl
        rotate_left
        · simp only [Act.put, List.setIfInBounds_toArray, List.set_cons_zero, List.set_cons_succ, i64_w, i32_w]
          rfl
        refine pure_ (i := 20) (N := some 27) (v := undef) (a' := ?_) #[true, true, true, true, true, true, true, true, true, true, true, true, true, true, true, true, true, true, true, true, true, false, false] rfl rfl (any_of HT_.out (by kernel_rfl)) (fun _ _ _ h => h) (Or.inr ⟨by rfl, rfl⟩) ?_ ?_
        rotate_left
        · simp only [Act.put, List.setIfInBounds_toArray, List.set_cons_zero, List.set_cons_succ, i64_w, i32_w]
          rfl
        refine pure_ (i := 21) (N := some 28) (v := ?_) (a' := ?_) #[true, true, true, true, true, true, true, true, true, true, true, true, true, true, true, true, true, true, true, true, true, true, false] rfl rfl (any_of HT_.out (by kernel_rfl)) (fun _ _ _ h => h) (Or.inl ⟨by rfl, ?_⟩) ?_ ?_
        rotate_left
        · intro w'
          go_simp
          with_reducible rfl
        rotate_left
        · simp only [Act.put, List.setIfInBounds_toArray, List.set_cons_zero, List.set_cons_succ, i64_w, i32_w]
          rfl
        refine pure_ (i := 22) (N := some 6) (v := ?_) (a' := ?_) #[true, true, true, true, true, true, true, true, true, true, true, true, true, true, true, true, true, true, true, true, true, true, true] rfl rfl (any_of HT_.out (by kernel_rfl)) (fun _ _ _ h => h) (Or.inl ⟨by rfl, ?_⟩) ?_ ?_
        rotate_left
        · intro w'
          go_simp
          with_reducible rfl
        rotate_left
        · simp only [Act.put, List.setIfInBounds_toArray, List.set_cons_zero, List.set_cons_succ, i64_w, i32_w]
          rfl
        refine done_ (done_of HT_.out (by kernel_rfl)) ?_
        try go_wp2
        go_ret
        exact ⟨by first | rfl | (simp [errW_none, errW_some] <;> rfl) | (simp [*, errW_none, errW_some] <;> rfl), by repeat (first | (with_reducible first | exact HB.out | apply below_alloc | apply pw_below_drewN | apply below_drew1 | refine below_set ?_ GE219.out | refine below_set ?_ GE220.out) | exact HB.out)⟩
    · rw [if_neg c9] at H
      have c9b0 : (t223 == t224) = false := by simpa using c9
      (try (have c9b1 : decide (t223 = t224) = false := by simpa using c9))
      (try (have c9b2 : (t223 == t224) = false := by simpa using c9))
      (try (have c9b3 : ¬ (t223 = t224) := by simpa using c9))
      clear c9
      obtain rfl := Option.some.inj H
      go_enter Tryz.func3, Tryz.ntmps3
      try go_wp2_with (first | ((with_reducible refine gate_dst (N := 3) rfl ?_); refine box_event ?hg (N := 3) ?hd (cs := #[.slice A0_0 l0_0.length c0_0, .int .i64 a0_1, .int .i64 a0_2]) (t := 24) ?hr ?_; (case hd => rfl); (case hg => rfl); (case hr => first | (go_simp; done) | (go_simp; rfl)); intro gb219 hg w31 hbox hb; have n0_ := Aside0.mk (below_step (by repeat (first | (with_reducible first | exact HB.out | apply below_alloc | apply pw_below_drewN | apply below_drew1) | exact HB.out)) hb); have n1_ := Aside0.mk (hbox); have n2_ := Aside0.mk ((by rw [hg]; exact (below_size (by repeat (first | (with_reducible first | exact HB.out | apply below_alloc | apply pw_below_drewN | apply below_drew1) | exact HB.out))) : w.heap.size ≤ gb219)); have n3_ := Aside0.mk ((by rw [hg]; exact (below_size (by repeat (first | (with_reducible first | exact HB.out | apply below_alloc | apply pw_below_drewN | apply below_drew1) | exact HB.out))) : w.heap.size ≤ gb219)); clear HB; have HB := n0_; have BK219 := n1_; have GW219 := n2_; have GE219 := n3_; clear n0_ n1_ n2_ n3_; clear hb hbox hg) | ((with_reducible refine gate_dst (N := 4) rfl ?_); refine box_event ?hg (N := 4) ?hd (cs := #[.string a1_0, .slice A1_1 l1_1.length c1_1, .int .i64 a1_2, .int .i64 a1_3, .int .i64 a1_4, .int .i64 a1_5, .int .i64 a1_6, .int .i64 a1_7, .int .i64 a1_8]) (t := 27) ?hr ?_; (case hd => rfl); (case hg => rfl); (case hr => first | (go_simp; done) | (go_simp; rfl)); intro gb220 hg w32 hbox hb; have n0_ := Aside0.mk (blk_below (g := gb219) (o := .cells #[.slice A0_0 l0_0.length c0_0, .int .i64 a0_1, .int .i64 a0_2] 24 (0, 0)) (by (with_reducible repeat (first | refine blk_drewN ?_ _ | refine blk_drew ?_ | refine blk_alloc ?_ _)); exact BK219.out) hb); have n1_ := Aside0.mk (below_step (by repeat (first | (with_reducible first | exact HB.out | apply below_alloc | apply pw_below_drewN | apply below_drew1 | refine below_set ?_ GE219.out) | exact HB.out)) hb); have n2_ := Aside0.mk (hbox); have n3_ := Aside0.mk ((by rw [hg]; exact (below_size (by repeat (first | (with_reducible first | exact HB.out | apply below_alloc | apply pw_below_drewN | apply below_drew1 | refine below_set ?_ GE219.out) | exact HB.out))) : w.heap.size ≤ gb220)); have n4_ := Aside0.mk ((by rw [hg]; exact (below_size (by repeat (first | (with_reducible first | exact HB.out | apply below_alloc | apply pw_below_drewN | apply below_drew1 | refine below_set ?_ GE219.out) | exact HB.out))) : w.heap.size ≤ gb220)); have n5_ := Aside0.mk ((by rw [hg]; exact Nat.ne_of_lt (blk_lt (g := gb219) (o := .cells #[.slice A0_0 l0_0.length c0_0, .int .i64 a0_1, .int .i64 a0_2] 24 (0, 0)) (by (with_reducible repeat (first | refine blk_drewN ?_ _ | refine blk_drew ?_ | refine blk_alloc ?_ _)); exact BK219.out)) : gb219 ≠ gb220)); have n6_ := Aside0.mk ((by rw [hg]; exact Nat.ne_of_gt (blk_lt (g := gb219) (o := .cells #[.slice A0_0 l0_0.length c0_0, .int .i64 a0_1, .int .i64 a0_2] 24 (0, 0)) (by (with_reducible repeat (first | refine blk_drewN ?_ _ | refine blk_drew ?_ | refine blk_alloc ?_ _)); exact BK219.out)) : gb220 ≠ gb219)); clear BK219; clear HB; have BK219 := n0_; have HB := n1_; have BK220 := n2_; have GW220 := n3_; have GE220 := n4_; have NB219_220 := n5_; have NB220_219 := n6_; clear n0_ n1_ n2_ n3_ n4_ n5_ n6_; clear hb hbox hg))
      have n0_ := Aside0.mk (blk_drew BK219.out)
      have n1_ := Aside0.mk (blk_drew BK220.out)
      have n2_ := Aside0.mk (below_drew1 HB.out)
      clear BK219
      clear BK220
      clear HB
      have BK219 := n0_
      have BK220 := n1_
      have HB := n2_
      clear n0_ n1_ n2_
      refine start_ (n := 23) (S := fun w' => w'.cell? ⟨gb219, 0, none⟩ = some (.slice A0_0 l0_0.length c0_0) ∧ w'.cell? ⟨gb219, 1, none⟩ = some (.int .i64 a0_1) ∧ w'.cell? ⟨gb219, 2, none⟩ = some (.int .i64 a0_2) ∧ w'.cell? ⟨gb220, 0, none⟩ = some (.string a1_0) ∧ w'.cell? ⟨gb220, 1, none⟩ = some (.slice A1_1 l1_1.length c1_1) ∧ w'.cell? ⟨gb220, 2, none⟩ = some (.int .i64 a1_2) ∧ w'.cell? ⟨gb220, 3, none⟩ = some (.int .i64 a1_3) ∧ w'.cell? ⟨gb220, 4, none⟩ = some (.int .i64 a1_4) ∧ w'.cell? ⟨gb220, 5, none⟩ = some (.int .i64 a1_5) ∧ w'.cell? ⟨gb220, 6, none⟩ = some (.int .i64 a1_6) ∧ w'.cell? ⟨gb220, 7, none⟩ = some (.int .i64 a1_7) ∧ w'.cell? ⟨gb220, 8, none⟩ = some (.int .i64 a1_8)) (ds := []) #[false, false, false, false, false, false, false, false, false, false, false, false, false, false, false, false, false, false, false, false, false, false, false] (by kernel_rfl) rfl rfl ⟨(blk_cell BK219.out 0).trans rfl, (blk_cell BK219.out 1).trans rfl, (blk_cell BK219.out 2).trans rfl, (blk_cell BK220.out 0).trans rfl, (blk_cell BK220.out 1).trans rfl, (blk_cell BK220.out 2).trans rfl, (blk_cell BK220.out 3).trans rfl, (blk_cell BK220.out 4).trans rfl, (blk_cell BK220.out 5).trans rfl, (blk_cell BK220.out 6).trans rfl, (blk_cell BK220.out 7).trans rfl, (blk_cell BK220.out 8).trans rfl⟩ (fun hHeld => ?_); refine with_tabW tollhouselaw15_AuthConfigs.tab1 tollhouselaw15_AuthConfigs.bits1 (fun HT_ HW_ => ?_)
      generalize w32.drew = w33 at BK219 BK220 HB hHeld ⊢
      refine take_ (i := 0) (N := some 7) (v := ?_) (a' := ?_) #[true, false, false, false, false, false, false, false, false, false, false, false, false, false, false, false, false, false, false, false, false, false, false] rfl rfl (take_ofW HT_.out HW_.out (by kernel_rfl)) (fun _ _ _ h => h) (Or.inl ⟨by rfl, ?_⟩) hHeld ?_ ?_
      rotate_left
      · rintro w' ⟨s0, s1, s2, s3, s4, s5, s6, s7, s8, s9, s10, s11⟩
        go_simp
        with_reducible rfl
      rotate_left
      · simp only [Act.put, List.setIfInBounds_toArray, List.set_cons_zero, List.set_cons_succ, i64_w, i32_w]
        rfl
      refine take_ (i := 2) (N := some 9) (v := ?_) (a' := ?_) #[true, false, true, false, false, false, false, false, false, false, false, false, false, false, false, false, false, false, false, false, false, false, false] rfl rfl (take_ofW HT_.out HW_.out (by kernel_rfl)) (fun _ _ _ h => h) (Or.inl ⟨by rfl, ?_⟩) hHeld ?_ ?_
      rotate_left
      · rintro w' ⟨s0, s1, s2, s3, s4, s5, s6, s7, s8, s9, s10, s11⟩
        go_simp
        with_reducible rfl
      rotate_left
      · simp only [Act.put, List.setIfInBounds_toArray, List.set_cons_zero, List.set_cons_succ, i64_w, i32_w]
        rfl
      refine one_ (i := 1) (N := some 8) #[true, true, true, false, false, false, false, false, false, false, false, false, false, false, false, false, false, false, false, false, false, false, false] rfl rfl (one_of HT_.out (by kernel_rfl)) (by decide) (fun K hK => ?_)
      refine goes_ Tryz.func9 (by kernel_rfl) rfl #[.agg #[.slice A0_0 l0_0.length c0_0, .int .i64 a0_1, .int .i64 a0_2]] (by rfl) rfl rfl (by (try simp only [List.map_toArray, List.map_cons, List.map_nil]); first | done | rfl | (simp only [List.length_drop, List.length_take]; rfl)) ?_
      with_reducible refine (auth_Config.calls _ _ l0_0 a0_1 a0_2 t221 _ ?side1 ?side2 (Glob.below HGl.out (by repeat (first | (with_reducible first | exact HB.out | apply below_alloc | apply pw_below_drewN | apply below_drew1 | refine below_set ?_ GE219.out | refine below_set ?_ GE220.out) | exact HB.out))) A4.out).mono ?_
      (case side1 => repeat (first | exact (Kd.C_below HR0_0.out HB.out) | (with_reducible refine Kd.C_alloc ?_ _) | (with_reducible refine Kd.C_drewN ?_ _) | (with_reducible refine Kd.C_drew ?_)))
      (case side2 => exact HC0_0.out)
      rintro e w34 ⟨rfl, hb⟩
      refine ⟨_, rfl, ?_⟩
      have n0_ := Aside0.mk (blk_below (g := gb219) (o := .cells #[.slice A0_0 l0_0.length c0_0, .int .i64 a0_1, .int .i64 a0_2] 24 (0, 0)) (by (with_reducible repeat (first | refine blk_drewN ?_ _ | refine blk_drew ?_ | refine blk_alloc ?_ _)); exact BK219.out) hb)
      have n1_ := Aside0.mk (blk_below (g := gb220) (o := .cells #[.string a1_0, .slice A1_1 l1_1.length c1_1, .int .i64 a1_2, .int .i64 a1_3, .int .i64 a1_4, .int .i64 a1_5, .int .i64 a1_6, .int .i64 a1_7, .int .i64 a1_8] 27 (0, 0)) (by (with_reducible repeat (first | refine blk_drewN ?_ _ | refine blk_drew ?_ | refine blk_alloc ?_ _)); exact BK220.out) hb)
      have n2_ := Aside0.mk (below_step (by repeat (first | (with_reducible first | exact HB.out | apply below_alloc | apply pw_below_drewN | apply below_drew1 | refine below_set ?_ GE219.out | refine below_set ?_ GE220.out) | exact HB.out)) hb)
      clear BK219
      clear BK220
      clear HB
      have BK219 := n0_
      have BK220 := n1_
      have HB := n2_
      clear n0_ n1_ n2_
      (try clear hb)
      (try clear hb2)
      (try clear hk)
      (try clear hi)
      refine hK.out _ _ ⟨(blk_cell BK219.out 0).trans rfl, (blk_cell BK219.out 1).trans rfl, (blk_cell BK219.out 2).trans rfl, (blk_cell BK220.out 0).trans rfl, (blk_cell BK220.out 1).trans rfl, (blk_cell BK220.out 2).trans rfl, (blk_cell BK220.out 3).trans rfl, (blk_cell BK220.out 4).trans rfl, (blk_cell BK220.out 5).trans rfl, (blk_cell BK220.out 6).trans rfl, (blk_cell BK220.out 7).trans rfl, (blk_cell BK220.out 8).trans rfl⟩ (fun hHeld => ?_)
      clear hK K
      refine norm_ (a' := ?_) ?_ ?_
      rotate_left
      · show Act.put _ (some 8) _ = _
        simp only [Act.put, List.setIfInBounds_toArray, List.set_cons_zero, List.set_cons_succ, i64_w, i32_w]
        rfl
      refine one_ (i := 3) (N := some 10) #[true, true, true, true, false, false, false, false, false, false, false, false, false, false, false, false, false, false, false, false, false, false, false] rfl rfl (one_of HT_.out (by kernel_rfl)) (by decide) (fun K hK => ?_)
      refine goes_ Tryz.func10 (by kernel_rfl) rfl #[.agg #[.slice A0_0 l0_0.length c0_0, .int .i64 a0_1, .int .i64 a0_2]] (by rfl) rfl rfl (by (try simp only [List.map_toArray, List.map_cons, List.map_nil]); first | done | rfl | (simp only [List.length_drop, List.length_take]; rfl)) ?_
      with_reducible refine (tollhouseref15_Config.calls k _ _ l0_0 a0_1 a0_2 t222 _ ?side1 ?side2 (Glob.below HGl.out (by repeat (first | (with_reducible first | exact HB.out | apply below_alloc | apply pw_below_drewN | apply below_drew1 | refine below_set ?_ GE219.out | refine below_set ?_ GE220.out) | exact HB.out))) A5.out).mono ?_
      (case side1 => repeat (first | exact (Kd.C_below HR0_0.out HB.out) | (with_reducible refine Kd.C_alloc ?_ _) | (with_reducible refine Kd.C_drewN ?_ _) | (with_reducible refine Kd.C_drew ?_)))
      (case side2 => exact HC0_0.out)
      rintro e w35 ⟨rfl, hb⟩
      refine ⟨_, rfl, ?_⟩
      have n0_ := Aside0.mk (blk_below (g := gb219) (o := .cells #[.slice A0_0 l0_0.length c0_0, .int .i64 a0_1, .int .i64 a0_2] 24 (0, 0)) (by (with_reducible repeat (first | refine blk_drewN ?_ _ | refine blk_drew ?_ | refine blk_alloc ?_ _)); exact BK219.out) hb)
      have n1_ := Aside0.mk (blk_below (g := gb220) (o := .cells #[.string a1_0, .slice A1_1 l1_1.length c1_1, .int .i64 a1_2, .int .i64 a1_3, .int .i64 a1_4, .int .i64 a1_5, .int .i64 a1_6, .int .i64 a1_7, .int .i64 a1_8] 27 (0, 0)) (by (with_reducible repeat (first | refine blk_drewN ?_ _ | refine blk_drew ?_ | refine blk_alloc ?_ _)); exact BK220.out) hb)
      have n2_ := Aside0.mk (below_step (by repeat (first | (with_reducible first | exact HB.out | apply below_alloc | apply pw_below_drewN | apply below_drew1 | refine below_set ?_ GE219.out | refine below_set ?_ GE220.out) | exact HB.out)) hb)
      clear BK219
      clear BK220
      clear HB
      have BK219 := n0_
      have BK220 := n1_
      have HB := n2_
      clear n0_ n1_ n2_
      (try clear hb)
      (try clear hb2)
      (try clear hk)
      (try clear hi)
      refine hK.out _ _ ⟨(blk_cell BK219.out 0).trans rfl, (blk_cell BK219.out 1).trans rfl, (blk_cell BK219.out 2).trans rfl, (blk_cell BK220.out 0).trans rfl, (blk_cell BK220.out 1).trans rfl, (blk_cell BK220.out 2).trans rfl, (blk_cell BK220.out 3).trans rfl, (blk_cell BK220.out 4).trans rfl, (blk_cell BK220.out 5).trans rfl, (blk_cell BK220.out 6).trans rfl, (blk_cell BK220.out 7).trans rfl, (blk_cell BK220.out 8).trans rfl⟩ (fun hHeld => ?_)
      clear hK K
      refine norm_ (a' := ?_) ?_ ?_
      rotate_left
      · show Act.put _ (some 10) _ = _
        simp only [Act.put, List.setIfInBounds_toArray, List.set_cons_zero, List.set_cons_succ, i64_w, i32_w]
        rfl
      refine pure_ (i := 4) (N := some 11) (v := ?_) (a' := ?_) #[true, true, true, true, true, false, false, false, false, false, false, false, false, false, false, false, false, false, false, false, false, false, false] rfl rfl (any_of HT_.out (by kernel_rfl)) (fun _ _ _ h => h) (Or.inl ⟨by rfl, ?_⟩) ?_ ?_
      rotate_left
      · intro w'
        go_simp
        with_reducible rfl
      rotate_left
      · simp only [Act.put, List.setIfInBounds_toArray, List.set_cons_zero, List.set_cons_succ, i64_w, i32_w]
        rfl
      refine pure_ (i := 5) (N := some 12) (v := ?_) (a' := ?_) #[true, true, true, true, true, true, false, false, false, false, false, false, false, false, false, false, false, false, false, false, false, false, false] rfl rfl (any_of HT_.out (by kernel_rfl)) (fun _ _ _ h => h) (Or.inl ⟨by rfl, ?_⟩) ?_ ?_
      rotate_left
      · intro w'
        go_simp
        with_reducible rfl
      rotate_left
      · simp only [Act.put, List.setIfInBounds_toArray, List.set_cons_zero, List.set_cons_succ, i64_w, i32_w]
        rfl
      refine take_ (i := 6) (N := some 13) (v := ?_) (a' := ?_) #[true, true, true, true, true, true, true, false, false, false, false, false, false, false, false, false, false, false, false, false, false, false, false] rfl rfl (take_ofW HT_.out HW_.out (by kernel_rfl)) (fun _ _ _ h => h) (Or.inl ⟨by rfl, ?_⟩) hHeld ?_ ?_
      rotate_left
      · rintro w' ⟨s0, s1, s2, s3, s4, s5, s6, s7, s8, s9, s10, s11⟩
        go_simp
        with_reducible rfl
      rotate_left
      · simp only [Act.put, List.setIfInBounds_toArray, List.set_cons_zero, List.set_cons_succ, i64_w, i32_w]
        rfl
      refine take_ (i := 8) (N := some 15) (v := ?_) (a' := ?_) #[true, true, true, true, true, true, true, false, true, false, false, false, false, false, false, false, false, false, false, false, false, false, false] rfl rfl (take_ofW HT_.out HW_.out (by kernel_rfl)) (fun _ _ _ h => h) (Or.inl ⟨by rfl, ?_⟩) hHeld ?_ ?_
      rotate_left
      · rintro w' ⟨s0, s1, s2, s3, s4, s5, s6, s7, s8, s9, s10, s11⟩
        go_simp
        with_reducible rfl
      rotate_left
      · simp only [Act.put, List.setIfInBounds_toArray, List.set_cons_zero, List.set_cons_succ, i64_w, i32_w]
        rfl
      refine one_ (i := 7) (N := some 14) #[true, true, true, true, true, true, true, true, true, false, false, false, false, false, false, false, false, false, false, false, false, false, false] rfl rfl (one_of HT_.out (by kernel_rfl)) (by decide) (fun K hK => ?_)
      refine goes_ Tryz.func11 (by kernel_rfl) rfl #[.agg #[.string a1_0, .slice A1_1 l1_1.length c1_1, .int .i64 a1_2, .int .i64 a1_3, .int .i64 a1_4, .int .i64 a1_5, .int .i64 a1_6, .int .i64 a1_7, .int .i64 a1_8]] (by rfl) rfl rfl (by (try simp only [List.map_toArray, List.map_cons, List.map_nil]); first | done | rfl | (simp only [List.length_drop, List.length_take]; rfl)) ?_
      with_reducible refine (auth_Tenant.calls a1_0 _ _ l1_1 a1_2 a1_3 a1_4 a1_5 a1_6 a1_7 a1_8 t223 _ ?side1 ?side2 (Glob.below HGl.out (by repeat (first | (with_reducible first | exact HB.out | apply below_alloc | apply pw_below_drewN | apply below_drew1 | refine below_set ?_ GE219.out | refine below_set ?_ GE220.out) | exact HB.out))) A7.out).mono ?_
      (case side1 => repeat (first | exact (Kd.C_below HR1_1.out HB.out) | (with_reducible refine Kd.C_alloc ?_ _) | (with_reducible refine Kd.C_drewN ?_ _) | (with_reducible refine Kd.C_drew ?_)))
      (case side2 => exact HC1_1.out)
      rintro e w36 ⟨rfl, hb⟩
      refine ⟨_, rfl, ?_⟩
      have n0_ := Aside0.mk (blk_below (g := gb219) (o := .cells #[.slice A0_0 l0_0.length c0_0, .int .i64 a0_1, .int .i64 a0_2] 24 (0, 0)) (by (with_reducible repeat (first | refine blk_drewN ?_ _ | refine blk_drew ?_ | refine blk_alloc ?_ _)); exact BK219.out) hb)
      have n1_ := Aside0.mk (blk_below (g := gb220) (o := .cells #[.string a1_0, .slice A1_1 l1_1.length c1_1, .int .i64 a1_2, .int .i64 a1_3, .int .i64 a1_4, .int .i64 a1_5, .int .i64 a1_6, .int .i64 a1_7, .int .i64 a1_8] 27 (0, 0)) (by (with_reducible repeat (first | refine blk_drewN ?_ _ | refine blk_drew ?_ | refine blk_alloc ?_ _)); exact BK220.out) hb)
      have n2_ := Aside0.mk (below_step (by repeat (first | (with_reducible first | exact HB.out | apply below_alloc | apply pw_below_drewN | apply below_drew1 | refine below_set ?_ GE219.out | refine below_set ?_ GE220.out) | exact HB.out)) hb)
      clear BK219
      clear BK220
      clear HB
      have BK219 := n0_
      have BK220 := n1_
      have HB := n2_
      clear n0_ n1_ n2_
      (try clear hb)
      (try clear hb2)
      (try clear hk)
      (try clear hi)
      refine hK.out _ _ ⟨(blk_cell BK219.out 0).trans rfl, (blk_cell BK219.out 1).trans rfl, (blk_cell BK219.out 2).trans rfl, (blk_cell BK220.out 0).trans rfl, (blk_cell BK220.out 1).trans rfl, (blk_cell BK220.out 2).trans rfl, (blk_cell BK220.out 3).trans rfl, (blk_cell BK220.out 4).trans rfl, (blk_cell BK220.out 5).trans rfl, (blk_cell BK220.out 6).trans rfl, (blk_cell BK220.out 7).trans rfl, (blk_cell BK220.out 8).trans rfl⟩ (fun hHeld => ?_)
      clear hK K
      refine norm_ (a' := ?_) ?_ ?_
      rotate_left
      · show Act.put _ (some 14) _ = _
        simp only [Act.put, List.setIfInBounds_toArray, List.set_cons_zero, List.set_cons_succ, i64_w, i32_w]
        rfl
      refine one_ (i := 9) (N := some 16) #[true, true, true, true, true, true, true, true, true, true, false, false, false, false, false, false, false, false, false, false, false, false, false] rfl rfl (one_of HT_.out (by kernel_rfl)) (by decide) (fun K hK => ?_)
      refine goes_ Tryz.func12 (by kernel_rfl) rfl #[.agg #[.string a1_0, .slice A1_1 l1_1.length c1_1, .int .i64 a1_2, .int .i64 a1_3, .int .i64 a1_4, .int .i64 a1_5, .int .i64 a1_6, .int .i64 a1_7, .int .i64 a1_8]] (by rfl) rfl rfl (by (try simp only [List.map_toArray, List.map_cons, List.map_nil]); first | done | rfl | (simp only [List.length_drop, List.length_take]; rfl)) ?_
      with_reducible refine (tollhouseref15_Tenant.calls k a1_0 _ _ l1_1 a1_2 a1_3 a1_4 a1_5 a1_6 a1_7 a1_8 t224 _ ?side1 ?side2 (Glob.below HGl.out (by repeat (first | (with_reducible first | exact HB.out | apply below_alloc | apply pw_below_drewN | apply below_drew1 | refine below_set ?_ GE219.out | refine below_set ?_ GE220.out) | exact HB.out))) A8.out).mono ?_
      (case side1 => repeat (first | exact (Kd.C_below HR1_1.out HB.out) | (with_reducible refine Kd.C_alloc ?_ _) | (with_reducible refine Kd.C_drewN ?_ _) | (with_reducible refine Kd.C_drew ?_)))
      (case side2 => exact HC1_1.out)
      rintro e w37 ⟨rfl, hb⟩
      refine ⟨_, rfl, ?_⟩
      have n0_ := Aside0.mk (blk_below (g := gb219) (o := .cells #[.slice A0_0 l0_0.length c0_0, .int .i64 a0_1, .int .i64 a0_2] 24 (0, 0)) (by (with_reducible repeat (first | refine blk_drewN ?_ _ | refine blk_drew ?_ | refine blk_alloc ?_ _)); exact BK219.out) hb)
      have n1_ := Aside0.mk (blk_below (g := gb220) (o := .cells #[.string a1_0, .slice A1_1 l1_1.length c1_1, .int .i64 a1_2, .int .i64 a1_3, .int .i64 a1_4, .int .i64 a1_5, .int .i64 a1_6, .int .i64 a1_7, .int .i64 a1_8] 27 (0, 0)) (by (with_reducible repeat (first | refine blk_drewN ?_ _ | refine blk_drew ?_ | refine blk_alloc ?_ _)); exact BK220.out) hb)
      have n2_ := Aside0.mk (below_step (by repeat (first | (with_reducible first | exact HB.out | apply below_alloc | apply pw_below_drewN | apply below_drew1 | refine below_set ?_ GE219.out | refine below_set ?_ GE220.out) | exact HB.out)) hb)
      clear BK219
      clear BK220
      clear HB
      have BK219 := n0_
      have BK220 := n1_
      have HB := n2_
      clear n0_ n1_ n2_
      (try clear hb)
      (try clear hb2)
      (try clear hk)
      (try clear hi)
      refine hK.out _ _ ⟨(blk_cell BK219.out 0).trans rfl, (blk_cell BK219.out 1).trans rfl, (blk_cell BK219.out 2).trans rfl, (blk_cell BK220.out 0).trans rfl, (blk_cell BK220.out 1).trans rfl, (blk_cell BK220.out 2).trans rfl, (blk_cell BK220.out 3).trans rfl, (blk_cell BK220.out 4).trans rfl, (blk_cell BK220.out 5).trans rfl, (blk_cell BK220.out 6).trans rfl, (blk_cell BK220.out 7).trans rfl, (blk_cell BK220.out 8).trans rfl⟩ (fun hHeld => ?_)
      clear hK K
      refine norm_ (a' := ?_) ?_ ?_
      rotate_left
      · show Act.put _ (some 16) _ = _
        simp only [Act.put, List.setIfInBounds_toArray, List.set_cons_zero, List.set_cons_succ, i64_w, i32_w]
        rfl
      refine pure_ (i := 10) (N := some 17) (v := ?_) (a' := ?_) #[true, true, true, true, true, true, true, true, true, true, true, false, false, false, false, false, false, false, false, false, false, false, false] rfl rfl (any_of HT_.out (by kernel_rfl)) (fun _ _ _ h => h) (Or.inl ⟨by rfl, ?_⟩) ?_ ?_
      rotate_left
      · intro w'
        go_simp
        with_reducible rfl
      rotate_left
      · simp only [Act.put, List.setIfInBounds_toArray, List.set_cons_zero, List.set_cons_succ, i64_w, i32_w]
        rfl
      refine pure_ (i := 11) (N := some 18) (v := ?_) (a' := ?_) #[true, true, true, true, true, true, true, true, true, true, true, true, false, false, false, false, false, false, false, false, false, false, false] rfl rfl (any_of HT_.out (by kernel_rfl)) (fun _ _ _ h => h) (Or.inl ⟨by rfl, ?_⟩) ?_ ?_
      rotate_left
      · intro w'
        go_simp
        with_reducible rfl
      rotate_left
      · simp only [Act.put, List.setIfInBounds_toArray, List.set_cons_zero, List.set_cons_succ, i64_w, i32_w]
        rfl
      refine pure_ (i := 12) (N := some 19) (v := ?_) (a' := ?_) #[true, true, true, true, true, true, true, true, true, true, true, true, true, false, false, false, false, false, false, false, false, false, false] rfl rfl (any_of HT_.out (by kernel_rfl)) (fun _ _ _ h => h) (Or.inl ⟨by rfl, ?_⟩) ?_ ?_
      rotate_left
      · intro w'
        go_simp
        with_reducible rfl
      rotate_left
      · simp only [Act.put, List.setIfInBounds_toArray, List.set_cons_zero, List.set_cons_succ, i64_w, i32_w]
        rfl
      refine pure_ (i := 13) (N := some 20) (v := undef) (a' := ?_) #[true, true, true, true, true, true, true, true, true, true, true, true, true, true, false, false, false, false, false, false, false, false, false] rfl rfl (any_of HT_.out (by kernel_rfl)) (fun _ _ _ h => h) (Or.inr ⟨by rfl, rfl⟩) ?_ ?_
      rotate_left
      · simp only [Act.put, List.setIfInBounds_toArray, List.set_cons_zero, List.set_cons_succ, i64_w, i32_w]
        rfl
      refine pure_ (i := 14) (N := some 21) (v := undef) (a' := ?_) #[true, true, true, true, true, true, true, true, true, true, true, true, true, true, true, false, false, false, false, false, false, false, false] rfl rfl (any_of HT_.out (by kernel_rfl)) (fun _ _ _ h => h) (Or.inr ⟨by rfl, rfl⟩) ?_ ?_
      rotate_left
      · simp only [Act.put, List.setIfInBounds_toArray, List.set_cons_zero, List.set_cons_succ, i64_w, i32_w]
        rfl
      refine pure_ (i := 15) (N := some 22) (v := undef) (a' := ?_) #[true, true, true, true, true, true, true, true, true, true, true, true, true, true, true, true, false, false, false, false, false, false, false] rfl rfl (any_of HT_.out (by kernel_rfl)) (fun _ _ _ h => h) (Or.inr ⟨by rfl, rfl⟩) ?_ ?_
      rotate_left
      · simp only [Act.put, List.setIfInBounds_toArray, List.set_cons_zero, List.set_cons_succ, i64_w, i32_w]
        rfl
      refine pure_ (i := 16) (N := some 23) (v := undef) (a' := ?_) #[true, true, true, true, true, true, true, true, true, true, true, true, true, true, true, true, true, false, false, false, false, false, false] rfl rfl (any_of HT_.out (by kernel_rfl)) (fun _ _ _ h => h) (Or.inr ⟨by rfl, rfl⟩) ?_ ?_
      rotate_left
      · simp only [Act.put, List.setIfInBounds_toArray, List.set_cons_zero, List.set_cons_succ, i64_w, i32_w]
        rfl
      refine pure_ (i := 17) (N := some 24) (v := undef) (a' := ?_) #[true, true, true, true, true, true, true, true, true, true, true, true, true, true, true, true, true, true, false, false, false, false, false] rfl rfl (any_of HT_.out (by kernel_rfl)) (fun _ _ _ h => h) (Or.inr ⟨by rfl, rfl⟩) ?_ ?_
      rotate_left
      · simp only [Act.put, List.setIfInBounds_toArray, List.set_cons_zero, List.set_cons_succ, i64_w, i32_w]
        rfl
      refine pure_ (i := 18) (N := some 25) (v := ?_) (a' := ?_) #[true, true, true, true, true, true, true, true, true, true, true, true, true, true, true, true, true, true, true, false, false, false, false] rfl rfl (any_of HT_.out (by kernel_rfl)) (fun _ _ _ h => h) (Or.inl ⟨by rfl, ?_⟩) ?_ ?_
      rotate_left
      · intro w'
        go_simp
        with_reducible rfl
      rotate_left
      · simp only [Act.put, List.setIfInBounds_toArray, List.set_cons_zero, List.set_cons_succ, i64_w, i32_w]
        rfl
      refine pure_ (i := 19) (N := some 26) (v := ?_) (a' := ?_) #[true, true, true, true, true, true, true, true, true, true, true, true, true, true, true, true, true, true, true, true, false, false, false] rfl rfl (any_of HT_.out (by kernel_rfl)) (fun _ _ _ h => h) (Or.inl ⟨by rfl, ?_⟩) ?_ ?_
      rotate_left
      · intro w'
        go_simp
        with_reducible rfl
      rotate_left
      · simp only [Act.put, List.setIfInBounds_toArray, List.set_cons_zero, List.set_cons_succ, i64_w, i32_w]
        rfl
      refine pure_ (i := 20) (N := some 27) (v := undef) (a' := ?_) #[true, true, true, true, true, true, true, true, true, true, true, true, true, true, true, true, true, true, true, true, true, false, false] rfl rfl (any_of HT_.out (by kernel_rfl)) (fun _ _ _ h => h) (Or.inr ⟨by rfl, rfl⟩) ?_ ?_
      rotate_left
      · simp only [Act.put, List.setIfInBounds_toArray, List.set_cons_zero, List.set_cons_succ, i64_w, i32_w]
        rfl
      refine pure_ (i := 21) (N := some 28) (v := ?_) (a' := ?_) #[true, true, true, true, true, true, true, true, true, true, true, true, true, true, true, true, true, true, true, true, true, true, false] rfl rfl (any_of HT_.out (by kernel_rfl)) (fun _ _ _ h => h) (Or.inl ⟨by rfl, ?_⟩) ?_ ?_
      rotate_left
      · intro w'
        go_simp
        with_reducible rfl
      rotate_left
      · simp only [Act.put, List.setIfInBounds_toArray, List.set_cons_zero, List.set_cons_succ, i64_w, i32_w]
        rfl
      refine pure_ (i := 22) (N := some 6) (v := ?_) (a' := ?_) #[true, true, true, true, true, true, true, true, true, true, true, true, true, true, true, true, true, true, true, true, true, true, true] rfl rfl (any_of HT_.out (by kernel_rfl)) (fun _ _ _ h => h) (Or.inl ⟨by rfl, ?_⟩) ?_ ?_
      rotate_left
      · intro w'
        go_simp
        with_reducible rfl
      rotate_left
      · simp only [Act.put, List.setIfInBounds_toArray, List.set_cons_zero, List.set_cons_succ, i64_w, i32_w]
        rfl
      refine done_ (done_of HT_.out (by kernel_rfl)) ?_
      try go_wp2
      go_ret
      exact ⟨by first | rfl | (simp [errW_none, errW_some] <;> rfl) | (simp [*, errW_none, errW_some] <;> rfl), by repeat (first | (with_reducible first | exact HB.out | apply below_alloc | apply pw_below_drewN | apply below_drew1 | refine below_set ?_ GE219.out | refine below_set ?_ GE220.out) | exact HB.out)⟩
  · rw [if_neg c6] at H
    have c6b0 : (t221 == t222) = false := by simpa using c6
    (try (have c6b1 : decide (t221 = t222) = false := by simpa using c6))
    (try (have c6b2 : (t221 == t222) = false := by simpa using c6))
    (try (have c6b3 : ¬ (t221 = t222) := by simpa using c6))
    clear c6
    obtain rfl := Option.some.inj H
    go_enter Tryz.func3, Tryz.ntmps3
    try go_wp2_with (first | ((with_reducible refine gate_dst (N := 3) rfl ?_); refine box_event ?hg (N := 3) ?hd (cs := #[.slice A0_0 l0_0.length c0_0, .int .i64 a0_1, .int .i64 a0_2]) (t := 24) ?hr ?_; (case hd => rfl); (case hg => rfl); (case hr => first | (go_simp; done) | (go_simp; rfl)); intro gb219 hg w38 hbox hb; have n0_ := Aside0.mk (below_step (by repeat (first | (with_reducible first | exact HB.out | apply below_alloc | apply pw_below_drewN | apply below_drew1) | exact HB.out)) hb); have n1_ := Aside0.mk (hbox); have n2_ := Aside0.mk ((by rw [hg]; exact (below_size (by repeat (first | (with_reducible first | exact HB.out | apply below_alloc | apply pw_below_drewN | apply below_drew1) | exact HB.out))) : w.heap.size ≤ gb219)); have n3_ := Aside0.mk ((by rw [hg]; exact (below_size (by repeat (first | (with_reducible first | exact HB.out | apply below_alloc | apply pw_below_drewN | apply below_drew1) | exact HB.out))) : w.heap.size ≤ gb219)); clear HB; have HB := n0_; have BK219 := n1_; have GW219 := n2_; have GE219 := n3_; clear n0_ n1_ n2_ n3_; clear hb hbox hg) | ((with_reducible refine gate_dst (N := 4) rfl ?_); refine box_event ?hg (N := 4) ?hd (cs := #[.string a1_0, .slice A1_1 l1_1.length c1_1, .int .i64 a1_2, .int .i64 a1_3, .int .i64 a1_4, .int .i64 a1_5, .int .i64 a1_6, .int .i64 a1_7, .int .i64 a1_8]) (t := 27) ?hr ?_; (case hd => rfl); (case hg => rfl); (case hr => first | (go_simp; done) | (go_simp; rfl)); intro gb220 hg w39 hbox hb; have n0_ := Aside0.mk (blk_below (g := gb219) (o := .cells #[.slice A0_0 l0_0.length c0_0, .int .i64 a0_1, .int .i64 a0_2] 24 (0, 0)) (by (with_reducible repeat (first | refine blk_drewN ?_ _ | refine blk_drew ?_ | refine blk_alloc ?_ _)); exact BK219.out) hb); have n1_ := Aside0.mk (below_step (by repeat (first | (with_reducible first | exact HB.out | apply below_alloc | apply pw_below_drewN | apply below_drew1 | refine below_set ?_ GE219.out) | exact HB.out)) hb); have n2_ := Aside0.mk (hbox); have n3_ := Aside0.mk ((by rw [hg]; exact (below_size (by repeat (first | (with_reducible first | exact HB.out | apply below_alloc | apply pw_below_drewN | apply below_drew1 | refine below_set ?_ GE219.out) | exact HB.out))) : w.heap.size ≤ gb220)); have n4_ := Aside0.mk ((by rw [hg]; exact (below_size (by repeat (first | (with_reducible first | exact HB.out | apply below_alloc | apply pw_below_drewN | apply below_drew1 | refine below_set ?_ GE219.out) | exact HB.out))) : w.heap.size ≤ gb220)); have n5_ := Aside0.mk ((by rw [hg]; exact Nat.ne_of_lt (blk_lt (g := gb219) (o := .cells #[.slice A0_0 l0_0.length c0_0, .int .i64 a0_1, .int .i64 a0_2] 24 (0, 0)) (by (with_reducible repeat (first | refine blk_drewN ?_ _ | refine blk_drew ?_ | refine blk_alloc ?_ _)); exact BK219.out)) : gb219 ≠ gb220)); have n6_ := Aside0.mk ((by rw [hg]; exact Nat.ne_of_gt (blk_lt (g := gb219) (o := .cells #[.slice A0_0 l0_0.length c0_0, .int .i64 a0_1, .int .i64 a0_2] 24 (0, 0)) (by (with_reducible repeat (first | refine blk_drewN ?_ _ | refine blk_drew ?_ | refine blk_alloc ?_ _)); exact BK219.out)) : gb220 ≠ gb219)); clear BK219; clear HB; have BK219 := n0_; have HB := n1_; have BK220 := n2_; have GW220 := n3_; have GE220 := n4_; have NB219_220 := n5_; have NB220_219 := n6_; clear n0_ n1_ n2_ n3_ n4_ n5_ n6_; clear hb hbox hg))
    have n0_ := Aside0.mk (blk_drew BK219.out)
    have n1_ := Aside0.mk (blk_drew BK220.out)
    have n2_ := Aside0.mk (below_drew1 HB.out)
    clear BK219
    clear BK220
    clear HB
    have BK219 := n0_
    have BK220 := n1_
    have HB := n2_
    clear n0_ n1_ n2_
    refine start_ (n := 23) (S := fun w' => w'.cell? ⟨gb219, 0, none⟩ = some (.slice A0_0 l0_0.length c0_0) ∧ w'.cell? ⟨gb219, 1, none⟩ = some (.int .i64 a0_1) ∧ w'.cell? ⟨gb219, 2, none⟩ = some (.int .i64 a0_2)) (ds := []) #[false, false, false, false, false, false, false, false, false, false, false, false, false, false, false, false, false, false, false, false, false, false, false] (by kernel_rfl) rfl rfl ⟨(blk_cell BK219.out 0).trans rfl, (blk_cell BK219.out 1).trans rfl, (blk_cell BK219.out 2).trans rfl⟩ (fun hHeld => ?_); refine with_tabW tollhouselaw15_AuthConfigs.tab1 tollhouselaw15_AuthConfigs.bits1 (fun HT_ HW_ => ?_)
    generalize w39.drew = w40 at BK219 BK220 HB hHeld ⊢
    refine take_ (i := 0) (N := some 7) (v := ?_) (a' := ?_) #[true, false, false, false, false, false, false, false, false, false, false, false, false, false, false, false, false, false, false, false, false, false, false] rfl rfl (take_ofW HT_.out HW_.out (by kernel_rfl)) (fun _ _ _ h => h) (Or.inl ⟨by rfl, ?_⟩) hHeld ?_ ?_
    rotate_left
    · rintro w' ⟨s0, s1, s2⟩
      go_simp
      with_reducible rfl
    rotate_left
    · simp only [Act.put, List.setIfInBounds_toArray, List.set_cons_zero, List.set_cons_succ, i64_w, i32_w]
      rfl
    refine take_ (i := 2) (N := some 9) (v := ?_) (a' := ?_) #[true, false, true, false, false, false, false, false, false, false, false, false, false, false, false, false, false, false, false, false, false, false, false] rfl rfl (take_ofW HT_.out HW_.out (by kernel_rfl)) (fun _ _ _ h => h) (Or.inl ⟨by rfl, ?_⟩) hHeld ?_ ?_
    rotate_left
    · rintro w' ⟨s0, s1, s2⟩
      go_simp
      with_reducible rfl
    rotate_left
    · simp only [Act.put, List.setIfInBounds_toArray, List.set_cons_zero, List.set_cons_succ, i64_w, i32_w]
      rfl
    refine one_ (i := 1) (N := some 8) #[true, true, true, false, false, false, false, false, false, false, false, false, false, false, false, false, false, false, false, false, false, false, false] rfl rfl (one_of HT_.out (by kernel_rfl)) (by decide) (fun K hK => ?_)
    refine goes_ Tryz.func9 (by kernel_rfl) rfl #[.agg #[.slice A0_0 l0_0.length c0_0, .int .i64 a0_1, .int .i64 a0_2]] (by rfl) rfl rfl (by (try simp only [List.map_toArray, List.map_cons, List.map_nil]); first | done | rfl | (simp only [List.length_drop, List.length_take]; rfl)) ?_
    with_reducible refine (auth_Config.calls _ _ l0_0 a0_1 a0_2 t221 _ ?side1 ?side2 (Glob.below HGl.out (by repeat (first | (with_reducible first | exact HB.out | apply below_alloc | apply pw_below_drewN | apply below_drew1 | refine below_set ?_ GE219.out | refine below_set ?_ GE220.out) | exact HB.out))) A4.out).mono ?_
    (case side1 => repeat (first | exact (Kd.C_below HR0_0.out HB.out) | (with_reducible refine Kd.C_alloc ?_ _) | (with_reducible refine Kd.C_drewN ?_ _) | (with_reducible refine Kd.C_drew ?_)))
    (case side2 => exact HC0_0.out)
    rintro e w41 ⟨rfl, hb⟩
    refine ⟨_, rfl, ?_⟩
    have n0_ := Aside0.mk (blk_below (g := gb219) (o := .cells #[.slice A0_0 l0_0.length c0_0, .int .i64 a0_1, .int .i64 a0_2] 24 (0, 0)) (by (with_reducible repeat (first | refine blk_drewN ?_ _ | refine blk_drew ?_ | refine blk_alloc ?_ _)); exact BK219.out) hb)
    have n1_ := Aside0.mk (blk_below (g := gb220) (o := .cells #[.string a1_0, .slice A1_1 l1_1.length c1_1, .int .i64 a1_2, .int .i64 a1_3, .int .i64 a1_4, .int .i64 a1_5, .int .i64 a1_6, .int .i64 a1_7, .int .i64 a1_8] 27 (0, 0)) (by (with_reducible repeat (first | refine blk_drewN ?_ _ | refine blk_drew ?_ | refine blk_alloc ?_ _)); exact BK220.out) hb)
    have n2_ := Aside0.mk (below_step (by repeat (first | (with_reducible first | exact HB.out | apply below_alloc | apply pw_below_drewN | apply below_drew1 | refine below_set ?_ GE219.out | refine below_set ?_ GE220.out) | exact HB.out)) hb)
    clear BK219
    clear BK220
    clear HB
    have BK219 := n0_
    have BK220 := n1_
    have HB := n2_
    clear n0_ n1_ n2_
    (try clear hb)
    (try clear hb2)
    (try clear hk)
    (try clear hi)
    refine hK.out _ _ ⟨(blk_cell BK219.out 0).trans rfl, (blk_cell BK219.out 1).trans rfl, (blk_cell BK219.out 2).trans rfl⟩ (fun hHeld => ?_)
    clear hK K
    refine norm_ (a' := ?_) ?_ ?_
    rotate_left
    · show Act.put _ (some 8) _ = _
      simp only [Act.put, List.setIfInBounds_toArray, List.set_cons_zero, List.set_cons_succ, i64_w, i32_w]
      rfl
    refine one_ (i := 3) (N := some 10) #[true, true, true, true, false, false, false, false, false, false, false, false, false, false, false, false, false, false, false, false, false, false, false] rfl rfl (one_of HT_.out (by kernel_rfl)) (by decide) (fun K hK => ?_)
    refine goes_ Tryz.func10 (by kernel_rfl) rfl #[.agg #[.slice A0_0 l0_0.length c0_0, .int .i64 a0_1, .int .i64 a0_2]] (by rfl) rfl rfl (by (try simp only [List.map_toArray, List.map_cons, List.map_nil]); first | done | rfl | (simp only [List.length_drop, List.length_take]; rfl)) ?_
    with_reducible refine (tollhouseref15_Config.calls k _ _ l0_0 a0_1 a0_2 t222 _ ?side1 ?side2 (Glob.below HGl.out (by repeat (first | (with_reducible first | exact HB.out | apply below_alloc | apply pw_below_drewN | apply below_drew1 | refine below_set ?_ GE219.out | refine below_set ?_ GE220.out) | exact HB.out))) A5.out).mono ?_
    (case side1 => repeat (first | exact (Kd.C_below HR0_0.out HB.out) | (with_reducible refine Kd.C_alloc ?_ _) | (with_reducible refine Kd.C_drewN ?_ _) | (with_reducible refine Kd.C_drew ?_)))
    (case side2 => exact HC0_0.out)
    rintro e w42 ⟨rfl, hb⟩
    refine ⟨_, rfl, ?_⟩
    have n0_ := Aside0.mk (blk_below (g := gb219) (o := .cells #[.slice A0_0 l0_0.length c0_0, .int .i64 a0_1, .int .i64 a0_2] 24 (0, 0)) (by (with_reducible repeat (first | refine blk_drewN ?_ _ | refine blk_drew ?_ | refine blk_alloc ?_ _)); exact BK219.out) hb)
    have n1_ := Aside0.mk (blk_below (g := gb220) (o := .cells #[.string a1_0, .slice A1_1 l1_1.length c1_1, .int .i64 a1_2, .int .i64 a1_3, .int .i64 a1_4, .int .i64 a1_5, .int .i64 a1_6, .int .i64 a1_7, .int .i64 a1_8] 27 (0, 0)) (by (with_reducible repeat (first | refine blk_drewN ?_ _ | refine blk_drew ?_ | refine blk_alloc ?_ _)); exact BK220.out) hb)
    have n2_ := Aside0.mk (below_step (by repeat (first | (with_reducible first | exact HB.out | apply below_alloc | apply pw_below_drewN | apply below_drew1 | refine below_set ?_ GE219.out | refine below_set ?_ GE220.out) | exact HB.out)) hb)
    clear BK219
    clear BK220
    clear HB
    have BK219 := n0_
    have BK220 := n1_
    have HB := n2_
    clear n0_ n1_ n2_
    (try clear hb)
    (try clear hb2)
    (try clear hk)
    (try clear hi)
    refine hK.out _ _ ⟨(blk_cell BK219.out 0).trans rfl, (blk_cell BK219.out 1).trans rfl, (blk_cell BK219.out 2).trans rfl⟩ (fun hHeld => ?_)
    clear hK K
    refine norm_ (a' := ?_) ?_ ?_
    rotate_left
    · show Act.put _ (some 10) _ = _
      simp only [Act.put, List.setIfInBounds_toArray, List.set_cons_zero, List.set_cons_succ, i64_w, i32_w]
      rfl
    refine pure_ (i := 4) (N := some 11) (v := ?_) (a' := ?_) #[true, true, true, true, true, false, false, false, false, false, false, false, false, false, false, false, false, false, false, false, false, false, false] rfl rfl (any_of HT_.out (by kernel_rfl)) (fun _ _ _ h => h) (Or.inl ⟨by rfl, ?_⟩) ?_ ?_
    rotate_left
    · intro w'
      go_simp
      with_reducible rfl
    rotate_left
    · simp only [Act.put, List.setIfInBounds_toArray, List.set_cons_zero, List.set_cons_succ, i64_w, i32_w]
      rfl
    refine pure_ (i := 5) (N := some 12) (v := ?_) (a' := ?_) #[true, true, true, true, true, true, false, false, false, false, false, false, false, false, false, false, false, false, false, false, false, false, false] rfl rfl (any_of HT_.out (by kernel_rfl)) (fun _ _ _ h => h) (Or.inl ⟨by rfl, ?_⟩) ?_ ?_
    rotate_left
    · intro w'
      go_simp
      with_reducible rfl
    rotate_left
    · simp only [Act.put, List.setIfInBounds_toArray, List.set_cons_zero, List.set_cons_succ, i64_w, i32_w]
      rfl
    refine pure_ (i := 6) (N := some 13) (v := undef) (a' := ?_) #[true, true, true, true, true, true, true, false, false, false, false, false, false, false, false, false, false, false, false, false, false, false, false] rfl rfl (any_of HT_.out (by kernel_rfl)) (fun _ _ _ h => h) (Or.inr ⟨by rfl, rfl⟩) ?_ ?_
    rotate_left
    · simp only [Act.put, List.setIfInBounds_toArray, List.set_cons_zero, List.set_cons_succ, i64_w, i32_w]
      rfl
    refine pure_ (i := 7) (N := some 14) (v := undef) (a' := ?_) #[true, true, true, true, true, true, true, true, false, false, false, false, false, false, false, false, false, false, false, false, false, false, false] rfl rfl (any_of HT_.out (by kernel_rfl)) (fun _ _ _ h => h) (Or.inr ⟨by rfl, rfl⟩) ?_ ?_
    rotate_left
    · simp only [Act.put, List.setIfInBounds_toArray, List.set_cons_zero, List.set_cons_succ, i64_w, i32_w]
      rfl
    refine pure_ (i := 8) (N := some 15) (v := undef) (a' := ?_) #[true, true, true, true, true, true, true, true, true, false, false, false, false, false, false, false, false, false, false, false, false, false, false] rfl rfl (any_of HT_.out (by kernel_rfl)) (fun _ _ _ h => h) (Or.inr ⟨by rfl, rfl⟩) ?_ ?_
    rotate_left
    · simp only [Act.put, List.setIfInBounds_toArray, List.set_cons_zero, List.set_cons_succ, i64_w, i32_w]
      rfl
    refine pure_ (i := 9) (N := some 16) (v := undef) (a' := ?_) #[true, true, true, true, true, true, true, true, true, true, false, false, false, false, false, false, false, false, false, false, false, false, false] rfl rfl (any_of HT_.out (by kernel_rfl)) (fun _ _ _ h => h) (Or.inr ⟨by rfl, rfl⟩) ?_ ?_
    rotate_left
    · simp only [Act.put, List.setIfInBounds_toArray, List.set_cons_zero, List.set_cons_succ, i64_w, i32_w]
      rfl
    refine pure_ (i := 10) (N := some 17) (v := undef) (a' := ?_) #[true, true, true, true, true, true, true, true, true, true, true, false, false, false, false, false, false, false, false, false, false, false, false] rfl rfl (any_of HT_.out (by kernel_rfl)) (fun _ _ _ h => h) (Or.inr ⟨by rfl, rfl⟩) ?_ ?_
    rotate_left
    · simp only [Act.put, List.setIfInBounds_toArray, List.set_cons_zero, List.set_cons_succ, i64_w, i32_w]
      rfl
    refine pure_ (i := 11) (N := some 18) (v := ?_) (a' := ?_) #[true, true, true, true, true, true, true, true, true, true, true, true, false, false, false, false, false, false, false, false, false, false, false] rfl rfl (any_of HT_.out (by kernel_rfl)) (fun _ _ _ h => h) (Or.inl ⟨by rfl, ?_⟩) ?_ ?_
    rotate_left
    · intro w'
      go_simp
      with_reducible rfl
    rotate_left
    · simp only [Act.put, List.setIfInBounds_toArray, List.set_cons_zero, List.set_cons_succ, i64_w, i32_w]
      rfl
    refine pure_ (i := 12) (N := some 19) (v := ?_) (a' := ?_) #[true, true, true, true, true, true, true, true, true, true, true, true, true, false, false, false, false, false, false, false, false, false, false] rfl rfl (any_of HT_.out (by kernel_rfl)) (fun _ _ _ h => h) (Or.inl ⟨by rfl, ?_⟩) ?_ ?_
    rotate_left
    · intro w'
      go_simp
      with_reducible rfl
    rotate_left
    · simp only [Act.put, List.setIfInBounds_toArray, List.set_cons_zero, List.set_cons_succ, i64_w, i32_w]
      rfl
    refine pure_ (i := 13) (N := some 20) (v := undef) (a' := ?_) #[true, true, true, true, true, true, true, true, true, true, true, true, true, true, false, false, false, false, false, false, false, false, false] rfl rfl (any_of HT_.out (by kernel_rfl)) (fun _ _ _ h => h) (Or.inr ⟨by rfl, rfl⟩) ?_ ?_
    rotate_left
    · simp only [Act.put, List.setIfInBounds_toArray, List.set_cons_zero, List.set_cons_succ, i64_w, i32_w]
      rfl
    refine pure_ (i := 14) (N := some 21) (v := undef) (a' := ?_) #[true, true, true, true, true, true, true, true, true, true, true, true, true, true, true, false, false, false, false, false, false, false, false] rfl rfl (any_of HT_.out (by kernel_rfl)) (fun _ _ _ h => h) (Or.inr ⟨by rfl, rfl⟩) ?_ ?_
    rotate_left
    · simp only [Act.put, List.setIfInBounds_toArray, List.set_cons_zero, List.set_cons_succ, i64_w, i32_w]
      rfl
    refine pure_ (i := 15) (N := some 22) (v := undef) (a' := ?_) #[true, true, true, true, true, true, true, true, true, true, true, true, true, true, true, true, false, false, false, false, false, false, false] rfl rfl (any_of HT_.out (by kernel_rfl)) (fun _ _ _ h => h) (Or.inr ⟨by rfl, rfl⟩) ?_ ?_
    rotate_left
    · simp only [Act.put, List.setIfInBounds_toArray, List.set_cons_zero, List.set_cons_succ, i64_w, i32_w]
      rfl
    refine pure_ (i := 16) (N := some 23) (v := undef) (a' := ?_) #[true, true, true, true, true, true, true, true, true, true, true, true, true, true, true, true, true, false, false, false, false, false, false] rfl rfl (any_of HT_.out (by kernel_rfl)) (fun _ _ _ h => h) (Or.inr ⟨by rfl, rfl⟩) ?_ ?_
    rotate_left
    · simp only [Act.put, List.setIfInBounds_toArray, List.set_cons_zero, List.set_cons_succ, i64_w, i32_w]
      rfl
    refine pure_ (i := 17) (N := some 24) (v := undef) (a' := ?_) #[true, true, true, true, true, true, true, true, true, true, true, true, true, true, true, true, true, true, false, false, false, false, false] rfl rfl (any_of HT_.out (by kernel_rfl)) (fun _ _ _ h => h) (Or.inr ⟨by rfl, rfl⟩) ?_ ?_
    rotate_left
    · simp only [Act.put, List.setIfInBounds_toArray, List.set_cons_zero, List.set_cons_succ, i64_w, i32_w]
      rfl
    refine pure_ (i := 18) (N := some 25) (v := ?_) (a' := ?_) #[true, true, true, true, true, true, true, true, true, true, true, true, true, true, true, true, true, true, true, false, false, false, false] rfl rfl (any_of HT_.out (by kernel_rfl)) (fun _ _ _ h => h) (Or.inl ⟨by rfl, ?_⟩) ?_ ?_
    rotate_left
    · intro w'
      go_simp
      with_reducible rfl
    rotate_left
    · simp only [Act.put, List.setIfInBounds_toArray, List.set_cons_zero, List.set_cons_succ, i64_w, i32_w]
      rfl
    refine pure_ (i := 19) (N := some 26) (v := ?_) (a' := ?_) #[true, true, true, true, true, true, true, true, true, true, true, true, true, true, true, true, true, true, true, true, false, false, false] rfl rfl (any_of HT_.out (by kernel_rfl)) (fun _ _ _ h => h) (Or.inl ⟨by rfl, ?_⟩) ?_ ?_
    rotate_left
    · intro w'
      go_simp
      with_reducible rfl
    rotate_left
    · simp only [Act.put, List.setIfInBounds_toArray, List.set_cons_zero, List.set_cons_succ, i64_w, i32_w]
      rfl
    refine pure_ (i := 20) (N := some 27) (v := undef) (a' := ?_) #[true, true, true, true, true, true, true, true, true, true, true, true, true, true, true, true, true, true, true, true, true, false, false] rfl rfl (any_of HT_.out (by kernel_rfl)) (fun _ _ _ h => h) (Or.inr ⟨by rfl, rfl⟩) ?_ ?_
    rotate_left
    · simp only [Act.put, List.setIfInBounds_toArray, List.set_cons_zero, List.set_cons_succ, i64_w, i32_w]
      rfl
    refine pure_ (i := 21) (N := some 28) (v := ?_) (a' := ?_) #[true, true, true, true, true, true, true, true, true, true, true, true, true, true, true, true, true, true, true, true, true, true, false] rfl rfl (any_of HT_.out (by kernel_rfl)) (fun _ _ _ h => h) (Or.inl ⟨by rfl, ?_⟩) ?_ ?_
    rotate_left
    · intro w'
      go_simp
      with_reducible rfl
    rotate_left
    · simp only [Act.put, List.setIfInBounds_toArray, List.set_cons_zero, List.set_cons_succ, i64_w, i32_w]
      rfl
    refine pure_ (i := 22) (N := some 6) (v := ?_) (a' := ?_) #[true, true, true, true, true, true, true, true, true, true, true, true, true, true, true, true, true, true, true, true, true, true, true] rfl rfl (any_of HT_.out (by kernel_rfl)) (fun _ _ _ h => h) (Or.inl ⟨by rfl, ?_⟩) ?_ ?_
    rotate_left
    · intro w'
      go_simp
      with_reducible rfl
    rotate_left
    · simp only [Act.put, List.setIfInBounds_toArray, List.set_cons_zero, List.set_cons_succ, i64_w, i32_w]
      rfl
    refine done_ (done_of HT_.out (by kernel_rfl)) ?_
    try go_wp2
    go_ret
    exact ⟨by first | rfl | (simp [errW_none, errW_some] <;> rfl) | (simp [*, errW_none, errW_some] <;> rfl), by repeat (first | (with_reducible first | exact HB.out | apply below_alloc | apply pw_below_drewN | apply below_drew1 | refine below_set ?_ GE219.out | refine below_set ?_ GE220.out) | exact HB.out)⟩

end Go.Proofs.YthmnhbalmglohaaGreatDoor.X

/- With rounds enough, a printed function tells a value: how that is put together; and what a byte string's places hold. -/
namespace Go.Proofs.YthmnhbalmglohaaGreatDoor.X
open Go.RowKit Go.Proofs.YthmnhbalmglohaaGreatDoorW.PrintWords Go.Proofs.YthmnhbalmglohaaGreatDoor.T
set_option linter.unusedSimpArgs false
set_option linter.unusedVariables false
/-- With rounds enough f tells r. -/
def Ev {α : Type} (f : Nat → Option α) (r : α) : Prop := ∃ K, ∀ k, K ≤ k → f k = some r
theorem Ev.const {α : Type} {f : Nat → Option α} {r : α} (h : ∀ k, f k = some r) : Ev f r := ⟨0, fun k _ => h k⟩
theorem Ev.done {α : Type} {f : Nat → Option α} {r : α} (h : ∀ k, f (k + 1) = some r) : Ev f r := ⟨1, fun k hk => by obtain ⟨j, rfl⟩ : ∃ j, k = j + 1 := ⟨k - 1, by omega⟩; exact h j⟩
theorem Ev.step {α : Type} {f g : Nat → Option α} {r : α} (h : ∀ k, f (k + 1) = g k) (hg : Ev g r) : Ev f r := by
  obtain ⟨K, hK⟩ := hg
  refine ⟨K + 1, fun k hk => ?_⟩
  obtain ⟨j, rfl⟩ : ∃ j, k = j + 1 := ⟨k - 1, by omega⟩
  rw [h j]; exact hK j (by omega)
theorem Ev.same {α : Type} {f g : Nat → Option α} {r : α} (h : ∀ k, f k = g k) (hg : Ev g r) : Ev f r := by
  obtain ⟨K, hK⟩ := hg
  exact ⟨K, fun k hk => by rw [h k]; exact hK k hk⟩
theorem Ev.bind {α β : Type} {f : Nat → Option α} {g : Nat → α → Option β} {a : α} {r : β} (hf : Ev f a) (hg : Ev (fun k => g k a) r) : Ev (fun k => (f k).bind (g k)) r := by
  obtain ⟨K, hK⟩ := hf
  obtain ⟨L, hL⟩ := hg
  refine ⟨max K L, fun k hk => ?_⟩
  show (f k).bind (g k) = _
  rw [hK k (by omega)]
  exact hL k (by omega)
theorem Ev.stepBind {α β : Type} {F : Nat → Option β} {f : Nat → Option α} {g : Nat → α → Option β} {a : α} {r : β} (h : ∀ k, F (k + 1) = (f k).bind (g k)) (hf : Ev f a) (hg : Ev (fun k => g k a) r) : Ev F r := Ev.step h (Ev.bind hf hg)
theorem Ev.of_mono {α : Type} {f : Nat → Option α} {r : α} (hm : ∀ k, LeO (f k) (f (k + 1))) {K : Nat} (h : f K = some r) : Ev f r := by
  refine ⟨K, fun k hk => ?_⟩
  obtain ⟨d, rfl⟩ : ∃ d, k = K + d := ⟨k - K, by omega⟩
  clear hk
  induction d with
  | zero => exact h
  | succ d ih => exact hm (K + d) r ih
theorem Ev.get {α : Type} {f : Nat → Option α} {r : α} (h : Ev f r) : ∃ k, f k = some r := by obtain ⟨K, hK⟩ := h; exact ⟨K, hK K (Nat.le_refl _)⟩
theorem wrap_id {n : Int} (h : -9223372036854775808 ≤ n) (h2 : n ≤ 9223372036854775807) : wrap64 n = n := by unfold wrap64; omega
/-! ### a byte string's places -/
theorem btAt {s : ByteArray} {j : Nat} (h : j < s.size) : bt s (j : Int) = ((s[j]'h).toNat : Int) := by
  unfold bt
  rw [dif_pos (by simpa using h)]
  rfl
theorem list_at {s : ByteArray} {j : Nat} (h : j < s.size) : s.data.toList[j]? = some (s[j]'h) := by
  rw [List.getElem?_eq_getElem (by rw [size_toList]; exact h)]
  rfl
theorem bt_is {s : ByteArray} {j : Nat} (h : j < s.size) (c : UInt8) : bt s (j : Int) = (c.toNat : Int) ↔ s.data.toList[j]? = some c := by
  rw [btAt h, list_at h]
  constructor
  · intro e
    have : (s[j]'h).toNat = c.toNat := by omega
    rw [UInt8.toNat_inj.1 this]
  · intro e; rw [Option.some.inj e]
theorem bt_sub {s : ByteArray} {a j : Nat} (h : a + j < s.size) : bt (s.extract a s.size) (j : Int) = bt s ((a + j : Nat) : Int) := by
  have hj : j < (s.extract a s.size).size := by rw [ByteArray.size_extract]; omega
  rw [btAt hj, btAt h, ByteArray.getElem_extract]
theorem drop_at {s : ByteArray} {j : Nat} (h : j < s.size) : s.data.toList.drop j = (s[j]'h) :: s.data.toList.drop (j + 1) := by
  rw [List.drop_eq_getElem_cons (by rw [size_toList]; exact h)]
  rfl
theorem drop_end {s : ByteArray} {j : Nat} (h : s.size ≤ j) : s.data.toList.drop j = [] := List.drop_eq_nil_of_le (by rw [size_toList]; exact h)
end Go.Proofs.YthmnhbalmglohaaGreatDoor.X

/- The parts of a text between signs: plain. -/
namespace Go.Proofs.YthmnhbalmglohaaGreatDoor.T
def partsB (c : UInt8) (s : ByteArray) : List ByteArray := Lib.splitB ⟨#[c]⟩ 0 (Lib.countB s ⟨#[c]⟩) s
theorem splitK_size (sep : ByteArray) : ∀ (k : Nat) (s : ByteArray), ∀ x ∈ Lib.splitB sep 0 k s, x.size ≤ s.size
  | 0, s, x, hx => by simp [Lib.splitB] at hx; subst hx; exact Nat.le_refl _
  | k + 1, s, x, hx => by
    unfold Lib.splitB at hx
    split at hx
    · simp at hx; subst hx; exact Nat.le_refl _
    · rcases List.mem_cons.1 hx with rfl | hx
      · rw [ByteArray.size_extract]; omega
      · have := splitK_size sep k _ x hx
        rw [ByteArray.size_extract] at this; omega
theorem parts_size (c : UInt8) (s : ByteArray) : ∀ x ∈ partsB c s, x.size ≤ s.size := splitK_size _ _ s
theorem parts_len (c : UInt8) (s : ByteArray) : (partsB c s).length = Lib.countB s ⟨#[c]⟩ + 1 := Lib.splitB_all ⟨#[c]⟩ (Nat.le_refl _) 0 _ s rfl
theorem parts_le (c : UInt8) (s : ByteArray) : (partsB c s).length ≤ s.size + 1 := by
  rw [parts_len]
  have := Lib.countB_le ⟨#[c]⟩ (Nat.le_refl _) s.size s (Nat.le_refl _)
  omega
end Go.Proofs.YthmnhbalmglohaaGreatDoor.T

/- Small plain lemmas on bytes and rounds. -/
namespace Go.Proofs.YthmnhbalmglohaaGreatDoor.X
open Go.RowKit Go.Proofs.YthmnhbalmglohaaGreatDoorW.PrintWords Go.Proofs.YthmnhbalmglohaaGreatDoor.T
set_option linter.unusedSimpArgs false
set_option linter.unusedVariables false
theorem wrap_succ {n : Nat} (h : n < 9223372036854775807) : wrap64 ((n : Int) + 1) = ((n + 1 : Nat) : Int) := by unfold wrap64; omega
theorem isDig_iff (c : UInt8) : isDig c = true ↔ (48 ≤ c.toNat ∧ c.toNat ≤ 57) := by
  have h : ∀ n : Fin 256, isDig (UInt8.ofNat n.val) = true ↔ (48 ≤ (UInt8.ofNat n.val).toNat ∧ (UInt8.ofNat n.val).toNat ≤ 57) := by decide +kernel
  have := h ⟨c.toNat, c.toNat_lt⟩
  simpa using this
theorem rd_list (ls : List ByteArray) (i : Nat) (y : ByteArray) (h : ls[i]? = some y) : rdOf ByteArray.empty ls (i : Int) = y := by
  unfold rdOf
  rw [Int.toNat_natCast, List.getD_eq_getElem?_getD, h]; rfl
theorem extract_all (s : ByteArray) : s.extract 0 s.size = s := by simp
theorem toList_app (a b : ByteArray) : (a ++ b).data.toList = a.data.toList ++ b.data.toList := by simp
theorem size_app (a b : ByteArray) : (a ++ b).size = a.size + b.size := by simp
theorem toList_eq (a : ByteArray) : a.toList = a.data.toList := Lib.toList_data a
theorem bytes_mk (s : ByteArray) (l : List UInt8) (h : s.data.toList = l) : s = ⟨l.toArray⟩ := by cases s; subst h; rfl
theorem bytes_ext {a b : ByteArray} (h : a.data.toList = b.data.toList) : a = b := by
  cases a; cases b
  simp only at h
  congr 1
  exact Array.ext' h
/-! ### the parts of a text between signs c -/
theorem sign_index (c : UInt8) (t : ByteArray) {j : Nat} (h : t.data.toList[j]? = some c) (hno : ∀ k, k < j → t.data.toList[k]? ≠ some c) : Lib.indexB t ⟨#[c]⟩ = j := by
  have e : Lib.indexB t ⟨#[c]⟩ = Lib.indexByte t.data.toList c := Lib.index_one _ _
  rw [e]
  rcases Int.lt_or_le (Lib.indexByte t.data.toList c) 0 with hm | hm
  · have h1 := Lib.indexByte_ge t.data.toList c
    exact absurd h (Lib.indexByte_none (by omega) j)
  · obtain ⟨o, ho⟩ : ∃ o : Nat, Lib.indexByte t.data.toList c = o := ⟨(Lib.indexByte t.data.toList c).toNat, by omega⟩
    obtain ⟨p1, p2⟩ := Lib.indexByte_some ho
    rw [ho]
    rcases Nat.lt_trichotomy o j with hlt | rfl | hgt
    · exact absurd p1 (hno o hlt)
    · rfl
    · exact absurd h (p2 j hgt)
theorem sign_none (c : UInt8) (t : ByteArray) (hno : ∀ k : Nat, t.data.toList[k]? ≠ some c) : Lib.indexB t ⟨#[c]⟩ = -1 := by
  have e : Lib.indexB t ⟨#[c]⟩ = Lib.indexByte t.data.toList c := Lib.index_one _ _
  rw [e]
  have h1 := Lib.indexByte_ge t.data.toList c
  rcases Int.lt_or_le (Lib.indexByte t.data.toList c) 0 with hm | hm
  · omega
  · obtain ⟨o, ho⟩ : ∃ o : Nat, Lib.indexByte t.data.toList c = o := ⟨(Lib.indexByte t.data.toList c).toNat, by omega⟩
    exact absurd (Lib.indexByte_some ho).1 (hno o)
theorem parts_no (c : UInt8) (t : ByteArray) (hno : ∀ k : Nat, t.data.toList[k]? ≠ some c) : partsB c t = [t] := Lib.splitB_miss _ _ _ _ (sign_none c t hno)
theorem parts_hit (c : UInt8) (t : ByteArray) (j : Nat) (h : t.data.toList[j]? = some c) (hno : ∀ k, k < j → t.data.toList[k]? ≠ some c) : partsB c t = t.extract 0 j :: partsB c (t.extract (j + 1) t.size) := by
  have hx := sign_index c t h hno
  unfold partsB
  have hz : 1 ≤ (⟨#[c]⟩ : ByteArray).size := Nat.le_refl _
  rw [Lib.countB_hit t ⟨#[c]⟩ j hz hx, Nat.add_comm 1, Lib.splitB_hit _ _ _ _ _ hx]
  rfl
theorem mem_at {α : Type} {l : List α} {c : α} (h : c ∉ l) (k : Nat) : l[k]? ≠ some c := fun e => h (List.mem_of_getElem? e)
theorem parts_one (c : UInt8) (s : ByteArray) (h : c ∉ s.data.toList) : partsB c s = [s] := parts_no c s (fun k => mem_at h k)
theorem parts_cons (c : UInt8) (s : ByteArray) (a b : List UInt8) (hs : s.data.toList = a ++ c :: b) (ha : c ∉ a) : partsB c s = ⟨a.toArray⟩ :: partsB c ⟨b.toArray⟩ := by
  have hz := size_toList s
  rw [parts_hit c s a.length (by rw [hs]; simp) (fun k hk => by rw [hs, List.getElem?_append_left hk]; exact mem_at ha k)]
  have e1 : s.extract 0 a.length = ⟨a.toArray⟩ := bytes_mk _ _ (by rw [Lib.extract_from_zero, hs]; simp)
  have e2 : s.extract (a.length + 1) s.size = ⟨b.toArray⟩ := bytes_mk _ _ (by rw [Lib.extract_to_end, hs, List.drop_append]; simp)
  rw [e1, e2]
/-- what stands ahead of the first c, and behind it -/
theorem split_first (c : UInt8) : ∀ l : List UInt8, c ∈ l → ∃ a b, l = a ++ c :: b ∧ c ∉ a
  | x :: t, h => by
    by_cases e : x = c
    · subst e; exact ⟨[], t, rfl, by simp⟩
    · obtain ⟨a, b, rfl, hn⟩ := split_first c t (by
        rcases List.mem_cons.1 h with h | h
        · exact absurd h.symm e
        · exact h)
      refine ⟨x :: a, b, rfl, fun hm => ?_⟩
      rcases List.mem_cons.1 hm with h | h
      · exact e h.symm
      · exact hn h
theorem split_unique (c : UInt8) : ∀ {a a' b b' : List UInt8}, a ++ c :: b = a' ++ c :: b' → c ∉ a → c ∉ a' → a = a' ∧ b = b'
  | [], [], b, b', h, _, _ => by injection h with _ h; exact ⟨rfl, h⟩
  | [], y :: t, b, b', h, _, hn => by
    injection h with h1 _
    exact absurd (List.mem_cons.2 (.inl h1)) hn
  | x :: t, [], b, b', h, hn, _ => by
    injection h with h1 _
    exact absurd (List.mem_cons.2 (.inl h1.symm)) hn
  | x :: t, y :: u, b, b', h, h1, h2 => by
    injection h with e1 e2
    obtain ⟨r1, r2⟩ := split_unique c e2 (fun hm => h1 (List.mem_cons_of_mem _ hm)) (fun hm => h2 (List.mem_cons_of_mem _ hm))
    exact ⟨by rw [e1, r1], r2⟩
/-- three parts: how they stand -/
theorem parts_three (c : UInt8) (s p0 p1 p2 : ByteArray) (h : partsB c s = [p0, p1, p2]) : s.data.toList = p0.data.toList ++ c :: (p1.data.toList ++ c :: p2.data.toList) ∧ c ∉ p0.data.toList ∧ c ∉ p1.data.toList ∧ c ∉ p2.data.toList := by
  by_cases h0 : c ∈ s.data.toList
  · obtain ⟨a, b, e, ha⟩ := split_first c _ h0
    rw [parts_cons c s a b e ha] at h
    injection h with q0 h
    by_cases h1 : c ∈ b
    · obtain ⟨a1, b1, e1, ha1⟩ := split_first c _ h1
      rw [parts_cons c ⟨b.toArray⟩ a1 b1 e1 ha1] at h
      injection h with q1 h
      by_cases h2 : c ∈ b1
      · obtain ⟨a2, b2, e2, ha2⟩ := split_first c _ h2
        rw [parts_cons c ⟨b1.toArray⟩ a2 b2 e2 ha2] at h
        injection h with _ h
        have := parts_len c ⟨b2.toArray⟩
        rw [h] at this
        simp at this
      · rw [parts_one c ⟨b1.toArray⟩ h2] at h
        injection h with q2 _
        subst q0 q1 q2
        exact ⟨by rw [e]; show a ++ c :: b = _; rw [show b = a1 ++ c :: b1 from e1], ha, ha1, h2⟩
    · rw [parts_one c ⟨b.toArray⟩ h1] at h
      injection h with _ h
      cases h
  · rw [parts_one c s h0] at h
    injection h with _ h
    cases h
theorem dot_prefix (h : ByteArray) : Lib.hasPrefix h.data.toList [46] = (decide (0 < h.size) && bt h 0 == 46) := by
  have hl := size_toList h
  unfold Lib.hasPrefix bt
  by_cases hs : 0 < h.size
  · rw [dif_pos (by simpa using hs)]
    have he : h.data.toList = h[0] :: h.data.toList.tail := by
      cases hd : h.data.toList with
      | nil => rw [hd] at hl; simp at hl; omega
      | cons a t =>
        have : h[0] = h.data.toList[0]'(by rw [hl]; exact hs) := rfl
        simp [this, hd]
    rw [he, decide_eq_true hs]
    show ((46 : UInt8) == h[0] && ([] : List UInt8).isPrefixOf h.data.toList.tail) = _
    have e0 : ([] : List UInt8).isPrefixOf h.data.toList.tail = true := by cases h.data.toList.tail <;> rfl
    rw [e0, Bool.and_true, Bool.true_and, Bool.eq_iff_iff]
    simp only [beq_iff_eq]
    constructor
    · intro e; show ((h[0]).toNat : Int) = 46; rw [← e]; rfl
    · intro e
      have e2 : h[0].toNat = 46 := by have : ((h[0]).toNat : Int) = 46 := e; omega
      exact (UInt8.toNat_inj.1 (by rw [e2]; rfl)).symm
  · have : h.data.toList = [] := List.eq_nil_of_length_eq_zero (by omega)
    rw [this, decide_eq_false hs]
    rfl
end Go.Proofs.YthmnhbalmglohaaGreatDoor.X

/- The parts of a text between points. -/
namespace Go.Proofs.YthmnhbalmglohaaGreatDoor.X
open Go.RowKit Go.Proofs.YthmnhbalmglohaaGreatDoorW.PrintWords Go.Proofs.YthmnhbalmglohaaGreatDoor.T
set_option linter.unusedSimpArgs false
set_option linter.unusedVariables false
/-! ### the parts between points -/
theorem dot_index (t : ByteArray) {j : Nat} (h : t.data.toList[j]? = some 46) (hno : ∀ k, k < j → t.data.toList[k]? ≠ some 46) : Lib.indexB t ⟨#[46]⟩ = j := by
  have e : Lib.indexB t ⟨#[46]⟩ = Lib.indexByte t.data.toList 46 := Lib.index_one _ _
  rw [e]
  rcases Int.lt_or_le (Lib.indexByte t.data.toList 46) 0 with hm | hm
  · have h1 := Lib.indexByte_ge t.data.toList 46
    exact absurd h (Lib.indexByte_none (by omega) j)
  · obtain ⟨o, ho⟩ : ∃ o : Nat, Lib.indexByte t.data.toList 46 = o := ⟨(Lib.indexByte t.data.toList 46).toNat, by omega⟩
    obtain ⟨p1, p2⟩ := Lib.indexByte_some ho
    rw [ho]
    rcases Nat.lt_trichotomy o j with hlt | rfl | hgt
    · exact absurd p1 (hno o hlt)
    · rfl
    · exact absurd h (p2 j hgt)
theorem dot_none (t : ByteArray) (hno : ∀ k : Nat, t.data.toList[k]? ≠ some 46) : Lib.indexB t ⟨#[46]⟩ = -1 := by
  have e : Lib.indexB t ⟨#[46]⟩ = Lib.indexByte t.data.toList 46 := Lib.index_one _ _
  rw [e]
  have h1 := Lib.indexByte_ge t.data.toList 46
  rcases Int.lt_or_le (Lib.indexByte t.data.toList 46) 0 with hm | hm
  · omega
  · obtain ⟨o, ho⟩ : ∃ o : Nat, Lib.indexByte t.data.toList 46 = o := ⟨(Lib.indexByte t.data.toList 46).toNat, by omega⟩
    exact absurd (Lib.indexByte_some ho).1 (hno o)
theorem labels_no (t : ByteArray) (hno : ∀ k : Nat, t.data.toList[k]? ≠ some 46) : labelsB t = [t] := Lib.splitB_miss _ _ _ _ (dot_none t hno)
theorem labels_hit (t : ByteArray) (j : Nat) (h : t.data.toList[j]? = some 46) (hno : ∀ k, k < j → t.data.toList[k]? ≠ some 46) : labelsB t = t.extract 0 j :: labelsB (t.extract (j + 1) t.size) := by
  have hx := dot_index t h hno
  unfold labelsB
  rw [Lib.countB_hit t ⟨#[46]⟩ j (by decide) hx, Nat.add_comm 1, Lib.splitB_hit _ _ _ _ _ hx]
  rfl
end Go.Proofs.YthmnhbalmglohaaGreatDoor.X

/- tollhouseref10.Named tells what uri.Named tells: the plain law. -/
namespace Go.Proofs.YthmnhbalmglohaaGreatDoor.X
open Go.RowKit Go.Proofs.YthmnhbalmglohaaGreatDoorW.PrintWords Go.Proofs.YthmnhbalmglohaaGreatDoor.T
set_option linter.unusedSimpArgs false
set_option linter.unusedVariables false
/-! ### labels -/
theorem labels_go (s : ByteArray) (hs : s.size ≤ 4294967296) : ∀ (d i a : Nat) (acc : List ByteArray), s.size - i = d → a ≤ i → i ≤ s.size → (∀ j, a ≤ j → j < i → s.data.toList[j]? ≠ some 46) → acc.length ≤ i →
    Ev (fun k => tollhouseref10_labels.l0 k s acc (a : Int) (i : Int)) (acc ++ labelsB (s.extract a s.size))
  | 0, i, a, acc, hd, ha, hi, hno, hl => by
    obtain rfl : i = s.size := by omega
    refine Ev.step (g := fun k => tollhouseref10_labels.l0 k s (acc ++ [s.extract a s.size]) ((s.size + 1 : Nat) : Int) ((s.size + 1 : Nat) : Int)) (fun k => ?_) (Ev.done fun k => ?_)
    · simp only [tollhouseref10_labels.l0]
      rw [if_pos (by omega), if_pos trivial, if_pos (by omega), if_pos (by omega), if_pos (by omega), wrap_succ (by omega)]
      simp
    · simp only [tollhouseref10_labels.l0]
      rw [if_neg (by omega), labels_no]
      intro k hk
      have hlt : k < (s.extract a s.size).size := by
        have := (List.getElem?_eq_some_iff.1 hk).1
        rw [size_toList] at this; exact this
      rw [ByteArray.size_extract] at hlt
      rw [Lib.extract_to_end, List.getElem?_drop] at hk
      exact hno (a + k) (by omega) (by omega) hk
  | d + 1, i, a, acc, hd, ha, hi, hno, hl => by
    have hlt : i < s.size := by omega
    by_cases h46 : s.data.toList[i]? = some 46
    · have hb : bt s (i : Int) = 46 := (bt_is hlt 46).2 h46
      have ih := labels_go s hs d (i + 1) (i + 1) (acc ++ [s.extract a i]) (by omega) (by omega) (by omega) (fun j h1 h2 => by omega) (by simp; omega)
      have hhit : labelsB (s.extract a s.size) = s.extract a i :: labelsB (s.extract (i + 1) s.size) := by
        rw [labels_hit (s.extract a s.size) (i - a)]
        · have e1 : (s.extract a s.size).extract 0 (i - a) = s.extract a i := by
            rw [ByteArray.extract_extract]; congr 1 <;> omega
          have e2 : (s.extract a s.size).extract (i - a + 1) (s.extract a s.size).size = s.extract (i + 1) s.size := by
            rw [ByteArray.extract_extract, ByteArray.size_extract]; congr 1 <;> omega
          rw [e1, e2]
        · rw [Lib.extract_to_end, List.getElem?_drop]
          have : a + (i - a) = i := by omega
          rw [this]; exact h46
        · intro k hk hk2
          rw [Lib.extract_to_end, List.getElem?_drop] at hk2
          exact hno (a + k) (by omega) (by omega) hk2
      rw [hhit]
      refine Ev.step (g := fun k => tollhouseref10_labels.l0 k s (acc ++ [s.extract a i]) ((i + 1 : Nat) : Int) ((i + 1 : Nat) : Int)) (fun k => ?_) ?_
      · simp only [tollhouseref10_labels.l0]
        rw [if_pos (by omega), if_neg (by omega), if_pos (by omega), if_pos (by omega), if_pos hb, if_pos (by omega), if_pos (by omega), if_pos (by omega), wrap_succ (by omega)]
        simp
      · simpa using ih
    · have hb : ¬ bt s (i : Int) = 46 := fun e => h46 ((bt_is hlt 46).1 e)
      have ih := labels_go s hs d (i + 1) a acc (by omega) (by omega) (by omega) (fun j h1 h2 => by
        by_cases e : j = i
        · subst e; exact h46
        · exact hno j h1 (by omega)) (by omega)
      refine Ev.step (g := fun k => tollhouseref10_labels.l0 k s acc (a : Int) ((i + 1 : Nat) : Int)) (fun k => ?_) ih
      simp only [tollhouseref10_labels.l0]
      rw [if_pos (by omega), if_neg (by omega), if_pos (by omega), if_pos (by omega), if_neg hb, wrap_succ (by omega)]
theorem labels_ev (s : ByteArray) (hs : s.size ≤ 4294967296) : Ev (fun k => tollhouseref10_labels.f k s) (labelsB s) := by
  have := labels_go s hs (s.size - 0) 0 0 [] rfl (Nat.le_refl _) (Nat.zero_le _) (fun j h1 h2 => by omega) (Nat.le_refl _)
  rw [extract_all] at this
  simpa [tollhouseref10_labels.f] using this
/-! ### octets -/
def octS : List UInt8 → Bool
  | [a] => isDig a
  | [a, b] => isDig a && (isDig b && a != 48)
  | [a, b, c] => isDig a && (isDig b && (isDig c && (a != 48 && decide (100 * (a.toNat - 48) + 10 * (b.toNat - 48) + (c.toNat - 48) ≤ 255))))
  | _ => false
theorem oct_one : ∀ x : Fin 10, [UInt8.ofNat (48 + x.val)] = Lib.decDigits x.val := by decide +kernel
theorem oct_two : ∀ x y : Fin 10, x.val ≠ 0 → [UInt8.ofNat (48 + x.val), UInt8.ofNat (48 + y.val)] = Lib.decDigits (10 * x.val + y.val) := by decide +kernel
theorem oct_three : ∀ x y z : Fin 10, x.val ≠ 0 → 100 * x.val + 10 * y.val + z.val ≤ 255 → [UInt8.ofNat (48 + x.val), UInt8.ofNat (48 + y.val), UInt8.ofNat (48 + z.val)] = Lib.decDigits (100 * x.val + 10 * y.val + z.val) := by decide +kernel
theorem oct_all : ∀ n : Fin 256, octS (Lib.decDigits n.val) = true ∧ Lib.parseUintB 8 (Lib.decDigits n.val) = .ok n.val := by decide +kernel
theorem dig_of {c : UInt8} (h : isDig c = true) : ∃ x : Fin 10, c = UInt8.ofNat (48 + x.val) ∧ c.toNat = 48 + x.val := by
  obtain ⟨h1, h2⟩ := (isDig_iff c).1 h
  refine ⟨⟨c.toNat - 48, by omega⟩, ?_, by simp; omega⟩
  have : 48 + (c.toNat - 48) = c.toNat := by omega
  show c = UInt8.ofNat (48 + (c.toNat - 48))
  rw [this, UInt8.ofNat_toNat]
theorem octS_num : ∀ l : List UInt8, octS l = true → ∃ n, n ≤ 255 ∧ l = Lib.decDigits n
  | [a], h => by
    obtain ⟨x, rfl, _⟩ := dig_of (show isDig a = true from h)
    exact ⟨x.val, by have := x.2; omega, oct_one x⟩
  | [a, b], h => by
    simp only [octS, Bool.and_eq_true, bne_iff_ne] at h
    obtain ⟨x, rfl, hx⟩ := dig_of h.1
    obtain ⟨y, rfl, _⟩ := dig_of h.2.1
    refine ⟨10 * x.val + y.val, by have := x.2; have := y.2; omega, oct_two x y (fun e => h.2.2 ?_)⟩
    rw [e]; rfl
  | [a, b, c], h => by
    simp only [octS, Bool.and_eq_true, bne_iff_ne, decide_eq_true_eq] at h
    obtain ⟨x, hxa, hx⟩ := dig_of h.1
    obtain ⟨y, hya, hy⟩ := dig_of h.2.1
    obtain ⟨z, hza, hz⟩ := dig_of h.2.2.1
    have hle := h.2.2.2.2
    have hne := h.2.2.2.1
    rw [hx, hy, hz] at hle
    refine ⟨100 * x.val + 10 * y.val + z.val, by omega, ?_⟩
    rw [hxa, hya, hza]
    exact oct_three x y z (fun e => hne (by rw [hxa, e]; rfl)) (by omega)
  | [], h => by cases h
  | _ :: _ :: _ :: _ :: _, h => by cases h
theorem octB_S (s : ByteArray) : octB s = octS s.data.toList := by
  rw [Bool.eq_iff_iff]
  constructor
  · intro h
    unfold octB at h
    split at h
    · rename_i n hn
      have hle := Lib.parseUintB_le hn
      have e : s.data.toList = Lib.decDigits n := by simpa using h
      rw [e]
      exact (oct_all ⟨n, by omega⟩).1
    · cases h
  · intro h
    obtain ⟨n, hn, e⟩ := octS_num _ h
    unfold octB
    rw [e, (oct_all ⟨n, by omega⟩).2]
    simp
theorem octet_step (s : ByteArray) (i n : Nat) (c : UInt8) (hc : s.data.toList[i]? = some c) (hs : s.size ≤ 4294967296) (hn : n ≤ 1000000) :
    (isDig c = false → Ev (fun k => tollhouseref10_octet.l0 k s (n : Int) (i : Int)) false) ∧ (3 ≤ i → Ev (fun k => tollhouseref10_octet.l0 k s (n : Int) (i : Int)) false) ∧
    (isDig c = true → i < 3 → ∀ r, Ev (fun k => tollhouseref10_octet.l0 k s ((10 * n + (c.toNat - 48) : Nat) : Int) ((i + 1 : Nat) : Int)) r → Ev (fun k => tollhouseref10_octet.l0 k s (n : Int) (i : Int)) r) := by
  have hlt : i < s.size := by
    have := (List.getElem?_eq_some_iff.1 hc).1
    rw [size_toList] at this; exact this
  have hb : bt s (i : Int) = (c.toNat : Int) := (bt_is hlt c).2 hc
  have hd := isDig_iff c
  refine ⟨fun hd0 => Ev.done fun k => ?_, fun h3 => Ev.done fun k => ?_, fun hd1 h3 r hr => Ev.step (fun k => ?_) hr⟩
  · simp only [tollhouseref10_octet.l0]
    rw [if_pos (by omega), if_pos (by omega), hb]
    rw [hd0] at hd
    by_cases h1 : (c.toNat : Int) < 48
    · rw [if_pos h1]
    · rw [if_neg h1, if_pos]
      rcases Nat.lt_or_ge 57 c.toNat with h2 | h2
      · omega
      · exact absurd (hd.2 ⟨by omega, h2⟩) (by decide)
  · simp only [tollhouseref10_octet.l0]
    rw [if_pos (by omega), if_pos (by omega), hb]
    by_cases h1 : (c.toNat : Int) < 48
    · rw [if_pos h1]
    · rw [if_neg h1]
      by_cases h2 : (c.toNat : Int) > 57
      · rw [if_pos h2]
      · rw [if_neg h2, if_pos (by omega)]
  · obtain ⟨h1, h2⟩ := hd.1 hd1
    simp only [tollhouseref10_octet.l0]
    rw [if_pos (by omega), if_pos (by omega), hb, if_neg (by omega), if_neg (by omega), if_neg (by omega), wrap_succ (by omega)]
    have e : wrap64 (wrap64 (10 * (n : Int)) + ((c.toNat : Int) - 48) % 256) = ((10 * n + (c.toNat - 48) : Nat) : Int) := by unfold wrap64; omega
    rw [e]
theorem octet_end (s : ByteArray) (n : Nat) (hs : s.size ≤ 4294967296) : Ev (fun k => tollhouseref10_octet.l0 k s (n : Int) (s.size : Int)) (decide (0 < s.size) && (decide (n ≤ 255) && (s.data.toList.head? != some 48 || decide (s.size = 1)))) := by
  refine Ev.done fun k => ?_
  simp only [tollhouseref10_octet.l0]
  rw [if_neg (by omega)]
  by_cases h0 : 0 < s.size
  · rw [if_pos (by omega), decide_eq_true h0]
    by_cases h1 : n ≤ 255
    · rw [if_pos (by omega), if_pos (by omega), decide_eq_true h1]
      have hh : s.data.toList.head? = s.data.toList[0]? := by cases s.data.toList <;> rfl
      have hb : bt s 0 = 48 ↔ s.data.toList[0]? = some 48 := bt_is h0 48
      rw [hh]
      by_cases h2 : s.data.toList[0]? = some 48
      · rw [if_pos (hb.2 h2), h2]
        simp
        by_cases h3 : s.size = 1 <;> simp [h3]
        omega
      · rw [if_neg (fun e => h2 (hb.1 e))]
        have : (s.data.toList[0]? != some 48) = true := by simpa using h2
        rw [this]; rfl
    · rw [if_neg (by omega), decide_eq_false h1]; rfl
  · rw [if_neg (by omega), decide_eq_false h0]; rfl
theorem octet_ev (s : ByteArray) (hs : s.size ≤ 4294967296) : Ev (fun k => tollhouseref10_octet.f k s) (octB s) := by
  have hz := size_toList s
  have he := octet_end s
  rw [octB_S]
  show Ev (fun k => tollhouseref10_octet.l0 k s ((0 : Nat) : Int) ((0 : Nat) : Int)) (octS s.data.toList)
  generalize hl : s.data.toList = l at hz he
  match l with
  | [] =>
    have h0 := he 0 hs
    have hs0 : s.size = 0 := hz.symm
    rw [hs0] at h0
    exact h0
  | a :: t =>
    have s0 := octet_step s 0 0 a (by rw [hl]; rfl) hs (by omega)
    cases ha : isDig a with
    | false =>
      have e : octS (a :: t) = false := by
        match t with
        | [] => exact ha
        | [b] => simp [octS, ha]
        | [b, c] => simp [octS, ha]
        | _ :: _ :: _ :: _ => rfl
      rw [e]; exact s0.1 ha
    | true =>
      refine s0.2.2 ha (by omega) _ ?_
      have da := (isDig_iff a).1 ha
      match t with
      | [] =>
        have h0 := he (10 * 0 + (a.toNat - 48)) hs
        have hs0 : s.size = 1 := hz.symm
        rw [hs0] at h0
        have e : octS [a] = (decide (0 < 1) && (decide (10 * 0 + (a.toNat - 48) ≤ 255) && (([a] : List UInt8).head? != some 48 || decide (1 = 1)))) := by
          rw [decide_eq_true (by omega : 10 * 0 + (a.toNat - 48) ≤ 255)]; simp [octS, ha]
        rw [e]; exact h0
      | b :: t =>
        have s1 := octet_step s 1 (10 * 0 + (a.toNat - 48)) b (by rw [hl]; rfl) hs (by omega)
        cases hb : isDig b with
        | false =>
          have e : octS (a :: b :: t) = false := by
            match t with
            | [] => simp [octS, hb]
            | [c] => simp [octS, hb]
            | _ :: _ :: _ => rfl
          rw [e]; exact s1.1 hb
        | true =>
          refine s1.2.2 hb (by omega) _ ?_
          have db := (isDig_iff b).1 hb
          match t with
          | [] =>
            have h0 := he (10 * (10 * 0 + (a.toNat - 48)) + (b.toNat - 48)) hs
            have hs0 : s.size = 2 := hz.symm
            rw [hs0] at h0
            have e : octS [a, b] = (decide (0 < 2) && (decide (10 * (10 * 0 + (a.toNat - 48)) + (b.toNat - 48) ≤ 255) && (([a, b] : List UInt8).head? != some 48 || decide (2 = 1)))) := by
              rw [decide_eq_true (by omega : 10 * (10 * 0 + (a.toNat - 48)) + (b.toNat - 48) ≤ 255)]; simp [octS, ha, hb, bne]
            rw [e]; exact h0
          | c :: t =>
            have s2 := octet_step s 2 (10 * (10 * 0 + (a.toNat - 48)) + (b.toNat - 48)) c (by rw [hl]; rfl) hs (by omega)
            cases hc : isDig c with
            | false =>
              have e : octS (a :: b :: c :: t) = false := by
                match t with
                | [] => simp [octS, hc]
                | _ :: _ => rfl
              rw [e]; exact s2.1 hc
            | true =>
              refine s2.2.2 hc (by omega) _ ?_
              have dc := (isDig_iff c).1 hc
              match t with
              | [] =>
                have h0 := he (10 * (10 * (10 * 0 + (a.toNat - 48)) + (b.toNat - 48)) + (c.toNat - 48)) hs
                have hs0 : s.size = 3 := hz.symm
                rw [hs0] at h0
                have e : octS [a, b, c] = (decide (0 < 3) && (decide (10 * (10 * (10 * 0 + (a.toNat - 48)) + (b.toNat - 48)) + (c.toNat - 48) ≤ 255) && (([a, b, c] : List UInt8).head? != some 48 || decide (3 = 1)))) := by
                  have e1 : 10 * (10 * (10 * 0 + (a.toNat - 48)) + (b.toNat - 48)) + (c.toNat - 48) = 100 * (a.toNat - 48) + 10 * (b.toNat - 48) + (c.toNat - 48) := by omega
                  rw [e1]
                  simp only [octS, ha, hb, hc]
                  cases h48 : (a != 48) <;> simp_all [bne]
                rw [e]; exact h0
              | d :: t =>
                have s3 := octet_step s 3 (10 * (10 * (10 * 0 + (a.toNat - 48)) + (b.toNat - 48)) + (c.toNat - 48)) d (by rw [hl]; rfl) hs (by omega)
                exact s3.2.1 (by omega)
/-! ### numbers -/
def isLowHex (c : UInt8) : Bool := isDig c || (97 ≤ c && c ≤ 102)
theorem lowHex_iff (c : UInt8) : isLowHex c = true ↔ ((48 ≤ c.toNat ∧ c.toNat ≤ 57) ∨ (97 ≤ c.toNat ∧ c.toNat ≤ 102)) := by
  have h : ∀ n : Fin 256, isLowHex (UInt8.ofNat n.val) = true ↔ ((48 ≤ (UInt8.ofNat n.val).toNat ∧ (UInt8.ofNat n.val).toNat ≤ 57) ∨ (97 ≤ (UInt8.ofNat n.val).toNat ∧ (UInt8.ofNat n.val).toNat ≤ 102)) := by decide +kernel
  have := h ⟨c.toNat, c.toNat_lt⟩
  simpa using this
theorem number_go (s : ByteArray) (hs : s.size ≤ 4294967296) (from2 : Bool) : ∀ (d i : Nat), s.size - i = d → i ≤ s.size →
    Ev (fun k => tollhouseref10_number.l0 k s (if from2 then 2 else 0) (i : Int)) ((s.data.toList.drop i).all fun c => if from2 then isLowHex c else isDig c)
  | 0, i, hd, hi => by
    obtain rfl : i = s.size := by omega
    rw [drop_end (Nat.le_refl _)]
    refine Ev.done fun k => ?_
    simp only [tollhouseref10_number.l0]
    rw [if_neg (by omega)]; rfl
  | d + 1, i, hd, hi => by
    have hlt : i < s.size := by omega
    have ih := number_go s hs from2 d (i + 1) (by omega) (by omega)
    rw [drop_at hlt, List.all_cons]
    have hb : bt s (i : Int) = ((s[i]'hlt).toNat : Int) := btAt hlt
    have h1 := isDig_iff (s[i]'hlt)
    have h2 := lowHex_iff (s[i]'hlt)
    generalize (s[i]'hlt) = c at hb h1 h2 ⊢
    generalize ((s.data.toList.drop (i + 1)).all fun c => if from2 = true then isLowHex c else isDig c) = r at ih ⊢
    cases from2 with
    | false =>
      simp only [Bool.false_eq_true, if_false] at ih ⊢
      cases hc : isDig c with
      | true =>
        obtain ⟨g1, g2⟩ := h1.1 hc
        refine Ev.step (fun k => ?_) ih
        simp only [tollhouseref10_number.l0]
        rw [if_pos (by omega), if_pos (by omega), hb, if_pos (by omega), if_pos (by omega), wrap_succ (by omega)]
      | false =>
        refine Ev.done fun k => ?_
        simp only [tollhouseref10_number.l0]
        rw [if_pos (by omega), if_pos (by omega), hb, if_pos trivial]
        rw [hc] at h1
        by_cases g1 : (c.toNat : Int) ≥ 48
        · rw [if_pos g1, if_neg (fun g2 => by have := h1.2 ⟨by omega, by omega⟩; cases this)]; rfl
        · rw [if_neg g1]; rfl
    | true =>
      simp only [if_true] at ih ⊢
      cases hc : isLowHex c with
      | true =>
        refine Ev.step (fun k => ?_) ih
        simp only [tollhouseref10_number.l0]
        rw [if_pos (by omega), if_pos (by omega), hb, wrap_succ (by omega)]
        rcases h2.1 hc with ⟨g1, g2⟩ | ⟨g1, g2⟩
        · rw [if_pos (by omega), if_pos (by omega)]
        · rw [if_pos (by omega), if_neg (by omega), if_neg (by decide), if_neg (by omega), if_neg (by omega)]
      | false =>
        refine Ev.done fun k => ?_
        simp only [tollhouseref10_number.l0]
        rw [if_pos (by omega), if_pos (by omega), hb]
        rw [hc] at h2
        have n1 : ¬ ((48 ≤ c.toNat ∧ c.toNat ≤ 57) ∨ (97 ≤ c.toNat ∧ c.toNat ≤ 102)) := fun e => by have := h2.2 e; cases this
        have e1 : (if (c.toNat : Int) < 97 then some false else if (c.toNat : Int) > 102 then some false else tollhouseref10_number.l0 k s 2 (wrap64 ((i : Int) + 1))) = some false := by
          by_cases g3 : (c.toNat : Int) < 97
          · rw [if_pos g3]
          · rw [if_neg g3, if_pos (by omega)]
        by_cases g1 : (c.toNat : Int) ≥ 48
        · rw [if_pos g1, if_neg (by omega), if_neg (by decide), e1]; rfl
        · rw [if_neg g1, if_neg (by decide), e1]; rfl
def numberS (l : List UInt8) : Bool := if Lib.hasPrefix l [48, 120] then (l.drop 2).all isLowHex else l.all isDig
theorem prefix_two (l : List UInt8) (a b : UInt8) (h : 2 ≤ l.length) : (l.take 2 == [a, b]) = Lib.hasPrefix l [a, b] := by
  match l, h with
  | x :: y :: t, _ =>
    show ([x, y] == [a, b]) = ((a == x) && ((b == y) && true))
    rw [Bool.eq_iff_iff]
    simp only [beq_iff_eq, List.cons.injEq, and_true, Bool.and_eq_true, Bool.and_true]
    constructor
    · rintro ⟨rfl, rfl⟩; exact ⟨rfl, rfl⟩
    · rintro ⟨rfl, rfl⟩; exact ⟨rfl, rfl⟩
theorem prefix_short (l : List UInt8) (a b : UInt8) (h : l.length < 2) : Lib.hasPrefix l [a, b] = false := by
  match l, h with
  | [], _ => rfl
  | [x], _ => simp [Lib.hasPrefix, List.isPrefixOf]
theorem number_ev (s : ByteArray) (hs : s.size ≤ 4294967296) : Ev (fun k => tollhouseref10_number.f k s) (numberS s.data.toList) := by
  have hz := size_toList s
  have hj : ∀ b : Bool, (b = true → 2 ≤ s.size) → Ev (fun k => tollhouseref10_number.j0 k s 0 b) (if b then (s.data.toList.drop 2).all isLowHex else s.data.toList.all isDig) := by
    intro b hb
    cases b with
    | false =>
      have := number_go s hs false (s.size - 0) 0 rfl (Nat.zero_le _)
      simp only [Bool.false_eq_true, if_false, List.drop_zero] at this ⊢
      refine Ev.step (g := fun k => tollhouseref10_number.j1 k s 0) (fun k => by simp only [tollhouseref10_number.j0]; rw [if_neg (by decide)]) (Ev.step (fun k => by simp only [tollhouseref10_number.j1]; rfl) this)
    | true =>
      have := number_go s hs true (s.size - 2) 2 rfl (hb rfl)
      simp only [if_true] at this ⊢
      refine Ev.step (g := fun k => tollhouseref10_number.j1 k s 2) (fun k => by simp only [tollhouseref10_number.j0]; rw [if_pos trivial]) (Ev.step (fun k => by simp only [tollhouseref10_number.j1]; rfl) this)
  by_cases h2 : 2 ≤ s.size
  · have e : ((s.extract 0 2).toList == ([48, 120] : List UInt8)) = Lib.hasPrefix s.data.toList [48, 120] := by
      rw [Lib.toList_data, Lib.extract_from_zero, prefix_two _ _ _ (by omega)]
    refine Ev.same (g := fun k => tollhouseref10_number.j0 k s 0 (Lib.hasPrefix s.data.toList [48, 120])) (fun k => ?_) ?_
    · unfold tollhouseref10_number.f
      rw [if_pos (by omega), if_pos (by omega), if_pos (by omega), e]
    · have := hj (Lib.hasPrefix s.data.toList [48, 120]) (fun _ => h2)
      exact this
  · refine Ev.same (g := fun k => tollhouseref10_number.j0 k s 0 false) (fun k => ?_) ?_
    · unfold tollhouseref10_number.f
      rw [if_neg (by omega)]
    · have := hj false (fun h => by cases h)
      unfold numberS
      rw [prefix_short _ _ _ (by omega)]
      exact this
/-- of a label's small signs -/
theorem hex_host (c : UInt8) (h : isHostC c = true) : isHexC c = isLowHex c := by
  have hh : ∀ n : Fin 256, isHostC (UInt8.ofNat n.val) = true → isHexC (UInt8.ofNat n.val) = isLowHex (UInt8.ofNat n.val) := by decide +kernel
  have := hh ⟨c.toNat, c.toNat_lt⟩
  simp only [UInt8.ofNat_toNat] at this
  exact this h
theorem numeric_S (s : ByteArray) (h : s.data.toList.all isHostC = true) : numericB s = numberS s.data.toList := by
  unfold numericB numberS
  cases hp : Lib.hasPrefix s.data.toList [48, 120] with
  | false => rfl
  | true =>
    have e : Lib.trimPrefix s.data.toList [48, 120] = s.data.toList.drop 2 := by unfold Lib.trimPrefix; rw [if_pos hp]; rfl
    rw [if_pos rfl, if_pos rfl, e]
    have hd : (s.data.toList.drop 2).all isHostC = true := List.all_eq_true.2 fun x hx => List.all_eq_true.1 h x (List.mem_of_mem_drop hx)
    generalize s.data.toList.drop 2 = l at hd
    induction l with
    | nil => rfl
    | cons c t ih =>
      simp only [List.all_cons, Bool.and_eq_true] at hd
      rw [List.all_cons, List.all_cons, hex_host c hd.1, ih hd.2]
/-! ### Named -/
theorem hostC_iff (c : UInt8) : isHostC c = true ↔ (c.toNat = 45 ∨ (97 ≤ c.toNat ∧ c.toNat ≤ 122) ∨ (48 ≤ c.toNat ∧ c.toNat ≤ 57)) := by
  have h : ∀ n : Fin 256, isHostC (UInt8.ofNat n.val) = true ↔ ((UInt8.ofNat n.val).toNat = 45 ∨ (97 ≤ (UInt8.ofNat n.val).toNat ∧ (UInt8.ofNat n.val).toNat ≤ 122) ∨ (48 ≤ (UInt8.ofNat n.val).toNat ∧ (UInt8.ofNat n.val).toNat ≤ 57)) := by decide +kernel
  have := h ⟨c.toNat, c.toNat_lt⟩
  simpa using this
theorem named_l1 (s : ByteArray) (ls : List ByteArray) (hls : ls.length ≤ 4294967297) (o : Bool) (i : Nat) (y : ByteArray) (hi : ls[i]? = some y) (hy : y.size ≤ 4294967296) (r : Bool)
    (hr : y.data.toList.all isHostC = true → Ev (fun k => tollhouseref10_Named.l1 k s ls o (i : Int) (y.size : Int)) r) : ∀ (d j : Nat), y.size - j = d → j ≤ y.size → (y.data.toList.take j).all isHostC = true →
    Ev (fun k => tollhouseref10_Named.l1 k s ls o (i : Int) (j : Int)) (if y.data.toList.all isHostC then r else false)
  | 0, j, hd, hj, hp => by
    obtain rfl : j = y.size := by omega
    rw [List.take_of_length_le (by rw [size_toList]; exact Nat.le_refl _)] at hp
    rw [if_pos hp]; exact hr hp
  | d + 1, j, hd, hj, hp => by
    have hlt : j < y.size := by omega
    have hil : i < ls.length := (List.getElem?_eq_some_iff.1 hi).1
    have hb : bt y (j : Int) = ((y[j]'hlt).toNat : Int) := btAt hlt
    have h1 := hostC_iff (y[j]'hlt)
    have htk : y.data.toList.take (j + 1) = y.data.toList.take j ++ [y[j]'hlt] := by
      rw [List.take_add_one, list_at hlt]; rfl
    have hsplit : y.data.toList.all isHostC = ((y.data.toList.take j).all isHostC && (isHostC (y[j]'hlt) && (y.data.toList.drop (j + 1)).all isHostC)) := by
      conv => lhs; rw [← List.take_append_drop j y.data.toList, List.all_append, drop_at hlt, List.all_cons]
    cases hc : isHostC (y[j]'hlt) with
    | true =>
      have ih := named_l1 s ls hls o i y hi hy r hr d (j + 1) (by omega) (by omega) (by rw [htk, List.all_append, hp]; simp [hc])
      refine Ev.step (fun k => ?_) ih
      simp only [tollhouseref10_Named.l1]
      rw [if_pos (by omega), if_pos (by omega), rd_list ls i y hi, if_pos (by omega), if_pos (by omega), hb, wrap_succ (by omega)]
      generalize (y[j]'hlt) = c at h1 hc
      rcases h1.1 hc with g | ⟨g1, g2⟩ | ⟨g1, g2⟩
      · rw [if_pos (by omega)]
      · rw [if_neg (by omega), if_neg (by omega), if_neg (by omega)]
      · rw [if_neg (by omega), if_pos (by omega), if_neg (by omega), if_neg (by omega)]
    | false =>
      have hf : y.data.toList.all isHostC = false := by rw [hsplit, hc]; simp
      rw [hf, if_neg (by decide)]
      refine Ev.done fun k => ?_
      simp only [tollhouseref10_Named.l1]
      rw [if_pos (by omega), if_pos (by omega), rd_list ls i y hi, if_pos (by omega), if_pos (by omega), hb]
      generalize (y[j]'hlt) = c at h1 hc
      rw [hc] at h1
      have n1 : ¬ (c.toNat = 45 ∨ (97 ≤ c.toNat ∧ c.toNat ≤ 122) ∨ (48 ≤ c.toNat ∧ c.toNat ≤ 57)) := fun e => by have := h1.2 e; cases this
      rw [if_neg (by omega)]
      by_cases g1 : (c.toNat : Int) < 97
      · rw [if_pos g1]
        by_cases g2 : (c.toNat : Int) < 48
        · rw [if_pos g2]
        · rw [if_neg g2, if_pos (by omega)]
      · rw [if_neg g1, if_pos (by omega), if_neg (by omega), if_pos (by omega)]
def namedRest (s : ByteArray) (ls : List ByteArray) (o : Bool) (t : List ByteArray) : Bool := t.all labelB && (decide (s.size ≤ 64) && (!numberS (ls.getD (ls.length - 1) ByteArray.empty).data.toList || (decide (ls.length = 4) && (o && t.all octB))))
theorem named_l0 (s : ByteArray) (hs : s.size ≤ 4294967296) (ls : List ByteArray) (hpos : 0 < ls.length) (hls : ls.length ≤ 4294967297) (hsz : ∀ y ∈ ls, y.size ≤ 4294967296) : ∀ (t : List ByteArray) (i : Nat) (o : Bool), ls.drop i = t → i ≤ ls.length →
    Ev (fun k => tollhouseref10_Named.l0 k s ls o (i : Int)) (namedRest s ls o t)
  | [], i, o, ht, hi => by
    have hi2 : i = ls.length := by
      have := congrArg List.length ht
      simp at this; omega
    subst hi2
    have hlast : ls[ls.length - 1]? = some (ls.getD (ls.length - 1) ByteArray.empty) := by
      rw [List.getD_eq_getElem?_getD, List.getElem?_eq_getElem (by omega)]; rfl
    have hmem : ls.getD (ls.length - 1) ByteArray.empty ∈ ls := List.mem_of_getElem? hlast
    have hw : wrap64 ((ls.length : Int) - 1) = ((ls.length - 1 : Nat) : Int) := by unfold wrap64; omega
    have hn := number_ev _ (hsz _ hmem)
    unfold namedRest
    generalize ls.getD (ls.length - 1) ByteArray.empty = y at hlast hn ⊢
    refine Ev.step (g := fun k => (tollhouseref10_number.f k y).bind fun b => if b = true then (if (ls.length : Int) = 4 then (if o = true then some (decide ((s.size : Int) ≤ 64)) else some false) else some false) else some (decide ((s.size : Int) ≤ 64))) (fun k => ?_) (Ev.bind hn (Ev.const fun k => ?_))
    · simp only [tollhouseref10_Named.l0]
      rw [if_neg (by omega), hw, if_pos (by omega), if_pos (by omega), rd_list ls _ y hlast]
    · have e64 : decide ((s.size : Int) ≤ 64) = decide (s.size ≤ 64) := by
        by_cases h : s.size ≤ 64
        · rw [decide_eq_true h, decide_eq_true (by omega)]
        · rw [decide_eq_false h, decide_eq_false (by omega)]
      rw [e64]
      have e4 : ((ls.length : Int) = 4) ↔ ls.length = 4 := by omega
      cases numberS y.data.toList <;> cases o <;> by_cases h4 : ls.length = 4 <;> simp [h4, e4]
  | y :: t, i, o, ht, hi => by
    have hil : i < ls.length := by
      have := congrArg List.length ht
      simp at this; omega
    have hiy : ls[i]? = some y := by
      have : (ls.drop i)[0]? = some y := by rw [ht]; rfl
      rw [List.getElem?_drop] at this
      simpa using this
    have hmem : y ∈ ls := List.mem_of_getElem? hiy
    have hy := hsz y hmem
    have ht2 : ls.drop (i + 1) = t := by
      rw [← List.drop_drop, ht]; rfl
    have ih := fun o2 => named_l0 s hs ls hpos hls hsz t (i + 1) o2 ht2 (by omega)
    have hlab : labelB y = (!y.data.toList.isEmpty && y.data.toList.all isHostC) := rfl
    have he : y.toList = y.data.toList := Lib.toList_data y
    have hfin : y.data.toList.all isHostC = true → Ev (fun k => tollhouseref10_Named.l1 k s ls o (i : Int) (y.size : Int)) (if y.data.toList.isEmpty then false else namedRest s ls (o && octB y) t) := by
      intro _
      cases hem : y.data.toList.isEmpty with
      | true =>
        rw [if_pos rfl]
        refine Ev.done fun k => ?_
        simp only [tollhouseref10_Named.l1]
        rw [if_pos (by omega), if_pos (by omega), rd_list ls i y hiy, if_neg (by omega), he, if_pos (by simpa using hem)]
      | false =>
        rw [if_neg (by decide)]
        cases o with
        | true =>
          refine Ev.step (g := fun k => (tollhouseref10_octet.f k y).bind fun b => tollhouseref10_Named.l0 k s ls b ((i + 1 : Nat) : Int)) (fun k => ?_) (Ev.bind (octet_ev y hy) ?_)
          · simp only [tollhouseref10_Named.l1]
            rw [if_pos (by omega), if_pos (by omega), rd_list ls i y hiy, if_neg (by omega), he, if_neg (by simpa using hem), if_pos trivial, wrap_succ (by omega)]
          · rw [Bool.true_and]; exact ih (octB y)
        | false =>
          refine Ev.step (fun k => ?_) (ih false)
          simp only [tollhouseref10_Named.l1]
          rw [if_pos (by omega), if_pos (by omega), rd_list ls i y hiy, if_neg (by omega), he, if_neg (by simpa using hem), if_neg (by decide), wrap_succ (by omega)]
    have h1 := named_l1 s ls hls o i y hiy hy _ hfin (y.size - 0) 0 rfl (Nat.zero_le _) rfl
    have hres : namedRest s ls o (y :: t) = (if y.data.toList.all isHostC = true then (if y.data.toList.isEmpty = true then false else namedRest s ls (o && octB y) t) else false) := by
      unfold namedRest
      rw [List.all_cons, List.all_cons, hlab]
      cases y.data.toList.all isHostC <;> cases y.data.toList.isEmpty <;> cases octB y <;> cases o <;> simp
    rw [hres]
    refine Ev.step (fun k => ?_) h1
    simp only [tollhouseref10_Named.l0]
    rw [if_pos (by omega)]
    rfl
theorem rnamed_ev (s : ByteArray) (hs : s.size ≤ 4294967296) : Ev (fun k => tollhouseref10_Named.f k s) (namedB s) := by
  have hl := labels_ev s hs
  have hpos : 0 < (labelsB s).length := by rw [labels_len]; omega
  have hle := labels_le s
  have hsz : ∀ y ∈ labelsB s, y.size ≤ 4294967296 := fun y hy => by have := splitB_size _ _ _ y hy; omega
  have h0 := named_l0 s hs (labelsB s) hpos (by omega) hsz (labelsB s) 0 true rfl (Nat.zero_le _)
  refine Ev.same (fun k => by unfold tollhouseref10_Named.f; rfl) (Ev.bind hl ?_)
  have e : namedB s = namedRest s (labelsB s) true (labelsB s) := by
    unfold namedB namedRest quadB
    cases ha : (labelsB s).all labelB with
    | false => rfl
    | true =>
      have hlast : (labelsB s).getD ((labelsB s).length - 1) ByteArray.empty ∈ labelsB s := by
        rw [List.getD_eq_getElem?_getD, List.getElem?_eq_getElem (by omega)]
        exact List.getElem_mem _
      have hh := List.all_eq_true.1 ha _ hlast
      unfold labelB at hh
      rw [Bool.and_eq_true] at hh
      rw [numeric_S _ hh.2]
      simp
  rw [e]; exact h0
end Go.Proofs.YthmnhbalmglohaaGreatDoor.X

/- What tollhouseref14's May and All tell is what acl's tell. -/
namespace Go.Proofs.YthmnhbalmglohaaGreatDoor.X
open Go.RowKit Go.Proofs.YthmnhbalmglohaaGreatDoorW.PrintWords Go.Proofs.YthmnhbalmglohaaGreatDoorW.PrintMore Go.Proofs.YthmnhbalmglohaaGreatDoor.T
set_option linter.unusedSimpArgs false
set_option linter.unusedVariables false
/-! ### May -/
theorem rtoken_f (y : ByteArray) (h : y.size ≤ 4294967296) : tollhouseref02_Token.f y = some (tokenB y) := by
  unfold tollhouseref02_Token.f
  rw [if_pos (by omega)]
theorem rmay_l0 (a : Bool) (h : ByteArray) (lo hi : Int) (ms : List ByteArray) (hl : ms.length ≤ 4294967296) (hm : ∀ y ∈ ms, y.size ≤ 4294967296) : ∀ (t : List ByteArray) (i : Nat), ms.drop i = t → i ≤ ms.length →
    Ev (fun k => tollhouseref14_May.l0 k (i : Int) a h lo hi ms) (t.all tokenB)
  | [], i, ht, hle => by
    have := congrArg List.length ht
    simp at this
    refine Ev.done fun k => ?_
    simp only [tollhouseref14_May.l0]
    rw [if_neg (by omega)]; rfl
  | y :: t, i, ht, hle => by
    have hil : i < ms.length := by
      have := congrArg List.length ht
      simp at this; omega
    have hiy : ms[i]? = some y := by
      have : (ms.drop i)[0]? = some y := by rw [ht]; rfl
      rw [List.getElem?_drop] at this
      simpa using this
    have ht2 : ms.drop (i + 1) = t := by rw [← List.drop_drop, ht]; rfl
    have ih := rmay_l0 a h lo hi ms hl hm t (i + 1) ht2 (by omega)
    rw [List.all_cons]
    have hy := rtoken_f y (hm y (List.mem_of_getElem? hiy))
    cases ht : tokenB y with
    | true =>
      rw [ht] at hy
      refine Ev.step (fun k => ?_) ih
      simp only [tollhouseref14_May.l0]
      rw [if_pos (by omega), if_pos (by omega), rd_list ms i y hiy, hy]
      simp only [Option.bind_some]
      rw [if_pos trivial, wrap_succ (by omega)]
    | false =>
      rw [ht] at hy
      refine Ev.done fun k => ?_
      simp only [tollhouseref14_May.l0]
      rw [if_pos (by omega), if_pos (by omega), rd_list ms i y hiy, hy]
      simp
theorem rmay_j3 (a : Bool) (h : ByteArray) (lo hi : Int) (ms : List ByteArray) (hl : ms.length ≤ 4294967296) (hm : ∀ y ∈ ms, y.size ≤ 4294967296) (b : Bool) : Ev (fun k => tollhouseref14_May.j3 k b a h lo hi ms) (!b && ms.all tokenB) := by
  cases b with
  | true => exact Ev.done fun k => by simp only [tollhouseref14_May.j3]; rw [if_pos trivial]; rfl
  | false => exact Ev.step (fun k => by simp only [tollhouseref14_May.j3]; rw [if_neg (by decide)]; rfl) (rmay_l0 a h lo hi ms hl hm ms 0 rfl (Nat.zero_le _))
theorem rmay_j2 (a : Bool) (h : ByteArray) (lo hi : Int) (ms : List ByteArray) (hl : ms.length ≤ 4294967296) (hm : ∀ y ∈ ms, y.size ≤ 4294967296) (b : Bool) :
    Ev (fun k => tollhouseref14_May.j2 k (!b) a h lo hi ms) (b && (decide (1 ≤ lo) && decide (lo ≤ hi) && decide (hi ≤ 65535)) && decide (ms.length ≤ 8) && ms.all tokenB) := by
  cases b with
  | false => exact Ev.done fun k => by simp only [tollhouseref14_May.j2]; rw [if_pos (by decide)]; rfl
  | true =>
    have hT := rmay_j3 a h lo hi ms hl hm true
    have hD := rmay_j3 a h lo hi ms hl hm (decide ((ms.length : Int) > 8))
    by_cases h1 : lo < 1
    · rw [decide_eq_false (by omega : ¬ 1 ≤ lo)]
      exact Ev.step (fun k => by simp only [tollhouseref14_May.j2]; rw [if_neg (by decide), if_pos h1]) hT
    · by_cases h2 : hi > 65535
      · rw [decide_eq_false (by omega : ¬ hi ≤ 65535), Bool.and_false]
        exact Ev.step (fun k => by simp only [tollhouseref14_May.j2]; rw [if_neg (by decide), if_neg h1, if_pos h2]) hT
      · by_cases h3 : lo > hi
        · rw [decide_eq_false (by omega : ¬ lo ≤ hi), Bool.and_false]
          exact Ev.step (fun k => by simp only [tollhouseref14_May.j2]; rw [if_neg (by decide), if_neg h1, if_neg h2, if_pos h3]) hT
        · rw [decide_eq_true (by omega : 1 ≤ lo), decide_eq_true (by omega : lo ≤ hi), decide_eq_true (by omega : hi ≤ 65535)]
          have e : (!decide ((ms.length : Int) > 8)) = decide (ms.length ≤ 8) := by
            by_cases h4 : ms.length ≤ 8
            · rw [decide_eq_true h4, decide_eq_false (by omega)]; rfl
            · rw [decide_eq_false h4, decide_eq_true (by omega)]; rfl
          rw [e] at hD
          simp only [Bool.true_and]
          exact Ev.step (fun k => by simp only [tollhouseref14_May.j2]; rw [if_neg (by decide), if_neg h1, if_neg h2, if_neg h3]) hD
theorem named_none : namedB ⟨#[]⟩ = false := by decide +kernel
theorem named_dot : namedB ⟨#[46]⟩ = false := by decide +kernel
theorem trim_is (h : ByteArray) (hd : Lib.hasPrefix h.data.toList [46] = true) : (⟨(Lib.trimPrefix h.data.toList [46]).toArray⟩ : ByteArray) = h.extract 1 h.size := by
  have e : Lib.trimPrefix h.data.toList [46] = h.data.toList.drop 1 := by unfold Lib.trimPrefix; rw [if_pos hd]; rfl
  rw [e]
  exact (bytes_eq _ _ (Lib.extract_to_end h 1)).symm
theorem trim_not (h : ByteArray) (hd : Lib.hasPrefix h.data.toList [46] = false) : (⟨(Lib.trimPrefix h.data.toList [46]).toArray⟩ : ByteArray) = h := by
  have e : Lib.trimPrefix h.data.toList [46] = h.data.toList := by unfold Lib.trimPrefix; rw [if_neg (by rw [hd]; decide)]
  rw [e]
theorem rmay_ev (a : Bool) (h : ByteArray) (lo hi : Int) (ms : List ByteArray) (hh : h.size ≤ 4294967296) (hl : ms.length ≤ 4294967296) (hm : ∀ y ∈ ms, y.size ≤ 4294967296) : Ev (fun k => tollhouseref14_May.f k a h lo hi ms) (mayB a h lo hi ms) := by
  have j1 : ∀ x : ByteArray, x.size ≤ 4294967296 → (h.data.toList ≠ [42] → namedB x = namedB ⟨(Lib.trimPrefix h.data.toList [46]).toArray⟩) → Ev (fun k => tollhouseref14_May.j1 k x a h lo hi ms) (mayB a h lo hi ms) := by
    intro x hx hn
    have hT := rmay_j2 a h lo hi ms hl hm true
    have hN := rmay_j2 a h lo hi ms hl hm (namedB x)
    unfold mayB hostMay
    by_cases h42 : h.data.toList = [42]
    · have e : (h.data.toList == [42]) = true := by simpa using h42
      rw [e, Bool.true_or]
      exact Ev.step (fun k => by simp only [tollhouseref14_May.j1]; rw [toList_eq, if_pos h42]; rfl) hT
    · have e : (h.data.toList == [42]) = false := by simpa using h42
      rw [e, Bool.false_or, ← hn h42]
      refine Ev.step (g := fun k => (tollhouseref10_Named.f k x).bind fun b => tollhouseref14_May.j2 k (!b) a h lo hi ms) (fun k => ?_) (Ev.bind (rnamed_ev x hx) hN)
      simp only [tollhouseref14_May.j1]
      rw [toList_eq, if_neg h42]
  have hd := dot_prefix h
  by_cases h1 : (h.size : Int) > 1
  · rw [decide_eq_true (by omega : 0 < h.size), Bool.true_and] at hd
    refine Ev.same (g := fun k => tollhouseref14_May.j0 k h (Lib.hasPrefix h.data.toList [46]) a h lo hi ms) (fun k => ?_) ?_
    · unfold tollhouseref14_May.f
      rw [if_pos h1, if_pos (by omega), hd]
    · cases hp : Lib.hasPrefix h.data.toList [46] with
      | true =>
        refine Ev.step (fun k => by simp only [tollhouseref14_May.j0]; rw [if_pos trivial, if_pos (by omega)]) (j1 (h.extract 1 h.size) (by rw [ByteArray.size_extract]; omega) (fun _ => ?_))
        rw [trim_is h hp]
      | false =>
        refine Ev.step (fun k => by simp only [tollhouseref14_May.j0]; rw [if_neg (by decide)]) (j1 h hh (fun _ => ?_))
        rw [trim_not h hp]
  · refine Ev.same (g := fun k => tollhouseref14_May.j0 k h false a h lo hi ms) (fun k => ?_) ?_
    · unfold tollhouseref14_May.f
      rw [if_neg h1]
    · refine Ev.step (fun k => by simp only [tollhouseref14_May.j0]; rw [if_neg (by decide)]) (j1 h hh (fun _ => ?_))
      cases hp : Lib.hasPrefix h.data.toList [46] with
      | false => rw [trim_not h hp]
      | true =>
        have hz := size_toList h
        have e : h = ⟨#[46]⟩ := by
          refine bytes_eq h [46] ?_
          match hl : h.data.toList, hp, hz with
          | [], hp, _ => cases hp
          | [c], hp, _ =>
            have : (46 : UInt8) = c := by simpa [Lib.hasPrefix, List.isPrefixOf] using hp
            rw [this]
          | _ :: _ :: _, _, hz => simp at hz; omega
        rw [e]
        have e2 : (⟨(Lib.trimPrefix (⟨#[46]⟩ : ByteArray).data.toList [46]).toArray⟩ : ByteArray) = ⟨#[]⟩ := rfl
        rw [e2, named_none, named_dot]
/-! ### All -/
def sizedR (x : S46) : Prop := x.f1.size ≤ 4294960000 ∧ x.f4.length ≤ 4294960000 ∧ ∀ y ∈ x.f4, y.size ≤ 4294960000
theorem rd_rule (l : List S46) (i : Nat) (x : S46) (h : l[i]? = some x) : rd_T46 l (i : Int) = x := by
  unfold rd_T46
  rw [Int.toNat_natCast, List.getD_eq_getElem?_getD, h]; rfl
theorem rall_go (l : List S46) (hl : l.length ≤ 4294960000) (hx : ∀ x ∈ l, sizedR x) : ∀ (t : List S46) (i : Nat), l.drop i = t → i ≤ l.length →
    Ev (fun k => tollhouseref14_All.l0 k l (i : Int)) (decide (l.length ≤ 16) && t.all mayR)
  | [], i, ht, hi => by
    have := congrArg List.length ht
    simp at this
    refine Ev.done fun k => ?_
    simp only [tollhouseref14_All.l0]
    rw [if_neg (by omega)]
    have e : decide ((l.length : Int) ≤ 16) = decide (l.length ≤ 16) := by
      by_cases h : l.length ≤ 16
      · rw [decide_eq_true h, decide_eq_true (by omega)]
      · rw [decide_eq_false h, decide_eq_false (by omega)]
    rw [e]; simp
  | x :: t, i, ht, hi => by
    have hil : i < l.length := by
      have := congrArg List.length ht
      simp at this; omega
    have hix : l[i]? = some x := by
      have : (l.drop i)[0]? = some x := by rw [ht]; rfl
      rw [List.getElem?_drop] at this
      simpa using this
    have ht2 : l.drop (i + 1) = t := by rw [← List.drop_drop, ht]; rfl
    have ih := rall_go l hl hx t (i + 1) ht2 (by omega)
    obtain ⟨z1, z2, z3⟩ := hx x (List.mem_of_getElem? hix)
    have hm := rmay_ev x.f0 x.f1 x.f2 x.f3 x.f4 (by omega) (by omega) (fun y hy => by have := z3 y hy; omega)
    have er : mayB x.f0 x.f1 x.f2 x.f3 x.f4 = mayR x := rfl
    rw [er] at hm
    rw [List.all_cons]
    refine Ev.step (g := fun k => (tollhouseref14_May.f k x.f0 x.f1 x.f2 x.f3 x.f4).bind fun b => if b = true then tollhouseref14_All.l0 k l ((i + 1 : Nat) : Int) else some false) (fun k => ?_) (Ev.bind hm ?_)
    · simp only [tollhouseref14_All.l0]
      rw [if_pos (by omega), if_pos (by omega), rd_rule l i x hix, wrap_succ (by omega)]
    · cases mayR x with
      | true => exact Ev.same (fun k => if_pos rfl) (by simpa using ih)
      | false => exact Ev.const fun k => by rw [if_neg (by decide)]; simp
theorem rall_ev (l : List S46) (hl : l.length ≤ 4294960000) (hx : ∀ x ∈ l, sizedR x) : Ev (fun k => tollhouseref14_All.f k l) (allB l) := rall_go l hl hx l 0 rfl (Nat.zero_le _)
end Go.Proofs.YthmnhbalmglohaaGreatDoor.X
