/- A part of the proof of the law AuthConfigs: contracts of functions that it reaches, and plain lemmas. -/
import Derived.Test.YthmnhbalmglohaaGreatDoorMAuthConfigs1
import Derived.Test.YthmnhbalmglohaaGreatDoorMAuthConfigs3
import Derived.Lib.ItoaMem
import Derived.BigCall
import Derived.BigGuard
import Derived.WideLaws
-- PRINTED by print.py (a twelfth state) out of the translation. Not trusted: Lean checks it.
namespace Go.Proofs.YthmnhbalmglohaaGreatDoor.X
open Go.RowKit Go.Proofs.YthmnhbalmglohaaGreatDoorW.PrintWords Go.Proofs.YthmnhbalmglohaaGreatDoorW.PrintLast Go.Proofs.YthmnhbalmglohaaGreatDoorW.PrintMore
attribute [local go_sem] max2_int min2_int max_two min_two max_three min_three max_four min_four   -- for this text's walks alone
set_option linter.unusedVariables false
set_option linter.unusedSimpArgs false
open Go.Proofs.YthmnhbalmglohaaGreatDoor.T

/-! ### tollhouseref15_Config: function 10 -/
mutual
def tollhouseref15_Config.l0 : Nat → Int → List (S27) → Int → Int → Option (Bool)
  | 0, _, _, _, _ => none
  | k + 1, x3, x127000, x127001, x127002 => if x3 < (x127000.length : Int) then (if 0 ≤ x3 then ((tollhouseref15_Tenant.f k ((rd_T27 x127000 x3).f0) ((rd_T27 x127000 x3).f1) ((rd_T27 x127000 x3).f2) ((rd_T27 x127000 x3).f3) ((rd_T27 x127000 x3).f4) ((rd_T27 x127000 x3).f5) ((rd_T27 x127000 x3).f6) ((rd_T27 x127000 x3).f7) ((rd_T27 x127000 x3).f8)).bind fun t128 => (if t128 = true then (tollhouseref15_Config.l1 k x3 0 x127000 x127001 x127002) else (some false))) else (none)) else (if (x127000.length : Int) < 1 then (some false) else (if (x127000.length : Int) > 8 then (some false) else (if x127001 < 0 then (some false) else (if x127001 > 16 then (some false) else (if x127002 ≥ 1 then (some (decide (x127002 ≤ 1099511627776))) else (some false))))))
def tollhouseref15_Config.l1 : Nat → Int → Int → List (S27) → Int → Int → Option (Bool)
  | 0, _, _, _, _, _ => none
  | k + 1, x3, x4, x127000, x127001, x127002 => if x4 < x3 then (if 0 ≤ x4 then (if x4 < (x127000.length : Int) then (if 0 ≤ x3 then (if x3 < (x127000.length : Int) then (if ((rd_T27 x127000 x4).f0).toList = ((rd_T27 x127000 x3).f0).toList then (some false) else (tollhouseref15_Config.l1 k x3 (wrap64 (x4 + 1)) x127000 x127001 x127002)) else (none)) else (none)) else (none)) else (none)) else (tollhouseref15_Config.l0 k (wrap64 (x3 + 1)) x127000 x127001 x127002)
end
def tollhouseref15_Config.f (k : Nat) (l0_0 : List (S27)) (a0_1 : Int) (a0_2 : Int) : Option (Bool) := tollhouseref15_Config.l0 k 0 l0_0 a0_1 a0_2
theorem tollhouseref15_Config.mono_l : ∀ k, (∀ y0 y1 y2 y3, LeO (tollhouseref15_Config.l0 k y0 y1 y2 y3) (tollhouseref15_Config.l0 (k + 1) y0 y1 y2 y3)) ∧ (∀ y0 y1 y2 y3 y4, LeO (tollhouseref15_Config.l1 k y0 y1 y2 y3 y4) (tollhouseref15_Config.l1 (k + 1) y0 y1 y2 y3 y4))
  | 0 => ⟨fun _ _ _ _ r h => by simp [tollhouseref15_Config.l0] at h, fun _ _ _ _ _ r h => by simp [tollhouseref15_Config.l1] at h⟩
  | k + 1 => by
    obtain ⟨ih0, ih1⟩ := tollhouseref15_Config.mono_l k
    refine ⟨?_, ?_⟩
    · intro y0 y1 y2 y3
      unfold tollhouseref15_Config.l0
      repeat' first
      | (with_reducible exact ih0 _ _ _ _)
      | (with_reducible exact ih1 _ _ _ _ _)
      | (with_reducible exact tollhouseref15_Tenant.mono _ _ _ _ _ _ _ _ _ _)
      | (with_reducible exact LeO.refl _)
      | (with_reducible exact LeO.none _)
      | (with_reducible refine LeO.ite ?_ ?_)
      | (with_reducible refine LeO.bind ?_ (fun _ => ?_))
      | exact ih0 _ _ _ _
      | exact ih1 _ _ _ _ _
      | exact tollhouseref15_Tenant.mono _ _ _ _ _ _ _ _ _ _
      | exact LeO.none _
      | refine LeO.ite ?_ ?_
      | refine LeO.bind ?_ (fun _ => ?_)
    · intro y0 y1 y2 y3 y4
      unfold tollhouseref15_Config.l1
      repeat' first
      | (with_reducible exact ih0 _ _ _ _)
      | (with_reducible exact ih1 _ _ _ _ _)
      | (with_reducible exact tollhouseref15_Tenant.mono _ _ _ _ _ _ _ _ _ _)
      | (with_reducible exact LeO.refl _)
      | (with_reducible exact LeO.none _)
      | (with_reducible refine LeO.ite ?_ ?_)
      | (with_reducible refine LeO.bind ?_ (fun _ => ?_))
      | exact ih0 _ _ _ _
      | exact ih1 _ _ _ _ _
      | exact tollhouseref15_Tenant.mono _ _ _ _ _ _ _ _ _ _
      | exact LeO.none _
      | refine LeO.ite ?_ ?_
      | refine LeO.bind ?_ (fun _ => ?_)
theorem tollhouseref15_Config.mono : ∀ a0 a1 a2 k, LeO (tollhouseref15_Config.f k a0 a1 a2) (tollhouseref15_Config.f (k + 1) a0 a1 a2) := by
  intro a0 a1 a2 k
  obtain ⟨ih0, ih1⟩ := tollhouseref15_Config.mono_l k
  unfold tollhouseref15_Config.f
  repeat' first
      | (with_reducible exact ih0 _ _ _ _)
      | (with_reducible exact ih1 _ _ _ _ _)
      | (with_reducible exact tollhouseref15_Tenant.mono _ _ _ _ _ _ _ _ _ _)
      | (with_reducible exact LeO.refl _)
      | (with_reducible exact LeO.none _)
      | (with_reducible refine LeO.ite ?_ ?_)
      | (with_reducible refine LeO.bind ?_ (fun _ => ?_))
      | exact ih0 _ _ _ _
      | exact ih1 _ _ _ _ _
      | exact tollhouseref15_Tenant.mono _ _ _ _ _ _ _ _ _ _
      | exact LeO.none _
      | refine LeO.ite ?_ ?_
      | refine LeO.bind ?_ (fun _ => ?_)
set_option maxHeartbeats 8000000 in
set_option maxRecDepth 100000 in
theorem tollhouseref15_Config.calls (k : Nat) (A0_0 : Option Addr) (c0_0 : Nat) (l0_0 : List (S27)) (a0_1 : Int) (a0_2 : Int) (r : Bool) (w : World) (hr0_0 : Kd.C k27 w A0_0 l0_0.length l0_0) (hc0_0 : l0_0.length ≤ c0_0) (HGg : Glob w) (h : tollhouseref15_Config.f k l0_0 a0_1 a0_2 = some r) :
    Calls Tryz.prog 10 #[.agg #[.slice A0_0 l0_0.length c0_0, .int .i64 a0_1, .int .i64 a0_2]] w fun e w' => e = .returned (.bool r) ∧ Below w.heap.size w w' := by
  have hu24 := Tryz.underlying24
  have hu27 := Tryz.underlying27
  have HGl := Aside0.mk HGg
  clear HGg
  have HR0_0 := Aside0.mk hr0_0
  have HC0_0 := Aside0.mk hc0_0
  clear hr0_0 hc0_0
  have HB := Aside0.mk (Below.refl w.heap.size w)
  have H : (tollhouseref15_Config.l0 k 0 l0_0 a0_1 a0_2) = some r := h
  clear h
  have H' := Aside0.mk H
  clear H
  go_enter Tryz.func10, Tryz.ntmps10
  go_wp2_with (first | ((with_reducible refine gate_dst (N := 1) rfl ?_); (try (refine gate_guard (by rfl) ?_; dsimp only)); refine box_event ?hg (N := 1) ?hd (cs := #[.slice A0_0 l0_0.length c0_0, .int .i64 a0_1, .int .i64 a0_2]) (t := 24) ?hr ?_; (case hd => rfl); (case hg => rfl); (case hr => first | (go_simp; done) | (go_simp; rfl)); intro gb126 hg w2 hbox hb; have n0_ := Aside0.mk (below_step (by repeat (first | (with_reducible first | exact HB.out | apply below_alloc | apply pw_below_drewN | apply below_drew1) | exact HB.out)) hb); have n1_ := Aside0.mk (hbox); have n2_ := Aside0.mk ((by rw [hg]; exact (below_size (by repeat (first | (with_reducible first | exact HB.out | apply below_alloc | apply pw_below_drewN | apply below_drew1) | exact HB.out))) : w.heap.size ≤ gb126)); have n3_ := Aside0.mk ((by rw [hg]; exact (below_size (by repeat (first | (with_reducible first | exact HB.out | apply below_alloc | apply pw_below_drewN | apply below_drew1) | exact HB.out))) : w.heap.size ≤ gb126)); clear HB; have HB := n0_; have BK126 := n1_; have GW126 := n2_; have GE126 := n3_; clear n0_ n1_ n2_ n3_; clear hb hbox hg))
  repeat (go_quiet (first | ((with_reducible refine gate_dst (N := 1) rfl ?_); (try (refine gate_guard (by rfl) ?_; dsimp only)); refine box_event ?hg (N := 1) ?hd (cs := #[.slice A0_0 l0_0.length c0_0, .int .i64 a0_1, .int .i64 a0_2]) (t := 24) ?hr ?_; (case hd => rfl); (case hg => rfl); (case hr => first | (go_simp; done) | (go_simp; rfl)); intro gb126 hg w2 hbox hb; have n0_ := Aside0.mk (below_step (by repeat (first | (with_reducible first | exact HB.out | apply below_alloc | apply pw_below_drewN | apply below_drew1) | exact HB.out)) hb); have n1_ := Aside0.mk (hbox); have n2_ := Aside0.mk ((by rw [hg]; exact (below_size (by repeat (first | (with_reducible first | exact HB.out | apply below_alloc | apply pw_below_drewN | apply below_drew1) | exact HB.out))) : w.heap.size ≤ gb126)); have n3_ := Aside0.mk ((by rw [hg]; exact (below_size (by repeat (first | (with_reducible first | exact HB.out | apply below_alloc | apply pw_below_drewN | apply below_drew1) | exact HB.out))) : w.heap.size ≤ gb126)); clear HB; have HB := n0_; have BK126 := n1_; have GW126 := n2_; have GE126 := n3_; clear n0_ n1_ n2_ n3_; clear hb hbox hg)); try go_wp2_with (first | ((with_reducible refine gate_dst (N := 1) rfl ?_); (try (refine gate_guard (by rfl) ?_; dsimp only)); refine box_event ?hg (N := 1) ?hd (cs := #[.slice A0_0 l0_0.length c0_0, .int .i64 a0_1, .int .i64 a0_2]) (t := 24) ?hr ?_; (case hd => rfl); (case hg => rfl); (case hr => first | (go_simp; done) | (go_simp; rfl)); intro gb126 hg w2 hbox hb; have n0_ := Aside0.mk (below_step (by repeat (first | (with_reducible first | exact HB.out | apply below_alloc | apply pw_below_drewN | apply below_drew1) | exact HB.out)) hb); have n1_ := Aside0.mk (hbox); have n2_ := Aside0.mk ((by rw [hg]; exact (below_size (by repeat (first | (with_reducible first | exact HB.out | apply below_alloc | apply pw_below_drewN | apply below_drew1) | exact HB.out))) : w.heap.size ≤ gb126)); have n3_ := Aside0.mk ((by rw [hg]; exact (below_size (by repeat (first | (with_reducible first | exact HB.out | apply below_alloc | apply pw_below_drewN | apply below_drew1) | exact HB.out))) : w.heap.size ≤ gb126)); clear HB; have HB := n0_; have BK126 := n1_; have GW126 := n2_; have GE126 := n3_; clear n0_ n1_ n2_ n3_; clear hb hbox hg)))
  go_loopg [3] k (fun kq v3 w' => ∃ (x3_1 : Int), v3 = .int .i64 x3_1 ∧ Aside0 (tollhouseref15_Config.l0 kq x3_1 l0_0 a0_1 a0_2 = some r) ∧ Aside0 (kq ≤ k) ∧ Aside0 (w'.heap[gb126]? = some (.cells #[(.slice A0_0 l0_0.length c0_0), .int .i64 a0_1, .int .i64 a0_2] 24 (0, 0))) ∧ Aside0 (Below w.heap.size w w'))
  case atStart => exact ⟨(0), (by first | rfl | (simp; done) | (simp [*]; done)), H', ⟨Nat.le_refl _⟩, ⟨by (with_reducible repeat (first | refine blk_drewN ?_ _ | refine blk_drew ?_ | refine blk_alloc ?_ _)); exact BK126.out⟩, ⟨by repeat (first | (with_reducible first | exact HB.out | apply below_alloc | apply pw_below_drewN | apply below_drew1 | refine below_set ?_ GE126.out) | exact HB.out)⟩⟩
  case round =>
    clear H'
    try clear c1
    try clear p2
    obtain ⟨x3_1, rfl, HA, HK1, BK126, HB⟩ := hrel
    cases gk with
    | zero => exact absurd HA.out (by simp [tollhouseref15_Config.l0])
    | succ k1 =>
      have H := HA.out
      clear HA
      simp only [tollhouseref15_Config.l0] at H
      by_cases c3 : x3_1 < (l0_0.length : Int)
      · rw [if_pos c3] at H
        have c3b0 : decide (x3_1 < (l0_0.length : Int)) = true := decide_eq_true c3
        clear c3
        by_cases c4 : 0 ≤ x3_1
        · rw [if_pos c4] at H
          have c4b0 : decide (0 ≤ x3_1) = true := decide_eq_true c4
          clear c4
          replace H := Option.bind_eq_some_iff.mp H
          obtain ⟨t128, A50, H⟩ := H
          replace H : (if t128 = true then (tollhouseref15_Config.l1 k1 x3_1 0 l0_0 a0_1 a0_2) else (some false)) = some r := H
          have A5 := Aside0.mk A50
          clear A50
          by_cases c6 : t128 = true
          · subst c6
            have H1 : (tollhouseref15_Config.l1 k1 x3_1 0 l0_0 a0_1 a0_2) = some r := by rw [if_pos rfl] at H; exact H
            clear H
            have H := H1
            clear H1
            have H' := Aside0.mk H
            clear H
            have hcz7_0 : wr.cell? ⟨gb126, 0, none⟩ = some (.slice A0_0 l0_0.length c0_0) := (blk_cell BK126.out 0).trans rfl
            have hcz7_1 : wr.cell? ⟨gb126, 1, none⟩ = some (.int .i64 a0_1) := (blk_cell BK126.out 1).trans rfl
            have hcz7_2 : wr.cell? ⟨gb126, 2, none⟩ = some (.int .i64 a0_2) := (blk_cell BK126.out 2).trans rfl
            have hfz7_0 := blk_frozen BK126.out 0
            have hfz7_1 := blk_frozen BK126.out 1
            have hfz7_2 := blk_frozen BK126.out 2
            have p127 : 0 ≤ (x3_1 : Int) := of_decide_eq_true (by first | (with_reducible assumption) | assumption)
            have q127 : x3_1 < (l0_0.length : Int) := of_decide_eq_true (by first | (with_reducible assumption) | assumption)
            obtain ⟨ad127, A127_1, c127_1, e127, hx127_0, hx127_1, hx127_2, hx127_3, hx127_4, hx127_5, hx127_6, hx127_7, hx127_8, hl127_1, hi127_1⟩ := at_T27 HR0_0.out x3_1 p127 q127
            cases e127
            replace hx127_0 := (HB.out.cell (World.block_lt_of_cell? w _ hx127_0)).trans hx127_0
            replace hx127_1 := (HB.out.cell (World.block_lt_of_cell? w _ hx127_1)).trans hx127_1
            replace hx127_2 := (HB.out.cell (World.block_lt_of_cell? w _ hx127_2)).trans hx127_2
            replace hx127_3 := (HB.out.cell (World.block_lt_of_cell? w _ hx127_3)).trans hx127_3
            replace hx127_4 := (HB.out.cell (World.block_lt_of_cell? w _ hx127_4)).trans hx127_4
            replace hx127_5 := (HB.out.cell (World.block_lt_of_cell? w _ hx127_5)).trans hx127_5
            replace hx127_6 := (HB.out.cell (World.block_lt_of_cell? w _ hx127_6)).trans hx127_6
            replace hx127_7 := (HB.out.cell (World.block_lt_of_cell? w _ hx127_7)).trans hx127_7
            replace hx127_8 := (HB.out.cell (World.block_lt_of_cell? w _ hx127_8)).trans hx127_8
            have HR127_1 := Aside0.mk hi127_1
            have HC127_1 := Aside0.mk hl127_1
            clear hi127_1 hl127_1
            replace p127 := eq_true p127
            replace q127 := eq_true q127
            go_wp2_with (first | (go_at_call 12; (with_reducible refine (tollhouseref15_Tenant.calls k1 ((rd_T27 l0_0 x3_1).f0) _ _ ((rd_T27 l0_0 x3_1).f1) ((rd_T27 l0_0 x3_1).f2) ((rd_T27 l0_0 x3_1).f3) ((rd_T27 l0_0 x3_1).f4) ((rd_T27 l0_0 x3_1).f5) ((rd_T27 l0_0 x3_1).f6) ((rd_T27 l0_0 x3_1).f7) ((rd_T27 l0_0 x3_1).f8) true _ ?side1 ?side2 (Glob.below HGl.out (by repeat (first | (with_reducible first | exact HB.out | apply below_alloc | apply pw_below_drewN | apply below_drew1 | refine below_set ?_ GE126.out) | exact HB.out))) A5.out).mono ?_); (case side1 => repeat (first | exact (Kd.C_below HR127_1.out HB.out) | (with_reducible refine Kd.C_alloc ?_ _) | (with_reducible refine Kd.C_drewN ?_ _) | (with_reducible refine Kd.C_drew ?_))); (case side2 => exact HC127_1.out); rintro e w8 ⟨rfl, hb⟩; have n0_ := Aside0.mk (blk_below (g := gb126) (o := .cells #[.slice (some ad127) l0_0.length c0_0, .int .i64 a0_1, .int .i64 a0_2] 24 (0, 0)) (by (with_reducible repeat (first | refine blk_drewN ?_ _ | refine blk_drew ?_ | refine blk_alloc ?_ _)); exact BK126.out) hb); have n1_ := Aside0.mk (below_step (by repeat (first | (with_reducible first | exact HB.out | apply below_alloc | apply pw_below_drewN | apply below_drew1 | refine below_set ?_ GE126.out) | exact HB.out)) hb); clear BK126; clear HB; have BK126 := n0_; have HB := n1_; clear n0_ n1_; (try clear hb); (try clear hb2); (try clear hk); (try clear hi)))
            repeat (go_quiet (first | (go_at_call 12; (with_reducible refine (tollhouseref15_Tenant.calls k1 ((rd_T27 l0_0 x3_1).f0) _ _ ((rd_T27 l0_0 x3_1).f1) ((rd_T27 l0_0 x3_1).f2) ((rd_T27 l0_0 x3_1).f3) ((rd_T27 l0_0 x3_1).f4) ((rd_T27 l0_0 x3_1).f5) ((rd_T27 l0_0 x3_1).f6) ((rd_T27 l0_0 x3_1).f7) ((rd_T27 l0_0 x3_1).f8) true _ ?side1 ?side2 (Glob.below HGl.out (by repeat (first | (with_reducible first | exact HB.out | apply below_alloc | apply pw_below_drewN | apply below_drew1 | refine below_set ?_ GE126.out) | exact HB.out))) A5.out).mono ?_); (case side1 => repeat (first | exact (Kd.C_below HR127_1.out HB.out) | (with_reducible refine Kd.C_alloc ?_ _) | (with_reducible refine Kd.C_drewN ?_ _) | (with_reducible refine Kd.C_drew ?_))); (case side2 => exact HC127_1.out); rintro e w8 ⟨rfl, hb⟩; have n0_ := Aside0.mk (blk_below (g := gb126) (o := .cells #[.slice (some ad127) l0_0.length c0_0, .int .i64 a0_1, .int .i64 a0_2] 24 (0, 0)) (by (with_reducible repeat (first | refine blk_drewN ?_ _ | refine blk_drew ?_ | refine blk_alloc ?_ _)); exact BK126.out) hb); have n1_ := Aside0.mk (below_step (by repeat (first | (with_reducible first | exact HB.out | apply below_alloc | apply pw_below_drewN | apply below_drew1 | refine below_set ?_ GE126.out) | exact HB.out)) hb); clear BK126; clear HB; have BK126 := n0_; have HB := n1_; clear n0_ n1_; (try clear hb); (try clear hb2); (try clear hk); (try clear hi))); try go_wp2_with (first | (go_at_call 12; (with_reducible refine (tollhouseref15_Tenant.calls k1 ((rd_T27 l0_0 x3_1).f0) _ _ ((rd_T27 l0_0 x3_1).f1) ((rd_T27 l0_0 x3_1).f2) ((rd_T27 l0_0 x3_1).f3) ((rd_T27 l0_0 x3_1).f4) ((rd_T27 l0_0 x3_1).f5) ((rd_T27 l0_0 x3_1).f6) ((rd_T27 l0_0 x3_1).f7) ((rd_T27 l0_0 x3_1).f8) true _ ?side1 ?side2 (Glob.below HGl.out (by repeat (first | (with_reducible first | exact HB.out | apply below_alloc | apply pw_below_drewN | apply below_drew1 | refine below_set ?_ GE126.out) | exact HB.out))) A5.out).mono ?_); (case side1 => repeat (first | exact (Kd.C_below HR127_1.out HB.out) | (with_reducible refine Kd.C_alloc ?_ _) | (with_reducible refine Kd.C_drewN ?_ _) | (with_reducible refine Kd.C_drew ?_))); (case side2 => exact HC127_1.out); rintro e w8 ⟨rfl, hb⟩; have n0_ := Aside0.mk (blk_below (g := gb126) (o := .cells #[.slice (some ad127) l0_0.length c0_0, .int .i64 a0_1, .int .i64 a0_2] 24 (0, 0)) (by (with_reducible repeat (first | refine blk_drewN ?_ _ | refine blk_drew ?_ | refine blk_alloc ?_ _)); exact BK126.out) hb); have n1_ := Aside0.mk (below_step (by repeat (first | (with_reducible first | exact HB.out | apply below_alloc | apply pw_below_drewN | apply below_drew1 | refine below_set ?_ GE126.out) | exact HB.out)) hb); clear BK126; clear HB; have BK126 := n0_; have HB := n1_; clear n0_ n1_; (try clear hb); (try clear hb2); (try clear hk); (try clear hi))))
            go_loopg [4] k1 (fun kq v4 w' => ∃ (x4_2 : Int), v4 = .int .i64 x4_2 ∧ Aside0 (tollhouseref15_Config.l1 kq x3_1 x4_2 l0_0 a0_1 a0_2 = some r) ∧ Aside0 (kq ≤ k1) ∧ Aside0 (w'.heap[gb126]? = some (.cells #[(.slice (some ad127) l0_0.length c0_0), .int .i64 a0_1, .int .i64 a0_2] 24 (0, 0))) ∧ Aside0 (Below w.heap.size w w'))
            case atStart => exact ⟨(0), (by first | rfl | (simp; done) | (simp [*]; done)), H', ⟨Nat.le_refl _⟩, ⟨by (with_reducible repeat (first | refine blk_drewN ?_ _ | refine blk_drew ?_ | refine blk_alloc ?_ _)); exact BK126.out⟩, ⟨by repeat (first | (with_reducible first | exact HB.out | apply below_alloc | apply pw_below_drewN | apply below_drew1 | refine below_set ?_ GE126.out) | exact HB.out)⟩⟩
            case round =>
              clear H'
              try clear c1
              try clear p1
              try clear q1
              try clear hx1
              try clear p2
              try clear c3
              try clear c3b0
              try clear c4
              try clear c4b0
              try clear c6
              try clear hcz7_0
              try clear hcz7_1
              try clear hcz7_2
              try clear hfz7_0
              try clear hfz7_1
              try clear hfz7_2
              try clear hx127_0
              try clear hx127_1
              try clear hx127_2
              try clear hx127_3
              try clear hx127_4
              try clear hx127_5
              try clear hx127_6
              try clear hx127_7
              try clear hx127_8
              try clear p127
              try clear p2
              try clear q127
              obtain ⟨x4_2, rfl, HA, HK2, BK126, HB⟩ := hrel
              cases gk with
              | zero => exact absurd HA.out (by simp [tollhouseref15_Config.l1])
              | succ k2 =>
                have H := HA.out
                clear HA
                simp only [tollhouseref15_Config.l1] at H
                by_cases c9 : x4_2 < x3_1
                · rw [if_pos c9] at H
                  have c9b0 : decide (x4_2 < x3_1) = true := decide_eq_true c9
                  clear c9
                  by_cases c10 : 0 ≤ x4_2
                  · rw [if_pos c10] at H
                    have c10b0 : decide (0 ≤ x4_2) = true := decide_eq_true c10
                    clear c10
                    by_cases c11 : x4_2 < (l0_0.length : Int)
                    · rw [if_pos c11] at H
                      have c11b0 : decide (x4_2 < (l0_0.length : Int)) = true := decide_eq_true c11
                      clear c11
                      by_cases c12 : 0 ≤ x3_1
                      · rw [if_pos c12] at H
                        have c12b0 : decide (0 ≤ x3_1) = true := decide_eq_true c12
                        clear c12
                        by_cases c13 : x3_1 < (l0_0.length : Int)
                        · rw [if_pos c13] at H
                          have c13b0 : decide (x3_1 < (l0_0.length : Int)) = true := decide_eq_true c13
                          clear c13
                          by_cases c14 : ((rd_T27 l0_0 x4_2).f0).toList = ((rd_T27 l0_0 x3_1).f0).toList
                          · rw [if_pos c14] at H
                            have c14b0 : (((rd_T27 l0_0 x4_2).f0).toList == ((rd_T27 l0_0 x3_1).f0).toList) = true := beq_iff_eq.mpr c14
                            have c14b1 : (((rd_T27 l0_0 x4_2).f0).toList != ((rd_T27 l0_0 x3_1).f0).toList) = false := bne_eq_false_iff_eq.mpr c14
                            clear c14
                            obtain rfl := Option.some.inj H
                            have hcz15_0 : wr.cell? ⟨gb126, 0, none⟩ = some (.slice (some ad127) l0_0.length c0_0) := (blk_cell BK126.out 0).trans rfl
                            have hcz15_1 : wr.cell? ⟨gb126, 1, none⟩ = some (.int .i64 a0_1) := (blk_cell BK126.out 1).trans rfl
                            have hcz15_2 : wr.cell? ⟨gb126, 2, none⟩ = some (.int .i64 a0_2) := (blk_cell BK126.out 2).trans rfl
                            have hfz15_0 := blk_frozen BK126.out 0
                            have hfz15_1 := blk_frozen BK126.out 1
                            have hfz15_2 := blk_frozen BK126.out 2
                            have p129 : 0 ≤ (x4_2 : Int) := of_decide_eq_true (by first | (with_reducible assumption) | assumption)
                            have q129 : x4_2 < (l0_0.length : Int) := of_decide_eq_true (by first | (with_reducible assumption) | assumption)
                            obtain ⟨ad129, A129_1, c129_1, e129, hx129_0, hx129_1, hx129_2, hx129_3, hx129_4, hx129_5, hx129_6, hx129_7, hx129_8, hl129_1, hi129_1⟩ := at_T27 HR0_0.out x4_2 p129 q129
                            obtain rfl : ad127 = ad129 := (by injection e129)
                            replace hx129_0 := (HB.out.cell (World.block_lt_of_cell? w _ hx129_0)).trans hx129_0
                            replace hx129_1 := (HB.out.cell (World.block_lt_of_cell? w _ hx129_1)).trans hx129_1
                            replace hx129_2 := (HB.out.cell (World.block_lt_of_cell? w _ hx129_2)).trans hx129_2
                            replace hx129_3 := (HB.out.cell (World.block_lt_of_cell? w _ hx129_3)).trans hx129_3
                            replace hx129_4 := (HB.out.cell (World.block_lt_of_cell? w _ hx129_4)).trans hx129_4
                            replace hx129_5 := (HB.out.cell (World.block_lt_of_cell? w _ hx129_5)).trans hx129_5
                            replace hx129_6 := (HB.out.cell (World.block_lt_of_cell? w _ hx129_6)).trans hx129_6
                            replace hx129_7 := (HB.out.cell (World.block_lt_of_cell? w _ hx129_7)).trans hx129_7
                            replace hx129_8 := (HB.out.cell (World.block_lt_of_cell? w _ hx129_8)).trans hx129_8
                            have HR129_1 := Aside0.mk hi129_1
                            have HC129_1 := Aside0.mk hl129_1
                            clear hi129_1 hl129_1
                            replace p129 := eq_true p129
                            replace q129 := eq_true q129
                            have p130 : 0 ≤ (x3_1 : Int) := of_decide_eq_true (by first | (with_reducible assumption) | assumption)
                            have q130 : x3_1 < (l0_0.length : Int) := of_decide_eq_true (by first | (with_reducible assumption) | assumption)
                            obtain ⟨ad130, A130_1, c130_1, e130, hx130_0, hx130_1, hx130_2, hx130_3, hx130_4, hx130_5, hx130_6, hx130_7, hx130_8, hl130_1, hi130_1⟩ := at_T27 HR0_0.out x3_1 p130 q130
                            obtain rfl : ad127 = ad130 := (by injection e130)
                            replace hx130_0 := (HB.out.cell (World.block_lt_of_cell? w _ hx130_0)).trans hx130_0
                            replace hx130_1 := (HB.out.cell (World.block_lt_of_cell? w _ hx130_1)).trans hx130_1
                            replace hx130_2 := (HB.out.cell (World.block_lt_of_cell? w _ hx130_2)).trans hx130_2
                            replace hx130_3 := (HB.out.cell (World.block_lt_of_cell? w _ hx130_3)).trans hx130_3
                            replace hx130_4 := (HB.out.cell (World.block_lt_of_cell? w _ hx130_4)).trans hx130_4
                            replace hx130_5 := (HB.out.cell (World.block_lt_of_cell? w _ hx130_5)).trans hx130_5
                            replace hx130_6 := (HB.out.cell (World.block_lt_of_cell? w _ hx130_6)).trans hx130_6
                            replace hx130_7 := (HB.out.cell (World.block_lt_of_cell? w _ hx130_7)).trans hx130_7
                            replace hx130_8 := (HB.out.cell (World.block_lt_of_cell? w _ hx130_8)).trans hx130_8
                            have HR130_1 := Aside0.mk hi130_1
                            have HC130_1 := Aside0.mk hl130_1
                            clear hi130_1 hl130_1
                            replace p130 := eq_true p130
                            replace q130 := eq_true q130
                            go_wp2
                            repeat (go_quiet (fail); try go_wp2)
                            go_ret
                            exact ⟨by first | rfl | (simp [errW_none, errW_some] <;> rfl) | (simp [*, errW_none, errW_some] <;> rfl), by repeat (first | (with_reducible first | exact HB.out | apply below_alloc | apply pw_below_drewN | apply below_drew1 | refine below_set ?_ GE126.out) | exact HB.out)⟩
                          · rw [if_neg c14] at H
                            have c14b0 : (((rd_T27 l0_0 x4_2).f0).toList == ((rd_T27 l0_0 x3_1).f0).toList) = false := beq_eq_false_iff_ne.mpr c14
                            have c14b1 : (((rd_T27 l0_0 x4_2).f0).toList != ((rd_T27 l0_0 x3_1).f0).toList) = true := bne_iff_ne.mpr c14
                            have H' := Aside0.mk H
                            clear H
                            have hcz16_0 : wr.cell? ⟨gb126, 0, none⟩ = some (.slice (some ad127) l0_0.length c0_0) := (blk_cell BK126.out 0).trans rfl
                            have hcz16_1 : wr.cell? ⟨gb126, 1, none⟩ = some (.int .i64 a0_1) := (blk_cell BK126.out 1).trans rfl
                            have hcz16_2 : wr.cell? ⟨gb126, 2, none⟩ = some (.int .i64 a0_2) := (blk_cell BK126.out 2).trans rfl
                            have hfz16_0 := blk_frozen BK126.out 0
                            have hfz16_1 := blk_frozen BK126.out 1
                            have hfz16_2 := blk_frozen BK126.out 2
                            have p129 : 0 ≤ (x4_2 : Int) := of_decide_eq_true (by first | (with_reducible assumption) | assumption)
                            have q129 : x4_2 < (l0_0.length : Int) := of_decide_eq_true (by first | (with_reducible assumption) | assumption)
                            obtain ⟨ad129, A129_1, c129_1, e129, hx129_0, hx129_1, hx129_2, hx129_3, hx129_4, hx129_5, hx129_6, hx129_7, hx129_8, hl129_1, hi129_1⟩ := at_T27 HR0_0.out x4_2 p129 q129
                            obtain rfl : ad127 = ad129 := (by injection e129)
                            replace hx129_0 := (HB.out.cell (World.block_lt_of_cell? w _ hx129_0)).trans hx129_0
                            replace hx129_1 := (HB.out.cell (World.block_lt_of_cell? w _ hx129_1)).trans hx129_1
                            replace hx129_2 := (HB.out.cell (World.block_lt_of_cell? w _ hx129_2)).trans hx129_2
                            replace hx129_3 := (HB.out.cell (World.block_lt_of_cell? w _ hx129_3)).trans hx129_3
                            replace hx129_4 := (HB.out.cell (World.block_lt_of_cell? w _ hx129_4)).trans hx129_4
                            replace hx129_5 := (HB.out.cell (World.block_lt_of_cell? w _ hx129_5)).trans hx129_5
                            replace hx129_6 := (HB.out.cell (World.block_lt_of_cell? w _ hx129_6)).trans hx129_6
                            replace hx129_7 := (HB.out.cell (World.block_lt_of_cell? w _ hx129_7)).trans hx129_7
                            replace hx129_8 := (HB.out.cell (World.block_lt_of_cell? w _ hx129_8)).trans hx129_8
                            have HR129_1 := Aside0.mk hi129_1
                            have HC129_1 := Aside0.mk hl129_1
                            clear hi129_1 hl129_1
                            replace p129 := eq_true p129
                            replace q129 := eq_true q129
                            have p130 : 0 ≤ (x3_1 : Int) := of_decide_eq_true (by first | (with_reducible assumption) | assumption)
                            have q130 : x3_1 < (l0_0.length : Int) := of_decide_eq_true (by first | (with_reducible assumption) | assumption)
                            obtain ⟨ad130, A130_1, c130_1, e130, hx130_0, hx130_1, hx130_2, hx130_3, hx130_4, hx130_5, hx130_6, hx130_7, hx130_8, hl130_1, hi130_1⟩ := at_T27 HR0_0.out x3_1 p130 q130
                            obtain rfl : ad127 = ad130 := (by injection e130)
                            replace hx130_0 := (HB.out.cell (World.block_lt_of_cell? w _ hx130_0)).trans hx130_0
                            replace hx130_1 := (HB.out.cell (World.block_lt_of_cell? w _ hx130_1)).trans hx130_1
                            replace hx130_2 := (HB.out.cell (World.block_lt_of_cell? w _ hx130_2)).trans hx130_2
                            replace hx130_3 := (HB.out.cell (World.block_lt_of_cell? w _ hx130_3)).trans hx130_3
                            replace hx130_4 := (HB.out.cell (World.block_lt_of_cell? w _ hx130_4)).trans hx130_4
                            replace hx130_5 := (HB.out.cell (World.block_lt_of_cell? w _ hx130_5)).trans hx130_5
                            replace hx130_6 := (HB.out.cell (World.block_lt_of_cell? w _ hx130_6)).trans hx130_6
                            replace hx130_7 := (HB.out.cell (World.block_lt_of_cell? w _ hx130_7)).trans hx130_7
                            replace hx130_8 := (HB.out.cell (World.block_lt_of_cell? w _ hx130_8)).trans hx130_8
                            have HR130_1 := Aside0.mk hi130_1
                            have HC130_1 := Aside0.mk hl130_1
                            clear hi130_1 hl130_1
                            replace p130 := eq_true p130
                            replace q130 := eq_true q130
                            go_wp2
                            repeat (go_quiet (fail); try go_wp2)
                            go_roundg k2
                            case measure => have := HK1.out; have := HK2.out; omega
                            case rel => exact ⟨(wrap64 (x4_2 + 1)), (by first | rfl | (simp; done) | (simp [*]; done)), H', ⟨by have := HK1.out; have := HK2.out; omega⟩, ⟨by (with_reducible repeat (first | refine blk_drewN ?_ _ | refine blk_drew ?_ | refine blk_alloc ?_ _)); exact BK126.out⟩, ⟨by repeat (first | (with_reducible first | exact HB.out | apply below_alloc | apply pw_below_drewN | apply below_drew1 | refine below_set ?_ GE126.out) | exact HB.out)⟩⟩
                        · rw [if_neg c13] at H
                          exact absurd H (by simp)
                      · rw [if_neg c12] at H
                        exact absurd H (by simp)
                    · rw [if_neg c11] at H
                      exact absurd H (by simp)
                  · rw [if_neg c10] at H
                    exact absurd H (by simp)
                · rw [if_neg c9] at H
                  have c9b0 : decide (x4_2 < x3_1) = false := decide_eq_false c9
                  clear c9
                  have H' := Aside0.mk H
                  clear H
                  go_wp2
                  repeat (go_quiet (fail); try go_wp2)
                  go_roundg k2
                  case measure => have := HK1.out; have := HK2.out; omega
                  case rel => exact ⟨(wrap64 (x3_1 + 1)), (by first | rfl | (simp; done) | (simp [*]; done)), H', ⟨by have := HK1.out; have := HK2.out; omega⟩, ⟨by (with_reducible repeat (first | refine blk_drewN ?_ _ | refine blk_drew ?_ | refine blk_alloc ?_ _)); exact BK126.out⟩, ⟨by repeat (first | (with_reducible first | exact HB.out | apply below_alloc | apply pw_below_drewN | apply below_drew1 | refine below_set ?_ GE126.out) | exact HB.out)⟩⟩
          · replace c6 := Bool.eq_false_iff.mpr c6
            subst c6
            have H1 : (some false) = some r := by rw [if_neg (show ¬ (false = true) by decide)] at H; exact H
            clear H
            have H := H1
            clear H1
            obtain rfl := Option.some.inj H
            have hcz17_0 : wr.cell? ⟨gb126, 0, none⟩ = some (.slice A0_0 l0_0.length c0_0) := (blk_cell BK126.out 0).trans rfl
            have hcz17_1 : wr.cell? ⟨gb126, 1, none⟩ = some (.int .i64 a0_1) := (blk_cell BK126.out 1).trans rfl
            have hcz17_2 : wr.cell? ⟨gb126, 2, none⟩ = some (.int .i64 a0_2) := (blk_cell BK126.out 2).trans rfl
            have hfz17_0 := blk_frozen BK126.out 0
            have hfz17_1 := blk_frozen BK126.out 1
            have hfz17_2 := blk_frozen BK126.out 2
            have p127 : 0 ≤ (x3_1 : Int) := of_decide_eq_true (by first | (with_reducible assumption) | assumption)
            have q127 : x3_1 < (l0_0.length : Int) := of_decide_eq_true (by first | (with_reducible assumption) | assumption)
            obtain ⟨ad127, A127_1, c127_1, e127, hx127_0, hx127_1, hx127_2, hx127_3, hx127_4, hx127_5, hx127_6, hx127_7, hx127_8, hl127_1, hi127_1⟩ := at_T27 HR0_0.out x3_1 p127 q127
            cases e127
            replace hx127_0 := (HB.out.cell (World.block_lt_of_cell? w _ hx127_0)).trans hx127_0
            replace hx127_1 := (HB.out.cell (World.block_lt_of_cell? w _ hx127_1)).trans hx127_1
            replace hx127_2 := (HB.out.cell (World.block_lt_of_cell? w _ hx127_2)).trans hx127_2
            replace hx127_3 := (HB.out.cell (World.block_lt_of_cell? w _ hx127_3)).trans hx127_3
            replace hx127_4 := (HB.out.cell (World.block_lt_of_cell? w _ hx127_4)).trans hx127_4
            replace hx127_5 := (HB.out.cell (World.block_lt_of_cell? w _ hx127_5)).trans hx127_5
            replace hx127_6 := (HB.out.cell (World.block_lt_of_cell? w _ hx127_6)).trans hx127_6
            replace hx127_7 := (HB.out.cell (World.block_lt_of_cell? w _ hx127_7)).trans hx127_7
            replace hx127_8 := (HB.out.cell (World.block_lt_of_cell? w _ hx127_8)).trans hx127_8
            have HR127_1 := Aside0.mk hi127_1
            have HC127_1 := Aside0.mk hl127_1
            clear hi127_1 hl127_1
            replace p127 := eq_true p127
            replace q127 := eq_true q127
            go_wp2_with (first | (go_at_call 12; (with_reducible refine (tollhouseref15_Tenant.calls k1 ((rd_T27 l0_0 x3_1).f0) _ _ ((rd_T27 l0_0 x3_1).f1) ((rd_T27 l0_0 x3_1).f2) ((rd_T27 l0_0 x3_1).f3) ((rd_T27 l0_0 x3_1).f4) ((rd_T27 l0_0 x3_1).f5) ((rd_T27 l0_0 x3_1).f6) ((rd_T27 l0_0 x3_1).f7) ((rd_T27 l0_0 x3_1).f8) false _ ?side1 ?side2 (Glob.below HGl.out (by repeat (first | (with_reducible first | exact HB.out | apply below_alloc | apply pw_below_drewN | apply below_drew1 | refine below_set ?_ GE126.out) | exact HB.out))) A5.out).mono ?_); (case side1 => repeat (first | exact (Kd.C_below HR127_1.out HB.out) | (with_reducible refine Kd.C_alloc ?_ _) | (with_reducible refine Kd.C_drewN ?_ _) | (with_reducible refine Kd.C_drew ?_))); (case side2 => exact HC127_1.out); rintro e w18 ⟨rfl, hb⟩; have n0_ := Aside0.mk (blk_below (g := gb126) (o := .cells #[.slice (some ad127) l0_0.length c0_0, .int .i64 a0_1, .int .i64 a0_2] 24 (0, 0)) (by (with_reducible repeat (first | refine blk_drewN ?_ _ | refine blk_drew ?_ | refine blk_alloc ?_ _)); exact BK126.out) hb); have n1_ := Aside0.mk (below_step (by repeat (first | (with_reducible first | exact HB.out | apply below_alloc | apply pw_below_drewN | apply below_drew1 | refine below_set ?_ GE126.out) | exact HB.out)) hb); clear BK126; clear HB; have BK126 := n0_; have HB := n1_; clear n0_ n1_; (try clear hb); (try clear hb2); (try clear hk); (try clear hi)))
            repeat (go_quiet (first | (go_at_call 12; (with_reducible refine (tollhouseref15_Tenant.calls k1 ((rd_T27 l0_0 x3_1).f0) _ _ ((rd_T27 l0_0 x3_1).f1) ((rd_T27 l0_0 x3_1).f2) ((rd_T27 l0_0 x3_1).f3) ((rd_T27 l0_0 x3_1).f4) ((rd_T27 l0_0 x3_1).f5) ((rd_T27 l0_0 x3_1).f6) ((rd_T27 l0_0 x3_1).f7) ((rd_T27 l0_0 x3_1).f8) false _ ?side1 ?side2 (Glob.below HGl.out (by repeat (first | (with_reducible first | exact HB.out | apply below_alloc | apply pw_below_drewN | apply below_drew1 | refine below_set ?_ GE126.out) | exact HB.out))) A5.out).mono ?_); (case side1 => repeat (first | exact (Kd.C_below HR127_1.out HB.out) | (with_reducible refine Kd.C_alloc ?_ _) | (with_reducible refine Kd.C_drewN ?_ _) | (with_reducible refine Kd.C_drew ?_))); (case side2 => exact HC127_1.out); rintro e w18 ⟨rfl, hb⟩; have n0_ := Aside0.mk (blk_below (g := gb126) (o := .cells #[.slice (some ad127) l0_0.length c0_0, .int .i64 a0_1, .int .i64 a0_2] 24 (0, 0)) (by (with_reducible repeat (first | refine blk_drewN ?_ _ | refine blk_drew ?_ | refine blk_alloc ?_ _)); exact BK126.out) hb); have n1_ := Aside0.mk (below_step (by repeat (first | (with_reducible first | exact HB.out | apply below_alloc | apply pw_below_drewN | apply below_drew1 | refine below_set ?_ GE126.out) | exact HB.out)) hb); clear BK126; clear HB; have BK126 := n0_; have HB := n1_; clear n0_ n1_; (try clear hb); (try clear hb2); (try clear hk); (try clear hi))); try go_wp2_with (first | (go_at_call 12; (with_reducible refine (tollhouseref15_Tenant.calls k1 ((rd_T27 l0_0 x3_1).f0) _ _ ((rd_T27 l0_0 x3_1).f1) ((rd_T27 l0_0 x3_1).f2) ((rd_T27 l0_0 x3_1).f3) ((rd_T27 l0_0 x3_1).f4) ((rd_T27 l0_0 x3_1).f5) ((rd_T27 l0_0 x3_1).f6) ((rd_T27 l0_0 x3_1).f7) ((rd_T27 l0_0 x3_1).f8) false _ ?side1 ?side2 (Glob.below HGl.out (by repeat (first | (with_reducible first | exact HB.out | apply below_alloc | apply pw_below_drewN | apply below_drew1 | refine below_set ?_ GE126.out) | exact HB.out))) A5.out).mono ?_); (case side1 => repeat (first | exact (Kd.C_below HR127_1.out HB.out) | (with_reducible refine Kd.C_alloc ?_ _) | (with_reducible refine Kd.C_drewN ?_ _) | (with_reducible refine Kd.C_drew ?_))); (case side2 => exact HC127_1.out); rintro e w18 ⟨rfl, hb⟩; have n0_ := Aside0.mk (blk_below (g := gb126) (o := .cells #[.slice (some ad127) l0_0.length c0_0, .int .i64 a0_1, .int .i64 a0_2] 24 (0, 0)) (by (with_reducible repeat (first | refine blk_drewN ?_ _ | refine blk_drew ?_ | refine blk_alloc ?_ _)); exact BK126.out) hb); have n1_ := Aside0.mk (below_step (by repeat (first | (with_reducible first | exact HB.out | apply below_alloc | apply pw_below_drewN | apply below_drew1 | refine below_set ?_ GE126.out) | exact HB.out)) hb); clear BK126; clear HB; have BK126 := n0_; have HB := n1_; clear n0_ n1_; (try clear hb); (try clear hb2); (try clear hk); (try clear hi))))
            go_ret
            exact ⟨by first | rfl | (simp [errW_none, errW_some] <;> rfl) | (simp [*, errW_none, errW_some] <;> rfl), by repeat (first | (with_reducible first | exact HB.out | apply below_alloc | apply pw_below_drewN | apply below_drew1 | refine below_set ?_ GE126.out) | exact HB.out)⟩
        · rw [if_neg c4] at H
          exact absurd H (by simp)
      · rw [if_neg c3] at H
        have c3b0 : decide (x3_1 < (l0_0.length : Int)) = false := decide_eq_false c3
        clear c3
        by_cases c19 : (l0_0.length : Int) < 1
        · rw [if_pos c19] at H
          have c19b0 : decide ((l0_0.length : Int) < 1) = true := decide_eq_true c19
          have c19b1 : decide (l0_0.length < 1) = true := decide_eq_true (by omega)
          clear c19
          obtain rfl := Option.some.inj H
          have hcz20_0 : wr.cell? ⟨gb126, 0, none⟩ = some (.slice A0_0 l0_0.length c0_0) := (blk_cell BK126.out 0).trans rfl
          have hcz20_1 : wr.cell? ⟨gb126, 1, none⟩ = some (.int .i64 a0_1) := (blk_cell BK126.out 1).trans rfl
          have hcz20_2 : wr.cell? ⟨gb126, 2, none⟩ = some (.int .i64 a0_2) := (blk_cell BK126.out 2).trans rfl
          have hfz20_0 := blk_frozen BK126.out 0
          have hfz20_1 := blk_frozen BK126.out 1
          have hfz20_2 := blk_frozen BK126.out 2
          go_wp2
          repeat (go_quiet (fail); try go_wp2)
          go_ret
          exact ⟨by first | rfl | (simp [errW_none, errW_some] <;> rfl) | (simp [*, errW_none, errW_some] <;> rfl), by repeat (first | (with_reducible first | exact HB.out | apply below_alloc | apply pw_below_drewN | apply below_drew1 | refine below_set ?_ GE126.out) | exact HB.out)⟩
        · rw [if_neg c19] at H
          have c19b0 : decide ((l0_0.length : Int) < 1) = false := decide_eq_false c19
          have c19b1 : decide (l0_0.length < 1) = false := decide_eq_false (by omega)
          clear c19
          by_cases c21 : (l0_0.length : Int) > 8
          · rw [if_pos c21] at H
            have c21b0 : decide (8 < (l0_0.length : Int)) = true := decide_eq_true c21
            have c21b1 : decide (8 < l0_0.length) = true := decide_eq_true (by omega)
            clear c21
            obtain rfl := Option.some.inj H
            have hcz22_0 : wr.cell? ⟨gb126, 0, none⟩ = some (.slice A0_0 l0_0.length c0_0) := (blk_cell BK126.out 0).trans rfl
            have hcz22_1 : wr.cell? ⟨gb126, 1, none⟩ = some (.int .i64 a0_1) := (blk_cell BK126.out 1).trans rfl
            have hcz22_2 : wr.cell? ⟨gb126, 2, none⟩ = some (.int .i64 a0_2) := (blk_cell BK126.out 2).trans rfl
            have hfz22_0 := blk_frozen BK126.out 0
            have hfz22_1 := blk_frozen BK126.out 1
            have hfz22_2 := blk_frozen BK126.out 2
            go_wp2
            repeat (go_quiet (fail); try go_wp2)
            go_ret
            exact ⟨by first | rfl | (simp [errW_none, errW_some] <;> rfl) | (simp [*, errW_none, errW_some] <;> rfl), by repeat (first | (with_reducible first | exact HB.out | apply below_alloc | apply pw_below_drewN | apply below_drew1 | refine below_set ?_ GE126.out) | exact HB.out)⟩
          · rw [if_neg c21] at H
            have c21b0 : decide (8 < (l0_0.length : Int)) = false := decide_eq_false c21
            have c21b1 : decide (8 < l0_0.length) = false := decide_eq_false (by omega)
            clear c21
            by_cases c23 : a0_1 < 0
            · rw [if_pos c23] at H
              have c23b0 : decide (a0_1 < 0) = true := decide_eq_true c23
              clear c23
              obtain rfl := Option.some.inj H
              have hcz24_0 : wr.cell? ⟨gb126, 0, none⟩ = some (.slice A0_0 l0_0.length c0_0) := (blk_cell BK126.out 0).trans rfl
              have hcz24_1 : wr.cell? ⟨gb126, 1, none⟩ = some (.int .i64 a0_1) := (blk_cell BK126.out 1).trans rfl
              have hcz24_2 : wr.cell? ⟨gb126, 2, none⟩ = some (.int .i64 a0_2) := (blk_cell BK126.out 2).trans rfl
              have hfz24_0 := blk_frozen BK126.out 0
              have hfz24_1 := blk_frozen BK126.out 1
              have hfz24_2 := blk_frozen BK126.out 2
              go_wp2
              repeat (go_quiet (fail); try go_wp2)
              go_ret
              exact ⟨by first | rfl | (simp [errW_none, errW_some] <;> rfl) | (simp [*, errW_none, errW_some] <;> rfl), by repeat (first | (with_reducible first | exact HB.out | apply below_alloc | apply pw_below_drewN | apply below_drew1 | refine below_set ?_ GE126.out) | exact HB.out)⟩
            · rw [if_neg c23] at H
              have c23b0 : decide (a0_1 < 0) = false := decide_eq_false c23
              clear c23
              by_cases c25 : a0_1 > 16
              · rw [if_pos c25] at H
                have c25b0 : decide (16 < a0_1) = true := decide_eq_true c25
                clear c25
                obtain rfl := Option.some.inj H
                have hcz26_0 : wr.cell? ⟨gb126, 0, none⟩ = some (.slice A0_0 l0_0.length c0_0) := (blk_cell BK126.out 0).trans rfl
                have hcz26_1 : wr.cell? ⟨gb126, 1, none⟩ = some (.int .i64 a0_1) := (blk_cell BK126.out 1).trans rfl
                have hcz26_2 : wr.cell? ⟨gb126, 2, none⟩ = some (.int .i64 a0_2) := (blk_cell BK126.out 2).trans rfl
                have hfz26_0 := blk_frozen BK126.out 0
                have hfz26_1 := blk_frozen BK126.out 1
                have hfz26_2 := blk_frozen BK126.out 2
                go_wp2
                repeat (go_quiet (fail); try go_wp2)
                go_ret
                exact ⟨by first | rfl | (simp [errW_none, errW_some] <;> rfl) | (simp [*, errW_none, errW_some] <;> rfl), by repeat (first | (with_reducible first | exact HB.out | apply below_alloc | apply pw_below_drewN | apply below_drew1 | refine below_set ?_ GE126.out) | exact HB.out)⟩
              · rw [if_neg c25] at H
                have c25b0 : decide (16 < a0_1) = false := decide_eq_false c25
                clear c25
                by_cases c27 : a0_2 ≥ 1
                · rw [if_pos c27] at H
                  have c27b0 : decide (1 ≤ a0_2) = true := decide_eq_true c27
                  clear c27
                  obtain rfl := Option.some.inj H
                  have hcz28_0 : wr.cell? ⟨gb126, 0, none⟩ = some (.slice A0_0 l0_0.length c0_0) := (blk_cell BK126.out 0).trans rfl
                  have hcz28_1 : wr.cell? ⟨gb126, 1, none⟩ = some (.int .i64 a0_1) := (blk_cell BK126.out 1).trans rfl
                  have hcz28_2 : wr.cell? ⟨gb126, 2, none⟩ = some (.int .i64 a0_2) := (blk_cell BK126.out 2).trans rfl
                  have hfz28_0 := blk_frozen BK126.out 0
                  have hfz28_1 := blk_frozen BK126.out 1
                  have hfz28_2 := blk_frozen BK126.out 2
                  go_wp2
                  repeat (go_quiet (fail); try go_wp2)
                  go_ret
                  exact ⟨by first | rfl | (simp [errW_none, errW_some] <;> rfl) | (simp [*, errW_none, errW_some] <;> rfl), by repeat (first | (with_reducible first | exact HB.out | apply below_alloc | apply pw_below_drewN | apply below_drew1 | refine below_set ?_ GE126.out) | exact HB.out)⟩
                · rw [if_neg c27] at H
                  have c27b0 : decide (1 ≤ a0_2) = false := decide_eq_false c27
                  clear c27
                  obtain rfl := Option.some.inj H
                  have hcz29_0 : wr.cell? ⟨gb126, 0, none⟩ = some (.slice A0_0 l0_0.length c0_0) := (blk_cell BK126.out 0).trans rfl
                  have hcz29_1 : wr.cell? ⟨gb126, 1, none⟩ = some (.int .i64 a0_1) := (blk_cell BK126.out 1).trans rfl
                  have hcz29_2 : wr.cell? ⟨gb126, 2, none⟩ = some (.int .i64 a0_2) := (blk_cell BK126.out 2).trans rfl
                  have hfz29_0 := blk_frozen BK126.out 0
                  have hfz29_1 := blk_frozen BK126.out 1
                  have hfz29_2 := blk_frozen BK126.out 2
                  go_wp2
                  repeat (go_quiet (fail); try go_wp2)
                  go_ret
                  exact ⟨by first | rfl | (simp [errW_none, errW_some] <;> rfl) | (simp [*, errW_none, errW_some] <;> rfl), by repeat (first | (with_reducible first | exact HB.out | apply below_alloc | apply pw_below_drewN | apply below_drew1 | refine below_set ?_ GE126.out) | exact HB.out)⟩

end Go.Proofs.YthmnhbalmglohaaGreatDoor.X

/- text.Token over this program. -/
namespace Go.Proofs.YthmnhbalmglohaaGreatDoor.T
open Go.RowKit
set_option linter.unusedSimpArgs false
set_option linter.unusedVariables false

/-! ### Token -/
theorem bits_low (c : UInt8) : bits BinOp.or IntKind.u8 (c.toNat : Int) 32 = ((c ||| 32).toNat : Int) := by
  have h : ∀ n : Fin 256, bits BinOp.or IntKind.u8 ((UInt8.ofNat n.val).toNat : Int) 32 = ((UInt8.ofNat n.val ||| 32).toNat : Int) := by decide +kernel
  have := h ⟨c.toNat, c.toNat_lt⟩
  simpa using this
def sgn (c : UInt8) : Int := Lib.indexByte [33, 35, 36, 37, 38, 39, 42, 43, 45, 46, 94, 95, 96, 124, 126] c
theorem tok_spec (c : UInt8) : isTok c = ((decide (97 ≤ ((c ||| 32).toNat : Int)) && decide (((c ||| 32).toNat : Int) ≤ 122)) || (decide (48 ≤ (c.toNat : Int)) && decide ((c.toNat : Int) ≤ 57)) || decide (0 ≤ sgn c)) := by
  have h : ∀ n : Fin 256, isTok (UInt8.ofNat n.val) = ((decide (97 ≤ ((UInt8.ofNat n.val ||| 32).toNat : Int)) && decide (((UInt8.ofNat n.val ||| 32).toNat : Int) ≤ 122)) || (decide (48 ≤ ((UInt8.ofNat n.val).toNat : Int)) && decide (((UInt8.ofNat n.val).toNat : Int) ≤ 57)) || decide (0 ≤ sgn (UInt8.ofNat n.val))) := by decide +kernel
  have := h ⟨c.toNat, c.toNat_lt⟩
  simpa using this
theorem sgn_any (c : UInt8) (w : World) : Calls Tryz.prog 29 #[.string ⟨#[33, 35, 36, 37, 38, 39, 42, 43, 45, 46, 94, 95, 96, 124, 126]⟩, .int .u8 c.toNat] w fun e w' => e = .returned (.int .i64 (sgn c)) ∧ w = w' := by
  refine (Tryz.strings_IndexByte _ _ _).mono fun e w' ⟨he, hw⟩ => ⟨?_, hw.symm⟩
  rw [he]
  show Ending.returned (.int .i64 (Lib.indexByte _ (UInt8.ofNat c.toNat))) = _
  rw [UInt8.ofNat_toNat]
  rfl
set_option maxHeartbeats 1000000 in
theorem tok_1 (w : World) : PredB 80 #[] isTok w := by
  intro W c hb
  have hl := bits_low c
  have HT := Lib.hid (tok_spec c)
  clear hb
  have h0 : 0 ≤ ((c ||| 32).toNat : Int) := by omega
  generalize hx : ((c ||| 32).toNat : Int) = x at hl h0 HT
  clear hx
  go_enter Tryz.func80, Tryz.ntmps80
  go_wp2_with (go_at_call 29; refine (sgn_any c _).mono ?_; rintro e w' ⟨rfl, rfl⟩)
  all_goals
    go_ret
    refine ⟨ret_bool ?_, Below.refl _ _⟩
    rw [HT.out, Bool.eq_iff_iff]
    simp only [Bool.or_eq_true, Bool.and_eq_true, decide_eq_true_eq, true_iff, Bool.false_eq_true]
    omega
theorem fn_tok_1 : ∀ args w, (callFunc 80 args).run Tryz.prog w = .ok (.enter 80 args) w := enters_of Tryz.func80 (by kernel_rfl) rfl
theorem isEmpty_data (s : ByteArray) : s.toList.isEmpty = s.data.toList.isEmpty := by
  have h : s.toList = s.data.toList := Lib.toList_data s
  rw [h]
theorem token_any (s : ByteArray) (w : World) (hs : s.size ≤ 9223372036854775807) :
    Calls Tryz.prog 63 #[.string s] w fun e w' => e = .returned (.bool (tokenB s)) ∧ Below w.heap.size w w' := by
  have hc := fun W => all_any 80 #[] isTok fn_tok_1 s W (tok_1 W) hs
  generalize hr : s.data.toList.all isTok = r at hc
  have HR := Lib.hid hr; clear hr
  have HC := Lib.hid hc; clear hc
  cases he : s.toList.isEmpty with
  | true =>
    have HE := Lib.hid ((isEmpty_data s).symm.trans he)
    have he2 : (!s.toList.isEmpty) = false := by rw [he]; rfl
    go_enter Tryz.func63, Tryz.ntmps63
    go_wp2
    go_ret
    exact ⟨ret_bool (by unfold tokenB; rw [HE.out]; rfl), Below.refl _ _⟩
  | false =>
    have HE := Lib.hid ((isEmpty_data s).symm.trans he)
    have he2 : (!s.toList.isEmpty) = true := by rw [he]; rfl
    go_enter Tryz.func63, Tryz.ntmps63
    go_wp2_with (go_at_call 79; refine (HC.out _).mono ?_; rintro e w' ⟨rfl, hb⟩)
    go_ret
    exact ⟨ret_bool (by unfold tokenB; rw [HE.out, HR.out]; rfl), hb⟩
end Go.Proofs.YthmnhbalmglohaaGreatDoor.T

/- text.Lower, text.Same over this program. -/
namespace Go.Proofs.YthmnhbalmglohaaGreatDoor.T
open Go.RowKit
set_option linter.unusedSimpArgs false
set_option linter.unusedVariables false

/-! ### Lower -/
theorem below_set1 {w : World} {W : World} {p : Addr} (h : Below w.heap.size w W) (u : Value) (hp : w.heap.size ≤ p.block) : Below w.heap.size w (W.setCell p u) := h.setCell hp u
def lowAt (l : List UInt8) (k j : Nat) : UInt8 := if j < k then lowC (l.getD j 0) else l.getD j 0
theorem lowC_cap (c : UInt8) (h0 : 65 ≤ (c.toNat : Int)) (h1 : (c.toNat : Int) ≤ 90) : (c.toNat : Int) + 97 - 65 = ((lowC c).toNat : Int) := by
  have h : ∀ n : Fin 256, 65 ≤ n.val → n.val ≤ 90 → n.val + 32 = (lowC (UInt8.ofNat n.val)).toNat := by decide +kernel
  have := h ⟨c.toNat, c.toNat_lt⟩ (by show 65 ≤ c.toNat; omega) (by show c.toNat ≤ 90; omega)
  simp at this
  omega
theorem lowC_other (c : UInt8) (h : (c.toNat : Int) < 65 ∨ 90 < (c.toNat : Int)) : lowC c = c := by
  have hh : ∀ n : Fin 256, (n.val < 65 ∨ 90 < n.val) → lowC (UInt8.ofNat n.val) = UInt8.ofNat n.val := by decide +kernel
  have := hh ⟨c.toNat, c.toNat_lt⟩ (by show c.toNat < 65 ∨ 90 < c.toNat; omega)
  simpa using this
theorem lowAt_keep (l : List UInt8) (k : Nat) (h : lowC (l.getD k 0) = l.getD k 0) (j : Nat) : lowAt l (k + 1) j = lowAt l k j := by
  unfold lowAt
  by_cases e : j = k
  · subst e; rw [if_pos (by omega), if_neg (by omega), h]
  · by_cases e2 : j < k
    · rw [if_pos (by omega), if_pos e2]
    · rw [if_neg (by omega), if_neg e2]
theorem lowAt_at (l : List UInt8) (k : Nat) : lowAt l k k = l.getD k 0 := by unfold lowAt; rw [if_neg (by omega)]
theorem lowAt_other (l : List UInt8) (k j : Nat) (h : j ≠ k) : lowAt l (k + 1) j = lowAt l k j := by
  unfold lowAt
  by_cases e2 : j < k
  · rw [if_pos (by omega), if_pos e2]
  · rw [if_neg (by omega), if_neg e2]
theorem lowAt_now (l : List UInt8) (k : Nat) : lowAt l (k + 1) k = lowC (l.getD k 0) := by unfold lowAt; rw [if_pos (by omega)]
def ints (l : List UInt8) : List Int := l.map fun c => (c.toNat : Int)
theorem ints_len (l : List UInt8) : (ints l).length = l.length := by simp [ints]
theorem ints_getD (l : List UInt8) (j : Nat) (h : j < l.length) : (ints l).getD j 0 = ((l.getD j 0).toNat : Int) := by
  simp [ints, List.getD_eq_getElem?_getD, List.getElem?_eq_getElem h]
theorem str_ints (l : List UInt8) : strOfNums (ints l) = ⟨l.toArray⟩ := by
  unfold strOfNums ints
  rw [List.map_map]
  have : ((fun n : Int => UInt8.ofNat n.toNat) ∘ fun c : UInt8 => (c.toNat : Int)) = id := funext fun c => by simp
  rw [this, List.map_id]
theorem low_getD (l : List UInt8) (j n : Nat) (h : j < l.length) (hn : n = l.length) : ((l.map lowC).getD j 0) = lowAt l n j := by
  unfold lowAt
  rw [if_pos (by omega)]
  simp [List.getD_eq_getElem?_getD, List.getElem?_eq_getElem h]
theorem bytes_frozen (w : World) (e : TypeId) (s : ByteArray) (j : Nat) (hj : j < s.size) : (Lib.bytesWorld w e s).frozen? ⟨w.heap.size, j, none⟩ = false := by
  have h1 : j < (Lib.bytesCells w e s).size := by
    unfold Lib.bytesCells
    rw [Array.size_append, Array.size_map]
    have : s.data.size = s.size := rfl
    omega
  unfold World.frozen?
  rw [Lib.bytesWorld_at_new]
  simp
  omega
set_option maxHeartbeats 2000000 in
theorem lower_any (s : ByteArray) (w : World) (hs : s.size ≤ 9223372036854775807) :
    Calls Tryz.prog 41 #[.string s] w fun e w' => e = .returned (.string (lowerB s)) ∧ Below w.heap.size w w' := by
  have hcv := fun w => Lib.run_convert_string_bytes (P := Tryz.prog) w 9 42 5 s Tryz.underlying9 Tryz.underlying42 Tryz.underlying5
  have HL := Lib.hid (size_toList s)
  go_enter Tryz.func41, Tryz.ntmps41
  go_wp2
  go_loopg [4, 5, 10] s.size (fun gg _ _ s10 wr => ∃ kk : Nat, kk ≤ s.size ∧ s.size - kk ≤ gg ∧ s10 = .int .i64 kk ∧ Aside (Below w.heap.size w wr) ∧ Aside (∀ j, j < s.size → wr.cell? ⟨w.heap.size, j, none⟩ = some (.int .u8 (lowAt s.data.toList kk j).toNat)) ∧ Aside (∀ j, j < s.size → wr.frozen? ⟨w.heap.size, j, none⟩ = false))
  case atStart =>
    refine ⟨0, Nat.zero_le _, by omega, rfl, below_bytes (Below.refl _ _) _ _, fun j hj => ?_, fun j hj => bytes_frozen w _ s j hj⟩
    rw [Lib.bytesWorld_cell w _ s j hj]
    rfl
  case round =>
    obtain ⟨kk, hkk, hg, rfl, HB0, HC0, HF0⟩ := hrel
    have HB : Hid (Below w.heap.size w wr) := Lib.hid HB0.out
    have HC := Lib.hid HC0.out
    have HF := Lib.hid HF0.out
    clear HB0 HC0 HF0
    clear hcv
    by_cases hlt : kk < s.size
    · have hltz : (kk : Int) < (s.size : Int) := by omega
      have hcell := HC.out kk hlt
      have hfro := HF.out kk hlt
      rw [lowAt_at] at hcell
      generalize hy : s.data.toList.getD kk 0 = y at hcell
      have B : Hid (s.data.toList.getD kk 0 = y) := Lib.hid hy
      clear hy
      have hy0 : 0 ≤ (y.toNat : Int) := by omega
      have hy1 : (y.toNat : Int) ≤ 255 := by have := y.toNat_lt; omega
      go_wp2
      · go_roundg (s.size - (kk + 1))
        case measure => omega
        case rel =>
          refine ⟨kk + 1, by omega, by omega, by go_num, below_set1 HB.out _ (Nat.le_refl _), fun j hj => ?_, fun j hj => by rw [World.frozen?_setCell]; exact HF.out j hj⟩
          by_cases e : j = kk
          · subst e
            rw [World.cell?_setCell_same wr _ _ hcell, lowAt_now, B.out, lowC_cap y (by omega) (by omega)]
          · rw [World.cell?_setCell_other wr _ _ _ (by intro e2; injection e2 with _ e3; exact e e3.symm), lowAt_other _ _ _ e]
            exact HC.out j hj
      · go_roundg (s.size - (kk + 1))
        case measure => omega
        case rel =>
          refine ⟨kk + 1, by omega, by omega, by go_num, HB.out, fun j hj => ?_, fun j hj => HF.out j hj⟩
          rw [lowAt_keep _ _ (by rw [B.out]; exact lowC_other y (by omega))]
          exact HC.out j hj
      · go_roundg (s.size - (kk + 1))
        case measure => omega
        case rel =>
          refine ⟨kk + 1, by omega, by omega, by go_num, HB.out, fun j hj => ?_, fun j hj => HF.out j hj⟩
          rw [lowAt_keep _ _ (by rw [B.out]; exact lowC_other y (by omega))]
          exact HC.out j hj
    · have hltz : ¬ (kk : Int) < (s.size : Int) := by omega
      obtain rfl : kk = s.size := by omega
      have hcv2 := run_convert_bytes_arg (P := Tryz.prog) wr 42 5 Tryz.underlying42 Tryz.underlying5 w.heap.size 0 s.size (grownCap w s.size 0 5) (ints (s.data.toList.map lowC)) (by rw [ints_len, List.length_map]; exact HL.out) (fun j hj => by
        rw [Nat.zero_add, ints_getD _ _ (by rw [List.length_map, HL.out]; exact hj), low_getD _ _ s.size (by rw [HL.out]; exact hj) HL.out.symm]
        exact HC.out j hj) 9 Tryz.underlying9
      rw [str_ints] at hcv2
      go_wp2
      go_ret
      exact ⟨rfl, HB.out⟩
end Go.Proofs.YthmnhbalmglohaaGreatDoor.T

/- text.Token, text.Visible, text.Lower in the print's form. -/
namespace Go.Proofs.YthmnhbalmglohaaGreatDoor.X
open Go.RowKit Go.Proofs.YthmnhbalmglohaaGreatDoorW.PrintWords Go.Proofs.YthmnhbalmglohaaGreatDoor.T
set_option linter.unusedVariables false
def text_Token.f (a0 : ByteArray) : Option Bool := if a0.size ≤ 9223372036854775807 then some (tokenB a0) else none
theorem text_Token.calls (a0 : ByteArray) (r : Bool) (w : World) (HGg : Glob w) (h : text_Token.f a0 = some r) : Calls Tryz.prog 63 #[.string a0] w fun e w' => e = .returned (.bool r) ∧ Below w.heap.size w w' := by
  obtain ⟨h1, rfl⟩ := of_lim h; exact token_any a0 w h1
def text_Lower.f (a0 : ByteArray) : Option ByteArray := if a0.size ≤ 9223372036854775807 then some (lowerB a0) else none
theorem text_Lower.calls (a0 : ByteArray) (r : ByteArray) (w : World) (HGg : Glob w) (h : text_Lower.f a0 = some r) : Calls Tryz.prog 41 #[.string a0] w fun e w' => e = .returned (.string r) ∧ Below w.heap.size w w' := by
  obtain ⟨h1, rfl⟩ := of_lim h; exact lower_any a0 w h1
end Go.Proofs.YthmnhbalmglohaaGreatDoor.X

-- PRINTED by print.py (a twelfth state) out of the translation. Not trusted: Lean checks it.
namespace Go.Proofs.YthmnhbalmglohaaGreatDoor.X
open Go.RowKit Go.Proofs.YthmnhbalmglohaaGreatDoorW.PrintWords Go.Proofs.YthmnhbalmglohaaGreatDoorW.PrintLast Go.Proofs.YthmnhbalmglohaaGreatDoorW.PrintMore
attribute [local go_sem] max2_int min2_int max_two min_two max_three min_three max_four min_four   -- for this text's walks alone
set_option linter.unusedVariables false
set_option linter.unusedSimpArgs false
open Go.Proofs.YthmnhbalmglohaaGreatDoor.T

/-! ### text_Same: function 23 -/
def text_Same.f (a0 : ByteArray) (a1 : ByteArray) : Option (Bool) := (text_Lower.f a0).bind fun t131 => ((text_Lower.f a1).bind fun t132 => (some (t131.toList == t132.toList)))
set_option maxHeartbeats 8000000 in
set_option maxRecDepth 100000 in
theorem text_Same.calls (a0 : ByteArray) (a1 : ByteArray) (r : Bool) (w : World) (HGg : Glob w) (h : text_Same.f a0 a1 = some r) :
    Calls Tryz.prog 23 #[.string a0, .string a1] w fun e w' => e = .returned (.bool r) ∧ Below w.heap.size w w' := by
  have HGl := Aside0.mk HGg
  clear HGg
  have HB := Aside0.mk (Below.refl w.heap.size w)
  have H : ((text_Lower.f a0).bind fun t131 => ((text_Lower.f a1).bind fun t132 => (some (t131.toList == t132.toList)))) = some r := h
  clear h
  replace H := Option.bind_eq_some_iff.mp H
  obtain ⟨t131, A30, H⟩ := H
  replace H : ((text_Lower.f a1).bind fun t132 => (some (t131.toList == t132.toList))) = some r := H
  have A3 := Aside0.mk A30
  clear A30
  replace H := Option.bind_eq_some_iff.mp H
  obtain ⟨t132, A40, H⟩ := H
  replace H : (some (t131.toList == t132.toList)) = some r := H
  have A4 := Aside0.mk A40
  clear A40
  obtain rfl := Option.some.inj H
  go_enter Tryz.func23, Tryz.ntmps23
  go_wp2_with (first | ((with_reducible refine gate_callee (f := 41) rfl ?_); refine goesL_ (some 6) rfl rfl Tryz.func41 (by kernel_rfl) rfl #[.string a0] rfl (by (try simp only [List.map_toArray, List.map_cons, List.map_nil]); first | done | rfl | (simp only [List.length_drop, List.length_take]; rfl)) ?_; (with_reducible refine (text_Lower.calls a0 t131 _ (Glob.below HGl.out (by repeat (first | (with_reducible first | exact HB.out | apply below_alloc | apply pw_below_drewN | apply below_drew1) | exact HB.out))) A3.out).mono ?_); rintro e w5 ⟨rfl, hb⟩; refine ⟨_, rfl, ?_⟩; have n0_ := Aside0.mk (below_step (by repeat (first | (with_reducible first | exact HB.out | apply below_alloc | apply pw_below_drewN | apply below_drew1) | exact HB.out)) hb); clear HB; have HB := n0_; clear n0_; (try clear hb); (try clear hb2); (try clear hk); (try clear hi)) | ((with_reducible refine gate_callee (f := 41) rfl ?_); refine goesL_ (some 8) rfl rfl Tryz.func41 (by kernel_rfl) rfl #[.string a1] rfl (by (try simp only [List.map_toArray, List.map_cons, List.map_nil]); first | done | rfl | (simp only [List.length_drop, List.length_take]; rfl)) ?_; (with_reducible refine (text_Lower.calls a1 t132 _ (Glob.below HGl.out (by repeat (first | (with_reducible first | exact HB.out | apply below_alloc | apply pw_below_drewN | apply below_drew1) | exact HB.out))) A4.out).mono ?_); rintro e w6 ⟨rfl, hb⟩; refine ⟨_, rfl, ?_⟩; have n0_ := Aside0.mk (below_step (by repeat (first | (with_reducible first | exact HB.out | apply below_alloc | apply pw_below_drewN | apply below_drew1) | exact HB.out)) hb); clear HB; have HB := n0_; clear n0_; (try clear hb); (try clear hb2); (try clear hk); (try clear hi)))
  go_ret
  exact ⟨by first | rfl | (simp [errW_none, errW_some] <;> rfl) | (simp [*, errW_none, errW_some] <;> rfl), by repeat (first | (with_reducible first | exact HB.out | apply below_alloc | apply pw_below_drewN | apply below_drew1) | exact HB.out)⟩

end Go.Proofs.YthmnhbalmglohaaGreatDoor.X

/- auth.May over this program. -/
namespace Go.Proofs.YthmnhbalmglohaaGreatDoor.T
open Go.RowKit
set_option linter.unusedSimpArgs false
set_option linter.unusedVariables false
/-- a proxy token's byte -/
def isAuth (c : UInt8) : Bool := (97 ≤ c && c ≤ 122) || (65 ≤ c && c ≤ 90) || (48 ≤ c && c ≤ 57) || [45, 46, 95, 126, 43, 47].contains c
def bareB (s : ByteArray) : ByteArray := ⟨(Lib.trimRightB s.data.toList 61).toArray⟩
def authMayB (s : ByteArray) : Bool := !(bareB s).data.toList.isEmpty && (decide (s.size ≤ 64) && (bareB s).data.toList.all isAuth)
def sgnA (c : UInt8) : Int := Lib.indexByte [45, 46, 95, 126, 43, 47] c
theorem auth_spec (c : UInt8) : isAuth c = ((decide (97 ≤ ((c ||| 32).toNat : Int)) && decide (((c ||| 32).toNat : Int) ≤ 122)) || (decide (48 ≤ (c.toNat : Int)) && decide ((c.toNat : Int) ≤ 57)) || decide (0 ≤ sgnA c)) := by
  have h : ∀ n : Fin 256, isAuth (UInt8.ofNat n.val) = ((decide (97 ≤ ((UInt8.ofNat n.val ||| 32).toNat : Int)) && decide (((UInt8.ofNat n.val ||| 32).toNat : Int) ≤ 122)) || (decide (48 ≤ ((UInt8.ofNat n.val).toNat : Int)) && decide (((UInt8.ofNat n.val).toNat : Int) ≤ 57)) || decide (0 ≤ sgnA (UInt8.ofNat n.val))) := by decide +kernel
  have := h ⟨c.toNat, c.toNat_lt⟩
  simpa using this
theorem sgnA_any (c : UInt8) (w : World) : Calls Tryz.prog 29 #[.string ⟨#[45, 46, 95, 126, 43, 47]⟩, .int .u8 c.toNat] w fun e w' => e = .returned (.int .i64 (sgnA c)) ∧ w = w' := by
  refine (Tryz.strings_IndexByte _ _ _).mono fun e w' ⟨he, hw⟩ => ⟨?_, hw.symm⟩
  rw [he]
  show Ending.returned (.int .i64 (Lib.indexByte _ (UInt8.ofNat c.toNat))) = _
  rw [UInt8.ofNat_toNat]
  rfl
set_option maxHeartbeats 1000000 in
theorem abad_1 (w : World) : PredB 28 #[] (fun c => !isAuth c) w := by
  intro W c hb
  have hl := bits_low c
  have HT := Lib.hid (auth_spec c)
  clear hb
  have h0 : 0 ≤ ((c ||| 32).toNat : Int) := by omega
  generalize hx : ((c ||| 32).toNat : Int) = x at hl h0 HT
  clear hx
  go_enter Tryz.func28, Tryz.ntmps28
  go_wp2_with (go_at_call 29; refine (sgnA_any c _).mono ?_; rintro e w' ⟨rfl, rfl⟩)
  all_goals
    go_ret
    refine ⟨ret_bool ?_, Below.refl _ _⟩
    rw [HT.out, Bool.eq_iff_iff]
    simp only [Bool.or_eq_true, Bool.and_eq_true, decide_eq_true_eq, true_iff, Bool.false_eq_true, false_iff, Bool.not_eq_true', Bool.or_eq_false_iff, Bool.and_eq_false_iff, decide_eq_false_iff_not]
    omega
theorem fn_abad : ∀ args w, (callFunc 28 args).run Tryz.prog w = .ok (.enter 28 args) w := enters_of Tryz.func28 (by kernel_rfl) rfl
theorem amay_any (s : ByteArray) (w : World) (hs : s.size ≤ 9223372036854775807) :
    Calls Tryz.prog 13 #[.string s] w fun e w' => e = .returned (.bool (authMayB s)) ∧ Below w.heap.size w w' := by
  have HTR := Lib.hid (Tryz.strings_TrimRight_one s 61 (by decide) w hs)
  have hz : (bareB s).size ≤ s.size := by
    show (Lib.trimRightB s.data.toList 61).toArray.size ≤ _
    rw [List.size_toArray, ← size_toList s]
    unfold Lib.trimRightB
    rw [List.length_reverse]
    have := (List.dropWhile_sublist (fun x => x == (61 : UInt8)) (l := s.data.toList.reverse)).length_le
    rw [List.length_reverse] at this
    exact this
  have HM : Hid (authMayB s = (!(bareB s).data.toList.isEmpty && (decide (s.size ≤ 64) && (bareB s).data.toList.all isAuth))) := Lib.hid rfl
  have HB : Hid (bareB s = ⟨(Lib.trimRightB s.data.toList 61).toArray⟩) := Lib.hid rfl
  have HTR2 : Hid (Calls Tryz.prog 27 #[.string s, .string ⟨#[61]⟩] w fun e w' => e = .returned (.string (bareB s)) ∧ w' = w) := HTR
  clear HTR HB
  generalize bareB s = b at HM HTR2 hz
  have hcv := fun w => Lib.run_convert_string_bytes (P := Tryz.prog) w 9 42 5 b Tryz.underlying9 Tryz.underlying42 Tryz.underlying5
  have hc := fun c => contains_conv _ #[] _ fn_abad b w w w.heap.size c rfl (Below.refl _ _) (abad_1 w) (by omega)
  generalize hr : (b.data.toList.any fun c => !isAuth c) = r at hc
  have HR := Lib.hid hr; clear hr
  have HC := Lib.hid hc; clear hc
  have HA : Hid (b.data.toList.all isAuth = !(b.data.toList.any fun c => !isAuth c)) := Lib.hid (by rw [List.not_any_eq_all_not]; simp)
  cases he : b.toList.isEmpty with
  | true =>
    have HE := Lib.hid ((isEmpty_data0 b).symm.trans he)
    have he2 : (!b.toList.isEmpty) = false := by rw [he]; rfl
    go_enter Tryz.func13, Tryz.ntmps13
    go_wp2_with (go_at_call 27; refine HTR2.out.mono ?_; rintro e w1 ⟨rfl, rfl⟩)
    go_ret
    exact ⟨ret_bool (by rw [HM.out, HE.out]; rfl), Below.refl _ _⟩
  | false =>
    have HE := Lib.hid ((isEmpty_data0 b).symm.trans he)
    have he2 : (!b.toList.isEmpty) = true := by rw [he]; rfl
    by_cases h64 : s.size ≤ 64
    · have h64z : (s.size : Int) ≤ 64 := by omega
      rw [decide_eq_true h64] at HM
      clear h64
      go_enter Tryz.func13, Tryz.ntmps13
      go_wp2_with (first | (go_at_call 27; refine HTR2.out.mono ?_; rintro e w1 ⟨rfl, hw1⟩; obtain rfl := hw1) | (go_at_call 30; refine (HC.out _).mono ?_; rintro e w' ⟨rfl, hb⟩))
      go_ret
      exact ⟨ret_bool (by rw [HM.out, HE.out, HA.out, HR.out]; simp), hb⟩
    · have h64z : ¬ (s.size : Int) ≤ 64 := by omega
      rw [decide_eq_false h64] at HM
      clear h64
      go_enter Tryz.func13, Tryz.ntmps13
      go_wp2_with (go_at_call 27; refine HTR2.out.mono ?_; rintro e w1 ⟨rfl, rfl⟩)
      go_ret
      exact ⟨ret_bool (by rw [HM.out]; simp), Below.refl _ _⟩
end Go.Proofs.YthmnhbalmglohaaGreatDoor.T

/- auth.May in the print's form. -/
namespace Go.Proofs.YthmnhbalmglohaaGreatDoor.X
open Go.RowKit Go.Proofs.YthmnhbalmglohaaGreatDoorW.PrintWords Go.Proofs.YthmnhbalmglohaaGreatDoor.T
set_option linter.unusedVariables false
def auth_May.f (a0 : ByteArray) : Option Bool := if a0.size ≤ 9223372036854775807 then some (authMayB a0) else none
theorem auth_May.calls (a0 : ByteArray) (r : Bool) (w : World) (HGg : Glob w) (h : auth_May.f a0 = some r) : Calls Tryz.prog 13 #[.string a0] w fun e w' => e = .returned (.bool r) ∧ Below w.heap.size w w' := by
  obtain ⟨h1, rfl⟩ := of_lim h; exact amay_any a0 w h1
end Go.Proofs.YthmnhbalmglohaaGreatDoor.X

/- Functions of package strings, slices and strconv in the print's form, out of the library's contracts. -/
namespace Go.Proofs.YthmnhbalmglohaaGreatDoor.X
open Go.RowKit Go.Proofs.YthmnhbalmglohaaGreatDoorW.PrintWords Go.Proofs.YthmnhbalmglohaaGreatDoor.T
set_option linter.unusedVariables false
def strings_TrimPrefix.f (a0 a1 : ByteArray) : Option ByteArray := some ⟨(Lib.trimPrefix a0.data.toList a1.data.toList).toArray⟩
theorem strings_TrimPrefix.calls (a0 a1 : ByteArray) (r : ByteArray) (w : World) (HGg : Glob w) (h : strings_TrimPrefix.f a0 a1 = some r) : Calls Tryz.prog 61 #[.string a0, .string a1] w fun e w' => e = .returned (.string r) ∧ Drawn0 w w' := by
  cases h; exact (Tryz.strings_TrimPrefix a0 a1 w).mono fun e w' ⟨he, hw⟩ => ⟨he, drawn_same hw⟩
def strings_Cut.f (a0 a1 : ByteArray) : Option (ByteArray × ByteArray × Bool) := if a0.size < 4294967281 then some (⟨(Lib.cut a0.data.toList a1.data.toList).1.toArray⟩, ⟨(Lib.cut a0.data.toList a1.data.toList).2.1.toArray⟩, (Lib.cut a0.data.toList a1.data.toList).2.2) else none
theorem strings_Cut.calls (a0 a1 : ByteArray) (r1 r2 : ByteArray) (r3 : Bool) (w : World) (HGg : Glob w) (h : strings_Cut.f a0 a1 = some (r1, r2, r3)) : Calls Tryz.prog 31 #[.string a0, .string a1] w fun e w' => e = .returned (.tuple #[.string r1, .string r2, .bool r3]) ∧ Drawn0 w w' := by
  obtain ⟨h1, h2⟩ := of_lim h; injection h2 with e1 e2; injection e2 with e2 e3; subst e1 e2 e3; obtain ⟨m, hm⟩ := HGg.maxLen
  exact (Tryz.strings_Cut a0 a1 m w h1 hm).mono fun e w' ⟨he, hw⟩ => ⟨he, drawn_of hw⟩
def strconv_Itoa.f (a0 : Int) : Option ByteArray := if -9223372036854775808 ≤ a0 ∧ a0 ≤ 9223372036854775807 then some ⟨(Lib.itoa a0).toArray⟩ else none
theorem strconv_Itoa.calls (a0 : Int) (r : ByteArray) (w : World) (HGg : Glob w) (h : strconv_Itoa.f a0 = some r) : Calls Tryz.prog 123 #[.int .i64 a0] w fun e w' => e = .returned (.string r) ∧ Below w.heap.size w w' := by
  obtain ⟨⟨h1, h2⟩, rfl⟩ := of_lim h; exact (Tryz.strconv_Itoa a0 h1 h2 w HGg.pow10).mono fun e w' ⟨he, hw⟩ => ⟨he, below_drewgrow hw⟩
end Go.Proofs.YthmnhbalmglohaaGreatDoor.X

/- strings.TrimLeft at one blank in the print's form. -/
namespace Go.Proofs.YthmnhbalmglohaaGreatDoor.X
open Go.RowKit Go.Proofs.YthmnhbalmglohaaGreatDoorW.PrintWords Go.Proofs.YthmnhbalmglohaaGreatDoor.T
set_option linter.unusedVariables false
def strings_TrimLeft.f (a0 a1 : ByteArray) : Option ByteArray := if a1 = (⟨#[32]⟩ : ByteArray) then some ⟨(Lib.trimLeftB a0.data.toList 32).toArray⟩ else none
theorem strings_TrimLeft.calls (a0 a1 : ByteArray) (r : ByteArray) (w : World) (HGg : Glob w) (h : strings_TrimLeft.f a0 a1 = some r) : Calls Tryz.prog 32 #[.string a0, .string a1] w fun e w' => e = .returned (.string r) ∧ Drawn0 w w' := by
  obtain ⟨rfl, rfl⟩ := of_lim h; exact (Tryz.strings_TrimLeft_one a0 32 (by decide) w).mono fun e w' ⟨he, hw⟩ => ⟨he, drawn_same hw⟩
end Go.Proofs.YthmnhbalmglohaaGreatDoor.X

-- PRINTED by print.py (a twelfth state) out of the translation. Not trusted: Lean checks it.
namespace Go.Proofs.YthmnhbalmglohaaGreatDoor.X
open Go.RowKit Go.Proofs.YthmnhbalmglohaaGreatDoorW.PrintWords Go.Proofs.YthmnhbalmglohaaGreatDoorW.PrintLast Go.Proofs.YthmnhbalmglohaaGreatDoorW.PrintMore
attribute [local go_sem] max2_int min2_int max_two min_two max_three min_three max_four min_four   -- for this text's walks alone
set_option linter.unusedVariables false
set_option linter.unusedSimpArgs false
open Go.Proofs.YthmnhbalmglohaaGreatDoor.T

/-! ### auth_Credential: function 16 -/
def auth_Credential.f (a0 : ByteArray) : Option (ByteArray × Bool) := (strings_Cut.f a0 (⟨#[32]⟩ : ByteArray)).bind fun bt133 => ((strings_TrimLeft.f bt133.2.1 (⟨#[32]⟩ : ByteArray)).bind fun t136 => ((text_Same.f bt133.1 (⟨#[98, 101, 97, 114, 101, 114]⟩ : ByteArray)).bind fun t137 => (if t137 = true then ((auth_May.f t136).bind fun t138 => (if t138 = true then (some (t136, true)) else (some ((⟨#[]⟩ : ByteArray), false)))) else (some ((⟨#[]⟩ : ByteArray), false)))))
set_option maxHeartbeats 8000000 in
set_option maxRecDepth 100000 in
theorem auth_Credential.calls (a0 : ByteArray) (r1 : ByteArray) (r2 : Bool) (w : World) (HGg : Glob w) (h : auth_Credential.f a0 = some (r1, r2)) :
    Calls Tryz.prog 16 #[.string a0] w fun e w' => e = .returned (.tuple #[.string r1, .bool r2]) ∧ Below w.heap.size w w' := by
  have HGl := Aside0.mk HGg
  clear HGg
  have HB := Aside0.mk (Below.refl w.heap.size w)
  have H : ((strings_Cut.f a0 (⟨#[32]⟩ : ByteArray)).bind fun bt133 => ((strings_TrimLeft.f bt133.2.1 (⟨#[32]⟩ : ByteArray)).bind fun t136 => ((text_Same.f bt133.1 (⟨#[98, 101, 97, 114, 101, 114]⟩ : ByteArray)).bind fun t137 => (if t137 = true then ((auth_May.f t136).bind fun t138 => (if t138 = true then (some (t136, true)) else (some ((⟨#[]⟩ : ByteArray), false)))) else (some ((⟨#[]⟩ : ByteArray), false)))))) = some (r1, r2) := h
  clear h
  replace H := Option.bind_eq_some_iff.mp H
  obtain ⟨⟨t133, t134, t135⟩, A20, H⟩ := H
  replace H : ((strings_TrimLeft.f t134 (⟨#[32]⟩ : ByteArray)).bind fun t136 => ((text_Same.f t133 (⟨#[98, 101, 97, 114, 101, 114]⟩ : ByteArray)).bind fun t137 => (if t137 = true then ((auth_May.f t136).bind fun t138 => (if t138 = true then (some (t136, true)) else (some ((⟨#[]⟩ : ByteArray), false)))) else (some ((⟨#[]⟩ : ByteArray), false))))) = some (r1, r2) := H
  have A2 := Aside0.mk A20
  clear A20
  replace H := Option.bind_eq_some_iff.mp H
  obtain ⟨t136, A30, H⟩ := H
  replace H : ((text_Same.f t133 (⟨#[98, 101, 97, 114, 101, 114]⟩ : ByteArray)).bind fun t137 => (if t137 = true then ((auth_May.f t136).bind fun t138 => (if t138 = true then (some (t136, true)) else (some ((⟨#[]⟩ : ByteArray), false)))) else (some ((⟨#[]⟩ : ByteArray), false)))) = some (r1, r2) := H
  have A3 := Aside0.mk A30
  clear A30
  replace H := Option.bind_eq_some_iff.mp H
  obtain ⟨t137, A40, H⟩ := H
  replace H : (if t137 = true then ((auth_May.f t136).bind fun t138 => (if t138 = true then (some (t136, true)) else (some ((⟨#[]⟩ : ByteArray), false)))) else (some ((⟨#[]⟩ : ByteArray), false))) = some (r1, r2) := H
  have A4 := Aside0.mk A40
  clear A40
  by_cases c5 : t137 = true
  · subst c5
    have H1 : ((auth_May.f t136).bind fun t138 => (if t138 = true then (some (t136, true)) else (some ((⟨#[]⟩ : ByteArray), false)))) = some (r1, r2) := by rw [if_pos rfl] at H; exact H
    clear H
    have H := H1
    clear H1
    replace H := Option.bind_eq_some_iff.mp H
    obtain ⟨t138, A60, H⟩ := H
    replace H : (if t138 = true then (some (t136, true)) else (some ((⟨#[]⟩ : ByteArray), false))) = some (r1, r2) := H
    have A6 := Aside0.mk A60
    clear A60
    by_cases c7 : t138 = true
    · subst c7
      have H1 : (some (t136, true)) = some (r1, r2) := by rw [if_pos rfl] at H; exact H
      clear H
      have H := H1
      clear H1
      simp only [Option.some.injEq, Prod.mk.injEq] at H
      obtain ⟨rfl, rfl⟩ := H
      go_enter Tryz.func16, Tryz.ntmps16
      go_wp2_with (first | ((with_reducible refine gate_callee (f := 31) rfl ?_); refine goesL_ (some 10) rfl rfl Tryz.func31 (by kernel_rfl) rfl #[.string a0, .string (⟨#[32]⟩ : ByteArray)] rfl (by (try simp only [List.map_toArray, List.map_cons, List.map_nil]); first | done | rfl | (simp only [List.length_drop, List.length_take]; rfl)) ?_; (with_reducible refine (strings_Cut.calls a0 (⟨#[32]⟩ : ByteArray) t133 t134 t135 _ (Glob.below HGl.out (by repeat (first | (with_reducible first | exact HB.out | apply below_alloc | apply pw_below_drewN | apply below_drew1) | exact HB.out))) A2.out).mono ?_); rintro e w' ⟨rfl, ⟨nd, rfl⟩⟩; refine ⟨_, rfl, ?_⟩) | ((with_reducible refine gate_callee (f := 32) rfl ?_); refine goesL_ (some 15) rfl rfl Tryz.func32 (by kernel_rfl) rfl #[.string t134, .string (⟨#[32]⟩ : ByteArray)] rfl (by (try simp only [List.map_toArray, List.map_cons, List.map_nil]); first | done | rfl | (simp only [List.length_drop, List.length_take]; rfl)) ?_; (with_reducible refine (strings_TrimLeft.calls t134 (⟨#[32]⟩ : ByteArray) t136 _ (Glob.below HGl.out (by repeat (first | (with_reducible first | exact HB.out | apply below_alloc | apply pw_below_drewN | apply below_drew1) | exact HB.out))) A3.out).mono ?_); rintro e w' ⟨rfl, ⟨nd, rfl⟩⟩; refine ⟨_, rfl, ?_⟩) | ((with_reducible refine gate_callee (f := 23) rfl ?_); refine goesL_ (some 17) rfl rfl Tryz.func23 (by kernel_rfl) rfl #[.string t133, .string (⟨#[98, 101, 97, 114, 101, 114]⟩ : ByteArray)] rfl (by (try simp only [List.map_toArray, List.map_cons, List.map_nil]); first | done | rfl | (simp only [List.length_drop, List.length_take]; rfl)) ?_; (with_reducible refine (text_Same.calls t133 (⟨#[98, 101, 97, 114, 101, 114]⟩ : ByteArray) true _ (Glob.below HGl.out (by repeat (first | (with_reducible first | exact HB.out | apply below_alloc | apply pw_below_drewN | apply below_drew1) | exact HB.out))) A4.out).mono ?_); rintro e w8 ⟨rfl, hb⟩; refine ⟨_, rfl, ?_⟩; have n0_ := Aside0.mk (below_step (by repeat (first | (with_reducible first | exact HB.out | apply below_alloc | apply pw_below_drewN | apply below_drew1) | exact HB.out)) hb); clear HB; have HB := n0_; clear n0_; (try clear hb); (try clear hb2); (try clear hk); (try clear hi)) | (go_at_call 13; (with_reducible refine (auth_May.calls t136 true _ (Glob.below HGl.out (by repeat (first | (with_reducible first | exact HB.out | apply below_alloc | apply pw_below_drewN | apply below_drew1) | exact HB.out))) A6.out).mono ?_); rintro e w9 ⟨rfl, hb⟩; have n0_ := Aside0.mk (below_step (by repeat (first | (with_reducible first | exact HB.out | apply below_alloc | apply pw_below_drewN | apply below_drew1) | exact HB.out)) hb); clear HB; have HB := n0_; clear n0_; (try clear hb); (try clear hb2); (try clear hk); (try clear hi)))
      go_ret2
      exact ⟨by first | rfl | (simp [errW_none, errW_some] <;> rfl) | (simp [*, errW_none, errW_some] <;> rfl), by repeat (first | (with_reducible first | exact HB.out | apply below_alloc | apply pw_below_drewN | apply below_drew1) | exact HB.out)⟩
    · replace c7 := Bool.eq_false_iff.mpr c7
      subst c7
      have H1 : (some ((⟨#[]⟩ : ByteArray), false)) = some (r1, r2) := by rw [if_neg (show ¬ (false = true) by decide)] at H; exact H
      clear H
      have H := H1
      clear H1
      simp only [Option.some.injEq, Prod.mk.injEq] at H
      obtain ⟨rfl, rfl⟩ := H
      go_enter Tryz.func16, Tryz.ntmps16
      go_wp2_with (first | ((with_reducible refine gate_callee (f := 31) rfl ?_); refine goesL_ (some 10) rfl rfl Tryz.func31 (by kernel_rfl) rfl #[.string a0, .string (⟨#[32]⟩ : ByteArray)] rfl (by (try simp only [List.map_toArray, List.map_cons, List.map_nil]); first | done | rfl | (simp only [List.length_drop, List.length_take]; rfl)) ?_; (with_reducible refine (strings_Cut.calls a0 (⟨#[32]⟩ : ByteArray) t133 t134 t135 _ (Glob.below HGl.out (by repeat (first | (with_reducible first | exact HB.out | apply below_alloc | apply pw_below_drewN | apply below_drew1) | exact HB.out))) A2.out).mono ?_); rintro e w' ⟨rfl, ⟨nd, rfl⟩⟩; refine ⟨_, rfl, ?_⟩) | ((with_reducible refine gate_callee (f := 32) rfl ?_); refine goesL_ (some 15) rfl rfl Tryz.func32 (by kernel_rfl) rfl #[.string t134, .string (⟨#[32]⟩ : ByteArray)] rfl (by (try simp only [List.map_toArray, List.map_cons, List.map_nil]); first | done | rfl | (simp only [List.length_drop, List.length_take]; rfl)) ?_; (with_reducible refine (strings_TrimLeft.calls t134 (⟨#[32]⟩ : ByteArray) t136 _ (Glob.below HGl.out (by repeat (first | (with_reducible first | exact HB.out | apply below_alloc | apply pw_below_drewN | apply below_drew1) | exact HB.out))) A3.out).mono ?_); rintro e w' ⟨rfl, ⟨nd, rfl⟩⟩; refine ⟨_, rfl, ?_⟩) | ((with_reducible refine gate_callee (f := 23) rfl ?_); refine goesL_ (some 17) rfl rfl Tryz.func23 (by kernel_rfl) rfl #[.string t133, .string (⟨#[98, 101, 97, 114, 101, 114]⟩ : ByteArray)] rfl (by (try simp only [List.map_toArray, List.map_cons, List.map_nil]); first | done | rfl | (simp only [List.length_drop, List.length_take]; rfl)) ?_; (with_reducible refine (text_Same.calls t133 (⟨#[98, 101, 97, 114, 101, 114]⟩ : ByteArray) true _ (Glob.below HGl.out (by repeat (first | (with_reducible first | exact HB.out | apply below_alloc | apply pw_below_drewN | apply below_drew1) | exact HB.out))) A4.out).mono ?_); rintro e w10 ⟨rfl, hb⟩; refine ⟨_, rfl, ?_⟩; have n0_ := Aside0.mk (below_step (by repeat (first | (with_reducible first | exact HB.out | apply below_alloc | apply pw_below_drewN | apply below_drew1) | exact HB.out)) hb); clear HB; have HB := n0_; clear n0_; (try clear hb); (try clear hb2); (try clear hk); (try clear hi)) | (go_at_call 13; (with_reducible refine (auth_May.calls t136 false _ (Glob.below HGl.out (by repeat (first | (with_reducible first | exact HB.out | apply below_alloc | apply pw_below_drewN | apply below_drew1) | exact HB.out))) A6.out).mono ?_); rintro e w11 ⟨rfl, hb⟩; have n0_ := Aside0.mk (below_step (by repeat (first | (with_reducible first | exact HB.out | apply below_alloc | apply pw_below_drewN | apply below_drew1) | exact HB.out)) hb); clear HB; have HB := n0_; clear n0_; (try clear hb); (try clear hb2); (try clear hk); (try clear hi)))
      go_ret2
      exact ⟨by first | rfl | (simp [errW_none, errW_some] <;> rfl) | (simp [*, errW_none, errW_some] <;> rfl), by repeat (first | (with_reducible first | exact HB.out | apply below_alloc | apply pw_below_drewN | apply below_drew1) | exact HB.out)⟩
  · replace c5 := Bool.eq_false_iff.mpr c5
    subst c5
    have H1 : (some ((⟨#[]⟩ : ByteArray), false)) = some (r1, r2) := by rw [if_neg (show ¬ (false = true) by decide)] at H; exact H
    clear H
    have H := H1
    clear H1
    simp only [Option.some.injEq, Prod.mk.injEq] at H
    obtain ⟨rfl, rfl⟩ := H
    go_enter Tryz.func16, Tryz.ntmps16
    go_wp2_with (first | ((with_reducible refine gate_callee (f := 31) rfl ?_); refine goesL_ (some 10) rfl rfl Tryz.func31 (by kernel_rfl) rfl #[.string a0, .string (⟨#[32]⟩ : ByteArray)] rfl (by (try simp only [List.map_toArray, List.map_cons, List.map_nil]); first | done | rfl | (simp only [List.length_drop, List.length_take]; rfl)) ?_; (with_reducible refine (strings_Cut.calls a0 (⟨#[32]⟩ : ByteArray) t133 t134 t135 _ (Glob.below HGl.out (by repeat (first | (with_reducible first | exact HB.out | apply below_alloc | apply pw_below_drewN | apply below_drew1) | exact HB.out))) A2.out).mono ?_); rintro e w' ⟨rfl, ⟨nd, rfl⟩⟩; refine ⟨_, rfl, ?_⟩) | ((with_reducible refine gate_callee (f := 32) rfl ?_); refine goesL_ (some 15) rfl rfl Tryz.func32 (by kernel_rfl) rfl #[.string t134, .string (⟨#[32]⟩ : ByteArray)] rfl (by (try simp only [List.map_toArray, List.map_cons, List.map_nil]); first | done | rfl | (simp only [List.length_drop, List.length_take]; rfl)) ?_; (with_reducible refine (strings_TrimLeft.calls t134 (⟨#[32]⟩ : ByteArray) t136 _ (Glob.below HGl.out (by repeat (first | (with_reducible first | exact HB.out | apply below_alloc | apply pw_below_drewN | apply below_drew1) | exact HB.out))) A3.out).mono ?_); rintro e w' ⟨rfl, ⟨nd, rfl⟩⟩; refine ⟨_, rfl, ?_⟩) | ((with_reducible refine gate_callee (f := 23) rfl ?_); refine goesL_ (some 17) rfl rfl Tryz.func23 (by kernel_rfl) rfl #[.string t133, .string (⟨#[98, 101, 97, 114, 101, 114]⟩ : ByteArray)] rfl (by (try simp only [List.map_toArray, List.map_cons, List.map_nil]); first | done | rfl | (simp only [List.length_drop, List.length_take]; rfl)) ?_; (with_reducible refine (text_Same.calls t133 (⟨#[98, 101, 97, 114, 101, 114]⟩ : ByteArray) false _ (Glob.below HGl.out (by repeat (first | (with_reducible first | exact HB.out | apply below_alloc | apply pw_below_drewN | apply below_drew1) | exact HB.out))) A4.out).mono ?_); rintro e w12 ⟨rfl, hb⟩; refine ⟨_, rfl, ?_⟩; have n0_ := Aside0.mk (below_step (by repeat (first | (with_reducible first | exact HB.out | apply below_alloc | apply pw_below_drewN | apply below_drew1) | exact HB.out)) hb); clear HB; have HB := n0_; clear n0_; (try clear hb); (try clear hb2); (try clear hk); (try clear hi)))
    go_ret2
    exact ⟨by first | rfl | (simp [errW_none, errW_some] <;> rfl) | (simp [*, errW_none, errW_some] <;> rfl), by repeat (first | (with_reducible first | exact HB.out | apply below_alloc | apply pw_below_drewN | apply below_drew1) | exact HB.out)⟩

end Go.Proofs.YthmnhbalmglohaaGreatDoor.X

-- PRINTED by print.py (a twelfth state) out of the translation. Not trusted: Lean checks it.
namespace Go.Proofs.YthmnhbalmglohaaGreatDoor.X
open Go.RowKit Go.Proofs.YthmnhbalmglohaaGreatDoorW.PrintWords Go.Proofs.YthmnhbalmglohaaGreatDoorW.PrintLast Go.Proofs.YthmnhbalmglohaaGreatDoorW.PrintMore
attribute [local go_sem] max2_int min2_int max_two min_two max_three min_three max_four min_four   -- for this text's walks alone
set_option linter.unusedVariables false
set_option linter.unusedSimpArgs false
open Go.Proofs.YthmnhbalmglohaaGreatDoor.T

/-! ### head_Get: function 34 -/
def head_Get.l0 : Nat → ByteArray → List ByteArray → List (S48) → Int → Int → Option (List ByteArray)
  | 0, _, _, _, _, _ => none
  | k + 1, x1, x5, x8, x9, x10 => if x10 < x9 then (if 0 ≤ x10 then (if x10 < (x8.length : Int) then ((text_Same.f ((rd_T48 x8 x10).f0) x1).bind fun t141 => (if t141 = true then (if x5.length < 8796093022208 then (head_Get.l0 k x1 (x5 ++ [(rd_T48 x8 x10).f1]) x8 x9 (wrap64 (x10 + 1))) else (none)) else (head_Get.l0 k x1 x5 x8 x9 (wrap64 (x10 + 1))))) else (none)) else (none)) else (some x5)
def head_Get.f (k : Nat) (l0 : List (S48)) (a1 : ByteArray) : Option (List ByteArray) := head_Get.l0 k a1 ([] : List ByteArray) l0 (l0.length : Int) 0
theorem head_Get.mono_l : ∀ k, (∀ y0 y1 y2 y3 y4, LeO (head_Get.l0 k y0 y1 y2 y3 y4) (head_Get.l0 (k + 1) y0 y1 y2 y3 y4))
  | 0 => fun _ _ _ _ _ r h => by simp [head_Get.l0] at h
  | k + 1 => by
    have ih0 := head_Get.mono_l k
    · intro y0 y1 y2 y3 y4
      unfold head_Get.l0
      repeat' first
      | (with_reducible exact ih0 _ _ _ _ _)
      | (with_reducible exact LeO.refl _)
      | (with_reducible exact LeO.none _)
      | (with_reducible refine LeO.ite ?_ ?_)
      | (with_reducible refine LeO.bind ?_ (fun _ => ?_))
      | exact ih0 _ _ _ _ _
      | exact LeO.none _
      | refine LeO.ite ?_ ?_
      | refine LeO.bind ?_ (fun _ => ?_)
theorem head_Get.mono : ∀ a0 a1 k, LeO (head_Get.f k a0 a1) (head_Get.f (k + 1) a0 a1) := by
  intro a0 a1 k
  have ih0 := head_Get.mono_l k
  unfold head_Get.f
  repeat' first
      | (with_reducible exact ih0 _ _ _ _ _)
      | (with_reducible exact LeO.refl _)
      | (with_reducible exact LeO.none _)
      | (with_reducible refine LeO.ite ?_ ?_)
      | (with_reducible refine LeO.bind ?_ (fun _ => ?_))
      | exact ih0 _ _ _ _ _
      | exact LeO.none _
      | refine LeO.ite ?_ ?_
      | refine LeO.bind ?_ (fun _ => ?_)
set_option maxHeartbeats 8000000 in
set_option maxRecDepth 100000 in
theorem head_Get.calls (k : Nat) (A0 : Option Addr) (c0 : Nat) (l0 : List (S48)) (a1 : ByteArray) (r : List ByteArray) (w : World) (hr0 : Kd.C k48 w A0 l0.length l0) (hc0 : l0.length ≤ c0) (HGg : Glob w) (h : head_Get.f k l0 a1 = some r) :
    Calls Tryz.prog 34 #[.slice A0 l0.length c0, .string a1] w fun e w' => ∃ v0_ : Value, e = .returned (v0_) ∧ Kd.R Kd.string 9 w' w.heap.size (fun _ => True) v0_ r ∧ Below w.heap.size w w' := by
  have hu48 := Tryz.underlying48
  have HGl := Aside0.mk HGg
  clear HGg
  have HR0 := Aside0.mk hr0
  have HC0 := Aside0.mk hc0
  clear hr0 hc0
  have HB := Aside0.mk (Below.refl w.heap.size w)
  have H : (head_Get.l0 k a1 ([] : List ByteArray) l0 (l0.length : Int) 0) = some r := h
  clear h
  have H' := Aside0.mk H
  clear H
  go_enter Tryz.func34, Tryz.ntmps34
  go_wp2
  go_loopg [5, 10] k (fun kq v5 v10 w' => ∃ (x5_1 : List ByteArray) (x10_1 : Int), v10 = .int .i64 x10_1 ∧ Aside0 (head_Get.l0 kq a1 x5_1 l0 (l0.length : Int) x10_1 = some r) ∧ Aside0 (kq ≤ k) ∧ Aside0 (Kd.R Kd.string 9 w' w.heap.size (fun _ => True) v5 x5_1) ∧ Aside0 (Below w.heap.size w w'))
  case atStart => exact ⟨(([] : List ByteArray)), (0), (by first | rfl | (simp; done) | (simp [*]; done)), H', ⟨Nat.le_refl _⟩, ⟨by first | exact Kd.R_nil _ _ _ _ _ | exact Kd.N_nil _ _ _ _ _ | exact Kd.V_nil _ _ _ _ _ | exact Kd.Q_nil _ _ _ _ _ | exact Kd.S_nil _ _ _ _ _⟩, ⟨by repeat (first | (with_reducible first | exact HB.out | apply below_alloc | apply pw_below_drewN | apply below_drew1) | exact HB.out)⟩⟩
  case round =>
    clear H'
    try clear p2
    obtain ⟨x5_1, x10_1, rfl, HA, HK1, HO_5, HB⟩ := hrel
    cases gk with
    | zero => exact absurd HA.out (by simp [head_Get.l0])
    | succ k1 =>
      have H := HA.out
      clear HA
      simp only [head_Get.l0] at H
      by_cases c3 : x10_1 < (l0.length : Int)
      · rw [if_pos c3] at H
        have c3b0 : decide (x10_1 < (l0.length : Int)) = true := decide_eq_true c3
        clear c3
        by_cases c4 : 0 ≤ x10_1
        · rw [if_pos c4] at H
          have c4b0 : decide (0 ≤ x10_1) = true := decide_eq_true c4
          clear c4
          by_cases c5 : x10_1 < (l0.length : Int)
          · rw [if_pos c5] at H
            have c5b0 : decide (x10_1 < (l0.length : Int)) = true := decide_eq_true c5
            clear c5
            replace H := Option.bind_eq_some_iff.mp H
            obtain ⟨t141, A60, H⟩ := H
            replace H : (if t141 = true then (if x5_1.length < 8796093022208 then (head_Get.l0 k1 a1 (x5_1 ++ [(rd_T48 l0 x10_1).f1]) l0 (l0.length : Int) (wrap64 (x10_1 + 1))) else (none)) else (head_Get.l0 k1 a1 x5_1 l0 (l0.length : Int) (wrap64 (x10_1 + 1)))) = some r := H
            have A6 := Aside0.mk A60
            clear A60
            by_cases c7 : t141 = true
            · subst c7
              have H1 : (if x5_1.length < 8796093022208 then (head_Get.l0 k1 a1 (x5_1 ++ [(rd_T48 l0 x10_1).f1]) l0 (l0.length : Int) (wrap64 (x10_1 + 1))) else (none)) = some r := by rw [if_pos rfl] at H; exact H
              clear H
              have H := H1
              clear H1
              by_cases c8 : x5_1.length < 8796093022208
              · rw [if_pos c8] at H
                have LMc8 := Aside0.mk c8
                clear c8
                obtain ⟨y142, hy142⟩ : ∃ y_ : List ByteArray, y_ = (x5_1 ++ [(rd_T48 l0 x10_1).f1]) := ⟨_, rfl⟩
                replace H : (head_Get.l0 k1 a1 y142 l0 (l0.length : Int) (wrap64 (x10_1 + 1))) = some r := by first | (rw [hy142]; with_reducible exact H) | (have H2_ := (Option.bind_some _ _).symm.trans H; rw [hy142]; with_reducible exact H2_) | (have H2_ := (Option.bind_some _ _).symm.trans H; with_reducible exact H2_) | with_reducible exact H | (rw [hy142]; exact H) | exact H
                have Ny142 := Aside0.mk hy142
                clear hy142
                have H' := Aside0.mk H
                clear H
                have p139 : 0 ≤ (x10_1 : Int) := of_decide_eq_true (by first | (with_reducible assumption) | assumption)
                have q139 : x10_1 < (l0.length : Int) := of_decide_eq_true (by first | (with_reducible assumption) | assumption)
                obtain ⟨ad139, e139, hx139_0, hx139_1⟩ := at_T48 HR0.out x10_1 p139 q139
                cases e139
                replace hx139_0 := (HB.out.cell (World.block_lt_of_cell? w _ hx139_0)).trans hx139_0
                replace hx139_1 := (HB.out.cell (World.block_lt_of_cell? w _ hx139_1)).trans hx139_1
                replace p139 := eq_true p139
                replace q139 := eq_true q139
                go_wp2_with (first | ((with_reducible refine gate_dst (N := 7) rfl ?_); refine box_event ?hg (N := 7) ?hd (cs := #[.string (⟨#[]⟩ : ByteArray), .string (⟨#[]⟩ : ByteArray)]) (t := 48) ?hr ?_; (case hd => rfl); (case hg => rfl); (case hr => first | (go_simp; done) | (go_simp; rfl)); intro gb140 hg w9 hbox hb; have n0_ := Aside0.mk (Kd.R_below (by (with_reducible repeat (first | apply Kd.R_alloc | apply Kd.R_drewN | apply Kd.R_drew)); exact HO_5.out) hb); have n1_ := Aside0.mk (below_step (by repeat (first | (with_reducible first | exact HB.out | apply below_alloc | apply pw_below_drewN | apply below_drew1) | exact HB.out)) hb); have n2_ := Aside0.mk (hbox); have n3_ := Aside0.mk ((by rw [hg]; exact (below_size (by repeat (first | (with_reducible first | exact HB.out | apply below_alloc | apply pw_below_drewN | apply below_drew1) | exact HB.out))) : w.heap.size ≤ gb140)); have n4_ := Aside0.mk ((by rw [hg]; exact (below_size (by repeat (first | (with_reducible first | exact HB.out | apply below_alloc | apply pw_below_drewN | apply below_drew1) | exact HB.out))) : w.heap.size ≤ gb140)); clear HO_5; clear HB; have HO_5 := n0_; have HB := n1_; have BK140 := n2_; have GW140 := n3_; have GE140 := n4_; clear n0_ n1_ n2_ n3_ n4_; clear hb hbox hg; have hcz10_0 : w9.cell? ⟨gb140, 0, none⟩ = some (.string (⟨#[]⟩ : ByteArray)) := (blk_cell BK140.out 0).trans rfl; have hcz10_1 : w9.cell? ⟨gb140, 1, none⟩ = some (.string (⟨#[]⟩ : ByteArray)) := (blk_cell BK140.out 1).trans rfl; have hfz10_0 := blk_frozen BK140.out 0; have hfz10_1 := blk_frozen BK140.out 1) | ((with_reducible refine gate_callee (f := 23) rfl ?_); refine goesL_ (some 17) rfl rfl Tryz.func23 (by kernel_rfl) rfl #[.string ((rd_T48 l0 x10_1).f0), .string a1] rfl (by (try simp only [List.map_toArray, List.map_cons, List.map_nil]); first | done | rfl | (simp only [List.length_drop, List.length_take]; rfl)) ?_; (with_reducible refine (text_Same.calls ((rd_T48 l0 x10_1).f0) a1 true _ (Glob.below HGl.out (by repeat (first | (with_reducible first | exact HB.out | apply below_alloc | apply pw_below_drewN | apply below_drew1 | refine below_set ?_ GE140.out) | exact HB.out))) A6.out).mono ?_); rintro e w11 ⟨rfl, hb⟩; refine ⟨_, rfl, ?_⟩; have n0_ := Aside0.mk (Kd.R_below (by (with_reducible repeat (first | apply Kd.R_alloc | apply Kd.R_drewN | apply Kd.R_drew)); exact (Kd.R_mono (Kd.R_far (p := ⟨gb140, 1, none⟩) (Kd.R_far (p := ⟨gb140, 0, none⟩) (Kd.R_types HO_5.out BK140.out (by decide)) (fun _ hk => hk.2) (.string ((rd_T48 l0 x10_1).f0))) (fun _ hk => hk.2) (.string ((rd_T48 l0 x10_1).f1))) (fun _ h_ => h_.1))) hb); have n1_ := Aside0.mk (blk_below (g := gb140) (o := .cells #[.string ((rd_T48 l0 x10_1).f0), .string ((rd_T48 l0 x10_1).f1)] 48 (0, 0)) (by (with_reducible repeat (first | refine blk_drewN ?_ _ | refine blk_drew ?_ | refine blk_alloc ?_ _)); refine blk_put (cs := #[.string ((rd_T48 l0 x10_1).f0), .string (⟨#[]⟩ : ByteArray)]) ?_ 1 _ rfl; (with_reducible repeat (first | refine blk_drewN ?_ _ | refine blk_drew ?_ | refine blk_alloc ?_ _)); refine blk_put (cs := #[.string (⟨#[]⟩ : ByteArray), .string (⟨#[]⟩ : ByteArray)]) ?_ 0 _ rfl; (with_reducible repeat (first | refine blk_drewN ?_ _ | refine blk_drew ?_ | refine blk_alloc ?_ _)); exact BK140.out) hb); have n2_ := Aside0.mk (below_step (by repeat (first | (with_reducible first | exact HB.out | apply below_alloc | apply pw_below_drewN | apply below_drew1 | refine below_set ?_ GE140.out) | exact HB.out)) hb); clear HO_5; clear BK140; clear HB; have HO_5 := n0_; have BK140 := n1_; have HB := n2_; clear n0_ n1_ n2_; (try clear hb); (try clear hb2); (try clear hk); (try clear hi); have hcz12_0 : w11.cell? ⟨gb140, 0, none⟩ = some (.string ((rd_T48 l0 x10_1).f0)) := (blk_cell BK140.out 0).trans rfl; have hcz12_1 : w11.cell? ⟨gb140, 1, none⟩ = some (.string ((rd_T48 l0 x10_1).f1)) := (blk_cell BK140.out 1).trans rfl; have hfz12_0 := blk_frozen BK140.out 0; have hfz12_1 := blk_frozen BK140.out 1) | ((with_reducible refine gate_builtin (b := .append) (xs := #[.tmp 18, .tmp 21]) rfl ?_); at_builtin; refine Kd.R_append Kd.string (w0 := w) w.heap.size rfl (.tmp 18) (.tmp 21) 44 9 (.string ⟨#[]⟩) 16 rfl Tryz.underlying44 info9 rfl (by decide) (by omega) u5 x5_1 ((rd_T48 l0 x10_1).f1) [.string ((rd_T48 l0 x10_1).f1)] (fun _ => True) (fun _ => False) rfl rfl ?aP (fun _ hk => hk.elim) ?aF ?aO ?aB ?aS ?aL ?_; (case aP => exact rfl); (case aB => exact (by repeat (first | (with_reducible first | exact HB.out | apply below_alloc | apply pw_below_drewN | apply below_drew1 | refine below_set ?_ GE140.out) | exact HB.out))); (case aF => exact (fun _ _ => trivial)); (case aO => exact (by (with_reducible repeat (first | apply Kd.R_alloc | apply Kd.R_drewN | apply Kd.R_drew)); exact HO_5.out)); (case aS => exact (below_size (by repeat (first | (with_reducible first | exact HB.out | apply below_alloc | apply pw_below_drewN | apply below_drew1 | refine below_set ?_ GE140.out) | exact HB.out)))); (case aL => have := LMc8.out; omega); intro v143 w13 ho hb hg hat; rw [← Ny142.out] at ho; have n0_ := Aside0.mk (blk_grown (g := gb140) (o := .cells #[.string ((rd_T48 l0 x10_1).f0), .string ((rd_T48 l0 x10_1).f1)] 48 (0, 0)) (by (with_reducible repeat (first | refine blk_drewN ?_ _ | refine blk_drew ?_ | refine blk_alloc ?_ _)); exact BK140.out) hg (Kd.R_ne HO_5.out BK140.out (by decide))); have n1_ := Aside0.mk (hb); have n2_ := Aside0.mk (ho); clear BK140; clear HB; clear HO_5; have BK140 := n0_; have HB := n1_; have HO144 := n2_; clear n0_ n1_ n2_; clear ho hb hg hat))
                go_roundg k1
                case measure => have := HK1.out; omega
                case rel => exact ⟨(y142), (wrap64 (x10_1 + 1)), (by first | rfl | (simp; done) | (simp [*]; done)), H', ⟨by have := HK1.out; omega⟩, ⟨by (with_reducible repeat (first | apply Kd.R_alloc | apply Kd.R_drewN | apply Kd.R_drew)); exact HO144.out⟩, ⟨by repeat (first | (with_reducible first | exact HB.out | apply below_alloc | apply pw_below_drewN | apply below_drew1 | refine below_set ?_ GE140.out) | exact HB.out)⟩⟩
              · rw [if_neg c8] at H
                exact absurd H (by simp)
            · replace c7 := Bool.eq_false_iff.mpr c7
              subst c7
              have H1 : (head_Get.l0 k1 a1 x5_1 l0 (l0.length : Int) (wrap64 (x10_1 + 1))) = some r := by rw [if_neg (show ¬ (false = true) by decide)] at H; exact H
              clear H
              have H := H1
              clear H1
              have H' := Aside0.mk H
              clear H
              have p139 : 0 ≤ (x10_1 : Int) := of_decide_eq_true (by first | (with_reducible assumption) | assumption)
              have q139 : x10_1 < (l0.length : Int) := of_decide_eq_true (by first | (with_reducible assumption) | assumption)
              obtain ⟨ad139, e139, hx139_0, hx139_1⟩ := at_T48 HR0.out x10_1 p139 q139
              cases e139
              replace hx139_0 := (HB.out.cell (World.block_lt_of_cell? w _ hx139_0)).trans hx139_0
              replace hx139_1 := (HB.out.cell (World.block_lt_of_cell? w _ hx139_1)).trans hx139_1
              replace p139 := eq_true p139
              replace q139 := eq_true q139
              go_wp2_with (first | ((with_reducible refine gate_dst (N := 7) rfl ?_); refine box_event ?hg (N := 7) ?hd (cs := #[.string (⟨#[]⟩ : ByteArray), .string (⟨#[]⟩ : ByteArray)]) (t := 48) ?hr ?_; (case hd => rfl); (case hg => rfl); (case hr => first | (go_simp; done) | (go_simp; rfl)); intro gb140 hg w14 hbox hb; have n0_ := Aside0.mk (Kd.R_below (by (with_reducible repeat (first | apply Kd.R_alloc | apply Kd.R_drewN | apply Kd.R_drew)); exact HO_5.out) hb); have n1_ := Aside0.mk (below_step (by repeat (first | (with_reducible first | exact HB.out | apply below_alloc | apply pw_below_drewN | apply below_drew1) | exact HB.out)) hb); have n2_ := Aside0.mk (hbox); have n3_ := Aside0.mk ((by rw [hg]; exact (below_size (by repeat (first | (with_reducible first | exact HB.out | apply below_alloc | apply pw_below_drewN | apply below_drew1) | exact HB.out))) : w.heap.size ≤ gb140)); have n4_ := Aside0.mk ((by rw [hg]; exact (below_size (by repeat (first | (with_reducible first | exact HB.out | apply below_alloc | apply pw_below_drewN | apply below_drew1) | exact HB.out))) : w.heap.size ≤ gb140)); clear HO_5; clear HB; have HO_5 := n0_; have HB := n1_; have BK140 := n2_; have GW140 := n3_; have GE140 := n4_; clear n0_ n1_ n2_ n3_ n4_; clear hb hbox hg; have hcz15_0 : w14.cell? ⟨gb140, 0, none⟩ = some (.string (⟨#[]⟩ : ByteArray)) := (blk_cell BK140.out 0).trans rfl; have hcz15_1 : w14.cell? ⟨gb140, 1, none⟩ = some (.string (⟨#[]⟩ : ByteArray)) := (blk_cell BK140.out 1).trans rfl; have hfz15_0 := blk_frozen BK140.out 0; have hfz15_1 := blk_frozen BK140.out 1) | ((with_reducible refine gate_callee (f := 23) rfl ?_); refine goesL_ (some 17) rfl rfl Tryz.func23 (by kernel_rfl) rfl #[.string ((rd_T48 l0 x10_1).f0), .string a1] rfl (by (try simp only [List.map_toArray, List.map_cons, List.map_nil]); first | done | rfl | (simp only [List.length_drop, List.length_take]; rfl)) ?_; (with_reducible refine (text_Same.calls ((rd_T48 l0 x10_1).f0) a1 false _ (Glob.below HGl.out (by repeat (first | (with_reducible first | exact HB.out | apply below_alloc | apply pw_below_drewN | apply below_drew1 | refine below_set ?_ GE140.out) | exact HB.out))) A6.out).mono ?_); rintro e w16 ⟨rfl, hb⟩; refine ⟨_, rfl, ?_⟩; have n0_ := Aside0.mk (Kd.R_below (by (with_reducible repeat (first | apply Kd.R_alloc | apply Kd.R_drewN | apply Kd.R_drew)); exact (Kd.R_mono (Kd.R_far (p := ⟨gb140, 1, none⟩) (Kd.R_far (p := ⟨gb140, 0, none⟩) (Kd.R_types HO_5.out BK140.out (by decide)) (fun _ hk => hk.2) (.string ((rd_T48 l0 x10_1).f0))) (fun _ hk => hk.2) (.string ((rd_T48 l0 x10_1).f1))) (fun _ h_ => h_.1))) hb); have n1_ := Aside0.mk (blk_below (g := gb140) (o := .cells #[.string ((rd_T48 l0 x10_1).f0), .string ((rd_T48 l0 x10_1).f1)] 48 (0, 0)) (by (with_reducible repeat (first | refine blk_drewN ?_ _ | refine blk_drew ?_ | refine blk_alloc ?_ _)); refine blk_put (cs := #[.string ((rd_T48 l0 x10_1).f0), .string (⟨#[]⟩ : ByteArray)]) ?_ 1 _ rfl; (with_reducible repeat (first | refine blk_drewN ?_ _ | refine blk_drew ?_ | refine blk_alloc ?_ _)); refine blk_put (cs := #[.string (⟨#[]⟩ : ByteArray), .string (⟨#[]⟩ : ByteArray)]) ?_ 0 _ rfl; (with_reducible repeat (first | refine blk_drewN ?_ _ | refine blk_drew ?_ | refine blk_alloc ?_ _)); exact BK140.out) hb); have n2_ := Aside0.mk (below_step (by repeat (first | (with_reducible first | exact HB.out | apply below_alloc | apply pw_below_drewN | apply below_drew1 | refine below_set ?_ GE140.out) | exact HB.out)) hb); clear HO_5; clear BK140; clear HB; have HO_5 := n0_; have BK140 := n1_; have HB := n2_; clear n0_ n1_ n2_; (try clear hb); (try clear hb2); (try clear hk); (try clear hi)))
              go_roundg k1
              case measure => have := HK1.out; omega
              case rel => exact ⟨(x5_1), (wrap64 (x10_1 + 1)), (by first | rfl | (simp; done) | (simp [*]; done)), H', ⟨by have := HK1.out; omega⟩, ⟨by (with_reducible repeat (first | apply Kd.R_alloc | apply Kd.R_drewN | apply Kd.R_drew)); exact HO_5.out⟩, ⟨by repeat (first | (with_reducible first | exact HB.out | apply below_alloc | apply pw_below_drewN | apply below_drew1 | refine below_set ?_ GE140.out) | exact HB.out)⟩⟩
          · rw [if_neg c5] at H
            exact absurd H (by simp)
        · rw [if_neg c4] at H
          exact absurd H (by simp)
      · rw [if_neg c3] at H
        have c3b0 : decide (x10_1 < (l0.length : Int)) = false := decide_eq_false c3
        clear c3
        obtain rfl := Option.some.inj H
        go_wp2
        go_ret
        exact ⟨_, by first | rfl | (simp [errW_none, errW_some] <;> rfl) | (simp [*, errW_none, errW_some] <;> rfl), by (with_reducible repeat (first | apply Kd.R_alloc | apply Kd.R_drewN | apply Kd.R_drew)); exact HO_5.out, by repeat (first | (with_reducible first | exact HB.out | apply below_alloc | apply pw_below_drewN | apply below_drew1) | exact HB.out)⟩

end Go.Proofs.YthmnhbalmglohaaGreatDoor.X

-- PRINTED by print.py (a twelfth state) out of the translation. Not trusted: Lean checks it.
namespace Go.Proofs.YthmnhbalmglohaaGreatDoor.X
open Go.RowKit Go.Proofs.YthmnhbalmglohaaGreatDoorW.PrintWords Go.Proofs.YthmnhbalmglohaaGreatDoorW.PrintLast Go.Proofs.YthmnhbalmglohaaGreatDoorW.PrintMore
attribute [local go_sem] max2_int min2_int max_two min_two max_three min_three max_four min_four   -- for this text's walks alone
set_option linter.unusedVariables false
set_option linter.unusedSimpArgs false
open Go.Proofs.YthmnhbalmglohaaGreatDoor.T

/-! ### auth_Holds: function 18 -/
def auth_Holds.f (k : Nat) (a0 : ByteArray) (l1 : List (S48)) : Option (Bool) := (head_Get.f k l1 (⟨#[112, 114, 111, 120, 121, 45, 97, 117, 116, 104, 111, 114, 105, 122, 97, 116, 105, 111, 110]⟩ : ByteArray)).bind fun t145 => (if (t145.length : Int) = 1 then (if 0 < (t145.length : Int) then ((auth_Credential.f (rdOf ByteArray.empty t145 0)).bind fun bt149 => (if bt149.2 = true then (some (bt149.1.toList == a0.toList)) else (some false))) else (none)) else (some false))
theorem auth_Holds.mono : ∀ a0 a1 k, LeO (auth_Holds.f k a0 a1) (auth_Holds.f (k + 1) a0 a1) := by
  intro a0 a1 k
  unfold auth_Holds.f
  repeat' first
      | (with_reducible exact head_Get.mono _ _ _)
      | (with_reducible exact LeO.refl _)
      | (with_reducible exact LeO.none _)
      | (with_reducible refine LeO.ite ?_ ?_)
      | (with_reducible refine LeO.bind ?_ (fun _ => ?_))
      | exact head_Get.mono _ _ _
      | exact LeO.none _
      | refine LeO.ite ?_ ?_
      | refine LeO.bind ?_ (fun _ => ?_)
set_option maxHeartbeats 8000000 in
set_option maxRecDepth 100000 in
theorem auth_Holds.calls (k : Nat) (a0 : ByteArray) (A1 : Option Addr) (c1 : Nat) (l1 : List (S48)) (r : Bool) (w : World) (hr1 : Kd.C k48 w A1 l1.length l1) (hc1 : l1.length ≤ c1) (HGg : Glob w) (h : auth_Holds.f k a0 l1 = some r) :
    Calls Tryz.prog 18 #[.string a0, .slice A1 l1.length c1] w fun e w' => e = .returned (.bool r) ∧ Below w.heap.size w w' := by
  have HGl := Aside0.mk HGg
  clear HGg
  have HR1 := Aside0.mk hr1
  have HC1 := Aside0.mk hc1
  clear hr1 hc1
  have HB := Aside0.mk (Below.refl w.heap.size w)
  have H : ((head_Get.f k l1 (⟨#[112, 114, 111, 120, 121, 45, 97, 117, 116, 104, 111, 114, 105, 122, 97, 116, 105, 111, 110]⟩ : ByteArray)).bind fun t145 => (if (t145.length : Int) = 1 then (if 0 < (t145.length : Int) then ((auth_Credential.f (rdOf ByteArray.empty t145 0)).bind fun bt149 => (if bt149.2 = true then (some (bt149.1.toList == a0.toList)) else (some false))) else (none)) else (some false))) = some r := h
  clear h
  replace H := Option.bind_eq_some_iff.mp H
  obtain ⟨t145, A30, H⟩ := H
  replace H : (if (t145.length : Int) = 1 then (if 0 < (t145.length : Int) then ((auth_Credential.f (rdOf ByteArray.empty t145 0)).bind fun bt149 => (if bt149.2 = true then (some (bt149.1.toList == a0.toList)) else (some false))) else (none)) else (some false)) = some r := H
  have A3 := Aside0.mk A30
  clear A30
  by_cases c4 : (t145.length : Int) = 1
  · rw [if_pos c4] at H
    have c4b0 : ((t145.length : Int) == 1) = true := beq_iff_eq.mpr c4
    have c4b1 : ((t145.length : Int) != 1) = false := bne_eq_false_iff_eq.mpr c4
    clear c4
    by_cases c5 : 0 < (t145.length : Int)
    · rw [if_pos c5] at H
      have c5b0 : decide (0 < (t145.length : Int)) = true := decide_eq_true c5
      have c5b1 : decide (0 < t145.length) = true := decide_eq_true (by omega)
      clear c5
      replace H := Option.bind_eq_some_iff.mp H
      obtain ⟨⟨t149, t150⟩, A60, H⟩ := H
      replace H : (if t150 = true then (some (t149.toList == a0.toList)) else (some false)) = some r := H
      have A6 := Aside0.mk A60
      clear A60
      by_cases c7 : t150 = true
      · subst c7
        have H1 : (some (t149.toList == a0.toList)) = some r := by rw [if_pos rfl] at H; exact H
        clear H
        have H := H1
        clear H1
        obtain rfl := Option.some.inj H
        go_enter Tryz.func18, Tryz.ntmps18
        go_wp2_with (first | ((with_reducible refine gate_callee (f := 34) rfl ?_); refine goesL_ (some 9) rfl rfl Tryz.func34 (by kernel_rfl) rfl #[.slice A1 l1.length c1, .string (⟨#[112, 114, 111, 120, 121, 45, 97, 117, 116, 104, 111, 114, 105, 122, 97, 116, 105, 111, 110]⟩ : ByteArray)] rfl (by (try simp only [List.map_toArray, List.map_cons, List.map_nil]); first | done | rfl | (simp only [List.length_drop, List.length_take]; rfl)) ?_; (with_reducible refine (head_Get.calls k _ _ l1 (⟨#[112, 114, 111, 120, 121, 45, 97, 117, 116, 104, 111, 114, 105, 122, 97, 116, 105, 111, 110]⟩ : ByteArray) t145 _ ?side1 ?side2 (Glob.below HGl.out (by repeat (first | (with_reducible first | exact HB.out | apply below_alloc | apply pw_below_drewN | apply below_drew1) | exact HB.out))) A3.out).mono ?_); (case side1 => repeat (first | exact HR1.out | (with_reducible refine Kd.C_alloc ?_ _) | (with_reducible refine Kd.C_drewN ?_ _) | (with_reducible refine Kd.C_drew ?_))); (case side2 => exact HC1.out); rintro e w8 ⟨v146, rfl, ho0, hb⟩; refine ⟨_, rfl, ?_⟩; have n0_ := Aside0.mk (Kd.R_lower ho0 (below_size (by repeat (first | (with_reducible first | exact HB.out | apply below_alloc | apply pw_below_drewN | apply below_drew1) | exact HB.out)))); have n1_ := Aside0.mk (below_step (by repeat (first | (with_reducible first | exact HB.out | apply below_alloc | apply pw_below_drewN | apply below_drew1) | exact HB.out)) hb); clear HB; have HO147 := n0_; have HB := n1_; clear n0_ n1_; (try clear hb); (try clear hb2); (try clear hk); (try clear hi); (try clear ho0); obtain ⟨Ao9, co9, eo9⟩ := Kd.R_slice HO147.out; subst eo9; have p148 : 0 ≤ (0 : Int) := (by omega); have q148 : 0 < (t145.length : Int) := of_decide_eq_true (by first | (with_reducible assumption) | assumption); obtain ⟨ad148, e148, hx148_0⟩ := Kd.at_string (Kd.R_reads' HO147.out).2.2 0 p148 q148; cases e148; have qi148 : (0 < t145.length) = True := eq_true (by omega); (try rw [show ((0 : Int)).toNat = 0 from rfl] at hx148_0); (try rw [Addr.add_zero'] at hx148_0); replace p148 := eq_true p148; replace q148 := eq_true q148) | ((with_reducible refine gate_callee (f := 16) rfl ?_); refine goesL_ (some 17) rfl rfl Tryz.func16 (by kernel_rfl) rfl #[.string (rdOf ByteArray.empty t145 0)] rfl (by (try simp only [List.map_toArray, List.map_cons, List.map_nil]); first | done | rfl | (simp only [List.length_drop, List.length_take]; rfl)) ?_; (with_reducible refine (auth_Credential.calls (rdOf ByteArray.empty t145 0) t149 true _ (Glob.below HGl.out (by repeat (first | (with_reducible first | exact HB.out | apply below_alloc | apply pw_below_drewN | apply below_drew1) | exact HB.out))) A6.out).mono ?_); rintro e w10 ⟨rfl, hb⟩; refine ⟨_, rfl, ?_⟩; have n0_ := Aside0.mk (Kd.R_below (by (with_reducible repeat (first | apply Kd.R_alloc | apply Kd.R_drewN | apply Kd.R_drew)); exact HO147.out) hb); have n1_ := Aside0.mk (below_step (by repeat (first | (with_reducible first | exact HB.out | apply below_alloc | apply pw_below_drewN | apply below_drew1) | exact HB.out)) hb); clear HO147; clear HB; have HO147 := n0_; have HB := n1_; clear n0_ n1_; (try clear hb); (try clear hb2); (try clear hk); (try clear hi)))
        go_ret
        exact ⟨by first | rfl | (simp [errW_none, errW_some] <;> rfl) | (simp [*, errW_none, errW_some] <;> rfl), by repeat (first | (with_reducible first | exact HB.out | apply below_alloc | apply pw_below_drewN | apply below_drew1) | exact HB.out)⟩
      · replace c7 := Bool.eq_false_iff.mpr c7
        subst c7
        have H1 : (some false) = some r := by rw [if_neg (show ¬ (false = true) by decide)] at H; exact H
        clear H
        have H := H1
        clear H1
        obtain rfl := Option.some.inj H
        go_enter Tryz.func18, Tryz.ntmps18
        go_wp2_with (first | ((with_reducible refine gate_callee (f := 34) rfl ?_); refine goesL_ (some 9) rfl rfl Tryz.func34 (by kernel_rfl) rfl #[.slice A1 l1.length c1, .string (⟨#[112, 114, 111, 120, 121, 45, 97, 117, 116, 104, 111, 114, 105, 122, 97, 116, 105, 111, 110]⟩ : ByteArray)] rfl (by (try simp only [List.map_toArray, List.map_cons, List.map_nil]); first | done | rfl | (simp only [List.length_drop, List.length_take]; rfl)) ?_; (with_reducible refine (head_Get.calls k _ _ l1 (⟨#[112, 114, 111, 120, 121, 45, 97, 117, 116, 104, 111, 114, 105, 122, 97, 116, 105, 111, 110]⟩ : ByteArray) t145 _ ?side1 ?side2 (Glob.below HGl.out (by repeat (first | (with_reducible first | exact HB.out | apply below_alloc | apply pw_below_drewN | apply below_drew1) | exact HB.out))) A3.out).mono ?_); (case side1 => repeat (first | exact HR1.out | (with_reducible refine Kd.C_alloc ?_ _) | (with_reducible refine Kd.C_drewN ?_ _) | (with_reducible refine Kd.C_drew ?_))); (case side2 => exact HC1.out); rintro e w11 ⟨v146, rfl, ho0, hb⟩; refine ⟨_, rfl, ?_⟩; have n0_ := Aside0.mk (Kd.R_lower ho0 (below_size (by repeat (first | (with_reducible first | exact HB.out | apply below_alloc | apply pw_below_drewN | apply below_drew1) | exact HB.out)))); have n1_ := Aside0.mk (below_step (by repeat (first | (with_reducible first | exact HB.out | apply below_alloc | apply pw_below_drewN | apply below_drew1) | exact HB.out)) hb); clear HB; have HO147 := n0_; have HB := n1_; clear n0_ n1_; (try clear hb); (try clear hb2); (try clear hk); (try clear hi); (try clear ho0); obtain ⟨Ao12, co12, eo12⟩ := Kd.R_slice HO147.out; subst eo12; have p148 : 0 ≤ (0 : Int) := (by omega); have q148 : 0 < (t145.length : Int) := of_decide_eq_true (by first | (with_reducible assumption) | assumption); obtain ⟨ad148, e148, hx148_0⟩ := Kd.at_string (Kd.R_reads' HO147.out).2.2 0 p148 q148; cases e148; have qi148 : (0 < t145.length) = True := eq_true (by omega); (try rw [show ((0 : Int)).toNat = 0 from rfl] at hx148_0); (try rw [Addr.add_zero'] at hx148_0); replace p148 := eq_true p148; replace q148 := eq_true q148) | ((with_reducible refine gate_callee (f := 16) rfl ?_); refine goesL_ (some 17) rfl rfl Tryz.func16 (by kernel_rfl) rfl #[.string (rdOf ByteArray.empty t145 0)] rfl (by (try simp only [List.map_toArray, List.map_cons, List.map_nil]); first | done | rfl | (simp only [List.length_drop, List.length_take]; rfl)) ?_; (with_reducible refine (auth_Credential.calls (rdOf ByteArray.empty t145 0) t149 false _ (Glob.below HGl.out (by repeat (first | (with_reducible first | exact HB.out | apply below_alloc | apply pw_below_drewN | apply below_drew1) | exact HB.out))) A6.out).mono ?_); rintro e w13 ⟨rfl, hb⟩; refine ⟨_, rfl, ?_⟩; have n0_ := Aside0.mk (Kd.R_below (by (with_reducible repeat (first | apply Kd.R_alloc | apply Kd.R_drewN | apply Kd.R_drew)); exact HO147.out) hb); have n1_ := Aside0.mk (below_step (by repeat (first | (with_reducible first | exact HB.out | apply below_alloc | apply pw_below_drewN | apply below_drew1) | exact HB.out)) hb); clear HO147; clear HB; have HO147 := n0_; have HB := n1_; clear n0_ n1_; (try clear hb); (try clear hb2); (try clear hk); (try clear hi)))
        go_ret
        exact ⟨by first | rfl | (simp [errW_none, errW_some] <;> rfl) | (simp [*, errW_none, errW_some] <;> rfl), by repeat (first | (with_reducible first | exact HB.out | apply below_alloc | apply pw_below_drewN | apply below_drew1) | exact HB.out)⟩
    · rw [if_neg c5] at H
      exact absurd H (by simp)
  · rw [if_neg c4] at H
    have c4b0 : ((t145.length : Int) == 1) = false := beq_eq_false_iff_ne.mpr c4
    have c4b1 : ((t145.length : Int) != 1) = true := bne_iff_ne.mpr c4
    obtain rfl := Option.some.inj H
    go_enter Tryz.func18, Tryz.ntmps18
    go_wp2_with (first | ((with_reducible refine gate_callee (f := 34) rfl ?_); refine goesL_ (some 9) rfl rfl Tryz.func34 (by kernel_rfl) rfl #[.slice A1 l1.length c1, .string (⟨#[112, 114, 111, 120, 121, 45, 97, 117, 116, 104, 111, 114, 105, 122, 97, 116, 105, 111, 110]⟩ : ByteArray)] rfl (by (try simp only [List.map_toArray, List.map_cons, List.map_nil]); first | done | rfl | (simp only [List.length_drop, List.length_take]; rfl)) ?_; (with_reducible refine (head_Get.calls k _ _ l1 (⟨#[112, 114, 111, 120, 121, 45, 97, 117, 116, 104, 111, 114, 105, 122, 97, 116, 105, 111, 110]⟩ : ByteArray) t145 _ ?side1 ?side2 (Glob.below HGl.out (by repeat (first | (with_reducible first | exact HB.out | apply below_alloc | apply pw_below_drewN | apply below_drew1) | exact HB.out))) A3.out).mono ?_); (case side1 => repeat (first | exact HR1.out | (with_reducible refine Kd.C_alloc ?_ _) | (with_reducible refine Kd.C_drewN ?_ _) | (with_reducible refine Kd.C_drew ?_))); (case side2 => exact HC1.out); rintro e w14 ⟨v146, rfl, ho0, hb⟩; refine ⟨_, rfl, ?_⟩; have n0_ := Aside0.mk (Kd.R_lower ho0 (below_size (by repeat (first | (with_reducible first | exact HB.out | apply below_alloc | apply pw_below_drewN | apply below_drew1) | exact HB.out)))); have n1_ := Aside0.mk (below_step (by repeat (first | (with_reducible first | exact HB.out | apply below_alloc | apply pw_below_drewN | apply below_drew1) | exact HB.out)) hb); clear HB; have HO147 := n0_; have HB := n1_; clear n0_ n1_; (try clear hb); (try clear hb2); (try clear hk); (try clear hi); (try clear ho0); obtain ⟨Ao15, co15, eo15⟩ := Kd.R_slice HO147.out; subst eo15))
    go_ret
    exact ⟨by first | rfl | (simp [errW_none, errW_some] <;> rfl) | (simp [*, errW_none, errW_some] <;> rfl), by repeat (first | (with_reducible first | exact HB.out | apply below_alloc | apply pw_below_drewN | apply below_drew1) | exact HB.out)⟩

end Go.Proofs.YthmnhbalmglohaaGreatDoor.X

-- PRINTED by print.py (a twelfth state) out of the translation. Not trusted: Lean checks it.
namespace Go.Proofs.YthmnhbalmglohaaGreatDoor.X
open Go.RowKit Go.Proofs.YthmnhbalmglohaaGreatDoorW.PrintWords Go.Proofs.YthmnhbalmglohaaGreatDoorW.PrintLast Go.Proofs.YthmnhbalmglohaaGreatDoorW.PrintMore
attribute [local go_sem] max2_int min2_int max_two min_two max_three min_three max_four min_four   -- for this text's walks alone
set_option linter.unusedVariables false
set_option linter.unusedSimpArgs false
open Go.Proofs.YthmnhbalmglohaaGreatDoor.T

/-! ### tollhouselaw15_of: function 20 -/
def tollhouselaw15_of.f (a0 : ByteArray) : Option ((List (S48))) := if 7 + a0.size ≤ 9223372036854775807 then (some (([(⟨(⟨#[80, 114, 111, 120, 121, 45, 65, 117, 116, 104, 111, 114, 105, 122, 97, 116, 105, 111, 110]⟩ : ByteArray), (⟨#[66, 101, 97, 114, 101, 114, 32]⟩ : ByteArray) ++ a0⟩ : S48)] : List (S48)))) else (none)
set_option maxHeartbeats 8000000 in
set_option maxRecDepth 100000 in
theorem tollhouselaw15_of.calls (a0 : ByteArray) (r : List (S48)) (w : World) (HGg : Glob w) (h : tollhouselaw15_of.f a0 = some r) :
    Calls Tryz.prog 20 #[.string a0] w fun e w' => ∃ v0_ : Value, e = .returned (v0_) ∧ Kd.R k48 48 w' w.heap.size (fun _ => True) v0_ r ∧ Below w.heap.size w w' := by
  have hu48 := Tryz.underlying48
  have HGl := Aside0.mk HGg
  clear HGg
  have HB := Aside0.mk (Below.refl w.heap.size w)
  have H : (if 7 + a0.size ≤ 9223372036854775807 then (some (([(⟨(⟨#[80, 114, 111, 120, 121, 45, 65, 117, 116, 104, 111, 114, 105, 122, 97, 116, 105, 111, 110]⟩ : ByteArray), (⟨#[66, 101, 97, 114, 101, 114, 32]⟩ : ByteArray) ++ a0⟩ : S48)] : List (S48)))) else (none)) = some r := h
  clear h
  by_cases c2 : 7 + a0.size ≤ 9223372036854775807
  · rw [if_pos c2] at H
    have c2b0 := eq_true c2
    have c2b1 : decide (7 + a0.size ≤ 9223372036854775807) = true := decide_eq_true c2
    try have c2b2 : (9223372036854775807 < 7 + a0.size) = False := eq_false (Nat.not_lt.2 c2)
    obtain ⟨y151, hy151⟩ : ∃ y_ : List (S48), y_ = (([(⟨(⟨#[80, 114, 111, 120, 121, 45, 65, 117, 116, 104, 111, 114, 105, 122, 97, 116, 105, 111, 110]⟩ : ByteArray), (⟨#[66, 101, 97, 114, 101, 114, 32]⟩ : ByteArray) ++ a0⟩ : S48)] : List (S48))) := ⟨_, rfl⟩
    replace H : (some y151) = some r := by first | (rw [hy151]; with_reducible exact H) | (have H2_ := (Option.bind_some _ _).symm.trans H; rw [hy151]; with_reducible exact H2_) | (have H2_ := (Option.bind_some _ _).symm.trans H; with_reducible exact H2_) | with_reducible exact H | (rw [hy151]; exact H) | exact H
    have Ny151 := Aside0.mk hy151
    clear hy151
    obtain rfl := Option.some.inj H
    go_enter Tryz.func20, Tryz.ntmps20
    go_wp2_with (first | ((with_reducible refine gate_dst (N := 6) rfl ?_); refine Kd.R_lit k48 _ 48 ?hg (N := 6) ?hd (xs := ([(⟨(⟨#[80, 114, 111, 120, 121, 45, 65, 117, 116, 104, 111, 114, 105, 122, 97, 116, 105, 111, 110]⟩ : ByteArray), (⟨#[66, 101, 97, 114, 101, 114, 32]⟩ : ByteArray) ++ a0⟩ : S48)] : List (S48))) (inner := [.string (⟨#[80, 114, 111, 120, 121, 45, 65, 117, 116, 104, 111, 114, 105, 122, 97, 116, 105, 111, 110]⟩ : ByteArray), .string ((⟨#[66, 101, 97, 114, 101, 114, 32]⟩ : ByteArray) ++ a0)]) (ok := fun _ => True) (okp := fun _ => True) ?hr ?hp (fun _ hk => hk) trivial (Below.refl _ _) (Nat.le_refl _) (by simp) ?_; (case hd => rfl); (case hg => rfl); (case hr => first | (go_simp; done) | (go_simp; rfl)); (case hp => exact (Reps.c2 (show Kd.M k48 _ _ _ (⟨(⟨#[80, 114, 111, 120, 121, 45, 65, 117, 116, 104, 111, 114, 105, 122, 97, 116, 105, 111, 110]⟩ : ByteArray), (⟨#[66, 101, 97, 114, 101, 114, 32]⟩ : ByteArray) ++ a0⟩ : S48) [.string (⟨#[80, 114, 111, 120, 121, 45, 65, 117, 116, 104, 111, 114, 105, 122, 97, 116, 105, 111, 110]⟩ : ByteArray), .string ((⟨#[66, 101, 97, 114, 101, 114, 32]⟩ : ByteArray) ++ a0)] from (k48_mkM _ _ _ (⟨(⟨#[80, 114, 111, 120, 121, 45, 65, 117, 116, 104, 111, 114, 105, 122, 97, 116, 105, 111, 110]⟩ : ByteArray), (⟨#[66, 101, 97, 114, 101, 114, 32]⟩ : ByteArray) ++ a0⟩ : S48) )) (Reps.none _ _))); intro v152 w3 ho4 hb hg_ hnew_; clear hg_ hnew_; (first | rw [← Ny151.out] at ho4 | (simp only [Int.reduceToNat] at ho4; rw [← Ny151.out] at ho4)); have n0_ := Aside0.mk (Kd.R_lower ho4 (below_size (by repeat (first | (with_reducible first | exact HB.out | apply below_alloc | apply pw_below_drewN | apply below_drew1) | exact HB.out)))); have n1_ := Aside0.mk (below_step (by repeat (first | (with_reducible first | exact HB.out | apply below_alloc | apply pw_below_drewN | apply below_drew1) | exact HB.out)) hb); clear HB; have HO153 := n0_; have HB := n1_; clear n0_ n1_; clear hb ho4))
    go_ret
    exact ⟨_, by first | rfl | (simp [errW_none, errW_some] <;> rfl) | (simp [*, errW_none, errW_some] <;> rfl), by (with_reducible repeat (first | apply Kd.R_alloc | apply Kd.R_drewN | apply Kd.R_drew)); exact HO153.out, by repeat (first | (with_reducible first | exact HB.out | apply below_alloc | apply pw_below_drewN | apply below_drew1) | exact HB.out)⟩
  · rw [if_neg c2] at H
    exact absurd H (by simp)

end Go.Proofs.YthmnhbalmglohaaGreatDoor.X

-- PRINTED by print.py (a twelfth state) out of the translation. Not trusted: Lean checks it.
namespace Go.Proofs.YthmnhbalmglohaaGreatDoor.X
open Go.RowKit Go.Proofs.YthmnhbalmglohaaGreatDoorW.PrintWords Go.Proofs.YthmnhbalmglohaaGreatDoorW.PrintLast Go.Proofs.YthmnhbalmglohaaGreatDoorW.PrintMore
attribute [local go_sem] max2_int min2_int max_two min_two max_three min_three max_four min_four   -- for this text's walks alone
set_option linter.unusedVariables false
set_option linter.unusedSimpArgs false
open Go.Proofs.YthmnhbalmglohaaGreatDoor.T

/-! ### tollhouselaw15_tenant: function 21 -/
def tollhouselaw15_tenant.f (a0 : ByteArray) : Option (ByteArray × (List (S46)) × Int × Int × Int × Int × Int × Int × Int) := some (a0, ([] : List (S46)), 0, 0, 1, 1, 0, 1, 1)
set_option maxHeartbeats 8000000 in
set_option maxRecDepth 100000 in
theorem tollhouselaw15_tenant.calls (a0 : ByteArray) (r1 : ByteArray) (r2 : List (S46)) (r3 : Int) (r4 : Int) (r5 : Int) (r6 : Int) (r7 : Int) (r8 : Int) (r9 : Int) (w : World) (HGg : Glob w) (h : tollhouselaw15_tenant.f a0 = some (r1, r2, r3, r4, r5, r6, r7, r8, r9)) :
    Calls Tryz.prog 21 #[.string a0] w fun e w' => ∃ v1_ : Value, e = .returned (.agg #[.string r1, v1_, .int .i64 r3, .int .i64 r4, .int .i64 r5, .int .i64 r6, .int .i64 r7, .int .i64 r8, .int .i64 r9]) ∧ Kd.S k46 46 w' w.heap.size (fun _ => True) v1_ r2 ∧ Below w.heap.size w w' := by
  have hu27 := Tryz.underlying27
  have HGl := Aside0.mk HGg
  clear HGg
  have HB := Aside0.mk (Below.refl w.heap.size w)
  have H : (some (a0, ([] : List (S46)), 0, 0, 1, 1, 0, 1, 1)) = some (r1, r2, r3, r4, r5, r6, r7, r8, r9) := h
  clear h
  simp only [Option.some.injEq, Prod.mk.injEq] at H
  obtain ⟨rfl, rfl, rfl, rfl, rfl, rfl, rfl, rfl, rfl⟩ := H
  go_enter Tryz.func21, Tryz.ntmps21
  go_wp2_with (first | ((with_reducible refine gate_dst (N := 2) rfl ?_); refine box_event ?hg (N := 2) ?hd (cs := #[.string (⟨#[]⟩ : ByteArray), .slice none 0 0, .int .i64 0, .int .i64 0, .int .i64 0, .int .i64 0, .int .i64 0, .int .i64 0, .int .i64 0]) (t := 27) ?hr ?_; (case hd => rfl); (case hg => rfl); (case hr => first | (go_simp; done) | (go_simp; rfl)); intro gb154 hg w2 hbox hb; have n0_ := Aside0.mk (below_step (by repeat (first | (with_reducible first | exact HB.out | apply below_alloc | apply pw_below_drewN | apply below_drew1) | exact HB.out)) hb); have n1_ := Aside0.mk (hbox); have n2_ := Aside0.mk ((by rw [hg]; exact (below_size (by repeat (first | (with_reducible first | exact HB.out | apply below_alloc | apply pw_below_drewN | apply below_drew1) | exact HB.out))) : w.heap.size ≤ gb154)); have n3_ := Aside0.mk ((by rw [hg]; exact (below_size (by repeat (first | (with_reducible first | exact HB.out | apply below_alloc | apply pw_below_drewN | apply below_drew1) | exact HB.out))) : w.heap.size ≤ gb154)); clear HB; have HB := n0_; have BK154 := n1_; have GW154 := n2_; have GE154 := n3_; clear n0_ n1_ n2_ n3_; clear hb hbox hg; have hcz3_0 : w2.cell? ⟨gb154, 0, none⟩ = some (.string (⟨#[]⟩ : ByteArray)) := (blk_cell BK154.out 0).trans rfl; have hcz3_1 : w2.cell? ⟨gb154, 1, none⟩ = some (.slice none 0 0) := (blk_cell BK154.out 1).trans rfl; have hcz3_2 : w2.cell? ⟨gb154, 2, none⟩ = some (.int .i64 0) := (blk_cell BK154.out 2).trans rfl; have hcz3_3 : w2.cell? ⟨gb154, 3, none⟩ = some (.int .i64 0) := (blk_cell BK154.out 3).trans rfl; have hcz3_4 : w2.cell? ⟨gb154, 4, none⟩ = some (.int .i64 0) := (blk_cell BK154.out 4).trans rfl; have hcz3_5 : w2.cell? ⟨gb154, 5, none⟩ = some (.int .i64 0) := (blk_cell BK154.out 5).trans rfl; have hcz3_6 : w2.cell? ⟨gb154, 6, none⟩ = some (.int .i64 0) := (blk_cell BK154.out 6).trans rfl; have hcz3_7 : w2.cell? ⟨gb154, 7, none⟩ = some (.int .i64 0) := (blk_cell BK154.out 7).trans rfl; have hcz3_8 : w2.cell? ⟨gb154, 8, none⟩ = some (.int .i64 0) := (blk_cell BK154.out 8).trans rfl; have hfz3_0 := blk_frozen BK154.out 0; have hfz3_1 := blk_frozen BK154.out 1; have hfz3_2 := blk_frozen BK154.out 2; have hfz3_3 := blk_frozen BK154.out 3; have hfz3_4 := blk_frozen BK154.out 4; have hfz3_5 := blk_frozen BK154.out 5; have hfz3_6 := blk_frozen BK154.out 6; have hfz3_7 := blk_frozen BK154.out 7; have hfz3_8 := blk_frozen BK154.out 8))
  refine bodyPost_ret (results_cell_row rfl _ _ gb154 27 #[.string a0, .slice none 0 0, .int .i64 0, .int .i64 0, .int .i64 1, .int .i64 1, .int .i64 0, .int .i64 1, .int .i64 1] (0, 0) _ rfl (by (with_reducible repeat (first | refine blk_drewN ?_ _ | refine blk_drew ?_ | refine blk_alloc ?_ _)); refine blk_put (cs := #[.string a0, .slice none 0 0, .int .i64 0, .int .i64 0, .int .i64 1, .int .i64 1, .int .i64 0, .int .i64 1, .int .i64 0]) ?_ 8 _ rfl; (with_reducible repeat (first | refine blk_drewN ?_ _ | refine blk_drew ?_ | refine blk_alloc ?_ _)); refine blk_put (cs := #[.string a0, .slice none 0 0, .int .i64 0, .int .i64 0, .int .i64 1, .int .i64 1, .int .i64 0, .int .i64 0, .int .i64 0]) ?_ 7 _ rfl; (with_reducible repeat (first | refine blk_drewN ?_ _ | refine blk_drew ?_ | refine blk_alloc ?_ _)); refine blk_put (cs := #[.string a0, .slice none 0 0, .int .i64 0, .int .i64 0, .int .i64 1, .int .i64 1, .int .i64 0, .int .i64 0, .int .i64 0]) ?_ 6 _ rfl; (with_reducible repeat (first | refine blk_drewN ?_ _ | refine blk_drew ?_ | refine blk_alloc ?_ _)); refine blk_put (cs := #[.string a0, .slice none 0 0, .int .i64 0, .int .i64 0, .int .i64 1, .int .i64 0, .int .i64 0, .int .i64 0, .int .i64 0]) ?_ 5 _ rfl; (with_reducible repeat (first | refine blk_drewN ?_ _ | refine blk_drew ?_ | refine blk_alloc ?_ _)); refine blk_put (cs := #[.string a0, .slice none 0 0, .int .i64 0, .int .i64 0, .int .i64 0, .int .i64 0, .int .i64 0, .int .i64 0, .int .i64 0]) ?_ 4 _ rfl; (with_reducible repeat (first | refine blk_drewN ?_ _ | refine blk_drew ?_ | refine blk_alloc ?_ _)); refine blk_put (cs := #[.string a0, .slice none 0 0, .int .i64 0, .int .i64 0, .int .i64 0, .int .i64 0, .int .i64 0, .int .i64 0, .int .i64 0]) ?_ 3 _ rfl; (with_reducible repeat (first | refine blk_drewN ?_ _ | refine blk_drew ?_ | refine blk_alloc ?_ _)); refine blk_put (cs := #[.string a0, .slice none 0 0, .int .i64 0, .int .i64 0, .int .i64 0, .int .i64 0, .int .i64 0, .int .i64 0, .int .i64 0]) ?_ 2 _ rfl; (with_reducible repeat (first | refine blk_drewN ?_ _ | refine blk_drew ?_ | refine blk_alloc ?_ _)); refine blk_put (cs := #[.string a0, .slice none 0 0, .int .i64 0, .int .i64 0, .int .i64 0, .int .i64 0, .int .i64 0, .int .i64 0, .int .i64 0]) ?_ 1 _ rfl; (with_reducible repeat (first | refine blk_drewN ?_ _ | refine blk_drew ?_ | refine blk_alloc ?_ _)); refine blk_put (cs := #[.string (⟨#[]⟩ : ByteArray), .slice none 0 0, .int .i64 0, .int .i64 0, .int .i64 0, .int .i64 0, .int .i64 0, .int .i64 0, .int .i64 0]) ?_ 0 _ rfl; (with_reducible repeat (first | refine blk_drewN ?_ _ | refine blk_drew ?_ | refine blk_alloc ?_ _)); exact BK154.out) Tryz.underlying27 rfl (by kernel_rfl)) rfl ?_
  exact ⟨_, by first | rfl | (simp [errW_none, errW_some] <;> rfl) | (simp [*, errW_none, errW_some] <;> rfl), by first | exact Kd.S_nil _ _ _ _ _ | exact Kd.N_nil _ _ _ _ _ | exact Kd.V_nil _ _ _ _ _ | exact Kd.Q_nil _ _ _ _ _ | exact Kd.R_nil _ _ _ _ _, by repeat (first | (with_reducible first | exact HB.out | apply below_alloc | apply pw_below_drewN | apply below_drew1 | refine below_set ?_ GE154.out) | exact HB.out)⟩

end Go.Proofs.YthmnhbalmglohaaGreatDoor.X

/- slices.ContainsFunc on texts over this program. -/
namespace Go.Proofs.YthmnhbalmglohaaGreatDoor.T
open Go.RowKit
set_option linter.unusedSimpArgs false
set_option linter.unusedVariables false
/-- a function value that tells whether p holds of a text -/
def PredS (g : Nat) (lb : Array Value) (p : ByteArray → Bool) (D : ByteArray → Prop) (w : World) : Prop :=
  ∀ (W : World) (c : ByteArray), Below w.heap.size w W → D c → Calls Tryz.prog g (#[.string c] ++ lb) W fun e w' => e = .returned (.bool (p c)) ∧ Below W.heap.size W w'
theorem PredS.later {g : Nat} {lb : Array Value} {p : ByteArray → Bool} {D : ByteArray → Prop} {w W : World} (h : PredS g lb p D w) (hb : Below w.heap.size w W) : PredS g lb p D W := fun W1 c h1 hd => h W1 c (below_next hb h1) hd

set_option maxHeartbeats 1000000 in
theorem index_string (g : Nat) (lb : Array Value) (p : ByteArray → Bool) (D : ByteArray → Prop) (eg : ∀ args w, (callFunc g args).run Tryz.prog w = .ok (.enter g args) w) (b off n c : Nat) (zs : List ByteArray) (w : World)
    (hp : PredS g lb p D w) (hD : ∀ x ∈ zs, D x) (hn : zs.length = n) (hbig : n ≤ 9223372036854775807) (hc : ∀ j, j < n → w.cell? ⟨b, off + j, none⟩ = some (.string (zs.getD j ByteArray.empty))) :
    Calls Tryz.prog 58 #[.slice (some ⟨b, off, none⟩) n c, .func (.func g) #[] lb] w fun e w' => e = .returned (.int .i64 (fidx p zs)) ∧ Below w.heap.size w w' := by
  have HP := Lib.hid hp; clear hp
  have HD := Lib.hid hD; clear hD
  have HN := Lib.hid hn; clear hn
  have HC := Lib.hid hc; clear hc
  go_enter Tryz.func58, Tryz.ntmps58
  go_wp2
  go_loopg [5, 8] n (fun gg _ s8 wr => ∃ kk : Nat, kk ≤ n ∧ n - kk ≤ gg ∧ s8 = .int .i64 kk ∧ Aside (Below w.heap.size w wr) ∧ Aside (∀ j, j < kk → p (zs.getD j ByteArray.empty) = false))
  case atStart => exact ⟨0, Nat.zero_le _, by omega, rfl, Below.refl _ _, fun j hj => absurd hj (Nat.not_lt_zero _)⟩
  case round =>
    obtain ⟨kk, hkk, hg, rfl, HB0, A⟩ := hrel
    have HB : Hid (Below w.heap.size w wr) := Lib.hid HB0.out
    clear HB0
    by_cases hlt : kk < n
    · have hltz : (kk : Int) < (n : Int) := by omega
      have hcell0 := HC.out kk hlt
      have hcell : wr.cell? ⟨b, off + kk, none⟩ = some (.string (zs.getD kk ByteArray.empty)) := (HB.out.cell (World.block_lt_of_cell? w _ hcell0)).trans hcell0
      clear hcell0
      have hdy : D (zs.getD kk ByteArray.empty) := HD.out _ (by
        have := HN.out
        rw [List.getD_eq_getElem?_getD, List.getElem?_eq_getElem (by omega)]
        exact List.getElem_mem _)
      generalize hy : zs.getD kk ByteArray.empty = y at hcell hdy
      have B : Hid (zs.getD kk ByteArray.empty = y) := Lib.hid hy
      clear hy
      have hcall := fun W hb => HP.out W y hb hdy
      clear hdy
      cases hq : p y with
      | true =>
        rw [hq] at hcall
        have HCALL := Lib.hid hcall; clear hcall
        have HQ := Lib.hid hq; clear hq
        go_wp2_with (go_at_fn g; refine (HCALL.out _ HB.out).mono ?_; rintro e w' ⟨rfl, hb⟩)
        go_ret
        exact ⟨ret_i64 (fidx_hit p ByteArray.empty zs kk (by have := HN.out; omega) (by rw [B.out]; exact HQ.out) A.out).symm, below_next HB.out hb⟩
      | false =>
        rw [hq] at hcall
        have HCALL := Lib.hid hcall; clear hcall
        have HQ := Lib.hid hq; clear hq
        go_wp2_with (go_at_fn g; refine (HCALL.out _ HB.out).mono ?_; rintro e w' ⟨rfl, hb⟩)
        go_roundg (n - (kk + 1))
        case measure => omega
        case rel =>
          refine ⟨kk + 1, by omega, by omega, by go_num, below_next HB.out hb, fun j hj => ?_⟩
          by_cases e : j = kk
          · subst e
            rw [B.out]; exact HQ.out
          · exact A.out j (by omega)
    · have hltz : ¬ (kk : Int) < (n : Int) := by omega
      obtain rfl : kk = n := by omega
      go_wp2
      go_ret
      exact ⟨ret_i64 (fidx_miss p ByteArray.empty zs (by have := HN.out; intro j hj; exact A.out j (by omega))).symm, HB.out⟩

theorem contains_string (g : Nat) (lb : Array Value) (p : ByteArray → Bool) (D : ByteArray → Prop) (eg : ∀ args w, (callFunc g args).run Tryz.prog w = .ok (.enter g args) w) (b off n c : Nat) (zs : List ByteArray) (w : World)
    (hp : PredS g lb p D w) (hD : ∀ x ∈ zs, D x) (hn : zs.length = n) (hbig : n ≤ 9223372036854775807) (hc : ∀ j, j < n → w.cell? ⟨b, off + j, none⟩ = some (.string (zs.getD j ByteArray.empty))) :
    Calls Tryz.prog 39 #[.slice (some ⟨b, off, none⟩) n c, .func (.func g) #[] lb] w fun e w' => e = .returned (.bool (zs.any p)) ∧ Below w.heap.size w w' := by
  have H := Lib.hid (index_string g lb p D eg b off n c zs w hp hD hn hbig hc)
  clear hp hD hn hc
  go_enter Tryz.func39, Tryz.ntmps39
  go_wp2_with (go_at_call 58; refine H.out.mono ?_; rintro e w' ⟨rfl, hb⟩)
  go_ret
  exact ⟨ret_bool (fidx_any p zs), hb⟩


theorem index_string_none (A : Option Addr) (c : Nat) (fv : Value) (w : World) :
    Calls Tryz.prog 58 #[.slice A 0 c, fv] w fun e w' => e = .returned (.int .i64 (-1)) ∧ w' = w := by
  go_enter Tryz.func58, Tryz.ntmps58
  go_wp2
  go_loopg [5, 8] 0 (fun _ _ s8 wr => s8 = .int .i64 0 ∧ wr = w)
  case atStart => exact ⟨rfl, rfl⟩
  case round =>
    obtain ⟨rfl, rfl⟩ := hrel
    go_wp2
    go_ret
    exact ⟨rfl, rfl⟩
theorem contains_string_none (A : Option Addr) (c : Nat) (fv : Value) (w : World) :
    Calls Tryz.prog 39 #[.slice A 0 c, fv] w fun e w' => e = .returned (.bool false) ∧ w' = w := by
  go_enter Tryz.func39, Tryz.ntmps39
  go_wp2_with (go_at_call 58; refine (index_string_none _ _ _ _).mono ?_; rintro e w' ⟨rfl, rfl⟩)
  go_ret
  exact ⟨rfl, rfl⟩
/-- the same at whatever slice -/
theorem contains_string_any (g : Nat) (lb : Array Value) (p : ByteArray → Bool) (D : ByteArray → Prop) (eg : ∀ args w, (callFunc g args).run Tryz.prog w = .ok (.enter g args) w) (A : Option Addr) (c : Nat) (zs : List ByteArray) (w : World)
    (hp : PredS g lb p D w) (hD : ∀ x ∈ zs, D x) (hbig : zs.length ≤ 9223372036854775807) (hc : 0 < zs.length → ∃ b off, A = some ⟨b, off, none⟩ ∧ ∀ j, j < zs.length → w.cell? ⟨b, off + j, none⟩ = some (.string (zs.getD j ByteArray.empty))) :
    Calls Tryz.prog 39 #[.slice A zs.length c, .func (.func g) #[] lb] w fun e w' => e = .returned (.bool (zs.any p)) ∧ Below w.heap.size w w' := by
  rcases Nat.eq_zero_or_pos zs.length with h0 | h0
  · obtain rfl := List.eq_nil_of_length_eq_zero h0
    exact (contains_string_none A c _ w).mono fun e w' ⟨he, hw⟩ => ⟨he, by subst hw; exact Below.refl _ _⟩
  · obtain ⟨b, off, rfl, hc2⟩ := hc h0
    exact contains_string g lb p D eg b off zs.length c zs w hp hD rfl hbig hc2
end Go.Proofs.YthmnhbalmglohaaGreatDoor.T

/- slices.ContainsFunc on rules over this program. -/
namespace Go.Proofs.YthmnhbalmglohaaGreatDoor.X
open Go.RowKit Go.Proofs.YthmnhbalmglohaaGreatDoorW.PrintWords Go.Proofs.YthmnhbalmglohaaGreatDoor.T
set_option linter.unusedSimpArgs false
set_option linter.unusedVariables false
/-- a rule as it is handed over -/
def ruleV (x : S46) (A : Option Addr) (c : Nat) : Value := .agg #[.bool x.f0, .string x.f1, .int .i64 x.f2, .int .i64 x.f3, .slice A x.f4.length c]
/-- a function value that tells whether p holds of a rule -/
def PredR (g : Nat) (lb : Array Value) (p : S46 → Bool) (D : S46 → Prop) (w : World) : Prop :=
  ∀ (W : World) (x : S46) (A : Option Addr) (c : Nat), Below w.heap.size w W → D x → Kd.C Kd.string W A x.f4.length x.f4 → x.f4.length ≤ c → Calls Tryz.prog g (#[ruleV x A c] ++ lb) W fun e w' => e = .returned (.bool (p x)) ∧ Below W.heap.size W w'
/-- the rule at a place of a slice -/
theorem rule_at {w : World} {A : Option Addr} {n : Nat} {zs : List S46} (h : Kd.C k46 w A n zs) (hn : 0 < n) : ∃ b off, A = some ⟨b, off, none⟩ ∧ ∀ i, i < n → ∃ A1 c1, (zs.getD i z46).f4.length ≤ c1 ∧ Kd.C Kd.string w A1 (zs.getD i z46).f4.length (zs.getD i z46).f4 ∧
    w.cell? ⟨b, off + i * 5, none⟩ = some (.bool (zs.getD i z46).f0) ∧ w.cell? ⟨b, off + i * 5 + 1, none⟩ = some (.string (zs.getD i z46).f1) ∧ w.cell? ⟨b, off + i * 5 + 2, none⟩ = some (.int .i64 (zs.getD i z46).f2) ∧ w.cell? ⟨b, off + i * 5 + 3, none⟩ = some (.int .i64 (zs.getD i z46).f3) ∧ w.cell? ⟨b, off + i * 5 + 4, none⟩ = some (.slice A1 (zs.getD i z46).f4.length c1) := by
  obtain ⟨b, off, e, hc⟩ := C_cells z46 h hn (by decide)
  refine ⟨b, off, e, fun i hi => ?_⟩
  obtain ⟨c, _, hK, hcc⟩ := hc i hi
  obtain ⟨A1, c1, rfl, hl, hC⟩ := k46_open hK
  have hsz : k46.sz = 5 := rfl
  rw [hsz] at hcc
  exact ⟨A1, c1, hl, hC, by simpa using hcc 0 _ rfl, by simpa [Nat.add_assoc] using hcc 1 _ rfl, by simpa [Nat.add_assoc] using hcc 2 _ rfl, by simpa [Nat.add_assoc] using hcc 3 _ rfl, by simpa [Nat.add_assoc] using hcc 4 _ rfl⟩
theorem index_rule_none (A : Option Addr) (c : Nat) (fv : Value) (w : World) :
    Calls Tryz.prog 59 #[.slice A 0 c, fv] w fun e w' => e = .returned (.int .i64 (-1)) ∧ w' = w := by
  go_enter Tryz.func59, Tryz.ntmps59
  go_wp2
  go_loopg [5, 8] 0 (fun _ _ s8 wr => s8 = .int .i64 0 ∧ wr = w)
  case atStart => exact ⟨rfl, rfl⟩
  case round =>
    obtain ⟨rfl, rfl⟩ := hrel
    go_wp2
    go_ret
    exact ⟨rfl, rfl⟩
set_option maxHeartbeats 2000000 in
theorem index_rule (g : Nat) (lb : Array Value) (p : S46 → Bool) (D : S46 → Prop) (eg : ∀ args w, (callFunc g args).run Tryz.prog w = .ok (.enter g args) w) (A : Option Addr) (c : Nat) (zs : List S46) (w : World)
    (hp : PredR g lb p D w) (hD : ∀ x ∈ zs, D x) (hbig : zs.length ≤ 9223372036854775807) (hc : Kd.C k46 w A zs.length zs) :
    Calls Tryz.prog 59 #[.slice A zs.length c, .func (.func g) #[] lb] w fun e w' => e = .returned (.int .i64 (fidx p zs)) ∧ Below w.heap.size w w' := by
  rcases Nat.eq_zero_or_pos zs.length with h0 | h0
  · obtain rfl := List.eq_nil_of_length_eq_zero h0
    exact (index_rule_none A c _ w).mono fun e w' ⟨he, hw⟩ => ⟨he, below_same hw⟩
  obtain ⟨b, off, rfl, hcell⟩ := rule_at hc h0
  have HP := Lib.hid hp; clear hp
  have HD := Lib.hid hD; clear hD
  have HC := Lib.hid hcell; clear hcell hc
  generalize hn : zs.length = n at HC hbig h0
  have HN := Lib.hid hn; clear hn
  go_enter Tryz.func59, Tryz.ntmps59
  go_wp2
  go_loopg [5, 8] n (fun gg _ s8 wr => ∃ kk : Nat, kk ≤ n ∧ n - kk ≤ gg ∧ s8 = .int .i64 kk ∧ Aside (Below w.heap.size w wr) ∧ Aside (∀ j, j < kk → p (zs.getD j z46) = false))
  case atStart => exact ⟨0, Nat.zero_le _, by omega, rfl, Below.refl _ _, fun j hj => absurd hj (Nat.not_lt_zero _)⟩
  case round =>
    obtain ⟨kk, hkk, hg, rfl, HB0, AA⟩ := hrel
    have HB : Hid (Below w.heap.size w wr) := Lib.hid HB0.out
    clear HB0
    by_cases hlt : kk < n
    · have hltz : (kk : Int) < (n : Int) := by omega
      have hmem : zs.getD kk z46 ∈ zs := by
        have := HN.out
        rw [List.getD_eq_getElem?_getD, List.getElem?_eq_getElem (by omega)]
        exact List.getElem_mem _
      obtain ⟨A1, c1, hl1, hC1, e0, e1, e2, e3, e4⟩ := HC.out kk hlt
      have hdy := HD.out _ hmem
      clear hmem
      generalize hy : zs.getD kk z46 = y at e0 e1 e2 e3 e4 hl1 hC1 hdy
      have B : Hid (zs.getD kk z46 = y) := Lib.hid hy
      clear hy
      replace e0 := (HB.out.cell (World.block_lt_of_cell? w _ e0)).trans e0
      replace e1 := (HB.out.cell (World.block_lt_of_cell? w _ e1)).trans e1
      replace e2 := (HB.out.cell (World.block_lt_of_cell? w _ e2)).trans e2
      replace e3 := (HB.out.cell (World.block_lt_of_cell? w _ e3)).trans e3
      replace e4 := (HB.out.cell (World.block_lt_of_cell? w _ e4)).trans e4
      have hcall := HP.out wr y A1 c1 HB.out hdy (Kd.C_below hC1 HB.out) hl1
      clear hdy hC1 hl1
      unfold ruleV at hcall
      cases hq : p y with
      | true =>
        rw [hq] at hcall
        have HCALL := Lib.hid hcall; clear hcall
        have HQ := Lib.hid hq; clear hq
        go_wp2_with (go_at_fn g; refine (HCALL.out).mono ?_; rintro e w' ⟨rfl, hb⟩)
        go_ret
        exact ⟨ret_i64 (fidx_hit p z46 zs kk (by have := HN.out; omega) (by rw [B.out]; exact HQ.out) AA.out).symm, below_next HB.out hb⟩
      | false =>
        rw [hq] at hcall
        have HCALL := Lib.hid hcall; clear hcall
        have HQ := Lib.hid hq; clear hq
        go_wp2_with (go_at_fn g; refine (HCALL.out).mono ?_; rintro e w' ⟨rfl, hb⟩)
        go_roundg (n - (kk + 1))
        case measure => omega
        case rel =>
          refine ⟨kk + 1, by omega, by omega, by go_num, below_next HB.out hb, fun j hj => ?_⟩
          by_cases e : j = kk
          · subst e
            rw [B.out]; exact HQ.out
          · exact AA.out j (by omega)
    · have hltz : ¬ (kk : Int) < (n : Int) := by omega
      obtain rfl : kk = n := by omega
      go_wp2
      go_ret
      exact ⟨ret_i64 (fidx_miss p z46 zs (by have := HN.out; intro j hj; exact AA.out j (by omega))).symm, HB.out⟩
theorem contains_rule (g : Nat) (lb : Array Value) (p : S46 → Bool) (D : S46 → Prop) (eg : ∀ args w, (callFunc g args).run Tryz.prog w = .ok (.enter g args) w) (A : Option Addr) (c : Nat) (zs : List S46) (w : World)
    (hp : PredR g lb p D w) (hD : ∀ x ∈ zs, D x) (hbig : zs.length ≤ 9223372036854775807) (hc : Kd.C k46 w A zs.length zs) :
    Calls Tryz.prog 42 #[.slice A zs.length c, .func (.func g) #[] lb] w fun e w' => e = .returned (.bool (zs.any p)) ∧ Below w.heap.size w w' := by
  have H := Lib.hid (index_rule g lb p D eg A c zs w hp hD hbig hc)
  clear hp hD hbig hc
  go_enter Tryz.func42, Tryz.ntmps42
  go_wp2_with (go_at_call 59; refine H.out.mono ?_; rintro e w' ⟨rfl, hb⟩)
  go_ret
  exact ⟨ret_bool (fidx_any p zs), hb⟩
end Go.Proofs.YthmnhbalmglohaaGreatDoor.X

/- strconv.FormatUint at base 10, over this program; turned out of the kit's own proof for FormatInt. -/
namespace Go.Proofs.YthmnhbalmglohaaGreatDoor.T
open Go.RowKit Go.Sort Go.Lib
set_option linter.unusedVariables false
set_option maxHeartbeats 6400000 in
set_option maxRecDepth 100000 in
theorem formatUint_in (u : Nat) (hu64 : u < 18446744073709551616) (w : World)
    (htab : Lib.TabIs Tryz.prog w "internal/strconv.uint64pow10" .u64 Lib.pow10Tab) :
    Calls Tryz.prog 108 #[.int .u64 u, .int .i64 10] w fun e w' => e = .returned (.string ⟨(Lib.decDigits u).toArray⟩) ∧ ∃ k os, w' = grow (w.drewN k) os := by
  by_cases hs : u < 100
  · go_enter Tryz.func108, Tryz.ntmps108
    go_wp2_with (go_at_call 117; refine (Tryz.internal_strconv_small u hs _).mono ?_; rintro e w' ⟨rfl, rfl⟩)
    go_ret
    exact ⟨rfl, 0, #[], by simp [World.drewN_zero]⟩
  · have hu1 : 1 ≤ u := by omega
    have hnd20 : Lib.nDigits u ≤ 20 := by have := Lib.numDigits_eq u hu1 hu64; split at this <;> omega
    have hb3 : Lib.nDigits u ≤ 23 := by omega
    have hal : Tryz.prog.arrayLen 116 = 24 := by kernel_rfl
    have hsl1 : ∀ W, (Instr.sliceAt 116 (.pointer (some ⟨w.heap.size, 0, none⟩)) none (some (.int .i64 (Lib.nDigits u : Int))) none).run Tryz.prog W = .ok (.slice (some ⟨w.heap.size, 0, none⟩) (Lib.nDigits u) 24) W := fun W => by
      rw [run_sliceAt_array_h W 116 ⟨w.heap.size, 0, none⟩ (by simp [Program.arrayLen, Program.elem, Tryz.underlying116]) .i64 (Lib.nDigits u : Int) (by omega) (by rw [hal]; omega)]
      go_simp
    have hH0 : Holds (fun (b : UInt8) => Value.int .u8 (b.toNat : Int)) (w.alloc (.cells Lib.zeros24 116)) w.heap.size 0 (Array.replicate (Lib.nDigits u) 0) := fun j hj => by
      have hj' : j < Lib.nDigits u := by simpa using hj
      refine ⟨?_, World.frozen?_alloc_new _ _ _ _⟩
      rw [World.cell?_alloc_new, Lib.zeros24_at _ (by omega), getElem!_pos _ j hj]
      simp
    have hfmt := Tryz.internal_strconv_formatBase10 w.heap.size 0 24 u (Array.replicate (Lib.nDigits u) 0) (w.alloc (.cells Lib.zeros24 116)) hH0 (by rw [Array.size_replicate]; exact Lib.lt_pow_nDigits u) hu64 (by rw [Array.size_replicate]; omega)
    rw [Array.size_replicate] at hfmt
    have HH0 := Lib.hid hH0
    clear hH0 hal
    go_enter Tryz.func108, Tryz.ntmps108
    go_wp2_with (first
      | (go_at_call 118; refine (Tryz.internal_strconv_numDigits u hu1 hu64 _ (Lib.tabIs_alloc htab _)).mono ?_; rintro e w' ⟨rfl, rfl⟩))
    go_at_call 119
    refine hfmt.mono ?_
    rintro e w' ⟨rfl, k, v', dk, rfl, hF⟩
    have hcv : (convert 42 9 (.slice (some ⟨w.heap.size, 0, none⟩) (Lib.nDigits u) 24)).run Tryz.prog ((putRow (fun (b : UInt8) => Value.int .u8 (b.toNat : Int)) (w.alloc (.cells Lib.zeros24 116)) w.heap.size 0 dk).drewN k) = .ok (.string ⟨(Lib.decDigits u).toArray⟩) ((putRow (fun (b : UInt8) => Value.int .u8 (b.toNat : Int)) (w.alloc (.cells Lib.zeros24 116)) w.heap.size 0 dk).drewN k) := by
      have h := run_convert_bytes_back (P := Tryz.prog) ((putRow (fun (b : UInt8) => Value.int .u8 (b.toNat : Int)) (w.alloc (.cells Lib.zeros24 116)) w.heap.size 0 dk).drewN k) 42 9 5 ⟨w.heap.size, 0, none⟩ 24 (Lib.decDigits u) Tryz.underlying42 Tryz.underlying5 Tryz.underlying9 (fun j hj => by
        rw [Lib.row_is_numeral hF j hj, Lib.add_plain, World.cell?_drewN]
        exact cell?_putRow (fun (b : UInt8) => Value.int .u8 (b.toNat : Int)) _ w.heap.size 0 _ dk HH0.out (by rw [hF.size, Array.size_replicate]) j (by rw [hF.size]; rw [Lib.decDigits_length] at hj; exact hj))
      rw [Lib.decDigits_length] at h
      exact h
    go_wp2
    go_ret
    refine ⟨rfl, k, ?_⟩
    rw [alloc_eq_grow]
    obtain ⟨os', _, e⟩ := putRow_grow_new (fun (b : UInt8) => Value.int .u8 (b.toNat : Int)) w #[.cells Lib.zeros24 116] w.heap.size 0 dk (Nat.le_refl _)
    exact ⟨os', by rw [e]; rfl⟩
theorem formatUint_any (u : Nat) (hu64 : u < 18446744073709551616) (w : World)
    (htab : Lib.TabIs Tryz.prog w "internal/strconv.uint64pow10" .u64 Lib.pow10Tab) :
    Calls Tryz.prog 97 #[.int .u64 u, .int .i64 10] w fun e w' => e = .returned (.string ⟨(Lib.decDigits u).toArray⟩) ∧ ∃ k os, w' = grow (w.drewN k) os := by
  go_enter Tryz.func97, Tryz.ntmps97
  go_wp2_with (go_at_call 108; refine (formatUint_in u hu64 _ htab).mono ?_; rintro e w' ⟨rfl, k, os, rfl⟩)
  go_ret
  exact ⟨rfl, k, os, rfl⟩
end Go.Proofs.YthmnhbalmglohaaGreatDoor.T

/- uri.all over this program. -/
namespace Go.Proofs.YthmnhbalmglohaaGreatDoor.T
open Go.RowKit
set_option linter.unusedSimpArgs false
set_option linter.unusedVariables false
theorem uall_1 (g : Nat) (lb : Array Value) (p : UInt8 → Bool) (eg : ∀ args w, (callFunc g args).run Tryz.prog w = .ok (.enter g args) w) (B : Nat) (w : World)
    (hp : PredB g lb p w) (hB : B < w.heap.size) (hc : w.cell? ⟨B, 0, none⟩ = some (.func (.func g) #[] lb)) : PredB 91 #[.pointer (some ⟨B, 0, none⟩)] (fun c => !p c) w := by
  intro W c hb
  have hc' : W.cell? ⟨B, 0, none⟩ = some (.func (.func g) #[] lb) := (hb.cell (p := ⟨B, 0, none⟩) hB).trans hc
  clear hc
  have HP := Lib.hid (fun W1 h1 => hp W1 c (below_next hb h1)); clear hp hb
  cases hq : p c with
  | _ =>
    rw [hq] at HP
    have HQ := Lib.hid hq; clear hq
    go_enter Tryz.func91, Tryz.ntmps91
    go_wp2_with (go_at_fn g; refine (HP.out _ (Below.refl _ _)).mono ?_; rintro e w' ⟨rfl, hb1⟩)
    go_ret
    exact ⟨ret_bool (by rw [HQ.out]; rfl), hb1⟩

theorem uall_any (g : Nat) (lb : Array Value) (p : UInt8 → Bool) (eg : ∀ args w, (callFunc g args).run Tryz.prog w = .ok (.enter g args) w) (s : ByteArray) (w : World)
    (hp : PredB g lb p w) (hs : s.size ≤ 9223372036854775807) :
    Calls Tryz.prog 73 #[.string s, .func (.func g) #[] lb] w fun e w' => e = .returned (.bool (s.data.toList.all p)) ∧ Below w.heap.size w w' := by
  have hcv := fun w => Lib.run_convert_string_bytes (P := Tryz.prog) w 9 42 5 s Tryz.underlying9 Tryz.underlying42 Tryz.underlying5
  have e1 : ∀ args w, (callFunc 91 args).run Tryz.prog w = .ok (.enter 91 args) w := enters_of Tryz.func91 (by kernel_rfl) rfl
  have hb0 : Below w.heap.size w (w.alloc (.cells #[.func (.func g) #[] lb] 57)) := below_alc (Below.refl _ _) _
  have hp1 := uall_1 g lb p eg w.heap.size (w.alloc (.cells #[.func (.func g) #[] lb] 57)) (hp.later hb0) (by simp) (cell_box _ _ _)
  have hc := fun c => contains_conv _ _ _ e1 s _ _ (w.heap.size + 1) c (by simp) (Below.refl _ _) hp1 hs
  generalize hr : (s.data.toList.any fun c => !p c) = r at hc
  have HR := Lib.hid hr; clear hr
  have HC := Lib.hid hc; clear hc
  have HB := Lib.hid hb0
  clear hp hp1 hb0 e1
  go_enter Tryz.func73, Tryz.ntmps73
  go_wp2_with (go_at_call 30; refine (HC.out _).mono ?_; rintro e w' ⟨rfl, hb⟩)
  go_ret
  refine ⟨ret_bool ?_, below_next HB.out hb⟩
  rw [← HR.out, List.not_any_eq_all_not]
  simp
end Go.Proofs.YthmnhbalmglohaaGreatDoor.T

/- uri.Named over this program, and what it calls. -/
namespace Go.Proofs.YthmnhbalmglohaaGreatDoor.T
open Go.RowKit
set_option linter.unusedSimpArgs false
set_option linter.unusedVariables false

/-! ### a label that is a number from 0 to 255 -/
def octB (s : ByteArray) : Bool := match Lib.parseUintB 8 s.data.toList with | .ok n => s.data.toList == Lib.decDigits n | _ => false
theorem bytes_eq (s : ByteArray) (l : List UInt8) (h : s.data.toList = l) : s = ⟨l.toArray⟩ := by cases s; subst h; rfl
theorem parse8_ok (s : ByteArray) (hlim : s.size ≤ 281474976710656) (u : Nat) (h : Lib.parseUintB 8 s.data.toList = .ok u) (w : World) :
    Calls Tryz.prog 96 #[.string s, .int .i64 10, .int .i64 8] w fun e w' => e = .returned (.tuple #[.int .u64 u, .nilIface]) ∧ Below w.heap.size w w' := by
  refine (Tryz.strconv_ParseUint_10_at8_ok s (by omega) u h w).mono fun e w' ⟨he, hw⟩ => ⟨he, ?_⟩
  rcases hw with rfl | rfl
  · exact Below.refl _ _
  · exact below_bytes (Below.refl _ _) _ _
theorem parse8_no (s : ByteArray) (hlim : s.size ≤ 281474976710656) (h : ∀ u, Lib.parseUintB 8 s.data.toList ≠ .ok u) (w : World) (hg : Glob w) :
    Calls Tryz.prog 96 #[.string s, .int .i64 10, .int .i64 8] w fun e w' => ∃ (n : Int) (N : Nat), e = .returned (.tuple #[.int .u64 n, .iface 112 (.pointer (some ⟨N, 0, none⟩))]) ∧ Below w.heap.size w w' := by
  rcases hp : Lib.parseUintB 8 s.data.toList with u | _ | _
  · exact absurd hp (h u)
  · obtain ⟨tp, p, hv⟩ := hg.errSyntax
    exact (Any.strconv_ParseUint_10_at8_syntax_var Tryz.laysPu14 s hlim hp tp p w hv).mono fun e w' ⟨N, he, _, _, hb⟩ => ⟨0, N, he, hb⟩
  · obtain ⟨tp, p, hv⟩ := hg.errRange
    exact (Tryz.strconv_ParseUint_10_at8_range_var s hlim hp tp p w hv).mono fun e w' ⟨N, he, _, _, hb⟩ => ⟨255, N, he, hb⟩
theorem oct_some {s : ByteArray} {u : Nat} (h : Lib.parseUintB 8 s.data.toList = .ok u) : octB s = (s.data.toList == Lib.decDigits u) := by unfold octB; rw [h]
theorem oct_none {s : ByteArray} (h : ∀ u, Lib.parseUintB 8 s.data.toList ≠ .ok u) : octB s = false := by
  unfold octB
  cases hp : Lib.parseUintB 8 s.data.toList with
  | ok u => exact absurd hp (h u)
  | _ => rfl
theorem oct_1 (w : World) (hg : Glob w) : PredS 95 #[] (fun s => !octB s) (fun s => s.size ≤ 281474976710656) w := by
  intro W s hb hs
  have HG := Lib.hid (hg.below hb)
  clear hb hg
  by_cases hok : ∃ u, Lib.parseUintB 8 s.data.toList = .ok u
  · obtain ⟨u, hu⟩ := hok
    have HP := Lib.hid (parse8_ok s hs u hu)
    have HO := Lib.hid (oct_some hu)
    have hu64 : u < 18446744073709551616 := by have := Lib.parseUintB_le hu; omega
    clear hu
    go_enter Tryz.func95, Tryz.ntmps95
    go_wp2_with (first
      | (go_at_call 96; refine (HP.out _).mono ?_; rintro e w1 ⟨rfl, hb1⟩; have HB1 := Lib.hid hb1; clear hb1)
      | (go_at_call 97; refine (formatUint_any u hu64 _ ((HG.out.below HB1.out).pow10)).mono ?_; rintro e w2 ⟨rfl, hb2⟩; have HB2 := Lib.hid hb2; clear hb2))
    go_ret
    refine ⟨ret_bool ?_, below_next HB1.out (below_grw HB2.out)⟩
    rw [HO.out, ← Lib.toList_data s, Bool.beq_comm]
  · have hno : ∀ u, Lib.parseUintB 8 s.data.toList ≠ .ok u := fun u h => hok ⟨u, h⟩
    have HP := Lib.hid (fun W => parse8_no s hs hno W)
    have HO := Lib.hid (oct_none hno)
    clear hok hno
    go_enter Tryz.func95, Tryz.ntmps95
    go_wp2_with (go_at_call 96; refine (HP.out _ HG.out).mono ?_; rintro e w1 ⟨n, N, rfl, hb1⟩)
    go_ret
    exact ⟨ret_bool (by rw [HO.out]; rfl), hb1⟩
theorem fn_oct : ∀ args w, (callFunc 95 args).run Tryz.prog w = .ok (.enter 95 args) w := enters_of Tryz.func95 (by kernel_rfl) rfl
def quadB (ls : List ByteArray) : Bool := decide (ls.length = 4) && ls.all octB
theorem quad_any (b off n c : Nat) (zs : List ByteArray) (w : World) (hg : Glob w) (hs : ∀ x ∈ zs, x.size ≤ 281474976710656) (hn : zs.length = n) (hbig : n ≤ 9223372036854775807)
    (hc : ∀ j, j < n → w.cell? ⟨b, off + j, none⟩ = some (.string (zs.getD j ByteArray.empty))) :
    Calls Tryz.prog 77 #[.slice (some ⟨b, off, none⟩) n c] w fun e w' => e = .returned (.bool (quadB zs)) ∧ Below w.heap.size w w' := by
  have hc1 := contains_string 95 #[] (fun s => !octB s) _ fn_oct b off n c zs w (oct_1 w hg) hs hn hbig hc
  generalize hr : (zs.any fun s => !octB s) = r at hc1
  have HC := Lib.hid hc1
  have HR := Lib.hid hr
  have HN := Lib.hid hn
  clear hc1 hr hc hs hn hg
  by_cases h4 : n = 4
  · have HQ : Hid (quadB zs = !r) := Lib.hid (by unfold quadB; rw [HN.out, h4, ← HR.out, List.not_any_eq_all_not]; simp)
    subst h4
    go_enter Tryz.func77, Tryz.ntmps77
    go_wp2_with (go_at_call 39; refine HC.out.mono ?_; rintro e w' ⟨rfl, hb⟩)
    go_ret
    exact ⟨ret_bool HQ.out.symm, hb⟩
  · have HQ : Hid (quadB zs = false) := Lib.hid (by unfold quadB; rw [HN.out]; simp [h4])
    have h4b : ((n : Int) == 4) = false := by simp; omega
    have h4c : decide ((n : Int) = 4) = false := by simp; omega
    clear h4
    go_enter Tryz.func77, Tryz.ntmps77
    go_wp2
    go_ret
    exact ⟨ret_bool HQ.out.symm, Below.refl _ _⟩

/-! ### a label that is a number -/
theorem dig_spec (c : UInt8) : isDig c = (decide (48 ≤ (c.toNat : Int)) && decide ((c.toNat : Int) ≤ 57)) := by
  have h : ∀ n : Fin 256, isDig (UInt8.ofNat n.val) = (decide (48 ≤ ((UInt8.ofNat n.val).toNat : Int)) && decide (((UInt8.ofNat n.val).toNat : Int) ≤ 57)) := by decide +kernel
  have := h ⟨c.toNat, c.toNat_lt⟩
  simpa using this
def hexI (c : UInt8) : Int := Lib.indexByte [48, 49, 50, 51, 52, 53, 54, 55, 56, 57, 97, 98, 99, 100, 101, 102, 65, 66, 67, 68, 69, 70] c
theorem hex_spec (c : UInt8) : isHexC c = decide (0 ≤ hexI c) := by
  have h : ∀ n : Fin 256, isHexC (UInt8.ofNat n.val) = decide (0 ≤ hexI (UInt8.ofNat n.val)) := by decide +kernel
  have := h ⟨c.toNat, c.toNat_lt⟩
  simpa using this
theorem hexI_any (c : UInt8) (w : World) : Calls Tryz.prog 29 #[.string ⟨#[48, 49, 50, 51, 52, 53, 54, 55, 56, 57, 97, 98, 99, 100, 101, 102, 65, 66, 67, 68, 69, 70]⟩, .int .u8 c.toNat] w fun e w' => e = .returned (.int .i64 (hexI c)) ∧ w = w' := by
  refine (Tryz.strings_IndexByte _ _ _).mono fun e w' ⟨he, hw⟩ => ⟨?_, hw.symm⟩
  rw [he]
  show Ending.returned (.int .i64 (Lib.indexByte _ (UInt8.ofNat c.toNat))) = _
  rw [UInt8.ofNat_toNat]
  rfl
theorem num_1 (w : World) : PredB 93 #[] isHexC w := by
  intro W c hb
  have HT := Lib.hid (hex_spec c)
  clear hb
  go_enter Tryz.func93, Tryz.ntmps93
  go_wp2_with (go_at_call 29; refine (hexI_any c _).mono ?_; rintro e w' ⟨rfl, rfl⟩)
  go_ret
  exact ⟨ret_bool HT.out.symm, Below.refl _ _⟩
theorem num_2 (w : World) : PredB 94 #[] isDig w := by
  intro W c hb
  have HT := Lib.hid (dig_spec c)
  clear hb
  go_enter Tryz.func94, Tryz.ntmps94
  go_wp2
  all_goals
    go_ret
    refine ⟨ret_bool ?_, Below.refl _ _⟩
    rw [HT.out, Bool.eq_iff_iff]
    simp only [Bool.or_eq_true, Bool.and_eq_true, decide_eq_true_eq, true_iff, Bool.not_eq_true', decide_eq_false_iff_not, bne_iff_ne, ne_eq, beq_iff_eq, Bool.false_eq_true, false_iff]
    omega
theorem fn_num_1 : ∀ args w, (callFunc 93 args).run Tryz.prog w = .ok (.enter 93 args) w := enters_of Tryz.func93 (by kernel_rfl) rfl
theorem fn_num_2 : ∀ args w, (callFunc 94 args).run Tryz.prog w = .ok (.enter 94 args) w := enters_of Tryz.func94 (by kernel_rfl) rfl
def numericB (s : ByteArray) : Bool := if Lib.hasPrefix s.data.toList [48, 120] then (Lib.trimPrefix s.data.toList [48, 120]).all isHexC else s.data.toList.all isDig
theorem numeric_any (s : ByteArray) (w : World) (hs : s.size ≤ 281474976710656) :
    Calls Tryz.prog 76 #[.string s] w fun e w' => e = .returned (.bool (numericB s)) ∧ Below w.heap.size w w' := by
  have hp := Tryz.strings_CutPrefix s ⟨#[48, 120]⟩
  have hpl : (⟨#[48, 120]⟩ : ByteArray).data.toList = [48, 120] := rfl
  rw [hpl] at hp
  clear hpl
  cases hb : Lib.hasPrefix s.data.toList [48, 120] with
  | true =>
    have HS : Hid (numericB s = (Lib.trimPrefix s.data.toList [48, 120]).all isHexC) := Lib.hid (by unfold numericB; rw [hb]; rfl)
    rw [hb] at hp
    have hlen : (Lib.trimPrefix s.data.toList [48, 120]).length ≤ s.size := by
      unfold Lib.trimPrefix
      rw [hb, if_pos rfl, List.length_drop, size_toList]; omega
    generalize hx : Lib.trimPrefix s.data.toList [48, 120] = x at hp HS hlen
    have HA := Lib.hid (fun W => uall_any 93 #[] isHexC fn_num_1 ⟨x.toArray⟩ W (num_1 W) (by show x.toArray.size ≤ _; rw [List.size_toArray]; omega))
    have HP := Lib.hid hp
    clear hp hb hx hlen
    go_enter Tryz.func76, Tryz.ntmps76
    go_wp2_with (first
      | (go_at_call 92; refine (HP.out _).mono ?_; rintro e w1 ⟨rfl, rfl⟩)
      | (go_at_call 73; refine (HA.out _).mono ?_; rintro e w2 ⟨rfl, hb2⟩))
    go_ret
    exact ⟨ret_bool (by rw [HS.out]), hb2⟩
  | false =>
    have HS : Hid (numericB s = s.data.toList.all isDig) := Lib.hid (by unfold numericB; rw [hb]; rfl)
    rw [hb] at hp
    have HA := Lib.hid (fun W => uall_any 94 #[] isDig fn_num_2 s W (num_2 W) (by omega))
    generalize hr : s.data.toList.all isDig = r at HA HS
    have HP := Lib.hid hp
    clear hp hb hr
    go_enter Tryz.func76, Tryz.ntmps76
    go_wp2_with (first
      | (go_at_call 92; refine (HP.out _).mono ?_; rintro e w1 ⟨rfl, rfl⟩)
      | (go_at_call 73; refine (HA.out _).mono ?_; rintro e w2 ⟨rfl, hb2⟩))
    go_ret
    exact ⟨ret_bool (by rw [HS.out]), hb2⟩
end Go.Proofs.YthmnhbalmglohaaGreatDoor.T

/- uri.Named over this program. -/
namespace Go.Proofs.YthmnhbalmglohaaGreatDoor.T
open Go.RowKit
set_option linter.unusedSimpArgs false
set_option linter.unusedVariables false
theorem plain_spec (c : UInt8) : isPlain c = ((decide (97 ≤ (c.toNat : Int)) && decide ((c.toNat : Int) ≤ 122)) || (decide (48 ≤ (c.toNat : Int)) && decide ((c.toNat : Int) ≤ 57))) := by
  have h : ∀ n : Fin 256, isPlain (UInt8.ofNat n.val) = ((decide (97 ≤ ((UInt8.ofNat n.val).toNat : Int)) && decide (((UInt8.ofNat n.val).toNat : Int) ≤ 122)) || (decide (48 ≤ ((UInt8.ofNat n.val).toNat : Int)) && decide (((UInt8.ofNat n.val).toNat : Int) ≤ 57))) := by decide +kernel
  have := h ⟨c.toNat, c.toNat_lt⟩
  simpa using this
theorem plain_any (c : UInt8) (w : World) : Calls Tryz.prog 75 #[.int .u8 c.toNat] w fun e w' => e = .returned (.bool (isPlain c)) ∧ w = w' := by
  have HT := Lib.hid (plain_spec c)
  go_enter Tryz.func75, Tryz.ntmps75
  go_wp2
  all_goals
    go_ret
    refine ⟨ret_bool ?_, rfl⟩
    rw [HT.out, Bool.eq_iff_iff]
    simp only [Bool.or_eq_true, Bool.and_eq_true, decide_eq_true_eq, true_iff, Bool.not_eq_true', decide_eq_false_iff_not, bne_iff_ne, ne_eq, beq_iff_eq, Bool.false_eq_true, false_iff]
    omega
theorem host_spec (c : UInt8) : isHostC c = (isPlain c || decide ((c.toNat : Int) = 45)) := by
  have h : ∀ n : Fin 256, isHostC (UInt8.ofNat n.val) = (isPlain (UInt8.ofNat n.val) || decide (((UInt8.ofNat n.val).toNat : Int) = 45)) := by decide +kernel
  have := h ⟨c.toNat, c.toNat_lt⟩
  simpa using this
theorem host_1 (w : World) : PredB 74 #[] isHostC w := by
  intro W c hb
  have HT := Lib.hid (host_spec c)
  clear hb
  have HP := Lib.hid (plain_any c)
  cases hq : isPlain c with
  | _ =>
    rw [hq] at HP HT
    clear hq
    go_enter Tryz.func74, Tryz.ntmps74
    go_wp2_with (go_at_call 75; refine (HP.out _).mono ?_; rintro e w' ⟨rfl, rfl⟩)
    all_goals
      go_ret
      refine ⟨ret_bool ?_, Below.refl _ _⟩
      rw [HT.out]
      first | rfl | (rw [Bool.eq_iff_iff]; simp)
theorem fn_host_1 : ∀ args w, (callFunc 74 args).run Tryz.prog w = .ok (.enter 74 args) w := enters_of Tryz.func74 (by kernel_rfl) rfl
def labelB (x : ByteArray) : Bool := !x.data.toList.isEmpty && x.data.toList.all isHostC
def labelsB (s : ByteArray) : List ByteArray := Lib.splitB ⟨#[46]⟩ 0 (Lib.countB s ⟨#[46]⟩) s
def namedB (s : ByteArray) : Bool := (labelsB s).all labelB && (decide (s.size ≤ 64) && (!numericB ((labelsB s).getD ((labelsB s).length - 1) ByteArray.empty) || quadB (labelsB s)))
theorem splitB_size (sep : ByteArray) : ∀ (k : Nat) (s : ByteArray), ∀ x ∈ Lib.splitB sep 0 k s, x.size ≤ s.size
  | 0, s, x, hx => by simp [Lib.splitB] at hx; subst hx; exact Nat.le_refl _
  | k + 1, s, x, hx => by
    unfold Lib.splitB at hx
    split at hx
    · simp at hx; subst hx; exact Nat.le_refl _
    · rcases List.mem_cons.1 hx with rfl | hx
      · rw [ByteArray.size_extract]; omega
      · have := splitB_size sep k _ x hx
        rw [ByteArray.size_extract] at this; omega
theorem labels_len (s : ByteArray) : (labelsB s).length = Lib.countB s ⟨#[46]⟩ + 1 := Lib.splitB_all ⟨#[46]⟩ (by decide) 0 _ s rfl
theorem labels_le (s : ByteArray) : (labelsB s).length ≤ s.size + 1 := by
  rw [labels_len]
  have := Lib.countB_le ⟨#[46]⟩ (by decide) s.size s (Nat.le_refl _)
  omega
theorem split_dot (s : ByteArray) (w : World) (hs : s.size < 4294967281) (hg : Glob w) :
    Calls Tryz.prog 72 #[.string s, .string ⟨#[46]⟩] w fun e w' => e = .returned (.slice (some ⟨w.heap.size, 0, none⟩) (labelsB s).length (labelsB s).length) ∧ Below w.heap.size w w' ∧ ∀ j, j < (labelsB s).length → w'.cell? ⟨w.heap.size, j, none⟩ = some (.string ((labelsB s).getD j ByteArray.empty)) := by
  obtain ⟨m, hm⟩ := hg.maxLen
  refine (Tryz.strings_Split s ⟨#[46]⟩ m w hs hm (by decide)).mono fun e w' ⟨he, hw⟩ => ?_
  subst hw
  rw [← labels_len] at he
  refine ⟨he, below_alc (Below.refl _ _) _, fun j hj => ?_⟩
  rw [World.cell?_alloc_new]
  show (((labelsB s).map Value.string).toArray)[j]? = _
  simp [List.getD_eq_getElem?_getD, List.getElem?_eq_getElem hj]
theorem isEmpty_lab (y : ByteArray) (h : y.toList.isEmpty = true) : labelB y = false := by
  unfold labelB; rw [← isEmpty_data0 y, h]; rfl
theorem lab_of (y : ByteArray) (h : y.toList.isEmpty = false) : labelB y = y.data.toList.all isHostC := by
  unfold labelB; rw [← isEmpty_data0 y, h]; rfl
set_option maxHeartbeats 2000000 in
theorem named_any (s : ByteArray) (w : World) (hs : s.size < 4294967281) (hg : Glob w) :
    Calls Tryz.prog 60 #[.string s] w fun e w' => e = .returned (.bool (namedB s)) ∧ Below w.heap.size w w' := by
  have HSP := Lib.hid (split_dot s w hs hg)
  have hsz : ∀ x ∈ labelsB s, x.size ≤ 281474976710656 := fun x hx => by have := splitB_size _ _ _ x hx; omega
  have hle := labels_le s
  have hpos : 0 < (labelsB s).length := by rw [labels_len]; omega
  have HN : Hid (namedB s = ((labelsB s).all labelB && (decide (s.size ≤ 64) && (!numericB ((labelsB s).getD ((labelsB s).length - 1) ByteArray.empty) || quadB (labelsB s))))) := Lib.hid rfl
  generalize hls : labelsB s = ls at HSP hsz hle hpos HN
  generalize hn : ls.length = n at HSP hle hpos HN
  have HL := Lib.hid hn
  have HG := Lib.hid hg
  have HZ := Lib.hid hsz
  clear hls hn hg hsz
  go_enter Tryz.func60, Tryz.ntmps60
  go_wp2_with (go_at_call 72; refine HSP.out.mono ?_; rintro e w1 ⟨rfl, hb1, hc1⟩; have HB1 := Lib.hid hb1; have HC1 := Lib.hid hc1; clear hb1 hc1)
  go_loopg [5, 10] n (fun gg _ s10 wr => ∃ kk : Nat, kk ≤ n ∧ n - kk ≤ gg ∧ s10 = .int .i64 kk ∧ Aside (Below w1.heap.size w1 wr) ∧ Aside (∀ j, j < kk → labelB (ls.getD j ByteArray.empty) = true))
  case atStart => exact ⟨0, Nat.zero_le _, by omega, rfl, Below.refl _ _, fun j hj => absurd hj (Nat.not_lt_zero _)⟩
  case round =>
    obtain ⟨kk, hkk, hg, rfl, HB0, A⟩ := hrel
    have HB : Hid (Below w1.heap.size w1 wr) := Lib.hid HB0.out
    clear HB0
    by_cases hlt : kk < n
    · have hltz : (kk : Int) < (n : Int) := by omega
      have hcell : wr.cell? ⟨w.heap.size, kk, none⟩ = some (.string (ls.getD kk ByteArray.empty)) := (HB.out.cell (World.block_lt_of_cell? w1 _ (HC1.out kk hlt))).trans (HC1.out kk hlt)
      have hyz : (ls.getD kk ByteArray.empty).size ≤ 281474976710656 := HZ.out _ (by
        rw [List.getD_eq_getElem?_getD, List.getElem?_eq_getElem (by rw [HL.out]; exact hlt)]
        exact List.getElem_mem _)
      generalize hy : ls.getD kk ByteArray.empty = y at hcell hyz
      have B : Hid (ls.getD kk ByteArray.empty = y) := Lib.hid hy
      clear hy
      cases he : y.toList.isEmpty with
      | true =>
        have HE := Lib.hid (isEmpty_lab y he)
        have he2 : (!y.toList.isEmpty) = false := by rw [he]; rfl
        go_wp2
        go_ret
        refine ⟨ret_bool ?_, below_next HB1.out HB.out⟩
        rw [HN.out, all_no_getD labelB ByteArray.empty ls kk (by rw [HL.out]; exact hlt) (by rw [B.out]; exact HE.out)]
        rfl
      | false =>
        have HE := Lib.hid (lab_of y he)
        have he2 : (!y.toList.isEmpty) = true := by rw [he]; rfl
        have hcall := fun W => uall_any 74 #[] isHostC fn_host_1 y W (host_1 W) (by omega)
        clear hyz
        cases hq : y.data.toList.all isHostC with
        | true =>
          rw [hq] at hcall
          have HC := Lib.hid hcall
          have HQ := Lib.hid hq
          clear hcall hq
          go_wp2_with (go_at_call 73; refine (HC.out _).mono ?_; rintro e w2 ⟨rfl, hb2⟩)
          go_roundg (n - (kk + 1))
          case measure => omega
          case rel =>
            refine ⟨kk + 1, by omega, by omega, by go_num, below_next HB.out hb2, fun j hj => ?_⟩
            by_cases e : j = kk
            · subst e
              rw [B.out, HE.out]; exact HQ.out
            · exact A.out j (by omega)
        | false =>
          rw [hq] at hcall
          have HC := Lib.hid hcall
          have HQ := Lib.hid hq
          clear hcall hq
          go_wp2_with (go_at_call 73; refine (HC.out _).mono ?_; rintro e w2 ⟨rfl, hb2⟩)
          go_ret
          refine ⟨ret_bool ?_, below_next HB1.out (below_next HB.out hb2)⟩
          rw [HN.out, all_no_getD labelB ByteArray.empty ls kk (by rw [HL.out]; exact hlt) (by rw [B.out, HE.out]; exact HQ.out)]
          rfl
    · have hltz : ¬ (kk : Int) < (n : Int) := by omega
      obtain rfl : kk = n := by omega
      have HALL : Hid (ls.all labelB = true) := Lib.hid (all_of_getD labelB ByteArray.empty ls (by rw [HL.out]; exact A.out))
      clear A
      by_cases h64 : s.size ≤ 64
      · have h64a : (s.size : Int) ≤ 64 := by omega
        have hcl := HC1.out (kk - 1) (by omega)
        have hcell : wr.cell? ⟨w.heap.size, kk - 1, none⟩ = some (.string (ls.getD (kk - 1) ByteArray.empty)) := (HB.out.cell (World.block_lt_of_cell? w1 _ hcl)).trans hcl
        clear hcl
        have hyz : (ls.getD (kk - 1) ByteArray.empty).size ≤ 281474976710656 := HZ.out _ (by
          rw [List.getD_eq_getElem?_getD, List.getElem?_eq_getElem (by rw [HL.out]; omega)]
          exact List.getElem_mem _)
        have HY : Hid (namedB s = (!numericB (ls.getD (kk - 1) ByteArray.empty) || quadB ls)) := Lib.hid (by rw [HN.out, HALL.out, decide_eq_true h64]; rfl)
        generalize hy : ls.getD (kk - 1) ByteArray.empty = y at hcell hyz HY
        clear hy
        have HNU := Lib.hid (fun W => numeric_any y W hyz)
        clear hyz
        cases hq : numericB y with
        | false =>
          rw [hq] at HNU HY
          clear hq
          go_wp2_with (go_at_call 76; refine (HNU.out _).mono ?_; rintro e w2 ⟨rfl, hb2⟩)
          go_ret
          exact ⟨ret_bool (by rw [HY.out]; rfl), below_next HB1.out (below_next HB.out hb2)⟩
        | true =>
          rw [hq] at HNU HY
          clear hq
          have HQU := Lib.hid (fun (W : World) (hb : Below w1.heap.size w1 W) => quad_any w.heap.size 0 kk kk ls W (HG.out.below (below_next HB1.out hb)) HZ.out HL.out (by omega) (fun j hj => by
            rw [Nat.zero_add]
            exact (hb.cell (World.block_lt_of_cell? w1 _ (HC1.out j hj))).trans (HC1.out j hj)))
          cases hq2 : quadB ls with
          | _ =>
            rw [hq2] at HQU HY
            clear hq2
            go_wp2_with (first
              | (go_at_call 76; refine (HNU.out _).mono ?_; rintro e w2 ⟨rfl, hb2⟩; have HB2 := Lib.hid (below_next HB.out hb2); clear hb2)
              | (go_at_call 77; refine (HQU.out _ HB2.out).mono ?_; rintro e w3 ⟨rfl, hb3⟩))
            go_ret
            exact ⟨ret_bool (by rw [HY.out]; rfl), below_next HB1.out (below_next HB2.out hb3)⟩
      · have h64a : ¬ (s.size : Int) ≤ 64 := by omega
        have HY : Hid (namedB s = false) := Lib.hid (by rw [HN.out, decide_eq_false h64]; simp)
        clear h64
        go_wp2
        go_ret
        exact ⟨ret_bool HY.out.symm, below_next HB1.out HB.out⟩
end Go.Proofs.YthmnhbalmglohaaGreatDoor.T

/- acl.May, acl.All, acl.Admits over this program. -/
namespace Go.Proofs.YthmnhbalmglohaaGreatDoor.T
open Go.RowKit
set_option linter.unusedSimpArgs false
set_option linter.unusedVariables false
theorem may_1 (w : World) : PredS 62 #[] (fun s => !tokenB s) (fun s => s.size ≤ 281474976710656) w := by
  intro W s hb hs
  have HT := Lib.hid (fun W => token_any s W (by omega))
  cases hq : tokenB s with
  | _ =>
    rw [hq] at HT
    clear hb hs
    have HQ := Lib.hid hq
    clear hq
    go_enter Tryz.func62, Tryz.ntmps62
    go_wp2_with (go_at_call 63; refine (HT.out _).mono ?_; rintro e w1 ⟨rfl, hb1⟩)
    go_ret
    exact ⟨ret_bool (by rw [HQ.out]; rfl), hb1⟩
theorem fn_may_1 : ∀ args w, (callFunc 62 args).run Tryz.prog w = .ok (.enter 62 args) w := enters_of Tryz.func62 (by kernel_rfl) rfl
/-- what acl.May tells of a rule -/
def hostMay (host : ByteArray) : Bool := host.data.toList == [42] || namedB ⟨(Lib.trimPrefix host.data.toList [46]).toArray⟩
def mayB (allow : Bool) (host : ByteArray) (low high : Int) (ms : List ByteArray) : Bool :=
  hostMay host && (decide (1 ≤ low) && decide (low ≤ high) && decide (high ≤ 65535)) && decide (ms.length ≤ 8) && ms.all tokenB
theorem trim_size (host : ByteArray) : (⟨(Lib.trimPrefix host.data.toList [46]).toArray⟩ : ByteArray).size ≤ host.size := by
  show (Lib.trimPrefix host.data.toList [46]).toArray.size ≤ _
  rw [List.size_toArray, ← size_toList host]
  unfold Lib.trimPrefix
  split
  · rw [List.length_drop]; omega
  · exact Nat.le_refl _
set_option maxHeartbeats 4000000 in
theorem may_any (allow : Bool) (host : ByteArray) (low high : Int) (A : Option Addr) (c : Nat) (ms : List ByteArray) (w : World) (hg : Glob w) (hh : host.size < 4294967281)
    (hs : ∀ x ∈ ms, x.size ≤ 281474976710656) (hbig : ms.length ≤ 9223372036854775807)
    (hc : 0 < ms.length → ∃ b off, A = some ⟨b, off, none⟩ ∧ ∀ j, j < ms.length → w.cell? ⟨b, off + j, none⟩ = some (.string (ms.getD j ByteArray.empty))) :
    Calls Tryz.prog 44 #[.agg #[.bool allow, .string host, .int .i64 low, .int .i64 high, .slice A ms.length c]] w fun e w' => e = .returned (.bool (mayB allow host low high ms)) ∧ Below w.heap.size w w' := by
  have HMET := Lib.hid (fun (W : World) (hb : Below w.heap.size w W) => contains_string_any 62 #[] (fun s => !tokenB s) _ fn_may_1 A c ms W (may_1 W) hs hbig (fun h0 => by
    obtain ⟨b, off, e, hc⟩ := hc h0
    exact ⟨b, off, e, fun j hj => (hb.cell (World.block_lt_of_cell? w _ (hc j hj))).trans (hc j hj)⟩))
  have HTR := Lib.hid (Tryz.strings_TrimPrefix host ⟨#[46]⟩)
  have HNM := Lib.hid (fun (W : World) (hb : Below w.heap.size w W) => named_any ⟨(Lib.trimPrefix host.data.toList [46]).toArray⟩ W (by have := trim_size host; omega) (hg.below hb))
  have HM : Hid (mayB allow host low high ms = (hostMay host && (decide (1 ≤ low) && decide (low ≤ high) && decide (high ≤ 65535)) && decide (ms.length ≤ 8) && !(ms.any fun s => !tokenB s))) := Lib.hid (by
    unfold mayB
    congr 1
    rw [List.not_any_eq_all_not]
    simp)
  have HH : Hid (hostMay host = (host.toList == [42] || namedB ⟨(Lib.trimPrefix host.data.toList [46]).toArray⟩)) := Lib.hid (by unfold hostMay; rw [Lib.toList_data])
  generalize hr : (ms.any fun s => !tokenB s) = r at HMET HM
  generalize hN : namedB ⟨(Lib.trimPrefix host.data.toList [46]).toArray⟩ = N at HNM HH
  clear hr hN hs hc hg
  cases h42 : host.toList == [42] with
  | true =>
    rw [h42] at HH
    have h42b : host.toList = [42] := by simpa using h42
    cases r with
    | _ =>
      go_enter Tryz.func44, Tryz.ntmps44
      go_wp2_with (go_at_call 39; refine (HMET.out _ (by first | exact below_alc (Below.refl _ _) _ | exact Below.refl _ _)).mono ?_; rintro e w1 ⟨rfl, hb1⟩)
      all_goals
        go_ret
        refine ⟨ret_bool ?_, ?_⟩
        · rw [HM.out, HH.out, Bool.eq_iff_iff]
          simp only [Bool.or_eq_true, Bool.and_eq_true, decide_eq_true_eq, true_iff, Bool.not_eq_true', decide_eq_false_iff_not, Bool.false_eq_true, false_iff, Bool.not_true, Bool.not_false, true_or, true_and, and_true, and_false, iff_false]
          try omega
        · first
          | exact below_next (below_alc (Below.refl _ _) _) hb1
          | exact below_alc (Below.refl _ _) _
          | exact hb1
          | exact Below.refl _ _
  | false =>
    rw [h42] at HH
    have h42b : ¬ (host.toList = [42]) := by simpa using h42
    cases N with
    | _ =>
      cases r with
      | _ =>
        go_enter Tryz.func44, Tryz.ntmps44
        go_wp2_with (first
          | (go_at_call 61; refine (HTR.out _).mono ?_; rintro e w1 ⟨rfl, rfl⟩)
          | (go_at_call 60; refine (HNM.out _ (by first | exact below_alc (Below.refl _ _) _ | exact Below.refl _ _)).mono ?_; rintro e w1 ⟨rfl, hb0⟩; have HB0 := Lib.hid (below_next (below_alc (Below.refl _ _) _) hb0); have hc2 : w1.cell? ⟨w.heap.size, 2, none⟩ = some (.int .i64 low) := (hb0.cell (p := ⟨w.heap.size, 2, none⟩) (by simp)).trans (World.cell?_alloc_new _ _ _ _); have hc3 : w1.cell? ⟨w.heap.size, 3, none⟩ = some (.int .i64 high) := (hb0.cell (p := ⟨w.heap.size, 3, none⟩) (by simp)).trans (World.cell?_alloc_new _ _ _ _); have hc4 : w1.cell? ⟨w.heap.size, 4, none⟩ = some (.slice A ms.length c) := (hb0.cell (p := ⟨w.heap.size, 4, none⟩) (by simp)).trans (World.cell?_alloc_new _ _ _ _); clear hb0)
          | (go_at_call 39; refine (HMET.out _ HB0.out).mono ?_; rintro e w2 ⟨rfl, hb1⟩))
        all_goals
          go_ret
          refine ⟨ret_bool ?_, ?_⟩
          · rw [HM.out, HH.out, Bool.eq_iff_iff]
            simp only [Bool.or_eq_true, Bool.and_eq_true, decide_eq_true_eq, true_iff, Bool.not_eq_true', decide_eq_false_iff_not, Bool.false_eq_true, false_iff, Bool.not_true, Bool.not_false, true_or, true_and, and_true, and_false, iff_false, or_false, false_or, false_and]
            try omega
          · first
            | exact below_next HB0.out hb1
            | exact HB0.out
end Go.Proofs.YthmnhbalmglohaaGreatDoor.T

/- acl.May, acl.All in the print's form. -/
namespace Go.Proofs.YthmnhbalmglohaaGreatDoor.X
open Go.RowKit Go.Proofs.YthmnhbalmglohaaGreatDoorW.PrintWords Go.Proofs.YthmnhbalmglohaaGreatDoor.T
set_option linter.unusedSimpArgs false
set_option linter.unusedVariables false
/-- the sizes at which a rule is asked -/
def fitsM (l : List ByteArray) : Bool := l.all fun m => decide (m.size ≤ 281474976710656)
theorem fitsM_mem {l : List ByteArray} (h : fitsM l = true) : ∀ m ∈ l, m.size ≤ 281474976710656 := fun m hm => by
  unfold fitsM at h
  rw [List.all_eq_true] at h
  simpa using h m hm
def acl_May.f (a0_0 : Bool) (a0_1 : ByteArray) (a0_2 : Int) (a0_3 : Int) (l0_4 : List ByteArray) : Option Bool :=
  if a0_1.size < 4294967281 ∧ fitsM l0_4 = true ∧ l0_4.length ≤ 9223372036854775807 then some (mayB a0_0 a0_1 a0_2 a0_3 l0_4) else none
theorem acl_May.calls (a0_0 : Bool) (a0_1 : ByteArray) (a0_2 : Int) (a0_3 : Int) (A0_4 : Option Addr) (c0_4 : Nat) (l0_4 : List ByteArray) (r : Bool) (w : World) (hr0_4 : Kd.C Kd.string w A0_4 l0_4.length l0_4) (hc0_4 : l0_4.length ≤ c0_4) (HGg : Glob w) (h : acl_May.f a0_0 a0_1 a0_2 a0_3 l0_4 = some r) :
    Calls Tryz.prog 44 #[.agg #[.bool a0_0, .string a0_1, .int .i64 a0_2, .int .i64 a0_3, .slice A0_4 l0_4.length c0_4]] w fun e w' => e = .returned (.bool r) ∧ Below w.heap.size w w' := by
  obtain ⟨⟨h1, h2, h3⟩, rfl⟩ := of_lim h
  exact may_any a0_0 a0_1 a0_2 a0_3 A0_4 c0_4 l0_4 w HGg h1 (fitsM_mem h2) h3 (fun h0 => C_strings hr0_4 h0)
def mayR (x : S46) : Bool := mayB x.f0 x.f1 x.f2 x.f3 x.f4
def fitsR (x : S46) : Bool := decide (x.f1.size < 4294967281) && (fitsM x.f4 && decide (x.f4.length ≤ 9223372036854775807))
theorem fitsR_f {x : S46} (h : fitsR x = true) : acl_May.f x.f0 x.f1 x.f2 x.f3 x.f4 = some (mayR x) := by
  unfold fitsR at h
  simp only [Bool.and_eq_true, decide_eq_true_eq] at h
  unfold acl_May.f mayR
  rw [if_pos h]
theorem all_r1 (w : World) (hg : Glob w) : PredR 43 #[] (fun x => !mayR x) (fun x => fitsR x = true) w := by
  intro W x A c hb hx hC hl
  have HM := Lib.hid (fun (W1 : World) (h1 : Below W.heap.size W W1) => acl_May.calls x.f0 x.f1 x.f2 x.f3 A c x.f4 (mayR x) W1 (Kd.C_below hC h1) hl ((hg.below hb).below h1) (fitsR_f hx))
  clear hb hC hl hg hx
  show Calls _ _ #[ruleV x A c] _ _
  unfold ruleV
  cases hq : mayR x with
  | _ =>
    rw [hq] at HM
    have HQ := Lib.hid hq
    clear hq
    go_enter Tryz.func43, Tryz.ntmps43
    go_wp2_with (go_at_call 44; refine (HM.out _ (below_alc (Below.refl _ _) _)).mono ?_; rintro e w1 ⟨rfl, hb1⟩)
    go_ret
    exact ⟨ret_bool (by rw [HQ.out]; rfl), below_next (below_alc (Below.refl _ _) _) hb1⟩
theorem fn_all_r1 : ∀ args w, (callFunc 43 args).run Tryz.prog w = .ok (.enter 43 args) w := enters_of Tryz.func43 (by kernel_rfl) rfl
def allB (l : List S46) : Bool := decide (l.length ≤ 16) && l.all mayR
def acl_All.f (l0 : List S46) : Option Bool := if l0.all fitsR = true ∧ l0.length ≤ 9223372036854775807 then some (allB l0) else none
theorem acl_All.calls (A0 : Option Addr) (c0 : Nat) (l0 : List S46) (r : Bool) (w : World) (hr0 : Kd.C k46 w A0 l0.length l0) (hc0 : l0.length ≤ c0) (HGg : Glob w) (h : acl_All.f l0 = some r) :
    Calls Tryz.prog 24 #[.slice A0 l0.length c0] w fun e w' => e = .returned (.bool r) ∧ Below w.heap.size w w' := by
  obtain ⟨⟨h1, h3⟩, rfl⟩ := of_lim h
  have hc := contains_rule 43 #[] (fun x => !mayR x) _ fn_all_r1 A0 c0 l0 w (all_r1 w HGg) (fun x hx => List.all_eq_true.1 h1 x hx) h3 hr0
  have HA : Hid (allB l0 = (decide (l0.length ≤ 16) && !(l0.any fun x => !mayR x))) := Lib.hid (by unfold allB; rw [List.not_any_eq_all_not]; simp)
  generalize hr : (l0.any fun x => !mayR x) = r at hc HA
  have HC := Lib.hid hc
  clear hc hr hr0 HGg h h1
  generalize l0.length = n at HC HA h3
  by_cases h16 : n ≤ 16
  · have h16a : (n : Int) ≤ 16 := by omega
    rw [decide_eq_true h16] at HA
    go_enter Tryz.func24, Tryz.ntmps24
    go_wp2_with (go_at_call 42; refine HC.out.mono ?_; rintro e w' ⟨rfl, hb⟩)
    go_ret
    exact ⟨ret_bool (by rw [HA.out]; rfl), hb⟩
  · have h16a : ¬ (n : Int) ≤ 16 := by omega
    rw [decide_eq_false h16] at HA
    clear h16
    go_enter Tryz.func24, Tryz.ntmps24
    go_wp2
    go_ret
    exact ⟨ret_bool (by rw [HA.out]; rfl), Below.refl _ _⟩
end Go.Proofs.YthmnhbalmglohaaGreatDoor.X
