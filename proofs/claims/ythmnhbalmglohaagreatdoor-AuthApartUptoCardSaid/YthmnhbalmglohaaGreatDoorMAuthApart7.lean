/- The law AuthApart: what the walk shows, put together with the plain law, as the given statement asks it: true for every argument of bulk at most 1048576. -/
import Derived.Test.YthmnhbalmglohaaGreatDoorMAuthApart1
import Derived.Test.YthmnhbalmglohaaGreatDoorMAuthApart6
import Derived.Test.YthmnhbalmglohaaGreatDoorMAuthApart5
import Derived.Test.YthmnhbalmglohaaGreatDoorMAuthApart2
import Derived.Test.YthmnhbalmglohaaGreatDoorMAuthApart3
import Derived.Test.YthmnhbalmglohaaGreatDoorMAuthApart4
import Derived.Test.YthmnhbalmglohaaGreatDoorCards
import Derived.Test.YthmnhbalmglohaaGreatDoorTie
import Derived.WalkKit
import Derived.ProofKit
import Derived.OpenShut
import Derived.ShutString
import Derived.ChangeOld
import Derived.Below
import Derived.SizedLaws
import Derived.Deep.DeepHandedRow
import Derived.Deep.DeepWitnessRowRef
-- PRINTED by print.py (a twelfth state) out of the translation. Not trusted: Lean checks it.
namespace Go.Proofs.YthmnhbalmglohaaGreatDoor.X
open Go.RowKit Go.Proofs.YthmnhbalmglohaaGreatDoorW.PrintWords Go.Proofs.YthmnhbalmglohaaGreatDoorW.PrintLast Go.Proofs.YthmnhbalmglohaaGreatDoorW.PrintMore
attribute [local go_sem] max2_int min2_int max_two min_two max_three min_three max_four min_four   -- for this text's walks alone
set_option linter.unusedVariables false
set_option linter.unusedSimpArgs false
open Go.Proofs.YthmnhbalmglohaaGreatDoor.T

/-! ### tollhouseref15_Config: function 10 -/
mutual
def tollhouseref15_Config.l0 : Nat → Int → List (S27) → Int → Int → Option (Bool)
  | 0, _, _, _, _ => none
  | k + 1, x3, x127000, x127001, x127002 => if x3 < (x127000.length : Int) then (if 0 ≤ x3 then ((tollhouseref15_Tenant.f k ((rd_T27 x127000 x3).f0) ((rd_T27 x127000 x3).f1) ((rd_T27 x127000 x3).f2) ((rd_T27 x127000 x3).f3) ((rd_T27 x127000 x3).f4) ((rd_T27 x127000 x3).f5) ((rd_T27 x127000 x3).f6) ((rd_T27 x127000 x3).f7) ((rd_T27 x127000 x3).f8)).bind fun t128 => (if t128 = true then (tollhouseref15_Config.l1 k x3 0 x127000 x127001 x127002) else (some false))) else (none)) else (if (x127000.length : Int) < 1 then (some false) else (if (x127000.length : Int) > 8 then (some false) else (if x127001 < 0 then (some false) else (if x127001 > 16 then (some false) else (if x127002 ≥ 1 then (some (decide (x127002 ≤ 1099511627776))) else (some false))))))
def tollhouseref15_Config.l1 : Nat → Int → Int → List (S27) → Int → Int → Option (Bool)
  | 0, _, _, _, _, _ => none
  | k + 1, x3, x4, x127000, x127001, x127002 => if x4 < x3 then (if 0 ≤ x4 then (if x4 < (x127000.length : Int) then (if 0 ≤ x3 then (if x3 < (x127000.length : Int) then (if ((rd_T27 x127000 x4).f0).toList = ((rd_T27 x127000 x3).f0).toList then (some false) else (tollhouseref15_Config.l1 k x3 (wrap64 (x4 + 1)) x127000 x127001 x127002)) else (none)) else (none)) else (none)) else (none)) else (tollhouseref15_Config.l0 k (wrap64 (x3 + 1)) x127000 x127001 x127002)
end
def tollhouseref15_Config.f (k : Nat) (l0_0 : List (S27)) (a0_1 : Int) (a0_2 : Int) : Option (Bool) := tollhouseref15_Config.l0 k 0 l0_0 a0_1 a0_2
theorem tollhouseref15_Config.mono_l : ∀ k, (∀ y0 y1 y2 y3, LeO (tollhouseref15_Config.l0 k y0 y1 y2 y3) (tollhouseref15_Config.l0 (k + 1) y0 y1 y2 y3)) ∧ (∀ y0 y1 y2 y3 y4, LeO (tollhouseref15_Config.l1 k y0 y1 y2 y3 y4) (tollhouseref15_Config.l1 (k + 1) y0 y1 y2 y3 y4))
  | 0 => ⟨fun _ _ _ _ r h => by simp [tollhouseref15_Config.l0] at h, fun _ _ _ _ _ r h => by simp [tollhouseref15_Config.l1] at h⟩
  | k + 1 => by
    obtain ⟨ih0, ih1⟩ := tollhouseref15_Config.mono_l k
    refine ⟨?_, ?_⟩
    · intro y0 y1 y2 y3
      unfold tollhouseref15_Config.l0
      repeat' first
      | (with_reducible exact ih0 _ _ _ _)
      | (with_reducible exact ih1 _ _ _ _ _)
      | (with_reducible exact tollhouseref15_Tenant.mono _ _ _ _ _ _ _ _ _ _)
      | (with_reducible exact LeO.refl _)
      | (with_reducible exact LeO.none _)
      | (with_reducible refine LeO.ite ?_ ?_)
      | (with_reducible refine LeO.bind ?_ (fun _ => ?_))
      | exact ih0 _ _ _ _
      | exact ih1 _ _ _ _ _
      | exact tollhouseref15_Tenant.mono _ _ _ _ _ _ _ _ _ _
      | exact LeO.none _
      | refine LeO.ite ?_ ?_
      | refine LeO.bind ?_ (fun _ => ?_)
    · intro y0 y1 y2 y3 y4
      unfold tollhouseref15_Config.l1
      repeat' first
      | (with_reducible exact ih0 _ _ _ _)
      | (with_reducible exact ih1 _ _ _ _ _)
      | (with_reducible exact tollhouseref15_Tenant.mono _ _ _ _ _ _ _ _ _ _)
      | (with_reducible exact LeO.refl _)
      | (with_reducible exact LeO.none _)
      | (with_reducible refine LeO.ite ?_ ?_)
      | (with_reducible refine LeO.bind ?_ (fun _ => ?_))
      | exact ih0 _ _ _ _
      | exact ih1 _ _ _ _ _
      | exact tollhouseref15_Tenant.mono _ _ _ _ _ _ _ _ _ _
      | exact LeO.none _
      | refine LeO.ite ?_ ?_
      | refine LeO.bind ?_ (fun _ => ?_)
theorem tollhouseref15_Config.mono : ∀ a0 a1 a2 k, LeO (tollhouseref15_Config.f k a0 a1 a2) (tollhouseref15_Config.f (k + 1) a0 a1 a2) := by
  intro a0 a1 a2 k
  obtain ⟨ih0, ih1⟩ := tollhouseref15_Config.mono_l k
  unfold tollhouseref15_Config.f
  repeat' first
      | (with_reducible exact ih0 _ _ _ _)
      | (with_reducible exact ih1 _ _ _ _ _)
      | (with_reducible exact tollhouseref15_Tenant.mono _ _ _ _ _ _ _ _ _ _)
      | (with_reducible exact LeO.refl _)
      | (with_reducible exact LeO.none _)
      | (with_reducible refine LeO.ite ?_ ?_)
      | (with_reducible refine LeO.bind ?_ (fun _ => ?_))
      | exact ih0 _ _ _ _
      | exact ih1 _ _ _ _ _
      | exact tollhouseref15_Tenant.mono _ _ _ _ _ _ _ _ _ _
      | exact LeO.none _
      | refine LeO.ite ?_ ?_
      | refine LeO.bind ?_ (fun _ => ?_)
set_option maxHeartbeats 8000000 in
set_option maxRecDepth 100000 in
theorem tollhouseref15_Config.calls (k : Nat) (A0_0 : Option Addr) (c0_0 : Nat) (l0_0 : List (S27)) (a0_1 : Int) (a0_2 : Int) (r : Bool) (w : World) (hr0_0 : Kd.C k27 w A0_0 l0_0.length l0_0) (hc0_0 : l0_0.length ≤ c0_0) (HGg : Glob w) (h : tollhouseref15_Config.f k l0_0 a0_1 a0_2 = some r) :
    Calls Tryz.prog 10 #[.agg #[.slice A0_0 l0_0.length c0_0, .int .i64 a0_1, .int .i64 a0_2]] w fun e w' => e = .returned (.bool r) ∧ Below w.heap.size w w' := by
  have hu24 := Tryz.underlying24
  have hu27 := Tryz.underlying27
  have HGl := Aside0.mk HGg
  clear HGg
  have HR0_0 := Aside0.mk hr0_0
  have HC0_0 := Aside0.mk hc0_0
  clear hr0_0 hc0_0
  have HB := Aside0.mk (Below.refl w.heap.size w)
  have H : (tollhouseref15_Config.l0 k 0 l0_0 a0_1 a0_2) = some r := h
  clear h
  have H' := Aside0.mk H
  clear H
  go_enter Tryz.func10, Tryz.ntmps10
  go_wp2_with (first | ((with_reducible refine gate_dst (N := 1) rfl ?_); (try (refine gate_guard (by rfl) ?_; dsimp only)); refine box_event ?hg (N := 1) ?hd (cs := #[.slice A0_0 l0_0.length c0_0, .int .i64 a0_1, .int .i64 a0_2]) (t := 24) ?hr ?_; (case hd => rfl); (case hg => rfl); (case hr => first | (go_simp; done) | (go_simp; rfl)); intro gb126 hg w2 hbox hb; have n0_ := Aside0.mk (below_step (by repeat (first | (with_reducible first | exact HB.out | apply below_alloc | apply pw_below_drewN | apply below_drew1) | exact HB.out)) hb); have n1_ := Aside0.mk (hbox); have n2_ := Aside0.mk ((by rw [hg]; exact (below_size (by repeat (first | (with_reducible first | exact HB.out | apply below_alloc | apply pw_below_drewN | apply below_drew1) | exact HB.out))) : w.heap.size ≤ gb126)); have n3_ := Aside0.mk ((by rw [hg]; exact (below_size (by repeat (first | (with_reducible first | exact HB.out | apply below_alloc | apply pw_below_drewN | apply below_drew1) | exact HB.out))) : w.heap.size ≤ gb126)); clear HB; have HB := n0_; have BK126 := n1_; have GW126 := n2_; have GE126 := n3_; clear n0_ n1_ n2_ n3_; clear hb hbox hg))
  repeat (go_quiet (first | ((with_reducible refine gate_dst (N := 1) rfl ?_); (try (refine gate_guard (by rfl) ?_; dsimp only)); refine box_event ?hg (N := 1) ?hd (cs := #[.slice A0_0 l0_0.length c0_0, .int .i64 a0_1, .int .i64 a0_2]) (t := 24) ?hr ?_; (case hd => rfl); (case hg => rfl); (case hr => first | (go_simp; done) | (go_simp; rfl)); intro gb126 hg w2 hbox hb; have n0_ := Aside0.mk (below_step (by repeat (first | (with_reducible first | exact HB.out | apply below_alloc | apply pw_below_drewN | apply below_drew1) | exact HB.out)) hb); have n1_ := Aside0.mk (hbox); have n2_ := Aside0.mk ((by rw [hg]; exact (below_size (by repeat (first | (with_reducible first | exact HB.out | apply below_alloc | apply pw_below_drewN | apply below_drew1) | exact HB.out))) : w.heap.size ≤ gb126)); have n3_ := Aside0.mk ((by rw [hg]; exact (below_size (by repeat (first | (with_reducible first | exact HB.out | apply below_alloc | apply pw_below_drewN | apply below_drew1) | exact HB.out))) : w.heap.size ≤ gb126)); clear HB; have HB := n0_; have BK126 := n1_; have GW126 := n2_; have GE126 := n3_; clear n0_ n1_ n2_ n3_; clear hb hbox hg)); try go_wp2_with (first | ((with_reducible refine gate_dst (N := 1) rfl ?_); (try (refine gate_guard (by rfl) ?_; dsimp only)); refine box_event ?hg (N := 1) ?hd (cs := #[.slice A0_0 l0_0.length c0_0, .int .i64 a0_1, .int .i64 a0_2]) (t := 24) ?hr ?_; (case hd => rfl); (case hg => rfl); (case hr => first | (go_simp; done) | (go_simp; rfl)); intro gb126 hg w2 hbox hb; have n0_ := Aside0.mk (below_step (by repeat (first | (with_reducible first | exact HB.out | apply below_alloc | apply pw_below_drewN | apply below_drew1) | exact HB.out)) hb); have n1_ := Aside0.mk (hbox); have n2_ := Aside0.mk ((by rw [hg]; exact (below_size (by repeat (first | (with_reducible first | exact HB.out | apply below_alloc | apply pw_below_drewN | apply below_drew1) | exact HB.out))) : w.heap.size ≤ gb126)); have n3_ := Aside0.mk ((by rw [hg]; exact (below_size (by repeat (first | (with_reducible first | exact HB.out | apply below_alloc | apply pw_below_drewN | apply below_drew1) | exact HB.out))) : w.heap.size ≤ gb126)); clear HB; have HB := n0_; have BK126 := n1_; have GW126 := n2_; have GE126 := n3_; clear n0_ n1_ n2_ n3_; clear hb hbox hg)))
  go_loopg [3] k (fun kq v3 w' => ∃ (x3_1 : Int), v3 = .int .i64 x3_1 ∧ Aside0 (tollhouseref15_Config.l0 kq x3_1 l0_0 a0_1 a0_2 = some r) ∧ Aside0 (kq ≤ k) ∧ Aside0 (w'.heap[gb126]? = some (.cells #[(.slice A0_0 l0_0.length c0_0), .int .i64 a0_1, .int .i64 a0_2] 24 (0, 0))) ∧ Aside0 (Below w.heap.size w w'))
  case atStart => exact ⟨(0), (by first | rfl | (simp; done) | (simp [*]; done)), H', ⟨Nat.le_refl _⟩, ⟨by (with_reducible repeat (first | refine blk_drewN ?_ _ | refine blk_drew ?_ | refine blk_alloc ?_ _)); exact BK126.out⟩, ⟨by repeat (first | (with_reducible first | exact HB.out | apply below_alloc | apply pw_below_drewN | apply below_drew1 | refine below_set ?_ GE126.out) | exact HB.out)⟩⟩
  case round =>
    clear H'
    try clear c1
    try clear p2
    obtain ⟨x3_1, rfl, HA, HK1, BK126, HB⟩ := hrel
    cases gk with
    | zero => exact absurd HA.out (by simp [tollhouseref15_Config.l0])
    | succ k1 =>
      have H := HA.out
      clear HA
      simp only [tollhouseref15_Config.l0] at H
      by_cases c3 : x3_1 < (l0_0.length : Int)
      · rw [if_pos c3] at H
        have c3b0 : decide (x3_1 < (l0_0.length : Int)) = true := decide_eq_true c3
        clear c3
        by_cases c4 : 0 ≤ x3_1
        · rw [if_pos c4] at H
          have c4b0 : decide (0 ≤ x3_1) = true := decide_eq_true c4
          clear c4
          replace H := Option.bind_eq_some_iff.mp H
          obtain ⟨t128, A50, H⟩ := H
          replace H : (if t128 = true then (tollhouseref15_Config.l1 k1 x3_1 0 l0_0 a0_1 a0_2) else (some false)) = some r := H
          have A5 := Aside0.mk A50
          clear A50
          by_cases c6 : t128 = true
          · subst c6
            have H1 : (tollhouseref15_Config.l1 k1 x3_1 0 l0_0 a0_1 a0_2) = some r := by rw [if_pos rfl] at H; exact H
            clear H
            have H := H1
            clear H1
            have H' := Aside0.mk H
            clear H
            have hcz7_0 : wr.cell? ⟨gb126, 0, none⟩ = some (.slice A0_0 l0_0.length c0_0) := (blk_cell BK126.out 0).trans rfl
            have hcz7_1 : wr.cell? ⟨gb126, 1, none⟩ = some (.int .i64 a0_1) := (blk_cell BK126.out 1).trans rfl
            have hcz7_2 : wr.cell? ⟨gb126, 2, none⟩ = some (.int .i64 a0_2) := (blk_cell BK126.out 2).trans rfl
            have hfz7_0 := blk_frozen BK126.out 0
            have hfz7_1 := blk_frozen BK126.out 1
            have hfz7_2 := blk_frozen BK126.out 2
            have p127 : 0 ≤ (x3_1 : Int) := of_decide_eq_true (by first | (with_reducible assumption) | assumption)
            have q127 : x3_1 < (l0_0.length : Int) := of_decide_eq_true (by first | (with_reducible assumption) | assumption)
            obtain ⟨ad127, A127_1, c127_1, e127, hx127_0, hx127_1, hx127_2, hx127_3, hx127_4, hx127_5, hx127_6, hx127_7, hx127_8, hl127_1, hi127_1⟩ := at_T27 HR0_0.out x3_1 p127 q127
            cases e127
            replace hx127_0 := (HB.out.cell (World.block_lt_of_cell? w _ hx127_0)).trans hx127_0
            replace hx127_1 := (HB.out.cell (World.block_lt_of_cell? w _ hx127_1)).trans hx127_1
            replace hx127_2 := (HB.out.cell (World.block_lt_of_cell? w _ hx127_2)).trans hx127_2
            replace hx127_3 := (HB.out.cell (World.block_lt_of_cell? w _ hx127_3)).trans hx127_3
            replace hx127_4 := (HB.out.cell (World.block_lt_of_cell? w _ hx127_4)).trans hx127_4
            replace hx127_5 := (HB.out.cell (World.block_lt_of_cell? w _ hx127_5)).trans hx127_5
            replace hx127_6 := (HB.out.cell (World.block_lt_of_cell? w _ hx127_6)).trans hx127_6
            replace hx127_7 := (HB.out.cell (World.block_lt_of_cell? w _ hx127_7)).trans hx127_7
            replace hx127_8 := (HB.out.cell (World.block_lt_of_cell? w _ hx127_8)).trans hx127_8
            have HR127_1 := Aside0.mk hi127_1
            have HC127_1 := Aside0.mk hl127_1
            clear hi127_1 hl127_1
            replace p127 := eq_true p127
            replace q127 := eq_true q127
            go_wp2_with (first | (go_at_call 12; (with_reducible refine (tollhouseref15_Tenant.calls k1 ((rd_T27 l0_0 x3_1).f0) _ _ ((rd_T27 l0_0 x3_1).f1) ((rd_T27 l0_0 x3_1).f2) ((rd_T27 l0_0 x3_1).f3) ((rd_T27 l0_0 x3_1).f4) ((rd_T27 l0_0 x3_1).f5) ((rd_T27 l0_0 x3_1).f6) ((rd_T27 l0_0 x3_1).f7) ((rd_T27 l0_0 x3_1).f8) true _ ?side1 ?side2 (Glob.below HGl.out (by repeat (first | (with_reducible first | exact HB.out | apply below_alloc | apply pw_below_drewN | apply below_drew1 | refine below_set ?_ GE126.out) | exact HB.out))) A5.out).mono ?_); (case side1 => repeat (first | exact (Kd.C_below HR127_1.out HB.out) | (with_reducible refine Kd.C_alloc ?_ _) | (with_reducible refine Kd.C_drewN ?_ _) | (with_reducible refine Kd.C_drew ?_))); (case side2 => exact HC127_1.out); rintro e w8 ⟨rfl, hb⟩; have n0_ := Aside0.mk (blk_below (g := gb126) (o := .cells #[.slice (some ad127) l0_0.length c0_0, .int .i64 a0_1, .int .i64 a0_2] 24 (0, 0)) (by (with_reducible repeat (first | refine blk_drewN ?_ _ | refine blk_drew ?_ | refine blk_alloc ?_ _)); exact BK126.out) hb); have n1_ := Aside0.mk (below_step (by repeat (first | (with_reducible first | exact HB.out | apply below_alloc | apply pw_below_drewN | apply below_drew1 | refine below_set ?_ GE126.out) | exact HB.out)) hb); clear BK126; clear HB; have BK126 := n0_; have HB := n1_; clear n0_ n1_; (try clear hb); (try clear hb2); (try clear hk); (try clear hi)))
            repeat (go_quiet (first | (go_at_call 12; (with_reducible refine (tollhouseref15_Tenant.calls k1 ((rd_T27 l0_0 x3_1).f0) _ _ ((rd_T27 l0_0 x3_1).f1) ((rd_T27 l0_0 x3_1).f2) ((rd_T27 l0_0 x3_1).f3) ((rd_T27 l0_0 x3_1).f4) ((rd_T27 l0_0 x3_1).f5) ((rd_T27 l0_0 x3_1).f6) ((rd_T27 l0_0 x3_1).f7) ((rd_T27 l0_0 x3_1).f8) true _ ?side1 ?side2 (Glob.below HGl.out (by repeat (first | (with_reducible first | exact HB.out | apply below_alloc | apply pw_below_drewN | apply below_drew1 | refine below_set ?_ GE126.out) | exact HB.out))) A5.out).mono ?_); (case side1 => repeat (first | exact (Kd.C_below HR127_1.out HB.out) | (with_reducible refine Kd.C_alloc ?_ _) | (with_reducible refine Kd.C_drewN ?_ _) | (with_reducible refine Kd.C_drew ?_))); (case side2 => exact HC127_1.out); rintro e w8 ⟨rfl, hb⟩; have n0_ := Aside0.mk (blk_below (g := gb126) (o := .cells #[.slice (some ad127) l0_0.length c0_0, .int .i64 a0_1, .int .i64 a0_2] 24 (0, 0)) (by (with_reducible repeat (first | refine blk_drewN ?_ _ | refine blk_drew ?_ | refine blk_alloc ?_ _)); exact BK126.out) hb); have n1_ := Aside0.mk (below_step (by repeat (first | (with_reducible first | exact HB.out | apply below_alloc | apply pw_below_drewN | apply below_drew1 | refine below_set ?_ GE126.out) | exact HB.out)) hb); clear BK126; clear HB; have BK126 := n0_; have HB := n1_; clear n0_ n1_; (try clear hb); (try clear hb2); (try clear hk); (try clear hi))); try go_wp2_with (first | (go_at_call 12; (with_reducible refine (tollhouseref15_Tenant.calls k1 ((rd_T27 l0_0 x3_1).f0) _ _ ((rd_T27 l0_0 x3_1).f1) ((rd_T27 l0_0 x3_1).f2) ((rd_T27 l0_0 x3_1).f3) ((rd_T27 l0_0 x3_1).f4) ((rd_T27 l0_0 x3_1).f5) ((rd_T27 l0_0 x3_1).f6) ((rd_T27 l0_0 x3_1).f7) ((rd_T27 l0_0 x3_1).f8) true _ ?side1 ?side2 (Glob.below HGl.out (by repeat (first | (with_reducible first | exact HB.out | apply below_alloc | apply pw_below_drewN | apply below_drew1 | refine below_set ?_ GE126.out) | exact HB.out))) A5.out).mono ?_); (case side1 => repeat (first | exact (Kd.C_below HR127_1.out HB.out) | (with_reducible refine Kd.C_alloc ?_ _) | (with_reducible refine Kd.C_drewN ?_ _) | (with_reducible refine Kd.C_drew ?_))); (case side2 => exact HC127_1.out); rintro e w8 ⟨rfl, hb⟩; have n0_ := Aside0.mk (blk_below (g := gb126) (o := .cells #[.slice (some ad127) l0_0.length c0_0, .int .i64 a0_1, .int .i64 a0_2] 24 (0, 0)) (by (with_reducible repeat (first | refine blk_drewN ?_ _ | refine blk_drew ?_ | refine blk_alloc ?_ _)); exact BK126.out) hb); have n1_ := Aside0.mk (below_step (by repeat (first | (with_reducible first | exact HB.out | apply below_alloc | apply pw_below_drewN | apply below_drew1 | refine below_set ?_ GE126.out) | exact HB.out)) hb); clear BK126; clear HB; have BK126 := n0_; have HB := n1_; clear n0_ n1_; (try clear hb); (try clear hb2); (try clear hk); (try clear hi))))
            go_loopg [4] k1 (fun kq v4 w' => ∃ (x4_2 : Int), v4 = .int .i64 x4_2 ∧ Aside0 (tollhouseref15_Config.l1 kq x3_1 x4_2 l0_0 a0_1 a0_2 = some r) ∧ Aside0 (kq ≤ k1) ∧ Aside0 (w'.heap[gb126]? = some (.cells #[(.slice (some ad127) l0_0.length c0_0), .int .i64 a0_1, .int .i64 a0_2] 24 (0, 0))) ∧ Aside0 (Below w.heap.size w w'))
            case atStart => exact ⟨(0), (by first | rfl | (simp; done) | (simp [*]; done)), H', ⟨Nat.le_refl _⟩, ⟨by (with_reducible repeat (first | refine blk_drewN ?_ _ | refine blk_drew ?_ | refine blk_alloc ?_ _)); exact BK126.out⟩, ⟨by repeat (first | (with_reducible first | exact HB.out | apply below_alloc | apply pw_below_drewN | apply below_drew1 | refine below_set ?_ GE126.out) | exact HB.out)⟩⟩
            case round =>
              clear H'
              try clear c1
              try clear p1
              try clear q1
              try clear hx1
              try clear p2
              try clear c3
              try clear c3b0
              try clear c4
              try clear c4b0
              try clear c6
              try clear hcz7_0
              try clear hcz7_1
              try clear hcz7_2
              try clear hfz7_0
              try clear hfz7_1
              try clear hfz7_2
              try clear hx127_0
              try clear hx127_1
              try clear hx127_2
              try clear hx127_3
              try clear hx127_4
              try clear hx127_5
              try clear hx127_6
              try clear hx127_7
              try clear hx127_8
              try clear p127
              try clear p2
              try clear q127
              obtain ⟨x4_2, rfl, HA, HK2, BK126, HB⟩ := hrel
              cases gk with
              | zero => exact absurd HA.out (by simp [tollhouseref15_Config.l1])
              | succ k2 =>
                have H := HA.out
                clear HA
                simp only [tollhouseref15_Config.l1] at H
                by_cases c9 : x4_2 < x3_1
                · rw [if_pos c9] at H
                  have c9b0 : decide (x4_2 < x3_1) = true := decide_eq_true c9
                  clear c9
                  by_cases c10 : 0 ≤ x4_2
                  · rw [if_pos c10] at H
                    have c10b0 : decide (0 ≤ x4_2) = true := decide_eq_true c10
                    clear c10
                    by_cases c11 : x4_2 < (l0_0.length : Int)
                    · rw [if_pos c11] at H
                      have c11b0 : decide (x4_2 < (l0_0.length : Int)) = true := decide_eq_true c11
                      clear c11
                      by_cases c12 : 0 ≤ x3_1
                      · rw [if_pos c12] at H
                        have c12b0 : decide (0 ≤ x3_1) = true := decide_eq_true c12
                        clear c12
                        by_cases c13 : x3_1 < (l0_0.length : Int)
                        · rw [if_pos c13] at H
                          have c13b0 : decide (x3_1 < (l0_0.length : Int)) = true := decide_eq_true c13
                          clear c13
                          by_cases c14 : ((rd_T27 l0_0 x4_2).f0).toList = ((rd_T27 l0_0 x3_1).f0).toList
                          · rw [if_pos c14] at H
                            have c14b0 : (((rd_T27 l0_0 x4_2).f0).toList == ((rd_T27 l0_0 x3_1).f0).toList) = true := beq_iff_eq.mpr c14
                            have c14b1 : (((rd_T27 l0_0 x4_2).f0).toList != ((rd_T27 l0_0 x3_1).f0).toList) = false := bne_eq_false_iff_eq.mpr c14
                            clear c14
                            obtain rfl := Option.some.inj H
                            have hcz15_0 : wr.cell? ⟨gb126, 0, none⟩ = some (.slice (some ad127) l0_0.length c0_0) := (blk_cell BK126.out 0).trans rfl
                            have hcz15_1 : wr.cell? ⟨gb126, 1, none⟩ = some (.int .i64 a0_1) := (blk_cell BK126.out 1).trans rfl
                            have hcz15_2 : wr.cell? ⟨gb126, 2, none⟩ = some (.int .i64 a0_2) := (blk_cell BK126.out 2).trans rfl
                            have hfz15_0 := blk_frozen BK126.out 0
                            have hfz15_1 := blk_frozen BK126.out 1
                            have hfz15_2 := blk_frozen BK126.out 2
                            have p129 : 0 ≤ (x4_2 : Int) := of_decide_eq_true (by first | (with_reducible assumption) | assumption)
                            have q129 : x4_2 < (l0_0.length : Int) := of_decide_eq_true (by first | (with_reducible assumption) | assumption)
                            obtain ⟨ad129, A129_1, c129_1, e129, hx129_0, hx129_1, hx129_2, hx129_3, hx129_4, hx129_5, hx129_6, hx129_7, hx129_8, hl129_1, hi129_1⟩ := at_T27 HR0_0.out x4_2 p129 q129
                            obtain rfl : ad127 = ad129 := (by injection e129)
                            replace hx129_0 := (HB.out.cell (World.block_lt_of_cell? w _ hx129_0)).trans hx129_0
                            replace hx129_1 := (HB.out.cell (World.block_lt_of_cell? w _ hx129_1)).trans hx129_1
                            replace hx129_2 := (HB.out.cell (World.block_lt_of_cell? w _ hx129_2)).trans hx129_2
                            replace hx129_3 := (HB.out.cell (World.block_lt_of_cell? w _ hx129_3)).trans hx129_3
                            replace hx129_4 := (HB.out.cell (World.block_lt_of_cell? w _ hx129_4)).trans hx129_4
                            replace hx129_5 := (HB.out.cell (World.block_lt_of_cell? w _ hx129_5)).trans hx129_5
                            replace hx129_6 := (HB.out.cell (World.block_lt_of_cell? w _ hx129_6)).trans hx129_6
                            replace hx129_7 := (HB.out.cell (World.block_lt_of_cell? w _ hx129_7)).trans hx129_7
                            replace hx129_8 := (HB.out.cell (World.block_lt_of_cell? w _ hx129_8)).trans hx129_8
                            have HR129_1 := Aside0.mk hi129_1
                            have HC129_1 := Aside0.mk hl129_1
                            clear hi129_1 hl129_1
                            replace p129 := eq_true p129
                            replace q129 := eq_true q129
                            have p130 : 0 ≤ (x3_1 : Int) := of_decide_eq_true (by first | (with_reducible assumption) | assumption)
                            have q130 : x3_1 < (l0_0.length : Int) := of_decide_eq_true (by first | (with_reducible assumption) | assumption)
                            obtain ⟨ad130, A130_1, c130_1, e130, hx130_0, hx130_1, hx130_2, hx130_3, hx130_4, hx130_5, hx130_6, hx130_7, hx130_8, hl130_1, hi130_1⟩ := at_T27 HR0_0.out x3_1 p130 q130
                            obtain rfl : ad127 = ad130 := (by injection e130)
                            replace hx130_0 := (HB.out.cell (World.block_lt_of_cell? w _ hx130_0)).trans hx130_0
                            replace hx130_1 := (HB.out.cell (World.block_lt_of_cell? w _ hx130_1)).trans hx130_1
                            replace hx130_2 := (HB.out.cell (World.block_lt_of_cell? w _ hx130_2)).trans hx130_2
                            replace hx130_3 := (HB.out.cell (World.block_lt_of_cell? w _ hx130_3)).trans hx130_3
                            replace hx130_4 := (HB.out.cell (World.block_lt_of_cell? w _ hx130_4)).trans hx130_4
                            replace hx130_5 := (HB.out.cell (World.block_lt_of_cell? w _ hx130_5)).trans hx130_5
                            replace hx130_6 := (HB.out.cell (World.block_lt_of_cell? w _ hx130_6)).trans hx130_6
                            replace hx130_7 := (HB.out.cell (World.block_lt_of_cell? w _ hx130_7)).trans hx130_7
                            replace hx130_8 := (HB.out.cell (World.block_lt_of_cell? w _ hx130_8)).trans hx130_8
                            have HR130_1 := Aside0.mk hi130_1
                            have HC130_1 := Aside0.mk hl130_1
                            clear hi130_1 hl130_1
                            replace p130 := eq_true p130
                            replace q130 := eq_true q130
                            go_wp2
                            repeat (go_quiet (fail); try go_wp2)
                            go_ret
                            exact ⟨by first | rfl | (simp [errW_none, errW_some] <;> rfl) | (simp [*, errW_none, errW_some] <;> rfl), by repeat (first | (with_reducible first | exact HB.out | apply below_alloc | apply pw_below_drewN | apply below_drew1 | refine below_set ?_ GE126.out) | exact HB.out)⟩
                          · rw [if_neg c14] at H
                            have c14b0 : (((rd_T27 l0_0 x4_2).f0).toList == ((rd_T27 l0_0 x3_1).f0).toList) = false := beq_eq_false_iff_ne.mpr c14
                            have c14b1 : (((rd_T27 l0_0 x4_2).f0).toList != ((rd_T27 l0_0 x3_1).f0).toList) = true := bne_iff_ne.mpr c14
                            have H' := Aside0.mk H
                            clear H
                            have hcz16_0 : wr.cell? ⟨gb126, 0, none⟩ = some (.slice (some ad127) l0_0.length c0_0) := (blk_cell BK126.out 0).trans rfl
                            have hcz16_1 : wr.cell? ⟨gb126, 1, none⟩ = some (.int .i64 a0_1) := (blk_cell BK126.out 1).trans rfl
                            have hcz16_2 : wr.cell? ⟨gb126, 2, none⟩ = some (.int .i64 a0_2) := (blk_cell BK126.out 2).trans rfl
                            have hfz16_0 := blk_frozen BK126.out 0
                            have hfz16_1 := blk_frozen BK126.out 1
                            have hfz16_2 := blk_frozen BK126.out 2
                            have p129 : 0 ≤ (x4_2 : Int) := of_decide_eq_true (by first | (with_reducible assumption) | assumption)
                            have q129 : x4_2 < (l0_0.length : Int) := of_decide_eq_true (by first | (with_reducible assumption) | assumption)
                            obtain ⟨ad129, A129_1, c129_1, e129, hx129_0, hx129_1, hx129_2, hx129_3, hx129_4, hx129_5, hx129_6, hx129_7, hx129_8, hl129_1, hi129_1⟩ := at_T27 HR0_0.out x4_2 p129 q129
                            obtain rfl : ad127 = ad129 := (by injection e129)
                            replace hx129_0 := (HB.out.cell (World.block_lt_of_cell? w _ hx129_0)).trans hx129_0
                            replace hx129_1 := (HB.out.cell (World.block_lt_of_cell? w _ hx129_1)).trans hx129_1
                            replace hx129_2 := (HB.out.cell (World.block_lt_of_cell? w _ hx129_2)).trans hx129_2
                            replace hx129_3 := (HB.out.cell (World.block_lt_of_cell? w _ hx129_3)).trans hx129_3
                            replace hx129_4 := (HB.out.cell (World.block_lt_of_cell? w _ hx129_4)).trans hx129_4
                            replace hx129_5 := (HB.out.cell (World.block_lt_of_cell? w _ hx129_5)).trans hx129_5
                            replace hx129_6 := (HB.out.cell (World.block_lt_of_cell? w _ hx129_6)).trans hx129_6
                            replace hx129_7 := (HB.out.cell (World.block_lt_of_cell? w _ hx129_7)).trans hx129_7
                            replace hx129_8 := (HB.out.cell (World.block_lt_of_cell? w _ hx129_8)).trans hx129_8
                            have HR129_1 := Aside0.mk hi129_1
                            have HC129_1 := Aside0.mk hl129_1
                            clear hi129_1 hl129_1
                            replace p129 := eq_true p129
                            replace q129 := eq_true q129
                            have p130 : 0 ≤ (x3_1 : Int) := of_decide_eq_true (by first | (with_reducible assumption) | assumption)
                            have q130 : x3_1 < (l0_0.length : Int) := of_decide_eq_true (by first | (with_reducible assumption) | assumption)
                            obtain ⟨ad130, A130_1, c130_1, e130, hx130_0, hx130_1, hx130_2, hx130_3, hx130_4, hx130_5, hx130_6, hx130_7, hx130_8, hl130_1, hi130_1⟩ := at_T27 HR0_0.out x3_1 p130 q130
                            obtain rfl : ad127 = ad130 := (by injection e130)
                            replace hx130_0 := (HB.out.cell (World.block_lt_of_cell? w _ hx130_0)).trans hx130_0
                            replace hx130_1 := (HB.out.cell (World.block_lt_of_cell? w _ hx130_1)).trans hx130_1
                            replace hx130_2 := (HB.out.cell (World.block_lt_of_cell? w _ hx130_2)).trans hx130_2
                            replace hx130_3 := (HB.out.cell (World.block_lt_of_cell? w _ hx130_3)).trans hx130_3
                            replace hx130_4 := (HB.out.cell (World.block_lt_of_cell? w _ hx130_4)).trans hx130_4
                            replace hx130_5 := (HB.out.cell (World.block_lt_of_cell? w _ hx130_5)).trans hx130_5
                            replace hx130_6 := (HB.out.cell (World.block_lt_of_cell? w _ hx130_6)).trans hx130_6
                            replace hx130_7 := (HB.out.cell (World.block_lt_of_cell? w _ hx130_7)).trans hx130_7
                            replace hx130_8 := (HB.out.cell (World.block_lt_of_cell? w _ hx130_8)).trans hx130_8
                            have HR130_1 := Aside0.mk hi130_1
                            have HC130_1 := Aside0.mk hl130_1
                            clear hi130_1 hl130_1
                            replace p130 := eq_true p130
                            replace q130 := eq_true q130
                            go_wp2
                            repeat (go_quiet (fail); try go_wp2)
                            go_roundg k2
                            case measure => have := HK1.out; have := HK2.out; omega
                            case rel => exact ⟨(wrap64 (x4_2 + 1)), (by first | rfl | (simp; done) | (simp [*]; done)), H', ⟨by have := HK1.out; have := HK2.out; omega⟩, ⟨by (with_reducible repeat (first | refine blk_drewN ?_ _ | refine blk_drew ?_ | refine blk_alloc ?_ _)); exact BK126.out⟩, ⟨by repeat (first | (with_reducible first | exact HB.out | apply below_alloc | apply pw_below_drewN | apply below_drew1 | refine below_set ?_ GE126.out) | exact HB.out)⟩⟩
                        · rw [if_neg c13] at H
                          exact absurd H (by simp)
                      · rw [if_neg c12] at H
                        exact absurd H (by simp)
                    · rw [if_neg c11] at H
                      exact absurd H (by simp)
                  · rw [if_neg c10] at H
                    exact absurd H (by simp)
                · rw [if_neg c9] at H
                  have c9b0 : decide (x4_2 < x3_1) = false := decide_eq_false c9
                  clear c9
                  have H' := Aside0.mk H
                  clear H
                  go_wp2
                  repeat (go_quiet (fail); try go_wp2)
                  go_roundg k2
                  case measure => have := HK1.out; have := HK2.out; omega
                  case rel => exact ⟨(wrap64 (x3_1 + 1)), (by first | rfl | (simp; done) | (simp [*]; done)), H', ⟨by have := HK1.out; have := HK2.out; omega⟩, ⟨by (with_reducible repeat (first | refine blk_drewN ?_ _ | refine blk_drew ?_ | refine blk_alloc ?_ _)); exact BK126.out⟩, ⟨by repeat (first | (with_reducible first | exact HB.out | apply below_alloc | apply pw_below_drewN | apply below_drew1 | refine below_set ?_ GE126.out) | exact HB.out)⟩⟩
          · replace c6 := Bool.eq_false_iff.mpr c6
            subst c6
            have H1 : (some false) = some r := by rw [if_neg (show ¬ (false = true) by decide)] at H; exact H
            clear H
            have H := H1
            clear H1
            obtain rfl := Option.some.inj H
            have hcz17_0 : wr.cell? ⟨gb126, 0, none⟩ = some (.slice A0_0 l0_0.length c0_0) := (blk_cell BK126.out 0).trans rfl
            have hcz17_1 : wr.cell? ⟨gb126, 1, none⟩ = some (.int .i64 a0_1) := (blk_cell BK126.out 1).trans rfl
            have hcz17_2 : wr.cell? ⟨gb126, 2, none⟩ = some (.int .i64 a0_2) := (blk_cell BK126.out 2).trans rfl
            have hfz17_0 := blk_frozen BK126.out 0
            have hfz17_1 := blk_frozen BK126.out 1
            have hfz17_2 := blk_frozen BK126.out 2
            have p127 : 0 ≤ (x3_1 : Int) := of_decide_eq_true (by first | (with_reducible assumption) | assumption)
            have q127 : x3_1 < (l0_0.length : Int) := of_decide_eq_true (by first | (with_reducible assumption) | assumption)
            obtain ⟨ad127, A127_1, c127_1, e127, hx127_0, hx127_1, hx127_2, hx127_3, hx127_4, hx127_5, hx127_6, hx127_7, hx127_8, hl127_1, hi127_1⟩ := at_T27 HR0_0.out x3_1 p127 q127
            cases e127
            replace hx127_0 := (HB.out.cell (World.block_lt_of_cell? w _ hx127_0)).trans hx127_0
            replace hx127_1 := (HB.out.cell (World.block_lt_of_cell? w _ hx127_1)).trans hx127_1
            replace hx127_2 := (HB.out.cell (World.block_lt_of_cell? w _ hx127_2)).trans hx127_2
            replace hx127_3 := (HB.out.cell (World.block_lt_of_cell? w _ hx127_3)).trans hx127_3
            replace hx127_4 := (HB.out.cell (World.block_lt_of_cell? w _ hx127_4)).trans hx127_4
            replace hx127_5 := (HB.out.cell (World.block_lt_of_cell? w _ hx127_5)).trans hx127_5
            replace hx127_6 := (HB.out.cell (World.block_lt_of_cell? w _ hx127_6)).trans hx127_6
            replace hx127_7 := (HB.out.cell (World.block_lt_of_cell? w _ hx127_7)).trans hx127_7
            replace hx127_8 := (HB.out.cell (World.block_lt_of_cell? w _ hx127_8)).trans hx127_8
            have HR127_1 := Aside0.mk hi127_1
            have HC127_1 := Aside0.mk hl127_1
            clear hi127_1 hl127_1
            replace p127 := eq_true p127
            replace q127 := eq_true q127
            go_wp2_with (first | (go_at_call 12; (with_reducible refine (tollhouseref15_Tenant.calls k1 ((rd_T27 l0_0 x3_1).f0) _ _ ((rd_T27 l0_0 x3_1).f1) ((rd_T27 l0_0 x3_1).f2) ((rd_T27 l0_0 x3_1).f3) ((rd_T27 l0_0 x3_1).f4) ((rd_T27 l0_0 x3_1).f5) ((rd_T27 l0_0 x3_1).f6) ((rd_T27 l0_0 x3_1).f7) ((rd_T27 l0_0 x3_1).f8) false _ ?side1 ?side2 (Glob.below HGl.out (by repeat (first | (with_reducible first | exact HB.out | apply below_alloc | apply pw_below_drewN | apply below_drew1 | refine below_set ?_ GE126.out) | exact HB.out))) A5.out).mono ?_); (case side1 => repeat (first | exact (Kd.C_below HR127_1.out HB.out) | (with_reducible refine Kd.C_alloc ?_ _) | (with_reducible refine Kd.C_drewN ?_ _) | (with_reducible refine Kd.C_drew ?_))); (case side2 => exact HC127_1.out); rintro e w18 ⟨rfl, hb⟩; have n0_ := Aside0.mk (blk_below (g := gb126) (o := .cells #[.slice (some ad127) l0_0.length c0_0, .int .i64 a0_1, .int .i64 a0_2] 24 (0, 0)) (by (with_reducible repeat (first | refine blk_drewN ?_ _ | refine blk_drew ?_ | refine blk_alloc ?_ _)); exact BK126.out) hb); have n1_ := Aside0.mk (below_step (by repeat (first | (with_reducible first | exact HB.out | apply below_alloc | apply pw_below_drewN | apply below_drew1 | refine below_set ?_ GE126.out) | exact HB.out)) hb); clear BK126; clear HB; have BK126 := n0_; have HB := n1_; clear n0_ n1_; (try clear hb); (try clear hb2); (try clear hk); (try clear hi)))
            repeat (go_quiet (first | (go_at_call 12; (with_reducible refine (tollhouseref15_Tenant.calls k1 ((rd_T27 l0_0 x3_1).f0) _ _ ((rd_T27 l0_0 x3_1).f1) ((rd_T27 l0_0 x3_1).f2) ((rd_T27 l0_0 x3_1).f3) ((rd_T27 l0_0 x3_1).f4) ((rd_T27 l0_0 x3_1).f5) ((rd_T27 l0_0 x3_1).f6) ((rd_T27 l0_0 x3_1).f7) ((rd_T27 l0_0 x3_1).f8) false _ ?side1 ?side2 (Glob.below HGl.out (by repeat (first | (with_reducible first | exact HB.out | apply below_alloc | apply pw_below_drewN | apply below_drew1 | refine below_set ?_ GE126.out) | exact HB.out))) A5.out).mono ?_); (case side1 => repeat (first | exact (Kd.C_below HR127_1.out HB.out) | (with_reducible refine Kd.C_alloc ?_ _) | (with_reducible refine Kd.C_drewN ?_ _) | (with_reducible refine Kd.C_drew ?_))); (case side2 => exact HC127_1.out); rintro e w18 ⟨rfl, hb⟩; have n0_ := Aside0.mk (blk_below (g := gb126) (o := .cells #[.slice (some ad127) l0_0.length c0_0, .int .i64 a0_1, .int .i64 a0_2] 24 (0, 0)) (by (with_reducible repeat (first | refine blk_drewN ?_ _ | refine blk_drew ?_ | refine blk_alloc ?_ _)); exact BK126.out) hb); have n1_ := Aside0.mk (below_step (by repeat (first | (with_reducible first | exact HB.out | apply below_alloc | apply pw_below_drewN | apply below_drew1 | refine below_set ?_ GE126.out) | exact HB.out)) hb); clear BK126; clear HB; have BK126 := n0_; have HB := n1_; clear n0_ n1_; (try clear hb); (try clear hb2); (try clear hk); (try clear hi))); try go_wp2_with (first | (go_at_call 12; (with_reducible refine (tollhouseref15_Tenant.calls k1 ((rd_T27 l0_0 x3_1).f0) _ _ ((rd_T27 l0_0 x3_1).f1) ((rd_T27 l0_0 x3_1).f2) ((rd_T27 l0_0 x3_1).f3) ((rd_T27 l0_0 x3_1).f4) ((rd_T27 l0_0 x3_1).f5) ((rd_T27 l0_0 x3_1).f6) ((rd_T27 l0_0 x3_1).f7) ((rd_T27 l0_0 x3_1).f8) false _ ?side1 ?side2 (Glob.below HGl.out (by repeat (first | (with_reducible first | exact HB.out | apply below_alloc | apply pw_below_drewN | apply below_drew1 | refine below_set ?_ GE126.out) | exact HB.out))) A5.out).mono ?_); (case side1 => repeat (first | exact (Kd.C_below HR127_1.out HB.out) | (with_reducible refine Kd.C_alloc ?_ _) | (with_reducible refine Kd.C_drewN ?_ _) | (with_reducible refine Kd.C_drew ?_))); (case side2 => exact HC127_1.out); rintro e w18 ⟨rfl, hb⟩; have n0_ := Aside0.mk (blk_below (g := gb126) (o := .cells #[.slice (some ad127) l0_0.length c0_0, .int .i64 a0_1, .int .i64 a0_2] 24 (0, 0)) (by (with_reducible repeat (first | refine blk_drewN ?_ _ | refine blk_drew ?_ | refine blk_alloc ?_ _)); exact BK126.out) hb); have n1_ := Aside0.mk (below_step (by repeat (first | (with_reducible first | exact HB.out | apply below_alloc | apply pw_below_drewN | apply below_drew1 | refine below_set ?_ GE126.out) | exact HB.out)) hb); clear BK126; clear HB; have BK126 := n0_; have HB := n1_; clear n0_ n1_; (try clear hb); (try clear hb2); (try clear hk); (try clear hi))))
            go_ret
            exact ⟨by first | rfl | (simp [errW_none, errW_some] <;> rfl) | (simp [*, errW_none, errW_some] <;> rfl), by repeat (first | (with_reducible first | exact HB.out | apply below_alloc | apply pw_below_drewN | apply below_drew1 | refine below_set ?_ GE126.out) | exact HB.out)⟩
        · rw [if_neg c4] at H
          exact absurd H (by simp)
      · rw [if_neg c3] at H
        have c3b0 : decide (x3_1 < (l0_0.length : Int)) = false := decide_eq_false c3
        clear c3
        by_cases c19 : (l0_0.length : Int) < 1
        · rw [if_pos c19] at H
          have c19b0 : decide ((l0_0.length : Int) < 1) = true := decide_eq_true c19
          have c19b1 : decide (l0_0.length < 1) = true := decide_eq_true (by omega)
          clear c19
          obtain rfl := Option.some.inj H
          have hcz20_0 : wr.cell? ⟨gb126, 0, none⟩ = some (.slice A0_0 l0_0.length c0_0) := (blk_cell BK126.out 0).trans rfl
          have hcz20_1 : wr.cell? ⟨gb126, 1, none⟩ = some (.int .i64 a0_1) := (blk_cell BK126.out 1).trans rfl
          have hcz20_2 : wr.cell? ⟨gb126, 2, none⟩ = some (.int .i64 a0_2) := (blk_cell BK126.out 2).trans rfl
          have hfz20_0 := blk_frozen BK126.out 0
          have hfz20_1 := blk_frozen BK126.out 1
          have hfz20_2 := blk_frozen BK126.out 2
          go_wp2
          repeat (go_quiet (fail); try go_wp2)
          go_ret
          exact ⟨by first | rfl | (simp [errW_none, errW_some] <;> rfl) | (simp [*, errW_none, errW_some] <;> rfl), by repeat (first | (with_reducible first | exact HB.out | apply below_alloc | apply pw_below_drewN | apply below_drew1 | refine below_set ?_ GE126.out) | exact HB.out)⟩
        · rw [if_neg c19] at H
          have c19b0 : decide ((l0_0.length : Int) < 1) = false := decide_eq_false c19
          have c19b1 : decide (l0_0.length < 1) = false := decide_eq_false (by omega)
          clear c19
          by_cases c21 : (l0_0.length : Int) > 8
          · rw [if_pos c21] at H
            have c21b0 : decide (8 < (l0_0.length : Int)) = true := decide_eq_true c21
            have c21b1 : decide (8 < l0_0.length) = true := decide_eq_true (by omega)
            clear c21
            obtain rfl := Option.some.inj H
            have hcz22_0 : wr.cell? ⟨gb126, 0, none⟩ = some (.slice A0_0 l0_0.length c0_0) := (blk_cell BK126.out 0).trans rfl
            have hcz22_1 : wr.cell? ⟨gb126, 1, none⟩ = some (.int .i64 a0_1) := (blk_cell BK126.out 1).trans rfl
            have hcz22_2 : wr.cell? ⟨gb126, 2, none⟩ = some (.int .i64 a0_2) := (blk_cell BK126.out 2).trans rfl
            have hfz22_0 := blk_frozen BK126.out 0
            have hfz22_1 := blk_frozen BK126.out 1
            have hfz22_2 := blk_frozen BK126.out 2
            go_wp2
            repeat (go_quiet (fail); try go_wp2)
            go_ret
            exact ⟨by first | rfl | (simp [errW_none, errW_some] <;> rfl) | (simp [*, errW_none, errW_some] <;> rfl), by repeat (first | (with_reducible first | exact HB.out | apply below_alloc | apply pw_below_drewN | apply below_drew1 | refine below_set ?_ GE126.out) | exact HB.out)⟩
          · rw [if_neg c21] at H
            have c21b0 : decide (8 < (l0_0.length : Int)) = false := decide_eq_false c21
            have c21b1 : decide (8 < l0_0.length) = false := decide_eq_false (by omega)
            clear c21
            by_cases c23 : a0_1 < 0
            · rw [if_pos c23] at H
              have c23b0 : decide (a0_1 < 0) = true := decide_eq_true c23
              clear c23
              obtain rfl := Option.some.inj H
              have hcz24_0 : wr.cell? ⟨gb126, 0, none⟩ = some (.slice A0_0 l0_0.length c0_0) := (blk_cell BK126.out 0).trans rfl
              have hcz24_1 : wr.cell? ⟨gb126, 1, none⟩ = some (.int .i64 a0_1) := (blk_cell BK126.out 1).trans rfl
              have hcz24_2 : wr.cell? ⟨gb126, 2, none⟩ = some (.int .i64 a0_2) := (blk_cell BK126.out 2).trans rfl
              have hfz24_0 := blk_frozen BK126.out 0
              have hfz24_1 := blk_frozen BK126.out 1
              have hfz24_2 := blk_frozen BK126.out 2
              go_wp2
              repeat (go_quiet (fail); try go_wp2)
              go_ret
              exact ⟨by first | rfl | (simp [errW_none, errW_some] <;> rfl) | (simp [*, errW_none, errW_some] <;> rfl), by repeat (first | (with_reducible first | exact HB.out | apply below_alloc | apply pw_below_drewN | apply below_drew1 | refine below_set ?_ GE126.out) | exact HB.out)⟩
            · rw [if_neg c23] at H
              have c23b0 : decide (a0_1 < 0) = false := decide_eq_false c23
              clear c23
              by_cases c25 : a0_1 > 16
              · rw [if_pos c25] at H
                have c25b0 : decide (16 < a0_1) = true := decide_eq_true c25
                clear c25
                obtain rfl := Option.some.inj H
                have hcz26_0 : wr.cell? ⟨gb126, 0, none⟩ = some (.slice A0_0 l0_0.length c0_0) := (blk_cell BK126.out 0).trans rfl
                have hcz26_1 : wr.cell? ⟨gb126, 1, none⟩ = some (.int .i64 a0_1) := (blk_cell BK126.out 1).trans rfl
                have hcz26_2 : wr.cell? ⟨gb126, 2, none⟩ = some (.int .i64 a0_2) := (blk_cell BK126.out 2).trans rfl
                have hfz26_0 := blk_frozen BK126.out 0
                have hfz26_1 := blk_frozen BK126.out 1
                have hfz26_2 := blk_frozen BK126.out 2
                go_wp2
                repeat (go_quiet (fail); try go_wp2)
                go_ret
                exact ⟨by first | rfl | (simp [errW_none, errW_some] <;> rfl) | (simp [*, errW_none, errW_some] <;> rfl), by repeat (first | (with_reducible first | exact HB.out | apply below_alloc | apply pw_below_drewN | apply below_drew1 | refine below_set ?_ GE126.out) | exact HB.out)⟩
              · rw [if_neg c25] at H
                have c25b0 : decide (16 < a0_1) = false := decide_eq_false c25
                clear c25
                by_cases c27 : a0_2 ≥ 1
                · rw [if_pos c27] at H
                  have c27b0 : decide (1 ≤ a0_2) = true := decide_eq_true c27
                  clear c27
                  obtain rfl := Option.some.inj H
                  have hcz28_0 : wr.cell? ⟨gb126, 0, none⟩ = some (.slice A0_0 l0_0.length c0_0) := (blk_cell BK126.out 0).trans rfl
                  have hcz28_1 : wr.cell? ⟨gb126, 1, none⟩ = some (.int .i64 a0_1) := (blk_cell BK126.out 1).trans rfl
                  have hcz28_2 : wr.cell? ⟨gb126, 2, none⟩ = some (.int .i64 a0_2) := (blk_cell BK126.out 2).trans rfl
                  have hfz28_0 := blk_frozen BK126.out 0
                  have hfz28_1 := blk_frozen BK126.out 1
                  have hfz28_2 := blk_frozen BK126.out 2
                  go_wp2
                  repeat (go_quiet (fail); try go_wp2)
                  go_ret
                  exact ⟨by first | rfl | (simp [errW_none, errW_some] <;> rfl) | (simp [*, errW_none, errW_some] <;> rfl), by repeat (first | (with_reducible first | exact HB.out | apply below_alloc | apply pw_below_drewN | apply below_drew1 | refine below_set ?_ GE126.out) | exact HB.out)⟩
                · rw [if_neg c27] at H
                  have c27b0 : decide (1 ≤ a0_2) = false := decide_eq_false c27
                  clear c27
                  obtain rfl := Option.some.inj H
                  have hcz29_0 : wr.cell? ⟨gb126, 0, none⟩ = some (.slice A0_0 l0_0.length c0_0) := (blk_cell BK126.out 0).trans rfl
                  have hcz29_1 : wr.cell? ⟨gb126, 1, none⟩ = some (.int .i64 a0_1) := (blk_cell BK126.out 1).trans rfl
                  have hcz29_2 : wr.cell? ⟨gb126, 2, none⟩ = some (.int .i64 a0_2) := (blk_cell BK126.out 2).trans rfl
                  have hfz29_0 := blk_frozen BK126.out 0
                  have hfz29_1 := blk_frozen BK126.out 1
                  have hfz29_2 := blk_frozen BK126.out 2
                  go_wp2
                  repeat (go_quiet (fail); try go_wp2)
                  go_ret
                  exact ⟨by first | rfl | (simp [errW_none, errW_some] <;> rfl) | (simp [*, errW_none, errW_some] <;> rfl), by repeat (first | (with_reducible first | exact HB.out | apply below_alloc | apply pw_below_drewN | apply below_drew1 | refine below_set ?_ GE126.out) | exact HB.out)⟩

end Go.Proofs.YthmnhbalmglohaaGreatDoor.X

/- What tollhouseref15's functions tell is what auth's tell. -/
namespace Go.Proofs.YthmnhbalmglohaaGreatDoor.X
open Go.RowKit Go.Proofs.YthmnhbalmglohaaGreatDoorW.PrintWords Go.Proofs.YthmnhbalmglohaaGreatDoorW.PrintMore Go.Proofs.YthmnhbalmglohaaGreatDoor.T
set_option linter.unusedSimpArgs false
set_option linter.unusedVariables false
/-! ### May -/
theorem authC_iff (c : UInt8) : isAuth c = true ↔ ((97 ≤ c.toNat ∧ c.toNat ≤ 122) ∨ (65 ≤ c.toNat ∧ c.toNat ≤ 90) ∨ (48 ≤ c.toNat ∧ c.toNat ≤ 57) ∨ c.toNat = 45 ∨ c.toNat = 46 ∨ c.toNat = 95 ∨ c.toNat = 126 ∨ c.toNat = 43 ∨ c.toNat = 47) := by
  have h : ∀ n : Fin 256, isAuth (UInt8.ofNat n.val) = true ↔ ((97 ≤ (UInt8.ofNat n.val).toNat ∧ (UInt8.ofNat n.val).toNat ≤ 122) ∨ (65 ≤ (UInt8.ofNat n.val).toNat ∧ (UInt8.ofNat n.val).toNat ≤ 90) ∨ (48 ≤ (UInt8.ofNat n.val).toNat ∧ (UInt8.ofNat n.val).toNat ≤ 57) ∨ (UInt8.ofNat n.val).toNat = 45 ∨ (UInt8.ofNat n.val).toNat = 46 ∨ (UInt8.ofNat n.val).toNat = 95 ∨ (UInt8.ofNat n.val).toNat = 126 ∨ (UInt8.ofNat n.val).toNat = 43 ∨ (UInt8.ofNat n.val).toNat = 47) := by decide +kernel
  have := h ⟨c.toNat, c.toNat_lt⟩
  simpa using this
def trimL (l : List UInt8) : List UInt8 := Lib.trimRightB l 61
theorem dropWhile_app (p : UInt8 → Bool) : ∀ a b : List UInt8, (a ++ b).dropWhile p = if (a.dropWhile p).isEmpty then b.dropWhile p else a.dropWhile p ++ b
  | [], b => rfl
  | x :: a, b => by
    rw [List.cons_append, List.dropWhile_cons, List.dropWhile_cons]
    cases p x with
    | true => simpa using dropWhile_app p a b
    | false => rfl
theorem trimL_cons (c : UInt8) (t : List UInt8) : trimL (c :: t) = if (trimL t).isEmpty then (if c == 61 then [] else [c]) else c :: trimL t := by
  unfold trimL Lib.trimRightB
  rw [List.reverse_cons, dropWhile_app]
  by_cases h : (t.reverse.dropWhile (· == 61)).isEmpty = true
  · rw [if_pos h, if_pos (by simpa using h)]
    cases hc : c == 61 with
    | true => simp [List.dropWhile_cons, hc]
    | false => simp [List.dropWhile_cons, hc]
  · rw [if_neg h, if_neg (by simpa using h)]
    simp
def goodTok (l : List UInt8) : Bool := (trimL l).all isAuth
theorem trimL_eqs : ∀ t : List UInt8, t.all (· == 61) = (trimL t).isEmpty
  | [] => rfl
  | c :: t => by
    rw [List.all_cons, trimL_cons, trimL_eqs t]
    cases (trimL t).isEmpty with
    | true => cases hc : c == 61 <;> simp
    | false => simp
theorem goodL_cons (c : UInt8) (t : List UInt8) (hc : c ≠ 61) : goodTok (c :: t) = (isAuth c && goodTok t) := by
  unfold goodTok
  rw [trimL_cons, if_neg (show ¬ (c == 61) = true by simpa using hc)]
  cases h : (trimL t).isEmpty with
  | true =>
    rw [if_pos rfl]
    rw [List.isEmpty_iff] at h
    rw [h]; simp
  | false => rw [if_neg (by decide)]; rfl
theorem goodL_eq (t : List UInt8) : goodTok (61 :: t) = t.all (· == 61) := by
  rw [trimL_eqs]
  unfold goodTok
  rw [trimL_cons]
  cases h : (trimL t).isEmpty with
  | true => rfl
  | false =>
    rw [if_neg (by decide), List.all_cons]
    rfl
theorem eqs_go (s : ByteArray) (hs : s.size ≤ 4294967296) (n : Nat) : ∀ (t : List UInt8) (i : Nat), s.data.toList.drop i = t → i ≤ s.size → Ev (fun k => tollhouseref15_May.l1 k s (n : Int) (i : Int)) (t.all (· == 61) && (decide (0 < n) && decide (s.size ≤ 64)))
  | [], i, ht, hi => by
    have hn : s.size ≤ i := by
      have := congrArg List.length ht
      rw [List.length_drop, size_toList] at this
      simp at this; omega
    have e : decide ((s.size : Int) ≤ 64) = decide (s.size ≤ 64) := by
      by_cases h : s.size ≤ 64
      · rw [decide_eq_true h, decide_eq_true (by omega)]
      · rw [decide_eq_false h, decide_eq_false (by omega)]
    refine Ev.done fun k => ?_
    simp only [tollhouseref15_May.l1]
    rw [if_neg (by omega)]
    by_cases h : 0 < n
    · rw [if_pos (by omega), e, decide_eq_true h]; simp
    · rw [if_neg (by omega), decide_eq_false h]; simp
  | c :: t, i, ht, hi => by
    have hil : i < s.size := by
      have := congrArg List.length ht
      rw [List.length_drop, size_toList] at this
      simp at this; omega
    have hd := drop_at hil
    rw [ht] at hd
    injection hd with e1 e2
    have ih := eqs_go s hs n t (i + 1) e2.symm (by omega)
    have hb := btAt hil
    rw [← e1] at hb
    by_cases hc : c = 61
    · subst hc
      rw [List.all_cons, show ((61 : UInt8) == 61) = true from rfl, Bool.true_and]
      refine Ev.step (fun k => ?_) ih
      simp only [tollhouseref15_May.l1]
      rw [if_pos (by omega), if_pos (by omega), if_pos (by rw [hb]; rfl), wrap_succ (by omega)]
    · rw [List.all_cons, show (c == 61) = false from by simpa using hc, Bool.false_and, Bool.false_and]
      refine Ev.done fun k => ?_
      have hne : bt s (i : Int) ≠ 61 := by
        rw [hb]; intro e
        refine hc (UInt8.toNat_inj.1 ?_)
        show c.toNat = 61
        omega
      simp only [tollhouseref15_May.l1]
      rw [if_pos (by omega), if_pos (by omega), if_neg hne]
set_option maxHeartbeats 1000000 in
theorem may_j1 (s : ByteArray) (hs : s.size ≤ 4294967296) (i : Nat) (hil : i < s.size) (k : Nat) : tollhouseref15_May.j1 (k + 1) s (i : Int) true = if isAuth (s[i]'hil) = true then tollhouseref15_May.l0 k s ((i + 1 : Nat) : Int) else some false := by
  have hb := btAt hil
  have hiff := authC_iff (s[i]'hil)
  generalize (s[i]'hil) = c at hb hiff
  simp only [tollhouseref15_May.j1]
  rw [wrap_succ (by omega), hb]
  generalize tollhouseref15_May.l0 k s ((i + 1 : Nat) : Int) = X
  rw [if_pos trivial, if_pos (by omega), if_pos (by omega)]
  by_cases h : isAuth c = true
  · rw [if_pos h]
    have h2 := hiff.1 h
    clear hiff h hb hil hs
    rcases h2 with h2 | h2 | h2 | h2 | h2 | h2 | h2 | h2 | h2
    all_goals repeat (first | rw [if_pos (by omega)] | rw [if_neg (by omega)])
  · rw [if_neg h]
    have h2 := mt hiff.2 h
    clear hiff h hb hil hs
    by_cases q1 : (c.toNat : Int) ≥ 97 <;> by_cases q2 : (c.toNat : Int) ≥ 65 <;> by_cases q3 : (c.toNat : Int) ≥ 48
    all_goals first | (exfalso; omega) | (repeat (first | rw [if_pos (by omega)] | rw [if_neg (by omega)]))
theorem may_go (s : ByteArray) (hs : s.size ≤ 4294967296) : ∀ (t : List UInt8) (i : Nat), s.data.toList.drop i = t → i ≤ s.size → Ev (fun k => tollhouseref15_May.l0 k s (i : Int)) (goodTok t && ((decide (0 < i) || !(trimL t).isEmpty) && decide (s.size ≤ 64)))
  | [], i, ht, hi => by
    have hn : s.size ≤ i := by
      have := congrArg List.length ht
      rw [List.length_drop, size_toList] at this
      simp at this; omega
    have h1 := eqs_go s hs i [] i ht hi
    refine Ev.step (g := fun k => tollhouseref15_May.j1 k s (i : Int) false) (fun k => ?_) (Ev.step (g := fun k => tollhouseref15_May.l1 k s (i : Int) (i : Int)) (fun k => ?_) ?_)
    · simp only [tollhouseref15_May.l0]
      rw [if_neg (by omega)]
    · simp only [tollhouseref15_May.j1]
      rw [if_neg (by decide)]
    · have e : (goodTok [] && ((decide (0 < i) || !(trimL []).isEmpty) && decide (s.size ≤ 64))) = (([] : List UInt8).all (· == 61) && (decide (0 < i) && decide (s.size ≤ 64))) := by
        show (true && ((decide (0 < i) || false) && decide (s.size ≤ 64))) = _
        rw [Bool.or_false]; rfl
      rw [e]; exact h1
  | c :: t, i, ht, hi => by
    have hil : i < s.size := by
      have := congrArg List.length ht
      rw [List.length_drop, size_toList] at this
      simp at this; omega
    have hd := drop_at hil
    rw [ht] at hd
    injection hd with e1 e2
    have ih := may_go s hs t (i + 1) e2.symm (by omega)
    have hb := btAt hil
    by_cases hc : c = 61
    · have h1 := eqs_go s hs i (c :: t) i ht (by omega)
      subst hc
      have hbt : bt s (i : Int) = 61 := by rw [hb, ← e1]; rfl
      refine Ev.step (g := fun k => tollhouseref15_May.j1 k s (i : Int) false) (fun k => ?_) (Ev.step (g := fun k => tollhouseref15_May.l1 k s (i : Int) (i : Int)) (fun k => ?_) ?_)
      · simp only [tollhouseref15_May.l0]
        rw [if_pos (by omega), if_pos (by omega), hbt]
        rfl
      · simp only [tollhouseref15_May.j1]
        rw [if_neg (by decide)]
      · have e : (goodTok (61 :: t) && ((decide (0 < i) || !(trimL (61 :: t)).isEmpty) && decide (s.size ≤ 64))) = ((61 :: t).all (· == 61) && (decide (0 < i) && decide (s.size ≤ 64))) := by
          rw [goodL_eq, List.all_cons, show ((61 : UInt8) == 61) = true from rfl, Bool.true_and]
          cases ha : t.all (· == 61) with
          | false => rfl
          | true =>
            have hx := trimL_eqs (61 :: t)
            rw [List.all_cons, ha] at hx
            rw [← hx]
            simp
        rw [e]; exact h1
    · have hne : bt s (i : Int) ≠ 61 := by
        rw [hb, ← e1]; intro e
        refine hc (UInt8.toNat_inj.1 ?_)
        show c.toNat = 61
        omega
      have hj := may_j1 s hs i hil
      rw [← e1] at hj
      have htl : (trimL (c :: t)).isEmpty = false := by
        rw [← trimL_eqs, List.all_cons, show (c == 61) = false from by simpa using hc]; rfl
      rw [goodL_cons c t hc, htl]
      refine Ev.step (g := fun k => tollhouseref15_May.j1 k s (i : Int) true) (fun k => ?_) ?_
      · simp only [tollhouseref15_May.l0]
        rw [if_pos (by omega), if_pos (by omega), show (bt s (i : Int) != 61) = true from by simpa using hne]
      · cases ha : isAuth c with
        | true =>
          rw [ha] at hj
          refine Ev.step (fun k => hj k) (Ev.same (fun k => if_pos rfl) ?_)
          have e : (true && goodTok t && ((decide (0 < i) || !false) && decide (s.size ≤ 64))) = (goodTok t && ((decide (0 < i + 1) || !(trimL t).isEmpty) && decide (s.size ≤ 64))) := by
            rw [decide_eq_true (Nat.succ_pos i)]; simp
          rw [e]; exact ih
        | false =>
          rw [ha] at hj
          exact Ev.done fun k => by rw [hj k, if_neg (by decide)]; rfl
theorem rAMay_ev (s : ByteArray) (hs : s.size ≤ 4294967296) : Ev (fun k => tollhouseref15_May.f k s) (authMayB s) := by
  have h := may_go s hs s.data.toList 0 rfl (Nat.zero_le _)
  have e : authMayB s = (goodTok s.data.toList && ((decide (0 < 0) || !(trimL s.data.toList).isEmpty) && decide (s.size ≤ 64))) := by
    have eb : (bareB s).data.toList = trimL s.data.toList := by unfold bareB trimL; rfl
    unfold authMayB goodTok
    rw [eb]
    cases (trimL s.data.toList).isEmpty <;> cases (trimL s.data.toList).all isAuth <;> simp
  rw [e]; exact h
/-! ### Tenant -/
set_option maxHeartbeats 1000000 in
theorem rtenant_j0 (b : Bool) (tok : ByteArray) (rules : List S46) (x2 x3 x4 x5 x6 x7 x8 : Int) : Ev (fun k => tollhouseref15_Tenant.j0 k (!b) tok rules x2 x3 x4 x5 x6 x7 x8) (rangesB x2 x3 x4 x5 x6 x7 x8 b) := by
  refine Ev.done fun k => ?_
  simp only [tollhouseref15_Tenant.j0]
  have hr : rangesB x2 x3 x4 x5 x6 x7 x8 b = true ↔ (b = true ∧ 0 ≤ x2 ∧ x2 ≤ 262144 ∧ 0 ≤ x3 ∧ x3 ≤ 64 ∧ 1 ≤ x4 ∧ x4 ≤ 16 ∧ 1 ≤ x5 ∧ x5 ≤ 8 ∧ 0 ≤ x6 ∧ x6 ≤ 16 ∧ 1 ≤ x7 ∧ x7 ≤ 1000 ∧ 1 ≤ x8 ∧ x8 ≤ 1000) := by
    unfold rangesB
    simp only [Bool.and_eq_true, decide_eq_true_eq, and_assoc]
  generalize rangesB x2 x3 x4 x5 x6 x7 x8 b = R at hr
  have no : (¬ (b = true ∧ 0 ≤ x2 ∧ x2 ≤ 262144 ∧ 0 ≤ x3 ∧ x3 ≤ 64 ∧ 1 ≤ x4 ∧ x4 ≤ 16 ∧ 1 ≤ x5 ∧ x5 ≤ 8 ∧ 0 ≤ x6 ∧ x6 ≤ 16 ∧ 1 ≤ x7 ∧ x7 ≤ 1000 ∧ 1 ≤ x8 ∧ x8 ≤ 1000)) → some false = some R := fun h => by
    cases R with
    | false => rfl
    | true => exact (h (hr.1 rfl)).elim
  cases b with
  | false => rw [if_pos (by decide)]; exact no (fun h => by simpa using h.1)
  | true =>
    rw [if_neg (by decide)]
    by_cases h2 : x2 < 0
    · rw [if_pos h2]; exact no (fun h => by omega)
    rw [if_neg h2]
    by_cases h3 : x2 > 262144
    · rw [if_pos h3]; exact no (fun h => by omega)
    rw [if_neg h3]
    by_cases h4 : x3 < 0
    · rw [if_pos h4]; exact no (fun h => by omega)
    rw [if_neg h4]
    by_cases h5 : x3 > 64
    · rw [if_pos h5]; exact no (fun h => by omega)
    rw [if_neg h5]
    by_cases h6 : x4 < 1
    · rw [if_pos h6]; exact no (fun h => by omega)
    rw [if_neg h6]
    by_cases h7 : x4 > 16
    · rw [if_pos h7]; exact no (fun h => by omega)
    rw [if_neg h7]
    by_cases h8 : x5 < 1
    · rw [if_pos h8]; exact no (fun h => by omega)
    rw [if_neg h8]
    by_cases h9 : x5 > 8
    · rw [if_pos h9]; exact no (fun h => by omega)
    rw [if_neg h9]
    by_cases h10 : x6 ≥ 0
    · rw [if_pos h10]
      by_cases h11 : x6 ≤ 16
      · rw [if_pos h11]
        by_cases h12 : x7 ≥ 1
        · rw [if_pos h12]
          by_cases h13 : x7 ≤ 1000
          · rw [if_pos h13]
            by_cases h14 : x8 ≥ 1
            · rw [if_pos h14]
              by_cases h15 : x8 ≤ 1000
              · rw [decide_eq_true h15, hr.2 ⟨rfl, by omega⟩]
              · rw [decide_eq_false h15]; exact no (fun h => by omega)
            · rw [if_neg h14]; exact no (fun h => by omega)
          · rw [if_neg h13]; exact no (fun h => by omega)
        · rw [if_neg h12]; exact no (fun h => by omega)
      · rw [if_neg h11]; exact no (fun h => by omega)
    · rw [if_neg h10]; exact no (fun h => by omega)
/-- a tenant whose texts and lists are no longer than a machine holds -/
def sizedT (x : S27) : Prop := x.f0.size ≤ 4294960000 ∧ x.f1.length ≤ 4294960000 ∧ ∀ y ∈ x.f1, sizedR y
theorem rtenant_ev (x : S27) (h : sizedT x) : Ev (fun k => tollhouseref15_Tenant.f k x.f0 x.f1 x.f2 x.f3 x.f4 x.f5 x.f6 x.f7 x.f8) (tenantR x) := by
  obtain ⟨h1, h2, h3⟩ := h
  have hM := rAMay_ev x.f0 (by omega)
  have hA := rall_ev x.f1 h2 h3
  unfold tenantR tenantB
  refine Ev.same (fun k => by unfold tollhouseref15_Tenant.f; rfl) (Ev.bind hM ?_)
  cases authMayB x.f0 with
  | false => exact Ev.same (fun k => if_neg (by decide)) (rtenant_j0 false _ _ _ _ _ _ _ _ _)
  | true => exact Ev.same (fun k => if_pos rfl) (Ev.bind hA (rtenant_j0 _ _ _ _ _ _ _ _ _ _))
/-! ### Config -/
theorem rd_tenant (l : List S27) (i : Nat) (x : S27) (h : l[i]? = some x) : rd_T27 l (i : Int) = x := by
  unfold rd_T27
  rw [Int.toNat_natCast, List.getD_eq_getElem?_getD, h]; rfl
theorem rconfig_l1 (l : List S27) (s t : Int) (hl : l.length ≤ 4294960000) (i : Nat) (y : S27) (hy : l[i]? = some y) (r : Bool) (hr : Ev (fun k => tollhouseref15_Config.l0 k ((i + 1 : Nat) : Int) l s t) r) :
    ∀ (d j : Nat), i - j = d → j ≤ i → Ev (fun k => tollhouseref15_Config.l1 k (i : Int) (j : Int) l s t) (!seenB (((l.take i).drop j).map (·.f0)) y.f0 && r)
  | 0, j, hd, hj => by
    obtain rfl : j = i := by omega
    have hil : j < l.length := (List.getElem?_eq_some_iff.1 hy).1
    rw [List.drop_eq_nil_of_le (by rw [List.length_take]; omega)]
    refine Ev.step (fun k => ?_) hr
    simp only [tollhouseref15_Config.l1]
    rw [if_neg (by omega), wrap_succ (by omega)]
  | d + 1, j, hd, hj => by
    have hil : i < l.length := (List.getElem?_eq_some_iff.1 hy).1
    have hjl : j < l.length := by omega
    have ih := rconfig_l1 l s t hl i y hy r hr d (j + 1) (by omega) (by omega)
    have hx : l[j]? = some l[j] := List.getElem?_eq_getElem hjl
    have hdr : (l.take i).drop j = l[j] :: (l.take i).drop (j + 1) := by
      rw [List.drop_eq_getElem_cons (by rw [List.length_take]; omega)]
      simp
    rw [hdr, List.map_cons]
    have hs : seenB ((l[j]).f0 :: ((l.take i).drop (j + 1)).map (·.f0)) y.f0 = (decide (y.f0.data.toList = (l[j]).f0.data.toList) || seenB (((l.take i).drop (j + 1)).map (·.f0)) y.f0) := rfl
    rw [hs]
    by_cases e : y.f0.data.toList = (l[j]).f0.data.toList
    · rw [decide_eq_true e]
      refine Ev.done fun k => ?_
      simp only [tollhouseref15_Config.l1]
      rw [if_pos (by omega), if_pos (by omega), if_pos (by omega), if_pos (by omega), if_pos (by omega), rd_tenant l j _ hx, rd_tenant l i _ hy, if_pos (by rw [toList_eq, toList_eq, e])]
      rfl
    · rw [decide_eq_false e, Bool.false_or]
      refine Ev.step (fun k => ?_) ih
      simp only [tollhouseref15_Config.l1]
      rw [if_pos (by omega), if_pos (by omega), if_pos (by omega), if_pos (by omega), if_pos (by omega), rd_tenant l j _ hx, rd_tenant l i _ hy, if_neg (by rw [toList_eq, toList_eq]; exact fun q => e q.symm), wrap_succ (by omega)]
theorem rconfig_go (l : List S27) (s t : Int) (hl : l.length ≤ 4294960000) (hx : ∀ x ∈ l, sizedT x) : ∀ (u : List S27) (i : Nat), l.drop i = u → i ≤ l.length →
    Ev (fun k => tollhouseref15_Config.l0 k (i : Int) l s t) (goodTs ((l.take i).map (·.f0)) u && restB l.length s t)
  | [], i, ht, hi => by
    have hil : l.length ≤ i := by
      have := congrArg List.length ht
      simp at this; omega
    have hr : restB l.length s t = true ↔ (1 ≤ l.length ∧ l.length ≤ 8 ∧ 0 ≤ s ∧ s ≤ 16 ∧ 1 ≤ t ∧ t ≤ 1099511627776) := by
      unfold restB
      simp only [Bool.and_eq_true, decide_eq_true_eq, and_assoc]
    have eg : (goodTs ((l.take i).map (·.f0)) [] && restB l.length s t) = restB l.length s t := rfl
    rw [eg]
    generalize restB l.length s t = R at hr
    have no : (¬ (1 ≤ l.length ∧ l.length ≤ 8 ∧ 0 ≤ s ∧ s ≤ 16 ∧ 1 ≤ t ∧ t ≤ 1099511627776)) → some false = some R := fun h => by
      cases R with
      | false => rfl
      | true => exact (h (hr.1 rfl)).elim
    refine Ev.done fun k => ?_
    simp only [tollhouseref15_Config.l0]
    rw [if_neg (by omega)]
    by_cases h1 : (l.length : Int) < 1
    · rw [if_pos h1]; exact no (fun h => by omega)
    rw [if_neg h1]
    by_cases h2 : (l.length : Int) > 8
    · rw [if_pos h2]; exact no (fun h => by omega)
    rw [if_neg h2]
    by_cases h3 : s < 0
    · rw [if_pos h3]; exact no (fun h => by omega)
    rw [if_neg h3]
    by_cases h4 : s > 16
    · rw [if_pos h4]; exact no (fun h => by omega)
    rw [if_neg h4]
    by_cases h5 : t ≥ 1
    · rw [if_pos h5]
      by_cases h6 : t ≤ 1099511627776
      · rw [decide_eq_true h6, hr.2 (by omega)]
      · rw [decide_eq_false h6]; exact no (fun h => by omega)
    · rw [if_neg h5]; exact no (fun h => by omega)
  | y :: u, i, ht, hi => by
    have hil : i < l.length := by
      have := congrArg List.length ht
      simp at this; omega
    have hiy : l[i]? = some y := by
      have : (l.drop i)[0]? = some y := by rw [ht]; rfl
      rw [List.getElem?_drop] at this
      simpa using this
    have ht2 : l.drop (i + 1) = u := by rw [← List.drop_drop, ht]; rfl
    have ih := rconfig_go l s t hl hx u (i + 1) ht2 (by omega)
    have etk : l.take (i + 1) = l.take i ++ [y] := by
      rw [List.take_add_one, hiy]; rfl
    rw [etk, List.map_append] at ih
    have hT := rtenant_ev y (hx y (List.mem_of_getElem? hiy))
    have eg : goodTs ((l.take i).map (·.f0)) (y :: u) = (tenantR y && (!seenB ((l.take i).map (·.f0)) y.f0 && goodTs ((l.take i).map (·.f0) ++ [y.f0]) u)) := rfl
    rw [eg]
    refine Ev.step (g := fun k => (tollhouseref15_Tenant.f k y.f0 y.f1 y.f2 y.f3 y.f4 y.f5 y.f6 y.f7 y.f8).bind fun b => if b = true then tollhouseref15_Config.l1 k (i : Int) 0 l s t else some false) (fun k => ?_) (Ev.bind hT ?_)
    · simp only [tollhouseref15_Config.l0]
      rw [if_pos (by omega), if_pos (by omega), rd_tenant l i y hiy]
    · cases tenantR y with
      | false => exact Ev.const fun k => by rw [if_neg (by decide)]; rfl
      | true =>
        have h1 := rconfig_l1 l s t hl i y hiy _ ih i 0 (by omega) (Nat.zero_le _)
        rw [List.drop_zero] at h1
        refine Ev.same (fun k => if_pos rfl) ?_
        rw [Bool.true_and, Bool.and_assoc]
        exact h1
theorem rconfig_ev (l : List S27) (s t : Int) (hl : l.length ≤ 4294960000) (hx : ∀ x ∈ l, sizedT x) : Ev (fun k => tollhouseref15_Config.f k l s t) (configB l s t) := rconfig_go l s t hl hx l 0 rfl (Nat.zero_le _)
end Go.Proofs.YthmnhbalmglohaaGreatDoor.X

/- The chapter's rows; sizes. -/
namespace Go.Proofs.YthmnhbalmglohaaGreatDoor.X
open Go.RowKit Go.Proofs.YthmnhbalmglohaaGreatDoorW.PrintWords Go.Proofs.YthmnhbalmglohaaGreatDoorW.PrintMore Go.Proofs.YthmnhbalmglohaaGreatDoor.T
set_option linter.unusedSimpArgs false
set_option linter.unusedVariables false
theorem wakes15_at : tollhouselaw15_wakes.f 60 = some true := by decide +kernel
theorem wakes15 : Ev (fun k => tollhouselaw15_wakes.f k) true := Ev.of_mono (fun k => tollhouselaw15_wakes.mono k) wakes15_at
theorem sized_fitsR {x : S46} (h : sizedR x) : fitsR x = true := by
  obtain ⟨h1, h2, h3⟩ := h
  unfold fitsR
  have hm : fitsM x.f4 = true := List.all_eq_true.2 fun y hy => decide_eq_true (by have := h3 y hy; omega)
  rw [decide_eq_true (by omega), hm, decide_eq_true (by omega)]; rfl
theorem sized_fitsT {x : S27} (h : sizedT x) : fitsT x = true := by
  obtain ⟨h1, h2, h3⟩ := h
  unfold fitsT
  have hm : x.f1.all fitsR = true := List.all_eq_true.2 fun y hy => sized_fitsR (h3 y hy)
  rw [decide_eq_true (by omega), hm, decide_eq_true (by omega)]; rfl
theorem config_eq (l : List S27) (s t : Int) (hl : l.length ≤ 4294960000) (hx : ∀ x ∈ l, sizedT x) : auth_Config.f l s t = some (configB l s t) := by
  unfold auth_Config.f
  rw [if_pos ⟨List.all_eq_true.2 fun y hy => sized_fitsT (hx y hy), by omega⟩]
end Go.Proofs.YthmnhbalmglohaaGreatDoor.X

-- PRINTED by print.py (a twelfth state) out of the translation. Not trusted: Lean checks it.
namespace Go.Proofs.YthmnhbalmglohaaGreatDoor.X
open Go.RowKit Go.Proofs.YthmnhbalmglohaaGreatDoorW.PrintWords Go.Proofs.YthmnhbalmglohaaGreatDoorW.PrintLast Go.Proofs.YthmnhbalmglohaaGreatDoorW.PrintMore
attribute [local go_sem] max2_int min2_int max_two min_two max_three min_three max_four min_four   -- for this text's walks alone
set_option linter.unusedVariables false
set_option linter.unusedSimpArgs false
open Go.Proofs.YthmnhbalmglohaaGreatDoor.T

/-! ### tollhouseref02_Lower: function 33 -/
def tollhouseref02_Lower.l0 : Nat → ByteArray → List Int → Int → Option (ByteArray)
  | 0, _, _, _ => none
  | k + 1, x0, x3, x4 => if x4 < (x0.size : Int) then (if 0 ≤ x4 then (if (bt x0 x4) ≥ 65 then (if (bt x0 x4) ≤ 90 then (if x3.length < 140737488355328 then (tollhouseref02_Lower.l0 k x0 (x3 ++ [((bt x0 x4) + 32) % 256]) (wrap64 (x4 + 1))) else (none)) else (if x3.length < 140737488355328 then (tollhouseref02_Lower.l0 k x0 (x3 ++ [bt x0 x4]) (wrap64 (x4 + 1))) else (none))) else (if x3.length < 140737488355328 then (tollhouseref02_Lower.l0 k x0 (x3 ++ [bt x0 x4]) (wrap64 (x4 + 1))) else (none))) else (none)) else (some (strOfNums x3))
def tollhouseref02_Lower.f (k : Nat) (a0 : ByteArray) : Option (ByteArray) := tollhouseref02_Lower.l0 k a0 ([] : List Int) 0
theorem tollhouseref02_Lower.mono_l : ∀ k, (∀ y0 y1 y2, LeO (tollhouseref02_Lower.l0 k y0 y1 y2) (tollhouseref02_Lower.l0 (k + 1) y0 y1 y2))
  | 0 => fun _ _ _ r h => by simp [tollhouseref02_Lower.l0] at h
  | k + 1 => by
    have ih0 := tollhouseref02_Lower.mono_l k
    · intro y0 y1 y2
      unfold tollhouseref02_Lower.l0
      repeat' first
      | (with_reducible exact ih0 _ _ _)
      | (with_reducible exact LeO.refl _)
      | (with_reducible exact LeO.none _)
      | (with_reducible refine LeO.ite ?_ ?_)
      | (with_reducible refine LeO.bind ?_ (fun _ => ?_))
      | exact ih0 _ _ _
      | exact LeO.none _
      | refine LeO.ite ?_ ?_
      | refine LeO.bind ?_ (fun _ => ?_)
theorem tollhouseref02_Lower.mono : ∀ a0 k, LeO (tollhouseref02_Lower.f k a0) (tollhouseref02_Lower.f (k + 1) a0) := by
  intro a0 k
  have ih0 := tollhouseref02_Lower.mono_l k
  unfold tollhouseref02_Lower.f
  repeat' first
      | (with_reducible exact ih0 _ _ _)
      | (with_reducible exact LeO.refl _)
      | (with_reducible exact LeO.none _)
      | (with_reducible refine LeO.ite ?_ ?_)
      | (with_reducible refine LeO.bind ?_ (fun _ => ?_))
      | exact ih0 _ _ _
      | exact LeO.none _
      | refine LeO.ite ?_ ?_
      | refine LeO.bind ?_ (fun _ => ?_)
set_option maxHeartbeats 8000000 in
set_option maxRecDepth 100000 in
theorem tollhouseref02_Lower.calls (k : Nat) (a0 : ByteArray) (r : ByteArray) (w : World) (HGg : Glob w) (h : tollhouseref02_Lower.f k a0 = some r) :
    Calls Tryz.prog 33 #[.string a0] w fun e w' => e = .returned (.string r) ∧ Below w.heap.size w w' := by
  have HGl := Aside0.mk HGg
  clear HGg
  have HB := Aside0.mk (Below.refl w.heap.size w)
  have H : (tollhouseref02_Lower.l0 k a0 ([] : List Int) 0) = some r := h
  clear h
  have H' := Aside0.mk H
  clear H
  go_enter Tryz.func33, Tryz.ntmps33
  go_wp2
  go_loopg [3, 4] k (fun kq v3 v4 w' => ∃ (x3_1 : List Int) (x4_1 : Int), v4 = .int .i64 x4_1 ∧ Aside0 (tollhouseref02_Lower.l0 kq a0 x3_1 x4_1 = some r) ∧ Aside0 (kq ≤ k) ∧ Aside0 (Kd.R (Kd.int .u8) 5 w' w.heap.size (fun _ => True) v3 x3_1) ∧ Aside0 (Below w.heap.size w w'))
  case atStart => exact ⟨(([] : List Int)), (0), (by first | rfl | (simp; done) | (simp [*]; done)), H', ⟨Nat.le_refl _⟩, ⟨by first | exact Kd.R_nil _ _ _ _ _ | exact Kd.N_nil _ _ _ _ _ | exact Kd.V_nil _ _ _ _ _ | exact Kd.Q_nil _ _ _ _ _ | exact Kd.S_nil _ _ _ _ _⟩, ⟨by repeat (first | (with_reducible first | exact HB.out | apply below_alloc | apply pw_below_drewN | apply below_drew1) | exact HB.out)⟩⟩
  case round =>
    clear H'
    obtain ⟨x3_1, x4_1, rfl, HA, HK1, HO_3, HB⟩ := hrel
    cases gk with
    | zero => exact absurd HA.out (by simp [tollhouseref02_Lower.l0])
    | succ k1 =>
      have H := HA.out
      clear HA
      simp only [tollhouseref02_Lower.l0] at H
      by_cases c2 : x4_1 < (a0.size : Int)
      · rw [if_pos c2] at H
        have c2b0 : decide (x4_1 < (a0.size : Int)) = true := decide_eq_true c2
        clear c2
        by_cases c3 : 0 ≤ x4_1
        · rw [if_pos c3] at H
          have c3b0 : decide (0 ≤ x4_1) = true := decide_eq_true c3
          clear c3
          by_cases c5 : (bt a0 x4_1) ≥ 65
          · rw [if_pos c5] at H
            have c5b0 : decide (65 ≤ (bt a0 x4_1)) = true := decide_eq_true c5
            clear c5
            by_cases c7 : (bt a0 x4_1) ≤ 90
            · rw [if_pos c7] at H
              have c7b0 : decide ((bt a0 x4_1) ≤ 90) = true := decide_eq_true c7
              clear c7
              by_cases c9 : x3_1.length < 140737488355328
              · rw [if_pos c9] at H
                have LMc9 := Aside0.mk c9
                clear c9
                obtain ⟨y228, hy228⟩ : ∃ y_ : List Int, y_ = (x3_1 ++ [((bt a0 x4_1) + 32) % 256]) := ⟨_, rfl⟩
                replace H : (tollhouseref02_Lower.l0 k1 a0 y228 (wrap64 (x4_1 + 1))) = some r := by first | (rw [hy228]; with_reducible exact H) | (have H2_ := (Option.bind_some _ _).symm.trans H; rw [hy228]; with_reducible exact H2_) | (have H2_ := (Option.bind_some _ _).symm.trans H; with_reducible exact H2_) | with_reducible exact H | (rw [hy228]; exact H) | exact H
                have Ny228 := Aside0.mk hy228
                clear hy228
                have H' := Aside0.mk H
                clear H
                have p4 : 0 ≤ (x4_1 : Int) := of_decide_eq_true (by first | (with_reducible assumption) | assumption)
                have q4 : x4_1 < (a0.size : Int) := of_decide_eq_true (by first | (with_reducible assumption) | assumption)
                have hx4 := bt_at a0 x4_1
                replace p4 := eq_true p4
                replace q4 := eq_true q4
                have p6 : 0 ≤ (x4_1 : Int) := of_decide_eq_true (by first | (with_reducible assumption) | assumption)
                have q6 : x4_1 < (a0.size : Int) := of_decide_eq_true (by first | (with_reducible assumption) | assumption)
                have hx6 := bt_at a0 x4_1
                replace p6 := eq_true p6
                replace q6 := eq_true q6
                have p8 : 0 ≤ (x4_1 : Int) := of_decide_eq_true (by first | (with_reducible assumption) | assumption)
                have q8 : x4_1 < (a0.size : Int) := of_decide_eq_true (by first | (with_reducible assumption) | assumption)
                have hx8 := bt_at a0 x4_1
                replace p8 := eq_true p8
                replace q8 := eq_true q8
                go_wp2_with (first | ((with_reducible refine gate_builtin (b := .append) (xs := #[.tmp 21, .tmp 26]) rfl ?_); at_builtin; refine Kd.R_append (Kd.int .u8) (w0 := w) w.heap.size rfl (.tmp 21) (.tmp 26) 42 5 (.int .u8 0) 1 rfl Tryz.underlying42 info5 rfl (by decide) (by omega) u3 x3_1 (((bt a0 x4_1) + 32) % 256) [.int .u8 (((bt a0 x4_1) + 32) % 256)] (fun _ => True) (fun _ => False) rfl rfl ?aP (fun _ hk => hk.elim) ?aF ?aO ?aB ?aS ?aL ?_; (case aP => exact rfl); (case aB => exact (by repeat (first | (with_reducible first | exact HB.out | apply below_alloc | apply pw_below_drewN | apply below_drew1) | exact HB.out))); (case aF => exact (fun _ _ => trivial)); (case aO => exact (by (with_reducible repeat (first | apply Kd.R_alloc | apply Kd.R_drewN | apply Kd.R_drew)); exact HO_3.out)); (case aS => exact (below_size (by repeat (first | (with_reducible first | exact HB.out | apply below_alloc | apply pw_below_drewN | apply below_drew1) | exact HB.out)))); (case aL => have := LMc9.out; omega); intro v229 w10 ho hb hg hat; rw [← Ny228.out] at ho; have n0_ := Aside0.mk (hb); have n1_ := Aside0.mk (ho); clear HB; clear HO_3; have HB := n0_; have HO230 := n1_; clear n0_ n1_; clear ho hb hg hat))
                go_roundg k1
                case measure => have := HK1.out; omega
                case rel => exact ⟨(y228), (wrap64 (x4_1 + 1)), (by first | rfl | (simp; done) | (simp [*]; done)), H', ⟨by have := HK1.out; omega⟩, ⟨by (with_reducible repeat (first | apply Kd.R_alloc | apply Kd.R_drewN | apply Kd.R_drew)); exact HO230.out⟩, ⟨by repeat (first | (with_reducible first | exact HB.out | apply below_alloc | apply pw_below_drewN | apply below_drew1) | exact HB.out)⟩⟩
              · rw [if_neg c9] at H
                exact absurd H (by simp)
            · rw [if_neg c7] at H
              have c7b0 : decide ((bt a0 x4_1) ≤ 90) = false := decide_eq_false c7
              clear c7
              by_cases c12 : x3_1.length < 140737488355328
              · rw [if_pos c12] at H
                have LMc12 := Aside0.mk c12
                clear c12
                obtain ⟨y231, hy231⟩ : ∃ y_ : List Int, y_ = (x3_1 ++ [bt a0 x4_1]) := ⟨_, rfl⟩
                replace H : (tollhouseref02_Lower.l0 k1 a0 y231 (wrap64 (x4_1 + 1))) = some r := by first | (rw [hy231]; with_reducible exact H) | (have H2_ := (Option.bind_some _ _).symm.trans H; rw [hy231]; with_reducible exact H2_) | (have H2_ := (Option.bind_some _ _).symm.trans H; with_reducible exact H2_) | with_reducible exact H | (rw [hy231]; exact H) | exact H
                have Ny231 := Aside0.mk hy231
                clear hy231
                have H' := Aside0.mk H
                clear H
                have p4 : 0 ≤ (x4_1 : Int) := of_decide_eq_true (by first | (with_reducible assumption) | assumption)
                have q4 : x4_1 < (a0.size : Int) := of_decide_eq_true (by first | (with_reducible assumption) | assumption)
                have hx4 := bt_at a0 x4_1
                replace p4 := eq_true p4
                replace q4 := eq_true q4
                have p6 : 0 ≤ (x4_1 : Int) := of_decide_eq_true (by first | (with_reducible assumption) | assumption)
                have q6 : x4_1 < (a0.size : Int) := of_decide_eq_true (by first | (with_reducible assumption) | assumption)
                have hx6 := bt_at a0 x4_1
                replace p6 := eq_true p6
                replace q6 := eq_true q6
                have p11 : 0 ≤ (x4_1 : Int) := of_decide_eq_true (by first | (with_reducible assumption) | assumption)
                have q11 : x4_1 < (a0.size : Int) := of_decide_eq_true (by first | (with_reducible assumption) | assumption)
                have hx11 := bt_at a0 x4_1
                replace p11 := eq_true p11
                replace q11 := eq_true q11
                go_wp2_with (first | ((with_reducible refine gate_builtin (b := .append) (xs := #[.tmp 28, .tmp 32]) rfl ?_); at_builtin; refine Kd.R_append (Kd.int .u8) (w0 := w) w.heap.size rfl (.tmp 28) (.tmp 32) 42 5 (.int .u8 0) 1 rfl Tryz.underlying42 info5 rfl (by decide) (by omega) u3 x3_1 (bt a0 x4_1) [.int .u8 (bt a0 x4_1)] (fun _ => True) (fun _ => False) rfl rfl ?aP (fun _ hk => hk.elim) ?aF ?aO ?aB ?aS ?aL ?_; (case aP => exact rfl); (case aB => exact (by repeat (first | (with_reducible first | exact HB.out | apply below_alloc | apply pw_below_drewN | apply below_drew1) | exact HB.out))); (case aF => exact (fun _ _ => trivial)); (case aO => exact (by (with_reducible repeat (first | apply Kd.R_alloc | apply Kd.R_drewN | apply Kd.R_drew)); exact HO_3.out)); (case aS => exact (below_size (by repeat (first | (with_reducible first | exact HB.out | apply below_alloc | apply pw_below_drewN | apply below_drew1) | exact HB.out)))); (case aL => have := LMc12.out; omega); intro v232 w13 ho hb hg hat; rw [← Ny231.out] at ho; have n0_ := Aside0.mk (hb); have n1_ := Aside0.mk (ho); clear HB; clear HO_3; have HB := n0_; have HO233 := n1_; clear n0_ n1_; clear ho hb hg hat))
                go_roundg k1
                case measure => have := HK1.out; omega
                case rel => exact ⟨(y231), (wrap64 (x4_1 + 1)), (by first | rfl | (simp; done) | (simp [*]; done)), H', ⟨by have := HK1.out; omega⟩, ⟨by (with_reducible repeat (first | apply Kd.R_alloc | apply Kd.R_drewN | apply Kd.R_drew)); exact HO233.out⟩, ⟨by repeat (first | (with_reducible first | exact HB.out | apply below_alloc | apply pw_below_drewN | apply below_drew1) | exact HB.out)⟩⟩
              · rw [if_neg c12] at H
                exact absurd H (by simp)
          · rw [if_neg c5] at H
            have c5b0 : decide (65 ≤ (bt a0 x4_1)) = false := decide_eq_false c5
            clear c5
            by_cases c15 : x3_1.length < 140737488355328
            · rw [if_pos c15] at H
              have LMc15 := Aside0.mk c15
              clear c15
              obtain ⟨y234, hy234⟩ : ∃ y_ : List Int, y_ = (x3_1 ++ [bt a0 x4_1]) := ⟨_, rfl⟩
              replace H : (tollhouseref02_Lower.l0 k1 a0 y234 (wrap64 (x4_1 + 1))) = some r := by first | (rw [hy234]; with_reducible exact H) | (have H2_ := (Option.bind_some _ _).symm.trans H; rw [hy234]; with_reducible exact H2_) | (have H2_ := (Option.bind_some _ _).symm.trans H; with_reducible exact H2_) | with_reducible exact H | (rw [hy234]; exact H) | exact H
              have Ny234 := Aside0.mk hy234
              clear hy234
              have H' := Aside0.mk H
              clear H
              have p4 : 0 ≤ (x4_1 : Int) := of_decide_eq_true (by first | (with_reducible assumption) | assumption)
              have q4 : x4_1 < (a0.size : Int) := of_decide_eq_true (by first | (with_reducible assumption) | assumption)
              have hx4 := bt_at a0 x4_1
              replace p4 := eq_true p4
              replace q4 := eq_true q4
              have p14 : 0 ≤ (x4_1 : Int) := of_decide_eq_true (by first | (with_reducible assumption) | assumption)
              have q14 : x4_1 < (a0.size : Int) := of_decide_eq_true (by first | (with_reducible assumption) | assumption)
              have hx14 := bt_at a0 x4_1
              replace p14 := eq_true p14
              replace q14 := eq_true q14
              go_wp2_with (first | ((with_reducible refine gate_builtin (b := .append) (xs := #[.tmp 28, .tmp 32]) rfl ?_); at_builtin; refine Kd.R_append (Kd.int .u8) (w0 := w) w.heap.size rfl (.tmp 28) (.tmp 32) 42 5 (.int .u8 0) 1 rfl Tryz.underlying42 info5 rfl (by decide) (by omega) u3 x3_1 (bt a0 x4_1) [.int .u8 (bt a0 x4_1)] (fun _ => True) (fun _ => False) rfl rfl ?aP (fun _ hk => hk.elim) ?aF ?aO ?aB ?aS ?aL ?_; (case aP => exact rfl); (case aB => exact (by repeat (first | (with_reducible first | exact HB.out | apply below_alloc | apply pw_below_drewN | apply below_drew1) | exact HB.out))); (case aF => exact (fun _ _ => trivial)); (case aO => exact (by (with_reducible repeat (first | apply Kd.R_alloc | apply Kd.R_drewN | apply Kd.R_drew)); exact HO_3.out)); (case aS => exact (below_size (by repeat (first | (with_reducible first | exact HB.out | apply below_alloc | apply pw_below_drewN | apply below_drew1) | exact HB.out)))); (case aL => have := LMc15.out; omega); intro v235 w16 ho hb hg hat; rw [← Ny234.out] at ho; have n0_ := Aside0.mk (hb); have n1_ := Aside0.mk (ho); clear HB; clear HO_3; have HB := n0_; have HO236 := n1_; clear n0_ n1_; clear ho hb hg hat))
              go_roundg k1
              case measure => have := HK1.out; omega
              case rel => exact ⟨(y234), (wrap64 (x4_1 + 1)), (by first | rfl | (simp; done) | (simp [*]; done)), H', ⟨by have := HK1.out; omega⟩, ⟨by (with_reducible repeat (first | apply Kd.R_alloc | apply Kd.R_drewN | apply Kd.R_drew)); exact HO236.out⟩, ⟨by repeat (first | (with_reducible first | exact HB.out | apply below_alloc | apply pw_below_drewN | apply below_drew1) | exact HB.out)⟩⟩
            · rw [if_neg c15] at H
              exact absurd H (by simp)
        · rw [if_neg c3] at H
          exact absurd H (by simp)
      · rw [if_neg c2] at H
        have c2b0 : decide (x4_1 < (a0.size : Int)) = false := decide_eq_false c2
        clear c2
        obtain rfl := Option.some.inj H
        have hcv17 := own_string (P := Tryz.prog) Tryz.underlying42 Tryz.underlying5 Tryz.underlying9 (Kd.own_of_R HO_3.out)
        go_wp2
        go_ret
        exact ⟨by first | rfl | (simp [errW_none, errW_some] <;> rfl) | (simp [*, errW_none, errW_some] <;> rfl), by repeat (first | (with_reducible first | exact HB.out | apply below_alloc | apply pw_below_drewN | apply below_drew1) | exact HB.out)⟩

end Go.Proofs.YthmnhbalmglohaaGreatDoor.X

-- PRINTED by print.py (a twelfth state) out of the translation. Not trusted: Lean checks it.
namespace Go.Proofs.YthmnhbalmglohaaGreatDoor.X
open Go.RowKit Go.Proofs.YthmnhbalmglohaaGreatDoorW.PrintWords Go.Proofs.YthmnhbalmglohaaGreatDoorW.PrintLast Go.Proofs.YthmnhbalmglohaaGreatDoorW.PrintMore
attribute [local go_sem] max2_int min2_int max_two min_two max_three min_three max_four min_four   -- for this text's walks alone
set_option linter.unusedVariables false
set_option linter.unusedSimpArgs false
open Go.Proofs.YthmnhbalmglohaaGreatDoor.T

/-! ### tollhouseref15_Credential: function 17 -/
mutual
def tollhouseref15_Credential.j0 : Nat → ByteArray → Bool → Option (ByteArray × Bool)
  | 0, _, _ => none
  | k + 1, x0, x18 => if x18 = true then (some ((⟨#[]⟩ : ByteArray), false)) else (tollhouseref15_Credential.l0 k x0 6)
def tollhouseref15_Credential.l0 : Nat → ByteArray → Int → Option (ByteArray × Bool)
  | 0, _, _ => none
  | k + 1, x0, x4 => if x4 < (x0.size : Int) then (if 0 ≤ x4 then (if (bt x0 x4) = 32 then (tollhouseref15_Credential.l0 k x0 (wrap64 (x4 + 1))) else (if x4 ≤ (x0.size : Int) then ((tollhouseref15_May.f k (x0.extract (x4 : Int).toNat x0.size)).bind fun t238 => (if t238 = true then (some (x0.extract (x4 : Int).toNat x0.size, true)) else (some ((⟨#[]⟩ : ByteArray), false)))) else (none))) else (none)) else (if 0 ≤ x4 then (if x4 ≤ (x0.size : Int) then ((tollhouseref15_May.f k (x0.extract (x4 : Int).toNat x0.size)).bind fun t239 => (if t239 = true then (some (x0.extract (x4 : Int).toNat x0.size, true)) else (some ((⟨#[]⟩ : ByteArray), false)))) else (none)) else (none))
end
def tollhouseref15_Credential.f (k : Nat) (a0 : ByteArray) : Option (ByteArray × Bool) := if (a0.size : Int) < 8 then (tollhouseref15_Credential.j0 k a0 true) else (if 0 ≤ 6 then (if 6 ≤ (a0.size : Int) then ((tollhouseref02_Lower.f k (a0.extract 0 6)).bind fun t237 => (if t237.toList = ([98, 101, 97, 114, 101, 114] : List UInt8) then (if 6 < (a0.size : Int) then (tollhouseref15_Credential.j0 k a0 ((bt a0 6) != 32)) else (none)) else (tollhouseref15_Credential.j0 k a0 true))) else (none)) else (none))
theorem tollhouseref15_Credential.mono_l : ∀ k, (∀ y0 y1, LeO (tollhouseref15_Credential.j0 k y0 y1) (tollhouseref15_Credential.j0 (k + 1) y0 y1)) ∧ (∀ y0 y1, LeO (tollhouseref15_Credential.l0 k y0 y1) (tollhouseref15_Credential.l0 (k + 1) y0 y1))
  | 0 => ⟨fun _ _ r h => by simp [tollhouseref15_Credential.j0] at h, fun _ _ r h => by simp [tollhouseref15_Credential.l0] at h⟩
  | k + 1 => by
    obtain ⟨ih0, ih1⟩ := tollhouseref15_Credential.mono_l k
    refine ⟨?_, ?_⟩
    · intro y0 y1
      unfold tollhouseref15_Credential.j0
      repeat' first
      | (with_reducible exact ih0 _ _)
      | (with_reducible exact ih1 _ _)
      | (with_reducible exact tollhouseref02_Lower.mono _ _)
      | (with_reducible exact tollhouseref15_May.mono _ _)
      | (with_reducible exact LeO.refl _)
      | (with_reducible exact LeO.none _)
      | (with_reducible refine LeO.ite ?_ ?_)
      | (with_reducible refine LeO.bind ?_ (fun _ => ?_))
      | exact ih0 _ _
      | exact ih1 _ _
      | exact tollhouseref02_Lower.mono _ _
      | exact tollhouseref15_May.mono _ _
      | exact LeO.none _
      | refine LeO.ite ?_ ?_
      | refine LeO.bind ?_ (fun _ => ?_)
    · intro y0 y1
      unfold tollhouseref15_Credential.l0
      repeat' first
      | (with_reducible exact ih0 _ _)
      | (with_reducible exact ih1 _ _)
      | (with_reducible exact tollhouseref02_Lower.mono _ _)
      | (with_reducible exact tollhouseref15_May.mono _ _)
      | (with_reducible exact LeO.refl _)
      | (with_reducible exact LeO.none _)
      | (with_reducible refine LeO.ite ?_ ?_)
      | (with_reducible refine LeO.bind ?_ (fun _ => ?_))
      | exact ih0 _ _
      | exact ih1 _ _
      | exact tollhouseref02_Lower.mono _ _
      | exact tollhouseref15_May.mono _ _
      | exact LeO.none _
      | refine LeO.ite ?_ ?_
      | refine LeO.bind ?_ (fun _ => ?_)
theorem tollhouseref15_Credential.mono : ∀ a0 k, LeO (tollhouseref15_Credential.f k a0) (tollhouseref15_Credential.f (k + 1) a0) := by
  intro a0 k
  obtain ⟨ih0, ih1⟩ := tollhouseref15_Credential.mono_l k
  unfold tollhouseref15_Credential.f
  repeat' first
      | (with_reducible exact ih0 _ _)
      | (with_reducible exact ih1 _ _)
      | (with_reducible exact tollhouseref02_Lower.mono _ _)
      | (with_reducible exact tollhouseref15_May.mono _ _)
      | (with_reducible exact LeO.refl _)
      | (with_reducible exact LeO.none _)
      | (with_reducible refine LeO.ite ?_ ?_)
      | (with_reducible refine LeO.bind ?_ (fun _ => ?_))
      | exact ih0 _ _
      | exact ih1 _ _
      | exact tollhouseref02_Lower.mono _ _
      | exact tollhouseref15_May.mono _ _
      | exact LeO.none _
      | refine LeO.ite ?_ ?_
      | refine LeO.bind ?_ (fun _ => ?_)
set_option maxHeartbeats 8000000 in
set_option maxRecDepth 100000 in
theorem tollhouseref15_Credential.calls (k : Nat) (a0 : ByteArray) (r1 : ByteArray) (r2 : Bool) (w : World) (HGg : Glob w) (h : tollhouseref15_Credential.f k a0 = some (r1, r2)) :
    Calls Tryz.prog 17 #[.string a0] w fun e w' => e = .returned (.tuple #[.string r1, .bool r2]) ∧ Below w.heap.size w w' := by
  have HGl := Aside0.mk HGg
  clear HGg
  have HB := Aside0.mk (Below.refl w.heap.size w)
  have H : (if (a0.size : Int) < 8 then (tollhouseref15_Credential.j0 k a0 true) else (if 0 ≤ 6 then (if 6 ≤ (a0.size : Int) then ((tollhouseref02_Lower.f k (a0.extract 0 6)).bind fun t237 => (if t237.toList = ([98, 101, 97, 114, 101, 114] : List UInt8) then (if 6 < (a0.size : Int) then (tollhouseref15_Credential.j0 k a0 ((bt a0 6) != 32)) else (none)) else (tollhouseref15_Credential.j0 k a0 true))) else (none)) else (none))) = some (r1, r2) := h
  clear h
  have HC2 := Aside0.mk H
  clear H
  go_enter Tryz.func17, Tryz.ntmps17
  go_upto_region 1 with (fail)
  go_cut [18] (fun v18 wc => ∃ (kq : Nat) (x18_1 : Bool), v18 = .bool x18_1 ∧ Aside0 (tollhouseref15_Credential.j0 kq a0 x18_1 = some (r1, r2)) ∧ Aside0 (kq ≤ k) ∧ Aside0 (Below w.heap.size w wc))
  case first =>
    have H := HC2.out
    clear HC2
    by_cases c3 : (a0.size : Int) < 8
    · rw [if_pos c3] at H
      have c3b0 : decide ((a0.size : Int) < 8) = true := decide_eq_true c3
      have c3b1 : decide (a0.size < 8) = true := decide_eq_true (by omega)
      clear c3
      (first | rw [c3b0] | (simp only [i64_w, i32_w]; rw [c3b0]) | skip)
      have H' := Aside0.mk H
      clear H
      go_wp2
      go_meet
      case rel => exact ⟨_, (true), (by first | rfl | (simp; done) | (simp [*]; done)), H', ⟨by first | omega | exact Nat.le_refl _⟩, ⟨by repeat (first | (with_reducible first | exact HB.out | apply below_alloc | apply pw_below_drewN | apply below_drew1) | exact HB.out)⟩⟩
    · rw [if_neg c3] at H
      have c3b0 : decide ((a0.size : Int) < 8) = false := decide_eq_false c3
      have c3b1 : decide (a0.size < 8) = false := decide_eq_false (by omega)
      clear c3
      (first | rw [c3b0] | (simp only [i64_w, i32_w]; rw [c3b0]) | skip)
      by_cases c4 : 0 ≤ 6
      · rw [if_pos c4] at H
        have c4b0 := eq_true c4
        have c4b1 : decide (0 ≤ 6) = true := decide_eq_true c4
        clear c4
        by_cases c5 : 6 ≤ (a0.size : Int)
        · rw [if_pos c5] at H
          have c5b0 := eq_true c5
          have c5b1 : decide (6 ≤ (a0.size : Int)) = true := decide_eq_true c5
          clear c5
          replace H := Option.bind_eq_some_iff.mp H
          obtain ⟨t237, A60, H⟩ := H
          replace H : (if t237.toList = ([98, 101, 97, 114, 101, 114] : List UInt8) then (if 6 < (a0.size : Int) then (tollhouseref15_Credential.j0 k a0 ((bt a0 6) != 32)) else (none)) else (tollhouseref15_Credential.j0 k a0 true)) = some (r1, r2) := H
          have A6 := Aside0.mk A60
          clear A60
          by_cases c7 : t237.toList = ([98, 101, 97, 114, 101, 114] : List UInt8)
          · rw [if_pos c7] at H
            have c7b0 : (t237.toList == ([98, 101, 97, 114, 101, 114] : List UInt8)) = true := beq_iff_eq.mpr c7
            have c7b1 : (t237.toList != ([98, 101, 97, 114, 101, 114] : List UInt8)) = false := bne_eq_false_iff_eq.mpr c7
            clear c7
            by_cases c8 : 6 < (a0.size : Int)
            · rw [if_pos c8] at H
              have c8b0 : decide (6 < (a0.size : Int)) = true := decide_eq_true c8
              have c8b1 : decide (6 < a0.size) = true := decide_eq_true (by omega)
              clear c8
              have H' := Aside0.mk H
              clear H
              go_wp2_with (first | (go_at_call 33; (with_reducible refine (tollhouseref02_Lower.calls k (a0.extract 0 6) t237 _ (Glob.below HGl.out (by repeat (first | (with_reducible first | exact HB.out | apply below_alloc | apply pw_below_drewN | apply below_drew1) | exact HB.out))) A6.out).mono ?_); rintro e w10 ⟨rfl, hb⟩; have n0_ := Aside0.mk (below_step (by repeat (first | (with_reducible first | exact HB.out | apply below_alloc | apply pw_below_drewN | apply below_drew1) | exact HB.out)) hb); clear HB; have HB := n0_; clear n0_; (try clear hb); (try clear hb2); (try clear hk); (try clear hi); have p9 : 0 ≤ (6 : Int) := (by omega); have q9 : 6 < a0.size := (by have : (6 : Int) < (a0.size : Int) := of_decide_eq_true (by first | (with_reducible assumption) | assumption); omega); have hx9 : ∀ h : 6 < a0.size, ((a0[6]'h).toNat : Int) = bt a0 6 := bt_at a0 6; clear p9; have qi9 : (6 < (a0.size : Int)) = True := eq_true (of_decide_eq_true (by first | (with_reducible assumption) | assumption)); replace q9 := eq_true q9))
              go_meet
              case rel => exact ⟨_, (((bt a0 6) != 32)), (by first | rfl | (simp; done) | (simp [*]; done)), H', ⟨by first | omega | exact Nat.le_refl _⟩, ⟨by repeat (first | (with_reducible first | exact HB.out | apply below_alloc | apply pw_below_drewN | apply below_drew1) | exact HB.out)⟩⟩
            · rw [if_neg c8] at H
              exact absurd H (by simp)
          · rw [if_neg c7] at H
            have c7b0 : (t237.toList == ([98, 101, 97, 114, 101, 114] : List UInt8)) = false := beq_eq_false_iff_ne.mpr c7
            have c7b1 : (t237.toList != ([98, 101, 97, 114, 101, 114] : List UInt8)) = true := bne_iff_ne.mpr c7
            have H' := Aside0.mk H
            clear H
            go_wp2_with (first | (go_at_call 33; (with_reducible refine (tollhouseref02_Lower.calls k (a0.extract 0 6) t237 _ (Glob.below HGl.out (by repeat (first | (with_reducible first | exact HB.out | apply below_alloc | apply pw_below_drewN | apply below_drew1) | exact HB.out))) A6.out).mono ?_); rintro e w11 ⟨rfl, hb⟩; have n0_ := Aside0.mk (below_step (by repeat (first | (with_reducible first | exact HB.out | apply below_alloc | apply pw_below_drewN | apply below_drew1) | exact HB.out)) hb); clear HB; have HB := n0_; clear n0_; (try clear hb); (try clear hb2); (try clear hk); (try clear hi)))
            go_meet
            case rel => exact ⟨_, (true), (by first | rfl | (simp; done) | (simp [*]; done)), H', ⟨by first | omega | exact Nat.le_refl _⟩, ⟨by repeat (first | (with_reducible first | exact HB.out | apply below_alloc | apply pw_below_drewN | apply below_drew1) | exact HB.out)⟩⟩
        · rw [if_neg c5] at H
          exact absurd H (by simp)
      · rw [if_neg c4] at H
        exact absurd H (by simp)
  case rest =>
    clear HC2
    try clear c1
    try clear p2
    try clear c3
    try clear c3b0
    try clear c3b1
    try clear c4
    try clear c4b0
    try clear c4b1
    try clear c5
    try clear c5b0
    try clear c5b1
    try clear c7
    try clear c7b0
    try clear c7b1
    try clear c8
    try clear c8b0
    try clear c8b1
    try clear p9
    try clear q9
    try clear hx9
    try clear qi9
    try clear p9
    try clear q9
    obtain ⟨kq, x18_1, rfl, HA, HJ1, HB⟩ := hcut
    cases kq with
    | zero => exact absurd HA.out (by simp [tollhouseref15_Credential.j0])
    | succ kj1 =>
      have H := HA.out
      clear HA
      simp only [tollhouseref15_Credential.j0] at H
      by_cases c12 : x18_1 = true
      · subst c12
        have H1 : (some ((⟨#[]⟩ : ByteArray), false)) = some (r1, r2) := by rw [if_pos rfl] at H; exact H
        clear H
        have H := H1
        clear H1
        simp only [Option.some.injEq, Prod.mk.injEq] at H
        obtain ⟨rfl, rfl⟩ := H
        go_wp2
        go_ret2
        exact ⟨by first | rfl | (simp [errW_none, errW_some] <;> rfl) | (simp [*, errW_none, errW_some] <;> rfl), by repeat (first | (with_reducible first | exact HB.out | apply below_alloc | apply pw_below_drewN | apply below_drew1) | exact HB.out)⟩
      · replace c12 := Bool.eq_false_iff.mpr c12
        subst c12
        have H1 : (tollhouseref15_Credential.l0 kj1 a0 6) = some (r1, r2) := by rw [if_neg (show ¬ (false = true) by decide)] at H; exact H
        clear H
        have H := H1
        clear H1
        have H' := Aside0.mk H
        clear H
        go_wp2
        go_loopg [4] kj1 (fun kq v4 w' => ∃ (x4_2 : Int), v4 = .int .i64 x4_2 ∧ Aside0 (tollhouseref15_Credential.l0 kq a0 x4_2 = some (r1, r2)) ∧ Aside0 (kq ≤ kj1) ∧ Aside0 (Below w.heap.size w w'))
        case atStart => exact ⟨(6), (by first | rfl | (simp; done) | (simp [*]; done)), H', ⟨Nat.le_refl _⟩, ⟨by repeat (first | (with_reducible first | exact HB.out | apply below_alloc | apply pw_below_drewN | apply below_drew1) | exact HB.out)⟩⟩
        case round =>
          clear H'
          try clear c1
          try clear p2
          try clear c3
          try clear c3b0
          try clear c3b1
          try clear c4
          try clear c4b0
          try clear c4b1
          try clear c5
          try clear c5b0
          try clear c5b1
          try clear c7
          try clear c7b0
          try clear c7b1
          try clear c8
          try clear c8b0
          try clear c8b1
          try clear p9
          try clear q9
          try clear hx9
          try clear qi9
          try clear c12
          try clear p2
          try clear p9
          try clear q9
          obtain ⟨x4_2, rfl, HA, HK2, HB⟩ := hrel
          cases gk with
          | zero => exact absurd HA.out (by simp [tollhouseref15_Credential.l0])
          | succ k2 =>
            have H := HA.out
            clear HA
            simp only [tollhouseref15_Credential.l0] at H
            by_cases c13 : x4_2 < (a0.size : Int)
            · rw [if_pos c13] at H
              have c13b0 : decide (x4_2 < (a0.size : Int)) = true := decide_eq_true c13
              clear c13
              by_cases c14 : 0 ≤ x4_2
              · rw [if_pos c14] at H
                have c14b0 : decide (0 ≤ x4_2) = true := decide_eq_true c14
                clear c14
                by_cases c16 : (bt a0 x4_2) = 32
                · rw [if_pos c16] at H
                  have c16b0 : ((bt a0 x4_2) == 32) = true := beq_iff_eq.mpr c16
                  have c16b1 : ((bt a0 x4_2) != 32) = false := bne_eq_false_iff_eq.mpr c16
                  clear c16
                  have H' := Aside0.mk H
                  clear H
                  have p15 : 0 ≤ (x4_2 : Int) := of_decide_eq_true (by first | (with_reducible assumption) | assumption)
                  have q15 : x4_2 < (a0.size : Int) := of_decide_eq_true (by first | (with_reducible assumption) | assumption)
                  have hx15 := bt_at a0 x4_2
                  replace p15 := eq_true p15
                  replace q15 := eq_true q15
                  go_wp2
                  go_roundg k2
                  case measure => have := HJ1.out; have := HK2.out; omega
                  case rel => exact ⟨(wrap64 (x4_2 + 1)), (by first | rfl | (simp; done) | (simp [*]; done)), H', ⟨by have := HJ1.out; have := HK2.out; omega⟩, ⟨by repeat (first | (with_reducible first | exact HB.out | apply below_alloc | apply pw_below_drewN | apply below_drew1) | exact HB.out)⟩⟩
                · rw [if_neg c16] at H
                  have c16b0 : ((bt a0 x4_2) == 32) = false := beq_eq_false_iff_ne.mpr c16
                  have c16b1 : ((bt a0 x4_2) != 32) = true := bne_iff_ne.mpr c16
                  have c17b0 := eq_true (of_decide_eq_true (by first | (with_reducible assumption) | assumption) : 0 ≤ x4_2)
                  by_cases c18 : x4_2 ≤ (a0.size : Int)
                  · rw [if_pos c18] at H
                    have c18b0 := eq_true c18
                    have c18b1 : decide (x4_2 ≤ (a0.size : Int)) = true := decide_eq_true c18
                    clear c18
                    replace H := Option.bind_eq_some_iff.mp H
                    obtain ⟨t238, A190, H⟩ := H
                    replace H : (if t238 = true then (some (a0.extract (x4_2 : Int).toNat a0.size, true)) else (some ((⟨#[]⟩ : ByteArray), false))) = some (r1, r2) := H
                    have A19 := Aside0.mk A190
                    clear A190
                    by_cases c20 : t238 = true
                    · subst c20
                      have H1 : (some (a0.extract (x4_2 : Int).toNat a0.size, true)) = some (r1, r2) := by rw [if_pos rfl] at H; exact H
                      clear H
                      have H := H1
                      clear H1
                      have c21b0 := eq_true (of_decide_eq_true (by first | (with_reducible assumption) | assumption) : 0 ≤ x4_2)
                      have c22b0 := eq_true (of_decide_eq_true (by first | (with_reducible assumption) | assumption) : x4_2 ≤ (a0.size : Int))
                      simp only [Option.some.injEq, Prod.mk.injEq] at H
                      obtain ⟨rfl, rfl⟩ := H
                      have p15 : 0 ≤ (x4_2 : Int) := of_decide_eq_true (by first | (with_reducible assumption) | assumption)
                      have q15 : x4_2 < (a0.size : Int) := of_decide_eq_true (by first | (with_reducible assumption) | assumption)
                      have hx15 := bt_at a0 x4_2
                      replace p15 := eq_true p15
                      replace q15 := eq_true q15
                      go_wp2_with (first | ((with_reducible refine gate_callee (f := 14) rfl ?_); refine goesL_ (some 34) rfl rfl Tryz.func14 (by kernel_rfl) rfl #[.string (a0.extract (x4_2 : Int).toNat a0.size)] rfl (by (try simp only [List.map_toArray, List.map_cons, List.map_nil]); first | done | rfl | (simp only [List.length_drop, List.length_take]; rfl)) ?_; (with_reducible refine (tollhouseref15_May.calls k2 (a0.extract (x4_2 : Int).toNat a0.size) true _ (Glob.below HGl.out (by repeat (first | (with_reducible first | exact HB.out | apply below_alloc | apply pw_below_drewN | apply below_drew1) | exact HB.out))) A19.out).mono ?_); rintro e w' ⟨rfl, ⟨nd, rfl⟩⟩; refine ⟨_, rfl, ?_⟩))
                      go_ret2
                      exact ⟨by first | rfl | (simp [errW_none, errW_some] <;> rfl) | (simp [*, errW_none, errW_some] <;> rfl), by repeat (first | (with_reducible first | exact HB.out | apply below_alloc | apply pw_below_drewN | apply below_drew1) | exact HB.out)⟩
                    · replace c20 := Bool.eq_false_iff.mpr c20
                      subst c20
                      have H1 : (some ((⟨#[]⟩ : ByteArray), false)) = some (r1, r2) := by rw [if_neg (show ¬ (false = true) by decide)] at H; exact H
                      clear H
                      have H := H1
                      clear H1
                      simp only [Option.some.injEq, Prod.mk.injEq] at H
                      obtain ⟨rfl, rfl⟩ := H
                      have p15 : 0 ≤ (x4_2 : Int) := of_decide_eq_true (by first | (with_reducible assumption) | assumption)
                      have q15 : x4_2 < (a0.size : Int) := of_decide_eq_true (by first | (with_reducible assumption) | assumption)
                      have hx15 := bt_at a0 x4_2
                      replace p15 := eq_true p15
                      replace q15 := eq_true q15
                      go_wp2_with (first | ((with_reducible refine gate_callee (f := 14) rfl ?_); refine goesL_ (some 34) rfl rfl Tryz.func14 (by kernel_rfl) rfl #[.string (a0.extract (x4_2 : Int).toNat a0.size)] rfl (by (try simp only [List.map_toArray, List.map_cons, List.map_nil]); first | done | rfl | (simp only [List.length_drop, List.length_take]; rfl)) ?_; (with_reducible refine (tollhouseref15_May.calls k2 (a0.extract (x4_2 : Int).toNat a0.size) false _ (Glob.below HGl.out (by repeat (first | (with_reducible first | exact HB.out | apply below_alloc | apply pw_below_drewN | apply below_drew1) | exact HB.out))) A19.out).mono ?_); rintro e w' ⟨rfl, ⟨nd, rfl⟩⟩; refine ⟨_, rfl, ?_⟩))
                      go_ret2
                      exact ⟨by first | rfl | (simp [errW_none, errW_some] <;> rfl) | (simp [*, errW_none, errW_some] <;> rfl), by repeat (first | (with_reducible first | exact HB.out | apply below_alloc | apply pw_below_drewN | apply below_drew1) | exact HB.out)⟩
                  · rw [if_neg c18] at H
                    exact absurd H (by simp)
              · rw [if_neg c14] at H
                exact absurd H (by simp)
            · rw [if_neg c13] at H
              have c13b0 : decide (x4_2 < (a0.size : Int)) = false := decide_eq_false c13
              clear c13
              by_cases c23 : 0 ≤ x4_2
              · rw [if_pos c23] at H
                have c23b0 := eq_true c23
                have c23b1 : decide (0 ≤ x4_2) = true := decide_eq_true c23
                clear c23
                by_cases c24 : x4_2 ≤ (a0.size : Int)
                · rw [if_pos c24] at H
                  have c24b0 := eq_true c24
                  have c24b1 : decide (x4_2 ≤ (a0.size : Int)) = true := decide_eq_true c24
                  clear c24
                  replace H := Option.bind_eq_some_iff.mp H
                  obtain ⟨t239, A250, H⟩ := H
                  replace H : (if t239 = true then (some (a0.extract (x4_2 : Int).toNat a0.size, true)) else (some ((⟨#[]⟩ : ByteArray), false))) = some (r1, r2) := H
                  have A25 := Aside0.mk A250
                  clear A250
                  by_cases c26 : t239 = true
                  · subst c26
                    have H1 : (some (a0.extract (x4_2 : Int).toNat a0.size, true)) = some (r1, r2) := by rw [if_pos rfl] at H; exact H
                    clear H
                    have H := H1
                    clear H1
                    have c27b0 := eq_true (of_decide_eq_true (by first | (with_reducible assumption) | assumption) : 0 ≤ x4_2)
                    have c28b0 := eq_true (of_decide_eq_true (by first | (with_reducible assumption) | assumption) : x4_2 ≤ (a0.size : Int))
                    simp only [Option.some.injEq, Prod.mk.injEq] at H
                    obtain ⟨rfl, rfl⟩ := H
                    go_wp2_with (first | ((with_reducible refine gate_callee (f := 14) rfl ?_); refine goesL_ (some 34) rfl rfl Tryz.func14 (by kernel_rfl) rfl #[.string (a0.extract (x4_2 : Int).toNat a0.size)] rfl (by (try simp only [List.map_toArray, List.map_cons, List.map_nil]); first | done | rfl | (simp only [List.length_drop, List.length_take]; rfl)) ?_; (with_reducible refine (tollhouseref15_May.calls k2 (a0.extract (x4_2 : Int).toNat a0.size) true _ (Glob.below HGl.out (by repeat (first | (with_reducible first | exact HB.out | apply below_alloc | apply pw_below_drewN | apply below_drew1) | exact HB.out))) A25.out).mono ?_); rintro e w' ⟨rfl, ⟨nd, rfl⟩⟩; refine ⟨_, rfl, ?_⟩))
                    go_ret2
                    exact ⟨by first | rfl | (simp [errW_none, errW_some] <;> rfl) | (simp [*, errW_none, errW_some] <;> rfl), by repeat (first | (with_reducible first | exact HB.out | apply below_alloc | apply pw_below_drewN | apply below_drew1) | exact HB.out)⟩
                  · replace c26 := Bool.eq_false_iff.mpr c26
                    subst c26
                    have H1 : (some ((⟨#[]⟩ : ByteArray), false)) = some (r1, r2) := by rw [if_neg (show ¬ (false = true) by decide)] at H; exact H
                    clear H
                    have H := H1
                    clear H1
                    simp only [Option.some.injEq, Prod.mk.injEq] at H
                    obtain ⟨rfl, rfl⟩ := H
                    go_wp2_with (first | ((with_reducible refine gate_callee (f := 14) rfl ?_); refine goesL_ (some 34) rfl rfl Tryz.func14 (by kernel_rfl) rfl #[.string (a0.extract (x4_2 : Int).toNat a0.size)] rfl (by (try simp only [List.map_toArray, List.map_cons, List.map_nil]); first | done | rfl | (simp only [List.length_drop, List.length_take]; rfl)) ?_; (with_reducible refine (tollhouseref15_May.calls k2 (a0.extract (x4_2 : Int).toNat a0.size) false _ (Glob.below HGl.out (by repeat (first | (with_reducible first | exact HB.out | apply below_alloc | apply pw_below_drewN | apply below_drew1) | exact HB.out))) A25.out).mono ?_); rintro e w' ⟨rfl, ⟨nd, rfl⟩⟩; refine ⟨_, rfl, ?_⟩))
                    go_ret2
                    exact ⟨by first | rfl | (simp [errW_none, errW_some] <;> rfl) | (simp [*, errW_none, errW_some] <;> rfl), by repeat (first | (with_reducible first | exact HB.out | apply below_alloc | apply pw_below_drewN | apply below_drew1) | exact HB.out)⟩
                · rw [if_neg c24] at H
                  exact absurd H (by simp)
              · rw [if_neg c23] at H
                exact absurd H (by simp)

end Go.Proofs.YthmnhbalmglohaaGreatDoor.X

-- PRINTED by print.py (a twelfth state) out of the translation. Not trusted: Lean checks it.
namespace Go.Proofs.YthmnhbalmglohaaGreatDoor.X
open Go.RowKit Go.Proofs.YthmnhbalmglohaaGreatDoorW.PrintWords Go.Proofs.YthmnhbalmglohaaGreatDoorW.PrintLast Go.Proofs.YthmnhbalmglohaaGreatDoorW.PrintMore
attribute [local go_sem] max2_int min2_int max_two min_two max_three min_three max_four min_four   -- for this text's walks alone
set_option linter.unusedVariables false
set_option linter.unusedSimpArgs false
open Go.Proofs.YthmnhbalmglohaaGreatDoor.T

/-! ### tollhouseref02_Same: function 56 -/
def tollhouseref02_Same.f (k : Nat) (a0 : ByteArray) (a1 : ByteArray) : Option (Bool) := (tollhouseref02_Lower.f k a0).bind fun t240 => ((tollhouseref02_Lower.f k a1).bind fun t241 => (some (t240.toList == t241.toList)))
theorem tollhouseref02_Same.mono : ∀ a0 a1 k, LeO (tollhouseref02_Same.f k a0 a1) (tollhouseref02_Same.f (k + 1) a0 a1) := by
  intro a0 a1 k
  unfold tollhouseref02_Same.f
  repeat' first
      | (with_reducible exact tollhouseref02_Lower.mono _ _)
      | (with_reducible exact LeO.refl _)
      | (with_reducible exact LeO.none _)
      | (with_reducible refine LeO.ite ?_ ?_)
      | (with_reducible refine LeO.bind ?_ (fun _ => ?_))
      | exact tollhouseref02_Lower.mono _ _
      | exact LeO.none _
      | refine LeO.ite ?_ ?_
      | refine LeO.bind ?_ (fun _ => ?_)
set_option maxHeartbeats 8000000 in
set_option maxRecDepth 100000 in
theorem tollhouseref02_Same.calls (k : Nat) (a0 : ByteArray) (a1 : ByteArray) (r : Bool) (w : World) (HGg : Glob w) (h : tollhouseref02_Same.f k a0 a1 = some r) :
    Calls Tryz.prog 56 #[.string a0, .string a1] w fun e w' => e = .returned (.bool r) ∧ Below w.heap.size w w' := by
  have HGl := Aside0.mk HGg
  clear HGg
  have HB := Aside0.mk (Below.refl w.heap.size w)
  have H : ((tollhouseref02_Lower.f k a0).bind fun t240 => ((tollhouseref02_Lower.f k a1).bind fun t241 => (some (t240.toList == t241.toList)))) = some r := h
  clear h
  replace H := Option.bind_eq_some_iff.mp H
  obtain ⟨t240, A30, H⟩ := H
  replace H : ((tollhouseref02_Lower.f k a1).bind fun t241 => (some (t240.toList == t241.toList))) = some r := H
  have A3 := Aside0.mk A30
  clear A30
  replace H := Option.bind_eq_some_iff.mp H
  obtain ⟨t241, A40, H⟩ := H
  replace H : (some (t240.toList == t241.toList)) = some r := H
  have A4 := Aside0.mk A40
  clear A40
  obtain rfl := Option.some.inj H
  go_enter Tryz.func56, Tryz.ntmps56
  go_wp2_with (first | ((with_reducible refine gate_callee (f := 33) rfl ?_); refine goesL_ (some 6) rfl rfl Tryz.func33 (by kernel_rfl) rfl #[.string a0] rfl (by (try simp only [List.map_toArray, List.map_cons, List.map_nil]); first | done | rfl | (simp only [List.length_drop, List.length_take]; rfl)) ?_; (with_reducible refine (tollhouseref02_Lower.calls k a0 t240 _ (Glob.below HGl.out (by repeat (first | (with_reducible first | exact HB.out | apply below_alloc | apply pw_below_drewN | apply below_drew1) | exact HB.out))) A3.out).mono ?_); rintro e w5 ⟨rfl, hb⟩; refine ⟨_, rfl, ?_⟩; have n0_ := Aside0.mk (below_step (by repeat (first | (with_reducible first | exact HB.out | apply below_alloc | apply pw_below_drewN | apply below_drew1) | exact HB.out)) hb); clear HB; have HB := n0_; clear n0_; (try clear hb); (try clear hb2); (try clear hk); (try clear hi)) | ((with_reducible refine gate_callee (f := 33) rfl ?_); refine goesL_ (some 8) rfl rfl Tryz.func33 (by kernel_rfl) rfl #[.string a1] rfl (by (try simp only [List.map_toArray, List.map_cons, List.map_nil]); first | done | rfl | (simp only [List.length_drop, List.length_take]; rfl)) ?_; (with_reducible refine (tollhouseref02_Lower.calls k a1 t241 _ (Glob.below HGl.out (by repeat (first | (with_reducible first | exact HB.out | apply below_alloc | apply pw_below_drewN | apply below_drew1) | exact HB.out))) A4.out).mono ?_); rintro e w6 ⟨rfl, hb⟩; refine ⟨_, rfl, ?_⟩; have n0_ := Aside0.mk (below_step (by repeat (first | (with_reducible first | exact HB.out | apply below_alloc | apply pw_below_drewN | apply below_drew1) | exact HB.out)) hb); clear HB; have HB := n0_; clear n0_; (try clear hb); (try clear hb2); (try clear hk); (try clear hi)))
  go_ret
  exact ⟨by first | rfl | (simp [errW_none, errW_some] <;> rfl) | (simp [*, errW_none, errW_some] <;> rfl), by repeat (first | (with_reducible first | exact HB.out | apply below_alloc | apply pw_below_drewN | apply below_drew1) | exact HB.out)⟩

end Go.Proofs.YthmnhbalmglohaaGreatDoor.X

-- PRINTED by print.py (a twelfth state) out of the translation. Not trusted: Lean checks it.
namespace Go.Proofs.YthmnhbalmglohaaGreatDoor.X
open Go.RowKit Go.Proofs.YthmnhbalmglohaaGreatDoorW.PrintWords Go.Proofs.YthmnhbalmglohaaGreatDoorW.PrintLast Go.Proofs.YthmnhbalmglohaaGreatDoorW.PrintMore
attribute [local go_sem] max2_int min2_int max_two min_two max_three min_three max_four min_four   -- for this text's walks alone
set_option linter.unusedVariables false
set_option linter.unusedSimpArgs false
open Go.Proofs.YthmnhbalmglohaaGreatDoor.T

/-! ### tollhouseref05_Get: function 35 -/
def tollhouseref05_Get.l0 : Nat → List (S48) → ByteArray → List ByteArray → Int → Option (List ByteArray)
  | 0, _, _, _, _ => none
  | k + 1, x0, x1, x5, x6 => if x6 < (x0.length : Int) then (if 0 ≤ x6 then ((tollhouseref02_Same.f k ((rd_T48 x0 x6).f0) x1).bind fun t243 => (if t243 = true then (if x5.length < 8796093022208 then (tollhouseref05_Get.l0 k x0 x1 (x5 ++ [(rd_T48 x0 x6).f1]) (wrap64 (x6 + 1))) else (none)) else (tollhouseref05_Get.l0 k x0 x1 x5 (wrap64 (x6 + 1))))) else (none)) else (some x5)
def tollhouseref05_Get.f (k : Nat) (l0 : List (S48)) (a1 : ByteArray) : Option (List ByteArray) := tollhouseref05_Get.l0 k l0 a1 ([] : List ByteArray) 0
theorem tollhouseref05_Get.mono_l : ∀ k, (∀ y0 y1 y2 y3, LeO (tollhouseref05_Get.l0 k y0 y1 y2 y3) (tollhouseref05_Get.l0 (k + 1) y0 y1 y2 y3))
  | 0 => fun _ _ _ _ r h => by simp [tollhouseref05_Get.l0] at h
  | k + 1 => by
    have ih0 := tollhouseref05_Get.mono_l k
    · intro y0 y1 y2 y3
      unfold tollhouseref05_Get.l0
      repeat' first
      | (with_reducible exact ih0 _ _ _ _)
      | (with_reducible exact tollhouseref02_Same.mono _ _ _)
      | (with_reducible exact LeO.refl _)
      | (with_reducible exact LeO.none _)
      | (with_reducible refine LeO.ite ?_ ?_)
      | (with_reducible refine LeO.bind ?_ (fun _ => ?_))
      | exact ih0 _ _ _ _
      | exact tollhouseref02_Same.mono _ _ _
      | exact LeO.none _
      | refine LeO.ite ?_ ?_
      | refine LeO.bind ?_ (fun _ => ?_)
theorem tollhouseref05_Get.mono : ∀ a0 a1 k, LeO (tollhouseref05_Get.f k a0 a1) (tollhouseref05_Get.f (k + 1) a0 a1) := by
  intro a0 a1 k
  have ih0 := tollhouseref05_Get.mono_l k
  unfold tollhouseref05_Get.f
  repeat' first
      | (with_reducible exact ih0 _ _ _ _)
      | (with_reducible exact tollhouseref02_Same.mono _ _ _)
      | (with_reducible exact LeO.refl _)
      | (with_reducible exact LeO.none _)
      | (with_reducible refine LeO.ite ?_ ?_)
      | (with_reducible refine LeO.bind ?_ (fun _ => ?_))
      | exact ih0 _ _ _ _
      | exact tollhouseref02_Same.mono _ _ _
      | exact LeO.none _
      | refine LeO.ite ?_ ?_
      | refine LeO.bind ?_ (fun _ => ?_)
set_option maxHeartbeats 8000000 in
set_option maxRecDepth 100000 in
theorem tollhouseref05_Get.calls (k : Nat) (A0 : Option Addr) (c0 : Nat) (l0 : List (S48)) (a1 : ByteArray) (r : List ByteArray) (w : World) (hr0 : Kd.C k48 w A0 l0.length l0) (hc0 : l0.length ≤ c0) (HGg : Glob w) (h : tollhouseref05_Get.f k l0 a1 = some r) :
    Calls Tryz.prog 35 #[.slice A0 l0.length c0, .string a1] w fun e w' => ∃ v0_ : Value, e = .returned (v0_) ∧ Kd.R Kd.string 9 w' w.heap.size (fun _ => True) v0_ r ∧ Below w.heap.size w w' := by
  have HGl := Aside0.mk HGg
  clear HGg
  have HR0 := Aside0.mk hr0
  have HC0 := Aside0.mk hc0
  clear hr0 hc0
  have HB := Aside0.mk (Below.refl w.heap.size w)
  have H : (tollhouseref05_Get.l0 k l0 a1 ([] : List ByteArray) 0) = some r := h
  clear h
  have H' := Aside0.mk H
  clear H
  go_enter Tryz.func35, Tryz.ntmps35
  go_wp2
  go_loopg [5, 6] k (fun kq v5 v6 w' => ∃ (x5_1 : List ByteArray) (x6_1 : Int), v6 = .int .i64 x6_1 ∧ Aside0 (tollhouseref05_Get.l0 kq l0 a1 x5_1 x6_1 = some r) ∧ Aside0 (kq ≤ k) ∧ Aside0 (Kd.R Kd.string 9 w' w.heap.size (fun _ => True) v5 x5_1) ∧ Aside0 (Below w.heap.size w w'))
  case atStart => exact ⟨(([] : List ByteArray)), (0), (by first | rfl | (simp; done) | (simp [*]; done)), H', ⟨Nat.le_refl _⟩, ⟨by first | exact Kd.R_nil _ _ _ _ _ | exact Kd.N_nil _ _ _ _ _ | exact Kd.V_nil _ _ _ _ _ | exact Kd.Q_nil _ _ _ _ _ | exact Kd.S_nil _ _ _ _ _⟩, ⟨by repeat (first | (with_reducible first | exact HB.out | apply below_alloc | apply pw_below_drewN | apply below_drew1) | exact HB.out)⟩⟩
  case round =>
    clear H'
    try clear p2
    obtain ⟨x5_1, x6_1, rfl, HA, HK1, HO_5, HB⟩ := hrel
    cases gk with
    | zero => exact absurd HA.out (by simp [tollhouseref05_Get.l0])
    | succ k1 =>
      have H := HA.out
      clear HA
      simp only [tollhouseref05_Get.l0] at H
      by_cases c3 : x6_1 < (l0.length : Int)
      · rw [if_pos c3] at H
        have c3b0 : decide (x6_1 < (l0.length : Int)) = true := decide_eq_true c3
        clear c3
        by_cases c4 : 0 ≤ x6_1
        · rw [if_pos c4] at H
          have c4b0 : decide (0 ≤ x6_1) = true := decide_eq_true c4
          clear c4
          replace H := Option.bind_eq_some_iff.mp H
          obtain ⟨t243, A50, H⟩ := H
          replace H : (if t243 = true then (if x5_1.length < 8796093022208 then (tollhouseref05_Get.l0 k1 l0 a1 (x5_1 ++ [(rd_T48 l0 x6_1).f1]) (wrap64 (x6_1 + 1))) else (none)) else (tollhouseref05_Get.l0 k1 l0 a1 x5_1 (wrap64 (x6_1 + 1)))) = some r := H
          have A5 := Aside0.mk A50
          clear A50
          by_cases c6 : t243 = true
          · subst c6
            have H1 : (if x5_1.length < 8796093022208 then (tollhouseref05_Get.l0 k1 l0 a1 (x5_1 ++ [(rd_T48 l0 x6_1).f1]) (wrap64 (x6_1 + 1))) else (none)) = some r := by rw [if_pos rfl] at H; exact H
            clear H
            have H := H1
            clear H1
            by_cases c7 : x5_1.length < 8796093022208
            · rw [if_pos c7] at H
              have LMc7 := Aside0.mk c7
              clear c7
              obtain ⟨y245, hy245⟩ : ∃ y_ : List ByteArray, y_ = (x5_1 ++ [(rd_T48 l0 x6_1).f1]) := ⟨_, rfl⟩
              replace H : (tollhouseref05_Get.l0 k1 l0 a1 y245 (wrap64 (x6_1 + 1))) = some r := by first | (rw [hy245]; with_reducible exact H) | (have H2_ := (Option.bind_some _ _).symm.trans H; rw [hy245]; with_reducible exact H2_) | (have H2_ := (Option.bind_some _ _).symm.trans H; with_reducible exact H2_) | with_reducible exact H | (rw [hy245]; exact H) | exact H
              have Ny245 := Aside0.mk hy245
              clear hy245
              have H' := Aside0.mk H
              clear H
              have p242 : 0 ≤ (x6_1 : Int) := of_decide_eq_true (by first | (with_reducible assumption) | assumption)
              have q242 : x6_1 < (l0.length : Int) := of_decide_eq_true (by first | (with_reducible assumption) | assumption)
              obtain ⟨ad242, e242, hx242_0, hx242_1⟩ := at_T48 HR0.out x6_1 p242 q242
              cases e242
              replace hx242_0 := (HB.out.cell (World.block_lt_of_cell? w _ hx242_0)).trans hx242_0
              replace hx242_1 := (HB.out.cell (World.block_lt_of_cell? w _ hx242_1)).trans hx242_1
              replace p242 := eq_true p242
              replace q242 := eq_true q242
              go_wp2_with (first | ((with_reducible refine gate_callee (f := 56) rfl ?_); refine goesL_ (some 19) rfl rfl Tryz.func56 (by kernel_rfl) rfl #[.string ((rd_T48 l0 x6_1).f0), .string a1] rfl (by (try simp only [List.map_toArray, List.map_cons, List.map_nil]); first | done | rfl | (simp only [List.length_drop, List.length_take]; rfl)) ?_; (with_reducible refine (tollhouseref02_Same.calls k1 ((rd_T48 l0 x6_1).f0) a1 true _ (Glob.below HGl.out (by repeat (first | (with_reducible first | exact HB.out | apply below_alloc | apply pw_below_drewN | apply below_drew1) | exact HB.out))) A5.out).mono ?_); rintro e w8 ⟨rfl, hb⟩; refine ⟨_, rfl, ?_⟩; have n0_ := Aside0.mk (Kd.R_below (by (with_reducible repeat (first | apply Kd.R_alloc | apply Kd.R_drewN | apply Kd.R_drew)); exact HO_5.out) hb); have n1_ := Aside0.mk (below_step (by repeat (first | (with_reducible first | exact HB.out | apply below_alloc | apply pw_below_drewN | apply below_drew1) | exact HB.out)) hb); clear HO_5; clear HB; have HO_5 := n0_; have HB := n1_; clear n0_ n1_; (try clear hb); (try clear hb2); (try clear hk); (try clear hi); have p244 : 0 ≤ (x6_1 : Int) := of_decide_eq_true (by first | (with_reducible assumption) | assumption); have q244 : x6_1 < (l0.length : Int) := of_decide_eq_true (by first | (with_reducible assumption) | assumption); obtain ⟨ad244, e244, hx244_0, hx244_1⟩ := at_T48 HR0.out x6_1 p244 q244; obtain rfl : ad242 = ad244 := (by injection e244); replace hx244_0 := (HB.out.cell (World.block_lt_of_cell? w _ hx244_0)).trans hx244_0; replace hx244_1 := (HB.out.cell (World.block_lt_of_cell? w _ hx244_1)).trans hx244_1; replace p244 := eq_true p244; replace q244 := eq_true q244) | ((with_reducible refine gate_builtin (b := .append) (xs := #[.tmp 20, .tmp 26]) rfl ?_); at_builtin; refine Kd.R_append Kd.string (w0 := w) w.heap.size rfl (.tmp 20) (.tmp 26) 44 9 (.string ⟨#[]⟩) 16 rfl Tryz.underlying44 info9 rfl (by decide) (by omega) u5 x5_1 ((rd_T48 l0 x6_1).f1) [.string ((rd_T48 l0 x6_1).f1)] (fun _ => True) (fun _ => False) rfl rfl ?aP (fun _ hk => hk.elim) ?aF ?aO ?aB ?aS ?aL ?_; (case aP => exact rfl); (case aB => exact (by repeat (first | (with_reducible first | exact HB.out | apply below_alloc | apply pw_below_drewN | apply below_drew1) | exact HB.out))); (case aF => exact (fun _ _ => trivial)); (case aO => exact (by (with_reducible repeat (first | apply Kd.R_alloc | apply Kd.R_drewN | apply Kd.R_drew)); exact HO_5.out)); (case aS => exact (below_size (by repeat (first | (with_reducible first | exact HB.out | apply below_alloc | apply pw_below_drewN | apply below_drew1) | exact HB.out)))); (case aL => have := LMc7.out; omega); intro v246 w9 ho hb hg hat; rw [← Ny245.out] at ho; have n0_ := Aside0.mk (hb); have n1_ := Aside0.mk (ho); clear HB; clear HO_5; have HB := n0_; have HO247 := n1_; clear n0_ n1_; clear ho hb hg hat))
              go_roundg k1
              case measure => have := HK1.out; omega
              case rel => exact ⟨(y245), (wrap64 (x6_1 + 1)), (by first | rfl | (simp; done) | (simp [*]; done)), H', ⟨by have := HK1.out; omega⟩, ⟨by (with_reducible repeat (first | apply Kd.R_alloc | apply Kd.R_drewN | apply Kd.R_drew)); exact HO247.out⟩, ⟨by repeat (first | (with_reducible first | exact HB.out | apply below_alloc | apply pw_below_drewN | apply below_drew1) | exact HB.out)⟩⟩
            · rw [if_neg c7] at H
              exact absurd H (by simp)
          · replace c6 := Bool.eq_false_iff.mpr c6
            subst c6
            have H1 : (tollhouseref05_Get.l0 k1 l0 a1 x5_1 (wrap64 (x6_1 + 1))) = some r := by rw [if_neg (show ¬ (false = true) by decide)] at H; exact H
            clear H
            have H := H1
            clear H1
            have H' := Aside0.mk H
            clear H
            have p242 : 0 ≤ (x6_1 : Int) := of_decide_eq_true (by first | (with_reducible assumption) | assumption)
            have q242 : x6_1 < (l0.length : Int) := of_decide_eq_true (by first | (with_reducible assumption) | assumption)
            obtain ⟨ad242, e242, hx242_0, hx242_1⟩ := at_T48 HR0.out x6_1 p242 q242
            cases e242
            replace hx242_0 := (HB.out.cell (World.block_lt_of_cell? w _ hx242_0)).trans hx242_0
            replace hx242_1 := (HB.out.cell (World.block_lt_of_cell? w _ hx242_1)).trans hx242_1
            replace p242 := eq_true p242
            replace q242 := eq_true q242
            go_wp2_with (first | ((with_reducible refine gate_callee (f := 56) rfl ?_); refine goesL_ (some 19) rfl rfl Tryz.func56 (by kernel_rfl) rfl #[.string ((rd_T48 l0 x6_1).f0), .string a1] rfl (by (try simp only [List.map_toArray, List.map_cons, List.map_nil]); first | done | rfl | (simp only [List.length_drop, List.length_take]; rfl)) ?_; (with_reducible refine (tollhouseref02_Same.calls k1 ((rd_T48 l0 x6_1).f0) a1 false _ (Glob.below HGl.out (by repeat (first | (with_reducible first | exact HB.out | apply below_alloc | apply pw_below_drewN | apply below_drew1) | exact HB.out))) A5.out).mono ?_); rintro e w10 ⟨rfl, hb⟩; refine ⟨_, rfl, ?_⟩; have n0_ := Aside0.mk (Kd.R_below (by (with_reducible repeat (first | apply Kd.R_alloc | apply Kd.R_drewN | apply Kd.R_drew)); exact HO_5.out) hb); have n1_ := Aside0.mk (below_step (by repeat (first | (with_reducible first | exact HB.out | apply below_alloc | apply pw_below_drewN | apply below_drew1) | exact HB.out)) hb); clear HO_5; clear HB; have HO_5 := n0_; have HB := n1_; clear n0_ n1_; (try clear hb); (try clear hb2); (try clear hk); (try clear hi)))
            go_roundg k1
            case measure => have := HK1.out; omega
            case rel => exact ⟨(x5_1), (wrap64 (x6_1 + 1)), (by first | rfl | (simp; done) | (simp [*]; done)), H', ⟨by have := HK1.out; omega⟩, ⟨by (with_reducible repeat (first | apply Kd.R_alloc | apply Kd.R_drewN | apply Kd.R_drew)); exact HO_5.out⟩, ⟨by repeat (first | (with_reducible first | exact HB.out | apply below_alloc | apply pw_below_drewN | apply below_drew1) | exact HB.out)⟩⟩
        · rw [if_neg c4] at H
          exact absurd H (by simp)
      · rw [if_neg c3] at H
        have c3b0 : decide (x6_1 < (l0.length : Int)) = false := decide_eq_false c3
        clear c3
        obtain rfl := Option.some.inj H
        go_wp2
        go_ret
        exact ⟨_, by first | rfl | (simp [errW_none, errW_some] <;> rfl) | (simp [*, errW_none, errW_some] <;> rfl), by (with_reducible repeat (first | apply Kd.R_alloc | apply Kd.R_drewN | apply Kd.R_drew)); exact HO_5.out, by repeat (first | (with_reducible first | exact HB.out | apply below_alloc | apply pw_below_drewN | apply below_drew1) | exact HB.out)⟩

end Go.Proofs.YthmnhbalmglohaaGreatDoor.X

-- PRINTED by print.py (a twelfth state) out of the translation. Not trusted: Lean checks it.
namespace Go.Proofs.YthmnhbalmglohaaGreatDoor.X
open Go.RowKit Go.Proofs.YthmnhbalmglohaaGreatDoorW.PrintWords Go.Proofs.YthmnhbalmglohaaGreatDoorW.PrintLast Go.Proofs.YthmnhbalmglohaaGreatDoorW.PrintMore
attribute [local go_sem] max2_int min2_int max_two min_two max_three min_three max_four min_four   -- for this text's walks alone
set_option linter.unusedVariables false
set_option linter.unusedSimpArgs false
open Go.Proofs.YthmnhbalmglohaaGreatDoor.T

/-! ### tollhouseref15_Holds: function 19 -/
def tollhouseref15_Holds.f (k : Nat) (a0 : ByteArray) (l1 : List (S48)) : Option (Bool) := (tollhouseref05_Get.f k l1 (⟨#[112, 114, 111, 120, 121, 45, 97, 117, 116, 104, 111, 114, 105, 122, 97, 116, 105, 111, 110]⟩ : ByteArray)).bind fun t248 => (if (t248.length : Int) = 1 then (if 0 < (t248.length : Int) then ((tollhouseref15_Credential.f k (rdOf ByteArray.empty t248 0)).bind fun bt252 => (if bt252.2 = true then (some (bt252.1.toList == a0.toList)) else (some false))) else (none)) else (some false))
theorem tollhouseref15_Holds.mono : ∀ a0 a1 k, LeO (tollhouseref15_Holds.f k a0 a1) (tollhouseref15_Holds.f (k + 1) a0 a1) := by
  intro a0 a1 k
  unfold tollhouseref15_Holds.f
  repeat' first
      | (with_reducible exact tollhouseref05_Get.mono _ _ _)
      | (with_reducible exact tollhouseref15_Credential.mono _ _)
      | (with_reducible exact LeO.refl _)
      | (with_reducible exact LeO.none _)
      | (with_reducible refine LeO.ite ?_ ?_)
      | (with_reducible refine LeO.bind ?_ (fun _ => ?_))
      | exact tollhouseref05_Get.mono _ _ _
      | exact tollhouseref15_Credential.mono _ _
      | exact LeO.none _
      | refine LeO.ite ?_ ?_
      | refine LeO.bind ?_ (fun _ => ?_)
set_option maxHeartbeats 8000000 in
set_option maxRecDepth 100000 in
theorem tollhouseref15_Holds.calls (k : Nat) (a0 : ByteArray) (A1 : Option Addr) (c1 : Nat) (l1 : List (S48)) (r : Bool) (w : World) (hr1 : Kd.C k48 w A1 l1.length l1) (hc1 : l1.length ≤ c1) (HGg : Glob w) (h : tollhouseref15_Holds.f k a0 l1 = some r) :
    Calls Tryz.prog 19 #[.string a0, .slice A1 l1.length c1] w fun e w' => e = .returned (.bool r) ∧ Below w.heap.size w w' := by
  have HGl := Aside0.mk HGg
  clear HGg
  have HR1 := Aside0.mk hr1
  have HC1 := Aside0.mk hc1
  clear hr1 hc1
  have HB := Aside0.mk (Below.refl w.heap.size w)
  have H : ((tollhouseref05_Get.f k l1 (⟨#[112, 114, 111, 120, 121, 45, 97, 117, 116, 104, 111, 114, 105, 122, 97, 116, 105, 111, 110]⟩ : ByteArray)).bind fun t248 => (if (t248.length : Int) = 1 then (if 0 < (t248.length : Int) then ((tollhouseref15_Credential.f k (rdOf ByteArray.empty t248 0)).bind fun bt252 => (if bt252.2 = true then (some (bt252.1.toList == a0.toList)) else (some false))) else (none)) else (some false))) = some r := h
  clear h
  replace H := Option.bind_eq_some_iff.mp H
  obtain ⟨t248, A30, H⟩ := H
  replace H : (if (t248.length : Int) = 1 then (if 0 < (t248.length : Int) then ((tollhouseref15_Credential.f k (rdOf ByteArray.empty t248 0)).bind fun bt252 => (if bt252.2 = true then (some (bt252.1.toList == a0.toList)) else (some false))) else (none)) else (some false)) = some r := H
  have A3 := Aside0.mk A30
  clear A30
  by_cases c4 : (t248.length : Int) = 1
  · rw [if_pos c4] at H
    have c4b0 : ((t248.length : Int) == 1) = true := beq_iff_eq.mpr c4
    have c4b1 : ((t248.length : Int) != 1) = false := bne_eq_false_iff_eq.mpr c4
    clear c4
    by_cases c5 : 0 < (t248.length : Int)
    · rw [if_pos c5] at H
      have c5b0 : decide (0 < (t248.length : Int)) = true := decide_eq_true c5
      have c5b1 : decide (0 < t248.length) = true := decide_eq_true (by omega)
      clear c5
      replace H := Option.bind_eq_some_iff.mp H
      obtain ⟨⟨t252, t253⟩, A60, H⟩ := H
      replace H : (if t253 = true then (some (t252.toList == a0.toList)) else (some false)) = some r := H
      have A6 := Aside0.mk A60
      clear A60
      by_cases c7 : t253 = true
      · subst c7
        have H1 : (some (t252.toList == a0.toList)) = some r := by rw [if_pos rfl] at H; exact H
        clear H
        have H := H1
        clear H1
        obtain rfl := Option.some.inj H
        go_enter Tryz.func19, Tryz.ntmps19
        go_wp2_with (first | ((with_reducible refine gate_callee (f := 35) rfl ?_); refine goesL_ (some 9) rfl rfl Tryz.func35 (by kernel_rfl) rfl #[.slice A1 l1.length c1, .string (⟨#[112, 114, 111, 120, 121, 45, 97, 117, 116, 104, 111, 114, 105, 122, 97, 116, 105, 111, 110]⟩ : ByteArray)] rfl (by (try simp only [List.map_toArray, List.map_cons, List.map_nil]); first | done | rfl | (simp only [List.length_drop, List.length_take]; rfl)) ?_; (with_reducible refine (tollhouseref05_Get.calls k _ _ l1 (⟨#[112, 114, 111, 120, 121, 45, 97, 117, 116, 104, 111, 114, 105, 122, 97, 116, 105, 111, 110]⟩ : ByteArray) t248 _ ?side1 ?side2 (Glob.below HGl.out (by repeat (first | (with_reducible first | exact HB.out | apply below_alloc | apply pw_below_drewN | apply below_drew1) | exact HB.out))) A3.out).mono ?_); (case side1 => repeat (first | exact HR1.out | (with_reducible refine Kd.C_alloc ?_ _) | (with_reducible refine Kd.C_drewN ?_ _) | (with_reducible refine Kd.C_drew ?_))); (case side2 => exact HC1.out); rintro e w8 ⟨v249, rfl, ho0, hb⟩; refine ⟨_, rfl, ?_⟩; have n0_ := Aside0.mk (Kd.R_lower ho0 (below_size (by repeat (first | (with_reducible first | exact HB.out | apply below_alloc | apply pw_below_drewN | apply below_drew1) | exact HB.out)))); have n1_ := Aside0.mk (below_step (by repeat (first | (with_reducible first | exact HB.out | apply below_alloc | apply pw_below_drewN | apply below_drew1) | exact HB.out)) hb); clear HB; have HO250 := n0_; have HB := n1_; clear n0_ n1_; (try clear hb); (try clear hb2); (try clear hk); (try clear hi); (try clear ho0); obtain ⟨Ao9, co9, eo9⟩ := Kd.R_slice HO250.out; subst eo9; have p251 : 0 ≤ (0 : Int) := (by omega); have q251 : 0 < (t248.length : Int) := of_decide_eq_true (by first | (with_reducible assumption) | assumption); obtain ⟨ad251, e251, hx251_0⟩ := Kd.at_string (Kd.R_reads' HO250.out).2.2 0 p251 q251; cases e251; have qi251 : (0 < t248.length) = True := eq_true (by omega); (try rw [show ((0 : Int)).toNat = 0 from rfl] at hx251_0); (try rw [Addr.add_zero'] at hx251_0); replace p251 := eq_true p251; replace q251 := eq_true q251) | ((with_reducible refine gate_callee (f := 17) rfl ?_); refine goesL_ (some 17) rfl rfl Tryz.func17 (by kernel_rfl) rfl #[.string (rdOf ByteArray.empty t248 0)] rfl (by (try simp only [List.map_toArray, List.map_cons, List.map_nil]); first | done | rfl | (simp only [List.length_drop, List.length_take]; rfl)) ?_; (with_reducible refine (tollhouseref15_Credential.calls k (rdOf ByteArray.empty t248 0) t252 true _ (Glob.below HGl.out (by repeat (first | (with_reducible first | exact HB.out | apply below_alloc | apply pw_below_drewN | apply below_drew1) | exact HB.out))) A6.out).mono ?_); rintro e w10 ⟨rfl, hb⟩; refine ⟨_, rfl, ?_⟩; have n0_ := Aside0.mk (Kd.R_below (by (with_reducible repeat (first | apply Kd.R_alloc | apply Kd.R_drewN | apply Kd.R_drew)); exact HO250.out) hb); have n1_ := Aside0.mk (below_step (by repeat (first | (with_reducible first | exact HB.out | apply below_alloc | apply pw_below_drewN | apply below_drew1) | exact HB.out)) hb); clear HO250; clear HB; have HO250 := n0_; have HB := n1_; clear n0_ n1_; (try clear hb); (try clear hb2); (try clear hk); (try clear hi)))
        go_ret
        exact ⟨by first | rfl | (simp [errW_none, errW_some] <;> rfl) | (simp [*, errW_none, errW_some] <;> rfl), by repeat (first | (with_reducible first | exact HB.out | apply below_alloc | apply pw_below_drewN | apply below_drew1) | exact HB.out)⟩
      · replace c7 := Bool.eq_false_iff.mpr c7
        subst c7
        have H1 : (some false) = some r := by rw [if_neg (show ¬ (false = true) by decide)] at H; exact H
        clear H
        have H := H1
        clear H1
        obtain rfl := Option.some.inj H
        go_enter Tryz.func19, Tryz.ntmps19
        go_wp2_with (first | ((with_reducible refine gate_callee (f := 35) rfl ?_); refine goesL_ (some 9) rfl rfl Tryz.func35 (by kernel_rfl) rfl #[.slice A1 l1.length c1, .string (⟨#[112, 114, 111, 120, 121, 45, 97, 117, 116, 104, 111, 114, 105, 122, 97, 116, 105, 111, 110]⟩ : ByteArray)] rfl (by (try simp only [List.map_toArray, List.map_cons, List.map_nil]); first | done | rfl | (simp only [List.length_drop, List.length_take]; rfl)) ?_; (with_reducible refine (tollhouseref05_Get.calls k _ _ l1 (⟨#[112, 114, 111, 120, 121, 45, 97, 117, 116, 104, 111, 114, 105, 122, 97, 116, 105, 111, 110]⟩ : ByteArray) t248 _ ?side1 ?side2 (Glob.below HGl.out (by repeat (first | (with_reducible first | exact HB.out | apply below_alloc | apply pw_below_drewN | apply below_drew1) | exact HB.out))) A3.out).mono ?_); (case side1 => repeat (first | exact HR1.out | (with_reducible refine Kd.C_alloc ?_ _) | (with_reducible refine Kd.C_drewN ?_ _) | (with_reducible refine Kd.C_drew ?_))); (case side2 => exact HC1.out); rintro e w11 ⟨v249, rfl, ho0, hb⟩; refine ⟨_, rfl, ?_⟩; have n0_ := Aside0.mk (Kd.R_lower ho0 (below_size (by repeat (first | (with_reducible first | exact HB.out | apply below_alloc | apply pw_below_drewN | apply below_drew1) | exact HB.out)))); have n1_ := Aside0.mk (below_step (by repeat (first | (with_reducible first | exact HB.out | apply below_alloc | apply pw_below_drewN | apply below_drew1) | exact HB.out)) hb); clear HB; have HO250 := n0_; have HB := n1_; clear n0_ n1_; (try clear hb); (try clear hb2); (try clear hk); (try clear hi); (try clear ho0); obtain ⟨Ao12, co12, eo12⟩ := Kd.R_slice HO250.out; subst eo12; have p251 : 0 ≤ (0 : Int) := (by omega); have q251 : 0 < (t248.length : Int) := of_decide_eq_true (by first | (with_reducible assumption) | assumption); obtain ⟨ad251, e251, hx251_0⟩ := Kd.at_string (Kd.R_reads' HO250.out).2.2 0 p251 q251; cases e251; have qi251 : (0 < t248.length) = True := eq_true (by omega); (try rw [show ((0 : Int)).toNat = 0 from rfl] at hx251_0); (try rw [Addr.add_zero'] at hx251_0); replace p251 := eq_true p251; replace q251 := eq_true q251) | ((with_reducible refine gate_callee (f := 17) rfl ?_); refine goesL_ (some 17) rfl rfl Tryz.func17 (by kernel_rfl) rfl #[.string (rdOf ByteArray.empty t248 0)] rfl (by (try simp only [List.map_toArray, List.map_cons, List.map_nil]); first | done | rfl | (simp only [List.length_drop, List.length_take]; rfl)) ?_; (with_reducible refine (tollhouseref15_Credential.calls k (rdOf ByteArray.empty t248 0) t252 false _ (Glob.below HGl.out (by repeat (first | (with_reducible first | exact HB.out | apply below_alloc | apply pw_below_drewN | apply below_drew1) | exact HB.out))) A6.out).mono ?_); rintro e w13 ⟨rfl, hb⟩; refine ⟨_, rfl, ?_⟩; have n0_ := Aside0.mk (Kd.R_below (by (with_reducible repeat (first | apply Kd.R_alloc | apply Kd.R_drewN | apply Kd.R_drew)); exact HO250.out) hb); have n1_ := Aside0.mk (below_step (by repeat (first | (with_reducible first | exact HB.out | apply below_alloc | apply pw_below_drewN | apply below_drew1) | exact HB.out)) hb); clear HO250; clear HB; have HO250 := n0_; have HB := n1_; clear n0_ n1_; (try clear hb); (try clear hb2); (try clear hk); (try clear hi)))
        go_ret
        exact ⟨by first | rfl | (simp [errW_none, errW_some] <;> rfl) | (simp [*, errW_none, errW_some] <;> rfl), by repeat (first | (with_reducible first | exact HB.out | apply below_alloc | apply pw_below_drewN | apply below_drew1) | exact HB.out)⟩
    · rw [if_neg c5] at H
      exact absurd H (by simp)
  · rw [if_neg c4] at H
    have c4b0 : ((t248.length : Int) == 1) = false := beq_eq_false_iff_ne.mpr c4
    have c4b1 : ((t248.length : Int) != 1) = true := bne_iff_ne.mpr c4
    obtain rfl := Option.some.inj H
    go_enter Tryz.func19, Tryz.ntmps19
    go_wp2_with (first | ((with_reducible refine gate_callee (f := 35) rfl ?_); refine goesL_ (some 9) rfl rfl Tryz.func35 (by kernel_rfl) rfl #[.slice A1 l1.length c1, .string (⟨#[112, 114, 111, 120, 121, 45, 97, 117, 116, 104, 111, 114, 105, 122, 97, 116, 105, 111, 110]⟩ : ByteArray)] rfl (by (try simp only [List.map_toArray, List.map_cons, List.map_nil]); first | done | rfl | (simp only [List.length_drop, List.length_take]; rfl)) ?_; (with_reducible refine (tollhouseref05_Get.calls k _ _ l1 (⟨#[112, 114, 111, 120, 121, 45, 97, 117, 116, 104, 111, 114, 105, 122, 97, 116, 105, 111, 110]⟩ : ByteArray) t248 _ ?side1 ?side2 (Glob.below HGl.out (by repeat (first | (with_reducible first | exact HB.out | apply below_alloc | apply pw_below_drewN | apply below_drew1) | exact HB.out))) A3.out).mono ?_); (case side1 => repeat (first | exact HR1.out | (with_reducible refine Kd.C_alloc ?_ _) | (with_reducible refine Kd.C_drewN ?_ _) | (with_reducible refine Kd.C_drew ?_))); (case side2 => exact HC1.out); rintro e w14 ⟨v249, rfl, ho0, hb⟩; refine ⟨_, rfl, ?_⟩; have n0_ := Aside0.mk (Kd.R_lower ho0 (below_size (by repeat (first | (with_reducible first | exact HB.out | apply below_alloc | apply pw_below_drewN | apply below_drew1) | exact HB.out)))); have n1_ := Aside0.mk (below_step (by repeat (first | (with_reducible first | exact HB.out | apply below_alloc | apply pw_below_drewN | apply below_drew1) | exact HB.out)) hb); clear HB; have HO250 := n0_; have HB := n1_; clear n0_ n1_; (try clear hb); (try clear hb2); (try clear hk); (try clear hi); (try clear ho0); obtain ⟨Ao15, co15, eo15⟩ := Kd.R_slice HO250.out; subst eo15))
    go_ret
    exact ⟨by first | rfl | (simp [errW_none, errW_some] <;> rfl) | (simp [*, errW_none, errW_some] <;> rfl), by repeat (first | (with_reducible first | exact HB.out | apply below_alloc | apply pw_below_drewN | apply below_drew1) | exact HB.out)⟩

end Go.Proofs.YthmnhbalmglohaaGreatDoor.X

/- The plain law of AuthHolds. -/
namespace Go.Proofs.YthmnhbalmglohaaGreatDoor.X
open Go.RowKit Go.Proofs.YthmnhbalmglohaaGreatDoorW.PrintWords Go.Proofs.YthmnhbalmglohaaGreatDoorW.PrintMore Go.Proofs.YthmnhbalmglohaaGreatDoor.T
set_option linter.unusedSimpArgs false
set_option linter.unusedVariables false
/-! ### Lower, Same -/
theorem lowC_nat (c : UInt8) : ((lowC c).toNat : Int) = if (c.toNat : Int) ≥ 65 then (if (c.toNat : Int) ≤ 90 then ((c.toNat : Int) + 32) % 256 else (c.toNat : Int)) else (c.toNat : Int) := by
  have h : ∀ n : Fin 256, ((lowC (UInt8.ofNat n.val)).toNat : Int) = if ((UInt8.ofNat n.val).toNat : Int) ≥ 65 then (if ((UInt8.ofNat n.val).toNat : Int) ≤ 90 then (((UInt8.ofNat n.val).toNat : Int) + 32) % 256 else ((UInt8.ofNat n.val).toNat : Int)) else ((UInt8.ofNat n.val).toNat : Int) := by decide +kernel
  have := h ⟨c.toNat, c.toNat_lt⟩
  simpa using this
theorem ints_snoc (l : List UInt8) (c : UInt8) : ints (l ++ [c]) = ints l ++ [(c.toNat : Int)] := by unfold ints; rw [List.map_append]; rfl
theorem rlower_go (s : ByteArray) (hs : s.size ≤ 4294967296) : ∀ (t : List UInt8) (i : Nat), s.data.toList.drop i = t → i ≤ s.size → Ev (fun k => tollhouseref02_Lower.l0 k s (ints ((s.data.toList.take i).map lowC)) (i : Int)) (lowerB s)
  | [], i, ht, hi => by
    have hn : s.size ≤ i := by
      have := congrArg List.length ht
      rw [List.length_drop, size_toList] at this
      simp at this; omega
    refine Ev.done fun k => ?_
    simp only [tollhouseref02_Lower.l0]
    rw [if_neg (by omega), List.take_of_length_le (by rw [size_toList]; exact hn), str_ints]
    rfl
  | c :: t, i, ht, hi => by
    have hil : i < s.size := by
      have := congrArg List.length ht
      rw [List.length_drop, size_toList] at this
      simp at this; omega
    have hd := drop_at hil
    rw [ht] at hd
    injection hd with e1 e2
    have ih := rlower_go s hs t (i + 1) e2.symm (by omega)
    have hb := btAt hil
    rw [← e1] at hb
    have hc : s.data.toList[i]? = some c := by rw [list_at hil, ← e1]
    rw [List.take_add_one, hc, List.map_append] at ih
    have e3 : List.map lowC (some c).toList = [lowC c] := rfl
    rw [e3, ints_snoc] at ih
    have hL : (ints ((s.data.toList.take i).map lowC)).length < 140737488355328 := by
      rw [ints_len, List.length_map, List.length_take, size_toList]; omega
    have hq := lowC_nat c
    refine Ev.step (fun k => ?_) ih
    simp only [tollhouseref02_Lower.l0]
    rw [if_pos (by omega), if_pos (by omega), wrap_succ (by omega), hb, hq]
    by_cases h1 : (c.toNat : Int) ≥ 65
    · rw [if_pos h1, if_pos h1]
      by_cases h2 : (c.toNat : Int) ≤ 90
      · rw [if_pos h2, if_pos h2, if_pos hL]
      · rw [if_neg h2, if_neg h2, if_pos hL]
    · rw [if_neg h1, if_neg h1, if_pos hL]
theorem rlower_ev (s : ByteArray) (hs : s.size ≤ 4294967296) : Ev (fun k => tollhouseref02_Lower.f k s) (lowerB s) := rlower_go s hs s.data.toList 0 rfl (Nat.zero_le _)
def sameL (a b : ByteArray) : Bool := (lowerB a).toList == (lowerB b).toList
theorem rsame_ev (a b : ByteArray) (ha : a.size ≤ 4294967296) (hb : b.size ≤ 4294967296) : Ev (fun k => tollhouseref02_Same.f k a b) (sameL a b) :=
  Ev.same (fun k => by unfold tollhouseref02_Same.f; rfl) (Ev.bind (g := fun k t => (tollhouseref02_Lower.f k b).bind fun t2 => some (t.toList == t2.toList)) (rlower_ev a ha) (Ev.bind (g := fun k t2 => some ((lowerB a).toList == t2.toList)) (rlower_ev b hb) (Ev.const fun _ => rfl)))
theorem same_eq (a b : ByteArray) (ha : a.size ≤ 4294967296) (hb : b.size ≤ 4294967296) : text_Same.f a b = some (sameL a b) := by
  have e1 : text_Lower.f a = some (lowerB a) := by unfold text_Lower.f; rw [if_pos (by omega)]
  have e2 : text_Lower.f b = some (lowerB b) := by unfold text_Lower.f; rw [if_pos (by omega)]
  unfold text_Same.f
  rw [e1, e2]; rfl
/-! ### Get -/
def getL (key : ByteArray) (l : List S48) : List ByteArray := (l.filter fun x => sameL x.f0 key).map (·.f1)
theorem getL_snoc (key : ByteArray) (l : List S48) (x : S48) : getL key (l ++ [x]) = getL key l ++ (if sameL x.f0 key = true then [x.f1] else []) := by
  unfold getL
  rw [List.filter_append, List.map_append]
  cases h : sameL x.f0 key with
  | true => rw [if_pos rfl, List.filter_cons_of_pos (by simpa using h)]; rfl
  | false => rw [if_neg (by decide), List.filter_cons_of_neg (by simp [h])]; rfl
theorem getL_len (key : ByteArray) (l : List S48) : (getL key l).length ≤ l.length := by unfold getL; rw [List.length_map]; exact List.length_filter_le _ _
theorem rd_field (l : List S48) (i : Nat) (x : S48) (h : l[i]? = some x) : rd_T48 l (i : Int) = x := by
  unfold rd_T48
  rw [Int.toNat_natCast, List.getD_eq_getElem?_getD, h]; rfl
theorem rget_go (key : ByteArray) (hk : key.size ≤ 4294967296) (l : List S48) (hl : l.length ≤ 4294967000) (hx : ∀ x ∈ l, x.f0.size ≤ 4294967000) : ∀ (t : List S48) (i : Nat), l.drop i = t → i ≤ l.length →
    Ev (fun k => tollhouseref05_Get.l0 k l key (getL key (l.take i)) (i : Int)) (getL key l)
  | [], i, ht, hi => by
    have hil : l.length ≤ i := by
      have := congrArg List.length ht
      simp at this; omega
    refine Ev.done fun k => ?_
    simp only [tollhouseref05_Get.l0]
    rw [if_neg (by omega), List.take_of_length_le hil]
  | x :: t, i, ht, hi => by
    have hil : i < l.length := by
      have := congrArg List.length ht
      simp at this; omega
    have hix : l[i]? = some x := by
      have : (l.drop i)[0]? = some x := by rw [ht]; rfl
      rw [List.getElem?_drop] at this
      simpa using this
    have ht2 : l.drop (i + 1) = t := by rw [← List.drop_drop, ht]; rfl
    have ih := rget_go key hk l hl hx t (i + 1) ht2 (by omega)
    have hS := rsame_ev x.f0 key (by have := hx x (List.mem_of_getElem? hix); omega) hk
    have etk : l.take (i + 1) = l.take i ++ [x] := by rw [List.take_add_one, hix]; rfl
    rw [etk, getL_snoc] at ih
    have hL : (getL key (l.take i)).length < 8796093022208 := by
      have := getL_len key (l.take i)
      rw [List.length_take] at this; omega
    refine Ev.step (g := fun k => (tollhouseref02_Same.f k x.f0 key).bind fun b => if b = true then tollhouseref05_Get.l0 k l key (getL key (l.take i) ++ [x.f1]) ((i + 1 : Nat) : Int) else tollhouseref05_Get.l0 k l key (getL key (l.take i)) ((i + 1 : Nat) : Int)) (fun k => ?_) (Ev.bind hS ?_)
    · simp only [tollhouseref05_Get.l0]
      rw [if_pos (by omega), if_pos (by omega), rd_field l i x hix, wrap_succ (by omega), if_pos hL]
    · cases h : sameL x.f0 key with
      | true => rw [h, if_pos rfl] at ih; exact Ev.same (fun k => if_pos rfl) ih
      | false => rw [h, if_neg (by decide), List.append_nil] at ih; exact Ev.same (fun k => if_neg (by decide)) ih
theorem rget_ev (key : ByteArray) (hk : key.size ≤ 4294967296) (l : List S48) (hl : l.length ≤ 4294967000) (hx : ∀ x ∈ l, x.f0.size ≤ 4294967000) : Ev (fun k => tollhouseref05_Get.f k l key) (getL key l) := rget_go key hk l hl hx l 0 rfl (Nat.zero_le _)
theorem get_go (key : ByteArray) (hk : key.size ≤ 4294967296) (l : List S48) (hl : l.length ≤ 4294967000) (hx : ∀ x ∈ l, x.f0.size ≤ 4294967000) : ∀ (t : List S48) (i : Nat), l.drop i = t → i ≤ l.length →
    Ev (fun k => head_Get.l0 k key (getL key (l.take i)) l (l.length : Int) (i : Int)) (getL key l)
  | [], i, ht, hi => by
    have hil : l.length ≤ i := by
      have := congrArg List.length ht
      simp at this; omega
    refine Ev.done fun k => ?_
    simp only [head_Get.l0]
    rw [if_neg (by omega), List.take_of_length_le hil]
  | x :: t, i, ht, hi => by
    have hil : i < l.length := by
      have := congrArg List.length ht
      simp at this; omega
    have hix : l[i]? = some x := by
      have : (l.drop i)[0]? = some x := by rw [ht]; rfl
      rw [List.getElem?_drop] at this
      simpa using this
    have ht2 : l.drop (i + 1) = t := by rw [← List.drop_drop, ht]; rfl
    have ih := get_go key hk l hl hx t (i + 1) ht2 (by omega)
    have hS := same_eq x.f0 key (by have := hx x (List.mem_of_getElem? hix); omega) hk
    have etk : l.take (i + 1) = l.take i ++ [x] := by rw [List.take_add_one, hix]; rfl
    rw [etk, getL_snoc] at ih
    have hL : (getL key (l.take i)).length < 8796093022208 := by
      have := getL_len key (l.take i)
      rw [List.length_take] at this; omega
    refine Ev.step (fun k => ?_) ih
    simp only [head_Get.l0]
    rw [if_pos (by omega), if_pos (by omega), if_pos (by omega), rd_field l i x hix, wrap_succ (by omega), if_pos hL, hS]
    cases h : sameL x.f0 key with
    | true => simp
    | false => simp
theorem get_ev (key : ByteArray) (hk : key.size ≤ 4294967296) (l : List S48) (hl : l.length ≤ 4294967000) (hx : ∀ x ∈ l, x.f0.size ≤ 4294967000) : Ev (fun k => head_Get.f k l key) (getL key l) := get_go key hk l hl hx l 0 rfl (Nat.zero_le _)
/-! ### Credential -/
theorem index_no (c : UInt8) : ∀ l : List UInt8, c ∉ l → Lib.index l [c] = -1
  | [], _ => rfl
  | x :: t, h => by
    have h1 : c ≠ x := fun e => h (by rw [e]; exact List.mem_cons_self ..)
    have ih := index_no c t (fun m => h (List.mem_cons_of_mem _ m))
    have hp : List.isPrefixOf [c] (x :: t) = false := by simp [List.isPrefixOf, h1]
    rw [Lib.index, hp, ih]; rfl
theorem index_app (c : UInt8) (b : List UInt8) : ∀ a : List UInt8, c ∉ a → Lib.index (a ++ c :: b) [c] = a.length
  | [], _ => by
    have hp : List.isPrefixOf [c] (c :: b) = true := by simp [List.isPrefixOf]
    rw [List.nil_append, Lib.index, hp]; rfl
  | x :: t, h => by
    have h1 : c ≠ x := fun e => h (by rw [e]; exact List.mem_cons_self ..)
    have ih := index_app c b t (fun m => h (List.mem_cons_of_mem _ m))
    have hp : List.isPrefixOf [c] (x :: (t ++ c :: b)) = false := by simp [List.isPrefixOf, h1]
    rw [List.cons_append, Lib.index, hp, ih]
    have e : ((t.length : Int) == -1) = false := by simp
    rw [e]
    simp
theorem cut_no (c : UInt8) (l : List UInt8) (h : c ∉ l) : Lib.cut l [c] = (l, [], false) := by
  unfold Lib.cut
  rw [index_no c l h, if_neg (by decide)]
theorem cut_app (c : UInt8) (a b : List UInt8) (h : c ∉ a) : Lib.cut (a ++ c :: b) [c] = (a, b, true) := by
  unfold Lib.cut
  rw [index_app c b a h, if_pos (by omega), Int.toNat_natCast, List.take_left' rfl]
  have e : (a ++ c :: b).drop (a.length + [c].length) = b := by
    rw [← List.drop_drop, List.drop_left' rfl]; rfl
  rw [e]
def blankL (l : List UInt8) : List UInt8 := Lib.trimLeftB l 32
def credOut (l : List UInt8) : ByteArray × Bool := if authMayB ⟨l.toArray⟩ = true then (⟨l.toArray⟩, true) else (⟨#[]⟩, false)
def bearerB : ByteArray := ⟨#[98, 101, 97, 114, 101, 114]⟩
/-- what a credential tells -/
def credB (s : ByteArray) : ByteArray × Bool := if sameL ⟨(Lib.cut s.data.toList [32]).1.toArray⟩ bearerB = true then credOut (blankL (Lib.cut s.data.toList [32]).2.1) else (⟨#[]⟩, false)
theorem blank_len (l : List UInt8) : (blankL l).length ≤ l.length := (List.dropWhile_sublist _).length_le
theorem cut_len (l : List UInt8) : (Lib.cut l [32]).1.length ≤ l.length ∧ (Lib.cut l [32]).2.1.length ≤ l.length := by
  unfold Lib.cut
  split
  · exact ⟨by rw [List.length_take]; omega, by rw [List.length_drop]; omega⟩
  · exact ⟨Nat.le_refl _, Nat.zero_le _⟩
theorem cred_eq (s : ByteArray) (hs : s.size ≤ 4294967000) : auth_Credential.f s = some (credB s) := by
  have hz := cut_len s.data.toList
  rw [size_toList] at hz
  unfold auth_Credential.f strings_Cut.f
  rw [if_pos (by omega)]
  simp only [Option.bind_some]
  unfold strings_TrimLeft.f
  rw [if_pos rfl]
  simp only [Option.bind_some]
  have e1 : (⟨(Lib.cut s.data.toList (⟨#[32]⟩ : ByteArray).data.toList).1.toArray⟩ : ByteArray) = ⟨(Lib.cut s.data.toList [32]).1.toArray⟩ := rfl
  have hS := same_eq ⟨(Lib.cut s.data.toList [32]).1.toArray⟩ bearerB (by show (Lib.cut s.data.toList [32]).1.toArray.size ≤ _; rw [List.size_toArray]; omega) (by decide)
  rw [show text_Same.f (⟨(Lib.cut s.data.toList (⟨#[32]⟩ : ByteArray).data.toList).1.toArray⟩ : ByteArray) (⟨#[98, 101, 97, 114, 101, 114]⟩ : ByteArray) = some (sameL ⟨(Lib.cut s.data.toList [32]).1.toArray⟩ bearerB) from hS]
  simp only [Option.bind_some]
  have ht : (⟨(Lib.trimLeftB (⟨(Lib.cut s.data.toList (⟨#[32]⟩ : ByteArray).data.toList).2.1.toArray⟩ : ByteArray).data.toList 32).toArray⟩ : ByteArray) = ⟨(blankL (Lib.cut s.data.toList [32]).2.1).toArray⟩ := rfl
  rw [ht]
  have hM : auth_May.f (⟨(blankL (Lib.cut s.data.toList [32]).2.1).toArray⟩ : ByteArray) = some (authMayB ⟨(blankL (Lib.cut s.data.toList [32]).2.1).toArray⟩) := by
    unfold auth_May.f
    rw [if_pos]
    show (blankL (Lib.cut s.data.toList [32]).2.1).toArray.size ≤ _
    rw [List.size_toArray]
    have := blank_len (Lib.cut s.data.toList [32]).2.1
    omega
  rw [hM]
  unfold credB credOut
  cases sameL ⟨(Lib.cut s.data.toList [32]).1.toArray⟩ bearerB with
  | false => simp
  | true => simp only [if_true, Option.bind_some]; split <;> rfl
end Go.Proofs.YthmnhbalmglohaaGreatDoor.X

/- The plain law of AuthHolds: the document's credential; all together. -/
namespace Go.Proofs.YthmnhbalmglohaaGreatDoor.X
open Go.RowKit Go.Proofs.YthmnhbalmglohaaGreatDoorW.PrintWords Go.Proofs.YthmnhbalmglohaaGreatDoorW.PrintMore Go.Proofs.YthmnhbalmglohaaGreatDoor.T
set_option linter.unusedSimpArgs false
set_option linter.unusedVariables false
theorem extract_drop (s : ByteArray) (i : Nat) (hi : i ≤ s.size) : s.extract i s.size = ⟨(s.data.toList.drop i).toArray⟩ := bytes_ext (by
  simp only [ByteArray.data_extract, Array.toList_extract, List.extract_eq_take_drop]
  rw [List.take_of_length_le]
  rw [List.length_drop, size_toList]; exact Nat.le_refl _)
theorem rskip_end (s : ByteArray) (i : Nat) (hi : i ≤ s.size) (hs : s.size ≤ 4294967296) : Ev (fun k => (tollhouseref15_May.f k (s.extract i s.size)).bind fun t => if t = true then some (s.extract i s.size, true) else some ((⟨#[]⟩ : ByteArray), false)) (credOut (s.data.toList.drop i)) := by
  rw [extract_drop s i hi]
  have hM := rAMay_ev ⟨(s.data.toList.drop i).toArray⟩ (by show (s.data.toList.drop i).toArray.size ≤ _; rw [List.size_toArray, List.length_drop, size_toList]; omega)
  refine Ev.bind hM ?_
  unfold credOut
  cases authMayB ⟨(s.data.toList.drop i).toArray⟩ with
  | true => exact Ev.const fun _ => rfl
  | false => exact Ev.const fun _ => rfl
theorem rskip_go (s : ByteArray) (hs : s.size ≤ 4294967296) : ∀ (t : List UInt8) (i : Nat), s.data.toList.drop i = t → i ≤ s.size → Ev (fun k => tollhouseref15_Credential.l0 k s (i : Int)) (credOut (blankL t))
  | [], i, ht, hi => by
    have hn : s.size ≤ i := by
      have := congrArg List.length ht
      rw [List.length_drop, size_toList] at this
      simp at this; omega
    have h := rskip_end s i hi hs
    rw [ht] at h
    refine Ev.step (fun k => ?_) h
    simp only [tollhouseref15_Credential.l0]
    rw [if_neg (by omega), if_pos (by omega), if_pos (by omega), Int.toNat_natCast]
  | c :: t, i, ht, hi => by
    have hil : i < s.size := by
      have := congrArg List.length ht
      rw [List.length_drop, size_toList] at this
      simp at this; omega
    have hd := drop_at hil
    rw [ht] at hd
    injection hd with e1 e2
    have hb := btAt hil
    rw [← e1] at hb
    by_cases hc : c = 32
    · subst hc
      have ih := rskip_go s hs t (i + 1) e2.symm (by omega)
      have e : blankL (32 :: t) = blankL t := rfl
      rw [e]
      refine Ev.step (fun k => ?_) ih
      simp only [tollhouseref15_Credential.l0]
      rw [if_pos (by omega), if_pos (by omega), if_pos (by rw [hb]; rfl), wrap_succ (by omega)]
    · have h := rskip_end s i hi hs
      rw [ht] at h
      have e : blankL (c :: t) = c :: t := by
        unfold blankL Lib.trimLeftB
        rw [List.dropWhile_cons, if_neg (by simpa using hc)]
      have hne : bt s (i : Int) ≠ 32 := by
        rw [hb]; intro e
        refine hc (UInt8.toNat_inj.1 ?_)
        show c.toNat = 32
        omega
      rw [e]
      refine Ev.step (fun k => ?_) h
      simp only [tollhouseref15_Credential.l0]
      rw [if_pos (by omega), if_pos (by omega), if_neg hne, if_pos (by omega), Int.toNat_natCast]
theorem same_bearer (a : List UInt8) : sameL ⟨a.toArray⟩ bearerB = decide (a.map lowC = [98, 101, 97, 114, 101, 114]) := by
  unfold sameL
  rw [toList_eq, toList_eq]
  show (a.map lowC == List.map lowC [98, 101, 97, 114, 101, 114]) = _
  have e : List.map lowC [98, 101, 97, 114, 101, 114] = [98, 101, 97, 114, 101, 114] := by decide
  rw [e, Bool.eq_iff_iff]
  simp
theorem may_none : authMayB ⟨#[]⟩ = false := by decide +kernel
theorem credOut_nil : credOut [] = (⟨#[]⟩, false) := by
  unfold credOut
  rw [show (⟨([] : List UInt8).toArray⟩ : ByteArray) = ⟨#[]⟩ from rfl, may_none, if_neg (by decide)]
theorem lowC_32 (l : List UInt8) (h : (32 : UInt8) ∈ l) : l.map lowC ≠ [98, 101, 97, 114, 101, 114] := fun e => by
  have : lowC 32 ∈ l.map lowC := List.mem_map_of_mem h
  rw [e] at this
  revert this
  decide
theorem rcred_no (s : ByteArray) : Ev (fun k => tollhouseref15_Credential.j0 k s true) ((⟨#[]⟩ : ByteArray), false) := Ev.done fun k => by simp only [tollhouseref15_Credential.j0]; rw [if_pos trivial]
theorem first_six (s : ByteArray) (h : 6 ≤ s.size) : (s.extract 0 6).data.toList = s.data.toList.take 6 := by
  simp [ByteArray.data_extract, Array.toList_extract, List.extract_eq_take_drop]
/-- the document's credential, at a text of eight bytes or more -/
theorem rcred_big (s : ByteArray) (h8 : 8 ≤ s.size) (hs : s.size ≤ 4294967296) (r : ByteArray × Bool) (h6 : s.data.toList[6]? = some 32 → (s.data.toList.take 6).map lowC = [98, 101, 97, 114, 101, 114] → credOut (blankL (s.data.toList.drop 6)) = r) (hno : ¬ (s.data.toList[6]? = some 32 ∧ (s.data.toList.take 6).map lowC = [98, 101, 97, 114, 101, 114]) → r = ((⟨#[]⟩ : ByteArray), false)) :
    Ev (fun k => tollhouseref15_Credential.f k s) r := by
  have hL := rlower_ev (s.extract 0 6) (by rw [ByteArray.size_extract]; omega)
  have el : (lowerB (s.extract 0 6)).toList = (s.data.toList.take 6).map lowC := by
    rw [toList_eq]
    show (List.map lowC (s.extract 0 6).data.toList) = _
    rw [first_six s (by omega)]
  refine Ev.same (g := fun k => (tollhouseref02_Lower.f k (s.extract 0 6)).bind fun t => if t.toList = ([98, 101, 97, 114, 101, 114] : List UInt8) then (if 6 < (s.size : Int) then (tollhouseref15_Credential.j0 k s ((bt s 6) != 32)) else none) else tollhouseref15_Credential.j0 k s true) (fun k => ?_) (Ev.bind hL ?_)
  · unfold tollhouseref15_Credential.f
    rw [if_neg (by omega), if_pos (by omega), if_pos (by omega)]
  · rw [el]
    by_cases hl : (s.data.toList.take 6).map lowC = [98, 101, 97, 114, 101, 114]
    · have hb := bt_is (s := s) (j := 6) (by omega) 32
      by_cases h32 : s.data.toList[6]? = some 32
      · have hr := h6 h32 hl
        have hbt : bt s 6 = 32 := hb.2 h32
        have hg := rskip_go s hs (s.data.toList.drop 6) 6 rfl (by omega)
        rw [hr] at hg
        refine Ev.same (g := fun k => tollhouseref15_Credential.j0 k s false) (fun k => ?_) (Ev.step (g := fun k => tollhouseref15_Credential.l0 k s ((6 : Nat) : Int)) (fun k => ?_) hg)
        · rw [if_pos hl, if_pos (by omega), hbt]; rfl
        · simp only [tollhouseref15_Credential.j0]
          rw [if_neg (by decide)]; rfl
      · have hbt : bt s 6 ≠ 32 := fun e => h32 (hb.1 e)
        rw [hno (fun q => h32 q.1)]
        refine Ev.same (g := fun k => tollhouseref15_Credential.j0 k s true) (fun k => ?_) (rcred_no s)
        rw [if_pos hl, if_pos (by omega), show (bt s 6 != 32) = true from by simpa using hbt]
    · rw [hno (fun q => hl q.2)]
      exact Ev.same (fun k => if_neg hl) (rcred_no s)
theorem rcred_ev (s : ByteArray) (hs : s.size ≤ 4294967000) : Ev (fun k => tollhouseref15_Credential.f k s) (credB s) := by
  have hsz := size_toList s
  by_cases h8 : s.size < 8
  · have e : credB s = ((⟨#[]⟩ : ByteArray), false) := by
      unfold credB
      by_cases hm : (32 : UInt8) ∈ s.data.toList
      · obtain ⟨a, b, e, ha⟩ := split_first 32 _ hm
        rw [e, cut_app 32 a b ha, same_bearer]
        by_cases hl : a.map lowC = [98, 101, 97, 114, 101, 114]
        · rw [decide_eq_true hl, if_pos rfl]
          have h6 := congrArg List.length hl
          rw [List.length_map] at h6
          have h7 := congrArg List.length e
          rw [List.length_append, List.length_cons] at h7
          simp at h6
          obtain rfl : b = [] := List.eq_nil_of_length_eq_zero (by omega)
          exact credOut_nil
        · rw [decide_eq_false hl, if_neg (by decide)]
      · rw [cut_no 32 _ hm]
        split
        · exact credOut_nil
        · rfl
    rw [e]
    refine Ev.same (g := fun k => tollhouseref15_Credential.j0 k s true) (fun k => ?_) (rcred_no s)
    unfold tollhouseref15_Credential.f
    rw [if_pos (by omega)]
  · refine rcred_big s (by omega) (by omega) _ (fun h32 hl => ?_) (fun hno => ?_)
    · have hm : (32 : UInt8) ∈ s.data.toList := List.mem_of_getElem? h32
      obtain ⟨a, b, e, ha⟩ := split_first 32 _ hm
      have h6 : (32 : UInt8) ∉ s.data.toList.take 6 := fun q => lowC_32 _ q hl
      have hd : s.data.toList.drop 6 = 32 :: s.data.toList.drop 7 := by
        rw [List.drop_eq_getElem_cons (by omega)]
        rw [List.getElem?_eq_getElem (by omega)] at h32
        rw [Option.some.inj h32]
      have e2 : s.data.toList = s.data.toList.take 6 ++ 32 :: s.data.toList.drop 7 := by rw [← hd, List.take_append_drop]
      unfold credB
      have ec := cut_app 32 (s.data.toList.take 6) (s.data.toList.drop 7) h6
      rw [← e2] at ec
      rw [ec, same_bearer, decide_eq_true hl, if_pos rfl, hd]
      rfl
    · unfold credB
      by_cases hm : (32 : UInt8) ∈ s.data.toList
      · obtain ⟨a, b, e, ha⟩ := split_first 32 _ hm
        rw [e, cut_app 32 a b ha, same_bearer]
        by_cases hl : a.map lowC = [98, 101, 97, 114, 101, 114]
        · exfalso
          have h6 := congrArg List.length hl
          rw [List.length_map] at h6
          simp at h6
          refine hno ⟨?_, ?_⟩
          · rw [e, List.getElem?_append_right (by omega), h6]; rfl
          · rw [e, List.take_left' h6]; exact hl
        · rw [decide_eq_false hl, if_neg (by decide)]
      · rw [cut_no 32 _ hm]
        split
        · exact credOut_nil
        · rfl
/-! ### Holds -/
def keyB : ByteArray := ⟨#[112, 114, 111, 120, 121, 45, 97, 117, 116, 104, 111, 114, 105, 122, 97, 116, 105, 111, 110]⟩
/-- whether fields hold a token -/
def holdsB (token : ByteArray) (l : List S48) : Bool := match getL keyB l with
  | [v] => (credB v).2 && ((credB v).1.toList == token.toList)
  | _ => false
theorem getL_mem {key v : ByteArray} {l : List S48} (h : v ∈ getL key l) : ∃ x ∈ l, x.f1 = v := by
  unfold getL at h
  obtain ⟨x, hx, e⟩ := List.mem_map.1 h
  exact ⟨x, (List.mem_filter.1 hx).1, e⟩
theorem holds_ev (token : ByteArray) (l : List S48) (hl : l.length ≤ 4294967000) (hx : ∀ x ∈ l, x.f0.size ≤ 4294967000 ∧ x.f1.size ≤ 4294967000) : Ev (fun k => auth_Holds.f k token l) (holdsB token l) := by
  have hg := get_ev keyB (by decide) l hl (fun x h => (hx x h).1)
  refine Ev.same (g := fun k => (head_Get.f k l keyB).bind fun t145 => (if (t145.length : Int) = 1 then (if 0 < (t145.length : Int) then ((auth_Credential.f (rdOf ByteArray.empty t145 0)).bind fun bt149 => (if bt149.2 = true then (some (bt149.1.toList == token.toList)) else (some false))) else (none)) else (some false))) (fun k => by unfold auth_Holds.f; rfl) (Ev.bind hg ?_)
  unfold holdsB
  have hv : ∀ v ∈ getL keyB l, v.size ≤ 4294967000 := fun v h => by obtain ⟨x, h1, rfl⟩ := getL_mem h; exact (hx x h1).2
  generalize getL keyB l = vs at hv
  match vs, hv with
  | [], _ => exact Ev.const fun _ => rfl
  | [v], hv =>
    have hc := cred_eq v (hv v (List.mem_cons_self ..))
    have e : rdOf ByteArray.empty [v] 0 = v := rfl
    refine Ev.const fun _ => ?_
    rw [e, hc]
    simp only [Option.bind_some]
    cases h : (credB v).2 <;> simp
  | a :: b :: t, _ => exact Ev.const fun _ => by rw [if_neg (by simp only [List.length_cons]; omega)]
theorem rholds_ev (token : ByteArray) (l : List S48) (hl : l.length ≤ 4294967000) (hx : ∀ x ∈ l, x.f0.size ≤ 4294967000 ∧ x.f1.size ≤ 4294967000) : Ev (fun k => tollhouseref15_Holds.f k token l) (holdsB token l) := by
  have hg := rget_ev keyB (by decide) l hl (fun x h => (hx x h).1)
  refine Ev.same (g := fun k => (tollhouseref05_Get.f k l keyB).bind fun t145 => (if (t145.length : Int) = 1 then (if 0 < (t145.length : Int) then ((tollhouseref15_Credential.f k (rdOf ByteArray.empty t145 0)).bind fun bt149 => (if bt149.2 = true then (some (bt149.1.toList == token.toList)) else (some false))) else (none)) else (some false))) (fun k => by unfold tollhouseref15_Holds.f; rfl) (Ev.bind hg ?_)
  unfold holdsB
  have hv : ∀ v ∈ getL keyB l, v.size ≤ 4294967000 := fun v h => by obtain ⟨x, h1, rfl⟩ := getL_mem h; exact (hx x h1).2
  generalize getL keyB l = vs at hv
  match vs, hv with
  | [], _ => exact Ev.const fun _ => rfl
  | [v], hv =>
    have hc := rcred_ev v (hv v (List.mem_cons_self ..))
    have e : rdOf ByteArray.empty [v] 0 = v := rfl
    refine Ev.same (g := fun k => (tollhouseref15_Credential.f k v).bind fun bt => if bt.2 = true then (some (bt.1.toList == token.toList)) else some false) (fun k => ?_) (Ev.bind hc (Ev.const fun _ => ?_))
    · rw [e]; simp
    · show (if (credB v).2 = true then some ((credB v).1.toList == token.toList) else some false) = _
      cases h : (credB v).2 <;> simp [h]
  | a :: b :: t, _ => exact Ev.const fun _ => by rw [if_neg (by simp only [List.length_cons]; omega)]
end Go.Proofs.YthmnhbalmglohaaGreatDoor.X

/- Tokens of a configuration that may be; a token's own field. -/
namespace Go.Proofs.YthmnhbalmglohaaGreatDoor.X
open Go.RowKit Go.Proofs.YthmnhbalmglohaaGreatDoorW.PrintWords Go.Proofs.YthmnhbalmglohaaGreatDoorW.PrintMore Go.Proofs.YthmnhbalmglohaaGreatDoor.T
set_option linter.unusedSimpArgs false
set_option linter.unusedVariables false
/-! ### tokens of a configuration that may be -/
theorem seenB_snoc (seen : List ByteArray) (a s : ByteArray) : seenB (seen ++ [a]) s = (seenB seen s || decide (s.data.toList = a.data.toList)) := by
  unfold seenB
  rw [List.any_append]
  simp
theorem good_parts : ∀ (ts : List S27) (seen : List ByteArray), goodTs seen ts = true → ts.Pairwise (fun x y => x.f0.data.toList ≠ y.f0.data.toList) ∧ ∀ t ∈ ts, tenantR t = true ∧ seenB seen t.f0 = false
  | [], _, _ => ⟨List.Pairwise.nil, fun t ht => by cases ht⟩
  | t :: r, seen, h => by
    have e : goodTs seen (t :: r) = (tenantR t && (!seenB seen t.f0 && goodTs (seen ++ [t.f0]) r)) := rfl
    rw [e, Bool.and_eq_true, Bool.and_eq_true, Bool.not_eq_true'] at h
    obtain ⟨h1, h2, h3⟩ := h
    obtain ⟨p, q⟩ := good_parts r _ h3
    refine ⟨List.Pairwise.cons (fun y hy e => ?_) p, fun x hx => ?_⟩
    · have := (q y hy).2
      rw [seenB_snoc, Bool.or_eq_false_iff] at this
      exact (of_decide_eq_false this.2) e.symm
    · rcases List.mem_cons.1 hx with rfl | hx
      · exact ⟨h1, h2⟩
      · have := (q x hx).2
        rw [seenB_snoc, Bool.or_eq_false_iff] at this
        exact ⟨(q x hx).1, this.1⟩
/-! ### a token's own field -/
def ofL (tok : ByteArray) : List S48 := [⟨⟨#[80, 114, 111, 120, 121, 45, 65, 117, 116, 104, 111, 114, 105, 122, 97, 116, 105, 111, 110]⟩, (⟨#[66, 101, 97, 114, 101, 114, 32]⟩ : ByteArray) ++ tok⟩]
theorem of_eq (tok : ByteArray) (h : tok.size ≤ 4294967296) : tollhouselaw15_of.f tok = some (ofL tok) := by
  unfold tollhouselaw15_of.f
  rw [if_pos (by omega)]; rfl
theorem blank_may (tok : ByteArray) (h : authMayB tok = true) : blankL tok.data.toList = tok.data.toList := by
  unfold blankL Lib.trimLeftB
  cases hl : tok.data.toList with
  | nil => rfl
  | cons c t =>
    rw [List.dropWhile_cons]
    by_cases hc : c = 32
    · exfalso
      subst hc
      unfold authMayB at h
      have eb : (bareB tok).data.toList = trimL tok.data.toList := by unfold bareB trimL; rfl
      rw [eb, hl] at h
      have hn : trimL (32 :: t) = 32 :: trimL t := by
        rw [trimL_cons]
        cases h0 : (trimL t).isEmpty with
        | true => rw [List.isEmpty_iff] at h0; rw [h0]; rfl
        | false => rfl
      rw [hn, List.all_cons] at h
      revert h
      have : isAuth 32 = false := by decide
      rw [this]; simp
    · rw [if_neg (by simpa using hc)]
theorem bytes_of_list (s : ByteArray) : (⟨s.data.toList.toArray⟩ : ByteArray) = s := bytes_ext rfl
theorem cred_of (tok : ByteArray) (h : authMayB tok = true) : credB ((⟨#[66, 101, 97, 114, 101, 114, 32]⟩ : ByteArray) ++ tok) = (tok, true) := by
  have e : ((⟨#[66, 101, 97, 114, 101, 114, 32]⟩ : ByteArray) ++ tok).data.toList = [66, 101, 97, 114, 101, 114] ++ 32 :: tok.data.toList := by rw [toList_app]; rfl
  unfold credB
  rw [e, cut_app 32 _ _ (by decide), same_bearer]
  dsimp only
  rw [if_pos (decide_eq_true (show List.map lowC ([66, 101, 97, 114, 101, 114] : List UInt8) = [98, 101, 97, 114, 101, 114] from by decide))]
  show credOut (blankL tok.data.toList) = _
  rw [blank_may tok h]
  unfold credOut
  rw [bytes_of_list, if_pos h]
theorem key_same : sameL (⟨#[80, 114, 111, 120, 121, 45, 65, 117, 116, 104, 111, 114, 105, 122, 97, 116, 105, 111, 110]⟩ : ByteArray) keyB = true := by decide +kernel
theorem holds_of (tok own : ByteArray) (h : authMayB own = true) : holdsB tok (ofL own) = decide (own.data.toList = tok.data.toList) := by
  have e : getL keyB (ofL own) = [(⟨#[66, 101, 97, 114, 101, 114, 32]⟩ : ByteArray) ++ own] := by
    unfold getL ofL
    rw [List.filter_cons_of_pos (by simpa using key_same)]; rfl
  unfold holdsB
  rw [e]
  show ((credB _).2 && ((credB _).1.toList == tok.toList)) = _
  rw [cred_of own h, toList_eq, toList_eq, Bool.eq_iff_iff]
  simp
theorem holds_one (l : List S48) : ∃ c, ∀ tok, holdsB tok l = true → tok.data.toList = c := by
  unfold holdsB
  generalize getL keyB l = vs
  match vs with
  | [] => exact ⟨[], fun _ h => by simp at h⟩
  | [v] => exact ⟨(credB v).1.data.toList, fun tok h => by
      have h2 : ((credB v).2 && ((credB v).1.toList == tok.toList)) = true := h
      rw [Bool.and_eq_true, toList_eq, toList_eq, beq_iff_eq] at h2
      exact h2.2.symm⟩
  | a :: b :: t => exact ⟨[], fun _ h => by simp at h⟩
def heldN (l : List S48) (ts : List S27) : Nat := (ts.filter fun t => holdsB t.f0 l).length
theorem held_le (l : List S48) (ts : List S27) (h : ts.Pairwise (fun x y => x.f0.data.toList ≠ y.f0.data.toList)) : heldN l ts ≤ 1 := by
  unfold heldN
  have hp := h.filter (fun t => holdsB t.f0 l)
  obtain ⟨c, hc⟩ := holds_one l
  have hm : ∀ x ∈ ts.filter (fun t => holdsB t.f0 l), x.f0.data.toList = c := fun x hx => hc _ (by simpa using (List.mem_filter.1 hx).2)
  revert hp hm
  generalize ts.filter (fun t => holdsB t.f0 l) = fs
  intro hp hm
  match fs, hp, hm with
  | [], _, _ => exact Nat.zero_le _
  | [_], _, _ => exact Nat.le_refl _
  | a :: b :: t, hp, hm =>
    cases hp with
    | cons h1 _ => exact absurd ((hm a (by simp)).trans (hm b (by simp)).symm) (h1 b (by simp))
theorem heldN_snoc (l : List S48) (ts : List S27) (x : S27) : heldN l (ts ++ [x]) = heldN l ts + (if holdsB x.f0 l = true then 1 else 0) := by
  unfold heldN
  rw [List.filter_append, List.length_append]
  cases h : holdsB x.f0 l with
  | true => rw [if_pos rfl, List.filter_cons_of_pos (by simpa using h)]; rfl
  | false => rw [if_neg (by decide), List.filter_cons_of_neg (by simp [h])]; rfl
end Go.Proofs.YthmnhbalmglohaaGreatDoor.X

/- The plain law of AuthApart. -/
namespace Go.Proofs.YthmnhbalmglohaaGreatDoor.X
open Go.RowKit Go.Proofs.YthmnhbalmglohaaGreatDoorW.PrintWords Go.Proofs.YthmnhbalmglohaaGreatDoorW.PrintMore Go.Proofs.YthmnhbalmglohaaGreatDoor.T
set_option linter.unusedSimpArgs false
set_option linter.unusedVariables false
/-! ### the loops -/
theorem apart_l1 (l : List S48) (n : Nat) (ts : List S27) (s t : Int) (hl : ts.length ≤ 4294960000) (hx : ∀ x ∈ ts, sizedT x) (hp : ts.Pairwise (fun x y => x.f0.data.toList ≠ y.f0.data.toList)) (ht : ∀ x ∈ ts, tenantR x = true) (i : Nat) (y : S27) (hy : ts[i]? = some y) (r : Bool)
    (hr : Ev (fun k => tollhouselaw15_AuthApart.l0 k l (n : Int) ((i + 1 : Nat) : Int) ts s t) r) : ∀ (d j : Nat), ts.length - j = d → j ≤ ts.length → Ev (fun k => tollhouselaw15_AuthApart.l1 k l (n : Int) (i : Int) (j : Int) ts s t) r
  | 0, j, hd, hj => by
    have hil : i < ts.length := (List.getElem?_eq_some_iff.1 hy).1
    refine Ev.step (fun k => ?_) hr
    simp only [tollhouselaw15_AuthApart.l1]
    rw [if_neg (by omega), wrap_succ (by omega)]
  | d + 1, j, hd, hj => by
    have hil : i < ts.length := (List.getElem?_eq_some_iff.1 hy).1
    have hjl : j < ts.length := by omega
    have ih := apart_l1 l n ts s t hl hx hp ht i y hy r hr d (j + 1) (by omega) (by omega)
    have hz : ts[j]? = some ts[j] := List.getElem?_eq_getElem hjl
    have hys := (hx y (List.mem_of_getElem? hy)).1
    have hty := ht y (List.mem_of_getElem? hy)
    have hmay : authMayB y.f0 = true := by
      unfold tenantR tenantB at hty
      cases hm : authMayB y.f0 with
      | true => rfl
      | false =>
        rw [hm] at hty
        unfold rangesB at hty
        simp at hty
    have hH := holds_ev (ts[j]).f0 (ofL y.f0) (show (1 : Nat) ≤ 4294967000 by omega) (fun x hx' => by
      obtain rfl := List.mem_singleton.1 hx'
      refine ⟨show (19 : Nat) ≤ 4294967000 by omega, ?_⟩
      show ((⟨#[66, 101, 97, 114, 101, 114, 32]⟩ : ByteArray) ++ y.f0).size ≤ _
      rw [size_app]
      show 7 + y.f0.size ≤ _
      omega)
    rw [holds_of _ _ hmay] at hH
    have hq : decide (y.f0.data.toList = (ts[j]).f0.data.toList) = ((i : Int) == (j : Int)) := by
      by_cases e : i = j
      · subst e
        have : y = ts[i] := by rw [hz] at hy; exact (Option.some.inj hy).symm
        rw [← this]; simp
      · have hne : y.f0.data.toList ≠ (ts[j]).f0.data.toList := by
          have ey : y = ts[i] := by rw [List.getElem?_eq_getElem hil] at hy; exact (Option.some.inj hy).symm
          rw [ey]
          rcases Nat.lt_or_gt_of_ne e with h | h
          · exact List.pairwise_iff_getElem.1 hp i j hil hjl h
          · exact fun q => List.pairwise_iff_getElem.1 hp j i hjl hil h q.symm
        rw [decide_eq_false hne]
        symm
        simp; omega
    rw [hq] at hH
    refine Ev.step (g := fun k => (auth_Holds.f k (ts[j]).f0 (ofL y.f0)).bind fun b => if (b != ((i : Int) == (j : Int))) = true then some false else tollhouselaw15_AuthApart.l1 k l (n : Int) (i : Int) ((j + 1 : Nat) : Int) ts s t) (fun k => ?_) (Ev.bind hH (Ev.same (fun k => ?_) ih))
    · simp only [tollhouselaw15_AuthApart.l1]
      rw [if_pos (by omega), if_pos (by omega), if_pos (by omega), if_pos (by omega), rd_tenant ts i y hy, rd_tenant ts j _ hz, of_eq y.f0 (by omega), wrap_succ (by omega)]
      rfl
    · rw [if_neg (by simp)]
theorem apart_l0 (l : List S48) (hfl : l.length ≤ 4294967000) (hfx : ∀ x ∈ l, x.f0.size ≤ 4294967000 ∧ x.f1.size ≤ 4294967000) (ts : List S27) (s t : Int) (hl : ts.length ≤ 4294960000) (hx : ∀ x ∈ ts, sizedT x) (hp : ts.Pairwise (fun x y => x.f0.data.toList ≠ y.f0.data.toList)) (ht : ∀ x ∈ ts, tenantR x = true) :
    ∀ (u : List S27) (i : Nat), ts.drop i = u → i ≤ ts.length → Ev (fun k => tollhouselaw15_AuthApart.l0 k l (heldN l (ts.take i) : Int) (i : Int) ts s t) true
  | [], i, hd, hi => by
    have hil : ts.length ≤ i := by
      have := congrArg List.length hd
      simp at this; omega
    have hh := held_le l ts hp
    refine Ev.step (g := fun k => (tollhouselaw15_wakes.f k).bind fun t => some t) (fun k => ?_) (Ev.bind wakes15 (Ev.const fun _ => rfl))
    simp only [tollhouselaw15_AuthApart.l0]
    rw [if_neg (by omega), List.take_of_length_le hil, if_pos (by omega)]
  | y :: u, i, hd, hi => by
    have hil : i < ts.length := by
      have := congrArg List.length hd
      simp at this; omega
    have hiy : ts[i]? = some y := by
      have : (ts.drop i)[0]? = some y := by rw [hd]; rfl
      rw [List.getElem?_drop] at this
      simpa using this
    have ht2 : ts.drop (i + 1) = u := by rw [← List.drop_drop, hd]; rfl
    have ih := apart_l0 l hfl hfx ts s t hl hx hp ht u (i + 1) ht2 (by omega)
    have etk : ts.take (i + 1) = ts.take i ++ [y] := by rw [List.take_add_one, hiy]; rfl
    have hn : heldN l (ts.take i) ≤ 4294967296 := by
      unfold heldN
      have h1 := List.length_filter_le (fun t => holdsB t.f0 l) (ts.take i)
      rw [List.length_take] at h1; omega
    rw [etk, heldN_snoc] at ih
    have hH := holds_ev y.f0 l hfl hfx
    refine Ev.step (g := fun k => (auth_Holds.f k y.f0 l).bind fun b => if b = true then tollhouselaw15_AuthApart.j1 k l ((heldN l (ts.take i) + 1 : Nat) : Int) (i : Int) ts s t else tollhouselaw15_AuthApart.j1 k l (heldN l (ts.take i) : Int) (i : Int) ts s t) (fun k => ?_) (Ev.bind hH ?_)
    · simp only [tollhouselaw15_AuthApart.l0]
      rw [if_pos (by omega), if_pos (by omega), rd_tenant ts i y hiy, wrap_succ (by omega)]
    · cases h : holdsB y.f0 l with
      | true =>
        rw [h, if_pos rfl] at ih
        have h1 := apart_l1 l _ ts s t hl hx hp ht i y hiy true ih ts.length 0 (by omega) (Nat.zero_le _)
        refine Ev.same (fun k => if_pos rfl) (Ev.step (fun k => ?_) h1)
        simp only [tollhouselaw15_AuthApart.j1]; rfl
      | false =>
        rw [h, if_neg (by decide), Nat.add_zero] at ih
        have h1 := apart_l1 l _ ts s t hl hx hp ht i y hiy true ih ts.length 0 (by omega) (Nat.zero_le _)
        refine Ev.same (fun k => if_neg (by decide)) (Ev.step (fun k => ?_) h1)
        simp only [tollhouselaw15_AuthApart.j1]; rfl
theorem AuthApart_pure (ts : List S27) (s t : Int) (l : List S48) (hl : ts.length ≤ 4294960000) (hx : ∀ x ∈ ts, sizedT x) (hfl : l.length ≤ 4294967000) (hfx : ∀ x ∈ l, x.f0.size ≤ 4294967000 ∧ x.f1.size ≤ 4294967000) : ∃ k, tollhouselaw15_AuthApart.f k ts s t l = some true := by
  refine Ev.get (f := fun k => tollhouselaw15_AuthApart.f k ts s t l) ?_
  have e := config_eq ts s t hl hx
  cases hc : configB ts s t with
  | false =>
    rw [hc] at e
    refine Ev.same (g := fun k => (tollhouselaw15_wakes.f k).bind fun t => some t) (fun k => ?_) (Ev.bind wakes15 (Ev.const fun _ => rfl))
    unfold tollhouselaw15_AuthApart.f
    rw [e]; rfl
  | true =>
    rw [hc] at e
    have hg : goodTs [] ts = true := by
      unfold configB at hc
      rw [Bool.and_eq_true] at hc
      exact hc.1
    obtain ⟨hp, hq⟩ := good_parts ts [] hg
    have h0 := apart_l0 l hfl hfx ts s t hl hx hp (fun x hx => (hq x hx).1) ts 0 rfl (Nat.zero_le _)
    refine Ev.same (fun k => ?_) h0
    unfold tollhouselaw15_AuthApart.f
    rw [e]; rfl
end Go.Proofs.YthmnhbalmglohaaGreatDoor.X

namespace Go.Proofs.YthmnhbalmglohaaGreatDoor.authApart
open Go.ChangeShapes Go.WideShapes Go.ChangeAt Go.RowKit Go.Proofs.YthmnhbalmglohaaGreatDoor Go.Proofs.YthmnhbalmglohaaGreatDoor.L Go.Proofs.YthmnhbalmglohaaGreatDoor.T Go.Proofs.YthmnhbalmglohaaGreatDoorW.PrintWords
set_option linter.unusedVariables false
set_option linter.unusedSimpArgs false
set_option maxRecDepth 100000
theorem own : ownKnob Tryz.prog.godebug = none := by kernel_rfl
theorem laidOut : laidOutB Tryz.prog = true := by kernel_rfl
/-- For every argument and every world that holds the listed variables. -/
theorem contract (H : Type) (enc : TypeId × Value → H) (W : World) (base : Nat) (args : Array Value) (ds gs : List (DataW H)) (before : List MemPlace)
    (hval : ∀ (j : Nat) t v, Tryz.f5.params[j]? = some t → args[j]? = some v → Value.okWide Tryz.prog W .any base t v)
    (hW : DataW.Whole enc Tryz.prog Tryz.f5.params.toList Rows.authApartSpec.vars false W args.toList ds gs before) (B : Nat) (hB : B ≤ 1048576) (hk : Rows.uptoBulkAll (ds ++ gs) ≤ B) (hL : laidMetH Tryz.prog laidL W) (hS : W.ShapedOpen Tryz.prog) :
    Calls Tryz.prog 5 args W fun e W' => ∃ v, e = .returned v ∧ Rows.authApartSpec.post enc Tryz.prog Tryz.f5 false true false false W args v W' := by
  have hG : Glob W := L.glob hL hS
  have hW' := hW
  obtain ⟨p, q, hA0, hV, rfl, hfz, hnd⟩ := hW
  have hA : DataW.TrodAll enc Tryz.prog W 0 (fun _ => true) true Tryz.f5.params.toList args.toList ds p := hA0
  rw [Tryz.params5] at hA hval
  obtain ⟨v0, vs0, d0, ds0, p0, q0, hargs, rfl, rfl, h0, r0⟩ := trodAll_cons hA
  obtain ⟨v1, vs1, d1, ds1, p1, q1, rfl, rfl, rfl, h1, r1⟩ := trodAll_cons r0
  obtain ⟨rfl, rfl, rfl⟩ := trodAll_nil r1
  obtain rfl : args = #[v0, v1] := by cases args; simp_all
  obtain ⟨rfl, rfl⟩ := trodVars_none hV
  clear hA0
  simp only [List.cons_append, List.nil_append, List.append_nil, Rows.uptoBulkAll] at hk
  have k0 := h0
  have lt0 : ∀ x ∈ p0, x.block < W.heap.size := by obtain ⟨m, hm⟩ := k0; exact DataW.trod_lt m _ _ _ hm
  obtain ⟨fu0, hf0⟩ := h0
  obtain ⟨a0, K0, G0⟩ := X.opens_config H enc W _ _ fu0 _ _ hf0
  replace G0 := G0 B (show Rows.uptoBulk d0 ≤ B by omega)
  have hv0 : Value.okWide Tryz.prog W .any base 24 v0 := hval 0 24 v0 (by simp only [List.getElem?_toArray, List.getElem?_cons_zero, List.getElem?_cons_succ]) (by simp only [List.getElem?_toArray, List.getElem?_cons_zero, List.getElem?_cons_succ])
  obtain ⟨cs0, rfl, _⟩ := okWide_struct Tryz.underlying24 hv0
  obtain ⟨A0_0, c0_0, hcs0, l0_0, C0_0⟩ := X.k24_open K0
  have ecs0 : cs0 = List.toArray _ := (Array.toArray_toList (xs := cs0)).symm.trans (congrArg List.toArray hcs0)
  subst ecs0
  have k1 := h1
  have lt1 : ∀ x ∈ p1, x.block < W.heap.size := by obtain ⟨m, hm⟩ := k1; exact DataW.trod_lt m _ _ _ hm
  obtain ⟨fu1, hf1⟩ := h1
  obtain ⟨a1, K1, G1⟩ := (X.opens_slice Tryz.underlying33 (by kernel_rfl) X.opens_field) H enc W _ _ fu1 _ _ hf1
  replace G1 := G1 B (show Rows.uptoBulk d1 ≤ B by omega)
  have hv1 : Value.okWide Tryz.prog W .any base 33 v1 := hval 1 33 v1 (by simp only [List.getElem?_toArray, List.getElem?_cons_zero, List.getElem?_cons_succ]) (by simp only [List.getElem?_toArray, List.getElem?_cons_zero, List.getElem?_cons_succ])
  obtain ⟨ad1, len1, cap1, rfl⟩ := okWide_slice Tryz.underlying33 hv1
  obtain ⟨A1, c1, e1, l1, C1⟩ := K1
  injection (show [Value.slice ad1 len1 cap1] = [Value.slice A1 a1.length c1] from e1) with e1 _
  injection e1 with ea1 eb1 ec1; subst ea1 eb1 ec1
  have sT : ∀ x, X.good_tenant B x → X.sizedT x := fun x g => ⟨Nat.le_trans g.1 (by omega), Nat.le_trans g.2.1.1 (by omega), fun y hy => ⟨Nat.le_trans (g.2.1.2 y hy).2.1 (by omega), Nat.le_trans (g.2.1.2 y hy).2.2.2.2.1 (by omega), fun z hz => Nat.le_trans ((g.2.1.2 y hy).2.2.2.2.2 z hz) (by omega)⟩⟩
  obtain ⟨k_, hp⟩ := X.AuthApart_pure a0.f0 a0.f1 a0.f2 a1 (Nat.le_trans G0.1.1 (by omega)) (fun x hx => sT x (G0.1.2 x hx)) (Nat.le_trans G1.1 (by omega)) (fun x hx => ⟨Nat.le_trans (G1.2 x hx).1 (by omega), Nat.le_trans (G1.2 x hx).2 (by omega)⟩)
  refine (X.tollhouselaw15_AuthApart.calls _ _ _ _ _ _ _ _ _ _ _ C0_0 l0_0 C1 l1 hG hp).mono ?_
  rintro e W' ⟨he, bel0⟩
  have bel : Below W.heap.size W W' := bel0
  subst he
  exact ⟨_, rfl, _, _, _, [], _, [], hW', trodAll_mk1 (shut_bool Tryz.underlying4 _), (trodAll_cons_mk (Below.trod laidOut (by kernel_rfl) (of_decide_eq_true (by kernel_rfl)) k0 bel lt0) (trodAll_cons_mk (Below.trod laidOut (by kernel_rfl) (of_decide_eq_true (by kernel_rfl)) k1 bel lt1) trodAll_mk0)), rfl, bel.frame _, fun h => by cases h⟩
theorem reads (os : Os) {H : Type} (enc : TypeId × Value → H) : ∃ places, DataW.whole enc Tryz.prog ((laidWorld os).forCall (fun _ _ => 0) ⟨#[], #[.agg #[.slice none 0 0, .int .i64 0, .int .i64 0], .slice none 0 0], []⟩).memory Tryz.f5.params.toList Rows.authApartSpec.vars false (#[.agg #[.slice none 0 0, .int .i64 0, .int .i64 0], .slice none 0 0] : Array Value).toList 8 = some ([.agg [.nil, .lit (.int .i64 0), .lit (.int .i64 0)], .nil], [], places) :=
  ⟨[], by kernel_rfl⟩
theorem liftedUpto (os : Os) (started : os.Started) (H : Type) (enc : TypeId × Value → H) (F : Stop.Interp) :
    ReturnsInHanded {} Tryz.checked os 5 .any ((Rows.OpenSpec.upto Rows.authApartSpec).preRow enc Tryz.prog Tryz.f5 Rows.authApartUptoRow.domain false Rows.authApartUptoRow.laid) (((Rows.OpenSpec.upto Rows.authApartSpec).at F).post enc Tryz.prog Tryz.f5 false true false false) := by
  obtain ⟨places, hx⟩ := reads os enc
  refine returnsInHanded_of_row (C := Tryz.checked) (s := Rows.OpenSpec.upto Rows.authApartSpec) own started (by kernel_rfl) Tryz.func5
    (witness_row_atRef (enc := enc) (C := Tryz.checked) false (laidWorld os) #[.agg #[.slice none 0 0, .int .i64 0, .int .i64 0], .slice none 0 0] rfl (by kernel_rfl) (by kernel_rfl) (by kernel_rfl)
      (OpenSpec.preRow_of_cond 8 hx (by kernel_rfl) (fun k hk => by cases hk; kernel_rfl) (by kernel_rfl) (laid_met os _))) ?_
  intro W base args ds gs before hval hW _ hk _ hL hS _
  exact contract H enc W base args ds gs before hval hW 1048576 (Nat.le_refl _) (of_decide_eq_true (hk _ rfl)) hL hS
theorem saidUpto : Rows.AuthApartUptoSaid :=
  OpenClaim.holds_of_cond 5 Tryz.f5 rfl rfl rfl rfl rfl rfl rfl ⟨rfl, rfl, rfl, rfl, rfl⟩ rfl rfl rfl rfl rfl (by kernel_rfl) Tryz.func5 (by kernel_rfl)
    (of_decide_eq_true (by kernel_rfl)) (by unfold Func.isWrapper; first | (rw [if_pos (by decide +kernel)]; kernel_rfl) | (rw [if_neg (by decide +kernel)]; exact ⟨rfl, rfl⟩))
    (fun os started H enc _ F => by rw [OpenClaim.pre_eq_preRow]; exact liftedUpto os started H enc F)
theorem plain (f : FuncId) (fn : Func) (hf : Tryz.pinned.checked.prog.funcNamed "tollhouse/tollhouselaw15.AuthApart" = some f) (hfn : Tryz.pinned.checked.prog.funcs[f]? = some fn) :
    true = Tryz.pinned.checked.prog.looks [] ∧ ∀ (j : Nat) t, fn.params[j]? = some t → Tryz.pinned.checked.prog.wantsStandIn t = false := by
  obtain rfl : f = 5 := Option.some.inj ((show Tryz.prog.funcNamed "tollhouse/tollhouselaw15.AuthApart" = some 5 by kernel_rfl).symm.trans hf) |>.symm
  obtain rfl : fn = Tryz.f5 := (Option.some.inj (Tryz.func5.symm.trans hfn)).symm
  refine ⟨by kernel_rfl, fun j t ht => ?_⟩
  rw [Tryz.params5] at ht
  have s24 : Tryz.prog.wantsStandIn 24 = false := by kernel_rfl
  have s33 : Tryz.prog.wantsStandIn 33 = false := by kernel_rfl
  have hm := Array.mem_of_getElem? ht
  simp only [List.mem_toArray, List.mem_cons, List.not_mem_nil, or_false] at hm
  rcases hm with rfl | rfl
  · exact s24
  · exact s33
/-- THE CARD OF THE BOUNDED FORM. -/
theorem cardUpto : Rows.AuthApartUptoCardSaid :=
  Claim7.holds_tied_plain_at .later [] _ _ _ _ saidUpto (fun _ h => by cases h) (by kernel_rfl) (fun _ h => by cases h) authApartUpto_row_tie rfl ⟨rfl, rfl⟩ (by kernel_rfl) rfl plain (by kernel_rfl)
#print axioms cardUpto
end Go.Proofs.YthmnhbalmglohaaGreatDoor.authApart
namespace Go.Proofs.YthmnhbalmglohaaGreatDoor
/-- The statement, under a short name. -/
theorem authApart_card : Rows.AuthApartUptoCardSaid := authApart.cardUpto
end Go.Proofs.YthmnhbalmglohaaGreatDoor
