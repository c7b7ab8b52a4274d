/- A part of the proof of the law AuthHolds: contracts of functions that it reaches, and plain lemmas. -/
import Derived.Test.YthmnhbalmglohaaGreatDoorMAuthHolds1
import Derived.Test.YthmnhbalmglohaaGreatDoorMAuthHolds5
import Derived.Test.YthmnhbalmglohaaGreatDoorMAuthHolds2
import Derived.Test.YthmnhbalmglohaaGreatDoorMAuthHolds4
-- PRINTED by print.py (a twelfth state) out of the translation. Not trusted: Lean checks it.
namespace Go.Proofs.YthmnhbalmglohaaGreatDoor.X
open Go.RowKit Go.Proofs.YthmnhbalmglohaaGreatDoorW.PrintWords Go.Proofs.YthmnhbalmglohaaGreatDoorW.PrintLast Go.Proofs.YthmnhbalmglohaaGreatDoorW.PrintMore
attribute [local go_sem] max2_int min2_int max_two min_two max_three min_three max_four min_four   -- for this text's walks alone
set_option linter.unusedVariables false
set_option linter.unusedSimpArgs false
open Go.Proofs.YthmnhbalmglohaaGreatDoor.T

/-! ### tollhouseref14_May: function 45 -/
mutual
def tollhouseref14_May.j0 : Nat → ByteArray → Bool → Bool → ByteArray → Int → Int → List ByteArray → Option (Bool)
  | 0, _, _, _, _, _, _, _ => none
  | k + 1, x3, x14, x118000, x118001, x118002, x118003, x118004 => if x14 = true then (if 1 ≤ (x3.size : Int) then (tollhouseref14_May.j1 k (x3.extract 1 x3.size) x118000 x118001 x118002 x118003 x118004) else (none)) else (tollhouseref14_May.j1 k x3 x118000 x118001 x118002 x118003 x118004)
def tollhouseref14_May.j1 : Nat → ByteArray → Bool → ByteArray → Int → Int → List ByteArray → Option (Bool)
  | 0, _, _, _, _, _, _ => none
  | k + 1, x3, x118000, x118001, x118002, x118003, x118004 => if x118001.toList = ([42] : List UInt8) then (tollhouseref14_May.j2 k false x118000 x118001 x118002 x118003 x118004) else ((tollhouseref10_Named.f k x3).bind fun t118 => (tollhouseref14_May.j2 k (!t118) x118000 x118001 x118002 x118003 x118004))
def tollhouseref14_May.j2 : Nat → Bool → Bool → ByteArray → Int → Int → List ByteArray → Option (Bool)
  | 0, _, _, _, _, _, _ => none
  | k + 1, x24, x118000, x118001, x118002, x118003, x118004 => if x24 = true then (some false) else (if x118002 < 1 then (tollhouseref14_May.j3 k true x118000 x118001 x118002 x118003 x118004) else (if x118003 > 65535 then (tollhouseref14_May.j3 k true x118000 x118001 x118002 x118003 x118004) else (if x118002 > x118003 then (tollhouseref14_May.j3 k true x118000 x118001 x118002 x118003 x118004) else (tollhouseref14_May.j3 k (decide ((x118004.length : Int) > 8)) x118000 x118001 x118002 x118003 x118004))))
def tollhouseref14_May.j3 : Nat → Bool → Bool → ByteArray → Int → Int → List ByteArray → Option (Bool)
  | 0, _, _, _, _, _, _ => none
  | k + 1, x45, x118000, x118001, x118002, x118003, x118004 => if x45 = true then (some false) else (tollhouseref14_May.l0 k 0 x118000 x118001 x118002 x118003 x118004)
def tollhouseref14_May.l0 : Nat → Int → Bool → ByteArray → Int → Int → List ByteArray → Option (Bool)
  | 0, _, _, _, _, _, _ => none
  | k + 1, x4, x118000, x118001, x118002, x118003, x118004 => if x4 < (x118004.length : Int) then (if 0 ≤ x4 then ((tollhouseref02_Token.f (rdOf ByteArray.empty x118004 x4)).bind fun t120 => (if t120 = true then (tollhouseref14_May.l0 k (wrap64 (x4 + 1)) x118000 x118001 x118002 x118003 x118004) else (some false))) else (none)) else (some true)
end
def tollhouseref14_May.f (k : Nat) (a0_0 : Bool) (a0_1 : ByteArray) (a0_2 : Int) (a0_3 : Int) (l0_4 : List ByteArray) : Option (Bool) := if (a0_1.size : Int) > 1 then (if 0 < (a0_1.size : Int) then (tollhouseref14_May.j0 k a0_1 ((bt a0_1 0) == 46) a0_0 a0_1 a0_2 a0_3 l0_4) else (none)) else (tollhouseref14_May.j0 k a0_1 false a0_0 a0_1 a0_2 a0_3 l0_4)
theorem tollhouseref14_May.mono_l : ∀ k, (∀ y0 y1 y2 y3 y4 y5 y6, LeO (tollhouseref14_May.j0 k y0 y1 y2 y3 y4 y5 y6) (tollhouseref14_May.j0 (k + 1) y0 y1 y2 y3 y4 y5 y6)) ∧ (∀ y0 y1 y2 y3 y4 y5, LeO (tollhouseref14_May.j1 k y0 y1 y2 y3 y4 y5) (tollhouseref14_May.j1 (k + 1) y0 y1 y2 y3 y4 y5)) ∧ (∀ y0 y1 y2 y3 y4 y5, LeO (tollhouseref14_May.j2 k y0 y1 y2 y3 y4 y5) (tollhouseref14_May.j2 (k + 1) y0 y1 y2 y3 y4 y5)) ∧ (∀ y0 y1 y2 y3 y4 y5, LeO (tollhouseref14_May.j3 k y0 y1 y2 y3 y4 y5) (tollhouseref14_May.j3 (k + 1) y0 y1 y2 y3 y4 y5)) ∧ (∀ y0 y1 y2 y3 y4 y5, LeO (tollhouseref14_May.l0 k y0 y1 y2 y3 y4 y5) (tollhouseref14_May.l0 (k + 1) y0 y1 y2 y3 y4 y5))
  | 0 => ⟨fun _ _ _ _ _ _ _ r h => by simp [tollhouseref14_May.j0] at h, fun _ _ _ _ _ _ r h => by simp [tollhouseref14_May.j1] at h, fun _ _ _ _ _ _ r h => by simp [tollhouseref14_May.j2] at h, fun _ _ _ _ _ _ r h => by simp [tollhouseref14_May.j3] at h, fun _ _ _ _ _ _ r h => by simp [tollhouseref14_May.l0] at h⟩
  | k + 1 => by
    obtain ⟨ih0, ih1, ih2, ih3, ih4⟩ := tollhouseref14_May.mono_l k
    refine ⟨?_, ?_, ?_, ?_, ?_⟩
    · intro y0 y1 y2 y3 y4 y5 y6
      unfold tollhouseref14_May.j0
      repeat' first
      | (with_reducible exact ih0 _ _ _ _ _ _ _)
      | (with_reducible exact ih1 _ _ _ _ _ _)
      | (with_reducible exact ih2 _ _ _ _ _ _)
      | (with_reducible exact ih3 _ _ _ _ _ _)
      | (with_reducible exact ih4 _ _ _ _ _ _)
      | (with_reducible exact tollhouseref10_Named.mono _ _)
      | (with_reducible exact LeO.refl _)
      | (with_reducible exact LeO.none _)
      | (with_reducible refine LeO.ite ?_ ?_)
      | (with_reducible refine LeO.bind ?_ (fun _ => ?_))
      | exact ih0 _ _ _ _ _ _ _
      | exact ih1 _ _ _ _ _ _
      | exact ih2 _ _ _ _ _ _
      | exact ih3 _ _ _ _ _ _
      | exact ih4 _ _ _ _ _ _
      | exact tollhouseref10_Named.mono _ _
      | exact LeO.none _
      | refine LeO.ite ?_ ?_
      | refine LeO.bind ?_ (fun _ => ?_)
    · intro y0 y1 y2 y3 y4 y5
      unfold tollhouseref14_May.j1
      repeat' first
      | (with_reducible exact ih0 _ _ _ _ _ _ _)
      | (with_reducible exact ih1 _ _ _ _ _ _)
      | (with_reducible exact ih2 _ _ _ _ _ _)
      | (with_reducible exact ih3 _ _ _ _ _ _)
      | (with_reducible exact ih4 _ _ _ _ _ _)
      | (with_reducible exact tollhouseref10_Named.mono _ _)
      | (with_reducible exact LeO.refl _)
      | (with_reducible exact LeO.none _)
      | (with_reducible refine LeO.ite ?_ ?_)
      | (with_reducible refine LeO.bind ?_ (fun _ => ?_))
      | exact ih0 _ _ _ _ _ _ _
      | exact ih1 _ _ _ _ _ _
      | exact ih2 _ _ _ _ _ _
      | exact ih3 _ _ _ _ _ _
      | exact ih4 _ _ _ _ _ _
      | exact tollhouseref10_Named.mono _ _
      | exact LeO.none _
      | refine LeO.ite ?_ ?_
      | refine LeO.bind ?_ (fun _ => ?_)
    · intro y0 y1 y2 y3 y4 y5
      unfold tollhouseref14_May.j2
      repeat' first
      | (with_reducible exact ih0 _ _ _ _ _ _ _)
      | (with_reducible exact ih1 _ _ _ _ _ _)
      | (with_reducible exact ih2 _ _ _ _ _ _)
      | (with_reducible exact ih3 _ _ _ _ _ _)
      | (with_reducible exact ih4 _ _ _ _ _ _)
      | (with_reducible exact tollhouseref10_Named.mono _ _)
      | (with_reducible exact LeO.refl _)
      | (with_reducible exact LeO.none _)
      | (with_reducible refine LeO.ite ?_ ?_)
      | (with_reducible refine LeO.bind ?_ (fun _ => ?_))
      | exact ih0 _ _ _ _ _ _ _
      | exact ih1 _ _ _ _ _ _
      | exact ih2 _ _ _ _ _ _
      | exact ih3 _ _ _ _ _ _
      | exact ih4 _ _ _ _ _ _
      | exact tollhouseref10_Named.mono _ _
      | exact LeO.none _
      | refine LeO.ite ?_ ?_
      | refine LeO.bind ?_ (fun _ => ?_)
    · intro y0 y1 y2 y3 y4 y5
      unfold tollhouseref14_May.j3
      repeat' first
      | (with_reducible exact ih0 _ _ _ _ _ _ _)
      | (with_reducible exact ih1 _ _ _ _ _ _)
      | (with_reducible exact ih2 _ _ _ _ _ _)
      | (with_reducible exact ih3 _ _ _ _ _ _)
      | (with_reducible exact ih4 _ _ _ _ _ _)
      | (with_reducible exact tollhouseref10_Named.mono _ _)
      | (with_reducible exact LeO.refl _)
      | (with_reducible exact LeO.none _)
      | (with_reducible refine LeO.ite ?_ ?_)
      | (with_reducible refine LeO.bind ?_ (fun _ => ?_))
      | exact ih0 _ _ _ _ _ _ _
      | exact ih1 _ _ _ _ _ _
      | exact ih2 _ _ _ _ _ _
      | exact ih3 _ _ _ _ _ _
      | exact ih4 _ _ _ _ _ _
      | exact tollhouseref10_Named.mono _ _
      | exact LeO.none _
      | refine LeO.ite ?_ ?_
      | refine LeO.bind ?_ (fun _ => ?_)
    · intro y0 y1 y2 y3 y4 y5
      unfold tollhouseref14_May.l0
      repeat' first
      | (with_reducible exact ih0 _ _ _ _ _ _ _)
      | (with_reducible exact ih1 _ _ _ _ _ _)
      | (with_reducible exact ih2 _ _ _ _ _ _)
      | (with_reducible exact ih3 _ _ _ _ _ _)
      | (with_reducible exact ih4 _ _ _ _ _ _)
      | (with_reducible exact tollhouseref10_Named.mono _ _)
      | (with_reducible exact LeO.refl _)
      | (with_reducible exact LeO.none _)
      | (with_reducible refine LeO.ite ?_ ?_)
      | (with_reducible refine LeO.bind ?_ (fun _ => ?_))
      | exact ih0 _ _ _ _ _ _ _
      | exact ih1 _ _ _ _ _ _
      | exact ih2 _ _ _ _ _ _
      | exact ih3 _ _ _ _ _ _
      | exact ih4 _ _ _ _ _ _
      | exact tollhouseref10_Named.mono _ _
      | exact LeO.none _
      | refine LeO.ite ?_ ?_
      | refine LeO.bind ?_ (fun _ => ?_)
theorem tollhouseref14_May.mono : ∀ a0 a1 a2 a3 a4 k, LeO (tollhouseref14_May.f k a0 a1 a2 a3 a4) (tollhouseref14_May.f (k + 1) a0 a1 a2 a3 a4) := by
  intro a0 a1 a2 a3 a4 k
  obtain ⟨ih0, ih1, ih2, ih3, ih4⟩ := tollhouseref14_May.mono_l k
  unfold tollhouseref14_May.f
  repeat' first
      | (with_reducible exact ih0 _ _ _ _ _ _ _)
      | (with_reducible exact ih1 _ _ _ _ _ _)
      | (with_reducible exact ih2 _ _ _ _ _ _)
      | (with_reducible exact ih3 _ _ _ _ _ _)
      | (with_reducible exact ih4 _ _ _ _ _ _)
      | (with_reducible exact tollhouseref10_Named.mono _ _)
      | (with_reducible exact LeO.refl _)
      | (with_reducible exact LeO.none _)
      | (with_reducible refine LeO.ite ?_ ?_)
      | (with_reducible refine LeO.bind ?_ (fun _ => ?_))
      | exact ih0 _ _ _ _ _ _ _
      | exact ih1 _ _ _ _ _ _
      | exact ih2 _ _ _ _ _ _
      | exact ih3 _ _ _ _ _ _
      | exact ih4 _ _ _ _ _ _
      | exact tollhouseref10_Named.mono _ _
      | exact LeO.none _
      | refine LeO.ite ?_ ?_
      | refine LeO.bind ?_ (fun _ => ?_)
set_option maxHeartbeats 8000000 in
set_option maxRecDepth 100000 in
theorem tollhouseref14_May.calls (k : Nat) (a0_0 : Bool) (a0_1 : ByteArray) (a0_2 : Int) (a0_3 : Int) (A0_4 : Option Addr) (c0_4 : Nat) (l0_4 : List ByteArray) (r : Bool) (w : World) (hr0_4 : Kd.C Kd.string w A0_4 l0_4.length l0_4) (hc0_4 : l0_4.length ≤ c0_4) (HGg : Glob w) (h : tollhouseref14_May.f k a0_0 a0_1 a0_2 a0_3 l0_4 = some r) :
    Calls Tryz.prog 45 #[.agg #[.bool a0_0, .string a0_1, .int .i64 a0_2, .int .i64 a0_3, .slice A0_4 l0_4.length c0_4]] w fun e w' => e = .returned (.bool r) ∧ Below w.heap.size w w' := by
  have hu46 := Tryz.underlying46
  have HGl := Aside0.mk HGg
  clear HGg
  have HR0_4 := Aside0.mk hr0_4
  have HC0_4 := Aside0.mk hc0_4
  clear hr0_4 hc0_4
  have HB := Aside0.mk (Below.refl w.heap.size w)
  have H : (if (a0_1.size : Int) > 1 then (if 0 < (a0_1.size : Int) then (tollhouseref14_May.j0 k a0_1 ((bt a0_1 0) == 46) a0_0 a0_1 a0_2 a0_3 l0_4) else (none)) else (tollhouseref14_May.j0 k a0_1 false a0_0 a0_1 a0_2 a0_3 l0_4)) = some r := h
  clear h
  have HC2 := Aside0.mk H
  clear H
  go_enter Tryz.func45, Tryz.ntmps45
  go_upto_region 2 with (first | ((with_reducible refine gate_dst (N := 1) rfl ?_); (try (refine gate_guard (by rfl) ?_; dsimp only)); refine box_event ?hg (N := 1) ?hd (cs := #[.bool a0_0, .string a0_1, .int .i64 a0_2, .int .i64 a0_3, .slice A0_4 l0_4.length c0_4]) (t := 46) ?hr ?_; (case hd => rfl); (case hg => rfl); (case hr => first | (go_simp; done) | (go_simp; rfl)); intro gb117 hg w3 hbox hb; have n0_ := Aside0.mk (below_step (by repeat (first | (with_reducible first | exact HB.out | apply below_alloc | apply pw_below_drewN | apply below_drew1) | exact HB.out)) hb); have n1_ := Aside0.mk (hbox); have n2_ := Aside0.mk ((by rw [hg]; exact (below_size (by repeat (first | (with_reducible first | exact HB.out | apply below_alloc | apply pw_below_drewN | apply below_drew1) | exact HB.out))) : w.heap.size ≤ gb117)); have n3_ := Aside0.mk ((by rw [hg]; exact (below_size (by repeat (first | (with_reducible first | exact HB.out | apply below_alloc | apply pw_below_drewN | apply below_drew1) | exact HB.out))) : w.heap.size ≤ gb117)); clear HB; have HB := n0_; have BK117 := n1_; have GW117 := n2_; have GE117 := n3_; clear n0_ n1_ n2_ n3_; clear hb hbox hg; have hcz4_0 : w3.cell? ⟨gb117, 0, none⟩ = some (.bool a0_0) := (blk_cell BK117.out 0).trans rfl; have hcz4_1 : w3.cell? ⟨gb117, 1, none⟩ = some (.string a0_1) := (blk_cell BK117.out 1).trans rfl; have hcz4_2 : w3.cell? ⟨gb117, 2, none⟩ = some (.int .i64 a0_2) := (blk_cell BK117.out 2).trans rfl; have hcz4_3 : w3.cell? ⟨gb117, 3, none⟩ = some (.int .i64 a0_3) := (blk_cell BK117.out 3).trans rfl; have hcz4_4 : w3.cell? ⟨gb117, 4, none⟩ = some (.slice A0_4 l0_4.length c0_4) := (blk_cell BK117.out 4).trans rfl; have hfz4_0 := blk_frozen BK117.out 0; have hfz4_1 := blk_frozen BK117.out 1; have hfz4_2 := blk_frozen BK117.out 2; have hfz4_3 := blk_frozen BK117.out 3; have hfz4_4 := blk_frozen BK117.out 4))
  (try simp only [Act.put, List.setIfInBounds_toArray, List.set_cons_zero, List.set_cons_succ])
  go_cut [14] (fun v14 wc => ∃ (kq : Nat) (x14_1 : Bool), v14 = .bool x14_1 ∧ Aside0 (tollhouseref14_May.j0 kq a0_1 x14_1 a0_0 a0_1 a0_2 a0_3 l0_4 = some r) ∧ Aside0 (kq ≤ k) ∧ Aside0 (wc.heap[gb117]? = some (.cells #[.bool a0_0, .string a0_1, .int .i64 a0_2, .int .i64 a0_3, (.slice A0_4 l0_4.length c0_4)] 46 (0, 0))) ∧ Aside0 (Below w.heap.size w wc))
  case first =>
    have H := HC2.out
    clear HC2
    by_cases c5 : (a0_1.size : Int) > 1
    · rw [if_pos c5] at H
      have c5b0 : decide (1 < (a0_1.size : Int)) = true := decide_eq_true c5
      have c5b1 : decide (1 < a0_1.size) = true := decide_eq_true (by omega)
      clear c5
      (first | rw [c5b0] | (simp only [i64_w, i32_w]; rw [c5b0]) | skip)
      by_cases c6 : 0 < (a0_1.size : Int)
      · rw [if_pos c6] at H
        have c6b0 : decide (0 < (a0_1.size : Int)) = true := decide_eq_true c6
        have c6b1 : decide (0 < a0_1.size) = true := decide_eq_true (by omega)
        clear c6
        have H' := Aside0.mk H
        clear H
        have p7 : 0 ≤ (0 : Int) := (by omega)
        have q7 : 0 < a0_1.size := (by have : (0 : Int) < (a0_1.size : Int) := of_decide_eq_true (by first | (with_reducible assumption) | assumption); omega)
        have hx7 : ∀ h : 0 < a0_1.size, ((a0_1[0]'h).toNat : Int) = bt a0_1 0 := bt_at a0_1 0
        clear p7
        have qi7 : (0 < (a0_1.size : Int)) = True := eq_true (of_decide_eq_true (by first | (with_reducible assumption) | assumption))
        replace q7 := eq_true q7
        go_wp2
        go_meet
        case rel => exact ⟨_, (((bt a0_1 0) == 46)), (by first | rfl | (simp; done) | (simp [*]; done)), H', ⟨by first | omega | exact Nat.le_refl _⟩, ⟨by (with_reducible repeat (first | refine blk_drewN ?_ _ | refine blk_drew ?_ | refine blk_alloc ?_ _)); exact BK117.out⟩, ⟨by repeat (first | (with_reducible first | exact HB.out | apply below_alloc | apply pw_below_drewN | apply below_drew1 | refine below_set ?_ GE117.out) | exact HB.out)⟩⟩
      · rw [if_neg c6] at H
        exact absurd H (by simp)
    · rw [if_neg c5] at H
      have c5b0 : decide (1 < (a0_1.size : Int)) = false := decide_eq_false c5
      have c5b1 : decide (1 < a0_1.size) = false := decide_eq_false (by omega)
      clear c5
      (first | rw [c5b0] | (simp only [i64_w, i32_w]; rw [c5b0]) | skip)
      have H' := Aside0.mk H
      clear H
      go_wp2
      go_meet
      case rel => exact ⟨_, (false), (by first | rfl | (simp; done) | (simp [*]; done)), H', ⟨by first | omega | exact Nat.le_refl _⟩, ⟨by (with_reducible repeat (first | refine blk_drewN ?_ _ | refine blk_drew ?_ | refine blk_alloc ?_ _)); exact BK117.out⟩, ⟨by repeat (first | (with_reducible first | exact HB.out | apply below_alloc | apply pw_below_drewN | apply below_drew1 | refine below_set ?_ GE117.out) | exact HB.out)⟩⟩
  case rest =>
    clear HC2
    try clear p2
    try clear c4
    try clear c5
    try clear c5b0
    try clear c5b1
    try clear c6
    try clear c6b0
    try clear c6b1
    try clear p7
    try clear q7
    try clear hx7
    try clear qi7
    try clear hcz4_0
    try clear hcz4_1
    try clear hcz4_2
    try clear hcz4_3
    try clear hcz4_4
    try clear hfz4_0
    try clear hfz4_1
    try clear hfz4_2
    try clear hfz4_3
    try clear hfz4_4
    try clear p7
    try clear q7
    obtain ⟨kq, x14_1, rfl, HA, HJ1, BK117, HB⟩ := hcut
    cases kq with
    | zero => exact absurd HA.out (by simp [tollhouseref14_May.j0])
    | succ kj1 =>
      have H := HA.out
      clear HA
      simp only [tollhouseref14_May.j0] at H
      have HC8 := Aside0.mk H
      clear H
      go_upto_if 14 with (fail)
      go_cut [3] (fun v3 wc => ∃ (kq : Nat) (x3_7 : ByteArray), v3 = .string x3_7 ∧ Aside0 (tollhouseref14_May.j1 kq x3_7 a0_0 a0_1 a0_2 a0_3 l0_4 = some r) ∧ Aside0 (kq ≤ kj1) ∧ Aside0 (wc.heap[gb117]? = some (.cells #[.bool a0_0, .string a0_1, .int .i64 a0_2, .int .i64 a0_3, (.slice A0_4 l0_4.length c0_4)] 46 (0, 0))) ∧ Aside0 (Below w.heap.size w wc))
      case first =>
        have H := HC8.out
        clear HC8
        by_cases c9 : x14_1 = true
        · subst c9
          have H1 : (if 1 ≤ (a0_1.size : Int) then (tollhouseref14_May.j1 kj1 (a0_1.extract 1 a0_1.size) a0_0 a0_1 a0_2 a0_3 l0_4) else (none)) = some r := by rw [if_pos rfl] at H; exact H
          clear H
          have H := H1
          clear H1
          by_cases c10 : 1 ≤ (a0_1.size : Int)
          · rw [if_pos c10] at H
            have c10b0 := eq_true c10
            have c10b1 : decide (1 ≤ (a0_1.size : Int)) = true := decide_eq_true c10
            clear c10
            have H' := Aside0.mk H
            clear H
            go_wp2
            go_meet
            case rel => exact ⟨_, (a0_1.extract 1 a0_1.size), (by first | rfl | (simp; done) | (simp [*]; done)), H', ⟨by have := HJ1.out; first | omega | exact Nat.le_refl _⟩, ⟨by (with_reducible repeat (first | refine blk_drewN ?_ _ | refine blk_drew ?_ | refine blk_alloc ?_ _)); exact BK117.out⟩, ⟨by repeat (first | (with_reducible first | exact HB.out | apply below_alloc | apply pw_below_drewN | apply below_drew1 | refine below_set ?_ GE117.out) | exact HB.out)⟩⟩
          · rw [if_neg c10] at H
            exact absurd H (by simp)
        · replace c9 := Bool.eq_false_iff.mpr c9
          subst c9
          have H1 : (tollhouseref14_May.j1 kj1 a0_1 a0_0 a0_1 a0_2 a0_3 l0_4) = some r := by rw [if_neg (show ¬ (false = true) by decide)] at H; exact H
          clear H
          have H := H1
          clear H1
          have H' := Aside0.mk H
          clear H
          go_wp2
          go_meet
          case rel => exact ⟨_, (a0_1), (by first | rfl | (simp; done) | (simp [*]; done)), H', ⟨by have := HJ1.out; first | omega | exact Nat.le_refl _⟩, ⟨by (with_reducible repeat (first | refine blk_drewN ?_ _ | refine blk_drew ?_ | refine blk_alloc ?_ _)); exact BK117.out⟩, ⟨by repeat (first | (with_reducible first | exact HB.out | apply below_alloc | apply pw_below_drewN | apply below_drew1 | refine below_set ?_ GE117.out) | exact HB.out)⟩⟩
      case rest =>
        clear HC8
        try clear c1
        try clear p2
        try clear c4
        try clear c5
        try clear c5b0
        try clear c5b1
        try clear c6
        try clear c6b0
        try clear c6b1
        try clear p7
        try clear q7
        try clear hx7
        try clear qi7
        try clear c9
        try clear c10
        try clear c10b0
        try clear c10b1
        try clear hcz4_0
        try clear hcz4_1
        try clear hcz4_2
        try clear hcz4_3
        try clear hcz4_4
        try clear hfz4_0
        try clear hfz4_1
        try clear hfz4_2
        try clear hfz4_3
        try clear hfz4_4
        try clear p2
        try clear p7
        try clear q7
        obtain ⟨kq, x3_7, rfl, HA, HJ7, BK117, HB⟩ := hcut
        cases kq with
        | zero => exact absurd HA.out (by simp [tollhouseref14_May.j1])
        | succ kj7 =>
          have H := HA.out
          clear HA
          simp only [tollhouseref14_May.j1] at H
          have HC11 := Aside0.mk H
          clear H
          go_upto_region 4 with (fail)
          go_cut [24] (fun v24 wc => ∃ (kq : Nat) (x24_10 : Bool), v24 = .bool x24_10 ∧ Aside0 (tollhouseref14_May.j2 kq x24_10 a0_0 a0_1 a0_2 a0_3 l0_4 = some r) ∧ Aside0 (kq ≤ kj7) ∧ Aside0 (wc.heap[gb117]? = some (.cells #[.bool a0_0, .string a0_1, .int .i64 a0_2, .int .i64 a0_3, (.slice A0_4 l0_4.length c0_4)] 46 (0, 0))) ∧ Aside0 (Below w.heap.size w wc))
          case first =>
            have H := HC11.out
            clear HC11
            by_cases c12 : a0_1.toList = ([42] : List UInt8)
            · rw [if_pos c12] at H
              have c12b0 : (a0_1.toList == ([42] : List UInt8)) = true := beq_iff_eq.mpr c12
              have c12b1 : (a0_1.toList != ([42] : List UInt8)) = false := bne_eq_false_iff_eq.mpr c12
              clear c12
              (first | rw [c12b0] | (simp only [i64_w, i32_w]; rw [c12b0]) | skip)
              have H' := Aside0.mk H
              clear H
              have hcz13_0 : wc.cell? ⟨gb117, 0, none⟩ = some (.bool a0_0) := (blk_cell BK117.out 0).trans rfl
              have hcz13_1 : wc.cell? ⟨gb117, 1, none⟩ = some (.string a0_1) := (blk_cell BK117.out 1).trans rfl
              have hcz13_2 : wc.cell? ⟨gb117, 2, none⟩ = some (.int .i64 a0_2) := (blk_cell BK117.out 2).trans rfl
              have hcz13_3 : wc.cell? ⟨gb117, 3, none⟩ = some (.int .i64 a0_3) := (blk_cell BK117.out 3).trans rfl
              have hcz13_4 : wc.cell? ⟨gb117, 4, none⟩ = some (.slice A0_4 l0_4.length c0_4) := (blk_cell BK117.out 4).trans rfl
              have hfz13_0 := blk_frozen BK117.out 0
              have hfz13_1 := blk_frozen BK117.out 1
              have hfz13_2 := blk_frozen BK117.out 2
              have hfz13_3 := blk_frozen BK117.out 3
              have hfz13_4 := blk_frozen BK117.out 4
              go_wp2
              go_meet
              case rel => exact ⟨_, (false), (by first | rfl | (simp; done) | (simp [*]; done)), H', ⟨by have := HJ1.out; have := HJ7.out; first | omega | exact Nat.le_refl _⟩, ⟨by (with_reducible repeat (first | refine blk_drewN ?_ _ | refine blk_drew ?_ | refine blk_alloc ?_ _)); exact BK117.out⟩, ⟨by repeat (first | (with_reducible first | exact HB.out | apply below_alloc | apply pw_below_drewN | apply below_drew1 | refine below_set ?_ GE117.out) | exact HB.out)⟩⟩
            · rw [if_neg c12] at H
              have c12b0 : (a0_1.toList == ([42] : List UInt8)) = false := beq_eq_false_iff_ne.mpr c12
              have c12b1 : (a0_1.toList != ([42] : List UInt8)) = true := bne_iff_ne.mpr c12
              (first | rw [c12b0] | (simp only [i64_w, i32_w]; rw [c12b0]) | skip)
              replace H := Option.bind_eq_some_iff.mp H
              obtain ⟨t118, A140, H⟩ := H
              replace H : (tollhouseref14_May.j2 kj7 (!t118) a0_0 a0_1 a0_2 a0_3 l0_4) = some r := H
              have A14 := Aside0.mk A140
              clear A140
              have H' := Aside0.mk H
              clear H
              have hcz15_0 : wc.cell? ⟨gb117, 0, none⟩ = some (.bool a0_0) := (blk_cell BK117.out 0).trans rfl
              have hcz15_1 : wc.cell? ⟨gb117, 1, none⟩ = some (.string a0_1) := (blk_cell BK117.out 1).trans rfl
              have hcz15_2 : wc.cell? ⟨gb117, 2, none⟩ = some (.int .i64 a0_2) := (blk_cell BK117.out 2).trans rfl
              have hcz15_3 : wc.cell? ⟨gb117, 3, none⟩ = some (.int .i64 a0_3) := (blk_cell BK117.out 3).trans rfl
              have hcz15_4 : wc.cell? ⟨gb117, 4, none⟩ = some (.slice A0_4 l0_4.length c0_4) := (blk_cell BK117.out 4).trans rfl
              have hfz15_0 := blk_frozen BK117.out 0
              have hfz15_1 := blk_frozen BK117.out 1
              have hfz15_2 := blk_frozen BK117.out 2
              have hfz15_3 := blk_frozen BK117.out 3
              have hfz15_4 := blk_frozen BK117.out 4
              go_wp2_with (first | (go_at_call 64; (with_reducible refine (tollhouseref10_Named.calls kj7 x3_7 t118 _ (Glob.below HGl.out (by repeat (first | (with_reducible first | exact HB.out | apply below_alloc | apply pw_below_drewN | apply below_drew1 | refine below_set ?_ GE117.out) | exact HB.out))) A14.out).mono ?_); rintro e w16 ⟨rfl, hb⟩; have n0_ := Aside0.mk (blk_below (g := gb117) (o := .cells #[.bool a0_0, .string a0_1, .int .i64 a0_2, .int .i64 a0_3, .slice A0_4 l0_4.length c0_4] 46 (0, 0)) (by (with_reducible repeat (first | refine blk_drewN ?_ _ | refine blk_drew ?_ | refine blk_alloc ?_ _)); exact BK117.out) hb); have n1_ := Aside0.mk (below_step (by repeat (first | (with_reducible first | exact HB.out | apply below_alloc | apply pw_below_drewN | apply below_drew1 | refine below_set ?_ GE117.out) | exact HB.out)) hb); clear BK117; clear HB; have BK117 := n0_; have HB := n1_; clear n0_ n1_; (try clear hb); (try clear hb2); (try clear hk); (try clear hi)))
              go_meet
              case rel => exact ⟨_, (!t118), (by first | rfl | (simp; done) | (simp [*]; done)), H', ⟨by have := HJ1.out; have := HJ7.out; first | omega | exact Nat.le_refl _⟩, ⟨by (with_reducible repeat (first | refine blk_drewN ?_ _ | refine blk_drew ?_ | refine blk_alloc ?_ _)); exact BK117.out⟩, ⟨by repeat (first | (with_reducible first | exact HB.out | apply below_alloc | apply pw_below_drewN | apply below_drew1 | refine below_set ?_ GE117.out) | exact HB.out)⟩⟩
          case rest =>
            clear HC11
            try clear c1
            try clear p2
            try clear c4
            try clear c5
            try clear c5b0
            try clear c5b1
            try clear c6
            try clear c6b0
            try clear c6b1
            try clear p7
            try clear q7
            try clear hx7
            try clear qi7
            try clear c9
            try clear c10
            try clear c10b0
            try clear c10b1
            try clear c12
            try clear c12b0
            try clear c12b1
            try clear hcz13_0
            try clear hcz13_1
            try clear hcz13_2
            try clear hcz13_3
            try clear hcz13_4
            try clear hcz15_0
            try clear hcz15_1
            try clear hcz15_2
            try clear hcz15_3
            try clear hcz15_4
            try clear hcz4_0
            try clear hcz4_1
            try clear hcz4_2
            try clear hcz4_3
            try clear hcz4_4
            try clear hfz13_0
            try clear hfz13_1
            try clear hfz13_2
            try clear hfz13_3
            try clear hfz13_4
            try clear hfz15_0
            try clear hfz15_1
            try clear hfz15_2
            try clear hfz15_3
            try clear hfz15_4
            try clear hfz4_0
            try clear hfz4_1
            try clear hfz4_2
            try clear hfz4_3
            try clear hfz4_4
            try clear p2
            try clear p7
            try clear q7
            obtain ⟨kq, x24_10, rfl, HA, HJ10, BK117, HB⟩ := hcut
            cases kq with
            | zero => exact absurd HA.out (by simp [tollhouseref14_May.j2])
            | succ kj10 =>
              have H := HA.out
              clear HA
              simp only [tollhouseref14_May.j2] at H
              by_cases c17 : x24_10 = true
              · subst c17
                have H1 : (some false) = some r := by rw [if_pos rfl] at H; exact H
                clear H
                have H := H1
                clear H1
                obtain rfl := Option.some.inj H
                go_wp2
                go_ret
                exact ⟨by first | rfl | (simp [errW_none, errW_some] <;> rfl) | (simp [*, errW_none, errW_some] <;> rfl), by repeat (first | (with_reducible first | exact HB.out | apply below_alloc | apply pw_below_drewN | apply below_drew1 | refine below_set ?_ GE117.out) | exact HB.out)⟩
              · replace c17 := Bool.eq_false_iff.mpr c17
                subst c17
                have H1 : (if a0_2 < 1 then (tollhouseref14_May.j3 kj10 true a0_0 a0_1 a0_2 a0_3 l0_4) else (if a0_3 > 65535 then (tollhouseref14_May.j3 kj10 true a0_0 a0_1 a0_2 a0_3 l0_4) else (if a0_2 > a0_3 then (tollhouseref14_May.j3 kj10 true a0_0 a0_1 a0_2 a0_3 l0_4) else (tollhouseref14_May.j3 kj10 (decide ((l0_4.length : Int) > 8)) a0_0 a0_1 a0_2 a0_3 l0_4)))) = some r := by rw [if_neg (show ¬ (false = true) by decide)] at H; exact H
                clear H
                have H := H1
                clear H1
                have HC18 := Aside0.mk H
                clear H
                go_upto_region 6 with (fail)
                go_cut [45] (fun v45 wc => ∃ (kq : Nat) (x45_17 : Bool), v45 = .bool x45_17 ∧ Aside0 (tollhouseref14_May.j3 kq x45_17 a0_0 a0_1 a0_2 a0_3 l0_4 = some r) ∧ Aside0 (kq ≤ kj10) ∧ Aside0 (wc.heap[gb117]? = some (.cells #[.bool a0_0, .string a0_1, .int .i64 a0_2, .int .i64 a0_3, (.slice A0_4 l0_4.length c0_4)] 46 (0, 0))) ∧ Aside0 (Below w.heap.size w wc))
                case first =>
                  have H := HC18.out
                  clear HC18
                  by_cases c19 : a0_2 < 1
                  · rw [if_pos c19] at H
                    have c19b0 : decide (a0_2 < 1) = true := decide_eq_true c19
                    clear c19
                    (first | rw [c19b0] | (simp only [i64_w, i32_w]; rw [c19b0]) | skip)
                    have H' := Aside0.mk H
                    clear H
                    have hcz20_0 : wc.cell? ⟨gb117, 0, none⟩ = some (.bool a0_0) := (blk_cell BK117.out 0).trans rfl
                    have hcz20_1 : wc.cell? ⟨gb117, 1, none⟩ = some (.string a0_1) := (blk_cell BK117.out 1).trans rfl
                    have hcz20_2 : wc.cell? ⟨gb117, 2, none⟩ = some (.int .i64 a0_2) := (blk_cell BK117.out 2).trans rfl
                    have hcz20_3 : wc.cell? ⟨gb117, 3, none⟩ = some (.int .i64 a0_3) := (blk_cell BK117.out 3).trans rfl
                    have hcz20_4 : wc.cell? ⟨gb117, 4, none⟩ = some (.slice A0_4 l0_4.length c0_4) := (blk_cell BK117.out 4).trans rfl
                    have hfz20_0 := blk_frozen BK117.out 0
                    have hfz20_1 := blk_frozen BK117.out 1
                    have hfz20_2 := blk_frozen BK117.out 2
                    have hfz20_3 := blk_frozen BK117.out 3
                    have hfz20_4 := blk_frozen BK117.out 4
                    go_wp2
                    go_meet
                    case rel => exact ⟨_, (true), (by first | rfl | (simp; done) | (simp [*]; done)), H', ⟨by have := HJ1.out; have := HJ7.out; have := HJ10.out; first | omega | exact Nat.le_refl _⟩, ⟨by (with_reducible repeat (first | refine blk_drewN ?_ _ | refine blk_drew ?_ | refine blk_alloc ?_ _)); exact BK117.out⟩, ⟨by repeat (first | (with_reducible first | exact HB.out | apply below_alloc | apply pw_below_drewN | apply below_drew1 | refine below_set ?_ GE117.out) | exact HB.out)⟩⟩
                  · rw [if_neg c19] at H
                    have c19b0 : decide (a0_2 < 1) = false := decide_eq_false c19
                    clear c19
                    (first | rw [c19b0] | (simp only [i64_w, i32_w]; rw [c19b0]) | skip)
                    by_cases c21 : a0_3 > 65535
                    · rw [if_pos c21] at H
                      have c21b0 : decide (65535 < a0_3) = true := decide_eq_true c21
                      clear c21
                      have H' := Aside0.mk H
                      clear H
                      have hcz22_0 : wc.cell? ⟨gb117, 0, none⟩ = some (.bool a0_0) := (blk_cell BK117.out 0).trans rfl
                      have hcz22_1 : wc.cell? ⟨gb117, 1, none⟩ = some (.string a0_1) := (blk_cell BK117.out 1).trans rfl
                      have hcz22_2 : wc.cell? ⟨gb117, 2, none⟩ = some (.int .i64 a0_2) := (blk_cell BK117.out 2).trans rfl
                      have hcz22_3 : wc.cell? ⟨gb117, 3, none⟩ = some (.int .i64 a0_3) := (blk_cell BK117.out 3).trans rfl
                      have hcz22_4 : wc.cell? ⟨gb117, 4, none⟩ = some (.slice A0_4 l0_4.length c0_4) := (blk_cell BK117.out 4).trans rfl
                      have hfz22_0 := blk_frozen BK117.out 0
                      have hfz22_1 := blk_frozen BK117.out 1
                      have hfz22_2 := blk_frozen BK117.out 2
                      have hfz22_3 := blk_frozen BK117.out 3
                      have hfz22_4 := blk_frozen BK117.out 4
                      go_wp2
                      go_meet
                      case rel => exact ⟨_, (true), (by first | rfl | (simp; done) | (simp [*]; done)), H', ⟨by have := HJ1.out; have := HJ7.out; have := HJ10.out; first | omega | exact Nat.le_refl _⟩, ⟨by (with_reducible repeat (first | refine blk_drewN ?_ _ | refine blk_drew ?_ | refine blk_alloc ?_ _)); exact BK117.out⟩, ⟨by repeat (first | (with_reducible first | exact HB.out | apply below_alloc | apply pw_below_drewN | apply below_drew1 | refine below_set ?_ GE117.out) | exact HB.out)⟩⟩
                    · rw [if_neg c21] at H
                      have c21b0 : decide (65535 < a0_3) = false := decide_eq_false c21
                      clear c21
                      by_cases c23 : a0_2 > a0_3
                      · rw [if_pos c23] at H
                        have c23b0 : decide (a0_3 < a0_2) = true := decide_eq_true c23
                        clear c23
                        have H' := Aside0.mk H
                        clear H
                        have hcz24_0 : wc.cell? ⟨gb117, 0, none⟩ = some (.bool a0_0) := (blk_cell BK117.out 0).trans rfl
                        have hcz24_1 : wc.cell? ⟨gb117, 1, none⟩ = some (.string a0_1) := (blk_cell BK117.out 1).trans rfl
                        have hcz24_2 : wc.cell? ⟨gb117, 2, none⟩ = some (.int .i64 a0_2) := (blk_cell BK117.out 2).trans rfl
                        have hcz24_3 : wc.cell? ⟨gb117, 3, none⟩ = some (.int .i64 a0_3) := (blk_cell BK117.out 3).trans rfl
                        have hcz24_4 : wc.cell? ⟨gb117, 4, none⟩ = some (.slice A0_4 l0_4.length c0_4) := (blk_cell BK117.out 4).trans rfl
                        have hfz24_0 := blk_frozen BK117.out 0
                        have hfz24_1 := blk_frozen BK117.out 1
                        have hfz24_2 := blk_frozen BK117.out 2
                        have hfz24_3 := blk_frozen BK117.out 3
                        have hfz24_4 := blk_frozen BK117.out 4
                        go_wp2
                        go_meet
                        case rel => exact ⟨_, (true), (by first | rfl | (simp; done) | (simp [*]; done)), H', ⟨by have := HJ1.out; have := HJ7.out; have := HJ10.out; first | omega | exact Nat.le_refl _⟩, ⟨by (with_reducible repeat (first | refine blk_drewN ?_ _ | refine blk_drew ?_ | refine blk_alloc ?_ _)); exact BK117.out⟩, ⟨by repeat (first | (with_reducible first | exact HB.out | apply below_alloc | apply pw_below_drewN | apply below_drew1 | refine below_set ?_ GE117.out) | exact HB.out)⟩⟩
                      · rw [if_neg c23] at H
                        have c23b0 : decide (a0_3 < a0_2) = false := decide_eq_false c23
                        clear c23
                        have H' := Aside0.mk H
                        clear H
                        have hcz25_0 : wc.cell? ⟨gb117, 0, none⟩ = some (.bool a0_0) := (blk_cell BK117.out 0).trans rfl
                        have hcz25_1 : wc.cell? ⟨gb117, 1, none⟩ = some (.string a0_1) := (blk_cell BK117.out 1).trans rfl
                        have hcz25_2 : wc.cell? ⟨gb117, 2, none⟩ = some (.int .i64 a0_2) := (blk_cell BK117.out 2).trans rfl
                        have hcz25_3 : wc.cell? ⟨gb117, 3, none⟩ = some (.int .i64 a0_3) := (blk_cell BK117.out 3).trans rfl
                        have hcz25_4 : wc.cell? ⟨gb117, 4, none⟩ = some (.slice A0_4 l0_4.length c0_4) := (blk_cell BK117.out 4).trans rfl
                        have hfz25_0 := blk_frozen BK117.out 0
                        have hfz25_1 := blk_frozen BK117.out 1
                        have hfz25_2 := blk_frozen BK117.out 2
                        have hfz25_3 := blk_frozen BK117.out 3
                        have hfz25_4 := blk_frozen BK117.out 4
                        go_wp2
                        go_meet
                        case rel => exact ⟨_, (decide ((l0_4.length : Int) > 8)), (by first | rfl | (simp; done) | (simp [*]; done)), H', ⟨by have := HJ1.out; have := HJ7.out; have := HJ10.out; first | omega | exact Nat.le_refl _⟩, ⟨by (with_reducible repeat (first | refine blk_drewN ?_ _ | refine blk_drew ?_ | refine blk_alloc ?_ _)); exact BK117.out⟩, ⟨by repeat (first | (with_reducible first | exact HB.out | apply below_alloc | apply pw_below_drewN | apply below_drew1 | refine below_set ?_ GE117.out) | exact HB.out)⟩⟩
                case rest =>
                  clear HC18
                  try clear c1
                  try clear c2
                  try clear p2
                  try clear c4
                  try clear c5
                  try clear c5b0
                  try clear c5b1
                  try clear c6
                  try clear c6b0
                  try clear c6b1
                  try clear p7
                  try clear q7
                  try clear hx7
                  try clear qi7
                  try clear c9
                  try clear c10
                  try clear c10b0
                  try clear c10b1
                  try clear c12
                  try clear c12b0
                  try clear c12b1
                  try clear c17
                  try clear c19
                  try clear c19b0
                  try clear c21
                  try clear c21b0
                  try clear c23
                  try clear c23b0
                  try clear hcz13_0
                  try clear hcz13_1
                  try clear hcz13_2
                  try clear hcz13_3
                  try clear hcz13_4
                  try clear hcz15_0
                  try clear hcz15_1
                  try clear hcz15_2
                  try clear hcz15_3
                  try clear hcz15_4
                  try clear hcz20_0
                  try clear hcz20_1
                  try clear hcz20_2
                  try clear hcz20_3
                  try clear hcz20_4
                  try clear hcz22_0
                  try clear hcz22_1
                  try clear hcz22_2
                  try clear hcz22_3
                  try clear hcz22_4
                  try clear hcz24_0
                  try clear hcz24_1
                  try clear hcz24_2
                  try clear hcz24_3
                  try clear hcz24_4
                  try clear hcz25_0
                  try clear hcz25_1
                  try clear hcz25_2
                  try clear hcz25_3
                  try clear hcz25_4
                  try clear hcz4_0
                  try clear hcz4_1
                  try clear hcz4_2
                  try clear hcz4_3
                  try clear hcz4_4
                  try clear hfz13_0
                  try clear hfz13_1
                  try clear hfz13_2
                  try clear hfz13_3
                  try clear hfz13_4
                  try clear hfz15_0
                  try clear hfz15_1
                  try clear hfz15_2
                  try clear hfz15_3
                  try clear hfz15_4
                  try clear hfz20_0
                  try clear hfz20_1
                  try clear hfz20_2
                  try clear hfz20_3
                  try clear hfz20_4
                  try clear hfz22_0
                  try clear hfz22_1
                  try clear hfz22_2
                  try clear hfz22_3
                  try clear hfz22_4
                  try clear hfz24_0
                  try clear hfz24_1
                  try clear hfz24_2
                  try clear hfz24_3
                  try clear hfz24_4
                  try clear hfz25_0
                  try clear hfz25_1
                  try clear hfz25_2
                  try clear hfz25_3
                  try clear hfz25_4
                  try clear hfz4_0
                  try clear hfz4_1
                  try clear hfz4_2
                  try clear hfz4_3
                  try clear hfz4_4
                  try clear p2
                  try clear p7
                  try clear q7
                  obtain ⟨kq, x45_17, rfl, HA, HJ17, BK117, HB⟩ := hcut
                  cases kq with
                  | zero => exact absurd HA.out (by simp [tollhouseref14_May.j3])
                  | succ kj17 =>
                    have H := HA.out
                    clear HA
                    simp only [tollhouseref14_May.j3] at H
                    by_cases c26 : x45_17 = true
                    · subst c26
                      have H1 : (some false) = some r := by rw [if_pos rfl] at H; exact H
                      clear H
                      have H := H1
                      clear H1
                      obtain rfl := Option.some.inj H
                      go_wp2
                      go_ret
                      exact ⟨by first | rfl | (simp [errW_none, errW_some] <;> rfl) | (simp [*, errW_none, errW_some] <;> rfl), by repeat (first | (with_reducible first | exact HB.out | apply below_alloc | apply pw_below_drewN | apply below_drew1 | refine below_set ?_ GE117.out) | exact HB.out)⟩
                    · replace c26 := Bool.eq_false_iff.mpr c26
                      subst c26
                      have H1 : (tollhouseref14_May.l0 kj17 0 a0_0 a0_1 a0_2 a0_3 l0_4) = some r := by rw [if_neg (show ¬ (false = true) by decide)] at H; exact H
                      clear H
                      have H := H1
                      clear H1
                      have H' := Aside0.mk H
                      clear H
                      go_wp2
                      go_loopg [4] kj17 (fun kq v4 w' => ∃ (x4_5 : Int), v4 = .int .i64 x4_5 ∧ Aside0 (tollhouseref14_May.l0 kq x4_5 a0_0 a0_1 a0_2 a0_3 l0_4 = some r) ∧ Aside0 (kq ≤ kj17) ∧ Aside0 (w'.heap[gb117]? = some (.cells #[.bool a0_0, .string a0_1, .int .i64 a0_2, .int .i64 a0_3, (.slice A0_4 l0_4.length c0_4)] 46 (0, 0))) ∧ Aside0 (Below w.heap.size w w'))
                      case atStart => exact ⟨(0), (by first | rfl | (simp; done) | (simp [*]; done)), H', ⟨Nat.le_refl _⟩, ⟨by (with_reducible repeat (first | refine blk_drewN ?_ _ | refine blk_drew ?_ | refine blk_alloc ?_ _)); exact BK117.out⟩, ⟨by repeat (first | (with_reducible first | exact HB.out | apply below_alloc | apply pw_below_drewN | apply below_drew1 | refine below_set ?_ GE117.out) | exact HB.out)⟩⟩
                      case round =>
                        clear H'
                        try clear c1
                        try clear c2
                        try clear p2
                        try clear c4
                        try clear c5
                        try clear c5b0
                        try clear c5b1
                        try clear c6
                        try clear c6b0
                        try clear c6b1
                        try clear p7
                        try clear q7
                        try clear hx7
                        try clear qi7
                        try clear c9
                        try clear c10
                        try clear c10b0
                        try clear c10b1
                        try clear c12
                        try clear c12b0
                        try clear c12b1
                        try clear c17
                        try clear c19
                        try clear c19b0
                        try clear c21
                        try clear c21b0
                        try clear c23
                        try clear c23b0
                        try clear c26
                        try clear hcz13_0
                        try clear hcz13_1
                        try clear hcz13_2
                        try clear hcz13_3
                        try clear hcz13_4
                        try clear hcz15_0
                        try clear hcz15_1
                        try clear hcz15_2
                        try clear hcz15_3
                        try clear hcz15_4
                        try clear hcz20_0
                        try clear hcz20_1
                        try clear hcz20_2
                        try clear hcz20_3
                        try clear hcz20_4
                        try clear hcz22_0
                        try clear hcz22_1
                        try clear hcz22_2
                        try clear hcz22_3
                        try clear hcz22_4
                        try clear hcz24_0
                        try clear hcz24_1
                        try clear hcz24_2
                        try clear hcz24_3
                        try clear hcz24_4
                        try clear hcz25_0
                        try clear hcz25_1
                        try clear hcz25_2
                        try clear hcz25_3
                        try clear hcz25_4
                        try clear hcz4_0
                        try clear hcz4_1
                        try clear hcz4_2
                        try clear hcz4_3
                        try clear hcz4_4
                        try clear hfz13_0
                        try clear hfz13_1
                        try clear hfz13_2
                        try clear hfz13_3
                        try clear hfz13_4
                        try clear hfz15_0
                        try clear hfz15_1
                        try clear hfz15_2
                        try clear hfz15_3
                        try clear hfz15_4
                        try clear hfz20_0
                        try clear hfz20_1
                        try clear hfz20_2
                        try clear hfz20_3
                        try clear hfz20_4
                        try clear hfz22_0
                        try clear hfz22_1
                        try clear hfz22_2
                        try clear hfz22_3
                        try clear hfz22_4
                        try clear hfz24_0
                        try clear hfz24_1
                        try clear hfz24_2
                        try clear hfz24_3
                        try clear hfz24_4
                        try clear hfz25_0
                        try clear hfz25_1
                        try clear hfz25_2
                        try clear hfz25_3
                        try clear hfz25_4
                        try clear hfz4_0
                        try clear hfz4_1
                        try clear hfz4_2
                        try clear hfz4_3
                        try clear hfz4_4
                        try clear p2
                        try clear p7
                        try clear q7
                        obtain ⟨x4_5, rfl, HA, HK5, BK117, HB⟩ := hrel
                        cases gk with
                        | zero => exact absurd HA.out (by simp [tollhouseref14_May.l0])
                        | succ k5 =>
                          have H := HA.out
                          clear HA
                          simp only [tollhouseref14_May.l0] at H
                          by_cases c27 : x4_5 < (l0_4.length : Int)
                          · rw [if_pos c27] at H
                            have c27b0 : decide (x4_5 < (l0_4.length : Int)) = true := decide_eq_true c27
                            clear c27
                            by_cases c28 : 0 ≤ x4_5
                            · rw [if_pos c28] at H
                              have c28b0 : decide (0 ≤ x4_5) = true := decide_eq_true c28
                              clear c28
                              replace H := Option.bind_eq_some_iff.mp H
                              obtain ⟨t120, A290, H⟩ := H
                              replace H : (if t120 = true then (tollhouseref14_May.l0 k5 (wrap64 (x4_5 + 1)) a0_0 a0_1 a0_2 a0_3 l0_4) else (some false)) = some r := H
                              have A29 := Aside0.mk A290
                              clear A290
                              by_cases c30 : t120 = true
                              · subst c30
                                have H1 : (tollhouseref14_May.l0 k5 (wrap64 (x4_5 + 1)) a0_0 a0_1 a0_2 a0_3 l0_4) = some r := by rw [if_pos rfl] at H; exact H
                                clear H
                                have H := H1
                                clear H1
                                have H' := Aside0.mk H
                                clear H
                                have hcz31_0 : wr.cell? ⟨gb117, 0, none⟩ = some (.bool a0_0) := (blk_cell BK117.out 0).trans rfl
                                have hcz31_1 : wr.cell? ⟨gb117, 1, none⟩ = some (.string a0_1) := (blk_cell BK117.out 1).trans rfl
                                have hcz31_2 : wr.cell? ⟨gb117, 2, none⟩ = some (.int .i64 a0_2) := (blk_cell BK117.out 2).trans rfl
                                have hcz31_3 : wr.cell? ⟨gb117, 3, none⟩ = some (.int .i64 a0_3) := (blk_cell BK117.out 3).trans rfl
                                have hcz31_4 : wr.cell? ⟨gb117, 4, none⟩ = some (.slice A0_4 l0_4.length c0_4) := (blk_cell BK117.out 4).trans rfl
                                have hfz31_0 := blk_frozen BK117.out 0
                                have hfz31_1 := blk_frozen BK117.out 1
                                have hfz31_2 := blk_frozen BK117.out 2
                                have hfz31_3 := blk_frozen BK117.out 3
                                have hfz31_4 := blk_frozen BK117.out 4
                                have p119 : 0 ≤ (x4_5 : Int) := of_decide_eq_true (by first | (with_reducible assumption) | assumption)
                                have q119 : x4_5 < (l0_4.length : Int) := of_decide_eq_true (by first | (with_reducible assumption) | assumption)
                                obtain ⟨ad119, e119, hx119_0⟩ := Kd.at_string HR0_4.out x4_5 p119 q119
                                cases e119
                                replace hx119_0 := (HB.out.cell (World.block_lt_of_cell? w _ hx119_0)).trans hx119_0
                                replace p119 := eq_true p119
                                replace q119 := eq_true q119
                                go_wp2_with (first | ((with_reducible refine gate_callee (f := 65) rfl ?_); refine goesL_ (some 58) rfl rfl Tryz.func65 (by kernel_rfl) rfl #[.string (rdOf ByteArray.empty l0_4 x4_5)] rfl (by (try simp only [List.map_toArray, List.map_cons, List.map_nil]); first | done | rfl | (simp only [List.length_drop, List.length_take]; rfl)) ?_; (with_reducible refine (tollhouseref02_Token.calls (rdOf ByteArray.empty l0_4 x4_5) true _ (Glob.below HGl.out (by repeat (first | (with_reducible first | exact HB.out | apply below_alloc | apply pw_below_drewN | apply below_drew1 | refine below_set ?_ GE117.out) | exact HB.out))) A29.out).mono ?_); rintro e w' ⟨rfl, ⟨nd, rfl⟩⟩; refine ⟨_, rfl, ?_⟩))
                                go_roundg k5
                                case measure => have := HJ1.out; have := HJ7.out; have := HJ10.out; have := HJ17.out; have := HK5.out; omega
                                case rel => exact ⟨(wrap64 (x4_5 + 1)), (by first | rfl | (simp; done) | (simp [*]; done)), H', ⟨by have := HJ1.out; have := HJ7.out; have := HJ10.out; have := HJ17.out; have := HK5.out; omega⟩, ⟨by (with_reducible repeat (first | refine blk_drewN ?_ _ | refine blk_drew ?_ | refine blk_alloc ?_ _)); exact BK117.out⟩, ⟨by repeat (first | (with_reducible first | exact HB.out | apply below_alloc | apply pw_below_drewN | apply below_drew1 | refine below_set ?_ GE117.out) | exact HB.out)⟩⟩
                              · replace c30 := Bool.eq_false_iff.mpr c30
                                subst c30
                                have H1 : (some false) = some r := by rw [if_neg (show ¬ (false = true) by decide)] at H; exact H
                                clear H
                                have H := H1
                                clear H1
                                obtain rfl := Option.some.inj H
                                have hcz32_0 : wr.cell? ⟨gb117, 0, none⟩ = some (.bool a0_0) := (blk_cell BK117.out 0).trans rfl
                                have hcz32_1 : wr.cell? ⟨gb117, 1, none⟩ = some (.string a0_1) := (blk_cell BK117.out 1).trans rfl
                                have hcz32_2 : wr.cell? ⟨gb117, 2, none⟩ = some (.int .i64 a0_2) := (blk_cell BK117.out 2).trans rfl
                                have hcz32_3 : wr.cell? ⟨gb117, 3, none⟩ = some (.int .i64 a0_3) := (blk_cell BK117.out 3).trans rfl
                                have hcz32_4 : wr.cell? ⟨gb117, 4, none⟩ = some (.slice A0_4 l0_4.length c0_4) := (blk_cell BK117.out 4).trans rfl
                                have hfz32_0 := blk_frozen BK117.out 0
                                have hfz32_1 := blk_frozen BK117.out 1
                                have hfz32_2 := blk_frozen BK117.out 2
                                have hfz32_3 := blk_frozen BK117.out 3
                                have hfz32_4 := blk_frozen BK117.out 4
                                have p119 : 0 ≤ (x4_5 : Int) := of_decide_eq_true (by first | (with_reducible assumption) | assumption)
                                have q119 : x4_5 < (l0_4.length : Int) := of_decide_eq_true (by first | (with_reducible assumption) | assumption)
                                obtain ⟨ad119, e119, hx119_0⟩ := Kd.at_string HR0_4.out x4_5 p119 q119
                                cases e119
                                replace hx119_0 := (HB.out.cell (World.block_lt_of_cell? w _ hx119_0)).trans hx119_0
                                replace p119 := eq_true p119
                                replace q119 := eq_true q119
                                go_wp2_with (first | ((with_reducible refine gate_callee (f := 65) rfl ?_); refine goesL_ (some 58) rfl rfl Tryz.func65 (by kernel_rfl) rfl #[.string (rdOf ByteArray.empty l0_4 x4_5)] rfl (by (try simp only [List.map_toArray, List.map_cons, List.map_nil]); first | done | rfl | (simp only [List.length_drop, List.length_take]; rfl)) ?_; (with_reducible refine (tollhouseref02_Token.calls (rdOf ByteArray.empty l0_4 x4_5) false _ (Glob.below HGl.out (by repeat (first | (with_reducible first | exact HB.out | apply below_alloc | apply pw_below_drewN | apply below_drew1 | refine below_set ?_ GE117.out) | exact HB.out))) A29.out).mono ?_); rintro e w' ⟨rfl, ⟨nd, rfl⟩⟩; refine ⟨_, rfl, ?_⟩))
                                go_ret
                                exact ⟨by first | rfl | (simp [errW_none, errW_some] <;> rfl) | (simp [*, errW_none, errW_some] <;> rfl), by repeat (first | (with_reducible first | exact HB.out | apply below_alloc | apply pw_below_drewN | apply below_drew1 | refine below_set ?_ GE117.out) | exact HB.out)⟩
                            · rw [if_neg c28] at H
                              exact absurd H (by simp)
                          · rw [if_neg c27] at H
                            have c27b0 : decide (x4_5 < (l0_4.length : Int)) = false := decide_eq_false c27
                            clear c27
                            obtain rfl := Option.some.inj H
                            have hcz33_0 : wr.cell? ⟨gb117, 0, none⟩ = some (.bool a0_0) := (blk_cell BK117.out 0).trans rfl
                            have hcz33_1 : wr.cell? ⟨gb117, 1, none⟩ = some (.string a0_1) := (blk_cell BK117.out 1).trans rfl
                            have hcz33_2 : wr.cell? ⟨gb117, 2, none⟩ = some (.int .i64 a0_2) := (blk_cell BK117.out 2).trans rfl
                            have hcz33_3 : wr.cell? ⟨gb117, 3, none⟩ = some (.int .i64 a0_3) := (blk_cell BK117.out 3).trans rfl
                            have hcz33_4 : wr.cell? ⟨gb117, 4, none⟩ = some (.slice A0_4 l0_4.length c0_4) := (blk_cell BK117.out 4).trans rfl
                            have hfz33_0 := blk_frozen BK117.out 0
                            have hfz33_1 := blk_frozen BK117.out 1
                            have hfz33_2 := blk_frozen BK117.out 2
                            have hfz33_3 := blk_frozen BK117.out 3
                            have hfz33_4 := blk_frozen BK117.out 4
                            go_wp2
                            go_ret
                            exact ⟨by first | rfl | (simp [errW_none, errW_some] <;> rfl) | (simp [*, errW_none, errW_some] <;> rfl), by repeat (first | (with_reducible first | exact HB.out | apply below_alloc | apply pw_below_drewN | apply below_drew1 | refine below_set ?_ GE117.out) | exact HB.out)⟩

end Go.Proofs.YthmnhbalmglohaaGreatDoor.X

-- PRINTED by print.py (a twelfth state) out of the translation. Not trusted: Lean checks it.
namespace Go.Proofs.YthmnhbalmglohaaGreatDoor.X
open Go.RowKit Go.Proofs.YthmnhbalmglohaaGreatDoorW.PrintWords Go.Proofs.YthmnhbalmglohaaGreatDoorW.PrintLast Go.Proofs.YthmnhbalmglohaaGreatDoorW.PrintMore
attribute [local go_sem] max2_int min2_int max_two min_two max_three min_three max_four min_four   -- for this text's walks alone
set_option linter.unusedVariables false
set_option linter.unusedSimpArgs false
open Go.Proofs.YthmnhbalmglohaaGreatDoor.T

/-! ### tollhouseref14_All: function 26 -/
def tollhouseref14_All.l0 : Nat → List (S46) → Int → Option (Bool)
  | 0, _, _ => none
  | k + 1, x0, x3 => if x3 < (x0.length : Int) then (if 0 ≤ x3 then ((tollhouseref14_May.f k ((rd_T46 x0 x3).f0) ((rd_T46 x0 x3).f1) ((rd_T46 x0 x3).f2) ((rd_T46 x0 x3).f3) ((rd_T46 x0 x3).f4)).bind fun t122 => (if t122 = true then (tollhouseref14_All.l0 k x0 (wrap64 (x3 + 1))) else (some false))) else (none)) else (some (decide ((x0.length : Int) ≤ 16)))
def tollhouseref14_All.f (k : Nat) (l0 : List (S46)) : Option (Bool) := tollhouseref14_All.l0 k l0 0
theorem tollhouseref14_All.mono_l : ∀ k, (∀ y0 y1, LeO (tollhouseref14_All.l0 k y0 y1) (tollhouseref14_All.l0 (k + 1) y0 y1))
  | 0 => fun _ _ r h => by simp [tollhouseref14_All.l0] at h
  | k + 1 => by
    have ih0 := tollhouseref14_All.mono_l k
    · intro y0 y1
      unfold tollhouseref14_All.l0
      repeat' first
      | (with_reducible exact ih0 _ _)
      | (with_reducible exact tollhouseref14_May.mono _ _ _ _ _ _)
      | (with_reducible exact LeO.refl _)
      | (with_reducible exact LeO.none _)
      | (with_reducible refine LeO.ite ?_ ?_)
      | (with_reducible refine LeO.bind ?_ (fun _ => ?_))
      | exact ih0 _ _
      | exact tollhouseref14_May.mono _ _ _ _ _ _
      | exact LeO.none _
      | refine LeO.ite ?_ ?_
      | refine LeO.bind ?_ (fun _ => ?_)
theorem tollhouseref14_All.mono : ∀ a0 k, LeO (tollhouseref14_All.f k a0) (tollhouseref14_All.f (k + 1) a0) := by
  intro a0 k
  have ih0 := tollhouseref14_All.mono_l k
  unfold tollhouseref14_All.f
  repeat' first
      | (with_reducible exact ih0 _ _)
      | (with_reducible exact tollhouseref14_May.mono _ _ _ _ _ _)
      | (with_reducible exact LeO.refl _)
      | (with_reducible exact LeO.none _)
      | (with_reducible refine LeO.ite ?_ ?_)
      | (with_reducible refine LeO.bind ?_ (fun _ => ?_))
      | exact ih0 _ _
      | exact tollhouseref14_May.mono _ _ _ _ _ _
      | exact LeO.none _
      | refine LeO.ite ?_ ?_
      | refine LeO.bind ?_ (fun _ => ?_)
set_option maxHeartbeats 8000000 in
set_option maxRecDepth 100000 in
theorem tollhouseref14_All.calls (k : Nat) (A0 : Option Addr) (c0 : Nat) (l0 : List (S46)) (r : Bool) (w : World) (hr0 : Kd.C k46 w A0 l0.length l0) (hc0 : l0.length ≤ c0) (HGg : Glob w) (h : tollhouseref14_All.f k l0 = some r) :
    Calls Tryz.prog 26 #[.slice A0 l0.length c0] w fun e w' => e = .returned (.bool r) ∧ Below w.heap.size w w' := by
  have hu46 := Tryz.underlying46
  have HGl := Aside0.mk HGg
  clear HGg
  have HR0 := Aside0.mk hr0
  have HC0 := Aside0.mk hc0
  clear hr0 hc0
  have HB := Aside0.mk (Below.refl w.heap.size w)
  have H : (tollhouseref14_All.l0 k l0 0) = some r := h
  clear h
  have H' := Aside0.mk H
  clear H
  go_enter Tryz.func26, Tryz.ntmps26
  go_wp2
  go_loopg [3] k (fun kq v3 w' => ∃ (x3_1 : Int), v3 = .int .i64 x3_1 ∧ Aside0 (tollhouseref14_All.l0 kq l0 x3_1 = some r) ∧ Aside0 (kq ≤ k) ∧ Aside0 (Below w.heap.size w w'))
  case atStart => exact ⟨(0), (by first | rfl | (simp; done) | (simp [*]; done)), H', ⟨Nat.le_refl _⟩, ⟨by repeat (first | (with_reducible first | exact HB.out | apply below_alloc | apply pw_below_drewN | apply below_drew1) | exact HB.out)⟩⟩
  case round =>
    clear H'
    obtain ⟨x3_1, rfl, HA, HK1, HB⟩ := hrel
    cases gk with
    | zero => exact absurd HA.out (by simp [tollhouseref14_All.l0])
    | succ k1 =>
      have H := HA.out
      clear HA
      simp only [tollhouseref14_All.l0] at H
      by_cases c2 : x3_1 < (l0.length : Int)
      · rw [if_pos c2] at H
        have c2b0 : decide (x3_1 < (l0.length : Int)) = true := decide_eq_true c2
        clear c2
        by_cases c3 : 0 ≤ x3_1
        · rw [if_pos c3] at H
          have c3b0 : decide (0 ≤ x3_1) = true := decide_eq_true c3
          clear c3
          replace H := Option.bind_eq_some_iff.mp H
          obtain ⟨t122, A40, H⟩ := H
          replace H : (if t122 = true then (tollhouseref14_All.l0 k1 l0 (wrap64 (x3_1 + 1))) else (some false)) = some r := H
          have A4 := Aside0.mk A40
          clear A40
          by_cases c5 : t122 = true
          · subst c5
            have H1 : (tollhouseref14_All.l0 k1 l0 (wrap64 (x3_1 + 1))) = some r := by rw [if_pos rfl] at H; exact H
            clear H
            have H := H1
            clear H1
            have H' := Aside0.mk H
            clear H
            have p121 : 0 ≤ (x3_1 : Int) := of_decide_eq_true (by first | (with_reducible assumption) | assumption)
            have q121 : x3_1 < (l0.length : Int) := of_decide_eq_true (by first | (with_reducible assumption) | assumption)
            obtain ⟨ad121, A121_4, c121_4, e121, hx121_0, hx121_1, hx121_2, hx121_3, hx121_4, hl121_4, hi121_4⟩ := at_T46 HR0.out x3_1 p121 q121
            cases e121
            replace hx121_0 := (HB.out.cell (World.block_lt_of_cell? w _ hx121_0)).trans hx121_0
            replace hx121_1 := (HB.out.cell (World.block_lt_of_cell? w _ hx121_1)).trans hx121_1
            replace hx121_2 := (HB.out.cell (World.block_lt_of_cell? w _ hx121_2)).trans hx121_2
            replace hx121_3 := (HB.out.cell (World.block_lt_of_cell? w _ hx121_3)).trans hx121_3
            replace hx121_4 := (HB.out.cell (World.block_lt_of_cell? w _ hx121_4)).trans hx121_4
            have HR121_4 := Aside0.mk hi121_4
            have HC121_4 := Aside0.mk hl121_4
            clear hi121_4 hl121_4
            replace p121 := eq_true p121
            replace q121 := eq_true q121
            go_wp2_with (first | ((with_reducible refine gate_callee (f := 45) rfl ?_); refine goesL_ (some 14) rfl rfl Tryz.func45 (by kernel_rfl) rfl #[.agg #[.bool ((rd_T46 l0 x3_1).f0), .string ((rd_T46 l0 x3_1).f1), .int .i64 ((rd_T46 l0 x3_1).f2), .int .i64 ((rd_T46 l0 x3_1).f3), .slice A121_4 ((rd_T46 l0 x3_1).f4).length c121_4]] rfl (by (try simp only [List.map_toArray, List.map_cons, List.map_nil]); first | done | rfl | (simp only [List.length_drop, List.length_take]; rfl)) ?_; (with_reducible refine (tollhouseref14_May.calls k1 ((rd_T46 l0 x3_1).f0) ((rd_T46 l0 x3_1).f1) ((rd_T46 l0 x3_1).f2) ((rd_T46 l0 x3_1).f3) _ _ ((rd_T46 l0 x3_1).f4) true _ ?side1 ?side2 (Glob.below HGl.out (by repeat (first | (with_reducible first | exact HB.out | apply below_alloc | apply pw_below_drewN | apply below_drew1) | exact HB.out))) A4.out).mono ?_); (case side1 => repeat (first | exact (Kd.C_below HR121_4.out HB.out) | (with_reducible refine Kd.C_alloc ?_ _) | (with_reducible refine Kd.C_drewN ?_ _) | (with_reducible refine Kd.C_drew ?_))); (case side2 => exact HC121_4.out); rintro e w6 ⟨rfl, hb⟩; refine ⟨_, rfl, ?_⟩; have n0_ := Aside0.mk (below_step (by repeat (first | (with_reducible first | exact HB.out | apply below_alloc | apply pw_below_drewN | apply below_drew1) | exact HB.out)) hb); clear HB; have HB := n0_; clear n0_; (try clear hb); (try clear hb2); (try clear hk); (try clear hi)))
            go_roundg k1
            case measure => have := HK1.out; omega
            case rel => exact ⟨(wrap64 (x3_1 + 1)), (by first | rfl | (simp; done) | (simp [*]; done)), H', ⟨by have := HK1.out; omega⟩, ⟨by repeat (first | (with_reducible first | exact HB.out | apply below_alloc | apply pw_below_drewN | apply below_drew1) | exact HB.out)⟩⟩
          · replace c5 := Bool.eq_false_iff.mpr c5
            subst c5
            have H1 : (some false) = some r := by rw [if_neg (show ¬ (false = true) by decide)] at H; exact H
            clear H
            have H := H1
            clear H1
            obtain rfl := Option.some.inj H
            have p121 : 0 ≤ (x3_1 : Int) := of_decide_eq_true (by first | (with_reducible assumption) | assumption)
            have q121 : x3_1 < (l0.length : Int) := of_decide_eq_true (by first | (with_reducible assumption) | assumption)
            obtain ⟨ad121, A121_4, c121_4, e121, hx121_0, hx121_1, hx121_2, hx121_3, hx121_4, hl121_4, hi121_4⟩ := at_T46 HR0.out x3_1 p121 q121
            cases e121
            replace hx121_0 := (HB.out.cell (World.block_lt_of_cell? w _ hx121_0)).trans hx121_0
            replace hx121_1 := (HB.out.cell (World.block_lt_of_cell? w _ hx121_1)).trans hx121_1
            replace hx121_2 := (HB.out.cell (World.block_lt_of_cell? w _ hx121_2)).trans hx121_2
            replace hx121_3 := (HB.out.cell (World.block_lt_of_cell? w _ hx121_3)).trans hx121_3
            replace hx121_4 := (HB.out.cell (World.block_lt_of_cell? w _ hx121_4)).trans hx121_4
            have HR121_4 := Aside0.mk hi121_4
            have HC121_4 := Aside0.mk hl121_4
            clear hi121_4 hl121_4
            replace p121 := eq_true p121
            replace q121 := eq_true q121
            go_wp2_with (first | ((with_reducible refine gate_callee (f := 45) rfl ?_); refine goesL_ (some 14) rfl rfl Tryz.func45 (by kernel_rfl) rfl #[.agg #[.bool ((rd_T46 l0 x3_1).f0), .string ((rd_T46 l0 x3_1).f1), .int .i64 ((rd_T46 l0 x3_1).f2), .int .i64 ((rd_T46 l0 x3_1).f3), .slice A121_4 ((rd_T46 l0 x3_1).f4).length c121_4]] rfl (by (try simp only [List.map_toArray, List.map_cons, List.map_nil]); first | done | rfl | (simp only [List.length_drop, List.length_take]; rfl)) ?_; (with_reducible refine (tollhouseref14_May.calls k1 ((rd_T46 l0 x3_1).f0) ((rd_T46 l0 x3_1).f1) ((rd_T46 l0 x3_1).f2) ((rd_T46 l0 x3_1).f3) _ _ ((rd_T46 l0 x3_1).f4) false _ ?side1 ?side2 (Glob.below HGl.out (by repeat (first | (with_reducible first | exact HB.out | apply below_alloc | apply pw_below_drewN | apply below_drew1) | exact HB.out))) A4.out).mono ?_); (case side1 => repeat (first | exact (Kd.C_below HR121_4.out HB.out) | (with_reducible refine Kd.C_alloc ?_ _) | (with_reducible refine Kd.C_drewN ?_ _) | (with_reducible refine Kd.C_drew ?_))); (case side2 => exact HC121_4.out); rintro e w7 ⟨rfl, hb⟩; refine ⟨_, rfl, ?_⟩; have n0_ := Aside0.mk (below_step (by repeat (first | (with_reducible first | exact HB.out | apply below_alloc | apply pw_below_drewN | apply below_drew1) | exact HB.out)) hb); clear HB; have HB := n0_; clear n0_; (try clear hb); (try clear hb2); (try clear hk); (try clear hi)))
            go_ret
            exact ⟨by first | rfl | (simp [errW_none, errW_some] <;> rfl) | (simp [*, errW_none, errW_some] <;> rfl), by repeat (first | (with_reducible first | exact HB.out | apply below_alloc | apply pw_below_drewN | apply below_drew1) | exact HB.out)⟩
        · rw [if_neg c3] at H
          exact absurd H (by simp)
      · rw [if_neg c2] at H
        have c2b0 : decide (x3_1 < (l0.length : Int)) = false := decide_eq_false c2
        clear c2
        obtain rfl := Option.some.inj H
        go_wp2
        go_ret
        exact ⟨by first | rfl | (simp [errW_none, errW_some] <;> rfl) | (simp [*, errW_none, errW_some] <;> rfl), by repeat (first | (with_reducible first | exact HB.out | apply below_alloc | apply pw_below_drewN | apply below_drew1) | exact HB.out)⟩

end Go.Proofs.YthmnhbalmglohaaGreatDoor.X

/- What tollhouseref14's May and All tell is what acl's tell. -/
namespace Go.Proofs.YthmnhbalmglohaaGreatDoor.X
open Go.RowKit Go.Proofs.YthmnhbalmglohaaGreatDoorW.PrintWords Go.Proofs.YthmnhbalmglohaaGreatDoorW.PrintMore Go.Proofs.YthmnhbalmglohaaGreatDoor.T
set_option linter.unusedSimpArgs false
set_option linter.unusedVariables false
/-! ### May -/
theorem rtoken_f (y : ByteArray) (h : y.size ≤ 4294967296) : tollhouseref02_Token.f y = some (tokenB y) := by
  unfold tollhouseref02_Token.f
  rw [if_pos (by omega)]
theorem rmay_l0 (a : Bool) (h : ByteArray) (lo hi : Int) (ms : List ByteArray) (hl : ms.length ≤ 4294967296) (hm : ∀ y ∈ ms, y.size ≤ 4294967296) : ∀ (t : List ByteArray) (i : Nat), ms.drop i = t → i ≤ ms.length →
    Ev (fun k => tollhouseref14_May.l0 k (i : Int) a h lo hi ms) (t.all tokenB)
  | [], i, ht, hle => by
    have := congrArg List.length ht
    simp at this
    refine Ev.done fun k => ?_
    simp only [tollhouseref14_May.l0]
    rw [if_neg (by omega)]; rfl
  | y :: t, i, ht, hle => by
    have hil : i < ms.length := by
      have := congrArg List.length ht
      simp at this; omega
    have hiy : ms[i]? = some y := by
      have : (ms.drop i)[0]? = some y := by rw [ht]; rfl
      rw [List.getElem?_drop] at this
      simpa using this
    have ht2 : ms.drop (i + 1) = t := by rw [← List.drop_drop, ht]; rfl
    have ih := rmay_l0 a h lo hi ms hl hm t (i + 1) ht2 (by omega)
    rw [List.all_cons]
    have hy := rtoken_f y (hm y (List.mem_of_getElem? hiy))
    cases ht : tokenB y with
    | true =>
      rw [ht] at hy
      refine Ev.step (fun k => ?_) ih
      simp only [tollhouseref14_May.l0]
      rw [if_pos (by omega), if_pos (by omega), rd_list ms i y hiy, hy]
      simp only [Option.bind_some]
      rw [if_pos trivial, wrap_succ (by omega)]
    | false =>
      rw [ht] at hy
      refine Ev.done fun k => ?_
      simp only [tollhouseref14_May.l0]
      rw [if_pos (by omega), if_pos (by omega), rd_list ms i y hiy, hy]
      simp
theorem rmay_j3 (a : Bool) (h : ByteArray) (lo hi : Int) (ms : List ByteArray) (hl : ms.length ≤ 4294967296) (hm : ∀ y ∈ ms, y.size ≤ 4294967296) (b : Bool) : Ev (fun k => tollhouseref14_May.j3 k b a h lo hi ms) (!b && ms.all tokenB) := by
  cases b with
  | true => exact Ev.done fun k => by simp only [tollhouseref14_May.j3]; rw [if_pos trivial]; rfl
  | false => exact Ev.step (fun k => by simp only [tollhouseref14_May.j3]; rw [if_neg (by decide)]; rfl) (rmay_l0 a h lo hi ms hl hm ms 0 rfl (Nat.zero_le _))
theorem rmay_j2 (a : Bool) (h : ByteArray) (lo hi : Int) (ms : List ByteArray) (hl : ms.length ≤ 4294967296) (hm : ∀ y ∈ ms, y.size ≤ 4294967296) (b : Bool) :
    Ev (fun k => tollhouseref14_May.j2 k (!b) a h lo hi ms) (b && (decide (1 ≤ lo) && decide (lo ≤ hi) && decide (hi ≤ 65535)) && decide (ms.length ≤ 8) && ms.all tokenB) := by
  cases b with
  | false => exact Ev.done fun k => by simp only [tollhouseref14_May.j2]; rw [if_pos (by decide)]; rfl
  | true =>
    have hT := rmay_j3 a h lo hi ms hl hm true
    have hD := rmay_j3 a h lo hi ms hl hm (decide ((ms.length : Int) > 8))
    by_cases h1 : lo < 1
    · rw [decide_eq_false (by omega : ¬ 1 ≤ lo)]
      exact Ev.step (fun k => by simp only [tollhouseref14_May.j2]; rw [if_neg (by decide), if_pos h1]) hT
    · by_cases h2 : hi > 65535
      · rw [decide_eq_false (by omega : ¬ hi ≤ 65535), Bool.and_false]
        exact Ev.step (fun k => by simp only [tollhouseref14_May.j2]; rw [if_neg (by decide), if_neg h1, if_pos h2]) hT
      · by_cases h3 : lo > hi
        · rw [decide_eq_false (by omega : ¬ lo ≤ hi), Bool.and_false]
          exact Ev.step (fun k => by simp only [tollhouseref14_May.j2]; rw [if_neg (by decide), if_neg h1, if_neg h2, if_pos h3]) hT
        · rw [decide_eq_true (by omega : 1 ≤ lo), decide_eq_true (by omega : lo ≤ hi), decide_eq_true (by omega : hi ≤ 65535)]
          have e : (!decide ((ms.length : Int) > 8)) = decide (ms.length ≤ 8) := by
            by_cases h4 : ms.length ≤ 8
            · rw [decide_eq_true h4, decide_eq_false (by omega)]; rfl
            · rw [decide_eq_false h4, decide_eq_true (by omega)]; rfl
          rw [e] at hD
          simp only [Bool.true_and]
          exact Ev.step (fun k => by simp only [tollhouseref14_May.j2]; rw [if_neg (by decide), if_neg h1, if_neg h2, if_neg h3]) hD
theorem named_none : namedB ⟨#[]⟩ = false := by decide +kernel
theorem named_dot : namedB ⟨#[46]⟩ = false := by decide +kernel
theorem trim_is (h : ByteArray) (hd : Lib.hasPrefix h.data.toList [46] = true) : (⟨(Lib.trimPrefix h.data.toList [46]).toArray⟩ : ByteArray) = h.extract 1 h.size := by
  have e : Lib.trimPrefix h.data.toList [46] = h.data.toList.drop 1 := by unfold Lib.trimPrefix; rw [if_pos hd]; rfl
  rw [e]
  exact (bytes_eq _ _ (Lib.extract_to_end h 1)).symm
theorem trim_not (h : ByteArray) (hd : Lib.hasPrefix h.data.toList [46] = false) : (⟨(Lib.trimPrefix h.data.toList [46]).toArray⟩ : ByteArray) = h := by
  have e : Lib.trimPrefix h.data.toList [46] = h.data.toList := by unfold Lib.trimPrefix; rw [if_neg (by rw [hd]; decide)]
  rw [e]
theorem rmay_ev (a : Bool) (h : ByteArray) (lo hi : Int) (ms : List ByteArray) (hh : h.size ≤ 4294967296) (hl : ms.length ≤ 4294967296) (hm : ∀ y ∈ ms, y.size ≤ 4294967296) : Ev (fun k => tollhouseref14_May.f k a h lo hi ms) (mayB a h lo hi ms) := by
  have j1 : ∀ x : ByteArray, x.size ≤ 4294967296 → (h.data.toList ≠ [42] → namedB x = namedB ⟨(Lib.trimPrefix h.data.toList [46]).toArray⟩) → Ev (fun k => tollhouseref14_May.j1 k x a h lo hi ms) (mayB a h lo hi ms) := by
    intro x hx hn
    have hT := rmay_j2 a h lo hi ms hl hm true
    have hN := rmay_j2 a h lo hi ms hl hm (namedB x)
    unfold mayB hostMay
    by_cases h42 : h.data.toList = [42]
    · have e : (h.data.toList == [42]) = true := by simpa using h42
      rw [e, Bool.true_or]
      exact Ev.step (fun k => by simp only [tollhouseref14_May.j1]; rw [toList_eq, if_pos h42]; rfl) hT
    · have e : (h.data.toList == [42]) = false := by simpa using h42
      rw [e, Bool.false_or, ← hn h42]
      refine Ev.step (g := fun k => (tollhouseref10_Named.f k x).bind fun b => tollhouseref14_May.j2 k (!b) a h lo hi ms) (fun k => ?_) (Ev.bind (rnamed_ev x hx) hN)
      simp only [tollhouseref14_May.j1]
      rw [toList_eq, if_neg h42]
  have hd := dot_prefix h
  by_cases h1 : (h.size : Int) > 1
  · rw [decide_eq_true (by omega : 0 < h.size), Bool.true_and] at hd
    refine Ev.same (g := fun k => tollhouseref14_May.j0 k h (Lib.hasPrefix h.data.toList [46]) a h lo hi ms) (fun k => ?_) ?_
    · unfold tollhouseref14_May.f
      rw [if_pos h1, if_pos (by omega), hd]
    · cases hp : Lib.hasPrefix h.data.toList [46] with
      | true =>
        refine Ev.step (fun k => by simp only [tollhouseref14_May.j0]; rw [if_pos trivial, if_pos (by omega)]) (j1 (h.extract 1 h.size) (by rw [ByteArray.size_extract]; omega) (fun _ => ?_))
        rw [trim_is h hp]
      | false =>
        refine Ev.step (fun k => by simp only [tollhouseref14_May.j0]; rw [if_neg (by decide)]) (j1 h hh (fun _ => ?_))
        rw [trim_not h hp]
  · refine Ev.same (g := fun k => tollhouseref14_May.j0 k h false a h lo hi ms) (fun k => ?_) ?_
    · unfold tollhouseref14_May.f
      rw [if_neg h1]
    · refine Ev.step (fun k => by simp only [tollhouseref14_May.j0]; rw [if_neg (by decide)]) (j1 h hh (fun _ => ?_))
      cases hp : Lib.hasPrefix h.data.toList [46] with
      | false => rw [trim_not h hp]
      | true =>
        have hz := size_toList h
        have e : h = ⟨#[46]⟩ := by
          refine bytes_eq h [46] ?_
          match hl : h.data.toList, hp, hz with
          | [], hp, _ => cases hp
          | [c], hp, _ =>
            have : (46 : UInt8) = c := by simpa [Lib.hasPrefix, List.isPrefixOf] using hp
            rw [this]
          | _ :: _ :: _, _, hz => simp at hz; omega
        rw [e]
        have e2 : (⟨(Lib.trimPrefix (⟨#[46]⟩ : ByteArray).data.toList [46]).toArray⟩ : ByteArray) = ⟨#[]⟩ := rfl
        rw [e2, named_none, named_dot]
/-! ### All -/
def sizedR (x : S46) : Prop := x.f1.size ≤ 4294960000 ∧ x.f4.length ≤ 4294960000 ∧ ∀ y ∈ x.f4, y.size ≤ 4294960000
theorem rd_rule (l : List S46) (i : Nat) (x : S46) (h : l[i]? = some x) : rd_T46 l (i : Int) = x := by
  unfold rd_T46
  rw [Int.toNat_natCast, List.getD_eq_getElem?_getD, h]; rfl
theorem rall_go (l : List S46) (hl : l.length ≤ 4294960000) (hx : ∀ x ∈ l, sizedR x) : ∀ (t : List S46) (i : Nat), l.drop i = t → i ≤ l.length →
    Ev (fun k => tollhouseref14_All.l0 k l (i : Int)) (decide (l.length ≤ 16) && t.all mayR)
  | [], i, ht, hi => by
    have := congrArg List.length ht
    simp at this
    refine Ev.done fun k => ?_
    simp only [tollhouseref14_All.l0]
    rw [if_neg (by omega)]
    have e : decide ((l.length : Int) ≤ 16) = decide (l.length ≤ 16) := by
      by_cases h : l.length ≤ 16
      · rw [decide_eq_true h, decide_eq_true (by omega)]
      · rw [decide_eq_false h, decide_eq_false (by omega)]
    rw [e]; simp
  | x :: t, i, ht, hi => by
    have hil : i < l.length := by
      have := congrArg List.length ht
      simp at this; omega
    have hix : l[i]? = some x := by
      have : (l.drop i)[0]? = some x := by rw [ht]; rfl
      rw [List.getElem?_drop] at this
      simpa using this
    have ht2 : l.drop (i + 1) = t := by rw [← List.drop_drop, ht]; rfl
    have ih := rall_go l hl hx t (i + 1) ht2 (by omega)
    obtain ⟨z1, z2, z3⟩ := hx x (List.mem_of_getElem? hix)
    have hm := rmay_ev x.f0 x.f1 x.f2 x.f3 x.f4 (by omega) (by omega) (fun y hy => by have := z3 y hy; omega)
    have er : mayB x.f0 x.f1 x.f2 x.f3 x.f4 = mayR x := rfl
    rw [er] at hm
    rw [List.all_cons]
    refine Ev.step (g := fun k => (tollhouseref14_May.f k x.f0 x.f1 x.f2 x.f3 x.f4).bind fun b => if b = true then tollhouseref14_All.l0 k l ((i + 1 : Nat) : Int) else some false) (fun k => ?_) (Ev.bind hm ?_)
    · simp only [tollhouseref14_All.l0]
      rw [if_pos (by omega), if_pos (by omega), rd_rule l i x hix, wrap_succ (by omega)]
    · cases mayR x with
      | true => exact Ev.same (fun k => if_pos rfl) (by simpa using ih)
      | false => exact Ev.const fun k => by rw [if_neg (by decide)]; simp
theorem rall_ev (l : List S46) (hl : l.length ≤ 4294960000) (hx : ∀ x ∈ l, sizedR x) : Ev (fun k => tollhouseref14_All.f k l) (allB l) := rall_go l hl hx l 0 rfl (Nat.zero_le _)
end Go.Proofs.YthmnhbalmglohaaGreatDoor.X

-- PRINTED by print.py (a twelfth state) out of the translation. Not trusted: Lean checks it.
namespace Go.Proofs.YthmnhbalmglohaaGreatDoor.X
open Go.RowKit Go.Proofs.YthmnhbalmglohaaGreatDoorW.PrintWords Go.Proofs.YthmnhbalmglohaaGreatDoorW.PrintLast Go.Proofs.YthmnhbalmglohaaGreatDoorW.PrintMore
attribute [local go_sem] max2_int min2_int max_two min_two max_three min_three max_four min_four   -- for this text's walks alone
set_option linter.unusedVariables false
set_option linter.unusedSimpArgs false
open Go.Proofs.YthmnhbalmglohaaGreatDoor.T

/-! ### tollhouseref15_Tenant: function 12 -/
def tollhouseref15_Tenant.j0 : Nat → Bool → ByteArray → List (S46) → Int → Int → Int → Int → Int → Int → Int → Option (Bool)
  | 0, _, _, _, _, _, _, _, _, _, _ => none
  | k + 1, x12, x124000, x124001, x124002, x124003, x124004, x124005, x124006, x124007, x124008 => if x12 = true then (some false) else (if x124002 < 0 then (some false) else (if x124002 > 262144 then (some false) else (if x124003 < 0 then (some false) else (if x124003 > 64 then (some false) else (if x124004 < 1 then (some false) else (if x124004 > 16 then (some false) else (if x124005 < 1 then (some false) else (if x124005 > 8 then (some false) else (if x124006 ≥ 0 then (if x124006 ≤ 16 then (if x124007 ≥ 1 then (if x124007 ≤ 1000 then (if x124008 ≥ 1 then (some (decide (x124008 ≤ 1000))) else (some false)) else (some false)) else (some false)) else (some false)) else (some false))))))))))
def tollhouseref15_Tenant.f (k : Nat) (a0_0 : ByteArray) (l0_1 : List (S46)) (a0_2 : Int) (a0_3 : Int) (a0_4 : Int) (a0_5 : Int) (a0_6 : Int) (a0_7 : Int) (a0_8 : Int) : Option (Bool) := (tollhouseref15_May.f k a0_0).bind fun t124 => (if t124 = true then ((tollhouseref14_All.f k l0_1).bind fun t125 => (tollhouseref15_Tenant.j0 k (!t125) a0_0 l0_1 a0_2 a0_3 a0_4 a0_5 a0_6 a0_7 a0_8)) else (tollhouseref15_Tenant.j0 k true a0_0 l0_1 a0_2 a0_3 a0_4 a0_5 a0_6 a0_7 a0_8))
theorem tollhouseref15_Tenant.mono_l : ∀ k, (∀ y0 y1 y2 y3 y4 y5 y6 y7 y8 y9, LeO (tollhouseref15_Tenant.j0 k y0 y1 y2 y3 y4 y5 y6 y7 y8 y9) (tollhouseref15_Tenant.j0 (k + 1) y0 y1 y2 y3 y4 y5 y6 y7 y8 y9))
  | 0 => fun _ _ _ _ _ _ _ _ _ _ r h => by simp [tollhouseref15_Tenant.j0] at h
  | k + 1 => by
    have ih0 := tollhouseref15_Tenant.mono_l k
    · intro y0 y1 y2 y3 y4 y5 y6 y7 y8 y9
      unfold tollhouseref15_Tenant.j0
      repeat' first
      | (with_reducible exact ih0 _ _ _ _ _ _ _ _ _ _)
      | (with_reducible exact tollhouseref14_All.mono _ _)
      | (with_reducible exact tollhouseref15_May.mono _ _)
      | (with_reducible exact LeO.refl _)
      | (with_reducible exact LeO.none _)
      | (with_reducible refine LeO.ite ?_ ?_)
      | (with_reducible refine LeO.bind ?_ (fun _ => ?_))
      | exact ih0 _ _ _ _ _ _ _ _ _ _
      | exact tollhouseref14_All.mono _ _
      | exact tollhouseref15_May.mono _ _
      | exact LeO.none _
      | refine LeO.ite ?_ ?_
      | refine LeO.bind ?_ (fun _ => ?_)
theorem tollhouseref15_Tenant.mono : ∀ a0 a1 a2 a3 a4 a5 a6 a7 a8 k, LeO (tollhouseref15_Tenant.f k a0 a1 a2 a3 a4 a5 a6 a7 a8) (tollhouseref15_Tenant.f (k + 1) a0 a1 a2 a3 a4 a5 a6 a7 a8) := by
  intro a0 a1 a2 a3 a4 a5 a6 a7 a8 k
  have ih0 := tollhouseref15_Tenant.mono_l k
  unfold tollhouseref15_Tenant.f
  repeat' first
      | (with_reducible exact ih0 _ _ _ _ _ _ _ _ _ _)
      | (with_reducible exact tollhouseref14_All.mono _ _)
      | (with_reducible exact tollhouseref15_May.mono _ _)
      | (with_reducible exact LeO.refl _)
      | (with_reducible exact LeO.none _)
      | (with_reducible refine LeO.ite ?_ ?_)
      | (with_reducible refine LeO.bind ?_ (fun _ => ?_))
      | exact ih0 _ _ _ _ _ _ _ _ _ _
      | exact tollhouseref14_All.mono _ _
      | exact tollhouseref15_May.mono _ _
      | exact LeO.none _
      | refine LeO.ite ?_ ?_
      | refine LeO.bind ?_ (fun _ => ?_)
set_option maxHeartbeats 8000000 in
set_option maxRecDepth 100000 in
theorem tollhouseref15_Tenant.calls (k : Nat) (a0_0 : ByteArray) (A0_1 : Option Addr) (c0_1 : Nat) (l0_1 : List (S46)) (a0_2 : Int) (a0_3 : Int) (a0_4 : Int) (a0_5 : Int) (a0_6 : Int) (a0_7 : Int) (a0_8 : Int) (r : Bool) (w : World) (hr0_1 : Kd.C k46 w A0_1 l0_1.length l0_1) (hc0_1 : l0_1.length ≤ c0_1) (HGg : Glob w) (h : tollhouseref15_Tenant.f k a0_0 l0_1 a0_2 a0_3 a0_4 a0_5 a0_6 a0_7 a0_8 = some r) :
    Calls Tryz.prog 12 #[.agg #[.string a0_0, .slice A0_1 l0_1.length c0_1, .int .i64 a0_2, .int .i64 a0_3, .int .i64 a0_4, .int .i64 a0_5, .int .i64 a0_6, .int .i64 a0_7, .int .i64 a0_8]] w fun e w' => e = .returned (.bool r) ∧ Below w.heap.size w w' := by
  have hu27 := Tryz.underlying27
  have HGl := Aside0.mk HGg
  clear HGg
  have HR0_1 := Aside0.mk hr0_1
  have HC0_1 := Aside0.mk hc0_1
  clear hr0_1 hc0_1
  have HB := Aside0.mk (Below.refl w.heap.size w)
  have H : ((tollhouseref15_May.f k a0_0).bind fun t124 => (if t124 = true then ((tollhouseref14_All.f k l0_1).bind fun t125 => (tollhouseref15_Tenant.j0 k (!t125) a0_0 l0_1 a0_2 a0_3 a0_4 a0_5 a0_6 a0_7 a0_8)) else (tollhouseref15_Tenant.j0 k true a0_0 l0_1 a0_2 a0_3 a0_4 a0_5 a0_6 a0_7 a0_8))) = some r := h
  clear h
  have HC2 := Aside0.mk H
  clear H
  go_enter Tryz.func12, Tryz.ntmps12
  go_upto_region 1 with (first | ((with_reducible refine gate_dst (N := 1) rfl ?_); refine box_event ?hg (N := 1) ?hd (cs := #[.string a0_0, .slice A0_1 l0_1.length c0_1, .int .i64 a0_2, .int .i64 a0_3, .int .i64 a0_4, .int .i64 a0_5, .int .i64 a0_6, .int .i64 a0_7, .int .i64 a0_8]) (t := 27) ?hr ?_; (case hd => rfl); (case hg => rfl); (case hr => first | (go_simp; done) | (go_simp; rfl)); intro gb123 hg w3 hbox hb; have n0_ := Aside0.mk (below_step (by repeat (first | (with_reducible first | exact HB.out | apply below_alloc | apply pw_below_drewN | apply below_drew1) | exact HB.out)) hb); have n1_ := Aside0.mk (hbox); have n2_ := Aside0.mk ((by rw [hg]; exact (below_size (by repeat (first | (with_reducible first | exact HB.out | apply below_alloc | apply pw_below_drewN | apply below_drew1) | exact HB.out))) : w.heap.size ≤ gb123)); have n3_ := Aside0.mk ((by rw [hg]; exact (below_size (by repeat (first | (with_reducible first | exact HB.out | apply below_alloc | apply pw_below_drewN | apply below_drew1) | exact HB.out))) : w.heap.size ≤ gb123)); clear HB; have HB := n0_; have BK123 := n1_; have GW123 := n2_; have GE123 := n3_; clear n0_ n1_ n2_ n3_; clear hb hbox hg))
  (try simp only [Act.put, List.setIfInBounds_toArray, List.set_cons_zero, List.set_cons_succ])
  go_cut [12] (fun v12 wc => ∃ (kq : Nat) (x12_1 : Bool), v12 = .bool x12_1 ∧ Aside0 (tollhouseref15_Tenant.j0 kq x12_1 a0_0 l0_1 a0_2 a0_3 a0_4 a0_5 a0_6 a0_7 a0_8 = some r) ∧ Aside0 (kq ≤ k) ∧ Aside0 (wc.heap[gb123]? = some (.cells #[.string a0_0, (.slice A0_1 l0_1.length c0_1), .int .i64 a0_2, .int .i64 a0_3, .int .i64 a0_4, .int .i64 a0_5, .int .i64 a0_6, .int .i64 a0_7, .int .i64 a0_8] 27 (0, 0))) ∧ Aside0 (Below w.heap.size w wc))
  case first =>
    have H := HC2.out
    clear HC2
    replace H := Option.bind_eq_some_iff.mp H
    obtain ⟨t124, A40, H⟩ := H
    replace H : (if t124 = true then ((tollhouseref14_All.f k l0_1).bind fun t125 => (tollhouseref15_Tenant.j0 k (!t125) a0_0 l0_1 a0_2 a0_3 a0_4 a0_5 a0_6 a0_7 a0_8)) else (tollhouseref15_Tenant.j0 k true a0_0 l0_1 a0_2 a0_3 a0_4 a0_5 a0_6 a0_7 a0_8)) = some r := H
    have A4 := Aside0.mk A40
    clear A40
    by_cases c5 : t124 = true
    · subst c5
      have H1 : ((tollhouseref14_All.f k l0_1).bind fun t125 => (tollhouseref15_Tenant.j0 k (!t125) a0_0 l0_1 a0_2 a0_3 a0_4 a0_5 a0_6 a0_7 a0_8)) = some r := by rw [if_pos rfl] at H; exact H
      clear H
      have H := H1
      clear H1
      replace H := Option.bind_eq_some_iff.mp H
      obtain ⟨t125, A60, H⟩ := H
      replace H : (tollhouseref15_Tenant.j0 k (!t125) a0_0 l0_1 a0_2 a0_3 a0_4 a0_5 a0_6 a0_7 a0_8) = some r := H
      have A6 := Aside0.mk A60
      clear A60
      have H' := Aside0.mk H
      clear H
      have hcz7_0 : w3.cell? ⟨gb123, 0, none⟩ = some (.string a0_0) := (blk_cell BK123.out 0).trans rfl
      have hcz7_1 : w3.cell? ⟨gb123, 1, none⟩ = some (.slice A0_1 l0_1.length c0_1) := (blk_cell BK123.out 1).trans rfl
      have hcz7_2 : w3.cell? ⟨gb123, 2, none⟩ = some (.int .i64 a0_2) := (blk_cell BK123.out 2).trans rfl
      have hcz7_3 : w3.cell? ⟨gb123, 3, none⟩ = some (.int .i64 a0_3) := (blk_cell BK123.out 3).trans rfl
      have hcz7_4 : w3.cell? ⟨gb123, 4, none⟩ = some (.int .i64 a0_4) := (blk_cell BK123.out 4).trans rfl
      have hcz7_5 : w3.cell? ⟨gb123, 5, none⟩ = some (.int .i64 a0_5) := (blk_cell BK123.out 5).trans rfl
      have hcz7_6 : w3.cell? ⟨gb123, 6, none⟩ = some (.int .i64 a0_6) := (blk_cell BK123.out 6).trans rfl
      have hcz7_7 : w3.cell? ⟨gb123, 7, none⟩ = some (.int .i64 a0_7) := (blk_cell BK123.out 7).trans rfl
      have hcz7_8 : w3.cell? ⟨gb123, 8, none⟩ = some (.int .i64 a0_8) := (blk_cell BK123.out 8).trans rfl
      have hfz7_0 := blk_frozen BK123.out 0
      have hfz7_1 := blk_frozen BK123.out 1
      have hfz7_2 := blk_frozen BK123.out 2
      have hfz7_3 := blk_frozen BK123.out 3
      have hfz7_4 := blk_frozen BK123.out 4
      have hfz7_5 := blk_frozen BK123.out 5
      have hfz7_6 := blk_frozen BK123.out 6
      have hfz7_7 := blk_frozen BK123.out 7
      have hfz7_8 := blk_frozen BK123.out 8
      go_wp2_with (first | ((with_reducible refine gate_callee (f := 14) rfl ?_); refine goesL_ (some 5) rfl rfl Tryz.func14 (by kernel_rfl) rfl #[.string a0_0] rfl (by (try simp only [List.map_toArray, List.map_cons, List.map_nil]); first | done | rfl | (simp only [List.length_drop, List.length_take]; rfl)) ?_; (with_reducible refine (tollhouseref15_May.calls k a0_0 true _ (Glob.below HGl.out (by repeat (first | (with_reducible first | exact HB.out | apply below_alloc | apply pw_below_drewN | apply below_drew1 | refine below_set ?_ GE123.out) | exact HB.out))) A4.out).mono ?_); rintro e w' ⟨rfl, ⟨nd, rfl⟩⟩; refine ⟨_, rfl, ?_⟩) | (go_at_call 26; (with_reducible refine (tollhouseref14_All.calls k _ _ l0_1 t125 _ ?side1 ?side2 (Glob.below HGl.out (by repeat (first | (with_reducible first | exact HB.out | apply below_alloc | apply pw_below_drewN | apply below_drew1 | refine below_set ?_ GE123.out) | exact HB.out))) A6.out).mono ?_); (case side1 => repeat (first | exact (Kd.C_below HR0_1.out (by repeat (first | (with_reducible first | exact HB.out | apply below_alloc | apply pw_below_drewN | apply below_drew1 | refine below_set ?_ GE123.out) | exact HB.out))) | (with_reducible refine Kd.C_alloc ?_ _) | (with_reducible refine Kd.C_drewN ?_ _) | (with_reducible refine Kd.C_drew ?_))); (case side2 => exact HC0_1.out); rintro e w8 ⟨rfl, hb⟩; have n0_ := Aside0.mk (blk_below (g := gb123) (o := .cells #[.string a0_0, .slice A0_1 l0_1.length c0_1, .int .i64 a0_2, .int .i64 a0_3, .int .i64 a0_4, .int .i64 a0_5, .int .i64 a0_6, .int .i64 a0_7, .int .i64 a0_8] 27 (0, 0)) (by (with_reducible repeat (first | refine blk_drewN ?_ _ | refine blk_drew ?_ | refine blk_alloc ?_ _)); exact BK123.out) hb); have n1_ := Aside0.mk (below_step (by repeat (first | (with_reducible first | exact HB.out | apply below_alloc | apply pw_below_drewN | apply below_drew1 | refine below_set ?_ GE123.out) | exact HB.out)) hb); clear BK123; clear HB; have BK123 := n0_; have HB := n1_; clear n0_ n1_; (try clear hb); (try clear hb2); (try clear hk); (try clear hi)))
      go_meet
      case rel => exact ⟨_, (!t125), (by first | rfl | (simp; done) | (simp [*]; done)), H', ⟨by first | omega | exact Nat.le_refl _⟩, ⟨by (with_reducible repeat (first | refine blk_drewN ?_ _ | refine blk_drew ?_ | refine blk_alloc ?_ _)); exact BK123.out⟩, ⟨by repeat (first | (with_reducible first | exact HB.out | apply below_alloc | apply pw_below_drewN | apply below_drew1 | refine below_set ?_ GE123.out) | exact HB.out)⟩⟩
    · replace c5 := Bool.eq_false_iff.mpr c5
      subst c5
      have H1 : (tollhouseref15_Tenant.j0 k true a0_0 l0_1 a0_2 a0_3 a0_4 a0_5 a0_6 a0_7 a0_8) = some r := by rw [if_neg (show ¬ (false = true) by decide)] at H; exact H
      clear H
      have H := H1
      clear H1
      have H' := Aside0.mk H
      clear H
      have hcz9_0 : w3.cell? ⟨gb123, 0, none⟩ = some (.string a0_0) := (blk_cell BK123.out 0).trans rfl
      have hcz9_1 : w3.cell? ⟨gb123, 1, none⟩ = some (.slice A0_1 l0_1.length c0_1) := (blk_cell BK123.out 1).trans rfl
      have hcz9_2 : w3.cell? ⟨gb123, 2, none⟩ = some (.int .i64 a0_2) := (blk_cell BK123.out 2).trans rfl
      have hcz9_3 : w3.cell? ⟨gb123, 3, none⟩ = some (.int .i64 a0_3) := (blk_cell BK123.out 3).trans rfl
      have hcz9_4 : w3.cell? ⟨gb123, 4, none⟩ = some (.int .i64 a0_4) := (blk_cell BK123.out 4).trans rfl
      have hcz9_5 : w3.cell? ⟨gb123, 5, none⟩ = some (.int .i64 a0_5) := (blk_cell BK123.out 5).trans rfl
      have hcz9_6 : w3.cell? ⟨gb123, 6, none⟩ = some (.int .i64 a0_6) := (blk_cell BK123.out 6).trans rfl
      have hcz9_7 : w3.cell? ⟨gb123, 7, none⟩ = some (.int .i64 a0_7) := (blk_cell BK123.out 7).trans rfl
      have hcz9_8 : w3.cell? ⟨gb123, 8, none⟩ = some (.int .i64 a0_8) := (blk_cell BK123.out 8).trans rfl
      have hfz9_0 := blk_frozen BK123.out 0
      have hfz9_1 := blk_frozen BK123.out 1
      have hfz9_2 := blk_frozen BK123.out 2
      have hfz9_3 := blk_frozen BK123.out 3
      have hfz9_4 := blk_frozen BK123.out 4
      have hfz9_5 := blk_frozen BK123.out 5
      have hfz9_6 := blk_frozen BK123.out 6
      have hfz9_7 := blk_frozen BK123.out 7
      have hfz9_8 := blk_frozen BK123.out 8
      go_wp2_with (first | ((with_reducible refine gate_callee (f := 14) rfl ?_); refine goesL_ (some 5) rfl rfl Tryz.func14 (by kernel_rfl) rfl #[.string a0_0] rfl (by (try simp only [List.map_toArray, List.map_cons, List.map_nil]); first | done | rfl | (simp only [List.length_drop, List.length_take]; rfl)) ?_; (with_reducible refine (tollhouseref15_May.calls k a0_0 false _ (Glob.below HGl.out (by repeat (first | (with_reducible first | exact HB.out | apply below_alloc | apply pw_below_drewN | apply below_drew1 | refine below_set ?_ GE123.out) | exact HB.out))) A4.out).mono ?_); rintro e w' ⟨rfl, ⟨nd, rfl⟩⟩; refine ⟨_, rfl, ?_⟩))
      go_meet
      case rel => exact ⟨_, (true), (by first | rfl | (simp; done) | (simp [*]; done)), H', ⟨by first | omega | exact Nat.le_refl _⟩, ⟨by (with_reducible repeat (first | refine blk_drewN ?_ _ | refine blk_drew ?_ | refine blk_alloc ?_ _)); exact BK123.out⟩, ⟨by repeat (first | (with_reducible first | exact HB.out | apply below_alloc | apply pw_below_drewN | apply below_drew1 | refine below_set ?_ GE123.out) | exact HB.out)⟩⟩
  case rest =>
    clear HC2
    try clear c1
    try clear p2
    try clear c5
    try clear hcz7_0
    try clear hcz7_1
    try clear hcz7_2
    try clear hcz7_3
    try clear hcz7_4
    try clear hcz7_5
    try clear hcz7_6
    try clear hcz7_7
    try clear hcz7_8
    try clear hcz9_0
    try clear hcz9_1
    try clear hcz9_2
    try clear hcz9_3
    try clear hcz9_4
    try clear hcz9_5
    try clear hcz9_6
    try clear hcz9_7
    try clear hcz9_8
    try clear hfz7_0
    try clear hfz7_1
    try clear hfz7_2
    try clear hfz7_3
    try clear hfz7_4
    try clear hfz7_5
    try clear hfz7_6
    try clear hfz7_7
    try clear hfz7_8
    try clear hfz9_0
    try clear hfz9_1
    try clear hfz9_2
    try clear hfz9_3
    try clear hfz9_4
    try clear hfz9_5
    try clear hfz9_6
    try clear hfz9_7
    try clear hfz9_8
    obtain ⟨kq, x12_1, rfl, HA, HJ1, BK123, HB⟩ := hcut
    cases kq with
    | zero => exact absurd HA.out (by simp [tollhouseref15_Tenant.j0])
    | succ kj1 =>
      have H := HA.out
      clear HA
      simp only [tollhouseref15_Tenant.j0] at H
      by_cases c10 : x12_1 = true
      · subst c10
        have H1 : (some false) = some r := by rw [if_pos rfl] at H; exact H
        clear H
        have H := H1
        clear H1
        obtain rfl := Option.some.inj H
        go_wp2
        go_ret
        exact ⟨by first | rfl | (simp [errW_none, errW_some] <;> rfl) | (simp [*, errW_none, errW_some] <;> rfl), by repeat (first | (with_reducible first | exact HB.out | apply below_alloc | apply pw_below_drewN | apply below_drew1 | refine below_set ?_ GE123.out) | exact HB.out)⟩
      · replace c10 := Bool.eq_false_iff.mpr c10
        subst c10
        have H1 : (if a0_2 < 0 then (some false) else (if a0_2 > 262144 then (some false) else (if a0_3 < 0 then (some false) else (if a0_3 > 64 then (some false) else (if a0_4 < 1 then (some false) else (if a0_4 > 16 then (some false) else (if a0_5 < 1 then (some false) else (if a0_5 > 8 then (some false) else (if a0_6 ≥ 0 then (if a0_6 ≤ 16 then (if a0_7 ≥ 1 then (if a0_7 ≤ 1000 then (if a0_8 ≥ 1 then (some (decide (a0_8 ≤ 1000))) else (some false)) else (some false)) else (some false)) else (some false)) else (some false)))))))))) = some r := by rw [if_neg (show ¬ (false = true) by decide)] at H; exact H
        clear H
        have H := H1
        clear H1
        by_cases c11 : a0_2 < 0
        · rw [if_pos c11] at H
          have c11b0 : decide (a0_2 < 0) = true := decide_eq_true c11
          clear c11
          obtain rfl := Option.some.inj H
          have hcz12_0 : wc.cell? ⟨gb123, 0, none⟩ = some (.string a0_0) := (blk_cell BK123.out 0).trans rfl
          have hcz12_1 : wc.cell? ⟨gb123, 1, none⟩ = some (.slice A0_1 l0_1.length c0_1) := (blk_cell BK123.out 1).trans rfl
          have hcz12_2 : wc.cell? ⟨gb123, 2, none⟩ = some (.int .i64 a0_2) := (blk_cell BK123.out 2).trans rfl
          have hcz12_3 : wc.cell? ⟨gb123, 3, none⟩ = some (.int .i64 a0_3) := (blk_cell BK123.out 3).trans rfl
          have hcz12_4 : wc.cell? ⟨gb123, 4, none⟩ = some (.int .i64 a0_4) := (blk_cell BK123.out 4).trans rfl
          have hcz12_5 : wc.cell? ⟨gb123, 5, none⟩ = some (.int .i64 a0_5) := (blk_cell BK123.out 5).trans rfl
          have hcz12_6 : wc.cell? ⟨gb123, 6, none⟩ = some (.int .i64 a0_6) := (blk_cell BK123.out 6).trans rfl
          have hcz12_7 : wc.cell? ⟨gb123, 7, none⟩ = some (.int .i64 a0_7) := (blk_cell BK123.out 7).trans rfl
          have hcz12_8 : wc.cell? ⟨gb123, 8, none⟩ = some (.int .i64 a0_8) := (blk_cell BK123.out 8).trans rfl
          have hfz12_0 := blk_frozen BK123.out 0
          have hfz12_1 := blk_frozen BK123.out 1
          have hfz12_2 := blk_frozen BK123.out 2
          have hfz12_3 := blk_frozen BK123.out 3
          have hfz12_4 := blk_frozen BK123.out 4
          have hfz12_5 := blk_frozen BK123.out 5
          have hfz12_6 := blk_frozen BK123.out 6
          have hfz12_7 := blk_frozen BK123.out 7
          have hfz12_8 := blk_frozen BK123.out 8
          go_wp2
          go_ret
          exact ⟨by first | rfl | (simp [errW_none, errW_some] <;> rfl) | (simp [*, errW_none, errW_some] <;> rfl), by repeat (first | (with_reducible first | exact HB.out | apply below_alloc | apply pw_below_drewN | apply below_drew1 | refine below_set ?_ GE123.out) | exact HB.out)⟩
        · rw [if_neg c11] at H
          have c11b0 : decide (a0_2 < 0) = false := decide_eq_false c11
          clear c11
          by_cases c13 : a0_2 > 262144
          · rw [if_pos c13] at H
            have c13b0 : decide (262144 < a0_2) = true := decide_eq_true c13
            clear c13
            obtain rfl := Option.some.inj H
            have hcz14_0 : wc.cell? ⟨gb123, 0, none⟩ = some (.string a0_0) := (blk_cell BK123.out 0).trans rfl
            have hcz14_1 : wc.cell? ⟨gb123, 1, none⟩ = some (.slice A0_1 l0_1.length c0_1) := (blk_cell BK123.out 1).trans rfl
            have hcz14_2 : wc.cell? ⟨gb123, 2, none⟩ = some (.int .i64 a0_2) := (blk_cell BK123.out 2).trans rfl
            have hcz14_3 : wc.cell? ⟨gb123, 3, none⟩ = some (.int .i64 a0_3) := (blk_cell BK123.out 3).trans rfl
            have hcz14_4 : wc.cell? ⟨gb123, 4, none⟩ = some (.int .i64 a0_4) := (blk_cell BK123.out 4).trans rfl
            have hcz14_5 : wc.cell? ⟨gb123, 5, none⟩ = some (.int .i64 a0_5) := (blk_cell BK123.out 5).trans rfl
            have hcz14_6 : wc.cell? ⟨gb123, 6, none⟩ = some (.int .i64 a0_6) := (blk_cell BK123.out 6).trans rfl
            have hcz14_7 : wc.cell? ⟨gb123, 7, none⟩ = some (.int .i64 a0_7) := (blk_cell BK123.out 7).trans rfl
            have hcz14_8 : wc.cell? ⟨gb123, 8, none⟩ = some (.int .i64 a0_8) := (blk_cell BK123.out 8).trans rfl
            have hfz14_0 := blk_frozen BK123.out 0
            have hfz14_1 := blk_frozen BK123.out 1
            have hfz14_2 := blk_frozen BK123.out 2
            have hfz14_3 := blk_frozen BK123.out 3
            have hfz14_4 := blk_frozen BK123.out 4
            have hfz14_5 := blk_frozen BK123.out 5
            have hfz14_6 := blk_frozen BK123.out 6
            have hfz14_7 := blk_frozen BK123.out 7
            have hfz14_8 := blk_frozen BK123.out 8
            go_wp2
            go_ret
            exact ⟨by first | rfl | (simp [errW_none, errW_some] <;> rfl) | (simp [*, errW_none, errW_some] <;> rfl), by repeat (first | (with_reducible first | exact HB.out | apply below_alloc | apply pw_below_drewN | apply below_drew1 | refine below_set ?_ GE123.out) | exact HB.out)⟩
          · rw [if_neg c13] at H
            have c13b0 : decide (262144 < a0_2) = false := decide_eq_false c13
            clear c13
            by_cases c15 : a0_3 < 0
            · rw [if_pos c15] at H
              have c15b0 : decide (a0_3 < 0) = true := decide_eq_true c15
              clear c15
              obtain rfl := Option.some.inj H
              have hcz16_0 : wc.cell? ⟨gb123, 0, none⟩ = some (.string a0_0) := (blk_cell BK123.out 0).trans rfl
              have hcz16_1 : wc.cell? ⟨gb123, 1, none⟩ = some (.slice A0_1 l0_1.length c0_1) := (blk_cell BK123.out 1).trans rfl
              have hcz16_2 : wc.cell? ⟨gb123, 2, none⟩ = some (.int .i64 a0_2) := (blk_cell BK123.out 2).trans rfl
              have hcz16_3 : wc.cell? ⟨gb123, 3, none⟩ = some (.int .i64 a0_3) := (blk_cell BK123.out 3).trans rfl
              have hcz16_4 : wc.cell? ⟨gb123, 4, none⟩ = some (.int .i64 a0_4) := (blk_cell BK123.out 4).trans rfl
              have hcz16_5 : wc.cell? ⟨gb123, 5, none⟩ = some (.int .i64 a0_5) := (blk_cell BK123.out 5).trans rfl
              have hcz16_6 : wc.cell? ⟨gb123, 6, none⟩ = some (.int .i64 a0_6) := (blk_cell BK123.out 6).trans rfl
              have hcz16_7 : wc.cell? ⟨gb123, 7, none⟩ = some (.int .i64 a0_7) := (blk_cell BK123.out 7).trans rfl
              have hcz16_8 : wc.cell? ⟨gb123, 8, none⟩ = some (.int .i64 a0_8) := (blk_cell BK123.out 8).trans rfl
              have hfz16_0 := blk_frozen BK123.out 0
              have hfz16_1 := blk_frozen BK123.out 1
              have hfz16_2 := blk_frozen BK123.out 2
              have hfz16_3 := blk_frozen BK123.out 3
              have hfz16_4 := blk_frozen BK123.out 4
              have hfz16_5 := blk_frozen BK123.out 5
              have hfz16_6 := blk_frozen BK123.out 6
              have hfz16_7 := blk_frozen BK123.out 7
              have hfz16_8 := blk_frozen BK123.out 8
              go_wp2
              go_ret
              exact ⟨by first | rfl | (simp [errW_none, errW_some] <;> rfl) | (simp [*, errW_none, errW_some] <;> rfl), by repeat (first | (with_reducible first | exact HB.out | apply below_alloc | apply pw_below_drewN | apply below_drew1 | refine below_set ?_ GE123.out) | exact HB.out)⟩
            · rw [if_neg c15] at H
              have c15b0 : decide (a0_3 < 0) = false := decide_eq_false c15
              clear c15
              by_cases c17 : a0_3 > 64
              · rw [if_pos c17] at H
                have c17b0 : decide (64 < a0_3) = true := decide_eq_true c17
                clear c17
                obtain rfl := Option.some.inj H
                have hcz18_0 : wc.cell? ⟨gb123, 0, none⟩ = some (.string a0_0) := (blk_cell BK123.out 0).trans rfl
                have hcz18_1 : wc.cell? ⟨gb123, 1, none⟩ = some (.slice A0_1 l0_1.length c0_1) := (blk_cell BK123.out 1).trans rfl
                have hcz18_2 : wc.cell? ⟨gb123, 2, none⟩ = some (.int .i64 a0_2) := (blk_cell BK123.out 2).trans rfl
                have hcz18_3 : wc.cell? ⟨gb123, 3, none⟩ = some (.int .i64 a0_3) := (blk_cell BK123.out 3).trans rfl
                have hcz18_4 : wc.cell? ⟨gb123, 4, none⟩ = some (.int .i64 a0_4) := (blk_cell BK123.out 4).trans rfl
                have hcz18_5 : wc.cell? ⟨gb123, 5, none⟩ = some (.int .i64 a0_5) := (blk_cell BK123.out 5).trans rfl
                have hcz18_6 : wc.cell? ⟨gb123, 6, none⟩ = some (.int .i64 a0_6) := (blk_cell BK123.out 6).trans rfl
                have hcz18_7 : wc.cell? ⟨gb123, 7, none⟩ = some (.int .i64 a0_7) := (blk_cell BK123.out 7).trans rfl
                have hcz18_8 : wc.cell? ⟨gb123, 8, none⟩ = some (.int .i64 a0_8) := (blk_cell BK123.out 8).trans rfl
                have hfz18_0 := blk_frozen BK123.out 0
                have hfz18_1 := blk_frozen BK123.out 1
                have hfz18_2 := blk_frozen BK123.out 2
                have hfz18_3 := blk_frozen BK123.out 3
                have hfz18_4 := blk_frozen BK123.out 4
                have hfz18_5 := blk_frozen BK123.out 5
                have hfz18_6 := blk_frozen BK123.out 6
                have hfz18_7 := blk_frozen BK123.out 7
                have hfz18_8 := blk_frozen BK123.out 8
                go_wp2
                go_ret
                exact ⟨by first | rfl | (simp [errW_none, errW_some] <;> rfl) | (simp [*, errW_none, errW_some] <;> rfl), by repeat (first | (with_reducible first | exact HB.out | apply below_alloc | apply pw_below_drewN | apply below_drew1 | refine below_set ?_ GE123.out) | exact HB.out)⟩
              · rw [if_neg c17] at H
                have c17b0 : decide (64 < a0_3) = false := decide_eq_false c17
                clear c17
                by_cases c19 : a0_4 < 1
                · rw [if_pos c19] at H
                  have c19b0 : decide (a0_4 < 1) = true := decide_eq_true c19
                  clear c19
                  obtain rfl := Option.some.inj H
                  have hcz20_0 : wc.cell? ⟨gb123, 0, none⟩ = some (.string a0_0) := (blk_cell BK123.out 0).trans rfl
                  have hcz20_1 : wc.cell? ⟨gb123, 1, none⟩ = some (.slice A0_1 l0_1.length c0_1) := (blk_cell BK123.out 1).trans rfl
                  have hcz20_2 : wc.cell? ⟨gb123, 2, none⟩ = some (.int .i64 a0_2) := (blk_cell BK123.out 2).trans rfl
                  have hcz20_3 : wc.cell? ⟨gb123, 3, none⟩ = some (.int .i64 a0_3) := (blk_cell BK123.out 3).trans rfl
                  have hcz20_4 : wc.cell? ⟨gb123, 4, none⟩ = some (.int .i64 a0_4) := (blk_cell BK123.out 4).trans rfl
                  have hcz20_5 : wc.cell? ⟨gb123, 5, none⟩ = some (.int .i64 a0_5) := (blk_cell BK123.out 5).trans rfl
                  have hcz20_6 : wc.cell? ⟨gb123, 6, none⟩ = some (.int .i64 a0_6) := (blk_cell BK123.out 6).trans rfl
                  have hcz20_7 : wc.cell? ⟨gb123, 7, none⟩ = some (.int .i64 a0_7) := (blk_cell BK123.out 7).trans rfl
                  have hcz20_8 : wc.cell? ⟨gb123, 8, none⟩ = some (.int .i64 a0_8) := (blk_cell BK123.out 8).trans rfl
                  have hfz20_0 := blk_frozen BK123.out 0
                  have hfz20_1 := blk_frozen BK123.out 1
                  have hfz20_2 := blk_frozen BK123.out 2
                  have hfz20_3 := blk_frozen BK123.out 3
                  have hfz20_4 := blk_frozen BK123.out 4
                  have hfz20_5 := blk_frozen BK123.out 5
                  have hfz20_6 := blk_frozen BK123.out 6
                  have hfz20_7 := blk_frozen BK123.out 7
                  have hfz20_8 := blk_frozen BK123.out 8
                  go_wp2
                  go_ret
                  exact ⟨by first | rfl | (simp [errW_none, errW_some] <;> rfl) | (simp [*, errW_none, errW_some] <;> rfl), by repeat (first | (with_reducible first | exact HB.out | apply below_alloc | apply pw_below_drewN | apply below_drew1 | refine below_set ?_ GE123.out) | exact HB.out)⟩
                · rw [if_neg c19] at H
                  have c19b0 : decide (a0_4 < 1) = false := decide_eq_false c19
                  clear c19
                  by_cases c21 : a0_4 > 16
                  · rw [if_pos c21] at H
                    have c21b0 : decide (16 < a0_4) = true := decide_eq_true c21
                    clear c21
                    obtain rfl := Option.some.inj H
                    have hcz22_0 : wc.cell? ⟨gb123, 0, none⟩ = some (.string a0_0) := (blk_cell BK123.out 0).trans rfl
                    have hcz22_1 : wc.cell? ⟨gb123, 1, none⟩ = some (.slice A0_1 l0_1.length c0_1) := (blk_cell BK123.out 1).trans rfl
                    have hcz22_2 : wc.cell? ⟨gb123, 2, none⟩ = some (.int .i64 a0_2) := (blk_cell BK123.out 2).trans rfl
                    have hcz22_3 : wc.cell? ⟨gb123, 3, none⟩ = some (.int .i64 a0_3) := (blk_cell BK123.out 3).trans rfl
                    have hcz22_4 : wc.cell? ⟨gb123, 4, none⟩ = some (.int .i64 a0_4) := (blk_cell BK123.out 4).trans rfl
                    have hcz22_5 : wc.cell? ⟨gb123, 5, none⟩ = some (.int .i64 a0_5) := (blk_cell BK123.out 5).trans rfl
                    have hcz22_6 : wc.cell? ⟨gb123, 6, none⟩ = some (.int .i64 a0_6) := (blk_cell BK123.out 6).trans rfl
                    have hcz22_7 : wc.cell? ⟨gb123, 7, none⟩ = some (.int .i64 a0_7) := (blk_cell BK123.out 7).trans rfl
                    have hcz22_8 : wc.cell? ⟨gb123, 8, none⟩ = some (.int .i64 a0_8) := (blk_cell BK123.out 8).trans rfl
                    have hfz22_0 := blk_frozen BK123.out 0
                    have hfz22_1 := blk_frozen BK123.out 1
                    have hfz22_2 := blk_frozen BK123.out 2
                    have hfz22_3 := blk_frozen BK123.out 3
                    have hfz22_4 := blk_frozen BK123.out 4
                    have hfz22_5 := blk_frozen BK123.out 5
                    have hfz22_6 := blk_frozen BK123.out 6
                    have hfz22_7 := blk_frozen BK123.out 7
                    have hfz22_8 := blk_frozen BK123.out 8
                    go_wp2
                    go_ret
                    exact ⟨by first | rfl | (simp [errW_none, errW_some] <;> rfl) | (simp [*, errW_none, errW_some] <;> rfl), by repeat (first | (with_reducible first | exact HB.out | apply below_alloc | apply pw_below_drewN | apply below_drew1 | refine below_set ?_ GE123.out) | exact HB.out)⟩
                  · rw [if_neg c21] at H
                    have c21b0 : decide (16 < a0_4) = false := decide_eq_false c21
                    clear c21
                    by_cases c23 : a0_5 < 1
                    · rw [if_pos c23] at H
                      have c23b0 : decide (a0_5 < 1) = true := decide_eq_true c23
                      clear c23
                      obtain rfl := Option.some.inj H
                      have hcz24_0 : wc.cell? ⟨gb123, 0, none⟩ = some (.string a0_0) := (blk_cell BK123.out 0).trans rfl
                      have hcz24_1 : wc.cell? ⟨gb123, 1, none⟩ = some (.slice A0_1 l0_1.length c0_1) := (blk_cell BK123.out 1).trans rfl
                      have hcz24_2 : wc.cell? ⟨gb123, 2, none⟩ = some (.int .i64 a0_2) := (blk_cell BK123.out 2).trans rfl
                      have hcz24_3 : wc.cell? ⟨gb123, 3, none⟩ = some (.int .i64 a0_3) := (blk_cell BK123.out 3).trans rfl
                      have hcz24_4 : wc.cell? ⟨gb123, 4, none⟩ = some (.int .i64 a0_4) := (blk_cell BK123.out 4).trans rfl
                      have hcz24_5 : wc.cell? ⟨gb123, 5, none⟩ = some (.int .i64 a0_5) := (blk_cell BK123.out 5).trans rfl
                      have hcz24_6 : wc.cell? ⟨gb123, 6, none⟩ = some (.int .i64 a0_6) := (blk_cell BK123.out 6).trans rfl
                      have hcz24_7 : wc.cell? ⟨gb123, 7, none⟩ = some (.int .i64 a0_7) := (blk_cell BK123.out 7).trans rfl
                      have hcz24_8 : wc.cell? ⟨gb123, 8, none⟩ = some (.int .i64 a0_8) := (blk_cell BK123.out 8).trans rfl
                      have hfz24_0 := blk_frozen BK123.out 0
                      have hfz24_1 := blk_frozen BK123.out 1
                      have hfz24_2 := blk_frozen BK123.out 2
                      have hfz24_3 := blk_frozen BK123.out 3
                      have hfz24_4 := blk_frozen BK123.out 4
                      have hfz24_5 := blk_frozen BK123.out 5
                      have hfz24_6 := blk_frozen BK123.out 6
                      have hfz24_7 := blk_frozen BK123.out 7
                      have hfz24_8 := blk_frozen BK123.out 8
                      go_wp2
                      go_ret
                      exact ⟨by first | rfl | (simp [errW_none, errW_some] <;> rfl) | (simp [*, errW_none, errW_some] <;> rfl), by repeat (first | (with_reducible first | exact HB.out | apply below_alloc | apply pw_below_drewN | apply below_drew1 | refine below_set ?_ GE123.out) | exact HB.out)⟩
                    · rw [if_neg c23] at H
                      have c23b0 : decide (a0_5 < 1) = false := decide_eq_false c23
                      clear c23
                      by_cases c25 : a0_5 > 8
                      · rw [if_pos c25] at H
                        have c25b0 : decide (8 < a0_5) = true := decide_eq_true c25
                        clear c25
                        obtain rfl := Option.some.inj H
                        have hcz26_0 : wc.cell? ⟨gb123, 0, none⟩ = some (.string a0_0) := (blk_cell BK123.out 0).trans rfl
                        have hcz26_1 : wc.cell? ⟨gb123, 1, none⟩ = some (.slice A0_1 l0_1.length c0_1) := (blk_cell BK123.out 1).trans rfl
                        have hcz26_2 : wc.cell? ⟨gb123, 2, none⟩ = some (.int .i64 a0_2) := (blk_cell BK123.out 2).trans rfl
                        have hcz26_3 : wc.cell? ⟨gb123, 3, none⟩ = some (.int .i64 a0_3) := (blk_cell BK123.out 3).trans rfl
                        have hcz26_4 : wc.cell? ⟨gb123, 4, none⟩ = some (.int .i64 a0_4) := (blk_cell BK123.out 4).trans rfl
                        have hcz26_5 : wc.cell? ⟨gb123, 5, none⟩ = some (.int .i64 a0_5) := (blk_cell BK123.out 5).trans rfl
                        have hcz26_6 : wc.cell? ⟨gb123, 6, none⟩ = some (.int .i64 a0_6) := (blk_cell BK123.out 6).trans rfl
                        have hcz26_7 : wc.cell? ⟨gb123, 7, none⟩ = some (.int .i64 a0_7) := (blk_cell BK123.out 7).trans rfl
                        have hcz26_8 : wc.cell? ⟨gb123, 8, none⟩ = some (.int .i64 a0_8) := (blk_cell BK123.out 8).trans rfl
                        have hfz26_0 := blk_frozen BK123.out 0
                        have hfz26_1 := blk_frozen BK123.out 1
                        have hfz26_2 := blk_frozen BK123.out 2
                        have hfz26_3 := blk_frozen BK123.out 3
                        have hfz26_4 := blk_frozen BK123.out 4
                        have hfz26_5 := blk_frozen BK123.out 5
                        have hfz26_6 := blk_frozen BK123.out 6
                        have hfz26_7 := blk_frozen BK123.out 7
                        have hfz26_8 := blk_frozen BK123.out 8
                        go_wp2
                        go_ret
                        exact ⟨by first | rfl | (simp [errW_none, errW_some] <;> rfl) | (simp [*, errW_none, errW_some] <;> rfl), by repeat (first | (with_reducible first | exact HB.out | apply below_alloc | apply pw_below_drewN | apply below_drew1 | refine below_set ?_ GE123.out) | exact HB.out)⟩
                      · rw [if_neg c25] at H
                        have c25b0 : decide (8 < a0_5) = false := decide_eq_false c25
                        clear c25
                        by_cases c27 : a0_6 ≥ 0
                        · rw [if_pos c27] at H
                          have c27b0 : decide (0 ≤ a0_6) = true := decide_eq_true c27
                          clear c27
                          by_cases c28 : a0_6 ≤ 16
                          · rw [if_pos c28] at H
                            have c28b0 : decide (a0_6 ≤ 16) = true := decide_eq_true c28
                            clear c28
                            by_cases c29 : a0_7 ≥ 1
                            · rw [if_pos c29] at H
                              have c29b0 : decide (1 ≤ a0_7) = true := decide_eq_true c29
                              clear c29
                              by_cases c30 : a0_7 ≤ 1000
                              · rw [if_pos c30] at H
                                have c30b0 : decide (a0_7 ≤ 1000) = true := decide_eq_true c30
                                clear c30
                                by_cases c31 : a0_8 ≥ 1
                                · rw [if_pos c31] at H
                                  have c31b0 : decide (1 ≤ a0_8) = true := decide_eq_true c31
                                  clear c31
                                  obtain rfl := Option.some.inj H
                                  have hcz32_0 : wc.cell? ⟨gb123, 0, none⟩ = some (.string a0_0) := (blk_cell BK123.out 0).trans rfl
                                  have hcz32_1 : wc.cell? ⟨gb123, 1, none⟩ = some (.slice A0_1 l0_1.length c0_1) := (blk_cell BK123.out 1).trans rfl
                                  have hcz32_2 : wc.cell? ⟨gb123, 2, none⟩ = some (.int .i64 a0_2) := (blk_cell BK123.out 2).trans rfl
                                  have hcz32_3 : wc.cell? ⟨gb123, 3, none⟩ = some (.int .i64 a0_3) := (blk_cell BK123.out 3).trans rfl
                                  have hcz32_4 : wc.cell? ⟨gb123, 4, none⟩ = some (.int .i64 a0_4) := (blk_cell BK123.out 4).trans rfl
                                  have hcz32_5 : wc.cell? ⟨gb123, 5, none⟩ = some (.int .i64 a0_5) := (blk_cell BK123.out 5).trans rfl
                                  have hcz32_6 : wc.cell? ⟨gb123, 6, none⟩ = some (.int .i64 a0_6) := (blk_cell BK123.out 6).trans rfl
                                  have hcz32_7 : wc.cell? ⟨gb123, 7, none⟩ = some (.int .i64 a0_7) := (blk_cell BK123.out 7).trans rfl
                                  have hcz32_8 : wc.cell? ⟨gb123, 8, none⟩ = some (.int .i64 a0_8) := (blk_cell BK123.out 8).trans rfl
                                  have hfz32_0 := blk_frozen BK123.out 0
                                  have hfz32_1 := blk_frozen BK123.out 1
                                  have hfz32_2 := blk_frozen BK123.out 2
                                  have hfz32_3 := blk_frozen BK123.out 3
                                  have hfz32_4 := blk_frozen BK123.out 4
                                  have hfz32_5 := blk_frozen BK123.out 5
                                  have hfz32_6 := blk_frozen BK123.out 6
                                  have hfz32_7 := blk_frozen BK123.out 7
                                  have hfz32_8 := blk_frozen BK123.out 8
                                  go_wp2
                                  go_ret
                                  exact ⟨by first | rfl | (simp [errW_none, errW_some] <;> rfl) | (simp [*, errW_none, errW_some] <;> rfl), by repeat (first | (with_reducible first | exact HB.out | apply below_alloc | apply pw_below_drewN | apply below_drew1 | refine below_set ?_ GE123.out) | exact HB.out)⟩
                                · rw [if_neg c31] at H
                                  have c31b0 : decide (1 ≤ a0_8) = false := decide_eq_false c31
                                  clear c31
                                  obtain rfl := Option.some.inj H
                                  have hcz33_0 : wc.cell? ⟨gb123, 0, none⟩ = some (.string a0_0) := (blk_cell BK123.out 0).trans rfl
                                  have hcz33_1 : wc.cell? ⟨gb123, 1, none⟩ = some (.slice A0_1 l0_1.length c0_1) := (blk_cell BK123.out 1).trans rfl
                                  have hcz33_2 : wc.cell? ⟨gb123, 2, none⟩ = some (.int .i64 a0_2) := (blk_cell BK123.out 2).trans rfl
                                  have hcz33_3 : wc.cell? ⟨gb123, 3, none⟩ = some (.int .i64 a0_3) := (blk_cell BK123.out 3).trans rfl
                                  have hcz33_4 : wc.cell? ⟨gb123, 4, none⟩ = some (.int .i64 a0_4) := (blk_cell BK123.out 4).trans rfl
                                  have hcz33_5 : wc.cell? ⟨gb123, 5, none⟩ = some (.int .i64 a0_5) := (blk_cell BK123.out 5).trans rfl
                                  have hcz33_6 : wc.cell? ⟨gb123, 6, none⟩ = some (.int .i64 a0_6) := (blk_cell BK123.out 6).trans rfl
                                  have hcz33_7 : wc.cell? ⟨gb123, 7, none⟩ = some (.int .i64 a0_7) := (blk_cell BK123.out 7).trans rfl
                                  have hcz33_8 : wc.cell? ⟨gb123, 8, none⟩ = some (.int .i64 a0_8) := (blk_cell BK123.out 8).trans rfl
                                  have hfz33_0 := blk_frozen BK123.out 0
                                  have hfz33_1 := blk_frozen BK123.out 1
                                  have hfz33_2 := blk_frozen BK123.out 2
                                  have hfz33_3 := blk_frozen BK123.out 3
                                  have hfz33_4 := blk_frozen BK123.out 4
                                  have hfz33_5 := blk_frozen BK123.out 5
                                  have hfz33_6 := blk_frozen BK123.out 6
                                  have hfz33_7 := blk_frozen BK123.out 7
                                  have hfz33_8 := blk_frozen BK123.out 8
                                  go_wp2
                                  go_ret
                                  exact ⟨by first | rfl | (simp [errW_none, errW_some] <;> rfl) | (simp [*, errW_none, errW_some] <;> rfl), by repeat (first | (with_reducible first | exact HB.out | apply below_alloc | apply pw_below_drewN | apply below_drew1 | refine below_set ?_ GE123.out) | exact HB.out)⟩
                              · rw [if_neg c30] at H
                                have c30b0 : decide (a0_7 ≤ 1000) = false := decide_eq_false c30
                                clear c30
                                obtain rfl := Option.some.inj H
                                have hcz34_0 : wc.cell? ⟨gb123, 0, none⟩ = some (.string a0_0) := (blk_cell BK123.out 0).trans rfl
                                have hcz34_1 : wc.cell? ⟨gb123, 1, none⟩ = some (.slice A0_1 l0_1.length c0_1) := (blk_cell BK123.out 1).trans rfl
                                have hcz34_2 : wc.cell? ⟨gb123, 2, none⟩ = some (.int .i64 a0_2) := (blk_cell BK123.out 2).trans rfl
                                have hcz34_3 : wc.cell? ⟨gb123, 3, none⟩ = some (.int .i64 a0_3) := (blk_cell BK123.out 3).trans rfl
                                have hcz34_4 : wc.cell? ⟨gb123, 4, none⟩ = some (.int .i64 a0_4) := (blk_cell BK123.out 4).trans rfl
                                have hcz34_5 : wc.cell? ⟨gb123, 5, none⟩ = some (.int .i64 a0_5) := (blk_cell BK123.out 5).trans rfl
                                have hcz34_6 : wc.cell? ⟨gb123, 6, none⟩ = some (.int .i64 a0_6) := (blk_cell BK123.out 6).trans rfl
                                have hcz34_7 : wc.cell? ⟨gb123, 7, none⟩ = some (.int .i64 a0_7) := (blk_cell BK123.out 7).trans rfl
                                have hcz34_8 : wc.cell? ⟨gb123, 8, none⟩ = some (.int .i64 a0_8) := (blk_cell BK123.out 8).trans rfl
                                have hfz34_0 := blk_frozen BK123.out 0
                                have hfz34_1 := blk_frozen BK123.out 1
                                have hfz34_2 := blk_frozen BK123.out 2
                                have hfz34_3 := blk_frozen BK123.out 3
                                have hfz34_4 := blk_frozen BK123.out 4
                                have hfz34_5 := blk_frozen BK123.out 5
                                have hfz34_6 := blk_frozen BK123.out 6
                                have hfz34_7 := blk_frozen BK123.out 7
                                have hfz34_8 := blk_frozen BK123.out 8
                                go_wp2
                                go_ret
                                exact ⟨by first | rfl | (simp [errW_none, errW_some] <;> rfl) | (simp [*, errW_none, errW_some] <;> rfl), by repeat (first | (with_reducible first | exact HB.out | apply below_alloc | apply pw_below_drewN | apply below_drew1 | refine below_set ?_ GE123.out) | exact HB.out)⟩
                            · rw [if_neg c29] at H
                              have c29b0 : decide (1 ≤ a0_7) = false := decide_eq_false c29
                              clear c29
                              obtain rfl := Option.some.inj H
                              have hcz35_0 : wc.cell? ⟨gb123, 0, none⟩ = some (.string a0_0) := (blk_cell BK123.out 0).trans rfl
                              have hcz35_1 : wc.cell? ⟨gb123, 1, none⟩ = some (.slice A0_1 l0_1.length c0_1) := (blk_cell BK123.out 1).trans rfl
                              have hcz35_2 : wc.cell? ⟨gb123, 2, none⟩ = some (.int .i64 a0_2) := (blk_cell BK123.out 2).trans rfl
                              have hcz35_3 : wc.cell? ⟨gb123, 3, none⟩ = some (.int .i64 a0_3) := (blk_cell BK123.out 3).trans rfl
                              have hcz35_4 : wc.cell? ⟨gb123, 4, none⟩ = some (.int .i64 a0_4) := (blk_cell BK123.out 4).trans rfl
                              have hcz35_5 : wc.cell? ⟨gb123, 5, none⟩ = some (.int .i64 a0_5) := (blk_cell BK123.out 5).trans rfl
                              have hcz35_6 : wc.cell? ⟨gb123, 6, none⟩ = some (.int .i64 a0_6) := (blk_cell BK123.out 6).trans rfl
                              have hcz35_7 : wc.cell? ⟨gb123, 7, none⟩ = some (.int .i64 a0_7) := (blk_cell BK123.out 7).trans rfl
                              have hcz35_8 : wc.cell? ⟨gb123, 8, none⟩ = some (.int .i64 a0_8) := (blk_cell BK123.out 8).trans rfl
                              have hfz35_0 := blk_frozen BK123.out 0
                              have hfz35_1 := blk_frozen BK123.out 1
                              have hfz35_2 := blk_frozen BK123.out 2
                              have hfz35_3 := blk_frozen BK123.out 3
                              have hfz35_4 := blk_frozen BK123.out 4
                              have hfz35_5 := blk_frozen BK123.out 5
                              have hfz35_6 := blk_frozen BK123.out 6
                              have hfz35_7 := blk_frozen BK123.out 7
                              have hfz35_8 := blk_frozen BK123.out 8
                              go_wp2
                              go_ret
                              exact ⟨by first | rfl | (simp [errW_none, errW_some] <;> rfl) | (simp [*, errW_none, errW_some] <;> rfl), by repeat (first | (with_reducible first | exact HB.out | apply below_alloc | apply pw_below_drewN | apply below_drew1 | refine below_set ?_ GE123.out) | exact HB.out)⟩
                          · rw [if_neg c28] at H
                            have c28b0 : decide (a0_6 ≤ 16) = false := decide_eq_false c28
                            clear c28
                            obtain rfl := Option.some.inj H
                            have hcz36_0 : wc.cell? ⟨gb123, 0, none⟩ = some (.string a0_0) := (blk_cell BK123.out 0).trans rfl
                            have hcz36_1 : wc.cell? ⟨gb123, 1, none⟩ = some (.slice A0_1 l0_1.length c0_1) := (blk_cell BK123.out 1).trans rfl
                            have hcz36_2 : wc.cell? ⟨gb123, 2, none⟩ = some (.int .i64 a0_2) := (blk_cell BK123.out 2).trans rfl
                            have hcz36_3 : wc.cell? ⟨gb123, 3, none⟩ = some (.int .i64 a0_3) := (blk_cell BK123.out 3).trans rfl
                            have hcz36_4 : wc.cell? ⟨gb123, 4, none⟩ = some (.int .i64 a0_4) := (blk_cell BK123.out 4).trans rfl
                            have hcz36_5 : wc.cell? ⟨gb123, 5, none⟩ = some (.int .i64 a0_5) := (blk_cell BK123.out 5).trans rfl
                            have hcz36_6 : wc.cell? ⟨gb123, 6, none⟩ = some (.int .i64 a0_6) := (blk_cell BK123.out 6).trans rfl
                            have hcz36_7 : wc.cell? ⟨gb123, 7, none⟩ = some (.int .i64 a0_7) := (blk_cell BK123.out 7).trans rfl
                            have hcz36_8 : wc.cell? ⟨gb123, 8, none⟩ = some (.int .i64 a0_8) := (blk_cell BK123.out 8).trans rfl
                            have hfz36_0 := blk_frozen BK123.out 0
                            have hfz36_1 := blk_frozen BK123.out 1
                            have hfz36_2 := blk_frozen BK123.out 2
                            have hfz36_3 := blk_frozen BK123.out 3
                            have hfz36_4 := blk_frozen BK123.out 4
                            have hfz36_5 := blk_frozen BK123.out 5
                            have hfz36_6 := blk_frozen BK123.out 6
                            have hfz36_7 := blk_frozen BK123.out 7
                            have hfz36_8 := blk_frozen BK123.out 8
                            go_wp2
                            go_ret
                            exact ⟨by first | rfl | (simp [errW_none, errW_some] <;> rfl) | (simp [*, errW_none, errW_some] <;> rfl), by repeat (first | (with_reducible first | exact HB.out | apply below_alloc | apply pw_below_drewN | apply below_drew1 | refine below_set ?_ GE123.out) | exact HB.out)⟩
                        · rw [if_neg c27] at H
                          have c27b0 : decide (0 ≤ a0_6) = false := decide_eq_false c27
                          clear c27
                          obtain rfl := Option.some.inj H
                          have hcz37_0 : wc.cell? ⟨gb123, 0, none⟩ = some (.string a0_0) := (blk_cell BK123.out 0).trans rfl
                          have hcz37_1 : wc.cell? ⟨gb123, 1, none⟩ = some (.slice A0_1 l0_1.length c0_1) := (blk_cell BK123.out 1).trans rfl
                          have hcz37_2 : wc.cell? ⟨gb123, 2, none⟩ = some (.int .i64 a0_2) := (blk_cell BK123.out 2).trans rfl
                          have hcz37_3 : wc.cell? ⟨gb123, 3, none⟩ = some (.int .i64 a0_3) := (blk_cell BK123.out 3).trans rfl
                          have hcz37_4 : wc.cell? ⟨gb123, 4, none⟩ = some (.int .i64 a0_4) := (blk_cell BK123.out 4).trans rfl
                          have hcz37_5 : wc.cell? ⟨gb123, 5, none⟩ = some (.int .i64 a0_5) := (blk_cell BK123.out 5).trans rfl
                          have hcz37_6 : wc.cell? ⟨gb123, 6, none⟩ = some (.int .i64 a0_6) := (blk_cell BK123.out 6).trans rfl
                          have hcz37_7 : wc.cell? ⟨gb123, 7, none⟩ = some (.int .i64 a0_7) := (blk_cell BK123.out 7).trans rfl
                          have hcz37_8 : wc.cell? ⟨gb123, 8, none⟩ = some (.int .i64 a0_8) := (blk_cell BK123.out 8).trans rfl
                          have hfz37_0 := blk_frozen BK123.out 0
                          have hfz37_1 := blk_frozen BK123.out 1
                          have hfz37_2 := blk_frozen BK123.out 2
                          have hfz37_3 := blk_frozen BK123.out 3
                          have hfz37_4 := blk_frozen BK123.out 4
                          have hfz37_5 := blk_frozen BK123.out 5
                          have hfz37_6 := blk_frozen BK123.out 6
                          have hfz37_7 := blk_frozen BK123.out 7
                          have hfz37_8 := blk_frozen BK123.out 8
                          go_wp2
                          go_ret
                          exact ⟨by first | rfl | (simp [errW_none, errW_some] <;> rfl) | (simp [*, errW_none, errW_some] <;> rfl), by repeat (first | (with_reducible first | exact HB.out | apply below_alloc | apply pw_below_drewN | apply below_drew1 | refine below_set ?_ GE123.out) | exact HB.out)⟩

end Go.Proofs.YthmnhbalmglohaaGreatDoor.X

-- PRINTED by print.py (a twelfth state) out of the translation. Not trusted: Lean checks it.
namespace Go.Proofs.YthmnhbalmglohaaGreatDoor.X
open Go.RowKit Go.Proofs.YthmnhbalmglohaaGreatDoorW.PrintWords Go.Proofs.YthmnhbalmglohaaGreatDoorW.PrintLast Go.Proofs.YthmnhbalmglohaaGreatDoorW.PrintMore
attribute [local go_sem] max2_int min2_int max_two min_two max_three min_three max_four min_four   -- for this text's walks alone
set_option linter.unusedVariables false
set_option linter.unusedSimpArgs false
open Go.Proofs.YthmnhbalmglohaaGreatDoor.T

/-! ### tollhouseref15_Config: function 10 -/
mutual
def tollhouseref15_Config.l0 : Nat → Int → List (S27) → Int → Int → Option (Bool)
  | 0, _, _, _, _ => none
  | k + 1, x3, x127000, x127001, x127002 => if x3 < (x127000.length : Int) then (if 0 ≤ x3 then ((tollhouseref15_Tenant.f k ((rd_T27 x127000 x3).f0) ((rd_T27 x127000 x3).f1) ((rd_T27 x127000 x3).f2) ((rd_T27 x127000 x3).f3) ((rd_T27 x127000 x3).f4) ((rd_T27 x127000 x3).f5) ((rd_T27 x127000 x3).f6) ((rd_T27 x127000 x3).f7) ((rd_T27 x127000 x3).f8)).bind fun t128 => (if t128 = true then (tollhouseref15_Config.l1 k x3 0 x127000 x127001 x127002) else (some false))) else (none)) else (if (x127000.length : Int) < 1 then (some false) else (if (x127000.length : Int) > 8 then (some false) else (if x127001 < 0 then (some false) else (if x127001 > 16 then (some false) else (if x127002 ≥ 1 then (some (decide (x127002 ≤ 1099511627776))) else (some false))))))
def tollhouseref15_Config.l1 : Nat → Int → Int → List (S27) → Int → Int → Option (Bool)
  | 0, _, _, _, _, _ => none
  | k + 1, x3, x4, x127000, x127001, x127002 => if x4 < x3 then (if 0 ≤ x4 then (if x4 < (x127000.length : Int) then (if 0 ≤ x3 then (if x3 < (x127000.length : Int) then (if ((rd_T27 x127000 x4).f0).toList = ((rd_T27 x127000 x3).f0).toList then (some false) else (tollhouseref15_Config.l1 k x3 (wrap64 (x4 + 1)) x127000 x127001 x127002)) else (none)) else (none)) else (none)) else (none)) else (tollhouseref15_Config.l0 k (wrap64 (x3 + 1)) x127000 x127001 x127002)
end
def tollhouseref15_Config.f (k : Nat) (l0_0 : List (S27)) (a0_1 : Int) (a0_2 : Int) : Option (Bool) := tollhouseref15_Config.l0 k 0 l0_0 a0_1 a0_2
theorem tollhouseref15_Config.mono_l : ∀ k, (∀ y0 y1 y2 y3, LeO (tollhouseref15_Config.l0 k y0 y1 y2 y3) (tollhouseref15_Config.l0 (k + 1) y0 y1 y2 y3)) ∧ (∀ y0 y1 y2 y3 y4, LeO (tollhouseref15_Config.l1 k y0 y1 y2 y3 y4) (tollhouseref15_Config.l1 (k + 1) y0 y1 y2 y3 y4))
  | 0 => ⟨fun _ _ _ _ r h => by simp [tollhouseref15_Config.l0] at h, fun _ _ _ _ _ r h => by simp [tollhouseref15_Config.l1] at h⟩
  | k + 1 => by
    obtain ⟨ih0, ih1⟩ := tollhouseref15_Config.mono_l k
    refine ⟨?_, ?_⟩
    · intro y0 y1 y2 y3
      unfold tollhouseref15_Config.l0
      repeat' first
      | (with_reducible exact ih0 _ _ _ _)
      | (with_reducible exact ih1 _ _ _ _ _)
      | (with_reducible exact tollhouseref15_Tenant.mono _ _ _ _ _ _ _ _ _ _)
      | (with_reducible exact LeO.refl _)
      | (with_reducible exact LeO.none _)
      | (with_reducible refine LeO.ite ?_ ?_)
      | (with_reducible refine LeO.bind ?_ (fun _ => ?_))
      | exact ih0 _ _ _ _
      | exact ih1 _ _ _ _ _
      | exact tollhouseref15_Tenant.mono _ _ _ _ _ _ _ _ _ _
      | exact LeO.none _
      | refine LeO.ite ?_ ?_
      | refine LeO.bind ?_ (fun _ => ?_)
    · intro y0 y1 y2 y3 y4
      unfold tollhouseref15_Config.l1
      repeat' first
      | (with_reducible exact ih0 _ _ _ _)
      | (with_reducible exact ih1 _ _ _ _ _)
      | (with_reducible exact tollhouseref15_Tenant.mono _ _ _ _ _ _ _ _ _ _)
      | (with_reducible exact LeO.refl _)
      | (with_reducible exact LeO.none _)
      | (with_reducible refine LeO.ite ?_ ?_)
      | (with_reducible refine LeO.bind ?_ (fun _ => ?_))
      | exact ih0 _ _ _ _
      | exact ih1 _ _ _ _ _
      | exact tollhouseref15_Tenant.mono _ _ _ _ _ _ _ _ _ _
      | exact LeO.none _
      | refine LeO.ite ?_ ?_
      | refine LeO.bind ?_ (fun _ => ?_)
theorem tollhouseref15_Config.mono : ∀ a0 a1 a2 k, LeO (tollhouseref15_Config.f k a0 a1 a2) (tollhouseref15_Config.f (k + 1) a0 a1 a2) := by
  intro a0 a1 a2 k
  obtain ⟨ih0, ih1⟩ := tollhouseref15_Config.mono_l k
  unfold tollhouseref15_Config.f
  repeat' first
      | (with_reducible exact ih0 _ _ _ _)
      | (with_reducible exact ih1 _ _ _ _ _)
      | (with_reducible exact tollhouseref15_Tenant.mono _ _ _ _ _ _ _ _ _ _)
      | (with_reducible exact LeO.refl _)
      | (with_reducible exact LeO.none _)
      | (with_reducible refine LeO.ite ?_ ?_)
      | (with_reducible refine LeO.bind ?_ (fun _ => ?_))
      | exact ih0 _ _ _ _
      | exact ih1 _ _ _ _ _
      | exact tollhouseref15_Tenant.mono _ _ _ _ _ _ _ _ _ _
      | exact LeO.none _
      | refine LeO.ite ?_ ?_
      | refine LeO.bind ?_ (fun _ => ?_)
set_option maxHeartbeats 8000000 in
set_option maxRecDepth 100000 in
theorem tollhouseref15_Config.calls (k : Nat) (A0_0 : Option Addr) (c0_0 : Nat) (l0_0 : List (S27)) (a0_1 : Int) (a0_2 : Int) (r : Bool) (w : World) (hr0_0 : Kd.C k27 w A0_0 l0_0.length l0_0) (hc0_0 : l0_0.length ≤ c0_0) (HGg : Glob w) (h : tollhouseref15_Config.f k l0_0 a0_1 a0_2 = some r) :
    Calls Tryz.prog 10 #[.agg #[.slice A0_0 l0_0.length c0_0, .int .i64 a0_1, .int .i64 a0_2]] w fun e w' => e = .returned (.bool r) ∧ Below w.heap.size w w' := by
  have hu24 := Tryz.underlying24
  have hu27 := Tryz.underlying27
  have HGl := Aside0.mk HGg
  clear HGg
  have HR0_0 := Aside0.mk hr0_0
  have HC0_0 := Aside0.mk hc0_0
  clear hr0_0 hc0_0
  have HB := Aside0.mk (Below.refl w.heap.size w)
  have H : (tollhouseref15_Config.l0 k 0 l0_0 a0_1 a0_2) = some r := h
  clear h
  have H' := Aside0.mk H
  clear H
  go_enter Tryz.func10, Tryz.ntmps10
  go_wp2_with (first | ((with_reducible refine gate_dst (N := 1) rfl ?_); (try (refine gate_guard (by rfl) ?_; dsimp only)); refine box_event ?hg (N := 1) ?hd (cs := #[.slice A0_0 l0_0.length c0_0, .int .i64 a0_1, .int .i64 a0_2]) (t := 24) ?hr ?_; (case hd => rfl); (case hg => rfl); (case hr => first | (go_simp; done) | (go_simp; rfl)); intro gb126 hg w2 hbox hb; have n0_ := Aside0.mk (below_step (by repeat (first | (with_reducible first | exact HB.out | apply below_alloc | apply pw_below_drewN | apply below_drew1) | exact HB.out)) hb); have n1_ := Aside0.mk (hbox); have n2_ := Aside0.mk ((by rw [hg]; exact (below_size (by repeat (first | (with_reducible first | exact HB.out | apply below_alloc | apply pw_below_drewN | apply below_drew1) | exact HB.out))) : w.heap.size ≤ gb126)); have n3_ := Aside0.mk ((by rw [hg]; exact (below_size (by repeat (first | (with_reducible first | exact HB.out | apply below_alloc | apply pw_below_drewN | apply below_drew1) | exact HB.out))) : w.heap.size ≤ gb126)); clear HB; have HB := n0_; have BK126 := n1_; have GW126 := n2_; have GE126 := n3_; clear n0_ n1_ n2_ n3_; clear hb hbox hg))
  repeat (go_quiet (first | ((with_reducible refine gate_dst (N := 1) rfl ?_); (try (refine gate_guard (by rfl) ?_; dsimp only)); refine box_event ?hg (N := 1) ?hd (cs := #[.slice A0_0 l0_0.length c0_0, .int .i64 a0_1, .int .i64 a0_2]) (t := 24) ?hr ?_; (case hd => rfl); (case hg => rfl); (case hr => first | (go_simp; done) | (go_simp; rfl)); intro gb126 hg w2 hbox hb; have n0_ := Aside0.mk (below_step (by repeat (first | (with_reducible first | exact HB.out | apply below_alloc | apply pw_below_drewN | apply below_drew1) | exact HB.out)) hb); have n1_ := Aside0.mk (hbox); have n2_ := Aside0.mk ((by rw [hg]; exact (below_size (by repeat (first | (with_reducible first | exact HB.out | apply below_alloc | apply pw_below_drewN | apply below_drew1) | exact HB.out))) : w.heap.size ≤ gb126)); have n3_ := Aside0.mk ((by rw [hg]; exact (below_size (by repeat (first | (with_reducible first | exact HB.out | apply below_alloc | apply pw_below_drewN | apply below_drew1) | exact HB.out))) : w.heap.size ≤ gb126)); clear HB; have HB := n0_; have BK126 := n1_; have GW126 := n2_; have GE126 := n3_; clear n0_ n1_ n2_ n3_; clear hb hbox hg)); try go_wp2_with (first | ((with_reducible refine gate_dst (N := 1) rfl ?_); (try (refine gate_guard (by rfl) ?_; dsimp only)); refine box_event ?hg (N := 1) ?hd (cs := #[.slice A0_0 l0_0.length c0_0, .int .i64 a0_1, .int .i64 a0_2]) (t := 24) ?hr ?_; (case hd => rfl); (case hg => rfl); (case hr => first | (go_simp; done) | (go_simp; rfl)); intro gb126 hg w2 hbox hb; have n0_ := Aside0.mk (below_step (by repeat (first | (with_reducible first | exact HB.out | apply below_alloc | apply pw_below_drewN | apply below_drew1) | exact HB.out)) hb); have n1_ := Aside0.mk (hbox); have n2_ := Aside0.mk ((by rw [hg]; exact (below_size (by repeat (first | (with_reducible first | exact HB.out | apply below_alloc | apply pw_below_drewN | apply below_drew1) | exact HB.out))) : w.heap.size ≤ gb126)); have n3_ := Aside0.mk ((by rw [hg]; exact (below_size (by repeat (first | (with_reducible first | exact HB.out | apply below_alloc | apply pw_below_drewN | apply below_drew1) | exact HB.out))) : w.heap.size ≤ gb126)); clear HB; have HB := n0_; have BK126 := n1_; have GW126 := n2_; have GE126 := n3_; clear n0_ n1_ n2_ n3_; clear hb hbox hg)))
  go_loopg [3] k (fun kq v3 w' => ∃ (x3_1 : Int), v3 = .int .i64 x3_1 ∧ Aside0 (tollhouseref15_Config.l0 kq x3_1 l0_0 a0_1 a0_2 = some r) ∧ Aside0 (kq ≤ k) ∧ Aside0 (w'.heap[gb126]? = some (.cells #[(.slice A0_0 l0_0.length c0_0), .int .i64 a0_1, .int .i64 a0_2] 24 (0, 0))) ∧ Aside0 (Below w.heap.size w w'))
  case atStart => exact ⟨(0), (by first | rfl | (simp; done) | (simp [*]; done)), H', ⟨Nat.le_refl _⟩, ⟨by (with_reducible repeat (first | refine blk_drewN ?_ _ | refine blk_drew ?_ | refine blk_alloc ?_ _)); exact BK126.out⟩, ⟨by repeat (first | (with_reducible first | exact HB.out | apply below_alloc | apply pw_below_drewN | apply below_drew1 | refine below_set ?_ GE126.out) | exact HB.out)⟩⟩
  case round =>
    clear H'
    try clear c1
    try clear p2
    obtain ⟨x3_1, rfl, HA, HK1, BK126, HB⟩ := hrel
    cases gk with
    | zero => exact absurd HA.out (by simp [tollhouseref15_Config.l0])
    | succ k1 =>
      have H := HA.out
      clear HA
      simp only [tollhouseref15_Config.l0] at H
      by_cases c3 : x3_1 < (l0_0.length : Int)
      · rw [if_pos c3] at H
        have c3b0 : decide (x3_1 < (l0_0.length : Int)) = true := decide_eq_true c3
        clear c3
        by_cases c4 : 0 ≤ x3_1
        · rw [if_pos c4] at H
          have c4b0 : decide (0 ≤ x3_1) = true := decide_eq_true c4
          clear c4
          replace H := Option.bind_eq_some_iff.mp H
          obtain ⟨t128, A50, H⟩ := H
          replace H : (if t128 = true then (tollhouseref15_Config.l1 k1 x3_1 0 l0_0 a0_1 a0_2) else (some false)) = some r := H
          have A5 := Aside0.mk A50
          clear A50
          by_cases c6 : t128 = true
          · subst c6
            have H1 : (tollhouseref15_Config.l1 k1 x3_1 0 l0_0 a0_1 a0_2) = some r := by rw [if_pos rfl] at H; exact H
            clear H
            have H := H1
            clear H1
            have H' := Aside0.mk H
            clear H
            have hcz7_0 : wr.cell? ⟨gb126, 0, none⟩ = some (.slice A0_0 l0_0.length c0_0) := (blk_cell BK126.out 0).trans rfl
            have hcz7_1 : wr.cell? ⟨gb126, 1, none⟩ = some (.int .i64 a0_1) := (blk_cell BK126.out 1).trans rfl
            have hcz7_2 : wr.cell? ⟨gb126, 2, none⟩ = some (.int .i64 a0_2) := (blk_cell BK126.out 2).trans rfl
            have hfz7_0 := blk_frozen BK126.out 0
            have hfz7_1 := blk_frozen BK126.out 1
            have hfz7_2 := blk_frozen BK126.out 2
            have p127 : 0 ≤ (x3_1 : Int) := of_decide_eq_true (by first | (with_reducible assumption) | assumption)
            have q127 : x3_1 < (l0_0.length : Int) := of_decide_eq_true (by first | (with_reducible assumption) | assumption)
            obtain ⟨ad127, A127_1, c127_1, e127, hx127_0, hx127_1, hx127_2, hx127_3, hx127_4, hx127_5, hx127_6, hx127_7, hx127_8, hl127_1, hi127_1⟩ := at_T27 HR0_0.out x3_1 p127 q127
            cases e127
            replace hx127_0 := (HB.out.cell (World.block_lt_of_cell? w _ hx127_0)).trans hx127_0
            replace hx127_1 := (HB.out.cell (World.block_lt_of_cell? w _ hx127_1)).trans hx127_1
            replace hx127_2 := (HB.out.cell (World.block_lt_of_cell? w _ hx127_2)).trans hx127_2
            replace hx127_3 := (HB.out.cell (World.block_lt_of_cell? w _ hx127_3)).trans hx127_3
            replace hx127_4 := (HB.out.cell (World.block_lt_of_cell? w _ hx127_4)).trans hx127_4
            replace hx127_5 := (HB.out.cell (World.block_lt_of_cell? w _ hx127_5)).trans hx127_5
            replace hx127_6 := (HB.out.cell (World.block_lt_of_cell? w _ hx127_6)).trans hx127_6
            replace hx127_7 := (HB.out.cell (World.block_lt_of_cell? w _ hx127_7)).trans hx127_7
            replace hx127_8 := (HB.out.cell (World.block_lt_of_cell? w _ hx127_8)).trans hx127_8
            have HR127_1 := Aside0.mk hi127_1
            have HC127_1 := Aside0.mk hl127_1
            clear hi127_1 hl127_1
            replace p127 := eq_true p127
            replace q127 := eq_true q127
            go_wp2_with (first | (go_at_call 12; (with_reducible refine (tollhouseref15_Tenant.calls k1 ((rd_T27 l0_0 x3_1).f0) _ _ ((rd_T27 l0_0 x3_1).f1) ((rd_T27 l0_0 x3_1).f2) ((rd_T27 l0_0 x3_1).f3) ((rd_T27 l0_0 x3_1).f4) ((rd_T27 l0_0 x3_1).f5) ((rd_T27 l0_0 x3_1).f6) ((rd_T27 l0_0 x3_1).f7) ((rd_T27 l0_0 x3_1).f8) true _ ?side1 ?side2 (Glob.below HGl.out (by repeat (first | (with_reducible first | exact HB.out | apply below_alloc | apply pw_below_drewN | apply below_drew1 | refine below_set ?_ GE126.out) | exact HB.out))) A5.out).mono ?_); (case side1 => repeat (first | exact (Kd.C_below HR127_1.out HB.out) | (with_reducible refine Kd.C_alloc ?_ _) | (with_reducible refine Kd.C_drewN ?_ _) | (with_reducible refine Kd.C_drew ?_))); (case side2 => exact HC127_1.out); rintro e w8 ⟨rfl, hb⟩; have n0_ := Aside0.mk (blk_below (g := gb126) (o := .cells #[.slice (some ad127) l0_0.length c0_0, .int .i64 a0_1, .int .i64 a0_2] 24 (0, 0)) (by (with_reducible repeat (first | refine blk_drewN ?_ _ | refine blk_drew ?_ | refine blk_alloc ?_ _)); exact BK126.out) hb); have n1_ := Aside0.mk (below_step (by repeat (first | (with_reducible first | exact HB.out | apply below_alloc | apply pw_below_drewN | apply below_drew1 | refine below_set ?_ GE126.out) | exact HB.out)) hb); clear BK126; clear HB; have BK126 := n0_; have HB := n1_; clear n0_ n1_; (try clear hb); (try clear hb2); (try clear hk); (try clear hi)))
            repeat (go_quiet (first | (go_at_call 12; (with_reducible refine (tollhouseref15_Tenant.calls k1 ((rd_T27 l0_0 x3_1).f0) _ _ ((rd_T27 l0_0 x3_1).f1) ((rd_T27 l0_0 x3_1).f2) ((rd_T27 l0_0 x3_1).f3) ((rd_T27 l0_0 x3_1).f4) ((rd_T27 l0_0 x3_1).f5) ((rd_T27 l0_0 x3_1).f6) ((rd_T27 l0_0 x3_1).f7) ((rd_T27 l0_0 x3_1).f8) true _ ?side1 ?side2 (Glob.below HGl.out (by repeat (first | (with_reducible first | exact HB.out | apply below_alloc | apply pw_below_drewN | apply below_drew1 | refine below_set ?_ GE126.out) | exact HB.out))) A5.out).mono ?_); (case side1 => repeat (first | exact (Kd.C_below HR127_1.out HB.out) | (with_reducible refine Kd.C_alloc ?_ _) | (with_reducible refine Kd.C_drewN ?_ _) | (with_reducible refine Kd.C_drew ?_))); (case side2 => exact HC127_1.out); rintro e w8 ⟨rfl, hb⟩; have n0_ := Aside0.mk (blk_below (g := gb126) (o := .cells #[.slice (some ad127) l0_0.length c0_0, .int .i64 a0_1, .int .i64 a0_2] 24 (0, 0)) (by (with_reducible repeat (first | refine blk_drewN ?_ _ | refine blk_drew ?_ | refine blk_alloc ?_ _)); exact BK126.out) hb); have n1_ := Aside0.mk (below_step (by repeat (first | (with_reducible first | exact HB.out | apply below_alloc | apply pw_below_drewN | apply below_drew1 | refine below_set ?_ GE126.out) | exact HB.out)) hb); clear BK126; clear HB; have BK126 := n0_; have HB := n1_; clear n0_ n1_; (try clear hb); (try clear hb2); (try clear hk); (try clear hi))); try go_wp2_with (first | (go_at_call 12; (with_reducible refine (tollhouseref15_Tenant.calls k1 ((rd_T27 l0_0 x3_1).f0) _ _ ((rd_T27 l0_0 x3_1).f1) ((rd_T27 l0_0 x3_1).f2) ((rd_T27 l0_0 x3_1).f3) ((rd_T27 l0_0 x3_1).f4) ((rd_T27 l0_0 x3_1).f5) ((rd_T27 l0_0 x3_1).f6) ((rd_T27 l0_0 x3_1).f7) ((rd_T27 l0_0 x3_1).f8) true _ ?side1 ?side2 (Glob.below HGl.out (by repeat (first | (with_reducible first | exact HB.out | apply below_alloc | apply pw_below_drewN | apply below_drew1 | refine below_set ?_ GE126.out) | exact HB.out))) A5.out).mono ?_); (case side1 => repeat (first | exact (Kd.C_below HR127_1.out HB.out) | (with_reducible refine Kd.C_alloc ?_ _) | (with_reducible refine Kd.C_drewN ?_ _) | (with_reducible refine Kd.C_drew ?_))); (case side2 => exact HC127_1.out); rintro e w8 ⟨rfl, hb⟩; have n0_ := Aside0.mk (blk_below (g := gb126) (o := .cells #[.slice (some ad127) l0_0.length c0_0, .int .i64 a0_1, .int .i64 a0_2] 24 (0, 0)) (by (with_reducible repeat (first | refine blk_drewN ?_ _ | refine blk_drew ?_ | refine blk_alloc ?_ _)); exact BK126.out) hb); have n1_ := Aside0.mk (below_step (by repeat (first | (with_reducible first | exact HB.out | apply below_alloc | apply pw_below_drewN | apply below_drew1 | refine below_set ?_ GE126.out) | exact HB.out)) hb); clear BK126; clear HB; have BK126 := n0_; have HB := n1_; clear n0_ n1_; (try clear hb); (try clear hb2); (try clear hk); (try clear hi))))
            go_loopg [4] k1 (fun kq v4 w' => ∃ (x4_2 : Int), v4 = .int .i64 x4_2 ∧ Aside0 (tollhouseref15_Config.l1 kq x3_1 x4_2 l0_0 a0_1 a0_2 = some r) ∧ Aside0 (kq ≤ k1) ∧ Aside0 (w'.heap[gb126]? = some (.cells #[(.slice (some ad127) l0_0.length c0_0), .int .i64 a0_1, .int .i64 a0_2] 24 (0, 0))) ∧ Aside0 (Below w.heap.size w w'))
            case atStart => exact ⟨(0), (by first | rfl | (simp; done) | (simp [*]; done)), H', ⟨Nat.le_refl _⟩, ⟨by (with_reducible repeat (first | refine blk_drewN ?_ _ | refine blk_drew ?_ | refine blk_alloc ?_ _)); exact BK126.out⟩, ⟨by repeat (first | (with_reducible first | exact HB.out | apply below_alloc | apply pw_below_drewN | apply below_drew1 | refine below_set ?_ GE126.out) | exact HB.out)⟩⟩
            case round =>
              clear H'
              try clear c1
              try clear p1
              try clear q1
              try clear hx1
              try clear p2
              try clear c3
              try clear c3b0
              try clear c4
              try clear c4b0
              try clear c6
              try clear hcz7_0
              try clear hcz7_1
              try clear hcz7_2
              try clear hfz7_0
              try clear hfz7_1
              try clear hfz7_2
              try clear hx127_0
              try clear hx127_1
              try clear hx127_2
              try clear hx127_3
              try clear hx127_4
              try clear hx127_5
              try clear hx127_6
              try clear hx127_7
              try clear hx127_8
              try clear p127
              try clear p2
              try clear q127
              obtain ⟨x4_2, rfl, HA, HK2, BK126, HB⟩ := hrel
              cases gk with
              | zero => exact absurd HA.out (by simp [tollhouseref15_Config.l1])
              | succ k2 =>
                have H := HA.out
                clear HA
                simp only [tollhouseref15_Config.l1] at H
                by_cases c9 : x4_2 < x3_1
                · rw [if_pos c9] at H
                  have c9b0 : decide (x4_2 < x3_1) = true := decide_eq_true c9
                  clear c9
                  by_cases c10 : 0 ≤ x4_2
                  · rw [if_pos c10] at H
                    have c10b0 : decide (0 ≤ x4_2) = true := decide_eq_true c10
                    clear c10
                    by_cases c11 : x4_2 < (l0_0.length : Int)
                    · rw [if_pos c11] at H
                      have c11b0 : decide (x4_2 < (l0_0.length : Int)) = true := decide_eq_true c11
                      clear c11
                      by_cases c12 : 0 ≤ x3_1
                      · rw [if_pos c12] at H
                        have c12b0 : decide (0 ≤ x3_1) = true := decide_eq_true c12
                        clear c12
                        by_cases c13 : x3_1 < (l0_0.length : Int)
                        · rw [if_pos c13] at H
                          have c13b0 : decide (x3_1 < (l0_0.length : Int)) = true := decide_eq_true c13
                          clear c13
                          by_cases c14 : ((rd_T27 l0_0 x4_2).f0).toList = ((rd_T27 l0_0 x3_1).f0).toList
                          · rw [if_pos c14] at H
                            have c14b0 : (((rd_T27 l0_0 x4_2).f0).toList == ((rd_T27 l0_0 x3_1).f0).toList) = true := beq_iff_eq.mpr c14
                            have c14b1 : (((rd_T27 l0_0 x4_2).f0).toList != ((rd_T27 l0_0 x3_1).f0).toList) = false := bne_eq_false_iff_eq.mpr c14
                            clear c14
                            obtain rfl := Option.some.inj H
                            have hcz15_0 : wr.cell? ⟨gb126, 0, none⟩ = some (.slice (some ad127) l0_0.length c0_0) := (blk_cell BK126.out 0).trans rfl
                            have hcz15_1 : wr.cell? ⟨gb126, 1, none⟩ = some (.int .i64 a0_1) := (blk_cell BK126.out 1).trans rfl
                            have hcz15_2 : wr.cell? ⟨gb126, 2, none⟩ = some (.int .i64 a0_2) := (blk_cell BK126.out 2).trans rfl
                            have hfz15_0 := blk_frozen BK126.out 0
                            have hfz15_1 := blk_frozen BK126.out 1
                            have hfz15_2 := blk_frozen BK126.out 2
                            have p129 : 0 ≤ (x4_2 : Int) := of_decide_eq_true (by first | (with_reducible assumption) | assumption)
                            have q129 : x4_2 < (l0_0.length : Int) := of_decide_eq_true (by first | (with_reducible assumption) | assumption)
                            obtain ⟨ad129, A129_1, c129_1, e129, hx129_0, hx129_1, hx129_2, hx129_3, hx129_4, hx129_5, hx129_6, hx129_7, hx129_8, hl129_1, hi129_1⟩ := at_T27 HR0_0.out x4_2 p129 q129
                            obtain rfl : ad127 = ad129 := (by injection e129)
                            replace hx129_0 := (HB.out.cell (World.block_lt_of_cell? w _ hx129_0)).trans hx129_0
                            replace hx129_1 := (HB.out.cell (World.block_lt_of_cell? w _ hx129_1)).trans hx129_1
                            replace hx129_2 := (HB.out.cell (World.block_lt_of_cell? w _ hx129_2)).trans hx129_2
                            replace hx129_3 := (HB.out.cell (World.block_lt_of_cell? w _ hx129_3)).trans hx129_3
                            replace hx129_4 := (HB.out.cell (World.block_lt_of_cell? w _ hx129_4)).trans hx129_4
                            replace hx129_5 := (HB.out.cell (World.block_lt_of_cell? w _ hx129_5)).trans hx129_5
                            replace hx129_6 := (HB.out.cell (World.block_lt_of_cell? w _ hx129_6)).trans hx129_6
                            replace hx129_7 := (HB.out.cell (World.block_lt_of_cell? w _ hx129_7)).trans hx129_7
                            replace hx129_8 := (HB.out.cell (World.block_lt_of_cell? w _ hx129_8)).trans hx129_8
                            have HR129_1 := Aside0.mk hi129_1
                            have HC129_1 := Aside0.mk hl129_1
                            clear hi129_1 hl129_1
                            replace p129 := eq_true p129
                            replace q129 := eq_true q129
                            have p130 : 0 ≤ (x3_1 : Int) := of_decide_eq_true (by first | (with_reducible assumption) | assumption)
                            have q130 : x3_1 < (l0_0.length : Int) := of_decide_eq_true (by first | (with_reducible assumption) | assumption)
                            obtain ⟨ad130, A130_1, c130_1, e130, hx130_0, hx130_1, hx130_2, hx130_3, hx130_4, hx130_5, hx130_6, hx130_7, hx130_8, hl130_1, hi130_1⟩ := at_T27 HR0_0.out x3_1 p130 q130
                            obtain rfl : ad127 = ad130 := (by injection e130)
                            replace hx130_0 := (HB.out.cell (World.block_lt_of_cell? w _ hx130_0)).trans hx130_0
                            replace hx130_1 := (HB.out.cell (World.block_lt_of_cell? w _ hx130_1)).trans hx130_1
                            replace hx130_2 := (HB.out.cell (World.block_lt_of_cell? w _ hx130_2)).trans hx130_2
                            replace hx130_3 := (HB.out.cell (World.block_lt_of_cell? w _ hx130_3)).trans hx130_3
                            replace hx130_4 := (HB.out.cell (World.block_lt_of_cell? w _ hx130_4)).trans hx130_4
                            replace hx130_5 := (HB.out.cell (World.block_lt_of_cell? w _ hx130_5)).trans hx130_5
                            replace hx130_6 := (HB.out.cell (World.block_lt_of_cell? w _ hx130_6)).trans hx130_6
                            replace hx130_7 := (HB.out.cell (World.block_lt_of_cell? w _ hx130_7)).trans hx130_7
                            replace hx130_8 := (HB.out.cell (World.block_lt_of_cell? w _ hx130_8)).trans hx130_8
                            have HR130_1 := Aside0.mk hi130_1
                            have HC130_1 := Aside0.mk hl130_1
                            clear hi130_1 hl130_1
                            replace p130 := eq_true p130
                            replace q130 := eq_true q130
                            go_wp2
                            repeat (go_quiet (fail); try go_wp2)
                            go_ret
                            exact ⟨by first | rfl | (simp [errW_none, errW_some] <;> rfl) | (simp [*, errW_none, errW_some] <;> rfl), by repeat (first | (with_reducible first | exact HB.out | apply below_alloc | apply pw_below_drewN | apply below_drew1 | refine below_set ?_ GE126.out) | exact HB.out)⟩
                          · rw [if_neg c14] at H
                            have c14b0 : (((rd_T27 l0_0 x4_2).f0).toList == ((rd_T27 l0_0 x3_1).f0).toList) = false := beq_eq_false_iff_ne.mpr c14
                            have c14b1 : (((rd_T27 l0_0 x4_2).f0).toList != ((rd_T27 l0_0 x3_1).f0).toList) = true := bne_iff_ne.mpr c14
                            have H' := Aside0.mk H
                            clear H
                            have hcz16_0 : wr.cell? ⟨gb126, 0, none⟩ = some (.slice (some ad127) l0_0.length c0_0) := (blk_cell BK126.out 0).trans rfl
                            have hcz16_1 : wr.cell? ⟨gb126, 1, none⟩ = some (.int .i64 a0_1) := (blk_cell BK126.out 1).trans rfl
                            have hcz16_2 : wr.cell? ⟨gb126, 2, none⟩ = some (.int .i64 a0_2) := (blk_cell BK126.out 2).trans rfl
                            have hfz16_0 := blk_frozen BK126.out 0
                            have hfz16_1 := blk_frozen BK126.out 1
                            have hfz16_2 := blk_frozen BK126.out 2
                            have p129 : 0 ≤ (x4_2 : Int) := of_decide_eq_true (by first | (with_reducible assumption) | assumption)
                            have q129 : x4_2 < (l0_0.length : Int) := of_decide_eq_true (by first | (with_reducible assumption) | assumption)
                            obtain ⟨ad129, A129_1, c129_1, e129, hx129_0, hx129_1, hx129_2, hx129_3, hx129_4, hx129_5, hx129_6, hx129_7, hx129_8, hl129_1, hi129_1⟩ := at_T27 HR0_0.out x4_2 p129 q129
                            obtain rfl : ad127 = ad129 := (by injection e129)
                            replace hx129_0 := (HB.out.cell (World.block_lt_of_cell? w _ hx129_0)).trans hx129_0
                            replace hx129_1 := (HB.out.cell (World.block_lt_of_cell? w _ hx129_1)).trans hx129_1
                            replace hx129_2 := (HB.out.cell (World.block_lt_of_cell? w _ hx129_2)).trans hx129_2
                            replace hx129_3 := (HB.out.cell (World.block_lt_of_cell? w _ hx129_3)).trans hx129_3
                            replace hx129_4 := (HB.out.cell (World.block_lt_of_cell? w _ hx129_4)).trans hx129_4
                            replace hx129_5 := (HB.out.cell (World.block_lt_of_cell? w _ hx129_5)).trans hx129_5
                            replace hx129_6 := (HB.out.cell (World.block_lt_of_cell? w _ hx129_6)).trans hx129_6
                            replace hx129_7 := (HB.out.cell (World.block_lt_of_cell? w _ hx129_7)).trans hx129_7
                            replace hx129_8 := (HB.out.cell (World.block_lt_of_cell? w _ hx129_8)).trans hx129_8
                            have HR129_1 := Aside0.mk hi129_1
                            have HC129_1 := Aside0.mk hl129_1
                            clear hi129_1 hl129_1
                            replace p129 := eq_true p129
                            replace q129 := eq_true q129
                            have p130 : 0 ≤ (x3_1 : Int) := of_decide_eq_true (by first | (with_reducible assumption) | assumption)
                            have q130 : x3_1 < (l0_0.length : Int) := of_decide_eq_true (by first | (with_reducible assumption) | assumption)
                            obtain ⟨ad130, A130_1, c130_1, e130, hx130_0, hx130_1, hx130_2, hx130_3, hx130_4, hx130_5, hx130_6, hx130_7, hx130_8, hl130_1, hi130_1⟩ := at_T27 HR0_0.out x3_1 p130 q130
                            obtain rfl : ad127 = ad130 := (by injection e130)
                            replace hx130_0 := (HB.out.cell (World.block_lt_of_cell? w _ hx130_0)).trans hx130_0
                            replace hx130_1 := (HB.out.cell (World.block_lt_of_cell? w _ hx130_1)).trans hx130_1
                            replace hx130_2 := (HB.out.cell (World.block_lt_of_cell? w _ hx130_2)).trans hx130_2
                            replace hx130_3 := (HB.out.cell (World.block_lt_of_cell? w _ hx130_3)).trans hx130_3
                            replace hx130_4 := (HB.out.cell (World.block_lt_of_cell? w _ hx130_4)).trans hx130_4
                            replace hx130_5 := (HB.out.cell (World.block_lt_of_cell? w _ hx130_5)).trans hx130_5
                            replace hx130_6 := (HB.out.cell (World.block_lt_of_cell? w _ hx130_6)).trans hx130_6
                            replace hx130_7 := (HB.out.cell (World.block_lt_of_cell? w _ hx130_7)).trans hx130_7
                            replace hx130_8 := (HB.out.cell (World.block_lt_of_cell? w _ hx130_8)).trans hx130_8
                            have HR130_1 := Aside0.mk hi130_1
                            have HC130_1 := Aside0.mk hl130_1
                            clear hi130_1 hl130_1
                            replace p130 := eq_true p130
                            replace q130 := eq_true q130
                            go_wp2
                            repeat (go_quiet (fail); try go_wp2)
                            go_roundg k2
                            case measure => have := HK1.out; have := HK2.out; omega
                            case rel => exact ⟨(wrap64 (x4_2 + 1)), (by first | rfl | (simp; done) | (simp [*]; done)), H', ⟨by have := HK1.out; have := HK2.out; omega⟩, ⟨by (with_reducible repeat (first | refine blk_drewN ?_ _ | refine blk_drew ?_ | refine blk_alloc ?_ _)); exact BK126.out⟩, ⟨by repeat (first | (with_reducible first | exact HB.out | apply below_alloc | apply pw_below_drewN | apply below_drew1 | refine below_set ?_ GE126.out) | exact HB.out)⟩⟩
                        · rw [if_neg c13] at H
                          exact absurd H (by simp)
                      · rw [if_neg c12] at H
                        exact absurd H (by simp)
                    · rw [if_neg c11] at H
                      exact absurd H (by simp)
                  · rw [if_neg c10] at H
                    exact absurd H (by simp)
                · rw [if_neg c9] at H
                  have c9b0 : decide (x4_2 < x3_1) = false := decide_eq_false c9
                  clear c9
                  have H' := Aside0.mk H
                  clear H
                  go_wp2
                  repeat (go_quiet (fail); try go_wp2)
                  go_roundg k2
                  case measure => have := HK1.out; have := HK2.out; omega
                  case rel => exact ⟨(wrap64 (x3_1 + 1)), (by first | rfl | (simp; done) | (simp [*]; done)), H', ⟨by have := HK1.out; have := HK2.out; omega⟩, ⟨by (with_reducible repeat (first | refine blk_drewN ?_ _ | refine blk_drew ?_ | refine blk_alloc ?_ _)); exact BK126.out⟩, ⟨by repeat (first | (with_reducible first | exact HB.out | apply below_alloc | apply pw_below_drewN | apply below_drew1 | refine below_set ?_ GE126.out) | exact HB.out)⟩⟩
          · replace c6 := Bool.eq_false_iff.mpr c6
            subst c6
            have H1 : (some false) = some r := by rw [if_neg (show ¬ (false = true) by decide)] at H; exact H
            clear H
            have H := H1
            clear H1
            obtain rfl := Option.some.inj H
            have hcz17_0 : wr.cell? ⟨gb126, 0, none⟩ = some (.slice A0_0 l0_0.length c0_0) := (blk_cell BK126.out 0).trans rfl
            have hcz17_1 : wr.cell? ⟨gb126, 1, none⟩ = some (.int .i64 a0_1) := (blk_cell BK126.out 1).trans rfl
            have hcz17_2 : wr.cell? ⟨gb126, 2, none⟩ = some (.int .i64 a0_2) := (blk_cell BK126.out 2).trans rfl
            have hfz17_0 := blk_frozen BK126.out 0
            have hfz17_1 := blk_frozen BK126.out 1
            have hfz17_2 := blk_frozen BK126.out 2
            have p127 : 0 ≤ (x3_1 : Int) := of_decide_eq_true (by first | (with_reducible assumption) | assumption)
            have q127 : x3_1 < (l0_0.length : Int) := of_decide_eq_true (by first | (with_reducible assumption) | assumption)
            obtain ⟨ad127, A127_1, c127_1, e127, hx127_0, hx127_1, hx127_2, hx127_3, hx127_4, hx127_5, hx127_6, hx127_7, hx127_8, hl127_1, hi127_1⟩ := at_T27 HR0_0.out x3_1 p127 q127
            cases e127
            replace hx127_0 := (HB.out.cell (World.block_lt_of_cell? w _ hx127_0)).trans hx127_0
            replace hx127_1 := (HB.out.cell (World.block_lt_of_cell? w _ hx127_1)).trans hx127_1
            replace hx127_2 := (HB.out.cell (World.block_lt_of_cell? w _ hx127_2)).trans hx127_2
            replace hx127_3 := (HB.out.cell (World.block_lt_of_cell? w _ hx127_3)).trans hx127_3
            replace hx127_4 := (HB.out.cell (World.block_lt_of_cell? w _ hx127_4)).trans hx127_4
            replace hx127_5 := (HB.out.cell (World.block_lt_of_cell? w _ hx127_5)).trans hx127_5
            replace hx127_6 := (HB.out.cell (World.block_lt_of_cell? w _ hx127_6)).trans hx127_6
            replace hx127_7 := (HB.out.cell (World.block_lt_of_cell? w _ hx127_7)).trans hx127_7
            replace hx127_8 := (HB.out.cell (World.block_lt_of_cell? w _ hx127_8)).trans hx127_8
            have HR127_1 := Aside0.mk hi127_1
            have HC127_1 := Aside0.mk hl127_1
            clear hi127_1 hl127_1
            replace p127 := eq_true p127
            replace q127 := eq_true q127
            go_wp2_with (first | (go_at_call 12; (with_reducible refine (tollhouseref15_Tenant.calls k1 ((rd_T27 l0_0 x3_1).f0) _ _ ((rd_T27 l0_0 x3_1).f1) ((rd_T27 l0_0 x3_1).f2) ((rd_T27 l0_0 x3_1).f3) ((rd_T27 l0_0 x3_1).f4) ((rd_T27 l0_0 x3_1).f5) ((rd_T27 l0_0 x3_1).f6) ((rd_T27 l0_0 x3_1).f7) ((rd_T27 l0_0 x3_1).f8) false _ ?side1 ?side2 (Glob.below HGl.out (by repeat (first | (with_reducible first | exact HB.out | apply below_alloc | apply pw_below_drewN | apply below_drew1 | refine below_set ?_ GE126.out) | exact HB.out))) A5.out).mono ?_); (case side1 => repeat (first | exact (Kd.C_below HR127_1.out HB.out) | (with_reducible refine Kd.C_alloc ?_ _) | (with_reducible refine Kd.C_drewN ?_ _) | (with_reducible refine Kd.C_drew ?_))); (case side2 => exact HC127_1.out); rintro e w18 ⟨rfl, hb⟩; have n0_ := Aside0.mk (blk_below (g := gb126) (o := .cells #[.slice (some ad127) l0_0.length c0_0, .int .i64 a0_1, .int .i64 a0_2] 24 (0, 0)) (by (with_reducible repeat (first | refine blk_drewN ?_ _ | refine blk_drew ?_ | refine blk_alloc ?_ _)); exact BK126.out) hb); have n1_ := Aside0.mk (below_step (by repeat (first | (with_reducible first | exact HB.out | apply below_alloc | apply pw_below_drewN | apply below_drew1 | refine below_set ?_ GE126.out) | exact HB.out)) hb); clear BK126; clear HB; have BK126 := n0_; have HB := n1_; clear n0_ n1_; (try clear hb); (try clear hb2); (try clear hk); (try clear hi)))
            repeat (go_quiet (first | (go_at_call 12; (with_reducible refine (tollhouseref15_Tenant.calls k1 ((rd_T27 l0_0 x3_1).f0) _ _ ((rd_T27 l0_0 x3_1).f1) ((rd_T27 l0_0 x3_1).f2) ((rd_T27 l0_0 x3_1).f3) ((rd_T27 l0_0 x3_1).f4) ((rd_T27 l0_0 x3_1).f5) ((rd_T27 l0_0 x3_1).f6) ((rd_T27 l0_0 x3_1).f7) ((rd_T27 l0_0 x3_1).f8) false _ ?side1 ?side2 (Glob.below HGl.out (by repeat (first | (with_reducible first | exact HB.out | apply below_alloc | apply pw_below_drewN | apply below_drew1 | refine below_set ?_ GE126.out) | exact HB.out))) A5.out).mono ?_); (case side1 => repeat (first | exact (Kd.C_below HR127_1.out HB.out) | (with_reducible refine Kd.C_alloc ?_ _) | (with_reducible refine Kd.C_drewN ?_ _) | (with_reducible refine Kd.C_drew ?_))); (case side2 => exact HC127_1.out); rintro e w18 ⟨rfl, hb⟩; have n0_ := Aside0.mk (blk_below (g := gb126) (o := .cells #[.slice (some ad127) l0_0.length c0_0, .int .i64 a0_1, .int .i64 a0_2] 24 (0, 0)) (by (with_reducible repeat (first | refine blk_drewN ?_ _ | refine blk_drew ?_ | refine blk_alloc ?_ _)); exact BK126.out) hb); have n1_ := Aside0.mk (below_step (by repeat (first | (with_reducible first | exact HB.out | apply below_alloc | apply pw_below_drewN | apply below_drew1 | refine below_set ?_ GE126.out) | exact HB.out)) hb); clear BK126; clear HB; have BK126 := n0_; have HB := n1_; clear n0_ n1_; (try clear hb); (try clear hb2); (try clear hk); (try clear hi))); try go_wp2_with (first | (go_at_call 12; (with_reducible refine (tollhouseref15_Tenant.calls k1 ((rd_T27 l0_0 x3_1).f0) _ _ ((rd_T27 l0_0 x3_1).f1) ((rd_T27 l0_0 x3_1).f2) ((rd_T27 l0_0 x3_1).f3) ((rd_T27 l0_0 x3_1).f4) ((rd_T27 l0_0 x3_1).f5) ((rd_T27 l0_0 x3_1).f6) ((rd_T27 l0_0 x3_1).f7) ((rd_T27 l0_0 x3_1).f8) false _ ?side1 ?side2 (Glob.below HGl.out (by repeat (first | (with_reducible first | exact HB.out | apply below_alloc | apply pw_below_drewN | apply below_drew1 | refine below_set ?_ GE126.out) | exact HB.out))) A5.out).mono ?_); (case side1 => repeat (first | exact (Kd.C_below HR127_1.out HB.out) | (with_reducible refine Kd.C_alloc ?_ _) | (with_reducible refine Kd.C_drewN ?_ _) | (with_reducible refine Kd.C_drew ?_))); (case side2 => exact HC127_1.out); rintro e w18 ⟨rfl, hb⟩; have n0_ := Aside0.mk (blk_below (g := gb126) (o := .cells #[.slice (some ad127) l0_0.length c0_0, .int .i64 a0_1, .int .i64 a0_2] 24 (0, 0)) (by (with_reducible repeat (first | refine blk_drewN ?_ _ | refine blk_drew ?_ | refine blk_alloc ?_ _)); exact BK126.out) hb); have n1_ := Aside0.mk (below_step (by repeat (first | (with_reducible first | exact HB.out | apply below_alloc | apply pw_below_drewN | apply below_drew1 | refine below_set ?_ GE126.out) | exact HB.out)) hb); clear BK126; clear HB; have BK126 := n0_; have HB := n1_; clear n0_ n1_; (try clear hb); (try clear hb2); (try clear hk); (try clear hi))))
            go_ret
            exact ⟨by first | rfl | (simp [errW_none, errW_some] <;> rfl) | (simp [*, errW_none, errW_some] <;> rfl), by repeat (first | (with_reducible first | exact HB.out | apply below_alloc | apply pw_below_drewN | apply below_drew1 | refine below_set ?_ GE126.out) | exact HB.out)⟩
        · rw [if_neg c4] at H
          exact absurd H (by simp)
      · rw [if_neg c3] at H
        have c3b0 : decide (x3_1 < (l0_0.length : Int)) = false := decide_eq_false c3
        clear c3
        by_cases c19 : (l0_0.length : Int) < 1
        · rw [if_pos c19] at H
          have c19b0 : decide ((l0_0.length : Int) < 1) = true := decide_eq_true c19
          have c19b1 : decide (l0_0.length < 1) = true := decide_eq_true (by omega)
          clear c19
          obtain rfl := Option.some.inj H
          have hcz20_0 : wr.cell? ⟨gb126, 0, none⟩ = some (.slice A0_0 l0_0.length c0_0) := (blk_cell BK126.out 0).trans rfl
          have hcz20_1 : wr.cell? ⟨gb126, 1, none⟩ = some (.int .i64 a0_1) := (blk_cell BK126.out 1).trans rfl
          have hcz20_2 : wr.cell? ⟨gb126, 2, none⟩ = some (.int .i64 a0_2) := (blk_cell BK126.out 2).trans rfl
          have hfz20_0 := blk_frozen BK126.out 0
          have hfz20_1 := blk_frozen BK126.out 1
          have hfz20_2 := blk_frozen BK126.out 2
          go_wp2
          repeat (go_quiet (fail); try go_wp2)
          go_ret
          exact ⟨by first | rfl | (simp [errW_none, errW_some] <;> rfl) | (simp [*, errW_none, errW_some] <;> rfl), by repeat (first | (with_reducible first | exact HB.out | apply below_alloc | apply pw_below_drewN | apply below_drew1 | refine below_set ?_ GE126.out) | exact HB.out)⟩
        · rw [if_neg c19] at H
          have c19b0 : decide ((l0_0.length : Int) < 1) = false := decide_eq_false c19
          have c19b1 : decide (l0_0.length < 1) = false := decide_eq_false (by omega)
          clear c19
          by_cases c21 : (l0_0.length : Int) > 8
          · rw [if_pos c21] at H
            have c21b0 : decide (8 < (l0_0.length : Int)) = true := decide_eq_true c21
            have c21b1 : decide (8 < l0_0.length) = true := decide_eq_true (by omega)
            clear c21
            obtain rfl := Option.some.inj H
            have hcz22_0 : wr.cell? ⟨gb126, 0, none⟩ = some (.slice A0_0 l0_0.length c0_0) := (blk_cell BK126.out 0).trans rfl
            have hcz22_1 : wr.cell? ⟨gb126, 1, none⟩ = some (.int .i64 a0_1) := (blk_cell BK126.out 1).trans rfl
            have hcz22_2 : wr.cell? ⟨gb126, 2, none⟩ = some (.int .i64 a0_2) := (blk_cell BK126.out 2).trans rfl
            have hfz22_0 := blk_frozen BK126.out 0
            have hfz22_1 := blk_frozen BK126.out 1
            have hfz22_2 := blk_frozen BK126.out 2
            go_wp2
            repeat (go_quiet (fail); try go_wp2)
            go_ret
            exact ⟨by first | rfl | (simp [errW_none, errW_some] <;> rfl) | (simp [*, errW_none, errW_some] <;> rfl), by repeat (first | (with_reducible first | exact HB.out | apply below_alloc | apply pw_below_drewN | apply below_drew1 | refine below_set ?_ GE126.out) | exact HB.out)⟩
          · rw [if_neg c21] at H
            have c21b0 : decide (8 < (l0_0.length : Int)) = false := decide_eq_false c21
            have c21b1 : decide (8 < l0_0.length) = false := decide_eq_false (by omega)
            clear c21
            by_cases c23 : a0_1 < 0
            · rw [if_pos c23] at H
              have c23b0 : decide (a0_1 < 0) = true := decide_eq_true c23
              clear c23
              obtain rfl := Option.some.inj H
              have hcz24_0 : wr.cell? ⟨gb126, 0, none⟩ = some (.slice A0_0 l0_0.length c0_0) := (blk_cell BK126.out 0).trans rfl
              have hcz24_1 : wr.cell? ⟨gb126, 1, none⟩ = some (.int .i64 a0_1) := (blk_cell BK126.out 1).trans rfl
              have hcz24_2 : wr.cell? ⟨gb126, 2, none⟩ = some (.int .i64 a0_2) := (blk_cell BK126.out 2).trans rfl
              have hfz24_0 := blk_frozen BK126.out 0
              have hfz24_1 := blk_frozen BK126.out 1
              have hfz24_2 := blk_frozen BK126.out 2
              go_wp2
              repeat (go_quiet (fail); try go_wp2)
              go_ret
              exact ⟨by first | rfl | (simp [errW_none, errW_some] <;> rfl) | (simp [*, errW_none, errW_some] <;> rfl), by repeat (first | (with_reducible first | exact HB.out | apply below_alloc | apply pw_below_drewN | apply below_drew1 | refine below_set ?_ GE126.out) | exact HB.out)⟩
            · rw [if_neg c23] at H
              have c23b0 : decide (a0_1 < 0) = false := decide_eq_false c23
              clear c23
              by_cases c25 : a0_1 > 16
              · rw [if_pos c25] at H
                have c25b0 : decide (16 < a0_1) = true := decide_eq_true c25
                clear c25
                obtain rfl := Option.some.inj H
                have hcz26_0 : wr.cell? ⟨gb126, 0, none⟩ = some (.slice A0_0 l0_0.length c0_0) := (blk_cell BK126.out 0).trans rfl
                have hcz26_1 : wr.cell? ⟨gb126, 1, none⟩ = some (.int .i64 a0_1) := (blk_cell BK126.out 1).trans rfl
                have hcz26_2 : wr.cell? ⟨gb126, 2, none⟩ = some (.int .i64 a0_2) := (blk_cell BK126.out 2).trans rfl
                have hfz26_0 := blk_frozen BK126.out 0
                have hfz26_1 := blk_frozen BK126.out 1
                have hfz26_2 := blk_frozen BK126.out 2
                go_wp2
                repeat (go_quiet (fail); try go_wp2)
                go_ret
                exact ⟨by first | rfl | (simp [errW_none, errW_some] <;> rfl) | (simp [*, errW_none, errW_some] <;> rfl), by repeat (first | (with_reducible first | exact HB.out | apply below_alloc | apply pw_below_drewN | apply below_drew1 | refine below_set ?_ GE126.out) | exact HB.out)⟩
              · rw [if_neg c25] at H
                have c25b0 : decide (16 < a0_1) = false := decide_eq_false c25
                clear c25
                by_cases c27 : a0_2 ≥ 1
                · rw [if_pos c27] at H
                  have c27b0 : decide (1 ≤ a0_2) = true := decide_eq_true c27
                  clear c27
                  obtain rfl := Option.some.inj H
                  have hcz28_0 : wr.cell? ⟨gb126, 0, none⟩ = some (.slice A0_0 l0_0.length c0_0) := (blk_cell BK126.out 0).trans rfl
                  have hcz28_1 : wr.cell? ⟨gb126, 1, none⟩ = some (.int .i64 a0_1) := (blk_cell BK126.out 1).trans rfl
                  have hcz28_2 : wr.cell? ⟨gb126, 2, none⟩ = some (.int .i64 a0_2) := (blk_cell BK126.out 2).trans rfl
                  have hfz28_0 := blk_frozen BK126.out 0
                  have hfz28_1 := blk_frozen BK126.out 1
                  have hfz28_2 := blk_frozen BK126.out 2
                  go_wp2
                  repeat (go_quiet (fail); try go_wp2)
                  go_ret
                  exact ⟨by first | rfl | (simp [errW_none, errW_some] <;> rfl) | (simp [*, errW_none, errW_some] <;> rfl), by repeat (first | (with_reducible first | exact HB.out | apply below_alloc | apply pw_below_drewN | apply below_drew1 | refine below_set ?_ GE126.out) | exact HB.out)⟩
                · rw [if_neg c27] at H
                  have c27b0 : decide (1 ≤ a0_2) = false := decide_eq_false c27
                  clear c27
                  obtain rfl := Option.some.inj H
                  have hcz29_0 : wr.cell? ⟨gb126, 0, none⟩ = some (.slice A0_0 l0_0.length c0_0) := (blk_cell BK126.out 0).trans rfl
                  have hcz29_1 : wr.cell? ⟨gb126, 1, none⟩ = some (.int .i64 a0_1) := (blk_cell BK126.out 1).trans rfl
                  have hcz29_2 : wr.cell? ⟨gb126, 2, none⟩ = some (.int .i64 a0_2) := (blk_cell BK126.out 2).trans rfl
                  have hfz29_0 := blk_frozen BK126.out 0
                  have hfz29_1 := blk_frozen BK126.out 1
                  have hfz29_2 := blk_frozen BK126.out 2
                  go_wp2
                  repeat (go_quiet (fail); try go_wp2)
                  go_ret
                  exact ⟨by first | rfl | (simp [errW_none, errW_some] <;> rfl) | (simp [*, errW_none, errW_some] <;> rfl), by repeat (first | (with_reducible first | exact HB.out | apply below_alloc | apply pw_below_drewN | apply below_drew1 | refine below_set ?_ GE126.out) | exact HB.out)⟩

end Go.Proofs.YthmnhbalmglohaaGreatDoor.X

/- What tollhouseref15's functions tell is what auth's tell. -/
namespace Go.Proofs.YthmnhbalmglohaaGreatDoor.X
open Go.RowKit Go.Proofs.YthmnhbalmglohaaGreatDoorW.PrintWords Go.Proofs.YthmnhbalmglohaaGreatDoorW.PrintMore Go.Proofs.YthmnhbalmglohaaGreatDoor.T
set_option linter.unusedSimpArgs false
set_option linter.unusedVariables false
/-! ### May -/
theorem authC_iff (c : UInt8) : isAuth c = true ↔ ((97 ≤ c.toNat ∧ c.toNat ≤ 122) ∨ (65 ≤ c.toNat ∧ c.toNat ≤ 90) ∨ (48 ≤ c.toNat ∧ c.toNat ≤ 57) ∨ c.toNat = 45 ∨ c.toNat = 46 ∨ c.toNat = 95 ∨ c.toNat = 126 ∨ c.toNat = 43 ∨ c.toNat = 47) := by
  have h : ∀ n : Fin 256, isAuth (UInt8.ofNat n.val) = true ↔ ((97 ≤ (UInt8.ofNat n.val).toNat ∧ (UInt8.ofNat n.val).toNat ≤ 122) ∨ (65 ≤ (UInt8.ofNat n.val).toNat ∧ (UInt8.ofNat n.val).toNat ≤ 90) ∨ (48 ≤ (UInt8.ofNat n.val).toNat ∧ (UInt8.ofNat n.val).toNat ≤ 57) ∨ (UInt8.ofNat n.val).toNat = 45 ∨ (UInt8.ofNat n.val).toNat = 46 ∨ (UInt8.ofNat n.val).toNat = 95 ∨ (UInt8.ofNat n.val).toNat = 126 ∨ (UInt8.ofNat n.val).toNat = 43 ∨ (UInt8.ofNat n.val).toNat = 47) := by decide +kernel
  have := h ⟨c.toNat, c.toNat_lt⟩
  simpa using this
def trimL (l : List UInt8) : List UInt8 := Lib.trimRightB l 61
theorem dropWhile_app (p : UInt8 → Bool) : ∀ a b : List UInt8, (a ++ b).dropWhile p = if (a.dropWhile p).isEmpty then b.dropWhile p else a.dropWhile p ++ b
  | [], b => rfl
  | x :: a, b => by
    rw [List.cons_append, List.dropWhile_cons, List.dropWhile_cons]
    cases p x with
    | true => simpa using dropWhile_app p a b
    | false => rfl
theorem trimL_cons (c : UInt8) (t : List UInt8) : trimL (c :: t) = if (trimL t).isEmpty then (if c == 61 then [] else [c]) else c :: trimL t := by
  unfold trimL Lib.trimRightB
  rw [List.reverse_cons, dropWhile_app]
  by_cases h : (t.reverse.dropWhile (· == 61)).isEmpty = true
  · rw [if_pos h, if_pos (by simpa using h)]
    cases hc : c == 61 with
    | true => simp [List.dropWhile_cons, hc]
    | false => simp [List.dropWhile_cons, hc]
  · rw [if_neg h, if_neg (by simpa using h)]
    simp
def goodTok (l : List UInt8) : Bool := (trimL l).all isAuth
theorem trimL_eqs : ∀ t : List UInt8, t.all (· == 61) = (trimL t).isEmpty
  | [] => rfl
  | c :: t => by
    rw [List.all_cons, trimL_cons, trimL_eqs t]
    cases (trimL t).isEmpty with
    | true => cases hc : c == 61 <;> simp
    | false => simp
theorem goodL_cons (c : UInt8) (t : List UInt8) (hc : c ≠ 61) : goodTok (c :: t) = (isAuth c && goodTok t) := by
  unfold goodTok
  rw [trimL_cons, if_neg (show ¬ (c == 61) = true by simpa using hc)]
  cases h : (trimL t).isEmpty with
  | true =>
    rw [if_pos rfl]
    rw [List.isEmpty_iff] at h
    rw [h]; simp
  | false => rw [if_neg (by decide)]; rfl
theorem goodL_eq (t : List UInt8) : goodTok (61 :: t) = t.all (· == 61) := by
  rw [trimL_eqs]
  unfold goodTok
  rw [trimL_cons]
  cases h : (trimL t).isEmpty with
  | true => rfl
  | false =>
    rw [if_neg (by decide), List.all_cons]
    rfl
theorem eqs_go (s : ByteArray) (hs : s.size ≤ 4294967296) (n : Nat) : ∀ (t : List UInt8) (i : Nat), s.data.toList.drop i = t → i ≤ s.size → Ev (fun k => tollhouseref15_May.l1 k s (n : Int) (i : Int)) (t.all (· == 61) && (decide (0 < n) && decide (s.size ≤ 64)))
  | [], i, ht, hi => by
    have hn : s.size ≤ i := by
      have := congrArg List.length ht
      rw [List.length_drop, size_toList] at this
      simp at this; omega
    have e : decide ((s.size : Int) ≤ 64) = decide (s.size ≤ 64) := by
      by_cases h : s.size ≤ 64
      · rw [decide_eq_true h, decide_eq_true (by omega)]
      · rw [decide_eq_false h, decide_eq_false (by omega)]
    refine Ev.done fun k => ?_
    simp only [tollhouseref15_May.l1]
    rw [if_neg (by omega)]
    by_cases h : 0 < n
    · rw [if_pos (by omega), e, decide_eq_true h]; simp
    · rw [if_neg (by omega), decide_eq_false h]; simp
  | c :: t, i, ht, hi => by
    have hil : i < s.size := by
      have := congrArg List.length ht
      rw [List.length_drop, size_toList] at this
      simp at this; omega
    have hd := drop_at hil
    rw [ht] at hd
    injection hd with e1 e2
    have ih := eqs_go s hs n t (i + 1) e2.symm (by omega)
    have hb := btAt hil
    rw [← e1] at hb
    by_cases hc : c = 61
    · subst hc
      rw [List.all_cons, show ((61 : UInt8) == 61) = true from rfl, Bool.true_and]
      refine Ev.step (fun k => ?_) ih
      simp only [tollhouseref15_May.l1]
      rw [if_pos (by omega), if_pos (by omega), if_pos (by rw [hb]; rfl), wrap_succ (by omega)]
    · rw [List.all_cons, show (c == 61) = false from by simpa using hc, Bool.false_and, Bool.false_and]
      refine Ev.done fun k => ?_
      have hne : bt s (i : Int) ≠ 61 := by
        rw [hb]; intro e
        refine hc (UInt8.toNat_inj.1 ?_)
        show c.toNat = 61
        omega
      simp only [tollhouseref15_May.l1]
      rw [if_pos (by omega), if_pos (by omega), if_neg hne]
set_option maxHeartbeats 1000000 in
theorem may_j1 (s : ByteArray) (hs : s.size ≤ 4294967296) (i : Nat) (hil : i < s.size) (k : Nat) : tollhouseref15_May.j1 (k + 1) s (i : Int) true = if isAuth (s[i]'hil) = true then tollhouseref15_May.l0 k s ((i + 1 : Nat) : Int) else some false := by
  have hb := btAt hil
  have hiff := authC_iff (s[i]'hil)
  generalize (s[i]'hil) = c at hb hiff
  simp only [tollhouseref15_May.j1]
  rw [wrap_succ (by omega), hb]
  generalize tollhouseref15_May.l0 k s ((i + 1 : Nat) : Int) = X
  rw [if_pos trivial, if_pos (by omega), if_pos (by omega)]
  by_cases h : isAuth c = true
  · rw [if_pos h]
    have h2 := hiff.1 h
    clear hiff h hb hil hs
    rcases h2 with h2 | h2 | h2 | h2 | h2 | h2 | h2 | h2 | h2
    all_goals repeat (first | rw [if_pos (by omega)] | rw [if_neg (by omega)])
  · rw [if_neg h]
    have h2 := mt hiff.2 h
    clear hiff h hb hil hs
    by_cases q1 : (c.toNat : Int) ≥ 97 <;> by_cases q2 : (c.toNat : Int) ≥ 65 <;> by_cases q3 : (c.toNat : Int) ≥ 48
    all_goals first | (exfalso; omega) | (repeat (first | rw [if_pos (by omega)] | rw [if_neg (by omega)]))
theorem may_go (s : ByteArray) (hs : s.size ≤ 4294967296) : ∀ (t : List UInt8) (i : Nat), s.data.toList.drop i = t → i ≤ s.size → Ev (fun k => tollhouseref15_May.l0 k s (i : Int)) (goodTok t && ((decide (0 < i) || !(trimL t).isEmpty) && decide (s.size ≤ 64)))
  | [], i, ht, hi => by
    have hn : s.size ≤ i := by
      have := congrArg List.length ht
      rw [List.length_drop, size_toList] at this
      simp at this; omega
    have h1 := eqs_go s hs i [] i ht hi
    refine Ev.step (g := fun k => tollhouseref15_May.j1 k s (i : Int) false) (fun k => ?_) (Ev.step (g := fun k => tollhouseref15_May.l1 k s (i : Int) (i : Int)) (fun k => ?_) ?_)
    · simp only [tollhouseref15_May.l0]
      rw [if_neg (by omega)]
    · simp only [tollhouseref15_May.j1]
      rw [if_neg (by decide)]
    · have e : (goodTok [] && ((decide (0 < i) || !(trimL []).isEmpty) && decide (s.size ≤ 64))) = (([] : List UInt8).all (· == 61) && (decide (0 < i) && decide (s.size ≤ 64))) := by
        show (true && ((decide (0 < i) || false) && decide (s.size ≤ 64))) = _
        rw [Bool.or_false]; rfl
      rw [e]; exact h1
  | c :: t, i, ht, hi => by
    have hil : i < s.size := by
      have := congrArg List.length ht
      rw [List.length_drop, size_toList] at this
      simp at this; omega
    have hd := drop_at hil
    rw [ht] at hd
    injection hd with e1 e2
    have ih := may_go s hs t (i + 1) e2.symm (by omega)
    have hb := btAt hil
    by_cases hc : c = 61
    · have h1 := eqs_go s hs i (c :: t) i ht (by omega)
      subst hc
      have hbt : bt s (i : Int) = 61 := by rw [hb, ← e1]; rfl
      refine Ev.step (g := fun k => tollhouseref15_May.j1 k s (i : Int) false) (fun k => ?_) (Ev.step (g := fun k => tollhouseref15_May.l1 k s (i : Int) (i : Int)) (fun k => ?_) ?_)
      · simp only [tollhouseref15_May.l0]
        rw [if_pos (by omega), if_pos (by omega), hbt]
        rfl
      · simp only [tollhouseref15_May.j1]
        rw [if_neg (by decide)]
      · have e : (goodTok (61 :: t) && ((decide (0 < i) || !(trimL (61 :: t)).isEmpty) && decide (s.size ≤ 64))) = ((61 :: t).all (· == 61) && (decide (0 < i) && decide (s.size ≤ 64))) := by
          rw [goodL_eq, List.all_cons, show ((61 : UInt8) == 61) = true from rfl, Bool.true_and]
          cases ha : t.all (· == 61) with
          | false => rfl
          | true =>
            have hx := trimL_eqs (61 :: t)
            rw [List.all_cons, ha] at hx
            rw [← hx]
            simp
        rw [e]; exact h1
    · have hne : bt s (i : Int) ≠ 61 := by
        rw [hb, ← e1]; intro e
        refine hc (UInt8.toNat_inj.1 ?_)
        show c.toNat = 61
        omega
      have hj := may_j1 s hs i hil
      rw [← e1] at hj
      have htl : (trimL (c :: t)).isEmpty = false := by
        rw [← trimL_eqs, List.all_cons, show (c == 61) = false from by simpa using hc]; rfl
      rw [goodL_cons c t hc, htl]
      refine Ev.step (g := fun k => tollhouseref15_May.j1 k s (i : Int) true) (fun k => ?_) ?_
      · simp only [tollhouseref15_May.l0]
        rw [if_pos (by omega), if_pos (by omega), show (bt s (i : Int) != 61) = true from by simpa using hne]
      · cases ha : isAuth c with
        | true =>
          rw [ha] at hj
          refine Ev.step (fun k => hj k) (Ev.same (fun k => if_pos rfl) ?_)
          have e : (true && goodTok t && ((decide (0 < i) || !false) && decide (s.size ≤ 64))) = (goodTok t && ((decide (0 < i + 1) || !(trimL t).isEmpty) && decide (s.size ≤ 64))) := by
            rw [decide_eq_true (Nat.succ_pos i)]; simp
          rw [e]; exact ih
        | false =>
          rw [ha] at hj
          exact Ev.done fun k => by rw [hj k, if_neg (by decide)]; rfl
theorem rAMay_ev (s : ByteArray) (hs : s.size ≤ 4294967296) : Ev (fun k => tollhouseref15_May.f k s) (authMayB s) := by
  have h := may_go s hs s.data.toList 0 rfl (Nat.zero_le _)
  have e : authMayB s = (goodTok s.data.toList && ((decide (0 < 0) || !(trimL s.data.toList).isEmpty) && decide (s.size ≤ 64))) := by
    have eb : (bareB s).data.toList = trimL s.data.toList := by unfold bareB trimL; rfl
    unfold authMayB goodTok
    rw [eb]
    cases (trimL s.data.toList).isEmpty <;> cases (trimL s.data.toList).all isAuth <;> simp
  rw [e]; exact h
/-! ### Tenant -/
set_option maxHeartbeats 1000000 in
theorem rtenant_j0 (b : Bool) (tok : ByteArray) (rules : List S46) (x2 x3 x4 x5 x6 x7 x8 : Int) : Ev (fun k => tollhouseref15_Tenant.j0 k (!b) tok rules x2 x3 x4 x5 x6 x7 x8) (rangesB x2 x3 x4 x5 x6 x7 x8 b) := by
  refine Ev.done fun k => ?_
  simp only [tollhouseref15_Tenant.j0]
  have hr : rangesB x2 x3 x4 x5 x6 x7 x8 b = true ↔ (b = true ∧ 0 ≤ x2 ∧ x2 ≤ 262144 ∧ 0 ≤ x3 ∧ x3 ≤ 64 ∧ 1 ≤ x4 ∧ x4 ≤ 16 ∧ 1 ≤ x5 ∧ x5 ≤ 8 ∧ 0 ≤ x6 ∧ x6 ≤ 16 ∧ 1 ≤ x7 ∧ x7 ≤ 1000 ∧ 1 ≤ x8 ∧ x8 ≤ 1000) := by
    unfold rangesB
    simp only [Bool.and_eq_true, decide_eq_true_eq, and_assoc]
  generalize rangesB x2 x3 x4 x5 x6 x7 x8 b = R at hr
  have no : (¬ (b = true ∧ 0 ≤ x2 ∧ x2 ≤ 262144 ∧ 0 ≤ x3 ∧ x3 ≤ 64 ∧ 1 ≤ x4 ∧ x4 ≤ 16 ∧ 1 ≤ x5 ∧ x5 ≤ 8 ∧ 0 ≤ x6 ∧ x6 ≤ 16 ∧ 1 ≤ x7 ∧ x7 ≤ 1000 ∧ 1 ≤ x8 ∧ x8 ≤ 1000)) → some false = some R := fun h => by
    cases R with
    | false => rfl
    | true => exact (h (hr.1 rfl)).elim
  cases b with
  | false => rw [if_pos (by decide)]; exact no (fun h => by simpa using h.1)
  | true =>
    rw [if_neg (by decide)]
    by_cases h2 : x2 < 0
    · rw [if_pos h2]; exact no (fun h => by omega)
    rw [if_neg h2]
    by_cases h3 : x2 > 262144
    · rw [if_pos h3]; exact no (fun h => by omega)
    rw [if_neg h3]
    by_cases h4 : x3 < 0
    · rw [if_pos h4]; exact no (fun h => by omega)
    rw [if_neg h4]
    by_cases h5 : x3 > 64
    · rw [if_pos h5]; exact no (fun h => by omega)
    rw [if_neg h5]
    by_cases h6 : x4 < 1
    · rw [if_pos h6]; exact no (fun h => by omega)
    rw [if_neg h6]
    by_cases h7 : x4 > 16
    · rw [if_pos h7]; exact no (fun h => by omega)
    rw [if_neg h7]
    by_cases h8 : x5 < 1
    · rw [if_pos h8]; exact no (fun h => by omega)
    rw [if_neg h8]
    by_cases h9 : x5 > 8
    · rw [if_pos h9]; exact no (fun h => by omega)
    rw [if_neg h9]
    by_cases h10 : x6 ≥ 0
    · rw [if_pos h10]
      by_cases h11 : x6 ≤ 16
      · rw [if_pos h11]
        by_cases h12 : x7 ≥ 1
        · rw [if_pos h12]
          by_cases h13 : x7 ≤ 1000
          · rw [if_pos h13]
            by_cases h14 : x8 ≥ 1
            · rw [if_pos h14]
              by_cases h15 : x8 ≤ 1000
              · rw [decide_eq_true h15, hr.2 ⟨rfl, by omega⟩]
              · rw [decide_eq_false h15]; exact no (fun h => by omega)
            · rw [if_neg h14]; exact no (fun h => by omega)
          · rw [if_neg h13]; exact no (fun h => by omega)
        · rw [if_neg h12]; exact no (fun h => by omega)
      · rw [if_neg h11]; exact no (fun h => by omega)
    · rw [if_neg h10]; exact no (fun h => by omega)
/-- a tenant whose texts and lists are no longer than a machine holds -/
def sizedT (x : S27) : Prop := x.f0.size ≤ 4294960000 ∧ x.f1.length ≤ 4294960000 ∧ ∀ y ∈ x.f1, sizedR y
theorem rtenant_ev (x : S27) (h : sizedT x) : Ev (fun k => tollhouseref15_Tenant.f k x.f0 x.f1 x.f2 x.f3 x.f4 x.f5 x.f6 x.f7 x.f8) (tenantR x) := by
  obtain ⟨h1, h2, h3⟩ := h
  have hM := rAMay_ev x.f0 (by omega)
  have hA := rall_ev x.f1 h2 h3
  unfold tenantR tenantB
  refine Ev.same (fun k => by unfold tollhouseref15_Tenant.f; rfl) (Ev.bind hM ?_)
  cases authMayB x.f0 with
  | false => exact Ev.same (fun k => if_neg (by decide)) (rtenant_j0 false _ _ _ _ _ _ _ _ _)
  | true => exact Ev.same (fun k => if_pos rfl) (Ev.bind hA (rtenant_j0 _ _ _ _ _ _ _ _ _ _))
/-! ### Config -/
theorem rd_tenant (l : List S27) (i : Nat) (x : S27) (h : l[i]? = some x) : rd_T27 l (i : Int) = x := by
  unfold rd_T27
  rw [Int.toNat_natCast, List.getD_eq_getElem?_getD, h]; rfl
theorem rconfig_l1 (l : List S27) (s t : Int) (hl : l.length ≤ 4294960000) (i : Nat) (y : S27) (hy : l[i]? = some y) (r : Bool) (hr : Ev (fun k => tollhouseref15_Config.l0 k ((i + 1 : Nat) : Int) l s t) r) :
    ∀ (d j : Nat), i - j = d → j ≤ i → Ev (fun k => tollhouseref15_Config.l1 k (i : Int) (j : Int) l s t) (!seenB (((l.take i).drop j).map (·.f0)) y.f0 && r)
  | 0, j, hd, hj => by
    obtain rfl : j = i := by omega
    have hil : j < l.length := (List.getElem?_eq_some_iff.1 hy).1
    rw [List.drop_eq_nil_of_le (by rw [List.length_take]; omega)]
    refine Ev.step (fun k => ?_) hr
    simp only [tollhouseref15_Config.l1]
    rw [if_neg (by omega), wrap_succ (by omega)]
  | d + 1, j, hd, hj => by
    have hil : i < l.length := (List.getElem?_eq_some_iff.1 hy).1
    have hjl : j < l.length := by omega
    have ih := rconfig_l1 l s t hl i y hy r hr d (j + 1) (by omega) (by omega)
    have hx : l[j]? = some l[j] := List.getElem?_eq_getElem hjl
    have hdr : (l.take i).drop j = l[j] :: (l.take i).drop (j + 1) := by
      rw [List.drop_eq_getElem_cons (by rw [List.length_take]; omega)]
      simp
    rw [hdr, List.map_cons]
    have hs : seenB ((l[j]).f0 :: ((l.take i).drop (j + 1)).map (·.f0)) y.f0 = (decide (y.f0.data.toList = (l[j]).f0.data.toList) || seenB (((l.take i).drop (j + 1)).map (·.f0)) y.f0) := rfl
    rw [hs]
    by_cases e : y.f0.data.toList = (l[j]).f0.data.toList
    · rw [decide_eq_true e]
      refine Ev.done fun k => ?_
      simp only [tollhouseref15_Config.l1]
      rw [if_pos (by omega), if_pos (by omega), if_pos (by omega), if_pos (by omega), if_pos (by omega), rd_tenant l j _ hx, rd_tenant l i _ hy, if_pos (by rw [toList_eq, toList_eq, e])]
      rfl
    · rw [decide_eq_false e, Bool.false_or]
      refine Ev.step (fun k => ?_) ih
      simp only [tollhouseref15_Config.l1]
      rw [if_pos (by omega), if_pos (by omega), if_pos (by omega), if_pos (by omega), if_pos (by omega), rd_tenant l j _ hx, rd_tenant l i _ hy, if_neg (by rw [toList_eq, toList_eq]; exact fun q => e q.symm), wrap_succ (by omega)]
theorem rconfig_go (l : List S27) (s t : Int) (hl : l.length ≤ 4294960000) (hx : ∀ x ∈ l, sizedT x) : ∀ (u : List S27) (i : Nat), l.drop i = u → i ≤ l.length →
    Ev (fun k => tollhouseref15_Config.l0 k (i : Int) l s t) (goodTs ((l.take i).map (·.f0)) u && restB l.length s t)
  | [], i, ht, hi => by
    have hil : l.length ≤ i := by
      have := congrArg List.length ht
      simp at this; omega
    have hr : restB l.length s t = true ↔ (1 ≤ l.length ∧ l.length ≤ 8 ∧ 0 ≤ s ∧ s ≤ 16 ∧ 1 ≤ t ∧ t ≤ 1099511627776) := by
      unfold restB
      simp only [Bool.and_eq_true, decide_eq_true_eq, and_assoc]
    have eg : (goodTs ((l.take i).map (·.f0)) [] && restB l.length s t) = restB l.length s t := rfl
    rw [eg]
    generalize restB l.length s t = R at hr
    have no : (¬ (1 ≤ l.length ∧ l.length ≤ 8 ∧ 0 ≤ s ∧ s ≤ 16 ∧ 1 ≤ t ∧ t ≤ 1099511627776)) → some false = some R := fun h => by
      cases R with
      | false => rfl
      | true => exact (h (hr.1 rfl)).elim
    refine Ev.done fun k => ?_
    simp only [tollhouseref15_Config.l0]
    rw [if_neg (by omega)]
    by_cases h1 : (l.length : Int) < 1
    · rw [if_pos h1]; exact no (fun h => by omega)
    rw [if_neg h1]
    by_cases h2 : (l.length : Int) > 8
    · rw [if_pos h2]; exact no (fun h => by omega)
    rw [if_neg h2]
    by_cases h3 : s < 0
    · rw [if_pos h3]; exact no (fun h => by omega)
    rw [if_neg h3]
    by_cases h4 : s > 16
    · rw [if_pos h4]; exact no (fun h => by omega)
    rw [if_neg h4]
    by_cases h5 : t ≥ 1
    · rw [if_pos h5]
      by_cases h6 : t ≤ 1099511627776
      · rw [decide_eq_true h6, hr.2 (by omega)]
      · rw [decide_eq_false h6]; exact no (fun h => by omega)
    · rw [if_neg h5]; exact no (fun h => by omega)
  | y :: u, i, ht, hi => by
    have hil : i < l.length := by
      have := congrArg List.length ht
      simp at this; omega
    have hiy : l[i]? = some y := by
      have : (l.drop i)[0]? = some y := by rw [ht]; rfl
      rw [List.getElem?_drop] at this
      simpa using this
    have ht2 : l.drop (i + 1) = u := by rw [← List.drop_drop, ht]; rfl
    have ih := rconfig_go l s t hl hx u (i + 1) ht2 (by omega)
    have etk : l.take (i + 1) = l.take i ++ [y] := by
      rw [List.take_add_one, hiy]; rfl
    rw [etk, List.map_append] at ih
    have hT := rtenant_ev y (hx y (List.mem_of_getElem? hiy))
    have eg : goodTs ((l.take i).map (·.f0)) (y :: u) = (tenantR y && (!seenB ((l.take i).map (·.f0)) y.f0 && goodTs ((l.take i).map (·.f0) ++ [y.f0]) u)) := rfl
    rw [eg]
    refine Ev.step (g := fun k => (tollhouseref15_Tenant.f k y.f0 y.f1 y.f2 y.f3 y.f4 y.f5 y.f6 y.f7 y.f8).bind fun b => if b = true then tollhouseref15_Config.l1 k (i : Int) 0 l s t else some false) (fun k => ?_) (Ev.bind hT ?_)
    · simp only [tollhouseref15_Config.l0]
      rw [if_pos (by omega), if_pos (by omega), rd_tenant l i y hiy]
    · cases tenantR y with
      | false => exact Ev.const fun k => by rw [if_neg (by decide)]; rfl
      | true =>
        have h1 := rconfig_l1 l s t hl i y hiy _ ih i 0 (by omega) (Nat.zero_le _)
        rw [List.drop_zero] at h1
        refine Ev.same (fun k => if_pos rfl) ?_
        rw [Bool.true_and, Bool.and_assoc]
        exact h1
theorem rconfig_ev (l : List S27) (s t : Int) (hl : l.length ≤ 4294960000) (hx : ∀ x ∈ l, sizedT x) : Ev (fun k => tollhouseref15_Config.f k l s t) (configB l s t) := rconfig_go l s t hl hx l 0 rfl (Nat.zero_le _)
end Go.Proofs.YthmnhbalmglohaaGreatDoor.X
