/- A part of the proof of the law StartRequests: contracts of functions that it reaches, and plain lemmas. -/
import Derived.Test.YtpoljchfgdnmbaaDoorMStartRequests1
import Derived.Maps.Own
import Derived.Maps.OwnOps
import Derived.Maps.Views
import Derived.Maps.StringElems
import Derived.RegionTactic
import Derived.ChangeAlike
-- PRINTED by print.py (a twelfth state) out of the translation. Not trusted: Lean checks it.
namespace Go.Proofs.YtpoljchfgdnmbaaDoor.X
open Go.RowKit Go.Proofs.YtpoljchfgdnmbaaDoorW.PrintWords Go.Proofs.YtpoljchfgdnmbaaDoorW.PrintLast Go.Proofs.YtpoljchfgdnmbaaDoorW.PrintMore
attribute [local go_sem] max2_int min2_int max_two min_two max_three min_three max_four min_four   -- for this text's walks alone
set_option linter.unusedVariables false
set_option linter.unusedSimpArgs false
open Go.Proofs.YtpoljchfgdnmbaaDoor.T

/-! ### tollhouseref06_Request: function 8 -/
mutual
def tollhouseref06_Request.l0 : Nat → ByteArray → List Int → Int → Option (ByteArray × ByteArray × Int × Int)
  | 0, _, _, _ => none
  | k + 1, x0, x6, x7 => if x7 < (x0.size : Int) then (if 0 ≤ x7 then (if (bt x0 x7) = 32 then (if x6.length < 17592186044416 then (tollhouseref06_Request.l0 k x0 (x6 ++ [x7]) (wrap64 (x7 + 1))) else (none)) else (tollhouseref06_Request.l0 k x0 x6 (wrap64 (x7 + 1)))) else (none)) else (if (x0.size : Int) > 512 then (tollhouseref06_Request.j1 k x0 x6 true) else (tollhouseref06_Request.j1 k x0 x6 ((x6.length : Int) != 2)))
def tollhouseref06_Request.j1 : Nat → ByteArray → List Int → Bool → Option (ByteArray × ByteArray × Int × Int)
  | 0, _, _, _ => none
  | k + 1, x0, x6, x32 => if x32 = true then (some ((⟨#[]⟩ : ByteArray), (⟨#[]⟩ : ByteArray), 0, 5)) else (if 0 < (x6.length : Int) then (if 0 ≤ (rd x6 0) then (if (rd x6 0) ≤ (x0.size : Int) then (if 1 < (x6.length : Int) then (if 0 ≤ (wrap64 ((rd x6 0) + 1)) then (if (wrap64 ((rd x6 0) + 1)) ≤ (rd x6 1) then (if (rd x6 1) ≤ (x0.size : Int) then (if 0 ≤ (wrap64 ((rd x6 1) + 1)) then (if (wrap64 ((rd x6 1) + 1)) ≤ (x0.size : Int) then ((tollhouseref06_minor.f (x0.extract ((wrap64 ((rd x6 1) + 1)) : Int).toNat x0.size)).bind fun t124 => ((tollhouseref02_Token.f (x0.extract 0 ((rd x6 0) : Int).toNat)).bind fun t125 => (if t125 = true then (if ((x0.extract 0 ((rd x6 0) : Int).toNat).size : Int) > 32 then (some ((⟨#[]⟩ : ByteArray), (⟨#[]⟩ : ByteArray), 0, 5)) else ((tollhouseref06_target.f k (x0.extract ((wrap64 ((rd x6 0) + 1)) : Int).toNat ((rd x6 1) : Int).toNat)).bind fun t126 => (if t126 = true then (if t124 < 0 then (some ((⟨#[]⟩ : ByteArray), (⟨#[]⟩ : ByteArray), 0, 5)) else (some (x0.extract 0 ((rd x6 0) : Int).toNat, x0.extract ((wrap64 ((rd x6 0) + 1)) : Int).toNat ((rd x6 1) : Int).toNat, t124, 0))) else (some ((⟨#[]⟩ : ByteArray), (⟨#[]⟩ : ByteArray), 0, 5))))) else (some ((⟨#[]⟩ : ByteArray), (⟨#[]⟩ : ByteArray), 0, 5))))) else (none)) else (none)) else (none)) else (none)) else (none)) else (none)) else (none)) else (none)) else (none))
end
def tollhouseref06_Request.f (k : Nat) (a0 : ByteArray) : Option (ByteArray × ByteArray × Int × Int) := tollhouseref06_Request.l0 k a0 ([] : List Int) 0
theorem tollhouseref06_Request.mono_l : ∀ k, (∀ y0 y1 y2, LeO (tollhouseref06_Request.l0 k y0 y1 y2) (tollhouseref06_Request.l0 (k + 1) y0 y1 y2)) ∧ (∀ y0 y1 y2, LeO (tollhouseref06_Request.j1 k y0 y1 y2) (tollhouseref06_Request.j1 (k + 1) y0 y1 y2))
  | 0 => ⟨fun _ _ _ r h => by simp [tollhouseref06_Request.l0] at h, fun _ _ _ r h => by simp [tollhouseref06_Request.j1] at h⟩
  | k + 1 => by
    obtain ⟨ih0, ih1⟩ := tollhouseref06_Request.mono_l k
    refine ⟨?_, ?_⟩
    · intro y0 y1 y2
      unfold tollhouseref06_Request.l0
      repeat' first
      | (with_reducible exact ih0 _ _ _)
      | (with_reducible exact ih1 _ _ _)
      | (with_reducible exact tollhouseref06_target.mono _ _)
      | (with_reducible exact LeO.refl _)
      | (with_reducible exact LeO.none _)
      | (with_reducible refine LeO.ite ?_ ?_)
      | (with_reducible refine LeO.bind ?_ (fun _ => ?_))
      | exact ih0 _ _ _
      | exact ih1 _ _ _
      | exact tollhouseref06_target.mono _ _
      | exact LeO.none _
      | refine LeO.ite ?_ ?_
      | refine LeO.bind ?_ (fun _ => ?_)
    · intro y0 y1 y2
      unfold tollhouseref06_Request.j1
      repeat' first
      | (with_reducible exact ih0 _ _ _)
      | (with_reducible exact ih1 _ _ _)
      | (with_reducible exact tollhouseref06_target.mono _ _)
      | (with_reducible exact LeO.refl _)
      | (with_reducible exact LeO.none _)
      | (with_reducible refine LeO.ite ?_ ?_)
      | (with_reducible refine LeO.bind ?_ (fun _ => ?_))
      | exact ih0 _ _ _
      | exact ih1 _ _ _
      | exact tollhouseref06_target.mono _ _
      | exact LeO.none _
      | refine LeO.ite ?_ ?_
      | refine LeO.bind ?_ (fun _ => ?_)
theorem tollhouseref06_Request.mono : ∀ a0 k, LeO (tollhouseref06_Request.f k a0) (tollhouseref06_Request.f (k + 1) a0) := by
  intro a0 k
  obtain ⟨ih0, ih1⟩ := tollhouseref06_Request.mono_l k
  unfold tollhouseref06_Request.f
  repeat' first
      | (with_reducible exact ih0 _ _ _)
      | (with_reducible exact ih1 _ _ _)
      | (with_reducible exact tollhouseref06_target.mono _ _)
      | (with_reducible exact LeO.refl _)
      | (with_reducible exact LeO.none _)
      | (with_reducible refine LeO.ite ?_ ?_)
      | (with_reducible refine LeO.bind ?_ (fun _ => ?_))
      | exact ih0 _ _ _
      | exact ih1 _ _ _
      | exact tollhouseref06_target.mono _ _
      | exact LeO.none _
      | refine LeO.ite ?_ ?_
      | refine LeO.bind ?_ (fun _ => ?_)
set_option maxHeartbeats 8000000 in
set_option maxRecDepth 100000 in
theorem tollhouseref06_Request.calls (k : Nat) (a0 : ByteArray) (r1 : ByteArray) (r2 : ByteArray) (r3 : Int) (r4 : Int) (w : World) (HGg : Glob w) (h : tollhouseref06_Request.f k a0 = some (r1, r2, r3, r4)) :
    Calls Tryd.prog 8 #[.string a0] w fun e w' => e = .returned (.tuple #[.string r1, .string r2, .int .i64 r3, .int .i64 r4]) ∧ Below w.heap.size w w' := by
  have HGl := Aside0.mk HGg
  clear HGg
  have HB := Aside0.mk (Below.refl w.heap.size w)
  have H : (tollhouseref06_Request.l0 k a0 ([] : List Int) 0) = some (r1, r2, r3, r4) := h
  clear h
  have H' := Aside0.mk H
  clear H
  go_enter Tryd.func8, Tryd.ntmps8
  go_wp2
  repeat (go_quiet (fail); try go_wp2)
  go_loopg [6, 7] k (fun kq v6 v7 w' => ∃ (x6_1 : List Int) (x7_1 : Int), v7 = .int .i64 x7_1 ∧ Aside0 (tollhouseref06_Request.l0 kq a0 x6_1 x7_1 = some (r1, r2, r3, r4)) ∧ Aside0 (kq ≤ k) ∧ Aside0 (Kd.R (Kd.int .i64) 3 w' w.heap.size (fun _ => True) v6 x6_1) ∧ Aside0 (Below w.heap.size w w'))
  case atStart => exact ⟨(([] : List Int)), (0), (by first | rfl | (simp; done) | (simp [*]; done)), H', ⟨Nat.le_refl _⟩, ⟨by first | exact Kd.R_nil _ _ _ _ _ | exact Kd.N_nil _ _ _ _ _ | exact Kd.V_nil _ _ _ _ _ | exact Kd.Q_nil _ _ _ _ _ | exact Kd.S_nil _ _ _ _ _⟩, ⟨by repeat (first | (with_reducible first | exact HB.out | apply below_alloc | apply pw_below_drewN | apply below_drew1) | exact HB.out)⟩⟩
  case round =>
    clear H'
    obtain ⟨x6_1, x7_1, rfl, HA, HK1, HO_6, HB⟩ := hrel
    cases gk with
    | zero => exact absurd HA.out (by simp [tollhouseref06_Request.l0])
    | succ k1 =>
      have H := HA.out
      clear HA
      simp only [tollhouseref06_Request.l0] at H
      by_cases c2 : x7_1 < (a0.size : Int)
      · rw [if_pos c2] at H
        have c2b0 : decide (x7_1 < (a0.size : Int)) = true := decide_eq_true c2
        clear c2
        by_cases c3 : 0 ≤ x7_1
        · rw [if_pos c3] at H
          have c3b0 : decide (0 ≤ x7_1) = true := decide_eq_true c3
          clear c3
          by_cases c5 : (bt a0 x7_1) = 32
          · rw [if_pos c5] at H
            have c5b0 : ((bt a0 x7_1) == 32) = true := beq_iff_eq.mpr c5
            have c5b1 : ((bt a0 x7_1) != 32) = false := bne_eq_false_iff_eq.mpr c5
            clear c5
            by_cases c6 : x6_1.length < 17592186044416
            · rw [if_pos c6] at H
              have LMc6 := Aside0.mk c6
              clear c6
              obtain ⟨y117, hy117⟩ : ∃ y_ : List Int, y_ = (x6_1 ++ [x7_1]) := ⟨_, rfl⟩
              replace H : (tollhouseref06_Request.l0 k1 a0 y117 (wrap64 (x7_1 + 1))) = some (r1, r2, r3, r4) := by first | (rw [hy117]; with_reducible exact H) | (have H2_ := (Option.bind_some _ _).symm.trans H; rw [hy117]; with_reducible exact H2_) | (have H2_ := (Option.bind_some _ _).symm.trans H; with_reducible exact H2_) | with_reducible exact H | (rw [hy117]; exact H) | exact H
              have Ny117 := Aside0.mk hy117
              clear hy117
              have H' := Aside0.mk H
              clear H
              have p4 : 0 ≤ (x7_1 : Int) := of_decide_eq_true (by first | (with_reducible assumption) | assumption)
              have q4 : x7_1 < (a0.size : Int) := of_decide_eq_true (by first | (with_reducible assumption) | assumption)
              have hx4 := bt_at a0 x7_1
              replace p4 := eq_true p4
              replace q4 := eq_true q4
              go_wp2_with (first | ((with_reducible refine gate_builtin (b := .append) (xs := #[.tmp 21, .tmp 23]) rfl ?_); (try (refine gate_guard (by rfl) ?_; dsimp only)); at_builtin; refine Kd.R_append (Kd.int .i64) (w0 := w) w.heap.size rfl (.tmp 21) (.tmp 23) 48 3 (.int .i64 0) 8 rfl Tryd.underlying48 info3 rfl (by decide) (by omega) u6 x6_1 x7_1 [.int .i64 x7_1] (fun _ => True) (fun _ => False) rfl rfl ?aP (fun _ hk => hk.elim) ?aF ?aO ?aB ?aS ?aL ?_; (case aP => exact rfl); (case aB => exact (by repeat (first | (with_reducible first | exact HB.out | apply below_alloc | apply pw_below_drewN | apply below_drew1) | exact HB.out))); (case aF => exact (fun _ _ => trivial)); (case aO => exact (by (with_reducible repeat (first | apply Kd.R_alloc | apply Kd.R_drewN | apply Kd.R_drew)); exact HO_6.out)); (case aS => exact (below_size (by repeat (first | (with_reducible first | exact HB.out | apply below_alloc | apply pw_below_drewN | apply below_drew1) | exact HB.out)))); (case aL => have := LMc6.out; omega); intro v118 w7 ho hb hg hat; rw [← Ny117.out] at ho; have n0_ := Aside0.mk (hb); have n1_ := Aside0.mk (ho); clear HB; clear HO_6; have HB := n0_; have HO119 := n1_; clear n0_ n1_; clear ho hb hg hat))
              repeat (go_quiet (first | ((with_reducible refine gate_builtin (b := .append) (xs := #[.tmp 21, .tmp 23]) rfl ?_); (try (refine gate_guard (by rfl) ?_; dsimp only)); at_builtin; refine Kd.R_append (Kd.int .i64) (w0 := w) w.heap.size rfl (.tmp 21) (.tmp 23) 48 3 (.int .i64 0) 8 rfl Tryd.underlying48 info3 rfl (by decide) (by omega) u6 x6_1 x7_1 [.int .i64 x7_1] (fun _ => True) (fun _ => False) rfl rfl ?aP (fun _ hk => hk.elim) ?aF ?aO ?aB ?aS ?aL ?_; (case aP => exact rfl); (case aB => exact (by repeat (first | (with_reducible first | exact HB.out | apply below_alloc | apply pw_below_drewN | apply below_drew1) | exact HB.out))); (case aF => exact (fun _ _ => trivial)); (case aO => exact (by (with_reducible repeat (first | apply Kd.R_alloc | apply Kd.R_drewN | apply Kd.R_drew)); exact HO_6.out)); (case aS => exact (below_size (by repeat (first | (with_reducible first | exact HB.out | apply below_alloc | apply pw_below_drewN | apply below_drew1) | exact HB.out)))); (case aL => have := LMc6.out; omega); intro v118 w7 ho hb hg hat; rw [← Ny117.out] at ho; have n0_ := Aside0.mk (hb); have n1_ := Aside0.mk (ho); clear HB; clear HO_6; have HB := n0_; have HO119 := n1_; clear n0_ n1_; clear ho hb hg hat)); try go_wp2_with (first | ((with_reducible refine gate_builtin (b := .append) (xs := #[.tmp 21, .tmp 23]) rfl ?_); (try (refine gate_guard (by rfl) ?_; dsimp only)); at_builtin; refine Kd.R_append (Kd.int .i64) (w0 := w) w.heap.size rfl (.tmp 21) (.tmp 23) 48 3 (.int .i64 0) 8 rfl Tryd.underlying48 info3 rfl (by decide) (by omega) u6 x6_1 x7_1 [.int .i64 x7_1] (fun _ => True) (fun _ => False) rfl rfl ?aP (fun _ hk => hk.elim) ?aF ?aO ?aB ?aS ?aL ?_; (case aP => exact rfl); (case aB => exact (by repeat (first | (with_reducible first | exact HB.out | apply below_alloc | apply pw_below_drewN | apply below_drew1) | exact HB.out))); (case aF => exact (fun _ _ => trivial)); (case aO => exact (by (with_reducible repeat (first | apply Kd.R_alloc | apply Kd.R_drewN | apply Kd.R_drew)); exact HO_6.out)); (case aS => exact (below_size (by repeat (first | (with_reducible first | exact HB.out | apply below_alloc | apply pw_below_drewN | apply below_drew1) | exact HB.out)))); (case aL => have := LMc6.out; omega); intro v118 w7 ho hb hg hat; rw [← Ny117.out] at ho; have n0_ := Aside0.mk (hb); have n1_ := Aside0.mk (ho); clear HB; clear HO_6; have HB := n0_; have HO119 := n1_; clear n0_ n1_; clear ho hb hg hat)))
              go_roundg k1
              case measure => have := HK1.out; omega
              case rel => exact ⟨(y117), (wrap64 (x7_1 + 1)), (by first | rfl | (simp; done) | (simp [*]; done)), H', ⟨by have := HK1.out; omega⟩, ⟨by (with_reducible repeat (first | apply Kd.R_alloc | apply Kd.R_drewN | apply Kd.R_drew)); exact HO119.out⟩, ⟨by repeat (first | (with_reducible first | exact HB.out | apply below_alloc | apply pw_below_drewN | apply below_drew1) | exact HB.out)⟩⟩
            · rw [if_neg c6] at H
              exact absurd H (by simp)
          · rw [if_neg c5] at H
            have c5b0 : ((bt a0 x7_1) == 32) = false := beq_eq_false_iff_ne.mpr c5
            have c5b1 : ((bt a0 x7_1) != 32) = true := bne_iff_ne.mpr c5
            have H' := Aside0.mk H
            clear H
            have p4 : 0 ≤ (x7_1 : Int) := of_decide_eq_true (by first | (with_reducible assumption) | assumption)
            have q4 : x7_1 < (a0.size : Int) := of_decide_eq_true (by first | (with_reducible assumption) | assumption)
            have hx4 := bt_at a0 x7_1
            replace p4 := eq_true p4
            replace q4 := eq_true q4
            go_wp2
            repeat (go_quiet (fail); try go_wp2)
            go_roundg k1
            case measure => have := HK1.out; omega
            case rel => exact ⟨(x6_1), (wrap64 (x7_1 + 1)), (by first | rfl | (simp; done) | (simp [*]; done)), H', ⟨by have := HK1.out; omega⟩, ⟨by (with_reducible repeat (first | apply Kd.R_alloc | apply Kd.R_drewN | apply Kd.R_drew)); exact HO_6.out⟩, ⟨by repeat (first | (with_reducible first | exact HB.out | apply below_alloc | apply pw_below_drewN | apply below_drew1) | exact HB.out)⟩⟩
        · rw [if_neg c3] at H
          exact absurd H (by simp)
      · rw [if_neg c2] at H
        have c2b0 : decide (x7_1 < (a0.size : Int)) = false := decide_eq_false c2
        clear c2
        have HC8 := Aside0.mk H
        clear H
        go_upto_region 7 with (fail)
        repeat (go_quiet (fail); go_upto_region 7 with (fail))
        go_cut [32] (fun v32 wc => ∃ (kq : Nat) (x32_7 : Bool), v32 = .bool x32_7 ∧ Aside0 (tollhouseref06_Request.j1 kq a0 x6_1 x32_7 = some (r1, r2, r3, r4)) ∧ Aside0 (kq ≤ k1) ∧ Aside0 (Kd.R (Kd.int .i64) 3 wc w.heap.size (fun _ => True) u6 x6_1) ∧ Aside0 (Below w.heap.size w wc))
        case first =>
          have H := HC8.out
          clear HC8
          by_cases c9 : (a0.size : Int) > 512
          · rw [if_pos c9] at H
            have c9b0 : decide (512 < (a0.size : Int)) = true := decide_eq_true c9
            have c9b1 : decide (512 < a0.size) = true := decide_eq_true (by omega)
            clear c9
            (first | rw [c9b0] | (simp only [i64_w, i32_w]; rw [c9b0]) | skip)
            have H' := Aside0.mk H
            clear H
            go_wp2
            repeat (go_quiet (fail); try go_wp2)
            go_meet
            case rel => exact ⟨_, (true), (by first | rfl | (simp; done) | (simp [*]; done)), H', ⟨by have := HK1.out; first | omega | exact Nat.le_refl _⟩, ⟨by (with_reducible repeat (first | apply Kd.R_alloc | apply Kd.R_drewN | apply Kd.R_drew)); exact HO_6.out⟩, ⟨by repeat (first | (with_reducible first | exact HB.out | apply below_alloc | apply pw_below_drewN | apply below_drew1) | exact HB.out)⟩⟩
          · rw [if_neg c9] at H
            have c9b0 : decide (512 < (a0.size : Int)) = false := decide_eq_false c9
            have c9b1 : decide (512 < a0.size) = false := decide_eq_false (by omega)
            clear c9
            (first | rw [c9b0] | (simp only [i64_w, i32_w]; rw [c9b0]) | skip)
            have H' := Aside0.mk H
            clear H
            obtain ⟨Ao10, co10, eo10⟩ := Kd.R_slice HO_6.out
            subst eo10
            go_wp2
            repeat (go_quiet (fail); try go_wp2)
            go_meet
            case rel => exact ⟨_, (((x6_1.length : Int) != 2)), (by first | rfl | (simp; done) | (simp [*]; done)), H', ⟨by have := HK1.out; first | omega | exact Nat.le_refl _⟩, ⟨by (with_reducible repeat (first | apply Kd.R_alloc | apply Kd.R_drewN | apply Kd.R_drew)); exact HO_6.out⟩, ⟨by repeat (first | (with_reducible first | exact HB.out | apply below_alloc | apply pw_below_drewN | apply below_drew1) | exact HB.out)⟩⟩
        case rest =>
          clear HC8
          try clear c2
          try clear c2b0
          try clear p2
          try clear c3
          try clear c3b0
          try clear p4
          try clear q4
          try clear hx4
          try clear c5
          try clear c5b0
          try clear c5b1
          try clear c6
          try clear p6
          try clear c8
          try clear c9
          try clear c9b0
          try clear c9b1
          try clear p4
          try clear q4
          obtain ⟨kq, x32_7, rfl, HA, HJ7, HO_6, HB⟩ := hcut
          cases kq with
          | zero => exact absurd HA.out (by simp [tollhouseref06_Request.j1])
          | succ kj7 =>
            have H := HA.out
            clear HA
            simp only [tollhouseref06_Request.j1] at H
            by_cases c11 : x32_7 = true
            · subst c11
              have H1 : (some ((⟨#[]⟩ : ByteArray), (⟨#[]⟩ : ByteArray), 0, 5)) = some (r1, r2, r3, r4) := by rw [if_pos rfl] at H; exact H
              clear H
              have H := H1
              clear H1
              simp only [Option.some.injEq, Prod.mk.injEq] at H
              obtain ⟨rfl, rfl, rfl, rfl⟩ := H
              go_wp2
              repeat (go_quiet (fail); try go_wp2)
              refine bodyPost_ret (results_list (rs := [.tmp 2, .tmp 3, .tmp 4, .tmp 5]) rfl (by simp) (.tmp (.tmp (.tmp (.tmp .nil))))) rfl ?_
              exact ⟨by first | rfl | (simp [errW_none, errW_some] <;> rfl) | (simp [*, errW_none, errW_some] <;> rfl), by repeat (first | (with_reducible first | exact HB.out | apply below_alloc | apply pw_below_drewN | apply below_drew1) | exact HB.out)⟩
            · replace c11 := Bool.eq_false_iff.mpr c11
              subst c11
              have H1 : (if 0 < (x6_1.length : Int) then (if 0 ≤ (rd x6_1 0) then (if (rd x6_1 0) ≤ (a0.size : Int) then (if 1 < (x6_1.length : Int) then (if 0 ≤ (wrap64 ((rd x6_1 0) + 1)) then (if (wrap64 ((rd x6_1 0) + 1)) ≤ (rd x6_1 1) then (if (rd x6_1 1) ≤ (a0.size : Int) then (if 0 ≤ (wrap64 ((rd x6_1 1) + 1)) then (if (wrap64 ((rd x6_1 1) + 1)) ≤ (a0.size : Int) then ((tollhouseref06_minor.f (a0.extract ((wrap64 ((rd x6_1 1) + 1)) : Int).toNat a0.size)).bind fun t124 => ((tollhouseref02_Token.f (a0.extract 0 ((rd x6_1 0) : Int).toNat)).bind fun t125 => (if t125 = true then (if ((a0.extract 0 ((rd x6_1 0) : Int).toNat).size : Int) > 32 then (some ((⟨#[]⟩ : ByteArray), (⟨#[]⟩ : ByteArray), 0, 5)) else ((tollhouseref06_target.f kj7 (a0.extract ((wrap64 ((rd x6_1 0) + 1)) : Int).toNat ((rd x6_1 1) : Int).toNat)).bind fun t126 => (if t126 = true then (if t124 < 0 then (some ((⟨#[]⟩ : ByteArray), (⟨#[]⟩ : ByteArray), 0, 5)) else (some (a0.extract 0 ((rd x6_1 0) : Int).toNat, a0.extract ((wrap64 ((rd x6_1 0) + 1)) : Int).toNat ((rd x6_1 1) : Int).toNat, t124, 0))) else (some ((⟨#[]⟩ : ByteArray), (⟨#[]⟩ : ByteArray), 0, 5))))) else (some ((⟨#[]⟩ : ByteArray), (⟨#[]⟩ : ByteArray), 0, 5))))) else (none)) else (none)) else (none)) else (none)) else (none)) else (none)) else (none)) else (none)) else (none)) = some (r1, r2, r3, r4) := by rw [if_neg (show ¬ (false = true) by decide)] at H; exact H
              clear H
              have H := H1
              clear H1
              by_cases c12 : 0 < (x6_1.length : Int)
              · rw [if_pos c12] at H
                have c12b0 : decide (0 < (x6_1.length : Int)) = true := decide_eq_true c12
                have c12b1 : decide (0 < x6_1.length) = true := decide_eq_true (by omega)
                clear c12
                by_cases c13 : 0 ≤ (rd x6_1 0)
                · rw [if_pos c13] at H
                  have c13b0 := eq_true c13
                  have c13b1 : decide (0 ≤ (rd x6_1 0)) = true := decide_eq_true c13
                  clear c13
                  by_cases c14 : (rd x6_1 0) ≤ (a0.size : Int)
                  · rw [if_pos c14] at H
                    have c14b0 := eq_true c14
                    have c14b1 : decide ((rd x6_1 0) ≤ (a0.size : Int)) = true := decide_eq_true c14
                    clear c14
                    by_cases c15 : 1 < (x6_1.length : Int)
                    · rw [if_pos c15] at H
                      have c15b0 : decide (1 < (x6_1.length : Int)) = true := decide_eq_true c15
                      have c15b1 : decide (1 < x6_1.length) = true := decide_eq_true (by omega)
                      clear c15
                      obtain ⟨ji16, hji16⟩ : ∃ j_ : Int, (wrap64 ((rd x6_1 0) + 1)) = j_ := ⟨_, rfl⟩
                      replace H : (if 0 ≤ (ji16) then (if (ji16) ≤ (rd x6_1 1) then (if (rd x6_1 1) ≤ (a0.size : Int) then (if 0 ≤ (wrap64 ((rd x6_1 1) + 1)) then (if (wrap64 ((rd x6_1 1) + 1)) ≤ (a0.size : Int) then ((tollhouseref06_minor.f (a0.extract ((wrap64 ((rd x6_1 1) + 1)) : Int).toNat a0.size)).bind fun t124 => ((tollhouseref02_Token.f (a0.extract 0 ((rd x6_1 0) : Int).toNat)).bind fun t125 => (if t125 = true then (if ((a0.extract 0 ((rd x6_1 0) : Int).toNat).size : Int) > 32 then (some ((⟨#[]⟩ : ByteArray), (⟨#[]⟩ : ByteArray), 0, 5)) else ((tollhouseref06_target.f kj7 (a0.extract ((ji16) : Int).toNat ((rd x6_1 1) : Int).toNat)).bind fun t126 => (if t126 = true then (if t124 < 0 then (some ((⟨#[]⟩ : ByteArray), (⟨#[]⟩ : ByteArray), 0, 5)) else (some (a0.extract 0 ((rd x6_1 0) : Int).toNat, a0.extract ((ji16) : Int).toNat ((rd x6_1 1) : Int).toNat, t124, 0))) else (some ((⟨#[]⟩ : ByteArray), (⟨#[]⟩ : ByteArray), 0, 5))))) else (some ((⟨#[]⟩ : ByteArray), (⟨#[]⟩ : ByteArray), 0, 5))))) else (none)) else (none)) else (none)) else (none)) else (none)) = some (r1, r2, r3, r4) := by first | (rw [hji16] at H; exact H) | (simp only [hji16] at H ⊢; exact H)
                      have hji16w : (IntKind.i64.wrap ((rd x6_1 0) + 1)) = ji16 := (i64_w _).trans hji16
                      by_cases c17 : 0 ≤ (ji16)
                      · rw [if_pos c17] at H
                        have c17b0 := eq_true c17
                        have c17b1 : decide (0 ≤ (ji16)) = true := decide_eq_true c17
                        clear c17
                        by_cases c18 : (ji16) ≤ (rd x6_1 1)
                        · rw [if_pos c18] at H
                          have c18b0 := eq_true c18
                          have c18b1 : decide ((ji16) ≤ (rd x6_1 1)) = true := decide_eq_true c18
                          clear c18
                          by_cases c19 : (rd x6_1 1) ≤ (a0.size : Int)
                          · rw [if_pos c19] at H
                            have c19b0 := eq_true c19
                            have c19b1 : decide ((rd x6_1 1) ≤ (a0.size : Int)) = true := decide_eq_true c19
                            clear c19
                            obtain ⟨ji20, hji20⟩ : ∃ j_ : Int, (wrap64 ((rd x6_1 1) + 1)) = j_ := ⟨_, rfl⟩
                            replace H : (if 0 ≤ (ji20) then (if (ji20) ≤ (a0.size : Int) then ((tollhouseref06_minor.f (a0.extract ((ji20) : Int).toNat a0.size)).bind fun t124 => ((tollhouseref02_Token.f (a0.extract 0 ((rd x6_1 0) : Int).toNat)).bind fun t125 => (if t125 = true then (if ((a0.extract 0 ((rd x6_1 0) : Int).toNat).size : Int) > 32 then (some ((⟨#[]⟩ : ByteArray), (⟨#[]⟩ : ByteArray), 0, 5)) else ((tollhouseref06_target.f kj7 (a0.extract ((ji16) : Int).toNat ((rd x6_1 1) : Int).toNat)).bind fun t126 => (if t126 = true then (if t124 < 0 then (some ((⟨#[]⟩ : ByteArray), (⟨#[]⟩ : ByteArray), 0, 5)) else (some (a0.extract 0 ((rd x6_1 0) : Int).toNat, a0.extract ((ji16) : Int).toNat ((rd x6_1 1) : Int).toNat, t124, 0))) else (some ((⟨#[]⟩ : ByteArray), (⟨#[]⟩ : ByteArray), 0, 5))))) else (some ((⟨#[]⟩ : ByteArray), (⟨#[]⟩ : ByteArray), 0, 5))))) else (none)) else (none)) = some (r1, r2, r3, r4) := by first | (rw [hji20] at H; exact H) | (simp only [hji20] at H ⊢; exact H)
                            have hji20w : (IntKind.i64.wrap ((rd x6_1 1) + 1)) = ji20 := (i64_w _).trans hji20
                            by_cases c21 : 0 ≤ (ji20)
                            · rw [if_pos c21] at H
                              have c21b0 := eq_true c21
                              have c21b1 : decide (0 ≤ (ji20)) = true := decide_eq_true c21
                              clear c21
                              by_cases c22 : (ji20) ≤ (a0.size : Int)
                              · rw [if_pos c22] at H
                                have c22b0 := eq_true c22
                                have c22b1 : decide ((ji20) ≤ (a0.size : Int)) = true := decide_eq_true c22
                                clear c22
                                replace H := Option.bind_eq_some_iff.mp H
                                obtain ⟨t124, A230, H⟩ := H
                                replace H : ((tollhouseref02_Token.f (a0.extract 0 ((rd x6_1 0) : Int).toNat)).bind fun t125 => (if t125 = true then (if ((a0.extract 0 ((rd x6_1 0) : Int).toNat).size : Int) > 32 then (some ((⟨#[]⟩ : ByteArray), (⟨#[]⟩ : ByteArray), 0, 5)) else ((tollhouseref06_target.f kj7 (a0.extract ((ji16) : Int).toNat ((rd x6_1 1) : Int).toNat)).bind fun t126 => (if t126 = true then (if t124 < 0 then (some ((⟨#[]⟩ : ByteArray), (⟨#[]⟩ : ByteArray), 0, 5)) else (some (a0.extract 0 ((rd x6_1 0) : Int).toNat, a0.extract ((ji16) : Int).toNat ((rd x6_1 1) : Int).toNat, t124, 0))) else (some ((⟨#[]⟩ : ByteArray), (⟨#[]⟩ : ByteArray), 0, 5))))) else (some ((⟨#[]⟩ : ByteArray), (⟨#[]⟩ : ByteArray), 0, 5)))) = some (r1, r2, r3, r4) := H
                                have A23 := Aside0.mk A230
                                clear A230
                                replace H := Option.bind_eq_some_iff.mp H
                                obtain ⟨t125, A240, H⟩ := H
                                replace H : (if t125 = true then (if ((a0.extract 0 ((rd x6_1 0) : Int).toNat).size : Int) > 32 then (some ((⟨#[]⟩ : ByteArray), (⟨#[]⟩ : ByteArray), 0, 5)) else ((tollhouseref06_target.f kj7 (a0.extract ((ji16) : Int).toNat ((rd x6_1 1) : Int).toNat)).bind fun t126 => (if t126 = true then (if t124 < 0 then (some ((⟨#[]⟩ : ByteArray), (⟨#[]⟩ : ByteArray), 0, 5)) else (some (a0.extract 0 ((rd x6_1 0) : Int).toNat, a0.extract ((ji16) : Int).toNat ((rd x6_1 1) : Int).toNat, t124, 0))) else (some ((⟨#[]⟩ : ByteArray), (⟨#[]⟩ : ByteArray), 0, 5))))) else (some ((⟨#[]⟩ : ByteArray), (⟨#[]⟩ : ByteArray), 0, 5))) = some (r1, r2, r3, r4) := H
                                have A24 := Aside0.mk A240
                                clear A240
                                by_cases c25 : t125 = true
                                · subst c25
                                  have H1 : (if ((a0.extract 0 ((rd x6_1 0) : Int).toNat).size : Int) > 32 then (some ((⟨#[]⟩ : ByteArray), (⟨#[]⟩ : ByteArray), 0, 5)) else ((tollhouseref06_target.f kj7 (a0.extract ((ji16) : Int).toNat ((rd x6_1 1) : Int).toNat)).bind fun t126 => (if t126 = true then (if t124 < 0 then (some ((⟨#[]⟩ : ByteArray), (⟨#[]⟩ : ByteArray), 0, 5)) else (some (a0.extract 0 ((rd x6_1 0) : Int).toNat, a0.extract ((ji16) : Int).toNat ((rd x6_1 1) : Int).toNat, t124, 0))) else (some ((⟨#[]⟩ : ByteArray), (⟨#[]⟩ : ByteArray), 0, 5))))) = some (r1, r2, r3, r4) := by rw [if_pos rfl] at H; exact H
                                  clear H
                                  have H := H1
                                  clear H1
                                  by_cases c26 : ((a0.extract 0 ((rd x6_1 0) : Int).toNat).size : Int) > 32
                                  · rw [if_pos c26] at H
                                    try (have c26n : 32 < max (rd x6_1 0) 0 := (by have hq_ := c26; simp only [ByteArray.size_extract] at hq_; simp only [decide_eq_true_eq, decide_eq_false_iff_not, eq_iff_iff, iff_true, iff_false] at *; omega))
                                    have c26b0 : decide (32 < ((a0.extract 0 ((rd x6_1 0) : Int).toNat).size : Int)) = true := decide_eq_true c26
                                    have c26b1 : decide (32 < (a0.extract 0 ((rd x6_1 0) : Int).toNat).size) = true := decide_eq_true (by omega)
                                    clear c26
                                    simp only [Option.some.injEq, Prod.mk.injEq] at H
                                    obtain ⟨rfl, rfl, rfl, rfl⟩ := H
                                    obtain ⟨Ao27, co27, eo27⟩ := Kd.R_slice HO_6.out
                                    subst eo27
                                    have p120 : 0 ≤ (0 : Int) := (by omega)
                                    have q120 : 0 < (x6_1.length : Int) := of_decide_eq_true (by first | (with_reducible assumption) | assumption)
                                    obtain ⟨ad120, e120, hx120_0⟩ := Kd.at_int (Kd.R_reads' HO_6.out).2.2 0 p120 q120
                                    cases e120
                                    have qi120 : (0 < x6_1.length) = True := eq_true (by omega)
                                    (try rw [show ((0 : Int)).toNat = 0 from rfl] at hx120_0)
                                    (try rw [Addr.add_zero'] at hx120_0)
                                    replace p120 := eq_true p120
                                    replace q120 := eq_true q120
                                    have p121 : 0 ≤ (0 : Int) := (by omega)
                                    have q121 : 0 < (x6_1.length : Int) := of_decide_eq_true (by first | (with_reducible assumption) | assumption)
                                    obtain ⟨ad121, e121, hx121_0⟩ := Kd.at_int (Kd.R_reads' HO_6.out).2.2 0 p121 q121
                                    obtain rfl : ad120 = ad121 := (by injection e121)
                                    have qi121 : (0 < x6_1.length) = True := eq_true (by omega)
                                    (try rw [show ((0 : Int)).toNat = 0 from rfl] at hx121_0)
                                    (try rw [Addr.add_zero'] at hx121_0)
                                    replace p121 := eq_true p121
                                    replace q121 := eq_true q121
                                    have p122 : 0 ≤ (1 : Int) := (by omega)
                                    have q122 : 1 < (x6_1.length : Int) := of_decide_eq_true (by first | (with_reducible assumption) | assumption)
                                    obtain ⟨ad122, e122, hx122_0⟩ := Kd.at_int (Kd.R_reads' HO_6.out).2.2 1 p122 q122
                                    obtain rfl : ad120 = ad122 := (by injection e122)
                                    (try simp only [show (1 : Int).toNat = 1 from rfl, Nat.reduceMul, Nat.reduceEqDiff, Go.Addr.add, ↓reduceIte] at hx122_0)
                                    have qi122 : (1 < x6_1.length) = True := eq_true (by omega)
                                    (try rw [show ((1 : Int)).toNat = 1 from rfl] at hx122_0)
                                    replace p122 := eq_true p122
                                    replace q122 := eq_true q122
                                    have p123 : 0 ≤ (1 : Int) := (by omega)
                                    have q123 : 1 < (x6_1.length : Int) := of_decide_eq_true (by first | (with_reducible assumption) | assumption)
                                    obtain ⟨ad123, e123, hx123_0⟩ := Kd.at_int (Kd.R_reads' HO_6.out).2.2 1 p123 q123
                                    obtain rfl : ad120 = ad123 := (by injection e123)
                                    (try simp only [show (1 : Int).toNat = 1 from rfl, Nat.reduceMul, Nat.reduceEqDiff, Go.Addr.add, ↓reduceIte] at hx123_0)
                                    have qi123 : (1 < x6_1.length) = True := eq_true (by omega)
                                    (try rw [show ((1 : Int)).toNat = 1 from rfl] at hx123_0)
                                    replace p123 := eq_true p123
                                    replace q123 := eq_true q123
                                    go_wp2_with (first | (go_at_call 22; (with_reducible refine (tollhouseref06_minor.calls (a0.extract ((ji20) : Int).toNat a0.size) t124 _ (Glob.below HGl.out (by repeat (first | (with_reducible first | exact HB.out | apply below_alloc | apply pw_below_drewN | apply below_drew1) | exact HB.out))) A23.out).mono ?_); rintro e w' ⟨rfl, ⟨nd, rfl⟩⟩; (try first | exact ⟨rfl, _, World.drewN_drewN _ _ _⟩ | exact ⟨rfl, _, Eq.trans (World.drewN_drewN _ _ _) (congrArg (World.drewN _) (Nat.add_assoc _ _ _))⟩)) | (go_at_call 23; (with_reducible refine (tollhouseref02_Token.calls (a0.extract 0 ((rd x6_1 0) : Int).toNat) true _ (Glob.below HGl.out (by repeat (first | (with_reducible first | exact HB.out | apply below_alloc | apply pw_below_drewN | apply below_drew1) | exact HB.out))) A24.out).mono ?_); rintro e w' ⟨rfl, ⟨nd, rfl⟩⟩; (try first | exact ⟨rfl, _, World.drewN_drewN _ _ _⟩ | exact ⟨rfl, _, Eq.trans (World.drewN_drewN _ _ _) (congrArg (World.drewN _) (Nat.add_assoc _ _ _))⟩)))
                                    repeat (go_quiet (first | (go_at_call 22; (with_reducible refine (tollhouseref06_minor.calls (a0.extract ((ji20) : Int).toNat a0.size) t124 _ (Glob.below HGl.out (by repeat (first | (with_reducible first | exact HB.out | apply below_alloc | apply pw_below_drewN | apply below_drew1) | exact HB.out))) A23.out).mono ?_); rintro e w' ⟨rfl, ⟨nd, rfl⟩⟩; (try first | exact ⟨rfl, _, World.drewN_drewN _ _ _⟩ | exact ⟨rfl, _, Eq.trans (World.drewN_drewN _ _ _) (congrArg (World.drewN _) (Nat.add_assoc _ _ _))⟩)) | (go_at_call 23; (with_reducible refine (tollhouseref02_Token.calls (a0.extract 0 ((rd x6_1 0) : Int).toNat) true _ (Glob.below HGl.out (by repeat (first | (with_reducible first | exact HB.out | apply below_alloc | apply pw_below_drewN | apply below_drew1) | exact HB.out))) A24.out).mono ?_); rintro e w' ⟨rfl, ⟨nd, rfl⟩⟩; (try first | exact ⟨rfl, _, World.drewN_drewN _ _ _⟩ | exact ⟨rfl, _, Eq.trans (World.drewN_drewN _ _ _) (congrArg (World.drewN _) (Nat.add_assoc _ _ _))⟩))); try go_wp2_with (first | (go_at_call 22; (with_reducible refine (tollhouseref06_minor.calls (a0.extract ((ji20) : Int).toNat a0.size) t124 _ (Glob.below HGl.out (by repeat (first | (with_reducible first | exact HB.out | apply below_alloc | apply pw_below_drewN | apply below_drew1) | exact HB.out))) A23.out).mono ?_); rintro e w' ⟨rfl, ⟨nd, rfl⟩⟩; (try first | exact ⟨rfl, _, World.drewN_drewN _ _ _⟩ | exact ⟨rfl, _, Eq.trans (World.drewN_drewN _ _ _) (congrArg (World.drewN _) (Nat.add_assoc _ _ _))⟩)) | (go_at_call 23; (with_reducible refine (tollhouseref02_Token.calls (a0.extract 0 ((rd x6_1 0) : Int).toNat) true _ (Glob.below HGl.out (by repeat (first | (with_reducible first | exact HB.out | apply below_alloc | apply pw_below_drewN | apply below_drew1) | exact HB.out))) A24.out).mono ?_); rintro e w' ⟨rfl, ⟨nd, rfl⟩⟩; (try first | exact ⟨rfl, _, World.drewN_drewN _ _ _⟩ | exact ⟨rfl, _, Eq.trans (World.drewN_drewN _ _ _) (congrArg (World.drewN _) (Nat.add_assoc _ _ _))⟩))))
                                    refine bodyPost_ret (results_list (rs := [.tmp 2, .tmp 3, .tmp 4, .tmp 5]) rfl (by simp) (.tmp (.tmp (.tmp (.tmp .nil))))) rfl ?_
                                    exact ⟨by first | rfl | (simp [errW_none, errW_some] <;> rfl) | (simp only [← hji16, ← hji20]; first | rfl | (simp [errW_none, errW_some] <;> rfl)) | (simp [*, errW_none, errW_some] <;> rfl), by repeat (first | (with_reducible first | exact HB.out | apply below_alloc | apply pw_below_drewN | apply below_drew1) | exact HB.out)⟩
                                  · rw [if_neg c26] at H
                                    try (have c26n : ¬ (32 < max (rd x6_1 0) 0) := (by have hq_ := c26; simp only [ByteArray.size_extract] at hq_; simp only [decide_eq_true_eq, decide_eq_false_iff_not, eq_iff_iff, iff_true, iff_false] at *; omega))
                                    have c26b0 : decide (32 < ((a0.extract 0 ((rd x6_1 0) : Int).toNat).size : Int)) = false := decide_eq_false c26
                                    have c26b1 : decide (32 < (a0.extract 0 ((rd x6_1 0) : Int).toNat).size) = false := decide_eq_false (by omega)
                                    clear c26
                                    replace H := Option.bind_eq_some_iff.mp H
                                    obtain ⟨t126, A280, H⟩ := H
                                    replace H : (if t126 = true then (if t124 < 0 then (some ((⟨#[]⟩ : ByteArray), (⟨#[]⟩ : ByteArray), 0, 5)) else (some (a0.extract 0 ((rd x6_1 0) : Int).toNat, a0.extract ((ji16) : Int).toNat ((rd x6_1 1) : Int).toNat, t124, 0))) else (some ((⟨#[]⟩ : ByteArray), (⟨#[]⟩ : ByteArray), 0, 5))) = some (r1, r2, r3, r4) := H
                                    have A28 := Aside0.mk A280
                                    clear A280
                                    by_cases c29 : t126 = true
                                    · subst c29
                                      have H1 : (if t124 < 0 then (some ((⟨#[]⟩ : ByteArray), (⟨#[]⟩ : ByteArray), 0, 5)) else (some (a0.extract 0 ((rd x6_1 0) : Int).toNat, a0.extract ((ji16) : Int).toNat ((rd x6_1 1) : Int).toNat, t124, 0))) = some (r1, r2, r3, r4) := by rw [if_pos rfl] at H; exact H
                                      clear H
                                      have H := H1
                                      clear H1
                                      by_cases c30 : t124 < 0
                                      · rw [if_pos c30] at H
                                        have c30b0 : decide (t124 < 0) = true := decide_eq_true c30
                                        clear c30
                                        simp only [Option.some.injEq, Prod.mk.injEq] at H
                                        obtain ⟨rfl, rfl, rfl, rfl⟩ := H
                                        obtain ⟨Ao31, co31, eo31⟩ := Kd.R_slice HO_6.out
                                        subst eo31
                                        have p120 : 0 ≤ (0 : Int) := (by omega)
                                        have q120 : 0 < (x6_1.length : Int) := of_decide_eq_true (by first | (with_reducible assumption) | assumption)
                                        obtain ⟨ad120, e120, hx120_0⟩ := Kd.at_int (Kd.R_reads' HO_6.out).2.2 0 p120 q120
                                        cases e120
                                        have qi120 : (0 < x6_1.length) = True := eq_true (by omega)
                                        (try rw [show ((0 : Int)).toNat = 0 from rfl] at hx120_0)
                                        (try rw [Addr.add_zero'] at hx120_0)
                                        replace p120 := eq_true p120
                                        replace q120 := eq_true q120
                                        have p121 : 0 ≤ (0 : Int) := (by omega)
                                        have q121 : 0 < (x6_1.length : Int) := of_decide_eq_true (by first | (with_reducible assumption) | assumption)
                                        obtain ⟨ad121, e121, hx121_0⟩ := Kd.at_int (Kd.R_reads' HO_6.out).2.2 0 p121 q121
                                        obtain rfl : ad120 = ad121 := (by injection e121)
                                        have qi121 : (0 < x6_1.length) = True := eq_true (by omega)
                                        (try rw [show ((0 : Int)).toNat = 0 from rfl] at hx121_0)
                                        (try rw [Addr.add_zero'] at hx121_0)
                                        replace p121 := eq_true p121
                                        replace q121 := eq_true q121
                                        have p122 : 0 ≤ (1 : Int) := (by omega)
                                        have q122 : 1 < (x6_1.length : Int) := of_decide_eq_true (by first | (with_reducible assumption) | assumption)
                                        obtain ⟨ad122, e122, hx122_0⟩ := Kd.at_int (Kd.R_reads' HO_6.out).2.2 1 p122 q122
                                        obtain rfl : ad120 = ad122 := (by injection e122)
                                        (try simp only [show (1 : Int).toNat = 1 from rfl, Nat.reduceMul, Nat.reduceEqDiff, Go.Addr.add, ↓reduceIte] at hx122_0)
                                        have qi122 : (1 < x6_1.length) = True := eq_true (by omega)
                                        (try rw [show ((1 : Int)).toNat = 1 from rfl] at hx122_0)
                                        replace p122 := eq_true p122
                                        replace q122 := eq_true q122
                                        have p123 : 0 ≤ (1 : Int) := (by omega)
                                        have q123 : 1 < (x6_1.length : Int) := of_decide_eq_true (by first | (with_reducible assumption) | assumption)
                                        obtain ⟨ad123, e123, hx123_0⟩ := Kd.at_int (Kd.R_reads' HO_6.out).2.2 1 p123 q123
                                        obtain rfl : ad120 = ad123 := (by injection e123)
                                        (try simp only [show (1 : Int).toNat = 1 from rfl, Nat.reduceMul, Nat.reduceEqDiff, Go.Addr.add, ↓reduceIte] at hx123_0)
                                        have qi123 : (1 < x6_1.length) = True := eq_true (by omega)
                                        (try rw [show ((1 : Int)).toNat = 1 from rfl] at hx123_0)
                                        replace p123 := eq_true p123
                                        replace q123 := eq_true q123
                                        go_wp2_with (first | (go_at_call 22; (with_reducible refine (tollhouseref06_minor.calls (a0.extract ((ji20) : Int).toNat a0.size) t124 _ (Glob.below HGl.out (by repeat (first | (with_reducible first | exact HB.out | apply below_alloc | apply pw_below_drewN | apply below_drew1) | exact HB.out))) A23.out).mono ?_); rintro e w' ⟨rfl, ⟨nd, rfl⟩⟩; (try first | exact ⟨rfl, _, World.drewN_drewN _ _ _⟩ | exact ⟨rfl, _, Eq.trans (World.drewN_drewN _ _ _) (congrArg (World.drewN _) (Nat.add_assoc _ _ _))⟩)) | (go_at_call 23; (with_reducible refine (tollhouseref02_Token.calls (a0.extract 0 ((rd x6_1 0) : Int).toNat) true _ (Glob.below HGl.out (by repeat (first | (with_reducible first | exact HB.out | apply below_alloc | apply pw_below_drewN | apply below_drew1) | exact HB.out))) A24.out).mono ?_); rintro e w' ⟨rfl, ⟨nd, rfl⟩⟩; (try first | exact ⟨rfl, _, World.drewN_drewN _ _ _⟩ | exact ⟨rfl, _, Eq.trans (World.drewN_drewN _ _ _) (congrArg (World.drewN _) (Nat.add_assoc _ _ _))⟩)) | (go_at_call 24; (with_reducible refine (tollhouseref06_target.calls kj7 (a0.extract ((ji16) : Int).toNat ((rd x6_1 1) : Int).toNat) true _ (Glob.below HGl.out (by repeat (first | (with_reducible first | exact HB.out | apply below_alloc | apply pw_below_drewN | apply below_drew1) | exact HB.out))) A28.out).mono ?_); rintro e w' ⟨rfl, ⟨nd, rfl⟩⟩; (try first | exact ⟨rfl, _, World.drewN_drewN _ _ _⟩ | exact ⟨rfl, _, Eq.trans (World.drewN_drewN _ _ _) (congrArg (World.drewN _) (Nat.add_assoc _ _ _))⟩)))
                                        repeat (go_quiet (first | (go_at_call 22; (with_reducible refine (tollhouseref06_minor.calls (a0.extract ((ji20) : Int).toNat a0.size) t124 _ (Glob.below HGl.out (by repeat (first | (with_reducible first | exact HB.out | apply below_alloc | apply pw_below_drewN | apply below_drew1) | exact HB.out))) A23.out).mono ?_); rintro e w' ⟨rfl, ⟨nd, rfl⟩⟩; (try first | exact ⟨rfl, _, World.drewN_drewN _ _ _⟩ | exact ⟨rfl, _, Eq.trans (World.drewN_drewN _ _ _) (congrArg (World.drewN _) (Nat.add_assoc _ _ _))⟩)) | (go_at_call 23; (with_reducible refine (tollhouseref02_Token.calls (a0.extract 0 ((rd x6_1 0) : Int).toNat) true _ (Glob.below HGl.out (by repeat (first | (with_reducible first | exact HB.out | apply below_alloc | apply pw_below_drewN | apply below_drew1) | exact HB.out))) A24.out).mono ?_); rintro e w' ⟨rfl, ⟨nd, rfl⟩⟩; (try first | exact ⟨rfl, _, World.drewN_drewN _ _ _⟩ | exact ⟨rfl, _, Eq.trans (World.drewN_drewN _ _ _) (congrArg (World.drewN _) (Nat.add_assoc _ _ _))⟩)) | (go_at_call 24; (with_reducible refine (tollhouseref06_target.calls kj7 (a0.extract ((ji16) : Int).toNat ((rd x6_1 1) : Int).toNat) true _ (Glob.below HGl.out (by repeat (first | (with_reducible first | exact HB.out | apply below_alloc | apply pw_below_drewN | apply below_drew1) | exact HB.out))) A28.out).mono ?_); rintro e w' ⟨rfl, ⟨nd, rfl⟩⟩; (try first | exact ⟨rfl, _, World.drewN_drewN _ _ _⟩ | exact ⟨rfl, _, Eq.trans (World.drewN_drewN _ _ _) (congrArg (World.drewN _) (Nat.add_assoc _ _ _))⟩))); try go_wp2_with (first | (go_at_call 22; (with_reducible refine (tollhouseref06_minor.calls (a0.extract ((ji20) : Int).toNat a0.size) t124 _ (Glob.below HGl.out (by repeat (first | (with_reducible first | exact HB.out | apply below_alloc | apply pw_below_drewN | apply below_drew1) | exact HB.out))) A23.out).mono ?_); rintro e w' ⟨rfl, ⟨nd, rfl⟩⟩; (try first | exact ⟨rfl, _, World.drewN_drewN _ _ _⟩ | exact ⟨rfl, _, Eq.trans (World.drewN_drewN _ _ _) (congrArg (World.drewN _) (Nat.add_assoc _ _ _))⟩)) | (go_at_call 23; (with_reducible refine (tollhouseref02_Token.calls (a0.extract 0 ((rd x6_1 0) : Int).toNat) true _ (Glob.below HGl.out (by repeat (first | (with_reducible first | exact HB.out | apply below_alloc | apply pw_below_drewN | apply below_drew1) | exact HB.out))) A24.out).mono ?_); rintro e w' ⟨rfl, ⟨nd, rfl⟩⟩; (try first | exact ⟨rfl, _, World.drewN_drewN _ _ _⟩ | exact ⟨rfl, _, Eq.trans (World.drewN_drewN _ _ _) (congrArg (World.drewN _) (Nat.add_assoc _ _ _))⟩)) | (go_at_call 24; (with_reducible refine (tollhouseref06_target.calls kj7 (a0.extract ((ji16) : Int).toNat ((rd x6_1 1) : Int).toNat) true _ (Glob.below HGl.out (by repeat (first | (with_reducible first | exact HB.out | apply below_alloc | apply pw_below_drewN | apply below_drew1) | exact HB.out))) A28.out).mono ?_); rintro e w' ⟨rfl, ⟨nd, rfl⟩⟩; (try first | exact ⟨rfl, _, World.drewN_drewN _ _ _⟩ | exact ⟨rfl, _, Eq.trans (World.drewN_drewN _ _ _) (congrArg (World.drewN _) (Nat.add_assoc _ _ _))⟩))))
                                        refine bodyPost_ret (results_list (rs := [.tmp 2, .tmp 3, .tmp 4, .tmp 5]) rfl (by simp) (.tmp (.tmp (.tmp (.tmp .nil))))) rfl ?_
                                        exact ⟨by first | rfl | (simp [errW_none, errW_some] <;> rfl) | (simp only [← hji16, ← hji20]; first | rfl | (simp [errW_none, errW_some] <;> rfl)) | (simp [*, errW_none, errW_some] <;> rfl), by repeat (first | (with_reducible first | exact HB.out | apply below_alloc | apply pw_below_drewN | apply below_drew1) | exact HB.out)⟩
                                      · rw [if_neg c30] at H
                                        have c30b0 : decide (t124 < 0) = false := decide_eq_false c30
                                        clear c30
                                        simp only [Option.some.injEq, Prod.mk.injEq] at H
                                        obtain ⟨rfl, rfl, rfl, rfl⟩ := H
                                        obtain ⟨Ao32, co32, eo32⟩ := Kd.R_slice HO_6.out
                                        subst eo32
                                        have p120 : 0 ≤ (0 : Int) := (by omega)
                                        have q120 : 0 < (x6_1.length : Int) := of_decide_eq_true (by first | (with_reducible assumption) | assumption)
                                        obtain ⟨ad120, e120, hx120_0⟩ := Kd.at_int (Kd.R_reads' HO_6.out).2.2 0 p120 q120
                                        cases e120
                                        have qi120 : (0 < x6_1.length) = True := eq_true (by omega)
                                        (try rw [show ((0 : Int)).toNat = 0 from rfl] at hx120_0)
                                        (try rw [Addr.add_zero'] at hx120_0)
                                        replace p120 := eq_true p120
                                        replace q120 := eq_true q120
                                        have p121 : 0 ≤ (0 : Int) := (by omega)
                                        have q121 : 0 < (x6_1.length : Int) := of_decide_eq_true (by first | (with_reducible assumption) | assumption)
                                        obtain ⟨ad121, e121, hx121_0⟩ := Kd.at_int (Kd.R_reads' HO_6.out).2.2 0 p121 q121
                                        obtain rfl : ad120 = ad121 := (by injection e121)
                                        have qi121 : (0 < x6_1.length) = True := eq_true (by omega)
                                        (try rw [show ((0 : Int)).toNat = 0 from rfl] at hx121_0)
                                        (try rw [Addr.add_zero'] at hx121_0)
                                        replace p121 := eq_true p121
                                        replace q121 := eq_true q121
                                        have p122 : 0 ≤ (1 : Int) := (by omega)
                                        have q122 : 1 < (x6_1.length : Int) := of_decide_eq_true (by first | (with_reducible assumption) | assumption)
                                        obtain ⟨ad122, e122, hx122_0⟩ := Kd.at_int (Kd.R_reads' HO_6.out).2.2 1 p122 q122
                                        obtain rfl : ad120 = ad122 := (by injection e122)
                                        (try simp only [show (1 : Int).toNat = 1 from rfl, Nat.reduceMul, Nat.reduceEqDiff, Go.Addr.add, ↓reduceIte] at hx122_0)
                                        have qi122 : (1 < x6_1.length) = True := eq_true (by omega)
                                        (try rw [show ((1 : Int)).toNat = 1 from rfl] at hx122_0)
                                        replace p122 := eq_true p122
                                        replace q122 := eq_true q122
                                        have p123 : 0 ≤ (1 : Int) := (by omega)
                                        have q123 : 1 < (x6_1.length : Int) := of_decide_eq_true (by first | (with_reducible assumption) | assumption)
                                        obtain ⟨ad123, e123, hx123_0⟩ := Kd.at_int (Kd.R_reads' HO_6.out).2.2 1 p123 q123
                                        obtain rfl : ad120 = ad123 := (by injection e123)
                                        (try simp only [show (1 : Int).toNat = 1 from rfl, Nat.reduceMul, Nat.reduceEqDiff, Go.Addr.add, ↓reduceIte] at hx123_0)
                                        have qi123 : (1 < x6_1.length) = True := eq_true (by omega)
                                        (try rw [show ((1 : Int)).toNat = 1 from rfl] at hx123_0)
                                        replace p123 := eq_true p123
                                        replace q123 := eq_true q123
                                        go_wp2_with (first | (go_at_call 22; (with_reducible refine (tollhouseref06_minor.calls (a0.extract ((ji20) : Int).toNat a0.size) t124 _ (Glob.below HGl.out (by repeat (first | (with_reducible first | exact HB.out | apply below_alloc | apply pw_below_drewN | apply below_drew1) | exact HB.out))) A23.out).mono ?_); rintro e w' ⟨rfl, ⟨nd, rfl⟩⟩; (try first | exact ⟨rfl, _, World.drewN_drewN _ _ _⟩ | exact ⟨rfl, _, Eq.trans (World.drewN_drewN _ _ _) (congrArg (World.drewN _) (Nat.add_assoc _ _ _))⟩)) | (go_at_call 23; (with_reducible refine (tollhouseref02_Token.calls (a0.extract 0 ((rd x6_1 0) : Int).toNat) true _ (Glob.below HGl.out (by repeat (first | (with_reducible first | exact HB.out | apply below_alloc | apply pw_below_drewN | apply below_drew1) | exact HB.out))) A24.out).mono ?_); rintro e w' ⟨rfl, ⟨nd, rfl⟩⟩; (try first | exact ⟨rfl, _, World.drewN_drewN _ _ _⟩ | exact ⟨rfl, _, Eq.trans (World.drewN_drewN _ _ _) (congrArg (World.drewN _) (Nat.add_assoc _ _ _))⟩)) | (go_at_call 24; (with_reducible refine (tollhouseref06_target.calls kj7 (a0.extract ((ji16) : Int).toNat ((rd x6_1 1) : Int).toNat) true _ (Glob.below HGl.out (by repeat (first | (with_reducible first | exact HB.out | apply below_alloc | apply pw_below_drewN | apply below_drew1) | exact HB.out))) A28.out).mono ?_); rintro e w' ⟨rfl, ⟨nd, rfl⟩⟩; (try first | exact ⟨rfl, _, World.drewN_drewN _ _ _⟩ | exact ⟨rfl, _, Eq.trans (World.drewN_drewN _ _ _) (congrArg (World.drewN _) (Nat.add_assoc _ _ _))⟩)))
                                        repeat (go_quiet (first | (go_at_call 22; (with_reducible refine (tollhouseref06_minor.calls (a0.extract ((ji20) : Int).toNat a0.size) t124 _ (Glob.below HGl.out (by repeat (first | (with_reducible first | exact HB.out | apply below_alloc | apply pw_below_drewN | apply below_drew1) | exact HB.out))) A23.out).mono ?_); rintro e w' ⟨rfl, ⟨nd, rfl⟩⟩; (try first | exact ⟨rfl, _, World.drewN_drewN _ _ _⟩ | exact ⟨rfl, _, Eq.trans (World.drewN_drewN _ _ _) (congrArg (World.drewN _) (Nat.add_assoc _ _ _))⟩)) | (go_at_call 23; (with_reducible refine (tollhouseref02_Token.calls (a0.extract 0 ((rd x6_1 0) : Int).toNat) true _ (Glob.below HGl.out (by repeat (first | (with_reducible first | exact HB.out | apply below_alloc | apply pw_below_drewN | apply below_drew1) | exact HB.out))) A24.out).mono ?_); rintro e w' ⟨rfl, ⟨nd, rfl⟩⟩; (try first | exact ⟨rfl, _, World.drewN_drewN _ _ _⟩ | exact ⟨rfl, _, Eq.trans (World.drewN_drewN _ _ _) (congrArg (World.drewN _) (Nat.add_assoc _ _ _))⟩)) | (go_at_call 24; (with_reducible refine (tollhouseref06_target.calls kj7 (a0.extract ((ji16) : Int).toNat ((rd x6_1 1) : Int).toNat) true _ (Glob.below HGl.out (by repeat (first | (with_reducible first | exact HB.out | apply below_alloc | apply pw_below_drewN | apply below_drew1) | exact HB.out))) A28.out).mono ?_); rintro e w' ⟨rfl, ⟨nd, rfl⟩⟩; (try first | exact ⟨rfl, _, World.drewN_drewN _ _ _⟩ | exact ⟨rfl, _, Eq.trans (World.drewN_drewN _ _ _) (congrArg (World.drewN _) (Nat.add_assoc _ _ _))⟩))); try go_wp2_with (first | (go_at_call 22; (with_reducible refine (tollhouseref06_minor.calls (a0.extract ((ji20) : Int).toNat a0.size) t124 _ (Glob.below HGl.out (by repeat (first | (with_reducible first | exact HB.out | apply below_alloc | apply pw_below_drewN | apply below_drew1) | exact HB.out))) A23.out).mono ?_); rintro e w' ⟨rfl, ⟨nd, rfl⟩⟩; (try first | exact ⟨rfl, _, World.drewN_drewN _ _ _⟩ | exact ⟨rfl, _, Eq.trans (World.drewN_drewN _ _ _) (congrArg (World.drewN _) (Nat.add_assoc _ _ _))⟩)) | (go_at_call 23; (with_reducible refine (tollhouseref02_Token.calls (a0.extract 0 ((rd x6_1 0) : Int).toNat) true _ (Glob.below HGl.out (by repeat (first | (with_reducible first | exact HB.out | apply below_alloc | apply pw_below_drewN | apply below_drew1) | exact HB.out))) A24.out).mono ?_); rintro e w' ⟨rfl, ⟨nd, rfl⟩⟩; (try first | exact ⟨rfl, _, World.drewN_drewN _ _ _⟩ | exact ⟨rfl, _, Eq.trans (World.drewN_drewN _ _ _) (congrArg (World.drewN _) (Nat.add_assoc _ _ _))⟩)) | (go_at_call 24; (with_reducible refine (tollhouseref06_target.calls kj7 (a0.extract ((ji16) : Int).toNat ((rd x6_1 1) : Int).toNat) true _ (Glob.below HGl.out (by repeat (first | (with_reducible first | exact HB.out | apply below_alloc | apply pw_below_drewN | apply below_drew1) | exact HB.out))) A28.out).mono ?_); rintro e w' ⟨rfl, ⟨nd, rfl⟩⟩; (try first | exact ⟨rfl, _, World.drewN_drewN _ _ _⟩ | exact ⟨rfl, _, Eq.trans (World.drewN_drewN _ _ _) (congrArg (World.drewN _) (Nat.add_assoc _ _ _))⟩))))
                                        refine bodyPost_ret (results_list (rs := [.tmp 2, .tmp 3, .tmp 4, .tmp 5]) rfl (by simp) (.tmp (.tmp (.tmp (.tmp .nil))))) rfl ?_
                                        exact ⟨by first | rfl | (simp [errW_none, errW_some] <;> rfl) | (simp only [← hji16, ← hji20]; first | rfl | (simp [errW_none, errW_some] <;> rfl)) | (simp [*, errW_none, errW_some] <;> rfl), by repeat (first | (with_reducible first | exact HB.out | apply below_alloc | apply pw_below_drewN | apply below_drew1) | exact HB.out)⟩
                                    · replace c29 := Bool.eq_false_iff.mpr c29
                                      subst c29
                                      have H1 : (some ((⟨#[]⟩ : ByteArray), (⟨#[]⟩ : ByteArray), 0, 5)) = some (r1, r2, r3, r4) := by rw [if_neg (show ¬ (false = true) by decide)] at H; exact H
                                      clear H
                                      have H := H1
                                      clear H1
                                      simp only [Option.some.injEq, Prod.mk.injEq] at H
                                      obtain ⟨rfl, rfl, rfl, rfl⟩ := H
                                      obtain ⟨Ao33, co33, eo33⟩ := Kd.R_slice HO_6.out
                                      subst eo33
                                      have p120 : 0 ≤ (0 : Int) := (by omega)
                                      have q120 : 0 < (x6_1.length : Int) := of_decide_eq_true (by first | (with_reducible assumption) | assumption)
                                      obtain ⟨ad120, e120, hx120_0⟩ := Kd.at_int (Kd.R_reads' HO_6.out).2.2 0 p120 q120
                                      cases e120
                                      have qi120 : (0 < x6_1.length) = True := eq_true (by omega)
                                      (try rw [show ((0 : Int)).toNat = 0 from rfl] at hx120_0)
                                      (try rw [Addr.add_zero'] at hx120_0)
                                      replace p120 := eq_true p120
                                      replace q120 := eq_true q120
                                      have p121 : 0 ≤ (0 : Int) := (by omega)
                                      have q121 : 0 < (x6_1.length : Int) := of_decide_eq_true (by first | (with_reducible assumption) | assumption)
                                      obtain ⟨ad121, e121, hx121_0⟩ := Kd.at_int (Kd.R_reads' HO_6.out).2.2 0 p121 q121
                                      obtain rfl : ad120 = ad121 := (by injection e121)
                                      have qi121 : (0 < x6_1.length) = True := eq_true (by omega)
                                      (try rw [show ((0 : Int)).toNat = 0 from rfl] at hx121_0)
                                      (try rw [Addr.add_zero'] at hx121_0)
                                      replace p121 := eq_true p121
                                      replace q121 := eq_true q121
                                      have p122 : 0 ≤ (1 : Int) := (by omega)
                                      have q122 : 1 < (x6_1.length : Int) := of_decide_eq_true (by first | (with_reducible assumption) | assumption)
                                      obtain ⟨ad122, e122, hx122_0⟩ := Kd.at_int (Kd.R_reads' HO_6.out).2.2 1 p122 q122
                                      obtain rfl : ad120 = ad122 := (by injection e122)
                                      (try simp only [show (1 : Int).toNat = 1 from rfl, Nat.reduceMul, Nat.reduceEqDiff, Go.Addr.add, ↓reduceIte] at hx122_0)
                                      have qi122 : (1 < x6_1.length) = True := eq_true (by omega)
                                      (try rw [show ((1 : Int)).toNat = 1 from rfl] at hx122_0)
                                      replace p122 := eq_true p122
                                      replace q122 := eq_true q122
                                      have p123 : 0 ≤ (1 : Int) := (by omega)
                                      have q123 : 1 < (x6_1.length : Int) := of_decide_eq_true (by first | (with_reducible assumption) | assumption)
                                      obtain ⟨ad123, e123, hx123_0⟩ := Kd.at_int (Kd.R_reads' HO_6.out).2.2 1 p123 q123
                                      obtain rfl : ad120 = ad123 := (by injection e123)
                                      (try simp only [show (1 : Int).toNat = 1 from rfl, Nat.reduceMul, Nat.reduceEqDiff, Go.Addr.add, ↓reduceIte] at hx123_0)
                                      have qi123 : (1 < x6_1.length) = True := eq_true (by omega)
                                      (try rw [show ((1 : Int)).toNat = 1 from rfl] at hx123_0)
                                      replace p123 := eq_true p123
                                      replace q123 := eq_true q123
                                      go_wp2_with (first | (go_at_call 22; (with_reducible refine (tollhouseref06_minor.calls (a0.extract ((ji20) : Int).toNat a0.size) t124 _ (Glob.below HGl.out (by repeat (first | (with_reducible first | exact HB.out | apply below_alloc | apply pw_below_drewN | apply below_drew1) | exact HB.out))) A23.out).mono ?_); rintro e w' ⟨rfl, ⟨nd, rfl⟩⟩; (try first | exact ⟨rfl, _, World.drewN_drewN _ _ _⟩ | exact ⟨rfl, _, Eq.trans (World.drewN_drewN _ _ _) (congrArg (World.drewN _) (Nat.add_assoc _ _ _))⟩)) | (go_at_call 23; (with_reducible refine (tollhouseref02_Token.calls (a0.extract 0 ((rd x6_1 0) : Int).toNat) true _ (Glob.below HGl.out (by repeat (first | (with_reducible first | exact HB.out | apply below_alloc | apply pw_below_drewN | apply below_drew1) | exact HB.out))) A24.out).mono ?_); rintro e w' ⟨rfl, ⟨nd, rfl⟩⟩; (try first | exact ⟨rfl, _, World.drewN_drewN _ _ _⟩ | exact ⟨rfl, _, Eq.trans (World.drewN_drewN _ _ _) (congrArg (World.drewN _) (Nat.add_assoc _ _ _))⟩)) | (go_at_call 24; (with_reducible refine (tollhouseref06_target.calls kj7 (a0.extract ((ji16) : Int).toNat ((rd x6_1 1) : Int).toNat) false _ (Glob.below HGl.out (by repeat (first | (with_reducible first | exact HB.out | apply below_alloc | apply pw_below_drewN | apply below_drew1) | exact HB.out))) A28.out).mono ?_); rintro e w' ⟨rfl, ⟨nd, rfl⟩⟩; (try first | exact ⟨rfl, _, World.drewN_drewN _ _ _⟩ | exact ⟨rfl, _, Eq.trans (World.drewN_drewN _ _ _) (congrArg (World.drewN _) (Nat.add_assoc _ _ _))⟩)))
                                      repeat (go_quiet (first | (go_at_call 22; (with_reducible refine (tollhouseref06_minor.calls (a0.extract ((ji20) : Int).toNat a0.size) t124 _ (Glob.below HGl.out (by repeat (first | (with_reducible first | exact HB.out | apply below_alloc | apply pw_below_drewN | apply below_drew1) | exact HB.out))) A23.out).mono ?_); rintro e w' ⟨rfl, ⟨nd, rfl⟩⟩; (try first | exact ⟨rfl, _, World.drewN_drewN _ _ _⟩ | exact ⟨rfl, _, Eq.trans (World.drewN_drewN _ _ _) (congrArg (World.drewN _) (Nat.add_assoc _ _ _))⟩)) | (go_at_call 23; (with_reducible refine (tollhouseref02_Token.calls (a0.extract 0 ((rd x6_1 0) : Int).toNat) true _ (Glob.below HGl.out (by repeat (first | (with_reducible first | exact HB.out | apply below_alloc | apply pw_below_drewN | apply below_drew1) | exact HB.out))) A24.out).mono ?_); rintro e w' ⟨rfl, ⟨nd, rfl⟩⟩; (try first | exact ⟨rfl, _, World.drewN_drewN _ _ _⟩ | exact ⟨rfl, _, Eq.trans (World.drewN_drewN _ _ _) (congrArg (World.drewN _) (Nat.add_assoc _ _ _))⟩)) | (go_at_call 24; (with_reducible refine (tollhouseref06_target.calls kj7 (a0.extract ((ji16) : Int).toNat ((rd x6_1 1) : Int).toNat) false _ (Glob.below HGl.out (by repeat (first | (with_reducible first | exact HB.out | apply below_alloc | apply pw_below_drewN | apply below_drew1) | exact HB.out))) A28.out).mono ?_); rintro e w' ⟨rfl, ⟨nd, rfl⟩⟩; (try first | exact ⟨rfl, _, World.drewN_drewN _ _ _⟩ | exact ⟨rfl, _, Eq.trans (World.drewN_drewN _ _ _) (congrArg (World.drewN _) (Nat.add_assoc _ _ _))⟩))); try go_wp2_with (first | (go_at_call 22; (with_reducible refine (tollhouseref06_minor.calls (a0.extract ((ji20) : Int).toNat a0.size) t124 _ (Glob.below HGl.out (by repeat (first | (with_reducible first | exact HB.out | apply below_alloc | apply pw_below_drewN | apply below_drew1) | exact HB.out))) A23.out).mono ?_); rintro e w' ⟨rfl, ⟨nd, rfl⟩⟩; (try first | exact ⟨rfl, _, World.drewN_drewN _ _ _⟩ | exact ⟨rfl, _, Eq.trans (World.drewN_drewN _ _ _) (congrArg (World.drewN _) (Nat.add_assoc _ _ _))⟩)) | (go_at_call 23; (with_reducible refine (tollhouseref02_Token.calls (a0.extract 0 ((rd x6_1 0) : Int).toNat) true _ (Glob.below HGl.out (by repeat (first | (with_reducible first | exact HB.out | apply below_alloc | apply pw_below_drewN | apply below_drew1) | exact HB.out))) A24.out).mono ?_); rintro e w' ⟨rfl, ⟨nd, rfl⟩⟩; (try first | exact ⟨rfl, _, World.drewN_drewN _ _ _⟩ | exact ⟨rfl, _, Eq.trans (World.drewN_drewN _ _ _) (congrArg (World.drewN _) (Nat.add_assoc _ _ _))⟩)) | (go_at_call 24; (with_reducible refine (tollhouseref06_target.calls kj7 (a0.extract ((ji16) : Int).toNat ((rd x6_1 1) : Int).toNat) false _ (Glob.below HGl.out (by repeat (first | (with_reducible first | exact HB.out | apply below_alloc | apply pw_below_drewN | apply below_drew1) | exact HB.out))) A28.out).mono ?_); rintro e w' ⟨rfl, ⟨nd, rfl⟩⟩; (try first | exact ⟨rfl, _, World.drewN_drewN _ _ _⟩ | exact ⟨rfl, _, Eq.trans (World.drewN_drewN _ _ _) (congrArg (World.drewN _) (Nat.add_assoc _ _ _))⟩))))
                                      refine bodyPost_ret (results_list (rs := [.tmp 2, .tmp 3, .tmp 4, .tmp 5]) rfl (by simp) (.tmp (.tmp (.tmp (.tmp .nil))))) rfl ?_
                                      exact ⟨by first | rfl | (simp [errW_none, errW_some] <;> rfl) | (simp only [← hji16, ← hji20]; first | rfl | (simp [errW_none, errW_some] <;> rfl)) | (simp [*, errW_none, errW_some] <;> rfl), by repeat (first | (with_reducible first | exact HB.out | apply below_alloc | apply pw_below_drewN | apply below_drew1) | exact HB.out)⟩
                                · replace c25 := Bool.eq_false_iff.mpr c25
                                  subst c25
                                  have H1 : (some ((⟨#[]⟩ : ByteArray), (⟨#[]⟩ : ByteArray), 0, 5)) = some (r1, r2, r3, r4) := by rw [if_neg (show ¬ (false = true) by decide)] at H; exact H
                                  clear H
                                  have H := H1
                                  clear H1
                                  simp only [Option.some.injEq, Prod.mk.injEq] at H
                                  obtain ⟨rfl, rfl, rfl, rfl⟩ := H
                                  obtain ⟨Ao34, co34, eo34⟩ := Kd.R_slice HO_6.out
                                  subst eo34
                                  have p120 : 0 ≤ (0 : Int) := (by omega)
                                  have q120 : 0 < (x6_1.length : Int) := of_decide_eq_true (by first | (with_reducible assumption) | assumption)
                                  obtain ⟨ad120, e120, hx120_0⟩ := Kd.at_int (Kd.R_reads' HO_6.out).2.2 0 p120 q120
                                  cases e120
                                  have qi120 : (0 < x6_1.length) = True := eq_true (by omega)
                                  (try rw [show ((0 : Int)).toNat = 0 from rfl] at hx120_0)
                                  (try rw [Addr.add_zero'] at hx120_0)
                                  replace p120 := eq_true p120
                                  replace q120 := eq_true q120
                                  have p121 : 0 ≤ (0 : Int) := (by omega)
                                  have q121 : 0 < (x6_1.length : Int) := of_decide_eq_true (by first | (with_reducible assumption) | assumption)
                                  obtain ⟨ad121, e121, hx121_0⟩ := Kd.at_int (Kd.R_reads' HO_6.out).2.2 0 p121 q121
                                  obtain rfl : ad120 = ad121 := (by injection e121)
                                  have qi121 : (0 < x6_1.length) = True := eq_true (by omega)
                                  (try rw [show ((0 : Int)).toNat = 0 from rfl] at hx121_0)
                                  (try rw [Addr.add_zero'] at hx121_0)
                                  replace p121 := eq_true p121
                                  replace q121 := eq_true q121
                                  have p122 : 0 ≤ (1 : Int) := (by omega)
                                  have q122 : 1 < (x6_1.length : Int) := of_decide_eq_true (by first | (with_reducible assumption) | assumption)
                                  obtain ⟨ad122, e122, hx122_0⟩ := Kd.at_int (Kd.R_reads' HO_6.out).2.2 1 p122 q122
                                  obtain rfl : ad120 = ad122 := (by injection e122)
                                  (try simp only [show (1 : Int).toNat = 1 from rfl, Nat.reduceMul, Nat.reduceEqDiff, Go.Addr.add, ↓reduceIte] at hx122_0)
                                  have qi122 : (1 < x6_1.length) = True := eq_true (by omega)
                                  (try rw [show ((1 : Int)).toNat = 1 from rfl] at hx122_0)
                                  replace p122 := eq_true p122
                                  replace q122 := eq_true q122
                                  have p123 : 0 ≤ (1 : Int) := (by omega)
                                  have q123 : 1 < (x6_1.length : Int) := of_decide_eq_true (by first | (with_reducible assumption) | assumption)
                                  obtain ⟨ad123, e123, hx123_0⟩ := Kd.at_int (Kd.R_reads' HO_6.out).2.2 1 p123 q123
                                  obtain rfl : ad120 = ad123 := (by injection e123)
                                  (try simp only [show (1 : Int).toNat = 1 from rfl, Nat.reduceMul, Nat.reduceEqDiff, Go.Addr.add, ↓reduceIte] at hx123_0)
                                  have qi123 : (1 < x6_1.length) = True := eq_true (by omega)
                                  (try rw [show ((1 : Int)).toNat = 1 from rfl] at hx123_0)
                                  replace p123 := eq_true p123
                                  replace q123 := eq_true q123
                                  go_wp2_with (first | (go_at_call 22; (with_reducible refine (tollhouseref06_minor.calls (a0.extract ((ji20) : Int).toNat a0.size) t124 _ (Glob.below HGl.out (by repeat (first | (with_reducible first | exact HB.out | apply below_alloc | apply pw_below_drewN | apply below_drew1) | exact HB.out))) A23.out).mono ?_); rintro e w' ⟨rfl, ⟨nd, rfl⟩⟩; (try first | exact ⟨rfl, _, World.drewN_drewN _ _ _⟩ | exact ⟨rfl, _, Eq.trans (World.drewN_drewN _ _ _) (congrArg (World.drewN _) (Nat.add_assoc _ _ _))⟩)) | (go_at_call 23; (with_reducible refine (tollhouseref02_Token.calls (a0.extract 0 ((rd x6_1 0) : Int).toNat) false _ (Glob.below HGl.out (by repeat (first | (with_reducible first | exact HB.out | apply below_alloc | apply pw_below_drewN | apply below_drew1) | exact HB.out))) A24.out).mono ?_); rintro e w' ⟨rfl, ⟨nd, rfl⟩⟩; (try first | exact ⟨rfl, _, World.drewN_drewN _ _ _⟩ | exact ⟨rfl, _, Eq.trans (World.drewN_drewN _ _ _) (congrArg (World.drewN _) (Nat.add_assoc _ _ _))⟩)))
                                  repeat (go_quiet (first | (go_at_call 22; (with_reducible refine (tollhouseref06_minor.calls (a0.extract ((ji20) : Int).toNat a0.size) t124 _ (Glob.below HGl.out (by repeat (first | (with_reducible first | exact HB.out | apply below_alloc | apply pw_below_drewN | apply below_drew1) | exact HB.out))) A23.out).mono ?_); rintro e w' ⟨rfl, ⟨nd, rfl⟩⟩; (try first | exact ⟨rfl, _, World.drewN_drewN _ _ _⟩ | exact ⟨rfl, _, Eq.trans (World.drewN_drewN _ _ _) (congrArg (World.drewN _) (Nat.add_assoc _ _ _))⟩)) | (go_at_call 23; (with_reducible refine (tollhouseref02_Token.calls (a0.extract 0 ((rd x6_1 0) : Int).toNat) false _ (Glob.below HGl.out (by repeat (first | (with_reducible first | exact HB.out | apply below_alloc | apply pw_below_drewN | apply below_drew1) | exact HB.out))) A24.out).mono ?_); rintro e w' ⟨rfl, ⟨nd, rfl⟩⟩; (try first | exact ⟨rfl, _, World.drewN_drewN _ _ _⟩ | exact ⟨rfl, _, Eq.trans (World.drewN_drewN _ _ _) (congrArg (World.drewN _) (Nat.add_assoc _ _ _))⟩))); try go_wp2_with (first | (go_at_call 22; (with_reducible refine (tollhouseref06_minor.calls (a0.extract ((ji20) : Int).toNat a0.size) t124 _ (Glob.below HGl.out (by repeat (first | (with_reducible first | exact HB.out | apply below_alloc | apply pw_below_drewN | apply below_drew1) | exact HB.out))) A23.out).mono ?_); rintro e w' ⟨rfl, ⟨nd, rfl⟩⟩; (try first | exact ⟨rfl, _, World.drewN_drewN _ _ _⟩ | exact ⟨rfl, _, Eq.trans (World.drewN_drewN _ _ _) (congrArg (World.drewN _) (Nat.add_assoc _ _ _))⟩)) | (go_at_call 23; (with_reducible refine (tollhouseref02_Token.calls (a0.extract 0 ((rd x6_1 0) : Int).toNat) false _ (Glob.below HGl.out (by repeat (first | (with_reducible first | exact HB.out | apply below_alloc | apply pw_below_drewN | apply below_drew1) | exact HB.out))) A24.out).mono ?_); rintro e w' ⟨rfl, ⟨nd, rfl⟩⟩; (try first | exact ⟨rfl, _, World.drewN_drewN _ _ _⟩ | exact ⟨rfl, _, Eq.trans (World.drewN_drewN _ _ _) (congrArg (World.drewN _) (Nat.add_assoc _ _ _))⟩))))
                                  refine bodyPost_ret (results_list (rs := [.tmp 2, .tmp 3, .tmp 4, .tmp 5]) rfl (by simp) (.tmp (.tmp (.tmp (.tmp .nil))))) rfl ?_
                                  exact ⟨by first | rfl | (simp [errW_none, errW_some] <;> rfl) | (simp only [← hji16, ← hji20]; first | rfl | (simp [errW_none, errW_some] <;> rfl)) | (simp [*, errW_none, errW_some] <;> rfl), by repeat (first | (with_reducible first | exact HB.out | apply below_alloc | apply pw_below_drewN | apply below_drew1) | exact HB.out)⟩
                              · rw [if_neg c22] at H
                                exact absurd H (by simp)
                            · rw [if_neg c21] at H
                              exact absurd H (by simp)
                          · rw [if_neg c19] at H
                            exact absurd H (by simp)
                        · rw [if_neg c18] at H
                          exact absurd H (by simp)
                      · rw [if_neg c17] at H
                        exact absurd H (by simp)
                    · rw [if_neg c15] at H
                      exact absurd H (by simp)
                  · rw [if_neg c14] at H
                    exact absurd H (by simp)
                · rw [if_neg c13] at H
                  exact absurd H (by simp)
              · rw [if_neg c12] at H
                exact absurd H (by simp)

end Go.Proofs.YtpoljchfgdnmbaaDoor.X

-- PRINTED by print.py (a twelfth state) out of the translation. Not trusted: Lean checks it.
namespace Go.Proofs.YtpoljchfgdnmbaaDoor.X
open Go.RowKit Go.Proofs.YtpoljchfgdnmbaaDoorW.PrintWords Go.Proofs.YtpoljchfgdnmbaaDoorW.PrintLast Go.Proofs.YtpoljchfgdnmbaaDoorW.PrintMore
attribute [local go_sem] max2_int min2_int max_two min_two max_three min_three max_four min_four   -- for this text's walks alone
set_option linter.unusedVariables false
set_option linter.unusedSimpArgs false
open Go.Proofs.YtpoljchfgdnmbaaDoor.T

/-! ### tollhouseref06_PutRequest: function 10 -/
def tollhouseref06_PutRequest.j0 : Nat → ByteArray → ByteArray → Int → Bool → Option (ByteArray × Int)
  | 0, _, _, _, _ => none
  | k + 1, x0, x1, x2, x18 => if x18 = true then (some ((⟨#[]⟩ : ByteArray), 1)) else (if x0.size + 1 ≤ 9223372036854775807 then (if (x0 ++ (⟨#[32]⟩ : ByteArray)).size + x1.size ≤ 9223372036854775807 then (if ((x0 ++ (⟨#[32]⟩ : ByteArray)) ++ x1).size + 8 ≤ 9223372036854775807 then ((some (([(wrap64 (48 + x2)) % 256] : List Int) : List Int)).bind fun y127 => (if (((x0 ++ (⟨#[32]⟩ : ByteArray)) ++ x1) ++ (⟨#[32, 72, 84, 84, 80, 47, 49, 46]⟩ : ByteArray)).size + (strOfNums y127).size ≤ 9223372036854775807 then ((tollhouseref06_Request.f k ((((x0 ++ (⟨#[32]⟩ : ByteArray)) ++ x1) ++ (⟨#[32, 72, 84, 84, 80, 47, 49, 46]⟩ : ByteArray)) ++ (strOfNums y127))).bind fun bt130 => (if bt130.2.2.2 = 0 then (if bt130.1.toList = x0.toList then (if bt130.2.1.toList = x1.toList then (if bt130.2.2.1 = x2 then (some ((((x0 ++ (⟨#[32]⟩ : ByteArray)) ++ x1) ++ (⟨#[32, 72, 84, 84, 80, 47, 49, 46]⟩ : ByteArray)) ++ (strOfNums y127), 0)) else (some ((⟨#[]⟩ : ByteArray), 1))) else (some ((⟨#[]⟩ : ByteArray), 1))) else (some ((⟨#[]⟩ : ByteArray), 1))) else (some ((⟨#[]⟩ : ByteArray), 1)))) else (none))) else (none)) else (none)) else (none))
def tollhouseref06_PutRequest.f (k : Nat) (a0 : ByteArray) (a1 : ByteArray) (a2 : Int) : Option (ByteArray × Int) := if a2 = 0 then (tollhouseref06_PutRequest.j0 k a0 a1 a2 false) else (tollhouseref06_PutRequest.j0 k a0 a1 a2 (a2 != 1))
theorem tollhouseref06_PutRequest.mono_l : ∀ k, (∀ y0 y1 y2 y3, LeO (tollhouseref06_PutRequest.j0 k y0 y1 y2 y3) (tollhouseref06_PutRequest.j0 (k + 1) y0 y1 y2 y3))
  | 0 => fun _ _ _ _ r h => by simp [tollhouseref06_PutRequest.j0] at h
  | k + 1 => by
    have ih0 := tollhouseref06_PutRequest.mono_l k
    · intro y0 y1 y2 y3
      unfold tollhouseref06_PutRequest.j0
      repeat' first
      | (with_reducible exact ih0 _ _ _ _)
      | (with_reducible exact tollhouseref06_Request.mono _ _)
      | (with_reducible exact LeO.refl _)
      | (with_reducible exact LeO.none _)
      | (with_reducible refine LeO.ite ?_ ?_)
      | (with_reducible refine LeO.bind ?_ (fun _ => ?_))
      | exact ih0 _ _ _ _
      | exact tollhouseref06_Request.mono _ _
      | exact LeO.none _
      | refine LeO.ite ?_ ?_
      | refine LeO.bind ?_ (fun _ => ?_)
theorem tollhouseref06_PutRequest.mono : ∀ a0 a1 a2 k, LeO (tollhouseref06_PutRequest.f k a0 a1 a2) (tollhouseref06_PutRequest.f (k + 1) a0 a1 a2) := by
  intro a0 a1 a2 k
  have ih0 := tollhouseref06_PutRequest.mono_l k
  unfold tollhouseref06_PutRequest.f
  repeat' first
      | (with_reducible exact ih0 _ _ _ _)
      | (with_reducible exact tollhouseref06_Request.mono _ _)
      | (with_reducible exact LeO.refl _)
      | (with_reducible exact LeO.none _)
      | (with_reducible refine LeO.ite ?_ ?_)
      | (with_reducible refine LeO.bind ?_ (fun _ => ?_))
      | exact ih0 _ _ _ _
      | exact tollhouseref06_Request.mono _ _
      | exact LeO.none _
      | refine LeO.ite ?_ ?_
      | refine LeO.bind ?_ (fun _ => ?_)
set_option maxHeartbeats 8000000 in
set_option maxRecDepth 100000 in
theorem tollhouseref06_PutRequest.calls (k : Nat) (a0 : ByteArray) (a1 : ByteArray) (a2 : Int) (r1 : ByteArray) (r2 : Int) (w : World) (HGg : Glob w) (h : tollhouseref06_PutRequest.f k a0 a1 a2 = some (r1, r2)) :
    Calls Tryd.prog 10 #[.string a0, .string a1, .int .i64 a2] w fun e w' => e = .returned (.tuple #[.string r1, .int .i64 r2]) ∧ Below w.heap.size w w' := by
  have HGl := Aside0.mk HGg
  clear HGg
  have HB := Aside0.mk (Below.refl w.heap.size w)
  have H : (if a2 = 0 then (tollhouseref06_PutRequest.j0 k a0 a1 a2 false) else (tollhouseref06_PutRequest.j0 k a0 a1 a2 (a2 != 1))) = some (r1, r2) := h
  clear h
  have HC4 := Aside0.mk H
  clear H
  go_enter Tryd.func10, Tryd.ntmps10
  go_upto_region 1 with (fail)
  go_cut [18] (fun v18 wc => ∃ (kq : Nat) (x18_3 : Bool), v18 = .bool x18_3 ∧ Aside0 (tollhouseref06_PutRequest.j0 kq a0 a1 a2 x18_3 = some (r1, r2)) ∧ Aside0 (kq ≤ k) ∧ Aside0 (Below w.heap.size w wc))
  case first =>
    have H := HC4.out
    clear HC4
    by_cases c5 : a2 = 0
    · rw [if_pos c5] at H
      have c5b0 : (a2 == 0) = true := beq_iff_eq.mpr c5
      have c5b1 : (a2 != 0) = false := bne_eq_false_iff_eq.mpr c5
      clear c5
      (first | rw [c5b0] | (simp only [i64_w, i32_w]; rw [c5b0]) | skip)
      have H' := Aside0.mk H
      clear H
      go_wp2
      go_meet
      case rel => exact ⟨_, (false), (by first | rfl | (simp; done) | (simp [*]; done)), H', ⟨by first | omega | exact Nat.le_refl _⟩, ⟨by repeat (first | (with_reducible first | exact HB.out | apply below_alloc | apply pw_below_drewN | apply below_drew1) | exact HB.out)⟩⟩
    · rw [if_neg c5] at H
      have c5b0 : (a2 == 0) = false := beq_eq_false_iff_ne.mpr c5
      have c5b1 : (a2 != 0) = true := bne_iff_ne.mpr c5
      (first | rw [c5b0] | (simp only [i64_w, i32_w]; rw [c5b0]) | skip)
      have H' := Aside0.mk H
      clear H
      go_wp2
      go_meet
      case rel => exact ⟨_, ((a2 != 1)), (by first | rfl | (simp; done) | (simp [*]; done)), H', ⟨by first | omega | exact Nat.le_refl _⟩, ⟨by repeat (first | (with_reducible first | exact HB.out | apply below_alloc | apply pw_below_drewN | apply below_drew1) | exact HB.out)⟩⟩
  case rest =>
    clear HC4
    try clear c1
    try clear p2
    try clear c5
    try clear c5b0
    try clear c5b1
    obtain ⟨kq, x18_3, rfl, HA, HJ3, HB⟩ := hcut
    cases kq with
    | zero => exact absurd HA.out (by simp [tollhouseref06_PutRequest.j0])
    | succ kj3 =>
      have H := HA.out
      clear HA
      simp only [tollhouseref06_PutRequest.j0] at H
      by_cases c6 : x18_3 = true
      · subst c6
        have H1 : (some ((⟨#[]⟩ : ByteArray), 1)) = some (r1, r2) := by rw [if_pos rfl] at H; exact H
        clear H
        have H := H1
        clear H1
        simp only [Option.some.injEq, Prod.mk.injEq] at H
        obtain ⟨rfl, rfl⟩ := H
        go_wp2
        go_ret2
        exact ⟨by first | rfl | (simp [errW_none, errW_some] <;> rfl) | (simp [*, errW_none, errW_some] <;> rfl), by repeat (first | (with_reducible first | exact HB.out | apply below_alloc | apply pw_below_drewN | apply below_drew1) | exact HB.out)⟩
      · replace c6 := Bool.eq_false_iff.mpr c6
        subst c6
        have H1 : (if a0.size + 1 ≤ 9223372036854775807 then (if (a0 ++ (⟨#[32]⟩ : ByteArray)).size + a1.size ≤ 9223372036854775807 then (if ((a0 ++ (⟨#[32]⟩ : ByteArray)) ++ a1).size + 8 ≤ 9223372036854775807 then ((some (([(wrap64 (48 + a2)) % 256] : List Int) : List Int)).bind fun y127 => (if (((a0 ++ (⟨#[32]⟩ : ByteArray)) ++ a1) ++ (⟨#[32, 72, 84, 84, 80, 47, 49, 46]⟩ : ByteArray)).size + (strOfNums y127).size ≤ 9223372036854775807 then ((tollhouseref06_Request.f kj3 ((((a0 ++ (⟨#[32]⟩ : ByteArray)) ++ a1) ++ (⟨#[32, 72, 84, 84, 80, 47, 49, 46]⟩ : ByteArray)) ++ (strOfNums y127))).bind fun bt130 => (if bt130.2.2.2 = 0 then (if bt130.1.toList = a0.toList then (if bt130.2.1.toList = a1.toList then (if bt130.2.2.1 = a2 then (some ((((a0 ++ (⟨#[32]⟩ : ByteArray)) ++ a1) ++ (⟨#[32, 72, 84, 84, 80, 47, 49, 46]⟩ : ByteArray)) ++ (strOfNums y127), 0)) else (some ((⟨#[]⟩ : ByteArray), 1))) else (some ((⟨#[]⟩ : ByteArray), 1))) else (some ((⟨#[]⟩ : ByteArray), 1))) else (some ((⟨#[]⟩ : ByteArray), 1)))) else (none))) else (none)) else (none)) else (none)) = some (r1, r2) := by rw [if_neg (show ¬ (false = true) by decide)] at H; exact H
        clear H
        have H := H1
        clear H1
        by_cases c7 : a0.size + 1 ≤ 9223372036854775807
        · rw [if_pos c7] at H
          have c7b0 := eq_true c7
          have c7b1 : decide (a0.size + 1 ≤ 9223372036854775807) = true := decide_eq_true c7
          try have c7b2 : (9223372036854775807 < a0.size + 1) = False := eq_false (Nat.not_lt.2 c7)
          by_cases c8 : (a0 ++ (⟨#[32]⟩ : ByteArray)).size + a1.size ≤ 9223372036854775807
          · rw [if_pos c8] at H
            have c8b0 := eq_true c8
            have c8b1 : decide ((a0 ++ (⟨#[32]⟩ : ByteArray)).size + a1.size ≤ 9223372036854775807) = true := decide_eq_true c8
            try have c8b3 : (9223372036854775807 < a0.size + 1 + a1.size) = False := eq_false (Nat.not_lt.2 (by have hq_ := c8; simp only [ByteArray.size_append] at hq_; first | exact hq_ | (simp at hq_; omega)))
            try have c8b2 : (9223372036854775807 < (a0 ++ (⟨#[32]⟩ : ByteArray)).size + a1.size) = False := eq_false (Nat.not_lt.2 c8)
            by_cases c9 : ((a0 ++ (⟨#[32]⟩ : ByteArray)) ++ a1).size + 8 ≤ 9223372036854775807
            · rw [if_pos c9] at H
              have c9b0 := eq_true c9
              have c9b1 : decide (((a0 ++ (⟨#[32]⟩ : ByteArray)) ++ a1).size + 8 ≤ 9223372036854775807) = true := decide_eq_true c9
              try have c9b3 : (9223372036854775807 < a0.size + 1 + a1.size + 8) = False := eq_false (Nat.not_lt.2 (by have hq_ := c9; simp only [ByteArray.size_append] at hq_; first | exact hq_ | (simp at hq_; omega)))
              try have c9b2 : (9223372036854775807 < ((a0 ++ (⟨#[32]⟩ : ByteArray)) ++ a1).size + 8) = False := eq_false (Nat.not_lt.2 c9)
              obtain ⟨y127, hy127⟩ : ∃ y_ : List Int, y_ = (([(wrap64 (48 + a2)) % 256] : List Int)) := ⟨_, rfl⟩
              replace H : (if (((a0 ++ (⟨#[32]⟩ : ByteArray)) ++ a1) ++ (⟨#[32, 72, 84, 84, 80, 47, 49, 46]⟩ : ByteArray)).size + (strOfNums y127).size ≤ 9223372036854775807 then ((tollhouseref06_Request.f kj3 ((((a0 ++ (⟨#[32]⟩ : ByteArray)) ++ a1) ++ (⟨#[32, 72, 84, 84, 80, 47, 49, 46]⟩ : ByteArray)) ++ (strOfNums y127))).bind fun bt130 => (if bt130.2.2.2 = 0 then (if bt130.1.toList = a0.toList then (if bt130.2.1.toList = a1.toList then (if bt130.2.2.1 = a2 then (some ((((a0 ++ (⟨#[32]⟩ : ByteArray)) ++ a1) ++ (⟨#[32, 72, 84, 84, 80, 47, 49, 46]⟩ : ByteArray)) ++ (strOfNums y127), 0)) else (some ((⟨#[]⟩ : ByteArray), 1))) else (some ((⟨#[]⟩ : ByteArray), 1))) else (some ((⟨#[]⟩ : ByteArray), 1))) else (some ((⟨#[]⟩ : ByteArray), 1)))) else (none)) = some (r1, r2) := by first | (rw [hy127]; with_reducible exact H) | (have H2_ := (Option.bind_some _ _).symm.trans H; rw [hy127]; with_reducible exact H2_) | (have H2_ := (Option.bind_some _ _).symm.trans H; with_reducible exact H2_) | with_reducible exact H | (rw [hy127]; exact H) | exact H
              have Ny127 := Aside0.mk hy127
              clear hy127
              by_cases c10 : (((a0 ++ (⟨#[32]⟩ : ByteArray)) ++ a1) ++ (⟨#[32, 72, 84, 84, 80, 47, 49, 46]⟩ : ByteArray)).size + (strOfNums y127).size ≤ 9223372036854775807
              · rw [if_pos c10] at H
                have c10b0 := eq_true c10
                have c10b1 : decide ((((a0 ++ (⟨#[32]⟩ : ByteArray)) ++ a1) ++ (⟨#[32, 72, 84, 84, 80, 47, 49, 46]⟩ : ByteArray)).size + (strOfNums y127).size ≤ 9223372036854775807) = true := decide_eq_true c10
                try have c10b3 : (9223372036854775807 < a0.size + 1 + a1.size + 8 + (strOfNums y127).size) = False := eq_false (Nat.not_lt.2 (by have hq_ := c10; simp only [ByteArray.size_append] at hq_; first | exact hq_ | (simp at hq_; omega)))
                try have c10b2 : (9223372036854775807 < (((a0 ++ (⟨#[32]⟩ : ByteArray)) ++ a1) ++ (⟨#[32, 72, 84, 84, 80, 47, 49, 46]⟩ : ByteArray)).size + (strOfNums y127).size) = False := eq_false (Nat.not_lt.2 c10)
                replace H := Option.bind_eq_some_iff.mp H
                obtain ⟨⟨t130, t131, t132, t133⟩, A110, H⟩ := H
                replace H : (if t133 = 0 then (if t130.toList = a0.toList then (if t131.toList = a1.toList then (if t132 = a2 then (some ((((a0 ++ (⟨#[32]⟩ : ByteArray)) ++ a1) ++ (⟨#[32, 72, 84, 84, 80, 47, 49, 46]⟩ : ByteArray)) ++ (strOfNums y127), 0)) else (some ((⟨#[]⟩ : ByteArray), 1))) else (some ((⟨#[]⟩ : ByteArray), 1))) else (some ((⟨#[]⟩ : ByteArray), 1))) else (some ((⟨#[]⟩ : ByteArray), 1))) = some (r1, r2) := H
                have A11 := Aside0.mk A110
                clear A110
                by_cases c12 : t133 = 0
                · rw [if_pos c12] at H
                  have c12b0 : (t133 == 0) = true := beq_iff_eq.mpr c12
                  have c12b1 : (t133 != 0) = false := bne_eq_false_iff_eq.mpr c12
                  clear c12
                  by_cases c13 : t130.toList = a0.toList
                  · rw [if_pos c13] at H
                    have c13b0 : (t130.toList == a0.toList) = true := beq_iff_eq.mpr c13
                    have c13b1 : (t130.toList != a0.toList) = false := bne_eq_false_iff_eq.mpr c13
                    clear c13
                    by_cases c14 : t131.toList = a1.toList
                    · rw [if_pos c14] at H
                      have c14b0 : (t131.toList == a1.toList) = true := beq_iff_eq.mpr c14
                      have c14b1 : (t131.toList != a1.toList) = false := bne_eq_false_iff_eq.mpr c14
                      clear c14
                      by_cases c15 : t132 = a2
                      · rw [if_pos c15] at H
                        have c15b0 : (t132 == a2) = true := beq_iff_eq.mpr c15
                        have c15b1 : (t132 != a2) = false := bne_eq_false_iff_eq.mpr c15
                        clear c15
                        simp only [Option.some.injEq, Prod.mk.injEq] at H
                        obtain ⟨rfl, rfl⟩ := H
                        go_wp2_with (first | ((with_reducible refine gate_dst (N := 27) rfl ?_); refine Kd.R_lit (Kd.int .u8) _ 5 ?hg (N := 27) ?hd (xs := ([(wrap64 (48 + a2)) % 256] : List Int)) (inner := [.int .u8 ((wrap64 (48 + a2)) % 256)]) (ok := fun _ => True) (okp := fun _ => True) ?hr ?hp (fun _ hk => hk) trivial (Below.refl _ _) (Nat.le_refl _) (by simp) ?_; (case hd => rfl); (case hg => rfl); (case hr => first | (go_simp; done) | (go_simp; rfl)); (case hp => exact (Reps.one (show Kd.M (Kd.int .u8) _ _ _ ((wrap64 (48 + a2)) % 256) [.int .u8 ((wrap64 (48 + a2)) % 256)] from rfl) (Reps.none _ _))); intro v128 w16 ho17 hb hg_ hnew_; clear hg_ hnew_; (first | rw [← Ny127.out] at ho17 | (simp only [Int.reduceToNat] at ho17; rw [← Ny127.out] at ho17)); have n0_ := Aside0.mk (Kd.R_lower ho17 (below_size (by repeat (first | (with_reducible first | exact HB.out | apply below_alloc | apply pw_below_drewN | apply below_drew1) | exact HB.out)))); have n1_ := Aside0.mk (below_step (by repeat (first | (with_reducible first | exact HB.out | apply below_alloc | apply pw_below_drewN | apply below_drew1) | exact HB.out)) hb); clear HB; have HO129 := n0_; have HB := n1_; clear n0_ n1_; clear hb ho17; have hcv18 := own_string (P := Tryd.prog) Tryd.underlying49 Tryd.underlying5 Tryd.underlying9 (Kd.own_of_R HO129.out)) | ((with_reducible refine gate_callee (f := 8) rfl ?_); refine goesL_ (some 32) rfl rfl Tryd.func8 (by kernel_rfl) rfl #[.string ((((a0 ++ (⟨#[32]⟩ : ByteArray)) ++ a1) ++ (⟨#[32, 72, 84, 84, 80, 47, 49, 46]⟩ : ByteArray)) ++ (strOfNums y127))] rfl (by (try simp only [List.map_toArray, List.map_cons, List.map_nil]); first | done | rfl | (simp only [List.length_drop, List.length_take]; rfl)) ?_; (with_reducible refine (tollhouseref06_Request.calls kj3 ((((a0 ++ (⟨#[32]⟩ : ByteArray)) ++ a1) ++ (⟨#[32, 72, 84, 84, 80, 47, 49, 46]⟩ : ByteArray)) ++ (strOfNums y127)) t130 t131 t132 t133 _ (Glob.below HGl.out (by repeat (first | (with_reducible first | exact HB.out | apply below_alloc | apply pw_below_drewN | apply below_drew1) | exact HB.out))) A11.out).mono ?_); rintro e w19 ⟨rfl, hb⟩; refine ⟨_, rfl, ?_⟩; have n0_ := Aside0.mk (Kd.R_below (by (with_reducible repeat (first | apply Kd.R_alloc | apply Kd.R_drewN | apply Kd.R_drew)); exact HO129.out) hb); have n1_ := Aside0.mk (below_step (by repeat (first | (with_reducible first | exact HB.out | apply below_alloc | apply pw_below_drewN | apply below_drew1) | exact HB.out)) hb); clear HO129; clear HB; have HO129 := n0_; have HB := n1_; clear n0_ n1_; (try clear hb); (try clear hb2); (try clear hk); (try clear hi)))
                        go_ret2
                        exact ⟨by first | rfl | (simp [errW_none, errW_some] <;> rfl) | (simp [*, errW_none, errW_some] <;> rfl), by repeat (first | (with_reducible first | exact HB.out | apply below_alloc | apply pw_below_drewN | apply below_drew1) | exact HB.out)⟩
                      · rw [if_neg c15] at H
                        have c15b0 : (t132 == a2) = false := beq_eq_false_iff_ne.mpr c15
                        have c15b1 : (t132 != a2) = true := bne_iff_ne.mpr c15
                        simp only [Option.some.injEq, Prod.mk.injEq] at H
                        obtain ⟨rfl, rfl⟩ := H
                        go_wp2_with (first | ((with_reducible refine gate_dst (N := 27) rfl ?_); refine Kd.R_lit (Kd.int .u8) _ 5 ?hg (N := 27) ?hd (xs := ([(wrap64 (48 + a2)) % 256] : List Int)) (inner := [.int .u8 ((wrap64 (48 + a2)) % 256)]) (ok := fun _ => True) (okp := fun _ => True) ?hr ?hp (fun _ hk => hk) trivial (Below.refl _ _) (Nat.le_refl _) (by simp) ?_; (case hd => rfl); (case hg => rfl); (case hr => first | (go_simp; done) | (go_simp; rfl)); (case hp => exact (Reps.one (show Kd.M (Kd.int .u8) _ _ _ ((wrap64 (48 + a2)) % 256) [.int .u8 ((wrap64 (48 + a2)) % 256)] from rfl) (Reps.none _ _))); intro v128 w20 ho21 hb hg_ hnew_; clear hg_ hnew_; (first | rw [← Ny127.out] at ho21 | (simp only [Int.reduceToNat] at ho21; rw [← Ny127.out] at ho21)); have n0_ := Aside0.mk (Kd.R_lower ho21 (below_size (by repeat (first | (with_reducible first | exact HB.out | apply below_alloc | apply pw_below_drewN | apply below_drew1) | exact HB.out)))); have n1_ := Aside0.mk (below_step (by repeat (first | (with_reducible first | exact HB.out | apply below_alloc | apply pw_below_drewN | apply below_drew1) | exact HB.out)) hb); clear HB; have HO129 := n0_; have HB := n1_; clear n0_ n1_; clear hb ho21; have hcv22 := own_string (P := Tryd.prog) Tryd.underlying49 Tryd.underlying5 Tryd.underlying9 (Kd.own_of_R HO129.out)) | ((with_reducible refine gate_callee (f := 8) rfl ?_); refine goesL_ (some 32) rfl rfl Tryd.func8 (by kernel_rfl) rfl #[.string ((((a0 ++ (⟨#[32]⟩ : ByteArray)) ++ a1) ++ (⟨#[32, 72, 84, 84, 80, 47, 49, 46]⟩ : ByteArray)) ++ (strOfNums y127))] rfl (by (try simp only [List.map_toArray, List.map_cons, List.map_nil]); first | done | rfl | (simp only [List.length_drop, List.length_take]; rfl)) ?_; (with_reducible refine (tollhouseref06_Request.calls kj3 ((((a0 ++ (⟨#[32]⟩ : ByteArray)) ++ a1) ++ (⟨#[32, 72, 84, 84, 80, 47, 49, 46]⟩ : ByteArray)) ++ (strOfNums y127)) t130 t131 t132 t133 _ (Glob.below HGl.out (by repeat (first | (with_reducible first | exact HB.out | apply below_alloc | apply pw_below_drewN | apply below_drew1) | exact HB.out))) A11.out).mono ?_); rintro e w23 ⟨rfl, hb⟩; refine ⟨_, rfl, ?_⟩; have n0_ := Aside0.mk (Kd.R_below (by (with_reducible repeat (first | apply Kd.R_alloc | apply Kd.R_drewN | apply Kd.R_drew)); exact HO129.out) hb); have n1_ := Aside0.mk (below_step (by repeat (first | (with_reducible first | exact HB.out | apply below_alloc | apply pw_below_drewN | apply below_drew1) | exact HB.out)) hb); clear HO129; clear HB; have HO129 := n0_; have HB := n1_; clear n0_ n1_; (try clear hb); (try clear hb2); (try clear hk); (try clear hi)))
                        go_ret2
                        exact ⟨by first | rfl | (simp [errW_none, errW_some] <;> rfl) | (simp [*, errW_none, errW_some] <;> rfl), by repeat (first | (with_reducible first | exact HB.out | apply below_alloc | apply pw_below_drewN | apply below_drew1) | exact HB.out)⟩
                    · rw [if_neg c14] at H
                      have c14b0 : (t131.toList == a1.toList) = false := beq_eq_false_iff_ne.mpr c14
                      have c14b1 : (t131.toList != a1.toList) = true := bne_iff_ne.mpr c14
                      simp only [Option.some.injEq, Prod.mk.injEq] at H
                      obtain ⟨rfl, rfl⟩ := H
                      go_wp2_with (first | ((with_reducible refine gate_dst (N := 27) rfl ?_); refine Kd.R_lit (Kd.int .u8) _ 5 ?hg (N := 27) ?hd (xs := ([(wrap64 (48 + a2)) % 256] : List Int)) (inner := [.int .u8 ((wrap64 (48 + a2)) % 256)]) (ok := fun _ => True) (okp := fun _ => True) ?hr ?hp (fun _ hk => hk) trivial (Below.refl _ _) (Nat.le_refl _) (by simp) ?_; (case hd => rfl); (case hg => rfl); (case hr => first | (go_simp; done) | (go_simp; rfl)); (case hp => exact (Reps.one (show Kd.M (Kd.int .u8) _ _ _ ((wrap64 (48 + a2)) % 256) [.int .u8 ((wrap64 (48 + a2)) % 256)] from rfl) (Reps.none _ _))); intro v128 w24 ho25 hb hg_ hnew_; clear hg_ hnew_; (first | rw [← Ny127.out] at ho25 | (simp only [Int.reduceToNat] at ho25; rw [← Ny127.out] at ho25)); have n0_ := Aside0.mk (Kd.R_lower ho25 (below_size (by repeat (first | (with_reducible first | exact HB.out | apply below_alloc | apply pw_below_drewN | apply below_drew1) | exact HB.out)))); have n1_ := Aside0.mk (below_step (by repeat (first | (with_reducible first | exact HB.out | apply below_alloc | apply pw_below_drewN | apply below_drew1) | exact HB.out)) hb); clear HB; have HO129 := n0_; have HB := n1_; clear n0_ n1_; clear hb ho25; have hcv26 := own_string (P := Tryd.prog) Tryd.underlying49 Tryd.underlying5 Tryd.underlying9 (Kd.own_of_R HO129.out)) | ((with_reducible refine gate_callee (f := 8) rfl ?_); refine goesL_ (some 32) rfl rfl Tryd.func8 (by kernel_rfl) rfl #[.string ((((a0 ++ (⟨#[32]⟩ : ByteArray)) ++ a1) ++ (⟨#[32, 72, 84, 84, 80, 47, 49, 46]⟩ : ByteArray)) ++ (strOfNums y127))] rfl (by (try simp only [List.map_toArray, List.map_cons, List.map_nil]); first | done | rfl | (simp only [List.length_drop, List.length_take]; rfl)) ?_; (with_reducible refine (tollhouseref06_Request.calls kj3 ((((a0 ++ (⟨#[32]⟩ : ByteArray)) ++ a1) ++ (⟨#[32, 72, 84, 84, 80, 47, 49, 46]⟩ : ByteArray)) ++ (strOfNums y127)) t130 t131 t132 t133 _ (Glob.below HGl.out (by repeat (first | (with_reducible first | exact HB.out | apply below_alloc | apply pw_below_drewN | apply below_drew1) | exact HB.out))) A11.out).mono ?_); rintro e w27 ⟨rfl, hb⟩; refine ⟨_, rfl, ?_⟩; have n0_ := Aside0.mk (Kd.R_below (by (with_reducible repeat (first | apply Kd.R_alloc | apply Kd.R_drewN | apply Kd.R_drew)); exact HO129.out) hb); have n1_ := Aside0.mk (below_step (by repeat (first | (with_reducible first | exact HB.out | apply below_alloc | apply pw_below_drewN | apply below_drew1) | exact HB.out)) hb); clear HO129; clear HB; have HO129 := n0_; have HB := n1_; clear n0_ n1_; (try clear hb); (try clear hb2); (try clear hk); (try clear hi)))
                      go_ret2
                      exact ⟨by first | rfl | (simp [errW_none, errW_some] <;> rfl) | (simp [*, errW_none, errW_some] <;> rfl), by repeat (first | (with_reducible first | exact HB.out | apply below_alloc | apply pw_below_drewN | apply below_drew1) | exact HB.out)⟩
                  · rw [if_neg c13] at H
                    have c13b0 : (t130.toList == a0.toList) = false := beq_eq_false_iff_ne.mpr c13
                    have c13b1 : (t130.toList != a0.toList) = true := bne_iff_ne.mpr c13
                    simp only [Option.some.injEq, Prod.mk.injEq] at H
                    obtain ⟨rfl, rfl⟩ := H
                    go_wp2_with (first | ((with_reducible refine gate_dst (N := 27) rfl ?_); refine Kd.R_lit (Kd.int .u8) _ 5 ?hg (N := 27) ?hd (xs := ([(wrap64 (48 + a2)) % 256] : List Int)) (inner := [.int .u8 ((wrap64 (48 + a2)) % 256)]) (ok := fun _ => True) (okp := fun _ => True) ?hr ?hp (fun _ hk => hk) trivial (Below.refl _ _) (Nat.le_refl _) (by simp) ?_; (case hd => rfl); (case hg => rfl); (case hr => first | (go_simp; done) | (go_simp; rfl)); (case hp => exact (Reps.one (show Kd.M (Kd.int .u8) _ _ _ ((wrap64 (48 + a2)) % 256) [.int .u8 ((wrap64 (48 + a2)) % 256)] from rfl) (Reps.none _ _))); intro v128 w28 ho29 hb hg_ hnew_; clear hg_ hnew_; (first | rw [← Ny127.out] at ho29 | (simp only [Int.reduceToNat] at ho29; rw [← Ny127.out] at ho29)); have n0_ := Aside0.mk (Kd.R_lower ho29 (below_size (by repeat (first | (with_reducible first | exact HB.out | apply below_alloc | apply pw_below_drewN | apply below_drew1) | exact HB.out)))); have n1_ := Aside0.mk (below_step (by repeat (first | (with_reducible first | exact HB.out | apply below_alloc | apply pw_below_drewN | apply below_drew1) | exact HB.out)) hb); clear HB; have HO129 := n0_; have HB := n1_; clear n0_ n1_; clear hb ho29; have hcv30 := own_string (P := Tryd.prog) Tryd.underlying49 Tryd.underlying5 Tryd.underlying9 (Kd.own_of_R HO129.out)) | ((with_reducible refine gate_callee (f := 8) rfl ?_); refine goesL_ (some 32) rfl rfl Tryd.func8 (by kernel_rfl) rfl #[.string ((((a0 ++ (⟨#[32]⟩ : ByteArray)) ++ a1) ++ (⟨#[32, 72, 84, 84, 80, 47, 49, 46]⟩ : ByteArray)) ++ (strOfNums y127))] rfl (by (try simp only [List.map_toArray, List.map_cons, List.map_nil]); first | done | rfl | (simp only [List.length_drop, List.length_take]; rfl)) ?_; (with_reducible refine (tollhouseref06_Request.calls kj3 ((((a0 ++ (⟨#[32]⟩ : ByteArray)) ++ a1) ++ (⟨#[32, 72, 84, 84, 80, 47, 49, 46]⟩ : ByteArray)) ++ (strOfNums y127)) t130 t131 t132 t133 _ (Glob.below HGl.out (by repeat (first | (with_reducible first | exact HB.out | apply below_alloc | apply pw_below_drewN | apply below_drew1) | exact HB.out))) A11.out).mono ?_); rintro e w31 ⟨rfl, hb⟩; refine ⟨_, rfl, ?_⟩; have n0_ := Aside0.mk (Kd.R_below (by (with_reducible repeat (first | apply Kd.R_alloc | apply Kd.R_drewN | apply Kd.R_drew)); exact HO129.out) hb); have n1_ := Aside0.mk (below_step (by repeat (first | (with_reducible first | exact HB.out | apply below_alloc | apply pw_below_drewN | apply below_drew1) | exact HB.out)) hb); clear HO129; clear HB; have HO129 := n0_; have HB := n1_; clear n0_ n1_; (try clear hb); (try clear hb2); (try clear hk); (try clear hi)))
                    go_ret2
                    exact ⟨by first | rfl | (simp [errW_none, errW_some] <;> rfl) | (simp [*, errW_none, errW_some] <;> rfl), by repeat (first | (with_reducible first | exact HB.out | apply below_alloc | apply pw_below_drewN | apply below_drew1) | exact HB.out)⟩
                · rw [if_neg c12] at H
                  have c12b0 : (t133 == 0) = false := beq_eq_false_iff_ne.mpr c12
                  have c12b1 : (t133 != 0) = true := bne_iff_ne.mpr c12
                  simp only [Option.some.injEq, Prod.mk.injEq] at H
                  obtain ⟨rfl, rfl⟩ := H
                  go_wp2_with (first | ((with_reducible refine gate_dst (N := 27) rfl ?_); refine Kd.R_lit (Kd.int .u8) _ 5 ?hg (N := 27) ?hd (xs := ([(wrap64 (48 + a2)) % 256] : List Int)) (inner := [.int .u8 ((wrap64 (48 + a2)) % 256)]) (ok := fun _ => True) (okp := fun _ => True) ?hr ?hp (fun _ hk => hk) trivial (Below.refl _ _) (Nat.le_refl _) (by simp) ?_; (case hd => rfl); (case hg => rfl); (case hr => first | (go_simp; done) | (go_simp; rfl)); (case hp => exact (Reps.one (show Kd.M (Kd.int .u8) _ _ _ ((wrap64 (48 + a2)) % 256) [.int .u8 ((wrap64 (48 + a2)) % 256)] from rfl) (Reps.none _ _))); intro v128 w32 ho33 hb hg_ hnew_; clear hg_ hnew_; (first | rw [← Ny127.out] at ho33 | (simp only [Int.reduceToNat] at ho33; rw [← Ny127.out] at ho33)); have n0_ := Aside0.mk (Kd.R_lower ho33 (below_size (by repeat (first | (with_reducible first | exact HB.out | apply below_alloc | apply pw_below_drewN | apply below_drew1) | exact HB.out)))); have n1_ := Aside0.mk (below_step (by repeat (first | (with_reducible first | exact HB.out | apply below_alloc | apply pw_below_drewN | apply below_drew1) | exact HB.out)) hb); clear HB; have HO129 := n0_; have HB := n1_; clear n0_ n1_; clear hb ho33; have hcv34 := own_string (P := Tryd.prog) Tryd.underlying49 Tryd.underlying5 Tryd.underlying9 (Kd.own_of_R HO129.out)) | ((with_reducible refine gate_callee (f := 8) rfl ?_); refine goesL_ (some 32) rfl rfl Tryd.func8 (by kernel_rfl) rfl #[.string ((((a0 ++ (⟨#[32]⟩ : ByteArray)) ++ a1) ++ (⟨#[32, 72, 84, 84, 80, 47, 49, 46]⟩ : ByteArray)) ++ (strOfNums y127))] rfl (by (try simp only [List.map_toArray, List.map_cons, List.map_nil]); first | done | rfl | (simp only [List.length_drop, List.length_take]; rfl)) ?_; (with_reducible refine (tollhouseref06_Request.calls kj3 ((((a0 ++ (⟨#[32]⟩ : ByteArray)) ++ a1) ++ (⟨#[32, 72, 84, 84, 80, 47, 49, 46]⟩ : ByteArray)) ++ (strOfNums y127)) t130 t131 t132 t133 _ (Glob.below HGl.out (by repeat (first | (with_reducible first | exact HB.out | apply below_alloc | apply pw_below_drewN | apply below_drew1) | exact HB.out))) A11.out).mono ?_); rintro e w35 ⟨rfl, hb⟩; refine ⟨_, rfl, ?_⟩; have n0_ := Aside0.mk (Kd.R_below (by (with_reducible repeat (first | apply Kd.R_alloc | apply Kd.R_drewN | apply Kd.R_drew)); exact HO129.out) hb); have n1_ := Aside0.mk (below_step (by repeat (first | (with_reducible first | exact HB.out | apply below_alloc | apply pw_below_drewN | apply below_drew1) | exact HB.out)) hb); clear HO129; clear HB; have HO129 := n0_; have HB := n1_; clear n0_ n1_; (try clear hb); (try clear hb2); (try clear hk); (try clear hi)))
                  go_ret2
                  exact ⟨by first | rfl | (simp [errW_none, errW_some] <;> rfl) | (simp [*, errW_none, errW_some] <;> rfl), by repeat (first | (with_reducible first | exact HB.out | apply below_alloc | apply pw_below_drewN | apply below_drew1) | exact HB.out)⟩
              · rw [if_neg c10] at H
                exact absurd H (by simp)
            · rw [if_neg c9] at H
              exact absurd H (by simp)
          · rw [if_neg c8] at H
            exact absurd H (by simp)
        · rw [if_neg c7] at H
          exact absurd H (by simp)

end Go.Proofs.YtpoljchfgdnmbaaDoor.X

-- PRINTED by print.py (a twelfth state) out of the translation. Not trusted: Lean checks it.
namespace Go.Proofs.YtpoljchfgdnmbaaDoor.X
open Go.RowKit Go.Proofs.YtpoljchfgdnmbaaDoorW.PrintWords Go.Proofs.YtpoljchfgdnmbaaDoorW.PrintLast Go.Proofs.YtpoljchfgdnmbaaDoorW.PrintMore
attribute [local go_sem] max2_int min2_int max_two min_two max_three min_three max_four min_four   -- for this text's walks alone
set_option linter.unusedVariables false
set_option linter.unusedSimpArgs false
open Go.Proofs.YtpoljchfgdnmbaaDoor.T

/-! ### start_PutStatus: function 14 -/
def start_PutStatus.f (a0 : Int) (a1 : Int) (a2 : ByteArray) : Option (ByteArray × Int) := (start_put.f a0).bind fun t134 => (if t134.size + 1 ≤ 9223372036854775807 then ((strconv_Itoa.f a1).bind fun t135 => (if (t134 ++ (⟨#[32]⟩ : ByteArray)).size + t135.size ≤ 9223372036854775807 then (if ((t134 ++ (⟨#[32]⟩ : ByteArray)) ++ t135).size + 1 ≤ 9223372036854775807 then (if (((t134 ++ (⟨#[32]⟩ : ByteArray)) ++ t135) ++ (⟨#[32]⟩ : ByteArray)).size + a2.size ≤ 9223372036854775807 then (if a0 < 0 then (some ((⟨#[]⟩ : ByteArray), 1)) else (if a0 > 1 then (some ((⟨#[]⟩ : ByteArray), 1)) else (if a1 < 100 then (some ((⟨#[]⟩ : ByteArray), 1)) else (if a1 > 599 then (some ((⟨#[]⟩ : ByteArray), 1)) else ((text_Visible.f a2).bind fun t136 => (if t136 = true then (if (((((t134 ++ (⟨#[32]⟩ : ByteArray)) ++ t135) ++ (⟨#[32]⟩ : ByteArray)) ++ a2).size : Int) > 512 then (some ((⟨#[]⟩ : ByteArray), 1)) else (some ((((t134 ++ (⟨#[32]⟩ : ByteArray)) ++ t135) ++ (⟨#[32]⟩ : ByteArray)) ++ a2, 0))) else (some ((⟨#[]⟩ : ByteArray), 1)))))))) else (none)) else (none)) else (none))) else (none))
set_option maxHeartbeats 8000000 in
set_option maxRecDepth 100000 in
theorem start_PutStatus.calls (a0 : Int) (a1 : Int) (a2 : ByteArray) (r1 : ByteArray) (r2 : Int) (w : World) (HGg : Glob w) (h : start_PutStatus.f a0 a1 a2 = some (r1, r2)) :
    Calls Tryd.prog 14 #[.int .i64 a0, .int .i64 a1, .string a2] w fun e w' => e = .returned (.tuple #[.string r1, .int .i64 r2]) ∧ Below w.heap.size w w' := by
  have HGl := Aside0.mk HGg
  clear HGg
  have HB := Aside0.mk (Below.refl w.heap.size w)
  have H : ((start_put.f a0).bind fun t134 => (if t134.size + 1 ≤ 9223372036854775807 then ((strconv_Itoa.f a1).bind fun t135 => (if (t134 ++ (⟨#[32]⟩ : ByteArray)).size + t135.size ≤ 9223372036854775807 then (if ((t134 ++ (⟨#[32]⟩ : ByteArray)) ++ t135).size + 1 ≤ 9223372036854775807 then (if (((t134 ++ (⟨#[32]⟩ : ByteArray)) ++ t135) ++ (⟨#[32]⟩ : ByteArray)).size + a2.size ≤ 9223372036854775807 then (if a0 < 0 then (some ((⟨#[]⟩ : ByteArray), 1)) else (if a0 > 1 then (some ((⟨#[]⟩ : ByteArray), 1)) else (if a1 < 100 then (some ((⟨#[]⟩ : ByteArray), 1)) else (if a1 > 599 then (some ((⟨#[]⟩ : ByteArray), 1)) else ((text_Visible.f a2).bind fun t136 => (if t136 = true then (if (((((t134 ++ (⟨#[32]⟩ : ByteArray)) ++ t135) ++ (⟨#[32]⟩ : ByteArray)) ++ a2).size : Int) > 512 then (some ((⟨#[]⟩ : ByteArray), 1)) else (some ((((t134 ++ (⟨#[32]⟩ : ByteArray)) ++ t135) ++ (⟨#[32]⟩ : ByteArray)) ++ a2, 0))) else (some ((⟨#[]⟩ : ByteArray), 1)))))))) else (none)) else (none)) else (none))) else (none))) = some (r1, r2) := h
  clear h
  replace H := Option.bind_eq_some_iff.mp H
  obtain ⟨t134, A40, H⟩ := H
  replace H : (if t134.size + 1 ≤ 9223372036854775807 then ((strconv_Itoa.f a1).bind fun t135 => (if (t134 ++ (⟨#[32]⟩ : ByteArray)).size + t135.size ≤ 9223372036854775807 then (if ((t134 ++ (⟨#[32]⟩ : ByteArray)) ++ t135).size + 1 ≤ 9223372036854775807 then (if (((t134 ++ (⟨#[32]⟩ : ByteArray)) ++ t135) ++ (⟨#[32]⟩ : ByteArray)).size + a2.size ≤ 9223372036854775807 then (if a0 < 0 then (some ((⟨#[]⟩ : ByteArray), 1)) else (if a0 > 1 then (some ((⟨#[]⟩ : ByteArray), 1)) else (if a1 < 100 then (some ((⟨#[]⟩ : ByteArray), 1)) else (if a1 > 599 then (some ((⟨#[]⟩ : ByteArray), 1)) else ((text_Visible.f a2).bind fun t136 => (if t136 = true then (if (((((t134 ++ (⟨#[32]⟩ : ByteArray)) ++ t135) ++ (⟨#[32]⟩ : ByteArray)) ++ a2).size : Int) > 512 then (some ((⟨#[]⟩ : ByteArray), 1)) else (some ((((t134 ++ (⟨#[32]⟩ : ByteArray)) ++ t135) ++ (⟨#[32]⟩ : ByteArray)) ++ a2, 0))) else (some ((⟨#[]⟩ : ByteArray), 1)))))))) else (none)) else (none)) else (none))) else (none)) = some (r1, r2) := H
  have A4 := Aside0.mk A40
  clear A40
  by_cases c5 : t134.size + 1 ≤ 9223372036854775807
  · rw [if_pos c5] at H
    have c5b0 := eq_true c5
    have c5b1 : decide (t134.size + 1 ≤ 9223372036854775807) = true := decide_eq_true c5
    try have c5b2 : (9223372036854775807 < t134.size + 1) = False := eq_false (Nat.not_lt.2 c5)
    replace H := Option.bind_eq_some_iff.mp H
    obtain ⟨t135, A60, H⟩ := H
    replace H : (if (t134 ++ (⟨#[32]⟩ : ByteArray)).size + t135.size ≤ 9223372036854775807 then (if ((t134 ++ (⟨#[32]⟩ : ByteArray)) ++ t135).size + 1 ≤ 9223372036854775807 then (if (((t134 ++ (⟨#[32]⟩ : ByteArray)) ++ t135) ++ (⟨#[32]⟩ : ByteArray)).size + a2.size ≤ 9223372036854775807 then (if a0 < 0 then (some ((⟨#[]⟩ : ByteArray), 1)) else (if a0 > 1 then (some ((⟨#[]⟩ : ByteArray), 1)) else (if a1 < 100 then (some ((⟨#[]⟩ : ByteArray), 1)) else (if a1 > 599 then (some ((⟨#[]⟩ : ByteArray), 1)) else ((text_Visible.f a2).bind fun t136 => (if t136 = true then (if (((((t134 ++ (⟨#[32]⟩ : ByteArray)) ++ t135) ++ (⟨#[32]⟩ : ByteArray)) ++ a2).size : Int) > 512 then (some ((⟨#[]⟩ : ByteArray), 1)) else (some ((((t134 ++ (⟨#[32]⟩ : ByteArray)) ++ t135) ++ (⟨#[32]⟩ : ByteArray)) ++ a2, 0))) else (some ((⟨#[]⟩ : ByteArray), 1)))))))) else (none)) else (none)) else (none)) = some (r1, r2) := H
    have A6 := Aside0.mk A60
    clear A60
    by_cases c7 : (t134 ++ (⟨#[32]⟩ : ByteArray)).size + t135.size ≤ 9223372036854775807
    · rw [if_pos c7] at H
      have c7b0 := eq_true c7
      have c7b1 : decide ((t134 ++ (⟨#[32]⟩ : ByteArray)).size + t135.size ≤ 9223372036854775807) = true := decide_eq_true c7
      try have c7b3 : (9223372036854775807 < t134.size + 1 + t135.size) = False := eq_false (Nat.not_lt.2 (by have hq_ := c7; simp only [ByteArray.size_append] at hq_; first | exact hq_ | (simp at hq_; omega)))
      try have c7b2 : (9223372036854775807 < (t134 ++ (⟨#[32]⟩ : ByteArray)).size + t135.size) = False := eq_false (Nat.not_lt.2 c7)
      by_cases c8 : ((t134 ++ (⟨#[32]⟩ : ByteArray)) ++ t135).size + 1 ≤ 9223372036854775807
      · rw [if_pos c8] at H
        have c8b0 := eq_true c8
        have c8b1 : decide (((t134 ++ (⟨#[32]⟩ : ByteArray)) ++ t135).size + 1 ≤ 9223372036854775807) = true := decide_eq_true c8
        try have c8b3 : (9223372036854775807 < t134.size + 1 + t135.size + 1) = False := eq_false (Nat.not_lt.2 (by have hq_ := c8; simp only [ByteArray.size_append] at hq_; first | exact hq_ | (simp at hq_; omega)))
        try have c8b2 : (9223372036854775807 < ((t134 ++ (⟨#[32]⟩ : ByteArray)) ++ t135).size + 1) = False := eq_false (Nat.not_lt.2 c8)
        by_cases c9 : (((t134 ++ (⟨#[32]⟩ : ByteArray)) ++ t135) ++ (⟨#[32]⟩ : ByteArray)).size + a2.size ≤ 9223372036854775807
        · rw [if_pos c9] at H
          have c9b0 := eq_true c9
          have c9b1 : decide ((((t134 ++ (⟨#[32]⟩ : ByteArray)) ++ t135) ++ (⟨#[32]⟩ : ByteArray)).size + a2.size ≤ 9223372036854775807) = true := decide_eq_true c9
          try have c9b3 : (9223372036854775807 < t134.size + 1 + t135.size + 1 + a2.size) = False := eq_false (Nat.not_lt.2 (by have hq_ := c9; simp only [ByteArray.size_append] at hq_; first | exact hq_ | (simp at hq_; omega)))
          try have c9b2 : (9223372036854775807 < (((t134 ++ (⟨#[32]⟩ : ByteArray)) ++ t135) ++ (⟨#[32]⟩ : ByteArray)).size + a2.size) = False := eq_false (Nat.not_lt.2 c9)
          by_cases c10 : a0 < 0
          · rw [if_pos c10] at H
            have c10b0 : decide (a0 < 0) = true := decide_eq_true c10
            clear c10
            simp only [Option.some.injEq, Prod.mk.injEq] at H
            obtain ⟨rfl, rfl⟩ := H
            go_enter Tryd.func14, Tryd.ntmps14
            go_wp2_with (first | ((with_reducible refine gate_callee (f := 25) rfl ?_); refine goesL_ (some 10) rfl rfl Tryd.func25 (by kernel_rfl) rfl #[.int .i64 a0] rfl (by (try simp only [List.map_toArray, List.map_cons, List.map_nil]); first | done | rfl | (simp only [List.length_drop, List.length_take]; rfl)) ?_; (with_reducible refine (start_put.calls a0 t134 _ (Glob.below HGl.out (by repeat (first | (with_reducible first | exact HB.out | apply below_alloc | apply pw_below_drewN | apply below_drew1) | exact HB.out))) A4.out).mono ?_); rintro e w11 ⟨rfl, hb⟩; refine ⟨_, rfl, ?_⟩; have n0_ := Aside0.mk (below_step (by repeat (first | (with_reducible first | exact HB.out | apply below_alloc | apply pw_below_drewN | apply below_drew1) | exact HB.out)) hb); clear HB; have HB := n0_; clear n0_; (try clear hb); (try clear hb2); (try clear hk); (try clear hi)) | ((with_reducible refine gate_callee (f := 30) rfl ?_); refine goesL_ (some 13) rfl rfl Tryd.func30 (by kernel_rfl) rfl #[.int .i64 a1] rfl (by (try simp only [List.map_toArray, List.map_cons, List.map_nil]); first | done | rfl | (simp only [List.length_drop, List.length_take]; rfl)) ?_; (with_reducible refine (strconv_Itoa.calls a1 t135 _ (Glob.below HGl.out (by repeat (first | (with_reducible first | exact HB.out | apply below_alloc | apply pw_below_drewN | apply below_drew1) | exact HB.out))) A6.out).mono ?_); rintro e w12 ⟨rfl, hb⟩; refine ⟨_, rfl, ?_⟩; have n0_ := Aside0.mk (below_step (by repeat (first | (with_reducible first | exact HB.out | apply below_alloc | apply pw_below_drewN | apply below_drew1) | exact HB.out)) hb); clear HB; have HB := n0_; clear n0_; (try clear hb); (try clear hb2); (try clear hk); (try clear hi)))
            go_ret2
            exact ⟨by first | rfl | (simp [errW_none, errW_some] <;> rfl) | (simp [*, errW_none, errW_some] <;> rfl), by repeat (first | (with_reducible first | exact HB.out | apply below_alloc | apply pw_below_drewN | apply below_drew1) | exact HB.out)⟩
          · rw [if_neg c10] at H
            have c10b0 : decide (a0 < 0) = false := decide_eq_false c10
            clear c10
            by_cases c13 : a0 > 1
            · rw [if_pos c13] at H
              have c13b0 : decide (1 < a0) = true := decide_eq_true c13
              clear c13
              simp only [Option.some.injEq, Prod.mk.injEq] at H
              obtain ⟨rfl, rfl⟩ := H
              go_enter Tryd.func14, Tryd.ntmps14
              go_wp2_with (first | ((with_reducible refine gate_callee (f := 25) rfl ?_); refine goesL_ (some 10) rfl rfl Tryd.func25 (by kernel_rfl) rfl #[.int .i64 a0] rfl (by (try simp only [List.map_toArray, List.map_cons, List.map_nil]); first | done | rfl | (simp only [List.length_drop, List.length_take]; rfl)) ?_; (with_reducible refine (start_put.calls a0 t134 _ (Glob.below HGl.out (by repeat (first | (with_reducible first | exact HB.out | apply below_alloc | apply pw_below_drewN | apply below_drew1) | exact HB.out))) A4.out).mono ?_); rintro e w14 ⟨rfl, hb⟩; refine ⟨_, rfl, ?_⟩; have n0_ := Aside0.mk (below_step (by repeat (first | (with_reducible first | exact HB.out | apply below_alloc | apply pw_below_drewN | apply below_drew1) | exact HB.out)) hb); clear HB; have HB := n0_; clear n0_; (try clear hb); (try clear hb2); (try clear hk); (try clear hi)) | ((with_reducible refine gate_callee (f := 30) rfl ?_); refine goesL_ (some 13) rfl rfl Tryd.func30 (by kernel_rfl) rfl #[.int .i64 a1] rfl (by (try simp only [List.map_toArray, List.map_cons, List.map_nil]); first | done | rfl | (simp only [List.length_drop, List.length_take]; rfl)) ?_; (with_reducible refine (strconv_Itoa.calls a1 t135 _ (Glob.below HGl.out (by repeat (first | (with_reducible first | exact HB.out | apply below_alloc | apply pw_below_drewN | apply below_drew1) | exact HB.out))) A6.out).mono ?_); rintro e w15 ⟨rfl, hb⟩; refine ⟨_, rfl, ?_⟩; have n0_ := Aside0.mk (below_step (by repeat (first | (with_reducible first | exact HB.out | apply below_alloc | apply pw_below_drewN | apply below_drew1) | exact HB.out)) hb); clear HB; have HB := n0_; clear n0_; (try clear hb); (try clear hb2); (try clear hk); (try clear hi)))
              go_ret2
              exact ⟨by first | rfl | (simp [errW_none, errW_some] <;> rfl) | (simp [*, errW_none, errW_some] <;> rfl), by repeat (first | (with_reducible first | exact HB.out | apply below_alloc | apply pw_below_drewN | apply below_drew1) | exact HB.out)⟩
            · rw [if_neg c13] at H
              have c13b0 : decide (1 < a0) = false := decide_eq_false c13
              clear c13
              by_cases c16 : a1 < 100
              · rw [if_pos c16] at H
                have c16b0 : decide (a1 < 100) = true := decide_eq_true c16
                clear c16
                simp only [Option.some.injEq, Prod.mk.injEq] at H
                obtain ⟨rfl, rfl⟩ := H
                go_enter Tryd.func14, Tryd.ntmps14
                go_wp2_with (first | ((with_reducible refine gate_callee (f := 25) rfl ?_); refine goesL_ (some 10) rfl rfl Tryd.func25 (by kernel_rfl) rfl #[.int .i64 a0] rfl (by (try simp only [List.map_toArray, List.map_cons, List.map_nil]); first | done | rfl | (simp only [List.length_drop, List.length_take]; rfl)) ?_; (with_reducible refine (start_put.calls a0 t134 _ (Glob.below HGl.out (by repeat (first | (with_reducible first | exact HB.out | apply below_alloc | apply pw_below_drewN | apply below_drew1) | exact HB.out))) A4.out).mono ?_); rintro e w17 ⟨rfl, hb⟩; refine ⟨_, rfl, ?_⟩; have n0_ := Aside0.mk (below_step (by repeat (first | (with_reducible first | exact HB.out | apply below_alloc | apply pw_below_drewN | apply below_drew1) | exact HB.out)) hb); clear HB; have HB := n0_; clear n0_; (try clear hb); (try clear hb2); (try clear hk); (try clear hi)) | ((with_reducible refine gate_callee (f := 30) rfl ?_); refine goesL_ (some 13) rfl rfl Tryd.func30 (by kernel_rfl) rfl #[.int .i64 a1] rfl (by (try simp only [List.map_toArray, List.map_cons, List.map_nil]); first | done | rfl | (simp only [List.length_drop, List.length_take]; rfl)) ?_; (with_reducible refine (strconv_Itoa.calls a1 t135 _ (Glob.below HGl.out (by repeat (first | (with_reducible first | exact HB.out | apply below_alloc | apply pw_below_drewN | apply below_drew1) | exact HB.out))) A6.out).mono ?_); rintro e w18 ⟨rfl, hb⟩; refine ⟨_, rfl, ?_⟩; have n0_ := Aside0.mk (below_step (by repeat (first | (with_reducible first | exact HB.out | apply below_alloc | apply pw_below_drewN | apply below_drew1) | exact HB.out)) hb); clear HB; have HB := n0_; clear n0_; (try clear hb); (try clear hb2); (try clear hk); (try clear hi)))
                go_ret2
                exact ⟨by first | rfl | (simp [errW_none, errW_some] <;> rfl) | (simp [*, errW_none, errW_some] <;> rfl), by repeat (first | (with_reducible first | exact HB.out | apply below_alloc | apply pw_below_drewN | apply below_drew1) | exact HB.out)⟩
              · rw [if_neg c16] at H
                have c16b0 : decide (a1 < 100) = false := decide_eq_false c16
                clear c16
                by_cases c19 : a1 > 599
                · rw [if_pos c19] at H
                  have c19b0 : decide (599 < a1) = true := decide_eq_true c19
                  clear c19
                  simp only [Option.some.injEq, Prod.mk.injEq] at H
                  obtain ⟨rfl, rfl⟩ := H
                  go_enter Tryd.func14, Tryd.ntmps14
                  go_wp2_with (first | ((with_reducible refine gate_callee (f := 25) rfl ?_); refine goesL_ (some 10) rfl rfl Tryd.func25 (by kernel_rfl) rfl #[.int .i64 a0] rfl (by (try simp only [List.map_toArray, List.map_cons, List.map_nil]); first | done | rfl | (simp only [List.length_drop, List.length_take]; rfl)) ?_; (with_reducible refine (start_put.calls a0 t134 _ (Glob.below HGl.out (by repeat (first | (with_reducible first | exact HB.out | apply below_alloc | apply pw_below_drewN | apply below_drew1) | exact HB.out))) A4.out).mono ?_); rintro e w20 ⟨rfl, hb⟩; refine ⟨_, rfl, ?_⟩; have n0_ := Aside0.mk (below_step (by repeat (first | (with_reducible first | exact HB.out | apply below_alloc | apply pw_below_drewN | apply below_drew1) | exact HB.out)) hb); clear HB; have HB := n0_; clear n0_; (try clear hb); (try clear hb2); (try clear hk); (try clear hi)) | ((with_reducible refine gate_callee (f := 30) rfl ?_); refine goesL_ (some 13) rfl rfl Tryd.func30 (by kernel_rfl) rfl #[.int .i64 a1] rfl (by (try simp only [List.map_toArray, List.map_cons, List.map_nil]); first | done | rfl | (simp only [List.length_drop, List.length_take]; rfl)) ?_; (with_reducible refine (strconv_Itoa.calls a1 t135 _ (Glob.below HGl.out (by repeat (first | (with_reducible first | exact HB.out | apply below_alloc | apply pw_below_drewN | apply below_drew1) | exact HB.out))) A6.out).mono ?_); rintro e w21 ⟨rfl, hb⟩; refine ⟨_, rfl, ?_⟩; have n0_ := Aside0.mk (below_step (by repeat (first | (with_reducible first | exact HB.out | apply below_alloc | apply pw_below_drewN | apply below_drew1) | exact HB.out)) hb); clear HB; have HB := n0_; clear n0_; (try clear hb); (try clear hb2); (try clear hk); (try clear hi)))
                  go_ret2
                  exact ⟨by first | rfl | (simp [errW_none, errW_some] <;> rfl) | (simp [*, errW_none, errW_some] <;> rfl), by repeat (first | (with_reducible first | exact HB.out | apply below_alloc | apply pw_below_drewN | apply below_drew1) | exact HB.out)⟩
                · rw [if_neg c19] at H
                  have c19b0 : decide (599 < a1) = false := decide_eq_false c19
                  clear c19
                  replace H := Option.bind_eq_some_iff.mp H
                  obtain ⟨t136, A220, H⟩ := H
                  replace H : (if t136 = true then (if (((((t134 ++ (⟨#[32]⟩ : ByteArray)) ++ t135) ++ (⟨#[32]⟩ : ByteArray)) ++ a2).size : Int) > 512 then (some ((⟨#[]⟩ : ByteArray), 1)) else (some ((((t134 ++ (⟨#[32]⟩ : ByteArray)) ++ t135) ++ (⟨#[32]⟩ : ByteArray)) ++ a2, 0))) else (some ((⟨#[]⟩ : ByteArray), 1))) = some (r1, r2) := H
                  have A22 := Aside0.mk A220
                  clear A220
                  by_cases c23 : t136 = true
                  · subst c23
                    have H1 : (if (((((t134 ++ (⟨#[32]⟩ : ByteArray)) ++ t135) ++ (⟨#[32]⟩ : ByteArray)) ++ a2).size : Int) > 512 then (some ((⟨#[]⟩ : ByteArray), 1)) else (some ((((t134 ++ (⟨#[32]⟩ : ByteArray)) ++ t135) ++ (⟨#[32]⟩ : ByteArray)) ++ a2, 0))) = some (r1, r2) := by rw [if_pos rfl] at H; exact H
                    clear H
                    have H := H1
                    clear H1
                    by_cases c24 : (((((t134 ++ (⟨#[32]⟩ : ByteArray)) ++ t135) ++ (⟨#[32]⟩ : ByteArray)) ++ a2).size : Int) > 512
                    · rw [if_pos c24] at H
                      try (have c24n : ((t134.size : Int) + 1 + (t135.size : Int) + 1 + (a2.size : Int)) > 512 := (by have hq_ := c24; simp only [ByteArray.size_append, Int.natCast_add] at hq_; exact hq_); simp only [gt_iff_lt, ge_iff_le, Int.not_lt, Int.not_le] at c24n)
                      have c24b0 : decide (512 < (((((t134 ++ (⟨#[32]⟩ : ByteArray)) ++ t135) ++ (⟨#[32]⟩ : ByteArray)) ++ a2).size : Int)) = true := decide_eq_true c24
                      have c24b1 : decide (512 < ((((t134 ++ (⟨#[32]⟩ : ByteArray)) ++ t135) ++ (⟨#[32]⟩ : ByteArray)) ++ a2).size) = true := decide_eq_true (by omega)
                      clear c24
                      simp only [Option.some.injEq, Prod.mk.injEq] at H
                      obtain ⟨rfl, rfl⟩ := H
                      go_enter Tryd.func14, Tryd.ntmps14
                      go_wp2_with (first | ((with_reducible refine gate_callee (f := 25) rfl ?_); refine goesL_ (some 10) rfl rfl Tryd.func25 (by kernel_rfl) rfl #[.int .i64 a0] rfl (by (try simp only [List.map_toArray, List.map_cons, List.map_nil]); first | done | rfl | (simp only [List.length_drop, List.length_take]; rfl)) ?_; (with_reducible refine (start_put.calls a0 t134 _ (Glob.below HGl.out (by repeat (first | (with_reducible first | exact HB.out | apply below_alloc | apply pw_below_drewN | apply below_drew1) | exact HB.out))) A4.out).mono ?_); rintro e w25 ⟨rfl, hb⟩; refine ⟨_, rfl, ?_⟩; have n0_ := Aside0.mk (below_step (by repeat (first | (with_reducible first | exact HB.out | apply below_alloc | apply pw_below_drewN | apply below_drew1) | exact HB.out)) hb); clear HB; have HB := n0_; clear n0_; (try clear hb); (try clear hb2); (try clear hk); (try clear hi)) | ((with_reducible refine gate_callee (f := 30) rfl ?_); refine goesL_ (some 13) rfl rfl Tryd.func30 (by kernel_rfl) rfl #[.int .i64 a1] rfl (by (try simp only [List.map_toArray, List.map_cons, List.map_nil]); first | done | rfl | (simp only [List.length_drop, List.length_take]; rfl)) ?_; (with_reducible refine (strconv_Itoa.calls a1 t135 _ (Glob.below HGl.out (by repeat (first | (with_reducible first | exact HB.out | apply below_alloc | apply pw_below_drewN | apply below_drew1) | exact HB.out))) A6.out).mono ?_); rintro e w26 ⟨rfl, hb⟩; refine ⟨_, rfl, ?_⟩; have n0_ := Aside0.mk (below_step (by repeat (first | (with_reducible first | exact HB.out | apply below_alloc | apply pw_below_drewN | apply below_drew1) | exact HB.out)) hb); clear HB; have HB := n0_; clear n0_; (try clear hb); (try clear hb2); (try clear hk); (try clear hi)) | (go_at_call 19; (with_reducible refine (text_Visible.calls a2 true _ (Glob.below HGl.out (by repeat (first | (with_reducible first | exact HB.out | apply below_alloc | apply pw_below_drewN | apply below_drew1) | exact HB.out))) A22.out).mono ?_); rintro e w27 ⟨rfl, hb⟩; have n0_ := Aside0.mk (below_step (by repeat (first | (with_reducible first | exact HB.out | apply below_alloc | apply pw_below_drewN | apply below_drew1) | exact HB.out)) hb); clear HB; have HB := n0_; clear n0_; (try clear hb); (try clear hb2); (try clear hk); (try clear hi)))
                      go_ret2
                      exact ⟨by first | rfl | (simp [errW_none, errW_some] <;> rfl) | (simp [*, errW_none, errW_some] <;> rfl), by repeat (first | (with_reducible first | exact HB.out | apply below_alloc | apply pw_below_drewN | apply below_drew1) | exact HB.out)⟩
                    · rw [if_neg c24] at H
                      try (have c24n : ¬ (((t134.size : Int) + 1 + (t135.size : Int) + 1 + (a2.size : Int)) > 512) := (by have hq_ := c24; simp only [ByteArray.size_append, Int.natCast_add] at hq_; exact hq_); simp only [gt_iff_lt, ge_iff_le, Int.not_lt, Int.not_le] at c24n)
                      have c24b0 : decide (512 < (((((t134 ++ (⟨#[32]⟩ : ByteArray)) ++ t135) ++ (⟨#[32]⟩ : ByteArray)) ++ a2).size : Int)) = false := decide_eq_false c24
                      have c24b1 : decide (512 < ((((t134 ++ (⟨#[32]⟩ : ByteArray)) ++ t135) ++ (⟨#[32]⟩ : ByteArray)) ++ a2).size) = false := decide_eq_false (by omega)
                      clear c24
                      simp only [Option.some.injEq, Prod.mk.injEq] at H
                      obtain ⟨rfl, rfl⟩ := H
                      go_enter Tryd.func14, Tryd.ntmps14
                      go_wp2_with (first | ((with_reducible refine gate_callee (f := 25) rfl ?_); refine goesL_ (some 10) rfl rfl Tryd.func25 (by kernel_rfl) rfl #[.int .i64 a0] rfl (by (try simp only [List.map_toArray, List.map_cons, List.map_nil]); first | done | rfl | (simp only [List.length_drop, List.length_take]; rfl)) ?_; (with_reducible refine (start_put.calls a0 t134 _ (Glob.below HGl.out (by repeat (first | (with_reducible first | exact HB.out | apply below_alloc | apply pw_below_drewN | apply below_drew1) | exact HB.out))) A4.out).mono ?_); rintro e w28 ⟨rfl, hb⟩; refine ⟨_, rfl, ?_⟩; have n0_ := Aside0.mk (below_step (by repeat (first | (with_reducible first | exact HB.out | apply below_alloc | apply pw_below_drewN | apply below_drew1) | exact HB.out)) hb); clear HB; have HB := n0_; clear n0_; (try clear hb); (try clear hb2); (try clear hk); (try clear hi)) | ((with_reducible refine gate_callee (f := 30) rfl ?_); refine goesL_ (some 13) rfl rfl Tryd.func30 (by kernel_rfl) rfl #[.int .i64 a1] rfl (by (try simp only [List.map_toArray, List.map_cons, List.map_nil]); first | done | rfl | (simp only [List.length_drop, List.length_take]; rfl)) ?_; (with_reducible refine (strconv_Itoa.calls a1 t135 _ (Glob.below HGl.out (by repeat (first | (with_reducible first | exact HB.out | apply below_alloc | apply pw_below_drewN | apply below_drew1) | exact HB.out))) A6.out).mono ?_); rintro e w29 ⟨rfl, hb⟩; refine ⟨_, rfl, ?_⟩; have n0_ := Aside0.mk (below_step (by repeat (first | (with_reducible first | exact HB.out | apply below_alloc | apply pw_below_drewN | apply below_drew1) | exact HB.out)) hb); clear HB; have HB := n0_; clear n0_; (try clear hb); (try clear hb2); (try clear hk); (try clear hi)) | (go_at_call 19; (with_reducible refine (text_Visible.calls a2 true _ (Glob.below HGl.out (by repeat (first | (with_reducible first | exact HB.out | apply below_alloc | apply pw_below_drewN | apply below_drew1) | exact HB.out))) A22.out).mono ?_); rintro e w30 ⟨rfl, hb⟩; have n0_ := Aside0.mk (below_step (by repeat (first | (with_reducible first | exact HB.out | apply below_alloc | apply pw_below_drewN | apply below_drew1) | exact HB.out)) hb); clear HB; have HB := n0_; clear n0_; (try clear hb); (try clear hb2); (try clear hk); (try clear hi)))
                      go_ret2
                      exact ⟨by first | rfl | (simp [errW_none, errW_some] <;> rfl) | (simp [*, errW_none, errW_some] <;> rfl), by repeat (first | (with_reducible first | exact HB.out | apply below_alloc | apply pw_below_drewN | apply below_drew1) | exact HB.out)⟩
                  · replace c23 := Bool.eq_false_iff.mpr c23
                    subst c23
                    have H1 : (some ((⟨#[]⟩ : ByteArray), 1)) = some (r1, r2) := by rw [if_neg (show ¬ (false = true) by decide)] at H; exact H
                    clear H
                    have H := H1
                    clear H1
                    simp only [Option.some.injEq, Prod.mk.injEq] at H
                    obtain ⟨rfl, rfl⟩ := H
                    go_enter Tryd.func14, Tryd.ntmps14
                    go_wp2_with (first | ((with_reducible refine gate_callee (f := 25) rfl ?_); refine goesL_ (some 10) rfl rfl Tryd.func25 (by kernel_rfl) rfl #[.int .i64 a0] rfl (by (try simp only [List.map_toArray, List.map_cons, List.map_nil]); first | done | rfl | (simp only [List.length_drop, List.length_take]; rfl)) ?_; (with_reducible refine (start_put.calls a0 t134 _ (Glob.below HGl.out (by repeat (first | (with_reducible first | exact HB.out | apply below_alloc | apply pw_below_drewN | apply below_drew1) | exact HB.out))) A4.out).mono ?_); rintro e w31 ⟨rfl, hb⟩; refine ⟨_, rfl, ?_⟩; have n0_ := Aside0.mk (below_step (by repeat (first | (with_reducible first | exact HB.out | apply below_alloc | apply pw_below_drewN | apply below_drew1) | exact HB.out)) hb); clear HB; have HB := n0_; clear n0_; (try clear hb); (try clear hb2); (try clear hk); (try clear hi)) | ((with_reducible refine gate_callee (f := 30) rfl ?_); refine goesL_ (some 13) rfl rfl Tryd.func30 (by kernel_rfl) rfl #[.int .i64 a1] rfl (by (try simp only [List.map_toArray, List.map_cons, List.map_nil]); first | done | rfl | (simp only [List.length_drop, List.length_take]; rfl)) ?_; (with_reducible refine (strconv_Itoa.calls a1 t135 _ (Glob.below HGl.out (by repeat (first | (with_reducible first | exact HB.out | apply below_alloc | apply pw_below_drewN | apply below_drew1) | exact HB.out))) A6.out).mono ?_); rintro e w32 ⟨rfl, hb⟩; refine ⟨_, rfl, ?_⟩; have n0_ := Aside0.mk (below_step (by repeat (first | (with_reducible first | exact HB.out | apply below_alloc | apply pw_below_drewN | apply below_drew1) | exact HB.out)) hb); clear HB; have HB := n0_; clear n0_; (try clear hb); (try clear hb2); (try clear hk); (try clear hi)) | (go_at_call 19; (with_reducible refine (text_Visible.calls a2 false _ (Glob.below HGl.out (by repeat (first | (with_reducible first | exact HB.out | apply below_alloc | apply pw_below_drewN | apply below_drew1) | exact HB.out))) A22.out).mono ?_); rintro e w33 ⟨rfl, hb⟩; have n0_ := Aside0.mk (below_step (by repeat (first | (with_reducible first | exact HB.out | apply below_alloc | apply pw_below_drewN | apply below_drew1) | exact HB.out)) hb); clear HB; have HB := n0_; clear n0_; (try clear hb); (try clear hb2); (try clear hk); (try clear hi)))
                    go_ret2
                    exact ⟨by first | rfl | (simp [errW_none, errW_some] <;> rfl) | (simp [*, errW_none, errW_some] <;> rfl), by repeat (first | (with_reducible first | exact HB.out | apply below_alloc | apply pw_below_drewN | apply below_drew1) | exact HB.out)⟩
        · rw [if_neg c9] at H
          exact absurd H (by simp)
      · rw [if_neg c8] at H
        exact absurd H (by simp)
    · rw [if_neg c7] at H
      exact absurd H (by simp)
  · rw [if_neg c5] at H
    exact absurd H (by simp)

end Go.Proofs.YtpoljchfgdnmbaaDoor.X

/- start.Reason in the print's form: a map that the call makes, filled and asked. -/
namespace Go.Proofs.YtpoljchfgdnmbaaDoor.X
open Go.RowKit Go.Maps Go.Proofs.YtpoljchfgdnmbaaDoorW.PrintWords Go.Proofs.YtpoljchfgdnmbaaDoor.T
set_option linter.unusedSimpArgs false
set_option linter.unusedVariables false
/-- an entry of a map's literal: the law of 'm[k] = v' at that operation -/
theorem wpList_insert_own {H : Type} {P : Program} (w : World) {ops : Array Oper} {rest : List Oper} {o : Oper} {a : Act} {Q : Exit → Act → World → Prop}
    (hg : o.guard = none) (m x v : Operand) (t : TypeId) (hop : o.op = Op.insert t m x v)
    (k e : TypeId) (K : Keyed P k) (ht : P.underlying t = some (.map k e)) (R : Value → Option (DataW H × List MemPlace)) (b n : Nat) (D : DataW H)
    (hm : a.eval m = .map (some b)) (hown : w.ownsMap P k R b n D) (hn : n < maxLen) (key val : Value) (kl : Lit) (hx : a.eval x = key) (hv : a.eval v = val) (hkey : keyOf P k key = some kl)
    (d : DataW H) (ps : List MemPlace) (hval : R val = some (d, ps))
    (hK : ∀ w', w'.ownsMap P k R b (n + 1) (D.put kl d) → w.grownBy w' (some b) → wpList P ops Q rest (a.put o.dst undef) w') :
    wpList P ops Q (o :: rest) a w := by
  refine wpList_plain hg fun K' hK' => ?_
  obtain ⟨w', hrun, r1, r2⟩ := hown.update K ht hn hkey hval
  unfold Oper.wp
  simp [execOp, hop, hm, hx, hv, hrun, Result.andThen]
  exact hK' _ _ (hK w' r1 r2)
theorem wpList_lookup_own_str {H : Type} {P : Program} (w : World) {ops : Array Oper} {rest : List Oper} {o : Oper} {a : Act} {Q : Exit → Act → World → Prop}
    (hg : o.guard = none) (m x : Operand) (t : TypeId) (hop : o.op = Op.lookup t m x false)
    (k e : TypeId) (K : Keyed P k) (ht : P.underlying t = some (.map k e)) (he : P.underlying e = some .string) (hz : (zeroValue e).run P w = .ok (.string ⟨#[]⟩) w) (b n : Nat) (D : DataW H)
    (hm : a.eval m = .map (some b)) (hown : w.ownsMap P k (plainElem P e) b n D) (key : Value) (kl : Lit) (hx : a.eval x = key) (hkey : keyOf P k key = some kl)
    (hK : ∀ s : ByteArray, D.atKey kl (.lit (.string [])) = .lit (.string s.data.toList) → wpList P ops Q rest (a.put o.dst (.string s)) w) :
    wpList P ops Q (o :: rest) a w := by
  refine wpList_plain hg fun K' hK' => ?_
  obtain ⟨v, ps, hrun, hv⟩ := hown.lookup K ht hz (plainElem_string he (s := ⟨#[]⟩) (by decide)) hkey
  obtain ⟨s, rfl, hc, _⟩ := plainElem_string_inv he hv
  simp only [Prod.mk.injEq] at hc
  unfold Oper.wp
  simp [execOp, hop, hm, hx, hrun, Result.andThen]
  exact hK' _ _ (hK s hc.1)
def reasonB (n : Int) : ByteArray := if n = 200 then (⟨#[79, 75]⟩ : ByteArray) else (if n = 304 then (⟨#[78, 111, 116, 32, 77, 111, 100, 105, 102, 105, 101, 100]⟩ : ByteArray) else (if n = 400 then (⟨#[66, 97, 100, 32, 82, 101, 113, 117, 101, 115, 116]⟩ : ByteArray) else (if n = 403 then (⟨#[70, 111, 114, 98, 105, 100, 100, 101, 110]⟩ : ByteArray) else (if n = 407 then (⟨#[80, 114, 111, 120, 121, 32, 65, 117, 116, 104, 101, 110, 116, 105, 99, 97, 116, 105, 111, 110, 32, 82, 101, 113, 117, 105, 114, 101, 100]⟩ : ByteArray) else (if n = 413 then (⟨#[67, 111, 110, 116, 101, 110, 116, 32, 84, 111, 111, 32, 76, 97, 114, 103, 101]⟩ : ByteArray) else (if n = 429 then (⟨#[84, 111, 111, 32, 77, 97, 110, 121, 32, 82, 101, 113, 117, 101, 115, 116, 115]⟩ : ByteArray) else (if n = 431 then (⟨#[82, 101, 113, 117, 101, 115, 116, 32, 72, 101, 97, 100, 101, 114, 32, 70, 105, 101, 108, 100, 115, 32, 84, 111, 111, 32, 76, 97, 114, 103, 101]⟩ : ByteArray) else (if n = 501 then (⟨#[78, 111, 116, 32, 73, 109, 112, 108, 101, 109, 101, 110, 116, 101, 100]⟩ : ByteArray) else (if n = 502 then (⟨#[66, 97, 100, 32, 71, 97, 116, 101, 119, 97, 121]⟩ : ByteArray) else (if n = 503 then (⟨#[83, 101, 114, 118, 105, 99, 101, 32, 85, 110, 97, 118, 97, 105, 108, 97, 98, 108, 101]⟩ : ByteArray) else (if n = 504 then (⟨#[71, 97, 116, 101, 119, 97, 121, 32, 84, 105, 109, 101, 111, 117, 116]⟩ : ByteArray) else ((⟨#[]⟩ : ByteArray)))))))))))))
def reasonD (H : Type) : DataW H := (((((((((((((.map [] : DataW H).put (.int .i64 200) (.lit (.string (⟨#[79, 75]⟩ : ByteArray).data.toList))).put (.int .i64 304) (.lit (.string (⟨#[78, 111, 116, 32, 77, 111, 100, 105, 102, 105, 101, 100]⟩ : ByteArray).data.toList))).put (.int .i64 400) (.lit (.string (⟨#[66, 97, 100, 32, 82, 101, 113, 117, 101, 115, 116]⟩ : ByteArray).data.toList))).put (.int .i64 403) (.lit (.string (⟨#[70, 111, 114, 98, 105, 100, 100, 101, 110]⟩ : ByteArray).data.toList))).put (.int .i64 407) (.lit (.string (⟨#[80, 114, 111, 120, 121, 32, 65, 117, 116, 104, 101, 110, 116, 105, 99, 97, 116, 105, 111, 110, 32, 82, 101, 113, 117, 105, 114, 101, 100]⟩ : ByteArray).data.toList))).put (.int .i64 413) (.lit (.string (⟨#[67, 111, 110, 116, 101, 110, 116, 32, 84, 111, 111, 32, 76, 97, 114, 103, 101]⟩ : ByteArray).data.toList))).put (.int .i64 429) (.lit (.string (⟨#[84, 111, 111, 32, 77, 97, 110, 121, 32, 82, 101, 113, 117, 101, 115, 116, 115]⟩ : ByteArray).data.toList))).put (.int .i64 431) (.lit (.string (⟨#[82, 101, 113, 117, 101, 115, 116, 32, 72, 101, 97, 100, 101, 114, 32, 70, 105, 101, 108, 100, 115, 32, 84, 111, 111, 32, 76, 97, 114, 103, 101]⟩ : ByteArray).data.toList))).put (.int .i64 501) (.lit (.string (⟨#[78, 111, 116, 32, 73, 109, 112, 108, 101, 109, 101, 110, 116, 101, 100]⟩ : ByteArray).data.toList))).put (.int .i64 502) (.lit (.string (⟨#[66, 97, 100, 32, 71, 97, 116, 101, 119, 97, 121]⟩ : ByteArray).data.toList))).put (.int .i64 503) (.lit (.string (⟨#[83, 101, 114, 118, 105, 99, 101, 32, 85, 110, 97, 118, 97, 105, 108, 97, 98, 108, 101]⟩ : ByteArray).data.toList))).put (.int .i64 504) (.lit (.string (⟨#[71, 97, 116, 101, 119, 97, 121, 32, 84, 105, 109, 101, 111, 117, 116]⟩ : ByteArray).data.toList)))
theorem ne_key {a b : Int} (h : a ≠ b) : (Lit.int .i64 a) ≠ Lit.int .i64 b := fun e => by injection e with _ e2; exact h e2
theorem reason_at (H : Type) (n : Int) : (reasonD H).atKey (.int .i64 n) (.lit (.string [])) = .lit (.string (reasonB n).data.toList) := by
  unfold reasonD reasonB
  by_cases h200 : n = 200
  · subst h200
    rw [atKey_put_other (ne_key (by decide)), atKey_put_other (ne_key (by decide)), atKey_put_other (ne_key (by decide)), atKey_put_other (ne_key (by decide)), atKey_put_other (ne_key (by decide)), atKey_put_other (ne_key (by decide)), atKey_put_other (ne_key (by decide)), atKey_put_other (ne_key (by decide)), atKey_put_other (ne_key (by decide)), atKey_put_other (ne_key (by decide)), atKey_put_other (ne_key (by decide))]
    rw [atKey_put_same isMap_empty (by first | decide | trivial | exact Or.inl rfl | simp [WideAt.IsKeyLit])]
    simp
  by_cases h304 : n = 304
  · subst h304
    rw [atKey_put_other (ne_key (by decide)), atKey_put_other (ne_key (by decide)), atKey_put_other (ne_key (by decide)), atKey_put_other (ne_key (by decide)), atKey_put_other (ne_key (by decide)), atKey_put_other (ne_key (by decide)), atKey_put_other (ne_key (by decide)), atKey_put_other (ne_key (by decide)), atKey_put_other (ne_key (by decide)), atKey_put_other (ne_key (by decide))]
    rw [atKey_put_same (IsMap.put isMap_empty _ _) (by first | decide | trivial | exact Or.inl rfl | simp [WideAt.IsKeyLit])]
    simp
  by_cases h400 : n = 400
  · subst h400
    rw [atKey_put_other (ne_key (by decide)), atKey_put_other (ne_key (by decide)), atKey_put_other (ne_key (by decide)), atKey_put_other (ne_key (by decide)), atKey_put_other (ne_key (by decide)), atKey_put_other (ne_key (by decide)), atKey_put_other (ne_key (by decide)), atKey_put_other (ne_key (by decide)), atKey_put_other (ne_key (by decide))]
    rw [atKey_put_same (IsMap.put (IsMap.put isMap_empty _ _) _ _) (by first | decide | trivial | exact Or.inl rfl | simp [WideAt.IsKeyLit])]
    simp
  by_cases h403 : n = 403
  · subst h403
    rw [atKey_put_other (ne_key (by decide)), atKey_put_other (ne_key (by decide)), atKey_put_other (ne_key (by decide)), atKey_put_other (ne_key (by decide)), atKey_put_other (ne_key (by decide)), atKey_put_other (ne_key (by decide)), atKey_put_other (ne_key (by decide)), atKey_put_other (ne_key (by decide))]
    rw [atKey_put_same (IsMap.put (IsMap.put (IsMap.put isMap_empty _ _) _ _) _ _) (by first | decide | trivial | exact Or.inl rfl | simp [WideAt.IsKeyLit])]
    simp
  by_cases h407 : n = 407
  · subst h407
    rw [atKey_put_other (ne_key (by decide)), atKey_put_other (ne_key (by decide)), atKey_put_other (ne_key (by decide)), atKey_put_other (ne_key (by decide)), atKey_put_other (ne_key (by decide)), atKey_put_other (ne_key (by decide)), atKey_put_other (ne_key (by decide))]
    rw [atKey_put_same (IsMap.put (IsMap.put (IsMap.put (IsMap.put isMap_empty _ _) _ _) _ _) _ _) (by first | decide | trivial | exact Or.inl rfl | simp [WideAt.IsKeyLit])]
    simp
  by_cases h413 : n = 413
  · subst h413
    rw [atKey_put_other (ne_key (by decide)), atKey_put_other (ne_key (by decide)), atKey_put_other (ne_key (by decide)), atKey_put_other (ne_key (by decide)), atKey_put_other (ne_key (by decide)), atKey_put_other (ne_key (by decide))]
    rw [atKey_put_same (IsMap.put (IsMap.put (IsMap.put (IsMap.put (IsMap.put isMap_empty _ _) _ _) _ _) _ _) _ _) (by first | decide | trivial | exact Or.inl rfl | simp [WideAt.IsKeyLit])]
    simp
  by_cases h429 : n = 429
  · subst h429
    rw [atKey_put_other (ne_key (by decide)), atKey_put_other (ne_key (by decide)), atKey_put_other (ne_key (by decide)), atKey_put_other (ne_key (by decide)), atKey_put_other (ne_key (by decide))]
    rw [atKey_put_same (IsMap.put (IsMap.put (IsMap.put (IsMap.put (IsMap.put (IsMap.put isMap_empty _ _) _ _) _ _) _ _) _ _) _ _) (by first | decide | trivial | exact Or.inl rfl | simp [WideAt.IsKeyLit])]
    simp
  by_cases h431 : n = 431
  · subst h431
    rw [atKey_put_other (ne_key (by decide)), atKey_put_other (ne_key (by decide)), atKey_put_other (ne_key (by decide)), atKey_put_other (ne_key (by decide))]
    rw [atKey_put_same (IsMap.put (IsMap.put (IsMap.put (IsMap.put (IsMap.put (IsMap.put (IsMap.put isMap_empty _ _) _ _) _ _) _ _) _ _) _ _) _ _) (by first | decide | trivial | exact Or.inl rfl | simp [WideAt.IsKeyLit])]
    simp
  by_cases h501 : n = 501
  · subst h501
    rw [atKey_put_other (ne_key (by decide)), atKey_put_other (ne_key (by decide)), atKey_put_other (ne_key (by decide))]
    rw [atKey_put_same (IsMap.put (IsMap.put (IsMap.put (IsMap.put (IsMap.put (IsMap.put (IsMap.put (IsMap.put isMap_empty _ _) _ _) _ _) _ _) _ _) _ _) _ _) _ _) (by first | decide | trivial | exact Or.inl rfl | simp [WideAt.IsKeyLit])]
    simp
  by_cases h502 : n = 502
  · subst h502
    rw [atKey_put_other (ne_key (by decide)), atKey_put_other (ne_key (by decide))]
    rw [atKey_put_same (IsMap.put (IsMap.put (IsMap.put (IsMap.put (IsMap.put (IsMap.put (IsMap.put (IsMap.put (IsMap.put isMap_empty _ _) _ _) _ _) _ _) _ _) _ _) _ _) _ _) _ _) (by first | decide | trivial | exact Or.inl rfl | simp [WideAt.IsKeyLit])]
    simp
  by_cases h503 : n = 503
  · subst h503
    rw [atKey_put_other (ne_key (by decide))]
    rw [atKey_put_same (IsMap.put (IsMap.put (IsMap.put (IsMap.put (IsMap.put (IsMap.put (IsMap.put (IsMap.put (IsMap.put (IsMap.put isMap_empty _ _) _ _) _ _) _ _) _ _) _ _) _ _) _ _) _ _) _ _) (by first | decide | trivial | exact Or.inl rfl | simp [WideAt.IsKeyLit])]
    simp
  by_cases h504 : n = 504
  · subst h504
    rw [atKey_put_same (IsMap.put (IsMap.put (IsMap.put (IsMap.put (IsMap.put (IsMap.put (IsMap.put (IsMap.put (IsMap.put (IsMap.put (IsMap.put isMap_empty _ _) _ _) _ _) _ _) _ _) _ _) _ _) _ _) _ _) _ _) _ _) (by first | decide | trivial | exact Or.inl rfl | simp [WideAt.IsKeyLit])]
    simp
  rw [atKey_put_other (ne_key h504), atKey_put_other (ne_key h503), atKey_put_other (ne_key h502), atKey_put_other (ne_key h501), atKey_put_other (ne_key h431), atKey_put_other (ne_key h429), atKey_put_other (ne_key h413), atKey_put_other (ne_key h407), atKey_put_other (ne_key h403), atKey_put_other (ne_key h400), atKey_put_other (ne_key h304), atKey_put_other (ne_key h200)]
  rw [if_neg h200, if_neg h304, if_neg h400, if_neg h403, if_neg h407, if_neg h413, if_neg h429, if_neg h431, if_neg h501, if_neg h502, if_neg h503, if_neg h504]
  rfl
def start_Reason.f (a0 : Int) : Option ByteArray := if -9223372036854775808 ≤ a0 ∧ a0 ≤ 9223372036854775807 then some (reasonB a0) else none
theorem bytes_same {a b : ByteArray} (h : a.data.toList = b.data.toList) : a = b := by
  cases a; cases b
  simp only at h
  congr 1
  exact Array.ext' h
theorem keyedI : Keyed Tryd.prog 3 := int_keyed Tryd.underlying3
theorem zeroStr (w : World) : (zeroValue 9).run Tryd.prog w = .ok (.string ⟨#[]⟩) w := by kernel_rfl
set_option maxRecDepth 100000 in
set_option maxHeartbeats 4000000 in
theorem start_Reason.calls (a0 : Int) (r : ByteArray) (w : World) (HGg : Glob w) (h : start_Reason.f a0 = some r) : Calls Tryd.prog 16 #[.int .i64 a0] w fun e w' => e = .returned (.string r) ∧ Below w.heap.size w w' := by
  obtain ⟨⟨h1, h2⟩, rfl⟩ := of_lim h
  have hmm := @run_makeMap Tryd.prog
  have HO := Lib.hid (World.ownsMap_made (H := Unit) w Tryd.prog 3 (plainElem Tryd.prog 9))
  have HB : Hid (Below w.heap.size w (w.alloc (.map #[] 0))) := Lib.hid (below_alc (Below.refl _ _) _)
  go_enter Tryd.func16, Tryd.ntmps16
  go_wp2_with (first
    | (refine wpList_insert_own _ rfl _ _ _ 55 rfl 3 9 keyedI Tryd.underlying55 _ w.heap.size _ _ rfl HO.out (by unfold maxLen; omega) _ _ _ rfl rfl (keyOf_int_mk Tryd.underlying3 (by decide)) _ [] (plainElem_string Tryd.underlying9 (by decide)) ?_; intro w1 hown1 hg1; have HB1 := Lib.hid (HB.out.grown hg1 HB.out.size (fun j hj => by cases hj; exact Nat.le_refl _)); clear HO HB; have HO := Lib.hid hown1; have HB := HB1; clear hown1 hg1 HB1)
    | (at_lookup; refine wpList_lookup_own_str _ rfl _ _ 55 rfl 3 9 keyedI Tryd.underlying55 Tryd.underlying9 (zeroStr _) w.heap.size _ _ rfl HO.out _ _ rfl (keyOf_int_mk Tryd.underlying3 (WalkArith.wf_i64 ⟨h1, h2⟩)) ?_; intro s hat; have HAT := Lib.hid hat; clear hat))
  go_ret
  refine ⟨ret_str ?_, HB.out⟩
  have e1 := reason_at Unit a0
  have e2 := HAT.out
  have e3 : (Lit.string s.data.toList) = .string (reasonB a0).data.toList := by
    have e4 := e2.symm.trans e1
    injection e4
  injection e3 with e5
  exact bytes_same e5
end Go.Proofs.YtpoljchfgdnmbaaDoor.X

/- strconv.Atoi at every text, under one statement. -/
namespace Go.Proofs.YtpoljchfgdnmbaaDoor.T
open Go.RowKit
set_option linter.unusedVariables false
def atoiOk (s : ByteArray) : Bool := match Lib.atoiAll s.data.toList with | .ok _ => true | _ => false
def atoiV (s : ByteArray) : Int := match Lib.atoiAll s.data.toList with | .ok v => v | .range => Lib.atoiSat s.data.toList | _ => 0
theorem atoi_any (s : ByteArray) (hlim : s.size ≤ 281474976710656) (w : World) (hg : Glob w) :
    Calls Tryd.prog 28 #[.string s] w fun e w' => ∃ ev, e = .returned (.tuple #[.int .i64 (atoiV s), ev]) ∧ (if atoiOk s then ev = .nilIface else ∃ t p, ev = .iface t p) ∧ Below w.heap.size w w' := by
  unfold atoiV atoiOk
  rcases h : Lib.atoiAll s.data.toList with v | _ | _
  · refine (Tryd.strconv_Atoi_ok s (by omega) v h w).mono fun e w' ⟨he, hw⟩ => ⟨_, he, by simp, ?_⟩
    rcases hw with rfl | ⟨t, rfl⟩
    · exact Below.refl _ _
    · exact below_bytes (Below.refl _ _) _ _
  · obtain ⟨tp, p, hv⟩ := hg.errSyntax
    refine (Tryd.strconv_Atoi_syntax_var s hlim h tp p w hv).mono fun e w' ⟨N, he, h1, h2, hb⟩ => ⟨_, he, by simp, hb⟩
  · obtain ⟨tp, p, hv⟩ := hg.errRange
    refine (Tryd.strconv_Atoi_range_var s hlim h tp p w hv).mono fun e w' ⟨N, he, h1, h2, hb⟩ => ⟨_, he, by simp, hb⟩
end Go.Proofs.YtpoljchfgdnmbaaDoor.T

/- start.Status in the print's form. -/
namespace Go.Proofs.YtpoljchfgdnmbaaDoor.X
open Go.RowKit Go.Proofs.YtpoljchfgdnmbaaDoorW.PrintWords Go.Proofs.YtpoljchfgdnmbaaDoorW.PrintLast Go.Proofs.YtpoljchfgdnmbaaDoorW.PrintMore Go.Proofs.YtpoljchfgdnmbaaDoor.T
set_option linter.unusedSimpArgs false
set_option linter.unusedVariables false
def split3 (s : ByteArray) : List ByteArray := Lib.splitB ⟨#[32]⟩ 0 (min 3 (s.size + 1) - 1) s
def noStatus : Int × Int × ByteArray × Int := (0, 0, (⟨#[]⟩ : ByteArray), 5)
def statusL (a0 : ByteArray) : List ByteArray → Option (Int × Int × ByteArray × Int)
  | [p0, p1, p2] => if p0.toList = ([] : List UInt8) then some noStatus else
        (start_minorOf.f p0).bind fun m => (start_PutStatus.f m (atoiV p1) p2).bind fun t =>
          if atoiOk p1 = true ∧ t.2 = 0 ∧ t.1.toList = a0.toList then some (m, atoiV p1, p2, 0) else some noStatus
  | _ => some noStatus
def start_Status.f (a0 : ByteArray) : Option (Int × Int × ByteArray × Int) := if a0.size < 4294967281 then statusL a0 (split3 a0) else none
theorem of_limS {α : Type} {c : Prop} [Decidable c] {x : Option α} {r : α} (h : (if c then x else none) = some r) : c ∧ x = some r := by
  by_cases hc : c
  · rw [if_pos hc] at h; exact ⟨hc, h⟩
  · rw [if_neg hc] at h; cases h
theorem splitK_size' (sep : ByteArray) : ∀ (k : Nat) (s : ByteArray), ∀ x ∈ Lib.splitB sep 0 k s, x.size ≤ s.size
  | 0, s, x, hx => by simp [Lib.splitB] at hx; subst hx; exact Nat.le_refl _
  | k + 1, s, x, hx => by
    unfold Lib.splitB at hx
    split at hx
    · simp at hx; subst hx; exact Nat.le_refl _
    · rcases List.mem_cons.1 hx with rfl | hx
      · rw [ByteArray.size_extract]; omega
      · have := splitK_size' sep k _ x hx
        rw [ByteArray.size_extract] at this; omega
theorem split3_any (s : ByteArray) (w : World) (hs : s.size < 4294967281) (hg : Glob w) : ∃ c, (split3 s).length ≤ c ∧
    Calls Tryd.prog 27 #[.string s, .string ⟨#[32]⟩, .int .i64 3] w fun e w' => e = .returned (.slice (some ⟨w.heap.size, 0, none⟩) (split3 s).length c) ∧ Below w.heap.size w w' ∧ ∀ j, j < (split3 s).length → w'.cell? ⟨w.heap.size, j, none⟩ = some (.string ((split3 s).getD j ByteArray.empty)) := by
  obtain ⟨m, hm⟩ := hg.maxLen
  have hle : (split3 s).length ≤ min 3 (s.size + 1) := by
    have := Lib.splitB_length_le ⟨#[32]⟩ 0 (min 3 (s.size + 1) - 1) s
    unfold split3; omega
  refine ⟨min 3 (s.size + 1), hle, ?_⟩
  refine (Tryd.strings_SplitN s ⟨#[32]⟩ 3 m w hs hm (Nat.le_refl _) (by omega) (by omega)).mono fun e w' ⟨he, hw⟩ => ?_
  subst hw
  refine ⟨he, below_alc (Below.refl _ _) _, fun j hj => ?_⟩
  rw [World.cell?_alloc_new]
  show (Lib.cellsOf (split3 s) _)[j]? = _
  unfold Lib.cellsOf
  simp [List.getD_eq_getElem?_getD, List.getElem?_append, hj]
set_option maxHeartbeats 4000000 in
theorem start_Status.calls (a0 : ByteArray) (r1 : Int) (r2 : Int) (r3 : ByteArray) (r4 : Int) (w : World) (HGg : Glob w) (h : start_Status.f a0 = some (r1, r2, r3, r4)) :
    Calls Tryd.prog 12 #[.string a0] w fun e w' => e = .returned (.tuple #[.int .i64 r1, .int .i64 r2, .string r3, .int .i64 r4]) ∧ Below w.heap.size w w' := by
  obtain ⟨hs, h⟩ := of_limS h
  obtain ⟨cap, hcap, hsp⟩ := split3_any a0 w hs HGg
  have HSP := Lib.hid hsp
  have HG := Lib.hid HGg
  have HZ : ∀ x ∈ split3 a0, x.size ≤ 281474976710656 := fun x hx => by have := splitK_size' _ _ _ x hx; omega
  clear hsp HGg
  generalize hls : split3 a0 = ls at HSP h hcap HZ
  clear hls
  by_cases h3 : ls.length = 3
  · match ls, h3 with
    | [p0, p1, p2], _ =>
      simp only [statusL] at h
      have hz1 := HZ p1 (by simp)
      clear HZ
      have HSP2 : Hid (Calls Tryd.prog 27 #[.string a0, .string ⟨#[32]⟩, .int .i64 3] w fun e w' => e = .returned (.slice (some ⟨w.heap.size, 0, none⟩) 3 cap) ∧ Below w.heap.size w w' ∧ w'.cell? ⟨w.heap.size, 0, none⟩ = some (.string p0) ∧ w'.cell? ⟨w.heap.size, 1, none⟩ = some (.string p1) ∧ w'.cell? ⟨w.heap.size, 2, none⟩ = some (.string p2)) :=
        Lib.hid (HSP.out.mono fun e w' ⟨he, hb, hc⟩ => ⟨he, hb, hc 0 (by simp), hc 1 (by simp), hc 2 (by simp)⟩)
      clear HSP
      by_cases he : p0.toList = ([] : List UInt8)
      · rw [if_pos he] at h
        unfold noStatus at h
        simp only [Option.some.injEq, Prod.mk.injEq] at h
        obtain ⟨rfl, rfl, rfl, rfl⟩ := h
        have he2 : p0.toList.isEmpty = true := by rw [he]; rfl
        go_enter Tryd.func12, Tryd.ntmps12
        go_wp2_with (go_at_call 27; refine HSP2.out.mono ?_; rintro e w1 ⟨rfl, hb1, hc0, hc1, hc2⟩)
        refine bodyPost_ret (results_list (rs := [.tmp 2, .tmp 3, .tmp 4, .tmp 5]) rfl (by simp) (.tmp (.tmp (.tmp (.tmp .nil))))) rfl ?_
        exact ⟨rfl, hb1⟩
      · rw [if_neg he] at h
        have he2 : p0.toList.isEmpty = false := by simpa using he
        obtain ⟨m, hm, h⟩ := Option.bind_eq_some_iff.mp h
        obtain ⟨⟨t1, t2⟩, ht, h⟩ := Option.bind_eq_some_iff.mp h
        have HM : Hid (∀ W, Below w.heap.size w W → Calls Tryd.prog 21 #[.string p0] W fun e w' => e = .returned (.int .i64 m) ∧ Below W.heap.size W w') := Lib.hid (fun W hb => (start_minorOf.calls p0 m W (HG.out.below hb) hm).mono fun e w' ⟨he, hd⟩ => ⟨he, by obtain ⟨⟨n, rfl⟩⟩ := hd; exact below_drewN1 W n⟩)
        have HA := Lib.hid (fun W (hb : Below w.heap.size w W) => atoi_any p1 hz1 W (HG.out.below hb))
        have HPS := Lib.hid (fun W (hb : Below w.heap.size w W) => start_PutStatus.calls m (atoiV p1) p2 t1 t2 W (HG.out.below hb) ht)
        clear hm ht hz1
        generalize atoiV p1 = av at HA HPS h
        simp only at h
        cases hok : atoiOk p1 with
        | false =>
          have HA2 : Hid (∀ W, Below w.heap.size w W → Calls Tryd.prog 28 #[.string p1] W fun e w' => (∃ tp vp, e = .returned (.tuple #[.int .i64 av, .iface tp vp])) ∧ Below W.heap.size W w') := Lib.hid (fun W hb => (HA.out W hb).mono fun e w' ⟨ev, he, hev, hb2⟩ => ⟨by
            rw [hok] at hev
            obtain ⟨tp, vp, rfl⟩ := hev
            exact ⟨tp, vp, he⟩, hb2⟩)
          rw [hok, if_neg (fun hh => by cases hh.1)] at h
          clear HA hok
          unfold noStatus at h
          simp only [Option.some.injEq, Prod.mk.injEq] at h
          obtain ⟨rfl, rfl, rfl, rfl⟩ := h
          go_enter Tryd.func12, Tryd.ntmps12
          go_wp2_with (first | (go_at_call 27; refine HSP2.out.mono ?_; rintro e w1 ⟨rfl, hb1, hc0, hc1, hc2⟩) | (go_at_call 21; refine (HM.out _ hb1).mono ?_; rintro e w2 ⟨rfl, hb2⟩; have HB2 := Lib.hid (below_next hb1 hb2); have hc1b := (hb2.cell (p := ⟨w.heap.size, 1, none⟩) (World.block_lt_of_cell? w1 _ hc1)).trans hc1; have hc2b := (hb2.cell (p := ⟨w.heap.size, 2, none⟩) (World.block_lt_of_cell? w1 _ hc2)).trans hc2; clear hb2) | (go_at_call 28; refine (HA2.out _ HB2.out).mono ?_; rintro e w3 ⟨⟨tp, vp, rfl⟩, hb3⟩; have HB3 := Lib.hid (below_next HB2.out hb3); have hc2c := (hb3.cell (p := ⟨w.heap.size, 2, none⟩) (World.block_lt_of_cell? w2 _ hc2b)).trans hc2b; clear hb3) | (go_at_call 14; refine (HPS.out _ HB3.out).mono ?_; rintro e w4 ⟨rfl, hb4⟩; have HB4 := Lib.hid (below_next HB3.out hb4); have hc2d := (hb4.cell (p := ⟨w.heap.size, 2, none⟩) (World.block_lt_of_cell? w3 _ hc2c)).trans hc2c; clear hb4))
          refine bodyPost_ret (results_list (rs := [.tmp 2, .tmp 3, .tmp 4, .tmp 5]) rfl (by simp) (.tmp (.tmp (.tmp (.tmp .nil))))) rfl ?_
          exact ⟨rfl, HB4.out⟩
        | true =>
          have HA2 : Hid (∀ W, Below w.heap.size w W → Calls Tryd.prog 28 #[.string p1] W fun e w' => e = .returned (.tuple #[.int .i64 av, .nilIface]) ∧ Below W.heap.size W w') := Lib.hid (fun W hb => (HA.out W hb).mono fun e w' ⟨ev, he, hev, hb2⟩ => ⟨by
            rw [hok] at hev
            have : ev = .nilIface := hev
            rw [this] at he; exact he, hb2⟩)
          rw [hok] at h
          clear HA hok
          by_cases h0 : t2 = 0
          · subst h0
            by_cases heq : t1.toList = a0.toList
            · rw [if_pos ⟨rfl, rfl, heq⟩] at h
              have heq2 : (t1.toList == a0.toList) = true := by simpa using heq
              clear heq
              simp only [Option.some.injEq, Prod.mk.injEq] at h
              obtain ⟨rfl, rfl, rfl, rfl⟩ := h
              go_enter Tryd.func12, Tryd.ntmps12
              go_wp2_with (first | (go_at_call 27; refine HSP2.out.mono ?_; rintro e w1 ⟨rfl, hb1, hc0, hc1, hc2⟩) | (go_at_call 21; refine (HM.out _ hb1).mono ?_; rintro e w2 ⟨rfl, hb2⟩; have HB2 := Lib.hid (below_next hb1 hb2); have hc1b := (hb2.cell (p := ⟨w.heap.size, 1, none⟩) (World.block_lt_of_cell? w1 _ hc1)).trans hc1; have hc2b := (hb2.cell (p := ⟨w.heap.size, 2, none⟩) (World.block_lt_of_cell? w1 _ hc2)).trans hc2; clear hb2) | (go_at_call 28; refine (HA2.out _ HB2.out).mono ?_; rintro e w3 ⟨rfl, hb3⟩; have HB3 := Lib.hid (below_next HB2.out hb3); have hc2c := (hb3.cell (p := ⟨w.heap.size, 2, none⟩) (World.block_lt_of_cell? w2 _ hc2b)).trans hc2b; clear hb3) | (go_at_call 14; refine (HPS.out _ HB3.out).mono ?_; rintro e w4 ⟨rfl, hb4⟩; have HB4 := Lib.hid (below_next HB3.out hb4); have hc2d := (hb4.cell (p := ⟨w.heap.size, 2, none⟩) (World.block_lt_of_cell? w3 _ hc2c)).trans hc2c; clear hb4))
              go_region
              all_goals
                go_wp2
                refine bodyPost_ret (results_list (rs := [.tmp 2, .tmp 3, .tmp 4, .tmp 5]) rfl (by simp) (.tmp (.tmp (.tmp (.tmp .nil))))) rfl ?_
                exact ⟨rfl, below_drw HB4.out⟩
            · rw [if_neg (fun hh => heq hh.2.2)] at h
              have heq2 : (t1.toList == a0.toList) = false := by simpa using heq
              clear heq
              unfold noStatus at h
              simp only [Option.some.injEq, Prod.mk.injEq] at h
              obtain ⟨rfl, rfl, rfl, rfl⟩ := h
              go_enter Tryd.func12, Tryd.ntmps12
              go_wp2_with (first | (go_at_call 27; refine HSP2.out.mono ?_; rintro e w1 ⟨rfl, hb1, hc0, hc1, hc2⟩) | (go_at_call 21; refine (HM.out _ hb1).mono ?_; rintro e w2 ⟨rfl, hb2⟩; have HB2 := Lib.hid (below_next hb1 hb2); have hc1b := (hb2.cell (p := ⟨w.heap.size, 1, none⟩) (World.block_lt_of_cell? w1 _ hc1)).trans hc1; have hc2b := (hb2.cell (p := ⟨w.heap.size, 2, none⟩) (World.block_lt_of_cell? w1 _ hc2)).trans hc2; clear hb2) | (go_at_call 28; refine (HA2.out _ HB2.out).mono ?_; rintro e w3 ⟨rfl, hb3⟩; have HB3 := Lib.hid (below_next HB2.out hb3); have hc2c := (hb3.cell (p := ⟨w.heap.size, 2, none⟩) (World.block_lt_of_cell? w2 _ hc2b)).trans hc2b; clear hb3) | (go_at_call 14; refine (HPS.out _ HB3.out).mono ?_; rintro e w4 ⟨rfl, hb4⟩; have HB4 := Lib.hid (below_next HB3.out hb4); have hc2d := (hb4.cell (p := ⟨w.heap.size, 2, none⟩) (World.block_lt_of_cell? w3 _ hc2c)).trans hc2c; clear hb4))
              refine bodyPost_ret (results_list (rs := [.tmp 2, .tmp 3, .tmp 4, .tmp 5]) rfl (by simp) (.tmp (.tmp (.tmp (.tmp .nil))))) rfl ?_
              exact ⟨rfl, HB4.out⟩
          · rw [if_neg (fun hh => h0 hh.2.1)] at h
            have h02 : (t2 == 0) = false := by simpa using h0
            unfold noStatus at h
            simp only [Option.some.injEq, Prod.mk.injEq] at h
            obtain ⟨rfl, rfl, rfl, rfl⟩ := h
            go_enter Tryd.func12, Tryd.ntmps12
            go_wp2_with (first | (go_at_call 27; refine HSP2.out.mono ?_; rintro e w1 ⟨rfl, hb1, hc0, hc1, hc2⟩) | (go_at_call 21; refine (HM.out _ hb1).mono ?_; rintro e w2 ⟨rfl, hb2⟩; have HB2 := Lib.hid (below_next hb1 hb2); have hc1b := (hb2.cell (p := ⟨w.heap.size, 1, none⟩) (World.block_lt_of_cell? w1 _ hc1)).trans hc1; have hc2b := (hb2.cell (p := ⟨w.heap.size, 2, none⟩) (World.block_lt_of_cell? w1 _ hc2)).trans hc2; clear hb2) | (go_at_call 28; refine (HA2.out _ HB2.out).mono ?_; rintro e w3 ⟨rfl, hb3⟩; have HB3 := Lib.hid (below_next HB2.out hb3); have hc2c := (hb3.cell (p := ⟨w.heap.size, 2, none⟩) (World.block_lt_of_cell? w2 _ hc2b)).trans hc2b; clear hb3) | (go_at_call 14; refine (HPS.out _ HB3.out).mono ?_; rintro e w4 ⟨rfl, hb4⟩; have HB4 := Lib.hid (below_next HB3.out hb4); have hc2d := (hb4.cell (p := ⟨w.heap.size, 2, none⟩) (World.block_lt_of_cell? w3 _ hc2c)).trans hc2c; clear hb4))
            refine bodyPost_ret (results_list (rs := [.tmp 2, .tmp 3, .tmp 4, .tmp 5]) rfl (by simp) (.tmp (.tmp (.tmp (.tmp .nil))))) rfl ?_
            exact ⟨rfl, HB4.out⟩
  · have h5 : some noStatus = some (r1, r2, r3, r4) := by
      rw [← h]
      match ls, h3 with
      | [], _ => rfl
      | [_], _ => rfl
      | [_, _], _ => rfl
      | [_, _, _], h3 => exact absurd rfl h3
      | _ :: _ :: _ :: _ :: _, _ => rfl
    unfold noStatus at h5
    simp only [Option.some.injEq, Prod.mk.injEq] at h5
    obtain ⟨rfl, rfl, rfl, rfl⟩ := h5
    clear h HZ
    generalize ls.length = n at HSP h3 hcap
    have hn3 : ¬ (n : Int) = 3 := by omega
    have HSP2 : Hid (Calls Tryd.prog 27 #[.string a0, .string ⟨#[32]⟩, .int .i64 3] w fun e w' => e = .returned (.slice (some ⟨w.heap.size, 0, none⟩) n cap) ∧ Below w.heap.size w w') := Lib.hid (HSP.out.mono fun e w' ⟨he, hb, hc⟩ => ⟨he, hb⟩)
    clear HSP h3
    go_enter Tryd.func12, Tryd.ntmps12
    go_wp2_with (go_at_call 27; refine HSP2.out.mono ?_; rintro e w1 ⟨rfl, hb1⟩)
    refine bodyPost_ret (results_list (rs := [.tmp 2, .tmp 3, .tmp 4, .tmp 5]) rfl (by simp) (.tmp (.tmp (.tmp (.tmp .nil))))) rfl ?_
    exact ⟨rfl, hb1⟩
end Go.Proofs.YtpoljchfgdnmbaaDoor.X
