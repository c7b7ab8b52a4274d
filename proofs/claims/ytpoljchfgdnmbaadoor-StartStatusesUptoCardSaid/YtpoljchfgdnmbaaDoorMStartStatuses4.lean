/- The law StartStatuses: what the walk shows, put together with the plain law, as the given statement asks it: true for every argument of bulk at most 1048576. -/
import Derived.Test.YtpoljchfgdnmbaaDoorMStartStatuses1
import Derived.Test.YtpoljchfgdnmbaaDoorMStartStatuses2
import Derived.Test.YtpoljchfgdnmbaaDoorMStartStatuses3
import Derived.Lib.ItoaLen
import Derived.Test.YtpoljchfgdnmbaaDoorCards
import Derived.Test.YtpoljchfgdnmbaaDoorTie
import Derived.WalkKit
import Derived.ProofKit
import Derived.OpenShut
import Derived.ShutString
import Derived.ChangeOld
import Derived.Below
import Derived.SizedLaws
import Derived.Deep.DeepHandedRow
import Derived.Deep.DeepWitnessRowRef
-- PRINTED by print.py (a twelfth state) out of the translation. Not trusted: Lean checks it.
namespace Go.Proofs.YtpoljchfgdnmbaaDoor.X
open Go.RowKit Go.Proofs.YtpoljchfgdnmbaaDoorW.PrintWords Go.Proofs.YtpoljchfgdnmbaaDoorW.PrintLast Go.Proofs.YtpoljchfgdnmbaaDoorW.PrintMore
attribute [local go_sem] max2_int min2_int max_two min_two max_three min_three max_four min_four   -- for this text's walks alone
set_option linter.unusedVariables false
set_option linter.unusedSimpArgs false
open Go.Proofs.YtpoljchfgdnmbaaDoor.T

/-! ### tollhouseref06_Request: function 8 -/
mutual
def tollhouseref06_Request.l0 : Nat → ByteArray → List Int → Int → Option (ByteArray × ByteArray × Int × Int)
  | 0, _, _, _ => none
  | k + 1, x0, x6, x7 => if x7 < (x0.size : Int) then (if 0 ≤ x7 then (if (bt x0 x7) = 32 then (if x6.length < 17592186044416 then (tollhouseref06_Request.l0 k x0 (x6 ++ [x7]) (wrap64 (x7 + 1))) else (none)) else (tollhouseref06_Request.l0 k x0 x6 (wrap64 (x7 + 1)))) else (none)) else (if (x0.size : Int) > 512 then (tollhouseref06_Request.j1 k x0 x6 true) else (tollhouseref06_Request.j1 k x0 x6 ((x6.length : Int) != 2)))
def tollhouseref06_Request.j1 : Nat → ByteArray → List Int → Bool → Option (ByteArray × ByteArray × Int × Int)
  | 0, _, _, _ => none
  | k + 1, x0, x6, x32 => if x32 = true then (some ((⟨#[]⟩ : ByteArray), (⟨#[]⟩ : ByteArray), 0, 5)) else (if 0 < (x6.length : Int) then (if 0 ≤ (rd x6 0) then (if (rd x6 0) ≤ (x0.size : Int) then (if 1 < (x6.length : Int) then (if 0 ≤ (wrap64 ((rd x6 0) + 1)) then (if (wrap64 ((rd x6 0) + 1)) ≤ (rd x6 1) then (if (rd x6 1) ≤ (x0.size : Int) then (if 0 ≤ (wrap64 ((rd x6 1) + 1)) then (if (wrap64 ((rd x6 1) + 1)) ≤ (x0.size : Int) then ((tollhouseref06_minor.f (x0.extract ((wrap64 ((rd x6 1) + 1)) : Int).toNat x0.size)).bind fun t124 => ((tollhouseref02_Token.f (x0.extract 0 ((rd x6 0) : Int).toNat)).bind fun t125 => (if t125 = true then (if ((x0.extract 0 ((rd x6 0) : Int).toNat).size : Int) > 32 then (some ((⟨#[]⟩ : ByteArray), (⟨#[]⟩ : ByteArray), 0, 5)) else ((tollhouseref06_target.f k (x0.extract ((wrap64 ((rd x6 0) + 1)) : Int).toNat ((rd x6 1) : Int).toNat)).bind fun t126 => (if t126 = true then (if t124 < 0 then (some ((⟨#[]⟩ : ByteArray), (⟨#[]⟩ : ByteArray), 0, 5)) else (some (x0.extract 0 ((rd x6 0) : Int).toNat, x0.extract ((wrap64 ((rd x6 0) + 1)) : Int).toNat ((rd x6 1) : Int).toNat, t124, 0))) else (some ((⟨#[]⟩ : ByteArray), (⟨#[]⟩ : ByteArray), 0, 5))))) else (some ((⟨#[]⟩ : ByteArray), (⟨#[]⟩ : ByteArray), 0, 5))))) else (none)) else (none)) else (none)) else (none)) else (none)) else (none)) else (none)) else (none)) else (none))
end
def tollhouseref06_Request.f (k : Nat) (a0 : ByteArray) : Option (ByteArray × ByteArray × Int × Int) := tollhouseref06_Request.l0 k a0 ([] : List Int) 0
theorem tollhouseref06_Request.mono_l : ∀ k, (∀ y0 y1 y2, LeO (tollhouseref06_Request.l0 k y0 y1 y2) (tollhouseref06_Request.l0 (k + 1) y0 y1 y2)) ∧ (∀ y0 y1 y2, LeO (tollhouseref06_Request.j1 k y0 y1 y2) (tollhouseref06_Request.j1 (k + 1) y0 y1 y2))
  | 0 => ⟨fun _ _ _ r h => by simp [tollhouseref06_Request.l0] at h, fun _ _ _ r h => by simp [tollhouseref06_Request.j1] at h⟩
  | k + 1 => by
    obtain ⟨ih0, ih1⟩ := tollhouseref06_Request.mono_l k
    refine ⟨?_, ?_⟩
    · intro y0 y1 y2
      unfold tollhouseref06_Request.l0
      repeat' first
      | (with_reducible exact ih0 _ _ _)
      | (with_reducible exact ih1 _ _ _)
      | (with_reducible exact tollhouseref06_target.mono _ _)
      | (with_reducible exact LeO.refl _)
      | (with_reducible exact LeO.none _)
      | (with_reducible refine LeO.ite ?_ ?_)
      | (with_reducible refine LeO.bind ?_ (fun _ => ?_))
      | exact ih0 _ _ _
      | exact ih1 _ _ _
      | exact tollhouseref06_target.mono _ _
      | exact LeO.none _
      | refine LeO.ite ?_ ?_
      | refine LeO.bind ?_ (fun _ => ?_)
    · intro y0 y1 y2
      unfold tollhouseref06_Request.j1
      repeat' first
      | (with_reducible exact ih0 _ _ _)
      | (with_reducible exact ih1 _ _ _)
      | (with_reducible exact tollhouseref06_target.mono _ _)
      | (with_reducible exact LeO.refl _)
      | (with_reducible exact LeO.none _)
      | (with_reducible refine LeO.ite ?_ ?_)
      | (with_reducible refine LeO.bind ?_ (fun _ => ?_))
      | exact ih0 _ _ _
      | exact ih1 _ _ _
      | exact tollhouseref06_target.mono _ _
      | exact LeO.none _
      | refine LeO.ite ?_ ?_
      | refine LeO.bind ?_ (fun _ => ?_)
theorem tollhouseref06_Request.mono : ∀ a0 k, LeO (tollhouseref06_Request.f k a0) (tollhouseref06_Request.f (k + 1) a0) := by
  intro a0 k
  obtain ⟨ih0, ih1⟩ := tollhouseref06_Request.mono_l k
  unfold tollhouseref06_Request.f
  repeat' first
      | (with_reducible exact ih0 _ _ _)
      | (with_reducible exact ih1 _ _ _)
      | (with_reducible exact tollhouseref06_target.mono _ _)
      | (with_reducible exact LeO.refl _)
      | (with_reducible exact LeO.none _)
      | (with_reducible refine LeO.ite ?_ ?_)
      | (with_reducible refine LeO.bind ?_ (fun _ => ?_))
      | exact ih0 _ _ _
      | exact ih1 _ _ _
      | exact tollhouseref06_target.mono _ _
      | exact LeO.none _
      | refine LeO.ite ?_ ?_
      | refine LeO.bind ?_ (fun _ => ?_)
set_option maxHeartbeats 8000000 in
set_option maxRecDepth 100000 in
theorem tollhouseref06_Request.calls (k : Nat) (a0 : ByteArray) (r1 : ByteArray) (r2 : ByteArray) (r3 : Int) (r4 : Int) (w : World) (HGg : Glob w) (h : tollhouseref06_Request.f k a0 = some (r1, r2, r3, r4)) :
    Calls Tryd.prog 8 #[.string a0] w fun e w' => e = .returned (.tuple #[.string r1, .string r2, .int .i64 r3, .int .i64 r4]) ∧ Below w.heap.size w w' := by
  have HGl := Aside0.mk HGg
  clear HGg
  have HB := Aside0.mk (Below.refl w.heap.size w)
  have H : (tollhouseref06_Request.l0 k a0 ([] : List Int) 0) = some (r1, r2, r3, r4) := h
  clear h
  have H' := Aside0.mk H
  clear H
  go_enter Tryd.func8, Tryd.ntmps8
  go_wp2
  repeat (go_quiet (fail); try go_wp2)
  go_loopg [6, 7] k (fun kq v6 v7 w' => ∃ (x6_1 : List Int) (x7_1 : Int), v7 = .int .i64 x7_1 ∧ Aside0 (tollhouseref06_Request.l0 kq a0 x6_1 x7_1 = some (r1, r2, r3, r4)) ∧ Aside0 (kq ≤ k) ∧ Aside0 (Kd.R (Kd.int .i64) 3 w' w.heap.size (fun _ => True) v6 x6_1) ∧ Aside0 (Below w.heap.size w w'))
  case atStart => exact ⟨(([] : List Int)), (0), (by first | rfl | (simp; done) | (simp [*]; done)), H', ⟨Nat.le_refl _⟩, ⟨by first | exact Kd.R_nil _ _ _ _ _ | exact Kd.N_nil _ _ _ _ _ | exact Kd.V_nil _ _ _ _ _ | exact Kd.Q_nil _ _ _ _ _ | exact Kd.S_nil _ _ _ _ _⟩, ⟨by repeat (first | (with_reducible first | exact HB.out | apply below_alloc | apply pw_below_drewN | apply below_drew1) | exact HB.out)⟩⟩
  case round =>
    clear H'
    obtain ⟨x6_1, x7_1, rfl, HA, HK1, HO_6, HB⟩ := hrel
    cases gk with
    | zero => exact absurd HA.out (by simp [tollhouseref06_Request.l0])
    | succ k1 =>
      have H := HA.out
      clear HA
      simp only [tollhouseref06_Request.l0] at H
      by_cases c2 : x7_1 < (a0.size : Int)
      · rw [if_pos c2] at H
        have c2b0 : decide (x7_1 < (a0.size : Int)) = true := decide_eq_true c2
        clear c2
        by_cases c3 : 0 ≤ x7_1
        · rw [if_pos c3] at H
          have c3b0 : decide (0 ≤ x7_1) = true := decide_eq_true c3
          clear c3
          by_cases c5 : (bt a0 x7_1) = 32
          · rw [if_pos c5] at H
            have c5b0 : ((bt a0 x7_1) == 32) = true := beq_iff_eq.mpr c5
            have c5b1 : ((bt a0 x7_1) != 32) = false := bne_eq_false_iff_eq.mpr c5
            clear c5
            by_cases c6 : x6_1.length < 17592186044416
            · rw [if_pos c6] at H
              have LMc6 := Aside0.mk c6
              clear c6
              obtain ⟨y117, hy117⟩ : ∃ y_ : List Int, y_ = (x6_1 ++ [x7_1]) := ⟨_, rfl⟩
              replace H : (tollhouseref06_Request.l0 k1 a0 y117 (wrap64 (x7_1 + 1))) = some (r1, r2, r3, r4) := by first | (rw [hy117]; with_reducible exact H) | (have H2_ := (Option.bind_some _ _).symm.trans H; rw [hy117]; with_reducible exact H2_) | (have H2_ := (Option.bind_some _ _).symm.trans H; with_reducible exact H2_) | with_reducible exact H | (rw [hy117]; exact H) | exact H
              have Ny117 := Aside0.mk hy117
              clear hy117
              have H' := Aside0.mk H
              clear H
              have p4 : 0 ≤ (x7_1 : Int) := of_decide_eq_true (by first | (with_reducible assumption) | assumption)
              have q4 : x7_1 < (a0.size : Int) := of_decide_eq_true (by first | (with_reducible assumption) | assumption)
              have hx4 := bt_at a0 x7_1
              replace p4 := eq_true p4
              replace q4 := eq_true q4
              go_wp2_with (first | ((with_reducible refine gate_builtin (b := .append) (xs := #[.tmp 21, .tmp 23]) rfl ?_); (try (refine gate_guard (by rfl) ?_; dsimp only)); at_builtin; refine Kd.R_append (Kd.int .i64) (w0 := w) w.heap.size rfl (.tmp 21) (.tmp 23) 48 3 (.int .i64 0) 8 rfl Tryd.underlying48 info3 rfl (by decide) (by omega) u6 x6_1 x7_1 [.int .i64 x7_1] (fun _ => True) (fun _ => False) rfl rfl ?aP (fun _ hk => hk.elim) ?aF ?aO ?aB ?aS ?aL ?_; (case aP => exact rfl); (case aB => exact (by repeat (first | (with_reducible first | exact HB.out | apply below_alloc | apply pw_below_drewN | apply below_drew1) | exact HB.out))); (case aF => exact (fun _ _ => trivial)); (case aO => exact (by (with_reducible repeat (first | apply Kd.R_alloc | apply Kd.R_drewN | apply Kd.R_drew)); exact HO_6.out)); (case aS => exact (below_size (by repeat (first | (with_reducible first | exact HB.out | apply below_alloc | apply pw_below_drewN | apply below_drew1) | exact HB.out)))); (case aL => have := LMc6.out; omega); intro v118 w7 ho hb hg hat; rw [← Ny117.out] at ho; have n0_ := Aside0.mk (hb); have n1_ := Aside0.mk (ho); clear HB; clear HO_6; have HB := n0_; have HO119 := n1_; clear n0_ n1_; clear ho hb hg hat))
              repeat (go_quiet (first | ((with_reducible refine gate_builtin (b := .append) (xs := #[.tmp 21, .tmp 23]) rfl ?_); (try (refine gate_guard (by rfl) ?_; dsimp only)); at_builtin; refine Kd.R_append (Kd.int .i64) (w0 := w) w.heap.size rfl (.tmp 21) (.tmp 23) 48 3 (.int .i64 0) 8 rfl Tryd.underlying48 info3 rfl (by decide) (by omega) u6 x6_1 x7_1 [.int .i64 x7_1] (fun _ => True) (fun _ => False) rfl rfl ?aP (fun _ hk => hk.elim) ?aF ?aO ?aB ?aS ?aL ?_; (case aP => exact rfl); (case aB => exact (by repeat (first | (with_reducible first | exact HB.out | apply below_alloc | apply pw_below_drewN | apply below_drew1) | exact HB.out))); (case aF => exact (fun _ _ => trivial)); (case aO => exact (by (with_reducible repeat (first | apply Kd.R_alloc | apply Kd.R_drewN | apply Kd.R_drew)); exact HO_6.out)); (case aS => exact (below_size (by repeat (first | (with_reducible first | exact HB.out | apply below_alloc | apply pw_below_drewN | apply below_drew1) | exact HB.out)))); (case aL => have := LMc6.out; omega); intro v118 w7 ho hb hg hat; rw [← Ny117.out] at ho; have n0_ := Aside0.mk (hb); have n1_ := Aside0.mk (ho); clear HB; clear HO_6; have HB := n0_; have HO119 := n1_; clear n0_ n1_; clear ho hb hg hat)); try go_wp2_with (first | ((with_reducible refine gate_builtin (b := .append) (xs := #[.tmp 21, .tmp 23]) rfl ?_); (try (refine gate_guard (by rfl) ?_; dsimp only)); at_builtin; refine Kd.R_append (Kd.int .i64) (w0 := w) w.heap.size rfl (.tmp 21) (.tmp 23) 48 3 (.int .i64 0) 8 rfl Tryd.underlying48 info3 rfl (by decide) (by omega) u6 x6_1 x7_1 [.int .i64 x7_1] (fun _ => True) (fun _ => False) rfl rfl ?aP (fun _ hk => hk.elim) ?aF ?aO ?aB ?aS ?aL ?_; (case aP => exact rfl); (case aB => exact (by repeat (first | (with_reducible first | exact HB.out | apply below_alloc | apply pw_below_drewN | apply below_drew1) | exact HB.out))); (case aF => exact (fun _ _ => trivial)); (case aO => exact (by (with_reducible repeat (first | apply Kd.R_alloc | apply Kd.R_drewN | apply Kd.R_drew)); exact HO_6.out)); (case aS => exact (below_size (by repeat (first | (with_reducible first | exact HB.out | apply below_alloc | apply pw_below_drewN | apply below_drew1) | exact HB.out)))); (case aL => have := LMc6.out; omega); intro v118 w7 ho hb hg hat; rw [← Ny117.out] at ho; have n0_ := Aside0.mk (hb); have n1_ := Aside0.mk (ho); clear HB; clear HO_6; have HB := n0_; have HO119 := n1_; clear n0_ n1_; clear ho hb hg hat)))
              go_roundg k1
              case measure => have := HK1.out; omega
              case rel => exact ⟨(y117), (wrap64 (x7_1 + 1)), (by first | rfl | (simp; done) | (simp [*]; done)), H', ⟨by have := HK1.out; omega⟩, ⟨by (with_reducible repeat (first | apply Kd.R_alloc | apply Kd.R_drewN | apply Kd.R_drew)); exact HO119.out⟩, ⟨by repeat (first | (with_reducible first | exact HB.out | apply below_alloc | apply pw_below_drewN | apply below_drew1) | exact HB.out)⟩⟩
            · rw [if_neg c6] at H
              exact absurd H (by simp)
          · rw [if_neg c5] at H
            have c5b0 : ((bt a0 x7_1) == 32) = false := beq_eq_false_iff_ne.mpr c5
            have c5b1 : ((bt a0 x7_1) != 32) = true := bne_iff_ne.mpr c5
            have H' := Aside0.mk H
            clear H
            have p4 : 0 ≤ (x7_1 : Int) := of_decide_eq_true (by first | (with_reducible assumption) | assumption)
            have q4 : x7_1 < (a0.size : Int) := of_decide_eq_true (by first | (with_reducible assumption) | assumption)
            have hx4 := bt_at a0 x7_1
            replace p4 := eq_true p4
            replace q4 := eq_true q4
            go_wp2
            repeat (go_quiet (fail); try go_wp2)
            go_roundg k1
            case measure => have := HK1.out; omega
            case rel => exact ⟨(x6_1), (wrap64 (x7_1 + 1)), (by first | rfl | (simp; done) | (simp [*]; done)), H', ⟨by have := HK1.out; omega⟩, ⟨by (with_reducible repeat (first | apply Kd.R_alloc | apply Kd.R_drewN | apply Kd.R_drew)); exact HO_6.out⟩, ⟨by repeat (first | (with_reducible first | exact HB.out | apply below_alloc | apply pw_below_drewN | apply below_drew1) | exact HB.out)⟩⟩
        · rw [if_neg c3] at H
          exact absurd H (by simp)
      · rw [if_neg c2] at H
        have c2b0 : decide (x7_1 < (a0.size : Int)) = false := decide_eq_false c2
        clear c2
        have HC8 := Aside0.mk H
        clear H
        go_upto_region 7 with (fail)
        repeat (go_quiet (fail); go_upto_region 7 with (fail))
        go_cut [32] (fun v32 wc => ∃ (kq : Nat) (x32_7 : Bool), v32 = .bool x32_7 ∧ Aside0 (tollhouseref06_Request.j1 kq a0 x6_1 x32_7 = some (r1, r2, r3, r4)) ∧ Aside0 (kq ≤ k1) ∧ Aside0 (Kd.R (Kd.int .i64) 3 wc w.heap.size (fun _ => True) u6 x6_1) ∧ Aside0 (Below w.heap.size w wc))
        case first =>
          have H := HC8.out
          clear HC8
          by_cases c9 : (a0.size : Int) > 512
          · rw [if_pos c9] at H
            have c9b0 : decide (512 < (a0.size : Int)) = true := decide_eq_true c9
            have c9b1 : decide (512 < a0.size) = true := decide_eq_true (by omega)
            clear c9
            (first | rw [c9b0] | (simp only [i64_w, i32_w]; rw [c9b0]) | skip)
            have H' := Aside0.mk H
            clear H
            go_wp2
            repeat (go_quiet (fail); try go_wp2)
            go_meet
            case rel => exact ⟨_, (true), (by first | rfl | (simp; done) | (simp [*]; done)), H', ⟨by have := HK1.out; first | omega | exact Nat.le_refl _⟩, ⟨by (with_reducible repeat (first | apply Kd.R_alloc | apply Kd.R_drewN | apply Kd.R_drew)); exact HO_6.out⟩, ⟨by repeat (first | (with_reducible first | exact HB.out | apply below_alloc | apply pw_below_drewN | apply below_drew1) | exact HB.out)⟩⟩
          · rw [if_neg c9] at H
            have c9b0 : decide (512 < (a0.size : Int)) = false := decide_eq_false c9
            have c9b1 : decide (512 < a0.size) = false := decide_eq_false (by omega)
            clear c9
            (first | rw [c9b0] | (simp only [i64_w, i32_w]; rw [c9b0]) | skip)
            have H' := Aside0.mk H
            clear H
            obtain ⟨Ao10, co10, eo10⟩ := Kd.R_slice HO_6.out
            subst eo10
            go_wp2
            repeat (go_quiet (fail); try go_wp2)
            go_meet
            case rel => exact ⟨_, (((x6_1.length : Int) != 2)), (by first | rfl | (simp; done) | (simp [*]; done)), H', ⟨by have := HK1.out; first | omega | exact Nat.le_refl _⟩, ⟨by (with_reducible repeat (first | apply Kd.R_alloc | apply Kd.R_drewN | apply Kd.R_drew)); exact HO_6.out⟩, ⟨by repeat (first | (with_reducible first | exact HB.out | apply below_alloc | apply pw_below_drewN | apply below_drew1) | exact HB.out)⟩⟩
        case rest =>
          clear HC8
          try clear c2
          try clear c2b0
          try clear p2
          try clear c3
          try clear c3b0
          try clear p4
          try clear q4
          try clear hx4
          try clear c5
          try clear c5b0
          try clear c5b1
          try clear c6
          try clear p6
          try clear c8
          try clear c9
          try clear c9b0
          try clear c9b1
          try clear p4
          try clear q4
          obtain ⟨kq, x32_7, rfl, HA, HJ7, HO_6, HB⟩ := hcut
          cases kq with
          | zero => exact absurd HA.out (by simp [tollhouseref06_Request.j1])
          | succ kj7 =>
            have H := HA.out
            clear HA
            simp only [tollhouseref06_Request.j1] at H
            by_cases c11 : x32_7 = true
            · subst c11
              have H1 : (some ((⟨#[]⟩ : ByteArray), (⟨#[]⟩ : ByteArray), 0, 5)) = some (r1, r2, r3, r4) := by rw [if_pos rfl] at H; exact H
              clear H
              have H := H1
              clear H1
              simp only [Option.some.injEq, Prod.mk.injEq] at H
              obtain ⟨rfl, rfl, rfl, rfl⟩ := H
              go_wp2
              repeat (go_quiet (fail); try go_wp2)
              refine bodyPost_ret (results_list (rs := [.tmp 2, .tmp 3, .tmp 4, .tmp 5]) rfl (by simp) (.tmp (.tmp (.tmp (.tmp .nil))))) rfl ?_
              exact ⟨by first | rfl | (simp [errW_none, errW_some] <;> rfl) | (simp [*, errW_none, errW_some] <;> rfl), by repeat (first | (with_reducible first | exact HB.out | apply below_alloc | apply pw_below_drewN | apply below_drew1) | exact HB.out)⟩
            · replace c11 := Bool.eq_false_iff.mpr c11
              subst c11
              have H1 : (if 0 < (x6_1.length : Int) then (if 0 ≤ (rd x6_1 0) then (if (rd x6_1 0) ≤ (a0.size : Int) then (if 1 < (x6_1.length : Int) then (if 0 ≤ (wrap64 ((rd x6_1 0) + 1)) then (if (wrap64 ((rd x6_1 0) + 1)) ≤ (rd x6_1 1) then (if (rd x6_1 1) ≤ (a0.size : Int) then (if 0 ≤ (wrap64 ((rd x6_1 1) + 1)) then (if (wrap64 ((rd x6_1 1) + 1)) ≤ (a0.size : Int) then ((tollhouseref06_minor.f (a0.extract ((wrap64 ((rd x6_1 1) + 1)) : Int).toNat a0.size)).bind fun t124 => ((tollhouseref02_Token.f (a0.extract 0 ((rd x6_1 0) : Int).toNat)).bind fun t125 => (if t125 = true then (if ((a0.extract 0 ((rd x6_1 0) : Int).toNat).size : Int) > 32 then (some ((⟨#[]⟩ : ByteArray), (⟨#[]⟩ : ByteArray), 0, 5)) else ((tollhouseref06_target.f kj7 (a0.extract ((wrap64 ((rd x6_1 0) + 1)) : Int).toNat ((rd x6_1 1) : Int).toNat)).bind fun t126 => (if t126 = true then (if t124 < 0 then (some ((⟨#[]⟩ : ByteArray), (⟨#[]⟩ : ByteArray), 0, 5)) else (some (a0.extract 0 ((rd x6_1 0) : Int).toNat, a0.extract ((wrap64 ((rd x6_1 0) + 1)) : Int).toNat ((rd x6_1 1) : Int).toNat, t124, 0))) else (some ((⟨#[]⟩ : ByteArray), (⟨#[]⟩ : ByteArray), 0, 5))))) else (some ((⟨#[]⟩ : ByteArray), (⟨#[]⟩ : ByteArray), 0, 5))))) else (none)) else (none)) else (none)) else (none)) else (none)) else (none)) else (none)) else (none)) else (none)) = some (r1, r2, r3, r4) := by rw [if_neg (show ¬ (false = true) by decide)] at H; exact H
              clear H
              have H := H1
              clear H1
              by_cases c12 : 0 < (x6_1.length : Int)
              · rw [if_pos c12] at H
                have c12b0 : decide (0 < (x6_1.length : Int)) = true := decide_eq_true c12
                have c12b1 : decide (0 < x6_1.length) = true := decide_eq_true (by omega)
                clear c12
                by_cases c13 : 0 ≤ (rd x6_1 0)
                · rw [if_pos c13] at H
                  have c13b0 := eq_true c13
                  have c13b1 : decide (0 ≤ (rd x6_1 0)) = true := decide_eq_true c13
                  clear c13
                  by_cases c14 : (rd x6_1 0) ≤ (a0.size : Int)
                  · rw [if_pos c14] at H
                    have c14b0 := eq_true c14
                    have c14b1 : decide ((rd x6_1 0) ≤ (a0.size : Int)) = true := decide_eq_true c14
                    clear c14
                    by_cases c15 : 1 < (x6_1.length : Int)
                    · rw [if_pos c15] at H
                      have c15b0 : decide (1 < (x6_1.length : Int)) = true := decide_eq_true c15
                      have c15b1 : decide (1 < x6_1.length) = true := decide_eq_true (by omega)
                      clear c15
                      obtain ⟨ji16, hji16⟩ : ∃ j_ : Int, (wrap64 ((rd x6_1 0) + 1)) = j_ := ⟨_, rfl⟩
                      replace H : (if 0 ≤ (ji16) then (if (ji16) ≤ (rd x6_1 1) then (if (rd x6_1 1) ≤ (a0.size : Int) then (if 0 ≤ (wrap64 ((rd x6_1 1) + 1)) then (if (wrap64 ((rd x6_1 1) + 1)) ≤ (a0.size : Int) then ((tollhouseref06_minor.f (a0.extract ((wrap64 ((rd x6_1 1) + 1)) : Int).toNat a0.size)).bind fun t124 => ((tollhouseref02_Token.f (a0.extract 0 ((rd x6_1 0) : Int).toNat)).bind fun t125 => (if t125 = true then (if ((a0.extract 0 ((rd x6_1 0) : Int).toNat).size : Int) > 32 then (some ((⟨#[]⟩ : ByteArray), (⟨#[]⟩ : ByteArray), 0, 5)) else ((tollhouseref06_target.f kj7 (a0.extract ((ji16) : Int).toNat ((rd x6_1 1) : Int).toNat)).bind fun t126 => (if t126 = true then (if t124 < 0 then (some ((⟨#[]⟩ : ByteArray), (⟨#[]⟩ : ByteArray), 0, 5)) else (some (a0.extract 0 ((rd x6_1 0) : Int).toNat, a0.extract ((ji16) : Int).toNat ((rd x6_1 1) : Int).toNat, t124, 0))) else (some ((⟨#[]⟩ : ByteArray), (⟨#[]⟩ : ByteArray), 0, 5))))) else (some ((⟨#[]⟩ : ByteArray), (⟨#[]⟩ : ByteArray), 0, 5))))) else (none)) else (none)) else (none)) else (none)) else (none)) = some (r1, r2, r3, r4) := by first | (rw [hji16] at H; exact H) | (simp only [hji16] at H ⊢; exact H)
                      have hji16w : (IntKind.i64.wrap ((rd x6_1 0) + 1)) = ji16 := (i64_w _).trans hji16
                      by_cases c17 : 0 ≤ (ji16)
                      · rw [if_pos c17] at H
                        have c17b0 := eq_true c17
                        have c17b1 : decide (0 ≤ (ji16)) = true := decide_eq_true c17
                        clear c17
                        by_cases c18 : (ji16) ≤ (rd x6_1 1)
                        · rw [if_pos c18] at H
                          have c18b0 := eq_true c18
                          have c18b1 : decide ((ji16) ≤ (rd x6_1 1)) = true := decide_eq_true c18
                          clear c18
                          by_cases c19 : (rd x6_1 1) ≤ (a0.size : Int)
                          · rw [if_pos c19] at H
                            have c19b0 := eq_true c19
                            have c19b1 : decide ((rd x6_1 1) ≤ (a0.size : Int)) = true := decide_eq_true c19
                            clear c19
                            obtain ⟨ji20, hji20⟩ : ∃ j_ : Int, (wrap64 ((rd x6_1 1) + 1)) = j_ := ⟨_, rfl⟩
                            replace H : (if 0 ≤ (ji20) then (if (ji20) ≤ (a0.size : Int) then ((tollhouseref06_minor.f (a0.extract ((ji20) : Int).toNat a0.size)).bind fun t124 => ((tollhouseref02_Token.f (a0.extract 0 ((rd x6_1 0) : Int).toNat)).bind fun t125 => (if t125 = true then (if ((a0.extract 0 ((rd x6_1 0) : Int).toNat).size : Int) > 32 then (some ((⟨#[]⟩ : ByteArray), (⟨#[]⟩ : ByteArray), 0, 5)) else ((tollhouseref06_target.f kj7 (a0.extract ((ji16) : Int).toNat ((rd x6_1 1) : Int).toNat)).bind fun t126 => (if t126 = true then (if t124 < 0 then (some ((⟨#[]⟩ : ByteArray), (⟨#[]⟩ : ByteArray), 0, 5)) else (some (a0.extract 0 ((rd x6_1 0) : Int).toNat, a0.extract ((ji16) : Int).toNat ((rd x6_1 1) : Int).toNat, t124, 0))) else (some ((⟨#[]⟩ : ByteArray), (⟨#[]⟩ : ByteArray), 0, 5))))) else (some ((⟨#[]⟩ : ByteArray), (⟨#[]⟩ : ByteArray), 0, 5))))) else (none)) else (none)) = some (r1, r2, r3, r4) := by first | (rw [hji20] at H; exact H) | (simp only [hji20] at H ⊢; exact H)
                            have hji20w : (IntKind.i64.wrap ((rd x6_1 1) + 1)) = ji20 := (i64_w _).trans hji20
                            by_cases c21 : 0 ≤ (ji20)
                            · rw [if_pos c21] at H
                              have c21b0 := eq_true c21
                              have c21b1 : decide (0 ≤ (ji20)) = true := decide_eq_true c21
                              clear c21
                              by_cases c22 : (ji20) ≤ (a0.size : Int)
                              · rw [if_pos c22] at H
                                have c22b0 := eq_true c22
                                have c22b1 : decide ((ji20) ≤ (a0.size : Int)) = true := decide_eq_true c22
                                clear c22
                                replace H := Option.bind_eq_some_iff.mp H
                                obtain ⟨t124, A230, H⟩ := H
                                replace H : ((tollhouseref02_Token.f (a0.extract 0 ((rd x6_1 0) : Int).toNat)).bind fun t125 => (if t125 = true then (if ((a0.extract 0 ((rd x6_1 0) : Int).toNat).size : Int) > 32 then (some ((⟨#[]⟩ : ByteArray), (⟨#[]⟩ : ByteArray), 0, 5)) else ((tollhouseref06_target.f kj7 (a0.extract ((ji16) : Int).toNat ((rd x6_1 1) : Int).toNat)).bind fun t126 => (if t126 = true then (if t124 < 0 then (some ((⟨#[]⟩ : ByteArray), (⟨#[]⟩ : ByteArray), 0, 5)) else (some (a0.extract 0 ((rd x6_1 0) : Int).toNat, a0.extract ((ji16) : Int).toNat ((rd x6_1 1) : Int).toNat, t124, 0))) else (some ((⟨#[]⟩ : ByteArray), (⟨#[]⟩ : ByteArray), 0, 5))))) else (some ((⟨#[]⟩ : ByteArray), (⟨#[]⟩ : ByteArray), 0, 5)))) = some (r1, r2, r3, r4) := H
                                have A23 := Aside0.mk A230
                                clear A230
                                replace H := Option.bind_eq_some_iff.mp H
                                obtain ⟨t125, A240, H⟩ := H
                                replace H : (if t125 = true then (if ((a0.extract 0 ((rd x6_1 0) : Int).toNat).size : Int) > 32 then (some ((⟨#[]⟩ : ByteArray), (⟨#[]⟩ : ByteArray), 0, 5)) else ((tollhouseref06_target.f kj7 (a0.extract ((ji16) : Int).toNat ((rd x6_1 1) : Int).toNat)).bind fun t126 => (if t126 = true then (if t124 < 0 then (some ((⟨#[]⟩ : ByteArray), (⟨#[]⟩ : ByteArray), 0, 5)) else (some (a0.extract 0 ((rd x6_1 0) : Int).toNat, a0.extract ((ji16) : Int).toNat ((rd x6_1 1) : Int).toNat, t124, 0))) else (some ((⟨#[]⟩ : ByteArray), (⟨#[]⟩ : ByteArray), 0, 5))))) else (some ((⟨#[]⟩ : ByteArray), (⟨#[]⟩ : ByteArray), 0, 5))) = some (r1, r2, r3, r4) := H
                                have A24 := Aside0.mk A240
                                clear A240
                                by_cases c25 : t125 = true
                                · subst c25
                                  have H1 : (if ((a0.extract 0 ((rd x6_1 0) : Int).toNat).size : Int) > 32 then (some ((⟨#[]⟩ : ByteArray), (⟨#[]⟩ : ByteArray), 0, 5)) else ((tollhouseref06_target.f kj7 (a0.extract ((ji16) : Int).toNat ((rd x6_1 1) : Int).toNat)).bind fun t126 => (if t126 = true then (if t124 < 0 then (some ((⟨#[]⟩ : ByteArray), (⟨#[]⟩ : ByteArray), 0, 5)) else (some (a0.extract 0 ((rd x6_1 0) : Int).toNat, a0.extract ((ji16) : Int).toNat ((rd x6_1 1) : Int).toNat, t124, 0))) else (some ((⟨#[]⟩ : ByteArray), (⟨#[]⟩ : ByteArray), 0, 5))))) = some (r1, r2, r3, r4) := by rw [if_pos rfl] at H; exact H
                                  clear H
                                  have H := H1
                                  clear H1
                                  by_cases c26 : ((a0.extract 0 ((rd x6_1 0) : Int).toNat).size : Int) > 32
                                  · rw [if_pos c26] at H
                                    try (have c26n : 32 < max (rd x6_1 0) 0 := (by have hq_ := c26; simp only [ByteArray.size_extract] at hq_; simp only [decide_eq_true_eq, decide_eq_false_iff_not, eq_iff_iff, iff_true, iff_false] at *; omega))
                                    have c26b0 : decide (32 < ((a0.extract 0 ((rd x6_1 0) : Int).toNat).size : Int)) = true := decide_eq_true c26
                                    have c26b1 : decide (32 < (a0.extract 0 ((rd x6_1 0) : Int).toNat).size) = true := decide_eq_true (by omega)
                                    clear c26
                                    simp only [Option.some.injEq, Prod.mk.injEq] at H
                                    obtain ⟨rfl, rfl, rfl, rfl⟩ := H
                                    obtain ⟨Ao27, co27, eo27⟩ := Kd.R_slice HO_6.out
                                    subst eo27
                                    have p120 : 0 ≤ (0 : Int) := (by omega)
                                    have q120 : 0 < (x6_1.length : Int) := of_decide_eq_true (by first | (with_reducible assumption) | assumption)
                                    obtain ⟨ad120, e120, hx120_0⟩ := Kd.at_int (Kd.R_reads' HO_6.out).2.2 0 p120 q120
                                    cases e120
                                    have qi120 : (0 < x6_1.length) = True := eq_true (by omega)
                                    (try rw [show ((0 : Int)).toNat = 0 from rfl] at hx120_0)
                                    (try rw [Addr.add_zero'] at hx120_0)
                                    replace p120 := eq_true p120
                                    replace q120 := eq_true q120
                                    have p121 : 0 ≤ (0 : Int) := (by omega)
                                    have q121 : 0 < (x6_1.length : Int) := of_decide_eq_true (by first | (with_reducible assumption) | assumption)
                                    obtain ⟨ad121, e121, hx121_0⟩ := Kd.at_int (Kd.R_reads' HO_6.out).2.2 0 p121 q121
                                    obtain rfl : ad120 = ad121 := (by injection e121)
                                    have qi121 : (0 < x6_1.length) = True := eq_true (by omega)
                                    (try rw [show ((0 : Int)).toNat = 0 from rfl] at hx121_0)
                                    (try rw [Addr.add_zero'] at hx121_0)
                                    replace p121 := eq_true p121
                                    replace q121 := eq_true q121
                                    have p122 : 0 ≤ (1 : Int) := (by omega)
                                    have q122 : 1 < (x6_1.length : Int) := of_decide_eq_true (by first | (with_reducible assumption) | assumption)
                                    obtain ⟨ad122, e122, hx122_0⟩ := Kd.at_int (Kd.R_reads' HO_6.out).2.2 1 p122 q122
                                    obtain rfl : ad120 = ad122 := (by injection e122)
                                    (try simp only [show (1 : Int).toNat = 1 from rfl, Nat.reduceMul, Nat.reduceEqDiff, Go.Addr.add, ↓reduceIte] at hx122_0)
                                    have qi122 : (1 < x6_1.length) = True := eq_true (by omega)
                                    (try rw [show ((1 : Int)).toNat = 1 from rfl] at hx122_0)
                                    replace p122 := eq_true p122
                                    replace q122 := eq_true q122
                                    have p123 : 0 ≤ (1 : Int) := (by omega)
                                    have q123 : 1 < (x6_1.length : Int) := of_decide_eq_true (by first | (with_reducible assumption) | assumption)
                                    obtain ⟨ad123, e123, hx123_0⟩ := Kd.at_int (Kd.R_reads' HO_6.out).2.2 1 p123 q123
                                    obtain rfl : ad120 = ad123 := (by injection e123)
                                    (try simp only [show (1 : Int).toNat = 1 from rfl, Nat.reduceMul, Nat.reduceEqDiff, Go.Addr.add, ↓reduceIte] at hx123_0)
                                    have qi123 : (1 < x6_1.length) = True := eq_true (by omega)
                                    (try rw [show ((1 : Int)).toNat = 1 from rfl] at hx123_0)
                                    replace p123 := eq_true p123
                                    replace q123 := eq_true q123
                                    go_wp2_with (first | (go_at_call 22; (with_reducible refine (tollhouseref06_minor.calls (a0.extract ((ji20) : Int).toNat a0.size) t124 _ (Glob.below HGl.out (by repeat (first | (with_reducible first | exact HB.out | apply below_alloc | apply pw_below_drewN | apply below_drew1) | exact HB.out))) A23.out).mono ?_); rintro e w' ⟨rfl, ⟨nd, rfl⟩⟩; (try first | exact ⟨rfl, _, World.drewN_drewN _ _ _⟩ | exact ⟨rfl, _, Eq.trans (World.drewN_drewN _ _ _) (congrArg (World.drewN _) (Nat.add_assoc _ _ _))⟩)) | (go_at_call 23; (with_reducible refine (tollhouseref02_Token.calls (a0.extract 0 ((rd x6_1 0) : Int).toNat) true _ (Glob.below HGl.out (by repeat (first | (with_reducible first | exact HB.out | apply below_alloc | apply pw_below_drewN | apply below_drew1) | exact HB.out))) A24.out).mono ?_); rintro e w' ⟨rfl, ⟨nd, rfl⟩⟩; (try first | exact ⟨rfl, _, World.drewN_drewN _ _ _⟩ | exact ⟨rfl, _, Eq.trans (World.drewN_drewN _ _ _) (congrArg (World.drewN _) (Nat.add_assoc _ _ _))⟩)))
                                    repeat (go_quiet (first | (go_at_call 22; (with_reducible refine (tollhouseref06_minor.calls (a0.extract ((ji20) : Int).toNat a0.size) t124 _ (Glob.below HGl.out (by repeat (first | (with_reducible first | exact HB.out | apply below_alloc | apply pw_below_drewN | apply below_drew1) | exact HB.out))) A23.out).mono ?_); rintro e w' ⟨rfl, ⟨nd, rfl⟩⟩; (try first | exact ⟨rfl, _, World.drewN_drewN _ _ _⟩ | exact ⟨rfl, _, Eq.trans (World.drewN_drewN _ _ _) (congrArg (World.drewN _) (Nat.add_assoc _ _ _))⟩)) | (go_at_call 23; (with_reducible refine (tollhouseref02_Token.calls (a0.extract 0 ((rd x6_1 0) : Int).toNat) true _ (Glob.below HGl.out (by repeat (first | (with_reducible first | exact HB.out | apply below_alloc | apply pw_below_drewN | apply below_drew1) | exact HB.out))) A24.out).mono ?_); rintro e w' ⟨rfl, ⟨nd, rfl⟩⟩; (try first | exact ⟨rfl, _, World.drewN_drewN _ _ _⟩ | exact ⟨rfl, _, Eq.trans (World.drewN_drewN _ _ _) (congrArg (World.drewN _) (Nat.add_assoc _ _ _))⟩))); try go_wp2_with (first | (go_at_call 22; (with_reducible refine (tollhouseref06_minor.calls (a0.extract ((ji20) : Int).toNat a0.size) t124 _ (Glob.below HGl.out (by repeat (first | (with_reducible first | exact HB.out | apply below_alloc | apply pw_below_drewN | apply below_drew1) | exact HB.out))) A23.out).mono ?_); rintro e w' ⟨rfl, ⟨nd, rfl⟩⟩; (try first | exact ⟨rfl, _, World.drewN_drewN _ _ _⟩ | exact ⟨rfl, _, Eq.trans (World.drewN_drewN _ _ _) (congrArg (World.drewN _) (Nat.add_assoc _ _ _))⟩)) | (go_at_call 23; (with_reducible refine (tollhouseref02_Token.calls (a0.extract 0 ((rd x6_1 0) : Int).toNat) true _ (Glob.below HGl.out (by repeat (first | (with_reducible first | exact HB.out | apply below_alloc | apply pw_below_drewN | apply below_drew1) | exact HB.out))) A24.out).mono ?_); rintro e w' ⟨rfl, ⟨nd, rfl⟩⟩; (try first | exact ⟨rfl, _, World.drewN_drewN _ _ _⟩ | exact ⟨rfl, _, Eq.trans (World.drewN_drewN _ _ _) (congrArg (World.drewN _) (Nat.add_assoc _ _ _))⟩))))
                                    refine bodyPost_ret (results_list (rs := [.tmp 2, .tmp 3, .tmp 4, .tmp 5]) rfl (by simp) (.tmp (.tmp (.tmp (.tmp .nil))))) rfl ?_
                                    exact ⟨by first | rfl | (simp [errW_none, errW_some] <;> rfl) | (simp only [← hji16, ← hji20]; first | rfl | (simp [errW_none, errW_some] <;> rfl)) | (simp [*, errW_none, errW_some] <;> rfl), by repeat (first | (with_reducible first | exact HB.out | apply below_alloc | apply pw_below_drewN | apply below_drew1) | exact HB.out)⟩
                                  · rw [if_neg c26] at H
                                    try (have c26n : ¬ (32 < max (rd x6_1 0) 0) := (by have hq_ := c26; simp only [ByteArray.size_extract] at hq_; simp only [decide_eq_true_eq, decide_eq_false_iff_not, eq_iff_iff, iff_true, iff_false] at *; omega))
                                    have c26b0 : decide (32 < ((a0.extract 0 ((rd x6_1 0) : Int).toNat).size : Int)) = false := decide_eq_false c26
                                    have c26b1 : decide (32 < (a0.extract 0 ((rd x6_1 0) : Int).toNat).size) = false := decide_eq_false (by omega)
                                    clear c26
                                    replace H := Option.bind_eq_some_iff.mp H
                                    obtain ⟨t126, A280, H⟩ := H
                                    replace H : (if t126 = true then (if t124 < 0 then (some ((⟨#[]⟩ : ByteArray), (⟨#[]⟩ : ByteArray), 0, 5)) else (some (a0.extract 0 ((rd x6_1 0) : Int).toNat, a0.extract ((ji16) : Int).toNat ((rd x6_1 1) : Int).toNat, t124, 0))) else (some ((⟨#[]⟩ : ByteArray), (⟨#[]⟩ : ByteArray), 0, 5))) = some (r1, r2, r3, r4) := H
                                    have A28 := Aside0.mk A280
                                    clear A280
                                    by_cases c29 : t126 = true
                                    · subst c29
                                      have H1 : (if t124 < 0 then (some ((⟨#[]⟩ : ByteArray), (⟨#[]⟩ : ByteArray), 0, 5)) else (some (a0.extract 0 ((rd x6_1 0) : Int).toNat, a0.extract ((ji16) : Int).toNat ((rd x6_1 1) : Int).toNat, t124, 0))) = some (r1, r2, r3, r4) := by rw [if_pos rfl] at H; exact H
                                      clear H
                                      have H := H1
                                      clear H1
                                      by_cases c30 : t124 < 0
                                      · rw [if_pos c30] at H
                                        have c30b0 : decide (t124 < 0) = true := decide_eq_true c30
                                        clear c30
                                        simp only [Option.some.injEq, Prod.mk.injEq] at H
                                        obtain ⟨rfl, rfl, rfl, rfl⟩ := H
                                        obtain ⟨Ao31, co31, eo31⟩ := Kd.R_slice HO_6.out
                                        subst eo31
                                        have p120 : 0 ≤ (0 : Int) := (by omega)
                                        have q120 : 0 < (x6_1.length : Int) := of_decide_eq_true (by first | (with_reducible assumption) | assumption)
                                        obtain ⟨ad120, e120, hx120_0⟩ := Kd.at_int (Kd.R_reads' HO_6.out).2.2 0 p120 q120
                                        cases e120
                                        have qi120 : (0 < x6_1.length) = True := eq_true (by omega)
                                        (try rw [show ((0 : Int)).toNat = 0 from rfl] at hx120_0)
                                        (try rw [Addr.add_zero'] at hx120_0)
                                        replace p120 := eq_true p120
                                        replace q120 := eq_true q120
                                        have p121 : 0 ≤ (0 : Int) := (by omega)
                                        have q121 : 0 < (x6_1.length : Int) := of_decide_eq_true (by first | (with_reducible assumption) | assumption)
                                        obtain ⟨ad121, e121, hx121_0⟩ := Kd.at_int (Kd.R_reads' HO_6.out).2.2 0 p121 q121
                                        obtain rfl : ad120 = ad121 := (by injection e121)
                                        have qi121 : (0 < x6_1.length) = True := eq_true (by omega)
                                        (try rw [show ((0 : Int)).toNat = 0 from rfl] at hx121_0)
                                        (try rw [Addr.add_zero'] at hx121_0)
                                        replace p121 := eq_true p121
                                        replace q121 := eq_true q121
                                        have p122 : 0 ≤ (1 : Int) := (by omega)
                                        have q122 : 1 < (x6_1.length : Int) := of_decide_eq_true (by first | (with_reducible assumption) | assumption)
                                        obtain ⟨ad122, e122, hx122_0⟩ := Kd.at_int (Kd.R_reads' HO_6.out).2.2 1 p122 q122
                                        obtain rfl : ad120 = ad122 := (by injection e122)
                                        (try simp only [show (1 : Int).toNat = 1 from rfl, Nat.reduceMul, Nat.reduceEqDiff, Go.Addr.add, ↓reduceIte] at hx122_0)
                                        have qi122 : (1 < x6_1.length) = True := eq_true (by omega)
                                        (try rw [show ((1 : Int)).toNat = 1 from rfl] at hx122_0)
                                        replace p122 := eq_true p122
                                        replace q122 := eq_true q122
                                        have p123 : 0 ≤ (1 : Int) := (by omega)
                                        have q123 : 1 < (x6_1.length : Int) := of_decide_eq_true (by first | (with_reducible assumption) | assumption)
                                        obtain ⟨ad123, e123, hx123_0⟩ := Kd.at_int (Kd.R_reads' HO_6.out).2.2 1 p123 q123
                                        obtain rfl : ad120 = ad123 := (by injection e123)
                                        (try simp only [show (1 : Int).toNat = 1 from rfl, Nat.reduceMul, Nat.reduceEqDiff, Go.Addr.add, ↓reduceIte] at hx123_0)
                                        have qi123 : (1 < x6_1.length) = True := eq_true (by omega)
                                        (try rw [show ((1 : Int)).toNat = 1 from rfl] at hx123_0)
                                        replace p123 := eq_true p123
                                        replace q123 := eq_true q123
                                        go_wp2_with (first | (go_at_call 22; (with_reducible refine (tollhouseref06_minor.calls (a0.extract ((ji20) : Int).toNat a0.size) t124 _ (Glob.below HGl.out (by repeat (first | (with_reducible first | exact HB.out | apply below_alloc | apply pw_below_drewN | apply below_drew1) | exact HB.out))) A23.out).mono ?_); rintro e w' ⟨rfl, ⟨nd, rfl⟩⟩; (try first | exact ⟨rfl, _, World.drewN_drewN _ _ _⟩ | exact ⟨rfl, _, Eq.trans (World.drewN_drewN _ _ _) (congrArg (World.drewN _) (Nat.add_assoc _ _ _))⟩)) | (go_at_call 23; (with_reducible refine (tollhouseref02_Token.calls (a0.extract 0 ((rd x6_1 0) : Int).toNat) true _ (Glob.below HGl.out (by repeat (first | (with_reducible first | exact HB.out | apply below_alloc | apply pw_below_drewN | apply below_drew1) | exact HB.out))) A24.out).mono ?_); rintro e w' ⟨rfl, ⟨nd, rfl⟩⟩; (try first | exact ⟨rfl, _, World.drewN_drewN _ _ _⟩ | exact ⟨rfl, _, Eq.trans (World.drewN_drewN _ _ _) (congrArg (World.drewN _) (Nat.add_assoc _ _ _))⟩)) | (go_at_call 24; (with_reducible refine (tollhouseref06_target.calls kj7 (a0.extract ((ji16) : Int).toNat ((rd x6_1 1) : Int).toNat) true _ (Glob.below HGl.out (by repeat (first | (with_reducible first | exact HB.out | apply below_alloc | apply pw_below_drewN | apply below_drew1) | exact HB.out))) A28.out).mono ?_); rintro e w' ⟨rfl, ⟨nd, rfl⟩⟩; (try first | exact ⟨rfl, _, World.drewN_drewN _ _ _⟩ | exact ⟨rfl, _, Eq.trans (World.drewN_drewN _ _ _) (congrArg (World.drewN _) (Nat.add_assoc _ _ _))⟩)))
                                        repeat (go_quiet (first | (go_at_call 22; (with_reducible refine (tollhouseref06_minor.calls (a0.extract ((ji20) : Int).toNat a0.size) t124 _ (Glob.below HGl.out (by repeat (first | (with_reducible first | exact HB.out | apply below_alloc | apply pw_below_drewN | apply below_drew1) | exact HB.out))) A23.out).mono ?_); rintro e w' ⟨rfl, ⟨nd, rfl⟩⟩; (try first | exact ⟨rfl, _, World.drewN_drewN _ _ _⟩ | exact ⟨rfl, _, Eq.trans (World.drewN_drewN _ _ _) (congrArg (World.drewN _) (Nat.add_assoc _ _ _))⟩)) | (go_at_call 23; (with_reducible refine (tollhouseref02_Token.calls (a0.extract 0 ((rd x6_1 0) : Int).toNat) true _ (Glob.below HGl.out (by repeat (first | (with_reducible first | exact HB.out | apply below_alloc | apply pw_below_drewN | apply below_drew1) | exact HB.out))) A24.out).mono ?_); rintro e w' ⟨rfl, ⟨nd, rfl⟩⟩; (try first | exact ⟨rfl, _, World.drewN_drewN _ _ _⟩ | exact ⟨rfl, _, Eq.trans (World.drewN_drewN _ _ _) (congrArg (World.drewN _) (Nat.add_assoc _ _ _))⟩)) | (go_at_call 24; (with_reducible refine (tollhouseref06_target.calls kj7 (a0.extract ((ji16) : Int).toNat ((rd x6_1 1) : Int).toNat) true _ (Glob.below HGl.out (by repeat (first | (with_reducible first | exact HB.out | apply below_alloc | apply pw_below_drewN | apply below_drew1) | exact HB.out))) A28.out).mono ?_); rintro e w' ⟨rfl, ⟨nd, rfl⟩⟩; (try first | exact ⟨rfl, _, World.drewN_drewN _ _ _⟩ | exact ⟨rfl, _, Eq.trans (World.drewN_drewN _ _ _) (congrArg (World.drewN _) (Nat.add_assoc _ _ _))⟩))); try go_wp2_with (first | (go_at_call 22; (with_reducible refine (tollhouseref06_minor.calls (a0.extract ((ji20) : Int).toNat a0.size) t124 _ (Glob.below HGl.out (by repeat (first | (with_reducible first | exact HB.out | apply below_alloc | apply pw_below_drewN | apply below_drew1) | exact HB.out))) A23.out).mono ?_); rintro e w' ⟨rfl, ⟨nd, rfl⟩⟩; (try first | exact ⟨rfl, _, World.drewN_drewN _ _ _⟩ | exact ⟨rfl, _, Eq.trans (World.drewN_drewN _ _ _) (congrArg (World.drewN _) (Nat.add_assoc _ _ _))⟩)) | (go_at_call 23; (with_reducible refine (tollhouseref02_Token.calls (a0.extract 0 ((rd x6_1 0) : Int).toNat) true _ (Glob.below HGl.out (by repeat (first | (with_reducible first | exact HB.out | apply below_alloc | apply pw_below_drewN | apply below_drew1) | exact HB.out))) A24.out).mono ?_); rintro e w' ⟨rfl, ⟨nd, rfl⟩⟩; (try first | exact ⟨rfl, _, World.drewN_drewN _ _ _⟩ | exact ⟨rfl, _, Eq.trans (World.drewN_drewN _ _ _) (congrArg (World.drewN _) (Nat.add_assoc _ _ _))⟩)) | (go_at_call 24; (with_reducible refine (tollhouseref06_target.calls kj7 (a0.extract ((ji16) : Int).toNat ((rd x6_1 1) : Int).toNat) true _ (Glob.below HGl.out (by repeat (first | (with_reducible first | exact HB.out | apply below_alloc | apply pw_below_drewN | apply below_drew1) | exact HB.out))) A28.out).mono ?_); rintro e w' ⟨rfl, ⟨nd, rfl⟩⟩; (try first | exact ⟨rfl, _, World.drewN_drewN _ _ _⟩ | exact ⟨rfl, _, Eq.trans (World.drewN_drewN _ _ _) (congrArg (World.drewN _) (Nat.add_assoc _ _ _))⟩))))
                                        refine bodyPost_ret (results_list (rs := [.tmp 2, .tmp 3, .tmp 4, .tmp 5]) rfl (by simp) (.tmp (.tmp (.tmp (.tmp .nil))))) rfl ?_
                                        exact ⟨by first | rfl | (simp [errW_none, errW_some] <;> rfl) | (simp only [← hji16, ← hji20]; first | rfl | (simp [errW_none, errW_some] <;> rfl)) | (simp [*, errW_none, errW_some] <;> rfl), by repeat (first | (with_reducible first | exact HB.out | apply below_alloc | apply pw_below_drewN | apply below_drew1) | exact HB.out)⟩
                                      · rw [if_neg c30] at H
                                        have c30b0 : decide (t124 < 0) = false := decide_eq_false c30
                                        clear c30
                                        simp only [Option.some.injEq, Prod.mk.injEq] at H
                                        obtain ⟨rfl, rfl, rfl, rfl⟩ := H
                                        obtain ⟨Ao32, co32, eo32⟩ := Kd.R_slice HO_6.out
                                        subst eo32
                                        have p120 : 0 ≤ (0 : Int) := (by omega)
                                        have q120 : 0 < (x6_1.length : Int) := of_decide_eq_true (by first | (with_reducible assumption) | assumption)
                                        obtain ⟨ad120, e120, hx120_0⟩ := Kd.at_int (Kd.R_reads' HO_6.out).2.2 0 p120 q120
                                        cases e120
                                        have qi120 : (0 < x6_1.length) = True := eq_true (by omega)
                                        (try rw [show ((0 : Int)).toNat = 0 from rfl] at hx120_0)
                                        (try rw [Addr.add_zero'] at hx120_0)
                                        replace p120 := eq_true p120
                                        replace q120 := eq_true q120
                                        have p121 : 0 ≤ (0 : Int) := (by omega)
                                        have q121 : 0 < (x6_1.length : Int) := of_decide_eq_true (by first | (with_reducible assumption) | assumption)
                                        obtain ⟨ad121, e121, hx121_0⟩ := Kd.at_int (Kd.R_reads' HO_6.out).2.2 0 p121 q121
                                        obtain rfl : ad120 = ad121 := (by injection e121)
                                        have qi121 : (0 < x6_1.length) = True := eq_true (by omega)
                                        (try rw [show ((0 : Int)).toNat = 0 from rfl] at hx121_0)
                                        (try rw [Addr.add_zero'] at hx121_0)
                                        replace p121 := eq_true p121
                                        replace q121 := eq_true q121
                                        have p122 : 0 ≤ (1 : Int) := (by omega)
                                        have q122 : 1 < (x6_1.length : Int) := of_decide_eq_true (by first | (with_reducible assumption) | assumption)
                                        obtain ⟨ad122, e122, hx122_0⟩ := Kd.at_int (Kd.R_reads' HO_6.out).2.2 1 p122 q122
                                        obtain rfl : ad120 = ad122 := (by injection e122)
                                        (try simp only [show (1 : Int).toNat = 1 from rfl, Nat.reduceMul, Nat.reduceEqDiff, Go.Addr.add, ↓reduceIte] at hx122_0)
                                        have qi122 : (1 < x6_1.length) = True := eq_true (by omega)
                                        (try rw [show ((1 : Int)).toNat = 1 from rfl] at hx122_0)
                                        replace p122 := eq_true p122
                                        replace q122 := eq_true q122
                                        have p123 : 0 ≤ (1 : Int) := (by omega)
                                        have q123 : 1 < (x6_1.length : Int) := of_decide_eq_true (by first | (with_reducible assumption) | assumption)
                                        obtain ⟨ad123, e123, hx123_0⟩ := Kd.at_int (Kd.R_reads' HO_6.out).2.2 1 p123 q123
                                        obtain rfl : ad120 = ad123 := (by injection e123)
                                        (try simp only [show (1 : Int).toNat = 1 from rfl, Nat.reduceMul, Nat.reduceEqDiff, Go.Addr.add, ↓reduceIte] at hx123_0)
                                        have qi123 : (1 < x6_1.length) = True := eq_true (by omega)
                                        (try rw [show ((1 : Int)).toNat = 1 from rfl] at hx123_0)
                                        replace p123 := eq_true p123
                                        replace q123 := eq_true q123
                                        go_wp2_with (first | (go_at_call 22; (with_reducible refine (tollhouseref06_minor.calls (a0.extract ((ji20) : Int).toNat a0.size) t124 _ (Glob.below HGl.out (by repeat (first | (with_reducible first | exact HB.out | apply below_alloc | apply pw_below_drewN | apply below_drew1) | exact HB.out))) A23.out).mono ?_); rintro e w' ⟨rfl, ⟨nd, rfl⟩⟩; (try first | exact ⟨rfl, _, World.drewN_drewN _ _ _⟩ | exact ⟨rfl, _, Eq.trans (World.drewN_drewN _ _ _) (congrArg (World.drewN _) (Nat.add_assoc _ _ _))⟩)) | (go_at_call 23; (with_reducible refine (tollhouseref02_Token.calls (a0.extract 0 ((rd x6_1 0) : Int).toNat) true _ (Glob.below HGl.out (by repeat (first | (with_reducible first | exact HB.out | apply below_alloc | apply pw_below_drewN | apply below_drew1) | exact HB.out))) A24.out).mono ?_); rintro e w' ⟨rfl, ⟨nd, rfl⟩⟩; (try first | exact ⟨rfl, _, World.drewN_drewN _ _ _⟩ | exact ⟨rfl, _, Eq.trans (World.drewN_drewN _ _ _) (congrArg (World.drewN _) (Nat.add_assoc _ _ _))⟩)) | (go_at_call 24; (with_reducible refine (tollhouseref06_target.calls kj7 (a0.extract ((ji16) : Int).toNat ((rd x6_1 1) : Int).toNat) true _ (Glob.below HGl.out (by repeat (first | (with_reducible first | exact HB.out | apply below_alloc | apply pw_below_drewN | apply below_drew1) | exact HB.out))) A28.out).mono ?_); rintro e w' ⟨rfl, ⟨nd, rfl⟩⟩; (try first | exact ⟨rfl, _, World.drewN_drewN _ _ _⟩ | exact ⟨rfl, _, Eq.trans (World.drewN_drewN _ _ _) (congrArg (World.drewN _) (Nat.add_assoc _ _ _))⟩)))
                                        repeat (go_quiet (first | (go_at_call 22; (with_reducible refine (tollhouseref06_minor.calls (a0.extract ((ji20) : Int).toNat a0.size) t124 _ (Glob.below HGl.out (by repeat (first | (with_reducible first | exact HB.out | apply below_alloc | apply pw_below_drewN | apply below_drew1) | exact HB.out))) A23.out).mono ?_); rintro e w' ⟨rfl, ⟨nd, rfl⟩⟩; (try first | exact ⟨rfl, _, World.drewN_drewN _ _ _⟩ | exact ⟨rfl, _, Eq.trans (World.drewN_drewN _ _ _) (congrArg (World.drewN _) (Nat.add_assoc _ _ _))⟩)) | (go_at_call 23; (with_reducible refine (tollhouseref02_Token.calls (a0.extract 0 ((rd x6_1 0) : Int).toNat) true _ (Glob.below HGl.out (by repeat (first | (with_reducible first | exact HB.out | apply below_alloc | apply pw_below_drewN | apply below_drew1) | exact HB.out))) A24.out).mono ?_); rintro e w' ⟨rfl, ⟨nd, rfl⟩⟩; (try first | exact ⟨rfl, _, World.drewN_drewN _ _ _⟩ | exact ⟨rfl, _, Eq.trans (World.drewN_drewN _ _ _) (congrArg (World.drewN _) (Nat.add_assoc _ _ _))⟩)) | (go_at_call 24; (with_reducible refine (tollhouseref06_target.calls kj7 (a0.extract ((ji16) : Int).toNat ((rd x6_1 1) : Int).toNat) true _ (Glob.below HGl.out (by repeat (first | (with_reducible first | exact HB.out | apply below_alloc | apply pw_below_drewN | apply below_drew1) | exact HB.out))) A28.out).mono ?_); rintro e w' ⟨rfl, ⟨nd, rfl⟩⟩; (try first | exact ⟨rfl, _, World.drewN_drewN _ _ _⟩ | exact ⟨rfl, _, Eq.trans (World.drewN_drewN _ _ _) (congrArg (World.drewN _) (Nat.add_assoc _ _ _))⟩))); try go_wp2_with (first | (go_at_call 22; (with_reducible refine (tollhouseref06_minor.calls (a0.extract ((ji20) : Int).toNat a0.size) t124 _ (Glob.below HGl.out (by repeat (first | (with_reducible first | exact HB.out | apply below_alloc | apply pw_below_drewN | apply below_drew1) | exact HB.out))) A23.out).mono ?_); rintro e w' ⟨rfl, ⟨nd, rfl⟩⟩; (try first | exact ⟨rfl, _, World.drewN_drewN _ _ _⟩ | exact ⟨rfl, _, Eq.trans (World.drewN_drewN _ _ _) (congrArg (World.drewN _) (Nat.add_assoc _ _ _))⟩)) | (go_at_call 23; (with_reducible refine (tollhouseref02_Token.calls (a0.extract 0 ((rd x6_1 0) : Int).toNat) true _ (Glob.below HGl.out (by repeat (first | (with_reducible first | exact HB.out | apply below_alloc | apply pw_below_drewN | apply below_drew1) | exact HB.out))) A24.out).mono ?_); rintro e w' ⟨rfl, ⟨nd, rfl⟩⟩; (try first | exact ⟨rfl, _, World.drewN_drewN _ _ _⟩ | exact ⟨rfl, _, Eq.trans (World.drewN_drewN _ _ _) (congrArg (World.drewN _) (Nat.add_assoc _ _ _))⟩)) | (go_at_call 24; (with_reducible refine (tollhouseref06_target.calls kj7 (a0.extract ((ji16) : Int).toNat ((rd x6_1 1) : Int).toNat) true _ (Glob.below HGl.out (by repeat (first | (with_reducible first | exact HB.out | apply below_alloc | apply pw_below_drewN | apply below_drew1) | exact HB.out))) A28.out).mono ?_); rintro e w' ⟨rfl, ⟨nd, rfl⟩⟩; (try first | exact ⟨rfl, _, World.drewN_drewN _ _ _⟩ | exact ⟨rfl, _, Eq.trans (World.drewN_drewN _ _ _) (congrArg (World.drewN _) (Nat.add_assoc _ _ _))⟩))))
                                        refine bodyPost_ret (results_list (rs := [.tmp 2, .tmp 3, .tmp 4, .tmp 5]) rfl (by simp) (.tmp (.tmp (.tmp (.tmp .nil))))) rfl ?_
                                        exact ⟨by first | rfl | (simp [errW_none, errW_some] <;> rfl) | (simp only [← hji16, ← hji20]; first | rfl | (simp [errW_none, errW_some] <;> rfl)) | (simp [*, errW_none, errW_some] <;> rfl), by repeat (first | (with_reducible first | exact HB.out | apply below_alloc | apply pw_below_drewN | apply below_drew1) | exact HB.out)⟩
                                    · replace c29 := Bool.eq_false_iff.mpr c29
                                      subst c29
                                      have H1 : (some ((⟨#[]⟩ : ByteArray), (⟨#[]⟩ : ByteArray), 0, 5)) = some (r1, r2, r3, r4) := by rw [if_neg (show ¬ (false = true) by decide)] at H; exact H
                                      clear H
                                      have H := H1
                                      clear H1
                                      simp only [Option.some.injEq, Prod.mk.injEq] at H
                                      obtain ⟨rfl, rfl, rfl, rfl⟩ := H
                                      obtain ⟨Ao33, co33, eo33⟩ := Kd.R_slice HO_6.out
                                      subst eo33
                                      have p120 : 0 ≤ (0 : Int) := (by omega)
                                      have q120 : 0 < (x6_1.length : Int) := of_decide_eq_true (by first | (with_reducible assumption) | assumption)
                                      obtain ⟨ad120, e120, hx120_0⟩ := Kd.at_int (Kd.R_reads' HO_6.out).2.2 0 p120 q120
                                      cases e120
                                      have qi120 : (0 < x6_1.length) = True := eq_true (by omega)
                                      (try rw [show ((0 : Int)).toNat = 0 from rfl] at hx120_0)
                                      (try rw [Addr.add_zero'] at hx120_0)
                                      replace p120 := eq_true p120
                                      replace q120 := eq_true q120
                                      have p121 : 0 ≤ (0 : Int) := (by omega)
                                      have q121 : 0 < (x6_1.length : Int) := of_decide_eq_true (by first | (with_reducible assumption) | assumption)
                                      obtain ⟨ad121, e121, hx121_0⟩ := Kd.at_int (Kd.R_reads' HO_6.out).2.2 0 p121 q121
                                      obtain rfl : ad120 = ad121 := (by injection e121)
                                      have qi121 : (0 < x6_1.length) = True := eq_true (by omega)
                                      (try rw [show ((0 : Int)).toNat = 0 from rfl] at hx121_0)
                                      (try rw [Addr.add_zero'] at hx121_0)
                                      replace p121 := eq_true p121
                                      replace q121 := eq_true q121
                                      have p122 : 0 ≤ (1 : Int) := (by omega)
                                      have q122 : 1 < (x6_1.length : Int) := of_decide_eq_true (by first | (with_reducible assumption) | assumption)
                                      obtain ⟨ad122, e122, hx122_0⟩ := Kd.at_int (Kd.R_reads' HO_6.out).2.2 1 p122 q122
                                      obtain rfl : ad120 = ad122 := (by injection e122)
                                      (try simp only [show (1 : Int).toNat = 1 from rfl, Nat.reduceMul, Nat.reduceEqDiff, Go.Addr.add, ↓reduceIte] at hx122_0)
                                      have qi122 : (1 < x6_1.length) = True := eq_true (by omega)
                                      (try rw [show ((1 : Int)).toNat = 1 from rfl] at hx122_0)
                                      replace p122 := eq_true p122
                                      replace q122 := eq_true q122
                                      have p123 : 0 ≤ (1 : Int) := (by omega)
                                      have q123 : 1 < (x6_1.length : Int) := of_decide_eq_true (by first | (with_reducible assumption) | assumption)
                                      obtain ⟨ad123, e123, hx123_0⟩ := Kd.at_int (Kd.R_reads' HO_6.out).2.2 1 p123 q123
                                      obtain rfl : ad120 = ad123 := (by injection e123)
                                      (try simp only [show (1 : Int).toNat = 1 from rfl, Nat.reduceMul, Nat.reduceEqDiff, Go.Addr.add, ↓reduceIte] at hx123_0)
                                      have qi123 : (1 < x6_1.length) = True := eq_true (by omega)
                                      (try rw [show ((1 : Int)).toNat = 1 from rfl] at hx123_0)
                                      replace p123 := eq_true p123
                                      replace q123 := eq_true q123
                                      go_wp2_with (first | (go_at_call 22; (with_reducible refine (tollhouseref06_minor.calls (a0.extract ((ji20) : Int).toNat a0.size) t124 _ (Glob.below HGl.out (by repeat (first | (with_reducible first | exact HB.out | apply below_alloc | apply pw_below_drewN | apply below_drew1) | exact HB.out))) A23.out).mono ?_); rintro e w' ⟨rfl, ⟨nd, rfl⟩⟩; (try first | exact ⟨rfl, _, World.drewN_drewN _ _ _⟩ | exact ⟨rfl, _, Eq.trans (World.drewN_drewN _ _ _) (congrArg (World.drewN _) (Nat.add_assoc _ _ _))⟩)) | (go_at_call 23; (with_reducible refine (tollhouseref02_Token.calls (a0.extract 0 ((rd x6_1 0) : Int).toNat) true _ (Glob.below HGl.out (by repeat (first | (with_reducible first | exact HB.out | apply below_alloc | apply pw_below_drewN | apply below_drew1) | exact HB.out))) A24.out).mono ?_); rintro e w' ⟨rfl, ⟨nd, rfl⟩⟩; (try first | exact ⟨rfl, _, World.drewN_drewN _ _ _⟩ | exact ⟨rfl, _, Eq.trans (World.drewN_drewN _ _ _) (congrArg (World.drewN _) (Nat.add_assoc _ _ _))⟩)) | (go_at_call 24; (with_reducible refine (tollhouseref06_target.calls kj7 (a0.extract ((ji16) : Int).toNat ((rd x6_1 1) : Int).toNat) false _ (Glob.below HGl.out (by repeat (first | (with_reducible first | exact HB.out | apply below_alloc | apply pw_below_drewN | apply below_drew1) | exact HB.out))) A28.out).mono ?_); rintro e w' ⟨rfl, ⟨nd, rfl⟩⟩; (try first | exact ⟨rfl, _, World.drewN_drewN _ _ _⟩ | exact ⟨rfl, _, Eq.trans (World.drewN_drewN _ _ _) (congrArg (World.drewN _) (Nat.add_assoc _ _ _))⟩)))
                                      repeat (go_quiet (first | (go_at_call 22; (with_reducible refine (tollhouseref06_minor.calls (a0.extract ((ji20) : Int).toNat a0.size) t124 _ (Glob.below HGl.out (by repeat (first | (with_reducible first | exact HB.out | apply below_alloc | apply pw_below_drewN | apply below_drew1) | exact HB.out))) A23.out).mono ?_); rintro e w' ⟨rfl, ⟨nd, rfl⟩⟩; (try first | exact ⟨rfl, _, World.drewN_drewN _ _ _⟩ | exact ⟨rfl, _, Eq.trans (World.drewN_drewN _ _ _) (congrArg (World.drewN _) (Nat.add_assoc _ _ _))⟩)) | (go_at_call 23; (with_reducible refine (tollhouseref02_Token.calls (a0.extract 0 ((rd x6_1 0) : Int).toNat) true _ (Glob.below HGl.out (by repeat (first | (with_reducible first | exact HB.out | apply below_alloc | apply pw_below_drewN | apply below_drew1) | exact HB.out))) A24.out).mono ?_); rintro e w' ⟨rfl, ⟨nd, rfl⟩⟩; (try first | exact ⟨rfl, _, World.drewN_drewN _ _ _⟩ | exact ⟨rfl, _, Eq.trans (World.drewN_drewN _ _ _) (congrArg (World.drewN _) (Nat.add_assoc _ _ _))⟩)) | (go_at_call 24; (with_reducible refine (tollhouseref06_target.calls kj7 (a0.extract ((ji16) : Int).toNat ((rd x6_1 1) : Int).toNat) false _ (Glob.below HGl.out (by repeat (first | (with_reducible first | exact HB.out | apply below_alloc | apply pw_below_drewN | apply below_drew1) | exact HB.out))) A28.out).mono ?_); rintro e w' ⟨rfl, ⟨nd, rfl⟩⟩; (try first | exact ⟨rfl, _, World.drewN_drewN _ _ _⟩ | exact ⟨rfl, _, Eq.trans (World.drewN_drewN _ _ _) (congrArg (World.drewN _) (Nat.add_assoc _ _ _))⟩))); try go_wp2_with (first | (go_at_call 22; (with_reducible refine (tollhouseref06_minor.calls (a0.extract ((ji20) : Int).toNat a0.size) t124 _ (Glob.below HGl.out (by repeat (first | (with_reducible first | exact HB.out | apply below_alloc | apply pw_below_drewN | apply below_drew1) | exact HB.out))) A23.out).mono ?_); rintro e w' ⟨rfl, ⟨nd, rfl⟩⟩; (try first | exact ⟨rfl, _, World.drewN_drewN _ _ _⟩ | exact ⟨rfl, _, Eq.trans (World.drewN_drewN _ _ _) (congrArg (World.drewN _) (Nat.add_assoc _ _ _))⟩)) | (go_at_call 23; (with_reducible refine (tollhouseref02_Token.calls (a0.extract 0 ((rd x6_1 0) : Int).toNat) true _ (Glob.below HGl.out (by repeat (first | (with_reducible first | exact HB.out | apply below_alloc | apply pw_below_drewN | apply below_drew1) | exact HB.out))) A24.out).mono ?_); rintro e w' ⟨rfl, ⟨nd, rfl⟩⟩; (try first | exact ⟨rfl, _, World.drewN_drewN _ _ _⟩ | exact ⟨rfl, _, Eq.trans (World.drewN_drewN _ _ _) (congrArg (World.drewN _) (Nat.add_assoc _ _ _))⟩)) | (go_at_call 24; (with_reducible refine (tollhouseref06_target.calls kj7 (a0.extract ((ji16) : Int).toNat ((rd x6_1 1) : Int).toNat) false _ (Glob.below HGl.out (by repeat (first | (with_reducible first | exact HB.out | apply below_alloc | apply pw_below_drewN | apply below_drew1) | exact HB.out))) A28.out).mono ?_); rintro e w' ⟨rfl, ⟨nd, rfl⟩⟩; (try first | exact ⟨rfl, _, World.drewN_drewN _ _ _⟩ | exact ⟨rfl, _, Eq.trans (World.drewN_drewN _ _ _) (congrArg (World.drewN _) (Nat.add_assoc _ _ _))⟩))))
                                      refine bodyPost_ret (results_list (rs := [.tmp 2, .tmp 3, .tmp 4, .tmp 5]) rfl (by simp) (.tmp (.tmp (.tmp (.tmp .nil))))) rfl ?_
                                      exact ⟨by first | rfl | (simp [errW_none, errW_some] <;> rfl) | (simp only [← hji16, ← hji20]; first | rfl | (simp [errW_none, errW_some] <;> rfl)) | (simp [*, errW_none, errW_some] <;> rfl), by repeat (first | (with_reducible first | exact HB.out | apply below_alloc | apply pw_below_drewN | apply below_drew1) | exact HB.out)⟩
                                · replace c25 := Bool.eq_false_iff.mpr c25
                                  subst c25
                                  have H1 : (some ((⟨#[]⟩ : ByteArray), (⟨#[]⟩ : ByteArray), 0, 5)) = some (r1, r2, r3, r4) := by rw [if_neg (show ¬ (false = true) by decide)] at H; exact H
                                  clear H
                                  have H := H1
                                  clear H1
                                  simp only [Option.some.injEq, Prod.mk.injEq] at H
                                  obtain ⟨rfl, rfl, rfl, rfl⟩ := H
                                  obtain ⟨Ao34, co34, eo34⟩ := Kd.R_slice HO_6.out
                                  subst eo34
                                  have p120 : 0 ≤ (0 : Int) := (by omega)
                                  have q120 : 0 < (x6_1.length : Int) := of_decide_eq_true (by first | (with_reducible assumption) | assumption)
                                  obtain ⟨ad120, e120, hx120_0⟩ := Kd.at_int (Kd.R_reads' HO_6.out).2.2 0 p120 q120
                                  cases e120
                                  have qi120 : (0 < x6_1.length) = True := eq_true (by omega)
                                  (try rw [show ((0 : Int)).toNat = 0 from rfl] at hx120_0)
                                  (try rw [Addr.add_zero'] at hx120_0)
                                  replace p120 := eq_true p120
                                  replace q120 := eq_true q120
                                  have p121 : 0 ≤ (0 : Int) := (by omega)
                                  have q121 : 0 < (x6_1.length : Int) := of_decide_eq_true (by first | (with_reducible assumption) | assumption)
                                  obtain ⟨ad121, e121, hx121_0⟩ := Kd.at_int (Kd.R_reads' HO_6.out).2.2 0 p121 q121
                                  obtain rfl : ad120 = ad121 := (by injection e121)
                                  have qi121 : (0 < x6_1.length) = True := eq_true (by omega)
                                  (try rw [show ((0 : Int)).toNat = 0 from rfl] at hx121_0)
                                  (try rw [Addr.add_zero'] at hx121_0)
                                  replace p121 := eq_true p121
                                  replace q121 := eq_true q121
                                  have p122 : 0 ≤ (1 : Int) := (by omega)
                                  have q122 : 1 < (x6_1.length : Int) := of_decide_eq_true (by first | (with_reducible assumption) | assumption)
                                  obtain ⟨ad122, e122, hx122_0⟩ := Kd.at_int (Kd.R_reads' HO_6.out).2.2 1 p122 q122
                                  obtain rfl : ad120 = ad122 := (by injection e122)
                                  (try simp only [show (1 : Int).toNat = 1 from rfl, Nat.reduceMul, Nat.reduceEqDiff, Go.Addr.add, ↓reduceIte] at hx122_0)
                                  have qi122 : (1 < x6_1.length) = True := eq_true (by omega)
                                  (try rw [show ((1 : Int)).toNat = 1 from rfl] at hx122_0)
                                  replace p122 := eq_true p122
                                  replace q122 := eq_true q122
                                  have p123 : 0 ≤ (1 : Int) := (by omega)
                                  have q123 : 1 < (x6_1.length : Int) := of_decide_eq_true (by first | (with_reducible assumption) | assumption)
                                  obtain ⟨ad123, e123, hx123_0⟩ := Kd.at_int (Kd.R_reads' HO_6.out).2.2 1 p123 q123
                                  obtain rfl : ad120 = ad123 := (by injection e123)
                                  (try simp only [show (1 : Int).toNat = 1 from rfl, Nat.reduceMul, Nat.reduceEqDiff, Go.Addr.add, ↓reduceIte] at hx123_0)
                                  have qi123 : (1 < x6_1.length) = True := eq_true (by omega)
                                  (try rw [show ((1 : Int)).toNat = 1 from rfl] at hx123_0)
                                  replace p123 := eq_true p123
                                  replace q123 := eq_true q123
                                  go_wp2_with (first | (go_at_call 22; (with_reducible refine (tollhouseref06_minor.calls (a0.extract ((ji20) : Int).toNat a0.size) t124 _ (Glob.below HGl.out (by repeat (first | (with_reducible first | exact HB.out | apply below_alloc | apply pw_below_drewN | apply below_drew1) | exact HB.out))) A23.out).mono ?_); rintro e w' ⟨rfl, ⟨nd, rfl⟩⟩; (try first | exact ⟨rfl, _, World.drewN_drewN _ _ _⟩ | exact ⟨rfl, _, Eq.trans (World.drewN_drewN _ _ _) (congrArg (World.drewN _) (Nat.add_assoc _ _ _))⟩)) | (go_at_call 23; (with_reducible refine (tollhouseref02_Token.calls (a0.extract 0 ((rd x6_1 0) : Int).toNat) false _ (Glob.below HGl.out (by repeat (first | (with_reducible first | exact HB.out | apply below_alloc | apply pw_below_drewN | apply below_drew1) | exact HB.out))) A24.out).mono ?_); rintro e w' ⟨rfl, ⟨nd, rfl⟩⟩; (try first | exact ⟨rfl, _, World.drewN_drewN _ _ _⟩ | exact ⟨rfl, _, Eq.trans (World.drewN_drewN _ _ _) (congrArg (World.drewN _) (Nat.add_assoc _ _ _))⟩)))
                                  repeat (go_quiet (first | (go_at_call 22; (with_reducible refine (tollhouseref06_minor.calls (a0.extract ((ji20) : Int).toNat a0.size) t124 _ (Glob.below HGl.out (by repeat (first | (with_reducible first | exact HB.out | apply below_alloc | apply pw_below_drewN | apply below_drew1) | exact HB.out))) A23.out).mono ?_); rintro e w' ⟨rfl, ⟨nd, rfl⟩⟩; (try first | exact ⟨rfl, _, World.drewN_drewN _ _ _⟩ | exact ⟨rfl, _, Eq.trans (World.drewN_drewN _ _ _) (congrArg (World.drewN _) (Nat.add_assoc _ _ _))⟩)) | (go_at_call 23; (with_reducible refine (tollhouseref02_Token.calls (a0.extract 0 ((rd x6_1 0) : Int).toNat) false _ (Glob.below HGl.out (by repeat (first | (with_reducible first | exact HB.out | apply below_alloc | apply pw_below_drewN | apply below_drew1) | exact HB.out))) A24.out).mono ?_); rintro e w' ⟨rfl, ⟨nd, rfl⟩⟩; (try first | exact ⟨rfl, _, World.drewN_drewN _ _ _⟩ | exact ⟨rfl, _, Eq.trans (World.drewN_drewN _ _ _) (congrArg (World.drewN _) (Nat.add_assoc _ _ _))⟩))); try go_wp2_with (first | (go_at_call 22; (with_reducible refine (tollhouseref06_minor.calls (a0.extract ((ji20) : Int).toNat a0.size) t124 _ (Glob.below HGl.out (by repeat (first | (with_reducible first | exact HB.out | apply below_alloc | apply pw_below_drewN | apply below_drew1) | exact HB.out))) A23.out).mono ?_); rintro e w' ⟨rfl, ⟨nd, rfl⟩⟩; (try first | exact ⟨rfl, _, World.drewN_drewN _ _ _⟩ | exact ⟨rfl, _, Eq.trans (World.drewN_drewN _ _ _) (congrArg (World.drewN _) (Nat.add_assoc _ _ _))⟩)) | (go_at_call 23; (with_reducible refine (tollhouseref02_Token.calls (a0.extract 0 ((rd x6_1 0) : Int).toNat) false _ (Glob.below HGl.out (by repeat (first | (with_reducible first | exact HB.out | apply below_alloc | apply pw_below_drewN | apply below_drew1) | exact HB.out))) A24.out).mono ?_); rintro e w' ⟨rfl, ⟨nd, rfl⟩⟩; (try first | exact ⟨rfl, _, World.drewN_drewN _ _ _⟩ | exact ⟨rfl, _, Eq.trans (World.drewN_drewN _ _ _) (congrArg (World.drewN _) (Nat.add_assoc _ _ _))⟩))))
                                  refine bodyPost_ret (results_list (rs := [.tmp 2, .tmp 3, .tmp 4, .tmp 5]) rfl (by simp) (.tmp (.tmp (.tmp (.tmp .nil))))) rfl ?_
                                  exact ⟨by first | rfl | (simp [errW_none, errW_some] <;> rfl) | (simp only [← hji16, ← hji20]; first | rfl | (simp [errW_none, errW_some] <;> rfl)) | (simp [*, errW_none, errW_some] <;> rfl), by repeat (first | (with_reducible first | exact HB.out | apply below_alloc | apply pw_below_drewN | apply below_drew1) | exact HB.out)⟩
                              · rw [if_neg c22] at H
                                exact absurd H (by simp)
                            · rw [if_neg c21] at H
                              exact absurd H (by simp)
                          · rw [if_neg c19] at H
                            exact absurd H (by simp)
                        · rw [if_neg c18] at H
                          exact absurd H (by simp)
                      · rw [if_neg c17] at H
                        exact absurd H (by simp)
                    · rw [if_neg c15] at H
                      exact absurd H (by simp)
                  · rw [if_neg c14] at H
                    exact absurd H (by simp)
                · rw [if_neg c13] at H
                  exact absurd H (by simp)
              · rw [if_neg c12] at H
                exact absurd H (by simp)

end Go.Proofs.YtpoljchfgdnmbaaDoor.X

-- PRINTED by print.py (a twelfth state) out of the translation. Not trusted: Lean checks it.
namespace Go.Proofs.YtpoljchfgdnmbaaDoor.X
open Go.RowKit Go.Proofs.YtpoljchfgdnmbaaDoorW.PrintWords Go.Proofs.YtpoljchfgdnmbaaDoorW.PrintLast Go.Proofs.YtpoljchfgdnmbaaDoorW.PrintMore
attribute [local go_sem] max2_int min2_int max_two min_two max_three min_three max_four min_four   -- for this text's walks alone
set_option linter.unusedVariables false
set_option linter.unusedSimpArgs false
open Go.Proofs.YtpoljchfgdnmbaaDoor.T

/-! ### tollhouseref06_PutRequest: function 10 -/
def tollhouseref06_PutRequest.j0 : Nat → ByteArray → ByteArray → Int → Bool → Option (ByteArray × Int)
  | 0, _, _, _, _ => none
  | k + 1, x0, x1, x2, x18 => if x18 = true then (some ((⟨#[]⟩ : ByteArray), 1)) else (if x0.size + 1 ≤ 9223372036854775807 then (if (x0 ++ (⟨#[32]⟩ : ByteArray)).size + x1.size ≤ 9223372036854775807 then (if ((x0 ++ (⟨#[32]⟩ : ByteArray)) ++ x1).size + 8 ≤ 9223372036854775807 then ((some (([(wrap64 (48 + x2)) % 256] : List Int) : List Int)).bind fun y127 => (if (((x0 ++ (⟨#[32]⟩ : ByteArray)) ++ x1) ++ (⟨#[32, 72, 84, 84, 80, 47, 49, 46]⟩ : ByteArray)).size + (strOfNums y127).size ≤ 9223372036854775807 then ((tollhouseref06_Request.f k ((((x0 ++ (⟨#[32]⟩ : ByteArray)) ++ x1) ++ (⟨#[32, 72, 84, 84, 80, 47, 49, 46]⟩ : ByteArray)) ++ (strOfNums y127))).bind fun bt130 => (if bt130.2.2.2 = 0 then (if bt130.1.toList = x0.toList then (if bt130.2.1.toList = x1.toList then (if bt130.2.2.1 = x2 then (some ((((x0 ++ (⟨#[32]⟩ : ByteArray)) ++ x1) ++ (⟨#[32, 72, 84, 84, 80, 47, 49, 46]⟩ : ByteArray)) ++ (strOfNums y127), 0)) else (some ((⟨#[]⟩ : ByteArray), 1))) else (some ((⟨#[]⟩ : ByteArray), 1))) else (some ((⟨#[]⟩ : ByteArray), 1))) else (some ((⟨#[]⟩ : ByteArray), 1)))) else (none))) else (none)) else (none)) else (none))
def tollhouseref06_PutRequest.f (k : Nat) (a0 : ByteArray) (a1 : ByteArray) (a2 : Int) : Option (ByteArray × Int) := if a2 = 0 then (tollhouseref06_PutRequest.j0 k a0 a1 a2 false) else (tollhouseref06_PutRequest.j0 k a0 a1 a2 (a2 != 1))
theorem tollhouseref06_PutRequest.mono_l : ∀ k, (∀ y0 y1 y2 y3, LeO (tollhouseref06_PutRequest.j0 k y0 y1 y2 y3) (tollhouseref06_PutRequest.j0 (k + 1) y0 y1 y2 y3))
  | 0 => fun _ _ _ _ r h => by simp [tollhouseref06_PutRequest.j0] at h
  | k + 1 => by
    have ih0 := tollhouseref06_PutRequest.mono_l k
    · intro y0 y1 y2 y3
      unfold tollhouseref06_PutRequest.j0
      repeat' first
      | (with_reducible exact ih0 _ _ _ _)
      | (with_reducible exact tollhouseref06_Request.mono _ _)
      | (with_reducible exact LeO.refl _)
      | (with_reducible exact LeO.none _)
      | (with_reducible refine LeO.ite ?_ ?_)
      | (with_reducible refine LeO.bind ?_ (fun _ => ?_))
      | exact ih0 _ _ _ _
      | exact tollhouseref06_Request.mono _ _
      | exact LeO.none _
      | refine LeO.ite ?_ ?_
      | refine LeO.bind ?_ (fun _ => ?_)
theorem tollhouseref06_PutRequest.mono : ∀ a0 a1 a2 k, LeO (tollhouseref06_PutRequest.f k a0 a1 a2) (tollhouseref06_PutRequest.f (k + 1) a0 a1 a2) := by
  intro a0 a1 a2 k
  have ih0 := tollhouseref06_PutRequest.mono_l k
  unfold tollhouseref06_PutRequest.f
  repeat' first
      | (with_reducible exact ih0 _ _ _ _)
      | (with_reducible exact tollhouseref06_Request.mono _ _)
      | (with_reducible exact LeO.refl _)
      | (with_reducible exact LeO.none _)
      | (with_reducible refine LeO.ite ?_ ?_)
      | (with_reducible refine LeO.bind ?_ (fun _ => ?_))
      | exact ih0 _ _ _ _
      | exact tollhouseref06_Request.mono _ _
      | exact LeO.none _
      | refine LeO.ite ?_ ?_
      | refine LeO.bind ?_ (fun _ => ?_)
set_option maxHeartbeats 8000000 in
set_option maxRecDepth 100000 in
theorem tollhouseref06_PutRequest.calls (k : Nat) (a0 : ByteArray) (a1 : ByteArray) (a2 : Int) (r1 : ByteArray) (r2 : Int) (w : World) (HGg : Glob w) (h : tollhouseref06_PutRequest.f k a0 a1 a2 = some (r1, r2)) :
    Calls Tryd.prog 10 #[.string a0, .string a1, .int .i64 a2] w fun e w' => e = .returned (.tuple #[.string r1, .int .i64 r2]) ∧ Below w.heap.size w w' := by
  have HGl := Aside0.mk HGg
  clear HGg
  have HB := Aside0.mk (Below.refl w.heap.size w)
  have H : (if a2 = 0 then (tollhouseref06_PutRequest.j0 k a0 a1 a2 false) else (tollhouseref06_PutRequest.j0 k a0 a1 a2 (a2 != 1))) = some (r1, r2) := h
  clear h
  have HC4 := Aside0.mk H
  clear H
  go_enter Tryd.func10, Tryd.ntmps10
  go_upto_region 1 with (fail)
  go_cut [18] (fun v18 wc => ∃ (kq : Nat) (x18_3 : Bool), v18 = .bool x18_3 ∧ Aside0 (tollhouseref06_PutRequest.j0 kq a0 a1 a2 x18_3 = some (r1, r2)) ∧ Aside0 (kq ≤ k) ∧ Aside0 (Below w.heap.size w wc))
  case first =>
    have H := HC4.out
    clear HC4
    by_cases c5 : a2 = 0
    · rw [if_pos c5] at H
      have c5b0 : (a2 == 0) = true := beq_iff_eq.mpr c5
      have c5b1 : (a2 != 0) = false := bne_eq_false_iff_eq.mpr c5
      clear c5
      (first | rw [c5b0] | (simp only [i64_w, i32_w]; rw [c5b0]) | skip)
      have H' := Aside0.mk H
      clear H
      go_wp2
      go_meet
      case rel => exact ⟨_, (false), (by first | rfl | (simp; done) | (simp [*]; done)), H', ⟨by first | omega | exact Nat.le_refl _⟩, ⟨by repeat (first | (with_reducible first | exact HB.out | apply below_alloc | apply pw_below_drewN | apply below_drew1) | exact HB.out)⟩⟩
    · rw [if_neg c5] at H
      have c5b0 : (a2 == 0) = false := beq_eq_false_iff_ne.mpr c5
      have c5b1 : (a2 != 0) = true := bne_iff_ne.mpr c5
      (first | rw [c5b0] | (simp only [i64_w, i32_w]; rw [c5b0]) | skip)
      have H' := Aside0.mk H
      clear H
      go_wp2
      go_meet
      case rel => exact ⟨_, ((a2 != 1)), (by first | rfl | (simp; done) | (simp [*]; done)), H', ⟨by first | omega | exact Nat.le_refl _⟩, ⟨by repeat (first | (with_reducible first | exact HB.out | apply below_alloc | apply pw_below_drewN | apply below_drew1) | exact HB.out)⟩⟩
  case rest =>
    clear HC4
    try clear c1
    try clear p2
    try clear c5
    try clear c5b0
    try clear c5b1
    obtain ⟨kq, x18_3, rfl, HA, HJ3, HB⟩ := hcut
    cases kq with
    | zero => exact absurd HA.out (by simp [tollhouseref06_PutRequest.j0])
    | succ kj3 =>
      have H := HA.out
      clear HA
      simp only [tollhouseref06_PutRequest.j0] at H
      by_cases c6 : x18_3 = true
      · subst c6
        have H1 : (some ((⟨#[]⟩ : ByteArray), 1)) = some (r1, r2) := by rw [if_pos rfl] at H; exact H
        clear H
        have H := H1
        clear H1
        simp only [Option.some.injEq, Prod.mk.injEq] at H
        obtain ⟨rfl, rfl⟩ := H
        go_wp2
        go_ret2
        exact ⟨by first | rfl | (simp [errW_none, errW_some] <;> rfl) | (simp [*, errW_none, errW_some] <;> rfl), by repeat (first | (with_reducible first | exact HB.out | apply below_alloc | apply pw_below_drewN | apply below_drew1) | exact HB.out)⟩
      · replace c6 := Bool.eq_false_iff.mpr c6
        subst c6
        have H1 : (if a0.size + 1 ≤ 9223372036854775807 then (if (a0 ++ (⟨#[32]⟩ : ByteArray)).size + a1.size ≤ 9223372036854775807 then (if ((a0 ++ (⟨#[32]⟩ : ByteArray)) ++ a1).size + 8 ≤ 9223372036854775807 then ((some (([(wrap64 (48 + a2)) % 256] : List Int) : List Int)).bind fun y127 => (if (((a0 ++ (⟨#[32]⟩ : ByteArray)) ++ a1) ++ (⟨#[32, 72, 84, 84, 80, 47, 49, 46]⟩ : ByteArray)).size + (strOfNums y127).size ≤ 9223372036854775807 then ((tollhouseref06_Request.f kj3 ((((a0 ++ (⟨#[32]⟩ : ByteArray)) ++ a1) ++ (⟨#[32, 72, 84, 84, 80, 47, 49, 46]⟩ : ByteArray)) ++ (strOfNums y127))).bind fun bt130 => (if bt130.2.2.2 = 0 then (if bt130.1.toList = a0.toList then (if bt130.2.1.toList = a1.toList then (if bt130.2.2.1 = a2 then (some ((((a0 ++ (⟨#[32]⟩ : ByteArray)) ++ a1) ++ (⟨#[32, 72, 84, 84, 80, 47, 49, 46]⟩ : ByteArray)) ++ (strOfNums y127), 0)) else (some ((⟨#[]⟩ : ByteArray), 1))) else (some ((⟨#[]⟩ : ByteArray), 1))) else (some ((⟨#[]⟩ : ByteArray), 1))) else (some ((⟨#[]⟩ : ByteArray), 1)))) else (none))) else (none)) else (none)) else (none)) = some (r1, r2) := by rw [if_neg (show ¬ (false = true) by decide)] at H; exact H
        clear H
        have H := H1
        clear H1
        by_cases c7 : a0.size + 1 ≤ 9223372036854775807
        · rw [if_pos c7] at H
          have c7b0 := eq_true c7
          have c7b1 : decide (a0.size + 1 ≤ 9223372036854775807) = true := decide_eq_true c7
          try have c7b2 : (9223372036854775807 < a0.size + 1) = False := eq_false (Nat.not_lt.2 c7)
          by_cases c8 : (a0 ++ (⟨#[32]⟩ : ByteArray)).size + a1.size ≤ 9223372036854775807
          · rw [if_pos c8] at H
            have c8b0 := eq_true c8
            have c8b1 : decide ((a0 ++ (⟨#[32]⟩ : ByteArray)).size + a1.size ≤ 9223372036854775807) = true := decide_eq_true c8
            try have c8b3 : (9223372036854775807 < a0.size + 1 + a1.size) = False := eq_false (Nat.not_lt.2 (by have hq_ := c8; simp only [ByteArray.size_append] at hq_; first | exact hq_ | (simp at hq_; omega)))
            try have c8b2 : (9223372036854775807 < (a0 ++ (⟨#[32]⟩ : ByteArray)).size + a1.size) = False := eq_false (Nat.not_lt.2 c8)
            by_cases c9 : ((a0 ++ (⟨#[32]⟩ : ByteArray)) ++ a1).size + 8 ≤ 9223372036854775807
            · rw [if_pos c9] at H
              have c9b0 := eq_true c9
              have c9b1 : decide (((a0 ++ (⟨#[32]⟩ : ByteArray)) ++ a1).size + 8 ≤ 9223372036854775807) = true := decide_eq_true c9
              try have c9b3 : (9223372036854775807 < a0.size + 1 + a1.size + 8) = False := eq_false (Nat.not_lt.2 (by have hq_ := c9; simp only [ByteArray.size_append] at hq_; first | exact hq_ | (simp at hq_; omega)))
              try have c9b2 : (9223372036854775807 < ((a0 ++ (⟨#[32]⟩ : ByteArray)) ++ a1).size + 8) = False := eq_false (Nat.not_lt.2 c9)
              obtain ⟨y127, hy127⟩ : ∃ y_ : List Int, y_ = (([(wrap64 (48 + a2)) % 256] : List Int)) := ⟨_, rfl⟩
              replace H : (if (((a0 ++ (⟨#[32]⟩ : ByteArray)) ++ a1) ++ (⟨#[32, 72, 84, 84, 80, 47, 49, 46]⟩ : ByteArray)).size + (strOfNums y127).size ≤ 9223372036854775807 then ((tollhouseref06_Request.f kj3 ((((a0 ++ (⟨#[32]⟩ : ByteArray)) ++ a1) ++ (⟨#[32, 72, 84, 84, 80, 47, 49, 46]⟩ : ByteArray)) ++ (strOfNums y127))).bind fun bt130 => (if bt130.2.2.2 = 0 then (if bt130.1.toList = a0.toList then (if bt130.2.1.toList = a1.toList then (if bt130.2.2.1 = a2 then (some ((((a0 ++ (⟨#[32]⟩ : ByteArray)) ++ a1) ++ (⟨#[32, 72, 84, 84, 80, 47, 49, 46]⟩ : ByteArray)) ++ (strOfNums y127), 0)) else (some ((⟨#[]⟩ : ByteArray), 1))) else (some ((⟨#[]⟩ : ByteArray), 1))) else (some ((⟨#[]⟩ : ByteArray), 1))) else (some ((⟨#[]⟩ : ByteArray), 1)))) else (none)) = some (r1, r2) := by first | (rw [hy127]; with_reducible exact H) | (have H2_ := (Option.bind_some _ _).symm.trans H; rw [hy127]; with_reducible exact H2_) | (have H2_ := (Option.bind_some _ _).symm.trans H; with_reducible exact H2_) | with_reducible exact H | (rw [hy127]; exact H) | exact H
              have Ny127 := Aside0.mk hy127
              clear hy127
              by_cases c10 : (((a0 ++ (⟨#[32]⟩ : ByteArray)) ++ a1) ++ (⟨#[32, 72, 84, 84, 80, 47, 49, 46]⟩ : ByteArray)).size + (strOfNums y127).size ≤ 9223372036854775807
              · rw [if_pos c10] at H
                have c10b0 := eq_true c10
                have c10b1 : decide ((((a0 ++ (⟨#[32]⟩ : ByteArray)) ++ a1) ++ (⟨#[32, 72, 84, 84, 80, 47, 49, 46]⟩ : ByteArray)).size + (strOfNums y127).size ≤ 9223372036854775807) = true := decide_eq_true c10
                try have c10b3 : (9223372036854775807 < a0.size + 1 + a1.size + 8 + (strOfNums y127).size) = False := eq_false (Nat.not_lt.2 (by have hq_ := c10; simp only [ByteArray.size_append] at hq_; first | exact hq_ | (simp at hq_; omega)))
                try have c10b2 : (9223372036854775807 < (((a0 ++ (⟨#[32]⟩ : ByteArray)) ++ a1) ++ (⟨#[32, 72, 84, 84, 80, 47, 49, 46]⟩ : ByteArray)).size + (strOfNums y127).size) = False := eq_false (Nat.not_lt.2 c10)
                replace H := Option.bind_eq_some_iff.mp H
                obtain ⟨⟨t130, t131, t132, t133⟩, A110, H⟩ := H
                replace H : (if t133 = 0 then (if t130.toList = a0.toList then (if t131.toList = a1.toList then (if t132 = a2 then (some ((((a0 ++ (⟨#[32]⟩ : ByteArray)) ++ a1) ++ (⟨#[32, 72, 84, 84, 80, 47, 49, 46]⟩ : ByteArray)) ++ (strOfNums y127), 0)) else (some ((⟨#[]⟩ : ByteArray), 1))) else (some ((⟨#[]⟩ : ByteArray), 1))) else (some ((⟨#[]⟩ : ByteArray), 1))) else (some ((⟨#[]⟩ : ByteArray), 1))) = some (r1, r2) := H
                have A11 := Aside0.mk A110
                clear A110
                by_cases c12 : t133 = 0
                · rw [if_pos c12] at H
                  have c12b0 : (t133 == 0) = true := beq_iff_eq.mpr c12
                  have c12b1 : (t133 != 0) = false := bne_eq_false_iff_eq.mpr c12
                  clear c12
                  by_cases c13 : t130.toList = a0.toList
                  · rw [if_pos c13] at H
                    have c13b0 : (t130.toList == a0.toList) = true := beq_iff_eq.mpr c13
                    have c13b1 : (t130.toList != a0.toList) = false := bne_eq_false_iff_eq.mpr c13
                    clear c13
                    by_cases c14 : t131.toList = a1.toList
                    · rw [if_pos c14] at H
                      have c14b0 : (t131.toList == a1.toList) = true := beq_iff_eq.mpr c14
                      have c14b1 : (t131.toList != a1.toList) = false := bne_eq_false_iff_eq.mpr c14
                      clear c14
                      by_cases c15 : t132 = a2
                      · rw [if_pos c15] at H
                        have c15b0 : (t132 == a2) = true := beq_iff_eq.mpr c15
                        have c15b1 : (t132 != a2) = false := bne_eq_false_iff_eq.mpr c15
                        clear c15
                        simp only [Option.some.injEq, Prod.mk.injEq] at H
                        obtain ⟨rfl, rfl⟩ := H
                        go_wp2_with (first | ((with_reducible refine gate_dst (N := 27) rfl ?_); refine Kd.R_lit (Kd.int .u8) _ 5 ?hg (N := 27) ?hd (xs := ([(wrap64 (48 + a2)) % 256] : List Int)) (inner := [.int .u8 ((wrap64 (48 + a2)) % 256)]) (ok := fun _ => True) (okp := fun _ => True) ?hr ?hp (fun _ hk => hk) trivial (Below.refl _ _) (Nat.le_refl _) (by simp) ?_; (case hd => rfl); (case hg => rfl); (case hr => first | (go_simp; done) | (go_simp; rfl)); (case hp => exact (Reps.one (show Kd.M (Kd.int .u8) _ _ _ ((wrap64 (48 + a2)) % 256) [.int .u8 ((wrap64 (48 + a2)) % 256)] from rfl) (Reps.none _ _))); intro v128 w16 ho17 hb hg_ hnew_; clear hg_ hnew_; (first | rw [← Ny127.out] at ho17 | (simp only [Int.reduceToNat] at ho17; rw [← Ny127.out] at ho17)); have n0_ := Aside0.mk (Kd.R_lower ho17 (below_size (by repeat (first | (with_reducible first | exact HB.out | apply below_alloc | apply pw_below_drewN | apply below_drew1) | exact HB.out)))); have n1_ := Aside0.mk (below_step (by repeat (first | (with_reducible first | exact HB.out | apply below_alloc | apply pw_below_drewN | apply below_drew1) | exact HB.out)) hb); clear HB; have HO129 := n0_; have HB := n1_; clear n0_ n1_; clear hb ho17; have hcv18 := own_string (P := Tryd.prog) Tryd.underlying49 Tryd.underlying5 Tryd.underlying9 (Kd.own_of_R HO129.out)) | ((with_reducible refine gate_callee (f := 8) rfl ?_); refine goesL_ (some 32) rfl rfl Tryd.func8 (by kernel_rfl) rfl #[.string ((((a0 ++ (⟨#[32]⟩ : ByteArray)) ++ a1) ++ (⟨#[32, 72, 84, 84, 80, 47, 49, 46]⟩ : ByteArray)) ++ (strOfNums y127))] rfl (by (try simp only [List.map_toArray, List.map_cons, List.map_nil]); first | done | rfl | (simp only [List.length_drop, List.length_take]; rfl)) ?_; (with_reducible refine (tollhouseref06_Request.calls kj3 ((((a0 ++ (⟨#[32]⟩ : ByteArray)) ++ a1) ++ (⟨#[32, 72, 84, 84, 80, 47, 49, 46]⟩ : ByteArray)) ++ (strOfNums y127)) t130 t131 t132 t133 _ (Glob.below HGl.out (by repeat (first | (with_reducible first | exact HB.out | apply below_alloc | apply pw_below_drewN | apply below_drew1) | exact HB.out))) A11.out).mono ?_); rintro e w19 ⟨rfl, hb⟩; refine ⟨_, rfl, ?_⟩; have n0_ := Aside0.mk (Kd.R_below (by (with_reducible repeat (first | apply Kd.R_alloc | apply Kd.R_drewN | apply Kd.R_drew)); exact HO129.out) hb); have n1_ := Aside0.mk (below_step (by repeat (first | (with_reducible first | exact HB.out | apply below_alloc | apply pw_below_drewN | apply below_drew1) | exact HB.out)) hb); clear HO129; clear HB; have HO129 := n0_; have HB := n1_; clear n0_ n1_; (try clear hb); (try clear hb2); (try clear hk); (try clear hi)))
                        go_ret2
                        exact ⟨by first | rfl | (simp [errW_none, errW_some] <;> rfl) | (simp [*, errW_none, errW_some] <;> rfl), by repeat (first | (with_reducible first | exact HB.out | apply below_alloc | apply pw_below_drewN | apply below_drew1) | exact HB.out)⟩
                      · rw [if_neg c15] at H
                        have c15b0 : (t132 == a2) = false := beq_eq_false_iff_ne.mpr c15
                        have c15b1 : (t132 != a2) = true := bne_iff_ne.mpr c15
                        simp only [Option.some.injEq, Prod.mk.injEq] at H
                        obtain ⟨rfl, rfl⟩ := H
                        go_wp2_with (first | ((with_reducible refine gate_dst (N := 27) rfl ?_); refine Kd.R_lit (Kd.int .u8) _ 5 ?hg (N := 27) ?hd (xs := ([(wrap64 (48 + a2)) % 256] : List Int)) (inner := [.int .u8 ((wrap64 (48 + a2)) % 256)]) (ok := fun _ => True) (okp := fun _ => True) ?hr ?hp (fun _ hk => hk) trivial (Below.refl _ _) (Nat.le_refl _) (by simp) ?_; (case hd => rfl); (case hg => rfl); (case hr => first | (go_simp; done) | (go_simp; rfl)); (case hp => exact (Reps.one (show Kd.M (Kd.int .u8) _ _ _ ((wrap64 (48 + a2)) % 256) [.int .u8 ((wrap64 (48 + a2)) % 256)] from rfl) (Reps.none _ _))); intro v128 w20 ho21 hb hg_ hnew_; clear hg_ hnew_; (first | rw [← Ny127.out] at ho21 | (simp only [Int.reduceToNat] at ho21; rw [← Ny127.out] at ho21)); have n0_ := Aside0.mk (Kd.R_lower ho21 (below_size (by repeat (first | (with_reducible first | exact HB.out | apply below_alloc | apply pw_below_drewN | apply below_drew1) | exact HB.out)))); have n1_ := Aside0.mk (below_step (by repeat (first | (with_reducible first | exact HB.out | apply below_alloc | apply pw_below_drewN | apply below_drew1) | exact HB.out)) hb); clear HB; have HO129 := n0_; have HB := n1_; clear n0_ n1_; clear hb ho21; have hcv22 := own_string (P := Tryd.prog) Tryd.underlying49 Tryd.underlying5 Tryd.underlying9 (Kd.own_of_R HO129.out)) | ((with_reducible refine gate_callee (f := 8) rfl ?_); refine goesL_ (some 32) rfl rfl Tryd.func8 (by kernel_rfl) rfl #[.string ((((a0 ++ (⟨#[32]⟩ : ByteArray)) ++ a1) ++ (⟨#[32, 72, 84, 84, 80, 47, 49, 46]⟩ : ByteArray)) ++ (strOfNums y127))] rfl (by (try simp only [List.map_toArray, List.map_cons, List.map_nil]); first | done | rfl | (simp only [List.length_drop, List.length_take]; rfl)) ?_; (with_reducible refine (tollhouseref06_Request.calls kj3 ((((a0 ++ (⟨#[32]⟩ : ByteArray)) ++ a1) ++ (⟨#[32, 72, 84, 84, 80, 47, 49, 46]⟩ : ByteArray)) ++ (strOfNums y127)) t130 t131 t132 t133 _ (Glob.below HGl.out (by repeat (first | (with_reducible first | exact HB.out | apply below_alloc | apply pw_below_drewN | apply below_drew1) | exact HB.out))) A11.out).mono ?_); rintro e w23 ⟨rfl, hb⟩; refine ⟨_, rfl, ?_⟩; have n0_ := Aside0.mk (Kd.R_below (by (with_reducible repeat (first | apply Kd.R_alloc | apply Kd.R_drewN | apply Kd.R_drew)); exact HO129.out) hb); have n1_ := Aside0.mk (below_step (by repeat (first | (with_reducible first | exact HB.out | apply below_alloc | apply pw_below_drewN | apply below_drew1) | exact HB.out)) hb); clear HO129; clear HB; have HO129 := n0_; have HB := n1_; clear n0_ n1_; (try clear hb); (try clear hb2); (try clear hk); (try clear hi)))
                        go_ret2
                        exact ⟨by first | rfl | (simp [errW_none, errW_some] <;> rfl) | (simp [*, errW_none, errW_some] <;> rfl), by repeat (first | (with_reducible first | exact HB.out | apply below_alloc | apply pw_below_drewN | apply below_drew1) | exact HB.out)⟩
                    · rw [if_neg c14] at H
                      have c14b0 : (t131.toList == a1.toList) = false := beq_eq_false_iff_ne.mpr c14
                      have c14b1 : (t131.toList != a1.toList) = true := bne_iff_ne.mpr c14
                      simp only [Option.some.injEq, Prod.mk.injEq] at H
                      obtain ⟨rfl, rfl⟩ := H
                      go_wp2_with (first | ((with_reducible refine gate_dst (N := 27) rfl ?_); refine Kd.R_lit (Kd.int .u8) _ 5 ?hg (N := 27) ?hd (xs := ([(wrap64 (48 + a2)) % 256] : List Int)) (inner := [.int .u8 ((wrap64 (48 + a2)) % 256)]) (ok := fun _ => True) (okp := fun _ => True) ?hr ?hp (fun _ hk => hk) trivial (Below.refl _ _) (Nat.le_refl _) (by simp) ?_; (case hd => rfl); (case hg => rfl); (case hr => first | (go_simp; done) | (go_simp; rfl)); (case hp => exact (Reps.one (show Kd.M (Kd.int .u8) _ _ _ ((wrap64 (48 + a2)) % 256) [.int .u8 ((wrap64 (48 + a2)) % 256)] from rfl) (Reps.none _ _))); intro v128 w24 ho25 hb hg_ hnew_; clear hg_ hnew_; (first | rw [← Ny127.out] at ho25 | (simp only [Int.reduceToNat] at ho25; rw [← Ny127.out] at ho25)); have n0_ := Aside0.mk (Kd.R_lower ho25 (below_size (by repeat (first | (with_reducible first | exact HB.out | apply below_alloc | apply pw_below_drewN | apply below_drew1) | exact HB.out)))); have n1_ := Aside0.mk (below_step (by repeat (first | (with_reducible first | exact HB.out | apply below_alloc | apply pw_below_drewN | apply below_drew1) | exact HB.out)) hb); clear HB; have HO129 := n0_; have HB := n1_; clear n0_ n1_; clear hb ho25; have hcv26 := own_string (P := Tryd.prog) Tryd.underlying49 Tryd.underlying5 Tryd.underlying9 (Kd.own_of_R HO129.out)) | ((with_reducible refine gate_callee (f := 8) rfl ?_); refine goesL_ (some 32) rfl rfl Tryd.func8 (by kernel_rfl) rfl #[.string ((((a0 ++ (⟨#[32]⟩ : ByteArray)) ++ a1) ++ (⟨#[32, 72, 84, 84, 80, 47, 49, 46]⟩ : ByteArray)) ++ (strOfNums y127))] rfl (by (try simp only [List.map_toArray, List.map_cons, List.map_nil]); first | done | rfl | (simp only [List.length_drop, List.length_take]; rfl)) ?_; (with_reducible refine (tollhouseref06_Request.calls kj3 ((((a0 ++ (⟨#[32]⟩ : ByteArray)) ++ a1) ++ (⟨#[32, 72, 84, 84, 80, 47, 49, 46]⟩ : ByteArray)) ++ (strOfNums y127)) t130 t131 t132 t133 _ (Glob.below HGl.out (by repeat (first | (with_reducible first | exact HB.out | apply below_alloc | apply pw_below_drewN | apply below_drew1) | exact HB.out))) A11.out).mono ?_); rintro e w27 ⟨rfl, hb⟩; refine ⟨_, rfl, ?_⟩; have n0_ := Aside0.mk (Kd.R_below (by (with_reducible repeat (first | apply Kd.R_alloc | apply Kd.R_drewN | apply Kd.R_drew)); exact HO129.out) hb); have n1_ := Aside0.mk (below_step (by repeat (first | (with_reducible first | exact HB.out | apply below_alloc | apply pw_below_drewN | apply below_drew1) | exact HB.out)) hb); clear HO129; clear HB; have HO129 := n0_; have HB := n1_; clear n0_ n1_; (try clear hb); (try clear hb2); (try clear hk); (try clear hi)))
                      go_ret2
                      exact ⟨by first | rfl | (simp [errW_none, errW_some] <;> rfl) | (simp [*, errW_none, errW_some] <;> rfl), by repeat (first | (with_reducible first | exact HB.out | apply below_alloc | apply pw_below_drewN | apply below_drew1) | exact HB.out)⟩
                  · rw [if_neg c13] at H
                    have c13b0 : (t130.toList == a0.toList) = false := beq_eq_false_iff_ne.mpr c13
                    have c13b1 : (t130.toList != a0.toList) = true := bne_iff_ne.mpr c13
                    simp only [Option.some.injEq, Prod.mk.injEq] at H
                    obtain ⟨rfl, rfl⟩ := H
                    go_wp2_with (first | ((with_reducible refine gate_dst (N := 27) rfl ?_); refine Kd.R_lit (Kd.int .u8) _ 5 ?hg (N := 27) ?hd (xs := ([(wrap64 (48 + a2)) % 256] : List Int)) (inner := [.int .u8 ((wrap64 (48 + a2)) % 256)]) (ok := fun _ => True) (okp := fun _ => True) ?hr ?hp (fun _ hk => hk) trivial (Below.refl _ _) (Nat.le_refl _) (by simp) ?_; (case hd => rfl); (case hg => rfl); (case hr => first | (go_simp; done) | (go_simp; rfl)); (case hp => exact (Reps.one (show Kd.M (Kd.int .u8) _ _ _ ((wrap64 (48 + a2)) % 256) [.int .u8 ((wrap64 (48 + a2)) % 256)] from rfl) (Reps.none _ _))); intro v128 w28 ho29 hb hg_ hnew_; clear hg_ hnew_; (first | rw [← Ny127.out] at ho29 | (simp only [Int.reduceToNat] at ho29; rw [← Ny127.out] at ho29)); have n0_ := Aside0.mk (Kd.R_lower ho29 (below_size (by repeat (first | (with_reducible first | exact HB.out | apply below_alloc | apply pw_below_drewN | apply below_drew1) | exact HB.out)))); have n1_ := Aside0.mk (below_step (by repeat (first | (with_reducible first | exact HB.out | apply below_alloc | apply pw_below_drewN | apply below_drew1) | exact HB.out)) hb); clear HB; have HO129 := n0_; have HB := n1_; clear n0_ n1_; clear hb ho29; have hcv30 := own_string (P := Tryd.prog) Tryd.underlying49 Tryd.underlying5 Tryd.underlying9 (Kd.own_of_R HO129.out)) | ((with_reducible refine gate_callee (f := 8) rfl ?_); refine goesL_ (some 32) rfl rfl Tryd.func8 (by kernel_rfl) rfl #[.string ((((a0 ++ (⟨#[32]⟩ : ByteArray)) ++ a1) ++ (⟨#[32, 72, 84, 84, 80, 47, 49, 46]⟩ : ByteArray)) ++ (strOfNums y127))] rfl (by (try simp only [List.map_toArray, List.map_cons, List.map_nil]); first | done | rfl | (simp only [List.length_drop, List.length_take]; rfl)) ?_; (with_reducible refine (tollhouseref06_Request.calls kj3 ((((a0 ++ (⟨#[32]⟩ : ByteArray)) ++ a1) ++ (⟨#[32, 72, 84, 84, 80, 47, 49, 46]⟩ : ByteArray)) ++ (strOfNums y127)) t130 t131 t132 t133 _ (Glob.below HGl.out (by repeat (first | (with_reducible first | exact HB.out | apply below_alloc | apply pw_below_drewN | apply below_drew1) | exact HB.out))) A11.out).mono ?_); rintro e w31 ⟨rfl, hb⟩; refine ⟨_, rfl, ?_⟩; have n0_ := Aside0.mk (Kd.R_below (by (with_reducible repeat (first | apply Kd.R_alloc | apply Kd.R_drewN | apply Kd.R_drew)); exact HO129.out) hb); have n1_ := Aside0.mk (below_step (by repeat (first | (with_reducible first | exact HB.out | apply below_alloc | apply pw_below_drewN | apply below_drew1) | exact HB.out)) hb); clear HO129; clear HB; have HO129 := n0_; have HB := n1_; clear n0_ n1_; (try clear hb); (try clear hb2); (try clear hk); (try clear hi)))
                    go_ret2
                    exact ⟨by first | rfl | (simp [errW_none, errW_some] <;> rfl) | (simp [*, errW_none, errW_some] <;> rfl), by repeat (first | (with_reducible first | exact HB.out | apply below_alloc | apply pw_below_drewN | apply below_drew1) | exact HB.out)⟩
                · rw [if_neg c12] at H
                  have c12b0 : (t133 == 0) = false := beq_eq_false_iff_ne.mpr c12
                  have c12b1 : (t133 != 0) = true := bne_iff_ne.mpr c12
                  simp only [Option.some.injEq, Prod.mk.injEq] at H
                  obtain ⟨rfl, rfl⟩ := H
                  go_wp2_with (first | ((with_reducible refine gate_dst (N := 27) rfl ?_); refine Kd.R_lit (Kd.int .u8) _ 5 ?hg (N := 27) ?hd (xs := ([(wrap64 (48 + a2)) % 256] : List Int)) (inner := [.int .u8 ((wrap64 (48 + a2)) % 256)]) (ok := fun _ => True) (okp := fun _ => True) ?hr ?hp (fun _ hk => hk) trivial (Below.refl _ _) (Nat.le_refl _) (by simp) ?_; (case hd => rfl); (case hg => rfl); (case hr => first | (go_simp; done) | (go_simp; rfl)); (case hp => exact (Reps.one (show Kd.M (Kd.int .u8) _ _ _ ((wrap64 (48 + a2)) % 256) [.int .u8 ((wrap64 (48 + a2)) % 256)] from rfl) (Reps.none _ _))); intro v128 w32 ho33 hb hg_ hnew_; clear hg_ hnew_; (first | rw [← Ny127.out] at ho33 | (simp only [Int.reduceToNat] at ho33; rw [← Ny127.out] at ho33)); have n0_ := Aside0.mk (Kd.R_lower ho33 (below_size (by repeat (first | (with_reducible first | exact HB.out | apply below_alloc | apply pw_below_drewN | apply below_drew1) | exact HB.out)))); have n1_ := Aside0.mk (below_step (by repeat (first | (with_reducible first | exact HB.out | apply below_alloc | apply pw_below_drewN | apply below_drew1) | exact HB.out)) hb); clear HB; have HO129 := n0_; have HB := n1_; clear n0_ n1_; clear hb ho33; have hcv34 := own_string (P := Tryd.prog) Tryd.underlying49 Tryd.underlying5 Tryd.underlying9 (Kd.own_of_R HO129.out)) | ((with_reducible refine gate_callee (f := 8) rfl ?_); refine goesL_ (some 32) rfl rfl Tryd.func8 (by kernel_rfl) rfl #[.string ((((a0 ++ (⟨#[32]⟩ : ByteArray)) ++ a1) ++ (⟨#[32, 72, 84, 84, 80, 47, 49, 46]⟩ : ByteArray)) ++ (strOfNums y127))] rfl (by (try simp only [List.map_toArray, List.map_cons, List.map_nil]); first | done | rfl | (simp only [List.length_drop, List.length_take]; rfl)) ?_; (with_reducible refine (tollhouseref06_Request.calls kj3 ((((a0 ++ (⟨#[32]⟩ : ByteArray)) ++ a1) ++ (⟨#[32, 72, 84, 84, 80, 47, 49, 46]⟩ : ByteArray)) ++ (strOfNums y127)) t130 t131 t132 t133 _ (Glob.below HGl.out (by repeat (first | (with_reducible first | exact HB.out | apply below_alloc | apply pw_below_drewN | apply below_drew1) | exact HB.out))) A11.out).mono ?_); rintro e w35 ⟨rfl, hb⟩; refine ⟨_, rfl, ?_⟩; have n0_ := Aside0.mk (Kd.R_below (by (with_reducible repeat (first | apply Kd.R_alloc | apply Kd.R_drewN | apply Kd.R_drew)); exact HO129.out) hb); have n1_ := Aside0.mk (below_step (by repeat (first | (with_reducible first | exact HB.out | apply below_alloc | apply pw_below_drewN | apply below_drew1) | exact HB.out)) hb); clear HO129; clear HB; have HO129 := n0_; have HB := n1_; clear n0_ n1_; (try clear hb); (try clear hb2); (try clear hk); (try clear hi)))
                  go_ret2
                  exact ⟨by first | rfl | (simp [errW_none, errW_some] <;> rfl) | (simp [*, errW_none, errW_some] <;> rfl), by repeat (first | (with_reducible first | exact HB.out | apply below_alloc | apply pw_below_drewN | apply below_drew1) | exact HB.out)⟩
              · rw [if_neg c10] at H
                exact absurd H (by simp)
            · rw [if_neg c9] at H
              exact absurd H (by simp)
          · rw [if_neg c8] at H
            exact absurd H (by simp)
        · rw [if_neg c7] at H
          exact absurd H (by simp)

end Go.Proofs.YtpoljchfgdnmbaaDoor.X

/- Requests' and responses' lines: the plain laws. -/
namespace Go.Proofs.YtpoljchfgdnmbaaDoor.X
open Go.RowKit Go.Proofs.YtpoljchfgdnmbaaDoorW.PrintWords Go.Proofs.YtpoljchfgdnmbaaDoorW.PrintLast Go.Proofs.YtpoljchfgdnmbaaDoorW.PrintMore Go.Proofs.YtpoljchfgdnmbaaDoor.T
set_option linter.unusedSimpArgs false
set_option linter.unusedVariables false
def itoB (n : Int) : ByteArray := ⟨(Lib.itoa n).toArray⟩
def verB (n : Int) : ByteArray := (⟨#[72, 84, 84, 80, 47, 49, 46]⟩ : ByteArray) ++ itoB n
def verL (n : Int) : List UInt8 := [72, 84, 84, 80, 47, 49, 46] ++ Lib.itoa n
theorem itoB_list (n : Int) : (itoB n).data.toList = Lib.itoa n := by unfold itoB; simp
theorem verB_list (n : Int) : (verB n).data.toList = verL n := by unfold verB verL; rw [toList_app, itoB_list]
theorem itoa_0 : Lib.itoa 0 = [48] := by decide +kernel
theorem itoa_1 : Lib.itoa 1 = [49] := by decide +kernel
def inI (n : Int) : Prop := -9223372036854775808 ≤ n ∧ n ≤ 9223372036854775807
theorem itoB_size (n : Int) (h : inI n) : (itoB n).size ≤ 21 := by
  have := Lib.itoa_length_le n h.1 h.2
  rw [← size_toList, itoB_list]; exact this
theorem verB_size (n : Int) (h : inI n) : (verB n).size ≤ 28 := by
  have := itoB_size n h
  unfold verB
  rw [size_app]
  have e : (⟨#[72, 84, 84, 80, 47, 49, 46]⟩ : ByteArray).size = 7 := rfl
  omega
theorem itoa_eq (n : Int) (h : inI n) : strconv_Itoa.f n = some (itoB n) := by unfold strconv_Itoa.f; rw [if_pos (show -9223372036854775808 ≤ n ∧ n ≤ 9223372036854775807 from h)]; rfl
theorem put_eq (n : Int) (h : inI n) : start_put.f n = some (verB n) := by
  unfold start_put.f
  rw [itoa_eq n h]
  simp only [Option.bind_some]
  have := itoB_size n h
  rw [if_pos (by omega)]; rfl
theorem token_eq (m : ByteArray) (h : m.size ≤ 4294967296) : text_Token.f m = some (tokenB m) := by unfold text_Token.f; rw [if_pos (by omega)]
theorem target_eq (m : ByteArray) (h : m.size ≤ 4294967296) : start_target.f m = some (targetB m) := by unfold start_target.f; rw [if_pos (by omega)]
theorem one_sp : (⟨#[32]⟩ : ByteArray).size = 1 := rfl
theorem sp_list : (⟨#[32]⟩ : ByteArray).data.toList = [32] := rfl
/-! ### requests -/
def reqLine (m t : ByteArray) (n : Int) : ByteArray := (((m ++ (⟨#[32]⟩ : ByteArray)) ++ t) ++ (⟨#[32]⟩ : ByteArray)) ++ verB n
def rqL (m t : ByteArray) (n : Int) : List UInt8 := m.data.toList ++ 32 :: (t.data.toList ++ 32 :: verL n)
theorem reqLine_list (m t : ByteArray) (n : Int) : (reqLine m t n).data.toList = rqL m t n := by
  unfold reqLine rqL
  rw [toList_app, toList_app, toList_app, toList_app, verB_list, sp_list]
  simp
def putReqB (m t : ByteArray) (n : Int) : ByteArray × Int := if tokenB m = true ∧ m.size ≤ 32 ∧ targetB t = true ∧ 0 ≤ n ∧ n ≤ 1 ∧ (reqLine m t n).size ≤ 512 then (reqLine m t n, 0) else ((⟨#[]⟩ : ByteArray), 1)
theorem putReq_eq (m t : ByteArray) (n : Int) (hm : m.size ≤ 4294967296) (ht : t.size ≤ 4294967296) (hn : inI n) : start_PutRequest.f m t n = some (putReqB m t n) := by
  have hv := verB_size n hn
  have h1 : (m ++ (⟨#[32]⟩ : ByteArray)).size = m.size + 1 := by rw [size_app, one_sp]
  have h2 : ((m ++ (⟨#[32]⟩ : ByteArray)) ++ t).size = m.size + 1 + t.size := by rw [size_app, h1]
  have h3 : (((m ++ (⟨#[32]⟩ : ByteArray)) ++ t) ++ (⟨#[32]⟩ : ByteArray)).size = m.size + 1 + t.size + 1 := by rw [size_app, h2, one_sp]
  unfold start_PutRequest.f putReqB
  rw [put_eq n hn, token_eq m hm, target_eq t ht]
  simp only [Option.bind_some]
  rw [if_pos (by omega), if_pos (by omega), if_pos (by omega), if_pos (by omega)]
  have hl : ((((m ++ (⟨#[32]⟩ : ByteArray)) ++ t) ++ (⟨#[32]⟩ : ByteArray)) ++ verB n) = reqLine m t n := rfl
  rw [hl]
  cases tokenB m with
  | false => simp
  | true =>
    rw [if_pos rfl]
    by_cases c1 : (m.size : Int) > 32
    · rw [if_pos c1, if_neg (fun h => by have := h.2.1; omega)]
    · rw [if_neg c1]
      cases targetB t with
      | false => simp
      | true =>
        rw [if_pos rfl]
        by_cases c2 : n < 0
        · rw [if_pos c2, if_neg (fun h => by have := h.2.2.2.1; omega)]
        · rw [if_neg c2]
          by_cases c3 : n > 1
          · rw [if_pos c3, if_neg (fun h => by have := h.2.2.2.2.1; omega)]
          · rw [if_neg c3]
            by_cases c4 : ((reqLine m t n).size : Int) > 512
            · rw [if_pos c4, if_neg (fun h => by have := h.2.2.2.2.2; omega)]
            · rw [if_neg c4, if_pos ⟨rfl, by omega, rfl, by omega, by omega, by omega⟩]
/-- a line that is a request's -/
structure RqIs (s m t : ByteArray) (n : Int) : Prop where
  line : s.data.toList = rqL m t n
  tok : tokenB m = true
  msz : m.size ≤ 32
  tgt : targetB t = true
  n01 : n = 0 ∨ n = 1
  sz : s.size ≤ 512
theorem tok_32 {m : ByteArray} (h : tokenB m = true) : (32 : UInt8) ∉ m.data.toList := fun hm => by
  unfold tokenB at h
  rw [Bool.and_eq_true] at h
  have := List.all_eq_true.1 h.2 _ hm
  exact absurd this (by decide)
theorem tgt_32 {m : ByteArray} (h : targetB m = true) : (32 : UInt8) ∉ m.data.toList := fun hm => by
  unfold targetB at h
  rw [Bool.and_eq_true] at h
  have := List.all_eq_true.1 h.2 _ hm
  exact absurd this (by decide)
theorem ver_32 {n : Int} (h : n = 0 ∨ n = 1) : (32 : UInt8) ∉ verL n := by
  unfold verL
  rcases h with rfl | rfl
  · rw [itoa_0]; decide
  · rw [itoa_1]; decide
theorem verL_0 : verL 0 = [72, 84, 84, 80, 47, 49, 46, 48] := by unfold verL; rw [itoa_0]; rfl
theorem verL_1 : verL 1 = [72, 84, 84, 80, 47, 49, 46, 49] := by unfold verL; rw [itoa_1]; rfl
theorem verL_inj {n n' : Int} (h : n = 0 ∨ n = 1) (h' : n' = 0 ∨ n' = 1) (e : verL n = verL n') : n = n' := by
  rcases h with rfl | rfl <;> rcases h' with rfl | rfl <;> first | rfl | (rw [verL_0, verL_1] at e; exact absurd e (by decide)) | (rw [verL_1, verL_0] at e; exact absurd e (by decide))
theorem RqIs.parts {s m t : ByteArray} {n : Int} (h : RqIs s m t n) : partsB 32 s = [m, t, ⟨(verL n).toArray⟩] := by
  rw [parts_cons 32 s _ _ h.line (tok_32 h.tok), parts_cons 32 _ _ (verL n) rfl (tgt_32 h.tgt), parts_one 32 _ (ver_32 h.n01)]
theorem RqIs.unique {s m t m' t' : ByteArray} {n n' : Int} (h : RqIs s m t n) (h' : RqIs s m' t' n') : m = m' ∧ t = t' ∧ n = n' := by
  have e := h.parts.symm.trans h'.parts
  injection e with e1 e
  injection e with e2 e
  injection e with e3 _
  have e4 := congrArg (fun b : ByteArray => b.data.toList) e3
  exact ⟨e1, e2, verL_inj h.n01 h'.n01 (by simpa using e4)⟩
theorem putReq_ok {m t s : ByteArray} {n : Int} (h : RqIs s m t n) : putReqB m t n = (s, 0) := by
  have e : reqLine m t n = s := bytes_ext (by rw [reqLine_list, h.line])
  unfold putReqB
  rw [e, if_pos ⟨h.tok, h.msz, h.tgt, by rcases h.n01 with rfl | rfl <;> omega, by rcases h.n01 with rfl | rfl <;> omega, h.sz⟩]
theorem putReq_back {m t : ByteArray} {n : Int} : (putReqB m t n = ((⟨#[]⟩ : ByteArray), 1)) ∨ (putReqB m t n = (reqLine m t n, 0) ∧ RqIs (reqLine m t n) m t n) := by
  unfold putReqB
  by_cases h : tokenB m = true ∧ m.size ≤ 32 ∧ targetB t = true ∧ 0 ≤ n ∧ n ≤ 1 ∧ (reqLine m t n).size ≤ 512
  · rw [if_pos h]
    exact .inr ⟨rfl, reqLine_list m t n, h.1, h.2.1, h.2.2.1, by omega, h.2.2.2.2.2⟩
  · rw [if_neg h]; exact .inl rfl
def noReq : ByteArray × ByteArray × Int × Int := ((⟨#[]⟩ : ByteArray), (⟨#[]⟩ : ByteArray), 0, 5)
def ReqSpec (s : ByteArray) (r : ByteArray × ByteArray × Int × Int) : Prop := (r = noReq ∧ ∀ m t n, ¬ RqIs s m t n) ∨ ∃ m t n, r = (m, t, n, 0) ∧ RqIs s m t n
theorem ReqSpec.unique {s : ByteArray} {r r' : ByteArray × ByteArray × Int × Int} (h : ReqSpec s r) (h' : ReqSpec s r') : r = r' := by
  rcases h with ⟨rfl, hn⟩ | ⟨m, t, n, rfl, hq⟩
  · rcases h' with ⟨rfl, _⟩ | ⟨m, t, n, _, hq⟩
    · rfl
    · exact absurd hq (hn m t n)
  · rcases h' with ⟨_, hn⟩ | ⟨m', t', n', rfl, hq'⟩
    · exact absurd hq (hn m t n)
    · obtain ⟨rfl, rfl, rfl⟩ := hq.unique hq'
      rfl
/-! #### start.Request -/
theorem minor_eq (v : ByteArray) (c : UInt8) (l : List UInt8) (h : v.data.toList = l ++ [c]) (hs : v.size ≤ 4294967296) : start_minorOf.f v = some ((c.toNat : Int) - 48) := by
  have hz := size_toList v
  rw [h] at hz
  simp only [List.length_append, List.length_cons, List.length_nil] at hz
  have hw : wrap64 ((v.size : Int) - 1) = ((v.size - 1 : Nat) : Int) := by unfold wrap64; omega
  have hl : v.size - 1 = l.length := by omega
  have hb : bt v ((v.size - 1 : Nat) : Int) = (c.toNat : Int) := (bt_is (by omega) c).2 (by rw [h, hl]; simp)
  have hc := c.toNat_lt
  unfold start_minorOf.f
  rw [hw, if_pos (by omega), if_pos (by omega), hb]
  congr 1
  unfold wrap64; omega
theorem split_eq (s : ByteArray) (h : s.size ≤ 4294960000) : strings_Split.f s (⟨#[32]⟩ : ByteArray) = some (partsB 32 s) := by
  unfold strings_Split.f
  rw [if_pos ⟨by omega, Nat.le_refl _⟩]; rfl
theorem three_list (p0 p1 p2 : ByteArray) : rdOf ByteArray.empty [p0, p1, p2] 0 = p0 ∧ rdOf ByteArray.empty [p0, p1, p2] 1 = p1 ∧ rdOf ByteArray.empty [p0, p1, p2] 2 = p2 := ⟨rfl, rfl, rfl⟩
theorem last_of (v : ByteArray) (h : v.data.toList ≠ []) : ∃ l c, v.data.toList = l ++ [c] := ⟨v.data.toList.dropLast, v.data.toList.getLast h, (List.dropLast_concat_getLast h).symm⟩
theorem request_ev (s : ByteArray) (hs : s.size ≤ 4294960000) : ∃ r, Ev (fun k => start_Request.f k s) r ∧ ReqSpec s r := by
  by_cases h3 : (partsB 32 s).length = 3
  · obtain ⟨p0, p1, p2, hp⟩ : ∃ p0 p1 p2, partsB 32 s = [p0, p1, p2] := by
      match h : partsB 32 s, h3 with
      | [p0, p1, p2], _ => exact ⟨p0, p1, p2, rfl⟩
    obtain ⟨hl, _, _, _⟩ := parts_three 32 s p0 p1 p2 hp
    have hz0 := parts_size 32 s p0 (by rw [hp]; simp)
    have hz1 := parts_size 32 s p1 (by rw [hp]; simp)
    have hz2 := parts_size 32 s p2 (by rw [hp]; simp)
    obtain ⟨r0, r1, r2⟩ := three_list p0 p1 p2
    have hl3 : ([p0, p1, p2] : List ByteArray).length = 3 := rfl
    by_cases he : p2.data.toList = []
    · refine ⟨noReq, ?_, .inl ⟨rfl, fun m t n hq => ?_⟩⟩
      · have e : (p2.toList == ([] : List UInt8)) = true := by rw [toList_eq, he]; rfl
        refine Ev.same (g := fun k => start_Request.j0 k s [p0, p1, p2] true) (fun k => ?_) (Ev.done fun k => by simp only [start_Request.j0]; rw [if_pos trivial]; rfl)
        unfold start_Request.f
        rw [split_eq s hs, hp]
        simp only [Option.bind_some]
        rw [if_pos (by omega), if_pos (by omega), r2, e]
      · have e := hq.parts.symm.trans hp
        injection e with _ e
        injection e with _ e
        injection e with e _
        have := congrArg (fun b : ByteArray => b.data.toList) e
        rw [he] at this
        rcases hq.n01 with rfl | rfl
        · rw [verL_0] at this; cases this
        · rw [verL_1] at this; cases this
    · obtain ⟨l, c, hlc⟩ := last_of p2 he
      have hc := c.toNat_lt
      have hmin := minor_eq p2 c l hlc (by omega)
      have hput := putReq_eq p0 p1 ((c.toNat : Int) - 48) (by omega) (by omega) (by unfold inI; omega)
      have e : (p2.toList == ([] : List UInt8)) = false := by rw [toList_eq]; simpa using he
      have step : ∀ r, (if (putReqB p0 p1 ((c.toNat : Int) - 48)).2 = 0 then (if (putReqB p0 p1 ((c.toNat : Int) - 48)).1.toList = s.toList then (some (p0, p1, (c.toNat : Int) - 48, 0)) else some noReq) else some noReq) = some r → Ev (fun k => start_Request.f k s) r := by
        intro r hr
        refine Ev.same (g := fun k => start_Request.j0 k s [p0, p1, p2] false) (fun k => ?_) (Ev.done fun k => ?_)
        · unfold start_Request.f
          rw [split_eq s hs, hp]
          simp only [Option.bind_some]
          rw [if_pos (by omega), if_pos (by omega), r2, e]
        · simp only [start_Request.j0]
          rw [if_neg (by decide), if_pos (by omega), r0, r1, r2, hmin]
          simp only [Option.bind_some]
          rw [if_pos (by omega), if_pos (by omega), hput]
          exact hr
      by_cases hex : ∃ m t n, RqIs s m t n
      · obtain ⟨m, t, n, hq⟩ := hex
        have eq := hp.symm.trans hq.parts
        injection eq with e0 eq
        injection eq with e1 eq
        injection eq with e2 _
        have en : (c.toNat : Int) - 48 = n := by
          have := congrArg (fun b : ByteArray => b.data.toList) e2
          simp only [hlc] at this
          rcases hq.n01 with rfl | rfl
          · rw [verL_0] at this
            have h8 : l ++ [c] = [72, 84, 84, 80, 47, 49, 46] ++ [48] := this
            have := List.append_inj_right' h8 rfl
            injection this with e _
            subst e; rfl
          · rw [verL_1] at this
            have h8 : l ++ [c] = [72, 84, 84, 80, 47, 49, 46] ++ [49] := this
            have := List.append_inj_right' h8 rfl
            injection this with e _
            subst e; rfl
        subst e0 e1
        refine ⟨(p0, p1, n, 0), step _ ?_, .inr ⟨p0, p1, n, rfl, hq⟩⟩
        rw [en, putReq_ok hq]
        simp
      · refine ⟨noReq, step _ ?_, .inl ⟨rfl, fun m t n hq => hex ⟨m, t, n, hq⟩⟩⟩
        rcases putReq_back (m := p0) (t := p1) (n := (c.toNat : Int) - 48) with hb | ⟨hb, hq⟩
        · rw [hb]; simp
        · rw [hb]
          simp only [if_true]
          rw [if_neg]
          intro e3
          have : reqLine p0 p1 ((c.toNat : Int) - 48) = s := bytes_ext (by rw [toList_eq, toList_eq] at e3; exact e3)
          rw [this] at hq
          exact hex ⟨_, _, _, hq⟩
  · refine ⟨noReq, ?_, .inl ⟨rfl, fun m t n hq => h3 (by rw [hq.parts]; rfl)⟩⟩
    refine Ev.same (g := fun k => start_Request.j0 k s (partsB 32 s) true) (fun k => ?_) (Ev.done fun k => by simp only [start_Request.j0]; rw [if_pos trivial]; rfl)
    unfold start_Request.f
    rw [split_eq s hs]
    simp only [Option.bind_some]
    rw [if_neg (by omega)]
end Go.Proofs.YtpoljchfgdnmbaaDoor.X

/- Responses' lines: what start.Status and start.PutStatus tell. -/
namespace Go.Proofs.YtpoljchfgdnmbaaDoor.X
open Go.RowKit Go.Proofs.YtpoljchfgdnmbaaDoorW.PrintWords Go.Proofs.YtpoljchfgdnmbaaDoorW.PrintLast Go.Proofs.YtpoljchfgdnmbaaDoorW.PrintMore Go.Proofs.YtpoljchfgdnmbaaDoor.T
set_option linter.unusedSimpArgs false
set_option linter.unusedVariables false
theorem visible_eq (m : ByteArray) (h : m.size ≤ 4294967296) : text_Visible.f m = some (visibleB m) := by unfold text_Visible.f; rw [if_pos (by omega)]
def stLine (n st : Int) (r : ByteArray) : ByteArray := (((verB n ++ (⟨#[32]⟩ : ByteArray)) ++ itoB st) ++ (⟨#[32]⟩ : ByteArray)) ++ r
def stL (n st : Int) (r : ByteArray) : List UInt8 := verL n ++ 32 :: (Lib.itoa st ++ 32 :: r.data.toList)
theorem stLine_list (n st : Int) (r : ByteArray) : (stLine n st r).data.toList = stL n st r := by
  unfold stLine stL
  rw [toList_app, toList_app, toList_app, toList_app, verB_list, itoB_list, sp_list]
  simp
def putStB (n st : Int) (r : ByteArray) : ByteArray × Int := if 0 ≤ n ∧ n ≤ 1 ∧ 100 ≤ st ∧ st ≤ 599 ∧ visibleB r = true ∧ (stLine n st r).size ≤ 512 then (stLine n st r, 0) else ((⟨#[]⟩ : ByteArray), 1)
theorem putSt_eq (n st : Int) (r : ByteArray) (hn : inI n) (hst : inI st) (hr : r.size ≤ 4294967296) : start_PutStatus.f n st r = some (putStB n st r) := by
  have hv := verB_size n hn
  have hi := itoB_size st hst
  have h1 : (verB n ++ (⟨#[32]⟩ : ByteArray)).size = (verB n).size + 1 := by rw [size_app, one_sp]
  have h2 : ((verB n ++ (⟨#[32]⟩ : ByteArray)) ++ itoB st).size = (verB n).size + 1 + (itoB st).size := by rw [size_app, h1]
  have h3 : (((verB n ++ (⟨#[32]⟩ : ByteArray)) ++ itoB st) ++ (⟨#[32]⟩ : ByteArray)).size = (verB n).size + 1 + (itoB st).size + 1 := by rw [size_app, h2, one_sp]
  unfold start_PutStatus.f putStB
  rw [put_eq n hn, itoa_eq st hst, visible_eq r hr]
  simp only [Option.bind_some]
  rw [if_pos (by omega), if_pos (by omega), if_pos (by omega), if_pos (by omega)]
  have hl : ((((verB n ++ (⟨#[32]⟩ : ByteArray)) ++ itoB st) ++ (⟨#[32]⟩ : ByteArray)) ++ r) = stLine n st r := rfl
  rw [hl]
  by_cases c1 : n < 0
  · rw [if_pos c1, if_neg (fun h => by have := h.1; omega)]
  · rw [if_neg c1]
    by_cases c2 : n > 1
    · rw [if_pos c2, if_neg (fun h => by have := h.2.1; omega)]
    · rw [if_neg c2]
      by_cases c3 : st < 100
      · rw [if_pos c3, if_neg (fun h => by have := h.2.2.1; omega)]
      · rw [if_neg c3]
        by_cases c4 : st > 599
        · rw [if_pos c4, if_neg (fun h => by have := h.2.2.2.1; omega)]
        · rw [if_neg c4]
          cases visibleB r with
          | false => simp
          | true =>
            rw [if_pos rfl]
            by_cases c5 : ((stLine n st r).size : Int) > 512
            · rw [if_pos c5, if_neg (fun h => by have := h.2.2.2.2.2; omega)]
            · rw [if_neg c5, if_pos ⟨by omega, by omega, by omega, by omega, rfl, by omega⟩]
/-- a line that is a response's -/
structure StIs (s : ByteArray) (n st : Int) (r : ByteArray) : Prop where
  line : s.data.toList = stL n st r
  n01 : n = 0 ∨ n = 1
  lo : 100 ≤ st
  hi : st ≤ 599
  vis : visibleB r = true
  sz : s.size ≤ 512
/-- three digits -/
theorem itoa_three : ∀ m : Fin 500, Lib.itoa ((100 + m.val : Nat) : Int) = [UInt8.ofNat (48 + (100 + m.val) / 100), UInt8.ofNat (48 + (100 + m.val) / 10 % 10), UInt8.ofNat (48 + (100 + m.val) % 10)] ∧ Lib.atoiAll (Lib.itoa ((100 + m.val : Nat) : Int)) = .ok ((100 + m.val : Nat) : Int) ∧ (32 : UInt8) ∉ Lib.itoa ((100 + m.val : Nat) : Int) := by decide +kernel
theorem itoa_st {st : Int} (h0 : 100 ≤ st) (h1 : st ≤ 599) : Lib.itoa st = [UInt8.ofNat (48 + st.toNat / 100), UInt8.ofNat (48 + st.toNat / 10 % 10), UInt8.ofNat (48 + st.toNat % 10)] ∧ Lib.atoiAll (Lib.itoa st) = .ok st ∧ (32 : UInt8) ∉ Lib.itoa st := by
  have := itoa_three ⟨st.toNat - 100, by omega⟩
  have e : 100 + (st.toNat - 100) = st.toNat := by omega
  simp only [e] at this
  have e2 : ((st.toNat : Nat) : Int) = st := by omega
  rw [e2] at this
  exact this
theorem StIs.unique {s : ByteArray} {n st n' st' : Int} {r r' : ByteArray} (h : StIs s n st r) (h' : StIs s n' st' r') : n = n' ∧ st = st' ∧ r = r' := by
  have e := h.line.symm.trans h'.line
  unfold stL at e
  obtain ⟨e1, e⟩ := split_unique 32 e (ver_32 h.n01) (ver_32 h'.n01)
  obtain ⟨e2, e3⟩ := split_unique 32 e (itoa_st h.lo h.hi).2.2 (itoa_st h'.lo h'.hi).2.2
  refine ⟨verL_inj h.n01 h'.n01 e1, ?_, bytes_ext e3⟩
  have a1 := (itoa_st h.lo h.hi).2.1
  have a2 := (itoa_st h'.lo h'.hi).2.1
  rw [e2, a2] at a1
  injection a1 with a1
  exact a1.symm
theorem putSt_ok {n st : Int} {r s : ByteArray} (h : StIs s n st r) : putStB n st r = (s, 0) := by
  have e : stLine n st r = s := bytes_ext (by rw [stLine_list, h.line])
  unfold putStB
  rw [e, if_pos ⟨by rcases h.n01 with rfl | rfl <;> omega, by rcases h.n01 with rfl | rfl <;> omega, h.lo, h.hi, h.vis, h.sz⟩]
theorem putSt_back {n st : Int} {r : ByteArray} : (putStB n st r = ((⟨#[]⟩ : ByteArray), 1)) ∨ (putStB n st r = (stLine n st r, 0) ∧ StIs (stLine n st r) n st r) := by
  unfold putStB
  by_cases h : 0 ≤ n ∧ n ≤ 1 ∧ 100 ≤ st ∧ st ≤ 599 ∧ visibleB r = true ∧ (stLine n st r).size ≤ 512
  · rw [if_pos h]
    exact .inr ⟨rfl, stLine_list n st r, by omega, h.2.2.1, h.2.2.2.1, h.2.2.2.2.1, h.2.2.2.2.2⟩
  · rw [if_neg h]; exact .inl rfl
def StSpec (s : ByteArray) (r : Int × Int × ByteArray × Int) : Prop := (r = noStatus ∧ ∀ n st t, ¬ StIs s n st t) ∨ ∃ n st t, r = (n, st, t, 0) ∧ StIs s n st t
theorem StSpec.unique {s : ByteArray} {r r' : Int × Int × ByteArray × Int} (h : StSpec s r) (h' : StSpec s r') : r = r' := by
  rcases h with ⟨rfl, hn⟩ | ⟨m, t, n, rfl, hq⟩
  · rcases h' with ⟨rfl, _⟩ | ⟨m, t, n, _, hq⟩
    · rfl
    · exact absurd hq (hn m t n)
  · rcases h' with ⟨_, hn⟩ | ⟨m', t', n', rfl, hq'⟩
    · exact absurd hq (hn m t n)
    · obtain ⟨rfl, rfl, rfl⟩ := hq.unique hq'
      rfl
/-! ### three parts at most -/
theorem split3_of (s : ByteArray) (a b c : List UInt8) (h : s.data.toList = a ++ 32 :: (b ++ 32 :: c)) (ha : (32 : UInt8) ∉ a) (hb : (32 : UInt8) ∉ b) : split3 s = [⟨a.toArray⟩, ⟨b.toArray⟩, ⟨c.toArray⟩] := by
  have hz := size_toList s
  rw [h] at hz
  simp only [List.length_append, List.length_cons] at hz
  have hk : min 3 (s.size + 1) - 1 = 2 := by omega
  unfold split3
  rw [hk]
  have i1 : Lib.indexB s ⟨#[32]⟩ = a.length := sign_index 32 s (by rw [h]; simp) (fun k hk => by rw [h, List.getElem?_append_left hk]; exact mem_at ha k)
  rw [Lib.splitB_hit _ _ _ _ _ i1]
  have e1 : s.extract 0 (a.length + 0) = ⟨a.toArray⟩ := bytes_mk _ _ (by rw [Lib.extract_from_zero, h]; simp)
  have e2 : s.extract (a.length + (⟨#[32]⟩ : ByteArray).size) s.size = ⟨(b ++ 32 :: c).toArray⟩ := bytes_mk _ _ (by rw [Lib.extract_to_end, h, one_sp, List.drop_append]; simp)
  rw [e1, e2]
  have i2 : Lib.indexB ⟨(b ++ 32 :: c).toArray⟩ ⟨#[32]⟩ = b.length := sign_index 32 _ (by simp) (fun k hk => by
    have : (⟨(b ++ 32 :: c).toArray⟩ : ByteArray).data.toList = b ++ 32 :: c := by simp
    rw [this, List.getElem?_append_left hk]; exact mem_at hb k)
  rw [Lib.splitB_hit _ _ _ _ _ i2]
  have e3 : (⟨(b ++ 32 :: c).toArray⟩ : ByteArray).extract 0 (b.length + 0) = ⟨b.toArray⟩ := bytes_mk _ _ (by rw [Lib.extract_from_zero]; simp)
  have e4 : (⟨(b ++ 32 :: c).toArray⟩ : ByteArray).extract (b.length + (⟨#[32]⟩ : ByteArray).size) (⟨(b ++ 32 :: c).toArray⟩ : ByteArray).size = ⟨c.toArray⟩ := bytes_mk _ _ (by rw [Lib.extract_to_end, one_sp]; show List.drop _ (b ++ 32 :: c) = c; rw [List.drop_append]; simp)
  rw [e3, e4]
  rfl
theorem no32_mem (c : UInt8) (s : ByteArray) (h : c ∉ s.data.toList) : Lib.indexB s ⟨#[c]⟩ = -1 := sign_none c s (fun k => mem_at h k)
theorem split3_back (s p0 p1 p2 : ByteArray) (h : split3 s = [p0, p1, p2]) : s.data.toList = p0.data.toList ++ 32 :: (p1.data.toList ++ 32 :: p2.data.toList) ∧ (32 : UInt8) ∉ p0.data.toList ∧ (32 : UInt8) ∉ p1.data.toList := by
  by_cases h0 : (32 : UInt8) ∈ s.data.toList
  · obtain ⟨a, b, e, ha⟩ := split_first 32 _ h0
    by_cases h1 : (32 : UInt8) ∈ b
    · obtain ⟨a1, b1, e1, ha1⟩ := split_first 32 _ h1
      have hs := split3_of s a a1 b1 (by rw [e, e1]) ha ha1
      rw [hs] at h
      injection h with q0 h
      injection h with q1 h
      injection h with q2 _
      subst q0 q1 q2
      exact ⟨by rw [e, e1], ha, ha1⟩
    · exfalso
      unfold split3 at h
      have i1 : Lib.indexB s ⟨#[32]⟩ = a.length := sign_index 32 s (by rw [e]; simp) (fun k hk => by rw [e, List.getElem?_append_left hk]; exact mem_at ha k)
      have e2 : s.extract (a.length + (⟨#[32]⟩ : ByteArray).size) s.size = ⟨b.toArray⟩ := bytes_mk _ _ (by rw [Lib.extract_to_end, e, one_sp, List.drop_append]; simp)
      cases hm : min 3 (s.size + 1) - 1 with
      | zero => rw [hm] at h; simp [Lib.splitB] at h
      | succ k =>
        rw [hm, Lib.splitB_hit _ _ _ _ _ i1, e2, Lib.splitB_miss _ _ _ _ (no32_mem 32 ⟨b.toArray⟩ h1)] at h
        injection h with _ h
        injection h with _ h
        cases h
  · exfalso
    unfold split3 at h
    rw [Lib.splitB_miss _ _ _ _ (no32_mem 32 s h0)] at h
    injection h with _ h
    cases h
theorem atoi_range {l : List UInt8} {v : Int} (h : Lib.atoiAll l = .ok v) : -9223372036854775808 ≤ v ∧ v ≤ 9223372036854775807 := by
  unfold Lib.atoiAll at h
  split at h
  · cases h
  · simp only at h
    split at h
    · cases h
    · cases h
    · split at h
      · cases h
      · split at h
        · cases h
        · injection h with h
          subst h
          split <;> omega
theorem status_eq (s : ByteArray) (hs : s.size ≤ 4294960000) : ∃ r, start_Status.f s = some r ∧ StSpec s r := by
  have H : start_Status.f s = statusL s (split3 s) := by unfold start_Status.f; rw [if_pos (by omega)]
  have none : (∀ n st t, StIs s n st t → False) → start_Status.f s = some noStatus → ∃ r, start_Status.f s = some r ∧ StSpec s r := fun h e => ⟨noStatus, e, .inl ⟨rfl, fun n st t hq => h n st t hq⟩⟩
  have shape : ∀ n st t, StIs s n st t → split3 s = [⟨(verL n).toArray⟩, ⟨(Lib.itoa st).toArray⟩, t] := fun n st t hq => by
    have := split3_of s _ _ _ hq.line (ver_32 hq.n01) (itoa_st hq.lo hq.hi).2.2
    rw [this]
  match h3 : split3 s with
  | [] => exact none (fun n st t hq => by rw [shape n st t hq] at h3; cases h3) (by rw [H, h3]; rfl)
  | [_] => exact none (fun n st t hq => by rw [shape n st t hq] at h3; cases h3) (by rw [H, h3]; rfl)
  | [_, _] => exact none (fun n st t hq => by rw [shape n st t hq] at h3; cases h3) (by rw [H, h3]; rfl)
  | _ :: _ :: _ :: _ :: _ => exact none (fun n st t hq => by rw [shape n st t hq] at h3; cases h3) (by rw [H, h3]; rfl)
  | [p0, p1, p2] =>
    rw [h3] at H
    simp only [statusL] at H
    obtain ⟨hl, n0, n1⟩ := split3_back s p0 p1 p2 h3
    have hz := congrArg List.length hl
    rw [size_toList] at hz
    simp only [List.length_append, List.length_cons, size_toList] at hz
    by_cases he : p0.data.toList = []
    · refine none (fun n st t hq => ?_) (by rw [H, toList_eq, if_pos he])
      rw [shape n st t hq] at h3
      injection h3 with e _
      have := congrArg (fun b : ByteArray => b.data.toList) e
      rw [he] at this
      rcases hq.n01 with rfl | rfl
      · rw [verL_0] at this; cases this
      · rw [verL_1] at this; cases this
    · obtain ⟨l, c, hlc⟩ := last_of p0 he
      have hc := c.toNat_lt
      have hav : inI (atoiV p1) := by
        unfold inI atoiV
        rcases ha : Lib.atoiAll p1.data.toList with v | _ | _
        · exact atoi_range ha
        · simp
        · simp only
          unfold Lib.atoiSat
          split <;> omega
      rw [toList_eq, if_neg he, minor_eq p0 c l hlc (by omega)] at H
      simp only [Option.bind_some] at H
      rw [putSt_eq _ _ p2 (by unfold inI; omega) hav (by omega)] at H
      simp only [Option.bind_some] at H
      by_cases hex : ∃ n st t, StIs s n st t
      · obtain ⟨n, st, t, hq⟩ := hex
        rw [shape n st t hq] at h3
        injection h3 with e0 h3
        injection h3 with e1 h3
        injection h3 with e2 _
        have q0 : p0.data.toList = verL n := by rw [← e0]
        have q1 : p1.data.toList = Lib.itoa st := by rw [← e1]
        have en : (c.toNat : Int) - 48 = n := by
          rw [hlc] at q0
          rcases hq.n01 with rfl | rfl
          · rw [verL_0] at q0
            have h8 : l ++ [c] = [72, 84, 84, 80, 47, 49, 46] ++ [48] := q0
            have := List.append_inj_right' h8 rfl
            injection this with e _
            subst e; rfl
          · rw [verL_1] at q0
            have h8 : l ++ [c] = [72, 84, 84, 80, 47, 49, 46] ++ [49] := q0
            have := List.append_inj_right' h8 rfl
            injection this with e _
            subst e; rfl
        have ev : atoiV p1 = st ∧ atoiOk p1 = true := by
          unfold atoiV atoiOk
          rw [q1, (itoa_st hq.lo hq.hi).2.1]
          exact ⟨rfl, rfl⟩
        subst e2
        rw [en, ev.1, putSt_ok hq, if_pos ⟨ev.2, rfl, rfl⟩] at H
        exact ⟨_, H, .inr ⟨n, st, t, rfl, hq⟩⟩
      · refine none (fun n st t hq => hex ⟨n, st, t, hq⟩) ?_
        rw [H, if_neg]
        rintro ⟨_, a2, a3⟩
        rcases putSt_back (n := (c.toNat : Int) - 48) (st := atoiV p1) (r := p2) with hb | ⟨hb, hq⟩
        · rw [hb] at a2; cases a2
        · rw [hb] at a3
          have : stLine ((c.toNat : Int) - 48) (atoiV p1) p2 = s := bytes_ext (by simpa [toList_eq] using a3)
          rw [this] at hq
          exact hex ⟨_, _, _, hq⟩
end Go.Proofs.YtpoljchfgdnmbaaDoor.X

/- tollhouseref06's requests: the plain law of StartRequests. -/
namespace Go.Proofs.YtpoljchfgdnmbaaDoor.X
open Go.RowKit Go.Proofs.YtpoljchfgdnmbaaDoorW.PrintWords Go.Proofs.YtpoljchfgdnmbaaDoorW.PrintLast Go.Proofs.YtpoljchfgdnmbaaDoorW.PrintMore Go.Proofs.YtpoljchfgdnmbaaDoor.T
set_option linter.unusedSimpArgs false
set_option linter.unusedVariables false
/-! ### parts of the reference -/
theorem tgt_iff (c : UInt8) : isTgt c = true ↔ (33 ≤ c.toNat ∧ c.toNat ≤ 126) := by
  have h : ∀ n : Fin 256, isTgt (UInt8.ofNat n.val) = true ↔ (33 ≤ (UInt8.ofNat n.val).toNat ∧ (UInt8.ofNat n.val).toNat ≤ 126) := by decide +kernel
  have := h ⟨c.toNat, c.toNat_lt⟩
  simpa using this
theorem rtarget_go (s : ByteArray) (hs : s.size ≤ 4294967296) : ∀ (d i : Nat), s.size - i = d → i ≤ s.size →
    Ev (fun k => tollhouseref06_target.l0 k s (i : Int)) (decide (0 < s.size) && (s.data.toList.drop i).all isTgt)
  | 0, i, hd, hi => by
    obtain rfl : i = s.size := by omega
    rw [drop_end (Nat.le_refl _)]
    refine Ev.done fun k => ?_
    simp only [tollhouseref06_target.l0]
    rw [if_neg (by omega)]
    by_cases h : 0 < s.size
    · rw [decide_eq_true h, decide_eq_true (by omega)]; rfl
    · rw [decide_eq_false h, decide_eq_false (by omega)]; rfl
  | d + 1, i, hd, hi => by
    have hlt : i < s.size := by omega
    have ih := rtarget_go s hs d (i + 1) (by omega) (by omega)
    rw [drop_at hlt, List.all_cons]
    have hb : bt s (i : Int) = ((s[i]'hlt).toNat : Int) := btAt hlt
    have h1 := tgt_iff (s[i]'hlt)
    generalize (s[i]'hlt) = c at hb h1 ⊢
    generalize (s.data.toList.drop (i + 1)).all isTgt = r at ih ⊢
    cases hc : isTgt c with
    | true =>
      obtain ⟨g1, g2⟩ := h1.1 hc
      rw [Bool.true_and]
      refine Ev.step (fun k => ?_) ih
      simp only [tollhouseref06_target.l0]
      rw [if_pos (by omega), if_pos (by omega), hb, if_neg (by omega), if_neg (by omega), wrap_succ (by omega)]
    | false =>
      rw [hc] at h1
      have hn : ¬ (33 ≤ c.toNat ∧ c.toNat ≤ 126) := fun e => by have := h1.2 e; cases this
      refine Ev.done fun k => ?_
      simp only [tollhouseref06_target.l0]
      rw [if_pos (by omega), if_pos (by omega), hb]
      by_cases g1 : (c.toNat : Int) < 33
      · rw [if_pos g1]; simp
      · rw [if_neg g1, if_pos (by omega)]; simp
theorem rtarget_ev (s : ByteArray) (hs : s.size ≤ 4294967296) : Ev (fun k => tollhouseref06_target.f k s) (targetB s) := by
  have := rtarget_go s hs (s.size - 0) 0 rfl (Nat.zero_le _)
  have hz := size_toList s
  have e : (decide (0 < s.size) && (s.data.toList.drop 0).all isTgt) = targetB s := by
    unfold targetB
    cases h : s.data.toList with
    | nil => rw [h] at hz; rw [decide_eq_false (by simp at hz; omega)]; rfl
    | cons a t => rw [h] at hz; rw [decide_eq_true (by simp at hz; omega)]; rfl
  rw [e] at this
  exact this
def minorV (v : ByteArray) : Int := if v.data.toList = verL 0 then 0 else if v.data.toList = verL 1 then 1 else -1
theorem rminor_eq (v : ByteArray) : tollhouseref06_minor.f v = some (minorV v) := by
  unfold tollhouseref06_minor.f minorV
  rw [verL_0, verL_1, toList_eq]
  by_cases h0 : v.data.toList = [72, 84, 84, 80, 47, 49, 46, 48]
  · rw [if_pos h0, if_pos h0]
  · rw [if_neg h0, if_neg h0]
    by_cases h1 : v.data.toList = [72, 84, 84, 80, 47, 49, 46, 49]
    · rw [if_pos h1, if_pos h1]
    · rw [if_neg h1, if_neg h1]
theorem minorV_spec (v : ByteArray) : (minorV v = -1 ∧ v.data.toList ≠ verL 0 ∧ v.data.toList ≠ verL 1) ∨ ((minorV v = 0 ∨ minorV v = 1) ∧ v.data.toList = verL (minorV v)) := by
  unfold minorV
  by_cases h0 : v.data.toList = verL 0
  · rw [if_pos h0]; exact .inr ⟨.inl rfl, h0⟩
  · rw [if_neg h0]
    by_cases h1 : v.data.toList = verL 1
    · rw [if_pos h1]; exact .inr ⟨.inr rfl, h1⟩
    · rw [if_neg h1]; exact .inl ⟨rfl, h0, h1⟩
theorem rtok_eq (m : ByteArray) (h : m.size ≤ 4294967296) : tollhouseref02_Token.f m = some (tokenB m) := by unfold tollhouseref02_Token.f; rw [if_pos (by omega)]
/-! ### where the blanks stand -/
def cutParts (s : ByteArray) (a : Nat) : List Nat → List ByteArray
  | [] => [s.extract a s.size]
  | j :: t => s.extract a j :: cutParts s (j + 1) t
def cutsOk (s : ByteArray) (a : Nat) : List Nat → Prop
  | [] => True
  | j :: t => a ≤ j ∧ j < s.size ∧ cutsOk s (j + 1) t
def toInts (l : List Nat) : List Int := l.map fun n : Nat => (n : Int)
theorem cuts_go (s : ByteArray) (hs : s.size ≤ 4294967296) : ∀ (d i a : Nat) (acc : List Int), s.size - i = d → a ≤ i → i ≤ s.size → (∀ j, a ≤ j → j < i → s.data.toList[j]? ≠ some 32) → acc.length ≤ i →
    ∃ ps : List Nat, (∀ R, Ev (fun k => tollhouseref06_Request.l0 k s (acc ++ toInts ps) (s.size : Int)) R → Ev (fun k => tollhouseref06_Request.l0 k s acc (i : Int)) R) ∧ partsB 32 (s.extract a s.size) = cutParts s a ps ∧ cutsOk s a ps
  | 0, i, a, acc, hd, ha, hi, hno, hl => by
    obtain rfl : i = s.size := by omega
    refine ⟨[], fun R hR => by simpa [toInts] using hR, ?_, trivial⟩
    unfold cutParts
    refine parts_no 32 _ (fun k hk => ?_)
    have hlt : k < (s.extract a s.size).size := by
      have := (List.getElem?_eq_some_iff.1 hk).1
      rw [size_toList] at this; exact this
    rw [ByteArray.size_extract] at hlt
    rw [Lib.extract_to_end, List.getElem?_drop] at hk
    exact hno (a + k) (by omega) (by omega) hk
  | d + 1, i, a, acc, hd, ha, hi, hno, hl => by
    have hlt : i < s.size := by omega
    by_cases h32 : s.data.toList[i]? = some 32
    · have hb : bt s (i : Int) = 32 := (bt_is hlt 32).2 h32
      obtain ⟨ps, h1, h2, h3⟩ := cuts_go s hs d (i + 1) (i + 1) (acc ++ [(i : Int)]) (by omega) (by omega) (by omega) (fun j h1 h2 => by omega) (by simp; omega)
      refine ⟨i :: ps, fun R hR => ?_, ?_, ha, hlt, h3⟩
      · refine Ev.step (fun k => ?_) (h1 R (by simpa [toInts] using hR))
        simp only [tollhouseref06_Request.l0]
        rw [if_pos (by omega), if_pos (by omega), if_pos hb, if_pos (by omega), wrap_succ (by omega)]
      · rw [parts_hit 32 (s.extract a s.size) (i - a)]
        · have e1 : (s.extract a s.size).extract 0 (i - a) = s.extract a i := by
            rw [ByteArray.extract_extract]; congr 1 <;> omega
          have e2 : (s.extract a s.size).extract (i - a + 1) (s.extract a s.size).size = s.extract (i + 1) s.size := by
            rw [ByteArray.extract_extract, ByteArray.size_extract]; congr 1 <;> omega
          rw [e1, e2, h2]; rfl
        · rw [Lib.extract_to_end, List.getElem?_drop]
          have : a + (i - a) = i := by omega
          rw [this]; exact h32
        · intro k hk hk2
          rw [Lib.extract_to_end, List.getElem?_drop] at hk2
          exact hno (a + k) (by omega) (by omega) hk2
    · have hb : ¬ bt s (i : Int) = 32 := fun e => h32 ((bt_is hlt 32).1 e)
      obtain ⟨ps, h1, h2, h3⟩ := cuts_go s hs d (i + 1) a acc (by omega) (by omega) (by omega) (fun j h1 h2 => by
        by_cases e : j = i
        · subst e; exact h32
        · exact hno j h1 (by omega)) (by omega)
      refine ⟨ps, fun R hR => ?_, h2, h3⟩
      refine Ev.step (fun k => ?_) (h1 R hR)
      simp only [tollhouseref06_Request.l0]
      rw [if_pos (by omega), if_pos (by omega), if_neg hb, wrap_succ (by omega)]
theorem cutParts_len (s : ByteArray) : ∀ (ps : List Nat) (a : Nat), (cutParts s a ps).length = ps.length + 1
  | [], a => rfl
  | j :: t, a => by simp [cutParts, cutParts_len s t]
theorem rrequest_ev (s : ByteArray) (hs : s.size ≤ 4294960000) : ∃ r, Ev (fun k => tollhouseref06_Request.f k s) r ∧ ReqSpec s r := by
  obtain ⟨ps, h1, h2, h3⟩ := cuts_go s (by omega) (s.size - 0) 0 0 [] rfl (Nat.le_refl _) (Nat.zero_le _) (fun j h1 h2 => by omega) (Nat.le_refl _)
  rw [extract_all] at h2
  have hlen := congrArg List.length h2
  rw [cutParts_len] at hlen
  have hjT : Ev (fun k => tollhouseref06_Request.j1 k s (toInts ps) true) noReq := Ev.done fun k => by simp only [tollhouseref06_Request.j1]; rw [if_pos trivial]; rfl
  have hti : (toInts ps).length = ps.length := by simp [toInts]
  by_cases c1 : (s.size : Int) > 512
  · refine ⟨noReq, h1 _ (Ev.step (fun k => ?_) hjT), .inl ⟨rfl, fun m t n hq => by have := hq.sz; omega⟩⟩
    simp only [tollhouseref06_Request.l0]
    rw [if_neg (by omega), if_pos c1]; rfl
  · by_cases c2 : ps.length = 2
    · match ps, c2 with
      | [i, j], _ =>
        obtain ⟨_, hi, hij, hj, _⟩ := h3
        have hp : partsB 32 s = [s.extract 0 i, s.extract (i + 1) j, s.extract (j + 1) s.size] := h2
        have hz0 : (s.extract 0 i).size = i := by rw [ByteArray.size_extract]; omega
        have hm := rminor_eq (s.extract (j + 1) s.size)
        have hk := rtok_eq (s.extract 0 i) (by omega)
        have ht := rtarget_ev (s.extract (i + 1) j) (by rw [ByteArray.size_extract]; omega)
        have hms := minorV_spec (s.extract (j + 1) s.size)
        have start : ∀ R, Ev (fun k => if tokenB (s.extract 0 i) = true then (if ((s.extract 0 i).size : Int) > 32 then some noReq else (tollhouseref06_target.f k (s.extract (i + 1) j)).bind fun t => if t = true then (if minorV (s.extract (j + 1) s.size) < 0 then some noReq else some (s.extract 0 i, s.extract (i + 1) j, minorV (s.extract (j + 1) s.size), 0)) else some noReq) else some noReq) R → Ev (fun k => tollhouseref06_Request.f k s) R := by
          intro R hR
          have b0 : i < 9223372036854775807 := by omega
          have b1 : j < 9223372036854775807 := by omega
          refine h1 R (Ev.step (g := fun k => tollhouseref06_Request.j1 k s (toInts [i, j]) false) (fun k => ?_) (Ev.step (fun k => ?_) hR))
          · simp only [tollhouseref06_Request.l0]
            rw [if_neg (by omega), if_neg c1]; rfl
          · simp only [tollhouseref06_Request.j1]
            have hl2 : ((toInts [i, j]).length : Int) = 2 := rfl
            rw [show rd (toInts [i, j]) 0 = (i : Int) from rfl, show rd (toInts [i, j]) 1 = (j : Int) from rfl, wrap_succ b0, wrap_succ b1, hl2]
            rw [if_neg (by decide), if_pos (by decide), if_pos (by omega), if_pos (by omega), if_pos (by decide), if_pos (by omega), if_pos (by omega), if_pos (by omega), if_pos (by omega), if_pos (by omega)]
            simp only [Int.toNat_natCast]
            rw [hm, hk]
            simp only [Option.bind_some]
            rfl
        generalize hp0 : s.extract 0 i = p0 at *
        generalize hp1 : s.extract (i + 1) j = p1 at *
        generalize hp2 : s.extract (j + 1) s.size = p2 at *
        obtain ⟨hl, _, _, _⟩ := parts_three 32 s p0 p1 p2 hp
        have no : (tokenB p0 = true → p0.size ≤ 32 → targetB p1 = true → minorV p2 = -1) → ∀ m t n, ¬ RqIs s m t n := by
          intro hno m t n hq
          have eq := hp.symm.trans hq.parts
          injection eq with q0 eq
          injection eq with q1 eq
          injection eq with q2 _
          subst q0 q1
          have := hno hq.tok hq.msz hq.tgt
          have q3 := congrArg (fun b : ByteArray => b.data.toList) q2
          have q4 : p2.data.toList = verL n := by simpa using q3
          rcases hms with ⟨_, n0, n1⟩ | ⟨n01, _⟩
          · rcases hq.n01 with rfl | rfl
            · exact n0 q4
            · exact n1 q4
          · omega
        cases htk : tokenB p0 with
        | false => exact ⟨noReq, start _ (Ev.const fun k => by rw [htk, if_neg (by decide)]), .inl ⟨rfl, no (fun h => by rw [htk] at h; cases h)⟩⟩
        | true =>
          by_cases c3 : (p0.size : Int) > 32
          · exact ⟨noReq, start _ (Ev.const fun k => by rw [htk, if_pos rfl, if_pos c3]), .inl ⟨rfl, no (fun _ h => by omega)⟩⟩
          · cases htg : targetB p1 with
            | false =>
              rw [htg] at ht
              refine ⟨noReq, start _ (Ev.same (fun k => by rw [htk, if_pos rfl, if_neg c3]) (Ev.bind ht (Ev.const fun k => by rw [if_neg (by decide)]))), .inl ⟨rfl, no (fun _ _ h => by rw [htg] at h; cases h)⟩⟩
            | true =>
              rw [htg] at ht
              rcases hms with ⟨hm1, n0, n1⟩ | ⟨n01, hv⟩
              · refine ⟨noReq, start _ (Ev.same (fun k => by rw [htk, if_pos rfl, if_neg c3]) (Ev.bind ht (Ev.const fun k => by rw [if_pos rfl, hm1]; rfl))), .inl ⟨rfl, no (fun _ _ _ => hm1)⟩⟩
              · refine ⟨(p0, p1, minorV p2, 0), start _ (Ev.same (fun k => by rw [htk, if_pos rfl, if_neg c3]) (Ev.bind ht (Ev.const fun k => by rw [if_pos rfl, if_neg (by omega)]))), .inr ⟨p0, p1, minorV p2, rfl, ?_, htk, by omega, htg, n01, by omega⟩⟩
                rw [hl, hv]; rfl
    · refine ⟨noReq, h1 _ (Ev.step (g := fun k => tollhouseref06_Request.j1 k s (toInts ps) true) (fun k => ?_) hjT), .inl ⟨rfl, fun m t n hq => c2 (by rw [hq.parts] at hlen; simp at hlen; omega)⟩⟩
      simp only [tollhouseref06_Request.l0]
      rw [if_neg (by omega), if_neg c1]
      have e : (((([] : List Int) ++ toInts ps).length : Int) != 2) = true := by
        rw [List.nil_append, hti]
        simp
        omega
      rw [e]; rfl
/-! ### putting -/
theorem digit_str (n : Int) (h : n = 0 ∨ n = 1) : strOfNums [(wrap64 (48 + n)) % 256] = itoB n := by
  rcases h with rfl | rfl
  · exact bytes_ext (by rw [itoB_list, itoa_0, strOfNums_data]; decide +kernel)
  · exact bytes_ext (by rw [itoB_list, itoa_1, strOfNums_data]; decide +kernel)
theorem rput_ev (m t : ByteArray) (n : Int) (hm : m.size ≤ 1048576) (ht : t.size ≤ 1048576) : Ev (fun k => tollhouseref06_PutRequest.f k m t n) (putReqB m t n) := by
  have hT : Ev (fun k => tollhouseref06_PutRequest.j0 k m t n true) ((⟨#[]⟩ : ByteArray), 1) := Ev.done fun k => by simp only [tollhouseref06_PutRequest.j0]; rw [if_pos trivial]
  by_cases h01 : n = 0 ∨ n = 1
  · have hF : Ev (fun k => tollhouseref06_PutRequest.j0 k m t n false) (putReqB m t n) := by
      have hd := digit_str n h01
      have hsz : (itoB n).size = 1 := by
        rw [← size_toList, itoB_list]
        rcases h01 with rfl | rfl
        · rw [itoa_0]; rfl
        · rw [itoa_1]; rfl
      have hline : (((m ++ (⟨#[32]⟩ : ByteArray)) ++ t) ++ (⟨#[32, 72, 84, 84, 80, 47, 49, 46]⟩ : ByteArray)) ++ itoB n = reqLine m t n := by
        refine bytes_ext ?_
        rw [reqLine_list, toList_app, toList_app, toList_app, toList_app, itoB_list]
        unfold rqL verL
        simp
      have z1 : (m ++ (⟨#[32]⟩ : ByteArray)).size = m.size + 1 := by rw [size_app, one_sp]
      have z2 : ((m ++ (⟨#[32]⟩ : ByteArray)) ++ t).size = m.size + 1 + t.size := by rw [size_app, z1]
      have z3 : (((m ++ (⟨#[32]⟩ : ByteArray)) ++ t) ++ (⟨#[32, 72, 84, 84, 80, 47, 49, 46]⟩ : ByteArray)).size = m.size + 1 + t.size + 8 := by rw [size_app, z2]; rfl
      have z4 : (reqLine m t n).size = m.size + 1 + t.size + 8 + 1 := by rw [← hline, size_app, z3, hsz]
      obtain ⟨r, hr, hspec⟩ := rrequest_ev (reqLine m t n) (by omega)
      refine Ev.step (g := fun k => (tollhouseref06_Request.f k (reqLine m t n)).bind fun b => if b.2.2.2 = 0 then (if b.1.toList = m.toList then (if b.2.1.toList = t.toList then (if b.2.2.1 = n then some (reqLine m t n, 0) else some ((⟨#[]⟩ : ByteArray), 1)) else some ((⟨#[]⟩ : ByteArray), 1)) else some ((⟨#[]⟩ : ByteArray), 1)) else some ((⟨#[]⟩ : ByteArray), 1)) (fun k => ?_) (Ev.bind hr (Ev.const fun k => ?_))
      · simp only [tollhouseref06_PutRequest.j0]
        rw [if_neg (by decide), if_pos (by omega), if_pos (by omega), if_pos (by omega)]
        simp only [Option.bind_some]
        rw [hd, if_pos (by omega), hline]
      · rcases hspec with ⟨rfl, hno⟩ | ⟨m', t', n', rfl, hq⟩
        · rcases putReq_back (m := m) (t := t) (n := n) with hb | ⟨hb, hq⟩
          · rw [hb]; rfl
          · exact absurd hq (hno m t n)
        · by_cases hex : m' = m ∧ t' = t ∧ n' = n
          · obtain ⟨rfl, rfl, rfl⟩ := hex
            rw [putReq_ok hq]
            simp
          · rcases putReq_back (m := m) (t := t) (n := n) with hb | ⟨hb, hq'⟩
            · rw [hb]
              simp only [if_true]
              by_cases a1 : m'.toList = m.toList
              · rw [if_pos a1]
                by_cases a2 : t'.toList = t.toList
                · rw [if_pos a2]
                  by_cases a3 : n' = n
                  · exact absurd ⟨bytes_ext (by rw [← toList_eq, ← toList_eq]; exact a1), bytes_ext (by rw [← toList_eq, ← toList_eq]; exact a2), a3⟩ hex
                  · rw [if_neg a3]
                · rw [if_neg a2]
              · rw [if_neg a1]
            · exact absurd (hq.unique hq') hex
    rcases h01 with rfl | rfl
    · exact Ev.same (fun k => by unfold tollhouseref06_PutRequest.f; rw [if_pos rfl]) hF
    · exact Ev.same (fun k => by unfold tollhouseref06_PutRequest.f; rw [if_neg (by decide)]; rfl) hF
  · have e : putReqB m t n = ((⟨#[]⟩ : ByteArray), 1) := by
      unfold putReqB
      rw [if_neg (fun h => h01 (by omega))]
    rw [e]
    refine Ev.same (g := fun k => tollhouseref06_PutRequest.j0 k m t n true) (fun k => ?_) hT
    unfold tollhouseref06_PutRequest.f
    have e2 : (n != 1) = true := by simp; omega
    rw [if_neg (by omega), e2]
end Go.Proofs.YtpoljchfgdnmbaaDoor.X

/- tollhouseref06's responses. -/
namespace Go.Proofs.YtpoljchfgdnmbaaDoor.X
open Go.RowKit Go.Proofs.YtpoljchfgdnmbaaDoorW.PrintWords Go.Proofs.YtpoljchfgdnmbaaDoorW.PrintLast Go.Proofs.YtpoljchfgdnmbaaDoorW.PrintMore Go.Proofs.YtpoljchfgdnmbaaDoor.T
set_option linter.unusedSimpArgs false
set_option linter.unusedVariables false
theorem shown_eq (c : UInt8) : tollhouseref02_shown.f (c.toNat : Int) = some (isShown c) := by
  have h : ∀ n : Fin 256, tollhouseref02_shown.f ((UInt8.ofNat n.val).toNat : Int) = some (isShown (UInt8.ofNat n.val)) := by decide +kernel
  have := h ⟨c.toNat, c.toNat_lt⟩
  simpa using this
theorem rvisible_go (s : ByteArray) (hs : s.size ≤ 4294967296) : ∀ (d i : Nat), s.size - i = d → i ≤ s.size →
    Ev (fun k => tollhouseref02_Visible.l0 k s (i : Int)) ((s.data.toList.drop i).all isShown)
  | 0, i, hd, hi => by
    obtain rfl : i = s.size := by omega
    rw [drop_end (Nat.le_refl _)]
    refine Ev.done fun k => ?_
    simp only [tollhouseref02_Visible.l0]
    rw [if_neg (by omega)]; rfl
  | d + 1, i, hd, hi => by
    have hlt : i < s.size := by omega
    have ih := rvisible_go s hs d (i + 1) (by omega) (by omega)
    rw [drop_at hlt, List.all_cons]
    have hb : bt s (i : Int) = ((s[i]'hlt).toNat : Int) := btAt hlt
    have h1 := shown_eq (s[i]'hlt)
    generalize (s[i]'hlt) = c at hb h1 ⊢
    generalize (s.data.toList.drop (i + 1)).all isShown = r at ih ⊢
    cases hc : isShown c with
    | true =>
      rw [hc] at h1
      rw [Bool.true_and]
      refine Ev.step (fun k => ?_) ih
      simp only [tollhouseref02_Visible.l0]
      rw [if_pos (by omega), if_pos (by omega), hb, h1, wrap_succ (by omega)]
      simp
    | false =>
      rw [hc] at h1
      refine Ev.done fun k => ?_
      simp only [tollhouseref02_Visible.l0]
      rw [if_pos (by omega), if_pos (by omega), hb, h1]
      simp
theorem rvisible_ev (s : ByteArray) (hs : s.size ≤ 4294967296) : Ev (fun k => tollhouseref02_Visible.f k s) (visibleB s) := rvisible_go s hs (s.size - 0) 0 rfl (Nat.zero_le _)
/-- the three digits' loop -/
theorem status_digit (s : ByteArray) (n : Int) (st i : Nat) (hi : i < 12) (hlt : i < s.size) (hst : st ≤ 1000) :
    (isDig (s[i]'hlt) = false → Ev (fun k => tollhouseref06_Status.l0 k s n (st : Int) (i : Int)) noStatus) ∧
    (isDig (s[i]'hlt) = true → ∀ R, Ev (fun k => tollhouseref06_Status.l0 k s n ((10 * st + ((s[i]'hlt).toNat - 48) : Nat) : Int) ((i + 1 : Nat) : Int)) R → Ev (fun k => tollhouseref06_Status.l0 k s n (st : Int) (i : Int)) R) := by
  have hb : bt s (i : Int) = ((s[i]'hlt).toNat : Int) := btAt hlt
  have h1 := isDig_iff (s[i]'hlt)
  have hc := (s[i]'hlt).toNat_lt
  generalize (s[i]'hlt) = c at hb h1 hc ⊢
  refine ⟨fun h => Ev.done fun k => ?_, fun h R hR => Ev.step (fun k => ?_) hR⟩
  · rw [h] at h1
    have hn : ¬ (48 ≤ c.toNat ∧ c.toNat ≤ 57) := fun e => by have := h1.2 e; cases this
    simp only [tollhouseref06_Status.l0]
    rw [if_pos (by omega), if_pos (by omega), if_pos (by omega), hb]
    by_cases g1 : (c.toNat : Int) < 48
    · rw [if_pos g1]; rfl
    · rw [if_neg g1, if_pos (by omega)]; rfl
  · obtain ⟨g1, g2⟩ := h1.1 h
    simp only [tollhouseref06_Status.l0]
    rw [if_pos (by omega), if_pos (by omega), if_pos (by omega), hb, if_neg (by omega), if_neg (by omega), wrap_succ (by omega)]
    have e : wrap64 (wrap64 (10 * (st : Int)) + ((c.toNat : Int) - 48) % 256) = ((10 * st + (c.toNat - 48) : Nat) : Int) := by unfold wrap64; omega
    rw [e]
theorem at_list {s : ByteArray} {i : Nat} (h : i < s.size) {c : UInt8} (e : s.data.toList[i]? = some c) : s[i]'h = c := by
  rw [list_at h] at e
  exact Option.some.inj e
theorem stL_split (n st : Int) (r : ByteArray) (h01 : n = 0 ∨ n = 1) (a b c : UInt8) (hd : Lib.itoa st = [a, b, c]) : ∃ v, verL n = [72, 84, 84, 80, 47, 49, 46, v] ∧ stL n st r = [72, 84, 84, 80, 47, 49, 46, v, 32, a, b, c, 32] ++ r.data.toList := by
  unfold stL
  rw [hd]
  rcases h01 with rfl | rfl
  · rw [verL_0]; exact ⟨48, rfl, by simp⟩
  · rw [verL_1]; exact ⟨49, rfl, by simp⟩
/-- a line by its first thirteen signs -/
theorem line13 (s : ByteArray) (h : 13 ≤ s.size) : ∃ x0 x1 x2 x3 x4 x5 x6 x7 x8 x9 x10 x11 x12 : UInt8, ∃ t, s.data.toList = [x0, x1, x2, x3, x4, x5, x6, x7, x8, x9, x10, x11, x12] ++ t := by
  have hz := size_toList s
  match hl : s.data.toList with
  | x0 :: x1 :: x2 :: x3 :: x4 :: x5 :: x6 :: x7 :: x8 :: x9 :: x10 :: x11 :: x12 :: t => exact ⟨x0, x1, x2, x3, x4, x5, x6, x7, x8, x9, x10, x11, x12, t, rfl⟩
  | [] | [_] | [_, _] | [_, _, _] | [_, _, _, _] | [_, _, _, _, _] | [_, _, _, _, _, _] | [_, _, _, _, _, _, _] | [_, _, _, _, _, _, _, _] | [_, _, _, _, _, _, _, _, _] | [_, _, _, _, _, _, _, _, _, _] | [_, _, _, _, _, _, _, _, _, _, _] | [_, _, _, _, _, _, _, _, _, _, _, _] => rw [hl] at hz; simp at hz; omega
theorem rstatus_ev (s : ByteArray) (hs : s.size ≤ 4294960000) : ∃ r, Ev (fun k => tollhouseref06_Status.f k s) r ∧ StSpec s r := by
  have hjT : Ev (fun k => tollhouseref06_Status.j0 k s true) noStatus := Ev.done fun k => by simp only [tollhouseref06_Status.j0]; rw [if_pos trivial]; rfl
  have len : ∀ n st t, StIs s n st t → 13 ≤ s.size := by
    intro n st t hq
    obtain ⟨v, _, e⟩ := stL_split n st t hq.n01 _ _ _ (itoa_st hq.lo hq.hi).1
    have := congrArg List.length (hq.line.trans e)
    rw [size_toList] at this
    simp only [List.length_append, List.length_cons, List.length_nil] at this
    omega
  by_cases c1 : (s.size : Int) > 512
  · exact ⟨noStatus, Ev.same (fun k => by unfold tollhouseref06_Status.f; rw [if_pos c1]) hjT, .inl ⟨rfl, fun n st t hq => by have := hq.sz; omega⟩⟩
  · by_cases c2 : (s.size : Int) < 13
    · exact ⟨noStatus, Ev.same (fun k => by unfold tollhouseref06_Status.f; rw [if_neg c1, if_pos c2]) hjT, .inl ⟨rfl, fun n st t hq => by have := len n st t hq; omega⟩⟩
    · obtain ⟨x0, x1, x2, x3, x4, x5, x6, x7, x8, x9, x10, x11, x12, t, hl⟩ := line13 s (by omega)
      have b8 : bt s 8 = (x8.toNat : Int) := (bt_is (j := 8) (by omega) x8).2 (by rw [hl]; rfl)
      have b12 : bt s 12 = (x12.toNat : Int) := (bt_is (j := 12) (by omega) x12).2 (by rw [hl]; rfl)
      have g9 : s[9]'(by omega) = x9 := at_list (by omega) (by rw [hl]; rfl)
      have g10 : s[10]'(by omega) = x10 := at_list (by omega) (by rw [hl]; rfl)
      have g11 : s[11]'(by omega) = x11 := at_list (by omega) (by rw [hl]; rfl)
      have hv : (s.extract 0 8).data.toList = [x0, x1, x2, x3, x4, x5, x6, x7] := by rw [Lib.extract_from_zero, hl]; rfl
      have ht : (s.extract 13 s.size).data.toList = t := by rw [Lib.extract_to_end, hl]; rfl
      have hzt : (s.extract 13 s.size).size ≤ 4294967296 := by rw [ByteArray.size_extract]; omega
      have hms := minorV_spec (s.extract 0 8)
      have hrm := rminor_eq (s.extract 0 8)
      have hvis := rvisible_ev (s.extract 13 s.size) hzt
      generalize hmv : minorV (s.extract 0 8) = n at hms hrm
      have shape : ∀ n' st r, StIs s n' st r → x8 = 32 ∧ x12 = 32 ∧ n = n' ∧ (n = 0 ∨ n = 1) ∧ Lib.itoa st = [x9, x10, x11] ∧ r = s.extract 13 s.size := by
        intro n' st r hq
        obtain ⟨v, hv2, e⟩ := stL_split n' st r hq.n01 _ _ _ (itoa_st hq.lo hq.hi).1
        have e2 := hl.symm.trans (hq.line.trans e)
        simp only [List.cons_append, List.nil_append, List.cons.injEq] at e2
        obtain ⟨q0, q1, q2, q3, q4, q5, q6, q7, q8, q9, q10, q11, q12, qt⟩ := e2
        have hvn : (s.extract 0 8).data.toList = verL n' := by rw [hv, hv2, q0, q1, q2, q3, q4, q5, q6, q7]
        have hnn : n = n' ∧ (n = 0 ∨ n = 1) := by
          rcases hms with ⟨_, a0, a1⟩ | ⟨h01, hvv⟩
          · rcases hq.n01 with rfl | rfl
            · exact absurd hvn a0
            · exact absurd hvn a1
          · exact ⟨verL_inj h01 hq.n01 (hvv.symm.trans hvn), h01⟩
        refine ⟨q8, q12, hnn.1, hnn.2, ?_, bytes_ext (by rw [ht, qt])⟩
        rw [(itoa_st hq.lo hq.hi).1, q9, q10, q11]
      by_cases c3 : bt s 8 = 32
      · by_cases c4 : bt s 12 = 32
        · have h8 : x8 = 32 := UInt8.toNat_inj.1 (by have : (x8.toNat : Int) = 32 := b8 ▸ c3; show x8.toNat = 32; omega)
          have h12 : x12 = 32 := UInt8.toNat_inj.1 (by have : (x12.toNat : Int) = 32 := b12 ▸ c4; show x12.toNat = 32; omega)
          have start : ∀ R, Ev (fun k => tollhouseref06_Status.l0 k s n ((0 : Nat) : Int) ((9 : Nat) : Int)) R → Ev (fun k => tollhouseref06_Status.f k s) R := by
            intro R hR
            refine Ev.same (g := fun k => tollhouseref06_Status.j0 k s false) (fun k => ?_) (Ev.step (fun k => ?_) hR)
            · unfold tollhouseref06_Status.f
              rw [if_neg c1, if_neg c2, if_pos (by omega), if_pos c3, if_pos (by omega), c4]; rfl
            · simp only [tollhouseref06_Status.j0]
              rw [if_neg (by decide), if_pos (by decide), if_pos (by omega), hrm]
              simp only [Option.bind_some]
              rfl
          have no : ∀ (h : ∀ st, Lib.itoa st = [x9, x10, x11] → 100 ≤ st → st ≤ 599 → False), ∀ n' st r, ¬ StIs s n' st r := fun h n' st r hq => h st (shape n' st r hq).2.2.2.2.1 hq.lo hq.hi
          have d9 := status_digit s n 0 9 (by omega) (by omega) (by omega)
          rw [g9] at d9
          have dig3 : ∀ st, Lib.itoa st = [x9, x10, x11] → 100 ≤ st → st ≤ 599 → isDig x9 = true ∧ isDig x10 = true ∧ isDig x11 = true ∧ st = ((100 * (x9.toNat - 48) + 10 * (x10.toNat - 48) + (x11.toNat - 48) : Nat) : Int) := by
            intro st hst lo hi
            rw [(itoa_st lo hi).1] at hst
            injection hst with e9 hst
            injection hst with e10 hst
            injection hst with e11 _
            have m9 : x9.toNat = 48 + st.toNat / 100 := by rw [← e9, UInt8.toNat_ofNat']; omega
            have m10 : x10.toNat = 48 + st.toNat / 10 % 10 := by rw [← e10, UInt8.toNat_ofNat']; omega
            have m11 : x11.toNat = 48 + st.toNat % 10 := by rw [← e11, UInt8.toNat_ofNat']; omega
            exact ⟨(isDig_iff _).2 (by omega), (isDig_iff _).2 (by omega), (isDig_iff _).2 (by omega), by omega⟩
          cases k9 : isDig x9 with
          | false => exact ⟨noStatus, start _ (d9.1 k9), .inl ⟨rfl, no (fun st h1 h2 h3 => by have := (dig3 st h1 h2 h3).1; rw [k9] at this; cases this)⟩⟩
          | true =>
            have r9 := (isDig_iff _).1 k9
            have d10 := status_digit s n (10 * 0 + (x9.toNat - 48)) 10 (by omega) (by omega) (by omega)
            rw [g10] at d10
            cases k10 : isDig x10 with
            | false => exact ⟨noStatus, start _ (d9.2 k9 _ (d10.1 k10)), .inl ⟨rfl, no (fun st h1 h2 h3 => by have := (dig3 st h1 h2 h3).2.1; rw [k10] at this; cases this)⟩⟩
            | true =>
              have r10 := (isDig_iff _).1 k10
              have d11 := status_digit s n (10 * (10 * 0 + (x9.toNat - 48)) + (x10.toNat - 48)) 11 (by omega) (by omega) (by omega)
              rw [g11] at d11
              cases k11 : isDig x11 with
              | false => exact ⟨noStatus, start _ (d9.2 k9 _ (d10.2 k10 _ (d11.1 k11))), .inl ⟨rfl, no (fun st h1 h2 h3 => by have := (dig3 st h1 h2 h3).2.2.1; rw [k11] at this; cases this)⟩⟩
              | true =>
                have r11 := (isDig_iff _).1 k11
                have hstv : 10 * (10 * (10 * 0 + (x9.toNat - 48)) + (x10.toNat - 48)) + (x11.toNat - 48) = 100 * (x9.toNat - 48) + 10 * (x10.toNat - 48) + (x11.toNat - 48) := by omega
                have fin : ∀ R, Ev (fun k => tollhouseref06_Status.l0 k s n ((100 * (x9.toNat - 48) + 10 * (x10.toNat - 48) + (x11.toNat - 48) : Nat) : Int) ((12 : Nat) : Int)) R → Ev (fun k => tollhouseref06_Status.f k s) R := fun R hR => start _ (d9.2 k9 _ (d10.2 k10 _ (d11.2 k11 _ (by rw [hstv]; exact hR))))
                generalize hst : 100 * (x9.toNat - 48) + 10 * (x10.toNat - 48) + (x11.toNat - 48) = st at fin dig3
                rcases hms with ⟨hm1, a0, a1⟩ | ⟨h01, hvv⟩
                · refine ⟨noStatus, fin _ (Ev.done fun k => ?_), .inl ⟨rfl, fun n' st' r hq => by have := (shape n' st' r hq).2.2.2.1; omega⟩⟩
                  simp only [tollhouseref06_Status.l0]
                  rw [if_neg (by omega), if_pos (by omega)]; rfl
                · by_cases c5 : (st : Int) < 100
                  · refine ⟨noStatus, fin _ (Ev.done fun k => ?_), .inl ⟨rfl, no (fun st' h1 h2 h3 => by have := (dig3 st' h1 h2 h3).2.2.2; omega)⟩⟩
                    simp only [tollhouseref06_Status.l0]
                    rw [if_neg (by omega), if_neg (by omega), if_pos c5]; rfl
                  · by_cases c6 : (st : Int) > 599
                    · refine ⟨noStatus, fin _ (Ev.done fun k => ?_), .inl ⟨rfl, no (fun st' h1 h2 h3 => by have := (dig3 st' h1 h2 h3).2.2.2; omega)⟩⟩
                      simp only [tollhouseref06_Status.l0]
                      rw [if_neg (by omega), if_neg (by omega), if_neg c5, if_pos c6]; rfl
                    · have lastStep : ∀ R, Ev (fun k => (tollhouseref02_Visible.f k (s.extract 13 s.size)).bind fun b => if b = true then some (n, (st : Int), s.extract 13 s.size, 0) else some noStatus) R → Ev (fun k => tollhouseref06_Status.f k s) R := by
                        intro R hR
                        refine fin _ (Ev.step (fun k => ?_) hR)
                        simp only [tollhouseref06_Status.l0]
                        rw [if_neg (by omega), if_neg (by omega), if_neg c5, if_neg c6, if_pos (by omega)]
                        rfl
                      cases hvb : visibleB (s.extract 13 s.size) with
                      | false =>
                        rw [hvb] at hvis
                        refine ⟨noStatus, lastStep _ (Ev.bind hvis (Ev.const fun k => by rw [if_neg (by decide)])), .inl ⟨rfl, fun n' st' r hq => ?_⟩⟩
                        have := hq.vis
                        rw [(shape n' st' r hq).2.2.2.2.2, hvb] at this
                        cases this
                      | true =>
                        rw [hvb] at hvis
                        refine ⟨(n, (st : Int), s.extract 13 s.size, 0), lastStep _ (Ev.bind hvis (Ev.const fun k => by rw [if_pos rfl])), .inr ⟨n, st, s.extract 13 s.size, rfl, ?_, h01, by omega, by omega, hvb, by omega⟩⟩
                        have hit := (itoa_st (st := (st : Int)) (by omega) (by omega)).1
                        obtain ⟨v, hv2, e⟩ := stL_split n st (s.extract 13 s.size) h01 _ _ _ hit
                        rw [e, ht, hl, h8, h12]
                        have hv3 : [x0, x1, x2, x3, x4, x5, x6, x7] = [72, 84, 84, 80, 47, 49, 46, v] := by rw [← hv, hvv, hv2]
                        simp only [List.cons.injEq, and_true] at hv3
                        obtain ⟨q0, q1, q2, q3, q4, q5, q6, q7⟩ := hv3
                        have z9 : x9 = UInt8.ofNat (48 + ((st : Int).toNat) / 100) := UInt8.toNat_inj.1 (by rw [UInt8.toNat_ofNat']; omega)
                        have z10 : x10 = UInt8.ofNat (48 + ((st : Int).toNat) / 10 % 10) := UInt8.toNat_inj.1 (by rw [UInt8.toNat_ofNat']; omega)
                        have z11 : x11 = UInt8.ofNat (48 + ((st : Int).toNat) % 10) := UInt8.toNat_inj.1 (by rw [UInt8.toNat_ofNat']; omega)
                        rw [q0, q1, q2, q3, q4, q5, q6, q7, ← z9, ← z10, ← z11]
        · refine ⟨noStatus, Ev.same (g := fun k => tollhouseref06_Status.j0 k s true) (fun k => ?_) hjT, .inl ⟨rfl, fun n' st' r hq => c4 (by rw [b12, (shape n' st' r hq).2.1]; rfl)⟩⟩
          unfold tollhouseref06_Status.f
          have e : (bt s 12 != 32) = true := by simpa using c4
          rw [if_neg c1, if_neg c2, if_pos (by omega), if_pos c3, if_pos (by omega), e]
      · refine ⟨noStatus, Ev.same (g := fun k => tollhouseref06_Status.j0 k s true) (fun k => ?_) hjT, .inl ⟨rfl, fun n' st' r hq => c3 (by rw [b8, (shape n' st' r hq).1]; rfl)⟩⟩
        unfold tollhouseref06_Status.f
        rw [if_neg c1, if_neg c2, if_pos (by omega), if_neg c3]
end Go.Proofs.YtpoljchfgdnmbaaDoor.X

/- The chapter's rows. -/
namespace Go.Proofs.YtpoljchfgdnmbaaDoor.X
open Go.RowKit Go.Proofs.YtpoljchfgdnmbaaDoorW.PrintWords Go.Proofs.YtpoljchfgdnmbaaDoorW.PrintLast Go.Proofs.YtpoljchfgdnmbaaDoorW.PrintMore Go.Proofs.YtpoljchfgdnmbaaDoor.T
set_option linter.unusedSimpArgs false
set_option linter.unusedVariables false
theorem wakes06_at : tollhouselaw06_wakes.f 40 = some true := by decide +kernel
theorem wakes06 : Ev (fun k => tollhouselaw06_wakes.f k) true := Ev.of_mono (fun k => tollhouselaw06_wakes.mono k) wakes06_at
end Go.Proofs.YtpoljchfgdnmbaaDoor.X

/- The plain law of StartStatuses. -/
namespace Go.Proofs.YtpoljchfgdnmbaaDoor.X
open Go.RowKit Go.Proofs.YtpoljchfgdnmbaaDoorW.PrintWords Go.Proofs.YtpoljchfgdnmbaaDoorW.PrintLast Go.Proofs.YtpoljchfgdnmbaaDoorW.PrintMore Go.Proofs.YtpoljchfgdnmbaaDoor.T
set_option linter.unusedSimpArgs false
set_option linter.unusedVariables false
theorem digits_str : ∀ m : Fin 500, strOfNums [(wrap64 (48 + (wrap64 (Int.tdiv ((100 + m.val : Nat) : Int) 100)))) % 256, (wrap64 (48 + (Int.tmod (wrap64 (Int.tdiv ((100 + m.val : Nat) : Int) 10)) 10))) % 256, (wrap64 (48 + (Int.tmod ((100 + m.val : Nat) : Int) 10))) % 256] = itoB ((100 + m.val : Nat) : Int) := by
  intro m
  refine bytes_ext ?_
  rw [itoB_list, (itoa_three m).1, strOfNums_data]
  have h : ∀ m : Fin 500, ([(wrap64 (48 + (wrap64 (Int.tdiv ((100 + m.val : Nat) : Int) 100)))) % 256, (wrap64 (48 + (Int.tmod (wrap64 (Int.tdiv ((100 + m.val : Nat) : Int) 10)) 10))) % 256, (wrap64 (48 + (Int.tmod ((100 + m.val : Nat) : Int) 10))) % 256].map fun n => UInt8.ofNat n.toNat) = [UInt8.ofNat (48 + (100 + m.val) / 100), UInt8.ofNat (48 + (100 + m.val) / 10 % 10), UInt8.ofNat (48 + (100 + m.val) % 10)] := by decide +kernel
  exact h m
theorem digits_st {st : Int} (h0 : 100 ≤ st) (h1 : st ≤ 599) : strOfNums [(wrap64 (48 + (wrap64 (Int.tdiv st 100)))) % 256, (wrap64 (48 + (Int.tmod (wrap64 (Int.tdiv st 10)) 10))) % 256, (wrap64 (48 + (Int.tmod st 10))) % 256] = itoB st := by
  have := digits_str ⟨st.toNat - 100, by omega⟩
  have e : 100 + (st.toNat - 100) = st.toNat := by omega
  simp only [e] at this
  have e2 : ((st.toNat : Nat) : Int) = st := by omega
  rw [e2] at this
  exact this
theorem rputst_ev (n st : Int) (r : ByteArray) (hr : r.size ≤ 1048576) : Ev (fun k => tollhouseref06_PutStatus.f k n st r) (putStB n st r) := by
  have hT : Ev (fun k => tollhouseref06_PutStatus.j0 k n st r true) ((⟨#[]⟩ : ByteArray), 1) := Ev.done fun k => by simp only [tollhouseref06_PutStatus.j0]; rw [if_pos trivial]
  have bad : ¬ (0 ≤ n ∧ n ≤ 1 ∧ 100 ≤ st ∧ st ≤ 599) → putStB n st r = ((⟨#[]⟩ : ByteArray), 1) := fun h => by
    unfold putStB
    rw [if_neg (fun g => h ⟨g.1, g.2.1, g.2.2.1, g.2.2.2.1⟩)]
  by_cases h01 : n = 0 ∨ n = 1
  · by_cases lo : st < 100
    · rw [bad (fun g => by omega)]
      refine Ev.same (g := fun k => tollhouseref06_PutStatus.j0 k n st r true) (fun k => ?_) hT
      unfold tollhouseref06_PutStatus.f
      rcases h01 with rfl | rfl
      · rw [if_pos rfl, if_pos lo]
      · rw [if_neg (by decide), if_pos rfl, if_pos lo]
    · by_cases hi : st > 599
      · rw [bad (fun g => by omega)]
        refine Ev.same (g := fun k => tollhouseref06_PutStatus.j0 k n st r true) (fun k => ?_) hT
        unfold tollhouseref06_PutStatus.f
        rcases h01 with rfl | rfl
        · rw [if_pos rfl, if_neg lo, decide_eq_true hi]
        · rw [if_neg (by decide), if_pos rfl, if_neg lo, decide_eq_true hi]
      · have d1 := digits_st (st := st) (by omega) (by omega)
        have d2 := digit_str n h01
        have z2 : (itoB n).size = 1 := by
          rw [← size_toList, itoB_list]
          rcases h01 with rfl | rfl
          · rw [itoa_0]; rfl
          · rw [itoa_1]; rfl
        have z1 : (itoB st).size = 3 := by
          rw [← size_toList, itoB_list, (itoa_st (st := st) (by omega) (by omega)).1]; rfl
        have zv : (verB n).size = 8 := by unfold verB; rw [size_app, z2]; rfl
        have y1 : (verB n ++ (⟨#[32]⟩ : ByteArray)).size = 9 := by rw [size_app, zv, one_sp]
        have y2 : ((verB n ++ (⟨#[32]⟩ : ByteArray)) ++ itoB st).size = 12 := by rw [size_app, y1, z1]
        have y3 : (((verB n ++ (⟨#[32]⟩ : ByteArray)) ++ itoB st) ++ (⟨#[32]⟩ : ByteArray)).size = 13 := by rw [size_app, y2, one_sp]
        have hl : ((((verB n ++ (⟨#[32]⟩ : ByteArray)) ++ itoB st) ++ (⟨#[32]⟩ : ByteArray)) ++ r) = stLine n st r := rfl
        have y4 : (stLine n st r).size = 13 + r.size := by rw [← hl, size_app, y3]
        obtain ⟨R, hR, hspec⟩ := rstatus_ev (stLine n st r) (by omega)
        have hF : Ev (fun k => tollhouseref06_PutStatus.j0 k n st r false) (putStB n st r) := by
          refine Ev.step (g := fun k => (tollhouseref06_Status.f k (stLine n st r)).bind fun b => if b.2.2.2 = 0 then some (stLine n st r, 0) else some ((⟨#[]⟩ : ByteArray), 1)) (fun k => ?_) (Ev.bind hR (Ev.const fun k => ?_))
          · simp only [tollhouseref06_PutStatus.j0]
            rw [if_neg (by decide)]
            simp only [Option.bind_some]
            rw [d1, d2]
            have hv : ((⟨#[72, 84, 84, 80, 47, 49, 46]⟩ : ByteArray) ++ itoB n) = verB n := rfl
            rw [hv, if_pos (by omega), if_pos (by omega), if_pos (by omega), if_pos (by omega), if_pos (by omega), hl]
          · rcases hspec with ⟨rfl, hno⟩ | ⟨n', st', r', rfl, hq⟩
            · rcases putSt_back (n := n) (st := st) (r := r) with hb | ⟨hb, hq⟩
              · rw [hb]; rfl
              · exact absurd hq (hno n st r)
            · have hme : StIs (stLine n st r) n st r := by
                have e := (stLine_list n st r).symm.trans hq.line
                unfold stL at e
                obtain ⟨_, e⟩ := split_unique 32 e (ver_32 h01) (ver_32 hq.n01)
                obtain ⟨_, e3⟩ := split_unique 32 e (itoa_st (by omega) (by omega)).2.2 (itoa_st hq.lo hq.hi).2.2
                have er : r = r' := bytes_ext e3
                exact ⟨stLine_list n st r, h01, by omega, by omega, by rw [er]; exact hq.vis, hq.sz⟩
              rw [putSt_ok hme]
              simp
        refine Ev.same (g := fun k => tollhouseref06_PutStatus.j0 k n st r false) (fun k => ?_) hF
        unfold tollhouseref06_PutStatus.f
        rcases h01 with rfl | rfl
        · rw [if_pos rfl, if_neg lo, decide_eq_false hi]
        · rw [if_neg (by decide), if_pos rfl, if_neg lo, decide_eq_false hi]
  · rw [bad (fun g => by omega)]
    refine Ev.same (g := fun k => tollhouseref06_PutStatus.j0 k n st r true) (fun k => ?_) hT
    unfold tollhouseref06_PutStatus.f
    rw [if_neg (by omega), if_neg (by omega)]
theorem reason_eq (n : Int) (h : inI n) : start_Reason.f n = some (reasonB n) := by unfold start_Reason.f; rw [if_pos (show -9223372036854775808 ≤ n ∧ n ≤ 9223372036854775807 from h)]
theorem rreason_eq (n : Int) : tollhouseref06_Reason.f n = some (reasonB n) := by
  unfold tollhouseref06_Reason.f reasonB
  simp only [apply_ite (some : ByteArray → Option ByteArray)]
theorem StartStatuses_pure (line : ByteArray) (n st : Int) (r : ByteArray) (h0 : line.size ≤ 1048576) (h1 : r.size ≤ 1048576) (hn : inI n) (hst : inI st) :
    ∃ k, tollhouselaw06_StartStatuses.f k line n st r = some true := by
  obtain ⟨R, e1, s1⟩ := status_eq line (by omega)
  obtain ⟨R2, e2, s2⟩ := rstatus_ev line (by omega)
  obtain rfl := s1.unique s2
  have e3 := putSt_eq n st r hn hst (by omega)
  obtain ⟨K2, g2⟩ := e2
  obtain ⟨K4, g4⟩ := rputst_ev n st r h1
  obtain ⟨K5, g5⟩ := wakes06
  refine ⟨K2 + K4 + K5, ?_⟩
  have q2 := g2 (K2 + K4 + K5) (by omega)
  have q4 := g4 (K2 + K4 + K5) (by omega)
  have q5 := g5 (K2 + K4 + K5) (by omega)
  simp only at q2 q4 q5
  unfold tollhouselaw06_StartStatuses.f
  rw [e1, q2, e3, q4, q5, reason_eq st hst, rreason_eq st]
  simp
end Go.Proofs.YtpoljchfgdnmbaaDoor.X

namespace Go.Proofs.YtpoljchfgdnmbaaDoor.startStatuses
open Go.ChangeShapes Go.WideShapes Go.ChangeAt Go.RowKit Go.Proofs.YtpoljchfgdnmbaaDoor Go.Proofs.YtpoljchfgdnmbaaDoor.L Go.Proofs.YtpoljchfgdnmbaaDoor.T Go.Proofs.YtpoljchfgdnmbaaDoorW.PrintWords
set_option linter.unusedVariables false
set_option linter.unusedSimpArgs false
set_option maxRecDepth 100000
theorem own : ownKnob Tryd.prog.godebug = none := by kernel_rfl
theorem laidOut : laidOutB Tryd.prog = true := by kernel_rfl
/-- For every argument and every world that holds the listed variables. -/
theorem contract (H : Type) (enc : TypeId × Value → H) (W : World) (base : Nat) (args : Array Value) (ds gs : List (DataW H)) (before : List MemPlace)
    (hval : ∀ (j : Nat) t v, Tryd.f4.params[j]? = some t → args[j]? = some v → Value.okWide Tryd.prog W .any base t v)
    (hW : DataW.Whole enc Tryd.prog Tryd.f4.params.toList Rows.startStatusesSpec.vars false W args.toList ds gs before) (B : Nat) (hB : B ≤ 1048576) (hk : Rows.uptoBulkAll (ds ++ gs) ≤ B) (hL : laidMetH Tryd.prog laidL W) (hS : W.ShapedOpen Tryd.prog) :
    Calls Tryd.prog 4 args W fun e W' => ∃ v, e = .returned v ∧ Rows.startStatusesSpec.post enc Tryd.prog Tryd.f4 false true false false W args v W' := by
  have hG : Glob W := L.glob hL hS
  have hW' := hW
  obtain ⟨p, q, hA0, hV, rfl, hfz, hnd⟩ := hW
  have hA : DataW.TrodAll enc Tryd.prog W 0 (fun _ => true) true Tryd.f4.params.toList args.toList ds p := hA0
  rw [Tryd.params4] at hA hval
  obtain ⟨v0, vs0, d0, ds0, p0, q0, hargs, rfl, rfl, h0, r0⟩ := trodAll_cons hA
  obtain ⟨v1, vs1, d1, ds1, p1, q1, rfl, rfl, rfl, h1, r1⟩ := trodAll_cons r0
  obtain ⟨v2, vs2, d2, ds2, p2, q2, rfl, rfl, rfl, h2, r2⟩ := trodAll_cons r1
  obtain ⟨v3, vs3, d3, ds3, p3, q3, rfl, rfl, rfl, h3, r3⟩ := trodAll_cons r2
  obtain ⟨rfl, rfl, rfl⟩ := trodAll_nil r3
  obtain rfl : args = #[v0, v1, v2, v3] := by cases args; simp_all
  obtain ⟨rfl, rfl⟩ := trodVars_none hV
  clear hA0
  simp only [List.cons_append, List.nil_append, List.append_nil, Rows.uptoBulkAll] at hk
  have k0 := h0
  have lt0 : ∀ x ∈ p0, x.block < W.heap.size := by obtain ⟨m, hm⟩ := k0; exact DataW.trod_lt m _ _ _ hm
  obtain ⟨fu0, hf0⟩ := h0
  obtain ⟨a0, K0, G0⟩ := (X.opens_string Tryd.underlying9) H enc W _ _ fu0 _ _ hf0
  replace G0 := G0 B (show Rows.uptoBulk d0 ≤ B by omega)
  have hv0 : Value.okWide Tryd.prog W .any base 9 v0 := hval 0 9 v0 (by simp only [List.getElem?_toArray, List.getElem?_cons_zero, List.getElem?_cons_succ]) (by simp only [List.getElem?_toArray, List.getElem?_cons_zero, List.getElem?_cons_succ])
  obtain ⟨x0, rfl⟩ := okWide_string Tryd.underlying9 hv0
  obtain rfl : a0 = x0 := (show x0 = a0 by simpa [Kd.int, Kd.bool, Kd.string, Kd.scalar, Value.cells] using K0).symm
  have k1 := h1
  have lt1 : ∀ x ∈ p1, x.block < W.heap.size := by obtain ⟨m, hm⟩ := k1; exact DataW.trod_lt m _ _ _ hm
  obtain ⟨fu1, hf1⟩ := h1
  obtain ⟨a1, K1, G1⟩ := (X.opens_int Tryd.underlying3) H enc W _ _ fu1 _ _ hf1
  replace G1 := G1 B (show Rows.uptoBulk d1 ≤ B by omega)
  have hv1 : Value.okWide Tryd.prog W .any base 3 v1 := hval 1 3 v1 (by simp only [List.getElem?_toArray, List.getElem?_cons_zero, List.getElem?_cons_succ]) (by simp only [List.getElem?_toArray, List.getElem?_cons_zero, List.getElem?_cons_succ])
  obtain ⟨x1, rfl⟩ := okWide_int Tryd.underlying3 hv1
  obtain rfl : a1 = x1 := (show x1 = a1 by simpa [Kd.int, Kd.bool, Kd.string, Kd.scalar, Value.cells] using K1).symm
  have k2 := h2
  have lt2 : ∀ x ∈ p2, x.block < W.heap.size := by obtain ⟨m, hm⟩ := k2; exact DataW.trod_lt m _ _ _ hm
  obtain ⟨fu2, hf2⟩ := h2
  obtain ⟨a2, K2, G2⟩ := (X.opens_int Tryd.underlying3) H enc W _ _ fu2 _ _ hf2
  replace G2 := G2 B (show Rows.uptoBulk d2 ≤ B by omega)
  have hv2 : Value.okWide Tryd.prog W .any base 3 v2 := hval 2 3 v2 (by simp only [List.getElem?_toArray, List.getElem?_cons_zero, List.getElem?_cons_succ]) (by simp only [List.getElem?_toArray, List.getElem?_cons_zero, List.getElem?_cons_succ])
  obtain ⟨x2, rfl⟩ := okWide_int Tryd.underlying3 hv2
  obtain rfl : a2 = x2 := (show x2 = a2 by simpa [Kd.int, Kd.bool, Kd.string, Kd.scalar, Value.cells] using K2).symm
  have k3 := h3
  have lt3 : ∀ x ∈ p3, x.block < W.heap.size := by obtain ⟨m, hm⟩ := k3; exact DataW.trod_lt m _ _ _ hm
  obtain ⟨fu3, hf3⟩ := h3
  obtain ⟨a3, K3, G3⟩ := (X.opens_string Tryd.underlying9) H enc W _ _ fu3 _ _ hf3
  replace G3 := G3 B (show Rows.uptoBulk d3 ≤ B by omega)
  have hv3 : Value.okWide Tryd.prog W .any base 9 v3 := hval 3 9 v3 (by simp only [List.getElem?_toArray, List.getElem?_cons_zero, List.getElem?_cons_succ]) (by simp only [List.getElem?_toArray, List.getElem?_cons_zero, List.getElem?_cons_succ])
  obtain ⟨x3, rfl⟩ := okWide_string Tryd.underlying9 hv3
  obtain rfl : a3 = x3 := (show x3 = a3 by simpa [Kd.int, Kd.bool, Kd.string, Kd.scalar, Value.cells] using K3).symm
  obtain ⟨k_, hp⟩ := X.StartStatuses_pure a0 a1 a2 a3 (by have := G0; unfold X.goodS at this; omega) (by have := G3; unfold X.goodS at this; omega) (bounds_i64 G1) (bounds_i64 G2)
  refine (X.tollhouselaw06_StartStatuses.calls _ _ _ _ _ _ _  hG hp).mono ?_
  rintro e W' ⟨he, bel0⟩
  have bel : Below W.heap.size W W' := bel0
  subst he
  exact ⟨_, rfl, _, _, _, [], _, [], hW', trodAll_mk1 (shut_bool Tryd.underlying4 _), (trodAll_cons_mk (Below.trod laidOut (by kernel_rfl) (of_decide_eq_true (by kernel_rfl)) k0 bel lt0) (trodAll_cons_mk (Below.trod laidOut (by kernel_rfl) (of_decide_eq_true (by kernel_rfl)) k1 bel lt1) (trodAll_cons_mk (Below.trod laidOut (by kernel_rfl) (of_decide_eq_true (by kernel_rfl)) k2 bel lt2) (trodAll_cons_mk (Below.trod laidOut (by kernel_rfl) (of_decide_eq_true (by kernel_rfl)) k3 bel lt3) trodAll_mk0)))), rfl, bel.frame _, fun h => by cases h⟩
theorem reads (os : Os) {H : Type} (enc : TypeId × Value → H) : ∃ places, DataW.whole enc Tryd.prog ((laidWorld os).forCall (fun _ _ => 0) ⟨#[], #[.string ByteArray.empty, .int .i64 0, .int .i64 0, .string ByteArray.empty], []⟩).memory Tryd.f4.params.toList Rows.startStatusesSpec.vars false (#[.string ByteArray.empty, .int .i64 0, .int .i64 0, .string ByteArray.empty] : Array Value).toList 8 = some ([.lit (.string []), .lit (.int .i64 0), .lit (.int .i64 0), .lit (.string [])], [], places) :=
  ⟨[], by kernel_rfl⟩
theorem liftedUpto (os : Os) (started : os.Started) (H : Type) (enc : TypeId × Value → H) (F : Stop.Interp) :
    ReturnsInHanded {} Tryd.checked os 4 .any ((Rows.OpenSpec.upto Rows.startStatusesSpec).preRow enc Tryd.prog Tryd.f4 Rows.startStatusesUptoRow.domain false Rows.startStatusesUptoRow.laid) (((Rows.OpenSpec.upto Rows.startStatusesSpec).at F).post enc Tryd.prog Tryd.f4 false true false false) := by
  obtain ⟨places, hx⟩ := reads os enc
  refine returnsInHanded_of_row (C := Tryd.checked) (s := Rows.OpenSpec.upto Rows.startStatusesSpec) own started (by kernel_rfl) Tryd.func4
    (witness_row_atRef (enc := enc) (C := Tryd.checked) false (laidWorld os) #[.string ByteArray.empty, .int .i64 0, .int .i64 0, .string ByteArray.empty] rfl (by kernel_rfl) (by kernel_rfl) (by kernel_rfl)
      (OpenSpec.preRow_of_cond 8 hx (by kernel_rfl) (fun k hk => by cases hk; kernel_rfl) (by kernel_rfl) (laid_met os _))) ?_
  intro W base args ds gs before hval hW _ hk _ hL hS _
  exact contract H enc W base args ds gs before hval hW 1048576 (Nat.le_refl _) (of_decide_eq_true (hk _ rfl)) hL hS
theorem saidUpto : Rows.StartStatusesUptoSaid :=
  OpenClaim.holds_of_cond 4 Tryd.f4 rfl rfl rfl rfl rfl rfl rfl ⟨rfl, rfl, rfl, rfl, rfl⟩ rfl rfl rfl rfl rfl (by kernel_rfl) Tryd.func4 (by kernel_rfl)
    (of_decide_eq_true (by kernel_rfl)) (by unfold Func.isWrapper; first | (rw [if_pos (by decide +kernel)]; kernel_rfl) | (rw [if_neg (by decide +kernel)]; exact ⟨rfl, rfl⟩))
    (fun os started H enc _ F => by rw [OpenClaim.pre_eq_preRow]; exact liftedUpto os started H enc F)
theorem plain (f : FuncId) (fn : Func) (hf : Tryd.pinned.checked.prog.funcNamed "tollhouse/tollhouselaw06.StartStatuses" = some f) (hfn : Tryd.pinned.checked.prog.funcs[f]? = some fn) :
    true = Tryd.pinned.checked.prog.looks [] ∧ ∀ (j : Nat) t, fn.params[j]? = some t → Tryd.pinned.checked.prog.wantsStandIn t = false := by
  obtain rfl : f = 4 := Option.some.inj ((show Tryd.prog.funcNamed "tollhouse/tollhouselaw06.StartStatuses" = some 4 by kernel_rfl).symm.trans hf) |>.symm
  obtain rfl : fn = Tryd.f4 := (Option.some.inj (Tryd.func4.symm.trans hfn)).symm
  refine ⟨by kernel_rfl, fun j t ht => ?_⟩
  rw [Tryd.params4] at ht
  have s9 : Tryd.prog.wantsStandIn 9 = false := by kernel_rfl
  have s3 : Tryd.prog.wantsStandIn 3 = false := by kernel_rfl
  have hm := Array.mem_of_getElem? ht
  simp only [List.mem_toArray, List.mem_cons, List.not_mem_nil, or_false] at hm
  rcases hm with rfl | rfl | rfl | rfl
  · exact s9
  · exact s3
  · exact s3
  · exact s9
/-- THE CARD OF THE BOUNDED FORM. -/
theorem cardUpto : Rows.StartStatusesUptoCardSaid :=
  Claim7.holds_tied_plain_at .later [] _ _ _ _ saidUpto (fun _ h => by cases h) (by kernel_rfl) (fun _ h => by cases h) startStatusesUpto_row_tie rfl ⟨rfl, rfl⟩ (by kernel_rfl) rfl plain (by kernel_rfl)
#print axioms cardUpto
end Go.Proofs.YtpoljchfgdnmbaaDoor.startStatuses
namespace Go.Proofs.YtpoljchfgdnmbaaDoor
/-- The statement, under a short name. -/
theorem startStatuses_card : Rows.StartStatusesUptoCardSaid := startStatuses.cardUpto
end Go.Proofs.YtpoljchfgdnmbaaDoor
