/- A part of the proof of the law StartStatuses: contracts of functions that it reaches, and plain lemmas. -/
import Derived.Test.YtpoljchfgdnmbaaDoorMStartStatuses1
import Derived.Test.YtpoljchfgdnmbaaDoorMStartStatuses2
import Derived.Lib.Split
import Derived.Shelf.Strings.Split
import Derived.Lib.IndexBytes
-- PRINTED by print.py (a twelfth state) out of the translation. Not trusted: Lean checks it.
namespace Go.Proofs.YtpoljchfgdnmbaaDoor.X
open Go.RowKit Go.Proofs.YtpoljchfgdnmbaaDoorW.PrintWords Go.Proofs.YtpoljchfgdnmbaaDoorW.PrintLast Go.Proofs.YtpoljchfgdnmbaaDoorW.PrintMore
attribute [local go_sem] max2_int min2_int max_two min_two max_three min_three max_four min_four   -- for this text's walks alone
set_option linter.unusedVariables false
set_option linter.unusedSimpArgs false
open Go.Proofs.YtpoljchfgdnmbaaDoor.T

/-! ### tollhouseref06_Status: function 13 -/
mutual
def tollhouseref06_Status.j0 : Nat → ByteArray → Bool → Option (Int × Int × ByteArray × Int)
  | 0, _, _ => none
  | k + 1, x0, x26 => if x26 = true then (some (0, 0, (⟨#[]⟩ : ByteArray), 5)) else (if 0 ≤ 8 then (if 8 ≤ (x0.size : Int) then ((tollhouseref06_minor.f (x0.extract 0 8)).bind fun t170 => (tollhouseref06_Status.l0 k x0 t170 0 9)) else (none)) else (none))
def tollhouseref06_Status.l0 : Nat → ByteArray → Int → Int → Int → Option (Int × Int × ByteArray × Int)
  | 0, _, _, _, _ => none
  | k + 1, x0, x6, x7, x8 => if x8 < 12 then (if 0 ≤ x8 then (if x8 < (x0.size : Int) then (if (bt x0 x8) < 48 then (some (0, 0, (⟨#[]⟩ : ByteArray), 5)) else (if (bt x0 x8) > 57 then (some (0, 0, (⟨#[]⟩ : ByteArray), 5)) else (tollhouseref06_Status.l0 k x0 x6 (wrap64 ((wrap64 (10 * x7)) + (((bt x0 x8) - 48) % 256))) (wrap64 (x8 + 1))))) else (none)) else (none)) else (if x6 < 0 then (some (0, 0, (⟨#[]⟩ : ByteArray), 5)) else (if x7 < 100 then (some (0, 0, (⟨#[]⟩ : ByteArray), 5)) else (if x7 > 599 then (some (0, 0, (⟨#[]⟩ : ByteArray), 5)) else (if 13 ≤ (x0.size : Int) then ((tollhouseref02_Visible.f k (x0.extract 13 x0.size)).bind fun t171 => (if t171 = true then (some (x6, x7, x0.extract 13 x0.size, 0)) else (some (0, 0, (⟨#[]⟩ : ByteArray), 5)))) else (none)))))
end
def tollhouseref06_Status.f (k : Nat) (a0 : ByteArray) : Option (Int × Int × ByteArray × Int) := if (a0.size : Int) > 512 then (tollhouseref06_Status.j0 k a0 true) else (if (a0.size : Int) < 13 then (tollhouseref06_Status.j0 k a0 true) else (if 8 < (a0.size : Int) then (if (bt a0 8) = 32 then (if 12 < (a0.size : Int) then (tollhouseref06_Status.j0 k a0 ((bt a0 12) != 32)) else (none)) else (tollhouseref06_Status.j0 k a0 true)) else (none)))
theorem tollhouseref06_Status.mono_l : ∀ k, (∀ y0 y1, LeO (tollhouseref06_Status.j0 k y0 y1) (tollhouseref06_Status.j0 (k + 1) y0 y1)) ∧ (∀ y0 y1 y2 y3, LeO (tollhouseref06_Status.l0 k y0 y1 y2 y3) (tollhouseref06_Status.l0 (k + 1) y0 y1 y2 y3))
  | 0 => ⟨fun _ _ r h => by simp [tollhouseref06_Status.j0] at h, fun _ _ _ _ r h => by simp [tollhouseref06_Status.l0] at h⟩
  | k + 1 => by
    obtain ⟨ih0, ih1⟩ := tollhouseref06_Status.mono_l k
    refine ⟨?_, ?_⟩
    · intro y0 y1
      unfold tollhouseref06_Status.j0
      repeat' first
      | (with_reducible exact ih0 _ _)
      | (with_reducible exact ih1 _ _ _ _)
      | (with_reducible exact tollhouseref02_Visible.mono _ _)
      | (with_reducible exact LeO.refl _)
      | (with_reducible exact LeO.none _)
      | (with_reducible refine LeO.ite ?_ ?_)
      | (with_reducible refine LeO.bind ?_ (fun _ => ?_))
      | exact ih0 _ _
      | exact ih1 _ _ _ _
      | exact tollhouseref02_Visible.mono _ _
      | exact LeO.none _
      | refine LeO.ite ?_ ?_
      | refine LeO.bind ?_ (fun _ => ?_)
    · intro y0 y1 y2 y3
      unfold tollhouseref06_Status.l0
      repeat' first
      | (with_reducible exact ih0 _ _)
      | (with_reducible exact ih1 _ _ _ _)
      | (with_reducible exact tollhouseref02_Visible.mono _ _)
      | (with_reducible exact LeO.refl _)
      | (with_reducible exact LeO.none _)
      | (with_reducible refine LeO.ite ?_ ?_)
      | (with_reducible refine LeO.bind ?_ (fun _ => ?_))
      | exact ih0 _ _
      | exact ih1 _ _ _ _
      | exact tollhouseref02_Visible.mono _ _
      | exact LeO.none _
      | refine LeO.ite ?_ ?_
      | refine LeO.bind ?_ (fun _ => ?_)
theorem tollhouseref06_Status.mono : ∀ a0 k, LeO (tollhouseref06_Status.f k a0) (tollhouseref06_Status.f (k + 1) a0) := by
  intro a0 k
  obtain ⟨ih0, ih1⟩ := tollhouseref06_Status.mono_l k
  unfold tollhouseref06_Status.f
  repeat' first
      | (with_reducible exact ih0 _ _)
      | (with_reducible exact ih1 _ _ _ _)
      | (with_reducible exact tollhouseref02_Visible.mono _ _)
      | (with_reducible exact LeO.refl _)
      | (with_reducible exact LeO.none _)
      | (with_reducible refine LeO.ite ?_ ?_)
      | (with_reducible refine LeO.bind ?_ (fun _ => ?_))
      | exact ih0 _ _
      | exact ih1 _ _ _ _
      | exact tollhouseref02_Visible.mono _ _
      | exact LeO.none _
      | refine LeO.ite ?_ ?_
      | refine LeO.bind ?_ (fun _ => ?_)
set_option maxHeartbeats 8000000 in
set_option maxRecDepth 100000 in
theorem tollhouseref06_Status.calls (k : Nat) (a0 : ByteArray) (r1 : Int) (r2 : Int) (r3 : ByteArray) (r4 : Int) (w : World) (HGg : Glob w) (h : tollhouseref06_Status.f k a0 = some (r1, r2, r3, r4)) :
    Calls Tryd.prog 13 #[.string a0] w fun e w' => e = .returned (.tuple #[.int .i64 r1, .int .i64 r2, .string r3, .int .i64 r4]) ∧ Drawn0 w w' := by
  have HGl := Aside0.mk HGg
  clear HGg
  have H : (if (a0.size : Int) > 512 then (tollhouseref06_Status.j0 k a0 true) else (if (a0.size : Int) < 13 then (tollhouseref06_Status.j0 k a0 true) else (if 8 < (a0.size : Int) then (if (bt a0 8) = 32 then (if 12 < (a0.size : Int) then (tollhouseref06_Status.j0 k a0 ((bt a0 12) != 32)) else (none)) else (tollhouseref06_Status.j0 k a0 true)) else (none)))) = some (r1, r2, r3, r4) := h
  clear h
  have HC2 := Aside0.mk H
  clear H
  go_enter Tryd.func13, Tryd.ntmps13
  go_upto_region 1 with (fail)
  repeat (go_quiet (fail); go_upto_region 1 with (fail))
  go_cut [26] (fun v26 wc => ∃ (kq : Nat) (x26_1 : Bool), v26 = .bool x26_1 ∧ Aside0 (tollhouseref06_Status.j0 kq a0 x26_1 = some (r1, r2, r3, r4)) ∧ Aside0 (kq ≤ k) ∧ Drawn0 w wc)
  case first =>
    have H := HC2.out
    clear HC2
    by_cases c3 : (a0.size : Int) > 512
    · rw [if_pos c3] at H
      have c3b0 : decide (512 < (a0.size : Int)) = true := decide_eq_true c3
      have c3b1 : decide (512 < a0.size) = true := decide_eq_true (by omega)
      clear c3
      (first | rw [c3b0] | (simp only [i64_w, i32_w]; rw [c3b0]) | skip)
      have H' := Aside0.mk H
      clear H
      go_wp2
      repeat (go_quiet (fail); try go_wp2)
      go_meet
      case rel => exact ⟨_, (true), (by first | rfl | (simp; done) | (simp [*]; done)), H', ⟨by first | omega | exact Nat.le_refl _⟩, by repeat (first | exact Drawn0.refl _ | apply Drawn0.step)⟩
    · rw [if_neg c3] at H
      have c3b0 : decide (512 < (a0.size : Int)) = false := decide_eq_false c3
      have c3b1 : decide (512 < a0.size) = false := decide_eq_false (by omega)
      clear c3
      (first | rw [c3b0] | (simp only [i64_w, i32_w]; rw [c3b0]) | skip)
      by_cases c4 : (a0.size : Int) < 13
      · rw [if_pos c4] at H
        have c4b0 : decide ((a0.size : Int) < 13) = true := decide_eq_true c4
        have c4b1 : decide (a0.size < 13) = true := decide_eq_true (by omega)
        clear c4
        have H' := Aside0.mk H
        clear H
        go_wp2
        repeat (go_quiet (fail); try go_wp2)
        go_meet
        case rel => exact ⟨_, (true), (by first | rfl | (simp; done) | (simp [*]; done)), H', ⟨by first | omega | exact Nat.le_refl _⟩, by repeat (first | exact Drawn0.refl _ | apply Drawn0.step)⟩
      · rw [if_neg c4] at H
        have c4b0 : decide ((a0.size : Int) < 13) = false := decide_eq_false c4
        have c4b1 : decide (a0.size < 13) = false := decide_eq_false (by omega)
        clear c4
        by_cases c5 : 8 < (a0.size : Int)
        · rw [if_pos c5] at H
          have c5b0 : decide (8 < (a0.size : Int)) = true := decide_eq_true c5
          have c5b1 : decide (8 < a0.size) = true := decide_eq_true (by omega)
          clear c5
          by_cases c7 : (bt a0 8) = 32
          · rw [if_pos c7] at H
            have c7b0 : ((bt a0 8) == 32) = true := beq_iff_eq.mpr c7
            have c7b1 : ((bt a0 8) != 32) = false := bne_eq_false_iff_eq.mpr c7
            clear c7
            by_cases c8 : 12 < (a0.size : Int)
            · rw [if_pos c8] at H
              have c8b0 : decide (12 < (a0.size : Int)) = true := decide_eq_true c8
              have c8b1 : decide (12 < a0.size) = true := decide_eq_true (by omega)
              clear c8
              have H' := Aside0.mk H
              clear H
              have p6 : 0 ≤ (8 : Int) := (by omega)
              have q6 : 8 < a0.size := (by have : (8 : Int) < (a0.size : Int) := of_decide_eq_true (by first | (with_reducible assumption) | assumption); omega)
              have hx6 : ∀ h : 8 < a0.size, ((a0[8]'h).toNat : Int) = bt a0 8 := bt_at a0 8
              clear p6
              have qi6 : (8 < (a0.size : Int)) = True := eq_true (of_decide_eq_true (by first | (with_reducible assumption) | assumption))
              replace q6 := eq_true q6
              have p9 : 0 ≤ (12 : Int) := (by omega)
              have q9 : 12 < a0.size := (by have : (12 : Int) < (a0.size : Int) := of_decide_eq_true (by first | (with_reducible assumption) | assumption); omega)
              have hx9 : ∀ h : 12 < a0.size, ((a0[12]'h).toNat : Int) = bt a0 12 := bt_at a0 12
              clear p9
              have qi9 : (12 < (a0.size : Int)) = True := eq_true (of_decide_eq_true (by first | (with_reducible assumption) | assumption))
              replace q9 := eq_true q9
              go_wp2
              repeat (go_quiet (fail); try go_wp2)
              go_meet
              case rel => exact ⟨_, (((bt a0 12) != 32)), (by first | rfl | (simp; done) | (simp [*]; done)), H', ⟨by first | omega | exact Nat.le_refl _⟩, by repeat (first | exact Drawn0.refl _ | apply Drawn0.step)⟩
            · rw [if_neg c8] at H
              exact absurd H (by simp)
          · rw [if_neg c7] at H
            have c7b0 : ((bt a0 8) == 32) = false := beq_eq_false_iff_ne.mpr c7
            have c7b1 : ((bt a0 8) != 32) = true := bne_iff_ne.mpr c7
            have H' := Aside0.mk H
            clear H
            have p6 : 0 ≤ (8 : Int) := (by omega)
            have q6 : 8 < a0.size := (by have : (8 : Int) < (a0.size : Int) := of_decide_eq_true (by first | (with_reducible assumption) | assumption); omega)
            have hx6 : ∀ h : 8 < a0.size, ((a0[8]'h).toNat : Int) = bt a0 8 := bt_at a0 8
            clear p6
            have qi6 : (8 < (a0.size : Int)) = True := eq_true (of_decide_eq_true (by first | (with_reducible assumption) | assumption))
            replace q6 := eq_true q6
            go_wp2
            repeat (go_quiet (fail); try go_wp2)
            go_meet
            case rel => exact ⟨_, (true), (by first | rfl | (simp; done) | (simp [*]; done)), H', ⟨by first | omega | exact Nat.le_refl _⟩, by repeat (first | exact Drawn0.refl _ | apply Drawn0.step)⟩
        · rw [if_neg c5] at H
          exact absurd H (by simp)
  case rest =>
    clear HC2
    try clear c1
    try clear p2
    try clear c3
    try clear c3b0
    try clear c3b1
    try clear c4
    try clear c4b0
    try clear c4b1
    try clear c5
    try clear c5b0
    try clear c5b1
    try clear p6
    try clear q6
    try clear hx6
    try clear qi6
    try clear c7
    try clear c7b0
    try clear c7b1
    try clear c8
    try clear c8b0
    try clear c8b1
    try clear p9
    try clear q9
    try clear hx9
    try clear qi9
    try clear p6
    try clear p9
    try clear q6
    try clear q9
    obtain ⟨kq, x26_1, rfl, HA, HJ1, ⟨mc1, rfl⟩⟩ := hcut
    cases kq with
    | zero => exact absurd HA.out (by simp [tollhouseref06_Status.j0])
    | succ kj1 =>
      have H := HA.out
      clear HA
      simp only [tollhouseref06_Status.j0] at H
      by_cases c10 : x26_1 = true
      · subst c10
        have H1 : (some (0, 0, (⟨#[]⟩ : ByteArray), 5)) = some (r1, r2, r3, r4) := by rw [if_pos rfl] at H; exact H
        clear H
        have H := H1
        clear H1
        simp only [Option.some.injEq, Prod.mk.injEq] at H
        obtain ⟨rfl, rfl, rfl, rfl⟩ := H
        go_wp2
        repeat (go_quiet (fail); try go_wp2)
        refine bodyPost_ret (results_list (rs := [.tmp 2, .tmp 3, .tmp 4, .tmp 5]) rfl (by simp) (.tmp (.tmp (.tmp (.tmp .nil))))) rfl ?_
        exact ⟨by first | rfl | (simp; done) | (simp [*]; done), by repeat (first | exact Drawn0.refl _ | apply Drawn0.step)⟩
      · replace c10 := Bool.eq_false_iff.mpr c10
        subst c10
        have H1 : (if 0 ≤ 8 then (if 8 ≤ (a0.size : Int) then ((tollhouseref06_minor.f (a0.extract 0 8)).bind fun t170 => (tollhouseref06_Status.l0 kj1 a0 t170 0 9)) else (none)) else (none)) = some (r1, r2, r3, r4) := by rw [if_neg (show ¬ (false = true) by decide)] at H; exact H
        clear H
        have H := H1
        clear H1
        by_cases c11 : 0 ≤ 8
        · rw [if_pos c11] at H
          have c11b0 := eq_true c11
          have c11b1 : decide (0 ≤ 8) = true := decide_eq_true c11
          clear c11
          by_cases c12 : 8 ≤ (a0.size : Int)
          · rw [if_pos c12] at H
            have c12b0 := eq_true c12
            have c12b1 : decide (8 ≤ (a0.size : Int)) = true := decide_eq_true c12
            clear c12
            replace H := Option.bind_eq_some_iff.mp H
            obtain ⟨t170, A130, H⟩ := H
            replace H : (tollhouseref06_Status.l0 kj1 a0 t170 0 9) = some (r1, r2, r3, r4) := H
            have A13 := Aside0.mk A130
            clear A130
            have H' := Aside0.mk H
            clear H
            go_wp2_with (first | (go_at_call 22; (with_reducible refine (tollhouseref06_minor.calls (a0.extract 0 8) t170 _ (by repeat (first | exact HGl.out | apply Glob.drewN | apply Glob.drew)) A13.out).mono ?_); rintro e w' ⟨rfl, ⟨nd, rfl⟩⟩; (try first | exact ⟨rfl, _, World.drewN_drewN _ _ _⟩ | exact ⟨rfl, _, Eq.trans (World.drewN_drewN _ _ _) (congrArg (World.drewN _) (Nat.add_assoc _ _ _))⟩)))
            repeat (go_quiet (first | (go_at_call 22; (with_reducible refine (tollhouseref06_minor.calls (a0.extract 0 8) t170 _ (by repeat (first | exact HGl.out | apply Glob.drewN | apply Glob.drew)) A13.out).mono ?_); rintro e w' ⟨rfl, ⟨nd, rfl⟩⟩; (try first | exact ⟨rfl, _, World.drewN_drewN _ _ _⟩ | exact ⟨rfl, _, Eq.trans (World.drewN_drewN _ _ _) (congrArg (World.drewN _) (Nat.add_assoc _ _ _))⟩))); try go_wp2_with (first | (go_at_call 22; (with_reducible refine (tollhouseref06_minor.calls (a0.extract 0 8) t170 _ (by repeat (first | exact HGl.out | apply Glob.drewN | apply Glob.drew)) A13.out).mono ?_); rintro e w' ⟨rfl, ⟨nd, rfl⟩⟩; (try first | exact ⟨rfl, _, World.drewN_drewN _ _ _⟩ | exact ⟨rfl, _, Eq.trans (World.drewN_drewN _ _ _) (congrArg (World.drewN _) (Nat.add_assoc _ _ _))⟩))))
            go_loopg [7, 8] kj1 (fun kq v7 v8 w' => ∃ (x7_2 : Int) (x8_2 : Int), v7 = .int .i64 x7_2 ∧ v8 = .int .i64 x8_2 ∧ Aside0 (tollhouseref06_Status.l0 kq a0 t170 x7_2 x8_2 = some (r1, r2, r3, r4)) ∧ Aside0 (kq ≤ kj1) ∧ Drawn0 w w')
            case atStart => exact ⟨(0), (9), (by first | rfl | (simp; done) | (simp [*]; done)), (by first | rfl | (simp; done) | (simp [*]; done)), H', ⟨Nat.le_refl _⟩, by repeat (first | exact Drawn0.refl _ | apply Drawn0.step)⟩
            case round =>
              clear H'
              try clear c1
              try clear p2
              try clear c3
              try clear c3b0
              try clear c3b1
              try clear c4
              try clear c4b0
              try clear c4b1
              try clear c5
              try clear c5b0
              try clear c5b1
              try clear p6
              try clear q6
              try clear hx6
              try clear qi6
              try clear c7
              try clear c7b0
              try clear c7b1
              try clear c8
              try clear c8b0
              try clear c8b1
              try clear p9
              try clear q9
              try clear hx9
              try clear qi9
              try clear c10
              try clear c11
              try clear c11b0
              try clear c11b1
              try clear c12
              try clear c12b0
              try clear c12b1
              try clear c13
              try clear p2
              try clear p6
              try clear p9
              try clear q6
              try clear q9
              obtain ⟨x7_2, x8_2, rfl, rfl, HA, HK2, ⟨m2, rfl⟩⟩ := hrel
              cases gk with
              | zero => exact absurd HA.out (by simp [tollhouseref06_Status.l0])
              | succ k2 =>
                have H := HA.out
                clear HA
                simp only [tollhouseref06_Status.l0] at H
                by_cases c14 : x8_2 < 12
                · rw [if_pos c14] at H
                  have c14b0 : decide (x8_2 < 12) = true := decide_eq_true c14
                  clear c14
                  by_cases c15 : 0 ≤ x8_2
                  · rw [if_pos c15] at H
                    have c15b0 : decide (0 ≤ x8_2) = true := decide_eq_true c15
                    clear c15
                    by_cases c16 : x8_2 < (a0.size : Int)
                    · rw [if_pos c16] at H
                      have c16b0 : decide (x8_2 < (a0.size : Int)) = true := decide_eq_true c16
                      clear c16
                      by_cases c18 : (bt a0 x8_2) < 48
                      · rw [if_pos c18] at H
                        have c18b0 : decide ((bt a0 x8_2) < 48) = true := decide_eq_true c18
                        clear c18
                        simp only [Option.some.injEq, Prod.mk.injEq] at H
                        obtain ⟨rfl, rfl, rfl, rfl⟩ := H
                        have p17 : 0 ≤ (x8_2 : Int) := of_decide_eq_true (by first | (with_reducible assumption) | assumption)
                        have q17 : x8_2 < (a0.size : Int) := of_decide_eq_true (by first | (with_reducible assumption) | assumption)
                        have hx17 := bt_at a0 x8_2
                        replace p17 := eq_true p17
                        replace q17 := eq_true q17
                        go_wp2
                        repeat (go_quiet (fail); try go_wp2)
                        refine bodyPost_ret (results_list (rs := [.tmp 2, .tmp 3, .tmp 4, .tmp 5]) rfl (by simp) (.tmp (.tmp (.tmp (.tmp .nil))))) rfl ?_
                        exact ⟨by first | rfl | (simp; done) | (simp [*]; done), by repeat (first | exact Drawn0.refl _ | apply Drawn0.step)⟩
                      · rw [if_neg c18] at H
                        have c18b0 : decide ((bt a0 x8_2) < 48) = false := decide_eq_false c18
                        clear c18
                        by_cases c20 : (bt a0 x8_2) > 57
                        · rw [if_pos c20] at H
                          have c20b0 : decide (57 < (bt a0 x8_2)) = true := decide_eq_true c20
                          clear c20
                          simp only [Option.some.injEq, Prod.mk.injEq] at H
                          obtain ⟨rfl, rfl, rfl, rfl⟩ := H
                          have p17 : 0 ≤ (x8_2 : Int) := of_decide_eq_true (by first | (with_reducible assumption) | assumption)
                          have q17 : x8_2 < (a0.size : Int) := of_decide_eq_true (by first | (with_reducible assumption) | assumption)
                          have hx17 := bt_at a0 x8_2
                          replace p17 := eq_true p17
                          replace q17 := eq_true q17
                          have p19 : 0 ≤ (x8_2 : Int) := of_decide_eq_true (by first | (with_reducible assumption) | assumption)
                          have q19 : x8_2 < (a0.size : Int) := of_decide_eq_true (by first | (with_reducible assumption) | assumption)
                          have hx19 := bt_at a0 x8_2
                          replace p19 := eq_true p19
                          replace q19 := eq_true q19
                          go_wp2
                          repeat (go_quiet (fail); try go_wp2)
                          refine bodyPost_ret (results_list (rs := [.tmp 2, .tmp 3, .tmp 4, .tmp 5]) rfl (by simp) (.tmp (.tmp (.tmp (.tmp .nil))))) rfl ?_
                          exact ⟨by first | rfl | (simp; done) | (simp [*]; done), by repeat (first | exact Drawn0.refl _ | apply Drawn0.step)⟩
                        · rw [if_neg c20] at H
                          have c20b0 : decide (57 < (bt a0 x8_2)) = false := decide_eq_false c20
                          clear c20
                          have H' := Aside0.mk H
                          clear H
                          have p17 : 0 ≤ (x8_2 : Int) := of_decide_eq_true (by first | (with_reducible assumption) | assumption)
                          have q17 : x8_2 < (a0.size : Int) := of_decide_eq_true (by first | (with_reducible assumption) | assumption)
                          have hx17 := bt_at a0 x8_2
                          replace p17 := eq_true p17
                          replace q17 := eq_true q17
                          have p19 : 0 ≤ (x8_2 : Int) := of_decide_eq_true (by first | (with_reducible assumption) | assumption)
                          have q19 : x8_2 < (a0.size : Int) := of_decide_eq_true (by first | (with_reducible assumption) | assumption)
                          have hx19 := bt_at a0 x8_2
                          replace p19 := eq_true p19
                          replace q19 := eq_true q19
                          have p21 : 0 ≤ (x8_2 : Int) := of_decide_eq_true (by first | (with_reducible assumption) | assumption)
                          have q21 : x8_2 < (a0.size : Int) := of_decide_eq_true (by first | (with_reducible assumption) | assumption)
                          have hx21 := bt_at a0 x8_2
                          replace p21 := eq_true p21
                          replace q21 := eq_true q21
                          go_wp2
                          repeat (go_quiet (fail); try go_wp2)
                          go_roundg k2
                          case measure => have := HJ1.out; have := HK2.out; omega
                          case rel => exact ⟨(wrap64 ((wrap64 (10 * x7_2)) + (((bt a0 x8_2) - 48) % 256))), (wrap64 (x8_2 + 1)), (by first | rfl | (simp; done) | (simp [*]; done)), (by first | rfl | (simp; done) | (simp [*]; done)), H', ⟨by have := HJ1.out; have := HK2.out; omega⟩, by repeat (first | exact Drawn0.refl _ | apply Drawn0.step)⟩
                    · rw [if_neg c16] at H
                      exact absurd H (by simp)
                  · rw [if_neg c15] at H
                    exact absurd H (by simp)
                · rw [if_neg c14] at H
                  have c14b0 : decide (x8_2 < 12) = false := decide_eq_false c14
                  clear c14
                  by_cases c22 : t170 < 0
                  · rw [if_pos c22] at H
                    have c22b0 : decide (t170 < 0) = true := decide_eq_true c22
                    clear c22
                    simp only [Option.some.injEq, Prod.mk.injEq] at H
                    obtain ⟨rfl, rfl, rfl, rfl⟩ := H
                    go_wp2
                    repeat (go_quiet (fail); try go_wp2)
                    refine bodyPost_ret (results_list (rs := [.tmp 2, .tmp 3, .tmp 4, .tmp 5]) rfl (by simp) (.tmp (.tmp (.tmp (.tmp .nil))))) rfl ?_
                    exact ⟨by first | rfl | (simp; done) | (simp [*]; done), by repeat (first | exact Drawn0.refl _ | apply Drawn0.step)⟩
                  · rw [if_neg c22] at H
                    have c22b0 : decide (t170 < 0) = false := decide_eq_false c22
                    clear c22
                    by_cases c23 : x7_2 < 100
                    · rw [if_pos c23] at H
                      have c23b0 : decide (x7_2 < 100) = true := decide_eq_true c23
                      clear c23
                      simp only [Option.some.injEq, Prod.mk.injEq] at H
                      obtain ⟨rfl, rfl, rfl, rfl⟩ := H
                      go_wp2
                      repeat (go_quiet (fail); try go_wp2)
                      refine bodyPost_ret (results_list (rs := [.tmp 2, .tmp 3, .tmp 4, .tmp 5]) rfl (by simp) (.tmp (.tmp (.tmp (.tmp .nil))))) rfl ?_
                      exact ⟨by first | rfl | (simp; done) | (simp [*]; done), by repeat (first | exact Drawn0.refl _ | apply Drawn0.step)⟩
                    · rw [if_neg c23] at H
                      have c23b0 : decide (x7_2 < 100) = false := decide_eq_false c23
                      clear c23
                      by_cases c24 : x7_2 > 599
                      · rw [if_pos c24] at H
                        have c24b0 : decide (599 < x7_2) = true := decide_eq_true c24
                        clear c24
                        simp only [Option.some.injEq, Prod.mk.injEq] at H
                        obtain ⟨rfl, rfl, rfl, rfl⟩ := H
                        go_wp2
                        repeat (go_quiet (fail); try go_wp2)
                        refine bodyPost_ret (results_list (rs := [.tmp 2, .tmp 3, .tmp 4, .tmp 5]) rfl (by simp) (.tmp (.tmp (.tmp (.tmp .nil))))) rfl ?_
                        exact ⟨by first | rfl | (simp; done) | (simp [*]; done), by repeat (first | exact Drawn0.refl _ | apply Drawn0.step)⟩
                      · rw [if_neg c24] at H
                        have c24b0 : decide (599 < x7_2) = false := decide_eq_false c24
                        clear c24
                        by_cases c25 : 13 ≤ (a0.size : Int)
                        · rw [if_pos c25] at H
                          have c25b0 := eq_true c25
                          have c25b1 : decide (13 ≤ (a0.size : Int)) = true := decide_eq_true c25
                          clear c25
                          replace H := Option.bind_eq_some_iff.mp H
                          obtain ⟨t171, A260, H⟩ := H
                          replace H : (if t171 = true then (some (t170, x7_2, a0.extract 13 a0.size, 0)) else (some (0, 0, (⟨#[]⟩ : ByteArray), 5))) = some (r1, r2, r3, r4) := H
                          have A26 := Aside0.mk A260
                          clear A260
                          by_cases c27 : t171 = true
                          · subst c27
                            have H1 : (some (t170, x7_2, a0.extract 13 a0.size, 0)) = some (r1, r2, r3, r4) := by rw [if_pos rfl] at H; exact H
                            clear H
                            have H := H1
                            clear H1
                            have c28b0 := eq_true (of_decide_eq_true (by first | (with_reducible assumption) | assumption) : 13 ≤ (a0.size : Int))
                            simp only [Option.some.injEq, Prod.mk.injEq] at H
                            obtain ⟨rfl, rfl, rfl, rfl⟩ := H
                            go_wp2_with (first | (go_at_call 29; (with_reducible refine (tollhouseref02_Visible.calls k2 (a0.extract 13 a0.size) true _ (by repeat (first | exact HGl.out | apply Glob.drewN | apply Glob.drew)) A26.out).mono ?_); rintro e w' ⟨rfl, ⟨nd, rfl⟩⟩; (try first | exact ⟨rfl, _, World.drewN_drewN _ _ _⟩ | exact ⟨rfl, _, Eq.trans (World.drewN_drewN _ _ _) (congrArg (World.drewN _) (Nat.add_assoc _ _ _))⟩)))
                            repeat (go_quiet (first | (go_at_call 29; (with_reducible refine (tollhouseref02_Visible.calls k2 (a0.extract 13 a0.size) true _ (by repeat (first | exact HGl.out | apply Glob.drewN | apply Glob.drew)) A26.out).mono ?_); rintro e w' ⟨rfl, ⟨nd, rfl⟩⟩; (try first | exact ⟨rfl, _, World.drewN_drewN _ _ _⟩ | exact ⟨rfl, _, Eq.trans (World.drewN_drewN _ _ _) (congrArg (World.drewN _) (Nat.add_assoc _ _ _))⟩))); try go_wp2_with (first | (go_at_call 29; (with_reducible refine (tollhouseref02_Visible.calls k2 (a0.extract 13 a0.size) true _ (by repeat (first | exact HGl.out | apply Glob.drewN | apply Glob.drew)) A26.out).mono ?_); rintro e w' ⟨rfl, ⟨nd, rfl⟩⟩; (try first | exact ⟨rfl, _, World.drewN_drewN _ _ _⟩ | exact ⟨rfl, _, Eq.trans (World.drewN_drewN _ _ _) (congrArg (World.drewN _) (Nat.add_assoc _ _ _))⟩))))
                            refine bodyPost_ret (results_list (rs := [.tmp 2, .tmp 3, .tmp 4, .tmp 5]) rfl (by simp) (.tmp (.tmp (.tmp (.tmp .nil))))) rfl ?_
                            exact ⟨by first | rfl | (simp; done) | (simp [*]; done), by repeat (first | exact Drawn0.refl _ | apply Drawn0.step)⟩
                          · replace c27 := Bool.eq_false_iff.mpr c27
                            subst c27
                            have H1 : (some (0, 0, (⟨#[]⟩ : ByteArray), 5)) = some (r1, r2, r3, r4) := by rw [if_neg (show ¬ (false = true) by decide)] at H; exact H
                            clear H
                            have H := H1
                            clear H1
                            simp only [Option.some.injEq, Prod.mk.injEq] at H
                            obtain ⟨rfl, rfl, rfl, rfl⟩ := H
                            go_wp2_with (first | (go_at_call 29; (with_reducible refine (tollhouseref02_Visible.calls k2 (a0.extract 13 a0.size) false _ (by repeat (first | exact HGl.out | apply Glob.drewN | apply Glob.drew)) A26.out).mono ?_); rintro e w' ⟨rfl, ⟨nd, rfl⟩⟩; (try first | exact ⟨rfl, _, World.drewN_drewN _ _ _⟩ | exact ⟨rfl, _, Eq.trans (World.drewN_drewN _ _ _) (congrArg (World.drewN _) (Nat.add_assoc _ _ _))⟩)))
                            repeat (go_quiet (first | (go_at_call 29; (with_reducible refine (tollhouseref02_Visible.calls k2 (a0.extract 13 a0.size) false _ (by repeat (first | exact HGl.out | apply Glob.drewN | apply Glob.drew)) A26.out).mono ?_); rintro e w' ⟨rfl, ⟨nd, rfl⟩⟩; (try first | exact ⟨rfl, _, World.drewN_drewN _ _ _⟩ | exact ⟨rfl, _, Eq.trans (World.drewN_drewN _ _ _) (congrArg (World.drewN _) (Nat.add_assoc _ _ _))⟩))); try go_wp2_with (first | (go_at_call 29; (with_reducible refine (tollhouseref02_Visible.calls k2 (a0.extract 13 a0.size) false _ (by repeat (first | exact HGl.out | apply Glob.drewN | apply Glob.drew)) A26.out).mono ?_); rintro e w' ⟨rfl, ⟨nd, rfl⟩⟩; (try first | exact ⟨rfl, _, World.drewN_drewN _ _ _⟩ | exact ⟨rfl, _, Eq.trans (World.drewN_drewN _ _ _) (congrArg (World.drewN _) (Nat.add_assoc _ _ _))⟩))))
                            refine bodyPost_ret (results_list (rs := [.tmp 2, .tmp 3, .tmp 4, .tmp 5]) rfl (by simp) (.tmp (.tmp (.tmp (.tmp .nil))))) rfl ?_
                            exact ⟨by first | rfl | (simp; done) | (simp [*]; done), by repeat (first | exact Drawn0.refl _ | apply Drawn0.step)⟩
                        · rw [if_neg c25] at H
                          exact absurd H (by simp)
          · rw [if_neg c12] at H
            exact absurd H (by simp)
        · rw [if_neg c11] at H
          exact absurd H (by simp)

end Go.Proofs.YtpoljchfgdnmbaaDoor.X

-- PRINTED by print.py (a twelfth state) out of the translation. Not trusted: Lean checks it.
namespace Go.Proofs.YtpoljchfgdnmbaaDoor.X
open Go.RowKit Go.Proofs.YtpoljchfgdnmbaaDoorW.PrintWords Go.Proofs.YtpoljchfgdnmbaaDoorW.PrintLast Go.Proofs.YtpoljchfgdnmbaaDoorW.PrintMore
attribute [local go_sem] max2_int min2_int max_two min_two max_three min_three max_four min_four   -- for this text's walks alone
set_option linter.unusedVariables false
set_option linter.unusedSimpArgs false
open Go.Proofs.YtpoljchfgdnmbaaDoor.T

/-! ### tollhouseref06_PutStatus: function 15 -/
def tollhouseref06_PutStatus.j0 : Nat → Int → Int → ByteArray → Bool → Option (ByteArray × Int)
  | 0, _, _, _, _ => none
  | k + 1, x0, x1, x2, x27 => if x27 = true then (some ((⟨#[]⟩ : ByteArray), 1)) else ((some (([(wrap64 (48 + (wrap64 (Int.tdiv x1 100)))) % 256, (wrap64 (48 + (Int.tmod (wrap64 (Int.tdiv x1 10)) 10))) % 256, (wrap64 (48 + (Int.tmod x1 10))) % 256] : List Int) : List Int)).bind fun y172 => ((some (([(wrap64 (48 + x0)) % 256] : List Int) : List Int)).bind fun y175 => (if 7 + (strOfNums y175).size ≤ 9223372036854775807 then (if ((⟨#[72, 84, 84, 80, 47, 49, 46]⟩ : ByteArray) ++ (strOfNums y175)).size + 1 ≤ 9223372036854775807 then (if (((⟨#[72, 84, 84, 80, 47, 49, 46]⟩ : ByteArray) ++ (strOfNums y175)) ++ (⟨#[32]⟩ : ByteArray)).size + (strOfNums y172).size ≤ 9223372036854775807 then (if ((((⟨#[72, 84, 84, 80, 47, 49, 46]⟩ : ByteArray) ++ (strOfNums y175)) ++ (⟨#[32]⟩ : ByteArray)) ++ (strOfNums y172)).size + 1 ≤ 9223372036854775807 then (if (((((⟨#[72, 84, 84, 80, 47, 49, 46]⟩ : ByteArray) ++ (strOfNums y175)) ++ (⟨#[32]⟩ : ByteArray)) ++ (strOfNums y172)) ++ (⟨#[32]⟩ : ByteArray)).size + x2.size ≤ 9223372036854775807 then ((tollhouseref06_Status.f k ((((((⟨#[72, 84, 84, 80, 47, 49, 46]⟩ : ByteArray) ++ (strOfNums y175)) ++ (⟨#[32]⟩ : ByteArray)) ++ (strOfNums y172)) ++ (⟨#[32]⟩ : ByteArray)) ++ x2)).bind fun bt178 => (if bt178.2.2.2 = 0 then (some ((((((⟨#[72, 84, 84, 80, 47, 49, 46]⟩ : ByteArray) ++ (strOfNums y175)) ++ (⟨#[32]⟩ : ByteArray)) ++ (strOfNums y172)) ++ (⟨#[32]⟩ : ByteArray)) ++ x2, 0)) else (some ((⟨#[]⟩ : ByteArray), 1)))) else (none)) else (none)) else (none)) else (none)) else (none))))
def tollhouseref06_PutStatus.f (k : Nat) (a0 : Int) (a1 : Int) (a2 : ByteArray) : Option (ByteArray × Int) := if a0 = 0 then (if a1 < 100 then (tollhouseref06_PutStatus.j0 k a0 a1 a2 true) else (tollhouseref06_PutStatus.j0 k a0 a1 a2 (decide (a1 > 599)))) else (if a0 = 1 then (if a1 < 100 then (tollhouseref06_PutStatus.j0 k a0 a1 a2 true) else (tollhouseref06_PutStatus.j0 k a0 a1 a2 (decide (a1 > 599)))) else (tollhouseref06_PutStatus.j0 k a0 a1 a2 true))
theorem tollhouseref06_PutStatus.mono_l : ∀ k, (∀ y0 y1 y2 y3, LeO (tollhouseref06_PutStatus.j0 k y0 y1 y2 y3) (tollhouseref06_PutStatus.j0 (k + 1) y0 y1 y2 y3))
  | 0 => fun _ _ _ _ r h => by simp [tollhouseref06_PutStatus.j0] at h
  | k + 1 => by
    have ih0 := tollhouseref06_PutStatus.mono_l k
    · intro y0 y1 y2 y3
      unfold tollhouseref06_PutStatus.j0
      repeat' first
      | (with_reducible exact ih0 _ _ _ _)
      | (with_reducible exact tollhouseref06_Status.mono _ _)
      | (with_reducible exact LeO.refl _)
      | (with_reducible exact LeO.none _)
      | (with_reducible refine LeO.ite ?_ ?_)
      | (with_reducible refine LeO.bind ?_ (fun _ => ?_))
      | exact ih0 _ _ _ _
      | exact tollhouseref06_Status.mono _ _
      | exact LeO.none _
      | refine LeO.ite ?_ ?_
      | refine LeO.bind ?_ (fun _ => ?_)
theorem tollhouseref06_PutStatus.mono : ∀ a0 a1 a2 k, LeO (tollhouseref06_PutStatus.f k a0 a1 a2) (tollhouseref06_PutStatus.f (k + 1) a0 a1 a2) := by
  intro a0 a1 a2 k
  have ih0 := tollhouseref06_PutStatus.mono_l k
  unfold tollhouseref06_PutStatus.f
  repeat' first
      | (with_reducible exact ih0 _ _ _ _)
      | (with_reducible exact tollhouseref06_Status.mono _ _)
      | (with_reducible exact LeO.refl _)
      | (with_reducible exact LeO.none _)
      | (with_reducible refine LeO.ite ?_ ?_)
      | (with_reducible refine LeO.bind ?_ (fun _ => ?_))
      | exact ih0 _ _ _ _
      | exact tollhouseref06_Status.mono _ _
      | exact LeO.none _
      | refine LeO.ite ?_ ?_
      | refine LeO.bind ?_ (fun _ => ?_)
set_option maxHeartbeats 8000000 in
set_option maxRecDepth 100000 in
theorem tollhouseref06_PutStatus.calls (k : Nat) (a0 : Int) (a1 : Int) (a2 : ByteArray) (r1 : ByteArray) (r2 : Int) (w : World) (HGg : Glob w) (h : tollhouseref06_PutStatus.f k a0 a1 a2 = some (r1, r2)) :
    Calls Tryd.prog 15 #[.int .i64 a0, .int .i64 a1, .string a2] w fun e w' => e = .returned (.tuple #[.string r1, .int .i64 r2]) ∧ Below w.heap.size w w' := by
  have HGl := Aside0.mk HGg
  clear HGg
  have HB := Aside0.mk (Below.refl w.heap.size w)
  have H : (if a0 = 0 then (if a1 < 100 then (tollhouseref06_PutStatus.j0 k a0 a1 a2 true) else (tollhouseref06_PutStatus.j0 k a0 a1 a2 (decide (a1 > 599)))) else (if a0 = 1 then (if a1 < 100 then (tollhouseref06_PutStatus.j0 k a0 a1 a2 true) else (tollhouseref06_PutStatus.j0 k a0 a1 a2 (decide (a1 > 599)))) else (tollhouseref06_PutStatus.j0 k a0 a1 a2 true))) = some (r1, r2) := h
  clear h
  have HC4 := Aside0.mk H
  clear H
  go_enter Tryd.func15, Tryd.ntmps15
  go_upto_region 1 with (fail)
  go_cut [27] (fun v27 wc => ∃ (kq : Nat) (x27_3 : Bool), v27 = .bool x27_3 ∧ Aside0 (tollhouseref06_PutStatus.j0 kq a0 a1 a2 x27_3 = some (r1, r2)) ∧ Aside0 (kq ≤ k) ∧ Aside0 (Below w.heap.size w wc))
  case first =>
    have H := HC4.out
    clear HC4
    by_cases c5 : a0 = 0
    · rw [if_pos c5] at H
      have c5b0 : (a0 == 0) = true := beq_iff_eq.mpr c5
      have c5b1 : (a0 != 0) = false := bne_eq_false_iff_eq.mpr c5
      clear c5
      (first | rw [c5b0] | (simp only [i64_w, i32_w]; rw [c5b0]) | skip)
      by_cases c6 : a1 < 100
      · rw [if_pos c6] at H
        have c6b0 : decide (a1 < 100) = true := decide_eq_true c6
        clear c6
        have H' := Aside0.mk H
        clear H
        go_wp2
        go_meet
        case rel => exact ⟨_, (true), (by first | rfl | (simp; done) | (simp [*]; done)), H', ⟨by first | omega | exact Nat.le_refl _⟩, ⟨by repeat (first | (with_reducible first | exact HB.out | apply below_alloc | apply pw_below_drewN | apply below_drew1) | exact HB.out)⟩⟩
      · rw [if_neg c6] at H
        have c6b0 : decide (a1 < 100) = false := decide_eq_false c6
        clear c6
        have H' := Aside0.mk H
        clear H
        go_wp2
        go_meet
        case rel => exact ⟨_, (decide (a1 > 599)), (by first | rfl | (simp; done) | (simp [*]; done)), H', ⟨by first | omega | exact Nat.le_refl _⟩, ⟨by repeat (first | (with_reducible first | exact HB.out | apply below_alloc | apply pw_below_drewN | apply below_drew1) | exact HB.out)⟩⟩
    · rw [if_neg c5] at H
      have c5b0 : (a0 == 0) = false := beq_eq_false_iff_ne.mpr c5
      have c5b1 : (a0 != 0) = true := bne_iff_ne.mpr c5
      (first | rw [c5b0] | (simp only [i64_w, i32_w]; rw [c5b0]) | skip)
      by_cases c7 : a0 = 1
      · rw [if_pos c7] at H
        have c7b0 : (a0 == 1) = true := beq_iff_eq.mpr c7
        have c7b1 : (a0 != 1) = false := bne_eq_false_iff_eq.mpr c7
        clear c7
        by_cases c8 : a1 < 100
        · rw [if_pos c8] at H
          have c8b0 : decide (a1 < 100) = true := decide_eq_true c8
          clear c8
          have H' := Aside0.mk H
          clear H
          go_wp2
          go_meet
          case rel => exact ⟨_, (true), (by first | rfl | (simp; done) | (simp [*]; done)), H', ⟨by first | omega | exact Nat.le_refl _⟩, ⟨by repeat (first | (with_reducible first | exact HB.out | apply below_alloc | apply pw_below_drewN | apply below_drew1) | exact HB.out)⟩⟩
        · rw [if_neg c8] at H
          have c8b0 : decide (a1 < 100) = false := decide_eq_false c8
          clear c8
          have H' := Aside0.mk H
          clear H
          go_wp2
          go_meet
          case rel => exact ⟨_, (decide (a1 > 599)), (by first | rfl | (simp; done) | (simp [*]; done)), H', ⟨by first | omega | exact Nat.le_refl _⟩, ⟨by repeat (first | (with_reducible first | exact HB.out | apply below_alloc | apply pw_below_drewN | apply below_drew1) | exact HB.out)⟩⟩
      · rw [if_neg c7] at H
        have c7b0 : (a0 == 1) = false := beq_eq_false_iff_ne.mpr c7
        have c7b1 : (a0 != 1) = true := bne_iff_ne.mpr c7
        have H' := Aside0.mk H
        clear H
        go_wp2
        go_meet
        case rel => exact ⟨_, (true), (by first | rfl | (simp; done) | (simp [*]; done)), H', ⟨by first | omega | exact Nat.le_refl _⟩, ⟨by repeat (first | (with_reducible first | exact HB.out | apply below_alloc | apply pw_below_drewN | apply below_drew1) | exact HB.out)⟩⟩
  case rest =>
    clear HC4
    try clear c1
    try clear p2
    try clear c5
    try clear c5b0
    try clear c5b1
    try clear c6
    try clear c6b0
    try clear c7
    try clear c7b0
    try clear c7b1
    try clear c8
    try clear c8b0
    obtain ⟨kq, x27_3, rfl, HA, HJ3, HB⟩ := hcut
    cases kq with
    | zero => exact absurd HA.out (by simp [tollhouseref06_PutStatus.j0])
    | succ kj3 =>
      have H := HA.out
      clear HA
      simp only [tollhouseref06_PutStatus.j0] at H
      by_cases c9 : x27_3 = true
      · subst c9
        have H1 : (some ((⟨#[]⟩ : ByteArray), 1)) = some (r1, r2) := by rw [if_pos rfl] at H; exact H
        clear H
        have H := H1
        clear H1
        simp only [Option.some.injEq, Prod.mk.injEq] at H
        obtain ⟨rfl, rfl⟩ := H
        go_wp2
        go_ret2
        exact ⟨by first | rfl | (simp [errW_none, errW_some] <;> rfl) | (simp [*, errW_none, errW_some] <;> rfl), by repeat (first | (with_reducible first | exact HB.out | apply below_alloc | apply pw_below_drewN | apply below_drew1) | exact HB.out)⟩
      · replace c9 := Bool.eq_false_iff.mpr c9
        subst c9
        have H1 : ((some (([(wrap64 (48 + (wrap64 (Int.tdiv a1 100)))) % 256, (wrap64 (48 + (Int.tmod (wrap64 (Int.tdiv a1 10)) 10))) % 256, (wrap64 (48 + (Int.tmod a1 10))) % 256] : List Int) : List Int)).bind fun y172 => ((some (([(wrap64 (48 + a0)) % 256] : List Int) : List Int)).bind fun y175 => (if 7 + (strOfNums y175).size ≤ 9223372036854775807 then (if ((⟨#[72, 84, 84, 80, 47, 49, 46]⟩ : ByteArray) ++ (strOfNums y175)).size + 1 ≤ 9223372036854775807 then (if (((⟨#[72, 84, 84, 80, 47, 49, 46]⟩ : ByteArray) ++ (strOfNums y175)) ++ (⟨#[32]⟩ : ByteArray)).size + (strOfNums y172).size ≤ 9223372036854775807 then (if ((((⟨#[72, 84, 84, 80, 47, 49, 46]⟩ : ByteArray) ++ (strOfNums y175)) ++ (⟨#[32]⟩ : ByteArray)) ++ (strOfNums y172)).size + 1 ≤ 9223372036854775807 then (if (((((⟨#[72, 84, 84, 80, 47, 49, 46]⟩ : ByteArray) ++ (strOfNums y175)) ++ (⟨#[32]⟩ : ByteArray)) ++ (strOfNums y172)) ++ (⟨#[32]⟩ : ByteArray)).size + a2.size ≤ 9223372036854775807 then ((tollhouseref06_Status.f kj3 ((((((⟨#[72, 84, 84, 80, 47, 49, 46]⟩ : ByteArray) ++ (strOfNums y175)) ++ (⟨#[32]⟩ : ByteArray)) ++ (strOfNums y172)) ++ (⟨#[32]⟩ : ByteArray)) ++ a2)).bind fun bt178 => (if bt178.2.2.2 = 0 then (some ((((((⟨#[72, 84, 84, 80, 47, 49, 46]⟩ : ByteArray) ++ (strOfNums y175)) ++ (⟨#[32]⟩ : ByteArray)) ++ (strOfNums y172)) ++ (⟨#[32]⟩ : ByteArray)) ++ a2, 0)) else (some ((⟨#[]⟩ : ByteArray), 1)))) else (none)) else (none)) else (none)) else (none)) else (none)))) = some (r1, r2) := by rw [if_neg (show ¬ (false = true) by decide)] at H; exact H
        clear H
        have H := H1
        clear H1
        obtain ⟨y172, hy172⟩ : ∃ y_ : List Int, y_ = (([(wrap64 (48 + (wrap64 (Int.tdiv a1 100)))) % 256, (wrap64 (48 + (Int.tmod (wrap64 (Int.tdiv a1 10)) 10))) % 256, (wrap64 (48 + (Int.tmod a1 10))) % 256] : List Int)) := ⟨_, rfl⟩
        replace H : ((some (([(wrap64 (48 + a0)) % 256] : List Int) : List Int)).bind fun y175 => (if 7 + (strOfNums y175).size ≤ 9223372036854775807 then (if ((⟨#[72, 84, 84, 80, 47, 49, 46]⟩ : ByteArray) ++ (strOfNums y175)).size + 1 ≤ 9223372036854775807 then (if (((⟨#[72, 84, 84, 80, 47, 49, 46]⟩ : ByteArray) ++ (strOfNums y175)) ++ (⟨#[32]⟩ : ByteArray)).size + (strOfNums y172).size ≤ 9223372036854775807 then (if ((((⟨#[72, 84, 84, 80, 47, 49, 46]⟩ : ByteArray) ++ (strOfNums y175)) ++ (⟨#[32]⟩ : ByteArray)) ++ (strOfNums y172)).size + 1 ≤ 9223372036854775807 then (if (((((⟨#[72, 84, 84, 80, 47, 49, 46]⟩ : ByteArray) ++ (strOfNums y175)) ++ (⟨#[32]⟩ : ByteArray)) ++ (strOfNums y172)) ++ (⟨#[32]⟩ : ByteArray)).size + a2.size ≤ 9223372036854775807 then ((tollhouseref06_Status.f kj3 ((((((⟨#[72, 84, 84, 80, 47, 49, 46]⟩ : ByteArray) ++ (strOfNums y175)) ++ (⟨#[32]⟩ : ByteArray)) ++ (strOfNums y172)) ++ (⟨#[32]⟩ : ByteArray)) ++ a2)).bind fun bt178 => (if bt178.2.2.2 = 0 then (some ((((((⟨#[72, 84, 84, 80, 47, 49, 46]⟩ : ByteArray) ++ (strOfNums y175)) ++ (⟨#[32]⟩ : ByteArray)) ++ (strOfNums y172)) ++ (⟨#[32]⟩ : ByteArray)) ++ a2, 0)) else (some ((⟨#[]⟩ : ByteArray), 1)))) else (none)) else (none)) else (none)) else (none)) else (none))) = some (r1, r2) := by first | (rw [hy172]; with_reducible exact H) | (have H2_ := (Option.bind_some _ _).symm.trans H; rw [hy172]; with_reducible exact H2_) | (have H2_ := (Option.bind_some _ _).symm.trans H; with_reducible exact H2_) | with_reducible exact H | (rw [hy172]; exact H) | exact H
        have Ny172 := Aside0.mk hy172
        clear hy172
        obtain ⟨y175, hy175⟩ : ∃ y_ : List Int, y_ = (([(wrap64 (48 + a0)) % 256] : List Int)) := ⟨_, rfl⟩
        replace H : (if 7 + (strOfNums y175).size ≤ 9223372036854775807 then (if ((⟨#[72, 84, 84, 80, 47, 49, 46]⟩ : ByteArray) ++ (strOfNums y175)).size + 1 ≤ 9223372036854775807 then (if (((⟨#[72, 84, 84, 80, 47, 49, 46]⟩ : ByteArray) ++ (strOfNums y175)) ++ (⟨#[32]⟩ : ByteArray)).size + (strOfNums y172).size ≤ 9223372036854775807 then (if ((((⟨#[72, 84, 84, 80, 47, 49, 46]⟩ : ByteArray) ++ (strOfNums y175)) ++ (⟨#[32]⟩ : ByteArray)) ++ (strOfNums y172)).size + 1 ≤ 9223372036854775807 then (if (((((⟨#[72, 84, 84, 80, 47, 49, 46]⟩ : ByteArray) ++ (strOfNums y175)) ++ (⟨#[32]⟩ : ByteArray)) ++ (strOfNums y172)) ++ (⟨#[32]⟩ : ByteArray)).size + a2.size ≤ 9223372036854775807 then ((tollhouseref06_Status.f kj3 ((((((⟨#[72, 84, 84, 80, 47, 49, 46]⟩ : ByteArray) ++ (strOfNums y175)) ++ (⟨#[32]⟩ : ByteArray)) ++ (strOfNums y172)) ++ (⟨#[32]⟩ : ByteArray)) ++ a2)).bind fun bt178 => (if bt178.2.2.2 = 0 then (some ((((((⟨#[72, 84, 84, 80, 47, 49, 46]⟩ : ByteArray) ++ (strOfNums y175)) ++ (⟨#[32]⟩ : ByteArray)) ++ (strOfNums y172)) ++ (⟨#[32]⟩ : ByteArray)) ++ a2, 0)) else (some ((⟨#[]⟩ : ByteArray), 1)))) else (none)) else (none)) else (none)) else (none)) else (none)) = some (r1, r2) := by first | (rw [hy175]; with_reducible exact H) | (have H2_ := (Option.bind_some _ _).symm.trans H; rw [hy175]; with_reducible exact H2_) | (have H2_ := (Option.bind_some _ _).symm.trans H; with_reducible exact H2_) | with_reducible exact H | (rw [hy175]; exact H) | exact H
        have Ny175 := Aside0.mk hy175
        clear hy175
        by_cases c10 : 7 + (strOfNums y175).size ≤ 9223372036854775807
        · rw [if_pos c10] at H
          have c10b0 := eq_true c10
          have c10b1 : decide (7 + (strOfNums y175).size ≤ 9223372036854775807) = true := decide_eq_true c10
          try have c10b2 : (9223372036854775807 < 7 + (strOfNums y175).size) = False := eq_false (Nat.not_lt.2 c10)
          by_cases c11 : ((⟨#[72, 84, 84, 80, 47, 49, 46]⟩ : ByteArray) ++ (strOfNums y175)).size + 1 ≤ 9223372036854775807
          · rw [if_pos c11] at H
            have c11b0 := eq_true c11
            have c11b1 : decide (((⟨#[72, 84, 84, 80, 47, 49, 46]⟩ : ByteArray) ++ (strOfNums y175)).size + 1 ≤ 9223372036854775807) = true := decide_eq_true c11
            try have c11b3 : (9223372036854775807 < 7 + (strOfNums y175).size + 1) = False := eq_false (Nat.not_lt.2 (by have hq_ := c11; simp only [ByteArray.size_append] at hq_; first | exact hq_ | (simp at hq_; omega)))
            try have c11b2 : (9223372036854775807 < ((⟨#[72, 84, 84, 80, 47, 49, 46]⟩ : ByteArray) ++ (strOfNums y175)).size + 1) = False := eq_false (Nat.not_lt.2 c11)
            by_cases c12 : (((⟨#[72, 84, 84, 80, 47, 49, 46]⟩ : ByteArray) ++ (strOfNums y175)) ++ (⟨#[32]⟩ : ByteArray)).size + (strOfNums y172).size ≤ 9223372036854775807
            · rw [if_pos c12] at H
              have c12b0 := eq_true c12
              have c12b1 : decide ((((⟨#[72, 84, 84, 80, 47, 49, 46]⟩ : ByteArray) ++ (strOfNums y175)) ++ (⟨#[32]⟩ : ByteArray)).size + (strOfNums y172).size ≤ 9223372036854775807) = true := decide_eq_true c12
              try have c12b3 : (9223372036854775807 < 7 + (strOfNums y175).size + 1 + (strOfNums y172).size) = False := eq_false (Nat.not_lt.2 (by have hq_ := c12; simp only [ByteArray.size_append] at hq_; first | exact hq_ | (simp at hq_; omega)))
              try have c12b2 : (9223372036854775807 < (((⟨#[72, 84, 84, 80, 47, 49, 46]⟩ : ByteArray) ++ (strOfNums y175)) ++ (⟨#[32]⟩ : ByteArray)).size + (strOfNums y172).size) = False := eq_false (Nat.not_lt.2 c12)
              by_cases c13 : ((((⟨#[72, 84, 84, 80, 47, 49, 46]⟩ : ByteArray) ++ (strOfNums y175)) ++ (⟨#[32]⟩ : ByteArray)) ++ (strOfNums y172)).size + 1 ≤ 9223372036854775807
              · rw [if_pos c13] at H
                have c13b0 := eq_true c13
                have c13b1 : decide (((((⟨#[72, 84, 84, 80, 47, 49, 46]⟩ : ByteArray) ++ (strOfNums y175)) ++ (⟨#[32]⟩ : ByteArray)) ++ (strOfNums y172)).size + 1 ≤ 9223372036854775807) = true := decide_eq_true c13
                try have c13b3 : (9223372036854775807 < 7 + (strOfNums y175).size + 1 + (strOfNums y172).size + 1) = False := eq_false (Nat.not_lt.2 (by have hq_ := c13; simp only [ByteArray.size_append] at hq_; first | exact hq_ | (simp at hq_; omega)))
                try have c13b2 : (9223372036854775807 < ((((⟨#[72, 84, 84, 80, 47, 49, 46]⟩ : ByteArray) ++ (strOfNums y175)) ++ (⟨#[32]⟩ : ByteArray)) ++ (strOfNums y172)).size + 1) = False := eq_false (Nat.not_lt.2 c13)
                by_cases c14 : (((((⟨#[72, 84, 84, 80, 47, 49, 46]⟩ : ByteArray) ++ (strOfNums y175)) ++ (⟨#[32]⟩ : ByteArray)) ++ (strOfNums y172)) ++ (⟨#[32]⟩ : ByteArray)).size + a2.size ≤ 9223372036854775807
                · rw [if_pos c14] at H
                  have c14b0 := eq_true c14
                  have c14b1 : decide ((((((⟨#[72, 84, 84, 80, 47, 49, 46]⟩ : ByteArray) ++ (strOfNums y175)) ++ (⟨#[32]⟩ : ByteArray)) ++ (strOfNums y172)) ++ (⟨#[32]⟩ : ByteArray)).size + a2.size ≤ 9223372036854775807) = true := decide_eq_true c14
                  try have c14b3 : (9223372036854775807 < 7 + (strOfNums y175).size + 1 + (strOfNums y172).size + 1 + a2.size) = False := eq_false (Nat.not_lt.2 (by have hq_ := c14; simp only [ByteArray.size_append] at hq_; first | exact hq_ | (simp at hq_; omega)))
                  try have c14b2 : (9223372036854775807 < (((((⟨#[72, 84, 84, 80, 47, 49, 46]⟩ : ByteArray) ++ (strOfNums y175)) ++ (⟨#[32]⟩ : ByteArray)) ++ (strOfNums y172)) ++ (⟨#[32]⟩ : ByteArray)).size + a2.size) = False := eq_false (Nat.not_lt.2 c14)
                  replace H := Option.bind_eq_some_iff.mp H
                  obtain ⟨⟨t178, t179, t180, t181⟩, A150, H⟩ := H
                  replace H : (if t181 = 0 then (some ((((((⟨#[72, 84, 84, 80, 47, 49, 46]⟩ : ByteArray) ++ (strOfNums y175)) ++ (⟨#[32]⟩ : ByteArray)) ++ (strOfNums y172)) ++ (⟨#[32]⟩ : ByteArray)) ++ a2, 0)) else (some ((⟨#[]⟩ : ByteArray), 1))) = some (r1, r2) := H
                  have A15 := Aside0.mk A150
                  clear A150
                  by_cases c16 : t181 = 0
                  · rw [if_pos c16] at H
                    have c16b0 : (t181 == 0) = true := beq_iff_eq.mpr c16
                    have c16b1 : (t181 != 0) = false := bne_eq_false_iff_eq.mpr c16
                    clear c16
                    simp only [Option.some.injEq, Prod.mk.injEq] at H
                    obtain ⟨rfl, rfl⟩ := H
                    go_wp2_with (first | ((with_reducible refine gate_dst (N := 41) rfl ?_); refine Kd.R_lit (Kd.int .u8) _ 5 ?hg (N := 41) ?hd (xs := ([(wrap64 (48 + (wrap64 (Int.tdiv a1 100)))) % 256, (wrap64 (48 + (Int.tmod (wrap64 (Int.tdiv a1 10)) 10))) % 256, (wrap64 (48 + (Int.tmod a1 10))) % 256] : List Int)) (inner := [.int .u8 ((wrap64 (48 + (wrap64 (Int.tdiv a1 100)))) % 256), .int .u8 ((wrap64 (48 + (Int.tmod (wrap64 (Int.tdiv a1 10)) 10))) % 256), .int .u8 ((wrap64 (48 + (Int.tmod a1 10))) % 256)]) (ok := fun _ => True) (okp := fun _ => True) ?hr ?hp (fun _ hk => hk) trivial (Below.refl _ _) (Nat.le_refl _) (by simp) ?_; (case hd => rfl); (case hg => rfl); (case hr => first | (go_simp; done) | (go_simp; rfl)); (case hp => exact (Reps.one (show Kd.M (Kd.int .u8) _ _ _ ((wrap64 (48 + (wrap64 (Int.tdiv a1 100)))) % 256) [.int .u8 ((wrap64 (48 + (wrap64 (Int.tdiv a1 100)))) % 256)] from rfl) (Reps.one (show Kd.M (Kd.int .u8) _ _ _ ((wrap64 (48 + (Int.tmod (wrap64 (Int.tdiv a1 10)) 10))) % 256) [.int .u8 ((wrap64 (48 + (Int.tmod (wrap64 (Int.tdiv a1 10)) 10))) % 256)] from rfl) (Reps.one (show Kd.M (Kd.int .u8) _ _ _ ((wrap64 (48 + (Int.tmod a1 10))) % 256) [.int .u8 ((wrap64 (48 + (Int.tmod a1 10))) % 256)] from rfl) (Reps.none _ _))))); intro v173 w17 ho18 hb hg_ hnew_; clear hg_ hnew_; (first | rw [← Ny172.out] at ho18 | (simp only [Int.reduceToNat] at ho18; rw [← Ny172.out] at ho18)); have n0_ := Aside0.mk (Kd.R_lower ho18 (below_size (by repeat (first | (with_reducible first | exact HB.out | apply below_alloc | apply pw_below_drewN | apply below_drew1) | exact HB.out)))); have n1_ := Aside0.mk (below_step (by repeat (first | (with_reducible first | exact HB.out | apply below_alloc | apply pw_below_drewN | apply below_drew1) | exact HB.out)) hb); clear HB; have HO174 := n0_; have HB := n1_; clear n0_ n1_; clear hb ho18) | ((with_reducible refine gate_dst (N := 45) rfl ?_); refine Kd.R_lit (Kd.int .u8) _ 5 ?hg (N := 45) ?hd (xs := ([(wrap64 (48 + a0)) % 256] : List Int)) (inner := [.int .u8 ((wrap64 (48 + a0)) % 256)]) (ok := fun _ => True) (okp := fun _ => True) ?hr ?hp (fun _ hk => hk) trivial (Below.refl _ _) (Nat.le_refl _) (by simp) ?_; (case hd => rfl); (case hg => rfl); (case hr => first | (go_simp; done) | (go_simp; rfl)); (case hp => exact (Reps.one (show Kd.M (Kd.int .u8) _ _ _ ((wrap64 (48 + a0)) % 256) [.int .u8 ((wrap64 (48 + a0)) % 256)] from rfl) (Reps.none _ _))); intro v176 w19 ho20 hb hg_ hnew_; clear hg_ hnew_; (first | rw [← Ny175.out] at ho20 | (simp only [Int.reduceToNat] at ho20; rw [← Ny175.out] at ho20)); have n0_ := Aside0.mk (Kd.R_elder' (by (with_reducible repeat (first | apply Kd.R_alloc | apply Kd.R_drewN | apply Kd.R_drew)); exact HO174.out) (Kd.R_base ho20) hb); have n1_ := Aside0.mk (Kd.R_lower (Kd.R_new' ho20 (Kd.R_lt (by (with_reducible repeat (first | apply Kd.R_alloc | apply Kd.R_drewN | apply Kd.R_drew)); exact HO174.out))) (below_size (by repeat (first | (with_reducible first | exact HB.out | apply below_alloc | apply pw_below_drewN | apply below_drew1) | exact HB.out)))); have n2_ := Aside0.mk (below_step (by repeat (first | (with_reducible first | exact HB.out | apply below_alloc | apply pw_below_drewN | apply below_drew1) | exact HB.out)) hb); clear HO174; clear HB; have HO174 := n0_; have HO177 := n1_; have HB := n2_; clear n0_ n1_ n2_; clear hb ho20; have hcv21 := own_string (P := Tryd.prog) Tryd.underlying49 Tryd.underlying5 Tryd.underlying9 (Kd.own_of_R HO177.out); have hcv22 := own_string (P := Tryd.prog) Tryd.underlying49 Tryd.underlying5 Tryd.underlying9 (Kd.own_of_R HO174.out)) | ((with_reducible refine gate_callee (f := 13) rfl ?_); refine goesL_ (some 57) rfl rfl Tryd.func13 (by kernel_rfl) rfl #[.string ((((((⟨#[72, 84, 84, 80, 47, 49, 46]⟩ : ByteArray) ++ (strOfNums y175)) ++ (⟨#[32]⟩ : ByteArray)) ++ (strOfNums y172)) ++ (⟨#[32]⟩ : ByteArray)) ++ a2)] rfl (by (try simp only [List.map_toArray, List.map_cons, List.map_nil]); first | done | rfl | (simp only [List.length_drop, List.length_take]; rfl)) ?_; (with_reducible refine (tollhouseref06_Status.calls kj3 ((((((⟨#[72, 84, 84, 80, 47, 49, 46]⟩ : ByteArray) ++ (strOfNums y175)) ++ (⟨#[32]⟩ : ByteArray)) ++ (strOfNums y172)) ++ (⟨#[32]⟩ : ByteArray)) ++ a2) t178 t179 t180 t181 _ (Glob.below HGl.out (by repeat (first | (with_reducible first | exact HB.out | apply below_alloc | apply pw_below_drewN | apply below_drew1) | exact HB.out))) A15.out).mono ?_); rintro e w' ⟨rfl, ⟨nd, rfl⟩⟩; refine ⟨_, rfl, ?_⟩))
                    go_ret2
                    exact ⟨by first | rfl | (simp [errW_none, errW_some] <;> rfl) | (simp [*, errW_none, errW_some] <;> rfl), by repeat (first | (with_reducible first | exact HB.out | apply below_alloc | apply pw_below_drewN | apply below_drew1) | exact HB.out)⟩
                  · rw [if_neg c16] at H
                    have c16b0 : (t181 == 0) = false := beq_eq_false_iff_ne.mpr c16
                    have c16b1 : (t181 != 0) = true := bne_iff_ne.mpr c16
                    simp only [Option.some.injEq, Prod.mk.injEq] at H
                    obtain ⟨rfl, rfl⟩ := H
                    go_wp2_with (first | ((with_reducible refine gate_dst (N := 41) rfl ?_); refine Kd.R_lit (Kd.int .u8) _ 5 ?hg (N := 41) ?hd (xs := ([(wrap64 (48 + (wrap64 (Int.tdiv a1 100)))) % 256, (wrap64 (48 + (Int.tmod (wrap64 (Int.tdiv a1 10)) 10))) % 256, (wrap64 (48 + (Int.tmod a1 10))) % 256] : List Int)) (inner := [.int .u8 ((wrap64 (48 + (wrap64 (Int.tdiv a1 100)))) % 256), .int .u8 ((wrap64 (48 + (Int.tmod (wrap64 (Int.tdiv a1 10)) 10))) % 256), .int .u8 ((wrap64 (48 + (Int.tmod a1 10))) % 256)]) (ok := fun _ => True) (okp := fun _ => True) ?hr ?hp (fun _ hk => hk) trivial (Below.refl _ _) (Nat.le_refl _) (by simp) ?_; (case hd => rfl); (case hg => rfl); (case hr => first | (go_simp; done) | (go_simp; rfl)); (case hp => exact (Reps.one (show Kd.M (Kd.int .u8) _ _ _ ((wrap64 (48 + (wrap64 (Int.tdiv a1 100)))) % 256) [.int .u8 ((wrap64 (48 + (wrap64 (Int.tdiv a1 100)))) % 256)] from rfl) (Reps.one (show Kd.M (Kd.int .u8) _ _ _ ((wrap64 (48 + (Int.tmod (wrap64 (Int.tdiv a1 10)) 10))) % 256) [.int .u8 ((wrap64 (48 + (Int.tmod (wrap64 (Int.tdiv a1 10)) 10))) % 256)] from rfl) (Reps.one (show Kd.M (Kd.int .u8) _ _ _ ((wrap64 (48 + (Int.tmod a1 10))) % 256) [.int .u8 ((wrap64 (48 + (Int.tmod a1 10))) % 256)] from rfl) (Reps.none _ _))))); intro v173 w23 ho24 hb hg_ hnew_; clear hg_ hnew_; (first | rw [← Ny172.out] at ho24 | (simp only [Int.reduceToNat] at ho24; rw [← Ny172.out] at ho24)); have n0_ := Aside0.mk (Kd.R_lower ho24 (below_size (by repeat (first | (with_reducible first | exact HB.out | apply below_alloc | apply pw_below_drewN | apply below_drew1) | exact HB.out)))); have n1_ := Aside0.mk (below_step (by repeat (first | (with_reducible first | exact HB.out | apply below_alloc | apply pw_below_drewN | apply below_drew1) | exact HB.out)) hb); clear HB; have HO174 := n0_; have HB := n1_; clear n0_ n1_; clear hb ho24) | ((with_reducible refine gate_dst (N := 45) rfl ?_); refine Kd.R_lit (Kd.int .u8) _ 5 ?hg (N := 45) ?hd (xs := ([(wrap64 (48 + a0)) % 256] : List Int)) (inner := [.int .u8 ((wrap64 (48 + a0)) % 256)]) (ok := fun _ => True) (okp := fun _ => True) ?hr ?hp (fun _ hk => hk) trivial (Below.refl _ _) (Nat.le_refl _) (by simp) ?_; (case hd => rfl); (case hg => rfl); (case hr => first | (go_simp; done) | (go_simp; rfl)); (case hp => exact (Reps.one (show Kd.M (Kd.int .u8) _ _ _ ((wrap64 (48 + a0)) % 256) [.int .u8 ((wrap64 (48 + a0)) % 256)] from rfl) (Reps.none _ _))); intro v176 w25 ho26 hb hg_ hnew_; clear hg_ hnew_; (first | rw [← Ny175.out] at ho26 | (simp only [Int.reduceToNat] at ho26; rw [← Ny175.out] at ho26)); have n0_ := Aside0.mk (Kd.R_elder' (by (with_reducible repeat (first | apply Kd.R_alloc | apply Kd.R_drewN | apply Kd.R_drew)); exact HO174.out) (Kd.R_base ho26) hb); have n1_ := Aside0.mk (Kd.R_lower (Kd.R_new' ho26 (Kd.R_lt (by (with_reducible repeat (first | apply Kd.R_alloc | apply Kd.R_drewN | apply Kd.R_drew)); exact HO174.out))) (below_size (by repeat (first | (with_reducible first | exact HB.out | apply below_alloc | apply pw_below_drewN | apply below_drew1) | exact HB.out)))); have n2_ := Aside0.mk (below_step (by repeat (first | (with_reducible first | exact HB.out | apply below_alloc | apply pw_below_drewN | apply below_drew1) | exact HB.out)) hb); clear HO174; clear HB; have HO174 := n0_; have HO177 := n1_; have HB := n2_; clear n0_ n1_ n2_; clear hb ho26; have hcv27 := own_string (P := Tryd.prog) Tryd.underlying49 Tryd.underlying5 Tryd.underlying9 (Kd.own_of_R HO177.out); have hcv28 := own_string (P := Tryd.prog) Tryd.underlying49 Tryd.underlying5 Tryd.underlying9 (Kd.own_of_R HO174.out)) | ((with_reducible refine gate_callee (f := 13) rfl ?_); refine goesL_ (some 57) rfl rfl Tryd.func13 (by kernel_rfl) rfl #[.string ((((((⟨#[72, 84, 84, 80, 47, 49, 46]⟩ : ByteArray) ++ (strOfNums y175)) ++ (⟨#[32]⟩ : ByteArray)) ++ (strOfNums y172)) ++ (⟨#[32]⟩ : ByteArray)) ++ a2)] rfl (by (try simp only [List.map_toArray, List.map_cons, List.map_nil]); first | done | rfl | (simp only [List.length_drop, List.length_take]; rfl)) ?_; (with_reducible refine (tollhouseref06_Status.calls kj3 ((((((⟨#[72, 84, 84, 80, 47, 49, 46]⟩ : ByteArray) ++ (strOfNums y175)) ++ (⟨#[32]⟩ : ByteArray)) ++ (strOfNums y172)) ++ (⟨#[32]⟩ : ByteArray)) ++ a2) t178 t179 t180 t181 _ (Glob.below HGl.out (by repeat (first | (with_reducible first | exact HB.out | apply below_alloc | apply pw_below_drewN | apply below_drew1) | exact HB.out))) A15.out).mono ?_); rintro e w' ⟨rfl, ⟨nd, rfl⟩⟩; refine ⟨_, rfl, ?_⟩))
                    go_ret2
                    exact ⟨by first | rfl | (simp [errW_none, errW_some] <;> rfl) | (simp [*, errW_none, errW_some] <;> rfl), by repeat (first | (with_reducible first | exact HB.out | apply below_alloc | apply pw_below_drewN | apply below_drew1) | exact HB.out)⟩
                · rw [if_neg c14] at H
                  exact absurd H (by simp)
              · rw [if_neg c13] at H
                exact absurd H (by simp)
            · rw [if_neg c12] at H
              exact absurd H (by simp)
          · rw [if_neg c11] at H
            exact absurd H (by simp)
        · rw [if_neg c10] at H
          exact absurd H (by simp)

end Go.Proofs.YtpoljchfgdnmbaaDoor.X

-- PRINTED by print.py (a twelfth state) out of the translation. Not trusted: Lean checks it.
namespace Go.Proofs.YtpoljchfgdnmbaaDoor.X
open Go.RowKit Go.Proofs.YtpoljchfgdnmbaaDoorW.PrintWords Go.Proofs.YtpoljchfgdnmbaaDoorW.PrintLast Go.Proofs.YtpoljchfgdnmbaaDoorW.PrintMore
attribute [local go_sem] max2_int min2_int max_two min_two max_three min_three max_four min_four   -- for this text's walks alone
set_option linter.unusedVariables false
set_option linter.unusedSimpArgs false
open Go.Proofs.YtpoljchfgdnmbaaDoor.T

/-! ### tollhouseref06_Reason: function 17 -/
def tollhouseref06_Reason.f (a0 : Int) : Option (ByteArray) := if a0 = 200 then (some (⟨#[79, 75]⟩ : ByteArray)) else (if a0 = 304 then (some (⟨#[78, 111, 116, 32, 77, 111, 100, 105, 102, 105, 101, 100]⟩ : ByteArray)) else (if a0 = 400 then (some (⟨#[66, 97, 100, 32, 82, 101, 113, 117, 101, 115, 116]⟩ : ByteArray)) else (if a0 = 403 then (some (⟨#[70, 111, 114, 98, 105, 100, 100, 101, 110]⟩ : ByteArray)) else (if a0 = 407 then (some (⟨#[80, 114, 111, 120, 121, 32, 65, 117, 116, 104, 101, 110, 116, 105, 99, 97, 116, 105, 111, 110, 32, 82, 101, 113, 117, 105, 114, 101, 100]⟩ : ByteArray)) else (if a0 = 413 then (some (⟨#[67, 111, 110, 116, 101, 110, 116, 32, 84, 111, 111, 32, 76, 97, 114, 103, 101]⟩ : ByteArray)) else (if a0 = 429 then (some (⟨#[84, 111, 111, 32, 77, 97, 110, 121, 32, 82, 101, 113, 117, 101, 115, 116, 115]⟩ : ByteArray)) else (if a0 = 431 then (some (⟨#[82, 101, 113, 117, 101, 115, 116, 32, 72, 101, 97, 100, 101, 114, 32, 70, 105, 101, 108, 100, 115, 32, 84, 111, 111, 32, 76, 97, 114, 103, 101]⟩ : ByteArray)) else (if a0 = 501 then (some (⟨#[78, 111, 116, 32, 73, 109, 112, 108, 101, 109, 101, 110, 116, 101, 100]⟩ : ByteArray)) else (if a0 = 502 then (some (⟨#[66, 97, 100, 32, 71, 97, 116, 101, 119, 97, 121]⟩ : ByteArray)) else (if a0 = 503 then (some (⟨#[83, 101, 114, 118, 105, 99, 101, 32, 85, 110, 97, 118, 97, 105, 108, 97, 98, 108, 101]⟩ : ByteArray)) else (if a0 = 504 then (some (⟨#[71, 97, 116, 101, 119, 97, 121, 32, 84, 105, 109, 101, 111, 117, 116]⟩ : ByteArray)) else (some (⟨#[]⟩ : ByteArray)))))))))))))
set_option maxHeartbeats 8000000 in
set_option maxRecDepth 100000 in
theorem tollhouseref06_Reason.calls (a0 : Int) (r : ByteArray) (w : World) (HGg : Glob w) (h : tollhouseref06_Reason.f a0 = some r) :
    Calls Tryd.prog 17 #[.int .i64 a0] w fun e w' => e = .returned (.string r) ∧ Drawn0 w w' := by
  have HGl := Aside0.mk HGg
  clear HGg
  have H : (if a0 = 200 then (some (⟨#[79, 75]⟩ : ByteArray)) else (if a0 = 304 then (some (⟨#[78, 111, 116, 32, 77, 111, 100, 105, 102, 105, 101, 100]⟩ : ByteArray)) else (if a0 = 400 then (some (⟨#[66, 97, 100, 32, 82, 101, 113, 117, 101, 115, 116]⟩ : ByteArray)) else (if a0 = 403 then (some (⟨#[70, 111, 114, 98, 105, 100, 100, 101, 110]⟩ : ByteArray)) else (if a0 = 407 then (some (⟨#[80, 114, 111, 120, 121, 32, 65, 117, 116, 104, 101, 110, 116, 105, 99, 97, 116, 105, 111, 110, 32, 82, 101, 113, 117, 105, 114, 101, 100]⟩ : ByteArray)) else (if a0 = 413 then (some (⟨#[67, 111, 110, 116, 101, 110, 116, 32, 84, 111, 111, 32, 76, 97, 114, 103, 101]⟩ : ByteArray)) else (if a0 = 429 then (some (⟨#[84, 111, 111, 32, 77, 97, 110, 121, 32, 82, 101, 113, 117, 101, 115, 116, 115]⟩ : ByteArray)) else (if a0 = 431 then (some (⟨#[82, 101, 113, 117, 101, 115, 116, 32, 72, 101, 97, 100, 101, 114, 32, 70, 105, 101, 108, 100, 115, 32, 84, 111, 111, 32, 76, 97, 114, 103, 101]⟩ : ByteArray)) else (if a0 = 501 then (some (⟨#[78, 111, 116, 32, 73, 109, 112, 108, 101, 109, 101, 110, 116, 101, 100]⟩ : ByteArray)) else (if a0 = 502 then (some (⟨#[66, 97, 100, 32, 71, 97, 116, 101, 119, 97, 121]⟩ : ByteArray)) else (if a0 = 503 then (some (⟨#[83, 101, 114, 118, 105, 99, 101, 32, 85, 110, 97, 118, 97, 105, 108, 97, 98, 108, 101]⟩ : ByteArray)) else (if a0 = 504 then (some (⟨#[71, 97, 116, 101, 119, 97, 121, 32, 84, 105, 109, 101, 111, 117, 116]⟩ : ByteArray)) else (some (⟨#[]⟩ : ByteArray)))))))))))))) = some r := h
  clear h
  by_cases c2 : a0 = 200
  · rw [if_pos c2] at H
    have c2b0 : (a0 == 200) = true := beq_iff_eq.mpr c2
    have c2b1 : (a0 != 200) = false := bne_eq_false_iff_eq.mpr c2
    clear c2
    obtain rfl := Option.some.inj H
    go_enter Tryd.func17, Tryd.ntmps17
    go_wp2
    go_ret
    exact ⟨by first | rfl | (simp; done) | (simp [*]; done), by repeat (first | exact Drawn0.refl _ | apply Drawn0.step)⟩
  · rw [if_neg c2] at H
    have c2b0 : (a0 == 200) = false := beq_eq_false_iff_ne.mpr c2
    have c2b1 : (a0 != 200) = true := bne_iff_ne.mpr c2
    by_cases c3 : a0 = 304
    · rw [if_pos c3] at H
      have c3b0 : (a0 == 304) = true := beq_iff_eq.mpr c3
      have c3b1 : (a0 != 304) = false := bne_eq_false_iff_eq.mpr c3
      clear c3
      obtain rfl := Option.some.inj H
      go_enter Tryd.func17, Tryd.ntmps17
      go_wp2
      go_ret
      exact ⟨by first | rfl | (simp; done) | (simp [*]; done), by repeat (first | exact Drawn0.refl _ | apply Drawn0.step)⟩
    · rw [if_neg c3] at H
      have c3b0 : (a0 == 304) = false := beq_eq_false_iff_ne.mpr c3
      have c3b1 : (a0 != 304) = true := bne_iff_ne.mpr c3
      by_cases c4 : a0 = 400
      · rw [if_pos c4] at H
        have c4b0 : (a0 == 400) = true := beq_iff_eq.mpr c4
        have c4b1 : (a0 != 400) = false := bne_eq_false_iff_eq.mpr c4
        clear c4
        obtain rfl := Option.some.inj H
        go_enter Tryd.func17, Tryd.ntmps17
        go_wp2
        go_ret
        exact ⟨by first | rfl | (simp; done) | (simp [*]; done), by repeat (first | exact Drawn0.refl _ | apply Drawn0.step)⟩
      · rw [if_neg c4] at H
        have c4b0 : (a0 == 400) = false := beq_eq_false_iff_ne.mpr c4
        have c4b1 : (a0 != 400) = true := bne_iff_ne.mpr c4
        by_cases c5 : a0 = 403
        · rw [if_pos c5] at H
          have c5b0 : (a0 == 403) = true := beq_iff_eq.mpr c5
          have c5b1 : (a0 != 403) = false := bne_eq_false_iff_eq.mpr c5
          clear c5
          obtain rfl := Option.some.inj H
          go_enter Tryd.func17, Tryd.ntmps17
          go_wp2
          go_ret
          exact ⟨by first | rfl | (simp; done) | (simp [*]; done), by repeat (first | exact Drawn0.refl _ | apply Drawn0.step)⟩
        · rw [if_neg c5] at H
          have c5b0 : (a0 == 403) = false := beq_eq_false_iff_ne.mpr c5
          have c5b1 : (a0 != 403) = true := bne_iff_ne.mpr c5
          by_cases c6 : a0 = 407
          · rw [if_pos c6] at H
            have c6b0 : (a0 == 407) = true := beq_iff_eq.mpr c6
            have c6b1 : (a0 != 407) = false := bne_eq_false_iff_eq.mpr c6
            clear c6
            obtain rfl := Option.some.inj H
            go_enter Tryd.func17, Tryd.ntmps17
            go_wp2
            go_ret
            exact ⟨by first | rfl | (simp; done) | (simp [*]; done), by repeat (first | exact Drawn0.refl _ | apply Drawn0.step)⟩
          · rw [if_neg c6] at H
            have c6b0 : (a0 == 407) = false := beq_eq_false_iff_ne.mpr c6
            have c6b1 : (a0 != 407) = true := bne_iff_ne.mpr c6
            by_cases c7 : a0 = 413
            · rw [if_pos c7] at H
              have c7b0 : (a0 == 413) = true := beq_iff_eq.mpr c7
              have c7b1 : (a0 != 413) = false := bne_eq_false_iff_eq.mpr c7
              clear c7
              obtain rfl := Option.some.inj H
              go_enter Tryd.func17, Tryd.ntmps17
              go_wp2
              go_ret
              exact ⟨by first | rfl | (simp; done) | (simp [*]; done), by repeat (first | exact Drawn0.refl _ | apply Drawn0.step)⟩
            · rw [if_neg c7] at H
              have c7b0 : (a0 == 413) = false := beq_eq_false_iff_ne.mpr c7
              have c7b1 : (a0 != 413) = true := bne_iff_ne.mpr c7
              by_cases c8 : a0 = 429
              · rw [if_pos c8] at H
                have c8b0 : (a0 == 429) = true := beq_iff_eq.mpr c8
                have c8b1 : (a0 != 429) = false := bne_eq_false_iff_eq.mpr c8
                clear c8
                obtain rfl := Option.some.inj H
                go_enter Tryd.func17, Tryd.ntmps17
                go_wp2
                go_ret
                exact ⟨by first | rfl | (simp; done) | (simp [*]; done), by repeat (first | exact Drawn0.refl _ | apply Drawn0.step)⟩
              · rw [if_neg c8] at H
                have c8b0 : (a0 == 429) = false := beq_eq_false_iff_ne.mpr c8
                have c8b1 : (a0 != 429) = true := bne_iff_ne.mpr c8
                by_cases c9 : a0 = 431
                · rw [if_pos c9] at H
                  have c9b0 : (a0 == 431) = true := beq_iff_eq.mpr c9
                  have c9b1 : (a0 != 431) = false := bne_eq_false_iff_eq.mpr c9
                  clear c9
                  obtain rfl := Option.some.inj H
                  go_enter Tryd.func17, Tryd.ntmps17
                  go_wp2
                  go_ret
                  exact ⟨by first | rfl | (simp; done) | (simp [*]; done), by repeat (first | exact Drawn0.refl _ | apply Drawn0.step)⟩
                · rw [if_neg c9] at H
                  have c9b0 : (a0 == 431) = false := beq_eq_false_iff_ne.mpr c9
                  have c9b1 : (a0 != 431) = true := bne_iff_ne.mpr c9
                  by_cases c10 : a0 = 501
                  · rw [if_pos c10] at H
                    have c10b0 : (a0 == 501) = true := beq_iff_eq.mpr c10
                    have c10b1 : (a0 != 501) = false := bne_eq_false_iff_eq.mpr c10
                    clear c10
                    obtain rfl := Option.some.inj H
                    go_enter Tryd.func17, Tryd.ntmps17
                    go_wp2
                    go_ret
                    exact ⟨by first | rfl | (simp; done) | (simp [*]; done), by repeat (first | exact Drawn0.refl _ | apply Drawn0.step)⟩
                  · rw [if_neg c10] at H
                    have c10b0 : (a0 == 501) = false := beq_eq_false_iff_ne.mpr c10
                    have c10b1 : (a0 != 501) = true := bne_iff_ne.mpr c10
                    by_cases c11 : a0 = 502
                    · rw [if_pos c11] at H
                      have c11b0 : (a0 == 502) = true := beq_iff_eq.mpr c11
                      have c11b1 : (a0 != 502) = false := bne_eq_false_iff_eq.mpr c11
                      clear c11
                      obtain rfl := Option.some.inj H
                      go_enter Tryd.func17, Tryd.ntmps17
                      go_wp2
                      go_ret
                      exact ⟨by first | rfl | (simp; done) | (simp [*]; done), by repeat (first | exact Drawn0.refl _ | apply Drawn0.step)⟩
                    · rw [if_neg c11] at H
                      have c11b0 : (a0 == 502) = false := beq_eq_false_iff_ne.mpr c11
                      have c11b1 : (a0 != 502) = true := bne_iff_ne.mpr c11
                      by_cases c12 : a0 = 503
                      · rw [if_pos c12] at H
                        have c12b0 : (a0 == 503) = true := beq_iff_eq.mpr c12
                        have c12b1 : (a0 != 503) = false := bne_eq_false_iff_eq.mpr c12
                        clear c12
                        obtain rfl := Option.some.inj H
                        go_enter Tryd.func17, Tryd.ntmps17
                        go_wp2
                        go_ret
                        exact ⟨by first | rfl | (simp; done) | (simp [*]; done), by repeat (first | exact Drawn0.refl _ | apply Drawn0.step)⟩
                      · rw [if_neg c12] at H
                        have c12b0 : (a0 == 503) = false := beq_eq_false_iff_ne.mpr c12
                        have c12b1 : (a0 != 503) = true := bne_iff_ne.mpr c12
                        by_cases c13 : a0 = 504
                        · rw [if_pos c13] at H
                          have c13b0 : (a0 == 504) = true := beq_iff_eq.mpr c13
                          have c13b1 : (a0 != 504) = false := bne_eq_false_iff_eq.mpr c13
                          clear c13
                          obtain rfl := Option.some.inj H
                          go_enter Tryd.func17, Tryd.ntmps17
                          go_wp2
                          go_ret
                          exact ⟨by first | rfl | (simp; done) | (simp [*]; done), by repeat (first | exact Drawn0.refl _ | apply Drawn0.step)⟩
                        · rw [if_neg c13] at H
                          have c13b0 : (a0 == 504) = false := beq_eq_false_iff_ne.mpr c13
                          have c13b1 : (a0 != 504) = true := bne_iff_ne.mpr c13
                          obtain rfl := Option.some.inj H
                          go_enter Tryd.func17, Tryd.ntmps17
                          go_wp2
                          go_ret
                          exact ⟨by first | rfl | (simp; done) | (simp [*]; done), by repeat (first | exact Drawn0.refl _ | apply Drawn0.step)⟩

end Go.Proofs.YtpoljchfgdnmbaaDoor.X

-- PRINTED by print.py (a twelfth state) out of the translation. Not trusted: Lean checks it.
namespace Go.Proofs.YtpoljchfgdnmbaaDoor.X
open Go.RowKit Go.Proofs.YtpoljchfgdnmbaaDoorW.PrintWords Go.Proofs.YtpoljchfgdnmbaaDoorW.PrintLast Go.Proofs.YtpoljchfgdnmbaaDoorW.PrintMore
attribute [local go_sem] max2_int min2_int max_two min_two max_three min_three max_four min_four   -- for this text's walks alone
set_option linter.unusedVariables false
set_option linter.unusedSimpArgs false
open Go.Proofs.YtpoljchfgdnmbaaDoor.T

/-! ### tollhouselaw06_StartStatuses: function 4 -/
def tollhouselaw06_StartStatuses.f (k : Nat) (a0 : ByteArray) (a1 : Int) (a2 : Int) (a3 : ByteArray) : Option (Bool) := (start_Status.f a0).bind fun bt182 => ((tollhouseref06_Status.f k a0).bind fun bt186 => ((start_PutStatus.f a1 a2 a3).bind fun bt190 => ((tollhouseref06_PutStatus.f k a1 a2 a3).bind fun bt192 => (if bt182.1 = bt186.1 then (if bt182.2.1 = bt186.2.1 then (if bt182.2.2.1.toList = bt186.2.2.1.toList then (if bt182.2.2.2 = bt186.2.2.2 then (if bt190.1.toList = bt192.1.toList then (if bt190.2 = bt192.2 then ((start_Reason.f a2).bind fun t194 => ((tollhouseref06_Reason.f a2).bind fun t195 => (if t194.toList = t195.toList then ((tollhouselaw06_wakes.f k).bind fun t196 => (some t196)) else (some false)))) else (some false)) else (some false)) else (some false)) else (some false)) else (some false)) else (some false)))))
theorem tollhouselaw06_StartStatuses.mono : ∀ a0 a1 a2 a3 k, LeO (tollhouselaw06_StartStatuses.f k a0 a1 a2 a3) (tollhouselaw06_StartStatuses.f (k + 1) a0 a1 a2 a3) := by
  intro a0 a1 a2 a3 k
  unfold tollhouselaw06_StartStatuses.f
  repeat' first
      | (with_reducible exact tollhouselaw06_wakes.mono _)
      | (with_reducible exact tollhouseref06_PutStatus.mono _ _ _ _)
      | (with_reducible exact tollhouseref06_Status.mono _ _)
      | (with_reducible exact LeO.refl _)
      | (with_reducible exact LeO.none _)
      | (with_reducible refine LeO.ite ?_ ?_)
      | (with_reducible refine LeO.bind ?_ (fun _ => ?_))
      | exact tollhouselaw06_wakes.mono _
      | exact tollhouseref06_PutStatus.mono _ _ _ _
      | exact tollhouseref06_Status.mono _ _
      | exact LeO.none _
      | refine LeO.ite ?_ ?_
      | refine LeO.bind ?_ (fun _ => ?_)
set_option maxHeartbeats 8000000 in
set_option maxRecDepth 100000 in
theorem tollhouselaw06_StartStatuses.calls (k : Nat) (a0 : ByteArray) (a1 : Int) (a2 : Int) (a3 : ByteArray) (r : Bool) (w : World) (HGg : Glob w) (h : tollhouselaw06_StartStatuses.f k a0 a1 a2 a3 = some r) :
    Calls Tryd.prog 4 #[.string a0, .int .i64 a1, .int .i64 a2, .string a3] w fun e w' => e = .returned (.bool r) ∧ Below w.heap.size w w' := by
  have HGl := Aside0.mk HGg
  clear HGg
  have HB := Aside0.mk (Below.refl w.heap.size w)
  have H : ((start_Status.f a0).bind fun bt182 => ((tollhouseref06_Status.f k a0).bind fun bt186 => ((start_PutStatus.f a1 a2 a3).bind fun bt190 => ((tollhouseref06_PutStatus.f k a1 a2 a3).bind fun bt192 => (if bt182.1 = bt186.1 then (if bt182.2.1 = bt186.2.1 then (if bt182.2.2.1.toList = bt186.2.2.1.toList then (if bt182.2.2.2 = bt186.2.2.2 then (if bt190.1.toList = bt192.1.toList then (if bt190.2 = bt192.2 then ((start_Reason.f a2).bind fun t194 => ((tollhouseref06_Reason.f a2).bind fun t195 => (if t194.toList = t195.toList then ((tollhouselaw06_wakes.f k).bind fun t196 => (some t196)) else (some false)))) else (some false)) else (some false)) else (some false)) else (some false)) else (some false)) else (some false)))))) = some r := h
  clear h
  replace H := Option.bind_eq_some_iff.mp H
  obtain ⟨⟨t182, t183, t184, t185⟩, A50, H⟩ := H
  replace H : ((tollhouseref06_Status.f k a0).bind fun bt186 => ((start_PutStatus.f a1 a2 a3).bind fun bt190 => ((tollhouseref06_PutStatus.f k a1 a2 a3).bind fun bt192 => (if t182 = bt186.1 then (if t183 = bt186.2.1 then (if t184.toList = bt186.2.2.1.toList then (if t185 = bt186.2.2.2 then (if bt190.1.toList = bt192.1.toList then (if bt190.2 = bt192.2 then ((start_Reason.f a2).bind fun t194 => ((tollhouseref06_Reason.f a2).bind fun t195 => (if t194.toList = t195.toList then ((tollhouselaw06_wakes.f k).bind fun t196 => (some t196)) else (some false)))) else (some false)) else (some false)) else (some false)) else (some false)) else (some false)) else (some false))))) = some r := H
  have A5 := Aside0.mk A50
  clear A50
  replace H := Option.bind_eq_some_iff.mp H
  obtain ⟨⟨t186, t187, t188, t189⟩, A60, H⟩ := H
  replace H : ((start_PutStatus.f a1 a2 a3).bind fun bt190 => ((tollhouseref06_PutStatus.f k a1 a2 a3).bind fun bt192 => (if t182 = t186 then (if t183 = t187 then (if t184.toList = t188.toList then (if t185 = t189 then (if bt190.1.toList = bt192.1.toList then (if bt190.2 = bt192.2 then ((start_Reason.f a2).bind fun t194 => ((tollhouseref06_Reason.f a2).bind fun t195 => (if t194.toList = t195.toList then ((tollhouselaw06_wakes.f k).bind fun t196 => (some t196)) else (some false)))) else (some false)) else (some false)) else (some false)) else (some false)) else (some false)) else (some false)))) = some r := H
  have A6 := Aside0.mk A60
  clear A60
  replace H := Option.bind_eq_some_iff.mp H
  obtain ⟨⟨t190, t191⟩, A70, H⟩ := H
  replace H : ((tollhouseref06_PutStatus.f k a1 a2 a3).bind fun bt192 => (if t182 = t186 then (if t183 = t187 then (if t184.toList = t188.toList then (if t185 = t189 then (if t190.toList = bt192.1.toList then (if t191 = bt192.2 then ((start_Reason.f a2).bind fun t194 => ((tollhouseref06_Reason.f a2).bind fun t195 => (if t194.toList = t195.toList then ((tollhouselaw06_wakes.f k).bind fun t196 => (some t196)) else (some false)))) else (some false)) else (some false)) else (some false)) else (some false)) else (some false)) else (some false))) = some r := H
  have A7 := Aside0.mk A70
  clear A70
  replace H := Option.bind_eq_some_iff.mp H
  obtain ⟨⟨t192, t193⟩, A80, H⟩ := H
  replace H : (if t182 = t186 then (if t183 = t187 then (if t184.toList = t188.toList then (if t185 = t189 then (if t190.toList = t192.toList then (if t191 = t193 then ((start_Reason.f a2).bind fun t194 => ((tollhouseref06_Reason.f a2).bind fun t195 => (if t194.toList = t195.toList then ((tollhouselaw06_wakes.f k).bind fun t196 => (some t196)) else (some false)))) else (some false)) else (some false)) else (some false)) else (some false)) else (some false)) else (some false)) = some r := H
  have A8 := Aside0.mk A80
  clear A80
  by_cases c9 : t182 = t186
  · rw [if_pos c9] at H
    have c9b0 : (t182 == t186) = true := beq_iff_eq.mpr c9
    have c9b1 : (t182 != t186) = false := bne_eq_false_iff_eq.mpr c9
    clear c9
    by_cases c10 : t183 = t187
    · rw [if_pos c10] at H
      have c10b0 : (t183 == t187) = true := beq_iff_eq.mpr c10
      have c10b1 : (t183 != t187) = false := bne_eq_false_iff_eq.mpr c10
      clear c10
      by_cases c11 : t184.toList = t188.toList
      · rw [if_pos c11] at H
        have c11b0 : (t184.toList == t188.toList) = true := beq_iff_eq.mpr c11
        have c11b1 : (t184.toList != t188.toList) = false := bne_eq_false_iff_eq.mpr c11
        clear c11
        by_cases c12 : t185 = t189
        · rw [if_pos c12] at H
          have c12b0 : (t185 == t189) = true := beq_iff_eq.mpr c12
          have c12b1 : (t185 != t189) = false := bne_eq_false_iff_eq.mpr c12
          clear c12
          by_cases c13 : t190.toList = t192.toList
          · rw [if_pos c13] at H
            have c13b0 : (t190.toList == t192.toList) = true := beq_iff_eq.mpr c13
            have c13b1 : (t190.toList != t192.toList) = false := bne_eq_false_iff_eq.mpr c13
            clear c13
            by_cases c14 : t191 = t193
            · rw [if_pos c14] at H
              have c14b0 : (t191 == t193) = true := beq_iff_eq.mpr c14
              have c14b1 : (t191 != t193) = false := bne_eq_false_iff_eq.mpr c14
              clear c14
              replace H := Option.bind_eq_some_iff.mp H
              obtain ⟨t194, A150, H⟩ := H
              replace H : ((tollhouseref06_Reason.f a2).bind fun t195 => (if t194.toList = t195.toList then ((tollhouselaw06_wakes.f k).bind fun t196 => (some t196)) else (some false))) = some r := H
              have A15 := Aside0.mk A150
              clear A150
              replace H := Option.bind_eq_some_iff.mp H
              obtain ⟨t195, A160, H⟩ := H
              replace H : (if t194.toList = t195.toList then ((tollhouselaw06_wakes.f k).bind fun t196 => (some t196)) else (some false)) = some r := H
              have A16 := Aside0.mk A160
              clear A160
              by_cases c17 : t194.toList = t195.toList
              · rw [if_pos c17] at H
                have c17b0 : (t194.toList == t195.toList) = true := beq_iff_eq.mpr c17
                have c17b1 : (t194.toList != t195.toList) = false := bne_eq_false_iff_eq.mpr c17
                clear c17
                replace H := Option.bind_eq_some_iff.mp H
                obtain ⟨t196, A180, H⟩ := H
                replace H : (some t196) = some r := H
                have A18 := Aside0.mk A180
                clear A180
                obtain rfl := Option.some.inj H
                go_enter Tryd.func4, Tryd.ntmps4
                go_wp2_with (first | ((with_reducible refine gate_callee (f := 12) rfl ?_); refine goesL_ (some 23) rfl rfl Tryd.func12 (by kernel_rfl) rfl #[.string a0] rfl (by (try simp only [List.map_toArray, List.map_cons, List.map_nil]); first | done | rfl | (simp only [List.length_drop, List.length_take]; rfl)) ?_; (with_reducible refine (start_Status.calls a0 t182 t183 t184 t185 _ (Glob.below HGl.out (by repeat (first | (with_reducible first | exact HB.out | apply below_alloc | apply pw_below_drewN | apply below_drew1) | exact HB.out))) A5.out).mono ?_); rintro e w19 ⟨rfl, hb⟩; refine ⟨_, rfl, ?_⟩; have n0_ := Aside0.mk (below_step (by repeat (first | (with_reducible first | exact HB.out | apply below_alloc | apply pw_below_drewN | apply below_drew1) | exact HB.out)) hb); clear HB; have HB := n0_; clear n0_; (try clear hb); (try clear hb2); (try clear hk); (try clear hi)) | ((with_reducible refine gate_callee (f := 13) rfl ?_); refine goesL_ (some 30) rfl rfl Tryd.func13 (by kernel_rfl) rfl #[.string a0] rfl (by (try simp only [List.map_toArray, List.map_cons, List.map_nil]); first | done | rfl | (simp only [List.length_drop, List.length_take]; rfl)) ?_; (with_reducible refine (tollhouseref06_Status.calls k a0 t186 t187 t188 t189 _ (Glob.below HGl.out (by repeat (first | (with_reducible first | exact HB.out | apply below_alloc | apply pw_below_drewN | apply below_drew1) | exact HB.out))) A6.out).mono ?_); rintro e w' ⟨rfl, ⟨nd, rfl⟩⟩; refine ⟨_, rfl, ?_⟩) | ((with_reducible refine gate_callee (f := 14) rfl ?_); refine goesL_ (some 39) rfl rfl Tryd.func14 (by kernel_rfl) rfl #[.int .i64 a1, .int .i64 a2, .string a3] rfl (by (try simp only [List.map_toArray, List.map_cons, List.map_nil]); first | done | rfl | (simp only [List.length_drop, List.length_take]; rfl)) ?_; (with_reducible refine (start_PutStatus.calls a1 a2 a3 t190 t191 _ (Glob.below HGl.out (by repeat (first | (with_reducible first | exact HB.out | apply below_alloc | apply pw_below_drewN | apply below_drew1) | exact HB.out))) A7.out).mono ?_); rintro e w20 ⟨rfl, hb⟩; refine ⟨_, rfl, ?_⟩; have n0_ := Aside0.mk (below_step (by repeat (first | (with_reducible first | exact HB.out | apply below_alloc | apply pw_below_drewN | apply below_drew1) | exact HB.out)) hb); clear HB; have HB := n0_; clear n0_; (try clear hb); (try clear hb2); (try clear hk); (try clear hi)) | ((with_reducible refine gate_callee (f := 15) rfl ?_); refine goesL_ (some 46) rfl rfl Tryd.func15 (by kernel_rfl) rfl #[.int .i64 a1, .int .i64 a2, .string a3] rfl (by (try simp only [List.map_toArray, List.map_cons, List.map_nil]); first | done | rfl | (simp only [List.length_drop, List.length_take]; rfl)) ?_; (with_reducible refine (tollhouseref06_PutStatus.calls k a1 a2 a3 t192 t193 _ (Glob.below HGl.out (by repeat (first | (with_reducible first | exact HB.out | apply below_alloc | apply pw_below_drewN | apply below_drew1) | exact HB.out))) A8.out).mono ?_); rintro e w21 ⟨rfl, hb⟩; refine ⟨_, rfl, ?_⟩; have n0_ := Aside0.mk (below_step (by repeat (first | (with_reducible first | exact HB.out | apply below_alloc | apply pw_below_drewN | apply below_drew1) | exact HB.out)) hb); clear HB; have HB := n0_; clear n0_; (try clear hb); (try clear hb2); (try clear hk); (try clear hi)) | (go_at_call 16; (with_reducible refine (start_Reason.calls a2 t194 _ (Glob.below HGl.out (by repeat (first | (with_reducible first | exact HB.out | apply below_alloc | apply pw_below_drewN | apply below_drew1) | exact HB.out))) A15.out).mono ?_); rintro e w22 ⟨rfl, hb⟩; have n0_ := Aside0.mk (below_step (by repeat (first | (with_reducible first | exact HB.out | apply below_alloc | apply pw_below_drewN | apply below_drew1) | exact HB.out)) hb); clear HB; have HB := n0_; clear n0_; (try clear hb); (try clear hb2); (try clear hk); (try clear hi)) | (go_at_call 17; (with_reducible refine (tollhouseref06_Reason.calls a2 t195 _ (Glob.below HGl.out (by repeat (first | (with_reducible first | exact HB.out | apply below_alloc | apply pw_below_drewN | apply below_drew1) | exact HB.out))) A16.out).mono ?_); rintro e w' ⟨rfl, ⟨nd, rfl⟩⟩) | (go_at_call 11; (with_reducible refine (tollhouselaw06_wakes.calls k  t196 _ (Glob.below HGl.out (by repeat (first | (with_reducible first | exact HB.out | apply below_alloc | apply pw_below_drewN | apply below_drew1) | exact HB.out))) A18.out).mono ?_); rintro e w23 ⟨rfl, hb⟩; have n0_ := Aside0.mk (below_step (by repeat (first | (with_reducible first | exact HB.out | apply below_alloc | apply pw_below_drewN | apply below_drew1) | exact HB.out)) hb); clear HB; have HB := n0_; clear n0_; (try clear hb); (try clear hb2); (try clear hk); (try clear hi)))
                go_ret
                exact ⟨by first | rfl | (simp [errW_none, errW_some] <;> rfl) | (simp [*, errW_none, errW_some] <;> rfl), by repeat (first | (with_reducible first | exact HB.out | apply below_alloc | apply pw_below_drewN | apply below_drew1) | exact HB.out)⟩
              · rw [if_neg c17] at H
                have c17b0 : (t194.toList == t195.toList) = false := beq_eq_false_iff_ne.mpr c17
                have c17b1 : (t194.toList != t195.toList) = true := bne_iff_ne.mpr c17
                obtain rfl := Option.some.inj H
                go_enter Tryd.func4, Tryd.ntmps4
                go_wp2_with (first | ((with_reducible refine gate_callee (f := 12) rfl ?_); refine goesL_ (some 23) rfl rfl Tryd.func12 (by kernel_rfl) rfl #[.string a0] rfl (by (try simp only [List.map_toArray, List.map_cons, List.map_nil]); first | done | rfl | (simp only [List.length_drop, List.length_take]; rfl)) ?_; (with_reducible refine (start_Status.calls a0 t182 t183 t184 t185 _ (Glob.below HGl.out (by repeat (first | (with_reducible first | exact HB.out | apply below_alloc | apply pw_below_drewN | apply below_drew1) | exact HB.out))) A5.out).mono ?_); rintro e w24 ⟨rfl, hb⟩; refine ⟨_, rfl, ?_⟩; have n0_ := Aside0.mk (below_step (by repeat (first | (with_reducible first | exact HB.out | apply below_alloc | apply pw_below_drewN | apply below_drew1) | exact HB.out)) hb); clear HB; have HB := n0_; clear n0_; (try clear hb); (try clear hb2); (try clear hk); (try clear hi)) | ((with_reducible refine gate_callee (f := 13) rfl ?_); refine goesL_ (some 30) rfl rfl Tryd.func13 (by kernel_rfl) rfl #[.string a0] rfl (by (try simp only [List.map_toArray, List.map_cons, List.map_nil]); first | done | rfl | (simp only [List.length_drop, List.length_take]; rfl)) ?_; (with_reducible refine (tollhouseref06_Status.calls k a0 t186 t187 t188 t189 _ (Glob.below HGl.out (by repeat (first | (with_reducible first | exact HB.out | apply below_alloc | apply pw_below_drewN | apply below_drew1) | exact HB.out))) A6.out).mono ?_); rintro e w' ⟨rfl, ⟨nd, rfl⟩⟩; refine ⟨_, rfl, ?_⟩) | ((with_reducible refine gate_callee (f := 14) rfl ?_); refine goesL_ (some 39) rfl rfl Tryd.func14 (by kernel_rfl) rfl #[.int .i64 a1, .int .i64 a2, .string a3] rfl (by (try simp only [List.map_toArray, List.map_cons, List.map_nil]); first | done | rfl | (simp only [List.length_drop, List.length_take]; rfl)) ?_; (with_reducible refine (start_PutStatus.calls a1 a2 a3 t190 t191 _ (Glob.below HGl.out (by repeat (first | (with_reducible first | exact HB.out | apply below_alloc | apply pw_below_drewN | apply below_drew1) | exact HB.out))) A7.out).mono ?_); rintro e w25 ⟨rfl, hb⟩; refine ⟨_, rfl, ?_⟩; have n0_ := Aside0.mk (below_step (by repeat (first | (with_reducible first | exact HB.out | apply below_alloc | apply pw_below_drewN | apply below_drew1) | exact HB.out)) hb); clear HB; have HB := n0_; clear n0_; (try clear hb); (try clear hb2); (try clear hk); (try clear hi)) | ((with_reducible refine gate_callee (f := 15) rfl ?_); refine goesL_ (some 46) rfl rfl Tryd.func15 (by kernel_rfl) rfl #[.int .i64 a1, .int .i64 a2, .string a3] rfl (by (try simp only [List.map_toArray, List.map_cons, List.map_nil]); first | done | rfl | (simp only [List.length_drop, List.length_take]; rfl)) ?_; (with_reducible refine (tollhouseref06_PutStatus.calls k a1 a2 a3 t192 t193 _ (Glob.below HGl.out (by repeat (first | (with_reducible first | exact HB.out | apply below_alloc | apply pw_below_drewN | apply below_drew1) | exact HB.out))) A8.out).mono ?_); rintro e w26 ⟨rfl, hb⟩; refine ⟨_, rfl, ?_⟩; have n0_ := Aside0.mk (below_step (by repeat (first | (with_reducible first | exact HB.out | apply below_alloc | apply pw_below_drewN | apply below_drew1) | exact HB.out)) hb); clear HB; have HB := n0_; clear n0_; (try clear hb); (try clear hb2); (try clear hk); (try clear hi)) | (go_at_call 16; (with_reducible refine (start_Reason.calls a2 t194 _ (Glob.below HGl.out (by repeat (first | (with_reducible first | exact HB.out | apply below_alloc | apply pw_below_drewN | apply below_drew1) | exact HB.out))) A15.out).mono ?_); rintro e w27 ⟨rfl, hb⟩; have n0_ := Aside0.mk (below_step (by repeat (first | (with_reducible first | exact HB.out | apply below_alloc | apply pw_below_drewN | apply below_drew1) | exact HB.out)) hb); clear HB; have HB := n0_; clear n0_; (try clear hb); (try clear hb2); (try clear hk); (try clear hi)) | (go_at_call 17; (with_reducible refine (tollhouseref06_Reason.calls a2 t195 _ (Glob.below HGl.out (by repeat (first | (with_reducible first | exact HB.out | apply below_alloc | apply pw_below_drewN | apply below_drew1) | exact HB.out))) A16.out).mono ?_); rintro e w' ⟨rfl, ⟨nd, rfl⟩⟩))
                go_ret
                exact ⟨by first | rfl | (simp [errW_none, errW_some] <;> rfl) | (simp [*, errW_none, errW_some] <;> rfl), by repeat (first | (with_reducible first | exact HB.out | apply below_alloc | apply pw_below_drewN | apply below_drew1) | exact HB.out)⟩
            · rw [if_neg c14] at H
              have c14b0 : (t191 == t193) = false := beq_eq_false_iff_ne.mpr c14
              have c14b1 : (t191 != t193) = true := bne_iff_ne.mpr c14
              obtain rfl := Option.some.inj H
              go_enter Tryd.func4, Tryd.ntmps4
              go_wp2_with (first | ((with_reducible refine gate_callee (f := 12) rfl ?_); refine goesL_ (some 23) rfl rfl Tryd.func12 (by kernel_rfl) rfl #[.string a0] rfl (by (try simp only [List.map_toArray, List.map_cons, List.map_nil]); first | done | rfl | (simp only [List.length_drop, List.length_take]; rfl)) ?_; (with_reducible refine (start_Status.calls a0 t182 t183 t184 t185 _ (Glob.below HGl.out (by repeat (first | (with_reducible first | exact HB.out | apply below_alloc | apply pw_below_drewN | apply below_drew1) | exact HB.out))) A5.out).mono ?_); rintro e w28 ⟨rfl, hb⟩; refine ⟨_, rfl, ?_⟩; have n0_ := Aside0.mk (below_step (by repeat (first | (with_reducible first | exact HB.out | apply below_alloc | apply pw_below_drewN | apply below_drew1) | exact HB.out)) hb); clear HB; have HB := n0_; clear n0_; (try clear hb); (try clear hb2); (try clear hk); (try clear hi)) | ((with_reducible refine gate_callee (f := 13) rfl ?_); refine goesL_ (some 30) rfl rfl Tryd.func13 (by kernel_rfl) rfl #[.string a0] rfl (by (try simp only [List.map_toArray, List.map_cons, List.map_nil]); first | done | rfl | (simp only [List.length_drop, List.length_take]; rfl)) ?_; (with_reducible refine (tollhouseref06_Status.calls k a0 t186 t187 t188 t189 _ (Glob.below HGl.out (by repeat (first | (with_reducible first | exact HB.out | apply below_alloc | apply pw_below_drewN | apply below_drew1) | exact HB.out))) A6.out).mono ?_); rintro e w' ⟨rfl, ⟨nd, rfl⟩⟩; refine ⟨_, rfl, ?_⟩) | ((with_reducible refine gate_callee (f := 14) rfl ?_); refine goesL_ (some 39) rfl rfl Tryd.func14 (by kernel_rfl) rfl #[.int .i64 a1, .int .i64 a2, .string a3] rfl (by (try simp only [List.map_toArray, List.map_cons, List.map_nil]); first | done | rfl | (simp only [List.length_drop, List.length_take]; rfl)) ?_; (with_reducible refine (start_PutStatus.calls a1 a2 a3 t190 t191 _ (Glob.below HGl.out (by repeat (first | (with_reducible first | exact HB.out | apply below_alloc | apply pw_below_drewN | apply below_drew1) | exact HB.out))) A7.out).mono ?_); rintro e w29 ⟨rfl, hb⟩; refine ⟨_, rfl, ?_⟩; have n0_ := Aside0.mk (below_step (by repeat (first | (with_reducible first | exact HB.out | apply below_alloc | apply pw_below_drewN | apply below_drew1) | exact HB.out)) hb); clear HB; have HB := n0_; clear n0_; (try clear hb); (try clear hb2); (try clear hk); (try clear hi)) | ((with_reducible refine gate_callee (f := 15) rfl ?_); refine goesL_ (some 46) rfl rfl Tryd.func15 (by kernel_rfl) rfl #[.int .i64 a1, .int .i64 a2, .string a3] rfl (by (try simp only [List.map_toArray, List.map_cons, List.map_nil]); first | done | rfl | (simp only [List.length_drop, List.length_take]; rfl)) ?_; (with_reducible refine (tollhouseref06_PutStatus.calls k a1 a2 a3 t192 t193 _ (Glob.below HGl.out (by repeat (first | (with_reducible first | exact HB.out | apply below_alloc | apply pw_below_drewN | apply below_drew1) | exact HB.out))) A8.out).mono ?_); rintro e w30 ⟨rfl, hb⟩; refine ⟨_, rfl, ?_⟩; have n0_ := Aside0.mk (below_step (by repeat (first | (with_reducible first | exact HB.out | apply below_alloc | apply pw_below_drewN | apply below_drew1) | exact HB.out)) hb); clear HB; have HB := n0_; clear n0_; (try clear hb); (try clear hb2); (try clear hk); (try clear hi)))
              go_ret
              exact ⟨by first | rfl | (simp [errW_none, errW_some] <;> rfl) | (simp [*, errW_none, errW_some] <;> rfl), by repeat (first | (with_reducible first | exact HB.out | apply below_alloc | apply pw_below_drewN | apply below_drew1) | exact HB.out)⟩
          · rw [if_neg c13] at H
            have c13b0 : (t190.toList == t192.toList) = false := beq_eq_false_iff_ne.mpr c13
            have c13b1 : (t190.toList != t192.toList) = true := bne_iff_ne.mpr c13
            obtain rfl := Option.some.inj H
            go_enter Tryd.func4, Tryd.ntmps4
            go_wp2_with (first | ((with_reducible refine gate_callee (f := 12) rfl ?_); refine goesL_ (some 23) rfl rfl Tryd.func12 (by kernel_rfl) rfl #[.string a0] rfl (by (try simp only [List.map_toArray, List.map_cons, List.map_nil]); first | done | rfl | (simp only [List.length_drop, List.length_take]; rfl)) ?_; (with_reducible refine (start_Status.calls a0 t182 t183 t184 t185 _ (Glob.below HGl.out (by repeat (first | (with_reducible first | exact HB.out | apply below_alloc | apply pw_below_drewN | apply below_drew1) | exact HB.out))) A5.out).mono ?_); rintro e w31 ⟨rfl, hb⟩; refine ⟨_, rfl, ?_⟩; have n0_ := Aside0.mk (below_step (by repeat (first | (with_reducible first | exact HB.out | apply below_alloc | apply pw_below_drewN | apply below_drew1) | exact HB.out)) hb); clear HB; have HB := n0_; clear n0_; (try clear hb); (try clear hb2); (try clear hk); (try clear hi)) | ((with_reducible refine gate_callee (f := 13) rfl ?_); refine goesL_ (some 30) rfl rfl Tryd.func13 (by kernel_rfl) rfl #[.string a0] rfl (by (try simp only [List.map_toArray, List.map_cons, List.map_nil]); first | done | rfl | (simp only [List.length_drop, List.length_take]; rfl)) ?_; (with_reducible refine (tollhouseref06_Status.calls k a0 t186 t187 t188 t189 _ (Glob.below HGl.out (by repeat (first | (with_reducible first | exact HB.out | apply below_alloc | apply pw_below_drewN | apply below_drew1) | exact HB.out))) A6.out).mono ?_); rintro e w' ⟨rfl, ⟨nd, rfl⟩⟩; refine ⟨_, rfl, ?_⟩) | ((with_reducible refine gate_callee (f := 14) rfl ?_); refine goesL_ (some 39) rfl rfl Tryd.func14 (by kernel_rfl) rfl #[.int .i64 a1, .int .i64 a2, .string a3] rfl (by (try simp only [List.map_toArray, List.map_cons, List.map_nil]); first | done | rfl | (simp only [List.length_drop, List.length_take]; rfl)) ?_; (with_reducible refine (start_PutStatus.calls a1 a2 a3 t190 t191 _ (Glob.below HGl.out (by repeat (first | (with_reducible first | exact HB.out | apply below_alloc | apply pw_below_drewN | apply below_drew1) | exact HB.out))) A7.out).mono ?_); rintro e w32 ⟨rfl, hb⟩; refine ⟨_, rfl, ?_⟩; have n0_ := Aside0.mk (below_step (by repeat (first | (with_reducible first | exact HB.out | apply below_alloc | apply pw_below_drewN | apply below_drew1) | exact HB.out)) hb); clear HB; have HB := n0_; clear n0_; (try clear hb); (try clear hb2); (try clear hk); (try clear hi)) | ((with_reducible refine gate_callee (f := 15) rfl ?_); refine goesL_ (some 46) rfl rfl Tryd.func15 (by kernel_rfl) rfl #[.int .i64 a1, .int .i64 a2, .string a3] rfl (by (try simp only [List.map_toArray, List.map_cons, List.map_nil]); first | done | rfl | (simp only [List.length_drop, List.length_take]; rfl)) ?_; (with_reducible refine (tollhouseref06_PutStatus.calls k a1 a2 a3 t192 t193 _ (Glob.below HGl.out (by repeat (first | (with_reducible first | exact HB.out | apply below_alloc | apply pw_below_drewN | apply below_drew1) | exact HB.out))) A8.out).mono ?_); rintro e w33 ⟨rfl, hb⟩; refine ⟨_, rfl, ?_⟩; have n0_ := Aside0.mk (below_step (by repeat (first | (with_reducible first | exact HB.out | apply below_alloc | apply pw_below_drewN | apply below_drew1) | exact HB.out)) hb); clear HB; have HB := n0_; clear n0_; (try clear hb); (try clear hb2); (try clear hk); (try clear hi)))
            go_ret
            exact ⟨by first | rfl | (simp [errW_none, errW_some] <;> rfl) | (simp [*, errW_none, errW_some] <;> rfl), by repeat (first | (with_reducible first | exact HB.out | apply below_alloc | apply pw_below_drewN | apply below_drew1) | exact HB.out)⟩
        · rw [if_neg c12] at H
          have c12b0 : (t185 == t189) = false := beq_eq_false_iff_ne.mpr c12
          have c12b1 : (t185 != t189) = true := bne_iff_ne.mpr c12
          obtain rfl := Option.some.inj H
          go_enter Tryd.func4, Tryd.ntmps4
          go_wp2_with (first | ((with_reducible refine gate_callee (f := 12) rfl ?_); refine goesL_ (some 23) rfl rfl Tryd.func12 (by kernel_rfl) rfl #[.string a0] rfl (by (try simp only [List.map_toArray, List.map_cons, List.map_nil]); first | done | rfl | (simp only [List.length_drop, List.length_take]; rfl)) ?_; (with_reducible refine (start_Status.calls a0 t182 t183 t184 t185 _ (Glob.below HGl.out (by repeat (first | (with_reducible first | exact HB.out | apply below_alloc | apply pw_below_drewN | apply below_drew1) | exact HB.out))) A5.out).mono ?_); rintro e w34 ⟨rfl, hb⟩; refine ⟨_, rfl, ?_⟩; have n0_ := Aside0.mk (below_step (by repeat (first | (with_reducible first | exact HB.out | apply below_alloc | apply pw_below_drewN | apply below_drew1) | exact HB.out)) hb); clear HB; have HB := n0_; clear n0_; (try clear hb); (try clear hb2); (try clear hk); (try clear hi)) | ((with_reducible refine gate_callee (f := 13) rfl ?_); refine goesL_ (some 30) rfl rfl Tryd.func13 (by kernel_rfl) rfl #[.string a0] rfl (by (try simp only [List.map_toArray, List.map_cons, List.map_nil]); first | done | rfl | (simp only [List.length_drop, List.length_take]; rfl)) ?_; (with_reducible refine (tollhouseref06_Status.calls k a0 t186 t187 t188 t189 _ (Glob.below HGl.out (by repeat (first | (with_reducible first | exact HB.out | apply below_alloc | apply pw_below_drewN | apply below_drew1) | exact HB.out))) A6.out).mono ?_); rintro e w' ⟨rfl, ⟨nd, rfl⟩⟩; refine ⟨_, rfl, ?_⟩) | ((with_reducible refine gate_callee (f := 14) rfl ?_); refine goesL_ (some 39) rfl rfl Tryd.func14 (by kernel_rfl) rfl #[.int .i64 a1, .int .i64 a2, .string a3] rfl (by (try simp only [List.map_toArray, List.map_cons, List.map_nil]); first | done | rfl | (simp only [List.length_drop, List.length_take]; rfl)) ?_; (with_reducible refine (start_PutStatus.calls a1 a2 a3 t190 t191 _ (Glob.below HGl.out (by repeat (first | (with_reducible first | exact HB.out | apply below_alloc | apply pw_below_drewN | apply below_drew1) | exact HB.out))) A7.out).mono ?_); rintro e w35 ⟨rfl, hb⟩; refine ⟨_, rfl, ?_⟩; have n0_ := Aside0.mk (below_step (by repeat (first | (with_reducible first | exact HB.out | apply below_alloc | apply pw_below_drewN | apply below_drew1) | exact HB.out)) hb); clear HB; have HB := n0_; clear n0_; (try clear hb); (try clear hb2); (try clear hk); (try clear hi)) | ((with_reducible refine gate_callee (f := 15) rfl ?_); refine goesL_ (some 46) rfl rfl Tryd.func15 (by kernel_rfl) rfl #[.int .i64 a1, .int .i64 a2, .string a3] rfl (by (try simp only [List.map_toArray, List.map_cons, List.map_nil]); first | done | rfl | (simp only [List.length_drop, List.length_take]; rfl)) ?_; (with_reducible refine (tollhouseref06_PutStatus.calls k a1 a2 a3 t192 t193 _ (Glob.below HGl.out (by repeat (first | (with_reducible first | exact HB.out | apply below_alloc | apply pw_below_drewN | apply below_drew1) | exact HB.out))) A8.out).mono ?_); rintro e w36 ⟨rfl, hb⟩; refine ⟨_, rfl, ?_⟩; have n0_ := Aside0.mk (below_step (by repeat (first | (with_reducible first | exact HB.out | apply below_alloc | apply pw_below_drewN | apply below_drew1) | exact HB.out)) hb); clear HB; have HB := n0_; clear n0_; (try clear hb); (try clear hb2); (try clear hk); (try clear hi)))
          go_ret
          exact ⟨by first | rfl | (simp [errW_none, errW_some] <;> rfl) | (simp [*, errW_none, errW_some] <;> rfl), by repeat (first | (with_reducible first | exact HB.out | apply below_alloc | apply pw_below_drewN | apply below_drew1) | exact HB.out)⟩
      · rw [if_neg c11] at H
        have c11b0 : (t184.toList == t188.toList) = false := beq_eq_false_iff_ne.mpr c11
        have c11b1 : (t184.toList != t188.toList) = true := bne_iff_ne.mpr c11
        obtain rfl := Option.some.inj H
        go_enter Tryd.func4, Tryd.ntmps4
        go_wp2_with (first | ((with_reducible refine gate_callee (f := 12) rfl ?_); refine goesL_ (some 23) rfl rfl Tryd.func12 (by kernel_rfl) rfl #[.string a0] rfl (by (try simp only [List.map_toArray, List.map_cons, List.map_nil]); first | done | rfl | (simp only [List.length_drop, List.length_take]; rfl)) ?_; (with_reducible refine (start_Status.calls a0 t182 t183 t184 t185 _ (Glob.below HGl.out (by repeat (first | (with_reducible first | exact HB.out | apply below_alloc | apply pw_below_drewN | apply below_drew1) | exact HB.out))) A5.out).mono ?_); rintro e w37 ⟨rfl, hb⟩; refine ⟨_, rfl, ?_⟩; have n0_ := Aside0.mk (below_step (by repeat (first | (with_reducible first | exact HB.out | apply below_alloc | apply pw_below_drewN | apply below_drew1) | exact HB.out)) hb); clear HB; have HB := n0_; clear n0_; (try clear hb); (try clear hb2); (try clear hk); (try clear hi)) | ((with_reducible refine gate_callee (f := 13) rfl ?_); refine goesL_ (some 30) rfl rfl Tryd.func13 (by kernel_rfl) rfl #[.string a0] rfl (by (try simp only [List.map_toArray, List.map_cons, List.map_nil]); first | done | rfl | (simp only [List.length_drop, List.length_take]; rfl)) ?_; (with_reducible refine (tollhouseref06_Status.calls k a0 t186 t187 t188 t189 _ (Glob.below HGl.out (by repeat (first | (with_reducible first | exact HB.out | apply below_alloc | apply pw_below_drewN | apply below_drew1) | exact HB.out))) A6.out).mono ?_); rintro e w' ⟨rfl, ⟨nd, rfl⟩⟩; refine ⟨_, rfl, ?_⟩) | ((with_reducible refine gate_callee (f := 14) rfl ?_); refine goesL_ (some 39) rfl rfl Tryd.func14 (by kernel_rfl) rfl #[.int .i64 a1, .int .i64 a2, .string a3] rfl (by (try simp only [List.map_toArray, List.map_cons, List.map_nil]); first | done | rfl | (simp only [List.length_drop, List.length_take]; rfl)) ?_; (with_reducible refine (start_PutStatus.calls a1 a2 a3 t190 t191 _ (Glob.below HGl.out (by repeat (first | (with_reducible first | exact HB.out | apply below_alloc | apply pw_below_drewN | apply below_drew1) | exact HB.out))) A7.out).mono ?_); rintro e w38 ⟨rfl, hb⟩; refine ⟨_, rfl, ?_⟩; have n0_ := Aside0.mk (below_step (by repeat (first | (with_reducible first | exact HB.out | apply below_alloc | apply pw_below_drewN | apply below_drew1) | exact HB.out)) hb); clear HB; have HB := n0_; clear n0_; (try clear hb); (try clear hb2); (try clear hk); (try clear hi)) | ((with_reducible refine gate_callee (f := 15) rfl ?_); refine goesL_ (some 46) rfl rfl Tryd.func15 (by kernel_rfl) rfl #[.int .i64 a1, .int .i64 a2, .string a3] rfl (by (try simp only [List.map_toArray, List.map_cons, List.map_nil]); first | done | rfl | (simp only [List.length_drop, List.length_take]; rfl)) ?_; (with_reducible refine (tollhouseref06_PutStatus.calls k a1 a2 a3 t192 t193 _ (Glob.below HGl.out (by repeat (first | (with_reducible first | exact HB.out | apply below_alloc | apply pw_below_drewN | apply below_drew1) | exact HB.out))) A8.out).mono ?_); rintro e w39 ⟨rfl, hb⟩; refine ⟨_, rfl, ?_⟩; have n0_ := Aside0.mk (below_step (by repeat (first | (with_reducible first | exact HB.out | apply below_alloc | apply pw_below_drewN | apply below_drew1) | exact HB.out)) hb); clear HB; have HB := n0_; clear n0_; (try clear hb); (try clear hb2); (try clear hk); (try clear hi)))
        go_ret
        exact ⟨by first | rfl | (simp [errW_none, errW_some] <;> rfl) | (simp [*, errW_none, errW_some] <;> rfl), by repeat (first | (with_reducible first | exact HB.out | apply below_alloc | apply pw_below_drewN | apply below_drew1) | exact HB.out)⟩
    · rw [if_neg c10] at H
      have c10b0 : (t183 == t187) = false := beq_eq_false_iff_ne.mpr c10
      have c10b1 : (t183 != t187) = true := bne_iff_ne.mpr c10
      obtain rfl := Option.some.inj H
      go_enter Tryd.func4, Tryd.ntmps4
      go_wp2_with (first | ((with_reducible refine gate_callee (f := 12) rfl ?_); refine goesL_ (some 23) rfl rfl Tryd.func12 (by kernel_rfl) rfl #[.string a0] rfl (by (try simp only [List.map_toArray, List.map_cons, List.map_nil]); first | done | rfl | (simp only [List.length_drop, List.length_take]; rfl)) ?_; (with_reducible refine (start_Status.calls a0 t182 t183 t184 t185 _ (Glob.below HGl.out (by repeat (first | (with_reducible first | exact HB.out | apply below_alloc | apply pw_below_drewN | apply below_drew1) | exact HB.out))) A5.out).mono ?_); rintro e w40 ⟨rfl, hb⟩; refine ⟨_, rfl, ?_⟩; have n0_ := Aside0.mk (below_step (by repeat (first | (with_reducible first | exact HB.out | apply below_alloc | apply pw_below_drewN | apply below_drew1) | exact HB.out)) hb); clear HB; have HB := n0_; clear n0_; (try clear hb); (try clear hb2); (try clear hk); (try clear hi)) | ((with_reducible refine gate_callee (f := 13) rfl ?_); refine goesL_ (some 30) rfl rfl Tryd.func13 (by kernel_rfl) rfl #[.string a0] rfl (by (try simp only [List.map_toArray, List.map_cons, List.map_nil]); first | done | rfl | (simp only [List.length_drop, List.length_take]; rfl)) ?_; (with_reducible refine (tollhouseref06_Status.calls k a0 t186 t187 t188 t189 _ (Glob.below HGl.out (by repeat (first | (with_reducible first | exact HB.out | apply below_alloc | apply pw_below_drewN | apply below_drew1) | exact HB.out))) A6.out).mono ?_); rintro e w' ⟨rfl, ⟨nd, rfl⟩⟩; refine ⟨_, rfl, ?_⟩) | ((with_reducible refine gate_callee (f := 14) rfl ?_); refine goesL_ (some 39) rfl rfl Tryd.func14 (by kernel_rfl) rfl #[.int .i64 a1, .int .i64 a2, .string a3] rfl (by (try simp only [List.map_toArray, List.map_cons, List.map_nil]); first | done | rfl | (simp only [List.length_drop, List.length_take]; rfl)) ?_; (with_reducible refine (start_PutStatus.calls a1 a2 a3 t190 t191 _ (Glob.below HGl.out (by repeat (first | (with_reducible first | exact HB.out | apply below_alloc | apply pw_below_drewN | apply below_drew1) | exact HB.out))) A7.out).mono ?_); rintro e w41 ⟨rfl, hb⟩; refine ⟨_, rfl, ?_⟩; have n0_ := Aside0.mk (below_step (by repeat (first | (with_reducible first | exact HB.out | apply below_alloc | apply pw_below_drewN | apply below_drew1) | exact HB.out)) hb); clear HB; have HB := n0_; clear n0_; (try clear hb); (try clear hb2); (try clear hk); (try clear hi)) | ((with_reducible refine gate_callee (f := 15) rfl ?_); refine goesL_ (some 46) rfl rfl Tryd.func15 (by kernel_rfl) rfl #[.int .i64 a1, .int .i64 a2, .string a3] rfl (by (try simp only [List.map_toArray, List.map_cons, List.map_nil]); first | done | rfl | (simp only [List.length_drop, List.length_take]; rfl)) ?_; (with_reducible refine (tollhouseref06_PutStatus.calls k a1 a2 a3 t192 t193 _ (Glob.below HGl.out (by repeat (first | (with_reducible first | exact HB.out | apply below_alloc | apply pw_below_drewN | apply below_drew1) | exact HB.out))) A8.out).mono ?_); rintro e w42 ⟨rfl, hb⟩; refine ⟨_, rfl, ?_⟩; have n0_ := Aside0.mk (below_step (by repeat (first | (with_reducible first | exact HB.out | apply below_alloc | apply pw_below_drewN | apply below_drew1) | exact HB.out)) hb); clear HB; have HB := n0_; clear n0_; (try clear hb); (try clear hb2); (try clear hk); (try clear hi)))
      go_ret
      exact ⟨by first | rfl | (simp [errW_none, errW_some] <;> rfl) | (simp [*, errW_none, errW_some] <;> rfl), by repeat (first | (with_reducible first | exact HB.out | apply below_alloc | apply pw_below_drewN | apply below_drew1) | exact HB.out)⟩
  · rw [if_neg c9] at H
    have c9b0 : (t182 == t186) = false := beq_eq_false_iff_ne.mpr c9
    have c9b1 : (t182 != t186) = true := bne_iff_ne.mpr c9
    obtain rfl := Option.some.inj H
    go_enter Tryd.func4, Tryd.ntmps4
    go_wp2_with (first | ((with_reducible refine gate_callee (f := 12) rfl ?_); refine goesL_ (some 23) rfl rfl Tryd.func12 (by kernel_rfl) rfl #[.string a0] rfl (by (try simp only [List.map_toArray, List.map_cons, List.map_nil]); first | done | rfl | (simp only [List.length_drop, List.length_take]; rfl)) ?_; (with_reducible refine (start_Status.calls a0 t182 t183 t184 t185 _ (Glob.below HGl.out (by repeat (first | (with_reducible first | exact HB.out | apply below_alloc | apply pw_below_drewN | apply below_drew1) | exact HB.out))) A5.out).mono ?_); rintro e w43 ⟨rfl, hb⟩; refine ⟨_, rfl, ?_⟩; have n0_ := Aside0.mk (below_step (by repeat (first | (with_reducible first | exact HB.out | apply below_alloc | apply pw_below_drewN | apply below_drew1) | exact HB.out)) hb); clear HB; have HB := n0_; clear n0_; (try clear hb); (try clear hb2); (try clear hk); (try clear hi)) | ((with_reducible refine gate_callee (f := 13) rfl ?_); refine goesL_ (some 30) rfl rfl Tryd.func13 (by kernel_rfl) rfl #[.string a0] rfl (by (try simp only [List.map_toArray, List.map_cons, List.map_nil]); first | done | rfl | (simp only [List.length_drop, List.length_take]; rfl)) ?_; (with_reducible refine (tollhouseref06_Status.calls k a0 t186 t187 t188 t189 _ (Glob.below HGl.out (by repeat (first | (with_reducible first | exact HB.out | apply below_alloc | apply pw_below_drewN | apply below_drew1) | exact HB.out))) A6.out).mono ?_); rintro e w' ⟨rfl, ⟨nd, rfl⟩⟩; refine ⟨_, rfl, ?_⟩) | ((with_reducible refine gate_callee (f := 14) rfl ?_); refine goesL_ (some 39) rfl rfl Tryd.func14 (by kernel_rfl) rfl #[.int .i64 a1, .int .i64 a2, .string a3] rfl (by (try simp only [List.map_toArray, List.map_cons, List.map_nil]); first | done | rfl | (simp only [List.length_drop, List.length_take]; rfl)) ?_; (with_reducible refine (start_PutStatus.calls a1 a2 a3 t190 t191 _ (Glob.below HGl.out (by repeat (first | (with_reducible first | exact HB.out | apply below_alloc | apply pw_below_drewN | apply below_drew1) | exact HB.out))) A7.out).mono ?_); rintro e w44 ⟨rfl, hb⟩; refine ⟨_, rfl, ?_⟩; have n0_ := Aside0.mk (below_step (by repeat (first | (with_reducible first | exact HB.out | apply below_alloc | apply pw_below_drewN | apply below_drew1) | exact HB.out)) hb); clear HB; have HB := n0_; clear n0_; (try clear hb); (try clear hb2); (try clear hk); (try clear hi)) | ((with_reducible refine gate_callee (f := 15) rfl ?_); refine goesL_ (some 46) rfl rfl Tryd.func15 (by kernel_rfl) rfl #[.int .i64 a1, .int .i64 a2, .string a3] rfl (by (try simp only [List.map_toArray, List.map_cons, List.map_nil]); first | done | rfl | (simp only [List.length_drop, List.length_take]; rfl)) ?_; (with_reducible refine (tollhouseref06_PutStatus.calls k a1 a2 a3 t192 t193 _ (Glob.below HGl.out (by repeat (first | (with_reducible first | exact HB.out | apply below_alloc | apply pw_below_drewN | apply below_drew1) | exact HB.out))) A8.out).mono ?_); rintro e w45 ⟨rfl, hb⟩; refine ⟨_, rfl, ?_⟩; have n0_ := Aside0.mk (below_step (by repeat (first | (with_reducible first | exact HB.out | apply below_alloc | apply pw_below_drewN | apply below_drew1) | exact HB.out)) hb); clear HB; have HB := n0_; clear n0_; (try clear hb); (try clear hb2); (try clear hk); (try clear hi)))
    go_ret
    exact ⟨by first | rfl | (simp [errW_none, errW_some] <;> rfl) | (simp [*, errW_none, errW_some] <;> rfl), by repeat (first | (with_reducible first | exact HB.out | apply below_alloc | apply pw_below_drewN | apply below_drew1) | exact HB.out)⟩

end Go.Proofs.YtpoljchfgdnmbaaDoor.X

/- With rounds enough, a printed function tells a value: how that is put together; and what a byte string's places hold. -/
namespace Go.Proofs.YtpoljchfgdnmbaaDoor.X
open Go.RowKit Go.Proofs.YtpoljchfgdnmbaaDoorW.PrintWords Go.Proofs.YtpoljchfgdnmbaaDoor.T
set_option linter.unusedSimpArgs false
set_option linter.unusedVariables false
/-- With rounds enough f tells r. -/
def Ev {α : Type} (f : Nat → Option α) (r : α) : Prop := ∃ K, ∀ k, K ≤ k → f k = some r
theorem Ev.const {α : Type} {f : Nat → Option α} {r : α} (h : ∀ k, f k = some r) : Ev f r := ⟨0, fun k _ => h k⟩
theorem Ev.done {α : Type} {f : Nat → Option α} {r : α} (h : ∀ k, f (k + 1) = some r) : Ev f r := ⟨1, fun k hk => by obtain ⟨j, rfl⟩ : ∃ j, k = j + 1 := ⟨k - 1, by omega⟩; exact h j⟩
theorem Ev.step {α : Type} {f g : Nat → Option α} {r : α} (h : ∀ k, f (k + 1) = g k) (hg : Ev g r) : Ev f r := by
  obtain ⟨K, hK⟩ := hg
  refine ⟨K + 1, fun k hk => ?_⟩
  obtain ⟨j, rfl⟩ : ∃ j, k = j + 1 := ⟨k - 1, by omega⟩
  rw [h j]; exact hK j (by omega)
theorem Ev.same {α : Type} {f g : Nat → Option α} {r : α} (h : ∀ k, f k = g k) (hg : Ev g r) : Ev f r := by
  obtain ⟨K, hK⟩ := hg
  exact ⟨K, fun k hk => by rw [h k]; exact hK k hk⟩
theorem Ev.bind {α β : Type} {f : Nat → Option α} {g : Nat → α → Option β} {a : α} {r : β} (hf : Ev f a) (hg : Ev (fun k => g k a) r) : Ev (fun k => (f k).bind (g k)) r := by
  obtain ⟨K, hK⟩ := hf
  obtain ⟨L, hL⟩ := hg
  refine ⟨max K L, fun k hk => ?_⟩
  show (f k).bind (g k) = _
  rw [hK k (by omega)]
  exact hL k (by omega)
theorem Ev.stepBind {α β : Type} {F : Nat → Option β} {f : Nat → Option α} {g : Nat → α → Option β} {a : α} {r : β} (h : ∀ k, F (k + 1) = (f k).bind (g k)) (hf : Ev f a) (hg : Ev (fun k => g k a) r) : Ev F r := Ev.step h (Ev.bind hf hg)
theorem Ev.of_mono {α : Type} {f : Nat → Option α} {r : α} (hm : ∀ k, LeO (f k) (f (k + 1))) {K : Nat} (h : f K = some r) : Ev f r := by
  refine ⟨K, fun k hk => ?_⟩
  obtain ⟨d, rfl⟩ : ∃ d, k = K + d := ⟨k - K, by omega⟩
  clear hk
  induction d with
  | zero => exact h
  | succ d ih => exact hm (K + d) r ih
theorem Ev.get {α : Type} {f : Nat → Option α} {r : α} (h : Ev f r) : ∃ k, f k = some r := by obtain ⟨K, hK⟩ := h; exact ⟨K, hK K (Nat.le_refl _)⟩
theorem wrap_id {n : Int} (h : -9223372036854775808 ≤ n) (h2 : n ≤ 9223372036854775807) : wrap64 n = n := by unfold wrap64; omega
/-! ### a byte string's places -/
theorem btAt {s : ByteArray} {j : Nat} (h : j < s.size) : bt s (j : Int) = ((s[j]'h).toNat : Int) := by
  unfold bt
  rw [dif_pos (by simpa using h)]
  rfl
theorem list_at {s : ByteArray} {j : Nat} (h : j < s.size) : s.data.toList[j]? = some (s[j]'h) := by
  rw [List.getElem?_eq_getElem (by rw [size_toList]; exact h)]
  rfl
theorem bt_is {s : ByteArray} {j : Nat} (h : j < s.size) (c : UInt8) : bt s (j : Int) = (c.toNat : Int) ↔ s.data.toList[j]? = some c := by
  rw [btAt h, list_at h]
  constructor
  · intro e
    have : (s[j]'h).toNat = c.toNat := by omega
    rw [UInt8.toNat_inj.1 this]
  · intro e; rw [Option.some.inj e]
theorem bt_sub {s : ByteArray} {a j : Nat} (h : a + j < s.size) : bt (s.extract a s.size) (j : Int) = bt s ((a + j : Nat) : Int) := by
  have hj : j < (s.extract a s.size).size := by rw [ByteArray.size_extract]; omega
  rw [btAt hj, btAt h, ByteArray.getElem_extract]
theorem drop_at {s : ByteArray} {j : Nat} (h : j < s.size) : s.data.toList.drop j = (s[j]'h) :: s.data.toList.drop (j + 1) := by
  rw [List.drop_eq_getElem_cons (by rw [size_toList]; exact h)]
  rfl
theorem drop_end {s : ByteArray} {j : Nat} (h : s.size ≤ j) : s.data.toList.drop j = [] := List.drop_eq_nil_of_le (by rw [size_toList]; exact h)
end Go.Proofs.YtpoljchfgdnmbaaDoor.X

/- The parts of a text between signs: plain. -/
namespace Go.Proofs.YtpoljchfgdnmbaaDoor.T
def partsB (c : UInt8) (s : ByteArray) : List ByteArray := Lib.splitB ⟨#[c]⟩ 0 (Lib.countB s ⟨#[c]⟩) s
theorem splitK_size (sep : ByteArray) : ∀ (k : Nat) (s : ByteArray), ∀ x ∈ Lib.splitB sep 0 k s, x.size ≤ s.size
  | 0, s, x, hx => by simp [Lib.splitB] at hx; subst hx; exact Nat.le_refl _
  | k + 1, s, x, hx => by
    unfold Lib.splitB at hx
    split at hx
    · simp at hx; subst hx; exact Nat.le_refl _
    · rcases List.mem_cons.1 hx with rfl | hx
      · rw [ByteArray.size_extract]; omega
      · have := splitK_size sep k _ x hx
        rw [ByteArray.size_extract] at this; omega
theorem parts_size (c : UInt8) (s : ByteArray) : ∀ x ∈ partsB c s, x.size ≤ s.size := splitK_size _ _ s
theorem parts_len (c : UInt8) (s : ByteArray) : (partsB c s).length = Lib.countB s ⟨#[c]⟩ + 1 := Lib.splitB_all ⟨#[c]⟩ (Nat.le_refl _) 0 _ s rfl
theorem parts_le (c : UInt8) (s : ByteArray) : (partsB c s).length ≤ s.size + 1 := by
  rw [parts_len]
  have := Lib.countB_le ⟨#[c]⟩ (Nat.le_refl _) s.size s (Nat.le_refl _)
  omega
end Go.Proofs.YtpoljchfgdnmbaaDoor.T

/- Small plain lemmas on bytes and rounds. -/
namespace Go.Proofs.YtpoljchfgdnmbaaDoor.X
open Go.RowKit Go.Proofs.YtpoljchfgdnmbaaDoorW.PrintWords Go.Proofs.YtpoljchfgdnmbaaDoor.T
set_option linter.unusedSimpArgs false
set_option linter.unusedVariables false
theorem wrap_succ {n : Nat} (h : n < 9223372036854775807) : wrap64 ((n : Int) + 1) = ((n + 1 : Nat) : Int) := by unfold wrap64; omega
theorem isDig_iff (c : UInt8) : isDig c = true ↔ (48 ≤ c.toNat ∧ c.toNat ≤ 57) := by
  have h : ∀ n : Fin 256, isDig (UInt8.ofNat n.val) = true ↔ (48 ≤ (UInt8.ofNat n.val).toNat ∧ (UInt8.ofNat n.val).toNat ≤ 57) := by decide +kernel
  have := h ⟨c.toNat, c.toNat_lt⟩
  simpa using this
theorem rd_list (ls : List ByteArray) (i : Nat) (y : ByteArray) (h : ls[i]? = some y) : rdOf ByteArray.empty ls (i : Int) = y := by
  unfold rdOf
  rw [Int.toNat_natCast, List.getD_eq_getElem?_getD, h]; rfl
theorem extract_all (s : ByteArray) : s.extract 0 s.size = s := by simp
theorem toList_app (a b : ByteArray) : (a ++ b).data.toList = a.data.toList ++ b.data.toList := by simp
theorem size_app (a b : ByteArray) : (a ++ b).size = a.size + b.size := by simp
theorem toList_eq (a : ByteArray) : a.toList = a.data.toList := Lib.toList_data a
theorem bytes_mk (s : ByteArray) (l : List UInt8) (h : s.data.toList = l) : s = ⟨l.toArray⟩ := by cases s; subst h; rfl
theorem bytes_ext {a b : ByteArray} (h : a.data.toList = b.data.toList) : a = b := by
  cases a; cases b
  simp only at h
  congr 1
  exact Array.ext' h
/-! ### the parts of a text between signs c -/
theorem sign_index (c : UInt8) (t : ByteArray) {j : Nat} (h : t.data.toList[j]? = some c) (hno : ∀ k, k < j → t.data.toList[k]? ≠ some c) : Lib.indexB t ⟨#[c]⟩ = j := by
  have e : Lib.indexB t ⟨#[c]⟩ = Lib.indexByte t.data.toList c := Lib.index_one _ _
  rw [e]
  rcases Int.lt_or_le (Lib.indexByte t.data.toList c) 0 with hm | hm
  · have h1 := Lib.indexByte_ge t.data.toList c
    exact absurd h (Lib.indexByte_none (by omega) j)
  · obtain ⟨o, ho⟩ : ∃ o : Nat, Lib.indexByte t.data.toList c = o := ⟨(Lib.indexByte t.data.toList c).toNat, by omega⟩
    obtain ⟨p1, p2⟩ := Lib.indexByte_some ho
    rw [ho]
    rcases Nat.lt_trichotomy o j with hlt | rfl | hgt
    · exact absurd p1 (hno o hlt)
    · rfl
    · exact absurd h (p2 j hgt)
theorem sign_none (c : UInt8) (t : ByteArray) (hno : ∀ k : Nat, t.data.toList[k]? ≠ some c) : Lib.indexB t ⟨#[c]⟩ = -1 := by
  have e : Lib.indexB t ⟨#[c]⟩ = Lib.indexByte t.data.toList c := Lib.index_one _ _
  rw [e]
  have h1 := Lib.indexByte_ge t.data.toList c
  rcases Int.lt_or_le (Lib.indexByte t.data.toList c) 0 with hm | hm
  · omega
  · obtain ⟨o, ho⟩ : ∃ o : Nat, Lib.indexByte t.data.toList c = o := ⟨(Lib.indexByte t.data.toList c).toNat, by omega⟩
    exact absurd (Lib.indexByte_some ho).1 (hno o)
theorem parts_no (c : UInt8) (t : ByteArray) (hno : ∀ k : Nat, t.data.toList[k]? ≠ some c) : partsB c t = [t] := Lib.splitB_miss _ _ _ _ (sign_none c t hno)
theorem parts_hit (c : UInt8) (t : ByteArray) (j : Nat) (h : t.data.toList[j]? = some c) (hno : ∀ k, k < j → t.data.toList[k]? ≠ some c) : partsB c t = t.extract 0 j :: partsB c (t.extract (j + 1) t.size) := by
  have hx := sign_index c t h hno
  unfold partsB
  have hz : 1 ≤ (⟨#[c]⟩ : ByteArray).size := Nat.le_refl _
  rw [Lib.countB_hit t ⟨#[c]⟩ j hz hx, Nat.add_comm 1, Lib.splitB_hit _ _ _ _ _ hx]
  rfl
theorem mem_at {α : Type} {l : List α} {c : α} (h : c ∉ l) (k : Nat) : l[k]? ≠ some c := fun e => h (List.mem_of_getElem? e)
theorem parts_one (c : UInt8) (s : ByteArray) (h : c ∉ s.data.toList) : partsB c s = [s] := parts_no c s (fun k => mem_at h k)
theorem parts_cons (c : UInt8) (s : ByteArray) (a b : List UInt8) (hs : s.data.toList = a ++ c :: b) (ha : c ∉ a) : partsB c s = ⟨a.toArray⟩ :: partsB c ⟨b.toArray⟩ := by
  have hz := size_toList s
  rw [parts_hit c s a.length (by rw [hs]; simp) (fun k hk => by rw [hs, List.getElem?_append_left hk]; exact mem_at ha k)]
  have e1 : s.extract 0 a.length = ⟨a.toArray⟩ := bytes_mk _ _ (by rw [Lib.extract_from_zero, hs]; simp)
  have e2 : s.extract (a.length + 1) s.size = ⟨b.toArray⟩ := bytes_mk _ _ (by rw [Lib.extract_to_end, hs, List.drop_append]; simp)
  rw [e1, e2]
/-- what stands ahead of the first c, and behind it -/
theorem split_first (c : UInt8) : ∀ l : List UInt8, c ∈ l → ∃ a b, l = a ++ c :: b ∧ c ∉ a
  | x :: t, h => by
    by_cases e : x = c
    · subst e; exact ⟨[], t, rfl, by simp⟩
    · obtain ⟨a, b, rfl, hn⟩ := split_first c t (by
        rcases List.mem_cons.1 h with h | h
        · exact absurd h.symm e
        · exact h)
      refine ⟨x :: a, b, rfl, fun hm => ?_⟩
      rcases List.mem_cons.1 hm with h | h
      · exact e h.symm
      · exact hn h
theorem split_unique (c : UInt8) : ∀ {a a' b b' : List UInt8}, a ++ c :: b = a' ++ c :: b' → c ∉ a → c ∉ a' → a = a' ∧ b = b'
  | [], [], b, b', h, _, _ => by injection h with _ h; exact ⟨rfl, h⟩
  | [], y :: t, b, b', h, _, hn => by
    injection h with h1 _
    exact absurd (List.mem_cons.2 (.inl h1)) hn
  | x :: t, [], b, b', h, hn, _ => by
    injection h with h1 _
    exact absurd (List.mem_cons.2 (.inl h1.symm)) hn
  | x :: t, y :: u, b, b', h, h1, h2 => by
    injection h with e1 e2
    obtain ⟨r1, r2⟩ := split_unique c e2 (fun hm => h1 (List.mem_cons_of_mem _ hm)) (fun hm => h2 (List.mem_cons_of_mem _ hm))
    exact ⟨by rw [e1, r1], r2⟩
/-- three parts: how they stand -/
theorem parts_three (c : UInt8) (s p0 p1 p2 : ByteArray) (h : partsB c s = [p0, p1, p2]) : s.data.toList = p0.data.toList ++ c :: (p1.data.toList ++ c :: p2.data.toList) ∧ c ∉ p0.data.toList ∧ c ∉ p1.data.toList ∧ c ∉ p2.data.toList := by
  by_cases h0 : c ∈ s.data.toList
  · obtain ⟨a, b, e, ha⟩ := split_first c _ h0
    rw [parts_cons c s a b e ha] at h
    injection h with q0 h
    by_cases h1 : c ∈ b
    · obtain ⟨a1, b1, e1, ha1⟩ := split_first c _ h1
      rw [parts_cons c ⟨b.toArray⟩ a1 b1 e1 ha1] at h
      injection h with q1 h
      by_cases h2 : c ∈ b1
      · obtain ⟨a2, b2, e2, ha2⟩ := split_first c _ h2
        rw [parts_cons c ⟨b1.toArray⟩ a2 b2 e2 ha2] at h
        injection h with _ h
        have := parts_len c ⟨b2.toArray⟩
        rw [h] at this
        simp at this
      · rw [parts_one c ⟨b1.toArray⟩ h2] at h
        injection h with q2 _
        subst q0 q1 q2
        exact ⟨by rw [e]; show a ++ c :: b = _; rw [show b = a1 ++ c :: b1 from e1], ha, ha1, h2⟩
    · rw [parts_one c ⟨b.toArray⟩ h1] at h
      injection h with _ h
      cases h
  · rw [parts_one c s h0] at h
    injection h with _ h
    cases h
end Go.Proofs.YtpoljchfgdnmbaaDoor.X

-- PRINTED by print.py (a twelfth state) out of the translation. Not trusted: Lean checks it.
namespace Go.Proofs.YtpoljchfgdnmbaaDoor.X
open Go.RowKit Go.Proofs.YtpoljchfgdnmbaaDoorW.PrintWords Go.Proofs.YtpoljchfgdnmbaaDoorW.PrintLast Go.Proofs.YtpoljchfgdnmbaaDoorW.PrintMore
attribute [local go_sem] max2_int min2_int max_two min_two max_three min_three max_four min_four   -- for this text's walks alone
set_option linter.unusedVariables false
set_option linter.unusedSimpArgs false
open Go.Proofs.YtpoljchfgdnmbaaDoor.T

/-! ### tollhouseref06_target: function 24 -/
def tollhouseref06_target.l0 : Nat → ByteArray → Int → Option (Bool)
  | 0, _, _ => none
  | k + 1, x0, x3 => if x3 < (x0.size : Int) then (if 0 ≤ x3 then (if (bt x0 x3) < 33 then (some false) else (if (bt x0 x3) > 126 then (some false) else (tollhouseref06_target.l0 k x0 (wrap64 (x3 + 1))))) else (none)) else (some (decide ((x0.size : Int) > 0)))
def tollhouseref06_target.f (k : Nat) (a0 : ByteArray) : Option (Bool) := tollhouseref06_target.l0 k a0 0
theorem tollhouseref06_target.mono_l : ∀ k, (∀ y0 y1, LeO (tollhouseref06_target.l0 k y0 y1) (tollhouseref06_target.l0 (k + 1) y0 y1))
  | 0 => fun _ _ r h => by simp [tollhouseref06_target.l0] at h
  | k + 1 => by
    have ih0 := tollhouseref06_target.mono_l k
    · intro y0 y1
      unfold tollhouseref06_target.l0
      repeat' first
      | (with_reducible exact ih0 _ _)
      | (with_reducible exact LeO.refl _)
      | (with_reducible exact LeO.none _)
      | (with_reducible refine LeO.ite ?_ ?_)
      | (with_reducible refine LeO.bind ?_ (fun _ => ?_))
      | exact ih0 _ _
      | exact LeO.none _
      | refine LeO.ite ?_ ?_
      | refine LeO.bind ?_ (fun _ => ?_)
theorem tollhouseref06_target.mono : ∀ a0 k, LeO (tollhouseref06_target.f k a0) (tollhouseref06_target.f (k + 1) a0) := by
  intro a0 k
  have ih0 := tollhouseref06_target.mono_l k
  unfold tollhouseref06_target.f
  repeat' first
      | (with_reducible exact ih0 _ _)
      | (with_reducible exact LeO.refl _)
      | (with_reducible exact LeO.none _)
      | (with_reducible refine LeO.ite ?_ ?_)
      | (with_reducible refine LeO.bind ?_ (fun _ => ?_))
      | exact ih0 _ _
      | exact LeO.none _
      | refine LeO.ite ?_ ?_
      | refine LeO.bind ?_ (fun _ => ?_)
set_option maxHeartbeats 8000000 in
set_option maxRecDepth 100000 in
theorem tollhouseref06_target.calls (k : Nat) (a0 : ByteArray) (r : Bool) (w : World) (HGg : Glob w) (h : tollhouseref06_target.f k a0 = some r) :
    Calls Tryd.prog 24 #[.string a0] w fun e w' => e = .returned (.bool r) ∧ Drawn0 w w' := by
  have HGl := Aside0.mk HGg
  clear HGg
  have H : (tollhouseref06_target.l0 k a0 0) = some r := h
  clear h
  have H' := Aside0.mk H
  clear H
  go_enter Tryd.func24, Tryd.ntmps24
  go_wp2
  go_loopg [3] k (fun kq v3 w' => ∃ (x3_1 : Int), v3 = .int .i64 x3_1 ∧ Aside0 (tollhouseref06_target.l0 kq a0 x3_1 = some r) ∧ Aside0 (kq ≤ k) ∧ Drawn0 w w')
  case atStart => exact ⟨(0), (by first | rfl | (simp; done) | (simp [*]; done)), H', ⟨Nat.le_refl _⟩, by repeat (first | exact Drawn0.refl _ | apply Drawn0.step)⟩
  case round =>
    clear H'
    obtain ⟨x3_1, rfl, HA, HK1, ⟨m1, rfl⟩⟩ := hrel
    cases gk with
    | zero => exact absurd HA.out (by simp [tollhouseref06_target.l0])
    | succ k1 =>
      have H := HA.out
      clear HA
      simp only [tollhouseref06_target.l0] at H
      by_cases c2 : x3_1 < (a0.size : Int)
      · rw [if_pos c2] at H
        have c2b0 : decide (x3_1 < (a0.size : Int)) = true := decide_eq_true c2
        clear c2
        by_cases c3 : 0 ≤ x3_1
        · rw [if_pos c3] at H
          have c3b0 : decide (0 ≤ x3_1) = true := decide_eq_true c3
          clear c3
          by_cases c5 : (bt a0 x3_1) < 33
          · rw [if_pos c5] at H
            have c5b0 : decide ((bt a0 x3_1) < 33) = true := decide_eq_true c5
            clear c5
            obtain rfl := Option.some.inj H
            have p4 : 0 ≤ (x3_1 : Int) := of_decide_eq_true (by first | (with_reducible assumption) | assumption)
            have q4 : x3_1 < (a0.size : Int) := of_decide_eq_true (by first | (with_reducible assumption) | assumption)
            have hx4 := bt_at a0 x3_1
            replace p4 := eq_true p4
            replace q4 := eq_true q4
            go_wp2
            go_ret
            exact ⟨by first | rfl | (simp; done) | (simp [*]; done), by repeat (first | exact Drawn0.refl _ | apply Drawn0.step)⟩
          · rw [if_neg c5] at H
            have c5b0 : decide ((bt a0 x3_1) < 33) = false := decide_eq_false c5
            clear c5
            by_cases c7 : (bt a0 x3_1) > 126
            · rw [if_pos c7] at H
              have c7b0 : decide (126 < (bt a0 x3_1)) = true := decide_eq_true c7
              clear c7
              obtain rfl := Option.some.inj H
              have p4 : 0 ≤ (x3_1 : Int) := of_decide_eq_true (by first | (with_reducible assumption) | assumption)
              have q4 : x3_1 < (a0.size : Int) := of_decide_eq_true (by first | (with_reducible assumption) | assumption)
              have hx4 := bt_at a0 x3_1
              replace p4 := eq_true p4
              replace q4 := eq_true q4
              have p6 : 0 ≤ (x3_1 : Int) := of_decide_eq_true (by first | (with_reducible assumption) | assumption)
              have q6 : x3_1 < (a0.size : Int) := of_decide_eq_true (by first | (with_reducible assumption) | assumption)
              have hx6 := bt_at a0 x3_1
              replace p6 := eq_true p6
              replace q6 := eq_true q6
              go_wp2
              go_ret
              exact ⟨by first | rfl | (simp; done) | (simp [*]; done), by repeat (first | exact Drawn0.refl _ | apply Drawn0.step)⟩
            · rw [if_neg c7] at H
              have c7b0 : decide (126 < (bt a0 x3_1)) = false := decide_eq_false c7
              clear c7
              have H' := Aside0.mk H
              clear H
              have p4 : 0 ≤ (x3_1 : Int) := of_decide_eq_true (by first | (with_reducible assumption) | assumption)
              have q4 : x3_1 < (a0.size : Int) := of_decide_eq_true (by first | (with_reducible assumption) | assumption)
              have hx4 := bt_at a0 x3_1
              replace p4 := eq_true p4
              replace q4 := eq_true q4
              have p6 : 0 ≤ (x3_1 : Int) := of_decide_eq_true (by first | (with_reducible assumption) | assumption)
              have q6 : x3_1 < (a0.size : Int) := of_decide_eq_true (by first | (with_reducible assumption) | assumption)
              have hx6 := bt_at a0 x3_1
              replace p6 := eq_true p6
              replace q6 := eq_true q6
              go_wp2
              go_roundg k1
              case measure => have := HK1.out; omega
              case rel => exact ⟨(wrap64 (x3_1 + 1)), (by first | rfl | (simp; done) | (simp [*]; done)), H', ⟨by have := HK1.out; omega⟩, by repeat (first | exact Drawn0.refl _ | apply Drawn0.step)⟩
        · rw [if_neg c3] at H
          exact absurd H (by simp)
      · rw [if_neg c2] at H
        have c2b0 : decide (x3_1 < (a0.size : Int)) = false := decide_eq_false c2
        clear c2
        obtain rfl := Option.some.inj H
        go_wp2
        go_ret
        exact ⟨by first | rfl | (simp; done) | (simp [*]; done), by repeat (first | exact Drawn0.refl _ | apply Drawn0.step)⟩

end Go.Proofs.YtpoljchfgdnmbaaDoor.X

/- tollhouseref02.Token over this program: it tells what text.Token tells. -/
namespace Go.Proofs.YtpoljchfgdnmbaaDoor.T
open Go.RowKit
set_option linter.unusedSimpArgs false
set_option linter.unusedVariables false
def sgL : List UInt8 := [33, 35, 36, 37, 38, 39, 42, 43, 45, 46, 94, 95, 96, 124, 126]
def alnum (c : UInt8) : Bool := (97 ≤ c && c ≤ 122) || (65 ≤ c && c ≤ 90) || (48 ≤ c && c ≤ 57)
/-- among the first k signs -/
def inSg (k : Nat) (c : UInt8) : Bool := (sgL.take k).contains c
theorem inSg_succ (k : Nat) (hk : k < 15) (c : UInt8) : inSg (k + 1) c = (inSg k c || c == sgL.getD k 0) := by
  have h : ∀ k : Fin 15, ∀ n : Fin 256, inSg (k.val + 1) (UInt8.ofNat n.val) = (inSg k.val (UInt8.ofNat n.val) || UInt8.ofNat n.val == sgL.getD k.val 0) := by decide +kernel
  have := h ⟨k, hk⟩ ⟨c.toNat, c.toNat_lt⟩
  simpa using this
theorem tok_alt (c : UInt8) : isTok c = (alnum c || inSg 15 c) := by
  have h : ∀ n : Fin 256, isTok (UInt8.ofNat n.val) = (alnum (UInt8.ofNat n.val) || inSg 15 (UInt8.ofNat n.val)) := by decide +kernel
  have := h ⟨c.toNat, c.toNat_lt⟩
  simpa using this
theorem alnum_spec (c : UInt8) : alnum c = ((decide (97 ≤ (c.toNat : Int)) && decide ((c.toNat : Int) ≤ 122)) || (decide (65 ≤ (c.toNat : Int)) && decide ((c.toNat : Int) ≤ 90)) || (decide (48 ≤ (c.toNat : Int)) && decide ((c.toNat : Int) ≤ 57))) := by
  have h : ∀ n : Fin 256, alnum (UInt8.ofNat n.val) = ((decide (97 ≤ ((UInt8.ofNat n.val).toNat : Int)) && decide (((UInt8.ofNat n.val).toNat : Int) ≤ 122)) || (decide (65 ≤ ((UInt8.ofNat n.val).toNat : Int)) && decide (((UInt8.ofNat n.val).toNat : Int) ≤ 90)) || (decide (48 ≤ ((UInt8.ofNat n.val).toNat : Int)) && decide (((UInt8.ofNat n.val).toNat : Int) ≤ 57))) := by decide +kernel
  have := h ⟨c.toNat, c.toNat_lt⟩
  simpa using this
theorem classes (x : Int) : (97 ≤ x ∧ x ≤ 122) ∨ (65 ≤ x ∧ x ≤ 90) ∨ (48 ≤ x ∧ x ≤ 57) ∨ x < 48 ∨ (57 < x ∧ x < 65) ∨ (90 < x ∧ x < 97) ∨ 122 < x := by omega
theorem beq_nat (a b : UInt8) : (a == b) = ((a.toNat : Int) == (b.toNat : Int)) := by
  rw [Bool.eq_iff_iff]
  simp only [beq_iff_eq]
  constructor
  · intro h; rw [h]
  · intro h; exact UInt8.toNat_inj.1 (by omega)
theorem sg_at (k : Nat) (hk : k < 15) : (⟨#[33, 35, 36, 37, 38, 39, 42, 43, 45, 46, 94, 95, 96, 124, 126]⟩ : ByteArray)[k]'hk = sgL.getD k 0 := by
  have h : ∀ k : Fin 15, (⟨#[33, 35, 36, 37, 38, 39, 42, 43, 45, 46, 94, 95, 96, 124, 126]⟩ : ByteArray)[k.val]'(k.2) = sgL.getD k.val 0 := by decide
  exact h ⟨k, hk⟩
theorem bool_val {a b : Bool} (h : a = b) : Value.bool a = .bool b := by rw [h]
set_option maxHeartbeats 4000000 in
theorem rtoken_any (s : ByteArray) (w : World) (hs : s.size ≤ 9223372036854775807) :
    Calls Tryd.prog 23 #[.string s] w fun e w' => e = .returned (.bool (tokenB s)) ∧ w = w' := by
  have HL := Lib.hid (size_toList s)
  go_enter Tryd.func23, Tryd.ntmps23
  go_wp2
  go_loopg [4, 5, 6, 7] s.size (fun gg s4 _ _ _ wr => ∃ kk : Nat, kk ≤ s.size ∧ s.size - kk ≤ gg ∧ s4 = .int .i64 kk ∧ wr = w ∧ Aside (∀ j, j < kk → isTok (s.data.toList.getD j 0) = true))
  case atStart => exact ⟨0, Nat.zero_le _, by omega, rfl, rfl, fun j hj => absurd hj (Nat.not_lt_zero _)⟩
  case round =>
    obtain ⟨kk, hkk, hg, rfl, rfl, A⟩ := hrel
    obtain ⟨wo, rfl⟩ : ∃ wo : World, wo = wr := ⟨_, rfl⟩
    by_cases hlt : kk < s.size
    · have hltz : (kk : Int) < (s.size : Int) := by omega
      have HY : Hid (s.data.toList.getD kk 0 = s[kk]) := Lib.hid (by rw [List.getD_eq_getElem?_getD, List.getElem?_eq_getElem (by rw [HL.out]; exact hlt)]; rfl)
      have HA := Lib.hid (alnum_spec s[kk])
      rcases classes ((s[kk]).toNat : Int) with hcl | hcl | hcl | hcl | hcl | hcl | hcl
      all_goals
        have hcl1 := hcl
        try (obtain ⟨hca, hcb⟩ := hcl1)
        go_wp2
        go_loopg [6, 7] 15 (fun gg s6 s7 wr => ∃ k : Nat, k ≤ 15 ∧ 15 - k ≤ gg ∧ s7 = .int .i64 k ∧ s6 = .bool (alnum s[kk] || inSg k s[kk]) ∧ wr = wo)
        case atStart =>
          refine ⟨0, by omega, by omega, rfl, ?_, rfl⟩
          have h0 : inSg 0 s[kk] = false := rfl
          rw [h0, HA.out]
          congr 1
          rw [Bool.eq_iff_iff]
          simp only [Bool.or_eq_true, Bool.and_eq_true, decide_eq_true_eq, true_iff, Bool.false_eq_true, false_iff, or_false]
          omega
        case round =>
          obtain ⟨k, hk, hgk, rfl, rfl, rfl⟩ := hrel
          generalize hx : (alnum s[kk] || inSg k s[kk]) = x
          have HX := Lib.hid hx
          clear hx
          by_cases hlk : k < 15
          · have hltk : (k : Int) < 15 := by omega
            cases x with
            | true =>
              go_wp2
              go_roundg (15 - (k + 1))
              case measure => omega
              case rel =>
                refine ⟨k + 1, by omega, by omega, by go_num, ?_, rfl⟩
                rw [inSg_succ k hlk, ← Bool.or_assoc, HX.out]
                rfl
            | false =>
              go_wp2
              go_roundg (15 - (k + 1))
              case measure => omega
              case rel =>
                refine ⟨k + 1, by omega, by omega, by go_num, bool_val ?_, rfl⟩
                rw [inSg_succ k hlk, ← Bool.or_assoc, HX.out, Bool.false_or, beq_nat, sg_at k hlk, Bool.beq_comm]
          · have hltk : ¬ (k : Int) < 15 := by omega
            obtain rfl : k = 15 := by omega
            rw [← tok_alt] at HX
            cases x with
            | true =>
              go_wp2
              go_roundg (s.size - (kk + 1))
              case measure => omega
              case rel =>
                refine ⟨kk + 1, by omega, by omega, by go_num, rfl, fun j hj => ?_⟩
                by_cases e : j = kk
                · subst e; rw [HY.out]; exact HX.out
                · exact A.out j (by omega)
            | false =>
              go_wp2
              go_ret
              refine ⟨ret_bool ?_, rfl⟩
              unfold tokenB
              rw [all_no_getD isTok 0 s.data.toList kk (by rw [HL.out]; exact hlt) (by rw [HY.out]; exact HX.out), Bool.and_false]
    · have hltz : ¬ (kk : Int) < (s.size : Int) := by omega
      obtain rfl : kk = s.size := by omega
      go_wp2
      go_ret
      refine ⟨ret_bool ?_, rfl⟩
      unfold tokenB
      rw [all_of_getD isTok 0 s.data.toList (by rw [HL.out]; exact A.out), Bool.and_true, ← HL.out]
      cases s.data.toList <;> simp
end Go.Proofs.YtpoljchfgdnmbaaDoor.T

/- tollhouseref02.Token in the print's form. -/
namespace Go.Proofs.YtpoljchfgdnmbaaDoor.X
open Go.RowKit Go.Proofs.YtpoljchfgdnmbaaDoorW.PrintWords Go.Proofs.YtpoljchfgdnmbaaDoor.T
set_option linter.unusedVariables false
def tollhouseref02_Token.f (a0 : ByteArray) : Option Bool := if a0.size ≤ 9223372036854775807 then some (tokenB a0) else none
theorem tollhouseref02_Token.calls (a0 : ByteArray) (r : Bool) (w : World) (HGg : Glob w) (h : tollhouseref02_Token.f a0 = some r) : Calls Tryd.prog 23 #[.string a0] w fun e w' => e = .returned (.bool r) ∧ Drawn0 w w' := by
  obtain ⟨h1, rfl⟩ := of_lim h; exact (rtoken_any a0 w h1).mono fun e w' ⟨he, hw⟩ => ⟨he, drawn_same hw.symm⟩
end Go.Proofs.YtpoljchfgdnmbaaDoor.X
