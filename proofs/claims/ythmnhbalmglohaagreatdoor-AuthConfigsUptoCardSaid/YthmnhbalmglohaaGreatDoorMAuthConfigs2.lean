/- A part of the proof of the law AuthConfigs: contracts of functions that it reaches, and plain lemmas. -/
import Derived.Test.YthmnhbalmglohaaGreatDoorMAuthConfigs1
-- PRINTED by print.py (a twelfth state) out of the translation. Not trusted: Lean checks it.
namespace Go.Proofs.YthmnhbalmglohaaGreatDoor.X
open Go.RowKit Go.Proofs.YthmnhbalmglohaaGreatDoorW.PrintWords Go.Proofs.YthmnhbalmglohaaGreatDoorW.PrintLast Go.Proofs.YthmnhbalmglohaaGreatDoorW.PrintMore
attribute [local go_sem] max2_int min2_int max_two min_two max_three min_three max_four min_four   -- for this text's walks alone
set_option linter.unusedVariables false
set_option linter.unusedSimpArgs false
open Go.Proofs.YthmnhbalmglohaaGreatDoor.T

/-! ### tollhouseref15_May: function 14 -/
mutual
def tollhouseref15_May.l0 : Nat → ByteArray → Int → Option (Bool)
  | 0, _, _ => none
  | k + 1, x0, x3 => if x3 < (x0.size : Int) then (if 0 ≤ x3 then (tollhouseref15_May.j1 k x0 x3 ((bt x0 x3) != 61)) else (none)) else (tollhouseref15_May.j1 k x0 x3 false)
def tollhouseref15_May.j1 : Nat → ByteArray → Int → Bool → Option (Bool)
  | 0, _, _, _ => none
  | k + 1, x0, x3, x16 => if x16 = true then (if 0 ≤ x3 then (if x3 < (x0.size : Int) then (if (bt x0 x3) ≥ 97 then (if (bt x0 x3) ≤ 122 then (tollhouseref15_May.l0 k x0 (wrap64 (x3 + 1))) else (if (bt x0 x3) ≥ 65 then (if (bt x0 x3) ≤ 90 then (tollhouseref15_May.l0 k x0 (wrap64 (x3 + 1))) else (if (bt x0 x3) ≥ 48 then (if (bt x0 x3) ≤ 57 then (tollhouseref15_May.l0 k x0 (wrap64 (x3 + 1))) else (if (bt x0 x3) = 45 then (tollhouseref15_May.l0 k x0 (wrap64 (x3 + 1))) else (if (bt x0 x3) = 46 then (tollhouseref15_May.l0 k x0 (wrap64 (x3 + 1))) else (if (bt x0 x3) = 95 then (tollhouseref15_May.l0 k x0 (wrap64 (x3 + 1))) else (if (bt x0 x3) = 126 then (tollhouseref15_May.l0 k x0 (wrap64 (x3 + 1))) else (if (bt x0 x3) = 43 then (tollhouseref15_May.l0 k x0 (wrap64 (x3 + 1))) else (if ((bt x0 x3) = 47) then (tollhouseref15_May.l0 k x0 (wrap64 (x3 + 1))) else (some false)))))))) else (if (bt x0 x3) = 45 then (tollhouseref15_May.l0 k x0 (wrap64 (x3 + 1))) else (if (bt x0 x3) = 46 then (tollhouseref15_May.l0 k x0 (wrap64 (x3 + 1))) else (if (bt x0 x3) = 95 then (tollhouseref15_May.l0 k x0 (wrap64 (x3 + 1))) else (if (bt x0 x3) = 126 then (tollhouseref15_May.l0 k x0 (wrap64 (x3 + 1))) else (if (bt x0 x3) = 43 then (tollhouseref15_May.l0 k x0 (wrap64 (x3 + 1))) else (if ((bt x0 x3) = 47) then (tollhouseref15_May.l0 k x0 (wrap64 (x3 + 1))) else (some false))))))))) else (if (bt x0 x3) ≥ 48 then (if (bt x0 x3) ≤ 57 then (tollhouseref15_May.l0 k x0 (wrap64 (x3 + 1))) else (if (bt x0 x3) = 45 then (tollhouseref15_May.l0 k x0 (wrap64 (x3 + 1))) else (if (bt x0 x3) = 46 then (tollhouseref15_May.l0 k x0 (wrap64 (x3 + 1))) else (if (bt x0 x3) = 95 then (tollhouseref15_May.l0 k x0 (wrap64 (x3 + 1))) else (if (bt x0 x3) = 126 then (tollhouseref15_May.l0 k x0 (wrap64 (x3 + 1))) else (if (bt x0 x3) = 43 then (tollhouseref15_May.l0 k x0 (wrap64 (x3 + 1))) else (if ((bt x0 x3) = 47) then (tollhouseref15_May.l0 k x0 (wrap64 (x3 + 1))) else (some false)))))))) else (if (bt x0 x3) = 45 then (tollhouseref15_May.l0 k x0 (wrap64 (x3 + 1))) else (if (bt x0 x3) = 46 then (tollhouseref15_May.l0 k x0 (wrap64 (x3 + 1))) else (if (bt x0 x3) = 95 then (tollhouseref15_May.l0 k x0 (wrap64 (x3 + 1))) else (if (bt x0 x3) = 126 then (tollhouseref15_May.l0 k x0 (wrap64 (x3 + 1))) else (if (bt x0 x3) = 43 then (tollhouseref15_May.l0 k x0 (wrap64 (x3 + 1))) else (if ((bt x0 x3) = 47) then (tollhouseref15_May.l0 k x0 (wrap64 (x3 + 1))) else (some false)))))))))) else (if (bt x0 x3) ≥ 65 then (if (bt x0 x3) ≤ 90 then (tollhouseref15_May.l0 k x0 (wrap64 (x3 + 1))) else (if (bt x0 x3) ≥ 48 then (if (bt x0 x3) ≤ 57 then (tollhouseref15_May.l0 k x0 (wrap64 (x3 + 1))) else (if (bt x0 x3) = 45 then (tollhouseref15_May.l0 k x0 (wrap64 (x3 + 1))) else (if (bt x0 x3) = 46 then (tollhouseref15_May.l0 k x0 (wrap64 (x3 + 1))) else (if (bt x0 x3) = 95 then (tollhouseref15_May.l0 k x0 (wrap64 (x3 + 1))) else (if (bt x0 x3) = 126 then (tollhouseref15_May.l0 k x0 (wrap64 (x3 + 1))) else (if (bt x0 x3) = 43 then (tollhouseref15_May.l0 k x0 (wrap64 (x3 + 1))) else (if ((bt x0 x3) = 47) then (tollhouseref15_May.l0 k x0 (wrap64 (x3 + 1))) else (some false)))))))) else (if (bt x0 x3) = 45 then (tollhouseref15_May.l0 k x0 (wrap64 (x3 + 1))) else (if (bt x0 x3) = 46 then (tollhouseref15_May.l0 k x0 (wrap64 (x3 + 1))) else (if (bt x0 x3) = 95 then (tollhouseref15_May.l0 k x0 (wrap64 (x3 + 1))) else (if (bt x0 x3) = 126 then (tollhouseref15_May.l0 k x0 (wrap64 (x3 + 1))) else (if (bt x0 x3) = 43 then (tollhouseref15_May.l0 k x0 (wrap64 (x3 + 1))) else (if ((bt x0 x3) = 47) then (tollhouseref15_May.l0 k x0 (wrap64 (x3 + 1))) else (some false))))))))) else (if (bt x0 x3) ≥ 48 then (if (bt x0 x3) ≤ 57 then (tollhouseref15_May.l0 k x0 (wrap64 (x3 + 1))) else (if (bt x0 x3) = 45 then (tollhouseref15_May.l0 k x0 (wrap64 (x3 + 1))) else (if (bt x0 x3) = 46 then (tollhouseref15_May.l0 k x0 (wrap64 (x3 + 1))) else (if (bt x0 x3) = 95 then (tollhouseref15_May.l0 k x0 (wrap64 (x3 + 1))) else (if (bt x0 x3) = 126 then (tollhouseref15_May.l0 k x0 (wrap64 (x3 + 1))) else (if (bt x0 x3) = 43 then (tollhouseref15_May.l0 k x0 (wrap64 (x3 + 1))) else (if ((bt x0 x3) = 47) then (tollhouseref15_May.l0 k x0 (wrap64 (x3 + 1))) else (some false)))))))) else (if (bt x0 x3) = 45 then (tollhouseref15_May.l0 k x0 (wrap64 (x3 + 1))) else (if (bt x0 x3) = 46 then (tollhouseref15_May.l0 k x0 (wrap64 (x3 + 1))) else (if (bt x0 x3) = 95 then (tollhouseref15_May.l0 k x0 (wrap64 (x3 + 1))) else (if (bt x0 x3) = 126 then (tollhouseref15_May.l0 k x0 (wrap64 (x3 + 1))) else (if (bt x0 x3) = 43 then (tollhouseref15_May.l0 k x0 (wrap64 (x3 + 1))) else (if ((bt x0 x3) = 47) then (tollhouseref15_May.l0 k x0 (wrap64 (x3 + 1))) else (some false)))))))))) else (none)) else (none)) else (tollhouseref15_May.l1 k x0 x3 x3)
def tollhouseref15_May.l1 : Nat → ByteArray → Int → Int → Option (Bool)
  | 0, _, _, _ => none
  | k + 1, x0, x3, x6 => if x6 < (x0.size : Int) then (if 0 ≤ x6 then (if (bt x0 x6) = 61 then (tollhouseref15_May.l1 k x0 x3 (wrap64 (x6 + 1))) else (some false)) else (none)) else (if x3 > 0 then (some (decide ((x0.size : Int) ≤ 64))) else (some false))
end
def tollhouseref15_May.f (k : Nat) (a0 : ByteArray) : Option (Bool) := tollhouseref15_May.l0 k a0 0
theorem tollhouseref15_May.mono_l : ∀ k, (∀ y0 y1, LeO (tollhouseref15_May.l0 k y0 y1) (tollhouseref15_May.l0 (k + 1) y0 y1)) ∧ (∀ y0 y1 y2, LeO (tollhouseref15_May.j1 k y0 y1 y2) (tollhouseref15_May.j1 (k + 1) y0 y1 y2)) ∧ (∀ y0 y1 y2, LeO (tollhouseref15_May.l1 k y0 y1 y2) (tollhouseref15_May.l1 (k + 1) y0 y1 y2))
  | 0 => ⟨fun _ _ r h => by simp [tollhouseref15_May.l0] at h, fun _ _ _ r h => by simp [tollhouseref15_May.j1] at h, fun _ _ _ r h => by simp [tollhouseref15_May.l1] at h⟩
  | k + 1 => by
    obtain ⟨ih0, ih1, ih2⟩ := tollhouseref15_May.mono_l k
    refine ⟨?_, ?_, ?_⟩
    · intro y0 y1
      unfold tollhouseref15_May.l0
      repeat' first
      | (with_reducible exact ih0 _ _)
      | (with_reducible exact ih1 _ _ _)
      | (with_reducible exact ih2 _ _ _)
      | (with_reducible exact LeO.refl _)
      | (with_reducible exact LeO.none _)
      | (with_reducible refine LeO.ite ?_ ?_)
      | (with_reducible refine LeO.bind ?_ (fun _ => ?_))
      | exact ih0 _ _
      | exact ih1 _ _ _
      | exact ih2 _ _ _
      | exact LeO.none _
      | refine LeO.ite ?_ ?_
      | refine LeO.bind ?_ (fun _ => ?_)
    · intro y0 y1 y2
      unfold tollhouseref15_May.j1
      repeat' first
      | (with_reducible exact ih0 _ _)
      | (with_reducible exact ih1 _ _ _)
      | (with_reducible exact ih2 _ _ _)
      | (with_reducible exact LeO.refl _)
      | (with_reducible exact LeO.none _)
      | (with_reducible refine LeO.ite ?_ ?_)
      | (with_reducible refine LeO.bind ?_ (fun _ => ?_))
      | exact ih0 _ _
      | exact ih1 _ _ _
      | exact ih2 _ _ _
      | exact LeO.none _
      | refine LeO.ite ?_ ?_
      | refine LeO.bind ?_ (fun _ => ?_)
    · intro y0 y1 y2
      unfold tollhouseref15_May.l1
      repeat' first
      | (with_reducible exact ih0 _ _)
      | (with_reducible exact ih1 _ _ _)
      | (with_reducible exact ih2 _ _ _)
      | (with_reducible exact LeO.refl _)
      | (with_reducible exact LeO.none _)
      | (with_reducible refine LeO.ite ?_ ?_)
      | (with_reducible refine LeO.bind ?_ (fun _ => ?_))
      | exact ih0 _ _
      | exact ih1 _ _ _
      | exact ih2 _ _ _
      | exact LeO.none _
      | refine LeO.ite ?_ ?_
      | refine LeO.bind ?_ (fun _ => ?_)
theorem tollhouseref15_May.mono : ∀ a0 k, LeO (tollhouseref15_May.f k a0) (tollhouseref15_May.f (k + 1) a0) := by
  intro a0 k
  obtain ⟨ih0, ih1, ih2⟩ := tollhouseref15_May.mono_l k
  unfold tollhouseref15_May.f
  repeat' first
      | (with_reducible exact ih0 _ _)
      | (with_reducible exact ih1 _ _ _)
      | (with_reducible exact ih2 _ _ _)
      | (with_reducible exact LeO.refl _)
      | (with_reducible exact LeO.none _)
      | (with_reducible refine LeO.ite ?_ ?_)
      | (with_reducible refine LeO.bind ?_ (fun _ => ?_))
      | exact ih0 _ _
      | exact ih1 _ _ _
      | exact ih2 _ _ _
      | exact LeO.none _
      | refine LeO.ite ?_ ?_
      | refine LeO.bind ?_ (fun _ => ?_)
set_option maxHeartbeats 8000000 in
set_option maxRecDepth 100000 in
theorem tollhouseref15_May.calls (k : Nat) (a0 : ByteArray) (r : Bool) (w : World) (HGg : Glob w) (h : tollhouseref15_May.f k a0 = some r) :
    Calls Tryz.prog 14 #[.string a0] w fun e w' => e = .returned (.bool r) ∧ Drawn0 w w' := by
  have HGl := Aside0.mk HGg
  clear HGg
  have H : (tollhouseref15_May.l0 k a0 0) = some r := h
  clear h
  have H' := Aside0.mk H
  clear H
  go_enter Tryz.func14, Tryz.ntmps14
  go_wp2
  go_loopg [3] k (fun kq v3 w' => ∃ (x3_1 : Int), v3 = .int .i64 x3_1 ∧ Aside0 (tollhouseref15_May.l0 kq a0 x3_1 = some r) ∧ Aside0 (kq ≤ k) ∧ Drawn0 w w')
  case atStart => exact ⟨(0), (by first | rfl | (simp; done) | (simp [*]; done)), H', ⟨Nat.le_refl _⟩, by repeat (first | exact Drawn0.refl _ | apply Drawn0.step)⟩
  case round =>
    clear H'
    try clear c1
    obtain ⟨x3_1, rfl, HA, HK1, ⟨m1, rfl⟩⟩ := hrel
    cases gk with
    | zero => exact absurd HA.out (by simp [tollhouseref15_May.l0])
    | succ k1 =>
      have H := HA.out
      clear HA
      simp only [tollhouseref15_May.l0] at H
      have HC2 := Aside0.mk H
      clear H
      go_upto_region 2 with (fail)
      go_cut [16] (fun v16 wc => ∃ (kq : Nat) (x16_1 : Bool), v16 = .bool x16_1 ∧ Aside0 (tollhouseref15_May.j1 kq a0 x3_1 x16_1 = some r) ∧ Aside0 (kq ≤ k1) ∧ Drawn0 w wc)
      case first =>
        have H := HC2.out
        clear HC2
        by_cases c3 : x3_1 < (a0.size : Int)
        · rw [if_pos c3] at H
          have c3b0 : decide (x3_1 < (a0.size : Int)) = true := decide_eq_true c3
          clear c3
          (first | rw [c3b0] | (simp only [i64_w, i32_w]; rw [c3b0]) | skip)
          by_cases c4 : 0 ≤ x3_1
          · rw [if_pos c4] at H
            have c4b0 : decide (0 ≤ x3_1) = true := decide_eq_true c4
            clear c4
            have H' := Aside0.mk H
            clear H
            have p5 : 0 ≤ (x3_1 : Int) := of_decide_eq_true (by first | (with_reducible assumption) | assumption)
            have q5 : x3_1 < (a0.size : Int) := of_decide_eq_true (by first | (with_reducible assumption) | assumption)
            have hx5 := bt_at a0 x3_1
            replace p5 := eq_true p5
            replace q5 := eq_true q5
            go_wp2
            go_meet
            case rel => exact ⟨_, (((bt a0 x3_1) != 61)), (by first | rfl | (simp; done) | (simp [*]; done)), H', ⟨by have := HK1.out; first | omega | exact Nat.le_refl _⟩, by repeat (first | exact Drawn0.refl _ | apply Drawn0.step)⟩
          · rw [if_neg c4] at H
            exact absurd H (by simp)
        · rw [if_neg c3] at H
          have c3b0 : decide (x3_1 < (a0.size : Int)) = false := decide_eq_false c3
          clear c3
          (first | rw [c3b0] | (simp only [i64_w, i32_w]; rw [c3b0]) | skip)
          have H' := Aside0.mk H
          clear H
          go_wp2
          go_meet
          case rel => exact ⟨_, (false), (by first | rfl | (simp; done) | (simp [*]; done)), H', ⟨by have := HK1.out; first | omega | exact Nat.le_refl _⟩, by repeat (first | exact Drawn0.refl _ | apply Drawn0.step)⟩
      case rest =>
        clear HC2
        try clear c1
        try clear p2
        try clear c3
        try clear c3b0
        try clear c4
        try clear c4b0
        try clear p5
        try clear q5
        try clear hx5
        try clear p5
        try clear q5
        obtain ⟨kq, x16_1, rfl, HA, HJ1, ⟨mc1, rfl⟩⟩ := hcut
        cases kq with
        | zero => exact absurd HA.out (by simp [tollhouseref15_May.j1])
        | succ kj1 =>
          have H := HA.out
          clear HA
          simp only [tollhouseref15_May.j1] at H
          by_cases c6 : x16_1 = true
          · subst c6
            have H1 : (if 0 ≤ x3_1 then (if x3_1 < (a0.size : Int) then (if (bt a0 x3_1) ≥ 97 then (if (bt a0 x3_1) ≤ 122 then (tollhouseref15_May.l0 kj1 a0 (wrap64 (x3_1 + 1))) else (if (bt a0 x3_1) ≥ 65 then (if (bt a0 x3_1) ≤ 90 then (tollhouseref15_May.l0 kj1 a0 (wrap64 (x3_1 + 1))) else (if (bt a0 x3_1) ≥ 48 then (if (bt a0 x3_1) ≤ 57 then (tollhouseref15_May.l0 kj1 a0 (wrap64 (x3_1 + 1))) else (if (bt a0 x3_1) = 45 then (tollhouseref15_May.l0 kj1 a0 (wrap64 (x3_1 + 1))) else (if (bt a0 x3_1) = 46 then (tollhouseref15_May.l0 kj1 a0 (wrap64 (x3_1 + 1))) else (if (bt a0 x3_1) = 95 then (tollhouseref15_May.l0 kj1 a0 (wrap64 (x3_1 + 1))) else (if (bt a0 x3_1) = 126 then (tollhouseref15_May.l0 kj1 a0 (wrap64 (x3_1 + 1))) else (if (bt a0 x3_1) = 43 then (tollhouseref15_May.l0 kj1 a0 (wrap64 (x3_1 + 1))) else (if ((bt a0 x3_1) = 47) then (tollhouseref15_May.l0 kj1 a0 (wrap64 (x3_1 + 1))) else (some false)))))))) else (if (bt a0 x3_1) = 45 then (tollhouseref15_May.l0 kj1 a0 (wrap64 (x3_1 + 1))) else (if (bt a0 x3_1) = 46 then (tollhouseref15_May.l0 kj1 a0 (wrap64 (x3_1 + 1))) else (if (bt a0 x3_1) = 95 then (tollhouseref15_May.l0 kj1 a0 (wrap64 (x3_1 + 1))) else (if (bt a0 x3_1) = 126 then (tollhouseref15_May.l0 kj1 a0 (wrap64 (x3_1 + 1))) else (if (bt a0 x3_1) = 43 then (tollhouseref15_May.l0 kj1 a0 (wrap64 (x3_1 + 1))) else (if ((bt a0 x3_1) = 47) then (tollhouseref15_May.l0 kj1 a0 (wrap64 (x3_1 + 1))) else (some false))))))))) else (if (bt a0 x3_1) ≥ 48 then (if (bt a0 x3_1) ≤ 57 then (tollhouseref15_May.l0 kj1 a0 (wrap64 (x3_1 + 1))) else (if (bt a0 x3_1) = 45 then (tollhouseref15_May.l0 kj1 a0 (wrap64 (x3_1 + 1))) else (if (bt a0 x3_1) = 46 then (tollhouseref15_May.l0 kj1 a0 (wrap64 (x3_1 + 1))) else (if (bt a0 x3_1) = 95 then (tollhouseref15_May.l0 kj1 a0 (wrap64 (x3_1 + 1))) else (if (bt a0 x3_1) = 126 then (tollhouseref15_May.l0 kj1 a0 (wrap64 (x3_1 + 1))) else (if (bt a0 x3_1) = 43 then (tollhouseref15_May.l0 kj1 a0 (wrap64 (x3_1 + 1))) else (if ((bt a0 x3_1) = 47) then (tollhouseref15_May.l0 kj1 a0 (wrap64 (x3_1 + 1))) else (some false)))))))) else (if (bt a0 x3_1) = 45 then (tollhouseref15_May.l0 kj1 a0 (wrap64 (x3_1 + 1))) else (if (bt a0 x3_1) = 46 then (tollhouseref15_May.l0 kj1 a0 (wrap64 (x3_1 + 1))) else (if (bt a0 x3_1) = 95 then (tollhouseref15_May.l0 kj1 a0 (wrap64 (x3_1 + 1))) else (if (bt a0 x3_1) = 126 then (tollhouseref15_May.l0 kj1 a0 (wrap64 (x3_1 + 1))) else (if (bt a0 x3_1) = 43 then (tollhouseref15_May.l0 kj1 a0 (wrap64 (x3_1 + 1))) else (if ((bt a0 x3_1) = 47) then (tollhouseref15_May.l0 kj1 a0 (wrap64 (x3_1 + 1))) else (some false)))))))))) else (if (bt a0 x3_1) ≥ 65 then (if (bt a0 x3_1) ≤ 90 then (tollhouseref15_May.l0 kj1 a0 (wrap64 (x3_1 + 1))) else (if (bt a0 x3_1) ≥ 48 then (if (bt a0 x3_1) ≤ 57 then (tollhouseref15_May.l0 kj1 a0 (wrap64 (x3_1 + 1))) else (if (bt a0 x3_1) = 45 then (tollhouseref15_May.l0 kj1 a0 (wrap64 (x3_1 + 1))) else (if (bt a0 x3_1) = 46 then (tollhouseref15_May.l0 kj1 a0 (wrap64 (x3_1 + 1))) else (if (bt a0 x3_1) = 95 then (tollhouseref15_May.l0 kj1 a0 (wrap64 (x3_1 + 1))) else (if (bt a0 x3_1) = 126 then (tollhouseref15_May.l0 kj1 a0 (wrap64 (x3_1 + 1))) else (if (bt a0 x3_1) = 43 then (tollhouseref15_May.l0 kj1 a0 (wrap64 (x3_1 + 1))) else (if ((bt a0 x3_1) = 47) then (tollhouseref15_May.l0 kj1 a0 (wrap64 (x3_1 + 1))) else (some false)))))))) else (if (bt a0 x3_1) = 45 then (tollhouseref15_May.l0 kj1 a0 (wrap64 (x3_1 + 1))) else (if (bt a0 x3_1) = 46 then (tollhouseref15_May.l0 kj1 a0 (wrap64 (x3_1 + 1))) else (if (bt a0 x3_1) = 95 then (tollhouseref15_May.l0 kj1 a0 (wrap64 (x3_1 + 1))) else (if (bt a0 x3_1) = 126 then (tollhouseref15_May.l0 kj1 a0 (wrap64 (x3_1 + 1))) else (if (bt a0 x3_1) = 43 then (tollhouseref15_May.l0 kj1 a0 (wrap64 (x3_1 + 1))) else (if ((bt a0 x3_1) = 47) then (tollhouseref15_May.l0 kj1 a0 (wrap64 (x3_1 + 1))) else (some false))))))))) else (if (bt a0 x3_1) ≥ 48 then (if (bt a0 x3_1) ≤ 57 then (tollhouseref15_May.l0 kj1 a0 (wrap64 (x3_1 + 1))) else (if (bt a0 x3_1) = 45 then (tollhouseref15_May.l0 kj1 a0 (wrap64 (x3_1 + 1))) else (if (bt a0 x3_1) = 46 then (tollhouseref15_May.l0 kj1 a0 (wrap64 (x3_1 + 1))) else (if (bt a0 x3_1) = 95 then (tollhouseref15_May.l0 kj1 a0 (wrap64 (x3_1 + 1))) else (if (bt a0 x3_1) = 126 then (tollhouseref15_May.l0 kj1 a0 (wrap64 (x3_1 + 1))) else (if (bt a0 x3_1) = 43 then (tollhouseref15_May.l0 kj1 a0 (wrap64 (x3_1 + 1))) else (if ((bt a0 x3_1) = 47) then (tollhouseref15_May.l0 kj1 a0 (wrap64 (x3_1 + 1))) else (some false)))))))) else (if (bt a0 x3_1) = 45 then (tollhouseref15_May.l0 kj1 a0 (wrap64 (x3_1 + 1))) else (if (bt a0 x3_1) = 46 then (tollhouseref15_May.l0 kj1 a0 (wrap64 (x3_1 + 1))) else (if (bt a0 x3_1) = 95 then (tollhouseref15_May.l0 kj1 a0 (wrap64 (x3_1 + 1))) else (if (bt a0 x3_1) = 126 then (tollhouseref15_May.l0 kj1 a0 (wrap64 (x3_1 + 1))) else (if (bt a0 x3_1) = 43 then (tollhouseref15_May.l0 kj1 a0 (wrap64 (x3_1 + 1))) else (if ((bt a0 x3_1) = 47) then (tollhouseref15_May.l0 kj1 a0 (wrap64 (x3_1 + 1))) else (some false)))))))))) else (none)) else (none)) = some r := by rw [if_pos rfl] at H; exact H
            clear H
            have H := H1
            clear H1
            by_cases c7 : 0 ≤ x3_1
            · rw [if_pos c7] at H
              have c7b0 : decide (0 ≤ x3_1) = true := decide_eq_true c7
              clear c7
              by_cases c8 : x3_1 < (a0.size : Int)
              · rw [if_pos c8] at H
                have c8b0 : decide (x3_1 < (a0.size : Int)) = true := decide_eq_true c8
                clear c8
                by_cases c10 : (bt a0 x3_1) ≥ 97
                · rw [if_pos c10] at H
                  have c10b0 : decide (97 ≤ (bt a0 x3_1)) = true := decide_eq_true c10
                  clear c10
                  by_cases c11 : (bt a0 x3_1) ≤ 122
                  · rw [if_pos c11] at H
                    have c11b0 : decide ((bt a0 x3_1) ≤ 122) = true := decide_eq_true c11
                    clear c11
                    have H' := Aside0.mk H
                    clear H
                    have p9 : 0 ≤ (x3_1 : Int) := of_decide_eq_true (by first | (with_reducible assumption) | assumption)
                    have q9 : x3_1 < (a0.size : Int) := of_decide_eq_true (by first | (with_reducible assumption) | assumption)
                    have hx9 := bt_at a0 x3_1
                    replace p9 := eq_true p9
                    replace q9 := eq_true q9
                    go_wp2
                    go_roundg kj1
                    case measure => have := HK1.out; have := HJ1.out; omega
                    case rel => exact ⟨(wrap64 (x3_1 + 1)), (by first | rfl | (simp; done) | (simp [*]; done)), H', ⟨by have := HK1.out; have := HJ1.out; omega⟩, by repeat (first | exact Drawn0.refl _ | apply Drawn0.step)⟩
                  · rw [if_neg c11] at H
                    have c11b0 : decide ((bt a0 x3_1) ≤ 122) = false := decide_eq_false c11
                    clear c11
                    by_cases c12 : (bt a0 x3_1) ≥ 65
                    · rw [if_pos c12] at H
                      have c12b0 : decide (65 ≤ (bt a0 x3_1)) = true := decide_eq_true c12
                      clear c12
                      by_cases c13 : (bt a0 x3_1) ≤ 90
                      · rw [if_pos c13] at H
                        have c13b0 : decide ((bt a0 x3_1) ≤ 90) = true := decide_eq_true c13
                        clear c13
                        have H' := Aside0.mk H
                        clear H
                        have p9 : 0 ≤ (x3_1 : Int) := of_decide_eq_true (by first | (with_reducible assumption) | assumption)
                        have q9 : x3_1 < (a0.size : Int) := of_decide_eq_true (by first | (with_reducible assumption) | assumption)
                        have hx9 := bt_at a0 x3_1
                        replace p9 := eq_true p9
                        replace q9 := eq_true q9
                        go_wp2
                        go_roundg kj1
                        case measure => have := HK1.out; have := HJ1.out; omega
                        case rel => exact ⟨(wrap64 (x3_1 + 1)), (by first | rfl | (simp; done) | (simp [*]; done)), H', ⟨by have := HK1.out; have := HJ1.out; omega⟩, by repeat (first | exact Drawn0.refl _ | apply Drawn0.step)⟩
                      · rw [if_neg c13] at H
                        have c13b0 : decide ((bt a0 x3_1) ≤ 90) = false := decide_eq_false c13
                        clear c13
                        by_cases c14 : (bt a0 x3_1) ≥ 48
                        · rw [if_pos c14] at H
                          have c14b0 : decide (48 ≤ (bt a0 x3_1)) = true := decide_eq_true c14
                          clear c14
                          by_cases c15 : (bt a0 x3_1) ≤ 57
                          · rw [if_pos c15] at H
                            have c15b0 : decide ((bt a0 x3_1) ≤ 57) = true := decide_eq_true c15
                            clear c15
                            have H' := Aside0.mk H
                            clear H
                            have p9 : 0 ≤ (x3_1 : Int) := of_decide_eq_true (by first | (with_reducible assumption) | assumption)
                            have q9 : x3_1 < (a0.size : Int) := of_decide_eq_true (by first | (with_reducible assumption) | assumption)
                            have hx9 := bt_at a0 x3_1
                            replace p9 := eq_true p9
                            replace q9 := eq_true q9
                            go_wp2
                            go_roundg kj1
                            case measure => have := HK1.out; have := HJ1.out; omega
                            case rel => exact ⟨(wrap64 (x3_1 + 1)), (by first | rfl | (simp; done) | (simp [*]; done)), H', ⟨by have := HK1.out; have := HJ1.out; omega⟩, by repeat (first | exact Drawn0.refl _ | apply Drawn0.step)⟩
                          · rw [if_neg c15] at H
                            have c15b0 : decide ((bt a0 x3_1) ≤ 57) = false := decide_eq_false c15
                            clear c15
                            by_cases c16 : (bt a0 x3_1) = 45
                            · rw [if_pos c16] at H
                              have c16b0 : ((bt a0 x3_1) == 45) = true := beq_iff_eq.mpr c16
                              have c16b1 : ((bt a0 x3_1) != 45) = false := bne_eq_false_iff_eq.mpr c16
                              clear c16
                              have H' := Aside0.mk H
                              clear H
                              have p9 : 0 ≤ (x3_1 : Int) := of_decide_eq_true (by first | (with_reducible assumption) | assumption)
                              have q9 : x3_1 < (a0.size : Int) := of_decide_eq_true (by first | (with_reducible assumption) | assumption)
                              have hx9 := bt_at a0 x3_1
                              replace p9 := eq_true p9
                              replace q9 := eq_true q9
                              go_wp2
                              go_roundg kj1
                              case measure => have := HK1.out; have := HJ1.out; omega
                              case rel => exact ⟨(wrap64 (x3_1 + 1)), (by first | rfl | (simp; done) | (simp [*]; done)), H', ⟨by have := HK1.out; have := HJ1.out; omega⟩, by repeat (first | exact Drawn0.refl _ | apply Drawn0.step)⟩
                            · rw [if_neg c16] at H
                              have c16b0 : ((bt a0 x3_1) == 45) = false := beq_eq_false_iff_ne.mpr c16
                              have c16b1 : ((bt a0 x3_1) != 45) = true := bne_iff_ne.mpr c16
                              by_cases c17 : (bt a0 x3_1) = 46
                              · rw [if_pos c17] at H
                                have c17b0 : ((bt a0 x3_1) == 46) = true := beq_iff_eq.mpr c17
                                have c17b1 : ((bt a0 x3_1) != 46) = false := bne_eq_false_iff_eq.mpr c17
                                clear c17
                                have H' := Aside0.mk H
                                clear H
                                have p9 : 0 ≤ (x3_1 : Int) := of_decide_eq_true (by first | (with_reducible assumption) | assumption)
                                have q9 : x3_1 < (a0.size : Int) := of_decide_eq_true (by first | (with_reducible assumption) | assumption)
                                have hx9 := bt_at a0 x3_1
                                replace p9 := eq_true p9
                                replace q9 := eq_true q9
                                go_wp2
                                go_roundg kj1
                                case measure => have := HK1.out; have := HJ1.out; omega
                                case rel => exact ⟨(wrap64 (x3_1 + 1)), (by first | rfl | (simp; done) | (simp [*]; done)), H', ⟨by have := HK1.out; have := HJ1.out; omega⟩, by repeat (first | exact Drawn0.refl _ | apply Drawn0.step)⟩
                              · rw [if_neg c17] at H
                                have c17b0 : ((bt a0 x3_1) == 46) = false := beq_eq_false_iff_ne.mpr c17
                                have c17b1 : ((bt a0 x3_1) != 46) = true := bne_iff_ne.mpr c17
                                by_cases c18 : (bt a0 x3_1) = 95
                                · rw [if_pos c18] at H
                                  have c18b0 : ((bt a0 x3_1) == 95) = true := beq_iff_eq.mpr c18
                                  have c18b1 : ((bt a0 x3_1) != 95) = false := bne_eq_false_iff_eq.mpr c18
                                  clear c18
                                  have H' := Aside0.mk H
                                  clear H
                                  have p9 : 0 ≤ (x3_1 : Int) := of_decide_eq_true (by first | (with_reducible assumption) | assumption)
                                  have q9 : x3_1 < (a0.size : Int) := of_decide_eq_true (by first | (with_reducible assumption) | assumption)
                                  have hx9 := bt_at a0 x3_1
                                  replace p9 := eq_true p9
                                  replace q9 := eq_true q9
                                  go_wp2
                                  go_roundg kj1
                                  case measure => have := HK1.out; have := HJ1.out; omega
                                  case rel => exact ⟨(wrap64 (x3_1 + 1)), (by first | rfl | (simp; done) | (simp [*]; done)), H', ⟨by have := HK1.out; have := HJ1.out; omega⟩, by repeat (first | exact Drawn0.refl _ | apply Drawn0.step)⟩
                                · rw [if_neg c18] at H
                                  have c18b0 : ((bt a0 x3_1) == 95) = false := beq_eq_false_iff_ne.mpr c18
                                  have c18b1 : ((bt a0 x3_1) != 95) = true := bne_iff_ne.mpr c18
                                  by_cases c19 : (bt a0 x3_1) = 126
                                  · rw [if_pos c19] at H
                                    have c19b0 : ((bt a0 x3_1) == 126) = true := beq_iff_eq.mpr c19
                                    have c19b1 : ((bt a0 x3_1) != 126) = false := bne_eq_false_iff_eq.mpr c19
                                    clear c19
                                    have H' := Aside0.mk H
                                    clear H
                                    have p9 : 0 ≤ (x3_1 : Int) := of_decide_eq_true (by first | (with_reducible assumption) | assumption)
                                    have q9 : x3_1 < (a0.size : Int) := of_decide_eq_true (by first | (with_reducible assumption) | assumption)
                                    have hx9 := bt_at a0 x3_1
                                    replace p9 := eq_true p9
                                    replace q9 := eq_true q9
                                    go_wp2
                                    go_roundg kj1
                                    case measure => have := HK1.out; have := HJ1.out; omega
                                    case rel => exact ⟨(wrap64 (x3_1 + 1)), (by first | rfl | (simp; done) | (simp [*]; done)), H', ⟨by have := HK1.out; have := HJ1.out; omega⟩, by repeat (first | exact Drawn0.refl _ | apply Drawn0.step)⟩
                                  · rw [if_neg c19] at H
                                    have c19b0 : ((bt a0 x3_1) == 126) = false := beq_eq_false_iff_ne.mpr c19
                                    have c19b1 : ((bt a0 x3_1) != 126) = true := bne_iff_ne.mpr c19
                                    by_cases c20 : (bt a0 x3_1) = 43
                                    · rw [if_pos c20] at H
                                      have c20b0 : ((bt a0 x3_1) == 43) = true := beq_iff_eq.mpr c20
                                      have c20b1 : ((bt a0 x3_1) != 43) = false := bne_eq_false_iff_eq.mpr c20
                                      clear c20
                                      have H' := Aside0.mk H
                                      clear H
                                      have p9 : 0 ≤ (x3_1 : Int) := of_decide_eq_true (by first | (with_reducible assumption) | assumption)
                                      have q9 : x3_1 < (a0.size : Int) := of_decide_eq_true (by first | (with_reducible assumption) | assumption)
                                      have hx9 := bt_at a0 x3_1
                                      replace p9 := eq_true p9
                                      replace q9 := eq_true q9
                                      go_wp2
                                      go_roundg kj1
                                      case measure => have := HK1.out; have := HJ1.out; omega
                                      case rel => exact ⟨(wrap64 (x3_1 + 1)), (by first | rfl | (simp; done) | (simp [*]; done)), H', ⟨by have := HK1.out; have := HJ1.out; omega⟩, by repeat (first | exact Drawn0.refl _ | apply Drawn0.step)⟩
                                    · rw [if_neg c20] at H
                                      have c20b0 : ((bt a0 x3_1) == 43) = false := beq_eq_false_iff_ne.mpr c20
                                      have c20b1 : ((bt a0 x3_1) != 43) = true := bne_iff_ne.mpr c20
                                      by_cases c21 : ((bt a0 x3_1) = 47)
                                      · rw [if_pos c21] at H
                                        have c21b0 : ((bt a0 x3_1) == 47) = true := beq_iff_eq.mpr c21
                                        have c21b1 : ((bt a0 x3_1) != 47) = false := bne_eq_false_iff_eq.mpr c21
                                        clear c21
                                        have H' := Aside0.mk H
                                        clear H
                                        have p9 : 0 ≤ (x3_1 : Int) := of_decide_eq_true (by first | (with_reducible assumption) | assumption)
                                        have q9 : x3_1 < (a0.size : Int) := of_decide_eq_true (by first | (with_reducible assumption) | assumption)
                                        have hx9 := bt_at a0 x3_1
                                        replace p9 := eq_true p9
                                        replace q9 := eq_true q9
                                        go_wp2
                                        go_roundg kj1
                                        case measure => have := HK1.out; have := HJ1.out; omega
                                        case rel => exact ⟨(wrap64 (x3_1 + 1)), (by first | rfl | (simp; done) | (simp [*]; done)), H', ⟨by have := HK1.out; have := HJ1.out; omega⟩, by repeat (first | exact Drawn0.refl _ | apply Drawn0.step)⟩
                                      · rw [if_neg c21] at H
                                        have c21b0 : ((bt a0 x3_1) == 47) = false := beq_eq_false_iff_ne.mpr c21
                                        have c21b1 : ((bt a0 x3_1) != 47) = true := bne_iff_ne.mpr c21
                                        obtain rfl := Option.some.inj H
                                        have p9 : 0 ≤ (x3_1 : Int) := of_decide_eq_true (by first | (with_reducible assumption) | assumption)
                                        have q9 : x3_1 < (a0.size : Int) := of_decide_eq_true (by first | (with_reducible assumption) | assumption)
                                        have hx9 := bt_at a0 x3_1
                                        replace p9 := eq_true p9
                                        replace q9 := eq_true q9
                                        go_wp2
                                        go_ret
                                        exact ⟨by first | rfl | (simp; done) | (simp [*]; done), by repeat (first | exact Drawn0.refl _ | apply Drawn0.step)⟩
                        · rw [if_neg c14] at H
                          have c14b0 : decide (48 ≤ (bt a0 x3_1)) = false := decide_eq_false c14
                          clear c14
                          by_cases c22 : (bt a0 x3_1) = 45
                          · rw [if_pos c22] at H
                            have c22b0 : ((bt a0 x3_1) == 45) = true := beq_iff_eq.mpr c22
                            have c22b1 : ((bt a0 x3_1) != 45) = false := bne_eq_false_iff_eq.mpr c22
                            clear c22
                            have H' := Aside0.mk H
                            clear H
                            have p9 : 0 ≤ (x3_1 : Int) := of_decide_eq_true (by first | (with_reducible assumption) | assumption)
                            have q9 : x3_1 < (a0.size : Int) := of_decide_eq_true (by first | (with_reducible assumption) | assumption)
                            have hx9 := bt_at a0 x3_1
                            replace p9 := eq_true p9
                            replace q9 := eq_true q9
                            go_wp2
                            go_roundg kj1
                            case measure => have := HK1.out; have := HJ1.out; omega
                            case rel => exact ⟨(wrap64 (x3_1 + 1)), (by first | rfl | (simp; done) | (simp [*]; done)), H', ⟨by have := HK1.out; have := HJ1.out; omega⟩, by repeat (first | exact Drawn0.refl _ | apply Drawn0.step)⟩
                          · rw [if_neg c22] at H
                            have c22b0 : ((bt a0 x3_1) == 45) = false := beq_eq_false_iff_ne.mpr c22
                            have c22b1 : ((bt a0 x3_1) != 45) = true := bne_iff_ne.mpr c22
                            by_cases c23 : (bt a0 x3_1) = 46
                            · rw [if_pos c23] at H
                              have c23b0 : ((bt a0 x3_1) == 46) = true := beq_iff_eq.mpr c23
                              have c23b1 : ((bt a0 x3_1) != 46) = false := bne_eq_false_iff_eq.mpr c23
                              clear c23
                              have H' := Aside0.mk H
                              clear H
                              have p9 : 0 ≤ (x3_1 : Int) := of_decide_eq_true (by first | (with_reducible assumption) | assumption)
                              have q9 : x3_1 < (a0.size : Int) := of_decide_eq_true (by first | (with_reducible assumption) | assumption)
                              have hx9 := bt_at a0 x3_1
                              replace p9 := eq_true p9
                              replace q9 := eq_true q9
                              go_wp2
                              go_roundg kj1
                              case measure => have := HK1.out; have := HJ1.out; omega
                              case rel => exact ⟨(wrap64 (x3_1 + 1)), (by first | rfl | (simp; done) | (simp [*]; done)), H', ⟨by have := HK1.out; have := HJ1.out; omega⟩, by repeat (first | exact Drawn0.refl _ | apply Drawn0.step)⟩
                            · rw [if_neg c23] at H
                              have c23b0 : ((bt a0 x3_1) == 46) = false := beq_eq_false_iff_ne.mpr c23
                              have c23b1 : ((bt a0 x3_1) != 46) = true := bne_iff_ne.mpr c23
                              by_cases c24 : (bt a0 x3_1) = 95
                              · rw [if_pos c24] at H
                                have c24b0 : ((bt a0 x3_1) == 95) = true := beq_iff_eq.mpr c24
                                have c24b1 : ((bt a0 x3_1) != 95) = false := bne_eq_false_iff_eq.mpr c24
                                clear c24
                                have H' := Aside0.mk H
                                clear H
                                have p9 : 0 ≤ (x3_1 : Int) := of_decide_eq_true (by first | (with_reducible assumption) | assumption)
                                have q9 : x3_1 < (a0.size : Int) := of_decide_eq_true (by first | (with_reducible assumption) | assumption)
                                have hx9 := bt_at a0 x3_1
                                replace p9 := eq_true p9
                                replace q9 := eq_true q9
                                go_wp2
                                go_roundg kj1
                                case measure => have := HK1.out; have := HJ1.out; omega
                                case rel => exact ⟨(wrap64 (x3_1 + 1)), (by first | rfl | (simp; done) | (simp [*]; done)), H', ⟨by have := HK1.out; have := HJ1.out; omega⟩, by repeat (first | exact Drawn0.refl _ | apply Drawn0.step)⟩
                              · rw [if_neg c24] at H
                                have c24b0 : ((bt a0 x3_1) == 95) = false := beq_eq_false_iff_ne.mpr c24
                                have c24b1 : ((bt a0 x3_1) != 95) = true := bne_iff_ne.mpr c24
                                by_cases c25 : (bt a0 x3_1) = 126
                                · rw [if_pos c25] at H
                                  have c25b0 : ((bt a0 x3_1) == 126) = true := beq_iff_eq.mpr c25
                                  have c25b1 : ((bt a0 x3_1) != 126) = false := bne_eq_false_iff_eq.mpr c25
                                  clear c25
                                  have H' := Aside0.mk H
                                  clear H
                                  have p9 : 0 ≤ (x3_1 : Int) := of_decide_eq_true (by first | (with_reducible assumption) | assumption)
                                  have q9 : x3_1 < (a0.size : Int) := of_decide_eq_true (by first | (with_reducible assumption) | assumption)
                                  have hx9 := bt_at a0 x3_1
                                  replace p9 := eq_true p9
                                  replace q9 := eq_true q9
                                  go_wp2
                                  go_roundg kj1
                                  case measure => have := HK1.out; have := HJ1.out; omega
                                  case rel => exact ⟨(wrap64 (x3_1 + 1)), (by first | rfl | (simp; done) | (simp [*]; done)), H', ⟨by have := HK1.out; have := HJ1.out; omega⟩, by repeat (first | exact Drawn0.refl _ | apply Drawn0.step)⟩
                                · rw [if_neg c25] at H
                                  have c25b0 : ((bt a0 x3_1) == 126) = false := beq_eq_false_iff_ne.mpr c25
                                  have c25b1 : ((bt a0 x3_1) != 126) = true := bne_iff_ne.mpr c25
                                  by_cases c26 : (bt a0 x3_1) = 43
                                  · rw [if_pos c26] at H
                                    have c26b0 : ((bt a0 x3_1) == 43) = true := beq_iff_eq.mpr c26
                                    have c26b1 : ((bt a0 x3_1) != 43) = false := bne_eq_false_iff_eq.mpr c26
                                    clear c26
                                    have H' := Aside0.mk H
                                    clear H
                                    have p9 : 0 ≤ (x3_1 : Int) := of_decide_eq_true (by first | (with_reducible assumption) | assumption)
                                    have q9 : x3_1 < (a0.size : Int) := of_decide_eq_true (by first | (with_reducible assumption) | assumption)
                                    have hx9 := bt_at a0 x3_1
                                    replace p9 := eq_true p9
                                    replace q9 := eq_true q9
                                    go_wp2
                                    go_roundg kj1
                                    case measure => have := HK1.out; have := HJ1.out; omega
                                    case rel => exact ⟨(wrap64 (x3_1 + 1)), (by first | rfl | (simp; done) | (simp [*]; done)), H', ⟨by have := HK1.out; have := HJ1.out; omega⟩, by repeat (first | exact Drawn0.refl _ | apply Drawn0.step)⟩
                                  · rw [if_neg c26] at H
                                    have c26b0 : ((bt a0 x3_1) == 43) = false := beq_eq_false_iff_ne.mpr c26
                                    have c26b1 : ((bt a0 x3_1) != 43) = true := bne_iff_ne.mpr c26
                                    by_cases c27 : ((bt a0 x3_1) = 47)
                                    · rw [if_pos c27] at H
                                      have c27b0 : ((bt a0 x3_1) == 47) = true := beq_iff_eq.mpr c27
                                      have c27b1 : ((bt a0 x3_1) != 47) = false := bne_eq_false_iff_eq.mpr c27
                                      clear c27
                                      have H' := Aside0.mk H
                                      clear H
                                      have p9 : 0 ≤ (x3_1 : Int) := of_decide_eq_true (by first | (with_reducible assumption) | assumption)
                                      have q9 : x3_1 < (a0.size : Int) := of_decide_eq_true (by first | (with_reducible assumption) | assumption)
                                      have hx9 := bt_at a0 x3_1
                                      replace p9 := eq_true p9
                                      replace q9 := eq_true q9
                                      go_wp2
                                      go_roundg kj1
                                      case measure => have := HK1.out; have := HJ1.out; omega
                                      case rel => exact ⟨(wrap64 (x3_1 + 1)), (by first | rfl | (simp; done) | (simp [*]; done)), H', ⟨by have := HK1.out; have := HJ1.out; omega⟩, by repeat (first | exact Drawn0.refl _ | apply Drawn0.step)⟩
                                    · rw [if_neg c27] at H
                                      have c27b0 : ((bt a0 x3_1) == 47) = false := beq_eq_false_iff_ne.mpr c27
                                      have c27b1 : ((bt a0 x3_1) != 47) = true := bne_iff_ne.mpr c27
                                      obtain rfl := Option.some.inj H
                                      have p9 : 0 ≤ (x3_1 : Int) := of_decide_eq_true (by first | (with_reducible assumption) | assumption)
                                      have q9 : x3_1 < (a0.size : Int) := of_decide_eq_true (by first | (with_reducible assumption) | assumption)
                                      have hx9 := bt_at a0 x3_1
                                      replace p9 := eq_true p9
                                      replace q9 := eq_true q9
                                      go_wp2
                                      go_ret
                                      exact ⟨by first | rfl | (simp; done) | (simp [*]; done), by repeat (first | exact Drawn0.refl _ | apply Drawn0.step)⟩
                    · rw [if_neg c12] at H
                      have c12b0 : decide (65 ≤ (bt a0 x3_1)) = false := decide_eq_false c12
                      clear c12
                      by_cases c28 : (bt a0 x3_1) ≥ 48
                      · rw [if_pos c28] at H
                        have c28b0 : decide (48 ≤ (bt a0 x3_1)) = true := decide_eq_true c28
                        clear c28
                        by_cases c29 : (bt a0 x3_1) ≤ 57
                        · rw [if_pos c29] at H
                          have c29b0 : decide ((bt a0 x3_1) ≤ 57) = true := decide_eq_true c29
                          clear c29
                          have H' := Aside0.mk H
                          clear H
                          have p9 : 0 ≤ (x3_1 : Int) := of_decide_eq_true (by first | (with_reducible assumption) | assumption)
                          have q9 : x3_1 < (a0.size : Int) := of_decide_eq_true (by first | (with_reducible assumption) | assumption)
                          have hx9 := bt_at a0 x3_1
                          replace p9 := eq_true p9
                          replace q9 := eq_true q9
                          go_wp2
                          go_roundg kj1
                          case measure => have := HK1.out; have := HJ1.out; omega
                          case rel => exact ⟨(wrap64 (x3_1 + 1)), (by first | rfl | (simp; done) | (simp [*]; done)), H', ⟨by have := HK1.out; have := HJ1.out; omega⟩, by repeat (first | exact Drawn0.refl _ | apply Drawn0.step)⟩
                        · rw [if_neg c29] at H
                          have c29b0 : decide ((bt a0 x3_1) ≤ 57) = false := decide_eq_false c29
                          clear c29
                          by_cases c30 : (bt a0 x3_1) = 45
                          · rw [if_pos c30] at H
                            have c30b0 : ((bt a0 x3_1) == 45) = true := beq_iff_eq.mpr c30
                            have c30b1 : ((bt a0 x3_1) != 45) = false := bne_eq_false_iff_eq.mpr c30
                            clear c30
                            have H' := Aside0.mk H
                            clear H
                            have p9 : 0 ≤ (x3_1 : Int) := of_decide_eq_true (by first | (with_reducible assumption) | assumption)
                            have q9 : x3_1 < (a0.size : Int) := of_decide_eq_true (by first | (with_reducible assumption) | assumption)
                            have hx9 := bt_at a0 x3_1
                            replace p9 := eq_true p9
                            replace q9 := eq_true q9
                            go_wp2
                            go_roundg kj1
                            case measure => have := HK1.out; have := HJ1.out; omega
                            case rel => exact ⟨(wrap64 (x3_1 + 1)), (by first | rfl | (simp; done) | (simp [*]; done)), H', ⟨by have := HK1.out; have := HJ1.out; omega⟩, by repeat (first | exact Drawn0.refl _ | apply Drawn0.step)⟩
                          · rw [if_neg c30] at H
                            have c30b0 : ((bt a0 x3_1) == 45) = false := beq_eq_false_iff_ne.mpr c30
                            have c30b1 : ((bt a0 x3_1) != 45) = true := bne_iff_ne.mpr c30
                            by_cases c31 : (bt a0 x3_1) = 46
                            · rw [if_pos c31] at H
                              have c31b0 : ((bt a0 x3_1) == 46) = true := beq_iff_eq.mpr c31
                              have c31b1 : ((bt a0 x3_1) != 46) = false := bne_eq_false_iff_eq.mpr c31
                              clear c31
                              have H' := Aside0.mk H
                              clear H
                              have p9 : 0 ≤ (x3_1 : Int) := of_decide_eq_true (by first | (with_reducible assumption) | assumption)
                              have q9 : x3_1 < (a0.size : Int) := of_decide_eq_true (by first | (with_reducible assumption) | assumption)
                              have hx9 := bt_at a0 x3_1
                              replace p9 := eq_true p9
                              replace q9 := eq_true q9
                              go_wp2
                              go_roundg kj1
                              case measure => have := HK1.out; have := HJ1.out; omega
                              case rel => exact ⟨(wrap64 (x3_1 + 1)), (by first | rfl | (simp; done) | (simp [*]; done)), H', ⟨by have := HK1.out; have := HJ1.out; omega⟩, by repeat (first | exact Drawn0.refl _ | apply Drawn0.step)⟩
                            · rw [if_neg c31] at H
                              have c31b0 : ((bt a0 x3_1) == 46) = false := beq_eq_false_iff_ne.mpr c31
                              have c31b1 : ((bt a0 x3_1) != 46) = true := bne_iff_ne.mpr c31
                              by_cases c32 : (bt a0 x3_1) = 95
                              · rw [if_pos c32] at H
                                have c32b0 : ((bt a0 x3_1) == 95) = true := beq_iff_eq.mpr c32
                                have c32b1 : ((bt a0 x3_1) != 95) = false := bne_eq_false_iff_eq.mpr c32
                                clear c32
                                have H' := Aside0.mk H
                                clear H
                                have p9 : 0 ≤ (x3_1 : Int) := of_decide_eq_true (by first | (with_reducible assumption) | assumption)
                                have q9 : x3_1 < (a0.size : Int) := of_decide_eq_true (by first | (with_reducible assumption) | assumption)
                                have hx9 := bt_at a0 x3_1
                                replace p9 := eq_true p9
                                replace q9 := eq_true q9
                                go_wp2
                                go_roundg kj1
                                case measure => have := HK1.out; have := HJ1.out; omega
                                case rel => exact ⟨(wrap64 (x3_1 + 1)), (by first | rfl | (simp; done) | (simp [*]; done)), H', ⟨by have := HK1.out; have := HJ1.out; omega⟩, by repeat (first | exact Drawn0.refl _ | apply Drawn0.step)⟩
                              · rw [if_neg c32] at H
                                have c32b0 : ((bt a0 x3_1) == 95) = false := beq_eq_false_iff_ne.mpr c32
                                have c32b1 : ((bt a0 x3_1) != 95) = true := bne_iff_ne.mpr c32
                                by_cases c33 : (bt a0 x3_1) = 126
                                · rw [if_pos c33] at H
                                  have c33b0 : ((bt a0 x3_1) == 126) = true := beq_iff_eq.mpr c33
                                  have c33b1 : ((bt a0 x3_1) != 126) = false := bne_eq_false_iff_eq.mpr c33
                                  clear c33
                                  have H' := Aside0.mk H
                                  clear H
                                  have p9 : 0 ≤ (x3_1 : Int) := of_decide_eq_true (by first | (with_reducible assumption) | assumption)
                                  have q9 : x3_1 < (a0.size : Int) := of_decide_eq_true (by first | (with_reducible assumption) | assumption)
                                  have hx9 := bt_at a0 x3_1
                                  replace p9 := eq_true p9
                                  replace q9 := eq_true q9
                                  go_wp2
                                  go_roundg kj1
                                  case measure => have := HK1.out; have := HJ1.out; omega
                                  case rel => exact ⟨(wrap64 (x3_1 + 1)), (by first | rfl | (simp; done) | (simp [*]; done)), H', ⟨by have := HK1.out; have := HJ1.out; omega⟩, by repeat (first | exact Drawn0.refl _ | apply Drawn0.step)⟩
                                · rw [if_neg c33] at H
                                  have c33b0 : ((bt a0 x3_1) == 126) = false := beq_eq_false_iff_ne.mpr c33
                                  have c33b1 : ((bt a0 x3_1) != 126) = true := bne_iff_ne.mpr c33
                                  by_cases c34 : (bt a0 x3_1) = 43
                                  · rw [if_pos c34] at H
                                    have c34b0 : ((bt a0 x3_1) == 43) = true := beq_iff_eq.mpr c34
                                    have c34b1 : ((bt a0 x3_1) != 43) = false := bne_eq_false_iff_eq.mpr c34
                                    clear c34
                                    have H' := Aside0.mk H
                                    clear H
                                    have p9 : 0 ≤ (x3_1 : Int) := of_decide_eq_true (by first | (with_reducible assumption) | assumption)
                                    have q9 : x3_1 < (a0.size : Int) := of_decide_eq_true (by first | (with_reducible assumption) | assumption)
                                    have hx9 := bt_at a0 x3_1
                                    replace p9 := eq_true p9
                                    replace q9 := eq_true q9
                                    go_wp2
                                    go_roundg kj1
                                    case measure => have := HK1.out; have := HJ1.out; omega
                                    case rel => exact ⟨(wrap64 (x3_1 + 1)), (by first | rfl | (simp; done) | (simp [*]; done)), H', ⟨by have := HK1.out; have := HJ1.out; omega⟩, by repeat (first | exact Drawn0.refl _ | apply Drawn0.step)⟩
                                  · rw [if_neg c34] at H
                                    have c34b0 : ((bt a0 x3_1) == 43) = false := beq_eq_false_iff_ne.mpr c34
                                    have c34b1 : ((bt a0 x3_1) != 43) = true := bne_iff_ne.mpr c34
                                    by_cases c35 : ((bt a0 x3_1) = 47)
                                    · rw [if_pos c35] at H
                                      have c35b0 : ((bt a0 x3_1) == 47) = true := beq_iff_eq.mpr c35
                                      have c35b1 : ((bt a0 x3_1) != 47) = false := bne_eq_false_iff_eq.mpr c35
                                      clear c35
                                      have H' := Aside0.mk H
                                      clear H
                                      have p9 : 0 ≤ (x3_1 : Int) := of_decide_eq_true (by first | (with_reducible assumption) | assumption)
                                      have q9 : x3_1 < (a0.size : Int) := of_decide_eq_true (by first | (with_reducible assumption) | assumption)
                                      have hx9 := bt_at a0 x3_1
                                      replace p9 := eq_true p9
                                      replace q9 := eq_true q9
                                      go_wp2
                                      go_roundg kj1
                                      case measure => have := HK1.out; have := HJ1.out; omega
                                      case rel => exact ⟨(wrap64 (x3_1 + 1)), (by first | rfl | (simp; done) | (simp [*]; done)), H', ⟨by have := HK1.out; have := HJ1.out; omega⟩, by repeat (first | exact Drawn0.refl _ | apply Drawn0.step)⟩
                                    · rw [if_neg c35] at H
                                      have c35b0 : ((bt a0 x3_1) == 47) = false := beq_eq_false_iff_ne.mpr c35
                                      have c35b1 : ((bt a0 x3_1) != 47) = true := bne_iff_ne.mpr c35
                                      obtain rfl := Option.some.inj H
                                      have p9 : 0 ≤ (x3_1 : Int) := of_decide_eq_true (by first | (with_reducible assumption) | assumption)
                                      have q9 : x3_1 < (a0.size : Int) := of_decide_eq_true (by first | (with_reducible assumption) | assumption)
                                      have hx9 := bt_at a0 x3_1
                                      replace p9 := eq_true p9
                                      replace q9 := eq_true q9
                                      go_wp2
                                      go_ret
                                      exact ⟨by first | rfl | (simp; done) | (simp [*]; done), by repeat (first | exact Drawn0.refl _ | apply Drawn0.step)⟩
                      · rw [if_neg c28] at H
                        have c28b0 : decide (48 ≤ (bt a0 x3_1)) = false := decide_eq_false c28
                        clear c28
                        by_cases c36 : (bt a0 x3_1) = 45
                        · rw [if_pos c36] at H
                          have c36b0 : ((bt a0 x3_1) == 45) = true := beq_iff_eq.mpr c36
                          have c36b1 : ((bt a0 x3_1) != 45) = false := bne_eq_false_iff_eq.mpr c36
                          clear c36
                          have H' := Aside0.mk H
                          clear H
                          have p9 : 0 ≤ (x3_1 : Int) := of_decide_eq_true (by first | (with_reducible assumption) | assumption)
                          have q9 : x3_1 < (a0.size : Int) := of_decide_eq_true (by first | (with_reducible assumption) | assumption)
                          have hx9 := bt_at a0 x3_1
                          replace p9 := eq_true p9
                          replace q9 := eq_true q9
                          go_wp2
                          go_roundg kj1
                          case measure => have := HK1.out; have := HJ1.out; omega
                          case rel => exact ⟨(wrap64 (x3_1 + 1)), (by first | rfl | (simp; done) | (simp [*]; done)), H', ⟨by have := HK1.out; have := HJ1.out; omega⟩, by repeat (first | exact Drawn0.refl _ | apply Drawn0.step)⟩
                        · rw [if_neg c36] at H
                          have c36b0 : ((bt a0 x3_1) == 45) = false := beq_eq_false_iff_ne.mpr c36
                          have c36b1 : ((bt a0 x3_1) != 45) = true := bne_iff_ne.mpr c36
                          by_cases c37 : (bt a0 x3_1) = 46
                          · rw [if_pos c37] at H
                            have c37b0 : ((bt a0 x3_1) == 46) = true := beq_iff_eq.mpr c37
                            have c37b1 : ((bt a0 x3_1) != 46) = false := bne_eq_false_iff_eq.mpr c37
                            clear c37
                            have H' := Aside0.mk H
                            clear H
                            have p9 : 0 ≤ (x3_1 : Int) := of_decide_eq_true (by first | (with_reducible assumption) | assumption)
                            have q9 : x3_1 < (a0.size : Int) := of_decide_eq_true (by first | (with_reducible assumption) | assumption)
                            have hx9 := bt_at a0 x3_1
                            replace p9 := eq_true p9
                            replace q9 := eq_true q9
                            go_wp2
                            go_roundg kj1
                            case measure => have := HK1.out; have := HJ1.out; omega
                            case rel => exact ⟨(wrap64 (x3_1 + 1)), (by first | rfl | (simp; done) | (simp [*]; done)), H', ⟨by have := HK1.out; have := HJ1.out; omega⟩, by repeat (first | exact Drawn0.refl _ | apply Drawn0.step)⟩
                          · rw [if_neg c37] at H
                            have c37b0 : ((bt a0 x3_1) == 46) = false := beq_eq_false_iff_ne.mpr c37
                            have c37b1 : ((bt a0 x3_1) != 46) = true := bne_iff_ne.mpr c37
                            by_cases c38 : (bt a0 x3_1) = 95
                            · rw [if_pos c38] at H
                              have c38b0 : ((bt a0 x3_1) == 95) = true := beq_iff_eq.mpr c38
                              have c38b1 : ((bt a0 x3_1) != 95) = false := bne_eq_false_iff_eq.mpr c38
                              clear c38
                              have H' := Aside0.mk H
                              clear H
                              have p9 : 0 ≤ (x3_1 : Int) := of_decide_eq_true (by first | (with_reducible assumption) | assumption)
                              have q9 : x3_1 < (a0.size : Int) := of_decide_eq_true (by first | (with_reducible assumption) | assumption)
                              have hx9 := bt_at a0 x3_1
                              replace p9 := eq_true p9
                              replace q9 := eq_true q9
                              go_wp2
                              go_roundg kj1
                              case measure => have := HK1.out; have := HJ1.out; omega
                              case rel => exact ⟨(wrap64 (x3_1 + 1)), (by first | rfl | (simp; done) | (simp [*]; done)), H', ⟨by have := HK1.out; have := HJ1.out; omega⟩, by repeat (first | exact Drawn0.refl _ | apply Drawn0.step)⟩
                            · rw [if_neg c38] at H
                              have c38b0 : ((bt a0 x3_1) == 95) = false := beq_eq_false_iff_ne.mpr c38
                              have c38b1 : ((bt a0 x3_1) != 95) = true := bne_iff_ne.mpr c38
                              by_cases c39 : (bt a0 x3_1) = 126
                              · rw [if_pos c39] at H
                                have c39b0 : ((bt a0 x3_1) == 126) = true := beq_iff_eq.mpr c39
                                have c39b1 : ((bt a0 x3_1) != 126) = false := bne_eq_false_iff_eq.mpr c39
                                clear c39
                                have H' := Aside0.mk H
                                clear H
                                have p9 : 0 ≤ (x3_1 : Int) := of_decide_eq_true (by first | (with_reducible assumption) | assumption)
                                have q9 : x3_1 < (a0.size : Int) := of_decide_eq_true (by first | (with_reducible assumption) | assumption)
                                have hx9 := bt_at a0 x3_1
                                replace p9 := eq_true p9
                                replace q9 := eq_true q9
                                go_wp2
                                go_roundg kj1
                                case measure => have := HK1.out; have := HJ1.out; omega
                                case rel => exact ⟨(wrap64 (x3_1 + 1)), (by first | rfl | (simp; done) | (simp [*]; done)), H', ⟨by have := HK1.out; have := HJ1.out; omega⟩, by repeat (first | exact Drawn0.refl _ | apply Drawn0.step)⟩
                              · rw [if_neg c39] at H
                                have c39b0 : ((bt a0 x3_1) == 126) = false := beq_eq_false_iff_ne.mpr c39
                                have c39b1 : ((bt a0 x3_1) != 126) = true := bne_iff_ne.mpr c39
                                by_cases c40 : (bt a0 x3_1) = 43
                                · rw [if_pos c40] at H
                                  have c40b0 : ((bt a0 x3_1) == 43) = true := beq_iff_eq.mpr c40
                                  have c40b1 : ((bt a0 x3_1) != 43) = false := bne_eq_false_iff_eq.mpr c40
                                  clear c40
                                  have H' := Aside0.mk H
                                  clear H
                                  have p9 : 0 ≤ (x3_1 : Int) := of_decide_eq_true (by first | (with_reducible assumption) | assumption)
                                  have q9 : x3_1 < (a0.size : Int) := of_decide_eq_true (by first | (with_reducible assumption) | assumption)
                                  have hx9 := bt_at a0 x3_1
                                  replace p9 := eq_true p9
                                  replace q9 := eq_true q9
                                  go_wp2
                                  go_roundg kj1
                                  case measure => have := HK1.out; have := HJ1.out; omega
                                  case rel => exact ⟨(wrap64 (x3_1 + 1)), (by first | rfl | (simp; done) | (simp [*]; done)), H', ⟨by have := HK1.out; have := HJ1.out; omega⟩, by repeat (first | exact Drawn0.refl _ | apply Drawn0.step)⟩
                                · rw [if_neg c40] at H
                                  have c40b0 : ((bt a0 x3_1) == 43) = false := beq_eq_false_iff_ne.mpr c40
                                  have c40b1 : ((bt a0 x3_1) != 43) = true := bne_iff_ne.mpr c40
                                  by_cases c41 : ((bt a0 x3_1) = 47)
                                  · rw [if_pos c41] at H
                                    have c41b0 : ((bt a0 x3_1) == 47) = true := beq_iff_eq.mpr c41
                                    have c41b1 : ((bt a0 x3_1) != 47) = false := bne_eq_false_iff_eq.mpr c41
                                    clear c41
                                    have H' := Aside0.mk H
                                    clear H
                                    have p9 : 0 ≤ (x3_1 : Int) := of_decide_eq_true (by first | (with_reducible assumption) | assumption)
                                    have q9 : x3_1 < (a0.size : Int) := of_decide_eq_true (by first | (with_reducible assumption) | assumption)
                                    have hx9 := bt_at a0 x3_1
                                    replace p9 := eq_true p9
                                    replace q9 := eq_true q9
                                    go_wp2
                                    go_roundg kj1
                                    case measure => have := HK1.out; have := HJ1.out; omega
                                    case rel => exact ⟨(wrap64 (x3_1 + 1)), (by first | rfl | (simp; done) | (simp [*]; done)), H', ⟨by have := HK1.out; have := HJ1.out; omega⟩, by repeat (first | exact Drawn0.refl _ | apply Drawn0.step)⟩
                                  · rw [if_neg c41] at H
                                    have c41b0 : ((bt a0 x3_1) == 47) = false := beq_eq_false_iff_ne.mpr c41
                                    have c41b1 : ((bt a0 x3_1) != 47) = true := bne_iff_ne.mpr c41
                                    obtain rfl := Option.some.inj H
                                    have p9 : 0 ≤ (x3_1 : Int) := of_decide_eq_true (by first | (with_reducible assumption) | assumption)
                                    have q9 : x3_1 < (a0.size : Int) := of_decide_eq_true (by first | (with_reducible assumption) | assumption)
                                    have hx9 := bt_at a0 x3_1
                                    replace p9 := eq_true p9
                                    replace q9 := eq_true q9
                                    go_wp2
                                    go_ret
                                    exact ⟨by first | rfl | (simp; done) | (simp [*]; done), by repeat (first | exact Drawn0.refl _ | apply Drawn0.step)⟩
                · rw [if_neg c10] at H
                  have c10b0 : decide (97 ≤ (bt a0 x3_1)) = false := decide_eq_false c10
                  clear c10
                  by_cases c42 : (bt a0 x3_1) ≥ 65
                  · rw [if_pos c42] at H
                    have c42b0 : decide (65 ≤ (bt a0 x3_1)) = true := decide_eq_true c42
                    clear c42
                    by_cases c43 : (bt a0 x3_1) ≤ 90
                    · rw [if_pos c43] at H
                      have c43b0 : decide ((bt a0 x3_1) ≤ 90) = true := decide_eq_true c43
                      clear c43
                      have H' := Aside0.mk H
                      clear H
                      have p9 : 0 ≤ (x3_1 : Int) := of_decide_eq_true (by first | (with_reducible assumption) | assumption)
                      have q9 : x3_1 < (a0.size : Int) := of_decide_eq_true (by first | (with_reducible assumption) | assumption)
                      have hx9 := bt_at a0 x3_1
                      replace p9 := eq_true p9
                      replace q9 := eq_true q9
                      go_wp2
                      go_roundg kj1
                      case measure => have := HK1.out; have := HJ1.out; omega
                      case rel => exact ⟨(wrap64 (x3_1 + 1)), (by first | rfl | (simp; done) | (simp [*]; done)), H', ⟨by have := HK1.out; have := HJ1.out; omega⟩, by repeat (first | exact Drawn0.refl _ | apply Drawn0.step)⟩
                    · rw [if_neg c43] at H
                      have c43b0 : decide ((bt a0 x3_1) ≤ 90) = false := decide_eq_false c43
                      clear c43
                      by_cases c44 : (bt a0 x3_1) ≥ 48
                      · rw [if_pos c44] at H
                        have c44b0 : decide (48 ≤ (bt a0 x3_1)) = true := decide_eq_true c44
                        clear c44
                        by_cases c45 : (bt a0 x3_1) ≤ 57
                        · rw [if_pos c45] at H
                          have c45b0 : decide ((bt a0 x3_1) ≤ 57) = true := decide_eq_true c45
                          clear c45
                          have H' := Aside0.mk H
                          clear H
                          have p9 : 0 ≤ (x3_1 : Int) := of_decide_eq_true (by first | (with_reducible assumption) | assumption)
                          have q9 : x3_1 < (a0.size : Int) := of_decide_eq_true (by first | (with_reducible assumption) | assumption)
                          have hx9 := bt_at a0 x3_1
                          replace p9 := eq_true p9
                          replace q9 := eq_true q9
                          go_wp2
                          go_roundg kj1
                          case measure => have := HK1.out; have := HJ1.out; omega
                          case rel => exact ⟨(wrap64 (x3_1 + 1)), (by first | rfl | (simp; done) | (simp [*]; done)), H', ⟨by have := HK1.out; have := HJ1.out; omega⟩, by repeat (first | exact Drawn0.refl _ | apply Drawn0.step)⟩
                        · rw [if_neg c45] at H
                          have c45b0 : decide ((bt a0 x3_1) ≤ 57) = false := decide_eq_false c45
                          clear c45
                          by_cases c46 : (bt a0 x3_1) = 45
                          · rw [if_pos c46] at H
                            have c46b0 : ((bt a0 x3_1) == 45) = true := beq_iff_eq.mpr c46
                            have c46b1 : ((bt a0 x3_1) != 45) = false := bne_eq_false_iff_eq.mpr c46
                            clear c46
                            have H' := Aside0.mk H
                            clear H
                            have p9 : 0 ≤ (x3_1 : Int) := of_decide_eq_true (by first | (with_reducible assumption) | assumption)
                            have q9 : x3_1 < (a0.size : Int) := of_decide_eq_true (by first | (with_reducible assumption) | assumption)
                            have hx9 := bt_at a0 x3_1
                            replace p9 := eq_true p9
                            replace q9 := eq_true q9
                            go_wp2
                            go_roundg kj1
                            case measure => have := HK1.out; have := HJ1.out; omega
                            case rel => exact ⟨(wrap64 (x3_1 + 1)), (by first | rfl | (simp; done) | (simp [*]; done)), H', ⟨by have := HK1.out; have := HJ1.out; omega⟩, by repeat (first | exact Drawn0.refl _ | apply Drawn0.step)⟩
                          · rw [if_neg c46] at H
                            have c46b0 : ((bt a0 x3_1) == 45) = false := beq_eq_false_iff_ne.mpr c46
                            have c46b1 : ((bt a0 x3_1) != 45) = true := bne_iff_ne.mpr c46
                            by_cases c47 : (bt a0 x3_1) = 46
                            · rw [if_pos c47] at H
                              have c47b0 : ((bt a0 x3_1) == 46) = true := beq_iff_eq.mpr c47
                              have c47b1 : ((bt a0 x3_1) != 46) = false := bne_eq_false_iff_eq.mpr c47
                              clear c47
                              have H' := Aside0.mk H
                              clear H
                              have p9 : 0 ≤ (x3_1 : Int) := of_decide_eq_true (by first | (with_reducible assumption) | assumption)
                              have q9 : x3_1 < (a0.size : Int) := of_decide_eq_true (by first | (with_reducible assumption) | assumption)
                              have hx9 := bt_at a0 x3_1
                              replace p9 := eq_true p9
                              replace q9 := eq_true q9
                              go_wp2
                              go_roundg kj1
                              case measure => have := HK1.out; have := HJ1.out; omega
                              case rel => exact ⟨(wrap64 (x3_1 + 1)), (by first | rfl | (simp; done) | (simp [*]; done)), H', ⟨by have := HK1.out; have := HJ1.out; omega⟩, by repeat (first | exact Drawn0.refl _ | apply Drawn0.step)⟩
                            · rw [if_neg c47] at H
                              have c47b0 : ((bt a0 x3_1) == 46) = false := beq_eq_false_iff_ne.mpr c47
                              have c47b1 : ((bt a0 x3_1) != 46) = true := bne_iff_ne.mpr c47
                              by_cases c48 : (bt a0 x3_1) = 95
                              · rw [if_pos c48] at H
                                have c48b0 : ((bt a0 x3_1) == 95) = true := beq_iff_eq.mpr c48
                                have c48b1 : ((bt a0 x3_1) != 95) = false := bne_eq_false_iff_eq.mpr c48
                                clear c48
                                have H' := Aside0.mk H
                                clear H
                                have p9 : 0 ≤ (x3_1 : Int) := of_decide_eq_true (by first | (with_reducible assumption) | assumption)
                                have q9 : x3_1 < (a0.size : Int) := of_decide_eq_true (by first | (with_reducible assumption) | assumption)
                                have hx9 := bt_at a0 x3_1
                                replace p9 := eq_true p9
                                replace q9 := eq_true q9
                                go_wp2
                                go_roundg kj1
                                case measure => have := HK1.out; have := HJ1.out; omega
                                case rel => exact ⟨(wrap64 (x3_1 + 1)), (by first | rfl | (simp; done) | (simp [*]; done)), H', ⟨by have := HK1.out; have := HJ1.out; omega⟩, by repeat (first | exact Drawn0.refl _ | apply Drawn0.step)⟩
                              · rw [if_neg c48] at H
                                have c48b0 : ((bt a0 x3_1) == 95) = false := beq_eq_false_iff_ne.mpr c48
                                have c48b1 : ((bt a0 x3_1) != 95) = true := bne_iff_ne.mpr c48
                                by_cases c49 : (bt a0 x3_1) = 126
                                · rw [if_pos c49] at H
                                  have c49b0 : ((bt a0 x3_1) == 126) = true := beq_iff_eq.mpr c49
                                  have c49b1 : ((bt a0 x3_1) != 126) = false := bne_eq_false_iff_eq.mpr c49
                                  clear c49
                                  have H' := Aside0.mk H
                                  clear H
                                  have p9 : 0 ≤ (x3_1 : Int) := of_decide_eq_true (by first | (with_reducible assumption) | assumption)
                                  have q9 : x3_1 < (a0.size : Int) := of_decide_eq_true (by first | (with_reducible assumption) | assumption)
                                  have hx9 := bt_at a0 x3_1
                                  replace p9 := eq_true p9
                                  replace q9 := eq_true q9
                                  go_wp2
                                  go_roundg kj1
                                  case measure => have := HK1.out; have := HJ1.out; omega
                                  case rel => exact ⟨(wrap64 (x3_1 + 1)), (by first | rfl | (simp; done) | (simp [*]; done)), H', ⟨by have := HK1.out; have := HJ1.out; omega⟩, by repeat (first | exact Drawn0.refl _ | apply Drawn0.step)⟩
                                · rw [if_neg c49] at H
                                  have c49b0 : ((bt a0 x3_1) == 126) = false := beq_eq_false_iff_ne.mpr c49
                                  have c49b1 : ((bt a0 x3_1) != 126) = true := bne_iff_ne.mpr c49
                                  by_cases c50 : (bt a0 x3_1) = 43
                                  · rw [if_pos c50] at H
                                    have c50b0 : ((bt a0 x3_1) == 43) = true := beq_iff_eq.mpr c50
                                    have c50b1 : ((bt a0 x3_1) != 43) = false := bne_eq_false_iff_eq.mpr c50
                                    clear c50
                                    have H' := Aside0.mk H
                                    clear H
                                    have p9 : 0 ≤ (x3_1 : Int) := of_decide_eq_true (by first | (with_reducible assumption) | assumption)
                                    have q9 : x3_1 < (a0.size : Int) := of_decide_eq_true (by first | (with_reducible assumption) | assumption)
                                    have hx9 := bt_at a0 x3_1
                                    replace p9 := eq_true p9
                                    replace q9 := eq_true q9
                                    go_wp2
                                    go_roundg kj1
                                    case measure => have := HK1.out; have := HJ1.out; omega
                                    case rel => exact ⟨(wrap64 (x3_1 + 1)), (by first | rfl | (simp; done) | (simp [*]; done)), H', ⟨by have := HK1.out; have := HJ1.out; omega⟩, by repeat (first | exact Drawn0.refl _ | apply Drawn0.step)⟩
                                  · rw [if_neg c50] at H
                                    have c50b0 : ((bt a0 x3_1) == 43) = false := beq_eq_false_iff_ne.mpr c50
                                    have c50b1 : ((bt a0 x3_1) != 43) = true := bne_iff_ne.mpr c50
                                    by_cases c51 : ((bt a0 x3_1) = 47)
                                    · rw [if_pos c51] at H
                                      have c51b0 : ((bt a0 x3_1) == 47) = true := beq_iff_eq.mpr c51
                                      have c51b1 : ((bt a0 x3_1) != 47) = false := bne_eq_false_iff_eq.mpr c51
                                      clear c51
                                      have H' := Aside0.mk H
                                      clear H
                                      have p9 : 0 ≤ (x3_1 : Int) := of_decide_eq_true (by first | (with_reducible assumption) | assumption)
                                      have q9 : x3_1 < (a0.size : Int) := of_decide_eq_true (by first | (with_reducible assumption) | assumption)
                                      have hx9 := bt_at a0 x3_1
                                      replace p9 := eq_true p9
                                      replace q9 := eq_true q9
                                      go_wp2
                                      go_roundg kj1
                                      case measure => have := HK1.out; have := HJ1.out; omega
                                      case rel => exact ⟨(wrap64 (x3_1 + 1)), (by first | rfl | (simp; done) | (simp [*]; done)), H', ⟨by have := HK1.out; have := HJ1.out; omega⟩, by repeat (first | exact Drawn0.refl _ | apply Drawn0.step)⟩
                                    · rw [if_neg c51] at H
                                      have c51b0 : ((bt a0 x3_1) == 47) = false := beq_eq_false_iff_ne.mpr c51
                                      have c51b1 : ((bt a0 x3_1) != 47) = true := bne_iff_ne.mpr c51
                                      obtain rfl := Option.some.inj H
                                      have p9 : 0 ≤ (x3_1 : Int) := of_decide_eq_true (by first | (with_reducible assumption) | assumption)
                                      have q9 : x3_1 < (a0.size : Int) := of_decide_eq_true (by first | (with_reducible assumption) | assumption)
                                      have hx9 := bt_at a0 x3_1
                                      replace p9 := eq_true p9
                                      replace q9 := eq_true q9
                                      go_wp2
                                      go_ret
                                      exact ⟨by first | rfl | (simp; done) | (simp [*]; done), by repeat (first | exact Drawn0.refl _ | apply Drawn0.step)⟩
                      · rw [if_neg c44] at H
                        have c44b0 : decide (48 ≤ (bt a0 x3_1)) = false := decide_eq_false c44
                        clear c44
                        by_cases c52 : (bt a0 x3_1) = 45
                        · rw [if_pos c52] at H
                          have c52b0 : ((bt a0 x3_1) == 45) = true := beq_iff_eq.mpr c52
                          have c52b1 : ((bt a0 x3_1) != 45) = false := bne_eq_false_iff_eq.mpr c52
                          clear c52
                          have H' := Aside0.mk H
                          clear H
                          have p9 : 0 ≤ (x3_1 : Int) := of_decide_eq_true (by first | (with_reducible assumption) | assumption)
                          have q9 : x3_1 < (a0.size : Int) := of_decide_eq_true (by first | (with_reducible assumption) | assumption)
                          have hx9 := bt_at a0 x3_1
                          replace p9 := eq_true p9
                          replace q9 := eq_true q9
                          go_wp2
                          go_roundg kj1
                          case measure => have := HK1.out; have := HJ1.out; omega
                          case rel => exact ⟨(wrap64 (x3_1 + 1)), (by first | rfl | (simp; done) | (simp [*]; done)), H', ⟨by have := HK1.out; have := HJ1.out; omega⟩, by repeat (first | exact Drawn0.refl _ | apply Drawn0.step)⟩
                        · rw [if_neg c52] at H
                          have c52b0 : ((bt a0 x3_1) == 45) = false := beq_eq_false_iff_ne.mpr c52
                          have c52b1 : ((bt a0 x3_1) != 45) = true := bne_iff_ne.mpr c52
                          by_cases c53 : (bt a0 x3_1) = 46
                          · rw [if_pos c53] at H
                            have c53b0 : ((bt a0 x3_1) == 46) = true := beq_iff_eq.mpr c53
                            have c53b1 : ((bt a0 x3_1) != 46) = false := bne_eq_false_iff_eq.mpr c53
                            clear c53
                            have H' := Aside0.mk H
                            clear H
                            have p9 : 0 ≤ (x3_1 : Int) := of_decide_eq_true (by first | (with_reducible assumption) | assumption)
                            have q9 : x3_1 < (a0.size : Int) := of_decide_eq_true (by first | (with_reducible assumption) | assumption)
                            have hx9 := bt_at a0 x3_1
                            replace p9 := eq_true p9
                            replace q9 := eq_true q9
                            go_wp2
                            go_roundg kj1
                            case measure => have := HK1.out; have := HJ1.out; omega
                            case rel => exact ⟨(wrap64 (x3_1 + 1)), (by first | rfl | (simp; done) | (simp [*]; done)), H', ⟨by have := HK1.out; have := HJ1.out; omega⟩, by repeat (first | exact Drawn0.refl _ | apply Drawn0.step)⟩
                          · rw [if_neg c53] at H
                            have c53b0 : ((bt a0 x3_1) == 46) = false := beq_eq_false_iff_ne.mpr c53
                            have c53b1 : ((bt a0 x3_1) != 46) = true := bne_iff_ne.mpr c53
                            by_cases c54 : (bt a0 x3_1) = 95
                            · rw [if_pos c54] at H
                              have c54b0 : ((bt a0 x3_1) == 95) = true := beq_iff_eq.mpr c54
                              have c54b1 : ((bt a0 x3_1) != 95) = false := bne_eq_false_iff_eq.mpr c54
                              clear c54
                              have H' := Aside0.mk H
                              clear H
                              have p9 : 0 ≤ (x3_1 : Int) := of_decide_eq_true (by first | (with_reducible assumption) | assumption)
                              have q9 : x3_1 < (a0.size : Int) := of_decide_eq_true (by first | (with_reducible assumption) | assumption)
                              have hx9 := bt_at a0 x3_1
                              replace p9 := eq_true p9
                              replace q9 := eq_true q9
                              go_wp2
                              go_roundg kj1
                              case measure => have := HK1.out; have := HJ1.out; omega
                              case rel => exact ⟨(wrap64 (x3_1 + 1)), (by first | rfl | (simp; done) | (simp [*]; done)), H', ⟨by have := HK1.out; have := HJ1.out; omega⟩, by repeat (first | exact Drawn0.refl _ | apply Drawn0.step)⟩
                            · rw [if_neg c54] at H
                              have c54b0 : ((bt a0 x3_1) == 95) = false := beq_eq_false_iff_ne.mpr c54
                              have c54b1 : ((bt a0 x3_1) != 95) = true := bne_iff_ne.mpr c54
                              by_cases c55 : (bt a0 x3_1) = 126
                              · rw [if_pos c55] at H
                                have c55b0 : ((bt a0 x3_1) == 126) = true := beq_iff_eq.mpr c55
                                have c55b1 : ((bt a0 x3_1) != 126) = false := bne_eq_false_iff_eq.mpr c55
                                clear c55
                                have H' := Aside0.mk H
                                clear H
                                have p9 : 0 ≤ (x3_1 : Int) := of_decide_eq_true (by first | (with_reducible assumption) | assumption)
                                have q9 : x3_1 < (a0.size : Int) := of_decide_eq_true (by first | (with_reducible assumption) | assumption)
                                have hx9 := bt_at a0 x3_1
                                replace p9 := eq_true p9
                                replace q9 := eq_true q9
                                go_wp2
                                go_roundg kj1
                                case measure => have := HK1.out; have := HJ1.out; omega
                                case rel => exact ⟨(wrap64 (x3_1 + 1)), (by first | rfl | (simp; done) | (simp [*]; done)), H', ⟨by have := HK1.out; have := HJ1.out; omega⟩, by repeat (first | exact Drawn0.refl _ | apply Drawn0.step)⟩
                              · rw [if_neg c55] at H
                                have c55b0 : ((bt a0 x3_1) == 126) = false := beq_eq_false_iff_ne.mpr c55
                                have c55b1 : ((bt a0 x3_1) != 126) = true := bne_iff_ne.mpr c55
                                by_cases c56 : (bt a0 x3_1) = 43
                                · rw [if_pos c56] at H
                                  have c56b0 : ((bt a0 x3_1) == 43) = true := beq_iff_eq.mpr c56
                                  have c56b1 : ((bt a0 x3_1) != 43) = false := bne_eq_false_iff_eq.mpr c56
                                  clear c56
                                  have H' := Aside0.mk H
                                  clear H
                                  have p9 : 0 ≤ (x3_1 : Int) := of_decide_eq_true (by first | (with_reducible assumption) | assumption)
                                  have q9 : x3_1 < (a0.size : Int) := of_decide_eq_true (by first | (with_reducible assumption) | assumption)
                                  have hx9 := bt_at a0 x3_1
                                  replace p9 := eq_true p9
                                  replace q9 := eq_true q9
                                  go_wp2
                                  go_roundg kj1
                                  case measure => have := HK1.out; have := HJ1.out; omega
                                  case rel => exact ⟨(wrap64 (x3_1 + 1)), (by first | rfl | (simp; done) | (simp [*]; done)), H', ⟨by have := HK1.out; have := HJ1.out; omega⟩, by repeat (first | exact Drawn0.refl _ | apply Drawn0.step)⟩
                                · rw [if_neg c56] at H
                                  have c56b0 : ((bt a0 x3_1) == 43) = false := beq_eq_false_iff_ne.mpr c56
                                  have c56b1 : ((bt a0 x3_1) != 43) = true := bne_iff_ne.mpr c56
                                  by_cases c57 : ((bt a0 x3_1) = 47)
                                  · rw [if_pos c57] at H
                                    have c57b0 : ((bt a0 x3_1) == 47) = true := beq_iff_eq.mpr c57
                                    have c57b1 : ((bt a0 x3_1) != 47) = false := bne_eq_false_iff_eq.mpr c57
                                    clear c57
                                    have H' := Aside0.mk H
                                    clear H
                                    have p9 : 0 ≤ (x3_1 : Int) := of_decide_eq_true (by first | (with_reducible assumption) | assumption)
                                    have q9 : x3_1 < (a0.size : Int) := of_decide_eq_true (by first | (with_reducible assumption) | assumption)
                                    have hx9 := bt_at a0 x3_1
                                    replace p9 := eq_true p9
                                    replace q9 := eq_true q9
                                    go_wp2
                                    go_roundg kj1
                                    case measure => have := HK1.out; have := HJ1.out; omega
                                    case rel => exact ⟨(wrap64 (x3_1 + 1)), (by first | rfl | (simp; done) | (simp [*]; done)), H', ⟨by have := HK1.out; have := HJ1.out; omega⟩, by repeat (first | exact Drawn0.refl _ | apply Drawn0.step)⟩
                                  · rw [if_neg c57] at H
                                    have c57b0 : ((bt a0 x3_1) == 47) = false := beq_eq_false_iff_ne.mpr c57
                                    have c57b1 : ((bt a0 x3_1) != 47) = true := bne_iff_ne.mpr c57
                                    obtain rfl := Option.some.inj H
                                    have p9 : 0 ≤ (x3_1 : Int) := of_decide_eq_true (by first | (with_reducible assumption) | assumption)
                                    have q9 : x3_1 < (a0.size : Int) := of_decide_eq_true (by first | (with_reducible assumption) | assumption)
                                    have hx9 := bt_at a0 x3_1
                                    replace p9 := eq_true p9
                                    replace q9 := eq_true q9
                                    go_wp2
                                    go_ret
                                    exact ⟨by first | rfl | (simp; done) | (simp [*]; done), by repeat (first | exact Drawn0.refl _ | apply Drawn0.step)⟩
                  · rw [if_neg c42] at H
                    have c42b0 : decide (65 ≤ (bt a0 x3_1)) = false := decide_eq_false c42
                    clear c42
                    by_cases c58 : (bt a0 x3_1) ≥ 48
                    · rw [if_pos c58] at H
                      have c58b0 : decide (48 ≤ (bt a0 x3_1)) = true := decide_eq_true c58
                      clear c58
                      by_cases c59 : (bt a0 x3_1) ≤ 57
                      · rw [if_pos c59] at H
                        have c59b0 : decide ((bt a0 x3_1) ≤ 57) = true := decide_eq_true c59
                        clear c59
                        have H' := Aside0.mk H
                        clear H
                        have p9 : 0 ≤ (x3_1 : Int) := of_decide_eq_true (by first | (with_reducible assumption) | assumption)
                        have q9 : x3_1 < (a0.size : Int) := of_decide_eq_true (by first | (with_reducible assumption) | assumption)
                        have hx9 := bt_at a0 x3_1
                        replace p9 := eq_true p9
                        replace q9 := eq_true q9
                        go_wp2
                        go_roundg kj1
                        case measure => have := HK1.out; have := HJ1.out; omega
                        case rel => exact ⟨(wrap64 (x3_1 + 1)), (by first | rfl | (simp; done) | (simp [*]; done)), H', ⟨by have := HK1.out; have := HJ1.out; omega⟩, by repeat (first | exact Drawn0.refl _ | apply Drawn0.step)⟩
                      · rw [if_neg c59] at H
                        have c59b0 : decide ((bt a0 x3_1) ≤ 57) = false := decide_eq_false c59
                        clear c59
                        by_cases c60 : (bt a0 x3_1) = 45
                        · rw [if_pos c60] at H
                          have c60b0 : ((bt a0 x3_1) == 45) = true := beq_iff_eq.mpr c60
                          have c60b1 : ((bt a0 x3_1) != 45) = false := bne_eq_false_iff_eq.mpr c60
                          clear c60
                          have H' := Aside0.mk H
                          clear H
                          have p9 : 0 ≤ (x3_1 : Int) := of_decide_eq_true (by first | (with_reducible assumption) | assumption)
                          have q9 : x3_1 < (a0.size : Int) := of_decide_eq_true (by first | (with_reducible assumption) | assumption)
                          have hx9 := bt_at a0 x3_1
                          replace p9 := eq_true p9
                          replace q9 := eq_true q9
                          go_wp2
                          go_roundg kj1
                          case measure => have := HK1.out; have := HJ1.out; omega
                          case rel => exact ⟨(wrap64 (x3_1 + 1)), (by first | rfl | (simp; done) | (simp [*]; done)), H', ⟨by have := HK1.out; have := HJ1.out; omega⟩, by repeat (first | exact Drawn0.refl _ | apply Drawn0.step)⟩
                        · rw [if_neg c60] at H
                          have c60b0 : ((bt a0 x3_1) == 45) = false := beq_eq_false_iff_ne.mpr c60
                          have c60b1 : ((bt a0 x3_1) != 45) = true := bne_iff_ne.mpr c60
                          by_cases c61 : (bt a0 x3_1) = 46
                          · rw [if_pos c61] at H
                            have c61b0 : ((bt a0 x3_1) == 46) = true := beq_iff_eq.mpr c61
                            have c61b1 : ((bt a0 x3_1) != 46) = false := bne_eq_false_iff_eq.mpr c61
                            clear c61
                            have H' := Aside0.mk H
                            clear H
                            have p9 : 0 ≤ (x3_1 : Int) := of_decide_eq_true (by first | (with_reducible assumption) | assumption)
                            have q9 : x3_1 < (a0.size : Int) := of_decide_eq_true (by first | (with_reducible assumption) | assumption)
                            have hx9 := bt_at a0 x3_1
                            replace p9 := eq_true p9
                            replace q9 := eq_true q9
                            go_wp2
                            go_roundg kj1
                            case measure => have := HK1.out; have := HJ1.out; omega
                            case rel => exact ⟨(wrap64 (x3_1 + 1)), (by first | rfl | (simp; done) | (simp [*]; done)), H', ⟨by have := HK1.out; have := HJ1.out; omega⟩, by repeat (first | exact Drawn0.refl _ | apply Drawn0.step)⟩
                          · rw [if_neg c61] at H
                            have c61b0 : ((bt a0 x3_1) == 46) = false := beq_eq_false_iff_ne.mpr c61
                            have c61b1 : ((bt a0 x3_1) != 46) = true := bne_iff_ne.mpr c61
                            by_cases c62 : (bt a0 x3_1) = 95
                            · rw [if_pos c62] at H
                              have c62b0 : ((bt a0 x3_1) == 95) = true := beq_iff_eq.mpr c62
                              have c62b1 : ((bt a0 x3_1) != 95) = false := bne_eq_false_iff_eq.mpr c62
                              clear c62
                              have H' := Aside0.mk H
                              clear H
                              have p9 : 0 ≤ (x3_1 : Int) := of_decide_eq_true (by first | (with_reducible assumption) | assumption)
                              have q9 : x3_1 < (a0.size : Int) := of_decide_eq_true (by first | (with_reducible assumption) | assumption)
                              have hx9 := bt_at a0 x3_1
                              replace p9 := eq_true p9
                              replace q9 := eq_true q9
                              go_wp2
                              go_roundg kj1
                              case measure => have := HK1.out; have := HJ1.out; omega
                              case rel => exact ⟨(wrap64 (x3_1 + 1)), (by first | rfl | (simp; done) | (simp [*]; done)), H', ⟨by have := HK1.out; have := HJ1.out; omega⟩, by repeat (first | exact Drawn0.refl _ | apply Drawn0.step)⟩
                            · rw [if_neg c62] at H
                              have c62b0 : ((bt a0 x3_1) == 95) = false := beq_eq_false_iff_ne.mpr c62
                              have c62b1 : ((bt a0 x3_1) != 95) = true := bne_iff_ne.mpr c62
                              by_cases c63 : (bt a0 x3_1) = 126
                              · rw [if_pos c63] at H
                                have c63b0 : ((bt a0 x3_1) == 126) = true := beq_iff_eq.mpr c63
                                have c63b1 : ((bt a0 x3_1) != 126) = false := bne_eq_false_iff_eq.mpr c63
                                clear c63
                                have H' := Aside0.mk H
                                clear H
                                have p9 : 0 ≤ (x3_1 : Int) := of_decide_eq_true (by first | (with_reducible assumption) | assumption)
                                have q9 : x3_1 < (a0.size : Int) := of_decide_eq_true (by first | (with_reducible assumption) | assumption)
                                have hx9 := bt_at a0 x3_1
                                replace p9 := eq_true p9
                                replace q9 := eq_true q9
                                go_wp2
                                go_roundg kj1
                                case measure => have := HK1.out; have := HJ1.out; omega
                                case rel => exact ⟨(wrap64 (x3_1 + 1)), (by first | rfl | (simp; done) | (simp [*]; done)), H', ⟨by have := HK1.out; have := HJ1.out; omega⟩, by repeat (first | exact Drawn0.refl _ | apply Drawn0.step)⟩
                              · rw [if_neg c63] at H
                                have c63b0 : ((bt a0 x3_1) == 126) = false := beq_eq_false_iff_ne.mpr c63
                                have c63b1 : ((bt a0 x3_1) != 126) = true := bne_iff_ne.mpr c63
                                by_cases c64 : (bt a0 x3_1) = 43
                                · rw [if_pos c64] at H
                                  have c64b0 : ((bt a0 x3_1) == 43) = true := beq_iff_eq.mpr c64
                                  have c64b1 : ((bt a0 x3_1) != 43) = false := bne_eq_false_iff_eq.mpr c64
                                  clear c64
                                  have H' := Aside0.mk H
                                  clear H
                                  have p9 : 0 ≤ (x3_1 : Int) := of_decide_eq_true (by first | (with_reducible assumption) | assumption)
                                  have q9 : x3_1 < (a0.size : Int) := of_decide_eq_true (by first | (with_reducible assumption) | assumption)
                                  have hx9 := bt_at a0 x3_1
                                  replace p9 := eq_true p9
                                  replace q9 := eq_true q9
                                  go_wp2
                                  go_roundg kj1
                                  case measure => have := HK1.out; have := HJ1.out; omega
                                  case rel => exact ⟨(wrap64 (x3_1 + 1)), (by first | rfl | (simp; done) | (simp [*]; done)), H', ⟨by have := HK1.out; have := HJ1.out; omega⟩, by repeat (first | exact Drawn0.refl _ | apply Drawn0.step)⟩
                                · rw [if_neg c64] at H
                                  have c64b0 : ((bt a0 x3_1) == 43) = false := beq_eq_false_iff_ne.mpr c64
                                  have c64b1 : ((bt a0 x3_1) != 43) = true := bne_iff_ne.mpr c64
                                  by_cases c65 : ((bt a0 x3_1) = 47)
                                  · rw [if_pos c65] at H
                                    have c65b0 : ((bt a0 x3_1) == 47) = true := beq_iff_eq.mpr c65
                                    have c65b1 : ((bt a0 x3_1) != 47) = false := bne_eq_false_iff_eq.mpr c65
                                    clear c65
                                    have H' := Aside0.mk H
                                    clear H
                                    have p9 : 0 ≤ (x3_1 : Int) := of_decide_eq_true (by first | (with_reducible assumption) | assumption)
                                    have q9 : x3_1 < (a0.size : Int) := of_decide_eq_true (by first | (with_reducible assumption) | assumption)
                                    have hx9 := bt_at a0 x3_1
                                    replace p9 := eq_true p9
                                    replace q9 := eq_true q9
                                    go_wp2
                                    go_roundg kj1
                                    case measure => have := HK1.out; have := HJ1.out; omega
                                    case rel => exact ⟨(wrap64 (x3_1 + 1)), (by first | rfl | (simp; done) | (simp [*]; done)), H', ⟨by have := HK1.out; have := HJ1.out; omega⟩, by repeat (first | exact Drawn0.refl _ | apply Drawn0.step)⟩
                                  · rw [if_neg c65] at H
                                    have c65b0 : ((bt a0 x3_1) == 47) = false := beq_eq_false_iff_ne.mpr c65
                                    have c65b1 : ((bt a0 x3_1) != 47) = true := bne_iff_ne.mpr c65
                                    obtain rfl := Option.some.inj H
                                    have p9 : 0 ≤ (x3_1 : Int) := of_decide_eq_true (by first | (with_reducible assumption) | assumption)
                                    have q9 : x3_1 < (a0.size : Int) := of_decide_eq_true (by first | (with_reducible assumption) | assumption)
                                    have hx9 := bt_at a0 x3_1
                                    replace p9 := eq_true p9
                                    replace q9 := eq_true q9
                                    go_wp2
                                    go_ret
                                    exact ⟨by first | rfl | (simp; done) | (simp [*]; done), by repeat (first | exact Drawn0.refl _ | apply Drawn0.step)⟩
                    · rw [if_neg c58] at H
                      have c58b0 : decide (48 ≤ (bt a0 x3_1)) = false := decide_eq_false c58
                      clear c58
                      by_cases c66 : (bt a0 x3_1) = 45
                      · rw [if_pos c66] at H
                        have c66b0 : ((bt a0 x3_1) == 45) = true := beq_iff_eq.mpr c66
                        have c66b1 : ((bt a0 x3_1) != 45) = false := bne_eq_false_iff_eq.mpr c66
                        clear c66
                        have H' := Aside0.mk H
                        clear H
                        have p9 : 0 ≤ (x3_1 : Int) := of_decide_eq_true (by first | (with_reducible assumption) | assumption)
                        have q9 : x3_1 < (a0.size : Int) := of_decide_eq_true (by first | (with_reducible assumption) | assumption)
                        have hx9 := bt_at a0 x3_1
                        replace p9 := eq_true p9
                        replace q9 := eq_true q9
                        go_wp2
                        go_roundg kj1
                        case measure => have := HK1.out; have := HJ1.out; omega
                        case rel => exact ⟨(wrap64 (x3_1 + 1)), (by first | rfl | (simp; done) | (simp [*]; done)), H', ⟨by have := HK1.out; have := HJ1.out; omega⟩, by repeat (first | exact Drawn0.refl _ | apply Drawn0.step)⟩
                      · rw [if_neg c66] at H
                        have c66b0 : ((bt a0 x3_1) == 45) = false := beq_eq_false_iff_ne.mpr c66
                        have c66b1 : ((bt a0 x3_1) != 45) = true := bne_iff_ne.mpr c66
                        by_cases c67 : (bt a0 x3_1) = 46
                        · rw [if_pos c67] at H
                          have c67b0 : ((bt a0 x3_1) == 46) = true := beq_iff_eq.mpr c67
                          have c67b1 : ((bt a0 x3_1) != 46) = false := bne_eq_false_iff_eq.mpr c67
                          clear c67
                          have H' := Aside0.mk H
                          clear H
                          have p9 : 0 ≤ (x3_1 : Int) := of_decide_eq_true (by first | (with_reducible assumption) | assumption)
                          have q9 : x3_1 < (a0.size : Int) := of_decide_eq_true (by first | (with_reducible assumption) | assumption)
                          have hx9 := bt_at a0 x3_1
                          replace p9 := eq_true p9
                          replace q9 := eq_true q9
                          go_wp2
                          go_roundg kj1
                          case measure => have := HK1.out; have := HJ1.out; omega
                          case rel => exact ⟨(wrap64 (x3_1 + 1)), (by first | rfl | (simp; done) | (simp [*]; done)), H', ⟨by have := HK1.out; have := HJ1.out; omega⟩, by repeat (first | exact Drawn0.refl _ | apply Drawn0.step)⟩
                        · rw [if_neg c67] at H
                          have c67b0 : ((bt a0 x3_1) == 46) = false := beq_eq_false_iff_ne.mpr c67
                          have c67b1 : ((bt a0 x3_1) != 46) = true := bne_iff_ne.mpr c67
                          by_cases c68 : (bt a0 x3_1) = 95
                          · rw [if_pos c68] at H
                            have c68b0 : ((bt a0 x3_1) == 95) = true := beq_iff_eq.mpr c68
                            have c68b1 : ((bt a0 x3_1) != 95) = false := bne_eq_false_iff_eq.mpr c68
                            clear c68
                            have H' := Aside0.mk H
                            clear H
                            have p9 : 0 ≤ (x3_1 : Int) := of_decide_eq_true (by first | (with_reducible assumption) | assumption)
                            have q9 : x3_1 < (a0.size : Int) := of_decide_eq_true (by first | (with_reducible assumption) | assumption)
                            have hx9 := bt_at a0 x3_1
                            replace p9 := eq_true p9
                            replace q9 := eq_true q9
                            go_wp2
                            go_roundg kj1
                            case measure => have := HK1.out; have := HJ1.out; omega
                            case rel => exact ⟨(wrap64 (x3_1 + 1)), (by first | rfl | (simp; done) | (simp [*]; done)), H', ⟨by have := HK1.out; have := HJ1.out; omega⟩, by repeat (first | exact Drawn0.refl _ | apply Drawn0.step)⟩
                          · rw [if_neg c68] at H
                            have c68b0 : ((bt a0 x3_1) == 95) = false := beq_eq_false_iff_ne.mpr c68
                            have c68b1 : ((bt a0 x3_1) != 95) = true := bne_iff_ne.mpr c68
                            by_cases c69 : (bt a0 x3_1) = 126
                            · rw [if_pos c69] at H
                              have c69b0 : ((bt a0 x3_1) == 126) = true := beq_iff_eq.mpr c69
                              have c69b1 : ((bt a0 x3_1) != 126) = false := bne_eq_false_iff_eq.mpr c69
                              clear c69
                              have H' := Aside0.mk H
                              clear H
                              have p9 : 0 ≤ (x3_1 : Int) := of_decide_eq_true (by first | (with_reducible assumption) | assumption)
                              have q9 : x3_1 < (a0.size : Int) := of_decide_eq_true (by first | (with_reducible assumption) | assumption)
                              have hx9 := bt_at a0 x3_1
                              replace p9 := eq_true p9
                              replace q9 := eq_true q9
                              go_wp2
                              go_roundg kj1
                              case measure => have := HK1.out; have := HJ1.out; omega
                              case rel => exact ⟨(wrap64 (x3_1 + 1)), (by first | rfl | (simp; done) | (simp [*]; done)), H', ⟨by have := HK1.out; have := HJ1.out; omega⟩, by repeat (first | exact Drawn0.refl _ | apply Drawn0.step)⟩
                            · rw [if_neg c69] at H
                              have c69b0 : ((bt a0 x3_1) == 126) = false := beq_eq_false_iff_ne.mpr c69
                              have c69b1 : ((bt a0 x3_1) != 126) = true := bne_iff_ne.mpr c69
                              by_cases c70 : (bt a0 x3_1) = 43
                              · rw [if_pos c70] at H
                                have c70b0 : ((bt a0 x3_1) == 43) = true := beq_iff_eq.mpr c70
                                have c70b1 : ((bt a0 x3_1) != 43) = false := bne_eq_false_iff_eq.mpr c70
                                clear c70
                                have H' := Aside0.mk H
                                clear H
                                have p9 : 0 ≤ (x3_1 : Int) := of_decide_eq_true (by first | (with_reducible assumption) | assumption)
                                have q9 : x3_1 < (a0.size : Int) := of_decide_eq_true (by first | (with_reducible assumption) | assumption)
                                have hx9 := bt_at a0 x3_1
                                replace p9 := eq_true p9
                                replace q9 := eq_true q9
                                go_wp2
                                go_roundg kj1
                                case measure => have := HK1.out; have := HJ1.out; omega
                                case rel => exact ⟨(wrap64 (x3_1 + 1)), (by first | rfl | (simp; done) | (simp [*]; done)), H', ⟨by have := HK1.out; have := HJ1.out; omega⟩, by repeat (first | exact Drawn0.refl _ | apply Drawn0.step)⟩
                              · rw [if_neg c70] at H
                                have c70b0 : ((bt a0 x3_1) == 43) = false := beq_eq_false_iff_ne.mpr c70
                                have c70b1 : ((bt a0 x3_1) != 43) = true := bne_iff_ne.mpr c70
                                by_cases c71 : ((bt a0 x3_1) = 47)
                                · rw [if_pos c71] at H
                                  have c71b0 : ((bt a0 x3_1) == 47) = true := beq_iff_eq.mpr c71
                                  have c71b1 : ((bt a0 x3_1) != 47) = false := bne_eq_false_iff_eq.mpr c71
                                  clear c71
                                  have H' := Aside0.mk H
                                  clear H
                                  have p9 : 0 ≤ (x3_1 : Int) := of_decide_eq_true (by first | (with_reducible assumption) | assumption)
                                  have q9 : x3_1 < (a0.size : Int) := of_decide_eq_true (by first | (with_reducible assumption) | assumption)
                                  have hx9 := bt_at a0 x3_1
                                  replace p9 := eq_true p9
                                  replace q9 := eq_true q9
                                  go_wp2
                                  go_roundg kj1
                                  case measure => have := HK1.out; have := HJ1.out; omega
                                  case rel => exact ⟨(wrap64 (x3_1 + 1)), (by first | rfl | (simp; done) | (simp [*]; done)), H', ⟨by have := HK1.out; have := HJ1.out; omega⟩, by repeat (first | exact Drawn0.refl _ | apply Drawn0.step)⟩
                                · rw [if_neg c71] at H
                                  have c71b0 : ((bt a0 x3_1) == 47) = false := beq_eq_false_iff_ne.mpr c71
                                  have c71b1 : ((bt a0 x3_1) != 47) = true := bne_iff_ne.mpr c71
                                  obtain rfl := Option.some.inj H
                                  have p9 : 0 ≤ (x3_1 : Int) := of_decide_eq_true (by first | (with_reducible assumption) | assumption)
                                  have q9 : x3_1 < (a0.size : Int) := of_decide_eq_true (by first | (with_reducible assumption) | assumption)
                                  have hx9 := bt_at a0 x3_1
                                  replace p9 := eq_true p9
                                  replace q9 := eq_true q9
                                  go_wp2
                                  go_ret
                                  exact ⟨by first | rfl | (simp; done) | (simp [*]; done), by repeat (first | exact Drawn0.refl _ | apply Drawn0.step)⟩
              · rw [if_neg c8] at H
                exact absurd H (by simp)
            · rw [if_neg c7] at H
              exact absurd H (by simp)
          · replace c6 := Bool.eq_false_iff.mpr c6
            subst c6
            have H1 : (tollhouseref15_May.l1 kj1 a0 x3_1 x3_1) = some r := by rw [if_neg (show ¬ (false = true) by decide)] at H; exact H
            clear H
            have H := H1
            clear H1
            have H' := Aside0.mk H
            clear H
            go_wp2
            go_loopg [6] kj1 (fun kq v6 w' => ∃ (x6_3 : Int), v6 = .int .i64 x6_3 ∧ Aside0 (tollhouseref15_May.l1 kq a0 x3_1 x6_3 = some r) ∧ Aside0 (kq ≤ kj1) ∧ Drawn0 w w')
            case atStart => exact ⟨(x3_1), (by first | rfl | (simp; done) | (simp [*]; done)), H', ⟨Nat.le_refl _⟩, by repeat (first | exact Drawn0.refl _ | apply Drawn0.step)⟩
            case round =>
              clear H'
              try clear c1
              try clear p2
              try clear c4
              try clear c5
              try clear c6
              try clear p6
              try clear c7
              try clear c8
              try clear p9
              try clear q9
              try clear hx9
              try clear c10
              try clear c10b0
              try clear c41
              try clear c41b0
              try clear c41b1
              try clear c42
              try clear c42b0
              try clear c43
              try clear c43b0
              try clear c44
              try clear c44b0
              try clear c45
              try clear c45b0
              try clear c46
              try clear c46b0
              try clear c46b1
              try clear c47
              try clear c47b0
              try clear c47b1
              try clear c48
              try clear c48b0
              try clear c48b1
              try clear c49
              try clear c49b0
              try clear c49b1
              try clear c50
              try clear c50b0
              try clear c50b1
              try clear c51
              try clear c51b0
              try clear c51b1
              try clear c52
              try clear c52b0
              try clear c52b1
              try clear c53
              try clear c53b0
              try clear c53b1
              try clear c54
              try clear c54b0
              try clear c54b1
              try clear c55
              try clear c55b0
              try clear c55b1
              try clear c56
              try clear c56b0
              try clear c56b1
              try clear c57
              try clear c57b0
              try clear c57b1
              try clear c58
              try clear c58b0
              try clear c59
              try clear c59b0
              try clear c60
              try clear c60b0
              try clear c60b1
              try clear c61
              try clear c61b0
              try clear c61b1
              try clear c62
              try clear c62b0
              try clear c62b1
              try clear c63
              try clear c63b0
              try clear c63b1
              try clear c64
              try clear c64b0
              try clear c64b1
              try clear p64
              try clear c65
              try clear c65b0
              try clear c65b1
              try clear c66
              try clear c66b0
              try clear c66b1
              try clear c67
              try clear c67b0
              try clear c67b1
              try clear c68
              try clear c68b0
              try clear c68b1
              try clear c69
              try clear c69b0
              try clear c69b1
              try clear c70
              try clear c70b0
              try clear c70b1
              try clear c71
              try clear c71b0
              try clear c71b1
              try clear p9
              try clear q9
              obtain ⟨x6_3, rfl, HA, HK3, ⟨m3, rfl⟩⟩ := hrel
              cases gk with
              | zero => exact absurd HA.out (by simp [tollhouseref15_May.l1])
              | succ k3 =>
                have H := HA.out
                clear HA
                simp only [tollhouseref15_May.l1] at H
                by_cases c72 : x6_3 < (a0.size : Int)
                · rw [if_pos c72] at H
                  have c72b0 : decide (x6_3 < (a0.size : Int)) = true := decide_eq_true c72
                  clear c72
                  by_cases c73 : 0 ≤ x6_3
                  · rw [if_pos c73] at H
                    have c73b0 : decide (0 ≤ x6_3) = true := decide_eq_true c73
                    clear c73
                    by_cases c75 : (bt a0 x6_3) = 61
                    · rw [if_pos c75] at H
                      have c75b0 : ((bt a0 x6_3) == 61) = true := beq_iff_eq.mpr c75
                      have c75b1 : ((bt a0 x6_3) != 61) = false := bne_eq_false_iff_eq.mpr c75
                      clear c75
                      have H' := Aside0.mk H
                      clear H
                      have p74 : 0 ≤ (x6_3 : Int) := of_decide_eq_true (by first | (with_reducible assumption) | assumption)
                      have q74 : x6_3 < (a0.size : Int) := of_decide_eq_true (by first | (with_reducible assumption) | assumption)
                      have hx74 := bt_at a0 x6_3
                      replace p74 := eq_true p74
                      replace q74 := eq_true q74
                      go_wp2
                      go_roundg k3
                      case measure => have := HK1.out; have := HJ1.out; have := HK3.out; omega
                      case rel => exact ⟨(wrap64 (x6_3 + 1)), (by first | rfl | (simp; done) | (simp [*]; done)), H', ⟨by have := HK1.out; have := HJ1.out; have := HK3.out; omega⟩, by repeat (first | exact Drawn0.refl _ | apply Drawn0.step)⟩
                    · rw [if_neg c75] at H
                      have c75b0 : ((bt a0 x6_3) == 61) = false := beq_eq_false_iff_ne.mpr c75
                      have c75b1 : ((bt a0 x6_3) != 61) = true := bne_iff_ne.mpr c75
                      obtain rfl := Option.some.inj H
                      have p74 : 0 ≤ (x6_3 : Int) := of_decide_eq_true (by first | (with_reducible assumption) | assumption)
                      have q74 : x6_3 < (a0.size : Int) := of_decide_eq_true (by first | (with_reducible assumption) | assumption)
                      have hx74 := bt_at a0 x6_3
                      replace p74 := eq_true p74
                      replace q74 := eq_true q74
                      go_wp2
                      go_ret
                      exact ⟨by first | rfl | (simp; done) | (simp [*]; done), by repeat (first | exact Drawn0.refl _ | apply Drawn0.step)⟩
                  · rw [if_neg c73] at H
                    exact absurd H (by simp)
                · rw [if_neg c72] at H
                  have c72b0 : decide (x6_3 < (a0.size : Int)) = false := decide_eq_false c72
                  clear c72
                  by_cases c76 : x3_1 > 0
                  · rw [if_pos c76] at H
                    have c76b0 : decide (0 < x3_1) = true := decide_eq_true c76
                    clear c76
                    obtain rfl := Option.some.inj H
                    go_wp2
                    go_ret
                    exact ⟨by first | rfl | (simp; done) | (simp [*]; done), by repeat (first | exact Drawn0.refl _ | apply Drawn0.step)⟩
                  · rw [if_neg c76] at H
                    have c76b0 : decide (0 < x3_1) = false := decide_eq_false c76
                    clear c76
                    obtain rfl := Option.some.inj H
                    go_wp2
                    go_ret
                    exact ⟨by first | rfl | (simp; done) | (simp [*]; done), by repeat (first | exact Drawn0.refl _ | apply Drawn0.step)⟩

end Go.Proofs.YthmnhbalmglohaaGreatDoor.X

-- PRINTED by print.py (a twelfth state) out of the translation. Not trusted: Lean checks it.
namespace Go.Proofs.YthmnhbalmglohaaGreatDoor.X
open Go.RowKit Go.Proofs.YthmnhbalmglohaaGreatDoorW.PrintWords Go.Proofs.YthmnhbalmglohaaGreatDoorW.PrintLast Go.Proofs.YthmnhbalmglohaaGreatDoorW.PrintMore
attribute [local go_sem] max2_int min2_int max_two min_two max_three min_three max_four min_four   -- for this text's walks alone
set_option linter.unusedVariables false
set_option linter.unusedSimpArgs false
open Go.Proofs.YthmnhbalmglohaaGreatDoor.T

/-! ### tollhouseref10_labels: function 81 -/
def tollhouseref10_labels.l0 : Nat → ByteArray → List ByteArray → Int → Int → Option (List ByteArray)
  | 0, _, _, _, _ => none
  | k + 1, x0, x3, x4, x5 => if x5 ≤ (x0.size : Int) then (if x5 = (x0.size : Int) then (if 0 ≤ x4 then (if x4 ≤ x5 then (if x3.length < 8796093022208 then (tollhouseref10_labels.l0 k x0 (x3 ++ [x0.extract (x4 : Int).toNat (x5 : Int).toNat]) (wrap64 (x5 + 1)) (wrap64 (x5 + 1))) else (none)) else (none)) else (none)) else (if 0 ≤ x5 then (if x5 < (x0.size : Int) then (if (bt x0 x5) = 46 then (if 0 ≤ x4 then (if x4 ≤ x5 then (if x3.length < 8796093022208 then (tollhouseref10_labels.l0 k x0 (x3 ++ [x0.extract (x4 : Int).toNat (x5 : Int).toNat]) (wrap64 (x5 + 1)) (wrap64 (x5 + 1))) else (none)) else (none)) else (none)) else (tollhouseref10_labels.l0 k x0 x3 x4 (wrap64 (x5 + 1)))) else (none)) else (none))) else (some x3)
def tollhouseref10_labels.f (k : Nat) (a0 : ByteArray) : Option (List ByteArray) := tollhouseref10_labels.l0 k a0 ([] : List ByteArray) 0 0
theorem tollhouseref10_labels.mono_l : ∀ k, (∀ y0 y1 y2 y3, LeO (tollhouseref10_labels.l0 k y0 y1 y2 y3) (tollhouseref10_labels.l0 (k + 1) y0 y1 y2 y3))
  | 0 => fun _ _ _ _ r h => by simp [tollhouseref10_labels.l0] at h
  | k + 1 => by
    have ih0 := tollhouseref10_labels.mono_l k
    · intro y0 y1 y2 y3
      unfold tollhouseref10_labels.l0
      repeat' first
      | (with_reducible exact ih0 _ _ _ _)
      | (with_reducible exact LeO.refl _)
      | (with_reducible exact LeO.none _)
      | (with_reducible refine LeO.ite ?_ ?_)
      | (with_reducible refine LeO.bind ?_ (fun _ => ?_))
      | exact ih0 _ _ _ _
      | exact LeO.none _
      | refine LeO.ite ?_ ?_
      | refine LeO.bind ?_ (fun _ => ?_)
theorem tollhouseref10_labels.mono : ∀ a0 k, LeO (tollhouseref10_labels.f k a0) (tollhouseref10_labels.f (k + 1) a0) := by
  intro a0 k
  have ih0 := tollhouseref10_labels.mono_l k
  unfold tollhouseref10_labels.f
  repeat' first
      | (with_reducible exact ih0 _ _ _ _)
      | (with_reducible exact LeO.refl _)
      | (with_reducible exact LeO.none _)
      | (with_reducible refine LeO.ite ?_ ?_)
      | (with_reducible refine LeO.bind ?_ (fun _ => ?_))
      | exact ih0 _ _ _ _
      | exact LeO.none _
      | refine LeO.ite ?_ ?_
      | refine LeO.bind ?_ (fun _ => ?_)
set_option maxHeartbeats 8000000 in
set_option maxRecDepth 100000 in
theorem tollhouseref10_labels.calls (k : Nat) (a0 : ByteArray) (r : List ByteArray) (w : World) (HGg : Glob w) (h : tollhouseref10_labels.f k a0 = some r) :
    Calls Tryz.prog 81 #[.string a0] w fun e w' => ∃ v0_ : Value, e = .returned (v0_) ∧ Kd.R Kd.string 9 w' w.heap.size (fun _ => True) v0_ r ∧ Below w.heap.size w w' := by
  have HGl := Aside0.mk HGg
  clear HGg
  have HB := Aside0.mk (Below.refl w.heap.size w)
  have H : (tollhouseref10_labels.l0 k a0 ([] : List ByteArray) 0 0) = some r := h
  clear h
  have H' := Aside0.mk H
  clear H
  go_enter Tryz.func81, Tryz.ntmps81
  go_wp2
  go_loopg [3, 4, 5] k (fun kq v3 v4 v5 w' => ∃ (x3_1 : List ByteArray) (x4_1 : Int) (x5_1 : Int), v4 = .int .i64 x4_1 ∧ v5 = .int .i64 x5_1 ∧ Aside0 (tollhouseref10_labels.l0 kq a0 x3_1 x4_1 x5_1 = some r) ∧ Aside0 (kq ≤ k) ∧ Aside0 (Kd.R Kd.string 9 w' w.heap.size (fun _ => True) v3 x3_1) ∧ Aside0 (Below w.heap.size w w'))
  case atStart => exact ⟨(([] : List ByteArray)), (0), (0), (by first | rfl | (simp; done) | (simp [*]; done)), (by first | rfl | (simp; done) | (simp [*]; done)), H', ⟨Nat.le_refl _⟩, ⟨by first | exact Kd.R_nil _ _ _ _ _ | exact Kd.N_nil _ _ _ _ _ | exact Kd.V_nil _ _ _ _ _ | exact Kd.Q_nil _ _ _ _ _ | exact Kd.S_nil _ _ _ _ _⟩, ⟨by repeat (first | (with_reducible first | exact HB.out | apply below_alloc | apply pw_below_drewN | apply below_drew1) | exact HB.out)⟩⟩
  case round =>
    clear H'
    obtain ⟨x3_1, x4_1, x5_1, rfl, rfl, HA, HK1, HO_3, HB⟩ := hrel
    cases gk with
    | zero => exact absurd HA.out (by simp [tollhouseref10_labels.l0])
    | succ k1 =>
      have H := HA.out
      clear HA
      simp only [tollhouseref10_labels.l0] at H
      by_cases c2 : x5_1 ≤ (a0.size : Int)
      · rw [if_pos c2] at H
        have c2b0 : decide (x5_1 ≤ (a0.size : Int)) = true := decide_eq_true c2
        clear c2
        by_cases c3 : x5_1 = (a0.size : Int)
        · rw [if_pos c3] at H
          have c3b0 : (x5_1 == (a0.size : Int)) = true := beq_iff_eq.mpr c3
          have c3b1 : (x5_1 != (a0.size : Int)) = false := bne_eq_false_iff_eq.mpr c3
          clear c3
          by_cases c4 : 0 ≤ x4_1
          · rw [if_pos c4] at H
            have c4b0 := eq_true c4
            have c4b1 : decide (0 ≤ x4_1) = true := decide_eq_true c4
            clear c4
            by_cases c5 : x4_1 ≤ x5_1
            · rw [if_pos c5] at H
              have c5b0 := eq_true c5
              have c5b1 : decide (x4_1 ≤ x5_1) = true := decide_eq_true c5
              clear c5
              have c6b0 := eq_true (of_decide_eq_true (by first | (with_reducible assumption) | assumption) : x5_1 ≤ (a0.size : Int))
              by_cases c7 : x3_1.length < 8796093022208
              · rw [if_pos c7] at H
                have LMc7 := Aside0.mk c7
                clear c7
                obtain ⟨y101, hy101⟩ : ∃ y_ : List ByteArray, y_ = (x3_1 ++ [a0.extract (x4_1 : Int).toNat (x5_1 : Int).toNat]) := ⟨_, rfl⟩
                replace H : (tollhouseref10_labels.l0 k1 a0 y101 (wrap64 (x5_1 + 1)) (wrap64 (x5_1 + 1))) = some r := by first | (rw [hy101]; with_reducible exact H) | (have H2_ := (Option.bind_some _ _).symm.trans H; rw [hy101]; with_reducible exact H2_) | (have H2_ := (Option.bind_some _ _).symm.trans H; with_reducible exact H2_) | with_reducible exact H | (rw [hy101]; exact H) | exact H
                have Ny101 := Aside0.mk hy101
                clear hy101
                have H' := Aside0.mk H
                clear H
                go_wp2_with (first | ((with_reducible refine gate_builtin (b := .append) (xs := #[.tmp 22, .tmp 27]) rfl ?_); at_builtin; refine Kd.R_append Kd.string (w0 := w) w.heap.size rfl (.tmp 22) (.tmp 27) 44 9 (.string ⟨#[]⟩) 16 rfl Tryz.underlying44 info9 rfl (by decide) (by omega) u3 x3_1 (a0.extract (x4_1 : Int).toNat (x5_1 : Int).toNat) [.string (a0.extract (x4_1 : Int).toNat (x5_1 : Int).toNat)] (fun _ => True) (fun _ => False) rfl rfl ?aP (fun _ hk => hk.elim) ?aF ?aO ?aB ?aS ?aL ?_; (case aP => exact rfl); (case aB => exact (by repeat (first | (with_reducible first | exact HB.out | apply below_alloc | apply pw_below_drewN | apply below_drew1) | exact HB.out))); (case aF => exact (fun _ _ => trivial)); (case aO => exact (by (with_reducible repeat (first | apply Kd.R_alloc | apply Kd.R_drewN | apply Kd.R_drew)); exact HO_3.out)); (case aS => exact (below_size (by repeat (first | (with_reducible first | exact HB.out | apply below_alloc | apply pw_below_drewN | apply below_drew1) | exact HB.out)))); (case aL => have := LMc7.out; omega); intro v102 w8 ho hb hg hat; rw [← Ny101.out] at ho; have n0_ := Aside0.mk (hb); have n1_ := Aside0.mk (ho); clear HB; clear HO_3; have HB := n0_; have HO103 := n1_; clear n0_ n1_; clear ho hb hg hat))
                go_roundg k1
                case measure => have := HK1.out; omega
                case rel => exact ⟨(y101), (wrap64 (x5_1 + 1)), (wrap64 (x5_1 + 1)), (by first | rfl | (simp; done) | (simp [*]; done)), (by first | rfl | (simp; done) | (simp [*]; done)), H', ⟨by have := HK1.out; omega⟩, ⟨by (with_reducible repeat (first | apply Kd.R_alloc | apply Kd.R_drewN | apply Kd.R_drew)); exact HO103.out⟩, ⟨by repeat (first | (with_reducible first | exact HB.out | apply below_alloc | apply pw_below_drewN | apply below_drew1) | exact HB.out)⟩⟩
              · rw [if_neg c7] at H
                exact absurd H (by simp)
            · rw [if_neg c5] at H
              exact absurd H (by simp)
          · rw [if_neg c4] at H
            exact absurd H (by simp)
        · rw [if_neg c3] at H
          have c3b0 : (x5_1 == (a0.size : Int)) = false := beq_eq_false_iff_ne.mpr c3
          have c3b1 : (x5_1 != (a0.size : Int)) = true := bne_iff_ne.mpr c3
          by_cases c9 : 0 ≤ x5_1
          · rw [if_pos c9] at H
            have c9b0 : decide (0 ≤ x5_1) = true := decide_eq_true c9
            clear c9
            by_cases c10 : x5_1 < (a0.size : Int)
            · rw [if_pos c10] at H
              have c10b0 : decide (x5_1 < (a0.size : Int)) = true := decide_eq_true c10
              clear c10
              by_cases c12 : (bt a0 x5_1) = 46
              · rw [if_pos c12] at H
                have c12b0 : ((bt a0 x5_1) == 46) = true := beq_iff_eq.mpr c12
                have c12b1 : ((bt a0 x5_1) != 46) = false := bne_eq_false_iff_eq.mpr c12
                clear c12
                by_cases c13 : 0 ≤ x4_1
                · rw [if_pos c13] at H
                  have c13b0 := eq_true c13
                  have c13b1 : decide (0 ≤ x4_1) = true := decide_eq_true c13
                  clear c13
                  by_cases c14 : x4_1 ≤ x5_1
                  · rw [if_pos c14] at H
                    have c14b0 := eq_true c14
                    have c14b1 : decide (x4_1 ≤ x5_1) = true := decide_eq_true c14
                    clear c14
                    have c15b0 := eq_true (of_decide_eq_true (by first | (with_reducible assumption) | assumption) : x5_1 ≤ (a0.size : Int))
                    by_cases c16 : x3_1.length < 8796093022208
                    · rw [if_pos c16] at H
                      have LMc16 := Aside0.mk c16
                      clear c16
                      obtain ⟨y104, hy104⟩ : ∃ y_ : List ByteArray, y_ = (x3_1 ++ [a0.extract (x4_1 : Int).toNat (x5_1 : Int).toNat]) := ⟨_, rfl⟩
                      replace H : (tollhouseref10_labels.l0 k1 a0 y104 (wrap64 (x5_1 + 1)) (wrap64 (x5_1 + 1))) = some r := by first | (rw [hy104]; with_reducible exact H) | (have H2_ := (Option.bind_some _ _).symm.trans H; rw [hy104]; with_reducible exact H2_) | (have H2_ := (Option.bind_some _ _).symm.trans H; with_reducible exact H2_) | with_reducible exact H | (rw [hy104]; exact H) | exact H
                      have Ny104 := Aside0.mk hy104
                      clear hy104
                      have H' := Aside0.mk H
                      clear H
                      have p11 : 0 ≤ (x5_1 : Int) := of_decide_eq_true (by first | (with_reducible assumption) | assumption)
                      have q11 : x5_1 < (a0.size : Int) := of_decide_eq_true (by first | (with_reducible assumption) | assumption)
                      have hx11 := bt_at a0 x5_1
                      replace p11 := eq_true p11
                      replace q11 := eq_true q11
                      go_wp2_with (first | ((with_reducible refine gate_builtin (b := .append) (xs := #[.tmp 22, .tmp 27]) rfl ?_); at_builtin; refine Kd.R_append Kd.string (w0 := w) w.heap.size rfl (.tmp 22) (.tmp 27) 44 9 (.string ⟨#[]⟩) 16 rfl Tryz.underlying44 info9 rfl (by decide) (by omega) u3 x3_1 (a0.extract (x4_1 : Int).toNat (x5_1 : Int).toNat) [.string (a0.extract (x4_1 : Int).toNat (x5_1 : Int).toNat)] (fun _ => True) (fun _ => False) rfl rfl ?aP (fun _ hk => hk.elim) ?aF ?aO ?aB ?aS ?aL ?_; (case aP => exact rfl); (case aB => exact (by repeat (first | (with_reducible first | exact HB.out | apply below_alloc | apply pw_below_drewN | apply below_drew1) | exact HB.out))); (case aF => exact (fun _ _ => trivial)); (case aO => exact (by (with_reducible repeat (first | apply Kd.R_alloc | apply Kd.R_drewN | apply Kd.R_drew)); exact HO_3.out)); (case aS => exact (below_size (by repeat (first | (with_reducible first | exact HB.out | apply below_alloc | apply pw_below_drewN | apply below_drew1) | exact HB.out)))); (case aL => have := LMc16.out; omega); intro v105 w17 ho hb hg hat; rw [← Ny104.out] at ho; have n0_ := Aside0.mk (hb); have n1_ := Aside0.mk (ho); clear HB; clear HO_3; have HB := n0_; have HO106 := n1_; clear n0_ n1_; clear ho hb hg hat))
                      go_roundg k1
                      case measure => have := HK1.out; omega
                      case rel => exact ⟨(y104), (wrap64 (x5_1 + 1)), (wrap64 (x5_1 + 1)), (by first | rfl | (simp; done) | (simp [*]; done)), (by first | rfl | (simp; done) | (simp [*]; done)), H', ⟨by have := HK1.out; omega⟩, ⟨by (with_reducible repeat (first | apply Kd.R_alloc | apply Kd.R_drewN | apply Kd.R_drew)); exact HO106.out⟩, ⟨by repeat (first | (with_reducible first | exact HB.out | apply below_alloc | apply pw_below_drewN | apply below_drew1) | exact HB.out)⟩⟩
                    · rw [if_neg c16] at H
                      exact absurd H (by simp)
                  · rw [if_neg c14] at H
                    exact absurd H (by simp)
                · rw [if_neg c13] at H
                  exact absurd H (by simp)
              · rw [if_neg c12] at H
                have c12b0 : ((bt a0 x5_1) == 46) = false := beq_eq_false_iff_ne.mpr c12
                have c12b1 : ((bt a0 x5_1) != 46) = true := bne_iff_ne.mpr c12
                have H' := Aside0.mk H
                clear H
                have p11 : 0 ≤ (x5_1 : Int) := of_decide_eq_true (by first | (with_reducible assumption) | assumption)
                have q11 : x5_1 < (a0.size : Int) := of_decide_eq_true (by first | (with_reducible assumption) | assumption)
                have hx11 := bt_at a0 x5_1
                replace p11 := eq_true p11
                replace q11 := eq_true q11
                go_wp2
                go_roundg k1
                case measure => have := HK1.out; omega
                case rel => exact ⟨(x3_1), (x4_1), (wrap64 (x5_1 + 1)), (by first | rfl | (simp; done) | (simp [*]; done)), (by first | rfl | (simp; done) | (simp [*]; done)), H', ⟨by have := HK1.out; omega⟩, ⟨by (with_reducible repeat (first | apply Kd.R_alloc | apply Kd.R_drewN | apply Kd.R_drew)); exact HO_3.out⟩, ⟨by repeat (first | (with_reducible first | exact HB.out | apply below_alloc | apply pw_below_drewN | apply below_drew1) | exact HB.out)⟩⟩
            · rw [if_neg c10] at H
              exact absurd H (by simp)
          · rw [if_neg c9] at H
            exact absurd H (by simp)
      · rw [if_neg c2] at H
        have c2b0 : decide (x5_1 ≤ (a0.size : Int)) = false := decide_eq_false c2
        clear c2
        obtain rfl := Option.some.inj H
        go_wp2
        go_ret
        exact ⟨_, by first | rfl | (simp [errW_none, errW_some] <;> rfl) | (simp [*, errW_none, errW_some] <;> rfl), by (with_reducible repeat (first | apply Kd.R_alloc | apply Kd.R_drewN | apply Kd.R_drew)); exact HO_3.out, by repeat (first | (with_reducible first | exact HB.out | apply below_alloc | apply pw_below_drewN | apply below_drew1) | exact HB.out)⟩

end Go.Proofs.YthmnhbalmglohaaGreatDoor.X

-- PRINTED by print.py (a twelfth state) out of the translation. Not trusted: Lean checks it.
namespace Go.Proofs.YthmnhbalmglohaaGreatDoor.X
open Go.RowKit Go.Proofs.YthmnhbalmglohaaGreatDoorW.PrintWords Go.Proofs.YthmnhbalmglohaaGreatDoorW.PrintLast Go.Proofs.YthmnhbalmglohaaGreatDoorW.PrintMore
attribute [local go_sem] max2_int min2_int max_two min_two max_three min_three max_four min_four   -- for this text's walks alone
set_option linter.unusedVariables false
set_option linter.unusedSimpArgs false
open Go.Proofs.YthmnhbalmglohaaGreatDoor.T

/-! ### tollhouseref10_octet: function 82 -/
def tollhouseref10_octet.l0 : Nat → ByteArray → Int → Int → Option (Bool)
  | 0, _, _, _ => none
  | k + 1, x0, x3, x4 => if x4 < (x0.size : Int) then (if 0 ≤ x4 then (if (bt x0 x4) < 48 then (some false) else (if (bt x0 x4) > 57 then (some false) else (if x4 ≥ 3 then (some false) else (tollhouseref10_octet.l0 k x0 (wrap64 ((wrap64 (10 * x3)) + (((bt x0 x4) - 48) % 256))) (wrap64 (x4 + 1)))))) else (none)) else (if (x0.size : Int) > 0 then (if x3 ≤ 255 then (if 0 < (x0.size : Int) then (if (bt x0 0) = 48 then (some ((x0.size : Int) == 1)) else (some true)) else (none)) else (some false)) else (some false))
def tollhouseref10_octet.f (k : Nat) (a0 : ByteArray) : Option (Bool) := tollhouseref10_octet.l0 k a0 0 0
theorem tollhouseref10_octet.mono_l : ∀ k, (∀ y0 y1 y2, LeO (tollhouseref10_octet.l0 k y0 y1 y2) (tollhouseref10_octet.l0 (k + 1) y0 y1 y2))
  | 0 => fun _ _ _ r h => by simp [tollhouseref10_octet.l0] at h
  | k + 1 => by
    have ih0 := tollhouseref10_octet.mono_l k
    · intro y0 y1 y2
      unfold tollhouseref10_octet.l0
      repeat' first
      | (with_reducible exact ih0 _ _ _)
      | (with_reducible exact LeO.refl _)
      | (with_reducible exact LeO.none _)
      | (with_reducible refine LeO.ite ?_ ?_)
      | (with_reducible refine LeO.bind ?_ (fun _ => ?_))
      | exact ih0 _ _ _
      | exact LeO.none _
      | refine LeO.ite ?_ ?_
      | refine LeO.bind ?_ (fun _ => ?_)
theorem tollhouseref10_octet.mono : ∀ a0 k, LeO (tollhouseref10_octet.f k a0) (tollhouseref10_octet.f (k + 1) a0) := by
  intro a0 k
  have ih0 := tollhouseref10_octet.mono_l k
  unfold tollhouseref10_octet.f
  repeat' first
      | (with_reducible exact ih0 _ _ _)
      | (with_reducible exact LeO.refl _)
      | (with_reducible exact LeO.none _)
      | (with_reducible refine LeO.ite ?_ ?_)
      | (with_reducible refine LeO.bind ?_ (fun _ => ?_))
      | exact ih0 _ _ _
      | exact LeO.none _
      | refine LeO.ite ?_ ?_
      | refine LeO.bind ?_ (fun _ => ?_)
set_option maxHeartbeats 8000000 in
set_option maxRecDepth 100000 in
theorem tollhouseref10_octet.calls (k : Nat) (a0 : ByteArray) (r : Bool) (w : World) (HGg : Glob w) (h : tollhouseref10_octet.f k a0 = some r) :
    Calls Tryz.prog 82 #[.string a0] w fun e w' => e = .returned (.bool r) ∧ Drawn0 w w' := by
  have HGl := Aside0.mk HGg
  clear HGg
  have H : (tollhouseref10_octet.l0 k a0 0 0) = some r := h
  clear h
  have H' := Aside0.mk H
  clear H
  go_enter Tryz.func82, Tryz.ntmps82
  go_wp2
  go_loopg [3, 4] k (fun kq v3 v4 w' => ∃ (x3_1 : Int) (x4_1 : Int), v3 = .int .i64 x3_1 ∧ v4 = .int .i64 x4_1 ∧ Aside0 (tollhouseref10_octet.l0 kq a0 x3_1 x4_1 = some r) ∧ Aside0 (kq ≤ k) ∧ Drawn0 w w')
  case atStart => exact ⟨(0), (0), (by first | rfl | (simp; done) | (simp [*]; done)), (by first | rfl | (simp; done) | (simp [*]; done)), H', ⟨Nat.le_refl _⟩, by repeat (first | exact Drawn0.refl _ | apply Drawn0.step)⟩
  case round =>
    clear H'
    obtain ⟨x3_1, x4_1, rfl, rfl, HA, HK1, ⟨m1, rfl⟩⟩ := hrel
    cases gk with
    | zero => exact absurd HA.out (by simp [tollhouseref10_octet.l0])
    | succ k1 =>
      have H := HA.out
      clear HA
      simp only [tollhouseref10_octet.l0] at H
      by_cases c2 : x4_1 < (a0.size : Int)
      · rw [if_pos c2] at H
        have c2b0 : decide (x4_1 < (a0.size : Int)) = true := decide_eq_true c2
        clear c2
        by_cases c3 : 0 ≤ x4_1
        · rw [if_pos c3] at H
          have c3b0 : decide (0 ≤ x4_1) = true := decide_eq_true c3
          clear c3
          by_cases c5 : (bt a0 x4_1) < 48
          · rw [if_pos c5] at H
            have c5b0 : decide ((bt a0 x4_1) < 48) = true := decide_eq_true c5
            clear c5
            obtain rfl := Option.some.inj H
            have p4 : 0 ≤ (x4_1 : Int) := of_decide_eq_true (by first | (with_reducible assumption) | assumption)
            have q4 : x4_1 < (a0.size : Int) := of_decide_eq_true (by first | (with_reducible assumption) | assumption)
            have hx4 := bt_at a0 x4_1
            replace p4 := eq_true p4
            replace q4 := eq_true q4
            go_wp2
            go_ret
            exact ⟨by first | rfl | (simp; done) | (simp [*]; done), by repeat (first | exact Drawn0.refl _ | apply Drawn0.step)⟩
          · rw [if_neg c5] at H
            have c5b0 : decide ((bt a0 x4_1) < 48) = false := decide_eq_false c5
            clear c5
            by_cases c7 : (bt a0 x4_1) > 57
            · rw [if_pos c7] at H
              have c7b0 : decide (57 < (bt a0 x4_1)) = true := decide_eq_true c7
              clear c7
              obtain rfl := Option.some.inj H
              have p4 : 0 ≤ (x4_1 : Int) := of_decide_eq_true (by first | (with_reducible assumption) | assumption)
              have q4 : x4_1 < (a0.size : Int) := of_decide_eq_true (by first | (with_reducible assumption) | assumption)
              have hx4 := bt_at a0 x4_1
              replace p4 := eq_true p4
              replace q4 := eq_true q4
              have p6 : 0 ≤ (x4_1 : Int) := of_decide_eq_true (by first | (with_reducible assumption) | assumption)
              have q6 : x4_1 < (a0.size : Int) := of_decide_eq_true (by first | (with_reducible assumption) | assumption)
              have hx6 := bt_at a0 x4_1
              replace p6 := eq_true p6
              replace q6 := eq_true q6
              go_wp2
              go_ret
              exact ⟨by first | rfl | (simp; done) | (simp [*]; done), by repeat (first | exact Drawn0.refl _ | apply Drawn0.step)⟩
            · rw [if_neg c7] at H
              have c7b0 : decide (57 < (bt a0 x4_1)) = false := decide_eq_false c7
              clear c7
              by_cases c8 : x4_1 ≥ 3
              · rw [if_pos c8] at H
                have c8b0 : decide (3 ≤ x4_1) = true := decide_eq_true c8
                clear c8
                obtain rfl := Option.some.inj H
                have p4 : 0 ≤ (x4_1 : Int) := of_decide_eq_true (by first | (with_reducible assumption) | assumption)
                have q4 : x4_1 < (a0.size : Int) := of_decide_eq_true (by first | (with_reducible assumption) | assumption)
                have hx4 := bt_at a0 x4_1
                replace p4 := eq_true p4
                replace q4 := eq_true q4
                have p6 : 0 ≤ (x4_1 : Int) := of_decide_eq_true (by first | (with_reducible assumption) | assumption)
                have q6 : x4_1 < (a0.size : Int) := of_decide_eq_true (by first | (with_reducible assumption) | assumption)
                have hx6 := bt_at a0 x4_1
                replace p6 := eq_true p6
                replace q6 := eq_true q6
                go_wp2
                go_ret
                exact ⟨by first | rfl | (simp; done) | (simp [*]; done), by repeat (first | exact Drawn0.refl _ | apply Drawn0.step)⟩
              · rw [if_neg c8] at H
                have c8b0 : decide (3 ≤ x4_1) = false := decide_eq_false c8
                clear c8
                have H' := Aside0.mk H
                clear H
                have p4 : 0 ≤ (x4_1 : Int) := of_decide_eq_true (by first | (with_reducible assumption) | assumption)
                have q4 : x4_1 < (a0.size : Int) := of_decide_eq_true (by first | (with_reducible assumption) | assumption)
                have hx4 := bt_at a0 x4_1
                replace p4 := eq_true p4
                replace q4 := eq_true q4
                have p6 : 0 ≤ (x4_1 : Int) := of_decide_eq_true (by first | (with_reducible assumption) | assumption)
                have q6 : x4_1 < (a0.size : Int) := of_decide_eq_true (by first | (with_reducible assumption) | assumption)
                have hx6 := bt_at a0 x4_1
                replace p6 := eq_true p6
                replace q6 := eq_true q6
                have p9 : 0 ≤ (x4_1 : Int) := of_decide_eq_true (by first | (with_reducible assumption) | assumption)
                have q9 : x4_1 < (a0.size : Int) := of_decide_eq_true (by first | (with_reducible assumption) | assumption)
                have hx9 := bt_at a0 x4_1
                replace p9 := eq_true p9
                replace q9 := eq_true q9
                go_wp2
                go_roundg k1
                case measure => have := HK1.out; omega
                case rel => exact ⟨(wrap64 ((wrap64 (10 * x3_1)) + (((bt a0 x4_1) - 48) % 256))), (wrap64 (x4_1 + 1)), (by first | rfl | (simp; done) | (simp [*]; done)), (by first | rfl | (simp; done) | (simp [*]; done)), H', ⟨by have := HK1.out; omega⟩, by repeat (first | exact Drawn0.refl _ | apply Drawn0.step)⟩
        · rw [if_neg c3] at H
          exact absurd H (by simp)
      · rw [if_neg c2] at H
        have c2b0 : decide (x4_1 < (a0.size : Int)) = false := decide_eq_false c2
        clear c2
        by_cases c10 : (a0.size : Int) > 0
        · rw [if_pos c10] at H
          have c10b0 : decide (0 < (a0.size : Int)) = true := decide_eq_true c10
          have c10b1 : decide (0 < a0.size) = true := decide_eq_true (by omega)
          clear c10
          by_cases c11 : x3_1 ≤ 255
          · rw [if_pos c11] at H
            have c11b0 : decide (x3_1 ≤ 255) = true := decide_eq_true c11
            clear c11
            by_cases c12 : 0 < (a0.size : Int)
            · rw [if_pos c12] at H
              have c12b0 : decide (0 < (a0.size : Int)) = true := decide_eq_true c12
              have c12b1 : decide (0 < a0.size) = true := decide_eq_true (by omega)
              clear c12
              by_cases c14 : (bt a0 0) = 48
              · rw [if_pos c14] at H
                have c14b0 : ((bt a0 0) == 48) = true := beq_iff_eq.mpr c14
                have c14b1 : ((bt a0 0) != 48) = false := bne_eq_false_iff_eq.mpr c14
                clear c14
                obtain rfl := Option.some.inj H
                have p13 : 0 ≤ (0 : Int) := (by omega)
                have q13 : 0 < a0.size := (by have : (0 : Int) < (a0.size : Int) := of_decide_eq_true (by first | (with_reducible assumption) | assumption); omega)
                have hx13 : ∀ h : 0 < a0.size, ((a0[0]'h).toNat : Int) = bt a0 0 := bt_at a0 0
                clear p13
                have qi13 : (0 < (a0.size : Int)) = True := eq_true (of_decide_eq_true (by first | (with_reducible assumption) | assumption))
                replace q13 := eq_true q13
                go_wp2
                go_ret
                exact ⟨by first | rfl | (simp; done) | (simp [*]; done), by repeat (first | exact Drawn0.refl _ | apply Drawn0.step)⟩
              · rw [if_neg c14] at H
                have c14b0 : ((bt a0 0) == 48) = false := beq_eq_false_iff_ne.mpr c14
                have c14b1 : ((bt a0 0) != 48) = true := bne_iff_ne.mpr c14
                obtain rfl := Option.some.inj H
                have p13 : 0 ≤ (0 : Int) := (by omega)
                have q13 : 0 < a0.size := (by have : (0 : Int) < (a0.size : Int) := of_decide_eq_true (by first | (with_reducible assumption) | assumption); omega)
                have hx13 : ∀ h : 0 < a0.size, ((a0[0]'h).toNat : Int) = bt a0 0 := bt_at a0 0
                clear p13
                have qi13 : (0 < (a0.size : Int)) = True := eq_true (of_decide_eq_true (by first | (with_reducible assumption) | assumption))
                replace q13 := eq_true q13
                go_wp2
                go_ret
                exact ⟨by first | rfl | (simp; done) | (simp [*]; done), by repeat (first | exact Drawn0.refl _ | apply Drawn0.step)⟩
            · rw [if_neg c12] at H
              exact absurd H (by simp)
          · rw [if_neg c11] at H
            have c11b0 : decide (x3_1 ≤ 255) = false := decide_eq_false c11
            clear c11
            obtain rfl := Option.some.inj H
            go_wp2
            go_ret
            exact ⟨by first | rfl | (simp; done) | (simp [*]; done), by repeat (first | exact Drawn0.refl _ | apply Drawn0.step)⟩
        · rw [if_neg c10] at H
          have c10b0 : decide (0 < (a0.size : Int)) = false := decide_eq_false c10
          have c10b1 : decide (0 < a0.size) = false := decide_eq_false (by omega)
          clear c10
          obtain rfl := Option.some.inj H
          go_wp2
          go_ret
          exact ⟨by first | rfl | (simp; done) | (simp [*]; done), by repeat (first | exact Drawn0.refl _ | apply Drawn0.step)⟩

end Go.Proofs.YthmnhbalmglohaaGreatDoor.X

-- PRINTED by print.py (a twelfth state) out of the translation. Not trusted: Lean checks it.
namespace Go.Proofs.YthmnhbalmglohaaGreatDoor.X
open Go.RowKit Go.Proofs.YthmnhbalmglohaaGreatDoorW.PrintWords Go.Proofs.YthmnhbalmglohaaGreatDoorW.PrintLast Go.Proofs.YthmnhbalmglohaaGreatDoorW.PrintMore
attribute [local go_sem] max2_int min2_int max_two min_two max_three min_three max_four min_four   -- for this text's walks alone
set_option linter.unusedVariables false
set_option linter.unusedSimpArgs false
open Go.Proofs.YthmnhbalmglohaaGreatDoor.T

/-! ### tollhouseref10_number: function 83 -/
mutual
def tollhouseref10_number.j0 : Nat → ByteArray → Int → Bool → Option (Bool)
  | 0, _, _, _ => none
  | k + 1, x0, x3, x13 => if x13 = true then (tollhouseref10_number.j1 k x0 2) else (tollhouseref10_number.j1 k x0 x3)
def tollhouseref10_number.j1 : Nat → ByteArray → Int → Option (Bool)
  | 0, _, _ => none
  | k + 1, x0, x3 => tollhouseref10_number.l0 k x0 x3 x3
def tollhouseref10_number.l0 : Nat → ByteArray → Int → Int → Option (Bool)
  | 0, _, _, _ => none
  | k + 1, x0, x3, x4 => if x4 < (x0.size : Int) then (if 0 ≤ x4 then (if (bt x0 x4) ≥ 48 then (if ((bt x0 x4) ≤ 57) then (tollhouseref10_number.l0 k x0 x3 (wrap64 (x4 + 1))) else (if x3 = 0 then (some false) else (if (bt x0 x4) < 97 then (some false) else (if (bt x0 x4) > 102 then (some false) else (tollhouseref10_number.l0 k x0 x3 (wrap64 (x4 + 1))))))) else (if x3 = 0 then (some false) else (if (bt x0 x4) < 97 then (some false) else (if (bt x0 x4) > 102 then (some false) else (tollhouseref10_number.l0 k x0 x3 (wrap64 (x4 + 1))))))) else (none)) else (some true)
end
def tollhouseref10_number.f (k : Nat) (a0 : ByteArray) : Option (Bool) := if (a0.size : Int) ≥ 2 then (if 0 ≤ 2 then (if 2 ≤ (a0.size : Int) then (tollhouseref10_number.j0 k a0 0 ((a0.extract 0 2).toList == ([48, 120] : List UInt8))) else (none)) else (none)) else (tollhouseref10_number.j0 k a0 0 false)
theorem tollhouseref10_number.mono_l : ∀ k, (∀ y0 y1 y2, LeO (tollhouseref10_number.j0 k y0 y1 y2) (tollhouseref10_number.j0 (k + 1) y0 y1 y2)) ∧ (∀ y0 y1, LeO (tollhouseref10_number.j1 k y0 y1) (tollhouseref10_number.j1 (k + 1) y0 y1)) ∧ (∀ y0 y1 y2, LeO (tollhouseref10_number.l0 k y0 y1 y2) (tollhouseref10_number.l0 (k + 1) y0 y1 y2))
  | 0 => ⟨fun _ _ _ r h => by simp [tollhouseref10_number.j0] at h, fun _ _ r h => by simp [tollhouseref10_number.j1] at h, fun _ _ _ r h => by simp [tollhouseref10_number.l0] at h⟩
  | k + 1 => by
    obtain ⟨ih0, ih1, ih2⟩ := tollhouseref10_number.mono_l k
    refine ⟨?_, ?_, ?_⟩
    · intro y0 y1 y2
      unfold tollhouseref10_number.j0
      repeat' first
      | (with_reducible exact ih0 _ _ _)
      | (with_reducible exact ih1 _ _)
      | (with_reducible exact ih2 _ _ _)
      | (with_reducible exact LeO.refl _)
      | (with_reducible exact LeO.none _)
      | (with_reducible refine LeO.ite ?_ ?_)
      | (with_reducible refine LeO.bind ?_ (fun _ => ?_))
      | exact ih0 _ _ _
      | exact ih1 _ _
      | exact ih2 _ _ _
      | exact LeO.none _
      | refine LeO.ite ?_ ?_
      | refine LeO.bind ?_ (fun _ => ?_)
    · intro y0 y1
      unfold tollhouseref10_number.j1
      repeat' first
      | (with_reducible exact ih0 _ _ _)
      | (with_reducible exact ih1 _ _)
      | (with_reducible exact ih2 _ _ _)
      | (with_reducible exact LeO.refl _)
      | (with_reducible exact LeO.none _)
      | (with_reducible refine LeO.ite ?_ ?_)
      | (with_reducible refine LeO.bind ?_ (fun _ => ?_))
      | exact ih0 _ _ _
      | exact ih1 _ _
      | exact ih2 _ _ _
      | exact LeO.none _
      | refine LeO.ite ?_ ?_
      | refine LeO.bind ?_ (fun _ => ?_)
    · intro y0 y1 y2
      unfold tollhouseref10_number.l0
      repeat' first
      | (with_reducible exact ih0 _ _ _)
      | (with_reducible exact ih1 _ _)
      | (with_reducible exact ih2 _ _ _)
      | (with_reducible exact LeO.refl _)
      | (with_reducible exact LeO.none _)
      | (with_reducible refine LeO.ite ?_ ?_)
      | (with_reducible refine LeO.bind ?_ (fun _ => ?_))
      | exact ih0 _ _ _
      | exact ih1 _ _
      | exact ih2 _ _ _
      | exact LeO.none _
      | refine LeO.ite ?_ ?_
      | refine LeO.bind ?_ (fun _ => ?_)
theorem tollhouseref10_number.mono : ∀ a0 k, LeO (tollhouseref10_number.f k a0) (tollhouseref10_number.f (k + 1) a0) := by
  intro a0 k
  obtain ⟨ih0, ih1, ih2⟩ := tollhouseref10_number.mono_l k
  unfold tollhouseref10_number.f
  repeat' first
      | (with_reducible exact ih0 _ _ _)
      | (with_reducible exact ih1 _ _)
      | (with_reducible exact ih2 _ _ _)
      | (with_reducible exact LeO.refl _)
      | (with_reducible exact LeO.none _)
      | (with_reducible refine LeO.ite ?_ ?_)
      | (with_reducible refine LeO.bind ?_ (fun _ => ?_))
      | exact ih0 _ _ _
      | exact ih1 _ _
      | exact ih2 _ _ _
      | exact LeO.none _
      | refine LeO.ite ?_ ?_
      | refine LeO.bind ?_ (fun _ => ?_)
set_option maxHeartbeats 8000000 in
set_option maxRecDepth 100000 in
theorem tollhouseref10_number.calls (k : Nat) (a0 : ByteArray) (r : Bool) (w : World) (HGg : Glob w) (h : tollhouseref10_number.f k a0 = some r) :
    Calls Tryz.prog 83 #[.string a0] w fun e w' => e = .returned (.bool r) ∧ Drawn0 w w' := by
  have HGl := Aside0.mk HGg
  clear HGg
  have H : (if (a0.size : Int) ≥ 2 then (if 0 ≤ 2 then (if 2 ≤ (a0.size : Int) then (tollhouseref10_number.j0 k a0 0 ((a0.extract 0 2).toList == ([48, 120] : List UInt8))) else (none)) else (none)) else (tollhouseref10_number.j0 k a0 0 false)) = some r := h
  clear h
  have HC2 := Aside0.mk H
  clear H
  go_enter Tryz.func83, Tryz.ntmps83
  go_upto_region 2 with (fail)
  go_cut [13] (fun v13 wc => ∃ (kq : Nat) (x13_1 : Bool), v13 = .bool x13_1 ∧ Aside0 (tollhouseref10_number.j0 kq a0 0 x13_1 = some r) ∧ Aside0 (kq ≤ k) ∧ Drawn0 w wc)
  case first =>
    have H := HC2.out
    clear HC2
    by_cases c3 : (a0.size : Int) ≥ 2
    · rw [if_pos c3] at H
      have c3b0 : decide (2 ≤ (a0.size : Int)) = true := decide_eq_true c3
      have c3b1 : decide (2 ≤ a0.size) = true := decide_eq_true (by omega)
      clear c3
      (first | rw [c3b0] | (simp only [i64_w, i32_w]; rw [c3b0]) | skip)
      by_cases c4 : 0 ≤ 2
      · rw [if_pos c4] at H
        have c4b0 := eq_true c4
        have c4b1 : decide (0 ≤ 2) = true := decide_eq_true c4
        clear c4
        by_cases c5 : 2 ≤ (a0.size : Int)
        · rw [if_pos c5] at H
          have c5b0 := eq_true c5
          have c5b1 : decide (2 ≤ (a0.size : Int)) = true := decide_eq_true c5
          clear c5
          have H' := Aside0.mk H
          clear H
          go_wp2
          go_meet
          case rel => exact ⟨_, (((a0.extract 0 2).toList == ([48, 120] : List UInt8))), (by first | rfl | (simp; done) | (simp [*]; done)), H', ⟨by first | omega | exact Nat.le_refl _⟩, by repeat (first | exact Drawn0.refl _ | apply Drawn0.step)⟩
        · rw [if_neg c5] at H
          exact absurd H (by simp)
      · rw [if_neg c4] at H
        exact absurd H (by simp)
    · rw [if_neg c3] at H
      have c3b0 : decide (2 ≤ (a0.size : Int)) = false := decide_eq_false c3
      have c3b1 : decide (2 ≤ a0.size) = false := decide_eq_false (by omega)
      clear c3
      (first | rw [c3b0] | (simp only [i64_w, i32_w]; rw [c3b0]) | skip)
      have H' := Aside0.mk H
      clear H
      go_wp2
      go_meet
      case rel => exact ⟨_, (false), (by first | rfl | (simp; done) | (simp [*]; done)), H', ⟨by first | omega | exact Nat.le_refl _⟩, by repeat (first | exact Drawn0.refl _ | apply Drawn0.step)⟩
  case rest =>
    clear HC2
    try clear p2
    try clear c3
    try clear c3b0
    try clear c3b1
    try clear c4
    try clear c4b0
    try clear c4b1
    try clear c5
    try clear c5b0
    try clear c5b1
    obtain ⟨kq, x13_1, rfl, HA, HJ1, ⟨mc1, rfl⟩⟩ := hcut
    cases kq with
    | zero => exact absurd HA.out (by simp [tollhouseref10_number.j0])
    | succ kj1 =>
      have H := HA.out
      clear HA
      simp only [tollhouseref10_number.j0] at H
      have HC6 := Aside0.mk H
      clear H
      go_upto_if 13 with (fail)
      go_cut [3] (fun v3 wc => ∃ (kq : Nat) (x3_5 : Int), v3 = .int .i64 x3_5 ∧ Aside0 (tollhouseref10_number.j1 kq a0 x3_5 = some r) ∧ Aside0 (kq ≤ kj1) ∧ Drawn0 w wc)
      case first =>
        have H := HC6.out
        clear HC6
        by_cases c7 : x13_1 = true
        · subst c7
          have H1 : (tollhouseref10_number.j1 kj1 a0 2) = some r := by rw [if_pos rfl] at H; exact H
          clear H
          have H := H1
          clear H1
          have H' := Aside0.mk H
          clear H
          go_wp2
          go_meet
          case rel => exact ⟨_, (2), (by first | rfl | (simp; done) | (simp [*]; done)), H', ⟨by have := HJ1.out; first | omega | exact Nat.le_refl _⟩, by repeat (first | exact Drawn0.refl _ | apply Drawn0.step)⟩
        · replace c7 := Bool.eq_false_iff.mpr c7
          subst c7
          have H1 : (tollhouseref10_number.j1 kj1 a0 0) = some r := by rw [if_neg (show ¬ (false = true) by decide)] at H; exact H
          clear H
          have H := H1
          clear H1
          have H' := Aside0.mk H
          clear H
          go_wp2
          go_meet
          case rel => exact ⟨_, (0), (by first | rfl | (simp; done) | (simp [*]; done)), H', ⟨by have := HJ1.out; first | omega | exact Nat.le_refl _⟩, by repeat (first | exact Drawn0.refl _ | apply Drawn0.step)⟩
      case rest =>
        clear HC6
        try clear c1
        try clear p2
        try clear c3
        try clear c3b0
        try clear c3b1
        try clear c4
        try clear c4b0
        try clear c4b1
        try clear c5
        try clear c5b0
        try clear c5b1
        try clear c7
        try clear p2
        obtain ⟨kq, x3_5, rfl, HA, HJ5, ⟨mc5, rfl⟩⟩ := hcut
        cases kq with
        | zero => exact absurd HA.out (by simp [tollhouseref10_number.j1])
        | succ kj5 =>
          have H := HA.out
          clear HA
          simp only [tollhouseref10_number.j1] at H
          have H' := Aside0.mk H
          clear H
          go_wp2
          go_loopg [4] kj5 (fun kq v4 w' => ∃ (x4_3 : Int), v4 = .int .i64 x4_3 ∧ Aside0 (tollhouseref10_number.l0 kq a0 x3_5 x4_3 = some r) ∧ Aside0 (kq ≤ kj5) ∧ Drawn0 w w')
          case atStart => exact ⟨(x3_5), (by first | rfl | (simp; done) | (simp [*]; done)), H', ⟨Nat.le_refl _⟩, by repeat (first | exact Drawn0.refl _ | apply Drawn0.step)⟩
          case round =>
            clear H'
            try clear c1
            try clear p2
            try clear c3
            try clear c3b0
            try clear c3b1
            try clear c4
            try clear c4b0
            try clear c4b1
            try clear c5
            try clear c5b0
            try clear c5b1
            try clear c7
            try clear p2
            obtain ⟨x4_3, rfl, HA, HK3, ⟨m3, rfl⟩⟩ := hrel
            cases gk with
            | zero => exact absurd HA.out (by simp [tollhouseref10_number.l0])
            | succ k3 =>
              have H := HA.out
              clear HA
              simp only [tollhouseref10_number.l0] at H
              by_cases c8 : x4_3 < (a0.size : Int)
              · rw [if_pos c8] at H
                have c8b0 : decide (x4_3 < (a0.size : Int)) = true := decide_eq_true c8
                clear c8
                by_cases c9 : 0 ≤ x4_3
                · rw [if_pos c9] at H
                  have c9b0 : decide (0 ≤ x4_3) = true := decide_eq_true c9
                  clear c9
                  by_cases c11 : (bt a0 x4_3) ≥ 48
                  · rw [if_pos c11] at H
                    have c11b0 : decide (48 ≤ (bt a0 x4_3)) = true := decide_eq_true c11
                    clear c11
                    by_cases c13 : ((bt a0 x4_3) ≤ 57)
                    · rw [if_pos c13] at H
                      have c13b0 : decide ((bt a0 x4_3) ≤ 57) = true := decide_eq_true c13
                      clear c13
                      have H' := Aside0.mk H
                      clear H
                      have p10 : 0 ≤ (x4_3 : Int) := of_decide_eq_true (by first | (with_reducible assumption) | assumption)
                      have q10 : x4_3 < (a0.size : Int) := of_decide_eq_true (by first | (with_reducible assumption) | assumption)
                      have hx10 := bt_at a0 x4_3
                      replace p10 := eq_true p10
                      replace q10 := eq_true q10
                      have p12 : 0 ≤ (x4_3 : Int) := of_decide_eq_true (by first | (with_reducible assumption) | assumption)
                      have q12 : x4_3 < (a0.size : Int) := of_decide_eq_true (by first | (with_reducible assumption) | assumption)
                      have hx12 := bt_at a0 x4_3
                      replace p12 := eq_true p12
                      replace q12 := eq_true q12
                      go_wp2
                      go_roundg k3
                      case measure => have := HJ1.out; have := HJ5.out; have := HK3.out; omega
                      case rel => exact ⟨(wrap64 (x4_3 + 1)), (by first | rfl | (simp; done) | (simp [*]; done)), H', ⟨by have := HJ1.out; have := HJ5.out; have := HK3.out; omega⟩, by repeat (first | exact Drawn0.refl _ | apply Drawn0.step)⟩
                    · rw [if_neg c13] at H
                      have c13b0 : decide ((bt a0 x4_3) ≤ 57) = false := decide_eq_false c13
                      clear c13
                      by_cases c14 : x3_5 = 0
                      · rw [if_pos c14] at H
                        have c14b0 : (x3_5 == 0) = true := beq_iff_eq.mpr c14
                        have c14b1 : (x3_5 != 0) = false := bne_eq_false_iff_eq.mpr c14
                        clear c14
                        obtain rfl := Option.some.inj H
                        have p10 : 0 ≤ (x4_3 : Int) := of_decide_eq_true (by first | (with_reducible assumption) | assumption)
                        have q10 : x4_3 < (a0.size : Int) := of_decide_eq_true (by first | (with_reducible assumption) | assumption)
                        have hx10 := bt_at a0 x4_3
                        replace p10 := eq_true p10
                        replace q10 := eq_true q10
                        have p12 : 0 ≤ (x4_3 : Int) := of_decide_eq_true (by first | (with_reducible assumption) | assumption)
                        have q12 : x4_3 < (a0.size : Int) := of_decide_eq_true (by first | (with_reducible assumption) | assumption)
                        have hx12 := bt_at a0 x4_3
                        replace p12 := eq_true p12
                        replace q12 := eq_true q12
                        go_wp2
                        go_ret
                        exact ⟨by first | rfl | (simp; done) | (simp [*]; done), by repeat (first | exact Drawn0.refl _ | apply Drawn0.step)⟩
                      · rw [if_neg c14] at H
                        have c14b0 : (x3_5 == 0) = false := beq_eq_false_iff_ne.mpr c14
                        have c14b1 : (x3_5 != 0) = true := bne_iff_ne.mpr c14
                        by_cases c16 : (bt a0 x4_3) < 97
                        · rw [if_pos c16] at H
                          have c16b0 : decide ((bt a0 x4_3) < 97) = true := decide_eq_true c16
                          clear c16
                          obtain rfl := Option.some.inj H
                          have p10 : 0 ≤ (x4_3 : Int) := of_decide_eq_true (by first | (with_reducible assumption) | assumption)
                          have q10 : x4_3 < (a0.size : Int) := of_decide_eq_true (by first | (with_reducible assumption) | assumption)
                          have hx10 := bt_at a0 x4_3
                          replace p10 := eq_true p10
                          replace q10 := eq_true q10
                          have p12 : 0 ≤ (x4_3 : Int) := of_decide_eq_true (by first | (with_reducible assumption) | assumption)
                          have q12 : x4_3 < (a0.size : Int) := of_decide_eq_true (by first | (with_reducible assumption) | assumption)
                          have hx12 := bt_at a0 x4_3
                          replace p12 := eq_true p12
                          replace q12 := eq_true q12
                          have p15 : 0 ≤ (x4_3 : Int) := of_decide_eq_true (by first | (with_reducible assumption) | assumption)
                          have q15 : x4_3 < (a0.size : Int) := of_decide_eq_true (by first | (with_reducible assumption) | assumption)
                          have hx15 := bt_at a0 x4_3
                          replace p15 := eq_true p15
                          replace q15 := eq_true q15
                          go_wp2
                          go_ret
                          exact ⟨by first | rfl | (simp; done) | (simp [*]; done), by repeat (first | exact Drawn0.refl _ | apply Drawn0.step)⟩
                        · rw [if_neg c16] at H
                          have c16b0 : decide ((bt a0 x4_3) < 97) = false := decide_eq_false c16
                          clear c16
                          by_cases c18 : (bt a0 x4_3) > 102
                          · rw [if_pos c18] at H
                            have c18b0 : decide (102 < (bt a0 x4_3)) = true := decide_eq_true c18
                            clear c18
                            obtain rfl := Option.some.inj H
                            have p10 : 0 ≤ (x4_3 : Int) := of_decide_eq_true (by first | (with_reducible assumption) | assumption)
                            have q10 : x4_3 < (a0.size : Int) := of_decide_eq_true (by first | (with_reducible assumption) | assumption)
                            have hx10 := bt_at a0 x4_3
                            replace p10 := eq_true p10
                            replace q10 := eq_true q10
                            have p12 : 0 ≤ (x4_3 : Int) := of_decide_eq_true (by first | (with_reducible assumption) | assumption)
                            have q12 : x4_3 < (a0.size : Int) := of_decide_eq_true (by first | (with_reducible assumption) | assumption)
                            have hx12 := bt_at a0 x4_3
                            replace p12 := eq_true p12
                            replace q12 := eq_true q12
                            have p15 : 0 ≤ (x4_3 : Int) := of_decide_eq_true (by first | (with_reducible assumption) | assumption)
                            have q15 : x4_3 < (a0.size : Int) := of_decide_eq_true (by first | (with_reducible assumption) | assumption)
                            have hx15 := bt_at a0 x4_3
                            replace p15 := eq_true p15
                            replace q15 := eq_true q15
                            have p17 : 0 ≤ (x4_3 : Int) := of_decide_eq_true (by first | (with_reducible assumption) | assumption)
                            have q17 : x4_3 < (a0.size : Int) := of_decide_eq_true (by first | (with_reducible assumption) | assumption)
                            have hx17 := bt_at a0 x4_3
                            replace p17 := eq_true p17
                            replace q17 := eq_true q17
                            go_wp2
                            go_ret
                            exact ⟨by first | rfl | (simp; done) | (simp [*]; done), by repeat (first | exact Drawn0.refl _ | apply Drawn0.step)⟩
                          · rw [if_neg c18] at H
                            have c18b0 : decide (102 < (bt a0 x4_3)) = false := decide_eq_false c18
                            clear c18
                            have H' := Aside0.mk H
                            clear H
                            have p10 : 0 ≤ (x4_3 : Int) := of_decide_eq_true (by first | (with_reducible assumption) | assumption)
                            have q10 : x4_3 < (a0.size : Int) := of_decide_eq_true (by first | (with_reducible assumption) | assumption)
                            have hx10 := bt_at a0 x4_3
                            replace p10 := eq_true p10
                            replace q10 := eq_true q10
                            have p12 : 0 ≤ (x4_3 : Int) := of_decide_eq_true (by first | (with_reducible assumption) | assumption)
                            have q12 : x4_3 < (a0.size : Int) := of_decide_eq_true (by first | (with_reducible assumption) | assumption)
                            have hx12 := bt_at a0 x4_3
                            replace p12 := eq_true p12
                            replace q12 := eq_true q12
                            have p15 : 0 ≤ (x4_3 : Int) := of_decide_eq_true (by first | (with_reducible assumption) | assumption)
                            have q15 : x4_3 < (a0.size : Int) := of_decide_eq_true (by first | (with_reducible assumption) | assumption)
                            have hx15 := bt_at a0 x4_3
                            replace p15 := eq_true p15
                            replace q15 := eq_true q15
                            have p17 : 0 ≤ (x4_3 : Int) := of_decide_eq_true (by first | (with_reducible assumption) | assumption)
                            have q17 : x4_3 < (a0.size : Int) := of_decide_eq_true (by first | (with_reducible assumption) | assumption)
                            have hx17 := bt_at a0 x4_3
                            replace p17 := eq_true p17
                            replace q17 := eq_true q17
                            go_wp2
                            go_roundg k3
                            case measure => have := HJ1.out; have := HJ5.out; have := HK3.out; omega
                            case rel => exact ⟨(wrap64 (x4_3 + 1)), (by first | rfl | (simp; done) | (simp [*]; done)), H', ⟨by have := HJ1.out; have := HJ5.out; have := HK3.out; omega⟩, by repeat (first | exact Drawn0.refl _ | apply Drawn0.step)⟩
                  · rw [if_neg c11] at H
                    have c11b0 : decide (48 ≤ (bt a0 x4_3)) = false := decide_eq_false c11
                    clear c11
                    by_cases c19 : x3_5 = 0
                    · rw [if_pos c19] at H
                      have c19b0 : (x3_5 == 0) = true := beq_iff_eq.mpr c19
                      have c19b1 : (x3_5 != 0) = false := bne_eq_false_iff_eq.mpr c19
                      clear c19
                      obtain rfl := Option.some.inj H
                      have p10 : 0 ≤ (x4_3 : Int) := of_decide_eq_true (by first | (with_reducible assumption) | assumption)
                      have q10 : x4_3 < (a0.size : Int) := of_decide_eq_true (by first | (with_reducible assumption) | assumption)
                      have hx10 := bt_at a0 x4_3
                      replace p10 := eq_true p10
                      replace q10 := eq_true q10
                      go_wp2
                      go_ret
                      exact ⟨by first | rfl | (simp; done) | (simp [*]; done), by repeat (first | exact Drawn0.refl _ | apply Drawn0.step)⟩
                    · rw [if_neg c19] at H
                      have c19b0 : (x3_5 == 0) = false := beq_eq_false_iff_ne.mpr c19
                      have c19b1 : (x3_5 != 0) = true := bne_iff_ne.mpr c19
                      by_cases c21 : (bt a0 x4_3) < 97
                      · rw [if_pos c21] at H
                        have c21b0 : decide ((bt a0 x4_3) < 97) = true := decide_eq_true c21
                        clear c21
                        obtain rfl := Option.some.inj H
                        have p10 : 0 ≤ (x4_3 : Int) := of_decide_eq_true (by first | (with_reducible assumption) | assumption)
                        have q10 : x4_3 < (a0.size : Int) := of_decide_eq_true (by first | (with_reducible assumption) | assumption)
                        have hx10 := bt_at a0 x4_3
                        replace p10 := eq_true p10
                        replace q10 := eq_true q10
                        have p20 : 0 ≤ (x4_3 : Int) := of_decide_eq_true (by first | (with_reducible assumption) | assumption)
                        have q20 : x4_3 < (a0.size : Int) := of_decide_eq_true (by first | (with_reducible assumption) | assumption)
                        have hx20 := bt_at a0 x4_3
                        replace p20 := eq_true p20
                        replace q20 := eq_true q20
                        go_wp2
                        go_ret
                        exact ⟨by first | rfl | (simp; done) | (simp [*]; done), by repeat (first | exact Drawn0.refl _ | apply Drawn0.step)⟩
                      · rw [if_neg c21] at H
                        have c21b0 : decide ((bt a0 x4_3) < 97) = false := decide_eq_false c21
                        clear c21
                        by_cases c23 : (bt a0 x4_3) > 102
                        · rw [if_pos c23] at H
                          have c23b0 : decide (102 < (bt a0 x4_3)) = true := decide_eq_true c23
                          clear c23
                          obtain rfl := Option.some.inj H
                          have p10 : 0 ≤ (x4_3 : Int) := of_decide_eq_true (by first | (with_reducible assumption) | assumption)
                          have q10 : x4_3 < (a0.size : Int) := of_decide_eq_true (by first | (with_reducible assumption) | assumption)
                          have hx10 := bt_at a0 x4_3
                          replace p10 := eq_true p10
                          replace q10 := eq_true q10
                          have p20 : 0 ≤ (x4_3 : Int) := of_decide_eq_true (by first | (with_reducible assumption) | assumption)
                          have q20 : x4_3 < (a0.size : Int) := of_decide_eq_true (by first | (with_reducible assumption) | assumption)
                          have hx20 := bt_at a0 x4_3
                          replace p20 := eq_true p20
                          replace q20 := eq_true q20
                          have p22 : 0 ≤ (x4_3 : Int) := of_decide_eq_true (by first | (with_reducible assumption) | assumption)
                          have q22 : x4_3 < (a0.size : Int) := of_decide_eq_true (by first | (with_reducible assumption) | assumption)
                          have hx22 := bt_at a0 x4_3
                          replace p22 := eq_true p22
                          replace q22 := eq_true q22
                          go_wp2
                          go_ret
                          exact ⟨by first | rfl | (simp; done) | (simp [*]; done), by repeat (first | exact Drawn0.refl _ | apply Drawn0.step)⟩
                        · rw [if_neg c23] at H
                          have c23b0 : decide (102 < (bt a0 x4_3)) = false := decide_eq_false c23
                          clear c23
                          have H' := Aside0.mk H
                          clear H
                          have p10 : 0 ≤ (x4_3 : Int) := of_decide_eq_true (by first | (with_reducible assumption) | assumption)
                          have q10 : x4_3 < (a0.size : Int) := of_decide_eq_true (by first | (with_reducible assumption) | assumption)
                          have hx10 := bt_at a0 x4_3
                          replace p10 := eq_true p10
                          replace q10 := eq_true q10
                          have p20 : 0 ≤ (x4_3 : Int) := of_decide_eq_true (by first | (with_reducible assumption) | assumption)
                          have q20 : x4_3 < (a0.size : Int) := of_decide_eq_true (by first | (with_reducible assumption) | assumption)
                          have hx20 := bt_at a0 x4_3
                          replace p20 := eq_true p20
                          replace q20 := eq_true q20
                          have p22 : 0 ≤ (x4_3 : Int) := of_decide_eq_true (by first | (with_reducible assumption) | assumption)
                          have q22 : x4_3 < (a0.size : Int) := of_decide_eq_true (by first | (with_reducible assumption) | assumption)
                          have hx22 := bt_at a0 x4_3
                          replace p22 := eq_true p22
                          replace q22 := eq_true q22
                          go_wp2
                          go_roundg k3
                          case measure => have := HJ1.out; have := HJ5.out; have := HK3.out; omega
                          case rel => exact ⟨(wrap64 (x4_3 + 1)), (by first | rfl | (simp; done) | (simp [*]; done)), H', ⟨by have := HJ1.out; have := HJ5.out; have := HK3.out; omega⟩, by repeat (first | exact Drawn0.refl _ | apply Drawn0.step)⟩
                · rw [if_neg c9] at H
                  exact absurd H (by simp)
              · rw [if_neg c8] at H
                have c8b0 : decide (x4_3 < (a0.size : Int)) = false := decide_eq_false c8
                clear c8
                obtain rfl := Option.some.inj H
                go_wp2
                go_ret
                exact ⟨by first | rfl | (simp; done) | (simp [*]; done), by repeat (first | exact Drawn0.refl _ | apply Drawn0.step)⟩

end Go.Proofs.YthmnhbalmglohaaGreatDoor.X
