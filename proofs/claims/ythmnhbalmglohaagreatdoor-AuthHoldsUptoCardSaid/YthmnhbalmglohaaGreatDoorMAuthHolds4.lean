/- A part of the proof of the law AuthHolds: contracts of functions that it reaches, and plain lemmas. -/
import Derived.Test.YthmnhbalmglohaaGreatDoorMAuthHolds1
-- PRINTED by print.py (a twelfth state) out of the translation. Not trusted: Lean checks it.
namespace Go.Proofs.YthmnhbalmglohaaGreatDoor.X
open Go.RowKit Go.Proofs.YthmnhbalmglohaaGreatDoorW.PrintWords Go.Proofs.YthmnhbalmglohaaGreatDoorW.PrintLast Go.Proofs.YthmnhbalmglohaaGreatDoorW.PrintMore
attribute [local go_sem] max2_int min2_int max_two min_two max_three min_three max_four min_four   -- for this text's walks alone
set_option linter.unusedVariables false
set_option linter.unusedSimpArgs false
open Go.Proofs.YthmnhbalmglohaaGreatDoor.T

/-! ### tollhouseref15_May: function 14 -/
mutual
def tollhouseref15_May.l0 : Nat → ByteArray → Int → Option (Bool)
  | 0, _, _ => none
  | k + 1, x0, x3 => if x3 < (x0.size : Int) then (if 0 ≤ x3 then (tollhouseref15_May.j1 k x0 x3 ((bt x0 x3) != 61)) else (none)) else (tollhouseref15_May.j1 k x0 x3 false)
def tollhouseref15_May.j1 : Nat → ByteArray → Int → Bool → Option (Bool)
  | 0, _, _, _ => none
  | k + 1, x0, x3, x16 => if x16 = true then (if 0 ≤ x3 then (if x3 < (x0.size : Int) then (if (bt x0 x3) ≥ 97 then (if (bt x0 x3) ≤ 122 then (tollhouseref15_May.l0 k x0 (wrap64 (x3 + 1))) else (if (bt x0 x3) ≥ 65 then (if (bt x0 x3) ≤ 90 then (tollhouseref15_May.l0 k x0 (wrap64 (x3 + 1))) else (if (bt x0 x3) ≥ 48 then (if (bt x0 x3) ≤ 57 then (tollhouseref15_May.l0 k x0 (wrap64 (x3 + 1))) else (if (bt x0 x3) = 45 then (tollhouseref15_May.l0 k x0 (wrap64 (x3 + 1))) else (if (bt x0 x3) = 46 then (tollhouseref15_May.l0 k x0 (wrap64 (x3 + 1))) else (if (bt x0 x3) = 95 then (tollhouseref15_May.l0 k x0 (wrap64 (x3 + 1))) else (if (bt x0 x3) = 126 then (tollhouseref15_May.l0 k x0 (wrap64 (x3 + 1))) else (if (bt x0 x3) = 43 then (tollhouseref15_May.l0 k x0 (wrap64 (x3 + 1))) else (if ((bt x0 x3) = 47) then (tollhouseref15_May.l0 k x0 (wrap64 (x3 + 1))) else (some false)))))))) else (if (bt x0 x3) = 45 then (tollhouseref15_May.l0 k x0 (wrap64 (x3 + 1))) else (if (bt x0 x3) = 46 then (tollhouseref15_May.l0 k x0 (wrap64 (x3 + 1))) else (if (bt x0 x3) = 95 then (tollhouseref15_May.l0 k x0 (wrap64 (x3 + 1))) else (if (bt x0 x3) = 126 then (tollhouseref15_May.l0 k x0 (wrap64 (x3 + 1))) else (if (bt x0 x3) = 43 then (tollhouseref15_May.l0 k x0 (wrap64 (x3 + 1))) else (if ((bt x0 x3) = 47) then (tollhouseref15_May.l0 k x0 (wrap64 (x3 + 1))) else (some false))))))))) else (if (bt x0 x3) ≥ 48 then (if (bt x0 x3) ≤ 57 then (tollhouseref15_May.l0 k x0 (wrap64 (x3 + 1))) else (if (bt x0 x3) = 45 then (tollhouseref15_May.l0 k x0 (wrap64 (x3 + 1))) else (if (bt x0 x3) = 46 then (tollhouseref15_May.l0 k x0 (wrap64 (x3 + 1))) else (if (bt x0 x3) = 95 then (tollhouseref15_May.l0 k x0 (wrap64 (x3 + 1))) else (if (bt x0 x3) = 126 then (tollhouseref15_May.l0 k x0 (wrap64 (x3 + 1))) else (if (bt x0 x3) = 43 then (tollhouseref15_May.l0 k x0 (wrap64 (x3 + 1))) else (if ((bt x0 x3) = 47) then (tollhouseref15_May.l0 k x0 (wrap64 (x3 + 1))) else (some false)))))))) else (if (bt x0 x3) = 45 then (tollhouseref15_May.l0 k x0 (wrap64 (x3 + 1))) else (if (bt x0 x3) = 46 then (tollhouseref15_May.l0 k x0 (wrap64 (x3 + 1))) else (if (bt x0 x3) = 95 then (tollhouseref15_May.l0 k x0 (wrap64 (x3 + 1))) else (if (bt x0 x3) = 126 then (tollhouseref15_May.l0 k x0 (wrap64 (x3 + 1))) else (if (bt x0 x3) = 43 then (tollhouseref15_May.l0 k x0 (wrap64 (x3 + 1))) else (if ((bt x0 x3) = 47) then (tollhouseref15_May.l0 k x0 (wrap64 (x3 + 1))) else (some false)))))))))) else (if (bt x0 x3) ≥ 65 then (if (bt x0 x3) ≤ 90 then (tollhouseref15_May.l0 k x0 (wrap64 (x3 + 1))) else (if (bt x0 x3) ≥ 48 then (if (bt x0 x3) ≤ 57 then (tollhouseref15_May.l0 k x0 (wrap64 (x3 + 1))) else (if (bt x0 x3) = 45 then (tollhouseref15_May.l0 k x0 (wrap64 (x3 + 1))) else (if (bt x0 x3) = 46 then (tollhouseref15_May.l0 k x0 (wrap64 (x3 + 1))) else (if (bt x0 x3) = 95 then (tollhouseref15_May.l0 k x0 (wrap64 (x3 + 1))) else (if (bt x0 x3) = 126 then (tollhouseref15_May.l0 k x0 (wrap64 (x3 + 1))) else (if (bt x0 x3) = 43 then (tollhouseref15_May.l0 k x0 (wrap64 (x3 + 1))) else (if ((bt x0 x3) = 47) then (tollhouseref15_May.l0 k x0 (wrap64 (x3 + 1))) else (some false)))))))) else (if (bt x0 x3) = 45 then (tollhouseref15_May.l0 k x0 (wrap64 (x3 + 1))) else (if (bt x0 x3) = 46 then (tollhouseref15_May.l0 k x0 (wrap64 (x3 + 1))) else (if (bt x0 x3) = 95 then (tollhouseref15_May.l0 k x0 (wrap64 (x3 + 1))) else (if (bt x0 x3) = 126 then (tollhouseref15_May.l0 k x0 (wrap64 (x3 + 1))) else (if (bt x0 x3) = 43 then (tollhouseref15_May.l0 k x0 (wrap64 (x3 + 1))) else (if ((bt x0 x3) = 47) then (tollhouseref15_May.l0 k x0 (wrap64 (x3 + 1))) else (some false))))))))) else (if (bt x0 x3) ≥ 48 then (if (bt x0 x3) ≤ 57 then (tollhouseref15_May.l0 k x0 (wrap64 (x3 + 1))) else (if (bt x0 x3) = 45 then (tollhouseref15_May.l0 k x0 (wrap64 (x3 + 1))) else (if (bt x0 x3) = 46 then (tollhouseref15_May.l0 k x0 (wrap64 (x3 + 1))) else (if (bt x0 x3) = 95 then (tollhouseref15_May.l0 k x0 (wrap64 (x3 + 1))) else (if (bt x0 x3) = 126 then (tollhouseref15_May.l0 k x0 (wrap64 (x3 + 1))) else (if (bt x0 x3) = 43 then (tollhouseref15_May.l0 k x0 (wrap64 (x3 + 1))) else (if ((bt x0 x3) = 47) then (tollhouseref15_May.l0 k x0 (wrap64 (x3 + 1))) else (some false)))))))) else (if (bt x0 x3) = 45 then (tollhouseref15_May.l0 k x0 (wrap64 (x3 + 1))) else (if (bt x0 x3) = 46 then (tollhouseref15_May.l0 k x0 (wrap64 (x3 + 1))) else (if (bt x0 x3) = 95 then (tollhouseref15_May.l0 k x0 (wrap64 (x3 + 1))) else (if (bt x0 x3) = 126 then (tollhouseref15_May.l0 k x0 (wrap64 (x3 + 1))) else (if (bt x0 x3) = 43 then (tollhouseref15_May.l0 k x0 (wrap64 (x3 + 1))) else (if ((bt x0 x3) = 47) then (tollhouseref15_May.l0 k x0 (wrap64 (x3 + 1))) else (some false)))))))))) else (none)) else (none)) else (tollhouseref15_May.l1 k x0 x3 x3)
def tollhouseref15_May.l1 : Nat → ByteArray → Int → Int → Option (Bool)
  | 0, _, _, _ => none
  | k + 1, x0, x3, x6 => if x6 < (x0.size : Int) then (if 0 ≤ x6 then (if (bt x0 x6) = 61 then (tollhouseref15_May.l1 k x0 x3 (wrap64 (x6 + 1))) else (some false)) else (none)) else (if x3 > 0 then (some (decide ((x0.size : Int) ≤ 64))) else (some false))
end
def tollhouseref15_May.f (k : Nat) (a0 : ByteArray) : Option (Bool) := tollhouseref15_May.l0 k a0 0
theorem tollhouseref15_May.mono_l : ∀ k, (∀ y0 y1, LeO (tollhouseref15_May.l0 k y0 y1) (tollhouseref15_May.l0 (k + 1) y0 y1)) ∧ (∀ y0 y1 y2, LeO (tollhouseref15_May.j1 k y0 y1 y2) (tollhouseref15_May.j1 (k + 1) y0 y1 y2)) ∧ (∀ y0 y1 y2, LeO (tollhouseref15_May.l1 k y0 y1 y2) (tollhouseref15_May.l1 (k + 1) y0 y1 y2))
  | 0 => ⟨fun _ _ r h => by simp [tollhouseref15_May.l0] at h, fun _ _ _ r h => by simp [tollhouseref15_May.j1] at h, fun _ _ _ r h => by simp [tollhouseref15_May.l1] at h⟩
  | k + 1 => by
    obtain ⟨ih0, ih1, ih2⟩ := tollhouseref15_May.mono_l k
    refine ⟨?_, ?_, ?_⟩
    · intro y0 y1
      unfold tollhouseref15_May.l0
      repeat' first
      | (with_reducible exact ih0 _ _)
      | (with_reducible exact ih1 _ _ _)
      | (with_reducible exact ih2 _ _ _)
      | (with_reducible exact LeO.refl _)
      | (with_reducible exact LeO.none _)
      | (with_reducible refine LeO.ite ?_ ?_)
      | (with_reducible refine LeO.bind ?_ (fun _ => ?_))
      | exact ih0 _ _
      | exact ih1 _ _ _
      | exact ih2 _ _ _
      | exact LeO.none _
      | refine LeO.ite ?_ ?_
      | refine LeO.bind ?_ (fun _ => ?_)
    · intro y0 y1 y2
      unfold tollhouseref15_May.j1
      repeat' first
      | (with_reducible exact ih0 _ _)
      | (with_reducible exact ih1 _ _ _)
      | (with_reducible exact ih2 _ _ _)
      | (with_reducible exact LeO.refl _)
      | (with_reducible exact LeO.none _)
      | (with_reducible refine LeO.ite ?_ ?_)
      | (with_reducible refine LeO.bind ?_ (fun _ => ?_))
      | exact ih0 _ _
      | exact ih1 _ _ _
      | exact ih2 _ _ _
      | exact LeO.none _
      | refine LeO.ite ?_ ?_
      | refine LeO.bind ?_ (fun _ => ?_)
    · intro y0 y1 y2
      unfold tollhouseref15_May.l1
      repeat' first
      | (with_reducible exact ih0 _ _)
      | (with_reducible exact ih1 _ _ _)
      | (with_reducible exact ih2 _ _ _)
      | (with_reducible exact LeO.refl _)
      | (with_reducible exact LeO.none _)
      | (with_reducible refine LeO.ite ?_ ?_)
      | (with_reducible refine LeO.bind ?_ (fun _ => ?_))
      | exact ih0 _ _
      | exact ih1 _ _ _
      | exact ih2 _ _ _
      | exact LeO.none _
      | refine LeO.ite ?_ ?_
      | refine LeO.bind ?_ (fun _ => ?_)
theorem tollhouseref15_May.mono : ∀ a0 k, LeO (tollhouseref15_May.f k a0) (tollhouseref15_May.f (k + 1) a0) := by
  intro a0 k
  obtain ⟨ih0, ih1, ih2⟩ := tollhouseref15_May.mono_l k
  unfold tollhouseref15_May.f
  repeat' first
      | (with_reducible exact ih0 _ _)
      | (with_reducible exact ih1 _ _ _)
      | (with_reducible exact ih2 _ _ _)
      | (with_reducible exact LeO.refl _)
      | (with_reducible exact LeO.none _)
      | (with_reducible refine LeO.ite ?_ ?_)
      | (with_reducible refine LeO.bind ?_ (fun _ => ?_))
      | exact ih0 _ _
      | exact ih1 _ _ _
      | exact ih2 _ _ _
      | exact LeO.none _
      | refine LeO.ite ?_ ?_
      | refine LeO.bind ?_ (fun _ => ?_)
set_option maxHeartbeats 8000000 in
set_option maxRecDepth 100000 in
theorem tollhouseref15_May.calls (k : Nat) (a0 : ByteArray) (r : Bool) (w : World) (HGg : Glob w) (h : tollhouseref15_May.f k a0 = some r) :
    Calls Tryz.prog 14 #[.string a0] w fun e w' => e = .returned (.bool r) ∧ Drawn0 w w' := by
  have HGl := Aside0.mk HGg
  clear HGg
  have H : (tollhouseref15_May.l0 k a0 0) = some r := h
  clear h
  have H' := Aside0.mk H
  clear H
  go_enter Tryz.func14, Tryz.ntmps14
  go_wp2
  go_loopg [3] k (fun kq v3 w' => ∃ (x3_1 : Int), v3 = .int .i64 x3_1 ∧ Aside0 (tollhouseref15_May.l0 kq a0 x3_1 = some r) ∧ Aside0 (kq ≤ k) ∧ Drawn0 w w')
  case atStart => exact ⟨(0), (by first | rfl | (simp; done) | (simp [*]; done)), H', ⟨Nat.le_refl _⟩, by repeat (first | exact Drawn0.refl _ | apply Drawn0.step)⟩
  case round =>
    clear H'
    try clear c1
    obtain ⟨x3_1, rfl, HA, HK1, ⟨m1, rfl⟩⟩ := hrel
    cases gk with
    | zero => exact absurd HA.out (by simp [tollhouseref15_May.l0])
    | succ k1 =>
      have H := HA.out
      clear HA
      simp only [tollhouseref15_May.l0] at H
      have HC2 := Aside0.mk H
      clear H
      go_upto_region 2 with (fail)
      go_cut [16] (fun v16 wc => ∃ (kq : Nat) (x16_1 : Bool), v16 = .bool x16_1 ∧ Aside0 (tollhouseref15_May.j1 kq a0 x3_1 x16_1 = some r) ∧ Aside0 (kq ≤ k1) ∧ Drawn0 w wc)
      case first =>
        have H := HC2.out
        clear HC2
        by_cases c3 : x3_1 < (a0.size : Int)
        · rw [if_pos c3] at H
          have c3b0 : decide (x3_1 < (a0.size : Int)) = true := decide_eq_true c3
          clear c3
          (first | rw [c3b0] | (simp only [i64_w, i32_w]; rw [c3b0]) | skip)
          by_cases c4 : 0 ≤ x3_1
          · rw [if_pos c4] at H
            have c4b0 : decide (0 ≤ x3_1) = true := decide_eq_true c4
            clear c4
            have H' := Aside0.mk H
            clear H
            have p5 : 0 ≤ (x3_1 : Int) := of_decide_eq_true (by first | (with_reducible assumption) | assumption)
            have q5 : x3_1 < (a0.size : Int) := of_decide_eq_true (by first | (with_reducible assumption) | assumption)
            have hx5 := bt_at a0 x3_1
            replace p5 := eq_true p5
            replace q5 := eq_true q5
            go_wp2
            go_meet
            case rel => exact ⟨_, (((bt a0 x3_1) != 61)), (by first | rfl | (simp; done) | (simp [*]; done)), H', ⟨by have := HK1.out; first | omega | exact Nat.le_refl _⟩, by repeat (first | exact Drawn0.refl _ | apply Drawn0.step)⟩
          · rw [if_neg c4] at H
            exact absurd H (by simp)
        · rw [if_neg c3] at H
          have c3b0 : decide (x3_1 < (a0.size : Int)) = false := decide_eq_false c3
          clear c3
          (first | rw [c3b0] | (simp only [i64_w, i32_w]; rw [c3b0]) | skip)
          have H' := Aside0.mk H
          clear H
          go_wp2
          go_meet
          case rel => exact ⟨_, (false), (by first | rfl | (simp; done) | (simp [*]; done)), H', ⟨by have := HK1.out; first | omega | exact Nat.le_refl _⟩, by repeat (first | exact Drawn0.refl _ | apply Drawn0.step)⟩
      case rest =>
        clear HC2
        try clear c1
        try clear p2
        try clear c3
        try clear c3b0
        try clear c4
        try clear c4b0
        try clear p5
        try clear q5
        try clear hx5
        try clear p5
        try clear q5
        obtain ⟨kq, x16_1, rfl, HA, HJ1, ⟨mc1, rfl⟩⟩ := hcut
        cases kq with
        | zero => exact absurd HA.out (by simp [tollhouseref15_May.j1])
        | succ kj1 =>
          have H := HA.out
          clear HA
          simp only [tollhouseref15_May.j1] at H
          by_cases c6 : x16_1 = true
          · subst c6
            have H1 : (if 0 ≤ x3_1 then (if x3_1 < (a0.size : Int) then (if (bt a0 x3_1) ≥ 97 then (if (bt a0 x3_1) ≤ 122 then (tollhouseref15_May.l0 kj1 a0 (wrap64 (x3_1 + 1))) else (if (bt a0 x3_1) ≥ 65 then (if (bt a0 x3_1) ≤ 90 then (tollhouseref15_May.l0 kj1 a0 (wrap64 (x3_1 + 1))) else (if (bt a0 x3_1) ≥ 48 then (if (bt a0 x3_1) ≤ 57 then (tollhouseref15_May.l0 kj1 a0 (wrap64 (x3_1 + 1))) else (if (bt a0 x3_1) = 45 then (tollhouseref15_May.l0 kj1 a0 (wrap64 (x3_1 + 1))) else (if (bt a0 x3_1) = 46 then (tollhouseref15_May.l0 kj1 a0 (wrap64 (x3_1 + 1))) else (if (bt a0 x3_1) = 95 then (tollhouseref15_May.l0 kj1 a0 (wrap64 (x3_1 + 1))) else (if (bt a0 x3_1) = 126 then (tollhouseref15_May.l0 kj1 a0 (wrap64 (x3_1 + 1))) else (if (bt a0 x3_1) = 43 then (tollhouseref15_May.l0 kj1 a0 (wrap64 (x3_1 + 1))) else (if ((bt a0 x3_1) = 47) then (tollhouseref15_May.l0 kj1 a0 (wrap64 (x3_1 + 1))) else (some false)))))))) else (if (bt a0 x3_1) = 45 then (tollhouseref15_May.l0 kj1 a0 (wrap64 (x3_1 + 1))) else (if (bt a0 x3_1) = 46 then (tollhouseref15_May.l0 kj1 a0 (wrap64 (x3_1 + 1))) else (if (bt a0 x3_1) = 95 then (tollhouseref15_May.l0 kj1 a0 (wrap64 (x3_1 + 1))) else (if (bt a0 x3_1) = 126 then (tollhouseref15_May.l0 kj1 a0 (wrap64 (x3_1 + 1))) else (if (bt a0 x3_1) = 43 then (tollhouseref15_May.l0 kj1 a0 (wrap64 (x3_1 + 1))) else (if ((bt a0 x3_1) = 47) then (tollhouseref15_May.l0 kj1 a0 (wrap64 (x3_1 + 1))) else (some false))))))))) else (if (bt a0 x3_1) ≥ 48 then (if (bt a0 x3_1) ≤ 57 then (tollhouseref15_May.l0 kj1 a0 (wrap64 (x3_1 + 1))) else (if (bt a0 x3_1) = 45 then (tollhouseref15_May.l0 kj1 a0 (wrap64 (x3_1 + 1))) else (if (bt a0 x3_1) = 46 then (tollhouseref15_May.l0 kj1 a0 (wrap64 (x3_1 + 1))) else (if (bt a0 x3_1) = 95 then (tollhouseref15_May.l0 kj1 a0 (wrap64 (x3_1 + 1))) else (if (bt a0 x3_1) = 126 then (tollhouseref15_May.l0 kj1 a0 (wrap64 (x3_1 + 1))) else (if (bt a0 x3_1) = 43 then (tollhouseref15_May.l0 kj1 a0 (wrap64 (x3_1 + 1))) else (if ((bt a0 x3_1) = 47) then (tollhouseref15_May.l0 kj1 a0 (wrap64 (x3_1 + 1))) else (some false)))))))) else (if (bt a0 x3_1) = 45 then (tollhouseref15_May.l0 kj1 a0 (wrap64 (x3_1 + 1))) else (if (bt a0 x3_1) = 46 then (tollhouseref15_May.l0 kj1 a0 (wrap64 (x3_1 + 1))) else (if (bt a0 x3_1) = 95 then (tollhouseref15_May.l0 kj1 a0 (wrap64 (x3_1 + 1))) else (if (bt a0 x3_1) = 126 then (tollhouseref15_May.l0 kj1 a0 (wrap64 (x3_1 + 1))) else (if (bt a0 x3_1) = 43 then (tollhouseref15_May.l0 kj1 a0 (wrap64 (x3_1 + 1))) else (if ((bt a0 x3_1) = 47) then (tollhouseref15_May.l0 kj1 a0 (wrap64 (x3_1 + 1))) else (some false)))))))))) else (if (bt a0 x3_1) ≥ 65 then (if (bt a0 x3_1) ≤ 90 then (tollhouseref15_May.l0 kj1 a0 (wrap64 (x3_1 + 1))) else (if (bt a0 x3_1) ≥ 48 then (if (bt a0 x3_1) ≤ 57 then (tollhouseref15_May.l0 kj1 a0 (wrap64 (x3_1 + 1))) else (if (bt a0 x3_1) = 45 then (tollhouseref15_May.l0 kj1 a0 (wrap64 (x3_1 + 1))) else (if (bt a0 x3_1) = 46 then (tollhouseref15_May.l0 kj1 a0 (wrap64 (x3_1 + 1))) else (if (bt a0 x3_1) = 95 then (tollhouseref15_May.l0 kj1 a0 (wrap64 (x3_1 + 1))) else (if (bt a0 x3_1) = 126 then (tollhouseref15_May.l0 kj1 a0 (wrap64 (x3_1 + 1))) else (if (bt a0 x3_1) = 43 then (tollhouseref15_May.l0 kj1 a0 (wrap64 (x3_1 + 1))) else (if ((bt a0 x3_1) = 47) then (tollhouseref15_May.l0 kj1 a0 (wrap64 (x3_1 + 1))) else (some false)))))))) else (if (bt a0 x3_1) = 45 then (tollhouseref15_May.l0 kj1 a0 (wrap64 (x3_1 + 1))) else (if (bt a0 x3_1) = 46 then (tollhouseref15_May.l0 kj1 a0 (wrap64 (x3_1 + 1))) else (if (bt a0 x3_1) = 95 then (tollhouseref15_May.l0 kj1 a0 (wrap64 (x3_1 + 1))) else (if (bt a0 x3_1) = 126 then (tollhouseref15_May.l0 kj1 a0 (wrap64 (x3_1 + 1))) else (if (bt a0 x3_1) = 43 then (tollhouseref15_May.l0 kj1 a0 (wrap64 (x3_1 + 1))) else (if ((bt a0 x3_1) = 47) then (tollhouseref15_May.l0 kj1 a0 (wrap64 (x3_1 + 1))) else (some false))))))))) else (if (bt a0 x3_1) ≥ 48 then (if (bt a0 x3_1) ≤ 57 then (tollhouseref15_May.l0 kj1 a0 (wrap64 (x3_1 + 1))) else (if (bt a0 x3_1) = 45 then (tollhouseref15_May.l0 kj1 a0 (wrap64 (x3_1 + 1))) else (if (bt a0 x3_1) = 46 then (tollhouseref15_May.l0 kj1 a0 (wrap64 (x3_1 + 1))) else (if (bt a0 x3_1) = 95 then (tollhouseref15_May.l0 kj1 a0 (wrap64 (x3_1 + 1))) else (if (bt a0 x3_1) = 126 then (tollhouseref15_May.l0 kj1 a0 (wrap64 (x3_1 + 1))) else (if (bt a0 x3_1) = 43 then (tollhouseref15_May.l0 kj1 a0 (wrap64 (x3_1 + 1))) else (if ((bt a0 x3_1) = 47) then (tollhouseref15_May.l0 kj1 a0 (wrap64 (x3_1 + 1))) else (some false)))))))) else (if (bt a0 x3_1) = 45 then (tollhouseref15_May.l0 kj1 a0 (wrap64 (x3_1 + 1))) else (if (bt a0 x3_1) = 46 then (tollhouseref15_May.l0 kj1 a0 (wrap64 (x3_1 + 1))) else (if (bt a0 x3_1) = 95 then (tollhouseref15_May.l0 kj1 a0 (wrap64 (x3_1 + 1))) else (if (bt a0 x3_1) = 126 then (tollhouseref15_May.l0 kj1 a0 (wrap64 (x3_1 + 1))) else (if (bt a0 x3_1) = 43 then (tollhouseref15_May.l0 kj1 a0 (wrap64 (x3_1 + 1))) else (if ((bt a0 x3_1) = 47) then (tollhouseref15_May.l0 kj1 a0 (wrap64 (x3_1 + 1))) else (some false)))))))))) else (none)) else (none)) = some r := by rw [if_pos rfl] at H; exact H
            clear H
            have H := H1
            clear H1
            by_cases c7 : 0 ≤ x3_1
            · rw [if_pos c7] at H
              have c7b0 : decide (0 ≤ x3_1) = true := decide_eq_true c7
              clear c7
              by_cases c8 : x3_1 < (a0.size : Int)
              · rw [if_pos c8] at H
                have c8b0 : decide (x3_1 < (a0.size : Int)) = true := decide_eq_true c8
                clear c8
                by_cases c10 : (bt a0 x3_1) ≥ 97
                · rw [if_pos c10] at H
                  have c10b0 : decide (97 ≤ (bt a0 x3_1)) = true := decide_eq_true c10
                  clear c10
                  by_cases c11 : (bt a0 x3_1) ≤ 122
                  · rw [if_pos c11] at H
                    have c11b0 : decide ((bt a0 x3_1) ≤ 122) = true := decide_eq_true c11
                    clear c11
                    have H' := Aside0.mk H
                    clear H
                    have p9 : 0 ≤ (x3_1 : Int) := of_decide_eq_true (by first | (with_reducible assumption) | assumption)
                    have q9 : x3_1 < (a0.size : Int) := of_decide_eq_true (by first | (with_reducible assumption) | assumption)
                    have hx9 := bt_at a0 x3_1
                    replace p9 := eq_true p9
                    replace q9 := eq_true q9
                    go_wp2
                    go_roundg kj1
                    case measure => have := HK1.out; have := HJ1.out; omega
                    case rel => exact ⟨(wrap64 (x3_1 + 1)), (by first | rfl | (simp; done) | (simp [*]; done)), H', ⟨by have := HK1.out; have := HJ1.out; omega⟩, by repeat (first | exact Drawn0.refl _ | apply Drawn0.step)⟩
                  · rw [if_neg c11] at H
                    have c11b0 : decide ((bt a0 x3_1) ≤ 122) = false := decide_eq_false c11
                    clear c11
                    by_cases c12 : (bt a0 x3_1) ≥ 65
                    · rw [if_pos c12] at H
                      have c12b0 : decide (65 ≤ (bt a0 x3_1)) = true := decide_eq_true c12
                      clear c12
                      by_cases c13 : (bt a0 x3_1) ≤ 90
                      · rw [if_pos c13] at H
                        have c13b0 : decide ((bt a0 x3_1) ≤ 90) = true := decide_eq_true c13
                        clear c13
                        have H' := Aside0.mk H
                        clear H
                        have p9 : 0 ≤ (x3_1 : Int) := of_decide_eq_true (by first | (with_reducible assumption) | assumption)
                        have q9 : x3_1 < (a0.size : Int) := of_decide_eq_true (by first | (with_reducible assumption) | assumption)
                        have hx9 := bt_at a0 x3_1
                        replace p9 := eq_true p9
                        replace q9 := eq_true q9
                        go_wp2
                        go_roundg kj1
                        case measure => have := HK1.out; have := HJ1.out; omega
                        case rel => exact ⟨(wrap64 (x3_1 + 1)), (by first | rfl | (simp; done) | (simp [*]; done)), H', ⟨by have := HK1.out; have := HJ1.out; omega⟩, by repeat (first | exact Drawn0.refl _ | apply Drawn0.step)⟩
                      · rw [if_neg c13] at H
                        have c13b0 : decide ((bt a0 x3_1) ≤ 90) = false := decide_eq_false c13
                        clear c13
                        by_cases c14 : (bt a0 x3_1) ≥ 48
                        · rw [if_pos c14] at H
                          have c14b0 : decide (48 ≤ (bt a0 x3_1)) = true := decide_eq_true c14
                          clear c14
                          by_cases c15 : (bt a0 x3_1) ≤ 57
                          · rw [if_pos c15] at H
                            have c15b0 : decide ((bt a0 x3_1) ≤ 57) = true := decide_eq_true c15
                            clear c15
                            have H' := Aside0.mk H
                            clear H
                            have p9 : 0 ≤ (x3_1 : Int) := of_decide_eq_true (by first | (with_reducible assumption) | assumption)
                            have q9 : x3_1 < (a0.size : Int) := of_decide_eq_true (by first | (with_reducible assumption) | assumption)
                            have hx9 := bt_at a0 x3_1
                            replace p9 := eq_true p9
                            replace q9 := eq_true q9
                            go_wp2
                            go_roundg kj1
                            case measure => have := HK1.out; have := HJ1.out; omega
                            case rel => exact ⟨(wrap64 (x3_1 + 1)), (by first | rfl | (simp; done) | (simp [*]; done)), H', ⟨by have := HK1.out; have := HJ1.out; omega⟩, by repeat (first | exact Drawn0.refl _ | apply Drawn0.step)⟩
                          · rw [if_neg c15] at H
                            have c15b0 : decide ((bt a0 x3_1) ≤ 57) = false := decide_eq_false c15
                            clear c15
                            by_cases c16 : (bt a0 x3_1) = 45
                            · rw [if_pos c16] at H
                              have c16b0 : ((bt a0 x3_1) == 45) = true := beq_iff_eq.mpr c16
                              have c16b1 : ((bt a0 x3_1) != 45) = false := bne_eq_false_iff_eq.mpr c16
                              clear c16
                              have H' := Aside0.mk H
                              clear H
                              have p9 : 0 ≤ (x3_1 : Int) := of_decide_eq_true (by first | (with_reducible assumption) | assumption)
                              have q9 : x3_1 < (a0.size : Int) := of_decide_eq_true (by first | (with_reducible assumption) | assumption)
                              have hx9 := bt_at a0 x3_1
                              replace p9 := eq_true p9
                              replace q9 := eq_true q9
                              go_wp2
                              go_roundg kj1
                              case measure => have := HK1.out; have := HJ1.out; omega
                              case rel => exact ⟨(wrap64 (x3_1 + 1)), (by first | rfl | (simp; done) | (simp [*]; done)), H', ⟨by have := HK1.out; have := HJ1.out; omega⟩, by repeat (first | exact Drawn0.refl _ | apply Drawn0.step)⟩
                            · rw [if_neg c16] at H
                              have c16b0 : ((bt a0 x3_1) == 45) = false := beq_eq_false_iff_ne.mpr c16
                              have c16b1 : ((bt a0 x3_1) != 45) = true := bne_iff_ne.mpr c16
                              by_cases c17 : (bt a0 x3_1) = 46
                              · rw [if_pos c17] at H
                                have c17b0 : ((bt a0 x3_1) == 46) = true := beq_iff_eq.mpr c17
                                have c17b1 : ((bt a0 x3_1) != 46) = false := bne_eq_false_iff_eq.mpr c17
                                clear c17
                                have H' := Aside0.mk H
                                clear H
                                have p9 : 0 ≤ (x3_1 : Int) := of_decide_eq_true (by first | (with_reducible assumption) | assumption)
                                have q9 : x3_1 < (a0.size : Int) := of_decide_eq_true (by first | (with_reducible assumption) | assumption)
                                have hx9 := bt_at a0 x3_1
                                replace p9 := eq_true p9
                                replace q9 := eq_true q9
                                go_wp2
                                go_roundg kj1
                                case measure => have := HK1.out; have := HJ1.out; omega
                                case rel => exact ⟨(wrap64 (x3_1 + 1)), (by first | rfl | (simp; done) | (simp [*]; done)), H', ⟨by have := HK1.out; have := HJ1.out; omega⟩, by repeat (first | exact Drawn0.refl _ | apply Drawn0.step)⟩
                              · rw [if_neg c17] at H
                                have c17b0 : ((bt a0 x3_1) == 46) = false := beq_eq_false_iff_ne.mpr c17
                                have c17b1 : ((bt a0 x3_1) != 46) = true := bne_iff_ne.mpr c17
                                by_cases c18 : (bt a0 x3_1) = 95
                                · rw [if_pos c18] at H
                                  have c18b0 : ((bt a0 x3_1) == 95) = true := beq_iff_eq.mpr c18
                                  have c18b1 : ((bt a0 x3_1) != 95) = false := bne_eq_false_iff_eq.mpr c18
                                  clear c18
                                  have H' := Aside0.mk H
                                  clear H
                                  have p9 : 0 ≤ (x3_1 : Int) := of_decide_eq_true (by first | (with_reducible assumption) | assumption)
                                  have q9 : x3_1 < (a0.size : Int) := of_decide_eq_true (by first | (with_reducible assumption) | assumption)
                                  have hx9 := bt_at a0 x3_1
                                  replace p9 := eq_true p9
                                  replace q9 := eq_true q9
                                  go_wp2
                                  go_roundg kj1
                                  case measure => have := HK1.out; have := HJ1.out; omega
                                  case rel => exact ⟨(wrap64 (x3_1 + 1)), (by first | rfl | (simp; done) | (simp [*]; done)), H', ⟨by have := HK1.out; have := HJ1.out; omega⟩, by repeat (first | exact Drawn0.refl _ | apply Drawn0.step)⟩
                                · rw [if_neg c18] at H
                                  have c18b0 : ((bt a0 x3_1) == 95) = false := beq_eq_false_iff_ne.mpr c18
                                  have c18b1 : ((bt a0 x3_1) != 95) = true := bne_iff_ne.mpr c18
                                  by_cases c19 : (bt a0 x3_1) = 126
                                  · rw [if_pos c19] at H
                                    have c19b0 : ((bt a0 x3_1) == 126) = true := beq_iff_eq.mpr c19
                                    have c19b1 : ((bt a0 x3_1) != 126) = false := bne_eq_false_iff_eq.mpr c19
                                    clear c19
                                    have H' := Aside0.mk H
                                    clear H
                                    have p9 : 0 ≤ (x3_1 : Int) := of_decide_eq_true (by first | (with_reducible assumption) | assumption)
                                    have q9 : x3_1 < (a0.size : Int) := of_decide_eq_true (by first | (with_reducible assumption) | assumption)
                                    have hx9 := bt_at a0 x3_1
                                    replace p9 := eq_true p9
                                    replace q9 := eq_true q9
                                    go_wp2
                                    go_roundg kj1
                                    case measure => have := HK1.out; have := HJ1.out; omega
                                    case rel => exact ⟨(wrap64 (x3_1 + 1)), (by first | rfl | (simp; done) | (simp [*]; done)), H', ⟨by have := HK1.out; have := HJ1.out; omega⟩, by repeat (first | exact Drawn0.refl _ | apply Drawn0.step)⟩
                                  · rw [if_neg c19] at H
                                    have c19b0 : ((bt a0 x3_1) == 126) = false := beq_eq_false_iff_ne.mpr c19
                                    have c19b1 : ((bt a0 x3_1) != 126) = true := bne_iff_ne.mpr c19
                                    by_cases c20 : (bt a0 x3_1) = 43
                                    · rw [if_pos c20] at H
                                      have c20b0 : ((bt a0 x3_1) == 43) = true := beq_iff_eq.mpr c20
                                      have c20b1 : ((bt a0 x3_1) != 43) = false := bne_eq_false_iff_eq.mpr c20
                                      clear c20
                                      have H' := Aside0.mk H
                                      clear H
                                      have p9 : 0 ≤ (x3_1 : Int) := of_decide_eq_true (by first | (with_reducible assumption) | assumption)
                                      have q9 : x3_1 < (a0.size : Int) := of_decide_eq_true (by first | (with_reducible assumption) | assumption)
                                      have hx9 := bt_at a0 x3_1
                                      replace p9 := eq_true p9
                                      replace q9 := eq_true q9
                                      go_wp2
                                      go_roundg kj1
                                      case measure => have := HK1.out; have := HJ1.out; omega
                                      case rel => exact ⟨(wrap64 (x3_1 + 1)), (by first | rfl | (simp; done) | (simp [*]; done)), H', ⟨by have := HK1.out; have := HJ1.out; omega⟩, by repeat (first | exact Drawn0.refl _ | apply Drawn0.step)⟩
                                    · rw [if_neg c20] at H
                                      have c20b0 : ((bt a0 x3_1) == 43) = false := beq_eq_false_iff_ne.mpr c20
                                      have c20b1 : ((bt a0 x3_1) != 43) = true := bne_iff_ne.mpr c20
                                      by_cases c21 : ((bt a0 x3_1) = 47)
                                      · rw [if_pos c21] at H
                                        have c21b0 : ((bt a0 x3_1) == 47) = true := beq_iff_eq.mpr c21
                                        have c21b1 : ((bt a0 x3_1) != 47) = false := bne_eq_false_iff_eq.mpr c21
                                        clear c21
                                        have H' := Aside0.mk H
                                        clear H
                                        have p9 : 0 ≤ (x3_1 : Int) := of_decide_eq_true (by first | (with_reducible assumption) | assumption)
                                        have q9 : x3_1 < (a0.size : Int) := of_decide_eq_true (by first | (with_reducible assumption) | assumption)
                                        have hx9 := bt_at a0 x3_1
                                        replace p9 := eq_true p9
                                        replace q9 := eq_true q9
                                        go_wp2
                                        go_roundg kj1
                                        case measure => have := HK1.out; have := HJ1.out; omega
                                        case rel => exact ⟨(wrap64 (x3_1 + 1)), (by first | rfl | (simp; done) | (simp [*]; done)), H', ⟨by have := HK1.out; have := HJ1.out; omega⟩, by repeat (first | exact Drawn0.refl _ | apply Drawn0.step)⟩
                                      · rw [if_neg c21] at H
                                        have c21b0 : ((bt a0 x3_1) == 47) = false := beq_eq_false_iff_ne.mpr c21
                                        have c21b1 : ((bt a0 x3_1) != 47) = true := bne_iff_ne.mpr c21
                                        obtain rfl := Option.some.inj H
                                        have p9 : 0 ≤ (x3_1 : Int) := of_decide_eq_true (by first | (with_reducible assumption) | assumption)
                                        have q9 : x3_1 < (a0.size : Int) := of_decide_eq_true (by first | (with_reducible assumption) | assumption)
                                        have hx9 := bt_at a0 x3_1
                                        replace p9 := eq_true p9
                                        replace q9 := eq_true q9
                                        go_wp2
                                        go_ret
                                        exact ⟨by first | rfl | (simp; done) | (simp [*]; done), by repeat (first | exact Drawn0.refl _ | apply Drawn0.step)⟩
                        · rw [if_neg c14] at H
                          have c14b0 : decide (48 ≤ (bt a0 x3_1)) = false := decide_eq_false c14
                          clear c14
                          by_cases c22 : (bt a0 x3_1) = 45
                          · rw [if_pos c22] at H
                            have c22b0 : ((bt a0 x3_1) == 45) = true := beq_iff_eq.mpr c22
                            have c22b1 : ((bt a0 x3_1) != 45) = false := bne_eq_false_iff_eq.mpr c22
                            clear c22
                            have H' := Aside0.mk H
                            clear H
                            have p9 : 0 ≤ (x3_1 : Int) := of_decide_eq_true (by first | (with_reducible assumption) | assumption)
                            have q9 : x3_1 < (a0.size : Int) := of_decide_eq_true (by first | (with_reducible assumption) | assumption)
                            have hx9 := bt_at a0 x3_1
                            replace p9 := eq_true p9
                            replace q9 := eq_true q9
                            go_wp2
                            go_roundg kj1
                            case measure => have := HK1.out; have := HJ1.out; omega
                            case rel => exact ⟨(wrap64 (x3_1 + 1)), (by first | rfl | (simp; done) | (simp [*]; done)), H', ⟨by have := HK1.out; have := HJ1.out; omega⟩, by repeat (first | exact Drawn0.refl _ | apply Drawn0.step)⟩
                          · rw [if_neg c22] at H
                            have c22b0 : ((bt a0 x3_1) == 45) = false := beq_eq_false_iff_ne.mpr c22
                            have c22b1 : ((bt a0 x3_1) != 45) = true := bne_iff_ne.mpr c22
                            by_cases c23 : (bt a0 x3_1) = 46
                            · rw [if_pos c23] at H
                              have c23b0 : ((bt a0 x3_1) == 46) = true := beq_iff_eq.mpr c23
                              have c23b1 : ((bt a0 x3_1) != 46) = false := bne_eq_false_iff_eq.mpr c23
                              clear c23
                              have H' := Aside0.mk H
                              clear H
                              have p9 : 0 ≤ (x3_1 : Int) := of_decide_eq_true (by first | (with_reducible assumption) | assumption)
                              have q9 : x3_1 < (a0.size : Int) := of_decide_eq_true (by first | (with_reducible assumption) | assumption)
                              have hx9 := bt_at a0 x3_1
                              replace p9 := eq_true p9
                              replace q9 := eq_true q9
                              go_wp2
                              go_roundg kj1
                              case measure => have := HK1.out; have := HJ1.out; omega
                              case rel => exact ⟨(wrap64 (x3_1 + 1)), (by first | rfl | (simp; done) | (simp [*]; done)), H', ⟨by have := HK1.out; have := HJ1.out; omega⟩, by repeat (first | exact Drawn0.refl _ | apply Drawn0.step)⟩
                            · rw [if_neg c23] at H
                              have c23b0 : ((bt a0 x3_1) == 46) = false := beq_eq_false_iff_ne.mpr c23
                              have c23b1 : ((bt a0 x3_1) != 46) = true := bne_iff_ne.mpr c23
                              by_cases c24 : (bt a0 x3_1) = 95
                              · rw [if_pos c24] at H
                                have c24b0 : ((bt a0 x3_1) == 95) = true := beq_iff_eq.mpr c24
                                have c24b1 : ((bt a0 x3_1) != 95) = false := bne_eq_false_iff_eq.mpr c24
                                clear c24
                                have H' := Aside0.mk H
                                clear H
                                have p9 : 0 ≤ (x3_1 : Int) := of_decide_eq_true (by first | (with_reducible assumption) | assumption)
                                have q9 : x3_1 < (a0.size : Int) := of_decide_eq_true (by first | (with_reducible assumption) | assumption)
                                have hx9 := bt_at a0 x3_1
                                replace p9 := eq_true p9
                                replace q9 := eq_true q9
                                go_wp2
                                go_roundg kj1
                                case measure => have := HK1.out; have := HJ1.out; omega
                                case rel => exact ⟨(wrap64 (x3_1 + 1)), (by first | rfl | (simp; done) | (simp [*]; done)), H', ⟨by have := HK1.out; have := HJ1.out; omega⟩, by repeat (first | exact Drawn0.refl _ | apply Drawn0.step)⟩
                              · rw [if_neg c24] at H
                                have c24b0 : ((bt a0 x3_1) == 95) = false := beq_eq_false_iff_ne.mpr c24
                                have c24b1 : ((bt a0 x3_1) != 95) = true := bne_iff_ne.mpr c24
                                by_cases c25 : (bt a0 x3_1) = 126
                                · rw [if_pos c25] at H
                                  have c25b0 : ((bt a0 x3_1) == 126) = true := beq_iff_eq.mpr c25
                                  have c25b1 : ((bt a0 x3_1) != 126) = false := bne_eq_false_iff_eq.mpr c25
                                  clear c25
                                  have H' := Aside0.mk H
                                  clear H
                                  have p9 : 0 ≤ (x3_1 : Int) := of_decide_eq_true (by first | (with_reducible assumption) | assumption)
                                  have q9 : x3_1 < (a0.size : Int) := of_decide_eq_true (by first | (with_reducible assumption) | assumption)
                                  have hx9 := bt_at a0 x3_1
                                  replace p9 := eq_true p9
                                  replace q9 := eq_true q9
                                  go_wp2
                                  go_roundg kj1
                                  case measure => have := HK1.out; have := HJ1.out; omega
                                  case rel => exact ⟨(wrap64 (x3_1 + 1)), (by first | rfl | (simp; done) | (simp [*]; done)), H', ⟨by have := HK1.out; have := HJ1.out; omega⟩, by repeat (first | exact Drawn0.refl _ | apply Drawn0.step)⟩
                                · rw [if_neg c25] at H
                                  have c25b0 : ((bt a0 x3_1) == 126) = false := beq_eq_false_iff_ne.mpr c25
                                  have c25b1 : ((bt a0 x3_1) != 126) = true := bne_iff_ne.mpr c25
                                  by_cases c26 : (bt a0 x3_1) = 43
                                  · rw [if_pos c26] at H
                                    have c26b0 : ((bt a0 x3_1) == 43) = true := beq_iff_eq.mpr c26
                                    have c26b1 : ((bt a0 x3_1) != 43) = false := bne_eq_false_iff_eq.mpr c26
                                    clear c26
                                    have H' := Aside0.mk H
                                    clear H
                                    have p9 : 0 ≤ (x3_1 : Int) := of_decide_eq_true (by first | (with_reducible assumption) | assumption)
                                    have q9 : x3_1 < (a0.size : Int) := of_decide_eq_true (by first | (with_reducible assumption) | assumption)
                                    have hx9 := bt_at a0 x3_1
                                    replace p9 := eq_true p9
                                    replace q9 := eq_true q9
                                    go_wp2
                                    go_roundg kj1
                                    case measure => have := HK1.out; have := HJ1.out; omega
                                    case rel => exact ⟨(wrap64 (x3_1 + 1)), (by first | rfl | (simp; done) | (simp [*]; done)), H', ⟨by have := HK1.out; have := HJ1.out; omega⟩, by repeat (first | exact Drawn0.refl _ | apply Drawn0.step)⟩
                                  · rw [if_neg c26] at H
                                    have c26b0 : ((bt a0 x3_1) == 43) = false := beq_eq_false_iff_ne.mpr c26
                                    have c26b1 : ((bt a0 x3_1) != 43) = true := bne_iff_ne.mpr c26
                                    by_cases c27 : ((bt a0 x3_1) = 47)
                                    · rw [if_pos c27] at H
                                      have c27b0 : ((bt a0 x3_1) == 47) = true := beq_iff_eq.mpr c27
                                      have c27b1 : ((bt a0 x3_1) != 47) = false := bne_eq_false_iff_eq.mpr c27
                                      clear c27
                                      have H' := Aside0.mk H
                                      clear H
                                      have p9 : 0 ≤ (x3_1 : Int) := of_decide_eq_true (by first | (with_reducible assumption) | assumption)
                                      have q9 : x3_1 < (a0.size : Int) := of_decide_eq_true (by first | (with_reducible assumption) | assumption)
                                      have hx9 := bt_at a0 x3_1
                                      replace p9 := eq_true p9
                                      replace q9 := eq_true q9
                                      go_wp2
                                      go_roundg kj1
                                      case measure => have := HK1.out; have := HJ1.out; omega
                                      case rel => exact ⟨(wrap64 (x3_1 + 1)), (by first | rfl | (simp; done) | (simp [*]; done)), H', ⟨by have := HK1.out; have := HJ1.out; omega⟩, by repeat (first | exact Drawn0.refl _ | apply Drawn0.step)⟩
                                    · rw [if_neg c27] at H
                                      have c27b0 : ((bt a0 x3_1) == 47) = false := beq_eq_false_iff_ne.mpr c27
                                      have c27b1 : ((bt a0 x3_1) != 47) = true := bne_iff_ne.mpr c27
                                      obtain rfl := Option.some.inj H
                                      have p9 : 0 ≤ (x3_1 : Int) := of_decide_eq_true (by first | (with_reducible assumption) | assumption)
                                      have q9 : x3_1 < (a0.size : Int) := of_decide_eq_true (by first | (with_reducible assumption) | assumption)
                                      have hx9 := bt_at a0 x3_1
                                      replace p9 := eq_true p9
                                      replace q9 := eq_true q9
                                      go_wp2
                                      go_ret
                                      exact ⟨by first | rfl | (simp; done) | (simp [*]; done), by repeat (first | exact Drawn0.refl _ | apply Drawn0.step)⟩
                    · rw [if_neg c12] at H
                      have c12b0 : decide (65 ≤ (bt a0 x3_1)) = false := decide_eq_false c12
                      clear c12
                      by_cases c28 : (bt a0 x3_1) ≥ 48
                      · rw [if_pos c28] at H
                        have c28b0 : decide (48 ≤ (bt a0 x3_1)) = true := decide_eq_true c28
                        clear c28
                        by_cases c29 : (bt a0 x3_1) ≤ 57
                        · rw [if_pos c29] at H
                          have c29b0 : decide ((bt a0 x3_1) ≤ 57) = true := decide_eq_true c29
                          clear c29
                          have H' := Aside0.mk H
                          clear H
                          have p9 : 0 ≤ (x3_1 : Int) := of_decide_eq_true (by first | (with_reducible assumption) | assumption)
                          have q9 : x3_1 < (a0.size : Int) := of_decide_eq_true (by first | (with_reducible assumption) | assumption)
                          have hx9 := bt_at a0 x3_1
                          replace p9 := eq_true p9
                          replace q9 := eq_true q9
                          go_wp2
                          go_roundg kj1
                          case measure => have := HK1.out; have := HJ1.out; omega
                          case rel => exact ⟨(wrap64 (x3_1 + 1)), (by first | rfl | (simp; done) | (simp [*]; done)), H', ⟨by have := HK1.out; have := HJ1.out; omega⟩, by repeat (first | exact Drawn0.refl _ | apply Drawn0.step)⟩
                        · rw [if_neg c29] at H
                          have c29b0 : decide ((bt a0 x3_1) ≤ 57) = false := decide_eq_false c29
                          clear c29
                          by_cases c30 : (bt a0 x3_1) = 45
                          · rw [if_pos c30] at H
                            have c30b0 : ((bt a0 x3_1) == 45) = true := beq_iff_eq.mpr c30
                            have c30b1 : ((bt a0 x3_1) != 45) = false := bne_eq_false_iff_eq.mpr c30
                            clear c30
                            have H' := Aside0.mk H
                            clear H
                            have p9 : 0 ≤ (x3_1 : Int) := of_decide_eq_true (by first | (with_reducible assumption) | assumption)
                            have q9 : x3_1 < (a0.size : Int) := of_decide_eq_true (by first | (with_reducible assumption) | assumption)
                            have hx9 := bt_at a0 x3_1
                            replace p9 := eq_true p9
                            replace q9 := eq_true q9
                            go_wp2
                            go_roundg kj1
                            case measure => have := HK1.out; have := HJ1.out; omega
                            case rel => exact ⟨(wrap64 (x3_1 + 1)), (by first | rfl | (simp; done) | (simp [*]; done)), H', ⟨by have := HK1.out; have := HJ1.out; omega⟩, by repeat (first | exact Drawn0.refl _ | apply Drawn0.step)⟩
                          · rw [if_neg c30] at H
                            have c30b0 : ((bt a0 x3_1) == 45) = false := beq_eq_false_iff_ne.mpr c30
                            have c30b1 : ((bt a0 x3_1) != 45) = true := bne_iff_ne.mpr c30
                            by_cases c31 : (bt a0 x3_1) = 46
                            · rw [if_pos c31] at H
                              have c31b0 : ((bt a0 x3_1) == 46) = true := beq_iff_eq.mpr c31
                              have c31b1 : ((bt a0 x3_1) != 46) = false := bne_eq_false_iff_eq.mpr c31
                              clear c31
                              have H' := Aside0.mk H
                              clear H
                              have p9 : 0 ≤ (x3_1 : Int) := of_decide_eq_true (by first | (with_reducible assumption) | assumption)
                              have q9 : x3_1 < (a0.size : Int) := of_decide_eq_true (by first | (with_reducible assumption) | assumption)
                              have hx9 := bt_at a0 x3_1
                              replace p9 := eq_true p9
                              replace q9 := eq_true q9
                              go_wp2
                              go_roundg kj1
                              case measure => have := HK1.out; have := HJ1.out; omega
                              case rel => exact ⟨(wrap64 (x3_1 + 1)), (by first | rfl | (simp; done) | (simp [*]; done)), H', ⟨by have := HK1.out; have := HJ1.out; omega⟩, by repeat (first | exact Drawn0.refl _ | apply Drawn0.step)⟩
                            · rw [if_neg c31] at H
                              have c31b0 : ((bt a0 x3_1) == 46) = false := beq_eq_false_iff_ne.mpr c31
                              have c31b1 : ((bt a0 x3_1) != 46) = true := bne_iff_ne.mpr c31
                              by_cases c32 : (bt a0 x3_1) = 95
                              · rw [if_pos c32] at H
                                have c32b0 : ((bt a0 x3_1) == 95) = true := beq_iff_eq.mpr c32
                                have c32b1 : ((bt a0 x3_1) != 95) = false := bne_eq_false_iff_eq.mpr c32
                                clear c32
                                have H' := Aside0.mk H
                                clear H
                                have p9 : 0 ≤ (x3_1 : Int) := of_decide_eq_true (by first | (with_reducible assumption) | assumption)
                                have q9 : x3_1 < (a0.size : Int) := of_decide_eq_true (by first | (with_reducible assumption) | assumption)
                                have hx9 := bt_at a0 x3_1
                                replace p9 := eq_true p9
                                replace q9 := eq_true q9
                                go_wp2
                                go_roundg kj1
                                case measure => have := HK1.out; have := HJ1.out; omega
                                case rel => exact ⟨(wrap64 (x3_1 + 1)), (by first | rfl | (simp; done) | (simp [*]; done)), H', ⟨by have := HK1.out; have := HJ1.out; omega⟩, by repeat (first | exact Drawn0.refl _ | apply Drawn0.step)⟩
                              · rw [if_neg c32] at H
                                have c32b0 : ((bt a0 x3_1) == 95) = false := beq_eq_false_iff_ne.mpr c32
                                have c32b1 : ((bt a0 x3_1) != 95) = true := bne_iff_ne.mpr c32
                                by_cases c33 : (bt a0 x3_1) = 126
                                · rw [if_pos c33] at H
                                  have c33b0 : ((bt a0 x3_1) == 126) = true := beq_iff_eq.mpr c33
                                  have c33b1 : ((bt a0 x3_1) != 126) = false := bne_eq_false_iff_eq.mpr c33
                                  clear c33
                                  have H' := Aside0.mk H
                                  clear H
                                  have p9 : 0 ≤ (x3_1 : Int) := of_decide_eq_true (by first | (with_reducible assumption) | assumption)
                                  have q9 : x3_1 < (a0.size : Int) := of_decide_eq_true (by first | (with_reducible assumption) | assumption)
                                  have hx9 := bt_at a0 x3_1
                                  replace p9 := eq_true p9
                                  replace q9 := eq_true q9
                                  go_wp2
                                  go_roundg kj1
                                  case measure => have := HK1.out; have := HJ1.out; omega
                                  case rel => exact ⟨(wrap64 (x3_1 + 1)), (by first | rfl | (simp; done) | (simp [*]; done)), H', ⟨by have := HK1.out; have := HJ1.out; omega⟩, by repeat (first | exact Drawn0.refl _ | apply Drawn0.step)⟩
                                · rw [if_neg c33] at H
                                  have c33b0 : ((bt a0 x3_1) == 126) = false := beq_eq_false_iff_ne.mpr c33
                                  have c33b1 : ((bt a0 x3_1) != 126) = true := bne_iff_ne.mpr c33
                                  by_cases c34 : (bt a0 x3_1) = 43
                                  · rw [if_pos c34] at H
                                    have c34b0 : ((bt a0 x3_1) == 43) = true := beq_iff_eq.mpr c34
                                    have c34b1 : ((bt a0 x3_1) != 43) = false := bne_eq_false_iff_eq.mpr c34
                                    clear c34
                                    have H' := Aside0.mk H
                                    clear H
                                    have p9 : 0 ≤ (x3_1 : Int) := of_decide_eq_true (by first | (with_reducible assumption) | assumption)
                                    have q9 : x3_1 < (a0.size : Int) := of_decide_eq_true (by first | (with_reducible assumption) | assumption)
                                    have hx9 := bt_at a0 x3_1
                                    replace p9 := eq_true p9
                                    replace q9 := eq_true q9
                                    go_wp2
                                    go_roundg kj1
                                    case measure => have := HK1.out; have := HJ1.out; omega
                                    case rel => exact ⟨(wrap64 (x3_1 + 1)), (by first | rfl | (simp; done) | (simp [*]; done)), H', ⟨by have := HK1.out; have := HJ1.out; omega⟩, by repeat (first | exact Drawn0.refl _ | apply Drawn0.step)⟩
                                  · rw [if_neg c34] at H
                                    have c34b0 : ((bt a0 x3_1) == 43) = false := beq_eq_false_iff_ne.mpr c34
                                    have c34b1 : ((bt a0 x3_1) != 43) = true := bne_iff_ne.mpr c34
                                    by_cases c35 : ((bt a0 x3_1) = 47)
                                    · rw [if_pos c35] at H
                                      have c35b0 : ((bt a0 x3_1) == 47) = true := beq_iff_eq.mpr c35
                                      have c35b1 : ((bt a0 x3_1) != 47) = false := bne_eq_false_iff_eq.mpr c35
                                      clear c35
                                      have H' := Aside0.mk H
                                      clear H
                                      have p9 : 0 ≤ (x3_1 : Int) := of_decide_eq_true (by first | (with_reducible assumption) | assumption)
                                      have q9 : x3_1 < (a0.size : Int) := of_decide_eq_true (by first | (with_reducible assumption) | assumption)
                                      have hx9 := bt_at a0 x3_1
                                      replace p9 := eq_true p9
                                      replace q9 := eq_true q9
                                      go_wp2
                                      go_roundg kj1
                                      case measure => have := HK1.out; have := HJ1.out; omega
                                      case rel => exact ⟨(wrap64 (x3_1 + 1)), (by first | rfl | (simp; done) | (simp [*]; done)), H', ⟨by have := HK1.out; have := HJ1.out; omega⟩, by repeat (first | exact Drawn0.refl _ | apply Drawn0.step)⟩
                                    · rw [if_neg c35] at H
                                      have c35b0 : ((bt a0 x3_1) == 47) = false := beq_eq_false_iff_ne.mpr c35
                                      have c35b1 : ((bt a0 x3_1) != 47) = true := bne_iff_ne.mpr c35
                                      obtain rfl := Option.some.inj H
                                      have p9 : 0 ≤ (x3_1 : Int) := of_decide_eq_true (by first | (with_reducible assumption) | assumption)
                                      have q9 : x3_1 < (a0.size : Int) := of_decide_eq_true (by first | (with_reducible assumption) | assumption)
                                      have hx9 := bt_at a0 x3_1
                                      replace p9 := eq_true p9
                                      replace q9 := eq_true q9
                                      go_wp2
                                      go_ret
                                      exact ⟨by first | rfl | (simp; done) | (simp [*]; done), by repeat (first | exact Drawn0.refl _ | apply Drawn0.step)⟩
                      · rw [if_neg c28] at H
                        have c28b0 : decide (48 ≤ (bt a0 x3_1)) = false := decide_eq_false c28
                        clear c28
                        by_cases c36 : (bt a0 x3_1) = 45
                        · rw [if_pos c36] at H
                          have c36b0 : ((bt a0 x3_1) == 45) = true := beq_iff_eq.mpr c36
                          have c36b1 : ((bt a0 x3_1) != 45) = false := bne_eq_false_iff_eq.mpr c36
                          clear c36
                          have H' := Aside0.mk H
                          clear H
                          have p9 : 0 ≤ (x3_1 : Int) := of_decide_eq_true (by first | (with_reducible assumption) | assumption)
                          have q9 : x3_1 < (a0.size : Int) := of_decide_eq_true (by first | (with_reducible assumption) | assumption)
                          have hx9 := bt_at a0 x3_1
                          replace p9 := eq_true p9
                          replace q9 := eq_true q9
                          go_wp2
                          go_roundg kj1
                          case measure => have := HK1.out; have := HJ1.out; omega
                          case rel => exact ⟨(wrap64 (x3_1 + 1)), (by first | rfl | (simp; done) | (simp [*]; done)), H', ⟨by have := HK1.out; have := HJ1.out; omega⟩, by repeat (first | exact Drawn0.refl _ | apply Drawn0.step)⟩
                        · rw [if_neg c36] at H
                          have c36b0 : ((bt a0 x3_1) == 45) = false := beq_eq_false_iff_ne.mpr c36
                          have c36b1 : ((bt a0 x3_1) != 45) = true := bne_iff_ne.mpr c36
                          by_cases c37 : (bt a0 x3_1) = 46
                          · rw [if_pos c37] at H
                            have c37b0 : ((bt a0 x3_1) == 46) = true := beq_iff_eq.mpr c37
                            have c37b1 : ((bt a0 x3_1) != 46) = false := bne_eq_false_iff_eq.mpr c37
                            clear c37
                            have H' := Aside0.mk H
                            clear H
                            have p9 : 0 ≤ (x3_1 : Int) := of_decide_eq_true (by first | (with_reducible assumption) | assumption)
                            have q9 : x3_1 < (a0.size : Int) := of_decide_eq_true (by first | (with_reducible assumption) | assumption)
                            have hx9 := bt_at a0 x3_1
                            replace p9 := eq_true p9
                            replace q9 := eq_true q9
                            go_wp2
                            go_roundg kj1
                            case measure => have := HK1.out; have := HJ1.out; omega
                            case rel => exact ⟨(wrap64 (x3_1 + 1)), (by first | rfl | (simp; done) | (simp [*]; done)), H', ⟨by have := HK1.out; have := HJ1.out; omega⟩, by repeat (first | exact Drawn0.refl _ | apply Drawn0.step)⟩
                          · rw [if_neg c37] at H
                            have c37b0 : ((bt a0 x3_1) == 46) = false := beq_eq_false_iff_ne.mpr c37
                            have c37b1 : ((bt a0 x3_1) != 46) = true := bne_iff_ne.mpr c37
                            by_cases c38 : (bt a0 x3_1) = 95
                            · rw [if_pos c38] at H
                              have c38b0 : ((bt a0 x3_1) == 95) = true := beq_iff_eq.mpr c38
                              have c38b1 : ((bt a0 x3_1) != 95) = false := bne_eq_false_iff_eq.mpr c38
                              clear c38
                              have H' := Aside0.mk H
                              clear H
                              have p9 : 0 ≤ (x3_1 : Int) := of_decide_eq_true (by first | (with_reducible assumption) | assumption)
                              have q9 : x3_1 < (a0.size : Int) := of_decide_eq_true (by first | (with_reducible assumption) | assumption)
                              have hx9 := bt_at a0 x3_1
                              replace p9 := eq_true p9
                              replace q9 := eq_true q9
                              go_wp2
                              go_roundg kj1
                              case measure => have := HK1.out; have := HJ1.out; omega
                              case rel => exact ⟨(wrap64 (x3_1 + 1)), (by first | rfl | (simp; done) | (simp [*]; done)), H', ⟨by have := HK1.out; have := HJ1.out; omega⟩, by repeat (first | exact Drawn0.refl _ | apply Drawn0.step)⟩
                            · rw [if_neg c38] at H
                              have c38b0 : ((bt a0 x3_1) == 95) = false := beq_eq_false_iff_ne.mpr c38
                              have c38b1 : ((bt a0 x3_1) != 95) = true := bne_iff_ne.mpr c38
                              by_cases c39 : (bt a0 x3_1) = 126
                              · rw [if_pos c39] at H
                                have c39b0 : ((bt a0 x3_1) == 126) = true := beq_iff_eq.mpr c39
                                have c39b1 : ((bt a0 x3_1) != 126) = false := bne_eq_false_iff_eq.mpr c39
                                clear c39
                                have H' := Aside0.mk H
                                clear H
                                have p9 : 0 ≤ (x3_1 : Int) := of_decide_eq_true (by first | (with_reducible assumption) | assumption)
                                have q9 : x3_1 < (a0.size : Int) := of_decide_eq_true (by first | (with_reducible assumption) | assumption)
                                have hx9 := bt_at a0 x3_1
                                replace p9 := eq_true p9
                                replace q9 := eq_true q9
                                go_wp2
                                go_roundg kj1
                                case measure => have := HK1.out; have := HJ1.out; omega
                                case rel => exact ⟨(wrap64 (x3_1 + 1)), (by first | rfl | (simp; done) | (simp [*]; done)), H', ⟨by have := HK1.out; have := HJ1.out; omega⟩, by repeat (first | exact Drawn0.refl _ | apply Drawn0.step)⟩
                              · rw [if_neg c39] at H
                                have c39b0 : ((bt a0 x3_1) == 126) = false := beq_eq_false_iff_ne.mpr c39
                                have c39b1 : ((bt a0 x3_1) != 126) = true := bne_iff_ne.mpr c39
                                by_cases c40 : (bt a0 x3_1) = 43
                                · rw [if_pos c40] at H
                                  have c40b0 : ((bt a0 x3_1) == 43) = true := beq_iff_eq.mpr c40
                                  have c40b1 : ((bt a0 x3_1) != 43) = false := bne_eq_false_iff_eq.mpr c40
                                  clear c40
                                  have H' := Aside0.mk H
                                  clear H
                                  have p9 : 0 ≤ (x3_1 : Int) := of_decide_eq_true (by first | (with_reducible assumption) | assumption)
                                  have q9 : x3_1 < (a0.size : Int) := of_decide_eq_true (by first | (with_reducible assumption) | assumption)
                                  have hx9 := bt_at a0 x3_1
                                  replace p9 := eq_true p9
                                  replace q9 := eq_true q9
                                  go_wp2
                                  go_roundg kj1
                                  case measure => have := HK1.out; have := HJ1.out; omega
                                  case rel => exact ⟨(wrap64 (x3_1 + 1)), (by first | rfl | (simp; done) | (simp [*]; done)), H', ⟨by have := HK1.out; have := HJ1.out; omega⟩, by repeat (first | exact Drawn0.refl _ | apply Drawn0.step)⟩
                                · rw [if_neg c40] at H
                                  have c40b0 : ((bt a0 x3_1) == 43) = false := beq_eq_false_iff_ne.mpr c40
                                  have c40b1 : ((bt a0 x3_1) != 43) = true := bne_iff_ne.mpr c40
                                  by_cases c41 : ((bt a0 x3_1) = 47)
                                  · rw [if_pos c41] at H
                                    have c41b0 : ((bt a0 x3_1) == 47) = true := beq_iff_eq.mpr c41
                                    have c41b1 : ((bt a0 x3_1) != 47) = false := bne_eq_false_iff_eq.mpr c41
                                    clear c41
                                    have H' := Aside0.mk H
                                    clear H
                                    have p9 : 0 ≤ (x3_1 : Int) := of_decide_eq_true (by first | (with_reducible assumption) | assumption)
                                    have q9 : x3_1 < (a0.size : Int) := of_decide_eq_true (by first | (with_reducible assumption) | assumption)
                                    have hx9 := bt_at a0 x3_1
                                    replace p9 := eq_true p9
                                    replace q9 := eq_true q9
                                    go_wp2
                                    go_roundg kj1
                                    case measure => have := HK1.out; have := HJ1.out; omega
                                    case rel => exact ⟨(wrap64 (x3_1 + 1)), (by first | rfl | (simp; done) | (simp [*]; done)), H', ⟨by have := HK1.out; have := HJ1.out; omega⟩, by repeat (first | exact Drawn0.refl _ | apply Drawn0.step)⟩
                                  · rw [if_neg c41] at H
                                    have c41b0 : ((bt a0 x3_1) == 47) = false := beq_eq_false_iff_ne.mpr c41
                                    have c41b1 : ((bt a0 x3_1) != 47) = true := bne_iff_ne.mpr c41
                                    obtain rfl := Option.some.inj H
                                    have p9 : 0 ≤ (x3_1 : Int) := of_decide_eq_true (by first | (with_reducible assumption) | assumption)
                                    have q9 : x3_1 < (a0.size : Int) := of_decide_eq_true (by first | (with_reducible assumption) | assumption)
                                    have hx9 := bt_at a0 x3_1
                                    replace p9 := eq_true p9
                                    replace q9 := eq_true q9
                                    go_wp2
                                    go_ret
                                    exact ⟨by first | rfl | (simp; done) | (simp [*]; done), by repeat (first | exact Drawn0.refl _ | apply Drawn0.step)⟩
                · rw [if_neg c10] at H
                  have c10b0 : decide (97 ≤ (bt a0 x3_1)) = false := decide_eq_false c10
                  clear c10
                  by_cases c42 : (bt a0 x3_1) ≥ 65
                  · rw [if_pos c42] at H
                    have c42b0 : decide (65 ≤ (bt a0 x3_1)) = true := decide_eq_true c42
                    clear c42
                    by_cases c43 : (bt a0 x3_1) ≤ 90
                    · rw [if_pos c43] at H
                      have c43b0 : decide ((bt a0 x3_1) ≤ 90) = true := decide_eq_true c43
                      clear c43
                      have H' := Aside0.mk H
                      clear H
                      have p9 : 0 ≤ (x3_1 : Int) := of_decide_eq_true (by first | (with_reducible assumption) | assumption)
                      have q9 : x3_1 < (a0.size : Int) := of_decide_eq_true (by first | (with_reducible assumption) | assumption)
                      have hx9 := bt_at a0 x3_1
                      replace p9 := eq_true p9
                      replace q9 := eq_true q9
                      go_wp2
                      go_roundg kj1
                      case measure => have := HK1.out; have := HJ1.out; omega
                      case rel => exact ⟨(wrap64 (x3_1 + 1)), (by first | rfl | (simp; done) | (simp [*]; done)), H', ⟨by have := HK1.out; have := HJ1.out; omega⟩, by repeat (first | exact Drawn0.refl _ | apply Drawn0.step)⟩
                    · rw [if_neg c43] at H
                      have c43b0 : decide ((bt a0 x3_1) ≤ 90) = false := decide_eq_false c43
                      clear c43
                      by_cases c44 : (bt a0 x3_1) ≥ 48
                      · rw [if_pos c44] at H
                        have c44b0 : decide (48 ≤ (bt a0 x3_1)) = true := decide_eq_true c44
                        clear c44
                        by_cases c45 : (bt a0 x3_1) ≤ 57
                        · rw [if_pos c45] at H
                          have c45b0 : decide ((bt a0 x3_1) ≤ 57) = true := decide_eq_true c45
                          clear c45
                          have H' := Aside0.mk H
                          clear H
                          have p9 : 0 ≤ (x3_1 : Int) := of_decide_eq_true (by first | (with_reducible assumption) | assumption)
                          have q9 : x3_1 < (a0.size : Int) := of_decide_eq_true (by first | (with_reducible assumption) | assumption)
                          have hx9 := bt_at a0 x3_1
                          replace p9 := eq_true p9
                          replace q9 := eq_true q9
                          go_wp2
                          go_roundg kj1
                          case measure => have := HK1.out; have := HJ1.out; omega
                          case rel => exact ⟨(wrap64 (x3_1 + 1)), (by first | rfl | (simp; done) | (simp [*]; done)), H', ⟨by have := HK1.out; have := HJ1.out; omega⟩, by repeat (first | exact Drawn0.refl _ | apply Drawn0.step)⟩
                        · rw [if_neg c45] at H
                          have c45b0 : decide ((bt a0 x3_1) ≤ 57) = false := decide_eq_false c45
                          clear c45
                          by_cases c46 : (bt a0 x3_1) = 45
                          · rw [if_pos c46] at H
                            have c46b0 : ((bt a0 x3_1) == 45) = true := beq_iff_eq.mpr c46
                            have c46b1 : ((bt a0 x3_1) != 45) = false := bne_eq_false_iff_eq.mpr c46
                            clear c46
                            have H' := Aside0.mk H
                            clear H
                            have p9 : 0 ≤ (x3_1 : Int) := of_decide_eq_true (by first | (with_reducible assumption) | assumption)
                            have q9 : x3_1 < (a0.size : Int) := of_decide_eq_true (by first | (with_reducible assumption) | assumption)
                            have hx9 := bt_at a0 x3_1
                            replace p9 := eq_true p9
                            replace q9 := eq_true q9
                            go_wp2
                            go_roundg kj1
                            case measure => have := HK1.out; have := HJ1.out; omega
                            case rel => exact ⟨(wrap64 (x3_1 + 1)), (by first | rfl | (simp; done) | (simp [*]; done)), H', ⟨by have := HK1.out; have := HJ1.out; omega⟩, by repeat (first | exact Drawn0.refl _ | apply Drawn0.step)⟩
                          · rw [if_neg c46] at H
                            have c46b0 : ((bt a0 x3_1) == 45) = false := beq_eq_false_iff_ne.mpr c46
                            have c46b1 : ((bt a0 x3_1) != 45) = true := bne_iff_ne.mpr c46
                            by_cases c47 : (bt a0 x3_1) = 46
                            · rw [if_pos c47] at H
                              have c47b0 : ((bt a0 x3_1) == 46) = true := beq_iff_eq.mpr c47
                              have c47b1 : ((bt a0 x3_1) != 46) = false := bne_eq_false_iff_eq.mpr c47
                              clear c47
                              have H' := Aside0.mk H
                              clear H
                              have p9 : 0 ≤ (x3_1 : Int) := of_decide_eq_true (by first | (with_reducible assumption) | assumption)
                              have q9 : x3_1 < (a0.size : Int) := of_decide_eq_true (by first | (with_reducible assumption) | assumption)
                              have hx9 := bt_at a0 x3_1
                              replace p9 := eq_true p9
                              replace q9 := eq_true q9
                              go_wp2
                              go_roundg kj1
                              case measure => have := HK1.out; have := HJ1.out; omega
                              case rel => exact ⟨(wrap64 (x3_1 + 1)), (by first | rfl | (simp; done) | (simp [*]; done)), H', ⟨by have := HK1.out; have := HJ1.out; omega⟩, by repeat (first | exact Drawn0.refl _ | apply Drawn0.step)⟩
                            · rw [if_neg c47] at H
                              have c47b0 : ((bt a0 x3_1) == 46) = false := beq_eq_false_iff_ne.mpr c47
                              have c47b1 : ((bt a0 x3_1) != 46) = true := bne_iff_ne.mpr c47
                              by_cases c48 : (bt a0 x3_1) = 95
                              · rw [if_pos c48] at H
                                have c48b0 : ((bt a0 x3_1) == 95) = true := beq_iff_eq.mpr c48
                                have c48b1 : ((bt a0 x3_1) != 95) = false := bne_eq_false_iff_eq.mpr c48
                                clear c48
                                have H' := Aside0.mk H
                                clear H
                                have p9 : 0 ≤ (x3_1 : Int) := of_decide_eq_true (by first | (with_reducible assumption) | assumption)
                                have q9 : x3_1 < (a0.size : Int) := of_decide_eq_true (by first | (with_reducible assumption) | assumption)
                                have hx9 := bt_at a0 x3_1
                                replace p9 := eq_true p9
                                replace q9 := eq_true q9
                                go_wp2
                                go_roundg kj1
                                case measure => have := HK1.out; have := HJ1.out; omega
                                case rel => exact ⟨(wrap64 (x3_1 + 1)), (by first | rfl | (simp; done) | (simp [*]; done)), H', ⟨by have := HK1.out; have := HJ1.out; omega⟩, by repeat (first | exact Drawn0.refl _ | apply Drawn0.step)⟩
                              · rw [if_neg c48] at H
                                have c48b0 : ((bt a0 x3_1) == 95) = false := beq_eq_false_iff_ne.mpr c48
                                have c48b1 : ((bt a0 x3_1) != 95) = true := bne_iff_ne.mpr c48
                                by_cases c49 : (bt a0 x3_1) = 126
                                · rw [if_pos c49] at H
                                  have c49b0 : ((bt a0 x3_1) == 126) = true := beq_iff_eq.mpr c49
                                  have c49b1 : ((bt a0 x3_1) != 126) = false := bne_eq_false_iff_eq.mpr c49
                                  clear c49
                                  have H' := Aside0.mk H
                                  clear H
                                  have p9 : 0 ≤ (x3_1 : Int) := of_decide_eq_true (by first | (with_reducible assumption) | assumption)
                                  have q9 : x3_1 < (a0.size : Int) := of_decide_eq_true (by first | (with_reducible assumption) | assumption)
                                  have hx9 := bt_at a0 x3_1
                                  replace p9 := eq_true p9
                                  replace q9 := eq_true q9
                                  go_wp2
                                  go_roundg kj1
                                  case measure => have := HK1.out; have := HJ1.out; omega
                                  case rel => exact ⟨(wrap64 (x3_1 + 1)), (by first | rfl | (simp; done) | (simp [*]; done)), H', ⟨by have := HK1.out; have := HJ1.out; omega⟩, by repeat (first | exact Drawn0.refl _ | apply Drawn0.step)⟩
                                · rw [if_neg c49] at H
                                  have c49b0 : ((bt a0 x3_1) == 126) = false := beq_eq_false_iff_ne.mpr c49
                                  have c49b1 : ((bt a0 x3_1) != 126) = true := bne_iff_ne.mpr c49
                                  by_cases c50 : (bt a0 x3_1) = 43
                                  · rw [if_pos c50] at H
                                    have c50b0 : ((bt a0 x3_1) == 43) = true := beq_iff_eq.mpr c50
                                    have c50b1 : ((bt a0 x3_1) != 43) = false := bne_eq_false_iff_eq.mpr c50
                                    clear c50
                                    have H' := Aside0.mk H
                                    clear H
                                    have p9 : 0 ≤ (x3_1 : Int) := of_decide_eq_true (by first | (with_reducible assumption) | assumption)
                                    have q9 : x3_1 < (a0.size : Int) := of_decide_eq_true (by first | (with_reducible assumption) | assumption)
                                    have hx9 := bt_at a0 x3_1
                                    replace p9 := eq_true p9
                                    replace q9 := eq_true q9
                                    go_wp2
                                    go_roundg kj1
                                    case measure => have := HK1.out; have := HJ1.out; omega
                                    case rel => exact ⟨(wrap64 (x3_1 + 1)), (by first | rfl | (simp; done) | (simp [*]; done)), H', ⟨by have := HK1.out; have := HJ1.out; omega⟩, by repeat (first | exact Drawn0.refl _ | apply Drawn0.step)⟩
                                  · rw [if_neg c50] at H
                                    have c50b0 : ((bt a0 x3_1) == 43) = false := beq_eq_false_iff_ne.mpr c50
                                    have c50b1 : ((bt a0 x3_1) != 43) = true := bne_iff_ne.mpr c50
                                    by_cases c51 : ((bt a0 x3_1) = 47)
                                    · rw [if_pos c51] at H
                                      have c51b0 : ((bt a0 x3_1) == 47) = true := beq_iff_eq.mpr c51
                                      have c51b1 : ((bt a0 x3_1) != 47) = false := bne_eq_false_iff_eq.mpr c51
                                      clear c51
                                      have H' := Aside0.mk H
                                      clear H
                                      have p9 : 0 ≤ (x3_1 : Int) := of_decide_eq_true (by first | (with_reducible assumption) | assumption)
                                      have q9 : x3_1 < (a0.size : Int) := of_decide_eq_true (by first | (with_reducible assumption) | assumption)
                                      have hx9 := bt_at a0 x3_1
                                      replace p9 := eq_true p9
                                      replace q9 := eq_true q9
                                      go_wp2
                                      go_roundg kj1
                                      case measure => have := HK1.out; have := HJ1.out; omega
                                      case rel => exact ⟨(wrap64 (x3_1 + 1)), (by first | rfl | (simp; done) | (simp [*]; done)), H', ⟨by have := HK1.out; have := HJ1.out; omega⟩, by repeat (first | exact Drawn0.refl _ | apply Drawn0.step)⟩
                                    · rw [if_neg c51] at H
                                      have c51b0 : ((bt a0 x3_1) == 47) = false := beq_eq_false_iff_ne.mpr c51
                                      have c51b1 : ((bt a0 x3_1) != 47) = true := bne_iff_ne.mpr c51
                                      obtain rfl := Option.some.inj H
                                      have p9 : 0 ≤ (x3_1 : Int) := of_decide_eq_true (by first | (with_reducible assumption) | assumption)
                                      have q9 : x3_1 < (a0.size : Int) := of_decide_eq_true (by first | (with_reducible assumption) | assumption)
                                      have hx9 := bt_at a0 x3_1
                                      replace p9 := eq_true p9
                                      replace q9 := eq_true q9
                                      go_wp2
                                      go_ret
                                      exact ⟨by first | rfl | (simp; done) | (simp [*]; done), by repeat (first | exact Drawn0.refl _ | apply Drawn0.step)⟩
                      · rw [if_neg c44] at H
                        have c44b0 : decide (48 ≤ (bt a0 x3_1)) = false := decide_eq_false c44
                        clear c44
                        by_cases c52 : (bt a0 x3_1) = 45
                        · rw [if_pos c52] at H
                          have c52b0 : ((bt a0 x3_1) == 45) = true := beq_iff_eq.mpr c52
                          have c52b1 : ((bt a0 x3_1) != 45) = false := bne_eq_false_iff_eq.mpr c52
                          clear c52
                          have H' := Aside0.mk H
                          clear H
                          have p9 : 0 ≤ (x3_1 : Int) := of_decide_eq_true (by first | (with_reducible assumption) | assumption)
                          have q9 : x3_1 < (a0.size : Int) := of_decide_eq_true (by first | (with_reducible assumption) | assumption)
                          have hx9 := bt_at a0 x3_1
                          replace p9 := eq_true p9
                          replace q9 := eq_true q9
                          go_wp2
                          go_roundg kj1
                          case measure => have := HK1.out; have := HJ1.out; omega
                          case rel => exact ⟨(wrap64 (x3_1 + 1)), (by first | rfl | (simp; done) | (simp [*]; done)), H', ⟨by have := HK1.out; have := HJ1.out; omega⟩, by repeat (first | exact Drawn0.refl _ | apply Drawn0.step)⟩
                        · rw [if_neg c52] at H
                          have c52b0 : ((bt a0 x3_1) == 45) = false := beq_eq_false_iff_ne.mpr c52
                          have c52b1 : ((bt a0 x3_1) != 45) = true := bne_iff_ne.mpr c52
                          by_cases c53 : (bt a0 x3_1) = 46
                          · rw [if_pos c53] at H
                            have c53b0 : ((bt a0 x3_1) == 46) = true := beq_iff_eq.mpr c53
                            have c53b1 : ((bt a0 x3_1) != 46) = false := bne_eq_false_iff_eq.mpr c53
                            clear c53
                            have H' := Aside0.mk H
                            clear H
                            have p9 : 0 ≤ (x3_1 : Int) := of_decide_eq_true (by first | (with_reducible assumption) | assumption)
                            have q9 : x3_1 < (a0.size : Int) := of_decide_eq_true (by first | (with_reducible assumption) | assumption)
                            have hx9 := bt_at a0 x3_1
                            replace p9 := eq_true p9
                            replace q9 := eq_true q9
                            go_wp2
                            go_roundg kj1
                            case measure => have := HK1.out; have := HJ1.out; omega
                            case rel => exact ⟨(wrap64 (x3_1 + 1)), (by first | rfl | (simp; done) | (simp [*]; done)), H', ⟨by have := HK1.out; have := HJ1.out; omega⟩, by repeat (first | exact Drawn0.refl _ | apply Drawn0.step)⟩
                          · rw [if_neg c53] at H
                            have c53b0 : ((bt a0 x3_1) == 46) = false := beq_eq_false_iff_ne.mpr c53
                            have c53b1 : ((bt a0 x3_1) != 46) = true := bne_iff_ne.mpr c53
                            by_cases c54 : (bt a0 x3_1) = 95
                            · rw [if_pos c54] at H
                              have c54b0 : ((bt a0 x3_1) == 95) = true := beq_iff_eq.mpr c54
                              have c54b1 : ((bt a0 x3_1) != 95) = false := bne_eq_false_iff_eq.mpr c54
                              clear c54
                              have H' := Aside0.mk H
                              clear H
                              have p9 : 0 ≤ (x3_1 : Int) := of_decide_eq_true (by first | (with_reducible assumption) | assumption)
                              have q9 : x3_1 < (a0.size : Int) := of_decide_eq_true (by first | (with_reducible assumption) | assumption)
                              have hx9 := bt_at a0 x3_1
                              replace p9 := eq_true p9
                              replace q9 := eq_true q9
                              go_wp2
                              go_roundg kj1
                              case measure => have := HK1.out; have := HJ1.out; omega
                              case rel => exact ⟨(wrap64 (x3_1 + 1)), (by first | rfl | (simp; done) | (simp [*]; done)), H', ⟨by have := HK1.out; have := HJ1.out; omega⟩, by repeat (first | exact Drawn0.refl _ | apply Drawn0.step)⟩
                            · rw [if_neg c54] at H
                              have c54b0 : ((bt a0 x3_1) == 95) = false := beq_eq_false_iff_ne.mpr c54
                              have c54b1 : ((bt a0 x3_1) != 95) = true := bne_iff_ne.mpr c54
                              by_cases c55 : (bt a0 x3_1) = 126
                              · rw [if_pos c55] at H
                                have c55b0 : ((bt a0 x3_1) == 126) = true := beq_iff_eq.mpr c55
                                have c55b1 : ((bt a0 x3_1) != 126) = false := bne_eq_false_iff_eq.mpr c55
                                clear c55
                                have H' := Aside0.mk H
                                clear H
                                have p9 : 0 ≤ (x3_1 : Int) := of_decide_eq_true (by first | (with_reducible assumption) | assumption)
                                have q9 : x3_1 < (a0.size : Int) := of_decide_eq_true (by first | (with_reducible assumption) | assumption)
                                have hx9 := bt_at a0 x3_1
                                replace p9 := eq_true p9
                                replace q9 := eq_true q9
                                go_wp2
                                go_roundg kj1
                                case measure => have := HK1.out; have := HJ1.out; omega
                                case rel => exact ⟨(wrap64 (x3_1 + 1)), (by first | rfl | (simp; done) | (simp [*]; done)), H', ⟨by have := HK1.out; have := HJ1.out; omega⟩, by repeat (first | exact Drawn0.refl _ | apply Drawn0.step)⟩
                              · rw [if_neg c55] at H
                                have c55b0 : ((bt a0 x3_1) == 126) = false := beq_eq_false_iff_ne.mpr c55
                                have c55b1 : ((bt a0 x3_1) != 126) = true := bne_iff_ne.mpr c55
                                by_cases c56 : (bt a0 x3_1) = 43
                                · rw [if_pos c56] at H
                                  have c56b0 : ((bt a0 x3_1) == 43) = true := beq_iff_eq.mpr c56
                                  have c56b1 : ((bt a0 x3_1) != 43) = false := bne_eq_false_iff_eq.mpr c56
                                  clear c56
                                  have H' := Aside0.mk H
                                  clear H
                                  have p9 : 0 ≤ (x3_1 : Int) := of_decide_eq_true (by first | (with_reducible assumption) | assumption)
                                  have q9 : x3_1 < (a0.size : Int) := of_decide_eq_true (by first | (with_reducible assumption) | assumption)
                                  have hx9 := bt_at a0 x3_1
                                  replace p9 := eq_true p9
                                  replace q9 := eq_true q9
                                  go_wp2
                                  go_roundg kj1
                                  case measure => have := HK1.out; have := HJ1.out; omega
                                  case rel => exact ⟨(wrap64 (x3_1 + 1)), (by first | rfl | (simp; done) | (simp [*]; done)), H', ⟨by have := HK1.out; have := HJ1.out; omega⟩, by repeat (first | exact Drawn0.refl _ | apply Drawn0.step)⟩
                                · rw [if_neg c56] at H
                                  have c56b0 : ((bt a0 x3_1) == 43) = false := beq_eq_false_iff_ne.mpr c56
                                  have c56b1 : ((bt a0 x3_1) != 43) = true := bne_iff_ne.mpr c56
                                  by_cases c57 : ((bt a0 x3_1) = 47)
                                  · rw [if_pos c57] at H
                                    have c57b0 : ((bt a0 x3_1) == 47) = true := beq_iff_eq.mpr c57
                                    have c57b1 : ((bt a0 x3_1) != 47) = false := bne_eq_false_iff_eq.mpr c57
                                    clear c57
                                    have H' := Aside0.mk H
                                    clear H
                                    have p9 : 0 ≤ (x3_1 : Int) := of_decide_eq_true (by first | (with_reducible assumption) | assumption)
                                    have q9 : x3_1 < (a0.size : Int) := of_decide_eq_true (by first | (with_reducible assumption) | assumption)
                                    have hx9 := bt_at a0 x3_1
                                    replace p9 := eq_true p9
                                    replace q9 := eq_true q9
                                    go_wp2
                                    go_roundg kj1
                                    case measure => have := HK1.out; have := HJ1.out; omega
                                    case rel => exact ⟨(wrap64 (x3_1 + 1)), (by first | rfl | (simp; done) | (simp [*]; done)), H', ⟨by have := HK1.out; have := HJ1.out; omega⟩, by repeat (first | exact Drawn0.refl _ | apply Drawn0.step)⟩
                                  · rw [if_neg c57] at H
                                    have c57b0 : ((bt a0 x3_1) == 47) = false := beq_eq_false_iff_ne.mpr c57
                                    have c57b1 : ((bt a0 x3_1) != 47) = true := bne_iff_ne.mpr c57
                                    obtain rfl := Option.some.inj H
                                    have p9 : 0 ≤ (x3_1 : Int) := of_decide_eq_true (by first | (with_reducible assumption) | assumption)
                                    have q9 : x3_1 < (a0.size : Int) := of_decide_eq_true (by first | (with_reducible assumption) | assumption)
                                    have hx9 := bt_at a0 x3_1
                                    replace p9 := eq_true p9
                                    replace q9 := eq_true q9
                                    go_wp2
                                    go_ret
                                    exact ⟨by first | rfl | (simp; done) | (simp [*]; done), by repeat (first | exact Drawn0.refl _ | apply Drawn0.step)⟩
                  · rw [if_neg c42] at H
                    have c42b0 : decide (65 ≤ (bt a0 x3_1)) = false := decide_eq_false c42
                    clear c42
                    by_cases c58 : (bt a0 x3_1) ≥ 48
                    · rw [if_pos c58] at H
                      have c58b0 : decide (48 ≤ (bt a0 x3_1)) = true := decide_eq_true c58
                      clear c58
                      by_cases c59 : (bt a0 x3_1) ≤ 57
                      · rw [if_pos c59] at H
                        have c59b0 : decide ((bt a0 x3_1) ≤ 57) = true := decide_eq_true c59
                        clear c59
                        have H' := Aside0.mk H
                        clear H
                        have p9 : 0 ≤ (x3_1 : Int) := of_decide_eq_true (by first | (with_reducible assumption) | assumption)
                        have q9 : x3_1 < (a0.size : Int) := of_decide_eq_true (by first | (with_reducible assumption) | assumption)
                        have hx9 := bt_at a0 x3_1
                        replace p9 := eq_true p9
                        replace q9 := eq_true q9
                        go_wp2
                        go_roundg kj1
                        case measure => have := HK1.out; have := HJ1.out; omega
                        case rel => exact ⟨(wrap64 (x3_1 + 1)), (by first | rfl | (simp; done) | (simp [*]; done)), H', ⟨by have := HK1.out; have := HJ1.out; omega⟩, by repeat (first | exact Drawn0.refl _ | apply Drawn0.step)⟩
                      · rw [if_neg c59] at H
                        have c59b0 : decide ((bt a0 x3_1) ≤ 57) = false := decide_eq_false c59
                        clear c59
                        by_cases c60 : (bt a0 x3_1) = 45
                        · rw [if_pos c60] at H
                          have c60b0 : ((bt a0 x3_1) == 45) = true := beq_iff_eq.mpr c60
                          have c60b1 : ((bt a0 x3_1) != 45) = false := bne_eq_false_iff_eq.mpr c60
                          clear c60
                          have H' := Aside0.mk H
                          clear H
                          have p9 : 0 ≤ (x3_1 : Int) := of_decide_eq_true (by first | (with_reducible assumption) | assumption)
                          have q9 : x3_1 < (a0.size : Int) := of_decide_eq_true (by first | (with_reducible assumption) | assumption)
                          have hx9 := bt_at a0 x3_1
                          replace p9 := eq_true p9
                          replace q9 := eq_true q9
                          go_wp2
                          go_roundg kj1
                          case measure => have := HK1.out; have := HJ1.out; omega
                          case rel => exact ⟨(wrap64 (x3_1 + 1)), (by first | rfl | (simp; done) | (simp [*]; done)), H', ⟨by have := HK1.out; have := HJ1.out; omega⟩, by repeat (first | exact Drawn0.refl _ | apply Drawn0.step)⟩
                        · rw [if_neg c60] at H
                          have c60b0 : ((bt a0 x3_1) == 45) = false := beq_eq_false_iff_ne.mpr c60
                          have c60b1 : ((bt a0 x3_1) != 45) = true := bne_iff_ne.mpr c60
                          by_cases c61 : (bt a0 x3_1) = 46
                          · rw [if_pos c61] at H
                            have c61b0 : ((bt a0 x3_1) == 46) = true := beq_iff_eq.mpr c61
                            have c61b1 : ((bt a0 x3_1) != 46) = false := bne_eq_false_iff_eq.mpr c61
                            clear c61
                            have H' := Aside0.mk H
                            clear H
                            have p9 : 0 ≤ (x3_1 : Int) := of_decide_eq_true (by first | (with_reducible assumption) | assumption)
                            have q9 : x3_1 < (a0.size : Int) := of_decide_eq_true (by first | (with_reducible assumption) | assumption)
                            have hx9 := bt_at a0 x3_1
                            replace p9 := eq_true p9
                            replace q9 := eq_true q9
                            go_wp2
                            go_roundg kj1
                            case measure => have := HK1.out; have := HJ1.out; omega
                            case rel => exact ⟨(wrap64 (x3_1 + 1)), (by first | rfl | (simp; done) | (simp [*]; done)), H', ⟨by have := HK1.out; have := HJ1.out; omega⟩, by repeat (first | exact Drawn0.refl _ | apply Drawn0.step)⟩
                          · rw [if_neg c61] at H
                            have c61b0 : ((bt a0 x3_1) == 46) = false := beq_eq_false_iff_ne.mpr c61
                            have c61b1 : ((bt a0 x3_1) != 46) = true := bne_iff_ne.mpr c61
                            by_cases c62 : (bt a0 x3_1) = 95
                            · rw [if_pos c62] at H
                              have c62b0 : ((bt a0 x3_1) == 95) = true := beq_iff_eq.mpr c62
                              have c62b1 : ((bt a0 x3_1) != 95) = false := bne_eq_false_iff_eq.mpr c62
                              clear c62
                              have H' := Aside0.mk H
                              clear H
                              have p9 : 0 ≤ (x3_1 : Int) := of_decide_eq_true (by first | (with_reducible assumption) | assumption)
                              have q9 : x3_1 < (a0.size : Int) := of_decide_eq_true (by first | (with_reducible assumption) | assumption)
                              have hx9 := bt_at a0 x3_1
                              replace p9 := eq_true p9
                              replace q9 := eq_true q9
                              go_wp2
                              go_roundg kj1
                              case measure => have := HK1.out; have := HJ1.out; omega
                              case rel => exact ⟨(wrap64 (x3_1 + 1)), (by first | rfl | (simp; done) | (simp [*]; done)), H', ⟨by have := HK1.out; have := HJ1.out; omega⟩, by repeat (first | exact Drawn0.refl _ | apply Drawn0.step)⟩
                            · rw [if_neg c62] at H
                              have c62b0 : ((bt a0 x3_1) == 95) = false := beq_eq_false_iff_ne.mpr c62
                              have c62b1 : ((bt a0 x3_1) != 95) = true := bne_iff_ne.mpr c62
                              by_cases c63 : (bt a0 x3_1) = 126
                              · rw [if_pos c63] at H
                                have c63b0 : ((bt a0 x3_1) == 126) = true := beq_iff_eq.mpr c63
                                have c63b1 : ((bt a0 x3_1) != 126) = false := bne_eq_false_iff_eq.mpr c63
                                clear c63
                                have H' := Aside0.mk H
                                clear H
                                have p9 : 0 ≤ (x3_1 : Int) := of_decide_eq_true (by first | (with_reducible assumption) | assumption)
                                have q9 : x3_1 < (a0.size : Int) := of_decide_eq_true (by first | (with_reducible assumption) | assumption)
                                have hx9 := bt_at a0 x3_1
                                replace p9 := eq_true p9
                                replace q9 := eq_true q9
                                go_wp2
                                go_roundg kj1
                                case measure => have := HK1.out; have := HJ1.out; omega
                                case rel => exact ⟨(wrap64 (x3_1 + 1)), (by first | rfl | (simp; done) | (simp [*]; done)), H', ⟨by have := HK1.out; have := HJ1.out; omega⟩, by repeat (first | exact Drawn0.refl _ | apply Drawn0.step)⟩
                              · rw [if_neg c63] at H
                                have c63b0 : ((bt a0 x3_1) == 126) = false := beq_eq_false_iff_ne.mpr c63
                                have c63b1 : ((bt a0 x3_1) != 126) = true := bne_iff_ne.mpr c63
                                by_cases c64 : (bt a0 x3_1) = 43
                                · rw [if_pos c64] at H
                                  have c64b0 : ((bt a0 x3_1) == 43) = true := beq_iff_eq.mpr c64
                                  have c64b1 : ((bt a0 x3_1) != 43) = false := bne_eq_false_iff_eq.mpr c64
                                  clear c64
                                  have H' := Aside0.mk H
                                  clear H
                                  have p9 : 0 ≤ (x3_1 : Int) := of_decide_eq_true (by first | (with_reducible assumption) | assumption)
                                  have q9 : x3_1 < (a0.size : Int) := of_decide_eq_true (by first | (with_reducible assumption) | assumption)
                                  have hx9 := bt_at a0 x3_1
                                  replace p9 := eq_true p9
                                  replace q9 := eq_true q9
                                  go_wp2
                                  go_roundg kj1
                                  case measure => have := HK1.out; have := HJ1.out; omega
                                  case rel => exact ⟨(wrap64 (x3_1 + 1)), (by first | rfl | (simp; done) | (simp [*]; done)), H', ⟨by have := HK1.out; have := HJ1.out; omega⟩, by repeat (first | exact Drawn0.refl _ | apply Drawn0.step)⟩
                                · rw [if_neg c64] at H
                                  have c64b0 : ((bt a0 x3_1) == 43) = false := beq_eq_false_iff_ne.mpr c64
                                  have c64b1 : ((bt a0 x3_1) != 43) = true := bne_iff_ne.mpr c64
                                  by_cases c65 : ((bt a0 x3_1) = 47)
                                  · rw [if_pos c65] at H
                                    have c65b0 : ((bt a0 x3_1) == 47) = true := beq_iff_eq.mpr c65
                                    have c65b1 : ((bt a0 x3_1) != 47) = false := bne_eq_false_iff_eq.mpr c65
                                    clear c65
                                    have H' := Aside0.mk H
                                    clear H
                                    have p9 : 0 ≤ (x3_1 : Int) := of_decide_eq_true (by first | (with_reducible assumption) | assumption)
                                    have q9 : x3_1 < (a0.size : Int) := of_decide_eq_true (by first | (with_reducible assumption) | assumption)
                                    have hx9 := bt_at a0 x3_1
                                    replace p9 := eq_true p9
                                    replace q9 := eq_true q9
                                    go_wp2
                                    go_roundg kj1
                                    case measure => have := HK1.out; have := HJ1.out; omega
                                    case rel => exact ⟨(wrap64 (x3_1 + 1)), (by first | rfl | (simp; done) | (simp [*]; done)), H', ⟨by have := HK1.out; have := HJ1.out; omega⟩, by repeat (first | exact Drawn0.refl _ | apply Drawn0.step)⟩
                                  · rw [if_neg c65] at H
                                    have c65b0 : ((bt a0 x3_1) == 47) = false := beq_eq_false_iff_ne.mpr c65
                                    have c65b1 : ((bt a0 x3_1) != 47) = true := bne_iff_ne.mpr c65
                                    obtain rfl := Option.some.inj H
                                    have p9 : 0 ≤ (x3_1 : Int) := of_decide_eq_true (by first | (with_reducible assumption) | assumption)
                                    have q9 : x3_1 < (a0.size : Int) := of_decide_eq_true (by first | (with_reducible assumption) | assumption)
                                    have hx9 := bt_at a0 x3_1
                                    replace p9 := eq_true p9
                                    replace q9 := eq_true q9
                                    go_wp2
                                    go_ret
                                    exact ⟨by first | rfl | (simp; done) | (simp [*]; done), by repeat (first | exact Drawn0.refl _ | apply Drawn0.step)⟩
                    · rw [if_neg c58] at H
                      have c58b0 : decide (48 ≤ (bt a0 x3_1)) = false := decide_eq_false c58
                      clear c58
                      by_cases c66 : (bt a0 x3_1) = 45
                      · rw [if_pos c66] at H
                        have c66b0 : ((bt a0 x3_1) == 45) = true := beq_iff_eq.mpr c66
                        have c66b1 : ((bt a0 x3_1) != 45) = false := bne_eq_false_iff_eq.mpr c66
                        clear c66
                        have H' := Aside0.mk H
                        clear H
                        have p9 : 0 ≤ (x3_1 : Int) := of_decide_eq_true (by first | (with_reducible assumption) | assumption)
                        have q9 : x3_1 < (a0.size : Int) := of_decide_eq_true (by first | (with_reducible assumption) | assumption)
                        have hx9 := bt_at a0 x3_1
                        replace p9 := eq_true p9
                        replace q9 := eq_true q9
                        go_wp2
                        go_roundg kj1
                        case measure => have := HK1.out; have := HJ1.out; omega
                        case rel => exact ⟨(wrap64 (x3_1 + 1)), (by first | rfl | (simp; done) | (simp [*]; done)), H', ⟨by have := HK1.out; have := HJ1.out; omega⟩, by repeat (first | exact Drawn0.refl _ | apply Drawn0.step)⟩
                      · rw [if_neg c66] at H
                        have c66b0 : ((bt a0 x3_1) == 45) = false := beq_eq_false_iff_ne.mpr c66
                        have c66b1 : ((bt a0 x3_1) != 45) = true := bne_iff_ne.mpr c66
                        by_cases c67 : (bt a0 x3_1) = 46
                        · rw [if_pos c67] at H
                          have c67b0 : ((bt a0 x3_1) == 46) = true := beq_iff_eq.mpr c67
                          have c67b1 : ((bt a0 x3_1) != 46) = false := bne_eq_false_iff_eq.mpr c67
                          clear c67
                          have H' := Aside0.mk H
                          clear H
                          have p9 : 0 ≤ (x3_1 : Int) := of_decide_eq_true (by first | (with_reducible assumption) | assumption)
                          have q9 : x3_1 < (a0.size : Int) := of_decide_eq_true (by first | (with_reducible assumption) | assumption)
                          have hx9 := bt_at a0 x3_1
                          replace p9 := eq_true p9
                          replace q9 := eq_true q9
                          go_wp2
                          go_roundg kj1
                          case measure => have := HK1.out; have := HJ1.out; omega
                          case rel => exact ⟨(wrap64 (x3_1 + 1)), (by first | rfl | (simp; done) | (simp [*]; done)), H', ⟨by have := HK1.out; have := HJ1.out; omega⟩, by repeat (first | exact Drawn0.refl _ | apply Drawn0.step)⟩
                        · rw [if_neg c67] at H
                          have c67b0 : ((bt a0 x3_1) == 46) = false := beq_eq_false_iff_ne.mpr c67
                          have c67b1 : ((bt a0 x3_1) != 46) = true := bne_iff_ne.mpr c67
                          by_cases c68 : (bt a0 x3_1) = 95
                          · rw [if_pos c68] at H
                            have c68b0 : ((bt a0 x3_1) == 95) = true := beq_iff_eq.mpr c68
                            have c68b1 : ((bt a0 x3_1) != 95) = false := bne_eq_false_iff_eq.mpr c68
                            clear c68
                            have H' := Aside0.mk H
                            clear H
                            have p9 : 0 ≤ (x3_1 : Int) := of_decide_eq_true (by first | (with_reducible assumption) | assumption)
                            have q9 : x3_1 < (a0.size : Int) := of_decide_eq_true (by first | (with_reducible assumption) | assumption)
                            have hx9 := bt_at a0 x3_1
                            replace p9 := eq_true p9
                            replace q9 := eq_true q9
                            go_wp2
                            go_roundg kj1
                            case measure => have := HK1.out; have := HJ1.out; omega
                            case rel => exact ⟨(wrap64 (x3_1 + 1)), (by first | rfl | (simp; done) | (simp [*]; done)), H', ⟨by have := HK1.out; have := HJ1.out; omega⟩, by repeat (first | exact Drawn0.refl _ | apply Drawn0.step)⟩
                          · rw [if_neg c68] at H
                            have c68b0 : ((bt a0 x3_1) == 95) = false := beq_eq_false_iff_ne.mpr c68
                            have c68b1 : ((bt a0 x3_1) != 95) = true := bne_iff_ne.mpr c68
                            by_cases c69 : (bt a0 x3_1) = 126
                            · rw [if_pos c69] at H
                              have c69b0 : ((bt a0 x3_1) == 126) = true := beq_iff_eq.mpr c69
                              have c69b1 : ((bt a0 x3_1) != 126) = false := bne_eq_false_iff_eq.mpr c69
                              clear c69
                              have H' := Aside0.mk H
                              clear H
                              have p9 : 0 ≤ (x3_1 : Int) := of_decide_eq_true (by first | (with_reducible assumption) | assumption)
                              have q9 : x3_1 < (a0.size : Int) := of_decide_eq_true (by first | (with_reducible assumption) | assumption)
                              have hx9 := bt_at a0 x3_1
                              replace p9 := eq_true p9
                              replace q9 := eq_true q9
                              go_wp2
                              go_roundg kj1
                              case measure => have := HK1.out; have := HJ1.out; omega
                              case rel => exact ⟨(wrap64 (x3_1 + 1)), (by first | rfl | (simp; done) | (simp [*]; done)), H', ⟨by have := HK1.out; have := HJ1.out; omega⟩, by repeat (first | exact Drawn0.refl _ | apply Drawn0.step)⟩
                            · rw [if_neg c69] at H
                              have c69b0 : ((bt a0 x3_1) == 126) = false := beq_eq_false_iff_ne.mpr c69
                              have c69b1 : ((bt a0 x3_1) != 126) = true := bne_iff_ne.mpr c69
                              by_cases c70 : (bt a0 x3_1) = 43
                              · rw [if_pos c70] at H
                                have c70b0 : ((bt a0 x3_1) == 43) = true := beq_iff_eq.mpr c70
                                have c70b1 : ((bt a0 x3_1) != 43) = false := bne_eq_false_iff_eq.mpr c70
                                clear c70
                                have H' := Aside0.mk H
                                clear H
                                have p9 : 0 ≤ (x3_1 : Int) := of_decide_eq_true (by first | (with_reducible assumption) | assumption)
                                have q9 : x3_1 < (a0.size : Int) := of_decide_eq_true (by first | (with_reducible assumption) | assumption)
                                have hx9 := bt_at a0 x3_1
                                replace p9 := eq_true p9
                                replace q9 := eq_true q9
                                go_wp2
                                go_roundg kj1
                                case measure => have := HK1.out; have := HJ1.out; omega
                                case rel => exact ⟨(wrap64 (x3_1 + 1)), (by first | rfl | (simp; done) | (simp [*]; done)), H', ⟨by have := HK1.out; have := HJ1.out; omega⟩, by repeat (first | exact Drawn0.refl _ | apply Drawn0.step)⟩
                              · rw [if_neg c70] at H
                                have c70b0 : ((bt a0 x3_1) == 43) = false := beq_eq_false_iff_ne.mpr c70
                                have c70b1 : ((bt a0 x3_1) != 43) = true := bne_iff_ne.mpr c70
                                by_cases c71 : ((bt a0 x3_1) = 47)
                                · rw [if_pos c71] at H
                                  have c71b0 : ((bt a0 x3_1) == 47) = true := beq_iff_eq.mpr c71
                                  have c71b1 : ((bt a0 x3_1) != 47) = false := bne_eq_false_iff_eq.mpr c71
                                  clear c71
                                  have H' := Aside0.mk H
                                  clear H
                                  have p9 : 0 ≤ (x3_1 : Int) := of_decide_eq_true (by first | (with_reducible assumption) | assumption)
                                  have q9 : x3_1 < (a0.size : Int) := of_decide_eq_true (by first | (with_reducible assumption) | assumption)
                                  have hx9 := bt_at a0 x3_1
                                  replace p9 := eq_true p9
                                  replace q9 := eq_true q9
                                  go_wp2
                                  go_roundg kj1
                                  case measure => have := HK1.out; have := HJ1.out; omega
                                  case rel => exact ⟨(wrap64 (x3_1 + 1)), (by first | rfl | (simp; done) | (simp [*]; done)), H', ⟨by have := HK1.out; have := HJ1.out; omega⟩, by repeat (first | exact Drawn0.refl _ | apply Drawn0.step)⟩
                                · rw [if_neg c71] at H
                                  have c71b0 : ((bt a0 x3_1) == 47) = false := beq_eq_false_iff_ne.mpr c71
                                  have c71b1 : ((bt a0 x3_1) != 47) = true := bne_iff_ne.mpr c71
                                  obtain rfl := Option.some.inj H
                                  have p9 : 0 ≤ (x3_1 : Int) := of_decide_eq_true (by first | (with_reducible assumption) | assumption)
                                  have q9 : x3_1 < (a0.size : Int) := of_decide_eq_true (by first | (with_reducible assumption) | assumption)
                                  have hx9 := bt_at a0 x3_1
                                  replace p9 := eq_true p9
                                  replace q9 := eq_true q9
                                  go_wp2
                                  go_ret
                                  exact ⟨by first | rfl | (simp; done) | (simp [*]; done), by repeat (first | exact Drawn0.refl _ | apply Drawn0.step)⟩
              · rw [if_neg c8] at H
                exact absurd H (by simp)
            · rw [if_neg c7] at H
              exact absurd H (by simp)
          · replace c6 := Bool.eq_false_iff.mpr c6
            subst c6
            have H1 : (tollhouseref15_May.l1 kj1 a0 x3_1 x3_1) = some r := by rw [if_neg (show ¬ (false = true) by decide)] at H; exact H
            clear H
            have H := H1
            clear H1
            have H' := Aside0.mk H
            clear H
            go_wp2
            go_loopg [6] kj1 (fun kq v6 w' => ∃ (x6_3 : Int), v6 = .int .i64 x6_3 ∧ Aside0 (tollhouseref15_May.l1 kq a0 x3_1 x6_3 = some r) ∧ Aside0 (kq ≤ kj1) ∧ Drawn0 w w')
            case atStart => exact ⟨(x3_1), (by first | rfl | (simp; done) | (simp [*]; done)), H', ⟨Nat.le_refl _⟩, by repeat (first | exact Drawn0.refl _ | apply Drawn0.step)⟩
            case round =>
              clear H'
              try clear c1
              try clear p2
              try clear c4
              try clear c5
              try clear c6
              try clear p6
              try clear c7
              try clear c8
              try clear p9
              try clear q9
              try clear hx9
              try clear c10
              try clear c10b0
              try clear c41
              try clear c41b0
              try clear c41b1
              try clear c42
              try clear c42b0
              try clear c43
              try clear c43b0
              try clear c44
              try clear c44b0
              try clear c45
              try clear c45b0
              try clear c46
              try clear c46b0
              try clear c46b1
              try clear c47
              try clear c47b0
              try clear c47b1
              try clear c48
              try clear c48b0
              try clear c48b1
              try clear c49
              try clear c49b0
              try clear c49b1
              try clear c50
              try clear c50b0
              try clear c50b1
              try clear c51
              try clear c51b0
              try clear c51b1
              try clear c52
              try clear c52b0
              try clear c52b1
              try clear c53
              try clear c53b0
              try clear c53b1
              try clear c54
              try clear c54b0
              try clear c54b1
              try clear c55
              try clear c55b0
              try clear c55b1
              try clear c56
              try clear c56b0
              try clear c56b1
              try clear c57
              try clear c57b0
              try clear c57b1
              try clear c58
              try clear c58b0
              try clear c59
              try clear c59b0
              try clear c60
              try clear c60b0
              try clear c60b1
              try clear c61
              try clear c61b0
              try clear c61b1
              try clear c62
              try clear c62b0
              try clear c62b1
              try clear c63
              try clear c63b0
              try clear c63b1
              try clear c64
              try clear c64b0
              try clear c64b1
              try clear p64
              try clear c65
              try clear c65b0
              try clear c65b1
              try clear c66
              try clear c66b0
              try clear c66b1
              try clear c67
              try clear c67b0
              try clear c67b1
              try clear c68
              try clear c68b0
              try clear c68b1
              try clear c69
              try clear c69b0
              try clear c69b1
              try clear c70
              try clear c70b0
              try clear c70b1
              try clear c71
              try clear c71b0
              try clear c71b1
              try clear p9
              try clear q9
              obtain ⟨x6_3, rfl, HA, HK3, ⟨m3, rfl⟩⟩ := hrel
              cases gk with
              | zero => exact absurd HA.out (by simp [tollhouseref15_May.l1])
              | succ k3 =>
                have H := HA.out
                clear HA
                simp only [tollhouseref15_May.l1] at H
                by_cases c72 : x6_3 < (a0.size : Int)
                · rw [if_pos c72] at H
                  have c72b0 : decide (x6_3 < (a0.size : Int)) = true := decide_eq_true c72
                  clear c72
                  by_cases c73 : 0 ≤ x6_3
                  · rw [if_pos c73] at H
                    have c73b0 : decide (0 ≤ x6_3) = true := decide_eq_true c73
                    clear c73
                    by_cases c75 : (bt a0 x6_3) = 61
                    · rw [if_pos c75] at H
                      have c75b0 : ((bt a0 x6_3) == 61) = true := beq_iff_eq.mpr c75
                      have c75b1 : ((bt a0 x6_3) != 61) = false := bne_eq_false_iff_eq.mpr c75
                      clear c75
                      have H' := Aside0.mk H
                      clear H
                      have p74 : 0 ≤ (x6_3 : Int) := of_decide_eq_true (by first | (with_reducible assumption) | assumption)
                      have q74 : x6_3 < (a0.size : Int) := of_decide_eq_true (by first | (with_reducible assumption) | assumption)
                      have hx74 := bt_at a0 x6_3
                      replace p74 := eq_true p74
                      replace q74 := eq_true q74
                      go_wp2
                      go_roundg k3
                      case measure => have := HK1.out; have := HJ1.out; have := HK3.out; omega
                      case rel => exact ⟨(wrap64 (x6_3 + 1)), (by first | rfl | (simp; done) | (simp [*]; done)), H', ⟨by have := HK1.out; have := HJ1.out; have := HK3.out; omega⟩, by repeat (first | exact Drawn0.refl _ | apply Drawn0.step)⟩
                    · rw [if_neg c75] at H
                      have c75b0 : ((bt a0 x6_3) == 61) = false := beq_eq_false_iff_ne.mpr c75
                      have c75b1 : ((bt a0 x6_3) != 61) = true := bne_iff_ne.mpr c75
                      obtain rfl := Option.some.inj H
                      have p74 : 0 ≤ (x6_3 : Int) := of_decide_eq_true (by first | (with_reducible assumption) | assumption)
                      have q74 : x6_3 < (a0.size : Int) := of_decide_eq_true (by first | (with_reducible assumption) | assumption)
                      have hx74 := bt_at a0 x6_3
                      replace p74 := eq_true p74
                      replace q74 := eq_true q74
                      go_wp2
                      go_ret
                      exact ⟨by first | rfl | (simp; done) | (simp [*]; done), by repeat (first | exact Drawn0.refl _ | apply Drawn0.step)⟩
                  · rw [if_neg c73] at H
                    exact absurd H (by simp)
                · rw [if_neg c72] at H
                  have c72b0 : decide (x6_3 < (a0.size : Int)) = false := decide_eq_false c72
                  clear c72
                  by_cases c76 : x3_1 > 0
                  · rw [if_pos c76] at H
                    have c76b0 : decide (0 < x3_1) = true := decide_eq_true c76
                    clear c76
                    obtain rfl := Option.some.inj H
                    go_wp2
                    go_ret
                    exact ⟨by first | rfl | (simp; done) | (simp [*]; done), by repeat (first | exact Drawn0.refl _ | apply Drawn0.step)⟩
                  · rw [if_neg c76] at H
                    have c76b0 : decide (0 < x3_1) = false := decide_eq_false c76
                    clear c76
                    obtain rfl := Option.some.inj H
                    go_wp2
                    go_ret
                    exact ⟨by first | rfl | (simp; done) | (simp [*]; done), by repeat (first | exact Drawn0.refl _ | apply Drawn0.step)⟩

end Go.Proofs.YthmnhbalmglohaaGreatDoor.X

-- PRINTED by print.py (a twelfth state) out of the translation. Not trusted: Lean checks it.
namespace Go.Proofs.YthmnhbalmglohaaGreatDoor.X
open Go.RowKit Go.Proofs.YthmnhbalmglohaaGreatDoorW.PrintWords Go.Proofs.YthmnhbalmglohaaGreatDoorW.PrintLast Go.Proofs.YthmnhbalmglohaaGreatDoorW.PrintMore
attribute [local go_sem] max2_int min2_int max_two min_two max_three min_three max_four min_four   -- for this text's walks alone
set_option linter.unusedVariables false
set_option linter.unusedSimpArgs false
open Go.Proofs.YthmnhbalmglohaaGreatDoor.T

/-! ### tollhouseref02_Lower: function 33 -/
def tollhouseref02_Lower.l0 : Nat → ByteArray → List Int → Int → Option (ByteArray)
  | 0, _, _, _ => none
  | k + 1, x0, x3, x4 => if x4 < (x0.size : Int) then (if 0 ≤ x4 then (if (bt x0 x4) ≥ 65 then (if (bt x0 x4) ≤ 90 then (if x3.length < 140737488355328 then (tollhouseref02_Lower.l0 k x0 (x3 ++ [((bt x0 x4) + 32) % 256]) (wrap64 (x4 + 1))) else (none)) else (if x3.length < 140737488355328 then (tollhouseref02_Lower.l0 k x0 (x3 ++ [bt x0 x4]) (wrap64 (x4 + 1))) else (none))) else (if x3.length < 140737488355328 then (tollhouseref02_Lower.l0 k x0 (x3 ++ [bt x0 x4]) (wrap64 (x4 + 1))) else (none))) else (none)) else (some (strOfNums x3))
def tollhouseref02_Lower.f (k : Nat) (a0 : ByteArray) : Option (ByteArray) := tollhouseref02_Lower.l0 k a0 ([] : List Int) 0
theorem tollhouseref02_Lower.mono_l : ∀ k, (∀ y0 y1 y2, LeO (tollhouseref02_Lower.l0 k y0 y1 y2) (tollhouseref02_Lower.l0 (k + 1) y0 y1 y2))
  | 0 => fun _ _ _ r h => by simp [tollhouseref02_Lower.l0] at h
  | k + 1 => by
    have ih0 := tollhouseref02_Lower.mono_l k
    · intro y0 y1 y2
      unfold tollhouseref02_Lower.l0
      repeat' first
      | (with_reducible exact ih0 _ _ _)
      | (with_reducible exact LeO.refl _)
      | (with_reducible exact LeO.none _)
      | (with_reducible refine LeO.ite ?_ ?_)
      | (with_reducible refine LeO.bind ?_ (fun _ => ?_))
      | exact ih0 _ _ _
      | exact LeO.none _
      | refine LeO.ite ?_ ?_
      | refine LeO.bind ?_ (fun _ => ?_)
theorem tollhouseref02_Lower.mono : ∀ a0 k, LeO (tollhouseref02_Lower.f k a0) (tollhouseref02_Lower.f (k + 1) a0) := by
  intro a0 k
  have ih0 := tollhouseref02_Lower.mono_l k
  unfold tollhouseref02_Lower.f
  repeat' first
      | (with_reducible exact ih0 _ _ _)
      | (with_reducible exact LeO.refl _)
      | (with_reducible exact LeO.none _)
      | (with_reducible refine LeO.ite ?_ ?_)
      | (with_reducible refine LeO.bind ?_ (fun _ => ?_))
      | exact ih0 _ _ _
      | exact LeO.none _
      | refine LeO.ite ?_ ?_
      | refine LeO.bind ?_ (fun _ => ?_)
set_option maxHeartbeats 8000000 in
set_option maxRecDepth 100000 in
theorem tollhouseref02_Lower.calls (k : Nat) (a0 : ByteArray) (r : ByteArray) (w : World) (HGg : Glob w) (h : tollhouseref02_Lower.f k a0 = some r) :
    Calls Tryz.prog 33 #[.string a0] w fun e w' => e = .returned (.string r) ∧ Below w.heap.size w w' := by
  have HGl := Aside0.mk HGg
  clear HGg
  have HB := Aside0.mk (Below.refl w.heap.size w)
  have H : (tollhouseref02_Lower.l0 k a0 ([] : List Int) 0) = some r := h
  clear h
  have H' := Aside0.mk H
  clear H
  go_enter Tryz.func33, Tryz.ntmps33
  go_wp2
  go_loopg [3, 4] k (fun kq v3 v4 w' => ∃ (x3_1 : List Int) (x4_1 : Int), v4 = .int .i64 x4_1 ∧ Aside0 (tollhouseref02_Lower.l0 kq a0 x3_1 x4_1 = some r) ∧ Aside0 (kq ≤ k) ∧ Aside0 (Kd.R (Kd.int .u8) 5 w' w.heap.size (fun _ => True) v3 x3_1) ∧ Aside0 (Below w.heap.size w w'))
  case atStart => exact ⟨(([] : List Int)), (0), (by first | rfl | (simp; done) | (simp [*]; done)), H', ⟨Nat.le_refl _⟩, ⟨by first | exact Kd.R_nil _ _ _ _ _ | exact Kd.N_nil _ _ _ _ _ | exact Kd.V_nil _ _ _ _ _ | exact Kd.Q_nil _ _ _ _ _ | exact Kd.S_nil _ _ _ _ _⟩, ⟨by repeat (first | (with_reducible first | exact HB.out | apply below_alloc | apply pw_below_drewN | apply below_drew1) | exact HB.out)⟩⟩
  case round =>
    clear H'
    obtain ⟨x3_1, x4_1, rfl, HA, HK1, HO_3, HB⟩ := hrel
    cases gk with
    | zero => exact absurd HA.out (by simp [tollhouseref02_Lower.l0])
    | succ k1 =>
      have H := HA.out
      clear HA
      simp only [tollhouseref02_Lower.l0] at H
      by_cases c2 : x4_1 < (a0.size : Int)
      · rw [if_pos c2] at H
        have c2b0 : decide (x4_1 < (a0.size : Int)) = true := decide_eq_true c2
        clear c2
        by_cases c3 : 0 ≤ x4_1
        · rw [if_pos c3] at H
          have c3b0 : decide (0 ≤ x4_1) = true := decide_eq_true c3
          clear c3
          by_cases c5 : (bt a0 x4_1) ≥ 65
          · rw [if_pos c5] at H
            have c5b0 : decide (65 ≤ (bt a0 x4_1)) = true := decide_eq_true c5
            clear c5
            by_cases c7 : (bt a0 x4_1) ≤ 90
            · rw [if_pos c7] at H
              have c7b0 : decide ((bt a0 x4_1) ≤ 90) = true := decide_eq_true c7
              clear c7
              by_cases c9 : x3_1.length < 140737488355328
              · rw [if_pos c9] at H
                have LMc9 := Aside0.mk c9
                clear c9
                obtain ⟨y228, hy228⟩ : ∃ y_ : List Int, y_ = (x3_1 ++ [((bt a0 x4_1) + 32) % 256]) := ⟨_, rfl⟩
                replace H : (tollhouseref02_Lower.l0 k1 a0 y228 (wrap64 (x4_1 + 1))) = some r := by first | (rw [hy228]; with_reducible exact H) | (have H2_ := (Option.bind_some _ _).symm.trans H; rw [hy228]; with_reducible exact H2_) | (have H2_ := (Option.bind_some _ _).symm.trans H; with_reducible exact H2_) | with_reducible exact H | (rw [hy228]; exact H) | exact H
                have Ny228 := Aside0.mk hy228
                clear hy228
                have H' := Aside0.mk H
                clear H
                have p4 : 0 ≤ (x4_1 : Int) := of_decide_eq_true (by first | (with_reducible assumption) | assumption)
                have q4 : x4_1 < (a0.size : Int) := of_decide_eq_true (by first | (with_reducible assumption) | assumption)
                have hx4 := bt_at a0 x4_1
                replace p4 := eq_true p4
                replace q4 := eq_true q4
                have p6 : 0 ≤ (x4_1 : Int) := of_decide_eq_true (by first | (with_reducible assumption) | assumption)
                have q6 : x4_1 < (a0.size : Int) := of_decide_eq_true (by first | (with_reducible assumption) | assumption)
                have hx6 := bt_at a0 x4_1
                replace p6 := eq_true p6
                replace q6 := eq_true q6
                have p8 : 0 ≤ (x4_1 : Int) := of_decide_eq_true (by first | (with_reducible assumption) | assumption)
                have q8 : x4_1 < (a0.size : Int) := of_decide_eq_true (by first | (with_reducible assumption) | assumption)
                have hx8 := bt_at a0 x4_1
                replace p8 := eq_true p8
                replace q8 := eq_true q8
                go_wp2_with (first | ((with_reducible refine gate_builtin (b := .append) (xs := #[.tmp 21, .tmp 26]) rfl ?_); at_builtin; refine Kd.R_append (Kd.int .u8) (w0 := w) w.heap.size rfl (.tmp 21) (.tmp 26) 42 5 (.int .u8 0) 1 rfl Tryz.underlying42 info5 rfl (by decide) (by omega) u3 x3_1 (((bt a0 x4_1) + 32) % 256) [.int .u8 (((bt a0 x4_1) + 32) % 256)] (fun _ => True) (fun _ => False) rfl rfl ?aP (fun _ hk => hk.elim) ?aF ?aO ?aB ?aS ?aL ?_; (case aP => exact rfl); (case aB => exact (by repeat (first | (with_reducible first | exact HB.out | apply below_alloc | apply pw_below_drewN | apply below_drew1) | exact HB.out))); (case aF => exact (fun _ _ => trivial)); (case aO => exact (by (with_reducible repeat (first | apply Kd.R_alloc | apply Kd.R_drewN | apply Kd.R_drew)); exact HO_3.out)); (case aS => exact (below_size (by repeat (first | (with_reducible first | exact HB.out | apply below_alloc | apply pw_below_drewN | apply below_drew1) | exact HB.out)))); (case aL => have := LMc9.out; omega); intro v229 w10 ho hb hg hat; rw [← Ny228.out] at ho; have n0_ := Aside0.mk (hb); have n1_ := Aside0.mk (ho); clear HB; clear HO_3; have HB := n0_; have HO230 := n1_; clear n0_ n1_; clear ho hb hg hat))
                go_roundg k1
                case measure => have := HK1.out; omega
                case rel => exact ⟨(y228), (wrap64 (x4_1 + 1)), (by first | rfl | (simp; done) | (simp [*]; done)), H', ⟨by have := HK1.out; omega⟩, ⟨by (with_reducible repeat (first | apply Kd.R_alloc | apply Kd.R_drewN | apply Kd.R_drew)); exact HO230.out⟩, ⟨by repeat (first | (with_reducible first | exact HB.out | apply below_alloc | apply pw_below_drewN | apply below_drew1) | exact HB.out)⟩⟩
              · rw [if_neg c9] at H
                exact absurd H (by simp)
            · rw [if_neg c7] at H
              have c7b0 : decide ((bt a0 x4_1) ≤ 90) = false := decide_eq_false c7
              clear c7
              by_cases c12 : x3_1.length < 140737488355328
              · rw [if_pos c12] at H
                have LMc12 := Aside0.mk c12
                clear c12
                obtain ⟨y231, hy231⟩ : ∃ y_ : List Int, y_ = (x3_1 ++ [bt a0 x4_1]) := ⟨_, rfl⟩
                replace H : (tollhouseref02_Lower.l0 k1 a0 y231 (wrap64 (x4_1 + 1))) = some r := by first | (rw [hy231]; with_reducible exact H) | (have H2_ := (Option.bind_some _ _).symm.trans H; rw [hy231]; with_reducible exact H2_) | (have H2_ := (Option.bind_some _ _).symm.trans H; with_reducible exact H2_) | with_reducible exact H | (rw [hy231]; exact H) | exact H
                have Ny231 := Aside0.mk hy231
                clear hy231
                have H' := Aside0.mk H
                clear H
                have p4 : 0 ≤ (x4_1 : Int) := of_decide_eq_true (by first | (with_reducible assumption) | assumption)
                have q4 : x4_1 < (a0.size : Int) := of_decide_eq_true (by first | (with_reducible assumption) | assumption)
                have hx4 := bt_at a0 x4_1
                replace p4 := eq_true p4
                replace q4 := eq_true q4
                have p6 : 0 ≤ (x4_1 : Int) := of_decide_eq_true (by first | (with_reducible assumption) | assumption)
                have q6 : x4_1 < (a0.size : Int) := of_decide_eq_true (by first | (with_reducible assumption) | assumption)
                have hx6 := bt_at a0 x4_1
                replace p6 := eq_true p6
                replace q6 := eq_true q6
                have p11 : 0 ≤ (x4_1 : Int) := of_decide_eq_true (by first | (with_reducible assumption) | assumption)
                have q11 : x4_1 < (a0.size : Int) := of_decide_eq_true (by first | (with_reducible assumption) | assumption)
                have hx11 := bt_at a0 x4_1
                replace p11 := eq_true p11
                replace q11 := eq_true q11
                go_wp2_with (first | ((with_reducible refine gate_builtin (b := .append) (xs := #[.tmp 28, .tmp 32]) rfl ?_); at_builtin; refine Kd.R_append (Kd.int .u8) (w0 := w) w.heap.size rfl (.tmp 28) (.tmp 32) 42 5 (.int .u8 0) 1 rfl Tryz.underlying42 info5 rfl (by decide) (by omega) u3 x3_1 (bt a0 x4_1) [.int .u8 (bt a0 x4_1)] (fun _ => True) (fun _ => False) rfl rfl ?aP (fun _ hk => hk.elim) ?aF ?aO ?aB ?aS ?aL ?_; (case aP => exact rfl); (case aB => exact (by repeat (first | (with_reducible first | exact HB.out | apply below_alloc | apply pw_below_drewN | apply below_drew1) | exact HB.out))); (case aF => exact (fun _ _ => trivial)); (case aO => exact (by (with_reducible repeat (first | apply Kd.R_alloc | apply Kd.R_drewN | apply Kd.R_drew)); exact HO_3.out)); (case aS => exact (below_size (by repeat (first | (with_reducible first | exact HB.out | apply below_alloc | apply pw_below_drewN | apply below_drew1) | exact HB.out)))); (case aL => have := LMc12.out; omega); intro v232 w13 ho hb hg hat; rw [← Ny231.out] at ho; have n0_ := Aside0.mk (hb); have n1_ := Aside0.mk (ho); clear HB; clear HO_3; have HB := n0_; have HO233 := n1_; clear n0_ n1_; clear ho hb hg hat))
                go_roundg k1
                case measure => have := HK1.out; omega
                case rel => exact ⟨(y231), (wrap64 (x4_1 + 1)), (by first | rfl | (simp; done) | (simp [*]; done)), H', ⟨by have := HK1.out; omega⟩, ⟨by (with_reducible repeat (first | apply Kd.R_alloc | apply Kd.R_drewN | apply Kd.R_drew)); exact HO233.out⟩, ⟨by repeat (first | (with_reducible first | exact HB.out | apply below_alloc | apply pw_below_drewN | apply below_drew1) | exact HB.out)⟩⟩
              · rw [if_neg c12] at H
                exact absurd H (by simp)
          · rw [if_neg c5] at H
            have c5b0 : decide (65 ≤ (bt a0 x4_1)) = false := decide_eq_false c5
            clear c5
            by_cases c15 : x3_1.length < 140737488355328
            · rw [if_pos c15] at H
              have LMc15 := Aside0.mk c15
              clear c15
              obtain ⟨y234, hy234⟩ : ∃ y_ : List Int, y_ = (x3_1 ++ [bt a0 x4_1]) := ⟨_, rfl⟩
              replace H : (tollhouseref02_Lower.l0 k1 a0 y234 (wrap64 (x4_1 + 1))) = some r := by first | (rw [hy234]; with_reducible exact H) | (have H2_ := (Option.bind_some _ _).symm.trans H; rw [hy234]; with_reducible exact H2_) | (have H2_ := (Option.bind_some _ _).symm.trans H; with_reducible exact H2_) | with_reducible exact H | (rw [hy234]; exact H) | exact H
              have Ny234 := Aside0.mk hy234
              clear hy234
              have H' := Aside0.mk H
              clear H
              have p4 : 0 ≤ (x4_1 : Int) := of_decide_eq_true (by first | (with_reducible assumption) | assumption)
              have q4 : x4_1 < (a0.size : Int) := of_decide_eq_true (by first | (with_reducible assumption) | assumption)
              have hx4 := bt_at a0 x4_1
              replace p4 := eq_true p4
              replace q4 := eq_true q4
              have p14 : 0 ≤ (x4_1 : Int) := of_decide_eq_true (by first | (with_reducible assumption) | assumption)
              have q14 : x4_1 < (a0.size : Int) := of_decide_eq_true (by first | (with_reducible assumption) | assumption)
              have hx14 := bt_at a0 x4_1
              replace p14 := eq_true p14
              replace q14 := eq_true q14
              go_wp2_with (first | ((with_reducible refine gate_builtin (b := .append) (xs := #[.tmp 28, .tmp 32]) rfl ?_); at_builtin; refine Kd.R_append (Kd.int .u8) (w0 := w) w.heap.size rfl (.tmp 28) (.tmp 32) 42 5 (.int .u8 0) 1 rfl Tryz.underlying42 info5 rfl (by decide) (by omega) u3 x3_1 (bt a0 x4_1) [.int .u8 (bt a0 x4_1)] (fun _ => True) (fun _ => False) rfl rfl ?aP (fun _ hk => hk.elim) ?aF ?aO ?aB ?aS ?aL ?_; (case aP => exact rfl); (case aB => exact (by repeat (first | (with_reducible first | exact HB.out | apply below_alloc | apply pw_below_drewN | apply below_drew1) | exact HB.out))); (case aF => exact (fun _ _ => trivial)); (case aO => exact (by (with_reducible repeat (first | apply Kd.R_alloc | apply Kd.R_drewN | apply Kd.R_drew)); exact HO_3.out)); (case aS => exact (below_size (by repeat (first | (with_reducible first | exact HB.out | apply below_alloc | apply pw_below_drewN | apply below_drew1) | exact HB.out)))); (case aL => have := LMc15.out; omega); intro v235 w16 ho hb hg hat; rw [← Ny234.out] at ho; have n0_ := Aside0.mk (hb); have n1_ := Aside0.mk (ho); clear HB; clear HO_3; have HB := n0_; have HO236 := n1_; clear n0_ n1_; clear ho hb hg hat))
              go_roundg k1
              case measure => have := HK1.out; omega
              case rel => exact ⟨(y234), (wrap64 (x4_1 + 1)), (by first | rfl | (simp; done) | (simp [*]; done)), H', ⟨by have := HK1.out; omega⟩, ⟨by (with_reducible repeat (first | apply Kd.R_alloc | apply Kd.R_drewN | apply Kd.R_drew)); exact HO236.out⟩, ⟨by repeat (first | (with_reducible first | exact HB.out | apply below_alloc | apply pw_below_drewN | apply below_drew1) | exact HB.out)⟩⟩
            · rw [if_neg c15] at H
              exact absurd H (by simp)
        · rw [if_neg c3] at H
          exact absurd H (by simp)
      · rw [if_neg c2] at H
        have c2b0 : decide (x4_1 < (a0.size : Int)) = false := decide_eq_false c2
        clear c2
        obtain rfl := Option.some.inj H
        have hcv17 := own_string (P := Tryz.prog) Tryz.underlying42 Tryz.underlying5 Tryz.underlying9 (Kd.own_of_R HO_3.out)
        go_wp2
        go_ret
        exact ⟨by first | rfl | (simp [errW_none, errW_some] <;> rfl) | (simp [*, errW_none, errW_some] <;> rfl), by repeat (first | (with_reducible first | exact HB.out | apply below_alloc | apply pw_below_drewN | apply below_drew1) | exact HB.out)⟩

end Go.Proofs.YthmnhbalmglohaaGreatDoor.X

-- PRINTED by print.py (a twelfth state) out of the translation. Not trusted: Lean checks it.
namespace Go.Proofs.YthmnhbalmglohaaGreatDoor.X
open Go.RowKit Go.Proofs.YthmnhbalmglohaaGreatDoorW.PrintWords Go.Proofs.YthmnhbalmglohaaGreatDoorW.PrintLast Go.Proofs.YthmnhbalmglohaaGreatDoorW.PrintMore
attribute [local go_sem] max2_int min2_int max_two min_two max_three min_three max_four min_four   -- for this text's walks alone
set_option linter.unusedVariables false
set_option linter.unusedSimpArgs false
open Go.Proofs.YthmnhbalmglohaaGreatDoor.T

/-! ### tollhouseref15_Credential: function 17 -/
mutual
def tollhouseref15_Credential.j0 : Nat → ByteArray → Bool → Option (ByteArray × Bool)
  | 0, _, _ => none
  | k + 1, x0, x18 => if x18 = true then (some ((⟨#[]⟩ : ByteArray), false)) else (tollhouseref15_Credential.l0 k x0 6)
def tollhouseref15_Credential.l0 : Nat → ByteArray → Int → Option (ByteArray × Bool)
  | 0, _, _ => none
  | k + 1, x0, x4 => if x4 < (x0.size : Int) then (if 0 ≤ x4 then (if (bt x0 x4) = 32 then (tollhouseref15_Credential.l0 k x0 (wrap64 (x4 + 1))) else (if x4 ≤ (x0.size : Int) then ((tollhouseref15_May.f k (x0.extract (x4 : Int).toNat x0.size)).bind fun t238 => (if t238 = true then (some (x0.extract (x4 : Int).toNat x0.size, true)) else (some ((⟨#[]⟩ : ByteArray), false)))) else (none))) else (none)) else (if 0 ≤ x4 then (if x4 ≤ (x0.size : Int) then ((tollhouseref15_May.f k (x0.extract (x4 : Int).toNat x0.size)).bind fun t239 => (if t239 = true then (some (x0.extract (x4 : Int).toNat x0.size, true)) else (some ((⟨#[]⟩ : ByteArray), false)))) else (none)) else (none))
end
def tollhouseref15_Credential.f (k : Nat) (a0 : ByteArray) : Option (ByteArray × Bool) := if (a0.size : Int) < 8 then (tollhouseref15_Credential.j0 k a0 true) else (if 0 ≤ 6 then (if 6 ≤ (a0.size : Int) then ((tollhouseref02_Lower.f k (a0.extract 0 6)).bind fun t237 => (if t237.toList = ([98, 101, 97, 114, 101, 114] : List UInt8) then (if 6 < (a0.size : Int) then (tollhouseref15_Credential.j0 k a0 ((bt a0 6) != 32)) else (none)) else (tollhouseref15_Credential.j0 k a0 true))) else (none)) else (none))
theorem tollhouseref15_Credential.mono_l : ∀ k, (∀ y0 y1, LeO (tollhouseref15_Credential.j0 k y0 y1) (tollhouseref15_Credential.j0 (k + 1) y0 y1)) ∧ (∀ y0 y1, LeO (tollhouseref15_Credential.l0 k y0 y1) (tollhouseref15_Credential.l0 (k + 1) y0 y1))
  | 0 => ⟨fun _ _ r h => by simp [tollhouseref15_Credential.j0] at h, fun _ _ r h => by simp [tollhouseref15_Credential.l0] at h⟩
  | k + 1 => by
    obtain ⟨ih0, ih1⟩ := tollhouseref15_Credential.mono_l k
    refine ⟨?_, ?_⟩
    · intro y0 y1
      unfold tollhouseref15_Credential.j0
      repeat' first
      | (with_reducible exact ih0 _ _)
      | (with_reducible exact ih1 _ _)
      | (with_reducible exact tollhouseref02_Lower.mono _ _)
      | (with_reducible exact tollhouseref15_May.mono _ _)
      | (with_reducible exact LeO.refl _)
      | (with_reducible exact LeO.none _)
      | (with_reducible refine LeO.ite ?_ ?_)
      | (with_reducible refine LeO.bind ?_ (fun _ => ?_))
      | exact ih0 _ _
      | exact ih1 _ _
      | exact tollhouseref02_Lower.mono _ _
      | exact tollhouseref15_May.mono _ _
      | exact LeO.none _
      | refine LeO.ite ?_ ?_
      | refine LeO.bind ?_ (fun _ => ?_)
    · intro y0 y1
      unfold tollhouseref15_Credential.l0
      repeat' first
      | (with_reducible exact ih0 _ _)
      | (with_reducible exact ih1 _ _)
      | (with_reducible exact tollhouseref02_Lower.mono _ _)
      | (with_reducible exact tollhouseref15_May.mono _ _)
      | (with_reducible exact LeO.refl _)
      | (with_reducible exact LeO.none _)
      | (with_reducible refine LeO.ite ?_ ?_)
      | (with_reducible refine LeO.bind ?_ (fun _ => ?_))
      | exact ih0 _ _
      | exact ih1 _ _
      | exact tollhouseref02_Lower.mono _ _
      | exact tollhouseref15_May.mono _ _
      | exact LeO.none _
      | refine LeO.ite ?_ ?_
      | refine LeO.bind ?_ (fun _ => ?_)
theorem tollhouseref15_Credential.mono : ∀ a0 k, LeO (tollhouseref15_Credential.f k a0) (tollhouseref15_Credential.f (k + 1) a0) := by
  intro a0 k
  obtain ⟨ih0, ih1⟩ := tollhouseref15_Credential.mono_l k
  unfold tollhouseref15_Credential.f
  repeat' first
      | (with_reducible exact ih0 _ _)
      | (with_reducible exact ih1 _ _)
      | (with_reducible exact tollhouseref02_Lower.mono _ _)
      | (with_reducible exact tollhouseref15_May.mono _ _)
      | (with_reducible exact LeO.refl _)
      | (with_reducible exact LeO.none _)
      | (with_reducible refine LeO.ite ?_ ?_)
      | (with_reducible refine LeO.bind ?_ (fun _ => ?_))
      | exact ih0 _ _
      | exact ih1 _ _
      | exact tollhouseref02_Lower.mono _ _
      | exact tollhouseref15_May.mono _ _
      | exact LeO.none _
      | refine LeO.ite ?_ ?_
      | refine LeO.bind ?_ (fun _ => ?_)
set_option maxHeartbeats 8000000 in
set_option maxRecDepth 100000 in
theorem tollhouseref15_Credential.calls (k : Nat) (a0 : ByteArray) (r1 : ByteArray) (r2 : Bool) (w : World) (HGg : Glob w) (h : tollhouseref15_Credential.f k a0 = some (r1, r2)) :
    Calls Tryz.prog 17 #[.string a0] w fun e w' => e = .returned (.tuple #[.string r1, .bool r2]) ∧ Below w.heap.size w w' := by
  have HGl := Aside0.mk HGg
  clear HGg
  have HB := Aside0.mk (Below.refl w.heap.size w)
  have H : (if (a0.size : Int) < 8 then (tollhouseref15_Credential.j0 k a0 true) else (if 0 ≤ 6 then (if 6 ≤ (a0.size : Int) then ((tollhouseref02_Lower.f k (a0.extract 0 6)).bind fun t237 => (if t237.toList = ([98, 101, 97, 114, 101, 114] : List UInt8) then (if 6 < (a0.size : Int) then (tollhouseref15_Credential.j0 k a0 ((bt a0 6) != 32)) else (none)) else (tollhouseref15_Credential.j0 k a0 true))) else (none)) else (none))) = some (r1, r2) := h
  clear h
  have HC2 := Aside0.mk H
  clear H
  go_enter Tryz.func17, Tryz.ntmps17
  go_upto_region 1 with (fail)
  go_cut [18] (fun v18 wc => ∃ (kq : Nat) (x18_1 : Bool), v18 = .bool x18_1 ∧ Aside0 (tollhouseref15_Credential.j0 kq a0 x18_1 = some (r1, r2)) ∧ Aside0 (kq ≤ k) ∧ Aside0 (Below w.heap.size w wc))
  case first =>
    have H := HC2.out
    clear HC2
    by_cases c3 : (a0.size : Int) < 8
    · rw [if_pos c3] at H
      have c3b0 : decide ((a0.size : Int) < 8) = true := decide_eq_true c3
      have c3b1 : decide (a0.size < 8) = true := decide_eq_true (by omega)
      clear c3
      (first | rw [c3b0] | (simp only [i64_w, i32_w]; rw [c3b0]) | skip)
      have H' := Aside0.mk H
      clear H
      go_wp2
      go_meet
      case rel => exact ⟨_, (true), (by first | rfl | (simp; done) | (simp [*]; done)), H', ⟨by first | omega | exact Nat.le_refl _⟩, ⟨by repeat (first | (with_reducible first | exact HB.out | apply below_alloc | apply pw_below_drewN | apply below_drew1) | exact HB.out)⟩⟩
    · rw [if_neg c3] at H
      have c3b0 : decide ((a0.size : Int) < 8) = false := decide_eq_false c3
      have c3b1 : decide (a0.size < 8) = false := decide_eq_false (by omega)
      clear c3
      (first | rw [c3b0] | (simp only [i64_w, i32_w]; rw [c3b0]) | skip)
      by_cases c4 : 0 ≤ 6
      · rw [if_pos c4] at H
        have c4b0 := eq_true c4
        have c4b1 : decide (0 ≤ 6) = true := decide_eq_true c4
        clear c4
        by_cases c5 : 6 ≤ (a0.size : Int)
        · rw [if_pos c5] at H
          have c5b0 := eq_true c5
          have c5b1 : decide (6 ≤ (a0.size : Int)) = true := decide_eq_true c5
          clear c5
          replace H := Option.bind_eq_some_iff.mp H
          obtain ⟨t237, A60, H⟩ := H
          replace H : (if t237.toList = ([98, 101, 97, 114, 101, 114] : List UInt8) then (if 6 < (a0.size : Int) then (tollhouseref15_Credential.j0 k a0 ((bt a0 6) != 32)) else (none)) else (tollhouseref15_Credential.j0 k a0 true)) = some (r1, r2) := H
          have A6 := Aside0.mk A60
          clear A60
          by_cases c7 : t237.toList = ([98, 101, 97, 114, 101, 114] : List UInt8)
          · rw [if_pos c7] at H
            have c7b0 : (t237.toList == ([98, 101, 97, 114, 101, 114] : List UInt8)) = true := beq_iff_eq.mpr c7
            have c7b1 : (t237.toList != ([98, 101, 97, 114, 101, 114] : List UInt8)) = false := bne_eq_false_iff_eq.mpr c7
            clear c7
            by_cases c8 : 6 < (a0.size : Int)
            · rw [if_pos c8] at H
              have c8b0 : decide (6 < (a0.size : Int)) = true := decide_eq_true c8
              have c8b1 : decide (6 < a0.size) = true := decide_eq_true (by omega)
              clear c8
              have H' := Aside0.mk H
              clear H
              go_wp2_with (first | (go_at_call 33; (with_reducible refine (tollhouseref02_Lower.calls k (a0.extract 0 6) t237 _ (Glob.below HGl.out (by repeat (first | (with_reducible first | exact HB.out | apply below_alloc | apply pw_below_drewN | apply below_drew1) | exact HB.out))) A6.out).mono ?_); rintro e w10 ⟨rfl, hb⟩; have n0_ := Aside0.mk (below_step (by repeat (first | (with_reducible first | exact HB.out | apply below_alloc | apply pw_below_drewN | apply below_drew1) | exact HB.out)) hb); clear HB; have HB := n0_; clear n0_; (try clear hb); (try clear hb2); (try clear hk); (try clear hi); have p9 : 0 ≤ (6 : Int) := (by omega); have q9 : 6 < a0.size := (by have : (6 : Int) < (a0.size : Int) := of_decide_eq_true (by first | (with_reducible assumption) | assumption); omega); have hx9 : ∀ h : 6 < a0.size, ((a0[6]'h).toNat : Int) = bt a0 6 := bt_at a0 6; clear p9; have qi9 : (6 < (a0.size : Int)) = True := eq_true (of_decide_eq_true (by first | (with_reducible assumption) | assumption)); replace q9 := eq_true q9))
              go_meet
              case rel => exact ⟨_, (((bt a0 6) != 32)), (by first | rfl | (simp; done) | (simp [*]; done)), H', ⟨by first | omega | exact Nat.le_refl _⟩, ⟨by repeat (first | (with_reducible first | exact HB.out | apply below_alloc | apply pw_below_drewN | apply below_drew1) | exact HB.out)⟩⟩
            · rw [if_neg c8] at H
              exact absurd H (by simp)
          · rw [if_neg c7] at H
            have c7b0 : (t237.toList == ([98, 101, 97, 114, 101, 114] : List UInt8)) = false := beq_eq_false_iff_ne.mpr c7
            have c7b1 : (t237.toList != ([98, 101, 97, 114, 101, 114] : List UInt8)) = true := bne_iff_ne.mpr c7
            have H' := Aside0.mk H
            clear H
            go_wp2_with (first | (go_at_call 33; (with_reducible refine (tollhouseref02_Lower.calls k (a0.extract 0 6) t237 _ (Glob.below HGl.out (by repeat (first | (with_reducible first | exact HB.out | apply below_alloc | apply pw_below_drewN | apply below_drew1) | exact HB.out))) A6.out).mono ?_); rintro e w11 ⟨rfl, hb⟩; have n0_ := Aside0.mk (below_step (by repeat (first | (with_reducible first | exact HB.out | apply below_alloc | apply pw_below_drewN | apply below_drew1) | exact HB.out)) hb); clear HB; have HB := n0_; clear n0_; (try clear hb); (try clear hb2); (try clear hk); (try clear hi)))
            go_meet
            case rel => exact ⟨_, (true), (by first | rfl | (simp; done) | (simp [*]; done)), H', ⟨by first | omega | exact Nat.le_refl _⟩, ⟨by repeat (first | (with_reducible first | exact HB.out | apply below_alloc | apply pw_below_drewN | apply below_drew1) | exact HB.out)⟩⟩
        · rw [if_neg c5] at H
          exact absurd H (by simp)
      · rw [if_neg c4] at H
        exact absurd H (by simp)
  case rest =>
    clear HC2
    try clear c1
    try clear p2
    try clear c3
    try clear c3b0
    try clear c3b1
    try clear c4
    try clear c4b0
    try clear c4b1
    try clear c5
    try clear c5b0
    try clear c5b1
    try clear c7
    try clear c7b0
    try clear c7b1
    try clear c8
    try clear c8b0
    try clear c8b1
    try clear p9
    try clear q9
    try clear hx9
    try clear qi9
    try clear p9
    try clear q9
    obtain ⟨kq, x18_1, rfl, HA, HJ1, HB⟩ := hcut
    cases kq with
    | zero => exact absurd HA.out (by simp [tollhouseref15_Credential.j0])
    | succ kj1 =>
      have H := HA.out
      clear HA
      simp only [tollhouseref15_Credential.j0] at H
      by_cases c12 : x18_1 = true
      · subst c12
        have H1 : (some ((⟨#[]⟩ : ByteArray), false)) = some (r1, r2) := by rw [if_pos rfl] at H; exact H
        clear H
        have H := H1
        clear H1
        simp only [Option.some.injEq, Prod.mk.injEq] at H
        obtain ⟨rfl, rfl⟩ := H
        go_wp2
        go_ret2
        exact ⟨by first | rfl | (simp [errW_none, errW_some] <;> rfl) | (simp [*, errW_none, errW_some] <;> rfl), by repeat (first | (with_reducible first | exact HB.out | apply below_alloc | apply pw_below_drewN | apply below_drew1) | exact HB.out)⟩
      · replace c12 := Bool.eq_false_iff.mpr c12
        subst c12
        have H1 : (tollhouseref15_Credential.l0 kj1 a0 6) = some (r1, r2) := by rw [if_neg (show ¬ (false = true) by decide)] at H; exact H
        clear H
        have H := H1
        clear H1
        have H' := Aside0.mk H
        clear H
        go_wp2
        go_loopg [4] kj1 (fun kq v4 w' => ∃ (x4_2 : Int), v4 = .int .i64 x4_2 ∧ Aside0 (tollhouseref15_Credential.l0 kq a0 x4_2 = some (r1, r2)) ∧ Aside0 (kq ≤ kj1) ∧ Aside0 (Below w.heap.size w w'))
        case atStart => exact ⟨(6), (by first | rfl | (simp; done) | (simp [*]; done)), H', ⟨Nat.le_refl _⟩, ⟨by repeat (first | (with_reducible first | exact HB.out | apply below_alloc | apply pw_below_drewN | apply below_drew1) | exact HB.out)⟩⟩
        case round =>
          clear H'
          try clear c1
          try clear p2
          try clear c3
          try clear c3b0
          try clear c3b1
          try clear c4
          try clear c4b0
          try clear c4b1
          try clear c5
          try clear c5b0
          try clear c5b1
          try clear c7
          try clear c7b0
          try clear c7b1
          try clear c8
          try clear c8b0
          try clear c8b1
          try clear p9
          try clear q9
          try clear hx9
          try clear qi9
          try clear c12
          try clear p2
          try clear p9
          try clear q9
          obtain ⟨x4_2, rfl, HA, HK2, HB⟩ := hrel
          cases gk with
          | zero => exact absurd HA.out (by simp [tollhouseref15_Credential.l0])
          | succ k2 =>
            have H := HA.out
            clear HA
            simp only [tollhouseref15_Credential.l0] at H
            by_cases c13 : x4_2 < (a0.size : Int)
            · rw [if_pos c13] at H
              have c13b0 : decide (x4_2 < (a0.size : Int)) = true := decide_eq_true c13
              clear c13
              by_cases c14 : 0 ≤ x4_2
              · rw [if_pos c14] at H
                have c14b0 : decide (0 ≤ x4_2) = true := decide_eq_true c14
                clear c14
                by_cases c16 : (bt a0 x4_2) = 32
                · rw [if_pos c16] at H
                  have c16b0 : ((bt a0 x4_2) == 32) = true := beq_iff_eq.mpr c16
                  have c16b1 : ((bt a0 x4_2) != 32) = false := bne_eq_false_iff_eq.mpr c16
                  clear c16
                  have H' := Aside0.mk H
                  clear H
                  have p15 : 0 ≤ (x4_2 : Int) := of_decide_eq_true (by first | (with_reducible assumption) | assumption)
                  have q15 : x4_2 < (a0.size : Int) := of_decide_eq_true (by first | (with_reducible assumption) | assumption)
                  have hx15 := bt_at a0 x4_2
                  replace p15 := eq_true p15
                  replace q15 := eq_true q15
                  go_wp2
                  go_roundg k2
                  case measure => have := HJ1.out; have := HK2.out; omega
                  case rel => exact ⟨(wrap64 (x4_2 + 1)), (by first | rfl | (simp; done) | (simp [*]; done)), H', ⟨by have := HJ1.out; have := HK2.out; omega⟩, ⟨by repeat (first | (with_reducible first | exact HB.out | apply below_alloc | apply pw_below_drewN | apply below_drew1) | exact HB.out)⟩⟩
                · rw [if_neg c16] at H
                  have c16b0 : ((bt a0 x4_2) == 32) = false := beq_eq_false_iff_ne.mpr c16
                  have c16b1 : ((bt a0 x4_2) != 32) = true := bne_iff_ne.mpr c16
                  have c17b0 := eq_true (of_decide_eq_true (by first | (with_reducible assumption) | assumption) : 0 ≤ x4_2)
                  by_cases c18 : x4_2 ≤ (a0.size : Int)
                  · rw [if_pos c18] at H
                    have c18b0 := eq_true c18
                    have c18b1 : decide (x4_2 ≤ (a0.size : Int)) = true := decide_eq_true c18
                    clear c18
                    replace H := Option.bind_eq_some_iff.mp H
                    obtain ⟨t238, A190, H⟩ := H
                    replace H : (if t238 = true then (some (a0.extract (x4_2 : Int).toNat a0.size, true)) else (some ((⟨#[]⟩ : ByteArray), false))) = some (r1, r2) := H
                    have A19 := Aside0.mk A190
                    clear A190
                    by_cases c20 : t238 = true
                    · subst c20
                      have H1 : (some (a0.extract (x4_2 : Int).toNat a0.size, true)) = some (r1, r2) := by rw [if_pos rfl] at H; exact H
                      clear H
                      have H := H1
                      clear H1
                      have c21b0 := eq_true (of_decide_eq_true (by first | (with_reducible assumption) | assumption) : 0 ≤ x4_2)
                      have c22b0 := eq_true (of_decide_eq_true (by first | (with_reducible assumption) | assumption) : x4_2 ≤ (a0.size : Int))
                      simp only [Option.some.injEq, Prod.mk.injEq] at H
                      obtain ⟨rfl, rfl⟩ := H
                      have p15 : 0 ≤ (x4_2 : Int) := of_decide_eq_true (by first | (with_reducible assumption) | assumption)
                      have q15 : x4_2 < (a0.size : Int) := of_decide_eq_true (by first | (with_reducible assumption) | assumption)
                      have hx15 := bt_at a0 x4_2
                      replace p15 := eq_true p15
                      replace q15 := eq_true q15
                      go_wp2_with (first | ((with_reducible refine gate_callee (f := 14) rfl ?_); refine goesL_ (some 34) rfl rfl Tryz.func14 (by kernel_rfl) rfl #[.string (a0.extract (x4_2 : Int).toNat a0.size)] rfl (by (try simp only [List.map_toArray, List.map_cons, List.map_nil]); first | done | rfl | (simp only [List.length_drop, List.length_take]; rfl)) ?_; (with_reducible refine (tollhouseref15_May.calls k2 (a0.extract (x4_2 : Int).toNat a0.size) true _ (Glob.below HGl.out (by repeat (first | (with_reducible first | exact HB.out | apply below_alloc | apply pw_below_drewN | apply below_drew1) | exact HB.out))) A19.out).mono ?_); rintro e w' ⟨rfl, ⟨nd, rfl⟩⟩; refine ⟨_, rfl, ?_⟩))
                      go_ret2
                      exact ⟨by first | rfl | (simp [errW_none, errW_some] <;> rfl) | (simp [*, errW_none, errW_some] <;> rfl), by repeat (first | (with_reducible first | exact HB.out | apply below_alloc | apply pw_below_drewN | apply below_drew1) | exact HB.out)⟩
                    · replace c20 := Bool.eq_false_iff.mpr c20
                      subst c20
                      have H1 : (some ((⟨#[]⟩ : ByteArray), false)) = some (r1, r2) := by rw [if_neg (show ¬ (false = true) by decide)] at H; exact H
                      clear H
                      have H := H1
                      clear H1
                      simp only [Option.some.injEq, Prod.mk.injEq] at H
                      obtain ⟨rfl, rfl⟩ := H
                      have p15 : 0 ≤ (x4_2 : Int) := of_decide_eq_true (by first | (with_reducible assumption) | assumption)
                      have q15 : x4_2 < (a0.size : Int) := of_decide_eq_true (by first | (with_reducible assumption) | assumption)
                      have hx15 := bt_at a0 x4_2
                      replace p15 := eq_true p15
                      replace q15 := eq_true q15
                      go_wp2_with (first | ((with_reducible refine gate_callee (f := 14) rfl ?_); refine goesL_ (some 34) rfl rfl Tryz.func14 (by kernel_rfl) rfl #[.string (a0.extract (x4_2 : Int).toNat a0.size)] rfl (by (try simp only [List.map_toArray, List.map_cons, List.map_nil]); first | done | rfl | (simp only [List.length_drop, List.length_take]; rfl)) ?_; (with_reducible refine (tollhouseref15_May.calls k2 (a0.extract (x4_2 : Int).toNat a0.size) false _ (Glob.below HGl.out (by repeat (first | (with_reducible first | exact HB.out | apply below_alloc | apply pw_below_drewN | apply below_drew1) | exact HB.out))) A19.out).mono ?_); rintro e w' ⟨rfl, ⟨nd, rfl⟩⟩; refine ⟨_, rfl, ?_⟩))
                      go_ret2
                      exact ⟨by first | rfl | (simp [errW_none, errW_some] <;> rfl) | (simp [*, errW_none, errW_some] <;> rfl), by repeat (first | (with_reducible first | exact HB.out | apply below_alloc | apply pw_below_drewN | apply below_drew1) | exact HB.out)⟩
                  · rw [if_neg c18] at H
                    exact absurd H (by simp)
              · rw [if_neg c14] at H
                exact absurd H (by simp)
            · rw [if_neg c13] at H
              have c13b0 : decide (x4_2 < (a0.size : Int)) = false := decide_eq_false c13
              clear c13
              by_cases c23 : 0 ≤ x4_2
              · rw [if_pos c23] at H
                have c23b0 := eq_true c23
                have c23b1 : decide (0 ≤ x4_2) = true := decide_eq_true c23
                clear c23
                by_cases c24 : x4_2 ≤ (a0.size : Int)
                · rw [if_pos c24] at H
                  have c24b0 := eq_true c24
                  have c24b1 : decide (x4_2 ≤ (a0.size : Int)) = true := decide_eq_true c24
                  clear c24
                  replace H := Option.bind_eq_some_iff.mp H
                  obtain ⟨t239, A250, H⟩ := H
                  replace H : (if t239 = true then (some (a0.extract (x4_2 : Int).toNat a0.size, true)) else (some ((⟨#[]⟩ : ByteArray), false))) = some (r1, r2) := H
                  have A25 := Aside0.mk A250
                  clear A250
                  by_cases c26 : t239 = true
                  · subst c26
                    have H1 : (some (a0.extract (x4_2 : Int).toNat a0.size, true)) = some (r1, r2) := by rw [if_pos rfl] at H; exact H
                    clear H
                    have H := H1
                    clear H1
                    have c27b0 := eq_true (of_decide_eq_true (by first | (with_reducible assumption) | assumption) : 0 ≤ x4_2)
                    have c28b0 := eq_true (of_decide_eq_true (by first | (with_reducible assumption) | assumption) : x4_2 ≤ (a0.size : Int))
                    simp only [Option.some.injEq, Prod.mk.injEq] at H
                    obtain ⟨rfl, rfl⟩ := H
                    go_wp2_with (first | ((with_reducible refine gate_callee (f := 14) rfl ?_); refine goesL_ (some 34) rfl rfl Tryz.func14 (by kernel_rfl) rfl #[.string (a0.extract (x4_2 : Int).toNat a0.size)] rfl (by (try simp only [List.map_toArray, List.map_cons, List.map_nil]); first | done | rfl | (simp only [List.length_drop, List.length_take]; rfl)) ?_; (with_reducible refine (tollhouseref15_May.calls k2 (a0.extract (x4_2 : Int).toNat a0.size) true _ (Glob.below HGl.out (by repeat (first | (with_reducible first | exact HB.out | apply below_alloc | apply pw_below_drewN | apply below_drew1) | exact HB.out))) A25.out).mono ?_); rintro e w' ⟨rfl, ⟨nd, rfl⟩⟩; refine ⟨_, rfl, ?_⟩))
                    go_ret2
                    exact ⟨by first | rfl | (simp [errW_none, errW_some] <;> rfl) | (simp [*, errW_none, errW_some] <;> rfl), by repeat (first | (with_reducible first | exact HB.out | apply below_alloc | apply pw_below_drewN | apply below_drew1) | exact HB.out)⟩
                  · replace c26 := Bool.eq_false_iff.mpr c26
                    subst c26
                    have H1 : (some ((⟨#[]⟩ : ByteArray), false)) = some (r1, r2) := by rw [if_neg (show ¬ (false = true) by decide)] at H; exact H
                    clear H
                    have H := H1
                    clear H1
                    simp only [Option.some.injEq, Prod.mk.injEq] at H
                    obtain ⟨rfl, rfl⟩ := H
                    go_wp2_with (first | ((with_reducible refine gate_callee (f := 14) rfl ?_); refine goesL_ (some 34) rfl rfl Tryz.func14 (by kernel_rfl) rfl #[.string (a0.extract (x4_2 : Int).toNat a0.size)] rfl (by (try simp only [List.map_toArray, List.map_cons, List.map_nil]); first | done | rfl | (simp only [List.length_drop, List.length_take]; rfl)) ?_; (with_reducible refine (tollhouseref15_May.calls k2 (a0.extract (x4_2 : Int).toNat a0.size) false _ (Glob.below HGl.out (by repeat (first | (with_reducible first | exact HB.out | apply below_alloc | apply pw_below_drewN | apply below_drew1) | exact HB.out))) A25.out).mono ?_); rintro e w' ⟨rfl, ⟨nd, rfl⟩⟩; refine ⟨_, rfl, ?_⟩))
                    go_ret2
                    exact ⟨by first | rfl | (simp [errW_none, errW_some] <;> rfl) | (simp [*, errW_none, errW_some] <;> rfl), by repeat (first | (with_reducible first | exact HB.out | apply below_alloc | apply pw_below_drewN | apply below_drew1) | exact HB.out)⟩
                · rw [if_neg c24] at H
                  exact absurd H (by simp)
              · rw [if_neg c23] at H
                exact absurd H (by simp)

end Go.Proofs.YthmnhbalmglohaaGreatDoor.X

-- PRINTED by print.py (a twelfth state) out of the translation. Not trusted: Lean checks it.
namespace Go.Proofs.YthmnhbalmglohaaGreatDoor.X
open Go.RowKit Go.Proofs.YthmnhbalmglohaaGreatDoorW.PrintWords Go.Proofs.YthmnhbalmglohaaGreatDoorW.PrintLast Go.Proofs.YthmnhbalmglohaaGreatDoorW.PrintMore
attribute [local go_sem] max2_int min2_int max_two min_two max_three min_three max_four min_four   -- for this text's walks alone
set_option linter.unusedVariables false
set_option linter.unusedSimpArgs false
open Go.Proofs.YthmnhbalmglohaaGreatDoor.T

/-! ### tollhouseref02_Same: function 56 -/
def tollhouseref02_Same.f (k : Nat) (a0 : ByteArray) (a1 : ByteArray) : Option (Bool) := (tollhouseref02_Lower.f k a0).bind fun t240 => ((tollhouseref02_Lower.f k a1).bind fun t241 => (some (t240.toList == t241.toList)))
theorem tollhouseref02_Same.mono : ∀ a0 a1 k, LeO (tollhouseref02_Same.f k a0 a1) (tollhouseref02_Same.f (k + 1) a0 a1) := by
  intro a0 a1 k
  unfold tollhouseref02_Same.f
  repeat' first
      | (with_reducible exact tollhouseref02_Lower.mono _ _)
      | (with_reducible exact LeO.refl _)
      | (with_reducible exact LeO.none _)
      | (with_reducible refine LeO.ite ?_ ?_)
      | (with_reducible refine LeO.bind ?_ (fun _ => ?_))
      | exact tollhouseref02_Lower.mono _ _
      | exact LeO.none _
      | refine LeO.ite ?_ ?_
      | refine LeO.bind ?_ (fun _ => ?_)
set_option maxHeartbeats 8000000 in
set_option maxRecDepth 100000 in
theorem tollhouseref02_Same.calls (k : Nat) (a0 : ByteArray) (a1 : ByteArray) (r : Bool) (w : World) (HGg : Glob w) (h : tollhouseref02_Same.f k a0 a1 = some r) :
    Calls Tryz.prog 56 #[.string a0, .string a1] w fun e w' => e = .returned (.bool r) ∧ Below w.heap.size w w' := by
  have HGl := Aside0.mk HGg
  clear HGg
  have HB := Aside0.mk (Below.refl w.heap.size w)
  have H : ((tollhouseref02_Lower.f k a0).bind fun t240 => ((tollhouseref02_Lower.f k a1).bind fun t241 => (some (t240.toList == t241.toList)))) = some r := h
  clear h
  replace H := Option.bind_eq_some_iff.mp H
  obtain ⟨t240, A30, H⟩ := H
  replace H : ((tollhouseref02_Lower.f k a1).bind fun t241 => (some (t240.toList == t241.toList))) = some r := H
  have A3 := Aside0.mk A30
  clear A30
  replace H := Option.bind_eq_some_iff.mp H
  obtain ⟨t241, A40, H⟩ := H
  replace H : (some (t240.toList == t241.toList)) = some r := H
  have A4 := Aside0.mk A40
  clear A40
  obtain rfl := Option.some.inj H
  go_enter Tryz.func56, Tryz.ntmps56
  go_wp2_with (first | ((with_reducible refine gate_callee (f := 33) rfl ?_); refine goesL_ (some 6) rfl rfl Tryz.func33 (by kernel_rfl) rfl #[.string a0] rfl (by (try simp only [List.map_toArray, List.map_cons, List.map_nil]); first | done | rfl | (simp only [List.length_drop, List.length_take]; rfl)) ?_; (with_reducible refine (tollhouseref02_Lower.calls k a0 t240 _ (Glob.below HGl.out (by repeat (first | (with_reducible first | exact HB.out | apply below_alloc | apply pw_below_drewN | apply below_drew1) | exact HB.out))) A3.out).mono ?_); rintro e w5 ⟨rfl, hb⟩; refine ⟨_, rfl, ?_⟩; have n0_ := Aside0.mk (below_step (by repeat (first | (with_reducible first | exact HB.out | apply below_alloc | apply pw_below_drewN | apply below_drew1) | exact HB.out)) hb); clear HB; have HB := n0_; clear n0_; (try clear hb); (try clear hb2); (try clear hk); (try clear hi)) | ((with_reducible refine gate_callee (f := 33) rfl ?_); refine goesL_ (some 8) rfl rfl Tryz.func33 (by kernel_rfl) rfl #[.string a1] rfl (by (try simp only [List.map_toArray, List.map_cons, List.map_nil]); first | done | rfl | (simp only [List.length_drop, List.length_take]; rfl)) ?_; (with_reducible refine (tollhouseref02_Lower.calls k a1 t241 _ (Glob.below HGl.out (by repeat (first | (with_reducible first | exact HB.out | apply below_alloc | apply pw_below_drewN | apply below_drew1) | exact HB.out))) A4.out).mono ?_); rintro e w6 ⟨rfl, hb⟩; refine ⟨_, rfl, ?_⟩; have n0_ := Aside0.mk (below_step (by repeat (first | (with_reducible first | exact HB.out | apply below_alloc | apply pw_below_drewN | apply below_drew1) | exact HB.out)) hb); clear HB; have HB := n0_; clear n0_; (try clear hb); (try clear hb2); (try clear hk); (try clear hi)))
  go_ret
  exact ⟨by first | rfl | (simp [errW_none, errW_some] <;> rfl) | (simp [*, errW_none, errW_some] <;> rfl), by repeat (first | (with_reducible first | exact HB.out | apply below_alloc | apply pw_below_drewN | apply below_drew1) | exact HB.out)⟩

end Go.Proofs.YthmnhbalmglohaaGreatDoor.X

-- PRINTED by print.py (a twelfth state) out of the translation. Not trusted: Lean checks it.
namespace Go.Proofs.YthmnhbalmglohaaGreatDoor.X
open Go.RowKit Go.Proofs.YthmnhbalmglohaaGreatDoorW.PrintWords Go.Proofs.YthmnhbalmglohaaGreatDoorW.PrintLast Go.Proofs.YthmnhbalmglohaaGreatDoorW.PrintMore
attribute [local go_sem] max2_int min2_int max_two min_two max_three min_three max_four min_four   -- for this text's walks alone
set_option linter.unusedVariables false
set_option linter.unusedSimpArgs false
open Go.Proofs.YthmnhbalmglohaaGreatDoor.T

/-! ### tollhouseref05_Get: function 35 -/
def tollhouseref05_Get.l0 : Nat → List (S48) → ByteArray → List ByteArray → Int → Option (List ByteArray)
  | 0, _, _, _, _ => none
  | k + 1, x0, x1, x5, x6 => if x6 < (x0.length : Int) then (if 0 ≤ x6 then ((tollhouseref02_Same.f k ((rd_T48 x0 x6).f0) x1).bind fun t243 => (if t243 = true then (if x5.length < 8796093022208 then (tollhouseref05_Get.l0 k x0 x1 (x5 ++ [(rd_T48 x0 x6).f1]) (wrap64 (x6 + 1))) else (none)) else (tollhouseref05_Get.l0 k x0 x1 x5 (wrap64 (x6 + 1))))) else (none)) else (some x5)
def tollhouseref05_Get.f (k : Nat) (l0 : List (S48)) (a1 : ByteArray) : Option (List ByteArray) := tollhouseref05_Get.l0 k l0 a1 ([] : List ByteArray) 0
theorem tollhouseref05_Get.mono_l : ∀ k, (∀ y0 y1 y2 y3, LeO (tollhouseref05_Get.l0 k y0 y1 y2 y3) (tollhouseref05_Get.l0 (k + 1) y0 y1 y2 y3))
  | 0 => fun _ _ _ _ r h => by simp [tollhouseref05_Get.l0] at h
  | k + 1 => by
    have ih0 := tollhouseref05_Get.mono_l k
    · intro y0 y1 y2 y3
      unfold tollhouseref05_Get.l0
      repeat' first
      | (with_reducible exact ih0 _ _ _ _)
      | (with_reducible exact tollhouseref02_Same.mono _ _ _)
      | (with_reducible exact LeO.refl _)
      | (with_reducible exact LeO.none _)
      | (with_reducible refine LeO.ite ?_ ?_)
      | (with_reducible refine LeO.bind ?_ (fun _ => ?_))
      | exact ih0 _ _ _ _
      | exact tollhouseref02_Same.mono _ _ _
      | exact LeO.none _
      | refine LeO.ite ?_ ?_
      | refine LeO.bind ?_ (fun _ => ?_)
theorem tollhouseref05_Get.mono : ∀ a0 a1 k, LeO (tollhouseref05_Get.f k a0 a1) (tollhouseref05_Get.f (k + 1) a0 a1) := by
  intro a0 a1 k
  have ih0 := tollhouseref05_Get.mono_l k
  unfold tollhouseref05_Get.f
  repeat' first
      | (with_reducible exact ih0 _ _ _ _)
      | (with_reducible exact tollhouseref02_Same.mono _ _ _)
      | (with_reducible exact LeO.refl _)
      | (with_reducible exact LeO.none _)
      | (with_reducible refine LeO.ite ?_ ?_)
      | (with_reducible refine LeO.bind ?_ (fun _ => ?_))
      | exact ih0 _ _ _ _
      | exact tollhouseref02_Same.mono _ _ _
      | exact LeO.none _
      | refine LeO.ite ?_ ?_
      | refine LeO.bind ?_ (fun _ => ?_)
set_option maxHeartbeats 8000000 in
set_option maxRecDepth 100000 in
theorem tollhouseref05_Get.calls (k : Nat) (A0 : Option Addr) (c0 : Nat) (l0 : List (S48)) (a1 : ByteArray) (r : List ByteArray) (w : World) (hr0 : Kd.C k48 w A0 l0.length l0) (hc0 : l0.length ≤ c0) (HGg : Glob w) (h : tollhouseref05_Get.f k l0 a1 = some r) :
    Calls Tryz.prog 35 #[.slice A0 l0.length c0, .string a1] w fun e w' => ∃ v0_ : Value, e = .returned (v0_) ∧ Kd.R Kd.string 9 w' w.heap.size (fun _ => True) v0_ r ∧ Below w.heap.size w w' := by
  have HGl := Aside0.mk HGg
  clear HGg
  have HR0 := Aside0.mk hr0
  have HC0 := Aside0.mk hc0
  clear hr0 hc0
  have HB := Aside0.mk (Below.refl w.heap.size w)
  have H : (tollhouseref05_Get.l0 k l0 a1 ([] : List ByteArray) 0) = some r := h
  clear h
  have H' := Aside0.mk H
  clear H
  go_enter Tryz.func35, Tryz.ntmps35
  go_wp2
  go_loopg [5, 6] k (fun kq v5 v6 w' => ∃ (x5_1 : List ByteArray) (x6_1 : Int), v6 = .int .i64 x6_1 ∧ Aside0 (tollhouseref05_Get.l0 kq l0 a1 x5_1 x6_1 = some r) ∧ Aside0 (kq ≤ k) ∧ Aside0 (Kd.R Kd.string 9 w' w.heap.size (fun _ => True) v5 x5_1) ∧ Aside0 (Below w.heap.size w w'))
  case atStart => exact ⟨(([] : List ByteArray)), (0), (by first | rfl | (simp; done) | (simp [*]; done)), H', ⟨Nat.le_refl _⟩, ⟨by first | exact Kd.R_nil _ _ _ _ _ | exact Kd.N_nil _ _ _ _ _ | exact Kd.V_nil _ _ _ _ _ | exact Kd.Q_nil _ _ _ _ _ | exact Kd.S_nil _ _ _ _ _⟩, ⟨by repeat (first | (with_reducible first | exact HB.out | apply below_alloc | apply pw_below_drewN | apply below_drew1) | exact HB.out)⟩⟩
  case round =>
    clear H'
    try clear p2
    obtain ⟨x5_1, x6_1, rfl, HA, HK1, HO_5, HB⟩ := hrel
    cases gk with
    | zero => exact absurd HA.out (by simp [tollhouseref05_Get.l0])
    | succ k1 =>
      have H := HA.out
      clear HA
      simp only [tollhouseref05_Get.l0] at H
      by_cases c3 : x6_1 < (l0.length : Int)
      · rw [if_pos c3] at H
        have c3b0 : decide (x6_1 < (l0.length : Int)) = true := decide_eq_true c3
        clear c3
        by_cases c4 : 0 ≤ x6_1
        · rw [if_pos c4] at H
          have c4b0 : decide (0 ≤ x6_1) = true := decide_eq_true c4
          clear c4
          replace H := Option.bind_eq_some_iff.mp H
          obtain ⟨t243, A50, H⟩ := H
          replace H : (if t243 = true then (if x5_1.length < 8796093022208 then (tollhouseref05_Get.l0 k1 l0 a1 (x5_1 ++ [(rd_T48 l0 x6_1).f1]) (wrap64 (x6_1 + 1))) else (none)) else (tollhouseref05_Get.l0 k1 l0 a1 x5_1 (wrap64 (x6_1 + 1)))) = some r := H
          have A5 := Aside0.mk A50
          clear A50
          by_cases c6 : t243 = true
          · subst c6
            have H1 : (if x5_1.length < 8796093022208 then (tollhouseref05_Get.l0 k1 l0 a1 (x5_1 ++ [(rd_T48 l0 x6_1).f1]) (wrap64 (x6_1 + 1))) else (none)) = some r := by rw [if_pos rfl] at H; exact H
            clear H
            have H := H1
            clear H1
            by_cases c7 : x5_1.length < 8796093022208
            · rw [if_pos c7] at H
              have LMc7 := Aside0.mk c7
              clear c7
              obtain ⟨y245, hy245⟩ : ∃ y_ : List ByteArray, y_ = (x5_1 ++ [(rd_T48 l0 x6_1).f1]) := ⟨_, rfl⟩
              replace H : (tollhouseref05_Get.l0 k1 l0 a1 y245 (wrap64 (x6_1 + 1))) = some r := by first | (rw [hy245]; with_reducible exact H) | (have H2_ := (Option.bind_some _ _).symm.trans H; rw [hy245]; with_reducible exact H2_) | (have H2_ := (Option.bind_some _ _).symm.trans H; with_reducible exact H2_) | with_reducible exact H | (rw [hy245]; exact H) | exact H
              have Ny245 := Aside0.mk hy245
              clear hy245
              have H' := Aside0.mk H
              clear H
              have p242 : 0 ≤ (x6_1 : Int) := of_decide_eq_true (by first | (with_reducible assumption) | assumption)
              have q242 : x6_1 < (l0.length : Int) := of_decide_eq_true (by first | (with_reducible assumption) | assumption)
              obtain ⟨ad242, e242, hx242_0, hx242_1⟩ := at_T48 HR0.out x6_1 p242 q242
              cases e242
              replace hx242_0 := (HB.out.cell (World.block_lt_of_cell? w _ hx242_0)).trans hx242_0
              replace hx242_1 := (HB.out.cell (World.block_lt_of_cell? w _ hx242_1)).trans hx242_1
              replace p242 := eq_true p242
              replace q242 := eq_true q242
              go_wp2_with (first | ((with_reducible refine gate_callee (f := 56) rfl ?_); refine goesL_ (some 19) rfl rfl Tryz.func56 (by kernel_rfl) rfl #[.string ((rd_T48 l0 x6_1).f0), .string a1] rfl (by (try simp only [List.map_toArray, List.map_cons, List.map_nil]); first | done | rfl | (simp only [List.length_drop, List.length_take]; rfl)) ?_; (with_reducible refine (tollhouseref02_Same.calls k1 ((rd_T48 l0 x6_1).f0) a1 true _ (Glob.below HGl.out (by repeat (first | (with_reducible first | exact HB.out | apply below_alloc | apply pw_below_drewN | apply below_drew1) | exact HB.out))) A5.out).mono ?_); rintro e w8 ⟨rfl, hb⟩; refine ⟨_, rfl, ?_⟩; have n0_ := Aside0.mk (Kd.R_below (by (with_reducible repeat (first | apply Kd.R_alloc | apply Kd.R_drewN | apply Kd.R_drew)); exact HO_5.out) hb); have n1_ := Aside0.mk (below_step (by repeat (first | (with_reducible first | exact HB.out | apply below_alloc | apply pw_below_drewN | apply below_drew1) | exact HB.out)) hb); clear HO_5; clear HB; have HO_5 := n0_; have HB := n1_; clear n0_ n1_; (try clear hb); (try clear hb2); (try clear hk); (try clear hi); have p244 : 0 ≤ (x6_1 : Int) := of_decide_eq_true (by first | (with_reducible assumption) | assumption); have q244 : x6_1 < (l0.length : Int) := of_decide_eq_true (by first | (with_reducible assumption) | assumption); obtain ⟨ad244, e244, hx244_0, hx244_1⟩ := at_T48 HR0.out x6_1 p244 q244; obtain rfl : ad242 = ad244 := (by injection e244); replace hx244_0 := (HB.out.cell (World.block_lt_of_cell? w _ hx244_0)).trans hx244_0; replace hx244_1 := (HB.out.cell (World.block_lt_of_cell? w _ hx244_1)).trans hx244_1; replace p244 := eq_true p244; replace q244 := eq_true q244) | ((with_reducible refine gate_builtin (b := .append) (xs := #[.tmp 20, .tmp 26]) rfl ?_); at_builtin; refine Kd.R_append Kd.string (w0 := w) w.heap.size rfl (.tmp 20) (.tmp 26) 44 9 (.string ⟨#[]⟩) 16 rfl Tryz.underlying44 info9 rfl (by decide) (by omega) u5 x5_1 ((rd_T48 l0 x6_1).f1) [.string ((rd_T48 l0 x6_1).f1)] (fun _ => True) (fun _ => False) rfl rfl ?aP (fun _ hk => hk.elim) ?aF ?aO ?aB ?aS ?aL ?_; (case aP => exact rfl); (case aB => exact (by repeat (first | (with_reducible first | exact HB.out | apply below_alloc | apply pw_below_drewN | apply below_drew1) | exact HB.out))); (case aF => exact (fun _ _ => trivial)); (case aO => exact (by (with_reducible repeat (first | apply Kd.R_alloc | apply Kd.R_drewN | apply Kd.R_drew)); exact HO_5.out)); (case aS => exact (below_size (by repeat (first | (with_reducible first | exact HB.out | apply below_alloc | apply pw_below_drewN | apply below_drew1) | exact HB.out)))); (case aL => have := LMc7.out; omega); intro v246 w9 ho hb hg hat; rw [← Ny245.out] at ho; have n0_ := Aside0.mk (hb); have n1_ := Aside0.mk (ho); clear HB; clear HO_5; have HB := n0_; have HO247 := n1_; clear n0_ n1_; clear ho hb hg hat))
              go_roundg k1
              case measure => have := HK1.out; omega
              case rel => exact ⟨(y245), (wrap64 (x6_1 + 1)), (by first | rfl | (simp; done) | (simp [*]; done)), H', ⟨by have := HK1.out; omega⟩, ⟨by (with_reducible repeat (first | apply Kd.R_alloc | apply Kd.R_drewN | apply Kd.R_drew)); exact HO247.out⟩, ⟨by repeat (first | (with_reducible first | exact HB.out | apply below_alloc | apply pw_below_drewN | apply below_drew1) | exact HB.out)⟩⟩
            · rw [if_neg c7] at H
              exact absurd H (by simp)
          · replace c6 := Bool.eq_false_iff.mpr c6
            subst c6
            have H1 : (tollhouseref05_Get.l0 k1 l0 a1 x5_1 (wrap64 (x6_1 + 1))) = some r := by rw [if_neg (show ¬ (false = true) by decide)] at H; exact H
            clear H
            have H := H1
            clear H1
            have H' := Aside0.mk H
            clear H
            have p242 : 0 ≤ (x6_1 : Int) := of_decide_eq_true (by first | (with_reducible assumption) | assumption)
            have q242 : x6_1 < (l0.length : Int) := of_decide_eq_true (by first | (with_reducible assumption) | assumption)
            obtain ⟨ad242, e242, hx242_0, hx242_1⟩ := at_T48 HR0.out x6_1 p242 q242
            cases e242
            replace hx242_0 := (HB.out.cell (World.block_lt_of_cell? w _ hx242_0)).trans hx242_0
            replace hx242_1 := (HB.out.cell (World.block_lt_of_cell? w _ hx242_1)).trans hx242_1
            replace p242 := eq_true p242
            replace q242 := eq_true q242
            go_wp2_with (first | ((with_reducible refine gate_callee (f := 56) rfl ?_); refine goesL_ (some 19) rfl rfl Tryz.func56 (by kernel_rfl) rfl #[.string ((rd_T48 l0 x6_1).f0), .string a1] rfl (by (try simp only [List.map_toArray, List.map_cons, List.map_nil]); first | done | rfl | (simp only [List.length_drop, List.length_take]; rfl)) ?_; (with_reducible refine (tollhouseref02_Same.calls k1 ((rd_T48 l0 x6_1).f0) a1 false _ (Glob.below HGl.out (by repeat (first | (with_reducible first | exact HB.out | apply below_alloc | apply pw_below_drewN | apply below_drew1) | exact HB.out))) A5.out).mono ?_); rintro e w10 ⟨rfl, hb⟩; refine ⟨_, rfl, ?_⟩; have n0_ := Aside0.mk (Kd.R_below (by (with_reducible repeat (first | apply Kd.R_alloc | apply Kd.R_drewN | apply Kd.R_drew)); exact HO_5.out) hb); have n1_ := Aside0.mk (below_step (by repeat (first | (with_reducible first | exact HB.out | apply below_alloc | apply pw_below_drewN | apply below_drew1) | exact HB.out)) hb); clear HO_5; clear HB; have HO_5 := n0_; have HB := n1_; clear n0_ n1_; (try clear hb); (try clear hb2); (try clear hk); (try clear hi)))
            go_roundg k1
            case measure => have := HK1.out; omega
            case rel => exact ⟨(x5_1), (wrap64 (x6_1 + 1)), (by first | rfl | (simp; done) | (simp [*]; done)), H', ⟨by have := HK1.out; omega⟩, ⟨by (with_reducible repeat (first | apply Kd.R_alloc | apply Kd.R_drewN | apply Kd.R_drew)); exact HO_5.out⟩, ⟨by repeat (first | (with_reducible first | exact HB.out | apply below_alloc | apply pw_below_drewN | apply below_drew1) | exact HB.out)⟩⟩
        · rw [if_neg c4] at H
          exact absurd H (by simp)
      · rw [if_neg c3] at H
        have c3b0 : decide (x6_1 < (l0.length : Int)) = false := decide_eq_false c3
        clear c3
        obtain rfl := Option.some.inj H
        go_wp2
        go_ret
        exact ⟨_, by first | rfl | (simp [errW_none, errW_some] <;> rfl) | (simp [*, errW_none, errW_some] <;> rfl), by (with_reducible repeat (first | apply Kd.R_alloc | apply Kd.R_drewN | apply Kd.R_drew)); exact HO_5.out, by repeat (first | (with_reducible first | exact HB.out | apply below_alloc | apply pw_below_drewN | apply below_drew1) | exact HB.out)⟩

end Go.Proofs.YthmnhbalmglohaaGreatDoor.X

-- PRINTED by print.py (a twelfth state) out of the translation. Not trusted: Lean checks it.
namespace Go.Proofs.YthmnhbalmglohaaGreatDoor.X
open Go.RowKit Go.Proofs.YthmnhbalmglohaaGreatDoorW.PrintWords Go.Proofs.YthmnhbalmglohaaGreatDoorW.PrintLast Go.Proofs.YthmnhbalmglohaaGreatDoorW.PrintMore
attribute [local go_sem] max2_int min2_int max_two min_two max_three min_three max_four min_four   -- for this text's walks alone
set_option linter.unusedVariables false
set_option linter.unusedSimpArgs false
open Go.Proofs.YthmnhbalmglohaaGreatDoor.T

/-! ### tollhouseref15_Holds: function 19 -/
def tollhouseref15_Holds.f (k : Nat) (a0 : ByteArray) (l1 : List (S48)) : Option (Bool) := (tollhouseref05_Get.f k l1 (⟨#[112, 114, 111, 120, 121, 45, 97, 117, 116, 104, 111, 114, 105, 122, 97, 116, 105, 111, 110]⟩ : ByteArray)).bind fun t248 => (if (t248.length : Int) = 1 then (if 0 < (t248.length : Int) then ((tollhouseref15_Credential.f k (rdOf ByteArray.empty t248 0)).bind fun bt252 => (if bt252.2 = true then (some (bt252.1.toList == a0.toList)) else (some false))) else (none)) else (some false))
theorem tollhouseref15_Holds.mono : ∀ a0 a1 k, LeO (tollhouseref15_Holds.f k a0 a1) (tollhouseref15_Holds.f (k + 1) a0 a1) := by
  intro a0 a1 k
  unfold tollhouseref15_Holds.f
  repeat' first
      | (with_reducible exact tollhouseref05_Get.mono _ _ _)
      | (with_reducible exact tollhouseref15_Credential.mono _ _)
      | (with_reducible exact LeO.refl _)
      | (with_reducible exact LeO.none _)
      | (with_reducible refine LeO.ite ?_ ?_)
      | (with_reducible refine LeO.bind ?_ (fun _ => ?_))
      | exact tollhouseref05_Get.mono _ _ _
      | exact tollhouseref15_Credential.mono _ _
      | exact LeO.none _
      | refine LeO.ite ?_ ?_
      | refine LeO.bind ?_ (fun _ => ?_)
set_option maxHeartbeats 8000000 in
set_option maxRecDepth 100000 in
theorem tollhouseref15_Holds.calls (k : Nat) (a0 : ByteArray) (A1 : Option Addr) (c1 : Nat) (l1 : List (S48)) (r : Bool) (w : World) (hr1 : Kd.C k48 w A1 l1.length l1) (hc1 : l1.length ≤ c1) (HGg : Glob w) (h : tollhouseref15_Holds.f k a0 l1 = some r) :
    Calls Tryz.prog 19 #[.string a0, .slice A1 l1.length c1] w fun e w' => e = .returned (.bool r) ∧ Below w.heap.size w w' := by
  have HGl := Aside0.mk HGg
  clear HGg
  have HR1 := Aside0.mk hr1
  have HC1 := Aside0.mk hc1
  clear hr1 hc1
  have HB := Aside0.mk (Below.refl w.heap.size w)
  have H : ((tollhouseref05_Get.f k l1 (⟨#[112, 114, 111, 120, 121, 45, 97, 117, 116, 104, 111, 114, 105, 122, 97, 116, 105, 111, 110]⟩ : ByteArray)).bind fun t248 => (if (t248.length : Int) = 1 then (if 0 < (t248.length : Int) then ((tollhouseref15_Credential.f k (rdOf ByteArray.empty t248 0)).bind fun bt252 => (if bt252.2 = true then (some (bt252.1.toList == a0.toList)) else (some false))) else (none)) else (some false))) = some r := h
  clear h
  replace H := Option.bind_eq_some_iff.mp H
  obtain ⟨t248, A30, H⟩ := H
  replace H : (if (t248.length : Int) = 1 then (if 0 < (t248.length : Int) then ((tollhouseref15_Credential.f k (rdOf ByteArray.empty t248 0)).bind fun bt252 => (if bt252.2 = true then (some (bt252.1.toList == a0.toList)) else (some false))) else (none)) else (some false)) = some r := H
  have A3 := Aside0.mk A30
  clear A30
  by_cases c4 : (t248.length : Int) = 1
  · rw [if_pos c4] at H
    have c4b0 : ((t248.length : Int) == 1) = true := beq_iff_eq.mpr c4
    have c4b1 : ((t248.length : Int) != 1) = false := bne_eq_false_iff_eq.mpr c4
    clear c4
    by_cases c5 : 0 < (t248.length : Int)
    · rw [if_pos c5] at H
      have c5b0 : decide (0 < (t248.length : Int)) = true := decide_eq_true c5
      have c5b1 : decide (0 < t248.length) = true := decide_eq_true (by omega)
      clear c5
      replace H := Option.bind_eq_some_iff.mp H
      obtain ⟨⟨t252, t253⟩, A60, H⟩ := H
      replace H : (if t253 = true then (some (t252.toList == a0.toList)) else (some false)) = some r := H
      have A6 := Aside0.mk A60
      clear A60
      by_cases c7 : t253 = true
      · subst c7
        have H1 : (some (t252.toList == a0.toList)) = some r := by rw [if_pos rfl] at H; exact H
        clear H
        have H := H1
        clear H1
        obtain rfl := Option.some.inj H
        go_enter Tryz.func19, Tryz.ntmps19
        go_wp2_with (first | ((with_reducible refine gate_callee (f := 35) rfl ?_); refine goesL_ (some 9) rfl rfl Tryz.func35 (by kernel_rfl) rfl #[.slice A1 l1.length c1, .string (⟨#[112, 114, 111, 120, 121, 45, 97, 117, 116, 104, 111, 114, 105, 122, 97, 116, 105, 111, 110]⟩ : ByteArray)] rfl (by (try simp only [List.map_toArray, List.map_cons, List.map_nil]); first | done | rfl | (simp only [List.length_drop, List.length_take]; rfl)) ?_; (with_reducible refine (tollhouseref05_Get.calls k _ _ l1 (⟨#[112, 114, 111, 120, 121, 45, 97, 117, 116, 104, 111, 114, 105, 122, 97, 116, 105, 111, 110]⟩ : ByteArray) t248 _ ?side1 ?side2 (Glob.below HGl.out (by repeat (first | (with_reducible first | exact HB.out | apply below_alloc | apply pw_below_drewN | apply below_drew1) | exact HB.out))) A3.out).mono ?_); (case side1 => repeat (first | exact HR1.out | (with_reducible refine Kd.C_alloc ?_ _) | (with_reducible refine Kd.C_drewN ?_ _) | (with_reducible refine Kd.C_drew ?_))); (case side2 => exact HC1.out); rintro e w8 ⟨v249, rfl, ho0, hb⟩; refine ⟨_, rfl, ?_⟩; have n0_ := Aside0.mk (Kd.R_lower ho0 (below_size (by repeat (first | (with_reducible first | exact HB.out | apply below_alloc | apply pw_below_drewN | apply below_drew1) | exact HB.out)))); have n1_ := Aside0.mk (below_step (by repeat (first | (with_reducible first | exact HB.out | apply below_alloc | apply pw_below_drewN | apply below_drew1) | exact HB.out)) hb); clear HB; have HO250 := n0_; have HB := n1_; clear n0_ n1_; (try clear hb); (try clear hb2); (try clear hk); (try clear hi); (try clear ho0); obtain ⟨Ao9, co9, eo9⟩ := Kd.R_slice HO250.out; subst eo9; have p251 : 0 ≤ (0 : Int) := (by omega); have q251 : 0 < (t248.length : Int) := of_decide_eq_true (by first | (with_reducible assumption) | assumption); obtain ⟨ad251, e251, hx251_0⟩ := Kd.at_string (Kd.R_reads' HO250.out).2.2 0 p251 q251; cases e251; have qi251 : (0 < t248.length) = True := eq_true (by omega); (try rw [show ((0 : Int)).toNat = 0 from rfl] at hx251_0); (try rw [Addr.add_zero'] at hx251_0); replace p251 := eq_true p251; replace q251 := eq_true q251) | ((with_reducible refine gate_callee (f := 17) rfl ?_); refine goesL_ (some 17) rfl rfl Tryz.func17 (by kernel_rfl) rfl #[.string (rdOf ByteArray.empty t248 0)] rfl (by (try simp only [List.map_toArray, List.map_cons, List.map_nil]); first | done | rfl | (simp only [List.length_drop, List.length_take]; rfl)) ?_; (with_reducible refine (tollhouseref15_Credential.calls k (rdOf ByteArray.empty t248 0) t252 true _ (Glob.below HGl.out (by repeat (first | (with_reducible first | exact HB.out | apply below_alloc | apply pw_below_drewN | apply below_drew1) | exact HB.out))) A6.out).mono ?_); rintro e w10 ⟨rfl, hb⟩; refine ⟨_, rfl, ?_⟩; have n0_ := Aside0.mk (Kd.R_below (by (with_reducible repeat (first | apply Kd.R_alloc | apply Kd.R_drewN | apply Kd.R_drew)); exact HO250.out) hb); have n1_ := Aside0.mk (below_step (by repeat (first | (with_reducible first | exact HB.out | apply below_alloc | apply pw_below_drewN | apply below_drew1) | exact HB.out)) hb); clear HO250; clear HB; have HO250 := n0_; have HB := n1_; clear n0_ n1_; (try clear hb); (try clear hb2); (try clear hk); (try clear hi)))
        go_ret
        exact ⟨by first | rfl | (simp [errW_none, errW_some] <;> rfl) | (simp [*, errW_none, errW_some] <;> rfl), by repeat (first | (with_reducible first | exact HB.out | apply below_alloc | apply pw_below_drewN | apply below_drew1) | exact HB.out)⟩
      · replace c7 := Bool.eq_false_iff.mpr c7
        subst c7
        have H1 : (some false) = some r := by rw [if_neg (show ¬ (false = true) by decide)] at H; exact H
        clear H
        have H := H1
        clear H1
        obtain rfl := Option.some.inj H
        go_enter Tryz.func19, Tryz.ntmps19
        go_wp2_with (first | ((with_reducible refine gate_callee (f := 35) rfl ?_); refine goesL_ (some 9) rfl rfl Tryz.func35 (by kernel_rfl) rfl #[.slice A1 l1.length c1, .string (⟨#[112, 114, 111, 120, 121, 45, 97, 117, 116, 104, 111, 114, 105, 122, 97, 116, 105, 111, 110]⟩ : ByteArray)] rfl (by (try simp only [List.map_toArray, List.map_cons, List.map_nil]); first | done | rfl | (simp only [List.length_drop, List.length_take]; rfl)) ?_; (with_reducible refine (tollhouseref05_Get.calls k _ _ l1 (⟨#[112, 114, 111, 120, 121, 45, 97, 117, 116, 104, 111, 114, 105, 122, 97, 116, 105, 111, 110]⟩ : ByteArray) t248 _ ?side1 ?side2 (Glob.below HGl.out (by repeat (first | (with_reducible first | exact HB.out | apply below_alloc | apply pw_below_drewN | apply below_drew1) | exact HB.out))) A3.out).mono ?_); (case side1 => repeat (first | exact HR1.out | (with_reducible refine Kd.C_alloc ?_ _) | (with_reducible refine Kd.C_drewN ?_ _) | (with_reducible refine Kd.C_drew ?_))); (case side2 => exact HC1.out); rintro e w11 ⟨v249, rfl, ho0, hb⟩; refine ⟨_, rfl, ?_⟩; have n0_ := Aside0.mk (Kd.R_lower ho0 (below_size (by repeat (first | (with_reducible first | exact HB.out | apply below_alloc | apply pw_below_drewN | apply below_drew1) | exact HB.out)))); have n1_ := Aside0.mk (below_step (by repeat (first | (with_reducible first | exact HB.out | apply below_alloc | apply pw_below_drewN | apply below_drew1) | exact HB.out)) hb); clear HB; have HO250 := n0_; have HB := n1_; clear n0_ n1_; (try clear hb); (try clear hb2); (try clear hk); (try clear hi); (try clear ho0); obtain ⟨Ao12, co12, eo12⟩ := Kd.R_slice HO250.out; subst eo12; have p251 : 0 ≤ (0 : Int) := (by omega); have q251 : 0 < (t248.length : Int) := of_decide_eq_true (by first | (with_reducible assumption) | assumption); obtain ⟨ad251, e251, hx251_0⟩ := Kd.at_string (Kd.R_reads' HO250.out).2.2 0 p251 q251; cases e251; have qi251 : (0 < t248.length) = True := eq_true (by omega); (try rw [show ((0 : Int)).toNat = 0 from rfl] at hx251_0); (try rw [Addr.add_zero'] at hx251_0); replace p251 := eq_true p251; replace q251 := eq_true q251) | ((with_reducible refine gate_callee (f := 17) rfl ?_); refine goesL_ (some 17) rfl rfl Tryz.func17 (by kernel_rfl) rfl #[.string (rdOf ByteArray.empty t248 0)] rfl (by (try simp only [List.map_toArray, List.map_cons, List.map_nil]); first | done | rfl | (simp only [List.length_drop, List.length_take]; rfl)) ?_; (with_reducible refine (tollhouseref15_Credential.calls k (rdOf ByteArray.empty t248 0) t252 false _ (Glob.below HGl.out (by repeat (first | (with_reducible first | exact HB.out | apply below_alloc | apply pw_below_drewN | apply below_drew1) | exact HB.out))) A6.out).mono ?_); rintro e w13 ⟨rfl, hb⟩; refine ⟨_, rfl, ?_⟩; have n0_ := Aside0.mk (Kd.R_below (by (with_reducible repeat (first | apply Kd.R_alloc | apply Kd.R_drewN | apply Kd.R_drew)); exact HO250.out) hb); have n1_ := Aside0.mk (below_step (by repeat (first | (with_reducible first | exact HB.out | apply below_alloc | apply pw_below_drewN | apply below_drew1) | exact HB.out)) hb); clear HO250; clear HB; have HO250 := n0_; have HB := n1_; clear n0_ n1_; (try clear hb); (try clear hb2); (try clear hk); (try clear hi)))
        go_ret
        exact ⟨by first | rfl | (simp [errW_none, errW_some] <;> rfl) | (simp [*, errW_none, errW_some] <;> rfl), by repeat (first | (with_reducible first | exact HB.out | apply below_alloc | apply pw_below_drewN | apply below_drew1) | exact HB.out)⟩
    · rw [if_neg c5] at H
      exact absurd H (by simp)
  · rw [if_neg c4] at H
    have c4b0 : ((t248.length : Int) == 1) = false := beq_eq_false_iff_ne.mpr c4
    have c4b1 : ((t248.length : Int) != 1) = true := bne_iff_ne.mpr c4
    obtain rfl := Option.some.inj H
    go_enter Tryz.func19, Tryz.ntmps19
    go_wp2_with (first | ((with_reducible refine gate_callee (f := 35) rfl ?_); refine goesL_ (some 9) rfl rfl Tryz.func35 (by kernel_rfl) rfl #[.slice A1 l1.length c1, .string (⟨#[112, 114, 111, 120, 121, 45, 97, 117, 116, 104, 111, 114, 105, 122, 97, 116, 105, 111, 110]⟩ : ByteArray)] rfl (by (try simp only [List.map_toArray, List.map_cons, List.map_nil]); first | done | rfl | (simp only [List.length_drop, List.length_take]; rfl)) ?_; (with_reducible refine (tollhouseref05_Get.calls k _ _ l1 (⟨#[112, 114, 111, 120, 121, 45, 97, 117, 116, 104, 111, 114, 105, 122, 97, 116, 105, 111, 110]⟩ : ByteArray) t248 _ ?side1 ?side2 (Glob.below HGl.out (by repeat (first | (with_reducible first | exact HB.out | apply below_alloc | apply pw_below_drewN | apply below_drew1) | exact HB.out))) A3.out).mono ?_); (case side1 => repeat (first | exact HR1.out | (with_reducible refine Kd.C_alloc ?_ _) | (with_reducible refine Kd.C_drewN ?_ _) | (with_reducible refine Kd.C_drew ?_))); (case side2 => exact HC1.out); rintro e w14 ⟨v249, rfl, ho0, hb⟩; refine ⟨_, rfl, ?_⟩; have n0_ := Aside0.mk (Kd.R_lower ho0 (below_size (by repeat (first | (with_reducible first | exact HB.out | apply below_alloc | apply pw_below_drewN | apply below_drew1) | exact HB.out)))); have n1_ := Aside0.mk (below_step (by repeat (first | (with_reducible first | exact HB.out | apply below_alloc | apply pw_below_drewN | apply below_drew1) | exact HB.out)) hb); clear HB; have HO250 := n0_; have HB := n1_; clear n0_ n1_; (try clear hb); (try clear hb2); (try clear hk); (try clear hi); (try clear ho0); obtain ⟨Ao15, co15, eo15⟩ := Kd.R_slice HO250.out; subst eo15))
    go_ret
    exact ⟨by first | rfl | (simp [errW_none, errW_some] <;> rfl) | (simp [*, errW_none, errW_some] <;> rfl), by repeat (first | (with_reducible first | exact HB.out | apply below_alloc | apply pw_below_drewN | apply below_drew1) | exact HB.out)⟩

end Go.Proofs.YthmnhbalmglohaaGreatDoor.X
