/- A part of the proof of the law AuthApart: contracts of functions that it reaches, and plain lemmas. -/
import Derived.Test.YthmnhbalmglohaaGreatDoorMAuthApart1
import Derived.Test.YthmnhbalmglohaaGreatDoorMAuthApart4
import Derived.Test.YthmnhbalmglohaaGreatDoorMAuthApart2
-- PRINTED by print.py (a twelfth state) out of the translation. Not trusted: Lean checks it.
namespace Go.Proofs.YthmnhbalmglohaaGreatDoor.X
open Go.RowKit Go.Proofs.YthmnhbalmglohaaGreatDoorW.PrintWords Go.Proofs.YthmnhbalmglohaaGreatDoorW.PrintLast Go.Proofs.YthmnhbalmglohaaGreatDoorW.PrintMore
attribute [local go_sem] max2_int min2_int max_two min_two max_three min_three max_four min_four   -- for this text's walks alone
set_option linter.unusedVariables false
set_option linter.unusedSimpArgs false
open Go.Proofs.YthmnhbalmglohaaGreatDoor.T

/-! ### tollhouseref10_Named: function 64 -/
mutual
def tollhouseref10_Named.l0 : Nat → ByteArray → List ByteArray → Bool → Int → Option (Bool)
  | 0, _, _, _, _ => none
  | k + 1, x0, x3, x4, x5 => if x5 < (x3.length : Int) then (tollhouseref10_Named.l1 k x0 x3 x4 x5 0) else (if 0 ≤ (wrap64 ((x3.length : Int) - 1)) then (if (wrap64 ((x3.length : Int) - 1)) < (x3.length : Int) then ((tollhouseref10_number.f k (rdOf ByteArray.empty x3 (wrap64 ((x3.length : Int) - 1)))).bind fun t111 => (if t111 = true then (if (x3.length : Int) = 4 then (if x4 = true then (some (decide ((x0.size : Int) ≤ 64))) else (some false)) else (some false)) else (some (decide ((x0.size : Int) ≤ 64))))) else (none)) else (none))
def tollhouseref10_Named.l1 : Nat → ByteArray → List ByteArray → Bool → Int → Int → Option (Bool)
  | 0, _, _, _, _, _ => none
  | k + 1, x0, x3, x4, x5, x6 => if 0 ≤ x5 then (if x5 < (x3.length : Int) then (if x6 < ((rdOf ByteArray.empty x3 x5).size : Int) then (if 0 ≤ x6 then (if (bt (rdOf ByteArray.empty x3 x5) x6) = 45 then (tollhouseref10_Named.l1 k x0 x3 x4 x5 (wrap64 (x6 + 1))) else (if (bt (rdOf ByteArray.empty x3 x5) x6) < 97 then (if (bt (rdOf ByteArray.empty x3 x5) x6) < 48 then (some false) else (if (bt (rdOf ByteArray.empty x3 x5) x6) > 57 then (some false) else (tollhouseref10_Named.l1 k x0 x3 x4 x5 (wrap64 (x6 + 1))))) else (if (bt (rdOf ByteArray.empty x3 x5) x6) > 122 then (if (bt (rdOf ByteArray.empty x3 x5) x6) < 48 then (some false) else (if (bt (rdOf ByteArray.empty x3 x5) x6) > 57 then (some false) else (tollhouseref10_Named.l1 k x0 x3 x4 x5 (wrap64 (x6 + 1))))) else (tollhouseref10_Named.l1 k x0 x3 x4 x5 (wrap64 (x6 + 1)))))) else (none)) else (if (rdOf ByteArray.empty x3 x5).toList = ([] : List UInt8) then (some false) else (if x4 = true then ((tollhouseref10_octet.f k (rdOf ByteArray.empty x3 x5)).bind fun t116 => (tollhouseref10_Named.l0 k x0 x3 t116 (wrap64 (x5 + 1)))) else (tollhouseref10_Named.l0 k x0 x3 false (wrap64 (x5 + 1)))))) else (none)) else (none)
end
def tollhouseref10_Named.f (k : Nat) (a0 : ByteArray) : Option (Bool) := (tollhouseref10_labels.f k a0).bind fun t107 => (tollhouseref10_Named.l0 k a0 t107 true 0)
theorem tollhouseref10_Named.mono_l : ∀ k, (∀ y0 y1 y2 y3, LeO (tollhouseref10_Named.l0 k y0 y1 y2 y3) (tollhouseref10_Named.l0 (k + 1) y0 y1 y2 y3)) ∧ (∀ y0 y1 y2 y3 y4, LeO (tollhouseref10_Named.l1 k y0 y1 y2 y3 y4) (tollhouseref10_Named.l1 (k + 1) y0 y1 y2 y3 y4))
  | 0 => ⟨fun _ _ _ _ r h => by simp [tollhouseref10_Named.l0] at h, fun _ _ _ _ _ r h => by simp [tollhouseref10_Named.l1] at h⟩
  | k + 1 => by
    obtain ⟨ih0, ih1⟩ := tollhouseref10_Named.mono_l k
    refine ⟨?_, ?_⟩
    · intro y0 y1 y2 y3
      unfold tollhouseref10_Named.l0
      repeat' first
      | (with_reducible exact ih0 _ _ _ _)
      | (with_reducible exact ih1 _ _ _ _ _)
      | (with_reducible exact tollhouseref10_labels.mono _ _)
      | (with_reducible exact tollhouseref10_number.mono _ _)
      | (with_reducible exact tollhouseref10_octet.mono _ _)
      | (with_reducible exact LeO.refl _)
      | (with_reducible exact LeO.none _)
      | (with_reducible refine LeO.ite ?_ ?_)
      | (with_reducible refine LeO.bind ?_ (fun _ => ?_))
      | exact ih0 _ _ _ _
      | exact ih1 _ _ _ _ _
      | exact tollhouseref10_labels.mono _ _
      | exact tollhouseref10_number.mono _ _
      | exact tollhouseref10_octet.mono _ _
      | exact LeO.none _
      | refine LeO.ite ?_ ?_
      | refine LeO.bind ?_ (fun _ => ?_)
    · intro y0 y1 y2 y3 y4
      unfold tollhouseref10_Named.l1
      repeat' first
      | (with_reducible exact ih0 _ _ _ _)
      | (with_reducible exact ih1 _ _ _ _ _)
      | (with_reducible exact tollhouseref10_labels.mono _ _)
      | (with_reducible exact tollhouseref10_number.mono _ _)
      | (with_reducible exact tollhouseref10_octet.mono _ _)
      | (with_reducible exact LeO.refl _)
      | (with_reducible exact LeO.none _)
      | (with_reducible refine LeO.ite ?_ ?_)
      | (with_reducible refine LeO.bind ?_ (fun _ => ?_))
      | exact ih0 _ _ _ _
      | exact ih1 _ _ _ _ _
      | exact tollhouseref10_labels.mono _ _
      | exact tollhouseref10_number.mono _ _
      | exact tollhouseref10_octet.mono _ _
      | exact LeO.none _
      | refine LeO.ite ?_ ?_
      | refine LeO.bind ?_ (fun _ => ?_)
theorem tollhouseref10_Named.mono : ∀ a0 k, LeO (tollhouseref10_Named.f k a0) (tollhouseref10_Named.f (k + 1) a0) := by
  intro a0 k
  obtain ⟨ih0, ih1⟩ := tollhouseref10_Named.mono_l k
  unfold tollhouseref10_Named.f
  repeat' first
      | (with_reducible exact ih0 _ _ _ _)
      | (with_reducible exact ih1 _ _ _ _ _)
      | (with_reducible exact tollhouseref10_labels.mono _ _)
      | (with_reducible exact tollhouseref10_number.mono _ _)
      | (with_reducible exact tollhouseref10_octet.mono _ _)
      | (with_reducible exact LeO.refl _)
      | (with_reducible exact LeO.none _)
      | (with_reducible refine LeO.ite ?_ ?_)
      | (with_reducible refine LeO.bind ?_ (fun _ => ?_))
      | exact ih0 _ _ _ _
      | exact ih1 _ _ _ _ _
      | exact tollhouseref10_labels.mono _ _
      | exact tollhouseref10_number.mono _ _
      | exact tollhouseref10_octet.mono _ _
      | exact LeO.none _
      | refine LeO.ite ?_ ?_
      | refine LeO.bind ?_ (fun _ => ?_)
set_option maxHeartbeats 8000000 in
set_option maxRecDepth 100000 in
theorem tollhouseref10_Named.calls (k : Nat) (a0 : ByteArray) (r : Bool) (w : World) (HGg : Glob w) (h : tollhouseref10_Named.f k a0 = some r) :
    Calls Tryz.prog 64 #[.string a0] w fun e w' => e = .returned (.bool r) ∧ Below w.heap.size w w' := by
  have HGl := Aside0.mk HGg
  clear HGg
  have HB := Aside0.mk (Below.refl w.heap.size w)
  have H : ((tollhouseref10_labels.f k a0).bind fun t107 => (tollhouseref10_Named.l0 k a0 t107 true 0)) = some r := h
  clear h
  replace H := Option.bind_eq_some_iff.mp H
  obtain ⟨t107, A20, H⟩ := H
  replace H : (tollhouseref10_Named.l0 k a0 t107 true 0) = some r := H
  have A2 := Aside0.mk A20
  clear A20
  have H' := Aside0.mk H
  clear H
  go_enter Tryz.func64, Tryz.ntmps64
  go_wp2_with (first | ((with_reducible refine gate_callee (f := 81) rfl ?_); refine goesL_ (some 9) rfl rfl Tryz.func81 (by kernel_rfl) rfl #[.string a0] rfl (by (try simp only [List.map_toArray, List.map_cons, List.map_nil]); first | done | rfl | (simp only [List.length_drop, List.length_take]; rfl)) ?_; (with_reducible refine (tollhouseref10_labels.calls k a0 t107 _ (Glob.below HGl.out (by repeat (first | (with_reducible first | exact HB.out | apply below_alloc | apply pw_below_drewN | apply below_drew1) | exact HB.out))) A2.out).mono ?_); rintro e w3 ⟨v108, rfl, ho0, hb⟩; refine ⟨_, rfl, ?_⟩; have n0_ := Aside0.mk (Kd.R_lower ho0 (below_size (by repeat (first | (with_reducible first | exact HB.out | apply below_alloc | apply pw_below_drewN | apply below_drew1) | exact HB.out)))); have n1_ := Aside0.mk (below_step (by repeat (first | (with_reducible first | exact HB.out | apply below_alloc | apply pw_below_drewN | apply below_drew1) | exact HB.out)) hb); clear HB; have HO109 := n0_; have HB := n1_; clear n0_ n1_; (try clear hb); (try clear hb2); (try clear hk); (try clear hi); (try clear ho0)))
  go_loopg [4, 5] k (fun kq v4 v5 w' => ∃ (x4_1 : Bool) (x5_1 : Int), v4 = .bool x4_1 ∧ v5 = .int .i64 x5_1 ∧ Aside0 (tollhouseref10_Named.l0 kq a0 t107 x4_1 x5_1 = some r) ∧ Aside0 (kq ≤ k) ∧ Aside0 (Kd.R Kd.string 9 w' w.heap.size (fun _ => True) v108 t107) ∧ Aside0 (Below w.heap.size w w'))
  case atStart => exact ⟨(true), (0), (by first | rfl | (simp; done) | (simp [*]; done)), (by first | rfl | (simp; done) | (simp [*]; done)), H', ⟨Nat.le_refl _⟩, ⟨by (with_reducible repeat (first | apply Kd.R_alloc | apply Kd.R_drewN | apply Kd.R_drew)); exact HO109.out⟩, ⟨by repeat (first | (with_reducible first | exact HB.out | apply below_alloc | apply pw_below_drewN | apply below_drew1) | exact HB.out)⟩⟩
  case round =>
    clear H'
    try clear p2
    obtain ⟨x4_1, x5_1, rfl, rfl, HA, HK1, HO_3, HB⟩ := hrel
    cases gk with
    | zero => exact absurd HA.out (by simp [tollhouseref10_Named.l0])
    | succ k1 =>
      have H := HA.out
      clear HA
      simp only [tollhouseref10_Named.l0] at H
      by_cases c4 : x5_1 < (t107.length : Int)
      · rw [if_pos c4] at H
        have c4b0 : decide (x5_1 < (t107.length : Int)) = true := decide_eq_true c4
        clear c4
        have H' := Aside0.mk H
        clear H
        obtain ⟨Ao5, co5, eo5⟩ := Kd.R_slice HO_3.out
        subst eo5
        go_wp2
        go_loopg [6] k1 (fun kq v6 w' => ∃ (x6_2 : Int), v6 = .int .i64 x6_2 ∧ Aside0 (tollhouseref10_Named.l1 kq a0 t107 x4_1 x5_1 x6_2 = some r) ∧ Aside0 (kq ≤ k1) ∧ Aside0 (Kd.R Kd.string 9 w' w.heap.size (fun _ => True) (.slice Ao5 t107.length co5) t107) ∧ Aside0 (Below w.heap.size w w'))
        case atStart => exact ⟨(0), (by first | rfl | (simp; done) | (simp [*]; done)), H', ⟨Nat.le_refl _⟩, ⟨by (with_reducible repeat (first | apply Kd.R_alloc | apply Kd.R_drewN | apply Kd.R_drew)); exact HO_3.out⟩, ⟨by repeat (first | (with_reducible first | exact HB.out | apply below_alloc | apply pw_below_drewN | apply below_drew1) | exact HB.out)⟩⟩
        case round =>
          clear H'
          try clear p2
          try clear c4
          try clear c4b0
          try clear p2
          obtain ⟨x6_2, rfl, HA, HK2, HO_3, HB⟩ := hrel
          cases gk with
          | zero => exact absurd HA.out (by simp [tollhouseref10_Named.l1])
          | succ k2 =>
            have H := HA.out
            clear HA
            simp only [tollhouseref10_Named.l1] at H
            by_cases c6 : 0 ≤ x5_1
            · rw [if_pos c6] at H
              have c6b0 : decide (0 ≤ x5_1) = true := decide_eq_true c6
              clear c6
              by_cases c7 : x5_1 < (t107.length : Int)
              · rw [if_pos c7] at H
                have c7b0 : decide (x5_1 < (t107.length : Int)) = true := decide_eq_true c7
                clear c7
                by_cases c8 : x6_2 < ((rdOf ByteArray.empty t107 x5_1).size : Int)
                · rw [if_pos c8] at H
                  have c8b0 : decide (x6_2 < ((rdOf ByteArray.empty t107 x5_1).size : Int)) = true := decide_eq_true c8
                  clear c8
                  by_cases c9 : 0 ≤ x6_2
                  · rw [if_pos c9] at H
                    have c9b0 : decide (0 ≤ x6_2) = true := decide_eq_true c9
                    clear c9
                    by_cases c11 : (bt (rdOf ByteArray.empty t107 x5_1) x6_2) = 45
                    · rw [if_pos c11] at H
                      have c11b0 : ((bt (rdOf ByteArray.empty t107 x5_1) x6_2) == 45) = true := beq_iff_eq.mpr c11
                      have c11b1 : ((bt (rdOf ByteArray.empty t107 x5_1) x6_2) != 45) = false := bne_eq_false_iff_eq.mpr c11
                      clear c11
                      have H' := Aside0.mk H
                      clear H
                      have p112 : 0 ≤ (x5_1 : Int) := of_decide_eq_true (by first | (with_reducible assumption) | assumption)
                      have q112 : x5_1 < (t107.length : Int) := of_decide_eq_true (by first | (with_reducible assumption) | assumption)
                      obtain ⟨ad112, e112, hx112_0⟩ := Kd.at_string (Kd.R_reads' HO_3.out).2.2 x5_1 p112 q112
                      cases e112
                      replace p112 := eq_true p112
                      replace q112 := eq_true q112
                      have p113 : 0 ≤ (x5_1 : Int) := of_decide_eq_true (by first | (with_reducible assumption) | assumption)
                      have q113 : x5_1 < (t107.length : Int) := of_decide_eq_true (by first | (with_reducible assumption) | assumption)
                      obtain ⟨ad113, e113, hx113_0⟩ := Kd.at_string (Kd.R_reads' HO_3.out).2.2 x5_1 p113 q113
                      obtain rfl : ad112 = ad113 := (by injection e113)
                      replace p113 := eq_true p113
                      replace q113 := eq_true q113
                      have p10 : 0 ≤ (x6_2 : Int) := of_decide_eq_true (by first | (with_reducible assumption) | assumption)
                      have q10 : x6_2 < ((rdOf ByteArray.empty t107 x5_1).size : Int) := of_decide_eq_true (by first | (with_reducible assumption) | assumption)
                      have hx10 := bt_at (rdOf ByteArray.empty t107 x5_1) x6_2
                      replace p10 := eq_true p10
                      replace q10 := eq_true q10
                      go_wp2
                      go_roundg k2
                      case measure => have := HK1.out; have := HK2.out; omega
                      case rel => exact ⟨(wrap64 (x6_2 + 1)), (by first | rfl | (simp; done) | (simp [*]; done)), H', ⟨by have := HK1.out; have := HK2.out; omega⟩, ⟨by (with_reducible repeat (first | apply Kd.R_alloc | apply Kd.R_drewN | apply Kd.R_drew)); exact HO_3.out⟩, ⟨by repeat (first | (with_reducible first | exact HB.out | apply below_alloc | apply pw_below_drewN | apply below_drew1) | exact HB.out)⟩⟩
                    · rw [if_neg c11] at H
                      have c11b0 : ((bt (rdOf ByteArray.empty t107 x5_1) x6_2) == 45) = false := beq_eq_false_iff_ne.mpr c11
                      have c11b1 : ((bt (rdOf ByteArray.empty t107 x5_1) x6_2) != 45) = true := bne_iff_ne.mpr c11
                      by_cases c12 : (bt (rdOf ByteArray.empty t107 x5_1) x6_2) < 97
                      · rw [if_pos c12] at H
                        have c12b0 : decide ((bt (rdOf ByteArray.empty t107 x5_1) x6_2) < 97) = true := decide_eq_true c12
                        clear c12
                        by_cases c13 : (bt (rdOf ByteArray.empty t107 x5_1) x6_2) < 48
                        · rw [if_pos c13] at H
                          have c13b0 : decide ((bt (rdOf ByteArray.empty t107 x5_1) x6_2) < 48) = true := decide_eq_true c13
                          clear c13
                          obtain rfl := Option.some.inj H
                          have p112 : 0 ≤ (x5_1 : Int) := of_decide_eq_true (by first | (with_reducible assumption) | assumption)
                          have q112 : x5_1 < (t107.length : Int) := of_decide_eq_true (by first | (with_reducible assumption) | assumption)
                          obtain ⟨ad112, e112, hx112_0⟩ := Kd.at_string (Kd.R_reads' HO_3.out).2.2 x5_1 p112 q112
                          cases e112
                          replace p112 := eq_true p112
                          replace q112 := eq_true q112
                          have p113 : 0 ≤ (x5_1 : Int) := of_decide_eq_true (by first | (with_reducible assumption) | assumption)
                          have q113 : x5_1 < (t107.length : Int) := of_decide_eq_true (by first | (with_reducible assumption) | assumption)
                          obtain ⟨ad113, e113, hx113_0⟩ := Kd.at_string (Kd.R_reads' HO_3.out).2.2 x5_1 p113 q113
                          obtain rfl : ad112 = ad113 := (by injection e113)
                          replace p113 := eq_true p113
                          replace q113 := eq_true q113
                          have p10 : 0 ≤ (x6_2 : Int) := of_decide_eq_true (by first | (with_reducible assumption) | assumption)
                          have q10 : x6_2 < ((rdOf ByteArray.empty t107 x5_1).size : Int) := of_decide_eq_true (by first | (with_reducible assumption) | assumption)
                          have hx10 := bt_at (rdOf ByteArray.empty t107 x5_1) x6_2
                          replace p10 := eq_true p10
                          replace q10 := eq_true q10
                          go_wp2
                          go_ret
                          exact ⟨by first | rfl | (simp [errW_none, errW_some] <;> rfl) | (simp [*, errW_none, errW_some] <;> rfl), by repeat (first | (with_reducible first | exact HB.out | apply below_alloc | apply pw_below_drewN | apply below_drew1) | exact HB.out)⟩
                        · rw [if_neg c13] at H
                          have c13b0 : decide ((bt (rdOf ByteArray.empty t107 x5_1) x6_2) < 48) = false := decide_eq_false c13
                          clear c13
                          by_cases c14 : (bt (rdOf ByteArray.empty t107 x5_1) x6_2) > 57
                          · rw [if_pos c14] at H
                            have c14b0 : decide (57 < (bt (rdOf ByteArray.empty t107 x5_1) x6_2)) = true := decide_eq_true c14
                            clear c14
                            obtain rfl := Option.some.inj H
                            have p112 : 0 ≤ (x5_1 : Int) := of_decide_eq_true (by first | (with_reducible assumption) | assumption)
                            have q112 : x5_1 < (t107.length : Int) := of_decide_eq_true (by first | (with_reducible assumption) | assumption)
                            obtain ⟨ad112, e112, hx112_0⟩ := Kd.at_string (Kd.R_reads' HO_3.out).2.2 x5_1 p112 q112
                            cases e112
                            replace p112 := eq_true p112
                            replace q112 := eq_true q112
                            have p113 : 0 ≤ (x5_1 : Int) := of_decide_eq_true (by first | (with_reducible assumption) | assumption)
                            have q113 : x5_1 < (t107.length : Int) := of_decide_eq_true (by first | (with_reducible assumption) | assumption)
                            obtain ⟨ad113, e113, hx113_0⟩ := Kd.at_string (Kd.R_reads' HO_3.out).2.2 x5_1 p113 q113
                            obtain rfl : ad112 = ad113 := (by injection e113)
                            replace p113 := eq_true p113
                            replace q113 := eq_true q113
                            have p10 : 0 ≤ (x6_2 : Int) := of_decide_eq_true (by first | (with_reducible assumption) | assumption)
                            have q10 : x6_2 < ((rdOf ByteArray.empty t107 x5_1).size : Int) := of_decide_eq_true (by first | (with_reducible assumption) | assumption)
                            have hx10 := bt_at (rdOf ByteArray.empty t107 x5_1) x6_2
                            replace p10 := eq_true p10
                            replace q10 := eq_true q10
                            go_wp2
                            go_ret
                            exact ⟨by first | rfl | (simp [errW_none, errW_some] <;> rfl) | (simp [*, errW_none, errW_some] <;> rfl), by repeat (first | (with_reducible first | exact HB.out | apply below_alloc | apply pw_below_drewN | apply below_drew1) | exact HB.out)⟩
                          · rw [if_neg c14] at H
                            have c14b0 : decide (57 < (bt (rdOf ByteArray.empty t107 x5_1) x6_2)) = false := decide_eq_false c14
                            clear c14
                            have H' := Aside0.mk H
                            clear H
                            have p112 : 0 ≤ (x5_1 : Int) := of_decide_eq_true (by first | (with_reducible assumption) | assumption)
                            have q112 : x5_1 < (t107.length : Int) := of_decide_eq_true (by first | (with_reducible assumption) | assumption)
                            obtain ⟨ad112, e112, hx112_0⟩ := Kd.at_string (Kd.R_reads' HO_3.out).2.2 x5_1 p112 q112
                            cases e112
                            replace p112 := eq_true p112
                            replace q112 := eq_true q112
                            have p113 : 0 ≤ (x5_1 : Int) := of_decide_eq_true (by first | (with_reducible assumption) | assumption)
                            have q113 : x5_1 < (t107.length : Int) := of_decide_eq_true (by first | (with_reducible assumption) | assumption)
                            obtain ⟨ad113, e113, hx113_0⟩ := Kd.at_string (Kd.R_reads' HO_3.out).2.2 x5_1 p113 q113
                            obtain rfl : ad112 = ad113 := (by injection e113)
                            replace p113 := eq_true p113
                            replace q113 := eq_true q113
                            have p10 : 0 ≤ (x6_2 : Int) := of_decide_eq_true (by first | (with_reducible assumption) | assumption)
                            have q10 : x6_2 < ((rdOf ByteArray.empty t107 x5_1).size : Int) := of_decide_eq_true (by first | (with_reducible assumption) | assumption)
                            have hx10 := bt_at (rdOf ByteArray.empty t107 x5_1) x6_2
                            replace p10 := eq_true p10
                            replace q10 := eq_true q10
                            go_wp2
                            go_roundg k2
                            case measure => have := HK1.out; have := HK2.out; omega
                            case rel => exact ⟨(wrap64 (x6_2 + 1)), (by first | rfl | (simp; done) | (simp [*]; done)), H', ⟨by have := HK1.out; have := HK2.out; omega⟩, ⟨by (with_reducible repeat (first | apply Kd.R_alloc | apply Kd.R_drewN | apply Kd.R_drew)); exact HO_3.out⟩, ⟨by repeat (first | (with_reducible first | exact HB.out | apply below_alloc | apply pw_below_drewN | apply below_drew1) | exact HB.out)⟩⟩
                      · rw [if_neg c12] at H
                        have c12b0 : decide ((bt (rdOf ByteArray.empty t107 x5_1) x6_2) < 97) = false := decide_eq_false c12
                        clear c12
                        by_cases c15 : (bt (rdOf ByteArray.empty t107 x5_1) x6_2) > 122
                        · rw [if_pos c15] at H
                          have c15b0 : decide (122 < (bt (rdOf ByteArray.empty t107 x5_1) x6_2)) = true := decide_eq_true c15
                          clear c15
                          by_cases c16 : (bt (rdOf ByteArray.empty t107 x5_1) x6_2) < 48
                          · rw [if_pos c16] at H
                            have c16b0 : decide ((bt (rdOf ByteArray.empty t107 x5_1) x6_2) < 48) = true := decide_eq_true c16
                            clear c16
                            obtain rfl := Option.some.inj H
                            have p112 : 0 ≤ (x5_1 : Int) := of_decide_eq_true (by first | (with_reducible assumption) | assumption)
                            have q112 : x5_1 < (t107.length : Int) := of_decide_eq_true (by first | (with_reducible assumption) | assumption)
                            obtain ⟨ad112, e112, hx112_0⟩ := Kd.at_string (Kd.R_reads' HO_3.out).2.2 x5_1 p112 q112
                            cases e112
                            replace p112 := eq_true p112
                            replace q112 := eq_true q112
                            have p113 : 0 ≤ (x5_1 : Int) := of_decide_eq_true (by first | (with_reducible assumption) | assumption)
                            have q113 : x5_1 < (t107.length : Int) := of_decide_eq_true (by first | (with_reducible assumption) | assumption)
                            obtain ⟨ad113, e113, hx113_0⟩ := Kd.at_string (Kd.R_reads' HO_3.out).2.2 x5_1 p113 q113
                            obtain rfl : ad112 = ad113 := (by injection e113)
                            replace p113 := eq_true p113
                            replace q113 := eq_true q113
                            have p10 : 0 ≤ (x6_2 : Int) := of_decide_eq_true (by first | (with_reducible assumption) | assumption)
                            have q10 : x6_2 < ((rdOf ByteArray.empty t107 x5_1).size : Int) := of_decide_eq_true (by first | (with_reducible assumption) | assumption)
                            have hx10 := bt_at (rdOf ByteArray.empty t107 x5_1) x6_2
                            replace p10 := eq_true p10
                            replace q10 := eq_true q10
                            go_wp2
                            go_ret
                            exact ⟨by first | rfl | (simp [errW_none, errW_some] <;> rfl) | (simp [*, errW_none, errW_some] <;> rfl), by repeat (first | (with_reducible first | exact HB.out | apply below_alloc | apply pw_below_drewN | apply below_drew1) | exact HB.out)⟩
                          · rw [if_neg c16] at H
                            have c16b0 : decide ((bt (rdOf ByteArray.empty t107 x5_1) x6_2) < 48) = false := decide_eq_false c16
                            clear c16
                            by_cases c17 : (bt (rdOf ByteArray.empty t107 x5_1) x6_2) > 57
                            · rw [if_pos c17] at H
                              have c17b0 : decide (57 < (bt (rdOf ByteArray.empty t107 x5_1) x6_2)) = true := decide_eq_true c17
                              clear c17
                              obtain rfl := Option.some.inj H
                              have p112 : 0 ≤ (x5_1 : Int) := of_decide_eq_true (by first | (with_reducible assumption) | assumption)
                              have q112 : x5_1 < (t107.length : Int) := of_decide_eq_true (by first | (with_reducible assumption) | assumption)
                              obtain ⟨ad112, e112, hx112_0⟩ := Kd.at_string (Kd.R_reads' HO_3.out).2.2 x5_1 p112 q112
                              cases e112
                              replace p112 := eq_true p112
                              replace q112 := eq_true q112
                              have p113 : 0 ≤ (x5_1 : Int) := of_decide_eq_true (by first | (with_reducible assumption) | assumption)
                              have q113 : x5_1 < (t107.length : Int) := of_decide_eq_true (by first | (with_reducible assumption) | assumption)
                              obtain ⟨ad113, e113, hx113_0⟩ := Kd.at_string (Kd.R_reads' HO_3.out).2.2 x5_1 p113 q113
                              obtain rfl : ad112 = ad113 := (by injection e113)
                              replace p113 := eq_true p113
                              replace q113 := eq_true q113
                              have p10 : 0 ≤ (x6_2 : Int) := of_decide_eq_true (by first | (with_reducible assumption) | assumption)
                              have q10 : x6_2 < ((rdOf ByteArray.empty t107 x5_1).size : Int) := of_decide_eq_true (by first | (with_reducible assumption) | assumption)
                              have hx10 := bt_at (rdOf ByteArray.empty t107 x5_1) x6_2
                              replace p10 := eq_true p10
                              replace q10 := eq_true q10
                              go_wp2
                              go_ret
                              exact ⟨by first | rfl | (simp [errW_none, errW_some] <;> rfl) | (simp [*, errW_none, errW_some] <;> rfl), by repeat (first | (with_reducible first | exact HB.out | apply below_alloc | apply pw_below_drewN | apply below_drew1) | exact HB.out)⟩
                            · rw [if_neg c17] at H
                              have c17b0 : decide (57 < (bt (rdOf ByteArray.empty t107 x5_1) x6_2)) = false := decide_eq_false c17
                              clear c17
                              have H' := Aside0.mk H
                              clear H
                              have p112 : 0 ≤ (x5_1 : Int) := of_decide_eq_true (by first | (with_reducible assumption) | assumption)
                              have q112 : x5_1 < (t107.length : Int) := of_decide_eq_true (by first | (with_reducible assumption) | assumption)
                              obtain ⟨ad112, e112, hx112_0⟩ := Kd.at_string (Kd.R_reads' HO_3.out).2.2 x5_1 p112 q112
                              cases e112
                              replace p112 := eq_true p112
                              replace q112 := eq_true q112
                              have p113 : 0 ≤ (x5_1 : Int) := of_decide_eq_true (by first | (with_reducible assumption) | assumption)
                              have q113 : x5_1 < (t107.length : Int) := of_decide_eq_true (by first | (with_reducible assumption) | assumption)
                              obtain ⟨ad113, e113, hx113_0⟩ := Kd.at_string (Kd.R_reads' HO_3.out).2.2 x5_1 p113 q113
                              obtain rfl : ad112 = ad113 := (by injection e113)
                              replace p113 := eq_true p113
                              replace q113 := eq_true q113
                              have p10 : 0 ≤ (x6_2 : Int) := of_decide_eq_true (by first | (with_reducible assumption) | assumption)
                              have q10 : x6_2 < ((rdOf ByteArray.empty t107 x5_1).size : Int) := of_decide_eq_true (by first | (with_reducible assumption) | assumption)
                              have hx10 := bt_at (rdOf ByteArray.empty t107 x5_1) x6_2
                              replace p10 := eq_true p10
                              replace q10 := eq_true q10
                              go_wp2
                              go_roundg k2
                              case measure => have := HK1.out; have := HK2.out; omega
                              case rel => exact ⟨(wrap64 (x6_2 + 1)), (by first | rfl | (simp; done) | (simp [*]; done)), H', ⟨by have := HK1.out; have := HK2.out; omega⟩, ⟨by (with_reducible repeat (first | apply Kd.R_alloc | apply Kd.R_drewN | apply Kd.R_drew)); exact HO_3.out⟩, ⟨by repeat (first | (with_reducible first | exact HB.out | apply below_alloc | apply pw_below_drewN | apply below_drew1) | exact HB.out)⟩⟩
                        · rw [if_neg c15] at H
                          have c15b0 : decide (122 < (bt (rdOf ByteArray.empty t107 x5_1) x6_2)) = false := decide_eq_false c15
                          clear c15
                          have H' := Aside0.mk H
                          clear H
                          have p112 : 0 ≤ (x5_1 : Int) := of_decide_eq_true (by first | (with_reducible assumption) | assumption)
                          have q112 : x5_1 < (t107.length : Int) := of_decide_eq_true (by first | (with_reducible assumption) | assumption)
                          obtain ⟨ad112, e112, hx112_0⟩ := Kd.at_string (Kd.R_reads' HO_3.out).2.2 x5_1 p112 q112
                          cases e112
                          replace p112 := eq_true p112
                          replace q112 := eq_true q112
                          have p113 : 0 ≤ (x5_1 : Int) := of_decide_eq_true (by first | (with_reducible assumption) | assumption)
                          have q113 : x5_1 < (t107.length : Int) := of_decide_eq_true (by first | (with_reducible assumption) | assumption)
                          obtain ⟨ad113, e113, hx113_0⟩ := Kd.at_string (Kd.R_reads' HO_3.out).2.2 x5_1 p113 q113
                          obtain rfl : ad112 = ad113 := (by injection e113)
                          replace p113 := eq_true p113
                          replace q113 := eq_true q113
                          have p10 : 0 ≤ (x6_2 : Int) := of_decide_eq_true (by first | (with_reducible assumption) | assumption)
                          have q10 : x6_2 < ((rdOf ByteArray.empty t107 x5_1).size : Int) := of_decide_eq_true (by first | (with_reducible assumption) | assumption)
                          have hx10 := bt_at (rdOf ByteArray.empty t107 x5_1) x6_2
                          replace p10 := eq_true p10
                          replace q10 := eq_true q10
                          go_wp2
                          go_roundg k2
                          case measure => have := HK1.out; have := HK2.out; omega
                          case rel => exact ⟨(wrap64 (x6_2 + 1)), (by first | rfl | (simp; done) | (simp [*]; done)), H', ⟨by have := HK1.out; have := HK2.out; omega⟩, ⟨by (with_reducible repeat (first | apply Kd.R_alloc | apply Kd.R_drewN | apply Kd.R_drew)); exact HO_3.out⟩, ⟨by repeat (first | (with_reducible first | exact HB.out | apply below_alloc | apply pw_below_drewN | apply below_drew1) | exact HB.out)⟩⟩
                  · rw [if_neg c9] at H
                    exact absurd H (by simp)
                · rw [if_neg c8] at H
                  have c8b0 : decide (x6_2 < ((rdOf ByteArray.empty t107 x5_1).size : Int)) = false := decide_eq_false c8
                  clear c8
                  by_cases c18 : (rdOf ByteArray.empty t107 x5_1).toList = ([] : List UInt8)
                  · rw [if_pos c18] at H
                    have c18b0 : ((rdOf ByteArray.empty t107 x5_1).toList == ([] : List UInt8)) = true := beq_iff_eq.mpr c18
                    have c18b1 : ((rdOf ByteArray.empty t107 x5_1).toList != ([] : List UInt8)) = false := bne_eq_false_iff_eq.mpr c18
                    clear c18
                    obtain rfl := Option.some.inj H
                    have p112 : 0 ≤ (x5_1 : Int) := of_decide_eq_true (by first | (with_reducible assumption) | assumption)
                    have q112 : x5_1 < (t107.length : Int) := of_decide_eq_true (by first | (with_reducible assumption) | assumption)
                    obtain ⟨ad112, e112, hx112_0⟩ := Kd.at_string (Kd.R_reads' HO_3.out).2.2 x5_1 p112 q112
                    cases e112
                    replace p112 := eq_true p112
                    replace q112 := eq_true q112
                    have p114 : 0 ≤ (x5_1 : Int) := of_decide_eq_true (by first | (with_reducible assumption) | assumption)
                    have q114 : x5_1 < (t107.length : Int) := of_decide_eq_true (by first | (with_reducible assumption) | assumption)
                    obtain ⟨ad114, e114, hx114_0⟩ := Kd.at_string (Kd.R_reads' HO_3.out).2.2 x5_1 p114 q114
                    obtain rfl : ad112 = ad114 := (by injection e114)
                    replace p114 := eq_true p114
                    replace q114 := eq_true q114
                    go_wp2
                    go_ret
                    exact ⟨by first | rfl | (simp [errW_none, errW_some] <;> rfl) | (simp [*, errW_none, errW_some] <;> rfl), by repeat (first | (with_reducible first | exact HB.out | apply below_alloc | apply pw_below_drewN | apply below_drew1) | exact HB.out)⟩
                  · rw [if_neg c18] at H
                    have c18b0 : ((rdOf ByteArray.empty t107 x5_1).toList == ([] : List UInt8)) = false := beq_eq_false_iff_ne.mpr c18
                    have c18b1 : ((rdOf ByteArray.empty t107 x5_1).toList != ([] : List UInt8)) = true := bne_iff_ne.mpr c18
                    by_cases c19 : x4_1 = true
                    · subst c19
                      have H1 : ((tollhouseref10_octet.f k2 (rdOf ByteArray.empty t107 x5_1)).bind fun t116 => (tollhouseref10_Named.l0 k2 a0 t107 t116 (wrap64 (x5_1 + 1)))) = some r := by rw [if_pos rfl] at H; exact H
                      clear H
                      have H := H1
                      clear H1
                      replace H := Option.bind_eq_some_iff.mp H
                      obtain ⟨t116, A200, H⟩ := H
                      replace H : (tollhouseref10_Named.l0 k2 a0 t107 t116 (wrap64 (x5_1 + 1))) = some r := H
                      have A20 := Aside0.mk A200
                      clear A200
                      have H' := Aside0.mk H
                      clear H
                      have p112 : 0 ≤ (x5_1 : Int) := of_decide_eq_true (by first | (with_reducible assumption) | assumption)
                      have q112 : x5_1 < (t107.length : Int) := of_decide_eq_true (by first | (with_reducible assumption) | assumption)
                      obtain ⟨ad112, e112, hx112_0⟩ := Kd.at_string (Kd.R_reads' HO_3.out).2.2 x5_1 p112 q112
                      cases e112
                      replace p112 := eq_true p112
                      replace q112 := eq_true q112
                      have p114 : 0 ≤ (x5_1 : Int) := of_decide_eq_true (by first | (with_reducible assumption) | assumption)
                      have q114 : x5_1 < (t107.length : Int) := of_decide_eq_true (by first | (with_reducible assumption) | assumption)
                      obtain ⟨ad114, e114, hx114_0⟩ := Kd.at_string (Kd.R_reads' HO_3.out).2.2 x5_1 p114 q114
                      obtain rfl : ad112 = ad114 := (by injection e114)
                      replace p114 := eq_true p114
                      replace q114 := eq_true q114
                      have p115 : 0 ≤ (x5_1 : Int) := of_decide_eq_true (by first | (with_reducible assumption) | assumption)
                      have q115 : x5_1 < (t107.length : Int) := of_decide_eq_true (by first | (with_reducible assumption) | assumption)
                      obtain ⟨ad115, e115, hx115_0⟩ := Kd.at_string (Kd.R_reads' HO_3.out).2.2 x5_1 p115 q115
                      obtain rfl : ad112 = ad115 := (by injection e115)
                      replace p115 := eq_true p115
                      replace q115 := eq_true q115
                      go_wp2_with (first | (go_at_call 82; (with_reducible refine (tollhouseref10_octet.calls k2 (rdOf ByteArray.empty t107 x5_1) t116 _ (Glob.below HGl.out (by repeat (first | (with_reducible first | exact HB.out | apply below_alloc | apply pw_below_drewN | apply below_drew1) | exact HB.out))) A20.out).mono ?_); rintro e w' ⟨rfl, ⟨nd, rfl⟩⟩))
                      go_roundg k2
                      case measure => have := HK1.out; have := HK2.out; omega
                      case rel => exact ⟨(t116), (wrap64 (x5_1 + 1)), (by first | rfl | (simp; done) | (simp [*]; done)), (by first | rfl | (simp; done) | (simp [*]; done)), H', ⟨by have := HK1.out; have := HK2.out; omega⟩, ⟨by (with_reducible repeat (first | apply Kd.R_alloc | apply Kd.R_drewN | apply Kd.R_drew)); exact HO_3.out⟩, ⟨by repeat (first | (with_reducible first | exact HB.out | apply below_alloc | apply pw_below_drewN | apply below_drew1) | exact HB.out)⟩⟩
                    · replace c19 := Bool.eq_false_iff.mpr c19
                      subst c19
                      have H1 : (tollhouseref10_Named.l0 k2 a0 t107 false (wrap64 (x5_1 + 1))) = some r := by rw [if_neg (show ¬ (false = true) by decide)] at H; exact H
                      clear H
                      have H := H1
                      clear H1
                      have H' := Aside0.mk H
                      clear H
                      have p112 : 0 ≤ (x5_1 : Int) := of_decide_eq_true (by first | (with_reducible assumption) | assumption)
                      have q112 : x5_1 < (t107.length : Int) := of_decide_eq_true (by first | (with_reducible assumption) | assumption)
                      obtain ⟨ad112, e112, hx112_0⟩ := Kd.at_string (Kd.R_reads' HO_3.out).2.2 x5_1 p112 q112
                      cases e112
                      replace p112 := eq_true p112
                      replace q112 := eq_true q112
                      have p114 : 0 ≤ (x5_1 : Int) := of_decide_eq_true (by first | (with_reducible assumption) | assumption)
                      have q114 : x5_1 < (t107.length : Int) := of_decide_eq_true (by first | (with_reducible assumption) | assumption)
                      obtain ⟨ad114, e114, hx114_0⟩ := Kd.at_string (Kd.R_reads' HO_3.out).2.2 x5_1 p114 q114
                      obtain rfl : ad112 = ad114 := (by injection e114)
                      replace p114 := eq_true p114
                      replace q114 := eq_true q114
                      go_wp2
                      go_roundg k2
                      case measure => have := HK1.out; have := HK2.out; omega
                      case rel => exact ⟨(false), (wrap64 (x5_1 + 1)), (by first | rfl | (simp; done) | (simp [*]; done)), (by first | rfl | (simp; done) | (simp [*]; done)), H', ⟨by have := HK1.out; have := HK2.out; omega⟩, ⟨by (with_reducible repeat (first | apply Kd.R_alloc | apply Kd.R_drewN | apply Kd.R_drew)); exact HO_3.out⟩, ⟨by repeat (first | (with_reducible first | exact HB.out | apply below_alloc | apply pw_below_drewN | apply below_drew1) | exact HB.out)⟩⟩
              · rw [if_neg c7] at H
                exact absurd H (by simp)
            · rw [if_neg c6] at H
              exact absurd H (by simp)
      · rw [if_neg c4] at H
        have c4b0 : decide (x5_1 < (t107.length : Int)) = false := decide_eq_false c4
        clear c4
        obtain ⟨ji21, hji21⟩ : ∃ j_ : Int, (wrap64 ((t107.length : Int) - 1)) = j_ := ⟨_, rfl⟩
        replace H : (if 0 ≤ (ji21) then (if (ji21) < (t107.length : Int) then ((tollhouseref10_number.f k1 (rdOf ByteArray.empty t107 (ji21))).bind fun t111 => (if t111 = true then (if (t107.length : Int) = 4 then (if x4_1 = true then (some (decide ((a0.size : Int) ≤ 64))) else (some false)) else (some false)) else (some (decide ((a0.size : Int) ≤ 64))))) else (none)) else (none)) = some r := by first | (rw [hji21] at H; exact H) | (simp only [hji21] at H ⊢; exact H)
        have hji21w : (IntKind.i64.wrap ((t107.length : Int) - 1)) = ji21 := (i64_w _).trans hji21
        by_cases c22 : 0 ≤ (ji21)
        · rw [if_pos c22] at H
          have c22b0 : decide (0 ≤ (ji21)) = true := decide_eq_true c22
          clear c22
          by_cases c23 : (ji21) < (t107.length : Int)
          · rw [if_pos c23] at H
            have c23b0 : decide ((ji21) < (t107.length : Int)) = true := decide_eq_true c23
            clear c23
            replace H := Option.bind_eq_some_iff.mp H
            obtain ⟨t111, A240, H⟩ := H
            replace H : (if t111 = true then (if (t107.length : Int) = 4 then (if x4_1 = true then (some (decide ((a0.size : Int) ≤ 64))) else (some false)) else (some false)) else (some (decide ((a0.size : Int) ≤ 64)))) = some r := H
            have A24 := Aside0.mk A240
            clear A240
            by_cases c25 : t111 = true
            · subst c25
              have H1 : (if (t107.length : Int) = 4 then (if x4_1 = true then (some (decide ((a0.size : Int) ≤ 64))) else (some false)) else (some false)) = some r := by rw [if_pos rfl] at H; exact H
              clear H
              have H := H1
              clear H1
              by_cases c26 : (t107.length : Int) = 4
              · rw [if_pos c26] at H
                have c26b0 : ((t107.length : Int) == 4) = true := beq_iff_eq.mpr c26
                have c26b1 : ((t107.length : Int) != 4) = false := bne_eq_false_iff_eq.mpr c26
                clear c26
                by_cases c27 : x4_1 = true
                · subst c27
                  have H1 : (some (decide ((a0.size : Int) ≤ 64))) = some r := by rw [if_pos rfl] at H; exact H
                  clear H
                  have H := H1
                  clear H1
                  obtain rfl := Option.some.inj H
                  obtain ⟨Ao28, co28, eo28⟩ := Kd.R_slice HO_3.out
                  subst eo28
                  have p110 : 0 ≤ ((ji21) : Int) := of_decide_eq_true (by first | (with_reducible assumption) | assumption)
                  have q110 : (ji21) < (t107.length : Int) := of_decide_eq_true (by first | (with_reducible assumption) | assumption)
                  obtain ⟨ad110, e110, hx110_0⟩ := Kd.at_string (Kd.R_reads' HO_3.out).2.2 (ji21) p110 q110
                  cases e110
                  replace p110 := eq_true p110
                  replace q110 := eq_true q110
                  go_wp2_with (first | ((with_reducible refine gate_callee (f := 83) rfl ?_); refine goesL_ (some 68) rfl rfl Tryz.func83 (by kernel_rfl) rfl #[.string (rdOf ByteArray.empty t107 (ji21))] rfl (by (try simp only [List.map_toArray, List.map_cons, List.map_nil]); first | done | (simp only [hji21]; rfl) | rfl | (simp only [List.length_drop, List.length_take]; rfl)) ?_; (with_reducible refine (tollhouseref10_number.calls k1 (rdOf ByteArray.empty t107 (ji21)) true _ (Glob.below HGl.out (by repeat (first | (with_reducible first | exact HB.out | apply below_alloc | apply pw_below_drewN | apply below_drew1) | exact HB.out))) A24.out).mono ?_); rintro e w' ⟨rfl, ⟨nd, rfl⟩⟩; refine ⟨_, rfl, ?_⟩))
                  go_ret
                  exact ⟨by first | rfl | (simp [errW_none, errW_some] <;> rfl) | (simp only [← hji21]; first | rfl | (simp [errW_none, errW_some] <;> rfl)) | (simp [*, errW_none, errW_some] <;> rfl), by repeat (first | (with_reducible first | exact HB.out | apply below_alloc | apply pw_below_drewN | apply below_drew1) | exact HB.out)⟩
                · replace c27 := Bool.eq_false_iff.mpr c27
                  subst c27
                  have H1 : (some false) = some r := by rw [if_neg (show ¬ (false = true) by decide)] at H; exact H
                  clear H
                  have H := H1
                  clear H1
                  obtain rfl := Option.some.inj H
                  obtain ⟨Ao29, co29, eo29⟩ := Kd.R_slice HO_3.out
                  subst eo29
                  have p110 : 0 ≤ ((ji21) : Int) := of_decide_eq_true (by first | (with_reducible assumption) | assumption)
                  have q110 : (ji21) < (t107.length : Int) := of_decide_eq_true (by first | (with_reducible assumption) | assumption)
                  obtain ⟨ad110, e110, hx110_0⟩ := Kd.at_string (Kd.R_reads' HO_3.out).2.2 (ji21) p110 q110
                  cases e110
                  replace p110 := eq_true p110
                  replace q110 := eq_true q110
                  go_wp2_with (first | ((with_reducible refine gate_callee (f := 83) rfl ?_); refine goesL_ (some 68) rfl rfl Tryz.func83 (by kernel_rfl) rfl #[.string (rdOf ByteArray.empty t107 (ji21))] rfl (by (try simp only [List.map_toArray, List.map_cons, List.map_nil]); first | done | (simp only [hji21]; rfl) | rfl | (simp only [List.length_drop, List.length_take]; rfl)) ?_; (with_reducible refine (tollhouseref10_number.calls k1 (rdOf ByteArray.empty t107 (ji21)) true _ (Glob.below HGl.out (by repeat (first | (with_reducible first | exact HB.out | apply below_alloc | apply pw_below_drewN | apply below_drew1) | exact HB.out))) A24.out).mono ?_); rintro e w' ⟨rfl, ⟨nd, rfl⟩⟩; refine ⟨_, rfl, ?_⟩))
                  go_ret
                  exact ⟨by first | rfl | (simp [errW_none, errW_some] <;> rfl) | (simp only [← hji21]; first | rfl | (simp [errW_none, errW_some] <;> rfl)) | (simp [*, errW_none, errW_some] <;> rfl), by repeat (first | (with_reducible first | exact HB.out | apply below_alloc | apply pw_below_drewN | apply below_drew1) | exact HB.out)⟩
              · rw [if_neg c26] at H
                have c26b0 : ((t107.length : Int) == 4) = false := beq_eq_false_iff_ne.mpr c26
                have c26b1 : ((t107.length : Int) != 4) = true := bne_iff_ne.mpr c26
                obtain rfl := Option.some.inj H
                obtain ⟨Ao30, co30, eo30⟩ := Kd.R_slice HO_3.out
                subst eo30
                have p110 : 0 ≤ ((ji21) : Int) := of_decide_eq_true (by first | (with_reducible assumption) | assumption)
                have q110 : (ji21) < (t107.length : Int) := of_decide_eq_true (by first | (with_reducible assumption) | assumption)
                obtain ⟨ad110, e110, hx110_0⟩ := Kd.at_string (Kd.R_reads' HO_3.out).2.2 (ji21) p110 q110
                cases e110
                replace p110 := eq_true p110
                replace q110 := eq_true q110
                go_wp2_with (first | ((with_reducible refine gate_callee (f := 83) rfl ?_); refine goesL_ (some 68) rfl rfl Tryz.func83 (by kernel_rfl) rfl #[.string (rdOf ByteArray.empty t107 (ji21))] rfl (by (try simp only [List.map_toArray, List.map_cons, List.map_nil]); first | done | (simp only [hji21]; rfl) | rfl | (simp only [List.length_drop, List.length_take]; rfl)) ?_; (with_reducible refine (tollhouseref10_number.calls k1 (rdOf ByteArray.empty t107 (ji21)) true _ (Glob.below HGl.out (by repeat (first | (with_reducible first | exact HB.out | apply below_alloc | apply pw_below_drewN | apply below_drew1) | exact HB.out))) A24.out).mono ?_); rintro e w' ⟨rfl, ⟨nd, rfl⟩⟩; refine ⟨_, rfl, ?_⟩))
                go_ret
                exact ⟨by first | rfl | (simp [errW_none, errW_some] <;> rfl) | (simp only [← hji21]; first | rfl | (simp [errW_none, errW_some] <;> rfl)) | (simp [*, errW_none, errW_some] <;> rfl), by repeat (first | (with_reducible first | exact HB.out | apply below_alloc | apply pw_below_drewN | apply below_drew1) | exact HB.out)⟩
            · replace c25 := Bool.eq_false_iff.mpr c25
              subst c25
              have H1 : (some (decide ((a0.size : Int) ≤ 64))) = some r := by rw [if_neg (show ¬ (false = true) by decide)] at H; exact H
              clear H
              have H := H1
              clear H1
              obtain rfl := Option.some.inj H
              obtain ⟨Ao31, co31, eo31⟩ := Kd.R_slice HO_3.out
              subst eo31
              have p110 : 0 ≤ ((ji21) : Int) := of_decide_eq_true (by first | (with_reducible assumption) | assumption)
              have q110 : (ji21) < (t107.length : Int) := of_decide_eq_true (by first | (with_reducible assumption) | assumption)
              obtain ⟨ad110, e110, hx110_0⟩ := Kd.at_string (Kd.R_reads' HO_3.out).2.2 (ji21) p110 q110
              cases e110
              replace p110 := eq_true p110
              replace q110 := eq_true q110
              go_wp2_with (first | ((with_reducible refine gate_callee (f := 83) rfl ?_); refine goesL_ (some 68) rfl rfl Tryz.func83 (by kernel_rfl) rfl #[.string (rdOf ByteArray.empty t107 (ji21))] rfl (by (try simp only [List.map_toArray, List.map_cons, List.map_nil]); first | done | (simp only [hji21]; rfl) | rfl | (simp only [List.length_drop, List.length_take]; rfl)) ?_; (with_reducible refine (tollhouseref10_number.calls k1 (rdOf ByteArray.empty t107 (ji21)) false _ (Glob.below HGl.out (by repeat (first | (with_reducible first | exact HB.out | apply below_alloc | apply pw_below_drewN | apply below_drew1) | exact HB.out))) A24.out).mono ?_); rintro e w' ⟨rfl, ⟨nd, rfl⟩⟩; refine ⟨_, rfl, ?_⟩))
              go_ret
              exact ⟨by first | rfl | (simp [errW_none, errW_some] <;> rfl) | (simp only [← hji21]; first | rfl | (simp [errW_none, errW_some] <;> rfl)) | (simp [*, errW_none, errW_some] <;> rfl), by repeat (first | (with_reducible first | exact HB.out | apply below_alloc | apply pw_below_drewN | apply below_drew1) | exact HB.out)⟩
          · rw [if_neg c23] at H
            exact absurd H (by simp)
        · rw [if_neg c22] at H
          exact absurd H (by simp)

end Go.Proofs.YthmnhbalmglohaaGreatDoor.X

/- tollhouseref10.Named tells what uri.Named tells: the plain law. -/
namespace Go.Proofs.YthmnhbalmglohaaGreatDoor.X
open Go.RowKit Go.Proofs.YthmnhbalmglohaaGreatDoorW.PrintWords Go.Proofs.YthmnhbalmglohaaGreatDoor.T
set_option linter.unusedSimpArgs false
set_option linter.unusedVariables false
/-! ### labels -/
theorem labels_go (s : ByteArray) (hs : s.size ≤ 4294967296) : ∀ (d i a : Nat) (acc : List ByteArray), s.size - i = d → a ≤ i → i ≤ s.size → (∀ j, a ≤ j → j < i → s.data.toList[j]? ≠ some 46) → acc.length ≤ i →
    Ev (fun k => tollhouseref10_labels.l0 k s acc (a : Int) (i : Int)) (acc ++ labelsB (s.extract a s.size))
  | 0, i, a, acc, hd, ha, hi, hno, hl => by
    obtain rfl : i = s.size := by omega
    refine Ev.step (g := fun k => tollhouseref10_labels.l0 k s (acc ++ [s.extract a s.size]) ((s.size + 1 : Nat) : Int) ((s.size + 1 : Nat) : Int)) (fun k => ?_) (Ev.done fun k => ?_)
    · simp only [tollhouseref10_labels.l0]
      rw [if_pos (by omega), if_pos trivial, if_pos (by omega), if_pos (by omega), if_pos (by omega), wrap_succ (by omega)]
      simp
    · simp only [tollhouseref10_labels.l0]
      rw [if_neg (by omega), labels_no]
      intro k hk
      have hlt : k < (s.extract a s.size).size := by
        have := (List.getElem?_eq_some_iff.1 hk).1
        rw [size_toList] at this; exact this
      rw [ByteArray.size_extract] at hlt
      rw [Lib.extract_to_end, List.getElem?_drop] at hk
      exact hno (a + k) (by omega) (by omega) hk
  | d + 1, i, a, acc, hd, ha, hi, hno, hl => by
    have hlt : i < s.size := by omega
    by_cases h46 : s.data.toList[i]? = some 46
    · have hb : bt s (i : Int) = 46 := (bt_is hlt 46).2 h46
      have ih := labels_go s hs d (i + 1) (i + 1) (acc ++ [s.extract a i]) (by omega) (by omega) (by omega) (fun j h1 h2 => by omega) (by simp; omega)
      have hhit : labelsB (s.extract a s.size) = s.extract a i :: labelsB (s.extract (i + 1) s.size) := by
        rw [labels_hit (s.extract a s.size) (i - a)]
        · have e1 : (s.extract a s.size).extract 0 (i - a) = s.extract a i := by
            rw [ByteArray.extract_extract]; congr 1 <;> omega
          have e2 : (s.extract a s.size).extract (i - a + 1) (s.extract a s.size).size = s.extract (i + 1) s.size := by
            rw [ByteArray.extract_extract, ByteArray.size_extract]; congr 1 <;> omega
          rw [e1, e2]
        · rw [Lib.extract_to_end, List.getElem?_drop]
          have : a + (i - a) = i := by omega
          rw [this]; exact h46
        · intro k hk hk2
          rw [Lib.extract_to_end, List.getElem?_drop] at hk2
          exact hno (a + k) (by omega) (by omega) hk2
      rw [hhit]
      refine Ev.step (g := fun k => tollhouseref10_labels.l0 k s (acc ++ [s.extract a i]) ((i + 1 : Nat) : Int) ((i + 1 : Nat) : Int)) (fun k => ?_) ?_
      · simp only [tollhouseref10_labels.l0]
        rw [if_pos (by omega), if_neg (by omega), if_pos (by omega), if_pos (by omega), if_pos hb, if_pos (by omega), if_pos (by omega), if_pos (by omega), wrap_succ (by omega)]
        simp
      · simpa using ih
    · have hb : ¬ bt s (i : Int) = 46 := fun e => h46 ((bt_is hlt 46).1 e)
      have ih := labels_go s hs d (i + 1) a acc (by omega) (by omega) (by omega) (fun j h1 h2 => by
        by_cases e : j = i
        · subst e; exact h46
        · exact hno j h1 (by omega)) (by omega)
      refine Ev.step (g := fun k => tollhouseref10_labels.l0 k s acc (a : Int) ((i + 1 : Nat) : Int)) (fun k => ?_) ih
      simp only [tollhouseref10_labels.l0]
      rw [if_pos (by omega), if_neg (by omega), if_pos (by omega), if_pos (by omega), if_neg hb, wrap_succ (by omega)]
theorem labels_ev (s : ByteArray) (hs : s.size ≤ 4294967296) : Ev (fun k => tollhouseref10_labels.f k s) (labelsB s) := by
  have := labels_go s hs (s.size - 0) 0 0 [] rfl (Nat.le_refl _) (Nat.zero_le _) (fun j h1 h2 => by omega) (Nat.le_refl _)
  rw [extract_all] at this
  simpa [tollhouseref10_labels.f] using this
/-! ### octets -/
def octS : List UInt8 → Bool
  | [a] => isDig a
  | [a, b] => isDig a && (isDig b && a != 48)
  | [a, b, c] => isDig a && (isDig b && (isDig c && (a != 48 && decide (100 * (a.toNat - 48) + 10 * (b.toNat - 48) + (c.toNat - 48) ≤ 255))))
  | _ => false
theorem oct_one : ∀ x : Fin 10, [UInt8.ofNat (48 + x.val)] = Lib.decDigits x.val := by decide +kernel
theorem oct_two : ∀ x y : Fin 10, x.val ≠ 0 → [UInt8.ofNat (48 + x.val), UInt8.ofNat (48 + y.val)] = Lib.decDigits (10 * x.val + y.val) := by decide +kernel
theorem oct_three : ∀ x y z : Fin 10, x.val ≠ 0 → 100 * x.val + 10 * y.val + z.val ≤ 255 → [UInt8.ofNat (48 + x.val), UInt8.ofNat (48 + y.val), UInt8.ofNat (48 + z.val)] = Lib.decDigits (100 * x.val + 10 * y.val + z.val) := by decide +kernel
theorem oct_all : ∀ n : Fin 256, octS (Lib.decDigits n.val) = true ∧ Lib.parseUintB 8 (Lib.decDigits n.val) = .ok n.val := by decide +kernel
theorem dig_of {c : UInt8} (h : isDig c = true) : ∃ x : Fin 10, c = UInt8.ofNat (48 + x.val) ∧ c.toNat = 48 + x.val := by
  obtain ⟨h1, h2⟩ := (isDig_iff c).1 h
  refine ⟨⟨c.toNat - 48, by omega⟩, ?_, by simp; omega⟩
  have : 48 + (c.toNat - 48) = c.toNat := by omega
  show c = UInt8.ofNat (48 + (c.toNat - 48))
  rw [this, UInt8.ofNat_toNat]
theorem octS_num : ∀ l : List UInt8, octS l = true → ∃ n, n ≤ 255 ∧ l = Lib.decDigits n
  | [a], h => by
    obtain ⟨x, rfl, _⟩ := dig_of (show isDig a = true from h)
    exact ⟨x.val, by have := x.2; omega, oct_one x⟩
  | [a, b], h => by
    simp only [octS, Bool.and_eq_true, bne_iff_ne] at h
    obtain ⟨x, rfl, hx⟩ := dig_of h.1
    obtain ⟨y, rfl, _⟩ := dig_of h.2.1
    refine ⟨10 * x.val + y.val, by have := x.2; have := y.2; omega, oct_two x y (fun e => h.2.2 ?_)⟩
    rw [e]; rfl
  | [a, b, c], h => by
    simp only [octS, Bool.and_eq_true, bne_iff_ne, decide_eq_true_eq] at h
    obtain ⟨x, hxa, hx⟩ := dig_of h.1
    obtain ⟨y, hya, hy⟩ := dig_of h.2.1
    obtain ⟨z, hza, hz⟩ := dig_of h.2.2.1
    have hle := h.2.2.2.2
    have hne := h.2.2.2.1
    rw [hx, hy, hz] at hle
    refine ⟨100 * x.val + 10 * y.val + z.val, by omega, ?_⟩
    rw [hxa, hya, hza]
    exact oct_three x y z (fun e => hne (by rw [hxa, e]; rfl)) (by omega)
  | [], h => by cases h
  | _ :: _ :: _ :: _ :: _, h => by cases h
theorem octB_S (s : ByteArray) : octB s = octS s.data.toList := by
  rw [Bool.eq_iff_iff]
  constructor
  · intro h
    unfold octB at h
    split at h
    · rename_i n hn
      have hle := Lib.parseUintB_le hn
      have e : s.data.toList = Lib.decDigits n := by simpa using h
      rw [e]
      exact (oct_all ⟨n, by omega⟩).1
    · cases h
  · intro h
    obtain ⟨n, hn, e⟩ := octS_num _ h
    unfold octB
    rw [e, (oct_all ⟨n, by omega⟩).2]
    simp
theorem octet_step (s : ByteArray) (i n : Nat) (c : UInt8) (hc : s.data.toList[i]? = some c) (hs : s.size ≤ 4294967296) (hn : n ≤ 1000000) :
    (isDig c = false → Ev (fun k => tollhouseref10_octet.l0 k s (n : Int) (i : Int)) false) ∧ (3 ≤ i → Ev (fun k => tollhouseref10_octet.l0 k s (n : Int) (i : Int)) false) ∧
    (isDig c = true → i < 3 → ∀ r, Ev (fun k => tollhouseref10_octet.l0 k s ((10 * n + (c.toNat - 48) : Nat) : Int) ((i + 1 : Nat) : Int)) r → Ev (fun k => tollhouseref10_octet.l0 k s (n : Int) (i : Int)) r) := by
  have hlt : i < s.size := by
    have := (List.getElem?_eq_some_iff.1 hc).1
    rw [size_toList] at this; exact this
  have hb : bt s (i : Int) = (c.toNat : Int) := (bt_is hlt c).2 hc
  have hd := isDig_iff c
  refine ⟨fun hd0 => Ev.done fun k => ?_, fun h3 => Ev.done fun k => ?_, fun hd1 h3 r hr => Ev.step (fun k => ?_) hr⟩
  · simp only [tollhouseref10_octet.l0]
    rw [if_pos (by omega), if_pos (by omega), hb]
    rw [hd0] at hd
    by_cases h1 : (c.toNat : Int) < 48
    · rw [if_pos h1]
    · rw [if_neg h1, if_pos]
      rcases Nat.lt_or_ge 57 c.toNat with h2 | h2
      · omega
      · exact absurd (hd.2 ⟨by omega, h2⟩) (by decide)
  · simp only [tollhouseref10_octet.l0]
    rw [if_pos (by omega), if_pos (by omega), hb]
    by_cases h1 : (c.toNat : Int) < 48
    · rw [if_pos h1]
    · rw [if_neg h1]
      by_cases h2 : (c.toNat : Int) > 57
      · rw [if_pos h2]
      · rw [if_neg h2, if_pos (by omega)]
  · obtain ⟨h1, h2⟩ := hd.1 hd1
    simp only [tollhouseref10_octet.l0]
    rw [if_pos (by omega), if_pos (by omega), hb, if_neg (by omega), if_neg (by omega), if_neg (by omega), wrap_succ (by omega)]
    have e : wrap64 (wrap64 (10 * (n : Int)) + ((c.toNat : Int) - 48) % 256) = ((10 * n + (c.toNat - 48) : Nat) : Int) := by unfold wrap64; omega
    rw [e]
theorem octet_end (s : ByteArray) (n : Nat) (hs : s.size ≤ 4294967296) : Ev (fun k => tollhouseref10_octet.l0 k s (n : Int) (s.size : Int)) (decide (0 < s.size) && (decide (n ≤ 255) && (s.data.toList.head? != some 48 || decide (s.size = 1)))) := by
  refine Ev.done fun k => ?_
  simp only [tollhouseref10_octet.l0]
  rw [if_neg (by omega)]
  by_cases h0 : 0 < s.size
  · rw [if_pos (by omega), decide_eq_true h0]
    by_cases h1 : n ≤ 255
    · rw [if_pos (by omega), if_pos (by omega), decide_eq_true h1]
      have hh : s.data.toList.head? = s.data.toList[0]? := by cases s.data.toList <;> rfl
      have hb : bt s 0 = 48 ↔ s.data.toList[0]? = some 48 := bt_is h0 48
      rw [hh]
      by_cases h2 : s.data.toList[0]? = some 48
      · rw [if_pos (hb.2 h2), h2]
        simp
        by_cases h3 : s.size = 1 <;> simp [h3]
        omega
      · rw [if_neg (fun e => h2 (hb.1 e))]
        have : (s.data.toList[0]? != some 48) = true := by simpa using h2
        rw [this]; rfl
    · rw [if_neg (by omega), decide_eq_false h1]; rfl
  · rw [if_neg (by omega), decide_eq_false h0]; rfl
theorem octet_ev (s : ByteArray) (hs : s.size ≤ 4294967296) : Ev (fun k => tollhouseref10_octet.f k s) (octB s) := by
  have hz := size_toList s
  have he := octet_end s
  rw [octB_S]
  show Ev (fun k => tollhouseref10_octet.l0 k s ((0 : Nat) : Int) ((0 : Nat) : Int)) (octS s.data.toList)
  generalize hl : s.data.toList = l at hz he
  match l with
  | [] =>
    have h0 := he 0 hs
    have hs0 : s.size = 0 := hz.symm
    rw [hs0] at h0
    exact h0
  | a :: t =>
    have s0 := octet_step s 0 0 a (by rw [hl]; rfl) hs (by omega)
    cases ha : isDig a with
    | false =>
      have e : octS (a :: t) = false := by
        match t with
        | [] => exact ha
        | [b] => simp [octS, ha]
        | [b, c] => simp [octS, ha]
        | _ :: _ :: _ :: _ => rfl
      rw [e]; exact s0.1 ha
    | true =>
      refine s0.2.2 ha (by omega) _ ?_
      have da := (isDig_iff a).1 ha
      match t with
      | [] =>
        have h0 := he (10 * 0 + (a.toNat - 48)) hs
        have hs0 : s.size = 1 := hz.symm
        rw [hs0] at h0
        have e : octS [a] = (decide (0 < 1) && (decide (10 * 0 + (a.toNat - 48) ≤ 255) && (([a] : List UInt8).head? != some 48 || decide (1 = 1)))) := by
          rw [decide_eq_true (by omega : 10 * 0 + (a.toNat - 48) ≤ 255)]; simp [octS, ha]
        rw [e]; exact h0
      | b :: t =>
        have s1 := octet_step s 1 (10 * 0 + (a.toNat - 48)) b (by rw [hl]; rfl) hs (by omega)
        cases hb : isDig b with
        | false =>
          have e : octS (a :: b :: t) = false := by
            match t with
            | [] => simp [octS, hb]
            | [c] => simp [octS, hb]
            | _ :: _ :: _ => rfl
          rw [e]; exact s1.1 hb
        | true =>
          refine s1.2.2 hb (by omega) _ ?_
          have db := (isDig_iff b).1 hb
          match t with
          | [] =>
            have h0 := he (10 * (10 * 0 + (a.toNat - 48)) + (b.toNat - 48)) hs
            have hs0 : s.size = 2 := hz.symm
            rw [hs0] at h0
            have e : octS [a, b] = (decide (0 < 2) && (decide (10 * (10 * 0 + (a.toNat - 48)) + (b.toNat - 48) ≤ 255) && (([a, b] : List UInt8).head? != some 48 || decide (2 = 1)))) := by
              rw [decide_eq_true (by omega : 10 * (10 * 0 + (a.toNat - 48)) + (b.toNat - 48) ≤ 255)]; simp [octS, ha, hb, bne]
            rw [e]; exact h0
          | c :: t =>
            have s2 := octet_step s 2 (10 * (10 * 0 + (a.toNat - 48)) + (b.toNat - 48)) c (by rw [hl]; rfl) hs (by omega)
            cases hc : isDig c with
            | false =>
              have e : octS (a :: b :: c :: t) = false := by
                match t with
                | [] => simp [octS, hc]
                | _ :: _ => rfl
              rw [e]; exact s2.1 hc
            | true =>
              refine s2.2.2 hc (by omega) _ ?_
              have dc := (isDig_iff c).1 hc
              match t with
              | [] =>
                have h0 := he (10 * (10 * (10 * 0 + (a.toNat - 48)) + (b.toNat - 48)) + (c.toNat - 48)) hs
                have hs0 : s.size = 3 := hz.symm
                rw [hs0] at h0
                have e : octS [a, b, c] = (decide (0 < 3) && (decide (10 * (10 * (10 * 0 + (a.toNat - 48)) + (b.toNat - 48)) + (c.toNat - 48) ≤ 255) && (([a, b, c] : List UInt8).head? != some 48 || decide (3 = 1)))) := by
                  have e1 : 10 * (10 * (10 * 0 + (a.toNat - 48)) + (b.toNat - 48)) + (c.toNat - 48) = 100 * (a.toNat - 48) + 10 * (b.toNat - 48) + (c.toNat - 48) := by omega
                  rw [e1]
                  simp only [octS, ha, hb, hc]
                  cases h48 : (a != 48) <;> simp_all [bne]
                rw [e]; exact h0
              | d :: t =>
                have s3 := octet_step s 3 (10 * (10 * (10 * 0 + (a.toNat - 48)) + (b.toNat - 48)) + (c.toNat - 48)) d (by rw [hl]; rfl) hs (by omega)
                exact s3.2.1 (by omega)
/-! ### numbers -/
def isLowHex (c : UInt8) : Bool := isDig c || (97 ≤ c && c ≤ 102)
theorem lowHex_iff (c : UInt8) : isLowHex c = true ↔ ((48 ≤ c.toNat ∧ c.toNat ≤ 57) ∨ (97 ≤ c.toNat ∧ c.toNat ≤ 102)) := by
  have h : ∀ n : Fin 256, isLowHex (UInt8.ofNat n.val) = true ↔ ((48 ≤ (UInt8.ofNat n.val).toNat ∧ (UInt8.ofNat n.val).toNat ≤ 57) ∨ (97 ≤ (UInt8.ofNat n.val).toNat ∧ (UInt8.ofNat n.val).toNat ≤ 102)) := by decide +kernel
  have := h ⟨c.toNat, c.toNat_lt⟩
  simpa using this
theorem number_go (s : ByteArray) (hs : s.size ≤ 4294967296) (from2 : Bool) : ∀ (d i : Nat), s.size - i = d → i ≤ s.size →
    Ev (fun k => tollhouseref10_number.l0 k s (if from2 then 2 else 0) (i : Int)) ((s.data.toList.drop i).all fun c => if from2 then isLowHex c else isDig c)
  | 0, i, hd, hi => by
    obtain rfl : i = s.size := by omega
    rw [drop_end (Nat.le_refl _)]
    refine Ev.done fun k => ?_
    simp only [tollhouseref10_number.l0]
    rw [if_neg (by omega)]; rfl
  | d + 1, i, hd, hi => by
    have hlt : i < s.size := by omega
    have ih := number_go s hs from2 d (i + 1) (by omega) (by omega)
    rw [drop_at hlt, List.all_cons]
    have hb : bt s (i : Int) = ((s[i]'hlt).toNat : Int) := btAt hlt
    have h1 := isDig_iff (s[i]'hlt)
    have h2 := lowHex_iff (s[i]'hlt)
    generalize (s[i]'hlt) = c at hb h1 h2 ⊢
    generalize ((s.data.toList.drop (i + 1)).all fun c => if from2 = true then isLowHex c else isDig c) = r at ih ⊢
    cases from2 with
    | false =>
      simp only [Bool.false_eq_true, if_false] at ih ⊢
      cases hc : isDig c with
      | true =>
        obtain ⟨g1, g2⟩ := h1.1 hc
        refine Ev.step (fun k => ?_) ih
        simp only [tollhouseref10_number.l0]
        rw [if_pos (by omega), if_pos (by omega), hb, if_pos (by omega), if_pos (by omega), wrap_succ (by omega)]
      | false =>
        refine Ev.done fun k => ?_
        simp only [tollhouseref10_number.l0]
        rw [if_pos (by omega), if_pos (by omega), hb, if_pos trivial]
        rw [hc] at h1
        by_cases g1 : (c.toNat : Int) ≥ 48
        · rw [if_pos g1, if_neg (fun g2 => by have := h1.2 ⟨by omega, by omega⟩; cases this)]; rfl
        · rw [if_neg g1]; rfl
    | true =>
      simp only [if_true] at ih ⊢
      cases hc : isLowHex c with
      | true =>
        refine Ev.step (fun k => ?_) ih
        simp only [tollhouseref10_number.l0]
        rw [if_pos (by omega), if_pos (by omega), hb, wrap_succ (by omega)]
        rcases h2.1 hc with ⟨g1, g2⟩ | ⟨g1, g2⟩
        · rw [if_pos (by omega), if_pos (by omega)]
        · rw [if_pos (by omega), if_neg (by omega), if_neg (by decide), if_neg (by omega), if_neg (by omega)]
      | false =>
        refine Ev.done fun k => ?_
        simp only [tollhouseref10_number.l0]
        rw [if_pos (by omega), if_pos (by omega), hb]
        rw [hc] at h2
        have n1 : ¬ ((48 ≤ c.toNat ∧ c.toNat ≤ 57) ∨ (97 ≤ c.toNat ∧ c.toNat ≤ 102)) := fun e => by have := h2.2 e; cases this
        have e1 : (if (c.toNat : Int) < 97 then some false else if (c.toNat : Int) > 102 then some false else tollhouseref10_number.l0 k s 2 (wrap64 ((i : Int) + 1))) = some false := by
          by_cases g3 : (c.toNat : Int) < 97
          · rw [if_pos g3]
          · rw [if_neg g3, if_pos (by omega)]
        by_cases g1 : (c.toNat : Int) ≥ 48
        · rw [if_pos g1, if_neg (by omega), if_neg (by decide), e1]; rfl
        · rw [if_neg g1, if_neg (by decide), e1]; rfl
def numberS (l : List UInt8) : Bool := if Lib.hasPrefix l [48, 120] then (l.drop 2).all isLowHex else l.all isDig
theorem prefix_two (l : List UInt8) (a b : UInt8) (h : 2 ≤ l.length) : (l.take 2 == [a, b]) = Lib.hasPrefix l [a, b] := by
  match l, h with
  | x :: y :: t, _ =>
    show ([x, y] == [a, b]) = ((a == x) && ((b == y) && true))
    rw [Bool.eq_iff_iff]
    simp only [beq_iff_eq, List.cons.injEq, and_true, Bool.and_eq_true, Bool.and_true]
    constructor
    · rintro ⟨rfl, rfl⟩; exact ⟨rfl, rfl⟩
    · rintro ⟨rfl, rfl⟩; exact ⟨rfl, rfl⟩
theorem prefix_short (l : List UInt8) (a b : UInt8) (h : l.length < 2) : Lib.hasPrefix l [a, b] = false := by
  match l, h with
  | [], _ => rfl
  | [x], _ => simp [Lib.hasPrefix, List.isPrefixOf]
theorem number_ev (s : ByteArray) (hs : s.size ≤ 4294967296) : Ev (fun k => tollhouseref10_number.f k s) (numberS s.data.toList) := by
  have hz := size_toList s
  have hj : ∀ b : Bool, (b = true → 2 ≤ s.size) → Ev (fun k => tollhouseref10_number.j0 k s 0 b) (if b then (s.data.toList.drop 2).all isLowHex else s.data.toList.all isDig) := by
    intro b hb
    cases b with
    | false =>
      have := number_go s hs false (s.size - 0) 0 rfl (Nat.zero_le _)
      simp only [Bool.false_eq_true, if_false, List.drop_zero] at this ⊢
      refine Ev.step (g := fun k => tollhouseref10_number.j1 k s 0) (fun k => by simp only [tollhouseref10_number.j0]; rw [if_neg (by decide)]) (Ev.step (fun k => by simp only [tollhouseref10_number.j1]; rfl) this)
    | true =>
      have := number_go s hs true (s.size - 2) 2 rfl (hb rfl)
      simp only [if_true] at this ⊢
      refine Ev.step (g := fun k => tollhouseref10_number.j1 k s 2) (fun k => by simp only [tollhouseref10_number.j0]; rw [if_pos trivial]) (Ev.step (fun k => by simp only [tollhouseref10_number.j1]; rfl) this)
  by_cases h2 : 2 ≤ s.size
  · have e : ((s.extract 0 2).toList == ([48, 120] : List UInt8)) = Lib.hasPrefix s.data.toList [48, 120] := by
      rw [Lib.toList_data, Lib.extract_from_zero, prefix_two _ _ _ (by omega)]
    refine Ev.same (g := fun k => tollhouseref10_number.j0 k s 0 (Lib.hasPrefix s.data.toList [48, 120])) (fun k => ?_) ?_
    · unfold tollhouseref10_number.f
      rw [if_pos (by omega), if_pos (by omega), if_pos (by omega), e]
    · have := hj (Lib.hasPrefix s.data.toList [48, 120]) (fun _ => h2)
      exact this
  · refine Ev.same (g := fun k => tollhouseref10_number.j0 k s 0 false) (fun k => ?_) ?_
    · unfold tollhouseref10_number.f
      rw [if_neg (by omega)]
    · have := hj false (fun h => by cases h)
      unfold numberS
      rw [prefix_short _ _ _ (by omega)]
      exact this
/-- of a label's small signs -/
theorem hex_host (c : UInt8) (h : isHostC c = true) : isHexC c = isLowHex c := by
  have hh : ∀ n : Fin 256, isHostC (UInt8.ofNat n.val) = true → isHexC (UInt8.ofNat n.val) = isLowHex (UInt8.ofNat n.val) := by decide +kernel
  have := hh ⟨c.toNat, c.toNat_lt⟩
  simp only [UInt8.ofNat_toNat] at this
  exact this h
theorem numeric_S (s : ByteArray) (h : s.data.toList.all isHostC = true) : numericB s = numberS s.data.toList := by
  unfold numericB numberS
  cases hp : Lib.hasPrefix s.data.toList [48, 120] with
  | false => rfl
  | true =>
    have e : Lib.trimPrefix s.data.toList [48, 120] = s.data.toList.drop 2 := by unfold Lib.trimPrefix; rw [if_pos hp]; rfl
    rw [if_pos rfl, if_pos rfl, e]
    have hd : (s.data.toList.drop 2).all isHostC = true := List.all_eq_true.2 fun x hx => List.all_eq_true.1 h x (List.mem_of_mem_drop hx)
    generalize s.data.toList.drop 2 = l at hd
    induction l with
    | nil => rfl
    | cons c t ih =>
      simp only [List.all_cons, Bool.and_eq_true] at hd
      rw [List.all_cons, List.all_cons, hex_host c hd.1, ih hd.2]
/-! ### Named -/
theorem hostC_iff (c : UInt8) : isHostC c = true ↔ (c.toNat = 45 ∨ (97 ≤ c.toNat ∧ c.toNat ≤ 122) ∨ (48 ≤ c.toNat ∧ c.toNat ≤ 57)) := by
  have h : ∀ n : Fin 256, isHostC (UInt8.ofNat n.val) = true ↔ ((UInt8.ofNat n.val).toNat = 45 ∨ (97 ≤ (UInt8.ofNat n.val).toNat ∧ (UInt8.ofNat n.val).toNat ≤ 122) ∨ (48 ≤ (UInt8.ofNat n.val).toNat ∧ (UInt8.ofNat n.val).toNat ≤ 57)) := by decide +kernel
  have := h ⟨c.toNat, c.toNat_lt⟩
  simpa using this
theorem named_l1 (s : ByteArray) (ls : List ByteArray) (hls : ls.length ≤ 4294967297) (o : Bool) (i : Nat) (y : ByteArray) (hi : ls[i]? = some y) (hy : y.size ≤ 4294967296) (r : Bool)
    (hr : y.data.toList.all isHostC = true → Ev (fun k => tollhouseref10_Named.l1 k s ls o (i : Int) (y.size : Int)) r) : ∀ (d j : Nat), y.size - j = d → j ≤ y.size → (y.data.toList.take j).all isHostC = true →
    Ev (fun k => tollhouseref10_Named.l1 k s ls o (i : Int) (j : Int)) (if y.data.toList.all isHostC then r else false)
  | 0, j, hd, hj, hp => by
    obtain rfl : j = y.size := by omega
    rw [List.take_of_length_le (by rw [size_toList]; exact Nat.le_refl _)] at hp
    rw [if_pos hp]; exact hr hp
  | d + 1, j, hd, hj, hp => by
    have hlt : j < y.size := by omega
    have hil : i < ls.length := (List.getElem?_eq_some_iff.1 hi).1
    have hb : bt y (j : Int) = ((y[j]'hlt).toNat : Int) := btAt hlt
    have h1 := hostC_iff (y[j]'hlt)
    have htk : y.data.toList.take (j + 1) = y.data.toList.take j ++ [y[j]'hlt] := by
      rw [List.take_add_one, list_at hlt]; rfl
    have hsplit : y.data.toList.all isHostC = ((y.data.toList.take j).all isHostC && (isHostC (y[j]'hlt) && (y.data.toList.drop (j + 1)).all isHostC)) := by
      conv => lhs; rw [← List.take_append_drop j y.data.toList, List.all_append, drop_at hlt, List.all_cons]
    cases hc : isHostC (y[j]'hlt) with
    | true =>
      have ih := named_l1 s ls hls o i y hi hy r hr d (j + 1) (by omega) (by omega) (by rw [htk, List.all_append, hp]; simp [hc])
      refine Ev.step (fun k => ?_) ih
      simp only [tollhouseref10_Named.l1]
      rw [if_pos (by omega), if_pos (by omega), rd_list ls i y hi, if_pos (by omega), if_pos (by omega), hb, wrap_succ (by omega)]
      generalize (y[j]'hlt) = c at h1 hc
      rcases h1.1 hc with g | ⟨g1, g2⟩ | ⟨g1, g2⟩
      · rw [if_pos (by omega)]
      · rw [if_neg (by omega), if_neg (by omega), if_neg (by omega)]
      · rw [if_neg (by omega), if_pos (by omega), if_neg (by omega), if_neg (by omega)]
    | false =>
      have hf : y.data.toList.all isHostC = false := by rw [hsplit, hc]; simp
      rw [hf, if_neg (by decide)]
      refine Ev.done fun k => ?_
      simp only [tollhouseref10_Named.l1]
      rw [if_pos (by omega), if_pos (by omega), rd_list ls i y hi, if_pos (by omega), if_pos (by omega), hb]
      generalize (y[j]'hlt) = c at h1 hc
      rw [hc] at h1
      have n1 : ¬ (c.toNat = 45 ∨ (97 ≤ c.toNat ∧ c.toNat ≤ 122) ∨ (48 ≤ c.toNat ∧ c.toNat ≤ 57)) := fun e => by have := h1.2 e; cases this
      rw [if_neg (by omega)]
      by_cases g1 : (c.toNat : Int) < 97
      · rw [if_pos g1]
        by_cases g2 : (c.toNat : Int) < 48
        · rw [if_pos g2]
        · rw [if_neg g2, if_pos (by omega)]
      · rw [if_neg g1, if_pos (by omega), if_neg (by omega), if_pos (by omega)]
def namedRest (s : ByteArray) (ls : List ByteArray) (o : Bool) (t : List ByteArray) : Bool := t.all labelB && (decide (s.size ≤ 64) && (!numberS (ls.getD (ls.length - 1) ByteArray.empty).data.toList || (decide (ls.length = 4) && (o && t.all octB))))
theorem named_l0 (s : ByteArray) (hs : s.size ≤ 4294967296) (ls : List ByteArray) (hpos : 0 < ls.length) (hls : ls.length ≤ 4294967297) (hsz : ∀ y ∈ ls, y.size ≤ 4294967296) : ∀ (t : List ByteArray) (i : Nat) (o : Bool), ls.drop i = t → i ≤ ls.length →
    Ev (fun k => tollhouseref10_Named.l0 k s ls o (i : Int)) (namedRest s ls o t)
  | [], i, o, ht, hi => by
    have hi2 : i = ls.length := by
      have := congrArg List.length ht
      simp at this; omega
    subst hi2
    have hlast : ls[ls.length - 1]? = some (ls.getD (ls.length - 1) ByteArray.empty) := by
      rw [List.getD_eq_getElem?_getD, List.getElem?_eq_getElem (by omega)]; rfl
    have hmem : ls.getD (ls.length - 1) ByteArray.empty ∈ ls := List.mem_of_getElem? hlast
    have hw : wrap64 ((ls.length : Int) - 1) = ((ls.length - 1 : Nat) : Int) := by unfold wrap64; omega
    have hn := number_ev _ (hsz _ hmem)
    unfold namedRest
    generalize ls.getD (ls.length - 1) ByteArray.empty = y at hlast hn ⊢
    refine Ev.step (g := fun k => (tollhouseref10_number.f k y).bind fun b => if b = true then (if (ls.length : Int) = 4 then (if o = true then some (decide ((s.size : Int) ≤ 64)) else some false) else some false) else some (decide ((s.size : Int) ≤ 64))) (fun k => ?_) (Ev.bind hn (Ev.const fun k => ?_))
    · simp only [tollhouseref10_Named.l0]
      rw [if_neg (by omega), hw, if_pos (by omega), if_pos (by omega), rd_list ls _ y hlast]
    · have e64 : decide ((s.size : Int) ≤ 64) = decide (s.size ≤ 64) := by
        by_cases h : s.size ≤ 64
        · rw [decide_eq_true h, decide_eq_true (by omega)]
        · rw [decide_eq_false h, decide_eq_false (by omega)]
      rw [e64]
      have e4 : ((ls.length : Int) = 4) ↔ ls.length = 4 := by omega
      cases numberS y.data.toList <;> cases o <;> by_cases h4 : ls.length = 4 <;> simp [h4, e4]
  | y :: t, i, o, ht, hi => by
    have hil : i < ls.length := by
      have := congrArg List.length ht
      simp at this; omega
    have hiy : ls[i]? = some y := by
      have : (ls.drop i)[0]? = some y := by rw [ht]; rfl
      rw [List.getElem?_drop] at this
      simpa using this
    have hmem : y ∈ ls := List.mem_of_getElem? hiy
    have hy := hsz y hmem
    have ht2 : ls.drop (i + 1) = t := by
      rw [← List.drop_drop, ht]; rfl
    have ih := fun o2 => named_l0 s hs ls hpos hls hsz t (i + 1) o2 ht2 (by omega)
    have hlab : labelB y = (!y.data.toList.isEmpty && y.data.toList.all isHostC) := rfl
    have he : y.toList = y.data.toList := Lib.toList_data y
    have hfin : y.data.toList.all isHostC = true → Ev (fun k => tollhouseref10_Named.l1 k s ls o (i : Int) (y.size : Int)) (if y.data.toList.isEmpty then false else namedRest s ls (o && octB y) t) := by
      intro _
      cases hem : y.data.toList.isEmpty with
      | true =>
        rw [if_pos rfl]
        refine Ev.done fun k => ?_
        simp only [tollhouseref10_Named.l1]
        rw [if_pos (by omega), if_pos (by omega), rd_list ls i y hiy, if_neg (by omega), he, if_pos (by simpa using hem)]
      | false =>
        rw [if_neg (by decide)]
        cases o with
        | true =>
          refine Ev.step (g := fun k => (tollhouseref10_octet.f k y).bind fun b => tollhouseref10_Named.l0 k s ls b ((i + 1 : Nat) : Int)) (fun k => ?_) (Ev.bind (octet_ev y hy) ?_)
          · simp only [tollhouseref10_Named.l1]
            rw [if_pos (by omega), if_pos (by omega), rd_list ls i y hiy, if_neg (by omega), he, if_neg (by simpa using hem), if_pos trivial, wrap_succ (by omega)]
          · rw [Bool.true_and]; exact ih (octB y)
        | false =>
          refine Ev.step (fun k => ?_) (ih false)
          simp only [tollhouseref10_Named.l1]
          rw [if_pos (by omega), if_pos (by omega), rd_list ls i y hiy, if_neg (by omega), he, if_neg (by simpa using hem), if_neg (by decide), wrap_succ (by omega)]
    have h1 := named_l1 s ls hls o i y hiy hy _ hfin (y.size - 0) 0 rfl (Nat.zero_le _) rfl
    have hres : namedRest s ls o (y :: t) = (if y.data.toList.all isHostC = true then (if y.data.toList.isEmpty = true then false else namedRest s ls (o && octB y) t) else false) := by
      unfold namedRest
      rw [List.all_cons, List.all_cons, hlab]
      cases y.data.toList.all isHostC <;> cases y.data.toList.isEmpty <;> cases octB y <;> cases o <;> simp
    rw [hres]
    refine Ev.step (fun k => ?_) h1
    simp only [tollhouseref10_Named.l0]
    rw [if_pos (by omega)]
    rfl
theorem rnamed_ev (s : ByteArray) (hs : s.size ≤ 4294967296) : Ev (fun k => tollhouseref10_Named.f k s) (namedB s) := by
  have hl := labels_ev s hs
  have hpos : 0 < (labelsB s).length := by rw [labels_len]; omega
  have hle := labels_le s
  have hsz : ∀ y ∈ labelsB s, y.size ≤ 4294967296 := fun y hy => by have := splitB_size _ _ _ y hy; omega
  have h0 := named_l0 s hs (labelsB s) hpos (by omega) hsz (labelsB s) 0 true rfl (Nat.zero_le _)
  refine Ev.same (fun k => by unfold tollhouseref10_Named.f; rfl) (Ev.bind hl ?_)
  have e : namedB s = namedRest s (labelsB s) true (labelsB s) := by
    unfold namedB namedRest quadB
    cases ha : (labelsB s).all labelB with
    | false => rfl
    | true =>
      have hlast : (labelsB s).getD ((labelsB s).length - 1) ByteArray.empty ∈ labelsB s := by
        rw [List.getD_eq_getElem?_getD, List.getElem?_eq_getElem (by omega)]
        exact List.getElem_mem _
      have hh := List.all_eq_true.1 ha _ hlast
      unfold labelB at hh
      rw [Bool.and_eq_true] at hh
      rw [numeric_S _ hh.2]
      simp
  rw [e]; exact h0
end Go.Proofs.YthmnhbalmglohaaGreatDoor.X

/- tollhouseref02.Token over this program: it tells what text.Token tells. -/
namespace Go.Proofs.YthmnhbalmglohaaGreatDoor.T
open Go.RowKit
set_option linter.unusedSimpArgs false
set_option linter.unusedVariables false
def sgL : List UInt8 := [33, 35, 36, 37, 38, 39, 42, 43, 45, 46, 94, 95, 96, 124, 126]
def alnum (c : UInt8) : Bool := (97 ≤ c && c ≤ 122) || (65 ≤ c && c ≤ 90) || (48 ≤ c && c ≤ 57)
/-- among the first k signs -/
def inSg (k : Nat) (c : UInt8) : Bool := (sgL.take k).contains c
theorem inSg_succ (k : Nat) (hk : k < 15) (c : UInt8) : inSg (k + 1) c = (inSg k c || c == sgL.getD k 0) := by
  have h : ∀ k : Fin 15, ∀ n : Fin 256, inSg (k.val + 1) (UInt8.ofNat n.val) = (inSg k.val (UInt8.ofNat n.val) || UInt8.ofNat n.val == sgL.getD k.val 0) := by decide +kernel
  have := h ⟨k, hk⟩ ⟨c.toNat, c.toNat_lt⟩
  simpa using this
theorem tok_alt (c : UInt8) : isTok c = (alnum c || inSg 15 c) := by
  have h : ∀ n : Fin 256, isTok (UInt8.ofNat n.val) = (alnum (UInt8.ofNat n.val) || inSg 15 (UInt8.ofNat n.val)) := by decide +kernel
  have := h ⟨c.toNat, c.toNat_lt⟩
  simpa using this
theorem alnum_spec (c : UInt8) : alnum c = ((decide (97 ≤ (c.toNat : Int)) && decide ((c.toNat : Int) ≤ 122)) || (decide (65 ≤ (c.toNat : Int)) && decide ((c.toNat : Int) ≤ 90)) || (decide (48 ≤ (c.toNat : Int)) && decide ((c.toNat : Int) ≤ 57))) := by
  have h : ∀ n : Fin 256, alnum (UInt8.ofNat n.val) = ((decide (97 ≤ ((UInt8.ofNat n.val).toNat : Int)) && decide (((UInt8.ofNat n.val).toNat : Int) ≤ 122)) || (decide (65 ≤ ((UInt8.ofNat n.val).toNat : Int)) && decide (((UInt8.ofNat n.val).toNat : Int) ≤ 90)) || (decide (48 ≤ ((UInt8.ofNat n.val).toNat : Int)) && decide (((UInt8.ofNat n.val).toNat : Int) ≤ 57))) := by decide +kernel
  have := h ⟨c.toNat, c.toNat_lt⟩
  simpa using this
theorem classes (x : Int) : (97 ≤ x ∧ x ≤ 122) ∨ (65 ≤ x ∧ x ≤ 90) ∨ (48 ≤ x ∧ x ≤ 57) ∨ x < 48 ∨ (57 < x ∧ x < 65) ∨ (90 < x ∧ x < 97) ∨ 122 < x := by omega
theorem beq_nat (a b : UInt8) : (a == b) = ((a.toNat : Int) == (b.toNat : Int)) := by
  rw [Bool.eq_iff_iff]
  simp only [beq_iff_eq]
  constructor
  · intro h; rw [h]
  · intro h; exact UInt8.toNat_inj.1 (by omega)
theorem sg_at (k : Nat) (hk : k < 15) : (⟨#[33, 35, 36, 37, 38, 39, 42, 43, 45, 46, 94, 95, 96, 124, 126]⟩ : ByteArray)[k]'hk = sgL.getD k 0 := by
  have h : ∀ k : Fin 15, (⟨#[33, 35, 36, 37, 38, 39, 42, 43, 45, 46, 94, 95, 96, 124, 126]⟩ : ByteArray)[k.val]'(k.2) = sgL.getD k.val 0 := by decide
  exact h ⟨k, hk⟩
theorem bool_val {a b : Bool} (h : a = b) : Value.bool a = .bool b := by rw [h]
set_option maxHeartbeats 4000000 in
theorem rtoken_any (s : ByteArray) (w : World) (hs : s.size ≤ 9223372036854775807) :
    Calls Tryz.prog 65 #[.string s] w fun e w' => e = .returned (.bool (tokenB s)) ∧ w = w' := by
  have HL := Lib.hid (size_toList s)
  go_enter Tryz.func65, Tryz.ntmps65
  go_wp2
  go_loopg [4, 5, 6, 7] s.size (fun gg s4 _ _ _ wr => ∃ kk : Nat, kk ≤ s.size ∧ s.size - kk ≤ gg ∧ s4 = .int .i64 kk ∧ wr = w ∧ Aside (∀ j, j < kk → isTok (s.data.toList.getD j 0) = true))
  case atStart => exact ⟨0, Nat.zero_le _, by omega, rfl, rfl, fun j hj => absurd hj (Nat.not_lt_zero _)⟩
  case round =>
    obtain ⟨kk, hkk, hg, rfl, rfl, A⟩ := hrel
    obtain ⟨wo, rfl⟩ : ∃ wo : World, wo = wr := ⟨_, rfl⟩
    by_cases hlt : kk < s.size
    · have hltz : (kk : Int) < (s.size : Int) := by omega
      have HY : Hid (s.data.toList.getD kk 0 = s[kk]) := Lib.hid (by rw [List.getD_eq_getElem?_getD, List.getElem?_eq_getElem (by rw [HL.out]; exact hlt)]; rfl)
      have HA := Lib.hid (alnum_spec s[kk])
      rcases classes ((s[kk]).toNat : Int) with hcl | hcl | hcl | hcl | hcl | hcl | hcl
      all_goals
        have hcl1 := hcl
        try (obtain ⟨hca, hcb⟩ := hcl1)
        go_wp2
        go_loopg [6, 7] 15 (fun gg s6 s7 wr => ∃ k : Nat, k ≤ 15 ∧ 15 - k ≤ gg ∧ s7 = .int .i64 k ∧ s6 = .bool (alnum s[kk] || inSg k s[kk]) ∧ wr = wo)
        case atStart =>
          refine ⟨0, by omega, by omega, rfl, ?_, rfl⟩
          have h0 : inSg 0 s[kk] = false := rfl
          rw [h0, HA.out]
          congr 1
          rw [Bool.eq_iff_iff]
          simp only [Bool.or_eq_true, Bool.and_eq_true, decide_eq_true_eq, true_iff, Bool.false_eq_true, false_iff, or_false]
          omega
        case round =>
          obtain ⟨k, hk, hgk, rfl, rfl, rfl⟩ := hrel
          generalize hx : (alnum s[kk] || inSg k s[kk]) = x
          have HX := Lib.hid hx
          clear hx
          by_cases hlk : k < 15
          · have hltk : (k : Int) < 15 := by omega
            cases x with
            | true =>
              go_wp2
              go_roundg (15 - (k + 1))
              case measure => omega
              case rel =>
                refine ⟨k + 1, by omega, by omega, by go_num, ?_, rfl⟩
                rw [inSg_succ k hlk, ← Bool.or_assoc, HX.out]
                rfl
            | false =>
              go_wp2
              go_roundg (15 - (k + 1))
              case measure => omega
              case rel =>
                refine ⟨k + 1, by omega, by omega, by go_num, bool_val ?_, rfl⟩
                rw [inSg_succ k hlk, ← Bool.or_assoc, HX.out, Bool.false_or, beq_nat, sg_at k hlk, Bool.beq_comm]
          · have hltk : ¬ (k : Int) < 15 := by omega
            obtain rfl : k = 15 := by omega
            rw [← tok_alt] at HX
            cases x with
            | true =>
              go_wp2
              go_roundg (s.size - (kk + 1))
              case measure => omega
              case rel =>
                refine ⟨kk + 1, by omega, by omega, by go_num, rfl, fun j hj => ?_⟩
                by_cases e : j = kk
                · subst e; rw [HY.out]; exact HX.out
                · exact A.out j (by omega)
            | false =>
              go_wp2
              go_ret
              refine ⟨ret_bool ?_, rfl⟩
              unfold tokenB
              rw [all_no_getD isTok 0 s.data.toList kk (by rw [HL.out]; exact hlt) (by rw [HY.out]; exact HX.out), Bool.and_false]
    · have hltz : ¬ (kk : Int) < (s.size : Int) := by omega
      obtain rfl : kk = s.size := by omega
      go_wp2
      go_ret
      refine ⟨ret_bool ?_, rfl⟩
      unfold tokenB
      rw [all_of_getD isTok 0 s.data.toList (by rw [HL.out]; exact A.out), Bool.and_true, ← HL.out]
      cases s.data.toList <;> simp
end Go.Proofs.YthmnhbalmglohaaGreatDoor.T

/- tollhouseref02.Token in the print's form. -/
namespace Go.Proofs.YthmnhbalmglohaaGreatDoor.X
open Go.RowKit Go.Proofs.YthmnhbalmglohaaGreatDoorW.PrintWords Go.Proofs.YthmnhbalmglohaaGreatDoor.T
set_option linter.unusedVariables false
def tollhouseref02_Token.f (a0 : ByteArray) : Option Bool := if a0.size ≤ 9223372036854775807 then some (tokenB a0) else none
theorem tollhouseref02_Token.calls (a0 : ByteArray) (r : Bool) (w : World) (HGg : Glob w) (h : tollhouseref02_Token.f a0 = some r) : Calls Tryz.prog 65 #[.string a0] w fun e w' => e = .returned (.bool r) ∧ Drawn0 w w' := by
  obtain ⟨h1, rfl⟩ := of_lim h; exact (rtoken_any a0 w h1).mono fun e w' ⟨he, hw⟩ => ⟨he, drawn_same hw.symm⟩
end Go.Proofs.YthmnhbalmglohaaGreatDoor.X

-- PRINTED by print.py (a twelfth state) out of the translation. Not trusted: Lean checks it.
namespace Go.Proofs.YthmnhbalmglohaaGreatDoor.X
open Go.RowKit Go.Proofs.YthmnhbalmglohaaGreatDoorW.PrintWords Go.Proofs.YthmnhbalmglohaaGreatDoorW.PrintLast Go.Proofs.YthmnhbalmglohaaGreatDoorW.PrintMore
attribute [local go_sem] max2_int min2_int max_two min_two max_three min_three max_four min_four   -- for this text's walks alone
set_option linter.unusedVariables false
set_option linter.unusedSimpArgs false
open Go.Proofs.YthmnhbalmglohaaGreatDoor.T

/-! ### tollhouseref14_May: function 45 -/
mutual
def tollhouseref14_May.j0 : Nat → ByteArray → Bool → Bool → ByteArray → Int → Int → List ByteArray → Option (Bool)
  | 0, _, _, _, _, _, _, _ => none
  | k + 1, x3, x14, x118000, x118001, x118002, x118003, x118004 => if x14 = true then (if 1 ≤ (x3.size : Int) then (tollhouseref14_May.j1 k (x3.extract 1 x3.size) x118000 x118001 x118002 x118003 x118004) else (none)) else (tollhouseref14_May.j1 k x3 x118000 x118001 x118002 x118003 x118004)
def tollhouseref14_May.j1 : Nat → ByteArray → Bool → ByteArray → Int → Int → List ByteArray → Option (Bool)
  | 0, _, _, _, _, _, _ => none
  | k + 1, x3, x118000, x118001, x118002, x118003, x118004 => if x118001.toList = ([42] : List UInt8) then (tollhouseref14_May.j2 k false x118000 x118001 x118002 x118003 x118004) else ((tollhouseref10_Named.f k x3).bind fun t118 => (tollhouseref14_May.j2 k (!t118) x118000 x118001 x118002 x118003 x118004))
def tollhouseref14_May.j2 : Nat → Bool → Bool → ByteArray → Int → Int → List ByteArray → Option (Bool)
  | 0, _, _, _, _, _, _ => none
  | k + 1, x24, x118000, x118001, x118002, x118003, x118004 => if x24 = true then (some false) else (if x118002 < 1 then (tollhouseref14_May.j3 k true x118000 x118001 x118002 x118003 x118004) else (if x118003 > 65535 then (tollhouseref14_May.j3 k true x118000 x118001 x118002 x118003 x118004) else (if x118002 > x118003 then (tollhouseref14_May.j3 k true x118000 x118001 x118002 x118003 x118004) else (tollhouseref14_May.j3 k (decide ((x118004.length : Int) > 8)) x118000 x118001 x118002 x118003 x118004))))
def tollhouseref14_May.j3 : Nat → Bool → Bool → ByteArray → Int → Int → List ByteArray → Option (Bool)
  | 0, _, _, _, _, _, _ => none
  | k + 1, x45, x118000, x118001, x118002, x118003, x118004 => if x45 = true then (some false) else (tollhouseref14_May.l0 k 0 x118000 x118001 x118002 x118003 x118004)
def tollhouseref14_May.l0 : Nat → Int → Bool → ByteArray → Int → Int → List ByteArray → Option (Bool)
  | 0, _, _, _, _, _, _ => none
  | k + 1, x4, x118000, x118001, x118002, x118003, x118004 => if x4 < (x118004.length : Int) then (if 0 ≤ x4 then ((tollhouseref02_Token.f (rdOf ByteArray.empty x118004 x4)).bind fun t120 => (if t120 = true then (tollhouseref14_May.l0 k (wrap64 (x4 + 1)) x118000 x118001 x118002 x118003 x118004) else (some false))) else (none)) else (some true)
end
def tollhouseref14_May.f (k : Nat) (a0_0 : Bool) (a0_1 : ByteArray) (a0_2 : Int) (a0_3 : Int) (l0_4 : List ByteArray) : Option (Bool) := if (a0_1.size : Int) > 1 then (if 0 < (a0_1.size : Int) then (tollhouseref14_May.j0 k a0_1 ((bt a0_1 0) == 46) a0_0 a0_1 a0_2 a0_3 l0_4) else (none)) else (tollhouseref14_May.j0 k a0_1 false a0_0 a0_1 a0_2 a0_3 l0_4)
theorem tollhouseref14_May.mono_l : ∀ k, (∀ y0 y1 y2 y3 y4 y5 y6, LeO (tollhouseref14_May.j0 k y0 y1 y2 y3 y4 y5 y6) (tollhouseref14_May.j0 (k + 1) y0 y1 y2 y3 y4 y5 y6)) ∧ (∀ y0 y1 y2 y3 y4 y5, LeO (tollhouseref14_May.j1 k y0 y1 y2 y3 y4 y5) (tollhouseref14_May.j1 (k + 1) y0 y1 y2 y3 y4 y5)) ∧ (∀ y0 y1 y2 y3 y4 y5, LeO (tollhouseref14_May.j2 k y0 y1 y2 y3 y4 y5) (tollhouseref14_May.j2 (k + 1) y0 y1 y2 y3 y4 y5)) ∧ (∀ y0 y1 y2 y3 y4 y5, LeO (tollhouseref14_May.j3 k y0 y1 y2 y3 y4 y5) (tollhouseref14_May.j3 (k + 1) y0 y1 y2 y3 y4 y5)) ∧ (∀ y0 y1 y2 y3 y4 y5, LeO (tollhouseref14_May.l0 k y0 y1 y2 y3 y4 y5) (tollhouseref14_May.l0 (k + 1) y0 y1 y2 y3 y4 y5))
  | 0 => ⟨fun _ _ _ _ _ _ _ r h => by simp [tollhouseref14_May.j0] at h, fun _ _ _ _ _ _ r h => by simp [tollhouseref14_May.j1] at h, fun _ _ _ _ _ _ r h => by simp [tollhouseref14_May.j2] at h, fun _ _ _ _ _ _ r h => by simp [tollhouseref14_May.j3] at h, fun _ _ _ _ _ _ r h => by simp [tollhouseref14_May.l0] at h⟩
  | k + 1 => by
    obtain ⟨ih0, ih1, ih2, ih3, ih4⟩ := tollhouseref14_May.mono_l k
    refine ⟨?_, ?_, ?_, ?_, ?_⟩
    · intro y0 y1 y2 y3 y4 y5 y6
      unfold tollhouseref14_May.j0
      repeat' first
      | (with_reducible exact ih0 _ _ _ _ _ _ _)
      | (with_reducible exact ih1 _ _ _ _ _ _)
      | (with_reducible exact ih2 _ _ _ _ _ _)
      | (with_reducible exact ih3 _ _ _ _ _ _)
      | (with_reducible exact ih4 _ _ _ _ _ _)
      | (with_reducible exact tollhouseref10_Named.mono _ _)
      | (with_reducible exact LeO.refl _)
      | (with_reducible exact LeO.none _)
      | (with_reducible refine LeO.ite ?_ ?_)
      | (with_reducible refine LeO.bind ?_ (fun _ => ?_))
      | exact ih0 _ _ _ _ _ _ _
      | exact ih1 _ _ _ _ _ _
      | exact ih2 _ _ _ _ _ _
      | exact ih3 _ _ _ _ _ _
      | exact ih4 _ _ _ _ _ _
      | exact tollhouseref10_Named.mono _ _
      | exact LeO.none _
      | refine LeO.ite ?_ ?_
      | refine LeO.bind ?_ (fun _ => ?_)
    · intro y0 y1 y2 y3 y4 y5
      unfold tollhouseref14_May.j1
      repeat' first
      | (with_reducible exact ih0 _ _ _ _ _ _ _)
      | (with_reducible exact ih1 _ _ _ _ _ _)
      | (with_reducible exact ih2 _ _ _ _ _ _)
      | (with_reducible exact ih3 _ _ _ _ _ _)
      | (with_reducible exact ih4 _ _ _ _ _ _)
      | (with_reducible exact tollhouseref10_Named.mono _ _)
      | (with_reducible exact LeO.refl _)
      | (with_reducible exact LeO.none _)
      | (with_reducible refine LeO.ite ?_ ?_)
      | (with_reducible refine LeO.bind ?_ (fun _ => ?_))
      | exact ih0 _ _ _ _ _ _ _
      | exact ih1 _ _ _ _ _ _
      | exact ih2 _ _ _ _ _ _
      | exact ih3 _ _ _ _ _ _
      | exact ih4 _ _ _ _ _ _
      | exact tollhouseref10_Named.mono _ _
      | exact LeO.none _
      | refine LeO.ite ?_ ?_
      | refine LeO.bind ?_ (fun _ => ?_)
    · intro y0 y1 y2 y3 y4 y5
      unfold tollhouseref14_May.j2
      repeat' first
      | (with_reducible exact ih0 _ _ _ _ _ _ _)
      | (with_reducible exact ih1 _ _ _ _ _ _)
      | (with_reducible exact ih2 _ _ _ _ _ _)
      | (with_reducible exact ih3 _ _ _ _ _ _)
      | (with_reducible exact ih4 _ _ _ _ _ _)
      | (with_reducible exact tollhouseref10_Named.mono _ _)
      | (with_reducible exact LeO.refl _)
      | (with_reducible exact LeO.none _)
      | (with_reducible refine LeO.ite ?_ ?_)
      | (with_reducible refine LeO.bind ?_ (fun _ => ?_))
      | exact ih0 _ _ _ _ _ _ _
      | exact ih1 _ _ _ _ _ _
      | exact ih2 _ _ _ _ _ _
      | exact ih3 _ _ _ _ _ _
      | exact ih4 _ _ _ _ _ _
      | exact tollhouseref10_Named.mono _ _
      | exact LeO.none _
      | refine LeO.ite ?_ ?_
      | refine LeO.bind ?_ (fun _ => ?_)
    · intro y0 y1 y2 y3 y4 y5
      unfold tollhouseref14_May.j3
      repeat' first
      | (with_reducible exact ih0 _ _ _ _ _ _ _)
      | (with_reducible exact ih1 _ _ _ _ _ _)
      | (with_reducible exact ih2 _ _ _ _ _ _)
      | (with_reducible exact ih3 _ _ _ _ _ _)
      | (with_reducible exact ih4 _ _ _ _ _ _)
      | (with_reducible exact tollhouseref10_Named.mono _ _)
      | (with_reducible exact LeO.refl _)
      | (with_reducible exact LeO.none _)
      | (with_reducible refine LeO.ite ?_ ?_)
      | (with_reducible refine LeO.bind ?_ (fun _ => ?_))
      | exact ih0 _ _ _ _ _ _ _
      | exact ih1 _ _ _ _ _ _
      | exact ih2 _ _ _ _ _ _
      | exact ih3 _ _ _ _ _ _
      | exact ih4 _ _ _ _ _ _
      | exact tollhouseref10_Named.mono _ _
      | exact LeO.none _
      | refine LeO.ite ?_ ?_
      | refine LeO.bind ?_ (fun _ => ?_)
    · intro y0 y1 y2 y3 y4 y5
      unfold tollhouseref14_May.l0
      repeat' first
      | (with_reducible exact ih0 _ _ _ _ _ _ _)
      | (with_reducible exact ih1 _ _ _ _ _ _)
      | (with_reducible exact ih2 _ _ _ _ _ _)
      | (with_reducible exact ih3 _ _ _ _ _ _)
      | (with_reducible exact ih4 _ _ _ _ _ _)
      | (with_reducible exact tollhouseref10_Named.mono _ _)
      | (with_reducible exact LeO.refl _)
      | (with_reducible exact LeO.none _)
      | (with_reducible refine LeO.ite ?_ ?_)
      | (with_reducible refine LeO.bind ?_ (fun _ => ?_))
      | exact ih0 _ _ _ _ _ _ _
      | exact ih1 _ _ _ _ _ _
      | exact ih2 _ _ _ _ _ _
      | exact ih3 _ _ _ _ _ _
      | exact ih4 _ _ _ _ _ _
      | exact tollhouseref10_Named.mono _ _
      | exact LeO.none _
      | refine LeO.ite ?_ ?_
      | refine LeO.bind ?_ (fun _ => ?_)
theorem tollhouseref14_May.mono : ∀ a0 a1 a2 a3 a4 k, LeO (tollhouseref14_May.f k a0 a1 a2 a3 a4) (tollhouseref14_May.f (k + 1) a0 a1 a2 a3 a4) := by
  intro a0 a1 a2 a3 a4 k
  obtain ⟨ih0, ih1, ih2, ih3, ih4⟩ := tollhouseref14_May.mono_l k
  unfold tollhouseref14_May.f
  repeat' first
      | (with_reducible exact ih0 _ _ _ _ _ _ _)
      | (with_reducible exact ih1 _ _ _ _ _ _)
      | (with_reducible exact ih2 _ _ _ _ _ _)
      | (with_reducible exact ih3 _ _ _ _ _ _)
      | (with_reducible exact ih4 _ _ _ _ _ _)
      | (with_reducible exact tollhouseref10_Named.mono _ _)
      | (with_reducible exact LeO.refl _)
      | (with_reducible exact LeO.none _)
      | (with_reducible refine LeO.ite ?_ ?_)
      | (with_reducible refine LeO.bind ?_ (fun _ => ?_))
      | exact ih0 _ _ _ _ _ _ _
      | exact ih1 _ _ _ _ _ _
      | exact ih2 _ _ _ _ _ _
      | exact ih3 _ _ _ _ _ _
      | exact ih4 _ _ _ _ _ _
      | exact tollhouseref10_Named.mono _ _
      | exact LeO.none _
      | refine LeO.ite ?_ ?_
      | refine LeO.bind ?_ (fun _ => ?_)
set_option maxHeartbeats 8000000 in
set_option maxRecDepth 100000 in
theorem tollhouseref14_May.calls (k : Nat) (a0_0 : Bool) (a0_1 : ByteArray) (a0_2 : Int) (a0_3 : Int) (A0_4 : Option Addr) (c0_4 : Nat) (l0_4 : List ByteArray) (r : Bool) (w : World) (hr0_4 : Kd.C Kd.string w A0_4 l0_4.length l0_4) (hc0_4 : l0_4.length ≤ c0_4) (HGg : Glob w) (h : tollhouseref14_May.f k a0_0 a0_1 a0_2 a0_3 l0_4 = some r) :
    Calls Tryz.prog 45 #[.agg #[.bool a0_0, .string a0_1, .int .i64 a0_2, .int .i64 a0_3, .slice A0_4 l0_4.length c0_4]] w fun e w' => e = .returned (.bool r) ∧ Below w.heap.size w w' := by
  have hu46 := Tryz.underlying46
  have HGl := Aside0.mk HGg
  clear HGg
  have HR0_4 := Aside0.mk hr0_4
  have HC0_4 := Aside0.mk hc0_4
  clear hr0_4 hc0_4
  have HB := Aside0.mk (Below.refl w.heap.size w)
  have H : (if (a0_1.size : Int) > 1 then (if 0 < (a0_1.size : Int) then (tollhouseref14_May.j0 k a0_1 ((bt a0_1 0) == 46) a0_0 a0_1 a0_2 a0_3 l0_4) else (none)) else (tollhouseref14_May.j0 k a0_1 false a0_0 a0_1 a0_2 a0_3 l0_4)) = some r := h
  clear h
  have HC2 := Aside0.mk H
  clear H
  go_enter Tryz.func45, Tryz.ntmps45
  go_upto_region 2 with (first | ((with_reducible refine gate_dst (N := 1) rfl ?_); (try (refine gate_guard (by rfl) ?_; dsimp only)); refine box_event ?hg (N := 1) ?hd (cs := #[.bool a0_0, .string a0_1, .int .i64 a0_2, .int .i64 a0_3, .slice A0_4 l0_4.length c0_4]) (t := 46) ?hr ?_; (case hd => rfl); (case hg => rfl); (case hr => first | (go_simp; done) | (go_simp; rfl)); intro gb117 hg w3 hbox hb; have n0_ := Aside0.mk (below_step (by repeat (first | (with_reducible first | exact HB.out | apply below_alloc | apply pw_below_drewN | apply below_drew1) | exact HB.out)) hb); have n1_ := Aside0.mk (hbox); have n2_ := Aside0.mk ((by rw [hg]; exact (below_size (by repeat (first | (with_reducible first | exact HB.out | apply below_alloc | apply pw_below_drewN | apply below_drew1) | exact HB.out))) : w.heap.size ≤ gb117)); have n3_ := Aside0.mk ((by rw [hg]; exact (below_size (by repeat (first | (with_reducible first | exact HB.out | apply below_alloc | apply pw_below_drewN | apply below_drew1) | exact HB.out))) : w.heap.size ≤ gb117)); clear HB; have HB := n0_; have BK117 := n1_; have GW117 := n2_; have GE117 := n3_; clear n0_ n1_ n2_ n3_; clear hb hbox hg; have hcz4_0 : w3.cell? ⟨gb117, 0, none⟩ = some (.bool a0_0) := (blk_cell BK117.out 0).trans rfl; have hcz4_1 : w3.cell? ⟨gb117, 1, none⟩ = some (.string a0_1) := (blk_cell BK117.out 1).trans rfl; have hcz4_2 : w3.cell? ⟨gb117, 2, none⟩ = some (.int .i64 a0_2) := (blk_cell BK117.out 2).trans rfl; have hcz4_3 : w3.cell? ⟨gb117, 3, none⟩ = some (.int .i64 a0_3) := (blk_cell BK117.out 3).trans rfl; have hcz4_4 : w3.cell? ⟨gb117, 4, none⟩ = some (.slice A0_4 l0_4.length c0_4) := (blk_cell BK117.out 4).trans rfl; have hfz4_0 := blk_frozen BK117.out 0; have hfz4_1 := blk_frozen BK117.out 1; have hfz4_2 := blk_frozen BK117.out 2; have hfz4_3 := blk_frozen BK117.out 3; have hfz4_4 := blk_frozen BK117.out 4))
  (try simp only [Act.put, List.setIfInBounds_toArray, List.set_cons_zero, List.set_cons_succ])
  go_cut [14] (fun v14 wc => ∃ (kq : Nat) (x14_1 : Bool), v14 = .bool x14_1 ∧ Aside0 (tollhouseref14_May.j0 kq a0_1 x14_1 a0_0 a0_1 a0_2 a0_3 l0_4 = some r) ∧ Aside0 (kq ≤ k) ∧ Aside0 (wc.heap[gb117]? = some (.cells #[.bool a0_0, .string a0_1, .int .i64 a0_2, .int .i64 a0_3, (.slice A0_4 l0_4.length c0_4)] 46 (0, 0))) ∧ Aside0 (Below w.heap.size w wc))
  case first =>
    have H := HC2.out
    clear HC2
    by_cases c5 : (a0_1.size : Int) > 1
    · rw [if_pos c5] at H
      have c5b0 : decide (1 < (a0_1.size : Int)) = true := decide_eq_true c5
      have c5b1 : decide (1 < a0_1.size) = true := decide_eq_true (by omega)
      clear c5
      (first | rw [c5b0] | (simp only [i64_w, i32_w]; rw [c5b0]) | skip)
      by_cases c6 : 0 < (a0_1.size : Int)
      · rw [if_pos c6] at H
        have c6b0 : decide (0 < (a0_1.size : Int)) = true := decide_eq_true c6
        have c6b1 : decide (0 < a0_1.size) = true := decide_eq_true (by omega)
        clear c6
        have H' := Aside0.mk H
        clear H
        have p7 : 0 ≤ (0 : Int) := (by omega)
        have q7 : 0 < a0_1.size := (by have : (0 : Int) < (a0_1.size : Int) := of_decide_eq_true (by first | (with_reducible assumption) | assumption); omega)
        have hx7 : ∀ h : 0 < a0_1.size, ((a0_1[0]'h).toNat : Int) = bt a0_1 0 := bt_at a0_1 0
        clear p7
        have qi7 : (0 < (a0_1.size : Int)) = True := eq_true (of_decide_eq_true (by first | (with_reducible assumption) | assumption))
        replace q7 := eq_true q7
        go_wp2
        go_meet
        case rel => exact ⟨_, (((bt a0_1 0) == 46)), (by first | rfl | (simp; done) | (simp [*]; done)), H', ⟨by first | omega | exact Nat.le_refl _⟩, ⟨by (with_reducible repeat (first | refine blk_drewN ?_ _ | refine blk_drew ?_ | refine blk_alloc ?_ _)); exact BK117.out⟩, ⟨by repeat (first | (with_reducible first | exact HB.out | apply below_alloc | apply pw_below_drewN | apply below_drew1 | refine below_set ?_ GE117.out) | exact HB.out)⟩⟩
      · rw [if_neg c6] at H
        exact absurd H (by simp)
    · rw [if_neg c5] at H
      have c5b0 : decide (1 < (a0_1.size : Int)) = false := decide_eq_false c5
      have c5b1 : decide (1 < a0_1.size) = false := decide_eq_false (by omega)
      clear c5
      (first | rw [c5b0] | (simp only [i64_w, i32_w]; rw [c5b0]) | skip)
      have H' := Aside0.mk H
      clear H
      go_wp2
      go_meet
      case rel => exact ⟨_, (false), (by first | rfl | (simp; done) | (simp [*]; done)), H', ⟨by first | omega | exact Nat.le_refl _⟩, ⟨by (with_reducible repeat (first | refine blk_drewN ?_ _ | refine blk_drew ?_ | refine blk_alloc ?_ _)); exact BK117.out⟩, ⟨by repeat (first | (with_reducible first | exact HB.out | apply below_alloc | apply pw_below_drewN | apply below_drew1 | refine below_set ?_ GE117.out) | exact HB.out)⟩⟩
  case rest =>
    clear HC2
    try clear p2
    try clear c4
    try clear c5
    try clear c5b0
    try clear c5b1
    try clear c6
    try clear c6b0
    try clear c6b1
    try clear p7
    try clear q7
    try clear hx7
    try clear qi7
    try clear hcz4_0
    try clear hcz4_1
    try clear hcz4_2
    try clear hcz4_3
    try clear hcz4_4
    try clear hfz4_0
    try clear hfz4_1
    try clear hfz4_2
    try clear hfz4_3
    try clear hfz4_4
    try clear p7
    try clear q7
    obtain ⟨kq, x14_1, rfl, HA, HJ1, BK117, HB⟩ := hcut
    cases kq with
    | zero => exact absurd HA.out (by simp [tollhouseref14_May.j0])
    | succ kj1 =>
      have H := HA.out
      clear HA
      simp only [tollhouseref14_May.j0] at H
      have HC8 := Aside0.mk H
      clear H
      go_upto_if 14 with (fail)
      go_cut [3] (fun v3 wc => ∃ (kq : Nat) (x3_7 : ByteArray), v3 = .string x3_7 ∧ Aside0 (tollhouseref14_May.j1 kq x3_7 a0_0 a0_1 a0_2 a0_3 l0_4 = some r) ∧ Aside0 (kq ≤ kj1) ∧ Aside0 (wc.heap[gb117]? = some (.cells #[.bool a0_0, .string a0_1, .int .i64 a0_2, .int .i64 a0_3, (.slice A0_4 l0_4.length c0_4)] 46 (0, 0))) ∧ Aside0 (Below w.heap.size w wc))
      case first =>
        have H := HC8.out
        clear HC8
        by_cases c9 : x14_1 = true
        · subst c9
          have H1 : (if 1 ≤ (a0_1.size : Int) then (tollhouseref14_May.j1 kj1 (a0_1.extract 1 a0_1.size) a0_0 a0_1 a0_2 a0_3 l0_4) else (none)) = some r := by rw [if_pos rfl] at H; exact H
          clear H
          have H := H1
          clear H1
          by_cases c10 : 1 ≤ (a0_1.size : Int)
          · rw [if_pos c10] at H
            have c10b0 := eq_true c10
            have c10b1 : decide (1 ≤ (a0_1.size : Int)) = true := decide_eq_true c10
            clear c10
            have H' := Aside0.mk H
            clear H
            go_wp2
            go_meet
            case rel => exact ⟨_, (a0_1.extract 1 a0_1.size), (by first | rfl | (simp; done) | (simp [*]; done)), H', ⟨by have := HJ1.out; first | omega | exact Nat.le_refl _⟩, ⟨by (with_reducible repeat (first | refine blk_drewN ?_ _ | refine blk_drew ?_ | refine blk_alloc ?_ _)); exact BK117.out⟩, ⟨by repeat (first | (with_reducible first | exact HB.out | apply below_alloc | apply pw_below_drewN | apply below_drew1 | refine below_set ?_ GE117.out) | exact HB.out)⟩⟩
          · rw [if_neg c10] at H
            exact absurd H (by simp)
        · replace c9 := Bool.eq_false_iff.mpr c9
          subst c9
          have H1 : (tollhouseref14_May.j1 kj1 a0_1 a0_0 a0_1 a0_2 a0_3 l0_4) = some r := by rw [if_neg (show ¬ (false = true) by decide)] at H; exact H
          clear H
          have H := H1
          clear H1
          have H' := Aside0.mk H
          clear H
          go_wp2
          go_meet
          case rel => exact ⟨_, (a0_1), (by first | rfl | (simp; done) | (simp [*]; done)), H', ⟨by have := HJ1.out; first | omega | exact Nat.le_refl _⟩, ⟨by (with_reducible repeat (first | refine blk_drewN ?_ _ | refine blk_drew ?_ | refine blk_alloc ?_ _)); exact BK117.out⟩, ⟨by repeat (first | (with_reducible first | exact HB.out | apply below_alloc | apply pw_below_drewN | apply below_drew1 | refine below_set ?_ GE117.out) | exact HB.out)⟩⟩
      case rest =>
        clear HC8
        try clear c1
        try clear p2
        try clear c4
        try clear c5
        try clear c5b0
        try clear c5b1
        try clear c6
        try clear c6b0
        try clear c6b1
        try clear p7
        try clear q7
        try clear hx7
        try clear qi7
        try clear c9
        try clear c10
        try clear c10b0
        try clear c10b1
        try clear hcz4_0
        try clear hcz4_1
        try clear hcz4_2
        try clear hcz4_3
        try clear hcz4_4
        try clear hfz4_0
        try clear hfz4_1
        try clear hfz4_2
        try clear hfz4_3
        try clear hfz4_4
        try clear p2
        try clear p7
        try clear q7
        obtain ⟨kq, x3_7, rfl, HA, HJ7, BK117, HB⟩ := hcut
        cases kq with
        | zero => exact absurd HA.out (by simp [tollhouseref14_May.j1])
        | succ kj7 =>
          have H := HA.out
          clear HA
          simp only [tollhouseref14_May.j1] at H
          have HC11 := Aside0.mk H
          clear H
          go_upto_region 4 with (fail)
          go_cut [24] (fun v24 wc => ∃ (kq : Nat) (x24_10 : Bool), v24 = .bool x24_10 ∧ Aside0 (tollhouseref14_May.j2 kq x24_10 a0_0 a0_1 a0_2 a0_3 l0_4 = some r) ∧ Aside0 (kq ≤ kj7) ∧ Aside0 (wc.heap[gb117]? = some (.cells #[.bool a0_0, .string a0_1, .int .i64 a0_2, .int .i64 a0_3, (.slice A0_4 l0_4.length c0_4)] 46 (0, 0))) ∧ Aside0 (Below w.heap.size w wc))
          case first =>
            have H := HC11.out
            clear HC11
            by_cases c12 : a0_1.toList = ([42] : List UInt8)
            · rw [if_pos c12] at H
              have c12b0 : (a0_1.toList == ([42] : List UInt8)) = true := beq_iff_eq.mpr c12
              have c12b1 : (a0_1.toList != ([42] : List UInt8)) = false := bne_eq_false_iff_eq.mpr c12
              clear c12
              (first | rw [c12b0] | (simp only [i64_w, i32_w]; rw [c12b0]) | skip)
              have H' := Aside0.mk H
              clear H
              have hcz13_0 : wc.cell? ⟨gb117, 0, none⟩ = some (.bool a0_0) := (blk_cell BK117.out 0).trans rfl
              have hcz13_1 : wc.cell? ⟨gb117, 1, none⟩ = some (.string a0_1) := (blk_cell BK117.out 1).trans rfl
              have hcz13_2 : wc.cell? ⟨gb117, 2, none⟩ = some (.int .i64 a0_2) := (blk_cell BK117.out 2).trans rfl
              have hcz13_3 : wc.cell? ⟨gb117, 3, none⟩ = some (.int .i64 a0_3) := (blk_cell BK117.out 3).trans rfl
              have hcz13_4 : wc.cell? ⟨gb117, 4, none⟩ = some (.slice A0_4 l0_4.length c0_4) := (blk_cell BK117.out 4).trans rfl
              have hfz13_0 := blk_frozen BK117.out 0
              have hfz13_1 := blk_frozen BK117.out 1
              have hfz13_2 := blk_frozen BK117.out 2
              have hfz13_3 := blk_frozen BK117.out 3
              have hfz13_4 := blk_frozen BK117.out 4
              go_wp2
              go_meet
              case rel => exact ⟨_, (false), (by first | rfl | (simp; done) | (simp [*]; done)), H', ⟨by have := HJ1.out; have := HJ7.out; first | omega | exact Nat.le_refl _⟩, ⟨by (with_reducible repeat (first | refine blk_drewN ?_ _ | refine blk_drew ?_ | refine blk_alloc ?_ _)); exact BK117.out⟩, ⟨by repeat (first | (with_reducible first | exact HB.out | apply below_alloc | apply pw_below_drewN | apply below_drew1 | refine below_set ?_ GE117.out) | exact HB.out)⟩⟩
            · rw [if_neg c12] at H
              have c12b0 : (a0_1.toList == ([42] : List UInt8)) = false := beq_eq_false_iff_ne.mpr c12
              have c12b1 : (a0_1.toList != ([42] : List UInt8)) = true := bne_iff_ne.mpr c12
              (first | rw [c12b0] | (simp only [i64_w, i32_w]; rw [c12b0]) | skip)
              replace H := Option.bind_eq_some_iff.mp H
              obtain ⟨t118, A140, H⟩ := H
              replace H : (tollhouseref14_May.j2 kj7 (!t118) a0_0 a0_1 a0_2 a0_3 l0_4) = some r := H
              have A14 := Aside0.mk A140
              clear A140
              have H' := Aside0.mk H
              clear H
              have hcz15_0 : wc.cell? ⟨gb117, 0, none⟩ = some (.bool a0_0) := (blk_cell BK117.out 0).trans rfl
              have hcz15_1 : wc.cell? ⟨gb117, 1, none⟩ = some (.string a0_1) := (blk_cell BK117.out 1).trans rfl
              have hcz15_2 : wc.cell? ⟨gb117, 2, none⟩ = some (.int .i64 a0_2) := (blk_cell BK117.out 2).trans rfl
              have hcz15_3 : wc.cell? ⟨gb117, 3, none⟩ = some (.int .i64 a0_3) := (blk_cell BK117.out 3).trans rfl
              have hcz15_4 : wc.cell? ⟨gb117, 4, none⟩ = some (.slice A0_4 l0_4.length c0_4) := (blk_cell BK117.out 4).trans rfl
              have hfz15_0 := blk_frozen BK117.out 0
              have hfz15_1 := blk_frozen BK117.out 1
              have hfz15_2 := blk_frozen BK117.out 2
              have hfz15_3 := blk_frozen BK117.out 3
              have hfz15_4 := blk_frozen BK117.out 4
              go_wp2_with (first | (go_at_call 64; (with_reducible refine (tollhouseref10_Named.calls kj7 x3_7 t118 _ (Glob.below HGl.out (by repeat (first | (with_reducible first | exact HB.out | apply below_alloc | apply pw_below_drewN | apply below_drew1 | refine below_set ?_ GE117.out) | exact HB.out))) A14.out).mono ?_); rintro e w16 ⟨rfl, hb⟩; have n0_ := Aside0.mk (blk_below (g := gb117) (o := .cells #[.bool a0_0, .string a0_1, .int .i64 a0_2, .int .i64 a0_3, .slice A0_4 l0_4.length c0_4] 46 (0, 0)) (by (with_reducible repeat (first | refine blk_drewN ?_ _ | refine blk_drew ?_ | refine blk_alloc ?_ _)); exact BK117.out) hb); have n1_ := Aside0.mk (below_step (by repeat (first | (with_reducible first | exact HB.out | apply below_alloc | apply pw_below_drewN | apply below_drew1 | refine below_set ?_ GE117.out) | exact HB.out)) hb); clear BK117; clear HB; have BK117 := n0_; have HB := n1_; clear n0_ n1_; (try clear hb); (try clear hb2); (try clear hk); (try clear hi)))
              go_meet
              case rel => exact ⟨_, (!t118), (by first | rfl | (simp; done) | (simp [*]; done)), H', ⟨by have := HJ1.out; have := HJ7.out; first | omega | exact Nat.le_refl _⟩, ⟨by (with_reducible repeat (first | refine blk_drewN ?_ _ | refine blk_drew ?_ | refine blk_alloc ?_ _)); exact BK117.out⟩, ⟨by repeat (first | (with_reducible first | exact HB.out | apply below_alloc | apply pw_below_drewN | apply below_drew1 | refine below_set ?_ GE117.out) | exact HB.out)⟩⟩
          case rest =>
            clear HC11
            try clear c1
            try clear p2
            try clear c4
            try clear c5
            try clear c5b0
            try clear c5b1
            try clear c6
            try clear c6b0
            try clear c6b1
            try clear p7
            try clear q7
            try clear hx7
            try clear qi7
            try clear c9
            try clear c10
            try clear c10b0
            try clear c10b1
            try clear c12
            try clear c12b0
            try clear c12b1
            try clear hcz13_0
            try clear hcz13_1
            try clear hcz13_2
            try clear hcz13_3
            try clear hcz13_4
            try clear hcz15_0
            try clear hcz15_1
            try clear hcz15_2
            try clear hcz15_3
            try clear hcz15_4
            try clear hcz4_0
            try clear hcz4_1
            try clear hcz4_2
            try clear hcz4_3
            try clear hcz4_4
            try clear hfz13_0
            try clear hfz13_1
            try clear hfz13_2
            try clear hfz13_3
            try clear hfz13_4
            try clear hfz15_0
            try clear hfz15_1
            try clear hfz15_2
            try clear hfz15_3
            try clear hfz15_4
            try clear hfz4_0
            try clear hfz4_1
            try clear hfz4_2
            try clear hfz4_3
            try clear hfz4_4
            try clear p2
            try clear p7
            try clear q7
            obtain ⟨kq, x24_10, rfl, HA, HJ10, BK117, HB⟩ := hcut
            cases kq with
            | zero => exact absurd HA.out (by simp [tollhouseref14_May.j2])
            | succ kj10 =>
              have H := HA.out
              clear HA
              simp only [tollhouseref14_May.j2] at H
              by_cases c17 : x24_10 = true
              · subst c17
                have H1 : (some false) = some r := by rw [if_pos rfl] at H; exact H
                clear H
                have H := H1
                clear H1
                obtain rfl := Option.some.inj H
                go_wp2
                go_ret
                exact ⟨by first | rfl | (simp [errW_none, errW_some] <;> rfl) | (simp [*, errW_none, errW_some] <;> rfl), by repeat (first | (with_reducible first | exact HB.out | apply below_alloc | apply pw_below_drewN | apply below_drew1 | refine below_set ?_ GE117.out) | exact HB.out)⟩
              · replace c17 := Bool.eq_false_iff.mpr c17
                subst c17
                have H1 : (if a0_2 < 1 then (tollhouseref14_May.j3 kj10 true a0_0 a0_1 a0_2 a0_3 l0_4) else (if a0_3 > 65535 then (tollhouseref14_May.j3 kj10 true a0_0 a0_1 a0_2 a0_3 l0_4) else (if a0_2 > a0_3 then (tollhouseref14_May.j3 kj10 true a0_0 a0_1 a0_2 a0_3 l0_4) else (tollhouseref14_May.j3 kj10 (decide ((l0_4.length : Int) > 8)) a0_0 a0_1 a0_2 a0_3 l0_4)))) = some r := by rw [if_neg (show ¬ (false = true) by decide)] at H; exact H
                clear H
                have H := H1
                clear H1
                have HC18 := Aside0.mk H
                clear H
                go_upto_region 6 with (fail)
                go_cut [45] (fun v45 wc => ∃ (kq : Nat) (x45_17 : Bool), v45 = .bool x45_17 ∧ Aside0 (tollhouseref14_May.j3 kq x45_17 a0_0 a0_1 a0_2 a0_3 l0_4 = some r) ∧ Aside0 (kq ≤ kj10) ∧ Aside0 (wc.heap[gb117]? = some (.cells #[.bool a0_0, .string a0_1, .int .i64 a0_2, .int .i64 a0_3, (.slice A0_4 l0_4.length c0_4)] 46 (0, 0))) ∧ Aside0 (Below w.heap.size w wc))
                case first =>
                  have H := HC18.out
                  clear HC18
                  by_cases c19 : a0_2 < 1
                  · rw [if_pos c19] at H
                    have c19b0 : decide (a0_2 < 1) = true := decide_eq_true c19
                    clear c19
                    (first | rw [c19b0] | (simp only [i64_w, i32_w]; rw [c19b0]) | skip)
                    have H' := Aside0.mk H
                    clear H
                    have hcz20_0 : wc.cell? ⟨gb117, 0, none⟩ = some (.bool a0_0) := (blk_cell BK117.out 0).trans rfl
                    have hcz20_1 : wc.cell? ⟨gb117, 1, none⟩ = some (.string a0_1) := (blk_cell BK117.out 1).trans rfl
                    have hcz20_2 : wc.cell? ⟨gb117, 2, none⟩ = some (.int .i64 a0_2) := (blk_cell BK117.out 2).trans rfl
                    have hcz20_3 : wc.cell? ⟨gb117, 3, none⟩ = some (.int .i64 a0_3) := (blk_cell BK117.out 3).trans rfl
                    have hcz20_4 : wc.cell? ⟨gb117, 4, none⟩ = some (.slice A0_4 l0_4.length c0_4) := (blk_cell BK117.out 4).trans rfl
                    have hfz20_0 := blk_frozen BK117.out 0
                    have hfz20_1 := blk_frozen BK117.out 1
                    have hfz20_2 := blk_frozen BK117.out 2
                    have hfz20_3 := blk_frozen BK117.out 3
                    have hfz20_4 := blk_frozen BK117.out 4
                    go_wp2
                    go_meet
                    case rel => exact ⟨_, (true), (by first | rfl | (simp; done) | (simp [*]; done)), H', ⟨by have := HJ1.out; have := HJ7.out; have := HJ10.out; first | omega | exact Nat.le_refl _⟩, ⟨by (with_reducible repeat (first | refine blk_drewN ?_ _ | refine blk_drew ?_ | refine blk_alloc ?_ _)); exact BK117.out⟩, ⟨by repeat (first | (with_reducible first | exact HB.out | apply below_alloc | apply pw_below_drewN | apply below_drew1 | refine below_set ?_ GE117.out) | exact HB.out)⟩⟩
                  · rw [if_neg c19] at H
                    have c19b0 : decide (a0_2 < 1) = false := decide_eq_false c19
                    clear c19
                    (first | rw [c19b0] | (simp only [i64_w, i32_w]; rw [c19b0]) | skip)
                    by_cases c21 : a0_3 > 65535
                    · rw [if_pos c21] at H
                      have c21b0 : decide (65535 < a0_3) = true := decide_eq_true c21
                      clear c21
                      have H' := Aside0.mk H
                      clear H
                      have hcz22_0 : wc.cell? ⟨gb117, 0, none⟩ = some (.bool a0_0) := (blk_cell BK117.out 0).trans rfl
                      have hcz22_1 : wc.cell? ⟨gb117, 1, none⟩ = some (.string a0_1) := (blk_cell BK117.out 1).trans rfl
                      have hcz22_2 : wc.cell? ⟨gb117, 2, none⟩ = some (.int .i64 a0_2) := (blk_cell BK117.out 2).trans rfl
                      have hcz22_3 : wc.cell? ⟨gb117, 3, none⟩ = some (.int .i64 a0_3) := (blk_cell BK117.out 3).trans rfl
                      have hcz22_4 : wc.cell? ⟨gb117, 4, none⟩ = some (.slice A0_4 l0_4.length c0_4) := (blk_cell BK117.out 4).trans rfl
                      have hfz22_0 := blk_frozen BK117.out 0
                      have hfz22_1 := blk_frozen BK117.out 1
                      have hfz22_2 := blk_frozen BK117.out 2
                      have hfz22_3 := blk_frozen BK117.out 3
                      have hfz22_4 := blk_frozen BK117.out 4
                      go_wp2
                      go_meet
                      case rel => exact ⟨_, (true), (by first | rfl | (simp; done) | (simp [*]; done)), H', ⟨by have := HJ1.out; have := HJ7.out; have := HJ10.out; first | omega | exact Nat.le_refl _⟩, ⟨by (with_reducible repeat (first | refine blk_drewN ?_ _ | refine blk_drew ?_ | refine blk_alloc ?_ _)); exact BK117.out⟩, ⟨by repeat (first | (with_reducible first | exact HB.out | apply below_alloc | apply pw_below_drewN | apply below_drew1 | refine below_set ?_ GE117.out) | exact HB.out)⟩⟩
                    · rw [if_neg c21] at H
                      have c21b0 : decide (65535 < a0_3) = false := decide_eq_false c21
                      clear c21
                      by_cases c23 : a0_2 > a0_3
                      · rw [if_pos c23] at H
                        have c23b0 : decide (a0_3 < a0_2) = true := decide_eq_true c23
                        clear c23
                        have H' := Aside0.mk H
                        clear H
                        have hcz24_0 : wc.cell? ⟨gb117, 0, none⟩ = some (.bool a0_0) := (blk_cell BK117.out 0).trans rfl
                        have hcz24_1 : wc.cell? ⟨gb117, 1, none⟩ = some (.string a0_1) := (blk_cell BK117.out 1).trans rfl
                        have hcz24_2 : wc.cell? ⟨gb117, 2, none⟩ = some (.int .i64 a0_2) := (blk_cell BK117.out 2).trans rfl
                        have hcz24_3 : wc.cell? ⟨gb117, 3, none⟩ = some (.int .i64 a0_3) := (blk_cell BK117.out 3).trans rfl
                        have hcz24_4 : wc.cell? ⟨gb117, 4, none⟩ = some (.slice A0_4 l0_4.length c0_4) := (blk_cell BK117.out 4).trans rfl
                        have hfz24_0 := blk_frozen BK117.out 0
                        have hfz24_1 := blk_frozen BK117.out 1
                        have hfz24_2 := blk_frozen BK117.out 2
                        have hfz24_3 := blk_frozen BK117.out 3
                        have hfz24_4 := blk_frozen BK117.out 4
                        go_wp2
                        go_meet
                        case rel => exact ⟨_, (true), (by first | rfl | (simp; done) | (simp [*]; done)), H', ⟨by have := HJ1.out; have := HJ7.out; have := HJ10.out; first | omega | exact Nat.le_refl _⟩, ⟨by (with_reducible repeat (first | refine blk_drewN ?_ _ | refine blk_drew ?_ | refine blk_alloc ?_ _)); exact BK117.out⟩, ⟨by repeat (first | (with_reducible first | exact HB.out | apply below_alloc | apply pw_below_drewN | apply below_drew1 | refine below_set ?_ GE117.out) | exact HB.out)⟩⟩
                      · rw [if_neg c23] at H
                        have c23b0 : decide (a0_3 < a0_2) = false := decide_eq_false c23
                        clear c23
                        have H' := Aside0.mk H
                        clear H
                        have hcz25_0 : wc.cell? ⟨gb117, 0, none⟩ = some (.bool a0_0) := (blk_cell BK117.out 0).trans rfl
                        have hcz25_1 : wc.cell? ⟨gb117, 1, none⟩ = some (.string a0_1) := (blk_cell BK117.out 1).trans rfl
                        have hcz25_2 : wc.cell? ⟨gb117, 2, none⟩ = some (.int .i64 a0_2) := (blk_cell BK117.out 2).trans rfl
                        have hcz25_3 : wc.cell? ⟨gb117, 3, none⟩ = some (.int .i64 a0_3) := (blk_cell BK117.out 3).trans rfl
                        have hcz25_4 : wc.cell? ⟨gb117, 4, none⟩ = some (.slice A0_4 l0_4.length c0_4) := (blk_cell BK117.out 4).trans rfl
                        have hfz25_0 := blk_frozen BK117.out 0
                        have hfz25_1 := blk_frozen BK117.out 1
                        have hfz25_2 := blk_frozen BK117.out 2
                        have hfz25_3 := blk_frozen BK117.out 3
                        have hfz25_4 := blk_frozen BK117.out 4
                        go_wp2
                        go_meet
                        case rel => exact ⟨_, (decide ((l0_4.length : Int) > 8)), (by first | rfl | (simp; done) | (simp [*]; done)), H', ⟨by have := HJ1.out; have := HJ7.out; have := HJ10.out; first | omega | exact Nat.le_refl _⟩, ⟨by (with_reducible repeat (first | refine blk_drewN ?_ _ | refine blk_drew ?_ | refine blk_alloc ?_ _)); exact BK117.out⟩, ⟨by repeat (first | (with_reducible first | exact HB.out | apply below_alloc | apply pw_below_drewN | apply below_drew1 | refine below_set ?_ GE117.out) | exact HB.out)⟩⟩
                case rest =>
                  clear HC18
                  try clear c1
                  try clear c2
                  try clear p2
                  try clear c4
                  try clear c5
                  try clear c5b0
                  try clear c5b1
                  try clear c6
                  try clear c6b0
                  try clear c6b1
                  try clear p7
                  try clear q7
                  try clear hx7
                  try clear qi7
                  try clear c9
                  try clear c10
                  try clear c10b0
                  try clear c10b1
                  try clear c12
                  try clear c12b0
                  try clear c12b1
                  try clear c17
                  try clear c19
                  try clear c19b0
                  try clear c21
                  try clear c21b0
                  try clear c23
                  try clear c23b0
                  try clear hcz13_0
                  try clear hcz13_1
                  try clear hcz13_2
                  try clear hcz13_3
                  try clear hcz13_4
                  try clear hcz15_0
                  try clear hcz15_1
                  try clear hcz15_2
                  try clear hcz15_3
                  try clear hcz15_4
                  try clear hcz20_0
                  try clear hcz20_1
                  try clear hcz20_2
                  try clear hcz20_3
                  try clear hcz20_4
                  try clear hcz22_0
                  try clear hcz22_1
                  try clear hcz22_2
                  try clear hcz22_3
                  try clear hcz22_4
                  try clear hcz24_0
                  try clear hcz24_1
                  try clear hcz24_2
                  try clear hcz24_3
                  try clear hcz24_4
                  try clear hcz25_0
                  try clear hcz25_1
                  try clear hcz25_2
                  try clear hcz25_3
                  try clear hcz25_4
                  try clear hcz4_0
                  try clear hcz4_1
                  try clear hcz4_2
                  try clear hcz4_3
                  try clear hcz4_4
                  try clear hfz13_0
                  try clear hfz13_1
                  try clear hfz13_2
                  try clear hfz13_3
                  try clear hfz13_4
                  try clear hfz15_0
                  try clear hfz15_1
                  try clear hfz15_2
                  try clear hfz15_3
                  try clear hfz15_4
                  try clear hfz20_0
                  try clear hfz20_1
                  try clear hfz20_2
                  try clear hfz20_3
                  try clear hfz20_4
                  try clear hfz22_0
                  try clear hfz22_1
                  try clear hfz22_2
                  try clear hfz22_3
                  try clear hfz22_4
                  try clear hfz24_0
                  try clear hfz24_1
                  try clear hfz24_2
                  try clear hfz24_3
                  try clear hfz24_4
                  try clear hfz25_0
                  try clear hfz25_1
                  try clear hfz25_2
                  try clear hfz25_3
                  try clear hfz25_4
                  try clear hfz4_0
                  try clear hfz4_1
                  try clear hfz4_2
                  try clear hfz4_3
                  try clear hfz4_4
                  try clear p2
                  try clear p7
                  try clear q7
                  obtain ⟨kq, x45_17, rfl, HA, HJ17, BK117, HB⟩ := hcut
                  cases kq with
                  | zero => exact absurd HA.out (by simp [tollhouseref14_May.j3])
                  | succ kj17 =>
                    have H := HA.out
                    clear HA
                    simp only [tollhouseref14_May.j3] at H
                    by_cases c26 : x45_17 = true
                    · subst c26
                      have H1 : (some false) = some r := by rw [if_pos rfl] at H; exact H
                      clear H
                      have H := H1
                      clear H1
                      obtain rfl := Option.some.inj H
                      go_wp2
                      go_ret
                      exact ⟨by first | rfl | (simp [errW_none, errW_some] <;> rfl) | (simp [*, errW_none, errW_some] <;> rfl), by repeat (first | (with_reducible first | exact HB.out | apply below_alloc | apply pw_below_drewN | apply below_drew1 | refine below_set ?_ GE117.out) | exact HB.out)⟩
                    · replace c26 := Bool.eq_false_iff.mpr c26
                      subst c26
                      have H1 : (tollhouseref14_May.l0 kj17 0 a0_0 a0_1 a0_2 a0_3 l0_4) = some r := by rw [if_neg (show ¬ (false = true) by decide)] at H; exact H
                      clear H
                      have H := H1
                      clear H1
                      have H' := Aside0.mk H
                      clear H
                      go_wp2
                      go_loopg [4] kj17 (fun kq v4 w' => ∃ (x4_5 : Int), v4 = .int .i64 x4_5 ∧ Aside0 (tollhouseref14_May.l0 kq x4_5 a0_0 a0_1 a0_2 a0_3 l0_4 = some r) ∧ Aside0 (kq ≤ kj17) ∧ Aside0 (w'.heap[gb117]? = some (.cells #[.bool a0_0, .string a0_1, .int .i64 a0_2, .int .i64 a0_3, (.slice A0_4 l0_4.length c0_4)] 46 (0, 0))) ∧ Aside0 (Below w.heap.size w w'))
                      case atStart => exact ⟨(0), (by first | rfl | (simp; done) | (simp [*]; done)), H', ⟨Nat.le_refl _⟩, ⟨by (with_reducible repeat (first | refine blk_drewN ?_ _ | refine blk_drew ?_ | refine blk_alloc ?_ _)); exact BK117.out⟩, ⟨by repeat (first | (with_reducible first | exact HB.out | apply below_alloc | apply pw_below_drewN | apply below_drew1 | refine below_set ?_ GE117.out) | exact HB.out)⟩⟩
                      case round =>
                        clear H'
                        try clear c1
                        try clear c2
                        try clear p2
                        try clear c4
                        try clear c5
                        try clear c5b0
                        try clear c5b1
                        try clear c6
                        try clear c6b0
                        try clear c6b1
                        try clear p7
                        try clear q7
                        try clear hx7
                        try clear qi7
                        try clear c9
                        try clear c10
                        try clear c10b0
                        try clear c10b1
                        try clear c12
                        try clear c12b0
                        try clear c12b1
                        try clear c17
                        try clear c19
                        try clear c19b0
                        try clear c21
                        try clear c21b0
                        try clear c23
                        try clear c23b0
                        try clear c26
                        try clear hcz13_0
                        try clear hcz13_1
                        try clear hcz13_2
                        try clear hcz13_3
                        try clear hcz13_4
                        try clear hcz15_0
                        try clear hcz15_1
                        try clear hcz15_2
                        try clear hcz15_3
                        try clear hcz15_4
                        try clear hcz20_0
                        try clear hcz20_1
                        try clear hcz20_2
                        try clear hcz20_3
                        try clear hcz20_4
                        try clear hcz22_0
                        try clear hcz22_1
                        try clear hcz22_2
                        try clear hcz22_3
                        try clear hcz22_4
                        try clear hcz24_0
                        try clear hcz24_1
                        try clear hcz24_2
                        try clear hcz24_3
                        try clear hcz24_4
                        try clear hcz25_0
                        try clear hcz25_1
                        try clear hcz25_2
                        try clear hcz25_3
                        try clear hcz25_4
                        try clear hcz4_0
                        try clear hcz4_1
                        try clear hcz4_2
                        try clear hcz4_3
                        try clear hcz4_4
                        try clear hfz13_0
                        try clear hfz13_1
                        try clear hfz13_2
                        try clear hfz13_3
                        try clear hfz13_4
                        try clear hfz15_0
                        try clear hfz15_1
                        try clear hfz15_2
                        try clear hfz15_3
                        try clear hfz15_4
                        try clear hfz20_0
                        try clear hfz20_1
                        try clear hfz20_2
                        try clear hfz20_3
                        try clear hfz20_4
                        try clear hfz22_0
                        try clear hfz22_1
                        try clear hfz22_2
                        try clear hfz22_3
                        try clear hfz22_4
                        try clear hfz24_0
                        try clear hfz24_1
                        try clear hfz24_2
                        try clear hfz24_3
                        try clear hfz24_4
                        try clear hfz25_0
                        try clear hfz25_1
                        try clear hfz25_2
                        try clear hfz25_3
                        try clear hfz25_4
                        try clear hfz4_0
                        try clear hfz4_1
                        try clear hfz4_2
                        try clear hfz4_3
                        try clear hfz4_4
                        try clear p2
                        try clear p7
                        try clear q7
                        obtain ⟨x4_5, rfl, HA, HK5, BK117, HB⟩ := hrel
                        cases gk with
                        | zero => exact absurd HA.out (by simp [tollhouseref14_May.l0])
                        | succ k5 =>
                          have H := HA.out
                          clear HA
                          simp only [tollhouseref14_May.l0] at H
                          by_cases c27 : x4_5 < (l0_4.length : Int)
                          · rw [if_pos c27] at H
                            have c27b0 : decide (x4_5 < (l0_4.length : Int)) = true := decide_eq_true c27
                            clear c27
                            by_cases c28 : 0 ≤ x4_5
                            · rw [if_pos c28] at H
                              have c28b0 : decide (0 ≤ x4_5) = true := decide_eq_true c28
                              clear c28
                              replace H := Option.bind_eq_some_iff.mp H
                              obtain ⟨t120, A290, H⟩ := H
                              replace H : (if t120 = true then (tollhouseref14_May.l0 k5 (wrap64 (x4_5 + 1)) a0_0 a0_1 a0_2 a0_3 l0_4) else (some false)) = some r := H
                              have A29 := Aside0.mk A290
                              clear A290
                              by_cases c30 : t120 = true
                              · subst c30
                                have H1 : (tollhouseref14_May.l0 k5 (wrap64 (x4_5 + 1)) a0_0 a0_1 a0_2 a0_3 l0_4) = some r := by rw [if_pos rfl] at H; exact H
                                clear H
                                have H := H1
                                clear H1
                                have H' := Aside0.mk H
                                clear H
                                have hcz31_0 : wr.cell? ⟨gb117, 0, none⟩ = some (.bool a0_0) := (blk_cell BK117.out 0).trans rfl
                                have hcz31_1 : wr.cell? ⟨gb117, 1, none⟩ = some (.string a0_1) := (blk_cell BK117.out 1).trans rfl
                                have hcz31_2 : wr.cell? ⟨gb117, 2, none⟩ = some (.int .i64 a0_2) := (blk_cell BK117.out 2).trans rfl
                                have hcz31_3 : wr.cell? ⟨gb117, 3, none⟩ = some (.int .i64 a0_3) := (blk_cell BK117.out 3).trans rfl
                                have hcz31_4 : wr.cell? ⟨gb117, 4, none⟩ = some (.slice A0_4 l0_4.length c0_4) := (blk_cell BK117.out 4).trans rfl
                                have hfz31_0 := blk_frozen BK117.out 0
                                have hfz31_1 := blk_frozen BK117.out 1
                                have hfz31_2 := blk_frozen BK117.out 2
                                have hfz31_3 := blk_frozen BK117.out 3
                                have hfz31_4 := blk_frozen BK117.out 4
                                have p119 : 0 ≤ (x4_5 : Int) := of_decide_eq_true (by first | (with_reducible assumption) | assumption)
                                have q119 : x4_5 < (l0_4.length : Int) := of_decide_eq_true (by first | (with_reducible assumption) | assumption)
                                obtain ⟨ad119, e119, hx119_0⟩ := Kd.at_string HR0_4.out x4_5 p119 q119
                                cases e119
                                replace hx119_0 := (HB.out.cell (World.block_lt_of_cell? w _ hx119_0)).trans hx119_0
                                replace p119 := eq_true p119
                                replace q119 := eq_true q119
                                go_wp2_with (first | ((with_reducible refine gate_callee (f := 65) rfl ?_); refine goesL_ (some 58) rfl rfl Tryz.func65 (by kernel_rfl) rfl #[.string (rdOf ByteArray.empty l0_4 x4_5)] rfl (by (try simp only [List.map_toArray, List.map_cons, List.map_nil]); first | done | rfl | (simp only [List.length_drop, List.length_take]; rfl)) ?_; (with_reducible refine (tollhouseref02_Token.calls (rdOf ByteArray.empty l0_4 x4_5) true _ (Glob.below HGl.out (by repeat (first | (with_reducible first | exact HB.out | apply below_alloc | apply pw_below_drewN | apply below_drew1 | refine below_set ?_ GE117.out) | exact HB.out))) A29.out).mono ?_); rintro e w' ⟨rfl, ⟨nd, rfl⟩⟩; refine ⟨_, rfl, ?_⟩))
                                go_roundg k5
                                case measure => have := HJ1.out; have := HJ7.out; have := HJ10.out; have := HJ17.out; have := HK5.out; omega
                                case rel => exact ⟨(wrap64 (x4_5 + 1)), (by first | rfl | (simp; done) | (simp [*]; done)), H', ⟨by have := HJ1.out; have := HJ7.out; have := HJ10.out; have := HJ17.out; have := HK5.out; omega⟩, ⟨by (with_reducible repeat (first | refine blk_drewN ?_ _ | refine blk_drew ?_ | refine blk_alloc ?_ _)); exact BK117.out⟩, ⟨by repeat (first | (with_reducible first | exact HB.out | apply below_alloc | apply pw_below_drewN | apply below_drew1 | refine below_set ?_ GE117.out) | exact HB.out)⟩⟩
                              · replace c30 := Bool.eq_false_iff.mpr c30
                                subst c30
                                have H1 : (some false) = some r := by rw [if_neg (show ¬ (false = true) by decide)] at H; exact H
                                clear H
                                have H := H1
                                clear H1
                                obtain rfl := Option.some.inj H
                                have hcz32_0 : wr.cell? ⟨gb117, 0, none⟩ = some (.bool a0_0) := (blk_cell BK117.out 0).trans rfl
                                have hcz32_1 : wr.cell? ⟨gb117, 1, none⟩ = some (.string a0_1) := (blk_cell BK117.out 1).trans rfl
                                have hcz32_2 : wr.cell? ⟨gb117, 2, none⟩ = some (.int .i64 a0_2) := (blk_cell BK117.out 2).trans rfl
                                have hcz32_3 : wr.cell? ⟨gb117, 3, none⟩ = some (.int .i64 a0_3) := (blk_cell BK117.out 3).trans rfl
                                have hcz32_4 : wr.cell? ⟨gb117, 4, none⟩ = some (.slice A0_4 l0_4.length c0_4) := (blk_cell BK117.out 4).trans rfl
                                have hfz32_0 := blk_frozen BK117.out 0
                                have hfz32_1 := blk_frozen BK117.out 1
                                have hfz32_2 := blk_frozen BK117.out 2
                                have hfz32_3 := blk_frozen BK117.out 3
                                have hfz32_4 := blk_frozen BK117.out 4
                                have p119 : 0 ≤ (x4_5 : Int) := of_decide_eq_true (by first | (with_reducible assumption) | assumption)
                                have q119 : x4_5 < (l0_4.length : Int) := of_decide_eq_true (by first | (with_reducible assumption) | assumption)
                                obtain ⟨ad119, e119, hx119_0⟩ := Kd.at_string HR0_4.out x4_5 p119 q119
                                cases e119
                                replace hx119_0 := (HB.out.cell (World.block_lt_of_cell? w _ hx119_0)).trans hx119_0
                                replace p119 := eq_true p119
                                replace q119 := eq_true q119
                                go_wp2_with (first | ((with_reducible refine gate_callee (f := 65) rfl ?_); refine goesL_ (some 58) rfl rfl Tryz.func65 (by kernel_rfl) rfl #[.string (rdOf ByteArray.empty l0_4 x4_5)] rfl (by (try simp only [List.map_toArray, List.map_cons, List.map_nil]); first | done | rfl | (simp only [List.length_drop, List.length_take]; rfl)) ?_; (with_reducible refine (tollhouseref02_Token.calls (rdOf ByteArray.empty l0_4 x4_5) false _ (Glob.below HGl.out (by repeat (first | (with_reducible first | exact HB.out | apply below_alloc | apply pw_below_drewN | apply below_drew1 | refine below_set ?_ GE117.out) | exact HB.out))) A29.out).mono ?_); rintro e w' ⟨rfl, ⟨nd, rfl⟩⟩; refine ⟨_, rfl, ?_⟩))
                                go_ret
                                exact ⟨by first | rfl | (simp [errW_none, errW_some] <;> rfl) | (simp [*, errW_none, errW_some] <;> rfl), by repeat (first | (with_reducible first | exact HB.out | apply below_alloc | apply pw_below_drewN | apply below_drew1 | refine below_set ?_ GE117.out) | exact HB.out)⟩
                            · rw [if_neg c28] at H
                              exact absurd H (by simp)
                          · rw [if_neg c27] at H
                            have c27b0 : decide (x4_5 < (l0_4.length : Int)) = false := decide_eq_false c27
                            clear c27
                            obtain rfl := Option.some.inj H
                            have hcz33_0 : wr.cell? ⟨gb117, 0, none⟩ = some (.bool a0_0) := (blk_cell BK117.out 0).trans rfl
                            have hcz33_1 : wr.cell? ⟨gb117, 1, none⟩ = some (.string a0_1) := (blk_cell BK117.out 1).trans rfl
                            have hcz33_2 : wr.cell? ⟨gb117, 2, none⟩ = some (.int .i64 a0_2) := (blk_cell BK117.out 2).trans rfl
                            have hcz33_3 : wr.cell? ⟨gb117, 3, none⟩ = some (.int .i64 a0_3) := (blk_cell BK117.out 3).trans rfl
                            have hcz33_4 : wr.cell? ⟨gb117, 4, none⟩ = some (.slice A0_4 l0_4.length c0_4) := (blk_cell BK117.out 4).trans rfl
                            have hfz33_0 := blk_frozen BK117.out 0
                            have hfz33_1 := blk_frozen BK117.out 1
                            have hfz33_2 := blk_frozen BK117.out 2
                            have hfz33_3 := blk_frozen BK117.out 3
                            have hfz33_4 := blk_frozen BK117.out 4
                            go_wp2
                            go_ret
                            exact ⟨by first | rfl | (simp [errW_none, errW_some] <;> rfl) | (simp [*, errW_none, errW_some] <;> rfl), by repeat (first | (with_reducible first | exact HB.out | apply below_alloc | apply pw_below_drewN | apply below_drew1 | refine below_set ?_ GE117.out) | exact HB.out)⟩

end Go.Proofs.YthmnhbalmglohaaGreatDoor.X

-- PRINTED by print.py (a twelfth state) out of the translation. Not trusted: Lean checks it.
namespace Go.Proofs.YthmnhbalmglohaaGreatDoor.X
open Go.RowKit Go.Proofs.YthmnhbalmglohaaGreatDoorW.PrintWords Go.Proofs.YthmnhbalmglohaaGreatDoorW.PrintLast Go.Proofs.YthmnhbalmglohaaGreatDoorW.PrintMore
attribute [local go_sem] max2_int min2_int max_two min_two max_three min_three max_four min_four   -- for this text's walks alone
set_option linter.unusedVariables false
set_option linter.unusedSimpArgs false
open Go.Proofs.YthmnhbalmglohaaGreatDoor.T

/-! ### tollhouseref14_All: function 26 -/
def tollhouseref14_All.l0 : Nat → List (S46) → Int → Option (Bool)
  | 0, _, _ => none
  | k + 1, x0, x3 => if x3 < (x0.length : Int) then (if 0 ≤ x3 then ((tollhouseref14_May.f k ((rd_T46 x0 x3).f0) ((rd_T46 x0 x3).f1) ((rd_T46 x0 x3).f2) ((rd_T46 x0 x3).f3) ((rd_T46 x0 x3).f4)).bind fun t122 => (if t122 = true then (tollhouseref14_All.l0 k x0 (wrap64 (x3 + 1))) else (some false))) else (none)) else (some (decide ((x0.length : Int) ≤ 16)))
def tollhouseref14_All.f (k : Nat) (l0 : List (S46)) : Option (Bool) := tollhouseref14_All.l0 k l0 0
theorem tollhouseref14_All.mono_l : ∀ k, (∀ y0 y1, LeO (tollhouseref14_All.l0 k y0 y1) (tollhouseref14_All.l0 (k + 1) y0 y1))
  | 0 => fun _ _ r h => by simp [tollhouseref14_All.l0] at h
  | k + 1 => by
    have ih0 := tollhouseref14_All.mono_l k
    · intro y0 y1
      unfold tollhouseref14_All.l0
      repeat' first
      | (with_reducible exact ih0 _ _)
      | (with_reducible exact tollhouseref14_May.mono _ _ _ _ _ _)
      | (with_reducible exact LeO.refl _)
      | (with_reducible exact LeO.none _)
      | (with_reducible refine LeO.ite ?_ ?_)
      | (with_reducible refine LeO.bind ?_ (fun _ => ?_))
      | exact ih0 _ _
      | exact tollhouseref14_May.mono _ _ _ _ _ _
      | exact LeO.none _
      | refine LeO.ite ?_ ?_
      | refine LeO.bind ?_ (fun _ => ?_)
theorem tollhouseref14_All.mono : ∀ a0 k, LeO (tollhouseref14_All.f k a0) (tollhouseref14_All.f (k + 1) a0) := by
  intro a0 k
  have ih0 := tollhouseref14_All.mono_l k
  unfold tollhouseref14_All.f
  repeat' first
      | (with_reducible exact ih0 _ _)
      | (with_reducible exact tollhouseref14_May.mono _ _ _ _ _ _)
      | (with_reducible exact LeO.refl _)
      | (with_reducible exact LeO.none _)
      | (with_reducible refine LeO.ite ?_ ?_)
      | (with_reducible refine LeO.bind ?_ (fun _ => ?_))
      | exact ih0 _ _
      | exact tollhouseref14_May.mono _ _ _ _ _ _
      | exact LeO.none _
      | refine LeO.ite ?_ ?_
      | refine LeO.bind ?_ (fun _ => ?_)
set_option maxHeartbeats 8000000 in
set_option maxRecDepth 100000 in
theorem tollhouseref14_All.calls (k : Nat) (A0 : Option Addr) (c0 : Nat) (l0 : List (S46)) (r : Bool) (w : World) (hr0 : Kd.C k46 w A0 l0.length l0) (hc0 : l0.length ≤ c0) (HGg : Glob w) (h : tollhouseref14_All.f k l0 = some r) :
    Calls Tryz.prog 26 #[.slice A0 l0.length c0] w fun e w' => e = .returned (.bool r) ∧ Below w.heap.size w w' := by
  have hu46 := Tryz.underlying46
  have HGl := Aside0.mk HGg
  clear HGg
  have HR0 := Aside0.mk hr0
  have HC0 := Aside0.mk hc0
  clear hr0 hc0
  have HB := Aside0.mk (Below.refl w.heap.size w)
  have H : (tollhouseref14_All.l0 k l0 0) = some r := h
  clear h
  have H' := Aside0.mk H
  clear H
  go_enter Tryz.func26, Tryz.ntmps26
  go_wp2
  go_loopg [3] k (fun kq v3 w' => ∃ (x3_1 : Int), v3 = .int .i64 x3_1 ∧ Aside0 (tollhouseref14_All.l0 kq l0 x3_1 = some r) ∧ Aside0 (kq ≤ k) ∧ Aside0 (Below w.heap.size w w'))
  case atStart => exact ⟨(0), (by first | rfl | (simp; done) | (simp [*]; done)), H', ⟨Nat.le_refl _⟩, ⟨by repeat (first | (with_reducible first | exact HB.out | apply below_alloc | apply pw_below_drewN | apply below_drew1) | exact HB.out)⟩⟩
  case round =>
    clear H'
    obtain ⟨x3_1, rfl, HA, HK1, HB⟩ := hrel
    cases gk with
    | zero => exact absurd HA.out (by simp [tollhouseref14_All.l0])
    | succ k1 =>
      have H := HA.out
      clear HA
      simp only [tollhouseref14_All.l0] at H
      by_cases c2 : x3_1 < (l0.length : Int)
      · rw [if_pos c2] at H
        have c2b0 : decide (x3_1 < (l0.length : Int)) = true := decide_eq_true c2
        clear c2
        by_cases c3 : 0 ≤ x3_1
        · rw [if_pos c3] at H
          have c3b0 : decide (0 ≤ x3_1) = true := decide_eq_true c3
          clear c3
          replace H := Option.bind_eq_some_iff.mp H
          obtain ⟨t122, A40, H⟩ := H
          replace H : (if t122 = true then (tollhouseref14_All.l0 k1 l0 (wrap64 (x3_1 + 1))) else (some false)) = some r := H
          have A4 := Aside0.mk A40
          clear A40
          by_cases c5 : t122 = true
          · subst c5
            have H1 : (tollhouseref14_All.l0 k1 l0 (wrap64 (x3_1 + 1))) = some r := by rw [if_pos rfl] at H; exact H
            clear H
            have H := H1
            clear H1
            have H' := Aside0.mk H
            clear H
            have p121 : 0 ≤ (x3_1 : Int) := of_decide_eq_true (by first | (with_reducible assumption) | assumption)
            have q121 : x3_1 < (l0.length : Int) := of_decide_eq_true (by first | (with_reducible assumption) | assumption)
            obtain ⟨ad121, A121_4, c121_4, e121, hx121_0, hx121_1, hx121_2, hx121_3, hx121_4, hl121_4, hi121_4⟩ := at_T46 HR0.out x3_1 p121 q121
            cases e121
            replace hx121_0 := (HB.out.cell (World.block_lt_of_cell? w _ hx121_0)).trans hx121_0
            replace hx121_1 := (HB.out.cell (World.block_lt_of_cell? w _ hx121_1)).trans hx121_1
            replace hx121_2 := (HB.out.cell (World.block_lt_of_cell? w _ hx121_2)).trans hx121_2
            replace hx121_3 := (HB.out.cell (World.block_lt_of_cell? w _ hx121_3)).trans hx121_3
            replace hx121_4 := (HB.out.cell (World.block_lt_of_cell? w _ hx121_4)).trans hx121_4
            have HR121_4 := Aside0.mk hi121_4
            have HC121_4 := Aside0.mk hl121_4
            clear hi121_4 hl121_4
            replace p121 := eq_true p121
            replace q121 := eq_true q121
            go_wp2_with (first | ((with_reducible refine gate_callee (f := 45) rfl ?_); refine goesL_ (some 14) rfl rfl Tryz.func45 (by kernel_rfl) rfl #[.agg #[.bool ((rd_T46 l0 x3_1).f0), .string ((rd_T46 l0 x3_1).f1), .int .i64 ((rd_T46 l0 x3_1).f2), .int .i64 ((rd_T46 l0 x3_1).f3), .slice A121_4 ((rd_T46 l0 x3_1).f4).length c121_4]] rfl (by (try simp only [List.map_toArray, List.map_cons, List.map_nil]); first | done | rfl | (simp only [List.length_drop, List.length_take]; rfl)) ?_; (with_reducible refine (tollhouseref14_May.calls k1 ((rd_T46 l0 x3_1).f0) ((rd_T46 l0 x3_1).f1) ((rd_T46 l0 x3_1).f2) ((rd_T46 l0 x3_1).f3) _ _ ((rd_T46 l0 x3_1).f4) true _ ?side1 ?side2 (Glob.below HGl.out (by repeat (first | (with_reducible first | exact HB.out | apply below_alloc | apply pw_below_drewN | apply below_drew1) | exact HB.out))) A4.out).mono ?_); (case side1 => repeat (first | exact (Kd.C_below HR121_4.out HB.out) | (with_reducible refine Kd.C_alloc ?_ _) | (with_reducible refine Kd.C_drewN ?_ _) | (with_reducible refine Kd.C_drew ?_))); (case side2 => exact HC121_4.out); rintro e w6 ⟨rfl, hb⟩; refine ⟨_, rfl, ?_⟩; have n0_ := Aside0.mk (below_step (by repeat (first | (with_reducible first | exact HB.out | apply below_alloc | apply pw_below_drewN | apply below_drew1) | exact HB.out)) hb); clear HB; have HB := n0_; clear n0_; (try clear hb); (try clear hb2); (try clear hk); (try clear hi)))
            go_roundg k1
            case measure => have := HK1.out; omega
            case rel => exact ⟨(wrap64 (x3_1 + 1)), (by first | rfl | (simp; done) | (simp [*]; done)), H', ⟨by have := HK1.out; omega⟩, ⟨by repeat (first | (with_reducible first | exact HB.out | apply below_alloc | apply pw_below_drewN | apply below_drew1) | exact HB.out)⟩⟩
          · replace c5 := Bool.eq_false_iff.mpr c5
            subst c5
            have H1 : (some false) = some r := by rw [if_neg (show ¬ (false = true) by decide)] at H; exact H
            clear H
            have H := H1
            clear H1
            obtain rfl := Option.some.inj H
            have p121 : 0 ≤ (x3_1 : Int) := of_decide_eq_true (by first | (with_reducible assumption) | assumption)
            have q121 : x3_1 < (l0.length : Int) := of_decide_eq_true (by first | (with_reducible assumption) | assumption)
            obtain ⟨ad121, A121_4, c121_4, e121, hx121_0, hx121_1, hx121_2, hx121_3, hx121_4, hl121_4, hi121_4⟩ := at_T46 HR0.out x3_1 p121 q121
            cases e121
            replace hx121_0 := (HB.out.cell (World.block_lt_of_cell? w _ hx121_0)).trans hx121_0
            replace hx121_1 := (HB.out.cell (World.block_lt_of_cell? w _ hx121_1)).trans hx121_1
            replace hx121_2 := (HB.out.cell (World.block_lt_of_cell? w _ hx121_2)).trans hx121_2
            replace hx121_3 := (HB.out.cell (World.block_lt_of_cell? w _ hx121_3)).trans hx121_3
            replace hx121_4 := (HB.out.cell (World.block_lt_of_cell? w _ hx121_4)).trans hx121_4
            have HR121_4 := Aside0.mk hi121_4
            have HC121_4 := Aside0.mk hl121_4
            clear hi121_4 hl121_4
            replace p121 := eq_true p121
            replace q121 := eq_true q121
            go_wp2_with (first | ((with_reducible refine gate_callee (f := 45) rfl ?_); refine goesL_ (some 14) rfl rfl Tryz.func45 (by kernel_rfl) rfl #[.agg #[.bool ((rd_T46 l0 x3_1).f0), .string ((rd_T46 l0 x3_1).f1), .int .i64 ((rd_T46 l0 x3_1).f2), .int .i64 ((rd_T46 l0 x3_1).f3), .slice A121_4 ((rd_T46 l0 x3_1).f4).length c121_4]] rfl (by (try simp only [List.map_toArray, List.map_cons, List.map_nil]); first | done | rfl | (simp only [List.length_drop, List.length_take]; rfl)) ?_; (with_reducible refine (tollhouseref14_May.calls k1 ((rd_T46 l0 x3_1).f0) ((rd_T46 l0 x3_1).f1) ((rd_T46 l0 x3_1).f2) ((rd_T46 l0 x3_1).f3) _ _ ((rd_T46 l0 x3_1).f4) false _ ?side1 ?side2 (Glob.below HGl.out (by repeat (first | (with_reducible first | exact HB.out | apply below_alloc | apply pw_below_drewN | apply below_drew1) | exact HB.out))) A4.out).mono ?_); (case side1 => repeat (first | exact (Kd.C_below HR121_4.out HB.out) | (with_reducible refine Kd.C_alloc ?_ _) | (with_reducible refine Kd.C_drewN ?_ _) | (with_reducible refine Kd.C_drew ?_))); (case side2 => exact HC121_4.out); rintro e w7 ⟨rfl, hb⟩; refine ⟨_, rfl, ?_⟩; have n0_ := Aside0.mk (below_step (by repeat (first | (with_reducible first | exact HB.out | apply below_alloc | apply pw_below_drewN | apply below_drew1) | exact HB.out)) hb); clear HB; have HB := n0_; clear n0_; (try clear hb); (try clear hb2); (try clear hk); (try clear hi)))
            go_ret
            exact ⟨by first | rfl | (simp [errW_none, errW_some] <;> rfl) | (simp [*, errW_none, errW_some] <;> rfl), by repeat (first | (with_reducible first | exact HB.out | apply below_alloc | apply pw_below_drewN | apply below_drew1) | exact HB.out)⟩
        · rw [if_neg c3] at H
          exact absurd H (by simp)
      · rw [if_neg c2] at H
        have c2b0 : decide (x3_1 < (l0.length : Int)) = false := decide_eq_false c2
        clear c2
        obtain rfl := Option.some.inj H
        go_wp2
        go_ret
        exact ⟨by first | rfl | (simp [errW_none, errW_some] <;> rfl) | (simp [*, errW_none, errW_some] <;> rfl), by repeat (first | (with_reducible first | exact HB.out | apply below_alloc | apply pw_below_drewN | apply below_drew1) | exact HB.out)⟩

end Go.Proofs.YthmnhbalmglohaaGreatDoor.X

/- What tollhouseref14's May and All tell is what acl's tell. -/
namespace Go.Proofs.YthmnhbalmglohaaGreatDoor.X
open Go.RowKit Go.Proofs.YthmnhbalmglohaaGreatDoorW.PrintWords Go.Proofs.YthmnhbalmglohaaGreatDoorW.PrintMore Go.Proofs.YthmnhbalmglohaaGreatDoor.T
set_option linter.unusedSimpArgs false
set_option linter.unusedVariables false
/-! ### May -/
theorem rtoken_f (y : ByteArray) (h : y.size ≤ 4294967296) : tollhouseref02_Token.f y = some (tokenB y) := by
  unfold tollhouseref02_Token.f
  rw [if_pos (by omega)]
theorem rmay_l0 (a : Bool) (h : ByteArray) (lo hi : Int) (ms : List ByteArray) (hl : ms.length ≤ 4294967296) (hm : ∀ y ∈ ms, y.size ≤ 4294967296) : ∀ (t : List ByteArray) (i : Nat), ms.drop i = t → i ≤ ms.length →
    Ev (fun k => tollhouseref14_May.l0 k (i : Int) a h lo hi ms) (t.all tokenB)
  | [], i, ht, hle => by
    have := congrArg List.length ht
    simp at this
    refine Ev.done fun k => ?_
    simp only [tollhouseref14_May.l0]
    rw [if_neg (by omega)]; rfl
  | y :: t, i, ht, hle => by
    have hil : i < ms.length := by
      have := congrArg List.length ht
      simp at this; omega
    have hiy : ms[i]? = some y := by
      have : (ms.drop i)[0]? = some y := by rw [ht]; rfl
      rw [List.getElem?_drop] at this
      simpa using this
    have ht2 : ms.drop (i + 1) = t := by rw [← List.drop_drop, ht]; rfl
    have ih := rmay_l0 a h lo hi ms hl hm t (i + 1) ht2 (by omega)
    rw [List.all_cons]
    have hy := rtoken_f y (hm y (List.mem_of_getElem? hiy))
    cases ht : tokenB y with
    | true =>
      rw [ht] at hy
      refine Ev.step (fun k => ?_) ih
      simp only [tollhouseref14_May.l0]
      rw [if_pos (by omega), if_pos (by omega), rd_list ms i y hiy, hy]
      simp only [Option.bind_some]
      rw [if_pos trivial, wrap_succ (by omega)]
    | false =>
      rw [ht] at hy
      refine Ev.done fun k => ?_
      simp only [tollhouseref14_May.l0]
      rw [if_pos (by omega), if_pos (by omega), rd_list ms i y hiy, hy]
      simp
theorem rmay_j3 (a : Bool) (h : ByteArray) (lo hi : Int) (ms : List ByteArray) (hl : ms.length ≤ 4294967296) (hm : ∀ y ∈ ms, y.size ≤ 4294967296) (b : Bool) : Ev (fun k => tollhouseref14_May.j3 k b a h lo hi ms) (!b && ms.all tokenB) := by
  cases b with
  | true => exact Ev.done fun k => by simp only [tollhouseref14_May.j3]; rw [if_pos trivial]; rfl
  | false => exact Ev.step (fun k => by simp only [tollhouseref14_May.j3]; rw [if_neg (by decide)]; rfl) (rmay_l0 a h lo hi ms hl hm ms 0 rfl (Nat.zero_le _))
theorem rmay_j2 (a : Bool) (h : ByteArray) (lo hi : Int) (ms : List ByteArray) (hl : ms.length ≤ 4294967296) (hm : ∀ y ∈ ms, y.size ≤ 4294967296) (b : Bool) :
    Ev (fun k => tollhouseref14_May.j2 k (!b) a h lo hi ms) (b && (decide (1 ≤ lo) && decide (lo ≤ hi) && decide (hi ≤ 65535)) && decide (ms.length ≤ 8) && ms.all tokenB) := by
  cases b with
  | false => exact Ev.done fun k => by simp only [tollhouseref14_May.j2]; rw [if_pos (by decide)]; rfl
  | true =>
    have hT := rmay_j3 a h lo hi ms hl hm true
    have hD := rmay_j3 a h lo hi ms hl hm (decide ((ms.length : Int) > 8))
    by_cases h1 : lo < 1
    · rw [decide_eq_false (by omega : ¬ 1 ≤ lo)]
      exact Ev.step (fun k => by simp only [tollhouseref14_May.j2]; rw [if_neg (by decide), if_pos h1]) hT
    · by_cases h2 : hi > 65535
      · rw [decide_eq_false (by omega : ¬ hi ≤ 65535), Bool.and_false]
        exact Ev.step (fun k => by simp only [tollhouseref14_May.j2]; rw [if_neg (by decide), if_neg h1, if_pos h2]) hT
      · by_cases h3 : lo > hi
        · rw [decide_eq_false (by omega : ¬ lo ≤ hi), Bool.and_false]
          exact Ev.step (fun k => by simp only [tollhouseref14_May.j2]; rw [if_neg (by decide), if_neg h1, if_neg h2, if_pos h3]) hT
        · rw [decide_eq_true (by omega : 1 ≤ lo), decide_eq_true (by omega : lo ≤ hi), decide_eq_true (by omega : hi ≤ 65535)]
          have e : (!decide ((ms.length : Int) > 8)) = decide (ms.length ≤ 8) := by
            by_cases h4 : ms.length ≤ 8
            · rw [decide_eq_true h4, decide_eq_false (by omega)]; rfl
            · rw [decide_eq_false h4, decide_eq_true (by omega)]; rfl
          rw [e] at hD
          simp only [Bool.true_and]
          exact Ev.step (fun k => by simp only [tollhouseref14_May.j2]; rw [if_neg (by decide), if_neg h1, if_neg h2, if_neg h3]) hD
theorem named_none : namedB ⟨#[]⟩ = false := by decide +kernel
theorem named_dot : namedB ⟨#[46]⟩ = false := by decide +kernel
theorem trim_is (h : ByteArray) (hd : Lib.hasPrefix h.data.toList [46] = true) : (⟨(Lib.trimPrefix h.data.toList [46]).toArray⟩ : ByteArray) = h.extract 1 h.size := by
  have e : Lib.trimPrefix h.data.toList [46] = h.data.toList.drop 1 := by unfold Lib.trimPrefix; rw [if_pos hd]; rfl
  rw [e]
  exact (bytes_eq _ _ (Lib.extract_to_end h 1)).symm
theorem trim_not (h : ByteArray) (hd : Lib.hasPrefix h.data.toList [46] = false) : (⟨(Lib.trimPrefix h.data.toList [46]).toArray⟩ : ByteArray) = h := by
  have e : Lib.trimPrefix h.data.toList [46] = h.data.toList := by unfold Lib.trimPrefix; rw [if_neg (by rw [hd]; decide)]
  rw [e]
theorem rmay_ev (a : Bool) (h : ByteArray) (lo hi : Int) (ms : List ByteArray) (hh : h.size ≤ 4294967296) (hl : ms.length ≤ 4294967296) (hm : ∀ y ∈ ms, y.size ≤ 4294967296) : Ev (fun k => tollhouseref14_May.f k a h lo hi ms) (mayB a h lo hi ms) := by
  have j1 : ∀ x : ByteArray, x.size ≤ 4294967296 → (h.data.toList ≠ [42] → namedB x = namedB ⟨(Lib.trimPrefix h.data.toList [46]).toArray⟩) → Ev (fun k => tollhouseref14_May.j1 k x a h lo hi ms) (mayB a h lo hi ms) := by
    intro x hx hn
    have hT := rmay_j2 a h lo hi ms hl hm true
    have hN := rmay_j2 a h lo hi ms hl hm (namedB x)
    unfold mayB hostMay
    by_cases h42 : h.data.toList = [42]
    · have e : (h.data.toList == [42]) = true := by simpa using h42
      rw [e, Bool.true_or]
      exact Ev.step (fun k => by simp only [tollhouseref14_May.j1]; rw [toList_eq, if_pos h42]; rfl) hT
    · have e : (h.data.toList == [42]) = false := by simpa using h42
      rw [e, Bool.false_or, ← hn h42]
      refine Ev.step (g := fun k => (tollhouseref10_Named.f k x).bind fun b => tollhouseref14_May.j2 k (!b) a h lo hi ms) (fun k => ?_) (Ev.bind (rnamed_ev x hx) hN)
      simp only [tollhouseref14_May.j1]
      rw [toList_eq, if_neg h42]
  have hd := dot_prefix h
  by_cases h1 : (h.size : Int) > 1
  · rw [decide_eq_true (by omega : 0 < h.size), Bool.true_and] at hd
    refine Ev.same (g := fun k => tollhouseref14_May.j0 k h (Lib.hasPrefix h.data.toList [46]) a h lo hi ms) (fun k => ?_) ?_
    · unfold tollhouseref14_May.f
      rw [if_pos h1, if_pos (by omega), hd]
    · cases hp : Lib.hasPrefix h.data.toList [46] with
      | true =>
        refine Ev.step (fun k => by simp only [tollhouseref14_May.j0]; rw [if_pos trivial, if_pos (by omega)]) (j1 (h.extract 1 h.size) (by rw [ByteArray.size_extract]; omega) (fun _ => ?_))
        rw [trim_is h hp]
      | false =>
        refine Ev.step (fun k => by simp only [tollhouseref14_May.j0]; rw [if_neg (by decide)]) (j1 h hh (fun _ => ?_))
        rw [trim_not h hp]
  · refine Ev.same (g := fun k => tollhouseref14_May.j0 k h false a h lo hi ms) (fun k => ?_) ?_
    · unfold tollhouseref14_May.f
      rw [if_neg h1]
    · refine Ev.step (fun k => by simp only [tollhouseref14_May.j0]; rw [if_neg (by decide)]) (j1 h hh (fun _ => ?_))
      cases hp : Lib.hasPrefix h.data.toList [46] with
      | false => rw [trim_not h hp]
      | true =>
        have hz := size_toList h
        have e : h = ⟨#[46]⟩ := by
          refine bytes_eq h [46] ?_
          match hl : h.data.toList, hp, hz with
          | [], hp, _ => cases hp
          | [c], hp, _ =>
            have : (46 : UInt8) = c := by simpa [Lib.hasPrefix, List.isPrefixOf] using hp
            rw [this]
          | _ :: _ :: _, _, hz => simp at hz; omega
        rw [e]
        have e2 : (⟨(Lib.trimPrefix (⟨#[46]⟩ : ByteArray).data.toList [46]).toArray⟩ : ByteArray) = ⟨#[]⟩ := rfl
        rw [e2, named_none, named_dot]
/-! ### All -/
def sizedR (x : S46) : Prop := x.f1.size ≤ 4294960000 ∧ x.f4.length ≤ 4294960000 ∧ ∀ y ∈ x.f4, y.size ≤ 4294960000
theorem rd_rule (l : List S46) (i : Nat) (x : S46) (h : l[i]? = some x) : rd_T46 l (i : Int) = x := by
  unfold rd_T46
  rw [Int.toNat_natCast, List.getD_eq_getElem?_getD, h]; rfl
theorem rall_go (l : List S46) (hl : l.length ≤ 4294960000) (hx : ∀ x ∈ l, sizedR x) : ∀ (t : List S46) (i : Nat), l.drop i = t → i ≤ l.length →
    Ev (fun k => tollhouseref14_All.l0 k l (i : Int)) (decide (l.length ≤ 16) && t.all mayR)
  | [], i, ht, hi => by
    have := congrArg List.length ht
    simp at this
    refine Ev.done fun k => ?_
    simp only [tollhouseref14_All.l0]
    rw [if_neg (by omega)]
    have e : decide ((l.length : Int) ≤ 16) = decide (l.length ≤ 16) := by
      by_cases h : l.length ≤ 16
      · rw [decide_eq_true h, decide_eq_true (by omega)]
      · rw [decide_eq_false h, decide_eq_false (by omega)]
    rw [e]; simp
  | x :: t, i, ht, hi => by
    have hil : i < l.length := by
      have := congrArg List.length ht
      simp at this; omega
    have hix : l[i]? = some x := by
      have : (l.drop i)[0]? = some x := by rw [ht]; rfl
      rw [List.getElem?_drop] at this
      simpa using this
    have ht2 : l.drop (i + 1) = t := by rw [← List.drop_drop, ht]; rfl
    have ih := rall_go l hl hx t (i + 1) ht2 (by omega)
    obtain ⟨z1, z2, z3⟩ := hx x (List.mem_of_getElem? hix)
    have hm := rmay_ev x.f0 x.f1 x.f2 x.f3 x.f4 (by omega) (by omega) (fun y hy => by have := z3 y hy; omega)
    have er : mayB x.f0 x.f1 x.f2 x.f3 x.f4 = mayR x := rfl
    rw [er] at hm
    rw [List.all_cons]
    refine Ev.step (g := fun k => (tollhouseref14_May.f k x.f0 x.f1 x.f2 x.f3 x.f4).bind fun b => if b = true then tollhouseref14_All.l0 k l ((i + 1 : Nat) : Int) else some false) (fun k => ?_) (Ev.bind hm ?_)
    · simp only [tollhouseref14_All.l0]
      rw [if_pos (by omega), if_pos (by omega), rd_rule l i x hix, wrap_succ (by omega)]
    · cases mayR x with
      | true => exact Ev.same (fun k => if_pos rfl) (by simpa using ih)
      | false => exact Ev.const fun k => by rw [if_neg (by decide)]; simp
theorem rall_ev (l : List S46) (hl : l.length ≤ 4294960000) (hx : ∀ x ∈ l, sizedR x) : Ev (fun k => tollhouseref14_All.f k l) (allB l) := rall_go l hl hx l 0 rfl (Nat.zero_le _)
end Go.Proofs.YthmnhbalmglohaaGreatDoor.X
