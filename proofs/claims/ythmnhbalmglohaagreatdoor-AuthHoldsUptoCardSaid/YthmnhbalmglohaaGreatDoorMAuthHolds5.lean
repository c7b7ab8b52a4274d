/- A part of the proof of the law AuthHolds: contracts of functions that it reaches, and plain lemmas. -/
import Derived.Test.YthmnhbalmglohaaGreatDoorMAuthHolds1
import Derived.Test.YthmnhbalmglohaaGreatDoorMAuthHolds3
import Derived.Test.YthmnhbalmglohaaGreatDoorMAuthHolds4
import Derived.Lib.Split
import Derived.Shelf.Strings.Split
import Derived.Lib.IndexBytes
import Derived.Test.YthmnhbalmglohaaGreatDoorMAuthHolds2
-- PRINTED by print.py (a twelfth state) out of the translation. Not trusted: Lean checks it.
namespace Go.Proofs.YthmnhbalmglohaaGreatDoor.X
open Go.RowKit Go.Proofs.YthmnhbalmglohaaGreatDoorW.PrintWords Go.Proofs.YthmnhbalmglohaaGreatDoorW.PrintLast Go.Proofs.YthmnhbalmglohaaGreatDoorW.PrintMore
attribute [local go_sem] max2_int min2_int max_two min_two max_three min_three max_four min_four   -- for this text's walks alone
set_option linter.unusedVariables false
set_option linter.unusedSimpArgs false
open Go.Proofs.YthmnhbalmglohaaGreatDoor.T

/-! ### tollhouselaw15_AuthHolds: function 4 -/
def tollhouselaw15_AuthHolds.f (k : Nat) (a0 : ByteArray) (l1 : List (S48)) (a2 : ByteArray) : Option (Bool) := (auth_Credential.f a2).bind fun bt254 => ((tollhouseref15_Credential.f k a2).bind fun bt256 => (if bt254.1.toList = bt256.1.toList then (if (bt254.2 == bt256.2) = true then ((auth_Holds.f k a0 l1).bind fun t258 => ((tollhouseref15_Holds.f k a0 l1).bind fun t259 => (if (t258 == t259) = true then ((tollhouselaw15_wakes.f k).bind fun t260 => (some t260)) else (some false)))) else (some false)) else (some false)))
theorem tollhouselaw15_AuthHolds.mono : ∀ a0 a1 a2 k, LeO (tollhouselaw15_AuthHolds.f k a0 a1 a2) (tollhouselaw15_AuthHolds.f (k + 1) a0 a1 a2) := by
  intro a0 a1 a2 k
  unfold tollhouselaw15_AuthHolds.f
  repeat' first
      | (with_reducible exact auth_Holds.mono _ _ _)
      | (with_reducible exact tollhouselaw15_wakes.mono _)
      | (with_reducible exact tollhouseref15_Credential.mono _ _)
      | (with_reducible exact tollhouseref15_Holds.mono _ _ _)
      | (with_reducible exact LeO.refl _)
      | (with_reducible exact LeO.none _)
      | (with_reducible refine LeO.ite ?_ ?_)
      | (with_reducible refine LeO.bind ?_ (fun _ => ?_))
      | exact auth_Holds.mono _ _ _
      | exact tollhouselaw15_wakes.mono _
      | exact tollhouseref15_Credential.mono _ _
      | exact tollhouseref15_Holds.mono _ _ _
      | exact LeO.none _
      | refine LeO.ite ?_ ?_
      | refine LeO.bind ?_ (fun _ => ?_)
set_option maxHeartbeats 8000000 in
set_option maxRecDepth 100000 in
theorem tollhouselaw15_AuthHolds.calls (k : Nat) (a0 : ByteArray) (A1 : Option Addr) (c1 : Nat) (l1 : List (S48)) (a2 : ByteArray) (r : Bool) (w : World) (hr1 : Kd.C k48 w A1 l1.length l1) (hc1 : l1.length ≤ c1) (HGg : Glob w) (h : tollhouselaw15_AuthHolds.f k a0 l1 a2 = some r) :
    Calls Tryz.prog 4 #[.string a0, .slice A1 l1.length c1, .string a2] w fun e w' => e = .returned (.bool r) ∧ Below w.heap.size w w' := by
  have HGl := Aside0.mk HGg
  clear HGg
  have HR1 := Aside0.mk hr1
  have HC1 := Aside0.mk hc1
  clear hr1 hc1
  have HB := Aside0.mk (Below.refl w.heap.size w)
  have H : ((auth_Credential.f a2).bind fun bt254 => ((tollhouseref15_Credential.f k a2).bind fun bt256 => (if bt254.1.toList = bt256.1.toList then (if (bt254.2 == bt256.2) = true then ((auth_Holds.f k a0 l1).bind fun t258 => ((tollhouseref15_Holds.f k a0 l1).bind fun t259 => (if (t258 == t259) = true then ((tollhouselaw15_wakes.f k).bind fun t260 => (some t260)) else (some false)))) else (some false)) else (some false)))) = some r := h
  clear h
  replace H := Option.bind_eq_some_iff.mp H
  obtain ⟨⟨t254, t255⟩, A40, H⟩ := H
  replace H : ((tollhouseref15_Credential.f k a2).bind fun bt256 => (if t254.toList = bt256.1.toList then (if (t255 == bt256.2) = true then ((auth_Holds.f k a0 l1).bind fun t258 => ((tollhouseref15_Holds.f k a0 l1).bind fun t259 => (if (t258 == t259) = true then ((tollhouselaw15_wakes.f k).bind fun t260 => (some t260)) else (some false)))) else (some false)) else (some false))) = some r := H
  have A4 := Aside0.mk A40
  clear A40
  replace H := Option.bind_eq_some_iff.mp H
  obtain ⟨⟨t256, t257⟩, A50, H⟩ := H
  replace H : (if t254.toList = t256.toList then (if (t255 == t257) = true then ((auth_Holds.f k a0 l1).bind fun t258 => ((tollhouseref15_Holds.f k a0 l1).bind fun t259 => (if (t258 == t259) = true then ((tollhouselaw15_wakes.f k).bind fun t260 => (some t260)) else (some false)))) else (some false)) else (some false)) = some r := H
  have A5 := Aside0.mk A50
  clear A50
  by_cases c6 : t254.toList = t256.toList
  · rw [if_pos c6] at H
    have c6b0 : (t254.toList == t256.toList) = true := beq_iff_eq.mpr c6
    have c6b1 : (t254.toList != t256.toList) = false := bne_eq_false_iff_eq.mpr c6
    clear c6
    by_cases c7 : (t255 == t257) = true
    · rw [if_pos c7] at H
      have c7b0 : (t255 == t257) = true := c7
      (try (have c7b1 : decide (t255 = t257) = true := by simpa using c7))
      (try (have c7b2 : (t255 == t257) = true := by simpa using c7))
      clear c7
      replace H := Option.bind_eq_some_iff.mp H
      obtain ⟨t258, A80, H⟩ := H
      replace H : ((tollhouseref15_Holds.f k a0 l1).bind fun t259 => (if (t258 == t259) = true then ((tollhouselaw15_wakes.f k).bind fun t260 => (some t260)) else (some false))) = some r := H
      have A8 := Aside0.mk A80
      clear A80
      replace H := Option.bind_eq_some_iff.mp H
      obtain ⟨t259, A90, H⟩ := H
      replace H : (if (t258 == t259) = true then ((tollhouselaw15_wakes.f k).bind fun t260 => (some t260)) else (some false)) = some r := H
      have A9 := Aside0.mk A90
      clear A90
      by_cases c10 : (t258 == t259) = true
      · rw [if_pos c10] at H
        have c10b0 : (t258 == t259) = true := c10
        (try (have c10b1 : decide (t258 = t259) = true := by simpa using c10))
        (try (have c10b2 : (t258 == t259) = true := by simpa using c10))
        clear c10
        replace H := Option.bind_eq_some_iff.mp H
        obtain ⟨t260, A110, H⟩ := H
        replace H : (some t260) = some r := H
        have A11 := Aside0.mk A110
        clear A110
        obtain rfl := Option.some.inj H
        go_enter Tryz.func4, Tryz.ntmps4
        go_wp2_with (first | ((with_reducible refine gate_callee (f := 16) rfl ?_); refine goesL_ (some 13) rfl rfl Tryz.func16 (by kernel_rfl) rfl #[.string a2] rfl (by (try simp only [List.map_toArray, List.map_cons, List.map_nil]); first | done | rfl | (simp only [List.length_drop, List.length_take]; rfl)) ?_; (with_reducible refine (auth_Credential.calls a2 t254 t255 _ (Glob.below HGl.out (by repeat (first | (with_reducible first | exact HB.out | apply below_alloc | apply pw_below_drewN | apply below_drew1) | exact HB.out))) A4.out).mono ?_); rintro e w12 ⟨rfl, hb⟩; refine ⟨_, rfl, ?_⟩; have n0_ := Aside0.mk (below_step (by repeat (first | (with_reducible first | exact HB.out | apply below_alloc | apply pw_below_drewN | apply below_drew1) | exact HB.out)) hb); clear HB; have HB := n0_; clear n0_; (try clear hb); (try clear hb2); (try clear hk); (try clear hi)) | ((with_reducible refine gate_callee (f := 17) rfl ?_); refine goesL_ (some 18) rfl rfl Tryz.func17 (by kernel_rfl) rfl #[.string a2] rfl (by (try simp only [List.map_toArray, List.map_cons, List.map_nil]); first | done | rfl | (simp only [List.length_drop, List.length_take]; rfl)) ?_; (with_reducible refine (tollhouseref15_Credential.calls k a2 t256 t257 _ (Glob.below HGl.out (by repeat (first | (with_reducible first | exact HB.out | apply below_alloc | apply pw_below_drewN | apply below_drew1) | exact HB.out))) A5.out).mono ?_); rintro e w13 ⟨rfl, hb⟩; refine ⟨_, rfl, ?_⟩; have n0_ := Aside0.mk (below_step (by repeat (first | (with_reducible first | exact HB.out | apply below_alloc | apply pw_below_drewN | apply below_drew1) | exact HB.out)) hb); clear HB; have HB := n0_; clear n0_; (try clear hb); (try clear hb2); (try clear hk); (try clear hi)) | (go_at_call 18; (with_reducible refine (auth_Holds.calls k a0 _ _ l1 t258 _ ?side1 ?side2 (Glob.below HGl.out (by repeat (first | (with_reducible first | exact HB.out | apply below_alloc | apply pw_below_drewN | apply below_drew1) | exact HB.out))) A8.out).mono ?_); (case side1 => repeat (first | exact (Kd.C_below HR1.out HB.out) | (with_reducible refine Kd.C_alloc ?_ _) | (with_reducible refine Kd.C_drewN ?_ _) | (with_reducible refine Kd.C_drew ?_))); (case side2 => exact HC1.out); rintro e w14 ⟨rfl, hb⟩; have n0_ := Aside0.mk (below_step (by repeat (first | (with_reducible first | exact HB.out | apply below_alloc | apply pw_below_drewN | apply below_drew1) | exact HB.out)) hb); clear HB; have HB := n0_; clear n0_; (try clear hb); (try clear hb2); (try clear hk); (try clear hi)) | (go_at_call 19; (with_reducible refine (tollhouseref15_Holds.calls k a0 _ _ l1 t259 _ ?side1 ?side2 (Glob.below HGl.out (by repeat (first | (with_reducible first | exact HB.out | apply below_alloc | apply pw_below_drewN | apply below_drew1) | exact HB.out))) A9.out).mono ?_); (case side1 => repeat (first | exact (Kd.C_below HR1.out HB.out) | (with_reducible refine Kd.C_alloc ?_ _) | (with_reducible refine Kd.C_drewN ?_ _) | (with_reducible refine Kd.C_drew ?_))); (case side2 => exact HC1.out); rintro e w15 ⟨rfl, hb⟩; have n0_ := Aside0.mk (below_step (by repeat (first | (with_reducible first | exact HB.out | apply below_alloc | apply pw_below_drewN | apply below_drew1) | exact HB.out)) hb); clear HB; have HB := n0_; clear n0_; (try clear hb); (try clear hb2); (try clear hk); (try clear hi)) | (go_at_call 15; (with_reducible refine (tollhouselaw15_wakes.calls k  t260 _ (Glob.below HGl.out (by repeat (first | (with_reducible first | exact HB.out | apply below_alloc | apply pw_below_drewN | apply below_drew1) | exact HB.out))) A11.out).mono ?_); rintro e w16 ⟨rfl, hb⟩; have n0_ := Aside0.mk (below_step (by repeat (first | (with_reducible first | exact HB.out | apply below_alloc | apply pw_below_drewN | apply below_drew1) | exact HB.out)) hb); clear HB; have HB := n0_; clear n0_; (try clear hb); (try clear hb2); (try clear hk); (try clear hi)))
        go_ret
        exact ⟨by first | rfl | (simp [errW_none, errW_some] <;> rfl) | (simp [*, errW_none, errW_some] <;> rfl), by repeat (first | (with_reducible first | exact HB.out | apply below_alloc | apply pw_below_drewN | apply below_drew1) | exact HB.out)⟩
      · rw [if_neg c10] at H
        have c10b0 : (t258 == t259) = false := by simpa using c10
        (try (have c10b1 : decide (t258 = t259) = false := by simpa using c10))
        (try (have c10b2 : (t258 == t259) = false := by simpa using c10))
        (try (have c10b3 : ¬ (t258 = t259) := by simpa using c10))
        clear c10
        obtain rfl := Option.some.inj H
        go_enter Tryz.func4, Tryz.ntmps4
        go_wp2_with (first | ((with_reducible refine gate_callee (f := 16) rfl ?_); refine goesL_ (some 13) rfl rfl Tryz.func16 (by kernel_rfl) rfl #[.string a2] rfl (by (try simp only [List.map_toArray, List.map_cons, List.map_nil]); first | done | rfl | (simp only [List.length_drop, List.length_take]; rfl)) ?_; (with_reducible refine (auth_Credential.calls a2 t254 t255 _ (Glob.below HGl.out (by repeat (first | (with_reducible first | exact HB.out | apply below_alloc | apply pw_below_drewN | apply below_drew1) | exact HB.out))) A4.out).mono ?_); rintro e w17 ⟨rfl, hb⟩; refine ⟨_, rfl, ?_⟩; have n0_ := Aside0.mk (below_step (by repeat (first | (with_reducible first | exact HB.out | apply below_alloc | apply pw_below_drewN | apply below_drew1) | exact HB.out)) hb); clear HB; have HB := n0_; clear n0_; (try clear hb); (try clear hb2); (try clear hk); (try clear hi)) | ((with_reducible refine gate_callee (f := 17) rfl ?_); refine goesL_ (some 18) rfl rfl Tryz.func17 (by kernel_rfl) rfl #[.string a2] rfl (by (try simp only [List.map_toArray, List.map_cons, List.map_nil]); first | done | rfl | (simp only [List.length_drop, List.length_take]; rfl)) ?_; (with_reducible refine (tollhouseref15_Credential.calls k a2 t256 t257 _ (Glob.below HGl.out (by repeat (first | (with_reducible first | exact HB.out | apply below_alloc | apply pw_below_drewN | apply below_drew1) | exact HB.out))) A5.out).mono ?_); rintro e w18 ⟨rfl, hb⟩; refine ⟨_, rfl, ?_⟩; have n0_ := Aside0.mk (below_step (by repeat (first | (with_reducible first | exact HB.out | apply below_alloc | apply pw_below_drewN | apply below_drew1) | exact HB.out)) hb); clear HB; have HB := n0_; clear n0_; (try clear hb); (try clear hb2); (try clear hk); (try clear hi)) | (go_at_call 18; (with_reducible refine (auth_Holds.calls k a0 _ _ l1 t258 _ ?side1 ?side2 (Glob.below HGl.out (by repeat (first | (with_reducible first | exact HB.out | apply below_alloc | apply pw_below_drewN | apply below_drew1) | exact HB.out))) A8.out).mono ?_); (case side1 => repeat (first | exact (Kd.C_below HR1.out HB.out) | (with_reducible refine Kd.C_alloc ?_ _) | (with_reducible refine Kd.C_drewN ?_ _) | (with_reducible refine Kd.C_drew ?_))); (case side2 => exact HC1.out); rintro e w19 ⟨rfl, hb⟩; have n0_ := Aside0.mk (below_step (by repeat (first | (with_reducible first | exact HB.out | apply below_alloc | apply pw_below_drewN | apply below_drew1) | exact HB.out)) hb); clear HB; have HB := n0_; clear n0_; (try clear hb); (try clear hb2); (try clear hk); (try clear hi)) | (go_at_call 19; (with_reducible refine (tollhouseref15_Holds.calls k a0 _ _ l1 t259 _ ?side1 ?side2 (Glob.below HGl.out (by repeat (first | (with_reducible first | exact HB.out | apply below_alloc | apply pw_below_drewN | apply below_drew1) | exact HB.out))) A9.out).mono ?_); (case side1 => repeat (first | exact (Kd.C_below HR1.out HB.out) | (with_reducible refine Kd.C_alloc ?_ _) | (with_reducible refine Kd.C_drewN ?_ _) | (with_reducible refine Kd.C_drew ?_))); (case side2 => exact HC1.out); rintro e w20 ⟨rfl, hb⟩; have n0_ := Aside0.mk (below_step (by repeat (first | (with_reducible first | exact HB.out | apply below_alloc | apply pw_below_drewN | apply below_drew1) | exact HB.out)) hb); clear HB; have HB := n0_; clear n0_; (try clear hb); (try clear hb2); (try clear hk); (try clear hi)))
        go_ret
        exact ⟨by first | rfl | (simp [errW_none, errW_some] <;> rfl) | (simp [*, errW_none, errW_some] <;> rfl), by repeat (first | (with_reducible first | exact HB.out | apply below_alloc | apply pw_below_drewN | apply below_drew1) | exact HB.out)⟩
    · rw [if_neg c7] at H
      have c7b0 : (t255 == t257) = false := by simpa using c7
      (try (have c7b1 : decide (t255 = t257) = false := by simpa using c7))
      (try (have c7b2 : (t255 == t257) = false := by simpa using c7))
      (try (have c7b3 : ¬ (t255 = t257) := by simpa using c7))
      clear c7
      obtain rfl := Option.some.inj H
      go_enter Tryz.func4, Tryz.ntmps4
      go_wp2_with (first | ((with_reducible refine gate_callee (f := 16) rfl ?_); refine goesL_ (some 13) rfl rfl Tryz.func16 (by kernel_rfl) rfl #[.string a2] rfl (by (try simp only [List.map_toArray, List.map_cons, List.map_nil]); first | done | rfl | (simp only [List.length_drop, List.length_take]; rfl)) ?_; (with_reducible refine (auth_Credential.calls a2 t254 t255 _ (Glob.below HGl.out (by repeat (first | (with_reducible first | exact HB.out | apply below_alloc | apply pw_below_drewN | apply below_drew1) | exact HB.out))) A4.out).mono ?_); rintro e w21 ⟨rfl, hb⟩; refine ⟨_, rfl, ?_⟩; have n0_ := Aside0.mk (below_step (by repeat (first | (with_reducible first | exact HB.out | apply below_alloc | apply pw_below_drewN | apply below_drew1) | exact HB.out)) hb); clear HB; have HB := n0_; clear n0_; (try clear hb); (try clear hb2); (try clear hk); (try clear hi)) | ((with_reducible refine gate_callee (f := 17) rfl ?_); refine goesL_ (some 18) rfl rfl Tryz.func17 (by kernel_rfl) rfl #[.string a2] rfl (by (try simp only [List.map_toArray, List.map_cons, List.map_nil]); first | done | rfl | (simp only [List.length_drop, List.length_take]; rfl)) ?_; (with_reducible refine (tollhouseref15_Credential.calls k a2 t256 t257 _ (Glob.below HGl.out (by repeat (first | (with_reducible first | exact HB.out | apply below_alloc | apply pw_below_drewN | apply below_drew1) | exact HB.out))) A5.out).mono ?_); rintro e w22 ⟨rfl, hb⟩; refine ⟨_, rfl, ?_⟩; have n0_ := Aside0.mk (below_step (by repeat (first | (with_reducible first | exact HB.out | apply below_alloc | apply pw_below_drewN | apply below_drew1) | exact HB.out)) hb); clear HB; have HB := n0_; clear n0_; (try clear hb); (try clear hb2); (try clear hk); (try clear hi)))
      go_ret
      exact ⟨by first | rfl | (simp [errW_none, errW_some] <;> rfl) | (simp [*, errW_none, errW_some] <;> rfl), by repeat (first | (with_reducible first | exact HB.out | apply below_alloc | apply pw_below_drewN | apply below_drew1) | exact HB.out)⟩
  · rw [if_neg c6] at H
    have c6b0 : (t254.toList == t256.toList) = false := beq_eq_false_iff_ne.mpr c6
    have c6b1 : (t254.toList != t256.toList) = true := bne_iff_ne.mpr c6
    obtain rfl := Option.some.inj H
    go_enter Tryz.func4, Tryz.ntmps4
    go_wp2_with (first | ((with_reducible refine gate_callee (f := 16) rfl ?_); refine goesL_ (some 13) rfl rfl Tryz.func16 (by kernel_rfl) rfl #[.string a2] rfl (by (try simp only [List.map_toArray, List.map_cons, List.map_nil]); first | done | rfl | (simp only [List.length_drop, List.length_take]; rfl)) ?_; (with_reducible refine (auth_Credential.calls a2 t254 t255 _ (Glob.below HGl.out (by repeat (first | (with_reducible first | exact HB.out | apply below_alloc | apply pw_below_drewN | apply below_drew1) | exact HB.out))) A4.out).mono ?_); rintro e w23 ⟨rfl, hb⟩; refine ⟨_, rfl, ?_⟩; have n0_ := Aside0.mk (below_step (by repeat (first | (with_reducible first | exact HB.out | apply below_alloc | apply pw_below_drewN | apply below_drew1) | exact HB.out)) hb); clear HB; have HB := n0_; clear n0_; (try clear hb); (try clear hb2); (try clear hk); (try clear hi)) | ((with_reducible refine gate_callee (f := 17) rfl ?_); refine goesL_ (some 18) rfl rfl Tryz.func17 (by kernel_rfl) rfl #[.string a2] rfl (by (try simp only [List.map_toArray, List.map_cons, List.map_nil]); first | done | rfl | (simp only [List.length_drop, List.length_take]; rfl)) ?_; (with_reducible refine (tollhouseref15_Credential.calls k a2 t256 t257 _ (Glob.below HGl.out (by repeat (first | (with_reducible first | exact HB.out | apply below_alloc | apply pw_below_drewN | apply below_drew1) | exact HB.out))) A5.out).mono ?_); rintro e w24 ⟨rfl, hb⟩; refine ⟨_, rfl, ?_⟩; have n0_ := Aside0.mk (below_step (by repeat (first | (with_reducible first | exact HB.out | apply below_alloc | apply pw_below_drewN | apply below_drew1) | exact HB.out)) hb); clear HB; have HB := n0_; clear n0_; (try clear hb); (try clear hb2); (try clear hk); (try clear hi)))
    go_ret
    exact ⟨by first | rfl | (simp [errW_none, errW_some] <;> rfl) | (simp [*, errW_none, errW_some] <;> rfl), by repeat (first | (with_reducible first | exact HB.out | apply below_alloc | apply pw_below_drewN | apply below_drew1) | exact HB.out)⟩

end Go.Proofs.YthmnhbalmglohaaGreatDoor.X

/- With rounds enough, a printed function tells a value: how that is put together; and what a byte string's places hold. -/
namespace Go.Proofs.YthmnhbalmglohaaGreatDoor.X
open Go.RowKit Go.Proofs.YthmnhbalmglohaaGreatDoorW.PrintWords Go.Proofs.YthmnhbalmglohaaGreatDoor.T
set_option linter.unusedSimpArgs false
set_option linter.unusedVariables false
/-- With rounds enough f tells r. -/
def Ev {α : Type} (f : Nat → Option α) (r : α) : Prop := ∃ K, ∀ k, K ≤ k → f k = some r
theorem Ev.const {α : Type} {f : Nat → Option α} {r : α} (h : ∀ k, f k = some r) : Ev f r := ⟨0, fun k _ => h k⟩
theorem Ev.done {α : Type} {f : Nat → Option α} {r : α} (h : ∀ k, f (k + 1) = some r) : Ev f r := ⟨1, fun k hk => by obtain ⟨j, rfl⟩ : ∃ j, k = j + 1 := ⟨k - 1, by omega⟩; exact h j⟩
theorem Ev.step {α : Type} {f g : Nat → Option α} {r : α} (h : ∀ k, f (k + 1) = g k) (hg : Ev g r) : Ev f r := by
  obtain ⟨K, hK⟩ := hg
  refine ⟨K + 1, fun k hk => ?_⟩
  obtain ⟨j, rfl⟩ : ∃ j, k = j + 1 := ⟨k - 1, by omega⟩
  rw [h j]; exact hK j (by omega)
theorem Ev.same {α : Type} {f g : Nat → Option α} {r : α} (h : ∀ k, f k = g k) (hg : Ev g r) : Ev f r := by
  obtain ⟨K, hK⟩ := hg
  exact ⟨K, fun k hk => by rw [h k]; exact hK k hk⟩
theorem Ev.bind {α β : Type} {f : Nat → Option α} {g : Nat → α → Option β} {a : α} {r : β} (hf : Ev f a) (hg : Ev (fun k => g k a) r) : Ev (fun k => (f k).bind (g k)) r := by
  obtain ⟨K, hK⟩ := hf
  obtain ⟨L, hL⟩ := hg
  refine ⟨max K L, fun k hk => ?_⟩
  show (f k).bind (g k) = _
  rw [hK k (by omega)]
  exact hL k (by omega)
theorem Ev.stepBind {α β : Type} {F : Nat → Option β} {f : Nat → Option α} {g : Nat → α → Option β} {a : α} {r : β} (h : ∀ k, F (k + 1) = (f k).bind (g k)) (hf : Ev f a) (hg : Ev (fun k => g k a) r) : Ev F r := Ev.step h (Ev.bind hf hg)
theorem Ev.of_mono {α : Type} {f : Nat → Option α} {r : α} (hm : ∀ k, LeO (f k) (f (k + 1))) {K : Nat} (h : f K = some r) : Ev f r := by
  refine ⟨K, fun k hk => ?_⟩
  obtain ⟨d, rfl⟩ : ∃ d, k = K + d := ⟨k - K, by omega⟩
  clear hk
  induction d with
  | zero => exact h
  | succ d ih => exact hm (K + d) r ih
theorem Ev.get {α : Type} {f : Nat → Option α} {r : α} (h : Ev f r) : ∃ k, f k = some r := by obtain ⟨K, hK⟩ := h; exact ⟨K, hK K (Nat.le_refl _)⟩
theorem wrap_id {n : Int} (h : -9223372036854775808 ≤ n) (h2 : n ≤ 9223372036854775807) : wrap64 n = n := by unfold wrap64; omega
/-! ### a byte string's places -/
theorem btAt {s : ByteArray} {j : Nat} (h : j < s.size) : bt s (j : Int) = ((s[j]'h).toNat : Int) := by
  unfold bt
  rw [dif_pos (by simpa using h)]
  rfl
theorem list_at {s : ByteArray} {j : Nat} (h : j < s.size) : s.data.toList[j]? = some (s[j]'h) := by
  rw [List.getElem?_eq_getElem (by rw [size_toList]; exact h)]
  rfl
theorem bt_is {s : ByteArray} {j : Nat} (h : j < s.size) (c : UInt8) : bt s (j : Int) = (c.toNat : Int) ↔ s.data.toList[j]? = some c := by
  rw [btAt h, list_at h]
  constructor
  · intro e
    have : (s[j]'h).toNat = c.toNat := by omega
    rw [UInt8.toNat_inj.1 this]
  · intro e; rw [Option.some.inj e]
theorem bt_sub {s : ByteArray} {a j : Nat} (h : a + j < s.size) : bt (s.extract a s.size) (j : Int) = bt s ((a + j : Nat) : Int) := by
  have hj : j < (s.extract a s.size).size := by rw [ByteArray.size_extract]; omega
  rw [btAt hj, btAt h, ByteArray.getElem_extract]
theorem drop_at {s : ByteArray} {j : Nat} (h : j < s.size) : s.data.toList.drop j = (s[j]'h) :: s.data.toList.drop (j + 1) := by
  rw [List.drop_eq_getElem_cons (by rw [size_toList]; exact h)]
  rfl
theorem drop_end {s : ByteArray} {j : Nat} (h : s.size ≤ j) : s.data.toList.drop j = [] := List.drop_eq_nil_of_le (by rw [size_toList]; exact h)
end Go.Proofs.YthmnhbalmglohaaGreatDoor.X

/- The parts of a text between signs: plain. -/
namespace Go.Proofs.YthmnhbalmglohaaGreatDoor.T
def partsB (c : UInt8) (s : ByteArray) : List ByteArray := Lib.splitB ⟨#[c]⟩ 0 (Lib.countB s ⟨#[c]⟩) s
theorem splitK_size (sep : ByteArray) : ∀ (k : Nat) (s : ByteArray), ∀ x ∈ Lib.splitB sep 0 k s, x.size ≤ s.size
  | 0, s, x, hx => by simp [Lib.splitB] at hx; subst hx; exact Nat.le_refl _
  | k + 1, s, x, hx => by
    unfold Lib.splitB at hx
    split at hx
    · simp at hx; subst hx; exact Nat.le_refl _
    · rcases List.mem_cons.1 hx with rfl | hx
      · rw [ByteArray.size_extract]; omega
      · have := splitK_size sep k _ x hx
        rw [ByteArray.size_extract] at this; omega
theorem parts_size (c : UInt8) (s : ByteArray) : ∀ x ∈ partsB c s, x.size ≤ s.size := splitK_size _ _ s
theorem parts_len (c : UInt8) (s : ByteArray) : (partsB c s).length = Lib.countB s ⟨#[c]⟩ + 1 := Lib.splitB_all ⟨#[c]⟩ (Nat.le_refl _) 0 _ s rfl
theorem parts_le (c : UInt8) (s : ByteArray) : (partsB c s).length ≤ s.size + 1 := by
  rw [parts_len]
  have := Lib.countB_le ⟨#[c]⟩ (Nat.le_refl _) s.size s (Nat.le_refl _)
  omega
end Go.Proofs.YthmnhbalmglohaaGreatDoor.T

/- Small plain lemmas on bytes and rounds. -/
namespace Go.Proofs.YthmnhbalmglohaaGreatDoor.X
open Go.RowKit Go.Proofs.YthmnhbalmglohaaGreatDoorW.PrintWords Go.Proofs.YthmnhbalmglohaaGreatDoor.T
set_option linter.unusedSimpArgs false
set_option linter.unusedVariables false
theorem wrap_succ {n : Nat} (h : n < 9223372036854775807) : wrap64 ((n : Int) + 1) = ((n + 1 : Nat) : Int) := by unfold wrap64; omega
theorem isDig_iff (c : UInt8) : isDig c = true ↔ (48 ≤ c.toNat ∧ c.toNat ≤ 57) := by
  have h : ∀ n : Fin 256, isDig (UInt8.ofNat n.val) = true ↔ (48 ≤ (UInt8.ofNat n.val).toNat ∧ (UInt8.ofNat n.val).toNat ≤ 57) := by decide +kernel
  have := h ⟨c.toNat, c.toNat_lt⟩
  simpa using this
theorem rd_list (ls : List ByteArray) (i : Nat) (y : ByteArray) (h : ls[i]? = some y) : rdOf ByteArray.empty ls (i : Int) = y := by
  unfold rdOf
  rw [Int.toNat_natCast, List.getD_eq_getElem?_getD, h]; rfl
theorem extract_all (s : ByteArray) : s.extract 0 s.size = s := by simp
theorem toList_app (a b : ByteArray) : (a ++ b).data.toList = a.data.toList ++ b.data.toList := by simp
theorem size_app (a b : ByteArray) : (a ++ b).size = a.size + b.size := by simp
theorem toList_eq (a : ByteArray) : a.toList = a.data.toList := Lib.toList_data a
theorem bytes_mk (s : ByteArray) (l : List UInt8) (h : s.data.toList = l) : s = ⟨l.toArray⟩ := by cases s; subst h; rfl
theorem bytes_ext {a b : ByteArray} (h : a.data.toList = b.data.toList) : a = b := by
  cases a; cases b
  simp only at h
  congr 1
  exact Array.ext' h
/-! ### the parts of a text between signs c -/
theorem sign_index (c : UInt8) (t : ByteArray) {j : Nat} (h : t.data.toList[j]? = some c) (hno : ∀ k, k < j → t.data.toList[k]? ≠ some c) : Lib.indexB t ⟨#[c]⟩ = j := by
  have e : Lib.indexB t ⟨#[c]⟩ = Lib.indexByte t.data.toList c := Lib.index_one _ _
  rw [e]
  rcases Int.lt_or_le (Lib.indexByte t.data.toList c) 0 with hm | hm
  · have h1 := Lib.indexByte_ge t.data.toList c
    exact absurd h (Lib.indexByte_none (by omega) j)
  · obtain ⟨o, ho⟩ : ∃ o : Nat, Lib.indexByte t.data.toList c = o := ⟨(Lib.indexByte t.data.toList c).toNat, by omega⟩
    obtain ⟨p1, p2⟩ := Lib.indexByte_some ho
    rw [ho]
    rcases Nat.lt_trichotomy o j with hlt | rfl | hgt
    · exact absurd p1 (hno o hlt)
    · rfl
    · exact absurd h (p2 j hgt)
theorem sign_none (c : UInt8) (t : ByteArray) (hno : ∀ k : Nat, t.data.toList[k]? ≠ some c) : Lib.indexB t ⟨#[c]⟩ = -1 := by
  have e : Lib.indexB t ⟨#[c]⟩ = Lib.indexByte t.data.toList c := Lib.index_one _ _
  rw [e]
  have h1 := Lib.indexByte_ge t.data.toList c
  rcases Int.lt_or_le (Lib.indexByte t.data.toList c) 0 with hm | hm
  · omega
  · obtain ⟨o, ho⟩ : ∃ o : Nat, Lib.indexByte t.data.toList c = o := ⟨(Lib.indexByte t.data.toList c).toNat, by omega⟩
    exact absurd (Lib.indexByte_some ho).1 (hno o)
theorem parts_no (c : UInt8) (t : ByteArray) (hno : ∀ k : Nat, t.data.toList[k]? ≠ some c) : partsB c t = [t] := Lib.splitB_miss _ _ _ _ (sign_none c t hno)
theorem parts_hit (c : UInt8) (t : ByteArray) (j : Nat) (h : t.data.toList[j]? = some c) (hno : ∀ k, k < j → t.data.toList[k]? ≠ some c) : partsB c t = t.extract 0 j :: partsB c (t.extract (j + 1) t.size) := by
  have hx := sign_index c t h hno
  unfold partsB
  have hz : 1 ≤ (⟨#[c]⟩ : ByteArray).size := Nat.le_refl _
  rw [Lib.countB_hit t ⟨#[c]⟩ j hz hx, Nat.add_comm 1, Lib.splitB_hit _ _ _ _ _ hx]
  rfl
theorem mem_at {α : Type} {l : List α} {c : α} (h : c ∉ l) (k : Nat) : l[k]? ≠ some c := fun e => h (List.mem_of_getElem? e)
theorem parts_one (c : UInt8) (s : ByteArray) (h : c ∉ s.data.toList) : partsB c s = [s] := parts_no c s (fun k => mem_at h k)
theorem parts_cons (c : UInt8) (s : ByteArray) (a b : List UInt8) (hs : s.data.toList = a ++ c :: b) (ha : c ∉ a) : partsB c s = ⟨a.toArray⟩ :: partsB c ⟨b.toArray⟩ := by
  have hz := size_toList s
  rw [parts_hit c s a.length (by rw [hs]; simp) (fun k hk => by rw [hs, List.getElem?_append_left hk]; exact mem_at ha k)]
  have e1 : s.extract 0 a.length = ⟨a.toArray⟩ := bytes_mk _ _ (by rw [Lib.extract_from_zero, hs]; simp)
  have e2 : s.extract (a.length + 1) s.size = ⟨b.toArray⟩ := bytes_mk _ _ (by rw [Lib.extract_to_end, hs, List.drop_append]; simp)
  rw [e1, e2]
/-- what stands ahead of the first c, and behind it -/
theorem split_first (c : UInt8) : ∀ l : List UInt8, c ∈ l → ∃ a b, l = a ++ c :: b ∧ c ∉ a
  | x :: t, h => by
    by_cases e : x = c
    · subst e; exact ⟨[], t, rfl, by simp⟩
    · obtain ⟨a, b, rfl, hn⟩ := split_first c t (by
        rcases List.mem_cons.1 h with h | h
        · exact absurd h.symm e
        · exact h)
      refine ⟨x :: a, b, rfl, fun hm => ?_⟩
      rcases List.mem_cons.1 hm with h | h
      · exact e h.symm
      · exact hn h
theorem split_unique (c : UInt8) : ∀ {a a' b b' : List UInt8}, a ++ c :: b = a' ++ c :: b' → c ∉ a → c ∉ a' → a = a' ∧ b = b'
  | [], [], b, b', h, _, _ => by injection h with _ h; exact ⟨rfl, h⟩
  | [], y :: t, b, b', h, _, hn => by
    injection h with h1 _
    exact absurd (List.mem_cons.2 (.inl h1)) hn
  | x :: t, [], b, b', h, hn, _ => by
    injection h with h1 _
    exact absurd (List.mem_cons.2 (.inl h1.symm)) hn
  | x :: t, y :: u, b, b', h, h1, h2 => by
    injection h with e1 e2
    obtain ⟨r1, r2⟩ := split_unique c e2 (fun hm => h1 (List.mem_cons_of_mem _ hm)) (fun hm => h2 (List.mem_cons_of_mem _ hm))
    exact ⟨by rw [e1, r1], r2⟩
/-- three parts: how they stand -/
theorem parts_three (c : UInt8) (s p0 p1 p2 : ByteArray) (h : partsB c s = [p0, p1, p2]) : s.data.toList = p0.data.toList ++ c :: (p1.data.toList ++ c :: p2.data.toList) ∧ c ∉ p0.data.toList ∧ c ∉ p1.data.toList ∧ c ∉ p2.data.toList := by
  by_cases h0 : c ∈ s.data.toList
  · obtain ⟨a, b, e, ha⟩ := split_first c _ h0
    rw [parts_cons c s a b e ha] at h
    injection h with q0 h
    by_cases h1 : c ∈ b
    · obtain ⟨a1, b1, e1, ha1⟩ := split_first c _ h1
      rw [parts_cons c ⟨b.toArray⟩ a1 b1 e1 ha1] at h
      injection h with q1 h
      by_cases h2 : c ∈ b1
      · obtain ⟨a2, b2, e2, ha2⟩ := split_first c _ h2
        rw [parts_cons c ⟨b1.toArray⟩ a2 b2 e2 ha2] at h
        injection h with _ h
        have := parts_len c ⟨b2.toArray⟩
        rw [h] at this
        simp at this
      · rw [parts_one c ⟨b1.toArray⟩ h2] at h
        injection h with q2 _
        subst q0 q1 q2
        exact ⟨by rw [e]; show a ++ c :: b = _; rw [show b = a1 ++ c :: b1 from e1], ha, ha1, h2⟩
    · rw [parts_one c ⟨b.toArray⟩ h1] at h
      injection h with _ h
      cases h
  · rw [parts_one c s h0] at h
    injection h with _ h
    cases h
theorem dot_prefix (h : ByteArray) : Lib.hasPrefix h.data.toList [46] = (decide (0 < h.size) && bt h 0 == 46) := by
  have hl := size_toList h
  unfold Lib.hasPrefix bt
  by_cases hs : 0 < h.size
  · rw [dif_pos (by simpa using hs)]
    have he : h.data.toList = h[0] :: h.data.toList.tail := by
      cases hd : h.data.toList with
      | nil => rw [hd] at hl; simp at hl; omega
      | cons a t =>
        have : h[0] = h.data.toList[0]'(by rw [hl]; exact hs) := rfl
        simp [this, hd]
    rw [he, decide_eq_true hs]
    show ((46 : UInt8) == h[0] && ([] : List UInt8).isPrefixOf h.data.toList.tail) = _
    have e0 : ([] : List UInt8).isPrefixOf h.data.toList.tail = true := by cases h.data.toList.tail <;> rfl
    rw [e0, Bool.and_true, Bool.true_and, Bool.eq_iff_iff]
    simp only [beq_iff_eq]
    constructor
    · intro e; show ((h[0]).toNat : Int) = 46; rw [← e]; rfl
    · intro e
      have e2 : h[0].toNat = 46 := by have : ((h[0]).toNat : Int) = 46 := e; omega
      exact (UInt8.toNat_inj.1 (by rw [e2]; rfl)).symm
  · have : h.data.toList = [] := List.eq_nil_of_length_eq_zero (by omega)
    rw [this, decide_eq_false hs]
    rfl
end Go.Proofs.YthmnhbalmglohaaGreatDoor.X

/- The parts of a text between points. -/
namespace Go.Proofs.YthmnhbalmglohaaGreatDoor.X
open Go.RowKit Go.Proofs.YthmnhbalmglohaaGreatDoorW.PrintWords Go.Proofs.YthmnhbalmglohaaGreatDoor.T
set_option linter.unusedSimpArgs false
set_option linter.unusedVariables false
/-! ### the parts between points -/
theorem dot_index (t : ByteArray) {j : Nat} (h : t.data.toList[j]? = some 46) (hno : ∀ k, k < j → t.data.toList[k]? ≠ some 46) : Lib.indexB t ⟨#[46]⟩ = j := by
  have e : Lib.indexB t ⟨#[46]⟩ = Lib.indexByte t.data.toList 46 := Lib.index_one _ _
  rw [e]
  rcases Int.lt_or_le (Lib.indexByte t.data.toList 46) 0 with hm | hm
  · have h1 := Lib.indexByte_ge t.data.toList 46
    exact absurd h (Lib.indexByte_none (by omega) j)
  · obtain ⟨o, ho⟩ : ∃ o : Nat, Lib.indexByte t.data.toList 46 = o := ⟨(Lib.indexByte t.data.toList 46).toNat, by omega⟩
    obtain ⟨p1, p2⟩ := Lib.indexByte_some ho
    rw [ho]
    rcases Nat.lt_trichotomy o j with hlt | rfl | hgt
    · exact absurd p1 (hno o hlt)
    · rfl
    · exact absurd h (p2 j hgt)
theorem dot_none (t : ByteArray) (hno : ∀ k : Nat, t.data.toList[k]? ≠ some 46) : Lib.indexB t ⟨#[46]⟩ = -1 := by
  have e : Lib.indexB t ⟨#[46]⟩ = Lib.indexByte t.data.toList 46 := Lib.index_one _ _
  rw [e]
  have h1 := Lib.indexByte_ge t.data.toList 46
  rcases Int.lt_or_le (Lib.indexByte t.data.toList 46) 0 with hm | hm
  · omega
  · obtain ⟨o, ho⟩ : ∃ o : Nat, Lib.indexByte t.data.toList 46 = o := ⟨(Lib.indexByte t.data.toList 46).toNat, by omega⟩
    exact absurd (Lib.indexByte_some ho).1 (hno o)
theorem labels_no (t : ByteArray) (hno : ∀ k : Nat, t.data.toList[k]? ≠ some 46) : labelsB t = [t] := Lib.splitB_miss _ _ _ _ (dot_none t hno)
theorem labels_hit (t : ByteArray) (j : Nat) (h : t.data.toList[j]? = some 46) (hno : ∀ k, k < j → t.data.toList[k]? ≠ some 46) : labelsB t = t.extract 0 j :: labelsB (t.extract (j + 1) t.size) := by
  have hx := dot_index t h hno
  unfold labelsB
  rw [Lib.countB_hit t ⟨#[46]⟩ j (by decide) hx, Nat.add_comm 1, Lib.splitB_hit _ _ _ _ _ hx]
  rfl
end Go.Proofs.YthmnhbalmglohaaGreatDoor.X

-- PRINTED by print.py (a twelfth state) out of the translation. Not trusted: Lean checks it.
namespace Go.Proofs.YthmnhbalmglohaaGreatDoor.X
open Go.RowKit Go.Proofs.YthmnhbalmglohaaGreatDoorW.PrintWords Go.Proofs.YthmnhbalmglohaaGreatDoorW.PrintLast Go.Proofs.YthmnhbalmglohaaGreatDoorW.PrintMore
attribute [local go_sem] max2_int min2_int max_two min_two max_three min_three max_four min_four   -- for this text's walks alone
set_option linter.unusedVariables false
set_option linter.unusedSimpArgs false
open Go.Proofs.YthmnhbalmglohaaGreatDoor.T

/-! ### tollhouseref10_labels: function 81 -/
def tollhouseref10_labels.l0 : Nat → ByteArray → List ByteArray → Int → Int → Option (List ByteArray)
  | 0, _, _, _, _ => none
  | k + 1, x0, x3, x4, x5 => if x5 ≤ (x0.size : Int) then (if x5 = (x0.size : Int) then (if 0 ≤ x4 then (if x4 ≤ x5 then (if x3.length < 8796093022208 then (tollhouseref10_labels.l0 k x0 (x3 ++ [x0.extract (x4 : Int).toNat (x5 : Int).toNat]) (wrap64 (x5 + 1)) (wrap64 (x5 + 1))) else (none)) else (none)) else (none)) else (if 0 ≤ x5 then (if x5 < (x0.size : Int) then (if (bt x0 x5) = 46 then (if 0 ≤ x4 then (if x4 ≤ x5 then (if x3.length < 8796093022208 then (tollhouseref10_labels.l0 k x0 (x3 ++ [x0.extract (x4 : Int).toNat (x5 : Int).toNat]) (wrap64 (x5 + 1)) (wrap64 (x5 + 1))) else (none)) else (none)) else (none)) else (tollhouseref10_labels.l0 k x0 x3 x4 (wrap64 (x5 + 1)))) else (none)) else (none))) else (some x3)
def tollhouseref10_labels.f (k : Nat) (a0 : ByteArray) : Option (List ByteArray) := tollhouseref10_labels.l0 k a0 ([] : List ByteArray) 0 0
theorem tollhouseref10_labels.mono_l : ∀ k, (∀ y0 y1 y2 y3, LeO (tollhouseref10_labels.l0 k y0 y1 y2 y3) (tollhouseref10_labels.l0 (k + 1) y0 y1 y2 y3))
  | 0 => fun _ _ _ _ r h => by simp [tollhouseref10_labels.l0] at h
  | k + 1 => by
    have ih0 := tollhouseref10_labels.mono_l k
    · intro y0 y1 y2 y3
      unfold tollhouseref10_labels.l0
      repeat' first
      | (with_reducible exact ih0 _ _ _ _)
      | (with_reducible exact LeO.refl _)
      | (with_reducible exact LeO.none _)
      | (with_reducible refine LeO.ite ?_ ?_)
      | (with_reducible refine LeO.bind ?_ (fun _ => ?_))
      | exact ih0 _ _ _ _
      | exact LeO.none _
      | refine LeO.ite ?_ ?_
      | refine LeO.bind ?_ (fun _ => ?_)
theorem tollhouseref10_labels.mono : ∀ a0 k, LeO (tollhouseref10_labels.f k a0) (tollhouseref10_labels.f (k + 1) a0) := by
  intro a0 k
  have ih0 := tollhouseref10_labels.mono_l k
  unfold tollhouseref10_labels.f
  repeat' first
      | (with_reducible exact ih0 _ _ _ _)
      | (with_reducible exact LeO.refl _)
      | (with_reducible exact LeO.none _)
      | (with_reducible refine LeO.ite ?_ ?_)
      | (with_reducible refine LeO.bind ?_ (fun _ => ?_))
      | exact ih0 _ _ _ _
      | exact LeO.none _
      | refine LeO.ite ?_ ?_
      | refine LeO.bind ?_ (fun _ => ?_)
set_option maxHeartbeats 8000000 in
set_option maxRecDepth 100000 in
theorem tollhouseref10_labels.calls (k : Nat) (a0 : ByteArray) (r : List ByteArray) (w : World) (HGg : Glob w) (h : tollhouseref10_labels.f k a0 = some r) :
    Calls Tryz.prog 81 #[.string a0] w fun e w' => ∃ v0_ : Value, e = .returned (v0_) ∧ Kd.R Kd.string 9 w' w.heap.size (fun _ => True) v0_ r ∧ Below w.heap.size w w' := by
  have HGl := Aside0.mk HGg
  clear HGg
  have HB := Aside0.mk (Below.refl w.heap.size w)
  have H : (tollhouseref10_labels.l0 k a0 ([] : List ByteArray) 0 0) = some r := h
  clear h
  have H' := Aside0.mk H
  clear H
  go_enter Tryz.func81, Tryz.ntmps81
  go_wp2
  go_loopg [3, 4, 5] k (fun kq v3 v4 v5 w' => ∃ (x3_1 : List ByteArray) (x4_1 : Int) (x5_1 : Int), v4 = .int .i64 x4_1 ∧ v5 = .int .i64 x5_1 ∧ Aside0 (tollhouseref10_labels.l0 kq a0 x3_1 x4_1 x5_1 = some r) ∧ Aside0 (kq ≤ k) ∧ Aside0 (Kd.R Kd.string 9 w' w.heap.size (fun _ => True) v3 x3_1) ∧ Aside0 (Below w.heap.size w w'))
  case atStart => exact ⟨(([] : List ByteArray)), (0), (0), (by first | rfl | (simp; done) | (simp [*]; done)), (by first | rfl | (simp; done) | (simp [*]; done)), H', ⟨Nat.le_refl _⟩, ⟨by first | exact Kd.R_nil _ _ _ _ _ | exact Kd.N_nil _ _ _ _ _ | exact Kd.V_nil _ _ _ _ _ | exact Kd.Q_nil _ _ _ _ _ | exact Kd.S_nil _ _ _ _ _⟩, ⟨by repeat (first | (with_reducible first | exact HB.out | apply below_alloc | apply pw_below_drewN | apply below_drew1) | exact HB.out)⟩⟩
  case round =>
    clear H'
    obtain ⟨x3_1, x4_1, x5_1, rfl, rfl, HA, HK1, HO_3, HB⟩ := hrel
    cases gk with
    | zero => exact absurd HA.out (by simp [tollhouseref10_labels.l0])
    | succ k1 =>
      have H := HA.out
      clear HA
      simp only [tollhouseref10_labels.l0] at H
      by_cases c2 : x5_1 ≤ (a0.size : Int)
      · rw [if_pos c2] at H
        have c2b0 : decide (x5_1 ≤ (a0.size : Int)) = true := decide_eq_true c2
        clear c2
        by_cases c3 : x5_1 = (a0.size : Int)
        · rw [if_pos c3] at H
          have c3b0 : (x5_1 == (a0.size : Int)) = true := beq_iff_eq.mpr c3
          have c3b1 : (x5_1 != (a0.size : Int)) = false := bne_eq_false_iff_eq.mpr c3
          clear c3
          by_cases c4 : 0 ≤ x4_1
          · rw [if_pos c4] at H
            have c4b0 := eq_true c4
            have c4b1 : decide (0 ≤ x4_1) = true := decide_eq_true c4
            clear c4
            by_cases c5 : x4_1 ≤ x5_1
            · rw [if_pos c5] at H
              have c5b0 := eq_true c5
              have c5b1 : decide (x4_1 ≤ x5_1) = true := decide_eq_true c5
              clear c5
              have c6b0 := eq_true (of_decide_eq_true (by first | (with_reducible assumption) | assumption) : x5_1 ≤ (a0.size : Int))
              by_cases c7 : x3_1.length < 8796093022208
              · rw [if_pos c7] at H
                have LMc7 := Aside0.mk c7
                clear c7
                obtain ⟨y101, hy101⟩ : ∃ y_ : List ByteArray, y_ = (x3_1 ++ [a0.extract (x4_1 : Int).toNat (x5_1 : Int).toNat]) := ⟨_, rfl⟩
                replace H : (tollhouseref10_labels.l0 k1 a0 y101 (wrap64 (x5_1 + 1)) (wrap64 (x5_1 + 1))) = some r := by first | (rw [hy101]; with_reducible exact H) | (have H2_ := (Option.bind_some _ _).symm.trans H; rw [hy101]; with_reducible exact H2_) | (have H2_ := (Option.bind_some _ _).symm.trans H; with_reducible exact H2_) | with_reducible exact H | (rw [hy101]; exact H) | exact H
                have Ny101 := Aside0.mk hy101
                clear hy101
                have H' := Aside0.mk H
                clear H
                go_wp2_with (first | ((with_reducible refine gate_builtin (b := .append) (xs := #[.tmp 22, .tmp 27]) rfl ?_); at_builtin; refine Kd.R_append Kd.string (w0 := w) w.heap.size rfl (.tmp 22) (.tmp 27) 44 9 (.string ⟨#[]⟩) 16 rfl Tryz.underlying44 info9 rfl (by decide) (by omega) u3 x3_1 (a0.extract (x4_1 : Int).toNat (x5_1 : Int).toNat) [.string (a0.extract (x4_1 : Int).toNat (x5_1 : Int).toNat)] (fun _ => True) (fun _ => False) rfl rfl ?aP (fun _ hk => hk.elim) ?aF ?aO ?aB ?aS ?aL ?_; (case aP => exact rfl); (case aB => exact (by repeat (first | (with_reducible first | exact HB.out | apply below_alloc | apply pw_below_drewN | apply below_drew1) | exact HB.out))); (case aF => exact (fun _ _ => trivial)); (case aO => exact (by (with_reducible repeat (first | apply Kd.R_alloc | apply Kd.R_drewN | apply Kd.R_drew)); exact HO_3.out)); (case aS => exact (below_size (by repeat (first | (with_reducible first | exact HB.out | apply below_alloc | apply pw_below_drewN | apply below_drew1) | exact HB.out)))); (case aL => have := LMc7.out; omega); intro v102 w8 ho hb hg hat; rw [← Ny101.out] at ho; have n0_ := Aside0.mk (hb); have n1_ := Aside0.mk (ho); clear HB; clear HO_3; have HB := n0_; have HO103 := n1_; clear n0_ n1_; clear ho hb hg hat))
                go_roundg k1
                case measure => have := HK1.out; omega
                case rel => exact ⟨(y101), (wrap64 (x5_1 + 1)), (wrap64 (x5_1 + 1)), (by first | rfl | (simp; done) | (simp [*]; done)), (by first | rfl | (simp; done) | (simp [*]; done)), H', ⟨by have := HK1.out; omega⟩, ⟨by (with_reducible repeat (first | apply Kd.R_alloc | apply Kd.R_drewN | apply Kd.R_drew)); exact HO103.out⟩, ⟨by repeat (first | (with_reducible first | exact HB.out | apply below_alloc | apply pw_below_drewN | apply below_drew1) | exact HB.out)⟩⟩
              · rw [if_neg c7] at H
                exact absurd H (by simp)
            · rw [if_neg c5] at H
              exact absurd H (by simp)
          · rw [if_neg c4] at H
            exact absurd H (by simp)
        · rw [if_neg c3] at H
          have c3b0 : (x5_1 == (a0.size : Int)) = false := beq_eq_false_iff_ne.mpr c3
          have c3b1 : (x5_1 != (a0.size : Int)) = true := bne_iff_ne.mpr c3
          by_cases c9 : 0 ≤ x5_1
          · rw [if_pos c9] at H
            have c9b0 : decide (0 ≤ x5_1) = true := decide_eq_true c9
            clear c9
            by_cases c10 : x5_1 < (a0.size : Int)
            · rw [if_pos c10] at H
              have c10b0 : decide (x5_1 < (a0.size : Int)) = true := decide_eq_true c10
              clear c10
              by_cases c12 : (bt a0 x5_1) = 46
              · rw [if_pos c12] at H
                have c12b0 : ((bt a0 x5_1) == 46) = true := beq_iff_eq.mpr c12
                have c12b1 : ((bt a0 x5_1) != 46) = false := bne_eq_false_iff_eq.mpr c12
                clear c12
                by_cases c13 : 0 ≤ x4_1
                · rw [if_pos c13] at H
                  have c13b0 := eq_true c13
                  have c13b1 : decide (0 ≤ x4_1) = true := decide_eq_true c13
                  clear c13
                  by_cases c14 : x4_1 ≤ x5_1
                  · rw [if_pos c14] at H
                    have c14b0 := eq_true c14
                    have c14b1 : decide (x4_1 ≤ x5_1) = true := decide_eq_true c14
                    clear c14
                    have c15b0 := eq_true (of_decide_eq_true (by first | (with_reducible assumption) | assumption) : x5_1 ≤ (a0.size : Int))
                    by_cases c16 : x3_1.length < 8796093022208
                    · rw [if_pos c16] at H
                      have LMc16 := Aside0.mk c16
                      clear c16
                      obtain ⟨y104, hy104⟩ : ∃ y_ : List ByteArray, y_ = (x3_1 ++ [a0.extract (x4_1 : Int).toNat (x5_1 : Int).toNat]) := ⟨_, rfl⟩
                      replace H : (tollhouseref10_labels.l0 k1 a0 y104 (wrap64 (x5_1 + 1)) (wrap64 (x5_1 + 1))) = some r := by first | (rw [hy104]; with_reducible exact H) | (have H2_ := (Option.bind_some _ _).symm.trans H; rw [hy104]; with_reducible exact H2_) | (have H2_ := (Option.bind_some _ _).symm.trans H; with_reducible exact H2_) | with_reducible exact H | (rw [hy104]; exact H) | exact H
                      have Ny104 := Aside0.mk hy104
                      clear hy104
                      have H' := Aside0.mk H
                      clear H
                      have p11 : 0 ≤ (x5_1 : Int) := of_decide_eq_true (by first | (with_reducible assumption) | assumption)
                      have q11 : x5_1 < (a0.size : Int) := of_decide_eq_true (by first | (with_reducible assumption) | assumption)
                      have hx11 := bt_at a0 x5_1
                      replace p11 := eq_true p11
                      replace q11 := eq_true q11
                      go_wp2_with (first | ((with_reducible refine gate_builtin (b := .append) (xs := #[.tmp 22, .tmp 27]) rfl ?_); at_builtin; refine Kd.R_append Kd.string (w0 := w) w.heap.size rfl (.tmp 22) (.tmp 27) 44 9 (.string ⟨#[]⟩) 16 rfl Tryz.underlying44 info9 rfl (by decide) (by omega) u3 x3_1 (a0.extract (x4_1 : Int).toNat (x5_1 : Int).toNat) [.string (a0.extract (x4_1 : Int).toNat (x5_1 : Int).toNat)] (fun _ => True) (fun _ => False) rfl rfl ?aP (fun _ hk => hk.elim) ?aF ?aO ?aB ?aS ?aL ?_; (case aP => exact rfl); (case aB => exact (by repeat (first | (with_reducible first | exact HB.out | apply below_alloc | apply pw_below_drewN | apply below_drew1) | exact HB.out))); (case aF => exact (fun _ _ => trivial)); (case aO => exact (by (with_reducible repeat (first | apply Kd.R_alloc | apply Kd.R_drewN | apply Kd.R_drew)); exact HO_3.out)); (case aS => exact (below_size (by repeat (first | (with_reducible first | exact HB.out | apply below_alloc | apply pw_below_drewN | apply below_drew1) | exact HB.out)))); (case aL => have := LMc16.out; omega); intro v105 w17 ho hb hg hat; rw [← Ny104.out] at ho; have n0_ := Aside0.mk (hb); have n1_ := Aside0.mk (ho); clear HB; clear HO_3; have HB := n0_; have HO106 := n1_; clear n0_ n1_; clear ho hb hg hat))
                      go_roundg k1
                      case measure => have := HK1.out; omega
                      case rel => exact ⟨(y104), (wrap64 (x5_1 + 1)), (wrap64 (x5_1 + 1)), (by first | rfl | (simp; done) | (simp [*]; done)), (by first | rfl | (simp; done) | (simp [*]; done)), H', ⟨by have := HK1.out; omega⟩, ⟨by (with_reducible repeat (first | apply Kd.R_alloc | apply Kd.R_drewN | apply Kd.R_drew)); exact HO106.out⟩, ⟨by repeat (first | (with_reducible first | exact HB.out | apply below_alloc | apply pw_below_drewN | apply below_drew1) | exact HB.out)⟩⟩
                    · rw [if_neg c16] at H
                      exact absurd H (by simp)
                  · rw [if_neg c14] at H
                    exact absurd H (by simp)
                · rw [if_neg c13] at H
                  exact absurd H (by simp)
              · rw [if_neg c12] at H
                have c12b0 : ((bt a0 x5_1) == 46) = false := beq_eq_false_iff_ne.mpr c12
                have c12b1 : ((bt a0 x5_1) != 46) = true := bne_iff_ne.mpr c12
                have H' := Aside0.mk H
                clear H
                have p11 : 0 ≤ (x5_1 : Int) := of_decide_eq_true (by first | (with_reducible assumption) | assumption)
                have q11 : x5_1 < (a0.size : Int) := of_decide_eq_true (by first | (with_reducible assumption) | assumption)
                have hx11 := bt_at a0 x5_1
                replace p11 := eq_true p11
                replace q11 := eq_true q11
                go_wp2
                go_roundg k1
                case measure => have := HK1.out; omega
                case rel => exact ⟨(x3_1), (x4_1), (wrap64 (x5_1 + 1)), (by first | rfl | (simp; done) | (simp [*]; done)), (by first | rfl | (simp; done) | (simp [*]; done)), H', ⟨by have := HK1.out; omega⟩, ⟨by (with_reducible repeat (first | apply Kd.R_alloc | apply Kd.R_drewN | apply Kd.R_drew)); exact HO_3.out⟩, ⟨by repeat (first | (with_reducible first | exact HB.out | apply below_alloc | apply pw_below_drewN | apply below_drew1) | exact HB.out)⟩⟩
            · rw [if_neg c10] at H
              exact absurd H (by simp)
          · rw [if_neg c9] at H
            exact absurd H (by simp)
      · rw [if_neg c2] at H
        have c2b0 : decide (x5_1 ≤ (a0.size : Int)) = false := decide_eq_false c2
        clear c2
        obtain rfl := Option.some.inj H
        go_wp2
        go_ret
        exact ⟨_, by first | rfl | (simp [errW_none, errW_some] <;> rfl) | (simp [*, errW_none, errW_some] <;> rfl), by (with_reducible repeat (first | apply Kd.R_alloc | apply Kd.R_drewN | apply Kd.R_drew)); exact HO_3.out, by repeat (first | (with_reducible first | exact HB.out | apply below_alloc | apply pw_below_drewN | apply below_drew1) | exact HB.out)⟩

end Go.Proofs.YthmnhbalmglohaaGreatDoor.X

-- PRINTED by print.py (a twelfth state) out of the translation. Not trusted: Lean checks it.
namespace Go.Proofs.YthmnhbalmglohaaGreatDoor.X
open Go.RowKit Go.Proofs.YthmnhbalmglohaaGreatDoorW.PrintWords Go.Proofs.YthmnhbalmglohaaGreatDoorW.PrintLast Go.Proofs.YthmnhbalmglohaaGreatDoorW.PrintMore
attribute [local go_sem] max2_int min2_int max_two min_two max_three min_three max_four min_four   -- for this text's walks alone
set_option linter.unusedVariables false
set_option linter.unusedSimpArgs false
open Go.Proofs.YthmnhbalmglohaaGreatDoor.T

/-! ### tollhouseref10_octet: function 82 -/
def tollhouseref10_octet.l0 : Nat → ByteArray → Int → Int → Option (Bool)
  | 0, _, _, _ => none
  | k + 1, x0, x3, x4 => if x4 < (x0.size : Int) then (if 0 ≤ x4 then (if (bt x0 x4) < 48 then (some false) else (if (bt x0 x4) > 57 then (some false) else (if x4 ≥ 3 then (some false) else (tollhouseref10_octet.l0 k x0 (wrap64 ((wrap64 (10 * x3)) + (((bt x0 x4) - 48) % 256))) (wrap64 (x4 + 1)))))) else (none)) else (if (x0.size : Int) > 0 then (if x3 ≤ 255 then (if 0 < (x0.size : Int) then (if (bt x0 0) = 48 then (some ((x0.size : Int) == 1)) else (some true)) else (none)) else (some false)) else (some false))
def tollhouseref10_octet.f (k : Nat) (a0 : ByteArray) : Option (Bool) := tollhouseref10_octet.l0 k a0 0 0
theorem tollhouseref10_octet.mono_l : ∀ k, (∀ y0 y1 y2, LeO (tollhouseref10_octet.l0 k y0 y1 y2) (tollhouseref10_octet.l0 (k + 1) y0 y1 y2))
  | 0 => fun _ _ _ r h => by simp [tollhouseref10_octet.l0] at h
  | k + 1 => by
    have ih0 := tollhouseref10_octet.mono_l k
    · intro y0 y1 y2
      unfold tollhouseref10_octet.l0
      repeat' first
      | (with_reducible exact ih0 _ _ _)
      | (with_reducible exact LeO.refl _)
      | (with_reducible exact LeO.none _)
      | (with_reducible refine LeO.ite ?_ ?_)
      | (with_reducible refine LeO.bind ?_ (fun _ => ?_))
      | exact ih0 _ _ _
      | exact LeO.none _
      | refine LeO.ite ?_ ?_
      | refine LeO.bind ?_ (fun _ => ?_)
theorem tollhouseref10_octet.mono : ∀ a0 k, LeO (tollhouseref10_octet.f k a0) (tollhouseref10_octet.f (k + 1) a0) := by
  intro a0 k
  have ih0 := tollhouseref10_octet.mono_l k
  unfold tollhouseref10_octet.f
  repeat' first
      | (with_reducible exact ih0 _ _ _)
      | (with_reducible exact LeO.refl _)
      | (with_reducible exact LeO.none _)
      | (with_reducible refine LeO.ite ?_ ?_)
      | (with_reducible refine LeO.bind ?_ (fun _ => ?_))
      | exact ih0 _ _ _
      | exact LeO.none _
      | refine LeO.ite ?_ ?_
      | refine LeO.bind ?_ (fun _ => ?_)
set_option maxHeartbeats 8000000 in
set_option maxRecDepth 100000 in
theorem tollhouseref10_octet.calls (k : Nat) (a0 : ByteArray) (r : Bool) (w : World) (HGg : Glob w) (h : tollhouseref10_octet.f k a0 = some r) :
    Calls Tryz.prog 82 #[.string a0] w fun e w' => e = .returned (.bool r) ∧ Drawn0 w w' := by
  have HGl := Aside0.mk HGg
  clear HGg
  have H : (tollhouseref10_octet.l0 k a0 0 0) = some r := h
  clear h
  have H' := Aside0.mk H
  clear H
  go_enter Tryz.func82, Tryz.ntmps82
  go_wp2
  go_loopg [3, 4] k (fun kq v3 v4 w' => ∃ (x3_1 : Int) (x4_1 : Int), v3 = .int .i64 x3_1 ∧ v4 = .int .i64 x4_1 ∧ Aside0 (tollhouseref10_octet.l0 kq a0 x3_1 x4_1 = some r) ∧ Aside0 (kq ≤ k) ∧ Drawn0 w w')
  case atStart => exact ⟨(0), (0), (by first | rfl | (simp; done) | (simp [*]; done)), (by first | rfl | (simp; done) | (simp [*]; done)), H', ⟨Nat.le_refl _⟩, by repeat (first | exact Drawn0.refl _ | apply Drawn0.step)⟩
  case round =>
    clear H'
    obtain ⟨x3_1, x4_1, rfl, rfl, HA, HK1, ⟨m1, rfl⟩⟩ := hrel
    cases gk with
    | zero => exact absurd HA.out (by simp [tollhouseref10_octet.l0])
    | succ k1 =>
      have H := HA.out
      clear HA
      simp only [tollhouseref10_octet.l0] at H
      by_cases c2 : x4_1 < (a0.size : Int)
      · rw [if_pos c2] at H
        have c2b0 : decide (x4_1 < (a0.size : Int)) = true := decide_eq_true c2
        clear c2
        by_cases c3 : 0 ≤ x4_1
        · rw [if_pos c3] at H
          have c3b0 : decide (0 ≤ x4_1) = true := decide_eq_true c3
          clear c3
          by_cases c5 : (bt a0 x4_1) < 48
          · rw [if_pos c5] at H
            have c5b0 : decide ((bt a0 x4_1) < 48) = true := decide_eq_true c5
            clear c5
            obtain rfl := Option.some.inj H
            have p4 : 0 ≤ (x4_1 : Int) := of_decide_eq_true (by first | (with_reducible assumption) | assumption)
            have q4 : x4_1 < (a0.size : Int) := of_decide_eq_true (by first | (with_reducible assumption) | assumption)
            have hx4 := bt_at a0 x4_1
            replace p4 := eq_true p4
            replace q4 := eq_true q4
            go_wp2
            go_ret
            exact ⟨by first | rfl | (simp; done) | (simp [*]; done), by repeat (first | exact Drawn0.refl _ | apply Drawn0.step)⟩
          · rw [if_neg c5] at H
            have c5b0 : decide ((bt a0 x4_1) < 48) = false := decide_eq_false c5
            clear c5
            by_cases c7 : (bt a0 x4_1) > 57
            · rw [if_pos c7] at H
              have c7b0 : decide (57 < (bt a0 x4_1)) = true := decide_eq_true c7
              clear c7
              obtain rfl := Option.some.inj H
              have p4 : 0 ≤ (x4_1 : Int) := of_decide_eq_true (by first | (with_reducible assumption) | assumption)
              have q4 : x4_1 < (a0.size : Int) := of_decide_eq_true (by first | (with_reducible assumption) | assumption)
              have hx4 := bt_at a0 x4_1
              replace p4 := eq_true p4
              replace q4 := eq_true q4
              have p6 : 0 ≤ (x4_1 : Int) := of_decide_eq_true (by first | (with_reducible assumption) | assumption)
              have q6 : x4_1 < (a0.size : Int) := of_decide_eq_true (by first | (with_reducible assumption) | assumption)
              have hx6 := bt_at a0 x4_1
              replace p6 := eq_true p6
              replace q6 := eq_true q6
              go_wp2
              go_ret
              exact ⟨by first | rfl | (simp; done) | (simp [*]; done), by repeat (first | exact Drawn0.refl _ | apply Drawn0.step)⟩
            · rw [if_neg c7] at H
              have c7b0 : decide (57 < (bt a0 x4_1)) = false := decide_eq_false c7
              clear c7
              by_cases c8 : x4_1 ≥ 3
              · rw [if_pos c8] at H
                have c8b0 : decide (3 ≤ x4_1) = true := decide_eq_true c8
                clear c8
                obtain rfl := Option.some.inj H
                have p4 : 0 ≤ (x4_1 : Int) := of_decide_eq_true (by first | (with_reducible assumption) | assumption)
                have q4 : x4_1 < (a0.size : Int) := of_decide_eq_true (by first | (with_reducible assumption) | assumption)
                have hx4 := bt_at a0 x4_1
                replace p4 := eq_true p4
                replace q4 := eq_true q4
                have p6 : 0 ≤ (x4_1 : Int) := of_decide_eq_true (by first | (with_reducible assumption) | assumption)
                have q6 : x4_1 < (a0.size : Int) := of_decide_eq_true (by first | (with_reducible assumption) | assumption)
                have hx6 := bt_at a0 x4_1
                replace p6 := eq_true p6
                replace q6 := eq_true q6
                go_wp2
                go_ret
                exact ⟨by first | rfl | (simp; done) | (simp [*]; done), by repeat (first | exact Drawn0.refl _ | apply Drawn0.step)⟩
              · rw [if_neg c8] at H
                have c8b0 : decide (3 ≤ x4_1) = false := decide_eq_false c8
                clear c8
                have H' := Aside0.mk H
                clear H
                have p4 : 0 ≤ (x4_1 : Int) := of_decide_eq_true (by first | (with_reducible assumption) | assumption)
                have q4 : x4_1 < (a0.size : Int) := of_decide_eq_true (by first | (with_reducible assumption) | assumption)
                have hx4 := bt_at a0 x4_1
                replace p4 := eq_true p4
                replace q4 := eq_true q4
                have p6 : 0 ≤ (x4_1 : Int) := of_decide_eq_true (by first | (with_reducible assumption) | assumption)
                have q6 : x4_1 < (a0.size : Int) := of_decide_eq_true (by first | (with_reducible assumption) | assumption)
                have hx6 := bt_at a0 x4_1
                replace p6 := eq_true p6
                replace q6 := eq_true q6
                have p9 : 0 ≤ (x4_1 : Int) := of_decide_eq_true (by first | (with_reducible assumption) | assumption)
                have q9 : x4_1 < (a0.size : Int) := of_decide_eq_true (by first | (with_reducible assumption) | assumption)
                have hx9 := bt_at a0 x4_1
                replace p9 := eq_true p9
                replace q9 := eq_true q9
                go_wp2
                go_roundg k1
                case measure => have := HK1.out; omega
                case rel => exact ⟨(wrap64 ((wrap64 (10 * x3_1)) + (((bt a0 x4_1) - 48) % 256))), (wrap64 (x4_1 + 1)), (by first | rfl | (simp; done) | (simp [*]; done)), (by first | rfl | (simp; done) | (simp [*]; done)), H', ⟨by have := HK1.out; omega⟩, by repeat (first | exact Drawn0.refl _ | apply Drawn0.step)⟩
        · rw [if_neg c3] at H
          exact absurd H (by simp)
      · rw [if_neg c2] at H
        have c2b0 : decide (x4_1 < (a0.size : Int)) = false := decide_eq_false c2
        clear c2
        by_cases c10 : (a0.size : Int) > 0
        · rw [if_pos c10] at H
          have c10b0 : decide (0 < (a0.size : Int)) = true := decide_eq_true c10
          have c10b1 : decide (0 < a0.size) = true := decide_eq_true (by omega)
          clear c10
          by_cases c11 : x3_1 ≤ 255
          · rw [if_pos c11] at H
            have c11b0 : decide (x3_1 ≤ 255) = true := decide_eq_true c11
            clear c11
            by_cases c12 : 0 < (a0.size : Int)
            · rw [if_pos c12] at H
              have c12b0 : decide (0 < (a0.size : Int)) = true := decide_eq_true c12
              have c12b1 : decide (0 < a0.size) = true := decide_eq_true (by omega)
              clear c12
              by_cases c14 : (bt a0 0) = 48
              · rw [if_pos c14] at H
                have c14b0 : ((bt a0 0) == 48) = true := beq_iff_eq.mpr c14
                have c14b1 : ((bt a0 0) != 48) = false := bne_eq_false_iff_eq.mpr c14
                clear c14
                obtain rfl := Option.some.inj H
                have p13 : 0 ≤ (0 : Int) := (by omega)
                have q13 : 0 < a0.size := (by have : (0 : Int) < (a0.size : Int) := of_decide_eq_true (by first | (with_reducible assumption) | assumption); omega)
                have hx13 : ∀ h : 0 < a0.size, ((a0[0]'h).toNat : Int) = bt a0 0 := bt_at a0 0
                clear p13
                have qi13 : (0 < (a0.size : Int)) = True := eq_true (of_decide_eq_true (by first | (with_reducible assumption) | assumption))
                replace q13 := eq_true q13
                go_wp2
                go_ret
                exact ⟨by first | rfl | (simp; done) | (simp [*]; done), by repeat (first | exact Drawn0.refl _ | apply Drawn0.step)⟩
              · rw [if_neg c14] at H
                have c14b0 : ((bt a0 0) == 48) = false := beq_eq_false_iff_ne.mpr c14
                have c14b1 : ((bt a0 0) != 48) = true := bne_iff_ne.mpr c14
                obtain rfl := Option.some.inj H
                have p13 : 0 ≤ (0 : Int) := (by omega)
                have q13 : 0 < a0.size := (by have : (0 : Int) < (a0.size : Int) := of_decide_eq_true (by first | (with_reducible assumption) | assumption); omega)
                have hx13 : ∀ h : 0 < a0.size, ((a0[0]'h).toNat : Int) = bt a0 0 := bt_at a0 0
                clear p13
                have qi13 : (0 < (a0.size : Int)) = True := eq_true (of_decide_eq_true (by first | (with_reducible assumption) | assumption))
                replace q13 := eq_true q13
                go_wp2
                go_ret
                exact ⟨by first | rfl | (simp; done) | (simp [*]; done), by repeat (first | exact Drawn0.refl _ | apply Drawn0.step)⟩
            · rw [if_neg c12] at H
              exact absurd H (by simp)
          · rw [if_neg c11] at H
            have c11b0 : decide (x3_1 ≤ 255) = false := decide_eq_false c11
            clear c11
            obtain rfl := Option.some.inj H
            go_wp2
            go_ret
            exact ⟨by first | rfl | (simp; done) | (simp [*]; done), by repeat (first | exact Drawn0.refl _ | apply Drawn0.step)⟩
        · rw [if_neg c10] at H
          have c10b0 : decide (0 < (a0.size : Int)) = false := decide_eq_false c10
          have c10b1 : decide (0 < a0.size) = false := decide_eq_false (by omega)
          clear c10
          obtain rfl := Option.some.inj H
          go_wp2
          go_ret
          exact ⟨by first | rfl | (simp; done) | (simp [*]; done), by repeat (first | exact Drawn0.refl _ | apply Drawn0.step)⟩

end Go.Proofs.YthmnhbalmglohaaGreatDoor.X

-- PRINTED by print.py (a twelfth state) out of the translation. Not trusted: Lean checks it.
namespace Go.Proofs.YthmnhbalmglohaaGreatDoor.X
open Go.RowKit Go.Proofs.YthmnhbalmglohaaGreatDoorW.PrintWords Go.Proofs.YthmnhbalmglohaaGreatDoorW.PrintLast Go.Proofs.YthmnhbalmglohaaGreatDoorW.PrintMore
attribute [local go_sem] max2_int min2_int max_two min_two max_three min_three max_four min_four   -- for this text's walks alone
set_option linter.unusedVariables false
set_option linter.unusedSimpArgs false
open Go.Proofs.YthmnhbalmglohaaGreatDoor.T

/-! ### tollhouseref10_number: function 83 -/
mutual
def tollhouseref10_number.j0 : Nat → ByteArray → Int → Bool → Option (Bool)
  | 0, _, _, _ => none
  | k + 1, x0, x3, x13 => if x13 = true then (tollhouseref10_number.j1 k x0 2) else (tollhouseref10_number.j1 k x0 x3)
def tollhouseref10_number.j1 : Nat → ByteArray → Int → Option (Bool)
  | 0, _, _ => none
  | k + 1, x0, x3 => tollhouseref10_number.l0 k x0 x3 x3
def tollhouseref10_number.l0 : Nat → ByteArray → Int → Int → Option (Bool)
  | 0, _, _, _ => none
  | k + 1, x0, x3, x4 => if x4 < (x0.size : Int) then (if 0 ≤ x4 then (if (bt x0 x4) ≥ 48 then (if ((bt x0 x4) ≤ 57) then (tollhouseref10_number.l0 k x0 x3 (wrap64 (x4 + 1))) else (if x3 = 0 then (some false) else (if (bt x0 x4) < 97 then (some false) else (if (bt x0 x4) > 102 then (some false) else (tollhouseref10_number.l0 k x0 x3 (wrap64 (x4 + 1))))))) else (if x3 = 0 then (some false) else (if (bt x0 x4) < 97 then (some false) else (if (bt x0 x4) > 102 then (some false) else (tollhouseref10_number.l0 k x0 x3 (wrap64 (x4 + 1))))))) else (none)) else (some true)
end
def tollhouseref10_number.f (k : Nat) (a0 : ByteArray) : Option (Bool) := if (a0.size : Int) ≥ 2 then (if 0 ≤ 2 then (if 2 ≤ (a0.size : Int) then (tollhouseref10_number.j0 k a0 0 ((a0.extract 0 2).toList == ([48, 120] : List UInt8))) else (none)) else (none)) else (tollhouseref10_number.j0 k a0 0 false)
theorem tollhouseref10_number.mono_l : ∀ k, (∀ y0 y1 y2, LeO (tollhouseref10_number.j0 k y0 y1 y2) (tollhouseref10_number.j0 (k + 1) y0 y1 y2)) ∧ (∀ y0 y1, LeO (tollhouseref10_number.j1 k y0 y1) (tollhouseref10_number.j1 (k + 1) y0 y1)) ∧ (∀ y0 y1 y2, LeO (tollhouseref10_number.l0 k y0 y1 y2) (tollhouseref10_number.l0 (k + 1) y0 y1 y2))
  | 0 => ⟨fun _ _ _ r h => by simp [tollhouseref10_number.j0] at h, fun _ _ r h => by simp [tollhouseref10_number.j1] at h, fun _ _ _ r h => by simp [tollhouseref10_number.l0] at h⟩
  | k + 1 => by
    obtain ⟨ih0, ih1, ih2⟩ := tollhouseref10_number.mono_l k
    refine ⟨?_, ?_, ?_⟩
    · intro y0 y1 y2
      unfold tollhouseref10_number.j0
      repeat' first
      | (with_reducible exact ih0 _ _ _)
      | (with_reducible exact ih1 _ _)
      | (with_reducible exact ih2 _ _ _)
      | (with_reducible exact LeO.refl _)
      | (with_reducible exact LeO.none _)
      | (with_reducible refine LeO.ite ?_ ?_)
      | (with_reducible refine LeO.bind ?_ (fun _ => ?_))
      | exact ih0 _ _ _
      | exact ih1 _ _
      | exact ih2 _ _ _
      | exact LeO.none _
      | refine LeO.ite ?_ ?_
      | refine LeO.bind ?_ (fun _ => ?_)
    · intro y0 y1
      unfold tollhouseref10_number.j1
      repeat' first
      | (with_reducible exact ih0 _ _ _)
      | (with_reducible exact ih1 _ _)
      | (with_reducible exact ih2 _ _ _)
      | (with_reducible exact LeO.refl _)
      | (with_reducible exact LeO.none _)
      | (with_reducible refine LeO.ite ?_ ?_)
      | (with_reducible refine LeO.bind ?_ (fun _ => ?_))
      | exact ih0 _ _ _
      | exact ih1 _ _
      | exact ih2 _ _ _
      | exact LeO.none _
      | refine LeO.ite ?_ ?_
      | refine LeO.bind ?_ (fun _ => ?_)
    · intro y0 y1 y2
      unfold tollhouseref10_number.l0
      repeat' first
      | (with_reducible exact ih0 _ _ _)
      | (with_reducible exact ih1 _ _)
      | (with_reducible exact ih2 _ _ _)
      | (with_reducible exact LeO.refl _)
      | (with_reducible exact LeO.none _)
      | (with_reducible refine LeO.ite ?_ ?_)
      | (with_reducible refine LeO.bind ?_ (fun _ => ?_))
      | exact ih0 _ _ _
      | exact ih1 _ _
      | exact ih2 _ _ _
      | exact LeO.none _
      | refine LeO.ite ?_ ?_
      | refine LeO.bind ?_ (fun _ => ?_)
theorem tollhouseref10_number.mono : ∀ a0 k, LeO (tollhouseref10_number.f k a0) (tollhouseref10_number.f (k + 1) a0) := by
  intro a0 k
  obtain ⟨ih0, ih1, ih2⟩ := tollhouseref10_number.mono_l k
  unfold tollhouseref10_number.f
  repeat' first
      | (with_reducible exact ih0 _ _ _)
      | (with_reducible exact ih1 _ _)
      | (with_reducible exact ih2 _ _ _)
      | (with_reducible exact LeO.refl _)
      | (with_reducible exact LeO.none _)
      | (with_reducible refine LeO.ite ?_ ?_)
      | (with_reducible refine LeO.bind ?_ (fun _ => ?_))
      | exact ih0 _ _ _
      | exact ih1 _ _
      | exact ih2 _ _ _
      | exact LeO.none _
      | refine LeO.ite ?_ ?_
      | refine LeO.bind ?_ (fun _ => ?_)
set_option maxHeartbeats 8000000 in
set_option maxRecDepth 100000 in
theorem tollhouseref10_number.calls (k : Nat) (a0 : ByteArray) (r : Bool) (w : World) (HGg : Glob w) (h : tollhouseref10_number.f k a0 = some r) :
    Calls Tryz.prog 83 #[.string a0] w fun e w' => e = .returned (.bool r) ∧ Drawn0 w w' := by
  have HGl := Aside0.mk HGg
  clear HGg
  have H : (if (a0.size : Int) ≥ 2 then (if 0 ≤ 2 then (if 2 ≤ (a0.size : Int) then (tollhouseref10_number.j0 k a0 0 ((a0.extract 0 2).toList == ([48, 120] : List UInt8))) else (none)) else (none)) else (tollhouseref10_number.j0 k a0 0 false)) = some r := h
  clear h
  have HC2 := Aside0.mk H
  clear H
  go_enter Tryz.func83, Tryz.ntmps83
  go_upto_region 2 with (fail)
  go_cut [13] (fun v13 wc => ∃ (kq : Nat) (x13_1 : Bool), v13 = .bool x13_1 ∧ Aside0 (tollhouseref10_number.j0 kq a0 0 x13_1 = some r) ∧ Aside0 (kq ≤ k) ∧ Drawn0 w wc)
  case first =>
    have H := HC2.out
    clear HC2
    by_cases c3 : (a0.size : Int) ≥ 2
    · rw [if_pos c3] at H
      have c3b0 : decide (2 ≤ (a0.size : Int)) = true := decide_eq_true c3
      have c3b1 : decide (2 ≤ a0.size) = true := decide_eq_true (by omega)
      clear c3
      (first | rw [c3b0] | (simp only [i64_w, i32_w]; rw [c3b0]) | skip)
      by_cases c4 : 0 ≤ 2
      · rw [if_pos c4] at H
        have c4b0 := eq_true c4
        have c4b1 : decide (0 ≤ 2) = true := decide_eq_true c4
        clear c4
        by_cases c5 : 2 ≤ (a0.size : Int)
        · rw [if_pos c5] at H
          have c5b0 := eq_true c5
          have c5b1 : decide (2 ≤ (a0.size : Int)) = true := decide_eq_true c5
          clear c5
          have H' := Aside0.mk H
          clear H
          go_wp2
          go_meet
          case rel => exact ⟨_, (((a0.extract 0 2).toList == ([48, 120] : List UInt8))), (by first | rfl | (simp; done) | (simp [*]; done)), H', ⟨by first | omega | exact Nat.le_refl _⟩, by repeat (first | exact Drawn0.refl _ | apply Drawn0.step)⟩
        · rw [if_neg c5] at H
          exact absurd H (by simp)
      · rw [if_neg c4] at H
        exact absurd H (by simp)
    · rw [if_neg c3] at H
      have c3b0 : decide (2 ≤ (a0.size : Int)) = false := decide_eq_false c3
      have c3b1 : decide (2 ≤ a0.size) = false := decide_eq_false (by omega)
      clear c3
      (first | rw [c3b0] | (simp only [i64_w, i32_w]; rw [c3b0]) | skip)
      have H' := Aside0.mk H
      clear H
      go_wp2
      go_meet
      case rel => exact ⟨_, (false), (by first | rfl | (simp; done) | (simp [*]; done)), H', ⟨by first | omega | exact Nat.le_refl _⟩, by repeat (first | exact Drawn0.refl _ | apply Drawn0.step)⟩
  case rest =>
    clear HC2
    try clear p2
    try clear c3
    try clear c3b0
    try clear c3b1
    try clear c4
    try clear c4b0
    try clear c4b1
    try clear c5
    try clear c5b0
    try clear c5b1
    obtain ⟨kq, x13_1, rfl, HA, HJ1, ⟨mc1, rfl⟩⟩ := hcut
    cases kq with
    | zero => exact absurd HA.out (by simp [tollhouseref10_number.j0])
    | succ kj1 =>
      have H := HA.out
      clear HA
      simp only [tollhouseref10_number.j0] at H
      have HC6 := Aside0.mk H
      clear H
      go_upto_if 13 with (fail)
      go_cut [3] (fun v3 wc => ∃ (kq : Nat) (x3_5 : Int), v3 = .int .i64 x3_5 ∧ Aside0 (tollhouseref10_number.j1 kq a0 x3_5 = some r) ∧ Aside0 (kq ≤ kj1) ∧ Drawn0 w wc)
      case first =>
        have H := HC6.out
        clear HC6
        by_cases c7 : x13_1 = true
        · subst c7
          have H1 : (tollhouseref10_number.j1 kj1 a0 2) = some r := by rw [if_pos rfl] at H; exact H
          clear H
          have H := H1
          clear H1
          have H' := Aside0.mk H
          clear H
          go_wp2
          go_meet
          case rel => exact ⟨_, (2), (by first | rfl | (simp; done) | (simp [*]; done)), H', ⟨by have := HJ1.out; first | omega | exact Nat.le_refl _⟩, by repeat (first | exact Drawn0.refl _ | apply Drawn0.step)⟩
        · replace c7 := Bool.eq_false_iff.mpr c7
          subst c7
          have H1 : (tollhouseref10_number.j1 kj1 a0 0) = some r := by rw [if_neg (show ¬ (false = true) by decide)] at H; exact H
          clear H
          have H := H1
          clear H1
          have H' := Aside0.mk H
          clear H
          go_wp2
          go_meet
          case rel => exact ⟨_, (0), (by first | rfl | (simp; done) | (simp [*]; done)), H', ⟨by have := HJ1.out; first | omega | exact Nat.le_refl _⟩, by repeat (first | exact Drawn0.refl _ | apply Drawn0.step)⟩
      case rest =>
        clear HC6
        try clear c1
        try clear p2
        try clear c3
        try clear c3b0
        try clear c3b1
        try clear c4
        try clear c4b0
        try clear c4b1
        try clear c5
        try clear c5b0
        try clear c5b1
        try clear c7
        try clear p2
        obtain ⟨kq, x3_5, rfl, HA, HJ5, ⟨mc5, rfl⟩⟩ := hcut
        cases kq with
        | zero => exact absurd HA.out (by simp [tollhouseref10_number.j1])
        | succ kj5 =>
          have H := HA.out
          clear HA
          simp only [tollhouseref10_number.j1] at H
          have H' := Aside0.mk H
          clear H
          go_wp2
          go_loopg [4] kj5 (fun kq v4 w' => ∃ (x4_3 : Int), v4 = .int .i64 x4_3 ∧ Aside0 (tollhouseref10_number.l0 kq a0 x3_5 x4_3 = some r) ∧ Aside0 (kq ≤ kj5) ∧ Drawn0 w w')
          case atStart => exact ⟨(x3_5), (by first | rfl | (simp; done) | (simp [*]; done)), H', ⟨Nat.le_refl _⟩, by repeat (first | exact Drawn0.refl _ | apply Drawn0.step)⟩
          case round =>
            clear H'
            try clear c1
            try clear p2
            try clear c3
            try clear c3b0
            try clear c3b1
            try clear c4
            try clear c4b0
            try clear c4b1
            try clear c5
            try clear c5b0
            try clear c5b1
            try clear c7
            try clear p2
            obtain ⟨x4_3, rfl, HA, HK3, ⟨m3, rfl⟩⟩ := hrel
            cases gk with
            | zero => exact absurd HA.out (by simp [tollhouseref10_number.l0])
            | succ k3 =>
              have H := HA.out
              clear HA
              simp only [tollhouseref10_number.l0] at H
              by_cases c8 : x4_3 < (a0.size : Int)
              · rw [if_pos c8] at H
                have c8b0 : decide (x4_3 < (a0.size : Int)) = true := decide_eq_true c8
                clear c8
                by_cases c9 : 0 ≤ x4_3
                · rw [if_pos c9] at H
                  have c9b0 : decide (0 ≤ x4_3) = true := decide_eq_true c9
                  clear c9
                  by_cases c11 : (bt a0 x4_3) ≥ 48
                  · rw [if_pos c11] at H
                    have c11b0 : decide (48 ≤ (bt a0 x4_3)) = true := decide_eq_true c11
                    clear c11
                    by_cases c13 : ((bt a0 x4_3) ≤ 57)
                    · rw [if_pos c13] at H
                      have c13b0 : decide ((bt a0 x4_3) ≤ 57) = true := decide_eq_true c13
                      clear c13
                      have H' := Aside0.mk H
                      clear H
                      have p10 : 0 ≤ (x4_3 : Int) := of_decide_eq_true (by first | (with_reducible assumption) | assumption)
                      have q10 : x4_3 < (a0.size : Int) := of_decide_eq_true (by first | (with_reducible assumption) | assumption)
                      have hx10 := bt_at a0 x4_3
                      replace p10 := eq_true p10
                      replace q10 := eq_true q10
                      have p12 : 0 ≤ (x4_3 : Int) := of_decide_eq_true (by first | (with_reducible assumption) | assumption)
                      have q12 : x4_3 < (a0.size : Int) := of_decide_eq_true (by first | (with_reducible assumption) | assumption)
                      have hx12 := bt_at a0 x4_3
                      replace p12 := eq_true p12
                      replace q12 := eq_true q12
                      go_wp2
                      go_roundg k3
                      case measure => have := HJ1.out; have := HJ5.out; have := HK3.out; omega
                      case rel => exact ⟨(wrap64 (x4_3 + 1)), (by first | rfl | (simp; done) | (simp [*]; done)), H', ⟨by have := HJ1.out; have := HJ5.out; have := HK3.out; omega⟩, by repeat (first | exact Drawn0.refl _ | apply Drawn0.step)⟩
                    · rw [if_neg c13] at H
                      have c13b0 : decide ((bt a0 x4_3) ≤ 57) = false := decide_eq_false c13
                      clear c13
                      by_cases c14 : x3_5 = 0
                      · rw [if_pos c14] at H
                        have c14b0 : (x3_5 == 0) = true := beq_iff_eq.mpr c14
                        have c14b1 : (x3_5 != 0) = false := bne_eq_false_iff_eq.mpr c14
                        clear c14
                        obtain rfl := Option.some.inj H
                        have p10 : 0 ≤ (x4_3 : Int) := of_decide_eq_true (by first | (with_reducible assumption) | assumption)
                        have q10 : x4_3 < (a0.size : Int) := of_decide_eq_true (by first | (with_reducible assumption) | assumption)
                        have hx10 := bt_at a0 x4_3
                        replace p10 := eq_true p10
                        replace q10 := eq_true q10
                        have p12 : 0 ≤ (x4_3 : Int) := of_decide_eq_true (by first | (with_reducible assumption) | assumption)
                        have q12 : x4_3 < (a0.size : Int) := of_decide_eq_true (by first | (with_reducible assumption) | assumption)
                        have hx12 := bt_at a0 x4_3
                        replace p12 := eq_true p12
                        replace q12 := eq_true q12
                        go_wp2
                        go_ret
                        exact ⟨by first | rfl | (simp; done) | (simp [*]; done), by repeat (first | exact Drawn0.refl _ | apply Drawn0.step)⟩
                      · rw [if_neg c14] at H
                        have c14b0 : (x3_5 == 0) = false := beq_eq_false_iff_ne.mpr c14
                        have c14b1 : (x3_5 != 0) = true := bne_iff_ne.mpr c14
                        by_cases c16 : (bt a0 x4_3) < 97
                        · rw [if_pos c16] at H
                          have c16b0 : decide ((bt a0 x4_3) < 97) = true := decide_eq_true c16
                          clear c16
                          obtain rfl := Option.some.inj H
                          have p10 : 0 ≤ (x4_3 : Int) := of_decide_eq_true (by first | (with_reducible assumption) | assumption)
                          have q10 : x4_3 < (a0.size : Int) := of_decide_eq_true (by first | (with_reducible assumption) | assumption)
                          have hx10 := bt_at a0 x4_3
                          replace p10 := eq_true p10
                          replace q10 := eq_true q10
                          have p12 : 0 ≤ (x4_3 : Int) := of_decide_eq_true (by first | (with_reducible assumption) | assumption)
                          have q12 : x4_3 < (a0.size : Int) := of_decide_eq_true (by first | (with_reducible assumption) | assumption)
                          have hx12 := bt_at a0 x4_3
                          replace p12 := eq_true p12
                          replace q12 := eq_true q12
                          have p15 : 0 ≤ (x4_3 : Int) := of_decide_eq_true (by first | (with_reducible assumption) | assumption)
                          have q15 : x4_3 < (a0.size : Int) := of_decide_eq_true (by first | (with_reducible assumption) | assumption)
                          have hx15 := bt_at a0 x4_3
                          replace p15 := eq_true p15
                          replace q15 := eq_true q15
                          go_wp2
                          go_ret
                          exact ⟨by first | rfl | (simp; done) | (simp [*]; done), by repeat (first | exact Drawn0.refl _ | apply Drawn0.step)⟩
                        · rw [if_neg c16] at H
                          have c16b0 : decide ((bt a0 x4_3) < 97) = false := decide_eq_false c16
                          clear c16
                          by_cases c18 : (bt a0 x4_3) > 102
                          · rw [if_pos c18] at H
                            have c18b0 : decide (102 < (bt a0 x4_3)) = true := decide_eq_true c18
                            clear c18
                            obtain rfl := Option.some.inj H
                            have p10 : 0 ≤ (x4_3 : Int) := of_decide_eq_true (by first | (with_reducible assumption) | assumption)
                            have q10 : x4_3 < (a0.size : Int) := of_decide_eq_true (by first | (with_reducible assumption) | assumption)
                            have hx10 := bt_at a0 x4_3
                            replace p10 := eq_true p10
                            replace q10 := eq_true q10
                            have p12 : 0 ≤ (x4_3 : Int) := of_decide_eq_true (by first | (with_reducible assumption) | assumption)
                            have q12 : x4_3 < (a0.size : Int) := of_decide_eq_true (by first | (with_reducible assumption) | assumption)
                            have hx12 := bt_at a0 x4_3
                            replace p12 := eq_true p12
                            replace q12 := eq_true q12
                            have p15 : 0 ≤ (x4_3 : Int) := of_decide_eq_true (by first | (with_reducible assumption) | assumption)
                            have q15 : x4_3 < (a0.size : Int) := of_decide_eq_true (by first | (with_reducible assumption) | assumption)
                            have hx15 := bt_at a0 x4_3
                            replace p15 := eq_true p15
                            replace q15 := eq_true q15
                            have p17 : 0 ≤ (x4_3 : Int) := of_decide_eq_true (by first | (with_reducible assumption) | assumption)
                            have q17 : x4_3 < (a0.size : Int) := of_decide_eq_true (by first | (with_reducible assumption) | assumption)
                            have hx17 := bt_at a0 x4_3
                            replace p17 := eq_true p17
                            replace q17 := eq_true q17
                            go_wp2
                            go_ret
                            exact ⟨by first | rfl | (simp; done) | (simp [*]; done), by repeat (first | exact Drawn0.refl _ | apply Drawn0.step)⟩
                          · rw [if_neg c18] at H
                            have c18b0 : decide (102 < (bt a0 x4_3)) = false := decide_eq_false c18
                            clear c18
                            have H' := Aside0.mk H
                            clear H
                            have p10 : 0 ≤ (x4_3 : Int) := of_decide_eq_true (by first | (with_reducible assumption) | assumption)
                            have q10 : x4_3 < (a0.size : Int) := of_decide_eq_true (by first | (with_reducible assumption) | assumption)
                            have hx10 := bt_at a0 x4_3
                            replace p10 := eq_true p10
                            replace q10 := eq_true q10
                            have p12 : 0 ≤ (x4_3 : Int) := of_decide_eq_true (by first | (with_reducible assumption) | assumption)
                            have q12 : x4_3 < (a0.size : Int) := of_decide_eq_true (by first | (with_reducible assumption) | assumption)
                            have hx12 := bt_at a0 x4_3
                            replace p12 := eq_true p12
                            replace q12 := eq_true q12
                            have p15 : 0 ≤ (x4_3 : Int) := of_decide_eq_true (by first | (with_reducible assumption) | assumption)
                            have q15 : x4_3 < (a0.size : Int) := of_decide_eq_true (by first | (with_reducible assumption) | assumption)
                            have hx15 := bt_at a0 x4_3
                            replace p15 := eq_true p15
                            replace q15 := eq_true q15
                            have p17 : 0 ≤ (x4_3 : Int) := of_decide_eq_true (by first | (with_reducible assumption) | assumption)
                            have q17 : x4_3 < (a0.size : Int) := of_decide_eq_true (by first | (with_reducible assumption) | assumption)
                            have hx17 := bt_at a0 x4_3
                            replace p17 := eq_true p17
                            replace q17 := eq_true q17
                            go_wp2
                            go_roundg k3
                            case measure => have := HJ1.out; have := HJ5.out; have := HK3.out; omega
                            case rel => exact ⟨(wrap64 (x4_3 + 1)), (by first | rfl | (simp; done) | (simp [*]; done)), H', ⟨by have := HJ1.out; have := HJ5.out; have := HK3.out; omega⟩, by repeat (first | exact Drawn0.refl _ | apply Drawn0.step)⟩
                  · rw [if_neg c11] at H
                    have c11b0 : decide (48 ≤ (bt a0 x4_3)) = false := decide_eq_false c11
                    clear c11
                    by_cases c19 : x3_5 = 0
                    · rw [if_pos c19] at H
                      have c19b0 : (x3_5 == 0) = true := beq_iff_eq.mpr c19
                      have c19b1 : (x3_5 != 0) = false := bne_eq_false_iff_eq.mpr c19
                      clear c19
                      obtain rfl := Option.some.inj H
                      have p10 : 0 ≤ (x4_3 : Int) := of_decide_eq_true (by first | (with_reducible assumption) | assumption)
                      have q10 : x4_3 < (a0.size : Int) := of_decide_eq_true (by first | (with_reducible assumption) | assumption)
                      have hx10 := bt_at a0 x4_3
                      replace p10 := eq_true p10
                      replace q10 := eq_true q10
                      go_wp2
                      go_ret
                      exact ⟨by first | rfl | (simp; done) | (simp [*]; done), by repeat (first | exact Drawn0.refl _ | apply Drawn0.step)⟩
                    · rw [if_neg c19] at H
                      have c19b0 : (x3_5 == 0) = false := beq_eq_false_iff_ne.mpr c19
                      have c19b1 : (x3_5 != 0) = true := bne_iff_ne.mpr c19
                      by_cases c21 : (bt a0 x4_3) < 97
                      · rw [if_pos c21] at H
                        have c21b0 : decide ((bt a0 x4_3) < 97) = true := decide_eq_true c21
                        clear c21
                        obtain rfl := Option.some.inj H
                        have p10 : 0 ≤ (x4_3 : Int) := of_decide_eq_true (by first | (with_reducible assumption) | assumption)
                        have q10 : x4_3 < (a0.size : Int) := of_decide_eq_true (by first | (with_reducible assumption) | assumption)
                        have hx10 := bt_at a0 x4_3
                        replace p10 := eq_true p10
                        replace q10 := eq_true q10
                        have p20 : 0 ≤ (x4_3 : Int) := of_decide_eq_true (by first | (with_reducible assumption) | assumption)
                        have q20 : x4_3 < (a0.size : Int) := of_decide_eq_true (by first | (with_reducible assumption) | assumption)
                        have hx20 := bt_at a0 x4_3
                        replace p20 := eq_true p20
                        replace q20 := eq_true q20
                        go_wp2
                        go_ret
                        exact ⟨by first | rfl | (simp; done) | (simp [*]; done), by repeat (first | exact Drawn0.refl _ | apply Drawn0.step)⟩
                      · rw [if_neg c21] at H
                        have c21b0 : decide ((bt a0 x4_3) < 97) = false := decide_eq_false c21
                        clear c21
                        by_cases c23 : (bt a0 x4_3) > 102
                        · rw [if_pos c23] at H
                          have c23b0 : decide (102 < (bt a0 x4_3)) = true := decide_eq_true c23
                          clear c23
                          obtain rfl := Option.some.inj H
                          have p10 : 0 ≤ (x4_3 : Int) := of_decide_eq_true (by first | (with_reducible assumption) | assumption)
                          have q10 : x4_3 < (a0.size : Int) := of_decide_eq_true (by first | (with_reducible assumption) | assumption)
                          have hx10 := bt_at a0 x4_3
                          replace p10 := eq_true p10
                          replace q10 := eq_true q10
                          have p20 : 0 ≤ (x4_3 : Int) := of_decide_eq_true (by first | (with_reducible assumption) | assumption)
                          have q20 : x4_3 < (a0.size : Int) := of_decide_eq_true (by first | (with_reducible assumption) | assumption)
                          have hx20 := bt_at a0 x4_3
                          replace p20 := eq_true p20
                          replace q20 := eq_true q20
                          have p22 : 0 ≤ (x4_3 : Int) := of_decide_eq_true (by first | (with_reducible assumption) | assumption)
                          have q22 : x4_3 < (a0.size : Int) := of_decide_eq_true (by first | (with_reducible assumption) | assumption)
                          have hx22 := bt_at a0 x4_3
                          replace p22 := eq_true p22
                          replace q22 := eq_true q22
                          go_wp2
                          go_ret
                          exact ⟨by first | rfl | (simp; done) | (simp [*]; done), by repeat (first | exact Drawn0.refl _ | apply Drawn0.step)⟩
                        · rw [if_neg c23] at H
                          have c23b0 : decide (102 < (bt a0 x4_3)) = false := decide_eq_false c23
                          clear c23
                          have H' := Aside0.mk H
                          clear H
                          have p10 : 0 ≤ (x4_3 : Int) := of_decide_eq_true (by first | (with_reducible assumption) | assumption)
                          have q10 : x4_3 < (a0.size : Int) := of_decide_eq_true (by first | (with_reducible assumption) | assumption)
                          have hx10 := bt_at a0 x4_3
                          replace p10 := eq_true p10
                          replace q10 := eq_true q10
                          have p20 : 0 ≤ (x4_3 : Int) := of_decide_eq_true (by first | (with_reducible assumption) | assumption)
                          have q20 : x4_3 < (a0.size : Int) := of_decide_eq_true (by first | (with_reducible assumption) | assumption)
                          have hx20 := bt_at a0 x4_3
                          replace p20 := eq_true p20
                          replace q20 := eq_true q20
                          have p22 : 0 ≤ (x4_3 : Int) := of_decide_eq_true (by first | (with_reducible assumption) | assumption)
                          have q22 : x4_3 < (a0.size : Int) := of_decide_eq_true (by first | (with_reducible assumption) | assumption)
                          have hx22 := bt_at a0 x4_3
                          replace p22 := eq_true p22
                          replace q22 := eq_true q22
                          go_wp2
                          go_roundg k3
                          case measure => have := HJ1.out; have := HJ5.out; have := HK3.out; omega
                          case rel => exact ⟨(wrap64 (x4_3 + 1)), (by first | rfl | (simp; done) | (simp [*]; done)), H', ⟨by have := HJ1.out; have := HJ5.out; have := HK3.out; omega⟩, by repeat (first | exact Drawn0.refl _ | apply Drawn0.step)⟩
                · rw [if_neg c9] at H
                  exact absurd H (by simp)
              · rw [if_neg c8] at H
                have c8b0 : decide (x4_3 < (a0.size : Int)) = false := decide_eq_false c8
                clear c8
                obtain rfl := Option.some.inj H
                go_wp2
                go_ret
                exact ⟨by first | rfl | (simp; done) | (simp [*]; done), by repeat (first | exact Drawn0.refl _ | apply Drawn0.step)⟩

end Go.Proofs.YthmnhbalmglohaaGreatDoor.X

-- PRINTED by print.py (a twelfth state) out of the translation. Not trusted: Lean checks it.
namespace Go.Proofs.YthmnhbalmglohaaGreatDoor.X
open Go.RowKit Go.Proofs.YthmnhbalmglohaaGreatDoorW.PrintWords Go.Proofs.YthmnhbalmglohaaGreatDoorW.PrintLast Go.Proofs.YthmnhbalmglohaaGreatDoorW.PrintMore
attribute [local go_sem] max2_int min2_int max_two min_two max_three min_three max_four min_four   -- for this text's walks alone
set_option linter.unusedVariables false
set_option linter.unusedSimpArgs false
open Go.Proofs.YthmnhbalmglohaaGreatDoor.T

/-! ### tollhouseref10_Named: function 64 -/
mutual
def tollhouseref10_Named.l0 : Nat → ByteArray → List ByteArray → Bool → Int → Option (Bool)
  | 0, _, _, _, _ => none
  | k + 1, x0, x3, x4, x5 => if x5 < (x3.length : Int) then (tollhouseref10_Named.l1 k x0 x3 x4 x5 0) else (if 0 ≤ (wrap64 ((x3.length : Int) - 1)) then (if (wrap64 ((x3.length : Int) - 1)) < (x3.length : Int) then ((tollhouseref10_number.f k (rdOf ByteArray.empty x3 (wrap64 ((x3.length : Int) - 1)))).bind fun t111 => (if t111 = true then (if (x3.length : Int) = 4 then (if x4 = true then (some (decide ((x0.size : Int) ≤ 64))) else (some false)) else (some false)) else (some (decide ((x0.size : Int) ≤ 64))))) else (none)) else (none))
def tollhouseref10_Named.l1 : Nat → ByteArray → List ByteArray → Bool → Int → Int → Option (Bool)
  | 0, _, _, _, _, _ => none
  | k + 1, x0, x3, x4, x5, x6 => if 0 ≤ x5 then (if x5 < (x3.length : Int) then (if x6 < ((rdOf ByteArray.empty x3 x5).size : Int) then (if 0 ≤ x6 then (if (bt (rdOf ByteArray.empty x3 x5) x6) = 45 then (tollhouseref10_Named.l1 k x0 x3 x4 x5 (wrap64 (x6 + 1))) else (if (bt (rdOf ByteArray.empty x3 x5) x6) < 97 then (if (bt (rdOf ByteArray.empty x3 x5) x6) < 48 then (some false) else (if (bt (rdOf ByteArray.empty x3 x5) x6) > 57 then (some false) else (tollhouseref10_Named.l1 k x0 x3 x4 x5 (wrap64 (x6 + 1))))) else (if (bt (rdOf ByteArray.empty x3 x5) x6) > 122 then (if (bt (rdOf ByteArray.empty x3 x5) x6) < 48 then (some false) else (if (bt (rdOf ByteArray.empty x3 x5) x6) > 57 then (some false) else (tollhouseref10_Named.l1 k x0 x3 x4 x5 (wrap64 (x6 + 1))))) else (tollhouseref10_Named.l1 k x0 x3 x4 x5 (wrap64 (x6 + 1)))))) else (none)) else (if (rdOf ByteArray.empty x3 x5).toList = ([] : List UInt8) then (some false) else (if x4 = true then ((tollhouseref10_octet.f k (rdOf ByteArray.empty x3 x5)).bind fun t116 => (tollhouseref10_Named.l0 k x0 x3 t116 (wrap64 (x5 + 1)))) else (tollhouseref10_Named.l0 k x0 x3 false (wrap64 (x5 + 1)))))) else (none)) else (none)
end
def tollhouseref10_Named.f (k : Nat) (a0 : ByteArray) : Option (Bool) := (tollhouseref10_labels.f k a0).bind fun t107 => (tollhouseref10_Named.l0 k a0 t107 true 0)
theorem tollhouseref10_Named.mono_l : ∀ k, (∀ y0 y1 y2 y3, LeO (tollhouseref10_Named.l0 k y0 y1 y2 y3) (tollhouseref10_Named.l0 (k + 1) y0 y1 y2 y3)) ∧ (∀ y0 y1 y2 y3 y4, LeO (tollhouseref10_Named.l1 k y0 y1 y2 y3 y4) (tollhouseref10_Named.l1 (k + 1) y0 y1 y2 y3 y4))
  | 0 => ⟨fun _ _ _ _ r h => by simp [tollhouseref10_Named.l0] at h, fun _ _ _ _ _ r h => by simp [tollhouseref10_Named.l1] at h⟩
  | k + 1 => by
    obtain ⟨ih0, ih1⟩ := tollhouseref10_Named.mono_l k
    refine ⟨?_, ?_⟩
    · intro y0 y1 y2 y3
      unfold tollhouseref10_Named.l0
      repeat' first
      | (with_reducible exact ih0 _ _ _ _)
      | (with_reducible exact ih1 _ _ _ _ _)
      | (with_reducible exact tollhouseref10_labels.mono _ _)
      | (with_reducible exact tollhouseref10_number.mono _ _)
      | (with_reducible exact tollhouseref10_octet.mono _ _)
      | (with_reducible exact LeO.refl _)
      | (with_reducible exact LeO.none _)
      | (with_reducible refine LeO.ite ?_ ?_)
      | (with_reducible refine LeO.bind ?_ (fun _ => ?_))
      | exact ih0 _ _ _ _
      | exact ih1 _ _ _ _ _
      | exact tollhouseref10_labels.mono _ _
      | exact tollhouseref10_number.mono _ _
      | exact tollhouseref10_octet.mono _ _
      | exact LeO.none _
      | refine LeO.ite ?_ ?_
      | refine LeO.bind ?_ (fun _ => ?_)
    · intro y0 y1 y2 y3 y4
      unfold tollhouseref10_Named.l1
      repeat' first
      | (with_reducible exact ih0 _ _ _ _)
      | (with_reducible exact ih1 _ _ _ _ _)
      | (with_reducible exact tollhouseref10_labels.mono _ _)
      | (with_reducible exact tollhouseref10_number.mono _ _)
      | (with_reducible exact tollhouseref10_octet.mono _ _)
      | (with_reducible exact LeO.refl _)
      | (with_reducible exact LeO.none _)
      | (with_reducible refine LeO.ite ?_ ?_)
      | (with_reducible refine LeO.bind ?_ (fun _ => ?_))
      | exact ih0 _ _ _ _
      | exact ih1 _ _ _ _ _
      | exact tollhouseref10_labels.mono _ _
      | exact tollhouseref10_number.mono _ _
      | exact tollhouseref10_octet.mono _ _
      | exact LeO.none _
      | refine LeO.ite ?_ ?_
      | refine LeO.bind ?_ (fun _ => ?_)
theorem tollhouseref10_Named.mono : ∀ a0 k, LeO (tollhouseref10_Named.f k a0) (tollhouseref10_Named.f (k + 1) a0) := by
  intro a0 k
  obtain ⟨ih0, ih1⟩ := tollhouseref10_Named.mono_l k
  unfold tollhouseref10_Named.f
  repeat' first
      | (with_reducible exact ih0 _ _ _ _)
      | (with_reducible exact ih1 _ _ _ _ _)
      | (with_reducible exact tollhouseref10_labels.mono _ _)
      | (with_reducible exact tollhouseref10_number.mono _ _)
      | (with_reducible exact tollhouseref10_octet.mono _ _)
      | (with_reducible exact LeO.refl _)
      | (with_reducible exact LeO.none _)
      | (with_reducible refine LeO.ite ?_ ?_)
      | (with_reducible refine LeO.bind ?_ (fun _ => ?_))
      | exact ih0 _ _ _ _
      | exact ih1 _ _ _ _ _
      | exact tollhouseref10_labels.mono _ _
      | exact tollhouseref10_number.mono _ _
      | exact tollhouseref10_octet.mono _ _
      | exact LeO.none _
      | refine LeO.ite ?_ ?_
      | refine LeO.bind ?_ (fun _ => ?_)
set_option maxHeartbeats 8000000 in
set_option maxRecDepth 100000 in
theorem tollhouseref10_Named.calls (k : Nat) (a0 : ByteArray) (r : Bool) (w : World) (HGg : Glob w) (h : tollhouseref10_Named.f k a0 = some r) :
    Calls Tryz.prog 64 #[.string a0] w fun e w' => e = .returned (.bool r) ∧ Below w.heap.size w w' := by
  have HGl := Aside0.mk HGg
  clear HGg
  have HB := Aside0.mk (Below.refl w.heap.size w)
  have H : ((tollhouseref10_labels.f k a0).bind fun t107 => (tollhouseref10_Named.l0 k a0 t107 true 0)) = some r := h
  clear h
  replace H := Option.bind_eq_some_iff.mp H
  obtain ⟨t107, A20, H⟩ := H
  replace H : (tollhouseref10_Named.l0 k a0 t107 true 0) = some r := H
  have A2 := Aside0.mk A20
  clear A20
  have H' := Aside0.mk H
  clear H
  go_enter Tryz.func64, Tryz.ntmps64
  go_wp2_with (first | ((with_reducible refine gate_callee (f := 81) rfl ?_); refine goesL_ (some 9) rfl rfl Tryz.func81 (by kernel_rfl) rfl #[.string a0] rfl (by (try simp only [List.map_toArray, List.map_cons, List.map_nil]); first | done | rfl | (simp only [List.length_drop, List.length_take]; rfl)) ?_; (with_reducible refine (tollhouseref10_labels.calls k a0 t107 _ (Glob.below HGl.out (by repeat (first | (with_reducible first | exact HB.out | apply below_alloc | apply pw_below_drewN | apply below_drew1) | exact HB.out))) A2.out).mono ?_); rintro e w3 ⟨v108, rfl, ho0, hb⟩; refine ⟨_, rfl, ?_⟩; have n0_ := Aside0.mk (Kd.R_lower ho0 (below_size (by repeat (first | (with_reducible first | exact HB.out | apply below_alloc | apply pw_below_drewN | apply below_drew1) | exact HB.out)))); have n1_ := Aside0.mk (below_step (by repeat (first | (with_reducible first | exact HB.out | apply below_alloc | apply pw_below_drewN | apply below_drew1) | exact HB.out)) hb); clear HB; have HO109 := n0_; have HB := n1_; clear n0_ n1_; (try clear hb); (try clear hb2); (try clear hk); (try clear hi); (try clear ho0)))
  go_loopg [4, 5] k (fun kq v4 v5 w' => ∃ (x4_1 : Bool) (x5_1 : Int), v4 = .bool x4_1 ∧ v5 = .int .i64 x5_1 ∧ Aside0 (tollhouseref10_Named.l0 kq a0 t107 x4_1 x5_1 = some r) ∧ Aside0 (kq ≤ k) ∧ Aside0 (Kd.R Kd.string 9 w' w.heap.size (fun _ => True) v108 t107) ∧ Aside0 (Below w.heap.size w w'))
  case atStart => exact ⟨(true), (0), (by first | rfl | (simp; done) | (simp [*]; done)), (by first | rfl | (simp; done) | (simp [*]; done)), H', ⟨Nat.le_refl _⟩, ⟨by (with_reducible repeat (first | apply Kd.R_alloc | apply Kd.R_drewN | apply Kd.R_drew)); exact HO109.out⟩, ⟨by repeat (first | (with_reducible first | exact HB.out | apply below_alloc | apply pw_below_drewN | apply below_drew1) | exact HB.out)⟩⟩
  case round =>
    clear H'
    try clear p2
    obtain ⟨x4_1, x5_1, rfl, rfl, HA, HK1, HO_3, HB⟩ := hrel
    cases gk with
    | zero => exact absurd HA.out (by simp [tollhouseref10_Named.l0])
    | succ k1 =>
      have H := HA.out
      clear HA
      simp only [tollhouseref10_Named.l0] at H
      by_cases c4 : x5_1 < (t107.length : Int)
      · rw [if_pos c4] at H
        have c4b0 : decide (x5_1 < (t107.length : Int)) = true := decide_eq_true c4
        clear c4
        have H' := Aside0.mk H
        clear H
        obtain ⟨Ao5, co5, eo5⟩ := Kd.R_slice HO_3.out
        subst eo5
        go_wp2
        go_loopg [6] k1 (fun kq v6 w' => ∃ (x6_2 : Int), v6 = .int .i64 x6_2 ∧ Aside0 (tollhouseref10_Named.l1 kq a0 t107 x4_1 x5_1 x6_2 = some r) ∧ Aside0 (kq ≤ k1) ∧ Aside0 (Kd.R Kd.string 9 w' w.heap.size (fun _ => True) (.slice Ao5 t107.length co5) t107) ∧ Aside0 (Below w.heap.size w w'))
        case atStart => exact ⟨(0), (by first | rfl | (simp; done) | (simp [*]; done)), H', ⟨Nat.le_refl _⟩, ⟨by (with_reducible repeat (first | apply Kd.R_alloc | apply Kd.R_drewN | apply Kd.R_drew)); exact HO_3.out⟩, ⟨by repeat (first | (with_reducible first | exact HB.out | apply below_alloc | apply pw_below_drewN | apply below_drew1) | exact HB.out)⟩⟩
        case round =>
          clear H'
          try clear p2
          try clear c4
          try clear c4b0
          try clear p2
          obtain ⟨x6_2, rfl, HA, HK2, HO_3, HB⟩ := hrel
          cases gk with
          | zero => exact absurd HA.out (by simp [tollhouseref10_Named.l1])
          | succ k2 =>
            have H := HA.out
            clear HA
            simp only [tollhouseref10_Named.l1] at H
            by_cases c6 : 0 ≤ x5_1
            · rw [if_pos c6] at H
              have c6b0 : decide (0 ≤ x5_1) = true := decide_eq_true c6
              clear c6
              by_cases c7 : x5_1 < (t107.length : Int)
              · rw [if_pos c7] at H
                have c7b0 : decide (x5_1 < (t107.length : Int)) = true := decide_eq_true c7
                clear c7
                by_cases c8 : x6_2 < ((rdOf ByteArray.empty t107 x5_1).size : Int)
                · rw [if_pos c8] at H
                  have c8b0 : decide (x6_2 < ((rdOf ByteArray.empty t107 x5_1).size : Int)) = true := decide_eq_true c8
                  clear c8
                  by_cases c9 : 0 ≤ x6_2
                  · rw [if_pos c9] at H
                    have c9b0 : decide (0 ≤ x6_2) = true := decide_eq_true c9
                    clear c9
                    by_cases c11 : (bt (rdOf ByteArray.empty t107 x5_1) x6_2) = 45
                    · rw [if_pos c11] at H
                      have c11b0 : ((bt (rdOf ByteArray.empty t107 x5_1) x6_2) == 45) = true := beq_iff_eq.mpr c11
                      have c11b1 : ((bt (rdOf ByteArray.empty t107 x5_1) x6_2) != 45) = false := bne_eq_false_iff_eq.mpr c11
                      clear c11
                      have H' := Aside0.mk H
                      clear H
                      have p112 : 0 ≤ (x5_1 : Int) := of_decide_eq_true (by first | (with_reducible assumption) | assumption)
                      have q112 : x5_1 < (t107.length : Int) := of_decide_eq_true (by first | (with_reducible assumption) | assumption)
                      obtain ⟨ad112, e112, hx112_0⟩ := Kd.at_string (Kd.R_reads' HO_3.out).2.2 x5_1 p112 q112
                      cases e112
                      replace p112 := eq_true p112
                      replace q112 := eq_true q112
                      have p113 : 0 ≤ (x5_1 : Int) := of_decide_eq_true (by first | (with_reducible assumption) | assumption)
                      have q113 : x5_1 < (t107.length : Int) := of_decide_eq_true (by first | (with_reducible assumption) | assumption)
                      obtain ⟨ad113, e113, hx113_0⟩ := Kd.at_string (Kd.R_reads' HO_3.out).2.2 x5_1 p113 q113
                      obtain rfl : ad112 = ad113 := (by injection e113)
                      replace p113 := eq_true p113
                      replace q113 := eq_true q113
                      have p10 : 0 ≤ (x6_2 : Int) := of_decide_eq_true (by first | (with_reducible assumption) | assumption)
                      have q10 : x6_2 < ((rdOf ByteArray.empty t107 x5_1).size : Int) := of_decide_eq_true (by first | (with_reducible assumption) | assumption)
                      have hx10 := bt_at (rdOf ByteArray.empty t107 x5_1) x6_2
                      replace p10 := eq_true p10
                      replace q10 := eq_true q10
                      go_wp2
                      go_roundg k2
                      case measure => have := HK1.out; have := HK2.out; omega
                      case rel => exact ⟨(wrap64 (x6_2 + 1)), (by first | rfl | (simp; done) | (simp [*]; done)), H', ⟨by have := HK1.out; have := HK2.out; omega⟩, ⟨by (with_reducible repeat (first | apply Kd.R_alloc | apply Kd.R_drewN | apply Kd.R_drew)); exact HO_3.out⟩, ⟨by repeat (first | (with_reducible first | exact HB.out | apply below_alloc | apply pw_below_drewN | apply below_drew1) | exact HB.out)⟩⟩
                    · rw [if_neg c11] at H
                      have c11b0 : ((bt (rdOf ByteArray.empty t107 x5_1) x6_2) == 45) = false := beq_eq_false_iff_ne.mpr c11
                      have c11b1 : ((bt (rdOf ByteArray.empty t107 x5_1) x6_2) != 45) = true := bne_iff_ne.mpr c11
                      by_cases c12 : (bt (rdOf ByteArray.empty t107 x5_1) x6_2) < 97
                      · rw [if_pos c12] at H
                        have c12b0 : decide ((bt (rdOf ByteArray.empty t107 x5_1) x6_2) < 97) = true := decide_eq_true c12
                        clear c12
                        by_cases c13 : (bt (rdOf ByteArray.empty t107 x5_1) x6_2) < 48
                        · rw [if_pos c13] at H
                          have c13b0 : decide ((bt (rdOf ByteArray.empty t107 x5_1) x6_2) < 48) = true := decide_eq_true c13
                          clear c13
                          obtain rfl := Option.some.inj H
                          have p112 : 0 ≤ (x5_1 : Int) := of_decide_eq_true (by first | (with_reducible assumption) | assumption)
                          have q112 : x5_1 < (t107.length : Int) := of_decide_eq_true (by first | (with_reducible assumption) | assumption)
                          obtain ⟨ad112, e112, hx112_0⟩ := Kd.at_string (Kd.R_reads' HO_3.out).2.2 x5_1 p112 q112
                          cases e112
                          replace p112 := eq_true p112
                          replace q112 := eq_true q112
                          have p113 : 0 ≤ (x5_1 : Int) := of_decide_eq_true (by first | (with_reducible assumption) | assumption)
                          have q113 : x5_1 < (t107.length : Int) := of_decide_eq_true (by first | (with_reducible assumption) | assumption)
                          obtain ⟨ad113, e113, hx113_0⟩ := Kd.at_string (Kd.R_reads' HO_3.out).2.2 x5_1 p113 q113
                          obtain rfl : ad112 = ad113 := (by injection e113)
                          replace p113 := eq_true p113
                          replace q113 := eq_true q113
                          have p10 : 0 ≤ (x6_2 : Int) := of_decide_eq_true (by first | (with_reducible assumption) | assumption)
                          have q10 : x6_2 < ((rdOf ByteArray.empty t107 x5_1).size : Int) := of_decide_eq_true (by first | (with_reducible assumption) | assumption)
                          have hx10 := bt_at (rdOf ByteArray.empty t107 x5_1) x6_2
                          replace p10 := eq_true p10
                          replace q10 := eq_true q10
                          go_wp2
                          go_ret
                          exact ⟨by first | rfl | (simp [errW_none, errW_some] <;> rfl) | (simp [*, errW_none, errW_some] <;> rfl), by repeat (first | (with_reducible first | exact HB.out | apply below_alloc | apply pw_below_drewN | apply below_drew1) | exact HB.out)⟩
                        · rw [if_neg c13] at H
                          have c13b0 : decide ((bt (rdOf ByteArray.empty t107 x5_1) x6_2) < 48) = false := decide_eq_false c13
                          clear c13
                          by_cases c14 : (bt (rdOf ByteArray.empty t107 x5_1) x6_2) > 57
                          · rw [if_pos c14] at H
                            have c14b0 : decide (57 < (bt (rdOf ByteArray.empty t107 x5_1) x6_2)) = true := decide_eq_true c14
                            clear c14
                            obtain rfl := Option.some.inj H
                            have p112 : 0 ≤ (x5_1 : Int) := of_decide_eq_true (by first | (with_reducible assumption) | assumption)
                            have q112 : x5_1 < (t107.length : Int) := of_decide_eq_true (by first | (with_reducible assumption) | assumption)
                            obtain ⟨ad112, e112, hx112_0⟩ := Kd.at_string (Kd.R_reads' HO_3.out).2.2 x5_1 p112 q112
                            cases e112
                            replace p112 := eq_true p112
                            replace q112 := eq_true q112
                            have p113 : 0 ≤ (x5_1 : Int) := of_decide_eq_true (by first | (with_reducible assumption) | assumption)
                            have q113 : x5_1 < (t107.length : Int) := of_decide_eq_true (by first | (with_reducible assumption) | assumption)
                            obtain ⟨ad113, e113, hx113_0⟩ := Kd.at_string (Kd.R_reads' HO_3.out).2.2 x5_1 p113 q113
                            obtain rfl : ad112 = ad113 := (by injection e113)
                            replace p113 := eq_true p113
                            replace q113 := eq_true q113
                            have p10 : 0 ≤ (x6_2 : Int) := of_decide_eq_true (by first | (with_reducible assumption) | assumption)
                            have q10 : x6_2 < ((rdOf ByteArray.empty t107 x5_1).size : Int) := of_decide_eq_true (by first | (with_reducible assumption) | assumption)
                            have hx10 := bt_at (rdOf ByteArray.empty t107 x5_1) x6_2
                            replace p10 := eq_true p10
                            replace q10 := eq_true q10
                            go_wp2
                            go_ret
                            exact ⟨by first | rfl | (simp [errW_none, errW_some] <;> rfl) | (simp [*, errW_none, errW_some] <;> rfl), by repeat (first | (with_reducible first | exact HB.out | apply below_alloc | apply pw_below_drewN | apply below_drew1) | exact HB.out)⟩
                          · rw [if_neg c14] at H
                            have c14b0 : decide (57 < (bt (rdOf ByteArray.empty t107 x5_1) x6_2)) = false := decide_eq_false c14
                            clear c14
                            have H' := Aside0.mk H
                            clear H
                            have p112 : 0 ≤ (x5_1 : Int) := of_decide_eq_true (by first | (with_reducible assumption) | assumption)
                            have q112 : x5_1 < (t107.length : Int) := of_decide_eq_true (by first | (with_reducible assumption) | assumption)
                            obtain ⟨ad112, e112, hx112_0⟩ := Kd.at_string (Kd.R_reads' HO_3.out).2.2 x5_1 p112 q112
                            cases e112
                            replace p112 := eq_true p112
                            replace q112 := eq_true q112
                            have p113 : 0 ≤ (x5_1 : Int) := of_decide_eq_true (by first | (with_reducible assumption) | assumption)
                            have q113 : x5_1 < (t107.length : Int) := of_decide_eq_true (by first | (with_reducible assumption) | assumption)
                            obtain ⟨ad113, e113, hx113_0⟩ := Kd.at_string (Kd.R_reads' HO_3.out).2.2 x5_1 p113 q113
                            obtain rfl : ad112 = ad113 := (by injection e113)
                            replace p113 := eq_true p113
                            replace q113 := eq_true q113
                            have p10 : 0 ≤ (x6_2 : Int) := of_decide_eq_true (by first | (with_reducible assumption) | assumption)
                            have q10 : x6_2 < ((rdOf ByteArray.empty t107 x5_1).size : Int) := of_decide_eq_true (by first | (with_reducible assumption) | assumption)
                            have hx10 := bt_at (rdOf ByteArray.empty t107 x5_1) x6_2
                            replace p10 := eq_true p10
                            replace q10 := eq_true q10
                            go_wp2
                            go_roundg k2
                            case measure => have := HK1.out; have := HK2.out; omega
                            case rel => exact ⟨(wrap64 (x6_2 + 1)), (by first | rfl | (simp; done) | (simp [*]; done)), H', ⟨by have := HK1.out; have := HK2.out; omega⟩, ⟨by (with_reducible repeat (first | apply Kd.R_alloc | apply Kd.R_drewN | apply Kd.R_drew)); exact HO_3.out⟩, ⟨by repeat (first | (with_reducible first | exact HB.out | apply below_alloc | apply pw_below_drewN | apply below_drew1) | exact HB.out)⟩⟩
                      · rw [if_neg c12] at H
                        have c12b0 : decide ((bt (rdOf ByteArray.empty t107 x5_1) x6_2) < 97) = false := decide_eq_false c12
                        clear c12
                        by_cases c15 : (bt (rdOf ByteArray.empty t107 x5_1) x6_2) > 122
                        · rw [if_pos c15] at H
                          have c15b0 : decide (122 < (bt (rdOf ByteArray.empty t107 x5_1) x6_2)) = true := decide_eq_true c15
                          clear c15
                          by_cases c16 : (bt (rdOf ByteArray.empty t107 x5_1) x6_2) < 48
                          · rw [if_pos c16] at H
                            have c16b0 : decide ((bt (rdOf ByteArray.empty t107 x5_1) x6_2) < 48) = true := decide_eq_true c16
                            clear c16
                            obtain rfl := Option.some.inj H
                            have p112 : 0 ≤ (x5_1 : Int) := of_decide_eq_true (by first | (with_reducible assumption) | assumption)
                            have q112 : x5_1 < (t107.length : Int) := of_decide_eq_true (by first | (with_reducible assumption) | assumption)
                            obtain ⟨ad112, e112, hx112_0⟩ := Kd.at_string (Kd.R_reads' HO_3.out).2.2 x5_1 p112 q112
                            cases e112
                            replace p112 := eq_true p112
                            replace q112 := eq_true q112
                            have p113 : 0 ≤ (x5_1 : Int) := of_decide_eq_true (by first | (with_reducible assumption) | assumption)
                            have q113 : x5_1 < (t107.length : Int) := of_decide_eq_true (by first | (with_reducible assumption) | assumption)
                            obtain ⟨ad113, e113, hx113_0⟩ := Kd.at_string (Kd.R_reads' HO_3.out).2.2 x5_1 p113 q113
                            obtain rfl : ad112 = ad113 := (by injection e113)
                            replace p113 := eq_true p113
                            replace q113 := eq_true q113
                            have p10 : 0 ≤ (x6_2 : Int) := of_decide_eq_true (by first | (with_reducible assumption) | assumption)
                            have q10 : x6_2 < ((rdOf ByteArray.empty t107 x5_1).size : Int) := of_decide_eq_true (by first | (with_reducible assumption) | assumption)
                            have hx10 := bt_at (rdOf ByteArray.empty t107 x5_1) x6_2
                            replace p10 := eq_true p10
                            replace q10 := eq_true q10
                            go_wp2
                            go_ret
                            exact ⟨by first | rfl | (simp [errW_none, errW_some] <;> rfl) | (simp [*, errW_none, errW_some] <;> rfl), by repeat (first | (with_reducible first | exact HB.out | apply below_alloc | apply pw_below_drewN | apply below_drew1) | exact HB.out)⟩
                          · rw [if_neg c16] at H
                            have c16b0 : decide ((bt (rdOf ByteArray.empty t107 x5_1) x6_2) < 48) = false := decide_eq_false c16
                            clear c16
                            by_cases c17 : (bt (rdOf ByteArray.empty t107 x5_1) x6_2) > 57
                            · rw [if_pos c17] at H
                              have c17b0 : decide (57 < (bt (rdOf ByteArray.empty t107 x5_1) x6_2)) = true := decide_eq_true c17
                              clear c17
                              obtain rfl := Option.some.inj H
                              have p112 : 0 ≤ (x5_1 : Int) := of_decide_eq_true (by first | (with_reducible assumption) | assumption)
                              have q112 : x5_1 < (t107.length : Int) := of_decide_eq_true (by first | (with_reducible assumption) | assumption)
                              obtain ⟨ad112, e112, hx112_0⟩ := Kd.at_string (Kd.R_reads' HO_3.out).2.2 x5_1 p112 q112
                              cases e112
                              replace p112 := eq_true p112
                              replace q112 := eq_true q112
                              have p113 : 0 ≤ (x5_1 : Int) := of_decide_eq_true (by first | (with_reducible assumption) | assumption)
                              have q113 : x5_1 < (t107.length : Int) := of_decide_eq_true (by first | (with_reducible assumption) | assumption)
                              obtain ⟨ad113, e113, hx113_0⟩ := Kd.at_string (Kd.R_reads' HO_3.out).2.2 x5_1 p113 q113
                              obtain rfl : ad112 = ad113 := (by injection e113)
                              replace p113 := eq_true p113
                              replace q113 := eq_true q113
                              have p10 : 0 ≤ (x6_2 : Int) := of_decide_eq_true (by first | (with_reducible assumption) | assumption)
                              have q10 : x6_2 < ((rdOf ByteArray.empty t107 x5_1).size : Int) := of_decide_eq_true (by first | (with_reducible assumption) | assumption)
                              have hx10 := bt_at (rdOf ByteArray.empty t107 x5_1) x6_2
                              replace p10 := eq_true p10
                              replace q10 := eq_true q10
                              go_wp2
                              go_ret
                              exact ⟨by first | rfl | (simp [errW_none, errW_some] <;> rfl) | (simp [*, errW_none, errW_some] <;> rfl), by repeat (first | (with_reducible first | exact HB.out | apply below_alloc | apply pw_below_drewN | apply below_drew1) | exact HB.out)⟩
                            · rw [if_neg c17] at H
                              have c17b0 : decide (57 < (bt (rdOf ByteArray.empty t107 x5_1) x6_2)) = false := decide_eq_false c17
                              clear c17
                              have H' := Aside0.mk H
                              clear H
                              have p112 : 0 ≤ (x5_1 : Int) := of_decide_eq_true (by first | (with_reducible assumption) | assumption)
                              have q112 : x5_1 < (t107.length : Int) := of_decide_eq_true (by first | (with_reducible assumption) | assumption)
                              obtain ⟨ad112, e112, hx112_0⟩ := Kd.at_string (Kd.R_reads' HO_3.out).2.2 x5_1 p112 q112
                              cases e112
                              replace p112 := eq_true p112
                              replace q112 := eq_true q112
                              have p113 : 0 ≤ (x5_1 : Int) := of_decide_eq_true (by first | (with_reducible assumption) | assumption)
                              have q113 : x5_1 < (t107.length : Int) := of_decide_eq_true (by first | (with_reducible assumption) | assumption)
                              obtain ⟨ad113, e113, hx113_0⟩ := Kd.at_string (Kd.R_reads' HO_3.out).2.2 x5_1 p113 q113
                              obtain rfl : ad112 = ad113 := (by injection e113)
                              replace p113 := eq_true p113
                              replace q113 := eq_true q113
                              have p10 : 0 ≤ (x6_2 : Int) := of_decide_eq_true (by first | (with_reducible assumption) | assumption)
                              have q10 : x6_2 < ((rdOf ByteArray.empty t107 x5_1).size : Int) := of_decide_eq_true (by first | (with_reducible assumption) | assumption)
                              have hx10 := bt_at (rdOf ByteArray.empty t107 x5_1) x6_2
                              replace p10 := eq_true p10
                              replace q10 := eq_true q10
                              go_wp2
                              go_roundg k2
                              case measure => have := HK1.out; have := HK2.out; omega
                              case rel => exact ⟨(wrap64 (x6_2 + 1)), (by first | rfl | (simp; done) | (simp [*]; done)), H', ⟨by have := HK1.out; have := HK2.out; omega⟩, ⟨by (with_reducible repeat (first | apply Kd.R_alloc | apply Kd.R_drewN | apply Kd.R_drew)); exact HO_3.out⟩, ⟨by repeat (first | (with_reducible first | exact HB.out | apply below_alloc | apply pw_below_drewN | apply below_drew1) | exact HB.out)⟩⟩
                        · rw [if_neg c15] at H
                          have c15b0 : decide (122 < (bt (rdOf ByteArray.empty t107 x5_1) x6_2)) = false := decide_eq_false c15
                          clear c15
                          have H' := Aside0.mk H
                          clear H
                          have p112 : 0 ≤ (x5_1 : Int) := of_decide_eq_true (by first | (with_reducible assumption) | assumption)
                          have q112 : x5_1 < (t107.length : Int) := of_decide_eq_true (by first | (with_reducible assumption) | assumption)
                          obtain ⟨ad112, e112, hx112_0⟩ := Kd.at_string (Kd.R_reads' HO_3.out).2.2 x5_1 p112 q112
                          cases e112
                          replace p112 := eq_true p112
                          replace q112 := eq_true q112
                          have p113 : 0 ≤ (x5_1 : Int) := of_decide_eq_true (by first | (with_reducible assumption) | assumption)
                          have q113 : x5_1 < (t107.length : Int) := of_decide_eq_true (by first | (with_reducible assumption) | assumption)
                          obtain ⟨ad113, e113, hx113_0⟩ := Kd.at_string (Kd.R_reads' HO_3.out).2.2 x5_1 p113 q113
                          obtain rfl : ad112 = ad113 := (by injection e113)
                          replace p113 := eq_true p113
                          replace q113 := eq_true q113
                          have p10 : 0 ≤ (x6_2 : Int) := of_decide_eq_true (by first | (with_reducible assumption) | assumption)
                          have q10 : x6_2 < ((rdOf ByteArray.empty t107 x5_1).size : Int) := of_decide_eq_true (by first | (with_reducible assumption) | assumption)
                          have hx10 := bt_at (rdOf ByteArray.empty t107 x5_1) x6_2
                          replace p10 := eq_true p10
                          replace q10 := eq_true q10
                          go_wp2
                          go_roundg k2
                          case measure => have := HK1.out; have := HK2.out; omega
                          case rel => exact ⟨(wrap64 (x6_2 + 1)), (by first | rfl | (simp; done) | (simp [*]; done)), H', ⟨by have := HK1.out; have := HK2.out; omega⟩, ⟨by (with_reducible repeat (first | apply Kd.R_alloc | apply Kd.R_drewN | apply Kd.R_drew)); exact HO_3.out⟩, ⟨by repeat (first | (with_reducible first | exact HB.out | apply below_alloc | apply pw_below_drewN | apply below_drew1) | exact HB.out)⟩⟩
                  · rw [if_neg c9] at H
                    exact absurd H (by simp)
                · rw [if_neg c8] at H
                  have c8b0 : decide (x6_2 < ((rdOf ByteArray.empty t107 x5_1).size : Int)) = false := decide_eq_false c8
                  clear c8
                  by_cases c18 : (rdOf ByteArray.empty t107 x5_1).toList = ([] : List UInt8)
                  · rw [if_pos c18] at H
                    have c18b0 : ((rdOf ByteArray.empty t107 x5_1).toList == ([] : List UInt8)) = true := beq_iff_eq.mpr c18
                    have c18b1 : ((rdOf ByteArray.empty t107 x5_1).toList != ([] : List UInt8)) = false := bne_eq_false_iff_eq.mpr c18
                    clear c18
                    obtain rfl := Option.some.inj H
                    have p112 : 0 ≤ (x5_1 : Int) := of_decide_eq_true (by first | (with_reducible assumption) | assumption)
                    have q112 : x5_1 < (t107.length : Int) := of_decide_eq_true (by first | (with_reducible assumption) | assumption)
                    obtain ⟨ad112, e112, hx112_0⟩ := Kd.at_string (Kd.R_reads' HO_3.out).2.2 x5_1 p112 q112
                    cases e112
                    replace p112 := eq_true p112
                    replace q112 := eq_true q112
                    have p114 : 0 ≤ (x5_1 : Int) := of_decide_eq_true (by first | (with_reducible assumption) | assumption)
                    have q114 : x5_1 < (t107.length : Int) := of_decide_eq_true (by first | (with_reducible assumption) | assumption)
                    obtain ⟨ad114, e114, hx114_0⟩ := Kd.at_string (Kd.R_reads' HO_3.out).2.2 x5_1 p114 q114
                    obtain rfl : ad112 = ad114 := (by injection e114)
                    replace p114 := eq_true p114
                    replace q114 := eq_true q114
                    go_wp2
                    go_ret
                    exact ⟨by first | rfl | (simp [errW_none, errW_some] <;> rfl) | (simp [*, errW_none, errW_some] <;> rfl), by repeat (first | (with_reducible first | exact HB.out | apply below_alloc | apply pw_below_drewN | apply below_drew1) | exact HB.out)⟩
                  · rw [if_neg c18] at H
                    have c18b0 : ((rdOf ByteArray.empty t107 x5_1).toList == ([] : List UInt8)) = false := beq_eq_false_iff_ne.mpr c18
                    have c18b1 : ((rdOf ByteArray.empty t107 x5_1).toList != ([] : List UInt8)) = true := bne_iff_ne.mpr c18
                    by_cases c19 : x4_1 = true
                    · subst c19
                      have H1 : ((tollhouseref10_octet.f k2 (rdOf ByteArray.empty t107 x5_1)).bind fun t116 => (tollhouseref10_Named.l0 k2 a0 t107 t116 (wrap64 (x5_1 + 1)))) = some r := by rw [if_pos rfl] at H; exact H
                      clear H
                      have H := H1
                      clear H1
                      replace H := Option.bind_eq_some_iff.mp H
                      obtain ⟨t116, A200, H⟩ := H
                      replace H : (tollhouseref10_Named.l0 k2 a0 t107 t116 (wrap64 (x5_1 + 1))) = some r := H
                      have A20 := Aside0.mk A200
                      clear A200
                      have H' := Aside0.mk H
                      clear H
                      have p112 : 0 ≤ (x5_1 : Int) := of_decide_eq_true (by first | (with_reducible assumption) | assumption)
                      have q112 : x5_1 < (t107.length : Int) := of_decide_eq_true (by first | (with_reducible assumption) | assumption)
                      obtain ⟨ad112, e112, hx112_0⟩ := Kd.at_string (Kd.R_reads' HO_3.out).2.2 x5_1 p112 q112
                      cases e112
                      replace p112 := eq_true p112
                      replace q112 := eq_true q112
                      have p114 : 0 ≤ (x5_1 : Int) := of_decide_eq_true (by first | (with_reducible assumption) | assumption)
                      have q114 : x5_1 < (t107.length : Int) := of_decide_eq_true (by first | (with_reducible assumption) | assumption)
                      obtain ⟨ad114, e114, hx114_0⟩ := Kd.at_string (Kd.R_reads' HO_3.out).2.2 x5_1 p114 q114
                      obtain rfl : ad112 = ad114 := (by injection e114)
                      replace p114 := eq_true p114
                      replace q114 := eq_true q114
                      have p115 : 0 ≤ (x5_1 : Int) := of_decide_eq_true (by first | (with_reducible assumption) | assumption)
                      have q115 : x5_1 < (t107.length : Int) := of_decide_eq_true (by first | (with_reducible assumption) | assumption)
                      obtain ⟨ad115, e115, hx115_0⟩ := Kd.at_string (Kd.R_reads' HO_3.out).2.2 x5_1 p115 q115
                      obtain rfl : ad112 = ad115 := (by injection e115)
                      replace p115 := eq_true p115
                      replace q115 := eq_true q115
                      go_wp2_with (first | (go_at_call 82; (with_reducible refine (tollhouseref10_octet.calls k2 (rdOf ByteArray.empty t107 x5_1) t116 _ (Glob.below HGl.out (by repeat (first | (with_reducible first | exact HB.out | apply below_alloc | apply pw_below_drewN | apply below_drew1) | exact HB.out))) A20.out).mono ?_); rintro e w' ⟨rfl, ⟨nd, rfl⟩⟩))
                      go_roundg k2
                      case measure => have := HK1.out; have := HK2.out; omega
                      case rel => exact ⟨(t116), (wrap64 (x5_1 + 1)), (by first | rfl | (simp; done) | (simp [*]; done)), (by first | rfl | (simp; done) | (simp [*]; done)), H', ⟨by have := HK1.out; have := HK2.out; omega⟩, ⟨by (with_reducible repeat (first | apply Kd.R_alloc | apply Kd.R_drewN | apply Kd.R_drew)); exact HO_3.out⟩, ⟨by repeat (first | (with_reducible first | exact HB.out | apply below_alloc | apply pw_below_drewN | apply below_drew1) | exact HB.out)⟩⟩
                    · replace c19 := Bool.eq_false_iff.mpr c19
                      subst c19
                      have H1 : (tollhouseref10_Named.l0 k2 a0 t107 false (wrap64 (x5_1 + 1))) = some r := by rw [if_neg (show ¬ (false = true) by decide)] at H; exact H
                      clear H
                      have H := H1
                      clear H1
                      have H' := Aside0.mk H
                      clear H
                      have p112 : 0 ≤ (x5_1 : Int) := of_decide_eq_true (by first | (with_reducible assumption) | assumption)
                      have q112 : x5_1 < (t107.length : Int) := of_decide_eq_true (by first | (with_reducible assumption) | assumption)
                      obtain ⟨ad112, e112, hx112_0⟩ := Kd.at_string (Kd.R_reads' HO_3.out).2.2 x5_1 p112 q112
                      cases e112
                      replace p112 := eq_true p112
                      replace q112 := eq_true q112
                      have p114 : 0 ≤ (x5_1 : Int) := of_decide_eq_true (by first | (with_reducible assumption) | assumption)
                      have q114 : x5_1 < (t107.length : Int) := of_decide_eq_true (by first | (with_reducible assumption) | assumption)
                      obtain ⟨ad114, e114, hx114_0⟩ := Kd.at_string (Kd.R_reads' HO_3.out).2.2 x5_1 p114 q114
                      obtain rfl : ad112 = ad114 := (by injection e114)
                      replace p114 := eq_true p114
                      replace q114 := eq_true q114
                      go_wp2
                      go_roundg k2
                      case measure => have := HK1.out; have := HK2.out; omega
                      case rel => exact ⟨(false), (wrap64 (x5_1 + 1)), (by first | rfl | (simp; done) | (simp [*]; done)), (by first | rfl | (simp; done) | (simp [*]; done)), H', ⟨by have := HK1.out; have := HK2.out; omega⟩, ⟨by (with_reducible repeat (first | apply Kd.R_alloc | apply Kd.R_drewN | apply Kd.R_drew)); exact HO_3.out⟩, ⟨by repeat (first | (with_reducible first | exact HB.out | apply below_alloc | apply pw_below_drewN | apply below_drew1) | exact HB.out)⟩⟩
              · rw [if_neg c7] at H
                exact absurd H (by simp)
            · rw [if_neg c6] at H
              exact absurd H (by simp)
      · rw [if_neg c4] at H
        have c4b0 : decide (x5_1 < (t107.length : Int)) = false := decide_eq_false c4
        clear c4
        obtain ⟨ji21, hji21⟩ : ∃ j_ : Int, (wrap64 ((t107.length : Int) - 1)) = j_ := ⟨_, rfl⟩
        replace H : (if 0 ≤ (ji21) then (if (ji21) < (t107.length : Int) then ((tollhouseref10_number.f k1 (rdOf ByteArray.empty t107 (ji21))).bind fun t111 => (if t111 = true then (if (t107.length : Int) = 4 then (if x4_1 = true then (some (decide ((a0.size : Int) ≤ 64))) else (some false)) else (some false)) else (some (decide ((a0.size : Int) ≤ 64))))) else (none)) else (none)) = some r := by first | (rw [hji21] at H; exact H) | (simp only [hji21] at H ⊢; exact H)
        have hji21w : (IntKind.i64.wrap ((t107.length : Int) - 1)) = ji21 := (i64_w _).trans hji21
        by_cases c22 : 0 ≤ (ji21)
        · rw [if_pos c22] at H
          have c22b0 : decide (0 ≤ (ji21)) = true := decide_eq_true c22
          clear c22
          by_cases c23 : (ji21) < (t107.length : Int)
          · rw [if_pos c23] at H
            have c23b0 : decide ((ji21) < (t107.length : Int)) = true := decide_eq_true c23
            clear c23
            replace H := Option.bind_eq_some_iff.mp H
            obtain ⟨t111, A240, H⟩ := H
            replace H : (if t111 = true then (if (t107.length : Int) = 4 then (if x4_1 = true then (some (decide ((a0.size : Int) ≤ 64))) else (some false)) else (some false)) else (some (decide ((a0.size : Int) ≤ 64)))) = some r := H
            have A24 := Aside0.mk A240
            clear A240
            by_cases c25 : t111 = true
            · subst c25
              have H1 : (if (t107.length : Int) = 4 then (if x4_1 = true then (some (decide ((a0.size : Int) ≤ 64))) else (some false)) else (some false)) = some r := by rw [if_pos rfl] at H; exact H
              clear H
              have H := H1
              clear H1
              by_cases c26 : (t107.length : Int) = 4
              · rw [if_pos c26] at H
                have c26b0 : ((t107.length : Int) == 4) = true := beq_iff_eq.mpr c26
                have c26b1 : ((t107.length : Int) != 4) = false := bne_eq_false_iff_eq.mpr c26
                clear c26
                by_cases c27 : x4_1 = true
                · subst c27
                  have H1 : (some (decide ((a0.size : Int) ≤ 64))) = some r := by rw [if_pos rfl] at H; exact H
                  clear H
                  have H := H1
                  clear H1
                  obtain rfl := Option.some.inj H
                  obtain ⟨Ao28, co28, eo28⟩ := Kd.R_slice HO_3.out
                  subst eo28
                  have p110 : 0 ≤ ((ji21) : Int) := of_decide_eq_true (by first | (with_reducible assumption) | assumption)
                  have q110 : (ji21) < (t107.length : Int) := of_decide_eq_true (by first | (with_reducible assumption) | assumption)
                  obtain ⟨ad110, e110, hx110_0⟩ := Kd.at_string (Kd.R_reads' HO_3.out).2.2 (ji21) p110 q110
                  cases e110
                  replace p110 := eq_true p110
                  replace q110 := eq_true q110
                  go_wp2_with (first | ((with_reducible refine gate_callee (f := 83) rfl ?_); refine goesL_ (some 68) rfl rfl Tryz.func83 (by kernel_rfl) rfl #[.string (rdOf ByteArray.empty t107 (ji21))] rfl (by (try simp only [List.map_toArray, List.map_cons, List.map_nil]); first | done | (simp only [hji21]; rfl) | rfl | (simp only [List.length_drop, List.length_take]; rfl)) ?_; (with_reducible refine (tollhouseref10_number.calls k1 (rdOf ByteArray.empty t107 (ji21)) true _ (Glob.below HGl.out (by repeat (first | (with_reducible first | exact HB.out | apply below_alloc | apply pw_below_drewN | apply below_drew1) | exact HB.out))) A24.out).mono ?_); rintro e w' ⟨rfl, ⟨nd, rfl⟩⟩; refine ⟨_, rfl, ?_⟩))
                  go_ret
                  exact ⟨by first | rfl | (simp [errW_none, errW_some] <;> rfl) | (simp only [← hji21]; first | rfl | (simp [errW_none, errW_some] <;> rfl)) | (simp [*, errW_none, errW_some] <;> rfl), by repeat (first | (with_reducible first | exact HB.out | apply below_alloc | apply pw_below_drewN | apply below_drew1) | exact HB.out)⟩
                · replace c27 := Bool.eq_false_iff.mpr c27
                  subst c27
                  have H1 : (some false) = some r := by rw [if_neg (show ¬ (false = true) by decide)] at H; exact H
                  clear H
                  have H := H1
                  clear H1
                  obtain rfl := Option.some.inj H
                  obtain ⟨Ao29, co29, eo29⟩ := Kd.R_slice HO_3.out
                  subst eo29
                  have p110 : 0 ≤ ((ji21) : Int) := of_decide_eq_true (by first | (with_reducible assumption) | assumption)
                  have q110 : (ji21) < (t107.length : Int) := of_decide_eq_true (by first | (with_reducible assumption) | assumption)
                  obtain ⟨ad110, e110, hx110_0⟩ := Kd.at_string (Kd.R_reads' HO_3.out).2.2 (ji21) p110 q110
                  cases e110
                  replace p110 := eq_true p110
                  replace q110 := eq_true q110
                  go_wp2_with (first | ((with_reducible refine gate_callee (f := 83) rfl ?_); refine goesL_ (some 68) rfl rfl Tryz.func83 (by kernel_rfl) rfl #[.string (rdOf ByteArray.empty t107 (ji21))] rfl (by (try simp only [List.map_toArray, List.map_cons, List.map_nil]); first | done | (simp only [hji21]; rfl) | rfl | (simp only [List.length_drop, List.length_take]; rfl)) ?_; (with_reducible refine (tollhouseref10_number.calls k1 (rdOf ByteArray.empty t107 (ji21)) true _ (Glob.below HGl.out (by repeat (first | (with_reducible first | exact HB.out | apply below_alloc | apply pw_below_drewN | apply below_drew1) | exact HB.out))) A24.out).mono ?_); rintro e w' ⟨rfl, ⟨nd, rfl⟩⟩; refine ⟨_, rfl, ?_⟩))
                  go_ret
                  exact ⟨by first | rfl | (simp [errW_none, errW_some] <;> rfl) | (simp only [← hji21]; first | rfl | (simp [errW_none, errW_some] <;> rfl)) | (simp [*, errW_none, errW_some] <;> rfl), by repeat (first | (with_reducible first | exact HB.out | apply below_alloc | apply pw_below_drewN | apply below_drew1) | exact HB.out)⟩
              · rw [if_neg c26] at H
                have c26b0 : ((t107.length : Int) == 4) = false := beq_eq_false_iff_ne.mpr c26
                have c26b1 : ((t107.length : Int) != 4) = true := bne_iff_ne.mpr c26
                obtain rfl := Option.some.inj H
                obtain ⟨Ao30, co30, eo30⟩ := Kd.R_slice HO_3.out
                subst eo30
                have p110 : 0 ≤ ((ji21) : Int) := of_decide_eq_true (by first | (with_reducible assumption) | assumption)
                have q110 : (ji21) < (t107.length : Int) := of_decide_eq_true (by first | (with_reducible assumption) | assumption)
                obtain ⟨ad110, e110, hx110_0⟩ := Kd.at_string (Kd.R_reads' HO_3.out).2.2 (ji21) p110 q110
                cases e110
                replace p110 := eq_true p110
                replace q110 := eq_true q110
                go_wp2_with (first | ((with_reducible refine gate_callee (f := 83) rfl ?_); refine goesL_ (some 68) rfl rfl Tryz.func83 (by kernel_rfl) rfl #[.string (rdOf ByteArray.empty t107 (ji21))] rfl (by (try simp only [List.map_toArray, List.map_cons, List.map_nil]); first | done | (simp only [hji21]; rfl) | rfl | (simp only [List.length_drop, List.length_take]; rfl)) ?_; (with_reducible refine (tollhouseref10_number.calls k1 (rdOf ByteArray.empty t107 (ji21)) true _ (Glob.below HGl.out (by repeat (first | (with_reducible first | exact HB.out | apply below_alloc | apply pw_below_drewN | apply below_drew1) | exact HB.out))) A24.out).mono ?_); rintro e w' ⟨rfl, ⟨nd, rfl⟩⟩; refine ⟨_, rfl, ?_⟩))
                go_ret
                exact ⟨by first | rfl | (simp [errW_none, errW_some] <;> rfl) | (simp only [← hji21]; first | rfl | (simp [errW_none, errW_some] <;> rfl)) | (simp [*, errW_none, errW_some] <;> rfl), by repeat (first | (with_reducible first | exact HB.out | apply below_alloc | apply pw_below_drewN | apply below_drew1) | exact HB.out)⟩
            · replace c25 := Bool.eq_false_iff.mpr c25
              subst c25
              have H1 : (some (decide ((a0.size : Int) ≤ 64))) = some r := by rw [if_neg (show ¬ (false = true) by decide)] at H; exact H
              clear H
              have H := H1
              clear H1
              obtain rfl := Option.some.inj H
              obtain ⟨Ao31, co31, eo31⟩ := Kd.R_slice HO_3.out
              subst eo31
              have p110 : 0 ≤ ((ji21) : Int) := of_decide_eq_true (by first | (with_reducible assumption) | assumption)
              have q110 : (ji21) < (t107.length : Int) := of_decide_eq_true (by first | (with_reducible assumption) | assumption)
              obtain ⟨ad110, e110, hx110_0⟩ := Kd.at_string (Kd.R_reads' HO_3.out).2.2 (ji21) p110 q110
              cases e110
              replace p110 := eq_true p110
              replace q110 := eq_true q110
              go_wp2_with (first | ((with_reducible refine gate_callee (f := 83) rfl ?_); refine goesL_ (some 68) rfl rfl Tryz.func83 (by kernel_rfl) rfl #[.string (rdOf ByteArray.empty t107 (ji21))] rfl (by (try simp only [List.map_toArray, List.map_cons, List.map_nil]); first | done | (simp only [hji21]; rfl) | rfl | (simp only [List.length_drop, List.length_take]; rfl)) ?_; (with_reducible refine (tollhouseref10_number.calls k1 (rdOf ByteArray.empty t107 (ji21)) false _ (Glob.below HGl.out (by repeat (first | (with_reducible first | exact HB.out | apply below_alloc | apply pw_below_drewN | apply below_drew1) | exact HB.out))) A24.out).mono ?_); rintro e w' ⟨rfl, ⟨nd, rfl⟩⟩; refine ⟨_, rfl, ?_⟩))
              go_ret
              exact ⟨by first | rfl | (simp [errW_none, errW_some] <;> rfl) | (simp only [← hji21]; first | rfl | (simp [errW_none, errW_some] <;> rfl)) | (simp [*, errW_none, errW_some] <;> rfl), by repeat (first | (with_reducible first | exact HB.out | apply below_alloc | apply pw_below_drewN | apply below_drew1) | exact HB.out)⟩
          · rw [if_neg c23] at H
            exact absurd H (by simp)
        · rw [if_neg c22] at H
          exact absurd H (by simp)

end Go.Proofs.YthmnhbalmglohaaGreatDoor.X

/- tollhouseref10.Named tells what uri.Named tells: the plain law. -/
namespace Go.Proofs.YthmnhbalmglohaaGreatDoor.X
open Go.RowKit Go.Proofs.YthmnhbalmglohaaGreatDoorW.PrintWords Go.Proofs.YthmnhbalmglohaaGreatDoor.T
set_option linter.unusedSimpArgs false
set_option linter.unusedVariables false
/-! ### labels -/
theorem labels_go (s : ByteArray) (hs : s.size ≤ 4294967296) : ∀ (d i a : Nat) (acc : List ByteArray), s.size - i = d → a ≤ i → i ≤ s.size → (∀ j, a ≤ j → j < i → s.data.toList[j]? ≠ some 46) → acc.length ≤ i →
    Ev (fun k => tollhouseref10_labels.l0 k s acc (a : Int) (i : Int)) (acc ++ labelsB (s.extract a s.size))
  | 0, i, a, acc, hd, ha, hi, hno, hl => by
    obtain rfl : i = s.size := by omega
    refine Ev.step (g := fun k => tollhouseref10_labels.l0 k s (acc ++ [s.extract a s.size]) ((s.size + 1 : Nat) : Int) ((s.size + 1 : Nat) : Int)) (fun k => ?_) (Ev.done fun k => ?_)
    · simp only [tollhouseref10_labels.l0]
      rw [if_pos (by omega), if_pos trivial, if_pos (by omega), if_pos (by omega), if_pos (by omega), wrap_succ (by omega)]
      simp
    · simp only [tollhouseref10_labels.l0]
      rw [if_neg (by omega), labels_no]
      intro k hk
      have hlt : k < (s.extract a s.size).size := by
        have := (List.getElem?_eq_some_iff.1 hk).1
        rw [size_toList] at this; exact this
      rw [ByteArray.size_extract] at hlt
      rw [Lib.extract_to_end, List.getElem?_drop] at hk
      exact hno (a + k) (by omega) (by omega) hk
  | d + 1, i, a, acc, hd, ha, hi, hno, hl => by
    have hlt : i < s.size := by omega
    by_cases h46 : s.data.toList[i]? = some 46
    · have hb : bt s (i : Int) = 46 := (bt_is hlt 46).2 h46
      have ih := labels_go s hs d (i + 1) (i + 1) (acc ++ [s.extract a i]) (by omega) (by omega) (by omega) (fun j h1 h2 => by omega) (by simp; omega)
      have hhit : labelsB (s.extract a s.size) = s.extract a i :: labelsB (s.extract (i + 1) s.size) := by
        rw [labels_hit (s.extract a s.size) (i - a)]
        · have e1 : (s.extract a s.size).extract 0 (i - a) = s.extract a i := by
            rw [ByteArray.extract_extract]; congr 1 <;> omega
          have e2 : (s.extract a s.size).extract (i - a + 1) (s.extract a s.size).size = s.extract (i + 1) s.size := by
            rw [ByteArray.extract_extract, ByteArray.size_extract]; congr 1 <;> omega
          rw [e1, e2]
        · rw [Lib.extract_to_end, List.getElem?_drop]
          have : a + (i - a) = i := by omega
          rw [this]; exact h46
        · intro k hk hk2
          rw [Lib.extract_to_end, List.getElem?_drop] at hk2
          exact hno (a + k) (by omega) (by omega) hk2
      rw [hhit]
      refine Ev.step (g := fun k => tollhouseref10_labels.l0 k s (acc ++ [s.extract a i]) ((i + 1 : Nat) : Int) ((i + 1 : Nat) : Int)) (fun k => ?_) ?_
      · simp only [tollhouseref10_labels.l0]
        rw [if_pos (by omega), if_neg (by omega), if_pos (by omega), if_pos (by omega), if_pos hb, if_pos (by omega), if_pos (by omega), if_pos (by omega), wrap_succ (by omega)]
        simp
      · simpa using ih
    · have hb : ¬ bt s (i : Int) = 46 := fun e => h46 ((bt_is hlt 46).1 e)
      have ih := labels_go s hs d (i + 1) a acc (by omega) (by omega) (by omega) (fun j h1 h2 => by
        by_cases e : j = i
        · subst e; exact h46
        · exact hno j h1 (by omega)) (by omega)
      refine Ev.step (g := fun k => tollhouseref10_labels.l0 k s acc (a : Int) ((i + 1 : Nat) : Int)) (fun k => ?_) ih
      simp only [tollhouseref10_labels.l0]
      rw [if_pos (by omega), if_neg (by omega), if_pos (by omega), if_pos (by omega), if_neg hb, wrap_succ (by omega)]
theorem labels_ev (s : ByteArray) (hs : s.size ≤ 4294967296) : Ev (fun k => tollhouseref10_labels.f k s) (labelsB s) := by
  have := labels_go s hs (s.size - 0) 0 0 [] rfl (Nat.le_refl _) (Nat.zero_le _) (fun j h1 h2 => by omega) (Nat.le_refl _)
  rw [extract_all] at this
  simpa [tollhouseref10_labels.f] using this
/-! ### octets -/
def octS : List UInt8 → Bool
  | [a] => isDig a
  | [a, b] => isDig a && (isDig b && a != 48)
  | [a, b, c] => isDig a && (isDig b && (isDig c && (a != 48 && decide (100 * (a.toNat - 48) + 10 * (b.toNat - 48) + (c.toNat - 48) ≤ 255))))
  | _ => false
theorem oct_one : ∀ x : Fin 10, [UInt8.ofNat (48 + x.val)] = Lib.decDigits x.val := by decide +kernel
theorem oct_two : ∀ x y : Fin 10, x.val ≠ 0 → [UInt8.ofNat (48 + x.val), UInt8.ofNat (48 + y.val)] = Lib.decDigits (10 * x.val + y.val) := by decide +kernel
theorem oct_three : ∀ x y z : Fin 10, x.val ≠ 0 → 100 * x.val + 10 * y.val + z.val ≤ 255 → [UInt8.ofNat (48 + x.val), UInt8.ofNat (48 + y.val), UInt8.ofNat (48 + z.val)] = Lib.decDigits (100 * x.val + 10 * y.val + z.val) := by decide +kernel
theorem oct_all : ∀ n : Fin 256, octS (Lib.decDigits n.val) = true ∧ Lib.parseUintB 8 (Lib.decDigits n.val) = .ok n.val := by decide +kernel
theorem dig_of {c : UInt8} (h : isDig c = true) : ∃ x : Fin 10, c = UInt8.ofNat (48 + x.val) ∧ c.toNat = 48 + x.val := by
  obtain ⟨h1, h2⟩ := (isDig_iff c).1 h
  refine ⟨⟨c.toNat - 48, by omega⟩, ?_, by simp; omega⟩
  have : 48 + (c.toNat - 48) = c.toNat := by omega
  show c = UInt8.ofNat (48 + (c.toNat - 48))
  rw [this, UInt8.ofNat_toNat]
theorem octS_num : ∀ l : List UInt8, octS l = true → ∃ n, n ≤ 255 ∧ l = Lib.decDigits n
  | [a], h => by
    obtain ⟨x, rfl, _⟩ := dig_of (show isDig a = true from h)
    exact ⟨x.val, by have := x.2; omega, oct_one x⟩
  | [a, b], h => by
    simp only [octS, Bool.and_eq_true, bne_iff_ne] at h
    obtain ⟨x, rfl, hx⟩ := dig_of h.1
    obtain ⟨y, rfl, _⟩ := dig_of h.2.1
    refine ⟨10 * x.val + y.val, by have := x.2; have := y.2; omega, oct_two x y (fun e => h.2.2 ?_)⟩
    rw [e]; rfl
  | [a, b, c], h => by
    simp only [octS, Bool.and_eq_true, bne_iff_ne, decide_eq_true_eq] at h
    obtain ⟨x, hxa, hx⟩ := dig_of h.1
    obtain ⟨y, hya, hy⟩ := dig_of h.2.1
    obtain ⟨z, hza, hz⟩ := dig_of h.2.2.1
    have hle := h.2.2.2.2
    have hne := h.2.2.2.1
    rw [hx, hy, hz] at hle
    refine ⟨100 * x.val + 10 * y.val + z.val, by omega, ?_⟩
    rw [hxa, hya, hza]
    exact oct_three x y z (fun e => hne (by rw [hxa, e]; rfl)) (by omega)
  | [], h => by cases h
  | _ :: _ :: _ :: _ :: _, h => by cases h
theorem octB_S (s : ByteArray) : octB s = octS s.data.toList := by
  rw [Bool.eq_iff_iff]
  constructor
  · intro h
    unfold octB at h
    split at h
    · rename_i n hn
      have hle := Lib.parseUintB_le hn
      have e : s.data.toList = Lib.decDigits n := by simpa using h
      rw [e]
      exact (oct_all ⟨n, by omega⟩).1
    · cases h
  · intro h
    obtain ⟨n, hn, e⟩ := octS_num _ h
    unfold octB
    rw [e, (oct_all ⟨n, by omega⟩).2]
    simp
theorem octet_step (s : ByteArray) (i n : Nat) (c : UInt8) (hc : s.data.toList[i]? = some c) (hs : s.size ≤ 4294967296) (hn : n ≤ 1000000) :
    (isDig c = false → Ev (fun k => tollhouseref10_octet.l0 k s (n : Int) (i : Int)) false) ∧ (3 ≤ i → Ev (fun k => tollhouseref10_octet.l0 k s (n : Int) (i : Int)) false) ∧
    (isDig c = true → i < 3 → ∀ r, Ev (fun k => tollhouseref10_octet.l0 k s ((10 * n + (c.toNat - 48) : Nat) : Int) ((i + 1 : Nat) : Int)) r → Ev (fun k => tollhouseref10_octet.l0 k s (n : Int) (i : Int)) r) := by
  have hlt : i < s.size := by
    have := (List.getElem?_eq_some_iff.1 hc).1
    rw [size_toList] at this; exact this
  have hb : bt s (i : Int) = (c.toNat : Int) := (bt_is hlt c).2 hc
  have hd := isDig_iff c
  refine ⟨fun hd0 => Ev.done fun k => ?_, fun h3 => Ev.done fun k => ?_, fun hd1 h3 r hr => Ev.step (fun k => ?_) hr⟩
  · simp only [tollhouseref10_octet.l0]
    rw [if_pos (by omega), if_pos (by omega), hb]
    rw [hd0] at hd
    by_cases h1 : (c.toNat : Int) < 48
    · rw [if_pos h1]
    · rw [if_neg h1, if_pos]
      rcases Nat.lt_or_ge 57 c.toNat with h2 | h2
      · omega
      · exact absurd (hd.2 ⟨by omega, h2⟩) (by decide)
  · simp only [tollhouseref10_octet.l0]
    rw [if_pos (by omega), if_pos (by omega), hb]
    by_cases h1 : (c.toNat : Int) < 48
    · rw [if_pos h1]
    · rw [if_neg h1]
      by_cases h2 : (c.toNat : Int) > 57
      · rw [if_pos h2]
      · rw [if_neg h2, if_pos (by omega)]
  · obtain ⟨h1, h2⟩ := hd.1 hd1
    simp only [tollhouseref10_octet.l0]
    rw [if_pos (by omega), if_pos (by omega), hb, if_neg (by omega), if_neg (by omega), if_neg (by omega), wrap_succ (by omega)]
    have e : wrap64 (wrap64 (10 * (n : Int)) + ((c.toNat : Int) - 48) % 256) = ((10 * n + (c.toNat - 48) : Nat) : Int) := by unfold wrap64; omega
    rw [e]
theorem octet_end (s : ByteArray) (n : Nat) (hs : s.size ≤ 4294967296) : Ev (fun k => tollhouseref10_octet.l0 k s (n : Int) (s.size : Int)) (decide (0 < s.size) && (decide (n ≤ 255) && (s.data.toList.head? != some 48 || decide (s.size = 1)))) := by
  refine Ev.done fun k => ?_
  simp only [tollhouseref10_octet.l0]
  rw [if_neg (by omega)]
  by_cases h0 : 0 < s.size
  · rw [if_pos (by omega), decide_eq_true h0]
    by_cases h1 : n ≤ 255
    · rw [if_pos (by omega), if_pos (by omega), decide_eq_true h1]
      have hh : s.data.toList.head? = s.data.toList[0]? := by cases s.data.toList <;> rfl
      have hb : bt s 0 = 48 ↔ s.data.toList[0]? = some 48 := bt_is h0 48
      rw [hh]
      by_cases h2 : s.data.toList[0]? = some 48
      · rw [if_pos (hb.2 h2), h2]
        simp
        by_cases h3 : s.size = 1 <;> simp [h3]
        omega
      · rw [if_neg (fun e => h2 (hb.1 e))]
        have : (s.data.toList[0]? != some 48) = true := by simpa using h2
        rw [this]; rfl
    · rw [if_neg (by omega), decide_eq_false h1]; rfl
  · rw [if_neg (by omega), decide_eq_false h0]; rfl
theorem octet_ev (s : ByteArray) (hs : s.size ≤ 4294967296) : Ev (fun k => tollhouseref10_octet.f k s) (octB s) := by
  have hz := size_toList s
  have he := octet_end s
  rw [octB_S]
  show Ev (fun k => tollhouseref10_octet.l0 k s ((0 : Nat) : Int) ((0 : Nat) : Int)) (octS s.data.toList)
  generalize hl : s.data.toList = l at hz he
  match l with
  | [] =>
    have h0 := he 0 hs
    have hs0 : s.size = 0 := hz.symm
    rw [hs0] at h0
    exact h0
  | a :: t =>
    have s0 := octet_step s 0 0 a (by rw [hl]; rfl) hs (by omega)
    cases ha : isDig a with
    | false =>
      have e : octS (a :: t) = false := by
        match t with
        | [] => exact ha
        | [b] => simp [octS, ha]
        | [b, c] => simp [octS, ha]
        | _ :: _ :: _ :: _ => rfl
      rw [e]; exact s0.1 ha
    | true =>
      refine s0.2.2 ha (by omega) _ ?_
      have da := (isDig_iff a).1 ha
      match t with
      | [] =>
        have h0 := he (10 * 0 + (a.toNat - 48)) hs
        have hs0 : s.size = 1 := hz.symm
        rw [hs0] at h0
        have e : octS [a] = (decide (0 < 1) && (decide (10 * 0 + (a.toNat - 48) ≤ 255) && (([a] : List UInt8).head? != some 48 || decide (1 = 1)))) := by
          rw [decide_eq_true (by omega : 10 * 0 + (a.toNat - 48) ≤ 255)]; simp [octS, ha]
        rw [e]; exact h0
      | b :: t =>
        have s1 := octet_step s 1 (10 * 0 + (a.toNat - 48)) b (by rw [hl]; rfl) hs (by omega)
        cases hb : isDig b with
        | false =>
          have e : octS (a :: b :: t) = false := by
            match t with
            | [] => simp [octS, hb]
            | [c] => simp [octS, hb]
            | _ :: _ :: _ => rfl
          rw [e]; exact s1.1 hb
        | true =>
          refine s1.2.2 hb (by omega) _ ?_
          have db := (isDig_iff b).1 hb
          match t with
          | [] =>
            have h0 := he (10 * (10 * 0 + (a.toNat - 48)) + (b.toNat - 48)) hs
            have hs0 : s.size = 2 := hz.symm
            rw [hs0] at h0
            have e : octS [a, b] = (decide (0 < 2) && (decide (10 * (10 * 0 + (a.toNat - 48)) + (b.toNat - 48) ≤ 255) && (([a, b] : List UInt8).head? != some 48 || decide (2 = 1)))) := by
              rw [decide_eq_true (by omega : 10 * (10 * 0 + (a.toNat - 48)) + (b.toNat - 48) ≤ 255)]; simp [octS, ha, hb, bne]
            rw [e]; exact h0
          | c :: t =>
            have s2 := octet_step s 2 (10 * (10 * 0 + (a.toNat - 48)) + (b.toNat - 48)) c (by rw [hl]; rfl) hs (by omega)
            cases hc : isDig c with
            | false =>
              have e : octS (a :: b :: c :: t) = false := by
                match t with
                | [] => simp [octS, hc]
                | _ :: _ => rfl
              rw [e]; exact s2.1 hc
            | true =>
              refine s2.2.2 hc (by omega) _ ?_
              have dc := (isDig_iff c).1 hc
              match t with
              | [] =>
                have h0 := he (10 * (10 * (10 * 0 + (a.toNat - 48)) + (b.toNat - 48)) + (c.toNat - 48)) hs
                have hs0 : s.size = 3 := hz.symm
                rw [hs0] at h0
                have e : octS [a, b, c] = (decide (0 < 3) && (decide (10 * (10 * (10 * 0 + (a.toNat - 48)) + (b.toNat - 48)) + (c.toNat - 48) ≤ 255) && (([a, b, c] : List UInt8).head? != some 48 || decide (3 = 1)))) := by
                  have e1 : 10 * (10 * (10 * 0 + (a.toNat - 48)) + (b.toNat - 48)) + (c.toNat - 48) = 100 * (a.toNat - 48) + 10 * (b.toNat - 48) + (c.toNat - 48) := by omega
                  rw [e1]
                  simp only [octS, ha, hb, hc]
                  cases h48 : (a != 48) <;> simp_all [bne]
                rw [e]; exact h0
              | d :: t =>
                have s3 := octet_step s 3 (10 * (10 * (10 * 0 + (a.toNat - 48)) + (b.toNat - 48)) + (c.toNat - 48)) d (by rw [hl]; rfl) hs (by omega)
                exact s3.2.1 (by omega)
/-! ### numbers -/
def isLowHex (c : UInt8) : Bool := isDig c || (97 ≤ c && c ≤ 102)
theorem lowHex_iff (c : UInt8) : isLowHex c = true ↔ ((48 ≤ c.toNat ∧ c.toNat ≤ 57) ∨ (97 ≤ c.toNat ∧ c.toNat ≤ 102)) := by
  have h : ∀ n : Fin 256, isLowHex (UInt8.ofNat n.val) = true ↔ ((48 ≤ (UInt8.ofNat n.val).toNat ∧ (UInt8.ofNat n.val).toNat ≤ 57) ∨ (97 ≤ (UInt8.ofNat n.val).toNat ∧ (UInt8.ofNat n.val).toNat ≤ 102)) := by decide +kernel
  have := h ⟨c.toNat, c.toNat_lt⟩
  simpa using this
theorem number_go (s : ByteArray) (hs : s.size ≤ 4294967296) (from2 : Bool) : ∀ (d i : Nat), s.size - i = d → i ≤ s.size →
    Ev (fun k => tollhouseref10_number.l0 k s (if from2 then 2 else 0) (i : Int)) ((s.data.toList.drop i).all fun c => if from2 then isLowHex c else isDig c)
  | 0, i, hd, hi => by
    obtain rfl : i = s.size := by omega
    rw [drop_end (Nat.le_refl _)]
    refine Ev.done fun k => ?_
    simp only [tollhouseref10_number.l0]
    rw [if_neg (by omega)]; rfl
  | d + 1, i, hd, hi => by
    have hlt : i < s.size := by omega
    have ih := number_go s hs from2 d (i + 1) (by omega) (by omega)
    rw [drop_at hlt, List.all_cons]
    have hb : bt s (i : Int) = ((s[i]'hlt).toNat : Int) := btAt hlt
    have h1 := isDig_iff (s[i]'hlt)
    have h2 := lowHex_iff (s[i]'hlt)
    generalize (s[i]'hlt) = c at hb h1 h2 ⊢
    generalize ((s.data.toList.drop (i + 1)).all fun c => if from2 = true then isLowHex c else isDig c) = r at ih ⊢
    cases from2 with
    | false =>
      simp only [Bool.false_eq_true, if_false] at ih ⊢
      cases hc : isDig c with
      | true =>
        obtain ⟨g1, g2⟩ := h1.1 hc
        refine Ev.step (fun k => ?_) ih
        simp only [tollhouseref10_number.l0]
        rw [if_pos (by omega), if_pos (by omega), hb, if_pos (by omega), if_pos (by omega), wrap_succ (by omega)]
      | false =>
        refine Ev.done fun k => ?_
        simp only [tollhouseref10_number.l0]
        rw [if_pos (by omega), if_pos (by omega), hb, if_pos trivial]
        rw [hc] at h1
        by_cases g1 : (c.toNat : Int) ≥ 48
        · rw [if_pos g1, if_neg (fun g2 => by have := h1.2 ⟨by omega, by omega⟩; cases this)]; rfl
        · rw [if_neg g1]; rfl
    | true =>
      simp only [if_true] at ih ⊢
      cases hc : isLowHex c with
      | true =>
        refine Ev.step (fun k => ?_) ih
        simp only [tollhouseref10_number.l0]
        rw [if_pos (by omega), if_pos (by omega), hb, wrap_succ (by omega)]
        rcases h2.1 hc with ⟨g1, g2⟩ | ⟨g1, g2⟩
        · rw [if_pos (by omega), if_pos (by omega)]
        · rw [if_pos (by omega), if_neg (by omega), if_neg (by decide), if_neg (by omega), if_neg (by omega)]
      | false =>
        refine Ev.done fun k => ?_
        simp only [tollhouseref10_number.l0]
        rw [if_pos (by omega), if_pos (by omega), hb]
        rw [hc] at h2
        have n1 : ¬ ((48 ≤ c.toNat ∧ c.toNat ≤ 57) ∨ (97 ≤ c.toNat ∧ c.toNat ≤ 102)) := fun e => by have := h2.2 e; cases this
        have e1 : (if (c.toNat : Int) < 97 then some false else if (c.toNat : Int) > 102 then some false else tollhouseref10_number.l0 k s 2 (wrap64 ((i : Int) + 1))) = some false := by
          by_cases g3 : (c.toNat : Int) < 97
          · rw [if_pos g3]
          · rw [if_neg g3, if_pos (by omega)]
        by_cases g1 : (c.toNat : Int) ≥ 48
        · rw [if_pos g1, if_neg (by omega), if_neg (by decide), e1]; rfl
        · rw [if_neg g1, if_neg (by decide), e1]; rfl
def numberS (l : List UInt8) : Bool := if Lib.hasPrefix l [48, 120] then (l.drop 2).all isLowHex else l.all isDig
theorem prefix_two (l : List UInt8) (a b : UInt8) (h : 2 ≤ l.length) : (l.take 2 == [a, b]) = Lib.hasPrefix l [a, b] := by
  match l, h with
  | x :: y :: t, _ =>
    show ([x, y] == [a, b]) = ((a == x) && ((b == y) && true))
    rw [Bool.eq_iff_iff]
    simp only [beq_iff_eq, List.cons.injEq, and_true, Bool.and_eq_true, Bool.and_true]
    constructor
    · rintro ⟨rfl, rfl⟩; exact ⟨rfl, rfl⟩
    · rintro ⟨rfl, rfl⟩; exact ⟨rfl, rfl⟩
theorem prefix_short (l : List UInt8) (a b : UInt8) (h : l.length < 2) : Lib.hasPrefix l [a, b] = false := by
  match l, h with
  | [], _ => rfl
  | [x], _ => simp [Lib.hasPrefix, List.isPrefixOf]
theorem number_ev (s : ByteArray) (hs : s.size ≤ 4294967296) : Ev (fun k => tollhouseref10_number.f k s) (numberS s.data.toList) := by
  have hz := size_toList s
  have hj : ∀ b : Bool, (b = true → 2 ≤ s.size) → Ev (fun k => tollhouseref10_number.j0 k s 0 b) (if b then (s.data.toList.drop 2).all isLowHex else s.data.toList.all isDig) := by
    intro b hb
    cases b with
    | false =>
      have := number_go s hs false (s.size - 0) 0 rfl (Nat.zero_le _)
      simp only [Bool.false_eq_true, if_false, List.drop_zero] at this ⊢
      refine Ev.step (g := fun k => tollhouseref10_number.j1 k s 0) (fun k => by simp only [tollhouseref10_number.j0]; rw [if_neg (by decide)]) (Ev.step (fun k => by simp only [tollhouseref10_number.j1]; rfl) this)
    | true =>
      have := number_go s hs true (s.size - 2) 2 rfl (hb rfl)
      simp only [if_true] at this ⊢
      refine Ev.step (g := fun k => tollhouseref10_number.j1 k s 2) (fun k => by simp only [tollhouseref10_number.j0]; rw [if_pos trivial]) (Ev.step (fun k => by simp only [tollhouseref10_number.j1]; rfl) this)
  by_cases h2 : 2 ≤ s.size
  · have e : ((s.extract 0 2).toList == ([48, 120] : List UInt8)) = Lib.hasPrefix s.data.toList [48, 120] := by
      rw [Lib.toList_data, Lib.extract_from_zero, prefix_two _ _ _ (by omega)]
    refine Ev.same (g := fun k => tollhouseref10_number.j0 k s 0 (Lib.hasPrefix s.data.toList [48, 120])) (fun k => ?_) ?_
    · unfold tollhouseref10_number.f
      rw [if_pos (by omega), if_pos (by omega), if_pos (by omega), e]
    · have := hj (Lib.hasPrefix s.data.toList [48, 120]) (fun _ => h2)
      exact this
  · refine Ev.same (g := fun k => tollhouseref10_number.j0 k s 0 false) (fun k => ?_) ?_
    · unfold tollhouseref10_number.f
      rw [if_neg (by omega)]
    · have := hj false (fun h => by cases h)
      unfold numberS
      rw [prefix_short _ _ _ (by omega)]
      exact this
/-- of a label's small signs -/
theorem hex_host (c : UInt8) (h : isHostC c = true) : isHexC c = isLowHex c := by
  have hh : ∀ n : Fin 256, isHostC (UInt8.ofNat n.val) = true → isHexC (UInt8.ofNat n.val) = isLowHex (UInt8.ofNat n.val) := by decide +kernel
  have := hh ⟨c.toNat, c.toNat_lt⟩
  simp only [UInt8.ofNat_toNat] at this
  exact this h
theorem numeric_S (s : ByteArray) (h : s.data.toList.all isHostC = true) : numericB s = numberS s.data.toList := by
  unfold numericB numberS
  cases hp : Lib.hasPrefix s.data.toList [48, 120] with
  | false => rfl
  | true =>
    have e : Lib.trimPrefix s.data.toList [48, 120] = s.data.toList.drop 2 := by unfold Lib.trimPrefix; rw [if_pos hp]; rfl
    rw [if_pos rfl, if_pos rfl, e]
    have hd : (s.data.toList.drop 2).all isHostC = true := List.all_eq_true.2 fun x hx => List.all_eq_true.1 h x (List.mem_of_mem_drop hx)
    generalize s.data.toList.drop 2 = l at hd
    induction l with
    | nil => rfl
    | cons c t ih =>
      simp only [List.all_cons, Bool.and_eq_true] at hd
      rw [List.all_cons, List.all_cons, hex_host c hd.1, ih hd.2]
/-! ### Named -/
theorem hostC_iff (c : UInt8) : isHostC c = true ↔ (c.toNat = 45 ∨ (97 ≤ c.toNat ∧ c.toNat ≤ 122) ∨ (48 ≤ c.toNat ∧ c.toNat ≤ 57)) := by
  have h : ∀ n : Fin 256, isHostC (UInt8.ofNat n.val) = true ↔ ((UInt8.ofNat n.val).toNat = 45 ∨ (97 ≤ (UInt8.ofNat n.val).toNat ∧ (UInt8.ofNat n.val).toNat ≤ 122) ∨ (48 ≤ (UInt8.ofNat n.val).toNat ∧ (UInt8.ofNat n.val).toNat ≤ 57)) := by decide +kernel
  have := h ⟨c.toNat, c.toNat_lt⟩
  simpa using this
theorem named_l1 (s : ByteArray) (ls : List ByteArray) (hls : ls.length ≤ 4294967297) (o : Bool) (i : Nat) (y : ByteArray) (hi : ls[i]? = some y) (hy : y.size ≤ 4294967296) (r : Bool)
    (hr : y.data.toList.all isHostC = true → Ev (fun k => tollhouseref10_Named.l1 k s ls o (i : Int) (y.size : Int)) r) : ∀ (d j : Nat), y.size - j = d → j ≤ y.size → (y.data.toList.take j).all isHostC = true →
    Ev (fun k => tollhouseref10_Named.l1 k s ls o (i : Int) (j : Int)) (if y.data.toList.all isHostC then r else false)
  | 0, j, hd, hj, hp => by
    obtain rfl : j = y.size := by omega
    rw [List.take_of_length_le (by rw [size_toList]; exact Nat.le_refl _)] at hp
    rw [if_pos hp]; exact hr hp
  | d + 1, j, hd, hj, hp => by
    have hlt : j < y.size := by omega
    have hil : i < ls.length := (List.getElem?_eq_some_iff.1 hi).1
    have hb : bt y (j : Int) = ((y[j]'hlt).toNat : Int) := btAt hlt
    have h1 := hostC_iff (y[j]'hlt)
    have htk : y.data.toList.take (j + 1) = y.data.toList.take j ++ [y[j]'hlt] := by
      rw [List.take_add_one, list_at hlt]; rfl
    have hsplit : y.data.toList.all isHostC = ((y.data.toList.take j).all isHostC && (isHostC (y[j]'hlt) && (y.data.toList.drop (j + 1)).all isHostC)) := by
      conv => lhs; rw [← List.take_append_drop j y.data.toList, List.all_append, drop_at hlt, List.all_cons]
    cases hc : isHostC (y[j]'hlt) with
    | true =>
      have ih := named_l1 s ls hls o i y hi hy r hr d (j + 1) (by omega) (by omega) (by rw [htk, List.all_append, hp]; simp [hc])
      refine Ev.step (fun k => ?_) ih
      simp only [tollhouseref10_Named.l1]
      rw [if_pos (by omega), if_pos (by omega), rd_list ls i y hi, if_pos (by omega), if_pos (by omega), hb, wrap_succ (by omega)]
      generalize (y[j]'hlt) = c at h1 hc
      rcases h1.1 hc with g | ⟨g1, g2⟩ | ⟨g1, g2⟩
      · rw [if_pos (by omega)]
      · rw [if_neg (by omega), if_neg (by omega), if_neg (by omega)]
      · rw [if_neg (by omega), if_pos (by omega), if_neg (by omega), if_neg (by omega)]
    | false =>
      have hf : y.data.toList.all isHostC = false := by rw [hsplit, hc]; simp
      rw [hf, if_neg (by decide)]
      refine Ev.done fun k => ?_
      simp only [tollhouseref10_Named.l1]
      rw [if_pos (by omega), if_pos (by omega), rd_list ls i y hi, if_pos (by omega), if_pos (by omega), hb]
      generalize (y[j]'hlt) = c at h1 hc
      rw [hc] at h1
      have n1 : ¬ (c.toNat = 45 ∨ (97 ≤ c.toNat ∧ c.toNat ≤ 122) ∨ (48 ≤ c.toNat ∧ c.toNat ≤ 57)) := fun e => by have := h1.2 e; cases this
      rw [if_neg (by omega)]
      by_cases g1 : (c.toNat : Int) < 97
      · rw [if_pos g1]
        by_cases g2 : (c.toNat : Int) < 48
        · rw [if_pos g2]
        · rw [if_neg g2, if_pos (by omega)]
      · rw [if_neg g1, if_pos (by omega), if_neg (by omega), if_pos (by omega)]
def namedRest (s : ByteArray) (ls : List ByteArray) (o : Bool) (t : List ByteArray) : Bool := t.all labelB && (decide (s.size ≤ 64) && (!numberS (ls.getD (ls.length - 1) ByteArray.empty).data.toList || (decide (ls.length = 4) && (o && t.all octB))))
theorem named_l0 (s : ByteArray) (hs : s.size ≤ 4294967296) (ls : List ByteArray) (hpos : 0 < ls.length) (hls : ls.length ≤ 4294967297) (hsz : ∀ y ∈ ls, y.size ≤ 4294967296) : ∀ (t : List ByteArray) (i : Nat) (o : Bool), ls.drop i = t → i ≤ ls.length →
    Ev (fun k => tollhouseref10_Named.l0 k s ls o (i : Int)) (namedRest s ls o t)
  | [], i, o, ht, hi => by
    have hi2 : i = ls.length := by
      have := congrArg List.length ht
      simp at this; omega
    subst hi2
    have hlast : ls[ls.length - 1]? = some (ls.getD (ls.length - 1) ByteArray.empty) := by
      rw [List.getD_eq_getElem?_getD, List.getElem?_eq_getElem (by omega)]; rfl
    have hmem : ls.getD (ls.length - 1) ByteArray.empty ∈ ls := List.mem_of_getElem? hlast
    have hw : wrap64 ((ls.length : Int) - 1) = ((ls.length - 1 : Nat) : Int) := by unfold wrap64; omega
    have hn := number_ev _ (hsz _ hmem)
    unfold namedRest
    generalize ls.getD (ls.length - 1) ByteArray.empty = y at hlast hn ⊢
    refine Ev.step (g := fun k => (tollhouseref10_number.f k y).bind fun b => if b = true then (if (ls.length : Int) = 4 then (if o = true then some (decide ((s.size : Int) ≤ 64)) else some false) else some false) else some (decide ((s.size : Int) ≤ 64))) (fun k => ?_) (Ev.bind hn (Ev.const fun k => ?_))
    · simp only [tollhouseref10_Named.l0]
      rw [if_neg (by omega), hw, if_pos (by omega), if_pos (by omega), rd_list ls _ y hlast]
    · have e64 : decide ((s.size : Int) ≤ 64) = decide (s.size ≤ 64) := by
        by_cases h : s.size ≤ 64
        · rw [decide_eq_true h, decide_eq_true (by omega)]
        · rw [decide_eq_false h, decide_eq_false (by omega)]
      rw [e64]
      have e4 : ((ls.length : Int) = 4) ↔ ls.length = 4 := by omega
      cases numberS y.data.toList <;> cases o <;> by_cases h4 : ls.length = 4 <;> simp [h4, e4]
  | y :: t, i, o, ht, hi => by
    have hil : i < ls.length := by
      have := congrArg List.length ht
      simp at this; omega
    have hiy : ls[i]? = some y := by
      have : (ls.drop i)[0]? = some y := by rw [ht]; rfl
      rw [List.getElem?_drop] at this
      simpa using this
    have hmem : y ∈ ls := List.mem_of_getElem? hiy
    have hy := hsz y hmem
    have ht2 : ls.drop (i + 1) = t := by
      rw [← List.drop_drop, ht]; rfl
    have ih := fun o2 => named_l0 s hs ls hpos hls hsz t (i + 1) o2 ht2 (by omega)
    have hlab : labelB y = (!y.data.toList.isEmpty && y.data.toList.all isHostC) := rfl
    have he : y.toList = y.data.toList := Lib.toList_data y
    have hfin : y.data.toList.all isHostC = true → Ev (fun k => tollhouseref10_Named.l1 k s ls o (i : Int) (y.size : Int)) (if y.data.toList.isEmpty then false else namedRest s ls (o && octB y) t) := by
      intro _
      cases hem : y.data.toList.isEmpty with
      | true =>
        rw [if_pos rfl]
        refine Ev.done fun k => ?_
        simp only [tollhouseref10_Named.l1]
        rw [if_pos (by omega), if_pos (by omega), rd_list ls i y hiy, if_neg (by omega), he, if_pos (by simpa using hem)]
      | false =>
        rw [if_neg (by decide)]
        cases o with
        | true =>
          refine Ev.step (g := fun k => (tollhouseref10_octet.f k y).bind fun b => tollhouseref10_Named.l0 k s ls b ((i + 1 : Nat) : Int)) (fun k => ?_) (Ev.bind (octet_ev y hy) ?_)
          · simp only [tollhouseref10_Named.l1]
            rw [if_pos (by omega), if_pos (by omega), rd_list ls i y hiy, if_neg (by omega), he, if_neg (by simpa using hem), if_pos trivial, wrap_succ (by omega)]
          · rw [Bool.true_and]; exact ih (octB y)
        | false =>
          refine Ev.step (fun k => ?_) (ih false)
          simp only [tollhouseref10_Named.l1]
          rw [if_pos (by omega), if_pos (by omega), rd_list ls i y hiy, if_neg (by omega), he, if_neg (by simpa using hem), if_neg (by decide), wrap_succ (by omega)]
    have h1 := named_l1 s ls hls o i y hiy hy _ hfin (y.size - 0) 0 rfl (Nat.zero_le _) rfl
    have hres : namedRest s ls o (y :: t) = (if y.data.toList.all isHostC = true then (if y.data.toList.isEmpty = true then false else namedRest s ls (o && octB y) t) else false) := by
      unfold namedRest
      rw [List.all_cons, List.all_cons, hlab]
      cases y.data.toList.all isHostC <;> cases y.data.toList.isEmpty <;> cases octB y <;> cases o <;> simp
    rw [hres]
    refine Ev.step (fun k => ?_) h1
    simp only [tollhouseref10_Named.l0]
    rw [if_pos (by omega)]
    rfl
theorem rnamed_ev (s : ByteArray) (hs : s.size ≤ 4294967296) : Ev (fun k => tollhouseref10_Named.f k s) (namedB s) := by
  have hl := labels_ev s hs
  have hpos : 0 < (labelsB s).length := by rw [labels_len]; omega
  have hle := labels_le s
  have hsz : ∀ y ∈ labelsB s, y.size ≤ 4294967296 := fun y hy => by have := splitB_size _ _ _ y hy; omega
  have h0 := named_l0 s hs (labelsB s) hpos (by omega) hsz (labelsB s) 0 true rfl (Nat.zero_le _)
  refine Ev.same (fun k => by unfold tollhouseref10_Named.f; rfl) (Ev.bind hl ?_)
  have e : namedB s = namedRest s (labelsB s) true (labelsB s) := by
    unfold namedB namedRest quadB
    cases ha : (labelsB s).all labelB with
    | false => rfl
    | true =>
      have hlast : (labelsB s).getD ((labelsB s).length - 1) ByteArray.empty ∈ labelsB s := by
        rw [List.getD_eq_getElem?_getD, List.getElem?_eq_getElem (by omega)]
        exact List.getElem_mem _
      have hh := List.all_eq_true.1 ha _ hlast
      unfold labelB at hh
      rw [Bool.and_eq_true] at hh
      rw [numeric_S _ hh.2]
      simp
  rw [e]; exact h0
end Go.Proofs.YthmnhbalmglohaaGreatDoor.X

/- tollhouseref02.Token over this program: it tells what text.Token tells. -/
namespace Go.Proofs.YthmnhbalmglohaaGreatDoor.T
open Go.RowKit
set_option linter.unusedSimpArgs false
set_option linter.unusedVariables false
def sgL : List UInt8 := [33, 35, 36, 37, 38, 39, 42, 43, 45, 46, 94, 95, 96, 124, 126]
def alnum (c : UInt8) : Bool := (97 ≤ c && c ≤ 122) || (65 ≤ c && c ≤ 90) || (48 ≤ c && c ≤ 57)
/-- among the first k signs -/
def inSg (k : Nat) (c : UInt8) : Bool := (sgL.take k).contains c
theorem inSg_succ (k : Nat) (hk : k < 15) (c : UInt8) : inSg (k + 1) c = (inSg k c || c == sgL.getD k 0) := by
  have h : ∀ k : Fin 15, ∀ n : Fin 256, inSg (k.val + 1) (UInt8.ofNat n.val) = (inSg k.val (UInt8.ofNat n.val) || UInt8.ofNat n.val == sgL.getD k.val 0) := by decide +kernel
  have := h ⟨k, hk⟩ ⟨c.toNat, c.toNat_lt⟩
  simpa using this
theorem tok_alt (c : UInt8) : isTok c = (alnum c || inSg 15 c) := by
  have h : ∀ n : Fin 256, isTok (UInt8.ofNat n.val) = (alnum (UInt8.ofNat n.val) || inSg 15 (UInt8.ofNat n.val)) := by decide +kernel
  have := h ⟨c.toNat, c.toNat_lt⟩
  simpa using this
theorem alnum_spec (c : UInt8) : alnum c = ((decide (97 ≤ (c.toNat : Int)) && decide ((c.toNat : Int) ≤ 122)) || (decide (65 ≤ (c.toNat : Int)) && decide ((c.toNat : Int) ≤ 90)) || (decide (48 ≤ (c.toNat : Int)) && decide ((c.toNat : Int) ≤ 57))) := by
  have h : ∀ n : Fin 256, alnum (UInt8.ofNat n.val) = ((decide (97 ≤ ((UInt8.ofNat n.val).toNat : Int)) && decide (((UInt8.ofNat n.val).toNat : Int) ≤ 122)) || (decide (65 ≤ ((UInt8.ofNat n.val).toNat : Int)) && decide (((UInt8.ofNat n.val).toNat : Int) ≤ 90)) || (decide (48 ≤ ((UInt8.ofNat n.val).toNat : Int)) && decide (((UInt8.ofNat n.val).toNat : Int) ≤ 57))) := by decide +kernel
  have := h ⟨c.toNat, c.toNat_lt⟩
  simpa using this
theorem classes (x : Int) : (97 ≤ x ∧ x ≤ 122) ∨ (65 ≤ x ∧ x ≤ 90) ∨ (48 ≤ x ∧ x ≤ 57) ∨ x < 48 ∨ (57 < x ∧ x < 65) ∨ (90 < x ∧ x < 97) ∨ 122 < x := by omega
theorem beq_nat (a b : UInt8) : (a == b) = ((a.toNat : Int) == (b.toNat : Int)) := by
  rw [Bool.eq_iff_iff]
  simp only [beq_iff_eq]
  constructor
  · intro h; rw [h]
  · intro h; exact UInt8.toNat_inj.1 (by omega)
theorem sg_at (k : Nat) (hk : k < 15) : (⟨#[33, 35, 36, 37, 38, 39, 42, 43, 45, 46, 94, 95, 96, 124, 126]⟩ : ByteArray)[k]'hk = sgL.getD k 0 := by
  have h : ∀ k : Fin 15, (⟨#[33, 35, 36, 37, 38, 39, 42, 43, 45, 46, 94, 95, 96, 124, 126]⟩ : ByteArray)[k.val]'(k.2) = sgL.getD k.val 0 := by decide
  exact h ⟨k, hk⟩
theorem bool_val {a b : Bool} (h : a = b) : Value.bool a = .bool b := by rw [h]
set_option maxHeartbeats 4000000 in
theorem rtoken_any (s : ByteArray) (w : World) (hs : s.size ≤ 9223372036854775807) :
    Calls Tryz.prog 65 #[.string s] w fun e w' => e = .returned (.bool (tokenB s)) ∧ w = w' := by
  have HL := Lib.hid (size_toList s)
  go_enter Tryz.func65, Tryz.ntmps65
  go_wp2
  go_loopg [4, 5, 6, 7] s.size (fun gg s4 _ _ _ wr => ∃ kk : Nat, kk ≤ s.size ∧ s.size - kk ≤ gg ∧ s4 = .int .i64 kk ∧ wr = w ∧ Aside (∀ j, j < kk → isTok (s.data.toList.getD j 0) = true))
  case atStart => exact ⟨0, Nat.zero_le _, by omega, rfl, rfl, fun j hj => absurd hj (Nat.not_lt_zero _)⟩
  case round =>
    obtain ⟨kk, hkk, hg, rfl, rfl, A⟩ := hrel
    obtain ⟨wo, rfl⟩ : ∃ wo : World, wo = wr := ⟨_, rfl⟩
    by_cases hlt : kk < s.size
    · have hltz : (kk : Int) < (s.size : Int) := by omega
      have HY : Hid (s.data.toList.getD kk 0 = s[kk]) := Lib.hid (by rw [List.getD_eq_getElem?_getD, List.getElem?_eq_getElem (by rw [HL.out]; exact hlt)]; rfl)
      have HA := Lib.hid (alnum_spec s[kk])
      rcases classes ((s[kk]).toNat : Int) with hcl | hcl | hcl | hcl | hcl | hcl | hcl
      all_goals
        have hcl1 := hcl
        try (obtain ⟨hca, hcb⟩ := hcl1)
        go_wp2
        go_loopg [6, 7] 15 (fun gg s6 s7 wr => ∃ k : Nat, k ≤ 15 ∧ 15 - k ≤ gg ∧ s7 = .int .i64 k ∧ s6 = .bool (alnum s[kk] || inSg k s[kk]) ∧ wr = wo)
        case atStart =>
          refine ⟨0, by omega, by omega, rfl, ?_, rfl⟩
          have h0 : inSg 0 s[kk] = false := rfl
          rw [h0, HA.out]
          congr 1
          rw [Bool.eq_iff_iff]
          simp only [Bool.or_eq_true, Bool.and_eq_true, decide_eq_true_eq, true_iff, Bool.false_eq_true, false_iff, or_false]
          omega
        case round =>
          obtain ⟨k, hk, hgk, rfl, rfl, rfl⟩ := hrel
          generalize hx : (alnum s[kk] || inSg k s[kk]) = x
          have HX := Lib.hid hx
          clear hx
          by_cases hlk : k < 15
          · have hltk : (k : Int) < 15 := by omega
            cases x with
            | true =>
              go_wp2
              go_roundg (15 - (k + 1))
              case measure => omega
              case rel =>
                refine ⟨k + 1, by omega, by omega, by go_num, ?_, rfl⟩
                rw [inSg_succ k hlk, ← Bool.or_assoc, HX.out]
                rfl
            | false =>
              go_wp2
              go_roundg (15 - (k + 1))
              case measure => omega
              case rel =>
                refine ⟨k + 1, by omega, by omega, by go_num, bool_val ?_, rfl⟩
                rw [inSg_succ k hlk, ← Bool.or_assoc, HX.out, Bool.false_or, beq_nat, sg_at k hlk, Bool.beq_comm]
          · have hltk : ¬ (k : Int) < 15 := by omega
            obtain rfl : k = 15 := by omega
            rw [← tok_alt] at HX
            cases x with
            | true =>
              go_wp2
              go_roundg (s.size - (kk + 1))
              case measure => omega
              case rel =>
                refine ⟨kk + 1, by omega, by omega, by go_num, rfl, fun j hj => ?_⟩
                by_cases e : j = kk
                · subst e; rw [HY.out]; exact HX.out
                · exact A.out j (by omega)
            | false =>
              go_wp2
              go_ret
              refine ⟨ret_bool ?_, rfl⟩
              unfold tokenB
              rw [all_no_getD isTok 0 s.data.toList kk (by rw [HL.out]; exact hlt) (by rw [HY.out]; exact HX.out), Bool.and_false]
    · have hltz : ¬ (kk : Int) < (s.size : Int) := by omega
      obtain rfl : kk = s.size := by omega
      go_wp2
      go_ret
      refine ⟨ret_bool ?_, rfl⟩
      unfold tokenB
      rw [all_of_getD isTok 0 s.data.toList (by rw [HL.out]; exact A.out), Bool.and_true, ← HL.out]
      cases s.data.toList <;> simp
end Go.Proofs.YthmnhbalmglohaaGreatDoor.T

/- tollhouseref02.Token in the print's form. -/
namespace Go.Proofs.YthmnhbalmglohaaGreatDoor.X
open Go.RowKit Go.Proofs.YthmnhbalmglohaaGreatDoorW.PrintWords Go.Proofs.YthmnhbalmglohaaGreatDoor.T
set_option linter.unusedVariables false
def tollhouseref02_Token.f (a0 : ByteArray) : Option Bool := if a0.size ≤ 9223372036854775807 then some (tokenB a0) else none
theorem tollhouseref02_Token.calls (a0 : ByteArray) (r : Bool) (w : World) (HGg : Glob w) (h : tollhouseref02_Token.f a0 = some r) : Calls Tryz.prog 65 #[.string a0] w fun e w' => e = .returned (.bool r) ∧ Drawn0 w w' := by
  obtain ⟨h1, rfl⟩ := of_lim h; exact (rtoken_any a0 w h1).mono fun e w' ⟨he, hw⟩ => ⟨he, drawn_same hw.symm⟩
end Go.Proofs.YthmnhbalmglohaaGreatDoor.X
