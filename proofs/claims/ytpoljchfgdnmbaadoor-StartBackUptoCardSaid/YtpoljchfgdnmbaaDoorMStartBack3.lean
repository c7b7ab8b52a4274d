/- A part of the proof of the law StartBack: contracts of functions that it reaches, and plain lemmas. -/
import Derived.Test.YtpoljchfgdnmbaaDoorMStartBack1
import Derived.Test.YtpoljchfgdnmbaaDoorMStartBack2
import Derived.Lib.Split
import Derived.Shelf.Strings.Split
import Derived.Lib.IndexBytes
-- PRINTED by print.py (a twelfth state) out of the translation. Not trusted: Lean checks it.
namespace Go.Proofs.YtpoljchfgdnmbaaDoor.X
open Go.RowKit Go.Proofs.YtpoljchfgdnmbaaDoorW.PrintWords Go.Proofs.YtpoljchfgdnmbaaDoorW.PrintLast Go.Proofs.YtpoljchfgdnmbaaDoorW.PrintMore
attribute [local go_sem] max2_int min2_int max_two min_two max_three min_three max_four min_four   -- for this text's walks alone
set_option linter.unusedVariables false
set_option linter.unusedSimpArgs false
open Go.Proofs.YtpoljchfgdnmbaaDoor.T

/-! ### tollhouselaw06_StartBack: function 5 -/
mutual
def tollhouselaw06_StartBack.j0 : Nat → ByteArray → ByteArray → Int → Int → Option (Bool)
  | 0, _, _, _, _ => none
  | k + 1, x0, x3, x4, x5 => (start_PutStatus.f x4 x5 x3).bind fun bt208 => (if bt208.2 = 0 then ((start_Status.f bt208.1).bind fun bt210 => (if bt210.2.2.2 = 0 then (if bt210.1 = x4 then (if bt210.2.1 = x5 then (if bt210.2.2.1.toList = x3.toList then (if (bt208.1.size : Int) > 512 then (some false) else ((text_Visible.f x3).bind fun t214 => (if t214 = true then (tollhouselaw06_StartBack.j1 k x0) else (some false)))) else (some false)) else (some false)) else (some false)) else (some false))) else (if bt208.2 = 1 then (if bt208.1.toList = ([] : List UInt8) then (tollhouselaw06_StartBack.j1 k x0) else (some false)) else (some false)))
def tollhouselaw06_StartBack.j1 : Nat → ByteArray → Option (Bool)
  | 0, _ => none
  | k + 1, x0 => (start_Request.f k x0).bind fun bt215 => (if bt215.2.2.2 = 0 then ((start_PutRequest.f bt215.1 bt215.2.1 bt215.2.2.1).bind fun bt219 => (if bt219.2 = 0 then (if bt219.1.toList = x0.toList then (tollhouselaw06_StartBack.j2 k x0 bt215.2.2.2) else (some false)) else (some false))) else (if bt215.2.2.2 = 5 then (if bt215.1.toList = ([] : List UInt8) then (if bt215.2.1.toList = ([] : List UInt8) then (if bt215.2.2.1 = 0 then (tollhouselaw06_StartBack.j2 k x0 bt215.2.2.2) else (some false)) else (some false)) else (some false)) else (some false)))
def tollhouselaw06_StartBack.j2 : Nat → ByteArray → Int → Option (Bool)
  | 0, _, _ => none
  | k + 1, x0, x31 => (start_Status.f x0).bind fun bt221 => (if bt221.2.2.2 = 0 then ((start_PutStatus.f bt221.1 bt221.2.1 bt221.2.2.1).bind fun bt225 => (if x31 = 0 then (some false) else (if bt225.2 = 0 then (if bt225.1.toList = x0.toList then ((tollhouselaw06_wakes.f k).bind fun t227 => (some t227)) else (some false)) else (some false)))) else (if bt221.2.2.2 = 5 then (if bt221.1 = 0 then (if bt221.2.1 = 0 then (if bt221.2.2.1.toList = ([] : List UInt8) then ((tollhouselaw06_wakes.f k).bind fun t228 => (some t228)) else (some false)) else (some false)) else (some false)) else (some false)))
end
def tollhouselaw06_StartBack.f (k : Nat) (a0 : ByteArray) (a1 : ByteArray) (a2 : ByteArray) (a3 : ByteArray) (a4 : Int) (a5 : Int) : Option (Bool) := (start_PutRequest.f a1 a2 a4).bind fun bt197 => (if bt197.2 = 0 then ((start_Request.f k bt197.1).bind fun bt199 => ((start_Status.f bt197.1).bind fun bt203 => (if bt199.2.2.2 = 0 then (if bt199.1.toList = a1.toList then (if bt199.2.1.toList = a2.toList then (if bt199.2.2.1 = a4 then (if bt203.2.2.2 = 5 then (if (bt197.1.size : Int) > 512 then (some false) else ((text_Token.f a1).bind fun t207 => (if t207 = true then (tollhouselaw06_StartBack.j0 k a0 a3 a4 a5) else (some false)))) else (some false)) else (some false)) else (some false)) else (some false)) else (some false)))) else (if bt197.2 = 1 then (if bt197.1.toList = ([] : List UInt8) then (tollhouselaw06_StartBack.j0 k a0 a3 a4 a5) else (some false)) else (some false)))
theorem tollhouselaw06_StartBack.mono_l : ∀ k, (∀ y0 y1 y2 y3, LeO (tollhouselaw06_StartBack.j0 k y0 y1 y2 y3) (tollhouselaw06_StartBack.j0 (k + 1) y0 y1 y2 y3)) ∧ (∀ y0, LeO (tollhouselaw06_StartBack.j1 k y0) (tollhouselaw06_StartBack.j1 (k + 1) y0)) ∧ (∀ y0 y1, LeO (tollhouselaw06_StartBack.j2 k y0 y1) (tollhouselaw06_StartBack.j2 (k + 1) y0 y1))
  | 0 => ⟨fun _ _ _ _ r h => by simp [tollhouselaw06_StartBack.j0] at h, fun _ r h => by simp [tollhouselaw06_StartBack.j1] at h, fun _ _ r h => by simp [tollhouselaw06_StartBack.j2] at h⟩
  | k + 1 => by
    obtain ⟨ih0, ih1, ih2⟩ := tollhouselaw06_StartBack.mono_l k
    refine ⟨?_, ?_, ?_⟩
    · intro y0 y1 y2 y3
      unfold tollhouselaw06_StartBack.j0
      repeat' first
      | (with_reducible exact ih0 _ _ _ _)
      | (with_reducible exact ih1 _)
      | (with_reducible exact ih2 _ _)
      | (with_reducible exact start_Request.mono _ _)
      | (with_reducible exact tollhouselaw06_wakes.mono _)
      | (with_reducible exact LeO.refl _)
      | (with_reducible exact LeO.none _)
      | (with_reducible refine LeO.ite ?_ ?_)
      | (with_reducible refine LeO.bind ?_ (fun _ => ?_))
      | exact ih0 _ _ _ _
      | exact ih1 _
      | exact ih2 _ _
      | exact start_Request.mono _ _
      | exact tollhouselaw06_wakes.mono _
      | exact LeO.none _
      | refine LeO.ite ?_ ?_
      | refine LeO.bind ?_ (fun _ => ?_)
    · intro y0
      unfold tollhouselaw06_StartBack.j1
      repeat' first
      | (with_reducible exact ih0 _ _ _ _)
      | (with_reducible exact ih1 _)
      | (with_reducible exact ih2 _ _)
      | (with_reducible exact start_Request.mono _ _)
      | (with_reducible exact tollhouselaw06_wakes.mono _)
      | (with_reducible exact LeO.refl _)
      | (with_reducible exact LeO.none _)
      | (with_reducible refine LeO.ite ?_ ?_)
      | (with_reducible refine LeO.bind ?_ (fun _ => ?_))
      | exact ih0 _ _ _ _
      | exact ih1 _
      | exact ih2 _ _
      | exact start_Request.mono _ _
      | exact tollhouselaw06_wakes.mono _
      | exact LeO.none _
      | refine LeO.ite ?_ ?_
      | refine LeO.bind ?_ (fun _ => ?_)
    · intro y0 y1
      unfold tollhouselaw06_StartBack.j2
      repeat' first
      | (with_reducible exact ih0 _ _ _ _)
      | (with_reducible exact ih1 _)
      | (with_reducible exact ih2 _ _)
      | (with_reducible exact start_Request.mono _ _)
      | (with_reducible exact tollhouselaw06_wakes.mono _)
      | (with_reducible exact LeO.refl _)
      | (with_reducible exact LeO.none _)
      | (with_reducible refine LeO.ite ?_ ?_)
      | (with_reducible refine LeO.bind ?_ (fun _ => ?_))
      | exact ih0 _ _ _ _
      | exact ih1 _
      | exact ih2 _ _
      | exact start_Request.mono _ _
      | exact tollhouselaw06_wakes.mono _
      | exact LeO.none _
      | refine LeO.ite ?_ ?_
      | refine LeO.bind ?_ (fun _ => ?_)
theorem tollhouselaw06_StartBack.mono : ∀ a0 a1 a2 a3 a4 a5 k, LeO (tollhouselaw06_StartBack.f k a0 a1 a2 a3 a4 a5) (tollhouselaw06_StartBack.f (k + 1) a0 a1 a2 a3 a4 a5) := by
  intro a0 a1 a2 a3 a4 a5 k
  obtain ⟨ih0, ih1, ih2⟩ := tollhouselaw06_StartBack.mono_l k
  unfold tollhouselaw06_StartBack.f
  repeat' first
      | (with_reducible exact ih0 _ _ _ _)
      | (with_reducible exact ih1 _)
      | (with_reducible exact ih2 _ _)
      | (with_reducible exact start_Request.mono _ _)
      | (with_reducible exact tollhouselaw06_wakes.mono _)
      | (with_reducible exact LeO.refl _)
      | (with_reducible exact LeO.none _)
      | (with_reducible refine LeO.ite ?_ ?_)
      | (with_reducible refine LeO.bind ?_ (fun _ => ?_))
      | exact ih0 _ _ _ _
      | exact ih1 _
      | exact ih2 _ _
      | exact start_Request.mono _ _
      | exact tollhouselaw06_wakes.mono _
      | exact LeO.none _
      | refine LeO.ite ?_ ?_
      | refine LeO.bind ?_ (fun _ => ?_)
set_option maxHeartbeats 8000000 in
set_option maxRecDepth 100000 in
theorem tollhouselaw06_StartBack.calls (k : Nat) (a0 : ByteArray) (a1 : ByteArray) (a2 : ByteArray) (a3 : ByteArray) (a4 : Int) (a5 : Int) (r : Bool) (w : World) (HGg : Glob w) (h : tollhouselaw06_StartBack.f k a0 a1 a2 a3 a4 a5 = some r) :
    Calls Tryd.prog 5 #[.string a0, .string a1, .string a2, .string a3, .int .i64 a4, .int .i64 a5] w fun e w' => e = .returned (.bool r) ∧ Below w.heap.size w w' := by
  have HGl := Aside0.mk HGg
  clear HGg
  have HB := Aside0.mk (Below.refl w.heap.size w)
  have H : ((start_PutRequest.f a1 a2 a4).bind fun bt197 => (if bt197.2 = 0 then ((start_Request.f k bt197.1).bind fun bt199 => ((start_Status.f bt197.1).bind fun bt203 => (if bt199.2.2.2 = 0 then (if bt199.1.toList = a1.toList then (if bt199.2.1.toList = a2.toList then (if bt199.2.2.1 = a4 then (if bt203.2.2.2 = 5 then (if (bt197.1.size : Int) > 512 then (some false) else ((text_Token.f a1).bind fun t207 => (if t207 = true then (tollhouselaw06_StartBack.j0 k a0 a3 a4 a5) else (some false)))) else (some false)) else (some false)) else (some false)) else (some false)) else (some false)))) else (if bt197.2 = 1 then (if bt197.1.toList = ([] : List UInt8) then (tollhouselaw06_StartBack.j0 k a0 a3 a4 a5) else (some false)) else (some false)))) = some r := h
  clear h
  replace H := Option.bind_eq_some_iff.mp H
  obtain ⟨⟨t197, t198⟩, A70, H⟩ := H
  replace H : (if t198 = 0 then ((start_Request.f k t197).bind fun bt199 => ((start_Status.f t197).bind fun bt203 => (if bt199.2.2.2 = 0 then (if bt199.1.toList = a1.toList then (if bt199.2.1.toList = a2.toList then (if bt199.2.2.1 = a4 then (if bt203.2.2.2 = 5 then (if (t197.size : Int) > 512 then (some false) else ((text_Token.f a1).bind fun t207 => (if t207 = true then (tollhouselaw06_StartBack.j0 k a0 a3 a4 a5) else (some false)))) else (some false)) else (some false)) else (some false)) else (some false)) else (some false)))) else (if t198 = 1 then (if t197.toList = ([] : List UInt8) then (tollhouselaw06_StartBack.j0 k a0 a3 a4 a5) else (some false)) else (some false))) = some r := H
  have A7 := Aside0.mk A70
  clear A70
  have HC8 := Aside0.mk H
  clear H
  go_enter Tryd.func5, Tryd.ntmps5
  go_upto_if 48 with (first | ((with_reducible refine gate_callee (f := 9) rfl ?_); refine goesL_ (some 44) rfl rfl Tryd.func9 (by kernel_rfl) rfl #[.string a1, .string a2, .int .i64 a4] rfl (by (try simp only [List.map_toArray, List.map_cons, List.map_nil]); first | done | rfl | (simp only [List.length_drop, List.length_take]; rfl)) ?_; (with_reducible refine (start_PutRequest.calls a1 a2 a4 t197 t198 _ (Glob.below HGl.out (by repeat (first | (with_reducible first | exact HB.out | apply below_alloc | apply pw_below_drewN | apply below_drew1) | exact HB.out))) A7.out).mono ?_); rintro e w9 ⟨rfl, hb⟩; refine ⟨_, rfl, ?_⟩; have n0_ := Aside0.mk (below_step (by repeat (first | (with_reducible first | exact HB.out | apply below_alloc | apply pw_below_drewN | apply below_drew1) | exact HB.out)) hb); clear HB; have HB := n0_; clear n0_; (try clear hb); (try clear hb2); (try clear hk); (try clear hi)))
  (try simp only [Act.put, List.setIfInBounds_toArray, List.set_cons_zero, List.set_cons_succ])
  go_cut [] (fun wc => ∃ (kq : Nat), Aside0 (tollhouselaw06_StartBack.j0 kq a0 a3 a4 a5 = some r) ∧ Aside0 (kq ≤ k) ∧ Aside0 (Below w.heap.size w wc))
  case first =>
    as_aux_lemma =>
      have H := HC8.out
      clear HC8
      by_cases c10 : t198 = 0
      · rw [if_pos c10] at H
        have c10b0 : (t198 == 0) = true := beq_iff_eq.mpr c10
        have c10b1 : (t198 != 0) = false := bne_eq_false_iff_eq.mpr c10
        clear c10
        (first | rw [c10b0] | (simp only [i64_w, i32_w]; rw [c10b0]) | skip)
        replace H := Option.bind_eq_some_iff.mp H
        obtain ⟨⟨t199, t200, t201, t202⟩, A110, H⟩ := H
        replace H : ((start_Status.f t197).bind fun bt203 => (if t202 = 0 then (if t199.toList = a1.toList then (if t200.toList = a2.toList then (if t201 = a4 then (if bt203.2.2.2 = 5 then (if (t197.size : Int) > 512 then (some false) else ((text_Token.f a1).bind fun t207 => (if t207 = true then (tollhouselaw06_StartBack.j0 k a0 a3 a4 a5) else (some false)))) else (some false)) else (some false)) else (some false)) else (some false)) else (some false))) = some r := H
        have A11 := Aside0.mk A110
        clear A110
        replace H := Option.bind_eq_some_iff.mp H
        obtain ⟨⟨t203, t204, t205, t206⟩, A120, H⟩ := H
        replace H : (if t202 = 0 then (if t199.toList = a1.toList then (if t200.toList = a2.toList then (if t201 = a4 then (if t206 = 5 then (if (t197.size : Int) > 512 then (some false) else ((text_Token.f a1).bind fun t207 => (if t207 = true then (tollhouselaw06_StartBack.j0 k a0 a3 a4 a5) else (some false)))) else (some false)) else (some false)) else (some false)) else (some false)) else (some false)) = some r := H
        have A12 := Aside0.mk A120
        clear A120
        by_cases c13 : t202 = 0
        · rw [if_pos c13] at H
          have c13b0 : (t202 == 0) = true := beq_iff_eq.mpr c13
          have c13b1 : (t202 != 0) = false := bne_eq_false_iff_eq.mpr c13
          clear c13
          by_cases c14 : t199.toList = a1.toList
          · rw [if_pos c14] at H
            have c14b0 : (t199.toList == a1.toList) = true := beq_iff_eq.mpr c14
            have c14b1 : (t199.toList != a1.toList) = false := bne_eq_false_iff_eq.mpr c14
            clear c14
            by_cases c15 : t200.toList = a2.toList
            · rw [if_pos c15] at H
              have c15b0 : (t200.toList == a2.toList) = true := beq_iff_eq.mpr c15
              have c15b1 : (t200.toList != a2.toList) = false := bne_eq_false_iff_eq.mpr c15
              clear c15
              by_cases c16 : t201 = a4
              · rw [if_pos c16] at H
                have c16b0 : (t201 == a4) = true := beq_iff_eq.mpr c16
                have c16b1 : (t201 != a4) = false := bne_eq_false_iff_eq.mpr c16
                clear c16
                by_cases c17 : t206 = 5
                · rw [if_pos c17] at H
                  have c17b0 : (t206 == 5) = true := beq_iff_eq.mpr c17
                  have c17b1 : (t206 != 5) = false := bne_eq_false_iff_eq.mpr c17
                  clear c17
                  by_cases c18 : (t197.size : Int) > 512
                  · rw [if_pos c18] at H
                    have c18b0 : decide (512 < (t197.size : Int)) = true := decide_eq_true c18
                    have c18b1 : decide (512 < t197.size) = true := decide_eq_true (by omega)
                    clear c18
                    obtain rfl := Option.some.inj H
                    go_wp2_with (first | ((with_reducible refine gate_callee (f := 7) rfl ?_); refine goesL_ (some 51) rfl rfl Tryd.func7 (by kernel_rfl) rfl #[.string t197] rfl (by (try simp only [List.map_toArray, List.map_cons, List.map_nil]); first | done | rfl | (simp only [List.length_drop, List.length_take]; rfl)) ?_; (with_reducible refine (start_Request.calls k t197 t199 t200 t201 t202 _ (Glob.below HGl.out (by repeat (first | (with_reducible first | exact HB.out | apply below_alloc | apply pw_below_drewN | apply below_drew1) | exact HB.out))) A11.out).mono ?_); rintro e w19 ⟨rfl, hb⟩; refine ⟨_, rfl, ?_⟩; have n0_ := Aside0.mk (below_step (by repeat (first | (with_reducible first | exact HB.out | apply below_alloc | apply pw_below_drewN | apply below_drew1) | exact HB.out)) hb); clear HB; have HB := n0_; clear n0_; (try clear hb); (try clear hb2); (try clear hk); (try clear hi)) | ((with_reducible refine gate_callee (f := 12) rfl ?_); refine goesL_ (some 58) rfl rfl Tryd.func12 (by kernel_rfl) rfl #[.string t197] rfl (by (try simp only [List.map_toArray, List.map_cons, List.map_nil]); first | done | rfl | (simp only [List.length_drop, List.length_take]; rfl)) ?_; (with_reducible refine (start_Status.calls t197 t203 t204 t205 t206 _ (Glob.below HGl.out (by repeat (first | (with_reducible first | exact HB.out | apply below_alloc | apply pw_below_drewN | apply below_drew1) | exact HB.out))) A12.out).mono ?_); rintro e w20 ⟨rfl, hb⟩; refine ⟨_, rfl, ?_⟩; have n0_ := Aside0.mk (below_step (by repeat (first | (with_reducible first | exact HB.out | apply below_alloc | apply pw_below_drewN | apply below_drew1) | exact HB.out)) hb); clear HB; have HB := n0_; clear n0_; (try clear hb); (try clear hb2); (try clear hk); (try clear hi)))
                    go_ret
                    exact ⟨by first | rfl | (simp [errW_none, errW_some] <;> rfl) | (simp [*, errW_none, errW_some] <;> rfl), by repeat (first | (with_reducible first | exact HB.out | apply below_alloc | apply pw_below_drewN | apply below_drew1) | exact HB.out)⟩
                  · rw [if_neg c18] at H
                    have c18b0 : decide (512 < (t197.size : Int)) = false := decide_eq_false c18
                    have c18b1 : decide (512 < t197.size) = false := decide_eq_false (by omega)
                    clear c18
                    replace H := Option.bind_eq_some_iff.mp H
                    obtain ⟨t207, A210, H⟩ := H
                    replace H : (if t207 = true then (tollhouselaw06_StartBack.j0 k a0 a3 a4 a5) else (some false)) = some r := H
                    have A21 := Aside0.mk A210
                    clear A210
                    by_cases c22 : t207 = true
                    · subst c22
                      have H1 : (tollhouselaw06_StartBack.j0 k a0 a3 a4 a5) = some r := by rw [if_pos rfl] at H; exact H
                      clear H
                      have H := H1
                      clear H1
                      have H' := Aside0.mk H
                      clear H
                      go_wp2_with (first | ((with_reducible refine gate_callee (f := 7) rfl ?_); refine goesL_ (some 51) rfl rfl Tryd.func7 (by kernel_rfl) rfl #[.string t197] rfl (by (try simp only [List.map_toArray, List.map_cons, List.map_nil]); first | done | rfl | (simp only [List.length_drop, List.length_take]; rfl)) ?_; (with_reducible refine (start_Request.calls k t197 t199 t200 t201 t202 _ (Glob.below HGl.out (by repeat (first | (with_reducible first | exact HB.out | apply below_alloc | apply pw_below_drewN | apply below_drew1) | exact HB.out))) A11.out).mono ?_); rintro e w23 ⟨rfl, hb⟩; refine ⟨_, rfl, ?_⟩; have n0_ := Aside0.mk (below_step (by repeat (first | (with_reducible first | exact HB.out | apply below_alloc | apply pw_below_drewN | apply below_drew1) | exact HB.out)) hb); clear HB; have HB := n0_; clear n0_; (try clear hb); (try clear hb2); (try clear hk); (try clear hi)) | ((with_reducible refine gate_callee (f := 12) rfl ?_); refine goesL_ (some 58) rfl rfl Tryd.func12 (by kernel_rfl) rfl #[.string t197] rfl (by (try simp only [List.map_toArray, List.map_cons, List.map_nil]); first | done | rfl | (simp only [List.length_drop, List.length_take]; rfl)) ?_; (with_reducible refine (start_Status.calls t197 t203 t204 t205 t206 _ (Glob.below HGl.out (by repeat (first | (with_reducible first | exact HB.out | apply below_alloc | apply pw_below_drewN | apply below_drew1) | exact HB.out))) A12.out).mono ?_); rintro e w24 ⟨rfl, hb⟩; refine ⟨_, rfl, ?_⟩; have n0_ := Aside0.mk (below_step (by repeat (first | (with_reducible first | exact HB.out | apply below_alloc | apply pw_below_drewN | apply below_drew1) | exact HB.out)) hb); clear HB; have HB := n0_; clear n0_; (try clear hb); (try clear hb2); (try clear hk); (try clear hi)) | (go_at_call 18; (with_reducible refine (text_Token.calls a1 true _ (Glob.below HGl.out (by repeat (first | (with_reducible first | exact HB.out | apply below_alloc | apply pw_below_drewN | apply below_drew1) | exact HB.out))) A21.out).mono ?_); rintro e w25 ⟨rfl, hb⟩; have n0_ := Aside0.mk (below_step (by repeat (first | (with_reducible first | exact HB.out | apply below_alloc | apply pw_below_drewN | apply below_drew1) | exact HB.out)) hb); clear HB; have HB := n0_; clear n0_; (try clear hb); (try clear hb2); (try clear hk); (try clear hi)))
                      go_meet
                      case rel => exact ⟨_, H', ⟨by first | omega | exact Nat.le_refl _⟩, ⟨by repeat (first | (with_reducible first | exact HB.out | apply below_alloc | apply pw_below_drewN | apply below_drew1) | exact HB.out)⟩⟩
                    · replace c22 := Bool.eq_false_iff.mpr c22
                      subst c22
                      have H1 : (some false) = some r := by rw [if_neg (show ¬ (false = true) by decide)] at H; exact H
                      clear H
                      have H := H1
                      clear H1
                      obtain rfl := Option.some.inj H
                      go_wp2_with (first | ((with_reducible refine gate_callee (f := 7) rfl ?_); refine goesL_ (some 51) rfl rfl Tryd.func7 (by kernel_rfl) rfl #[.string t197] rfl (by (try simp only [List.map_toArray, List.map_cons, List.map_nil]); first | done | rfl | (simp only [List.length_drop, List.length_take]; rfl)) ?_; (with_reducible refine (start_Request.calls k t197 t199 t200 t201 t202 _ (Glob.below HGl.out (by repeat (first | (with_reducible first | exact HB.out | apply below_alloc | apply pw_below_drewN | apply below_drew1) | exact HB.out))) A11.out).mono ?_); rintro e w26 ⟨rfl, hb⟩; refine ⟨_, rfl, ?_⟩; have n0_ := Aside0.mk (below_step (by repeat (first | (with_reducible first | exact HB.out | apply below_alloc | apply pw_below_drewN | apply below_drew1) | exact HB.out)) hb); clear HB; have HB := n0_; clear n0_; (try clear hb); (try clear hb2); (try clear hk); (try clear hi)) | ((with_reducible refine gate_callee (f := 12) rfl ?_); refine goesL_ (some 58) rfl rfl Tryd.func12 (by kernel_rfl) rfl #[.string t197] rfl (by (try simp only [List.map_toArray, List.map_cons, List.map_nil]); first | done | rfl | (simp only [List.length_drop, List.length_take]; rfl)) ?_; (with_reducible refine (start_Status.calls t197 t203 t204 t205 t206 _ (Glob.below HGl.out (by repeat (first | (with_reducible first | exact HB.out | apply below_alloc | apply pw_below_drewN | apply below_drew1) | exact HB.out))) A12.out).mono ?_); rintro e w27 ⟨rfl, hb⟩; refine ⟨_, rfl, ?_⟩; have n0_ := Aside0.mk (below_step (by repeat (first | (with_reducible first | exact HB.out | apply below_alloc | apply pw_below_drewN | apply below_drew1) | exact HB.out)) hb); clear HB; have HB := n0_; clear n0_; (try clear hb); (try clear hb2); (try clear hk); (try clear hi)) | (go_at_call 18; (with_reducible refine (text_Token.calls a1 false _ (Glob.below HGl.out (by repeat (first | (with_reducible first | exact HB.out | apply below_alloc | apply pw_below_drewN | apply below_drew1) | exact HB.out))) A21.out).mono ?_); rintro e w28 ⟨rfl, hb⟩; have n0_ := Aside0.mk (below_step (by repeat (first | (with_reducible first | exact HB.out | apply below_alloc | apply pw_below_drewN | apply below_drew1) | exact HB.out)) hb); clear HB; have HB := n0_; clear n0_; (try clear hb); (try clear hb2); (try clear hk); (try clear hi)))
                      go_ret
                      exact ⟨by first | rfl | (simp [errW_none, errW_some] <;> rfl) | (simp [*, errW_none, errW_some] <;> rfl), by repeat (first | (with_reducible first | exact HB.out | apply below_alloc | apply pw_below_drewN | apply below_drew1) | exact HB.out)⟩
                · rw [if_neg c17] at H
                  have c17b0 : (t206 == 5) = false := beq_eq_false_iff_ne.mpr c17
                  have c17b1 : (t206 != 5) = true := bne_iff_ne.mpr c17
                  obtain rfl := Option.some.inj H
                  go_wp2_with (first | ((with_reducible refine gate_callee (f := 7) rfl ?_); refine goesL_ (some 51) rfl rfl Tryd.func7 (by kernel_rfl) rfl #[.string t197] rfl (by (try simp only [List.map_toArray, List.map_cons, List.map_nil]); first | done | rfl | (simp only [List.length_drop, List.length_take]; rfl)) ?_; (with_reducible refine (start_Request.calls k t197 t199 t200 t201 t202 _ (Glob.below HGl.out (by repeat (first | (with_reducible first | exact HB.out | apply below_alloc | apply pw_below_drewN | apply below_drew1) | exact HB.out))) A11.out).mono ?_); rintro e w29 ⟨rfl, hb⟩; refine ⟨_, rfl, ?_⟩; have n0_ := Aside0.mk (below_step (by repeat (first | (with_reducible first | exact HB.out | apply below_alloc | apply pw_below_drewN | apply below_drew1) | exact HB.out)) hb); clear HB; have HB := n0_; clear n0_; (try clear hb); (try clear hb2); (try clear hk); (try clear hi)) | ((with_reducible refine gate_callee (f := 12) rfl ?_); refine goesL_ (some 58) rfl rfl Tryd.func12 (by kernel_rfl) rfl #[.string t197] rfl (by (try simp only [List.map_toArray, List.map_cons, List.map_nil]); first | done | rfl | (simp only [List.length_drop, List.length_take]; rfl)) ?_; (with_reducible refine (start_Status.calls t197 t203 t204 t205 t206 _ (Glob.below HGl.out (by repeat (first | (with_reducible first | exact HB.out | apply below_alloc | apply pw_below_drewN | apply below_drew1) | exact HB.out))) A12.out).mono ?_); rintro e w30 ⟨rfl, hb⟩; refine ⟨_, rfl, ?_⟩; have n0_ := Aside0.mk (below_step (by repeat (first | (with_reducible first | exact HB.out | apply below_alloc | apply pw_below_drewN | apply below_drew1) | exact HB.out)) hb); clear HB; have HB := n0_; clear n0_; (try clear hb); (try clear hb2); (try clear hk); (try clear hi)))
                  go_ret
                  exact ⟨by first | rfl | (simp [errW_none, errW_some] <;> rfl) | (simp [*, errW_none, errW_some] <;> rfl), by repeat (first | (with_reducible first | exact HB.out | apply below_alloc | apply pw_below_drewN | apply below_drew1) | exact HB.out)⟩
              · rw [if_neg c16] at H
                have c16b0 : (t201 == a4) = false := beq_eq_false_iff_ne.mpr c16
                have c16b1 : (t201 != a4) = true := bne_iff_ne.mpr c16
                obtain rfl := Option.some.inj H
                go_wp2_with (first | ((with_reducible refine gate_callee (f := 7) rfl ?_); refine goesL_ (some 51) rfl rfl Tryd.func7 (by kernel_rfl) rfl #[.string t197] rfl (by (try simp only [List.map_toArray, List.map_cons, List.map_nil]); first | done | rfl | (simp only [List.length_drop, List.length_take]; rfl)) ?_; (with_reducible refine (start_Request.calls k t197 t199 t200 t201 t202 _ (Glob.below HGl.out (by repeat (first | (with_reducible first | exact HB.out | apply below_alloc | apply pw_below_drewN | apply below_drew1) | exact HB.out))) A11.out).mono ?_); rintro e w31 ⟨rfl, hb⟩; refine ⟨_, rfl, ?_⟩; have n0_ := Aside0.mk (below_step (by repeat (first | (with_reducible first | exact HB.out | apply below_alloc | apply pw_below_drewN | apply below_drew1) | exact HB.out)) hb); clear HB; have HB := n0_; clear n0_; (try clear hb); (try clear hb2); (try clear hk); (try clear hi)) | ((with_reducible refine gate_callee (f := 12) rfl ?_); refine goesL_ (some 58) rfl rfl Tryd.func12 (by kernel_rfl) rfl #[.string t197] rfl (by (try simp only [List.map_toArray, List.map_cons, List.map_nil]); first | done | rfl | (simp only [List.length_drop, List.length_take]; rfl)) ?_; (with_reducible refine (start_Status.calls t197 t203 t204 t205 t206 _ (Glob.below HGl.out (by repeat (first | (with_reducible first | exact HB.out | apply below_alloc | apply pw_below_drewN | apply below_drew1) | exact HB.out))) A12.out).mono ?_); rintro e w32 ⟨rfl, hb⟩; refine ⟨_, rfl, ?_⟩; have n0_ := Aside0.mk (below_step (by repeat (first | (with_reducible first | exact HB.out | apply below_alloc | apply pw_below_drewN | apply below_drew1) | exact HB.out)) hb); clear HB; have HB := n0_; clear n0_; (try clear hb); (try clear hb2); (try clear hk); (try clear hi)))
                go_ret
                exact ⟨by first | rfl | (simp [errW_none, errW_some] <;> rfl) | (simp [*, errW_none, errW_some] <;> rfl), by repeat (first | (with_reducible first | exact HB.out | apply below_alloc | apply pw_below_drewN | apply below_drew1) | exact HB.out)⟩
            · rw [if_neg c15] at H
              have c15b0 : (t200.toList == a2.toList) = false := beq_eq_false_iff_ne.mpr c15
              have c15b1 : (t200.toList != a2.toList) = true := bne_iff_ne.mpr c15
              obtain rfl := Option.some.inj H
              go_wp2_with (first | ((with_reducible refine gate_callee (f := 7) rfl ?_); refine goesL_ (some 51) rfl rfl Tryd.func7 (by kernel_rfl) rfl #[.string t197] rfl (by (try simp only [List.map_toArray, List.map_cons, List.map_nil]); first | done | rfl | (simp only [List.length_drop, List.length_take]; rfl)) ?_; (with_reducible refine (start_Request.calls k t197 t199 t200 t201 t202 _ (Glob.below HGl.out (by repeat (first | (with_reducible first | exact HB.out | apply below_alloc | apply pw_below_drewN | apply below_drew1) | exact HB.out))) A11.out).mono ?_); rintro e w33 ⟨rfl, hb⟩; refine ⟨_, rfl, ?_⟩; have n0_ := Aside0.mk (below_step (by repeat (first | (with_reducible first | exact HB.out | apply below_alloc | apply pw_below_drewN | apply below_drew1) | exact HB.out)) hb); clear HB; have HB := n0_; clear n0_; (try clear hb); (try clear hb2); (try clear hk); (try clear hi)) | ((with_reducible refine gate_callee (f := 12) rfl ?_); refine goesL_ (some 58) rfl rfl Tryd.func12 (by kernel_rfl) rfl #[.string t197] rfl (by (try simp only [List.map_toArray, List.map_cons, List.map_nil]); first | done | rfl | (simp only [List.length_drop, List.length_take]; rfl)) ?_; (with_reducible refine (start_Status.calls t197 t203 t204 t205 t206 _ (Glob.below HGl.out (by repeat (first | (with_reducible first | exact HB.out | apply below_alloc | apply pw_below_drewN | apply below_drew1) | exact HB.out))) A12.out).mono ?_); rintro e w34 ⟨rfl, hb⟩; refine ⟨_, rfl, ?_⟩; have n0_ := Aside0.mk (below_step (by repeat (first | (with_reducible first | exact HB.out | apply below_alloc | apply pw_below_drewN | apply below_drew1) | exact HB.out)) hb); clear HB; have HB := n0_; clear n0_; (try clear hb); (try clear hb2); (try clear hk); (try clear hi)))
              go_ret
              exact ⟨by first | rfl | (simp [errW_none, errW_some] <;> rfl) | (simp [*, errW_none, errW_some] <;> rfl), by repeat (first | (with_reducible first | exact HB.out | apply below_alloc | apply pw_below_drewN | apply below_drew1) | exact HB.out)⟩
          · rw [if_neg c14] at H
            have c14b0 : (t199.toList == a1.toList) = false := beq_eq_false_iff_ne.mpr c14
            have c14b1 : (t199.toList != a1.toList) = true := bne_iff_ne.mpr c14
            obtain rfl := Option.some.inj H
            go_wp2_with (first | ((with_reducible refine gate_callee (f := 7) rfl ?_); refine goesL_ (some 51) rfl rfl Tryd.func7 (by kernel_rfl) rfl #[.string t197] rfl (by (try simp only [List.map_toArray, List.map_cons, List.map_nil]); first | done | rfl | (simp only [List.length_drop, List.length_take]; rfl)) ?_; (with_reducible refine (start_Request.calls k t197 t199 t200 t201 t202 _ (Glob.below HGl.out (by repeat (first | (with_reducible first | exact HB.out | apply below_alloc | apply pw_below_drewN | apply below_drew1) | exact HB.out))) A11.out).mono ?_); rintro e w35 ⟨rfl, hb⟩; refine ⟨_, rfl, ?_⟩; have n0_ := Aside0.mk (below_step (by repeat (first | (with_reducible first | exact HB.out | apply below_alloc | apply pw_below_drewN | apply below_drew1) | exact HB.out)) hb); clear HB; have HB := n0_; clear n0_; (try clear hb); (try clear hb2); (try clear hk); (try clear hi)) | ((with_reducible refine gate_callee (f := 12) rfl ?_); refine goesL_ (some 58) rfl rfl Tryd.func12 (by kernel_rfl) rfl #[.string t197] rfl (by (try simp only [List.map_toArray, List.map_cons, List.map_nil]); first | done | rfl | (simp only [List.length_drop, List.length_take]; rfl)) ?_; (with_reducible refine (start_Status.calls t197 t203 t204 t205 t206 _ (Glob.below HGl.out (by repeat (first | (with_reducible first | exact HB.out | apply below_alloc | apply pw_below_drewN | apply below_drew1) | exact HB.out))) A12.out).mono ?_); rintro e w36 ⟨rfl, hb⟩; refine ⟨_, rfl, ?_⟩; have n0_ := Aside0.mk (below_step (by repeat (first | (with_reducible first | exact HB.out | apply below_alloc | apply pw_below_drewN | apply below_drew1) | exact HB.out)) hb); clear HB; have HB := n0_; clear n0_; (try clear hb); (try clear hb2); (try clear hk); (try clear hi)))
            go_ret
            exact ⟨by first | rfl | (simp [errW_none, errW_some] <;> rfl) | (simp [*, errW_none, errW_some] <;> rfl), by repeat (first | (with_reducible first | exact HB.out | apply below_alloc | apply pw_below_drewN | apply below_drew1) | exact HB.out)⟩
        · rw [if_neg c13] at H
          have c13b0 : (t202 == 0) = false := beq_eq_false_iff_ne.mpr c13
          have c13b1 : (t202 != 0) = true := bne_iff_ne.mpr c13
          obtain rfl := Option.some.inj H
          go_wp2_with (first | ((with_reducible refine gate_callee (f := 7) rfl ?_); refine goesL_ (some 51) rfl rfl Tryd.func7 (by kernel_rfl) rfl #[.string t197] rfl (by (try simp only [List.map_toArray, List.map_cons, List.map_nil]); first | done | rfl | (simp only [List.length_drop, List.length_take]; rfl)) ?_; (with_reducible refine (start_Request.calls k t197 t199 t200 t201 t202 _ (Glob.below HGl.out (by repeat (first | (with_reducible first | exact HB.out | apply below_alloc | apply pw_below_drewN | apply below_drew1) | exact HB.out))) A11.out).mono ?_); rintro e w37 ⟨rfl, hb⟩; refine ⟨_, rfl, ?_⟩; have n0_ := Aside0.mk (below_step (by repeat (first | (with_reducible first | exact HB.out | apply below_alloc | apply pw_below_drewN | apply below_drew1) | exact HB.out)) hb); clear HB; have HB := n0_; clear n0_; (try clear hb); (try clear hb2); (try clear hk); (try clear hi)) | ((with_reducible refine gate_callee (f := 12) rfl ?_); refine goesL_ (some 58) rfl rfl Tryd.func12 (by kernel_rfl) rfl #[.string t197] rfl (by (try simp only [List.map_toArray, List.map_cons, List.map_nil]); first | done | rfl | (simp only [List.length_drop, List.length_take]; rfl)) ?_; (with_reducible refine (start_Status.calls t197 t203 t204 t205 t206 _ (Glob.below HGl.out (by repeat (first | (with_reducible first | exact HB.out | apply below_alloc | apply pw_below_drewN | apply below_drew1) | exact HB.out))) A12.out).mono ?_); rintro e w38 ⟨rfl, hb⟩; refine ⟨_, rfl, ?_⟩; have n0_ := Aside0.mk (below_step (by repeat (first | (with_reducible first | exact HB.out | apply below_alloc | apply pw_below_drewN | apply below_drew1) | exact HB.out)) hb); clear HB; have HB := n0_; clear n0_; (try clear hb); (try clear hb2); (try clear hk); (try clear hi)))
          go_ret
          exact ⟨by first | rfl | (simp [errW_none, errW_some] <;> rfl) | (simp [*, errW_none, errW_some] <;> rfl), by repeat (first | (with_reducible first | exact HB.out | apply below_alloc | apply pw_below_drewN | apply below_drew1) | exact HB.out)⟩
      · rw [if_neg c10] at H
        have c10b0 : (t198 == 0) = false := beq_eq_false_iff_ne.mpr c10
        have c10b1 : (t198 != 0) = true := bne_iff_ne.mpr c10
        (first | rw [c10b0] | (simp only [i64_w, i32_w]; rw [c10b0]) | skip)
        by_cases c39 : t198 = 1
        · rw [if_pos c39] at H
          have c39b0 : (t198 == 1) = true := beq_iff_eq.mpr c39
          have c39b1 : (t198 != 1) = false := bne_eq_false_iff_eq.mpr c39
          clear c39
          by_cases c40 : t197.toList = ([] : List UInt8)
          · rw [if_pos c40] at H
            have c40b0 : (t197.toList == ([] : List UInt8)) = true := beq_iff_eq.mpr c40
            have c40b1 : (t197.toList != ([] : List UInt8)) = false := bne_eq_false_iff_eq.mpr c40
            clear c40
            have H' := Aside0.mk H
            clear H
            go_wp2
            go_meet
            case rel => exact ⟨_, H', ⟨by first | omega | exact Nat.le_refl _⟩, ⟨by repeat (first | (with_reducible first | exact HB.out | apply below_alloc | apply pw_below_drewN | apply below_drew1) | exact HB.out)⟩⟩
          · rw [if_neg c40] at H
            have c40b0 : (t197.toList == ([] : List UInt8)) = false := beq_eq_false_iff_ne.mpr c40
            have c40b1 : (t197.toList != ([] : List UInt8)) = true := bne_iff_ne.mpr c40
            obtain rfl := Option.some.inj H
            go_wp2
            go_ret
            exact ⟨by first | rfl | (simp [errW_none, errW_some] <;> rfl) | (simp [*, errW_none, errW_some] <;> rfl), by repeat (first | (with_reducible first | exact HB.out | apply below_alloc | apply pw_below_drewN | apply below_drew1) | exact HB.out)⟩
        · rw [if_neg c39] at H
          have c39b0 : (t198 == 1) = false := beq_eq_false_iff_ne.mpr c39
          have c39b1 : (t198 != 1) = true := bne_iff_ne.mpr c39
          obtain rfl := Option.some.inj H
          go_wp2
          go_ret
          exact ⟨by first | rfl | (simp [errW_none, errW_some] <;> rfl) | (simp [*, errW_none, errW_some] <;> rfl), by repeat (first | (with_reducible first | exact HB.out | apply below_alloc | apply pw_below_drewN | apply below_drew1) | exact HB.out)⟩
  case rest =>
    as_aux_lemma =>
      clear HC8
      try clear c1
      try clear c2
      try clear p2
      try clear c3
      try clear c4
      try clear c5
      try clear c7
      try clear c9
      try clear c10
      try clear c10b0
      try clear c10b1
      try clear c12
      try clear c13
      try clear c13b0
      try clear c13b1
      try clear c14
      try clear c14b0
      try clear c14b1
      try clear c15
      try clear c15b0
      try clear c15b1
      try clear c16
      try clear c16b0
      try clear c16b1
      try clear c17
      try clear c17b0
      try clear c17b1
      try clear c18
      try clear c18b0
      try clear c18b1
      try clear c22
      try clear c39
      try clear c39b0
      try clear c39b1
      try clear c40
      try clear c40b0
      try clear c40b1
      obtain ⟨kq, HA, HJ7, HB⟩ := hcut
      cases kq with
      | zero => exact absurd HA.out (by simp [tollhouselaw06_StartBack.j0])
      | succ kj7 =>
        have H := HA.out
        clear HA
        simp only [tollhouselaw06_StartBack.j0] at H
        replace H := Option.bind_eq_some_iff.mp H
        obtain ⟨⟨t208, t209⟩, A410, H⟩ := H
        replace H : (if t209 = 0 then ((start_Status.f t208).bind fun bt210 => (if bt210.2.2.2 = 0 then (if bt210.1 = a4 then (if bt210.2.1 = a5 then (if bt210.2.2.1.toList = a3.toList then (if (t208.size : Int) > 512 then (some false) else ((text_Visible.f a3).bind fun t214 => (if t214 = true then (tollhouselaw06_StartBack.j1 kj7 a0) else (some false)))) else (some false)) else (some false)) else (some false)) else (some false))) else (if t209 = 1 then (if t208.toList = ([] : List UInt8) then (tollhouselaw06_StartBack.j1 kj7 a0) else (some false)) else (some false))) = some r := H
        have A41 := Aside0.mk A410
        clear A410
        have HC42 := Aside0.mk H
        clear H
        go_upto_if 108 with (first | ((with_reducible refine gate_callee (f := 14) rfl ?_); refine goesL_ (some 104) rfl rfl Tryd.func14 (by kernel_rfl) rfl #[.int .i64 a4, .int .i64 a5, .string a3] rfl (by (try simp only [List.map_toArray, List.map_cons, List.map_nil]); first | done | rfl | (simp only [List.length_drop, List.length_take]; rfl)) ?_; (with_reducible refine (start_PutStatus.calls a4 a5 a3 t208 t209 _ (Glob.below HGl.out (by repeat (first | (with_reducible first | exact HB.out | apply below_alloc | apply pw_below_drewN | apply below_drew1) | exact HB.out))) A41.out).mono ?_); rintro e w43 ⟨rfl, hb⟩; refine ⟨_, rfl, ?_⟩; have n0_ := Aside0.mk (below_step (by repeat (first | (with_reducible first | exact HB.out | apply below_alloc | apply pw_below_drewN | apply below_drew1) | exact HB.out)) hb); clear HB; have HB := n0_; clear n0_; (try clear hb); (try clear hb2); (try clear hk); (try clear hi)))
        (try simp only [Act.put, List.setIfInBounds_toArray, List.set_cons_zero, List.set_cons_succ])
        go_cut [] (fun wc => ∃ (kq : Nat), Aside0 (tollhouselaw06_StartBack.j1 kq a0 = some r) ∧ Aside0 (kq ≤ kj7) ∧ Aside0 (Below w.heap.size w wc))
        case first =>
          as_aux_lemma =>
            have H := HC42.out
            clear HC42
            by_cases c44 : t209 = 0
            · rw [if_pos c44] at H
              have c44b0 : (t209 == 0) = true := beq_iff_eq.mpr c44
              have c44b1 : (t209 != 0) = false := bne_eq_false_iff_eq.mpr c44
              clear c44
              (first | rw [c44b0] | (simp only [i64_w, i32_w]; rw [c44b0]) | skip)
              replace H := Option.bind_eq_some_iff.mp H
              obtain ⟨⟨t210, t211, t212, t213⟩, A450, H⟩ := H
              replace H : (if t213 = 0 then (if t210 = a4 then (if t211 = a5 then (if t212.toList = a3.toList then (if (t208.size : Int) > 512 then (some false) else ((text_Visible.f a3).bind fun t214 => (if t214 = true then (tollhouselaw06_StartBack.j1 kj7 a0) else (some false)))) else (some false)) else (some false)) else (some false)) else (some false)) = some r := H
              have A45 := Aside0.mk A450
              clear A450
              by_cases c46 : t213 = 0
              · rw [if_pos c46] at H
                have c46b0 : (t213 == 0) = true := beq_iff_eq.mpr c46
                have c46b1 : (t213 != 0) = false := bne_eq_false_iff_eq.mpr c46
                clear c46
                by_cases c47 : t210 = a4
                · rw [if_pos c47] at H
                  have c47b0 : (t210 == a4) = true := beq_iff_eq.mpr c47
                  have c47b1 : (t210 != a4) = false := bne_eq_false_iff_eq.mpr c47
                  clear c47
                  by_cases c48 : t211 = a5
                  · rw [if_pos c48] at H
                    have c48b0 : (t211 == a5) = true := beq_iff_eq.mpr c48
                    have c48b1 : (t211 != a5) = false := bne_eq_false_iff_eq.mpr c48
                    clear c48
                    by_cases c49 : t212.toList = a3.toList
                    · rw [if_pos c49] at H
                      have c49b0 : (t212.toList == a3.toList) = true := beq_iff_eq.mpr c49
                      have c49b1 : (t212.toList != a3.toList) = false := bne_eq_false_iff_eq.mpr c49
                      clear c49
                      by_cases c50 : (t208.size : Int) > 512
                      · rw [if_pos c50] at H
                        have c50b0 : decide (512 < (t208.size : Int)) = true := decide_eq_true c50
                        have c50b1 : decide (512 < t208.size) = true := decide_eq_true (by omega)
                        clear c50
                        obtain rfl := Option.some.inj H
                        go_wp2_with (first | ((with_reducible refine gate_callee (f := 12) rfl ?_); refine goesL_ (some 111) rfl rfl Tryd.func12 (by kernel_rfl) rfl #[.string t208] rfl (by (try simp only [List.map_toArray, List.map_cons, List.map_nil]); first | done | rfl | (simp only [List.length_drop, List.length_take]; rfl)) ?_; (with_reducible refine (start_Status.calls t208 t210 t211 t212 t213 _ (Glob.below HGl.out (by repeat (first | (with_reducible first | exact HB.out | apply below_alloc | apply pw_below_drewN | apply below_drew1) | exact HB.out))) A45.out).mono ?_); rintro e w51 ⟨rfl, hb⟩; refine ⟨_, rfl, ?_⟩; have n0_ := Aside0.mk (below_step (by repeat (first | (with_reducible first | exact HB.out | apply below_alloc | apply pw_below_drewN | apply below_drew1) | exact HB.out)) hb); clear HB; have HB := n0_; clear n0_; (try clear hb); (try clear hb2); (try clear hk); (try clear hi)))
                        go_ret
                        exact ⟨by first | rfl | (simp [errW_none, errW_some] <;> rfl) | (simp [*, errW_none, errW_some] <;> rfl), by repeat (first | (with_reducible first | exact HB.out | apply below_alloc | apply pw_below_drewN | apply below_drew1) | exact HB.out)⟩
                      · rw [if_neg c50] at H
                        have c50b0 : decide (512 < (t208.size : Int)) = false := decide_eq_false c50
                        have c50b1 : decide (512 < t208.size) = false := decide_eq_false (by omega)
                        clear c50
                        replace H := Option.bind_eq_some_iff.mp H
                        obtain ⟨t214, A520, H⟩ := H
                        replace H : (if t214 = true then (tollhouselaw06_StartBack.j1 kj7 a0) else (some false)) = some r := H
                        have A52 := Aside0.mk A520
                        clear A520
                        by_cases c53 : t214 = true
                        · subst c53
                          have H1 : (tollhouselaw06_StartBack.j1 kj7 a0) = some r := by rw [if_pos rfl] at H; exact H
                          clear H
                          have H := H1
                          clear H1
                          have H' := Aside0.mk H
                          clear H
                          go_wp2_with (first | ((with_reducible refine gate_callee (f := 12) rfl ?_); refine goesL_ (some 111) rfl rfl Tryd.func12 (by kernel_rfl) rfl #[.string t208] rfl (by (try simp only [List.map_toArray, List.map_cons, List.map_nil]); first | done | rfl | (simp only [List.length_drop, List.length_take]; rfl)) ?_; (with_reducible refine (start_Status.calls t208 t210 t211 t212 t213 _ (Glob.below HGl.out (by repeat (first | (with_reducible first | exact HB.out | apply below_alloc | apply pw_below_drewN | apply below_drew1) | exact HB.out))) A45.out).mono ?_); rintro e w54 ⟨rfl, hb⟩; refine ⟨_, rfl, ?_⟩; have n0_ := Aside0.mk (below_step (by repeat (first | (with_reducible first | exact HB.out | apply below_alloc | apply pw_below_drewN | apply below_drew1) | exact HB.out)) hb); clear HB; have HB := n0_; clear n0_; (try clear hb); (try clear hb2); (try clear hk); (try clear hi)) | (go_at_call 19; (with_reducible refine (text_Visible.calls a3 true _ (Glob.below HGl.out (by repeat (first | (with_reducible first | exact HB.out | apply below_alloc | apply pw_below_drewN | apply below_drew1) | exact HB.out))) A52.out).mono ?_); rintro e w55 ⟨rfl, hb⟩; have n0_ := Aside0.mk (below_step (by repeat (first | (with_reducible first | exact HB.out | apply below_alloc | apply pw_below_drewN | apply below_drew1) | exact HB.out)) hb); clear HB; have HB := n0_; clear n0_; (try clear hb); (try clear hb2); (try clear hk); (try clear hi)))
                          go_meet
                          case rel => exact ⟨_, H', ⟨by have := HJ7.out; first | omega | exact Nat.le_refl _⟩, ⟨by repeat (first | (with_reducible first | exact HB.out | apply below_alloc | apply pw_below_drewN | apply below_drew1) | exact HB.out)⟩⟩
                        · replace c53 := Bool.eq_false_iff.mpr c53
                          subst c53
                          have H1 : (some false) = some r := by rw [if_neg (show ¬ (false = true) by decide)] at H; exact H
                          clear H
                          have H := H1
                          clear H1
                          obtain rfl := Option.some.inj H
                          go_wp2_with (first | ((with_reducible refine gate_callee (f := 12) rfl ?_); refine goesL_ (some 111) rfl rfl Tryd.func12 (by kernel_rfl) rfl #[.string t208] rfl (by (try simp only [List.map_toArray, List.map_cons, List.map_nil]); first | done | rfl | (simp only [List.length_drop, List.length_take]; rfl)) ?_; (with_reducible refine (start_Status.calls t208 t210 t211 t212 t213 _ (Glob.below HGl.out (by repeat (first | (with_reducible first | exact HB.out | apply below_alloc | apply pw_below_drewN | apply below_drew1) | exact HB.out))) A45.out).mono ?_); rintro e w56 ⟨rfl, hb⟩; refine ⟨_, rfl, ?_⟩; have n0_ := Aside0.mk (below_step (by repeat (first | (with_reducible first | exact HB.out | apply below_alloc | apply pw_below_drewN | apply below_drew1) | exact HB.out)) hb); clear HB; have HB := n0_; clear n0_; (try clear hb); (try clear hb2); (try clear hk); (try clear hi)) | (go_at_call 19; (with_reducible refine (text_Visible.calls a3 false _ (Glob.below HGl.out (by repeat (first | (with_reducible first | exact HB.out | apply below_alloc | apply pw_below_drewN | apply below_drew1) | exact HB.out))) A52.out).mono ?_); rintro e w57 ⟨rfl, hb⟩; have n0_ := Aside0.mk (below_step (by repeat (first | (with_reducible first | exact HB.out | apply below_alloc | apply pw_below_drewN | apply below_drew1) | exact HB.out)) hb); clear HB; have HB := n0_; clear n0_; (try clear hb); (try clear hb2); (try clear hk); (try clear hi)))
                          go_ret
                          exact ⟨by first | rfl | (simp [errW_none, errW_some] <;> rfl) | (simp [*, errW_none, errW_some] <;> rfl), by repeat (first | (with_reducible first | exact HB.out | apply below_alloc | apply pw_below_drewN | apply below_drew1) | exact HB.out)⟩
                    · rw [if_neg c49] at H
                      have c49b0 : (t212.toList == a3.toList) = false := beq_eq_false_iff_ne.mpr c49
                      have c49b1 : (t212.toList != a3.toList) = true := bne_iff_ne.mpr c49
                      obtain rfl := Option.some.inj H
                      go_wp2_with (first | ((with_reducible refine gate_callee (f := 12) rfl ?_); refine goesL_ (some 111) rfl rfl Tryd.func12 (by kernel_rfl) rfl #[.string t208] rfl (by (try simp only [List.map_toArray, List.map_cons, List.map_nil]); first | done | rfl | (simp only [List.length_drop, List.length_take]; rfl)) ?_; (with_reducible refine (start_Status.calls t208 t210 t211 t212 t213 _ (Glob.below HGl.out (by repeat (first | (with_reducible first | exact HB.out | apply below_alloc | apply pw_below_drewN | apply below_drew1) | exact HB.out))) A45.out).mono ?_); rintro e w58 ⟨rfl, hb⟩; refine ⟨_, rfl, ?_⟩; have n0_ := Aside0.mk (below_step (by repeat (first | (with_reducible first | exact HB.out | apply below_alloc | apply pw_below_drewN | apply below_drew1) | exact HB.out)) hb); clear HB; have HB := n0_; clear n0_; (try clear hb); (try clear hb2); (try clear hk); (try clear hi)))
                      go_ret
                      exact ⟨by first | rfl | (simp [errW_none, errW_some] <;> rfl) | (simp [*, errW_none, errW_some] <;> rfl), by repeat (first | (with_reducible first | exact HB.out | apply below_alloc | apply pw_below_drewN | apply below_drew1) | exact HB.out)⟩
                  · rw [if_neg c48] at H
                    have c48b0 : (t211 == a5) = false := beq_eq_false_iff_ne.mpr c48
                    have c48b1 : (t211 != a5) = true := bne_iff_ne.mpr c48
                    obtain rfl := Option.some.inj H
                    go_wp2_with (first | ((with_reducible refine gate_callee (f := 12) rfl ?_); refine goesL_ (some 111) rfl rfl Tryd.func12 (by kernel_rfl) rfl #[.string t208] rfl (by (try simp only [List.map_toArray, List.map_cons, List.map_nil]); first | done | rfl | (simp only [List.length_drop, List.length_take]; rfl)) ?_; (with_reducible refine (start_Status.calls t208 t210 t211 t212 t213 _ (Glob.below HGl.out (by repeat (first | (with_reducible first | exact HB.out | apply below_alloc | apply pw_below_drewN | apply below_drew1) | exact HB.out))) A45.out).mono ?_); rintro e w59 ⟨rfl, hb⟩; refine ⟨_, rfl, ?_⟩; have n0_ := Aside0.mk (below_step (by repeat (first | (with_reducible first | exact HB.out | apply below_alloc | apply pw_below_drewN | apply below_drew1) | exact HB.out)) hb); clear HB; have HB := n0_; clear n0_; (try clear hb); (try clear hb2); (try clear hk); (try clear hi)))
                    go_ret
                    exact ⟨by first | rfl | (simp [errW_none, errW_some] <;> rfl) | (simp [*, errW_none, errW_some] <;> rfl), by repeat (first | (with_reducible first | exact HB.out | apply below_alloc | apply pw_below_drewN | apply below_drew1) | exact HB.out)⟩
                · rw [if_neg c47] at H
                  have c47b0 : (t210 == a4) = false := beq_eq_false_iff_ne.mpr c47
                  have c47b1 : (t210 != a4) = true := bne_iff_ne.mpr c47
                  obtain rfl := Option.some.inj H
                  go_wp2_with (first | ((with_reducible refine gate_callee (f := 12) rfl ?_); refine goesL_ (some 111) rfl rfl Tryd.func12 (by kernel_rfl) rfl #[.string t208] rfl (by (try simp only [List.map_toArray, List.map_cons, List.map_nil]); first | done | rfl | (simp only [List.length_drop, List.length_take]; rfl)) ?_; (with_reducible refine (start_Status.calls t208 t210 t211 t212 t213 _ (Glob.below HGl.out (by repeat (first | (with_reducible first | exact HB.out | apply below_alloc | apply pw_below_drewN | apply below_drew1) | exact HB.out))) A45.out).mono ?_); rintro e w60 ⟨rfl, hb⟩; refine ⟨_, rfl, ?_⟩; have n0_ := Aside0.mk (below_step (by repeat (first | (with_reducible first | exact HB.out | apply below_alloc | apply pw_below_drewN | apply below_drew1) | exact HB.out)) hb); clear HB; have HB := n0_; clear n0_; (try clear hb); (try clear hb2); (try clear hk); (try clear hi)))
                  go_ret
                  exact ⟨by first | rfl | (simp [errW_none, errW_some] <;> rfl) | (simp [*, errW_none, errW_some] <;> rfl), by repeat (first | (with_reducible first | exact HB.out | apply below_alloc | apply pw_below_drewN | apply below_drew1) | exact HB.out)⟩
              · rw [if_neg c46] at H
                have c46b0 : (t213 == 0) = false := beq_eq_false_iff_ne.mpr c46
                have c46b1 : (t213 != 0) = true := bne_iff_ne.mpr c46
                obtain rfl := Option.some.inj H
                go_wp2_with (first | ((with_reducible refine gate_callee (f := 12) rfl ?_); refine goesL_ (some 111) rfl rfl Tryd.func12 (by kernel_rfl) rfl #[.string t208] rfl (by (try simp only [List.map_toArray, List.map_cons, List.map_nil]); first | done | rfl | (simp only [List.length_drop, List.length_take]; rfl)) ?_; (with_reducible refine (start_Status.calls t208 t210 t211 t212 t213 _ (Glob.below HGl.out (by repeat (first | (with_reducible first | exact HB.out | apply below_alloc | apply pw_below_drewN | apply below_drew1) | exact HB.out))) A45.out).mono ?_); rintro e w61 ⟨rfl, hb⟩; refine ⟨_, rfl, ?_⟩; have n0_ := Aside0.mk (below_step (by repeat (first | (with_reducible first | exact HB.out | apply below_alloc | apply pw_below_drewN | apply below_drew1) | exact HB.out)) hb); clear HB; have HB := n0_; clear n0_; (try clear hb); (try clear hb2); (try clear hk); (try clear hi)))
                go_ret
                exact ⟨by first | rfl | (simp [errW_none, errW_some] <;> rfl) | (simp [*, errW_none, errW_some] <;> rfl), by repeat (first | (with_reducible first | exact HB.out | apply below_alloc | apply pw_below_drewN | apply below_drew1) | exact HB.out)⟩
            · rw [if_neg c44] at H
              have c44b0 : (t209 == 0) = false := beq_eq_false_iff_ne.mpr c44
              have c44b1 : (t209 != 0) = true := bne_iff_ne.mpr c44
              (first | rw [c44b0] | (simp only [i64_w, i32_w]; rw [c44b0]) | skip)
              by_cases c62 : t209 = 1
              · rw [if_pos c62] at H
                have c62b0 : (t209 == 1) = true := beq_iff_eq.mpr c62
                have c62b1 : (t209 != 1) = false := bne_eq_false_iff_eq.mpr c62
                clear c62
                by_cases c63 : t208.toList = ([] : List UInt8)
                · rw [if_pos c63] at H
                  have c63b0 : (t208.toList == ([] : List UInt8)) = true := beq_iff_eq.mpr c63
                  have c63b1 : (t208.toList != ([] : List UInt8)) = false := bne_eq_false_iff_eq.mpr c63
                  clear c63
                  have H' := Aside0.mk H
                  clear H
                  go_wp2
                  go_meet
                  case rel => exact ⟨_, H', ⟨by have := HJ7.out; first | omega | exact Nat.le_refl _⟩, ⟨by repeat (first | (with_reducible first | exact HB.out | apply below_alloc | apply pw_below_drewN | apply below_drew1) | exact HB.out)⟩⟩
                · rw [if_neg c63] at H
                  have c63b0 : (t208.toList == ([] : List UInt8)) = false := beq_eq_false_iff_ne.mpr c63
                  have c63b1 : (t208.toList != ([] : List UInt8)) = true := bne_iff_ne.mpr c63
                  obtain rfl := Option.some.inj H
                  go_wp2
                  go_ret
                  exact ⟨by first | rfl | (simp [errW_none, errW_some] <;> rfl) | (simp [*, errW_none, errW_some] <;> rfl), by repeat (first | (with_reducible first | exact HB.out | apply below_alloc | apply pw_below_drewN | apply below_drew1) | exact HB.out)⟩
              · rw [if_neg c62] at H
                have c62b0 : (t209 == 1) = false := beq_eq_false_iff_ne.mpr c62
                have c62b1 : (t209 != 1) = true := bne_iff_ne.mpr c62
                obtain rfl := Option.some.inj H
                go_wp2
                go_ret
                exact ⟨by first | rfl | (simp [errW_none, errW_some] <;> rfl) | (simp [*, errW_none, errW_some] <;> rfl), by repeat (first | (with_reducible first | exact HB.out | apply below_alloc | apply pw_below_drewN | apply below_drew1) | exact HB.out)⟩
        case rest =>
          as_aux_lemma =>
            clear HC42
            try clear c1
            try clear c2
            try clear p2
            try clear c3
            try clear c4
            try clear c5
            try clear c6
            try clear c7
            try clear c9
            try clear c10
            try clear c10b0
            try clear c10b1
            try clear c12
            try clear c13
            try clear c13b0
            try clear c13b1
            try clear c14
            try clear c14b0
            try clear c14b1
            try clear c15
            try clear c15b0
            try clear c15b1
            try clear c16
            try clear c16b0
            try clear c16b1
            try clear c17
            try clear c17b0
            try clear c17b1
            try clear c18
            try clear c18b0
            try clear c18b1
            try clear c22
            try clear c39
            try clear c39b0
            try clear c39b1
            try clear c40
            try clear c40b0
            try clear c40b1
            try clear c44
            try clear c44b0
            try clear c44b1
            try clear c46
            try clear c46b0
            try clear c46b1
            try clear c47
            try clear c47b0
            try clear c47b1
            try clear c48
            try clear c48b0
            try clear c48b1
            try clear c49
            try clear c49b0
            try clear c49b1
            try clear c50
            try clear c50b0
            try clear c50b1
            try clear c53
            try clear c62
            try clear c62b0
            try clear c62b1
            try clear c63
            try clear c63b0
            try clear c63b1
            try clear p2
            obtain ⟨kq, HA, HJ41, HB⟩ := hcut
            cases kq with
            | zero => exact absurd HA.out (by simp [tollhouselaw06_StartBack.j1])
            | succ kj41 =>
              have H := HA.out
              clear HA
              simp only [tollhouselaw06_StartBack.j1] at H
              replace H := Option.bind_eq_some_iff.mp H
              obtain ⟨⟨t215, t216, t217, t218⟩, A640, H⟩ := H
              replace H : (if t218 = 0 then ((start_PutRequest.f t215 t216 t217).bind fun bt219 => (if bt219.2 = 0 then (if bt219.1.toList = a0.toList then (tollhouselaw06_StartBack.j2 kj41 a0 t218) else (some false)) else (some false))) else (if t218 = 5 then (if t215.toList = ([] : List UInt8) then (if t216.toList = ([] : List UInt8) then (if t217 = 0 then (tollhouselaw06_StartBack.j2 kj41 a0 t218) else (some false)) else (some false)) else (some false)) else (some false))) = some r := H
              have A64 := Aside0.mk A640
              clear A640
              have HC65 := Aside0.mk H
              clear H
              go_upto_if 157 with (first | ((with_reducible refine gate_callee (f := 7) rfl ?_); refine goesL_ (some 151) rfl rfl Tryd.func7 (by kernel_rfl) rfl #[.string a0] rfl (by (try simp only [List.map_toArray, List.map_cons, List.map_nil]); first | done | rfl | (simp only [List.length_drop, List.length_take]; rfl)) ?_; (with_reducible refine (start_Request.calls kj41 a0 t215 t216 t217 t218 _ (Glob.below HGl.out (by repeat (first | (with_reducible first | exact HB.out | apply below_alloc | apply pw_below_drewN | apply below_drew1) | exact HB.out))) A64.out).mono ?_); rintro e w66 ⟨rfl, hb⟩; refine ⟨_, rfl, ?_⟩; have n0_ := Aside0.mk (below_step (by repeat (first | (with_reducible first | exact HB.out | apply below_alloc | apply pw_below_drewN | apply below_drew1) | exact HB.out)) hb); clear HB; have HB := n0_; clear n0_; (try clear hb); (try clear hb2); (try clear hk); (try clear hi)))
              (try simp only [Act.put, List.setIfInBounds_toArray, List.set_cons_zero, List.set_cons_succ])
              go_cut [] (fun wc => ∃ (kq : Nat), Aside0 (tollhouselaw06_StartBack.j2 kq a0 t218 = some r) ∧ Aside0 (kq ≤ kj41) ∧ Aside0 (Below w.heap.size w wc))
              case first =>
                as_aux_lemma =>
                  have H := HC65.out
                  clear HC65
                  by_cases c67 : t218 = 0
                  · rw [if_pos c67] at H
                    have c67b0 : (t218 == 0) = true := beq_iff_eq.mpr c67
                    have c67b1 : (t218 != 0) = false := bne_eq_false_iff_eq.mpr c67
                    clear c67
                    (first | rw [c67b0] | (simp only [i64_w, i32_w]; rw [c67b0]) | skip)
                    replace H := Option.bind_eq_some_iff.mp H
                    obtain ⟨⟨t219, t220⟩, A680, H⟩ := H
                    replace H : (if t220 = 0 then (if t219.toList = a0.toList then (tollhouselaw06_StartBack.j2 kj41 a0 t218) else (some false)) else (some false)) = some r := H
                    have A68 := Aside0.mk A680
                    clear A680
                    by_cases c69 : t220 = 0
                    · rw [if_pos c69] at H
                      have c69b0 : (t220 == 0) = true := beq_iff_eq.mpr c69
                      have c69b1 : (t220 != 0) = false := bne_eq_false_iff_eq.mpr c69
                      clear c69
                      by_cases c70 : t219.toList = a0.toList
                      · rw [if_pos c70] at H
                        have c70b0 : (t219.toList == a0.toList) = true := beq_iff_eq.mpr c70
                        have c70b1 : (t219.toList != a0.toList) = false := bne_eq_false_iff_eq.mpr c70
                        clear c70
                        have H' := Aside0.mk H
                        clear H
                        go_wp2_with (first | ((with_reducible refine gate_callee (f := 9) rfl ?_); refine goesL_ (some 162) rfl rfl Tryd.func9 (by kernel_rfl) rfl #[.string t215, .string t216, .int .i64 t217] rfl (by (try simp only [List.map_toArray, List.map_cons, List.map_nil]); first | done | rfl | (simp only [List.length_drop, List.length_take]; rfl)) ?_; (with_reducible refine (start_PutRequest.calls t215 t216 t217 t219 t220 _ (Glob.below HGl.out (by repeat (first | (with_reducible first | exact HB.out | apply below_alloc | apply pw_below_drewN | apply below_drew1) | exact HB.out))) A68.out).mono ?_); rintro e w71 ⟨rfl, hb⟩; refine ⟨_, rfl, ?_⟩; have n0_ := Aside0.mk (below_step (by repeat (first | (with_reducible first | exact HB.out | apply below_alloc | apply pw_below_drewN | apply below_drew1) | exact HB.out)) hb); clear HB; have HB := n0_; clear n0_; (try clear hb); (try clear hb2); (try clear hk); (try clear hi)))
                        go_meet
                        case rel => exact ⟨_, H', ⟨by have := HJ7.out; have := HJ41.out; first | omega | exact Nat.le_refl _⟩, ⟨by repeat (first | (with_reducible first | exact HB.out | apply below_alloc | apply pw_below_drewN | apply below_drew1) | exact HB.out)⟩⟩
                      · rw [if_neg c70] at H
                        have c70b0 : (t219.toList == a0.toList) = false := beq_eq_false_iff_ne.mpr c70
                        have c70b1 : (t219.toList != a0.toList) = true := bne_iff_ne.mpr c70
                        obtain rfl := Option.some.inj H
                        go_wp2_with (first | ((with_reducible refine gate_callee (f := 9) rfl ?_); refine goesL_ (some 162) rfl rfl Tryd.func9 (by kernel_rfl) rfl #[.string t215, .string t216, .int .i64 t217] rfl (by (try simp only [List.map_toArray, List.map_cons, List.map_nil]); first | done | rfl | (simp only [List.length_drop, List.length_take]; rfl)) ?_; (with_reducible refine (start_PutRequest.calls t215 t216 t217 t219 t220 _ (Glob.below HGl.out (by repeat (first | (with_reducible first | exact HB.out | apply below_alloc | apply pw_below_drewN | apply below_drew1) | exact HB.out))) A68.out).mono ?_); rintro e w72 ⟨rfl, hb⟩; refine ⟨_, rfl, ?_⟩; have n0_ := Aside0.mk (below_step (by repeat (first | (with_reducible first | exact HB.out | apply below_alloc | apply pw_below_drewN | apply below_drew1) | exact HB.out)) hb); clear HB; have HB := n0_; clear n0_; (try clear hb); (try clear hb2); (try clear hk); (try clear hi)))
                        go_ret
                        exact ⟨by first | rfl | (simp [errW_none, errW_some] <;> rfl) | (simp [*, errW_none, errW_some] <;> rfl), by repeat (first | (with_reducible first | exact HB.out | apply below_alloc | apply pw_below_drewN | apply below_drew1) | exact HB.out)⟩
                    · rw [if_neg c69] at H
                      have c69b0 : (t220 == 0) = false := beq_eq_false_iff_ne.mpr c69
                      have c69b1 : (t220 != 0) = true := bne_iff_ne.mpr c69
                      obtain rfl := Option.some.inj H
                      go_wp2_with (first | ((with_reducible refine gate_callee (f := 9) rfl ?_); refine goesL_ (some 162) rfl rfl Tryd.func9 (by kernel_rfl) rfl #[.string t215, .string t216, .int .i64 t217] rfl (by (try simp only [List.map_toArray, List.map_cons, List.map_nil]); first | done | rfl | (simp only [List.length_drop, List.length_take]; rfl)) ?_; (with_reducible refine (start_PutRequest.calls t215 t216 t217 t219 t220 _ (Glob.below HGl.out (by repeat (first | (with_reducible first | exact HB.out | apply below_alloc | apply pw_below_drewN | apply below_drew1) | exact HB.out))) A68.out).mono ?_); rintro e w73 ⟨rfl, hb⟩; refine ⟨_, rfl, ?_⟩; have n0_ := Aside0.mk (below_step (by repeat (first | (with_reducible first | exact HB.out | apply below_alloc | apply pw_below_drewN | apply below_drew1) | exact HB.out)) hb); clear HB; have HB := n0_; clear n0_; (try clear hb); (try clear hb2); (try clear hk); (try clear hi)))
                      go_ret
                      exact ⟨by first | rfl | (simp [errW_none, errW_some] <;> rfl) | (simp [*, errW_none, errW_some] <;> rfl), by repeat (first | (with_reducible first | exact HB.out | apply below_alloc | apply pw_below_drewN | apply below_drew1) | exact HB.out)⟩
                  · rw [if_neg c67] at H
                    have c67b0 : (t218 == 0) = false := beq_eq_false_iff_ne.mpr c67
                    have c67b1 : (t218 != 0) = true := bne_iff_ne.mpr c67
                    (first | rw [c67b0] | (simp only [i64_w, i32_w]; rw [c67b0]) | skip)
                    by_cases c74 : t218 = 5
                    · rw [if_pos c74] at H
                      have c74b0 : (t218 == 5) = true := beq_iff_eq.mpr c74
                      have c74b1 : (t218 != 5) = false := bne_eq_false_iff_eq.mpr c74
                      clear c74
                      by_cases c75 : t215.toList = ([] : List UInt8)
                      · rw [if_pos c75] at H
                        have c75b0 : (t215.toList == ([] : List UInt8)) = true := beq_iff_eq.mpr c75
                        have c75b1 : (t215.toList != ([] : List UInt8)) = false := bne_eq_false_iff_eq.mpr c75
                        clear c75
                        by_cases c76 : t216.toList = ([] : List UInt8)
                        · rw [if_pos c76] at H
                          have c76b0 : (t216.toList == ([] : List UInt8)) = true := beq_iff_eq.mpr c76
                          have c76b1 : (t216.toList != ([] : List UInt8)) = false := bne_eq_false_iff_eq.mpr c76
                          clear c76
                          by_cases c77 : t217 = 0
                          · rw [if_pos c77] at H
                            have c77b0 : (t217 == 0) = true := beq_iff_eq.mpr c77
                            have c77b1 : (t217 != 0) = false := bne_eq_false_iff_eq.mpr c77
                            clear c77
                            have H' := Aside0.mk H
                            clear H
                            go_wp2
                            go_meet
                            case rel => exact ⟨_, H', ⟨by have := HJ7.out; have := HJ41.out; first | omega | exact Nat.le_refl _⟩, ⟨by repeat (first | (with_reducible first | exact HB.out | apply below_alloc | apply pw_below_drewN | apply below_drew1) | exact HB.out)⟩⟩
                          · rw [if_neg c77] at H
                            have c77b0 : (t217 == 0) = false := beq_eq_false_iff_ne.mpr c77
                            have c77b1 : (t217 != 0) = true := bne_iff_ne.mpr c77
                            obtain rfl := Option.some.inj H
                            go_wp2
                            go_ret
                            exact ⟨by first | rfl | (simp [errW_none, errW_some] <;> rfl) | (simp [*, errW_none, errW_some] <;> rfl), by repeat (first | (with_reducible first | exact HB.out | apply below_alloc | apply pw_below_drewN | apply below_drew1) | exact HB.out)⟩
                        · rw [if_neg c76] at H
                          have c76b0 : (t216.toList == ([] : List UInt8)) = false := beq_eq_false_iff_ne.mpr c76
                          have c76b1 : (t216.toList != ([] : List UInt8)) = true := bne_iff_ne.mpr c76
                          obtain rfl := Option.some.inj H
                          go_wp2
                          go_ret
                          exact ⟨by first | rfl | (simp [errW_none, errW_some] <;> rfl) | (simp [*, errW_none, errW_some] <;> rfl), by repeat (first | (with_reducible first | exact HB.out | apply below_alloc | apply pw_below_drewN | apply below_drew1) | exact HB.out)⟩
                      · rw [if_neg c75] at H
                        have c75b0 : (t215.toList == ([] : List UInt8)) = false := beq_eq_false_iff_ne.mpr c75
                        have c75b1 : (t215.toList != ([] : List UInt8)) = true := bne_iff_ne.mpr c75
                        obtain rfl := Option.some.inj H
                        go_wp2
                        go_ret
                        exact ⟨by first | rfl | (simp [errW_none, errW_some] <;> rfl) | (simp [*, errW_none, errW_some] <;> rfl), by repeat (first | (with_reducible first | exact HB.out | apply below_alloc | apply pw_below_drewN | apply below_drew1) | exact HB.out)⟩
                    · rw [if_neg c74] at H
                      have c74b0 : (t218 == 5) = false := beq_eq_false_iff_ne.mpr c74
                      have c74b1 : (t218 != 5) = true := bne_iff_ne.mpr c74
                      obtain rfl := Option.some.inj H
                      go_wp2
                      go_ret
                      exact ⟨by first | rfl | (simp [errW_none, errW_some] <;> rfl) | (simp [*, errW_none, errW_some] <;> rfl), by repeat (first | (with_reducible first | exact HB.out | apply below_alloc | apply pw_below_drewN | apply below_drew1) | exact HB.out)⟩
              case rest =>
                as_aux_lemma =>
                  clear HC65
                  try clear c1
                  try clear c2
                  try clear p2
                  try clear c3
                  try clear c4
                  try clear c5
                  try clear c6
                  try clear c7
                  try clear c9
                  try clear c10
                  try clear c10b0
                  try clear c10b1
                  try clear c12
                  try clear c13
                  try clear c13b0
                  try clear c13b1
                  try clear c14
                  try clear c14b0
                  try clear c14b1
                  try clear c15
                  try clear c15b0
                  try clear c15b1
                  try clear c16
                  try clear c16b0
                  try clear c16b1
                  try clear c17
                  try clear c17b0
                  try clear c17b1
                  try clear c18
                  try clear c18b0
                  try clear c18b1
                  try clear c22
                  try clear c39
                  try clear c39b0
                  try clear c39b1
                  try clear c40
                  try clear c40b0
                  try clear c40b1
                  try clear c44
                  try clear c44b0
                  try clear c44b1
                  try clear c46
                  try clear c46b0
                  try clear c46b1
                  try clear c47
                  try clear c47b0
                  try clear c47b1
                  try clear c48
                  try clear c48b0
                  try clear c48b1
                  try clear c49
                  try clear c49b0
                  try clear c49b1
                  try clear c50
                  try clear c50b0
                  try clear c50b1
                  try clear c53
                  try clear c62
                  try clear c62b0
                  try clear c62b1
                  try clear c63
                  try clear c63b0
                  try clear c63b1
                  try clear c67
                  try clear c67b0
                  try clear c67b1
                  try clear c69
                  try clear c69b0
                  try clear c69b1
                  try clear c70
                  try clear c70b0
                  try clear c70b1
                  try clear c74
                  try clear c74b0
                  try clear c74b1
                  try clear c75
                  try clear c75b0
                  try clear c75b1
                  try clear c76
                  try clear c76b0
                  try clear c76b1
                  try clear c77
                  try clear c77b0
                  try clear c77b1
                  try clear p2
                  obtain ⟨kq, HA, HJ64, HB⟩ := hcut
                  cases kq with
                  | zero => exact absurd HA.out (by simp [tollhouselaw06_StartBack.j2])
                  | succ kj64 =>
                    have H := HA.out
                    clear HA
                    simp only [tollhouselaw06_StartBack.j2] at H
                    replace H := Option.bind_eq_some_iff.mp H
                    obtain ⟨⟨t221, t222, t223, t224⟩, A780, H⟩ := H
                    replace H : (if t224 = 0 then ((start_PutStatus.f t221 t222 t223).bind fun bt225 => (if t218 = 0 then (some false) else (if bt225.2 = 0 then (if bt225.1.toList = a0.toList then ((tollhouselaw06_wakes.f kj64).bind fun t227 => (some t227)) else (some false)) else (some false)))) else (if t224 = 5 then (if t221 = 0 then (if t222 = 0 then (if t223.toList = ([] : List UInt8) then ((tollhouselaw06_wakes.f kj64).bind fun t228 => (some t228)) else (some false)) else (some false)) else (some false)) else (some false))) = some r := H
                    have A78 := Aside0.mk A780
                    clear A780
                    by_cases c79 : t224 = 0
                    · rw [if_pos c79] at H
                      have c79b0 : (t224 == 0) = true := beq_iff_eq.mpr c79
                      have c79b1 : (t224 != 0) = false := bne_eq_false_iff_eq.mpr c79
                      clear c79
                      replace H := Option.bind_eq_some_iff.mp H
                      obtain ⟨⟨t225, t226⟩, A800, H⟩ := H
                      replace H : (if t218 = 0 then (some false) else (if t226 = 0 then (if t225.toList = a0.toList then ((tollhouselaw06_wakes.f kj64).bind fun t227 => (some t227)) else (some false)) else (some false))) = some r := H
                      have A80 := Aside0.mk A800
                      clear A800
                      by_cases c81 : t218 = 0
                      · rw [if_pos c81] at H
                        have c81b0 : (t218 == 0) = true := beq_iff_eq.mpr c81
                        have c81b1 : (t218 != 0) = false := bne_eq_false_iff_eq.mpr c81
                        clear c81
                        obtain rfl := Option.some.inj H
                        go_wp2_with (first | ((with_reducible refine gate_callee (f := 12) rfl ?_); refine goesL_ (some 188) rfl rfl Tryd.func12 (by kernel_rfl) rfl #[.string a0] rfl (by (try simp only [List.map_toArray, List.map_cons, List.map_nil]); first | done | rfl | (simp only [List.length_drop, List.length_take]; rfl)) ?_; (with_reducible refine (start_Status.calls a0 t221 t222 t223 t224 _ (Glob.below HGl.out (by repeat (first | (with_reducible first | exact HB.out | apply below_alloc | apply pw_below_drewN | apply below_drew1) | exact HB.out))) A78.out).mono ?_); rintro e w82 ⟨rfl, hb⟩; refine ⟨_, rfl, ?_⟩; have n0_ := Aside0.mk (below_step (by repeat (first | (with_reducible first | exact HB.out | apply below_alloc | apply pw_below_drewN | apply below_drew1) | exact HB.out)) hb); clear HB; have HB := n0_; clear n0_; (try clear hb); (try clear hb2); (try clear hk); (try clear hi)) | ((with_reducible refine gate_callee (f := 14) rfl ?_); refine goesL_ (some 216) rfl rfl Tryd.func14 (by kernel_rfl) rfl #[.int .i64 t221, .int .i64 t222, .string t223] rfl (by (try simp only [List.map_toArray, List.map_cons, List.map_nil]); first | done | rfl | (simp only [List.length_drop, List.length_take]; rfl)) ?_; (with_reducible refine (start_PutStatus.calls t221 t222 t223 t225 t226 _ (Glob.below HGl.out (by repeat (first | (with_reducible first | exact HB.out | apply below_alloc | apply pw_below_drewN | apply below_drew1) | exact HB.out))) A80.out).mono ?_); rintro e w83 ⟨rfl, hb⟩; refine ⟨_, rfl, ?_⟩; have n0_ := Aside0.mk (below_step (by repeat (first | (with_reducible first | exact HB.out | apply below_alloc | apply pw_below_drewN | apply below_drew1) | exact HB.out)) hb); clear HB; have HB := n0_; clear n0_; (try clear hb); (try clear hb2); (try clear hk); (try clear hi)))
                        go_ret
                        exact ⟨by first | rfl | (simp [errW_none, errW_some] <;> rfl) | (simp [*, errW_none, errW_some] <;> rfl), by repeat (first | (with_reducible first | exact HB.out | apply below_alloc | apply pw_below_drewN | apply below_drew1) | exact HB.out)⟩
                      · rw [if_neg c81] at H
                        have c81b0 : (t218 == 0) = false := beq_eq_false_iff_ne.mpr c81
                        have c81b1 : (t218 != 0) = true := bne_iff_ne.mpr c81
                        by_cases c84 : t226 = 0
                        · rw [if_pos c84] at H
                          have c84b0 : (t226 == 0) = true := beq_iff_eq.mpr c84
                          have c84b1 : (t226 != 0) = false := bne_eq_false_iff_eq.mpr c84
                          clear c84
                          by_cases c85 : t225.toList = a0.toList
                          · rw [if_pos c85] at H
                            have c85b0 : (t225.toList == a0.toList) = true := beq_iff_eq.mpr c85
                            have c85b1 : (t225.toList != a0.toList) = false := bne_eq_false_iff_eq.mpr c85
                            clear c85
                            replace H := Option.bind_eq_some_iff.mp H
                            obtain ⟨t227, A860, H⟩ := H
                            replace H : (some t227) = some r := H
                            have A86 := Aside0.mk A860
                            clear A860
                            obtain rfl := Option.some.inj H
                            go_wp2_with (first | ((with_reducible refine gate_callee (f := 12) rfl ?_); refine goesL_ (some 188) rfl rfl Tryd.func12 (by kernel_rfl) rfl #[.string a0] rfl (by (try simp only [List.map_toArray, List.map_cons, List.map_nil]); first | done | rfl | (simp only [List.length_drop, List.length_take]; rfl)) ?_; (with_reducible refine (start_Status.calls a0 t221 t222 t223 t224 _ (Glob.below HGl.out (by repeat (first | (with_reducible first | exact HB.out | apply below_alloc | apply pw_below_drewN | apply below_drew1) | exact HB.out))) A78.out).mono ?_); rintro e w87 ⟨rfl, hb⟩; refine ⟨_, rfl, ?_⟩; have n0_ := Aside0.mk (below_step (by repeat (first | (with_reducible first | exact HB.out | apply below_alloc | apply pw_below_drewN | apply below_drew1) | exact HB.out)) hb); clear HB; have HB := n0_; clear n0_; (try clear hb); (try clear hb2); (try clear hk); (try clear hi)) | ((with_reducible refine gate_callee (f := 14) rfl ?_); refine goesL_ (some 216) rfl rfl Tryd.func14 (by kernel_rfl) rfl #[.int .i64 t221, .int .i64 t222, .string t223] rfl (by (try simp only [List.map_toArray, List.map_cons, List.map_nil]); first | done | rfl | (simp only [List.length_drop, List.length_take]; rfl)) ?_; (with_reducible refine (start_PutStatus.calls t221 t222 t223 t225 t226 _ (Glob.below HGl.out (by repeat (first | (with_reducible first | exact HB.out | apply below_alloc | apply pw_below_drewN | apply below_drew1) | exact HB.out))) A80.out).mono ?_); rintro e w88 ⟨rfl, hb⟩; refine ⟨_, rfl, ?_⟩; have n0_ := Aside0.mk (below_step (by repeat (first | (with_reducible first | exact HB.out | apply below_alloc | apply pw_below_drewN | apply below_drew1) | exact HB.out)) hb); clear HB; have HB := n0_; clear n0_; (try clear hb); (try clear hb2); (try clear hk); (try clear hi)) | (go_at_call 11; (with_reducible refine (tollhouselaw06_wakes.calls kj64  t227 _ (Glob.below HGl.out (by repeat (first | (with_reducible first | exact HB.out | apply below_alloc | apply pw_below_drewN | apply below_drew1) | exact HB.out))) A86.out).mono ?_); rintro e w89 ⟨rfl, hb⟩; have n0_ := Aside0.mk (below_step (by repeat (first | (with_reducible first | exact HB.out | apply below_alloc | apply pw_below_drewN | apply below_drew1) | exact HB.out)) hb); clear HB; have HB := n0_; clear n0_; (try clear hb); (try clear hb2); (try clear hk); (try clear hi)))
                            go_ret
                            exact ⟨by first | rfl | (simp [errW_none, errW_some] <;> rfl) | (simp [*, errW_none, errW_some] <;> rfl), by repeat (first | (with_reducible first | exact HB.out | apply below_alloc | apply pw_below_drewN | apply below_drew1) | exact HB.out)⟩
                          · rw [if_neg c85] at H
                            have c85b0 : (t225.toList == a0.toList) = false := beq_eq_false_iff_ne.mpr c85
                            have c85b1 : (t225.toList != a0.toList) = true := bne_iff_ne.mpr c85
                            obtain rfl := Option.some.inj H
                            go_wp2_with (first | ((with_reducible refine gate_callee (f := 12) rfl ?_); refine goesL_ (some 188) rfl rfl Tryd.func12 (by kernel_rfl) rfl #[.string a0] rfl (by (try simp only [List.map_toArray, List.map_cons, List.map_nil]); first | done | rfl | (simp only [List.length_drop, List.length_take]; rfl)) ?_; (with_reducible refine (start_Status.calls a0 t221 t222 t223 t224 _ (Glob.below HGl.out (by repeat (first | (with_reducible first | exact HB.out | apply below_alloc | apply pw_below_drewN | apply below_drew1) | exact HB.out))) A78.out).mono ?_); rintro e w90 ⟨rfl, hb⟩; refine ⟨_, rfl, ?_⟩; have n0_ := Aside0.mk (below_step (by repeat (first | (with_reducible first | exact HB.out | apply below_alloc | apply pw_below_drewN | apply below_drew1) | exact HB.out)) hb); clear HB; have HB := n0_; clear n0_; (try clear hb); (try clear hb2); (try clear hk); (try clear hi)) | ((with_reducible refine gate_callee (f := 14) rfl ?_); refine goesL_ (some 216) rfl rfl Tryd.func14 (by kernel_rfl) rfl #[.int .i64 t221, .int .i64 t222, .string t223] rfl (by (try simp only [List.map_toArray, List.map_cons, List.map_nil]); first | done | rfl | (simp only [List.length_drop, List.length_take]; rfl)) ?_; (with_reducible refine (start_PutStatus.calls t221 t222 t223 t225 t226 _ (Glob.below HGl.out (by repeat (first | (with_reducible first | exact HB.out | apply below_alloc | apply pw_below_drewN | apply below_drew1) | exact HB.out))) A80.out).mono ?_); rintro e w91 ⟨rfl, hb⟩; refine ⟨_, rfl, ?_⟩; have n0_ := Aside0.mk (below_step (by repeat (first | (with_reducible first | exact HB.out | apply below_alloc | apply pw_below_drewN | apply below_drew1) | exact HB.out)) hb); clear HB; have HB := n0_; clear n0_; (try clear hb); (try clear hb2); (try clear hk); (try clear hi)))
                            go_ret
                            exact ⟨by first | rfl | (simp [errW_none, errW_some] <;> rfl) | (simp [*, errW_none, errW_some] <;> rfl), by repeat (first | (with_reducible first | exact HB.out | apply below_alloc | apply pw_below_drewN | apply below_drew1) | exact HB.out)⟩
                        · rw [if_neg c84] at H
                          have c84b0 : (t226 == 0) = false := beq_eq_false_iff_ne.mpr c84
                          have c84b1 : (t226 != 0) = true := bne_iff_ne.mpr c84
                          obtain rfl := Option.some.inj H
                          go_wp2_with (first | ((with_reducible refine gate_callee (f := 12) rfl ?_); refine goesL_ (some 188) rfl rfl Tryd.func12 (by kernel_rfl) rfl #[.string a0] rfl (by (try simp only [List.map_toArray, List.map_cons, List.map_nil]); first | done | rfl | (simp only [List.length_drop, List.length_take]; rfl)) ?_; (with_reducible refine (start_Status.calls a0 t221 t222 t223 t224 _ (Glob.below HGl.out (by repeat (first | (with_reducible first | exact HB.out | apply below_alloc | apply pw_below_drewN | apply below_drew1) | exact HB.out))) A78.out).mono ?_); rintro e w92 ⟨rfl, hb⟩; refine ⟨_, rfl, ?_⟩; have n0_ := Aside0.mk (below_step (by repeat (first | (with_reducible first | exact HB.out | apply below_alloc | apply pw_below_drewN | apply below_drew1) | exact HB.out)) hb); clear HB; have HB := n0_; clear n0_; (try clear hb); (try clear hb2); (try clear hk); (try clear hi)) | ((with_reducible refine gate_callee (f := 14) rfl ?_); refine goesL_ (some 216) rfl rfl Tryd.func14 (by kernel_rfl) rfl #[.int .i64 t221, .int .i64 t222, .string t223] rfl (by (try simp only [List.map_toArray, List.map_cons, List.map_nil]); first | done | rfl | (simp only [List.length_drop, List.length_take]; rfl)) ?_; (with_reducible refine (start_PutStatus.calls t221 t222 t223 t225 t226 _ (Glob.below HGl.out (by repeat (first | (with_reducible first | exact HB.out | apply below_alloc | apply pw_below_drewN | apply below_drew1) | exact HB.out))) A80.out).mono ?_); rintro e w93 ⟨rfl, hb⟩; refine ⟨_, rfl, ?_⟩; have n0_ := Aside0.mk (below_step (by repeat (first | (with_reducible first | exact HB.out | apply below_alloc | apply pw_below_drewN | apply below_drew1) | exact HB.out)) hb); clear HB; have HB := n0_; clear n0_; (try clear hb); (try clear hb2); (try clear hk); (try clear hi)))
                          go_ret
                          exact ⟨by first | rfl | (simp [errW_none, errW_some] <;> rfl) | (simp [*, errW_none, errW_some] <;> rfl), by repeat (first | (with_reducible first | exact HB.out | apply below_alloc | apply pw_below_drewN | apply below_drew1) | exact HB.out)⟩
                    · rw [if_neg c79] at H
                      have c79b0 : (t224 == 0) = false := beq_eq_false_iff_ne.mpr c79
                      have c79b1 : (t224 != 0) = true := bne_iff_ne.mpr c79
                      by_cases c94 : t224 = 5
                      · rw [if_pos c94] at H
                        have c94b0 : (t224 == 5) = true := beq_iff_eq.mpr c94
                        have c94b1 : (t224 != 5) = false := bne_eq_false_iff_eq.mpr c94
                        clear c94
                        by_cases c95 : t221 = 0
                        · rw [if_pos c95] at H
                          have c95b0 : (t221 == 0) = true := beq_iff_eq.mpr c95
                          have c95b1 : (t221 != 0) = false := bne_eq_false_iff_eq.mpr c95
                          clear c95
                          by_cases c96 : t222 = 0
                          · rw [if_pos c96] at H
                            have c96b0 : (t222 == 0) = true := beq_iff_eq.mpr c96
                            have c96b1 : (t222 != 0) = false := bne_eq_false_iff_eq.mpr c96
                            clear c96
                            by_cases c97 : t223.toList = ([] : List UInt8)
                            · rw [if_pos c97] at H
                              have c97b0 : (t223.toList == ([] : List UInt8)) = true := beq_iff_eq.mpr c97
                              have c97b1 : (t223.toList != ([] : List UInt8)) = false := bne_eq_false_iff_eq.mpr c97
                              clear c97
                              replace H := Option.bind_eq_some_iff.mp H
                              obtain ⟨t228, A980, H⟩ := H
                              replace H : (some t228) = some r := H
                              have A98 := Aside0.mk A980
                              clear A980
                              obtain rfl := Option.some.inj H
                              go_wp2_with (first | ((with_reducible refine gate_callee (f := 12) rfl ?_); refine goesL_ (some 188) rfl rfl Tryd.func12 (by kernel_rfl) rfl #[.string a0] rfl (by (try simp only [List.map_toArray, List.map_cons, List.map_nil]); first | done | rfl | (simp only [List.length_drop, List.length_take]; rfl)) ?_; (with_reducible refine (start_Status.calls a0 t221 t222 t223 t224 _ (Glob.below HGl.out (by repeat (first | (with_reducible first | exact HB.out | apply below_alloc | apply pw_below_drewN | apply below_drew1) | exact HB.out))) A78.out).mono ?_); rintro e w99 ⟨rfl, hb⟩; refine ⟨_, rfl, ?_⟩; have n0_ := Aside0.mk (below_step (by repeat (first | (with_reducible first | exact HB.out | apply below_alloc | apply pw_below_drewN | apply below_drew1) | exact HB.out)) hb); clear HB; have HB := n0_; clear n0_; (try clear hb); (try clear hb2); (try clear hk); (try clear hi)) | (go_at_call 11; (with_reducible refine (tollhouselaw06_wakes.calls kj64  t228 _ (Glob.below HGl.out (by repeat (first | (with_reducible first | exact HB.out | apply below_alloc | apply pw_below_drewN | apply below_drew1) | exact HB.out))) A98.out).mono ?_); rintro e w100 ⟨rfl, hb⟩; have n0_ := Aside0.mk (below_step (by repeat (first | (with_reducible first | exact HB.out | apply below_alloc | apply pw_below_drewN | apply below_drew1) | exact HB.out)) hb); clear HB; have HB := n0_; clear n0_; (try clear hb); (try clear hb2); (try clear hk); (try clear hi)))
                              go_ret
                              exact ⟨by first | rfl | (simp [errW_none, errW_some] <;> rfl) | (simp [*, errW_none, errW_some] <;> rfl), by repeat (first | (with_reducible first | exact HB.out | apply below_alloc | apply pw_below_drewN | apply below_drew1) | exact HB.out)⟩
                            · rw [if_neg c97] at H
                              have c97b0 : (t223.toList == ([] : List UInt8)) = false := beq_eq_false_iff_ne.mpr c97
                              have c97b1 : (t223.toList != ([] : List UInt8)) = true := bne_iff_ne.mpr c97
                              obtain rfl := Option.some.inj H
                              go_wp2_with (first | ((with_reducible refine gate_callee (f := 12) rfl ?_); refine goesL_ (some 188) rfl rfl Tryd.func12 (by kernel_rfl) rfl #[.string a0] rfl (by (try simp only [List.map_toArray, List.map_cons, List.map_nil]); first | done | rfl | (simp only [List.length_drop, List.length_take]; rfl)) ?_; (with_reducible refine (start_Status.calls a0 t221 t222 t223 t224 _ (Glob.below HGl.out (by repeat (first | (with_reducible first | exact HB.out | apply below_alloc | apply pw_below_drewN | apply below_drew1) | exact HB.out))) A78.out).mono ?_); rintro e w101 ⟨rfl, hb⟩; refine ⟨_, rfl, ?_⟩; have n0_ := Aside0.mk (below_step (by repeat (first | (with_reducible first | exact HB.out | apply below_alloc | apply pw_below_drewN | apply below_drew1) | exact HB.out)) hb); clear HB; have HB := n0_; clear n0_; (try clear hb); (try clear hb2); (try clear hk); (try clear hi)))
                              go_ret
                              exact ⟨by first | rfl | (simp [errW_none, errW_some] <;> rfl) | (simp [*, errW_none, errW_some] <;> rfl), by repeat (first | (with_reducible first | exact HB.out | apply below_alloc | apply pw_below_drewN | apply below_drew1) | exact HB.out)⟩
                          · rw [if_neg c96] at H
                            have c96b0 : (t222 == 0) = false := beq_eq_false_iff_ne.mpr c96
                            have c96b1 : (t222 != 0) = true := bne_iff_ne.mpr c96
                            obtain rfl := Option.some.inj H
                            go_wp2_with (first | ((with_reducible refine gate_callee (f := 12) rfl ?_); refine goesL_ (some 188) rfl rfl Tryd.func12 (by kernel_rfl) rfl #[.string a0] rfl (by (try simp only [List.map_toArray, List.map_cons, List.map_nil]); first | done | rfl | (simp only [List.length_drop, List.length_take]; rfl)) ?_; (with_reducible refine (start_Status.calls a0 t221 t222 t223 t224 _ (Glob.below HGl.out (by repeat (first | (with_reducible first | exact HB.out | apply below_alloc | apply pw_below_drewN | apply below_drew1) | exact HB.out))) A78.out).mono ?_); rintro e w102 ⟨rfl, hb⟩; refine ⟨_, rfl, ?_⟩; have n0_ := Aside0.mk (below_step (by repeat (first | (with_reducible first | exact HB.out | apply below_alloc | apply pw_below_drewN | apply below_drew1) | exact HB.out)) hb); clear HB; have HB := n0_; clear n0_; (try clear hb); (try clear hb2); (try clear hk); (try clear hi)))
                            go_ret
                            exact ⟨by first | rfl | (simp [errW_none, errW_some] <;> rfl) | (simp [*, errW_none, errW_some] <;> rfl), by repeat (first | (with_reducible first | exact HB.out | apply below_alloc | apply pw_below_drewN | apply below_drew1) | exact HB.out)⟩
                        · rw [if_neg c95] at H
                          have c95b0 : (t221 == 0) = false := beq_eq_false_iff_ne.mpr c95
                          have c95b1 : (t221 != 0) = true := bne_iff_ne.mpr c95
                          obtain rfl := Option.some.inj H
                          go_wp2_with (first | ((with_reducible refine gate_callee (f := 12) rfl ?_); refine goesL_ (some 188) rfl rfl Tryd.func12 (by kernel_rfl) rfl #[.string a0] rfl (by (try simp only [List.map_toArray, List.map_cons, List.map_nil]); first | done | rfl | (simp only [List.length_drop, List.length_take]; rfl)) ?_; (with_reducible refine (start_Status.calls a0 t221 t222 t223 t224 _ (Glob.below HGl.out (by repeat (first | (with_reducible first | exact HB.out | apply below_alloc | apply pw_below_drewN | apply below_drew1) | exact HB.out))) A78.out).mono ?_); rintro e w103 ⟨rfl, hb⟩; refine ⟨_, rfl, ?_⟩; have n0_ := Aside0.mk (below_step (by repeat (first | (with_reducible first | exact HB.out | apply below_alloc | apply pw_below_drewN | apply below_drew1) | exact HB.out)) hb); clear HB; have HB := n0_; clear n0_; (try clear hb); (try clear hb2); (try clear hk); (try clear hi)))
                          go_ret
                          exact ⟨by first | rfl | (simp [errW_none, errW_some] <;> rfl) | (simp [*, errW_none, errW_some] <;> rfl), by repeat (first | (with_reducible first | exact HB.out | apply below_alloc | apply pw_below_drewN | apply below_drew1) | exact HB.out)⟩
                      · rw [if_neg c94] at H
                        have c94b0 : (t224 == 5) = false := beq_eq_false_iff_ne.mpr c94
                        have c94b1 : (t224 != 5) = true := bne_iff_ne.mpr c94
                        obtain rfl := Option.some.inj H
                        go_wp2_with (first | ((with_reducible refine gate_callee (f := 12) rfl ?_); refine goesL_ (some 188) rfl rfl Tryd.func12 (by kernel_rfl) rfl #[.string a0] rfl (by (try simp only [List.map_toArray, List.map_cons, List.map_nil]); first | done | rfl | (simp only [List.length_drop, List.length_take]; rfl)) ?_; (with_reducible refine (start_Status.calls a0 t221 t222 t223 t224 _ (Glob.below HGl.out (by repeat (first | (with_reducible first | exact HB.out | apply below_alloc | apply pw_below_drewN | apply below_drew1) | exact HB.out))) A78.out).mono ?_); rintro e w104 ⟨rfl, hb⟩; refine ⟨_, rfl, ?_⟩; have n0_ := Aside0.mk (below_step (by repeat (first | (with_reducible first | exact HB.out | apply below_alloc | apply pw_below_drewN | apply below_drew1) | exact HB.out)) hb); clear HB; have HB := n0_; clear n0_; (try clear hb); (try clear hb2); (try clear hk); (try clear hi)))
                        go_ret
                        exact ⟨by first | rfl | (simp [errW_none, errW_some] <;> rfl) | (simp [*, errW_none, errW_some] <;> rfl), by repeat (first | (with_reducible first | exact HB.out | apply below_alloc | apply pw_below_drewN | apply below_drew1) | exact HB.out)⟩
      
end Go.Proofs.YtpoljchfgdnmbaaDoor.X

/- With rounds enough, a printed function tells a value: how that is put together; and what a byte string's places hold. -/
namespace Go.Proofs.YtpoljchfgdnmbaaDoor.X
open Go.RowKit Go.Proofs.YtpoljchfgdnmbaaDoorW.PrintWords Go.Proofs.YtpoljchfgdnmbaaDoor.T
set_option linter.unusedSimpArgs false
set_option linter.unusedVariables false
/-- With rounds enough f tells r. -/
def Ev {α : Type} (f : Nat → Option α) (r : α) : Prop := ∃ K, ∀ k, K ≤ k → f k = some r
theorem Ev.const {α : Type} {f : Nat → Option α} {r : α} (h : ∀ k, f k = some r) : Ev f r := ⟨0, fun k _ => h k⟩
theorem Ev.done {α : Type} {f : Nat → Option α} {r : α} (h : ∀ k, f (k + 1) = some r) : Ev f r := ⟨1, fun k hk => by obtain ⟨j, rfl⟩ : ∃ j, k = j + 1 := ⟨k - 1, by omega⟩; exact h j⟩
theorem Ev.step {α : Type} {f g : Nat → Option α} {r : α} (h : ∀ k, f (k + 1) = g k) (hg : Ev g r) : Ev f r := by
  obtain ⟨K, hK⟩ := hg
  refine ⟨K + 1, fun k hk => ?_⟩
  obtain ⟨j, rfl⟩ : ∃ j, k = j + 1 := ⟨k - 1, by omega⟩
  rw [h j]; exact hK j (by omega)
theorem Ev.same {α : Type} {f g : Nat → Option α} {r : α} (h : ∀ k, f k = g k) (hg : Ev g r) : Ev f r := by
  obtain ⟨K, hK⟩ := hg
  exact ⟨K, fun k hk => by rw [h k]; exact hK k hk⟩
theorem Ev.bind {α β : Type} {f : Nat → Option α} {g : Nat → α → Option β} {a : α} {r : β} (hf : Ev f a) (hg : Ev (fun k => g k a) r) : Ev (fun k => (f k).bind (g k)) r := by
  obtain ⟨K, hK⟩ := hf
  obtain ⟨L, hL⟩ := hg
  refine ⟨max K L, fun k hk => ?_⟩
  show (f k).bind (g k) = _
  rw [hK k (by omega)]
  exact hL k (by omega)
theorem Ev.stepBind {α β : Type} {F : Nat → Option β} {f : Nat → Option α} {g : Nat → α → Option β} {a : α} {r : β} (h : ∀ k, F (k + 1) = (f k).bind (g k)) (hf : Ev f a) (hg : Ev (fun k => g k a) r) : Ev F r := Ev.step h (Ev.bind hf hg)
theorem Ev.of_mono {α : Type} {f : Nat → Option α} {r : α} (hm : ∀ k, LeO (f k) (f (k + 1))) {K : Nat} (h : f K = some r) : Ev f r := by
  refine ⟨K, fun k hk => ?_⟩
  obtain ⟨d, rfl⟩ : ∃ d, k = K + d := ⟨k - K, by omega⟩
  clear hk
  induction d with
  | zero => exact h
  | succ d ih => exact hm (K + d) r ih
theorem Ev.get {α : Type} {f : Nat → Option α} {r : α} (h : Ev f r) : ∃ k, f k = some r := by obtain ⟨K, hK⟩ := h; exact ⟨K, hK K (Nat.le_refl _)⟩
theorem wrap_id {n : Int} (h : -9223372036854775808 ≤ n) (h2 : n ≤ 9223372036854775807) : wrap64 n = n := by unfold wrap64; omega
/-! ### a byte string's places -/
theorem btAt {s : ByteArray} {j : Nat} (h : j < s.size) : bt s (j : Int) = ((s[j]'h).toNat : Int) := by
  unfold bt
  rw [dif_pos (by simpa using h)]
  rfl
theorem list_at {s : ByteArray} {j : Nat} (h : j < s.size) : s.data.toList[j]? = some (s[j]'h) := by
  rw [List.getElem?_eq_getElem (by rw [size_toList]; exact h)]
  rfl
theorem bt_is {s : ByteArray} {j : Nat} (h : j < s.size) (c : UInt8) : bt s (j : Int) = (c.toNat : Int) ↔ s.data.toList[j]? = some c := by
  rw [btAt h, list_at h]
  constructor
  · intro e
    have : (s[j]'h).toNat = c.toNat := by omega
    rw [UInt8.toNat_inj.1 this]
  · intro e; rw [Option.some.inj e]
theorem bt_sub {s : ByteArray} {a j : Nat} (h : a + j < s.size) : bt (s.extract a s.size) (j : Int) = bt s ((a + j : Nat) : Int) := by
  have hj : j < (s.extract a s.size).size := by rw [ByteArray.size_extract]; omega
  rw [btAt hj, btAt h, ByteArray.getElem_extract]
theorem drop_at {s : ByteArray} {j : Nat} (h : j < s.size) : s.data.toList.drop j = (s[j]'h) :: s.data.toList.drop (j + 1) := by
  rw [List.drop_eq_getElem_cons (by rw [size_toList]; exact h)]
  rfl
theorem drop_end {s : ByteArray} {j : Nat} (h : s.size ≤ j) : s.data.toList.drop j = [] := List.drop_eq_nil_of_le (by rw [size_toList]; exact h)
end Go.Proofs.YtpoljchfgdnmbaaDoor.X

/- The parts of a text between signs: plain. -/
namespace Go.Proofs.YtpoljchfgdnmbaaDoor.T
def partsB (c : UInt8) (s : ByteArray) : List ByteArray := Lib.splitB ⟨#[c]⟩ 0 (Lib.countB s ⟨#[c]⟩) s
theorem splitK_size (sep : ByteArray) : ∀ (k : Nat) (s : ByteArray), ∀ x ∈ Lib.splitB sep 0 k s, x.size ≤ s.size
  | 0, s, x, hx => by simp [Lib.splitB] at hx; subst hx; exact Nat.le_refl _
  | k + 1, s, x, hx => by
    unfold Lib.splitB at hx
    split at hx
    · simp at hx; subst hx; exact Nat.le_refl _
    · rcases List.mem_cons.1 hx with rfl | hx
      · rw [ByteArray.size_extract]; omega
      · have := splitK_size sep k _ x hx
        rw [ByteArray.size_extract] at this; omega
theorem parts_size (c : UInt8) (s : ByteArray) : ∀ x ∈ partsB c s, x.size ≤ s.size := splitK_size _ _ s
theorem parts_len (c : UInt8) (s : ByteArray) : (partsB c s).length = Lib.countB s ⟨#[c]⟩ + 1 := Lib.splitB_all ⟨#[c]⟩ (Nat.le_refl _) 0 _ s rfl
theorem parts_le (c : UInt8) (s : ByteArray) : (partsB c s).length ≤ s.size + 1 := by
  rw [parts_len]
  have := Lib.countB_le ⟨#[c]⟩ (Nat.le_refl _) s.size s (Nat.le_refl _)
  omega
end Go.Proofs.YtpoljchfgdnmbaaDoor.T

/- Small plain lemmas on bytes and rounds. -/
namespace Go.Proofs.YtpoljchfgdnmbaaDoor.X
open Go.RowKit Go.Proofs.YtpoljchfgdnmbaaDoorW.PrintWords Go.Proofs.YtpoljchfgdnmbaaDoor.T
set_option linter.unusedSimpArgs false
set_option linter.unusedVariables false
theorem wrap_succ {n : Nat} (h : n < 9223372036854775807) : wrap64 ((n : Int) + 1) = ((n + 1 : Nat) : Int) := by unfold wrap64; omega
theorem isDig_iff (c : UInt8) : isDig c = true ↔ (48 ≤ c.toNat ∧ c.toNat ≤ 57) := by
  have h : ∀ n : Fin 256, isDig (UInt8.ofNat n.val) = true ↔ (48 ≤ (UInt8.ofNat n.val).toNat ∧ (UInt8.ofNat n.val).toNat ≤ 57) := by decide +kernel
  have := h ⟨c.toNat, c.toNat_lt⟩
  simpa using this
theorem rd_list (ls : List ByteArray) (i : Nat) (y : ByteArray) (h : ls[i]? = some y) : rdOf ByteArray.empty ls (i : Int) = y := by
  unfold rdOf
  rw [Int.toNat_natCast, List.getD_eq_getElem?_getD, h]; rfl
theorem extract_all (s : ByteArray) : s.extract 0 s.size = s := by simp
theorem toList_app (a b : ByteArray) : (a ++ b).data.toList = a.data.toList ++ b.data.toList := by simp
theorem size_app (a b : ByteArray) : (a ++ b).size = a.size + b.size := by simp
theorem toList_eq (a : ByteArray) : a.toList = a.data.toList := Lib.toList_data a
theorem bytes_mk (s : ByteArray) (l : List UInt8) (h : s.data.toList = l) : s = ⟨l.toArray⟩ := by cases s; subst h; rfl
theorem bytes_ext {a b : ByteArray} (h : a.data.toList = b.data.toList) : a = b := by
  cases a; cases b
  simp only at h
  congr 1
  exact Array.ext' h
/-! ### the parts of a text between signs c -/
theorem sign_index (c : UInt8) (t : ByteArray) {j : Nat} (h : t.data.toList[j]? = some c) (hno : ∀ k, k < j → t.data.toList[k]? ≠ some c) : Lib.indexB t ⟨#[c]⟩ = j := by
  have e : Lib.indexB t ⟨#[c]⟩ = Lib.indexByte t.data.toList c := Lib.index_one _ _
  rw [e]
  rcases Int.lt_or_le (Lib.indexByte t.data.toList c) 0 with hm | hm
  · have h1 := Lib.indexByte_ge t.data.toList c
    exact absurd h (Lib.indexByte_none (by omega) j)
  · obtain ⟨o, ho⟩ : ∃ o : Nat, Lib.indexByte t.data.toList c = o := ⟨(Lib.indexByte t.data.toList c).toNat, by omega⟩
    obtain ⟨p1, p2⟩ := Lib.indexByte_some ho
    rw [ho]
    rcases Nat.lt_trichotomy o j with hlt | rfl | hgt
    · exact absurd p1 (hno o hlt)
    · rfl
    · exact absurd h (p2 j hgt)
theorem sign_none (c : UInt8) (t : ByteArray) (hno : ∀ k : Nat, t.data.toList[k]? ≠ some c) : Lib.indexB t ⟨#[c]⟩ = -1 := by
  have e : Lib.indexB t ⟨#[c]⟩ = Lib.indexByte t.data.toList c := Lib.index_one _ _
  rw [e]
  have h1 := Lib.indexByte_ge t.data.toList c
  rcases Int.lt_or_le (Lib.indexByte t.data.toList c) 0 with hm | hm
  · omega
  · obtain ⟨o, ho⟩ : ∃ o : Nat, Lib.indexByte t.data.toList c = o := ⟨(Lib.indexByte t.data.toList c).toNat, by omega⟩
    exact absurd (Lib.indexByte_some ho).1 (hno o)
theorem parts_no (c : UInt8) (t : ByteArray) (hno : ∀ k : Nat, t.data.toList[k]? ≠ some c) : partsB c t = [t] := Lib.splitB_miss _ _ _ _ (sign_none c t hno)
theorem parts_hit (c : UInt8) (t : ByteArray) (j : Nat) (h : t.data.toList[j]? = some c) (hno : ∀ k, k < j → t.data.toList[k]? ≠ some c) : partsB c t = t.extract 0 j :: partsB c (t.extract (j + 1) t.size) := by
  have hx := sign_index c t h hno
  unfold partsB
  have hz : 1 ≤ (⟨#[c]⟩ : ByteArray).size := Nat.le_refl _
  rw [Lib.countB_hit t ⟨#[c]⟩ j hz hx, Nat.add_comm 1, Lib.splitB_hit _ _ _ _ _ hx]
  rfl
theorem mem_at {α : Type} {l : List α} {c : α} (h : c ∉ l) (k : Nat) : l[k]? ≠ some c := fun e => h (List.mem_of_getElem? e)
theorem parts_one (c : UInt8) (s : ByteArray) (h : c ∉ s.data.toList) : partsB c s = [s] := parts_no c s (fun k => mem_at h k)
theorem parts_cons (c : UInt8) (s : ByteArray) (a b : List UInt8) (hs : s.data.toList = a ++ c :: b) (ha : c ∉ a) : partsB c s = ⟨a.toArray⟩ :: partsB c ⟨b.toArray⟩ := by
  have hz := size_toList s
  rw [parts_hit c s a.length (by rw [hs]; simp) (fun k hk => by rw [hs, List.getElem?_append_left hk]; exact mem_at ha k)]
  have e1 : s.extract 0 a.length = ⟨a.toArray⟩ := bytes_mk _ _ (by rw [Lib.extract_from_zero, hs]; simp)
  have e2 : s.extract (a.length + 1) s.size = ⟨b.toArray⟩ := bytes_mk _ _ (by rw [Lib.extract_to_end, hs, List.drop_append]; simp)
  rw [e1, e2]
/-- what stands ahead of the first c, and behind it -/
theorem split_first (c : UInt8) : ∀ l : List UInt8, c ∈ l → ∃ a b, l = a ++ c :: b ∧ c ∉ a
  | x :: t, h => by
    by_cases e : x = c
    · subst e; exact ⟨[], t, rfl, by simp⟩
    · obtain ⟨a, b, rfl, hn⟩ := split_first c t (by
        rcases List.mem_cons.1 h with h | h
        · exact absurd h.symm e
        · exact h)
      refine ⟨x :: a, b, rfl, fun hm => ?_⟩
      rcases List.mem_cons.1 hm with h | h
      · exact e h.symm
      · exact hn h
theorem split_unique (c : UInt8) : ∀ {a a' b b' : List UInt8}, a ++ c :: b = a' ++ c :: b' → c ∉ a → c ∉ a' → a = a' ∧ b = b'
  | [], [], b, b', h, _, _ => by injection h with _ h; exact ⟨rfl, h⟩
  | [], y :: t, b, b', h, _, hn => by
    injection h with h1 _
    exact absurd (List.mem_cons.2 (.inl h1)) hn
  | x :: t, [], b, b', h, hn, _ => by
    injection h with h1 _
    exact absurd (List.mem_cons.2 (.inl h1.symm)) hn
  | x :: t, y :: u, b, b', h, h1, h2 => by
    injection h with e1 e2
    obtain ⟨r1, r2⟩ := split_unique c e2 (fun hm => h1 (List.mem_cons_of_mem _ hm)) (fun hm => h2 (List.mem_cons_of_mem _ hm))
    exact ⟨by rw [e1, r1], r2⟩
/-- three parts: how they stand -/
theorem parts_three (c : UInt8) (s p0 p1 p2 : ByteArray) (h : partsB c s = [p0, p1, p2]) : s.data.toList = p0.data.toList ++ c :: (p1.data.toList ++ c :: p2.data.toList) ∧ c ∉ p0.data.toList ∧ c ∉ p1.data.toList ∧ c ∉ p2.data.toList := by
  by_cases h0 : c ∈ s.data.toList
  · obtain ⟨a, b, e, ha⟩ := split_first c _ h0
    rw [parts_cons c s a b e ha] at h
    injection h with q0 h
    by_cases h1 : c ∈ b
    · obtain ⟨a1, b1, e1, ha1⟩ := split_first c _ h1
      rw [parts_cons c ⟨b.toArray⟩ a1 b1 e1 ha1] at h
      injection h with q1 h
      by_cases h2 : c ∈ b1
      · obtain ⟨a2, b2, e2, ha2⟩ := split_first c _ h2
        rw [parts_cons c ⟨b1.toArray⟩ a2 b2 e2 ha2] at h
        injection h with _ h
        have := parts_len c ⟨b2.toArray⟩
        rw [h] at this
        simp at this
      · rw [parts_one c ⟨b1.toArray⟩ h2] at h
        injection h with q2 _
        subst q0 q1 q2
        exact ⟨by rw [e]; show a ++ c :: b = _; rw [show b = a1 ++ c :: b1 from e1], ha, ha1, h2⟩
    · rw [parts_one c ⟨b.toArray⟩ h1] at h
      injection h with _ h
      cases h
  · rw [parts_one c s h0] at h
    injection h with _ h
    cases h
end Go.Proofs.YtpoljchfgdnmbaaDoor.X

-- PRINTED by print.py (a twelfth state) out of the translation. Not trusted: Lean checks it.
namespace Go.Proofs.YtpoljchfgdnmbaaDoor.X
open Go.RowKit Go.Proofs.YtpoljchfgdnmbaaDoorW.PrintWords Go.Proofs.YtpoljchfgdnmbaaDoorW.PrintLast Go.Proofs.YtpoljchfgdnmbaaDoorW.PrintMore
attribute [local go_sem] max2_int min2_int max_two min_two max_three min_three max_four min_four   -- for this text's walks alone
set_option linter.unusedVariables false
set_option linter.unusedSimpArgs false
open Go.Proofs.YtpoljchfgdnmbaaDoor.T

/-! ### tollhouseref06_minor: function 22 -/
def tollhouseref06_minor.f (a0 : ByteArray) : Option (Int) := if a0.toList = ([72, 84, 84, 80, 47, 49, 46, 48] : List UInt8) then (some 0) else (if a0.toList = ([72, 84, 84, 80, 47, 49, 46, 49] : List UInt8) then (some 1) else (some (-1)))
set_option maxHeartbeats 8000000 in
set_option maxRecDepth 100000 in
theorem tollhouseref06_minor.calls (a0 : ByteArray) (r : Int) (w : World) (HGg : Glob w) (h : tollhouseref06_minor.f a0 = some r) :
    Calls Tryd.prog 22 #[.string a0] w fun e w' => e = .returned (.int .i64 r) ∧ Drawn0 w w' := by
  have HGl := Aside0.mk HGg
  clear HGg
  have H : (if a0.toList = ([72, 84, 84, 80, 47, 49, 46, 48] : List UInt8) then (some 0) else (if a0.toList = ([72, 84, 84, 80, 47, 49, 46, 49] : List UInt8) then (some 1) else (some (-1)))) = some r := h
  clear h
  by_cases c2 : a0.toList = ([72, 84, 84, 80, 47, 49, 46, 48] : List UInt8)
  · rw [if_pos c2] at H
    have c2b0 : (a0.toList == ([72, 84, 84, 80, 47, 49, 46, 48] : List UInt8)) = true := beq_iff_eq.mpr c2
    have c2b1 : (a0.toList != ([72, 84, 84, 80, 47, 49, 46, 48] : List UInt8)) = false := bne_eq_false_iff_eq.mpr c2
    clear c2
    obtain rfl := Option.some.inj H
    go_enter Tryd.func22, Tryd.ntmps22
    go_wp2
    go_ret
    exact ⟨by first | rfl | (simp; done) | (simp [*]; done), by repeat (first | exact Drawn0.refl _ | apply Drawn0.step)⟩
  · rw [if_neg c2] at H
    have c2b0 : (a0.toList == ([72, 84, 84, 80, 47, 49, 46, 48] : List UInt8)) = false := beq_eq_false_iff_ne.mpr c2
    have c2b1 : (a0.toList != ([72, 84, 84, 80, 47, 49, 46, 48] : List UInt8)) = true := bne_iff_ne.mpr c2
    by_cases c3 : a0.toList = ([72, 84, 84, 80, 47, 49, 46, 49] : List UInt8)
    · rw [if_pos c3] at H
      have c3b0 : (a0.toList == ([72, 84, 84, 80, 47, 49, 46, 49] : List UInt8)) = true := beq_iff_eq.mpr c3
      have c3b1 : (a0.toList != ([72, 84, 84, 80, 47, 49, 46, 49] : List UInt8)) = false := bne_eq_false_iff_eq.mpr c3
      clear c3
      obtain rfl := Option.some.inj H
      go_enter Tryd.func22, Tryd.ntmps22
      go_wp2
      go_ret
      exact ⟨by first | rfl | (simp; done) | (simp [*]; done), by repeat (first | exact Drawn0.refl _ | apply Drawn0.step)⟩
    · rw [if_neg c3] at H
      have c3b0 : (a0.toList == ([72, 84, 84, 80, 47, 49, 46, 49] : List UInt8)) = false := beq_eq_false_iff_ne.mpr c3
      have c3b1 : (a0.toList != ([72, 84, 84, 80, 47, 49, 46, 49] : List UInt8)) = true := bne_iff_ne.mpr c3
      obtain rfl := Option.some.inj H
      go_enter Tryd.func22, Tryd.ntmps22
      go_wp2
      go_ret
      exact ⟨by first | rfl | (simp; done) | (simp [*]; done), by repeat (first | exact Drawn0.refl _ | apply Drawn0.step)⟩

end Go.Proofs.YtpoljchfgdnmbaaDoor.X

-- PRINTED by print.py (a twelfth state) out of the translation. Not trusted: Lean checks it.
namespace Go.Proofs.YtpoljchfgdnmbaaDoor.X
open Go.RowKit Go.Proofs.YtpoljchfgdnmbaaDoorW.PrintWords Go.Proofs.YtpoljchfgdnmbaaDoorW.PrintLast Go.Proofs.YtpoljchfgdnmbaaDoorW.PrintMore
attribute [local go_sem] max2_int min2_int max_two min_two max_three min_three max_four min_four   -- for this text's walks alone
set_option linter.unusedVariables false
set_option linter.unusedSimpArgs false
open Go.Proofs.YtpoljchfgdnmbaaDoor.T

/-! ### tollhouseref06_target: function 24 -/
def tollhouseref06_target.l0 : Nat → ByteArray → Int → Option (Bool)
  | 0, _, _ => none
  | k + 1, x0, x3 => if x3 < (x0.size : Int) then (if 0 ≤ x3 then (if (bt x0 x3) < 33 then (some false) else (if (bt x0 x3) > 126 then (some false) else (tollhouseref06_target.l0 k x0 (wrap64 (x3 + 1))))) else (none)) else (some (decide ((x0.size : Int) > 0)))
def tollhouseref06_target.f (k : Nat) (a0 : ByteArray) : Option (Bool) := tollhouseref06_target.l0 k a0 0
theorem tollhouseref06_target.mono_l : ∀ k, (∀ y0 y1, LeO (tollhouseref06_target.l0 k y0 y1) (tollhouseref06_target.l0 (k + 1) y0 y1))
  | 0 => fun _ _ r h => by simp [tollhouseref06_target.l0] at h
  | k + 1 => by
    have ih0 := tollhouseref06_target.mono_l k
    · intro y0 y1
      unfold tollhouseref06_target.l0
      repeat' first
      | (with_reducible exact ih0 _ _)
      | (with_reducible exact LeO.refl _)
      | (with_reducible exact LeO.none _)
      | (with_reducible refine LeO.ite ?_ ?_)
      | (with_reducible refine LeO.bind ?_ (fun _ => ?_))
      | exact ih0 _ _
      | exact LeO.none _
      | refine LeO.ite ?_ ?_
      | refine LeO.bind ?_ (fun _ => ?_)
theorem tollhouseref06_target.mono : ∀ a0 k, LeO (tollhouseref06_target.f k a0) (tollhouseref06_target.f (k + 1) a0) := by
  intro a0 k
  have ih0 := tollhouseref06_target.mono_l k
  unfold tollhouseref06_target.f
  repeat' first
      | (with_reducible exact ih0 _ _)
      | (with_reducible exact LeO.refl _)
      | (with_reducible exact LeO.none _)
      | (with_reducible refine LeO.ite ?_ ?_)
      | (with_reducible refine LeO.bind ?_ (fun _ => ?_))
      | exact ih0 _ _
      | exact LeO.none _
      | refine LeO.ite ?_ ?_
      | refine LeO.bind ?_ (fun _ => ?_)
set_option maxHeartbeats 8000000 in
set_option maxRecDepth 100000 in
theorem tollhouseref06_target.calls (k : Nat) (a0 : ByteArray) (r : Bool) (w : World) (HGg : Glob w) (h : tollhouseref06_target.f k a0 = some r) :
    Calls Tryd.prog 24 #[.string a0] w fun e w' => e = .returned (.bool r) ∧ Drawn0 w w' := by
  have HGl := Aside0.mk HGg
  clear HGg
  have H : (tollhouseref06_target.l0 k a0 0) = some r := h
  clear h
  have H' := Aside0.mk H
  clear H
  go_enter Tryd.func24, Tryd.ntmps24
  go_wp2
  go_loopg [3] k (fun kq v3 w' => ∃ (x3_1 : Int), v3 = .int .i64 x3_1 ∧ Aside0 (tollhouseref06_target.l0 kq a0 x3_1 = some r) ∧ Aside0 (kq ≤ k) ∧ Drawn0 w w')
  case atStart => exact ⟨(0), (by first | rfl | (simp; done) | (simp [*]; done)), H', ⟨Nat.le_refl _⟩, by repeat (first | exact Drawn0.refl _ | apply Drawn0.step)⟩
  case round =>
    clear H'
    obtain ⟨x3_1, rfl, HA, HK1, ⟨m1, rfl⟩⟩ := hrel
    cases gk with
    | zero => exact absurd HA.out (by simp [tollhouseref06_target.l0])
    | succ k1 =>
      have H := HA.out
      clear HA
      simp only [tollhouseref06_target.l0] at H
      by_cases c2 : x3_1 < (a0.size : Int)
      · rw [if_pos c2] at H
        have c2b0 : decide (x3_1 < (a0.size : Int)) = true := decide_eq_true c2
        clear c2
        by_cases c3 : 0 ≤ x3_1
        · rw [if_pos c3] at H
          have c3b0 : decide (0 ≤ x3_1) = true := decide_eq_true c3
          clear c3
          by_cases c5 : (bt a0 x3_1) < 33
          · rw [if_pos c5] at H
            have c5b0 : decide ((bt a0 x3_1) < 33) = true := decide_eq_true c5
            clear c5
            obtain rfl := Option.some.inj H
            have p4 : 0 ≤ (x3_1 : Int) := of_decide_eq_true (by first | (with_reducible assumption) | assumption)
            have q4 : x3_1 < (a0.size : Int) := of_decide_eq_true (by first | (with_reducible assumption) | assumption)
            have hx4 := bt_at a0 x3_1
            replace p4 := eq_true p4
            replace q4 := eq_true q4
            go_wp2
            go_ret
            exact ⟨by first | rfl | (simp; done) | (simp [*]; done), by repeat (first | exact Drawn0.refl _ | apply Drawn0.step)⟩
          · rw [if_neg c5] at H
            have c5b0 : decide ((bt a0 x3_1) < 33) = false := decide_eq_false c5
            clear c5
            by_cases c7 : (bt a0 x3_1) > 126
            · rw [if_pos c7] at H
              have c7b0 : decide (126 < (bt a0 x3_1)) = true := decide_eq_true c7
              clear c7
              obtain rfl := Option.some.inj H
              have p4 : 0 ≤ (x3_1 : Int) := of_decide_eq_true (by first | (with_reducible assumption) | assumption)
              have q4 : x3_1 < (a0.size : Int) := of_decide_eq_true (by first | (with_reducible assumption) | assumption)
              have hx4 := bt_at a0 x3_1
              replace p4 := eq_true p4
              replace q4 := eq_true q4
              have p6 : 0 ≤ (x3_1 : Int) := of_decide_eq_true (by first | (with_reducible assumption) | assumption)
              have q6 : x3_1 < (a0.size : Int) := of_decide_eq_true (by first | (with_reducible assumption) | assumption)
              have hx6 := bt_at a0 x3_1
              replace p6 := eq_true p6
              replace q6 := eq_true q6
              go_wp2
              go_ret
              exact ⟨by first | rfl | (simp; done) | (simp [*]; done), by repeat (first | exact Drawn0.refl _ | apply Drawn0.step)⟩
            · rw [if_neg c7] at H
              have c7b0 : decide (126 < (bt a0 x3_1)) = false := decide_eq_false c7
              clear c7
              have H' := Aside0.mk H
              clear H
              have p4 : 0 ≤ (x3_1 : Int) := of_decide_eq_true (by first | (with_reducible assumption) | assumption)
              have q4 : x3_1 < (a0.size : Int) := of_decide_eq_true (by first | (with_reducible assumption) | assumption)
              have hx4 := bt_at a0 x3_1
              replace p4 := eq_true p4
              replace q4 := eq_true q4
              have p6 : 0 ≤ (x3_1 : Int) := of_decide_eq_true (by first | (with_reducible assumption) | assumption)
              have q6 : x3_1 < (a0.size : Int) := of_decide_eq_true (by first | (with_reducible assumption) | assumption)
              have hx6 := bt_at a0 x3_1
              replace p6 := eq_true p6
              replace q6 := eq_true q6
              go_wp2
              go_roundg k1
              case measure => have := HK1.out; omega
              case rel => exact ⟨(wrap64 (x3_1 + 1)), (by first | rfl | (simp; done) | (simp [*]; done)), H', ⟨by have := HK1.out; omega⟩, by repeat (first | exact Drawn0.refl _ | apply Drawn0.step)⟩
        · rw [if_neg c3] at H
          exact absurd H (by simp)
      · rw [if_neg c2] at H
        have c2b0 : decide (x3_1 < (a0.size : Int)) = false := decide_eq_false c2
        clear c2
        obtain rfl := Option.some.inj H
        go_wp2
        go_ret
        exact ⟨by first | rfl | (simp; done) | (simp [*]; done), by repeat (first | exact Drawn0.refl _ | apply Drawn0.step)⟩

end Go.Proofs.YtpoljchfgdnmbaaDoor.X

/- tollhouseref02.Token over this program: it tells what text.Token tells. -/
namespace Go.Proofs.YtpoljchfgdnmbaaDoor.T
open Go.RowKit
set_option linter.unusedSimpArgs false
set_option linter.unusedVariables false
def sgL : List UInt8 := [33, 35, 36, 37, 38, 39, 42, 43, 45, 46, 94, 95, 96, 124, 126]
def alnum (c : UInt8) : Bool := (97 ≤ c && c ≤ 122) || (65 ≤ c && c ≤ 90) || (48 ≤ c && c ≤ 57)
/-- among the first k signs -/
def inSg (k : Nat) (c : UInt8) : Bool := (sgL.take k).contains c
theorem inSg_succ (k : Nat) (hk : k < 15) (c : UInt8) : inSg (k + 1) c = (inSg k c || c == sgL.getD k 0) := by
  have h : ∀ k : Fin 15, ∀ n : Fin 256, inSg (k.val + 1) (UInt8.ofNat n.val) = (inSg k.val (UInt8.ofNat n.val) || UInt8.ofNat n.val == sgL.getD k.val 0) := by decide +kernel
  have := h ⟨k, hk⟩ ⟨c.toNat, c.toNat_lt⟩
  simpa using this
theorem tok_alt (c : UInt8) : isTok c = (alnum c || inSg 15 c) := by
  have h : ∀ n : Fin 256, isTok (UInt8.ofNat n.val) = (alnum (UInt8.ofNat n.val) || inSg 15 (UInt8.ofNat n.val)) := by decide +kernel
  have := h ⟨c.toNat, c.toNat_lt⟩
  simpa using this
theorem alnum_spec (c : UInt8) : alnum c = ((decide (97 ≤ (c.toNat : Int)) && decide ((c.toNat : Int) ≤ 122)) || (decide (65 ≤ (c.toNat : Int)) && decide ((c.toNat : Int) ≤ 90)) || (decide (48 ≤ (c.toNat : Int)) && decide ((c.toNat : Int) ≤ 57))) := by
  have h : ∀ n : Fin 256, alnum (UInt8.ofNat n.val) = ((decide (97 ≤ ((UInt8.ofNat n.val).toNat : Int)) && decide (((UInt8.ofNat n.val).toNat : Int) ≤ 122)) || (decide (65 ≤ ((UInt8.ofNat n.val).toNat : Int)) && decide (((UInt8.ofNat n.val).toNat : Int) ≤ 90)) || (decide (48 ≤ ((UInt8.ofNat n.val).toNat : Int)) && decide (((UInt8.ofNat n.val).toNat : Int) ≤ 57))) := by decide +kernel
  have := h ⟨c.toNat, c.toNat_lt⟩
  simpa using this
theorem classes (x : Int) : (97 ≤ x ∧ x ≤ 122) ∨ (65 ≤ x ∧ x ≤ 90) ∨ (48 ≤ x ∧ x ≤ 57) ∨ x < 48 ∨ (57 < x ∧ x < 65) ∨ (90 < x ∧ x < 97) ∨ 122 < x := by omega
theorem beq_nat (a b : UInt8) : (a == b) = ((a.toNat : Int) == (b.toNat : Int)) := by
  rw [Bool.eq_iff_iff]
  simp only [beq_iff_eq]
  constructor
  · intro h; rw [h]
  · intro h; exact UInt8.toNat_inj.1 (by omega)
theorem sg_at (k : Nat) (hk : k < 15) : (⟨#[33, 35, 36, 37, 38, 39, 42, 43, 45, 46, 94, 95, 96, 124, 126]⟩ : ByteArray)[k]'hk = sgL.getD k 0 := by
  have h : ∀ k : Fin 15, (⟨#[33, 35, 36, 37, 38, 39, 42, 43, 45, 46, 94, 95, 96, 124, 126]⟩ : ByteArray)[k.val]'(k.2) = sgL.getD k.val 0 := by decide
  exact h ⟨k, hk⟩
theorem bool_val {a b : Bool} (h : a = b) : Value.bool a = .bool b := by rw [h]
set_option maxHeartbeats 4000000 in
theorem rtoken_any (s : ByteArray) (w : World) (hs : s.size ≤ 9223372036854775807) :
    Calls Tryd.prog 23 #[.string s] w fun e w' => e = .returned (.bool (tokenB s)) ∧ w = w' := by
  have HL := Lib.hid (size_toList s)
  go_enter Tryd.func23, Tryd.ntmps23
  go_wp2
  go_loopg [4, 5, 6, 7] s.size (fun gg s4 _ _ _ wr => ∃ kk : Nat, kk ≤ s.size ∧ s.size - kk ≤ gg ∧ s4 = .int .i64 kk ∧ wr = w ∧ Aside (∀ j, j < kk → isTok (s.data.toList.getD j 0) = true))
  case atStart => exact ⟨0, Nat.zero_le _, by omega, rfl, rfl, fun j hj => absurd hj (Nat.not_lt_zero _)⟩
  case round =>
    obtain ⟨kk, hkk, hg, rfl, rfl, A⟩ := hrel
    obtain ⟨wo, rfl⟩ : ∃ wo : World, wo = wr := ⟨_, rfl⟩
    by_cases hlt : kk < s.size
    · have hltz : (kk : Int) < (s.size : Int) := by omega
      have HY : Hid (s.data.toList.getD kk 0 = s[kk]) := Lib.hid (by rw [List.getD_eq_getElem?_getD, List.getElem?_eq_getElem (by rw [HL.out]; exact hlt)]; rfl)
      have HA := Lib.hid (alnum_spec s[kk])
      rcases classes ((s[kk]).toNat : Int) with hcl | hcl | hcl | hcl | hcl | hcl | hcl
      all_goals
        have hcl1 := hcl
        try (obtain ⟨hca, hcb⟩ := hcl1)
        go_wp2
        go_loopg [6, 7] 15 (fun gg s6 s7 wr => ∃ k : Nat, k ≤ 15 ∧ 15 - k ≤ gg ∧ s7 = .int .i64 k ∧ s6 = .bool (alnum s[kk] || inSg k s[kk]) ∧ wr = wo)
        case atStart =>
          refine ⟨0, by omega, by omega, rfl, ?_, rfl⟩
          have h0 : inSg 0 s[kk] = false := rfl
          rw [h0, HA.out]
          congr 1
          rw [Bool.eq_iff_iff]
          simp only [Bool.or_eq_true, Bool.and_eq_true, decide_eq_true_eq, true_iff, Bool.false_eq_true, false_iff, or_false]
          omega
        case round =>
          obtain ⟨k, hk, hgk, rfl, rfl, rfl⟩ := hrel
          generalize hx : (alnum s[kk] || inSg k s[kk]) = x
          have HX := Lib.hid hx
          clear hx
          by_cases hlk : k < 15
          · have hltk : (k : Int) < 15 := by omega
            cases x with
            | true =>
              go_wp2
              go_roundg (15 - (k + 1))
              case measure => omega
              case rel =>
                refine ⟨k + 1, by omega, by omega, by go_num, ?_, rfl⟩
                rw [inSg_succ k hlk, ← Bool.or_assoc, HX.out]
                rfl
            | false =>
              go_wp2
              go_roundg (15 - (k + 1))
              case measure => omega
              case rel =>
                refine ⟨k + 1, by omega, by omega, by go_num, bool_val ?_, rfl⟩
                rw [inSg_succ k hlk, ← Bool.or_assoc, HX.out, Bool.false_or, beq_nat, sg_at k hlk, Bool.beq_comm]
          · have hltk : ¬ (k : Int) < 15 := by omega
            obtain rfl : k = 15 := by omega
            rw [← tok_alt] at HX
            cases x with
            | true =>
              go_wp2
              go_roundg (s.size - (kk + 1))
              case measure => omega
              case rel =>
                refine ⟨kk + 1, by omega, by omega, by go_num, rfl, fun j hj => ?_⟩
                by_cases e : j = kk
                · subst e; rw [HY.out]; exact HX.out
                · exact A.out j (by omega)
            | false =>
              go_wp2
              go_ret
              refine ⟨ret_bool ?_, rfl⟩
              unfold tokenB
              rw [all_no_getD isTok 0 s.data.toList kk (by rw [HL.out]; exact hlt) (by rw [HY.out]; exact HX.out), Bool.and_false]
    · have hltz : ¬ (kk : Int) < (s.size : Int) := by omega
      obtain rfl : kk = s.size := by omega
      go_wp2
      go_ret
      refine ⟨ret_bool ?_, rfl⟩
      unfold tokenB
      rw [all_of_getD isTok 0 s.data.toList (by rw [HL.out]; exact A.out), Bool.and_true, ← HL.out]
      cases s.data.toList <;> simp
end Go.Proofs.YtpoljchfgdnmbaaDoor.T

/- tollhouseref02.Token in the print's form. -/
namespace Go.Proofs.YtpoljchfgdnmbaaDoor.X
open Go.RowKit Go.Proofs.YtpoljchfgdnmbaaDoorW.PrintWords Go.Proofs.YtpoljchfgdnmbaaDoor.T
set_option linter.unusedVariables false
def tollhouseref02_Token.f (a0 : ByteArray) : Option Bool := if a0.size ≤ 9223372036854775807 then some (tokenB a0) else none
theorem tollhouseref02_Token.calls (a0 : ByteArray) (r : Bool) (w : World) (HGg : Glob w) (h : tollhouseref02_Token.f a0 = some r) : Calls Tryd.prog 23 #[.string a0] w fun e w' => e = .returned (.bool r) ∧ Drawn0 w w' := by
  obtain ⟨h1, rfl⟩ := of_lim h; exact (rtoken_any a0 w h1).mono fun e w' ⟨he, hw⟩ => ⟨he, drawn_same hw.symm⟩
end Go.Proofs.YtpoljchfgdnmbaaDoor.X
