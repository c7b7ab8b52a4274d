-- PRINTED by print.py (a twelfth state) out of the translation. Not trusted: Lean checks it.
import Derived.Test.YtjdlaofeenblkaaDoorX0
import Derived.Test.YtjdlaofeenblkaaDoorX5
import Derived.Test.YtjdlaofeenblkaaDoorX6
import Derived.Test.YtjdlaofeenblkaaDoorHAcl
import Derived.Test.YtjdlaofeenblkaaDoorHAcl0
import Derived.Test.YtjdlaofeenblkaaDoorGlob
namespace Go.Proofs.YtjdlaofeenblkaaDoor.X
open Go.RowKit Go.Proofs.YtjdlaofeenblkaaDoorW.PrintWords Go.Proofs.YtjdlaofeenblkaaDoorW.PrintLast Go.Proofs.YtjdlaofeenblkaaDoorW.PrintMore
attribute [local go_sem] max2_int min2_int max_two min_two max_three min_three max_four min_four   -- for this text's walks alone
set_option linter.unusedVariables false
set_option linter.unusedSimpArgs false
open Go.Proofs.YtjdlaofeenblkaaDoor.T

/-! ### tollhouseref14_Admits: function 19 -/
def tollhouseref14_Admits.l0 : Nat → List (S25) → ByteArray → Int → ByteArray → Int → Option (Bool)
  | 0, _, _, _, _, _ => none
  | k + 1, x0, x1, x2, x3, x9 => if x9 < (x0.length : Int) then (if 0 ≤ x9 then ((tollhouseref14_Matches.f k ((rd_T25 x0 x9).f0) ((rd_T25 x0 x9).f1) ((rd_T25 x0 x9).f2) ((rd_T25 x0 x9).f3) ((rd_T25 x0 x9).f4) x1 x2 x3).bind fun t132 => (if t132 = true then (some ((rd_T25 x0 x9).f0)) else (tollhouseref14_Admits.l0 k x0 x1 x2 x3 (wrap64 (x9 + 1))))) else (none)) else (some false)
def tollhouseref14_Admits.f (k : Nat) (l0 : List (S25)) (a1 : ByteArray) (a2 : Int) (a3 : ByteArray) : Option (Bool) := tollhouseref14_Admits.l0 k l0 a1 a2 a3 0
theorem tollhouseref14_Admits.mono_l : ∀ k, (∀ y0 y1 y2 y3 y4, LeO (tollhouseref14_Admits.l0 k y0 y1 y2 y3 y4) (tollhouseref14_Admits.l0 (k + 1) y0 y1 y2 y3 y4))
  | 0 => fun _ _ _ _ _ r h => by simp [tollhouseref14_Admits.l0] at h
  | k + 1 => by
    have ih0 := tollhouseref14_Admits.mono_l k
    · intro y0 y1 y2 y3 y4
      unfold tollhouseref14_Admits.l0
      repeat' first
      | (with_reducible exact ih0 _ _ _ _ _)
      | (with_reducible exact tollhouseref14_Matches.mono _ _ _ _ _ _ _ _ _)
      | (with_reducible exact LeO.refl _)
      | (with_reducible exact LeO.none _)
      | (with_reducible refine LeO.ite ?_ ?_)
      | (with_reducible refine LeO.bind ?_ (fun _ => ?_))
      | exact ih0 _ _ _ _ _
      | exact tollhouseref14_Matches.mono _ _ _ _ _ _ _ _ _
      | exact LeO.none _
      | refine LeO.ite ?_ ?_
      | refine LeO.bind ?_ (fun _ => ?_)
theorem tollhouseref14_Admits.mono : ∀ a0 a1 a2 a3 k, LeO (tollhouseref14_Admits.f k a0 a1 a2 a3) (tollhouseref14_Admits.f (k + 1) a0 a1 a2 a3) := by
  intro a0 a1 a2 a3 k
  have ih0 := tollhouseref14_Admits.mono_l k
  unfold tollhouseref14_Admits.f
  repeat' first
      | (with_reducible exact ih0 _ _ _ _ _)
      | (with_reducible exact tollhouseref14_Matches.mono _ _ _ _ _ _ _ _ _)
      | (with_reducible exact LeO.refl _)
      | (with_reducible exact LeO.none _)
      | (with_reducible refine LeO.ite ?_ ?_)
      | (with_reducible refine LeO.bind ?_ (fun _ => ?_))
      | exact ih0 _ _ _ _ _
      | exact tollhouseref14_Matches.mono _ _ _ _ _ _ _ _ _
      | exact LeO.none _
      | refine LeO.ite ?_ ?_
      | refine LeO.bind ?_ (fun _ => ?_)
set_option maxHeartbeats 8000000 in
set_option maxRecDepth 100000 in
theorem tollhouseref14_Admits.calls (k : Nat) (A0 : Option Addr) (c0 : Nat) (l0 : List (S25)) (a1 : ByteArray) (a2 : Int) (a3 : ByteArray) (r : Bool) (w : World) (hr0 : Kd.C k25 w A0 l0.length l0) (hc0 : l0.length ≤ c0) (HGg : Glob w) (h : tollhouseref14_Admits.f k l0 a1 a2 a3 = some r) :
    Calls Tryd.prog 19 #[.slice A0 l0.length c0, .string a1, .int .i64 a2, .string a3] w fun e w' => e = .returned (.bool r) ∧ Below w.heap.size w w' := by
  have hu25 := Tryd.underlying25
  have HGl := Aside0.mk HGg
  clear HGg
  have HR0 := Aside0.mk hr0
  have HC0 := Aside0.mk hc0
  clear hr0 hc0
  have HB := Aside0.mk (Below.refl w.heap.size w)
  have H : (tollhouseref14_Admits.l0 k l0 a1 a2 a3 0) = some r := h
  clear h
  have H' := Aside0.mk H
  clear H
  go_enter Tryd.func19, Tryd.ntmps19
  go_wp2
  go_loopg [9] k (fun kq v9 w' => ∃ (x9_1 : Int), v9 = .int .i64 x9_1 ∧ Aside0 (tollhouseref14_Admits.l0 kq l0 a1 a2 a3 x9_1 = some r) ∧ Aside0 (kq ≤ k) ∧ Aside0 (Below w.heap.size w w'))
  case atStart => exact ⟨(0), (by first | rfl | (simp; done) | (simp [*]; done)), H', ⟨Nat.le_refl _⟩, ⟨by repeat (first | (with_reducible first | exact HB.out | apply below_alloc | apply pw_below_drewN | apply below_drew1) | exact HB.out)⟩⟩
  case round =>
    clear H'
    try clear c1
    try clear p2
    obtain ⟨x9_1, rfl, HA, HK1, HB⟩ := hrel
    cases gk with
    | zero => exact absurd HA.out (by simp [tollhouseref14_Admits.l0])
    | succ k1 =>
      have H := HA.out
      clear HA
      simp only [tollhouseref14_Admits.l0] at H
      by_cases c5 : x9_1 < (l0.length : Int)
      · rw [if_pos c5] at H
        have c5b0 : decide (x9_1 < (l0.length : Int)) = true := decide_eq_true c5
        clear c5
        by_cases c6 : 0 ≤ x9_1
        · rw [if_pos c6] at H
          have c6b0 : decide (0 ≤ x9_1) = true := decide_eq_true c6
          clear c6
          replace H := Option.bind_eq_some_iff.mp H
          obtain ⟨t132, A70, H⟩ := H
          replace H : (if t132 = true then (some ((rd_T25 l0 x9_1).f0)) else (tollhouseref14_Admits.l0 k1 l0 a1 a2 a3 (wrap64 (x9_1 + 1)))) = some r := H
          have A7 := Aside0.mk A70
          clear A70
          by_cases c8 : t132 = true
          · subst c8
            have H1 : (some ((rd_T25 l0 x9_1).f0)) = some r := by rw [if_pos rfl] at H; exact H
            clear H
            have H := H1
            clear H1
            obtain rfl := Option.some.inj H
            have p131 : 0 ≤ (x9_1 : Int) := of_decide_eq_true (by first | (with_reducible assumption) | assumption)
            have q131 : x9_1 < (l0.length : Int) := of_decide_eq_true (by first | (with_reducible assumption) | assumption)
            obtain ⟨ad131, A131_4, c131_4, e131, hx131_0, hx131_1, hx131_2, hx131_3, hx131_4, hl131_4, hi131_4⟩ := at_T25 HR0.out x9_1 p131 q131
            cases e131
            replace hx131_0 := (HB.out.cell (World.block_lt_of_cell? w _ hx131_0)).trans hx131_0
            replace hx131_1 := (HB.out.cell (World.block_lt_of_cell? w _ hx131_1)).trans hx131_1
            replace hx131_2 := (HB.out.cell (World.block_lt_of_cell? w _ hx131_2)).trans hx131_2
            replace hx131_3 := (HB.out.cell (World.block_lt_of_cell? w _ hx131_3)).trans hx131_3
            replace hx131_4 := (HB.out.cell (World.block_lt_of_cell? w _ hx131_4)).trans hx131_4
            have HR131_4 := Aside0.mk hi131_4
            have HC131_4 := Aside0.mk hl131_4
            clear hi131_4 hl131_4
            replace p131 := eq_true p131
            replace q131 := eq_true q131
            go_wp2_with (first | ((with_reducible refine gate_callee (f := 17) rfl ?_); refine goesL_ (some 23) rfl rfl Tryd.func17 (by kernel_rfl) rfl #[.agg #[.bool ((rd_T25 l0 x9_1).f0), .string ((rd_T25 l0 x9_1).f1), .int .i64 ((rd_T25 l0 x9_1).f2), .int .i64 ((rd_T25 l0 x9_1).f3), .slice A131_4 ((rd_T25 l0 x9_1).f4).length c131_4], .string a1, .int .i64 a2, .string a3] rfl (by (try simp only [List.map_toArray, List.map_cons, List.map_nil]); first | done | rfl | (simp only [List.length_drop, List.length_take]; rfl)) ?_; (with_reducible refine (tollhouseref14_Matches.calls k1 ((rd_T25 l0 x9_1).f0) ((rd_T25 l0 x9_1).f1) ((rd_T25 l0 x9_1).f2) ((rd_T25 l0 x9_1).f3) _ _ ((rd_T25 l0 x9_1).f4) a1 a2 a3 true _ ?side1 ?side2 (Glob.below HGl.out (by repeat (first | (with_reducible first | exact HB.out | apply below_alloc | apply pw_below_drewN | apply below_drew1) | exact HB.out))) A7.out).mono ?_); (case side1 => repeat (first | exact (Kd.C_below HR131_4.out HB.out) | (with_reducible refine Kd.C_alloc ?_ _) | (with_reducible refine Kd.C_drewN ?_ _) | (with_reducible refine Kd.C_drew ?_))); (case side2 => exact HC131_4.out); rintro e w9 ⟨rfl, hb⟩; refine ⟨_, rfl, ?_⟩; have n0_ := Aside0.mk (below_step (by repeat (first | (with_reducible first | exact HB.out | apply below_alloc | apply pw_below_drewN | apply below_drew1) | exact HB.out)) hb); clear HB; have HB := n0_; clear n0_; (try clear hb); (try clear hb2); (try clear hk); (try clear hi); have p133 : 0 ≤ (x9_1 : Int) := of_decide_eq_true (by first | (with_reducible assumption) | assumption); have q133 : x9_1 < (l0.length : Int) := of_decide_eq_true (by first | (with_reducible assumption) | assumption); obtain ⟨ad133, A133_4, c133_4, e133, hx133_0, hx133_1, hx133_2, hx133_3, hx133_4, hl133_4, hi133_4⟩ := at_T25 HR0.out x9_1 p133 q133; obtain rfl : ad131 = ad133 := (by injection e133); replace hx133_0 := (HB.out.cell (World.block_lt_of_cell? w _ hx133_0)).trans hx133_0; replace hx133_1 := (HB.out.cell (World.block_lt_of_cell? w _ hx133_1)).trans hx133_1; replace hx133_2 := (HB.out.cell (World.block_lt_of_cell? w _ hx133_2)).trans hx133_2; replace hx133_3 := (HB.out.cell (World.block_lt_of_cell? w _ hx133_3)).trans hx133_3; replace hx133_4 := (HB.out.cell (World.block_lt_of_cell? w _ hx133_4)).trans hx133_4; have HR133_4 := Aside0.mk hi133_4; have HC133_4 := Aside0.mk hl133_4; clear hi133_4 hl133_4; replace p133 := eq_true p133; replace q133 := eq_true q133))
            go_ret
            exact ⟨by first | rfl | (simp [errW_none, errW_some] <;> rfl) | (simp [*, errW_none, errW_some] <;> rfl), by repeat (first | (with_reducible first | exact HB.out | apply below_alloc | apply pw_below_drewN | apply below_drew1) | exact HB.out)⟩
          · replace c8 := Bool.eq_false_iff.mpr c8
            subst c8
            have H1 : (tollhouseref14_Admits.l0 k1 l0 a1 a2 a3 (wrap64 (x9_1 + 1))) = some r := by rw [if_neg (show ¬ (false = true) by decide)] at H; exact H
            clear H
            have H := H1
            clear H1
            have H' := Aside0.mk H
            clear H
            have p131 : 0 ≤ (x9_1 : Int) := of_decide_eq_true (by first | (with_reducible assumption) | assumption)
            have q131 : x9_1 < (l0.length : Int) := of_decide_eq_true (by first | (with_reducible assumption) | assumption)
            obtain ⟨ad131, A131_4, c131_4, e131, hx131_0, hx131_1, hx131_2, hx131_3, hx131_4, hl131_4, hi131_4⟩ := at_T25 HR0.out x9_1 p131 q131
            cases e131
            replace hx131_0 := (HB.out.cell (World.block_lt_of_cell? w _ hx131_0)).trans hx131_0
            replace hx131_1 := (HB.out.cell (World.block_lt_of_cell? w _ hx131_1)).trans hx131_1
            replace hx131_2 := (HB.out.cell (World.block_lt_of_cell? w _ hx131_2)).trans hx131_2
            replace hx131_3 := (HB.out.cell (World.block_lt_of_cell? w _ hx131_3)).trans hx131_3
            replace hx131_4 := (HB.out.cell (World.block_lt_of_cell? w _ hx131_4)).trans hx131_4
            have HR131_4 := Aside0.mk hi131_4
            have HC131_4 := Aside0.mk hl131_4
            clear hi131_4 hl131_4
            replace p131 := eq_true p131
            replace q131 := eq_true q131
            go_wp2_with (first | ((with_reducible refine gate_callee (f := 17) rfl ?_); refine goesL_ (some 23) rfl rfl Tryd.func17 (by kernel_rfl) rfl #[.agg #[.bool ((rd_T25 l0 x9_1).f0), .string ((rd_T25 l0 x9_1).f1), .int .i64 ((rd_T25 l0 x9_1).f2), .int .i64 ((rd_T25 l0 x9_1).f3), .slice A131_4 ((rd_T25 l0 x9_1).f4).length c131_4], .string a1, .int .i64 a2, .string a3] rfl (by (try simp only [List.map_toArray, List.map_cons, List.map_nil]); first | done | rfl | (simp only [List.length_drop, List.length_take]; rfl)) ?_; (with_reducible refine (tollhouseref14_Matches.calls k1 ((rd_T25 l0 x9_1).f0) ((rd_T25 l0 x9_1).f1) ((rd_T25 l0 x9_1).f2) ((rd_T25 l0 x9_1).f3) _ _ ((rd_T25 l0 x9_1).f4) a1 a2 a3 false _ ?side1 ?side2 (Glob.below HGl.out (by repeat (first | (with_reducible first | exact HB.out | apply below_alloc | apply pw_below_drewN | apply below_drew1) | exact HB.out))) A7.out).mono ?_); (case side1 => repeat (first | exact (Kd.C_below HR131_4.out HB.out) | (with_reducible refine Kd.C_alloc ?_ _) | (with_reducible refine Kd.C_drewN ?_ _) | (with_reducible refine Kd.C_drew ?_))); (case side2 => exact HC131_4.out); rintro e w10 ⟨rfl, hb⟩; refine ⟨_, rfl, ?_⟩; have n0_ := Aside0.mk (below_step (by repeat (first | (with_reducible first | exact HB.out | apply below_alloc | apply pw_below_drewN | apply below_drew1) | exact HB.out)) hb); clear HB; have HB := n0_; clear n0_; (try clear hb); (try clear hb2); (try clear hk); (try clear hi)))
            go_roundg k1
            case measure => have := HK1.out; omega
            case rel => exact ⟨(wrap64 (x9_1 + 1)), (by first | rfl | (simp; done) | (simp [*]; done)), H', ⟨by have := HK1.out; omega⟩, ⟨by repeat (first | (with_reducible first | exact HB.out | apply below_alloc | apply pw_below_drewN | apply below_drew1) | exact HB.out)⟩⟩
        · rw [if_neg c6] at H
          exact absurd H (by simp)
      · rw [if_neg c5] at H
        have c5b0 : decide (x9_1 < (l0.length : Int)) = false := decide_eq_false c5
        clear c5
        obtain rfl := Option.some.inj H
        go_wp2
        go_ret
        exact ⟨by first | rfl | (simp [errW_none, errW_some] <;> rfl) | (simp [*, errW_none, errW_some] <;> rfl), by repeat (first | (with_reducible first | exact HB.out | apply below_alloc | apply pw_below_drewN | apply below_drew1) | exact HB.out)⟩

/-! ### tollhouselaw14_wakes: function 20 -/
def tollhouselaw14_wakes.f  : Option (Bool) := (some (([(⟨false, (⟨#[97]⟩ : ByteArray), 1, 65535, ([] : List ByteArray)⟩ : S25), (⟨true, (⟨#[42]⟩ : ByteArray), 1, 65535, (([(⟨#[71, 69, 84]⟩ : ByteArray)] : List ByteArray))⟩ : S25)] : List (S25)) : List (S25))).bind fun y138 => ((acl_Matches.f true (⟨#[46, 98, 46, 99]⟩ : ByteArray) 80 80 ([] : List ByteArray) (⟨#[97, 46, 98, 46, 99]⟩ : ByteArray) 80 (⟨#[88]⟩ : ByteArray)).bind fun t141 => (if t141 = true then ((acl_Matches.f true (⟨#[46, 98, 46, 99]⟩ : ByteArray) 80 80 ([] : List ByteArray) (⟨#[98, 46, 99]⟩ : ByteArray) 80 (⟨#[88]⟩ : ByteArray)).bind fun t142 => (if t142 = true then (some false) else ((acl_Matches.f true (⟨#[46, 98, 46, 99]⟩ : ByteArray) 80 80 ([] : List ByteArray) (⟨#[46, 98, 46, 99]⟩ : ByteArray) 80 (⟨#[88]⟩ : ByteArray)).bind fun t143 => (if t143 = true then (some false) else ((acl_Matches.f true (⟨#[46, 98, 46, 99]⟩ : ByteArray) 80 80 ([] : List ByteArray) (⟨#[97, 46, 98, 46, 99]⟩ : ByteArray) 81 (⟨#[88]⟩ : ByteArray)).bind fun t144 => (if t144 = true then (some false) else ((acl_Admits.f y138 (⟨#[97]⟩ : ByteArray) 80 (⟨#[71, 69, 84]⟩ : ByteArray)).bind fun t145 => (if t145 = true then (some false) else ((acl_Admits.f y138 (⟨#[98]⟩ : ByteArray) 80 (⟨#[71, 69, 84]⟩ : ByteArray)).bind fun t146 => (if t146 = true then ((acl_Admits.f y138 (⟨#[98]⟩ : ByteArray) 80 (⟨#[80, 79, 83, 84]⟩ : ByteArray)).bind fun t147 => (if t147 = true then (some false) else ((acl_All.f y138).bind fun t148 => (if t148 = true then ((acl_May.f true (⟨#[46, 98, 46, 99]⟩ : ByteArray) 80 80 ([] : List ByteArray)).bind fun t149 => (if t149 = true then ((acl_May.f false (⟨#[65]⟩ : ByteArray) 1 1 ([] : List ByteArray)).bind fun t150 => (some (!t150))) else (some false))) else (some false))))) else (some false))))))))))) else (some false)))
set_option maxHeartbeats 8000000 in
set_option maxRecDepth 100000 in
theorem tollhouselaw14_wakes.calls  (r : Bool) (w : World) (HGg : Glob w) (h : tollhouselaw14_wakes.f  = some r) :
    Calls Tryd.prog 20 #[] w fun e w' => e = .returned (.bool r) ∧ Below w.heap.size w w' := by
  have hu25 := Tryd.underlying25
  have HGl := Aside0.mk HGg
  clear HGg
  have HB := Aside0.mk (Below.refl w.heap.size w)
  have H : ((some (([(⟨false, (⟨#[97]⟩ : ByteArray), 1, 65535, ([] : List ByteArray)⟩ : S25), (⟨true, (⟨#[42]⟩ : ByteArray), 1, 65535, (([(⟨#[71, 69, 84]⟩ : ByteArray)] : List ByteArray))⟩ : S25)] : List (S25)) : List (S25))).bind fun y138 => ((acl_Matches.f true (⟨#[46, 98, 46, 99]⟩ : ByteArray) 80 80 ([] : List ByteArray) (⟨#[97, 46, 98, 46, 99]⟩ : ByteArray) 80 (⟨#[88]⟩ : ByteArray)).bind fun t141 => (if t141 = true then ((acl_Matches.f true (⟨#[46, 98, 46, 99]⟩ : ByteArray) 80 80 ([] : List ByteArray) (⟨#[98, 46, 99]⟩ : ByteArray) 80 (⟨#[88]⟩ : ByteArray)).bind fun t142 => (if t142 = true then (some false) else ((acl_Matches.f true (⟨#[46, 98, 46, 99]⟩ : ByteArray) 80 80 ([] : List ByteArray) (⟨#[46, 98, 46, 99]⟩ : ByteArray) 80 (⟨#[88]⟩ : ByteArray)).bind fun t143 => (if t143 = true then (some false) else ((acl_Matches.f true (⟨#[46, 98, 46, 99]⟩ : ByteArray) 80 80 ([] : List ByteArray) (⟨#[97, 46, 98, 46, 99]⟩ : ByteArray) 81 (⟨#[88]⟩ : ByteArray)).bind fun t144 => (if t144 = true then (some false) else ((acl_Admits.f y138 (⟨#[97]⟩ : ByteArray) 80 (⟨#[71, 69, 84]⟩ : ByteArray)).bind fun t145 => (if t145 = true then (some false) else ((acl_Admits.f y138 (⟨#[98]⟩ : ByteArray) 80 (⟨#[71, 69, 84]⟩ : ByteArray)).bind fun t146 => (if t146 = true then ((acl_Admits.f y138 (⟨#[98]⟩ : ByteArray) 80 (⟨#[80, 79, 83, 84]⟩ : ByteArray)).bind fun t147 => (if t147 = true then (some false) else ((acl_All.f y138).bind fun t148 => (if t148 = true then ((acl_May.f true (⟨#[46, 98, 46, 99]⟩ : ByteArray) 80 80 ([] : List ByteArray)).bind fun t149 => (if t149 = true then ((acl_May.f false (⟨#[65]⟩ : ByteArray) 1 1 ([] : List ByteArray)).bind fun t150 => (some (!t150))) else (some false))) else (some false))))) else (some false))))))))))) else (some false)))) = some r := h
  clear h
  obtain ⟨y135, hy135⟩ : ∃ y_ : List ByteArray, y_ = (([(⟨#[71, 69, 84]⟩ : ByteArray)] : List ByteArray)) := ⟨_, rfl⟩
  replace H : ((some (([(⟨false, (⟨#[97]⟩ : ByteArray), 1, 65535, ([] : List ByteArray)⟩ : S25), (⟨true, (⟨#[42]⟩ : ByteArray), 1, 65535, y135⟩ : S25)] : List (S25)) : List (S25))).bind fun y138 => ((acl_Matches.f true (⟨#[46, 98, 46, 99]⟩ : ByteArray) 80 80 ([] : List ByteArray) (⟨#[97, 46, 98, 46, 99]⟩ : ByteArray) 80 (⟨#[88]⟩ : ByteArray)).bind fun t141 => (if t141 = true then ((acl_Matches.f true (⟨#[46, 98, 46, 99]⟩ : ByteArray) 80 80 ([] : List ByteArray) (⟨#[98, 46, 99]⟩ : ByteArray) 80 (⟨#[88]⟩ : ByteArray)).bind fun t142 => (if t142 = true then (some false) else ((acl_Matches.f true (⟨#[46, 98, 46, 99]⟩ : ByteArray) 80 80 ([] : List ByteArray) (⟨#[46, 98, 46, 99]⟩ : ByteArray) 80 (⟨#[88]⟩ : ByteArray)).bind fun t143 => (if t143 = true then (some false) else ((acl_Matches.f true (⟨#[46, 98, 46, 99]⟩ : ByteArray) 80 80 ([] : List ByteArray) (⟨#[97, 46, 98, 46, 99]⟩ : ByteArray) 81 (⟨#[88]⟩ : ByteArray)).bind fun t144 => (if t144 = true then (some false) else ((acl_Admits.f y138 (⟨#[97]⟩ : ByteArray) 80 (⟨#[71, 69, 84]⟩ : ByteArray)).bind fun t145 => (if t145 = true then (some false) else ((acl_Admits.f y138 (⟨#[98]⟩ : ByteArray) 80 (⟨#[71, 69, 84]⟩ : ByteArray)).bind fun t146 => (if t146 = true then ((acl_Admits.f y138 (⟨#[98]⟩ : ByteArray) 80 (⟨#[80, 79, 83, 84]⟩ : ByteArray)).bind fun t147 => (if t147 = true then (some false) else ((acl_All.f y138).bind fun t148 => (if t148 = true then ((acl_May.f true (⟨#[46, 98, 46, 99]⟩ : ByteArray) 80 80 ([] : List ByteArray)).bind fun t149 => (if t149 = true then ((acl_May.f false (⟨#[65]⟩ : ByteArray) 1 1 ([] : List ByteArray)).bind fun t150 => (some (!t150))) else (some false))) else (some false))))) else (some false))))))))))) else (some false)))) = some r := by first | (rw [hy135]; with_reducible exact H) | (have H2_ := (Option.bind_some _ _).symm.trans H; rw [hy135]; with_reducible exact H2_) | (have H2_ := (Option.bind_some _ _).symm.trans H; with_reducible exact H2_) | with_reducible exact H | (rw [hy135]; exact H) | exact H
  have Ny135 := Aside0.mk hy135
  clear hy135
  obtain ⟨y138, hy138⟩ : ∃ y_ : List (S25), y_ = (([(⟨false, (⟨#[97]⟩ : ByteArray), 1, 65535, ([] : List ByteArray)⟩ : S25), (⟨true, (⟨#[42]⟩ : ByteArray), 1, 65535, y135⟩ : S25)] : List (S25))) := ⟨_, rfl⟩
  replace H : ((acl_Matches.f true (⟨#[46, 98, 46, 99]⟩ : ByteArray) 80 80 ([] : List ByteArray) (⟨#[97, 46, 98, 46, 99]⟩ : ByteArray) 80 (⟨#[88]⟩ : ByteArray)).bind fun t141 => (if t141 = true then ((acl_Matches.f true (⟨#[46, 98, 46, 99]⟩ : ByteArray) 80 80 ([] : List ByteArray) (⟨#[98, 46, 99]⟩ : ByteArray) 80 (⟨#[88]⟩ : ByteArray)).bind fun t142 => (if t142 = true then (some false) else ((acl_Matches.f true (⟨#[46, 98, 46, 99]⟩ : ByteArray) 80 80 ([] : List ByteArray) (⟨#[46, 98, 46, 99]⟩ : ByteArray) 80 (⟨#[88]⟩ : ByteArray)).bind fun t143 => (if t143 = true then (some false) else ((acl_Matches.f true (⟨#[46, 98, 46, 99]⟩ : ByteArray) 80 80 ([] : List ByteArray) (⟨#[97, 46, 98, 46, 99]⟩ : ByteArray) 81 (⟨#[88]⟩ : ByteArray)).bind fun t144 => (if t144 = true then (some false) else ((acl_Admits.f y138 (⟨#[97]⟩ : ByteArray) 80 (⟨#[71, 69, 84]⟩ : ByteArray)).bind fun t145 => (if t145 = true then (some false) else ((acl_Admits.f y138 (⟨#[98]⟩ : ByteArray) 80 (⟨#[71, 69, 84]⟩ : ByteArray)).bind fun t146 => (if t146 = true then ((acl_Admits.f y138 (⟨#[98]⟩ : ByteArray) 80 (⟨#[80, 79, 83, 84]⟩ : ByteArray)).bind fun t147 => (if t147 = true then (some false) else ((acl_All.f y138).bind fun t148 => (if t148 = true then ((acl_May.f true (⟨#[46, 98, 46, 99]⟩ : ByteArray) 80 80 ([] : List ByteArray)).bind fun t149 => (if t149 = true then ((acl_May.f false (⟨#[65]⟩ : ByteArray) 1 1 ([] : List ByteArray)).bind fun t150 => (some (!t150))) else (some false))) else (some false))))) else (some false))))))))))) else (some false))) = some r := by first | (rw [hy138]; with_reducible exact H) | (have H2_ := (Option.bind_some _ _).symm.trans H; rw [hy138]; with_reducible exact H2_) | (have H2_ := (Option.bind_some _ _).symm.trans H; with_reducible exact H2_) | with_reducible exact H | (rw [hy138]; exact H) | exact H
  have Ny138 := Aside0.mk hy138
  clear hy138
  replace H := Option.bind_eq_some_iff.mp H
  obtain ⟨t141, A10, H⟩ := H
  replace H : (if t141 = true then ((acl_Matches.f true (⟨#[46, 98, 46, 99]⟩ : ByteArray) 80 80 ([] : List ByteArray) (⟨#[98, 46, 99]⟩ : ByteArray) 80 (⟨#[88]⟩ : ByteArray)).bind fun t142 => (if t142 = true then (some false) else ((acl_Matches.f true (⟨#[46, 98, 46, 99]⟩ : ByteArray) 80 80 ([] : List ByteArray) (⟨#[46, 98, 46, 99]⟩ : ByteArray) 80 (⟨#[88]⟩ : ByteArray)).bind fun t143 => (if t143 = true then (some false) else ((acl_Matches.f true (⟨#[46, 98, 46, 99]⟩ : ByteArray) 80 80 ([] : List ByteArray) (⟨#[97, 46, 98, 46, 99]⟩ : ByteArray) 81 (⟨#[88]⟩ : ByteArray)).bind fun t144 => (if t144 = true then (some false) else ((acl_Admits.f y138 (⟨#[97]⟩ : ByteArray) 80 (⟨#[71, 69, 84]⟩ : ByteArray)).bind fun t145 => (if t145 = true then (some false) else ((acl_Admits.f y138 (⟨#[98]⟩ : ByteArray) 80 (⟨#[71, 69, 84]⟩ : ByteArray)).bind fun t146 => (if t146 = true then ((acl_Admits.f y138 (⟨#[98]⟩ : ByteArray) 80 (⟨#[80, 79, 83, 84]⟩ : ByteArray)).bind fun t147 => (if t147 = true then (some false) else ((acl_All.f y138).bind fun t148 => (if t148 = true then ((acl_May.f true (⟨#[46, 98, 46, 99]⟩ : ByteArray) 80 80 ([] : List ByteArray)).bind fun t149 => (if t149 = true then ((acl_May.f false (⟨#[65]⟩ : ByteArray) 1 1 ([] : List ByteArray)).bind fun t150 => (some (!t150))) else (some false))) else (some false))))) else (some false))))))))))) else (some false)) = some r := H
  have A1 := Aside0.mk A10
  clear A10
  by_cases c2 : t141 = true
  · subst c2
    have H1 : ((acl_Matches.f true (⟨#[46, 98, 46, 99]⟩ : ByteArray) 80 80 ([] : List ByteArray) (⟨#[98, 46, 99]⟩ : ByteArray) 80 (⟨#[88]⟩ : ByteArray)).bind fun t142 => (if t142 = true then (some false) else ((acl_Matches.f true (⟨#[46, 98, 46, 99]⟩ : ByteArray) 80 80 ([] : List ByteArray) (⟨#[46, 98, 46, 99]⟩ : ByteArray) 80 (⟨#[88]⟩ : ByteArray)).bind fun t143 => (if t143 = true then (some false) else ((acl_Matches.f true (⟨#[46, 98, 46, 99]⟩ : ByteArray) 80 80 ([] : List ByteArray) (⟨#[97, 46, 98, 46, 99]⟩ : ByteArray) 81 (⟨#[88]⟩ : ByteArray)).bind fun t144 => (if t144 = true then (some false) else ((acl_Admits.f y138 (⟨#[97]⟩ : ByteArray) 80 (⟨#[71, 69, 84]⟩ : ByteArray)).bind fun t145 => (if t145 = true then (some false) else ((acl_Admits.f y138 (⟨#[98]⟩ : ByteArray) 80 (⟨#[71, 69, 84]⟩ : ByteArray)).bind fun t146 => (if t146 = true then ((acl_Admits.f y138 (⟨#[98]⟩ : ByteArray) 80 (⟨#[80, 79, 83, 84]⟩ : ByteArray)).bind fun t147 => (if t147 = true then (some false) else ((acl_All.f y138).bind fun t148 => (if t148 = true then ((acl_May.f true (⟨#[46, 98, 46, 99]⟩ : ByteArray) 80 80 ([] : List ByteArray)).bind fun t149 => (if t149 = true then ((acl_May.f false (⟨#[65]⟩ : ByteArray) 1 1 ([] : List ByteArray)).bind fun t150 => (some (!t150))) else (some false))) else (some false))))) else (some false))))))))))) = some r := by rw [if_pos rfl] at H; exact H
    clear H
    have H := H1
    clear H1
    replace H := Option.bind_eq_some_iff.mp H
    obtain ⟨t142, A30, H⟩ := H
    replace H : (if t142 = true then (some false) else ((acl_Matches.f true (⟨#[46, 98, 46, 99]⟩ : ByteArray) 80 80 ([] : List ByteArray) (⟨#[46, 98, 46, 99]⟩ : ByteArray) 80 (⟨#[88]⟩ : ByteArray)).bind fun t143 => (if t143 = true then (some false) else ((acl_Matches.f true (⟨#[46, 98, 46, 99]⟩ : ByteArray) 80 80 ([] : List ByteArray) (⟨#[97, 46, 98, 46, 99]⟩ : ByteArray) 81 (⟨#[88]⟩ : ByteArray)).bind fun t144 => (if t144 = true then (some false) else ((acl_Admits.f y138 (⟨#[97]⟩ : ByteArray) 80 (⟨#[71, 69, 84]⟩ : ByteArray)).bind fun t145 => (if t145 = true then (some false) else ((acl_Admits.f y138 (⟨#[98]⟩ : ByteArray) 80 (⟨#[71, 69, 84]⟩ : ByteArray)).bind fun t146 => (if t146 = true then ((acl_Admits.f y138 (⟨#[98]⟩ : ByteArray) 80 (⟨#[80, 79, 83, 84]⟩ : ByteArray)).bind fun t147 => (if t147 = true then (some false) else ((acl_All.f y138).bind fun t148 => (if t148 = true then ((acl_May.f true (⟨#[46, 98, 46, 99]⟩ : ByteArray) 80 80 ([] : List ByteArray)).bind fun t149 => (if t149 = true then ((acl_May.f false (⟨#[65]⟩ : ByteArray) 1 1 ([] : List ByteArray)).bind fun t150 => (some (!t150))) else (some false))) else (some false))))) else (some false)))))))))) = some r := H
    have A3 := Aside0.mk A30
    clear A30
    by_cases c4 : t142 = true
    · subst c4
      have H1 : (some false) = some r := by rw [if_pos rfl] at H; exact H
      clear H
      have H := H1
      clear H1
      obtain rfl := Option.some.inj H
      have h_ := A3.out
      (try rw [Ny138.out] at h_)
      (try rw [Ny135.out] at h_)
      exact absurd h_ (by decide +kernel)
    · replace c4 := Bool.eq_false_iff.mpr c4
      subst c4
      have H1 : ((acl_Matches.f true (⟨#[46, 98, 46, 99]⟩ : ByteArray) 80 80 ([] : List ByteArray) (⟨#[46, 98, 46, 99]⟩ : ByteArray) 80 (⟨#[88]⟩ : ByteArray)).bind fun t143 => (if t143 = true then (some false) else ((acl_Matches.f true (⟨#[46, 98, 46, 99]⟩ : ByteArray) 80 80 ([] : List ByteArray) (⟨#[97, 46, 98, 46, 99]⟩ : ByteArray) 81 (⟨#[88]⟩ : ByteArray)).bind fun t144 => (if t144 = true then (some false) else ((acl_Admits.f y138 (⟨#[97]⟩ : ByteArray) 80 (⟨#[71, 69, 84]⟩ : ByteArray)).bind fun t145 => (if t145 = true then (some false) else ((acl_Admits.f y138 (⟨#[98]⟩ : ByteArray) 80 (⟨#[71, 69, 84]⟩ : ByteArray)).bind fun t146 => (if t146 = true then ((acl_Admits.f y138 (⟨#[98]⟩ : ByteArray) 80 (⟨#[80, 79, 83, 84]⟩ : ByteArray)).bind fun t147 => (if t147 = true then (some false) else ((acl_All.f y138).bind fun t148 => (if t148 = true then ((acl_May.f true (⟨#[46, 98, 46, 99]⟩ : ByteArray) 80 80 ([] : List ByteArray)).bind fun t149 => (if t149 = true then ((acl_May.f false (⟨#[65]⟩ : ByteArray) 1 1 ([] : List ByteArray)).bind fun t150 => (some (!t150))) else (some false))) else (some false))))) else (some false))))))))) = some r := by rw [if_neg (show ¬ (false = true) by decide)] at H; exact H
      clear H
      have H := H1
      clear H1
      replace H := Option.bind_eq_some_iff.mp H
      obtain ⟨t143, A160, H⟩ := H
      replace H : (if t143 = true then (some false) else ((acl_Matches.f true (⟨#[46, 98, 46, 99]⟩ : ByteArray) 80 80 ([] : List ByteArray) (⟨#[97, 46, 98, 46, 99]⟩ : ByteArray) 81 (⟨#[88]⟩ : ByteArray)).bind fun t144 => (if t144 = true then (some false) else ((acl_Admits.f y138 (⟨#[97]⟩ : ByteArray) 80 (⟨#[71, 69, 84]⟩ : ByteArray)).bind fun t145 => (if t145 = true then (some false) else ((acl_Admits.f y138 (⟨#[98]⟩ : ByteArray) 80 (⟨#[71, 69, 84]⟩ : ByteArray)).bind fun t146 => (if t146 = true then ((acl_Admits.f y138 (⟨#[98]⟩ : ByteArray) 80 (⟨#[80, 79, 83, 84]⟩ : ByteArray)).bind fun t147 => (if t147 = true then (some false) else ((acl_All.f y138).bind fun t148 => (if t148 = true then ((acl_May.f true (⟨#[46, 98, 46, 99]⟩ : ByteArray) 80 80 ([] : List ByteArray)).bind fun t149 => (if t149 = true then ((acl_May.f false (⟨#[65]⟩ : ByteArray) 1 1 ([] : List ByteArray)).bind fun t150 => (some (!t150))) else (some false))) else (some false))))) else (some false)))))))) = some r := H
      have A16 := Aside0.mk A160
      clear A160
      by_cases c17 : t143 = true
      · subst c17
        have H1 : (some false) = some r := by rw [if_pos rfl] at H; exact H
        clear H
        have H := H1
        clear H1
        obtain rfl := Option.some.inj H
        have h_ := A16.out
        (try rw [Ny138.out] at h_)
        (try rw [Ny135.out] at h_)
        exact absurd h_ (by decide +kernel)
      · replace c17 := Bool.eq_false_iff.mpr c17
        subst c17
        have H1 : ((acl_Matches.f true (⟨#[46, 98, 46, 99]⟩ : ByteArray) 80 80 ([] : List ByteArray) (⟨#[97, 46, 98, 46, 99]⟩ : ByteArray) 81 (⟨#[88]⟩ : ByteArray)).bind fun t144 => (if t144 = true then (some false) else ((acl_Admits.f y138 (⟨#[97]⟩ : ByteArray) 80 (⟨#[71, 69, 84]⟩ : ByteArray)).bind fun t145 => (if t145 = true then (some false) else ((acl_Admits.f y138 (⟨#[98]⟩ : ByteArray) 80 (⟨#[71, 69, 84]⟩ : ByteArray)).bind fun t146 => (if t146 = true then ((acl_Admits.f y138 (⟨#[98]⟩ : ByteArray) 80 (⟨#[80, 79, 83, 84]⟩ : ByteArray)).bind fun t147 => (if t147 = true then (some false) else ((acl_All.f y138).bind fun t148 => (if t148 = true then ((acl_May.f true (⟨#[46, 98, 46, 99]⟩ : ByteArray) 80 80 ([] : List ByteArray)).bind fun t149 => (if t149 = true then ((acl_May.f false (⟨#[65]⟩ : ByteArray) 1 1 ([] : List ByteArray)).bind fun t150 => (some (!t150))) else (some false))) else (some false))))) else (some false))))))) = some r := by rw [if_neg (show ¬ (false = true) by decide)] at H; exact H
        clear H
        have H := H1
        clear H1
        replace H := Option.bind_eq_some_iff.mp H
        obtain ⟨t144, A310, H⟩ := H
        replace H : (if t144 = true then (some false) else ((acl_Admits.f y138 (⟨#[97]⟩ : ByteArray) 80 (⟨#[71, 69, 84]⟩ : ByteArray)).bind fun t145 => (if t145 = true then (some false) else ((acl_Admits.f y138 (⟨#[98]⟩ : ByteArray) 80 (⟨#[71, 69, 84]⟩ : ByteArray)).bind fun t146 => (if t146 = true then ((acl_Admits.f y138 (⟨#[98]⟩ : ByteArray) 80 (⟨#[80, 79, 83, 84]⟩ : ByteArray)).bind fun t147 => (if t147 = true then (some false) else ((acl_All.f y138).bind fun t148 => (if t148 = true then ((acl_May.f true (⟨#[46, 98, 46, 99]⟩ : ByteArray) 80 80 ([] : List ByteArray)).bind fun t149 => (if t149 = true then ((acl_May.f false (⟨#[65]⟩ : ByteArray) 1 1 ([] : List ByteArray)).bind fun t150 => (some (!t150))) else (some false))) else (some false))))) else (some false)))))) = some r := H
        have A31 := Aside0.mk A310
        clear A310
        by_cases c32 : t144 = true
        · subst c32
          have H1 : (some false) = some r := by rw [if_pos rfl] at H; exact H
          clear H
          have H := H1
          clear H1
          obtain rfl := Option.some.inj H
          have h_ := A31.out
          (try rw [Ny138.out] at h_)
          (try rw [Ny135.out] at h_)
          exact absurd h_ (by decide +kernel)
        · replace c32 := Bool.eq_false_iff.mpr c32
          subst c32
          have H1 : ((acl_Admits.f y138 (⟨#[97]⟩ : ByteArray) 80 (⟨#[71, 69, 84]⟩ : ByteArray)).bind fun t145 => (if t145 = true then (some false) else ((acl_Admits.f y138 (⟨#[98]⟩ : ByteArray) 80 (⟨#[71, 69, 84]⟩ : ByteArray)).bind fun t146 => (if t146 = true then ((acl_Admits.f y138 (⟨#[98]⟩ : ByteArray) 80 (⟨#[80, 79, 83, 84]⟩ : ByteArray)).bind fun t147 => (if t147 = true then (some false) else ((acl_All.f y138).bind fun t148 => (if t148 = true then ((acl_May.f true (⟨#[46, 98, 46, 99]⟩ : ByteArray) 80 80 ([] : List ByteArray)).bind fun t149 => (if t149 = true then ((acl_May.f false (⟨#[65]⟩ : ByteArray) 1 1 ([] : List ByteArray)).bind fun t150 => (some (!t150))) else (some false))) else (some false))))) else (some false))))) = some r := by rw [if_neg (show ¬ (false = true) by decide)] at H; exact H
          clear H
          have H := H1
          clear H1
          replace H := Option.bind_eq_some_iff.mp H
          obtain ⟨t145, A480, H⟩ := H
          replace H : (if t145 = true then (some false) else ((acl_Admits.f y138 (⟨#[98]⟩ : ByteArray) 80 (⟨#[71, 69, 84]⟩ : ByteArray)).bind fun t146 => (if t146 = true then ((acl_Admits.f y138 (⟨#[98]⟩ : ByteArray) 80 (⟨#[80, 79, 83, 84]⟩ : ByteArray)).bind fun t147 => (if t147 = true then (some false) else ((acl_All.f y138).bind fun t148 => (if t148 = true then ((acl_May.f true (⟨#[46, 98, 46, 99]⟩ : ByteArray) 80 80 ([] : List ByteArray)).bind fun t149 => (if t149 = true then ((acl_May.f false (⟨#[65]⟩ : ByteArray) 1 1 ([] : List ByteArray)).bind fun t150 => (some (!t150))) else (some false))) else (some false))))) else (some false)))) = some r := H
          have A48 := Aside0.mk A480
          clear A480
          by_cases c49 : t145 = true
          · subst c49
            have H1 : (some false) = some r := by rw [if_pos rfl] at H; exact H
            clear H
            have H := H1
            clear H1
            obtain rfl := Option.some.inj H
            have h_ := A48.out
            (try rw [Ny138.out] at h_)
            (try rw [Ny135.out] at h_)
            exact absurd h_ (by decide +kernel)
          · replace c49 := Bool.eq_false_iff.mpr c49
            subst c49
            have H1 : ((acl_Admits.f y138 (⟨#[98]⟩ : ByteArray) 80 (⟨#[71, 69, 84]⟩ : ByteArray)).bind fun t146 => (if t146 = true then ((acl_Admits.f y138 (⟨#[98]⟩ : ByteArray) 80 (⟨#[80, 79, 83, 84]⟩ : ByteArray)).bind fun t147 => (if t147 = true then (some false) else ((acl_All.f y138).bind fun t148 => (if t148 = true then ((acl_May.f true (⟨#[46, 98, 46, 99]⟩ : ByteArray) 80 80 ([] : List ByteArray)).bind fun t149 => (if t149 = true then ((acl_May.f false (⟨#[65]⟩ : ByteArray) 1 1 ([] : List ByteArray)).bind fun t150 => (some (!t150))) else (some false))) else (some false))))) else (some false))) = some r := by rw [if_neg (show ¬ (false = true) by decide)] at H; exact H
            clear H
            have H := H1
            clear H1
            replace H := Option.bind_eq_some_iff.mp H
            obtain ⟨t146, A670, H⟩ := H
            replace H : (if t146 = true then ((acl_Admits.f y138 (⟨#[98]⟩ : ByteArray) 80 (⟨#[80, 79, 83, 84]⟩ : ByteArray)).bind fun t147 => (if t147 = true then (some false) else ((acl_All.f y138).bind fun t148 => (if t148 = true then ((acl_May.f true (⟨#[46, 98, 46, 99]⟩ : ByteArray) 80 80 ([] : List ByteArray)).bind fun t149 => (if t149 = true then ((acl_May.f false (⟨#[65]⟩ : ByteArray) 1 1 ([] : List ByteArray)).bind fun t150 => (some (!t150))) else (some false))) else (some false))))) else (some false)) = some r := H
            have A67 := Aside0.mk A670
            clear A670
            by_cases c68 : t146 = true
            · subst c68
              have H1 : ((acl_Admits.f y138 (⟨#[98]⟩ : ByteArray) 80 (⟨#[80, 79, 83, 84]⟩ : ByteArray)).bind fun t147 => (if t147 = true then (some false) else ((acl_All.f y138).bind fun t148 => (if t148 = true then ((acl_May.f true (⟨#[46, 98, 46, 99]⟩ : ByteArray) 80 80 ([] : List ByteArray)).bind fun t149 => (if t149 = true then ((acl_May.f false (⟨#[65]⟩ : ByteArray) 1 1 ([] : List ByteArray)).bind fun t150 => (some (!t150))) else (some false))) else (some false))))) = some r := by rw [if_pos rfl] at H; exact H
              clear H
              have H := H1
              clear H1
              replace H := Option.bind_eq_some_iff.mp H
              obtain ⟨t147, A690, H⟩ := H
              replace H : (if t147 = true then (some false) else ((acl_All.f y138).bind fun t148 => (if t148 = true then ((acl_May.f true (⟨#[46, 98, 46, 99]⟩ : ByteArray) 80 80 ([] : List ByteArray)).bind fun t149 => (if t149 = true then ((acl_May.f false (⟨#[65]⟩ : ByteArray) 1 1 ([] : List ByteArray)).bind fun t150 => (some (!t150))) else (some false))) else (some false)))) = some r := H
              have A69 := Aside0.mk A690
              clear A690
              by_cases c70 : t147 = true
              · subst c70
                have H1 : (some false) = some r := by rw [if_pos rfl] at H; exact H
                clear H
                have H := H1
                clear H1
                obtain rfl := Option.some.inj H
                have h_ := A69.out
                (try rw [Ny138.out] at h_)
                (try rw [Ny135.out] at h_)
                exact absurd h_ (by decide +kernel)
              · replace c70 := Bool.eq_false_iff.mpr c70
                subst c70
                have H1 : ((acl_All.f y138).bind fun t148 => (if t148 = true then ((acl_May.f true (⟨#[46, 98, 46, 99]⟩ : ByteArray) 80 80 ([] : List ByteArray)).bind fun t149 => (if t149 = true then ((acl_May.f false (⟨#[65]⟩ : ByteArray) 1 1 ([] : List ByteArray)).bind fun t150 => (some (!t150))) else (some false))) else (some false))) = some r := by rw [if_neg (show ¬ (false = true) by decide)] at H; exact H
                clear H
                have H := H1
                clear H1
                replace H := Option.bind_eq_some_iff.mp H
                obtain ⟨t148, A900, H⟩ := H
                replace H : (if t148 = true then ((acl_May.f true (⟨#[46, 98, 46, 99]⟩ : ByteArray) 80 80 ([] : List ByteArray)).bind fun t149 => (if t149 = true then ((acl_May.f false (⟨#[65]⟩ : ByteArray) 1 1 ([] : List ByteArray)).bind fun t150 => (some (!t150))) else (some false))) else (some false)) = some r := H
                have A90 := Aside0.mk A900
                clear A900
                by_cases c91 : t148 = true
                · subst c91
                  have H1 : ((acl_May.f true (⟨#[46, 98, 46, 99]⟩ : ByteArray) 80 80 ([] : List ByteArray)).bind fun t149 => (if t149 = true then ((acl_May.f false (⟨#[65]⟩ : ByteArray) 1 1 ([] : List ByteArray)).bind fun t150 => (some (!t150))) else (some false))) = some r := by rw [if_pos rfl] at H; exact H
                  clear H
                  have H := H1
                  clear H1
                  replace H := Option.bind_eq_some_iff.mp H
                  obtain ⟨t149, A920, H⟩ := H
                  replace H : (if t149 = true then ((acl_May.f false (⟨#[65]⟩ : ByteArray) 1 1 ([] : List ByteArray)).bind fun t150 => (some (!t150))) else (some false)) = some r := H
                  have A92 := Aside0.mk A920
                  clear A920
                  by_cases c93 : t149 = true
                  · subst c93
                    have H1 : ((acl_May.f false (⟨#[65]⟩ : ByteArray) 1 1 ([] : List ByteArray)).bind fun t150 => (some (!t150))) = some r := by rw [if_pos rfl] at H; exact H
                    clear H
                    have H := H1
                    clear H1
                    replace H := Option.bind_eq_some_iff.mp H
                    obtain ⟨t150, A940, H⟩ := H
                    replace H : (some (!t150)) = some r := H
                    have A94 := Aside0.mk A940
                    clear A940
                    obtain rfl := Option.some.inj H
                    go_enter Tryd.func20, Tryd.ntmps20
                    have tk1 : True := trivial
                    have tk2 : True := trivial
                    have tk3 : True := trivial
                    have tk4 : True := trivial
                    have tk5 : True := trivial
                    have tk6 : True := trivial
                    have tk7 : True := trivial
                    have tk8 : True := trivial
                    have tk9 : True := trivial
                    have tk10 : True := trivial
                    have tk11 : True := trivial
                    have tk12 : True := trivial
                    have tk13 : True := trivial
                    go_wp2_with (first | (have t_1 := tk1; clear tk1; clear t_1; (with_reducible refine gate_dst (N := 1) rfl ?_); refine box_event ?hg (N := 1) ?hd (cs := #[.bool false, .string (⟨#[]⟩ : ByteArray), .int .i64 0, .int .i64 0, .slice none 0 0]) (t := 25) ?hr ?_; (case hd => rfl); (case hg => rfl); (case hr => first | (go_simp; done) | (go_simp; rfl)); intro gb134 hg w95 hbox hb; have n0_ := Aside0.mk (below_step (by repeat (first | (with_reducible first | exact HB.out | apply below_alloc | apply pw_below_drewN | apply below_drew1) | exact HB.out)) hb); have n1_ := Aside0.mk (hbox); have n2_ := Aside0.mk ((by rw [hg]; exact (below_size (by repeat (first | (with_reducible first | exact HB.out | apply below_alloc | apply pw_below_drewN | apply below_drew1) | exact HB.out))) : w.heap.size ≤ gb134)); have n3_ := Aside0.mk ((by rw [hg]; exact (below_size (by repeat (first | (with_reducible first | exact HB.out | apply below_alloc | apply pw_below_drewN | apply below_drew1) | exact HB.out))) : w.heap.size ≤ gb134)); clear HB; have HB := n0_; have BK134 := n1_; have GW134 := n2_; have GE134 := n3_; clear n0_ n1_ n2_ n3_; clear hb hbox hg; have hcz96_0 : w95.cell? ⟨gb134, 0, none⟩ = some (.bool false) := (blk_cell BK134.out 0).trans rfl; have hcz96_1 : w95.cell? ⟨gb134, 1, none⟩ = some (.string (⟨#[]⟩ : ByteArray)) := (blk_cell BK134.out 1).trans rfl; have hcz96_2 : w95.cell? ⟨gb134, 2, none⟩ = some (.int .i64 0) := (blk_cell BK134.out 2).trans rfl; have hcz96_3 : w95.cell? ⟨gb134, 3, none⟩ = some (.int .i64 0) := (blk_cell BK134.out 3).trans rfl; have hcz96_4 : w95.cell? ⟨gb134, 4, none⟩ = some (.slice none 0 0) := (blk_cell BK134.out 4).trans rfl; have hfz96_0 := blk_frozen BK134.out 0; have hfz96_1 := blk_frozen BK134.out 1; have hfz96_2 := blk_frozen BK134.out 2; have hfz96_3 := blk_frozen BK134.out 3; have hfz96_4 := blk_frozen BK134.out 4) | (have t_2 := tk2; clear tk2; clear t_2; (with_reducible refine gate_dst (N := 5) rfl ?_); refine Kd.R_lit Kd.string _ 9 ?hg (N := 5) ?hd (xs := ([(⟨#[71, 69, 84]⟩ : ByteArray)] : List ByteArray)) (inner := [.string (⟨#[71, 69, 84]⟩ : ByteArray)]) (ok := fun _ => True) (okp := fun _ => True) ?hr ?hp (fun _ hk => hk) trivial (Below.refl _ _) (Nat.le_refl _) (by simp) ?_; (case hd => rfl); (case hg => rfl); (case hr => first | (go_simp; done) | (go_simp; rfl)); (case hp => exact (Reps.one (show Kd.M Kd.string _ _ _ (⟨#[71, 69, 84]⟩ : ByteArray) [.string (⟨#[71, 69, 84]⟩ : ByteArray)] from rfl) (Reps.none _ _))); intro v136 w97 ho98 hb hg_ hnew_; clear hg_ hnew_; (first | rw [← Ny135.out] at ho98 | (simp only [Int.reduceToNat] at ho98; rw [← Ny135.out] at ho98)); have n0_ := Aside0.mk (Kd.R_lower ho98 (below_size (by repeat (first | (with_reducible first | exact HB.out | apply below_alloc | apply pw_below_drewN | apply below_drew1 | refine below_set ?_ GE134.out) | exact HB.out)))); have n1_ := Aside0.mk (blk_below (g := gb134) (o := .cells #[.bool true, .string (⟨#[46, 98, 46, 99]⟩ : ByteArray), .int .i64 80, .int .i64 80, .slice none 0 0] 25 (0, 0)) (by (with_reducible repeat (first | refine blk_drewN ?_ _ | refine blk_drew ?_ | refine blk_alloc ?_ _)); refine blk_put (cs := #[.bool true, .string (⟨#[46, 98, 46, 99]⟩ : ByteArray), .int .i64 80, .int .i64 80, .slice none 0 0]) ?_ 4 _ rfl; (with_reducible repeat (first | refine blk_drewN ?_ _ | refine blk_drew ?_ | refine blk_alloc ?_ _)); refine blk_put (cs := #[.bool true, .string (⟨#[46, 98, 46, 99]⟩ : ByteArray), .int .i64 80, .int .i64 0, .slice none 0 0]) ?_ 3 _ rfl; (with_reducible repeat (first | refine blk_drewN ?_ _ | refine blk_drew ?_ | refine blk_alloc ?_ _)); refine blk_put (cs := #[.bool true, .string (⟨#[46, 98, 46, 99]⟩ : ByteArray), .int .i64 0, .int .i64 0, .slice none 0 0]) ?_ 2 _ rfl; (with_reducible repeat (first | refine blk_drewN ?_ _ | refine blk_drew ?_ | refine blk_alloc ?_ _)); refine blk_put (cs := #[.bool true, .string (⟨#[]⟩ : ByteArray), .int .i64 0, .int .i64 0, .slice none 0 0]) ?_ 1 _ rfl; (with_reducible repeat (first | refine blk_drewN ?_ _ | refine blk_drew ?_ | refine blk_alloc ?_ _)); refine blk_put (cs := #[.bool false, .string (⟨#[]⟩ : ByteArray), .int .i64 0, .int .i64 0, .slice none 0 0]) ?_ 0 _ rfl; (with_reducible repeat (first | refine blk_drewN ?_ _ | refine blk_drew ?_ | refine blk_alloc ?_ _)); exact BK134.out) hb); have n2_ := Aside0.mk (below_step (by repeat (first | (with_reducible first | exact HB.out | apply below_alloc | apply pw_below_drewN | apply below_drew1 | refine below_set ?_ GE134.out) | exact HB.out)) hb); clear BK134; clear HB; have HO137 := n0_; have BK134 := n1_; have HB := n2_; clear n0_ n1_ n2_; clear hb ho98; obtain ⟨Ao99, co99, eo99⟩ := Kd.R_slice HO137.out; subst eo99) | (have t_3 := tk3; clear tk3; clear t_3; (with_reducible refine gate_dst (N := 7) rfl ?_); refine Kd.N_lit k25 _ 25 ?hg (N' := 7) ?hd (xs := ([(⟨false, (⟨#[97]⟩ : ByteArray), 1, 65535, ([] : List ByteArray)⟩ : S25), (⟨true, (⟨#[42]⟩ : ByteArray), 1, 65535, y135⟩ : S25)] : List (S25))) (inner := [.bool false, .string (⟨#[97]⟩ : ByteArray), .int .i64 1, .int .i64 65535, .slice none 0 0, .bool true, .string (⟨#[42]⟩ : ByteArray), .int .i64 1, .int .i64 65535, .slice Ao99 y135.length co99]) (ok := (fun k_ => k_ ≠ gb134)) (okp := (fun k_ => k_ ≠ gb134)) ?hr ?hp (fun _ hk => hk) ((show ∀ k_, w97.heap.size ≤ k_ → (fun k_ => k_ ≠ gb134) k_ from fun k_ hk => Kd.freshB (g := gb134) (o := .cells #[.bool true, .string (⟨#[46, 98, 46, 99]⟩ : ByteArray), .int .i64 80, .int .i64 80, .slice none 0 0] 25 (0, 0)) (by (with_reducible repeat (first | refine blk_drewN ?_ _ | refine blk_drew ?_ | refine blk_alloc ?_ _)); exact BK134.out) k_ hk) _ (Nat.le_refl _)) (Below.refl _ _) (Nat.le_refl _) (by simp) ?_; (case hd => rfl); (case hg => rfl); (case hr => first | (go_simp; done) | (go_simp; rfl)); (case hp => exact (Reps.c5 (show Kd.FK k25 _ _ (⟨false, (⟨#[97]⟩ : ByteArray), 1, 65535, ([] : List ByteArray)⟩ : S25) [.bool false, .string (⟨#[97]⟩ : ByteArray), .int .i64 1, .int .i64 65535, .slice none 0 0] from (k25_mkF _ _ (⟨false, (⟨#[97]⟩ : ByteArray), 1, 65535, ([] : List ByteArray)⟩ : S25) (Nat.le_refl _) (Kd.F_nil _ _ _))) (Reps.c5 (show Kd.FK k25 _ _ (⟨true, (⟨#[42]⟩ : ByteArray), 1, 65535, y135⟩ : S25) [.bool true, .string (⟨#[42]⟩ : ByteArray), .int .i64 1, .int .i64 65535, .slice Ao99 y135.length co99] from (k25_mkF _ _ (⟨true, (⟨#[42]⟩ : ByteArray), 1, 65535, y135⟩ : S25) (Kd.R_reads' (Kd.R_mono (ok' := (fun k_ => k_ ≠ gb134)) (Kd.R_types (HO137.out) BK134.out (by decide)) (fun k_ hk => hk.2))).2.1 (Kd.R_F (Kd.R_mono (ok' := (fun k_ => k_ ≠ gb134)) (Kd.R_types (HO137.out) BK134.out (by decide)) (fun k_ hk => hk.2))))) (Reps.none _ _)))); intro v139 w100 ho101 hb hg_ hnew_; clear hg_ hnew_; (first | rw [← Ny138.out] at ho101 | (simp only [Int.reduceToNat] at ho101; rw [← Ny138.out] at ho101)); have n0_ := Aside0.mk (Kd.N_lower ho101 (below_size (by repeat (first | (with_reducible first | exact HB.out | apply below_alloc | apply pw_below_drewN | apply below_drew1 | refine below_set ?_ GE134.out) | exact HB.out)))); have n1_ := Aside0.mk (blk_below (g := gb134) (o := .cells #[.bool true, .string (⟨#[46, 98, 46, 99]⟩ : ByteArray), .int .i64 80, .int .i64 80, .slice none 0 0] 25 (0, 0)) (by (with_reducible repeat (first | refine blk_drewN ?_ _ | refine blk_drew ?_ | refine blk_alloc ?_ _)); exact BK134.out) hb); have n2_ := Aside0.mk (below_step (by repeat (first | (with_reducible first | exact HB.out | apply below_alloc | apply pw_below_drewN | apply below_drew1 | refine below_set ?_ GE134.out) | exact HB.out)) hb); clear BK134; clear HB; clear HO137; have HO140 := n0_; have BK134 := n1_; have HB := n2_; clear n0_ n1_ n2_; clear hb ho101; have hcz102_0 : w100.cell? ⟨gb134, 0, none⟩ = some (.bool true) := (blk_cell BK134.out 0).trans rfl; have hcz102_1 : w100.cell? ⟨gb134, 1, none⟩ = some (.string (⟨#[46, 98, 46, 99]⟩ : ByteArray)) := (blk_cell BK134.out 1).trans rfl; have hcz102_2 : w100.cell? ⟨gb134, 2, none⟩ = some (.int .i64 80) := (blk_cell BK134.out 2).trans rfl; have hcz102_3 : w100.cell? ⟨gb134, 3, none⟩ = some (.int .i64 80) := (blk_cell BK134.out 3).trans rfl; have hcz102_4 : w100.cell? ⟨gb134, 4, none⟩ = some (.slice none 0 0) := (blk_cell BK134.out 4).trans rfl; have hfz102_0 := blk_frozen BK134.out 0; have hfz102_1 := blk_frozen BK134.out 1; have hfz102_2 := blk_frozen BK134.out 2; have hfz102_3 := blk_frozen BK134.out 3; have hfz102_4 := blk_frozen BK134.out 4) | (have t_4 := tk4; clear tk4; clear t_4; (with_reducible refine gate_callee (f := 16) rfl ?_); refine goesL_ (some 9) rfl rfl Tryd.func16 (by kernel_rfl) rfl #[.agg #[.bool true, .string (⟨#[46, 98, 46, 99]⟩ : ByteArray), .int .i64 80, .int .i64 80, .slice none 0 0], .string (⟨#[97, 46, 98, 46, 99]⟩ : ByteArray), .int .i64 80, .string (⟨#[88]⟩ : ByteArray)] rfl (by (try simp only [List.map_toArray, List.map_cons, List.map_nil]); first | done | rfl | (simp only [List.length_drop, List.length_take]; rfl)) ?_; (refine (acl_Matches.calls true (⟨#[46, 98, 46, 99]⟩ : ByteArray) 80 80 _ _ ([] : List ByteArray) (⟨#[97, 46, 98, 46, 99]⟩ : ByteArray) 80 (⟨#[88]⟩ : ByteArray) true _ ?side1 ?side2 (Glob.below HGl.out (by repeat (first | (with_reducible first | exact HB.out | apply below_alloc | apply pw_below_drewN | apply below_drew1 | refine below_set ?_ GE134.out) | exact HB.out))) A1.out).mono ?_); (case side1 => exact Kd.C_nil _ _); (case side2 => exact Nat.le_refl _); rintro e w103 ⟨rfl, hb⟩; refine ⟨_, rfl, ?_⟩; have n0_ := Aside0.mk (Kd.N_below (by (with_reducible repeat (first | apply Kd.N_alloc | apply Kd.N_drewN | apply Kd.N_drew)); exact HO140.out) hb); have n1_ := Aside0.mk (blk_below (g := gb134) (o := .cells #[.bool true, .string (⟨#[46, 98, 46, 99]⟩ : ByteArray), .int .i64 80, .int .i64 80, .slice none 0 0] 25 (0, 0)) (by (with_reducible repeat (first | refine blk_drewN ?_ _ | refine blk_drew ?_ | refine blk_alloc ?_ _)); exact BK134.out) hb); have n2_ := Aside0.mk (below_step (by repeat (first | (with_reducible first | exact HB.out | apply below_alloc | apply pw_below_drewN | apply below_drew1 | refine below_set ?_ GE134.out) | exact HB.out)) hb); clear HO140; clear BK134; clear HB; have HO140 := n0_; have BK134 := n1_; have HB := n2_; clear n0_ n1_ n2_; (try clear hb); (try clear hb2); (try clear hk); (try clear hi); have hcz104_0 : w103.cell? ⟨gb134, 0, none⟩ = some (.bool true) := (blk_cell BK134.out 0).trans rfl; have hcz104_1 : w103.cell? ⟨gb134, 1, none⟩ = some (.string (⟨#[46, 98, 46, 99]⟩ : ByteArray)) := (blk_cell BK134.out 1).trans rfl; have hcz104_2 : w103.cell? ⟨gb134, 2, none⟩ = some (.int .i64 80) := (blk_cell BK134.out 2).trans rfl; have hcz104_3 : w103.cell? ⟨gb134, 3, none⟩ = some (.int .i64 80) := (blk_cell BK134.out 3).trans rfl; have hcz104_4 : w103.cell? ⟨gb134, 4, none⟩ = some (.slice none 0 0) := (blk_cell BK134.out 4).trans rfl; have hfz104_0 := blk_frozen BK134.out 0; have hfz104_1 := blk_frozen BK134.out 1; have hfz104_2 := blk_frozen BK134.out 2; have hfz104_3 := blk_frozen BK134.out 3; have hfz104_4 := blk_frozen BK134.out 4) | (have t_5 := tk5; clear tk5; clear t_5; go_at_call 16; (refine (acl_Matches.calls true (⟨#[46, 98, 46, 99]⟩ : ByteArray) 80 80 _ _ ([] : List ByteArray) (⟨#[98, 46, 99]⟩ : ByteArray) 80 (⟨#[88]⟩ : ByteArray) false _ ?side1 ?side2 (Glob.below HGl.out (by repeat (first | (with_reducible first | exact HB.out | apply below_alloc | apply pw_below_drewN | apply below_drew1 | refine below_set ?_ GE134.out) | exact HB.out))) A3.out).mono ?_); (case side1 => exact Kd.C_nil _ _); (case side2 => exact Nat.le_refl _); rintro e w105 ⟨rfl, hb⟩; have n0_ := Aside0.mk (Kd.N_below (by (with_reducible repeat (first | apply Kd.N_alloc | apply Kd.N_drewN | apply Kd.N_drew)); exact HO140.out) hb); have n1_ := Aside0.mk (blk_below (g := gb134) (o := .cells #[.bool true, .string (⟨#[46, 98, 46, 99]⟩ : ByteArray), .int .i64 80, .int .i64 80, .slice none 0 0] 25 (0, 0)) (by (with_reducible repeat (first | refine blk_drewN ?_ _ | refine blk_drew ?_ | refine blk_alloc ?_ _)); exact BK134.out) hb); have n2_ := Aside0.mk (below_step (by repeat (first | (with_reducible first | exact HB.out | apply below_alloc | apply pw_below_drewN | apply below_drew1 | refine below_set ?_ GE134.out) | exact HB.out)) hb); clear HO140; clear BK134; clear HB; have HO140 := n0_; have BK134 := n1_; have HB := n2_; clear n0_ n1_ n2_; (try clear hb); (try clear hb2); (try clear hk); (try clear hi); have hcz106_0 : w105.cell? ⟨gb134, 0, none⟩ = some (.bool true) := (blk_cell BK134.out 0).trans rfl; have hcz106_1 : w105.cell? ⟨gb134, 1, none⟩ = some (.string (⟨#[46, 98, 46, 99]⟩ : ByteArray)) := (blk_cell BK134.out 1).trans rfl; have hcz106_2 : w105.cell? ⟨gb134, 2, none⟩ = some (.int .i64 80) := (blk_cell BK134.out 2).trans rfl; have hcz106_3 : w105.cell? ⟨gb134, 3, none⟩ = some (.int .i64 80) := (blk_cell BK134.out 3).trans rfl; have hcz106_4 : w105.cell? ⟨gb134, 4, none⟩ = some (.slice none 0 0) := (blk_cell BK134.out 4).trans rfl; have hfz106_0 := blk_frozen BK134.out 0; have hfz106_1 := blk_frozen BK134.out 1; have hfz106_2 := blk_frozen BK134.out 2; have hfz106_3 := blk_frozen BK134.out 3; have hfz106_4 := blk_frozen BK134.out 4) | (have t_6 := tk6; clear tk6; clear t_6; go_at_call 16; (refine (acl_Matches.calls true (⟨#[46, 98, 46, 99]⟩ : ByteArray) 80 80 _ _ ([] : List ByteArray) (⟨#[46, 98, 46, 99]⟩ : ByteArray) 80 (⟨#[88]⟩ : ByteArray) false _ ?side1 ?side2 (Glob.below HGl.out (by repeat (first | (with_reducible first | exact HB.out | apply below_alloc | apply pw_below_drewN | apply below_drew1 | refine below_set ?_ GE134.out) | exact HB.out))) A16.out).mono ?_); (case side1 => exact Kd.C_nil _ _); (case side2 => exact Nat.le_refl _); rintro e w107 ⟨rfl, hb⟩; have n0_ := Aside0.mk (Kd.N_below (by (with_reducible repeat (first | apply Kd.N_alloc | apply Kd.N_drewN | apply Kd.N_drew)); exact HO140.out) hb); have n1_ := Aside0.mk (blk_below (g := gb134) (o := .cells #[.bool true, .string (⟨#[46, 98, 46, 99]⟩ : ByteArray), .int .i64 80, .int .i64 80, .slice none 0 0] 25 (0, 0)) (by (with_reducible repeat (first | refine blk_drewN ?_ _ | refine blk_drew ?_ | refine blk_alloc ?_ _)); exact BK134.out) hb); have n2_ := Aside0.mk (below_step (by repeat (first | (with_reducible first | exact HB.out | apply below_alloc | apply pw_below_drewN | apply below_drew1 | refine below_set ?_ GE134.out) | exact HB.out)) hb); clear HO140; clear BK134; clear HB; have HO140 := n0_; have BK134 := n1_; have HB := n2_; clear n0_ n1_ n2_; (try clear hb); (try clear hb2); (try clear hk); (try clear hi); have hcz108_0 : w107.cell? ⟨gb134, 0, none⟩ = some (.bool true) := (blk_cell BK134.out 0).trans rfl; have hcz108_1 : w107.cell? ⟨gb134, 1, none⟩ = some (.string (⟨#[46, 98, 46, 99]⟩ : ByteArray)) := (blk_cell BK134.out 1).trans rfl; have hcz108_2 : w107.cell? ⟨gb134, 2, none⟩ = some (.int .i64 80) := (blk_cell BK134.out 2).trans rfl; have hcz108_3 : w107.cell? ⟨gb134, 3, none⟩ = some (.int .i64 80) := (blk_cell BK134.out 3).trans rfl; have hcz108_4 : w107.cell? ⟨gb134, 4, none⟩ = some (.slice none 0 0) := (blk_cell BK134.out 4).trans rfl; have hfz108_0 := blk_frozen BK134.out 0; have hfz108_1 := blk_frozen BK134.out 1; have hfz108_2 := blk_frozen BK134.out 2; have hfz108_3 := blk_frozen BK134.out 3; have hfz108_4 := blk_frozen BK134.out 4) | (have t_7 := tk7; clear tk7; clear t_7; go_at_call 16; (refine (acl_Matches.calls true (⟨#[46, 98, 46, 99]⟩ : ByteArray) 80 80 _ _ ([] : List ByteArray) (⟨#[97, 46, 98, 46, 99]⟩ : ByteArray) 81 (⟨#[88]⟩ : ByteArray) false _ ?side1 ?side2 (Glob.below HGl.out (by repeat (first | (with_reducible first | exact HB.out | apply below_alloc | apply pw_below_drewN | apply below_drew1 | refine below_set ?_ GE134.out) | exact HB.out))) A31.out).mono ?_); (case side1 => exact Kd.C_nil _ _); (case side2 => exact Nat.le_refl _); rintro e w109 ⟨rfl, hb⟩; have n0_ := Aside0.mk (Kd.N_below (by (with_reducible repeat (first | apply Kd.N_alloc | apply Kd.N_drewN | apply Kd.N_drew)); exact HO140.out) hb); have n1_ := Aside0.mk (blk_below (g := gb134) (o := .cells #[.bool true, .string (⟨#[46, 98, 46, 99]⟩ : ByteArray), .int .i64 80, .int .i64 80, .slice none 0 0] 25 (0, 0)) (by (with_reducible repeat (first | refine blk_drewN ?_ _ | refine blk_drew ?_ | refine blk_alloc ?_ _)); exact BK134.out) hb); have n2_ := Aside0.mk (below_step (by repeat (first | (with_reducible first | exact HB.out | apply below_alloc | apply pw_below_drewN | apply below_drew1 | refine below_set ?_ GE134.out) | exact HB.out)) hb); clear HO140; clear BK134; clear HB; have HO140 := n0_; have BK134 := n1_; have HB := n2_; clear n0_ n1_ n2_; (try clear hb); (try clear hb2); (try clear hk); (try clear hi); obtain ⟨Ao110, co110, eo110⟩ := Kd.N_slice HO140.out; subst eo110) | (have t_8 := tk8; clear tk8; clear t_8; go_at_call 18; (with_reducible refine (acl_Admits.calls _ _ y138 (⟨#[97]⟩ : ByteArray) 80 (⟨#[71, 69, 84]⟩ : ByteArray) false _ ?side1 ?side2 (Glob.below HGl.out (by repeat (first | (with_reducible first | exact HB.out | apply below_alloc | apply pw_below_drewN | apply below_drew1 | refine below_set ?_ GE134.out) | exact HB.out))) A48.out).mono ?_); (case side1 => repeat (first | exact (Kd.N_reads' HO140.out).2.2 | (with_reducible refine Kd.C_alloc ?_ _) | (with_reducible refine Kd.C_drewN ?_ _) | (with_reducible refine Kd.C_drew ?_))); (case side2 => exact (Kd.N_reads' HO140.out).2.1); rintro e w111 ⟨rfl, hb⟩; have n0_ := Aside0.mk (Kd.N_below (by (with_reducible repeat (first | apply Kd.N_alloc | apply Kd.N_drewN | apply Kd.N_drew)); exact HO140.out) hb); have n1_ := Aside0.mk (blk_below (g := gb134) (o := .cells #[.bool true, .string (⟨#[46, 98, 46, 99]⟩ : ByteArray), .int .i64 80, .int .i64 80, .slice none 0 0] 25 (0, 0)) (by (with_reducible repeat (first | refine blk_drewN ?_ _ | refine blk_drew ?_ | refine blk_alloc ?_ _)); exact BK134.out) hb); have n2_ := Aside0.mk (below_step (by repeat (first | (with_reducible first | exact HB.out | apply below_alloc | apply pw_below_drewN | apply below_drew1 | refine below_set ?_ GE134.out) | exact HB.out)) hb); clear HO140; clear BK134; clear HB; have HO140 := n0_; have BK134 := n1_; have HB := n2_; clear n0_ n1_ n2_; (try clear hb); (try clear hb2); (try clear hk); (try clear hi)) | (have t_9 := tk9; clear tk9; clear t_9; go_at_call 18; (with_reducible refine (acl_Admits.calls _ _ y138 (⟨#[98]⟩ : ByteArray) 80 (⟨#[71, 69, 84]⟩ : ByteArray) true _ ?side1 ?side2 (Glob.below HGl.out (by repeat (first | (with_reducible first | exact HB.out | apply below_alloc | apply pw_below_drewN | apply below_drew1 | refine below_set ?_ GE134.out) | exact HB.out))) A67.out).mono ?_); (case side1 => repeat (first | exact (Kd.N_reads' HO140.out).2.2 | (with_reducible refine Kd.C_alloc ?_ _) | (with_reducible refine Kd.C_drewN ?_ _) | (with_reducible refine Kd.C_drew ?_))); (case side2 => exact (Kd.N_reads' HO140.out).2.1); rintro e w112 ⟨rfl, hb⟩; have n0_ := Aside0.mk (Kd.N_below (by (with_reducible repeat (first | apply Kd.N_alloc | apply Kd.N_drewN | apply Kd.N_drew)); exact HO140.out) hb); have n1_ := Aside0.mk (blk_below (g := gb134) (o := .cells #[.bool true, .string (⟨#[46, 98, 46, 99]⟩ : ByteArray), .int .i64 80, .int .i64 80, .slice none 0 0] 25 (0, 0)) (by (with_reducible repeat (first | refine blk_drewN ?_ _ | refine blk_drew ?_ | refine blk_alloc ?_ _)); exact BK134.out) hb); have n2_ := Aside0.mk (below_step (by repeat (first | (with_reducible first | exact HB.out | apply below_alloc | apply pw_below_drewN | apply below_drew1 | refine below_set ?_ GE134.out) | exact HB.out)) hb); clear HO140; clear BK134; clear HB; have HO140 := n0_; have BK134 := n1_; have HB := n2_; clear n0_ n1_ n2_; (try clear hb); (try clear hb2); (try clear hk); (try clear hi)) | (have t_10 := tk10; clear tk10; clear t_10; go_at_call 18; (with_reducible refine (acl_Admits.calls _ _ y138 (⟨#[98]⟩ : ByteArray) 80 (⟨#[80, 79, 83, 84]⟩ : ByteArray) false _ ?side1 ?side2 (Glob.below HGl.out (by repeat (first | (with_reducible first | exact HB.out | apply below_alloc | apply pw_below_drewN | apply below_drew1 | refine below_set ?_ GE134.out) | exact HB.out))) A69.out).mono ?_); (case side1 => repeat (first | exact (Kd.N_reads' HO140.out).2.2 | (with_reducible refine Kd.C_alloc ?_ _) | (with_reducible refine Kd.C_drewN ?_ _) | (with_reducible refine Kd.C_drew ?_))); (case side2 => exact (Kd.N_reads' HO140.out).2.1); rintro e w113 ⟨rfl, hb⟩; have n0_ := Aside0.mk (Kd.N_below (by (with_reducible repeat (first | apply Kd.N_alloc | apply Kd.N_drewN | apply Kd.N_drew)); exact HO140.out) hb); have n1_ := Aside0.mk (blk_below (g := gb134) (o := .cells #[.bool true, .string (⟨#[46, 98, 46, 99]⟩ : ByteArray), .int .i64 80, .int .i64 80, .slice none 0 0] 25 (0, 0)) (by (with_reducible repeat (first | refine blk_drewN ?_ _ | refine blk_drew ?_ | refine blk_alloc ?_ _)); exact BK134.out) hb); have n2_ := Aside0.mk (below_step (by repeat (first | (with_reducible first | exact HB.out | apply below_alloc | apply pw_below_drewN | apply below_drew1 | refine below_set ?_ GE134.out) | exact HB.out)) hb); clear HO140; clear BK134; clear HB; have HO140 := n0_; have BK134 := n1_; have HB := n2_; clear n0_ n1_ n2_; (try clear hb); (try clear hb2); (try clear hk); (try clear hi)) | (have t_11 := tk11; clear tk11; clear t_11; go_at_call 14; (with_reducible refine (acl_All.calls _ _ y138 true _ ?side1 ?side2 (Glob.below HGl.out (by repeat (first | (with_reducible first | exact HB.out | apply below_alloc | apply pw_below_drewN | apply below_drew1 | refine below_set ?_ GE134.out) | exact HB.out))) A90.out).mono ?_); (case side1 => repeat (first | exact (Kd.N_reads' HO140.out).2.2 | (with_reducible refine Kd.C_alloc ?_ _) | (with_reducible refine Kd.C_drewN ?_ _) | (with_reducible refine Kd.C_drew ?_))); (case side2 => exact (Kd.N_reads' HO140.out).2.1); rintro e w114 ⟨rfl, hb⟩; have n0_ := Aside0.mk (Kd.N_below (by (with_reducible repeat (first | apply Kd.N_alloc | apply Kd.N_drewN | apply Kd.N_drew)); exact HO140.out) hb); have n1_ := Aside0.mk (blk_below (g := gb134) (o := .cells #[.bool true, .string (⟨#[46, 98, 46, 99]⟩ : ByteArray), .int .i64 80, .int .i64 80, .slice none 0 0] 25 (0, 0)) (by (with_reducible repeat (first | refine blk_drewN ?_ _ | refine blk_drew ?_ | refine blk_alloc ?_ _)); exact BK134.out) hb); have n2_ := Aside0.mk (below_step (by repeat (first | (with_reducible first | exact HB.out | apply below_alloc | apply pw_below_drewN | apply below_drew1 | refine below_set ?_ GE134.out) | exact HB.out)) hb); clear HO140; clear BK134; clear HB; have HO140 := n0_; have BK134 := n1_; have HB := n2_; clear n0_ n1_ n2_; (try clear hb); (try clear hb2); (try clear hk); (try clear hi); have hcz115_0 : w114.cell? ⟨gb134, 0, none⟩ = some (.bool true) := (blk_cell BK134.out 0).trans rfl; have hcz115_1 : w114.cell? ⟨gb134, 1, none⟩ = some (.string (⟨#[46, 98, 46, 99]⟩ : ByteArray)) := (blk_cell BK134.out 1).trans rfl; have hcz115_2 : w114.cell? ⟨gb134, 2, none⟩ = some (.int .i64 80) := (blk_cell BK134.out 2).trans rfl; have hcz115_3 : w114.cell? ⟨gb134, 3, none⟩ = some (.int .i64 80) := (blk_cell BK134.out 3).trans rfl; have hcz115_4 : w114.cell? ⟨gb134, 4, none⟩ = some (.slice none 0 0) := (blk_cell BK134.out 4).trans rfl; have hfz115_0 := blk_frozen BK134.out 0; have hfz115_1 := blk_frozen BK134.out 1; have hfz115_2 := blk_frozen BK134.out 2; have hfz115_3 := blk_frozen BK134.out 3; have hfz115_4 := blk_frozen BK134.out 4) | (have t_12 := tk12; clear tk12; clear t_12; go_at_call 12; (refine (acl_May.calls true (⟨#[46, 98, 46, 99]⟩ : ByteArray) 80 80 _ _ ([] : List ByteArray) true _ ?side1 ?side2 (Glob.below HGl.out (by repeat (first | (with_reducible first | exact HB.out | apply below_alloc | apply pw_below_drewN | apply below_drew1 | refine below_set ?_ GE134.out) | exact HB.out))) A92.out).mono ?_); (case side1 => exact Kd.C_nil _ _); (case side2 => exact Nat.le_refl _); rintro e w116 ⟨rfl, hb⟩; have n0_ := Aside0.mk (Kd.N_below (by (with_reducible repeat (first | apply Kd.N_alloc | apply Kd.N_drewN | apply Kd.N_drew)); exact HO140.out) hb); have n1_ := Aside0.mk (blk_below (g := gb134) (o := .cells #[.bool true, .string (⟨#[46, 98, 46, 99]⟩ : ByteArray), .int .i64 80, .int .i64 80, .slice none 0 0] 25 (0, 0)) (by (with_reducible repeat (first | refine blk_drewN ?_ _ | refine blk_drew ?_ | refine blk_alloc ?_ _)); exact BK134.out) hb); have n2_ := Aside0.mk (below_step (by repeat (first | (with_reducible first | exact HB.out | apply below_alloc | apply pw_below_drewN | apply below_drew1 | refine below_set ?_ GE134.out) | exact HB.out)) hb); clear HO140; clear BK134; clear HB; have HO140 := n0_; have BK134 := n1_; have HB := n2_; clear n0_ n1_ n2_; (try clear hb); (try clear hb2); (try clear hk); (try clear hi)) | (have t_13 := tk13; clear tk13; clear t_13; go_at_call 12; (refine (acl_May.calls false (⟨#[65]⟩ : ByteArray) 1 1 _ _ ([] : List ByteArray) t150 _ ?side1 ?side2 (Glob.below HGl.out (by repeat (first | (with_reducible first | exact HB.out | apply below_alloc | apply pw_below_drewN | apply below_drew1 | refine below_set ?_ GE134.out) | exact HB.out))) A94.out).mono ?_); (case side1 => exact Kd.C_nil _ _); (case side2 => exact Nat.le_refl _); rintro e w117 ⟨rfl, hb⟩; have n0_ := Aside0.mk (Kd.N_below (by (with_reducible repeat (first | apply Kd.N_alloc | apply Kd.N_drewN | apply Kd.N_drew)); exact HO140.out) hb); have n1_ := Aside0.mk (blk_below (g := gb134) (o := .cells #[.bool true, .string (⟨#[46, 98, 46, 99]⟩ : ByteArray), .int .i64 80, .int .i64 80, .slice none 0 0] 25 (0, 0)) (by (with_reducible repeat (first | refine blk_drewN ?_ _ | refine blk_drew ?_ | refine blk_alloc ?_ _)); exact BK134.out) hb); have n2_ := Aside0.mk (below_step (by repeat (first | (with_reducible first | exact HB.out | apply below_alloc | apply pw_below_drewN | apply below_drew1 | refine below_set ?_ GE134.out) | exact HB.out)) hb); clear HO140; clear BK134; clear HB; have HO140 := n0_; have BK134 := n1_; have HB := n2_; clear n0_ n1_ n2_; (try clear hb); (try clear hb2); (try clear hk); (try clear hi)))
                    go_ret
                    exact ⟨by first | rfl | (simp [errW_none, errW_some] <;> rfl) | (simp [*, errW_none, errW_some] <;> rfl), by repeat (first | (with_reducible first | exact HB.out | apply below_alloc | apply pw_below_drewN | apply below_drew1 | refine below_set ?_ GE134.out) | exact HB.out)⟩
                  · replace c93 := Bool.eq_false_iff.mpr c93
                    subst c93
                    have H1 : (some false) = some r := by rw [if_neg (show ¬ (false = true) by decide)] at H; exact H
                    clear H
                    have H := H1
                    clear H1
                    obtain rfl := Option.some.inj H
                    have h_ := A92.out
                    (try rw [Ny138.out] at h_)
                    (try rw [Ny135.out] at h_)
                    exact absurd h_ (by decide +kernel)
                · replace c91 := Bool.eq_false_iff.mpr c91
                  subst c91
                  have H1 : (some false) = some r := by rw [if_neg (show ¬ (false = true) by decide)] at H; exact H
                  clear H
                  have H := H1
                  clear H1
                  obtain rfl := Option.some.inj H
                  have h_ := A90.out
                  (try rw [Ny138.out] at h_)
                  (try rw [Ny135.out] at h_)
                  exact absurd h_ (by decide +kernel)
            · replace c68 := Bool.eq_false_iff.mpr c68
              subst c68
              have H1 : (some false) = some r := by rw [if_neg (show ¬ (false = true) by decide)] at H; exact H
              clear H
              have H := H1
              clear H1
              obtain rfl := Option.some.inj H
              have h_ := A67.out
              (try rw [Ny138.out] at h_)
              (try rw [Ny135.out] at h_)
              exact absurd h_ (by decide +kernel)
  · replace c2 := Bool.eq_false_iff.mpr c2
    subst c2
    have H1 : (some false) = some r := by rw [if_neg (show ¬ (false = true) by decide)] at H; exact H
    clear H
    have H := H1
    clear H1
    obtain rfl := Option.some.inj H
    have h_ := A1.out
    (try rw [Ny138.out] at h_)
    (try rw [Ny135.out] at h_)
    exact absurd h_ (by decide +kernel)

end Go.Proofs.YtjdlaofeenblkaaDoor.X
