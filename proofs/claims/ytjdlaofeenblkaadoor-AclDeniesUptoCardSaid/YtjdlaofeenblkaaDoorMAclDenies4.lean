/- The law AclDenies: what the walk shows, put together with the plain law, as the given statement asks it: true for every argument of bulk at most 1048576. -/
import Derived.Test.YtjdlaofeenblkaaDoorMAclDenies1
import Derived.Test.YtjdlaofeenblkaaDoorMAclDenies2
import Derived.Test.YtjdlaofeenblkaaDoorMAclDenies3
import Derived.Test.YtjdlaofeenblkaaDoorCards
import Derived.Test.YtjdlaofeenblkaaDoorTie
import Derived.WalkKit
import Derived.ProofKit
import Derived.OpenShut
import Derived.ShutString
import Derived.ChangeOld
import Derived.Below
import Derived.SizedLaws
import Derived.Deep.DeepHandedRow
import Derived.Deep.DeepWitnessRowRef
-- PRINTED by print.py (a twelfth state) out of the translation. Not trusted: Lean checks it.
namespace Go.Proofs.YtjdlaofeenblkaaDoor.X
open Go.RowKit Go.Proofs.YtjdlaofeenblkaaDoorW.PrintWords Go.Proofs.YtjdlaofeenblkaaDoorW.PrintLast Go.Proofs.YtjdlaofeenblkaaDoorW.PrintMore
attribute [local go_sem] max2_int min2_int max_two min_two max_three min_three max_four min_four   -- for this text's walks alone
set_option linter.unusedVariables false
set_option linter.unusedSimpArgs false
open Go.Proofs.YtjdlaofeenblkaaDoor.T

/-! ### tollhouselaw14_AclDenies: function 5 -/
def tollhouselaw14_AclDenies.l0 : Nat → List (S25) → ByteArray → Int → ByteArray → List (S25) → List (S25) → Bool → Bool → Int → Option (Bool)
  | 0, _, _, _, _, _, _, _, _, _ => none
  | k + 1, x0, x1, x2, x3, x9, x10, x11, x12, x13 => if x13 < (x0.length : Int) then (if 0 ≤ x13 then (if (rd_T25 x0 x13).f0 = true then (if x10.length < 2199023255552 then ((some (x10 ++ [(⟨(rd_T25 x0 x13).f0, (rd_T25 x0 x13).f1, (rd_T25 x0 x13).f2, (rd_T25 x0 x13).f3, (rd_T25 x0 x13).f4⟩ : S25)] : List (S25))).bind fun y213 => (if x12 = true then (tollhouselaw14_AclDenies.l0 k x0 x1 x2 x3 x9 y213 x11 true (wrap64 (x13 + 1))) else ((acl_Matches.f ((rd_T25 x0 x13).f0) ((rd_T25 x0 x13).f1) ((rd_T25 x0 x13).f2) ((rd_T25 x0 x13).f3) ((rd_T25 x0 x13).f4) x1 x2 x3).bind fun t217 => (tollhouselaw14_AclDenies.l0 k x0 x1 x2 x3 x9 y213 x11 t217 (wrap64 (x13 + 1)))))) else (none)) else (if x9.length < 2199023255552 then ((some (x9 ++ [(⟨(rd_T25 x0 x13).f0, (rd_T25 x0 x13).f1, (rd_T25 x0 x13).f2, (rd_T25 x0 x13).f3, (rd_T25 x0 x13).f4⟩ : S25)] : List (S25))).bind fun y219 => (if x11 = true then (tollhouselaw14_AclDenies.l0 k x0 x1 x2 x3 y219 x10 true x12 (wrap64 (x13 + 1))) else ((acl_Matches.f ((rd_T25 x0 x13).f0) ((rd_T25 x0 x13).f1) ((rd_T25 x0 x13).f2) ((rd_T25 x0 x13).f3) ((rd_T25 x0 x13).f4) x1 x2 x3).bind fun t223 => (tollhouselaw14_AclDenies.l0 k x0 x1 x2 x3 y219 x10 t223 x12 (wrap64 (x13 + 1)))))) else (none))) else (none)) else (if x9.length + x10.length < 2199023255552 then ((acl_Admits.f (x9 ++ x10) x1 x2 x3).bind fun t227 => (if x12 = true then (if (t227 == (!x11)) = true then ((acl_Admits.f x0 x1 x2 x3).bind fun t228 => (if t228 = true then (if t227 = true then ((acl_Admits.f x0 x1 x2 x3).bind fun t229 => (if t229 = true then ((tollhouselaw14_wakes.f).bind fun t230 => (some t230)) else (some false))) else ((tollhouselaw14_wakes.f).bind fun t231 => (some t231))) else (if t227 = true then ((acl_Admits.f x0 x1 x2 x3).bind fun t232 => (if t232 = true then ((tollhouselaw14_wakes.f).bind fun t233 => (some t233)) else (some false))) else ((tollhouselaw14_wakes.f).bind fun t234 => (some t234))))) else (some false)) else (if (t227 == false) = true then ((acl_Admits.f x0 x1 x2 x3).bind fun t235 => (if t235 = true then (some false) else (if t227 = true then ((acl_Admits.f x0 x1 x2 x3).bind fun t236 => (if t236 = true then ((tollhouselaw14_wakes.f).bind fun t237 => (some t237)) else (some false))) else ((tollhouselaw14_wakes.f).bind fun t238 => (some t238))))) else (some false)))) else (none))
def tollhouselaw14_AclDenies.f (k : Nat) (l0 : List (S25)) (a1 : ByteArray) (a2 : Int) (a3 : ByteArray) : Option (Bool) := tollhouselaw14_AclDenies.l0 k l0 a1 a2 a3 ([] : List (S25)) ([] : List (S25)) false false 0
theorem tollhouselaw14_AclDenies.mono_l : ∀ k, (∀ y0 y1 y2 y3 y4 y5 y6 y7 y8, LeO (tollhouselaw14_AclDenies.l0 k y0 y1 y2 y3 y4 y5 y6 y7 y8) (tollhouselaw14_AclDenies.l0 (k + 1) y0 y1 y2 y3 y4 y5 y6 y7 y8))
  | 0 => fun _ _ _ _ _ _ _ _ _ r h => by simp [tollhouselaw14_AclDenies.l0] at h
  | k + 1 => by
    have ih0 := tollhouselaw14_AclDenies.mono_l k
    · intro y0 y1 y2 y3 y4 y5 y6 y7 y8
      unfold tollhouselaw14_AclDenies.l0
      repeat' first
      | (with_reducible exact ih0 _ _ _ _ _ _ _ _ _)
      | (with_reducible exact LeO.refl _)
      | (with_reducible exact LeO.none _)
      | (with_reducible refine LeO.ite ?_ ?_)
      | (with_reducible refine LeO.bind ?_ (fun _ => ?_))
      | exact ih0 _ _ _ _ _ _ _ _ _
      | exact LeO.none _
      | refine LeO.ite ?_ ?_
      | refine LeO.bind ?_ (fun _ => ?_)
theorem tollhouselaw14_AclDenies.mono : ∀ a0 a1 a2 a3 k, LeO (tollhouselaw14_AclDenies.f k a0 a1 a2 a3) (tollhouselaw14_AclDenies.f (k + 1) a0 a1 a2 a3) := by
  intro a0 a1 a2 a3 k
  have ih0 := tollhouselaw14_AclDenies.mono_l k
  unfold tollhouselaw14_AclDenies.f
  repeat' first
      | (with_reducible exact ih0 _ _ _ _ _ _ _ _ _)
      | (with_reducible exact LeO.refl _)
      | (with_reducible exact LeO.none _)
      | (with_reducible refine LeO.ite ?_ ?_)
      | (with_reducible refine LeO.bind ?_ (fun _ => ?_))
      | exact ih0 _ _ _ _ _ _ _ _ _
      | exact LeO.none _
      | refine LeO.ite ?_ ?_
      | refine LeO.bind ?_ (fun _ => ?_)
set_option maxHeartbeats 8000000 in
set_option maxRecDepth 100000 in
theorem tollhouselaw14_AclDenies.calls (k : Nat) (P0_ : Nat → Prop) (A0 : Option Addr) (c0 : Nat) (l0 : List (S25)) (a1 : ByteArray) (a2 : Int) (a3 : ByteArray) (r : Bool) (w : World) (hs0 : Kd.V k25 25 w w.heap.size (fun k_ => P0_ k_) (.slice A0 l0.length c0) l0) (HGg : Glob w) (h : tollhouselaw14_AclDenies.f k l0 a1 a2 a3 = some r) :
    Calls Tryd.prog 5 #[.slice A0 l0.length c0, .string a1, .int .i64 a2, .string a3] w fun e w' => e = .returned (.bool r) ∧ Below w.heap.size w w' := by
  have hu25 := Tryd.underlying25
  have HGl := Aside0.mk HGg
  clear HGg
  have HO0 := Aside0.mk (show Kd.V k25 25 w w.heap.size (fun k_ => (P0_ k_ ∨ w.heap.size ≤ k_)) (.slice A0 l0.length c0) l0 from Kd.V_mono hs0 (fun k_ hk => .inl hk))
  have HB := Aside0.mk (Below.refl w.heap.size w)
  have H : (tollhouselaw14_AclDenies.l0 k l0 a1 a2 a3 ([] : List (S25)) ([] : List (S25)) false false 0) = some r := h
  clear h
  have H' := Aside0.mk H
  clear H
  go_enter Tryd.func5, Tryd.ntmps5
  go_wp2
  go_loopg [9, 10, 11, 12, 13] k (fun kq v9 v10 v11 v12 v13 w' => ∃ (x9_1 : List (S25)) (x10_1 : List (S25)) (x11_1 : Bool) (x12_1 : Bool) (x13_1 : Int), v11 = .bool x11_1 ∧ v12 = .bool x12_1 ∧ v13 = .int .i64 x13_1 ∧ Aside0 (tollhouselaw14_AclDenies.l0 kq l0 a1 a2 a3 x9_1 x10_1 x11_1 x12_1 x13_1 = some r) ∧ Aside0 (kq ≤ k) ∧ Aside0 (Kd.V k25 25 w' w.heap.size (fun k_ => (P0_ k_ ∨ w.heap.size ≤ k_) ∧ some k_ ≠ (v9 : Value).ownBlock ∧ some k_ ≠ (v10 : Value).ownBlock) (.slice A0 l0.length c0) l0) ∧ Aside0 (Kd.N k25 25 w' w.heap.size (fun k_ => (P0_ k_ ∨ w.heap.size ≤ k_) ∧ some k_ ≠ (v10 : Value).ownBlock) v9 x9_1) ∧ Aside0 (Kd.N k25 25 w' w.heap.size (fun k_ => (P0_ k_ ∨ w.heap.size ≤ k_) ∧ some k_ ≠ (v9 : Value).ownBlock) v10 x10_1) ∧ Aside0 (Below w.heap.size w w'))
  case atStart => exact ⟨(([] : List (S25))), (([] : List (S25))), (false), (false), (0), (by first | rfl | (simp; done) | (simp [*]; done)), (by first | rfl | (simp; done) | (simp [*]; done)), (by first | rfl | (simp; done) | (simp [*]; done)), H', ⟨Nat.le_refl _⟩, ⟨by (with_reducible repeat (first | apply Kd.V_alloc | apply Kd.V_drewN | apply Kd.V_drew)); exact Kd.V_mono HO0.out (fun _ hk => ⟨hk, ⟨(by simp [Value.ownBlock]), (by simp [Value.ownBlock])⟩⟩)⟩, ⟨by first | exact Kd.S_nil _ _ _ _ _ | exact Kd.N_nil _ _ _ _ _ | exact Kd.V_nil _ _ _ _ _ | exact Kd.Q_nil _ _ _ _ _ | exact Kd.R_nil _ _ _ _ _⟩, ⟨by first | exact Kd.S_nil _ _ _ _ _ | exact Kd.N_nil _ _ _ _ _ | exact Kd.V_nil _ _ _ _ _ | exact Kd.Q_nil _ _ _ _ _ | exact Kd.R_nil _ _ _ _ _⟩, ⟨by repeat (first | (with_reducible first | exact HB.out | apply below_alloc | apply pw_below_drewN | apply below_drew1) | exact HB.out)⟩⟩
  case round =>
    clear H'
    try clear p2
    obtain ⟨x9_1, x10_1, x11_1, x12_1, x13_1, rfl, rfl, rfl, HA, HK1, HO_0, HO_9, HO_10, HB⟩ := hrel
    cases gk with
    | zero => exact absurd HA.out (by simp [tollhouselaw14_AclDenies.l0])
    | succ k1 =>
      have H := HA.out
      clear HA
      simp only [tollhouselaw14_AclDenies.l0] at H
      by_cases c5 : x13_1 < (l0.length : Int)
      · rw [if_pos c5] at H
        have c5b0 : decide (x13_1 < (l0.length : Int)) = true := decide_eq_true c5
        clear c5
        by_cases c6 : 0 ≤ x13_1
        · rw [if_pos c6] at H
          have c6b0 : decide (0 ≤ x13_1) = true := decide_eq_true c6
          clear c6
          obtain ⟨bq7, hbq7⟩ : ∃ b_ : Bool, b_ = ((rd_T25 l0 x13_1).f0) := ⟨_, rfl⟩
          replace H : (if bq7 = true then (if x10_1.length < 2199023255552 then ((some (x10_1 ++ [(⟨bq7, (rd_T25 l0 x13_1).f1, (rd_T25 l0 x13_1).f2, (rd_T25 l0 x13_1).f3, (rd_T25 l0 x13_1).f4⟩ : S25)] : List (S25))).bind fun y213 => (if x12_1 = true then (tollhouselaw14_AclDenies.l0 k1 l0 a1 a2 a3 x9_1 y213 x11_1 true (wrap64 (x13_1 + 1))) else ((acl_Matches.f (bq7) ((rd_T25 l0 x13_1).f1) ((rd_T25 l0 x13_1).f2) ((rd_T25 l0 x13_1).f3) ((rd_T25 l0 x13_1).f4) a1 a2 a3).bind fun t217 => (tollhouselaw14_AclDenies.l0 k1 l0 a1 a2 a3 x9_1 y213 x11_1 t217 (wrap64 (x13_1 + 1)))))) else (none)) else (if x9_1.length < 2199023255552 then ((some (x9_1 ++ [(⟨bq7, (rd_T25 l0 x13_1).f1, (rd_T25 l0 x13_1).f2, (rd_T25 l0 x13_1).f3, (rd_T25 l0 x13_1).f4⟩ : S25)] : List (S25))).bind fun y219 => (if x11_1 = true then (tollhouselaw14_AclDenies.l0 k1 l0 a1 a2 a3 y219 x10_1 true x12_1 (wrap64 (x13_1 + 1))) else ((acl_Matches.f (bq7) ((rd_T25 l0 x13_1).f1) ((rd_T25 l0 x13_1).f2) ((rd_T25 l0 x13_1).f3) ((rd_T25 l0 x13_1).f4) a1 a2 a3).bind fun t223 => (tollhouselaw14_AclDenies.l0 k1 l0 a1 a2 a3 y219 x10_1 t223 x12_1 (wrap64 (x13_1 + 1)))))) else (none))) = some r := by rw [← hbq7] at H; exact H
          have Nbq7 := Aside0.mk hbq7
          clear hbq7
          by_cases c8 : bq7 = true
          · subst c8
            have H1 : (if x10_1.length < 2199023255552 then ((some (x10_1 ++ [(⟨true, (rd_T25 l0 x13_1).f1, (rd_T25 l0 x13_1).f2, (rd_T25 l0 x13_1).f3, (rd_T25 l0 x13_1).f4⟩ : S25)] : List (S25))).bind fun y213 => (if x12_1 = true then (tollhouselaw14_AclDenies.l0 k1 l0 a1 a2 a3 x9_1 y213 x11_1 true (wrap64 (x13_1 + 1))) else ((acl_Matches.f (true) ((rd_T25 l0 x13_1).f1) ((rd_T25 l0 x13_1).f2) ((rd_T25 l0 x13_1).f3) ((rd_T25 l0 x13_1).f4) a1 a2 a3).bind fun t217 => (tollhouselaw14_AclDenies.l0 k1 l0 a1 a2 a3 x9_1 y213 x11_1 t217 (wrap64 (x13_1 + 1)))))) else (none)) = some r := by rw [if_pos rfl] at H; exact H
            clear H
            have H := H1
            clear H1
            by_cases c9 : x10_1.length < 2199023255552
            · rw [if_pos c9] at H
              have LMc9 := Aside0.mk c9
              clear c9
              obtain ⟨y213, hy213⟩ : ∃ y_ : List (S25), y_ = (x10_1 ++ [(⟨true, (rd_T25 l0 x13_1).f1, (rd_T25 l0 x13_1).f2, (rd_T25 l0 x13_1).f3, (rd_T25 l0 x13_1).f4⟩ : S25)]) := ⟨_, rfl⟩
              replace H : (if x12_1 = true then (tollhouselaw14_AclDenies.l0 k1 l0 a1 a2 a3 x9_1 y213 x11_1 true (wrap64 (x13_1 + 1))) else ((acl_Matches.f (true) ((rd_T25 l0 x13_1).f1) ((rd_T25 l0 x13_1).f2) ((rd_T25 l0 x13_1).f3) ((rd_T25 l0 x13_1).f4) a1 a2 a3).bind fun t217 => (tollhouselaw14_AclDenies.l0 k1 l0 a1 a2 a3 x9_1 y213 x11_1 t217 (wrap64 (x13_1 + 1))))) = some r := by first | (rw [hy213]; with_reducible exact H) | (have H2_ := (Option.bind_some _ _).symm.trans H; rw [hy213]; with_reducible exact H2_) | (have H2_ := (Option.bind_some _ _).symm.trans H; with_reducible exact H2_) | with_reducible exact H | (rw [hy213]; exact H) | exact H
              have Ny213 := Aside0.mk hy213
              clear hy213
              by_cases c10 : x12_1 = true
              · subst c10
                have H1 : (tollhouselaw14_AclDenies.l0 k1 l0 a1 a2 a3 x9_1 y213 x11_1 true (wrap64 (x13_1 + 1))) = some r := by rw [if_pos rfl] at H; exact H
                clear H
                have H := H1
                clear H1
                have H' := Aside0.mk H
                clear H
                have p211 : 0 ≤ (x13_1 : Int) := of_decide_eq_true (by first | (with_reducible assumption) | assumption)
                have q211 : x13_1 < (l0.length : Int) := of_decide_eq_true (by first | (with_reducible assumption) | assumption)
                obtain ⟨ad211, A211_4, c211_4, e211, hx211_0, hx211_1, hx211_2, hx211_3, hx211_4, hl211_4, hi211_4⟩ := at_T25 (Kd.V_reads' HO_0.out).2.2 x13_1 p211 q211
                (try rw [← Nbq7.out] at hx211_0)
                cases e211
                obtain ⟨ce211, hce211, hMe211, hcc211⟩ := Kd.V_get HO_0.out z25 x13_1 p211 (by first | exact q211 | exact of_decide_eq_true (by first | (with_reducible assumption) | assumption) | (have e_ := (Kd.V_reads' HO_0.out).1; omega))
                obtain ⟨ua211_4, uc211_4, rfl, ul211_4, ge211_4⟩ := k25_openF hMe211
                have hv211_4 := hcc211 4 _ rfl
                rw [add_field _ _ 4 (by omega)] at hv211_4
                replace hv211_4 := Option.some.inj (hv211_4.symm.trans hx211_4)
                injection hv211_4 with hva_ hvn_ hvc_
                rw [hva_] at ge211_4
                rw [hvc_] at ul211_4
                have HL211_4 := Aside0.mk (show Kd.V Kd.string 9 _ w.heap.size _ _ ((rd_T25 l0 x13_1).f4) from Kd.V_mk ul211_4 ge211_4)
                clear hva_ hvn_ hvc_ ge211_4 ul211_4
                clear hcc211 hce211
                have HR211_4 := Aside0.mk hi211_4
                have HC211_4 := Aside0.mk hl211_4
                clear hi211_4 hl211_4
                replace p211 := eq_true p211
                replace q211 := eq_true q211
                have p212 : 0 ≤ (x13_1 : Int) := of_decide_eq_true (by first | (with_reducible assumption) | assumption)
                have q212 : x13_1 < (l0.length : Int) := of_decide_eq_true (by first | (with_reducible assumption) | assumption)
                obtain ⟨ad212, A212_4, c212_4, e212, hx212_0, hx212_1, hx212_2, hx212_3, hx212_4, hl212_4, hi212_4⟩ := at_T25 (Kd.V_reads' HO_0.out).2.2 x13_1 p212 q212
                (try rw [← Nbq7.out] at hx212_0)
                obtain rfl : ad211 = ad212 := (by injection e212)
                obtain ⟨ce212, hce212, hMe212, hcc212⟩ := Kd.V_get HO_0.out z25 x13_1 p212 (by first | exact q212 | exact of_decide_eq_true (by first | (with_reducible assumption) | assumption) | (have e_ := (Kd.V_reads' HO_0.out).1; omega))
                obtain ⟨ua212_4, uc212_4, rfl, ul212_4, ge212_4⟩ := k25_openF hMe212
                have hv212_4 := hcc212 4 _ rfl
                rw [add_field _ _ 4 (by omega)] at hv212_4
                replace hv212_4 := Option.some.inj (hv212_4.symm.trans hx212_4)
                injection hv212_4 with hva_ hvn_ hvc_
                rw [hva_] at ge212_4
                rw [hvc_] at ul212_4
                have HL212_4 := Aside0.mk (show Kd.V Kd.string 9 _ w.heap.size _ _ ((rd_T25 l0 x13_1).f4) from Kd.V_mk ul212_4 ge212_4)
                clear hva_ hvn_ hvc_ ge212_4 ul212_4
                clear hcc212 hce212
                have HR212_4 := Aside0.mk hi212_4
                have HC212_4 := Aside0.mk hl212_4
                clear hi212_4 hl212_4
                replace p212 := eq_true p212
                replace q212 := eq_true q212
                have ea_ := Option.some.inj (hx211_4.symm.trans hx212_4)
                injection ea_ with ea_ en_ ec_
                subst ea_
                subst ec_
                clear en_
                have tk1 : True := trivial
                go_wp2_with (first | (have t_1 := tk1; clear tk1; clear t_1; (with_reducible refine gate_builtin (b := .append) (xs := #[.tmp 26, .tmp 31]) rfl ?_); at_builtin; refine Kd.N_append k25 (w0 := w) w.heap.size rfl (.tmp 26) (.tmp 31) 22 25 (.agg #[(.bool false), (.string ⟨#[]⟩), (.int .i64 0), (.int .i64 0), (.slice none 0 0)]) 64 rfl Tryd.underlying22 info25 rfl (by decide) (by omega) u10 x10_1 (⟨true, (rd_T25 l0 x13_1).f1, (rd_T25 l0 x13_1).f2, (rd_T25 l0 x13_1).f3, (rd_T25 l0 x13_1).f4⟩ : S25) [.bool true, .string ((rd_T25 l0 x13_1).f1), .int .i64 ((rd_T25 l0 x13_1).f2), .int .i64 ((rd_T25 l0 x13_1).f3), .slice A211_4 ((rd_T25 l0 x13_1).f4).length c211_4] (fun k_ => (P0_ k_ ∨ w.heap.size ≤ k_) ∧ some k_ ≠ (u9 : Value).ownBlock) (fun k_ => ((fun k_ => (P0_ k_ ∨ w.heap.size ≤ k_) ∧ some k_ ≠ (u9 : Value).ownBlock)) k_ ∧ some k_ ≠ (u10 : Value).ownBlock) rfl rfl ?aP (fun _ hk => hk) ?aF ?aO ?aB ?aS ?aL ?_; (case aP => exact (k25_mkF _ _ (⟨true, (rd_T25 l0 x13_1).f1, (rd_T25 l0 x13_1).f2, (rd_T25 l0 x13_1).f3, (rd_T25 l0 x13_1).f4⟩ : S25) (Kd.V_reads' (Kd.V_mono (ok' := (fun k_ => ((fun k_ => (P0_ k_ ∨ w.heap.size ≤ k_) ∧ some k_ ≠ (u9 : Value).ownBlock)) k_ ∧ some k_ ≠ (u10 : Value).ownBlock)) (HL212_4.out) (fun k_ hk => ⟨⟨hk.1, hk.2.1⟩, hk.2.2⟩))).2.1 (Kd.V_F (Kd.V_mono (ok' := (fun k_ => ((fun k_ => (P0_ k_ ∨ w.heap.size ≤ k_) ∧ some k_ ≠ (u9 : Value).ownBlock)) k_ ∧ some k_ ≠ (u10 : Value).ownBlock)) (HL212_4.out) (fun k_ hk => ⟨⟨hk.1, hk.2.1⟩, hk.2.2⟩))))); (case aB => exact (by repeat (first | (with_reducible first | exact HB.out | apply below_alloc | apply pw_below_drewN | apply below_drew1) | exact HB.out))); (case aF => exact (fun k_ hk => ⟨(.inr (Nat.le_trans (below_size (by repeat (first | (with_reducible first | exact HB.out | apply below_alloc | apply pw_below_drewN | apply below_drew1) | exact HB.out))) hk)), Kd.fresh' (Kd.N_lt (by (with_reducible repeat (first | apply Kd.N_alloc | apply Kd.N_drewN | apply Kd.N_drew)); exact HO_9.out)) k_ hk⟩)); (case aO => exact (by (with_reducible repeat (first | apply Kd.N_alloc | apply Kd.N_drewN | apply Kd.N_drew)); exact HO_10.out)); (case aS => exact (below_size (by repeat (first | (with_reducible first | exact HB.out | apply below_alloc | apply pw_below_drewN | apply below_drew1) | exact HB.out)))); (case aL => have := LMc9.out; omega); intro v214 w11 ho hb hg hat; rw [← Ny213.out] at ho; have n0_ := Aside0.mk (Kd.V_afterv (ok := (fun k_ => (P0_ k_ ∨ w.heap.size ≤ k_) ∧ some k_ ≠ (u9 : Value).ownBlock)) (by (with_reducible repeat (first | apply Kd.V_alloc | apply Kd.V_drewN | apply Kd.V_drew)); exact Kd.V_mono HO_0.out (fun _ hk => ⟨⟨hk.1, hk.2.1⟩, hk.2.2⟩)) hg hat); have n1_ := Aside0.mk (Kd.N_afterv (ok := (fun k_ => (P0_ k_ ∨ w.heap.size ≤ k_))) (by (with_reducible repeat (first | apply Kd.N_alloc | apply Kd.N_drewN | apply Kd.N_drew)); exact HO_9.out) hg hat); have n2_ := Aside0.mk (Kd.V_afterv (ok := (fun k_ => (P0_ k_ ∨ w.heap.size ≤ k_) ∧ some k_ ≠ (u9 : Value).ownBlock)) (by (with_reducible repeat (first | apply Kd.V_alloc | apply Kd.V_drewN | apply Kd.V_drew)); exact Kd.V_mono HL211_4.out (fun _ hk => ⟨⟨hk.1, hk.2.1⟩, hk.2.2⟩)) hg hat); have n3_ := Aside0.mk (Kd.V_afterv (ok := (fun k_ => (P0_ k_ ∨ w.heap.size ≤ k_) ∧ some k_ ≠ (u9 : Value).ownBlock)) (by (with_reducible repeat (first | apply Kd.V_alloc | apply Kd.V_drewN | apply Kd.V_drew)); exact Kd.V_mono HL212_4.out (fun _ hk => ⟨⟨hk.1, hk.2.1⟩, hk.2.2⟩)) hg hat); have n4_ := Aside0.mk (hb); have n5_ := Aside0.mk (ho); clear HO_0; clear HO_9; clear HL211_4; clear HL212_4; clear HB; clear HO_10; have HO_0 := n0_; have HO_9 := n1_; have HL211_4 := n2_; have HL212_4 := n3_; have HB := n4_; have HO215 := n5_; clear n0_ n1_ n2_ n3_ n4_ n5_; clear ho hb hg hat))
                go_roundg k1
                case measure => have := HK1.out; omega
                case rel => exact ⟨(x9_1), (y213), (x11_1), (true), (wrap64 (x13_1 + 1)), (by first | rfl | (simp; done) | (simp [*]; done)), (by first | rfl | (simp; done) | (simp [*]; done)), (by first | rfl | (simp; done) | (simp [*]; done)), H', ⟨by have := HK1.out; omega⟩, ⟨by (with_reducible repeat (first | apply Kd.V_alloc | apply Kd.V_drewN | apply Kd.V_drew)); exact Kd.V_mono HO_0.out (fun _ hk => ⟨hk.1.1, ⟨hk.1.2, hk.2⟩⟩)⟩, ⟨by (with_reducible repeat (first | apply Kd.N_alloc | apply Kd.N_drewN | apply Kd.N_drew)); exact HO_9.out⟩, ⟨by (with_reducible repeat (first | apply Kd.N_alloc | apply Kd.N_drewN | apply Kd.N_drew)); exact HO215.out⟩, ⟨by repeat (first | (with_reducible first | exact HB.out | apply below_alloc | apply pw_below_drewN | apply below_drew1) | exact HB.out)⟩⟩
              · replace c10 := Bool.eq_false_iff.mpr c10
                subst c10
                have H1 : ((acl_Matches.f (true) ((rd_T25 l0 x13_1).f1) ((rd_T25 l0 x13_1).f2) ((rd_T25 l0 x13_1).f3) ((rd_T25 l0 x13_1).f4) a1 a2 a3).bind fun t217 => (tollhouselaw14_AclDenies.l0 k1 l0 a1 a2 a3 x9_1 y213 x11_1 t217 (wrap64 (x13_1 + 1)))) = some r := by rw [if_neg (show ¬ (false = true) by decide)] at H; exact H
                clear H
                have H := H1
                clear H1
                replace H := Option.bind_eq_some_iff.mp H
                obtain ⟨t217, A120, H⟩ := H
                replace H : (tollhouselaw14_AclDenies.l0 k1 l0 a1 a2 a3 x9_1 y213 x11_1 t217 (wrap64 (x13_1 + 1))) = some r := H
                have A12 := Aside0.mk A120
                clear A120
                have H' := Aside0.mk H
                clear H
                have p211 : 0 ≤ (x13_1 : Int) := of_decide_eq_true (by first | (with_reducible assumption) | assumption)
                have q211 : x13_1 < (l0.length : Int) := of_decide_eq_true (by first | (with_reducible assumption) | assumption)
                obtain ⟨ad211, A211_4, c211_4, e211, hx211_0, hx211_1, hx211_2, hx211_3, hx211_4, hl211_4, hi211_4⟩ := at_T25 (Kd.V_reads' HO_0.out).2.2 x13_1 p211 q211
                (try rw [← Nbq7.out] at hx211_0)
                cases e211
                obtain ⟨ce211, hce211, hMe211, hcc211⟩ := Kd.V_get HO_0.out z25 x13_1 p211 (by first | exact q211 | exact of_decide_eq_true (by first | (with_reducible assumption) | assumption) | (have e_ := (Kd.V_reads' HO_0.out).1; omega))
                obtain ⟨ua211_4, uc211_4, rfl, ul211_4, ge211_4⟩ := k25_openF hMe211
                have hv211_4 := hcc211 4 _ rfl
                rw [add_field _ _ 4 (by omega)] at hv211_4
                replace hv211_4 := Option.some.inj (hv211_4.symm.trans hx211_4)
                injection hv211_4 with hva_ hvn_ hvc_
                rw [hva_] at ge211_4
                rw [hvc_] at ul211_4
                have HL211_4 := Aside0.mk (show Kd.V Kd.string 9 _ w.heap.size _ _ ((rd_T25 l0 x13_1).f4) from Kd.V_mk ul211_4 ge211_4)
                clear hva_ hvn_ hvc_ ge211_4 ul211_4
                clear hcc211 hce211
                have HR211_4 := Aside0.mk hi211_4
                have HC211_4 := Aside0.mk hl211_4
                clear hi211_4 hl211_4
                replace p211 := eq_true p211
                replace q211 := eq_true q211
                have p212 : 0 ≤ (x13_1 : Int) := of_decide_eq_true (by first | (with_reducible assumption) | assumption)
                have q212 : x13_1 < (l0.length : Int) := of_decide_eq_true (by first | (with_reducible assumption) | assumption)
                obtain ⟨ad212, A212_4, c212_4, e212, hx212_0, hx212_1, hx212_2, hx212_3, hx212_4, hl212_4, hi212_4⟩ := at_T25 (Kd.V_reads' HO_0.out).2.2 x13_1 p212 q212
                (try rw [← Nbq7.out] at hx212_0)
                obtain rfl : ad211 = ad212 := (by injection e212)
                obtain ⟨ce212, hce212, hMe212, hcc212⟩ := Kd.V_get HO_0.out z25 x13_1 p212 (by first | exact q212 | exact of_decide_eq_true (by first | (with_reducible assumption) | assumption) | (have e_ := (Kd.V_reads' HO_0.out).1; omega))
                obtain ⟨ua212_4, uc212_4, rfl, ul212_4, ge212_4⟩ := k25_openF hMe212
                have hv212_4 := hcc212 4 _ rfl
                rw [add_field _ _ 4 (by omega)] at hv212_4
                replace hv212_4 := Option.some.inj (hv212_4.symm.trans hx212_4)
                injection hv212_4 with hva_ hvn_ hvc_
                rw [hva_] at ge212_4
                rw [hvc_] at ul212_4
                have HL212_4 := Aside0.mk (show Kd.V Kd.string 9 _ w.heap.size _ _ ((rd_T25 l0 x13_1).f4) from Kd.V_mk ul212_4 ge212_4)
                clear hva_ hvn_ hvc_ ge212_4 ul212_4
                clear hcc212 hce212
                have HR212_4 := Aside0.mk hi212_4
                have HC212_4 := Aside0.mk hl212_4
                clear hi212_4 hl212_4
                replace p212 := eq_true p212
                replace q212 := eq_true q212
                have ea_ := Option.some.inj (hx211_4.symm.trans hx212_4)
                injection ea_ with ea_ en_ ec_
                subst ea_
                subst ec_
                clear en_
                have tk2 : True := trivial
                have tk3 : True := trivial
                go_wp2_with (first | (have t_2 := tk2; clear tk2; clear t_2; (with_reducible refine gate_builtin (b := .append) (xs := #[.tmp 26, .tmp 31]) rfl ?_); at_builtin; refine Kd.N_append k25 (w0 := w) w.heap.size rfl (.tmp 26) (.tmp 31) 22 25 (.agg #[(.bool false), (.string ⟨#[]⟩), (.int .i64 0), (.int .i64 0), (.slice none 0 0)]) 64 rfl Tryd.underlying22 info25 rfl (by decide) (by omega) u10 x10_1 (⟨true, (rd_T25 l0 x13_1).f1, (rd_T25 l0 x13_1).f2, (rd_T25 l0 x13_1).f3, (rd_T25 l0 x13_1).f4⟩ : S25) [.bool true, .string ((rd_T25 l0 x13_1).f1), .int .i64 ((rd_T25 l0 x13_1).f2), .int .i64 ((rd_T25 l0 x13_1).f3), .slice A211_4 ((rd_T25 l0 x13_1).f4).length c211_4] (fun k_ => (P0_ k_ ∨ w.heap.size ≤ k_) ∧ some k_ ≠ (u9 : Value).ownBlock) (fun k_ => ((fun k_ => (P0_ k_ ∨ w.heap.size ≤ k_) ∧ some k_ ≠ (u9 : Value).ownBlock)) k_ ∧ some k_ ≠ (u10 : Value).ownBlock) rfl rfl ?aP (fun _ hk => hk) ?aF ?aO ?aB ?aS ?aL ?_; (case aP => exact (k25_mkF _ _ (⟨true, (rd_T25 l0 x13_1).f1, (rd_T25 l0 x13_1).f2, (rd_T25 l0 x13_1).f3, (rd_T25 l0 x13_1).f4⟩ : S25) (Kd.V_reads' (Kd.V_mono (ok' := (fun k_ => ((fun k_ => (P0_ k_ ∨ w.heap.size ≤ k_) ∧ some k_ ≠ (u9 : Value).ownBlock)) k_ ∧ some k_ ≠ (u10 : Value).ownBlock)) (HL212_4.out) (fun k_ hk => ⟨⟨hk.1, hk.2.1⟩, hk.2.2⟩))).2.1 (Kd.V_F (Kd.V_mono (ok' := (fun k_ => ((fun k_ => (P0_ k_ ∨ w.heap.size ≤ k_) ∧ some k_ ≠ (u9 : Value).ownBlock)) k_ ∧ some k_ ≠ (u10 : Value).ownBlock)) (HL212_4.out) (fun k_ hk => ⟨⟨hk.1, hk.2.1⟩, hk.2.2⟩))))); (case aB => exact (by repeat (first | (with_reducible first | exact HB.out | apply below_alloc | apply pw_below_drewN | apply below_drew1) | exact HB.out))); (case aF => exact (fun k_ hk => ⟨(.inr (Nat.le_trans (below_size (by repeat (first | (with_reducible first | exact HB.out | apply below_alloc | apply pw_below_drewN | apply below_drew1) | exact HB.out))) hk)), Kd.fresh' (Kd.N_lt (by (with_reducible repeat (first | apply Kd.N_alloc | apply Kd.N_drewN | apply Kd.N_drew)); exact HO_9.out)) k_ hk⟩)); (case aO => exact (by (with_reducible repeat (first | apply Kd.N_alloc | apply Kd.N_drewN | apply Kd.N_drew)); exact HO_10.out)); (case aS => exact (below_size (by repeat (first | (with_reducible first | exact HB.out | apply below_alloc | apply pw_below_drewN | apply below_drew1) | exact HB.out)))); (case aL => have := LMc9.out; omega); intro v214 w13 ho hb hg hat; rw [← Ny213.out] at ho; have n0_ := Aside0.mk (Kd.V_afterv (ok := (fun k_ => (P0_ k_ ∨ w.heap.size ≤ k_) ∧ some k_ ≠ (u9 : Value).ownBlock)) (by (with_reducible repeat (first | apply Kd.V_alloc | apply Kd.V_drewN | apply Kd.V_drew)); exact Kd.V_mono HO_0.out (fun _ hk => ⟨⟨hk.1, hk.2.1⟩, hk.2.2⟩)) hg hat); have n1_ := Aside0.mk (Kd.N_afterv (ok := (fun k_ => (P0_ k_ ∨ w.heap.size ≤ k_))) (by (with_reducible repeat (first | apply Kd.N_alloc | apply Kd.N_drewN | apply Kd.N_drew)); exact HO_9.out) hg hat); have n2_ := Aside0.mk (Kd.V_afterv (ok := (fun k_ => (P0_ k_ ∨ w.heap.size ≤ k_) ∧ some k_ ≠ (u9 : Value).ownBlock)) (by (with_reducible repeat (first | apply Kd.V_alloc | apply Kd.V_drewN | apply Kd.V_drew)); exact Kd.V_mono HL211_4.out (fun _ hk => ⟨⟨hk.1, hk.2.1⟩, hk.2.2⟩)) hg hat); have n3_ := Aside0.mk (Kd.V_afterv (ok := (fun k_ => (P0_ k_ ∨ w.heap.size ≤ k_) ∧ some k_ ≠ (u9 : Value).ownBlock)) (by (with_reducible repeat (first | apply Kd.V_alloc | apply Kd.V_drewN | apply Kd.V_drew)); exact Kd.V_mono HL212_4.out (fun _ hk => ⟨⟨hk.1, hk.2.1⟩, hk.2.2⟩)) hg hat); have n4_ := Aside0.mk (hb); have n5_ := Aside0.mk (ho); clear HO_0; clear HO_9; clear HL211_4; clear HL212_4; clear HB; clear HO_10; have HO_0 := n0_; have HO_9 := n1_; have HL211_4 := n2_; have HL212_4 := n3_; have HB := n4_; have HO215 := n5_; clear n0_ n1_ n2_ n3_ n4_ n5_; clear ho hb hg hat; have p216 : 0 ≤ (x13_1 : Int) := of_decide_eq_true (by first | (with_reducible assumption) | assumption); have q216 : x13_1 < (l0.length : Int) := of_decide_eq_true (by first | (with_reducible assumption) | assumption); obtain ⟨ad216, A216_4, c216_4, e216, hx216_0, hx216_1, hx216_2, hx216_3, hx216_4, hl216_4, hi216_4⟩ := at_T25 (Kd.V_reads' HO_0.out).2.2 x13_1 p216 q216; (try rw [← Nbq7.out] at hx216_0); obtain rfl : ad211 = ad216 := (by injection e216); obtain ⟨ce216, hce216, hMe216, hcc216⟩ := Kd.V_get HO_0.out z25 x13_1 p216 (by first | exact q216 | exact of_decide_eq_true (by first | (with_reducible assumption) | assumption) | (have e_ := (Kd.V_reads' HO_0.out).1; omega)); obtain ⟨ua216_4, uc216_4, rfl, ul216_4, ge216_4⟩ := k25_openF hMe216; have hv216_4 := hcc216 4 _ rfl; rw [add_field _ _ 4 (by omega)] at hv216_4; replace hv216_4 := Option.some.inj (hv216_4.symm.trans hx216_4); injection hv216_4 with hva_ hvn_ hvc_; rw [hva_] at ge216_4; rw [hvc_] at ul216_4; have HL216_4 := Aside0.mk (show Kd.V Kd.string 9 _ w.heap.size _ _ ((rd_T25 l0 x13_1).f4) from Kd.V_mk ul216_4 ge216_4); clear hva_ hvn_ hvc_ ge216_4 ul216_4; clear hcc216 hce216; have HR216_4 := Aside0.mk hi216_4; have HC216_4 := Aside0.mk hl216_4; clear hi216_4 hl216_4; replace p216 := eq_true p216; replace q216 := eq_true q216) | (have t_3 := tk3; clear tk3; clear t_3; go_at_call 16; (with_reducible refine (acl_Matches.calls true ((rd_T25 l0 x13_1).f1) ((rd_T25 l0 x13_1).f2) ((rd_T25 l0 x13_1).f3) _ _ ((rd_T25 l0 x13_1).f4) a1 a2 a3 t217 _ ?side1 ?side2 (Glob.below HGl.out (by repeat (first | (with_reducible first | exact HB.out | apply below_alloc | apply pw_below_drewN | apply below_drew1) | exact HB.out))) A12.out).mono ?_); (case side1 => repeat (first | exact (by repeat (first | (with_reducible exact HR216_4.out) | (with_reducible refine Kd.C_alloc ?_ _) | (with_reducible refine Kd.C_drewN ?_ _) | (with_reducible refine Kd.C_drew ?_) | exact HR216_4.out)) | (with_reducible refine Kd.C_alloc ?_ _) | (with_reducible refine Kd.C_drewN ?_ _) | (with_reducible refine Kd.C_drew ?_))); (case side2 => exact HC216_4.out); rintro e w14 ⟨rfl, hb⟩; have n0_ := Aside0.mk (Kd.V_below (by (with_reducible repeat (first | apply Kd.V_alloc | apply Kd.V_drewN | apply Kd.V_drew)); exact HO_0.out) hb); have n1_ := Aside0.mk (Kd.N_below (by (with_reducible repeat (first | apply Kd.N_alloc | apply Kd.N_drewN | apply Kd.N_drew)); exact HO_9.out) hb); have n2_ := Aside0.mk (Kd.V_below (by (with_reducible repeat (first | apply Kd.V_alloc | apply Kd.V_drewN | apply Kd.V_drew)); exact HL211_4.out) hb); have n3_ := Aside0.mk (Kd.V_below (by (with_reducible repeat (first | apply Kd.V_alloc | apply Kd.V_drewN | apply Kd.V_drew)); exact HL212_4.out) hb); have n4_ := Aside0.mk (Kd.N_below (by (with_reducible repeat (first | apply Kd.N_alloc | apply Kd.N_drewN | apply Kd.N_drew)); exact HO215.out) hb); have n5_ := Aside0.mk (Kd.V_below (by (with_reducible repeat (first | apply Kd.V_alloc | apply Kd.V_drewN | apply Kd.V_drew)); exact HL216_4.out) hb); have n6_ := Aside0.mk (Kd.C_below (by repeat (first | (with_reducible exact HR216_4.out) | (with_reducible refine Kd.C_alloc ?_ _) | (with_reducible refine Kd.C_drewN ?_ _) | (with_reducible refine Kd.C_drew ?_) | exact HR216_4.out)) hb); have n7_ := Aside0.mk (below_step (by repeat (first | (with_reducible first | exact HB.out | apply below_alloc | apply pw_below_drewN | apply below_drew1) | exact HB.out)) hb); clear HO_0; clear HO_9; clear HL211_4; clear HL212_4; clear HO215; clear HL216_4; clear HR216_4; clear HB; have HO_0 := n0_; have HO_9 := n1_; have HL211_4 := n2_; have HL212_4 := n3_; have HO215 := n4_; have HL216_4 := n5_; have HR216_4 := n6_; have HB := n7_; clear n0_ n1_ n2_ n3_ n4_ n5_ n6_ n7_; (try clear hb); (try clear hb2); (try clear hk); (try clear hi)))
                go_roundg k1
                case measure => have := HK1.out; omega
                case rel => exact ⟨(x9_1), (y213), (x11_1), (t217), (wrap64 (x13_1 + 1)), (by first | rfl | (simp; done) | (simp [*]; done)), (by first | rfl | (simp; done) | (simp [*]; done)), (by first | rfl | (simp; done) | (simp [*]; done)), H', ⟨by have := HK1.out; omega⟩, ⟨by (with_reducible repeat (first | apply Kd.V_alloc | apply Kd.V_drewN | apply Kd.V_drew)); exact Kd.V_mono HO_0.out (fun _ hk => ⟨hk.1.1, ⟨hk.1.2, hk.2⟩⟩)⟩, ⟨by (with_reducible repeat (first | apply Kd.N_alloc | apply Kd.N_drewN | apply Kd.N_drew)); exact HO_9.out⟩, ⟨by (with_reducible repeat (first | apply Kd.N_alloc | apply Kd.N_drewN | apply Kd.N_drew)); exact HO215.out⟩, ⟨by repeat (first | (with_reducible first | exact HB.out | apply below_alloc | apply pw_below_drewN | apply below_drew1) | exact HB.out)⟩⟩
            · rw [if_neg c9] at H
              exact absurd H (by simp)
          · replace c8 := Bool.eq_false_iff.mpr c8
            subst c8
            have H1 : (if x9_1.length < 2199023255552 then ((some (x9_1 ++ [(⟨false, (rd_T25 l0 x13_1).f1, (rd_T25 l0 x13_1).f2, (rd_T25 l0 x13_1).f3, (rd_T25 l0 x13_1).f4⟩ : S25)] : List (S25))).bind fun y219 => (if x11_1 = true then (tollhouselaw14_AclDenies.l0 k1 l0 a1 a2 a3 y219 x10_1 true x12_1 (wrap64 (x13_1 + 1))) else ((acl_Matches.f (false) ((rd_T25 l0 x13_1).f1) ((rd_T25 l0 x13_1).f2) ((rd_T25 l0 x13_1).f3) ((rd_T25 l0 x13_1).f4) a1 a2 a3).bind fun t223 => (tollhouselaw14_AclDenies.l0 k1 l0 a1 a2 a3 y219 x10_1 t223 x12_1 (wrap64 (x13_1 + 1)))))) else (none)) = some r := by rw [if_neg (show ¬ (false = true) by decide)] at H; exact H
            clear H
            have H := H1
            clear H1
            by_cases c15 : x9_1.length < 2199023255552
            · rw [if_pos c15] at H
              have LMc15 := Aside0.mk c15
              clear c15
              obtain ⟨y219, hy219⟩ : ∃ y_ : List (S25), y_ = (x9_1 ++ [(⟨false, (rd_T25 l0 x13_1).f1, (rd_T25 l0 x13_1).f2, (rd_T25 l0 x13_1).f3, (rd_T25 l0 x13_1).f4⟩ : S25)]) := ⟨_, rfl⟩
              replace H : (if x11_1 = true then (tollhouselaw14_AclDenies.l0 k1 l0 a1 a2 a3 y219 x10_1 true x12_1 (wrap64 (x13_1 + 1))) else ((acl_Matches.f (false) ((rd_T25 l0 x13_1).f1) ((rd_T25 l0 x13_1).f2) ((rd_T25 l0 x13_1).f3) ((rd_T25 l0 x13_1).f4) a1 a2 a3).bind fun t223 => (tollhouselaw14_AclDenies.l0 k1 l0 a1 a2 a3 y219 x10_1 t223 x12_1 (wrap64 (x13_1 + 1))))) = some r := by first | (rw [hy219]; with_reducible exact H) | (have H2_ := (Option.bind_some _ _).symm.trans H; rw [hy219]; with_reducible exact H2_) | (have H2_ := (Option.bind_some _ _).symm.trans H; with_reducible exact H2_) | with_reducible exact H | (rw [hy219]; exact H) | exact H
              have Ny219 := Aside0.mk hy219
              clear hy219
              by_cases c16 : x11_1 = true
              · subst c16
                have H1 : (tollhouselaw14_AclDenies.l0 k1 l0 a1 a2 a3 y219 x10_1 true x12_1 (wrap64 (x13_1 + 1))) = some r := by rw [if_pos rfl] at H; exact H
                clear H
                have H := H1
                clear H1
                have H' := Aside0.mk H
                clear H
                have p211 : 0 ≤ (x13_1 : Int) := of_decide_eq_true (by first | (with_reducible assumption) | assumption)
                have q211 : x13_1 < (l0.length : Int) := of_decide_eq_true (by first | (with_reducible assumption) | assumption)
                obtain ⟨ad211, A211_4, c211_4, e211, hx211_0, hx211_1, hx211_2, hx211_3, hx211_4, hl211_4, hi211_4⟩ := at_T25 (Kd.V_reads' HO_0.out).2.2 x13_1 p211 q211
                (try rw [← Nbq7.out] at hx211_0)
                cases e211
                obtain ⟨ce211, hce211, hMe211, hcc211⟩ := Kd.V_get HO_0.out z25 x13_1 p211 (by first | exact q211 | exact of_decide_eq_true (by first | (with_reducible assumption) | assumption) | (have e_ := (Kd.V_reads' HO_0.out).1; omega))
                obtain ⟨ua211_4, uc211_4, rfl, ul211_4, ge211_4⟩ := k25_openF hMe211
                have hv211_4 := hcc211 4 _ rfl
                rw [add_field _ _ 4 (by omega)] at hv211_4
                replace hv211_4 := Option.some.inj (hv211_4.symm.trans hx211_4)
                injection hv211_4 with hva_ hvn_ hvc_
                rw [hva_] at ge211_4
                rw [hvc_] at ul211_4
                have HL211_4 := Aside0.mk (show Kd.V Kd.string 9 _ w.heap.size _ _ ((rd_T25 l0 x13_1).f4) from Kd.V_mk ul211_4 ge211_4)
                clear hva_ hvn_ hvc_ ge211_4 ul211_4
                clear hcc211 hce211
                have HR211_4 := Aside0.mk hi211_4
                have HC211_4 := Aside0.mk hl211_4
                clear hi211_4 hl211_4
                replace p211 := eq_true p211
                replace q211 := eq_true q211
                have p218 : 0 ≤ (x13_1 : Int) := of_decide_eq_true (by first | (with_reducible assumption) | assumption)
                have q218 : x13_1 < (l0.length : Int) := of_decide_eq_true (by first | (with_reducible assumption) | assumption)
                obtain ⟨ad218, A218_4, c218_4, e218, hx218_0, hx218_1, hx218_2, hx218_3, hx218_4, hl218_4, hi218_4⟩ := at_T25 (Kd.V_reads' HO_0.out).2.2 x13_1 p218 q218
                (try rw [← Nbq7.out] at hx218_0)
                obtain rfl : ad211 = ad218 := (by injection e218)
                obtain ⟨ce218, hce218, hMe218, hcc218⟩ := Kd.V_get HO_0.out z25 x13_1 p218 (by first | exact q218 | exact of_decide_eq_true (by first | (with_reducible assumption) | assumption) | (have e_ := (Kd.V_reads' HO_0.out).1; omega))
                obtain ⟨ua218_4, uc218_4, rfl, ul218_4, ge218_4⟩ := k25_openF hMe218
                have hv218_4 := hcc218 4 _ rfl
                rw [add_field _ _ 4 (by omega)] at hv218_4
                replace hv218_4 := Option.some.inj (hv218_4.symm.trans hx218_4)
                injection hv218_4 with hva_ hvn_ hvc_
                rw [hva_] at ge218_4
                rw [hvc_] at ul218_4
                have HL218_4 := Aside0.mk (show Kd.V Kd.string 9 _ w.heap.size _ _ ((rd_T25 l0 x13_1).f4) from Kd.V_mk ul218_4 ge218_4)
                clear hva_ hvn_ hvc_ ge218_4 ul218_4
                clear hcc218 hce218
                have HR218_4 := Aside0.mk hi218_4
                have HC218_4 := Aside0.mk hl218_4
                clear hi218_4 hl218_4
                replace p218 := eq_true p218
                replace q218 := eq_true q218
                have ea_ := Option.some.inj (hx211_4.symm.trans hx218_4)
                injection ea_ with ea_ en_ ec_
                subst ea_
                subst ec_
                clear en_
                have tk4 : True := trivial
                go_wp2_with (first | (have t_4 := tk4; clear tk4; clear t_4; (with_reducible refine gate_builtin (b := .append) (xs := #[.tmp 44, .tmp 49]) rfl ?_); at_builtin; refine Kd.N_append k25 (w0 := w) w.heap.size rfl (.tmp 44) (.tmp 49) 22 25 (.agg #[(.bool false), (.string ⟨#[]⟩), (.int .i64 0), (.int .i64 0), (.slice none 0 0)]) 64 rfl Tryd.underlying22 info25 rfl (by decide) (by omega) u9 x9_1 (⟨false, (rd_T25 l0 x13_1).f1, (rd_T25 l0 x13_1).f2, (rd_T25 l0 x13_1).f3, (rd_T25 l0 x13_1).f4⟩ : S25) [.bool false, .string ((rd_T25 l0 x13_1).f1), .int .i64 ((rd_T25 l0 x13_1).f2), .int .i64 ((rd_T25 l0 x13_1).f3), .slice A211_4 ((rd_T25 l0 x13_1).f4).length c211_4] (fun k_ => (P0_ k_ ∨ w.heap.size ≤ k_) ∧ some k_ ≠ (u10 : Value).ownBlock) (fun k_ => ((fun k_ => (P0_ k_ ∨ w.heap.size ≤ k_) ∧ some k_ ≠ (u10 : Value).ownBlock)) k_ ∧ some k_ ≠ (u9 : Value).ownBlock) rfl rfl ?aP (fun _ hk => hk) ?aF ?aO ?aB ?aS ?aL ?_; (case aP => exact (k25_mkF _ _ (⟨false, (rd_T25 l0 x13_1).f1, (rd_T25 l0 x13_1).f2, (rd_T25 l0 x13_1).f3, (rd_T25 l0 x13_1).f4⟩ : S25) (Kd.V_reads' (Kd.V_mono (ok' := (fun k_ => ((fun k_ => (P0_ k_ ∨ w.heap.size ≤ k_) ∧ some k_ ≠ (u10 : Value).ownBlock)) k_ ∧ some k_ ≠ (u9 : Value).ownBlock)) (HL218_4.out) (fun k_ hk => ⟨⟨hk.1, hk.2.2⟩, hk.2.1⟩))).2.1 (Kd.V_F (Kd.V_mono (ok' := (fun k_ => ((fun k_ => (P0_ k_ ∨ w.heap.size ≤ k_) ∧ some k_ ≠ (u10 : Value).ownBlock)) k_ ∧ some k_ ≠ (u9 : Value).ownBlock)) (HL218_4.out) (fun k_ hk => ⟨⟨hk.1, hk.2.2⟩, hk.2.1⟩))))); (case aB => exact (by repeat (first | (with_reducible first | exact HB.out | apply below_alloc | apply pw_below_drewN | apply below_drew1) | exact HB.out))); (case aF => exact (fun k_ hk => ⟨(.inr (Nat.le_trans (below_size (by repeat (first | (with_reducible first | exact HB.out | apply below_alloc | apply pw_below_drewN | apply below_drew1) | exact HB.out))) hk)), Kd.fresh' (Kd.N_lt (by (with_reducible repeat (first | apply Kd.N_alloc | apply Kd.N_drewN | apply Kd.N_drew)); exact HO_10.out)) k_ hk⟩)); (case aO => exact (by (with_reducible repeat (first | apply Kd.N_alloc | apply Kd.N_drewN | apply Kd.N_drew)); exact HO_9.out)); (case aS => exact (below_size (by repeat (first | (with_reducible first | exact HB.out | apply below_alloc | apply pw_below_drewN | apply below_drew1) | exact HB.out)))); (case aL => have := LMc15.out; omega); intro v220 w17 ho hb hg hat; rw [← Ny219.out] at ho; have n0_ := Aside0.mk (Kd.V_afterv (ok := (fun k_ => (P0_ k_ ∨ w.heap.size ≤ k_) ∧ some k_ ≠ (u10 : Value).ownBlock)) (by (with_reducible repeat (first | apply Kd.V_alloc | apply Kd.V_drewN | apply Kd.V_drew)); exact Kd.V_mono HO_0.out (fun _ hk => ⟨⟨hk.1, hk.2.2⟩, hk.2.1⟩)) hg hat); have n1_ := Aside0.mk (Kd.N_afterv (ok := (fun k_ => (P0_ k_ ∨ w.heap.size ≤ k_))) (by (with_reducible repeat (first | apply Kd.N_alloc | apply Kd.N_drewN | apply Kd.N_drew)); exact HO_10.out) hg hat); have n2_ := Aside0.mk (Kd.V_afterv (ok := (fun k_ => (P0_ k_ ∨ w.heap.size ≤ k_) ∧ some k_ ≠ (u10 : Value).ownBlock)) (by (with_reducible repeat (first | apply Kd.V_alloc | apply Kd.V_drewN | apply Kd.V_drew)); exact Kd.V_mono HL211_4.out (fun _ hk => ⟨⟨hk.1, hk.2.2⟩, hk.2.1⟩)) hg hat); have n3_ := Aside0.mk (Kd.V_afterv (ok := (fun k_ => (P0_ k_ ∨ w.heap.size ≤ k_) ∧ some k_ ≠ (u10 : Value).ownBlock)) (by (with_reducible repeat (first | apply Kd.V_alloc | apply Kd.V_drewN | apply Kd.V_drew)); exact Kd.V_mono HL218_4.out (fun _ hk => ⟨⟨hk.1, hk.2.2⟩, hk.2.1⟩)) hg hat); have n4_ := Aside0.mk (hb); have n5_ := Aside0.mk (ho); clear HO_0; clear HO_10; clear HL211_4; clear HL218_4; clear HB; clear HO_9; have HO_0 := n0_; have HO_10 := n1_; have HL211_4 := n2_; have HL218_4 := n3_; have HB := n4_; have HO221 := n5_; clear n0_ n1_ n2_ n3_ n4_ n5_; clear ho hb hg hat))
                go_roundg k1
                case measure => have := HK1.out; omega
                case rel => exact ⟨(y219), (x10_1), (true), (x12_1), (wrap64 (x13_1 + 1)), (by first | rfl | (simp; done) | (simp [*]; done)), (by first | rfl | (simp; done) | (simp [*]; done)), (by first | rfl | (simp; done) | (simp [*]; done)), H', ⟨by have := HK1.out; omega⟩, ⟨by (with_reducible repeat (first | apply Kd.V_alloc | apply Kd.V_drewN | apply Kd.V_drew)); exact Kd.V_mono HO_0.out (fun _ hk => ⟨hk.1.1, ⟨hk.2, hk.1.2⟩⟩)⟩, ⟨by (with_reducible repeat (first | apply Kd.N_alloc | apply Kd.N_drewN | apply Kd.N_drew)); exact HO221.out⟩, ⟨by (with_reducible repeat (first | apply Kd.N_alloc | apply Kd.N_drewN | apply Kd.N_drew)); exact HO_10.out⟩, ⟨by repeat (first | (with_reducible first | exact HB.out | apply below_alloc | apply pw_below_drewN | apply below_drew1) | exact HB.out)⟩⟩
              · replace c16 := Bool.eq_false_iff.mpr c16
                subst c16
                have H1 : ((acl_Matches.f (false) ((rd_T25 l0 x13_1).f1) ((rd_T25 l0 x13_1).f2) ((rd_T25 l0 x13_1).f3) ((rd_T25 l0 x13_1).f4) a1 a2 a3).bind fun t223 => (tollhouselaw14_AclDenies.l0 k1 l0 a1 a2 a3 y219 x10_1 t223 x12_1 (wrap64 (x13_1 + 1)))) = some r := by rw [if_neg (show ¬ (false = true) by decide)] at H; exact H
                clear H
                have H := H1
                clear H1
                replace H := Option.bind_eq_some_iff.mp H
                obtain ⟨t223, A180, H⟩ := H
                replace H : (tollhouselaw14_AclDenies.l0 k1 l0 a1 a2 a3 y219 x10_1 t223 x12_1 (wrap64 (x13_1 + 1))) = some r := H
                have A18 := Aside0.mk A180
                clear A180
                have H' := Aside0.mk H
                clear H
                have p211 : 0 ≤ (x13_1 : Int) := of_decide_eq_true (by first | (with_reducible assumption) | assumption)
                have q211 : x13_1 < (l0.length : Int) := of_decide_eq_true (by first | (with_reducible assumption) | assumption)
                obtain ⟨ad211, A211_4, c211_4, e211, hx211_0, hx211_1, hx211_2, hx211_3, hx211_4, hl211_4, hi211_4⟩ := at_T25 (Kd.V_reads' HO_0.out).2.2 x13_1 p211 q211
                (try rw [← Nbq7.out] at hx211_0)
                cases e211
                obtain ⟨ce211, hce211, hMe211, hcc211⟩ := Kd.V_get HO_0.out z25 x13_1 p211 (by first | exact q211 | exact of_decide_eq_true (by first | (with_reducible assumption) | assumption) | (have e_ := (Kd.V_reads' HO_0.out).1; omega))
                obtain ⟨ua211_4, uc211_4, rfl, ul211_4, ge211_4⟩ := k25_openF hMe211
                have hv211_4 := hcc211 4 _ rfl
                rw [add_field _ _ 4 (by omega)] at hv211_4
                replace hv211_4 := Option.some.inj (hv211_4.symm.trans hx211_4)
                injection hv211_4 with hva_ hvn_ hvc_
                rw [hva_] at ge211_4
                rw [hvc_] at ul211_4
                have HL211_4 := Aside0.mk (show Kd.V Kd.string 9 _ w.heap.size _ _ ((rd_T25 l0 x13_1).f4) from Kd.V_mk ul211_4 ge211_4)
                clear hva_ hvn_ hvc_ ge211_4 ul211_4
                clear hcc211 hce211
                have HR211_4 := Aside0.mk hi211_4
                have HC211_4 := Aside0.mk hl211_4
                clear hi211_4 hl211_4
                replace p211 := eq_true p211
                replace q211 := eq_true q211
                have p218 : 0 ≤ (x13_1 : Int) := of_decide_eq_true (by first | (with_reducible assumption) | assumption)
                have q218 : x13_1 < (l0.length : Int) := of_decide_eq_true (by first | (with_reducible assumption) | assumption)
                obtain ⟨ad218, A218_4, c218_4, e218, hx218_0, hx218_1, hx218_2, hx218_3, hx218_4, hl218_4, hi218_4⟩ := at_T25 (Kd.V_reads' HO_0.out).2.2 x13_1 p218 q218
                (try rw [← Nbq7.out] at hx218_0)
                obtain rfl : ad211 = ad218 := (by injection e218)
                obtain ⟨ce218, hce218, hMe218, hcc218⟩ := Kd.V_get HO_0.out z25 x13_1 p218 (by first | exact q218 | exact of_decide_eq_true (by first | (with_reducible assumption) | assumption) | (have e_ := (Kd.V_reads' HO_0.out).1; omega))
                obtain ⟨ua218_4, uc218_4, rfl, ul218_4, ge218_4⟩ := k25_openF hMe218
                have hv218_4 := hcc218 4 _ rfl
                rw [add_field _ _ 4 (by omega)] at hv218_4
                replace hv218_4 := Option.some.inj (hv218_4.symm.trans hx218_4)
                injection hv218_4 with hva_ hvn_ hvc_
                rw [hva_] at ge218_4
                rw [hvc_] at ul218_4
                have HL218_4 := Aside0.mk (show Kd.V Kd.string 9 _ w.heap.size _ _ ((rd_T25 l0 x13_1).f4) from Kd.V_mk ul218_4 ge218_4)
                clear hva_ hvn_ hvc_ ge218_4 ul218_4
                clear hcc218 hce218
                have HR218_4 := Aside0.mk hi218_4
                have HC218_4 := Aside0.mk hl218_4
                clear hi218_4 hl218_4
                replace p218 := eq_true p218
                replace q218 := eq_true q218
                have ea_ := Option.some.inj (hx211_4.symm.trans hx218_4)
                injection ea_ with ea_ en_ ec_
                subst ea_
                subst ec_
                clear en_
                have tk5 : True := trivial
                have tk6 : True := trivial
                go_wp2_with (first | (have t_5 := tk5; clear tk5; clear t_5; (with_reducible refine gate_builtin (b := .append) (xs := #[.tmp 44, .tmp 49]) rfl ?_); at_builtin; refine Kd.N_append k25 (w0 := w) w.heap.size rfl (.tmp 44) (.tmp 49) 22 25 (.agg #[(.bool false), (.string ⟨#[]⟩), (.int .i64 0), (.int .i64 0), (.slice none 0 0)]) 64 rfl Tryd.underlying22 info25 rfl (by decide) (by omega) u9 x9_1 (⟨false, (rd_T25 l0 x13_1).f1, (rd_T25 l0 x13_1).f2, (rd_T25 l0 x13_1).f3, (rd_T25 l0 x13_1).f4⟩ : S25) [.bool false, .string ((rd_T25 l0 x13_1).f1), .int .i64 ((rd_T25 l0 x13_1).f2), .int .i64 ((rd_T25 l0 x13_1).f3), .slice A211_4 ((rd_T25 l0 x13_1).f4).length c211_4] (fun k_ => (P0_ k_ ∨ w.heap.size ≤ k_) ∧ some k_ ≠ (u10 : Value).ownBlock) (fun k_ => ((fun k_ => (P0_ k_ ∨ w.heap.size ≤ k_) ∧ some k_ ≠ (u10 : Value).ownBlock)) k_ ∧ some k_ ≠ (u9 : Value).ownBlock) rfl rfl ?aP (fun _ hk => hk) ?aF ?aO ?aB ?aS ?aL ?_; (case aP => exact (k25_mkF _ _ (⟨false, (rd_T25 l0 x13_1).f1, (rd_T25 l0 x13_1).f2, (rd_T25 l0 x13_1).f3, (rd_T25 l0 x13_1).f4⟩ : S25) (Kd.V_reads' (Kd.V_mono (ok' := (fun k_ => ((fun k_ => (P0_ k_ ∨ w.heap.size ≤ k_) ∧ some k_ ≠ (u10 : Value).ownBlock)) k_ ∧ some k_ ≠ (u9 : Value).ownBlock)) (HL218_4.out) (fun k_ hk => ⟨⟨hk.1, hk.2.2⟩, hk.2.1⟩))).2.1 (Kd.V_F (Kd.V_mono (ok' := (fun k_ => ((fun k_ => (P0_ k_ ∨ w.heap.size ≤ k_) ∧ some k_ ≠ (u10 : Value).ownBlock)) k_ ∧ some k_ ≠ (u9 : Value).ownBlock)) (HL218_4.out) (fun k_ hk => ⟨⟨hk.1, hk.2.2⟩, hk.2.1⟩))))); (case aB => exact (by repeat (first | (with_reducible first | exact HB.out | apply below_alloc | apply pw_below_drewN | apply below_drew1) | exact HB.out))); (case aF => exact (fun k_ hk => ⟨(.inr (Nat.le_trans (below_size (by repeat (first | (with_reducible first | exact HB.out | apply below_alloc | apply pw_below_drewN | apply below_drew1) | exact HB.out))) hk)), Kd.fresh' (Kd.N_lt (by (with_reducible repeat (first | apply Kd.N_alloc | apply Kd.N_drewN | apply Kd.N_drew)); exact HO_10.out)) k_ hk⟩)); (case aO => exact (by (with_reducible repeat (first | apply Kd.N_alloc | apply Kd.N_drewN | apply Kd.N_drew)); exact HO_9.out)); (case aS => exact (below_size (by repeat (first | (with_reducible first | exact HB.out | apply below_alloc | apply pw_below_drewN | apply below_drew1) | exact HB.out)))); (case aL => have := LMc15.out; omega); intro v220 w19 ho hb hg hat; rw [← Ny219.out] at ho; have n0_ := Aside0.mk (Kd.V_afterv (ok := (fun k_ => (P0_ k_ ∨ w.heap.size ≤ k_) ∧ some k_ ≠ (u10 : Value).ownBlock)) (by (with_reducible repeat (first | apply Kd.V_alloc | apply Kd.V_drewN | apply Kd.V_drew)); exact Kd.V_mono HO_0.out (fun _ hk => ⟨⟨hk.1, hk.2.2⟩, hk.2.1⟩)) hg hat); have n1_ := Aside0.mk (Kd.N_afterv (ok := (fun k_ => (P0_ k_ ∨ w.heap.size ≤ k_))) (by (with_reducible repeat (first | apply Kd.N_alloc | apply Kd.N_drewN | apply Kd.N_drew)); exact HO_10.out) hg hat); have n2_ := Aside0.mk (Kd.V_afterv (ok := (fun k_ => (P0_ k_ ∨ w.heap.size ≤ k_) ∧ some k_ ≠ (u10 : Value).ownBlock)) (by (with_reducible repeat (first | apply Kd.V_alloc | apply Kd.V_drewN | apply Kd.V_drew)); exact Kd.V_mono HL211_4.out (fun _ hk => ⟨⟨hk.1, hk.2.2⟩, hk.2.1⟩)) hg hat); have n3_ := Aside0.mk (Kd.V_afterv (ok := (fun k_ => (P0_ k_ ∨ w.heap.size ≤ k_) ∧ some k_ ≠ (u10 : Value).ownBlock)) (by (with_reducible repeat (first | apply Kd.V_alloc | apply Kd.V_drewN | apply Kd.V_drew)); exact Kd.V_mono HL218_4.out (fun _ hk => ⟨⟨hk.1, hk.2.2⟩, hk.2.1⟩)) hg hat); have n4_ := Aside0.mk (hb); have n5_ := Aside0.mk (ho); clear HO_0; clear HO_10; clear HL211_4; clear HL218_4; clear HB; clear HO_9; have HO_0 := n0_; have HO_10 := n1_; have HL211_4 := n2_; have HL218_4 := n3_; have HB := n4_; have HO221 := n5_; clear n0_ n1_ n2_ n3_ n4_ n5_; clear ho hb hg hat; have p222 : 0 ≤ (x13_1 : Int) := of_decide_eq_true (by first | (with_reducible assumption) | assumption); have q222 : x13_1 < (l0.length : Int) := of_decide_eq_true (by first | (with_reducible assumption) | assumption); obtain ⟨ad222, A222_4, c222_4, e222, hx222_0, hx222_1, hx222_2, hx222_3, hx222_4, hl222_4, hi222_4⟩ := at_T25 (Kd.V_reads' HO_0.out).2.2 x13_1 p222 q222; (try rw [← Nbq7.out] at hx222_0); obtain rfl : ad211 = ad222 := (by injection e222); obtain ⟨ce222, hce222, hMe222, hcc222⟩ := Kd.V_get HO_0.out z25 x13_1 p222 (by first | exact q222 | exact of_decide_eq_true (by first | (with_reducible assumption) | assumption) | (have e_ := (Kd.V_reads' HO_0.out).1; omega)); obtain ⟨ua222_4, uc222_4, rfl, ul222_4, ge222_4⟩ := k25_openF hMe222; have hv222_4 := hcc222 4 _ rfl; rw [add_field _ _ 4 (by omega)] at hv222_4; replace hv222_4 := Option.some.inj (hv222_4.symm.trans hx222_4); injection hv222_4 with hva_ hvn_ hvc_; rw [hva_] at ge222_4; rw [hvc_] at ul222_4; have HL222_4 := Aside0.mk (show Kd.V Kd.string 9 _ w.heap.size _ _ ((rd_T25 l0 x13_1).f4) from Kd.V_mk ul222_4 ge222_4); clear hva_ hvn_ hvc_ ge222_4 ul222_4; clear hcc222 hce222; have HR222_4 := Aside0.mk hi222_4; have HC222_4 := Aside0.mk hl222_4; clear hi222_4 hl222_4; replace p222 := eq_true p222; replace q222 := eq_true q222) | (have t_6 := tk6; clear tk6; clear t_6; go_at_call 16; (with_reducible refine (acl_Matches.calls false ((rd_T25 l0 x13_1).f1) ((rd_T25 l0 x13_1).f2) ((rd_T25 l0 x13_1).f3) _ _ ((rd_T25 l0 x13_1).f4) a1 a2 a3 t223 _ ?side1 ?side2 (Glob.below HGl.out (by repeat (first | (with_reducible first | exact HB.out | apply below_alloc | apply pw_below_drewN | apply below_drew1) | exact HB.out))) A18.out).mono ?_); (case side1 => repeat (first | exact (by repeat (first | (with_reducible exact HR222_4.out) | (with_reducible refine Kd.C_alloc ?_ _) | (with_reducible refine Kd.C_drewN ?_ _) | (with_reducible refine Kd.C_drew ?_) | exact HR222_4.out)) | (with_reducible refine Kd.C_alloc ?_ _) | (with_reducible refine Kd.C_drewN ?_ _) | (with_reducible refine Kd.C_drew ?_))); (case side2 => exact HC222_4.out); rintro e w20 ⟨rfl, hb⟩; have n0_ := Aside0.mk (Kd.V_below (by (with_reducible repeat (first | apply Kd.V_alloc | apply Kd.V_drewN | apply Kd.V_drew)); exact HO_0.out) hb); have n1_ := Aside0.mk (Kd.N_below (by (with_reducible repeat (first | apply Kd.N_alloc | apply Kd.N_drewN | apply Kd.N_drew)); exact HO_10.out) hb); have n2_ := Aside0.mk (Kd.V_below (by (with_reducible repeat (first | apply Kd.V_alloc | apply Kd.V_drewN | apply Kd.V_drew)); exact HL211_4.out) hb); have n3_ := Aside0.mk (Kd.V_below (by (with_reducible repeat (first | apply Kd.V_alloc | apply Kd.V_drewN | apply Kd.V_drew)); exact HL218_4.out) hb); have n4_ := Aside0.mk (Kd.N_below (by (with_reducible repeat (first | apply Kd.N_alloc | apply Kd.N_drewN | apply Kd.N_drew)); exact HO221.out) hb); have n5_ := Aside0.mk (Kd.V_below (by (with_reducible repeat (first | apply Kd.V_alloc | apply Kd.V_drewN | apply Kd.V_drew)); exact HL222_4.out) hb); have n6_ := Aside0.mk (Kd.C_below (by repeat (first | (with_reducible exact HR222_4.out) | (with_reducible refine Kd.C_alloc ?_ _) | (with_reducible refine Kd.C_drewN ?_ _) | (with_reducible refine Kd.C_drew ?_) | exact HR222_4.out)) hb); have n7_ := Aside0.mk (below_step (by repeat (first | (with_reducible first | exact HB.out | apply below_alloc | apply pw_below_drewN | apply below_drew1) | exact HB.out)) hb); clear HO_0; clear HO_10; clear HL211_4; clear HL218_4; clear HO221; clear HL222_4; clear HR222_4; clear HB; have HO_0 := n0_; have HO_10 := n1_; have HL211_4 := n2_; have HL218_4 := n3_; have HO221 := n4_; have HL222_4 := n5_; have HR222_4 := n6_; have HB := n7_; clear n0_ n1_ n2_ n3_ n4_ n5_ n6_ n7_; (try clear hb); (try clear hb2); (try clear hk); (try clear hi)))
                go_roundg k1
                case measure => have := HK1.out; omega
                case rel => exact ⟨(y219), (x10_1), (t223), (x12_1), (wrap64 (x13_1 + 1)), (by first | rfl | (simp; done) | (simp [*]; done)), (by first | rfl | (simp; done) | (simp [*]; done)), (by first | rfl | (simp; done) | (simp [*]; done)), H', ⟨by have := HK1.out; omega⟩, ⟨by (with_reducible repeat (first | apply Kd.V_alloc | apply Kd.V_drewN | apply Kd.V_drew)); exact Kd.V_mono HO_0.out (fun _ hk => ⟨hk.1.1, ⟨hk.2, hk.1.2⟩⟩)⟩, ⟨by (with_reducible repeat (first | apply Kd.N_alloc | apply Kd.N_drewN | apply Kd.N_drew)); exact HO221.out⟩, ⟨by (with_reducible repeat (first | apply Kd.N_alloc | apply Kd.N_drewN | apply Kd.N_drew)); exact HO_10.out⟩, ⟨by repeat (first | (with_reducible first | exact HB.out | apply below_alloc | apply pw_below_drewN | apply below_drew1) | exact HB.out)⟩⟩
            · rw [if_neg c15] at H
              exact absurd H (by simp)
        · rw [if_neg c6] at H
          exact absurd H (by simp)
      · rw [if_neg c5] at H
        have c5b0 : decide (x13_1 < (l0.length : Int)) = false := decide_eq_false c5
        clear c5
        by_cases c21 : x9_1.length + x10_1.length < 2199023255552
        · rw [if_pos c21] at H
          have LMc21 := Aside0.mk c21
          clear c21
          obtain ⟨y224, hy224⟩ : ∃ y_ : List (S25), y_ = (x9_1 ++ x10_1) := ⟨_, rfl⟩
          replace H : ((acl_Admits.f y224 a1 a2 a3).bind fun t227 => (if x12_1 = true then (if (t227 == (!x11_1)) = true then ((acl_Admits.f l0 a1 a2 a3).bind fun t228 => (if t228 = true then (if t227 = true then ((acl_Admits.f l0 a1 a2 a3).bind fun t229 => (if t229 = true then ((tollhouselaw14_wakes.f).bind fun t230 => (some t230)) else (some false))) else ((tollhouselaw14_wakes.f).bind fun t231 => (some t231))) else (if t227 = true then ((acl_Admits.f l0 a1 a2 a3).bind fun t232 => (if t232 = true then ((tollhouselaw14_wakes.f).bind fun t233 => (some t233)) else (some false))) else ((tollhouselaw14_wakes.f).bind fun t234 => (some t234))))) else (some false)) else (if (t227 == false) = true then ((acl_Admits.f l0 a1 a2 a3).bind fun t235 => (if t235 = true then (some false) else (if t227 = true then ((acl_Admits.f l0 a1 a2 a3).bind fun t236 => (if t236 = true then ((tollhouselaw14_wakes.f).bind fun t237 => (some t237)) else (some false))) else ((tollhouselaw14_wakes.f).bind fun t238 => (some t238))))) else (some false)))) = some r := by first | (rw [hy224]; with_reducible exact H) | (have H2_ := (Option.bind_some _ _).symm.trans H; rw [hy224]; with_reducible exact H2_) | (have H2_ := (Option.bind_some _ _).symm.trans H; with_reducible exact H2_) | with_reducible exact H | (rw [hy224]; exact H) | exact H
          have Ny224 := Aside0.mk hy224
          clear hy224
          replace H := Option.bind_eq_some_iff.mp H
          obtain ⟨t227, A220, H⟩ := H
          replace H : (if x12_1 = true then (if (t227 == (!x11_1)) = true then ((acl_Admits.f l0 a1 a2 a3).bind fun t228 => (if t228 = true then (if t227 = true then ((acl_Admits.f l0 a1 a2 a3).bind fun t229 => (if t229 = true then ((tollhouselaw14_wakes.f).bind fun t230 => (some t230)) else (some false))) else ((tollhouselaw14_wakes.f).bind fun t231 => (some t231))) else (if t227 = true then ((acl_Admits.f l0 a1 a2 a3).bind fun t232 => (if t232 = true then ((tollhouselaw14_wakes.f).bind fun t233 => (some t233)) else (some false))) else ((tollhouselaw14_wakes.f).bind fun t234 => (some t234))))) else (some false)) else (if (t227 == false) = true then ((acl_Admits.f l0 a1 a2 a3).bind fun t235 => (if t235 = true then (some false) else (if t227 = true then ((acl_Admits.f l0 a1 a2 a3).bind fun t236 => (if t236 = true then ((tollhouselaw14_wakes.f).bind fun t237 => (some t237)) else (some false))) else ((tollhouselaw14_wakes.f).bind fun t238 => (some t238))))) else (some false))) = some r := H
          have A22 := Aside0.mk A220
          clear A220
          by_cases c23 : x12_1 = true
          · subst c23
            have H1 : (if (t227 == (!x11_1)) = true then ((acl_Admits.f l0 a1 a2 a3).bind fun t228 => (if t228 = true then (if t227 = true then ((acl_Admits.f l0 a1 a2 a3).bind fun t229 => (if t229 = true then ((tollhouselaw14_wakes.f).bind fun t230 => (some t230)) else (some false))) else ((tollhouselaw14_wakes.f).bind fun t231 => (some t231))) else (if t227 = true then ((acl_Admits.f l0 a1 a2 a3).bind fun t232 => (if t232 = true then ((tollhouselaw14_wakes.f).bind fun t233 => (some t233)) else (some false))) else ((tollhouselaw14_wakes.f).bind fun t234 => (some t234))))) else (some false)) = some r := by rw [if_pos rfl] at H; exact H
            clear H
            have H := H1
            clear H1
            by_cases c24 : (t227 == (!x11_1)) = true
            · rw [if_pos c24] at H
              have c24b0 : (t227 == (!x11_1)) = true := c24
              (try (have c24b1 : decide (t227 = (!x11_1)) = true := by simpa using c24))
              (try (have c24b2 : (t227 == (!x11_1)) = true := by simpa using c24))
              clear c24
              replace H := Option.bind_eq_some_iff.mp H
              obtain ⟨t228, A250, H⟩ := H
              replace H : (if t228 = true then (if t227 = true then ((acl_Admits.f l0 a1 a2 a3).bind fun t229 => (if t229 = true then ((tollhouselaw14_wakes.f).bind fun t230 => (some t230)) else (some false))) else ((tollhouselaw14_wakes.f).bind fun t231 => (some t231))) else (if t227 = true then ((acl_Admits.f l0 a1 a2 a3).bind fun t232 => (if t232 = true then ((tollhouselaw14_wakes.f).bind fun t233 => (some t233)) else (some false))) else ((tollhouselaw14_wakes.f).bind fun t234 => (some t234)))) = some r := H
              have A25 := Aside0.mk A250
              clear A250
              by_cases c26 : t228 = true
              · subst c26
                have H1 : (if t227 = true then ((acl_Admits.f l0 a1 a2 a3).bind fun t229 => (if t229 = true then ((tollhouselaw14_wakes.f).bind fun t230 => (some t230)) else (some false))) else ((tollhouselaw14_wakes.f).bind fun t231 => (some t231))) = some r := by rw [if_pos rfl] at H; exact H
                clear H
                have H := H1
                clear H1
                by_cases c27 : t227 = true
                · subst c27
                  have H1 : ((acl_Admits.f l0 a1 a2 a3).bind fun t229 => (if t229 = true then ((tollhouselaw14_wakes.f).bind fun t230 => (some t230)) else (some false))) = some r := by rw [if_pos rfl] at H; exact H
                  clear H
                  have H := H1
                  clear H1
                  replace H := Option.bind_eq_some_iff.mp H
                  obtain ⟨t229, A280, H⟩ := H
                  replace H : (if t229 = true then ((tollhouselaw14_wakes.f).bind fun t230 => (some t230)) else (some false)) = some r := H
                  have A28 := Aside0.mk A280
                  clear A280
                  by_cases c29 : t229 = true
                  · subst c29
                    have H1 : ((tollhouselaw14_wakes.f).bind fun t230 => (some t230)) = some r := by rw [if_pos rfl] at H; exact H
                    clear H
                    have H := H1
                    clear H1
                    replace H := Option.bind_eq_some_iff.mp H
                    obtain ⟨t230, A300, H⟩ := H
                    replace H : (some t230) = some r := H
                    have A30 := Aside0.mk A300
                    clear A300
                    obtain rfl := Option.some.inj H
                    obtain ⟨Ao32, co32, eo32⟩ := Kd.N_slice HO_10.out
                    subst eo32
                    have tk7 : True := trivial
                    have tk8 : True := trivial
                    have tk9 : True := trivial
                    have tk10 : True := trivial
                    have tk11 : True := trivial
                    go_wp2_with (first | (have t_7 := tk7; clear tk7; clear t_7; (with_reducible refine gate_builtin (b := .append) (xs := #[.tmp 62, .tmp 63]) rfl ?_); at_builtin; refine Kd.N_append_rows k25 (w0 := w) w.heap.size rfl (.tmp 62) (.tmp 63) 22 25 (.agg #[(.bool false), (.string ⟨#[]⟩), (.int .i64 0), (.int .i64 0), (.slice none 0 0)]) 64 rfl Tryd.underlying22 info25 rfl (by decide) (by omega) u9 x9_1 x10_1 _ _ _ (fun k_ => (P0_ k_ ∨ w.heap.size ≤ k_)) (fun k_ => ((fun k_ => (P0_ k_ ∨ w.heap.size ≤ k_))) k_ ∧ some k_ ≠ (u9 : Value).ownBlock) rfl rfl ?aO ?aR (fun _ hk => hk) ?aF ?aB ?aS ?aL ?_; (case aR => exact (by skip; exact Kd.N_F (Kd.N_mono (ok' := (fun k_ => ((fun k_ => (P0_ k_ ∨ w.heap.size ≤ k_))) k_ ∧ some k_ ≠ (u9 : Value).ownBlock)) (HO_10.out) (fun k_ hk => ⟨hk.1, hk.2⟩)))); (case aB => exact (by repeat (first | (with_reducible first | exact HB.out | apply below_alloc | apply pw_below_drewN | apply below_drew1) | exact HB.out))); (case aF => exact (fun k_ hk => (.inr (Nat.le_trans (below_size (by repeat (first | (with_reducible first | exact HB.out | apply below_alloc | apply pw_below_drewN | apply below_drew1) | exact HB.out))) hk)))); (case aO => exact (by (with_reducible repeat (first | apply Kd.N_alloc | apply Kd.N_drewN | apply Kd.N_drew)); exact Kd.N_mono HO_9.out (fun _ hk => hk.1))); (case aS => exact (below_size (by repeat (first | (with_reducible first | exact HB.out | apply below_alloc | apply pw_below_drewN | apply below_drew1) | exact HB.out)))); (case aL => have := LMc21.out; omega); intro v225 w31 ho hb hg hat; rw [← Ny224.out] at ho; have n0_ := Aside0.mk (Kd.V_afterv (ok := (fun k_ => (P0_ k_ ∨ w.heap.size ≤ k_) ∧ some k_ ≠ (.slice Ao32 x10_1.length co32 : Value).ownBlock)) (by (with_reducible repeat (first | apply Kd.V_alloc | apply Kd.V_drewN | apply Kd.V_drew)); exact Kd.V_mono HO_0.out (fun _ hk => ⟨⟨hk.1, hk.2.2⟩, hk.2.1⟩)) hg hat); have n1_ := Aside0.mk (Kd.N_afterv (ok := (fun k_ => (P0_ k_ ∨ w.heap.size ≤ k_))) (by (with_reducible repeat (first | apply Kd.N_alloc | apply Kd.N_drewN | apply Kd.N_drew)); exact HO_10.out) hg hat); have n2_ := Aside0.mk (hb); have n3_ := Aside0.mk (ho); clear HO_0; clear HO_10; clear HB; clear HO_9; have HO_0 := n0_; have HO_10 := n1_; have HB := n2_; have HO226 := n3_; clear n0_ n1_ n2_ n3_; clear ho hb hg hat; obtain ⟨Ao33, co33, eo33⟩ := Kd.N_slice HO226.out; subst eo33) | (have t_8 := tk8; clear tk8; clear t_8; (with_reducible refine gate_callee (f := 18) rfl ?_); refine goesL_ (some 68) rfl rfl Tryd.func18 (by kernel_rfl) rfl #[.slice Ao33 y224.length co33, .string a1, .int .i64 a2, .string a3] rfl (by (try simp only [List.map_toArray, List.map_cons, List.map_nil]); first | done | rfl | (simp only [List.length_drop, List.length_take]; rfl)) ?_; (with_reducible refine (acl_Admits.calls _ _ y224 a1 a2 a3 true _ ?side1 ?side2 (Glob.below HGl.out (by repeat (first | (with_reducible first | exact HB.out | apply below_alloc | apply pw_below_drewN | apply below_drew1) | exact HB.out))) A22.out).mono ?_); (case side1 => repeat (first | exact (Kd.N_reads' HO226.out).2.2 | (with_reducible refine Kd.C_alloc ?_ _) | (with_reducible refine Kd.C_drewN ?_ _) | (with_reducible refine Kd.C_drew ?_))); (case side2 => exact (Kd.N_reads' HO226.out).2.1); rintro e w34 ⟨rfl, hb⟩; refine ⟨_, rfl, ?_⟩; have n0_ := Aside0.mk (Kd.V_below (by (with_reducible repeat (first | apply Kd.V_alloc | apply Kd.V_drewN | apply Kd.V_drew)); exact HO_0.out) hb); have n1_ := Aside0.mk (Kd.N_below (by (with_reducible repeat (first | apply Kd.N_alloc | apply Kd.N_drewN | apply Kd.N_drew)); exact HO_10.out) hb); have n2_ := Aside0.mk (Kd.N_below (by (with_reducible repeat (first | apply Kd.N_alloc | apply Kd.N_drewN | apply Kd.N_drew)); exact HO226.out) hb); have n3_ := Aside0.mk (below_step (by repeat (first | (with_reducible first | exact HB.out | apply below_alloc | apply pw_below_drewN | apply below_drew1) | exact HB.out)) hb); clear HO_0; clear HO_10; clear HO226; clear HB; have HO_0 := n0_; have HO_10 := n1_; have HO226 := n2_; have HB := n3_; clear n0_ n1_ n2_ n3_; (try clear hb); (try clear hb2); (try clear hk); (try clear hi)) | (have t_9 := tk9; clear tk9; clear t_9; go_at_call 18; (with_reducible refine (acl_Admits.calls _ _ l0 a1 a2 a3 true _ ?side1 ?side2 (Glob.below HGl.out (by repeat (first | (with_reducible first | exact HB.out | apply below_alloc | apply pw_below_drewN | apply below_drew1) | exact HB.out))) A25.out).mono ?_); (case side1 => repeat (first | exact (Kd.V_reads' HO_0.out).2.2 | (with_reducible refine Kd.C_alloc ?_ _) | (with_reducible refine Kd.C_drewN ?_ _) | (with_reducible refine Kd.C_drew ?_))); (case side2 => exact (Kd.V_reads' HO_0.out).2.1); rintro e w35 ⟨rfl, hb⟩; have n0_ := Aside0.mk (Kd.V_below (by (with_reducible repeat (first | apply Kd.V_alloc | apply Kd.V_drewN | apply Kd.V_drew)); exact HO_0.out) hb); have n1_ := Aside0.mk (Kd.N_below (by (with_reducible repeat (first | apply Kd.N_alloc | apply Kd.N_drewN | apply Kd.N_drew)); exact HO_10.out) hb); have n2_ := Aside0.mk (Kd.N_below (by (with_reducible repeat (first | apply Kd.N_alloc | apply Kd.N_drewN | apply Kd.N_drew)); exact HO226.out) hb); have n3_ := Aside0.mk (below_step (by repeat (first | (with_reducible first | exact HB.out | apply below_alloc | apply pw_below_drewN | apply below_drew1) | exact HB.out)) hb); clear HO_0; clear HO_10; clear HO226; clear HB; have HO_0 := n0_; have HO_10 := n1_; have HO226 := n2_; have HB := n3_; clear n0_ n1_ n2_ n3_; (try clear hb); (try clear hb2); (try clear hk); (try clear hi)) | (have t_10 := tk10; clear tk10; clear t_10; go_at_call 18; (with_reducible refine (acl_Admits.calls _ _ l0 a1 a2 a3 true _ ?side1 ?side2 (Glob.below HGl.out (by repeat (first | (with_reducible first | exact HB.out | apply below_alloc | apply pw_below_drewN | apply below_drew1) | exact HB.out))) A28.out).mono ?_); (case side1 => repeat (first | exact (Kd.V_reads' HO_0.out).2.2 | (with_reducible refine Kd.C_alloc ?_ _) | (with_reducible refine Kd.C_drewN ?_ _) | (with_reducible refine Kd.C_drew ?_))); (case side2 => exact (Kd.V_reads' HO_0.out).2.1); rintro e w36 ⟨rfl, hb⟩; have n0_ := Aside0.mk (Kd.V_below (by (with_reducible repeat (first | apply Kd.V_alloc | apply Kd.V_drewN | apply Kd.V_drew)); exact HO_0.out) hb); have n1_ := Aside0.mk (Kd.N_below (by (with_reducible repeat (first | apply Kd.N_alloc | apply Kd.N_drewN | apply Kd.N_drew)); exact HO_10.out) hb); have n2_ := Aside0.mk (Kd.N_below (by (with_reducible repeat (first | apply Kd.N_alloc | apply Kd.N_drewN | apply Kd.N_drew)); exact HO226.out) hb); have n3_ := Aside0.mk (below_step (by repeat (first | (with_reducible first | exact HB.out | apply below_alloc | apply pw_below_drewN | apply below_drew1) | exact HB.out)) hb); clear HO_0; clear HO_10; clear HO226; clear HB; have HO_0 := n0_; have HO_10 := n1_; have HO226 := n2_; have HB := n3_; clear n0_ n1_ n2_ n3_; (try clear hb); (try clear hb2); (try clear hk); (try clear hi)) | (have t_11 := tk11; clear tk11; clear t_11; go_at_call 20; (with_reducible refine (tollhouselaw14_wakes.calls  t230 _ (Glob.below HGl.out (by repeat (first | (with_reducible first | exact HB.out | apply below_alloc | apply pw_below_drewN | apply below_drew1) | exact HB.out))) A30.out).mono ?_); rintro e w37 ⟨rfl, hb⟩; have n0_ := Aside0.mk (Kd.V_below (by (with_reducible repeat (first | apply Kd.V_alloc | apply Kd.V_drewN | apply Kd.V_drew)); exact HO_0.out) hb); have n1_ := Aside0.mk (Kd.N_below (by (with_reducible repeat (first | apply Kd.N_alloc | apply Kd.N_drewN | apply Kd.N_drew)); exact HO_10.out) hb); have n2_ := Aside0.mk (Kd.N_below (by (with_reducible repeat (first | apply Kd.N_alloc | apply Kd.N_drewN | apply Kd.N_drew)); exact HO226.out) hb); have n3_ := Aside0.mk (below_step (by repeat (first | (with_reducible first | exact HB.out | apply below_alloc | apply pw_below_drewN | apply below_drew1) | exact HB.out)) hb); clear HO_0; clear HO_10; clear HO226; clear HB; have HO_0 := n0_; have HO_10 := n1_; have HO226 := n2_; have HB := n3_; clear n0_ n1_ n2_ n3_; (try clear hb); (try clear hb2); (try clear hk); (try clear hi)))
                    go_ret
                    exact ⟨by first | rfl | (simp [errW_none, errW_some] <;> rfl) | (simp [*, errW_none, errW_some] <;> rfl), by repeat (first | (with_reducible first | exact HB.out | apply below_alloc | apply pw_below_drewN | apply below_drew1) | exact HB.out)⟩
                  · replace c29 := Bool.eq_false_iff.mpr c29
                    subst c29
                    have H1 : (some false) = some r := by rw [if_neg (show ¬ (false = true) by decide)] at H; exact H
                    clear H
                    have H := H1
                    clear H1
                    obtain rfl := Option.some.inj H
                    obtain ⟨Ao39, co39, eo39⟩ := Kd.N_slice HO_10.out
                    subst eo39
                    have tk12 : True := trivial
                    have tk13 : True := trivial
                    have tk14 : True := trivial
                    have tk15 : True := trivial
                    go_wp2_with (first | (have t_12 := tk12; clear tk12; clear t_12; (with_reducible refine gate_builtin (b := .append) (xs := #[.tmp 62, .tmp 63]) rfl ?_); at_builtin; refine Kd.N_append_rows k25 (w0 := w) w.heap.size rfl (.tmp 62) (.tmp 63) 22 25 (.agg #[(.bool false), (.string ⟨#[]⟩), (.int .i64 0), (.int .i64 0), (.slice none 0 0)]) 64 rfl Tryd.underlying22 info25 rfl (by decide) (by omega) u9 x9_1 x10_1 _ _ _ (fun k_ => (P0_ k_ ∨ w.heap.size ≤ k_)) (fun k_ => ((fun k_ => (P0_ k_ ∨ w.heap.size ≤ k_))) k_ ∧ some k_ ≠ (u9 : Value).ownBlock) rfl rfl ?aO ?aR (fun _ hk => hk) ?aF ?aB ?aS ?aL ?_; (case aR => exact (by skip; exact Kd.N_F (Kd.N_mono (ok' := (fun k_ => ((fun k_ => (P0_ k_ ∨ w.heap.size ≤ k_))) k_ ∧ some k_ ≠ (u9 : Value).ownBlock)) (HO_10.out) (fun k_ hk => ⟨hk.1, hk.2⟩)))); (case aB => exact (by repeat (first | (with_reducible first | exact HB.out | apply below_alloc | apply pw_below_drewN | apply below_drew1) | exact HB.out))); (case aF => exact (fun k_ hk => (.inr (Nat.le_trans (below_size (by repeat (first | (with_reducible first | exact HB.out | apply below_alloc | apply pw_below_drewN | apply below_drew1) | exact HB.out))) hk)))); (case aO => exact (by (with_reducible repeat (first | apply Kd.N_alloc | apply Kd.N_drewN | apply Kd.N_drew)); exact Kd.N_mono HO_9.out (fun _ hk => hk.1))); (case aS => exact (below_size (by repeat (first | (with_reducible first | exact HB.out | apply below_alloc | apply pw_below_drewN | apply below_drew1) | exact HB.out)))); (case aL => have := LMc21.out; omega); intro v225 w38 ho hb hg hat; rw [← Ny224.out] at ho; have n0_ := Aside0.mk (Kd.V_afterv (ok := (fun k_ => (P0_ k_ ∨ w.heap.size ≤ k_) ∧ some k_ ≠ (.slice Ao39 x10_1.length co39 : Value).ownBlock)) (by (with_reducible repeat (first | apply Kd.V_alloc | apply Kd.V_drewN | apply Kd.V_drew)); exact Kd.V_mono HO_0.out (fun _ hk => ⟨⟨hk.1, hk.2.2⟩, hk.2.1⟩)) hg hat); have n1_ := Aside0.mk (Kd.N_afterv (ok := (fun k_ => (P0_ k_ ∨ w.heap.size ≤ k_))) (by (with_reducible repeat (first | apply Kd.N_alloc | apply Kd.N_drewN | apply Kd.N_drew)); exact HO_10.out) hg hat); have n2_ := Aside0.mk (hb); have n3_ := Aside0.mk (ho); clear HO_0; clear HO_10; clear HB; clear HO_9; have HO_0 := n0_; have HO_10 := n1_; have HB := n2_; have HO226 := n3_; clear n0_ n1_ n2_ n3_; clear ho hb hg hat; obtain ⟨Ao40, co40, eo40⟩ := Kd.N_slice HO226.out; subst eo40) | (have t_13 := tk13; clear tk13; clear t_13; (with_reducible refine gate_callee (f := 18) rfl ?_); refine goesL_ (some 68) rfl rfl Tryd.func18 (by kernel_rfl) rfl #[.slice Ao40 y224.length co40, .string a1, .int .i64 a2, .string a3] rfl (by (try simp only [List.map_toArray, List.map_cons, List.map_nil]); first | done | rfl | (simp only [List.length_drop, List.length_take]; rfl)) ?_; (with_reducible refine (acl_Admits.calls _ _ y224 a1 a2 a3 true _ ?side1 ?side2 (Glob.below HGl.out (by repeat (first | (with_reducible first | exact HB.out | apply below_alloc | apply pw_below_drewN | apply below_drew1) | exact HB.out))) A22.out).mono ?_); (case side1 => repeat (first | exact (Kd.N_reads' HO226.out).2.2 | (with_reducible refine Kd.C_alloc ?_ _) | (with_reducible refine Kd.C_drewN ?_ _) | (with_reducible refine Kd.C_drew ?_))); (case side2 => exact (Kd.N_reads' HO226.out).2.1); rintro e w41 ⟨rfl, hb⟩; refine ⟨_, rfl, ?_⟩; have n0_ := Aside0.mk (Kd.V_below (by (with_reducible repeat (first | apply Kd.V_alloc | apply Kd.V_drewN | apply Kd.V_drew)); exact HO_0.out) hb); have n1_ := Aside0.mk (Kd.N_below (by (with_reducible repeat (first | apply Kd.N_alloc | apply Kd.N_drewN | apply Kd.N_drew)); exact HO_10.out) hb); have n2_ := Aside0.mk (Kd.N_below (by (with_reducible repeat (first | apply Kd.N_alloc | apply Kd.N_drewN | apply Kd.N_drew)); exact HO226.out) hb); have n3_ := Aside0.mk (below_step (by repeat (first | (with_reducible first | exact HB.out | apply below_alloc | apply pw_below_drewN | apply below_drew1) | exact HB.out)) hb); clear HO_0; clear HO_10; clear HO226; clear HB; have HO_0 := n0_; have HO_10 := n1_; have HO226 := n2_; have HB := n3_; clear n0_ n1_ n2_ n3_; (try clear hb); (try clear hb2); (try clear hk); (try clear hi)) | (have t_14 := tk14; clear tk14; clear t_14; go_at_call 18; (with_reducible refine (acl_Admits.calls _ _ l0 a1 a2 a3 true _ ?side1 ?side2 (Glob.below HGl.out (by repeat (first | (with_reducible first | exact HB.out | apply below_alloc | apply pw_below_drewN | apply below_drew1) | exact HB.out))) A25.out).mono ?_); (case side1 => repeat (first | exact (Kd.V_reads' HO_0.out).2.2 | (with_reducible refine Kd.C_alloc ?_ _) | (with_reducible refine Kd.C_drewN ?_ _) | (with_reducible refine Kd.C_drew ?_))); (case side2 => exact (Kd.V_reads' HO_0.out).2.1); rintro e w42 ⟨rfl, hb⟩; have n0_ := Aside0.mk (Kd.V_below (by (with_reducible repeat (first | apply Kd.V_alloc | apply Kd.V_drewN | apply Kd.V_drew)); exact HO_0.out) hb); have n1_ := Aside0.mk (Kd.N_below (by (with_reducible repeat (first | apply Kd.N_alloc | apply Kd.N_drewN | apply Kd.N_drew)); exact HO_10.out) hb); have n2_ := Aside0.mk (Kd.N_below (by (with_reducible repeat (first | apply Kd.N_alloc | apply Kd.N_drewN | apply Kd.N_drew)); exact HO226.out) hb); have n3_ := Aside0.mk (below_step (by repeat (first | (with_reducible first | exact HB.out | apply below_alloc | apply pw_below_drewN | apply below_drew1) | exact HB.out)) hb); clear HO_0; clear HO_10; clear HO226; clear HB; have HO_0 := n0_; have HO_10 := n1_; have HO226 := n2_; have HB := n3_; clear n0_ n1_ n2_ n3_; (try clear hb); (try clear hb2); (try clear hk); (try clear hi)) | (have t_15 := tk15; clear tk15; clear t_15; go_at_call 18; (with_reducible refine (acl_Admits.calls _ _ l0 a1 a2 a3 false _ ?side1 ?side2 (Glob.below HGl.out (by repeat (first | (with_reducible first | exact HB.out | apply below_alloc | apply pw_below_drewN | apply below_drew1) | exact HB.out))) A28.out).mono ?_); (case side1 => repeat (first | exact (Kd.V_reads' HO_0.out).2.2 | (with_reducible refine Kd.C_alloc ?_ _) | (with_reducible refine Kd.C_drewN ?_ _) | (with_reducible refine Kd.C_drew ?_))); (case side2 => exact (Kd.V_reads' HO_0.out).2.1); rintro e w43 ⟨rfl, hb⟩; have n0_ := Aside0.mk (Kd.V_below (by (with_reducible repeat (first | apply Kd.V_alloc | apply Kd.V_drewN | apply Kd.V_drew)); exact HO_0.out) hb); have n1_ := Aside0.mk (Kd.N_below (by (with_reducible repeat (first | apply Kd.N_alloc | apply Kd.N_drewN | apply Kd.N_drew)); exact HO_10.out) hb); have n2_ := Aside0.mk (Kd.N_below (by (with_reducible repeat (first | apply Kd.N_alloc | apply Kd.N_drewN | apply Kd.N_drew)); exact HO226.out) hb); have n3_ := Aside0.mk (below_step (by repeat (first | (with_reducible first | exact HB.out | apply below_alloc | apply pw_below_drewN | apply below_drew1) | exact HB.out)) hb); clear HO_0; clear HO_10; clear HO226; clear HB; have HO_0 := n0_; have HO_10 := n1_; have HO226 := n2_; have HB := n3_; clear n0_ n1_ n2_ n3_; (try clear hb); (try clear hb2); (try clear hk); (try clear hi)))
                    go_ret
                    exact ⟨by first | rfl | (simp [errW_none, errW_some] <;> rfl) | (simp [*, errW_none, errW_some] <;> rfl), by repeat (first | (with_reducible first | exact HB.out | apply below_alloc | apply pw_below_drewN | apply below_drew1) | exact HB.out)⟩
                · replace c27 := Bool.eq_false_iff.mpr c27
                  subst c27
                  have H1 : ((tollhouselaw14_wakes.f).bind fun t231 => (some t231)) = some r := by rw [if_neg (show ¬ (false = true) by decide)] at H; exact H
                  clear H
                  have H := H1
                  clear H1
                  replace H := Option.bind_eq_some_iff.mp H
                  obtain ⟨t231, A440, H⟩ := H
                  replace H : (some t231) = some r := H
                  have A44 := Aside0.mk A440
                  clear A440
                  obtain rfl := Option.some.inj H
                  obtain ⟨Ao46, co46, eo46⟩ := Kd.N_slice HO_10.out
                  subst eo46
                  have tk16 : True := trivial
                  have tk17 : True := trivial
                  have tk18 : True := trivial
                  have tk19 : True := trivial
                  go_wp2_with (first | (have t_16 := tk16; clear tk16; clear t_16; (with_reducible refine gate_builtin (b := .append) (xs := #[.tmp 62, .tmp 63]) rfl ?_); at_builtin; refine Kd.N_append_rows k25 (w0 := w) w.heap.size rfl (.tmp 62) (.tmp 63) 22 25 (.agg #[(.bool false), (.string ⟨#[]⟩), (.int .i64 0), (.int .i64 0), (.slice none 0 0)]) 64 rfl Tryd.underlying22 info25 rfl (by decide) (by omega) u9 x9_1 x10_1 _ _ _ (fun k_ => (P0_ k_ ∨ w.heap.size ≤ k_)) (fun k_ => ((fun k_ => (P0_ k_ ∨ w.heap.size ≤ k_))) k_ ∧ some k_ ≠ (u9 : Value).ownBlock) rfl rfl ?aO ?aR (fun _ hk => hk) ?aF ?aB ?aS ?aL ?_; (case aR => exact (by skip; exact Kd.N_F (Kd.N_mono (ok' := (fun k_ => ((fun k_ => (P0_ k_ ∨ w.heap.size ≤ k_))) k_ ∧ some k_ ≠ (u9 : Value).ownBlock)) (HO_10.out) (fun k_ hk => ⟨hk.1, hk.2⟩)))); (case aB => exact (by repeat (first | (with_reducible first | exact HB.out | apply below_alloc | apply pw_below_drewN | apply below_drew1) | exact HB.out))); (case aF => exact (fun k_ hk => (.inr (Nat.le_trans (below_size (by repeat (first | (with_reducible first | exact HB.out | apply below_alloc | apply pw_below_drewN | apply below_drew1) | exact HB.out))) hk)))); (case aO => exact (by (with_reducible repeat (first | apply Kd.N_alloc | apply Kd.N_drewN | apply Kd.N_drew)); exact Kd.N_mono HO_9.out (fun _ hk => hk.1))); (case aS => exact (below_size (by repeat (first | (with_reducible first | exact HB.out | apply below_alloc | apply pw_below_drewN | apply below_drew1) | exact HB.out)))); (case aL => have := LMc21.out; omega); intro v225 w45 ho hb hg hat; rw [← Ny224.out] at ho; have n0_ := Aside0.mk (Kd.V_afterv (ok := (fun k_ => (P0_ k_ ∨ w.heap.size ≤ k_) ∧ some k_ ≠ (.slice Ao46 x10_1.length co46 : Value).ownBlock)) (by (with_reducible repeat (first | apply Kd.V_alloc | apply Kd.V_drewN | apply Kd.V_drew)); exact Kd.V_mono HO_0.out (fun _ hk => ⟨⟨hk.1, hk.2.2⟩, hk.2.1⟩)) hg hat); have n1_ := Aside0.mk (Kd.N_afterv (ok := (fun k_ => (P0_ k_ ∨ w.heap.size ≤ k_))) (by (with_reducible repeat (first | apply Kd.N_alloc | apply Kd.N_drewN | apply Kd.N_drew)); exact HO_10.out) hg hat); have n2_ := Aside0.mk (hb); have n3_ := Aside0.mk (ho); clear HO_0; clear HO_10; clear HB; clear HO_9; have HO_0 := n0_; have HO_10 := n1_; have HB := n2_; have HO226 := n3_; clear n0_ n1_ n2_ n3_; clear ho hb hg hat; obtain ⟨Ao47, co47, eo47⟩ := Kd.N_slice HO226.out; subst eo47) | (have t_17 := tk17; clear tk17; clear t_17; (with_reducible refine gate_callee (f := 18) rfl ?_); refine goesL_ (some 68) rfl rfl Tryd.func18 (by kernel_rfl) rfl #[.slice Ao47 y224.length co47, .string a1, .int .i64 a2, .string a3] rfl (by (try simp only [List.map_toArray, List.map_cons, List.map_nil]); first | done | rfl | (simp only [List.length_drop, List.length_take]; rfl)) ?_; (with_reducible refine (acl_Admits.calls _ _ y224 a1 a2 a3 false _ ?side1 ?side2 (Glob.below HGl.out (by repeat (first | (with_reducible first | exact HB.out | apply below_alloc | apply pw_below_drewN | apply below_drew1) | exact HB.out))) A22.out).mono ?_); (case side1 => repeat (first | exact (Kd.N_reads' HO226.out).2.2 | (with_reducible refine Kd.C_alloc ?_ _) | (with_reducible refine Kd.C_drewN ?_ _) | (with_reducible refine Kd.C_drew ?_))); (case side2 => exact (Kd.N_reads' HO226.out).2.1); rintro e w48 ⟨rfl, hb⟩; refine ⟨_, rfl, ?_⟩; have n0_ := Aside0.mk (Kd.V_below (by (with_reducible repeat (first | apply Kd.V_alloc | apply Kd.V_drewN | apply Kd.V_drew)); exact HO_0.out) hb); have n1_ := Aside0.mk (Kd.N_below (by (with_reducible repeat (first | apply Kd.N_alloc | apply Kd.N_drewN | apply Kd.N_drew)); exact HO_10.out) hb); have n2_ := Aside0.mk (Kd.N_below (by (with_reducible repeat (first | apply Kd.N_alloc | apply Kd.N_drewN | apply Kd.N_drew)); exact HO226.out) hb); have n3_ := Aside0.mk (below_step (by repeat (first | (with_reducible first | exact HB.out | apply below_alloc | apply pw_below_drewN | apply below_drew1) | exact HB.out)) hb); clear HO_0; clear HO_10; clear HO226; clear HB; have HO_0 := n0_; have HO_10 := n1_; have HO226 := n2_; have HB := n3_; clear n0_ n1_ n2_ n3_; (try clear hb); (try clear hb2); (try clear hk); (try clear hi)) | (have t_18 := tk18; clear tk18; clear t_18; go_at_call 18; (with_reducible refine (acl_Admits.calls _ _ l0 a1 a2 a3 true _ ?side1 ?side2 (Glob.below HGl.out (by repeat (first | (with_reducible first | exact HB.out | apply below_alloc | apply pw_below_drewN | apply below_drew1) | exact HB.out))) A25.out).mono ?_); (case side1 => repeat (first | exact (Kd.V_reads' HO_0.out).2.2 | (with_reducible refine Kd.C_alloc ?_ _) | (with_reducible refine Kd.C_drewN ?_ _) | (with_reducible refine Kd.C_drew ?_))); (case side2 => exact (Kd.V_reads' HO_0.out).2.1); rintro e w49 ⟨rfl, hb⟩; have n0_ := Aside0.mk (Kd.V_below (by (with_reducible repeat (first | apply Kd.V_alloc | apply Kd.V_drewN | apply Kd.V_drew)); exact HO_0.out) hb); have n1_ := Aside0.mk (Kd.N_below (by (with_reducible repeat (first | apply Kd.N_alloc | apply Kd.N_drewN | apply Kd.N_drew)); exact HO_10.out) hb); have n2_ := Aside0.mk (Kd.N_below (by (with_reducible repeat (first | apply Kd.N_alloc | apply Kd.N_drewN | apply Kd.N_drew)); exact HO226.out) hb); have n3_ := Aside0.mk (below_step (by repeat (first | (with_reducible first | exact HB.out | apply below_alloc | apply pw_below_drewN | apply below_drew1) | exact HB.out)) hb); clear HO_0; clear HO_10; clear HO226; clear HB; have HO_0 := n0_; have HO_10 := n1_; have HO226 := n2_; have HB := n3_; clear n0_ n1_ n2_ n3_; (try clear hb); (try clear hb2); (try clear hk); (try clear hi)) | (have t_19 := tk19; clear tk19; clear t_19; go_at_call 20; (with_reducible refine (tollhouselaw14_wakes.calls  t231 _ (Glob.below HGl.out (by repeat (first | (with_reducible first | exact HB.out | apply below_alloc | apply pw_below_drewN | apply below_drew1) | exact HB.out))) A44.out).mono ?_); rintro e w50 ⟨rfl, hb⟩; have n0_ := Aside0.mk (Kd.V_below (by (with_reducible repeat (first | apply Kd.V_alloc | apply Kd.V_drewN | apply Kd.V_drew)); exact HO_0.out) hb); have n1_ := Aside0.mk (Kd.N_below (by (with_reducible repeat (first | apply Kd.N_alloc | apply Kd.N_drewN | apply Kd.N_drew)); exact HO_10.out) hb); have n2_ := Aside0.mk (Kd.N_below (by (with_reducible repeat (first | apply Kd.N_alloc | apply Kd.N_drewN | apply Kd.N_drew)); exact HO226.out) hb); have n3_ := Aside0.mk (below_step (by repeat (first | (with_reducible first | exact HB.out | apply below_alloc | apply pw_below_drewN | apply below_drew1) | exact HB.out)) hb); clear HO_0; clear HO_10; clear HO226; clear HB; have HO_0 := n0_; have HO_10 := n1_; have HO226 := n2_; have HB := n3_; clear n0_ n1_ n2_ n3_; (try clear hb); (try clear hb2); (try clear hk); (try clear hi)))
                  go_ret
                  exact ⟨by first | rfl | (simp [errW_none, errW_some] <;> rfl) | (simp [*, errW_none, errW_some] <;> rfl), by repeat (first | (with_reducible first | exact HB.out | apply below_alloc | apply pw_below_drewN | apply below_drew1) | exact HB.out)⟩
              · replace c26 := Bool.eq_false_iff.mpr c26
                subst c26
                have H1 : (if t227 = true then ((acl_Admits.f l0 a1 a2 a3).bind fun t232 => (if t232 = true then ((tollhouselaw14_wakes.f).bind fun t233 => (some t233)) else (some false))) else ((tollhouselaw14_wakes.f).bind fun t234 => (some t234))) = some r := by rw [if_neg (show ¬ (false = true) by decide)] at H; exact H
                clear H
                have H := H1
                clear H1
                by_cases c51 : t227 = true
                · subst c51
                  have H1 : ((acl_Admits.f l0 a1 a2 a3).bind fun t232 => (if t232 = true then ((tollhouselaw14_wakes.f).bind fun t233 => (some t233)) else (some false))) = some r := by rw [if_pos rfl] at H; exact H
                  clear H
                  have H := H1
                  clear H1
                  replace H := Option.bind_eq_some_iff.mp H
                  obtain ⟨t232, A520, H⟩ := H
                  replace H : (if t232 = true then ((tollhouselaw14_wakes.f).bind fun t233 => (some t233)) else (some false)) = some r := H
                  have A52 := Aside0.mk A520
                  clear A520
                  by_cases c53 : t232 = true
                  · subst c53
                    have H1 : ((tollhouselaw14_wakes.f).bind fun t233 => (some t233)) = some r := by rw [if_pos rfl] at H; exact H
                    clear H
                    have H := H1
                    clear H1
                    replace H := Option.bind_eq_some_iff.mp H
                    obtain ⟨t233, A540, H⟩ := H
                    replace H : (some t233) = some r := H
                    have A54 := Aside0.mk A540
                    clear A540
                    obtain rfl := Option.some.inj H
                    obtain ⟨Ao56, co56, eo56⟩ := Kd.N_slice HO_10.out
                    subst eo56
                    have tk20 : True := trivial
                    have tk21 : True := trivial
                    have tk22 : True := trivial
                    have tk23 : True := trivial
                    have tk24 : True := trivial
                    go_wp2_with (first | (have t_20 := tk20; clear tk20; clear t_20; (with_reducible refine gate_builtin (b := .append) (xs := #[.tmp 62, .tmp 63]) rfl ?_); at_builtin; refine Kd.N_append_rows k25 (w0 := w) w.heap.size rfl (.tmp 62) (.tmp 63) 22 25 (.agg #[(.bool false), (.string ⟨#[]⟩), (.int .i64 0), (.int .i64 0), (.slice none 0 0)]) 64 rfl Tryd.underlying22 info25 rfl (by decide) (by omega) u9 x9_1 x10_1 _ _ _ (fun k_ => (P0_ k_ ∨ w.heap.size ≤ k_)) (fun k_ => ((fun k_ => (P0_ k_ ∨ w.heap.size ≤ k_))) k_ ∧ some k_ ≠ (u9 : Value).ownBlock) rfl rfl ?aO ?aR (fun _ hk => hk) ?aF ?aB ?aS ?aL ?_; (case aR => exact (by skip; exact Kd.N_F (Kd.N_mono (ok' := (fun k_ => ((fun k_ => (P0_ k_ ∨ w.heap.size ≤ k_))) k_ ∧ some k_ ≠ (u9 : Value).ownBlock)) (HO_10.out) (fun k_ hk => ⟨hk.1, hk.2⟩)))); (case aB => exact (by repeat (first | (with_reducible first | exact HB.out | apply below_alloc | apply pw_below_drewN | apply below_drew1) | exact HB.out))); (case aF => exact (fun k_ hk => (.inr (Nat.le_trans (below_size (by repeat (first | (with_reducible first | exact HB.out | apply below_alloc | apply pw_below_drewN | apply below_drew1) | exact HB.out))) hk)))); (case aO => exact (by (with_reducible repeat (first | apply Kd.N_alloc | apply Kd.N_drewN | apply Kd.N_drew)); exact Kd.N_mono HO_9.out (fun _ hk => hk.1))); (case aS => exact (below_size (by repeat (first | (with_reducible first | exact HB.out | apply below_alloc | apply pw_below_drewN | apply below_drew1) | exact HB.out)))); (case aL => have := LMc21.out; omega); intro v225 w55 ho hb hg hat; rw [← Ny224.out] at ho; have n0_ := Aside0.mk (Kd.V_afterv (ok := (fun k_ => (P0_ k_ ∨ w.heap.size ≤ k_) ∧ some k_ ≠ (.slice Ao56 x10_1.length co56 : Value).ownBlock)) (by (with_reducible repeat (first | apply Kd.V_alloc | apply Kd.V_drewN | apply Kd.V_drew)); exact Kd.V_mono HO_0.out (fun _ hk => ⟨⟨hk.1, hk.2.2⟩, hk.2.1⟩)) hg hat); have n1_ := Aside0.mk (Kd.N_afterv (ok := (fun k_ => (P0_ k_ ∨ w.heap.size ≤ k_))) (by (with_reducible repeat (first | apply Kd.N_alloc | apply Kd.N_drewN | apply Kd.N_drew)); exact HO_10.out) hg hat); have n2_ := Aside0.mk (hb); have n3_ := Aside0.mk (ho); clear HO_0; clear HO_10; clear HB; clear HO_9; have HO_0 := n0_; have HO_10 := n1_; have HB := n2_; have HO226 := n3_; clear n0_ n1_ n2_ n3_; clear ho hb hg hat; obtain ⟨Ao57, co57, eo57⟩ := Kd.N_slice HO226.out; subst eo57) | (have t_21 := tk21; clear tk21; clear t_21; (with_reducible refine gate_callee (f := 18) rfl ?_); refine goesL_ (some 68) rfl rfl Tryd.func18 (by kernel_rfl) rfl #[.slice Ao57 y224.length co57, .string a1, .int .i64 a2, .string a3] rfl (by (try simp only [List.map_toArray, List.map_cons, List.map_nil]); first | done | rfl | (simp only [List.length_drop, List.length_take]; rfl)) ?_; (with_reducible refine (acl_Admits.calls _ _ y224 a1 a2 a3 true _ ?side1 ?side2 (Glob.below HGl.out (by repeat (first | (with_reducible first | exact HB.out | apply below_alloc | apply pw_below_drewN | apply below_drew1) | exact HB.out))) A22.out).mono ?_); (case side1 => repeat (first | exact (Kd.N_reads' HO226.out).2.2 | (with_reducible refine Kd.C_alloc ?_ _) | (with_reducible refine Kd.C_drewN ?_ _) | (with_reducible refine Kd.C_drew ?_))); (case side2 => exact (Kd.N_reads' HO226.out).2.1); rintro e w58 ⟨rfl, hb⟩; refine ⟨_, rfl, ?_⟩; have n0_ := Aside0.mk (Kd.V_below (by (with_reducible repeat (first | apply Kd.V_alloc | apply Kd.V_drewN | apply Kd.V_drew)); exact HO_0.out) hb); have n1_ := Aside0.mk (Kd.N_below (by (with_reducible repeat (first | apply Kd.N_alloc | apply Kd.N_drewN | apply Kd.N_drew)); exact HO_10.out) hb); have n2_ := Aside0.mk (Kd.N_below (by (with_reducible repeat (first | apply Kd.N_alloc | apply Kd.N_drewN | apply Kd.N_drew)); exact HO226.out) hb); have n3_ := Aside0.mk (below_step (by repeat (first | (with_reducible first | exact HB.out | apply below_alloc | apply pw_below_drewN | apply below_drew1) | exact HB.out)) hb); clear HO_0; clear HO_10; clear HO226; clear HB; have HO_0 := n0_; have HO_10 := n1_; have HO226 := n2_; have HB := n3_; clear n0_ n1_ n2_ n3_; (try clear hb); (try clear hb2); (try clear hk); (try clear hi)) | (have t_22 := tk22; clear tk22; clear t_22; go_at_call 18; (with_reducible refine (acl_Admits.calls _ _ l0 a1 a2 a3 false _ ?side1 ?side2 (Glob.below HGl.out (by repeat (first | (with_reducible first | exact HB.out | apply below_alloc | apply pw_below_drewN | apply below_drew1) | exact HB.out))) A25.out).mono ?_); (case side1 => repeat (first | exact (Kd.V_reads' HO_0.out).2.2 | (with_reducible refine Kd.C_alloc ?_ _) | (with_reducible refine Kd.C_drewN ?_ _) | (with_reducible refine Kd.C_drew ?_))); (case side2 => exact (Kd.V_reads' HO_0.out).2.1); rintro e w59 ⟨rfl, hb⟩; have n0_ := Aside0.mk (Kd.V_below (by (with_reducible repeat (first | apply Kd.V_alloc | apply Kd.V_drewN | apply Kd.V_drew)); exact HO_0.out) hb); have n1_ := Aside0.mk (Kd.N_below (by (with_reducible repeat (first | apply Kd.N_alloc | apply Kd.N_drewN | apply Kd.N_drew)); exact HO_10.out) hb); have n2_ := Aside0.mk (Kd.N_below (by (with_reducible repeat (first | apply Kd.N_alloc | apply Kd.N_drewN | apply Kd.N_drew)); exact HO226.out) hb); have n3_ := Aside0.mk (below_step (by repeat (first | (with_reducible first | exact HB.out | apply below_alloc | apply pw_below_drewN | apply below_drew1) | exact HB.out)) hb); clear HO_0; clear HO_10; clear HO226; clear HB; have HO_0 := n0_; have HO_10 := n1_; have HO226 := n2_; have HB := n3_; clear n0_ n1_ n2_ n3_; (try clear hb); (try clear hb2); (try clear hk); (try clear hi)) | (have t_23 := tk23; clear tk23; clear t_23; go_at_call 18; (with_reducible refine (acl_Admits.calls _ _ l0 a1 a2 a3 true _ ?side1 ?side2 (Glob.below HGl.out (by repeat (first | (with_reducible first | exact HB.out | apply below_alloc | apply pw_below_drewN | apply below_drew1) | exact HB.out))) A52.out).mono ?_); (case side1 => repeat (first | exact (Kd.V_reads' HO_0.out).2.2 | (with_reducible refine Kd.C_alloc ?_ _) | (with_reducible refine Kd.C_drewN ?_ _) | (with_reducible refine Kd.C_drew ?_))); (case side2 => exact (Kd.V_reads' HO_0.out).2.1); rintro e w60 ⟨rfl, hb⟩; have n0_ := Aside0.mk (Kd.V_below (by (with_reducible repeat (first | apply Kd.V_alloc | apply Kd.V_drewN | apply Kd.V_drew)); exact HO_0.out) hb); have n1_ := Aside0.mk (Kd.N_below (by (with_reducible repeat (first | apply Kd.N_alloc | apply Kd.N_drewN | apply Kd.N_drew)); exact HO_10.out) hb); have n2_ := Aside0.mk (Kd.N_below (by (with_reducible repeat (first | apply Kd.N_alloc | apply Kd.N_drewN | apply Kd.N_drew)); exact HO226.out) hb); have n3_ := Aside0.mk (below_step (by repeat (first | (with_reducible first | exact HB.out | apply below_alloc | apply pw_below_drewN | apply below_drew1) | exact HB.out)) hb); clear HO_0; clear HO_10; clear HO226; clear HB; have HO_0 := n0_; have HO_10 := n1_; have HO226 := n2_; have HB := n3_; clear n0_ n1_ n2_ n3_; (try clear hb); (try clear hb2); (try clear hk); (try clear hi)) | (have t_24 := tk24; clear tk24; clear t_24; go_at_call 20; (with_reducible refine (tollhouselaw14_wakes.calls  t233 _ (Glob.below HGl.out (by repeat (first | (with_reducible first | exact HB.out | apply below_alloc | apply pw_below_drewN | apply below_drew1) | exact HB.out))) A54.out).mono ?_); rintro e w61 ⟨rfl, hb⟩; have n0_ := Aside0.mk (Kd.V_below (by (with_reducible repeat (first | apply Kd.V_alloc | apply Kd.V_drewN | apply Kd.V_drew)); exact HO_0.out) hb); have n1_ := Aside0.mk (Kd.N_below (by (with_reducible repeat (first | apply Kd.N_alloc | apply Kd.N_drewN | apply Kd.N_drew)); exact HO_10.out) hb); have n2_ := Aside0.mk (Kd.N_below (by (with_reducible repeat (first | apply Kd.N_alloc | apply Kd.N_drewN | apply Kd.N_drew)); exact HO226.out) hb); have n3_ := Aside0.mk (below_step (by repeat (first | (with_reducible first | exact HB.out | apply below_alloc | apply pw_below_drewN | apply below_drew1) | exact HB.out)) hb); clear HO_0; clear HO_10; clear HO226; clear HB; have HO_0 := n0_; have HO_10 := n1_; have HO226 := n2_; have HB := n3_; clear n0_ n1_ n2_ n3_; (try clear hb); (try clear hb2); (try clear hk); (try clear hi)))
                    go_ret
                    exact ⟨by first | rfl | (simp [errW_none, errW_some] <;> rfl) | (simp [*, errW_none, errW_some] <;> rfl), by repeat (first | (with_reducible first | exact HB.out | apply below_alloc | apply pw_below_drewN | apply below_drew1) | exact HB.out)⟩
                  · replace c53 := Bool.eq_false_iff.mpr c53
                    subst c53
                    have H1 : (some false) = some r := by rw [if_neg (show ¬ (false = true) by decide)] at H; exact H
                    clear H
                    have H := H1
                    clear H1
                    obtain rfl := Option.some.inj H
                    obtain ⟨Ao63, co63, eo63⟩ := Kd.N_slice HO_10.out
                    subst eo63
                    have tk25 : True := trivial
                    have tk26 : True := trivial
                    have tk27 : True := trivial
                    have tk28 : True := trivial
                    go_wp2_with (first | (have t_25 := tk25; clear tk25; clear t_25; (with_reducible refine gate_builtin (b := .append) (xs := #[.tmp 62, .tmp 63]) rfl ?_); at_builtin; refine Kd.N_append_rows k25 (w0 := w) w.heap.size rfl (.tmp 62) (.tmp 63) 22 25 (.agg #[(.bool false), (.string ⟨#[]⟩), (.int .i64 0), (.int .i64 0), (.slice none 0 0)]) 64 rfl Tryd.underlying22 info25 rfl (by decide) (by omega) u9 x9_1 x10_1 _ _ _ (fun k_ => (P0_ k_ ∨ w.heap.size ≤ k_)) (fun k_ => ((fun k_ => (P0_ k_ ∨ w.heap.size ≤ k_))) k_ ∧ some k_ ≠ (u9 : Value).ownBlock) rfl rfl ?aO ?aR (fun _ hk => hk) ?aF ?aB ?aS ?aL ?_; (case aR => exact (by skip; exact Kd.N_F (Kd.N_mono (ok' := (fun k_ => ((fun k_ => (P0_ k_ ∨ w.heap.size ≤ k_))) k_ ∧ some k_ ≠ (u9 : Value).ownBlock)) (HO_10.out) (fun k_ hk => ⟨hk.1, hk.2⟩)))); (case aB => exact (by repeat (first | (with_reducible first | exact HB.out | apply below_alloc | apply pw_below_drewN | apply below_drew1) | exact HB.out))); (case aF => exact (fun k_ hk => (.inr (Nat.le_trans (below_size (by repeat (first | (with_reducible first | exact HB.out | apply below_alloc | apply pw_below_drewN | apply below_drew1) | exact HB.out))) hk)))); (case aO => exact (by (with_reducible repeat (first | apply Kd.N_alloc | apply Kd.N_drewN | apply Kd.N_drew)); exact Kd.N_mono HO_9.out (fun _ hk => hk.1))); (case aS => exact (below_size (by repeat (first | (with_reducible first | exact HB.out | apply below_alloc | apply pw_below_drewN | apply below_drew1) | exact HB.out)))); (case aL => have := LMc21.out; omega); intro v225 w62 ho hb hg hat; rw [← Ny224.out] at ho; have n0_ := Aside0.mk (Kd.V_afterv (ok := (fun k_ => (P0_ k_ ∨ w.heap.size ≤ k_) ∧ some k_ ≠ (.slice Ao63 x10_1.length co63 : Value).ownBlock)) (by (with_reducible repeat (first | apply Kd.V_alloc | apply Kd.V_drewN | apply Kd.V_drew)); exact Kd.V_mono HO_0.out (fun _ hk => ⟨⟨hk.1, hk.2.2⟩, hk.2.1⟩)) hg hat); have n1_ := Aside0.mk (Kd.N_afterv (ok := (fun k_ => (P0_ k_ ∨ w.heap.size ≤ k_))) (by (with_reducible repeat (first | apply Kd.N_alloc | apply Kd.N_drewN | apply Kd.N_drew)); exact HO_10.out) hg hat); have n2_ := Aside0.mk (hb); have n3_ := Aside0.mk (ho); clear HO_0; clear HO_10; clear HB; clear HO_9; have HO_0 := n0_; have HO_10 := n1_; have HB := n2_; have HO226 := n3_; clear n0_ n1_ n2_ n3_; clear ho hb hg hat; obtain ⟨Ao64, co64, eo64⟩ := Kd.N_slice HO226.out; subst eo64) | (have t_26 := tk26; clear tk26; clear t_26; (with_reducible refine gate_callee (f := 18) rfl ?_); refine goesL_ (some 68) rfl rfl Tryd.func18 (by kernel_rfl) rfl #[.slice Ao64 y224.length co64, .string a1, .int .i64 a2, .string a3] rfl (by (try simp only [List.map_toArray, List.map_cons, List.map_nil]); first | done | rfl | (simp only [List.length_drop, List.length_take]; rfl)) ?_; (with_reducible refine (acl_Admits.calls _ _ y224 a1 a2 a3 true _ ?side1 ?side2 (Glob.below HGl.out (by repeat (first | (with_reducible first | exact HB.out | apply below_alloc | apply pw_below_drewN | apply below_drew1) | exact HB.out))) A22.out).mono ?_); (case side1 => repeat (first | exact (Kd.N_reads' HO226.out).2.2 | (with_reducible refine Kd.C_alloc ?_ _) | (with_reducible refine Kd.C_drewN ?_ _) | (with_reducible refine Kd.C_drew ?_))); (case side2 => exact (Kd.N_reads' HO226.out).2.1); rintro e w65 ⟨rfl, hb⟩; refine ⟨_, rfl, ?_⟩; have n0_ := Aside0.mk (Kd.V_below (by (with_reducible repeat (first | apply Kd.V_alloc | apply Kd.V_drewN | apply Kd.V_drew)); exact HO_0.out) hb); have n1_ := Aside0.mk (Kd.N_below (by (with_reducible repeat (first | apply Kd.N_alloc | apply Kd.N_drewN | apply Kd.N_drew)); exact HO_10.out) hb); have n2_ := Aside0.mk (Kd.N_below (by (with_reducible repeat (first | apply Kd.N_alloc | apply Kd.N_drewN | apply Kd.N_drew)); exact HO226.out) hb); have n3_ := Aside0.mk (below_step (by repeat (first | (with_reducible first | exact HB.out | apply below_alloc | apply pw_below_drewN | apply below_drew1) | exact HB.out)) hb); clear HO_0; clear HO_10; clear HO226; clear HB; have HO_0 := n0_; have HO_10 := n1_; have HO226 := n2_; have HB := n3_; clear n0_ n1_ n2_ n3_; (try clear hb); (try clear hb2); (try clear hk); (try clear hi)) | (have t_27 := tk27; clear tk27; clear t_27; go_at_call 18; (with_reducible refine (acl_Admits.calls _ _ l0 a1 a2 a3 false _ ?side1 ?side2 (Glob.below HGl.out (by repeat (first | (with_reducible first | exact HB.out | apply below_alloc | apply pw_below_drewN | apply below_drew1) | exact HB.out))) A25.out).mono ?_); (case side1 => repeat (first | exact (Kd.V_reads' HO_0.out).2.2 | (with_reducible refine Kd.C_alloc ?_ _) | (with_reducible refine Kd.C_drewN ?_ _) | (with_reducible refine Kd.C_drew ?_))); (case side2 => exact (Kd.V_reads' HO_0.out).2.1); rintro e w66 ⟨rfl, hb⟩; have n0_ := Aside0.mk (Kd.V_below (by (with_reducible repeat (first | apply Kd.V_alloc | apply Kd.V_drewN | apply Kd.V_drew)); exact HO_0.out) hb); have n1_ := Aside0.mk (Kd.N_below (by (with_reducible repeat (first | apply Kd.N_alloc | apply Kd.N_drewN | apply Kd.N_drew)); exact HO_10.out) hb); have n2_ := Aside0.mk (Kd.N_below (by (with_reducible repeat (first | apply Kd.N_alloc | apply Kd.N_drewN | apply Kd.N_drew)); exact HO226.out) hb); have n3_ := Aside0.mk (below_step (by repeat (first | (with_reducible first | exact HB.out | apply below_alloc | apply pw_below_drewN | apply below_drew1) | exact HB.out)) hb); clear HO_0; clear HO_10; clear HO226; clear HB; have HO_0 := n0_; have HO_10 := n1_; have HO226 := n2_; have HB := n3_; clear n0_ n1_ n2_ n3_; (try clear hb); (try clear hb2); (try clear hk); (try clear hi)) | (have t_28 := tk28; clear tk28; clear t_28; go_at_call 18; (with_reducible refine (acl_Admits.calls _ _ l0 a1 a2 a3 false _ ?side1 ?side2 (Glob.below HGl.out (by repeat (first | (with_reducible first | exact HB.out | apply below_alloc | apply pw_below_drewN | apply below_drew1) | exact HB.out))) A52.out).mono ?_); (case side1 => repeat (first | exact (Kd.V_reads' HO_0.out).2.2 | (with_reducible refine Kd.C_alloc ?_ _) | (with_reducible refine Kd.C_drewN ?_ _) | (with_reducible refine Kd.C_drew ?_))); (case side2 => exact (Kd.V_reads' HO_0.out).2.1); rintro e w67 ⟨rfl, hb⟩; have n0_ := Aside0.mk (Kd.V_below (by (with_reducible repeat (first | apply Kd.V_alloc | apply Kd.V_drewN | apply Kd.V_drew)); exact HO_0.out) hb); have n1_ := Aside0.mk (Kd.N_below (by (with_reducible repeat (first | apply Kd.N_alloc | apply Kd.N_drewN | apply Kd.N_drew)); exact HO_10.out) hb); have n2_ := Aside0.mk (Kd.N_below (by (with_reducible repeat (first | apply Kd.N_alloc | apply Kd.N_drewN | apply Kd.N_drew)); exact HO226.out) hb); have n3_ := Aside0.mk (below_step (by repeat (first | (with_reducible first | exact HB.out | apply below_alloc | apply pw_below_drewN | apply below_drew1) | exact HB.out)) hb); clear HO_0; clear HO_10; clear HO226; clear HB; have HO_0 := n0_; have HO_10 := n1_; have HO226 := n2_; have HB := n3_; clear n0_ n1_ n2_ n3_; (try clear hb); (try clear hb2); (try clear hk); (try clear hi)))
                    go_ret
                    exact ⟨by first | rfl | (simp [errW_none, errW_some] <;> rfl) | (simp [*, errW_none, errW_some] <;> rfl), by repeat (first | (with_reducible first | exact HB.out | apply below_alloc | apply pw_below_drewN | apply below_drew1) | exact HB.out)⟩
                · replace c51 := Bool.eq_false_iff.mpr c51
                  subst c51
                  have H1 : ((tollhouselaw14_wakes.f).bind fun t234 => (some t234)) = some r := by rw [if_neg (show ¬ (false = true) by decide)] at H; exact H
                  clear H
                  have H := H1
                  clear H1
                  replace H := Option.bind_eq_some_iff.mp H
                  obtain ⟨t234, A680, H⟩ := H
                  replace H : (some t234) = some r := H
                  have A68 := Aside0.mk A680
                  clear A680
                  obtain rfl := Option.some.inj H
                  obtain ⟨Ao70, co70, eo70⟩ := Kd.N_slice HO_10.out
                  subst eo70
                  have tk29 : True := trivial
                  have tk30 : True := trivial
                  have tk31 : True := trivial
                  have tk32 : True := trivial
                  go_wp2_with (first | (have t_29 := tk29; clear tk29; clear t_29; (with_reducible refine gate_builtin (b := .append) (xs := #[.tmp 62, .tmp 63]) rfl ?_); at_builtin; refine Kd.N_append_rows k25 (w0 := w) w.heap.size rfl (.tmp 62) (.tmp 63) 22 25 (.agg #[(.bool false), (.string ⟨#[]⟩), (.int .i64 0), (.int .i64 0), (.slice none 0 0)]) 64 rfl Tryd.underlying22 info25 rfl (by decide) (by omega) u9 x9_1 x10_1 _ _ _ (fun k_ => (P0_ k_ ∨ w.heap.size ≤ k_)) (fun k_ => ((fun k_ => (P0_ k_ ∨ w.heap.size ≤ k_))) k_ ∧ some k_ ≠ (u9 : Value).ownBlock) rfl rfl ?aO ?aR (fun _ hk => hk) ?aF ?aB ?aS ?aL ?_; (case aR => exact (by skip; exact Kd.N_F (Kd.N_mono (ok' := (fun k_ => ((fun k_ => (P0_ k_ ∨ w.heap.size ≤ k_))) k_ ∧ some k_ ≠ (u9 : Value).ownBlock)) (HO_10.out) (fun k_ hk => ⟨hk.1, hk.2⟩)))); (case aB => exact (by repeat (first | (with_reducible first | exact HB.out | apply below_alloc | apply pw_below_drewN | apply below_drew1) | exact HB.out))); (case aF => exact (fun k_ hk => (.inr (Nat.le_trans (below_size (by repeat (first | (with_reducible first | exact HB.out | apply below_alloc | apply pw_below_drewN | apply below_drew1) | exact HB.out))) hk)))); (case aO => exact (by (with_reducible repeat (first | apply Kd.N_alloc | apply Kd.N_drewN | apply Kd.N_drew)); exact Kd.N_mono HO_9.out (fun _ hk => hk.1))); (case aS => exact (below_size (by repeat (first | (with_reducible first | exact HB.out | apply below_alloc | apply pw_below_drewN | apply below_drew1) | exact HB.out)))); (case aL => have := LMc21.out; omega); intro v225 w69 ho hb hg hat; rw [← Ny224.out] at ho; have n0_ := Aside0.mk (Kd.V_afterv (ok := (fun k_ => (P0_ k_ ∨ w.heap.size ≤ k_) ∧ some k_ ≠ (.slice Ao70 x10_1.length co70 : Value).ownBlock)) (by (with_reducible repeat (first | apply Kd.V_alloc | apply Kd.V_drewN | apply Kd.V_drew)); exact Kd.V_mono HO_0.out (fun _ hk => ⟨⟨hk.1, hk.2.2⟩, hk.2.1⟩)) hg hat); have n1_ := Aside0.mk (Kd.N_afterv (ok := (fun k_ => (P0_ k_ ∨ w.heap.size ≤ k_))) (by (with_reducible repeat (first | apply Kd.N_alloc | apply Kd.N_drewN | apply Kd.N_drew)); exact HO_10.out) hg hat); have n2_ := Aside0.mk (hb); have n3_ := Aside0.mk (ho); clear HO_0; clear HO_10; clear HB; clear HO_9; have HO_0 := n0_; have HO_10 := n1_; have HB := n2_; have HO226 := n3_; clear n0_ n1_ n2_ n3_; clear ho hb hg hat; obtain ⟨Ao71, co71, eo71⟩ := Kd.N_slice HO226.out; subst eo71) | (have t_30 := tk30; clear tk30; clear t_30; (with_reducible refine gate_callee (f := 18) rfl ?_); refine goesL_ (some 68) rfl rfl Tryd.func18 (by kernel_rfl) rfl #[.slice Ao71 y224.length co71, .string a1, .int .i64 a2, .string a3] rfl (by (try simp only [List.map_toArray, List.map_cons, List.map_nil]); first | done | rfl | (simp only [List.length_drop, List.length_take]; rfl)) ?_; (with_reducible refine (acl_Admits.calls _ _ y224 a1 a2 a3 false _ ?side1 ?side2 (Glob.below HGl.out (by repeat (first | (with_reducible first | exact HB.out | apply below_alloc | apply pw_below_drewN | apply below_drew1) | exact HB.out))) A22.out).mono ?_); (case side1 => repeat (first | exact (Kd.N_reads' HO226.out).2.2 | (with_reducible refine Kd.C_alloc ?_ _) | (with_reducible refine Kd.C_drewN ?_ _) | (with_reducible refine Kd.C_drew ?_))); (case side2 => exact (Kd.N_reads' HO226.out).2.1); rintro e w72 ⟨rfl, hb⟩; refine ⟨_, rfl, ?_⟩; have n0_ := Aside0.mk (Kd.V_below (by (with_reducible repeat (first | apply Kd.V_alloc | apply Kd.V_drewN | apply Kd.V_drew)); exact HO_0.out) hb); have n1_ := Aside0.mk (Kd.N_below (by (with_reducible repeat (first | apply Kd.N_alloc | apply Kd.N_drewN | apply Kd.N_drew)); exact HO_10.out) hb); have n2_ := Aside0.mk (Kd.N_below (by (with_reducible repeat (first | apply Kd.N_alloc | apply Kd.N_drewN | apply Kd.N_drew)); exact HO226.out) hb); have n3_ := Aside0.mk (below_step (by repeat (first | (with_reducible first | exact HB.out | apply below_alloc | apply pw_below_drewN | apply below_drew1) | exact HB.out)) hb); clear HO_0; clear HO_10; clear HO226; clear HB; have HO_0 := n0_; have HO_10 := n1_; have HO226 := n2_; have HB := n3_; clear n0_ n1_ n2_ n3_; (try clear hb); (try clear hb2); (try clear hk); (try clear hi)) | (have t_31 := tk31; clear tk31; clear t_31; go_at_call 18; (with_reducible refine (acl_Admits.calls _ _ l0 a1 a2 a3 false _ ?side1 ?side2 (Glob.below HGl.out (by repeat (first | (with_reducible first | exact HB.out | apply below_alloc | apply pw_below_drewN | apply below_drew1) | exact HB.out))) A25.out).mono ?_); (case side1 => repeat (first | exact (Kd.V_reads' HO_0.out).2.2 | (with_reducible refine Kd.C_alloc ?_ _) | (with_reducible refine Kd.C_drewN ?_ _) | (with_reducible refine Kd.C_drew ?_))); (case side2 => exact (Kd.V_reads' HO_0.out).2.1); rintro e w73 ⟨rfl, hb⟩; have n0_ := Aside0.mk (Kd.V_below (by (with_reducible repeat (first | apply Kd.V_alloc | apply Kd.V_drewN | apply Kd.V_drew)); exact HO_0.out) hb); have n1_ := Aside0.mk (Kd.N_below (by (with_reducible repeat (first | apply Kd.N_alloc | apply Kd.N_drewN | apply Kd.N_drew)); exact HO_10.out) hb); have n2_ := Aside0.mk (Kd.N_below (by (with_reducible repeat (first | apply Kd.N_alloc | apply Kd.N_drewN | apply Kd.N_drew)); exact HO226.out) hb); have n3_ := Aside0.mk (below_step (by repeat (first | (with_reducible first | exact HB.out | apply below_alloc | apply pw_below_drewN | apply below_drew1) | exact HB.out)) hb); clear HO_0; clear HO_10; clear HO226; clear HB; have HO_0 := n0_; have HO_10 := n1_; have HO226 := n2_; have HB := n3_; clear n0_ n1_ n2_ n3_; (try clear hb); (try clear hb2); (try clear hk); (try clear hi)) | (have t_32 := tk32; clear tk32; clear t_32; go_at_call 20; (with_reducible refine (tollhouselaw14_wakes.calls  t234 _ (Glob.below HGl.out (by repeat (first | (with_reducible first | exact HB.out | apply below_alloc | apply pw_below_drewN | apply below_drew1) | exact HB.out))) A68.out).mono ?_); rintro e w74 ⟨rfl, hb⟩; have n0_ := Aside0.mk (Kd.V_below (by (with_reducible repeat (first | apply Kd.V_alloc | apply Kd.V_drewN | apply Kd.V_drew)); exact HO_0.out) hb); have n1_ := Aside0.mk (Kd.N_below (by (with_reducible repeat (first | apply Kd.N_alloc | apply Kd.N_drewN | apply Kd.N_drew)); exact HO_10.out) hb); have n2_ := Aside0.mk (Kd.N_below (by (with_reducible repeat (first | apply Kd.N_alloc | apply Kd.N_drewN | apply Kd.N_drew)); exact HO226.out) hb); have n3_ := Aside0.mk (below_step (by repeat (first | (with_reducible first | exact HB.out | apply below_alloc | apply pw_below_drewN | apply below_drew1) | exact HB.out)) hb); clear HO_0; clear HO_10; clear HO226; clear HB; have HO_0 := n0_; have HO_10 := n1_; have HO226 := n2_; have HB := n3_; clear n0_ n1_ n2_ n3_; (try clear hb); (try clear hb2); (try clear hk); (try clear hi)))
                  go_ret
                  exact ⟨by first | rfl | (simp [errW_none, errW_some] <;> rfl) | (simp [*, errW_none, errW_some] <;> rfl), by repeat (first | (with_reducible first | exact HB.out | apply below_alloc | apply pw_below_drewN | apply below_drew1) | exact HB.out)⟩
            · rw [if_neg c24] at H
              have c24b0 : (t227 == (!x11_1)) = false := by simpa using c24
              (try (have c24b1 : decide (t227 = (!x11_1)) = false := by simpa using c24))
              (try (have c24b2 : (t227 == (!x11_1)) = false := by simpa using c24))
              (try (have c24b3 : ¬ (t227 = (!x11_1)) := by simpa using c24))
              clear c24
              obtain rfl := Option.some.inj H
              obtain ⟨Ao76, co76, eo76⟩ := Kd.N_slice HO_10.out
              subst eo76
              have tk33 : True := trivial
              have tk34 : True := trivial
              go_wp2_with (first | (have t_33 := tk33; clear tk33; clear t_33; (with_reducible refine gate_builtin (b := .append) (xs := #[.tmp 62, .tmp 63]) rfl ?_); at_builtin; refine Kd.N_append_rows k25 (w0 := w) w.heap.size rfl (.tmp 62) (.tmp 63) 22 25 (.agg #[(.bool false), (.string ⟨#[]⟩), (.int .i64 0), (.int .i64 0), (.slice none 0 0)]) 64 rfl Tryd.underlying22 info25 rfl (by decide) (by omega) u9 x9_1 x10_1 _ _ _ (fun k_ => (P0_ k_ ∨ w.heap.size ≤ k_)) (fun k_ => ((fun k_ => (P0_ k_ ∨ w.heap.size ≤ k_))) k_ ∧ some k_ ≠ (u9 : Value).ownBlock) rfl rfl ?aO ?aR (fun _ hk => hk) ?aF ?aB ?aS ?aL ?_; (case aR => exact (by skip; exact Kd.N_F (Kd.N_mono (ok' := (fun k_ => ((fun k_ => (P0_ k_ ∨ w.heap.size ≤ k_))) k_ ∧ some k_ ≠ (u9 : Value).ownBlock)) (HO_10.out) (fun k_ hk => ⟨hk.1, hk.2⟩)))); (case aB => exact (by repeat (first | (with_reducible first | exact HB.out | apply below_alloc | apply pw_below_drewN | apply below_drew1) | exact HB.out))); (case aF => exact (fun k_ hk => (.inr (Nat.le_trans (below_size (by repeat (first | (with_reducible first | exact HB.out | apply below_alloc | apply pw_below_drewN | apply below_drew1) | exact HB.out))) hk)))); (case aO => exact (by (with_reducible repeat (first | apply Kd.N_alloc | apply Kd.N_drewN | apply Kd.N_drew)); exact Kd.N_mono HO_9.out (fun _ hk => hk.1))); (case aS => exact (below_size (by repeat (first | (with_reducible first | exact HB.out | apply below_alloc | apply pw_below_drewN | apply below_drew1) | exact HB.out)))); (case aL => have := LMc21.out; omega); intro v225 w75 ho hb hg hat; rw [← Ny224.out] at ho; have n0_ := Aside0.mk (Kd.V_afterv (ok := (fun k_ => (P0_ k_ ∨ w.heap.size ≤ k_) ∧ some k_ ≠ (.slice Ao76 x10_1.length co76 : Value).ownBlock)) (by (with_reducible repeat (first | apply Kd.V_alloc | apply Kd.V_drewN | apply Kd.V_drew)); exact Kd.V_mono HO_0.out (fun _ hk => ⟨⟨hk.1, hk.2.2⟩, hk.2.1⟩)) hg hat); have n1_ := Aside0.mk (Kd.N_afterv (ok := (fun k_ => (P0_ k_ ∨ w.heap.size ≤ k_))) (by (with_reducible repeat (first | apply Kd.N_alloc | apply Kd.N_drewN | apply Kd.N_drew)); exact HO_10.out) hg hat); have n2_ := Aside0.mk (hb); have n3_ := Aside0.mk (ho); clear HO_0; clear HO_10; clear HB; clear HO_9; have HO_0 := n0_; have HO_10 := n1_; have HB := n2_; have HO226 := n3_; clear n0_ n1_ n2_ n3_; clear ho hb hg hat; obtain ⟨Ao77, co77, eo77⟩ := Kd.N_slice HO226.out; subst eo77) | (have t_34 := tk34; clear tk34; clear t_34; (with_reducible refine gate_callee (f := 18) rfl ?_); refine goesL_ (some 68) rfl rfl Tryd.func18 (by kernel_rfl) rfl #[.slice Ao77 y224.length co77, .string a1, .int .i64 a2, .string a3] rfl (by (try simp only [List.map_toArray, List.map_cons, List.map_nil]); first | done | rfl | (simp only [List.length_drop, List.length_take]; rfl)) ?_; (with_reducible refine (acl_Admits.calls _ _ y224 a1 a2 a3 t227 _ ?side1 ?side2 (Glob.below HGl.out (by repeat (first | (with_reducible first | exact HB.out | apply below_alloc | apply pw_below_drewN | apply below_drew1) | exact HB.out))) A22.out).mono ?_); (case side1 => repeat (first | exact (Kd.N_reads' HO226.out).2.2 | (with_reducible refine Kd.C_alloc ?_ _) | (with_reducible refine Kd.C_drewN ?_ _) | (with_reducible refine Kd.C_drew ?_))); (case side2 => exact (Kd.N_reads' HO226.out).2.1); rintro e w78 ⟨rfl, hb⟩; refine ⟨_, rfl, ?_⟩; have n0_ := Aside0.mk (Kd.V_below (by (with_reducible repeat (first | apply Kd.V_alloc | apply Kd.V_drewN | apply Kd.V_drew)); exact HO_0.out) hb); have n1_ := Aside0.mk (Kd.N_below (by (with_reducible repeat (first | apply Kd.N_alloc | apply Kd.N_drewN | apply Kd.N_drew)); exact HO_10.out) hb); have n2_ := Aside0.mk (Kd.N_below (by (with_reducible repeat (first | apply Kd.N_alloc | apply Kd.N_drewN | apply Kd.N_drew)); exact HO226.out) hb); have n3_ := Aside0.mk (below_step (by repeat (first | (with_reducible first | exact HB.out | apply below_alloc | apply pw_below_drewN | apply below_drew1) | exact HB.out)) hb); clear HO_0; clear HO_10; clear HO226; clear HB; have HO_0 := n0_; have HO_10 := n1_; have HO226 := n2_; have HB := n3_; clear n0_ n1_ n2_ n3_; (try clear hb); (try clear hb2); (try clear hk); (try clear hi)))
              go_ret
              exact ⟨by first | rfl | (simp [errW_none, errW_some] <;> rfl) | (simp [*, errW_none, errW_some] <;> rfl), by repeat (first | (with_reducible first | exact HB.out | apply below_alloc | apply pw_below_drewN | apply below_drew1) | exact HB.out)⟩
          · replace c23 := Bool.eq_false_iff.mpr c23
            subst c23
            have H1 : (if (t227 == false) = true then ((acl_Admits.f l0 a1 a2 a3).bind fun t235 => (if t235 = true then (some false) else (if t227 = true then ((acl_Admits.f l0 a1 a2 a3).bind fun t236 => (if t236 = true then ((tollhouselaw14_wakes.f).bind fun t237 => (some t237)) else (some false))) else ((tollhouselaw14_wakes.f).bind fun t238 => (some t238))))) else (some false)) = some r := by rw [if_neg (show ¬ (false = true) by decide)] at H; exact H
            clear H
            have H := H1
            clear H1
            by_cases c79 : (t227 == false) = true
            · rw [if_pos c79] at H
              have c79b0 : (t227 == false) = true := c79
              (try (have c79b1 : decide (t227 = false) = true := by simpa using c79))
              (try (have c79b2 : (t227 == false) = true := by simpa using c79))
              clear c79
              replace H := Option.bind_eq_some_iff.mp H
              obtain ⟨t235, A800, H⟩ := H
              replace H : (if t235 = true then (some false) else (if t227 = true then ((acl_Admits.f l0 a1 a2 a3).bind fun t236 => (if t236 = true then ((tollhouselaw14_wakes.f).bind fun t237 => (some t237)) else (some false))) else ((tollhouselaw14_wakes.f).bind fun t238 => (some t238)))) = some r := H
              have A80 := Aside0.mk A800
              clear A800
              by_cases c81 : t235 = true
              · subst c81
                have H1 : (some false) = some r := by rw [if_pos rfl] at H; exact H
                clear H
                have H := H1
                clear H1
                obtain rfl := Option.some.inj H
                obtain ⟨Ao83, co83, eo83⟩ := Kd.N_slice HO_10.out
                subst eo83
                have tk35 : True := trivial
                have tk36 : True := trivial
                have tk37 : True := trivial
                go_wp2_with (first | (have t_35 := tk35; clear tk35; clear t_35; (with_reducible refine gate_builtin (b := .append) (xs := #[.tmp 62, .tmp 63]) rfl ?_); at_builtin; refine Kd.N_append_rows k25 (w0 := w) w.heap.size rfl (.tmp 62) (.tmp 63) 22 25 (.agg #[(.bool false), (.string ⟨#[]⟩), (.int .i64 0), (.int .i64 0), (.slice none 0 0)]) 64 rfl Tryd.underlying22 info25 rfl (by decide) (by omega) u9 x9_1 x10_1 _ _ _ (fun k_ => (P0_ k_ ∨ w.heap.size ≤ k_)) (fun k_ => ((fun k_ => (P0_ k_ ∨ w.heap.size ≤ k_))) k_ ∧ some k_ ≠ (u9 : Value).ownBlock) rfl rfl ?aO ?aR (fun _ hk => hk) ?aF ?aB ?aS ?aL ?_; (case aR => exact (by skip; exact Kd.N_F (Kd.N_mono (ok' := (fun k_ => ((fun k_ => (P0_ k_ ∨ w.heap.size ≤ k_))) k_ ∧ some k_ ≠ (u9 : Value).ownBlock)) (HO_10.out) (fun k_ hk => ⟨hk.1, hk.2⟩)))); (case aB => exact (by repeat (first | (with_reducible first | exact HB.out | apply below_alloc | apply pw_below_drewN | apply below_drew1) | exact HB.out))); (case aF => exact (fun k_ hk => (.inr (Nat.le_trans (below_size (by repeat (first | (with_reducible first | exact HB.out | apply below_alloc | apply pw_below_drewN | apply below_drew1) | exact HB.out))) hk)))); (case aO => exact (by (with_reducible repeat (first | apply Kd.N_alloc | apply Kd.N_drewN | apply Kd.N_drew)); exact Kd.N_mono HO_9.out (fun _ hk => hk.1))); (case aS => exact (below_size (by repeat (first | (with_reducible first | exact HB.out | apply below_alloc | apply pw_below_drewN | apply below_drew1) | exact HB.out)))); (case aL => have := LMc21.out; omega); intro v225 w82 ho hb hg hat; rw [← Ny224.out] at ho; have n0_ := Aside0.mk (Kd.V_afterv (ok := (fun k_ => (P0_ k_ ∨ w.heap.size ≤ k_) ∧ some k_ ≠ (.slice Ao83 x10_1.length co83 : Value).ownBlock)) (by (with_reducible repeat (first | apply Kd.V_alloc | apply Kd.V_drewN | apply Kd.V_drew)); exact Kd.V_mono HO_0.out (fun _ hk => ⟨⟨hk.1, hk.2.2⟩, hk.2.1⟩)) hg hat); have n1_ := Aside0.mk (Kd.N_afterv (ok := (fun k_ => (P0_ k_ ∨ w.heap.size ≤ k_))) (by (with_reducible repeat (first | apply Kd.N_alloc | apply Kd.N_drewN | apply Kd.N_drew)); exact HO_10.out) hg hat); have n2_ := Aside0.mk (hb); have n3_ := Aside0.mk (ho); clear HO_0; clear HO_10; clear HB; clear HO_9; have HO_0 := n0_; have HO_10 := n1_; have HB := n2_; have HO226 := n3_; clear n0_ n1_ n2_ n3_; clear ho hb hg hat; obtain ⟨Ao84, co84, eo84⟩ := Kd.N_slice HO226.out; subst eo84) | (have t_36 := tk36; clear tk36; clear t_36; (with_reducible refine gate_callee (f := 18) rfl ?_); refine goesL_ (some 68) rfl rfl Tryd.func18 (by kernel_rfl) rfl #[.slice Ao84 y224.length co84, .string a1, .int .i64 a2, .string a3] rfl (by (try simp only [List.map_toArray, List.map_cons, List.map_nil]); first | done | rfl | (simp only [List.length_drop, List.length_take]; rfl)) ?_; (with_reducible refine (acl_Admits.calls _ _ y224 a1 a2 a3 t227 _ ?side1 ?side2 (Glob.below HGl.out (by repeat (first | (with_reducible first | exact HB.out | apply below_alloc | apply pw_below_drewN | apply below_drew1) | exact HB.out))) A22.out).mono ?_); (case side1 => repeat (first | exact (Kd.N_reads' HO226.out).2.2 | (with_reducible refine Kd.C_alloc ?_ _) | (with_reducible refine Kd.C_drewN ?_ _) | (with_reducible refine Kd.C_drew ?_))); (case side2 => exact (Kd.N_reads' HO226.out).2.1); rintro e w85 ⟨rfl, hb⟩; refine ⟨_, rfl, ?_⟩; have n0_ := Aside0.mk (Kd.V_below (by (with_reducible repeat (first | apply Kd.V_alloc | apply Kd.V_drewN | apply Kd.V_drew)); exact HO_0.out) hb); have n1_ := Aside0.mk (Kd.N_below (by (with_reducible repeat (first | apply Kd.N_alloc | apply Kd.N_drewN | apply Kd.N_drew)); exact HO_10.out) hb); have n2_ := Aside0.mk (Kd.N_below (by (with_reducible repeat (first | apply Kd.N_alloc | apply Kd.N_drewN | apply Kd.N_drew)); exact HO226.out) hb); have n3_ := Aside0.mk (below_step (by repeat (first | (with_reducible first | exact HB.out | apply below_alloc | apply pw_below_drewN | apply below_drew1) | exact HB.out)) hb); clear HO_0; clear HO_10; clear HO226; clear HB; have HO_0 := n0_; have HO_10 := n1_; have HO226 := n2_; have HB := n3_; clear n0_ n1_ n2_ n3_; (try clear hb); (try clear hb2); (try clear hk); (try clear hi)) | (have t_37 := tk37; clear tk37; clear t_37; go_at_call 18; (with_reducible refine (acl_Admits.calls _ _ l0 a1 a2 a3 true _ ?side1 ?side2 (Glob.below HGl.out (by repeat (first | (with_reducible first | exact HB.out | apply below_alloc | apply pw_below_drewN | apply below_drew1) | exact HB.out))) A80.out).mono ?_); (case side1 => repeat (first | exact (Kd.V_reads' HO_0.out).2.2 | (with_reducible refine Kd.C_alloc ?_ _) | (with_reducible refine Kd.C_drewN ?_ _) | (with_reducible refine Kd.C_drew ?_))); (case side2 => exact (Kd.V_reads' HO_0.out).2.1); rintro e w86 ⟨rfl, hb⟩; have n0_ := Aside0.mk (Kd.V_below (by (with_reducible repeat (first | apply Kd.V_alloc | apply Kd.V_drewN | apply Kd.V_drew)); exact HO_0.out) hb); have n1_ := Aside0.mk (Kd.N_below (by (with_reducible repeat (first | apply Kd.N_alloc | apply Kd.N_drewN | apply Kd.N_drew)); exact HO_10.out) hb); have n2_ := Aside0.mk (Kd.N_below (by (with_reducible repeat (first | apply Kd.N_alloc | apply Kd.N_drewN | apply Kd.N_drew)); exact HO226.out) hb); have n3_ := Aside0.mk (below_step (by repeat (first | (with_reducible first | exact HB.out | apply below_alloc | apply pw_below_drewN | apply below_drew1) | exact HB.out)) hb); clear HO_0; clear HO_10; clear HO226; clear HB; have HO_0 := n0_; have HO_10 := n1_; have HO226 := n2_; have HB := n3_; clear n0_ n1_ n2_ n3_; (try clear hb); (try clear hb2); (try clear hk); (try clear hi)))
                go_ret
                exact ⟨by first | rfl | (simp [errW_none, errW_some] <;> rfl) | (simp [*, errW_none, errW_some] <;> rfl), by repeat (first | (with_reducible first | exact HB.out | apply below_alloc | apply pw_below_drewN | apply below_drew1) | exact HB.out)⟩
              · replace c81 := Bool.eq_false_iff.mpr c81
                subst c81
                have H1 : (if t227 = true then ((acl_Admits.f l0 a1 a2 a3).bind fun t236 => (if t236 = true then ((tollhouselaw14_wakes.f).bind fun t237 => (some t237)) else (some false))) else ((tollhouselaw14_wakes.f).bind fun t238 => (some t238))) = some r := by rw [if_neg (show ¬ (false = true) by decide)] at H; exact H
                clear H
                have H := H1
                clear H1
                by_cases c87 : t227 = true
                · subst c87
                  have H1 : ((acl_Admits.f l0 a1 a2 a3).bind fun t236 => (if t236 = true then ((tollhouselaw14_wakes.f).bind fun t237 => (some t237)) else (some false))) = some r := by rw [if_pos rfl] at H; exact H
                  clear H
                  have H := H1
                  clear H1
                  replace H := Option.bind_eq_some_iff.mp H
                  obtain ⟨t236, A880, H⟩ := H
                  replace H : (if t236 = true then ((tollhouselaw14_wakes.f).bind fun t237 => (some t237)) else (some false)) = some r := H
                  have A88 := Aside0.mk A880
                  clear A880
                  by_cases c89 : t236 = true
                  · subst c89
                    have H1 : ((tollhouselaw14_wakes.f).bind fun t237 => (some t237)) = some r := by rw [if_pos rfl] at H; exact H
                    clear H
                    have H := H1
                    clear H1
                    replace H := Option.bind_eq_some_iff.mp H
                    obtain ⟨t237, A900, H⟩ := H
                    replace H : (some t237) = some r := H
                    have A90 := Aside0.mk A900
                    clear A900
                    obtain rfl := Option.some.inj H
                    obtain ⟨Ao92, co92, eo92⟩ := Kd.N_slice HO_10.out
                    subst eo92
                    have tk38 : True := trivial
                    have tk39 : True := trivial
                    have tk40 : True := trivial
                    have tk41 : True := trivial
                    have tk42 : True := trivial
                    go_wp2_with (first | (have t_38 := tk38; clear tk38; clear t_38; (with_reducible refine gate_builtin (b := .append) (xs := #[.tmp 62, .tmp 63]) rfl ?_); at_builtin; refine Kd.N_append_rows k25 (w0 := w) w.heap.size rfl (.tmp 62) (.tmp 63) 22 25 (.agg #[(.bool false), (.string ⟨#[]⟩), (.int .i64 0), (.int .i64 0), (.slice none 0 0)]) 64 rfl Tryd.underlying22 info25 rfl (by decide) (by omega) u9 x9_1 x10_1 _ _ _ (fun k_ => (P0_ k_ ∨ w.heap.size ≤ k_)) (fun k_ => ((fun k_ => (P0_ k_ ∨ w.heap.size ≤ k_))) k_ ∧ some k_ ≠ (u9 : Value).ownBlock) rfl rfl ?aO ?aR (fun _ hk => hk) ?aF ?aB ?aS ?aL ?_; (case aR => exact (by skip; exact Kd.N_F (Kd.N_mono (ok' := (fun k_ => ((fun k_ => (P0_ k_ ∨ w.heap.size ≤ k_))) k_ ∧ some k_ ≠ (u9 : Value).ownBlock)) (HO_10.out) (fun k_ hk => ⟨hk.1, hk.2⟩)))); (case aB => exact (by repeat (first | (with_reducible first | exact HB.out | apply below_alloc | apply pw_below_drewN | apply below_drew1) | exact HB.out))); (case aF => exact (fun k_ hk => (.inr (Nat.le_trans (below_size (by repeat (first | (with_reducible first | exact HB.out | apply below_alloc | apply pw_below_drewN | apply below_drew1) | exact HB.out))) hk)))); (case aO => exact (by (with_reducible repeat (first | apply Kd.N_alloc | apply Kd.N_drewN | apply Kd.N_drew)); exact Kd.N_mono HO_9.out (fun _ hk => hk.1))); (case aS => exact (below_size (by repeat (first | (with_reducible first | exact HB.out | apply below_alloc | apply pw_below_drewN | apply below_drew1) | exact HB.out)))); (case aL => have := LMc21.out; omega); intro v225 w91 ho hb hg hat; rw [← Ny224.out] at ho; have n0_ := Aside0.mk (Kd.V_afterv (ok := (fun k_ => (P0_ k_ ∨ w.heap.size ≤ k_) ∧ some k_ ≠ (.slice Ao92 x10_1.length co92 : Value).ownBlock)) (by (with_reducible repeat (first | apply Kd.V_alloc | apply Kd.V_drewN | apply Kd.V_drew)); exact Kd.V_mono HO_0.out (fun _ hk => ⟨⟨hk.1, hk.2.2⟩, hk.2.1⟩)) hg hat); have n1_ := Aside0.mk (Kd.N_afterv (ok := (fun k_ => (P0_ k_ ∨ w.heap.size ≤ k_))) (by (with_reducible repeat (first | apply Kd.N_alloc | apply Kd.N_drewN | apply Kd.N_drew)); exact HO_10.out) hg hat); have n2_ := Aside0.mk (hb); have n3_ := Aside0.mk (ho); clear HO_0; clear HO_10; clear HB; clear HO_9; have HO_0 := n0_; have HO_10 := n1_; have HB := n2_; have HO226 := n3_; clear n0_ n1_ n2_ n3_; clear ho hb hg hat; obtain ⟨Ao93, co93, eo93⟩ := Kd.N_slice HO226.out; subst eo93) | (have t_39 := tk39; clear tk39; clear t_39; (with_reducible refine gate_callee (f := 18) rfl ?_); refine goesL_ (some 68) rfl rfl Tryd.func18 (by kernel_rfl) rfl #[.slice Ao93 y224.length co93, .string a1, .int .i64 a2, .string a3] rfl (by (try simp only [List.map_toArray, List.map_cons, List.map_nil]); first | done | rfl | (simp only [List.length_drop, List.length_take]; rfl)) ?_; (with_reducible refine (acl_Admits.calls _ _ y224 a1 a2 a3 true _ ?side1 ?side2 (Glob.below HGl.out (by repeat (first | (with_reducible first | exact HB.out | apply below_alloc | apply pw_below_drewN | apply below_drew1) | exact HB.out))) A22.out).mono ?_); (case side1 => repeat (first | exact (Kd.N_reads' HO226.out).2.2 | (with_reducible refine Kd.C_alloc ?_ _) | (with_reducible refine Kd.C_drewN ?_ _) | (with_reducible refine Kd.C_drew ?_))); (case side2 => exact (Kd.N_reads' HO226.out).2.1); rintro e w94 ⟨rfl, hb⟩; refine ⟨_, rfl, ?_⟩; have n0_ := Aside0.mk (Kd.V_below (by (with_reducible repeat (first | apply Kd.V_alloc | apply Kd.V_drewN | apply Kd.V_drew)); exact HO_0.out) hb); have n1_ := Aside0.mk (Kd.N_below (by (with_reducible repeat (first | apply Kd.N_alloc | apply Kd.N_drewN | apply Kd.N_drew)); exact HO_10.out) hb); have n2_ := Aside0.mk (Kd.N_below (by (with_reducible repeat (first | apply Kd.N_alloc | apply Kd.N_drewN | apply Kd.N_drew)); exact HO226.out) hb); have n3_ := Aside0.mk (below_step (by repeat (first | (with_reducible first | exact HB.out | apply below_alloc | apply pw_below_drewN | apply below_drew1) | exact HB.out)) hb); clear HO_0; clear HO_10; clear HO226; clear HB; have HO_0 := n0_; have HO_10 := n1_; have HO226 := n2_; have HB := n3_; clear n0_ n1_ n2_ n3_; (try clear hb); (try clear hb2); (try clear hk); (try clear hi)) | (have t_40 := tk40; clear tk40; clear t_40; go_at_call 18; (with_reducible refine (acl_Admits.calls _ _ l0 a1 a2 a3 false _ ?side1 ?side2 (Glob.below HGl.out (by repeat (first | (with_reducible first | exact HB.out | apply below_alloc | apply pw_below_drewN | apply below_drew1) | exact HB.out))) A80.out).mono ?_); (case side1 => repeat (first | exact (Kd.V_reads' HO_0.out).2.2 | (with_reducible refine Kd.C_alloc ?_ _) | (with_reducible refine Kd.C_drewN ?_ _) | (with_reducible refine Kd.C_drew ?_))); (case side2 => exact (Kd.V_reads' HO_0.out).2.1); rintro e w95 ⟨rfl, hb⟩; have n0_ := Aside0.mk (Kd.V_below (by (with_reducible repeat (first | apply Kd.V_alloc | apply Kd.V_drewN | apply Kd.V_drew)); exact HO_0.out) hb); have n1_ := Aside0.mk (Kd.N_below (by (with_reducible repeat (first | apply Kd.N_alloc | apply Kd.N_drewN | apply Kd.N_drew)); exact HO_10.out) hb); have n2_ := Aside0.mk (Kd.N_below (by (with_reducible repeat (first | apply Kd.N_alloc | apply Kd.N_drewN | apply Kd.N_drew)); exact HO226.out) hb); have n3_ := Aside0.mk (below_step (by repeat (first | (with_reducible first | exact HB.out | apply below_alloc | apply pw_below_drewN | apply below_drew1) | exact HB.out)) hb); clear HO_0; clear HO_10; clear HO226; clear HB; have HO_0 := n0_; have HO_10 := n1_; have HO226 := n2_; have HB := n3_; clear n0_ n1_ n2_ n3_; (try clear hb); (try clear hb2); (try clear hk); (try clear hi)) | (have t_41 := tk41; clear tk41; clear t_41; go_at_call 18; (with_reducible refine (acl_Admits.calls _ _ l0 a1 a2 a3 true _ ?side1 ?side2 (Glob.below HGl.out (by repeat (first | (with_reducible first | exact HB.out | apply below_alloc | apply pw_below_drewN | apply below_drew1) | exact HB.out))) A88.out).mono ?_); (case side1 => repeat (first | exact (Kd.V_reads' HO_0.out).2.2 | (with_reducible refine Kd.C_alloc ?_ _) | (with_reducible refine Kd.C_drewN ?_ _) | (with_reducible refine Kd.C_drew ?_))); (case side2 => exact (Kd.V_reads' HO_0.out).2.1); rintro e w96 ⟨rfl, hb⟩; have n0_ := Aside0.mk (Kd.V_below (by (with_reducible repeat (first | apply Kd.V_alloc | apply Kd.V_drewN | apply Kd.V_drew)); exact HO_0.out) hb); have n1_ := Aside0.mk (Kd.N_below (by (with_reducible repeat (first | apply Kd.N_alloc | apply Kd.N_drewN | apply Kd.N_drew)); exact HO_10.out) hb); have n2_ := Aside0.mk (Kd.N_below (by (with_reducible repeat (first | apply Kd.N_alloc | apply Kd.N_drewN | apply Kd.N_drew)); exact HO226.out) hb); have n3_ := Aside0.mk (below_step (by repeat (first | (with_reducible first | exact HB.out | apply below_alloc | apply pw_below_drewN | apply below_drew1) | exact HB.out)) hb); clear HO_0; clear HO_10; clear HO226; clear HB; have HO_0 := n0_; have HO_10 := n1_; have HO226 := n2_; have HB := n3_; clear n0_ n1_ n2_ n3_; (try clear hb); (try clear hb2); (try clear hk); (try clear hi)) | (have t_42 := tk42; clear tk42; clear t_42; go_at_call 20; (with_reducible refine (tollhouselaw14_wakes.calls  t237 _ (Glob.below HGl.out (by repeat (first | (with_reducible first | exact HB.out | apply below_alloc | apply pw_below_drewN | apply below_drew1) | exact HB.out))) A90.out).mono ?_); rintro e w97 ⟨rfl, hb⟩; have n0_ := Aside0.mk (Kd.V_below (by (with_reducible repeat (first | apply Kd.V_alloc | apply Kd.V_drewN | apply Kd.V_drew)); exact HO_0.out) hb); have n1_ := Aside0.mk (Kd.N_below (by (with_reducible repeat (first | apply Kd.N_alloc | apply Kd.N_drewN | apply Kd.N_drew)); exact HO_10.out) hb); have n2_ := Aside0.mk (Kd.N_below (by (with_reducible repeat (first | apply Kd.N_alloc | apply Kd.N_drewN | apply Kd.N_drew)); exact HO226.out) hb); have n3_ := Aside0.mk (below_step (by repeat (first | (with_reducible first | exact HB.out | apply below_alloc | apply pw_below_drewN | apply below_drew1) | exact HB.out)) hb); clear HO_0; clear HO_10; clear HO226; clear HB; have HO_0 := n0_; have HO_10 := n1_; have HO226 := n2_; have HB := n3_; clear n0_ n1_ n2_ n3_; (try clear hb); (try clear hb2); (try clear hk); (try clear hi)))
                    go_ret
                    exact ⟨by first | rfl | (simp [errW_none, errW_some] <;> rfl) | (simp [*, errW_none, errW_some] <;> rfl), by repeat (first | (with_reducible first | exact HB.out | apply below_alloc | apply pw_below_drewN | apply below_drew1) | exact HB.out)⟩
                  · replace c89 := Bool.eq_false_iff.mpr c89
                    subst c89
                    have H1 : (some false) = some r := by rw [if_neg (show ¬ (false = true) by decide)] at H; exact H
                    clear H
                    have H := H1
                    clear H1
                    obtain rfl := Option.some.inj H
                    obtain ⟨Ao99, co99, eo99⟩ := Kd.N_slice HO_10.out
                    subst eo99
                    have tk43 : True := trivial
                    have tk44 : True := trivial
                    have tk45 : True := trivial
                    have tk46 : True := trivial
                    go_wp2_with (first | (have t_43 := tk43; clear tk43; clear t_43; (with_reducible refine gate_builtin (b := .append) (xs := #[.tmp 62, .tmp 63]) rfl ?_); at_builtin; refine Kd.N_append_rows k25 (w0 := w) w.heap.size rfl (.tmp 62) (.tmp 63) 22 25 (.agg #[(.bool false), (.string ⟨#[]⟩), (.int .i64 0), (.int .i64 0), (.slice none 0 0)]) 64 rfl Tryd.underlying22 info25 rfl (by decide) (by omega) u9 x9_1 x10_1 _ _ _ (fun k_ => (P0_ k_ ∨ w.heap.size ≤ k_)) (fun k_ => ((fun k_ => (P0_ k_ ∨ w.heap.size ≤ k_))) k_ ∧ some k_ ≠ (u9 : Value).ownBlock) rfl rfl ?aO ?aR (fun _ hk => hk) ?aF ?aB ?aS ?aL ?_; (case aR => exact (by skip; exact Kd.N_F (Kd.N_mono (ok' := (fun k_ => ((fun k_ => (P0_ k_ ∨ w.heap.size ≤ k_))) k_ ∧ some k_ ≠ (u9 : Value).ownBlock)) (HO_10.out) (fun k_ hk => ⟨hk.1, hk.2⟩)))); (case aB => exact (by repeat (first | (with_reducible first | exact HB.out | apply below_alloc | apply pw_below_drewN | apply below_drew1) | exact HB.out))); (case aF => exact (fun k_ hk => (.inr (Nat.le_trans (below_size (by repeat (first | (with_reducible first | exact HB.out | apply below_alloc | apply pw_below_drewN | apply below_drew1) | exact HB.out))) hk)))); (case aO => exact (by (with_reducible repeat (first | apply Kd.N_alloc | apply Kd.N_drewN | apply Kd.N_drew)); exact Kd.N_mono HO_9.out (fun _ hk => hk.1))); (case aS => exact (below_size (by repeat (first | (with_reducible first | exact HB.out | apply below_alloc | apply pw_below_drewN | apply below_drew1) | exact HB.out)))); (case aL => have := LMc21.out; omega); intro v225 w98 ho hb hg hat; rw [← Ny224.out] at ho; have n0_ := Aside0.mk (Kd.V_afterv (ok := (fun k_ => (P0_ k_ ∨ w.heap.size ≤ k_) ∧ some k_ ≠ (.slice Ao99 x10_1.length co99 : Value).ownBlock)) (by (with_reducible repeat (first | apply Kd.V_alloc | apply Kd.V_drewN | apply Kd.V_drew)); exact Kd.V_mono HO_0.out (fun _ hk => ⟨⟨hk.1, hk.2.2⟩, hk.2.1⟩)) hg hat); have n1_ := Aside0.mk (Kd.N_afterv (ok := (fun k_ => (P0_ k_ ∨ w.heap.size ≤ k_))) (by (with_reducible repeat (first | apply Kd.N_alloc | apply Kd.N_drewN | apply Kd.N_drew)); exact HO_10.out) hg hat); have n2_ := Aside0.mk (hb); have n3_ := Aside0.mk (ho); clear HO_0; clear HO_10; clear HB; clear HO_9; have HO_0 := n0_; have HO_10 := n1_; have HB := n2_; have HO226 := n3_; clear n0_ n1_ n2_ n3_; clear ho hb hg hat; obtain ⟨Ao100, co100, eo100⟩ := Kd.N_slice HO226.out; subst eo100) | (have t_44 := tk44; clear tk44; clear t_44; (with_reducible refine gate_callee (f := 18) rfl ?_); refine goesL_ (some 68) rfl rfl Tryd.func18 (by kernel_rfl) rfl #[.slice Ao100 y224.length co100, .string a1, .int .i64 a2, .string a3] rfl (by (try simp only [List.map_toArray, List.map_cons, List.map_nil]); first | done | rfl | (simp only [List.length_drop, List.length_take]; rfl)) ?_; (with_reducible refine (acl_Admits.calls _ _ y224 a1 a2 a3 true _ ?side1 ?side2 (Glob.below HGl.out (by repeat (first | (with_reducible first | exact HB.out | apply below_alloc | apply pw_below_drewN | apply below_drew1) | exact HB.out))) A22.out).mono ?_); (case side1 => repeat (first | exact (Kd.N_reads' HO226.out).2.2 | (with_reducible refine Kd.C_alloc ?_ _) | (with_reducible refine Kd.C_drewN ?_ _) | (with_reducible refine Kd.C_drew ?_))); (case side2 => exact (Kd.N_reads' HO226.out).2.1); rintro e w101 ⟨rfl, hb⟩; refine ⟨_, rfl, ?_⟩; have n0_ := Aside0.mk (Kd.V_below (by (with_reducible repeat (first | apply Kd.V_alloc | apply Kd.V_drewN | apply Kd.V_drew)); exact HO_0.out) hb); have n1_ := Aside0.mk (Kd.N_below (by (with_reducible repeat (first | apply Kd.N_alloc | apply Kd.N_drewN | apply Kd.N_drew)); exact HO_10.out) hb); have n2_ := Aside0.mk (Kd.N_below (by (with_reducible repeat (first | apply Kd.N_alloc | apply Kd.N_drewN | apply Kd.N_drew)); exact HO226.out) hb); have n3_ := Aside0.mk (below_step (by repeat (first | (with_reducible first | exact HB.out | apply below_alloc | apply pw_below_drewN | apply below_drew1) | exact HB.out)) hb); clear HO_0; clear HO_10; clear HO226; clear HB; have HO_0 := n0_; have HO_10 := n1_; have HO226 := n2_; have HB := n3_; clear n0_ n1_ n2_ n3_; (try clear hb); (try clear hb2); (try clear hk); (try clear hi)) | (have t_45 := tk45; clear tk45; clear t_45; go_at_call 18; (with_reducible refine (acl_Admits.calls _ _ l0 a1 a2 a3 false _ ?side1 ?side2 (Glob.below HGl.out (by repeat (first | (with_reducible first | exact HB.out | apply below_alloc | apply pw_below_drewN | apply below_drew1) | exact HB.out))) A80.out).mono ?_); (case side1 => repeat (first | exact (Kd.V_reads' HO_0.out).2.2 | (with_reducible refine Kd.C_alloc ?_ _) | (with_reducible refine Kd.C_drewN ?_ _) | (with_reducible refine Kd.C_drew ?_))); (case side2 => exact (Kd.V_reads' HO_0.out).2.1); rintro e w102 ⟨rfl, hb⟩; have n0_ := Aside0.mk (Kd.V_below (by (with_reducible repeat (first | apply Kd.V_alloc | apply Kd.V_drewN | apply Kd.V_drew)); exact HO_0.out) hb); have n1_ := Aside0.mk (Kd.N_below (by (with_reducible repeat (first | apply Kd.N_alloc | apply Kd.N_drewN | apply Kd.N_drew)); exact HO_10.out) hb); have n2_ := Aside0.mk (Kd.N_below (by (with_reducible repeat (first | apply Kd.N_alloc | apply Kd.N_drewN | apply Kd.N_drew)); exact HO226.out) hb); have n3_ := Aside0.mk (below_step (by repeat (first | (with_reducible first | exact HB.out | apply below_alloc | apply pw_below_drewN | apply below_drew1) | exact HB.out)) hb); clear HO_0; clear HO_10; clear HO226; clear HB; have HO_0 := n0_; have HO_10 := n1_; have HO226 := n2_; have HB := n3_; clear n0_ n1_ n2_ n3_; (try clear hb); (try clear hb2); (try clear hk); (try clear hi)) | (have t_46 := tk46; clear tk46; clear t_46; go_at_call 18; (with_reducible refine (acl_Admits.calls _ _ l0 a1 a2 a3 false _ ?side1 ?side2 (Glob.below HGl.out (by repeat (first | (with_reducible first | exact HB.out | apply below_alloc | apply pw_below_drewN | apply below_drew1) | exact HB.out))) A88.out).mono ?_); (case side1 => repeat (first | exact (Kd.V_reads' HO_0.out).2.2 | (with_reducible refine Kd.C_alloc ?_ _) | (with_reducible refine Kd.C_drewN ?_ _) | (with_reducible refine Kd.C_drew ?_))); (case side2 => exact (Kd.V_reads' HO_0.out).2.1); rintro e w103 ⟨rfl, hb⟩; have n0_ := Aside0.mk (Kd.V_below (by (with_reducible repeat (first | apply Kd.V_alloc | apply Kd.V_drewN | apply Kd.V_drew)); exact HO_0.out) hb); have n1_ := Aside0.mk (Kd.N_below (by (with_reducible repeat (first | apply Kd.N_alloc | apply Kd.N_drewN | apply Kd.N_drew)); exact HO_10.out) hb); have n2_ := Aside0.mk (Kd.N_below (by (with_reducible repeat (first | apply Kd.N_alloc | apply Kd.N_drewN | apply Kd.N_drew)); exact HO226.out) hb); have n3_ := Aside0.mk (below_step (by repeat (first | (with_reducible first | exact HB.out | apply below_alloc | apply pw_below_drewN | apply below_drew1) | exact HB.out)) hb); clear HO_0; clear HO_10; clear HO226; clear HB; have HO_0 := n0_; have HO_10 := n1_; have HO226 := n2_; have HB := n3_; clear n0_ n1_ n2_ n3_; (try clear hb); (try clear hb2); (try clear hk); (try clear hi)))
                    go_ret
                    exact ⟨by first | rfl | (simp [errW_none, errW_some] <;> rfl) | (simp [*, errW_none, errW_some] <;> rfl), by repeat (first | (with_reducible first | exact HB.out | apply below_alloc | apply pw_below_drewN | apply below_drew1) | exact HB.out)⟩
                · replace c87 := Bool.eq_false_iff.mpr c87
                  subst c87
                  have H1 : ((tollhouselaw14_wakes.f).bind fun t238 => (some t238)) = some r := by rw [if_neg (show ¬ (false = true) by decide)] at H; exact H
                  clear H
                  have H := H1
                  clear H1
                  replace H := Option.bind_eq_some_iff.mp H
                  obtain ⟨t238, A1040, H⟩ := H
                  replace H : (some t238) = some r := H
                  have A104 := Aside0.mk A1040
                  clear A1040
                  obtain rfl := Option.some.inj H
                  obtain ⟨Ao106, co106, eo106⟩ := Kd.N_slice HO_10.out
                  subst eo106
                  have tk47 : True := trivial
                  have tk48 : True := trivial
                  have tk49 : True := trivial
                  have tk50 : True := trivial
                  go_wp2_with (first | (have t_47 := tk47; clear tk47; clear t_47; (with_reducible refine gate_builtin (b := .append) (xs := #[.tmp 62, .tmp 63]) rfl ?_); at_builtin; refine Kd.N_append_rows k25 (w0 := w) w.heap.size rfl (.tmp 62) (.tmp 63) 22 25 (.agg #[(.bool false), (.string ⟨#[]⟩), (.int .i64 0), (.int .i64 0), (.slice none 0 0)]) 64 rfl Tryd.underlying22 info25 rfl (by decide) (by omega) u9 x9_1 x10_1 _ _ _ (fun k_ => (P0_ k_ ∨ w.heap.size ≤ k_)) (fun k_ => ((fun k_ => (P0_ k_ ∨ w.heap.size ≤ k_))) k_ ∧ some k_ ≠ (u9 : Value).ownBlock) rfl rfl ?aO ?aR (fun _ hk => hk) ?aF ?aB ?aS ?aL ?_; (case aR => exact (by skip; exact Kd.N_F (Kd.N_mono (ok' := (fun k_ => ((fun k_ => (P0_ k_ ∨ w.heap.size ≤ k_))) k_ ∧ some k_ ≠ (u9 : Value).ownBlock)) (HO_10.out) (fun k_ hk => ⟨hk.1, hk.2⟩)))); (case aB => exact (by repeat (first | (with_reducible first | exact HB.out | apply below_alloc | apply pw_below_drewN | apply below_drew1) | exact HB.out))); (case aF => exact (fun k_ hk => (.inr (Nat.le_trans (below_size (by repeat (first | (with_reducible first | exact HB.out | apply below_alloc | apply pw_below_drewN | apply below_drew1) | exact HB.out))) hk)))); (case aO => exact (by (with_reducible repeat (first | apply Kd.N_alloc | apply Kd.N_drewN | apply Kd.N_drew)); exact Kd.N_mono HO_9.out (fun _ hk => hk.1))); (case aS => exact (below_size (by repeat (first | (with_reducible first | exact HB.out | apply below_alloc | apply pw_below_drewN | apply below_drew1) | exact HB.out)))); (case aL => have := LMc21.out; omega); intro v225 w105 ho hb hg hat; rw [← Ny224.out] at ho; have n0_ := Aside0.mk (Kd.V_afterv (ok := (fun k_ => (P0_ k_ ∨ w.heap.size ≤ k_) ∧ some k_ ≠ (.slice Ao106 x10_1.length co106 : Value).ownBlock)) (by (with_reducible repeat (first | apply Kd.V_alloc | apply Kd.V_drewN | apply Kd.V_drew)); exact Kd.V_mono HO_0.out (fun _ hk => ⟨⟨hk.1, hk.2.2⟩, hk.2.1⟩)) hg hat); have n1_ := Aside0.mk (Kd.N_afterv (ok := (fun k_ => (P0_ k_ ∨ w.heap.size ≤ k_))) (by (with_reducible repeat (first | apply Kd.N_alloc | apply Kd.N_drewN | apply Kd.N_drew)); exact HO_10.out) hg hat); have n2_ := Aside0.mk (hb); have n3_ := Aside0.mk (ho); clear HO_0; clear HO_10; clear HB; clear HO_9; have HO_0 := n0_; have HO_10 := n1_; have HB := n2_; have HO226 := n3_; clear n0_ n1_ n2_ n3_; clear ho hb hg hat; obtain ⟨Ao107, co107, eo107⟩ := Kd.N_slice HO226.out; subst eo107) | (have t_48 := tk48; clear tk48; clear t_48; (with_reducible refine gate_callee (f := 18) rfl ?_); refine goesL_ (some 68) rfl rfl Tryd.func18 (by kernel_rfl) rfl #[.slice Ao107 y224.length co107, .string a1, .int .i64 a2, .string a3] rfl (by (try simp only [List.map_toArray, List.map_cons, List.map_nil]); first | done | rfl | (simp only [List.length_drop, List.length_take]; rfl)) ?_; (with_reducible refine (acl_Admits.calls _ _ y224 a1 a2 a3 false _ ?side1 ?side2 (Glob.below HGl.out (by repeat (first | (with_reducible first | exact HB.out | apply below_alloc | apply pw_below_drewN | apply below_drew1) | exact HB.out))) A22.out).mono ?_); (case side1 => repeat (first | exact (Kd.N_reads' HO226.out).2.2 | (with_reducible refine Kd.C_alloc ?_ _) | (with_reducible refine Kd.C_drewN ?_ _) | (with_reducible refine Kd.C_drew ?_))); (case side2 => exact (Kd.N_reads' HO226.out).2.1); rintro e w108 ⟨rfl, hb⟩; refine ⟨_, rfl, ?_⟩; have n0_ := Aside0.mk (Kd.V_below (by (with_reducible repeat (first | apply Kd.V_alloc | apply Kd.V_drewN | apply Kd.V_drew)); exact HO_0.out) hb); have n1_ := Aside0.mk (Kd.N_below (by (with_reducible repeat (first | apply Kd.N_alloc | apply Kd.N_drewN | apply Kd.N_drew)); exact HO_10.out) hb); have n2_ := Aside0.mk (Kd.N_below (by (with_reducible repeat (first | apply Kd.N_alloc | apply Kd.N_drewN | apply Kd.N_drew)); exact HO226.out) hb); have n3_ := Aside0.mk (below_step (by repeat (first | (with_reducible first | exact HB.out | apply below_alloc | apply pw_below_drewN | apply below_drew1) | exact HB.out)) hb); clear HO_0; clear HO_10; clear HO226; clear HB; have HO_0 := n0_; have HO_10 := n1_; have HO226 := n2_; have HB := n3_; clear n0_ n1_ n2_ n3_; (try clear hb); (try clear hb2); (try clear hk); (try clear hi)) | (have t_49 := tk49; clear tk49; clear t_49; go_at_call 18; (with_reducible refine (acl_Admits.calls _ _ l0 a1 a2 a3 false _ ?side1 ?side2 (Glob.below HGl.out (by repeat (first | (with_reducible first | exact HB.out | apply below_alloc | apply pw_below_drewN | apply below_drew1) | exact HB.out))) A80.out).mono ?_); (case side1 => repeat (first | exact (Kd.V_reads' HO_0.out).2.2 | (with_reducible refine Kd.C_alloc ?_ _) | (with_reducible refine Kd.C_drewN ?_ _) | (with_reducible refine Kd.C_drew ?_))); (case side2 => exact (Kd.V_reads' HO_0.out).2.1); rintro e w109 ⟨rfl, hb⟩; have n0_ := Aside0.mk (Kd.V_below (by (with_reducible repeat (first | apply Kd.V_alloc | apply Kd.V_drewN | apply Kd.V_drew)); exact HO_0.out) hb); have n1_ := Aside0.mk (Kd.N_below (by (with_reducible repeat (first | apply Kd.N_alloc | apply Kd.N_drewN | apply Kd.N_drew)); exact HO_10.out) hb); have n2_ := Aside0.mk (Kd.N_below (by (with_reducible repeat (first | apply Kd.N_alloc | apply Kd.N_drewN | apply Kd.N_drew)); exact HO226.out) hb); have n3_ := Aside0.mk (below_step (by repeat (first | (with_reducible first | exact HB.out | apply below_alloc | apply pw_below_drewN | apply below_drew1) | exact HB.out)) hb); clear HO_0; clear HO_10; clear HO226; clear HB; have HO_0 := n0_; have HO_10 := n1_; have HO226 := n2_; have HB := n3_; clear n0_ n1_ n2_ n3_; (try clear hb); (try clear hb2); (try clear hk); (try clear hi)) | (have t_50 := tk50; clear tk50; clear t_50; go_at_call 20; (with_reducible refine (tollhouselaw14_wakes.calls  t238 _ (Glob.below HGl.out (by repeat (first | (with_reducible first | exact HB.out | apply below_alloc | apply pw_below_drewN | apply below_drew1) | exact HB.out))) A104.out).mono ?_); rintro e w110 ⟨rfl, hb⟩; have n0_ := Aside0.mk (Kd.V_below (by (with_reducible repeat (first | apply Kd.V_alloc | apply Kd.V_drewN | apply Kd.V_drew)); exact HO_0.out) hb); have n1_ := Aside0.mk (Kd.N_below (by (with_reducible repeat (first | apply Kd.N_alloc | apply Kd.N_drewN | apply Kd.N_drew)); exact HO_10.out) hb); have n2_ := Aside0.mk (Kd.N_below (by (with_reducible repeat (first | apply Kd.N_alloc | apply Kd.N_drewN | apply Kd.N_drew)); exact HO226.out) hb); have n3_ := Aside0.mk (below_step (by repeat (first | (with_reducible first | exact HB.out | apply below_alloc | apply pw_below_drewN | apply below_drew1) | exact HB.out)) hb); clear HO_0; clear HO_10; clear HO226; clear HB; have HO_0 := n0_; have HO_10 := n1_; have HO226 := n2_; have HB := n3_; clear n0_ n1_ n2_ n3_; (try clear hb); (try clear hb2); (try clear hk); (try clear hi)))
                  go_ret
                  exact ⟨by first | rfl | (simp [errW_none, errW_some] <;> rfl) | (simp [*, errW_none, errW_some] <;> rfl), by repeat (first | (with_reducible first | exact HB.out | apply below_alloc | apply pw_below_drewN | apply below_drew1) | exact HB.out)⟩
            · rw [if_neg c79] at H
              have c79b0 : (t227 == false) = false := by simpa using c79
              (try (have c79b1 : decide (t227 = false) = false := by simpa using c79))
              (try (have c79b2 : (t227 == false) = false := by simpa using c79))
              (try (have c79b3 : ¬ (t227 = false) := by simpa using c79))
              clear c79
              obtain rfl := Option.some.inj H
              obtain ⟨Ao112, co112, eo112⟩ := Kd.N_slice HO_10.out
              subst eo112
              have tk51 : True := trivial
              have tk52 : True := trivial
              go_wp2_with (first | (have t_51 := tk51; clear tk51; clear t_51; (with_reducible refine gate_builtin (b := .append) (xs := #[.tmp 62, .tmp 63]) rfl ?_); at_builtin; refine Kd.N_append_rows k25 (w0 := w) w.heap.size rfl (.tmp 62) (.tmp 63) 22 25 (.agg #[(.bool false), (.string ⟨#[]⟩), (.int .i64 0), (.int .i64 0), (.slice none 0 0)]) 64 rfl Tryd.underlying22 info25 rfl (by decide) (by omega) u9 x9_1 x10_1 _ _ _ (fun k_ => (P0_ k_ ∨ w.heap.size ≤ k_)) (fun k_ => ((fun k_ => (P0_ k_ ∨ w.heap.size ≤ k_))) k_ ∧ some k_ ≠ (u9 : Value).ownBlock) rfl rfl ?aO ?aR (fun _ hk => hk) ?aF ?aB ?aS ?aL ?_; (case aR => exact (by skip; exact Kd.N_F (Kd.N_mono (ok' := (fun k_ => ((fun k_ => (P0_ k_ ∨ w.heap.size ≤ k_))) k_ ∧ some k_ ≠ (u9 : Value).ownBlock)) (HO_10.out) (fun k_ hk => ⟨hk.1, hk.2⟩)))); (case aB => exact (by repeat (first | (with_reducible first | exact HB.out | apply below_alloc | apply pw_below_drewN | apply below_drew1) | exact HB.out))); (case aF => exact (fun k_ hk => (.inr (Nat.le_trans (below_size (by repeat (first | (with_reducible first | exact HB.out | apply below_alloc | apply pw_below_drewN | apply below_drew1) | exact HB.out))) hk)))); (case aO => exact (by (with_reducible repeat (first | apply Kd.N_alloc | apply Kd.N_drewN | apply Kd.N_drew)); exact Kd.N_mono HO_9.out (fun _ hk => hk.1))); (case aS => exact (below_size (by repeat (first | (with_reducible first | exact HB.out | apply below_alloc | apply pw_below_drewN | apply below_drew1) | exact HB.out)))); (case aL => have := LMc21.out; omega); intro v225 w111 ho hb hg hat; rw [← Ny224.out] at ho; have n0_ := Aside0.mk (Kd.V_afterv (ok := (fun k_ => (P0_ k_ ∨ w.heap.size ≤ k_) ∧ some k_ ≠ (.slice Ao112 x10_1.length co112 : Value).ownBlock)) (by (with_reducible repeat (first | apply Kd.V_alloc | apply Kd.V_drewN | apply Kd.V_drew)); exact Kd.V_mono HO_0.out (fun _ hk => ⟨⟨hk.1, hk.2.2⟩, hk.2.1⟩)) hg hat); have n1_ := Aside0.mk (Kd.N_afterv (ok := (fun k_ => (P0_ k_ ∨ w.heap.size ≤ k_))) (by (with_reducible repeat (first | apply Kd.N_alloc | apply Kd.N_drewN | apply Kd.N_drew)); exact HO_10.out) hg hat); have n2_ := Aside0.mk (hb); have n3_ := Aside0.mk (ho); clear HO_0; clear HO_10; clear HB; clear HO_9; have HO_0 := n0_; have HO_10 := n1_; have HB := n2_; have HO226 := n3_; clear n0_ n1_ n2_ n3_; clear ho hb hg hat; obtain ⟨Ao113, co113, eo113⟩ := Kd.N_slice HO226.out; subst eo113) | (have t_52 := tk52; clear tk52; clear t_52; (with_reducible refine gate_callee (f := 18) rfl ?_); refine goesL_ (some 68) rfl rfl Tryd.func18 (by kernel_rfl) rfl #[.slice Ao113 y224.length co113, .string a1, .int .i64 a2, .string a3] rfl (by (try simp only [List.map_toArray, List.map_cons, List.map_nil]); first | done | rfl | (simp only [List.length_drop, List.length_take]; rfl)) ?_; (with_reducible refine (acl_Admits.calls _ _ y224 a1 a2 a3 t227 _ ?side1 ?side2 (Glob.below HGl.out (by repeat (first | (with_reducible first | exact HB.out | apply below_alloc | apply pw_below_drewN | apply below_drew1) | exact HB.out))) A22.out).mono ?_); (case side1 => repeat (first | exact (Kd.N_reads' HO226.out).2.2 | (with_reducible refine Kd.C_alloc ?_ _) | (with_reducible refine Kd.C_drewN ?_ _) | (with_reducible refine Kd.C_drew ?_))); (case side2 => exact (Kd.N_reads' HO226.out).2.1); rintro e w114 ⟨rfl, hb⟩; refine ⟨_, rfl, ?_⟩; have n0_ := Aside0.mk (Kd.V_below (by (with_reducible repeat (first | apply Kd.V_alloc | apply Kd.V_drewN | apply Kd.V_drew)); exact HO_0.out) hb); have n1_ := Aside0.mk (Kd.N_below (by (with_reducible repeat (first | apply Kd.N_alloc | apply Kd.N_drewN | apply Kd.N_drew)); exact HO_10.out) hb); have n2_ := Aside0.mk (Kd.N_below (by (with_reducible repeat (first | apply Kd.N_alloc | apply Kd.N_drewN | apply Kd.N_drew)); exact HO226.out) hb); have n3_ := Aside0.mk (below_step (by repeat (first | (with_reducible first | exact HB.out | apply below_alloc | apply pw_below_drewN | apply below_drew1) | exact HB.out)) hb); clear HO_0; clear HO_10; clear HO226; clear HB; have HO_0 := n0_; have HO_10 := n1_; have HO226 := n2_; have HB := n3_; clear n0_ n1_ n2_ n3_; (try clear hb); (try clear hb2); (try clear hk); (try clear hi)))
              go_ret
              exact ⟨by first | rfl | (simp [errW_none, errW_some] <;> rfl) | (simp [*, errW_none, errW_some] <;> rfl), by repeat (first | (with_reducible first | exact HB.out | apply below_alloc | apply pw_below_drewN | apply below_drew1) | exact HB.out)⟩
        · rw [if_neg c21] at H
          exact absurd H (by simp)

end Go.Proofs.YtjdlaofeenblkaaDoor.X

/- What acl.Matches and acl.Admits tell, as plain functions. -/
namespace Go.Proofs.YtjdlaofeenblkaaDoor.X
open Go.RowKit Go.Proofs.YtjdlaofeenblkaaDoorW.PrintWords Go.Proofs.YtjdlaofeenblkaaDoor.T
set_option linter.unusedSimpArgs false
set_option linter.unusedVariables false
def ofB (h host : ByteArray) : Bool := if h.toList = ([42] : List UInt8) then true else if Lib.hasPrefix h.data.toList [46] = true then Lib.hasSuffix host.data.toList h.data.toList && decide ((host.size : Int) > (h.size : Int)) else h.toList == host.toList
def matchB (h : ByteArray) (lo hi : Int) (ms : List ByteArray) (host : ByteArray) (port : Int) (m : ByteArray) : Bool := ofB h host && (decide (lo ≤ port) && (decide (port ≤ hi) && (decide (ms.length = 0) || Lib.containsS ms m)))
theorem of_eq (a : Bool) (h : ByteArray) (lo hi : Int) (ms : List ByteArray) (host : ByteArray) (hs : host.size ≤ 9223372036854775807) : acl_of.f a h lo hi ms host = some (ofB h host) := by
  unfold acl_of.f ofB
  by_cases h1 : h.toList = ([42] : List UInt8)
  · rw [if_pos h1, if_pos h1]
  · rw [if_neg h1, if_neg h1]
    unfold strings_HasPrefix.f strings_HasSuffix.f
    rw [if_pos hs]
    simp only [Option.bind_some]
    cases Lib.hasPrefix h.data.toList [46] <;> simp
    cases Lib.hasSuffix host.data.toList h.data.toList <;> simp
theorem matches_eq (a : Bool) (h : ByteArray) (lo hi : Int) (ms : List ByteArray) (host : ByteArray) (port : Int) (m : ByteArray) (hs : host.size ≤ 9223372036854775807) (hm : ms.length ≤ 9223372036854775807) :
    acl_Matches.f a h lo hi ms host port m = some (matchB h lo hi ms host port m) := by
  unfold acl_Matches.f matchB
  rw [of_eq a h lo hi ms host hs]
  unfold slices_Contains_string.f
  rw [if_pos hm]
  simp only [Option.bind_some]
  cases ofB h host <;> simp
  by_cases h1 : lo ≤ port <;> simp [h1]
  by_cases h2 : port ≤ hi <;> simp [h2]
  by_cases h3 : ms = [] <;> simp [h3]
def matchX (x : S25) (host : ByteArray) (port : Int) (m : ByteArray) : Bool := matchB x.f1 x.f2 x.f3 x.f4 host port m
def admitsB (host : ByteArray) (port : Int) (m : ByteArray) : List S25 → Bool
  | [] => false
  | x :: t => if matchX x host port m = true then x.f0 else admitsB host port m t
theorem admits_eq (host : ByteArray) (port : Int) (m : ByteArray) (hs : host.size ≤ 9223372036854775807) : ∀ (l : List S25), (∀ x ∈ l, x.f4.length ≤ 9223372036854775807) → admitsL host port m l = some (admitsB host port m l)
  | [], _ => rfl
  | x :: t, h => by
    show (matchF x host port m).bind (fun b => if b = true then some x.f0 else admitsL host port m t) = some (if matchX x host port m = true then x.f0 else admitsB host port m t)
    have hx : matchF x host port m = some (matchX x host port m) := matches_eq _ _ _ _ _ _ _ _ hs (h x (List.mem_cons_self ..))
    rw [hx, admits_eq host port m hs t (fun y hy => h y (List.mem_cons_of_mem _ hy))]
    simp only [Option.bind_some]
    by_cases e : matchX x host port m = true
    · rw [if_pos e, if_pos e]
    · rw [if_neg e, if_neg e]
theorem toList_app (a b : ByteArray) : (a ++ b).data.toList = a.data.toList ++ b.data.toList := by simp
theorem size_app (a b : ByteArray) : (a ++ b).size = a.size + b.size := by simp
theorem toList_eq (a : ByteArray) : a.toList = a.data.toList := Lib.toList_data a
end Go.Proofs.YtjdlaofeenblkaaDoor.X

/- What a rule's host says; the chapter's rows: plain lemmas. -/
namespace Go.Proofs.YtjdlaofeenblkaaDoor.X
open Go.RowKit Go.Proofs.YtjdlaofeenblkaaDoorW.PrintWords Go.Proofs.YtjdlaofeenblkaaDoorW.PrintMore Go.Proofs.YtjdlaofeenblkaaDoor.T
set_option linter.unusedSimpArgs false
set_option linter.unusedVariables false
theorem wakes14 : tollhouselaw14_wakes.f = some true := by decide +kernel
theorem mx_ge (a b : Int) : b ≤ mx a b ∧ a ≤ mx a b := by unfold mx; split <;> omega
theorem mn_le (a b : Int) : mn a b ≤ b ∧ mn a b ≤ a := by unfold mn; split <;> omega
theorem wide_all (host : ByteArray) (port : Int) (m : ByteArray) : matchB ⟨#[42]⟩ 1 65535 [] host port m = (decide (1 ≤ port) && decide (port ≤ 65535)) := by
  have h : ofB ⟨#[42]⟩ host = true := by unfold ofB; rw [if_pos (by decide +kernel)]
  unfold matchB
  rw [h]
  simp
theorem match_parts {h : ByteArray} {lo hi : Int} {ms : List ByteArray} {host : ByteArray} {port : Int} {m : ByteArray} (hm : matchB h lo hi ms host port m = true) : ofB h host = true ∧ lo ≤ port ∧ port ≤ hi ∧ (decide (ms.length = 0) || Lib.containsS ms m) = true := by
  unfold matchB at hm
  simp only [Bool.and_eq_true, decide_eq_true_eq] at hm
  exact ⟨hm.1, hm.2.1, hm.2.2.1, hm.2.2.2⟩
theorem match_of (h : ByteArray) {lo hi : Int} {ms : List ByteArray} (host : ByteArray) {port : Int} {m : ByteArray} (h2 : lo ≤ port) (h3 : port ≤ hi) (h4 : (decide (ms.length = 0) || Lib.containsS ms m) = true) : matchB h lo hi ms host port m = ofB h host := by
  unfold matchB
  rw [h4, decide_eq_true h2, decide_eq_true h3]
  simp
theorem x_front (a : ByteArray) : ((⟨#[120]⟩ : ByteArray) ++ a).data.toList = 120 :: a.data.toList := by rw [toList_app]; rfl
theorem x_back (a : ByteArray) : (a ++ (⟨#[120]⟩ : ByteArray)).data.toList = a.data.toList ++ [120] := by rw [toList_app]
theorem suffix_cons {c : UInt8} {l p : List UInt8} (h : Lib.hasSuffix l p = true) : Lib.hasSuffix (c :: l) p = true := by
  unfold Lib.hasSuffix at h ⊢
  rw [List.isSuffixOf_iff_suffix] at h ⊢
  exact h.trans (List.suffix_cons _ _)
theorem suffix_self (l : List UInt8) : Lib.hasSuffix l l = true := by
  unfold Lib.hasSuffix
  rw [List.isSuffixOf_iff_suffix]
  exact List.suffix_refl _
theorem dot_prefix (h : ByteArray) : Lib.hasPrefix h.data.toList [46] = (decide (0 < h.size) && bt h 0 == 46) := by
  have hl := size_toList h
  unfold Lib.hasPrefix bt
  by_cases hs : 0 < h.size
  · rw [dif_pos (by simpa using hs)]
    have he : h.data.toList = h[0] :: h.data.toList.tail := by
      cases hd : h.data.toList with
      | nil => rw [hd] at hl; simp at hl; omega
      | cons a t =>
        have : h[0] = h.data.toList[0]'(by rw [hl]; exact hs) := rfl
        simp [this, hd]
    rw [he, decide_eq_true hs]
    show ((46 : UInt8) == h[0] && ([] : List UInt8).isPrefixOf h.data.toList.tail) = _
    have e0 : ([] : List UInt8).isPrefixOf h.data.toList.tail = true := by cases h.data.toList.tail <;> rfl
    rw [e0, Bool.and_true, Bool.true_and, Bool.eq_iff_iff]
    simp only [beq_iff_eq]
    constructor
    · intro e; show ((h[0]).toNat : Int) = 46; rw [← e]; rfl
    · intro e
      have e2 : h[0].toNat = 46 := by have : ((h[0]).toNat : Int) = 46 := e; omega
      exact (UInt8.toNat_inj.1 (by rw [e2]; rfl)).symm
  · have : h.data.toList = [] := List.eq_nil_of_length_eq_zero (by omega)
    rw [this, decide_eq_false hs]
    rfl
/-- a rule of a host that begins with a point -/
theorem of_dot (h host : ByteArray) (hd : Lib.hasPrefix h.data.toList [46] = true) : ofB h host = (Lib.hasSuffix host.data.toList h.data.toList && decide ((host.size : Int) > (h.size : Int))) := by
  unfold ofB
  have : ¬ (h.toList = ([42] : List UInt8)) := by
    intro e
    rw [toList_eq] at e
    rw [e] at hd
    simp [Lib.hasPrefix] at hd
  rw [if_neg this, if_pos hd]
theorem of_plain (h host : ByteArray) (hd : Lib.hasPrefix h.data.toList [46] = false) : ofB h host = (h.toList == ([42] : List UInt8) || h.toList == host.toList) := by
  unfold ofB
  by_cases e : h.toList = ([42] : List UInt8)
  · rw [if_pos e, e]; rfl
  · have : (h.toList == ([42] : List UInt8)) = false := by simpa using e
    rw [if_neg e, hd, this]
    simp
end Go.Proofs.YtjdlaofeenblkaaDoor.X

/- What a list of rules admits: plain lemmas. -/
namespace Go.Proofs.YtjdlaofeenblkaaDoor.X
open Go.RowKit Go.Proofs.YtjdlaofeenblkaaDoorW.PrintWords Go.Proofs.YtjdlaofeenblkaaDoorW.PrintMore Go.Proofs.YtjdlaofeenblkaaDoor.T
set_option linter.unusedSimpArgs false
set_option linter.unusedVariables false
theorem adm_eq (host : ByteArray) (port : Int) (m : ByteArray) (hs : host.size ≤ 9223372036854775807) (l : List S25) (hl : l.length ≤ 9223372036854775807) (hx : ∀ x ∈ l, x.f4.length ≤ 9223372036854775807) :
    acl_Admits.f l host port m = some (admitsB host port m l) := by
  unfold acl_Admits.f
  rw [if_pos hl, admits_eq host port m hs l hx]
theorem admits_app (host : ByteArray) (port : Int) (m : ByteArray) (a b : List S25) : admitsB host port m (a ++ b) = if (a.any fun x => matchX x host port m) = true then admitsB host port m a else admitsB host port m b := by
  induction a with
  | nil => simp
  | cons x t ih =>
    simp only [List.cons_append, admitsB, List.any_cons]
    by_cases h : matchX x host port m = true
    · simp [h]
    · have h' : matchX x host port m = false := by simpa using h
      rw [if_neg h, ih]
      simp [h']
theorem admits_deny (host : ByteArray) (port : Int) (m : ByteArray) (a : List S25) (h : ∀ x ∈ a, x.f0 = false) : admitsB host port m a = false := by
  induction a with
  | nil => rfl
  | cons x t ih =>
    simp only [admitsB]
    rw [ih (fun y hy => h y (List.mem_cons_of_mem _ hy)), h x (List.mem_cons_self ..)]
    simp
theorem admits_allow (host : ByteArray) (port : Int) (m : ByteArray) (a : List S25) (h : ∀ x ∈ a, x.f0 = true) : admitsB host port m a = a.any fun x => matchX x host port m := by
  induction a with
  | nil => rfl
  | cons x t ih =>
    simp only [admitsB, List.any_cons]
    rw [ih (fun y hy => h y (List.mem_cons_of_mem _ hy)), h x (List.mem_cons_self ..)]
    cases matchX x host port m <;> simp
theorem admits_some (host : ByteArray) (port : Int) (m : ByteArray) (a : List S25) (h : admitsB host port m a = true) : ((a.filter fun x => x.f0).any fun x => matchX x host port m) = true := by
  induction a with
  | nil => cases h
  | cons x t ih =>
    simp only [admitsB] at h
    by_cases hm : matchX x host port m = true
    · rw [if_pos hm] at h
      simp [h, hm]
    · rw [if_neg hm] at h
      have := ih h
      simp only [List.filter_cons]
      split
      · simp only [List.any_cons, this, Bool.or_true]
      · exact this
theorem admits_open (host : ByteArray) (port : Int) (m : ByteArray) (a : List S25) (hd : ((a.filter fun x => !x.f0).any fun x => matchX x host port m) = false) : admitsB host port m a = (a.filter fun x => x.f0).any fun x => matchX x host port m := by
  induction a with
  | nil => rfl
  | cons x t ih =>
    simp only [admitsB]
    cases hf : x.f0 with
    | true =>
      have hd' : ((t.filter fun x => !x.f0).any fun x => matchX x host port m) = false := by simpa [hf] using hd
      rw [ih hd']
      simp only [List.filter_cons, hf, if_true, List.any_cons]
      cases matchX x host port m <;> simp
    | false =>
      simp only [List.filter_cons, hf, Bool.not_false, if_true, List.any_cons, Bool.or_eq_false_iff] at hd
      rw [ih hd.2, hd.1]
      simp [hf]
theorem filter_len {α : Type} (p : α → Bool) (l : List α) : (l.filter p).length + (l.filter fun x => !p x).length = l.length := by
  induction l with
  | nil => rfl
  | cons x t ih => simp only [List.filter_cons]; cases p x <;> simp <;> omega
theorem rd_mid (pre : List S25) (x : S25) (t : List S25) : rd_T25 (pre ++ x :: t) (pre.length : Int) = x := by
  unfold rd_T25
  rw [Int.toNat_natCast]
  simp [List.getD_eq_getElem?_getD]
end Go.Proofs.YtjdlaofeenblkaaDoor.X

/- AclDenies's plain law. -/
namespace Go.Proofs.YtjdlaofeenblkaaDoor.X
open Go.RowKit Go.Proofs.YtjdlaofeenblkaaDoorW.PrintWords Go.Proofs.YtjdlaofeenblkaaDoorW.PrintMore Go.Proofs.YtjdlaofeenblkaaDoor.T
set_option linter.unusedSimpArgs false
set_option linter.unusedVariables false
theorem deny_l0 (host : ByteArray) (port : Int) (m : ByteArray) (hs : host.size ≤ 1048576) (l : List S25) (hl : l.length ≤ 1048576) (hx : ∀ x ∈ l, x.f4.length ≤ 1048576) : ∀ (t pre : List S25), l = pre ++ t →
    tollhouselaw14_AclDenies.l0 (t.length + 1) l host port m (pre.filter fun x => !x.f0) (pre.filter fun x => x.f0) ((pre.filter fun x => !x.f0).any fun x => matchX x host port m) ((pre.filter fun x => x.f0).any fun x => matchX x host port m) (pre.length : Int) = some true
  | [], pre, h => by
    have e : l = pre := by rw [h, List.append_nil]
    subst e
    have hn := filter_len (fun x : S25 => x.f0) l
    show tollhouselaw14_AclDenies.l0 (0 + 1) l host port m _ _ _ _ _ = _
    simp only [tollhouselaw14_AclDenies.l0]
    rw [if_neg (by omega), if_pos (by omega)]
    rw [adm_eq host port m (by omega) _ (by rw [List.length_append]; omega) (fun x hx' => by
      rcases List.mem_append.1 hx' with h | h
      · exact Nat.le_trans (hx x (List.mem_filter.1 h).1) (by omega)
      · exact Nat.le_trans (hx x (List.mem_filter.1 h).1) (by omega)), adm_eq host port m (by omega) l (by omega) (fun x hx' => Nat.le_trans (hx x hx') (by omega)), wakes14]
    have fA : admitsB host port m ((l.filter fun x => !x.f0) ++ (l.filter fun x => x.f0)) = (((l.filter fun x => x.f0).any fun x => matchX x host port m) && !((l.filter fun x => !x.f0).any fun x => matchX x host port m)) := by
      rw [admits_app]
      rw [admits_deny host port m (l.filter fun x => !x.f0) (fun x hx' => by simpa using (List.mem_filter.1 hx').2), admits_allow host port m (l.filter fun x => x.f0) (fun x hx' => by simpa using (List.mem_filter.1 hx').2)]
      cases ((l.filter fun x => !x.f0).any fun x => matchX x host port m) <;> simp
    have f2 := admits_some host port m l
    have f3 := admits_open host port m l
    rw [fA]
    generalize ((l.filter fun x => !x.f0).any fun x => matchX x host port m) = d at f3 ⊢
    generalize ((l.filter fun x => x.f0).any fun x => matchX x host port m) = a at f2 f3 ⊢
    generalize admitsB host port m l = A at f2 f3 ⊢
    simp only [Option.bind_some]
    cases d <;> cases a <;> cases A <;> first | rfl | exact absurd (f2 rfl) (by decide) | exact absurd (f3 rfl) (by decide)
  | x :: t, pre, h => by
    have hlen : l.length = pre.length + (t.length + 1) := by rw [h]; simp
    have hp : pre.length ≤ 1048576 := by omega
    have hn := filter_len (fun x : S25 => x.f0) pre
    have hmx : matchX x host port m = matchX x host port m := rfl
    have hme : acl_Matches.f x.f0 x.f1 x.f2 x.f3 x.f4 host port m = some (matchX x host port m) := matches_eq _ _ _ _ _ _ _ _ (by omega) (Nat.le_trans (hx x (by rw [h]; simp)) (by omega))
    have hw : wrap64 ((pre.length : Int) + 1) = ((pre ++ [x]).length : Int) := by
      rw [List.length_append]
      unfold wrap64
      simp
      omega
    have ih := deny_l0 host port m hs l hl hx t (pre ++ [x]) (by rw [h]; simp)
    show tollhouselaw14_AclDenies.l0 ((t.length + 1) + 1) l host port m _ _ _ _ _ = _
    simp only [tollhouselaw14_AclDenies.l0]
    have hrd : rd_T25 l (pre.length : Int) = x := by rw [h]; exact rd_mid pre x t
    rw [if_pos (by omega), if_pos (by omega), hrd, hw]
    rw [hme]
    simp only [List.filter_append, List.any_append, List.filter_cons, List.filter_nil] at ih
    by_cases hf : x.f0 = true
    · rw [if_pos hf, if_pos (by omega)]
      rw [if_neg (by simp [hf]), if_pos hf] at ih
      simp only [List.any_cons, List.any_nil, Bool.or_false, List.append_nil] at ih
      simp only [Option.bind_some]
      by_cases ha : ((pre.filter fun x => x.f0).any fun x => matchX x host port m) = true
      · rw [if_pos ha]
        rw [ha, Bool.true_or] at ih
        exact ih
      · rw [if_neg ha]
        rw [Bool.eq_false_iff.2 ha, Bool.false_or] at ih
        exact ih
    · rw [if_neg hf, if_pos (by omega)]
      rw [if_pos (by simpa using hf), if_neg hf] at ih
      simp only [List.any_cons, List.any_nil, Bool.or_false, List.append_nil] at ih
      simp only [Option.bind_some]
      by_cases ha : ((pre.filter fun x => !x.f0).any fun x => matchX x host port m) = true
      · rw [if_pos ha]
        rw [ha, Bool.true_or] at ih
        exact ih
      · rw [if_neg ha]
        rw [Bool.eq_false_iff.2 ha, Bool.false_or] at ih
        exact ih
theorem AclDenies_pure (host : ByteArray) (port : Int) (m : ByteArray) (hs : host.size ≤ 1048576) (l : List S25) (hl : l.length ≤ 1048576) (hx : ∀ x ∈ l, x.f4.length ≤ 1048576) :
    tollhouselaw14_AclDenies.f (l.length + 1) l host port m = some true := deny_l0 host port m hs l hl hx l [] rfl
end Go.Proofs.YtjdlaofeenblkaaDoor.X

namespace Go.Proofs.YtjdlaofeenblkaaDoor.aclDenies
open Go.ChangeShapes Go.WideShapes Go.ChangeAt Go.RowKit Go.Proofs.YtjdlaofeenblkaaDoor Go.Proofs.YtjdlaofeenblkaaDoor.L Go.Proofs.YtjdlaofeenblkaaDoor.T Go.Proofs.YtjdlaofeenblkaaDoorW.PrintWords
set_option linter.unusedVariables false
set_option linter.unusedSimpArgs false
set_option maxRecDepth 100000
theorem own : ownKnob Tryd.prog.godebug = none := by kernel_rfl
theorem laidOut : laidOutB Tryd.prog = true := by kernel_rfl
/-- For every argument and every world that holds the listed variables. -/
theorem contract (H : Type) (enc : TypeId × Value → H) (W : World) (base : Nat) (args : Array Value) (ds gs : List (DataW H)) (before : List MemPlace)
    (hval : ∀ (j : Nat) t v, Tryd.f5.params[j]? = some t → args[j]? = some v → Value.okWide Tryd.prog W .any base t v)
    (hW : DataW.Whole enc Tryd.prog Tryd.f5.params.toList Rows.aclDeniesSpec.vars false W args.toList ds gs before) (B : Nat) (hB : B ≤ 1048576) (hk : Rows.uptoBulkAll (ds ++ gs) ≤ B) (hL : laidMetH Tryd.prog laidL W) (hS : W.ShapedOpen Tryd.prog) :
    Calls Tryd.prog 5 args W fun e W' => ∃ v, e = .returned v ∧ Rows.aclDeniesSpec.post enc Tryd.prog Tryd.f5 false true false false W args v W' := by
  have hG : Glob W := L.glob hL hS
  have hW' := hW
  obtain ⟨p, q, hA0, hV, rfl, hfz, hnd⟩ := hW
  have hA : DataW.TrodAll enc Tryd.prog W 0 (fun _ => true) true Tryd.f5.params.toList args.toList ds p := hA0
  rw [Tryd.params5] at hA hval
  obtain ⟨v0, vs0, d0, ds0, p0, q0, hargs, rfl, rfl, h0, r0⟩ := trodAll_cons hA
  obtain ⟨v1, vs1, d1, ds1, p1, q1, rfl, rfl, rfl, h1, r1⟩ := trodAll_cons r0
  obtain ⟨v2, vs2, d2, ds2, p2, q2, rfl, rfl, rfl, h2, r2⟩ := trodAll_cons r1
  obtain ⟨v3, vs3, d3, ds3, p3, q3, rfl, rfl, rfl, h3, r3⟩ := trodAll_cons r2
  obtain ⟨rfl, rfl, rfl⟩ := trodAll_nil r3
  obtain rfl : args = #[v0, v1, v2, v3] := by cases args; simp_all
  obtain ⟨rfl, rfl⟩ := trodVars_none hV
  clear hA0
  simp only [List.cons_append, List.nil_append, List.append_nil, Rows.uptoBulkAll] at hk
  have k0 := h0
  have lt0 : ∀ x ∈ p0, x.block < W.heap.size := by obtain ⟨m, hm⟩ := k0; exact DataW.trod_lt m _ _ _ hm
  obtain ⟨fu0, hf0⟩ := h0
  obtain ⟨a0, K0, G0⟩ := (X.opens_slice Tryd.underlying22 (by kernel_rfl) X.opens_rule) H enc W _ _ fu0 _ _ hf0
  replace G0 := G0 B (show Rows.uptoBulk d0 ≤ B by omega)
  have hv0 : Value.okWide Tryd.prog W .any base 22 v0 := hval 0 22 v0 (by simp only [List.getElem?_toArray, List.getElem?_cons_zero, List.getElem?_cons_succ]) (by simp only [List.getElem?_toArray, List.getElem?_cons_zero, List.getElem?_cons_succ])
  obtain ⟨ad0, len0, cap0, rfl⟩ := okWide_slice Tryd.underlying22 hv0
  obtain ⟨A0, c0, e0, l0, C0⟩ := K0
  injection (show [Value.slice ad0 len0 cap0] = [Value.slice A0 a0.length c0] from e0) with e0 _
  injection e0 with ea0 eb0 ec0; subst ea0 eb0 ec0
  have k1 := h1
  have lt1 : ∀ x ∈ p1, x.block < W.heap.size := by obtain ⟨m, hm⟩ := k1; exact DataW.trod_lt m _ _ _ hm
  obtain ⟨fu1, hf1⟩ := h1
  obtain ⟨a1, K1, G1⟩ := (X.opens_string Tryd.underlying9) H enc W _ _ fu1 _ _ hf1
  replace G1 := G1 B (show Rows.uptoBulk d1 ≤ B by omega)
  have hv1 : Value.okWide Tryd.prog W .any base 9 v1 := hval 1 9 v1 (by simp only [List.getElem?_toArray, List.getElem?_cons_zero, List.getElem?_cons_succ]) (by simp only [List.getElem?_toArray, List.getElem?_cons_zero, List.getElem?_cons_succ])
  obtain ⟨x1, rfl⟩ := okWide_string Tryd.underlying9 hv1
  obtain rfl : a1 = x1 := (show x1 = a1 by simpa [Kd.int, Kd.bool, Kd.string, Kd.scalar, Value.cells] using K1).symm
  have k2 := h2
  have lt2 : ∀ x ∈ p2, x.block < W.heap.size := by obtain ⟨m, hm⟩ := k2; exact DataW.trod_lt m _ _ _ hm
  obtain ⟨fu2, hf2⟩ := h2
  obtain ⟨a2, K2, G2⟩ := (X.opens_int Tryd.underlying3) H enc W _ _ fu2 _ _ hf2
  replace G2 := G2 B (show Rows.uptoBulk d2 ≤ B by omega)
  have hv2 : Value.okWide Tryd.prog W .any base 3 v2 := hval 2 3 v2 (by simp only [List.getElem?_toArray, List.getElem?_cons_zero, List.getElem?_cons_succ]) (by simp only [List.getElem?_toArray, List.getElem?_cons_zero, List.getElem?_cons_succ])
  obtain ⟨x2, rfl⟩ := okWide_int Tryd.underlying3 hv2
  obtain rfl : a2 = x2 := (show x2 = a2 by simpa [Kd.int, Kd.bool, Kd.string, Kd.scalar, Value.cells] using K2).symm
  have k3 := h3
  have lt3 : ∀ x ∈ p3, x.block < W.heap.size := by obtain ⟨m, hm⟩ := k3; exact DataW.trod_lt m _ _ _ hm
  obtain ⟨fu3, hf3⟩ := h3
  obtain ⟨a3, K3, G3⟩ := (X.opens_string Tryd.underlying9) H enc W _ _ fu3 _ _ hf3
  replace G3 := G3 B (show Rows.uptoBulk d3 ≤ B by omega)
  have hv3 : Value.okWide Tryd.prog W .any base 9 v3 := hval 3 9 v3 (by simp only [List.getElem?_toArray, List.getElem?_cons_zero, List.getElem?_cons_succ]) (by simp only [List.getElem?_toArray, List.getElem?_cons_zero, List.getElem?_cons_succ])
  obtain ⟨x3, rfl⟩ := okWide_string Tryd.underlying9 hv3
  obtain rfl : a3 = x3 := (show x3 = a3 by simpa [Kd.int, Kd.bool, Kd.string, Kd.scalar, Value.cells] using K3).symm
  have hp := X.AclDenies_pure a1 a2 a3 (by have := G1; unfold X.goodS at this; omega) a0 (Nat.le_trans G0.1 hB) (fun x hx => Nat.le_trans (G0.2 x hx).2.2.2.2.1 hB)
  refine (X.tollhouselaw14_AclDenies.calls _ _ _ _ _ _ _ _ _ _ (X.share_rule C0 l0) hG hp).mono ?_
  rintro e W' ⟨he, bel0⟩
  have bel : Below W.heap.size W W' := bel0
  subst he
  exact ⟨_, rfl, _, _, _, [], _, [], hW', trodAll_mk1 (shut_bool Tryd.underlying4 _), (trodAll_cons_mk (Below.trod laidOut (by kernel_rfl) (of_decide_eq_true (by kernel_rfl)) k0 bel lt0) (trodAll_cons_mk (Below.trod laidOut (by kernel_rfl) (of_decide_eq_true (by kernel_rfl)) k1 bel lt1) (trodAll_cons_mk (Below.trod laidOut (by kernel_rfl) (of_decide_eq_true (by kernel_rfl)) k2 bel lt2) (trodAll_cons_mk (Below.trod laidOut (by kernel_rfl) (of_decide_eq_true (by kernel_rfl)) k3 bel lt3) trodAll_mk0)))), rfl, bel.frame _, fun h => by cases h⟩
theorem reads (os : Os) {H : Type} (enc : TypeId × Value → H) : ∃ places, DataW.whole enc Tryd.prog ((laidWorld os).forCall (fun _ _ => 0) ⟨#[], #[.slice none 0 0, .string ByteArray.empty, .int .i64 0, .string ByteArray.empty], []⟩).memory Tryd.f5.params.toList Rows.aclDeniesSpec.vars false (#[.slice none 0 0, .string ByteArray.empty, .int .i64 0, .string ByteArray.empty] : Array Value).toList 8 = some ([.nil, .lit (.string []), .lit (.int .i64 0), .lit (.string [])], [], places) :=
  ⟨[], by kernel_rfl⟩
theorem liftedUpto (os : Os) (started : os.Started) (H : Type) (enc : TypeId × Value → H) (F : Stop.Interp) :
    ReturnsInHanded {} Tryd.checked os 5 .any ((Rows.OpenSpec.upto Rows.aclDeniesSpec).preRow enc Tryd.prog Tryd.f5 Rows.aclDeniesUptoRow.domain false Rows.aclDeniesUptoRow.laid) (((Rows.OpenSpec.upto Rows.aclDeniesSpec).at F).post enc Tryd.prog Tryd.f5 false true false false) := by
  obtain ⟨places, hx⟩ := reads os enc
  refine returnsInHanded_of_row (C := Tryd.checked) (s := Rows.OpenSpec.upto Rows.aclDeniesSpec) own started (by kernel_rfl) Tryd.func5
    (witness_row_atRef (enc := enc) (C := Tryd.checked) false (laidWorld os) #[.slice none 0 0, .string ByteArray.empty, .int .i64 0, .string ByteArray.empty] rfl (by kernel_rfl) (by kernel_rfl) (by kernel_rfl)
      (OpenSpec.preRow_of_cond 8 hx (by kernel_rfl) (fun k hk => by cases hk; kernel_rfl) (by kernel_rfl) (laid_met os _))) ?_
  intro W base args ds gs before hval hW _ hk _ hL hS _
  exact contract H enc W base args ds gs before hval hW 1048576 (Nat.le_refl _) (of_decide_eq_true (hk _ rfl)) hL hS
theorem saidUpto : Rows.AclDeniesUptoSaid :=
  OpenClaim.holds_of_cond 5 Tryd.f5 rfl rfl rfl rfl rfl rfl rfl ⟨rfl, rfl, rfl, rfl, rfl⟩ rfl rfl rfl rfl rfl (by kernel_rfl) Tryd.func5 (by kernel_rfl)
    (of_decide_eq_true (by kernel_rfl)) (by unfold Func.isWrapper; first | (rw [if_pos (by decide +kernel)]; kernel_rfl) | (rw [if_neg (by decide +kernel)]; exact ⟨rfl, rfl⟩))
    (fun os started H enc _ F => by rw [OpenClaim.pre_eq_preRow]; exact liftedUpto os started H enc F)
theorem plain (f : FuncId) (fn : Func) (hf : Tryd.pinned.checked.prog.funcNamed "tollhouse/tollhouselaw14.AclDenies" = some f) (hfn : Tryd.pinned.checked.prog.funcs[f]? = some fn) :
    true = Tryd.pinned.checked.prog.looks [] ∧ ∀ (j : Nat) t, fn.params[j]? = some t → Tryd.pinned.checked.prog.wantsStandIn t = false := by
  obtain rfl : f = 5 := Option.some.inj ((show Tryd.prog.funcNamed "tollhouse/tollhouselaw14.AclDenies" = some 5 by kernel_rfl).symm.trans hf) |>.symm
  obtain rfl : fn = Tryd.f5 := (Option.some.inj (Tryd.func5.symm.trans hfn)).symm
  refine ⟨by kernel_rfl, fun j t ht => ?_⟩
  rw [Tryd.params5] at ht
  have s22 : Tryd.prog.wantsStandIn 22 = false := by kernel_rfl
  have s9 : Tryd.prog.wantsStandIn 9 = false := by kernel_rfl
  have s3 : Tryd.prog.wantsStandIn 3 = false := by kernel_rfl
  have hm := Array.mem_of_getElem? ht
  simp only [List.mem_toArray, List.mem_cons, List.not_mem_nil, or_false] at hm
  rcases hm with rfl | rfl | rfl | rfl
  · exact s22
  · exact s9
  · exact s3
  · exact s9
/-- THE CARD OF THE BOUNDED FORM. -/
theorem cardUpto : Rows.AclDeniesUptoCardSaid :=
  Claim7.holds_tied_plain_at .later [] _ _ _ _ saidUpto (fun _ h => by cases h) (by kernel_rfl) (fun _ h => by cases h) aclDeniesUpto_row_tie rfl ⟨rfl, rfl⟩ (by kernel_rfl) rfl plain (by kernel_rfl)
#print axioms cardUpto
end Go.Proofs.YtjdlaofeenblkaaDoor.aclDenies
namespace Go.Proofs.YtjdlaofeenblkaaDoor
/-- The statement, under a short name. -/
theorem aclDenies_card : Rows.AclDeniesUptoCardSaid := aclDenies.cardUpto
end Go.Proofs.YtjdlaofeenblkaaDoor
