/- A part of the proof of the law AuthConfigs: contracts of functions that it reaches, and plain lemmas. -/
import Derived.Test.YthmnhbalmglohaaGreatDoorMAuthConfigs4
import Derived.Maps.Own
import Derived.Maps.OwnOps
import Derived.Maps.Views
/- auth.Tenant in the print's form. -/
namespace Go.Proofs.YthmnhbalmglohaaGreatDoor.X
open Go.RowKit Go.Proofs.YthmnhbalmglohaaGreatDoorW.PrintWords Go.Proofs.YthmnhbalmglohaaGreatDoor.T
set_option linter.unusedSimpArgs false
set_option linter.unusedVariables false
/-- what 'in' leaves in 'may' -/
theorem in_any (B : Nat) (b : Bool) (n lo hi : Int) (W : World) (hc : W.cell? ⟨B, 0, none⟩ = some (.bool b)) (hf : W.frozen? ⟨B, 0, none⟩ = false) :
    Calls Tryz.prog 25 #[.int .i64 n, .int .i64 lo, .int .i64 hi, .pointer (some ⟨B, 0, none⟩)] W fun e w' => e = .returned (.tuple #[]) ∧ w' = W.setCell ⟨B, 0, none⟩ (.bool (b && (decide (lo ≤ n) && decide (n ≤ hi)))) := by
  cases b with
  | false =>
    go_enter Tryz.func25, Tryz.ntmps25
    go_wp2
    go_end0
    exact ⟨rfl, rfl⟩
  | true =>
    by_cases h1 : lo ≤ n
    · by_cases h2 : n ≤ hi
      · have e : (true && (decide (lo ≤ n) && decide (n ≤ hi))) = true := by rw [decide_eq_true h1, decide_eq_true h2]; rfl
        rw [e]
        go_enter Tryz.func25, Tryz.ntmps25
        go_wp2
        go_end0
        exact ⟨rfl, rfl⟩
      · have e : (true && (decide (lo ≤ n) && decide (n ≤ hi))) = false := by rw [decide_eq_true h1, decide_eq_false h2]; rfl
        rw [e]
        go_enter Tryz.func25, Tryz.ntmps25
        go_wp2
        go_end0
        exact ⟨rfl, rfl⟩
    · have e : (true && (decide (lo ≤ n) && decide (n ≤ hi))) = false := by rw [decide_eq_false h1]; rfl
      rw [e]
      go_enter Tryz.func25, Tryz.ntmps25
      go_wp2
      go_end0
      exact ⟨rfl, rfl⟩
theorem fn_in : ∀ args w, (callFunc 25 args).run Tryz.prog w = .ok (.enter 25 args) w := enters_of Tryz.func25 (by kernel_rfl) rfl
theorem below_setc {w : World} {W : World} {p : Addr} (h : Below w.heap.size w W) (u : Value) (hp : w.heap.size ≤ p.block) : Below w.heap.size w (W.setCell p u) := h.setCell hp u
/-- .. and that all else stays -/
theorem in_step (w : World) (T : Nat) (hT : w.heap.size ≤ T) (b b2 : Bool) (n lo hi : Int) (hb : b2 = (b && (decide (lo ≤ n) && decide (n ≤ hi)))) (x2 x3 x4 x5 x6 x7 x8 : Int) (M : Nat) (W : World) (hc : W.cell? ⟨M, 0, none⟩ = some (.bool b)) (hf : W.frozen? ⟨M, 0, none⟩ = false) (h2 : W.cell? ⟨T, 2, none⟩ = some (.int .i64 x2)) (h3 : W.cell? ⟨T, 3, none⟩ = some (.int .i64 x3)) (h4 : W.cell? ⟨T, 4, none⟩ = some (.int .i64 x4)) (h5 : W.cell? ⟨T, 5, none⟩ = some (.int .i64 x5)) (h6 : W.cell? ⟨T, 6, none⟩ = some (.int .i64 x6)) (h7 : W.cell? ⟨T, 7, none⟩ = some (.int .i64 x7)) (h8 : W.cell? ⟨T, 8, none⟩ = some (.int .i64 x8)) (hB : Below w.heap.size w W) (hTM : T < M) :
    Calls Tryz.prog 25 #[.int .i64 n, .int .i64 lo, .int .i64 hi, .pointer (some ⟨M, 0, none⟩)] W fun e w' => e = .returned (.tuple #[]) ∧ w'.cell? ⟨M, 0, none⟩ = some (.bool b2) ∧ w'.frozen? ⟨M, 0, none⟩ = false ∧ w'.cell? ⟨T, 2, none⟩ = some (.int .i64 x2) ∧ w'.cell? ⟨T, 3, none⟩ = some (.int .i64 x3) ∧ w'.cell? ⟨T, 4, none⟩ = some (.int .i64 x4) ∧ w'.cell? ⟨T, 5, none⟩ = some (.int .i64 x5) ∧ w'.cell? ⟨T, 6, none⟩ = some (.int .i64 x6) ∧ w'.cell? ⟨T, 7, none⟩ = some (.int .i64 x7) ∧ w'.cell? ⟨T, 8, none⟩ = some (.int .i64 x8) ∧ Below w.heap.size w w' := by
  refine (in_any M b n lo hi W hc hf).mono fun e w' ⟨he, hw⟩ => ?_
  subst hw
  rw [← hb]
  have other : ∀ j, (W.setCell ⟨M, 0, none⟩ (.bool b2)).cell? ⟨T, j, none⟩ = W.cell? ⟨T, j, none⟩ := fun j => World.cell?_setCell_other W _ _ _ (by intro e2; injection e2 with e3 _; omega)
  refine ⟨he, World.cell?_setCell_same W _ _ hc, by rw [World.frozen?_setCell]; exact hf, (other 2).trans h2, (other 3).trans h3, (other 4).trans h4, (other 5).trans h5, (other 6).trans h6, (other 7).trans h7, (other 8).trans h8, below_setc hB _ (by show w.heap.size ≤ M; omega)⟩
theorem alloc_cell {W : World} {p : Addr} {v : Value} (o : Obj) (h : W.cell? p = some v) : (W.alloc o).cell? p = some v := ((below_alc (Below.refl _ _) o).cell (World.block_lt_of_cell? W _ h)).trans h
theorem alloc_open (W : World) (v : Value) (t : TypeId) : (W.alloc (.cells #[v] t)).frozen? ⟨W.heap.size, 0, none⟩ = false := by go_simp
def rangesB (x2 x3 x4 x5 x6 x7 x8 : Int) (m : Bool) : Bool := (((((((m && (decide (0 ≤ x2) && decide (x2 ≤ 262144))) && (decide (0 ≤ x3) && decide (x3 ≤ 64))) && (decide (1 ≤ x4) && decide (x4 ≤ 16))) && (decide (1 ≤ x5) && decide (x5 ≤ 8))) && (decide (0 ≤ x6) && decide (x6 ≤ 16))) && (decide (1 ≤ x7) && decide (x7 ≤ 1000))) && (decide (1 ≤ x8) && decide (x8 ≤ 1000)))
/-- what auth.Tenant tells of a tenant -/
def tenantB (tok : ByteArray) (rules : List S46) (x2 x3 x4 x5 x6 x7 x8 : Int) : Bool := rangesB x2 x3 x4 x5 x6 x7 x8 (authMayB tok && allB rules)
def auth_Tenant.f (a0_0 : ByteArray) (l0_1 : List S46) (a0_2 a0_3 a0_4 a0_5 a0_6 a0_7 a0_8 : Int) : Option Bool := if a0_0.size ≤ 9223372036854775807 ∧ l0_1.all fitsR = true ∧ l0_1.length ≤ 9223372036854775807 then some (tenantB a0_0 l0_1 a0_2 a0_3 a0_4 a0_5 a0_6 a0_7 a0_8) else none
set_option maxHeartbeats 8000000 in
theorem auth_Tenant.calls (a0_0 : ByteArray) (A0_1 : Option Addr) (c0_1 : Nat) (l0_1 : List S46) (a0_2 a0_3 a0_4 a0_5 a0_6 a0_7 a0_8 : Int) (r : Bool) (w : World) (hr0_1 : Kd.C k46 w A0_1 l0_1.length l0_1) (hc0_1 : l0_1.length ≤ c0_1) (HGg : Glob w) (h : auth_Tenant.f a0_0 l0_1 a0_2 a0_3 a0_4 a0_5 a0_6 a0_7 a0_8 = some r) :
    Calls Tryz.prog 11 #[.agg #[.string a0_0, .slice A0_1 l0_1.length c0_1, .int .i64 a0_2, .int .i64 a0_3, .int .i64 a0_4, .int .i64 a0_5, .int .i64 a0_6, .int .i64 a0_7, .int .i64 a0_8]] w fun e w' => e = .returned (.bool r) ∧ Below w.heap.size w w' := by
  obtain ⟨⟨h1, h2, h3⟩, rfl⟩ := of_lim h
  have HM := Lib.hid (fun W => amay_any a0_0 W h1)
  have HA := Lib.hid (fun (W : World) (hb : Below w.heap.size w W) => acl_All.calls A0_1 c0_1 l0_1 (allB l0_1) W (Kd.C_below hr0_1 hb) hc0_1 (HGg.below hb) (by unfold acl_All.f; rw [if_pos ⟨h2, h3⟩]))
  have HR : Hid (tenantB a0_0 l0_1 a0_2 a0_3 a0_4 a0_5 a0_6 a0_7 a0_8 = rangesB a0_2 a0_3 a0_4 a0_5 a0_6 a0_7 a0_8 (authMayB a0_0 && allB l0_1)) := Lib.hid rfl
  have hlen : l0_1.length ≤ 9223372036854775807 := h3
  clear h hr0_1 HGg h1 h2 h3
  generalize l0_1.length = len at HA hlen hc0_1
  have eg := fn_in
  cases ha : authMayB a0_0 with
  | false =>
    rw [ha] at HM HR
    rw [Bool.false_and] at HR
    clear ha
    obtain ⟨m1, e1⟩ : ∃ x, x = (false && (decide (0 ≤ a0_2) && decide (a0_2 ≤ 262144))) := ⟨_, rfl⟩
    obtain ⟨m2, e2⟩ : ∃ x, x = (m1 && (decide (0 ≤ a0_3) && decide (a0_3 ≤ 64))) := ⟨_, rfl⟩
    obtain ⟨m3, e3⟩ : ∃ x, x = (m2 && (decide (1 ≤ a0_4) && decide (a0_4 ≤ 16))) := ⟨_, rfl⟩
    obtain ⟨m4, e4⟩ : ∃ x, x = (m3 && (decide (1 ≤ a0_5) && decide (a0_5 ≤ 8))) := ⟨_, rfl⟩
    obtain ⟨m5, e5⟩ : ∃ x, x = (m4 && (decide (0 ≤ a0_6) && decide (a0_6 ≤ 16))) := ⟨_, rfl⟩
    obtain ⟨m6, e6⟩ : ∃ x, x = (m5 && (decide (1 ≤ a0_7) && decide (a0_7 ≤ 1000))) := ⟨_, rfl⟩
    obtain ⟨m7, e7⟩ : ∃ x, x = (m6 && (decide (1 ≤ a0_8) && decide (a0_8 ≤ 1000))) := ⟨_, rfl⟩
    have HR2 : Hid (tenantB a0_0 l0_1 a0_2 a0_3 a0_4 a0_5 a0_6 a0_7 a0_8 = m7) := Lib.hid (by rw [HR.out]; unfold rangesB; rw [← e1, ← e2, ← e3, ← e4, ← e5, ← e6, ← e7])
    have H1 := Lib.hid (in_step w w.heap.size (Nat.le_refl _) false m1 a0_2 0 262144 e1 a0_2 a0_3 a0_4 a0_5 a0_6 a0_7 a0_8)
    have H2 := Lib.hid (in_step w w.heap.size (Nat.le_refl _) m1 m2 a0_3 0 64 e2 a0_2 a0_3 a0_4 a0_5 a0_6 a0_7 a0_8)
    have H3 := Lib.hid (in_step w w.heap.size (Nat.le_refl _) m2 m3 a0_4 1 16 e3 a0_2 a0_3 a0_4 a0_5 a0_6 a0_7 a0_8)
    have H4 := Lib.hid (in_step w w.heap.size (Nat.le_refl _) m3 m4 a0_5 1 8 e4 a0_2 a0_3 a0_4 a0_5 a0_6 a0_7 a0_8)
    have H5 := Lib.hid (in_step w w.heap.size (Nat.le_refl _) m4 m5 a0_6 0 16 e5 a0_2 a0_3 a0_4 a0_5 a0_6 a0_7 a0_8)
    have H6 := Lib.hid (in_step w w.heap.size (Nat.le_refl _) m5 m6 a0_7 1 1000 e6 a0_2 a0_3 a0_4 a0_5 a0_6 a0_7 a0_8)
    have H7 := Lib.hid (in_step w w.heap.size (Nat.le_refl _) m6 m7 a0_8 1 1000 e7 a0_2 a0_3 a0_4 a0_5 a0_6 a0_7 a0_8)
    clear e1 e2 e3 e4 e5 e6 e7 HR
    have tk1 : True := trivial
    have tk2 : True := trivial
    have tk3 : True := trivial
    have tk4 : True := trivial
    have tk5 : True := trivial
    have tk6 : True := trivial
    have tk7 : True := trivial
    go_enter Tryz.func11, Tryz.ntmps11
    go_wp2_with (first
      | (go_at_call 13; refine (HM.out _).mono ?_; rintro e w1 ⟨rfl, hb1⟩; have hT1a : w1.cell? ⟨w.heap.size, 1, none⟩ = some (.slice A0_1 len c0_1) := (hb1.cell (p := ⟨w.heap.size, 1, none⟩) (by simp)).trans (by go_simp); have hT2a : w1.cell? ⟨w.heap.size, 2, none⟩ = some (.int .i64 a0_2) := (hb1.cell (p := ⟨w.heap.size, 2, none⟩) (by simp)).trans (by go_simp); have hT3a : w1.cell? ⟨w.heap.size, 3, none⟩ = some (.int .i64 a0_3) := (hb1.cell (p := ⟨w.heap.size, 3, none⟩) (by simp)).trans (by go_simp); have hT4a : w1.cell? ⟨w.heap.size, 4, none⟩ = some (.int .i64 a0_4) := (hb1.cell (p := ⟨w.heap.size, 4, none⟩) (by simp)).trans (by go_simp); have hT5a : w1.cell? ⟨w.heap.size, 5, none⟩ = some (.int .i64 a0_5) := (hb1.cell (p := ⟨w.heap.size, 5, none⟩) (by simp)).trans (by go_simp); have hT6a : w1.cell? ⟨w.heap.size, 6, none⟩ = some (.int .i64 a0_6) := (hb1.cell (p := ⟨w.heap.size, 6, none⟩) (by simp)).trans (by go_simp); have hT7a : w1.cell? ⟨w.heap.size, 7, none⟩ = some (.int .i64 a0_7) := (hb1.cell (p := ⟨w.heap.size, 7, none⟩) (by simp)).trans (by go_simp); have hT8a : w1.cell? ⟨w.heap.size, 8, none⟩ = some (.int .i64 a0_8) := (hb1.cell (p := ⟨w.heap.size, 8, none⟩) (by simp)).trans (by go_simp); have HB1 := Lib.hid (below_next (below_alc (Below.refl _ _) _) hb1); clear hb1; have hTM : w.heap.size < w1.heap.size := World.block_lt_of_cell? _ _ hT2a; have hT2z := alloc_cell (.cells #[.bool false] 4) hT2a; have hT3z := alloc_cell (.cells #[.bool false] 4) hT3a; have hT4z := alloc_cell (.cells #[.bool false] 4) hT4a; have hT5z := alloc_cell (.cells #[.bool false] 4) hT5a; have hT6z := alloc_cell (.cells #[.bool false] 4) hT6a; have hT7z := alloc_cell (.cells #[.bool false] 4) hT7a; have hT8z := alloc_cell (.cells #[.bool false] 4) hT8a; have hMz := cell_box w1 (.bool false) 4; have hFz := alloc_open w1 (.bool false) 4; have HBz := Lib.hid (below_alc HB1.out (.cells #[.bool false] 4)))
      | (go_at_fn 25; have t_ := tk1; clear tk1; clear t_; refine (H1.out _ _ hMz hFz hT2z hT3z hT4z hT5z hT6z hT7z hT8z HBz.out hTM).mono ?_; (try clear hMz hFz hT2z hT3z hT4z hT5z hT6z hT7z hT8z HBz); rintro e wz ⟨rfl, hMz, hFz, hT2z, hT3z, hT4z, hT5z, hT6z, hT7z, hT8z, hbz⟩; have HBz := Lib.hid hbz; clear hbz)
      | (go_at_fn 25; have t_ := tk2; clear tk2; clear t_; refine (H2.out _ _ hMz hFz hT2z hT3z hT4z hT5z hT6z hT7z hT8z HBz.out hTM).mono ?_; (try clear hMz hFz hT2z hT3z hT4z hT5z hT6z hT7z hT8z HBz); rintro e wz ⟨rfl, hMz, hFz, hT2z, hT3z, hT4z, hT5z, hT6z, hT7z, hT8z, hbz⟩; have HBz := Lib.hid hbz; clear hbz)
      | (go_at_fn 25; have t_ := tk3; clear tk3; clear t_; refine (H3.out _ _ hMz hFz hT2z hT3z hT4z hT5z hT6z hT7z hT8z HBz.out hTM).mono ?_; (try clear hMz hFz hT2z hT3z hT4z hT5z hT6z hT7z hT8z HBz); rintro e wz ⟨rfl, hMz, hFz, hT2z, hT3z, hT4z, hT5z, hT6z, hT7z, hT8z, hbz⟩; have HBz := Lib.hid hbz; clear hbz)
      | (go_at_fn 25; have t_ := tk4; clear tk4; clear t_; refine (H4.out _ _ hMz hFz hT2z hT3z hT4z hT5z hT6z hT7z hT8z HBz.out hTM).mono ?_; (try clear hMz hFz hT2z hT3z hT4z hT5z hT6z hT7z hT8z HBz); rintro e wz ⟨rfl, hMz, hFz, hT2z, hT3z, hT4z, hT5z, hT6z, hT7z, hT8z, hbz⟩; have HBz := Lib.hid hbz; clear hbz)
      | (go_at_fn 25; have t_ := tk5; clear tk5; clear t_; refine (H5.out _ _ hMz hFz hT2z hT3z hT4z hT5z hT6z hT7z hT8z HBz.out hTM).mono ?_; (try clear hMz hFz hT2z hT3z hT4z hT5z hT6z hT7z hT8z HBz); rintro e wz ⟨rfl, hMz, hFz, hT2z, hT3z, hT4z, hT5z, hT6z, hT7z, hT8z, hbz⟩; have HBz := Lib.hid hbz; clear hbz)
      | (go_at_fn 25; have t_ := tk6; clear tk6; clear t_; refine (H6.out _ _ hMz hFz hT2z hT3z hT4z hT5z hT6z hT7z hT8z HBz.out hTM).mono ?_; (try clear hMz hFz hT2z hT3z hT4z hT5z hT6z hT7z hT8z HBz); rintro e wz ⟨rfl, hMz, hFz, hT2z, hT3z, hT4z, hT5z, hT6z, hT7z, hT8z, hbz⟩; have HBz := Lib.hid hbz; clear hbz)
      | (go_at_fn 25; have t_ := tk7; clear tk7; clear t_; refine (H7.out _ _ hMz hFz hT2z hT3z hT4z hT5z hT6z hT7z hT8z HBz.out hTM).mono ?_; (try clear hMz hFz hT2z hT3z hT4z hT5z hT6z hT7z hT8z HBz); rintro e wz ⟨rfl, hMz, hFz, hT2z, hT3z, hT4z, hT5z, hT6z, hT7z, hT8z, hbz⟩; have HBz := Lib.hid hbz; clear hbz))
    go_ret
    exact ⟨ret_bool HR2.out.symm, HBz.out⟩
  | true =>
    rw [ha] at HM HR
    rw [Bool.true_and] at HR
    clear ha
    generalize allB l0_1 = m at HA HR
    obtain ⟨m1, e1⟩ : ∃ x, x = (m && (decide (0 ≤ a0_2) && decide (a0_2 ≤ 262144))) := ⟨_, rfl⟩
    obtain ⟨m2, e2⟩ : ∃ x, x = (m1 && (decide (0 ≤ a0_3) && decide (a0_3 ≤ 64))) := ⟨_, rfl⟩
    obtain ⟨m3, e3⟩ : ∃ x, x = (m2 && (decide (1 ≤ a0_4) && decide (a0_4 ≤ 16))) := ⟨_, rfl⟩
    obtain ⟨m4, e4⟩ : ∃ x, x = (m3 && (decide (1 ≤ a0_5) && decide (a0_5 ≤ 8))) := ⟨_, rfl⟩
    obtain ⟨m5, e5⟩ : ∃ x, x = (m4 && (decide (0 ≤ a0_6) && decide (a0_6 ≤ 16))) := ⟨_, rfl⟩
    obtain ⟨m6, e6⟩ : ∃ x, x = (m5 && (decide (1 ≤ a0_7) && decide (a0_7 ≤ 1000))) := ⟨_, rfl⟩
    obtain ⟨m7, e7⟩ : ∃ x, x = (m6 && (decide (1 ≤ a0_8) && decide (a0_8 ≤ 1000))) := ⟨_, rfl⟩
    have HR2 : Hid (tenantB a0_0 l0_1 a0_2 a0_3 a0_4 a0_5 a0_6 a0_7 a0_8 = m7) := Lib.hid (by rw [HR.out]; unfold rangesB; rw [← e1, ← e2, ← e3, ← e4, ← e5, ← e6, ← e7])
    have H1 := Lib.hid (in_step w w.heap.size (Nat.le_refl _) m m1 a0_2 0 262144 e1 a0_2 a0_3 a0_4 a0_5 a0_6 a0_7 a0_8)
    have H2 := Lib.hid (in_step w w.heap.size (Nat.le_refl _) m1 m2 a0_3 0 64 e2 a0_2 a0_3 a0_4 a0_5 a0_6 a0_7 a0_8)
    have H3 := Lib.hid (in_step w w.heap.size (Nat.le_refl _) m2 m3 a0_4 1 16 e3 a0_2 a0_3 a0_4 a0_5 a0_6 a0_7 a0_8)
    have H4 := Lib.hid (in_step w w.heap.size (Nat.le_refl _) m3 m4 a0_5 1 8 e4 a0_2 a0_3 a0_4 a0_5 a0_6 a0_7 a0_8)
    have H5 := Lib.hid (in_step w w.heap.size (Nat.le_refl _) m4 m5 a0_6 0 16 e5 a0_2 a0_3 a0_4 a0_5 a0_6 a0_7 a0_8)
    have H6 := Lib.hid (in_step w w.heap.size (Nat.le_refl _) m5 m6 a0_7 1 1000 e6 a0_2 a0_3 a0_4 a0_5 a0_6 a0_7 a0_8)
    have H7 := Lib.hid (in_step w w.heap.size (Nat.le_refl _) m6 m7 a0_8 1 1000 e7 a0_2 a0_3 a0_4 a0_5 a0_6 a0_7 a0_8)
    clear e1 e2 e3 e4 e5 e6 e7 HR
    have tk1 : True := trivial
    have tk2 : True := trivial
    have tk3 : True := trivial
    have tk4 : True := trivial
    have tk5 : True := trivial
    have tk6 : True := trivial
    have tk7 : True := trivial
    go_enter Tryz.func11, Tryz.ntmps11
    go_wp2_with (first
      | (go_at_call 13; refine (HM.out _).mono ?_; rintro e w1 ⟨rfl, hb1⟩; have hT1a : w1.cell? ⟨w.heap.size, 1, none⟩ = some (.slice A0_1 len c0_1) := (hb1.cell (p := ⟨w.heap.size, 1, none⟩) (by simp)).trans (by go_simp); have hT2a : w1.cell? ⟨w.heap.size, 2, none⟩ = some (.int .i64 a0_2) := (hb1.cell (p := ⟨w.heap.size, 2, none⟩) (by simp)).trans (by go_simp); have hT3a : w1.cell? ⟨w.heap.size, 3, none⟩ = some (.int .i64 a0_3) := (hb1.cell (p := ⟨w.heap.size, 3, none⟩) (by simp)).trans (by go_simp); have hT4a : w1.cell? ⟨w.heap.size, 4, none⟩ = some (.int .i64 a0_4) := (hb1.cell (p := ⟨w.heap.size, 4, none⟩) (by simp)).trans (by go_simp); have hT5a : w1.cell? ⟨w.heap.size, 5, none⟩ = some (.int .i64 a0_5) := (hb1.cell (p := ⟨w.heap.size, 5, none⟩) (by simp)).trans (by go_simp); have hT6a : w1.cell? ⟨w.heap.size, 6, none⟩ = some (.int .i64 a0_6) := (hb1.cell (p := ⟨w.heap.size, 6, none⟩) (by simp)).trans (by go_simp); have hT7a : w1.cell? ⟨w.heap.size, 7, none⟩ = some (.int .i64 a0_7) := (hb1.cell (p := ⟨w.heap.size, 7, none⟩) (by simp)).trans (by go_simp); have hT8a : w1.cell? ⟨w.heap.size, 8, none⟩ = some (.int .i64 a0_8) := (hb1.cell (p := ⟨w.heap.size, 8, none⟩) (by simp)).trans (by go_simp); have HB1 := Lib.hid (below_next (below_alc (Below.refl _ _) _) hb1); clear hb1)
      | (go_at_call 24; refine (HA.out _ HB1.out).mono ?_; rintro e w2 ⟨rfl, hb2⟩; have hT1b := (hb2.cell (p := ⟨w.heap.size, 1, none⟩) (World.block_lt_of_cell? _ _ hT1a)).trans hT1a; have hT2b := (hb2.cell (p := ⟨w.heap.size, 2, none⟩) (World.block_lt_of_cell? _ _ hT2a)).trans hT2a; have hT3b := (hb2.cell (p := ⟨w.heap.size, 3, none⟩) (World.block_lt_of_cell? _ _ hT3a)).trans hT3a; have hT4b := (hb2.cell (p := ⟨w.heap.size, 4, none⟩) (World.block_lt_of_cell? _ _ hT4a)).trans hT4a; have hT5b := (hb2.cell (p := ⟨w.heap.size, 5, none⟩) (World.block_lt_of_cell? _ _ hT5a)).trans hT5a; have hT6b := (hb2.cell (p := ⟨w.heap.size, 6, none⟩) (World.block_lt_of_cell? _ _ hT6a)).trans hT6a; have hT7b := (hb2.cell (p := ⟨w.heap.size, 7, none⟩) (World.block_lt_of_cell? _ _ hT7a)).trans hT7a; have hT8b := (hb2.cell (p := ⟨w.heap.size, 8, none⟩) (World.block_lt_of_cell? _ _ hT8a)).trans hT8a; have HB2 := Lib.hid (below_next HB1.out hb2); clear hb2; have hTM : w.heap.size < w2.heap.size := World.block_lt_of_cell? _ _ hT2b; have hT2z := alloc_cell (.cells #[.bool m] 4) hT2b; have hT3z := alloc_cell (.cells #[.bool m] 4) hT3b; have hT4z := alloc_cell (.cells #[.bool m] 4) hT4b; have hT5z := alloc_cell (.cells #[.bool m] 4) hT5b; have hT6z := alloc_cell (.cells #[.bool m] 4) hT6b; have hT7z := alloc_cell (.cells #[.bool m] 4) hT7b; have hT8z := alloc_cell (.cells #[.bool m] 4) hT8b; have hMz := cell_box w2 (.bool m) 4; have hFz := alloc_open w2 (.bool m) 4; have HBz := Lib.hid (below_alc HB2.out (.cells #[.bool m] 4)))
      | (go_at_fn 25; have t_ := tk1; clear tk1; clear t_; refine (H1.out _ _ hMz hFz hT2z hT3z hT4z hT5z hT6z hT7z hT8z HBz.out hTM).mono ?_; (try clear hMz hFz hT2z hT3z hT4z hT5z hT6z hT7z hT8z HBz); rintro e wz ⟨rfl, hMz, hFz, hT2z, hT3z, hT4z, hT5z, hT6z, hT7z, hT8z, hbz⟩; have HBz := Lib.hid hbz; clear hbz)
      | (go_at_fn 25; have t_ := tk2; clear tk2; clear t_; refine (H2.out _ _ hMz hFz hT2z hT3z hT4z hT5z hT6z hT7z hT8z HBz.out hTM).mono ?_; (try clear hMz hFz hT2z hT3z hT4z hT5z hT6z hT7z hT8z HBz); rintro e wz ⟨rfl, hMz, hFz, hT2z, hT3z, hT4z, hT5z, hT6z, hT7z, hT8z, hbz⟩; have HBz := Lib.hid hbz; clear hbz)
      | (go_at_fn 25; have t_ := tk3; clear tk3; clear t_; refine (H3.out _ _ hMz hFz hT2z hT3z hT4z hT5z hT6z hT7z hT8z HBz.out hTM).mono ?_; (try clear hMz hFz hT2z hT3z hT4z hT5z hT6z hT7z hT8z HBz); rintro e wz ⟨rfl, hMz, hFz, hT2z, hT3z, hT4z, hT5z, hT6z, hT7z, hT8z, hbz⟩; have HBz := Lib.hid hbz; clear hbz)
      | (go_at_fn 25; have t_ := tk4; clear tk4; clear t_; refine (H4.out _ _ hMz hFz hT2z hT3z hT4z hT5z hT6z hT7z hT8z HBz.out hTM).mono ?_; (try clear hMz hFz hT2z hT3z hT4z hT5z hT6z hT7z hT8z HBz); rintro e wz ⟨rfl, hMz, hFz, hT2z, hT3z, hT4z, hT5z, hT6z, hT7z, hT8z, hbz⟩; have HBz := Lib.hid hbz; clear hbz)
      | (go_at_fn 25; have t_ := tk5; clear tk5; clear t_; refine (H5.out _ _ hMz hFz hT2z hT3z hT4z hT5z hT6z hT7z hT8z HBz.out hTM).mono ?_; (try clear hMz hFz hT2z hT3z hT4z hT5z hT6z hT7z hT8z HBz); rintro e wz ⟨rfl, hMz, hFz, hT2z, hT3z, hT4z, hT5z, hT6z, hT7z, hT8z, hbz⟩; have HBz := Lib.hid hbz; clear hbz)
      | (go_at_fn 25; have t_ := tk6; clear tk6; clear t_; refine (H6.out _ _ hMz hFz hT2z hT3z hT4z hT5z hT6z hT7z hT8z HBz.out hTM).mono ?_; (try clear hMz hFz hT2z hT3z hT4z hT5z hT6z hT7z hT8z HBz); rintro e wz ⟨rfl, hMz, hFz, hT2z, hT3z, hT4z, hT5z, hT6z, hT7z, hT8z, hbz⟩; have HBz := Lib.hid hbz; clear hbz)
      | (go_at_fn 25; have t_ := tk7; clear tk7; clear t_; refine (H7.out _ _ hMz hFz hT2z hT3z hT4z hT5z hT6z hT7z hT8z HBz.out hTM).mono ?_; (try clear hMz hFz hT2z hT3z hT4z hT5z hT6z hT7z hT8z HBz); rintro e wz ⟨rfl, hMz, hFz, hT2z, hT3z, hT4z, hT5z, hT6z, hT7z, hT8z, hbz⟩; have HBz := Lib.hid hbz; clear hbz))
    go_ret
    exact ⟨ret_bool HR2.out.symm, HBz.out⟩
end Go.Proofs.YthmnhbalmglohaaGreatDoor.X

/- auth.Config in the print's form. -/
namespace Go.Proofs.YthmnhbalmglohaaGreatDoor.X
open Go.RowKit Go.Maps Go.Proofs.YthmnhbalmglohaaGreatDoorW.PrintWords Go.Proofs.YthmnhbalmglohaaGreatDoor.T
set_option linter.unusedSimpArgs false
set_option linter.unusedVariables false
def tenantR (x : S27) : Bool := tenantB x.f0 x.f1 x.f2 x.f3 x.f4 x.f5 x.f6 x.f7 x.f8
def fitsT (x : S27) : Bool := decide (x.f0.size ≤ 281474976710656) && (x.f1.all fitsR && decide (x.f1.length ≤ 9223372036854775807))
theorem fitsT_f {x : S27} (h : fitsT x = true) : auth_Tenant.f x.f0 x.f1 x.f2 x.f3 x.f4 x.f5 x.f6 x.f7 x.f8 = some (tenantR x) := by
  unfold fitsT at h
  simp only [Bool.and_eq_true, decide_eq_true_eq] at h
  unfold auth_Tenant.f tenantR
  rw [if_pos ⟨by omega, h.2.1, h.2.2⟩]
/-- the tenant at a place of a slice -/
theorem tenant_at {w : World} {A : Option Addr} {n : Nat} {zs : List S27} (h : Kd.C k27 w A n zs) (hn : 0 < n) : ∃ b off, A = some ⟨b, off, none⟩ ∧ ∀ i, i < n → ∃ A1 c1, (zs.getD i z27).f1.length ≤ c1 ∧ Kd.C k46 w A1 (zs.getD i z27).f1.length (zs.getD i z27).f1 ∧
    w.cell? ⟨b, off + i * 9, none⟩ = some (.string (zs.getD i z27).f0) ∧ w.cell? ⟨b, off + i * 9 + 1, none⟩ = some (.slice A1 (zs.getD i z27).f1.length c1) ∧ w.cell? ⟨b, off + i * 9 + 2, none⟩ = some (.int .i64 (zs.getD i z27).f2) ∧ w.cell? ⟨b, off + i * 9 + 3, none⟩ = some (.int .i64 (zs.getD i z27).f3) ∧ w.cell? ⟨b, off + i * 9 + 4, none⟩ = some (.int .i64 (zs.getD i z27).f4) ∧ w.cell? ⟨b, off + i * 9 + 5, none⟩ = some (.int .i64 (zs.getD i z27).f5) ∧ w.cell? ⟨b, off + i * 9 + 6, none⟩ = some (.int .i64 (zs.getD i z27).f6) ∧ w.cell? ⟨b, off + i * 9 + 7, none⟩ = some (.int .i64 (zs.getD i z27).f7) ∧ w.cell? ⟨b, off + i * 9 + 8, none⟩ = some (.int .i64 (zs.getD i z27).f8) := by
  obtain ⟨b, off, e, hc⟩ := C_cells z27 h hn (by decide)
  refine ⟨b, off, e, fun i hi => ?_⟩
  obtain ⟨c, _, hK, hcc⟩ := hc i hi
  obtain ⟨A1, c1, rfl, hl, hC⟩ := k27_open hK
  have hsz : k27.sz = 9 := rfl
  rw [hsz] at hcc
  exact ⟨A1, c1, hl, hC, by simpa using hcc 0 _ rfl, by simpa [Nat.add_assoc] using hcc 1 _ rfl, by simpa [Nat.add_assoc] using hcc 2 _ rfl, by simpa [Nat.add_assoc] using hcc 3 _ rfl, by simpa [Nat.add_assoc] using hcc 4 _ rfl, by simpa [Nat.add_assoc] using hcc 5 _ rfl, by simpa [Nat.add_assoc] using hcc 6 _ rfl, by simpa [Nat.add_assoc] using hcc 7 _ rfl, by simpa [Nat.add_assoc] using hcc 8 _ rfl⟩
/-! ### the tokens that were met -/
def seenD (H : Type) (l : List ByteArray) : DataW H := l.foldl (fun D s => D.put (.string s.data.toList) (.lit (.int .i64 1))) (.map [])
theorem seenD_snoc (H : Type) (l : List ByteArray) (s : ByteArray) : seenD H (l ++ [s]) = (seenD H l).put (.string s.data.toList) (.lit (.int .i64 1)) := by unfold seenD; rw [List.foldl_append]; rfl
theorem foldl_isMap (H : Type) : ∀ (l : List ByteArray) (D : DataW H), IsMap D → IsMap (l.foldl (fun D s => D.put (.string s.data.toList) (.lit (.int .i64 1))) D)
  | [], D, h => h
  | s :: t, D, h => foldl_isMap H t _ (h.put _ _)
theorem seenD_isMap (H : Type) (l : List ByteArray) : IsMap (seenD H l) := foldl_isMap H l _ isMap_empty
def seenB (seen : List ByteArray) (s : ByteArray) : Bool := seen.any fun y => decide (s.data.toList = y.data.toList)
theorem foldl_at (H : Type) (s : ByteArray) : ∀ (l : List ByteArray) (D : DataW H), IsMap D → (l.foldl (fun D s => D.put (.string s.data.toList) (.lit (.int .i64 1))) D).atKey (.string s.data.toList) (.lit (.int .i64 0)) = if seenB l s = true then .lit (.int .i64 1) else D.atKey (.string s.data.toList) (.lit (.int .i64 0))
  | [], D, _ => rfl
  | x :: t, D, h => by
    rw [List.foldl_cons, foldl_at H s t _ (h.put _ _)]
    have hs : seenB (x :: t) s = (decide (s.data.toList = x.data.toList) || seenB t s) := rfl
    rw [hs]
    by_cases ht : seenB t s = true
    · rw [if_pos ht, ht, Bool.or_true, if_pos rfl]
    · rw [if_neg ht]
      by_cases e : s.data.toList = x.data.toList
      · rw [decide_eq_true e, Bool.true_or, if_pos rfl, e, atKey_put_same h (by simp [WideAt.IsKeyLit])]
      · rw [decide_eq_false e, Bool.false_or, if_neg ht, atKey_put_other (fun q => e (by injection q))]
theorem seenD_at (H : Type) (l : List ByteArray) (s : ByteArray) : (seenD H l).atKey (.string s.data.toList) (.lit (.int .i64 0)) = .lit (.int .i64 (if seenB l s = true then 1 else 0)) := by
  unfold seenD
  rw [foldl_at H s l _ isMap_empty]
  by_cases h : seenB l s = true
  · rw [if_pos h, if_pos h]
  · rw [if_neg h, if_neg h]; rfl
/-- no token twice, and each tenant may be -/
def goodTs (seen : List ByteArray) : List S27 → Bool
  | [] => true
  | t :: r => tenantR t && (!seenB seen t.f0 && goodTs (seen ++ [t.f0]) r)
def restB (n : Nat) (strangers timeout : Int) : Bool := (decide (1 ≤ n) && decide (n ≤ 8)) && (decide (0 ≤ strangers) && (decide (strangers ≤ 16) && (decide (1 ≤ timeout) && decide (timeout ≤ 1099511627776))))
theorem rb_t {n : Nat} {s t : Int} (h1 : (1 : Int) ≤ n) (h2 : (n : Int) ≤ 8) (h3 : 0 ≤ s) (h4 : s ≤ 16) (h5 : 1 ≤ t) : decide (t ≤ 1099511627776) = restB n s t := by
  unfold restB
  rw [decide_eq_true (show 1 ≤ n by omega), decide_eq_true (show n ≤ 8 by omega), decide_eq_true h3, decide_eq_true h4, decide_eq_true h5]
  simp
theorem rb_f {n : Nat} {s t : Int} (h : (1 : Int) ≤ n → (n : Int) ≤ 8 → 0 ≤ s → s ≤ 16 → 1 ≤ t → False) : false = restB n s t := by
  cases hb : restB n s t with
  | false => rfl
  | true =>
    unfold restB at hb
    simp only [Bool.and_eq_true, decide_eq_true_eq] at hb
    exact (h (by omega) (by omega) hb.2.1 hb.2.2.1 hb.2.2.2.1).elim
def configB (ts : List S27) (strangers timeout : Int) : Bool := goodTs [] ts && restB ts.length strangers timeout
def auth_Config.f (l0_0 : List S27) (a0_1 a0_2 : Int) : Option Bool := if l0_0.all fitsT = true ∧ l0_0.length ≤ 4294967296 then some (configB l0_0 a0_1 a0_2) else none
theorem wpList_lookup_own_int_g {H : Type} {P : Program} (w : World) {ops : Array Oper} {rest : List Oper} {o : Oper} {a : Act} {Q : Exit → Act → World → Prop}
    (hg : Region.wanted o (yielded ops a.tmps) = true) (m x : Operand) (t : TypeId) (hop : o.op = Op.lookup t m x false)
    (k e : TypeId) (q : IntKind) (K : Keyed P k) (ht : P.underlying t = some (.map k e)) (he : P.underlying e = some (.int q)) (hz : (zeroValue e).run P w = .ok (.int q 0) w) (b n : Nat) (D : DataW H)
    (hm : a.eval m = .map (some b)) (hown : w.ownsMap P k (plainElem P e) b n D) (key : Value) (kl : Lit) (hx : a.eval x = key) (hkey : keyOf P k key = some kl)
    (hK : ∀ c : Int, D.atKey kl (.lit (.int q 0)) = .lit (.int q c) → (Lit.int q c).wf = true → wpList P ops Q rest (a.put o.dst (.int q c)) w) :
    wpList P ops Q (o :: rest) a w := by
  refine wpList_step fun K' hK' => ?_
  rw [if_pos hg]
  obtain ⟨c, hrun, hat, hwc⟩ := hown.lookup_int K ht he hz hkey
  unfold Oper.wp
  simp [execOp, hop, hm, hx, hrun, Result.andThen]
  exact hK' _ _ (hK c hat hwc)
theorem owns_below {H : Type} {P : Program} {k : TypeId} {R : Value → Option (DataW H × List MemPlace)} {b n : Nat} {D : DataW H} {W W1 : World} (h : W.ownsMap P k R b n D) (hb : Below W.heap.size W W1) : W1.ownsMap P k R b n D := by
  have hlt := h.lt
  obtain ⟨es, clock, h1, F, hs, rfl⟩ := h
  exact ⟨es, clock, (hb.block b hlt).trans h1, F, hs, rfl⟩
theorem keyedS : Keyed Tryz.prog 9 := string_keyed Tryz.underlying9
theorem zeroInt (w : World) : (zeroValue 3).run Tryz.prog w = .ok (.int .i64 0) w := by kernel_rfl
theorem good_drop {seen : List ByteArray} {ts : List S27} {k : Nat} (hk : k < ts.length) : goodTs seen (ts.drop k) = (tenantR (ts.getD k z27) && (!seenB seen (ts.getD k z27).f0 && goodTs (seen ++ [(ts.getD k z27).f0]) (ts.drop (k + 1)))) := by
  rw [List.drop_eq_getElem_cons hk, List.getD_eq_getElem?_getD, List.getElem?_eq_getElem hk]
  rfl
set_option maxRecDepth 100000 in
set_option maxHeartbeats 8000000 in
theorem auth_Config.calls (A0_0 : Option Addr) (c0_0 : Nat) (l0_0 : List S27) (a0_1 : Int) (a0_2 : Int) (r : Bool) (w : World) (hr0_0 : Kd.C k27 w A0_0 l0_0.length l0_0) (hc0_0 : l0_0.length ≤ c0_0) (HGg : Glob w) (h : auth_Config.f l0_0 a0_1 a0_2 = some r) :
    Calls Tryz.prog 9 #[.agg #[.slice A0_0 l0_0.length c0_0, .int .i64 a0_1, .int .i64 a0_2]] w fun e w' => e = .returned (.bool r) ∧ Below w.heap.size w w' := by
  obtain ⟨⟨hfit, hlen⟩, rfl⟩ := of_lim h
  have HC := Lib.hid (fun h0 => tenant_at hr0_0 h0)
  have HF := Lib.hid (fun x (hx : x ∈ l0_0) => List.all_eq_true.1 hfit x hx)
  have HG := Lib.hid HGg
  have HV : Hid (configB l0_0 a0_1 a0_2 = (goodTs [] (l0_0.drop 0) && restB l0_0.length a0_1 a0_2)) := Lib.hid rfl
  clear hr0_0 HGg h hfit
  generalize hn : l0_0.length = n at HC hlen hc0_0 HV
  have HN := Lib.hid hn; clear hn
  have hmm := @run_makeMap Tryz.prog
  generalize hcb : (Obj.cells #[.slice A0_0 n c0_0, .int .i64 a0_1, .int .i64 a0_2] 24) = cbox
  have HO0 := Lib.hid (World.ownsMap_made (H := Unit) (w.alloc cbox) Tryz.prog 9 (plainElem Tryz.prog 3))
  have HB1 : Hid (Below w.heap.size w (w.alloc cbox)) := Lib.hid (below_alc (Below.refl _ _) _)
  have hwc : (w.alloc cbox).heap.size = w.heap.size + 1 := by simp
  subst hcb
  go_enter Tryz.func9, Tryz.ntmps9
  go_wp2
  go_loopg [5, 11] n (fun gg _ s11 wr => ∃ kk : Nat, kk ≤ n ∧ n - kk ≤ gg ∧ s11 = .int .i64 kk ∧ Aside (Below (w.heap.size + 1) (w.alloc (.cells #[.slice A0_0 n c0_0, .int .i64 a0_1, .int .i64 a0_2] 24)) wr) ∧ Aside (∃ seen, wr.ownsMap Tryz.prog 9 (plainElem Tryz.prog 3) (w.heap.size + 1) kk (seenD Unit seen) ∧ goodTs [] (l0_0.drop 0) = goodTs seen (l0_0.drop kk)))
  case atStart => exact ⟨0, Nat.zero_le _, by omega, rfl, (Below.refl _ _).alloc (by rw [hwc]; exact Nat.le_refl _) _, [], (by have q := HO0.out; rw [hwc] at q; exact q), rfl⟩
  case round =>
    obtain ⟨kk, hkk, hg, rfl, HB0, HS0⟩ := hrel
    have HB : Hid (Below (w.heap.size + 1) (w.alloc (.cells #[.slice A0_0 n c0_0, .int .i64 a0_1, .int .i64 a0_2] 24)) wr) := Lib.hid HB0.out
    obtain ⟨seen, hown, hgood⟩ := HS0.out
    clear HB0 HS0 HO0
    have hwsz : w.heap.size + 2 ≤ wr.heap.size := by
      obtain ⟨es, clock, hb, _⟩ := hown
      exact (Array.getElem?_eq_some_iff.1 hb).1
    have HBw := Lib.hid (below_next HB1.out (HB.out.mono (by omega)))
    by_cases hlt : kk < n
    · have hltz : (kk : Int) < (n : Int) := by omega
      obtain ⟨b, off, rfl, hcell⟩ := HC.out (by omega)
      obtain ⟨A1, c1, hl1, hC1, e0, e1, e2, e3, e4, e5, e6, e7, e8⟩ := hcell kk hlt
      clear hcell
      have hfy := HF.out (l0_0.getD kk z27) (by
        rw [List.getD_eq_getElem?_getD, List.getElem?_eq_getElem (by rw [HN.out]; exact hlt)]
        exact List.getElem_mem _)
      rw [good_drop (seen := seen) (k := kk) (by rw [HN.out]; exact hlt)] at hgood
      generalize hy : l0_0.getD kk z27 = y at e0 e1 e2 e3 e4 e5 e6 e7 e8 hl1 hC1 hfy hgood
      clear hy
      replace e0 := (HBw.out.cell (World.block_lt_of_cell? w _ e0)).trans e0
      replace e1 := (HBw.out.cell (World.block_lt_of_cell? w _ e1)).trans e1
      replace e2 := (HBw.out.cell (World.block_lt_of_cell? w _ e2)).trans e2
      replace e3 := (HBw.out.cell (World.block_lt_of_cell? w _ e3)).trans e3
      replace e4 := (HBw.out.cell (World.block_lt_of_cell? w _ e4)).trans e4
      replace e5 := (HBw.out.cell (World.block_lt_of_cell? w _ e5)).trans e5
      replace e6 := (HBw.out.cell (World.block_lt_of_cell? w _ e6)).trans e6
      replace e7 := (HBw.out.cell (World.block_lt_of_cell? w _ e7)).trans e7
      replace e8 := (HBw.out.cell (World.block_lt_of_cell? w _ e8)).trans e8
      have hkl : y.f0.size ≤ maxLen := by
        unfold fitsT at hfy
        simp only [Bool.and_eq_true, decide_eq_true_eq] at hfy
        unfold maxLen; omega
      have HK := Lib.hid (WideMaps.keyOf_string_mk (P := Tryz.prog) (k := 9) Tryz.underlying9 hkl)
      have HM := Lib.hid (fun (W : World) (h1 : Below wr.heap.size wr W) => auth_Tenant.calls y.f0 A1 c1 y.f1 y.f2 y.f3 y.f4 y.f5 y.f6 y.f7 y.f8 (tenantR y) W (Kd.C_below (Kd.C_below hC1 HBw.out) h1) hl1 ((HG.out.below HBw.out).below h1) (fitsT_f hfy))
      have HO := Lib.hid hown
      have HD := Lib.hid hgood
      have HAT := Lib.hid (seenD_at Unit seen y.f0)
      clear hC1 hl1 hfy hgood hown hkl
      cases htr : tenantR y with
      | false =>
        rw [htr, Bool.false_and] at HD
        rw [htr] at HM
        clear htr
        go_wp2_with (go_at_call 11; refine (HM.out _ (by first | exact below_alc (Below.refl _ _) _ | exact Below.refl _ _)).mono ?_; rintro e w1 ⟨rfl, hb1⟩)
        (try rw [Exit.noGoto_ret])
        go_ret
        exact ⟨ret_bool (by rw [HV.out, HD.out]; rfl), below_next HBw.out (below_next (by first | exact below_alc (Below.refl _ _) _ | exact Below.refl _ _) hb1)⟩
      | true =>
        rw [htr, Bool.true_and] at HD
        rw [htr] at HM
        clear htr
        cases hse : seenB seen y.f0 with
        | true =>
          rw [hse] at HD HAT
          clear hse
          go_wp2_with (first
            | (go_at_call 11; refine (HM.out _ (by first | exact below_alc (Below.refl _ _) _ | exact Below.refl _ _)).mono ?_; rintro e w1 ⟨rfl, hb1⟩; have hb10 : w1.cell? ⟨wr.heap.size, 0, none⟩ = some (.string y.f0) := (hb1.cell (p := ⟨wr.heap.size, 0, none⟩) (by simp)).trans (by go_simp); have HO1 := Lib.hid (owns_below (owns_below HO.out (below_alc (Below.refl _ _) _)) hb1))
            | (at_lookup; refine wpList_lookup_own_int_g _ (by rfl) _ _ 52 rfl 9 3 .i64 keyedS Tryz.underlying52 Tryz.underlying3 (zeroInt _) (w.heap.size + 1) _ _ rfl HO1.out _ _ rfl HK.out ?_; intro c hat hwf_; clear hwf_; obtain rfl : c = 1 := (by have q := hat.symm.trans HAT.out; injection q with q; injection q)))
          (try rw [Exit.noGoto_ret])
          go_ret
          exact ⟨ret_bool (by rw [HV.out, HD.out]; rfl), below_next HBw.out (below_next (by first | exact below_alc (Below.refl _ _) _ | exact Below.refl _ _) hb1)⟩
        | false =>
          rw [hse, Bool.not_false, Bool.true_and] at HD
          rw [hse] at HAT
          clear hse
          go_wp2_with (first
            | (go_at_call 11; refine (HM.out _ (by first | exact below_alc (Below.refl _ _) _ | exact Below.refl _ _)).mono ?_; rintro e w1 ⟨rfl, hb1⟩; have hb10 : w1.cell? ⟨wr.heap.size, 0, none⟩ = some (.string y.f0) := (hb1.cell (p := ⟨wr.heap.size, 0, none⟩) (by simp)).trans (by go_simp); have HO1 := Lib.hid (owns_below (owns_below HO.out (below_alc (Below.refl _ _) _)) hb1); have HBz := Lib.hid (below_next (below_alc (Below.refl _ _) _) hb1); clear hb1)
            | (at_lookup; refine wpList_lookup_own_int_g _ (by rfl) _ _ 52 rfl 9 3 .i64 keyedS Tryz.underlying52 Tryz.underlying3 (zeroInt _) (w.heap.size + 1) _ _ rfl HO1.out _ _ rfl HK.out ?_; intro c hat hwf_; clear hwf_; obtain rfl : c = 0 := (by have q := hat.symm.trans HAT.out; injection q with q; injection q))
            | (at_mapUpdate; refine wpList_mapUpdate_own _ rfl _ _ _ 52 rfl 9 3 keyedS Tryz.underlying52 _ (w.heap.size + 1) _ _ rfl HO1.out (by unfold maxLen; omega) _ _ _ rfl rfl HK.out _ [] (plainElem_int Tryz.underlying3 (by decide)) ?_; intro w2 hown2 hg2; have HO2 := Lib.hid hown2; have HB2 := Lib.hid (Below.grown (HB.out.trans (HBz.out.mono (by omega))) hg2 (by have q := HBz.out.size; omega) (fun j hj => by cases hj; exact Nat.le_refl _)); clear hown2 hg2 HO1 HO))
          go_roundg (n - (kk + 1))
          case measure => omega
          case rel => exact ⟨kk + 1, by omega, by omega, by go_num, HB2.out, seen ++ [y.f0], by rw [seenD_snoc]; exact HO2.out, HD.out⟩
    · have hltz : ¬ (kk : Int) < (n : Int) := by omega
      obtain rfl : kk = n := by omega
      have HV2 : Hid (configB l0_0 a0_1 a0_2 = restB kk a0_1 a0_2) := Lib.hid (by
        rw [HV.out, hgood, List.drop_of_length_le (by rw [HN.out]; exact Nat.le_refl _)]
        rfl)
      clear hgood hown HV
      have hcb : ∀ j, wr.cell? ⟨w.heap.size, j, none⟩ = (w.alloc (.cells #[.slice A0_0 kk c0_0, .int .i64 a0_1, .int .i64 a0_2] 24)).cell? ⟨w.heap.size, j, none⟩ := fun j => HB.out.cell (p := ⟨w.heap.size, j, none⟩) (by simp)
      have hc0 : wr.cell? ⟨w.heap.size, 0, none⟩ = some (.slice A0_0 kk c0_0) := (hcb 0).trans (by go_simp)
      have hc1 : wr.cell? ⟨w.heap.size, 1, none⟩ = some (.int .i64 a0_1) := (hcb 1).trans (by go_simp)
      have hc2 : wr.cell? ⟨w.heap.size, 2, none⟩ = some (.int .i64 a0_2) := (hcb 2).trans (by go_simp)
      clear hcb
      have HE := Lib.hid (rfl : restB kk a0_1 a0_2 = restB kk a0_1 a0_2)
      go_wp2
      all_goals ((try rw [Exit.noGoto_ret]); go_ret; refine ⟨ret_bool ?_, HBw.out⟩; rw [HV2.out])
      all_goals first | exact rb_t (by assumption) (by assumption) (by assumption) (by assumption) (by assumption) | exact rb_f (fun q1 q2 q3 q4 q5 => by omega)
end Go.Proofs.YthmnhbalmglohaaGreatDoor.X
