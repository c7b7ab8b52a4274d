/- slices.ContainsFunc on rules over this program. -/
import Derived.Test.YtjdlaofeenblkaaDoorHKit
import Derived.Test.YtjdlaofeenblkaaDoorStrs
namespace Go.Proofs.YtjdlaofeenblkaaDoor.X
open Go.RowKit Go.Proofs.YtjdlaofeenblkaaDoorW.PrintWords Go.Proofs.YtjdlaofeenblkaaDoor.T
set_option linter.unusedSimpArgs false
set_option linter.unusedVariables false
/-- a rule as it is handed over -/
def ruleV (x : S25) (A : Option Addr) (c : Nat) : Value := .agg #[.bool x.f0, .string x.f1, .int .i64 x.f2, .int .i64 x.f3, .slice A x.f4.length c]
/-- a function value that tells whether p holds of a rule -/
def PredR (g : Nat) (lb : Array Value) (p : S25 → Bool) (D : S25 → Prop) (w : World) : Prop :=
  ∀ (W : World) (x : S25) (A : Option Addr) (c : Nat), Below w.heap.size w W → D x → Kd.C Kd.string W A x.f4.length x.f4 → x.f4.length ≤ c → Calls Tryd.prog g (#[ruleV x A c] ++ lb) W fun e w' => e = .returned (.bool (p x)) ∧ Below W.heap.size W w'
/-- the rule at a place of a slice -/
theorem rule_at {w : World} {A : Option Addr} {n : Nat} {zs : List S25} (h : Kd.C k25 w A n zs) (hn : 0 < n) : ∃ b off, A = some ⟨b, off, none⟩ ∧ ∀ i, i < n → ∃ A1 c1, (zs.getD i z25).f4.length ≤ c1 ∧ Kd.C Kd.string w A1 (zs.getD i z25).f4.length (zs.getD i z25).f4 ∧
    w.cell? ⟨b, off + i * 5, none⟩ = some (.bool (zs.getD i z25).f0) ∧ w.cell? ⟨b, off + i * 5 + 1, none⟩ = some (.string (zs.getD i z25).f1) ∧ w.cell? ⟨b, off + i * 5 + 2, none⟩ = some (.int .i64 (zs.getD i z25).f2) ∧ w.cell? ⟨b, off + i * 5 + 3, none⟩ = some (.int .i64 (zs.getD i z25).f3) ∧ w.cell? ⟨b, off + i * 5 + 4, none⟩ = some (.slice A1 (zs.getD i z25).f4.length c1) := by
  obtain ⟨b, off, e, hc⟩ := C_cells z25 h hn (by decide)
  refine ⟨b, off, e, fun i hi => ?_⟩
  obtain ⟨c, _, hK, hcc⟩ := hc i hi
  obtain ⟨A1, c1, rfl, hl, hC⟩ := k25_open hK
  have hsz : k25.sz = 5 := rfl
  rw [hsz] at hcc
  exact ⟨A1, c1, hl, hC, by simpa using hcc 0 _ rfl, by simpa [Nat.add_assoc] using hcc 1 _ rfl, by simpa [Nat.add_assoc] using hcc 2 _ rfl, by simpa [Nat.add_assoc] using hcc 3 _ rfl, by simpa [Nat.add_assoc] using hcc 4 _ rfl⟩
theorem index_rule_none (A : Option Addr) (c : Nat) (fv : Value) (w : World) :
    Calls Tryd.prog 62 #[.slice A 0 c, fv] w fun e w' => e = .returned (.int .i64 (-1)) ∧ w' = w := by
  go_enter Tryd.func62, Tryd.ntmps62
  go_wp2
  go_loopg [5, 8] 0 (fun _ _ s8 wr => s8 = .int .i64 0 ∧ wr = w)
  case atStart => exact ⟨rfl, rfl⟩
  case round =>
    obtain ⟨rfl, rfl⟩ := hrel
    go_wp2
    go_ret
    exact ⟨rfl, rfl⟩
set_option maxHeartbeats 2000000 in
theorem index_rule (g : Nat) (lb : Array Value) (p : S25 → Bool) (D : S25 → Prop) (eg : ∀ args w, (callFunc g args).run Tryd.prog w = .ok (.enter g args) w) (A : Option Addr) (c : Nat) (zs : List S25) (w : World)
    (hp : PredR g lb p D w) (hD : ∀ x ∈ zs, D x) (hbig : zs.length ≤ 9223372036854775807) (hc : Kd.C k25 w A zs.length zs) :
    Calls Tryd.prog 62 #[.slice A zs.length c, .func (.func g) #[] lb] w fun e w' => e = .returned (.int .i64 (fidx p zs)) ∧ Below w.heap.size w w' := by
  rcases Nat.eq_zero_or_pos zs.length with h0 | h0
  · obtain rfl := List.eq_nil_of_length_eq_zero h0
    exact (index_rule_none A c _ w).mono fun e w' ⟨he, hw⟩ => ⟨he, below_same hw⟩
  obtain ⟨b, off, rfl, hcell⟩ := rule_at hc h0
  have HP := Lib.hid hp; clear hp
  have HD := Lib.hid hD; clear hD
  have HC := Lib.hid hcell; clear hcell hc
  generalize hn : zs.length = n at HC hbig h0
  have HN := Lib.hid hn; clear hn
  go_enter Tryd.func62, Tryd.ntmps62
  go_wp2
  go_loopg [5, 8] n (fun gg _ s8 wr => ∃ kk : Nat, kk ≤ n ∧ n - kk ≤ gg ∧ s8 = .int .i64 kk ∧ Aside (Below w.heap.size w wr) ∧ Aside (∀ j, j < kk → p (zs.getD j z25) = false))
  case atStart => exact ⟨0, Nat.zero_le _, by omega, rfl, Below.refl _ _, fun j hj => absurd hj (Nat.not_lt_zero _)⟩
  case round =>
    obtain ⟨kk, hkk, hg, rfl, HB0, AA⟩ := hrel
    have HB : Hid (Below w.heap.size w wr) := Lib.hid HB0.out
    clear HB0
    by_cases hlt : kk < n
    · have hltz : (kk : Int) < (n : Int) := by omega
      have hmem : zs.getD kk z25 ∈ zs := by
        have := HN.out
        rw [List.getD_eq_getElem?_getD, List.getElem?_eq_getElem (by omega)]
        exact List.getElem_mem _
      obtain ⟨A1, c1, hl1, hC1, e0, e1, e2, e3, e4⟩ := HC.out kk hlt
      have hdy := HD.out _ hmem
      clear hmem
      generalize hy : zs.getD kk z25 = y at e0 e1 e2 e3 e4 hl1 hC1 hdy
      have B : Hid (zs.getD kk z25 = y) := Lib.hid hy
      clear hy
      replace e0 := (HB.out.cell (World.block_lt_of_cell? w _ e0)).trans e0
      replace e1 := (HB.out.cell (World.block_lt_of_cell? w _ e1)).trans e1
      replace e2 := (HB.out.cell (World.block_lt_of_cell? w _ e2)).trans e2
      replace e3 := (HB.out.cell (World.block_lt_of_cell? w _ e3)).trans e3
      replace e4 := (HB.out.cell (World.block_lt_of_cell? w _ e4)).trans e4
      have hcall := HP.out wr y A1 c1 HB.out hdy (Kd.C_below hC1 HB.out) hl1
      clear hdy hC1 hl1
      unfold ruleV at hcall
      cases hq : p y with
      | true =>
        rw [hq] at hcall
        have HCALL := Lib.hid hcall; clear hcall
        have HQ := Lib.hid hq; clear hq
        go_wp2_with (go_at_fn g; refine (HCALL.out).mono ?_; rintro e w' ⟨rfl, hb⟩)
        go_ret
        exact ⟨ret_i64 (fidx_hit p z25 zs kk (by have := HN.out; omega) (by rw [B.out]; exact HQ.out) AA.out).symm, below_next HB.out hb⟩
      | false =>
        rw [hq] at hcall
        have HCALL := Lib.hid hcall; clear hcall
        have HQ := Lib.hid hq; clear hq
        go_wp2_with (go_at_fn g; refine (HCALL.out).mono ?_; rintro e w' ⟨rfl, hb⟩)
        go_roundg (n - (kk + 1))
        case measure => omega
        case rel =>
          refine ⟨kk + 1, by omega, by omega, by go_num, below_next HB.out hb, fun j hj => ?_⟩
          by_cases e : j = kk
          · subst e
            rw [B.out]; exact HQ.out
          · exact AA.out j (by omega)
    · have hltz : ¬ (kk : Int) < (n : Int) := by omega
      obtain rfl : kk = n := by omega
      go_wp2
      go_ret
      exact ⟨ret_i64 (fidx_miss p z25 zs (by have := HN.out; intro j hj; exact AA.out j (by omega))).symm, HB.out⟩
theorem contains_rule (g : Nat) (lb : Array Value) (p : S25 → Bool) (D : S25 → Prop) (eg : ∀ args w, (callFunc g args).run Tryd.prog w = .ok (.enter g args) w) (A : Option Addr) (c : Nat) (zs : List S25) (w : World)
    (hp : PredR g lb p D w) (hD : ∀ x ∈ zs, D x) (hbig : zs.length ≤ 9223372036854775807) (hc : Kd.C k25 w A zs.length zs) :
    Calls Tryd.prog 37 #[.slice A zs.length c, .func (.func g) #[] lb] w fun e w' => e = .returned (.bool (zs.any p)) ∧ Below w.heap.size w w' := by
  have H := Lib.hid (index_rule g lb p D eg A c zs w hp hD hbig hc)
  clear hp hD hbig hc
  go_enter Tryd.func37, Tryd.ntmps37
  go_wp2_with (go_at_call 62; refine H.out.mono ?_; rintro e w' ⟨rfl, hb⟩)
  go_ret
  exact ⟨ret_bool (fidx_any p zs), hb⟩
end Go.Proofs.YtjdlaofeenblkaaDoor.X
