/- A part of the proof of the law AclRules: contracts of functions that it reaches, and plain lemmas. -/
import Derived.Test.YtjdlaofeenblkaaDoorMAclRules1
import Derived.Lib.ItoaMem
import Derived.BigCall
import Derived.BigGuard
import Derived.WideLaws
import Derived.Test.YtjdlaofeenblkaaDoorMAclRules2
/- slices.ContainsFunc on texts over this program. -/
namespace Go.Proofs.YtjdlaofeenblkaaDoor.T
open Go.RowKit
set_option linter.unusedSimpArgs false
set_option linter.unusedVariables false
/-- a function value that tells whether p holds of a text -/
def PredS (g : Nat) (lb : Array Value) (p : ByteArray → Bool) (D : ByteArray → Prop) (w : World) : Prop :=
  ∀ (W : World) (c : ByteArray), Below w.heap.size w W → D c → Calls Tryd.prog g (#[.string c] ++ lb) W fun e w' => e = .returned (.bool (p c)) ∧ Below W.heap.size W w'
theorem PredS.later {g : Nat} {lb : Array Value} {p : ByteArray → Bool} {D : ByteArray → Prop} {w W : World} (h : PredS g lb p D w) (hb : Below w.heap.size w W) : PredS g lb p D W := fun W1 c h1 hd => h W1 c (below_next hb h1) hd

set_option maxHeartbeats 1000000 in
theorem index_string (g : Nat) (lb : Array Value) (p : ByteArray → Bool) (D : ByteArray → Prop) (eg : ∀ args w, (callFunc g args).run Tryd.prog w = .ok (.enter g args) w) (b off n c : Nat) (zs : List ByteArray) (w : World)
    (hp : PredS g lb p D w) (hD : ∀ x ∈ zs, D x) (hn : zs.length = n) (hbig : n ≤ 9223372036854775807) (hc : ∀ j, j < n → w.cell? ⟨b, off + j, none⟩ = some (.string (zs.getD j ByteArray.empty))) :
    Calls Tryd.prog 55 #[.slice (some ⟨b, off, none⟩) n c, .func (.func g) #[] lb] w fun e w' => e = .returned (.int .i64 (fidx p zs)) ∧ Below w.heap.size w w' := by
  have HP := Lib.hid hp; clear hp
  have HD := Lib.hid hD; clear hD
  have HN := Lib.hid hn; clear hn
  have HC := Lib.hid hc; clear hc
  go_enter Tryd.func55, Tryd.ntmps55
  go_wp2
  go_loopg [5, 8] n (fun gg _ s8 wr => ∃ kk : Nat, kk ≤ n ∧ n - kk ≤ gg ∧ s8 = .int .i64 kk ∧ Aside (Below w.heap.size w wr) ∧ Aside (∀ j, j < kk → p (zs.getD j ByteArray.empty) = false))
  case atStart => exact ⟨0, Nat.zero_le _, by omega, rfl, Below.refl _ _, fun j hj => absurd hj (Nat.not_lt_zero _)⟩
  case round =>
    obtain ⟨kk, hkk, hg, rfl, HB0, A⟩ := hrel
    have HB : Hid (Below w.heap.size w wr) := Lib.hid HB0.out
    clear HB0
    by_cases hlt : kk < n
    · have hltz : (kk : Int) < (n : Int) := by omega
      have hcell0 := HC.out kk hlt
      have hcell : wr.cell? ⟨b, off + kk, none⟩ = some (.string (zs.getD kk ByteArray.empty)) := (HB.out.cell (World.block_lt_of_cell? w _ hcell0)).trans hcell0
      clear hcell0
      have hdy : D (zs.getD kk ByteArray.empty) := HD.out _ (by
        have := HN.out
        rw [List.getD_eq_getElem?_getD, List.getElem?_eq_getElem (by omega)]
        exact List.getElem_mem _)
      generalize hy : zs.getD kk ByteArray.empty = y at hcell hdy
      have B : Hid (zs.getD kk ByteArray.empty = y) := Lib.hid hy
      clear hy
      have hcall := fun W hb => HP.out W y hb hdy
      clear hdy
      cases hq : p y with
      | true =>
        rw [hq] at hcall
        have HCALL := Lib.hid hcall; clear hcall
        have HQ := Lib.hid hq; clear hq
        go_wp2_with (go_at_fn g; refine (HCALL.out _ HB.out).mono ?_; rintro e w' ⟨rfl, hb⟩)
        go_ret
        exact ⟨ret_i64 (fidx_hit p ByteArray.empty zs kk (by have := HN.out; omega) (by rw [B.out]; exact HQ.out) A.out).symm, below_next HB.out hb⟩
      | false =>
        rw [hq] at hcall
        have HCALL := Lib.hid hcall; clear hcall
        have HQ := Lib.hid hq; clear hq
        go_wp2_with (go_at_fn g; refine (HCALL.out _ HB.out).mono ?_; rintro e w' ⟨rfl, hb⟩)
        go_roundg (n - (kk + 1))
        case measure => omega
        case rel =>
          refine ⟨kk + 1, by omega, by omega, by go_num, below_next HB.out hb, fun j hj => ?_⟩
          by_cases e : j = kk
          · subst e
            rw [B.out]; exact HQ.out
          · exact A.out j (by omega)
    · have hltz : ¬ (kk : Int) < (n : Int) := by omega
      obtain rfl : kk = n := by omega
      go_wp2
      go_ret
      exact ⟨ret_i64 (fidx_miss p ByteArray.empty zs (by have := HN.out; intro j hj; exact A.out j (by omega))).symm, HB.out⟩

theorem contains_string (g : Nat) (lb : Array Value) (p : ByteArray → Bool) (D : ByteArray → Prop) (eg : ∀ args w, (callFunc g args).run Tryd.prog w = .ok (.enter g args) w) (b off n c : Nat) (zs : List ByteArray) (w : World)
    (hp : PredS g lb p D w) (hD : ∀ x ∈ zs, D x) (hn : zs.length = n) (hbig : n ≤ 9223372036854775807) (hc : ∀ j, j < n → w.cell? ⟨b, off + j, none⟩ = some (.string (zs.getD j ByteArray.empty))) :
    Calls Tryd.prog 32 #[.slice (some ⟨b, off, none⟩) n c, .func (.func g) #[] lb] w fun e w' => e = .returned (.bool (zs.any p)) ∧ Below w.heap.size w w' := by
  have H := Lib.hid (index_string g lb p D eg b off n c zs w hp hD hn hbig hc)
  clear hp hD hn hc
  go_enter Tryd.func32, Tryd.ntmps32
  go_wp2_with (go_at_call 55; refine H.out.mono ?_; rintro e w' ⟨rfl, hb⟩)
  go_ret
  exact ⟨ret_bool (fidx_any p zs), hb⟩


theorem index_string_none (A : Option Addr) (c : Nat) (fv : Value) (w : World) :
    Calls Tryd.prog 55 #[.slice A 0 c, fv] w fun e w' => e = .returned (.int .i64 (-1)) ∧ w' = w := by
  go_enter Tryd.func55, Tryd.ntmps55
  go_wp2
  go_loopg [5, 8] 0 (fun _ _ s8 wr => s8 = .int .i64 0 ∧ wr = w)
  case atStart => exact ⟨rfl, rfl⟩
  case round =>
    obtain ⟨rfl, rfl⟩ := hrel
    go_wp2
    go_ret
    exact ⟨rfl, rfl⟩
theorem contains_string_none (A : Option Addr) (c : Nat) (fv : Value) (w : World) :
    Calls Tryd.prog 32 #[.slice A 0 c, fv] w fun e w' => e = .returned (.bool false) ∧ w' = w := by
  go_enter Tryd.func32, Tryd.ntmps32
  go_wp2_with (go_at_call 55; refine (index_string_none _ _ _ _).mono ?_; rintro e w' ⟨rfl, rfl⟩)
  go_ret
  exact ⟨rfl, rfl⟩
/-- the same at whatever slice -/
theorem contains_string_any (g : Nat) (lb : Array Value) (p : ByteArray → Bool) (D : ByteArray → Prop) (eg : ∀ args w, (callFunc g args).run Tryd.prog w = .ok (.enter g args) w) (A : Option Addr) (c : Nat) (zs : List ByteArray) (w : World)
    (hp : PredS g lb p D w) (hD : ∀ x ∈ zs, D x) (hbig : zs.length ≤ 9223372036854775807) (hc : 0 < zs.length → ∃ b off, A = some ⟨b, off, none⟩ ∧ ∀ j, j < zs.length → w.cell? ⟨b, off + j, none⟩ = some (.string (zs.getD j ByteArray.empty))) :
    Calls Tryd.prog 32 #[.slice A zs.length c, .func (.func g) #[] lb] w fun e w' => e = .returned (.bool (zs.any p)) ∧ Below w.heap.size w w' := by
  rcases Nat.eq_zero_or_pos zs.length with h0 | h0
  · obtain rfl := List.eq_nil_of_length_eq_zero h0
    exact (contains_string_none A c _ w).mono fun e w' ⟨he, hw⟩ => ⟨he, by subst hw; exact Below.refl _ _⟩
  · obtain ⟨b, off, rfl, hc2⟩ := hc h0
    exact contains_string g lb p D eg b off zs.length c zs w hp hD rfl hbig hc2
end Go.Proofs.YtjdlaofeenblkaaDoor.T

/- slices.ContainsFunc on rules over this program. -/
namespace Go.Proofs.YtjdlaofeenblkaaDoor.X
open Go.RowKit Go.Proofs.YtjdlaofeenblkaaDoorW.PrintWords Go.Proofs.YtjdlaofeenblkaaDoor.T
set_option linter.unusedSimpArgs false
set_option linter.unusedVariables false
/-- a rule as it is handed over -/
def ruleV (x : S25) (A : Option Addr) (c : Nat) : Value := .agg #[.bool x.f0, .string x.f1, .int .i64 x.f2, .int .i64 x.f3, .slice A x.f4.length c]
/-- a function value that tells whether p holds of a rule -/
def PredR (g : Nat) (lb : Array Value) (p : S25 → Bool) (D : S25 → Prop) (w : World) : Prop :=
  ∀ (W : World) (x : S25) (A : Option Addr) (c : Nat), Below w.heap.size w W → D x → Kd.C Kd.string W A x.f4.length x.f4 → x.f4.length ≤ c → Calls Tryd.prog g (#[ruleV x A c] ++ lb) W fun e w' => e = .returned (.bool (p x)) ∧ Below W.heap.size W w'
/-- the rule at a place of a slice -/
theorem rule_at {w : World} {A : Option Addr} {n : Nat} {zs : List S25} (h : Kd.C k25 w A n zs) (hn : 0 < n) : ∃ b off, A = some ⟨b, off, none⟩ ∧ ∀ i, i < n → ∃ A1 c1, (zs.getD i z25).f4.length ≤ c1 ∧ Kd.C Kd.string w A1 (zs.getD i z25).f4.length (zs.getD i z25).f4 ∧
    w.cell? ⟨b, off + i * 5, none⟩ = some (.bool (zs.getD i z25).f0) ∧ w.cell? ⟨b, off + i * 5 + 1, none⟩ = some (.string (zs.getD i z25).f1) ∧ w.cell? ⟨b, off + i * 5 + 2, none⟩ = some (.int .i64 (zs.getD i z25).f2) ∧ w.cell? ⟨b, off + i * 5 + 3, none⟩ = some (.int .i64 (zs.getD i z25).f3) ∧ w.cell? ⟨b, off + i * 5 + 4, none⟩ = some (.slice A1 (zs.getD i z25).f4.length c1) := by
  obtain ⟨b, off, e, hc⟩ := C_cells z25 h hn (by decide)
  refine ⟨b, off, e, fun i hi => ?_⟩
  obtain ⟨c, _, hK, hcc⟩ := hc i hi
  obtain ⟨A1, c1, rfl, hl, hC⟩ := k25_open hK
  have hsz : k25.sz = 5 := rfl
  rw [hsz] at hcc
  exact ⟨A1, c1, hl, hC, by simpa using hcc 0 _ rfl, by simpa [Nat.add_assoc] using hcc 1 _ rfl, by simpa [Nat.add_assoc] using hcc 2 _ rfl, by simpa [Nat.add_assoc] using hcc 3 _ rfl, by simpa [Nat.add_assoc] using hcc 4 _ rfl⟩
theorem index_rule_none (A : Option Addr) (c : Nat) (fv : Value) (w : World) :
    Calls Tryd.prog 62 #[.slice A 0 c, fv] w fun e w' => e = .returned (.int .i64 (-1)) ∧ w' = w := by
  go_enter Tryd.func62, Tryd.ntmps62
  go_wp2
  go_loopg [5, 8] 0 (fun _ _ s8 wr => s8 = .int .i64 0 ∧ wr = w)
  case atStart => exact ⟨rfl, rfl⟩
  case round =>
    obtain ⟨rfl, rfl⟩ := hrel
    go_wp2
    go_ret
    exact ⟨rfl, rfl⟩
set_option maxHeartbeats 2000000 in
theorem index_rule (g : Nat) (lb : Array Value) (p : S25 → Bool) (D : S25 → Prop) (eg : ∀ args w, (callFunc g args).run Tryd.prog w = .ok (.enter g args) w) (A : Option Addr) (c : Nat) (zs : List S25) (w : World)
    (hp : PredR g lb p D w) (hD : ∀ x ∈ zs, D x) (hbig : zs.length ≤ 9223372036854775807) (hc : Kd.C k25 w A zs.length zs) :
    Calls Tryd.prog 62 #[.slice A zs.length c, .func (.func g) #[] lb] w fun e w' => e = .returned (.int .i64 (fidx p zs)) ∧ Below w.heap.size w w' := by
  rcases Nat.eq_zero_or_pos zs.length with h0 | h0
  · obtain rfl := List.eq_nil_of_length_eq_zero h0
    exact (index_rule_none A c _ w).mono fun e w' ⟨he, hw⟩ => ⟨he, below_same hw⟩
  obtain ⟨b, off, rfl, hcell⟩ := rule_at hc h0
  have HP := Lib.hid hp; clear hp
  have HD := Lib.hid hD; clear hD
  have HC := Lib.hid hcell; clear hcell hc
  generalize hn : zs.length = n at HC hbig h0
  have HN := Lib.hid hn; clear hn
  go_enter Tryd.func62, Tryd.ntmps62
  go_wp2
  go_loopg [5, 8] n (fun gg _ s8 wr => ∃ kk : Nat, kk ≤ n ∧ n - kk ≤ gg ∧ s8 = .int .i64 kk ∧ Aside (Below w.heap.size w wr) ∧ Aside (∀ j, j < kk → p (zs.getD j z25) = false))
  case atStart => exact ⟨0, Nat.zero_le _, by omega, rfl, Below.refl _ _, fun j hj => absurd hj (Nat.not_lt_zero _)⟩
  case round =>
    obtain ⟨kk, hkk, hg, rfl, HB0, AA⟩ := hrel
    have HB : Hid (Below w.heap.size w wr) := Lib.hid HB0.out
    clear HB0
    by_cases hlt : kk < n
    · have hltz : (kk : Int) < (n : Int) := by omega
      have hmem : zs.getD kk z25 ∈ zs := by
        have := HN.out
        rw [List.getD_eq_getElem?_getD, List.getElem?_eq_getElem (by omega)]
        exact List.getElem_mem _
      obtain ⟨A1, c1, hl1, hC1, e0, e1, e2, e3, e4⟩ := HC.out kk hlt
      have hdy := HD.out _ hmem
      clear hmem
      generalize hy : zs.getD kk z25 = y at e0 e1 e2 e3 e4 hl1 hC1 hdy
      have B : Hid (zs.getD kk z25 = y) := Lib.hid hy
      clear hy
      replace e0 := (HB.out.cell (World.block_lt_of_cell? w _ e0)).trans e0
      replace e1 := (HB.out.cell (World.block_lt_of_cell? w _ e1)).trans e1
      replace e2 := (HB.out.cell (World.block_lt_of_cell? w _ e2)).trans e2
      replace e3 := (HB.out.cell (World.block_lt_of_cell? w _ e3)).trans e3
      replace e4 := (HB.out.cell (World.block_lt_of_cell? w _ e4)).trans e4
      have hcall := HP.out wr y A1 c1 HB.out hdy (Kd.C_below hC1 HB.out) hl1
      clear hdy hC1 hl1
      unfold ruleV at hcall
      cases hq : p y with
      | true =>
        rw [hq] at hcall
        have HCALL := Lib.hid hcall; clear hcall
        have HQ := Lib.hid hq; clear hq
        go_wp2_with (go_at_fn g; refine (HCALL.out).mono ?_; rintro e w' ⟨rfl, hb⟩)
        go_ret
        exact ⟨ret_i64 (fidx_hit p z25 zs kk (by have := HN.out; omega) (by rw [B.out]; exact HQ.out) AA.out).symm, below_next HB.out hb⟩
      | false =>
        rw [hq] at hcall
        have HCALL := Lib.hid hcall; clear hcall
        have HQ := Lib.hid hq; clear hq
        go_wp2_with (go_at_fn g; refine (HCALL.out).mono ?_; rintro e w' ⟨rfl, hb⟩)
        go_roundg (n - (kk + 1))
        case measure => omega
        case rel =>
          refine ⟨kk + 1, by omega, by omega, by go_num, below_next HB.out hb, fun j hj => ?_⟩
          by_cases e : j = kk
          · subst e
            rw [B.out]; exact HQ.out
          · exact AA.out j (by omega)
    · have hltz : ¬ (kk : Int) < (n : Int) := by omega
      obtain rfl : kk = n := by omega
      go_wp2
      go_ret
      exact ⟨ret_i64 (fidx_miss p z25 zs (by have := HN.out; intro j hj; exact AA.out j (by omega))).symm, HB.out⟩
theorem contains_rule (g : Nat) (lb : Array Value) (p : S25 → Bool) (D : S25 → Prop) (eg : ∀ args w, (callFunc g args).run Tryd.prog w = .ok (.enter g args) w) (A : Option Addr) (c : Nat) (zs : List S25) (w : World)
    (hp : PredR g lb p D w) (hD : ∀ x ∈ zs, D x) (hbig : zs.length ≤ 9223372036854775807) (hc : Kd.C k25 w A zs.length zs) :
    Calls Tryd.prog 37 #[.slice A zs.length c, .func (.func g) #[] lb] w fun e w' => e = .returned (.bool (zs.any p)) ∧ Below w.heap.size w w' := by
  have H := Lib.hid (index_rule g lb p D eg A c zs w hp hD hbig hc)
  clear hp hD hbig hc
  go_enter Tryd.func37, Tryd.ntmps37
  go_wp2_with (go_at_call 62; refine H.out.mono ?_; rintro e w' ⟨rfl, hb⟩)
  go_ret
  exact ⟨ret_bool (fidx_any p zs), hb⟩
end Go.Proofs.YtjdlaofeenblkaaDoor.X

/- strconv.FormatUint at base 10, over this program; turned out of the kit's own proof for FormatInt. -/
namespace Go.Proofs.YtjdlaofeenblkaaDoor.T
open Go.RowKit Go.Sort Go.Lib
set_option linter.unusedVariables false
set_option maxHeartbeats 6400000 in
set_option maxRecDepth 100000 in
theorem formatUint_in (u : Nat) (hu64 : u < 18446744073709551616) (w : World)
    (htab : Lib.TabIs Tryd.prog w "internal/strconv.uint64pow10" .u64 Lib.pow10Tab) :
    Calls Tryd.prog 101 #[.int .u64 u, .int .i64 10] w fun e w' => e = .returned (.string ⟨(Lib.decDigits u).toArray⟩) ∧ ∃ k os, w' = grow (w.drewN k) os := by
  by_cases hs : u < 100
  · go_enter Tryd.func101, Tryd.ntmps101
    go_wp2_with (go_at_call 115; refine (Tryd.internal_strconv_small u hs _).mono ?_; rintro e w' ⟨rfl, rfl⟩)
    go_ret
    exact ⟨rfl, 0, #[], by simp [World.drewN_zero]⟩
  · have hu1 : 1 ≤ u := by omega
    have hnd20 : Lib.nDigits u ≤ 20 := by have := Lib.numDigits_eq u hu1 hu64; split at this <;> omega
    have hb3 : Lib.nDigits u ≤ 23 := by omega
    have hal : Tryd.prog.arrayLen 109 = 24 := by kernel_rfl
    have hsl1 : ∀ W, (Instr.sliceAt 109 (.pointer (some ⟨w.heap.size, 0, none⟩)) none (some (.int .i64 (Lib.nDigits u : Int))) none).run Tryd.prog W = .ok (.slice (some ⟨w.heap.size, 0, none⟩) (Lib.nDigits u) 24) W := fun W => by
      rw [run_sliceAt_array_h W 109 ⟨w.heap.size, 0, none⟩ (by simp [Program.arrayLen, Program.elem, Tryd.underlying109]) .i64 (Lib.nDigits u : Int) (by omega) (by rw [hal]; omega)]
      go_simp
    have hH0 : Holds (fun (b : UInt8) => Value.int .u8 (b.toNat : Int)) (w.alloc (.cells Lib.zeros24 109)) w.heap.size 0 (Array.replicate (Lib.nDigits u) 0) := fun j hj => by
      have hj' : j < Lib.nDigits u := by simpa using hj
      refine ⟨?_, World.frozen?_alloc_new _ _ _ _⟩
      rw [World.cell?_alloc_new, Lib.zeros24_at _ (by omega), getElem!_pos _ j hj]
      simp
    have hfmt := Tryd.internal_strconv_formatBase10 w.heap.size 0 24 u (Array.replicate (Lib.nDigits u) 0) (w.alloc (.cells Lib.zeros24 109)) hH0 (by rw [Array.size_replicate]; exact Lib.lt_pow_nDigits u) hu64 (by rw [Array.size_replicate]; omega)
    rw [Array.size_replicate] at hfmt
    have HH0 := Lib.hid hH0
    clear hH0 hal
    go_enter Tryd.func101, Tryd.ntmps101
    go_wp2_with (first
      | (go_at_call 116; refine (Tryd.internal_strconv_numDigits u hu1 hu64 _ (Lib.tabIs_alloc htab _)).mono ?_; rintro e w' ⟨rfl, rfl⟩))
    go_at_call 117
    refine hfmt.mono ?_
    rintro e w' ⟨rfl, k, v', dk, rfl, hF⟩
    have hcv : (convert 41 9 (.slice (some ⟨w.heap.size, 0, none⟩) (Lib.nDigits u) 24)).run Tryd.prog ((putRow (fun (b : UInt8) => Value.int .u8 (b.toNat : Int)) (w.alloc (.cells Lib.zeros24 109)) w.heap.size 0 dk).drewN k) = .ok (.string ⟨(Lib.decDigits u).toArray⟩) ((putRow (fun (b : UInt8) => Value.int .u8 (b.toNat : Int)) (w.alloc (.cells Lib.zeros24 109)) w.heap.size 0 dk).drewN k) := by
      have h := run_convert_bytes_back (P := Tryd.prog) ((putRow (fun (b : UInt8) => Value.int .u8 (b.toNat : Int)) (w.alloc (.cells Lib.zeros24 109)) w.heap.size 0 dk).drewN k) 41 9 5 ⟨w.heap.size, 0, none⟩ 24 (Lib.decDigits u) Tryd.underlying41 Tryd.underlying5 Tryd.underlying9 (fun j hj => by
        rw [Lib.row_is_numeral hF j hj, Lib.add_plain, World.cell?_drewN]
        exact cell?_putRow (fun (b : UInt8) => Value.int .u8 (b.toNat : Int)) _ w.heap.size 0 _ dk HH0.out (by rw [hF.size, Array.size_replicate]) j (by rw [hF.size]; rw [Lib.decDigits_length] at hj; exact hj))
      rw [Lib.decDigits_length] at h
      exact h
    go_wp2
    go_ret
    refine ⟨rfl, k, ?_⟩
    rw [alloc_eq_grow]
    obtain ⟨os', _, e⟩ := putRow_grow_new (fun (b : UInt8) => Value.int .u8 (b.toNat : Int)) w #[.cells Lib.zeros24 109] w.heap.size 0 dk (Nat.le_refl _)
    exact ⟨os', by rw [e]; rfl⟩
theorem formatUint_any (u : Nat) (hu64 : u < 18446744073709551616) (w : World)
    (htab : Lib.TabIs Tryd.prog w "internal/strconv.uint64pow10" .u64 Lib.pow10Tab) :
    Calls Tryd.prog 84 #[.int .u64 u, .int .i64 10] w fun e w' => e = .returned (.string ⟨(Lib.decDigits u).toArray⟩) ∧ ∃ k os, w' = grow (w.drewN k) os := by
  go_enter Tryd.func84, Tryd.ntmps84
  go_wp2_with (go_at_call 101; refine (formatUint_in u hu64 _ htab).mono ?_; rintro e w' ⟨rfl, k, os, rfl⟩)
  go_ret
  exact ⟨rfl, k, os, rfl⟩
end Go.Proofs.YtjdlaofeenblkaaDoor.T

/- uri.all over this program. -/
namespace Go.Proofs.YtjdlaofeenblkaaDoor.T
open Go.RowKit
set_option linter.unusedSimpArgs false
set_option linter.unusedVariables false
theorem uall_1 (g : Nat) (lb : Array Value) (p : UInt8 → Bool) (eg : ∀ args w, (callFunc g args).run Tryd.prog w = .ok (.enter g args) w) (B : Nat) (w : World)
    (hp : PredB g lb p w) (hB : B < w.heap.size) (hc : w.cell? ⟨B, 0, none⟩ = some (.func (.func g) #[] lb)) : PredB 78 #[.pointer (some ⟨B, 0, none⟩)] (fun c => !p c) w := by
  intro W c hb
  have hc' : W.cell? ⟨B, 0, none⟩ = some (.func (.func g) #[] lb) := (hb.cell (p := ⟨B, 0, none⟩) hB).trans hc
  clear hc
  have HP := Lib.hid (fun W1 h1 => hp W1 c (below_next hb h1)); clear hp hb
  cases hq : p c with
  | _ =>
    rw [hq] at HP
    have HQ := Lib.hid hq; clear hq
    go_enter Tryd.func78, Tryd.ntmps78
    go_wp2_with (go_at_fn g; refine (HP.out _ (Below.refl _ _)).mono ?_; rintro e w' ⟨rfl, hb1⟩)
    go_ret
    exact ⟨ret_bool (by rw [HQ.out]; rfl), hb1⟩

theorem uall_any (g : Nat) (lb : Array Value) (p : UInt8 → Bool) (eg : ∀ args w, (callFunc g args).run Tryd.prog w = .ok (.enter g args) w) (s : ByteArray) (w : World)
    (hp : PredB g lb p w) (hs : s.size ≤ 9223372036854775807) :
    Calls Tryd.prog 49 #[.string s, .func (.func g) #[] lb] w fun e w' => e = .returned (.bool (s.data.toList.all p)) ∧ Below w.heap.size w w' := by
  have hcv := fun w => Lib.run_convert_string_bytes (P := Tryd.prog) w 9 41 5 s Tryd.underlying9 Tryd.underlying41 Tryd.underlying5
  have e1 : ∀ args w, (callFunc 78 args).run Tryd.prog w = .ok (.enter 78 args) w := enters_of Tryd.func78 (by kernel_rfl) rfl
  have hb0 : Below w.heap.size w (w.alloc (.cells #[.func (.func g) #[] lb] 66)) := below_alc (Below.refl _ _) _
  have hp1 := uall_1 g lb p eg w.heap.size (w.alloc (.cells #[.func (.func g) #[] lb] 66)) (hp.later hb0) (by simp) (cell_box _ _ _)
  have hc := fun c => contains_conv _ _ _ e1 s _ _ (w.heap.size + 1) c (by simp) (Below.refl _ _) hp1 hs
  generalize hr : (s.data.toList.any fun c => !p c) = r at hc
  have HR := Lib.hid hr; clear hr
  have HC := Lib.hid hc; clear hc
  have HB := Lib.hid hb0
  clear hp hp1 hb0 e1
  go_enter Tryd.func49, Tryd.ntmps49
  go_wp2_with (go_at_call 77; refine (HC.out _).mono ?_; rintro e w' ⟨rfl, hb⟩)
  go_ret
  refine ⟨ret_bool ?_, below_next HB.out hb⟩
  rw [← HR.out, List.not_any_eq_all_not]
  simp
end Go.Proofs.YtjdlaofeenblkaaDoor.T

/- uri.Named over this program, and what it calls. -/
namespace Go.Proofs.YtjdlaofeenblkaaDoor.T
open Go.RowKit
set_option linter.unusedSimpArgs false
set_option linter.unusedVariables false

/-! ### a label that is a number from 0 to 255 -/
def octB (s : ByteArray) : Bool := match Lib.parseUintB 8 s.data.toList with | .ok n => s.data.toList == Lib.decDigits n | _ => false
theorem bytes_eq (s : ByteArray) (l : List UInt8) (h : s.data.toList = l) : s = ⟨l.toArray⟩ := by cases s; subst h; rfl
theorem parse8_ok (s : ByteArray) (hlim : s.size ≤ 281474976710656) (u : Nat) (h : Lib.parseUintB 8 s.data.toList = .ok u) (w : World) :
    Calls Tryd.prog 83 #[.string s, .int .i64 10, .int .i64 8] w fun e w' => e = .returned (.tuple #[.int .u64 u, .nilIface]) ∧ Below w.heap.size w w' := by
  refine (Tryd.strconv_ParseUint_10_at8_ok s (by omega) u h w).mono fun e w' ⟨he, hw⟩ => ⟨he, ?_⟩
  rcases hw with rfl | rfl
  · exact Below.refl _ _
  · exact below_bytes (Below.refl _ _) _ _
theorem parse8_no (s : ByteArray) (hlim : s.size ≤ 281474976710656) (h : ∀ u, Lib.parseUintB 8 s.data.toList ≠ .ok u) (w : World) (hg : Glob w) :
    Calls Tryd.prog 83 #[.string s, .int .i64 10, .int .i64 8] w fun e w' => ∃ (n : Int) (N : Nat), e = .returned (.tuple #[.int .u64 n, .iface 103 (.pointer (some ⟨N, 0, none⟩))]) ∧ Below w.heap.size w w' := by
  rcases hp : Lib.parseUintB 8 s.data.toList with u | _ | _
  · exact absurd hp (h u)
  · obtain ⟨tp, p, hv⟩ := hg.errSyntax
    exact (Any.strconv_ParseUint_10_at8_syntax_var Tryd.laysPu14 s hlim hp tp p w hv).mono fun e w' ⟨N, he, _, _, hb⟩ => ⟨0, N, he, hb⟩
  · obtain ⟨tp, p, hv⟩ := hg.errRange
    exact (Tryd.strconv_ParseUint_10_at8_range_var s hlim hp tp p w hv).mono fun e w' ⟨N, he, _, _, hb⟩ => ⟨255, N, he, hb⟩
theorem oct_some {s : ByteArray} {u : Nat} (h : Lib.parseUintB 8 s.data.toList = .ok u) : octB s = (s.data.toList == Lib.decDigits u) := by unfold octB; rw [h]
theorem oct_none {s : ByteArray} (h : ∀ u, Lib.parseUintB 8 s.data.toList ≠ .ok u) : octB s = false := by
  unfold octB
  cases hp : Lib.parseUintB 8 s.data.toList with
  | ok u => exact absurd hp (h u)
  | _ => rfl
theorem oct_1 (w : World) (hg : Glob w) : PredS 82 #[] (fun s => !octB s) (fun s => s.size ≤ 281474976710656) w := by
  intro W s hb hs
  have HG := Lib.hid (hg.below hb)
  clear hb hg
  by_cases hok : ∃ u, Lib.parseUintB 8 s.data.toList = .ok u
  · obtain ⟨u, hu⟩ := hok
    have HP := Lib.hid (parse8_ok s hs u hu)
    have HO := Lib.hid (oct_some hu)
    have hu64 : u < 18446744073709551616 := by have := Lib.parseUintB_le hu; omega
    clear hu
    go_enter Tryd.func82, Tryd.ntmps82
    go_wp2_with (first
      | (go_at_call 83; refine (HP.out _).mono ?_; rintro e w1 ⟨rfl, hb1⟩; have HB1 := Lib.hid hb1; clear hb1)
      | (go_at_call 84; refine (formatUint_any u hu64 _ ((HG.out.below HB1.out).pow10)).mono ?_; rintro e w2 ⟨rfl, hb2⟩; have HB2 := Lib.hid hb2; clear hb2))
    go_ret
    refine ⟨ret_bool ?_, below_next HB1.out (below_grw HB2.out)⟩
    rw [HO.out, ← Lib.toList_data s, Bool.beq_comm]
  · have hno : ∀ u, Lib.parseUintB 8 s.data.toList ≠ .ok u := fun u h => hok ⟨u, h⟩
    have HP := Lib.hid (fun W => parse8_no s hs hno W)
    have HO := Lib.hid (oct_none hno)
    clear hok hno
    go_enter Tryd.func82, Tryd.ntmps82
    go_wp2_with (go_at_call 83; refine (HP.out _ HG.out).mono ?_; rintro e w1 ⟨n, N, rfl, hb1⟩)
    go_ret
    exact ⟨ret_bool (by rw [HO.out]; rfl), hb1⟩
theorem fn_oct : ∀ args w, (callFunc 82 args).run Tryd.prog w = .ok (.enter 82 args) w := enters_of Tryd.func82 (by kernel_rfl) rfl
def quadB (ls : List ByteArray) : Bool := decide (ls.length = 4) && ls.all octB
theorem quad_any (b off n c : Nat) (zs : List ByteArray) (w : World) (hg : Glob w) (hs : ∀ x ∈ zs, x.size ≤ 281474976710656) (hn : zs.length = n) (hbig : n ≤ 9223372036854775807)
    (hc : ∀ j, j < n → w.cell? ⟨b, off + j, none⟩ = some (.string (zs.getD j ByteArray.empty))) :
    Calls Tryd.prog 53 #[.slice (some ⟨b, off, none⟩) n c] w fun e w' => e = .returned (.bool (quadB zs)) ∧ Below w.heap.size w w' := by
  have hc1 := contains_string 82 #[] (fun s => !octB s) _ fn_oct b off n c zs w (oct_1 w hg) hs hn hbig hc
  generalize hr : (zs.any fun s => !octB s) = r at hc1
  have HC := Lib.hid hc1
  have HR := Lib.hid hr
  have HN := Lib.hid hn
  clear hc1 hr hc hs hn hg
  by_cases h4 : n = 4
  · have HQ : Hid (quadB zs = !r) := Lib.hid (by unfold quadB; rw [HN.out, h4, ← HR.out, List.not_any_eq_all_not]; simp)
    subst h4
    go_enter Tryd.func53, Tryd.ntmps53
    go_wp2_with (go_at_call 32; refine HC.out.mono ?_; rintro e w' ⟨rfl, hb⟩)
    go_ret
    exact ⟨ret_bool HQ.out.symm, hb⟩
  · have HQ : Hid (quadB zs = false) := Lib.hid (by unfold quadB; rw [HN.out]; simp [h4])
    have h4b : ((n : Int) == 4) = false := by simp; omega
    have h4c : decide ((n : Int) = 4) = false := by simp; omega
    clear h4
    go_enter Tryd.func53, Tryd.ntmps53
    go_wp2
    go_ret
    exact ⟨ret_bool HQ.out.symm, Below.refl _ _⟩

/-! ### a label that is a number -/
theorem dig_spec (c : UInt8) : isDig c = (decide (48 ≤ (c.toNat : Int)) && decide ((c.toNat : Int) ≤ 57)) := by
  have h : ∀ n : Fin 256, isDig (UInt8.ofNat n.val) = (decide (48 ≤ ((UInt8.ofNat n.val).toNat : Int)) && decide (((UInt8.ofNat n.val).toNat : Int) ≤ 57)) := by decide +kernel
  have := h ⟨c.toNat, c.toNat_lt⟩
  simpa using this
def hexI (c : UInt8) : Int := Lib.indexByte [48, 49, 50, 51, 52, 53, 54, 55, 56, 57, 97, 98, 99, 100, 101, 102, 65, 66, 67, 68, 69, 70] c
theorem hex_spec (c : UInt8) : isHexC c = decide (0 ≤ hexI c) := by
  have h : ∀ n : Fin 256, isHexC (UInt8.ofNat n.val) = decide (0 ≤ hexI (UInt8.ofNat n.val)) := by decide +kernel
  have := h ⟨c.toNat, c.toNat_lt⟩
  simpa using this
theorem hexI_any (c : UInt8) (w : World) : Calls Tryd.prog 58 #[.string ⟨#[48, 49, 50, 51, 52, 53, 54, 55, 56, 57, 97, 98, 99, 100, 101, 102, 65, 66, 67, 68, 69, 70]⟩, .int .u8 c.toNat] w fun e w' => e = .returned (.int .i64 (hexI c)) ∧ w = w' := by
  refine (Tryd.strings_IndexByte _ _ _).mono fun e w' ⟨he, hw⟩ => ⟨?_, hw.symm⟩
  rw [he]
  show Ending.returned (.int .i64 (Lib.indexByte _ (UInt8.ofNat c.toNat))) = _
  rw [UInt8.ofNat_toNat]
  rfl
theorem num_1 (w : World) : PredB 80 #[] isHexC w := by
  intro W c hb
  have HT := Lib.hid (hex_spec c)
  clear hb
  go_enter Tryd.func80, Tryd.ntmps80
  go_wp2_with (go_at_call 58; refine (hexI_any c _).mono ?_; rintro e w' ⟨rfl, rfl⟩)
  go_ret
  exact ⟨ret_bool HT.out.symm, Below.refl _ _⟩
theorem num_2 (w : World) : PredB 81 #[] isDig w := by
  intro W c hb
  have HT := Lib.hid (dig_spec c)
  clear hb
  go_enter Tryd.func81, Tryd.ntmps81
  go_wp2
  all_goals
    go_ret
    refine ⟨ret_bool ?_, Below.refl _ _⟩
    rw [HT.out, Bool.eq_iff_iff]
    simp only [Bool.or_eq_true, Bool.and_eq_true, decide_eq_true_eq, true_iff, Bool.not_eq_true', decide_eq_false_iff_not, bne_iff_ne, ne_eq, beq_iff_eq, Bool.false_eq_true, false_iff]
    omega
theorem fn_num_1 : ∀ args w, (callFunc 80 args).run Tryd.prog w = .ok (.enter 80 args) w := enters_of Tryd.func80 (by kernel_rfl) rfl
theorem fn_num_2 : ∀ args w, (callFunc 81 args).run Tryd.prog w = .ok (.enter 81 args) w := enters_of Tryd.func81 (by kernel_rfl) rfl
def numericB (s : ByteArray) : Bool := if Lib.hasPrefix s.data.toList [48, 120] then (Lib.trimPrefix s.data.toList [48, 120]).all isHexC else s.data.toList.all isDig
theorem numeric_any (s : ByteArray) (w : World) (hs : s.size ≤ 281474976710656) :
    Calls Tryd.prog 52 #[.string s] w fun e w' => e = .returned (.bool (numericB s)) ∧ Below w.heap.size w w' := by
  have hp := Tryd.strings_CutPrefix s ⟨#[48, 120]⟩
  have hpl : (⟨#[48, 120]⟩ : ByteArray).data.toList = [48, 120] := rfl
  rw [hpl] at hp
  clear hpl
  cases hb : Lib.hasPrefix s.data.toList [48, 120] with
  | true =>
    have HS : Hid (numericB s = (Lib.trimPrefix s.data.toList [48, 120]).all isHexC) := Lib.hid (by unfold numericB; rw [hb]; rfl)
    rw [hb] at hp
    have hlen : (Lib.trimPrefix s.data.toList [48, 120]).length ≤ s.size := by
      unfold Lib.trimPrefix
      rw [hb, if_pos rfl, List.length_drop, size_toList]; omega
    generalize hx : Lib.trimPrefix s.data.toList [48, 120] = x at hp HS hlen
    have HA := Lib.hid (fun W => uall_any 80 #[] isHexC fn_num_1 ⟨x.toArray⟩ W (num_1 W) (by show x.toArray.size ≤ _; rw [List.size_toArray]; omega))
    have HP := Lib.hid hp
    clear hp hb hx hlen
    go_enter Tryd.func52, Tryd.ntmps52
    go_wp2_with (first
      | (go_at_call 79; refine (HP.out _).mono ?_; rintro e w1 ⟨rfl, rfl⟩)
      | (go_at_call 49; refine (HA.out _).mono ?_; rintro e w2 ⟨rfl, hb2⟩))
    go_ret
    exact ⟨ret_bool (by rw [HS.out]), hb2⟩
  | false =>
    have HS : Hid (numericB s = s.data.toList.all isDig) := Lib.hid (by unfold numericB; rw [hb]; rfl)
    rw [hb] at hp
    have HA := Lib.hid (fun W => uall_any 81 #[] isDig fn_num_2 s W (num_2 W) (by omega))
    generalize hr : s.data.toList.all isDig = r at HA HS
    have HP := Lib.hid hp
    clear hp hb hr
    go_enter Tryd.func52, Tryd.ntmps52
    go_wp2_with (first
      | (go_at_call 79; refine (HP.out _).mono ?_; rintro e w1 ⟨rfl, rfl⟩)
      | (go_at_call 49; refine (HA.out _).mono ?_; rintro e w2 ⟨rfl, hb2⟩))
    go_ret
    exact ⟨ret_bool (by rw [HS.out]), hb2⟩
end Go.Proofs.YtjdlaofeenblkaaDoor.T

/- uri.Named over this program. -/
namespace Go.Proofs.YtjdlaofeenblkaaDoor.T
open Go.RowKit
set_option linter.unusedSimpArgs false
set_option linter.unusedVariables false
theorem plain_spec (c : UInt8) : isPlain c = ((decide (97 ≤ (c.toNat : Int)) && decide ((c.toNat : Int) ≤ 122)) || (decide (48 ≤ (c.toNat : Int)) && decide ((c.toNat : Int) ≤ 57))) := by
  have h : ∀ n : Fin 256, isPlain (UInt8.ofNat n.val) = ((decide (97 ≤ ((UInt8.ofNat n.val).toNat : Int)) && decide (((UInt8.ofNat n.val).toNat : Int) ≤ 122)) || (decide (48 ≤ ((UInt8.ofNat n.val).toNat : Int)) && decide (((UInt8.ofNat n.val).toNat : Int) ≤ 57))) := by decide +kernel
  have := h ⟨c.toNat, c.toNat_lt⟩
  simpa using this
theorem plain_any (c : UInt8) (w : World) : Calls Tryd.prog 51 #[.int .u8 c.toNat] w fun e w' => e = .returned (.bool (isPlain c)) ∧ w = w' := by
  have HT := Lib.hid (plain_spec c)
  go_enter Tryd.func51, Tryd.ntmps51
  go_wp2
  all_goals
    go_ret
    refine ⟨ret_bool ?_, rfl⟩
    rw [HT.out, Bool.eq_iff_iff]
    simp only [Bool.or_eq_true, Bool.and_eq_true, decide_eq_true_eq, true_iff, Bool.not_eq_true', decide_eq_false_iff_not, bne_iff_ne, ne_eq, beq_iff_eq, Bool.false_eq_true, false_iff]
    omega
theorem host_spec (c : UInt8) : isHostC c = (isPlain c || decide ((c.toNat : Int) = 45)) := by
  have h : ∀ n : Fin 256, isHostC (UInt8.ofNat n.val) = (isPlain (UInt8.ofNat n.val) || decide (((UInt8.ofNat n.val).toNat : Int) = 45)) := by decide +kernel
  have := h ⟨c.toNat, c.toNat_lt⟩
  simpa using this
theorem host_1 (w : World) : PredB 50 #[] isHostC w := by
  intro W c hb
  have HT := Lib.hid (host_spec c)
  clear hb
  have HP := Lib.hid (plain_any c)
  cases hq : isPlain c with
  | _ =>
    rw [hq] at HP HT
    clear hq
    go_enter Tryd.func50, Tryd.ntmps50
    go_wp2_with (go_at_call 51; refine (HP.out _).mono ?_; rintro e w' ⟨rfl, rfl⟩)
    all_goals
      go_ret
      refine ⟨ret_bool ?_, Below.refl _ _⟩
      rw [HT.out]
      first | rfl | (rw [Bool.eq_iff_iff]; simp)
theorem fn_host_1 : ∀ args w, (callFunc 50 args).run Tryd.prog w = .ok (.enter 50 args) w := enters_of Tryd.func50 (by kernel_rfl) rfl
def labelB (x : ByteArray) : Bool := !x.data.toList.isEmpty && x.data.toList.all isHostC
def labelsB (s : ByteArray) : List ByteArray := Lib.splitB ⟨#[46]⟩ 0 (Lib.countB s ⟨#[46]⟩) s
def namedB (s : ByteArray) : Bool := (labelsB s).all labelB && (decide (s.size ≤ 64) && (!numericB ((labelsB s).getD ((labelsB s).length - 1) ByteArray.empty) || quadB (labelsB s)))
theorem splitB_size (sep : ByteArray) : ∀ (k : Nat) (s : ByteArray), ∀ x ∈ Lib.splitB sep 0 k s, x.size ≤ s.size
  | 0, s, x, hx => by simp [Lib.splitB] at hx; subst hx; exact Nat.le_refl _
  | k + 1, s, x, hx => by
    unfold Lib.splitB at hx
    split at hx
    · simp at hx; subst hx; exact Nat.le_refl _
    · rcases List.mem_cons.1 hx with rfl | hx
      · rw [ByteArray.size_extract]; omega
      · have := splitB_size sep k _ x hx
        rw [ByteArray.size_extract] at this; omega
theorem labels_len (s : ByteArray) : (labelsB s).length = Lib.countB s ⟨#[46]⟩ + 1 := Lib.splitB_all ⟨#[46]⟩ (by decide) 0 _ s rfl
theorem labels_le (s : ByteArray) : (labelsB s).length ≤ s.size + 1 := by
  rw [labels_len]
  have := Lib.countB_le ⟨#[46]⟩ (by decide) s.size s (Nat.le_refl _)
  omega
theorem split_dot (s : ByteArray) (w : World) (hs : s.size < 4294967281) (hg : Glob w) :
    Calls Tryd.prog 48 #[.string s, .string ⟨#[46]⟩] w fun e w' => e = .returned (.slice (some ⟨w.heap.size, 0, none⟩) (labelsB s).length (labelsB s).length) ∧ Below w.heap.size w w' ∧ ∀ j, j < (labelsB s).length → w'.cell? ⟨w.heap.size, j, none⟩ = some (.string ((labelsB s).getD j ByteArray.empty)) := by
  obtain ⟨m, hm⟩ := hg.maxLen
  refine (Tryd.strings_Split s ⟨#[46]⟩ m w hs hm (by decide)).mono fun e w' ⟨he, hw⟩ => ?_
  subst hw
  rw [← labels_len] at he
  refine ⟨he, below_alc (Below.refl _ _) _, fun j hj => ?_⟩
  rw [World.cell?_alloc_new]
  show (((labelsB s).map Value.string).toArray)[j]? = _
  simp [List.getD_eq_getElem?_getD, List.getElem?_eq_getElem hj]
theorem isEmpty_lab (y : ByteArray) (h : y.toList.isEmpty = true) : labelB y = false := by
  unfold labelB; rw [← isEmpty_data0 y, h]; rfl
theorem lab_of (y : ByteArray) (h : y.toList.isEmpty = false) : labelB y = y.data.toList.all isHostC := by
  unfold labelB; rw [← isEmpty_data0 y, h]; rfl
set_option maxHeartbeats 2000000 in
theorem named_any (s : ByteArray) (w : World) (hs : s.size < 4294967281) (hg : Glob w) :
    Calls Tryd.prog 29 #[.string s] w fun e w' => e = .returned (.bool (namedB s)) ∧ Below w.heap.size w w' := by
  have HSP := Lib.hid (split_dot s w hs hg)
  have hsz : ∀ x ∈ labelsB s, x.size ≤ 281474976710656 := fun x hx => by have := splitB_size _ _ _ x hx; omega
  have hle := labels_le s
  have hpos : 0 < (labelsB s).length := by rw [labels_len]; omega
  have HN : Hid (namedB s = ((labelsB s).all labelB && (decide (s.size ≤ 64) && (!numericB ((labelsB s).getD ((labelsB s).length - 1) ByteArray.empty) || quadB (labelsB s))))) := Lib.hid rfl
  generalize hls : labelsB s = ls at HSP hsz hle hpos HN
  generalize hn : ls.length = n at HSP hle hpos HN
  have HL := Lib.hid hn
  have HG := Lib.hid hg
  have HZ := Lib.hid hsz
  clear hls hn hg hsz
  go_enter Tryd.func29, Tryd.ntmps29
  go_wp2_with (go_at_call 48; refine HSP.out.mono ?_; rintro e w1 ⟨rfl, hb1, hc1⟩; have HB1 := Lib.hid hb1; have HC1 := Lib.hid hc1; clear hb1 hc1)
  go_loopg [5, 10] n (fun gg _ s10 wr => ∃ kk : Nat, kk ≤ n ∧ n - kk ≤ gg ∧ s10 = .int .i64 kk ∧ Aside (Below w1.heap.size w1 wr) ∧ Aside (∀ j, j < kk → labelB (ls.getD j ByteArray.empty) = true))
  case atStart => exact ⟨0, Nat.zero_le _, by omega, rfl, Below.refl _ _, fun j hj => absurd hj (Nat.not_lt_zero _)⟩
  case round =>
    obtain ⟨kk, hkk, hg, rfl, HB0, A⟩ := hrel
    have HB : Hid (Below w1.heap.size w1 wr) := Lib.hid HB0.out
    clear HB0
    by_cases hlt : kk < n
    · have hltz : (kk : Int) < (n : Int) := by omega
      have hcell : wr.cell? ⟨w.heap.size, kk, none⟩ = some (.string (ls.getD kk ByteArray.empty)) := (HB.out.cell (World.block_lt_of_cell? w1 _ (HC1.out kk hlt))).trans (HC1.out kk hlt)
      have hyz : (ls.getD kk ByteArray.empty).size ≤ 281474976710656 := HZ.out _ (by
        rw [List.getD_eq_getElem?_getD, List.getElem?_eq_getElem (by rw [HL.out]; exact hlt)]
        exact List.getElem_mem _)
      generalize hy : ls.getD kk ByteArray.empty = y at hcell hyz
      have B : Hid (ls.getD kk ByteArray.empty = y) := Lib.hid hy
      clear hy
      cases he : y.toList.isEmpty with
      | true =>
        have HE := Lib.hid (isEmpty_lab y he)
        have he2 : (!y.toList.isEmpty) = false := by rw [he]; rfl
        go_wp2
        go_ret
        refine ⟨ret_bool ?_, below_next HB1.out HB.out⟩
        rw [HN.out, all_no_getD labelB ByteArray.empty ls kk (by rw [HL.out]; exact hlt) (by rw [B.out]; exact HE.out)]
        rfl
      | false =>
        have HE := Lib.hid (lab_of y he)
        have he2 : (!y.toList.isEmpty) = true := by rw [he]; rfl
        have hcall := fun W => uall_any 50 #[] isHostC fn_host_1 y W (host_1 W) (by omega)
        clear hyz
        cases hq : y.data.toList.all isHostC with
        | true =>
          rw [hq] at hcall
          have HC := Lib.hid hcall
          have HQ := Lib.hid hq
          clear hcall hq
          go_wp2_with (go_at_call 49; refine (HC.out _).mono ?_; rintro e w2 ⟨rfl, hb2⟩)
          go_roundg (n - (kk + 1))
          case measure => omega
          case rel =>
            refine ⟨kk + 1, by omega, by omega, by go_num, below_next HB.out hb2, fun j hj => ?_⟩
            by_cases e : j = kk
            · subst e
              rw [B.out, HE.out]; exact HQ.out
            · exact A.out j (by omega)
        | false =>
          rw [hq] at hcall
          have HC := Lib.hid hcall
          have HQ := Lib.hid hq
          clear hcall hq
          go_wp2_with (go_at_call 49; refine (HC.out _).mono ?_; rintro e w2 ⟨rfl, hb2⟩)
          go_ret
          refine ⟨ret_bool ?_, below_next HB1.out (below_next HB.out hb2)⟩
          rw [HN.out, all_no_getD labelB ByteArray.empty ls kk (by rw [HL.out]; exact hlt) (by rw [B.out, HE.out]; exact HQ.out)]
          rfl
    · have hltz : ¬ (kk : Int) < (n : Int) := by omega
      obtain rfl : kk = n := by omega
      have HALL : Hid (ls.all labelB = true) := Lib.hid (all_of_getD labelB ByteArray.empty ls (by rw [HL.out]; exact A.out))
      clear A
      by_cases h64 : s.size ≤ 64
      · have h64a : (s.size : Int) ≤ 64 := by omega
        have hcl := HC1.out (kk - 1) (by omega)
        have hcell : wr.cell? ⟨w.heap.size, kk - 1, none⟩ = some (.string (ls.getD (kk - 1) ByteArray.empty)) := (HB.out.cell (World.block_lt_of_cell? w1 _ hcl)).trans hcl
        clear hcl
        have hyz : (ls.getD (kk - 1) ByteArray.empty).size ≤ 281474976710656 := HZ.out _ (by
          rw [List.getD_eq_getElem?_getD, List.getElem?_eq_getElem (by rw [HL.out]; omega)]
          exact List.getElem_mem _)
        have HY : Hid (namedB s = (!numericB (ls.getD (kk - 1) ByteArray.empty) || quadB ls)) := Lib.hid (by rw [HN.out, HALL.out, decide_eq_true h64]; rfl)
        generalize hy : ls.getD (kk - 1) ByteArray.empty = y at hcell hyz HY
        clear hy
        have HNU := Lib.hid (fun W => numeric_any y W hyz)
        clear hyz
        cases hq : numericB y with
        | false =>
          rw [hq] at HNU HY
          clear hq
          go_wp2_with (go_at_call 52; refine (HNU.out _).mono ?_; rintro e w2 ⟨rfl, hb2⟩)
          go_ret
          exact ⟨ret_bool (by rw [HY.out]; rfl), below_next HB1.out (below_next HB.out hb2)⟩
        | true =>
          rw [hq] at HNU HY
          clear hq
          have HQU := Lib.hid (fun (W : World) (hb : Below w1.heap.size w1 W) => quad_any w.heap.size 0 kk kk ls W (HG.out.below (below_next HB1.out hb)) HZ.out HL.out (by omega) (fun j hj => by
            rw [Nat.zero_add]
            exact (hb.cell (World.block_lt_of_cell? w1 _ (HC1.out j hj))).trans (HC1.out j hj)))
          cases hq2 : quadB ls with
          | _ =>
            rw [hq2] at HQU HY
            clear hq2
            go_wp2_with (first
              | (go_at_call 52; refine (HNU.out _).mono ?_; rintro e w2 ⟨rfl, hb2⟩; have HB2 := Lib.hid (below_next HB.out hb2); clear hb2)
              | (go_at_call 53; refine (HQU.out _ HB2.out).mono ?_; rintro e w3 ⟨rfl, hb3⟩))
            go_ret
            exact ⟨ret_bool (by rw [HY.out]; rfl), below_next HB1.out (below_next HB2.out hb3)⟩
      · have h64a : ¬ (s.size : Int) ≤ 64 := by omega
        have HY : Hid (namedB s = false) := Lib.hid (by rw [HN.out, decide_eq_false h64]; simp)
        clear h64
        go_wp2
        go_ret
        exact ⟨ret_bool HY.out.symm, below_next HB1.out HB.out⟩
end Go.Proofs.YtjdlaofeenblkaaDoor.T

/- text.Token over this program. -/
namespace Go.Proofs.YtjdlaofeenblkaaDoor.T
open Go.RowKit
set_option linter.unusedSimpArgs false
set_option linter.unusedVariables false

/-! ### Token -/
theorem bits_low (c : UInt8) : bits BinOp.or IntKind.u8 (c.toNat : Int) 32 = ((c ||| 32).toNat : Int) := by
  have h : ∀ n : Fin 256, bits BinOp.or IntKind.u8 ((UInt8.ofNat n.val).toNat : Int) 32 = ((UInt8.ofNat n.val ||| 32).toNat : Int) := by decide +kernel
  have := h ⟨c.toNat, c.toNat_lt⟩
  simpa using this
def sgn (c : UInt8) : Int := Lib.indexByte [33, 35, 36, 37, 38, 39, 42, 43, 45, 46, 94, 95, 96, 124, 126] c
theorem tok_spec (c : UInt8) : isTok c = ((decide (97 ≤ ((c ||| 32).toNat : Int)) && decide (((c ||| 32).toNat : Int) ≤ 122)) || (decide (48 ≤ (c.toNat : Int)) && decide ((c.toNat : Int) ≤ 57)) || decide (0 ≤ sgn c)) := by
  have h : ∀ n : Fin 256, isTok (UInt8.ofNat n.val) = ((decide (97 ≤ ((UInt8.ofNat n.val ||| 32).toNat : Int)) && decide (((UInt8.ofNat n.val ||| 32).toNat : Int) ≤ 122)) || (decide (48 ≤ ((UInt8.ofNat n.val).toNat : Int)) && decide (((UInt8.ofNat n.val).toNat : Int) ≤ 57)) || decide (0 ≤ sgn (UInt8.ofNat n.val))) := by decide +kernel
  have := h ⟨c.toNat, c.toNat_lt⟩
  simpa using this
theorem sgn_any (c : UInt8) (w : World) : Calls Tryd.prog 58 #[.string ⟨#[33, 35, 36, 37, 38, 39, 42, 43, 45, 46, 94, 95, 96, 124, 126]⟩, .int .u8 c.toNat] w fun e w' => e = .returned (.int .i64 (sgn c)) ∧ w = w' := by
  refine (Tryd.strings_IndexByte _ _ _).mono fun e w' ⟨he, hw⟩ => ⟨?_, hw.symm⟩
  rw [he]
  show Ending.returned (.int .i64 (Lib.indexByte _ (UInt8.ofNat c.toNat))) = _
  rw [UInt8.ofNat_toNat]
  rfl
set_option maxHeartbeats 1000000 in
theorem tok_1 (w : World) : PredB 57 #[] isTok w := by
  intro W c hb
  have hl := bits_low c
  have HT := Lib.hid (tok_spec c)
  clear hb
  have h0 : 0 ≤ ((c ||| 32).toNat : Int) := by omega
  generalize hx : ((c ||| 32).toNat : Int) = x at hl h0 HT
  clear hx
  go_enter Tryd.func57, Tryd.ntmps57
  go_wp2_with (go_at_call 58; refine (sgn_any c _).mono ?_; rintro e w' ⟨rfl, rfl⟩)
  all_goals
    go_ret
    refine ⟨ret_bool ?_, Below.refl _ _⟩
    rw [HT.out, Bool.eq_iff_iff]
    simp only [Bool.or_eq_true, Bool.and_eq_true, decide_eq_true_eq, true_iff, Bool.false_eq_true]
    omega
theorem fn_tok_1 : ∀ args w, (callFunc 57 args).run Tryd.prog w = .ok (.enter 57 args) w := enters_of Tryd.func57 (by kernel_rfl) rfl
theorem isEmpty_data (s : ByteArray) : s.toList.isEmpty = s.data.toList.isEmpty := by
  have h : s.toList = s.data.toList := Lib.toList_data s
  rw [h]
theorem token_any (s : ByteArray) (w : World) (hs : s.size ≤ 9223372036854775807) :
    Calls Tryd.prog 34 #[.string s] w fun e w' => e = .returned (.bool (tokenB s)) ∧ Below w.heap.size w w' := by
  have hc := fun W => all_any 57 #[] isTok fn_tok_1 s W (tok_1 W) hs
  generalize hr : s.data.toList.all isTok = r at hc
  have HR := Lib.hid hr; clear hr
  have HC := Lib.hid hc; clear hc
  cases he : s.toList.isEmpty with
  | true =>
    have HE := Lib.hid ((isEmpty_data s).symm.trans he)
    have he2 : (!s.toList.isEmpty) = false := by rw [he]; rfl
    go_enter Tryd.func34, Tryd.ntmps34
    go_wp2
    go_ret
    exact ⟨ret_bool (by unfold tokenB; rw [HE.out]; rfl), Below.refl _ _⟩
  | false =>
    have HE := Lib.hid ((isEmpty_data s).symm.trans he)
    have he2 : (!s.toList.isEmpty) = true := by rw [he]; rfl
    go_enter Tryd.func34, Tryd.ntmps34
    go_wp2_with (go_at_call 56; refine (HC.out _).mono ?_; rintro e w' ⟨rfl, hb⟩)
    go_ret
    exact ⟨ret_bool (by unfold tokenB; rw [HE.out, HR.out]; rfl), hb⟩
end Go.Proofs.YtjdlaofeenblkaaDoor.T

/- acl.May, acl.All, acl.Admits over this program. -/
namespace Go.Proofs.YtjdlaofeenblkaaDoor.T
open Go.RowKit
set_option linter.unusedSimpArgs false
set_option linter.unusedVariables false
theorem may_1 (w : World) : PredS 33 #[] (fun s => !tokenB s) (fun s => s.size ≤ 281474976710656) w := by
  intro W s hb hs
  have HT := Lib.hid (fun W => token_any s W (by omega))
  cases hq : tokenB s with
  | _ =>
    rw [hq] at HT
    clear hb hs
    have HQ := Lib.hid hq
    clear hq
    go_enter Tryd.func33, Tryd.ntmps33
    go_wp2_with (go_at_call 34; refine (HT.out _).mono ?_; rintro e w1 ⟨rfl, hb1⟩)
    go_ret
    exact ⟨ret_bool (by rw [HQ.out]; rfl), hb1⟩
theorem fn_may_1 : ∀ args w, (callFunc 33 args).run Tryd.prog w = .ok (.enter 33 args) w := enters_of Tryd.func33 (by kernel_rfl) rfl
/-- what acl.May tells of a rule -/
def hostMay (host : ByteArray) : Bool := host.data.toList == [42] || namedB ⟨(Lib.trimPrefix host.data.toList [46]).toArray⟩
def mayB (allow : Bool) (host : ByteArray) (low high : Int) (ms : List ByteArray) : Bool :=
  hostMay host && (decide (1 ≤ low) && decide (low ≤ high) && decide (high ≤ 65535)) && decide (ms.length ≤ 8) && ms.all tokenB
theorem trim_size (host : ByteArray) : (⟨(Lib.trimPrefix host.data.toList [46]).toArray⟩ : ByteArray).size ≤ host.size := by
  show (Lib.trimPrefix host.data.toList [46]).toArray.size ≤ _
  rw [List.size_toArray, ← size_toList host]
  unfold Lib.trimPrefix
  split
  · rw [List.length_drop]; omega
  · exact Nat.le_refl _
set_option maxHeartbeats 4000000 in
theorem may_any (allow : Bool) (host : ByteArray) (low high : Int) (A : Option Addr) (c : Nat) (ms : List ByteArray) (w : World) (hg : Glob w) (hh : host.size < 4294967281)
    (hs : ∀ x ∈ ms, x.size ≤ 281474976710656) (hbig : ms.length ≤ 9223372036854775807)
    (hc : 0 < ms.length → ∃ b off, A = some ⟨b, off, none⟩ ∧ ∀ j, j < ms.length → w.cell? ⟨b, off + j, none⟩ = some (.string (ms.getD j ByteArray.empty))) :
    Calls Tryd.prog 12 #[.agg #[.bool allow, .string host, .int .i64 low, .int .i64 high, .slice A ms.length c]] w fun e w' => e = .returned (.bool (mayB allow host low high ms)) ∧ Below w.heap.size w w' := by
  have HMET := Lib.hid (fun (W : World) (hb : Below w.heap.size w W) => contains_string_any 33 #[] (fun s => !tokenB s) _ fn_may_1 A c ms W (may_1 W) hs hbig (fun h0 => by
    obtain ⟨b, off, e, hc⟩ := hc h0
    exact ⟨b, off, e, fun j hj => (hb.cell (World.block_lt_of_cell? w _ (hc j hj))).trans (hc j hj)⟩))
  have HTR := Lib.hid (Tryd.strings_TrimPrefix host ⟨#[46]⟩)
  have HNM := Lib.hid (fun (W : World) (hb : Below w.heap.size w W) => named_any ⟨(Lib.trimPrefix host.data.toList [46]).toArray⟩ W (by have := trim_size host; omega) (hg.below hb))
  have HM : Hid (mayB allow host low high ms = (hostMay host && (decide (1 ≤ low) && decide (low ≤ high) && decide (high ≤ 65535)) && decide (ms.length ≤ 8) && !(ms.any fun s => !tokenB s))) := Lib.hid (by
    unfold mayB
    congr 1
    rw [List.not_any_eq_all_not]
    simp)
  have HH : Hid (hostMay host = (host.toList == [42] || namedB ⟨(Lib.trimPrefix host.data.toList [46]).toArray⟩)) := Lib.hid (by unfold hostMay; rw [Lib.toList_data])
  generalize hr : (ms.any fun s => !tokenB s) = r at HMET HM
  generalize hN : namedB ⟨(Lib.trimPrefix host.data.toList [46]).toArray⟩ = N at HNM HH
  clear hr hN hs hc hg
  cases h42 : host.toList == [42] with
  | true =>
    rw [h42] at HH
    have h42b : host.toList = [42] := by simpa using h42
    cases r with
    | _ =>
      go_enter Tryd.func12, Tryd.ntmps12
      go_wp2_with (go_at_call 32; refine (HMET.out _ (by first | exact below_alc (Below.refl _ _) _ | exact Below.refl _ _)).mono ?_; rintro e w1 ⟨rfl, hb1⟩)
      all_goals
        go_ret
        refine ⟨ret_bool ?_, ?_⟩
        · rw [HM.out, HH.out, Bool.eq_iff_iff]
          simp only [Bool.or_eq_true, Bool.and_eq_true, decide_eq_true_eq, true_iff, Bool.not_eq_true', decide_eq_false_iff_not, Bool.false_eq_true, false_iff, Bool.not_true, Bool.not_false, true_or, true_and, and_true, and_false, iff_false]
          try omega
        · first
          | exact below_next (below_alc (Below.refl _ _) _) hb1
          | exact below_alc (Below.refl _ _) _
          | exact hb1
          | exact Below.refl _ _
  | false =>
    rw [h42] at HH
    have h42b : ¬ (host.toList = [42]) := by simpa using h42
    cases N with
    | _ =>
      cases r with
      | _ =>
        go_enter Tryd.func12, Tryd.ntmps12
        go_wp2_with (first
          | (go_at_call 31; refine (HTR.out _).mono ?_; rintro e w1 ⟨rfl, rfl⟩)
          | (go_at_call 29; refine (HNM.out _ (by first | exact below_alc (Below.refl _ _) _ | exact Below.refl _ _)).mono ?_; rintro e w1 ⟨rfl, hb0⟩; have HB0 := Lib.hid (below_next (below_alc (Below.refl _ _) _) hb0); have hc2 : w1.cell? ⟨w.heap.size, 2, none⟩ = some (.int .i64 low) := (hb0.cell (p := ⟨w.heap.size, 2, none⟩) (by simp)).trans (World.cell?_alloc_new _ _ _ _); have hc3 : w1.cell? ⟨w.heap.size, 3, none⟩ = some (.int .i64 high) := (hb0.cell (p := ⟨w.heap.size, 3, none⟩) (by simp)).trans (World.cell?_alloc_new _ _ _ _); have hc4 : w1.cell? ⟨w.heap.size, 4, none⟩ = some (.slice A ms.length c) := (hb0.cell (p := ⟨w.heap.size, 4, none⟩) (by simp)).trans (World.cell?_alloc_new _ _ _ _); clear hb0)
          | (go_at_call 32; refine (HMET.out _ HB0.out).mono ?_; rintro e w2 ⟨rfl, hb1⟩))
        all_goals
          go_ret
          refine ⟨ret_bool ?_, ?_⟩
          · rw [HM.out, HH.out, Bool.eq_iff_iff]
            simp only [Bool.or_eq_true, Bool.and_eq_true, decide_eq_true_eq, true_iff, Bool.not_eq_true', decide_eq_false_iff_not, Bool.false_eq_true, false_iff, Bool.not_true, Bool.not_false, true_or, true_and, and_true, and_false, iff_false, or_false, false_or, false_and]
            try omega
          · first
            | exact below_next HB0.out hb1
            | exact HB0.out
end Go.Proofs.YtjdlaofeenblkaaDoor.T

/- acl.May, acl.All in the print's form. -/
namespace Go.Proofs.YtjdlaofeenblkaaDoor.X
open Go.RowKit Go.Proofs.YtjdlaofeenblkaaDoorW.PrintWords Go.Proofs.YtjdlaofeenblkaaDoor.T
set_option linter.unusedSimpArgs false
set_option linter.unusedVariables false
/-- the sizes at which a rule is asked -/
def fitsM (l : List ByteArray) : Bool := l.all fun m => decide (m.size ≤ 281474976710656)
theorem fitsM_mem {l : List ByteArray} (h : fitsM l = true) : ∀ m ∈ l, m.size ≤ 281474976710656 := fun m hm => by
  unfold fitsM at h
  rw [List.all_eq_true] at h
  simpa using h m hm
def acl_May.f (a0_0 : Bool) (a0_1 : ByteArray) (a0_2 : Int) (a0_3 : Int) (l0_4 : List ByteArray) : Option Bool :=
  if a0_1.size < 4294967281 ∧ fitsM l0_4 = true ∧ l0_4.length ≤ 9223372036854775807 then some (mayB a0_0 a0_1 a0_2 a0_3 l0_4) else none
theorem acl_May.calls (a0_0 : Bool) (a0_1 : ByteArray) (a0_2 : Int) (a0_3 : Int) (A0_4 : Option Addr) (c0_4 : Nat) (l0_4 : List ByteArray) (r : Bool) (w : World) (hr0_4 : Kd.C Kd.string w A0_4 l0_4.length l0_4) (hc0_4 : l0_4.length ≤ c0_4) (HGg : Glob w) (h : acl_May.f a0_0 a0_1 a0_2 a0_3 l0_4 = some r) :
    Calls Tryd.prog 12 #[.agg #[.bool a0_0, .string a0_1, .int .i64 a0_2, .int .i64 a0_3, .slice A0_4 l0_4.length c0_4]] w fun e w' => e = .returned (.bool r) ∧ Below w.heap.size w w' := by
  obtain ⟨⟨h1, h2, h3⟩, rfl⟩ := of_lim h
  exact may_any a0_0 a0_1 a0_2 a0_3 A0_4 c0_4 l0_4 w HGg h1 (fitsM_mem h2) h3 (fun h0 => C_strings hr0_4 h0)
def mayR (x : S25) : Bool := mayB x.f0 x.f1 x.f2 x.f3 x.f4
def fitsR (x : S25) : Bool := decide (x.f1.size < 4294967281) && (fitsM x.f4 && decide (x.f4.length ≤ 9223372036854775807))
theorem fitsR_f {x : S25} (h : fitsR x = true) : acl_May.f x.f0 x.f1 x.f2 x.f3 x.f4 = some (mayR x) := by
  unfold fitsR at h
  simp only [Bool.and_eq_true, decide_eq_true_eq] at h
  unfold acl_May.f mayR
  rw [if_pos h]
theorem all_r1 (w : World) (hg : Glob w) : PredR 38 #[] (fun x => !mayR x) (fun x => fitsR x = true) w := by
  intro W x A c hb hx hC hl
  have HM := Lib.hid (fun (W1 : World) (h1 : Below W.heap.size W W1) => acl_May.calls x.f0 x.f1 x.f2 x.f3 A c x.f4 (mayR x) W1 (Kd.C_below hC h1) hl ((hg.below hb).below h1) (fitsR_f hx))
  clear hb hC hl hg hx
  show Calls _ _ #[ruleV x A c] _ _
  unfold ruleV
  cases hq : mayR x with
  | _ =>
    rw [hq] at HM
    have HQ := Lib.hid hq
    clear hq
    go_enter Tryd.func38, Tryd.ntmps38
    go_wp2_with (go_at_call 12; refine (HM.out _ (below_alc (Below.refl _ _) _)).mono ?_; rintro e w1 ⟨rfl, hb1⟩)
    go_ret
    exact ⟨ret_bool (by rw [HQ.out]; rfl), below_next (below_alc (Below.refl _ _) _) hb1⟩
theorem fn_all_r1 : ∀ args w, (callFunc 38 args).run Tryd.prog w = .ok (.enter 38 args) w := enters_of Tryd.func38 (by kernel_rfl) rfl
def allB (l : List S25) : Bool := decide (l.length ≤ 16) && l.all mayR
def acl_All.f (l0 : List S25) : Option Bool := if l0.all fitsR = true ∧ l0.length ≤ 9223372036854775807 then some (allB l0) else none
theorem acl_All.calls (A0 : Option Addr) (c0 : Nat) (l0 : List S25) (r : Bool) (w : World) (hr0 : Kd.C k25 w A0 l0.length l0) (hc0 : l0.length ≤ c0) (HGg : Glob w) (h : acl_All.f l0 = some r) :
    Calls Tryd.prog 14 #[.slice A0 l0.length c0] w fun e w' => e = .returned (.bool r) ∧ Below w.heap.size w w' := by
  obtain ⟨⟨h1, h3⟩, rfl⟩ := of_lim h
  have hc := contains_rule 38 #[] (fun x => !mayR x) _ fn_all_r1 A0 c0 l0 w (all_r1 w HGg) (fun x hx => List.all_eq_true.1 h1 x hx) h3 hr0
  have HA : Hid (allB l0 = (decide (l0.length ≤ 16) && !(l0.any fun x => !mayR x))) := Lib.hid (by unfold allB; rw [List.not_any_eq_all_not]; simp)
  generalize hr : (l0.any fun x => !mayR x) = r at hc HA
  have HC := Lib.hid hc
  clear hc hr hr0 HGg h h1
  generalize l0.length = n at HC HA h3
  by_cases h16 : n ≤ 16
  · have h16a : (n : Int) ≤ 16 := by omega
    rw [decide_eq_true h16] at HA
    go_enter Tryd.func14, Tryd.ntmps14
    go_wp2_with (go_at_call 37; refine HC.out.mono ?_; rintro e w' ⟨rfl, hb⟩)
    go_ret
    exact ⟨ret_bool (by rw [HA.out]; rfl), hb⟩
  · have h16a : ¬ (n : Int) ≤ 16 := by omega
    rw [decide_eq_false h16] at HA
    clear h16
    go_enter Tryd.func14, Tryd.ntmps14
    go_wp2
    go_ret
    exact ⟨ret_bool (by rw [HA.out]; rfl), Below.refl _ _⟩
end Go.Proofs.YtjdlaofeenblkaaDoor.X

/- acl.Admits in the print's form. -/
namespace Go.Proofs.YtjdlaofeenblkaaDoor.X
open Go.RowKit Go.Proofs.YtjdlaofeenblkaaDoorW.PrintWords Go.Proofs.YtjdlaofeenblkaaDoor.T
set_option linter.unusedSimpArgs false
set_option linter.unusedVariables false
def matchF (x : S25) (host : ByteArray) (port : Int) (method : ByteArray) : Option Bool := acl_Matches.f x.f0 x.f1 x.f2 x.f3 x.f4 host port method
/-- the first rule that matches says it -/
def admitsL (host : ByteArray) (port : Int) (method : ByteArray) : List S25 → Option Bool
  | [] => some false
  | x :: t => (matchF x host port method).bind fun m => if m = true then some x.f0 else admitsL host port method t
def acl_Admits.f (l0 : List S25) (a1 : ByteArray) (a2 : Int) (a3 : ByteArray) : Option Bool := if l0.length ≤ 9223372036854775807 then admitsL a1 a2 a3 l0 else none
theorem of_lim2 {α : Type} {c : Prop} [Decidable c] {x : Option α} {r : α} (h : (if c then x else none) = some r) : c ∧ x = some r := by
  by_cases hc : c
  · rw [if_pos hc] at h; exact ⟨hc, h⟩
  · rw [if_neg hc] at h; cases h
theorem admits_drop {host method : ByteArray} {port : Int} {l : List S25} {k : Nat} (hk : k < l.length) : admitsL host port method (l.drop k) = (matchF (l.getD k z25) host port method).bind fun m => if m = true then some (l.getD k z25).f0 else admitsL host port method (l.drop (k + 1)) := by
  rw [List.drop_eq_getElem_cons hk]
  rw [List.getD_eq_getElem?_getD, List.getElem?_eq_getElem hk]
  rfl
set_option maxHeartbeats 4000000 in
theorem acl_Admits.calls (A0 : Option Addr) (c0 : Nat) (l0 : List S25) (a1 : ByteArray) (a2 : Int) (a3 : ByteArray) (r : Bool) (w : World) (hr0 : Kd.C k25 w A0 l0.length l0) (hc0 : l0.length ≤ c0) (HGg : Glob w) (h : acl_Admits.f l0 a1 a2 a3 = some r) :
    Calls Tryd.prog 18 #[.slice A0 l0.length c0, .string a1, .int .i64 a2, .string a3] w fun e w' => e = .returned (.bool r) ∧ Below w.heap.size w w' := by
  obtain ⟨hbig, h⟩ := of_lim2 h
  have HC := Lib.hid (fun h0 => rule_at hr0 h0)
  have HG := Lib.hid HGg
  have HR : Hid (admitsL a1 a2 a3 (l0.drop 0) = some r) := Lib.hid h
  clear hr0 HGg h
  generalize hn : l0.length = n at HC hbig hc0
  have HN := Lib.hid hn; clear hn
  go_enter Tryd.func18, Tryd.ntmps18
  go_wp2
  go_step3
  go_wp2
  go_step3
  go_wp2
  go_loopg [9, 14] n (fun gg s9 s14 wr => ∃ kk : Nat, kk ≤ n ∧ n - kk ≤ gg ∧ s9 = .bool false ∧ s14 = .int .i64 kk ∧ Aside (Below w.heap.size w wr) ∧ Aside (admitsL a1 a2 a3 (l0.drop kk) = some r))
  case atStart => exact ⟨0, Nat.zero_le _, by omega, rfl, rfl, Below.refl _ _, HR.out⟩
  case round =>
    obtain ⟨kk, hkk, hg, rfl, rfl, HB0, AA⟩ := hrel
    have HB : Hid (Below w.heap.size w wr) := Lib.hid HB0.out
    clear HB0
    by_cases hlt : kk < n
    · have hltz : (kk : Int) < (n : Int) := by omega
      have HA := AA.out
      clear AA
      rw [admits_drop (by rw [HN.out]; exact hlt)] at HA
      obtain ⟨m, hm, HA⟩ := Option.bind_eq_some_iff.mp HA
      obtain ⟨b, off, rfl, hcell⟩ := HC.out (by omega)
      obtain ⟨A1, c1, hl1, hC1, e0, e1, e2, e3, e4⟩ := hcell kk hlt
      clear hcell
      generalize hy : l0.getD kk z25 = y at e0 e1 e2 e3 e4 hl1 hC1 HA hm
      clear hy
      replace e0 := (HB.out.cell (World.block_lt_of_cell? w _ e0)).trans e0
      replace e1 := (HB.out.cell (World.block_lt_of_cell? w _ e1)).trans e1
      replace e2 := (HB.out.cell (World.block_lt_of_cell? w _ e2)).trans e2
      replace e3 := (HB.out.cell (World.block_lt_of_cell? w _ e3)).trans e3
      replace e4 := (HB.out.cell (World.block_lt_of_cell? w _ e4)).trans e4
      have HM := Lib.hid (fun (W : World) (h1 : Below wr.heap.size wr W) => acl_Matches.calls y.f0 y.f1 y.f2 y.f3 A1 c1 y.f4 a1 a2 a3 m W (Kd.C_below (Kd.C_below hC1 HB.out) h1) hl1 ((HG.out.below HB.out).below h1) hm)
      clear hC1 hl1 hm
      cases m with
      | true =>
        rw [if_pos rfl] at HA
        have HY := Lib.hid (Option.some.inj HA)
        clear HA
        go_wp2_with (go_at_call 16; refine (HM.out _ (by first | exact below_alc (Below.refl _ _) _ | exact Below.refl _ _)).mono ?_; rintro e w1 ⟨rfl, hb1⟩; have hb10 : w1.cell? ⟨wr.heap.size, 0, none⟩ = some (.bool y.f0) := (hb1.cell (p := ⟨wr.heap.size, 0, none⟩) (by simp)).trans (World.cell?_alloc_new _ _ _ _))
        (try rw [Exit.noGoto_ret])
        go_ret
        exact ⟨ret_bool HY.out, below_next HB.out (below_next (by first | exact below_alc (Below.refl _ _) _ | exact Below.refl _ _) hb1)⟩
      | false =>
        rw [if_neg (by decide)] at HA
        have HY := Lib.hid HA
        clear HA
        go_wp2_with (go_at_call 16; refine (HM.out _ (by first | exact below_alc (Below.refl _ _) _ | exact Below.refl _ _)).mono ?_; rintro e w1 ⟨rfl, hb1⟩)
        go_roundg (n - (kk + 1))
        case measure => omega
        case rel => exact ⟨kk + 1, by omega, by omega, rfl, by go_num, below_next HB.out (below_next (by first | exact below_alc (Below.refl _ _) _ | exact Below.refl _ _) hb1), HY.out⟩
    · have hltz : ¬ (kk : Int) < (n : Int) := by omega
      obtain rfl : kk = n := by omega
      have HY : Hid (false = r) := Lib.hid (by
        have := AA.out
        rw [List.drop_of_length_le (by rw [HN.out]; exact Nat.le_refl _)] at this
        exact Option.some.inj this)
      clear AA
      go_wp2
      (try rw [Exit.noGoto_ret])
      go_ret
      exact ⟨ret_bool HY.out, HB.out⟩
end Go.Proofs.YtjdlaofeenblkaaDoor.X

-- PRINTED by print.py (a twelfth state) out of the translation. Not trusted: Lean checks it.
namespace Go.Proofs.YtjdlaofeenblkaaDoor.X
open Go.RowKit Go.Proofs.YtjdlaofeenblkaaDoorW.PrintWords Go.Proofs.YtjdlaofeenblkaaDoorW.PrintLast Go.Proofs.YtjdlaofeenblkaaDoorW.PrintMore
attribute [local go_sem] max2_int min2_int max_two min_two max_three min_three max_four min_four   -- for this text's walks alone
set_option linter.unusedVariables false
set_option linter.unusedSimpArgs false
open Go.Proofs.YtjdlaofeenblkaaDoor.T

/-! ### tollhouseref14_Admits: function 19 -/
def tollhouseref14_Admits.l0 : Nat → List (S25) → ByteArray → Int → ByteArray → Int → Option (Bool)
  | 0, _, _, _, _, _ => none
  | k + 1, x0, x1, x2, x3, x9 => if x9 < (x0.length : Int) then (if 0 ≤ x9 then ((tollhouseref14_Matches.f k ((rd_T25 x0 x9).f0) ((rd_T25 x0 x9).f1) ((rd_T25 x0 x9).f2) ((rd_T25 x0 x9).f3) ((rd_T25 x0 x9).f4) x1 x2 x3).bind fun t132 => (if t132 = true then (some ((rd_T25 x0 x9).f0)) else (tollhouseref14_Admits.l0 k x0 x1 x2 x3 (wrap64 (x9 + 1))))) else (none)) else (some false)
def tollhouseref14_Admits.f (k : Nat) (l0 : List (S25)) (a1 : ByteArray) (a2 : Int) (a3 : ByteArray) : Option (Bool) := tollhouseref14_Admits.l0 k l0 a1 a2 a3 0
theorem tollhouseref14_Admits.mono_l : ∀ k, (∀ y0 y1 y2 y3 y4, LeO (tollhouseref14_Admits.l0 k y0 y1 y2 y3 y4) (tollhouseref14_Admits.l0 (k + 1) y0 y1 y2 y3 y4))
  | 0 => fun _ _ _ _ _ r h => by simp [tollhouseref14_Admits.l0] at h
  | k + 1 => by
    have ih0 := tollhouseref14_Admits.mono_l k
    · intro y0 y1 y2 y3 y4
      unfold tollhouseref14_Admits.l0
      repeat' first
      | (with_reducible exact ih0 _ _ _ _ _)
      | (with_reducible exact tollhouseref14_Matches.mono _ _ _ _ _ _ _ _ _)
      | (with_reducible exact LeO.refl _)
      | (with_reducible exact LeO.none _)
      | (with_reducible refine LeO.ite ?_ ?_)
      | (with_reducible refine LeO.bind ?_ (fun _ => ?_))
      | exact ih0 _ _ _ _ _
      | exact tollhouseref14_Matches.mono _ _ _ _ _ _ _ _ _
      | exact LeO.none _
      | refine LeO.ite ?_ ?_
      | refine LeO.bind ?_ (fun _ => ?_)
theorem tollhouseref14_Admits.mono : ∀ a0 a1 a2 a3 k, LeO (tollhouseref14_Admits.f k a0 a1 a2 a3) (tollhouseref14_Admits.f (k + 1) a0 a1 a2 a3) := by
  intro a0 a1 a2 a3 k
  have ih0 := tollhouseref14_Admits.mono_l k
  unfold tollhouseref14_Admits.f
  repeat' first
      | (with_reducible exact ih0 _ _ _ _ _)
      | (with_reducible exact tollhouseref14_Matches.mono _ _ _ _ _ _ _ _ _)
      | (with_reducible exact LeO.refl _)
      | (with_reducible exact LeO.none _)
      | (with_reducible refine LeO.ite ?_ ?_)
      | (with_reducible refine LeO.bind ?_ (fun _ => ?_))
      | exact ih0 _ _ _ _ _
      | exact tollhouseref14_Matches.mono _ _ _ _ _ _ _ _ _
      | exact LeO.none _
      | refine LeO.ite ?_ ?_
      | refine LeO.bind ?_ (fun _ => ?_)
set_option maxHeartbeats 8000000 in
set_option maxRecDepth 100000 in
theorem tollhouseref14_Admits.calls (k : Nat) (A0 : Option Addr) (c0 : Nat) (l0 : List (S25)) (a1 : ByteArray) (a2 : Int) (a3 : ByteArray) (r : Bool) (w : World) (hr0 : Kd.C k25 w A0 l0.length l0) (hc0 : l0.length ≤ c0) (HGg : Glob w) (h : tollhouseref14_Admits.f k l0 a1 a2 a3 = some r) :
    Calls Tryd.prog 19 #[.slice A0 l0.length c0, .string a1, .int .i64 a2, .string a3] w fun e w' => e = .returned (.bool r) ∧ Below w.heap.size w w' := by
  have hu25 := Tryd.underlying25
  have HGl := Aside0.mk HGg
  clear HGg
  have HR0 := Aside0.mk hr0
  have HC0 := Aside0.mk hc0
  clear hr0 hc0
  have HB := Aside0.mk (Below.refl w.heap.size w)
  have H : (tollhouseref14_Admits.l0 k l0 a1 a2 a3 0) = some r := h
  clear h
  have H' := Aside0.mk H
  clear H
  go_enter Tryd.func19, Tryd.ntmps19
  go_wp2
  go_loopg [9] k (fun kq v9 w' => ∃ (x9_1 : Int), v9 = .int .i64 x9_1 ∧ Aside0 (tollhouseref14_Admits.l0 kq l0 a1 a2 a3 x9_1 = some r) ∧ Aside0 (kq ≤ k) ∧ Aside0 (Below w.heap.size w w'))
  case atStart => exact ⟨(0), (by first | rfl | (simp; done) | (simp [*]; done)), H', ⟨Nat.le_refl _⟩, ⟨by repeat (first | (with_reducible first | exact HB.out | apply below_alloc | apply pw_below_drewN | apply below_drew1) | exact HB.out)⟩⟩
  case round =>
    clear H'
    try clear c1
    try clear p2
    obtain ⟨x9_1, rfl, HA, HK1, HB⟩ := hrel
    cases gk with
    | zero => exact absurd HA.out (by simp [tollhouseref14_Admits.l0])
    | succ k1 =>
      have H := HA.out
      clear HA
      simp only [tollhouseref14_Admits.l0] at H
      by_cases c5 : x9_1 < (l0.length : Int)
      · rw [if_pos c5] at H
        have c5b0 : decide (x9_1 < (l0.length : Int)) = true := decide_eq_true c5
        clear c5
        by_cases c6 : 0 ≤ x9_1
        · rw [if_pos c6] at H
          have c6b0 : decide (0 ≤ x9_1) = true := decide_eq_true c6
          clear c6
          replace H := Option.bind_eq_some_iff.mp H
          obtain ⟨t132, A70, H⟩ := H
          replace H : (if t132 = true then (some ((rd_T25 l0 x9_1).f0)) else (tollhouseref14_Admits.l0 k1 l0 a1 a2 a3 (wrap64 (x9_1 + 1)))) = some r := H
          have A7 := Aside0.mk A70
          clear A70
          by_cases c8 : t132 = true
          · subst c8
            have H1 : (some ((rd_T25 l0 x9_1).f0)) = some r := by rw [if_pos rfl] at H; exact H
            clear H
            have H := H1
            clear H1
            obtain rfl := Option.some.inj H
            have p131 : 0 ≤ (x9_1 : Int) := of_decide_eq_true (by first | (with_reducible assumption) | assumption)
            have q131 : x9_1 < (l0.length : Int) := of_decide_eq_true (by first | (with_reducible assumption) | assumption)
            obtain ⟨ad131, A131_4, c131_4, e131, hx131_0, hx131_1, hx131_2, hx131_3, hx131_4, hl131_4, hi131_4⟩ := at_T25 HR0.out x9_1 p131 q131
            cases e131
            replace hx131_0 := (HB.out.cell (World.block_lt_of_cell? w _ hx131_0)).trans hx131_0
            replace hx131_1 := (HB.out.cell (World.block_lt_of_cell? w _ hx131_1)).trans hx131_1
            replace hx131_2 := (HB.out.cell (World.block_lt_of_cell? w _ hx131_2)).trans hx131_2
            replace hx131_3 := (HB.out.cell (World.block_lt_of_cell? w _ hx131_3)).trans hx131_3
            replace hx131_4 := (HB.out.cell (World.block_lt_of_cell? w _ hx131_4)).trans hx131_4
            have HR131_4 := Aside0.mk hi131_4
            have HC131_4 := Aside0.mk hl131_4
            clear hi131_4 hl131_4
            replace p131 := eq_true p131
            replace q131 := eq_true q131
            go_wp2_with (first | ((with_reducible refine gate_callee (f := 17) rfl ?_); refine goesL_ (some 23) rfl rfl Tryd.func17 (by kernel_rfl) rfl #[.agg #[.bool ((rd_T25 l0 x9_1).f0), .string ((rd_T25 l0 x9_1).f1), .int .i64 ((rd_T25 l0 x9_1).f2), .int .i64 ((rd_T25 l0 x9_1).f3), .slice A131_4 ((rd_T25 l0 x9_1).f4).length c131_4], .string a1, .int .i64 a2, .string a3] rfl (by (try simp only [List.map_toArray, List.map_cons, List.map_nil]); first | done | rfl | (simp only [List.length_drop, List.length_take]; rfl)) ?_; (with_reducible refine (tollhouseref14_Matches.calls k1 ((rd_T25 l0 x9_1).f0) ((rd_T25 l0 x9_1).f1) ((rd_T25 l0 x9_1).f2) ((rd_T25 l0 x9_1).f3) _ _ ((rd_T25 l0 x9_1).f4) a1 a2 a3 true _ ?side1 ?side2 (Glob.below HGl.out (by repeat (first | (with_reducible first | exact HB.out | apply below_alloc | apply pw_below_drewN | apply below_drew1) | exact HB.out))) A7.out).mono ?_); (case side1 => repeat (first | exact (Kd.C_below HR131_4.out HB.out) | (with_reducible refine Kd.C_alloc ?_ _) | (with_reducible refine Kd.C_drewN ?_ _) | (with_reducible refine Kd.C_drew ?_))); (case side2 => exact HC131_4.out); rintro e w9 ⟨rfl, hb⟩; refine ⟨_, rfl, ?_⟩; have n0_ := Aside0.mk (below_step (by repeat (first | (with_reducible first | exact HB.out | apply below_alloc | apply pw_below_drewN | apply below_drew1) | exact HB.out)) hb); clear HB; have HB := n0_; clear n0_; (try clear hb); (try clear hb2); (try clear hk); (try clear hi); have p133 : 0 ≤ (x9_1 : Int) := of_decide_eq_true (by first | (with_reducible assumption) | assumption); have q133 : x9_1 < (l0.length : Int) := of_decide_eq_true (by first | (with_reducible assumption) | assumption); obtain ⟨ad133, A133_4, c133_4, e133, hx133_0, hx133_1, hx133_2, hx133_3, hx133_4, hl133_4, hi133_4⟩ := at_T25 HR0.out x9_1 p133 q133; obtain rfl : ad131 = ad133 := (by injection e133); replace hx133_0 := (HB.out.cell (World.block_lt_of_cell? w _ hx133_0)).trans hx133_0; replace hx133_1 := (HB.out.cell (World.block_lt_of_cell? w _ hx133_1)).trans hx133_1; replace hx133_2 := (HB.out.cell (World.block_lt_of_cell? w _ hx133_2)).trans hx133_2; replace hx133_3 := (HB.out.cell (World.block_lt_of_cell? w _ hx133_3)).trans hx133_3; replace hx133_4 := (HB.out.cell (World.block_lt_of_cell? w _ hx133_4)).trans hx133_4; have HR133_4 := Aside0.mk hi133_4; have HC133_4 := Aside0.mk hl133_4; clear hi133_4 hl133_4; replace p133 := eq_true p133; replace q133 := eq_true q133))
            go_ret
            exact ⟨by first | rfl | (simp [errW_none, errW_some] <;> rfl) | (simp [*, errW_none, errW_some] <;> rfl), by repeat (first | (with_reducible first | exact HB.out | apply below_alloc | apply pw_below_drewN | apply below_drew1) | exact HB.out)⟩
          · replace c8 := Bool.eq_false_iff.mpr c8
            subst c8
            have H1 : (tollhouseref14_Admits.l0 k1 l0 a1 a2 a3 (wrap64 (x9_1 + 1))) = some r := by rw [if_neg (show ¬ (false = true) by decide)] at H; exact H
            clear H
            have H := H1
            clear H1
            have H' := Aside0.mk H
            clear H
            have p131 : 0 ≤ (x9_1 : Int) := of_decide_eq_true (by first | (with_reducible assumption) | assumption)
            have q131 : x9_1 < (l0.length : Int) := of_decide_eq_true (by first | (with_reducible assumption) | assumption)
            obtain ⟨ad131, A131_4, c131_4, e131, hx131_0, hx131_1, hx131_2, hx131_3, hx131_4, hl131_4, hi131_4⟩ := at_T25 HR0.out x9_1 p131 q131
            cases e131
            replace hx131_0 := (HB.out.cell (World.block_lt_of_cell? w _ hx131_0)).trans hx131_0
            replace hx131_1 := (HB.out.cell (World.block_lt_of_cell? w _ hx131_1)).trans hx131_1
            replace hx131_2 := (HB.out.cell (World.block_lt_of_cell? w _ hx131_2)).trans hx131_2
            replace hx131_3 := (HB.out.cell (World.block_lt_of_cell? w _ hx131_3)).trans hx131_3
            replace hx131_4 := (HB.out.cell (World.block_lt_of_cell? w _ hx131_4)).trans hx131_4
            have HR131_4 := Aside0.mk hi131_4
            have HC131_4 := Aside0.mk hl131_4
            clear hi131_4 hl131_4
            replace p131 := eq_true p131
            replace q131 := eq_true q131
            go_wp2_with (first | ((with_reducible refine gate_callee (f := 17) rfl ?_); refine goesL_ (some 23) rfl rfl Tryd.func17 (by kernel_rfl) rfl #[.agg #[.bool ((rd_T25 l0 x9_1).f0), .string ((rd_T25 l0 x9_1).f1), .int .i64 ((rd_T25 l0 x9_1).f2), .int .i64 ((rd_T25 l0 x9_1).f3), .slice A131_4 ((rd_T25 l0 x9_1).f4).length c131_4], .string a1, .int .i64 a2, .string a3] rfl (by (try simp only [List.map_toArray, List.map_cons, List.map_nil]); first | done | rfl | (simp only [List.length_drop, List.length_take]; rfl)) ?_; (with_reducible refine (tollhouseref14_Matches.calls k1 ((rd_T25 l0 x9_1).f0) ((rd_T25 l0 x9_1).f1) ((rd_T25 l0 x9_1).f2) ((rd_T25 l0 x9_1).f3) _ _ ((rd_T25 l0 x9_1).f4) a1 a2 a3 false _ ?side1 ?side2 (Glob.below HGl.out (by repeat (first | (with_reducible first | exact HB.out | apply below_alloc | apply pw_below_drewN | apply below_drew1) | exact HB.out))) A7.out).mono ?_); (case side1 => repeat (first | exact (Kd.C_below HR131_4.out HB.out) | (with_reducible refine Kd.C_alloc ?_ _) | (with_reducible refine Kd.C_drewN ?_ _) | (with_reducible refine Kd.C_drew ?_))); (case side2 => exact HC131_4.out); rintro e w10 ⟨rfl, hb⟩; refine ⟨_, rfl, ?_⟩; have n0_ := Aside0.mk (below_step (by repeat (first | (with_reducible first | exact HB.out | apply below_alloc | apply pw_below_drewN | apply below_drew1) | exact HB.out)) hb); clear HB; have HB := n0_; clear n0_; (try clear hb); (try clear hb2); (try clear hk); (try clear hi)))
            go_roundg k1
            case measure => have := HK1.out; omega
            case rel => exact ⟨(wrap64 (x9_1 + 1)), (by first | rfl | (simp; done) | (simp [*]; done)), H', ⟨by have := HK1.out; omega⟩, ⟨by repeat (first | (with_reducible first | exact HB.out | apply below_alloc | apply pw_below_drewN | apply below_drew1) | exact HB.out)⟩⟩
        · rw [if_neg c6] at H
          exact absurd H (by simp)
      · rw [if_neg c5] at H
        have c5b0 : decide (x9_1 < (l0.length : Int)) = false := decide_eq_false c5
        clear c5
        obtain rfl := Option.some.inj H
        go_wp2
        go_ret
        exact ⟨by first | rfl | (simp [errW_none, errW_some] <;> rfl) | (simp [*, errW_none, errW_some] <;> rfl), by repeat (first | (with_reducible first | exact HB.out | apply below_alloc | apply pw_below_drewN | apply below_drew1) | exact HB.out)⟩

/-! ### tollhouselaw14_wakes: function 20 -/
def tollhouselaw14_wakes.f  : Option (Bool) := (some (([(⟨false, (⟨#[97]⟩ : ByteArray), 1, 65535, ([] : List ByteArray)⟩ : S25), (⟨true, (⟨#[42]⟩ : ByteArray), 1, 65535, (([(⟨#[71, 69, 84]⟩ : ByteArray)] : List ByteArray))⟩ : S25)] : List (S25)) : List (S25))).bind fun y138 => ((acl_Matches.f true (⟨#[46, 98, 46, 99]⟩ : ByteArray) 80 80 ([] : List ByteArray) (⟨#[97, 46, 98, 46, 99]⟩ : ByteArray) 80 (⟨#[88]⟩ : ByteArray)).bind fun t141 => (if t141 = true then ((acl_Matches.f true (⟨#[46, 98, 46, 99]⟩ : ByteArray) 80 80 ([] : List ByteArray) (⟨#[98, 46, 99]⟩ : ByteArray) 80 (⟨#[88]⟩ : ByteArray)).bind fun t142 => (if t142 = true then (some false) else ((acl_Matches.f true (⟨#[46, 98, 46, 99]⟩ : ByteArray) 80 80 ([] : List ByteArray) (⟨#[46, 98, 46, 99]⟩ : ByteArray) 80 (⟨#[88]⟩ : ByteArray)).bind fun t143 => (if t143 = true then (some false) else ((acl_Matches.f true (⟨#[46, 98, 46, 99]⟩ : ByteArray) 80 80 ([] : List ByteArray) (⟨#[97, 46, 98, 46, 99]⟩ : ByteArray) 81 (⟨#[88]⟩ : ByteArray)).bind fun t144 => (if t144 = true then (some false) else ((acl_Admits.f y138 (⟨#[97]⟩ : ByteArray) 80 (⟨#[71, 69, 84]⟩ : ByteArray)).bind fun t145 => (if t145 = true then (some false) else ((acl_Admits.f y138 (⟨#[98]⟩ : ByteArray) 80 (⟨#[71, 69, 84]⟩ : ByteArray)).bind fun t146 => (if t146 = true then ((acl_Admits.f y138 (⟨#[98]⟩ : ByteArray) 80 (⟨#[80, 79, 83, 84]⟩ : ByteArray)).bind fun t147 => (if t147 = true then (some false) else ((acl_All.f y138).bind fun t148 => (if t148 = true then ((acl_May.f true (⟨#[46, 98, 46, 99]⟩ : ByteArray) 80 80 ([] : List ByteArray)).bind fun t149 => (if t149 = true then ((acl_May.f false (⟨#[65]⟩ : ByteArray) 1 1 ([] : List ByteArray)).bind fun t150 => (some (!t150))) else (some false))) else (some false))))) else (some false))))))))))) else (some false)))
set_option maxHeartbeats 8000000 in
set_option maxRecDepth 100000 in
theorem tollhouselaw14_wakes.calls  (r : Bool) (w : World) (HGg : Glob w) (h : tollhouselaw14_wakes.f  = some r) :
    Calls Tryd.prog 20 #[] w fun e w' => e = .returned (.bool r) ∧ Below w.heap.size w w' := by
  have hu25 := Tryd.underlying25
  have HGl := Aside0.mk HGg
  clear HGg
  have HB := Aside0.mk (Below.refl w.heap.size w)
  have H : ((some (([(⟨false, (⟨#[97]⟩ : ByteArray), 1, 65535, ([] : List ByteArray)⟩ : S25), (⟨true, (⟨#[42]⟩ : ByteArray), 1, 65535, (([(⟨#[71, 69, 84]⟩ : ByteArray)] : List ByteArray))⟩ : S25)] : List (S25)) : List (S25))).bind fun y138 => ((acl_Matches.f true (⟨#[46, 98, 46, 99]⟩ : ByteArray) 80 80 ([] : List ByteArray) (⟨#[97, 46, 98, 46, 99]⟩ : ByteArray) 80 (⟨#[88]⟩ : ByteArray)).bind fun t141 => (if t141 = true then ((acl_Matches.f true (⟨#[46, 98, 46, 99]⟩ : ByteArray) 80 80 ([] : List ByteArray) (⟨#[98, 46, 99]⟩ : ByteArray) 80 (⟨#[88]⟩ : ByteArray)).bind fun t142 => (if t142 = true then (some false) else ((acl_Matches.f true (⟨#[46, 98, 46, 99]⟩ : ByteArray) 80 80 ([] : List ByteArray) (⟨#[46, 98, 46, 99]⟩ : ByteArray) 80 (⟨#[88]⟩ : ByteArray)).bind fun t143 => (if t143 = true then (some false) else ((acl_Matches.f true (⟨#[46, 98, 46, 99]⟩ : ByteArray) 80 80 ([] : List ByteArray) (⟨#[97, 46, 98, 46, 99]⟩ : ByteArray) 81 (⟨#[88]⟩ : ByteArray)).bind fun t144 => (if t144 = true then (some false) else ((acl_Admits.f y138 (⟨#[97]⟩ : ByteArray) 80 (⟨#[71, 69, 84]⟩ : ByteArray)).bind fun t145 => (if t145 = true then (some false) else ((acl_Admits.f y138 (⟨#[98]⟩ : ByteArray) 80 (⟨#[71, 69, 84]⟩ : ByteArray)).bind fun t146 => (if t146 = true then ((acl_Admits.f y138 (⟨#[98]⟩ : ByteArray) 80 (⟨#[80, 79, 83, 84]⟩ : ByteArray)).bind fun t147 => (if t147 = true then (some false) else ((acl_All.f y138).bind fun t148 => (if t148 = true then ((acl_May.f true (⟨#[46, 98, 46, 99]⟩ : ByteArray) 80 80 ([] : List ByteArray)).bind fun t149 => (if t149 = true then ((acl_May.f false (⟨#[65]⟩ : ByteArray) 1 1 ([] : List ByteArray)).bind fun t150 => (some (!t150))) else (some false))) else (some false))))) else (some false))))))))))) else (some false)))) = some r := h
  clear h
  obtain ⟨y135, hy135⟩ : ∃ y_ : List ByteArray, y_ = (([(⟨#[71, 69, 84]⟩ : ByteArray)] : List ByteArray)) := ⟨_, rfl⟩
  replace H : ((some (([(⟨false, (⟨#[97]⟩ : ByteArray), 1, 65535, ([] : List ByteArray)⟩ : S25), (⟨true, (⟨#[42]⟩ : ByteArray), 1, 65535, y135⟩ : S25)] : List (S25)) : List (S25))).bind fun y138 => ((acl_Matches.f true (⟨#[46, 98, 46, 99]⟩ : ByteArray) 80 80 ([] : List ByteArray) (⟨#[97, 46, 98, 46, 99]⟩ : ByteArray) 80 (⟨#[88]⟩ : ByteArray)).bind fun t141 => (if t141 = true then ((acl_Matches.f true (⟨#[46, 98, 46, 99]⟩ : ByteArray) 80 80 ([] : List ByteArray) (⟨#[98, 46, 99]⟩ : ByteArray) 80 (⟨#[88]⟩ : ByteArray)).bind fun t142 => (if t142 = true then (some false) else ((acl_Matches.f true (⟨#[46, 98, 46, 99]⟩ : ByteArray) 80 80 ([] : List ByteArray) (⟨#[46, 98, 46, 99]⟩ : ByteArray) 80 (⟨#[88]⟩ : ByteArray)).bind fun t143 => (if t143 = true then (some false) else ((acl_Matches.f true (⟨#[46, 98, 46, 99]⟩ : ByteArray) 80 80 ([] : List ByteArray) (⟨#[97, 46, 98, 46, 99]⟩ : ByteArray) 81 (⟨#[88]⟩ : ByteArray)).bind fun t144 => (if t144 = true then (some false) else ((acl_Admits.f y138 (⟨#[97]⟩ : ByteArray) 80 (⟨#[71, 69, 84]⟩ : ByteArray)).bind fun t145 => (if t145 = true then (some false) else ((acl_Admits.f y138 (⟨#[98]⟩ : ByteArray) 80 (⟨#[71, 69, 84]⟩ : ByteArray)).bind fun t146 => (if t146 = true then ((acl_Admits.f y138 (⟨#[98]⟩ : ByteArray) 80 (⟨#[80, 79, 83, 84]⟩ : ByteArray)).bind fun t147 => (if t147 = true then (some false) else ((acl_All.f y138).bind fun t148 => (if t148 = true then ((acl_May.f true (⟨#[46, 98, 46, 99]⟩ : ByteArray) 80 80 ([] : List ByteArray)).bind fun t149 => (if t149 = true then ((acl_May.f false (⟨#[65]⟩ : ByteArray) 1 1 ([] : List ByteArray)).bind fun t150 => (some (!t150))) else (some false))) else (some false))))) else (some false))))))))))) else (some false)))) = some r := by first | (rw [hy135]; with_reducible exact H) | (have H2_ := (Option.bind_some _ _).symm.trans H; rw [hy135]; with_reducible exact H2_) | (have H2_ := (Option.bind_some _ _).symm.trans H; with_reducible exact H2_) | with_reducible exact H | (rw [hy135]; exact H) | exact H
  have Ny135 := Aside0.mk hy135
  clear hy135
  obtain ⟨y138, hy138⟩ : ∃ y_ : List (S25), y_ = (([(⟨false, (⟨#[97]⟩ : ByteArray), 1, 65535, ([] : List ByteArray)⟩ : S25), (⟨true, (⟨#[42]⟩ : ByteArray), 1, 65535, y135⟩ : S25)] : List (S25))) := ⟨_, rfl⟩
  replace H : ((acl_Matches.f true (⟨#[46, 98, 46, 99]⟩ : ByteArray) 80 80 ([] : List ByteArray) (⟨#[97, 46, 98, 46, 99]⟩ : ByteArray) 80 (⟨#[88]⟩ : ByteArray)).bind fun t141 => (if t141 = true then ((acl_Matches.f true (⟨#[46, 98, 46, 99]⟩ : ByteArray) 80 80 ([] : List ByteArray) (⟨#[98, 46, 99]⟩ : ByteArray) 80 (⟨#[88]⟩ : ByteArray)).bind fun t142 => (if t142 = true then (some false) else ((acl_Matches.f true (⟨#[46, 98, 46, 99]⟩ : ByteArray) 80 80 ([] : List ByteArray) (⟨#[46, 98, 46, 99]⟩ : ByteArray) 80 (⟨#[88]⟩ : ByteArray)).bind fun t143 => (if t143 = true then (some false) else ((acl_Matches.f true (⟨#[46, 98, 46, 99]⟩ : ByteArray) 80 80 ([] : List ByteArray) (⟨#[97, 46, 98, 46, 99]⟩ : ByteArray) 81 (⟨#[88]⟩ : ByteArray)).bind fun t144 => (if t144 = true then (some false) else ((acl_Admits.f y138 (⟨#[97]⟩ : ByteArray) 80 (⟨#[71, 69, 84]⟩ : ByteArray)).bind fun t145 => (if t145 = true then (some false) else ((acl_Admits.f y138 (⟨#[98]⟩ : ByteArray) 80 (⟨#[71, 69, 84]⟩ : ByteArray)).bind fun t146 => (if t146 = true then ((acl_Admits.f y138 (⟨#[98]⟩ : ByteArray) 80 (⟨#[80, 79, 83, 84]⟩ : ByteArray)).bind fun t147 => (if t147 = true then (some false) else ((acl_All.f y138).bind fun t148 => (if t148 = true then ((acl_May.f true (⟨#[46, 98, 46, 99]⟩ : ByteArray) 80 80 ([] : List ByteArray)).bind fun t149 => (if t149 = true then ((acl_May.f false (⟨#[65]⟩ : ByteArray) 1 1 ([] : List ByteArray)).bind fun t150 => (some (!t150))) else (some false))) else (some false))))) else (some false))))))))))) else (some false))) = some r := by first | (rw [hy138]; with_reducible exact H) | (have H2_ := (Option.bind_some _ _).symm.trans H; rw [hy138]; with_reducible exact H2_) | (have H2_ := (Option.bind_some _ _).symm.trans H; with_reducible exact H2_) | with_reducible exact H | (rw [hy138]; exact H) | exact H
  have Ny138 := Aside0.mk hy138
  clear hy138
  replace H := Option.bind_eq_some_iff.mp H
  obtain ⟨t141, A10, H⟩ := H
  replace H : (if t141 = true then ((acl_Matches.f true (⟨#[46, 98, 46, 99]⟩ : ByteArray) 80 80 ([] : List ByteArray) (⟨#[98, 46, 99]⟩ : ByteArray) 80 (⟨#[88]⟩ : ByteArray)).bind fun t142 => (if t142 = true then (some false) else ((acl_Matches.f true (⟨#[46, 98, 46, 99]⟩ : ByteArray) 80 80 ([] : List ByteArray) (⟨#[46, 98, 46, 99]⟩ : ByteArray) 80 (⟨#[88]⟩ : ByteArray)).bind fun t143 => (if t143 = true then (some false) else ((acl_Matches.f true (⟨#[46, 98, 46, 99]⟩ : ByteArray) 80 80 ([] : List ByteArray) (⟨#[97, 46, 98, 46, 99]⟩ : ByteArray) 81 (⟨#[88]⟩ : ByteArray)).bind fun t144 => (if t144 = true then (some false) else ((acl_Admits.f y138 (⟨#[97]⟩ : ByteArray) 80 (⟨#[71, 69, 84]⟩ : ByteArray)).bind fun t145 => (if t145 = true then (some false) else ((acl_Admits.f y138 (⟨#[98]⟩ : ByteArray) 80 (⟨#[71, 69, 84]⟩ : ByteArray)).bind fun t146 => (if t146 = true then ((acl_Admits.f y138 (⟨#[98]⟩ : ByteArray) 80 (⟨#[80, 79, 83, 84]⟩ : ByteArray)).bind fun t147 => (if t147 = true then (some false) else ((acl_All.f y138).bind fun t148 => (if t148 = true then ((acl_May.f true (⟨#[46, 98, 46, 99]⟩ : ByteArray) 80 80 ([] : List ByteArray)).bind fun t149 => (if t149 = true then ((acl_May.f false (⟨#[65]⟩ : ByteArray) 1 1 ([] : List ByteArray)).bind fun t150 => (some (!t150))) else (some false))) else (some false))))) else (some false))))))))))) else (some false)) = some r := H
  have A1 := Aside0.mk A10
  clear A10
  by_cases c2 : t141 = true
  · subst c2
    have H1 : ((acl_Matches.f true (⟨#[46, 98, 46, 99]⟩ : ByteArray) 80 80 ([] : List ByteArray) (⟨#[98, 46, 99]⟩ : ByteArray) 80 (⟨#[88]⟩ : ByteArray)).bind fun t142 => (if t142 = true then (some false) else ((acl_Matches.f true (⟨#[46, 98, 46, 99]⟩ : ByteArray) 80 80 ([] : List ByteArray) (⟨#[46, 98, 46, 99]⟩ : ByteArray) 80 (⟨#[88]⟩ : ByteArray)).bind fun t143 => (if t143 = true then (some false) else ((acl_Matches.f true (⟨#[46, 98, 46, 99]⟩ : ByteArray) 80 80 ([] : List ByteArray) (⟨#[97, 46, 98, 46, 99]⟩ : ByteArray) 81 (⟨#[88]⟩ : ByteArray)).bind fun t144 => (if t144 = true then (some false) else ((acl_Admits.f y138 (⟨#[97]⟩ : ByteArray) 80 (⟨#[71, 69, 84]⟩ : ByteArray)).bind fun t145 => (if t145 = true then (some false) else ((acl_Admits.f y138 (⟨#[98]⟩ : ByteArray) 80 (⟨#[71, 69, 84]⟩ : ByteArray)).bind fun t146 => (if t146 = true then ((acl_Admits.f y138 (⟨#[98]⟩ : ByteArray) 80 (⟨#[80, 79, 83, 84]⟩ : ByteArray)).bind fun t147 => (if t147 = true then (some false) else ((acl_All.f y138).bind fun t148 => (if t148 = true then ((acl_May.f true (⟨#[46, 98, 46, 99]⟩ : ByteArray) 80 80 ([] : List ByteArray)).bind fun t149 => (if t149 = true then ((acl_May.f false (⟨#[65]⟩ : ByteArray) 1 1 ([] : List ByteArray)).bind fun t150 => (some (!t150))) else (some false))) else (some false))))) else (some false))))))))))) = some r := by rw [if_pos rfl] at H; exact H
    clear H
    have H := H1
    clear H1
    replace H := Option.bind_eq_some_iff.mp H
    obtain ⟨t142, A30, H⟩ := H
    replace H : (if t142 = true then (some false) else ((acl_Matches.f true (⟨#[46, 98, 46, 99]⟩ : ByteArray) 80 80 ([] : List ByteArray) (⟨#[46, 98, 46, 99]⟩ : ByteArray) 80 (⟨#[88]⟩ : ByteArray)).bind fun t143 => (if t143 = true then (some false) else ((acl_Matches.f true (⟨#[46, 98, 46, 99]⟩ : ByteArray) 80 80 ([] : List ByteArray) (⟨#[97, 46, 98, 46, 99]⟩ : ByteArray) 81 (⟨#[88]⟩ : ByteArray)).bind fun t144 => (if t144 = true then (some false) else ((acl_Admits.f y138 (⟨#[97]⟩ : ByteArray) 80 (⟨#[71, 69, 84]⟩ : ByteArray)).bind fun t145 => (if t145 = true then (some false) else ((acl_Admits.f y138 (⟨#[98]⟩ : ByteArray) 80 (⟨#[71, 69, 84]⟩ : ByteArray)).bind fun t146 => (if t146 = true then ((acl_Admits.f y138 (⟨#[98]⟩ : ByteArray) 80 (⟨#[80, 79, 83, 84]⟩ : ByteArray)).bind fun t147 => (if t147 = true then (some false) else ((acl_All.f y138).bind fun t148 => (if t148 = true then ((acl_May.f true (⟨#[46, 98, 46, 99]⟩ : ByteArray) 80 80 ([] : List ByteArray)).bind fun t149 => (if t149 = true then ((acl_May.f false (⟨#[65]⟩ : ByteArray) 1 1 ([] : List ByteArray)).bind fun t150 => (some (!t150))) else (some false))) else (some false))))) else (some false)))))))))) = some r := H
    have A3 := Aside0.mk A30
    clear A30
    by_cases c4 : t142 = true
    · subst c4
      have H1 : (some false) = some r := by rw [if_pos rfl] at H; exact H
      clear H
      have H := H1
      clear H1
      obtain rfl := Option.some.inj H
      have h_ := A3.out
      (try rw [Ny138.out] at h_)
      (try rw [Ny135.out] at h_)
      exact absurd h_ (by decide +kernel)
    · replace c4 := Bool.eq_false_iff.mpr c4
      subst c4
      have H1 : ((acl_Matches.f true (⟨#[46, 98, 46, 99]⟩ : ByteArray) 80 80 ([] : List ByteArray) (⟨#[46, 98, 46, 99]⟩ : ByteArray) 80 (⟨#[88]⟩ : ByteArray)).bind fun t143 => (if t143 = true then (some false) else ((acl_Matches.f true (⟨#[46, 98, 46, 99]⟩ : ByteArray) 80 80 ([] : List ByteArray) (⟨#[97, 46, 98, 46, 99]⟩ : ByteArray) 81 (⟨#[88]⟩ : ByteArray)).bind fun t144 => (if t144 = true then (some false) else ((acl_Admits.f y138 (⟨#[97]⟩ : ByteArray) 80 (⟨#[71, 69, 84]⟩ : ByteArray)).bind fun t145 => (if t145 = true then (some false) else ((acl_Admits.f y138 (⟨#[98]⟩ : ByteArray) 80 (⟨#[71, 69, 84]⟩ : ByteArray)).bind fun t146 => (if t146 = true then ((acl_Admits.f y138 (⟨#[98]⟩ : ByteArray) 80 (⟨#[80, 79, 83, 84]⟩ : ByteArray)).bind fun t147 => (if t147 = true then (some false) else ((acl_All.f y138).bind fun t148 => (if t148 = true then ((acl_May.f true (⟨#[46, 98, 46, 99]⟩ : ByteArray) 80 80 ([] : List ByteArray)).bind fun t149 => (if t149 = true then ((acl_May.f false (⟨#[65]⟩ : ByteArray) 1 1 ([] : List ByteArray)).bind fun t150 => (some (!t150))) else (some false))) else (some false))))) else (some false))))))))) = some r := by rw [if_neg (show ¬ (false = true) by decide)] at H; exact H
      clear H
      have H := H1
      clear H1
      replace H := Option.bind_eq_some_iff.mp H
      obtain ⟨t143, A160, H⟩ := H
      replace H : (if t143 = true then (some false) else ((acl_Matches.f true (⟨#[46, 98, 46, 99]⟩ : ByteArray) 80 80 ([] : List ByteArray) (⟨#[97, 46, 98, 46, 99]⟩ : ByteArray) 81 (⟨#[88]⟩ : ByteArray)).bind fun t144 => (if t144 = true then (some false) else ((acl_Admits.f y138 (⟨#[97]⟩ : ByteArray) 80 (⟨#[71, 69, 84]⟩ : ByteArray)).bind fun t145 => (if t145 = true then (some false) else ((acl_Admits.f y138 (⟨#[98]⟩ : ByteArray) 80 (⟨#[71, 69, 84]⟩ : ByteArray)).bind fun t146 => (if t146 = true then ((acl_Admits.f y138 (⟨#[98]⟩ : ByteArray) 80 (⟨#[80, 79, 83, 84]⟩ : ByteArray)).bind fun t147 => (if t147 = true then (some false) else ((acl_All.f y138).bind fun t148 => (if t148 = true then ((acl_May.f true (⟨#[46, 98, 46, 99]⟩ : ByteArray) 80 80 ([] : List ByteArray)).bind fun t149 => (if t149 = true then ((acl_May.f false (⟨#[65]⟩ : ByteArray) 1 1 ([] : List ByteArray)).bind fun t150 => (some (!t150))) else (some false))) else (some false))))) else (some false)))))))) = some r := H
      have A16 := Aside0.mk A160
      clear A160
      by_cases c17 : t143 = true
      · subst c17
        have H1 : (some false) = some r := by rw [if_pos rfl] at H; exact H
        clear H
        have H := H1
        clear H1
        obtain rfl := Option.some.inj H
        have h_ := A16.out
        (try rw [Ny138.out] at h_)
        (try rw [Ny135.out] at h_)
        exact absurd h_ (by decide +kernel)
      · replace c17 := Bool.eq_false_iff.mpr c17
        subst c17
        have H1 : ((acl_Matches.f true (⟨#[46, 98, 46, 99]⟩ : ByteArray) 80 80 ([] : List ByteArray) (⟨#[97, 46, 98, 46, 99]⟩ : ByteArray) 81 (⟨#[88]⟩ : ByteArray)).bind fun t144 => (if t144 = true then (some false) else ((acl_Admits.f y138 (⟨#[97]⟩ : ByteArray) 80 (⟨#[71, 69, 84]⟩ : ByteArray)).bind fun t145 => (if t145 = true then (some false) else ((acl_Admits.f y138 (⟨#[98]⟩ : ByteArray) 80 (⟨#[71, 69, 84]⟩ : ByteArray)).bind fun t146 => (if t146 = true then ((acl_Admits.f y138 (⟨#[98]⟩ : ByteArray) 80 (⟨#[80, 79, 83, 84]⟩ : ByteArray)).bind fun t147 => (if t147 = true then (some false) else ((acl_All.f y138).bind fun t148 => (if t148 = true then ((acl_May.f true (⟨#[46, 98, 46, 99]⟩ : ByteArray) 80 80 ([] : List ByteArray)).bind fun t149 => (if t149 = true then ((acl_May.f false (⟨#[65]⟩ : ByteArray) 1 1 ([] : List ByteArray)).bind fun t150 => (some (!t150))) else (some false))) else (some false))))) else (some false))))))) = some r := by rw [if_neg (show ¬ (false = true) by decide)] at H; exact H
        clear H
        have H := H1
        clear H1
        replace H := Option.bind_eq_some_iff.mp H
        obtain ⟨t144, A310, H⟩ := H
        replace H : (if t144 = true then (some false) else ((acl_Admits.f y138 (⟨#[97]⟩ : ByteArray) 80 (⟨#[71, 69, 84]⟩ : ByteArray)).bind fun t145 => (if t145 = true then (some false) else ((acl_Admits.f y138 (⟨#[98]⟩ : ByteArray) 80 (⟨#[71, 69, 84]⟩ : ByteArray)).bind fun t146 => (if t146 = true then ((acl_Admits.f y138 (⟨#[98]⟩ : ByteArray) 80 (⟨#[80, 79, 83, 84]⟩ : ByteArray)).bind fun t147 => (if t147 = true then (some false) else ((acl_All.f y138).bind fun t148 => (if t148 = true then ((acl_May.f true (⟨#[46, 98, 46, 99]⟩ : ByteArray) 80 80 ([] : List ByteArray)).bind fun t149 => (if t149 = true then ((acl_May.f false (⟨#[65]⟩ : ByteArray) 1 1 ([] : List ByteArray)).bind fun t150 => (some (!t150))) else (some false))) else (some false))))) else (some false)))))) = some r := H
        have A31 := Aside0.mk A310
        clear A310
        by_cases c32 : t144 = true
        · subst c32
          have H1 : (some false) = some r := by rw [if_pos rfl] at H; exact H
          clear H
          have H := H1
          clear H1
          obtain rfl := Option.some.inj H
          have h_ := A31.out
          (try rw [Ny138.out] at h_)
          (try rw [Ny135.out] at h_)
          exact absurd h_ (by decide +kernel)
        · replace c32 := Bool.eq_false_iff.mpr c32
          subst c32
          have H1 : ((acl_Admits.f y138 (⟨#[97]⟩ : ByteArray) 80 (⟨#[71, 69, 84]⟩ : ByteArray)).bind fun t145 => (if t145 = true then (some false) else ((acl_Admits.f y138 (⟨#[98]⟩ : ByteArray) 80 (⟨#[71, 69, 84]⟩ : ByteArray)).bind fun t146 => (if t146 = true then ((acl_Admits.f y138 (⟨#[98]⟩ : ByteArray) 80 (⟨#[80, 79, 83, 84]⟩ : ByteArray)).bind fun t147 => (if t147 = true then (some false) else ((acl_All.f y138).bind fun t148 => (if t148 = true then ((acl_May.f true (⟨#[46, 98, 46, 99]⟩ : ByteArray) 80 80 ([] : List ByteArray)).bind fun t149 => (if t149 = true then ((acl_May.f false (⟨#[65]⟩ : ByteArray) 1 1 ([] : List ByteArray)).bind fun t150 => (some (!t150))) else (some false))) else (some false))))) else (some false))))) = some r := by rw [if_neg (show ¬ (false = true) by decide)] at H; exact H
          clear H
          have H := H1
          clear H1
          replace H := Option.bind_eq_some_iff.mp H
          obtain ⟨t145, A480, H⟩ := H
          replace H : (if t145 = true then (some false) else ((acl_Admits.f y138 (⟨#[98]⟩ : ByteArray) 80 (⟨#[71, 69, 84]⟩ : ByteArray)).bind fun t146 => (if t146 = true then ((acl_Admits.f y138 (⟨#[98]⟩ : ByteArray) 80 (⟨#[80, 79, 83, 84]⟩ : ByteArray)).bind fun t147 => (if t147 = true then (some false) else ((acl_All.f y138).bind fun t148 => (if t148 = true then ((acl_May.f true (⟨#[46, 98, 46, 99]⟩ : ByteArray) 80 80 ([] : List ByteArray)).bind fun t149 => (if t149 = true then ((acl_May.f false (⟨#[65]⟩ : ByteArray) 1 1 ([] : List ByteArray)).bind fun t150 => (some (!t150))) else (some false))) else (some false))))) else (some false)))) = some r := H
          have A48 := Aside0.mk A480
          clear A480
          by_cases c49 : t145 = true
          · subst c49
            have H1 : (some false) = some r := by rw [if_pos rfl] at H; exact H
            clear H
            have H := H1
            clear H1
            obtain rfl := Option.some.inj H
            have h_ := A48.out
            (try rw [Ny138.out] at h_)
            (try rw [Ny135.out] at h_)
            exact absurd h_ (by decide +kernel)
          · replace c49 := Bool.eq_false_iff.mpr c49
            subst c49
            have H1 : ((acl_Admits.f y138 (⟨#[98]⟩ : ByteArray) 80 (⟨#[71, 69, 84]⟩ : ByteArray)).bind fun t146 => (if t146 = true then ((acl_Admits.f y138 (⟨#[98]⟩ : ByteArray) 80 (⟨#[80, 79, 83, 84]⟩ : ByteArray)).bind fun t147 => (if t147 = true then (some false) else ((acl_All.f y138).bind fun t148 => (if t148 = true then ((acl_May.f true (⟨#[46, 98, 46, 99]⟩ : ByteArray) 80 80 ([] : List ByteArray)).bind fun t149 => (if t149 = true then ((acl_May.f false (⟨#[65]⟩ : ByteArray) 1 1 ([] : List ByteArray)).bind fun t150 => (some (!t150))) else (some false))) else (some false))))) else (some false))) = some r := by rw [if_neg (show ¬ (false = true) by decide)] at H; exact H
            clear H
            have H := H1
            clear H1
            replace H := Option.bind_eq_some_iff.mp H
            obtain ⟨t146, A670, H⟩ := H
            replace H : (if t146 = true then ((acl_Admits.f y138 (⟨#[98]⟩ : ByteArray) 80 (⟨#[80, 79, 83, 84]⟩ : ByteArray)).bind fun t147 => (if t147 = true then (some false) else ((acl_All.f y138).bind fun t148 => (if t148 = true then ((acl_May.f true (⟨#[46, 98, 46, 99]⟩ : ByteArray) 80 80 ([] : List ByteArray)).bind fun t149 => (if t149 = true then ((acl_May.f false (⟨#[65]⟩ : ByteArray) 1 1 ([] : List ByteArray)).bind fun t150 => (some (!t150))) else (some false))) else (some false))))) else (some false)) = some r := H
            have A67 := Aside0.mk A670
            clear A670
            by_cases c68 : t146 = true
            · subst c68
              have H1 : ((acl_Admits.f y138 (⟨#[98]⟩ : ByteArray) 80 (⟨#[80, 79, 83, 84]⟩ : ByteArray)).bind fun t147 => (if t147 = true then (some false) else ((acl_All.f y138).bind fun t148 => (if t148 = true then ((acl_May.f true (⟨#[46, 98, 46, 99]⟩ : ByteArray) 80 80 ([] : List ByteArray)).bind fun t149 => (if t149 = true then ((acl_May.f false (⟨#[65]⟩ : ByteArray) 1 1 ([] : List ByteArray)).bind fun t150 => (some (!t150))) else (some false))) else (some false))))) = some r := by rw [if_pos rfl] at H; exact H
              clear H
              have H := H1
              clear H1
              replace H := Option.bind_eq_some_iff.mp H
              obtain ⟨t147, A690, H⟩ := H
              replace H : (if t147 = true then (some false) else ((acl_All.f y138).bind fun t148 => (if t148 = true then ((acl_May.f true (⟨#[46, 98, 46, 99]⟩ : ByteArray) 80 80 ([] : List ByteArray)).bind fun t149 => (if t149 = true then ((acl_May.f false (⟨#[65]⟩ : ByteArray) 1 1 ([] : List ByteArray)).bind fun t150 => (some (!t150))) else (some false))) else (some false)))) = some r := H
              have A69 := Aside0.mk A690
              clear A690
              by_cases c70 : t147 = true
              · subst c70
                have H1 : (some false) = some r := by rw [if_pos rfl] at H; exact H
                clear H
                have H := H1
                clear H1
                obtain rfl := Option.some.inj H
                have h_ := A69.out
                (try rw [Ny138.out] at h_)
                (try rw [Ny135.out] at h_)
                exact absurd h_ (by decide +kernel)
              · replace c70 := Bool.eq_false_iff.mpr c70
                subst c70
                have H1 : ((acl_All.f y138).bind fun t148 => (if t148 = true then ((acl_May.f true (⟨#[46, 98, 46, 99]⟩ : ByteArray) 80 80 ([] : List ByteArray)).bind fun t149 => (if t149 = true then ((acl_May.f false (⟨#[65]⟩ : ByteArray) 1 1 ([] : List ByteArray)).bind fun t150 => (some (!t150))) else (some false))) else (some false))) = some r := by rw [if_neg (show ¬ (false = true) by decide)] at H; exact H
                clear H
                have H := H1
                clear H1
                replace H := Option.bind_eq_some_iff.mp H
                obtain ⟨t148, A900, H⟩ := H
                replace H : (if t148 = true then ((acl_May.f true (⟨#[46, 98, 46, 99]⟩ : ByteArray) 80 80 ([] : List ByteArray)).bind fun t149 => (if t149 = true then ((acl_May.f false (⟨#[65]⟩ : ByteArray) 1 1 ([] : List ByteArray)).bind fun t150 => (some (!t150))) else (some false))) else (some false)) = some r := H
                have A90 := Aside0.mk A900
                clear A900
                by_cases c91 : t148 = true
                · subst c91
                  have H1 : ((acl_May.f true (⟨#[46, 98, 46, 99]⟩ : ByteArray) 80 80 ([] : List ByteArray)).bind fun t149 => (if t149 = true then ((acl_May.f false (⟨#[65]⟩ : ByteArray) 1 1 ([] : List ByteArray)).bind fun t150 => (some (!t150))) else (some false))) = some r := by rw [if_pos rfl] at H; exact H
                  clear H
                  have H := H1
                  clear H1
                  replace H := Option.bind_eq_some_iff.mp H
                  obtain ⟨t149, A920, H⟩ := H
                  replace H : (if t149 = true then ((acl_May.f false (⟨#[65]⟩ : ByteArray) 1 1 ([] : List ByteArray)).bind fun t150 => (some (!t150))) else (some false)) = some r := H
                  have A92 := Aside0.mk A920
                  clear A920
                  by_cases c93 : t149 = true
                  · subst c93
                    have H1 : ((acl_May.f false (⟨#[65]⟩ : ByteArray) 1 1 ([] : List ByteArray)).bind fun t150 => (some (!t150))) = some r := by rw [if_pos rfl] at H; exact H
                    clear H
                    have H := H1
                    clear H1
                    replace H := Option.bind_eq_some_iff.mp H
                    obtain ⟨t150, A940, H⟩ := H
                    replace H : (some (!t150)) = some r := H
                    have A94 := Aside0.mk A940
                    clear A940
                    obtain rfl := Option.some.inj H
                    go_enter Tryd.func20, Tryd.ntmps20
                    have tk1 : True := trivial
                    have tk2 : True := trivial
                    have tk3 : True := trivial
                    have tk4 : True := trivial
                    have tk5 : True := trivial
                    have tk6 : True := trivial
                    have tk7 : True := trivial
                    have tk8 : True := trivial
                    have tk9 : True := trivial
                    have tk10 : True := trivial
                    have tk11 : True := trivial
                    have tk12 : True := trivial
                    have tk13 : True := trivial
                    go_wp2_with (first | (have t_1 := tk1; clear tk1; clear t_1; (with_reducible refine gate_dst (N := 1) rfl ?_); refine box_event ?hg (N := 1) ?hd (cs := #[.bool false, .string (⟨#[]⟩ : ByteArray), .int .i64 0, .int .i64 0, .slice none 0 0]) (t := 25) ?hr ?_; (case hd => rfl); (case hg => rfl); (case hr => first | (go_simp; done) | (go_simp; rfl)); intro gb134 hg w95 hbox hb; have n0_ := Aside0.mk (below_step (by repeat (first | (with_reducible first | exact HB.out | apply below_alloc | apply pw_below_drewN | apply below_drew1) | exact HB.out)) hb); have n1_ := Aside0.mk (hbox); have n2_ := Aside0.mk ((by rw [hg]; exact (below_size (by repeat (first | (with_reducible first | exact HB.out | apply below_alloc | apply pw_below_drewN | apply below_drew1) | exact HB.out))) : w.heap.size ≤ gb134)); have n3_ := Aside0.mk ((by rw [hg]; exact (below_size (by repeat (first | (with_reducible first | exact HB.out | apply below_alloc | apply pw_below_drewN | apply below_drew1) | exact HB.out))) : w.heap.size ≤ gb134)); clear HB; have HB := n0_; have BK134 := n1_; have GW134 := n2_; have GE134 := n3_; clear n0_ n1_ n2_ n3_; clear hb hbox hg; have hcz96_0 : w95.cell? ⟨gb134, 0, none⟩ = some (.bool false) := (blk_cell BK134.out 0).trans rfl; have hcz96_1 : w95.cell? ⟨gb134, 1, none⟩ = some (.string (⟨#[]⟩ : ByteArray)) := (blk_cell BK134.out 1).trans rfl; have hcz96_2 : w95.cell? ⟨gb134, 2, none⟩ = some (.int .i64 0) := (blk_cell BK134.out 2).trans rfl; have hcz96_3 : w95.cell? ⟨gb134, 3, none⟩ = some (.int .i64 0) := (blk_cell BK134.out 3).trans rfl; have hcz96_4 : w95.cell? ⟨gb134, 4, none⟩ = some (.slice none 0 0) := (blk_cell BK134.out 4).trans rfl; have hfz96_0 := blk_frozen BK134.out 0; have hfz96_1 := blk_frozen BK134.out 1; have hfz96_2 := blk_frozen BK134.out 2; have hfz96_3 := blk_frozen BK134.out 3; have hfz96_4 := blk_frozen BK134.out 4) | (have t_2 := tk2; clear tk2; clear t_2; (with_reducible refine gate_dst (N := 5) rfl ?_); refine Kd.R_lit Kd.string _ 9 ?hg (N := 5) ?hd (xs := ([(⟨#[71, 69, 84]⟩ : ByteArray)] : List ByteArray)) (inner := [.string (⟨#[71, 69, 84]⟩ : ByteArray)]) (ok := fun _ => True) (okp := fun _ => True) ?hr ?hp (fun _ hk => hk) trivial (Below.refl _ _) (Nat.le_refl _) (by simp) ?_; (case hd => rfl); (case hg => rfl); (case hr => first | (go_simp; done) | (go_simp; rfl)); (case hp => exact (Reps.one (show Kd.M Kd.string _ _ _ (⟨#[71, 69, 84]⟩ : ByteArray) [.string (⟨#[71, 69, 84]⟩ : ByteArray)] from rfl) (Reps.none _ _))); intro v136 w97 ho98 hb hg_ hnew_; clear hg_ hnew_; (first | rw [← Ny135.out] at ho98 | (simp only [Int.reduceToNat] at ho98; rw [← Ny135.out] at ho98)); have n0_ := Aside0.mk (Kd.R_lower ho98 (below_size (by repeat (first | (with_reducible first | exact HB.out | apply below_alloc | apply pw_below_drewN | apply below_drew1 | refine below_set ?_ GE134.out) | exact HB.out)))); have n1_ := Aside0.mk (blk_below (g := gb134) (o := .cells #[.bool true, .string (⟨#[46, 98, 46, 99]⟩ : ByteArray), .int .i64 80, .int .i64 80, .slice none 0 0] 25 (0, 0)) (by (with_reducible repeat (first | refine blk_drewN ?_ _ | refine blk_drew ?_ | refine blk_alloc ?_ _)); refine blk_put (cs := #[.bool true, .string (⟨#[46, 98, 46, 99]⟩ : ByteArray), .int .i64 80, .int .i64 80, .slice none 0 0]) ?_ 4 _ rfl; (with_reducible repeat (first | refine blk_drewN ?_ _ | refine blk_drew ?_ | refine blk_alloc ?_ _)); refine blk_put (cs := #[.bool true, .string (⟨#[46, 98, 46, 99]⟩ : ByteArray), .int .i64 80, .int .i64 0, .slice none 0 0]) ?_ 3 _ rfl; (with_reducible repeat (first | refine blk_drewN ?_ _ | refine blk_drew ?_ | refine blk_alloc ?_ _)); refine blk_put (cs := #[.bool true, .string (⟨#[46, 98, 46, 99]⟩ : ByteArray), .int .i64 0, .int .i64 0, .slice none 0 0]) ?_ 2 _ rfl; (with_reducible repeat (first | refine blk_drewN ?_ _ | refine blk_drew ?_ | refine blk_alloc ?_ _)); refine blk_put (cs := #[.bool true, .string (⟨#[]⟩ : ByteArray), .int .i64 0, .int .i64 0, .slice none 0 0]) ?_ 1 _ rfl; (with_reducible repeat (first | refine blk_drewN ?_ _ | refine blk_drew ?_ | refine blk_alloc ?_ _)); refine blk_put (cs := #[.bool false, .string (⟨#[]⟩ : ByteArray), .int .i64 0, .int .i64 0, .slice none 0 0]) ?_ 0 _ rfl; (with_reducible repeat (first | refine blk_drewN ?_ _ | refine blk_drew ?_ | refine blk_alloc ?_ _)); exact BK134.out) hb); have n2_ := Aside0.mk (below_step (by repeat (first | (with_reducible first | exact HB.out | apply below_alloc | apply pw_below_drewN | apply below_drew1 | refine below_set ?_ GE134.out) | exact HB.out)) hb); clear BK134; clear HB; have HO137 := n0_; have BK134 := n1_; have HB := n2_; clear n0_ n1_ n2_; clear hb ho98; obtain ⟨Ao99, co99, eo99⟩ := Kd.R_slice HO137.out; subst eo99) | (have t_3 := tk3; clear tk3; clear t_3; (with_reducible refine gate_dst (N := 7) rfl ?_); refine Kd.N_lit k25 _ 25 ?hg (N' := 7) ?hd (xs := ([(⟨false, (⟨#[97]⟩ : ByteArray), 1, 65535, ([] : List ByteArray)⟩ : S25), (⟨true, (⟨#[42]⟩ : ByteArray), 1, 65535, y135⟩ : S25)] : List (S25))) (inner := [.bool false, .string (⟨#[97]⟩ : ByteArray), .int .i64 1, .int .i64 65535, .slice none 0 0, .bool true, .string (⟨#[42]⟩ : ByteArray), .int .i64 1, .int .i64 65535, .slice Ao99 y135.length co99]) (ok := (fun k_ => k_ ≠ gb134)) (okp := (fun k_ => k_ ≠ gb134)) ?hr ?hp (fun _ hk => hk) ((show ∀ k_, w97.heap.size ≤ k_ → (fun k_ => k_ ≠ gb134) k_ from fun k_ hk => Kd.freshB (g := gb134) (o := .cells #[.bool true, .string (⟨#[46, 98, 46, 99]⟩ : ByteArray), .int .i64 80, .int .i64 80, .slice none 0 0] 25 (0, 0)) (by (with_reducible repeat (first | refine blk_drewN ?_ _ | refine blk_drew ?_ | refine blk_alloc ?_ _)); exact BK134.out) k_ hk) _ (Nat.le_refl _)) (Below.refl _ _) (Nat.le_refl _) (by simp) ?_; (case hd => rfl); (case hg => rfl); (case hr => first | (go_simp; done) | (go_simp; rfl)); (case hp => exact (Reps.c5 (show Kd.FK k25 _ _ (⟨false, (⟨#[97]⟩ : ByteArray), 1, 65535, ([] : List ByteArray)⟩ : S25) [.bool false, .string (⟨#[97]⟩ : ByteArray), .int .i64 1, .int .i64 65535, .slice none 0 0] from (k25_mkF _ _ (⟨false, (⟨#[97]⟩ : ByteArray), 1, 65535, ([] : List ByteArray)⟩ : S25) (Nat.le_refl _) (Kd.F_nil _ _ _))) (Reps.c5 (show Kd.FK k25 _ _ (⟨true, (⟨#[42]⟩ : ByteArray), 1, 65535, y135⟩ : S25) [.bool true, .string (⟨#[42]⟩ : ByteArray), .int .i64 1, .int .i64 65535, .slice Ao99 y135.length co99] from (k25_mkF _ _ (⟨true, (⟨#[42]⟩ : ByteArray), 1, 65535, y135⟩ : S25) (Kd.R_reads' (Kd.R_mono (ok' := (fun k_ => k_ ≠ gb134)) (Kd.R_types (HO137.out) BK134.out (by decide)) (fun k_ hk => hk.2))).2.1 (Kd.R_F (Kd.R_mono (ok' := (fun k_ => k_ ≠ gb134)) (Kd.R_types (HO137.out) BK134.out (by decide)) (fun k_ hk => hk.2))))) (Reps.none _ _)))); intro v139 w100 ho101 hb hg_ hnew_; clear hg_ hnew_; (first | rw [← Ny138.out] at ho101 | (simp only [Int.reduceToNat] at ho101; rw [← Ny138.out] at ho101)); have n0_ := Aside0.mk (Kd.N_lower ho101 (below_size (by repeat (first | (with_reducible first | exact HB.out | apply below_alloc | apply pw_below_drewN | apply below_drew1 | refine below_set ?_ GE134.out) | exact HB.out)))); have n1_ := Aside0.mk (blk_below (g := gb134) (o := .cells #[.bool true, .string (⟨#[46, 98, 46, 99]⟩ : ByteArray), .int .i64 80, .int .i64 80, .slice none 0 0] 25 (0, 0)) (by (with_reducible repeat (first | refine blk_drewN ?_ _ | refine blk_drew ?_ | refine blk_alloc ?_ _)); exact BK134.out) hb); have n2_ := Aside0.mk (below_step (by repeat (first | (with_reducible first | exact HB.out | apply below_alloc | apply pw_below_drewN | apply below_drew1 | refine below_set ?_ GE134.out) | exact HB.out)) hb); clear BK134; clear HB; clear HO137; have HO140 := n0_; have BK134 := n1_; have HB := n2_; clear n0_ n1_ n2_; clear hb ho101; have hcz102_0 : w100.cell? ⟨gb134, 0, none⟩ = some (.bool true) := (blk_cell BK134.out 0).trans rfl; have hcz102_1 : w100.cell? ⟨gb134, 1, none⟩ = some (.string (⟨#[46, 98, 46, 99]⟩ : ByteArray)) := (blk_cell BK134.out 1).trans rfl; have hcz102_2 : w100.cell? ⟨gb134, 2, none⟩ = some (.int .i64 80) := (blk_cell BK134.out 2).trans rfl; have hcz102_3 : w100.cell? ⟨gb134, 3, none⟩ = some (.int .i64 80) := (blk_cell BK134.out 3).trans rfl; have hcz102_4 : w100.cell? ⟨gb134, 4, none⟩ = some (.slice none 0 0) := (blk_cell BK134.out 4).trans rfl; have hfz102_0 := blk_frozen BK134.out 0; have hfz102_1 := blk_frozen BK134.out 1; have hfz102_2 := blk_frozen BK134.out 2; have hfz102_3 := blk_frozen BK134.out 3; have hfz102_4 := blk_frozen BK134.out 4) | (have t_4 := tk4; clear tk4; clear t_4; (with_reducible refine gate_callee (f := 16) rfl ?_); refine goesL_ (some 9) rfl rfl Tryd.func16 (by kernel_rfl) rfl #[.agg #[.bool true, .string (⟨#[46, 98, 46, 99]⟩ : ByteArray), .int .i64 80, .int .i64 80, .slice none 0 0], .string (⟨#[97, 46, 98, 46, 99]⟩ : ByteArray), .int .i64 80, .string (⟨#[88]⟩ : ByteArray)] rfl (by (try simp only [List.map_toArray, List.map_cons, List.map_nil]); first | done | rfl | (simp only [List.length_drop, List.length_take]; rfl)) ?_; (refine (acl_Matches.calls true (⟨#[46, 98, 46, 99]⟩ : ByteArray) 80 80 _ _ ([] : List ByteArray) (⟨#[97, 46, 98, 46, 99]⟩ : ByteArray) 80 (⟨#[88]⟩ : ByteArray) true _ ?side1 ?side2 (Glob.below HGl.out (by repeat (first | (with_reducible first | exact HB.out | apply below_alloc | apply pw_below_drewN | apply below_drew1 | refine below_set ?_ GE134.out) | exact HB.out))) A1.out).mono ?_); (case side1 => exact Kd.C_nil _ _); (case side2 => exact Nat.le_refl _); rintro e w103 ⟨rfl, hb⟩; refine ⟨_, rfl, ?_⟩; have n0_ := Aside0.mk (Kd.N_below (by (with_reducible repeat (first | apply Kd.N_alloc | apply Kd.N_drewN | apply Kd.N_drew)); exact HO140.out) hb); have n1_ := Aside0.mk (blk_below (g := gb134) (o := .cells #[.bool true, .string (⟨#[46, 98, 46, 99]⟩ : ByteArray), .int .i64 80, .int .i64 80, .slice none 0 0] 25 (0, 0)) (by (with_reducible repeat (first | refine blk_drewN ?_ _ | refine blk_drew ?_ | refine blk_alloc ?_ _)); exact BK134.out) hb); have n2_ := Aside0.mk (below_step (by repeat (first | (with_reducible first | exact HB.out | apply below_alloc | apply pw_below_drewN | apply below_drew1 | refine below_set ?_ GE134.out) | exact HB.out)) hb); clear HO140; clear BK134; clear HB; have HO140 := n0_; have BK134 := n1_; have HB := n2_; clear n0_ n1_ n2_; (try clear hb); (try clear hb2); (try clear hk); (try clear hi); have hcz104_0 : w103.cell? ⟨gb134, 0, none⟩ = some (.bool true) := (blk_cell BK134.out 0).trans rfl; have hcz104_1 : w103.cell? ⟨gb134, 1, none⟩ = some (.string (⟨#[46, 98, 46, 99]⟩ : ByteArray)) := (blk_cell BK134.out 1).trans rfl; have hcz104_2 : w103.cell? ⟨gb134, 2, none⟩ = some (.int .i64 80) := (blk_cell BK134.out 2).trans rfl; have hcz104_3 : w103.cell? ⟨gb134, 3, none⟩ = some (.int .i64 80) := (blk_cell BK134.out 3).trans rfl; have hcz104_4 : w103.cell? ⟨gb134, 4, none⟩ = some (.slice none 0 0) := (blk_cell BK134.out 4).trans rfl; have hfz104_0 := blk_frozen BK134.out 0; have hfz104_1 := blk_frozen BK134.out 1; have hfz104_2 := blk_frozen BK134.out 2; have hfz104_3 := blk_frozen BK134.out 3; have hfz104_4 := blk_frozen BK134.out 4) | (have t_5 := tk5; clear tk5; clear t_5; go_at_call 16; (refine (acl_Matches.calls true (⟨#[46, 98, 46, 99]⟩ : ByteArray) 80 80 _ _ ([] : List ByteArray) (⟨#[98, 46, 99]⟩ : ByteArray) 80 (⟨#[88]⟩ : ByteArray) false _ ?side1 ?side2 (Glob.below HGl.out (by repeat (first | (with_reducible first | exact HB.out | apply below_alloc | apply pw_below_drewN | apply below_drew1 | refine below_set ?_ GE134.out) | exact HB.out))) A3.out).mono ?_); (case side1 => exact Kd.C_nil _ _); (case side2 => exact Nat.le_refl _); rintro e w105 ⟨rfl, hb⟩; have n0_ := Aside0.mk (Kd.N_below (by (with_reducible repeat (first | apply Kd.N_alloc | apply Kd.N_drewN | apply Kd.N_drew)); exact HO140.out) hb); have n1_ := Aside0.mk (blk_below (g := gb134) (o := .cells #[.bool true, .string (⟨#[46, 98, 46, 99]⟩ : ByteArray), .int .i64 80, .int .i64 80, .slice none 0 0] 25 (0, 0)) (by (with_reducible repeat (first | refine blk_drewN ?_ _ | refine blk_drew ?_ | refine blk_alloc ?_ _)); exact BK134.out) hb); have n2_ := Aside0.mk (below_step (by repeat (first | (with_reducible first | exact HB.out | apply below_alloc | apply pw_below_drewN | apply below_drew1 | refine below_set ?_ GE134.out) | exact HB.out)) hb); clear HO140; clear BK134; clear HB; have HO140 := n0_; have BK134 := n1_; have HB := n2_; clear n0_ n1_ n2_; (try clear hb); (try clear hb2); (try clear hk); (try clear hi); have hcz106_0 : w105.cell? ⟨gb134, 0, none⟩ = some (.bool true) := (blk_cell BK134.out 0).trans rfl; have hcz106_1 : w105.cell? ⟨gb134, 1, none⟩ = some (.string (⟨#[46, 98, 46, 99]⟩ : ByteArray)) := (blk_cell BK134.out 1).trans rfl; have hcz106_2 : w105.cell? ⟨gb134, 2, none⟩ = some (.int .i64 80) := (blk_cell BK134.out 2).trans rfl; have hcz106_3 : w105.cell? ⟨gb134, 3, none⟩ = some (.int .i64 80) := (blk_cell BK134.out 3).trans rfl; have hcz106_4 : w105.cell? ⟨gb134, 4, none⟩ = some (.slice none 0 0) := (blk_cell BK134.out 4).trans rfl; have hfz106_0 := blk_frozen BK134.out 0; have hfz106_1 := blk_frozen BK134.out 1; have hfz106_2 := blk_frozen BK134.out 2; have hfz106_3 := blk_frozen BK134.out 3; have hfz106_4 := blk_frozen BK134.out 4) | (have t_6 := tk6; clear tk6; clear t_6; go_at_call 16; (refine (acl_Matches.calls true (⟨#[46, 98, 46, 99]⟩ : ByteArray) 80 80 _ _ ([] : List ByteArray) (⟨#[46, 98, 46, 99]⟩ : ByteArray) 80 (⟨#[88]⟩ : ByteArray) false _ ?side1 ?side2 (Glob.below HGl.out (by repeat (first | (with_reducible first | exact HB.out | apply below_alloc | apply pw_below_drewN | apply below_drew1 | refine below_set ?_ GE134.out) | exact HB.out))) A16.out).mono ?_); (case side1 => exact Kd.C_nil _ _); (case side2 => exact Nat.le_refl _); rintro e w107 ⟨rfl, hb⟩; have n0_ := Aside0.mk (Kd.N_below (by (with_reducible repeat (first | apply Kd.N_alloc | apply Kd.N_drewN | apply Kd.N_drew)); exact HO140.out) hb); have n1_ := Aside0.mk (blk_below (g := gb134) (o := .cells #[.bool true, .string (⟨#[46, 98, 46, 99]⟩ : ByteArray), .int .i64 80, .int .i64 80, .slice none 0 0] 25 (0, 0)) (by (with_reducible repeat (first | refine blk_drewN ?_ _ | refine blk_drew ?_ | refine blk_alloc ?_ _)); exact BK134.out) hb); have n2_ := Aside0.mk (below_step (by repeat (first | (with_reducible first | exact HB.out | apply below_alloc | apply pw_below_drewN | apply below_drew1 | refine below_set ?_ GE134.out) | exact HB.out)) hb); clear HO140; clear BK134; clear HB; have HO140 := n0_; have BK134 := n1_; have HB := n2_; clear n0_ n1_ n2_; (try clear hb); (try clear hb2); (try clear hk); (try clear hi); have hcz108_0 : w107.cell? ⟨gb134, 0, none⟩ = some (.bool true) := (blk_cell BK134.out 0).trans rfl; have hcz108_1 : w107.cell? ⟨gb134, 1, none⟩ = some (.string (⟨#[46, 98, 46, 99]⟩ : ByteArray)) := (blk_cell BK134.out 1).trans rfl; have hcz108_2 : w107.cell? ⟨gb134, 2, none⟩ = some (.int .i64 80) := (blk_cell BK134.out 2).trans rfl; have hcz108_3 : w107.cell? ⟨gb134, 3, none⟩ = some (.int .i64 80) := (blk_cell BK134.out 3).trans rfl; have hcz108_4 : w107.cell? ⟨gb134, 4, none⟩ = some (.slice none 0 0) := (blk_cell BK134.out 4).trans rfl; have hfz108_0 := blk_frozen BK134.out 0; have hfz108_1 := blk_frozen BK134.out 1; have hfz108_2 := blk_frozen BK134.out 2; have hfz108_3 := blk_frozen BK134.out 3; have hfz108_4 := blk_frozen BK134.out 4) | (have t_7 := tk7; clear tk7; clear t_7; go_at_call 16; (refine (acl_Matches.calls true (⟨#[46, 98, 46, 99]⟩ : ByteArray) 80 80 _ _ ([] : List ByteArray) (⟨#[97, 46, 98, 46, 99]⟩ : ByteArray) 81 (⟨#[88]⟩ : ByteArray) false _ ?side1 ?side2 (Glob.below HGl.out (by repeat (first | (with_reducible first | exact HB.out | apply below_alloc | apply pw_below_drewN | apply below_drew1 | refine below_set ?_ GE134.out) | exact HB.out))) A31.out).mono ?_); (case side1 => exact Kd.C_nil _ _); (case side2 => exact Nat.le_refl _); rintro e w109 ⟨rfl, hb⟩; have n0_ := Aside0.mk (Kd.N_below (by (with_reducible repeat (first | apply Kd.N_alloc | apply Kd.N_drewN | apply Kd.N_drew)); exact HO140.out) hb); have n1_ := Aside0.mk (blk_below (g := gb134) (o := .cells #[.bool true, .string (⟨#[46, 98, 46, 99]⟩ : ByteArray), .int .i64 80, .int .i64 80, .slice none 0 0] 25 (0, 0)) (by (with_reducible repeat (first | refine blk_drewN ?_ _ | refine blk_drew ?_ | refine blk_alloc ?_ _)); exact BK134.out) hb); have n2_ := Aside0.mk (below_step (by repeat (first | (with_reducible first | exact HB.out | apply below_alloc | apply pw_below_drewN | apply below_drew1 | refine below_set ?_ GE134.out) | exact HB.out)) hb); clear HO140; clear BK134; clear HB; have HO140 := n0_; have BK134 := n1_; have HB := n2_; clear n0_ n1_ n2_; (try clear hb); (try clear hb2); (try clear hk); (try clear hi); obtain ⟨Ao110, co110, eo110⟩ := Kd.N_slice HO140.out; subst eo110) | (have t_8 := tk8; clear tk8; clear t_8; go_at_call 18; (with_reducible refine (acl_Admits.calls _ _ y138 (⟨#[97]⟩ : ByteArray) 80 (⟨#[71, 69, 84]⟩ : ByteArray) false _ ?side1 ?side2 (Glob.below HGl.out (by repeat (first | (with_reducible first | exact HB.out | apply below_alloc | apply pw_below_drewN | apply below_drew1 | refine below_set ?_ GE134.out) | exact HB.out))) A48.out).mono ?_); (case side1 => repeat (first | exact (Kd.N_reads' HO140.out).2.2 | (with_reducible refine Kd.C_alloc ?_ _) | (with_reducible refine Kd.C_drewN ?_ _) | (with_reducible refine Kd.C_drew ?_))); (case side2 => exact (Kd.N_reads' HO140.out).2.1); rintro e w111 ⟨rfl, hb⟩; have n0_ := Aside0.mk (Kd.N_below (by (with_reducible repeat (first | apply Kd.N_alloc | apply Kd.N_drewN | apply Kd.N_drew)); exact HO140.out) hb); have n1_ := Aside0.mk (blk_below (g := gb134) (o := .cells #[.bool true, .string (⟨#[46, 98, 46, 99]⟩ : ByteArray), .int .i64 80, .int .i64 80, .slice none 0 0] 25 (0, 0)) (by (with_reducible repeat (first | refine blk_drewN ?_ _ | refine blk_drew ?_ | refine blk_alloc ?_ _)); exact BK134.out) hb); have n2_ := Aside0.mk (below_step (by repeat (first | (with_reducible first | exact HB.out | apply below_alloc | apply pw_below_drewN | apply below_drew1 | refine below_set ?_ GE134.out) | exact HB.out)) hb); clear HO140; clear BK134; clear HB; have HO140 := n0_; have BK134 := n1_; have HB := n2_; clear n0_ n1_ n2_; (try clear hb); (try clear hb2); (try clear hk); (try clear hi)) | (have t_9 := tk9; clear tk9; clear t_9; go_at_call 18; (with_reducible refine (acl_Admits.calls _ _ y138 (⟨#[98]⟩ : ByteArray) 80 (⟨#[71, 69, 84]⟩ : ByteArray) true _ ?side1 ?side2 (Glob.below HGl.out (by repeat (first | (with_reducible first | exact HB.out | apply below_alloc | apply pw_below_drewN | apply below_drew1 | refine below_set ?_ GE134.out) | exact HB.out))) A67.out).mono ?_); (case side1 => repeat (first | exact (Kd.N_reads' HO140.out).2.2 | (with_reducible refine Kd.C_alloc ?_ _) | (with_reducible refine Kd.C_drewN ?_ _) | (with_reducible refine Kd.C_drew ?_))); (case side2 => exact (Kd.N_reads' HO140.out).2.1); rintro e w112 ⟨rfl, hb⟩; have n0_ := Aside0.mk (Kd.N_below (by (with_reducible repeat (first | apply Kd.N_alloc | apply Kd.N_drewN | apply Kd.N_drew)); exact HO140.out) hb); have n1_ := Aside0.mk (blk_below (g := gb134) (o := .cells #[.bool true, .string (⟨#[46, 98, 46, 99]⟩ : ByteArray), .int .i64 80, .int .i64 80, .slice none 0 0] 25 (0, 0)) (by (with_reducible repeat (first | refine blk_drewN ?_ _ | refine blk_drew ?_ | refine blk_alloc ?_ _)); exact BK134.out) hb); have n2_ := Aside0.mk (below_step (by repeat (first | (with_reducible first | exact HB.out | apply below_alloc | apply pw_below_drewN | apply below_drew1 | refine below_set ?_ GE134.out) | exact HB.out)) hb); clear HO140; clear BK134; clear HB; have HO140 := n0_; have BK134 := n1_; have HB := n2_; clear n0_ n1_ n2_; (try clear hb); (try clear hb2); (try clear hk); (try clear hi)) | (have t_10 := tk10; clear tk10; clear t_10; go_at_call 18; (with_reducible refine (acl_Admits.calls _ _ y138 (⟨#[98]⟩ : ByteArray) 80 (⟨#[80, 79, 83, 84]⟩ : ByteArray) false _ ?side1 ?side2 (Glob.below HGl.out (by repeat (first | (with_reducible first | exact HB.out | apply below_alloc | apply pw_below_drewN | apply below_drew1 | refine below_set ?_ GE134.out) | exact HB.out))) A69.out).mono ?_); (case side1 => repeat (first | exact (Kd.N_reads' HO140.out).2.2 | (with_reducible refine Kd.C_alloc ?_ _) | (with_reducible refine Kd.C_drewN ?_ _) | (with_reducible refine Kd.C_drew ?_))); (case side2 => exact (Kd.N_reads' HO140.out).2.1); rintro e w113 ⟨rfl, hb⟩; have n0_ := Aside0.mk (Kd.N_below (by (with_reducible repeat (first | apply Kd.N_alloc | apply Kd.N_drewN | apply Kd.N_drew)); exact HO140.out) hb); have n1_ := Aside0.mk (blk_below (g := gb134) (o := .cells #[.bool true, .string (⟨#[46, 98, 46, 99]⟩ : ByteArray), .int .i64 80, .int .i64 80, .slice none 0 0] 25 (0, 0)) (by (with_reducible repeat (first | refine blk_drewN ?_ _ | refine blk_drew ?_ | refine blk_alloc ?_ _)); exact BK134.out) hb); have n2_ := Aside0.mk (below_step (by repeat (first | (with_reducible first | exact HB.out | apply below_alloc | apply pw_below_drewN | apply below_drew1 | refine below_set ?_ GE134.out) | exact HB.out)) hb); clear HO140; clear BK134; clear HB; have HO140 := n0_; have BK134 := n1_; have HB := n2_; clear n0_ n1_ n2_; (try clear hb); (try clear hb2); (try clear hk); (try clear hi)) | (have t_11 := tk11; clear tk11; clear t_11; go_at_call 14; (with_reducible refine (acl_All.calls _ _ y138 true _ ?side1 ?side2 (Glob.below HGl.out (by repeat (first | (with_reducible first | exact HB.out | apply below_alloc | apply pw_below_drewN | apply below_drew1 | refine below_set ?_ GE134.out) | exact HB.out))) A90.out).mono ?_); (case side1 => repeat (first | exact (Kd.N_reads' HO140.out).2.2 | (with_reducible refine Kd.C_alloc ?_ _) | (with_reducible refine Kd.C_drewN ?_ _) | (with_reducible refine Kd.C_drew ?_))); (case side2 => exact (Kd.N_reads' HO140.out).2.1); rintro e w114 ⟨rfl, hb⟩; have n0_ := Aside0.mk (Kd.N_below (by (with_reducible repeat (first | apply Kd.N_alloc | apply Kd.N_drewN | apply Kd.N_drew)); exact HO140.out) hb); have n1_ := Aside0.mk (blk_below (g := gb134) (o := .cells #[.bool true, .string (⟨#[46, 98, 46, 99]⟩ : ByteArray), .int .i64 80, .int .i64 80, .slice none 0 0] 25 (0, 0)) (by (with_reducible repeat (first | refine blk_drewN ?_ _ | refine blk_drew ?_ | refine blk_alloc ?_ _)); exact BK134.out) hb); have n2_ := Aside0.mk (below_step (by repeat (first | (with_reducible first | exact HB.out | apply below_alloc | apply pw_below_drewN | apply below_drew1 | refine below_set ?_ GE134.out) | exact HB.out)) hb); clear HO140; clear BK134; clear HB; have HO140 := n0_; have BK134 := n1_; have HB := n2_; clear n0_ n1_ n2_; (try clear hb); (try clear hb2); (try clear hk); (try clear hi); have hcz115_0 : w114.cell? ⟨gb134, 0, none⟩ = some (.bool true) := (blk_cell BK134.out 0).trans rfl; have hcz115_1 : w114.cell? ⟨gb134, 1, none⟩ = some (.string (⟨#[46, 98, 46, 99]⟩ : ByteArray)) := (blk_cell BK134.out 1).trans rfl; have hcz115_2 : w114.cell? ⟨gb134, 2, none⟩ = some (.int .i64 80) := (blk_cell BK134.out 2).trans rfl; have hcz115_3 : w114.cell? ⟨gb134, 3, none⟩ = some (.int .i64 80) := (blk_cell BK134.out 3).trans rfl; have hcz115_4 : w114.cell? ⟨gb134, 4, none⟩ = some (.slice none 0 0) := (blk_cell BK134.out 4).trans rfl; have hfz115_0 := blk_frozen BK134.out 0; have hfz115_1 := blk_frozen BK134.out 1; have hfz115_2 := blk_frozen BK134.out 2; have hfz115_3 := blk_frozen BK134.out 3; have hfz115_4 := blk_frozen BK134.out 4) | (have t_12 := tk12; clear tk12; clear t_12; go_at_call 12; (refine (acl_May.calls true (⟨#[46, 98, 46, 99]⟩ : ByteArray) 80 80 _ _ ([] : List ByteArray) true _ ?side1 ?side2 (Glob.below HGl.out (by repeat (first | (with_reducible first | exact HB.out | apply below_alloc | apply pw_below_drewN | apply below_drew1 | refine below_set ?_ GE134.out) | exact HB.out))) A92.out).mono ?_); (case side1 => exact Kd.C_nil _ _); (case side2 => exact Nat.le_refl _); rintro e w116 ⟨rfl, hb⟩; have n0_ := Aside0.mk (Kd.N_below (by (with_reducible repeat (first | apply Kd.N_alloc | apply Kd.N_drewN | apply Kd.N_drew)); exact HO140.out) hb); have n1_ := Aside0.mk (blk_below (g := gb134) (o := .cells #[.bool true, .string (⟨#[46, 98, 46, 99]⟩ : ByteArray), .int .i64 80, .int .i64 80, .slice none 0 0] 25 (0, 0)) (by (with_reducible repeat (first | refine blk_drewN ?_ _ | refine blk_drew ?_ | refine blk_alloc ?_ _)); exact BK134.out) hb); have n2_ := Aside0.mk (below_step (by repeat (first | (with_reducible first | exact HB.out | apply below_alloc | apply pw_below_drewN | apply below_drew1 | refine below_set ?_ GE134.out) | exact HB.out)) hb); clear HO140; clear BK134; clear HB; have HO140 := n0_; have BK134 := n1_; have HB := n2_; clear n0_ n1_ n2_; (try clear hb); (try clear hb2); (try clear hk); (try clear hi)) | (have t_13 := tk13; clear tk13; clear t_13; go_at_call 12; (refine (acl_May.calls false (⟨#[65]⟩ : ByteArray) 1 1 _ _ ([] : List ByteArray) t150 _ ?side1 ?side2 (Glob.below HGl.out (by repeat (first | (with_reducible first | exact HB.out | apply below_alloc | apply pw_below_drewN | apply below_drew1 | refine below_set ?_ GE134.out) | exact HB.out))) A94.out).mono ?_); (case side1 => exact Kd.C_nil _ _); (case side2 => exact Nat.le_refl _); rintro e w117 ⟨rfl, hb⟩; have n0_ := Aside0.mk (Kd.N_below (by (with_reducible repeat (first | apply Kd.N_alloc | apply Kd.N_drewN | apply Kd.N_drew)); exact HO140.out) hb); have n1_ := Aside0.mk (blk_below (g := gb134) (o := .cells #[.bool true, .string (⟨#[46, 98, 46, 99]⟩ : ByteArray), .int .i64 80, .int .i64 80, .slice none 0 0] 25 (0, 0)) (by (with_reducible repeat (first | refine blk_drewN ?_ _ | refine blk_drew ?_ | refine blk_alloc ?_ _)); exact BK134.out) hb); have n2_ := Aside0.mk (below_step (by repeat (first | (with_reducible first | exact HB.out | apply below_alloc | apply pw_below_drewN | apply below_drew1 | refine below_set ?_ GE134.out) | exact HB.out)) hb); clear HO140; clear BK134; clear HB; have HO140 := n0_; have BK134 := n1_; have HB := n2_; clear n0_ n1_ n2_; (try clear hb); (try clear hb2); (try clear hk); (try clear hi)))
                    go_ret
                    exact ⟨by first | rfl | (simp [errW_none, errW_some] <;> rfl) | (simp [*, errW_none, errW_some] <;> rfl), by repeat (first | (with_reducible first | exact HB.out | apply below_alloc | apply pw_below_drewN | apply below_drew1 | refine below_set ?_ GE134.out) | exact HB.out)⟩
                  · replace c93 := Bool.eq_false_iff.mpr c93
                    subst c93
                    have H1 : (some false) = some r := by rw [if_neg (show ¬ (false = true) by decide)] at H; exact H
                    clear H
                    have H := H1
                    clear H1
                    obtain rfl := Option.some.inj H
                    have h_ := A92.out
                    (try rw [Ny138.out] at h_)
                    (try rw [Ny135.out] at h_)
                    exact absurd h_ (by decide +kernel)
                · replace c91 := Bool.eq_false_iff.mpr c91
                  subst c91
                  have H1 : (some false) = some r := by rw [if_neg (show ¬ (false = true) by decide)] at H; exact H
                  clear H
                  have H := H1
                  clear H1
                  obtain rfl := Option.some.inj H
                  have h_ := A90.out
                  (try rw [Ny138.out] at h_)
                  (try rw [Ny135.out] at h_)
                  exact absurd h_ (by decide +kernel)
            · replace c68 := Bool.eq_false_iff.mpr c68
              subst c68
              have H1 : (some false) = some r := by rw [if_neg (show ¬ (false = true) by decide)] at H; exact H
              clear H
              have H := H1
              clear H1
              obtain rfl := Option.some.inj H
              have h_ := A67.out
              (try rw [Ny138.out] at h_)
              (try rw [Ny135.out] at h_)
              exact absurd h_ (by decide +kernel)
  · replace c2 := Bool.eq_false_iff.mpr c2
    subst c2
    have H1 : (some false) = some r := by rw [if_neg (show ¬ (false = true) by decide)] at H; exact H
    clear H
    have H := H1
    clear H1
    obtain rfl := Option.some.inj H
    have h_ := A1.out
    (try rw [Ny138.out] at h_)
    (try rw [Ny135.out] at h_)
    exact absurd h_ (by decide +kernel)

end Go.Proofs.YtjdlaofeenblkaaDoor.X
