/- A part of the proof of the law AuthOne: contracts of functions that it reaches, and plain lemmas. -/
import Derived.Test.YthmnhbalmglohaaGreatDoorMAuthOne1
import Derived.Lib.ItoaMem
import Derived.BigCall
import Derived.BigGuard
import Derived.WideLaws
import Derived.Maps.Own
import Derived.Maps.OwnOps
import Derived.Maps.Views
/- slices.ContainsFunc on rules over this program. -/
namespace Go.Proofs.YthmnhbalmglohaaGreatDoor.X
open Go.RowKit Go.Proofs.YthmnhbalmglohaaGreatDoorW.PrintWords Go.Proofs.YthmnhbalmglohaaGreatDoor.T
set_option linter.unusedSimpArgs false
set_option linter.unusedVariables false
/-- a rule as it is handed over -/
def ruleV (x : S46) (A : Option Addr) (c : Nat) : Value := .agg #[.bool x.f0, .string x.f1, .int .i64 x.f2, .int .i64 x.f3, .slice A x.f4.length c]
/-- a function value that tells whether p holds of a rule -/
def PredR (g : Nat) (lb : Array Value) (p : S46 → Bool) (D : S46 → Prop) (w : World) : Prop :=
  ∀ (W : World) (x : S46) (A : Option Addr) (c : Nat), Below w.heap.size w W → D x → Kd.C Kd.string W A x.f4.length x.f4 → x.f4.length ≤ c → Calls Tryz.prog g (#[ruleV x A c] ++ lb) W fun e w' => e = .returned (.bool (p x)) ∧ Below W.heap.size W w'
/-- the rule at a place of a slice -/
theorem rule_at {w : World} {A : Option Addr} {n : Nat} {zs : List S46} (h : Kd.C k46 w A n zs) (hn : 0 < n) : ∃ b off, A = some ⟨b, off, none⟩ ∧ ∀ i, i < n → ∃ A1 c1, (zs.getD i z46).f4.length ≤ c1 ∧ Kd.C Kd.string w A1 (zs.getD i z46).f4.length (zs.getD i z46).f4 ∧
    w.cell? ⟨b, off + i * 5, none⟩ = some (.bool (zs.getD i z46).f0) ∧ w.cell? ⟨b, off + i * 5 + 1, none⟩ = some (.string (zs.getD i z46).f1) ∧ w.cell? ⟨b, off + i * 5 + 2, none⟩ = some (.int .i64 (zs.getD i z46).f2) ∧ w.cell? ⟨b, off + i * 5 + 3, none⟩ = some (.int .i64 (zs.getD i z46).f3) ∧ w.cell? ⟨b, off + i * 5 + 4, none⟩ = some (.slice A1 (zs.getD i z46).f4.length c1) := by
  obtain ⟨b, off, e, hc⟩ := C_cells z46 h hn (by decide)
  refine ⟨b, off, e, fun i hi => ?_⟩
  obtain ⟨c, _, hK, hcc⟩ := hc i hi
  obtain ⟨A1, c1, rfl, hl, hC⟩ := k46_open hK
  have hsz : k46.sz = 5 := rfl
  rw [hsz] at hcc
  exact ⟨A1, c1, hl, hC, by simpa using hcc 0 _ rfl, by simpa [Nat.add_assoc] using hcc 1 _ rfl, by simpa [Nat.add_assoc] using hcc 2 _ rfl, by simpa [Nat.add_assoc] using hcc 3 _ rfl, by simpa [Nat.add_assoc] using hcc 4 _ rfl⟩
theorem index_rule_none (A : Option Addr) (c : Nat) (fv : Value) (w : World) :
    Calls Tryz.prog 59 #[.slice A 0 c, fv] w fun e w' => e = .returned (.int .i64 (-1)) ∧ w' = w := by
  go_enter Tryz.func59, Tryz.ntmps59
  go_wp2
  go_loopg [5, 8] 0 (fun _ _ s8 wr => s8 = .int .i64 0 ∧ wr = w)
  case atStart => exact ⟨rfl, rfl⟩
  case round =>
    obtain ⟨rfl, rfl⟩ := hrel
    go_wp2
    go_ret
    exact ⟨rfl, rfl⟩
set_option maxHeartbeats 2000000 in
theorem index_rule (g : Nat) (lb : Array Value) (p : S46 → Bool) (D : S46 → Prop) (eg : ∀ args w, (callFunc g args).run Tryz.prog w = .ok (.enter g args) w) (A : Option Addr) (c : Nat) (zs : List S46) (w : World)
    (hp : PredR g lb p D w) (hD : ∀ x ∈ zs, D x) (hbig : zs.length ≤ 9223372036854775807) (hc : Kd.C k46 w A zs.length zs) :
    Calls Tryz.prog 59 #[.slice A zs.length c, .func (.func g) #[] lb] w fun e w' => e = .returned (.int .i64 (fidx p zs)) ∧ Below w.heap.size w w' := by
  rcases Nat.eq_zero_or_pos zs.length with h0 | h0
  · obtain rfl := List.eq_nil_of_length_eq_zero h0
    exact (index_rule_none A c _ w).mono fun e w' ⟨he, hw⟩ => ⟨he, below_same hw⟩
  obtain ⟨b, off, rfl, hcell⟩ := rule_at hc h0
  have HP := Lib.hid hp; clear hp
  have HD := Lib.hid hD; clear hD
  have HC := Lib.hid hcell; clear hcell hc
  generalize hn : zs.length = n at HC hbig h0
  have HN := Lib.hid hn; clear hn
  go_enter Tryz.func59, Tryz.ntmps59
  go_wp2
  go_loopg [5, 8] n (fun gg _ s8 wr => ∃ kk : Nat, kk ≤ n ∧ n - kk ≤ gg ∧ s8 = .int .i64 kk ∧ Aside (Below w.heap.size w wr) ∧ Aside (∀ j, j < kk → p (zs.getD j z46) = false))
  case atStart => exact ⟨0, Nat.zero_le _, by omega, rfl, Below.refl _ _, fun j hj => absurd hj (Nat.not_lt_zero _)⟩
  case round =>
    obtain ⟨kk, hkk, hg, rfl, HB0, AA⟩ := hrel
    have HB : Hid (Below w.heap.size w wr) := Lib.hid HB0.out
    clear HB0
    by_cases hlt : kk < n
    · have hltz : (kk : Int) < (n : Int) := by omega
      have hmem : zs.getD kk z46 ∈ zs := by
        have := HN.out
        rw [List.getD_eq_getElem?_getD, List.getElem?_eq_getElem (by omega)]
        exact List.getElem_mem _
      obtain ⟨A1, c1, hl1, hC1, e0, e1, e2, e3, e4⟩ := HC.out kk hlt
      have hdy := HD.out _ hmem
      clear hmem
      generalize hy : zs.getD kk z46 = y at e0 e1 e2 e3 e4 hl1 hC1 hdy
      have B : Hid (zs.getD kk z46 = y) := Lib.hid hy
      clear hy
      replace e0 := (HB.out.cell (World.block_lt_of_cell? w _ e0)).trans e0
      replace e1 := (HB.out.cell (World.block_lt_of_cell? w _ e1)).trans e1
      replace e2 := (HB.out.cell (World.block_lt_of_cell? w _ e2)).trans e2
      replace e3 := (HB.out.cell (World.block_lt_of_cell? w _ e3)).trans e3
      replace e4 := (HB.out.cell (World.block_lt_of_cell? w _ e4)).trans e4
      have hcall := HP.out wr y A1 c1 HB.out hdy (Kd.C_below hC1 HB.out) hl1
      clear hdy hC1 hl1
      unfold ruleV at hcall
      cases hq : p y with
      | true =>
        rw [hq] at hcall
        have HCALL := Lib.hid hcall; clear hcall
        have HQ := Lib.hid hq; clear hq
        go_wp2_with (go_at_fn g; refine (HCALL.out).mono ?_; rintro e w' ⟨rfl, hb⟩)
        go_ret
        exact ⟨ret_i64 (fidx_hit p z46 zs kk (by have := HN.out; omega) (by rw [B.out]; exact HQ.out) AA.out).symm, below_next HB.out hb⟩
      | false =>
        rw [hq] at hcall
        have HCALL := Lib.hid hcall; clear hcall
        have HQ := Lib.hid hq; clear hq
        go_wp2_with (go_at_fn g; refine (HCALL.out).mono ?_; rintro e w' ⟨rfl, hb⟩)
        go_roundg (n - (kk + 1))
        case measure => omega
        case rel =>
          refine ⟨kk + 1, by omega, by omega, by go_num, below_next HB.out hb, fun j hj => ?_⟩
          by_cases e : j = kk
          · subst e
            rw [B.out]; exact HQ.out
          · exact AA.out j (by omega)
    · have hltz : ¬ (kk : Int) < (n : Int) := by omega
      obtain rfl : kk = n := by omega
      go_wp2
      go_ret
      exact ⟨ret_i64 (fidx_miss p z46 zs (by have := HN.out; intro j hj; exact AA.out j (by omega))).symm, HB.out⟩
theorem contains_rule (g : Nat) (lb : Array Value) (p : S46 → Bool) (D : S46 → Prop) (eg : ∀ args w, (callFunc g args).run Tryz.prog w = .ok (.enter g args) w) (A : Option Addr) (c : Nat) (zs : List S46) (w : World)
    (hp : PredR g lb p D w) (hD : ∀ x ∈ zs, D x) (hbig : zs.length ≤ 9223372036854775807) (hc : Kd.C k46 w A zs.length zs) :
    Calls Tryz.prog 42 #[.slice A zs.length c, .func (.func g) #[] lb] w fun e w' => e = .returned (.bool (zs.any p)) ∧ Below w.heap.size w w' := by
  have H := Lib.hid (index_rule g lb p D eg A c zs w hp hD hbig hc)
  clear hp hD hbig hc
  go_enter Tryz.func42, Tryz.ntmps42
  go_wp2_with (go_at_call 59; refine H.out.mono ?_; rintro e w' ⟨rfl, hb⟩)
  go_ret
  exact ⟨ret_bool (fidx_any p zs), hb⟩
end Go.Proofs.YthmnhbalmglohaaGreatDoor.X

/- strconv.FormatUint at base 10, over this program; turned out of the kit's own proof for FormatInt. -/
namespace Go.Proofs.YthmnhbalmglohaaGreatDoor.T
open Go.RowKit Go.Sort Go.Lib
set_option linter.unusedVariables false
set_option maxHeartbeats 6400000 in
set_option maxRecDepth 100000 in
theorem formatUint_in (u : Nat) (hu64 : u < 18446744073709551616) (w : World)
    (htab : Lib.TabIs Tryz.prog w "internal/strconv.uint64pow10" .u64 Lib.pow10Tab) :
    Calls Tryz.prog 108 #[.int .u64 u, .int .i64 10] w fun e w' => e = .returned (.string ⟨(Lib.decDigits u).toArray⟩) ∧ ∃ k os, w' = grow (w.drewN k) os := by
  by_cases hs : u < 100
  · go_enter Tryz.func108, Tryz.ntmps108
    go_wp2_with (go_at_call 117; refine (Tryz.internal_strconv_small u hs _).mono ?_; rintro e w' ⟨rfl, rfl⟩)
    go_ret
    exact ⟨rfl, 0, #[], by simp [World.drewN_zero]⟩
  · have hu1 : 1 ≤ u := by omega
    have hnd20 : Lib.nDigits u ≤ 20 := by have := Lib.numDigits_eq u hu1 hu64; split at this <;> omega
    have hb3 : Lib.nDigits u ≤ 23 := by omega
    have hal : Tryz.prog.arrayLen 116 = 24 := by kernel_rfl
    have hsl1 : ∀ W, (Instr.sliceAt 116 (.pointer (some ⟨w.heap.size, 0, none⟩)) none (some (.int .i64 (Lib.nDigits u : Int))) none).run Tryz.prog W = .ok (.slice (some ⟨w.heap.size, 0, none⟩) (Lib.nDigits u) 24) W := fun W => by
      rw [run_sliceAt_array_h W 116 ⟨w.heap.size, 0, none⟩ (by simp [Program.arrayLen, Program.elem, Tryz.underlying116]) .i64 (Lib.nDigits u : Int) (by omega) (by rw [hal]; omega)]
      go_simp
    have hH0 : Holds (fun (b : UInt8) => Value.int .u8 (b.toNat : Int)) (w.alloc (.cells Lib.zeros24 116)) w.heap.size 0 (Array.replicate (Lib.nDigits u) 0) := fun j hj => by
      have hj' : j < Lib.nDigits u := by simpa using hj
      refine ⟨?_, World.frozen?_alloc_new _ _ _ _⟩
      rw [World.cell?_alloc_new, Lib.zeros24_at _ (by omega), getElem!_pos _ j hj]
      simp
    have hfmt := Tryz.internal_strconv_formatBase10 w.heap.size 0 24 u (Array.replicate (Lib.nDigits u) 0) (w.alloc (.cells Lib.zeros24 116)) hH0 (by rw [Array.size_replicate]; exact Lib.lt_pow_nDigits u) hu64 (by rw [Array.size_replicate]; omega)
    rw [Array.size_replicate] at hfmt
    have HH0 := Lib.hid hH0
    clear hH0 hal
    go_enter Tryz.func108, Tryz.ntmps108
    go_wp2_with (first
      | (go_at_call 118; refine (Tryz.internal_strconv_numDigits u hu1 hu64 _ (Lib.tabIs_alloc htab _)).mono ?_; rintro e w' ⟨rfl, rfl⟩))
    go_at_call 119
    refine hfmt.mono ?_
    rintro e w' ⟨rfl, k, v', dk, rfl, hF⟩
    have hcv : (convert 42 9 (.slice (some ⟨w.heap.size, 0, none⟩) (Lib.nDigits u) 24)).run Tryz.prog ((putRow (fun (b : UInt8) => Value.int .u8 (b.toNat : Int)) (w.alloc (.cells Lib.zeros24 116)) w.heap.size 0 dk).drewN k) = .ok (.string ⟨(Lib.decDigits u).toArray⟩) ((putRow (fun (b : UInt8) => Value.int .u8 (b.toNat : Int)) (w.alloc (.cells Lib.zeros24 116)) w.heap.size 0 dk).drewN k) := by
      have h := run_convert_bytes_back (P := Tryz.prog) ((putRow (fun (b : UInt8) => Value.int .u8 (b.toNat : Int)) (w.alloc (.cells Lib.zeros24 116)) w.heap.size 0 dk).drewN k) 42 9 5 ⟨w.heap.size, 0, none⟩ 24 (Lib.decDigits u) Tryz.underlying42 Tryz.underlying5 Tryz.underlying9 (fun j hj => by
        rw [Lib.row_is_numeral hF j hj, Lib.add_plain, World.cell?_drewN]
        exact cell?_putRow (fun (b : UInt8) => Value.int .u8 (b.toNat : Int)) _ w.heap.size 0 _ dk HH0.out (by rw [hF.size, Array.size_replicate]) j (by rw [hF.size]; rw [Lib.decDigits_length] at hj; exact hj))
      rw [Lib.decDigits_length] at h
      exact h
    go_wp2
    go_ret
    refine ⟨rfl, k, ?_⟩
    rw [alloc_eq_grow]
    obtain ⟨os', _, e⟩ := putRow_grow_new (fun (b : UInt8) => Value.int .u8 (b.toNat : Int)) w #[.cells Lib.zeros24 116] w.heap.size 0 dk (Nat.le_refl _)
    exact ⟨os', by rw [e]; rfl⟩
theorem formatUint_any (u : Nat) (hu64 : u < 18446744073709551616) (w : World)
    (htab : Lib.TabIs Tryz.prog w "internal/strconv.uint64pow10" .u64 Lib.pow10Tab) :
    Calls Tryz.prog 97 #[.int .u64 u, .int .i64 10] w fun e w' => e = .returned (.string ⟨(Lib.decDigits u).toArray⟩) ∧ ∃ k os, w' = grow (w.drewN k) os := by
  go_enter Tryz.func97, Tryz.ntmps97
  go_wp2_with (go_at_call 108; refine (formatUint_in u hu64 _ htab).mono ?_; rintro e w' ⟨rfl, k, os, rfl⟩)
  go_ret
  exact ⟨rfl, k, os, rfl⟩
end Go.Proofs.YthmnhbalmglohaaGreatDoor.T

/- uri.all over this program. -/
namespace Go.Proofs.YthmnhbalmglohaaGreatDoor.T
open Go.RowKit
set_option linter.unusedSimpArgs false
set_option linter.unusedVariables false
theorem uall_1 (g : Nat) (lb : Array Value) (p : UInt8 → Bool) (eg : ∀ args w, (callFunc g args).run Tryz.prog w = .ok (.enter g args) w) (B : Nat) (w : World)
    (hp : PredB g lb p w) (hB : B < w.heap.size) (hc : w.cell? ⟨B, 0, none⟩ = some (.func (.func g) #[] lb)) : PredB 91 #[.pointer (some ⟨B, 0, none⟩)] (fun c => !p c) w := by
  intro W c hb
  have hc' : W.cell? ⟨B, 0, none⟩ = some (.func (.func g) #[] lb) := (hb.cell (p := ⟨B, 0, none⟩) hB).trans hc
  clear hc
  have HP := Lib.hid (fun W1 h1 => hp W1 c (below_next hb h1)); clear hp hb
  cases hq : p c with
  | _ =>
    rw [hq] at HP
    have HQ := Lib.hid hq; clear hq
    go_enter Tryz.func91, Tryz.ntmps91
    go_wp2_with (go_at_fn g; refine (HP.out _ (Below.refl _ _)).mono ?_; rintro e w' ⟨rfl, hb1⟩)
    go_ret
    exact ⟨ret_bool (by rw [HQ.out]; rfl), hb1⟩

theorem uall_any (g : Nat) (lb : Array Value) (p : UInt8 → Bool) (eg : ∀ args w, (callFunc g args).run Tryz.prog w = .ok (.enter g args) w) (s : ByteArray) (w : World)
    (hp : PredB g lb p w) (hs : s.size ≤ 9223372036854775807) :
    Calls Tryz.prog 73 #[.string s, .func (.func g) #[] lb] w fun e w' => e = .returned (.bool (s.data.toList.all p)) ∧ Below w.heap.size w w' := by
  have hcv := fun w => Lib.run_convert_string_bytes (P := Tryz.prog) w 9 42 5 s Tryz.underlying9 Tryz.underlying42 Tryz.underlying5
  have e1 : ∀ args w, (callFunc 91 args).run Tryz.prog w = .ok (.enter 91 args) w := enters_of Tryz.func91 (by kernel_rfl) rfl
  have hb0 : Below w.heap.size w (w.alloc (.cells #[.func (.func g) #[] lb] 57)) := below_alc (Below.refl _ _) _
  have hp1 := uall_1 g lb p eg w.heap.size (w.alloc (.cells #[.func (.func g) #[] lb] 57)) (hp.later hb0) (by simp) (cell_box _ _ _)
  have hc := fun c => contains_conv _ _ _ e1 s _ _ (w.heap.size + 1) c (by simp) (Below.refl _ _) hp1 hs
  generalize hr : (s.data.toList.any fun c => !p c) = r at hc
  have HR := Lib.hid hr; clear hr
  have HC := Lib.hid hc; clear hc
  have HB := Lib.hid hb0
  clear hp hp1 hb0 e1
  go_enter Tryz.func73, Tryz.ntmps73
  go_wp2_with (go_at_call 30; refine (HC.out _).mono ?_; rintro e w' ⟨rfl, hb⟩)
  go_ret
  refine ⟨ret_bool ?_, below_next HB.out hb⟩
  rw [← HR.out, List.not_any_eq_all_not]
  simp
end Go.Proofs.YthmnhbalmglohaaGreatDoor.T

/- uri.Named over this program, and what it calls. -/
namespace Go.Proofs.YthmnhbalmglohaaGreatDoor.T
open Go.RowKit
set_option linter.unusedSimpArgs false
set_option linter.unusedVariables false

/-! ### a label that is a number from 0 to 255 -/
def octB (s : ByteArray) : Bool := match Lib.parseUintB 8 s.data.toList with | .ok n => s.data.toList == Lib.decDigits n | _ => false
theorem bytes_eq (s : ByteArray) (l : List UInt8) (h : s.data.toList = l) : s = ⟨l.toArray⟩ := by cases s; subst h; rfl
theorem parse8_ok (s : ByteArray) (hlim : s.size ≤ 281474976710656) (u : Nat) (h : Lib.parseUintB 8 s.data.toList = .ok u) (w : World) :
    Calls Tryz.prog 96 #[.string s, .int .i64 10, .int .i64 8] w fun e w' => e = .returned (.tuple #[.int .u64 u, .nilIface]) ∧ Below w.heap.size w w' := by
  refine (Tryz.strconv_ParseUint_10_at8_ok s (by omega) u h w).mono fun e w' ⟨he, hw⟩ => ⟨he, ?_⟩
  rcases hw with rfl | rfl
  · exact Below.refl _ _
  · exact below_bytes (Below.refl _ _) _ _
theorem parse8_no (s : ByteArray) (hlim : s.size ≤ 281474976710656) (h : ∀ u, Lib.parseUintB 8 s.data.toList ≠ .ok u) (w : World) (hg : Glob w) :
    Calls Tryz.prog 96 #[.string s, .int .i64 10, .int .i64 8] w fun e w' => ∃ (n : Int) (N : Nat), e = .returned (.tuple #[.int .u64 n, .iface 112 (.pointer (some ⟨N, 0, none⟩))]) ∧ Below w.heap.size w w' := by
  rcases hp : Lib.parseUintB 8 s.data.toList with u | _ | _
  · exact absurd hp (h u)
  · obtain ⟨tp, p, hv⟩ := hg.errSyntax
    exact (Any.strconv_ParseUint_10_at8_syntax_var Tryz.laysPu14 s hlim hp tp p w hv).mono fun e w' ⟨N, he, _, _, hb⟩ => ⟨0, N, he, hb⟩
  · obtain ⟨tp, p, hv⟩ := hg.errRange
    exact (Tryz.strconv_ParseUint_10_at8_range_var s hlim hp tp p w hv).mono fun e w' ⟨N, he, _, _, hb⟩ => ⟨255, N, he, hb⟩
theorem oct_some {s : ByteArray} {u : Nat} (h : Lib.parseUintB 8 s.data.toList = .ok u) : octB s = (s.data.toList == Lib.decDigits u) := by unfold octB; rw [h]
theorem oct_none {s : ByteArray} (h : ∀ u, Lib.parseUintB 8 s.data.toList ≠ .ok u) : octB s = false := by
  unfold octB
  cases hp : Lib.parseUintB 8 s.data.toList with
  | ok u => exact absurd hp (h u)
  | _ => rfl
theorem oct_1 (w : World) (hg : Glob w) : PredS 95 #[] (fun s => !octB s) (fun s => s.size ≤ 281474976710656) w := by
  intro W s hb hs
  have HG := Lib.hid (hg.below hb)
  clear hb hg
  by_cases hok : ∃ u, Lib.parseUintB 8 s.data.toList = .ok u
  · obtain ⟨u, hu⟩ := hok
    have HP := Lib.hid (parse8_ok s hs u hu)
    have HO := Lib.hid (oct_some hu)
    have hu64 : u < 18446744073709551616 := by have := Lib.parseUintB_le hu; omega
    clear hu
    go_enter Tryz.func95, Tryz.ntmps95
    go_wp2_with (first
      | (go_at_call 96; refine (HP.out _).mono ?_; rintro e w1 ⟨rfl, hb1⟩; have HB1 := Lib.hid hb1; clear hb1)
      | (go_at_call 97; refine (formatUint_any u hu64 _ ((HG.out.below HB1.out).pow10)).mono ?_; rintro e w2 ⟨rfl, hb2⟩; have HB2 := Lib.hid hb2; clear hb2))
    go_ret
    refine ⟨ret_bool ?_, below_next HB1.out (below_grw HB2.out)⟩
    rw [HO.out, ← Lib.toList_data s, Bool.beq_comm]
  · have hno : ∀ u, Lib.parseUintB 8 s.data.toList ≠ .ok u := fun u h => hok ⟨u, h⟩
    have HP := Lib.hid (fun W => parse8_no s hs hno W)
    have HO := Lib.hid (oct_none hno)
    clear hok hno
    go_enter Tryz.func95, Tryz.ntmps95
    go_wp2_with (go_at_call 96; refine (HP.out _ HG.out).mono ?_; rintro e w1 ⟨n, N, rfl, hb1⟩)
    go_ret
    exact ⟨ret_bool (by rw [HO.out]; rfl), hb1⟩
theorem fn_oct : ∀ args w, (callFunc 95 args).run Tryz.prog w = .ok (.enter 95 args) w := enters_of Tryz.func95 (by kernel_rfl) rfl
def quadB (ls : List ByteArray) : Bool := decide (ls.length = 4) && ls.all octB
theorem quad_any (b off n c : Nat) (zs : List ByteArray) (w : World) (hg : Glob w) (hs : ∀ x ∈ zs, x.size ≤ 281474976710656) (hn : zs.length = n) (hbig : n ≤ 9223372036854775807)
    (hc : ∀ j, j < n → w.cell? ⟨b, off + j, none⟩ = some (.string (zs.getD j ByteArray.empty))) :
    Calls Tryz.prog 77 #[.slice (some ⟨b, off, none⟩) n c] w fun e w' => e = .returned (.bool (quadB zs)) ∧ Below w.heap.size w w' := by
  have hc1 := contains_string 95 #[] (fun s => !octB s) _ fn_oct b off n c zs w (oct_1 w hg) hs hn hbig hc
  generalize hr : (zs.any fun s => !octB s) = r at hc1
  have HC := Lib.hid hc1
  have HR := Lib.hid hr
  have HN := Lib.hid hn
  clear hc1 hr hc hs hn hg
  by_cases h4 : n = 4
  · have HQ : Hid (quadB zs = !r) := Lib.hid (by unfold quadB; rw [HN.out, h4, ← HR.out, List.not_any_eq_all_not]; simp)
    subst h4
    go_enter Tryz.func77, Tryz.ntmps77
    go_wp2_with (go_at_call 39; refine HC.out.mono ?_; rintro e w' ⟨rfl, hb⟩)
    go_ret
    exact ⟨ret_bool HQ.out.symm, hb⟩
  · have HQ : Hid (quadB zs = false) := Lib.hid (by unfold quadB; rw [HN.out]; simp [h4])
    have h4b : ((n : Int) == 4) = false := by simp; omega
    have h4c : decide ((n : Int) = 4) = false := by simp; omega
    clear h4
    go_enter Tryz.func77, Tryz.ntmps77
    go_wp2
    go_ret
    exact ⟨ret_bool HQ.out.symm, Below.refl _ _⟩

/-! ### a label that is a number -/
theorem dig_spec (c : UInt8) : isDig c = (decide (48 ≤ (c.toNat : Int)) && decide ((c.toNat : Int) ≤ 57)) := by
  have h : ∀ n : Fin 256, isDig (UInt8.ofNat n.val) = (decide (48 ≤ ((UInt8.ofNat n.val).toNat : Int)) && decide (((UInt8.ofNat n.val).toNat : Int) ≤ 57)) := by decide +kernel
  have := h ⟨c.toNat, c.toNat_lt⟩
  simpa using this
def hexI (c : UInt8) : Int := Lib.indexByte [48, 49, 50, 51, 52, 53, 54, 55, 56, 57, 97, 98, 99, 100, 101, 102, 65, 66, 67, 68, 69, 70] c
theorem hex_spec (c : UInt8) : isHexC c = decide (0 ≤ hexI c) := by
  have h : ∀ n : Fin 256, isHexC (UInt8.ofNat n.val) = decide (0 ≤ hexI (UInt8.ofNat n.val)) := by decide +kernel
  have := h ⟨c.toNat, c.toNat_lt⟩
  simpa using this
theorem hexI_any (c : UInt8) (w : World) : Calls Tryz.prog 29 #[.string ⟨#[48, 49, 50, 51, 52, 53, 54, 55, 56, 57, 97, 98, 99, 100, 101, 102, 65, 66, 67, 68, 69, 70]⟩, .int .u8 c.toNat] w fun e w' => e = .returned (.int .i64 (hexI c)) ∧ w = w' := by
  refine (Tryz.strings_IndexByte _ _ _).mono fun e w' ⟨he, hw⟩ => ⟨?_, hw.symm⟩
  rw [he]
  show Ending.returned (.int .i64 (Lib.indexByte _ (UInt8.ofNat c.toNat))) = _
  rw [UInt8.ofNat_toNat]
  rfl
theorem num_1 (w : World) : PredB 93 #[] isHexC w := by
  intro W c hb
  have HT := Lib.hid (hex_spec c)
  clear hb
  go_enter Tryz.func93, Tryz.ntmps93
  go_wp2_with (go_at_call 29; refine (hexI_any c _).mono ?_; rintro e w' ⟨rfl, rfl⟩)
  go_ret
  exact ⟨ret_bool HT.out.symm, Below.refl _ _⟩
theorem num_2 (w : World) : PredB 94 #[] isDig w := by
  intro W c hb
  have HT := Lib.hid (dig_spec c)
  clear hb
  go_enter Tryz.func94, Tryz.ntmps94
  go_wp2
  all_goals
    go_ret
    refine ⟨ret_bool ?_, Below.refl _ _⟩
    rw [HT.out, Bool.eq_iff_iff]
    simp only [Bool.or_eq_true, Bool.and_eq_true, decide_eq_true_eq, true_iff, Bool.not_eq_true', decide_eq_false_iff_not, bne_iff_ne, ne_eq, beq_iff_eq, Bool.false_eq_true, false_iff]
    omega
theorem fn_num_1 : ∀ args w, (callFunc 93 args).run Tryz.prog w = .ok (.enter 93 args) w := enters_of Tryz.func93 (by kernel_rfl) rfl
theorem fn_num_2 : ∀ args w, (callFunc 94 args).run Tryz.prog w = .ok (.enter 94 args) w := enters_of Tryz.func94 (by kernel_rfl) rfl
def numericB (s : ByteArray) : Bool := if Lib.hasPrefix s.data.toList [48, 120] then (Lib.trimPrefix s.data.toList [48, 120]).all isHexC else s.data.toList.all isDig
theorem numeric_any (s : ByteArray) (w : World) (hs : s.size ≤ 281474976710656) :
    Calls Tryz.prog 76 #[.string s] w fun e w' => e = .returned (.bool (numericB s)) ∧ Below w.heap.size w w' := by
  have hp := Tryz.strings_CutPrefix s ⟨#[48, 120]⟩
  have hpl : (⟨#[48, 120]⟩ : ByteArray).data.toList = [48, 120] := rfl
  rw [hpl] at hp
  clear hpl
  cases hb : Lib.hasPrefix s.data.toList [48, 120] with
  | true =>
    have HS : Hid (numericB s = (Lib.trimPrefix s.data.toList [48, 120]).all isHexC) := Lib.hid (by unfold numericB; rw [hb]; rfl)
    rw [hb] at hp
    have hlen : (Lib.trimPrefix s.data.toList [48, 120]).length ≤ s.size := by
      unfold Lib.trimPrefix
      rw [hb, if_pos rfl, List.length_drop, size_toList]; omega
    generalize hx : Lib.trimPrefix s.data.toList [48, 120] = x at hp HS hlen
    have HA := Lib.hid (fun W => uall_any 93 #[] isHexC fn_num_1 ⟨x.toArray⟩ W (num_1 W) (by show x.toArray.size ≤ _; rw [List.size_toArray]; omega))
    have HP := Lib.hid hp
    clear hp hb hx hlen
    go_enter Tryz.func76, Tryz.ntmps76
    go_wp2_with (first
      | (go_at_call 92; refine (HP.out _).mono ?_; rintro e w1 ⟨rfl, rfl⟩)
      | (go_at_call 73; refine (HA.out _).mono ?_; rintro e w2 ⟨rfl, hb2⟩))
    go_ret
    exact ⟨ret_bool (by rw [HS.out]), hb2⟩
  | false =>
    have HS : Hid (numericB s = s.data.toList.all isDig) := Lib.hid (by unfold numericB; rw [hb]; rfl)
    rw [hb] at hp
    have HA := Lib.hid (fun W => uall_any 94 #[] isDig fn_num_2 s W (num_2 W) (by omega))
    generalize hr : s.data.toList.all isDig = r at HA HS
    have HP := Lib.hid hp
    clear hp hb hr
    go_enter Tryz.func76, Tryz.ntmps76
    go_wp2_with (first
      | (go_at_call 92; refine (HP.out _).mono ?_; rintro e w1 ⟨rfl, rfl⟩)
      | (go_at_call 73; refine (HA.out _).mono ?_; rintro e w2 ⟨rfl, hb2⟩))
    go_ret
    exact ⟨ret_bool (by rw [HS.out]), hb2⟩
end Go.Proofs.YthmnhbalmglohaaGreatDoor.T

/- uri.Named over this program. -/
namespace Go.Proofs.YthmnhbalmglohaaGreatDoor.T
open Go.RowKit
set_option linter.unusedSimpArgs false
set_option linter.unusedVariables false
theorem plain_spec (c : UInt8) : isPlain c = ((decide (97 ≤ (c.toNat : Int)) && decide ((c.toNat : Int) ≤ 122)) || (decide (48 ≤ (c.toNat : Int)) && decide ((c.toNat : Int) ≤ 57))) := by
  have h : ∀ n : Fin 256, isPlain (UInt8.ofNat n.val) = ((decide (97 ≤ ((UInt8.ofNat n.val).toNat : Int)) && decide (((UInt8.ofNat n.val).toNat : Int) ≤ 122)) || (decide (48 ≤ ((UInt8.ofNat n.val).toNat : Int)) && decide (((UInt8.ofNat n.val).toNat : Int) ≤ 57))) := by decide +kernel
  have := h ⟨c.toNat, c.toNat_lt⟩
  simpa using this
theorem plain_any (c : UInt8) (w : World) : Calls Tryz.prog 75 #[.int .u8 c.toNat] w fun e w' => e = .returned (.bool (isPlain c)) ∧ w = w' := by
  have HT := Lib.hid (plain_spec c)
  go_enter Tryz.func75, Tryz.ntmps75
  go_wp2
  all_goals
    go_ret
    refine ⟨ret_bool ?_, rfl⟩
    rw [HT.out, Bool.eq_iff_iff]
    simp only [Bool.or_eq_true, Bool.and_eq_true, decide_eq_true_eq, true_iff, Bool.not_eq_true', decide_eq_false_iff_not, bne_iff_ne, ne_eq, beq_iff_eq, Bool.false_eq_true, false_iff]
    omega
theorem host_spec (c : UInt8) : isHostC c = (isPlain c || decide ((c.toNat : Int) = 45)) := by
  have h : ∀ n : Fin 256, isHostC (UInt8.ofNat n.val) = (isPlain (UInt8.ofNat n.val) || decide (((UInt8.ofNat n.val).toNat : Int) = 45)) := by decide +kernel
  have := h ⟨c.toNat, c.toNat_lt⟩
  simpa using this
theorem host_1 (w : World) : PredB 74 #[] isHostC w := by
  intro W c hb
  have HT := Lib.hid (host_spec c)
  clear hb
  have HP := Lib.hid (plain_any c)
  cases hq : isPlain c with
  | _ =>
    rw [hq] at HP HT
    clear hq
    go_enter Tryz.func74, Tryz.ntmps74
    go_wp2_with (go_at_call 75; refine (HP.out _).mono ?_; rintro e w' ⟨rfl, rfl⟩)
    all_goals
      go_ret
      refine ⟨ret_bool ?_, Below.refl _ _⟩
      rw [HT.out]
      first | rfl | (rw [Bool.eq_iff_iff]; simp)
theorem fn_host_1 : ∀ args w, (callFunc 74 args).run Tryz.prog w = .ok (.enter 74 args) w := enters_of Tryz.func74 (by kernel_rfl) rfl
def labelB (x : ByteArray) : Bool := !x.data.toList.isEmpty && x.data.toList.all isHostC
def labelsB (s : ByteArray) : List ByteArray := Lib.splitB ⟨#[46]⟩ 0 (Lib.countB s ⟨#[46]⟩) s
def namedB (s : ByteArray) : Bool := (labelsB s).all labelB && (decide (s.size ≤ 64) && (!numericB ((labelsB s).getD ((labelsB s).length - 1) ByteArray.empty) || quadB (labelsB s)))
theorem splitB_size (sep : ByteArray) : ∀ (k : Nat) (s : ByteArray), ∀ x ∈ Lib.splitB sep 0 k s, x.size ≤ s.size
  | 0, s, x, hx => by simp [Lib.splitB] at hx; subst hx; exact Nat.le_refl _
  | k + 1, s, x, hx => by
    unfold Lib.splitB at hx
    split at hx
    · simp at hx; subst hx; exact Nat.le_refl _
    · rcases List.mem_cons.1 hx with rfl | hx
      · rw [ByteArray.size_extract]; omega
      · have := splitB_size sep k _ x hx
        rw [ByteArray.size_extract] at this; omega
theorem labels_len (s : ByteArray) : (labelsB s).length = Lib.countB s ⟨#[46]⟩ + 1 := Lib.splitB_all ⟨#[46]⟩ (by decide) 0 _ s rfl
theorem labels_le (s : ByteArray) : (labelsB s).length ≤ s.size + 1 := by
  rw [labels_len]
  have := Lib.countB_le ⟨#[46]⟩ (by decide) s.size s (Nat.le_refl _)
  omega
theorem split_dot (s : ByteArray) (w : World) (hs : s.size < 4294967281) (hg : Glob w) :
    Calls Tryz.prog 72 #[.string s, .string ⟨#[46]⟩] w fun e w' => e = .returned (.slice (some ⟨w.heap.size, 0, none⟩) (labelsB s).length (labelsB s).length) ∧ Below w.heap.size w w' ∧ ∀ j, j < (labelsB s).length → w'.cell? ⟨w.heap.size, j, none⟩ = some (.string ((labelsB s).getD j ByteArray.empty)) := by
  obtain ⟨m, hm⟩ := hg.maxLen
  refine (Tryz.strings_Split s ⟨#[46]⟩ m w hs hm (by decide)).mono fun e w' ⟨he, hw⟩ => ?_
  subst hw
  rw [← labels_len] at he
  refine ⟨he, below_alc (Below.refl _ _) _, fun j hj => ?_⟩
  rw [World.cell?_alloc_new]
  show (((labelsB s).map Value.string).toArray)[j]? = _
  simp [List.getD_eq_getElem?_getD, List.getElem?_eq_getElem hj]
theorem isEmpty_lab (y : ByteArray) (h : y.toList.isEmpty = true) : labelB y = false := by
  unfold labelB; rw [← isEmpty_data0 y, h]; rfl
theorem lab_of (y : ByteArray) (h : y.toList.isEmpty = false) : labelB y = y.data.toList.all isHostC := by
  unfold labelB; rw [← isEmpty_data0 y, h]; rfl
set_option maxHeartbeats 2000000 in
theorem named_any (s : ByteArray) (w : World) (hs : s.size < 4294967281) (hg : Glob w) :
    Calls Tryz.prog 60 #[.string s] w fun e w' => e = .returned (.bool (namedB s)) ∧ Below w.heap.size w w' := by
  have HSP := Lib.hid (split_dot s w hs hg)
  have hsz : ∀ x ∈ labelsB s, x.size ≤ 281474976710656 := fun x hx => by have := splitB_size _ _ _ x hx; omega
  have hle := labels_le s
  have hpos : 0 < (labelsB s).length := by rw [labels_len]; omega
  have HN : Hid (namedB s = ((labelsB s).all labelB && (decide (s.size ≤ 64) && (!numericB ((labelsB s).getD ((labelsB s).length - 1) ByteArray.empty) || quadB (labelsB s))))) := Lib.hid rfl
  generalize hls : labelsB s = ls at HSP hsz hle hpos HN
  generalize hn : ls.length = n at HSP hle hpos HN
  have HL := Lib.hid hn
  have HG := Lib.hid hg
  have HZ := Lib.hid hsz
  clear hls hn hg hsz
  go_enter Tryz.func60, Tryz.ntmps60
  go_wp2_with (go_at_call 72; refine HSP.out.mono ?_; rintro e w1 ⟨rfl, hb1, hc1⟩; have HB1 := Lib.hid hb1; have HC1 := Lib.hid hc1; clear hb1 hc1)
  go_loopg [5, 10] n (fun gg _ s10 wr => ∃ kk : Nat, kk ≤ n ∧ n - kk ≤ gg ∧ s10 = .int .i64 kk ∧ Aside (Below w1.heap.size w1 wr) ∧ Aside (∀ j, j < kk → labelB (ls.getD j ByteArray.empty) = true))
  case atStart => exact ⟨0, Nat.zero_le _, by omega, rfl, Below.refl _ _, fun j hj => absurd hj (Nat.not_lt_zero _)⟩
  case round =>
    obtain ⟨kk, hkk, hg, rfl, HB0, A⟩ := hrel
    have HB : Hid (Below w1.heap.size w1 wr) := Lib.hid HB0.out
    clear HB0
    by_cases hlt : kk < n
    · have hltz : (kk : Int) < (n : Int) := by omega
      have hcell : wr.cell? ⟨w.heap.size, kk, none⟩ = some (.string (ls.getD kk ByteArray.empty)) := (HB.out.cell (World.block_lt_of_cell? w1 _ (HC1.out kk hlt))).trans (HC1.out kk hlt)
      have hyz : (ls.getD kk ByteArray.empty).size ≤ 281474976710656 := HZ.out _ (by
        rw [List.getD_eq_getElem?_getD, List.getElem?_eq_getElem (by rw [HL.out]; exact hlt)]
        exact List.getElem_mem _)
      generalize hy : ls.getD kk ByteArray.empty = y at hcell hyz
      have B : Hid (ls.getD kk ByteArray.empty = y) := Lib.hid hy
      clear hy
      cases he : y.toList.isEmpty with
      | true =>
        have HE := Lib.hid (isEmpty_lab y he)
        have he2 : (!y.toList.isEmpty) = false := by rw [he]; rfl
        go_wp2
        go_ret
        refine ⟨ret_bool ?_, below_next HB1.out HB.out⟩
        rw [HN.out, all_no_getD labelB ByteArray.empty ls kk (by rw [HL.out]; exact hlt) (by rw [B.out]; exact HE.out)]
        rfl
      | false =>
        have HE := Lib.hid (lab_of y he)
        have he2 : (!y.toList.isEmpty) = true := by rw [he]; rfl
        have hcall := fun W => uall_any 74 #[] isHostC fn_host_1 y W (host_1 W) (by omega)
        clear hyz
        cases hq : y.data.toList.all isHostC with
        | true =>
          rw [hq] at hcall
          have HC := Lib.hid hcall
          have HQ := Lib.hid hq
          clear hcall hq
          go_wp2_with (go_at_call 73; refine (HC.out _).mono ?_; rintro e w2 ⟨rfl, hb2⟩)
          go_roundg (n - (kk + 1))
          case measure => omega
          case rel =>
            refine ⟨kk + 1, by omega, by omega, by go_num, below_next HB.out hb2, fun j hj => ?_⟩
            by_cases e : j = kk
            · subst e
              rw [B.out, HE.out]; exact HQ.out
            · exact A.out j (by omega)
        | false =>
          rw [hq] at hcall
          have HC := Lib.hid hcall
          have HQ := Lib.hid hq
          clear hcall hq
          go_wp2_with (go_at_call 73; refine (HC.out _).mono ?_; rintro e w2 ⟨rfl, hb2⟩)
          go_ret
          refine ⟨ret_bool ?_, below_next HB1.out (below_next HB.out hb2)⟩
          rw [HN.out, all_no_getD labelB ByteArray.empty ls kk (by rw [HL.out]; exact hlt) (by rw [B.out, HE.out]; exact HQ.out)]
          rfl
    · have hltz : ¬ (kk : Int) < (n : Int) := by omega
      obtain rfl : kk = n := by omega
      have HALL : Hid (ls.all labelB = true) := Lib.hid (all_of_getD labelB ByteArray.empty ls (by rw [HL.out]; exact A.out))
      clear A
      by_cases h64 : s.size ≤ 64
      · have h64a : (s.size : Int) ≤ 64 := by omega
        have hcl := HC1.out (kk - 1) (by omega)
        have hcell : wr.cell? ⟨w.heap.size, kk - 1, none⟩ = some (.string (ls.getD (kk - 1) ByteArray.empty)) := (HB.out.cell (World.block_lt_of_cell? w1 _ hcl)).trans hcl
        clear hcl
        have hyz : (ls.getD (kk - 1) ByteArray.empty).size ≤ 281474976710656 := HZ.out _ (by
          rw [List.getD_eq_getElem?_getD, List.getElem?_eq_getElem (by rw [HL.out]; omega)]
          exact List.getElem_mem _)
        have HY : Hid (namedB s = (!numericB (ls.getD (kk - 1) ByteArray.empty) || quadB ls)) := Lib.hid (by rw [HN.out, HALL.out, decide_eq_true h64]; rfl)
        generalize hy : ls.getD (kk - 1) ByteArray.empty = y at hcell hyz HY
        clear hy
        have HNU := Lib.hid (fun W => numeric_any y W hyz)
        clear hyz
        cases hq : numericB y with
        | false =>
          rw [hq] at HNU HY
          clear hq
          go_wp2_with (go_at_call 76; refine (HNU.out _).mono ?_; rintro e w2 ⟨rfl, hb2⟩)
          go_ret
          exact ⟨ret_bool (by rw [HY.out]; rfl), below_next HB1.out (below_next HB.out hb2)⟩
        | true =>
          rw [hq] at HNU HY
          clear hq
          have HQU := Lib.hid (fun (W : World) (hb : Below w1.heap.size w1 W) => quad_any w.heap.size 0 kk kk ls W (HG.out.below (below_next HB1.out hb)) HZ.out HL.out (by omega) (fun j hj => by
            rw [Nat.zero_add]
            exact (hb.cell (World.block_lt_of_cell? w1 _ (HC1.out j hj))).trans (HC1.out j hj)))
          cases hq2 : quadB ls with
          | _ =>
            rw [hq2] at HQU HY
            clear hq2
            go_wp2_with (first
              | (go_at_call 76; refine (HNU.out _).mono ?_; rintro e w2 ⟨rfl, hb2⟩; have HB2 := Lib.hid (below_next HB.out hb2); clear hb2)
              | (go_at_call 77; refine (HQU.out _ HB2.out).mono ?_; rintro e w3 ⟨rfl, hb3⟩))
            go_ret
            exact ⟨ret_bool (by rw [HY.out]; rfl), below_next HB1.out (below_next HB2.out hb3)⟩
      · have h64a : ¬ (s.size : Int) ≤ 64 := by omega
        have HY : Hid (namedB s = false) := Lib.hid (by rw [HN.out, decide_eq_false h64]; simp)
        clear h64
        go_wp2
        go_ret
        exact ⟨ret_bool HY.out.symm, below_next HB1.out HB.out⟩
end Go.Proofs.YthmnhbalmglohaaGreatDoor.T

/- acl.May, acl.All, acl.Admits over this program. -/
namespace Go.Proofs.YthmnhbalmglohaaGreatDoor.T
open Go.RowKit
set_option linter.unusedSimpArgs false
set_option linter.unusedVariables false
theorem may_1 (w : World) : PredS 62 #[] (fun s => !tokenB s) (fun s => s.size ≤ 281474976710656) w := by
  intro W s hb hs
  have HT := Lib.hid (fun W => token_any s W (by omega))
  cases hq : tokenB s with
  | _ =>
    rw [hq] at HT
    clear hb hs
    have HQ := Lib.hid hq
    clear hq
    go_enter Tryz.func62, Tryz.ntmps62
    go_wp2_with (go_at_call 63; refine (HT.out _).mono ?_; rintro e w1 ⟨rfl, hb1⟩)
    go_ret
    exact ⟨ret_bool (by rw [HQ.out]; rfl), hb1⟩
theorem fn_may_1 : ∀ args w, (callFunc 62 args).run Tryz.prog w = .ok (.enter 62 args) w := enters_of Tryz.func62 (by kernel_rfl) rfl
/-- what acl.May tells of a rule -/
def hostMay (host : ByteArray) : Bool := host.data.toList == [42] || namedB ⟨(Lib.trimPrefix host.data.toList [46]).toArray⟩
def mayB (allow : Bool) (host : ByteArray) (low high : Int) (ms : List ByteArray) : Bool :=
  hostMay host && (decide (1 ≤ low) && decide (low ≤ high) && decide (high ≤ 65535)) && decide (ms.length ≤ 8) && ms.all tokenB
theorem trim_size (host : ByteArray) : (⟨(Lib.trimPrefix host.data.toList [46]).toArray⟩ : ByteArray).size ≤ host.size := by
  show (Lib.trimPrefix host.data.toList [46]).toArray.size ≤ _
  rw [List.size_toArray, ← size_toList host]
  unfold Lib.trimPrefix
  split
  · rw [List.length_drop]; omega
  · exact Nat.le_refl _
set_option maxHeartbeats 4000000 in
theorem may_any (allow : Bool) (host : ByteArray) (low high : Int) (A : Option Addr) (c : Nat) (ms : List ByteArray) (w : World) (hg : Glob w) (hh : host.size < 4294967281)
    (hs : ∀ x ∈ ms, x.size ≤ 281474976710656) (hbig : ms.length ≤ 9223372036854775807)
    (hc : 0 < ms.length → ∃ b off, A = some ⟨b, off, none⟩ ∧ ∀ j, j < ms.length → w.cell? ⟨b, off + j, none⟩ = some (.string (ms.getD j ByteArray.empty))) :
    Calls Tryz.prog 44 #[.agg #[.bool allow, .string host, .int .i64 low, .int .i64 high, .slice A ms.length c]] w fun e w' => e = .returned (.bool (mayB allow host low high ms)) ∧ Below w.heap.size w w' := by
  have HMET := Lib.hid (fun (W : World) (hb : Below w.heap.size w W) => contains_string_any 62 #[] (fun s => !tokenB s) _ fn_may_1 A c ms W (may_1 W) hs hbig (fun h0 => by
    obtain ⟨b, off, e, hc⟩ := hc h0
    exact ⟨b, off, e, fun j hj => (hb.cell (World.block_lt_of_cell? w _ (hc j hj))).trans (hc j hj)⟩))
  have HTR := Lib.hid (Tryz.strings_TrimPrefix host ⟨#[46]⟩)
  have HNM := Lib.hid (fun (W : World) (hb : Below w.heap.size w W) => named_any ⟨(Lib.trimPrefix host.data.toList [46]).toArray⟩ W (by have := trim_size host; omega) (hg.below hb))
  have HM : Hid (mayB allow host low high ms = (hostMay host && (decide (1 ≤ low) && decide (low ≤ high) && decide (high ≤ 65535)) && decide (ms.length ≤ 8) && !(ms.any fun s => !tokenB s))) := Lib.hid (by
    unfold mayB
    congr 1
    rw [List.not_any_eq_all_not]
    simp)
  have HH : Hid (hostMay host = (host.toList == [42] || namedB ⟨(Lib.trimPrefix host.data.toList [46]).toArray⟩)) := Lib.hid (by unfold hostMay; rw [Lib.toList_data])
  generalize hr : (ms.any fun s => !tokenB s) = r at HMET HM
  generalize hN : namedB ⟨(Lib.trimPrefix host.data.toList [46]).toArray⟩ = N at HNM HH
  clear hr hN hs hc hg
  cases h42 : host.toList == [42] with
  | true =>
    rw [h42] at HH
    have h42b : host.toList = [42] := by simpa using h42
    cases r with
    | _ =>
      go_enter Tryz.func44, Tryz.ntmps44
      go_wp2_with (go_at_call 39; refine (HMET.out _ (by first | exact below_alc (Below.refl _ _) _ | exact Below.refl _ _)).mono ?_; rintro e w1 ⟨rfl, hb1⟩)
      all_goals
        go_ret
        refine ⟨ret_bool ?_, ?_⟩
        · rw [HM.out, HH.out, Bool.eq_iff_iff]
          simp only [Bool.or_eq_true, Bool.and_eq_true, decide_eq_true_eq, true_iff, Bool.not_eq_true', decide_eq_false_iff_not, Bool.false_eq_true, false_iff, Bool.not_true, Bool.not_false, true_or, true_and, and_true, and_false, iff_false]
          try omega
        · first
          | exact below_next (below_alc (Below.refl _ _) _) hb1
          | exact below_alc (Below.refl _ _) _
          | exact hb1
          | exact Below.refl _ _
  | false =>
    rw [h42] at HH
    have h42b : ¬ (host.toList = [42]) := by simpa using h42
    cases N with
    | _ =>
      cases r with
      | _ =>
        go_enter Tryz.func44, Tryz.ntmps44
        go_wp2_with (first
          | (go_at_call 61; refine (HTR.out _).mono ?_; rintro e w1 ⟨rfl, rfl⟩)
          | (go_at_call 60; refine (HNM.out _ (by first | exact below_alc (Below.refl _ _) _ | exact Below.refl _ _)).mono ?_; rintro e w1 ⟨rfl, hb0⟩; have HB0 := Lib.hid (below_next (below_alc (Below.refl _ _) _) hb0); have hc2 : w1.cell? ⟨w.heap.size, 2, none⟩ = some (.int .i64 low) := (hb0.cell (p := ⟨w.heap.size, 2, none⟩) (by simp)).trans (World.cell?_alloc_new _ _ _ _); have hc3 : w1.cell? ⟨w.heap.size, 3, none⟩ = some (.int .i64 high) := (hb0.cell (p := ⟨w.heap.size, 3, none⟩) (by simp)).trans (World.cell?_alloc_new _ _ _ _); have hc4 : w1.cell? ⟨w.heap.size, 4, none⟩ = some (.slice A ms.length c) := (hb0.cell (p := ⟨w.heap.size, 4, none⟩) (by simp)).trans (World.cell?_alloc_new _ _ _ _); clear hb0)
          | (go_at_call 39; refine (HMET.out _ HB0.out).mono ?_; rintro e w2 ⟨rfl, hb1⟩))
        all_goals
          go_ret
          refine ⟨ret_bool ?_, ?_⟩
          · rw [HM.out, HH.out, Bool.eq_iff_iff]
            simp only [Bool.or_eq_true, Bool.and_eq_true, decide_eq_true_eq, true_iff, Bool.not_eq_true', decide_eq_false_iff_not, Bool.false_eq_true, false_iff, Bool.not_true, Bool.not_false, true_or, true_and, and_true, and_false, iff_false, or_false, false_or, false_and]
            try omega
          · first
            | exact below_next HB0.out hb1
            | exact HB0.out
end Go.Proofs.YthmnhbalmglohaaGreatDoor.T

/- acl.May, acl.All in the print's form. -/
namespace Go.Proofs.YthmnhbalmglohaaGreatDoor.X
open Go.RowKit Go.Proofs.YthmnhbalmglohaaGreatDoorW.PrintWords Go.Proofs.YthmnhbalmglohaaGreatDoor.T
set_option linter.unusedSimpArgs false
set_option linter.unusedVariables false
/-- the sizes at which a rule is asked -/
def fitsM (l : List ByteArray) : Bool := l.all fun m => decide (m.size ≤ 281474976710656)
theorem fitsM_mem {l : List ByteArray} (h : fitsM l = true) : ∀ m ∈ l, m.size ≤ 281474976710656 := fun m hm => by
  unfold fitsM at h
  rw [List.all_eq_true] at h
  simpa using h m hm
def acl_May.f (a0_0 : Bool) (a0_1 : ByteArray) (a0_2 : Int) (a0_3 : Int) (l0_4 : List ByteArray) : Option Bool :=
  if a0_1.size < 4294967281 ∧ fitsM l0_4 = true ∧ l0_4.length ≤ 9223372036854775807 then some (mayB a0_0 a0_1 a0_2 a0_3 l0_4) else none
theorem acl_May.calls (a0_0 : Bool) (a0_1 : ByteArray) (a0_2 : Int) (a0_3 : Int) (A0_4 : Option Addr) (c0_4 : Nat) (l0_4 : List ByteArray) (r : Bool) (w : World) (hr0_4 : Kd.C Kd.string w A0_4 l0_4.length l0_4) (hc0_4 : l0_4.length ≤ c0_4) (HGg : Glob w) (h : acl_May.f a0_0 a0_1 a0_2 a0_3 l0_4 = some r) :
    Calls Tryz.prog 44 #[.agg #[.bool a0_0, .string a0_1, .int .i64 a0_2, .int .i64 a0_3, .slice A0_4 l0_4.length c0_4]] w fun e w' => e = .returned (.bool r) ∧ Below w.heap.size w w' := by
  obtain ⟨⟨h1, h2, h3⟩, rfl⟩ := of_lim h
  exact may_any a0_0 a0_1 a0_2 a0_3 A0_4 c0_4 l0_4 w HGg h1 (fitsM_mem h2) h3 (fun h0 => C_strings hr0_4 h0)
def mayR (x : S46) : Bool := mayB x.f0 x.f1 x.f2 x.f3 x.f4
def fitsR (x : S46) : Bool := decide (x.f1.size < 4294967281) && (fitsM x.f4 && decide (x.f4.length ≤ 9223372036854775807))
theorem fitsR_f {x : S46} (h : fitsR x = true) : acl_May.f x.f0 x.f1 x.f2 x.f3 x.f4 = some (mayR x) := by
  unfold fitsR at h
  simp only [Bool.and_eq_true, decide_eq_true_eq] at h
  unfold acl_May.f mayR
  rw [if_pos h]
theorem all_r1 (w : World) (hg : Glob w) : PredR 43 #[] (fun x => !mayR x) (fun x => fitsR x = true) w := by
  intro W x A c hb hx hC hl
  have HM := Lib.hid (fun (W1 : World) (h1 : Below W.heap.size W W1) => acl_May.calls x.f0 x.f1 x.f2 x.f3 A c x.f4 (mayR x) W1 (Kd.C_below hC h1) hl ((hg.below hb).below h1) (fitsR_f hx))
  clear hb hC hl hg hx
  show Calls _ _ #[ruleV x A c] _ _
  unfold ruleV
  cases hq : mayR x with
  | _ =>
    rw [hq] at HM
    have HQ := Lib.hid hq
    clear hq
    go_enter Tryz.func43, Tryz.ntmps43
    go_wp2_with (go_at_call 44; refine (HM.out _ (below_alc (Below.refl _ _) _)).mono ?_; rintro e w1 ⟨rfl, hb1⟩)
    go_ret
    exact ⟨ret_bool (by rw [HQ.out]; rfl), below_next (below_alc (Below.refl _ _) _) hb1⟩
theorem fn_all_r1 : ∀ args w, (callFunc 43 args).run Tryz.prog w = .ok (.enter 43 args) w := enters_of Tryz.func43 (by kernel_rfl) rfl
def allB (l : List S46) : Bool := decide (l.length ≤ 16) && l.all mayR
def acl_All.f (l0 : List S46) : Option Bool := if l0.all fitsR = true ∧ l0.length ≤ 9223372036854775807 then some (allB l0) else none
theorem acl_All.calls (A0 : Option Addr) (c0 : Nat) (l0 : List S46) (r : Bool) (w : World) (hr0 : Kd.C k46 w A0 l0.length l0) (hc0 : l0.length ≤ c0) (HGg : Glob w) (h : acl_All.f l0 = some r) :
    Calls Tryz.prog 24 #[.slice A0 l0.length c0] w fun e w' => e = .returned (.bool r) ∧ Below w.heap.size w w' := by
  obtain ⟨⟨h1, h3⟩, rfl⟩ := of_lim h
  have hc := contains_rule 43 #[] (fun x => !mayR x) _ fn_all_r1 A0 c0 l0 w (all_r1 w HGg) (fun x hx => List.all_eq_true.1 h1 x hx) h3 hr0
  have HA : Hid (allB l0 = (decide (l0.length ≤ 16) && !(l0.any fun x => !mayR x))) := Lib.hid (by unfold allB; rw [List.not_any_eq_all_not]; simp)
  generalize hr : (l0.any fun x => !mayR x) = r at hc HA
  have HC := Lib.hid hc
  clear hc hr hr0 HGg h h1
  generalize l0.length = n at HC HA h3
  by_cases h16 : n ≤ 16
  · have h16a : (n : Int) ≤ 16 := by omega
    rw [decide_eq_true h16] at HA
    go_enter Tryz.func24, Tryz.ntmps24
    go_wp2_with (go_at_call 42; refine HC.out.mono ?_; rintro e w' ⟨rfl, hb⟩)
    go_ret
    exact ⟨ret_bool (by rw [HA.out]; rfl), hb⟩
  · have h16a : ¬ (n : Int) ≤ 16 := by omega
    rw [decide_eq_false h16] at HA
    clear h16
    go_enter Tryz.func24, Tryz.ntmps24
    go_wp2
    go_ret
    exact ⟨ret_bool (by rw [HA.out]; rfl), Below.refl _ _⟩
end Go.Proofs.YthmnhbalmglohaaGreatDoor.X

/- auth.Tenant in the print's form. -/
namespace Go.Proofs.YthmnhbalmglohaaGreatDoor.X
open Go.RowKit Go.Proofs.YthmnhbalmglohaaGreatDoorW.PrintWords Go.Proofs.YthmnhbalmglohaaGreatDoor.T
set_option linter.unusedSimpArgs false
set_option linter.unusedVariables false
/-- what 'in' leaves in 'may' -/
theorem in_any (B : Nat) (b : Bool) (n lo hi : Int) (W : World) (hc : W.cell? ⟨B, 0, none⟩ = some (.bool b)) (hf : W.frozen? ⟨B, 0, none⟩ = false) :
    Calls Tryz.prog 25 #[.int .i64 n, .int .i64 lo, .int .i64 hi, .pointer (some ⟨B, 0, none⟩)] W fun e w' => e = .returned (.tuple #[]) ∧ w' = W.setCell ⟨B, 0, none⟩ (.bool (b && (decide (lo ≤ n) && decide (n ≤ hi)))) := by
  cases b with
  | false =>
    go_enter Tryz.func25, Tryz.ntmps25
    go_wp2
    go_end0
    exact ⟨rfl, rfl⟩
  | true =>
    by_cases h1 : lo ≤ n
    · by_cases h2 : n ≤ hi
      · have e : (true && (decide (lo ≤ n) && decide (n ≤ hi))) = true := by rw [decide_eq_true h1, decide_eq_true h2]; rfl
        rw [e]
        go_enter Tryz.func25, Tryz.ntmps25
        go_wp2
        go_end0
        exact ⟨rfl, rfl⟩
      · have e : (true && (decide (lo ≤ n) && decide (n ≤ hi))) = false := by rw [decide_eq_true h1, decide_eq_false h2]; rfl
        rw [e]
        go_enter Tryz.func25, Tryz.ntmps25
        go_wp2
        go_end0
        exact ⟨rfl, rfl⟩
    · have e : (true && (decide (lo ≤ n) && decide (n ≤ hi))) = false := by rw [decide_eq_false h1]; rfl
      rw [e]
      go_enter Tryz.func25, Tryz.ntmps25
      go_wp2
      go_end0
      exact ⟨rfl, rfl⟩
theorem fn_in : ∀ args w, (callFunc 25 args).run Tryz.prog w = .ok (.enter 25 args) w := enters_of Tryz.func25 (by kernel_rfl) rfl
theorem below_setc {w : World} {W : World} {p : Addr} (h : Below w.heap.size w W) (u : Value) (hp : w.heap.size ≤ p.block) : Below w.heap.size w (W.setCell p u) := h.setCell hp u
/-- .. and that all else stays -/
theorem in_step (w : World) (T : Nat) (hT : w.heap.size ≤ T) (b b2 : Bool) (n lo hi : Int) (hb : b2 = (b && (decide (lo ≤ n) && decide (n ≤ hi)))) (x2 x3 x4 x5 x6 x7 x8 : Int) (M : Nat) (W : World) (hc : W.cell? ⟨M, 0, none⟩ = some (.bool b)) (hf : W.frozen? ⟨M, 0, none⟩ = false) (h2 : W.cell? ⟨T, 2, none⟩ = some (.int .i64 x2)) (h3 : W.cell? ⟨T, 3, none⟩ = some (.int .i64 x3)) (h4 : W.cell? ⟨T, 4, none⟩ = some (.int .i64 x4)) (h5 : W.cell? ⟨T, 5, none⟩ = some (.int .i64 x5)) (h6 : W.cell? ⟨T, 6, none⟩ = some (.int .i64 x6)) (h7 : W.cell? ⟨T, 7, none⟩ = some (.int .i64 x7)) (h8 : W.cell? ⟨T, 8, none⟩ = some (.int .i64 x8)) (hB : Below w.heap.size w W) (hTM : T < M) :
    Calls Tryz.prog 25 #[.int .i64 n, .int .i64 lo, .int .i64 hi, .pointer (some ⟨M, 0, none⟩)] W fun e w' => e = .returned (.tuple #[]) ∧ w'.cell? ⟨M, 0, none⟩ = some (.bool b2) ∧ w'.frozen? ⟨M, 0, none⟩ = false ∧ w'.cell? ⟨T, 2, none⟩ = some (.int .i64 x2) ∧ w'.cell? ⟨T, 3, none⟩ = some (.int .i64 x3) ∧ w'.cell? ⟨T, 4, none⟩ = some (.int .i64 x4) ∧ w'.cell? ⟨T, 5, none⟩ = some (.int .i64 x5) ∧ w'.cell? ⟨T, 6, none⟩ = some (.int .i64 x6) ∧ w'.cell? ⟨T, 7, none⟩ = some (.int .i64 x7) ∧ w'.cell? ⟨T, 8, none⟩ = some (.int .i64 x8) ∧ Below w.heap.size w w' := by
  refine (in_any M b n lo hi W hc hf).mono fun e w' ⟨he, hw⟩ => ?_
  subst hw
  rw [← hb]
  have other : ∀ j, (W.setCell ⟨M, 0, none⟩ (.bool b2)).cell? ⟨T, j, none⟩ = W.cell? ⟨T, j, none⟩ := fun j => World.cell?_setCell_other W _ _ _ (by intro e2; injection e2 with e3 _; omega)
  refine ⟨he, World.cell?_setCell_same W _ _ hc, by rw [World.frozen?_setCell]; exact hf, (other 2).trans h2, (other 3).trans h3, (other 4).trans h4, (other 5).trans h5, (other 6).trans h6, (other 7).trans h7, (other 8).trans h8, below_setc hB _ (by show w.heap.size ≤ M; omega)⟩
theorem alloc_cell {W : World} {p : Addr} {v : Value} (o : Obj) (h : W.cell? p = some v) : (W.alloc o).cell? p = some v := ((below_alc (Below.refl _ _) o).cell (World.block_lt_of_cell? W _ h)).trans h
theorem alloc_open (W : World) (v : Value) (t : TypeId) : (W.alloc (.cells #[v] t)).frozen? ⟨W.heap.size, 0, none⟩ = false := by go_simp
def rangesB (x2 x3 x4 x5 x6 x7 x8 : Int) (m : Bool) : Bool := (((((((m && (decide (0 ≤ x2) && decide (x2 ≤ 262144))) && (decide (0 ≤ x3) && decide (x3 ≤ 64))) && (decide (1 ≤ x4) && decide (x4 ≤ 16))) && (decide (1 ≤ x5) && decide (x5 ≤ 8))) && (decide (0 ≤ x6) && decide (x6 ≤ 16))) && (decide (1 ≤ x7) && decide (x7 ≤ 1000))) && (decide (1 ≤ x8) && decide (x8 ≤ 1000)))
/-- what auth.Tenant tells of a tenant -/
def tenantB (tok : ByteArray) (rules : List S46) (x2 x3 x4 x5 x6 x7 x8 : Int) : Bool := rangesB x2 x3 x4 x5 x6 x7 x8 (authMayB tok && allB rules)
def auth_Tenant.f (a0_0 : ByteArray) (l0_1 : List S46) (a0_2 a0_3 a0_4 a0_5 a0_6 a0_7 a0_8 : Int) : Option Bool := if a0_0.size ≤ 9223372036854775807 ∧ l0_1.all fitsR = true ∧ l0_1.length ≤ 9223372036854775807 then some (tenantB a0_0 l0_1 a0_2 a0_3 a0_4 a0_5 a0_6 a0_7 a0_8) else none
set_option maxHeartbeats 8000000 in
theorem auth_Tenant.calls (a0_0 : ByteArray) (A0_1 : Option Addr) (c0_1 : Nat) (l0_1 : List S46) (a0_2 a0_3 a0_4 a0_5 a0_6 a0_7 a0_8 : Int) (r : Bool) (w : World) (hr0_1 : Kd.C k46 w A0_1 l0_1.length l0_1) (hc0_1 : l0_1.length ≤ c0_1) (HGg : Glob w) (h : auth_Tenant.f a0_0 l0_1 a0_2 a0_3 a0_4 a0_5 a0_6 a0_7 a0_8 = some r) :
    Calls Tryz.prog 11 #[.agg #[.string a0_0, .slice A0_1 l0_1.length c0_1, .int .i64 a0_2, .int .i64 a0_3, .int .i64 a0_4, .int .i64 a0_5, .int .i64 a0_6, .int .i64 a0_7, .int .i64 a0_8]] w fun e w' => e = .returned (.bool r) ∧ Below w.heap.size w w' := by
  obtain ⟨⟨h1, h2, h3⟩, rfl⟩ := of_lim h
  have HM := Lib.hid (fun W => amay_any a0_0 W h1)
  have HA := Lib.hid (fun (W : World) (hb : Below w.heap.size w W) => acl_All.calls A0_1 c0_1 l0_1 (allB l0_1) W (Kd.C_below hr0_1 hb) hc0_1 (HGg.below hb) (by unfold acl_All.f; rw [if_pos ⟨h2, h3⟩]))
  have HR : Hid (tenantB a0_0 l0_1 a0_2 a0_3 a0_4 a0_5 a0_6 a0_7 a0_8 = rangesB a0_2 a0_3 a0_4 a0_5 a0_6 a0_7 a0_8 (authMayB a0_0 && allB l0_1)) := Lib.hid rfl
  have hlen : l0_1.length ≤ 9223372036854775807 := h3
  clear h hr0_1 HGg h1 h2 h3
  generalize l0_1.length = len at HA hlen hc0_1
  have eg := fn_in
  cases ha : authMayB a0_0 with
  | false =>
    rw [ha] at HM HR
    rw [Bool.false_and] at HR
    clear ha
    obtain ⟨m1, e1⟩ : ∃ x, x = (false && (decide (0 ≤ a0_2) && decide (a0_2 ≤ 262144))) := ⟨_, rfl⟩
    obtain ⟨m2, e2⟩ : ∃ x, x = (m1 && (decide (0 ≤ a0_3) && decide (a0_3 ≤ 64))) := ⟨_, rfl⟩
    obtain ⟨m3, e3⟩ : ∃ x, x = (m2 && (decide (1 ≤ a0_4) && decide (a0_4 ≤ 16))) := ⟨_, rfl⟩
    obtain ⟨m4, e4⟩ : ∃ x, x = (m3 && (decide (1 ≤ a0_5) && decide (a0_5 ≤ 8))) := ⟨_, rfl⟩
    obtain ⟨m5, e5⟩ : ∃ x, x = (m4 && (decide (0 ≤ a0_6) && decide (a0_6 ≤ 16))) := ⟨_, rfl⟩
    obtain ⟨m6, e6⟩ : ∃ x, x = (m5 && (decide (1 ≤ a0_7) && decide (a0_7 ≤ 1000))) := ⟨_, rfl⟩
    obtain ⟨m7, e7⟩ : ∃ x, x = (m6 && (decide (1 ≤ a0_8) && decide (a0_8 ≤ 1000))) := ⟨_, rfl⟩
    have HR2 : Hid (tenantB a0_0 l0_1 a0_2 a0_3 a0_4 a0_5 a0_6 a0_7 a0_8 = m7) := Lib.hid (by rw [HR.out]; unfold rangesB; rw [← e1, ← e2, ← e3, ← e4, ← e5, ← e6, ← e7])
    have H1 := Lib.hid (in_step w w.heap.size (Nat.le_refl _) false m1 a0_2 0 262144 e1 a0_2 a0_3 a0_4 a0_5 a0_6 a0_7 a0_8)
    have H2 := Lib.hid (in_step w w.heap.size (Nat.le_refl _) m1 m2 a0_3 0 64 e2 a0_2 a0_3 a0_4 a0_5 a0_6 a0_7 a0_8)
    have H3 := Lib.hid (in_step w w.heap.size (Nat.le_refl _) m2 m3 a0_4 1 16 e3 a0_2 a0_3 a0_4 a0_5 a0_6 a0_7 a0_8)
    have H4 := Lib.hid (in_step w w.heap.size (Nat.le_refl _) m3 m4 a0_5 1 8 e4 a0_2 a0_3 a0_4 a0_5 a0_6 a0_7 a0_8)
    have H5 := Lib.hid (in_step w w.heap.size (Nat.le_refl _) m4 m5 a0_6 0 16 e5 a0_2 a0_3 a0_4 a0_5 a0_6 a0_7 a0_8)
    have H6 := Lib.hid (in_step w w.heap.size (Nat.le_refl _) m5 m6 a0_7 1 1000 e6 a0_2 a0_3 a0_4 a0_5 a0_6 a0_7 a0_8)
    have H7 := Lib.hid (in_step w w.heap.size (Nat.le_refl _) m6 m7 a0_8 1 1000 e7 a0_2 a0_3 a0_4 a0_5 a0_6 a0_7 a0_8)
    clear e1 e2 e3 e4 e5 e6 e7 HR
    have tk1 : True := trivial
    have tk2 : True := trivial
    have tk3 : True := trivial
    have tk4 : True := trivial
    have tk5 : True := trivial
    have tk6 : True := trivial
    have tk7 : True := trivial
    go_enter Tryz.func11, Tryz.ntmps11
    go_wp2_with (first
      | (go_at_call 13; refine (HM.out _).mono ?_; rintro e w1 ⟨rfl, hb1⟩; have hT1a : w1.cell? ⟨w.heap.size, 1, none⟩ = some (.slice A0_1 len c0_1) := (hb1.cell (p := ⟨w.heap.size, 1, none⟩) (by simp)).trans (by go_simp); have hT2a : w1.cell? ⟨w.heap.size, 2, none⟩ = some (.int .i64 a0_2) := (hb1.cell (p := ⟨w.heap.size, 2, none⟩) (by simp)).trans (by go_simp); have hT3a : w1.cell? ⟨w.heap.size, 3, none⟩ = some (.int .i64 a0_3) := (hb1.cell (p := ⟨w.heap.size, 3, none⟩) (by simp)).trans (by go_simp); have hT4a : w1.cell? ⟨w.heap.size, 4, none⟩ = some (.int .i64 a0_4) := (hb1.cell (p := ⟨w.heap.size, 4, none⟩) (by simp)).trans (by go_simp); have hT5a : w1.cell? ⟨w.heap.size, 5, none⟩ = some (.int .i64 a0_5) := (hb1.cell (p := ⟨w.heap.size, 5, none⟩) (by simp)).trans (by go_simp); have hT6a : w1.cell? ⟨w.heap.size, 6, none⟩ = some (.int .i64 a0_6) := (hb1.cell (p := ⟨w.heap.size, 6, none⟩) (by simp)).trans (by go_simp); have hT7a : w1.cell? ⟨w.heap.size, 7, none⟩ = some (.int .i64 a0_7) := (hb1.cell (p := ⟨w.heap.size, 7, none⟩) (by simp)).trans (by go_simp); have hT8a : w1.cell? ⟨w.heap.size, 8, none⟩ = some (.int .i64 a0_8) := (hb1.cell (p := ⟨w.heap.size, 8, none⟩) (by simp)).trans (by go_simp); have HB1 := Lib.hid (below_next (below_alc (Below.refl _ _) _) hb1); clear hb1; have hTM : w.heap.size < w1.heap.size := World.block_lt_of_cell? _ _ hT2a; have hT2z := alloc_cell (.cells #[.bool false] 4) hT2a; have hT3z := alloc_cell (.cells #[.bool false] 4) hT3a; have hT4z := alloc_cell (.cells #[.bool false] 4) hT4a; have hT5z := alloc_cell (.cells #[.bool false] 4) hT5a; have hT6z := alloc_cell (.cells #[.bool false] 4) hT6a; have hT7z := alloc_cell (.cells #[.bool false] 4) hT7a; have hT8z := alloc_cell (.cells #[.bool false] 4) hT8a; have hMz := cell_box w1 (.bool false) 4; have hFz := alloc_open w1 (.bool false) 4; have HBz := Lib.hid (below_alc HB1.out (.cells #[.bool false] 4)))
      | (go_at_fn 25; have t_ := tk1; clear tk1; clear t_; refine (H1.out _ _ hMz hFz hT2z hT3z hT4z hT5z hT6z hT7z hT8z HBz.out hTM).mono ?_; (try clear hMz hFz hT2z hT3z hT4z hT5z hT6z hT7z hT8z HBz); rintro e wz ⟨rfl, hMz, hFz, hT2z, hT3z, hT4z, hT5z, hT6z, hT7z, hT8z, hbz⟩; have HBz := Lib.hid hbz; clear hbz)
      | (go_at_fn 25; have t_ := tk2; clear tk2; clear t_; refine (H2.out _ _ hMz hFz hT2z hT3z hT4z hT5z hT6z hT7z hT8z HBz.out hTM).mono ?_; (try clear hMz hFz hT2z hT3z hT4z hT5z hT6z hT7z hT8z HBz); rintro e wz ⟨rfl, hMz, hFz, hT2z, hT3z, hT4z, hT5z, hT6z, hT7z, hT8z, hbz⟩; have HBz := Lib.hid hbz; clear hbz)
      | (go_at_fn 25; have t_ := tk3; clear tk3; clear t_; refine (H3.out _ _ hMz hFz hT2z hT3z hT4z hT5z hT6z hT7z hT8z HBz.out hTM).mono ?_; (try clear hMz hFz hT2z hT3z hT4z hT5z hT6z hT7z hT8z HBz); rintro e wz ⟨rfl, hMz, hFz, hT2z, hT3z, hT4z, hT5z, hT6z, hT7z, hT8z, hbz⟩; have HBz := Lib.hid hbz; clear hbz)
      | (go_at_fn 25; have t_ := tk4; clear tk4; clear t_; refine (H4.out _ _ hMz hFz hT2z hT3z hT4z hT5z hT6z hT7z hT8z HBz.out hTM).mono ?_; (try clear hMz hFz hT2z hT3z hT4z hT5z hT6z hT7z hT8z HBz); rintro e wz ⟨rfl, hMz, hFz, hT2z, hT3z, hT4z, hT5z, hT6z, hT7z, hT8z, hbz⟩; have HBz := Lib.hid hbz; clear hbz)
      | (go_at_fn 25; have t_ := tk5; clear tk5; clear t_; refine (H5.out _ _ hMz hFz hT2z hT3z hT4z hT5z hT6z hT7z hT8z HBz.out hTM).mono ?_; (try clear hMz hFz hT2z hT3z hT4z hT5z hT6z hT7z hT8z HBz); rintro e wz ⟨rfl, hMz, hFz, hT2z, hT3z, hT4z, hT5z, hT6z, hT7z, hT8z, hbz⟩; have HBz := Lib.hid hbz; clear hbz)
      | (go_at_fn 25; have t_ := tk6; clear tk6; clear t_; refine (H6.out _ _ hMz hFz hT2z hT3z hT4z hT5z hT6z hT7z hT8z HBz.out hTM).mono ?_; (try clear hMz hFz hT2z hT3z hT4z hT5z hT6z hT7z hT8z HBz); rintro e wz ⟨rfl, hMz, hFz, hT2z, hT3z, hT4z, hT5z, hT6z, hT7z, hT8z, hbz⟩; have HBz := Lib.hid hbz; clear hbz)
      | (go_at_fn 25; have t_ := tk7; clear tk7; clear t_; refine (H7.out _ _ hMz hFz hT2z hT3z hT4z hT5z hT6z hT7z hT8z HBz.out hTM).mono ?_; (try clear hMz hFz hT2z hT3z hT4z hT5z hT6z hT7z hT8z HBz); rintro e wz ⟨rfl, hMz, hFz, hT2z, hT3z, hT4z, hT5z, hT6z, hT7z, hT8z, hbz⟩; have HBz := Lib.hid hbz; clear hbz))
    go_ret
    exact ⟨ret_bool HR2.out.symm, HBz.out⟩
  | true =>
    rw [ha] at HM HR
    rw [Bool.true_and] at HR
    clear ha
    generalize allB l0_1 = m at HA HR
    obtain ⟨m1, e1⟩ : ∃ x, x = (m && (decide (0 ≤ a0_2) && decide (a0_2 ≤ 262144))) := ⟨_, rfl⟩
    obtain ⟨m2, e2⟩ : ∃ x, x = (m1 && (decide (0 ≤ a0_3) && decide (a0_3 ≤ 64))) := ⟨_, rfl⟩
    obtain ⟨m3, e3⟩ : ∃ x, x = (m2 && (decide (1 ≤ a0_4) && decide (a0_4 ≤ 16))) := ⟨_, rfl⟩
    obtain ⟨m4, e4⟩ : ∃ x, x = (m3 && (decide (1 ≤ a0_5) && decide (a0_5 ≤ 8))) := ⟨_, rfl⟩
    obtain ⟨m5, e5⟩ : ∃ x, x = (m4 && (decide (0 ≤ a0_6) && decide (a0_6 ≤ 16))) := ⟨_, rfl⟩
    obtain ⟨m6, e6⟩ : ∃ x, x = (m5 && (decide (1 ≤ a0_7) && decide (a0_7 ≤ 1000))) := ⟨_, rfl⟩
    obtain ⟨m7, e7⟩ : ∃ x, x = (m6 && (decide (1 ≤ a0_8) && decide (a0_8 ≤ 1000))) := ⟨_, rfl⟩
    have HR2 : Hid (tenantB a0_0 l0_1 a0_2 a0_3 a0_4 a0_5 a0_6 a0_7 a0_8 = m7) := Lib.hid (by rw [HR.out]; unfold rangesB; rw [← e1, ← e2, ← e3, ← e4, ← e5, ← e6, ← e7])
    have H1 := Lib.hid (in_step w w.heap.size (Nat.le_refl _) m m1 a0_2 0 262144 e1 a0_2 a0_3 a0_4 a0_5 a0_6 a0_7 a0_8)
    have H2 := Lib.hid (in_step w w.heap.size (Nat.le_refl _) m1 m2 a0_3 0 64 e2 a0_2 a0_3 a0_4 a0_5 a0_6 a0_7 a0_8)
    have H3 := Lib.hid (in_step w w.heap.size (Nat.le_refl _) m2 m3 a0_4 1 16 e3 a0_2 a0_3 a0_4 a0_5 a0_6 a0_7 a0_8)
    have H4 := Lib.hid (in_step w w.heap.size (Nat.le_refl _) m3 m4 a0_5 1 8 e4 a0_2 a0_3 a0_4 a0_5 a0_6 a0_7 a0_8)
    have H5 := Lib.hid (in_step w w.heap.size (Nat.le_refl _) m4 m5 a0_6 0 16 e5 a0_2 a0_3 a0_4 a0_5 a0_6 a0_7 a0_8)
    have H6 := Lib.hid (in_step w w.heap.size (Nat.le_refl _) m5 m6 a0_7 1 1000 e6 a0_2 a0_3 a0_4 a0_5 a0_6 a0_7 a0_8)
    have H7 := Lib.hid (in_step w w.heap.size (Nat.le_refl _) m6 m7 a0_8 1 1000 e7 a0_2 a0_3 a0_4 a0_5 a0_6 a0_7 a0_8)
    clear e1 e2 e3 e4 e5 e6 e7 HR
    have tk1 : True := trivial
    have tk2 : True := trivial
    have tk3 : True := trivial
    have tk4 : True := trivial
    have tk5 : True := trivial
    have tk6 : True := trivial
    have tk7 : True := trivial
    go_enter Tryz.func11, Tryz.ntmps11
    go_wp2_with (first
      | (go_at_call 13; refine (HM.out _).mono ?_; rintro e w1 ⟨rfl, hb1⟩; have hT1a : w1.cell? ⟨w.heap.size, 1, none⟩ = some (.slice A0_1 len c0_1) := (hb1.cell (p := ⟨w.heap.size, 1, none⟩) (by simp)).trans (by go_simp); have hT2a : w1.cell? ⟨w.heap.size, 2, none⟩ = some (.int .i64 a0_2) := (hb1.cell (p := ⟨w.heap.size, 2, none⟩) (by simp)).trans (by go_simp); have hT3a : w1.cell? ⟨w.heap.size, 3, none⟩ = some (.int .i64 a0_3) := (hb1.cell (p := ⟨w.heap.size, 3, none⟩) (by simp)).trans (by go_simp); have hT4a : w1.cell? ⟨w.heap.size, 4, none⟩ = some (.int .i64 a0_4) := (hb1.cell (p := ⟨w.heap.size, 4, none⟩) (by simp)).trans (by go_simp); have hT5a : w1.cell? ⟨w.heap.size, 5, none⟩ = some (.int .i64 a0_5) := (hb1.cell (p := ⟨w.heap.size, 5, none⟩) (by simp)).trans (by go_simp); have hT6a : w1.cell? ⟨w.heap.size, 6, none⟩ = some (.int .i64 a0_6) := (hb1.cell (p := ⟨w.heap.size, 6, none⟩) (by simp)).trans (by go_simp); have hT7a : w1.cell? ⟨w.heap.size, 7, none⟩ = some (.int .i64 a0_7) := (hb1.cell (p := ⟨w.heap.size, 7, none⟩) (by simp)).trans (by go_simp); have hT8a : w1.cell? ⟨w.heap.size, 8, none⟩ = some (.int .i64 a0_8) := (hb1.cell (p := ⟨w.heap.size, 8, none⟩) (by simp)).trans (by go_simp); have HB1 := Lib.hid (below_next (below_alc (Below.refl _ _) _) hb1); clear hb1)
      | (go_at_call 24; refine (HA.out _ HB1.out).mono ?_; rintro e w2 ⟨rfl, hb2⟩; have hT1b := (hb2.cell (p := ⟨w.heap.size, 1, none⟩) (World.block_lt_of_cell? _ _ hT1a)).trans hT1a; have hT2b := (hb2.cell (p := ⟨w.heap.size, 2, none⟩) (World.block_lt_of_cell? _ _ hT2a)).trans hT2a; have hT3b := (hb2.cell (p := ⟨w.heap.size, 3, none⟩) (World.block_lt_of_cell? _ _ hT3a)).trans hT3a; have hT4b := (hb2.cell (p := ⟨w.heap.size, 4, none⟩) (World.block_lt_of_cell? _ _ hT4a)).trans hT4a; have hT5b := (hb2.cell (p := ⟨w.heap.size, 5, none⟩) (World.block_lt_of_cell? _ _ hT5a)).trans hT5a; have hT6b := (hb2.cell (p := ⟨w.heap.size, 6, none⟩) (World.block_lt_of_cell? _ _ hT6a)).trans hT6a; have hT7b := (hb2.cell (p := ⟨w.heap.size, 7, none⟩) (World.block_lt_of_cell? _ _ hT7a)).trans hT7a; have hT8b := (hb2.cell (p := ⟨w.heap.size, 8, none⟩) (World.block_lt_of_cell? _ _ hT8a)).trans hT8a; have HB2 := Lib.hid (below_next HB1.out hb2); clear hb2; have hTM : w.heap.size < w2.heap.size := World.block_lt_of_cell? _ _ hT2b; have hT2z := alloc_cell (.cells #[.bool m] 4) hT2b; have hT3z := alloc_cell (.cells #[.bool m] 4) hT3b; have hT4z := alloc_cell (.cells #[.bool m] 4) hT4b; have hT5z := alloc_cell (.cells #[.bool m] 4) hT5b; have hT6z := alloc_cell (.cells #[.bool m] 4) hT6b; have hT7z := alloc_cell (.cells #[.bool m] 4) hT7b; have hT8z := alloc_cell (.cells #[.bool m] 4) hT8b; have hMz := cell_box w2 (.bool m) 4; have hFz := alloc_open w2 (.bool m) 4; have HBz := Lib.hid (below_alc HB2.out (.cells #[.bool m] 4)))
      | (go_at_fn 25; have t_ := tk1; clear tk1; clear t_; refine (H1.out _ _ hMz hFz hT2z hT3z hT4z hT5z hT6z hT7z hT8z HBz.out hTM).mono ?_; (try clear hMz hFz hT2z hT3z hT4z hT5z hT6z hT7z hT8z HBz); rintro e wz ⟨rfl, hMz, hFz, hT2z, hT3z, hT4z, hT5z, hT6z, hT7z, hT8z, hbz⟩; have HBz := Lib.hid hbz; clear hbz)
      | (go_at_fn 25; have t_ := tk2; clear tk2; clear t_; refine (H2.out _ _ hMz hFz hT2z hT3z hT4z hT5z hT6z hT7z hT8z HBz.out hTM).mono ?_; (try clear hMz hFz hT2z hT3z hT4z hT5z hT6z hT7z hT8z HBz); rintro e wz ⟨rfl, hMz, hFz, hT2z, hT3z, hT4z, hT5z, hT6z, hT7z, hT8z, hbz⟩; have HBz := Lib.hid hbz; clear hbz)
      | (go_at_fn 25; have t_ := tk3; clear tk3; clear t_; refine (H3.out _ _ hMz hFz hT2z hT3z hT4z hT5z hT6z hT7z hT8z HBz.out hTM).mono ?_; (try clear hMz hFz hT2z hT3z hT4z hT5z hT6z hT7z hT8z HBz); rintro e wz ⟨rfl, hMz, hFz, hT2z, hT3z, hT4z, hT5z, hT6z, hT7z, hT8z, hbz⟩; have HBz := Lib.hid hbz; clear hbz)
      | (go_at_fn 25; have t_ := tk4; clear tk4; clear t_; refine (H4.out _ _ hMz hFz hT2z hT3z hT4z hT5z hT6z hT7z hT8z HBz.out hTM).mono ?_; (try clear hMz hFz hT2z hT3z hT4z hT5z hT6z hT7z hT8z HBz); rintro e wz ⟨rfl, hMz, hFz, hT2z, hT3z, hT4z, hT5z, hT6z, hT7z, hT8z, hbz⟩; have HBz := Lib.hid hbz; clear hbz)
      | (go_at_fn 25; have t_ := tk5; clear tk5; clear t_; refine (H5.out _ _ hMz hFz hT2z hT3z hT4z hT5z hT6z hT7z hT8z HBz.out hTM).mono ?_; (try clear hMz hFz hT2z hT3z hT4z hT5z hT6z hT7z hT8z HBz); rintro e wz ⟨rfl, hMz, hFz, hT2z, hT3z, hT4z, hT5z, hT6z, hT7z, hT8z, hbz⟩; have HBz := Lib.hid hbz; clear hbz)
      | (go_at_fn 25; have t_ := tk6; clear tk6; clear t_; refine (H6.out _ _ hMz hFz hT2z hT3z hT4z hT5z hT6z hT7z hT8z HBz.out hTM).mono ?_; (try clear hMz hFz hT2z hT3z hT4z hT5z hT6z hT7z hT8z HBz); rintro e wz ⟨rfl, hMz, hFz, hT2z, hT3z, hT4z, hT5z, hT6z, hT7z, hT8z, hbz⟩; have HBz := Lib.hid hbz; clear hbz)
      | (go_at_fn 25; have t_ := tk7; clear tk7; clear t_; refine (H7.out _ _ hMz hFz hT2z hT3z hT4z hT5z hT6z hT7z hT8z HBz.out hTM).mono ?_; (try clear hMz hFz hT2z hT3z hT4z hT5z hT6z hT7z hT8z HBz); rintro e wz ⟨rfl, hMz, hFz, hT2z, hT3z, hT4z, hT5z, hT6z, hT7z, hT8z, hbz⟩; have HBz := Lib.hid hbz; clear hbz))
    go_ret
    exact ⟨ret_bool HR2.out.symm, HBz.out⟩
end Go.Proofs.YthmnhbalmglohaaGreatDoor.X

/- auth.Config in the print's form. -/
namespace Go.Proofs.YthmnhbalmglohaaGreatDoor.X
open Go.RowKit Go.Maps Go.Proofs.YthmnhbalmglohaaGreatDoorW.PrintWords Go.Proofs.YthmnhbalmglohaaGreatDoor.T
set_option linter.unusedSimpArgs false
set_option linter.unusedVariables false
def tenantR (x : S27) : Bool := tenantB x.f0 x.f1 x.f2 x.f3 x.f4 x.f5 x.f6 x.f7 x.f8
def fitsT (x : S27) : Bool := decide (x.f0.size ≤ 281474976710656) && (x.f1.all fitsR && decide (x.f1.length ≤ 9223372036854775807))
theorem fitsT_f {x : S27} (h : fitsT x = true) : auth_Tenant.f x.f0 x.f1 x.f2 x.f3 x.f4 x.f5 x.f6 x.f7 x.f8 = some (tenantR x) := by
  unfold fitsT at h
  simp only [Bool.and_eq_true, decide_eq_true_eq] at h
  unfold auth_Tenant.f tenantR
  rw [if_pos ⟨by omega, h.2.1, h.2.2⟩]
/-- the tenant at a place of a slice -/
theorem tenant_at {w : World} {A : Option Addr} {n : Nat} {zs : List S27} (h : Kd.C k27 w A n zs) (hn : 0 < n) : ∃ b off, A = some ⟨b, off, none⟩ ∧ ∀ i, i < n → ∃ A1 c1, (zs.getD i z27).f1.length ≤ c1 ∧ Kd.C k46 w A1 (zs.getD i z27).f1.length (zs.getD i z27).f1 ∧
    w.cell? ⟨b, off + i * 9, none⟩ = some (.string (zs.getD i z27).f0) ∧ w.cell? ⟨b, off + i * 9 + 1, none⟩ = some (.slice A1 (zs.getD i z27).f1.length c1) ∧ w.cell? ⟨b, off + i * 9 + 2, none⟩ = some (.int .i64 (zs.getD i z27).f2) ∧ w.cell? ⟨b, off + i * 9 + 3, none⟩ = some (.int .i64 (zs.getD i z27).f3) ∧ w.cell? ⟨b, off + i * 9 + 4, none⟩ = some (.int .i64 (zs.getD i z27).f4) ∧ w.cell? ⟨b, off + i * 9 + 5, none⟩ = some (.int .i64 (zs.getD i z27).f5) ∧ w.cell? ⟨b, off + i * 9 + 6, none⟩ = some (.int .i64 (zs.getD i z27).f6) ∧ w.cell? ⟨b, off + i * 9 + 7, none⟩ = some (.int .i64 (zs.getD i z27).f7) ∧ w.cell? ⟨b, off + i * 9 + 8, none⟩ = some (.int .i64 (zs.getD i z27).f8) := by
  obtain ⟨b, off, e, hc⟩ := C_cells z27 h hn (by decide)
  refine ⟨b, off, e, fun i hi => ?_⟩
  obtain ⟨c, _, hK, hcc⟩ := hc i hi
  obtain ⟨A1, c1, rfl, hl, hC⟩ := k27_open hK
  have hsz : k27.sz = 9 := rfl
  rw [hsz] at hcc
  exact ⟨A1, c1, hl, hC, by simpa using hcc 0 _ rfl, by simpa [Nat.add_assoc] using hcc 1 _ rfl, by simpa [Nat.add_assoc] using hcc 2 _ rfl, by simpa [Nat.add_assoc] using hcc 3 _ rfl, by simpa [Nat.add_assoc] using hcc 4 _ rfl, by simpa [Nat.add_assoc] using hcc 5 _ rfl, by simpa [Nat.add_assoc] using hcc 6 _ rfl, by simpa [Nat.add_assoc] using hcc 7 _ rfl, by simpa [Nat.add_assoc] using hcc 8 _ rfl⟩
/-! ### the tokens that were met -/
def seenD (H : Type) (l : List ByteArray) : DataW H := l.foldl (fun D s => D.put (.string s.data.toList) (.lit (.int .i64 1))) (.map [])
theorem seenD_snoc (H : Type) (l : List ByteArray) (s : ByteArray) : seenD H (l ++ [s]) = (seenD H l).put (.string s.data.toList) (.lit (.int .i64 1)) := by unfold seenD; rw [List.foldl_append]; rfl
theorem foldl_isMap (H : Type) : ∀ (l : List ByteArray) (D : DataW H), IsMap D → IsMap (l.foldl (fun D s => D.put (.string s.data.toList) (.lit (.int .i64 1))) D)
  | [], D, h => h
  | s :: t, D, h => foldl_isMap H t _ (h.put _ _)
theorem seenD_isMap (H : Type) (l : List ByteArray) : IsMap (seenD H l) := foldl_isMap H l _ isMap_empty
def seenB (seen : List ByteArray) (s : ByteArray) : Bool := seen.any fun y => decide (s.data.toList = y.data.toList)
theorem foldl_at (H : Type) (s : ByteArray) : ∀ (l : List ByteArray) (D : DataW H), IsMap D → (l.foldl (fun D s => D.put (.string s.data.toList) (.lit (.int .i64 1))) D).atKey (.string s.data.toList) (.lit (.int .i64 0)) = if seenB l s = true then .lit (.int .i64 1) else D.atKey (.string s.data.toList) (.lit (.int .i64 0))
  | [], D, _ => rfl
  | x :: t, D, h => by
    rw [List.foldl_cons, foldl_at H s t _ (h.put _ _)]
    have hs : seenB (x :: t) s = (decide (s.data.toList = x.data.toList) || seenB t s) := rfl
    rw [hs]
    by_cases ht : seenB t s = true
    · rw [if_pos ht, ht, Bool.or_true, if_pos rfl]
    · rw [if_neg ht]
      by_cases e : s.data.toList = x.data.toList
      · rw [decide_eq_true e, Bool.true_or, if_pos rfl, e, atKey_put_same h (by simp [WideAt.IsKeyLit])]
      · rw [decide_eq_false e, Bool.false_or, if_neg ht, atKey_put_other (fun q => e (by injection q))]
theorem seenD_at (H : Type) (l : List ByteArray) (s : ByteArray) : (seenD H l).atKey (.string s.data.toList) (.lit (.int .i64 0)) = .lit (.int .i64 (if seenB l s = true then 1 else 0)) := by
  unfold seenD
  rw [foldl_at H s l _ isMap_empty]
  by_cases h : seenB l s = true
  · rw [if_pos h, if_pos h]
  · rw [if_neg h, if_neg h]; rfl
/-- no token twice, and each tenant may be -/
def goodTs (seen : List ByteArray) : List S27 → Bool
  | [] => true
  | t :: r => tenantR t && (!seenB seen t.f0 && goodTs (seen ++ [t.f0]) r)
def restB (n : Nat) (strangers timeout : Int) : Bool := (decide (1 ≤ n) && decide (n ≤ 8)) && (decide (0 ≤ strangers) && (decide (strangers ≤ 16) && (decide (1 ≤ timeout) && decide (timeout ≤ 1099511627776))))
theorem rb_t {n : Nat} {s t : Int} (h1 : (1 : Int) ≤ n) (h2 : (n : Int) ≤ 8) (h3 : 0 ≤ s) (h4 : s ≤ 16) (h5 : 1 ≤ t) : decide (t ≤ 1099511627776) = restB n s t := by
  unfold restB
  rw [decide_eq_true (show 1 ≤ n by omega), decide_eq_true (show n ≤ 8 by omega), decide_eq_true h3, decide_eq_true h4, decide_eq_true h5]
  simp
theorem rb_f {n : Nat} {s t : Int} (h : (1 : Int) ≤ n → (n : Int) ≤ 8 → 0 ≤ s → s ≤ 16 → 1 ≤ t → False) : false = restB n s t := by
  cases hb : restB n s t with
  | false => rfl
  | true =>
    unfold restB at hb
    simp only [Bool.and_eq_true, decide_eq_true_eq] at hb
    exact (h (by omega) (by omega) hb.2.1 hb.2.2.1 hb.2.2.2.1).elim
def configB (ts : List S27) (strangers timeout : Int) : Bool := goodTs [] ts && restB ts.length strangers timeout
def auth_Config.f (l0_0 : List S27) (a0_1 a0_2 : Int) : Option Bool := if l0_0.all fitsT = true ∧ l0_0.length ≤ 4294967296 then some (configB l0_0 a0_1 a0_2) else none
theorem wpList_lookup_own_int_g {H : Type} {P : Program} (w : World) {ops : Array Oper} {rest : List Oper} {o : Oper} {a : Act} {Q : Exit → Act → World → Prop}
    (hg : Region.wanted o (yielded ops a.tmps) = true) (m x : Operand) (t : TypeId) (hop : o.op = Op.lookup t m x false)
    (k e : TypeId) (q : IntKind) (K : Keyed P k) (ht : P.underlying t = some (.map k e)) (he : P.underlying e = some (.int q)) (hz : (zeroValue e).run P w = .ok (.int q 0) w) (b n : Nat) (D : DataW H)
    (hm : a.eval m = .map (some b)) (hown : w.ownsMap P k (plainElem P e) b n D) (key : Value) (kl : Lit) (hx : a.eval x = key) (hkey : keyOf P k key = some kl)
    (hK : ∀ c : Int, D.atKey kl (.lit (.int q 0)) = .lit (.int q c) → (Lit.int q c).wf = true → wpList P ops Q rest (a.put o.dst (.int q c)) w) :
    wpList P ops Q (o :: rest) a w := by
  refine wpList_step fun K' hK' => ?_
  rw [if_pos hg]
  obtain ⟨c, hrun, hat, hwc⟩ := hown.lookup_int K ht he hz hkey
  unfold Oper.wp
  simp [execOp, hop, hm, hx, hrun, Result.andThen]
  exact hK' _ _ (hK c hat hwc)
theorem owns_below {H : Type} {P : Program} {k : TypeId} {R : Value → Option (DataW H × List MemPlace)} {b n : Nat} {D : DataW H} {W W1 : World} (h : W.ownsMap P k R b n D) (hb : Below W.heap.size W W1) : W1.ownsMap P k R b n D := by
  have hlt := h.lt
  obtain ⟨es, clock, h1, F, hs, rfl⟩ := h
  exact ⟨es, clock, (hb.block b hlt).trans h1, F, hs, rfl⟩
theorem keyedS : Keyed Tryz.prog 9 := string_keyed Tryz.underlying9
theorem zeroInt (w : World) : (zeroValue 3).run Tryz.prog w = .ok (.int .i64 0) w := by kernel_rfl
theorem good_drop {seen : List ByteArray} {ts : List S27} {k : Nat} (hk : k < ts.length) : goodTs seen (ts.drop k) = (tenantR (ts.getD k z27) && (!seenB seen (ts.getD k z27).f0 && goodTs (seen ++ [(ts.getD k z27).f0]) (ts.drop (k + 1)))) := by
  rw [List.drop_eq_getElem_cons hk, List.getD_eq_getElem?_getD, List.getElem?_eq_getElem hk]
  rfl
set_option maxRecDepth 100000 in
set_option maxHeartbeats 8000000 in
theorem auth_Config.calls (A0_0 : Option Addr) (c0_0 : Nat) (l0_0 : List S27) (a0_1 : Int) (a0_2 : Int) (r : Bool) (w : World) (hr0_0 : Kd.C k27 w A0_0 l0_0.length l0_0) (hc0_0 : l0_0.length ≤ c0_0) (HGg : Glob w) (h : auth_Config.f l0_0 a0_1 a0_2 = some r) :
    Calls Tryz.prog 9 #[.agg #[.slice A0_0 l0_0.length c0_0, .int .i64 a0_1, .int .i64 a0_2]] w fun e w' => e = .returned (.bool r) ∧ Below w.heap.size w w' := by
  obtain ⟨⟨hfit, hlen⟩, rfl⟩ := of_lim h
  have HC := Lib.hid (fun h0 => tenant_at hr0_0 h0)
  have HF := Lib.hid (fun x (hx : x ∈ l0_0) => List.all_eq_true.1 hfit x hx)
  have HG := Lib.hid HGg
  have HV : Hid (configB l0_0 a0_1 a0_2 = (goodTs [] (l0_0.drop 0) && restB l0_0.length a0_1 a0_2)) := Lib.hid rfl
  clear hr0_0 HGg h hfit
  generalize hn : l0_0.length = n at HC hlen hc0_0 HV
  have HN := Lib.hid hn; clear hn
  have hmm := @run_makeMap Tryz.prog
  generalize hcb : (Obj.cells #[.slice A0_0 n c0_0, .int .i64 a0_1, .int .i64 a0_2] 24) = cbox
  have HO0 := Lib.hid (World.ownsMap_made (H := Unit) (w.alloc cbox) Tryz.prog 9 (plainElem Tryz.prog 3))
  have HB1 : Hid (Below w.heap.size w (w.alloc cbox)) := Lib.hid (below_alc (Below.refl _ _) _)
  have hwc : (w.alloc cbox).heap.size = w.heap.size + 1 := by simp
  subst hcb
  go_enter Tryz.func9, Tryz.ntmps9
  go_wp2
  go_loopg [5, 11] n (fun gg _ s11 wr => ∃ kk : Nat, kk ≤ n ∧ n - kk ≤ gg ∧ s11 = .int .i64 kk ∧ Aside (Below (w.heap.size + 1) (w.alloc (.cells #[.slice A0_0 n c0_0, .int .i64 a0_1, .int .i64 a0_2] 24)) wr) ∧ Aside (∃ seen, wr.ownsMap Tryz.prog 9 (plainElem Tryz.prog 3) (w.heap.size + 1) kk (seenD Unit seen) ∧ goodTs [] (l0_0.drop 0) = goodTs seen (l0_0.drop kk)))
  case atStart => exact ⟨0, Nat.zero_le _, by omega, rfl, (Below.refl _ _).alloc (by rw [hwc]; exact Nat.le_refl _) _, [], (by have q := HO0.out; rw [hwc] at q; exact q), rfl⟩
  case round =>
    obtain ⟨kk, hkk, hg, rfl, HB0, HS0⟩ := hrel
    have HB : Hid (Below (w.heap.size + 1) (w.alloc (.cells #[.slice A0_0 n c0_0, .int .i64 a0_1, .int .i64 a0_2] 24)) wr) := Lib.hid HB0.out
    obtain ⟨seen, hown, hgood⟩ := HS0.out
    clear HB0 HS0 HO0
    have hwsz : w.heap.size + 2 ≤ wr.heap.size := by
      obtain ⟨es, clock, hb, _⟩ := hown
      exact (Array.getElem?_eq_some_iff.1 hb).1
    have HBw := Lib.hid (below_next HB1.out (HB.out.mono (by omega)))
    by_cases hlt : kk < n
    · have hltz : (kk : Int) < (n : Int) := by omega
      obtain ⟨b, off, rfl, hcell⟩ := HC.out (by omega)
      obtain ⟨A1, c1, hl1, hC1, e0, e1, e2, e3, e4, e5, e6, e7, e8⟩ := hcell kk hlt
      clear hcell
      have hfy := HF.out (l0_0.getD kk z27) (by
        rw [List.getD_eq_getElem?_getD, List.getElem?_eq_getElem (by rw [HN.out]; exact hlt)]
        exact List.getElem_mem _)
      rw [good_drop (seen := seen) (k := kk) (by rw [HN.out]; exact hlt)] at hgood
      generalize hy : l0_0.getD kk z27 = y at e0 e1 e2 e3 e4 e5 e6 e7 e8 hl1 hC1 hfy hgood
      clear hy
      replace e0 := (HBw.out.cell (World.block_lt_of_cell? w _ e0)).trans e0
      replace e1 := (HBw.out.cell (World.block_lt_of_cell? w _ e1)).trans e1
      replace e2 := (HBw.out.cell (World.block_lt_of_cell? w _ e2)).trans e2
      replace e3 := (HBw.out.cell (World.block_lt_of_cell? w _ e3)).trans e3
      replace e4 := (HBw.out.cell (World.block_lt_of_cell? w _ e4)).trans e4
      replace e5 := (HBw.out.cell (World.block_lt_of_cell? w _ e5)).trans e5
      replace e6 := (HBw.out.cell (World.block_lt_of_cell? w _ e6)).trans e6
      replace e7 := (HBw.out.cell (World.block_lt_of_cell? w _ e7)).trans e7
      replace e8 := (HBw.out.cell (World.block_lt_of_cell? w _ e8)).trans e8
      have hkl : y.f0.size ≤ maxLen := by
        unfold fitsT at hfy
        simp only [Bool.and_eq_true, decide_eq_true_eq] at hfy
        unfold maxLen; omega
      have HK := Lib.hid (WideMaps.keyOf_string_mk (P := Tryz.prog) (k := 9) Tryz.underlying9 hkl)
      have HM := Lib.hid (fun (W : World) (h1 : Below wr.heap.size wr W) => auth_Tenant.calls y.f0 A1 c1 y.f1 y.f2 y.f3 y.f4 y.f5 y.f6 y.f7 y.f8 (tenantR y) W (Kd.C_below (Kd.C_below hC1 HBw.out) h1) hl1 ((HG.out.below HBw.out).below h1) (fitsT_f hfy))
      have HO := Lib.hid hown
      have HD := Lib.hid hgood
      have HAT := Lib.hid (seenD_at Unit seen y.f0)
      clear hC1 hl1 hfy hgood hown hkl
      cases htr : tenantR y with
      | false =>
        rw [htr, Bool.false_and] at HD
        rw [htr] at HM
        clear htr
        go_wp2_with (go_at_call 11; refine (HM.out _ (by first | exact below_alc (Below.refl _ _) _ | exact Below.refl _ _)).mono ?_; rintro e w1 ⟨rfl, hb1⟩)
        (try rw [Exit.noGoto_ret])
        go_ret
        exact ⟨ret_bool (by rw [HV.out, HD.out]; rfl), below_next HBw.out (below_next (by first | exact below_alc (Below.refl _ _) _ | exact Below.refl _ _) hb1)⟩
      | true =>
        rw [htr, Bool.true_and] at HD
        rw [htr] at HM
        clear htr
        cases hse : seenB seen y.f0 with
        | true =>
          rw [hse] at HD HAT
          clear hse
          go_wp2_with (first
            | (go_at_call 11; refine (HM.out _ (by first | exact below_alc (Below.refl _ _) _ | exact Below.refl _ _)).mono ?_; rintro e w1 ⟨rfl, hb1⟩; have hb10 : w1.cell? ⟨wr.heap.size, 0, none⟩ = some (.string y.f0) := (hb1.cell (p := ⟨wr.heap.size, 0, none⟩) (by simp)).trans (by go_simp); have HO1 := Lib.hid (owns_below (owns_below HO.out (below_alc (Below.refl _ _) _)) hb1))
            | (at_lookup; refine wpList_lookup_own_int_g _ (by rfl) _ _ 52 rfl 9 3 .i64 keyedS Tryz.underlying52 Tryz.underlying3 (zeroInt _) (w.heap.size + 1) _ _ rfl HO1.out _ _ rfl HK.out ?_; intro c hat hwf_; clear hwf_; obtain rfl : c = 1 := (by have q := hat.symm.trans HAT.out; injection q with q; injection q)))
          (try rw [Exit.noGoto_ret])
          go_ret
          exact ⟨ret_bool (by rw [HV.out, HD.out]; rfl), below_next HBw.out (below_next (by first | exact below_alc (Below.refl _ _) _ | exact Below.refl _ _) hb1)⟩
        | false =>
          rw [hse, Bool.not_false, Bool.true_and] at HD
          rw [hse] at HAT
          clear hse
          go_wp2_with (first
            | (go_at_call 11; refine (HM.out _ (by first | exact below_alc (Below.refl _ _) _ | exact Below.refl _ _)).mono ?_; rintro e w1 ⟨rfl, hb1⟩; have hb10 : w1.cell? ⟨wr.heap.size, 0, none⟩ = some (.string y.f0) := (hb1.cell (p := ⟨wr.heap.size, 0, none⟩) (by simp)).trans (by go_simp); have HO1 := Lib.hid (owns_below (owns_below HO.out (below_alc (Below.refl _ _) _)) hb1); have HBz := Lib.hid (below_next (below_alc (Below.refl _ _) _) hb1); clear hb1)
            | (at_lookup; refine wpList_lookup_own_int_g _ (by rfl) _ _ 52 rfl 9 3 .i64 keyedS Tryz.underlying52 Tryz.underlying3 (zeroInt _) (w.heap.size + 1) _ _ rfl HO1.out _ _ rfl HK.out ?_; intro c hat hwf_; clear hwf_; obtain rfl : c = 0 := (by have q := hat.symm.trans HAT.out; injection q with q; injection q))
            | (at_mapUpdate; refine wpList_mapUpdate_own _ rfl _ _ _ 52 rfl 9 3 keyedS Tryz.underlying52 _ (w.heap.size + 1) _ _ rfl HO1.out (by unfold maxLen; omega) _ _ _ rfl rfl HK.out _ [] (plainElem_int Tryz.underlying3 (by decide)) ?_; intro w2 hown2 hg2; have HO2 := Lib.hid hown2; have HB2 := Lib.hid (Below.grown (HB.out.trans (HBz.out.mono (by omega))) hg2 (by have q := HBz.out.size; omega) (fun j hj => by cases hj; exact Nat.le_refl _)); clear hown2 hg2 HO1 HO))
          go_roundg (n - (kk + 1))
          case measure => omega
          case rel => exact ⟨kk + 1, by omega, by omega, by go_num, HB2.out, seen ++ [y.f0], by rw [seenD_snoc]; exact HO2.out, HD.out⟩
    · have hltz : ¬ (kk : Int) < (n : Int) := by omega
      obtain rfl : kk = n := by omega
      have HV2 : Hid (configB l0_0 a0_1 a0_2 = restB kk a0_1 a0_2) := Lib.hid (by
        rw [HV.out, hgood, List.drop_of_length_le (by rw [HN.out]; exact Nat.le_refl _)]
        rfl)
      clear hgood hown HV
      have hcb : ∀ j, wr.cell? ⟨w.heap.size, j, none⟩ = (w.alloc (.cells #[.slice A0_0 kk c0_0, .int .i64 a0_1, .int .i64 a0_2] 24)).cell? ⟨w.heap.size, j, none⟩ := fun j => HB.out.cell (p := ⟨w.heap.size, j, none⟩) (by simp)
      have hc0 : wr.cell? ⟨w.heap.size, 0, none⟩ = some (.slice A0_0 kk c0_0) := (hcb 0).trans (by go_simp)
      have hc1 : wr.cell? ⟨w.heap.size, 1, none⟩ = some (.int .i64 a0_1) := (hcb 1).trans (by go_simp)
      have hc2 : wr.cell? ⟨w.heap.size, 2, none⟩ = some (.int .i64 a0_2) := (hcb 2).trans (by go_simp)
      clear hcb
      have HE := Lib.hid (rfl : restB kk a0_1 a0_2 = restB kk a0_1 a0_2)
      go_wp2
      all_goals ((try rw [Exit.noGoto_ret]); go_ret; refine ⟨ret_bool ?_, HBw.out⟩; rw [HV2.out])
      all_goals first | exact rb_t (by assumption) (by assumption) (by assumption) (by assumption) (by assumption) | exact rb_f (fun q1 q2 q3 q4 q5 => by omega)
end Go.Proofs.YthmnhbalmglohaaGreatDoor.X
