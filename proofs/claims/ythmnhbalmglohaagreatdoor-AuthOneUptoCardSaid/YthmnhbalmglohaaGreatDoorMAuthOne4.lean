/- A part of the proof of the law AuthOne: contracts of functions that it reaches, and plain lemmas. -/
import Derived.Test.YthmnhbalmglohaaGreatDoorMAuthOne1
import Derived.Lib.SliceRun
/- slices.IndexFunc, ContainsFunc, DeleteFunc, Clone on fields: contracts by hand. -/
namespace Go.Proofs.YthmnhbalmglohaaGreatDoor.X
open Go.RowKit Go.Proofs.YthmnhbalmglohaaGreatDoorW.PrintWords Go.Proofs.YthmnhbalmglohaaGreatDoor.T
set_option linter.unusedSimpArgs false
set_option linter.unusedVariables false
/-- a field as it is handed over -/
def fieldV (x : S48) : Value := .agg #[.string x.f0, .string x.f1]
/-- a function value that tells whether p holds of a field -/
def PredF (g : Nat) (lb : Array Value) (p : S48 → Bool) (D : S48 → Prop) (w : World) : Prop :=
  ∀ (W : World) (x : S48), Below w.heap.size w W → D x → Calls Tryz.prog g (#[fieldV x] ++ lb) W fun e w' => e = .returned (.bool (p x)) ∧ Below W.heap.size W w'
theorem PredF.later {g : Nat} {lb : Array Value} {p : S48 → Bool} {D : S48 → Prop} {w W : World} (h : PredF g lb p D w) (hb : Below w.heap.size w W) : PredF g lb p D W := fun W1 c h1 hd => h W1 c (below_next hb h1) hd
theorem fidx_cases {α : Type} (p : α → Bool) (z : α) (l : List α) : (fidx p l = -1 ∧ ∀ j, j < l.length → p (l.getD j z) = false) ∨ ∃ k, k < l.length ∧ fidx p l = (k : Int) ∧ p (l.getD k z) = true ∧ ∀ j, j < k → p (l.getD j z) = false := by
  unfold fidx
  cases h : l.findIdx? p with
  | none =>
    refine .inl ⟨rfl, fun j hj => ?_⟩
    rw [List.findIdx?_eq_none_iff] at h
    rw [List.getD_eq_getElem?_getD, List.getElem?_eq_getElem hj]
    exact h _ (List.getElem_mem hj)
  | some k =>
    rw [List.findIdx?_eq_some_iff_getElem] at h
    obtain ⟨hk, h1, h2⟩ := h
    refine .inr ⟨k, hk, rfl, by rw [List.getD_eq_getElem?_getD, List.getElem?_eq_getElem hk]; exact h1, fun j hj => ?_⟩
    rw [List.getD_eq_getElem?_getD, List.getElem?_eq_getElem (by omega)]
    exact Bool.eq_false_iff.2 (h2 j hj)
/-! ### slices.IndexFunc -/
/-- the field at a place of a slice -/
theorem field_at {w : World} {A : Option Addr} {n : Nat} {zs : List S48} (h : Kd.C k48 w A n zs) (hn : 0 < n) : ∃ b off, A = some ⟨b, off, none⟩ ∧ ∀ i, i < n → 
    w.cell? ⟨b, off + i * 2, none⟩ = some (.string (zs.getD i z48).f0) ∧ w.cell? ⟨b, off + i * 2 + 1, none⟩ = some (.string (zs.getD i z48).f1) := by
  obtain ⟨b, off, e, hc⟩ := C_cells z48 h hn (by decide)
  refine ⟨b, off, e, fun i hi => ?_⟩
  obtain ⟨c, _, hK, hcc⟩ := hc i hi
  obtain rfl := k48_open hK
  have hsz : k48.sz = 2 := rfl
  rw [hsz] at hcc
  exact ⟨by simpa using hcc 0 _ rfl, by simpa [Nat.add_assoc] using hcc 1 _ rfl⟩
theorem index_field_none (A : Option Addr) (c : Nat) (fv : Value) (w : World) :
    Calls Tryz.prog 57 #[.slice A 0 c, fv] w fun e w' => e = .returned (.int .i64 (-1)) ∧ w' = w := by
  go_enter Tryz.func57, Tryz.ntmps57
  go_wp2
  go_loopg [5, 8] 0 (fun _ _ s8 wr => s8 = .int .i64 0 ∧ wr = w)
  case atStart => exact ⟨rfl, rfl⟩
  case round =>
    obtain ⟨rfl, rfl⟩ := hrel
    go_wp2
    go_ret
    exact ⟨rfl, rfl⟩
set_option maxHeartbeats 2000000 in
theorem index_field (g : Nat) (lb : Array Value) (p : S48 → Bool) (D : S48 → Prop) (eg : ∀ args w, (callFunc g args).run Tryz.prog w = .ok (.enter g args) w) (A : Option Addr) (c : Nat) (zs : List S48) (w : World)
    (hp : PredF g lb p D w) (hD : ∀ x ∈ zs, D x) (hbig : zs.length ≤ 9223372036854775807) (hc : Kd.C k48 w A zs.length zs) :
    Calls Tryz.prog 57 #[.slice A zs.length c, .func (.func g) #[] lb] w fun e w' => e = .returned (.int .i64 (fidx p zs)) ∧ Below w.heap.size w w' := by
  rcases Nat.eq_zero_or_pos zs.length with h0 | h0
  · obtain rfl := List.eq_nil_of_length_eq_zero h0
    exact (index_field_none A c _ w).mono fun e w' ⟨he, hw⟩ => ⟨he, below_same hw⟩
  obtain ⟨b, off, rfl, hcell⟩ := field_at hc h0
  have HP := Lib.hid hp; clear hp
  have HD := Lib.hid hD; clear hD
  have HC := Lib.hid hcell; clear hcell hc
  generalize hn : zs.length = n at HC hbig h0
  have HN := Lib.hid hn; clear hn
  go_enter Tryz.func57, Tryz.ntmps57
  go_wp2
  go_loopg [5, 8] n (fun gg _ s8 wr => ∃ kk : Nat, kk ≤ n ∧ n - kk ≤ gg ∧ s8 = .int .i64 kk ∧ Aside (Below w.heap.size w wr) ∧ Aside (∀ j, j < kk → p (zs.getD j z48) = false))
  case atStart => exact ⟨0, Nat.zero_le _, by omega, rfl, Below.refl _ _, fun j hj => absurd hj (Nat.not_lt_zero _)⟩
  case round =>
    obtain ⟨kk, hkk, hg, rfl, HB0, AA⟩ := hrel
    have HB : Hid (Below w.heap.size w wr) := Lib.hid HB0.out
    clear HB0
    by_cases hlt : kk < n
    · have hltz : (kk : Int) < (n : Int) := by omega
      have hmem : zs.getD kk z48 ∈ zs := by
        have := HN.out
        rw [List.getD_eq_getElem?_getD, List.getElem?_eq_getElem (by omega)]
        exact List.getElem_mem _
      obtain ⟨e0, e1⟩ := HC.out kk hlt
      have hdy := HD.out _ hmem
      clear hmem
      generalize hy : zs.getD kk z48 = y at e0 e1 hdy
      have B : Hid (zs.getD kk z48 = y) := Lib.hid hy
      clear hy
      replace e0 := (HB.out.cell (World.block_lt_of_cell? w _ e0)).trans e0
      replace e1 := (HB.out.cell (World.block_lt_of_cell? w _ e1)).trans e1
      have hcall := HP.out wr y HB.out hdy
      clear hdy
      unfold fieldV at hcall
      cases hq : p y with
      | true =>
        rw [hq] at hcall
        have HCALL := Lib.hid hcall; clear hcall
        have HQ := Lib.hid hq; clear hq
        go_wp2_with (go_at_fn g; refine (HCALL.out).mono ?_; rintro e w' ⟨rfl, hb⟩)
        go_ret
        exact ⟨ret_i64 (fidx_hit p z48 zs kk (by have := HN.out; omega) (by rw [B.out]; exact HQ.out) AA.out).symm, below_next HB.out hb⟩
      | false =>
        rw [hq] at hcall
        have HCALL := Lib.hid hcall; clear hcall
        have HQ := Lib.hid hq; clear hq
        go_wp2_with (go_at_fn g; refine (HCALL.out).mono ?_; rintro e w' ⟨rfl, hb⟩)
        go_roundg (n - (kk + 1))
        case measure => omega
        case rel =>
          refine ⟨kk + 1, by omega, by omega, by go_num, below_next HB.out hb, fun j hj => ?_⟩
          by_cases e : j = kk
          · subst e
            rw [B.out]; exact HQ.out
          · exact AA.out j (by omega)
    · have hltz : ¬ (kk : Int) < (n : Int) := by omega
      obtain rfl : kk = n := by omega
      go_wp2
      go_ret
      exact ⟨ret_i64 (fidx_miss p z48 zs (by have := HN.out; intro j hj; exact AA.out j (by omega))).symm, HB.out⟩
/-! ### what stays of a list, place by place -/
structure DInv {α : Type} (p : α → Bool) (zs : List α) (j i : Nat) (dk : List α) : Prop where
  len : dk.length = zs.length
  lt : i < j
  le : j ≤ zs.length
  low : dk.take i = (zs.take j).filter fun x => !p x
  high : ∀ q, j ≤ q → dk[q]? = zs[q]?
section
variable {α : Type} {p : α → Bool} {zs : List α} {j i : Nat} {dk : List α}
theorem DInv.start {k : Nat} (z : α) (hk : k < zs.length) (hh : p (zs.getD k z) = true) (hn : ∀ j, j < k → p (zs.getD j z) = false) : DInv p zs (k + 1) k zs := by
  refine ⟨rfl, Nat.lt_succ_self _, hk, ?_, fun _ _ => rfl⟩
  have hk2 : zs.getD k z = zs[k] := by rw [List.getD_eq_getElem?_getD, List.getElem?_eq_getElem hk]; rfl
  rw [hk2] at hh
  rw [List.take_add_one, List.getElem?_eq_getElem hk, List.filter_append]
  have e : (List.filter (fun x => !p x) (some zs[k]).toList) = [] := by simp [hh]
  rw [e, List.append_nil]
  symm
  refine List.filter_eq_self.2 fun x hx => ?_
  obtain ⟨q, hq, rfl⟩ := List.mem_iff_getElem.1 hx
  rw [List.length_take] at hq
  have := hn q (by omega)
  rw [List.getD_eq_getElem?_getD, List.getElem?_eq_getElem (by omega)] at this
  rw [List.getElem_take]
  simpa using this
theorem DInv.skip (I : DInv p zs j i dk) {y : α} (hy : zs[j]? = some y) (hp : p y = true) : DInv p zs (j + 1) i dk := by
  have hj := (List.getElem?_eq_some_iff.1 hy).1
  refine ⟨I.len, by have := I.lt; omega, hj, ?_, fun q hq => I.high q (by omega)⟩
  rw [List.take_add_one, hy, List.filter_append, I.low]
  simp [hp]
theorem DInv.keep (I : DInv p zs j i dk) {y : α} (hy : zs[j]? = some y) (hp : p y = false) : DInv p zs (j + 1) (i + 1) (dk.set i y) := by
  have hj := (List.getElem?_eq_some_iff.1 hy).1
  have hi : i < dk.length := by have := I.len; have := I.lt; omega
  refine ⟨by rw [List.length_set]; exact I.len, by have := I.lt; omega, hj, ?_, fun q hq => ?_⟩
  · rw [List.take_add_one, List.take_add_one, hy, List.filter_append, ← I.low, List.take_set_of_le (Nat.le_refl _), List.getElem?_set_self hi]
    simp [hp]
  · rw [List.getElem?_set_ne (by have := I.lt; omega)]
    exact I.high q (by omega)
theorem DInv.done (I : DInv p zs zs.length i dk) : dk.take i = zs.filter fun x => !p x := by rw [I.low, List.take_length]
end
/-! ### a row of fields of the call's own, place by place -/
theorem R_elem2 {W : World} {base g n cap : Nat} {zs : List S48} (h : Kd.R k48 48 W base (fun _ => True) (.slice (some ⟨g, 0, none⟩) n cap) zs) (j : Nat) (hj : j < n) :
    (W.cell? ⟨g, j * 2, none⟩ = some (.string (zs.getD j z48).f0) ∧ W.cell? ⟨g, j * 2 + 1, none⟩ = some (.string (zs.getD j z48).f1)) ∧ W.frozen? ⟨g, j * 2, none⟩ = false ∧ W.frozen? ⟨g, j * 2 + 1, none⟩ = false := by
  obtain ⟨c, hcl, hM, hcc, hfr⟩ := Kd.R_elem h z48 (j : Int) (by omega) (by omega)
  rw [Int.toNat_natCast] at hM hcc hfr
  obtain rfl := k48_openM hM
  have hsz : k48.sz = 2 := rfl
  rw [hsz] at hcc hfr
  exact ⟨⟨by simpa using hcc 0 _ rfl, by simpa using hcc 1 _ rfl⟩, by have h_ := hfr 0; rw [Nat.add_zero] at h_; exact h_, hfr 1⟩
theorem R_put2 {W : World} {base g n cap : Nat} {zs : List S48} (h : Kd.R k48 48 W base (fun _ => True) (.slice (some ⟨g, 0, none⟩) n cap) zs) (j : Nat) (hj : j < n) (y : S48) :
    Kd.R k48 48 ((W.setCell ⟨g, j * 2, none⟩ (.string y.f0)).setCell ⟨g, j * 2 + 1, none⟩ (.string y.f1)) base (fun _ => True) (.slice (some ⟨g, 0, none⟩) n cap) (zs.set j y) := by
  obtain ⟨c, hcl, hM, hcc, hfr⟩ := Kd.R_elem h z48 (j : Int) (by omega) (by omega)
  have hsz : k48.sz = 2 := rfl
  have h2 : c.length = 2 := hcl
  have := (Kd.R_seg h (j : Int) (by omega) (by omega) hcl hcc (seg := [.string y.f0, .string y.f1]) (j := 0) (x' := y) (by rw [hsz]; simp) (okp := fun _ => False) (by
    have e : c.take 0 ++ [Value.string y.f0, .string y.f1] ++ c.drop (0 + [Value.string y.f0, .string y.f1].length) = [.string y.f0, .string y.f1] := by
      simp [h2]
    rw [e]
    exact k48_mkM _ _ _ y) (fun _ hk => hk.elim)).1
  rw [Int.toNat_natCast, hsz] at this
  exact this
theorem R_cleared {W : World} {base g n cap i : Nat} {zs : List S48} (h : Kd.R k48 48 W base (fun _ => True) (.slice (some ⟨g, 0, none⟩) n cap) zs) (hi : i ≤ zs.length) (vs : List Value) (hv : i * 2 + vs.length ≤ cap * 2) :
    Kd.R k48 48 (W.setCells g (i * 2) vs) base (fun _ => True) (.slice (some ⟨g, 0, none⟩) i cap) (zs.take i) := by
  obtain ⟨h0, inner, ho, hr⟩ := Kd.R_take h hi
  refine ⟨fun _ _ => trivial, inner, ⟨ho.1, ?_⟩, hr.imp_ (fun x cs hM => by obtain rfl := k48_openM hM; exact k48_mkM _ _ _ x)⟩
  have hl : (zs.take i).length = i := by rw [List.length_take]; omega
  rcases ho.2 with ⟨h1, _⟩ | ⟨g', cap', cur, h1, hb, hh, hnc, hcm, hcs, ht⟩
  · cases h1
  · rw [hl] at h1
    injection h1 with ha _ hc
    injection ha with ha
    injection ha with ha
    subst ha hc
    have hsz : k48.sz = 2 := rfl
    rw [hsz] at hcs ht
    obtain ⟨cur', h3, h4, h5⟩ := setCells_row vs (i * 2) W cur hh (by omega)
    refine .inr ⟨g, cap, cur', by rw [hl], hb, h3, hnc, hcm, by rw [h4, hsz]; exact hcs, ?_⟩
    rw [hsz, h5, ← ht, hl, List.append_assoc, List.take_append_of_le_length (by rw [List.length_take, Array.length_toList]; omega), List.take_take, Nat.min_self]
theorem below_setCells {w W : World} {g : Nat} (h : Below w.heap.size w W) (hg : w.heap.size ≤ g) : ∀ (vs : List Value) (o : Nat), Below w.heap.size w (W.setCells g o vs)
  | [], _ => h
  | v :: r, o => below_setCells (h.setCell (p := ⟨g, o, none⟩) hg v) hg r (o + 1)
theorem zero_field (w : World) : (zeroValue 48).run Tryz.prog w = .ok (.agg #[.string ⟨#[]⟩, .string ⟨#[]⟩]) w := by kernel_rfl
theorem zc_size (n : Nat) : (Builtin.zeroCells #[Value.string ⟨#[]⟩, .string ⟨#[]⟩] n).toList.length = n * 2 := by simp [Builtin.zeroCells]
theorem zc_one (n : Nat) : ∀ v ∈ (Builtin.zeroCells #[Value.string ⟨#[]⟩, .string ⟨#[]⟩] n).toList, v.oneCell' = true := by
  intro v hv
  simp only [Builtin.zeroCells, Array.toList_map, List.mem_map] at hv
  obtain ⟨i, _, rfl⟩ := hv
  have : i % 2 = 0 ∨ i % 2 = 1 := by omega
  rcases this with h | h <;> simp [h] <;> rfl
theorem run_clear_fields (w : World) (b o n c : Nat) (hn : 0 < n) (hc : ∀ j, j < n * 2 → (w.cell? ⟨b, o + j, none⟩).isSome = true) (hf : ∀ j, j < n * 2 → w.frozen? ⟨b, o + j, none⟩ = false) (ty : TypeId) :
    (Builtin.clear_ #[33] ty #[.slice (some ⟨b, o, none⟩) n c]).run Tryz.prog w = .ok (.tuple #[]) (w.setCells b o (Builtin.zeroCells #[Value.string ⟨#[]⟩, .string ⟨#[]⟩] n).toList) := by
  have hst := run_storeCells_cells (P := Tryz.prog) b o (Builtin.zeroCells #[Value.string ⟨#[]⟩, .string ⟨#[]⟩] n).toList 0 w (by rw [zc_size]; simpa using hc) (by rw [zc_size]; simpa using hf) (zc_one n)
  simp only [Nat.add_zero] at hst
  obtain ⟨m, rfl⟩ : ∃ m, n = m + 1 := ⟨n - 1, by omega⟩
  have hz : (Value.agg #[Value.string ⟨#[]⟩, .string ⟨#[]⟩]).cells = #[Value.string ⟨#[]⟩, .string ⟨#[]⟩] := rfl
  simp [Builtin.clear_, run_underlying Tryz.underlying33, zero_field, hz, hst]
set_option maxHeartbeats 4000000 in
theorem delete_field (g : Nat) (lb : Array Value) (p : S48 → Bool) (D : S48 → Prop) (eg : ∀ args w, (callFunc g args).run Tryz.prog w = .ok (.enter g args) w) (w0 : World) (hp : PredF g lb p D w0) (zs : List S48) (hD : ∀ x ∈ zs, D x) (hbig : zs.length ≤ 9223372036854775807)
    (w : World) (hB : Below w0.heap.size w0 w) (v : Value) (hR : Kd.R k48 48 w w0.heap.size (fun _ => True) v zs) :
    Calls Tryz.prog 36 #[v, .func (.func g) #[] lb] w fun e w' => ∃ v', e = .returned v' ∧ Kd.R k48 48 w' w0.heap.size (fun _ => True) v' (zs.filter fun x => !p x) ∧ Below w0.heap.size w0 w' := by
  obtain ⟨A, c, rfl, hlc, hC⟩ := Kd.R_reads hR
  have hIF := index_field g lb p D eg A c zs w (hp.later hB) hD hbig hC
  rcases fidx_cases p z48 zs with ⟨e1, hall⟩ | ⟨k0, hk0, e1, hh, hn⟩
  · have e3 : (zs.filter fun x => !p x) = zs := List.filter_eq_self.2 fun x hx => by
      obtain ⟨q, hq, rfl⟩ := List.mem_iff_getElem.1 hx
      have := hall q hq
      rw [List.getD_eq_getElem?_getD, List.getElem?_eq_getElem hq] at this
      simpa using this
    rw [e3]
    rw [e1] at hIF
    have HI := Lib.hid hIF; clear hIF
    have HR := Lib.hid hR; clear hR
    have HB := Lib.hid hB; clear hB
    clear hp hD hC hall e1 e3
    go_enter Tryz.func36, Tryz.ntmps36
    go_wp2_with (go_at_call 57; refine HI.out.mono ?_; rintro e w1 ⟨rfl, hb1⟩)
    go_ret
    exact ⟨_, rfl, Kd.R_below HR.out hb1, below_next HB.out hb1⟩
  · rw [e1] at hIF
    obtain ⟨g0, cap, ev, hg0, hg1, _⟩ := Kd.R_form hR (by omega)
    injection ev with ea _ ec
    subst ea ec
    have HI := Lib.hid hIF; clear hIF
    have HR := Lib.hid hR; clear hR
    have HB := Lib.hid hB; clear hB
    have HP := Lib.hid hp; clear hp
    have HD := Lib.hid hD; clear hD
    have HS := Lib.hid (DInv.start z48 hk0 hh hn)
    clear hC hh hn e1
    generalize hn : zs.length = n at HI HR hbig hlc hk0
    have HN := Lib.hid hn; clear hn
    have hne1 : ((k0 : Int) == -1) = false := beq_eq_false_iff_ne.2 (by omega)
    go_enter Tryz.func36, Tryz.ntmps36
    go_wp2_with (go_at_call 57; refine HI.out.mono ?_; rintro e w1 ⟨rfl, hb1⟩)
    go_loopg [5, 6, 7] n (fun gg s5 s6 s7 wr => ∃ (i j : Nat) (dk : List S48), s5 = .int .i64 i ∧ s6 = .int .i64 j ∧ j ≤ n ∧ n - j ≤ gg ∧ Aside (DInv p zs j i dk) ∧ Aside (Kd.R k48 48 wr w0.heap.size (fun _ => True) (.slice (some ⟨g0, 0, none⟩) n c) dk) ∧ Aside (Below w0.heap.size w0 wr))
    case atStart => exact ⟨k0, k0 + 1, zs, rfl, by go_num, by omega, by omega, HS.out, Kd.R_below HR.out hb1, below_next HB.out hb1⟩
    case round =>
      obtain ⟨i, j, dk, rfl, rfl, hjn, hgg, HI1, HR1, HB1⟩ := hrel
      clear HR HB HS HI hb1
      by_cases hlt : j < n
      · have hltz : (j : Int) < (n : Int) := by omega
        obtain ⟨⟨e0, e1⟩, -⟩ := R_elem2 HR1.out j hlt
        have hjz : dk.getD j z48 = zs.getD j z48 := by rw [List.getD_eq_getElem?_getD, List.getD_eq_getElem?_getD, HI1.out.high j (Nat.le_refl _)]
        have hyz : zs[j]? = some (zs.getD j z48) := by
          have := HN.out
          rw [List.getD_eq_getElem?_getD, List.getElem?_eq_getElem (by omega)]; rfl
        rw [hjz] at e0 e1
        have hdy := HD.out _ (List.mem_of_getElem? hyz)
        have HJ := Lib.hid hyz
        clear hjz hyz
        generalize zs.getD j z48 = y at e0 e1 hdy HJ
        have HCALL := Lib.hid (fun W hb => HP.out W y hb hdy)
        clear hdy
        have hbz := below_alc HB1.out (.cells #[.string y.f0, .string y.f1] 48)
        have HBz := Lib.hid hbz
        have HR2 := Lib.hid (Kd.R_below HR1.out (below_alc (Below.refl wr.heap.size wr) (.cells #[.string y.f0, .string y.f1] 48)))
        have hca : (wr.alloc (.cells #[.string y.f0, .string y.f1] 48)).cell? ⟨wr.heap.size, 0, none⟩ = some (.string y.f0) := by go_simp
        have hcb : (wr.alloc (.cells #[.string y.f0, .string y.f1] 48)).cell? ⟨wr.heap.size, 1, none⟩ = some (.string y.f1) := by go_simp
        have HCA := Lib.hid hca
        have HCB := Lib.hid hcb
        clear hbz hca hcb
        have hcall := HCALL.out _ HBz.out
        clear HCALL HP HD
        cases hq : p y with
        | true =>
          rw [hq] at hcall
          have HC := Lib.hid hcall; clear hcall
          have HQ := Lib.hid hq; clear hq
          go_wp2_with (go_at_fn g; refine HC.out.mono ?_; rintro e w2 ⟨rfl, hb2⟩)
          go_roundg (n - (j + 1))
          case measure => omega
          case rel => exact ⟨i, j + 1, dk, rfl, by go_num, by omega, by omega, HI1.out.skip HJ.out HQ.out, Kd.R_below HR2.out hb2, below_next HBz.out hb2⟩
        | false =>
          rw [hq] at hcall
          have HC := Lib.hid hcall; clear hcall
          have HQ := Lib.hid hq; clear hq
          have hin : i < n := by have := HI1.out.lt; omega
          have HX := Lib.hid (fun (W : World) (h : Below (wr.alloc (.cells #[.string y.f0, .string y.f1] 48)).heap.size (wr.alloc (.cells #[.string y.f0, .string y.f1] 48)) W) => R_elem2 (Kd.R_below HR2.out h) i hin)
          generalize hda : dk.getD i z48 = da at HX
          go_wp2_with (go_at_fn g; refine HC.out.mono ?_; rintro e w2 ⟨rfl, hb2⟩; obtain ⟨⟨ha0, ha1⟩, hf0, hf1⟩ := HX.out _ hb2; have hc0 := (hb2.cell (p := ⟨wr.heap.size, 0, none⟩) (by simp)).trans HCA.out; have hc1 := (hb2.cell (p := ⟨wr.heap.size, 1, none⟩) (by simp)).trans HCB.out; have HB2 := Lib.hid hb2; clear hb2)
          go_roundg (n - (j + 1))
          case measure => omega
          case rel => exact ⟨i + 1, j + 1, dk.set i y, by go_num, by go_num, by omega, by omega, HI1.out.keep HJ.out HQ.out, R_put2 (Kd.R_below HR2.out HB2.out) i hin y, ((below_next HBz.out HB2.out).setCell hg0 _).setCell hg0 _⟩
      · have hltz : ¬ (j : Int) < (n : Int) := by omega
        obtain rfl : j = n := by omega
        have hij := HI1.out.lt
        have hlen := HI1.out.len
        have hnn := HN.out
        obtain ⟨W', hcl, hRW, hBW⟩ : ∃ W', (∀ ty, (Builtin.clear_ #[33] ty #[.slice (some ⟨g0, i * 2, none⟩) (j - i) (c - i)]).run Tryz.prog wr = .ok (.tuple #[]) W') ∧ Kd.R k48 48 W' w0.heap.size (fun _ => True) (.slice (some ⟨g0, 0, none⟩) i c) (dk.take i) ∧ Below w0.heap.size w0 W' := by
          refine ⟨_, fun ty => run_clear_fields wr g0 (i * 2) (j - i) (c - i) (by omega) (fun q hq => ?_) (fun q hq => ?_) ty, R_cleared HR1.out (by omega) _ (by rw [zc_size]; omega), ?_⟩
          · obtain ⟨⟨a0, a1⟩, _⟩ := R_elem2 HR1.out ((i * 2 + q) / 2) (by omega)
            have : (i * 2 + q) % 2 = 0 ∨ (i * 2 + q) % 2 = 1 := by omega
            rcases this with h | h
            · rw [show i * 2 + q = (i * 2 + q) / 2 * 2 by omega, a0]; rfl
            · rw [show i * 2 + q = (i * 2 + q) / 2 * 2 + 1 by omega, a1]; rfl
          · obtain ⟨_, a0, a1⟩ := R_elem2 HR1.out ((i * 2 + q) / 2) (by omega)
            have : (i * 2 + q) % 2 = 0 ∨ (i * 2 + q) % 2 = 1 := by omega
            rcases this with h | h
            · rw [show i * 2 + q = (i * 2 + q) / 2 * 2 by omega, a0]
            · rw [show i * 2 + q = (i * 2 + q) / 2 * 2 + 1 by omega, a1]
          · exact below_setCells HB1.out hg0 _ _
        have hdone : dk.take i = zs.filter fun x => !p x := by
          have := HI1.out
          rw [← hnn] at this
          exact this.done
        rw [hdone] at hRW
        have hil : i = (zs.filter fun x => !p x).length := by rw [← hdone, List.length_take]; omega
        have HRW := Lib.hid hRW
        have HBW := Lib.hid hBW
        have hci : i < c := by omega
        clear hRW hBW hdone hil hnn hlen HP HD HI1 HR1 HB1
        go_wp2_with fail
        go_ret
        exact ⟨_, rfl, HRW.out, HBW.out⟩
/-! ### slices.Clone -/
theorem R_empty (w : World) : Kd.R k48 48 (w.alloc (.cells #[] 48)) w.heap.size (fun _ => True) (.slice (some ⟨w.heap.size, 0, none⟩) 0 0) [] :=
  ⟨fun _ _ => trivial, [], by have := World.ownsRow_lit (base := w.heap.size) (e := 48) (size := k48.sz) w #[] 0 (Nat.le_refl _) (by unfold maxLen; decide) (by simp); simpa using this, Reps.none _ _⟩
theorem clone_field (A : Option Addr) (c : Nat) (zs : List S48) (w : World) (hC : Kd.C k48 w A zs.length zs) (hlen : zs.length < 4398046511104) :
    Calls Tryz.prog 37 #[.slice A zs.length c] w fun e w' => ∃ v', e = .returned v' ∧ Kd.R k48 48 w' w.heap.size (fun _ => True) v' zs ∧ Below w.heap.size w w' := by
  cases A with
  | none =>
    obtain rfl : zs = [] := by
      have h := hC.2.2
      rcases Nat.eq_zero_or_pos zs.length with h0 | h0
      · exact List.eq_nil_of_length_eq_zero h0
      · obtain ⟨ad, h1, _⟩ := h h0; cases h1
    clear hC hlen
    have hnl : ∀ W, (binOp .eql 33 (.slice none 0 c) (.slice none 0 0)).run Tryz.prog W = .ok (.bool true) W := fun W => Lib.run_eql_slice_nil W _ _ none 0 c 0 0 Tryz.underlying33
    go_enter Tryz.func37, Tryz.ntmps37
    go_wp2
    go_ret
    exact ⟨_, rfl, Kd.R_nil _ _ _ _ _, Below.refl _ _⟩
  | some ad =>
    have HC := Lib.hid hC; clear hC
    have HL := Lib.hid hlen; clear hlen
    generalize hn : zs.length = n at HC HL
    have HN := Lib.hid hn; clear hn
    have hnl : ∀ W, (binOp .eql 33 (.slice (some ad) n c) (.slice none 0 0)).run Tryz.prog W = .ok (.bool false) W := fun W => Lib.run_eql_slice_nil W _ _ (some ad) n c 0 0 Tryz.underlying33
    go_enter Tryz.func37, Tryz.ntmps37
    go_wp2_with (at_builtin; refine Kd.R_append_rows k48 (w0 := w) w.heap.size rfl (.tmp 5) (.tmp 6) 33 48 (.agg #[(.string ⟨#[]⟩), (.string ⟨#[]⟩)]) 32 rfl Tryz.underlying33 info48 rfl (by decide) (by omega) (.slice (some ⟨w.heap.size, 0, none⟩) 0 0) [] zs (some ad) n c (fun _ => True) (fun _ => False) rfl rfl (R_empty w) (Kd.C_below HC.out (below_alc (Below.refl _ _) _)) (fun x cs hK => by obtain rfl := k48_open hK; exact k48_mkM _ _ _ x) (fun _ h => h.elim) (fun _ _ => trivial) (below_alc (Below.refl _ _) _) (by simp) (by have := HL.out; simp; omega) ?_; intro v1 w1 h1 hb1 hg1 hat1; have H1 := Lib.hid h1; have HB1 := Lib.hid hb1; clear h1 hb1 hg1 hat1)
    obtain ⟨A1, c1, rfl⟩ := Kd.R_slice H1.out
    go_ret
    exact ⟨_, rfl, H1.out, HB1.out⟩
end Go.Proofs.YthmnhbalmglohaaGreatDoor.X

/- head.Drop in the print's form. -/
namespace Go.Proofs.YthmnhbalmglohaaGreatDoor.X
open Go.RowKit Go.Proofs.YthmnhbalmglohaaGreatDoorW.PrintWords Go.Proofs.YthmnhbalmglohaaGreatDoor.T
set_option linter.unusedSimpArgs false
set_option linter.unusedVariables false
/-! ### the predicates -/
def sameB (a b : ByteArray) : Bool := (lowerB a).toList == (lowerB b).toList
theorem sameB_f (a b : ByteArray) (ha : a.size ≤ 9223372036854775807) (hb : b.size ≤ 9223372036854775807) : text_Same.f a b = some (sameB a b) := by
  have e1 : text_Lower.f a = some (lowerB a) := by unfold text_Lower.f; rw [if_pos ha]
  have e2 : text_Lower.f b = some (lowerB b) := by unfold text_Lower.f; rw [if_pos hb]
  unfold text_Same.f
  rw [e1, e2]; rfl
theorem drop_11 (fn : ByteArray) (Bf : Nat) (w : World) (hB : Bf < w.heap.size) (hc : w.cell? ⟨Bf, 0, none⟩ = some (.string fn)) (hg : Glob w) (hf : fn.size ≤ 9223372036854775807) :
    PredS 40 #[.pointer (some ⟨Bf, 0, none⟩)] (fun s => sameB fn s) (fun s => s.size ≤ 9223372036854775807) w := by
  intro W s hb hs
  have hc2 := (hb.cell (p := ⟨Bf, 0, none⟩) hB).trans hc
  have HS := Lib.hid (fun (W1 : World) (h1 : Below W.heap.size W W1) => text_Same.calls fn s (sameB fn s) W1 ((hg.below hb).below h1) (sameB_f fn s hf hs))
  clear hc hB hb hg hf hs
  cases hq : sameB fn s with
  | _ =>
    rw [hq] at HS
    have HQ := Lib.hid hq
    clear hq
    go_enter Tryz.func40, Tryz.ntmps40
    go_wp2_with (go_at_call 23; refine (HS.out _ (by first | exact below_alc (Below.refl _ _) _ | exact Below.refl _ _)).mono ?_; rintro e w1 ⟨rfl, hb1⟩)
    go_ret
    exact ⟨ret_bool (by rw [HQ.out]), by first | exact below_next (below_alc (Below.refl _ _) _) hb1 | exact hb1⟩
theorem fn_drop_11 : ∀ args w, (callFunc 40 args).run Tryz.prog w = .ok (.enter 40 args) w := enters_of Tryz.func40 (by kernel_rfl) rfl
def dropP (ns : List ByteArray) (x : S48) : Bool := ns.any fun s => sameB x.f0 s
theorem drop_1 (ns : List ByteArray) (A : Option Addr) (c Bn : Nat) (w : World) (hB : Bn < w.heap.size) (hc : w.cell? ⟨Bn, 0, none⟩ = some (.slice A ns.length c)) (hC : Kd.C Kd.string w A ns.length ns) (hg : Glob w) (hn : ∀ s ∈ ns, s.size ≤ 9223372036854775807) (hbig : ns.length ≤ 9223372036854775807) :
    PredF 38 #[.pointer (some ⟨Bn, 0, none⟩)] (dropP ns) (fun x => x.f0.size ≤ 9223372036854775807) w := by
  intro W x hb hx
  have hc2 := (hb.cell (p := ⟨Bn, 0, none⟩) hB).trans hc
  have HM := Lib.hid (fun (W1 : World) (Bf : Nat) (hBf : Bf < W1.heap.size) (hcf : W1.cell? ⟨Bf, 0, none⟩ = some (.string x.f0)) (h1 : Below W.heap.size W W1) =>
    contains_string_any 40 #[.pointer (some ⟨Bf, 0, none⟩)] (fun s => sameB x.f0 s) _ fn_drop_11 A c ns W1 (drop_11 x.f0 Bf W1 hBf hcf ((hg.below hb).below h1) hx) hn hbig (fun h0 => C_strings (Kd.C_below hC (below_next hb h1)) h0))
  have hc3 : ∀ W1, Below W.heap.size W W1 → W1.cell? ⟨Bn, 0, none⟩ = some (.slice A ns.length c) := fun W1 h1 => (h1.cell (p := ⟨Bn, 0, none⟩) (World.block_lt_of_cell? _ _ hc2)).trans hc2
  have hc4 := hc3 _ (below_alc (Below.refl _ _) (.cells #[.string x.f0, .string x.f1] 48))
  have HQ : Hid (dropP ns x = ns.any fun s => sameB x.f0 s) := Lib.hid rfl
  clear hc hB hb hg hx hn hC hc3
  show Calls _ _ #[fieldV x, _] _ _
  unfold fieldV
  generalize (ns.any fun s => sameB x.f0 s) = r at HM HQ
  generalize ns.length = n at HM hc2 hc4 hbig
  cases r with
  | _ =>
    go_enter Tryz.func38, Tryz.ntmps38
    go_wp2_with (go_at_call 39; refine (HM.out _ W.heap.size (by simp) (by go_simp) (below_alc (Below.refl _ _) _)).mono ?_; rintro e w1 ⟨rfl, hb1⟩)
    go_ret
    exact ⟨ret_bool (by rw [HQ.out]), below_next (below_alc (Below.refl _ _) _) hb1⟩
theorem fn_drop_1 : ∀ args w, (callFunc 38 args).run Tryz.prog w = .ok (.enter 38 args) w := enters_of Tryz.func38 (by kernel_rfl) rfl
/-! ### head.Drop -/
def dropL (ns : List ByteArray) (l : List S48) : List S48 := l.filter fun x => !dropP ns x
def fitsD (l0 : List S48) (l1 : List ByteArray) : Prop := l0.length < 4398046511104 ∧ (∀ x ∈ l0, x.f0.size ≤ 9223372036854775807) ∧ (∀ x ∈ l1, x.size ≤ 9223372036854775807) ∧ l1.length ≤ 9223372036854775807
instance (l0 : List S48) (l1 : List ByteArray) : Decidable (fitsD l0 l1) := by unfold fitsD; infer_instance
def head_Drop.f (l0 : List S48) (l1 : List ByteArray) : Option (List S48) := if fitsD l0 l1 then some (dropL l1 l0) else none
set_option maxHeartbeats 2000000 in
theorem head_Drop.calls (A0 : Option Addr) (c0 : Nat) (l0 : List S48) (A1 : Option Addr) (c1 : Nat) (l1 : List ByteArray) (r : List S48) (w : World) (hr0 : Kd.C k48 w A0 l0.length l0) (hc0 : l0.length ≤ c0) (hr1 : Kd.C Kd.string w A1 l1.length l1) (hc1 : l1.length ≤ c1) (HGg : Glob w) (h : head_Drop.f l0 l1 = some r) :
    Calls Tryz.prog 22 #[.slice A0 l0.length c0, .slice A1 l1.length c1] w fun e w' => ∃ v0_ : Value, e = .returned v0_ ∧ Kd.R k48 48 w' w.heap.size (fun _ => True) v0_ r ∧ Below w.heap.size w w' := by
  obtain ⟨⟨h1, h2, h3, h4⟩, rfl⟩ := of_lim h
  have hbw := below_alc (Below.refl w.heap.size w) (.cells #[.slice A1 l1.length c1] 44)
  have HB := Lib.hid hbw
  have HCl := Lib.hid (clone_field A0 c0 l0 _ (Kd.C_below hr0 hbw) h1)
  have HPr := Lib.hid (drop_1 l1 A1 c1 w.heap.size _ (by simp) (by go_simp) (Kd.C_below hr1 hbw) (HGg.below hbw) h3 h4)
  have HDe := Lib.hid (delete_field 38 #[.pointer (some ⟨w.heap.size, 0, none⟩)] (dropP l1) _ fn_drop_1 _ HPr.out l0 h2 (by omega))
  have HEq : Hid (dropL l1 l0 = l0.filter fun x => !dropP l1 x) := Lib.hid rfl
  clear h h1 h2 h3 h4 hr0 hr1 HGg hc0 hc1 hbw
  generalize l0.length = n0 at HCl
  generalize l1.length = n1 at HCl HPr HDe HB
  go_enter Tryz.func22, Tryz.ntmps22
  go_wp2_with (first
    | (go_at_call 37; refine HCl.out.mono ?_; rintro e w1 ⟨v1, rfl, hR1, hB1⟩; have HR1 := Lib.hid hR1; have HB1 := Lib.hid hB1; clear hR1 hB1; obtain ⟨A1_, c1_, rfl⟩ := Kd.R_slice HR1.out)
    | (go_at_call 36; refine (HDe.out _ HB1.out _ HR1.out).mono ?_; rintro e w2 ⟨v2, rfl, hR2, hB2⟩; have HR2 := Lib.hid hR2; have HB2 := Lib.hid hB2; clear hR2 hB2; obtain ⟨A2_, c2_, rfl⟩ := Kd.R_slice HR2.out))
  go_ret
  refine ⟨_, rfl, ?_, below_next HB.out HB2.out⟩
  rw [HEq.out]
  exact Kd.R_lower HR2.out (by simp)
end Go.Proofs.YthmnhbalmglohaaGreatDoor.X
