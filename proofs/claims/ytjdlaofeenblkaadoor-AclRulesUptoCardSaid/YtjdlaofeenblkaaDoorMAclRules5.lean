/- The law AclRules: what the walk shows, put together with the plain law, as the given statement asks it: true for every argument of bulk at most 1048576. -/
import Derived.Test.YtjdlaofeenblkaaDoorMAclRules1
import Derived.Test.YtjdlaofeenblkaaDoorMAclRules3
import Derived.Test.YtjdlaofeenblkaaDoorMAclRules2
import Derived.Test.YtjdlaofeenblkaaDoorMAclRules4
import Derived.Test.YtjdlaofeenblkaaDoorCards
import Derived.Test.YtjdlaofeenblkaaDoorTie
import Derived.WalkKit
import Derived.ProofKit
import Derived.OpenShut
import Derived.ShutString
import Derived.ChangeOld
import Derived.Below
import Derived.SizedLaws
import Derived.Deep.DeepHandedRow
import Derived.Deep.DeepWitnessRowRef
/- With rounds enough, a printed function tells a value: how that is put together; and what a byte string's places hold. -/
namespace Go.Proofs.YtjdlaofeenblkaaDoor.X
open Go.RowKit Go.Proofs.YtjdlaofeenblkaaDoorW.PrintWords Go.Proofs.YtjdlaofeenblkaaDoor.T
set_option linter.unusedSimpArgs false
set_option linter.unusedVariables false
/-- With rounds enough f tells r. -/
def Ev {α : Type} (f : Nat → Option α) (r : α) : Prop := ∃ K, ∀ k, K ≤ k → f k = some r
theorem Ev.const {α : Type} {f : Nat → Option α} {r : α} (h : ∀ k, f k = some r) : Ev f r := ⟨0, fun k _ => h k⟩
theorem Ev.done {α : Type} {f : Nat → Option α} {r : α} (h : ∀ k, f (k + 1) = some r) : Ev f r := ⟨1, fun k hk => by obtain ⟨j, rfl⟩ : ∃ j, k = j + 1 := ⟨k - 1, by omega⟩; exact h j⟩
theorem Ev.step {α : Type} {f g : Nat → Option α} {r : α} (h : ∀ k, f (k + 1) = g k) (hg : Ev g r) : Ev f r := by
  obtain ⟨K, hK⟩ := hg
  refine ⟨K + 1, fun k hk => ?_⟩
  obtain ⟨j, rfl⟩ : ∃ j, k = j + 1 := ⟨k - 1, by omega⟩
  rw [h j]; exact hK j (by omega)
theorem Ev.same {α : Type} {f g : Nat → Option α} {r : α} (h : ∀ k, f k = g k) (hg : Ev g r) : Ev f r := by
  obtain ⟨K, hK⟩ := hg
  exact ⟨K, fun k hk => by rw [h k]; exact hK k hk⟩
theorem Ev.bind {α β : Type} {f : Nat → Option α} {g : Nat → α → Option β} {a : α} {r : β} (hf : Ev f a) (hg : Ev (fun k => g k a) r) : Ev (fun k => (f k).bind (g k)) r := by
  obtain ⟨K, hK⟩ := hf
  obtain ⟨L, hL⟩ := hg
  refine ⟨max K L, fun k hk => ?_⟩
  show (f k).bind (g k) = _
  rw [hK k (by omega)]
  exact hL k (by omega)
theorem Ev.stepBind {α β : Type} {F : Nat → Option β} {f : Nat → Option α} {g : Nat → α → Option β} {a : α} {r : β} (h : ∀ k, F (k + 1) = (f k).bind (g k)) (hf : Ev f a) (hg : Ev (fun k => g k a) r) : Ev F r := Ev.step h (Ev.bind hf hg)
theorem Ev.of_mono {α : Type} {f : Nat → Option α} {r : α} (hm : ∀ k, LeO (f k) (f (k + 1))) {K : Nat} (h : f K = some r) : Ev f r := by
  refine ⟨K, fun k hk => ?_⟩
  obtain ⟨d, rfl⟩ : ∃ d, k = K + d := ⟨k - K, by omega⟩
  clear hk
  induction d with
  | zero => exact h
  | succ d ih => exact hm (K + d) r ih
theorem Ev.get {α : Type} {f : Nat → Option α} {r : α} (h : Ev f r) : ∃ k, f k = some r := by obtain ⟨K, hK⟩ := h; exact ⟨K, hK K (Nat.le_refl _)⟩
theorem wrap_id {n : Int} (h : -9223372036854775808 ≤ n) (h2 : n ≤ 9223372036854775807) : wrap64 n = n := by unfold wrap64; omega
/-! ### a byte string's places -/
theorem bt_at {s : ByteArray} {j : Nat} (h : j < s.size) : bt s (j : Int) = ((s[j]'h).toNat : Int) := by
  unfold bt
  rw [dif_pos (by simpa using h)]
  rfl
theorem list_at {s : ByteArray} {j : Nat} (h : j < s.size) : s.data.toList[j]? = some (s[j]'h) := by
  rw [List.getElem?_eq_getElem (by rw [size_toList]; exact h)]
  rfl
theorem bt_is {s : ByteArray} {j : Nat} (h : j < s.size) (c : UInt8) : bt s (j : Int) = (c.toNat : Int) ↔ s.data.toList[j]? = some c := by
  rw [bt_at h, list_at h]
  constructor
  · intro e
    have : (s[j]'h).toNat = c.toNat := by omega
    rw [UInt8.toNat_inj.1 this]
  · intro e; rw [Option.some.inj e]
theorem bt_sub {s : ByteArray} {a j : Nat} (h : a + j < s.size) : bt (s.extract a s.size) (j : Int) = bt s ((a + j : Nat) : Int) := by
  have hj : j < (s.extract a s.size).size := by rw [ByteArray.size_extract]; omega
  rw [bt_at hj, bt_at h, ByteArray.getElem_extract]
theorem drop_at {s : ByteArray} {j : Nat} (h : j < s.size) : s.data.toList.drop j = (s[j]'h) :: s.data.toList.drop (j + 1) := by
  rw [List.drop_eq_getElem_cons (by rw [size_toList]; exact h)]
  rfl
theorem drop_end {s : ByteArray} {j : Nat} (h : s.size ≤ j) : s.data.toList.drop j = [] := List.drop_eq_nil_of_le (by rw [size_toList]; exact h)
/-! ### the parts between points -/
theorem dot_index (t : ByteArray) {j : Nat} (h : t.data.toList[j]? = some 46) (hno : ∀ k, k < j → t.data.toList[k]? ≠ some 46) : Lib.indexB t ⟨#[46]⟩ = j := by
  have e : Lib.indexB t ⟨#[46]⟩ = Lib.indexByte t.data.toList 46 := Lib.index_one _ _
  rw [e]
  rcases Int.lt_or_le (Lib.indexByte t.data.toList 46) 0 with hm | hm
  · have h1 := Lib.indexByte_ge t.data.toList 46
    exact absurd h (Lib.indexByte_none (by omega) j)
  · obtain ⟨o, ho⟩ : ∃ o : Nat, Lib.indexByte t.data.toList 46 = o := ⟨(Lib.indexByte t.data.toList 46).toNat, by omega⟩
    obtain ⟨p1, p2⟩ := Lib.indexByte_some ho
    rw [ho]
    rcases Nat.lt_trichotomy o j with hlt | rfl | hgt
    · exact absurd p1 (hno o hlt)
    · rfl
    · exact absurd h (p2 j hgt)
theorem dot_none (t : ByteArray) (hno : ∀ k : Nat, t.data.toList[k]? ≠ some 46) : Lib.indexB t ⟨#[46]⟩ = -1 := by
  have e : Lib.indexB t ⟨#[46]⟩ = Lib.indexByte t.data.toList 46 := Lib.index_one _ _
  rw [e]
  have h1 := Lib.indexByte_ge t.data.toList 46
  rcases Int.lt_or_le (Lib.indexByte t.data.toList 46) 0 with hm | hm
  · omega
  · obtain ⟨o, ho⟩ : ∃ o : Nat, Lib.indexByte t.data.toList 46 = o := ⟨(Lib.indexByte t.data.toList 46).toNat, by omega⟩
    exact absurd (Lib.indexByte_some ho).1 (hno o)
theorem labels_no (t : ByteArray) (hno : ∀ k : Nat, t.data.toList[k]? ≠ some 46) : labelsB t = [t] := Lib.splitB_miss _ _ _ _ (dot_none t hno)
theorem labels_hit (t : ByteArray) (j : Nat) (h : t.data.toList[j]? = some 46) (hno : ∀ k, k < j → t.data.toList[k]? ≠ some 46) : labelsB t = t.extract 0 j :: labelsB (t.extract (j + 1) t.size) := by
  have hx := dot_index t h hno
  unfold labelsB
  rw [Lib.countB_hit t ⟨#[46]⟩ j (by decide) hx, Nat.add_comm 1, Lib.splitB_hit _ _ _ _ _ hx]
  rfl
end Go.Proofs.YtjdlaofeenblkaaDoor.X

/- tollhouseref10.Named tells what uri.Named tells: the plain law. -/
namespace Go.Proofs.YtjdlaofeenblkaaDoor.X
open Go.RowKit Go.Proofs.YtjdlaofeenblkaaDoorW.PrintWords Go.Proofs.YtjdlaofeenblkaaDoor.T
set_option linter.unusedSimpArgs false
set_option linter.unusedVariables false
theorem wrap_succ {n : Nat} (h : n < 9223372036854775807) : wrap64 ((n : Int) + 1) = ((n + 1 : Nat) : Int) := by unfold wrap64; omega
theorem isDig_iff (c : UInt8) : isDig c = true ↔ (48 ≤ c.toNat ∧ c.toNat ≤ 57) := by
  have h : ∀ n : Fin 256, isDig (UInt8.ofNat n.val) = true ↔ (48 ≤ (UInt8.ofNat n.val).toNat ∧ (UInt8.ofNat n.val).toNat ≤ 57) := by decide +kernel
  have := h ⟨c.toNat, c.toNat_lt⟩
  simpa using this
/-! ### labels -/
theorem labels_go (s : ByteArray) (hs : s.size ≤ 4294967296) : ∀ (d i a : Nat) (acc : List ByteArray), s.size - i = d → a ≤ i → i ≤ s.size → (∀ j, a ≤ j → j < i → s.data.toList[j]? ≠ some 46) → acc.length ≤ i →
    Ev (fun k => tollhouseref10_labels.l0 k s acc (a : Int) (i : Int)) (acc ++ labelsB (s.extract a s.size))
  | 0, i, a, acc, hd, ha, hi, hno, hl => by
    obtain rfl : i = s.size := by omega
    refine Ev.step (g := fun k => tollhouseref10_labels.l0 k s (acc ++ [s.extract a s.size]) ((s.size + 1 : Nat) : Int) ((s.size + 1 : Nat) : Int)) (fun k => ?_) (Ev.done fun k => ?_)
    · simp only [tollhouseref10_labels.l0]
      rw [if_pos (by omega), if_pos trivial, if_pos (by omega), if_pos (by omega), if_pos (by omega), wrap_succ (by omega)]
      simp
    · simp only [tollhouseref10_labels.l0]
      rw [if_neg (by omega), labels_no]
      intro k hk
      have hlt : k < (s.extract a s.size).size := by
        have := (List.getElem?_eq_some_iff.1 hk).1
        rw [size_toList] at this; exact this
      rw [ByteArray.size_extract] at hlt
      rw [Lib.extract_to_end, List.getElem?_drop] at hk
      exact hno (a + k) (by omega) (by omega) hk
  | d + 1, i, a, acc, hd, ha, hi, hno, hl => by
    have hlt : i < s.size := by omega
    by_cases h46 : s.data.toList[i]? = some 46
    · have hb : bt s (i : Int) = 46 := (bt_is hlt 46).2 h46
      have ih := labels_go s hs d (i + 1) (i + 1) (acc ++ [s.extract a i]) (by omega) (by omega) (by omega) (fun j h1 h2 => by omega) (by simp; omega)
      have hhit : labelsB (s.extract a s.size) = s.extract a i :: labelsB (s.extract (i + 1) s.size) := by
        rw [labels_hit (s.extract a s.size) (i - a)]
        · have e1 : (s.extract a s.size).extract 0 (i - a) = s.extract a i := by
            rw [ByteArray.extract_extract]; congr 1 <;> omega
          have e2 : (s.extract a s.size).extract (i - a + 1) (s.extract a s.size).size = s.extract (i + 1) s.size := by
            rw [ByteArray.extract_extract, ByteArray.size_extract]; congr 1 <;> omega
          rw [e1, e2]
        · rw [Lib.extract_to_end, List.getElem?_drop]
          have : a + (i - a) = i := by omega
          rw [this]; exact h46
        · intro k hk hk2
          rw [Lib.extract_to_end, List.getElem?_drop] at hk2
          exact hno (a + k) (by omega) (by omega) hk2
      rw [hhit]
      refine Ev.step (g := fun k => tollhouseref10_labels.l0 k s (acc ++ [s.extract a i]) ((i + 1 : Nat) : Int) ((i + 1 : Nat) : Int)) (fun k => ?_) ?_
      · simp only [tollhouseref10_labels.l0]
        rw [if_pos (by omega), if_neg (by omega), if_pos (by omega), if_pos (by omega), if_pos hb, if_pos (by omega), if_pos (by omega), if_pos (by omega), wrap_succ (by omega)]
        simp
      · simpa using ih
    · have hb : ¬ bt s (i : Int) = 46 := fun e => h46 ((bt_is hlt 46).1 e)
      have ih := labels_go s hs d (i + 1) a acc (by omega) (by omega) (by omega) (fun j h1 h2 => by
        by_cases e : j = i
        · subst e; exact h46
        · exact hno j h1 (by omega)) (by omega)
      refine Ev.step (g := fun k => tollhouseref10_labels.l0 k s acc (a : Int) ((i + 1 : Nat) : Int)) (fun k => ?_) ih
      simp only [tollhouseref10_labels.l0]
      rw [if_pos (by omega), if_neg (by omega), if_pos (by omega), if_pos (by omega), if_neg hb, wrap_succ (by omega)]
theorem extract_all (s : ByteArray) : s.extract 0 s.size = s := by simp
theorem labels_ev (s : ByteArray) (hs : s.size ≤ 4294967296) : Ev (fun k => tollhouseref10_labels.f k s) (labelsB s) := by
  have := labels_go s hs (s.size - 0) 0 0 [] rfl (Nat.le_refl _) (Nat.zero_le _) (fun j h1 h2 => by omega) (Nat.le_refl _)
  rw [extract_all] at this
  simpa [tollhouseref10_labels.f] using this
/-! ### octets -/
def octS : List UInt8 → Bool
  | [a] => isDig a
  | [a, b] => isDig a && (isDig b && a != 48)
  | [a, b, c] => isDig a && (isDig b && (isDig c && (a != 48 && decide (100 * (a.toNat - 48) + 10 * (b.toNat - 48) + (c.toNat - 48) ≤ 255))))
  | _ => false
theorem oct_one : ∀ x : Fin 10, [UInt8.ofNat (48 + x.val)] = Lib.decDigits x.val := by decide +kernel
theorem oct_two : ∀ x y : Fin 10, x.val ≠ 0 → [UInt8.ofNat (48 + x.val), UInt8.ofNat (48 + y.val)] = Lib.decDigits (10 * x.val + y.val) := by decide +kernel
theorem oct_three : ∀ x y z : Fin 10, x.val ≠ 0 → 100 * x.val + 10 * y.val + z.val ≤ 255 → [UInt8.ofNat (48 + x.val), UInt8.ofNat (48 + y.val), UInt8.ofNat (48 + z.val)] = Lib.decDigits (100 * x.val + 10 * y.val + z.val) := by decide +kernel
theorem oct_all : ∀ n : Fin 256, octS (Lib.decDigits n.val) = true ∧ Lib.parseUintB 8 (Lib.decDigits n.val) = .ok n.val := by decide +kernel
theorem dig_of {c : UInt8} (h : isDig c = true) : ∃ x : Fin 10, c = UInt8.ofNat (48 + x.val) ∧ c.toNat = 48 + x.val := by
  obtain ⟨h1, h2⟩ := (isDig_iff c).1 h
  refine ⟨⟨c.toNat - 48, by omega⟩, ?_, by simp; omega⟩
  have : 48 + (c.toNat - 48) = c.toNat := by omega
  show c = UInt8.ofNat (48 + (c.toNat - 48))
  rw [this, UInt8.ofNat_toNat]
theorem octS_num : ∀ l : List UInt8, octS l = true → ∃ n, n ≤ 255 ∧ l = Lib.decDigits n
  | [a], h => by
    obtain ⟨x, rfl, _⟩ := dig_of (show isDig a = true from h)
    exact ⟨x.val, by have := x.2; omega, oct_one x⟩
  | [a, b], h => by
    simp only [octS, Bool.and_eq_true, bne_iff_ne] at h
    obtain ⟨x, rfl, hx⟩ := dig_of h.1
    obtain ⟨y, rfl, _⟩ := dig_of h.2.1
    refine ⟨10 * x.val + y.val, by have := x.2; have := y.2; omega, oct_two x y (fun e => h.2.2 ?_)⟩
    rw [e]; rfl
  | [a, b, c], h => by
    simp only [octS, Bool.and_eq_true, bne_iff_ne, decide_eq_true_eq] at h
    obtain ⟨x, hxa, hx⟩ := dig_of h.1
    obtain ⟨y, hya, hy⟩ := dig_of h.2.1
    obtain ⟨z, hza, hz⟩ := dig_of h.2.2.1
    have hle := h.2.2.2.2
    have hne := h.2.2.2.1
    rw [hx, hy, hz] at hle
    refine ⟨100 * x.val + 10 * y.val + z.val, by omega, ?_⟩
    rw [hxa, hya, hza]
    exact oct_three x y z (fun e => hne (by rw [hxa, e]; rfl)) (by omega)
  | [], h => by cases h
  | _ :: _ :: _ :: _ :: _, h => by cases h
theorem octB_S (s : ByteArray) : octB s = octS s.data.toList := by
  rw [Bool.eq_iff_iff]
  constructor
  · intro h
    unfold octB at h
    split at h
    · rename_i n hn
      have hle := Lib.parseUintB_le hn
      have e : s.data.toList = Lib.decDigits n := by simpa using h
      rw [e]
      exact (oct_all ⟨n, by omega⟩).1
    · cases h
  · intro h
    obtain ⟨n, hn, e⟩ := octS_num _ h
    unfold octB
    rw [e, (oct_all ⟨n, by omega⟩).2]
    simp
theorem octet_step (s : ByteArray) (i n : Nat) (c : UInt8) (hc : s.data.toList[i]? = some c) (hs : s.size ≤ 4294967296) (hn : n ≤ 1000000) :
    (isDig c = false → Ev (fun k => tollhouseref10_octet.l0 k s (n : Int) (i : Int)) false) ∧ (3 ≤ i → Ev (fun k => tollhouseref10_octet.l0 k s (n : Int) (i : Int)) false) ∧
    (isDig c = true → i < 3 → ∀ r, Ev (fun k => tollhouseref10_octet.l0 k s ((10 * n + (c.toNat - 48) : Nat) : Int) ((i + 1 : Nat) : Int)) r → Ev (fun k => tollhouseref10_octet.l0 k s (n : Int) (i : Int)) r) := by
  have hlt : i < s.size := by
    have := (List.getElem?_eq_some_iff.1 hc).1
    rw [size_toList] at this; exact this
  have hb : bt s (i : Int) = (c.toNat : Int) := (bt_is hlt c).2 hc
  have hd := isDig_iff c
  refine ⟨fun hd0 => Ev.done fun k => ?_, fun h3 => Ev.done fun k => ?_, fun hd1 h3 r hr => Ev.step (fun k => ?_) hr⟩
  · simp only [tollhouseref10_octet.l0]
    rw [if_pos (by omega), if_pos (by omega), hb]
    rw [hd0] at hd
    by_cases h1 : (c.toNat : Int) < 48
    · rw [if_pos h1]
    · rw [if_neg h1, if_pos]
      rcases Nat.lt_or_ge 57 c.toNat with h2 | h2
      · omega
      · exact absurd (hd.2 ⟨by omega, h2⟩) (by decide)
  · simp only [tollhouseref10_octet.l0]
    rw [if_pos (by omega), if_pos (by omega), hb]
    by_cases h1 : (c.toNat : Int) < 48
    · rw [if_pos h1]
    · rw [if_neg h1]
      by_cases h2 : (c.toNat : Int) > 57
      · rw [if_pos h2]
      · rw [if_neg h2, if_pos (by omega)]
  · obtain ⟨h1, h2⟩ := hd.1 hd1
    simp only [tollhouseref10_octet.l0]
    rw [if_pos (by omega), if_pos (by omega), hb, if_neg (by omega), if_neg (by omega), if_neg (by omega), wrap_succ (by omega)]
    have e : wrap64 (wrap64 (10 * (n : Int)) + ((c.toNat : Int) - 48) % 256) = ((10 * n + (c.toNat - 48) : Nat) : Int) := by unfold wrap64; omega
    rw [e]
theorem octet_end (s : ByteArray) (n : Nat) (hs : s.size ≤ 4294967296) : Ev (fun k => tollhouseref10_octet.l0 k s (n : Int) (s.size : Int)) (decide (0 < s.size) && (decide (n ≤ 255) && (s.data.toList.head? != some 48 || decide (s.size = 1)))) := by
  refine Ev.done fun k => ?_
  simp only [tollhouseref10_octet.l0]
  rw [if_neg (by omega)]
  by_cases h0 : 0 < s.size
  · rw [if_pos (by omega), decide_eq_true h0]
    by_cases h1 : n ≤ 255
    · rw [if_pos (by omega), if_pos (by omega), decide_eq_true h1]
      have hh : s.data.toList.head? = s.data.toList[0]? := by cases s.data.toList <;> rfl
      have hb : bt s 0 = 48 ↔ s.data.toList[0]? = some 48 := bt_is h0 48
      rw [hh]
      by_cases h2 : s.data.toList[0]? = some 48
      · rw [if_pos (hb.2 h2), h2]
        simp
        by_cases h3 : s.size = 1 <;> simp [h3]
        omega
      · rw [if_neg (fun e => h2 (hb.1 e))]
        have : (s.data.toList[0]? != some 48) = true := by simpa using h2
        rw [this]; rfl
    · rw [if_neg (by omega), decide_eq_false h1]; rfl
  · rw [if_neg (by omega), decide_eq_false h0]; rfl
theorem octet_ev (s : ByteArray) (hs : s.size ≤ 4294967296) : Ev (fun k => tollhouseref10_octet.f k s) (octB s) := by
  have hz := size_toList s
  have he := octet_end s
  rw [octB_S]
  show Ev (fun k => tollhouseref10_octet.l0 k s ((0 : Nat) : Int) ((0 : Nat) : Int)) (octS s.data.toList)
  generalize hl : s.data.toList = l at hz he
  match l with
  | [] =>
    have h0 := he 0 hs
    have hs0 : s.size = 0 := hz.symm
    rw [hs0] at h0
    exact h0
  | a :: t =>
    have s0 := octet_step s 0 0 a (by rw [hl]; rfl) hs (by omega)
    cases ha : isDig a with
    | false =>
      have e : octS (a :: t) = false := by
        match t with
        | [] => exact ha
        | [b] => simp [octS, ha]
        | [b, c] => simp [octS, ha]
        | _ :: _ :: _ :: _ => rfl
      rw [e]; exact s0.1 ha
    | true =>
      refine s0.2.2 ha (by omega) _ ?_
      have da := (isDig_iff a).1 ha
      match t with
      | [] =>
        have h0 := he (10 * 0 + (a.toNat - 48)) hs
        have hs0 : s.size = 1 := hz.symm
        rw [hs0] at h0
        have e : octS [a] = (decide (0 < 1) && (decide (10 * 0 + (a.toNat - 48) ≤ 255) && (([a] : List UInt8).head? != some 48 || decide (1 = 1)))) := by
          rw [decide_eq_true (by omega : 10 * 0 + (a.toNat - 48) ≤ 255)]; simp [octS, ha]
        rw [e]; exact h0
      | b :: t =>
        have s1 := octet_step s 1 (10 * 0 + (a.toNat - 48)) b (by rw [hl]; rfl) hs (by omega)
        cases hb : isDig b with
        | false =>
          have e : octS (a :: b :: t) = false := by
            match t with
            | [] => simp [octS, hb]
            | [c] => simp [octS, hb]
            | _ :: _ :: _ => rfl
          rw [e]; exact s1.1 hb
        | true =>
          refine s1.2.2 hb (by omega) _ ?_
          have db := (isDig_iff b).1 hb
          match t with
          | [] =>
            have h0 := he (10 * (10 * 0 + (a.toNat - 48)) + (b.toNat - 48)) hs
            have hs0 : s.size = 2 := hz.symm
            rw [hs0] at h0
            have e : octS [a, b] = (decide (0 < 2) && (decide (10 * (10 * 0 + (a.toNat - 48)) + (b.toNat - 48) ≤ 255) && (([a, b] : List UInt8).head? != some 48 || decide (2 = 1)))) := by
              rw [decide_eq_true (by omega : 10 * (10 * 0 + (a.toNat - 48)) + (b.toNat - 48) ≤ 255)]; simp [octS, ha, hb, bne]
            rw [e]; exact h0
          | c :: t =>
            have s2 := octet_step s 2 (10 * (10 * 0 + (a.toNat - 48)) + (b.toNat - 48)) c (by rw [hl]; rfl) hs (by omega)
            cases hc : isDig c with
            | false =>
              have e : octS (a :: b :: c :: t) = false := by
                match t with
                | [] => simp [octS, hc]
                | _ :: _ => rfl
              rw [e]; exact s2.1 hc
            | true =>
              refine s2.2.2 hc (by omega) _ ?_
              have dc := (isDig_iff c).1 hc
              match t with
              | [] =>
                have h0 := he (10 * (10 * (10 * 0 + (a.toNat - 48)) + (b.toNat - 48)) + (c.toNat - 48)) hs
                have hs0 : s.size = 3 := hz.symm
                rw [hs0] at h0
                have e : octS [a, b, c] = (decide (0 < 3) && (decide (10 * (10 * (10 * 0 + (a.toNat - 48)) + (b.toNat - 48)) + (c.toNat - 48) ≤ 255) && (([a, b, c] : List UInt8).head? != some 48 || decide (3 = 1)))) := by
                  have e1 : 10 * (10 * (10 * 0 + (a.toNat - 48)) + (b.toNat - 48)) + (c.toNat - 48) = 100 * (a.toNat - 48) + 10 * (b.toNat - 48) + (c.toNat - 48) := by omega
                  rw [e1]
                  simp only [octS, ha, hb, hc]
                  cases h48 : (a != 48) <;> simp_all [bne]
                rw [e]; exact h0
              | d :: t =>
                have s3 := octet_step s 3 (10 * (10 * (10 * 0 + (a.toNat - 48)) + (b.toNat - 48)) + (c.toNat - 48)) d (by rw [hl]; rfl) hs (by omega)
                exact s3.2.1 (by omega)
/-! ### numbers -/
def isLowHex (c : UInt8) : Bool := isDig c || (97 ≤ c && c ≤ 102)
theorem lowHex_iff (c : UInt8) : isLowHex c = true ↔ ((48 ≤ c.toNat ∧ c.toNat ≤ 57) ∨ (97 ≤ c.toNat ∧ c.toNat ≤ 102)) := by
  have h : ∀ n : Fin 256, isLowHex (UInt8.ofNat n.val) = true ↔ ((48 ≤ (UInt8.ofNat n.val).toNat ∧ (UInt8.ofNat n.val).toNat ≤ 57) ∨ (97 ≤ (UInt8.ofNat n.val).toNat ∧ (UInt8.ofNat n.val).toNat ≤ 102)) := by decide +kernel
  have := h ⟨c.toNat, c.toNat_lt⟩
  simpa using this
theorem number_go (s : ByteArray) (hs : s.size ≤ 4294967296) (from2 : Bool) : ∀ (d i : Nat), s.size - i = d → i ≤ s.size →
    Ev (fun k => tollhouseref10_number.l0 k s (if from2 then 2 else 0) (i : Int)) ((s.data.toList.drop i).all fun c => if from2 then isLowHex c else isDig c)
  | 0, i, hd, hi => by
    obtain rfl : i = s.size := by omega
    rw [drop_end (Nat.le_refl _)]
    refine Ev.done fun k => ?_
    simp only [tollhouseref10_number.l0]
    rw [if_neg (by omega)]; rfl
  | d + 1, i, hd, hi => by
    have hlt : i < s.size := by omega
    have ih := number_go s hs from2 d (i + 1) (by omega) (by omega)
    rw [drop_at hlt, List.all_cons]
    have hb : bt s (i : Int) = ((s[i]'hlt).toNat : Int) := bt_at hlt
    have h1 := isDig_iff (s[i]'hlt)
    have h2 := lowHex_iff (s[i]'hlt)
    generalize (s[i]'hlt) = c at hb h1 h2 ⊢
    generalize ((s.data.toList.drop (i + 1)).all fun c => if from2 = true then isLowHex c else isDig c) = r at ih ⊢
    cases from2 with
    | false =>
      simp only [Bool.false_eq_true, if_false] at ih ⊢
      cases hc : isDig c with
      | true =>
        obtain ⟨g1, g2⟩ := h1.1 hc
        refine Ev.step (fun k => ?_) ih
        simp only [tollhouseref10_number.l0]
        rw [if_pos (by omega), if_pos (by omega), hb, if_pos (by omega), if_pos (by omega), wrap_succ (by omega)]
      | false =>
        refine Ev.done fun k => ?_
        simp only [tollhouseref10_number.l0]
        rw [if_pos (by omega), if_pos (by omega), hb, if_pos trivial]
        rw [hc] at h1
        by_cases g1 : (c.toNat : Int) ≥ 48
        · rw [if_pos g1, if_neg (fun g2 => by have := h1.2 ⟨by omega, by omega⟩; cases this)]; rfl
        · rw [if_neg g1]; rfl
    | true =>
      simp only [if_true] at ih ⊢
      cases hc : isLowHex c with
      | true =>
        refine Ev.step (fun k => ?_) ih
        simp only [tollhouseref10_number.l0]
        rw [if_pos (by omega), if_pos (by omega), hb, wrap_succ (by omega)]
        rcases h2.1 hc with ⟨g1, g2⟩ | ⟨g1, g2⟩
        · rw [if_pos (by omega), if_pos (by omega)]
        · rw [if_pos (by omega), if_neg (by omega), if_neg (by decide), if_neg (by omega), if_neg (by omega)]
      | false =>
        refine Ev.done fun k => ?_
        simp only [tollhouseref10_number.l0]
        rw [if_pos (by omega), if_pos (by omega), hb]
        rw [hc] at h2
        have n1 : ¬ ((48 ≤ c.toNat ∧ c.toNat ≤ 57) ∨ (97 ≤ c.toNat ∧ c.toNat ≤ 102)) := fun e => by have := h2.2 e; cases this
        have e1 : (if (c.toNat : Int) < 97 then some false else if (c.toNat : Int) > 102 then some false else tollhouseref10_number.l0 k s 2 (wrap64 ((i : Int) + 1))) = some false := by
          by_cases g3 : (c.toNat : Int) < 97
          · rw [if_pos g3]
          · rw [if_neg g3, if_pos (by omega)]
        by_cases g1 : (c.toNat : Int) ≥ 48
        · rw [if_pos g1, if_neg (by omega), if_neg (by decide), e1]; rfl
        · rw [if_neg g1, if_neg (by decide), e1]; rfl
def numberS (l : List UInt8) : Bool := if Lib.hasPrefix l [48, 120] then (l.drop 2).all isLowHex else l.all isDig
theorem prefix_two (l : List UInt8) (a b : UInt8) (h : 2 ≤ l.length) : (l.take 2 == [a, b]) = Lib.hasPrefix l [a, b] := by
  match l, h with
  | x :: y :: t, _ =>
    show ([x, y] == [a, b]) = ((a == x) && ((b == y) && true))
    rw [Bool.eq_iff_iff]
    simp only [beq_iff_eq, List.cons.injEq, and_true, Bool.and_eq_true, Bool.and_true]
    constructor
    · rintro ⟨rfl, rfl⟩; exact ⟨rfl, rfl⟩
    · rintro ⟨rfl, rfl⟩; exact ⟨rfl, rfl⟩
theorem prefix_short (l : List UInt8) (a b : UInt8) (h : l.length < 2) : Lib.hasPrefix l [a, b] = false := by
  match l, h with
  | [], _ => rfl
  | [x], _ => simp [Lib.hasPrefix, List.isPrefixOf]
theorem number_ev (s : ByteArray) (hs : s.size ≤ 4294967296) : Ev (fun k => tollhouseref10_number.f k s) (numberS s.data.toList) := by
  have hz := size_toList s
  have hj : ∀ b : Bool, (b = true → 2 ≤ s.size) → Ev (fun k => tollhouseref10_number.j0 k s 0 b) (if b then (s.data.toList.drop 2).all isLowHex else s.data.toList.all isDig) := by
    intro b hb
    cases b with
    | false =>
      have := number_go s hs false (s.size - 0) 0 rfl (Nat.zero_le _)
      simp only [Bool.false_eq_true, if_false, List.drop_zero] at this ⊢
      refine Ev.step (g := fun k => tollhouseref10_number.j1 k s 0) (fun k => by simp only [tollhouseref10_number.j0]; rw [if_neg (by decide)]) (Ev.step (fun k => by simp only [tollhouseref10_number.j1]; rfl) this)
    | true =>
      have := number_go s hs true (s.size - 2) 2 rfl (hb rfl)
      simp only [if_true] at this ⊢
      refine Ev.step (g := fun k => tollhouseref10_number.j1 k s 2) (fun k => by simp only [tollhouseref10_number.j0]; rw [if_pos trivial]) (Ev.step (fun k => by simp only [tollhouseref10_number.j1]; rfl) this)
  by_cases h2 : 2 ≤ s.size
  · have e : ((s.extract 0 2).toList == ([48, 120] : List UInt8)) = Lib.hasPrefix s.data.toList [48, 120] := by
      rw [Lib.toList_data, Lib.extract_from_zero, prefix_two _ _ _ (by omega)]
    refine Ev.same (g := fun k => tollhouseref10_number.j0 k s 0 (Lib.hasPrefix s.data.toList [48, 120])) (fun k => ?_) ?_
    · unfold tollhouseref10_number.f
      rw [if_pos (by omega), if_pos (by omega), if_pos (by omega), e]
    · have := hj (Lib.hasPrefix s.data.toList [48, 120]) (fun _ => h2)
      exact this
  · refine Ev.same (g := fun k => tollhouseref10_number.j0 k s 0 false) (fun k => ?_) ?_
    · unfold tollhouseref10_number.f
      rw [if_neg (by omega)]
    · have := hj false (fun h => by cases h)
      unfold numberS
      rw [prefix_short _ _ _ (by omega)]
      exact this
/-- of a label's small signs -/
theorem hex_host (c : UInt8) (h : isHostC c = true) : isHexC c = isLowHex c := by
  have hh : ∀ n : Fin 256, isHostC (UInt8.ofNat n.val) = true → isHexC (UInt8.ofNat n.val) = isLowHex (UInt8.ofNat n.val) := by decide +kernel
  have := hh ⟨c.toNat, c.toNat_lt⟩
  simp only [UInt8.ofNat_toNat] at this
  exact this h
theorem numeric_S (s : ByteArray) (h : s.data.toList.all isHostC = true) : numericB s = numberS s.data.toList := by
  unfold numericB numberS
  cases hp : Lib.hasPrefix s.data.toList [48, 120] with
  | false => rfl
  | true =>
    have e : Lib.trimPrefix s.data.toList [48, 120] = s.data.toList.drop 2 := by unfold Lib.trimPrefix; rw [if_pos hp]; rfl
    rw [if_pos rfl, if_pos rfl, e]
    have hd : (s.data.toList.drop 2).all isHostC = true := List.all_eq_true.2 fun x hx => List.all_eq_true.1 h x (List.mem_of_mem_drop hx)
    generalize s.data.toList.drop 2 = l at hd
    induction l with
    | nil => rfl
    | cons c t ih =>
      simp only [List.all_cons, Bool.and_eq_true] at hd
      rw [List.all_cons, List.all_cons, hex_host c hd.1, ih hd.2]
/-! ### Named -/
theorem hostC_iff (c : UInt8) : isHostC c = true ↔ (c.toNat = 45 ∨ (97 ≤ c.toNat ∧ c.toNat ≤ 122) ∨ (48 ≤ c.toNat ∧ c.toNat ≤ 57)) := by
  have h : ∀ n : Fin 256, isHostC (UInt8.ofNat n.val) = true ↔ ((UInt8.ofNat n.val).toNat = 45 ∨ (97 ≤ (UInt8.ofNat n.val).toNat ∧ (UInt8.ofNat n.val).toNat ≤ 122) ∨ (48 ≤ (UInt8.ofNat n.val).toNat ∧ (UInt8.ofNat n.val).toNat ≤ 57)) := by decide +kernel
  have := h ⟨c.toNat, c.toNat_lt⟩
  simpa using this
theorem rd_list (ls : List ByteArray) (i : Nat) (y : ByteArray) (h : ls[i]? = some y) : rdOf ByteArray.empty ls (i : Int) = y := by
  unfold rdOf
  rw [Int.toNat_natCast, List.getD_eq_getElem?_getD, h]; rfl
theorem named_l1 (s : ByteArray) (ls : List ByteArray) (hls : ls.length ≤ 4294967297) (o : Bool) (i : Nat) (y : ByteArray) (hi : ls[i]? = some y) (hy : y.size ≤ 4294967296) (r : Bool)
    (hr : y.data.toList.all isHostC = true → Ev (fun k => tollhouseref10_Named.l1 k s ls o (i : Int) (y.size : Int)) r) : ∀ (d j : Nat), y.size - j = d → j ≤ y.size → (y.data.toList.take j).all isHostC = true →
    Ev (fun k => tollhouseref10_Named.l1 k s ls o (i : Int) (j : Int)) (if y.data.toList.all isHostC then r else false)
  | 0, j, hd, hj, hp => by
    obtain rfl : j = y.size := by omega
    rw [List.take_of_length_le (by rw [size_toList]; exact Nat.le_refl _)] at hp
    rw [if_pos hp]; exact hr hp
  | d + 1, j, hd, hj, hp => by
    have hlt : j < y.size := by omega
    have hil : i < ls.length := (List.getElem?_eq_some_iff.1 hi).1
    have hb : bt y (j : Int) = ((y[j]'hlt).toNat : Int) := bt_at hlt
    have h1 := hostC_iff (y[j]'hlt)
    have htk : y.data.toList.take (j + 1) = y.data.toList.take j ++ [y[j]'hlt] := by
      rw [List.take_add_one, list_at hlt]; rfl
    have hsplit : y.data.toList.all isHostC = ((y.data.toList.take j).all isHostC && (isHostC (y[j]'hlt) && (y.data.toList.drop (j + 1)).all isHostC)) := by
      conv => lhs; rw [← List.take_append_drop j y.data.toList, List.all_append, drop_at hlt, List.all_cons]
    cases hc : isHostC (y[j]'hlt) with
    | true =>
      have ih := named_l1 s ls hls o i y hi hy r hr d (j + 1) (by omega) (by omega) (by rw [htk, List.all_append, hp]; simp [hc])
      refine Ev.step (fun k => ?_) ih
      simp only [tollhouseref10_Named.l1]
      rw [if_pos (by omega), if_pos (by omega), rd_list ls i y hi, if_pos (by omega), if_pos (by omega), hb, wrap_succ (by omega)]
      generalize (y[j]'hlt) = c at h1 hc
      rcases h1.1 hc with g | ⟨g1, g2⟩ | ⟨g1, g2⟩
      · rw [if_pos (by omega)]
      · rw [if_neg (by omega), if_neg (by omega), if_neg (by omega)]
      · rw [if_neg (by omega), if_pos (by omega), if_neg (by omega), if_neg (by omega)]
    | false =>
      have hf : y.data.toList.all isHostC = false := by rw [hsplit, hc]; simp
      rw [hf, if_neg (by decide)]
      refine Ev.done fun k => ?_
      simp only [tollhouseref10_Named.l1]
      rw [if_pos (by omega), if_pos (by omega), rd_list ls i y hi, if_pos (by omega), if_pos (by omega), hb]
      generalize (y[j]'hlt) = c at h1 hc
      rw [hc] at h1
      have n1 : ¬ (c.toNat = 45 ∨ (97 ≤ c.toNat ∧ c.toNat ≤ 122) ∨ (48 ≤ c.toNat ∧ c.toNat ≤ 57)) := fun e => by have := h1.2 e; cases this
      rw [if_neg (by omega)]
      by_cases g1 : (c.toNat : Int) < 97
      · rw [if_pos g1]
        by_cases g2 : (c.toNat : Int) < 48
        · rw [if_pos g2]
        · rw [if_neg g2, if_pos (by omega)]
      · rw [if_neg g1, if_pos (by omega), if_neg (by omega), if_pos (by omega)]
def namedRest (s : ByteArray) (ls : List ByteArray) (o : Bool) (t : List ByteArray) : Bool := t.all labelB && (decide (s.size ≤ 64) && (!numberS (ls.getD (ls.length - 1) ByteArray.empty).data.toList || (decide (ls.length = 4) && (o && t.all octB))))
theorem named_l0 (s : ByteArray) (hs : s.size ≤ 4294967296) (ls : List ByteArray) (hpos : 0 < ls.length) (hls : ls.length ≤ 4294967297) (hsz : ∀ y ∈ ls, y.size ≤ 4294967296) : ∀ (t : List ByteArray) (i : Nat) (o : Bool), ls.drop i = t → i ≤ ls.length →
    Ev (fun k => tollhouseref10_Named.l0 k s ls o (i : Int)) (namedRest s ls o t)
  | [], i, o, ht, hi => by
    have hi2 : i = ls.length := by
      have := congrArg List.length ht
      simp at this; omega
    subst hi2
    have hlast : ls[ls.length - 1]? = some (ls.getD (ls.length - 1) ByteArray.empty) := by
      rw [List.getD_eq_getElem?_getD, List.getElem?_eq_getElem (by omega)]; rfl
    have hmem : ls.getD (ls.length - 1) ByteArray.empty ∈ ls := List.mem_of_getElem? hlast
    have hw : wrap64 ((ls.length : Int) - 1) = ((ls.length - 1 : Nat) : Int) := by unfold wrap64; omega
    have hn := number_ev _ (hsz _ hmem)
    unfold namedRest
    generalize ls.getD (ls.length - 1) ByteArray.empty = y at hlast hn ⊢
    refine Ev.step (g := fun k => (tollhouseref10_number.f k y).bind fun b => if b = true then (if (ls.length : Int) = 4 then (if o = true then some (decide ((s.size : Int) ≤ 64)) else some false) else some false) else some (decide ((s.size : Int) ≤ 64))) (fun k => ?_) (Ev.bind hn (Ev.const fun k => ?_))
    · simp only [tollhouseref10_Named.l0]
      rw [if_neg (by omega), hw, if_pos (by omega), if_pos (by omega), rd_list ls _ y hlast]
    · have e64 : decide ((s.size : Int) ≤ 64) = decide (s.size ≤ 64) := by
        by_cases h : s.size ≤ 64
        · rw [decide_eq_true h, decide_eq_true (by omega)]
        · rw [decide_eq_false h, decide_eq_false (by omega)]
      rw [e64]
      have e4 : ((ls.length : Int) = 4) ↔ ls.length = 4 := by omega
      cases numberS y.data.toList <;> cases o <;> by_cases h4 : ls.length = 4 <;> simp [h4, e4]
  | y :: t, i, o, ht, hi => by
    have hil : i < ls.length := by
      have := congrArg List.length ht
      simp at this; omega
    have hiy : ls[i]? = some y := by
      have : (ls.drop i)[0]? = some y := by rw [ht]; rfl
      rw [List.getElem?_drop] at this
      simpa using this
    have hmem : y ∈ ls := List.mem_of_getElem? hiy
    have hy := hsz y hmem
    have ht2 : ls.drop (i + 1) = t := by
      rw [← List.drop_drop, ht]; rfl
    have ih := fun o2 => named_l0 s hs ls hpos hls hsz t (i + 1) o2 ht2 (by omega)
    have hlab : labelB y = (!y.data.toList.isEmpty && y.data.toList.all isHostC) := rfl
    have he : y.toList = y.data.toList := Lib.toList_data y
    have hfin : y.data.toList.all isHostC = true → Ev (fun k => tollhouseref10_Named.l1 k s ls o (i : Int) (y.size : Int)) (if y.data.toList.isEmpty then false else namedRest s ls (o && octB y) t) := by
      intro _
      cases hem : y.data.toList.isEmpty with
      | true =>
        rw [if_pos rfl]
        refine Ev.done fun k => ?_
        simp only [tollhouseref10_Named.l1]
        rw [if_pos (by omega), if_pos (by omega), rd_list ls i y hiy, if_neg (by omega), he, if_pos (by simpa using hem)]
      | false =>
        rw [if_neg (by decide)]
        cases o with
        | true =>
          refine Ev.step (g := fun k => (tollhouseref10_octet.f k y).bind fun b => tollhouseref10_Named.l0 k s ls b ((i + 1 : Nat) : Int)) (fun k => ?_) (Ev.bind (octet_ev y hy) ?_)
          · simp only [tollhouseref10_Named.l1]
            rw [if_pos (by omega), if_pos (by omega), rd_list ls i y hiy, if_neg (by omega), he, if_neg (by simpa using hem), if_pos trivial, wrap_succ (by omega)]
          · rw [Bool.true_and]; exact ih (octB y)
        | false =>
          refine Ev.step (fun k => ?_) (ih false)
          simp only [tollhouseref10_Named.l1]
          rw [if_pos (by omega), if_pos (by omega), rd_list ls i y hiy, if_neg (by omega), he, if_neg (by simpa using hem), if_neg (by decide), wrap_succ (by omega)]
    have h1 := named_l1 s ls hls o i y hiy hy _ hfin (y.size - 0) 0 rfl (Nat.zero_le _) rfl
    have hres : namedRest s ls o (y :: t) = (if y.data.toList.all isHostC = true then (if y.data.toList.isEmpty = true then false else namedRest s ls (o && octB y) t) else false) := by
      unfold namedRest
      rw [List.all_cons, List.all_cons, hlab]
      cases y.data.toList.all isHostC <;> cases y.data.toList.isEmpty <;> cases octB y <;> cases o <;> simp
    rw [hres]
    refine Ev.step (fun k => ?_) h1
    simp only [tollhouseref10_Named.l0]
    rw [if_pos (by omega)]
    rfl
theorem rnamed_ev (s : ByteArray) (hs : s.size ≤ 4294967296) : Ev (fun k => tollhouseref10_Named.f k s) (namedB s) := by
  have hl := labels_ev s hs
  have hpos : 0 < (labelsB s).length := by rw [labels_len]; omega
  have hle := labels_le s
  have hsz : ∀ y ∈ labelsB s, y.size ≤ 4294967296 := fun y hy => by have := splitB_size _ _ _ y hy; omega
  have h0 := named_l0 s hs (labelsB s) hpos (by omega) hsz (labelsB s) 0 true rfl (Nat.zero_le _)
  refine Ev.same (fun k => by unfold tollhouseref10_Named.f; rfl) (Ev.bind hl ?_)
  have e : namedB s = namedRest s (labelsB s) true (labelsB s) := by
    unfold namedB namedRest quadB
    cases ha : (labelsB s).all labelB with
    | false => rfl
    | true =>
      have hlast : (labelsB s).getD ((labelsB s).length - 1) ByteArray.empty ∈ labelsB s := by
        rw [List.getD_eq_getElem?_getD, List.getElem?_eq_getElem (by omega)]
        exact List.getElem_mem _
      have hh := List.all_eq_true.1 ha _ hlast
      unfold labelB at hh
      rw [Bool.and_eq_true] at hh
      rw [numeric_S _ hh.2]
      simp
  rw [e]; exact h0
end Go.Proofs.YtjdlaofeenblkaaDoor.X

/- What acl.Matches and acl.Admits tell, as plain functions. -/
namespace Go.Proofs.YtjdlaofeenblkaaDoor.X
open Go.RowKit Go.Proofs.YtjdlaofeenblkaaDoorW.PrintWords Go.Proofs.YtjdlaofeenblkaaDoor.T
set_option linter.unusedSimpArgs false
set_option linter.unusedVariables false
def ofB (h host : ByteArray) : Bool := if h.toList = ([42] : List UInt8) then true else if Lib.hasPrefix h.data.toList [46] = true then Lib.hasSuffix host.data.toList h.data.toList && decide ((host.size : Int) > (h.size : Int)) else h.toList == host.toList
def matchB (h : ByteArray) (lo hi : Int) (ms : List ByteArray) (host : ByteArray) (port : Int) (m : ByteArray) : Bool := ofB h host && (decide (lo ≤ port) && (decide (port ≤ hi) && (decide (ms.length = 0) || Lib.containsS ms m)))
theorem of_eq (a : Bool) (h : ByteArray) (lo hi : Int) (ms : List ByteArray) (host : ByteArray) (hs : host.size ≤ 9223372036854775807) : acl_of.f a h lo hi ms host = some (ofB h host) := by
  unfold acl_of.f ofB
  by_cases h1 : h.toList = ([42] : List UInt8)
  · rw [if_pos h1, if_pos h1]
  · rw [if_neg h1, if_neg h1]
    unfold strings_HasPrefix.f strings_HasSuffix.f
    rw [if_pos hs]
    simp only [Option.bind_some]
    cases Lib.hasPrefix h.data.toList [46] <;> simp
    cases Lib.hasSuffix host.data.toList h.data.toList <;> simp
theorem matches_eq (a : Bool) (h : ByteArray) (lo hi : Int) (ms : List ByteArray) (host : ByteArray) (port : Int) (m : ByteArray) (hs : host.size ≤ 9223372036854775807) (hm : ms.length ≤ 9223372036854775807) :
    acl_Matches.f a h lo hi ms host port m = some (matchB h lo hi ms host port m) := by
  unfold acl_Matches.f matchB
  rw [of_eq a h lo hi ms host hs]
  unfold slices_Contains_string.f
  rw [if_pos hm]
  simp only [Option.bind_some]
  cases ofB h host <;> simp
  by_cases h1 : lo ≤ port <;> simp [h1]
  by_cases h2 : port ≤ hi <;> simp [h2]
  by_cases h3 : ms = [] <;> simp [h3]
def matchX (x : S25) (host : ByteArray) (port : Int) (m : ByteArray) : Bool := matchB x.f1 x.f2 x.f3 x.f4 host port m
def admitsB (host : ByteArray) (port : Int) (m : ByteArray) : List S25 → Bool
  | [] => false
  | x :: t => if matchX x host port m = true then x.f0 else admitsB host port m t
theorem admits_eq (host : ByteArray) (port : Int) (m : ByteArray) (hs : host.size ≤ 9223372036854775807) : ∀ (l : List S25), (∀ x ∈ l, x.f4.length ≤ 9223372036854775807) → admitsL host port m l = some (admitsB host port m l)
  | [], _ => rfl
  | x :: t, h => by
    show (matchF x host port m).bind (fun b => if b = true then some x.f0 else admitsL host port m t) = some (if matchX x host port m = true then x.f0 else admitsB host port m t)
    have hx : matchF x host port m = some (matchX x host port m) := matches_eq _ _ _ _ _ _ _ _ hs (h x (List.mem_cons_self ..))
    rw [hx, admits_eq host port m hs t (fun y hy => h y (List.mem_cons_of_mem _ hy))]
    simp only [Option.bind_some]
    by_cases e : matchX x host port m = true
    · rw [if_pos e, if_pos e]
    · rw [if_neg e, if_neg e]
theorem toList_app (a b : ByteArray) : (a ++ b).data.toList = a.data.toList ++ b.data.toList := by simp
theorem size_app (a b : ByteArray) : (a ++ b).size = a.size + b.size := by simp
theorem toList_eq (a : ByteArray) : a.toList = a.data.toList := Lib.toList_data a
end Go.Proofs.YtjdlaofeenblkaaDoor.X

/- What a rule's host says; the chapter's rows: plain lemmas. -/
namespace Go.Proofs.YtjdlaofeenblkaaDoor.X
open Go.RowKit Go.Proofs.YtjdlaofeenblkaaDoorW.PrintWords Go.Proofs.YtjdlaofeenblkaaDoorW.PrintMore Go.Proofs.YtjdlaofeenblkaaDoor.T
set_option linter.unusedSimpArgs false
set_option linter.unusedVariables false
theorem wakes14 : tollhouselaw14_wakes.f = some true := by decide +kernel
theorem mx_ge (a b : Int) : b ≤ mx a b ∧ a ≤ mx a b := by unfold mx; split <;> omega
theorem mn_le (a b : Int) : mn a b ≤ b ∧ mn a b ≤ a := by unfold mn; split <;> omega
theorem wide_all (host : ByteArray) (port : Int) (m : ByteArray) : matchB ⟨#[42]⟩ 1 65535 [] host port m = (decide (1 ≤ port) && decide (port ≤ 65535)) := by
  have h : ofB ⟨#[42]⟩ host = true := by unfold ofB; rw [if_pos (by decide +kernel)]
  unfold matchB
  rw [h]
  simp
theorem match_parts {h : ByteArray} {lo hi : Int} {ms : List ByteArray} {host : ByteArray} {port : Int} {m : ByteArray} (hm : matchB h lo hi ms host port m = true) : ofB h host = true ∧ lo ≤ port ∧ port ≤ hi ∧ (decide (ms.length = 0) || Lib.containsS ms m) = true := by
  unfold matchB at hm
  simp only [Bool.and_eq_true, decide_eq_true_eq] at hm
  exact ⟨hm.1, hm.2.1, hm.2.2.1, hm.2.2.2⟩
theorem match_of (h : ByteArray) {lo hi : Int} {ms : List ByteArray} (host : ByteArray) {port : Int} {m : ByteArray} (h2 : lo ≤ port) (h3 : port ≤ hi) (h4 : (decide (ms.length = 0) || Lib.containsS ms m) = true) : matchB h lo hi ms host port m = ofB h host := by
  unfold matchB
  rw [h4, decide_eq_true h2, decide_eq_true h3]
  simp
theorem x_front (a : ByteArray) : ((⟨#[120]⟩ : ByteArray) ++ a).data.toList = 120 :: a.data.toList := by rw [toList_app]; rfl
theorem x_back (a : ByteArray) : (a ++ (⟨#[120]⟩ : ByteArray)).data.toList = a.data.toList ++ [120] := by rw [toList_app]
theorem suffix_cons {c : UInt8} {l p : List UInt8} (h : Lib.hasSuffix l p = true) : Lib.hasSuffix (c :: l) p = true := by
  unfold Lib.hasSuffix at h ⊢
  rw [List.isSuffixOf_iff_suffix] at h ⊢
  exact h.trans (List.suffix_cons _ _)
theorem suffix_self (l : List UInt8) : Lib.hasSuffix l l = true := by
  unfold Lib.hasSuffix
  rw [List.isSuffixOf_iff_suffix]
  exact List.suffix_refl _
theorem dot_prefix (h : ByteArray) : Lib.hasPrefix h.data.toList [46] = (decide (0 < h.size) && bt h 0 == 46) := by
  have hl := size_toList h
  unfold Lib.hasPrefix bt
  by_cases hs : 0 < h.size
  · rw [dif_pos (by simpa using hs)]
    have he : h.data.toList = h[0] :: h.data.toList.tail := by
      cases hd : h.data.toList with
      | nil => rw [hd] at hl; simp at hl; omega
      | cons a t =>
        have : h[0] = h.data.toList[0]'(by rw [hl]; exact hs) := rfl
        simp [this, hd]
    rw [he, decide_eq_true hs]
    show ((46 : UInt8) == h[0] && ([] : List UInt8).isPrefixOf h.data.toList.tail) = _
    have e0 : ([] : List UInt8).isPrefixOf h.data.toList.tail = true := by cases h.data.toList.tail <;> rfl
    rw [e0, Bool.and_true, Bool.true_and, Bool.eq_iff_iff]
    simp only [beq_iff_eq]
    constructor
    · intro e; show ((h[0]).toNat : Int) = 46; rw [← e]; rfl
    · intro e
      have e2 : h[0].toNat = 46 := by have : ((h[0]).toNat : Int) = 46 := e; omega
      exact (UInt8.toNat_inj.1 (by rw [e2]; rfl)).symm
  · have : h.data.toList = [] := List.eq_nil_of_length_eq_zero (by omega)
    rw [this, decide_eq_false hs]
    rfl
/-- a rule of a host that begins with a point -/
theorem of_dot (h host : ByteArray) (hd : Lib.hasPrefix h.data.toList [46] = true) : ofB h host = (Lib.hasSuffix host.data.toList h.data.toList && decide ((host.size : Int) > (h.size : Int))) := by
  unfold ofB
  have : ¬ (h.toList = ([42] : List UInt8)) := by
    intro e
    rw [toList_eq] at e
    rw [e] at hd
    simp [Lib.hasPrefix] at hd
  rw [if_neg this, if_pos hd]
theorem of_plain (h host : ByteArray) (hd : Lib.hasPrefix h.data.toList [46] = false) : ofB h host = (h.toList == ([42] : List UInt8) || h.toList == host.toList) := by
  unfold ofB
  by_cases e : h.toList = ([42] : List UInt8)
  · rw [if_pos e, e]; rfl
  · have : (h.toList == ([42] : List UInt8)) = false := by simpa using e
    rw [if_neg e, hd, this]
    simp
end Go.Proofs.YtjdlaofeenblkaaDoor.X

/- What a list of rules admits: plain lemmas. -/
namespace Go.Proofs.YtjdlaofeenblkaaDoor.X
open Go.RowKit Go.Proofs.YtjdlaofeenblkaaDoorW.PrintWords Go.Proofs.YtjdlaofeenblkaaDoorW.PrintMore Go.Proofs.YtjdlaofeenblkaaDoor.T
set_option linter.unusedSimpArgs false
set_option linter.unusedVariables false
theorem adm_eq (host : ByteArray) (port : Int) (m : ByteArray) (hs : host.size ≤ 9223372036854775807) (l : List S25) (hl : l.length ≤ 9223372036854775807) (hx : ∀ x ∈ l, x.f4.length ≤ 9223372036854775807) :
    acl_Admits.f l host port m = some (admitsB host port m l) := by
  unfold acl_Admits.f
  rw [if_pos hl, admits_eq host port m hs l hx]
theorem admits_app (host : ByteArray) (port : Int) (m : ByteArray) (a b : List S25) : admitsB host port m (a ++ b) = if (a.any fun x => matchX x host port m) = true then admitsB host port m a else admitsB host port m b := by
  induction a with
  | nil => simp
  | cons x t ih =>
    simp only [List.cons_append, admitsB, List.any_cons]
    by_cases h : matchX x host port m = true
    · simp [h]
    · have h' : matchX x host port m = false := by simpa using h
      rw [if_neg h, ih]
      simp [h']
theorem admits_deny (host : ByteArray) (port : Int) (m : ByteArray) (a : List S25) (h : ∀ x ∈ a, x.f0 = false) : admitsB host port m a = false := by
  induction a with
  | nil => rfl
  | cons x t ih =>
    simp only [admitsB]
    rw [ih (fun y hy => h y (List.mem_cons_of_mem _ hy)), h x (List.mem_cons_self ..)]
    simp
theorem admits_allow (host : ByteArray) (port : Int) (m : ByteArray) (a : List S25) (h : ∀ x ∈ a, x.f0 = true) : admitsB host port m a = a.any fun x => matchX x host port m := by
  induction a with
  | nil => rfl
  | cons x t ih =>
    simp only [admitsB, List.any_cons]
    rw [ih (fun y hy => h y (List.mem_cons_of_mem _ hy)), h x (List.mem_cons_self ..)]
    cases matchX x host port m <;> simp
theorem admits_some (host : ByteArray) (port : Int) (m : ByteArray) (a : List S25) (h : admitsB host port m a = true) : ((a.filter fun x => x.f0).any fun x => matchX x host port m) = true := by
  induction a with
  | nil => cases h
  | cons x t ih =>
    simp only [admitsB] at h
    by_cases hm : matchX x host port m = true
    · rw [if_pos hm] at h
      simp [h, hm]
    · rw [if_neg hm] at h
      have := ih h
      simp only [List.filter_cons]
      split
      · simp only [List.any_cons, this, Bool.or_true]
      · exact this
theorem admits_open (host : ByteArray) (port : Int) (m : ByteArray) (a : List S25) (hd : ((a.filter fun x => !x.f0).any fun x => matchX x host port m) = false) : admitsB host port m a = (a.filter fun x => x.f0).any fun x => matchX x host port m := by
  induction a with
  | nil => rfl
  | cons x t ih =>
    simp only [admitsB]
    cases hf : x.f0 with
    | true =>
      have hd' : ((t.filter fun x => !x.f0).any fun x => matchX x host port m) = false := by simpa [hf] using hd
      rw [ih hd']
      simp only [List.filter_cons, hf, if_true, List.any_cons]
      cases matchX x host port m <;> simp
    | false =>
      simp only [List.filter_cons, hf, Bool.not_false, if_true, List.any_cons, Bool.or_eq_false_iff] at hd
      rw [ih hd.2, hd.1]
      simp [hf]
theorem filter_len {α : Type} (p : α → Bool) (l : List α) : (l.filter p).length + (l.filter fun x => !p x).length = l.length := by
  induction l with
  | nil => rfl
  | cons x t ih => simp only [List.filter_cons]; cases p x <;> simp <;> omega
theorem rd_mid (pre : List S25) (x : S25) (t : List S25) : rd_T25 (pre ++ x :: t) (pre.length : Int) = x := by
  unfold rd_T25
  rw [Int.toNat_natCast]
  simp [List.getD_eq_getElem?_getD]
end Go.Proofs.YtjdlaofeenblkaaDoor.X

/- What tollhouseref14's functions tell is what acl's tell: the plain law of AclRules. -/
namespace Go.Proofs.YtjdlaofeenblkaaDoor.X
open Go.RowKit Go.Proofs.YtjdlaofeenblkaaDoorW.PrintWords Go.Proofs.YtjdlaofeenblkaaDoorW.PrintMore Go.Proofs.YtjdlaofeenblkaaDoor.T
set_option linter.unusedSimpArgs false
set_option linter.unusedVariables false
/-! ### May -/
theorem rtoken_f (y : ByteArray) (h : y.size ≤ 4294967296) : tollhouseref02_Token.f y = some (tokenB y) := by
  unfold tollhouseref02_Token.f
  rw [if_pos (by omega)]
theorem rmay_l0 (a : Bool) (h : ByteArray) (lo hi : Int) (ms : List ByteArray) (hl : ms.length ≤ 4294967296) (hm : ∀ y ∈ ms, y.size ≤ 4294967296) : ∀ (t : List ByteArray) (i : Nat), ms.drop i = t → i ≤ ms.length →
    Ev (fun k => tollhouseref14_May.l0 k (i : Int) a h lo hi ms) (t.all tokenB)
  | [], i, ht, hle => by
    have := congrArg List.length ht
    simp at this
    refine Ev.done fun k => ?_
    simp only [tollhouseref14_May.l0]
    rw [if_neg (by omega)]; rfl
  | y :: t, i, ht, hle => by
    have hil : i < ms.length := by
      have := congrArg List.length ht
      simp at this; omega
    have hiy : ms[i]? = some y := by
      have : (ms.drop i)[0]? = some y := by rw [ht]; rfl
      rw [List.getElem?_drop] at this
      simpa using this
    have ht2 : ms.drop (i + 1) = t := by rw [← List.drop_drop, ht]; rfl
    have ih := rmay_l0 a h lo hi ms hl hm t (i + 1) ht2 (by omega)
    rw [List.all_cons]
    have hy := rtoken_f y (hm y (List.mem_of_getElem? hiy))
    cases ht : tokenB y with
    | true =>
      rw [ht] at hy
      refine Ev.step (fun k => ?_) ih
      simp only [tollhouseref14_May.l0]
      rw [if_pos (by omega), if_pos (by omega), rd_list ms i y hiy, hy]
      simp only [Option.bind_some]
      rw [if_pos trivial, wrap_succ (by omega)]
    | false =>
      rw [ht] at hy
      refine Ev.done fun k => ?_
      simp only [tollhouseref14_May.l0]
      rw [if_pos (by omega), if_pos (by omega), rd_list ms i y hiy, hy]
      simp
theorem rmay_j3 (a : Bool) (h : ByteArray) (lo hi : Int) (ms : List ByteArray) (hl : ms.length ≤ 4294967296) (hm : ∀ y ∈ ms, y.size ≤ 4294967296) (b : Bool) : Ev (fun k => tollhouseref14_May.j3 k b a h lo hi ms) (!b && ms.all tokenB) := by
  cases b with
  | true => exact Ev.done fun k => by simp only [tollhouseref14_May.j3]; rw [if_pos trivial]; rfl
  | false => exact Ev.step (fun k => by simp only [tollhouseref14_May.j3]; rw [if_neg (by decide)]; rfl) (rmay_l0 a h lo hi ms hl hm ms 0 rfl (Nat.zero_le _))
theorem rmay_j2 (a : Bool) (h : ByteArray) (lo hi : Int) (ms : List ByteArray) (hl : ms.length ≤ 4294967296) (hm : ∀ y ∈ ms, y.size ≤ 4294967296) (b : Bool) :
    Ev (fun k => tollhouseref14_May.j2 k (!b) a h lo hi ms) (b && (decide (1 ≤ lo) && decide (lo ≤ hi) && decide (hi ≤ 65535)) && decide (ms.length ≤ 8) && ms.all tokenB) := by
  cases b with
  | false => exact Ev.done fun k => by simp only [tollhouseref14_May.j2]; rw [if_pos (by decide)]; rfl
  | true =>
    have hT := rmay_j3 a h lo hi ms hl hm true
    have hD := rmay_j3 a h lo hi ms hl hm (decide ((ms.length : Int) > 8))
    by_cases h1 : lo < 1
    · rw [decide_eq_false (by omega : ¬ 1 ≤ lo)]
      exact Ev.step (fun k => by simp only [tollhouseref14_May.j2]; rw [if_neg (by decide), if_pos h1]) hT
    · by_cases h2 : hi > 65535
      · rw [decide_eq_false (by omega : ¬ hi ≤ 65535), Bool.and_false]
        exact Ev.step (fun k => by simp only [tollhouseref14_May.j2]; rw [if_neg (by decide), if_neg h1, if_pos h2]) hT
      · by_cases h3 : lo > hi
        · rw [decide_eq_false (by omega : ¬ lo ≤ hi), Bool.and_false]
          exact Ev.step (fun k => by simp only [tollhouseref14_May.j2]; rw [if_neg (by decide), if_neg h1, if_neg h2, if_pos h3]) hT
        · rw [decide_eq_true (by omega : 1 ≤ lo), decide_eq_true (by omega : lo ≤ hi), decide_eq_true (by omega : hi ≤ 65535)]
          have e : (!decide ((ms.length : Int) > 8)) = decide (ms.length ≤ 8) := by
            by_cases h4 : ms.length ≤ 8
            · rw [decide_eq_true h4, decide_eq_false (by omega)]; rfl
            · rw [decide_eq_false h4, decide_eq_true (by omega)]; rfl
          rw [e] at hD
          simp only [Bool.true_and]
          exact Ev.step (fun k => by simp only [tollhouseref14_May.j2]; rw [if_neg (by decide), if_neg h1, if_neg h2, if_neg h3]) hD
theorem named_none : namedB ⟨#[]⟩ = false := by decide +kernel
theorem named_dot : namedB ⟨#[46]⟩ = false := by decide +kernel
theorem trim_is (h : ByteArray) (hd : Lib.hasPrefix h.data.toList [46] = true) : (⟨(Lib.trimPrefix h.data.toList [46]).toArray⟩ : ByteArray) = h.extract 1 h.size := by
  have e : Lib.trimPrefix h.data.toList [46] = h.data.toList.drop 1 := by unfold Lib.trimPrefix; rw [if_pos hd]; rfl
  rw [e]
  exact (bytes_eq _ _ (Lib.extract_to_end h 1)).symm
theorem trim_not (h : ByteArray) (hd : Lib.hasPrefix h.data.toList [46] = false) : (⟨(Lib.trimPrefix h.data.toList [46]).toArray⟩ : ByteArray) = h := by
  have e : Lib.trimPrefix h.data.toList [46] = h.data.toList := by unfold Lib.trimPrefix; rw [if_neg (by rw [hd]; decide)]
  rw [e]
theorem rmay_ev (a : Bool) (h : ByteArray) (lo hi : Int) (ms : List ByteArray) (hh : h.size ≤ 4294967296) (hl : ms.length ≤ 4294967296) (hm : ∀ y ∈ ms, y.size ≤ 4294967296) : Ev (fun k => tollhouseref14_May.f k a h lo hi ms) (mayB a h lo hi ms) := by
  have j1 : ∀ x : ByteArray, x.size ≤ 4294967296 → (h.data.toList ≠ [42] → namedB x = namedB ⟨(Lib.trimPrefix h.data.toList [46]).toArray⟩) → Ev (fun k => tollhouseref14_May.j1 k x a h lo hi ms) (mayB a h lo hi ms) := by
    intro x hx hn
    have hT := rmay_j2 a h lo hi ms hl hm true
    have hN := rmay_j2 a h lo hi ms hl hm (namedB x)
    unfold mayB hostMay
    by_cases h42 : h.data.toList = [42]
    · have e : (h.data.toList == [42]) = true := by simpa using h42
      rw [e, Bool.true_or]
      exact Ev.step (fun k => by simp only [tollhouseref14_May.j1]; rw [toList_eq, if_pos h42]; rfl) hT
    · have e : (h.data.toList == [42]) = false := by simpa using h42
      rw [e, Bool.false_or, ← hn h42]
      refine Ev.step (g := fun k => (tollhouseref10_Named.f k x).bind fun b => tollhouseref14_May.j2 k (!b) a h lo hi ms) (fun k => ?_) (Ev.bind (rnamed_ev x hx) hN)
      simp only [tollhouseref14_May.j1]
      rw [toList_eq, if_neg h42]
  have hd := dot_prefix h
  by_cases h1 : (h.size : Int) > 1
  · rw [decide_eq_true (by omega : 0 < h.size), Bool.true_and] at hd
    refine Ev.same (g := fun k => tollhouseref14_May.j0 k h (Lib.hasPrefix h.data.toList [46]) a h lo hi ms) (fun k => ?_) ?_
    · unfold tollhouseref14_May.f
      rw [if_pos h1, if_pos (by omega), hd]
    · cases hp : Lib.hasPrefix h.data.toList [46] with
      | true =>
        refine Ev.step (fun k => by simp only [tollhouseref14_May.j0]; rw [if_pos trivial, if_pos (by omega)]) (j1 (h.extract 1 h.size) (by rw [ByteArray.size_extract]; omega) (fun _ => ?_))
        rw [trim_is h hp]
      | false =>
        refine Ev.step (fun k => by simp only [tollhouseref14_May.j0]; rw [if_neg (by decide)]) (j1 h hh (fun _ => ?_))
        rw [trim_not h hp]
  · refine Ev.same (g := fun k => tollhouseref14_May.j0 k h false a h lo hi ms) (fun k => ?_) ?_
    · unfold tollhouseref14_May.f
      rw [if_neg h1]
    · refine Ev.step (fun k => by simp only [tollhouseref14_May.j0]; rw [if_neg (by decide)]) (j1 h hh (fun _ => ?_))
      cases hp : Lib.hasPrefix h.data.toList [46] with
      | false => rw [trim_not h hp]
      | true =>
        have hz := size_toList h
        have e : h = ⟨#[46]⟩ := by
          refine bytes_eq h [46] ?_
          match hl : h.data.toList, hp, hz with
          | [], hp, _ => cases hp
          | [c], hp, _ =>
            have : (46 : UInt8) = c := by simpa [Lib.hasPrefix, List.isPrefixOf] using hp
            rw [this]
          | _ :: _ :: _, _, hz => simp at hz; omega
        rw [e]
        have e2 : (⟨(Lib.trimPrefix (⟨#[46]⟩ : ByteArray).data.toList [46]).toArray⟩ : ByteArray) = ⟨#[]⟩ := rfl
        rw [e2, named_none, named_dot]
/-! ### All -/
def sizedR (x : S25) : Prop := x.f1.size ≤ 4294960000 ∧ x.f4.length ≤ 4294960000 ∧ ∀ y ∈ x.f4, y.size ≤ 4294960000
theorem rd_rule (l : List S25) (i : Nat) (x : S25) (h : l[i]? = some x) : rd_T25 l (i : Int) = x := by
  unfold rd_T25
  rw [Int.toNat_natCast, List.getD_eq_getElem?_getD, h]; rfl
theorem rall_go (l : List S25) (hl : l.length ≤ 4294960000) (hx : ∀ x ∈ l, sizedR x) : ∀ (t : List S25) (i : Nat), l.drop i = t → i ≤ l.length →
    Ev (fun k => tollhouseref14_All.l0 k l (i : Int)) (decide (l.length ≤ 16) && t.all mayR)
  | [], i, ht, hi => by
    have := congrArg List.length ht
    simp at this
    refine Ev.done fun k => ?_
    simp only [tollhouseref14_All.l0]
    rw [if_neg (by omega)]
    have e : decide ((l.length : Int) ≤ 16) = decide (l.length ≤ 16) := by
      by_cases h : l.length ≤ 16
      · rw [decide_eq_true h, decide_eq_true (by omega)]
      · rw [decide_eq_false h, decide_eq_false (by omega)]
    rw [e]; simp
  | x :: t, i, ht, hi => by
    have hil : i < l.length := by
      have := congrArg List.length ht
      simp at this; omega
    have hix : l[i]? = some x := by
      have : (l.drop i)[0]? = some x := by rw [ht]; rfl
      rw [List.getElem?_drop] at this
      simpa using this
    have ht2 : l.drop (i + 1) = t := by rw [← List.drop_drop, ht]; rfl
    have ih := rall_go l hl hx t (i + 1) ht2 (by omega)
    obtain ⟨z1, z2, z3⟩ := hx x (List.mem_of_getElem? hix)
    have hm := rmay_ev x.f0 x.f1 x.f2 x.f3 x.f4 (by omega) (by omega) (fun y hy => by have := z3 y hy; omega)
    have er : mayB x.f0 x.f1 x.f2 x.f3 x.f4 = mayR x := rfl
    rw [er] at hm
    rw [List.all_cons]
    refine Ev.step (g := fun k => (tollhouseref14_May.f k x.f0 x.f1 x.f2 x.f3 x.f4).bind fun b => if b = true then tollhouseref14_All.l0 k l ((i + 1 : Nat) : Int) else some false) (fun k => ?_) (Ev.bind hm ?_)
    · simp only [tollhouseref14_All.l0]
      rw [if_pos (by omega), if_pos (by omega), rd_rule l i x hix, wrap_succ (by omega)]
    · cases mayR x with
      | true => exact Ev.same (fun k => if_pos rfl) (by simpa using ih)
      | false => exact Ev.const fun k => by rw [if_neg (by decide)]; simp
theorem rall_ev (l : List S25) (hl : l.length ≤ 4294960000) (hx : ∀ x ∈ l, sizedR x) : Ev (fun k => tollhouseref14_All.f k l) (allB l) := rall_go l hl hx l 0 rfl (Nat.zero_le _)
/-! ### Matches -/
theorem rmatch_l0 (m : ByteArray) (a : Bool) (h : ByteArray) (lo hi : Int) (ms : List ByteArray) (hl : ms.length ≤ 4294967296) : ∀ (t : List ByteArray) (i : Nat), ms.drop i = t → i ≤ ms.length →
    Ev (fun k => tollhouseref14_Matches.l0 k m (i : Int) a h lo hi ms) (t.any (fun y => y.toList == m.toList) || decide (ms.length = 0))
  | [], i, ht, hle => by
    have := congrArg List.length ht
    simp at this
    refine Ev.done fun k => ?_
    simp only [tollhouseref14_Matches.l0]
    rw [if_neg (by omega)]
    by_cases h0 : ms.length = 0
    · rw [decide_eq_true h0, h0]; rfl
    · rw [decide_eq_false h0]
      have : ((ms.length : Int) == 0) = false := by simp; exact fun e => h0 (by rw [e]; rfl)
      rw [this]; rfl
  | y :: t, i, ht, hle => by
    have hil : i < ms.length := by
      have := congrArg List.length ht
      simp at this; omega
    have hiy : ms[i]? = some y := by
      have : (ms.drop i)[0]? = some y := by rw [ht]; rfl
      rw [List.getElem?_drop] at this
      simpa using this
    have ht2 : ms.drop (i + 1) = t := by rw [← List.drop_drop, ht]; rfl
    have ih := rmatch_l0 m a h lo hi ms hl t (i + 1) ht2 (by omega)
    rw [List.any_cons]
    by_cases he : y.toList = m.toList
    · have e : (y.toList == m.toList) = true := by simpa using he
      rw [e]
      refine Ev.done fun k => ?_
      simp only [tollhouseref14_Matches.l0]
      rw [if_pos (by omega), if_pos (by omega), rd_list ms i y hiy, if_pos he]; rfl
    · have e : (y.toList == m.toList) = false := by simpa using he
      rw [e, Bool.false_or]
      refine Ev.step (fun k => ?_) ih
      simp only [tollhouseref14_Matches.l0]
      rw [if_pos (by omega), if_pos (by omega), rd_list ms i y hiy, if_neg he, wrap_succ (by omega)]
theorem contains_any (ms : List ByteArray) (m : ByteArray) : ms.any (fun y => y.toList == m.toList) = Lib.containsS ms m := by
  rw [Bool.eq_iff_iff, Lib.containsS_iff, List.any_eq_true]
  constructor
  · rintro ⟨y, hy, e⟩
    have e2 : y.data.toList = m.data.toList := by rw [toList_eq, toList_eq] at e; simpa using e
    have : y = m := by
      cases y; cases m
      simp only at e2
      congr 1
      exact Array.ext' e2
    rw [← this]; exact hy
  · intro hm
    exact ⟨m, hm, by simp⟩
theorem suffix_drop (l p : List UInt8) (h : p.length ≤ l.length) : Lib.hasSuffix l p = (l.drop (l.length - p.length) == p) := by
  unfold Lib.hasSuffix
  rw [Bool.eq_iff_iff, List.isSuffixOf_iff_suffix]
  simp only [beq_iff_eq]
  constructor
  · rintro ⟨u, rfl⟩
    simp
  · intro e
    exact ⟨l.take (l.length - p.length), by conv => rhs; rw [← List.take_append_drop (l.length - p.length) l, e]⟩
theorem rmatch_ev (a : Bool) (h : ByteArray) (lo hi : Int) (ms : List ByteArray) (host : ByteArray) (port : Int) (m : ByteArray) (hh : h.size ≤ 4294967296) (hl : ms.length ≤ 4294967296) (hs : host.size ≤ 4294967296) :
    Ev (fun k => tollhouseref14_Matches.f k a h lo hi ms host port m) (matchB h lo hi ms host port m) := by
  have R : Ev (fun k => tollhouseref14_Matches.l0 k m ((0 : Nat) : Int) a h lo hi ms) (decide (ms.length = 0) || Lib.containsS ms m) := by
    have := rmatch_l0 m a h lo hi ms hl ms 0 rfl (Nat.zero_le _)
    rw [contains_any, Bool.or_comm] at this
    exact this
  generalize hr : (decide (ms.length = 0) || Lib.containsS ms m) = r at R
  have J3 : ∀ b : Bool, Ev (fun k => tollhouseref14_Matches.j3 k m b a h lo hi ms) (b && r) := by
    intro b
    cases b with
    | true => exact Ev.step (fun k => by simp only [tollhouseref14_Matches.j3]; rw [if_pos trivial]) (by rw [Bool.true_and]; exact R)
    | false => exact Ev.done fun k => by simp only [tollhouseref14_Matches.j3]; rw [if_neg (by decide)] <;> rfl
  have J2 : ∀ b c : Bool, Ev (fun k => tollhouseref14_Matches.j2 k m b c a h lo hi ms) ((c || b) && r) := by
    intro b c
    cases c with
    | true => exact Ev.step (fun k => by simp only [tollhouseref14_Matches.j2]; rw [if_pos trivial]) (by rw [Bool.true_or]; exact J3 true)
    | false => exact Ev.step (fun k => by simp only [tollhouseref14_Matches.j2]; rw [if_neg (by decide)]) (by rw [Bool.false_or]; exact J3 b)
  have hd := dot_prefix h
  have hz := size_toList h
  have hzo := size_toList host
  have J1 : ∀ b : Bool, Ev (fun k => tollhouseref14_Matches.j1 k host m b a h lo hi ms) (((Lib.hasPrefix h.data.toList [46] && (Lib.hasSuffix host.data.toList h.data.toList && decide ((host.size : Int) > (h.size : Int)))) || b) && r) := by
    intro b
    by_cases h0 : (h.size : Int) > 0
    · rw [decide_eq_true (by omega : 0 < h.size), Bool.true_and] at hd
      by_cases h46 : bt h 0 = 46
      · rw [h46] at hd
        rw [hd]
        have hw : wrap64 ((host.size : Int) - (h.size : Int)) = (host.size : Int) - (h.size : Int) := by unfold wrap64; omega
        by_cases hgt : (host.size : Int) - (h.size : Int) > 0
        · rw [decide_eq_true (by omega : (host.size : Int) > (h.size : Int))]
          have e : ((host.extract ((host.size : Int) - (h.size : Int)).toNat host.size).toList == h.toList) = Lib.hasSuffix host.data.toList h.data.toList := by
            rw [suffix_drop _ _ (by omega), toList_eq, toList_eq, Lib.extract_to_end]
            have : ((host.size : Int) - (h.size : Int)).toNat = host.data.toList.length - h.data.toList.length := by omega
            rw [this]
          have := J2 b (Lib.hasSuffix host.data.toList h.data.toList)
          simp only [beq_self_eq_true, Bool.true_and, Bool.and_true]
          refine Ev.step (fun k => ?_) this
          simp only [tollhouseref14_Matches.j1]
          rw [if_pos h0, if_pos (by omega), if_pos h46, hw, if_pos hgt, if_pos (by omega), if_pos (by omega), e]
        · rw [decide_eq_false (by omega : ¬ (host.size : Int) > (h.size : Int))]
          have := J2 b false
          simp only [Bool.and_false]
          refine Ev.step (fun k => ?_) this
          simp only [tollhouseref14_Matches.j1]
          rw [if_pos h0, if_pos (by omega), if_pos h46, hw, if_neg hgt]
      · have e : (bt h 0 == 46) = false := by simpa using h46
        rw [e] at hd
        rw [hd]
        have := J2 b false
        simp only [Bool.false_and]
        refine Ev.step (fun k => ?_) this
        simp only [tollhouseref14_Matches.j1]
        rw [if_pos h0, if_pos (by omega), if_neg h46]
    · rw [decide_eq_false (by omega : ¬ 0 < h.size), Bool.false_and] at hd
      rw [hd]
      have := J2 b false
      simp only [Bool.false_and]
      refine Ev.step (fun k => ?_) this
      simp only [tollhouseref14_Matches.j1]
      rw [if_neg h0]
  have J0 : Ev (fun k => tollhouseref14_Matches.j0 k host m false a h lo hi ms) (ofB h host && r) := by
    by_cases h42 : h.toList = ([42] : List UInt8)
    · have e : ofB h host = true := by unfold ofB; rw [if_pos h42]
      have := J1 true
      rw [Bool.or_true] at this
      rw [e]
      exact Ev.step (fun k => by simp only [tollhouseref14_Matches.j0]; rw [if_neg (by decide), if_pos h42]) this
    · have key : ∀ b : Bool, (Lib.hasPrefix h.data.toList [46] = false → b = (h.toList == host.toList)) → (Lib.hasPrefix h.data.toList [46] = true → b = false) → ((Lib.hasPrefix h.data.toList [46] && (Lib.hasSuffix host.data.toList h.data.toList && decide ((host.size : Int) > (h.size : Int)))) || b) = ofB h host := by
        intro b h1 h2
        unfold ofB
        rw [if_neg h42]
        cases hp : Lib.hasPrefix h.data.toList [46] with
        | true => rw [if_pos rfl, h2 hp]; simp
        | false => rw [if_neg (by decide), h1 hp]; simp
      have hho := dot_prefix host
      by_cases heq : h.toList = host.toList
      · have heq2 : h.data.toList = host.data.toList := by rw [← toList_eq, ← toList_eq]; exact heq
        rw [← heq2] at hho
        by_cases h0 : (host.size : Int) > 0
        · rw [decide_eq_true (by omega : 0 < host.size), Bool.true_and] at hho
          have := J1 (!(bt host 0 == 46))
          rw [key _ (fun hp => by rw [← hho, hp, heq]; simp) (fun hp => by rw [← hho, hp]; rfl)] at this
          exact Ev.step (fun k => by simp only [tollhouseref14_Matches.j0]; rw [if_neg (by decide), if_neg h42, if_pos heq, if_pos h0, if_pos (by omega)]) this
        · rw [decide_eq_false (by omega : ¬ 0 < host.size), Bool.false_and] at hho
          have := J1 (!false)
          rw [key _ (fun hp => by rw [heq]; simp) (fun hp => by rw [hho] at hp; cases hp)] at this
          exact Ev.step (fun k => by simp only [tollhouseref14_Matches.j0]; rw [if_neg (by decide), if_neg h42, if_pos heq, if_neg h0]) this
      · have := J1 false
        rw [key _ (fun hp => by symm; simpa using heq) (fun _ => rfl)] at this
        exact Ev.step (fun k => by simp only [tollhouseref14_Matches.j0]; rw [if_neg (by decide), if_neg h42, if_neg heq]) this
  have JT : Ev (fun k => tollhouseref14_Matches.j0 k host m true a h lo hi ms) false := Ev.done fun k => by simp only [tollhouseref14_Matches.j0]; rw [if_pos trivial]
  unfold matchB
  rw [hr]
  by_cases h1 : port < lo
  · rw [decide_eq_false (by omega : ¬ lo ≤ port), Bool.false_and, Bool.and_false]
    exact Ev.same (fun k => by unfold tollhouseref14_Matches.f; rw [if_pos h1]) JT
  · by_cases h2 : port > hi
    · rw [decide_eq_false (by omega : ¬ port ≤ hi), Bool.false_and, Bool.and_false, Bool.and_false]
      exact Ev.same (fun k => by unfold tollhouseref14_Matches.f; rw [if_neg h1, decide_eq_true h2]) JT
    · rw [decide_eq_true (by omega : lo ≤ port), decide_eq_true (by omega : port ≤ hi), Bool.true_and, Bool.true_and]
      exact Ev.same (fun k => by unfold tollhouseref14_Matches.f; rw [if_neg h1, decide_eq_false h2]) J0
/-! ### Admits -/
theorem radm_go (host : ByteArray) (port : Int) (m : ByteArray) (hs : host.size ≤ 4294967296) (l : List S25) (hl : l.length ≤ 4294960000) (hx : ∀ x ∈ l, sizedR x) : ∀ (t : List S25) (i : Nat), l.drop i = t → i ≤ l.length →
    Ev (fun k => tollhouseref14_Admits.l0 k l host port m (i : Int)) (admitsB host port m t)
  | [], i, ht, hi => by
    have := congrArg List.length ht
    simp at this
    refine Ev.done fun k => ?_
    simp only [tollhouseref14_Admits.l0]
    rw [if_neg (by omega)]; rfl
  | x :: t, i, ht, hi => by
    have hil : i < l.length := by
      have := congrArg List.length ht
      simp at this; omega
    have hix : l[i]? = some x := by
      have : (l.drop i)[0]? = some x := by rw [ht]; rfl
      rw [List.getElem?_drop] at this
      simpa using this
    have ht2 : l.drop (i + 1) = t := by rw [← List.drop_drop, ht]; rfl
    have ih := radm_go host port m hs l hl hx t (i + 1) ht2 (by omega)
    obtain ⟨z1, z2, z3⟩ := hx x (List.mem_of_getElem? hix)
    have hm := rmatch_ev x.f0 x.f1 x.f2 x.f3 x.f4 host port m (by omega) (by omega) hs
    have er : matchB x.f1 x.f2 x.f3 x.f4 host port m = matchX x host port m := rfl
    rw [er] at hm
    refine Ev.step (g := fun k => (tollhouseref14_Matches.f k x.f0 x.f1 x.f2 x.f3 x.f4 host port m).bind fun b => if b = true then some x.f0 else tollhouseref14_Admits.l0 k l host port m ((i + 1 : Nat) : Int)) (fun k => ?_) (Ev.bind hm ?_)
    · simp only [tollhouseref14_Admits.l0]
      rw [if_pos (by omega), if_pos (by omega), rd_rule l i x hix, wrap_succ (by omega)]
    · simp only [admitsB]
      by_cases hb : matchX x host port m = true
      · rw [if_pos hb]
        exact Ev.const fun k => if_pos hb
      · rw [if_neg hb]
        exact Ev.same (fun k => if_neg hb) ih
theorem AclRules_pure (l : List S25) (hl : l.length ≤ 1048576) (hx : ∀ x ∈ l, sizedR x) (a : Bool) (h : ByteArray) (lo hi : Int) (ms : List ByteArray) (z1 : h.size ≤ 1048576) (z2 : ms.length ≤ 1048576) (z3 : ∀ y ∈ ms, y.size ≤ 1048576) (host : ByteArray) (port : Int) (m : ByteArray) (hs : host.size ≤ 1048576) :
    ∃ k, tollhouselaw14_AclRules.f k l a h lo hi ms host port m = some true := by
  have e1 : acl_May.f a h lo hi ms = some (mayB a h lo hi ms) := by
    unfold acl_May.f
    rw [if_pos ⟨by omega, by
      unfold fitsM
      rw [List.all_eq_true]
      intro y hy
      have := z3 y hy
      exact decide_eq_true (by omega), by omega⟩]
  have e2 := rmay_ev a h lo hi ms (by omega) (by omega) (fun y hy => by have := z3 y hy; omega)
  have e3 : acl_All.f l = some (allB l) := by
    unfold acl_All.f
    rw [if_pos ⟨by
      rw [List.all_eq_true]
      intro x hx2
      obtain ⟨y1, y2, y3⟩ := hx x hx2
      unfold fitsR fitsM
      rw [decide_eq_true (by omega), decide_eq_true (by omega), Bool.true_and, Bool.and_true, List.all_eq_true]
      intro y hy
      have := y3 y hy
      exact decide_eq_true (by omega), by omega⟩]
  have e4 := rall_ev l (by omega) hx
  have e5 : acl_Matches.f a h lo hi ms host port m = some (matchB h lo hi ms host port m) := matches_eq _ _ _ _ _ _ _ _ (by omega) (by omega)
  have e6 := rmatch_ev a h lo hi ms host port m (by omega) (by omega) (by omega)
  have e7 : acl_Admits.f l host port m = some (admitsB host port m l) := adm_eq host port m (by omega) l (by omega) (fun x hx2 => by have := (hx x hx2).2.1; omega)
  have e8 : Ev (fun k => tollhouseref14_Admits.f k l host port m) (admitsB host port m l) := radm_go host port m (by omega) l (by omega) hx l 0 rfl (Nat.zero_le _)
  obtain ⟨K2, h2⟩ := e2
  obtain ⟨K4, h4⟩ := e4
  obtain ⟨K6, h6⟩ := e6
  obtain ⟨K8, h8⟩ := e8
  refine ⟨K2 + K4 + K6 + K8, ?_⟩
  have g2 := h2 (K2 + K4 + K6 + K8) (by omega)
  have g4 := h4 (K2 + K4 + K6 + K8) (by omega)
  have g6 := h6 (K2 + K4 + K6 + K8) (by omega)
  have g8 := h8 (K2 + K4 + K6 + K8) (by omega)
  simp only at g2 g4 g6 g8
  unfold tollhouselaw14_AclRules.f
  rw [e1, e3, e5, e7, g2, g4, g6, g8, wakes14]
  simp
end Go.Proofs.YtjdlaofeenblkaaDoor.X

namespace Go.Proofs.YtjdlaofeenblkaaDoor.aclRules
open Go.ChangeShapes Go.WideShapes Go.ChangeAt Go.RowKit Go.Proofs.YtjdlaofeenblkaaDoor Go.Proofs.YtjdlaofeenblkaaDoor.L Go.Proofs.YtjdlaofeenblkaaDoor.T Go.Proofs.YtjdlaofeenblkaaDoorW.PrintWords
set_option linter.unusedVariables false
set_option linter.unusedSimpArgs false
set_option maxRecDepth 100000
theorem own : ownKnob Tryd.prog.godebug = none := by kernel_rfl
theorem laidOut : laidOutB Tryd.prog = true := by kernel_rfl
/-- For every argument and every world that holds the listed variables. -/
theorem contract (H : Type) (enc : TypeId × Value → H) (W : World) (base : Nat) (args : Array Value) (ds gs : List (DataW H)) (before : List MemPlace)
    (hval : ∀ (j : Nat) t v, Tryd.f3.params[j]? = some t → args[j]? = some v → Value.okWide Tryd.prog W .any base t v)
    (hW : DataW.Whole enc Tryd.prog Tryd.f3.params.toList Rows.aclRulesSpec.vars false W args.toList ds gs before) (B : Nat) (hB : B ≤ 1048576) (hk : Rows.uptoBulkAll (ds ++ gs) ≤ B) (hL : laidMetH Tryd.prog laidL W) (hS : W.ShapedOpen Tryd.prog) :
    Calls Tryd.prog 3 args W fun e W' => ∃ v, e = .returned v ∧ Rows.aclRulesSpec.post enc Tryd.prog Tryd.f3 false true false false W args v W' := by
  have hG : Glob W := L.glob hL hS
  have hW' := hW
  obtain ⟨p, q, hA0, hV, rfl, hfz, hnd⟩ := hW
  have hA : DataW.TrodAll enc Tryd.prog W 0 (fun _ => true) true Tryd.f3.params.toList args.toList ds p := hA0
  rw [Tryd.params3] at hA hval
  obtain ⟨v0, vs0, d0, ds0, p0, q0, hargs, rfl, rfl, h0, r0⟩ := trodAll_cons hA
  obtain ⟨v1, vs1, d1, ds1, p1, q1, rfl, rfl, rfl, h1, r1⟩ := trodAll_cons r0
  obtain ⟨v2, vs2, d2, ds2, p2, q2, rfl, rfl, rfl, h2, r2⟩ := trodAll_cons r1
  obtain ⟨v3, vs3, d3, ds3, p3, q3, rfl, rfl, rfl, h3, r3⟩ := trodAll_cons r2
  obtain ⟨v4, vs4, d4, ds4, p4, q4, rfl, rfl, rfl, h4, r4⟩ := trodAll_cons r3
  obtain ⟨rfl, rfl, rfl⟩ := trodAll_nil r4
  obtain rfl : args = #[v0, v1, v2, v3, v4] := by cases args; simp_all
  obtain ⟨rfl, rfl⟩ := trodVars_none hV
  clear hA0
  simp only [List.cons_append, List.nil_append, List.append_nil, Rows.uptoBulkAll] at hk
  have k0 := h0
  have lt0 : ∀ x ∈ p0, x.block < W.heap.size := by obtain ⟨m, hm⟩ := k0; exact DataW.trod_lt m _ _ _ hm
  obtain ⟨fu0, hf0⟩ := h0
  obtain ⟨a0, K0, G0⟩ := (X.opens_slice Tryd.underlying22 (by kernel_rfl) X.opens_rule) H enc W _ _ fu0 _ _ hf0
  replace G0 := G0 B (show Rows.uptoBulk d0 ≤ B by omega)
  have hv0 : Value.okWide Tryd.prog W .any base 22 v0 := hval 0 22 v0 (by simp only [List.getElem?_toArray, List.getElem?_cons_zero, List.getElem?_cons_succ]) (by simp only [List.getElem?_toArray, List.getElem?_cons_zero, List.getElem?_cons_succ])
  obtain ⟨ad0, len0, cap0, rfl⟩ := okWide_slice Tryd.underlying22 hv0
  obtain ⟨A0, c0, e0, l0, C0⟩ := K0
  injection (show [Value.slice ad0 len0 cap0] = [Value.slice A0 a0.length c0] from e0) with e0 _
  injection e0 with ea0 eb0 ec0; subst ea0 eb0 ec0
  have k1 := h1
  have lt1 : ∀ x ∈ p1, x.block < W.heap.size := by obtain ⟨m, hm⟩ := k1; exact DataW.trod_lt m _ _ _ hm
  obtain ⟨fu1, hf1⟩ := h1
  obtain ⟨a1, K1, G1⟩ := X.opens_rule H enc W _ _ fu1 _ _ hf1
  replace G1 := G1 B (show Rows.uptoBulk d1 ≤ B by omega)
  have hv1 : Value.okWide Tryd.prog W .any base 25 v1 := hval 1 25 v1 (by simp only [List.getElem?_toArray, List.getElem?_cons_zero, List.getElem?_cons_succ]) (by simp only [List.getElem?_toArray, List.getElem?_cons_zero, List.getElem?_cons_succ])
  obtain ⟨cs1, rfl, _⟩ := okWide_struct Tryd.underlying25 hv1
  obtain ⟨A1_4, c1_4, hcs1, l1_4, C1_4⟩ := X.k25_open K1
  have ecs1 : cs1 = List.toArray _ := (Array.toArray_toList (xs := cs1)).symm.trans (congrArg List.toArray hcs1)
  subst ecs1
  have k2 := h2
  have lt2 : ∀ x ∈ p2, x.block < W.heap.size := by obtain ⟨m, hm⟩ := k2; exact DataW.trod_lt m _ _ _ hm
  obtain ⟨fu2, hf2⟩ := h2
  obtain ⟨a2, K2, G2⟩ := (X.opens_string Tryd.underlying9) H enc W _ _ fu2 _ _ hf2
  replace G2 := G2 B (show Rows.uptoBulk d2 ≤ B by omega)
  have hv2 : Value.okWide Tryd.prog W .any base 9 v2 := hval 2 9 v2 (by simp only [List.getElem?_toArray, List.getElem?_cons_zero, List.getElem?_cons_succ]) (by simp only [List.getElem?_toArray, List.getElem?_cons_zero, List.getElem?_cons_succ])
  obtain ⟨x2, rfl⟩ := okWide_string Tryd.underlying9 hv2
  obtain rfl : a2 = x2 := (show x2 = a2 by simpa [Kd.int, Kd.bool, Kd.string, Kd.scalar, Value.cells] using K2).symm
  have k3 := h3
  have lt3 : ∀ x ∈ p3, x.block < W.heap.size := by obtain ⟨m, hm⟩ := k3; exact DataW.trod_lt m _ _ _ hm
  obtain ⟨fu3, hf3⟩ := h3
  obtain ⟨a3, K3, G3⟩ := (X.opens_int Tryd.underlying3) H enc W _ _ fu3 _ _ hf3
  replace G3 := G3 B (show Rows.uptoBulk d3 ≤ B by omega)
  have hv3 : Value.okWide Tryd.prog W .any base 3 v3 := hval 3 3 v3 (by simp only [List.getElem?_toArray, List.getElem?_cons_zero, List.getElem?_cons_succ]) (by simp only [List.getElem?_toArray, List.getElem?_cons_zero, List.getElem?_cons_succ])
  obtain ⟨x3, rfl⟩ := okWide_int Tryd.underlying3 hv3
  obtain rfl : a3 = x3 := (show x3 = a3 by simpa [Kd.int, Kd.bool, Kd.string, Kd.scalar, Value.cells] using K3).symm
  have k4 := h4
  have lt4 : ∀ x ∈ p4, x.block < W.heap.size := by obtain ⟨m, hm⟩ := k4; exact DataW.trod_lt m _ _ _ hm
  obtain ⟨fu4, hf4⟩ := h4
  obtain ⟨a4, K4, G4⟩ := (X.opens_string Tryd.underlying9) H enc W _ _ fu4 _ _ hf4
  replace G4 := G4 B (show Rows.uptoBulk d4 ≤ B by omega)
  have hv4 : Value.okWide Tryd.prog W .any base 9 v4 := hval 4 9 v4 (by simp only [List.getElem?_toArray, List.getElem?_cons_zero, List.getElem?_cons_succ]) (by simp only [List.getElem?_toArray, List.getElem?_cons_zero, List.getElem?_cons_succ])
  obtain ⟨x4, rfl⟩ := okWide_string Tryd.underlying9 hv4
  obtain rfl : a4 = x4 := (show x4 = a4 by simpa [Kd.int, Kd.bool, Kd.string, Kd.scalar, Value.cells] using K4).symm
  obtain ⟨k_, hp⟩ := X.AclRules_pure a0 (Nat.le_trans G0.1 hB) (fun x hx => ⟨Nat.le_trans (G0.2 x hx).2.1 (by omega), Nat.le_trans (G0.2 x hx).2.2.2.2.1 (by omega), fun y hy => Nat.le_trans ((G0.2 x hx).2.2.2.2.2 y hy) (by omega)⟩) a1.f0 a1.f1 a1.f2 a1.f3 a1.f4 (Nat.le_trans G1.2.1 hB) (Nat.le_trans G1.2.2.2.2.1 hB) (fun y hy => Nat.le_trans (G1.2.2.2.2.2 y hy) hB) a2 a3 a4 (Nat.le_trans G2 hB)
  refine (X.tollhouselaw14_AclRules.calls _ _ _ _ _ _ _ _ _ _ _ _ _ _ _ _ C0 l0 C1_4 l1_4 hG hp).mono ?_
  rintro e W' ⟨he, bel0⟩
  have bel : Below W.heap.size W W' := bel0
  subst he
  exact ⟨_, rfl, _, _, _, [], _, [], hW', trodAll_mk1 (shut_bool Tryd.underlying4 _), (trodAll_cons_mk (Below.trod laidOut (by kernel_rfl) (of_decide_eq_true (by kernel_rfl)) k0 bel lt0) (trodAll_cons_mk (Below.trod laidOut (by kernel_rfl) (of_decide_eq_true (by kernel_rfl)) k1 bel lt1) (trodAll_cons_mk (Below.trod laidOut (by kernel_rfl) (of_decide_eq_true (by kernel_rfl)) k2 bel lt2) (trodAll_cons_mk (Below.trod laidOut (by kernel_rfl) (of_decide_eq_true (by kernel_rfl)) k3 bel lt3) (trodAll_cons_mk (Below.trod laidOut (by kernel_rfl) (of_decide_eq_true (by kernel_rfl)) k4 bel lt4) trodAll_mk0))))), rfl, bel.frame _, fun h => by cases h⟩
theorem reads (os : Os) {H : Type} (enc : TypeId × Value → H) : ∃ places, DataW.whole enc Tryd.prog ((laidWorld os).forCall (fun _ _ => 0) ⟨#[], #[.slice none 0 0, .agg #[.bool false, .string ByteArray.empty, .int .i64 0, .int .i64 0, .slice none 0 0], .string ByteArray.empty, .int .i64 0, .string ByteArray.empty], []⟩).memory Tryd.f3.params.toList Rows.aclRulesSpec.vars false (#[.slice none 0 0, .agg #[.bool false, .string ByteArray.empty, .int .i64 0, .int .i64 0, .slice none 0 0], .string ByteArray.empty, .int .i64 0, .string ByteArray.empty] : Array Value).toList 8 = some ([.nil, .agg [.lit (.bool false), .lit (.string []), .lit (.int .i64 0), .lit (.int .i64 0), .nil], .lit (.string []), .lit (.int .i64 0), .lit (.string [])], [], places) :=
  ⟨[], by kernel_rfl⟩
theorem liftedUpto (os : Os) (started : os.Started) (H : Type) (enc : TypeId × Value → H) (F : Stop.Interp) :
    ReturnsInHanded {} Tryd.checked os 3 .any ((Rows.OpenSpec.upto Rows.aclRulesSpec).preRow enc Tryd.prog Tryd.f3 Rows.aclRulesUptoRow.domain false Rows.aclRulesUptoRow.laid) (((Rows.OpenSpec.upto Rows.aclRulesSpec).at F).post enc Tryd.prog Tryd.f3 false true false false) := by
  obtain ⟨places, hx⟩ := reads os enc
  refine returnsInHanded_of_row (C := Tryd.checked) (s := Rows.OpenSpec.upto Rows.aclRulesSpec) own started (by kernel_rfl) Tryd.func3
    (witness_row_atRef (enc := enc) (C := Tryd.checked) false (laidWorld os) #[.slice none 0 0, .agg #[.bool false, .string ByteArray.empty, .int .i64 0, .int .i64 0, .slice none 0 0], .string ByteArray.empty, .int .i64 0, .string ByteArray.empty] rfl (by kernel_rfl) (by kernel_rfl) (by kernel_rfl)
      (OpenSpec.preRow_of_cond 8 hx (by kernel_rfl) (fun k hk => by cases hk; kernel_rfl) (by kernel_rfl) (laid_met os _))) ?_
  intro W base args ds gs before hval hW _ hk _ hL hS _
  exact contract H enc W base args ds gs before hval hW 1048576 (Nat.le_refl _) (of_decide_eq_true (hk _ rfl)) hL hS
theorem saidUpto : Rows.AclRulesUptoSaid :=
  OpenClaim.holds_of_cond 3 Tryd.f3 rfl rfl rfl rfl rfl rfl rfl ⟨rfl, rfl, rfl, rfl, rfl⟩ rfl rfl rfl rfl rfl (by kernel_rfl) Tryd.func3 (by kernel_rfl)
    (of_decide_eq_true (by kernel_rfl)) (by unfold Func.isWrapper; first | (rw [if_pos (by decide +kernel)]; kernel_rfl) | (rw [if_neg (by decide +kernel)]; exact ⟨rfl, rfl⟩))
    (fun os started H enc _ F => by rw [OpenClaim.pre_eq_preRow]; exact liftedUpto os started H enc F)
theorem plain (f : FuncId) (fn : Func) (hf : Tryd.pinned.checked.prog.funcNamed "tollhouse/tollhouselaw14.AclRules" = some f) (hfn : Tryd.pinned.checked.prog.funcs[f]? = some fn) :
    true = Tryd.pinned.checked.prog.looks [] ∧ ∀ (j : Nat) t, fn.params[j]? = some t → Tryd.pinned.checked.prog.wantsStandIn t = false := by
  obtain rfl : f = 3 := Option.some.inj ((show Tryd.prog.funcNamed "tollhouse/tollhouselaw14.AclRules" = some 3 by kernel_rfl).symm.trans hf) |>.symm
  obtain rfl : fn = Tryd.f3 := (Option.some.inj (Tryd.func3.symm.trans hfn)).symm
  refine ⟨by kernel_rfl, fun j t ht => ?_⟩
  rw [Tryd.params3] at ht
  have s22 : Tryd.prog.wantsStandIn 22 = false := by kernel_rfl
  have s25 : Tryd.prog.wantsStandIn 25 = false := by kernel_rfl
  have s9 : Tryd.prog.wantsStandIn 9 = false := by kernel_rfl
  have s3 : Tryd.prog.wantsStandIn 3 = false := by kernel_rfl
  have hm := Array.mem_of_getElem? ht
  simp only [List.mem_toArray, List.mem_cons, List.not_mem_nil, or_false] at hm
  rcases hm with rfl | rfl | rfl | rfl | rfl
  · exact s22
  · exact s25
  · exact s9
  · exact s3
  · exact s9
/-- THE CARD OF THE BOUNDED FORM. -/
theorem cardUpto : Rows.AclRulesUptoCardSaid :=
  Claim7.holds_tied_plain_at .later [] _ _ _ _ saidUpto (fun _ h => by cases h) (by kernel_rfl) (fun _ h => by cases h) aclRulesUpto_row_tie rfl ⟨rfl, rfl⟩ (by kernel_rfl) rfl plain (by kernel_rfl)
#print axioms cardUpto
end Go.Proofs.YtjdlaofeenblkaaDoor.aclRules
namespace Go.Proofs.YtjdlaofeenblkaaDoor
/-- The statement, under a short name. -/
theorem aclRules_card : Rows.AclRulesUptoCardSaid := aclRules.cardUpto
end Go.Proofs.YtjdlaofeenblkaaDoor
