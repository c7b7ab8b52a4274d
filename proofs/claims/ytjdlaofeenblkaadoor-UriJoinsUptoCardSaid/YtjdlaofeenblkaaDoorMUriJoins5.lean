/- The law UriJoins: what the walk shows, put together with the plain law, as the given statement asks it: true for every argument of bulk at most 1048576. -/
import Derived.Test.YtjdlaofeenblkaaDoorMUriJoins1
import Derived.Lib.IndexBytes
import Derived.Test.YtjdlaofeenblkaaDoorMUriJoins2
import Derived.Test.YtjdlaofeenblkaaDoorMUriJoins3
import Derived.Lib.ItoaLen
import Derived.Test.YtjdlaofeenblkaaDoorMUriJoins4
import Derived.Test.YtjdlaofeenblkaaDoorCards
import Derived.Test.YtjdlaofeenblkaaDoorTie
import Derived.WalkKit
import Derived.ProofKit
import Derived.OpenShut
import Derived.ShutString
import Derived.ChangeOld
import Derived.Below
import Derived.SizedLaws
import Derived.Deep.DeepHandedRow
import Derived.Deep.DeepWitnessRowRef
/- With rounds enough, a printed function tells a value: how that is put together; and what a byte string's places hold. -/
namespace Go.Proofs.YtjdlaofeenblkaaDoor.X
open Go.RowKit Go.Proofs.YtjdlaofeenblkaaDoorW.PrintWords Go.Proofs.YtjdlaofeenblkaaDoor.T
set_option linter.unusedSimpArgs false
set_option linter.unusedVariables false
/-- With rounds enough f tells r. -/
def Ev {α : Type} (f : Nat → Option α) (r : α) : Prop := ∃ K, ∀ k, K ≤ k → f k = some r
theorem Ev.const {α : Type} {f : Nat → Option α} {r : α} (h : ∀ k, f k = some r) : Ev f r := ⟨0, fun k _ => h k⟩
theorem Ev.done {α : Type} {f : Nat → Option α} {r : α} (h : ∀ k, f (k + 1) = some r) : Ev f r := ⟨1, fun k hk => by obtain ⟨j, rfl⟩ : ∃ j, k = j + 1 := ⟨k - 1, by omega⟩; exact h j⟩
theorem Ev.step {α : Type} {f g : Nat → Option α} {r : α} (h : ∀ k, f (k + 1) = g k) (hg : Ev g r) : Ev f r := by
  obtain ⟨K, hK⟩ := hg
  refine ⟨K + 1, fun k hk => ?_⟩
  obtain ⟨j, rfl⟩ : ∃ j, k = j + 1 := ⟨k - 1, by omega⟩
  rw [h j]; exact hK j (by omega)
theorem Ev.same {α : Type} {f g : Nat → Option α} {r : α} (h : ∀ k, f k = g k) (hg : Ev g r) : Ev f r := by
  obtain ⟨K, hK⟩ := hg
  exact ⟨K, fun k hk => by rw [h k]; exact hK k hk⟩
theorem Ev.bind {α β : Type} {f : Nat → Option α} {g : Nat → α → Option β} {a : α} {r : β} (hf : Ev f a) (hg : Ev (fun k => g k a) r) : Ev (fun k => (f k).bind (g k)) r := by
  obtain ⟨K, hK⟩ := hf
  obtain ⟨L, hL⟩ := hg
  refine ⟨max K L, fun k hk => ?_⟩
  show (f k).bind (g k) = _
  rw [hK k (by omega)]
  exact hL k (by omega)
theorem Ev.stepBind {α β : Type} {F : Nat → Option β} {f : Nat → Option α} {g : Nat → α → Option β} {a : α} {r : β} (h : ∀ k, F (k + 1) = (f k).bind (g k)) (hf : Ev f a) (hg : Ev (fun k => g k a) r) : Ev F r := Ev.step h (Ev.bind hf hg)
theorem Ev.of_mono {α : Type} {f : Nat → Option α} {r : α} (hm : ∀ k, LeO (f k) (f (k + 1))) {K : Nat} (h : f K = some r) : Ev f r := by
  refine ⟨K, fun k hk => ?_⟩
  obtain ⟨d, rfl⟩ : ∃ d, k = K + d := ⟨k - K, by omega⟩
  clear hk
  induction d with
  | zero => exact h
  | succ d ih => exact hm (K + d) r ih
theorem Ev.get {α : Type} {f : Nat → Option α} {r : α} (h : Ev f r) : ∃ k, f k = some r := by obtain ⟨K, hK⟩ := h; exact ⟨K, hK K (Nat.le_refl _)⟩
theorem wrap_id {n : Int} (h : -9223372036854775808 ≤ n) (h2 : n ≤ 9223372036854775807) : wrap64 n = n := by unfold wrap64; omega
/-! ### a byte string's places -/
theorem btAt {s : ByteArray} {j : Nat} (h : j < s.size) : bt s (j : Int) = ((s[j]'h).toNat : Int) := by
  unfold bt
  rw [dif_pos (by simpa using h)]
  rfl
theorem list_at {s : ByteArray} {j : Nat} (h : j < s.size) : s.data.toList[j]? = some (s[j]'h) := by
  rw [List.getElem?_eq_getElem (by rw [size_toList]; exact h)]
  rfl
theorem bt_is {s : ByteArray} {j : Nat} (h : j < s.size) (c : UInt8) : bt s (j : Int) = (c.toNat : Int) ↔ s.data.toList[j]? = some c := by
  rw [btAt h, list_at h]
  constructor
  · intro e
    have : (s[j]'h).toNat = c.toNat := by omega
    rw [UInt8.toNat_inj.1 this]
  · intro e; rw [Option.some.inj e]
theorem bt_sub {s : ByteArray} {a j : Nat} (h : a + j < s.size) : bt (s.extract a s.size) (j : Int) = bt s ((a + j : Nat) : Int) := by
  have hj : j < (s.extract a s.size).size := by rw [ByteArray.size_extract]; omega
  rw [btAt hj, btAt h, ByteArray.getElem_extract]
theorem drop_at {s : ByteArray} {j : Nat} (h : j < s.size) : s.data.toList.drop j = (s[j]'h) :: s.data.toList.drop (j + 1) := by
  rw [List.drop_eq_getElem_cons (by rw [size_toList]; exact h)]
  rfl
theorem drop_end {s : ByteArray} {j : Nat} (h : s.size ≤ j) : s.data.toList.drop j = [] := List.drop_eq_nil_of_le (by rw [size_toList]; exact h)
end Go.Proofs.YtjdlaofeenblkaaDoor.X

/- Small plain lemmas on bytes and rounds. -/
namespace Go.Proofs.YtjdlaofeenblkaaDoor.X
open Go.RowKit Go.Proofs.YtjdlaofeenblkaaDoorW.PrintWords Go.Proofs.YtjdlaofeenblkaaDoor.T
set_option linter.unusedSimpArgs false
set_option linter.unusedVariables false
theorem wrap_succ {n : Nat} (h : n < 9223372036854775807) : wrap64 ((n : Int) + 1) = ((n + 1 : Nat) : Int) := by unfold wrap64; omega
theorem isDig_iff (c : UInt8) : isDig c = true ↔ (48 ≤ c.toNat ∧ c.toNat ≤ 57) := by
  have h : ∀ n : Fin 256, isDig (UInt8.ofNat n.val) = true ↔ (48 ≤ (UInt8.ofNat n.val).toNat ∧ (UInt8.ofNat n.val).toNat ≤ 57) := by decide +kernel
  have := h ⟨c.toNat, c.toNat_lt⟩
  simpa using this
theorem rd_list (ls : List ByteArray) (i : Nat) (y : ByteArray) (h : ls[i]? = some y) : rdOf ByteArray.empty ls (i : Int) = y := by
  unfold rdOf
  rw [Int.toNat_natCast, List.getD_eq_getElem?_getD, h]; rfl
theorem extract_all (s : ByteArray) : s.extract 0 s.size = s := by simp
theorem toList_app (a b : ByteArray) : (a ++ b).data.toList = a.data.toList ++ b.data.toList := by simp
theorem size_app (a b : ByteArray) : (a ++ b).size = a.size + b.size := by simp
theorem toList_eq (a : ByteArray) : a.toList = a.data.toList := Lib.toList_data a
theorem bytes_mk (s : ByteArray) (l : List UInt8) (h : s.data.toList = l) : s = ⟨l.toArray⟩ := by cases s; subst h; rfl
theorem bytes_ext {a b : ByteArray} (h : a.data.toList = b.data.toList) : a = b := by
  cases a; cases b
  simp only at h
  congr 1
  exact Array.ext' h
/-! ### the parts of a text between signs c -/
theorem sign_index (c : UInt8) (t : ByteArray) {j : Nat} (h : t.data.toList[j]? = some c) (hno : ∀ k, k < j → t.data.toList[k]? ≠ some c) : Lib.indexB t ⟨#[c]⟩ = j := by
  have e : Lib.indexB t ⟨#[c]⟩ = Lib.indexByte t.data.toList c := Lib.index_one _ _
  rw [e]
  rcases Int.lt_or_le (Lib.indexByte t.data.toList c) 0 with hm | hm
  · have h1 := Lib.indexByte_ge t.data.toList c
    exact absurd h (Lib.indexByte_none (by omega) j)
  · obtain ⟨o, ho⟩ : ∃ o : Nat, Lib.indexByte t.data.toList c = o := ⟨(Lib.indexByte t.data.toList c).toNat, by omega⟩
    obtain ⟨p1, p2⟩ := Lib.indexByte_some ho
    rw [ho]
    rcases Nat.lt_trichotomy o j with hlt | rfl | hgt
    · exact absurd p1 (hno o hlt)
    · rfl
    · exact absurd h (p2 j hgt)
theorem sign_none (c : UInt8) (t : ByteArray) (hno : ∀ k : Nat, t.data.toList[k]? ≠ some c) : Lib.indexB t ⟨#[c]⟩ = -1 := by
  have e : Lib.indexB t ⟨#[c]⟩ = Lib.indexByte t.data.toList c := Lib.index_one _ _
  rw [e]
  have h1 := Lib.indexByte_ge t.data.toList c
  rcases Int.lt_or_le (Lib.indexByte t.data.toList c) 0 with hm | hm
  · omega
  · obtain ⟨o, ho⟩ : ∃ o : Nat, Lib.indexByte t.data.toList c = o := ⟨(Lib.indexByte t.data.toList c).toNat, by omega⟩
    exact absurd (Lib.indexByte_some ho).1 (hno o)
theorem parts_no (c : UInt8) (t : ByteArray) (hno : ∀ k : Nat, t.data.toList[k]? ≠ some c) : partsB c t = [t] := Lib.splitB_miss _ _ _ _ (sign_none c t hno)
theorem parts_hit (c : UInt8) (t : ByteArray) (j : Nat) (h : t.data.toList[j]? = some c) (hno : ∀ k, k < j → t.data.toList[k]? ≠ some c) : partsB c t = t.extract 0 j :: partsB c (t.extract (j + 1) t.size) := by
  have hx := sign_index c t h hno
  unfold partsB
  have hz : 1 ≤ (⟨#[c]⟩ : ByteArray).size := Nat.le_refl _
  rw [Lib.countB_hit t ⟨#[c]⟩ j hz hx, Nat.add_comm 1, Lib.splitB_hit _ _ _ _ _ hx]
  rfl
theorem mem_at {α : Type} {l : List α} {c : α} (h : c ∉ l) (k : Nat) : l[k]? ≠ some c := fun e => h (List.mem_of_getElem? e)
theorem parts_one (c : UInt8) (s : ByteArray) (h : c ∉ s.data.toList) : partsB c s = [s] := parts_no c s (fun k => mem_at h k)
theorem parts_cons (c : UInt8) (s : ByteArray) (a b : List UInt8) (hs : s.data.toList = a ++ c :: b) (ha : c ∉ a) : partsB c s = ⟨a.toArray⟩ :: partsB c ⟨b.toArray⟩ := by
  have hz := size_toList s
  rw [parts_hit c s a.length (by rw [hs]; simp) (fun k hk => by rw [hs, List.getElem?_append_left hk]; exact mem_at ha k)]
  have e1 : s.extract 0 a.length = ⟨a.toArray⟩ := bytes_mk _ _ (by rw [Lib.extract_from_zero, hs]; simp)
  have e2 : s.extract (a.length + 1) s.size = ⟨b.toArray⟩ := bytes_mk _ _ (by rw [Lib.extract_to_end, hs, List.drop_append]; simp)
  rw [e1, e2]
/-- what stands ahead of the first c, and behind it -/
theorem split_first (c : UInt8) : ∀ l : List UInt8, c ∈ l → ∃ a b, l = a ++ c :: b ∧ c ∉ a
  | x :: t, h => by
    by_cases e : x = c
    · subst e; exact ⟨[], t, rfl, by simp⟩
    · obtain ⟨a, b, rfl, hn⟩ := split_first c t (by
        rcases List.mem_cons.1 h with h | h
        · exact absurd h.symm e
        · exact h)
      refine ⟨x :: a, b, rfl, fun hm => ?_⟩
      rcases List.mem_cons.1 hm with h | h
      · exact e h.symm
      · exact hn h
theorem split_unique (c : UInt8) : ∀ {a a' b b' : List UInt8}, a ++ c :: b = a' ++ c :: b' → c ∉ a → c ∉ a' → a = a' ∧ b = b'
  | [], [], b, b', h, _, _ => by injection h with _ h; exact ⟨rfl, h⟩
  | [], y :: t, b, b', h, _, hn => by
    injection h with h1 _
    exact absurd (List.mem_cons.2 (.inl h1)) hn
  | x :: t, [], b, b', h, hn, _ => by
    injection h with h1 _
    exact absurd (List.mem_cons.2 (.inl h1.symm)) hn
  | x :: t, y :: u, b, b', h, h1, h2 => by
    injection h with e1 e2
    obtain ⟨r1, r2⟩ := split_unique c e2 (fun hm => h1 (List.mem_cons_of_mem _ hm)) (fun hm => h2 (List.mem_cons_of_mem _ hm))
    exact ⟨by rw [e1, r1], r2⟩
/-- three parts: how they stand -/
theorem parts_three (c : UInt8) (s p0 p1 p2 : ByteArray) (h : partsB c s = [p0, p1, p2]) : s.data.toList = p0.data.toList ++ c :: (p1.data.toList ++ c :: p2.data.toList) ∧ c ∉ p0.data.toList ∧ c ∉ p1.data.toList ∧ c ∉ p2.data.toList := by
  by_cases h0 : c ∈ s.data.toList
  · obtain ⟨a, b, e, ha⟩ := split_first c _ h0
    rw [parts_cons c s a b e ha] at h
    injection h with q0 h
    by_cases h1 : c ∈ b
    · obtain ⟨a1, b1, e1, ha1⟩ := split_first c _ h1
      rw [parts_cons c ⟨b.toArray⟩ a1 b1 e1 ha1] at h
      injection h with q1 h
      by_cases h2 : c ∈ b1
      · obtain ⟨a2, b2, e2, ha2⟩ := split_first c _ h2
        rw [parts_cons c ⟨b1.toArray⟩ a2 b2 e2 ha2] at h
        injection h with _ h
        have := parts_len c ⟨b2.toArray⟩
        rw [h] at this
        simp at this
      · rw [parts_one c ⟨b1.toArray⟩ h2] at h
        injection h with q2 _
        subst q0 q1 q2
        exact ⟨by rw [e]; show a ++ c :: b = _; rw [show b = a1 ++ c :: b1 from e1], ha, ha1, h2⟩
    · rw [parts_one c ⟨b.toArray⟩ h1] at h
      injection h with _ h
      cases h
  · rw [parts_one c s h0] at h
    injection h with _ h
    cases h
theorem dot_prefix (h : ByteArray) : Lib.hasPrefix h.data.toList [46] = (decide (0 < h.size) && bt h 0 == 46) := by
  have hl := size_toList h
  unfold Lib.hasPrefix bt
  by_cases hs : 0 < h.size
  · rw [dif_pos (by simpa using hs)]
    have he : h.data.toList = h[0] :: h.data.toList.tail := by
      cases hd : h.data.toList with
      | nil => rw [hd] at hl; simp at hl; omega
      | cons a t =>
        have : h[0] = h.data.toList[0]'(by rw [hl]; exact hs) := rfl
        simp [this, hd]
    rw [he, decide_eq_true hs]
    show ((46 : UInt8) == h[0] && ([] : List UInt8).isPrefixOf h.data.toList.tail) = _
    have e0 : ([] : List UInt8).isPrefixOf h.data.toList.tail = true := by cases h.data.toList.tail <;> rfl
    rw [e0, Bool.and_true, Bool.true_and, Bool.eq_iff_iff]
    simp only [beq_iff_eq]
    constructor
    · intro e; show ((h[0]).toNat : Int) = 46; rw [← e]; rfl
    · intro e
      have e2 : h[0].toNat = 46 := by have : ((h[0]).toNat : Int) = 46 := e; omega
      exact (UInt8.toNat_inj.1 (by rw [e2]; rfl)).symm
  · have : h.data.toList = [] := List.eq_nil_of_length_eq_zero (by omega)
    rw [this, decide_eq_false hs]
    rfl
end Go.Proofs.YtjdlaofeenblkaaDoor.X

/- The parts of a text between points. -/
namespace Go.Proofs.YtjdlaofeenblkaaDoor.X
open Go.RowKit Go.Proofs.YtjdlaofeenblkaaDoorW.PrintWords Go.Proofs.YtjdlaofeenblkaaDoor.T
set_option linter.unusedSimpArgs false
set_option linter.unusedVariables false
/-! ### the parts between points -/
theorem dot_index (t : ByteArray) {j : Nat} (h : t.data.toList[j]? = some 46) (hno : ∀ k, k < j → t.data.toList[k]? ≠ some 46) : Lib.indexB t ⟨#[46]⟩ = j := by
  have e : Lib.indexB t ⟨#[46]⟩ = Lib.indexByte t.data.toList 46 := Lib.index_one _ _
  rw [e]
  rcases Int.lt_or_le (Lib.indexByte t.data.toList 46) 0 with hm | hm
  · have h1 := Lib.indexByte_ge t.data.toList 46
    exact absurd h (Lib.indexByte_none (by omega) j)
  · obtain ⟨o, ho⟩ : ∃ o : Nat, Lib.indexByte t.data.toList 46 = o := ⟨(Lib.indexByte t.data.toList 46).toNat, by omega⟩
    obtain ⟨p1, p2⟩ := Lib.indexByte_some ho
    rw [ho]
    rcases Nat.lt_trichotomy o j with hlt | rfl | hgt
    · exact absurd p1 (hno o hlt)
    · rfl
    · exact absurd h (p2 j hgt)
theorem dot_none (t : ByteArray) (hno : ∀ k : Nat, t.data.toList[k]? ≠ some 46) : Lib.indexB t ⟨#[46]⟩ = -1 := by
  have e : Lib.indexB t ⟨#[46]⟩ = Lib.indexByte t.data.toList 46 := Lib.index_one _ _
  rw [e]
  have h1 := Lib.indexByte_ge t.data.toList 46
  rcases Int.lt_or_le (Lib.indexByte t.data.toList 46) 0 with hm | hm
  · omega
  · obtain ⟨o, ho⟩ : ∃ o : Nat, Lib.indexByte t.data.toList 46 = o := ⟨(Lib.indexByte t.data.toList 46).toNat, by omega⟩
    exact absurd (Lib.indexByte_some ho).1 (hno o)
theorem labels_no (t : ByteArray) (hno : ∀ k : Nat, t.data.toList[k]? ≠ some 46) : labelsB t = [t] := Lib.splitB_miss _ _ _ _ (dot_none t hno)
theorem labels_hit (t : ByteArray) (j : Nat) (h : t.data.toList[j]? = some 46) (hno : ∀ k, k < j → t.data.toList[k]? ≠ some 46) : labelsB t = t.extract 0 j :: labelsB (t.extract (j + 1) t.size) := by
  have hx := dot_index t h hno
  unfold labelsB
  rw [Lib.countB_hit t ⟨#[46]⟩ j (by decide) hx, Nat.add_comm 1, Lib.splitB_hit _ _ _ _ _ hx]
  rfl
end Go.Proofs.YtjdlaofeenblkaaDoor.X

/- URLs in plain words: what the functions of uri tell. -/
namespace Go.Proofs.YtjdlaofeenblkaaDoor.X
open Go.RowKit Go.Proofs.YtjdlaofeenblkaaDoorW.PrintWords Go.Proofs.YtjdlaofeenblkaaDoorW.PrintMore Go.Proofs.YtjdlaofeenblkaaDoor.T
set_option linter.unusedSimpArgs false
set_option linter.unusedVariables false
/-! ### numbers as texts -/
theorem dig_mem : ∀ u : Nat, ∀ c ∈ Lib.decDigits u, 48 ≤ c.toNat ∧ c.toNat ≤ 57 := by
  intro u
  induction u using Nat.strongRecOn with
  | ind u ih =>
    intro c hc
    rw [Lib.decDigits] at hc
    by_cases h : u < 10
    · rw [dif_pos h] at hc
      obtain rfl := List.mem_singleton.1 hc
      simp; omega
    · rw [dif_neg h] at hc
      rcases List.mem_append.1 hc with hc | hc
      · exact ih (u / 10) (by omega) c hc
      · obtain rfl := List.mem_singleton.1 hc
        simp; omega
theorem dig_ne (u : Nat) : Lib.decDigits u ≠ [] := by
  rw [Lib.decDigits]
  by_cases h : u < 10
  · rw [dif_pos h]; simp
  · rw [dif_neg h]; simp
theorem parse_dig : ∀ u : Nat, u ≤ 1000000000000000000 → ∀ l : List UInt8, Lib.parseUint10 0 (Lib.decDigits u ++ l) = Lib.parseUint10 u l := by
  intro u
  induction u using Nat.strongRecOn with
  | ind u ih =>
    intro hu l
    rw [Lib.decDigits]
    by_cases h : u < 10
    · rw [dif_pos h, List.singleton_append, Lib.parseUint10]
      have e : (UInt8.ofNat (48 + u)).toNat = 48 + u := by simp; omega
      rw [e, if_pos (by omega), if_neg (by omega), if_neg (by omega)]
      congr 1; omega
    · rw [dif_neg h, List.append_assoc, ih (u / 10) (by omega) (by omega), List.singleton_append, Lib.parseUint10]
      have e : (UInt8.ofNat (48 + u % 10)).toNat = 48 + u % 10 := by simp; omega
      rw [e, if_pos (by omega), if_neg (by omega), if_neg (by omega)]
      congr 1; omega
theorem atoi_dig (u : Nat) (hu : u ≤ 1000000000000000000) : Lib.atoiAll (Lib.decDigits u) = .ok (u : Int) := by
  cases hl : Lib.decDigits u with
  | nil => exact absurd hl (dig_ne u)
  | cons c r =>
    have hc := dig_mem u c (by rw [hl]; simp)
    rw [Lib.atoiAll_plain c r (by omega) (by omega), ← hl]
    have hp := parse_dig u hu []
    rw [List.append_nil] at hp
    unfold Lib.parseMag
    rw [if_neg (dig_ne u), hp]
    show Lib.signless (.ok u) = _
    unfold Lib.signless
    simp only
    rw [if_neg (by omega)]
theorem itoa_dig (p : Int) (h : 0 ≤ p) : Lib.itoa p = Lib.decDigits p.toNat := by unfold Lib.itoa; rw [if_neg (by omega)]
theorem port_itoa (p : Int) (h1 : 1 ≤ p) (h2 : p ≤ 65535) : portB ⟨(Lib.itoa p).toArray⟩ = p := by
  have e := atoi_dig p.toNat (by omega)
  rw [← itoa_dig p (by omega)] at e
  have e2 : ((p.toNat : Nat) : Int) = p := by omega
  rw [e2] at e
  have v : atoiV ⟨(Lib.itoa p).toArray⟩ = p := by unfold atoiV; simp only [e]
  have o : atoiOk ⟨(Lib.itoa p).toArray⟩ = true := by unfold atoiOk; simp only [e]
  unfold portB
  rw [v, o, if_pos ⟨rfl, rfl, h1, h2⟩]
theorem port_bounds (s : ByteArray) : 0 ≤ portB s ∧ portB s ≤ 65535 := by
  unfold portB
  split
  · rename_i h; omega
  · omega
/-! ### the functions -/
def authB (h : ByteArray) (p : Int) : ByteArray := if p = 80 then h else (h ++ ⟨#[58]⟩) ++ ⟨(Lib.itoa p).toArray⟩
def mayU (h : ByteArray) (p : Int) (q : ByteArray) : Bool := namedB h && (decide (1 ≤ p) && (decide (p ≤ 65535) && (pathB q && decide (7 + (authB h p).size + q.size ≤ 384))))
def schemeB : ByteArray := ⟨#[104, 116, 116, 112, 58, 47, 47]⟩
def textU (h : ByteArray) (p : Int) (q : ByteArray) : ByteArray := if mayU h p q = true then (schemeB ++ authB h p) ++ q else ⟨#[]⟩
def checkU (h : ByteArray) (p : Int) (q : ByteArray) : ByteArray × Int × ByteArray × Int := if mayU h p q = true then (h, p, q, 0) else noURL
theorem itoa_size (p : Int) (h1 : 1 ≤ p) (h2 : p ≤ 65535) : (Lib.itoa p).length ≤ 21 := Lib.itoa_length_le p (by omega) (by omega)
theorem auth_size (h : ByteArray) (p : Int) (h1 : 1 ≤ p) (h2 : p ≤ 65535) : (authB h p).size ≤ h.size + 22 := by
  unfold authB
  split
  · omega
  · rw [size_app, size_app]
    have := itoa_size p h1 h2
    show h.size + 1 + (Lib.itoa p).toArray.size ≤ _
    rw [List.size_toArray]; omega
theorem auth_eq (h : ByteArray) (p : Int) (q : ByteArray) (hs : h.size ≤ 4294967000) (h1 : 1 ≤ p) (h2 : p ≤ 65535) : uri_authority.f h p q = some (authB h p) := by
  have hz := itoa_size p h1 h2
  have e : strconv_Itoa.f p = some ⟨(Lib.itoa p).toArray⟩ := by unfold strconv_Itoa.f; rw [if_pos ⟨by omega, by omega⟩]
  unfold uri_authority.f authB
  by_cases h8 : p = 80
  · rw [if_pos h8, if_pos h8]
  · rw [if_neg h8, if_neg h8, if_pos (by omega), e]
    simp only [Option.bind_some]
    rw [if_pos]
    rw [size_app]
    show h.size + 1 + (Lib.itoa p).toArray.size ≤ _
    rw [List.size_toArray]; omega
theorem may_eq (h : ByteArray) (p : Int) (q : ByteArray) (hs : h.size ≤ 4294967000) (hq : q.size ≤ 2147470000) : uri_May.f h p q = some (mayU h p q) := by
  have e1 : uri_Named.f h = some (namedB h) := by unfold uri_Named.f; rw [if_pos (by omega)]
  have e2 : uri_path.f q = some (pathB q) := by unfold uri_path.f; rw [if_pos (by omega)]
  unfold uri_May.f mayU
  rw [e1, e2]
  simp only [Option.bind_some]
  cases namedB h with
  | false => rfl
  | true =>
    rw [if_pos rfl]
    by_cases h1 : p ≥ 1
    · rw [if_pos h1, decide_eq_true (show 1 ≤ p from h1)]
      by_cases h2 : p ≤ 65535
      · rw [if_pos h2, decide_eq_true h2]
        cases pathB q with
        | false => rfl
        | true =>
          rw [if_pos rfl, auth_eq h p q hs h1 h2]
          have hz := auth_size h p h1 h2
          simp only [Option.bind_some]
          have e : wrap64 (wrap64 (7 + ((authB h p).size : Int)) + (q.size : Int)) = 7 + ((authB h p).size : Int) + (q.size : Int) := by unfold wrap64; omega
          rw [e]
          simp only [Bool.true_and]
          congr 1
          rw [decide_eq_decide]; omega
      · rw [if_neg h2, decide_eq_false h2]; rfl
    · rw [if_neg h1, decide_eq_false (show ¬ 1 ≤ p from h1)]; rfl
theorem may_parts {h : ByteArray} {p : Int} {q : ByteArray} (hm : mayU h p q = true) : namedB h = true ∧ 1 ≤ p ∧ p ≤ 65535 ∧ pathB q = true ∧ 7 + (authB h p).size + q.size ≤ 384 := by
  unfold mayU at hm
  simp only [Bool.and_eq_true, decide_eq_true_eq] at hm
  exact hm
theorem text_eq (h : ByteArray) (p : Int) (q : ByteArray) (hs : h.size ≤ 4294967000) (hq : q.size ≤ 2147470000) : uri_Text.f h p q = some (textU h p q) := by
  unfold uri_Text.f textU
  rw [may_eq h p q hs hq]
  simp only [Option.bind_some]
  cases hm : mayU h p q with
  | false => rfl
  | true =>
    obtain ⟨_, h1, h2, _, hz⟩ := may_parts hm
    rw [if_pos rfl, if_pos rfl, auth_eq h p q hs h1 h2]
    simp only [Option.bind_some]
    rw [if_pos (by omega), if_pos]
    · rfl
    · rw [size_app]
      show 7 + (authB h p).size + q.size ≤ _
      omega
theorem named_empty : namedB ⟨#[]⟩ = false := by
  unfold namedB
  have : labelsB ⟨#[]⟩ = [⟨#[]⟩] := labels_no _ (fun k => by simp)
  rw [this]; rfl
theorem empty_of {s : ByteArray} (h : s.toList = []) : s = ⟨#[]⟩ := bytes_ext (by rw [← toList_eq, h])
theorem check_eq (h : ByteArray) (p : Int) (q : ByteArray) (hs : h.size ≤ 4294967000) (hq : q.size ≤ 2147470000) : uri_checked.f h p q = some (checkU h p q) := by
  unfold uri_checked.f checkU
  rw [may_eq h p q hs hq]
  simp only [Option.bind_some]
  by_cases hz : (h.toList == ([] : List UInt8) && (p == 0 && (q.toList == ([] : List UInt8)))) = true
  · rw [if_pos hz]
    simp only [Bool.and_eq_true, beq_iff_eq] at hz
    have hm : mayU h p q = false := by
      unfold mayU
      rw [empty_of hz.1, named_empty]; rfl
    rw [hm]; rfl
  · rw [if_neg hz]
    cases mayU h p q <;> rfl
def cutU (q x : ByteArray) : ByteArray × Int × ByteArray × Int := checkU (lowerB ⟨(Lib.cut x.data.toList [58]).1.toArray⟩) (if (Lib.cut x.data.toList [58]).2.2 = true then portB ⟨(Lib.cut x.data.toList [58]).2.1.toArray⟩ else 80) q
def queryU (q : ByteArray) : ByteArray := if bt q 0 = 63 then ⟨#[47]⟩ ++ q else q
def restU (r : ByteArray) : ByteArray × Int × ByteArray × Int := if Lib.indexAny r.data.toList [47, 63] ≥ 0 then cutU (queryU (r.extract (Lib.indexAny r.data.toList [47, 63]).toNat r.size)) (r.extract 0 (Lib.indexAny r.data.toList [47, 63]).toNat) else cutU ⟨#[47]⟩ r
def parseU (s : ByteArray) : ByteArray × Int × ByteArray × Int := if (lowerB (s.extract 0 7)).toList = [104, 116, 116, 112, 58, 47, 47] then restU (s.extract 7 s.size) else noURL
def joinU (h : ByteArray) (p : Int) (q ref : ByteArray) : ByteArray × Int × ByteArray × Int := if mayU h p q = true then (if Lib.hasPrefix ref.data.toList [47] = true ∧ Lib.hasPrefix ref.data.toList [47, 47] = false then checkU h p ref else parseU ref) else noURL
theorem cut_sz (x : ByteArray) : (⟨(Lib.cut x.data.toList [58]).1.toArray⟩ : ByteArray).size ≤ x.size ∧ (⟨(Lib.cut x.data.toList [58]).2.1.toArray⟩ : ByteArray).size ≤ x.size := by
  have e := size_toList x
  show (Lib.cut x.data.toList [58]).1.toArray.size ≤ _ ∧ (Lib.cut x.data.toList [58]).2.1.toArray.size ≤ _
  rw [List.size_toArray, List.size_toArray]
  unfold Lib.cut
  split
  · exact ⟨by rw [List.length_take]; omega, by rw [List.length_drop]; omega⟩
  · exact ⟨by show x.data.toList.length ≤ _; omega, by simp⟩
theorem lower_f (s : ByteArray) (h : s.size ≤ 4294967296) : text_Lower.f s = some (lowerB s) := by unfold text_Lower.f; rw [if_pos (by omega)]
theorem cutU_eq (q x : ByteArray) (hx : x.size ≤ 2147470000) (hq : q.size ≤ 2147470000) : Ev (fun k => uri_Parse.j0 k x ⟨#[]⟩ 80 q) (cutU q x) := by
  have hz := cut_sz x
  have e1 : strings_Cut.f x (⟨#[58]⟩ : ByteArray) = some (⟨(Lib.cut x.data.toList [58]).1.toArray⟩, ⟨(Lib.cut x.data.toList [58]).2.1.toArray⟩, (Lib.cut x.data.toList [58]).2.2) := by
    unfold strings_Cut.f
    rw [if_pos (by omega)]
  refine Ev.done fun k => ?_
  simp only [uri_Parse.j0]
  rw [e1]
  simp only [Option.bind_some]
  rw [lower_f _ (by omega)]
  simp only [Option.bind_some]
  have e2 : uri_port.f ⟨(Lib.cut x.data.toList [58]).2.1.toArray⟩ = some (portB ⟨(Lib.cut x.data.toList [58]).2.1.toArray⟩) := by unfold uri_port.f; rw [if_pos (by omega)]
  unfold cutU
  cases hc : (Lib.cut x.data.toList [58]).2.2 with
  | true =>
    rw [if_pos rfl, if_pos rfl, e2]
    simp only [Option.bind_some]
    rw [check_eq _ _ _ (by rw [size_lower]; omega) hq]
    rfl
  | false =>
    rw [if_neg (by decide), if_neg (by decide), check_eq _ _ _ (by rw [size_lower]; omega) hq]
    rfl
theorem any_le : ∀ (l c : List UInt8), Lib.indexAny l c < (l.length : Int) ∧ -1 ≤ Lib.indexAny l c := by
  intro l c
  refine ⟨?_, Lib.indexAny_ge c l⟩
  induction l with
  | nil =>
    show Lib.indexAny [] c < 0
    unfold Lib.indexAny
    omega
  | cons x t ih =>
    unfold Lib.indexAny
    split
    · simp only [List.length_cons]; omega
    · simp only [List.length_cons]
      split <;> omega
theorem mn_7 (n : Nat) : mn (n : Int) 7 = ((min n 7 : Nat) : Int) := by unfold mn; split <;> omega
theorem parse_ev (s : ByteArray) (hs : s.size ≤ 2147460000) : Ev (fun k => uri_Parse.f k s) (parseU s) := by
  have e0 : ((min s.size 7 : Nat) : Int).toNat = min s.size 7 := Int.toNat_natCast _
  have ex : s.extract 0 (min s.size 7) = s.extract 0 7 := bytes_ext (by rw [Lib.extract_from_zero, Lib.extract_from_zero, ← size_toList, List.take_eq_take_iff]; omega)
  have hl : text_Lower.f (s.extract 0 7) = some (lowerB (s.extract 0 7)) := lower_f _ (by rw [ByteArray.size_extract]; omega)
  have hm1 : (0 : Int) ≤ ((min s.size 7 : Nat) : Int) := by omega
  have hm2 : ((min s.size 7 : Nat) : Int) ≤ (s.size : Int) := by omega
  by_cases hp : (lowerB (s.extract 0 7)).toList = [104, 116, 116, 112, 58, 47, 47]
  · have h7 : 7 ≤ s.size := by
      have := congrArg List.length hp
      rw [toList_eq, size_toList, size_lower, ByteArray.size_extract] at this
      simp at this; omega
    have em : min s.size 7 = 7 := by omega
    have hrz : (s.extract 7 s.size).size ≤ 2147460000 := by rw [ByteArray.size_extract]; omega
    obtain ⟨r, er⟩ : ∃ r, r = s.extract 7 s.size := ⟨_, rfl⟩
    rw [← er] at hrz
    have hi : strings_IndexAny.f r (⟨#[47, 63]⟩ : ByteArray) = some (Lib.indexAny r.data.toList [47, 63]) := by unfold strings_IndexAny.f; rw [if_pos ⟨rfl, by omega⟩]
    have hb := any_le r.data.toList [47, 63]
    rw [size_toList] at hb
    have eP : parseU s = restU r := by unfold parseU; rw [if_pos hp, er]
    rw [eP]
    unfold restU
    generalize Lib.indexAny r.data.toList [47, 63] = i at hb hi
    by_cases h0 : i ≥ 0
    · rw [if_pos h0]
      obtain ⟨n, rfl⟩ : ∃ n : Nat, i = n := ⟨i.toNat, by omega⟩
      have hq : (r.extract n r.size).size = r.size - n := by rw [ByteArray.size_extract]; omega
      have hx : (r.extract 0 n).size ≤ 2147470000 := by rw [ByteArray.size_extract]; omega
      simp only [Int.toNat_natCast]
      unfold queryU
      by_cases hc : bt (r.extract n r.size) 0 = 63
      · rw [if_pos hc]
        refine Ev.same (fun k => ?_) (cutU_eq _ _ hx (by rw [size_app, hq]; show 1 + _ ≤ _; omega))
        unfold uri_Parse.f
        rw [mn_7, e0, ex, if_pos hm1, if_pos hm2, hl]
        simp only [Option.bind_some]
        rw [if_pos hp, em, ← er, hi]
        simp only [Option.bind_some, Int.toNat_natCast]
        rw [if_pos h0, if_pos h0, if_pos (by omega), if_pos (by omega), if_pos hc, if_pos (by omega)]
      · rw [if_neg hc]
        refine Ev.same (fun k => ?_) (cutU_eq _ _ hx (by omega))
        unfold uri_Parse.f
        rw [mn_7, e0, ex, if_pos hm1, if_pos hm2, hl]
        simp only [Option.bind_some]
        rw [if_pos hp, em, ← er, hi]
        simp only [Option.bind_some, Int.toNat_natCast]
        rw [if_pos h0, if_pos h0, if_pos (by omega), if_pos (by omega), if_neg hc]
    · rw [if_neg h0]
      refine Ev.same (fun k => ?_) (cutU_eq _ _ (show r.size ≤ 2147470000 by omega) (by decide))
      unfold uri_Parse.f
      rw [mn_7, e0, ex, if_pos hm1, if_pos hm2, hl]
      simp only [Option.bind_some]
      rw [if_pos hp, em, ← er, hi]
      simp only [Option.bind_some]
      rw [if_neg h0]
  · have eP : parseU s = noURL := by unfold parseU; rw [if_neg hp]
    rw [eP]
    refine Ev.const fun k => ?_
    unfold uri_Parse.f
    rw [mn_7, e0, ex, if_pos hm1, if_pos hm2, hl]
    simp only [Option.bind_some]
    rw [if_neg hp]; rfl
theorem join_ev (h : ByteArray) (p : Int) (q ref : ByteArray) (hs : h.size ≤ 4294967000) (hq : q.size ≤ 2147470000) (hr : ref.size ≤ 2147460000) : Ev (fun k => uri_Join.f k h p q ref) (joinU h p q ref) := by
  have e1 : strings_HasPrefix.f ref (⟨#[47]⟩ : ByteArray) = some (Lib.hasPrefix ref.data.toList [47]) := rfl
  have e2 : strings_HasPrefix.f ref (⟨#[47, 47]⟩ : ByteArray) = some (Lib.hasPrefix ref.data.toList [47, 47]) := rfl
  have eM := may_eq h p q hs hq
  have hP : Ev (fun k => uri_Join.j0 k ref false h p q) (parseU ref) := Ev.stepBind (f := fun k => uri_Parse.f k ref) (g := fun k bt => some (bt.1, bt.2.1, bt.2.2.1, bt.2.2.2)) (fun k => by simp only [uri_Join.j0]; rw [if_neg (by decide)]) (parse_ev ref hr) (Ev.const fun _ => rfl)
  have hC : Ev (fun k => uri_Join.j0 k ref true h p q) (checkU h p ref) := Ev.done fun k => by
    simp only [uri_Join.j0]
    rw [if_pos trivial, check_eq h p ref hs (by omega)]; rfl
  unfold joinU
  cases hm : mayU h p q with
  | false =>
    rw [hm] at eM
    exact Ev.const fun k => by unfold uri_Join.f; rw [eM]; rfl
  | true =>
    rw [hm] at eM
    rw [if_pos rfl]
    cases h1 : Lib.hasPrefix ref.data.toList [47] with
    | false =>
      rw [if_neg (fun hh => by cases hh.1)]
      refine Ev.same (fun k => ?_) hP
      unfold uri_Join.f
      rw [eM, e1, h1]; rfl
    | true =>
      cases h2 : Lib.hasPrefix ref.data.toList [47, 47] with
      | false =>
        rw [if_pos ⟨rfl, rfl⟩]
        refine Ev.same (fun k => ?_) hC
        unfold uri_Join.f
        rw [eM, e1, h1, e2, h2]; rfl
      | true =>
        rw [if_neg (fun hh => by cases hh.2)]
        refine Ev.same (fun k => ?_) hP
        unfold uri_Join.f
        rw [eM, e1, h1, e2, h2]; rfl
end Go.Proofs.YtjdlaofeenblkaaDoor.X

/- Where a text is cut at a sign. -/
namespace Go.Proofs.YtjdlaofeenblkaaDoor.X
open Go.RowKit Go.Proofs.YtjdlaofeenblkaaDoorW.PrintWords Go.Proofs.YtjdlaofeenblkaaDoorW.PrintMore Go.Proofs.YtjdlaofeenblkaaDoor.T
set_option linter.unusedSimpArgs false
set_option linter.unusedVariables false
theorem index_no (c : UInt8) : ∀ l : List UInt8, c ∉ l → Lib.index l [c] = -1
  | [], _ => rfl
  | x :: t, h => by
    have h1 : c ≠ x := fun e => h (by rw [e]; exact List.mem_cons_self ..)
    have ih := index_no c t (fun m => h (List.mem_cons_of_mem _ m))
    have hp : List.isPrefixOf [c] (x :: t) = false := by simp [List.isPrefixOf, h1]
    rw [Lib.index, hp, ih]; rfl
theorem index_app (c : UInt8) (b : List UInt8) : ∀ a : List UInt8, c ∉ a → Lib.index (a ++ c :: b) [c] = a.length
  | [], _ => by
    have hp : List.isPrefixOf [c] (c :: b) = true := by simp [List.isPrefixOf]
    rw [List.nil_append, Lib.index, hp]; rfl
  | x :: t, h => by
    have h1 : c ≠ x := fun e => h (by rw [e]; exact List.mem_cons_self ..)
    have ih := index_app c b t (fun m => h (List.mem_cons_of_mem _ m))
    have hp : List.isPrefixOf [c] (x :: (t ++ c :: b)) = false := by simp [List.isPrefixOf, h1]
    rw [List.cons_append, Lib.index, hp, ih]
    have e : ((t.length : Int) == -1) = false := by simp
    rw [e]
    simp
theorem cut_no (c : UInt8) (l : List UInt8) (h : c ∉ l) : Lib.cut l [c] = (l, [], false) := by
  unfold Lib.cut
  rw [index_no c l h, if_neg (by decide)]
theorem cut_app (c : UInt8) (a b : List UInt8) (h : c ∉ a) : Lib.cut (a ++ c :: b) [c] = (a, b, true) := by
  unfold Lib.cut
  rw [index_app c b a h, if_pos (by omega), Int.toNat_natCast, List.take_left' rfl]
  have e : (a ++ c :: b).drop (a.length + [c].length) = b := by
    rw [← List.drop_drop, List.drop_left' rfl]; rfl
  rw [e]
end Go.Proofs.YtjdlaofeenblkaaDoor.X

/- A URL's text tells it again. -/
namespace Go.Proofs.YtjdlaofeenblkaaDoor.X
open Go.RowKit Go.Proofs.YtjdlaofeenblkaaDoorW.PrintWords Go.Proofs.YtjdlaofeenblkaaDoorW.PrintMore Go.Proofs.YtjdlaofeenblkaaDoor.T
set_option linter.unusedSimpArgs false
set_option linter.unusedVariables false
/-! ### the bytes of a host -/
theorem host_mem : ∀ (n : Nat) (l : List UInt8), l.length ≤ n → (partsB 46 ⟨l.toArray⟩).all labelB = true → ∀ c ∈ l, c = 46 ∨ isHostC c = true
  | n, l, hl, ha => by
    intro c hc
    by_cases h46 : (46 : UInt8) ∈ l
    · obtain ⟨a, b, e, hn⟩ := split_first 46 l h46
      have hz : l.length = a.length + 1 + b.length := by rw [e]; simp; omega
      rw [parts_cons 46 ⟨l.toArray⟩ a b e hn, List.all_cons, Bool.and_eq_true] at ha
      match n, hl with
      | 0, hl => omega
      | n + 1, hl =>
        rw [e] at hc
        rcases List.mem_append.1 hc with hc | hc
        · have h2 := ha.1
          unfold labelB at h2
          rw [Bool.and_eq_true, List.all_eq_true] at h2
          exact .inr (h2.2 c hc)
        · rcases List.mem_cons.1 hc with rfl | hc
          · exact .inl rfl
          · exact host_mem n b (by omega) ha.2 c hc
    · rw [parts_one 46 ⟨l.toArray⟩ h46, List.all_cons, Bool.and_eq_true] at ha
      have h2 := ha.1
      unfold labelB at h2
      rw [Bool.and_eq_true, List.all_eq_true] at h2
      exact .inr (h2.2 c hc)
theorem named_mem {h : ByteArray} (hn : namedB h = true) : ∀ c ∈ h.data.toList, c = 46 ∨ isHostC c = true := by
  unfold namedB at hn
  rw [Bool.and_eq_true] at hn
  exact host_mem _ h.data.toList (Nat.le_refl _) hn.1
theorem hostC_nat {c : UInt8} (h : c = 46 ∨ isHostC c = true) : c.toNat = 46 ∨ c.toNat = 45 ∨ (97 ≤ c.toNat ∧ c.toNat ≤ 122) ∨ (48 ≤ c.toNat ∧ c.toNat ≤ 57) := by
  have h2 : ∀ n : Fin 256, isHostC (UInt8.ofNat n.val) = true → ((UInt8.ofNat n.val).toNat = 45 ∨ (97 ≤ (UInt8.ofNat n.val).toNat ∧ (UInt8.ofNat n.val).toNat ≤ 122) ∨ (48 ≤ (UInt8.ofNat n.val).toNat ∧ (UInt8.ofNat n.val).toNat ≤ 57)) := by decide +kernel
  rcases h with rfl | h
  · exact .inl rfl
  · have := h2 ⟨c.toNat, c.toNat_lt⟩ (by simpa using h)
    simp only [UInt8.ofNat_toNat] at this
    exact .inr this
theorem byte_ne {c : UInt8} {n : Nat} (h : c.toNat ≠ n) (hn : n < 256) : c ≠ UInt8.ofNat n := fun e => h (by rw [e]; simp; omega)
theorem lowC_same {c : UInt8} (h : c.toNat < 65 ∨ 90 < c.toNat) : lowC c = c := by
  have h2 : ∀ n : Fin 256, ((UInt8.ofNat n.val).toNat < 65 ∨ 90 < (UInt8.ofNat n.val).toNat) → lowC (UInt8.ofNat n.val) = UInt8.ofNat n.val := by decide +kernel
  have := h2 ⟨c.toNat, c.toNat_lt⟩ (by simpa using h)
  simpa using this
theorem lower_data (s : ByteArray) : (lowerB s).data.toList = s.data.toList.map lowC := rfl
theorem lower_host {h : ByteArray} (hn : namedB h = true) : lowerB h = h := bytes_ext (by
  rw [lower_data]
  have : ∀ c ∈ h.data.toList, lowC c = c := fun c hc => by
    have := hostC_nat (named_mem hn c hc)
    exact lowC_same (by omega)
  exact (List.map_congr_left (g := id) this).trans (List.map_id _))
/-! ### a URL's text -/
def AuthC (c : UInt8) : Prop := c.toNat ≠ 47 ∧ c.toNat ≠ 63
theorem auth_mem {hh : ByteArray} (hC : ∀ c ∈ hh.data.toList, AuthC c) (p : Int) (h1 : 1 ≤ p) : ∀ c ∈ (authB hh p).data.toList, AuthC c := by
  intro c hc
  unfold authB at hc
  by_cases h8 : p = 80
  · rw [if_pos h8] at hc; exact hC c hc
  · rw [if_neg h8, toList_app, toList_app] at hc
    rcases List.mem_append.1 hc with hc | hc
    · rcases List.mem_append.1 hc with hc | hc
      · exact hC c hc
      · obtain rfl := List.mem_singleton.1 (show c ∈ [(58 : UInt8)] from hc)
        exact ⟨by decide, by decide⟩
    · have hc2 : c ∈ Lib.itoa p := hc
      rw [itoa_dig p (by omega)] at hc2
      have := dig_mem _ c hc2
      exact ⟨by omega, by omega⟩
theorem any_at (a b : List UInt8) (h : ∀ c ∈ a, AuthC c) : Lib.indexAny (a ++ 47 :: b) [47, 63] = (a.length : Int) := by
  refine Lib.indexAny_hit (x := 47) (fun j c hj hc => ?_) ?_ (by decide)
  · rw [List.getElem?_append_left hj] at hc
    have := h c (List.mem_of_getElem? hc)
    have e1 : c ≠ 47 := fun e => this.1 (by rw [e]; rfl)
    have e2 : c ≠ 63 := fun e => this.2 (by rw [e]; rfl)
    simp [e1, e2]
  · rw [List.getElem?_append_right (Nat.le_refl _), Nat.sub_self]; rfl
theorem path_head {q : ByteArray} (h : pathB q = true) : ∃ t, q.data.toList = 47 :: t := by
  unfold pathB at h
  rw [Bool.and_eq_true] at h
  have h2 := h.1
  cases hl : q.data.toList with
  | nil => rw [hl] at h2; exact absurd h2 (by decide)
  | cons c t =>
    rw [hl] at h2
    have : c = 47 := by
      unfold Lib.hasPrefix at h2
      exact (by simpa using h2 : 47 = c).symm
    exact ⟨t, by rw [this]⟩
theorem extract_app_right (a b : ByteArray) : (a ++ b).extract a.size (a ++ b).size = b := bytes_ext (by
  rw [Lib.extract_to_end, toList_app, ← size_toList, List.drop_left])
theorem extract_app_left (a b : ByteArray) : (a ++ b).extract 0 a.size = a := bytes_ext (by
  rw [Lib.extract_from_zero, toList_app, ← size_toList, List.take_left])
theorem bt_first {s : ByteArray} {c : UInt8} {t : List UInt8} (h : s.data.toList = c :: t) : bt s 0 = (c.toNat : Int) := by
  have hz : 0 < s.size := by rw [← size_toList, h]; simp
  exact (bt_is hz c).2 (by rw [h]; rfl)
theorem rest_form (hh q : ByteArray) (p : Int) (h1 : 1 ≤ p) (h2 : p ≤ 65535) (hC : ∀ c ∈ hh.data.toList, AuthC c ∧ c.toNat ≠ 58) (hq : pathB q = true) : restU (authB hh p ++ q) = checkU (lowerB hh) p q := by
  obtain ⟨t, ht⟩ := path_head hq
  have hi : Lib.indexAny (authB hh p ++ q).data.toList [47, 63] = ((authB hh p).size : Int) := by
    rw [toList_app, ht, any_at _ t (auth_mem (fun c hc => (hC c hc).1) p h1), size_toList]
  unfold restU
  rw [hi, if_pos (by omega)]
  simp only [Int.toNat_natCast]
  rw [extract_app_right, extract_app_left]
  have hQ : queryU q = q := by unfold queryU; rw [bt_first ht, if_neg (by decide)]
  rw [hQ]
  unfold cutU
  have h58 : (58 : UInt8) ∉ hh.data.toList := fun hm => (hC 58 hm).2 rfl
  by_cases h8 : p = 80
  · have ea : authB hh p = hh := by unfold authB; rw [if_pos h8]
    rw [ea, cut_no 58 _ h58]
    dsimp only
    rw [if_neg (by decide), h8]
  · have ea : (authB hh p).data.toList = hh.data.toList ++ 58 :: Lib.itoa p := by
      unfold authB
      rw [if_neg h8, toList_app, toList_app, List.append_assoc]; rfl
    rw [ea, cut_app 58 _ _ h58]
    dsimp only
    rw [if_pos rfl, port_itoa p h1 h2]
theorem parse_form (sc hh q : ByteArray) (p : Int) (hs : lowerB sc = schemeB) (h1 : 1 ≤ p) (h2 : p ≤ 65535) (hC : ∀ c ∈ hh.data.toList, AuthC c ∧ c.toNat ≠ 58) (hq : pathB q = true) : parseU ((sc ++ authB hh p) ++ q) = checkU (lowerB hh) p q := by
  have hz : sc.size = 7 := by rw [← size_lower, hs]; rfl
  have ea : (sc ++ authB hh p) ++ q = sc ++ (authB hh p ++ q) := bytes_ext (by simp only [toList_app, List.append_assoc])
  have e0 : (sc ++ (authB hh p ++ q)).extract 0 7 = sc := by rw [← hz]; exact extract_app_left _ _
  have e1 : (sc ++ (authB hh p ++ q)).extract 7 (sc ++ (authB hh p ++ q)).size = authB hh p ++ q := by
    have := extract_app_right sc (authB hh p ++ q)
    rwa [hz] at this
  unfold parseU
  rw [ea, e0, e1, hs, if_pos (by rw [toList_eq]; rfl)]
  exact rest_form hh q p h1 h2 hC hq
theorem host_auth {h : ByteArray} (hn : namedB h = true) : ∀ c ∈ h.data.toList, AuthC c ∧ c.toNat ≠ 58 := fun c hc => by
  have := hostC_nat (named_mem hn c hc)
  exact ⟨⟨by omega, by omega⟩, by omega⟩
theorem lower_scheme : lowerB schemeB = schemeB := by decide +kernel
theorem parse_text {h q : ByteArray} {p : Int} (hm : mayU h p q = true) : parseU (textU h p q) = (h, p, q, 0) := by
  obtain ⟨hn, h1, h2, hq, hz⟩ := may_parts hm
  unfold textU
  rw [if_pos hm, parse_form schemeB h q p lower_scheme h1 h2 (host_auth hn) hq, lower_host hn]
  unfold checkU
  rw [if_pos hm]
/-! ### what is told -/
theorem may_none : mayU ⟨#[]⟩ 0 ⟨#[]⟩ = false := by unfold mayU; rw [named_empty]; rfl
/-- a URL that may be and no error, or none and ErrURL -/
def Told (r : ByteArray × Int × ByteArray × Int) : Prop := (r.2.2.2 = 0 ∧ mayU r.1 r.2.1 r.2.2.1 = true) ∨ r = noURL
theorem told_check (h : ByteArray) (p : Int) (q : ByteArray) : Told (checkU h p q) := by
  unfold checkU
  cases hm : mayU h p q with
  | true => rw [if_pos rfl]; exact .inl ⟨rfl, hm⟩
  | false => rw [if_neg (by decide)]; exact .inr rfl
theorem told_parse (s : ByteArray) : Told (parseU s) := by
  unfold parseU
  split
  · unfold restU
    split <;> exact told_check _ _ _
  · exact .inr rfl
theorem told_join (h : ByteArray) (p : Int) (q ref : ByteArray) : Told (joinU h p q ref) := by
  unfold joinU
  split
  · split
    · exact told_check _ _ _
    · exact told_parse _
  · exact .inr rfl
theorem may_sizes {h q : ByteArray} {p : Int} (hm : mayU h p q = true) : h.size ≤ 384 ∧ q.size ≤ 384 := by
  obtain ⟨_, _, _, _, hz⟩ := may_parts hm
  have : h.size ≤ (authB h p).size := by
    unfold authB
    split
    · exact Nat.le_refl _
    · rw [size_app, size_app]; omega
  omega
theorem text_size (h : ByteArray) (p : Int) (q : ByteArray) : (textU h p q).size ≤ 384 := by
  unfold textU
  split
  · rename_i hm
    obtain ⟨_, _, _, _, hz⟩ := may_parts hm
    rw [size_app, size_app]
    show 7 + _ + _ ≤ _
    omega
  · decide
end Go.Proofs.YtjdlaofeenblkaaDoor.X

/- The plain law of UriJoins. -/
namespace Go.Proofs.YtjdlaofeenblkaaDoor.X
open Go.RowKit Go.Proofs.YtjdlaofeenblkaaDoorW.PrintWords Go.Proofs.YtjdlaofeenblkaaDoorW.PrintMore Go.Proofs.YtjdlaofeenblkaaDoor.T
set_option linter.unusedSimpArgs false
set_option linter.unusedVariables false
theorem told_sizes {r : ByteArray × Int × ByteArray × Int} (h : Told r) : r.1.size ≤ 384 ∧ r.2.2.1.size ≤ 384 := by
  rcases h with ⟨_, hm⟩ | rfl
  · exact may_sizes hm
  · exact ⟨by decide, by decide⟩
theorem told_may {r : ByteArray × Int × ByteArray × Int} (h : Told r) : uri_May.f r.1 r.2.1 r.2.2.1 = some (mayU r.1 r.2.1 r.2.2.1) := by
  have := told_sizes h
  exact may_eq _ _ _ (by omega) (by omega)
theorem j_last (bh bq ref : ByteArray) (bp : Int) (h1 : bh.size ≤ 1048576) (h2 : bq.size ≤ 1048576) (h3 : ref.size ≤ 1048576) :
    Ev (fun k => (uri_Join.f k bh bp bq ref).bind fun bt => (uri_May.f bt.1 bt.2.1 bt.2.2.1).bind fun t => if ((bt.2.2.2 == 0) == t) = true then (if bt.2.2.2 = 0 then (tollhouselaw10_wakes.f).bind fun t => some t else if bt.2.2.2 = 23 then (if (bt.1.toList == ([] : List UInt8) && (bt.2.1 == 0 && (bt.2.2.1.toList == ([] : List UInt8)))) = true then (tollhouselaw10_wakes.f).bind fun t => some t else some false) else some false) else some false) true := by
  have hT := told_join bh bp bq ref
  refine Ev.bind (join_ev bh bp bq ref (by omega) (by omega) (by omega)) (Ev.const fun _ => ?_)
  rw [told_may hT]
  simp only [Option.bind_some]
  rcases hT with ⟨h0, hm⟩ | hn
  · rw [h0, hm]; rfl
  · rw [hn]
    show (if ((23 : Int) == 0) == mayU ⟨#[]⟩ 0 ⟨#[]⟩ then _ else _) = _
    rw [may_none, if_pos (by decide), if_neg (by decide), if_pos (by decide)]
    have e1 : noURL.1.toList = [] := by rw [toList_eq]; rfl
    have e2 : noURL.2.2.1.toList = [] := by rw [toList_eq]; rfl
    rw [e1, e2, if_pos (by decide)]
    rfl
theorem j_j2 (bh bq ref : ByteArray) (bp : Int) (h1 : bh.size ≤ 1048576) (h2 : bq.size ≤ 1048576) (h3 : ref.size ≤ 1048576) : Ev (fun k => tollhouselaw10_UriJoins.j2 k ref false bh bp bq) true :=
  Ev.step (fun k => by simp only [tollhouselaw10_UriJoins.j2]; rw [if_neg (by decide)]) (j_last bh bq ref bp h1 h2 h3)
theorem j_j1f (bh bq ref uh uq : ByteArray) (bp up : Int) (h1 : bh.size ≤ 1048576) (h2 : bq.size ≤ 1048576) (h3 : ref.size ≤ 1048576) : Ev (fun k => tollhouselaw10_UriJoins.j1 k ref false bh bp bq uh up uq) true :=
  Ev.step (fun k => by simp only [tollhouselaw10_UriJoins.j1]; rw [if_neg (by decide)]) (j_last bh bq ref bp h1 h2 h3)
theorem j_j1t (bh bq ref uh uq : ByteArray) (bp up : Int) (h1 : bh.size ≤ 1048576) (h2 : bq.size ≤ 1048576) (h3 : ref.size ≤ 1048576) (h4 : uq.size ≤ 1048576) (hJ : joinU bh bp bq uq = checkU bh bp uq) : Ev (fun k => tollhouselaw10_UriJoins.j1 k ref true bh bp bq uh up uq) true := by
  have hj := join_ev bh bp bq uq (by omega) (by omega) (by omega)
  rw [hJ] at hj
  have e := may_eq bh bp uq (by omega) (by omega)
  refine Ev.step (g := fun k => (uri_Join.f k bh bp bq uq).bind fun bt => (uri_May.f bh bp uq).bind fun t => if ((bt.2.2.2 == 0) != t) = true then tollhouselaw10_UriJoins.j2 k ref true bh bp bq else if bt.2.2.2 = 0 then tollhouselaw10_UriJoins.j2 k ref (!(bt.1.toList == bh.toList) || (!(bt.2.1 == bp) || (!(bt.2.2.1.toList == uq.toList)))) bh bp bq else tollhouselaw10_UriJoins.j2 k ref false bh bp bq) (fun k => by simp only [tollhouselaw10_UriJoins.j1]; rw [if_pos trivial]) (Ev.bind hj (Ev.same (fun k => ?_) (j_j2 bh bq ref bp h1 h2 h3)))
  rw [e]
  simp only [Option.bind_some]
  unfold checkU
  cases hm : mayU bh bp uq with
  | true =>
    rw [if_pos rfl]
    simp
  | false =>
    rw [show (if (false = true) then (bh, bp, uq, (0 : Int)) else noURL) = noURL from if_neg (by decide)]
    rw [if_neg (by decide), if_neg (by decide)]
theorem j_j0 (bh bq ref uh uq : ByteArray) (bp up : Int) (h1 : bh.size ≤ 1048576) (h2 : bq.size ≤ 1048576) (h3 : ref.size ≤ 1048576) (h4 : uq.size ≤ 1048576) (h5 : uh.size ≤ 1048576) : Ev (fun k => tollhouselaw10_UriJoins.j0 k ref false bh bp bq uh up uq) true := by
  have e1 := may_eq bh bp bq (by omega) (by omega)
  have e2 := may_eq uh up uq (by omega) (by omega)
  have hF := j_j1f bh bq ref uh uq bp up h1 h2 h3
  cases hb : mayU bh bp bq with
  | false =>
    refine Ev.step (fun k => ?_) hF
    simp only [tollhouselaw10_UriJoins.j0]
    rw [if_neg (by decide), e1, hb]; rfl
  | true =>
    cases hu : mayU uh up uq with
    | false =>
      refine Ev.step (fun k => ?_) hF
      simp only [tollhouselaw10_UriJoins.j0]
      rw [if_neg (by decide), e1, hb, e2, hu]; rfl
    | true =>
      obtain ⟨_, _, _, hq, _⟩ := may_parts hu
      obtain ⟨t, ht⟩ := path_head hq
      have p1 : Lib.hasPrefix uq.data.toList [47] = true := by rw [ht]; rfl
      have hJ : Lib.hasPrefix uq.data.toList [47, 47] = false → joinU bh bp bq uq = checkU bh bp uq := fun h => by
        unfold joinU
        rw [if_pos hb, if_pos ⟨p1, h⟩]
      have hz : uq.size = t.length + 1 := by rw [← size_toList, ht]; rfl
      by_cases hs : (uq.size : Int) < 2
      · have h0 : t = [] := List.eq_nil_of_length_eq_zero (by omega)
        refine Ev.step (fun k => ?_) (j_j1t bh bq ref uh uq bp up h1 h2 h3 h4 (hJ (by rw [ht, h0]; rfl)))
        simp only [tollhouselaw10_UriJoins.j0]
        rw [if_neg (by decide), e1, hb, e2, hu]
        simp only [Option.bind_some]
        rw [if_pos trivial, if_pos trivial, if_pos hs]
      · have hs1 : 1 < uq.size := by omega
        have hbt := bt_is hs1 47
        by_cases hc : uq.data.toList[1]? = some 47
        · have e : (bt uq 1 != 47) = false := by
            have : bt uq 1 = 47 := hbt.2 hc
            rw [this]; rfl
          refine Ev.step (fun k => ?_) hF
          simp only [tollhouselaw10_UriJoins.j0]
          rw [if_neg (by decide), e1, hb, e2, hu]
          simp only [Option.bind_some]
          rw [if_pos trivial, if_pos trivial, if_neg hs, if_pos (by omega), e]
        · have e : (bt uq 1 != 47) = true := by
            rw [bne_iff_ne]
            exact fun h => hc (hbt.1 h)
          have h2p : Lib.hasPrefix uq.data.toList [47, 47] = false := by
            rw [ht] at hc ⊢
            cases t with
            | nil => rfl
            | cons c t =>
              have : c ≠ 47 := fun h => hc (by rw [h]; rfl)
              show ([47, 47] : List UInt8).isPrefixOf (47 :: c :: t) = false
              simp [List.isPrefixOf, Ne.symm this]
          refine Ev.step (fun k => ?_) (j_j1t bh bq ref uh uq bp up h1 h2 h3 h4 (hJ h2p))
          simp only [tollhouselaw10_UriJoins.j0]
          rw [if_neg (by decide), e1, hb, e2, hu]
          simp only [Option.bind_some]
          rw [if_pos trivial, if_pos trivial, if_neg hs, if_pos (by omega), e]
theorem text_head (h q : ByteArray) (p : Int) : Lib.hasPrefix (textU h p q).data.toList [47] = false := by
  unfold textU
  split
  · rw [toList_app, toList_app]; rfl
  · rfl
theorem parse_none : parseU ⟨#[]⟩ = noURL := by
  unfold parseU
  rw [if_neg]
  rw [toList_eq]
  decide
theorem UriJoins_pure (bh bq uh uq ref : ByteArray) (bp up : Int) (h1 : bh.size ≤ 1048576) (h2 : bq.size ≤ 1048576) (h3 : ref.size ≤ 1048576) (h4 : uq.size ≤ 1048576) (h5 : uh.size ≤ 1048576) : ∃ k, tollhouselaw10_UriJoins.f k bh bp bq uh up uq ref = some true := by
  have hT := text_size uh up uq
  have e0 := text_eq uh up uq (by omega) (by omega)
  have e1 := may_eq bh bp bq (by omega) (by omega)
  have e2 := may_eq uh up uq (by omega) (by omega)
  have hj := join_ev bh bp bq (textU uh up uq) (by omega) (by omega) (by omega)
  have hF := j_j0 bh bq ref uh uq bp up h1 h2 h3 h4 h5
  refine Ev.get (f := fun k => tollhouselaw10_UriJoins.f k bh bp bq uh up uq ref) ?_
  unfold tollhouselaw10_UriJoins.f
  rw [e0, e1, e2]
  simp only [Option.bind_some]
  refine Ev.bind hj (Ev.same (fun k => ?_) hF)
  unfold joinU
  rw [text_head, if_neg (show ¬ (false = true ∧ _) from fun h => by cases h.1)]
  cases hb : mayU bh bp bq with
  | false => rfl
  | true =>
    rw [if_pos rfl, if_pos rfl]
    cases hu : mayU uh up uq with
    | true =>
      rw [parse_text hu]
      simp
    | false =>
      have : textU uh up uq = ⟨#[]⟩ := by unfold textU; rw [hu]; rfl
      rw [this, parse_none]
      rfl
end Go.Proofs.YtjdlaofeenblkaaDoor.X

namespace Go.Proofs.YtjdlaofeenblkaaDoor.uriJoins
open Go.ChangeShapes Go.WideShapes Go.ChangeAt Go.RowKit Go.Proofs.YtjdlaofeenblkaaDoor Go.Proofs.YtjdlaofeenblkaaDoor.L Go.Proofs.YtjdlaofeenblkaaDoor.T Go.Proofs.YtjdlaofeenblkaaDoorW.PrintWords
set_option linter.unusedVariables false
set_option linter.unusedSimpArgs false
set_option maxRecDepth 100000
theorem own : ownKnob Tryd.prog.godebug = none := by kernel_rfl
theorem laidOut : laidOutB Tryd.prog = true := by kernel_rfl
/-- For every argument and every world that holds the listed variables. -/
theorem contract (H : Type) (enc : TypeId × Value → H) (W : World) (base : Nat) (args : Array Value) (ds gs : List (DataW H)) (before : List MemPlace)
    (hval : ∀ (j : Nat) t v, Tryd.f9.params[j]? = some t → args[j]? = some v → Value.okWide Tryd.prog W .any base t v)
    (hW : DataW.Whole enc Tryd.prog Tryd.f9.params.toList Rows.uriJoinsSpec.vars false W args.toList ds gs before) (B : Nat) (hB : B ≤ 1048576) (hk : Rows.uptoBulkAll (ds ++ gs) ≤ B) (hL : laidMetH Tryd.prog laidL W) (hS : W.ShapedOpen Tryd.prog) :
    Calls Tryd.prog 9 args W fun e W' => ∃ v, e = .returned v ∧ Rows.uriJoinsSpec.post enc Tryd.prog Tryd.f9 false true false false W args v W' := by
  have hG : Glob W := L.glob hL hS
  have hW' := hW
  obtain ⟨p, q, hA0, hV, rfl, hfz, hnd⟩ := hW
  have hA : DataW.TrodAll enc Tryd.prog W 0 (fun _ => true) true Tryd.f9.params.toList args.toList ds p := hA0
  rw [Tryd.params9] at hA hval
  obtain ⟨v0, vs0, d0, ds0, p0, q0, hargs, rfl, rfl, h0, r0⟩ := trodAll_cons hA
  obtain ⟨v1, vs1, d1, ds1, p1, q1, rfl, rfl, rfl, h1, r1⟩ := trodAll_cons r0
  obtain ⟨v2, vs2, d2, ds2, p2, q2, rfl, rfl, rfl, h2, r2⟩ := trodAll_cons r1
  obtain ⟨rfl, rfl, rfl⟩ := trodAll_nil r2
  obtain rfl : args = #[v0, v1, v2] := by cases args; simp_all
  obtain ⟨rfl, rfl⟩ := trodVars_none hV
  clear hA0
  simp only [List.cons_append, List.nil_append, List.append_nil, Rows.uptoBulkAll] at hk
  have k0 := h0
  have lt0 : ∀ x ∈ p0, x.block < W.heap.size := by obtain ⟨m, hm⟩ := k0; exact DataW.trod_lt m _ _ _ hm
  obtain ⟨fu0, hf0⟩ := h0
  obtain ⟨a0, K0, G0⟩ := X.opens_url H enc W _ _ fu0 _ _ hf0
  replace G0 := G0 B (show Rows.uptoBulk d0 ≤ B by omega)
  have hv0 : Value.okWide Tryd.prog W .any base 35 v0 := hval 0 35 v0 (by simp only [List.getElem?_toArray, List.getElem?_cons_zero, List.getElem?_cons_succ]) (by simp only [List.getElem?_toArray, List.getElem?_cons_zero, List.getElem?_cons_succ])
  obtain ⟨cs0, rfl, _⟩ := okWide_struct Tryd.underlying35 hv0
  have hcs0 := X.k35_open K0
  have ecs0 : cs0 = List.toArray _ := (Array.toArray_toList (xs := cs0)).symm.trans (congrArg List.toArray hcs0)
  subst ecs0
  have k1 := h1
  have lt1 : ∀ x ∈ p1, x.block < W.heap.size := by obtain ⟨m, hm⟩ := k1; exact DataW.trod_lt m _ _ _ hm
  obtain ⟨fu1, hf1⟩ := h1
  obtain ⟨a1, K1, G1⟩ := X.opens_url H enc W _ _ fu1 _ _ hf1
  replace G1 := G1 B (show Rows.uptoBulk d1 ≤ B by omega)
  have hv1 : Value.okWide Tryd.prog W .any base 35 v1 := hval 1 35 v1 (by simp only [List.getElem?_toArray, List.getElem?_cons_zero, List.getElem?_cons_succ]) (by simp only [List.getElem?_toArray, List.getElem?_cons_zero, List.getElem?_cons_succ])
  obtain ⟨cs1, rfl, _⟩ := okWide_struct Tryd.underlying35 hv1
  have hcs1 := X.k35_open K1
  have ecs1 : cs1 = List.toArray _ := (Array.toArray_toList (xs := cs1)).symm.trans (congrArg List.toArray hcs1)
  subst ecs1
  have k2 := h2
  have lt2 : ∀ x ∈ p2, x.block < W.heap.size := by obtain ⟨m, hm⟩ := k2; exact DataW.trod_lt m _ _ _ hm
  obtain ⟨fu2, hf2⟩ := h2
  obtain ⟨a2, K2, G2⟩ := (X.opens_string Tryd.underlying9) H enc W _ _ fu2 _ _ hf2
  replace G2 := G2 B (show Rows.uptoBulk d2 ≤ B by omega)
  have hv2 : Value.okWide Tryd.prog W .any base 9 v2 := hval 2 9 v2 (by simp only [List.getElem?_toArray, List.getElem?_cons_zero, List.getElem?_cons_succ]) (by simp only [List.getElem?_toArray, List.getElem?_cons_zero, List.getElem?_cons_succ])
  obtain ⟨x2, rfl⟩ := okWide_string Tryd.underlying9 hv2
  obtain rfl : a2 = x2 := (show x2 = a2 by simpa [Kd.int, Kd.bool, Kd.string, Kd.scalar, Value.cells] using K2).symm
  obtain ⟨k_, hp⟩ := X.UriJoins_pure a0.f0 a0.f2 a1.f0 a1.f2 a2 a0.f1 a1.f1 (Nat.le_trans G0.1 hB) (Nat.le_trans G0.2.2 hB) (Nat.le_trans G2 hB) (Nat.le_trans G1.2.2 hB) (Nat.le_trans G1.1 hB)
  refine (X.tollhouselaw10_UriJoins.calls _ _ _ _ _ _ _ _ _ _  hG rfl hp).mono ?_
  rintro e W' ⟨he, bel0⟩
  have bel : Below W.heap.size W W' := bel0
  subst he
  exact ⟨_, rfl, _, _, _, [], _, [], hW', trodAll_mk1 (shut_bool Tryd.underlying4 _), (trodAll_cons_mk (Below.trod laidOut (by kernel_rfl) (of_decide_eq_true (by kernel_rfl)) k0 bel lt0) (trodAll_cons_mk (Below.trod laidOut (by kernel_rfl) (of_decide_eq_true (by kernel_rfl)) k1 bel lt1) (trodAll_cons_mk (Below.trod laidOut (by kernel_rfl) (of_decide_eq_true (by kernel_rfl)) k2 bel lt2) trodAll_mk0))), rfl, bel.frame _, fun h => by cases h⟩
theorem reads (os : Os) {H : Type} (enc : TypeId × Value → H) : ∃ places, DataW.whole enc Tryd.prog ((laidWorld os).forCall (fun _ _ => 0) ⟨#[], #[.agg #[.string ByteArray.empty, .int .i64 0, .string ByteArray.empty], .agg #[.string ByteArray.empty, .int .i64 0, .string ByteArray.empty], .string ByteArray.empty], []⟩).memory Tryd.f9.params.toList Rows.uriJoinsSpec.vars false (#[.agg #[.string ByteArray.empty, .int .i64 0, .string ByteArray.empty], .agg #[.string ByteArray.empty, .int .i64 0, .string ByteArray.empty], .string ByteArray.empty] : Array Value).toList 8 = some ([.agg [.lit (.string []), .lit (.int .i64 0), .lit (.string [])], .agg [.lit (.string []), .lit (.int .i64 0), .lit (.string [])], .lit (.string [])], [], places) :=
  ⟨[], by kernel_rfl⟩
theorem liftedUpto (os : Os) (started : os.Started) (H : Type) (enc : TypeId × Value → H) (F : Stop.Interp) :
    ReturnsInHanded {} Tryd.checked os 9 .any ((Rows.OpenSpec.upto Rows.uriJoinsSpec).preRow enc Tryd.prog Tryd.f9 Rows.uriJoinsUptoRow.domain false Rows.uriJoinsUptoRow.laid) (((Rows.OpenSpec.upto Rows.uriJoinsSpec).at F).post enc Tryd.prog Tryd.f9 false true false false) := by
  obtain ⟨places, hx⟩ := reads os enc
  refine returnsInHanded_of_row (C := Tryd.checked) (s := Rows.OpenSpec.upto Rows.uriJoinsSpec) own started (by kernel_rfl) Tryd.func9
    (witness_row_atRef (enc := enc) (C := Tryd.checked) false (laidWorld os) #[.agg #[.string ByteArray.empty, .int .i64 0, .string ByteArray.empty], .agg #[.string ByteArray.empty, .int .i64 0, .string ByteArray.empty], .string ByteArray.empty] rfl (by kernel_rfl) (by kernel_rfl) (by kernel_rfl)
      (OpenSpec.preRow_of_cond 8 hx (by kernel_rfl) (fun k hk => by cases hk; kernel_rfl) (by kernel_rfl) (laid_met os _))) ?_
  intro W base args ds gs before hval hW _ hk _ hL hS _
  exact contract H enc W base args ds gs before hval hW 1048576 (Nat.le_refl _) (of_decide_eq_true (hk _ rfl)) hL hS
theorem saidUpto : Rows.UriJoinsUptoSaid :=
  OpenClaim.holds_of_cond 9 Tryd.f9 rfl rfl rfl rfl rfl rfl rfl ⟨rfl, rfl, rfl, rfl, rfl⟩ rfl rfl rfl rfl rfl (by kernel_rfl) Tryd.func9 (by kernel_rfl)
    (of_decide_eq_true (by kernel_rfl)) (by unfold Func.isWrapper; first | (rw [if_pos (by decide +kernel)]; kernel_rfl) | (rw [if_neg (by decide +kernel)]; exact ⟨rfl, rfl⟩))
    (fun os started H enc _ F => by rw [OpenClaim.pre_eq_preRow]; exact liftedUpto os started H enc F)
theorem plain (f : FuncId) (fn : Func) (hf : Tryd.pinned.checked.prog.funcNamed "tollhouse/tollhouselaw10.UriJoins" = some f) (hfn : Tryd.pinned.checked.prog.funcs[f]? = some fn) :
    true = Tryd.pinned.checked.prog.looks [] ∧ ∀ (j : Nat) t, fn.params[j]? = some t → Tryd.pinned.checked.prog.wantsStandIn t = false := by
  obtain rfl : f = 9 := Option.some.inj ((show Tryd.prog.funcNamed "tollhouse/tollhouselaw10.UriJoins" = some 9 by kernel_rfl).symm.trans hf) |>.symm
  obtain rfl : fn = Tryd.f9 := (Option.some.inj (Tryd.func9.symm.trans hfn)).symm
  refine ⟨by kernel_rfl, fun j t ht => ?_⟩
  rw [Tryd.params9] at ht
  have s35 : Tryd.prog.wantsStandIn 35 = false := by kernel_rfl
  have s9 : Tryd.prog.wantsStandIn 9 = false := by kernel_rfl
  have hm := Array.mem_of_getElem? ht
  simp only [List.mem_toArray, List.mem_cons, List.not_mem_nil, or_false] at hm
  rcases hm with rfl | rfl | rfl
  · exact s35
  · exact s35
  · exact s9
/-- THE CARD OF THE BOUNDED FORM. -/
theorem cardUpto : Rows.UriJoinsUptoCardSaid :=
  Claim7.holds_tied_plain_at .later [] _ _ _ _ saidUpto (fun _ h => by cases h) (by kernel_rfl) (fun _ h => by cases h) uriJoinsUpto_row_tie rfl ⟨rfl, rfl⟩ (by kernel_rfl) rfl plain (by kernel_rfl)
#print axioms cardUpto
end Go.Proofs.YtjdlaofeenblkaaDoor.uriJoins
namespace Go.Proofs.YtjdlaofeenblkaaDoor
/-- The statement, under a short name. -/
theorem uriJoins_card : Rows.UriJoinsUptoCardSaid := uriJoins.cardUpto
end Go.Proofs.YtjdlaofeenblkaaDoor
