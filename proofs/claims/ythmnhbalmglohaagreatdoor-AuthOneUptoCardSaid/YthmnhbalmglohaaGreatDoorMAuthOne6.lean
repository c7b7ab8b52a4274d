/- The law AuthOne: what the walk shows, put together with the plain law, as the given statement asks it: true for every argument of bulk at most 1048576. -/
import Derived.Test.YthmnhbalmglohaaGreatDoorMAuthOne1
import Derived.Lib.Split
import Derived.Shelf.Strings.Split
import Derived.Lib.IndexBytes
import Derived.Test.YthmnhbalmglohaaGreatDoorMAuthOne3
import Derived.Test.YthmnhbalmglohaaGreatDoorMAuthOne5
import Derived.Test.YthmnhbalmglohaaGreatDoorCards
import Derived.Test.YthmnhbalmglohaaGreatDoorTie
import Derived.WalkKit
import Derived.ProofKit
import Derived.OpenShut
import Derived.ShutString
import Derived.ChangeOld
import Derived.Below
import Derived.SizedLaws
import Derived.Deep.DeepHandedRow
import Derived.Deep.DeepWitnessRowRef
/- With rounds enough, a printed function tells a value: how that is put together; and what a byte string's places hold. -/
namespace Go.Proofs.YthmnhbalmglohaaGreatDoor.X
open Go.RowKit Go.Proofs.YthmnhbalmglohaaGreatDoorW.PrintWords Go.Proofs.YthmnhbalmglohaaGreatDoor.T
set_option linter.unusedSimpArgs false
set_option linter.unusedVariables false
/-- With rounds enough f tells r. -/
def Ev {α : Type} (f : Nat → Option α) (r : α) : Prop := ∃ K, ∀ k, K ≤ k → f k = some r
theorem Ev.const {α : Type} {f : Nat → Option α} {r : α} (h : ∀ k, f k = some r) : Ev f r := ⟨0, fun k _ => h k⟩
theorem Ev.done {α : Type} {f : Nat → Option α} {r : α} (h : ∀ k, f (k + 1) = some r) : Ev f r := ⟨1, fun k hk => by obtain ⟨j, rfl⟩ : ∃ j, k = j + 1 := ⟨k - 1, by omega⟩; exact h j⟩
theorem Ev.step {α : Type} {f g : Nat → Option α} {r : α} (h : ∀ k, f (k + 1) = g k) (hg : Ev g r) : Ev f r := by
  obtain ⟨K, hK⟩ := hg
  refine ⟨K + 1, fun k hk => ?_⟩
  obtain ⟨j, rfl⟩ : ∃ j, k = j + 1 := ⟨k - 1, by omega⟩
  rw [h j]; exact hK j (by omega)
theorem Ev.same {α : Type} {f g : Nat → Option α} {r : α} (h : ∀ k, f k = g k) (hg : Ev g r) : Ev f r := by
  obtain ⟨K, hK⟩ := hg
  exact ⟨K, fun k hk => by rw [h k]; exact hK k hk⟩
theorem Ev.bind {α β : Type} {f : Nat → Option α} {g : Nat → α → Option β} {a : α} {r : β} (hf : Ev f a) (hg : Ev (fun k => g k a) r) : Ev (fun k => (f k).bind (g k)) r := by
  obtain ⟨K, hK⟩ := hf
  obtain ⟨L, hL⟩ := hg
  refine ⟨max K L, fun k hk => ?_⟩
  show (f k).bind (g k) = _
  rw [hK k (by omega)]
  exact hL k (by omega)
theorem Ev.stepBind {α β : Type} {F : Nat → Option β} {f : Nat → Option α} {g : Nat → α → Option β} {a : α} {r : β} (h : ∀ k, F (k + 1) = (f k).bind (g k)) (hf : Ev f a) (hg : Ev (fun k => g k a) r) : Ev F r := Ev.step h (Ev.bind hf hg)
theorem Ev.of_mono {α : Type} {f : Nat → Option α} {r : α} (hm : ∀ k, LeO (f k) (f (k + 1))) {K : Nat} (h : f K = some r) : Ev f r := by
  refine ⟨K, fun k hk => ?_⟩
  obtain ⟨d, rfl⟩ : ∃ d, k = K + d := ⟨k - K, by omega⟩
  clear hk
  induction d with
  | zero => exact h
  | succ d ih => exact hm (K + d) r ih
theorem Ev.get {α : Type} {f : Nat → Option α} {r : α} (h : Ev f r) : ∃ k, f k = some r := by obtain ⟨K, hK⟩ := h; exact ⟨K, hK K (Nat.le_refl _)⟩
theorem wrap_id {n : Int} (h : -9223372036854775808 ≤ n) (h2 : n ≤ 9223372036854775807) : wrap64 n = n := by unfold wrap64; omega
/-! ### a byte string's places -/
theorem btAt {s : ByteArray} {j : Nat} (h : j < s.size) : bt s (j : Int) = ((s[j]'h).toNat : Int) := by
  unfold bt
  rw [dif_pos (by simpa using h)]
  rfl
theorem list_at {s : ByteArray} {j : Nat} (h : j < s.size) : s.data.toList[j]? = some (s[j]'h) := by
  rw [List.getElem?_eq_getElem (by rw [size_toList]; exact h)]
  rfl
theorem bt_is {s : ByteArray} {j : Nat} (h : j < s.size) (c : UInt8) : bt s (j : Int) = (c.toNat : Int) ↔ s.data.toList[j]? = some c := by
  rw [btAt h, list_at h]
  constructor
  · intro e
    have : (s[j]'h).toNat = c.toNat := by omega
    rw [UInt8.toNat_inj.1 this]
  · intro e; rw [Option.some.inj e]
theorem bt_sub {s : ByteArray} {a j : Nat} (h : a + j < s.size) : bt (s.extract a s.size) (j : Int) = bt s ((a + j : Nat) : Int) := by
  have hj : j < (s.extract a s.size).size := by rw [ByteArray.size_extract]; omega
  rw [btAt hj, btAt h, ByteArray.getElem_extract]
theorem drop_at {s : ByteArray} {j : Nat} (h : j < s.size) : s.data.toList.drop j = (s[j]'h) :: s.data.toList.drop (j + 1) := by
  rw [List.drop_eq_getElem_cons (by rw [size_toList]; exact h)]
  rfl
theorem drop_end {s : ByteArray} {j : Nat} (h : s.size ≤ j) : s.data.toList.drop j = [] := List.drop_eq_nil_of_le (by rw [size_toList]; exact h)
end Go.Proofs.YthmnhbalmglohaaGreatDoor.X

/- The parts of a text between signs: plain. -/
namespace Go.Proofs.YthmnhbalmglohaaGreatDoor.T
def partsB (c : UInt8) (s : ByteArray) : List ByteArray := Lib.splitB ⟨#[c]⟩ 0 (Lib.countB s ⟨#[c]⟩) s
theorem splitK_size (sep : ByteArray) : ∀ (k : Nat) (s : ByteArray), ∀ x ∈ Lib.splitB sep 0 k s, x.size ≤ s.size
  | 0, s, x, hx => by simp [Lib.splitB] at hx; subst hx; exact Nat.le_refl _
  | k + 1, s, x, hx => by
    unfold Lib.splitB at hx
    split at hx
    · simp at hx; subst hx; exact Nat.le_refl _
    · rcases List.mem_cons.1 hx with rfl | hx
      · rw [ByteArray.size_extract]; omega
      · have := splitK_size sep k _ x hx
        rw [ByteArray.size_extract] at this; omega
theorem parts_size (c : UInt8) (s : ByteArray) : ∀ x ∈ partsB c s, x.size ≤ s.size := splitK_size _ _ s
theorem parts_len (c : UInt8) (s : ByteArray) : (partsB c s).length = Lib.countB s ⟨#[c]⟩ + 1 := Lib.splitB_all ⟨#[c]⟩ (Nat.le_refl _) 0 _ s rfl
theorem parts_le (c : UInt8) (s : ByteArray) : (partsB c s).length ≤ s.size + 1 := by
  rw [parts_len]
  have := Lib.countB_le ⟨#[c]⟩ (Nat.le_refl _) s.size s (Nat.le_refl _)
  omega
end Go.Proofs.YthmnhbalmglohaaGreatDoor.T

/- Small plain lemmas on bytes and rounds. -/
namespace Go.Proofs.YthmnhbalmglohaaGreatDoor.X
open Go.RowKit Go.Proofs.YthmnhbalmglohaaGreatDoorW.PrintWords Go.Proofs.YthmnhbalmglohaaGreatDoor.T
set_option linter.unusedSimpArgs false
set_option linter.unusedVariables false
theorem wrap_succ {n : Nat} (h : n < 9223372036854775807) : wrap64 ((n : Int) + 1) = ((n + 1 : Nat) : Int) := by unfold wrap64; omega
theorem isDig_iff (c : UInt8) : isDig c = true ↔ (48 ≤ c.toNat ∧ c.toNat ≤ 57) := by
  have h : ∀ n : Fin 256, isDig (UInt8.ofNat n.val) = true ↔ (48 ≤ (UInt8.ofNat n.val).toNat ∧ (UInt8.ofNat n.val).toNat ≤ 57) := by decide +kernel
  have := h ⟨c.toNat, c.toNat_lt⟩
  simpa using this
theorem rd_list (ls : List ByteArray) (i : Nat) (y : ByteArray) (h : ls[i]? = some y) : rdOf ByteArray.empty ls (i : Int) = y := by
  unfold rdOf
  rw [Int.toNat_natCast, List.getD_eq_getElem?_getD, h]; rfl
theorem extract_all (s : ByteArray) : s.extract 0 s.size = s := by simp
theorem toList_app (a b : ByteArray) : (a ++ b).data.toList = a.data.toList ++ b.data.toList := by simp
theorem size_app (a b : ByteArray) : (a ++ b).size = a.size + b.size := by simp
theorem toList_eq (a : ByteArray) : a.toList = a.data.toList := Lib.toList_data a
theorem bytes_mk (s : ByteArray) (l : List UInt8) (h : s.data.toList = l) : s = ⟨l.toArray⟩ := by cases s; subst h; rfl
theorem bytes_ext {a b : ByteArray} (h : a.data.toList = b.data.toList) : a = b := by
  cases a; cases b
  simp only at h
  congr 1
  exact Array.ext' h
/-! ### the parts of a text between signs c -/
theorem sign_index (c : UInt8) (t : ByteArray) {j : Nat} (h : t.data.toList[j]? = some c) (hno : ∀ k, k < j → t.data.toList[k]? ≠ some c) : Lib.indexB t ⟨#[c]⟩ = j := by
  have e : Lib.indexB t ⟨#[c]⟩ = Lib.indexByte t.data.toList c := Lib.index_one _ _
  rw [e]
  rcases Int.lt_or_le (Lib.indexByte t.data.toList c) 0 with hm | hm
  · have h1 := Lib.indexByte_ge t.data.toList c
    exact absurd h (Lib.indexByte_none (by omega) j)
  · obtain ⟨o, ho⟩ : ∃ o : Nat, Lib.indexByte t.data.toList c = o := ⟨(Lib.indexByte t.data.toList c).toNat, by omega⟩
    obtain ⟨p1, p2⟩ := Lib.indexByte_some ho
    rw [ho]
    rcases Nat.lt_trichotomy o j with hlt | rfl | hgt
    · exact absurd p1 (hno o hlt)
    · rfl
    · exact absurd h (p2 j hgt)
theorem sign_none (c : UInt8) (t : ByteArray) (hno : ∀ k : Nat, t.data.toList[k]? ≠ some c) : Lib.indexB t ⟨#[c]⟩ = -1 := by
  have e : Lib.indexB t ⟨#[c]⟩ = Lib.indexByte t.data.toList c := Lib.index_one _ _
  rw [e]
  have h1 := Lib.indexByte_ge t.data.toList c
  rcases Int.lt_or_le (Lib.indexByte t.data.toList c) 0 with hm | hm
  · omega
  · obtain ⟨o, ho⟩ : ∃ o : Nat, Lib.indexByte t.data.toList c = o := ⟨(Lib.indexByte t.data.toList c).toNat, by omega⟩
    exact absurd (Lib.indexByte_some ho).1 (hno o)
theorem parts_no (c : UInt8) (t : ByteArray) (hno : ∀ k : Nat, t.data.toList[k]? ≠ some c) : partsB c t = [t] := Lib.splitB_miss _ _ _ _ (sign_none c t hno)
theorem parts_hit (c : UInt8) (t : ByteArray) (j : Nat) (h : t.data.toList[j]? = some c) (hno : ∀ k, k < j → t.data.toList[k]? ≠ some c) : partsB c t = t.extract 0 j :: partsB c (t.extract (j + 1) t.size) := by
  have hx := sign_index c t h hno
  unfold partsB
  have hz : 1 ≤ (⟨#[c]⟩ : ByteArray).size := Nat.le_refl _
  rw [Lib.countB_hit t ⟨#[c]⟩ j hz hx, Nat.add_comm 1, Lib.splitB_hit _ _ _ _ _ hx]
  rfl
theorem mem_at {α : Type} {l : List α} {c : α} (h : c ∉ l) (k : Nat) : l[k]? ≠ some c := fun e => h (List.mem_of_getElem? e)
theorem parts_one (c : UInt8) (s : ByteArray) (h : c ∉ s.data.toList) : partsB c s = [s] := parts_no c s (fun k => mem_at h k)
theorem parts_cons (c : UInt8) (s : ByteArray) (a b : List UInt8) (hs : s.data.toList = a ++ c :: b) (ha : c ∉ a) : partsB c s = ⟨a.toArray⟩ :: partsB c ⟨b.toArray⟩ := by
  have hz := size_toList s
  rw [parts_hit c s a.length (by rw [hs]; simp) (fun k hk => by rw [hs, List.getElem?_append_left hk]; exact mem_at ha k)]
  have e1 : s.extract 0 a.length = ⟨a.toArray⟩ := bytes_mk _ _ (by rw [Lib.extract_from_zero, hs]; simp)
  have e2 : s.extract (a.length + 1) s.size = ⟨b.toArray⟩ := bytes_mk _ _ (by rw [Lib.extract_to_end, hs, List.drop_append]; simp)
  rw [e1, e2]
/-- what stands ahead of the first c, and behind it -/
theorem split_first (c : UInt8) : ∀ l : List UInt8, c ∈ l → ∃ a b, l = a ++ c :: b ∧ c ∉ a
  | x :: t, h => by
    by_cases e : x = c
    · subst e; exact ⟨[], t, rfl, by simp⟩
    · obtain ⟨a, b, rfl, hn⟩ := split_first c t (by
        rcases List.mem_cons.1 h with h | h
        · exact absurd h.symm e
        · exact h)
      refine ⟨x :: a, b, rfl, fun hm => ?_⟩
      rcases List.mem_cons.1 hm with h | h
      · exact e h.symm
      · exact hn h
theorem split_unique (c : UInt8) : ∀ {a a' b b' : List UInt8}, a ++ c :: b = a' ++ c :: b' → c ∉ a → c ∉ a' → a = a' ∧ b = b'
  | [], [], b, b', h, _, _ => by injection h with _ h; exact ⟨rfl, h⟩
  | [], y :: t, b, b', h, _, hn => by
    injection h with h1 _
    exact absurd (List.mem_cons.2 (.inl h1)) hn
  | x :: t, [], b, b', h, hn, _ => by
    injection h with h1 _
    exact absurd (List.mem_cons.2 (.inl h1.symm)) hn
  | x :: t, y :: u, b, b', h, h1, h2 => by
    injection h with e1 e2
    obtain ⟨r1, r2⟩ := split_unique c e2 (fun hm => h1 (List.mem_cons_of_mem _ hm)) (fun hm => h2 (List.mem_cons_of_mem _ hm))
    exact ⟨by rw [e1, r1], r2⟩
/-- three parts: how they stand -/
theorem parts_three (c : UInt8) (s p0 p1 p2 : ByteArray) (h : partsB c s = [p0, p1, p2]) : s.data.toList = p0.data.toList ++ c :: (p1.data.toList ++ c :: p2.data.toList) ∧ c ∉ p0.data.toList ∧ c ∉ p1.data.toList ∧ c ∉ p2.data.toList := by
  by_cases h0 : c ∈ s.data.toList
  · obtain ⟨a, b, e, ha⟩ := split_first c _ h0
    rw [parts_cons c s a b e ha] at h
    injection h with q0 h
    by_cases h1 : c ∈ b
    · obtain ⟨a1, b1, e1, ha1⟩ := split_first c _ h1
      rw [parts_cons c ⟨b.toArray⟩ a1 b1 e1 ha1] at h
      injection h with q1 h
      by_cases h2 : c ∈ b1
      · obtain ⟨a2, b2, e2, ha2⟩ := split_first c _ h2
        rw [parts_cons c ⟨b1.toArray⟩ a2 b2 e2 ha2] at h
        injection h with _ h
        have := parts_len c ⟨b2.toArray⟩
        rw [h] at this
        simp at this
      · rw [parts_one c ⟨b1.toArray⟩ h2] at h
        injection h with q2 _
        subst q0 q1 q2
        exact ⟨by rw [e]; show a ++ c :: b = _; rw [show b = a1 ++ c :: b1 from e1], ha, ha1, h2⟩
    · rw [parts_one c ⟨b.toArray⟩ h1] at h
      injection h with _ h
      cases h
  · rw [parts_one c s h0] at h
    injection h with _ h
    cases h
theorem dot_prefix (h : ByteArray) : Lib.hasPrefix h.data.toList [46] = (decide (0 < h.size) && bt h 0 == 46) := by
  have hl := size_toList h
  unfold Lib.hasPrefix bt
  by_cases hs : 0 < h.size
  · rw [dif_pos (by simpa using hs)]
    have he : h.data.toList = h[0] :: h.data.toList.tail := by
      cases hd : h.data.toList with
      | nil => rw [hd] at hl; simp at hl; omega
      | cons a t =>
        have : h[0] = h.data.toList[0]'(by rw [hl]; exact hs) := rfl
        simp [this, hd]
    rw [he, decide_eq_true hs]
    show ((46 : UInt8) == h[0] && ([] : List UInt8).isPrefixOf h.data.toList.tail) = _
    have e0 : ([] : List UInt8).isPrefixOf h.data.toList.tail = true := by cases h.data.toList.tail <;> rfl
    rw [e0, Bool.and_true, Bool.true_and, Bool.eq_iff_iff]
    simp only [beq_iff_eq]
    constructor
    · intro e; show ((h[0]).toNat : Int) = 46; rw [← e]; rfl
    · intro e
      have e2 : h[0].toNat = 46 := by have : ((h[0]).toNat : Int) = 46 := e; omega
      exact (UInt8.toNat_inj.1 (by rw [e2]; rfl)).symm
  · have : h.data.toList = [] := List.eq_nil_of_length_eq_zero (by omega)
    rw [this, decide_eq_false hs]
    rfl
end Go.Proofs.YthmnhbalmglohaaGreatDoor.X

/- What fields of one name, credentials and held tokens are, in plain words (no document's answer in it). -/
namespace Go.Proofs.YthmnhbalmglohaaGreatDoor.X
open Go.RowKit Go.Proofs.YthmnhbalmglohaaGreatDoorW.PrintWords Go.Proofs.YthmnhbalmglohaaGreatDoorW.PrintMore Go.Proofs.YthmnhbalmglohaaGreatDoor.T
set_option linter.unusedSimpArgs false
set_option linter.unusedVariables false
theorem lowC_nat (c : UInt8) : ((lowC c).toNat : Int) = if (c.toNat : Int) ≥ 65 then (if (c.toNat : Int) ≤ 90 then ((c.toNat : Int) + 32) % 256 else (c.toNat : Int)) else (c.toNat : Int) := by
  have h : ∀ n : Fin 256, ((lowC (UInt8.ofNat n.val)).toNat : Int) = if ((UInt8.ofNat n.val).toNat : Int) ≥ 65 then (if ((UInt8.ofNat n.val).toNat : Int) ≤ 90 then (((UInt8.ofNat n.val).toNat : Int) + 32) % 256 else ((UInt8.ofNat n.val).toNat : Int)) else ((UInt8.ofNat n.val).toNat : Int) := by decide +kernel
  have := h ⟨c.toNat, c.toNat_lt⟩
  simpa using this
theorem ints_snoc (l : List UInt8) (c : UInt8) : ints (l ++ [c]) = ints l ++ [(c.toNat : Int)] := by unfold ints; rw [List.map_append]; rfl
def sameL (a b : ByteArray) : Bool := (lowerB a).toList == (lowerB b).toList
theorem same_eq (a b : ByteArray) (ha : a.size ≤ 4294967296) (hb : b.size ≤ 4294967296) : text_Same.f a b = some (sameL a b) := by
  have e1 : text_Lower.f a = some (lowerB a) := by unfold text_Lower.f; rw [if_pos (by omega)]
  have e2 : text_Lower.f b = some (lowerB b) := by unfold text_Lower.f; rw [if_pos (by omega)]
  unfold text_Same.f
  rw [e1, e2]; rfl
def getL (key : ByteArray) (l : List S48) : List ByteArray := (l.filter fun x => sameL x.f0 key).map (·.f1)
theorem getL_snoc (key : ByteArray) (l : List S48) (x : S48) : getL key (l ++ [x]) = getL key l ++ (if sameL x.f0 key = true then [x.f1] else []) := by
  unfold getL
  rw [List.filter_append, List.map_append]
  cases h : sameL x.f0 key with
  | true => rw [if_pos rfl, List.filter_cons_of_pos (by simpa using h)]; rfl
  | false => rw [if_neg (by decide), List.filter_cons_of_neg (by simp [h])]; rfl
theorem getL_len (key : ByteArray) (l : List S48) : (getL key l).length ≤ l.length := by unfold getL; rw [List.length_map]; exact List.length_filter_le _ _
theorem rd_field (l : List S48) (i : Nat) (x : S48) (h : l[i]? = some x) : rd_T48 l (i : Int) = x := by
  unfold rd_T48
  rw [Int.toNat_natCast, List.getD_eq_getElem?_getD, h]; rfl
theorem get_go (key : ByteArray) (hk : key.size ≤ 4294967296) (l : List S48) (hl : l.length ≤ 4294967000) (hx : ∀ x ∈ l, x.f0.size ≤ 4294967000) : ∀ (t : List S48) (i : Nat), l.drop i = t → i ≤ l.length →
    Ev (fun k => head_Get.l0 k key (getL key (l.take i)) l (l.length : Int) (i : Int)) (getL key l)
  | [], i, ht, hi => by
    have hil : l.length ≤ i := by
      have := congrArg List.length ht
      simp at this; omega
    refine Ev.done fun k => ?_
    simp only [head_Get.l0]
    rw [if_neg (by omega), List.take_of_length_le hil]
  | x :: t, i, ht, hi => by
    have hil : i < l.length := by
      have := congrArg List.length ht
      simp at this; omega
    have hix : l[i]? = some x := by
      have : (l.drop i)[0]? = some x := by rw [ht]; rfl
      rw [List.getElem?_drop] at this
      simpa using this
    have ht2 : l.drop (i + 1) = t := by rw [← List.drop_drop, ht]; rfl
    have ih := get_go key hk l hl hx t (i + 1) ht2 (by omega)
    have hS := same_eq x.f0 key (by have := hx x (List.mem_of_getElem? hix); omega) hk
    have etk : l.take (i + 1) = l.take i ++ [x] := by rw [List.take_add_one, hix]; rfl
    rw [etk, getL_snoc] at ih
    have hL : (getL key (l.take i)).length < 8796093022208 := by
      have := getL_len key (l.take i)
      rw [List.length_take] at this; omega
    refine Ev.step (fun k => ?_) ih
    simp only [head_Get.l0]
    rw [if_pos (by omega), if_pos (by omega), if_pos (by omega), rd_field l i x hix, wrap_succ (by omega), if_pos hL, hS]
    cases h : sameL x.f0 key with
    | true => simp
    | false => simp
theorem get_ev (key : ByteArray) (hk : key.size ≤ 4294967296) (l : List S48) (hl : l.length ≤ 4294967000) (hx : ∀ x ∈ l, x.f0.size ≤ 4294967000) : Ev (fun k => head_Get.f k l key) (getL key l) := get_go key hk l hl hx l 0 rfl (Nat.zero_le _)
theorem index_no (c : UInt8) : ∀ l : List UInt8, c ∉ l → Lib.index l [c] = -1
  | [], _ => rfl
  | x :: t, h => by
    have h1 : c ≠ x := fun e => h (by rw [e]; exact List.mem_cons_self ..)
    have ih := index_no c t (fun m => h (List.mem_cons_of_mem _ m))
    have hp : List.isPrefixOf [c] (x :: t) = false := by simp [List.isPrefixOf, h1]
    rw [Lib.index, hp, ih]; rfl
theorem index_app (c : UInt8) (b : List UInt8) : ∀ a : List UInt8, c ∉ a → Lib.index (a ++ c :: b) [c] = a.length
  | [], _ => by
    have hp : List.isPrefixOf [c] (c :: b) = true := by simp [List.isPrefixOf]
    rw [List.nil_append, Lib.index, hp]; rfl
  | x :: t, h => by
    have h1 : c ≠ x := fun e => h (by rw [e]; exact List.mem_cons_self ..)
    have ih := index_app c b t (fun m => h (List.mem_cons_of_mem _ m))
    have hp : List.isPrefixOf [c] (x :: (t ++ c :: b)) = false := by simp [List.isPrefixOf, h1]
    rw [List.cons_append, Lib.index, hp, ih]
    have e : ((t.length : Int) == -1) = false := by simp
    rw [e]
    simp
theorem cut_no (c : UInt8) (l : List UInt8) (h : c ∉ l) : Lib.cut l [c] = (l, [], false) := by
  unfold Lib.cut
  rw [index_no c l h, if_neg (by decide)]
theorem cut_app (c : UInt8) (a b : List UInt8) (h : c ∉ a) : Lib.cut (a ++ c :: b) [c] = (a, b, true) := by
  unfold Lib.cut
  rw [index_app c b a h, if_pos (by omega), Int.toNat_natCast, List.take_left' rfl]
  have e : (a ++ c :: b).drop (a.length + [c].length) = b := by
    rw [← List.drop_drop, List.drop_left' rfl]; rfl
  rw [e]
def blankL (l : List UInt8) : List UInt8 := Lib.trimLeftB l 32
def credOut (l : List UInt8) : ByteArray × Bool := if authMayB ⟨l.toArray⟩ = true then (⟨l.toArray⟩, true) else (⟨#[]⟩, false)
def bearerB : ByteArray := ⟨#[98, 101, 97, 114, 101, 114]⟩
/-- what a credential tells -/
def credB (s : ByteArray) : ByteArray × Bool := if sameL ⟨(Lib.cut s.data.toList [32]).1.toArray⟩ bearerB = true then credOut (blankL (Lib.cut s.data.toList [32]).2.1) else (⟨#[]⟩, false)
theorem blank_len (l : List UInt8) : (blankL l).length ≤ l.length := (List.dropWhile_sublist _).length_le
theorem cut_len (l : List UInt8) : (Lib.cut l [32]).1.length ≤ l.length ∧ (Lib.cut l [32]).2.1.length ≤ l.length := by
  unfold Lib.cut
  split
  · exact ⟨by rw [List.length_take]; omega, by rw [List.length_drop]; omega⟩
  · exact ⟨Nat.le_refl _, Nat.zero_le _⟩
theorem cred_eq (s : ByteArray) (hs : s.size ≤ 4294967000) : auth_Credential.f s = some (credB s) := by
  have hz := cut_len s.data.toList
  rw [size_toList] at hz
  unfold auth_Credential.f strings_Cut.f
  rw [if_pos (by omega)]
  simp only [Option.bind_some]
  unfold strings_TrimLeft.f
  rw [if_pos rfl]
  simp only [Option.bind_some]
  have e1 : (⟨(Lib.cut s.data.toList (⟨#[32]⟩ : ByteArray).data.toList).1.toArray⟩ : ByteArray) = ⟨(Lib.cut s.data.toList [32]).1.toArray⟩ := rfl
  have hS := same_eq ⟨(Lib.cut s.data.toList [32]).1.toArray⟩ bearerB (by show (Lib.cut s.data.toList [32]).1.toArray.size ≤ _; rw [List.size_toArray]; omega) (by decide)
  rw [show text_Same.f (⟨(Lib.cut s.data.toList (⟨#[32]⟩ : ByteArray).data.toList).1.toArray⟩ : ByteArray) (⟨#[98, 101, 97, 114, 101, 114]⟩ : ByteArray) = some (sameL ⟨(Lib.cut s.data.toList [32]).1.toArray⟩ bearerB) from hS]
  simp only [Option.bind_some]
  have ht : (⟨(Lib.trimLeftB (⟨(Lib.cut s.data.toList (⟨#[32]⟩ : ByteArray).data.toList).2.1.toArray⟩ : ByteArray).data.toList 32).toArray⟩ : ByteArray) = ⟨(blankL (Lib.cut s.data.toList [32]).2.1).toArray⟩ := rfl
  rw [ht]
  have hM : auth_May.f (⟨(blankL (Lib.cut s.data.toList [32]).2.1).toArray⟩ : ByteArray) = some (authMayB ⟨(blankL (Lib.cut s.data.toList [32]).2.1).toArray⟩) := by
    unfold auth_May.f
    rw [if_pos]
    show (blankL (Lib.cut s.data.toList [32]).2.1).toArray.size ≤ _
    rw [List.size_toArray]
    have := blank_len (Lib.cut s.data.toList [32]).2.1
    omega
  rw [hM]
  unfold credB credOut
  cases sameL ⟨(Lib.cut s.data.toList [32]).1.toArray⟩ bearerB with
  | false => simp
  | true => simp only [if_true, Option.bind_some]; split <;> rfl
theorem extract_drop (s : ByteArray) (i : Nat) (hi : i ≤ s.size) : s.extract i s.size = ⟨(s.data.toList.drop i).toArray⟩ := bytes_ext (by
  simp only [ByteArray.data_extract, Array.toList_extract, List.extract_eq_take_drop]
  rw [List.take_of_length_le]
  rw [List.length_drop, size_toList]; exact Nat.le_refl _)
theorem same_bearer (a : List UInt8) : sameL ⟨a.toArray⟩ bearerB = decide (a.map lowC = [98, 101, 97, 114, 101, 114]) := by
  unfold sameL
  rw [toList_eq, toList_eq]
  show (a.map lowC == List.map lowC [98, 101, 97, 114, 101, 114]) = _
  have e : List.map lowC [98, 101, 97, 114, 101, 114] = [98, 101, 97, 114, 101, 114] := by decide
  rw [e, Bool.eq_iff_iff]
  simp
theorem may_none : authMayB ⟨#[]⟩ = false := by decide +kernel
theorem credOut_nil : credOut [] = (⟨#[]⟩, false) := by
  unfold credOut
  rw [show (⟨([] : List UInt8).toArray⟩ : ByteArray) = ⟨#[]⟩ from rfl, may_none, if_neg (by decide)]
theorem lowC_32 (l : List UInt8) (h : (32 : UInt8) ∈ l) : l.map lowC ≠ [98, 101, 97, 114, 101, 114] := fun e => by
  have : lowC 32 ∈ l.map lowC := List.mem_map_of_mem h
  rw [e] at this
  revert this
  decide
theorem first_six (s : ByteArray) (h : 6 ≤ s.size) : (s.extract 0 6).data.toList = s.data.toList.take 6 := by
  simp [ByteArray.data_extract, Array.toList_extract, List.extract_eq_take_drop]
def keyB : ByteArray := ⟨#[112, 114, 111, 120, 121, 45, 97, 117, 116, 104, 111, 114, 105, 122, 97, 116, 105, 111, 110]⟩
/-- whether fields hold a token -/
def holdsB (token : ByteArray) (l : List S48) : Bool := match getL keyB l with
  | [v] => (credB v).2 && ((credB v).1.toList == token.toList)
  | _ => false
theorem getL_mem {key v : ByteArray} {l : List S48} (h : v ∈ getL key l) : ∃ x ∈ l, x.f1 = v := by
  unfold getL at h
  obtain ⟨x, hx, e⟩ := List.mem_map.1 h
  exact ⟨x, (List.mem_filter.1 hx).1, e⟩
theorem holds_ev (token : ByteArray) (l : List S48) (hl : l.length ≤ 4294967000) (hx : ∀ x ∈ l, x.f0.size ≤ 4294967000 ∧ x.f1.size ≤ 4294967000) : Ev (fun k => auth_Holds.f k token l) (holdsB token l) := by
  have hg := get_ev keyB (by decide) l hl (fun x h => (hx x h).1)
  refine Ev.same (g := fun k => (head_Get.f k l keyB).bind fun t145 => (if (t145.length : Int) = 1 then (if 0 < (t145.length : Int) then ((auth_Credential.f (rdOf ByteArray.empty t145 0)).bind fun bt149 => (if bt149.2 = true then (some (bt149.1.toList == token.toList)) else (some false))) else (none)) else (some false))) (fun k => by unfold auth_Holds.f; rfl) (Ev.bind hg ?_)
  unfold holdsB
  have hv : ∀ v ∈ getL keyB l, v.size ≤ 4294967000 := fun v h => by obtain ⟨x, h1, rfl⟩ := getL_mem h; exact (hx x h1).2
  generalize getL keyB l = vs at hv
  match vs, hv with
  | [], _ => exact Ev.const fun _ => rfl
  | [v], hv =>
    have hc := cred_eq v (hv v (List.mem_cons_self ..))
    have e : rdOf ByteArray.empty [v] 0 = v := rfl
    refine Ev.const fun _ => ?_
    rw [e, hc]
    simp only [Option.bind_some]
    cases h : (credB v).2 <;> simp
  | a :: b :: t, _ => exact Ev.const fun _ => by rw [if_neg (by simp only [List.length_cons]; omega)]
def ofL (tok : ByteArray) : List S48 := [⟨⟨#[80, 114, 111, 120, 121, 45, 65, 117, 116, 104, 111, 114, 105, 122, 97, 116, 105, 111, 110]⟩, (⟨#[66, 101, 97, 114, 101, 114, 32]⟩ : ByteArray) ++ tok⟩]
theorem of_eq (tok : ByteArray) (h : tok.size ≤ 4294967296) : tollhouselaw15_of.f tok = some (ofL tok) := by
  unfold tollhouselaw15_of.f
  rw [if_pos (by omega)]; rfl
theorem bytes_of_list (s : ByteArray) : (⟨s.data.toList.toArray⟩ : ByteArray) = s := bytes_ext rfl
theorem key_same : sameL (⟨#[80, 114, 111, 120, 121, 45, 65, 117, 116, 104, 111, 114, 105, 122, 97, 116, 105, 111, 110]⟩ : ByteArray) keyB = true := by decide +kernel
theorem holds_one (l : List S48) : ∃ c, ∀ tok, holdsB tok l = true → tok.data.toList = c := by
  unfold holdsB
  generalize getL keyB l = vs
  match vs with
  | [] => exact ⟨[], fun _ h => by simp at h⟩
  | [v] => exact ⟨(credB v).1.data.toList, fun tok h => by
      have h2 : ((credB v).2 && ((credB v).1.toList == tok.toList)) = true := h
      rw [Bool.and_eq_true, toList_eq, toList_eq, beq_iff_eq] at h2
      exact h2.2.symm⟩
  | a :: b :: t => exact ⟨[], fun _ h => by simp at h⟩
end Go.Proofs.YthmnhbalmglohaaGreatDoor.X

/- The chapter's rows. -/
namespace Go.Proofs.YthmnhbalmglohaaGreatDoor.X
open Go.RowKit Go.Proofs.YthmnhbalmglohaaGreatDoorW.PrintWords Go.Proofs.YthmnhbalmglohaaGreatDoorW.PrintMore Go.Proofs.YthmnhbalmglohaaGreatDoor.T
theorem wakes15_at : tollhouselaw15_wakes.f 60 = some true := by decide +kernel
theorem wakes15 : Ev (fun k => tollhouselaw15_wakes.f k) true := Ev.of_mono (fun k => tollhouselaw15_wakes.mono k) wakes15_at
end Go.Proofs.YthmnhbalmglohaaGreatDoor.X

/- The plain law of AuthOne. -/
namespace Go.Proofs.YthmnhbalmglohaaGreatDoor.X
open Go.RowKit Go.Proofs.YthmnhbalmglohaaGreatDoorW.PrintWords Go.Proofs.YthmnhbalmglohaaGreatDoorW.PrintMore Go.Proofs.YthmnhbalmglohaaGreatDoor.T
set_option linter.unusedSimpArgs false
set_option linter.unusedVariables false
/-! ### fields of one name, and none of it -/
theorem getL_app (key : ByteArray) (a b : List S48) : getL key (a ++ b) = getL key a ++ getL key b := by
  unfold getL
  rw [List.filter_append, List.map_append]
theorem getL_bare (l : List S48) : getL keyB (dropL [keyB] l) = [] := by
  unfold getL dropL
  rw [List.filter_filter]
  have : (List.filter (fun x => sameL x.f0 keyB && !dropP [keyB] x) l) = [] := by
    rw [List.filter_eq_nil_iff]
    intro x _ h
    have e : dropP [keyB] x = sameL x.f0 keyB := by unfold dropP; simp [sameB, sameL]
    rw [e] at h
    cases hq : sameL x.f0 keyB <;> simp [hq] at h
  rw [this]; rfl
def preB : ByteArray := ⟨#[66, 101, 97, 114, 101, 114, 32]⟩
theorem getL_of (tok : ByteArray) : getL keyB (ofL tok) = [preB ++ tok] := by
  unfold getL ofL
  rw [List.filter_cons_of_pos (by simpa using key_same)]; rfl
theorem cred_any (tok : ByteArray) (h : tok.data.toList.head? ≠ some 32) : credB (preB ++ tok) = if authMayB tok = true then (tok, true) else (⟨#[]⟩, false) := by
  have e : (preB ++ tok).data.toList = [66, 101, 97, 114, 101, 114] ++ 32 :: tok.data.toList := by rw [toList_app]; rfl
  unfold credB
  rw [e, cut_app 32 _ _ (by decide), same_bearer]
  dsimp only
  rw [if_pos (decide_eq_true (show List.map lowC ([66, 101, 97, 114, 101, 114] : List UInt8) = [98, 101, 97, 114, 101, 114] from by decide))]
  have hb : blankL tok.data.toList = tok.data.toList := by
    unfold blankL Lib.trimLeftB
    cases hl : tok.data.toList with
    | nil => rfl
    | cons c t =>
      rw [hl] at h
      rw [List.dropWhile_cons, if_neg]
      intro hc
      exact h (by simpa using hc)
  rw [hb]
  unfold credOut
  rw [bytes_of_list]
/-- what one value tells of a token -/
def oneB (tok v : ByteArray) : Bool := (credB v).2 && ((credB v).1.toList == tok.toList)
theorem holds_get (tok : ByteArray) (l : List S48) : holdsB tok l = match getL keyB l with | [v] => oneB tok v | _ => false := rfl
theorem one_of (tok : ByteArray) (h : tok.data.toList.head? ≠ some 32) : oneB tok (preB ++ tok) = authMayB tok := by
  unfold oneB
  rw [cred_any tok h]
  cases hm : authMayB tok with
  | true => rw [if_pos rfl]; simp
  | false => rw [if_neg (by decide)]; rfl
theorem holds_bare (tok : ByteArray) (l : List S48) : holdsB tok (dropL [keyB] l) = false := by rw [holds_get, getL_bare]
theorem holds_own (tok : ByteArray) (h : tok.data.toList.head? ≠ some 32) (l : List S48) : holdsB tok (dropL [keyB] l ++ ofL tok) = authMayB tok := by
  rw [holds_get, getL_app, getL_bare, getL_of]; exact one_of tok h
theorem holds_two (tok : ByteArray) (l m : List S48) (h : 1 ≤ (getL keyB l).length) (h2 : 1 ≤ (getL keyB m).length) : holdsB tok (l ++ m) = false := by
  rw [holds_get, getL_app]
  match getL keyB l, getL keyB m, h, h2 with
  | [a], b :: t, _, _ => rfl
  | a :: b :: t, _, _, _ => rfl
theorem own_one (tok : ByteArray) (l : List S48) : getL keyB (dropL [keyB] l ++ ofL tok) = [preB ++ tok] := by rw [getL_app, getL_bare, getL_of]; rfl
theorem holds_skip (tok : ByteArray) (f : S48) (hf : sameL f.f0 keyB = false) (l : List S48) : holdsB tok ([f] ++ l) = holdsB tok l := by
  rw [holds_get, holds_get, getL_app]
  have : getL keyB [f] = [] := by unfold getL; rw [List.filter_cons_of_neg (by simp [hf])]; rfl
  rw [this]; rfl
theorem field_one (f : S48) (hf : sameL f.f0 keyB = true) : 1 ≤ (getL keyB [f]).length := by
  unfold getL
  rw [List.filter_cons_of_pos (by simpa using hf)]
  simp
theorem cred_may (v : ByteArray) (h : (credB v).2 = true) : authMayB (credB v).1 = true := by
  revert h
  unfold credB
  split
  · unfold credOut
    split
    · exact fun _ => by assumption
    · exact fun h => by cases h
  · exact fun h => by cases h
theorem holds_may (tok : ByteArray) (l : List S48) (h : holdsB tok l = true) : authMayB tok = true := by
  rw [holds_get] at h
  revert h
  generalize getL keyB l = vs
  match vs with
  | [] => exact fun h => by cases h
  | [v] =>
    intro h
    have h2 : ((credB v).2 && ((credB v).1.toList == tok.toList)) = true := h
    rw [Bool.and_eq_true, beq_iff_eq, toList_eq, toList_eq] at h2
    have e : (credB v).1 = tok := bytes_ext h2.2
    rw [← e]
    exact cred_may v h2.1
  | a :: b :: t => exact fun h => by cases h
/-! ### the function -/
def sizedF (l : List S48) (n : Nat) : Prop := l.length ≤ n ∧ ∀ x ∈ l, x.f0.size ≤ 4294967000 ∧ x.f1.size ≤ 4294967000
theorem sizedF_app {l m : List S48} {a b : Nat} (h : sizedF l a) (k : sizedF m b) : sizedF (l ++ m) (a + b) := ⟨by rw [List.length_append]; have := h.1; have := k.1; omega, fun x hx => by
  rcases List.mem_append.1 hx with hx | hx
  · exact h.2 x hx
  · exact k.2 x hx⟩
theorem sizedF_of {tok : ByteArray} (h : tok.size ≤ 4294960000) : sizedF (ofL tok) 1 := ⟨Nat.le_refl 1, fun x hx => by
  obtain rfl := List.mem_singleton.1 hx
  refine ⟨show (19 : Nat) ≤ 4294967000 by omega, ?_⟩
  show ((⟨#[66, 101, 97, 114, 101, 114, 32]⟩ : ByteArray) ++ tok).size ≤ _
  rw [size_app]
  show 7 + tok.size ≤ _
  omega⟩
theorem sizedF_one {f0 f1 : ByteArray} (h0 : f0.size ≤ 4294960000) (h1 : f1.size ≤ 4294960000) : sizedF [(⟨f0, f1⟩ : S48)] 1 := ⟨Nat.le_refl 1, fun x hx => by
  obtain rfl := List.mem_singleton.1 hx
  exact ⟨show f0.size ≤ _ by omega, show f1.size ≤ _ by omega⟩⟩
theorem sizedF_bare {l : List S48} {n : Nat} (h : sizedF l n) : sizedF (dropL [keyB] l) n := ⟨Nat.le_trans (List.length_filter_le _ _) h.1, fun x hx => h.2 x (List.mem_filter.1 hx).1⟩
theorem holds_sized (tok : ByteArray) {l : List S48} {n : Nat} (h : sizedF l n) (hn : n ≤ 4294967000) : Ev (fun k => auth_Holds.f k tok l) (holdsB tok l) := holds_ev tok l (Nat.le_trans h.1 hn) h.2
theorem may_f (a : ByteArray) (h : a.size ≤ 4294967296) : auth_May.f a = some (authMayB a) := by unfold auth_May.f; rw [if_pos (by omega)]
theorem one_j3 (l : List S48) (tok f0 f1 : ByteArray) (hl : sizedF l 1048576) (ht : tok.size ≤ 1048576) (h0 : f0.size ≤ 1048576) (h1 : f1.size ≤ 1048576) :
    Ev (fun k => tollhouselaw15_AuthOne.j3 k l tok (dropL [keyB] l ++ ofL tok) false f0 f1) true := by
  have s1 : sizedF (dropL [keyB] l ++ ofL tok) 1048577 := sizedF_app (sizedF_bare hl) (sizedF_of (by omega))
  have s2 := sizedF_one (show f0.size ≤ 4294960000 by omega) (show f1.size ≤ 4294960000 by omega)
  obtain ⟨K1, g1⟩ := holds_sized tok (sizedF_app s2 s1) (by omega)
  obtain ⟨K2, g2⟩ := holds_sized tok (sizedF_app s2 hl) (by omega)
  obtain ⟨K3, g3⟩ := holds_sized tok hl (by omega)
  obtain ⟨K4, g4⟩ := wakes15
  have eS := same_eq f0 keyB (by omega) (by decide)
  have l1 := s1.1
  have l2 := hl.1
  refine ⟨K1 + K2 + K3 + K4 + 1, fun k hk => ?_⟩
  obtain ⟨k, rfl⟩ : ∃ m, k = m + 1 := ⟨k - 1, by omega⟩
  have q1 := g1 k (by omega)
  have q2 := g2 k (by omega)
  have q3 := g3 k (by omega)
  have q4 := g4 k (by omega)
  simp only at q1 q2 q3 q4
  simp only [tollhouselaw15_AuthOne.j3]
  rw [if_neg (by decide), show text_Same.f f0 (⟨#[112, 114, 111, 120, 121, 45, 97, 117, 116, 104, 111, 114, 105, 122, 97, 116, 105, 111, 110]⟩ : ByteArray) = some (sameL f0 keyB) from eS]
  simp only [Option.bind_some]
  cases hf : sameL f0 keyB with
  | true =>
    rw [if_pos rfl, if_pos (by simp only [List.length_cons, List.length_nil]; omega), q1, holds_two tok _ _ (field_one ⟨f0, f1⟩ hf) (by rw [own_one]; exact Nat.le_refl 1), q4]
    rfl
  | false =>
    rw [if_neg (by decide), if_pos (by simp only [List.length_cons, List.length_nil]; omega), q2, q3, holds_skip tok ⟨f0, f1⟩ hf, q4]
    simp
theorem one_j2 (l : List S48) (tok other f0 f1 : ByteArray) (hb : tok.data.toList.head? ≠ some 32) (hl : sizedF l 1048576) (ht : tok.size ≤ 1048576) (ho : other.size ≤ 1048576) (h0 : f0.size ≤ 1048576) (h1 : f1.size ≤ 1048576) :
    Ev (fun k => tollhouselaw15_AuthOne.j2 k l tok other false f0 f1) true := by
  have sb := sizedF_bare hl
  have st := sizedF_of (show tok.size ≤ 4294960000 by omega)
  have so := sizedF_of (show other.size ≤ 4294960000 by omega)
  have s1 : sizedF (dropL [keyB] l ++ ofL tok) 1048577 := sizedF_app sb st
  obtain ⟨K1, g1⟩ := holds_sized tok sb (by omega)
  obtain ⟨K2, g2⟩ := holds_sized tok s1 (by omega)
  obtain ⟨K3, g3⟩ := holds_sized tok (sizedF_app s1 st) (by omega)
  obtain ⟨K4, g4⟩ := holds_sized tok (sizedF_app so s1) (by omega)
  obtain ⟨K5, g5⟩ := one_j3 l tok f0 f1 hl ht h0 h1
  have eD : head_Drop.f l [keyB] = some (dropL [keyB] l) := by
    unfold head_Drop.f
    rw [if_pos ⟨by have := hl.1; omega, fun x hx => by have := (hl.2 x hx).1; omega, fun x hx => by obtain rfl := List.mem_singleton.1 hx; decide, by decide⟩]
  have eO := of_eq tok (by omega)
  have eP := of_eq other (by omega)
  have eM := may_f tok (by omega)
  have lb := sb.1
  have l1 := s1.1
  have lo : (ofL tok).length = 1 := rfl
  have lp : (ofL other).length = 1 := rfl
  refine ⟨K1 + K2 + K3 + K4 + K5 + 1, fun k hk => ?_⟩
  obtain ⟨k, rfl⟩ : ∃ m, k = m + 1 := ⟨k - 1, by omega⟩
  have q1 := g1 k (by omega)
  have q2 := g2 k (by omega)
  have q3 := g3 k (by omega)
  have q4 := g4 k (by omega)
  have q5 := g5 k (by omega)
  simp only at q1 q2 q3 q4 q5
  rw [holds_bare] at q1
  rw [holds_own tok hb] at q2
  rw [holds_two tok _ _ (by rw [own_one]; exact Nat.le_refl 1) (by rw [getL_of]; exact Nat.le_refl 1)] at q3
  rw [holds_two tok _ _ (by rw [getL_of]; exact Nat.le_refl 1) (by rw [own_one]; exact Nat.le_refl 1)] at q4
  simp only [tollhouselaw15_AuthOne.j2]
  rw [if_neg (by decide), show head_Drop.f l [(⟨#[112, 114, 111, 120, 121, 45, 97, 117, 116, 104, 111, 114, 105, 122, 97, 116, 105, 111, 110]⟩ : ByteArray)] = some (dropL [keyB] l) from eD]
  simp only [Option.bind_some]
  rw [if_pos (by simp only [List.length_nil]; omega)]
  simp only [List.nil_append, eO, eP, eM, q1, q2, Option.bind_some]
  rw [if_pos (by omega), if_neg (by decide), if_neg (by simp), if_pos (by simp only [List.length_nil]; omega)]
  rw [if_pos (by omega), q3]
  simp only [Option.bind_some]
  rw [if_neg (by decide), if_pos (by omega), q4]
  exact q5
theorem one_j1 (l : List S48) (tok other f0 f1 : ByteArray) (hb : tok.data.toList.head? ≠ some 32) (hl : sizedF l 1048576) (ht : tok.size ≤ 1048576) (ho : other.size ≤ 1048576) (h0 : f0.size ≤ 1048576) (h1 : f1.size ≤ 1048576) :
    Ev (fun k => tollhouselaw15_AuthOne.j1 k l tok other f0 f1) true := by
  obtain ⟨K1, g1⟩ := holds_sized tok hl (by omega)
  obtain ⟨K2, g2⟩ := holds_sized other hl (by omega)
  obtain ⟨K3, g3⟩ := one_j2 l tok other f0 f1 hb hl ht ho h0 h1
  have eM := may_f tok (by omega)
  refine ⟨K1 + K2 + K3 + 1, fun k hk => ?_⟩
  obtain ⟨k, rfl⟩ : ∃ m, k = m + 1 := ⟨k - 1, by omega⟩
  have q1 := g1 k (by omega)
  have q2 := g2 k (by omega)
  have q3 := g3 k (by omega)
  simp only at q1 q2 q3
  simp only [tollhouselaw15_AuthOne.j1]
  simp only [q1, q2, eM, Option.bind_some]
  cases hh : holdsB tok l with
  | true =>
    rw [if_pos rfl, holds_may tok l hh]
    cases h2 : holdsB other l with
    | true =>
      obtain ⟨c, hc⟩ := holds_one l
      have e : tok.toList = other.toList := by rw [toList_eq, toList_eq, hc tok hh, hc other h2]
      rw [if_pos rfl, if_pos e, if_pos rfl]
      exact q3
    | false =>
      rw [if_neg (by decide), if_pos rfl]
      exact q3
  | false =>
    rw [if_neg (by decide), if_neg (by decide)]
    exact q3
theorem one_l0 (l : List S48) (other f0 f1 : ByteArray) (hl : sizedF l 1048576) (ho : other.size ≤ 1048576) (h0 : f0.size ≤ 1048576) (h1 : f1.size ≤ 1048576) : ∀ (n : Nat) (tok : ByteArray), tok.size = n → tok.size ≤ 1048576 →
    Ev (fun k => tollhouselaw15_AuthOne.l0 k l tok other f0 f1) true
  | 0, tok, hn, ht => by
    have hb : tok.data.toList.head? ≠ some 32 := by
      have := size_toList tok
      rw [List.eq_nil_of_length_eq_zero (by omega : tok.data.toList.length = 0)]; simp
    refine Ev.step (fun k => ?_) (one_j1 l tok other f0 f1 hb hl ht ho h0 h1)
    simp only [tollhouselaw15_AuthOne.l0]
    rw [if_neg (by omega)]
  | n + 1, tok, hn, ht => by
    have hz : 0 < tok.size := by omega
    have hq : bt tok 0 = 32 ↔ tok.data.toList[0]? = some 32 := bt_is hz 32
    by_cases hc : tok.data.toList[0]? = some 32
    · have ih := one_l0 l other f0 f1 hl ho h0 h1 n (tok.extract 1 tok.size) (by rw [ByteArray.size_extract]; omega) (by rw [ByteArray.size_extract]; omega)
      refine Ev.step (fun k => ?_) ih
      simp only [tollhouselaw15_AuthOne.l0]
      rw [if_pos (by omega), if_pos (by omega), if_pos (hq.2 hc), if_pos (by omega)]
    · have hb : tok.data.toList.head? ≠ some 32 := by rw [List.head?_eq_getElem?]; exact hc
      refine Ev.step (fun k => ?_) (one_j1 l tok other f0 f1 hb hl ht ho h0 h1)
      simp only [tollhouselaw15_AuthOne.l0]
      rw [if_pos (by omega), if_pos (by omega), if_neg (fun e => hc (hq.1 e))]
theorem AuthOne_pure (l : List S48) (tok other f0 f1 : ByteArray) (hl : sizedF l 1048576) (ht : tok.size ≤ 1048576) (ho : other.size ≤ 1048576) (h0 : f0.size ≤ 1048576) (h1 : f1.size ≤ 1048576) : ∃ k, tollhouselaw15_AuthOne.f k l tok other f0 f1 = some true :=
  Ev.get (one_l0 l other f0 f1 hl ho h0 h1 tok.size tok rfl ht)
end Go.Proofs.YthmnhbalmglohaaGreatDoor.X

namespace Go.Proofs.YthmnhbalmglohaaGreatDoor.authOne
open Go.ChangeShapes Go.WideShapes Go.ChangeAt Go.RowKit Go.Proofs.YthmnhbalmglohaaGreatDoor Go.Proofs.YthmnhbalmglohaaGreatDoor.L Go.Proofs.YthmnhbalmglohaaGreatDoor.T Go.Proofs.YthmnhbalmglohaaGreatDoorW.PrintWords
set_option linter.unusedVariables false
set_option linter.unusedSimpArgs false
set_option maxRecDepth 100000
theorem own : ownKnob Tryz.prog.godebug = none := by kernel_rfl
theorem laidOut : laidOutB Tryz.prog = true := by kernel_rfl
/-- For every argument and every world that holds the listed variables. -/
theorem contract (H : Type) (enc : TypeId × Value → H) (W : World) (base : Nat) (args : Array Value) (ds gs : List (DataW H)) (before : List MemPlace)
    (hval : ∀ (j : Nat) t v, Tryz.f8.params[j]? = some t → args[j]? = some v → Value.okWide Tryz.prog W .any base t v)
    (hW : DataW.Whole enc Tryz.prog Tryz.f8.params.toList Rows.authOneSpec.vars false W args.toList ds gs before) (B : Nat) (hB : B ≤ 1048576) (hk : Rows.uptoBulkAll (ds ++ gs) ≤ B) (hL : laidMetH Tryz.prog laidL W) (hS : W.ShapedOpen Tryz.prog) :
    Calls Tryz.prog 8 args W fun e W' => ∃ v, e = .returned v ∧ Rows.authOneSpec.post enc Tryz.prog Tryz.f8 false true false false W args v W' := by
  have hG : Glob W := L.glob hL hS
  have hW' := hW
  obtain ⟨p, q, hA0, hV, rfl, hfz, hnd⟩ := hW
  have hA : DataW.TrodAll enc Tryz.prog W 0 (fun _ => true) true Tryz.f8.params.toList args.toList ds p := hA0
  rw [Tryz.params8] at hA hval
  obtain ⟨v0, vs0, d0, ds0, p0, q0, hargs, rfl, rfl, h0, r0⟩ := trodAll_cons hA
  obtain ⟨v1, vs1, d1, ds1, p1, q1, rfl, rfl, rfl, h1, r1⟩ := trodAll_cons r0
  obtain ⟨v2, vs2, d2, ds2, p2, q2, rfl, rfl, rfl, h2, r2⟩ := trodAll_cons r1
  obtain ⟨v3, vs3, d3, ds3, p3, q3, rfl, rfl, rfl, h3, r3⟩ := trodAll_cons r2
  obtain ⟨rfl, rfl, rfl⟩ := trodAll_nil r3
  obtain rfl : args = #[v0, v1, v2, v3] := by cases args; simp_all
  obtain ⟨rfl, rfl⟩ := trodVars_none hV
  clear hA0
  simp only [List.cons_append, List.nil_append, List.append_nil, Rows.uptoBulkAll] at hk
  have k0 := h0
  have lt0 : ∀ x ∈ p0, x.block < W.heap.size := by obtain ⟨m, hm⟩ := k0; exact DataW.trod_lt m _ _ _ hm
  obtain ⟨fu0, hf0⟩ := h0
  obtain ⟨a0, K0, G0⟩ := (X.opens_slice Tryz.underlying33 (by kernel_rfl) X.opens_field) H enc W _ _ fu0 _ _ hf0
  replace G0 := G0 B (show Rows.uptoBulk d0 ≤ B by omega)
  have hv0 : Value.okWide Tryz.prog W .any base 33 v0 := hval 0 33 v0 (by simp only [List.getElem?_toArray, List.getElem?_cons_zero, List.getElem?_cons_succ]) (by simp only [List.getElem?_toArray, List.getElem?_cons_zero, List.getElem?_cons_succ])
  obtain ⟨ad0, len0, cap0, rfl⟩ := okWide_slice Tryz.underlying33 hv0
  obtain ⟨A0, c0, e0, l0, C0⟩ := K0
  injection (show [Value.slice ad0 len0 cap0] = [Value.slice A0 a0.length c0] from e0) with e0 _
  injection e0 with ea0 eb0 ec0; subst ea0 eb0 ec0
  have k1 := h1
  have lt1 : ∀ x ∈ p1, x.block < W.heap.size := by obtain ⟨m, hm⟩ := k1; exact DataW.trod_lt m _ _ _ hm
  obtain ⟨fu1, hf1⟩ := h1
  obtain ⟨a1, K1, G1⟩ := (X.opens_string Tryz.underlying9) H enc W _ _ fu1 _ _ hf1
  replace G1 := G1 B (show Rows.uptoBulk d1 ≤ B by omega)
  have hv1 : Value.okWide Tryz.prog W .any base 9 v1 := hval 1 9 v1 (by simp only [List.getElem?_toArray, List.getElem?_cons_zero, List.getElem?_cons_succ]) (by simp only [List.getElem?_toArray, List.getElem?_cons_zero, List.getElem?_cons_succ])
  obtain ⟨x1, rfl⟩ := okWide_string Tryz.underlying9 hv1
  obtain rfl : a1 = x1 := (show x1 = a1 by simpa [Kd.int, Kd.bool, Kd.string, Kd.scalar, Value.cells] using K1).symm
  have k2 := h2
  have lt2 : ∀ x ∈ p2, x.block < W.heap.size := by obtain ⟨m, hm⟩ := k2; exact DataW.trod_lt m _ _ _ hm
  obtain ⟨fu2, hf2⟩ := h2
  obtain ⟨a2, K2, G2⟩ := (X.opens_string Tryz.underlying9) H enc W _ _ fu2 _ _ hf2
  replace G2 := G2 B (show Rows.uptoBulk d2 ≤ B by omega)
  have hv2 : Value.okWide Tryz.prog W .any base 9 v2 := hval 2 9 v2 (by simp only [List.getElem?_toArray, List.getElem?_cons_zero, List.getElem?_cons_succ]) (by simp only [List.getElem?_toArray, List.getElem?_cons_zero, List.getElem?_cons_succ])
  obtain ⟨x2, rfl⟩ := okWide_string Tryz.underlying9 hv2
  obtain rfl : a2 = x2 := (show x2 = a2 by simpa [Kd.int, Kd.bool, Kd.string, Kd.scalar, Value.cells] using K2).symm
  have k3 := h3
  have lt3 : ∀ x ∈ p3, x.block < W.heap.size := by obtain ⟨m, hm⟩ := k3; exact DataW.trod_lt m _ _ _ hm
  obtain ⟨fu3, hf3⟩ := h3
  obtain ⟨a3, K3, G3⟩ := X.opens_field H enc W _ _ fu3 _ _ hf3
  replace G3 := G3 B (show Rows.uptoBulk d3 ≤ B by omega)
  have hv3 : Value.okWide Tryz.prog W .any base 48 v3 := hval 3 48 v3 (by simp only [List.getElem?_toArray, List.getElem?_cons_zero, List.getElem?_cons_succ]) (by simp only [List.getElem?_toArray, List.getElem?_cons_zero, List.getElem?_cons_succ])
  obtain ⟨cs3, rfl, _⟩ := okWide_struct Tryz.underlying48 hv3
  have hcs3 := X.k48_open K3
  have ecs3 : cs3 = List.toArray _ := (Array.toArray_toList (xs := cs3)).symm.trans (congrArg List.toArray hcs3)
  subst ecs3
  obtain ⟨k_, hp⟩ := X.AuthOne_pure a0 a1 a2 a3.f0 a3.f1 ⟨Nat.le_trans G0.1 hB, fun x hx => ⟨Nat.le_trans (G0.2 x hx).1 (by omega), Nat.le_trans (G0.2 x hx).2 (by omega)⟩⟩ (Nat.le_trans G1 hB) (Nat.le_trans G2 hB) (Nat.le_trans G3.1 hB) (Nat.le_trans G3.2 hB)
  refine (X.tollhouselaw15_AuthOne.calls _ _ _ _ _ _ _ _ _ _ C0 l0 hG hp).mono ?_
  rintro e W' ⟨he, bel0⟩
  have bel : Below W.heap.size W W' := bel0
  subst he
  exact ⟨_, rfl, _, _, _, [], _, [], hW', trodAll_mk1 (shut_bool Tryz.underlying4 _), (trodAll_cons_mk (Below.trod laidOut (by kernel_rfl) (of_decide_eq_true (by kernel_rfl)) k0 bel lt0) (trodAll_cons_mk (Below.trod laidOut (by kernel_rfl) (of_decide_eq_true (by kernel_rfl)) k1 bel lt1) (trodAll_cons_mk (Below.trod laidOut (by kernel_rfl) (of_decide_eq_true (by kernel_rfl)) k2 bel lt2) (trodAll_cons_mk (Below.trod laidOut (by kernel_rfl) (of_decide_eq_true (by kernel_rfl)) k3 bel lt3) trodAll_mk0)))), rfl, bel.frame _, fun h => by cases h⟩
theorem reads (os : Os) {H : Type} (enc : TypeId × Value → H) : ∃ places, DataW.whole enc Tryz.prog ((laidWorld os).forCall (fun _ _ => 0) ⟨#[], #[.slice none 0 0, .string ByteArray.empty, .string ByteArray.empty, .agg #[.string ByteArray.empty, .string ByteArray.empty]], []⟩).memory Tryz.f8.params.toList Rows.authOneSpec.vars false (#[.slice none 0 0, .string ByteArray.empty, .string ByteArray.empty, .agg #[.string ByteArray.empty, .string ByteArray.empty]] : Array Value).toList 8 = some ([.nil, .lit (.string []), .lit (.string []), .agg [.lit (.string []), .lit (.string [])]], [], places) :=
  ⟨[], by kernel_rfl⟩
theorem liftedUpto (os : Os) (started : os.Started) (H : Type) (enc : TypeId × Value → H) (F : Stop.Interp) :
    ReturnsInHanded {} Tryz.checked os 8 .any ((Rows.OpenSpec.upto Rows.authOneSpec).preRow enc Tryz.prog Tryz.f8 Rows.authOneUptoRow.domain false Rows.authOneUptoRow.laid) (((Rows.OpenSpec.upto Rows.authOneSpec).at F).post enc Tryz.prog Tryz.f8 false true false false) := by
  obtain ⟨places, hx⟩ := reads os enc
  refine returnsInHanded_of_row (C := Tryz.checked) (s := Rows.OpenSpec.upto Rows.authOneSpec) own started (by kernel_rfl) Tryz.func8
    (witness_row_atRef (enc := enc) (C := Tryz.checked) false (laidWorld os) #[.slice none 0 0, .string ByteArray.empty, .string ByteArray.empty, .agg #[.string ByteArray.empty, .string ByteArray.empty]] rfl (by kernel_rfl) (by kernel_rfl) (by kernel_rfl)
      (OpenSpec.preRow_of_cond 8 hx (by kernel_rfl) (fun k hk => by cases hk; kernel_rfl) (by kernel_rfl) (laid_met os _))) ?_
  intro W base args ds gs before hval hW _ hk _ hL hS _
  exact contract H enc W base args ds gs before hval hW 1048576 (Nat.le_refl _) (of_decide_eq_true (hk _ rfl)) hL hS
theorem saidUpto : Rows.AuthOneUptoSaid :=
  OpenClaim.holds_of_cond 8 Tryz.f8 rfl rfl rfl rfl rfl rfl rfl ⟨rfl, rfl, rfl, rfl, rfl⟩ rfl rfl rfl rfl rfl (by kernel_rfl) Tryz.func8 (by kernel_rfl)
    (of_decide_eq_true (by kernel_rfl)) (by unfold Func.isWrapper; first | (rw [if_pos (by decide +kernel)]; kernel_rfl) | (rw [if_neg (by decide +kernel)]; exact ⟨rfl, rfl⟩))
    (fun os started H enc _ F => by rw [OpenClaim.pre_eq_preRow]; exact liftedUpto os started H enc F)
theorem plain (f : FuncId) (fn : Func) (hf : Tryz.pinned.checked.prog.funcNamed "tollhouse/tollhouselaw15.AuthOne" = some f) (hfn : Tryz.pinned.checked.prog.funcs[f]? = some fn) :
    true = Tryz.pinned.checked.prog.looks [] ∧ ∀ (j : Nat) t, fn.params[j]? = some t → Tryz.pinned.checked.prog.wantsStandIn t = false := by
  obtain rfl : f = 8 := Option.some.inj ((show Tryz.prog.funcNamed "tollhouse/tollhouselaw15.AuthOne" = some 8 by kernel_rfl).symm.trans hf) |>.symm
  obtain rfl : fn = Tryz.f8 := (Option.some.inj (Tryz.func8.symm.trans hfn)).symm
  refine ⟨by kernel_rfl, fun j t ht => ?_⟩
  rw [Tryz.params8] at ht
  have s33 : Tryz.prog.wantsStandIn 33 = false := by kernel_rfl
  have s9 : Tryz.prog.wantsStandIn 9 = false := by kernel_rfl
  have s48 : Tryz.prog.wantsStandIn 48 = false := by kernel_rfl
  have hm := Array.mem_of_getElem? ht
  simp only [List.mem_toArray, List.mem_cons, List.not_mem_nil, or_false] at hm
  rcases hm with rfl | rfl | rfl | rfl
  · exact s33
  · exact s9
  · exact s9
  · exact s48
/-- THE CARD OF THE BOUNDED FORM. -/
theorem cardUpto : Rows.AuthOneUptoCardSaid :=
  Claim7.holds_tied_plain_at .later [] _ _ _ _ saidUpto (fun _ h => by cases h) (by kernel_rfl) (fun _ h => by cases h) authOneUpto_row_tie rfl ⟨rfl, rfl⟩ (by kernel_rfl) rfl plain (by kernel_rfl)
#print axioms cardUpto
end Go.Proofs.YthmnhbalmglohaaGreatDoor.authOne
namespace Go.Proofs.YthmnhbalmglohaaGreatDoor
/-- The statement, under a short name. -/
theorem authOne_card : Rows.AuthOneUptoCardSaid := authOne.cardUpto
end Go.Proofs.YthmnhbalmglohaaGreatDoor
