/- The law AclFirst: what the walk shows, put together with the plain law, as the given statement asks it: true for every argument of bulk at most 1048576. -/
import Derived.Test.YtjdlaofeenblkaaDoorMAclFirst3
import Derived.Test.YtjdlaofeenblkaaDoorMAclFirst4
import Derived.Test.YtjdlaofeenblkaaDoorCards
import Derived.Test.YtjdlaofeenblkaaDoorTie
import Derived.Test.YtjdlaofeenblkaaDoorMAclFirst1
import Derived.WalkKit
import Derived.ProofKit
import Derived.OpenShut
import Derived.ShutString
import Derived.ChangeOld
import Derived.Below
import Derived.SizedLaws
import Derived.Deep.DeepHandedRow
import Derived.Deep.DeepWitnessRowRef
/- What acl.Matches and acl.Admits tell, as plain functions. -/
namespace Go.Proofs.YtjdlaofeenblkaaDoor.X
open Go.RowKit Go.Proofs.YtjdlaofeenblkaaDoorW.PrintWords Go.Proofs.YtjdlaofeenblkaaDoor.T
set_option linter.unusedSimpArgs false
set_option linter.unusedVariables false
def ofB (h host : ByteArray) : Bool := if h.toList = ([42] : List UInt8) then true else if Lib.hasPrefix h.data.toList [46] = true then Lib.hasSuffix host.data.toList h.data.toList && decide ((host.size : Int) > (h.size : Int)) else h.toList == host.toList
def matchB (h : ByteArray) (lo hi : Int) (ms : List ByteArray) (host : ByteArray) (port : Int) (m : ByteArray) : Bool := ofB h host && (decide (lo ≤ port) && (decide (port ≤ hi) && (decide (ms.length = 0) || Lib.containsS ms m)))
theorem of_eq (a : Bool) (h : ByteArray) (lo hi : Int) (ms : List ByteArray) (host : ByteArray) (hs : host.size ≤ 9223372036854775807) : acl_of.f a h lo hi ms host = some (ofB h host) := by
  unfold acl_of.f ofB
  by_cases h1 : h.toList = ([42] : List UInt8)
  · rw [if_pos h1, if_pos h1]
  · rw [if_neg h1, if_neg h1]
    unfold strings_HasPrefix.f strings_HasSuffix.f
    rw [if_pos hs]
    simp only [Option.bind_some]
    cases Lib.hasPrefix h.data.toList [46] <;> simp
    cases Lib.hasSuffix host.data.toList h.data.toList <;> simp
theorem matches_eq (a : Bool) (h : ByteArray) (lo hi : Int) (ms : List ByteArray) (host : ByteArray) (port : Int) (m : ByteArray) (hs : host.size ≤ 9223372036854775807) (hm : ms.length ≤ 9223372036854775807) :
    acl_Matches.f a h lo hi ms host port m = some (matchB h lo hi ms host port m) := by
  unfold acl_Matches.f matchB
  rw [of_eq a h lo hi ms host hs]
  unfold slices_Contains_string.f
  rw [if_pos hm]
  simp only [Option.bind_some]
  cases ofB h host <;> simp
  by_cases h1 : lo ≤ port <;> simp [h1]
  by_cases h2 : port ≤ hi <;> simp [h2]
  by_cases h3 : ms = [] <;> simp [h3]
def matchX (x : S25) (host : ByteArray) (port : Int) (m : ByteArray) : Bool := matchB x.f1 x.f2 x.f3 x.f4 host port m
def admitsB (host : ByteArray) (port : Int) (m : ByteArray) : List S25 → Bool
  | [] => false
  | x :: t => if matchX x host port m = true then x.f0 else admitsB host port m t
theorem admits_eq (host : ByteArray) (port : Int) (m : ByteArray) (hs : host.size ≤ 9223372036854775807) : ∀ (l : List S25), (∀ x ∈ l, x.f4.length ≤ 9223372036854775807) → admitsL host port m l = some (admitsB host port m l)
  | [], _ => rfl
  | x :: t, h => by
    show (matchF x host port m).bind (fun b => if b = true then some x.f0 else admitsL host port m t) = some (if matchX x host port m = true then x.f0 else admitsB host port m t)
    have hx : matchF x host port m = some (matchX x host port m) := matches_eq _ _ _ _ _ _ _ _ hs (h x (List.mem_cons_self ..))
    rw [hx, admits_eq host port m hs t (fun y hy => h y (List.mem_cons_of_mem _ hy))]
    simp only [Option.bind_some]
    by_cases e : matchX x host port m = true
    · rw [if_pos e, if_pos e]
    · rw [if_neg e, if_neg e]
theorem toList_app (a b : ByteArray) : (a ++ b).data.toList = a.data.toList ++ b.data.toList := by simp
theorem size_app (a b : ByteArray) : (a ++ b).size = a.size + b.size := by simp
theorem toList_eq (a : ByteArray) : a.toList = a.data.toList := Lib.toList_data a
end Go.Proofs.YtjdlaofeenblkaaDoor.X

/- What a rule's host says; the chapter's rows: plain lemmas. -/
namespace Go.Proofs.YtjdlaofeenblkaaDoor.X
open Go.RowKit Go.Proofs.YtjdlaofeenblkaaDoorW.PrintWords Go.Proofs.YtjdlaofeenblkaaDoorW.PrintMore Go.Proofs.YtjdlaofeenblkaaDoor.T
set_option linter.unusedSimpArgs false
set_option linter.unusedVariables false
theorem wakes14 : tollhouselaw14_wakes.f = some true := by decide +kernel
theorem mx_ge (a b : Int) : b ≤ mx a b ∧ a ≤ mx a b := by unfold mx; split <;> omega
theorem mn_le (a b : Int) : mn a b ≤ b ∧ mn a b ≤ a := by unfold mn; split <;> omega
theorem wide_all (host : ByteArray) (port : Int) (m : ByteArray) : matchB ⟨#[42]⟩ 1 65535 [] host port m = (decide (1 ≤ port) && decide (port ≤ 65535)) := by
  have h : ofB ⟨#[42]⟩ host = true := by unfold ofB; rw [if_pos (by decide +kernel)]
  unfold matchB
  rw [h]
  simp
theorem match_parts {h : ByteArray} {lo hi : Int} {ms : List ByteArray} {host : ByteArray} {port : Int} {m : ByteArray} (hm : matchB h lo hi ms host port m = true) : ofB h host = true ∧ lo ≤ port ∧ port ≤ hi ∧ (decide (ms.length = 0) || Lib.containsS ms m) = true := by
  unfold matchB at hm
  simp only [Bool.and_eq_true, decide_eq_true_eq] at hm
  exact ⟨hm.1, hm.2.1, hm.2.2.1, hm.2.2.2⟩
theorem match_of (h : ByteArray) {lo hi : Int} {ms : List ByteArray} (host : ByteArray) {port : Int} {m : ByteArray} (h2 : lo ≤ port) (h3 : port ≤ hi) (h4 : (decide (ms.length = 0) || Lib.containsS ms m) = true) : matchB h lo hi ms host port m = ofB h host := by
  unfold matchB
  rw [h4, decide_eq_true h2, decide_eq_true h3]
  simp
theorem x_front (a : ByteArray) : ((⟨#[120]⟩ : ByteArray) ++ a).data.toList = 120 :: a.data.toList := by rw [toList_app]; rfl
theorem x_back (a : ByteArray) : (a ++ (⟨#[120]⟩ : ByteArray)).data.toList = a.data.toList ++ [120] := by rw [toList_app]
theorem suffix_cons {c : UInt8} {l p : List UInt8} (h : Lib.hasSuffix l p = true) : Lib.hasSuffix (c :: l) p = true := by
  unfold Lib.hasSuffix at h ⊢
  rw [List.isSuffixOf_iff_suffix] at h ⊢
  exact h.trans (List.suffix_cons _ _)
theorem suffix_self (l : List UInt8) : Lib.hasSuffix l l = true := by
  unfold Lib.hasSuffix
  rw [List.isSuffixOf_iff_suffix]
  exact List.suffix_refl _
theorem dot_prefix (h : ByteArray) : Lib.hasPrefix h.data.toList [46] = (decide (0 < h.size) && bt h 0 == 46) := by
  have hl := size_toList h
  unfold Lib.hasPrefix bt
  by_cases hs : 0 < h.size
  · rw [dif_pos (by simpa using hs)]
    have he : h.data.toList = h[0] :: h.data.toList.tail := by
      cases hd : h.data.toList with
      | nil => rw [hd] at hl; simp at hl; omega
      | cons a t =>
        have : h[0] = h.data.toList[0]'(by rw [hl]; exact hs) := rfl
        simp [this, hd]
    rw [he, decide_eq_true hs]
    show ((46 : UInt8) == h[0] && ([] : List UInt8).isPrefixOf h.data.toList.tail) = _
    have e0 : ([] : List UInt8).isPrefixOf h.data.toList.tail = true := by cases h.data.toList.tail <;> rfl
    rw [e0, Bool.and_true, Bool.true_and, Bool.eq_iff_iff]
    simp only [beq_iff_eq]
    constructor
    · intro e; show ((h[0]).toNat : Int) = 46; rw [← e]; rfl
    · intro e
      have e2 : h[0].toNat = 46 := by have : ((h[0]).toNat : Int) = 46 := e; omega
      exact (UInt8.toNat_inj.1 (by rw [e2]; rfl)).symm
  · have : h.data.toList = [] := List.eq_nil_of_length_eq_zero (by omega)
    rw [this, decide_eq_false hs]
    rfl
/-- a rule of a host that begins with a point -/
theorem of_dot (h host : ByteArray) (hd : Lib.hasPrefix h.data.toList [46] = true) : ofB h host = (Lib.hasSuffix host.data.toList h.data.toList && decide ((host.size : Int) > (h.size : Int))) := by
  unfold ofB
  have : ¬ (h.toList = ([42] : List UInt8)) := by
    intro e
    rw [toList_eq] at e
    rw [e] at hd
    simp [Lib.hasPrefix] at hd
  rw [if_neg this, if_pos hd]
theorem of_plain (h host : ByteArray) (hd : Lib.hasPrefix h.data.toList [46] = false) : ofB h host = (h.toList == ([42] : List UInt8) || h.toList == host.toList) := by
  unfold ofB
  by_cases e : h.toList = ([42] : List UInt8)
  · rw [if_pos e, e]; rfl
  · have : (h.toList == ([42] : List UInt8)) = false := by simpa using e
    rw [if_neg e, hd, this]
    simp
end Go.Proofs.YtjdlaofeenblkaaDoor.X

/- What a list of rules admits: plain lemmas. -/
namespace Go.Proofs.YtjdlaofeenblkaaDoor.X
open Go.RowKit Go.Proofs.YtjdlaofeenblkaaDoorW.PrintWords Go.Proofs.YtjdlaofeenblkaaDoorW.PrintMore Go.Proofs.YtjdlaofeenblkaaDoor.T
set_option linter.unusedSimpArgs false
set_option linter.unusedVariables false
theorem adm_eq (host : ByteArray) (port : Int) (m : ByteArray) (hs : host.size ≤ 9223372036854775807) (l : List S25) (hl : l.length ≤ 9223372036854775807) (hx : ∀ x ∈ l, x.f4.length ≤ 9223372036854775807) :
    acl_Admits.f l host port m = some (admitsB host port m l) := by
  unfold acl_Admits.f
  rw [if_pos hl, admits_eq host port m hs l hx]
theorem admits_app (host : ByteArray) (port : Int) (m : ByteArray) (a b : List S25) : admitsB host port m (a ++ b) = if (a.any fun x => matchX x host port m) = true then admitsB host port m a else admitsB host port m b := by
  induction a with
  | nil => simp
  | cons x t ih =>
    simp only [List.cons_append, admitsB, List.any_cons]
    by_cases h : matchX x host port m = true
    · simp [h]
    · have h' : matchX x host port m = false := by simpa using h
      rw [if_neg h, ih]
      simp [h']
theorem admits_deny (host : ByteArray) (port : Int) (m : ByteArray) (a : List S25) (h : ∀ x ∈ a, x.f0 = false) : admitsB host port m a = false := by
  induction a with
  | nil => rfl
  | cons x t ih =>
    simp only [admitsB]
    rw [ih (fun y hy => h y (List.mem_cons_of_mem _ hy)), h x (List.mem_cons_self ..)]
    simp
theorem admits_allow (host : ByteArray) (port : Int) (m : ByteArray) (a : List S25) (h : ∀ x ∈ a, x.f0 = true) : admitsB host port m a = a.any fun x => matchX x host port m := by
  induction a with
  | nil => rfl
  | cons x t ih =>
    simp only [admitsB, List.any_cons]
    rw [ih (fun y hy => h y (List.mem_cons_of_mem _ hy)), h x (List.mem_cons_self ..)]
    cases matchX x host port m <;> simp
theorem admits_some (host : ByteArray) (port : Int) (m : ByteArray) (a : List S25) (h : admitsB host port m a = true) : ((a.filter fun x => x.f0).any fun x => matchX x host port m) = true := by
  induction a with
  | nil => cases h
  | cons x t ih =>
    simp only [admitsB] at h
    by_cases hm : matchX x host port m = true
    · rw [if_pos hm] at h
      simp [h, hm]
    · rw [if_neg hm] at h
      have := ih h
      simp only [List.filter_cons]
      split
      · simp only [List.any_cons, this, Bool.or_true]
      · exact this
theorem admits_open (host : ByteArray) (port : Int) (m : ByteArray) (a : List S25) (hd : ((a.filter fun x => !x.f0).any fun x => matchX x host port m) = false) : admitsB host port m a = (a.filter fun x => x.f0).any fun x => matchX x host port m := by
  induction a with
  | nil => rfl
  | cons x t ih =>
    simp only [admitsB]
    cases hf : x.f0 with
    | true =>
      have hd' : ((t.filter fun x => !x.f0).any fun x => matchX x host port m) = false := by simpa [hf] using hd
      rw [ih hd']
      simp only [List.filter_cons, hf, if_true, List.any_cons]
      cases matchX x host port m <;> simp
    | false =>
      simp only [List.filter_cons, hf, Bool.not_false, if_true, List.any_cons, Bool.or_eq_false_iff] at hd
      rw [ih hd.2, hd.1]
      simp [hf]
theorem filter_len {α : Type} (p : α → Bool) (l : List α) : (l.filter p).length + (l.filter fun x => !p x).length = l.length := by
  induction l with
  | nil => rfl
  | cons x t ih => simp only [List.filter_cons]; cases p x <;> simp <;> omega
theorem rd_mid (pre : List S25) (x : S25) (t : List S25) : rd_T25 (pre ++ x :: t) (pre.length : Int) = x := by
  unfold rd_T25
  rw [Int.toNat_natCast]
  simp [List.getD_eq_getElem?_getD]
end Go.Proofs.YtjdlaofeenblkaaDoor.X

/- AclFirst's plain law. -/
namespace Go.Proofs.YtjdlaofeenblkaaDoor.X
open Go.RowKit Go.Proofs.YtjdlaofeenblkaaDoorW.PrintWords Go.Proofs.YtjdlaofeenblkaaDoorW.PrintMore Go.Proofs.YtjdlaofeenblkaaDoor.T
set_option linter.unusedSimpArgs false
set_option linter.unusedVariables false
theorem admits_filter (host : ByteArray) (port : Int) (m : ByteArray) (l : List S25) : admitsB host port m (l.filter fun x => matchX x host port m) = admitsB host port m l := by
  induction l with
  | nil => rfl
  | cons x t ih =>
    by_cases h : matchX x host port m = true
    · simp [h, admitsB]
    · have h' : matchX x host port m = false := by simpa using h
      simp [h', admitsB, ih]
theorem any_filter (host : ByteArray) (port : Int) (m : ByteArray) (l : List S25) : (l.any fun x => matchX x host port m) = !(l.filter fun x => matchX x host port m).isEmpty := by
  induction l with
  | nil => rfl
  | cons x t ih =>
    by_cases h : matchX x host port m = true
    · simp [h]
    · have h' : matchX x host port m = false := by simpa using h
      simp [h', ih]
theorem any_no (host : ByteArray) (port : Int) (m : ByteArray) (l : List S25) : ((l.filter fun x => !matchX x host port m).any fun x => matchX x host port m) = false := by
  induction l with
  | nil => rfl
  | cons x t ih =>
    by_cases h : matchX x host port m = true
    · simp [h]
    · have h' : matchX x host port m = false := by simpa using h
      simp [h']
theorem first_j1 (k : Nat) (host : ByteArray) (port : Int) (m : ByteArray) (hs : host.size ≤ 1048576) (l : List S25) (hl : l.length ≤ 1048576) (hx : ∀ x ∈ l, x.f4.length ≤ 1048576) (a : Bool) (h : ByteArray) (lo hi : Int) (ms : List ByteArray) (hms : ms.length ≤ 1048576) :
    tollhouselaw14_AclFirst.j1 (k + 1) l host port m (admitsB host port m l) false a h lo hi ms = some true := by
  simp only [tollhouselaw14_AclFirst.j1]
  rw [if_neg (by decide)]
  simp only [Option.bind_some, List.length_cons, List.length_nil]
  rw [if_pos (by omega), matches_eq _ _ _ _ _ _ _ _ (by omega) (by omega), adm_eq host port m (by omega) _ (by simp; omega) (fun x hx' => by
    rcases List.mem_append.1 hx' with hh | hh
    · rcases List.mem_singleton.1 hh with rfl
      exact Nat.le_trans hms (by omega)
    · exact Nat.le_trans (hx x hh) (by omega)), wakes14]
  simp only [Option.bind_some, List.singleton_append, admitsB]
  have e : matchX ⟨a, h, lo, hi, ms⟩ host port m = matchB h lo hi ms host port m := rfl
  rw [e]
  by_cases hm : matchB h lo hi ms host port m = true
  · simp [hm]
  · have hm' : matchB h lo hi ms host port m = false := by simpa using hm
    simp [hm']
theorem first_end (k : Nat) (host : ByteArray) (port : Int) (m : ByteArray) (hs : host.size ≤ 1048576) (l : List S25) (hl : l.length ≤ 1048576) (hx : ∀ x ∈ l, x.f4.length ≤ 1048576) (more : List S25) (hl2 : more.length ≤ 1048576) (hx2 : ∀ x ∈ more, x.f4.length ≤ 1048576)
    (a : Bool) (h : ByteArray) (lo hi : Int) (ms : List ByteArray) (hms : ms.length ≤ 1048576) :
    tollhouselaw14_AclFirst.l0 (k + 2) l more host port m (admitsB host port m l) (l.filter fun x => matchX x host port m) (l.filter fun x => !matchX x host port m) (l.length : Int) a h lo hi ms = some true := by
  have hj := first_j1 k host port m hs l hl hx a h lo hi ms hms
  have hn := filter_len (fun x : S25 => matchX x host port m) l
  have hall := admits_filter host port m l
  have hany := any_filter host port m l
  have hno := any_no host port m l
  have hM : ∀ x ∈ l.filter (fun x => matchX x host port m), matchX x host port m = true ∧ x ∈ l := fun x hx' => ⟨by simpa using (List.mem_filter.1 hx').2, (List.mem_filter.1 hx').1⟩
  have hO : ∀ x ∈ l.filter (fun x => !matchX x host port m), x ∈ l := fun x hx' => (List.mem_filter.1 hx').1
  generalize hA : admitsB host port m l = A at hall hj ⊢
  generalize (l.filter fun x => !matchX x host port m) = O at hn hno hO ⊢
  generalize (l.filter fun x => matchX x host port m) = M at hn hall hany hM ⊢
  simp only [tollhouselaw14_AclFirst.l0]
  rw [if_neg (by omega)]
  have happ : ∀ x ∈ l ++ more, x.f4.length ≤ 9223372036854775807 := fun x hx' => by
    rcases List.mem_append.1 hx' with hh | hh
    · exact Nat.le_trans (hx x hh) (by omega)
    · exact Nat.le_trans (hx2 x hh) (by omega)
  rcases M with _ | ⟨x, t⟩
  · have hf : A = false := hall.symm
    subst hf
    rw [if_pos (by simp), if_neg (by decide)]
    simp only [List.nil_append, List.length_nil, Nat.zero_add, Option.bind_some]
    rw [if_pos (by omega), if_pos (by omega), adm_eq host port m (by omega) _ (by rw [List.length_append]; omega) happ, adm_eq host port m (by omega) more (by omega) (fun x hx' => Nat.le_trans (hx2 x hx') (by omega)), wakes14]
    have e : admitsB host port m (l ++ more) = admitsB host port m more := by
      rw [admits_app, if_neg (by rw [hany]; simp)]
    rw [e]
    simp
  · have hx1 := hM x (List.mem_cons_self ..)
    have hA1 : x.f0 = A := by
      rw [← hall]; simp only [admitsB]; rw [if_pos hx1.1]
    have hlm : (x :: t).length = t.length + 1 := rfl
    rw [if_neg (by rw [hlm]; omega), if_pos (by rw [hlm]; omega)]
    have hr : rd_T25 (x :: t) 0 = x := rfl
    rw [hr, hA1]
    rw [if_neg (by simp), if_pos (by rw [hlm]; omega)]
    have ht : (x :: t).take 1 = [x] := rfl
    rw [ht, adm_eq host port m (by omega) [x] (by simp) (fun y hy => by rcases List.mem_singleton.1 hy with rfl; exact Nat.le_trans (hx _ hx1.2) (by omega))]
    have e1 : admitsB host port m [x] = A := by simp only [admitsB]; rw [if_pos hx1.1]; exact hA1
    rw [e1]
    simp only [Option.bind_some]
    rw [if_neg (by simp), if_pos (by omega), adm_eq host port m (by omega) (O ++ x :: t) (by rw [List.length_append]; omega) (fun y hy => by
      rcases List.mem_append.1 hy with hh | hh
      · exact Nat.le_trans (hx y (hO y hh)) (by omega)
      · exact Nat.le_trans (hx y (hM y hh).2) (by omega))]
    have e2 : admitsB host port m (O ++ x :: t) = A := by
      rw [admits_app, if_neg (by rw [hno]; simp), hall]
    rw [e2]
    simp only [Option.bind_some, List.nil_append, List.length_nil, Nat.zero_add]
    rw [if_neg (by simp), if_pos (by omega), if_pos (by omega), adm_eq host port m (by omega) _ (by rw [List.length_append]; omega) happ]
    have e3 : admitsB host port m (l ++ more) = A := by
      rw [admits_app, if_pos (by rw [hany]; rfl), hA]
    rw [e3]
    simp only [Option.bind_some, bne_self_eq_false]
    exact hj
theorem first_l0 (host : ByteArray) (port : Int) (m : ByteArray) (hs : host.size ≤ 1048576) (l : List S25) (hl : l.length ≤ 1048576) (hx : ∀ x ∈ l, x.f4.length ≤ 1048576) (more : List S25) (hl2 : more.length ≤ 1048576) (hx2 : ∀ x ∈ more, x.f4.length ≤ 1048576)
    (a : Bool) (h : ByteArray) (lo hi : Int) (ms : List ByteArray) (hms : ms.length ≤ 1048576) : ∀ (t pre : List S25), l = pre ++ t →
    tollhouselaw14_AclFirst.l0 (t.length + 2) l more host port m (admitsB host port m l) (pre.filter fun x => matchX x host port m) (pre.filter fun x => !matchX x host port m) (pre.length : Int) a h lo hi ms = some true
  | [], pre, e => by
    have e : l = pre := by rw [e, List.append_nil]
    subst e
    exact first_end 0 host port m hs l hl hx more hl2 hx2 a h lo hi ms hms
  | x :: t, pre, e => by
    have hlen : l.length = pre.length + (t.length + 1) := by rw [e]; simp
    have hn := filter_len (fun x : S25 => matchX x host port m) pre
    have hme : acl_Matches.f x.f0 x.f1 x.f2 x.f3 x.f4 host port m = some (matchX x host port m) := matches_eq _ _ _ _ _ _ _ _ (by omega) (Nat.le_trans (hx x (by rw [e]; simp)) (by omega))
    have hw : wrap64 ((pre.length : Int) + 1) = ((pre ++ [x]).length : Int) := by
      rw [List.length_append]
      unfold wrap64
      simp
      omega
    have ih := first_l0 host port m hs l hl hx more hl2 hx2 a h lo hi ms hms t (pre ++ [x]) (by rw [e]; simp)
    have hrd : rd_T25 l (pre.length : Int) = x := by rw [e]; exact rd_mid pre x t
    generalize admitsB host port m l = A at ih ⊢
    show tollhouselaw14_AclFirst.l0 ((t.length + 2) + 1) l more host port m A _ _ _ a h lo hi ms = _
    generalize t.length + 2 = K at ih ⊢
    simp only [tollhouselaw14_AclFirst.l0]
    rw [if_pos (by omega), if_pos (by omega), hrd, hw, hme]
    simp only [List.filter_append, List.filter_cons, List.filter_nil] at ih
    simp only [Option.bind_some]
    by_cases hm : matchX x host port m = true
    · rw [if_pos hm, if_pos (by omega)]
      rw [if_pos hm, if_neg (by simp [hm])] at ih
      simp only [List.append_nil] at ih
      exact ih
    · rw [if_neg hm, if_pos (by omega)]
      rw [if_neg hm, if_pos (by simpa using hm)] at ih
      simp only [List.append_nil] at ih
      exact ih
theorem AclFirst_pure (host : ByteArray) (port : Int) (m : ByteArray) (hs : host.size ≤ 1048576) (l : List S25) (hl : l.length ≤ 1048576) (hx : ∀ x ∈ l, x.f4.length ≤ 1048576) (more : List S25) (hl2 : more.length ≤ 1048576) (hx2 : ∀ x ∈ more, x.f4.length ≤ 1048576)
    (a : Bool) (h : ByteArray) (lo hi : Int) (ms : List ByteArray) (hms : ms.length ≤ 1048576) :
    tollhouselaw14_AclFirst.f (l.length + 2) l more a h lo hi ms host port m = some true := by
  unfold tollhouselaw14_AclFirst.f
  rw [adm_eq host port m (by omega) l (by omega) (fun x hx' => Nat.le_trans (hx x hx') (by omega))]
  exact first_l0 host port m hs l hl hx more hl2 hx2 a h lo hi ms hms l [] rfl
end Go.Proofs.YtjdlaofeenblkaaDoor.X

namespace Go.Proofs.YtjdlaofeenblkaaDoor.aclFirst
open Go.ChangeShapes Go.WideShapes Go.ChangeAt Go.RowKit Go.Proofs.YtjdlaofeenblkaaDoor Go.Proofs.YtjdlaofeenblkaaDoor.L Go.Proofs.YtjdlaofeenblkaaDoor.T Go.Proofs.YtjdlaofeenblkaaDoorW.PrintWords
set_option linter.unusedVariables false
set_option linter.unusedSimpArgs false
set_option maxRecDepth 100000
theorem own : ownKnob Tryd.prog.godebug = none := by kernel_rfl
theorem laidOut : laidOutB Tryd.prog = true := by kernel_rfl
/-- For every argument and every world that holds the listed variables. -/
theorem contract (H : Type) (enc : TypeId × Value → H) (W : World) (base : Nat) (args : Array Value) (ds gs : List (DataW H)) (before : List MemPlace)
    (hval : ∀ (j : Nat) t v, Tryd.f4.params[j]? = some t → args[j]? = some v → Value.okWide Tryd.prog W .any base t v)
    (hW : DataW.Whole enc Tryd.prog Tryd.f4.params.toList Rows.aclFirstSpec.vars false W args.toList ds gs before) (B : Nat) (hB : B ≤ 1048576) (hk : Rows.uptoBulkAll (ds ++ gs) ≤ B) (hL : laidMetH Tryd.prog laidL W) (hS : W.ShapedOpen Tryd.prog) :
    Calls Tryd.prog 4 args W fun e W' => ∃ v, e = .returned v ∧ Rows.aclFirstSpec.post enc Tryd.prog Tryd.f4 false true false false W args v W' := by
  have hG : Glob W := L.glob hL hS
  have hW' := hW
  obtain ⟨p, q, hA0, hV, rfl, hfz, hnd⟩ := hW
  have hA : DataW.TrodAll enc Tryd.prog W 0 (fun _ => true) true Tryd.f4.params.toList args.toList ds p := hA0
  rw [Tryd.params4] at hA hval
  obtain ⟨v0, vs0, d0, ds0, p0, q0, hargs, rfl, rfl, h0, r0⟩ := trodAll_cons hA
  obtain ⟨v1, vs1, d1, ds1, p1, q1, rfl, rfl, rfl, h1, r1⟩ := trodAll_cons r0
  obtain ⟨v2, vs2, d2, ds2, p2, q2, rfl, rfl, rfl, h2, r2⟩ := trodAll_cons r1
  obtain ⟨v3, vs3, d3, ds3, p3, q3, rfl, rfl, rfl, h3, r3⟩ := trodAll_cons r2
  obtain ⟨v4, vs4, d4, ds4, p4, q4, rfl, rfl, rfl, h4, r4⟩ := trodAll_cons r3
  obtain ⟨v5, vs5, d5, ds5, p5, q5, rfl, rfl, rfl, h5, r5⟩ := trodAll_cons r4
  obtain ⟨rfl, rfl, rfl⟩ := trodAll_nil r5
  obtain rfl : args = #[v0, v1, v2, v3, v4, v5] := by cases args; simp_all
  obtain ⟨rfl, rfl⟩ := trodVars_none hV
  clear hA0
  simp only [List.cons_append, List.nil_append, List.append_nil, Rows.uptoBulkAll] at hk
  have k0 := h0
  have lt0 : ∀ x ∈ p0, x.block < W.heap.size := by obtain ⟨m, hm⟩ := k0; exact DataW.trod_lt m _ _ _ hm
  obtain ⟨fu0, hf0⟩ := h0
  obtain ⟨a0, K0, G0⟩ := (X.opens_slice Tryd.underlying22 (by kernel_rfl) X.opens_rule) H enc W _ _ fu0 _ _ hf0
  replace G0 := G0 B (show Rows.uptoBulk d0 ≤ B by omega)
  have hv0 : Value.okWide Tryd.prog W .any base 22 v0 := hval 0 22 v0 (by simp only [List.getElem?_toArray, List.getElem?_cons_zero, List.getElem?_cons_succ]) (by simp only [List.getElem?_toArray, List.getElem?_cons_zero, List.getElem?_cons_succ])
  obtain ⟨ad0, len0, cap0, rfl⟩ := okWide_slice Tryd.underlying22 hv0
  obtain ⟨A0, c0, e0, l0, C0⟩ := K0
  injection (show [Value.slice ad0 len0 cap0] = [Value.slice A0 a0.length c0] from e0) with e0 _
  injection e0 with ea0 eb0 ec0; subst ea0 eb0 ec0
  have k1 := h1
  have lt1 : ∀ x ∈ p1, x.block < W.heap.size := by obtain ⟨m, hm⟩ := k1; exact DataW.trod_lt m _ _ _ hm
  obtain ⟨fu1, hf1⟩ := h1
  obtain ⟨a1, K1, G1⟩ := (X.opens_slice Tryd.underlying22 (by kernel_rfl) X.opens_rule) H enc W _ _ fu1 _ _ hf1
  replace G1 := G1 B (show Rows.uptoBulk d1 ≤ B by omega)
  have hv1 : Value.okWide Tryd.prog W .any base 22 v1 := hval 1 22 v1 (by simp only [List.getElem?_toArray, List.getElem?_cons_zero, List.getElem?_cons_succ]) (by simp only [List.getElem?_toArray, List.getElem?_cons_zero, List.getElem?_cons_succ])
  obtain ⟨ad1, len1, cap1, rfl⟩ := okWide_slice Tryd.underlying22 hv1
  obtain ⟨A1, c1, e1, l1, C1⟩ := K1
  injection (show [Value.slice ad1 len1 cap1] = [Value.slice A1 a1.length c1] from e1) with e1 _
  injection e1 with ea1 eb1 ec1; subst ea1 eb1 ec1
  have k2 := h2
  have lt2 : ∀ x ∈ p2, x.block < W.heap.size := by obtain ⟨m, hm⟩ := k2; exact DataW.trod_lt m _ _ _ hm
  obtain ⟨fu2, hf2⟩ := h2
  obtain ⟨a2, K2, G2⟩ := X.opens_rule H enc W _ _ fu2 _ _ hf2
  replace G2 := G2 B (show Rows.uptoBulk d2 ≤ B by omega)
  have hv2 : Value.okWide Tryd.prog W .any base 25 v2 := hval 2 25 v2 (by simp only [List.getElem?_toArray, List.getElem?_cons_zero, List.getElem?_cons_succ]) (by simp only [List.getElem?_toArray, List.getElem?_cons_zero, List.getElem?_cons_succ])
  obtain ⟨cs2, rfl, _⟩ := okWide_struct Tryd.underlying25 hv2
  obtain ⟨A2_4, c2_4, hcs2, l2_4, C2_4⟩ := X.k25_open K2
  have ecs2 : cs2 = List.toArray _ := (Array.toArray_toList (xs := cs2)).symm.trans (congrArg List.toArray hcs2)
  subst ecs2
  have k3 := h3
  have lt3 : ∀ x ∈ p3, x.block < W.heap.size := by obtain ⟨m, hm⟩ := k3; exact DataW.trod_lt m _ _ _ hm
  obtain ⟨fu3, hf3⟩ := h3
  obtain ⟨a3, K3, G3⟩ := (X.opens_string Tryd.underlying9) H enc W _ _ fu3 _ _ hf3
  replace G3 := G3 B (show Rows.uptoBulk d3 ≤ B by omega)
  have hv3 : Value.okWide Tryd.prog W .any base 9 v3 := hval 3 9 v3 (by simp only [List.getElem?_toArray, List.getElem?_cons_zero, List.getElem?_cons_succ]) (by simp only [List.getElem?_toArray, List.getElem?_cons_zero, List.getElem?_cons_succ])
  obtain ⟨x3, rfl⟩ := okWide_string Tryd.underlying9 hv3
  obtain rfl : a3 = x3 := (show x3 = a3 by simpa [Kd.int, Kd.bool, Kd.string, Kd.scalar, Value.cells] using K3).symm
  have k4 := h4
  have lt4 : ∀ x ∈ p4, x.block < W.heap.size := by obtain ⟨m, hm⟩ := k4; exact DataW.trod_lt m _ _ _ hm
  obtain ⟨fu4, hf4⟩ := h4
  obtain ⟨a4, K4, G4⟩ := (X.opens_int Tryd.underlying3) H enc W _ _ fu4 _ _ hf4
  replace G4 := G4 B (show Rows.uptoBulk d4 ≤ B by omega)
  have hv4 : Value.okWide Tryd.prog W .any base 3 v4 := hval 4 3 v4 (by simp only [List.getElem?_toArray, List.getElem?_cons_zero, List.getElem?_cons_succ]) (by simp only [List.getElem?_toArray, List.getElem?_cons_zero, List.getElem?_cons_succ])
  obtain ⟨x4, rfl⟩ := okWide_int Tryd.underlying3 hv4
  obtain rfl : a4 = x4 := (show x4 = a4 by simpa [Kd.int, Kd.bool, Kd.string, Kd.scalar, Value.cells] using K4).symm
  have k5 := h5
  have lt5 : ∀ x ∈ p5, x.block < W.heap.size := by obtain ⟨m, hm⟩ := k5; exact DataW.trod_lt m _ _ _ hm
  obtain ⟨fu5, hf5⟩ := h5
  obtain ⟨a5, K5, G5⟩ := (X.opens_string Tryd.underlying9) H enc W _ _ fu5 _ _ hf5
  replace G5 := G5 B (show Rows.uptoBulk d5 ≤ B by omega)
  have hv5 : Value.okWide Tryd.prog W .any base 9 v5 := hval 5 9 v5 (by simp only [List.getElem?_toArray, List.getElem?_cons_zero, List.getElem?_cons_succ]) (by simp only [List.getElem?_toArray, List.getElem?_cons_zero, List.getElem?_cons_succ])
  obtain ⟨x5, rfl⟩ := okWide_string Tryd.underlying9 hv5
  obtain rfl : a5 = x5 := (show x5 = a5 by simpa [Kd.int, Kd.bool, Kd.string, Kd.scalar, Value.cells] using K5).symm
  have hp := X.AclFirst_pure a3 a4 a5 (by have := G3; unfold X.goodS at this; omega) a0 (Nat.le_trans G0.1 hB) (fun x hx => Nat.le_trans (G0.2 x hx).2.2.2.2.1 hB) a1 (Nat.le_trans G1.1 hB) (fun x hx => Nat.le_trans (G1.2 x hx).2.2.2.2.1 hB) a2.f0 a2.f1 a2.f2 a2.f3 a2.f4 (Nat.le_trans G2.2.2.2.2.1 hB)
  refine (X.tollhouselaw14_AclFirst.calls _ _ _ _ _ _ _ _ _ _ _ _ _ _ _ _ _ _ _ _ _ _ (X.share_rule C0 l0) (X.share_rule C1 l1) (X.share_string C2_4 l2_4) hG hp).mono ?_
  rintro e W' ⟨he, bel0⟩
  have bel : Below W.heap.size W W' := bel0
  subst he
  exact ⟨_, rfl, _, _, _, [], _, [], hW', trodAll_mk1 (shut_bool Tryd.underlying4 _), (trodAll_cons_mk (Below.trod laidOut (by kernel_rfl) (of_decide_eq_true (by kernel_rfl)) k0 bel lt0) (trodAll_cons_mk (Below.trod laidOut (by kernel_rfl) (of_decide_eq_true (by kernel_rfl)) k1 bel lt1) (trodAll_cons_mk (Below.trod laidOut (by kernel_rfl) (of_decide_eq_true (by kernel_rfl)) k2 bel lt2) (trodAll_cons_mk (Below.trod laidOut (by kernel_rfl) (of_decide_eq_true (by kernel_rfl)) k3 bel lt3) (trodAll_cons_mk (Below.trod laidOut (by kernel_rfl) (of_decide_eq_true (by kernel_rfl)) k4 bel lt4) (trodAll_cons_mk (Below.trod laidOut (by kernel_rfl) (of_decide_eq_true (by kernel_rfl)) k5 bel lt5) trodAll_mk0)))))), rfl, bel.frame _, fun h => by cases h⟩
theorem reads (os : Os) {H : Type} (enc : TypeId × Value → H) : ∃ places, DataW.whole enc Tryd.prog ((laidWorld os).forCall (fun _ _ => 0) ⟨#[], #[.slice none 0 0, .slice none 0 0, .agg #[.bool false, .string ByteArray.empty, .int .i64 0, .int .i64 0, .slice none 0 0], .string ByteArray.empty, .int .i64 0, .string ByteArray.empty], []⟩).memory Tryd.f4.params.toList Rows.aclFirstSpec.vars false (#[.slice none 0 0, .slice none 0 0, .agg #[.bool false, .string ByteArray.empty, .int .i64 0, .int .i64 0, .slice none 0 0], .string ByteArray.empty, .int .i64 0, .string ByteArray.empty] : Array Value).toList 8 = some ([.nil, .nil, .agg [.lit (.bool false), .lit (.string []), .lit (.int .i64 0), .lit (.int .i64 0), .nil], .lit (.string []), .lit (.int .i64 0), .lit (.string [])], [], places) :=
  ⟨[], by kernel_rfl⟩
theorem liftedUpto (os : Os) (started : os.Started) (H : Type) (enc : TypeId × Value → H) (F : Stop.Interp) :
    ReturnsInHanded {} Tryd.checked os 4 .any ((Rows.OpenSpec.upto Rows.aclFirstSpec).preRow enc Tryd.prog Tryd.f4 Rows.aclFirstUptoRow.domain false Rows.aclFirstUptoRow.laid) (((Rows.OpenSpec.upto Rows.aclFirstSpec).at F).post enc Tryd.prog Tryd.f4 false true false false) := by
  obtain ⟨places, hx⟩ := reads os enc
  refine returnsInHanded_of_row (C := Tryd.checked) (s := Rows.OpenSpec.upto Rows.aclFirstSpec) own started (by kernel_rfl) Tryd.func4
    (witness_row_atRef (enc := enc) (C := Tryd.checked) false (laidWorld os) #[.slice none 0 0, .slice none 0 0, .agg #[.bool false, .string ByteArray.empty, .int .i64 0, .int .i64 0, .slice none 0 0], .string ByteArray.empty, .int .i64 0, .string ByteArray.empty] rfl (by kernel_rfl) (by kernel_rfl) (by kernel_rfl)
      (OpenSpec.preRow_of_cond 8 hx (by kernel_rfl) (fun k hk => by cases hk; kernel_rfl) (by kernel_rfl) (laid_met os _))) ?_
  intro W base args ds gs before hval hW _ hk _ hL hS _
  exact contract H enc W base args ds gs before hval hW 1048576 (Nat.le_refl _) (of_decide_eq_true (hk _ rfl)) hL hS
theorem saidUpto : Rows.AclFirstUptoSaid :=
  OpenClaim.holds_of_cond 4 Tryd.f4 rfl rfl rfl rfl rfl rfl rfl ⟨rfl, rfl, rfl, rfl, rfl⟩ rfl rfl rfl rfl rfl (by kernel_rfl) Tryd.func4 (by kernel_rfl)
    (of_decide_eq_true (by kernel_rfl)) (by unfold Func.isWrapper; first | (rw [if_pos (by decide +kernel)]; kernel_rfl) | (rw [if_neg (by decide +kernel)]; exact ⟨rfl, rfl⟩))
    (fun os started H enc _ F => by rw [OpenClaim.pre_eq_preRow]; exact liftedUpto os started H enc F)
theorem plain (f : FuncId) (fn : Func) (hf : Tryd.pinned.checked.prog.funcNamed "tollhouse/tollhouselaw14.AclFirst" = some f) (hfn : Tryd.pinned.checked.prog.funcs[f]? = some fn) :
    true = Tryd.pinned.checked.prog.looks [] ∧ ∀ (j : Nat) t, fn.params[j]? = some t → Tryd.pinned.checked.prog.wantsStandIn t = false := by
  obtain rfl : f = 4 := Option.some.inj ((show Tryd.prog.funcNamed "tollhouse/tollhouselaw14.AclFirst" = some 4 by kernel_rfl).symm.trans hf) |>.symm
  obtain rfl : fn = Tryd.f4 := (Option.some.inj (Tryd.func4.symm.trans hfn)).symm
  refine ⟨by kernel_rfl, fun j t ht => ?_⟩
  rw [Tryd.params4] at ht
  have s22 : Tryd.prog.wantsStandIn 22 = false := by kernel_rfl
  have s25 : Tryd.prog.wantsStandIn 25 = false := by kernel_rfl
  have s9 : Tryd.prog.wantsStandIn 9 = false := by kernel_rfl
  have s3 : Tryd.prog.wantsStandIn 3 = false := by kernel_rfl
  have hm := Array.mem_of_getElem? ht
  simp only [List.mem_toArray, List.mem_cons, List.not_mem_nil, or_false] at hm
  rcases hm with rfl | rfl | rfl | rfl | rfl | rfl
  · exact s22
  · exact s22
  · exact s25
  · exact s9
  · exact s3
  · exact s9
/-- THE CARD OF THE BOUNDED FORM. -/
theorem cardUpto : Rows.AclFirstUptoCardSaid :=
  Claim7.holds_tied_plain_at .later [] _ _ _ _ saidUpto (fun _ h => by cases h) (by kernel_rfl) (fun _ h => by cases h) aclFirstUpto_row_tie rfl ⟨rfl, rfl⟩ (by kernel_rfl) rfl plain (by kernel_rfl)
#print axioms cardUpto
end Go.Proofs.YtjdlaofeenblkaaDoor.aclFirst
namespace Go.Proofs.YtjdlaofeenblkaaDoor
/-- The statement, under a short name. -/
theorem aclFirst_card : Rows.AclFirstUptoCardSaid := aclFirst.cardUpto
end Go.Proofs.YtjdlaofeenblkaaDoor
