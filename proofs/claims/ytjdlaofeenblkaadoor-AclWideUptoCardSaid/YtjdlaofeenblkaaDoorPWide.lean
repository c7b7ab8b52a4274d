/- AclWide's plain law. -/
import Derived.Test.YtjdlaofeenblkaaDoorPMatch
import Derived.Test.YtjdlaofeenblkaaDoorX11
namespace Go.Proofs.YtjdlaofeenblkaaDoor.X
open Go.RowKit Go.Proofs.YtjdlaofeenblkaaDoorW.PrintWords Go.Proofs.YtjdlaofeenblkaaDoorW.PrintMore Go.Proofs.YtjdlaofeenblkaaDoor.T
set_option linter.unusedSimpArgs false
set_option linter.unusedVariables false
theorem wakes14 : tollhouselaw14_wakes.f = some true := by decide +kernel
theorem mx_ge (a b : Int) : b ≤ mx a b ∧ a ≤ mx a b := by unfold mx; split <;> omega
theorem mn_le (a b : Int) : mn a b ≤ b ∧ mn a b ≤ a := by unfold mn; split <;> omega
theorem wide_all (host : ByteArray) (port : Int) (m : ByteArray) : matchB ⟨#[42]⟩ 1 65535 [] host port m = (decide (1 ≤ port) && decide (port ≤ 65535)) := by
  have h : ofB ⟨#[42]⟩ host = true := by unfold ofB; rw [if_pos (by decide +kernel)]
  unfold matchB
  rw [h]
  simp
theorem match_parts {h : ByteArray} {lo hi : Int} {ms : List ByteArray} {host : ByteArray} {port : Int} {m : ByteArray} (hm : matchB h lo hi ms host port m = true) : ofB h host = true ∧ lo ≤ port ∧ port ≤ hi ∧ (decide (ms.length = 0) || Lib.containsS ms m) = true := by
  unfold matchB at hm
  simp only [Bool.and_eq_true, decide_eq_true_eq] at hm
  exact ⟨hm.1, hm.2.1, hm.2.2.1, hm.2.2.2⟩
theorem match_of (h : ByteArray) {lo hi : Int} {ms : List ByteArray} (host : ByteArray) {port : Int} {m : ByteArray} (h2 : lo ≤ port) (h3 : port ≤ hi) (h4 : (decide (ms.length = 0) || Lib.containsS ms m) = true) : matchB h lo hi ms host port m = ofB h host := by
  unfold matchB
  rw [h4, decide_eq_true h2, decide_eq_true h3]
  simp
theorem x_front (a : ByteArray) : ((⟨#[120]⟩ : ByteArray) ++ a).data.toList = 120 :: a.data.toList := by rw [toList_app]; rfl
theorem x_back (a : ByteArray) : (a ++ (⟨#[120]⟩ : ByteArray)).data.toList = a.data.toList ++ [120] := by rw [toList_app]
theorem suffix_cons {c : UInt8} {l p : List UInt8} (h : Lib.hasSuffix l p = true) : Lib.hasSuffix (c :: l) p = true := by
  unfold Lib.hasSuffix at h ⊢
  rw [List.isSuffixOf_iff_suffix] at h ⊢
  exact h.trans (List.suffix_cons _ _)
theorem suffix_self (l : List UInt8) : Lib.hasSuffix l l = true := by
  unfold Lib.hasSuffix
  rw [List.isSuffixOf_iff_suffix]
  exact List.suffix_refl _
theorem dot_prefix (h : ByteArray) : Lib.hasPrefix h.data.toList [46] = (decide (0 < h.size) && bt h 0 == 46) := by
  have hl := size_toList h
  unfold Lib.hasPrefix bt
  by_cases hs : 0 < h.size
  · rw [dif_pos (by simpa using hs)]
    have he : h.data.toList = h[0] :: h.data.toList.tail := by
      cases hd : h.data.toList with
      | nil => rw [hd] at hl; simp at hl; omega
      | cons a t =>
        have : h[0] = h.data.toList[0]'(by rw [hl]; exact hs) := rfl
        simp [this, hd]
    rw [he, decide_eq_true hs]
    show ((46 : UInt8) == h[0] && ([] : List UInt8).isPrefixOf h.data.toList.tail) = _
    have e0 : ([] : List UInt8).isPrefixOf h.data.toList.tail = true := by cases h.data.toList.tail <;> rfl
    rw [e0, Bool.and_true, Bool.true_and, Bool.eq_iff_iff]
    simp only [beq_iff_eq]
    constructor
    · intro e; show ((h[0]).toNat : Int) = 46; rw [← e]; rfl
    · intro e
      have e2 : h[0].toNat = 46 := by have : ((h[0]).toNat : Int) = 46 := e; omega
      exact (UInt8.toNat_inj.1 (by rw [e2]; rfl)).symm
  · have : h.data.toList = [] := List.eq_nil_of_length_eq_zero (by omega)
    rw [this, decide_eq_false hs]
    rfl
/-- a rule of a host that begins with a point -/
theorem of_dot (h host : ByteArray) (hd : Lib.hasPrefix h.data.toList [46] = true) : ofB h host = (Lib.hasSuffix host.data.toList h.data.toList && decide ((host.size : Int) > (h.size : Int))) := by
  unfold ofB
  have : ¬ (h.toList = ([42] : List UInt8)) := by
    intro e
    rw [toList_eq] at e
    rw [e] at hd
    simp [Lib.hasPrefix] at hd
  rw [if_neg this, if_pos hd]
theorem of_plain (h host : ByteArray) (hd : Lib.hasPrefix h.data.toList [46] = false) : ofB h host = (h.toList == ([42] : List UInt8) || h.toList == host.toList) := by
  unfold ofB
  by_cases e : h.toList = ([42] : List UInt8)
  · rw [if_pos e, e]; rfl
  · have : (h.toList == ([42] : List UInt8)) = false := by simpa using e
    rw [if_neg e, hd, this]
    simp
theorem wide_j2 (k : Nat) (a : Bool) (h : ByteArray) (lo hi : Int) (ms : List ByteArray) (host : ByteArray) (port : Int) (m : ByteArray) (hs : host.size ≤ 140737488351232) (hh : h.size ≤ 140737488351232) (hms : ms.length ≤ 9223372036854775807)
    (hm : matchB h lo hi ms host port m = true) : tollhouselaw14_AclWide.j2 (k + 1) host port m (Lib.hasPrefix h.data.toList [46]) a h lo hi ms = some true := by
  obtain ⟨p1, p2, p3, p4⟩ := match_parts hm
  simp only [tollhouselaw14_AclWide.j2]
  rw [wakes14]
  cases hd : Lib.hasPrefix h.data.toList [46] with
  | true =>
    rw [of_dot h host hd] at p1
    simp only [Bool.and_eq_true, decide_eq_true_eq] at p1
    rw [if_pos rfl, if_pos (by omega), matches_eq _ _ _ _ _ _ _ _ (by rw [size_app]; show 1 + host.size ≤ _; omega) hms, if_pos (by omega), matches_eq _ _ _ _ _ _ _ _ (by rw [size_app]; show 1 + h.size ≤ _; omega) hms, matches_eq _ _ _ _ _ _ _ _ (by omega) hms]
    have e1 : matchB h lo hi ms ((⟨#[120]⟩ : ByteArray) ++ host) port m = true := by
      rw [match_of h _ p2 p3 p4, of_dot h _ hd, x_front, suffix_cons p1.1, size_app]
      simp only [Bool.true_and, decide_eq_true_eq]
      have : (⟨#[120]⟩ : ByteArray).size = 1 := rfl
      omega
    have e2 : matchB h lo hi ms ((⟨#[120]⟩ : ByteArray) ++ h) port m = true := by
      rw [match_of h _ p2 p3 p4, of_dot h _ hd, x_front, suffix_cons (suffix_self _), size_app]
      simp only [Bool.true_and, decide_eq_true_eq]
      have : (⟨#[120]⟩ : ByteArray).size = 1 := rfl
      omega
    have e3 : matchB h lo hi ms h port m = false := by
      rw [match_of h _ p2 p3 p4, of_dot h _ hd]
      simp
    rw [e1, e2, e3]
    simp
  | false =>
    rw [of_plain h host hd] at p1
    rw [if_neg (by decide), if_pos (by omega), matches_eq _ _ _ _ _ _ _ _ (by rw [size_app]; show host.size + 1 ≤ _; omega) hms]
    rw [match_of h _ p2 p3 p4, of_plain h _ hd]
    have e1 : (h.toList == ([42] : List UInt8)) = ((h.toList == ([42] : List UInt8)) || h.toList == (host ++ (⟨#[120]⟩ : ByteArray)).toList) := by
      cases he : h.toList == ([42] : List UInt8) with
      | true => rfl
      | false =>
        rw [he] at p1
        simp only [Bool.false_or, beq_iff_eq] at p1
        have : (h.toList == (host ++ (⟨#[120]⟩ : ByteArray)).toList) = false := by
          rw [toList_eq (host ++ _), x_back, p1, toList_eq]
          rw [beq_eq_false_iff_ne]
          intro e
          have := congrArg List.length e
          simp at this
        rw [this]; rfl
    rw [← e1]
    simp
theorem AclWide_pure (a : Bool) (h : ByteArray) (lo hi : Int) (ms : List ByteArray) (host : ByteArray) (port : Int) (m : ByteArray) (hs : host.size ≤ 140737488351232) (hh : h.size ≤ 140737488351232) (hms : ms.length ≤ 9223372036854775807) :
    tollhouselaw14_AclWide.f 3 a h lo hi ms host port m = some true := by
  have hj : tollhouselaw14_AclWide.j0 3 host port m false a h lo hi ms = some true := by
    simp only [tollhouselaw14_AclWide.j0]
    rw [if_neg (by decide), matches_eq _ _ _ _ _ _ _ _ (by omega) hms, wakes14]
    simp only [Option.bind_some]
    by_cases hm : matchB h lo hi ms host port m = true
    · obtain ⟨p1, p2, p3, p4⟩ := match_parts hm
      have n1 := mn_le lo 1
      have n2 := mx_ge hi 65535
      rw [if_pos hm, matches_eq _ _ _ _ _ _ _ _ (by omega) (by simp), matches_eq _ _ _ _ _ _ _ _ (by omega) (by simp)]
      simp only [Option.bind_some]
      have e1 : matchB h (mn lo 1) (mx hi 65535) [] host port m = true := by rw [match_of h host (by omega) (by omega) rfl]; exact p1
      have e2 : matchB h (mn lo 1) (mx hi 65535) [] host lo ⟨#[]⟩ = true := by rw [match_of h host (by omega) (by omega) rfl]; exact p1
      rw [if_pos e1, e2]
      simp only [tollhouselaw14_AclWide.j1]
      rw [if_neg (by decide)]
      have hd := dot_prefix h
      by_cases h0 : (h.size : Int) > 0
      · rw [if_pos h0, if_pos h0]
        rw [decide_eq_true (by omega : 0 < h.size), Bool.true_and] at hd
        rw [← hd]
        exact wide_j2 0 a h lo hi ms host port m hs hh hms hm
      · rw [if_neg h0]
        rw [decide_eq_false (by omega : ¬ 0 < h.size), Bool.false_and] at hd
        rw [← hd]
        exact wide_j2 0 a h lo hi ms host port m hs hh hms hm
    · rw [if_neg hm]
  unfold tollhouselaw14_AclWide.f
  rw [matches_eq _ _ _ _ _ _ _ _ (by omega) (by simp), wide_all]
  simp only [Option.bind_some]
  by_cases h1 : port ≥ 1
  · rw [if_pos h1, decide_eq_true h1]
    simpa using hj
  · rw [if_neg h1, decide_eq_false h1]
    simpa using hj
end Go.Proofs.YtjdlaofeenblkaaDoor.X
