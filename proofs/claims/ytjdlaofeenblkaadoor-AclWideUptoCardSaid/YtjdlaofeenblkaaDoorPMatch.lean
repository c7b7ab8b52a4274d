/- What acl.Matches and acl.Admits tell, as plain functions. -/
import Derived.Test.YtjdlaofeenblkaaDoorHAcl
namespace Go.Proofs.YtjdlaofeenblkaaDoor.X
open Go.RowKit Go.Proofs.YtjdlaofeenblkaaDoorW.PrintWords Go.Proofs.YtjdlaofeenblkaaDoor.T
set_option linter.unusedSimpArgs false
set_option linter.unusedVariables false
def ofB (h host : ByteArray) : Bool := if h.toList = ([42] : List UInt8) then true else if Lib.hasPrefix h.data.toList [46] = true then Lib.hasSuffix host.data.toList h.data.toList && decide ((host.size : Int) > (h.size : Int)) else h.toList == host.toList
def matchB (h : ByteArray) (lo hi : Int) (ms : List ByteArray) (host : ByteArray) (port : Int) (m : ByteArray) : Bool := ofB h host && (decide (lo ≤ port) && (decide (port ≤ hi) && (decide (ms.length = 0) || Lib.containsS ms m)))
theorem of_eq (a : Bool) (h : ByteArray) (lo hi : Int) (ms : List ByteArray) (host : ByteArray) (hs : host.size ≤ 9223372036854775807) : acl_of.f a h lo hi ms host = some (ofB h host) := by
  unfold acl_of.f ofB
  by_cases h1 : h.toList = ([42] : List UInt8)
  · rw [if_pos h1, if_pos h1]
  · rw [if_neg h1, if_neg h1]
    unfold strings_HasPrefix.f strings_HasSuffix.f
    rw [if_pos hs]
    simp only [Option.bind_some]
    cases Lib.hasPrefix h.data.toList [46] <;> simp
    cases Lib.hasSuffix host.data.toList h.data.toList <;> simp
theorem matches_eq (a : Bool) (h : ByteArray) (lo hi : Int) (ms : List ByteArray) (host : ByteArray) (port : Int) (m : ByteArray) (hs : host.size ≤ 9223372036854775807) (hm : ms.length ≤ 9223372036854775807) :
    acl_Matches.f a h lo hi ms host port m = some (matchB h lo hi ms host port m) := by
  unfold acl_Matches.f matchB
  rw [of_eq a h lo hi ms host hs]
  unfold slices_Contains_string.f
  rw [if_pos hm]
  simp only [Option.bind_some]
  cases ofB h host <;> simp
  by_cases h1 : lo ≤ port <;> simp [h1]
  by_cases h2 : port ≤ hi <;> simp [h2]
  by_cases h3 : ms = [] <;> simp [h3]
def matchX (x : S25) (host : ByteArray) (port : Int) (m : ByteArray) : Bool := matchB x.f1 x.f2 x.f3 x.f4 host port m
def admitsB (host : ByteArray) (port : Int) (m : ByteArray) : List S25 → Bool
  | [] => false
  | x :: t => if matchX x host port m = true then x.f0 else admitsB host port m t
theorem admits_eq (host : ByteArray) (port : Int) (m : ByteArray) (hs : host.size ≤ 9223372036854775807) : ∀ (l : List S25), (∀ x ∈ l, x.f4.length ≤ 9223372036854775807) → admitsL host port m l = some (admitsB host port m l)
  | [], _ => rfl
  | x :: t, h => by
    show (matchF x host port m).bind (fun b => if b = true then some x.f0 else admitsL host port m t) = some (if matchX x host port m = true then x.f0 else admitsB host port m t)
    have hx : matchF x host port m = some (matchX x host port m) := matches_eq _ _ _ _ _ _ _ _ hs (h x (List.mem_cons_self ..))
    rw [hx, admits_eq host port m hs t (fun y hy => h y (List.mem_cons_of_mem _ hy))]
    simp only [Option.bind_some]
    by_cases e : matchX x host port m = true
    · rw [if_pos e, if_pos e]
    · rw [if_neg e, if_neg e]
theorem toList_app (a b : ByteArray) : (a ++ b).data.toList = a.data.toList ++ b.data.toList := by simp
theorem size_app (a b : ByteArray) : (a ++ b).size = a.size + b.size := by simp
theorem toList_eq (a : ByteArray) : a.toList = a.data.toList := Lib.toList_data a
end Go.Proofs.YtjdlaofeenblkaaDoor.X
