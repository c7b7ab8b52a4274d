/- Functions of package strings, slices and strconv in the print's form, out of the library's contracts. -/
import Derived.Test.YtjdlaofeenblkaaDoorHKit
import Derived.Test.YtjdlaofeenblkaaDoorShelf
namespace Go.Proofs.YtjdlaofeenblkaaDoor.X
open Go.RowKit Go.Proofs.YtjdlaofeenblkaaDoorW.PrintWords Go.Proofs.YtjdlaofeenblkaaDoor.T
set_option linter.unusedVariables false
def strings_HasPrefix.f (a0 a1 : ByteArray) : Option Bool := some (Lib.hasPrefix a0.data.toList a1.data.toList)
theorem strings_HasPrefix.calls (a0 a1 : ByteArray) (r : Bool) (w : World) (HGg : Glob w) (h : strings_HasPrefix.f a0 a1 = some r) : Calls Tryd.prog 47 #[.string a0, .string a1] w fun e w' => e = .returned (.bool r) ∧ Drawn0 w w' := by
  cases h; exact (Tryd.strings_HasPrefix a0 a1 w).mono fun e w' ⟨he, hw⟩ => ⟨he, drawn_same hw⟩
def strings_HasSuffix.f (a0 a1 : ByteArray) : Option Bool := if a0.size ≤ 9223372036854775807 then some (Lib.hasSuffix a0.data.toList a1.data.toList) else none
theorem strings_HasSuffix.calls (a0 a1 : ByteArray) (r : Bool) (w : World) (HGg : Glob w) (h : strings_HasSuffix.f a0 a1 = some r) : Calls Tryd.prog 63 #[.string a0, .string a1] w fun e w' => e = .returned (.bool r) ∧ Drawn0 w w' := by
  obtain ⟨h1, rfl⟩ := of_lim h; exact (Tryd.strings_HasSuffix a0 a1 w h1).mono fun e w' ⟨he, hw⟩ => ⟨he, drawn_same hw⟩
def strings_TrimPrefix.f (a0 a1 : ByteArray) : Option ByteArray := some ⟨(Lib.trimPrefix a0.data.toList a1.data.toList).toArray⟩
theorem strings_TrimPrefix.calls (a0 a1 : ByteArray) (r : ByteArray) (w : World) (HGg : Glob w) (h : strings_TrimPrefix.f a0 a1 = some r) : Calls Tryd.prog 31 #[.string a0, .string a1] w fun e w' => e = .returned (.string r) ∧ Drawn0 w w' := by
  cases h; exact (Tryd.strings_TrimPrefix a0 a1 w).mono fun e w' ⟨he, hw⟩ => ⟨he, drawn_same hw⟩
def strings_Cut.f (a0 a1 : ByteArray) : Option (ByteArray × ByteArray × Bool) := if a0.size < 4294967281 then some (⟨(Lib.cut a0.data.toList a1.data.toList).1.toArray⟩, ⟨(Lib.cut a0.data.toList a1.data.toList).2.1.toArray⟩, (Lib.cut a0.data.toList a1.data.toList).2.2) else none
theorem strings_Cut.calls (a0 a1 : ByteArray) (r1 r2 : ByteArray) (r3 : Bool) (w : World) (HGg : Glob w) (h : strings_Cut.f a0 a1 = some (r1, r2, r3)) : Calls Tryd.prog 44 #[.string a0, .string a1] w fun e w' => e = .returned (.tuple #[.string r1, .string r2, .bool r3]) ∧ Drawn0 w w' := by
  obtain ⟨h1, h2⟩ := of_lim h; injection h2 with e1 e2; injection e2 with e2 e3; subst e1 e2 e3; obtain ⟨m, hm⟩ := HGg.maxLen
  exact (Tryd.strings_Cut a0 a1 m w h1 hm).mono fun e w' ⟨he, hw⟩ => ⟨he, drawn_of hw⟩
def strconv_Itoa.f (a0 : Int) : Option ByteArray := if -9223372036854775808 ≤ a0 ∧ a0 ≤ 9223372036854775807 then some ⟨(Lib.itoa a0).toArray⟩ else none
theorem strconv_Itoa.calls (a0 : Int) (r : ByteArray) (w : World) (HGg : Glob w) (h : strconv_Itoa.f a0 = some r) : Calls Tryd.prog 65 #[.int .i64 a0] w fun e w' => e = .returned (.string r) ∧ Below w.heap.size w w' := by
  obtain ⟨⟨h1, h2⟩, rfl⟩ := of_lim h; exact (Tryd.strconv_Itoa a0 h1 h2 w HGg.pow10).mono fun e w' ⟨he, hw⟩ => ⟨he, below_drewgrow hw⟩
def slices_Contains_string.f (l0 : List ByteArray) (a1 : ByteArray) : Option Bool := if l0.length ≤ 9223372036854775807 then some (Lib.containsS l0 a1) else none
theorem slices_Contains_string.calls (A0 : Option Addr) (c0 : Nat) (l0 : List ByteArray) (a1 : ByteArray) (r : Bool) (w : World) (hr0 : Kd.C Kd.string w A0 l0.length l0) (hc0 : l0.length ≤ c0) (HGg : Glob w) (h : slices_Contains_string.f l0 a1 = some r) : Calls Tryd.prog 40 #[.slice A0 l0.length c0, .string a1] w fun e w' => e = .returned (.bool r) ∧ Drawn0 w w' := by
  obtain ⟨h1, rfl⟩ := of_lim h
  rcases Nat.eq_zero_or_pos l0.length with h0 | h0
  · obtain rfl := List.eq_nil_of_length_eq_zero h0; exact (Tryd.slices_Contains_string_empty A0 c0 a1 w).mono fun e w' ⟨he, hw⟩ => ⟨he, drawn_same hw⟩
  · obtain ⟨b, off, rfl, hc⟩ := C_strings hr0 h0; refine (Tryd.slices_Contains_string b off l0.length c0 l0 a1 w (Nat.le_refl _) h1 hc).mono fun e w' ⟨he, hw⟩ => ⟨?_, drawn_same hw⟩; rwa [List.take_length] at he
end Go.Proofs.YtjdlaofeenblkaaDoor.X
