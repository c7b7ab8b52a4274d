/- For contracts written by hand in the print's form: small lemmas. -/
import Derived.Test.YtjdlaofeenblkaaDoorX0
import Derived.Test.YtjdlaofeenblkaaDoorGlob
import Derived.Test.YtjdlaofeenblkaaDoorBytes
namespace Go.Proofs.YtjdlaofeenblkaaDoor.X
open Go.RowKit Go.Proofs.YtjdlaofeenblkaaDoorW.PrintWords Go.Proofs.YtjdlaofeenblkaaDoor.T
set_option linter.unusedVariables false
theorem of_lim {α : Type} {c : Prop} [Decidable c] {x r : α} (h : (if c then some x else none) = some r) : c ∧ x = r := by
  by_cases hc : c
  · rw [if_pos hc] at h; exact ⟨hc, Option.some.inj h⟩
  · rw [if_neg hc] at h; cases h
theorem drawn_same {w w' : World} (h : w' = w) : Drawn0 w w' := by subst h; exact Drawn0.refl _
theorem drawn_of {w w' : World} (h : ∃ n, w' = w.drewN n) : Drawn0 w w' := ⟨h⟩
theorem below_grow (w : World) (os : Array Obj) : Below w.heap.size w (Go.Sort.grow w os) :=
  ⟨rfl, rfl, rfl, by show w.heap.size ≤ (w.heap ++ os).size; rw [Array.size_append]; omega, fun j hj => by show (w.heap ++ os)[j]? = w.heap[j]?; rw [Array.getElem?_append_left hj]⟩
theorem below_drewgrow {w w' : World} (h : ∃ k os, w' = Go.Sort.grow (w.drewN k) os) : Below w.heap.size w w' := by
  obtain ⟨k, os, rfl⟩ := h
  exact below_next (below_drewN0 w k) (below_grow _ os)
theorem below_same {w w' : World} (h : w' = w) : Below w.heap.size w w' := by subst h; exact Below.refl _ _

/-- an address at which a cell lies, as a block and a place -/
theorem addr_plain {w : World} {ad : Addr} {u : Value} (h : w.cell? ad = some u) : ad = ⟨ad.block, ad.off, none⟩ := by
  cases ad with
  | mk b o s =>
    cases s with
    | none => rfl
    | some x =>
      unfold World.cell? at h
      simp at h
      split at h <;> simp_all
theorem add_mk (b o k : Nat) : (⟨b, o, none⟩ : Addr).add k = ⟨b, o + k, none⟩ := by unfold Addr.add; split <;> simp_all
/-- a slice that is read: where it lies, and its cells -/
theorem C_cells {α : Type} {d : Kd α} {w : World} {A : Option Addr} {n : Nat} {xs : List α} (z : α) (h : Kd.C d w A n xs) (hn : 0 < n) (hd : 0 < d.sz) :
    ∃ b off, A = some ⟨b, off, none⟩ ∧ ∀ i, i < n → ∃ c, c.length = d.sz ∧ d.K w (xs.getD i z) c ∧ ∀ j u, c[j]? = some u → w.cell? ⟨b, off + (i * d.sz + j), none⟩ = some u := by
  obtain ⟨ad, c, e, hl, hK, hc⟩ := Kd.C_get h z 0 (by omega) (by omega)
  have hp : ad = ⟨ad.block, ad.off, none⟩ := by
    obtain ⟨u, hu⟩ : ∃ u, c[0]? = some u := ⟨c[0]'(by omega), List.getElem?_eq_getElem (by omega)⟩
    exact addr_plain (by have := hc 0 u hu; simpa [Addr.add] using this)
  refine ⟨ad.block, ad.off, by rw [e, ← hp], fun i hi => ?_⟩
  obtain ⟨ad2, c2, e2, hl2, hK2, hc2⟩ := Kd.C_get h z i (by omega) (by omega)
  have : ad2 = ad := by rw [e] at e2; injection e2 with e2; exact e2.symm
  subst this
  refine ⟨c2, hl2, by simpa using hK2, fun j u hj => ?_⟩
  have := hc2 j u hj
  rw [hp, add_mk] at this
  simpa using this
theorem C_strings {w : World} {A : Option Addr} {n : Nat} {l : List ByteArray} (h : Kd.C Kd.string w A n l) (hn : 0 < n) :
    ∃ b off, A = some ⟨b, off, none⟩ ∧ ∀ j, j < n → w.cell? ⟨b, off + j, none⟩ = some (.string (l.getD j ByteArray.empty)) := by
  obtain ⟨b, off, e, hc⟩ := C_cells ByteArray.empty h hn (by decide)
  refine ⟨b, off, e, fun j hj => ?_⟩
  obtain ⟨c, _, hK, hcc⟩ := hc j hj
  obtain rfl : c = [.string (l.getD j ByteArray.empty)] := hK
  have := hcc 0 _ rfl
  simpa [Kd.string, Kd.scalar] using this
end Go.Proofs.YtjdlaofeenblkaaDoor.X
