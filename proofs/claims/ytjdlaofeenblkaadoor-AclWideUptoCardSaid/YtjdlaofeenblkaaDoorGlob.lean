/- What the library's own package-level variables hold, as far as the code reads them; it stays behind every call that leaves old memory alone. -/
import Derived.Test.YtjdlaofeenblkaaDoorProg
import Derived.Below
import Derived.RowKit3
import Derived.Shelf.Strconv.Itoa3
namespace Go.Proofs.YtjdlaofeenblkaaDoor.T
open Go.RowKit

/-- What the code reads of the library's variables. -/
structure Glob (w : World) : Prop where
  maxLen : ∃ m : Int, w.cell? ⟨0, 0, none⟩ = some (.int .i64 m)
  pow10 : Lib.TabIs Tryd.prog w "internal/strconv.uint64pow10" .u64 Lib.pow10Tab
  errSyntax : ∃ tp p, w.var? Tryd.prog "strconv.ErrSyntax" = some #[.iface tp p]
  errRange : ∃ tp p, w.var? Tryd.prog "strconv.ErrRange" = some #[.iface tp p]

theorem var_old {w w1 : World} (h : Below w.heap.size w w1) {n : String} {cs : Array Value} (hv : w.var? Tryd.prog n = some cs) : w1.var? Tryd.prog n = some cs := by
  unfold World.var? at hv ⊢
  cases hg : Tryd.prog.globalNamed n with
  | none => simp [hg] at hv
  | some g =>
    simp only [hg, Option.bind_some] at hv ⊢
    have hlt : g < w.heap.size := by
      rcases Nat.lt_or_ge g w.heap.size with h' | h'
      · exact h'
      · simp [Array.getElem?_eq_none h'] at hv
    rw [h.block g hlt]
    exact hv
theorem Glob.below {w w1 : World} (h : Glob w) (hb : Below w.heap.size w w1) : Glob w1 where
  maxLen := by obtain ⟨m, hm⟩ := h.maxLen; exact ⟨m, (hb.cell (World.block_lt_of_cell? w _ hm)).trans hm⟩
  pow10 := var_old hb h.pow10
  errSyntax := by obtain ⟨tp, p, hv⟩ := h.errSyntax; exact ⟨tp, p, var_old hb hv⟩
  errRange := by obtain ⟨tp, p, hv⟩ := h.errRange; exact ⟨tp, p, var_old hb hv⟩
theorem Glob.drew {w : World} (h : Glob w) : Glob w.drew := h.below ⟨rfl, rfl, rfl, Nat.le_refl _, fun _ _ => rfl⟩
theorem below_drewN0 (w : World) (n : Nat) : Below w.heap.size w (w.drewN n) := by
  have := Below.refl w.heap.size w
  exact ⟨this.os, this.tape, this.output, this.size, this.block⟩
theorem Glob.drewN {w : World} (h : Glob w) (n : Nat) : Glob (w.drewN n) := h.below (below_drewN0 w n)
end Go.Proofs.YtjdlaofeenblkaaDoor.T
