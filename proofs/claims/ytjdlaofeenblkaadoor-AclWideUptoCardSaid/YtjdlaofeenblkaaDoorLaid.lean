/- What a row's listed variables give the walks; and a world that holds them: what a row's witness needs. -/
import Derived.Test.YtjdlaofeenblkaaDoorRows
import Derived.Test.YtjdlaofeenblkaaDoorGlob
import Derived.Lib.LaidTab
import Derived.Stop.LaidErr
import Derived.MakeChecks
import Derived.LaidMore
import Derived.LaidByTextLater
import Derived.Shelf.Vars
import Derived.ChangeAgain
import Derived.Deep.DeepWitnessRowRef
import Derived.KernelRfl
namespace Go.Proofs.YtjdlaofeenblkaaDoor.L
open Go Go.RowKit Go.ChangeShapes Go.Proofs.YtjdlaofeenblkaaDoor.T
set_option maxRecDepth 100000

/-- The variables that every row of this seat lists. -/
def laidL : List (String × DataW Unit) :=
  ("math/bits.deBruijn32tab", Rows.laid_math_bits_deBruijn32tab) ::
  ("math/bits.deBruijn64tab", Rows.laid_math_bits_deBruijn64tab) ::
  ("internal/strconv.uint64pow10", Rows.laid_internal_strconv_uint64pow10) ::
  ("unicode/utf8.acceptRanges", Rows.laid_unicode_utf8_acceptRanges) ::
  ("strconv.ErrRange", Rows.laid_strconv_ErrRange) ::
  ("strconv.ErrSyntax", Rows.laid_strconv_ErrSyntax) ::
  ("unicode/utf8.first", Rows.laid_unicode_utf8_first) :: []

theorem star : "*errors.errorString" = "*" ++ "errors.errorString" := by decide
theorem sent (u : TypeId) (h : Tryd.prog.typeName? 3 u = some "*errors.errorString") : u = 125 :=
  typeName_ptr_named (nm := "errors.errorString") (by rw [← star]; kernel_rfl) (by kernel_rfl) (by decide) u (by rw [← star]; exact h)

theorem plainL {w : World} (h : laidMetH Tryd.prog laidL w) : laidMet Tryd.prog laidL w := by
  rw [MakeChecks.laidMetH_plain Tryd.prog laidL w (by kernel_rfl)] at h; exact h
theorem metH {w : World} (h : laidMet Tryd.prog laidL w) : laidMetH Tryd.prog laidL w := by
  rw [MakeChecks.laidMetH_plain Tryd.prog laidL w (by kernel_rfl)]; exact h

/-- WHAT THE LIST GIVES THE WALKS. -/
theorem glob {w : World} (h0 : laidMetH Tryd.prog laidL w) (hs : w.ShapedOpen Tryd.prog) : Glob w where
  maxLen := Go.Proofs.cell_of_shapedOpen_int (zero := #[.int .i64 0]) (t := 3) hs (of_decide_eq_true (by kernel_rfl)) (by kernel_rfl) rfl (by kernel_rfl) (by kernel_rfl) Tryd.underlying3
  pow10 := Lib.tabIs_of_head (g := 3) (by kernel_rfl) (by kernel_rfl) Tryd.underlying121 Tryd.underlying88 (by kernel_rfl) (by kernel_rfl) (plainL h0).tail.tail
  errSyntax := by
    obtain ⟨a, s, h1, _⟩ := laid_sentinel (g := 1) (ti := 81) (tp := 125) (te := 127) (ts := 9) (plainL h0).tail.tail.tail.tail.tail (by kernel_rfl) (by kernel_rfl) Tryd.underlying81 sent Tryd.underlying125 Tryd.underlying127 rfl rfl Tryd.underlying9 (by kernel_rfl) (by kernel_rfl)
    exact ⟨_, _, h1⟩
  errRange := by
    obtain ⟨a, s, h1, _⟩ := laid_sentinel (g := 2) (ti := 81) (tp := 125) (te := 127) (ts := 9) (plainL h0).tail.tail.tail.tail (by kernel_rfl) (by kernel_rfl) Tryd.underlying81 sent Tryd.underlying125 Tryd.underlying127 rfl rfl Tryd.underlying9 (by kernel_rfl) (by kernel_rfl)
    exact ⟨_, _, h1⟩

/-- A WORLD FOR THE WITNESS: what the door's own run leaves, with the pinned tables in their blocks. -/
noncomputable def laidWorld (os : Os) : World :=
  let w := World.doorLaid Tryd.prog 400 os
  { w with heap := w.heap.modify 4 fun
      | .cells _ t frozen => .cells (Go.Pinned.utf8FirstZ.map fun (z : Nat) => Value.int .u8 (z : Int)).toArray t frozen
      | o => o }
theorem laid_met (os : Os) (args : Array Value) : laidMet Tryd.prog laidL ((laidWorld os).forCall (fun _ _ => 0) ⟨#[], args, []⟩).memory :=
  laidMet_of_run' 8 (by kernel_rfl) (by kernel_rfl)
end Go.Proofs.YtjdlaofeenblkaaDoor.L
