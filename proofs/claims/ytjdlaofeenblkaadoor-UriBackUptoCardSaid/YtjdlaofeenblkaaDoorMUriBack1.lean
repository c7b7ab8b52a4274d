/- A part of the proof of the law UriBack: contracts of functions that it reaches, and plain lemmas. -/
import Derived.Test.YtjdlaofeenblkaaDoorProg
import Derived.Below
import Derived.RowKit3
import Derived.Shelf.Strconv.Itoa3
import Derived.Test.YtjdlaofeenblkaaDoorRows
import Derived.Lib.LaidTab
import Derived.Stop.LaidErr
import Derived.MakeChecks
import Derived.LaidMore
import Derived.LaidByTextLater
import Derived.Shelf.Vars
import Derived.ChangeAgain
import Derived.Deep.DeepWitnessRowRef
import Derived.KernelRfl
import Derived.Deep.Draws
import Derived.Deep.AppendLies
import Derived.Maps.AppendAt
import Derived.OwnWalk
import Derived.Laws.BytesArg
import Derived.Laws.MakeOwn
import Derived.Laws.OwnMore
import Derived.Deep.OwnRows
import Derived.Tactics
import Derived.Lib.ConvBytes
import Derived.Laws.Slices
import Derived.WalkKit
import Derived.Deep.LoopGhost
import Derived.Deep.QuietTactic
import Derived.BigQuiet
import Derived.WideLaws
import Derived.Deep.DeepCutAuto
import Derived.Deep.CutBlock
import Derived.Deep.RegionHeld3
import Derived.Laws.Rows
import Derived.Lib.AppendStr
import Derived.ArgAppend
import Derived.Laws.IdiomCopy
import Derived.OrdersHeld
import Derived.Laws.BitsLemmas
import Derived.RowKit
import Derived.Test.YtjdlaofeenblkaaDoorWWords
import Derived.Test.YtjdlaofeenblkaaDoorWLast
import Derived.Test.YtjdlaofeenblkaaDoorWTab
import Derived.Test.YtjdlaofeenblkaaDoorWFour
import Derived.Test.YtjdlaofeenblkaaDoorWQPut
import Derived.Test.YtjdlaofeenblkaaDoorWApart
import Derived.Test.YtjdlaofeenblkaaDoorWArr
import Derived.Test.YtjdlaofeenblkaaDoorWZeros
import Derived.Test.YtjdlaofeenblkaaDoorWFoot
import Derived.Test.YtjdlaofeenblkaaDoorWKept
import Derived.Test.YtjdlaofeenblkaaDoorWShare
import Derived.Test.YtjdlaofeenblkaaDoorWN
import Derived.Test.YtjdlaofeenblkaaDoorWFootNe
import Derived.Test.YtjdlaofeenblkaaDoorWAt
import Derived.Test.YtjdlaofeenblkaaDoorWEqStruct
import Derived.Test.YtjdlaofeenblkaaDoorWRepsOne
import Derived.Test.YtjdlaofeenblkaaDoorWInv
import Derived.Test.YtjdlaofeenblkaaDoorWInvWords
import Derived.Test.YtjdlaofeenblkaaDoorWGuard
import Derived.Test.YtjdlaofeenblkaaDoorWNEv
import Derived.Test.YtjdlaofeenblkaaDoorWMore
import Derived.Shelf.Small.Utf8
import Derived.Shelf.Small.Strs
import Derived.Shelf.Small.Wraps
import Derived.Shelf.Utf8.RuneCount
import Derived.Shelf.Strconv.Atoi
import Derived.Shelf.Strconv.Itoa0
import Derived.Shelf.Strconv.Itoa1
import Derived.Shelf.LaysM
import Derived.Shelf.Strconv.Itoa2
import Derived.Shelf.Strconv.AtoiErrFast
import Derived.Shelf.Strconv.ParseIntEmpty
import Derived.Shelf.Strconv.AtoiFail
import Derived.Shelf.Strconv.Clone
import Derived.Shelf.Strconv.SyntaxError
import Derived.Shelf.LaysC
import Derived.Shelf.Strconv.ToError
import Derived.Shelf.Strconv.AtoiErr
import Derived.Shelf.Strconv.ErrVar
import Derived.Shelf.Strconv.Lower
import Derived.Shelf.Strconv.ParseUint10
import Derived.Shelf.Strconv.ParseUint10Empty
import Derived.Shelf.Strconv.ParseUint10Any
import Derived.Shelf.Strconv.ParseInt10
import Derived.Shelf.Strconv.AtoiLong
import Derived.Shelf.Strconv.AtoiInnerAll
import Derived.Shelf.Strconv.RangeError
import Derived.Shelf.Strconv.ToErrorRange
import Derived.Shelf.Strconv.AtoiAll
import Derived.Shelf.Strconv.ErrVarAll
import Derived.Shelf.Strconv.ParseUintEmpty
import Derived.Shelf.Strconv.ParseUint10b64
import Derived.Shelf.Strconv.ParseUint10b32
import Derived.Shelf.Strconv.ParseUint10b16
import Derived.Shelf.Strconv.ParseUint10b8
import Derived.Shelf.Strconv.ParseUint10At
import Derived.Shelf.Strconv.ParseInt10At64
import Derived.Shelf.Strconv.ParseInt10At32
import Derived.Shelf.Strconv.ParseInt10At16
import Derived.Shelf.Strconv.ParseInt10At8
import Derived.Shelf.Strconv.ParseInt10All
import Derived.Ground.MpProg
import Derived.Shelf.Pu.ParseUintPublic10
import Derived.Shelf.Pu.ErrVarParseUint
import Derived.Shelf.Strings.Search1
import Derived.Shelf.Strings.Search2
import Derived.Shelf.Strings.Search3
import Derived.Shelf.Strings.Cut
import Derived.Shelf.Strings.Count
import Derived.Shelf.Strings.Shaped
import Derived.Shelf.Strings.Prefix
import Derived.Shelf.Strings.Split
import Derived.Shelf.Strings.SplitShaped
import Derived.Shelf.Unicode.Decode
import Derived.Shelf.Strings.Runes
import Derived.Shelf.Strings.RuneCount
import Derived.Shelf.Strings.IndexAny
import Derived.Shelf.Strings.AsciiSet
import Derived.Shelf.Strings.IndexAnyAll
import Derived.Shelf.Strings.Explode
import Derived.Shelf.Unicode.DecodeSlow
import Derived.Shelf.Unicode.DecodeAny
import Derived.Shelf.Slices.Turned
import Derived.Lib.Hide
import Derived.Shelf.Abstract
import Derived.Sort.Grow
import Derived.Outline
import Derived.ProofKit
import Derived.OpenShut
import Derived.Deep.Slices
import Derived.Deep.Fields
import Derived.ChangeArms
import Derived.ChangeSame
import Derived.Lib.Split
import Derived.Lib.IndexBytes
import Derived.Lib.ItoaMem
import Derived.BigCall
import Derived.BigGuard
import Derived.Laws.EntriesVeiled
import Derived.Lib.OthersKept
import Derived.Laws.RangeString
import Derived.Laws.Runes
import Derived.Lib.IndexAny
import Derived.Lib.AtoiAllCases
/- What the library's own package-level variables hold, as far as the code reads them; it stays behind every call that leaves old memory alone. -/
namespace Go.Proofs.YtjdlaofeenblkaaDoor.T
open Go.RowKit

/-- What the code reads of the library's variables. -/
structure Glob (w : World) : Prop where
  maxLen : ∃ m : Int, w.cell? ⟨0, 0, none⟩ = some (.int .i64 m)
  pow10 : Lib.TabIs Tryd.prog w "internal/strconv.uint64pow10" .u64 Lib.pow10Tab
  errSyntax : ∃ tp p, w.var? Tryd.prog "strconv.ErrSyntax" = some #[.iface tp p]
  errRange : ∃ tp p, w.var? Tryd.prog "strconv.ErrRange" = some #[.iface tp p]

theorem var_old {w w1 : World} (h : Below w.heap.size w w1) {n : String} {cs : Array Value} (hv : w.var? Tryd.prog n = some cs) : w1.var? Tryd.prog n = some cs := by
  unfold World.var? at hv ⊢
  cases hg : Tryd.prog.globalNamed n with
  | none => simp [hg] at hv
  | some g =>
    simp only [hg, Option.bind_some] at hv ⊢
    have hlt : g < w.heap.size := by
      rcases Nat.lt_or_ge g w.heap.size with h' | h'
      · exact h'
      · simp [Array.getElem?_eq_none h'] at hv
    rw [h.block g hlt]
    exact hv
theorem Glob.below {w w1 : World} (h : Glob w) (hb : Below w.heap.size w w1) : Glob w1 where
  maxLen := by obtain ⟨m, hm⟩ := h.maxLen; exact ⟨m, (hb.cell (World.block_lt_of_cell? w _ hm)).trans hm⟩
  pow10 := var_old hb h.pow10
  errSyntax := by obtain ⟨tp, p, hv⟩ := h.errSyntax; exact ⟨tp, p, var_old hb hv⟩
  errRange := by obtain ⟨tp, p, hv⟩ := h.errRange; exact ⟨tp, p, var_old hb hv⟩
theorem Glob.drew {w : World} (h : Glob w) : Glob w.drew := h.below ⟨rfl, rfl, rfl, Nat.le_refl _, fun _ _ => rfl⟩
theorem below_drewN0 (w : World) (n : Nat) : Below w.heap.size w (w.drewN n) := by
  have := Below.refl w.heap.size w
  exact ⟨this.os, this.tape, this.output, this.size, this.block⟩
theorem Glob.drewN {w : World} (h : Glob w) (n : Nat) : Glob (w.drewN n) := h.below (below_drewN0 w n)
end Go.Proofs.YtjdlaofeenblkaaDoor.T

/- What a row's listed variables give the walks; and a world that holds them: what a row's witness needs. -/
namespace Go.Proofs.YtjdlaofeenblkaaDoor.L
open Go Go.RowKit Go.ChangeShapes Go.Proofs.YtjdlaofeenblkaaDoor.T
set_option maxRecDepth 100000

/-- The variables that every row of this seat lists. -/
def laidL : List (String × DataW Unit) :=
  ("math/bits.deBruijn32tab", Rows.laid_math_bits_deBruijn32tab) ::
  ("math/bits.deBruijn64tab", Rows.laid_math_bits_deBruijn64tab) ::
  ("internal/strconv.uint64pow10", Rows.laid_internal_strconv_uint64pow10) ::
  ("unicode/utf8.acceptRanges", Rows.laid_unicode_utf8_acceptRanges) ::
  ("strconv.ErrRange", Rows.laid_strconv_ErrRange) ::
  ("strconv.ErrSyntax", Rows.laid_strconv_ErrSyntax) ::
  ("unicode/utf8.first", Rows.laid_unicode_utf8_first) :: []

theorem star : "*errors.errorString" = "*" ++ "errors.errorString" := by decide
theorem sent (u : TypeId) (h : Tryd.prog.typeName? 3 u = some "*errors.errorString") : u = 125 :=
  typeName_ptr_named (nm := "errors.errorString") (by rw [← star]; kernel_rfl) (by kernel_rfl) (by decide) u (by rw [← star]; exact h)

theorem plainL {w : World} (h : laidMetH Tryd.prog laidL w) : laidMet Tryd.prog laidL w := by
  rw [MakeChecks.laidMetH_plain Tryd.prog laidL w (by kernel_rfl)] at h; exact h
theorem metH {w : World} (h : laidMet Tryd.prog laidL w) : laidMetH Tryd.prog laidL w := by
  rw [MakeChecks.laidMetH_plain Tryd.prog laidL w (by kernel_rfl)]; exact h

/-- WHAT THE LIST GIVES THE WALKS. -/
theorem glob {w : World} (h0 : laidMetH Tryd.prog laidL w) (hs : w.ShapedOpen Tryd.prog) : Glob w where
  maxLen := Go.Proofs.cell_of_shapedOpen_int (zero := #[.int .i64 0]) (t := 3) hs (of_decide_eq_true (by kernel_rfl)) (by kernel_rfl) rfl (by kernel_rfl) (by kernel_rfl) Tryd.underlying3
  pow10 := Lib.tabIs_of_head (g := 3) (by kernel_rfl) (by kernel_rfl) Tryd.underlying121 Tryd.underlying88 (by kernel_rfl) (by kernel_rfl) (plainL h0).tail.tail
  errSyntax := by
    obtain ⟨a, s, h1, _⟩ := laid_sentinel (g := 1) (ti := 81) (tp := 125) (te := 127) (ts := 9) (plainL h0).tail.tail.tail.tail.tail (by kernel_rfl) (by kernel_rfl) Tryd.underlying81 sent Tryd.underlying125 Tryd.underlying127 rfl rfl Tryd.underlying9 (by kernel_rfl) (by kernel_rfl)
    exact ⟨_, _, h1⟩
  errRange := by
    obtain ⟨a, s, h1, _⟩ := laid_sentinel (g := 2) (ti := 81) (tp := 125) (te := 127) (ts := 9) (plainL h0).tail.tail.tail.tail (by kernel_rfl) (by kernel_rfl) Tryd.underlying81 sent Tryd.underlying125 Tryd.underlying127 rfl rfl Tryd.underlying9 (by kernel_rfl) (by kernel_rfl)
    exact ⟨_, _, h1⟩

/-- A WORLD FOR THE WITNESS: what the door's own run leaves, with the pinned tables in their blocks. -/
noncomputable def laidWorld (os : Os) : World :=
  let w := World.doorLaid Tryd.prog 400 os
  { w with heap := w.heap.modify 4 fun
      | .cells _ t frozen => .cells (Go.Pinned.utf8FirstZ.map fun (z : Nat) => Value.int .u8 (z : Int)).toArray t frozen
      | o => o }
theorem laid_met (os : Os) (args : Array Value) : laidMet Tryd.prog laidL ((laidWorld os).forCall (fun _ _ => 0) ⟨#[], args, []⟩).memory :=
  laidMet_of_run' 8 (by kernel_rfl) (by kernel_rfl)
end Go.Proofs.YtjdlaofeenblkaaDoor.L

-- PRINTED by print.py (a twelfth state) out of the translation. Not trusted: Lean checks it.
namespace Go.Proofs.YtjdlaofeenblkaaDoor.X
open Go.RowKit Go.Proofs.YtjdlaofeenblkaaDoorW.PrintWords Go.Proofs.YtjdlaofeenblkaaDoorW.PrintLast Go.Proofs.YtjdlaofeenblkaaDoorW.PrintMore
attribute [local go_sem] max2_int min2_int max_two min_two max_three min_three max_four min_four   -- for this text's walks alone
set_option linter.unusedVariables false
set_option linter.unusedSimpArgs false
open Go.Proofs.YtjdlaofeenblkaaDoor.T



def errW : Option Int → Value
  | none => .nilIface
  | some c => .iface 0 (.int .i64 c)
theorem errW_none : errW none = .nilIface := rfl
theorem errW_some (c : Int) : errW (some c) = .iface 0 (.int .i64 c) := rfl

theorem info5 : (Tryd.prog.info? 5).map (fun i => (i.zero, i.size, i.bytes)) = some (some (.int .u8 0), 1, 1) := by kernel_rfl
theorem info9 : (Tryd.prog.info? 9).map (fun i => (i.zero, i.size, i.bytes)) = some (some (.string ⟨#[]⟩), 1, 16) := by kernel_rfl
theorem info25 : (Tryd.prog.info? 25).map (fun i => (i.zero, i.size, i.bytes)) = some (some (.agg #[(.bool false), (.string ⟨#[]⟩), (.int .i64 0), (.int .i64 0), (.slice none 0 0)]), 5, 64) := by kernel_rfl
-- the values' own types
def rd_L3 (xs : List (List ByteArray)) (i : Int) : (List ByteArray) := xs.getD i.toNat ([] : List ByteArray)
theorem at_L3 {w : World} {A : Option Addr} {n : Nat} {xs : List (List ByteArray)} (h : Kd.C (Kd.slice 9 Kd.string) w A n xs) (i : Int) (h0 : 0 ≤ i) (h1 : i < n) : ∃ ad A0 c0, A = some ad ∧ w.cell? (ad.add i.toNat) = some (.slice A0 (rd_L3 xs i).length c0) ∧ (rd_L3 xs i).length ≤ c0 ∧ Kd.string.C w A0 (rd_L3 xs i).length (rd_L3 xs i) := by
  obtain ⟨ad, c, e, _, hK, hc0⟩ := Kd.C_get h ([] : List ByteArray) i h0 h1
  have hc : ∀ j u, c[j]? = some u → w.cell? (ad.add (i.toNat * 1 + j)) = some u := hc0
  obtain ⟨A0, c0, rfl, l0, g0⟩ := hK
  exact ⟨ad, A0, c0, e, by have hq := hc 0 _ rfl; rwa [Nat.mul_one, Nat.add_zero] at hq, l0, g0⟩

/-! #### struct type 25 -/
structure S25 where
  f0 : Bool
  f1 : ByteArray
  f2 : Int
  f3 : Int
  f4 : (List ByteArray)
def z25 : S25 := ⟨false, (⟨#[]⟩ : ByteArray), (0 : Int), (0 : Int), ([] : List ByteArray)⟩
def k25 : Kd S25 := Kd.iso (Kd.pair Kd.bool (Kd.pair Kd.string (Kd.pair (Kd.int .i64) (Kd.pair (Kd.int .i64) (Kd.slice 9 Kd.string))))) (fun x : S25 => (x.f0, x.f1, x.f2, x.f3, x.f4))
theorem k25_open {w : World} {x : S25} {cs : List Value} (h : k25.K w x cs) : ∃ A4 c4, cs = [.bool x.f0, .string x.f1, .int .i64 x.f2, .int .i64 x.f3, .slice A4 x.f4.length c4] ∧ x.f4.length ≤ c4 ∧ Kd.string.C w A4 x.f4.length x.f4 := by
  obtain ⟨_, _, rfl, rfl, ⟨_, _, rfl, rfl, ⟨_, _, rfl, rfl, ⟨_, _, rfl, rfl, ⟨A4, c4, rfl, l4, g4⟩⟩⟩⟩⟩ := h
  exact ⟨A4, c4, rfl, l4, g4⟩
theorem k25_openM {w : World} {base : Nat} {ok : Nat → Prop} {x : S25} {cs : List Value} (h : k25.M w base ok x cs) : ∃ v4, cs = [.bool x.f0, .string x.f1, .int .i64 x.f2, .int .i64 x.f3, v4] ∧ Kd.string.R 9 w base ok v4 x.f4 := by
  obtain ⟨_, _, rfl, rfl, ⟨_, _, rfl, rfl, ⟨_, _, rfl, rfl, ⟨_, _, rfl, rfl, ⟨v4, rfl, g4⟩⟩⟩⟩⟩ := h
  exact ⟨v4, rfl, g4⟩
theorem k25_mk (w : World) (x : S25) {A4 : Option Addr} {c4 : Nat} (l4 : x.f4.length ≤ c4) (g4 : Kd.string.C w A4 x.f4.length x.f4) : k25.K w x [.bool x.f0, .string x.f1, .int .i64 x.f2, .int .i64 x.f3, .slice A4 x.f4.length c4] := ⟨[.bool x.f0], [.string x.f1, .int .i64 x.f2, .int .i64 x.f3, .slice A4 x.f4.length c4], rfl, rfl, ⟨[.string x.f1], [.int .i64 x.f2, .int .i64 x.f3, .slice A4 x.f4.length c4], rfl, rfl, ⟨[.int .i64 x.f2], [.int .i64 x.f3, .slice A4 x.f4.length c4], rfl, rfl, ⟨[.int .i64 x.f3], [.slice A4 x.f4.length c4], rfl, rfl, ⟨A4, c4, rfl, l4, g4⟩⟩⟩⟩⟩
theorem k25_mkM (w : World) (base : Nat) (ok : Nat → Prop) (x : S25) {v4 : Value} (g4 : Kd.string.R 9 w base ok v4 x.f4) : k25.M w base ok x [.bool x.f0, .string x.f1, .int .i64 x.f2, .int .i64 x.f3, v4] := ⟨[.bool x.f0], [.string x.f1, .int .i64 x.f2, .int .i64 x.f3, v4], rfl, rfl, ⟨[.string x.f1], [.int .i64 x.f2, .int .i64 x.f3, v4], rfl, rfl, ⟨[.int .i64 x.f2], [.int .i64 x.f3, v4], rfl, rfl, ⟨[.int .i64 x.f3], [v4], rfl, rfl, ⟨v4, rfl, g4⟩⟩⟩⟩⟩
theorem k25_openF {W : World} {ok : Nat → Prop} {x : S25} {cs : List Value} (h : Kd.FK k25 W ok x cs) : ∃ A4 c4, cs = [.bool x.f0, .string x.f1, .int .i64 x.f2, .int .i64 x.f3, .slice A4 x.f4.length c4] ∧ x.f4.length ≤ c4 ∧ Kd.F Kd.string W ok A4 x.f4.length x.f4 := by
  obtain ⟨A4, c4, rfl, l4, _⟩ := k25_open (Kd.FK_now h)
  exact ⟨A4, c4, rfl, l4, (fun W' hW => by obtain ⟨A4_, c4_, he, l4_, g4_⟩ := k25_open (h W' hW); injection (Option.some.inj (show some (Value.slice A4 x.f4.length c4) = some (Value.slice A4_ x.f4.length c4_) from congrArg (fun l => l[4]?) he)) with ha_ _ _; rw [ha_]; exact g4_)⟩
theorem k25_mkF (W : World) (ok : Nat → Prop) (x : S25) {A4 : Option Addr} {c4 : Nat} (l4 : x.f4.length ≤ c4) (g4 : Kd.F Kd.string W ok A4 x.f4.length x.f4) : Kd.FK k25 W ok x [.bool x.f0, .string x.f1, .int .i64 x.f2, .int .i64 x.f3, .slice A4 x.f4.length c4] := fun W2 hW => k25_mk W2 x l4 (g4 W2 hW)
def rd_T25 (xs : List S25) (i : Int) : S25 := xs.getD i.toNat z25
theorem at_T25 {w : World} {A : Option Addr} {n : Nat} {xs : List S25} (h : Kd.C k25 w A n xs) (i : Int) (h0 : 0 ≤ i) (h1 : i < n) : ∃ ad A4 c4, A = some ad ∧ w.cell? (ad.add (i.toNat * 5)) = some (.bool (rd_T25 xs i).f0) ∧ w.cell? ⟨(ad.add (i.toNat * 5)).block, (ad.add (i.toNat * 5)).off + 1, none⟩ = some (.string (rd_T25 xs i).f1) ∧ w.cell? ⟨(ad.add (i.toNat * 5)).block, (ad.add (i.toNat * 5)).off + 2, none⟩ = some (.int .i64 (rd_T25 xs i).f2) ∧ w.cell? ⟨(ad.add (i.toNat * 5)).block, (ad.add (i.toNat * 5)).off + 3, none⟩ = some (.int .i64 (rd_T25 xs i).f3) ∧ w.cell? ⟨(ad.add (i.toNat * 5)).block, (ad.add (i.toNat * 5)).off + 4, none⟩ = some (.slice A4 (rd_T25 xs i).f4.length c4) ∧ (rd_T25 xs i).f4.length ≤ c4 ∧ Kd.string.C w A4 (rd_T25 xs i).f4.length (rd_T25 xs i).f4 := by
  obtain ⟨ad, c, e, _, hK, hc0⟩ := Kd.C_get h z25 i h0 h1
  have hc : ∀ j u, c[j]? = some u → w.cell? (ad.add (i.toNat * 5 + j)) = some u := hc0
  obtain ⟨A4, c4, rfl, l4, g4⟩ := k25_open hK
  exact ⟨ad, A4, c4, e, hc 0 _ rfl, by rw [← add_field _ _ 1 (by omega)]; exact hc 1 _ rfl, by rw [← add_field _ _ 2 (by omega)]; exact hc 2 _ rfl, by rw [← add_field _ _ 3 (by omega)]; exact hc 3 _ rfl, by rw [← add_field _ _ 4 (by omega)]; exact hc 4 _ rfl, l4, g4⟩

def rd_L5 (xs : List (List S25)) (i : Int) : (List S25) := xs.getD i.toNat ([] : List S25)
theorem at_L5 {w : World} {A : Option Addr} {n : Nat} {xs : List (List S25)} (h : Kd.C (Kd.slice 25 k25) w A n xs) (i : Int) (h0 : 0 ≤ i) (h1 : i < n) : ∃ ad A0 c0, A = some ad ∧ w.cell? (ad.add i.toNat) = some (.slice A0 (rd_L5 xs i).length c0) ∧ (rd_L5 xs i).length ≤ c0 ∧ k25.C w A0 (rd_L5 xs i).length (rd_L5 xs i) := by
  obtain ⟨ad, c, e, _, hK, hc0⟩ := Kd.C_get h ([] : List S25) i h0 h1
  have hc : ∀ j u, c[j]? = some u → w.cell? (ad.add (i.toNat * 1 + j)) = some u := hc0
  obtain ⟨A0, c0, rfl, l0, g0⟩ := hK
  exact ⟨ad, A0, c0, e, by have hq := hc 0 _ rfl; rwa [Nat.mul_one, Nat.add_zero] at hq, l0, g0⟩

/-! #### struct type 35 -/
structure S35 where
  f0 : ByteArray
  f1 : Int
  f2 : ByteArray
def z35 : S35 := ⟨(⟨#[]⟩ : ByteArray), (0 : Int), (⟨#[]⟩ : ByteArray)⟩
def k35 : Kd S35 := Kd.iso (Kd.pair Kd.string (Kd.pair (Kd.int .i64) Kd.string)) (fun x : S35 => (x.f0, x.f1, x.f2))
theorem k35_open {w : World} {x : S35} {cs : List Value} (h : k35.K w x cs) : cs = [.string x.f0, .int .i64 x.f1, .string x.f2] := by
  obtain ⟨_, _, rfl, rfl, ⟨_, _, rfl, rfl, rfl⟩⟩ := h
  exact rfl
theorem k35_openM {w : World} {base : Nat} {ok : Nat → Prop} {x : S35} {cs : List Value} (h : k35.M w base ok x cs) : cs = [.string x.f0, .int .i64 x.f1, .string x.f2] := by
  obtain ⟨_, _, rfl, rfl, ⟨_, _, rfl, rfl, rfl⟩⟩ := h
  exact rfl
theorem k35_mk (w : World) (x : S35)  : k35.K w x [.string x.f0, .int .i64 x.f1, .string x.f2] := ⟨[.string x.f0], [.int .i64 x.f1, .string x.f2], rfl, rfl, ⟨[.int .i64 x.f1], [.string x.f2], rfl, rfl, rfl⟩⟩
theorem k35_mkM (w : World) (base : Nat) (ok : Nat → Prop) (x : S35)  : k35.M w base ok x [.string x.f0, .int .i64 x.f1, .string x.f2] := ⟨[.string x.f0], [.int .i64 x.f1, .string x.f2], rfl, rfl, ⟨[.int .i64 x.f1], [.string x.f2], rfl, rfl, rfl⟩⟩
theorem k35_mkF (W : World) (ok : Nat → Prop) (x : S35) : Kd.FK k35 W ok x [.string x.f0, .int .i64 x.f1, .string x.f2] := fun W2 _ => k35_mk W2 x
def rd_T35 (xs : List S35) (i : Int) : S35 := xs.getD i.toNat z35
theorem at_T35 {w : World} {A : Option Addr} {n : Nat} {xs : List S35} (h : Kd.C k35 w A n xs) (i : Int) (h0 : 0 ≤ i) (h1 : i < n) : ∃ ad , A = some ad ∧ w.cell? (ad.add (i.toNat * 3)) = some (.string (rd_T35 xs i).f0) ∧ w.cell? ⟨(ad.add (i.toNat * 3)).block, (ad.add (i.toNat * 3)).off + 1, none⟩ = some (.int .i64 (rd_T35 xs i).f1) ∧ w.cell? ⟨(ad.add (i.toNat * 3)).block, (ad.add (i.toNat * 3)).off + 2, none⟩ = some (.string (rd_T35 xs i).f2) := by
  obtain ⟨ad, c, e, _, hK, hc0⟩ := Kd.C_get h z35 i h0 h1
  have hc : ∀ j u, c[j]? = some u → w.cell? (ad.add (i.toNat * 3 + j)) = some u := hc0
  obtain rfl := k35_open hK
  exact ⟨ad, e, hc 0 _ rfl, by rw [← add_field _ _ 1 (by omega)]; exact hc 1 _ rfl, by rw [← add_field _ _ 2 (by omega)]; exact hc 2 _ rfl⟩

end Go.Proofs.YtjdlaofeenblkaaDoor.X

/- Plain functions on bytes: what the program's small functions compute. No program in sight. -/
namespace Go.Proofs.YtjdlaofeenblkaaDoor.T

/-- the first place at which p holds; -1: there is none -/
def fidx {α : Type} (p : α → Bool) (l : List α) : Int := match l.findIdx? p with | some i => i | none => -1
theorem fidx_hit {α : Type} (p : α → Bool) (d : α) (l : List α) (k : Nat) (hk : k < l.length) (h : p (l.getD k d) = true) (hb : ∀ j, j < k → p (l.getD j d) = false) : fidx p l = k := by
  unfold fidx
  have : l.findIdx? p = some k := by
    rw [List.findIdx?_eq_some_iff_getElem]
    refine ⟨hk, by simpa [List.getD_eq_getElem?_getD, List.getElem?_eq_getElem hk] using h, fun j hj => ?_⟩
    have := hb j hj
    simpa [List.getD_eq_getElem?_getD, List.getElem?_eq_getElem (show j < l.length by omega)] using this
  rw [this]
theorem fidx_miss {α : Type} (p : α → Bool) (d : α) (l : List α) (hb : ∀ j, j < l.length → p (l.getD j d) = false) : fidx p l = -1 := by
  unfold fidx
  have : l.findIdx? p = none := by
    rw [List.findIdx?_eq_none_iff]
    intro x hx
    obtain ⟨j, hj, rfl⟩ := List.getElem_of_mem hx
    have := hb j hj
    simpa [List.getD_eq_getElem?_getD, List.getElem?_eq_getElem hj] using this
  rw [this]
theorem fidx_any {α : Type} (p : α → Bool) (l : List α) : decide (0 ≤ fidx p l) = l.any p := by
  unfold fidx
  cases h : l.findIdx? p with
  | none =>
    rw [List.findIdx?_eq_none_iff] at h
    have : l.any p = false := by rw [List.any_eq_false]; intro x hx; simp [h x hx]
    rw [this]; rfl
  | some i =>
    rw [List.findIdx?_eq_some_iff_getElem] at h
    obtain ⟨hi, hp, _⟩ := h
    have : l.any p = true := List.any_eq_true.2 ⟨_, List.getElem_mem hi, hp⟩
    rw [this]; simp

/-- a token's byte -/
def isTok (c : UInt8) : Bool := (97 ≤ c && c ≤ 122) || (65 ≤ c && c ≤ 90) || (48 ≤ c && c ≤ 57) || [33, 35, 36, 37, 38, 39, 42, 43, 45, 46, 94, 95, 96, 124, 126].contains c
def tokenB (s : ByteArray) : Bool := !s.data.toList.isEmpty && s.data.toList.all isTok
/-- a byte that may be shown -/
def isShown (c : UInt8) : Bool := c == 9 || (32 ≤ c && c != 127)
def visibleB (s : ByteArray) : Bool := s.data.toList.all isShown
/-- a byte with a small letter for a capital one -/
def lowC (c : UInt8) : UInt8 := if 65 ≤ c && c ≤ 90 then c + 32 else c
def lowerB (s : ByteArray) : ByteArray := ⟨(s.data.toList.map lowC).toArray⟩
def sameB (a b : ByteArray) : Bool := lowerB a == lowerB b
def isDig (c : UInt8) : Bool := 48 ≤ c && c ≤ 57
def isHexC (c : UInt8) : Bool := [48, 49, 50, 51, 52, 53, 54, 55, 56, 57, 97, 98, 99, 100, 101, 102, 65, 66, 67, 68, 69, 70].contains c
def isPlain (c : UInt8) : Bool := (97 ≤ c && c ≤ 122) || (48 ≤ c && c ≤ 57)
def isHostC (c : UInt8) : Bool := isPlain c || c == 45
theorem size_toList (s : ByteArray) : s.data.toList.length = s.size := Array.length_toList
theorem size_lower (s : ByteArray) : (lowerB s).size = s.size := by
  show (s.data.toList.map lowC).toArray.size = s.data.size
  rw [List.size_toArray, List.length_map, Array.length_toList]
theorem all_of_getD {α : Type} (p : α → Bool) (d : α) (l : List α) (h : ∀ j, j < l.length → p (l.getD j d) = true) : l.all p = true := by
  rw [List.all_eq_true]
  intro x hx
  obtain ⟨j, hj, rfl⟩ := List.getElem_of_mem hx
  have := h j hj
  simpa [List.getD_eq_getElem?_getD, List.getElem?_eq_getElem hj] using this
theorem all_no_getD {α : Type} (p : α → Bool) (d : α) (l : List α) (j : Nat) (hj : j < l.length) (h : p (l.getD j d) = false) : l.all p = false := by
  rw [List.all_eq_false]
  refine ⟨l[j], List.getElem_mem hj, ?_⟩
  simpa [List.getD_eq_getElem?_getD, List.getElem?_eq_getElem hj] using h
end Go.Proofs.YtjdlaofeenblkaaDoor.T

/- The library's contracts at this program, laid in plain words by the kit's own tools (lay-shelf, lay-plain). -/
namespace Go.Proofs
open Go.Shelf
def Tryd.lays119_ren : Go.Shelf.Ren := ⟨fun | 119 => 89 | n => n, fun | 21 => 21 | 4 => 4 | n => n, fun | n => n⟩
theorem Tryd.lays119 : Go.Proofs.Lays.n119 Tryd.prog Tryd.lays119_ren := {
  mixed := by kernel_rfl
  f119 := Tryd.func89.trans (congrArg some (by kernel_rfl))
  t4 := Tryd.underlying4
  a4 := Tryd.isAgg4
  z4 := Tryd.sizeOf4
  v4 := Tryd.zeroValue4
  t21 := Tryd.underlying21
  a21 := Tryd.isAgg21
  z21 := Tryd.sizeOf21
  v21 := Tryd.zeroValue21 }
theorem Tryd.utf8_ValidRune (r : Int) (w : World) :
    Calls Tryd.prog 89 #[.int .i32 r] w fun e w' => e = .returned (.bool (Lib.validRune r)) ∧ w' = w := Any.utf8_ValidRune Tryd.lays119 r w
def Tryd.lays137_ren : Go.Shelf.Ren := ⟨fun | 137 => 58 | 217 => 86 | 266 => 102 | n => n, fun | 9 => 9 | 5 => 5 | 3 => 3 | n => n, fun | n => n⟩
theorem Tryd.lays137 : Go.Proofs.Lays.n137 Tryd.prog Tryd.lays137_ren := {
  mixed := by kernel_rfl
  f137 := Tryd.func58.trans (congrArg some (by kernel_rfl))
  f217 := Tryd.func86.trans (congrArg some (by kernel_rfl))
  f266 := Tryd.func102.trans (congrArg some (by kernel_rfl))
  t3 := Tryd.underlying3
  a3 := Tryd.isAgg3
  z3 := Tryd.sizeOf3
  v3 := Tryd.zeroValue3
  t5 := Tryd.underlying5
  a5 := Tryd.isAgg5
  z5 := Tryd.sizeOf5
  v5 := Tryd.zeroValue5
  t9 := Tryd.underlying9
  a9 := Tryd.isAgg9
  z9 := Tryd.sizeOf9
  v9 := Tryd.zeroValue9 }
open Go.RowKit in
theorem Tryd.strings_IndexByte (s : ByteArray) (c : Int) (w : World) :
    Calls Tryd.prog 58 #[.string s, .int .u8 c] w fun e w' => e = .returned (.int .i64 (Lib.indexByte s.data.toList c.toNat.toUInt8)) ∧ w' = w := Any.strings_IndexByte Tryd.lays137 s c w
def Tryd.lays103_ren : Go.Shelf.Ren := ⟨fun | 103 => 79 | 210 => 99 | 206 => 75 | n => n, fun | 9 => 9 | 4 => 4 | 24 => 86 | 3 => 3 | n => n, fun | n => n⟩
theorem Tryd.lays103 : Go.Proofs.Lays.n103 Tryd.prog Tryd.lays103_ren := {
  mixed := by kernel_rfl
  f103 := Tryd.func79.trans (congrArg some (by kernel_rfl))
  f206 := Tryd.func75.trans (congrArg some (by kernel_rfl))
  f210 := Tryd.func99.trans (congrArg some (by kernel_rfl))
  t3 := Tryd.underlying3
  a3 := Tryd.isAgg3
  z3 := Tryd.sizeOf3
  v3 := Tryd.zeroValue3
  t4 := Tryd.underlying4
  a4 := Tryd.isAgg4
  z4 := Tryd.sizeOf4
  v4 := Tryd.zeroValue4
  t9 := Tryd.underlying9
  a9 := Tryd.isAgg9
  z9 := Tryd.sizeOf9
  v9 := Tryd.zeroValue9
  t24 := Tryd.underlying86
  a24 := Tryd.isAgg86
  z24 := Tryd.sizeOf86
  v24 := Tryd.zeroValue86 }
open Go.RowKit in
theorem Tryd.strings_CutPrefix (s p : ByteArray) (w : World) :
    Calls Tryd.prog 79 #[.string s, .string p] w fun e w' => e = .returned (.tuple #[.string ⟨(Lib.trimPrefix s.data.toList p.data.toList).toArray⟩, .bool (Lib.hasPrefix s.data.toList p.data.toList)]) ∧ w' = w := Any.strings_CutPrefix Tryd.lays103 s p w
def Tryd.lays283_ren : Go.Shelf.Ren := ⟨fun | 283 => 115 | n => n, fun | 3 => 3 | 9 => 9 | 4 => 4 | n => n, fun | n => n⟩
theorem Tryd.lays283 : Go.Proofs.Lays.n283 Tryd.prog Tryd.lays283_ren := {
  mixed := by kernel_rfl
  f283 := Tryd.func115.trans (congrArg some (by kernel_rfl))
  t3 := Tryd.underlying3
  a3 := Tryd.isAgg3
  z3 := Tryd.sizeOf3
  v3 := Tryd.zeroValue3
  t4 := Tryd.underlying4
  a4 := Tryd.isAgg4
  z4 := Tryd.sizeOf4
  v4 := Tryd.zeroValue4
  t9 := Tryd.underlying9
  a9 := Tryd.isAgg9
  z9 := Tryd.sizeOf9
  v9 := Tryd.zeroValue9 }
open Go.Lib in
theorem Tryd.internal_strconv_small (i : Nat) (h : i < 100) (w : World) :
    Calls Tryd.prog 115 #[.int .i64 i] w fun e w' => e = .returned (.string ⟨(Lib.decDigits i).toArray⟩) ∧ w' = w := Any.internal_strconv_small Tryd.lays283 i h w
def Tryd.laysM284_ren : Go.Shelf.Ren := ⟨fun | 284 => 116 | 129 => 124 | 317 => 123 | 318 => 125 | n => n, fun | 53 => 88 | 3 => 3 | 212 => 121 | 0 => 0 | 4 => 4 | 46 => 94 | 5 => 5 | 9 => 9 | n => n, fun | 17 => 3 | n => n⟩
theorem Tryd.laysM284 : Go.Proofs.LaysM.n284 Tryd.prog Tryd.laysM284_ren := {
  mixed := by kernel_rfl
  f129 := Tryd.func124.trans (congrArg some (by kernel_rfl))
  f284 := Tryd.func116.trans (congrArg some (by kernel_rfl))
  f317 := Tryd.func123.trans (congrArg some (by kernel_rfl))
  f318 := Tryd.func125.trans (congrArg some (by kernel_rfl))
  t0 := Tryd.underlying0
  a0 := Tryd.isAgg0
  z0 := Tryd.sizeOf0
  v0 := Tryd.zeroValue0
  t3 := Tryd.underlying3
  a3 := Tryd.isAgg3
  z3 := Tryd.sizeOf3
  v3 := Tryd.zeroValue3
  t4 := Tryd.underlying4
  a4 := Tryd.isAgg4
  z4 := Tryd.sizeOf4
  v4 := Tryd.zeroValue4
  t5 := Tryd.underlying5
  a5 := Tryd.isAgg5
  z5 := Tryd.sizeOf5
  v5 := Tryd.zeroValue5
  t9 := Tryd.underlying9
  a9 := Tryd.isAgg9
  z9 := Tryd.sizeOf9
  v9 := Tryd.zeroValue9
  t46 := Tryd.underlying94
  a46 := Tryd.isAgg94
  z46 := Tryd.sizeOf94
  v46 := Tryd.zeroValue94
  t53 := Tryd.underlying88
  a53 := Tryd.isAgg88
  z53 := Tryd.sizeOf88
  v53 := Tryd.zeroValue88
  t212 := Tryd.underlying121
  a212 := Tryd.isAgg121
  z212 := Tryd.sizeOf121
  v212 := Tryd.zeroValue121
  g17 := by kernel_rfl
  i0 := by kernel_rfl
  i3 := by kernel_rfl
  i4 := by kernel_rfl
  i5 := by kernel_rfl
  i9 := by kernel_rfl
  i46 := by kernel_rfl
  i53 := by kernel_rfl
  i212 := by kernel_rfl
  m17 := by kernel_rfl }
open Go.Lib in
theorem Tryd.internal_strconv_numDigits (u : Nat) (h1 : 1 ≤ u) (h2 : u < 18446744073709551616) (w : World) (htab : Lib.TabIs Tryd.prog w "internal/strconv.uint64pow10" .u64 Lib.pow10Tab) :
    Calls Tryd.prog 116 #[.int .u64 u] w fun e w' => e = .returned (.int .i64 (Lib.nDigits u)) ∧ w' = w := Any.internal_strconv_numDigits Tryd.laysM284 u h1 h2 w htab
def Tryd.lays285_ren : Go.Shelf.Ren := ⟨fun | 285 => 117 | n => n, fun | 37 => 41 | 53 => 88 | 3 => 3 | 4 => 4 | 51 => 114 | 9 => 9 | 5 => 5 | 0 => 0 | n => n, fun | n => n⟩
theorem Tryd.lays285 : Go.Proofs.Lays.n285 Tryd.prog Tryd.lays285_ren := {
  mixed := by kernel_rfl
  f285 := Tryd.func117.trans (congrArg some (by kernel_rfl))
  t0 := Tryd.underlying0
  a0 := Tryd.isAgg0
  z0 := Tryd.sizeOf0
  v0 := Tryd.zeroValue0
  t3 := Tryd.underlying3
  a3 := Tryd.isAgg3
  z3 := Tryd.sizeOf3
  v3 := Tryd.zeroValue3
  t4 := Tryd.underlying4
  a4 := Tryd.isAgg4
  z4 := Tryd.sizeOf4
  v4 := Tryd.zeroValue4
  t5 := Tryd.underlying5
  a5 := Tryd.isAgg5
  z5 := Tryd.sizeOf5
  v5 := Tryd.zeroValue5
  t9 := Tryd.underlying9
  a9 := Tryd.isAgg9
  z9 := Tryd.sizeOf9
  v9 := Tryd.zeroValue9
  t37 := Tryd.underlying41
  a37 := Tryd.isAgg41
  z37 := Tryd.sizeOf41
  v37 := Tryd.zeroValue41
  t51 := Tryd.underlying114
  a51 := Tryd.isAgg114
  z51 := Tryd.sizeOf114
  v51 := Tryd.zeroValue114
  t53 := Tryd.underlying88
  a53 := Tryd.isAgg88
  z53 := Tryd.sizeOf88
  v53 := Tryd.zeroValue88 }
open Go.RowKit Go.Sort Go.Lib in
theorem Tryd.internal_strconv_formatBase10 (blk off cap : Nat) (u : Nat) (d : Array UInt8) (w : World) (hH : Holds (fun (b : UInt8) => Value.int .u8 (b.toNat : Int)) w blk off d) (hu : u < 10 ^ d.size) (hu64 : u < 18446744073709551616) (hsz : d.size < 4611686018427387904) :
    Calls Tryd.prog 117 #[.slice (some ⟨blk, off, none⟩) d.size cap, .int .u64 u] w fun e w' =>
      e = .returned (.tuple #[]) ∧ ∃ (n v' : Nat) (dk : Array UInt8), w' = (putRow (fun (b : UInt8) => Value.int .u8 (b.toNat : Int)) w blk off dk).drewN n ∧ FmtInv d.size u 0 v' dk := Any.internal_strconv_formatBase10 Tryd.lays285 blk off cap u d w hH hu hu64 hsz
def Tryd.laysM171_ren : Go.Shelf.Ren := ⟨fun | 171 => 65 | 243 => 88 | 246 => 103 | 283 => 115 | 284 => 116 | 285 => 117 | 286 => 118 | 129 => 124 | 317 => 123 | 318 => 125 | 319 => 126 | 320 => 127 | 337 => 128 | 338 => 129 | n => n, fun | 3 => 3 | 9 => 9 | 2 => 2 | 4 => 4 | 171 => 109 | 0 => 0 | 53 => 88 | 37 => 41 | 5 => 5 | 173 => 112 | 212 => 121 | 51 => 114 | 20 => 20 | 213 => 122 | 46 => 94 | 232 => 133 | 233 => 134 | n => n, fun | 17 => 3 | 18 => 6 | 19 => 7 | n => n⟩
theorem Tryd.laysM171 : Go.Proofs.LaysM.n171 Tryd.prog Tryd.laysM171_ren := {
  mixed := by kernel_rfl
  f129 := Tryd.func124.trans (congrArg some (by kernel_rfl))
  f171 := Tryd.func65.trans (congrArg some (by kernel_rfl))
  f243 := Tryd.func88.trans (congrArg some (by kernel_rfl))
  f246 := Tryd.func103.trans (congrArg some (by kernel_rfl))
  f283 := Tryd.func115.trans (congrArg some (by kernel_rfl))
  f284 := Tryd.func116.trans (congrArg some (by kernel_rfl))
  f285 := Tryd.func117.trans (congrArg some (by kernel_rfl))
  f286 := Tryd.func118.trans (congrArg some (by kernel_rfl))
  f317 := Tryd.func123.trans (congrArg some (by kernel_rfl))
  f318 := Tryd.func125.trans (congrArg some (by kernel_rfl))
  f319 := Tryd.func126.trans (congrArg some (by kernel_rfl))
  f320 := Tryd.func127.trans (congrArg some (by kernel_rfl))
  f337 := Tryd.func128.trans (congrArg some (by kernel_rfl))
  f338 := Tryd.func129.trans (congrArg some (by kernel_rfl))
  t0 := Tryd.underlying0
  a0 := Tryd.isAgg0
  z0 := Tryd.sizeOf0
  v0 := Tryd.zeroValue0
  t2 := Tryd.underlying2
  a2 := Tryd.isAgg2
  z2 := Tryd.sizeOf2
  v2 := Tryd.zeroValue2
  t3 := Tryd.underlying3
  a3 := Tryd.isAgg3
  z3 := Tryd.sizeOf3
  v3 := Tryd.zeroValue3
  t4 := Tryd.underlying4
  a4 := Tryd.isAgg4
  z4 := Tryd.sizeOf4
  v4 := Tryd.zeroValue4
  t5 := Tryd.underlying5
  a5 := Tryd.isAgg5
  z5 := Tryd.sizeOf5
  v5 := Tryd.zeroValue5
  t9 := Tryd.underlying9
  a9 := Tryd.isAgg9
  z9 := Tryd.sizeOf9
  v9 := Tryd.zeroValue9
  t20 := Tryd.underlying20
  a20 := Tryd.isAgg20
  z20 := Tryd.sizeOf20
  v20 := Tryd.zeroValue20
  t37 := Tryd.underlying41
  a37 := Tryd.isAgg41
  z37 := Tryd.sizeOf41
  v37 := Tryd.zeroValue41
  t46 := Tryd.underlying94
  a46 := Tryd.isAgg94
  z46 := Tryd.sizeOf94
  v46 := Tryd.zeroValue94
  t51 := Tryd.underlying114
  a51 := Tryd.isAgg114
  z51 := Tryd.sizeOf114
  v51 := Tryd.zeroValue114
  t53 := Tryd.underlying88
  a53 := Tryd.isAgg88
  z53 := Tryd.sizeOf88
  v53 := Tryd.zeroValue88
  t171 := Tryd.underlying109
  a171 := Tryd.isAgg109
  z171 := Tryd.sizeOf109
  v171 := Tryd.zeroValue109
  t173 := Tryd.underlying112
  a173 := Tryd.isAgg112
  z173 := Tryd.sizeOf112
  v173 := Tryd.zeroValue112
  t212 := Tryd.underlying121
  a212 := Tryd.isAgg121
  z212 := Tryd.sizeOf121
  v212 := Tryd.zeroValue121
  t213 := Tryd.underlying122
  a213 := Tryd.isAgg122
  z213 := Tryd.sizeOf122
  t232 := Tryd.underlying133
  a232 := Tryd.isAgg133
  z232 := Tryd.sizeOf133
  v232 := Tryd.zeroValue133
  t233 := Tryd.underlying134
  a233 := Tryd.isAgg134
  z233 := Tryd.sizeOf134
  v233 := Tryd.zeroValue134
  g17 := by kernel_rfl
  g18 := by kernel_rfl
  g19 := by kernel_rfl
  i0 := by kernel_rfl
  i2 := by kernel_rfl
  i3 := by kernel_rfl
  i4 := by kernel_rfl
  i5 := by kernel_rfl
  i9 := by kernel_rfl
  i20 := by kernel_rfl
  i37 := by kernel_rfl
  i46 := by kernel_rfl
  i51 := by kernel_rfl
  i53 := by kernel_rfl
  i171 := by kernel_rfl
  i173 := by kernel_rfl
  i212 := by kernel_rfl
  i232 := by kernel_rfl
  i233 := by kernel_rfl
  m17 := by kernel_rfl
  m18 := by kernel_rfl
  m19 := by kernel_rfl }
open Go.RowKit Go.Sort Go.Lib in
theorem Tryd.strconv_Itoa (n : Int) (h0 : -9223372036854775808 ≤ n) (h1 : n ≤ 9223372036854775807) (w : World) (htab : Lib.TabIs Tryd.prog w "internal/strconv.uint64pow10" .u64 Lib.pow10Tab) :
    Calls Tryd.prog 65 #[.int .i64 n] w fun e w' => e = .returned (.string ⟨(Lib.itoa n).toArray⟩) ∧ ∃ k os, w' = grow (w.drewN k) os := Any.strconv_Itoa Tryd.laysM171 n h0 h1 w htab
def Tryd.laysC172_ren : Go.Shelf.Ren := ⟨fun | 172 => 74 | 244 => 93 | 245 => 94 | 247 => 105 | 279 => 106 | 280 => 107 | 281 => 108 | 282 => 109 | 287 => 100 | 316 => 120 | 171 => 65 | 205 => 121 | 321 => 113 | 322 => 114 | 243 => 88 | 246 => 103 | 283 => 115 | 284 => 116 | 285 => 117 | 286 => 118 | 129 => 124 | 317 => 123 | 318 => 125 | 319 => 126 | 320 => 127 | 337 => 128 | 338 => 129 | n => n, fun | 9 => 9 | 3 => 3 | 75 => 81 | 76 => 82 | 4 => 4 | 5 => 5 | 167 => 100 | 37 => 41 | 0 => 0 | 85 => 101 | 2 => 2 | 168 => 103 | 53 => 88 | 175 => 89 | 46 => 94 | 210 => 118 | 127 => 124 | 145 => 127 | 143 => 125 | 21 => 21 | 171 => 109 | 173 => 112 | 212 => 121 | 51 => 114 | 20 => 20 | 213 => 122 | 232 => 133 | 233 => 134 | 80 => 135 | n => n, fun | 15 => 1 | 16 => 2 | 17 => 3 | 18 => 6 | 19 => 7 | n => n⟩
theorem Tryd.laysC172 : Go.Proofs.LaysC.n172 Tryd.prog Tryd.laysC172_ren := {
  mixed := by kernel_rfl
  f129 := Tryd.func124.trans (congrArg some (by kernel_rfl))
  f171 := Tryd.func65.trans (congrArg some (by kernel_rfl))
  f172 := Tryd.func74.trans (congrArg some (by kernel_rfl))
  f205 := Tryd.func121.trans (congrArg some (by kernel_rfl))
  f243 := Tryd.func88.trans (congrArg some (by kernel_rfl))
  f244 := Tryd.func93.trans (congrArg some (by kernel_rfl))
  f245 := Tryd.func94.trans (congrArg some (by kernel_rfl))
  f246 := Tryd.func103.trans (congrArg some (by kernel_rfl))
  f247 := Tryd.func105.trans (congrArg some (by kernel_rfl))
  f279 := Tryd.func106.trans (congrArg some (by kernel_rfl))
  f280 := Tryd.func107.trans (congrArg some (by kernel_rfl))
  f281 := Tryd.func108.trans (congrArg some (by kernel_rfl))
  f282 := Tryd.func109.trans (congrArg some (by kernel_rfl))
  f283 := Tryd.func115.trans (congrArg some (by kernel_rfl))
  f284 := Tryd.func116.trans (congrArg some (by kernel_rfl))
  f285 := Tryd.func117.trans (congrArg some (by kernel_rfl))
  f286 := Tryd.func118.trans (congrArg some (by kernel_rfl))
  f287 := Tryd.func100.trans (congrArg some (by kernel_rfl))
  f316 := Tryd.func120.trans (congrArg some (by kernel_rfl))
  f317 := Tryd.func123.trans (congrArg some (by kernel_rfl))
  f318 := Tryd.func125.trans (congrArg some (by kernel_rfl))
  f319 := Tryd.func126.trans (congrArg some (by kernel_rfl))
  f320 := Tryd.func127.trans (congrArg some (by kernel_rfl))
  f321 := Tryd.func113.trans (congrArg some (by kernel_rfl))
  f322 := Tryd.func114.trans (congrArg some (by kernel_rfl))
  f337 := Tryd.func128.trans (congrArg some (by kernel_rfl))
  f338 := Tryd.func129.trans (congrArg some (by kernel_rfl))
  t0 := Tryd.underlying0
  a0 := Tryd.isAgg0
  z0 := Tryd.sizeOf0
  v0 := Tryd.zeroValue0
  t2 := Tryd.underlying2
  a2 := Tryd.isAgg2
  z2 := Tryd.sizeOf2
  v2 := Tryd.zeroValue2
  t3 := Tryd.underlying3
  a3 := Tryd.isAgg3
  z3 := Tryd.sizeOf3
  v3 := Tryd.zeroValue3
  t4 := Tryd.underlying4
  a4 := Tryd.isAgg4
  z4 := Tryd.sizeOf4
  v4 := Tryd.zeroValue4
  t5 := Tryd.underlying5
  a5 := Tryd.isAgg5
  z5 := Tryd.sizeOf5
  v5 := Tryd.zeroValue5
  t9 := Tryd.underlying9
  a9 := Tryd.isAgg9
  z9 := Tryd.sizeOf9
  v9 := Tryd.zeroValue9
  t20 := Tryd.underlying20
  a20 := Tryd.isAgg20
  z20 := Tryd.sizeOf20
  v20 := Tryd.zeroValue20
  t21 := Tryd.underlying21
  a21 := Tryd.isAgg21
  z21 := Tryd.sizeOf21
  v21 := Tryd.zeroValue21
  t37 := Tryd.underlying41
  a37 := Tryd.isAgg41
  z37 := Tryd.sizeOf41
  v37 := Tryd.zeroValue41
  t46 := Tryd.underlying94
  a46 := Tryd.isAgg94
  z46 := Tryd.sizeOf94
  v46 := Tryd.zeroValue94
  t51 := Tryd.underlying114
  a51 := Tryd.isAgg114
  z51 := Tryd.sizeOf114
  v51 := Tryd.zeroValue114
  t53 := Tryd.underlying88
  a53 := Tryd.isAgg88
  z53 := Tryd.sizeOf88
  v53 := Tryd.zeroValue88
  t75 := Tryd.underlying81
  a75 := Tryd.isAgg81
  z75 := Tryd.sizeOf81
  v75 := Tryd.zeroValue81
  t76 := Tryd.underlying82
  a76 := Tryd.isAgg82
  z76 := Tryd.sizeOf82
  v76 := Tryd.zeroValue82
  t85 := Tryd.underlying101
  a85 := Tryd.isAgg101
  z85 := Tryd.sizeOf101
  v85 := Tryd.zeroValue101
  t127 := Tryd.underlying124
  a127 := Tryd.isAgg124
  z127 := Tryd.sizeOf124
  v127 := Tryd.zeroValue124
  t143 := Tryd.underlying125
  a143 := Tryd.isAgg125
  z143 := Tryd.sizeOf125
  v143 := Tryd.zeroValue125
  t145 := Tryd.underlying127
  a145 := Tryd.isAgg127
  z145 := Tryd.sizeOf127
  v145 := Tryd.zeroValue127
  t167 := Tryd.underlying100
  a167 := Tryd.isAgg100
  z167 := Tryd.sizeOf100
  v167 := Tryd.zeroValue100
  t168 := Tryd.underlying103
  a168 := Tryd.isAgg103
  z168 := Tryd.sizeOf103
  v168 := Tryd.zeroValue103
  t171 := Tryd.underlying109
  a171 := Tryd.isAgg109
  z171 := Tryd.sizeOf109
  v171 := Tryd.zeroValue109
  t173 := Tryd.underlying112
  a173 := Tryd.isAgg112
  z173 := Tryd.sizeOf112
  v173 := Tryd.zeroValue112
  t175 := Tryd.underlying89
  a175 := Tryd.isAgg89
  z175 := Tryd.sizeOf89
  v175 := Tryd.zeroValue89
  t210 := Tryd.underlying118
  a210 := Tryd.isAgg118
  z210 := Tryd.sizeOf118
  v210 := Tryd.zeroValue118
  t212 := Tryd.underlying121
  a212 := Tryd.isAgg121
  z212 := Tryd.sizeOf121
  v212 := Tryd.zeroValue121
  t213 := Tryd.underlying122
  a213 := Tryd.isAgg122
  z213 := Tryd.sizeOf122
  t232 := Tryd.underlying133
  a232 := Tryd.isAgg133
  z232 := Tryd.sizeOf133
  v232 := Tryd.zeroValue133
  t233 := Tryd.underlying134
  a233 := Tryd.isAgg134
  z233 := Tryd.sizeOf134
  v233 := Tryd.zeroValue134
  g15 := by kernel_rfl
  g16 := by kernel_rfl
  g17 := by kernel_rfl
  g18 := by kernel_rfl
  g19 := by kernel_rfl
  t80 := Tryd.underlying135
  a80 := Tryd.isAgg135
  z80 := Tryd.sizeOf135
  v80 := Tryd.zeroValue135
  i0 := by kernel_rfl
  i2 := by kernel_rfl
  i3 := by kernel_rfl
  i4 := by kernel_rfl
  i5 := by kernel_rfl
  i9 := by kernel_rfl
  i20 := by kernel_rfl
  i21 := by kernel_rfl
  i37 := by kernel_rfl
  i46 := by kernel_rfl
  i51 := by kernel_rfl
  i53 := by kernel_rfl
  i75 := by kernel_rfl
  i76 := by kernel_rfl
  i80 := by kernel_rfl
  i85 := by kernel_rfl
  i127 := by kernel_rfl
  i143 := by kernel_rfl
  i145 := by kernel_rfl
  i167 := by kernel_rfl
  i168 := by kernel_rfl
  i171 := by kernel_rfl
  i173 := by kernel_rfl
  i175 := by kernel_rfl
  i210 := by kernel_rfl
  i212 := by kernel_rfl
  i232 := by kernel_rfl
  i233 := by kernel_rfl
  m15 := by kernel_rfl
  m16 := by kernel_rfl
  m17 := by kernel_rfl
  m18 := by kernel_rfl
  m19 := by kernel_rfl
  c0 := by kernel_rfl
  c2 := by kernel_rfl
  c3 := by kernel_rfl
  c4 := by kernel_rfl
  c5 := by kernel_rfl
  c9 := by kernel_rfl
  c20 := by kernel_rfl
  c21 := by kernel_rfl
  c37 := by kernel_rfl
  c46 := by kernel_rfl
  c51 := by kernel_rfl
  c53 := by kernel_rfl
  c75 := by kernel_rfl
  c76 := by kernel_rfl
  c80 := by kernel_rfl
  c85 := by kernel_rfl
  c127 := by kernel_rfl
  c143 := by kernel_rfl
  c145 := by kernel_rfl
  c167 := by kernel_rfl
  c168 := by kernel_rfl
  c171 := by kernel_rfl
  c173 := by kernel_rfl
  c175 := by kernel_rfl
  c210 := by kernel_rfl
  c212 := by kernel_rfl
  c213 := by kernel_rfl
  c232 := by kernel_rfl
  c233 := by kernel_rfl }
open Go.RowKit in
theorem Tryd.strconv_Atoi_ok (s : ByteArray) (hmax : s.size ≤ 9223372036854775806) (v : Int) (h : Lib.atoiAll s.data.toList = .ok v) (w : World) :
    Calls Tryd.prog 74 #[.string s] w fun e w' => e = .returned (.tuple #[.int .i64 v, .nilIface]) ∧ (w' = w ∨ ∃ t, w' = Lib.bytesWorld w 5 t) := Any.strconv_Atoi_ok Tryd.laysC172 s hmax v h w
open Go.RowKit in
theorem Tryd.strconv_Atoi_syntax_var (s : ByteArray) (hlim : s.size ≤ 281474976710656) (h : Lib.atoiAll s.data.toList = Go.Lib.NumEnd.syntax) (tp : TypeId) (p : Value) (w : World) (hvar : w.var? Tryd.prog "strconv.ErrSyntax" = some #[.iface tp p]) :
    Calls Tryd.prog 74 #[.string s] w fun e w' => ∃ N, e = .returned (.tuple #[.int .i64 0, .iface 103 (.pointer (some ⟨N, 0, none⟩))]) ∧ w.heap.size ≤ N ∧ w'.heap[N]? = some (.cells #[.string ⟨#[65, 116, 111, 105]⟩, .string s, .iface tp p] 118 (0, 0)) ∧ Below w.heap.size w w' := Any.strconv_Atoi_syntax_var Tryd.laysC172 s hlim h tp p w hvar
open Go.RowKit in
theorem Tryd.strconv_Atoi_range_var (s : ByteArray) (hlim : s.size ≤ 281474976710656) (h : Lib.atoiAll s.data.toList = .range) (tp : TypeId) (p : Value) (w : World) (hvar : w.var? Tryd.prog "strconv.ErrRange" = some #[.iface tp p]) :
    Calls Tryd.prog 74 #[.string s] w fun e w' => ∃ N, e = .returned (.tuple #[.int .i64 (Lib.atoiSat s.data.toList), .iface 103 (.pointer (some ⟨N, 0, none⟩))]) ∧ w.heap.size ≤ N ∧ w'.heap[N]? = some (.cells #[.string ⟨#[65, 116, 111, 105]⟩, .string s, .iface tp p] 118 (0, 0)) ∧ Below w.heap.size w w' := Any.strconv_Atoi_range_var Tryd.laysC172 s hlim h tp p w hvar
def Tryd.laysPu14_ren : Go.Shelf.Ren := ⟨fun | 14 => 83 | 16 => 100 | 17 => 94 | 19 => 113 | 20 => 114 | 21 => 106 | 22 => 107 | 23 => 108 | 24 => 109 | 25 => 120 | 27 => 65 | 26 => 121 | 28 => 88 | 29 => 103 | 30 => 115 | 31 => 116 | 32 => 117 | 33 => 118 | 35 => 124 | 34 => 123 | 36 => 125 | 37 => 126 | 38 => 127 | 39 => 128 | 40 => 129 | n => n, fun | 9 => 9 | 3 => 3 | 22 => 88 | 24 => 81 | 25 => 89 | 4 => 4 | 34 => 100 | 5 => 5 | 36 => 94 | 37 => 41 | 0 => 0 | 39 => 103 | 21 => 21 | 44 => 118 | 47 => 124 | 50 => 127 | 48 => 125 | 2 => 2 | 52 => 109 | 55 => 112 | 59 => 121 | 60 => 114 | 20 => 20 | 61 => 122 | 65 => 133 | 66 => 134 | 67 => 135 | n => n, fun | 0 => 1 | 1 => 2 | 2 => 3 | 3 => 6 | 4 => 7 | n => n⟩
theorem Tryd.laysPu14 : Go.Proofs.LaysPu.n14 Tryd.prog Tryd.laysPu14_ren := {
  mixed := by kernel_rfl
  f14 := Tryd.func83.trans (congrArg some (by kernel_rfl))
  f16 := Tryd.func100.trans (congrArg some (by kernel_rfl))
  f17 := Tryd.func94.trans (congrArg some (by kernel_rfl))
  f19 := Tryd.func113.trans (congrArg some (by kernel_rfl))
  f20 := Tryd.func114.trans (congrArg some (by kernel_rfl))
  f21 := Tryd.func106.trans (congrArg some (by kernel_rfl))
  f22 := Tryd.func107.trans (congrArg some (by kernel_rfl))
  f23 := Tryd.func108.trans (congrArg some (by kernel_rfl))
  f24 := Tryd.func109.trans (congrArg some (by kernel_rfl))
  f25 := Tryd.func120.trans (congrArg some (by kernel_rfl))
  f26 := Tryd.func121.trans (congrArg some (by kernel_rfl))
  f27 := Tryd.func65.trans (congrArg some (by kernel_rfl))
  f28 := Tryd.func88.trans (congrArg some (by kernel_rfl))
  f29 := Tryd.func103.trans (congrArg some (by kernel_rfl))
  f30 := Tryd.func115.trans (congrArg some (by kernel_rfl))
  f31 := Tryd.func116.trans (congrArg some (by kernel_rfl))
  f32 := Tryd.func117.trans (congrArg some (by kernel_rfl))
  f33 := Tryd.func118.trans (congrArg some (by kernel_rfl))
  f34 := Tryd.func123.trans (congrArg some (by kernel_rfl))
  f35 := Tryd.func124.trans (congrArg some (by kernel_rfl))
  f36 := Tryd.func125.trans (congrArg some (by kernel_rfl))
  f37 := Tryd.func126.trans (congrArg some (by kernel_rfl))
  f38 := Tryd.func127.trans (congrArg some (by kernel_rfl))
  f39 := Tryd.func128.trans (congrArg some (by kernel_rfl))
  f40 := Tryd.func129.trans (congrArg some (by kernel_rfl))
  t0 := Tryd.underlying0
  a0 := Tryd.isAgg0
  z0 := Tryd.sizeOf0
  v0 := Tryd.zeroValue0
  i0 := by kernel_rfl
  t2 := Tryd.underlying2
  a2 := Tryd.isAgg2
  z2 := Tryd.sizeOf2
  v2 := Tryd.zeroValue2
  i2 := by kernel_rfl
  t3 := Tryd.underlying3
  a3 := Tryd.isAgg3
  z3 := Tryd.sizeOf3
  v3 := Tryd.zeroValue3
  i3 := by kernel_rfl
  t4 := Tryd.underlying4
  a4 := Tryd.isAgg4
  z4 := Tryd.sizeOf4
  v4 := Tryd.zeroValue4
  i4 := by kernel_rfl
  t5 := Tryd.underlying5
  a5 := Tryd.isAgg5
  z5 := Tryd.sizeOf5
  v5 := Tryd.zeroValue5
  i5 := by kernel_rfl
  t9 := Tryd.underlying9
  a9 := Tryd.isAgg9
  z9 := Tryd.sizeOf9
  v9 := Tryd.zeroValue9
  i9 := by kernel_rfl
  t20 := Tryd.underlying20
  a20 := Tryd.isAgg20
  z20 := Tryd.sizeOf20
  v20 := Tryd.zeroValue20
  i20 := by kernel_rfl
  t21 := Tryd.underlying21
  a21 := Tryd.isAgg21
  z21 := Tryd.sizeOf21
  v21 := Tryd.zeroValue21
  i21 := by kernel_rfl
  t22 := Tryd.underlying88
  a22 := Tryd.isAgg88
  z22 := Tryd.sizeOf88
  v22 := Tryd.zeroValue88
  i22 := by kernel_rfl
  t24 := Tryd.underlying81
  a24 := Tryd.isAgg81
  z24 := Tryd.sizeOf81
  v24 := Tryd.zeroValue81
  i24 := by kernel_rfl
  t25 := Tryd.underlying89
  a25 := Tryd.isAgg89
  z25 := Tryd.sizeOf89
  v25 := Tryd.zeroValue89
  i25 := by kernel_rfl
  t34 := Tryd.underlying100
  a34 := Tryd.isAgg100
  z34 := Tryd.sizeOf100
  v34 := Tryd.zeroValue100
  i34 := by kernel_rfl
  c34 := by kernel_rfl
  t36 := Tryd.underlying94
  a36 := Tryd.isAgg94
  z36 := Tryd.sizeOf94
  v36 := Tryd.zeroValue94
  i36 := by kernel_rfl
  t37 := Tryd.underlying41
  a37 := Tryd.isAgg41
  z37 := Tryd.sizeOf41
  v37 := Tryd.zeroValue41
  i37 := by kernel_rfl
  t39 := Tryd.underlying103
  a39 := Tryd.isAgg103
  z39 := Tryd.sizeOf103
  v39 := Tryd.zeroValue103
  i39 := by kernel_rfl
  t44 := Tryd.underlying118
  a44 := Tryd.isAgg118
  z44 := Tryd.sizeOf118
  v44 := Tryd.zeroValue118
  i44 := by kernel_rfl
  t47 := Tryd.underlying124
  a47 := Tryd.isAgg124
  z47 := Tryd.sizeOf124
  v47 := Tryd.zeroValue124
  i47 := by kernel_rfl
  t48 := Tryd.underlying125
  a48 := Tryd.isAgg125
  z48 := Tryd.sizeOf125
  v48 := Tryd.zeroValue125
  i48 := by kernel_rfl
  t50 := Tryd.underlying127
  a50 := Tryd.isAgg127
  z50 := Tryd.sizeOf127
  v50 := Tryd.zeroValue127
  i50 := by kernel_rfl
  t52 := Tryd.underlying109
  a52 := Tryd.isAgg109
  z52 := Tryd.sizeOf109
  v52 := Tryd.zeroValue109
  i52 := by kernel_rfl
  t55 := Tryd.underlying112
  a55 := Tryd.isAgg112
  z55 := Tryd.sizeOf112
  v55 := Tryd.zeroValue112
  i55 := by kernel_rfl
  t59 := Tryd.underlying121
  a59 := Tryd.isAgg121
  z59 := Tryd.sizeOf121
  v59 := Tryd.zeroValue121
  i59 := by kernel_rfl
  t60 := Tryd.underlying114
  a60 := Tryd.isAgg114
  z60 := Tryd.sizeOf114
  v60 := Tryd.zeroValue114
  i60 := by kernel_rfl
  t61 := Tryd.underlying122
  a61 := Tryd.isAgg122
  z61 := Tryd.sizeOf122
  t65 := Tryd.underlying133
  a65 := Tryd.isAgg133
  z65 := Tryd.sizeOf133
  v65 := Tryd.zeroValue133
  i65 := by kernel_rfl
  t66 := Tryd.underlying134
  a66 := Tryd.isAgg134
  z66 := Tryd.sizeOf134
  v66 := Tryd.zeroValue134
  i66 := by kernel_rfl
  t67 := Tryd.underlying135
  a67 := Tryd.isAgg135
  z67 := Tryd.sizeOf135
  v67 := Tryd.zeroValue135
  i67 := by kernel_rfl
  g0 := by kernel_rfl
  m0 := by kernel_rfl
  g1 := by kernel_rfl
  m1 := by kernel_rfl
  g2 := by kernel_rfl
  m2 := by kernel_rfl
  g3 := by kernel_rfl
  m3 := by kernel_rfl
  g4 := by kernel_rfl
  m4 := by kernel_rfl }
open Go.RowKit in
theorem Tryd.strconv_ParseUint_10_at8_ok (s : ByteArray) (hmax : s.size ≤ 9223372036854775806) (u : Nat) (h : Lib.parseUintB 8 s.data.toList = .ok u) (w : World) :
    Calls Tryd.prog 83 #[.string s, .int .i64 10, .int .i64 8] w fun e w' => e = .returned (.tuple #[.int .u64 u, .nilIface]) ∧ (w' = w ∨ w' = Lib.bytesWorld w 5 s) := Any.strconv_ParseUint_10_at8_ok Tryd.laysPu14 s hmax u h w
open Go.RowKit in
theorem Tryd.strconv_ParseUint_10_at8_range_var (s : ByteArray) (hlim : s.size ≤ 281474976710656) (h : Lib.parseUintB 8 s.data.toList = .range) (tp : TypeId) (p : Value) (w : World) (hvar : w.var? Tryd.prog "strconv.ErrRange" = some #[.iface tp p]) :
    Calls Tryd.prog 83 #[.string s, .int .i64 10, .int .i64 8] w fun e w' => ∃ N, e = .returned (.tuple #[.int .u64 255, .iface 103 (.pointer (some ⟨N, 0, none⟩))]) ∧ w.heap.size ≤ N ∧ w'.heap[N]? = some (.cells #[.string ⟨#[80, 97, 114, 115, 101, 85, 105, 110, 116]⟩, .string s, .iface tp p] 118 (0, 0)) ∧ Below w.heap.size w w' := Any.strconv_ParseUint_10_at8_range_var Tryd.laysPu14 s hlim h tp p w hvar
def Tryd.lays145_ren : Go.Shelf.Ren := ⟨fun | 145 => 44 | 220 => 73 | 219 => 92 | 217 => 86 | 225 => 91 | 224 => 90 | 267 => 104 | 266 => 102 | 314 => 119 | n => n, fun | 9 => 9 | 4 => 4 | 59 => 59 | 3 => 3 | 5 => 5 | 46 => 94 | 146 => 115 | 51 => 114 | n => n, fun | 1 => 0 | n => n⟩
theorem Tryd.lays145 : Go.Proofs.Lays.n145 Tryd.prog Tryd.lays145_ren := {
  mixed := by kernel_rfl
  f145 := Tryd.func44.trans (congrArg some (by kernel_rfl))
  f217 := Tryd.func86.trans (congrArg some (by kernel_rfl))
  f219 := Tryd.func92.trans (congrArg some (by kernel_rfl))
  f220 := Tryd.func73.trans (congrArg some (by kernel_rfl))
  f224 := Tryd.func90.trans (congrArg some (by kernel_rfl))
  f225 := Tryd.func91.trans (congrArg some (by kernel_rfl))
  f266 := Tryd.func102.trans (congrArg some (by kernel_rfl))
  f267 := Tryd.func104.trans (congrArg some (by kernel_rfl))
  f314 := Tryd.func119.trans (congrArg some (by kernel_rfl))
  t3 := Tryd.underlying3
  a3 := Tryd.isAgg3
  z3 := Tryd.sizeOf3
  v3 := Tryd.zeroValue3
  t4 := Tryd.underlying4
  a4 := Tryd.isAgg4
  z4 := Tryd.sizeOf4
  v4 := Tryd.zeroValue4
  t5 := Tryd.underlying5
  a5 := Tryd.isAgg5
  z5 := Tryd.sizeOf5
  v5 := Tryd.zeroValue5
  t9 := Tryd.underlying9
  a9 := Tryd.isAgg9
  z9 := Tryd.sizeOf9
  v9 := Tryd.zeroValue9
  t46 := Tryd.underlying94
  a46 := Tryd.isAgg94
  z46 := Tryd.sizeOf94
  v46 := Tryd.zeroValue94
  t51 := Tryd.underlying114
  a51 := Tryd.isAgg114
  z51 := Tryd.sizeOf114
  v51 := Tryd.zeroValue114
  t59 := Tryd.underlying59
  a59 := Tryd.isAgg59
  z59 := Tryd.sizeOf59
  v59 := Tryd.zeroValue59
  t146 := Tryd.underlying115
  a146 := Tryd.isAgg115
  z146 := Tryd.sizeOf115
  v146 := Tryd.zeroValue115
  g1 := by kernel_rfl }
open Go.RowKit Go.Lib in
theorem Tryd.strings_Cut (s sep : ByteArray) (m : Int) (w : World) (hs : s.size < 4294967281) (hm : w.cell? ⟨0, 0, none⟩ = some (.int .i64 m)) :
    Calls Tryd.prog 44 #[.string s, .string sep] w fun e w' => e = .returned (.tuple #[.string ⟨(Lib.cut s.data.toList sep.data.toList).1.toArray⟩, .string ⟨(Lib.cut s.data.toList sep.data.toList).2.1.toArray⟩, .bool (Lib.cut s.data.toList sep.data.toList).2.2]) ∧ ∃ n, w' = w.drewN n := Any.strings_Cut Tryd.lays145 s sep m w hs hm
def Tryd.lays99_ren : Go.Shelf.Ren := ⟨fun | 99 => 47 | 206 => 75 | n => n, fun | 9 => 9 | 4 => 4 | 3 => 3 | n => n, fun | n => n⟩
theorem Tryd.lays99 : Go.Proofs.Lays.n99 Tryd.prog Tryd.lays99_ren := {
  mixed := by kernel_rfl
  f99 := Tryd.func47.trans (congrArg some (by kernel_rfl))
  f206 := Tryd.func75.trans (congrArg some (by kernel_rfl))
  t3 := Tryd.underlying3
  a3 := Tryd.isAgg3
  z3 := Tryd.sizeOf3
  v3 := Tryd.zeroValue3
  t4 := Tryd.underlying4
  a4 := Tryd.isAgg4
  z4 := Tryd.sizeOf4
  v4 := Tryd.zeroValue4
  t9 := Tryd.underlying9
  a9 := Tryd.isAgg9
  z9 := Tryd.sizeOf9
  v9 := Tryd.zeroValue9 }
open Go.RowKit Go.Lib in
theorem Tryd.strings_HasPrefix (s p : ByteArray) (w : World) :
    Calls Tryd.prog 47 #[.string s, .string p] w fun e w' => e = .returned (.bool (Lib.hasPrefix s.data.toList p.data.toList)) ∧ w' = w := Any.strings_HasPrefix Tryd.lays99 s p w
def Tryd.lays100_ren : Go.Shelf.Ren := ⟨fun | 100 => 63 | 207 => 87 | n => n, fun | 9 => 9 | 4 => 4 | 3 => 3 | n => n, fun | n => n⟩
theorem Tryd.lays100 : Go.Proofs.Lays.n100 Tryd.prog Tryd.lays100_ren := {
  mixed := by kernel_rfl
  f100 := Tryd.func63.trans (congrArg some (by kernel_rfl))
  f207 := Tryd.func87.trans (congrArg some (by kernel_rfl))
  t3 := Tryd.underlying3
  a3 := Tryd.isAgg3
  z3 := Tryd.sizeOf3
  v3 := Tryd.zeroValue3
  t4 := Tryd.underlying4
  a4 := Tryd.isAgg4
  z4 := Tryd.sizeOf4
  v4 := Tryd.zeroValue4
  t9 := Tryd.underlying9
  a9 := Tryd.isAgg9
  z9 := Tryd.sizeOf9
  v9 := Tryd.zeroValue9 }
open Go.RowKit Go.Lib in
theorem Tryd.strings_HasSuffix (s p : ByteArray) (w : World) (hs : s.size ≤ 9223372036854775807) :
    Calls Tryd.prog 63 #[.string s, .string p] w fun e w' => e = .returned (.bool (Lib.hasSuffix s.data.toList p.data.toList)) ∧ w' = w := Any.strings_HasSuffix Tryd.lays100 s p w hs
def Tryd.lays101_ren : Go.Shelf.Ren := ⟨fun | 101 => 31 | 208 => 54 | 206 => 75 | n => n, fun | 9 => 9 | 4 => 4 | 3 => 3 | n => n, fun | n => n⟩
theorem Tryd.lays101 : Go.Proofs.Lays.n101 Tryd.prog Tryd.lays101_ren := {
  mixed := by kernel_rfl
  f101 := Tryd.func31.trans (congrArg some (by kernel_rfl))
  f206 := Tryd.func75.trans (congrArg some (by kernel_rfl))
  f208 := Tryd.func54.trans (congrArg some (by kernel_rfl))
  t3 := Tryd.underlying3
  a3 := Tryd.isAgg3
  z3 := Tryd.sizeOf3
  v3 := Tryd.zeroValue3
  t4 := Tryd.underlying4
  a4 := Tryd.isAgg4
  z4 := Tryd.sizeOf4
  v4 := Tryd.zeroValue4
  t9 := Tryd.underlying9
  a9 := Tryd.isAgg9
  z9 := Tryd.sizeOf9
  v9 := Tryd.zeroValue9 }
open Go.RowKit Go.Lib in
theorem Tryd.strings_TrimPrefix (s p : ByteArray) (w : World) :
    Calls Tryd.prog 31 #[.string s, .string p] w fun e w' => e = .returned (.string ⟨(Lib.trimPrefix s.data.toList p.data.toList).toArray⟩) ∧ w' = w := Any.strings_TrimPrefix Tryd.lays101 s p w
def Tryd.lays146_ren : Go.Shelf.Ren := ⟨fun | 146 => 48 | 221 => 76 | 268 => 95 | 138 => 96 | 143 => 97 | 195 => 110 | 197 => 111 | 218 => 112 | 219 => 92 | 260 => 122 | 217 => 86 | 225 => 91 | 224 => 90 | 267 => 104 | 266 => 102 | 314 => 119 | n => n, fun | 9 => 9 | 31 => 23 | 3 => 3 | 4 => 4 | 0 => 0 | 105 => 106 | 21 => 21 | 5 => 5 | 46 => 94 | 119 => 128 | 139 => 131 | 138 => 130 | 146 => 115 | 51 => 114 | n => n, fun | 1 => 0 | 3 => 4 | 4 => 5 | n => n⟩
theorem Tryd.lays146 : Go.Proofs.Lays.n146 Tryd.prog Tryd.lays146_ren := {
  mixed := by kernel_rfl
  f138 := Tryd.func96.trans (congrArg some (by kernel_rfl))
  f143 := Tryd.func97.trans (congrArg some (by kernel_rfl))
  f146 := Tryd.func48.trans (congrArg some (by kernel_rfl))
  f195 := Tryd.func110.trans (congrArg some (by kernel_rfl))
  f197 := Tryd.func111.trans (congrArg some (by kernel_rfl))
  f217 := Tryd.func86.trans (congrArg some (by kernel_rfl))
  f218 := Tryd.func112.trans (congrArg some (by kernel_rfl))
  f219 := Tryd.func92.trans (congrArg some (by kernel_rfl))
  f221 := Tryd.func76.trans (congrArg some (by kernel_rfl))
  f224 := Tryd.func90.trans (congrArg some (by kernel_rfl))
  f225 := Tryd.func91.trans (congrArg some (by kernel_rfl))
  f260 := Tryd.func122.trans (congrArg some (by kernel_rfl))
  f266 := Tryd.func102.trans (congrArg some (by kernel_rfl))
  f267 := Tryd.func104.trans (congrArg some (by kernel_rfl))
  f268 := Tryd.func95.trans (congrArg some (by kernel_rfl))
  f314 := Tryd.func119.trans (congrArg some (by kernel_rfl))
  t0 := Tryd.underlying0
  a0 := Tryd.isAgg0
  z0 := Tryd.sizeOf0
  v0 := Tryd.zeroValue0
  t3 := Tryd.underlying3
  a3 := Tryd.isAgg3
  z3 := Tryd.sizeOf3
  v3 := Tryd.zeroValue3
  t4 := Tryd.underlying4
  a4 := Tryd.isAgg4
  z4 := Tryd.sizeOf4
  v4 := Tryd.zeroValue4
  t5 := Tryd.underlying5
  a5 := Tryd.isAgg5
  z5 := Tryd.sizeOf5
  v5 := Tryd.zeroValue5
  t9 := Tryd.underlying9
  a9 := Tryd.isAgg9
  z9 := Tryd.sizeOf9
  v9 := Tryd.zeroValue9
  t21 := Tryd.underlying21
  a21 := Tryd.isAgg21
  z21 := Tryd.sizeOf21
  v21 := Tryd.zeroValue21
  t31 := Tryd.underlying23
  a31 := Tryd.isAgg23
  z31 := Tryd.sizeOf23
  v31 := Tryd.zeroValue23
  t46 := Tryd.underlying94
  a46 := Tryd.isAgg94
  z46 := Tryd.sizeOf94
  v46 := Tryd.zeroValue94
  t51 := Tryd.underlying114
  a51 := Tryd.isAgg114
  z51 := Tryd.sizeOf114
  v51 := Tryd.zeroValue114
  t105 := Tryd.underlying106
  a105 := Tryd.isAgg106
  z105 := Tryd.sizeOf106
  v105 := Tryd.zeroValue106
  t119 := Tryd.underlying128
  a119 := Tryd.isAgg128
  z119 := Tryd.sizeOf128
  t138 := Tryd.underlying130
  a138 := Tryd.isAgg130
  z138 := Tryd.sizeOf130
  v138 := Tryd.zeroValue130
  t139 := Tryd.underlying131
  a139 := Tryd.isAgg131
  z139 := Tryd.sizeOf131
  v139 := Tryd.zeroValue131
  t146 := Tryd.underlying115
  a146 := Tryd.isAgg115
  z146 := Tryd.sizeOf115
  v146 := Tryd.zeroValue115
  g1 := by kernel_rfl
  g3 := by kernel_rfl
  g4 := by kernel_rfl }
open Go.RowKit Go.Lib in
theorem Tryd.strings_Split (s sep : ByteArray) (m : Int) (w : World) (hs : s.size < 4294967281) (hm : w.cell? ⟨0, 0, none⟩ = some (.int .i64 m)) (h1 : 1 ≤ sep.size) :
    Calls Tryd.prog 48 #[.string s, .string sep] w fun e w' =>
      e = .returned (.slice (some ⟨w.heap.size, 0, none⟩) (Lib.countB s sep + 1) (Lib.countB s sep + 1)) ∧ w' = w.alloc (.cells ((Lib.splitB sep 0 (Lib.countB s sep) s).map Value.string).toArray 9) := Any.strings_Split Tryd.lays146 (by kernel_rfl) s sep m w hs hm h1
def Tryd.lays152_ren : Go.Shelf.Ren := ⟨fun | 152 => 69 | 137 => 58 | 119 => 89 | 224 => 90 | 225 => 91 | 217 => 86 | 266 => 102 | n => n, fun | 9 => 9 | 21 => 21 | 3 => 3 | 4 => 4 | 5 => 5 | 0 => 0 | 46 => 94 | n => n, fun | n => n⟩
theorem Tryd.lays152 : Go.Proofs.Lays.n152 Tryd.prog Tryd.lays152_ren := {
  mixed := by kernel_rfl
  f119 := Tryd.func89.trans (congrArg some (by kernel_rfl))
  f137 := Tryd.func58.trans (congrArg some (by kernel_rfl))
  f152 := Tryd.func69.trans (congrArg some (by kernel_rfl))
  f217 := Tryd.func86.trans (congrArg some (by kernel_rfl))
  f224 := Tryd.func90.trans (congrArg some (by kernel_rfl))
  f225 := Tryd.func91.trans (congrArg some (by kernel_rfl))
  f266 := Tryd.func102.trans (congrArg some (by kernel_rfl))
  t0 := Tryd.underlying0
  a0 := Tryd.isAgg0
  z0 := Tryd.sizeOf0
  v0 := Tryd.zeroValue0
  t3 := Tryd.underlying3
  a3 := Tryd.isAgg3
  z3 := Tryd.sizeOf3
  v3 := Tryd.zeroValue3
  t4 := Tryd.underlying4
  a4 := Tryd.isAgg4
  z4 := Tryd.sizeOf4
  v4 := Tryd.zeroValue4
  t5 := Tryd.underlying5
  a5 := Tryd.isAgg5
  z5 := Tryd.sizeOf5
  v5 := Tryd.zeroValue5
  t9 := Tryd.underlying9
  a9 := Tryd.isAgg9
  z9 := Tryd.sizeOf9
  v9 := Tryd.zeroValue9
  t21 := Tryd.underlying21
  a21 := Tryd.isAgg21
  z21 := Tryd.sizeOf21
  v21 := Tryd.zeroValue21
  t46 := Tryd.underlying94
  a46 := Tryd.isAgg94
  z46 := Tryd.sizeOf94
  v46 := Tryd.zeroValue94 }
open Go.RowKit Go.Lib in
theorem Tryd.strings_IndexRune_ascii (s : ByteArray) (r : Int) (w : World) (h0 : 0 ≤ r) (h1 : r < 128) :
    Calls Tryd.prog 69 #[.string s, .int .i32 r] w fun e w' => e = .returned (.int .i64 (Lib.indexByte s.data.toList r.toNat.toUInt8)) ∧ w' = w := Any.strings_IndexRune_ascii Tryd.lays152 s r w h0 h1
def Tryd.lays226_ren : Go.Shelf.Ren := ⟨fun | 226 => 70 | n => n, fun | 3 => 3 | 4 => 4 | n => n, fun | n => n⟩
theorem Tryd.lays226 : Go.Proofs.Lays.n226 Tryd.prog Tryd.lays226_ren := {
  mixed := by kernel_rfl
  f226 := Tryd.func70.trans (congrArg some (by kernel_rfl))
  t3 := Tryd.underlying3
  a3 := Tryd.isAgg3
  z3 := Tryd.sizeOf3
  v3 := Tryd.zeroValue3
  t4 := Tryd.underlying4
  a4 := Tryd.isAgg4
  z4 := Tryd.sizeOf4
  v4 := Tryd.zeroValue4 }
open Go.RowKit Go.Lib in
theorem Tryd.strings_shouldUseASCIISet (n : Int) (w : World) :
    Calls Tryd.prog 70 #[.int .i64 n] w fun e w' => e = .returned (.bool (decide (8 < n))) ∧ w' = w := Any.strings_shouldUseASCIISet Tryd.lays226 n w
def Tryd.lays153_ren : Go.Shelf.Ren := ⟨fun | 153 => 43 | 152 => 69 | 226 => 70 | 227 => 71 | 228 => 72 | 137 => 58 | 119 => 89 | 224 => 90 | 225 => 91 | 217 => 86 | 266 => 102 | n => n, fun | 9 => 9 | 3 => 3 | 4 => 4 | 5 => 5 | 21 => 21 | 117 => 78 | 116 => 77 | 0 => 0 | 46 => 94 | 124 => 95 | n => n, fun | n => n⟩
theorem Tryd.lays153 : Go.Proofs.Lays.n153 Tryd.prog Tryd.lays153_ren := {
  mixed := by kernel_rfl
  f119 := Tryd.func89.trans (congrArg some (by kernel_rfl))
  f137 := Tryd.func58.trans (congrArg some (by kernel_rfl))
  f152 := Tryd.func69.trans (congrArg some (by kernel_rfl))
  f153 := Tryd.func43.trans (congrArg some (by kernel_rfl))
  f217 := Tryd.func86.trans (congrArg some (by kernel_rfl))
  f224 := Tryd.func90.trans (congrArg some (by kernel_rfl))
  f225 := Tryd.func91.trans (congrArg some (by kernel_rfl))
  f226 := Tryd.func70.trans (congrArg some (by kernel_rfl))
  f227 := Tryd.func71.trans (congrArg some (by kernel_rfl))
  f228 := Tryd.func72.trans (congrArg some (by kernel_rfl))
  f266 := Tryd.func102.trans (congrArg some (by kernel_rfl))
  t0 := Tryd.underlying0
  a0 := Tryd.isAgg0
  z0 := Tryd.sizeOf0
  v0 := Tryd.zeroValue0
  t3 := Tryd.underlying3
  a3 := Tryd.isAgg3
  z3 := Tryd.sizeOf3
  v3 := Tryd.zeroValue3
  t4 := Tryd.underlying4
  a4 := Tryd.isAgg4
  z4 := Tryd.sizeOf4
  v4 := Tryd.zeroValue4
  t5 := Tryd.underlying5
  a5 := Tryd.isAgg5
  z5 := Tryd.sizeOf5
  v5 := Tryd.zeroValue5
  t9 := Tryd.underlying9
  a9 := Tryd.isAgg9
  z9 := Tryd.sizeOf9
  v9 := Tryd.zeroValue9
  t21 := Tryd.underlying21
  a21 := Tryd.isAgg21
  z21 := Tryd.sizeOf21
  v21 := Tryd.zeroValue21
  t46 := Tryd.underlying94
  a46 := Tryd.isAgg94
  z46 := Tryd.sizeOf94
  v46 := Tryd.zeroValue94
  t116 := Tryd.underlying77
  a116 := Tryd.isAgg77
  z116 := Tryd.sizeOf77
  t117 := Tryd.underlying78
  a117 := Tryd.isAgg78
  z117 := Tryd.sizeOf78
  v117 := Tryd.zeroValue78
  t124 := Tryd.underlying95
  a124 := Tryd.isAgg95
  z124 := Tryd.sizeOf95
  v124 := Tryd.zeroValue95 }
open Go.RowKit Go.Lib in
theorem Tryd.strings_IndexAny_long (hv116 : ∀ w, (zeroValue 77).run Tryd.prog w = .ok (.agg (Array.replicate 256 (.bool false))) w) (s chars : ByteArray) (w : World) (h2 : 2 ≤ chars.size) (h8 : 8 < s.size) (hs : s.size < 4294967281) (hcs : chars.size < 4294967281) (hascii : ∀ (j : Nat) b, chars.data.toList[j]? = some b → b.toNat < 128) :
    Calls Tryd.prog 43 #[.string s, .string chars] w fun e w' => e = .returned (.int .i64 (Lib.indexAny s.data.toList chars.data.toList)) ∧ w' = ((w.alloc (.cells (Lib.setCells chars.data.toList) 77)).alloc (.cells (Lib.setCells chars.data.toList) 77)) := Any.strings_IndexAny_long Tryd.lays153 hv116 (by kernel_rfl) s chars w h2 h8 hs hcs hascii
def Tryd.lays110_ren : Go.Shelf.Ren := ⟨fun | 110 => 40 | 109 => 64 | n => n, fun | 31 => 23 | 9 => 9 | 4 => 4 | 3 => 3 | 0 => 0 | n => n, fun | n => n⟩
theorem Tryd.lays110 : Go.Proofs.Lays.n110 Tryd.prog Tryd.lays110_ren := {
  mixed := by kernel_rfl
  f109 := Tryd.func64.trans (congrArg some (by kernel_rfl))
  f110 := Tryd.func40.trans (congrArg some (by kernel_rfl))
  t0 := Tryd.underlying0
  a0 := Tryd.isAgg0
  z0 := Tryd.sizeOf0
  v0 := Tryd.zeroValue0
  t3 := Tryd.underlying3
  a3 := Tryd.isAgg3
  z3 := Tryd.sizeOf3
  v3 := Tryd.zeroValue3
  t4 := Tryd.underlying4
  a4 := Tryd.isAgg4
  z4 := Tryd.sizeOf4
  v4 := Tryd.zeroValue4
  t9 := Tryd.underlying9
  a9 := Tryd.isAgg9
  z9 := Tryd.sizeOf9
  v9 := Tryd.zeroValue9
  t31 := Tryd.underlying23
  a31 := Tryd.isAgg23
  z31 := Tryd.sizeOf23
  v31 := Tryd.zeroValue23 }
open Go.Lib in
theorem Tryd.slices_Contains_string (b off n c : Nat) (zs : List ByteArray) (x : ByteArray) (w : World) (hz : n ≤ zs.length) (hbig : n ≤ 9223372036854775807) (hc : ∀ j, j < zs.length → w.cell? ⟨b, off + j, none⟩ = some (.string (zs.getD j ByteArray.empty))) :
    Calls Tryd.prog 40 #[.slice (some ⟨b, off, none⟩) n c, .string x] w fun e w' => e = .returned (.bool (Lib.containsS (zs.take n) x)) ∧ w' = w := Any.slices_Contains_string Tryd.lays110 b off n c zs x w hz hbig hc
open Go.Lib in
theorem Tryd.slices_Contains_string_empty (a : Option Addr) (c : Nat) (x : ByteArray) (w : World) :
    Calls Tryd.prog 40 #[.slice a 0 c, .string x] w fun e w' => e = .returned (.bool false) ∧ w' = w := Any.slices_Contains_string_empty Tryd.lays110 a c x w
end Go.Proofs

/- Small lemmas for walks; slices.ContainsFunc on bytes; text.all. -/
namespace Go.Proofs.YtjdlaofeenblkaaDoor.T
open Go.RowKit
set_option linter.unusedSimpArgs false
set_option linter.unusedVariables false

theorem isEmpty_data0 (s : ByteArray) : s.toList.isEmpty = s.data.toList.isEmpty := by
  have h : s.toList = s.data.toList := Lib.toList_data s
  rw [h]
theorem ret_i64 {a b : Int} (h : a = b) : Ending.returned (.int .i64 a) = .returned (.int .i64 b) := by rw [h]
theorem ret_bool {a b : Bool} (h : a = b) : Ending.returned (.bool a) = .returned (.bool b) := by rw [h]
theorem ret_str {a b : ByteArray} (h : a = b) : Ending.returned (.string a) = .returned (.string b) := by rw [h]
theorem below_next {w W W1 : World} (h : Below w.heap.size w W) (k : Below W.heap.size W W1) : Below w.heap.size w W1 := h.trans (k.mono h.size)
theorem below_drw {w W : World} (h : Below w.heap.size w W) : Below w.heap.size w W.drew := ⟨h.os, h.tape, h.output, h.size, h.block⟩
theorem below_drwN {w W : World} (h : Below w.heap.size w W) (n : Nat) : Below w.heap.size w (W.drewN n) := ⟨h.os, h.tape, h.output, h.size, h.block⟩
theorem below_alc {w W : World} (h : Below w.heap.size w W) (o : Obj) : Below w.heap.size w (W.alloc o) := h.alloc h.size o
theorem below_bytes {w W : World} (h : Below w.heap.size w W) (e : TypeId) (s : ByteArray) : Below w.heap.size w (Lib.bytesWorld W e s) :=
  below_next h ⟨rfl, rfl, rfl, by rw [Lib.bytesWorld_size]; omega, fun j hj => Lib.bytesWorld_at_old W e s j hj⟩

theorem below_drewN1 (w : World) (n : Nat) : Below w.heap.size w (w.drewN n) := by
  have := Below.refl w.heap.size w
  exact ⟨this.os, this.tape, this.output, this.size, this.block⟩
theorem below_grw {w w' : World} (h : ∃ k os, w' = Go.Sort.grow (w.drewN k) os) : Below w.heap.size w w' := by
  obtain ⟨k, os, rfl⟩ := h
  refine below_next (below_drewN1 w k) ⟨rfl, rfl, rfl, ?_, fun j hj => ?_⟩
  · show (w.drewN k).heap.size ≤ ((w.drewN k).heap ++ os).size
    rw [Array.size_append]; omega
  · show ((w.drewN k).heap ++ os)[j]? = (w.drewN k).heap[j]?
    rw [Array.getElem?_append_left hj]
/-- a function value that tells whether p holds of a byte -/
def PredB (g : Nat) (lb : Array Value) (p : UInt8 → Bool) (w : World) : Prop :=
  ∀ (W : World) (c : UInt8), Below w.heap.size w W → Calls Tryd.prog g (#[.int .u8 c.toNat] ++ lb) W fun e w' => e = .returned (.bool (p c)) ∧ Below W.heap.size W w'
theorem PredB.later {g : Nat} {lb : Array Value} {p : UInt8 → Bool} {w W : World} (h : PredB g lb p w) (hb : Below w.heap.size w W) : PredB g lb p W := fun W1 c h1 => h W1 c (below_next hb h1)

set_option maxHeartbeats 1000000 in
theorem index_byte (g : Nat) (lb : Array Value) (p : UInt8 → Bool) (eg : ∀ args w, (callFunc g args).run Tryd.prog w = .ok (.enter g args) w) (b off n c : Nat) (zs : List UInt8) (w : World)
    (hp : PredB g lb p w) (hn : zs.length = n) (hbig : n ≤ 9223372036854775807) (hc : ∀ j, j < n → w.cell? ⟨b, off + j, none⟩ = some (.int .u8 (zs.getD j 0).toNat)) :
    Calls Tryd.prog 98 #[.slice (some ⟨b, off, none⟩) n c, .func (.func g) #[] lb] w fun e w' => e = .returned (.int .i64 (fidx p zs)) ∧ Below w.heap.size w w' := by
  have HP := Lib.hid hp; clear hp
  have HN := Lib.hid hn; clear hn
  have HC := Lib.hid hc; clear hc
  go_enter Tryd.func98, Tryd.ntmps98
  go_wp2
  go_loopg [5, 8] n (fun gg _ s8 wr => ∃ kk : Nat, kk ≤ n ∧ n - kk ≤ gg ∧ s8 = .int .i64 kk ∧ Aside (Below w.heap.size w wr) ∧ Aside (∀ j, j < kk → p (zs.getD j 0) = false))
  case atStart => exact ⟨0, Nat.zero_le _, by omega, rfl, Below.refl _ _, fun j hj => absurd hj (Nat.not_lt_zero _)⟩
  case round =>
    obtain ⟨kk, hkk, hg, rfl, HB0, A⟩ := hrel
    have HB : Hid (Below w.heap.size w wr) := Lib.hid HB0.out
    clear HB0
    by_cases hlt : kk < n
    · have hltz : (kk : Int) < (n : Int) := by omega
      have hcell0 := HC.out kk hlt
      have hcell : wr.cell? ⟨b, off + kk, none⟩ = some (.int .u8 (zs.getD kk 0).toNat) := (HB.out.cell (World.block_lt_of_cell? w _ hcell0)).trans hcell0
      clear hcell0
      generalize hy : zs.getD kk 0 = y at hcell
      have B : Hid (zs.getD kk 0 = y) := Lib.hid hy
      clear hy
      have hcall := fun W hb => HP.out W y hb
      cases hq : p y with
      | true =>
        rw [hq] at hcall
        have HCALL := Lib.hid hcall; clear hcall
        have HQ := Lib.hid hq; clear hq
        go_wp2_with (go_at_fn g; refine (HCALL.out _ HB.out).mono ?_; rintro e w' ⟨rfl, hb⟩)
        go_ret
        exact ⟨ret_i64 (fidx_hit p 0 zs kk (by have := HN.out; omega) (by rw [B.out]; exact HQ.out) A.out).symm, below_next HB.out hb⟩
      | false =>
        rw [hq] at hcall
        have HCALL := Lib.hid hcall; clear hcall
        have HQ := Lib.hid hq; clear hq
        go_wp2_with (go_at_fn g; refine (HCALL.out _ HB.out).mono ?_; rintro e w' ⟨rfl, hb⟩)
        go_roundg (n - (kk + 1))
        case measure => omega
        case rel =>
          refine ⟨kk + 1, by omega, by omega, by go_num, below_next HB.out hb, fun j hj => ?_⟩
          by_cases e : j = kk
          · subst e
            rw [B.out]; exact HQ.out
          · exact A.out j (by omega)
    · have hltz : ¬ (kk : Int) < (n : Int) := by omega
      obtain rfl : kk = n := by omega
      go_wp2
      go_ret
      exact ⟨ret_i64 (fidx_miss p 0 zs (by have := HN.out; intro j hj; exact A.out j (by omega))).symm, HB.out⟩

theorem contains_byte (g : Nat) (lb : Array Value) (p : UInt8 → Bool) (eg : ∀ args w, (callFunc g args).run Tryd.prog w = .ok (.enter g args) w) (b off n c : Nat) (zs : List UInt8) (w : World)
    (hp : PredB g lb p w) (hn : zs.length = n) (hbig : n ≤ 9223372036854775807) (hc : ∀ j, j < n → w.cell? ⟨b, off + j, none⟩ = some (.int .u8 (zs.getD j 0).toNat)) :
    Calls Tryd.prog 77 #[.slice (some ⟨b, off, none⟩) n c, .func (.func g) #[] lb] w fun e w' => e = .returned (.bool (zs.any p)) ∧ Below w.heap.size w w' := by
  have H := Lib.hid (index_byte g lb p eg b off n c zs w hp hn hbig hc)
  clear hp hn hc
  go_enter Tryd.func77, Tryd.ntmps77
  go_wp2_with (go_at_call 98; refine H.out.mono ?_; rintro e w' ⟨rfl, hb⟩)
  go_ret
  exact ⟨ret_bool (fidx_any p zs), hb⟩

/-- '[]byte(s)', asked whether one of its bytes is such -/
theorem contains_conv (g : Nat) (lb : Array Value) (p : UInt8 → Bool) (eg : ∀ args w, (callFunc g args).run Tryd.prog w = .ok (.enter g args) w) (s : ByteArray) (w W : World) (m c : Nat)
    (hm : w.heap.size = m) (hw : Below W.heap.size W w) (hp : PredB g lb p W) (hs : s.size ≤ 9223372036854775807) :
    Calls Tryd.prog 77 #[.slice (some ⟨m, 0, none⟩) s.size c, .func (.func g) #[] lb] (Lib.bytesWorld w 5 s) fun e w' => e = .returned (.bool (s.data.toList.any p)) ∧ Below W.heap.size W w' := by
  subst hm
  refine (contains_byte g lb p eg w.heap.size 0 s.size c s.data.toList _ (hp.later (below_bytes hw _ s)) (size_toList s) hs (fun j hj => ?_)).mono fun e w' ⟨he, hb⟩ => ⟨he, below_next (below_bytes hw _ s) hb⟩
  rw [Nat.zero_add]
  exact Lib.bytesWorld_cell w _ s j hj

theorem all_1 (g : Nat) (lb : Array Value) (p : UInt8 → Bool) (eg : ∀ args w, (callFunc g args).run Tryd.prog w = .ok (.enter g args) w) (B : Nat) (w : World)
    (hp : PredB g lb p w) (hB : B < w.heap.size) (hc : w.cell? ⟨B, 0, none⟩ = some (.func (.func g) #[] lb)) : PredB 85 #[.pointer (some ⟨B, 0, none⟩)] (fun c => !p c) w := by
  intro W c hb
  have hc' : W.cell? ⟨B, 0, none⟩ = some (.func (.func g) #[] lb) := (hb.cell (p := ⟨B, 0, none⟩) hB).trans hc
  clear hc
  have HP := Lib.hid (fun W1 h1 => hp W1 c (below_next hb h1)); clear hp hb
  cases hq : p c with
  | _ =>
    rw [hq] at HP
    have HQ := Lib.hid hq; clear hq
    go_enter Tryd.func85, Tryd.ntmps85
    go_wp2_with (go_at_fn g; refine (HP.out _ (Below.refl _ _)).mono ?_; rintro e w' ⟨rfl, hb1⟩)
    go_ret
    exact ⟨ret_bool (by rw [HQ.out]; rfl), hb1⟩

theorem cell_box (w : World) (v : Value) (t : TypeId) : (w.alloc (.cells #[v] t)).cell? ⟨w.heap.size, 0, none⟩ = some v := by go_simp
theorem all_any (g : Nat) (lb : Array Value) (p : UInt8 → Bool) (eg : ∀ args w, (callFunc g args).run Tryd.prog w = .ok (.enter g args) w) (s : ByteArray) (w : World)
    (hp : PredB g lb p w) (hs : s.size ≤ 9223372036854775807) :
    Calls Tryd.prog 56 #[.string s, .func (.func g) #[] lb] w fun e w' => e = .returned (.bool (s.data.toList.all p)) ∧ Below w.heap.size w w' := by
  have hcv := fun w => Lib.run_convert_string_bytes (P := Tryd.prog) w 9 41 5 s Tryd.underlying9 Tryd.underlying41 Tryd.underlying5
  have e1 : ∀ args w, (callFunc 85 args).run Tryd.prog w = .ok (.enter 85 args) w := enters_of Tryd.func85 (by kernel_rfl) rfl
  have hb0 : Below w.heap.size w (w.alloc (.cells #[.func (.func g) #[] lb] 66)) := below_alc (Below.refl _ _) _
  have hp1 := all_1 g lb p eg w.heap.size (w.alloc (.cells #[.func (.func g) #[] lb] 66)) (hp.later hb0) (by simp) (cell_box _ _ _)
  have hc := fun c => contains_conv _ _ _ e1 s _ _ (w.heap.size + 1) c (by simp) (Below.refl _ _) hp1 hs
  generalize hr : (s.data.toList.any fun c => !p c) = r at hc
  have HR := Lib.hid hr; clear hr
  have HC := Lib.hid hc; clear hc
  have HB := Lib.hid hb0
  clear hp hp1 hb0 e1
  go_enter Tryd.func56, Tryd.ntmps56
  go_wp2_with (go_at_call 77; refine (HC.out _).mono ?_; rintro e w' ⟨rfl, hb⟩)
  go_ret
  refine ⟨ret_bool ?_, below_next HB.out hb⟩
  rw [← HR.out, List.not_any_eq_all_not]
  simp
end Go.Proofs.YtjdlaofeenblkaaDoor.T

/- For contracts written by hand in the print's form: small lemmas. -/
namespace Go.Proofs.YtjdlaofeenblkaaDoor.X
open Go.RowKit Go.Proofs.YtjdlaofeenblkaaDoorW.PrintWords Go.Proofs.YtjdlaofeenblkaaDoor.T
set_option linter.unusedVariables false
theorem of_lim {α : Type} {c : Prop} [Decidable c] {x r : α} (h : (if c then some x else none) = some r) : c ∧ x = r := by
  by_cases hc : c
  · rw [if_pos hc] at h; exact ⟨hc, Option.some.inj h⟩
  · rw [if_neg hc] at h; cases h
theorem drawn_same {w w' : World} (h : w' = w) : Drawn0 w w' := by subst h; exact Drawn0.refl _
theorem drawn_of {w w' : World} (h : ∃ n, w' = w.drewN n) : Drawn0 w w' := ⟨h⟩
theorem below_grow (w : World) (os : Array Obj) : Below w.heap.size w (Go.Sort.grow w os) :=
  ⟨rfl, rfl, rfl, by show w.heap.size ≤ (w.heap ++ os).size; rw [Array.size_append]; omega, fun j hj => by show (w.heap ++ os)[j]? = w.heap[j]?; rw [Array.getElem?_append_left hj]⟩
theorem below_drewgrow {w w' : World} (h : ∃ k os, w' = Go.Sort.grow (w.drewN k) os) : Below w.heap.size w w' := by
  obtain ⟨k, os, rfl⟩ := h
  exact below_next (below_drewN0 w k) (below_grow _ os)
theorem below_same {w w' : World} (h : w' = w) : Below w.heap.size w w' := by subst h; exact Below.refl _ _

/-- an address at which a cell lies, as a block and a place -/
theorem addr_plain {w : World} {ad : Addr} {u : Value} (h : w.cell? ad = some u) : ad = ⟨ad.block, ad.off, none⟩ := by
  cases ad with
  | mk b o s =>
    cases s with
    | none => rfl
    | some x =>
      unfold World.cell? at h
      simp at h
      split at h <;> simp_all
theorem add_mk (b o k : Nat) : (⟨b, o, none⟩ : Addr).add k = ⟨b, o + k, none⟩ := by unfold Addr.add; split <;> simp_all
/-- a slice that is read: where it lies, and its cells -/
theorem C_cells {α : Type} {d : Kd α} {w : World} {A : Option Addr} {n : Nat} {xs : List α} (z : α) (h : Kd.C d w A n xs) (hn : 0 < n) (hd : 0 < d.sz) :
    ∃ b off, A = some ⟨b, off, none⟩ ∧ ∀ i, i < n → ∃ c, c.length = d.sz ∧ d.K w (xs.getD i z) c ∧ ∀ j u, c[j]? = some u → w.cell? ⟨b, off + (i * d.sz + j), none⟩ = some u := by
  obtain ⟨ad, c, e, hl, hK, hc⟩ := Kd.C_get h z 0 (by omega) (by omega)
  have hp : ad = ⟨ad.block, ad.off, none⟩ := by
    obtain ⟨u, hu⟩ : ∃ u, c[0]? = some u := ⟨c[0]'(by omega), List.getElem?_eq_getElem (by omega)⟩
    exact addr_plain (by have := hc 0 u hu; simpa [Addr.add] using this)
  refine ⟨ad.block, ad.off, by rw [e, ← hp], fun i hi => ?_⟩
  obtain ⟨ad2, c2, e2, hl2, hK2, hc2⟩ := Kd.C_get h z i (by omega) (by omega)
  have : ad2 = ad := by rw [e] at e2; injection e2 with e2; exact e2.symm
  subst this
  refine ⟨c2, hl2, by simpa using hK2, fun j u hj => ?_⟩
  have := hc2 j u hj
  rw [hp, add_mk] at this
  simpa using this
theorem C_strings {w : World} {A : Option Addr} {n : Nat} {l : List ByteArray} (h : Kd.C Kd.string w A n l) (hn : 0 < n) :
    ∃ b off, A = some ⟨b, off, none⟩ ∧ ∀ j, j < n → w.cell? ⟨b, off + j, none⟩ = some (.string (l.getD j ByteArray.empty)) := by
  obtain ⟨b, off, e, hc⟩ := C_cells ByteArray.empty h hn (by decide)
  refine ⟨b, off, e, fun j hj => ?_⟩
  obtain ⟨c, _, hK, hcc⟩ := hc j hj
  obtain rfl : c = [.string (l.getD j ByteArray.empty)] := hK
  have := hcc 0 _ rfl
  simpa [Kd.string, Kd.scalar] using this
end Go.Proofs.YtjdlaofeenblkaaDoor.X

/- What an argument reads as, as the print's kinds tell it; and how much it holds. -/
namespace Go.Proofs.YtjdlaofeenblkaaDoor.X
open Go.RowKit Go.Proofs.YtjdlaofeenblkaaDoorW.PrintWords Go.Proofs.YtjdlaofeenblkaaDoor.T Go.ChangeShapes Go.WideShapes Go.Deep Go.ChangeAt
set_option linter.unusedVariables false
set_option linter.unusedSimpArgs false
/-- A value of type T: its cells are of kind d, and it is good: its sizes are at most its bulk. -/
def Opens {α : Type} (T : TypeId) (d : Kd α) (good : Nat → α → Prop) : Prop :=
  ∀ (H : Type) (enc : TypeId × Value → H) (w : World) (spare : Nat → Bool) (held : Bool) (fuel : Nat) (cs : List Value) (x : DataW H × List MemPlace),
    DataW.trod enc Tryd.prog w 0 spare held fuel T cs = some x → ∃ a : α, d.K w a cs ∧ ∀ B, Rows.uptoBulk x.1 ≤ B → good B a
theorem one_le {H : Type} (d : DataW H) : 1 ≤ Rows.uptoBulk d := by
  cases d with
  | lit l => cases l <;> simp [Rows.uptoBulk]
  | nil => simp [Rows.uptoBulk]
  | ptr d => simp [Rows.uptoBulk]
  | slice elems spare => simp [Rows.uptoBulk]
  | agg parts => simp [Rows.uptoBulk]
  | iface t d => simp [Rows.uptoBulk]
  | map entries => simp [Rows.uptoBulk]
  | held h => simp [Rows.uptoBulk]
theorem part_le {H : Type} {d : DataW H} {l : List (DataW H)} (h : d ∈ l) : Rows.uptoBulk d ≤ Rows.uptoBulkAll l := by
  induction l with
  | nil => cases h
  | cons x r ih =>
    simp only [Rows.uptoBulkAll]
    cases List.mem_cons.1 h with
    | inl e => subst e; omega
    | inr e => have := ih e; omega
theorem length_le {H : Type} (l : List (DataW H)) : l.length ≤ Rows.uptoBulkAll l := by
  induction l with
  | nil => simp [Rows.uptoBulkAll]
  | cons x r ih => have := one_le x; simp only [Rows.uptoBulkAll, List.length_cons]; omega
def goodI (k : IntKind) (_ : Nat) (n : Int) : Prop := (Lit.int k n).wf = true
def goodB (_ : Nat) (_ : Bool) : Prop := True
def goodS (B : Nat) (s : ByteArray) : Prop := s.size ≤ B
def goodL {α : Type} (g : Nat → α → Prop) (B : Nat) (l : List α) : Prop := l.length ≤ B ∧ ∀ x ∈ l, g B x
theorem opens_int {T : TypeId} {k : IntKind} (h : Tryd.prog.underlying T = some (.int k)) : Opens T (Kd.int k) (goodI k) := by
  intro H enc w spare held fuel cs x hx
  obtain ⟨n, rfl, rfl, hw⟩ := DataW.trod_int h hx
  exact ⟨n, rfl, fun B _ => hw⟩
theorem opens_bool {T : TypeId} (h : Tryd.prog.underlying T = some .bool) : Opens T Kd.bool goodB := by
  intro H enc w spare held fuel cs x hx
  obtain ⟨n, rfl, rfl⟩ := DataW.trod_bool h hx
  exact ⟨n, rfl, fun B _ => trivial⟩
theorem opens_string {T : TypeId} (h : Tryd.prog.underlying T = some .string) : Opens T Kd.string goodS := by
  intro H enc w spare held fuel cs x hx
  obtain ⟨n, rfl, rfl, hw⟩ := DataW.trod_string h hx
  refine ⟨n, rfl, fun B hB => ?_⟩
  simp [Rows.uptoBulk] at hB
  unfold goodS
  have : n.data.size = n.size := rfl
  omega
theorem list_choose {α : Type} {p : Nat → α → Prop} : ∀ (n : Nat), (∀ i, i < n → ∃ x, p i x) → ∃ l : List α, l.length = n ∧ ∀ i x, l[i]? = some x → p i x
  | 0, _ => ⟨[], rfl, fun i x h => by simp at h⟩
  | n + 1, h => by
    obtain ⟨l, hl, hp⟩ := list_choose n (fun i hi => h i (by omega))
    obtain ⟨x, hx⟩ := h n (by omega)
    refine ⟨l ++ [x], by simp [hl], fun i y hy => ?_⟩
    rcases Nat.lt_or_ge i l.length with hi | hi
    · rw [List.getElem?_append_left hi] at hy
      exact hp i y hy
    · rw [List.getElem?_append_right hi] at hy
      have : i - l.length = 0 := by
        have := (List.getElem?_eq_some_iff.1 hy).1
        simp at this; omega
      rw [this] at hy
      have e : i = n := by omega
      simp at hy
      subst hy e
      exact hx
theorem opens_slice {α : Type} {T e : TypeId} {d : Kd α} {g : Nat → α → Prop} (ht : Tryd.prog.underlying T = some (.slice e)) (hc : Tryd.prog.cellsOf e = d.sz) (hd : Opens e d g) : Opens T (Kd.slice e d) (goodL g) := by
  intro H enc w spare held fuel cs x hx
  rcases Go.Deep.open_slice ht hx with ⟨rfl, rfl⟩ | ⟨a, len, cap, m, n, D, Pl, rfl, hb, hl, hm, hmm, rfl, hi⟩
  · refine ⟨[], ⟨none, 0, rfl, Nat.le_refl _, rfl, Nat.zero_le _, fun h => absurd h (Nat.lt_irrefl 0)⟩, fun B hB => ⟨Nat.zero_le _, fun x hx => by cases hx⟩⟩
  · have hlm : len ≤ m := by rw [hmm]; split <;> omega
    have each : ∀ i, i < len → ∃ y : α, (∃ c, c.length = d.sz ∧ d.K w y c ∧ ∀ j u, c[j]? = some u → w.cell? (a.add (i * d.sz + j)) = some u) ∧ ∀ B, Rows.uptoBulk (D i) ≤ B → g B y := by
      intro i him
      obtain ⟨cs', h1, h2⟩ := hi i (by omega)
      obtain ⟨y, hy, hg⟩ := hd H enc w spare held n cs' _ h2
      rw [hc] at h1
      obtain ⟨_, hcl, hat⟩ := World.cells?_some h1
      refine ⟨y, ⟨cs', hcl, hy, fun j u hj => ?_⟩, hg⟩
      have hjl : j < d.sz := by rw [← hcl]; exact (List.getElem?_eq_some_iff.1 hj).1
      rw [← Go.Deep.add_add, hat j hjl, hj]
    obtain ⟨l, hll, hp⟩ := list_choose len each
    have hm2 : len ≤ 9223372036854775807 := by unfold maxLen at hm; omega
    refine ⟨l, ⟨some a, cap, by rw [hll], by rw [hll]; exact hl, rfl, by rw [hll]; exact hm2, fun _ => ⟨a, rfl, fun j p hj => (hp j p hj).1⟩⟩, fun B hB => ?_⟩
    simp only [Rows.uptoBulk] at hB
    refine ⟨?_, fun x hx => ?_⟩
    · have := length_le ((List.range len).map D)
      rw [List.length_map, List.length_range] at this
      omega
    · obtain ⟨i, hi', rfl⟩ := List.getElem_of_mem hx
      have hb1 : Rows.uptoBulk (D i) ≤ Rows.uptoBulkAll ((List.range len).map D) := part_le (List.mem_map.2 ⟨i, List.mem_range.2 (by omega), rfl⟩)
      exact (hp i _ (List.getElem?_eq_getElem hi')).2 B (by omega)
theorem len_1 {α : Type} {l : List α} (h : l.length = 1) : ∃ c0, l = [c0] := by
  match l, h with
  | [c0], _ => exact ⟨c0, rfl⟩
theorem len_2 {α : Type} {l : List α} (h : l.length = 2) : ∃ c0 c1, l = [c0, c1] := by
  match l, h with
  | [c0, c1], _ => exact ⟨c0, c1, rfl⟩
theorem len_3 {α : Type} {l : List α} (h : l.length = 3) : ∃ c0 c1 c2, l = [c0, c1, c2] := by
  match l, h with
  | [c0, c1, c2], _ => exact ⟨c0, c1, c2, rfl⟩
theorem len_4 {α : Type} {l : List α} (h : l.length = 4) : ∃ c0 c1 c2 c3, l = [c0, c1, c2, c3] := by
  match l, h with
  | [c0, c1, c2, c3], _ => exact ⟨c0, c1, c2, c3, rfl⟩
theorem len_5 {α : Type} {l : List α} (h : l.length = 5) : ∃ c0 c1 c2 c3 c4, l = [c0, c1, c2, c3, c4] := by
  match l, h with
  | [c0, c1, c2, c3, c4], _ => exact ⟨c0, c1, c2, c3, c4, rfl⟩
theorem len_6 {α : Type} {l : List α} (h : l.length = 6) : ∃ c0 c1 c2 c3 c4 c5, l = [c0, c1, c2, c3, c4, c5] := by
  match l, h with
  | [c0, c1, c2, c3, c4, c5], _ => exact ⟨c0, c1, c2, c3, c4, c5, rfl⟩
theorem len_7 {α : Type} {l : List α} (h : l.length = 7) : ∃ c0 c1 c2 c3 c4 c5 c6, l = [c0, c1, c2, c3, c4, c5, c6] := by
  match l, h with
  | [c0, c1, c2, c3, c4, c5, c6], _ => exact ⟨c0, c1, c2, c3, c4, c5, c6, rfl⟩
theorem len_8 {α : Type} {l : List α} (h : l.length = 8) : ∃ c0 c1 c2 c3 c4 c5 c6 c7, l = [c0, c1, c2, c3, c4, c5, c6, c7] := by
  match l, h with
  | [c0, c1, c2, c3, c4, c5, c6, c7], _ => exact ⟨c0, c1, c2, c3, c4, c5, c6, c7, rfl⟩
theorem len_9 {α : Type} {l : List α} (h : l.length = 9) : ∃ c0 c1 c2 c3 c4 c5 c6 c7 c8, l = [c0, c1, c2, c3, c4, c5, c6, c7, c8] := by
  match l, h with
  | [c0, c1, c2, c3, c4, c5, c6, c7, c8], _ => exact ⟨c0, c1, c2, c3, c4, c5, c6, c7, c8, rfl⟩
theorem len_10 {α : Type} {l : List α} (h : l.length = 10) : ∃ c0 c1 c2 c3 c4 c5 c6 c7 c8 c9, l = [c0, c1, c2, c3, c4, c5, c6, c7, c8, c9] := by
  match l, h with
  | [c0, c1, c2, c3, c4, c5, c6, c7, c8, c9], _ => exact ⟨c0, c1, c2, c3, c4, c5, c6, c7, c8, c9, rfl⟩
theorem len_11 {α : Type} {l : List α} (h : l.length = 11) : ∃ c0 c1 c2 c3 c4 c5 c6 c7 c8 c9 c10, l = [c0, c1, c2, c3, c4, c5, c6, c7, c8, c9, c10] := by
  match l, h with
  | [c0, c1, c2, c3, c4, c5, c6, c7, c8, c9, c10], _ => exact ⟨c0, c1, c2, c3, c4, c5, c6, c7, c8, c9, c10, rfl⟩
theorem len_12 {α : Type} {l : List α} (h : l.length = 12) : ∃ c0 c1 c2 c3 c4 c5 c6 c7 c8 c9 c10 c11, l = [c0, c1, c2, c3, c4, c5, c6, c7, c8, c9, c10, c11] := by
  match l, h with
  | [c0, c1, c2, c3, c4, c5, c6, c7, c8, c9, c10, c11], _ => exact ⟨c0, c1, c2, c3, c4, c5, c6, c7, c8, c9, c10, c11, rfl⟩
theorem len_13 {α : Type} {l : List α} (h : l.length = 13) : ∃ c0 c1 c2 c3 c4 c5 c6 c7 c8 c9 c10 c11 c12, l = [c0, c1, c2, c3, c4, c5, c6, c7, c8, c9, c10, c11, c12] := by
  match l, h with
  | [c0, c1, c2, c3, c4, c5, c6, c7, c8, c9, c10, c11, c12], _ => exact ⟨c0, c1, c2, c3, c4, c5, c6, c7, c8, c9, c10, c11, c12, rfl⟩
theorem len_14 {α : Type} {l : List α} (h : l.length = 14) : ∃ c0 c1 c2 c3 c4 c5 c6 c7 c8 c9 c10 c11 c12 c13, l = [c0, c1, c2, c3, c4, c5, c6, c7, c8, c9, c10, c11, c12, c13] := by
  match l, h with
  | [c0, c1, c2, c3, c4, c5, c6, c7, c8, c9, c10, c11, c12, c13], _ => exact ⟨c0, c1, c2, c3, c4, c5, c6, c7, c8, c9, c10, c11, c12, c13, rfl⟩
theorem len_15 {α : Type} {l : List α} (h : l.length = 15) : ∃ c0 c1 c2 c3 c4 c5 c6 c7 c8 c9 c10 c11 c12 c13 c14, l = [c0, c1, c2, c3, c4, c5, c6, c7, c8, c9, c10, c11, c12, c13, c14] := by
  match l, h with
  | [c0, c1, c2, c3, c4, c5, c6, c7, c8, c9, c10, c11, c12, c13, c14], _ => exact ⟨c0, c1, c2, c3, c4, c5, c6, c7, c8, c9, c10, c11, c12, c13, c14, rfl⟩
theorem len_16 {α : Type} {l : List α} (h : l.length = 16) : ∃ c0 c1 c2 c3 c4 c5 c6 c7 c8 c9 c10 c11 c12 c13 c14 c15, l = [c0, c1, c2, c3, c4, c5, c6, c7, c8, c9, c10, c11, c12, c13, c14, c15] := by
  match l, h with
  | [c0, c1, c2, c3, c4, c5, c6, c7, c8, c9, c10, c11, c12, c13, c14, c15], _ => exact ⟨c0, c1, c2, c3, c4, c5, c6, c7, c8, c9, c10, c11, c12, c13, c14, c15, rfl⟩
theorem len_17 {α : Type} {l : List α} (h : l.length = 17) : ∃ c0 c1 c2 c3 c4 c5 c6 c7 c8 c9 c10 c11 c12 c13 c14 c15 c16, l = [c0, c1, c2, c3, c4, c5, c6, c7, c8, c9, c10, c11, c12, c13, c14, c15, c16] := by
  match l, h with
  | [c0, c1, c2, c3, c4, c5, c6, c7, c8, c9, c10, c11, c12, c13, c14, c15, c16], _ => exact ⟨c0, c1, c2, c3, c4, c5, c6, c7, c8, c9, c10, c11, c12, c13, c14, c15, c16, rfl⟩
end Go.Proofs.YtjdlaofeenblkaaDoor.X

/- How arguments of the program's own struct types read. -/
namespace Go.Proofs.YtjdlaofeenblkaaDoor.X
open Go.RowKit Go.Proofs.YtjdlaofeenblkaaDoorW.PrintWords Go.Proofs.YtjdlaofeenblkaaDoor.T Go.ChangeShapes Go.WideShapes Go.Deep Go.ChangeAt
set_option linter.unusedVariables false
set_option linter.unusedSimpArgs false
def good_url (B : Nat) (x : S35) : Prop := goodS B x.f0 ∧ (goodI .i64) B x.f1 ∧ goodS B x.f2
theorem opens_url : Opens 35 k35 good_url := by
  intro H enc w spare held fuel cs x hx
  obtain ⟨xs, n, _, rfl, hcl, hxl, hf⟩ := DataW.trod_struct Tryd.underlying35 hx
  have hC : Tryd.prog.cellsOf 35 = 3 := by kernel_rfl
  rw [hC] at hcl
  have hxl2 : xs.length = 3 := hxl
  clear hxl
  obtain ⟨c0, c1, c2, rfl⟩ := len_3 hcl
  obtain ⟨y0, y1, y2, rfl⟩ := len_3 hxl2
  have k0 : Tryd.prog.cellsOf 9 = 1 := by kernel_rfl
  have h0 : DataW.trod enc Tryd.prog w 0 spare held n 9 (([c0, c1, c2].drop 0).take (Tryd.prog.cellsOf 9)) = some y0 := hf 0 _ rfl
  rw [k0] at h0
  obtain ⟨a0, K0, g0⟩ := (opens_string Tryd.underlying9) H enc w spare held n [c0] _ h0
  have k1 : Tryd.prog.cellsOf 3 = 1 := by kernel_rfl
  have h1 : DataW.trod enc Tryd.prog w 0 spare held n 3 (([c0, c1, c2].drop 1).take (Tryd.prog.cellsOf 3)) = some y1 := hf 1 _ rfl
  rw [k1] at h1
  obtain ⟨a1, K1, g1⟩ := (opens_int Tryd.underlying3) H enc w spare held n [c1] _ h1
  have k2 : Tryd.prog.cellsOf 9 = 1 := by kernel_rfl
  have h2 : DataW.trod enc Tryd.prog w 0 spare held n 9 (([c0, c1, c2].drop 2).take (Tryd.prog.cellsOf 9)) = some y2 := hf 2 _ rfl
  rw [k2] at h2
  obtain ⟨a2, K2, g2⟩ := (opens_string Tryd.underlying9) H enc w spare held n [c2] _ h2
  have e0 := K0; simp only [Kd.int, Kd.bool, Kd.string, Kd.scalar] at e0; injection e0 with e0 _; subst e0
  have e1 := K1; simp only [Kd.int, Kd.bool, Kd.string, Kd.scalar] at e1; injection e1 with e1 _; subst e1
  have e2 := K2; simp only [Kd.int, Kd.bool, Kd.string, Kd.scalar] at e2; injection e2 with e2 _; subst e2
  refine ⟨⟨a0, a1, a2⟩, ?_, fun B hB => ?_⟩
  · exact k35_mk w _ 
  · simp only [List.map_cons, List.map_nil, Rows.uptoBulk, Rows.uptoBulkAll] at hB
    exact ⟨g0 B (by omega), g1 B (by omega), g2 B (by omega)⟩
end Go.Proofs.YtjdlaofeenblkaaDoor.X

/- With rounds enough, a printed function tells a value: how that is put together; and what a byte string's places hold. -/
namespace Go.Proofs.YtjdlaofeenblkaaDoor.X
open Go.RowKit Go.Proofs.YtjdlaofeenblkaaDoorW.PrintWords Go.Proofs.YtjdlaofeenblkaaDoor.T
set_option linter.unusedSimpArgs false
set_option linter.unusedVariables false
/-- With rounds enough f tells r. -/
def Ev {α : Type} (f : Nat → Option α) (r : α) : Prop := ∃ K, ∀ k, K ≤ k → f k = some r
theorem Ev.const {α : Type} {f : Nat → Option α} {r : α} (h : ∀ k, f k = some r) : Ev f r := ⟨0, fun k _ => h k⟩
theorem Ev.done {α : Type} {f : Nat → Option α} {r : α} (h : ∀ k, f (k + 1) = some r) : Ev f r := ⟨1, fun k hk => by obtain ⟨j, rfl⟩ : ∃ j, k = j + 1 := ⟨k - 1, by omega⟩; exact h j⟩
theorem Ev.step {α : Type} {f g : Nat → Option α} {r : α} (h : ∀ k, f (k + 1) = g k) (hg : Ev g r) : Ev f r := by
  obtain ⟨K, hK⟩ := hg
  refine ⟨K + 1, fun k hk => ?_⟩
  obtain ⟨j, rfl⟩ : ∃ j, k = j + 1 := ⟨k - 1, by omega⟩
  rw [h j]; exact hK j (by omega)
theorem Ev.same {α : Type} {f g : Nat → Option α} {r : α} (h : ∀ k, f k = g k) (hg : Ev g r) : Ev f r := by
  obtain ⟨K, hK⟩ := hg
  exact ⟨K, fun k hk => by rw [h k]; exact hK k hk⟩
theorem Ev.bind {α β : Type} {f : Nat → Option α} {g : Nat → α → Option β} {a : α} {r : β} (hf : Ev f a) (hg : Ev (fun k => g k a) r) : Ev (fun k => (f k).bind (g k)) r := by
  obtain ⟨K, hK⟩ := hf
  obtain ⟨L, hL⟩ := hg
  refine ⟨max K L, fun k hk => ?_⟩
  show (f k).bind (g k) = _
  rw [hK k (by omega)]
  exact hL k (by omega)
theorem Ev.stepBind {α β : Type} {F : Nat → Option β} {f : Nat → Option α} {g : Nat → α → Option β} {a : α} {r : β} (h : ∀ k, F (k + 1) = (f k).bind (g k)) (hf : Ev f a) (hg : Ev (fun k => g k a) r) : Ev F r := Ev.step h (Ev.bind hf hg)
theorem Ev.of_mono {α : Type} {f : Nat → Option α} {r : α} (hm : ∀ k, LeO (f k) (f (k + 1))) {K : Nat} (h : f K = some r) : Ev f r := by
  refine ⟨K, fun k hk => ?_⟩
  obtain ⟨d, rfl⟩ : ∃ d, k = K + d := ⟨k - K, by omega⟩
  clear hk
  induction d with
  | zero => exact h
  | succ d ih => exact hm (K + d) r ih
theorem Ev.get {α : Type} {f : Nat → Option α} {r : α} (h : Ev f r) : ∃ k, f k = some r := by obtain ⟨K, hK⟩ := h; exact ⟨K, hK K (Nat.le_refl _)⟩
theorem wrap_id {n : Int} (h : -9223372036854775808 ≤ n) (h2 : n ≤ 9223372036854775807) : wrap64 n = n := by unfold wrap64; omega
/-! ### a byte string's places -/
theorem btAt {s : ByteArray} {j : Nat} (h : j < s.size) : bt s (j : Int) = ((s[j]'h).toNat : Int) := by
  unfold bt
  rw [dif_pos (by simpa using h)]
  rfl
theorem list_at {s : ByteArray} {j : Nat} (h : j < s.size) : s.data.toList[j]? = some (s[j]'h) := by
  rw [List.getElem?_eq_getElem (by rw [size_toList]; exact h)]
  rfl
theorem bt_is {s : ByteArray} {j : Nat} (h : j < s.size) (c : UInt8) : bt s (j : Int) = (c.toNat : Int) ↔ s.data.toList[j]? = some c := by
  rw [btAt h, list_at h]
  constructor
  · intro e
    have : (s[j]'h).toNat = c.toNat := by omega
    rw [UInt8.toNat_inj.1 this]
  · intro e; rw [Option.some.inj e]
theorem bt_sub {s : ByteArray} {a j : Nat} (h : a + j < s.size) : bt (s.extract a s.size) (j : Int) = bt s ((a + j : Nat) : Int) := by
  have hj : j < (s.extract a s.size).size := by rw [ByteArray.size_extract]; omega
  rw [btAt hj, btAt h, ByteArray.getElem_extract]
theorem drop_at {s : ByteArray} {j : Nat} (h : j < s.size) : s.data.toList.drop j = (s[j]'h) :: s.data.toList.drop (j + 1) := by
  rw [List.drop_eq_getElem_cons (by rw [size_toList]; exact h)]
  rfl
theorem drop_end {s : ByteArray} {j : Nat} (h : s.size ≤ j) : s.data.toList.drop j = [] := List.drop_eq_nil_of_le (by rw [size_toList]; exact h)
end Go.Proofs.YtjdlaofeenblkaaDoor.X

/- The parts of a text between signs: plain. -/
namespace Go.Proofs.YtjdlaofeenblkaaDoor.T
def partsB (c : UInt8) (s : ByteArray) : List ByteArray := Lib.splitB ⟨#[c]⟩ 0 (Lib.countB s ⟨#[c]⟩) s
theorem splitK_size (sep : ByteArray) : ∀ (k : Nat) (s : ByteArray), ∀ x ∈ Lib.splitB sep 0 k s, x.size ≤ s.size
  | 0, s, x, hx => by simp [Lib.splitB] at hx; subst hx; exact Nat.le_refl _
  | k + 1, s, x, hx => by
    unfold Lib.splitB at hx
    split at hx
    · simp at hx; subst hx; exact Nat.le_refl _
    · rcases List.mem_cons.1 hx with rfl | hx
      · rw [ByteArray.size_extract]; omega
      · have := splitK_size sep k _ x hx
        rw [ByteArray.size_extract] at this; omega
theorem parts_size (c : UInt8) (s : ByteArray) : ∀ x ∈ partsB c s, x.size ≤ s.size := splitK_size _ _ s
theorem parts_len (c : UInt8) (s : ByteArray) : (partsB c s).length = Lib.countB s ⟨#[c]⟩ + 1 := Lib.splitB_all ⟨#[c]⟩ (Nat.le_refl _) 0 _ s rfl
theorem parts_le (c : UInt8) (s : ByteArray) : (partsB c s).length ≤ s.size + 1 := by
  rw [parts_len]
  have := Lib.countB_le ⟨#[c]⟩ (Nat.le_refl _) s.size s (Nat.le_refl _)
  omega
end Go.Proofs.YtjdlaofeenblkaaDoor.T

/- Small plain lemmas on bytes and rounds. -/
namespace Go.Proofs.YtjdlaofeenblkaaDoor.X
open Go.RowKit Go.Proofs.YtjdlaofeenblkaaDoorW.PrintWords Go.Proofs.YtjdlaofeenblkaaDoor.T
set_option linter.unusedSimpArgs false
set_option linter.unusedVariables false
theorem wrap_succ {n : Nat} (h : n < 9223372036854775807) : wrap64 ((n : Int) + 1) = ((n + 1 : Nat) : Int) := by unfold wrap64; omega
theorem isDig_iff (c : UInt8) : isDig c = true ↔ (48 ≤ c.toNat ∧ c.toNat ≤ 57) := by
  have h : ∀ n : Fin 256, isDig (UInt8.ofNat n.val) = true ↔ (48 ≤ (UInt8.ofNat n.val).toNat ∧ (UInt8.ofNat n.val).toNat ≤ 57) := by decide +kernel
  have := h ⟨c.toNat, c.toNat_lt⟩
  simpa using this
theorem rd_list (ls : List ByteArray) (i : Nat) (y : ByteArray) (h : ls[i]? = some y) : rdOf ByteArray.empty ls (i : Int) = y := by
  unfold rdOf
  rw [Int.toNat_natCast, List.getD_eq_getElem?_getD, h]; rfl
theorem extract_all (s : ByteArray) : s.extract 0 s.size = s := by simp
theorem toList_app (a b : ByteArray) : (a ++ b).data.toList = a.data.toList ++ b.data.toList := by simp
theorem size_app (a b : ByteArray) : (a ++ b).size = a.size + b.size := by simp
theorem toList_eq (a : ByteArray) : a.toList = a.data.toList := Lib.toList_data a
theorem bytes_mk (s : ByteArray) (l : List UInt8) (h : s.data.toList = l) : s = ⟨l.toArray⟩ := by cases s; subst h; rfl
theorem bytes_ext {a b : ByteArray} (h : a.data.toList = b.data.toList) : a = b := by
  cases a; cases b
  simp only at h
  congr 1
  exact Array.ext' h
/-! ### the parts of a text between signs c -/
theorem sign_index (c : UInt8) (t : ByteArray) {j : Nat} (h : t.data.toList[j]? = some c) (hno : ∀ k, k < j → t.data.toList[k]? ≠ some c) : Lib.indexB t ⟨#[c]⟩ = j := by
  have e : Lib.indexB t ⟨#[c]⟩ = Lib.indexByte t.data.toList c := Lib.index_one _ _
  rw [e]
  rcases Int.lt_or_le (Lib.indexByte t.data.toList c) 0 with hm | hm
  · have h1 := Lib.indexByte_ge t.data.toList c
    exact absurd h (Lib.indexByte_none (by omega) j)
  · obtain ⟨o, ho⟩ : ∃ o : Nat, Lib.indexByte t.data.toList c = o := ⟨(Lib.indexByte t.data.toList c).toNat, by omega⟩
    obtain ⟨p1, p2⟩ := Lib.indexByte_some ho
    rw [ho]
    rcases Nat.lt_trichotomy o j with hlt | rfl | hgt
    · exact absurd p1 (hno o hlt)
    · rfl
    · exact absurd h (p2 j hgt)
theorem sign_none (c : UInt8) (t : ByteArray) (hno : ∀ k : Nat, t.data.toList[k]? ≠ some c) : Lib.indexB t ⟨#[c]⟩ = -1 := by
  have e : Lib.indexB t ⟨#[c]⟩ = Lib.indexByte t.data.toList c := Lib.index_one _ _
  rw [e]
  have h1 := Lib.indexByte_ge t.data.toList c
  rcases Int.lt_or_le (Lib.indexByte t.data.toList c) 0 with hm | hm
  · omega
  · obtain ⟨o, ho⟩ : ∃ o : Nat, Lib.indexByte t.data.toList c = o := ⟨(Lib.indexByte t.data.toList c).toNat, by omega⟩
    exact absurd (Lib.indexByte_some ho).1 (hno o)
theorem parts_no (c : UInt8) (t : ByteArray) (hno : ∀ k : Nat, t.data.toList[k]? ≠ some c) : partsB c t = [t] := Lib.splitB_miss _ _ _ _ (sign_none c t hno)
theorem parts_hit (c : UInt8) (t : ByteArray) (j : Nat) (h : t.data.toList[j]? = some c) (hno : ∀ k, k < j → t.data.toList[k]? ≠ some c) : partsB c t = t.extract 0 j :: partsB c (t.extract (j + 1) t.size) := by
  have hx := sign_index c t h hno
  unfold partsB
  have hz : 1 ≤ (⟨#[c]⟩ : ByteArray).size := Nat.le_refl _
  rw [Lib.countB_hit t ⟨#[c]⟩ j hz hx, Nat.add_comm 1, Lib.splitB_hit _ _ _ _ _ hx]
  rfl
theorem mem_at {α : Type} {l : List α} {c : α} (h : c ∉ l) (k : Nat) : l[k]? ≠ some c := fun e => h (List.mem_of_getElem? e)
theorem parts_one (c : UInt8) (s : ByteArray) (h : c ∉ s.data.toList) : partsB c s = [s] := parts_no c s (fun k => mem_at h k)
theorem parts_cons (c : UInt8) (s : ByteArray) (a b : List UInt8) (hs : s.data.toList = a ++ c :: b) (ha : c ∉ a) : partsB c s = ⟨a.toArray⟩ :: partsB c ⟨b.toArray⟩ := by
  have hz := size_toList s
  rw [parts_hit c s a.length (by rw [hs]; simp) (fun k hk => by rw [hs, List.getElem?_append_left hk]; exact mem_at ha k)]
  have e1 : s.extract 0 a.length = ⟨a.toArray⟩ := bytes_mk _ _ (by rw [Lib.extract_from_zero, hs]; simp)
  have e2 : s.extract (a.length + 1) s.size = ⟨b.toArray⟩ := bytes_mk _ _ (by rw [Lib.extract_to_end, hs, List.drop_append]; simp)
  rw [e1, e2]
/-- what stands ahead of the first c, and behind it -/
theorem split_first (c : UInt8) : ∀ l : List UInt8, c ∈ l → ∃ a b, l = a ++ c :: b ∧ c ∉ a
  | x :: t, h => by
    by_cases e : x = c
    · subst e; exact ⟨[], t, rfl, by simp⟩
    · obtain ⟨a, b, rfl, hn⟩ := split_first c t (by
        rcases List.mem_cons.1 h with h | h
        · exact absurd h.symm e
        · exact h)
      refine ⟨x :: a, b, rfl, fun hm => ?_⟩
      rcases List.mem_cons.1 hm with h | h
      · exact e h.symm
      · exact hn h
theorem split_unique (c : UInt8) : ∀ {a a' b b' : List UInt8}, a ++ c :: b = a' ++ c :: b' → c ∉ a → c ∉ a' → a = a' ∧ b = b'
  | [], [], b, b', h, _, _ => by injection h with _ h; exact ⟨rfl, h⟩
  | [], y :: t, b, b', h, _, hn => by
    injection h with h1 _
    exact absurd (List.mem_cons.2 (.inl h1)) hn
  | x :: t, [], b, b', h, hn, _ => by
    injection h with h1 _
    exact absurd (List.mem_cons.2 (.inl h1.symm)) hn
  | x :: t, y :: u, b, b', h, h1, h2 => by
    injection h with e1 e2
    obtain ⟨r1, r2⟩ := split_unique c e2 (fun hm => h1 (List.mem_cons_of_mem _ hm)) (fun hm => h2 (List.mem_cons_of_mem _ hm))
    exact ⟨by rw [e1, r1], r2⟩
/-- three parts: how they stand -/
theorem parts_three (c : UInt8) (s p0 p1 p2 : ByteArray) (h : partsB c s = [p0, p1, p2]) : s.data.toList = p0.data.toList ++ c :: (p1.data.toList ++ c :: p2.data.toList) ∧ c ∉ p0.data.toList ∧ c ∉ p1.data.toList ∧ c ∉ p2.data.toList := by
  by_cases h0 : c ∈ s.data.toList
  · obtain ⟨a, b, e, ha⟩ := split_first c _ h0
    rw [parts_cons c s a b e ha] at h
    injection h with q0 h
    by_cases h1 : c ∈ b
    · obtain ⟨a1, b1, e1, ha1⟩ := split_first c _ h1
      rw [parts_cons c ⟨b.toArray⟩ a1 b1 e1 ha1] at h
      injection h with q1 h
      by_cases h2 : c ∈ b1
      · obtain ⟨a2, b2, e2, ha2⟩ := split_first c _ h2
        rw [parts_cons c ⟨b1.toArray⟩ a2 b2 e2 ha2] at h
        injection h with _ h
        have := parts_len c ⟨b2.toArray⟩
        rw [h] at this
        simp at this
      · rw [parts_one c ⟨b1.toArray⟩ h2] at h
        injection h with q2 _
        subst q0 q1 q2
        exact ⟨by rw [e]; show a ++ c :: b = _; rw [show b = a1 ++ c :: b1 from e1], ha, ha1, h2⟩
    · rw [parts_one c ⟨b.toArray⟩ h1] at h
      injection h with _ h
      cases h
  · rw [parts_one c s h0] at h
    injection h with _ h
    cases h
theorem dot_prefix (h : ByteArray) : Lib.hasPrefix h.data.toList [46] = (decide (0 < h.size) && bt h 0 == 46) := by
  have hl := size_toList h
  unfold Lib.hasPrefix bt
  by_cases hs : 0 < h.size
  · rw [dif_pos (by simpa using hs)]
    have he : h.data.toList = h[0] :: h.data.toList.tail := by
      cases hd : h.data.toList with
      | nil => rw [hd] at hl; simp at hl; omega
      | cons a t =>
        have : h[0] = h.data.toList[0]'(by rw [hl]; exact hs) := rfl
        simp [this, hd]
    rw [he, decide_eq_true hs]
    show ((46 : UInt8) == h[0] && ([] : List UInt8).isPrefixOf h.data.toList.tail) = _
    have e0 : ([] : List UInt8).isPrefixOf h.data.toList.tail = true := by cases h.data.toList.tail <;> rfl
    rw [e0, Bool.and_true, Bool.true_and, Bool.eq_iff_iff]
    simp only [beq_iff_eq]
    constructor
    · intro e; show ((h[0]).toNat : Int) = 46; rw [← e]; rfl
    · intro e
      have e2 : h[0].toNat = 46 := by have : ((h[0]).toNat : Int) = 46 := e; omega
      exact (UInt8.toNat_inj.1 (by rw [e2]; rfl)).symm
  · have : h.data.toList = [] := List.eq_nil_of_length_eq_zero (by omega)
    rw [this, decide_eq_false hs]
    rfl
end Go.Proofs.YtjdlaofeenblkaaDoor.X

/- strconv.FormatUint at base 10, over this program; turned out of the kit's own proof for FormatInt. -/
namespace Go.Proofs.YtjdlaofeenblkaaDoor.T
open Go.RowKit Go.Sort Go.Lib
set_option linter.unusedVariables false
set_option maxHeartbeats 6400000 in
set_option maxRecDepth 100000 in
theorem formatUint_in (u : Nat) (hu64 : u < 18446744073709551616) (w : World)
    (htab : Lib.TabIs Tryd.prog w "internal/strconv.uint64pow10" .u64 Lib.pow10Tab) :
    Calls Tryd.prog 101 #[.int .u64 u, .int .i64 10] w fun e w' => e = .returned (.string ⟨(Lib.decDigits u).toArray⟩) ∧ ∃ k os, w' = grow (w.drewN k) os := by
  by_cases hs : u < 100
  · go_enter Tryd.func101, Tryd.ntmps101
    go_wp2_with (go_at_call 115; refine (Tryd.internal_strconv_small u hs _).mono ?_; rintro e w' ⟨rfl, rfl⟩)
    go_ret
    exact ⟨rfl, 0, #[], by simp [World.drewN_zero]⟩
  · have hu1 : 1 ≤ u := by omega
    have hnd20 : Lib.nDigits u ≤ 20 := by have := Lib.numDigits_eq u hu1 hu64; split at this <;> omega
    have hb3 : Lib.nDigits u ≤ 23 := by omega
    have hal : Tryd.prog.arrayLen 109 = 24 := by kernel_rfl
    have hsl1 : ∀ W, (Instr.sliceAt 109 (.pointer (some ⟨w.heap.size, 0, none⟩)) none (some (.int .i64 (Lib.nDigits u : Int))) none).run Tryd.prog W = .ok (.slice (some ⟨w.heap.size, 0, none⟩) (Lib.nDigits u) 24) W := fun W => by
      rw [run_sliceAt_array_h W 109 ⟨w.heap.size, 0, none⟩ (by simp [Program.arrayLen, Program.elem, Tryd.underlying109]) .i64 (Lib.nDigits u : Int) (by omega) (by rw [hal]; omega)]
      go_simp
    have hH0 : Holds (fun (b : UInt8) => Value.int .u8 (b.toNat : Int)) (w.alloc (.cells Lib.zeros24 109)) w.heap.size 0 (Array.replicate (Lib.nDigits u) 0) := fun j hj => by
      have hj' : j < Lib.nDigits u := by simpa using hj
      refine ⟨?_, World.frozen?_alloc_new _ _ _ _⟩
      rw [World.cell?_alloc_new, Lib.zeros24_at _ (by omega), getElem!_pos _ j hj]
      simp
    have hfmt := Tryd.internal_strconv_formatBase10 w.heap.size 0 24 u (Array.replicate (Lib.nDigits u) 0) (w.alloc (.cells Lib.zeros24 109)) hH0 (by rw [Array.size_replicate]; exact Lib.lt_pow_nDigits u) hu64 (by rw [Array.size_replicate]; omega)
    rw [Array.size_replicate] at hfmt
    have HH0 := Lib.hid hH0
    clear hH0 hal
    go_enter Tryd.func101, Tryd.ntmps101
    go_wp2_with (first
      | (go_at_call 116; refine (Tryd.internal_strconv_numDigits u hu1 hu64 _ (Lib.tabIs_alloc htab _)).mono ?_; rintro e w' ⟨rfl, rfl⟩))
    go_at_call 117
    refine hfmt.mono ?_
    rintro e w' ⟨rfl, k, v', dk, rfl, hF⟩
    have hcv : (convert 41 9 (.slice (some ⟨w.heap.size, 0, none⟩) (Lib.nDigits u) 24)).run Tryd.prog ((putRow (fun (b : UInt8) => Value.int .u8 (b.toNat : Int)) (w.alloc (.cells Lib.zeros24 109)) w.heap.size 0 dk).drewN k) = .ok (.string ⟨(Lib.decDigits u).toArray⟩) ((putRow (fun (b : UInt8) => Value.int .u8 (b.toNat : Int)) (w.alloc (.cells Lib.zeros24 109)) w.heap.size 0 dk).drewN k) := by
      have h := run_convert_bytes_back (P := Tryd.prog) ((putRow (fun (b : UInt8) => Value.int .u8 (b.toNat : Int)) (w.alloc (.cells Lib.zeros24 109)) w.heap.size 0 dk).drewN k) 41 9 5 ⟨w.heap.size, 0, none⟩ 24 (Lib.decDigits u) Tryd.underlying41 Tryd.underlying5 Tryd.underlying9 (fun j hj => by
        rw [Lib.row_is_numeral hF j hj, Lib.add_plain, World.cell?_drewN]
        exact cell?_putRow (fun (b : UInt8) => Value.int .u8 (b.toNat : Int)) _ w.heap.size 0 _ dk HH0.out (by rw [hF.size, Array.size_replicate]) j (by rw [hF.size]; rw [Lib.decDigits_length] at hj; exact hj))
      rw [Lib.decDigits_length] at h
      exact h
    go_wp2
    go_ret
    refine ⟨rfl, k, ?_⟩
    rw [alloc_eq_grow]
    obtain ⟨os', _, e⟩ := putRow_grow_new (fun (b : UInt8) => Value.int .u8 (b.toNat : Int)) w #[.cells Lib.zeros24 109] w.heap.size 0 dk (Nat.le_refl _)
    exact ⟨os', by rw [e]; rfl⟩
theorem formatUint_any (u : Nat) (hu64 : u < 18446744073709551616) (w : World)
    (htab : Lib.TabIs Tryd.prog w "internal/strconv.uint64pow10" .u64 Lib.pow10Tab) :
    Calls Tryd.prog 84 #[.int .u64 u, .int .i64 10] w fun e w' => e = .returned (.string ⟨(Lib.decDigits u).toArray⟩) ∧ ∃ k os, w' = grow (w.drewN k) os := by
  go_enter Tryd.func84, Tryd.ntmps84
  go_wp2_with (go_at_call 101; refine (formatUint_in u hu64 _ htab).mono ?_; rintro e w' ⟨rfl, k, os, rfl⟩)
  go_ret
  exact ⟨rfl, k, os, rfl⟩
end Go.Proofs.YtjdlaofeenblkaaDoor.T

/- uri.all over this program. -/
namespace Go.Proofs.YtjdlaofeenblkaaDoor.T
open Go.RowKit
set_option linter.unusedSimpArgs false
set_option linter.unusedVariables false
theorem uall_1 (g : Nat) (lb : Array Value) (p : UInt8 → Bool) (eg : ∀ args w, (callFunc g args).run Tryd.prog w = .ok (.enter g args) w) (B : Nat) (w : World)
    (hp : PredB g lb p w) (hB : B < w.heap.size) (hc : w.cell? ⟨B, 0, none⟩ = some (.func (.func g) #[] lb)) : PredB 78 #[.pointer (some ⟨B, 0, none⟩)] (fun c => !p c) w := by
  intro W c hb
  have hc' : W.cell? ⟨B, 0, none⟩ = some (.func (.func g) #[] lb) := (hb.cell (p := ⟨B, 0, none⟩) hB).trans hc
  clear hc
  have HP := Lib.hid (fun W1 h1 => hp W1 c (below_next hb h1)); clear hp hb
  cases hq : p c with
  | _ =>
    rw [hq] at HP
    have HQ := Lib.hid hq; clear hq
    go_enter Tryd.func78, Tryd.ntmps78
    go_wp2_with (go_at_fn g; refine (HP.out _ (Below.refl _ _)).mono ?_; rintro e w' ⟨rfl, hb1⟩)
    go_ret
    exact ⟨ret_bool (by rw [HQ.out]; rfl), hb1⟩

theorem uall_any (g : Nat) (lb : Array Value) (p : UInt8 → Bool) (eg : ∀ args w, (callFunc g args).run Tryd.prog w = .ok (.enter g args) w) (s : ByteArray) (w : World)
    (hp : PredB g lb p w) (hs : s.size ≤ 9223372036854775807) :
    Calls Tryd.prog 49 #[.string s, .func (.func g) #[] lb] w fun e w' => e = .returned (.bool (s.data.toList.all p)) ∧ Below w.heap.size w w' := by
  have hcv := fun w => Lib.run_convert_string_bytes (P := Tryd.prog) w 9 41 5 s Tryd.underlying9 Tryd.underlying41 Tryd.underlying5
  have e1 : ∀ args w, (callFunc 78 args).run Tryd.prog w = .ok (.enter 78 args) w := enters_of Tryd.func78 (by kernel_rfl) rfl
  have hb0 : Below w.heap.size w (w.alloc (.cells #[.func (.func g) #[] lb] 66)) := below_alc (Below.refl _ _) _
  have hp1 := uall_1 g lb p eg w.heap.size (w.alloc (.cells #[.func (.func g) #[] lb] 66)) (hp.later hb0) (by simp) (cell_box _ _ _)
  have hc := fun c => contains_conv _ _ _ e1 s _ _ (w.heap.size + 1) c (by simp) (Below.refl _ _) hp1 hs
  generalize hr : (s.data.toList.any fun c => !p c) = r at hc
  have HR := Lib.hid hr; clear hr
  have HC := Lib.hid hc; clear hc
  have HB := Lib.hid hb0
  clear hp hp1 hb0 e1
  go_enter Tryd.func49, Tryd.ntmps49
  go_wp2_with (go_at_call 77; refine (HC.out _).mono ?_; rintro e w' ⟨rfl, hb⟩)
  go_ret
  refine ⟨ret_bool ?_, below_next HB.out hb⟩
  rw [← HR.out, List.not_any_eq_all_not]
  simp
end Go.Proofs.YtjdlaofeenblkaaDoor.T

/- slices.ContainsFunc on texts over this program. -/
namespace Go.Proofs.YtjdlaofeenblkaaDoor.T
open Go.RowKit
set_option linter.unusedSimpArgs false
set_option linter.unusedVariables false
/-- a function value that tells whether p holds of a text -/
def PredS (g : Nat) (lb : Array Value) (p : ByteArray → Bool) (D : ByteArray → Prop) (w : World) : Prop :=
  ∀ (W : World) (c : ByteArray), Below w.heap.size w W → D c → Calls Tryd.prog g (#[.string c] ++ lb) W fun e w' => e = .returned (.bool (p c)) ∧ Below W.heap.size W w'
theorem PredS.later {g : Nat} {lb : Array Value} {p : ByteArray → Bool} {D : ByteArray → Prop} {w W : World} (h : PredS g lb p D w) (hb : Below w.heap.size w W) : PredS g lb p D W := fun W1 c h1 hd => h W1 c (below_next hb h1) hd

set_option maxHeartbeats 1000000 in
theorem index_string (g : Nat) (lb : Array Value) (p : ByteArray → Bool) (D : ByteArray → Prop) (eg : ∀ args w, (callFunc g args).run Tryd.prog w = .ok (.enter g args) w) (b off n c : Nat) (zs : List ByteArray) (w : World)
    (hp : PredS g lb p D w) (hD : ∀ x ∈ zs, D x) (hn : zs.length = n) (hbig : n ≤ 9223372036854775807) (hc : ∀ j, j < n → w.cell? ⟨b, off + j, none⟩ = some (.string (zs.getD j ByteArray.empty))) :
    Calls Tryd.prog 55 #[.slice (some ⟨b, off, none⟩) n c, .func (.func g) #[] lb] w fun e w' => e = .returned (.int .i64 (fidx p zs)) ∧ Below w.heap.size w w' := by
  have HP := Lib.hid hp; clear hp
  have HD := Lib.hid hD; clear hD
  have HN := Lib.hid hn; clear hn
  have HC := Lib.hid hc; clear hc
  go_enter Tryd.func55, Tryd.ntmps55
  go_wp2
  go_loopg [5, 8] n (fun gg _ s8 wr => ∃ kk : Nat, kk ≤ n ∧ n - kk ≤ gg ∧ s8 = .int .i64 kk ∧ Aside (Below w.heap.size w wr) ∧ Aside (∀ j, j < kk → p (zs.getD j ByteArray.empty) = false))
  case atStart => exact ⟨0, Nat.zero_le _, by omega, rfl, Below.refl _ _, fun j hj => absurd hj (Nat.not_lt_zero _)⟩
  case round =>
    obtain ⟨kk, hkk, hg, rfl, HB0, A⟩ := hrel
    have HB : Hid (Below w.heap.size w wr) := Lib.hid HB0.out
    clear HB0
    by_cases hlt : kk < n
    · have hltz : (kk : Int) < (n : Int) := by omega
      have hcell0 := HC.out kk hlt
      have hcell : wr.cell? ⟨b, off + kk, none⟩ = some (.string (zs.getD kk ByteArray.empty)) := (HB.out.cell (World.block_lt_of_cell? w _ hcell0)).trans hcell0
      clear hcell0
      have hdy : D (zs.getD kk ByteArray.empty) := HD.out _ (by
        have := HN.out
        rw [List.getD_eq_getElem?_getD, List.getElem?_eq_getElem (by omega)]
        exact List.getElem_mem _)
      generalize hy : zs.getD kk ByteArray.empty = y at hcell hdy
      have B : Hid (zs.getD kk ByteArray.empty = y) := Lib.hid hy
      clear hy
      have hcall := fun W hb => HP.out W y hb hdy
      clear hdy
      cases hq : p y with
      | true =>
        rw [hq] at hcall
        have HCALL := Lib.hid hcall; clear hcall
        have HQ := Lib.hid hq; clear hq
        go_wp2_with (go_at_fn g; refine (HCALL.out _ HB.out).mono ?_; rintro e w' ⟨rfl, hb⟩)
        go_ret
        exact ⟨ret_i64 (fidx_hit p ByteArray.empty zs kk (by have := HN.out; omega) (by rw [B.out]; exact HQ.out) A.out).symm, below_next HB.out hb⟩
      | false =>
        rw [hq] at hcall
        have HCALL := Lib.hid hcall; clear hcall
        have HQ := Lib.hid hq; clear hq
        go_wp2_with (go_at_fn g; refine (HCALL.out _ HB.out).mono ?_; rintro e w' ⟨rfl, hb⟩)
        go_roundg (n - (kk + 1))
        case measure => omega
        case rel =>
          refine ⟨kk + 1, by omega, by omega, by go_num, below_next HB.out hb, fun j hj => ?_⟩
          by_cases e : j = kk
          · subst e
            rw [B.out]; exact HQ.out
          · exact A.out j (by omega)
    · have hltz : ¬ (kk : Int) < (n : Int) := by omega
      obtain rfl : kk = n := by omega
      go_wp2
      go_ret
      exact ⟨ret_i64 (fidx_miss p ByteArray.empty zs (by have := HN.out; intro j hj; exact A.out j (by omega))).symm, HB.out⟩

theorem contains_string (g : Nat) (lb : Array Value) (p : ByteArray → Bool) (D : ByteArray → Prop) (eg : ∀ args w, (callFunc g args).run Tryd.prog w = .ok (.enter g args) w) (b off n c : Nat) (zs : List ByteArray) (w : World)
    (hp : PredS g lb p D w) (hD : ∀ x ∈ zs, D x) (hn : zs.length = n) (hbig : n ≤ 9223372036854775807) (hc : ∀ j, j < n → w.cell? ⟨b, off + j, none⟩ = some (.string (zs.getD j ByteArray.empty))) :
    Calls Tryd.prog 32 #[.slice (some ⟨b, off, none⟩) n c, .func (.func g) #[] lb] w fun e w' => e = .returned (.bool (zs.any p)) ∧ Below w.heap.size w w' := by
  have H := Lib.hid (index_string g lb p D eg b off n c zs w hp hD hn hbig hc)
  clear hp hD hn hc
  go_enter Tryd.func32, Tryd.ntmps32
  go_wp2_with (go_at_call 55; refine H.out.mono ?_; rintro e w' ⟨rfl, hb⟩)
  go_ret
  exact ⟨ret_bool (fidx_any p zs), hb⟩


theorem index_string_none (A : Option Addr) (c : Nat) (fv : Value) (w : World) :
    Calls Tryd.prog 55 #[.slice A 0 c, fv] w fun e w' => e = .returned (.int .i64 (-1)) ∧ w' = w := by
  go_enter Tryd.func55, Tryd.ntmps55
  go_wp2
  go_loopg [5, 8] 0 (fun _ _ s8 wr => s8 = .int .i64 0 ∧ wr = w)
  case atStart => exact ⟨rfl, rfl⟩
  case round =>
    obtain ⟨rfl, rfl⟩ := hrel
    go_wp2
    go_ret
    exact ⟨rfl, rfl⟩
theorem contains_string_none (A : Option Addr) (c : Nat) (fv : Value) (w : World) :
    Calls Tryd.prog 32 #[.slice A 0 c, fv] w fun e w' => e = .returned (.bool false) ∧ w' = w := by
  go_enter Tryd.func32, Tryd.ntmps32
  go_wp2_with (go_at_call 55; refine (index_string_none _ _ _ _).mono ?_; rintro e w' ⟨rfl, rfl⟩)
  go_ret
  exact ⟨rfl, rfl⟩
/-- the same at whatever slice -/
theorem contains_string_any (g : Nat) (lb : Array Value) (p : ByteArray → Bool) (D : ByteArray → Prop) (eg : ∀ args w, (callFunc g args).run Tryd.prog w = .ok (.enter g args) w) (A : Option Addr) (c : Nat) (zs : List ByteArray) (w : World)
    (hp : PredS g lb p D w) (hD : ∀ x ∈ zs, D x) (hbig : zs.length ≤ 9223372036854775807) (hc : 0 < zs.length → ∃ b off, A = some ⟨b, off, none⟩ ∧ ∀ j, j < zs.length → w.cell? ⟨b, off + j, none⟩ = some (.string (zs.getD j ByteArray.empty))) :
    Calls Tryd.prog 32 #[.slice A zs.length c, .func (.func g) #[] lb] w fun e w' => e = .returned (.bool (zs.any p)) ∧ Below w.heap.size w w' := by
  rcases Nat.eq_zero_or_pos zs.length with h0 | h0
  · obtain rfl := List.eq_nil_of_length_eq_zero h0
    exact (contains_string_none A c _ w).mono fun e w' ⟨he, hw⟩ => ⟨he, by subst hw; exact Below.refl _ _⟩
  · obtain ⟨b, off, rfl, hc2⟩ := hc h0
    exact contains_string g lb p D eg b off zs.length c zs w hp hD rfl hbig hc2
end Go.Proofs.YtjdlaofeenblkaaDoor.T

/- uri.Named over this program, and what it calls. -/
namespace Go.Proofs.YtjdlaofeenblkaaDoor.T
open Go.RowKit
set_option linter.unusedSimpArgs false
set_option linter.unusedVariables false

/-! ### a label that is a number from 0 to 255 -/
def octB (s : ByteArray) : Bool := match Lib.parseUintB 8 s.data.toList with | .ok n => s.data.toList == Lib.decDigits n | _ => false
theorem bytes_eq (s : ByteArray) (l : List UInt8) (h : s.data.toList = l) : s = ⟨l.toArray⟩ := by cases s; subst h; rfl
theorem parse8_ok (s : ByteArray) (hlim : s.size ≤ 281474976710656) (u : Nat) (h : Lib.parseUintB 8 s.data.toList = .ok u) (w : World) :
    Calls Tryd.prog 83 #[.string s, .int .i64 10, .int .i64 8] w fun e w' => e = .returned (.tuple #[.int .u64 u, .nilIface]) ∧ Below w.heap.size w w' := by
  refine (Tryd.strconv_ParseUint_10_at8_ok s (by omega) u h w).mono fun e w' ⟨he, hw⟩ => ⟨he, ?_⟩
  rcases hw with rfl | rfl
  · exact Below.refl _ _
  · exact below_bytes (Below.refl _ _) _ _
theorem parse8_no (s : ByteArray) (hlim : s.size ≤ 281474976710656) (h : ∀ u, Lib.parseUintB 8 s.data.toList ≠ .ok u) (w : World) (hg : Glob w) :
    Calls Tryd.prog 83 #[.string s, .int .i64 10, .int .i64 8] w fun e w' => ∃ (n : Int) (N : Nat), e = .returned (.tuple #[.int .u64 n, .iface 103 (.pointer (some ⟨N, 0, none⟩))]) ∧ Below w.heap.size w w' := by
  rcases hp : Lib.parseUintB 8 s.data.toList with u | _ | _
  · exact absurd hp (h u)
  · obtain ⟨tp, p, hv⟩ := hg.errSyntax
    exact (Any.strconv_ParseUint_10_at8_syntax_var Tryd.laysPu14 s hlim hp tp p w hv).mono fun e w' ⟨N, he, _, _, hb⟩ => ⟨0, N, he, hb⟩
  · obtain ⟨tp, p, hv⟩ := hg.errRange
    exact (Tryd.strconv_ParseUint_10_at8_range_var s hlim hp tp p w hv).mono fun e w' ⟨N, he, _, _, hb⟩ => ⟨255, N, he, hb⟩
theorem oct_some {s : ByteArray} {u : Nat} (h : Lib.parseUintB 8 s.data.toList = .ok u) : octB s = (s.data.toList == Lib.decDigits u) := by unfold octB; rw [h]
theorem oct_none {s : ByteArray} (h : ∀ u, Lib.parseUintB 8 s.data.toList ≠ .ok u) : octB s = false := by
  unfold octB
  cases hp : Lib.parseUintB 8 s.data.toList with
  | ok u => exact absurd hp (h u)
  | _ => rfl
theorem oct_1 (w : World) (hg : Glob w) : PredS 82 #[] (fun s => !octB s) (fun s => s.size ≤ 281474976710656) w := by
  intro W s hb hs
  have HG := Lib.hid (hg.below hb)
  clear hb hg
  by_cases hok : ∃ u, Lib.parseUintB 8 s.data.toList = .ok u
  · obtain ⟨u, hu⟩ := hok
    have HP := Lib.hid (parse8_ok s hs u hu)
    have HO := Lib.hid (oct_some hu)
    have hu64 : u < 18446744073709551616 := by have := Lib.parseUintB_le hu; omega
    clear hu
    go_enter Tryd.func82, Tryd.ntmps82
    go_wp2_with (first
      | (go_at_call 83; refine (HP.out _).mono ?_; rintro e w1 ⟨rfl, hb1⟩; have HB1 := Lib.hid hb1; clear hb1)
      | (go_at_call 84; refine (formatUint_any u hu64 _ ((HG.out.below HB1.out).pow10)).mono ?_; rintro e w2 ⟨rfl, hb2⟩; have HB2 := Lib.hid hb2; clear hb2))
    go_ret
    refine ⟨ret_bool ?_, below_next HB1.out (below_grw HB2.out)⟩
    rw [HO.out, ← Lib.toList_data s, Bool.beq_comm]
  · have hno : ∀ u, Lib.parseUintB 8 s.data.toList ≠ .ok u := fun u h => hok ⟨u, h⟩
    have HP := Lib.hid (fun W => parse8_no s hs hno W)
    have HO := Lib.hid (oct_none hno)
    clear hok hno
    go_enter Tryd.func82, Tryd.ntmps82
    go_wp2_with (go_at_call 83; refine (HP.out _ HG.out).mono ?_; rintro e w1 ⟨n, N, rfl, hb1⟩)
    go_ret
    exact ⟨ret_bool (by rw [HO.out]; rfl), hb1⟩
theorem fn_oct : ∀ args w, (callFunc 82 args).run Tryd.prog w = .ok (.enter 82 args) w := enters_of Tryd.func82 (by kernel_rfl) rfl
def quadB (ls : List ByteArray) : Bool := decide (ls.length = 4) && ls.all octB
theorem quad_any (b off n c : Nat) (zs : List ByteArray) (w : World) (hg : Glob w) (hs : ∀ x ∈ zs, x.size ≤ 281474976710656) (hn : zs.length = n) (hbig : n ≤ 9223372036854775807)
    (hc : ∀ j, j < n → w.cell? ⟨b, off + j, none⟩ = some (.string (zs.getD j ByteArray.empty))) :
    Calls Tryd.prog 53 #[.slice (some ⟨b, off, none⟩) n c] w fun e w' => e = .returned (.bool (quadB zs)) ∧ Below w.heap.size w w' := by
  have hc1 := contains_string 82 #[] (fun s => !octB s) _ fn_oct b off n c zs w (oct_1 w hg) hs hn hbig hc
  generalize hr : (zs.any fun s => !octB s) = r at hc1
  have HC := Lib.hid hc1
  have HR := Lib.hid hr
  have HN := Lib.hid hn
  clear hc1 hr hc hs hn hg
  by_cases h4 : n = 4
  · have HQ : Hid (quadB zs = !r) := Lib.hid (by unfold quadB; rw [HN.out, h4, ← HR.out, List.not_any_eq_all_not]; simp)
    subst h4
    go_enter Tryd.func53, Tryd.ntmps53
    go_wp2_with (go_at_call 32; refine HC.out.mono ?_; rintro e w' ⟨rfl, hb⟩)
    go_ret
    exact ⟨ret_bool HQ.out.symm, hb⟩
  · have HQ : Hid (quadB zs = false) := Lib.hid (by unfold quadB; rw [HN.out]; simp [h4])
    have h4b : ((n : Int) == 4) = false := by simp; omega
    have h4c : decide ((n : Int) = 4) = false := by simp; omega
    clear h4
    go_enter Tryd.func53, Tryd.ntmps53
    go_wp2
    go_ret
    exact ⟨ret_bool HQ.out.symm, Below.refl _ _⟩

/-! ### a label that is a number -/
theorem dig_spec (c : UInt8) : isDig c = (decide (48 ≤ (c.toNat : Int)) && decide ((c.toNat : Int) ≤ 57)) := by
  have h : ∀ n : Fin 256, isDig (UInt8.ofNat n.val) = (decide (48 ≤ ((UInt8.ofNat n.val).toNat : Int)) && decide (((UInt8.ofNat n.val).toNat : Int) ≤ 57)) := by decide +kernel
  have := h ⟨c.toNat, c.toNat_lt⟩
  simpa using this
def hexI (c : UInt8) : Int := Lib.indexByte [48, 49, 50, 51, 52, 53, 54, 55, 56, 57, 97, 98, 99, 100, 101, 102, 65, 66, 67, 68, 69, 70] c
theorem hex_spec (c : UInt8) : isHexC c = decide (0 ≤ hexI c) := by
  have h : ∀ n : Fin 256, isHexC (UInt8.ofNat n.val) = decide (0 ≤ hexI (UInt8.ofNat n.val)) := by decide +kernel
  have := h ⟨c.toNat, c.toNat_lt⟩
  simpa using this
theorem hexI_any (c : UInt8) (w : World) : Calls Tryd.prog 58 #[.string ⟨#[48, 49, 50, 51, 52, 53, 54, 55, 56, 57, 97, 98, 99, 100, 101, 102, 65, 66, 67, 68, 69, 70]⟩, .int .u8 c.toNat] w fun e w' => e = .returned (.int .i64 (hexI c)) ∧ w = w' := by
  refine (Tryd.strings_IndexByte _ _ _).mono fun e w' ⟨he, hw⟩ => ⟨?_, hw.symm⟩
  rw [he]
  show Ending.returned (.int .i64 (Lib.indexByte _ (UInt8.ofNat c.toNat))) = _
  rw [UInt8.ofNat_toNat]
  rfl
theorem num_1 (w : World) : PredB 80 #[] isHexC w := by
  intro W c hb
  have HT := Lib.hid (hex_spec c)
  clear hb
  go_enter Tryd.func80, Tryd.ntmps80
  go_wp2_with (go_at_call 58; refine (hexI_any c _).mono ?_; rintro e w' ⟨rfl, rfl⟩)
  go_ret
  exact ⟨ret_bool HT.out.symm, Below.refl _ _⟩
theorem num_2 (w : World) : PredB 81 #[] isDig w := by
  intro W c hb
  have HT := Lib.hid (dig_spec c)
  clear hb
  go_enter Tryd.func81, Tryd.ntmps81
  go_wp2
  all_goals
    go_ret
    refine ⟨ret_bool ?_, Below.refl _ _⟩
    rw [HT.out, Bool.eq_iff_iff]
    simp only [Bool.or_eq_true, Bool.and_eq_true, decide_eq_true_eq, true_iff, Bool.not_eq_true', decide_eq_false_iff_not, bne_iff_ne, ne_eq, beq_iff_eq, Bool.false_eq_true, false_iff]
    omega
theorem fn_num_1 : ∀ args w, (callFunc 80 args).run Tryd.prog w = .ok (.enter 80 args) w := enters_of Tryd.func80 (by kernel_rfl) rfl
theorem fn_num_2 : ∀ args w, (callFunc 81 args).run Tryd.prog w = .ok (.enter 81 args) w := enters_of Tryd.func81 (by kernel_rfl) rfl
def numericB (s : ByteArray) : Bool := if Lib.hasPrefix s.data.toList [48, 120] then (Lib.trimPrefix s.data.toList [48, 120]).all isHexC else s.data.toList.all isDig
theorem numeric_any (s : ByteArray) (w : World) (hs : s.size ≤ 281474976710656) :
    Calls Tryd.prog 52 #[.string s] w fun e w' => e = .returned (.bool (numericB s)) ∧ Below w.heap.size w w' := by
  have hp := Tryd.strings_CutPrefix s ⟨#[48, 120]⟩
  have hpl : (⟨#[48, 120]⟩ : ByteArray).data.toList = [48, 120] := rfl
  rw [hpl] at hp
  clear hpl
  cases hb : Lib.hasPrefix s.data.toList [48, 120] with
  | true =>
    have HS : Hid (numericB s = (Lib.trimPrefix s.data.toList [48, 120]).all isHexC) := Lib.hid (by unfold numericB; rw [hb]; rfl)
    rw [hb] at hp
    have hlen : (Lib.trimPrefix s.data.toList [48, 120]).length ≤ s.size := by
      unfold Lib.trimPrefix
      rw [hb, if_pos rfl, List.length_drop, size_toList]; omega
    generalize hx : Lib.trimPrefix s.data.toList [48, 120] = x at hp HS hlen
    have HA := Lib.hid (fun W => uall_any 80 #[] isHexC fn_num_1 ⟨x.toArray⟩ W (num_1 W) (by show x.toArray.size ≤ _; rw [List.size_toArray]; omega))
    have HP := Lib.hid hp
    clear hp hb hx hlen
    go_enter Tryd.func52, Tryd.ntmps52
    go_wp2_with (first
      | (go_at_call 79; refine (HP.out _).mono ?_; rintro e w1 ⟨rfl, rfl⟩)
      | (go_at_call 49; refine (HA.out _).mono ?_; rintro e w2 ⟨rfl, hb2⟩))
    go_ret
    exact ⟨ret_bool (by rw [HS.out]), hb2⟩
  | false =>
    have HS : Hid (numericB s = s.data.toList.all isDig) := Lib.hid (by unfold numericB; rw [hb]; rfl)
    rw [hb] at hp
    have HA := Lib.hid (fun W => uall_any 81 #[] isDig fn_num_2 s W (num_2 W) (by omega))
    generalize hr : s.data.toList.all isDig = r at HA HS
    have HP := Lib.hid hp
    clear hp hb hr
    go_enter Tryd.func52, Tryd.ntmps52
    go_wp2_with (first
      | (go_at_call 79; refine (HP.out _).mono ?_; rintro e w1 ⟨rfl, rfl⟩)
      | (go_at_call 49; refine (HA.out _).mono ?_; rintro e w2 ⟨rfl, hb2⟩))
    go_ret
    exact ⟨ret_bool (by rw [HS.out]), hb2⟩
end Go.Proofs.YtjdlaofeenblkaaDoor.T

/- uri.Named over this program. -/
namespace Go.Proofs.YtjdlaofeenblkaaDoor.T
open Go.RowKit
set_option linter.unusedSimpArgs false
set_option linter.unusedVariables false
theorem plain_spec (c : UInt8) : isPlain c = ((decide (97 ≤ (c.toNat : Int)) && decide ((c.toNat : Int) ≤ 122)) || (decide (48 ≤ (c.toNat : Int)) && decide ((c.toNat : Int) ≤ 57))) := by
  have h : ∀ n : Fin 256, isPlain (UInt8.ofNat n.val) = ((decide (97 ≤ ((UInt8.ofNat n.val).toNat : Int)) && decide (((UInt8.ofNat n.val).toNat : Int) ≤ 122)) || (decide (48 ≤ ((UInt8.ofNat n.val).toNat : Int)) && decide (((UInt8.ofNat n.val).toNat : Int) ≤ 57))) := by decide +kernel
  have := h ⟨c.toNat, c.toNat_lt⟩
  simpa using this
theorem plain_any (c : UInt8) (w : World) : Calls Tryd.prog 51 #[.int .u8 c.toNat] w fun e w' => e = .returned (.bool (isPlain c)) ∧ w = w' := by
  have HT := Lib.hid (plain_spec c)
  go_enter Tryd.func51, Tryd.ntmps51
  go_wp2
  all_goals
    go_ret
    refine ⟨ret_bool ?_, rfl⟩
    rw [HT.out, Bool.eq_iff_iff]
    simp only [Bool.or_eq_true, Bool.and_eq_true, decide_eq_true_eq, true_iff, Bool.not_eq_true', decide_eq_false_iff_not, bne_iff_ne, ne_eq, beq_iff_eq, Bool.false_eq_true, false_iff]
    omega
theorem host_spec (c : UInt8) : isHostC c = (isPlain c || decide ((c.toNat : Int) = 45)) := by
  have h : ∀ n : Fin 256, isHostC (UInt8.ofNat n.val) = (isPlain (UInt8.ofNat n.val) || decide (((UInt8.ofNat n.val).toNat : Int) = 45)) := by decide +kernel
  have := h ⟨c.toNat, c.toNat_lt⟩
  simpa using this
theorem host_1 (w : World) : PredB 50 #[] isHostC w := by
  intro W c hb
  have HT := Lib.hid (host_spec c)
  clear hb
  have HP := Lib.hid (plain_any c)
  cases hq : isPlain c with
  | _ =>
    rw [hq] at HP HT
    clear hq
    go_enter Tryd.func50, Tryd.ntmps50
    go_wp2_with (go_at_call 51; refine (HP.out _).mono ?_; rintro e w' ⟨rfl, rfl⟩)
    all_goals
      go_ret
      refine ⟨ret_bool ?_, Below.refl _ _⟩
      rw [HT.out]
      first | rfl | (rw [Bool.eq_iff_iff]; simp)
theorem fn_host_1 : ∀ args w, (callFunc 50 args).run Tryd.prog w = .ok (.enter 50 args) w := enters_of Tryd.func50 (by kernel_rfl) rfl
def labelB (x : ByteArray) : Bool := !x.data.toList.isEmpty && x.data.toList.all isHostC
def labelsB (s : ByteArray) : List ByteArray := Lib.splitB ⟨#[46]⟩ 0 (Lib.countB s ⟨#[46]⟩) s
def namedB (s : ByteArray) : Bool := (labelsB s).all labelB && (decide (s.size ≤ 64) && (!numericB ((labelsB s).getD ((labelsB s).length - 1) ByteArray.empty) || quadB (labelsB s)))
theorem splitB_size (sep : ByteArray) : ∀ (k : Nat) (s : ByteArray), ∀ x ∈ Lib.splitB sep 0 k s, x.size ≤ s.size
  | 0, s, x, hx => by simp [Lib.splitB] at hx; subst hx; exact Nat.le_refl _
  | k + 1, s, x, hx => by
    unfold Lib.splitB at hx
    split at hx
    · simp at hx; subst hx; exact Nat.le_refl _
    · rcases List.mem_cons.1 hx with rfl | hx
      · rw [ByteArray.size_extract]; omega
      · have := splitB_size sep k _ x hx
        rw [ByteArray.size_extract] at this; omega
theorem labels_len (s : ByteArray) : (labelsB s).length = Lib.countB s ⟨#[46]⟩ + 1 := Lib.splitB_all ⟨#[46]⟩ (by decide) 0 _ s rfl
theorem labels_le (s : ByteArray) : (labelsB s).length ≤ s.size + 1 := by
  rw [labels_len]
  have := Lib.countB_le ⟨#[46]⟩ (by decide) s.size s (Nat.le_refl _)
  omega
theorem split_dot (s : ByteArray) (w : World) (hs : s.size < 4294967281) (hg : Glob w) :
    Calls Tryd.prog 48 #[.string s, .string ⟨#[46]⟩] w fun e w' => e = .returned (.slice (some ⟨w.heap.size, 0, none⟩) (labelsB s).length (labelsB s).length) ∧ Below w.heap.size w w' ∧ ∀ j, j < (labelsB s).length → w'.cell? ⟨w.heap.size, j, none⟩ = some (.string ((labelsB s).getD j ByteArray.empty)) := by
  obtain ⟨m, hm⟩ := hg.maxLen
  refine (Tryd.strings_Split s ⟨#[46]⟩ m w hs hm (by decide)).mono fun e w' ⟨he, hw⟩ => ?_
  subst hw
  rw [← labels_len] at he
  refine ⟨he, below_alc (Below.refl _ _) _, fun j hj => ?_⟩
  rw [World.cell?_alloc_new]
  show (((labelsB s).map Value.string).toArray)[j]? = _
  simp [List.getD_eq_getElem?_getD, List.getElem?_eq_getElem hj]
theorem isEmpty_lab (y : ByteArray) (h : y.toList.isEmpty = true) : labelB y = false := by
  unfold labelB; rw [← isEmpty_data0 y, h]; rfl
theorem lab_of (y : ByteArray) (h : y.toList.isEmpty = false) : labelB y = y.data.toList.all isHostC := by
  unfold labelB; rw [← isEmpty_data0 y, h]; rfl
set_option maxHeartbeats 2000000 in
theorem named_any (s : ByteArray) (w : World) (hs : s.size < 4294967281) (hg : Glob w) :
    Calls Tryd.prog 29 #[.string s] w fun e w' => e = .returned (.bool (namedB s)) ∧ Below w.heap.size w w' := by
  have HSP := Lib.hid (split_dot s w hs hg)
  have hsz : ∀ x ∈ labelsB s, x.size ≤ 281474976710656 := fun x hx => by have := splitB_size _ _ _ x hx; omega
  have hle := labels_le s
  have hpos : 0 < (labelsB s).length := by rw [labels_len]; omega
  have HN : Hid (namedB s = ((labelsB s).all labelB && (decide (s.size ≤ 64) && (!numericB ((labelsB s).getD ((labelsB s).length - 1) ByteArray.empty) || quadB (labelsB s))))) := Lib.hid rfl
  generalize hls : labelsB s = ls at HSP hsz hle hpos HN
  generalize hn : ls.length = n at HSP hle hpos HN
  have HL := Lib.hid hn
  have HG := Lib.hid hg
  have HZ := Lib.hid hsz
  clear hls hn hg hsz
  go_enter Tryd.func29, Tryd.ntmps29
  go_wp2_with (go_at_call 48; refine HSP.out.mono ?_; rintro e w1 ⟨rfl, hb1, hc1⟩; have HB1 := Lib.hid hb1; have HC1 := Lib.hid hc1; clear hb1 hc1)
  go_loopg [5, 10] n (fun gg _ s10 wr => ∃ kk : Nat, kk ≤ n ∧ n - kk ≤ gg ∧ s10 = .int .i64 kk ∧ Aside (Below w1.heap.size w1 wr) ∧ Aside (∀ j, j < kk → labelB (ls.getD j ByteArray.empty) = true))
  case atStart => exact ⟨0, Nat.zero_le _, by omega, rfl, Below.refl _ _, fun j hj => absurd hj (Nat.not_lt_zero _)⟩
  case round =>
    obtain ⟨kk, hkk, hg, rfl, HB0, A⟩ := hrel
    have HB : Hid (Below w1.heap.size w1 wr) := Lib.hid HB0.out
    clear HB0
    by_cases hlt : kk < n
    · have hltz : (kk : Int) < (n : Int) := by omega
      have hcell : wr.cell? ⟨w.heap.size, kk, none⟩ = some (.string (ls.getD kk ByteArray.empty)) := (HB.out.cell (World.block_lt_of_cell? w1 _ (HC1.out kk hlt))).trans (HC1.out kk hlt)
      have hyz : (ls.getD kk ByteArray.empty).size ≤ 281474976710656 := HZ.out _ (by
        rw [List.getD_eq_getElem?_getD, List.getElem?_eq_getElem (by rw [HL.out]; exact hlt)]
        exact List.getElem_mem _)
      generalize hy : ls.getD kk ByteArray.empty = y at hcell hyz
      have B : Hid (ls.getD kk ByteArray.empty = y) := Lib.hid hy
      clear hy
      cases he : y.toList.isEmpty with
      | true =>
        have HE := Lib.hid (isEmpty_lab y he)
        have he2 : (!y.toList.isEmpty) = false := by rw [he]; rfl
        go_wp2
        go_ret
        refine ⟨ret_bool ?_, below_next HB1.out HB.out⟩
        rw [HN.out, all_no_getD labelB ByteArray.empty ls kk (by rw [HL.out]; exact hlt) (by rw [B.out]; exact HE.out)]
        rfl
      | false =>
        have HE := Lib.hid (lab_of y he)
        have he2 : (!y.toList.isEmpty) = true := by rw [he]; rfl
        have hcall := fun W => uall_any 50 #[] isHostC fn_host_1 y W (host_1 W) (by omega)
        clear hyz
        cases hq : y.data.toList.all isHostC with
        | true =>
          rw [hq] at hcall
          have HC := Lib.hid hcall
          have HQ := Lib.hid hq
          clear hcall hq
          go_wp2_with (go_at_call 49; refine (HC.out _).mono ?_; rintro e w2 ⟨rfl, hb2⟩)
          go_roundg (n - (kk + 1))
          case measure => omega
          case rel =>
            refine ⟨kk + 1, by omega, by omega, by go_num, below_next HB.out hb2, fun j hj => ?_⟩
            by_cases e : j = kk
            · subst e
              rw [B.out, HE.out]; exact HQ.out
            · exact A.out j (by omega)
        | false =>
          rw [hq] at hcall
          have HC := Lib.hid hcall
          have HQ := Lib.hid hq
          clear hcall hq
          go_wp2_with (go_at_call 49; refine (HC.out _).mono ?_; rintro e w2 ⟨rfl, hb2⟩)
          go_ret
          refine ⟨ret_bool ?_, below_next HB1.out (below_next HB.out hb2)⟩
          rw [HN.out, all_no_getD labelB ByteArray.empty ls kk (by rw [HL.out]; exact hlt) (by rw [B.out, HE.out]; exact HQ.out)]
          rfl
    · have hltz : ¬ (kk : Int) < (n : Int) := by omega
      obtain rfl : kk = n := by omega
      have HALL : Hid (ls.all labelB = true) := Lib.hid (all_of_getD labelB ByteArray.empty ls (by rw [HL.out]; exact A.out))
      clear A
      by_cases h64 : s.size ≤ 64
      · have h64a : (s.size : Int) ≤ 64 := by omega
        have hcl := HC1.out (kk - 1) (by omega)
        have hcell : wr.cell? ⟨w.heap.size, kk - 1, none⟩ = some (.string (ls.getD (kk - 1) ByteArray.empty)) := (HB.out.cell (World.block_lt_of_cell? w1 _ hcl)).trans hcl
        clear hcl
        have hyz : (ls.getD (kk - 1) ByteArray.empty).size ≤ 281474976710656 := HZ.out _ (by
          rw [List.getD_eq_getElem?_getD, List.getElem?_eq_getElem (by rw [HL.out]; omega)]
          exact List.getElem_mem _)
        have HY : Hid (namedB s = (!numericB (ls.getD (kk - 1) ByteArray.empty) || quadB ls)) := Lib.hid (by rw [HN.out, HALL.out, decide_eq_true h64]; rfl)
        generalize hy : ls.getD (kk - 1) ByteArray.empty = y at hcell hyz HY
        clear hy
        have HNU := Lib.hid (fun W => numeric_any y W hyz)
        clear hyz
        cases hq : numericB y with
        | false =>
          rw [hq] at HNU HY
          clear hq
          go_wp2_with (go_at_call 52; refine (HNU.out _).mono ?_; rintro e w2 ⟨rfl, hb2⟩)
          go_ret
          exact ⟨ret_bool (by rw [HY.out]; rfl), below_next HB1.out (below_next HB.out hb2)⟩
        | true =>
          rw [hq] at HNU HY
          clear hq
          have HQU := Lib.hid (fun (W : World) (hb : Below w1.heap.size w1 W) => quad_any w.heap.size 0 kk kk ls W (HG.out.below (below_next HB1.out hb)) HZ.out HL.out (by omega) (fun j hj => by
            rw [Nat.zero_add]
            exact (hb.cell (World.block_lt_of_cell? w1 _ (HC1.out j hj))).trans (HC1.out j hj)))
          cases hq2 : quadB ls with
          | _ =>
            rw [hq2] at HQU HY
            clear hq2
            go_wp2_with (first
              | (go_at_call 52; refine (HNU.out _).mono ?_; rintro e w2 ⟨rfl, hb2⟩; have HB2 := Lib.hid (below_next HB.out hb2); clear hb2)
              | (go_at_call 53; refine (HQU.out _ HB2.out).mono ?_; rintro e w3 ⟨rfl, hb3⟩))
            go_ret
            exact ⟨ret_bool (by rw [HY.out]; rfl), below_next HB1.out (below_next HB2.out hb3)⟩
      · have h64a : ¬ (s.size : Int) ≤ 64 := by omega
        have HY : Hid (namedB s = false) := Lib.hid (by rw [HN.out, decide_eq_false h64]; simp)
        clear h64
        go_wp2
        go_ret
        exact ⟨ret_bool HY.out.symm, below_next HB1.out HB.out⟩
end Go.Proofs.YtjdlaofeenblkaaDoor.T

/- The parts of a text between points. -/
namespace Go.Proofs.YtjdlaofeenblkaaDoor.X
open Go.RowKit Go.Proofs.YtjdlaofeenblkaaDoorW.PrintWords Go.Proofs.YtjdlaofeenblkaaDoor.T
set_option linter.unusedSimpArgs false
set_option linter.unusedVariables false
/-! ### the parts between points -/
theorem dot_index (t : ByteArray) {j : Nat} (h : t.data.toList[j]? = some 46) (hno : ∀ k, k < j → t.data.toList[k]? ≠ some 46) : Lib.indexB t ⟨#[46]⟩ = j := by
  have e : Lib.indexB t ⟨#[46]⟩ = Lib.indexByte t.data.toList 46 := Lib.index_one _ _
  rw [e]
  rcases Int.lt_or_le (Lib.indexByte t.data.toList 46) 0 with hm | hm
  · have h1 := Lib.indexByte_ge t.data.toList 46
    exact absurd h (Lib.indexByte_none (by omega) j)
  · obtain ⟨o, ho⟩ : ∃ o : Nat, Lib.indexByte t.data.toList 46 = o := ⟨(Lib.indexByte t.data.toList 46).toNat, by omega⟩
    obtain ⟨p1, p2⟩ := Lib.indexByte_some ho
    rw [ho]
    rcases Nat.lt_trichotomy o j with hlt | rfl | hgt
    · exact absurd p1 (hno o hlt)
    · rfl
    · exact absurd h (p2 j hgt)
theorem dot_none (t : ByteArray) (hno : ∀ k : Nat, t.data.toList[k]? ≠ some 46) : Lib.indexB t ⟨#[46]⟩ = -1 := by
  have e : Lib.indexB t ⟨#[46]⟩ = Lib.indexByte t.data.toList 46 := Lib.index_one _ _
  rw [e]
  have h1 := Lib.indexByte_ge t.data.toList 46
  rcases Int.lt_or_le (Lib.indexByte t.data.toList 46) 0 with hm | hm
  · omega
  · obtain ⟨o, ho⟩ : ∃ o : Nat, Lib.indexByte t.data.toList 46 = o := ⟨(Lib.indexByte t.data.toList 46).toNat, by omega⟩
    exact absurd (Lib.indexByte_some ho).1 (hno o)
theorem labels_no (t : ByteArray) (hno : ∀ k : Nat, t.data.toList[k]? ≠ some 46) : labelsB t = [t] := Lib.splitB_miss _ _ _ _ (dot_none t hno)
theorem labels_hit (t : ByteArray) (j : Nat) (h : t.data.toList[j]? = some 46) (hno : ∀ k, k < j → t.data.toList[k]? ≠ some 46) : labelsB t = t.extract 0 j :: labelsB (t.extract (j + 1) t.size) := by
  have hx := dot_index t h hno
  unfold labelsB
  rw [Lib.countB_hit t ⟨#[46]⟩ j (by decide) hx, Nat.add_comm 1, Lib.splitB_hit _ _ _ _ _ hx]
  rfl
end Go.Proofs.YtjdlaofeenblkaaDoor.X

/- uri.Named in the print's form. -/
namespace Go.Proofs.YtjdlaofeenblkaaDoor.X
open Go.RowKit Go.Proofs.YtjdlaofeenblkaaDoorW.PrintWords Go.Proofs.YtjdlaofeenblkaaDoor.T
set_option linter.unusedVariables false
def uri_Named.f (a0 : ByteArray) : Option Bool := if a0.size < 4294967281 then some (namedB a0) else none
theorem uri_Named.calls (a0 : ByteArray) (r : Bool) (w : World) (HGg : Glob w) (h : uri_Named.f a0 = some r) : Calls Tryd.prog 29 #[.string a0] w fun e w' => e = .returned (.bool r) ∧ Below w.heap.size w w' := by
  obtain ⟨h1, rfl⟩ := of_lim h; exact named_any a0 w h1 HGg
end Go.Proofs.YtjdlaofeenblkaaDoor.X

/- strings.Split at one sign. -/
namespace Go.Proofs.YtjdlaofeenblkaaDoor.T
open Go.RowKit
theorem split_sign (c : UInt8) (s : ByteArray) (w : World) (hs : s.size < 4294967281) (hg : Glob w) :
    Calls Tryd.prog 48 #[.string s, .string ⟨#[c]⟩] w fun e w' => e = .returned (.slice (some ⟨w.heap.size, 0, none⟩) (partsB c s).length (partsB c s).length) ∧ Below w.heap.size w w' ∧ ∀ j, j < (partsB c s).length → w'.cell? ⟨w.heap.size, j, none⟩ = some (.string ((partsB c s).getD j ByteArray.empty)) := by
  obtain ⟨m, hm⟩ := hg.maxLen
  refine (Tryd.strings_Split s ⟨#[c]⟩ m w hs hm (Nat.le_refl _)).mono fun e w' ⟨he, hw⟩ => ?_
  subst hw
  rw [← parts_len] at he
  refine ⟨he, below_alc (Below.refl _ _) _, fun j hj => ?_⟩
  rw [World.cell?_alloc_new]
  show (((partsB c s).map Value.string).toArray)[j]? = _
  simp [List.getD_eq_getElem?_getD, List.getElem?_eq_getElem hj]
end Go.Proofs.YtjdlaofeenblkaaDoor.T

/- uri.path over this program. -/
namespace Go.Proofs.YtjdlaofeenblkaaDoor.T
open Go.RowKit
set_option linter.unusedSimpArgs false
set_option linter.unusedVariables false
/-- a path's sign -/
def isMay (c : UInt8) : Bool := isPlain c || (65 ≤ c && c ≤ 90) || c == 37 || [45, 46, 95, 126, 33, 36, 38, 39, 40, 41, 42, 43, 44, 59, 61, 58, 64, 47].contains c
def sgnP (c : UInt8) : Int := Lib.indexByte [45, 46, 95, 126, 33, 36, 38, 39, 40, 41, 42, 43, 44, 59, 61, 58, 64, 47] c
theorem may_spec (c : UInt8) : isMay c = (isPlain c || (decide (65 ≤ (c.toNat : Int)) && decide ((c.toNat : Int) ≤ 90)) || decide ((c.toNat : Int) = 37) || decide (0 ≤ sgnP c)) := by
  have h : ∀ n : Fin 256, isMay (UInt8.ofNat n.val) = (isPlain (UInt8.ofNat n.val) || (decide (65 ≤ ((UInt8.ofNat n.val).toNat : Int)) && decide (((UInt8.ofNat n.val).toNat : Int) ≤ 90)) || decide (((UInt8.ofNat n.val).toNat : Int) = 37) || decide (0 ≤ sgnP (UInt8.ofNat n.val))) := by decide +kernel
  have := h ⟨c.toNat, c.toNat_lt⟩
  simpa using this
theorem sgnP_any (c : UInt8) (w : World) : Calls Tryd.prog 58 #[.string ⟨#[45, 46, 95, 126, 33, 36, 38, 39, 40, 41, 42, 43, 44, 59, 61, 58, 64, 47]⟩, .int .u8 c.toNat] w fun e w' => e = .returned (.int .i64 (sgnP c)) ∧ w = w' := by
  refine (Tryd.strings_IndexByte _ _ _).mono fun e w' ⟨he, hw⟩ => ⟨?_, hw.symm⟩
  rw [he]
  show Ending.returned (.int .i64 (Lib.indexByte _ (UInt8.ofNat c.toNat))) = _
  rw [UInt8.ofNat_toNat]
  rfl
theorem phex_1 (w : World) : PredB 66 #[] isHexC w := by
  intro W c hb
  have HT := Lib.hid (hex_spec c)
  clear hb
  go_enter Tryd.func66, Tryd.ntmps66
  go_wp2_with (go_at_call 58; refine (hexI_any c _).mono ?_; rintro e w' ⟨rfl, rfl⟩)
  go_ret
  exact ⟨ret_bool HT.out.symm, Below.refl _ _⟩
theorem fn_phex : ∀ args w, (callFunc 66 args).run Tryd.prog w = .ok (.enter 66 args) w := enters_of Tryd.func66 (by kernel_rfl) rfl
set_option maxHeartbeats 1000000 in
theorem pmay_1 (w : World) : PredB 67 #[] isMay w := by
  intro W c hb
  have HT := Lib.hid (may_spec c)
  clear hb
  cases hp : isPlain c with
  | _ =>
    rw [hp] at HT
    have HP := Lib.hid (fun W => by have := plain_any c W; rwa [hp] at this : ∀ W, Calls Tryd.prog 51 #[.int .u8 c.toNat] W fun e w' => e = .returned (.bool _) ∧ W = w')
    clear hp
    go_enter Tryd.func67, Tryd.ntmps67
    go_wp2_with (first | (go_at_call 51; refine (HP.out _).mono ?_; rintro e w' ⟨rfl, rfl⟩) | (go_at_call 58; refine (sgnP_any c _).mono ?_; rintro e w' ⟨rfl, rfl⟩))
    all_goals
      go_ret
      refine ⟨ret_bool ?_, Below.refl _ _⟩
      rw [HT.out, Bool.eq_iff_iff]
      simp only [Bool.or_eq_true, Bool.and_eq_true, decide_eq_true_eq, true_iff, Bool.false_eq_true, false_or, true_or, beq_iff_eq]
      try omega
theorem fn_pmay : ∀ args w, (callFunc 67 args).run Tryd.prog w = .ok (.enter 67 args) w := enters_of Tryd.func67 (by kernel_rfl) rfl
/-- a query's sign -/
def isQue (c : UInt8) : Bool := isMay c || c == 63
theorem pque_1 (B : Nat) (w : World) (hB : B < w.heap.size) (hc : w.cell? ⟨B, 0, none⟩ = some (.func (.func 67) #[] #[])) : PredB 68 #[.pointer (some ⟨B, 0, none⟩)] isQue w := by
  intro W c hb
  have hc' : W.cell? ⟨B, 0, none⟩ = some (.func (.func 67) #[] #[]) := (hb.cell (p := ⟨B, 0, none⟩) hB).trans hc
  clear hc hb
  have HP := Lib.hid (fun W1 => pmay_1 W1 W1 c (Below.refl _ _))
  have eg := fn_pmay
  have HT : Hid (isQue c = (isMay c || decide ((c.toNat : Int) = 63))) := Lib.hid (by
    have h : ∀ n : Fin 256, ((UInt8.ofNat n.val) == 63) = decide (((UInt8.ofNat n.val).toNat : Int) = 63) := by decide +kernel
    have := h ⟨c.toNat, c.toNat_lt⟩
    simp only [UInt8.ofNat_toNat] at this
    unfold isQue; rw [this])
  cases hq : isMay c with
  | _ =>
    rw [hq] at HP HT
    clear hq
    go_enter Tryd.func68, Tryd.ntmps68
    go_wp2_with (go_at_fn 67; refine (HP.out _).mono ?_; rintro e w' ⟨rfl, hb1⟩)
    all_goals
      go_ret
      refine ⟨ret_bool ?_, by first | exact hb1 | exact Below.refl _ _⟩
      rw [HT.out, Bool.eq_iff_iff]
      simp only [Bool.or_eq_true, Bool.and_eq_true, decide_eq_true_eq, true_iff, Bool.false_eq_true, false_or, true_or, beq_iff_eq]
      try omega
theorem fn_pque : ∀ args w, (callFunc 68 args).run Tryd.prog w = .ok (.enter 68 args) w := enters_of Tryd.func68 (by kernel_rfl) rfl
/-- a part behind a '%' -/
def pctB (x : ByteArray) : Bool := decide (2 ≤ x.size) && (x.data.toList.take 2).all isHexC
def bodyB (s : ByteArray) : ByteArray := ⟨(Lib.cut s.data.toList [63]).1.toArray⟩
def queryB (s : ByteArray) : ByteArray := ⟨(Lib.cut s.data.toList [63]).2.1.toArray⟩
def wholeB (s : ByteArray) : ByteArray := (bodyB s ++ ⟨#[63]⟩) ++ queryB s
def pathB (s : ByteArray) : Bool := Lib.hasPrefix s.data.toList [47] && (((partsB 37 (wholeB s)).drop 1).all pctB && ((bodyB s).data.toList.all isMay && (queryB s).data.toList.all isQue))
theorem cut_sizes (s : ByteArray) : (bodyB s).size ≤ s.size ∧ (queryB s).size ≤ s.size := by
  have hz := size_toList s
  unfold bodyB queryB
  constructor
  · show (Lib.cut s.data.toList [63]).1.toArray.size ≤ _
    rw [List.size_toArray, ← hz]
    unfold Lib.cut
    split
    · simp only [List.length_take]; omega
    · exact Nat.le_refl _
  · show (Lib.cut s.data.toList [63]).2.1.toArray.size ≤ _
    rw [List.size_toArray, ← hz]
    unfold Lib.cut
    split
    · simp only [List.length_drop]; omega
    · simp
theorem cut_63 (s : ByteArray) (W : World) (hs : s.size < 4294967281) (hg : Glob W) : Calls Tryd.prog 44 #[.string s, .string ⟨#[63]⟩] W fun e w' => e = .returned (.tuple #[.string (bodyB s), .string (queryB s), .bool (Lib.cut s.data.toList [63]).2.2]) ∧ Below W.heap.size W w' := by
  obtain ⟨m, hm⟩ := hg.maxLen
  exact (Tryd.strings_Cut s ⟨#[63]⟩ m W hs hm).mono fun e w' ⟨he, hw⟩ => ⟨he, by obtain ⟨n, rfl⟩ := hw; exact below_drewN1 _ _⟩
set_option maxHeartbeats 4000000 in
theorem path_any (s : ByteArray) (w : World) (hs : s.size < 2147480000) (hg : Glob w) :
    Calls Tryd.prog 42 #[.string s] w fun e w' => e = .returned (.bool (pathB s)) ∧ Below w.heap.size w w' := by
  have hpx := fun W => Tryd.strings_HasPrefix s ⟨#[47]⟩ W
  have hzz := cut_sizes s
  cases hp : Lib.hasPrefix s.data.toList [47] with
  | false =>
    have HP : Hid (∀ W, Calls Tryd.prog 47 #[.string s, .string ⟨#[47]⟩] W fun e w' => e = .returned (.bool false) ∧ W = w') := Lib.hid (fun W => (hpx W).mono fun e w' ⟨he, hw⟩ => ⟨by rw [he]; exact ret_bool hp, hw.symm⟩)
    have HR : Hid (pathB s = false) := Lib.hid (by unfold pathB; rw [hp]; rfl)
    clear hpx hp hg hzz
    go_enter Tryd.func42, Tryd.ntmps42
    go_wp2_with (go_at_call 47; refine (HP.out _).mono ?_; rintro e w' ⟨rfl, rfl⟩)
    go_ret
    exact ⟨ret_bool HR.out.symm, Below.refl _ _⟩
  | true =>
    have HP : Hid (∀ W, Calls Tryd.prog 47 #[.string s, .string ⟨#[47]⟩] W fun e w' => e = .returned (.bool true) ∧ W = w') := Lib.hid (fun W => (hpx W).mono fun e w' ⟨he, hw⟩ => ⟨by rw [he]; exact ret_bool hp, hw.symm⟩)
    have HR : Hid (pathB s = (((partsB 37 (wholeB s)).drop 1).all pctB && ((bodyB s).data.toList.all isMay && (queryB s).data.toList.all isQue))) := Lib.hid (by unfold pathB; rw [hp]; rfl)
    have HCUT := Lib.hid (cut_63 s w (by omega) hg)
    have hwz : (wholeB s).size < 4294967281 := by
      unfold wholeB
      have e1 : ((bodyB s ++ ⟨#[63]⟩) ++ queryB s).size = (bodyB s).size + 1 + (queryB s).size := by simp; rfl
      rw [e1]; omega
    have HSP := Lib.hid (fun (W : World) (hb : Below w.heap.size w W) => split_sign 37 (wholeB s) W hwz (hg.below hb))
    have hsz : ∀ x ∈ partsB 37 (wholeB s), x.size ≤ 281474976710656 := fun x hx => by have := parts_size _ _ x hx; omega
    have hpos : 0 < (partsB 37 (wholeB s)).length := by rw [parts_len]; omega
    have hle := parts_le 37 (wholeB s)
    clear hpx hp hg
    unfold wholeB at HSP
    generalize (Lib.cut s.data.toList [63]).2.2 = f at HCUT
    obtain ⟨hz1, hz2⟩ := hzz
    generalize hls : partsB 37 (wholeB s) = ls at HSP hsz hpos hle HR
    have HLS := Lib.hid hls
    unfold wholeB at HLS
    clear hls
    generalize bodyB s = bo at HCUT HSP hz1 HR HLS
    generalize queryB s = qu at HCUT HSP hz2 HR HLS
    have HSP2 := Lib.hid (fun (W : World) (hb : Below w.heap.size w W) => by have := HSP.out W hb; rwa [HLS.out] at this)
    clear HSP HLS
    generalize hn : ls.length = n at HSP2 hpos hle
    have HL := Lib.hid hn
    have HZ := Lib.hid hsz
    have hn2 : n ≤ 4294967290 := by omega
    clear hn hsz hwz hle
    by_cases hn1 : n = 1
    · subst hn1
      clear hpos
      go_enter Tryd.func42, Tryd.ntmps42
      go_wp2_with (first | (go_at_call 47; refine (HP.out _).mono ?_; rintro e w0 ⟨rfl, rfl⟩) | (go_at_call 44; refine HCUT.out.mono ?_; rintro e w1 ⟨rfl, hb1⟩; have HB1 := Lib.hid hb1; clear hb1) | (go_at_call 48; refine (HSP2.out _ (by first | exact HB1.out | exact below_drw HB1.out)).mono ?_; rintro e w2 ⟨rfl, hb2, hc2⟩; have HB2 := Lib.hid hb2; have HC2 := Lib.hid hc2; clear hb2 hc2))
      go_loopg [8, 27] 0 (fun _ _ s27 wr => s27 = .int .i64 0 ∧ Aside (Below w2.heap.size w2 wr))
      case atStart => exact ⟨rfl, Below.refl _ _⟩
      case round =>
        obtain ⟨rfl, HB0⟩ := hrel
        have HB : Hid (Below w2.heap.size w2 wr) := Lib.hid HB0.out
        clear HB0
        have HALL : Hid ((ls.drop 1).all pctB = true) := Lib.hid (by rw [List.drop_of_length_le (by rw [HL.out]; exact Nat.le_refl _)]; rfl)
        cases hm : bo.data.toList.all isMay with
        | false =>
          rw [hm] at HR
          have HM := Lib.hid (fun W => by have := uall_any 67 #[] isMay fn_pmay bo W (pmay_1 W) (by omega); rwa [hm] at this : ∀ W, Calls Tryd.prog 49 #[.string bo, .func (.func 67) #[] #[]] W fun e w' => e = .returned (.bool false) ∧ Below W.heap.size W w')
          clear hm
          go_wp2_with (go_at_call 49; refine (HM.out _).mono ?_; rintro e w3 ⟨rfl, hb3⟩)
          go_ret
          refine ⟨ret_bool (by rw [HR.out, HALL.out]; rfl), below_next HB1.out (below_next HB2.out (below_next HB.out (below_next (below_alc (Below.refl _ _) _) hb3)))⟩
        | true =>
          cases hq : qu.data.toList.all isQue with
          | _ =>
            rw [hm, hq] at HR
            have HM := Lib.hid (fun W => by have := uall_any 67 #[] isMay fn_pmay bo W (pmay_1 W) (by omega); rwa [hm] at this : ∀ W, Calls Tryd.prog 49 #[.string bo, .func (.func 67) #[] #[]] W fun e w' => e = .returned (.bool true) ∧ Below W.heap.size W w')
            have HQ := Lib.hid (fun (W : World) (B : Nat) (hB : B < W.heap.size) (hc : W.cell? ⟨B, 0, none⟩ = some (.func (.func 67) #[] #[])) => uall_any 68 #[.pointer (some ⟨B, 0, none⟩)] isQue fn_pque qu W (pque_1 B W hB hc) (by omega))
            rw [hq] at HQ
            clear hm hq
            have tk1 : True := trivial
            go_wp2_with (first | (go_at_call 49; have t_1 := tk1; clear tk1; clear t_1; refine (HM.out _).mono ?_; rintro e w3 ⟨rfl, hb3⟩; have HB3 := Lib.hid hb3; have hc3 := (hb3.cell (p := ⟨wr.heap.size, 0, none⟩) (by simp)).trans (cell_box _ _ _); have HC3 := Lib.hid hc3; clear hb3 hc3) | (go_at_call 49; refine (HQ.out _ _ (World.block_lt_of_cell? w3 _ HC3.out) HC3.out).mono ?_; rintro e w4 ⟨rfl, hb4⟩))
            go_ret
            refine ⟨ret_bool (by rw [HR.out, HALL.out]; simp), below_next HB1.out (below_next HB2.out (below_next HB.out (below_next (below_alc (Below.refl _ _) _) (below_next HB3.out hb4))))⟩
    · have hn3 : 1 < n := by omega
      clear hn1 hpos
      go_enter Tryd.func42, Tryd.ntmps42
      go_wp2_with (first | (go_at_call 47; refine (HP.out _).mono ?_; rintro e w0 ⟨rfl, rfl⟩) | (go_at_call 44; refine HCUT.out.mono ?_; rintro e w1 ⟨rfl, hb1⟩; have HB1 := Lib.hid hb1; clear hb1) | (go_at_call 48; refine (HSP2.out _ (by first | exact HB1.out | exact below_drw HB1.out)).mono ?_; rintro e w2 ⟨rfl, hb2, hc2⟩; have HB2 := Lib.hid hb2; have HC2 := Lib.hid hc2; clear hb2 hc2))
      go_loopg [8, 27] (n - 1) (fun gg _ s27 wr => ∃ kk : Nat, kk ≤ n - 1 ∧ n - 1 - kk ≤ gg ∧ s27 = .int .i64 kk ∧ Aside (Below w2.heap.size w2 wr) ∧ Aside (∀ j, j < kk → pctB (ls.getD (1 + j) ByteArray.empty) = true))
      case atStart => exact ⟨0, Nat.zero_le _, by omega, rfl, Below.refl _ _, fun j hj => absurd hj (Nat.not_lt_zero _)⟩
      case round =>
        obtain ⟨kk, hkk, hg, rfl, HB0, AA⟩ := hrel
        have HB : Hid (Below w2.heap.size w2 wr) := Lib.hid HB0.out
        clear HB0
        by_cases hlt : kk < n - 1
        · have hltz : (kk : Int) < (n : Int) - 1 := by omega
          have hcell : wr.cell? ⟨w1.heap.size, 1 + kk, none⟩ = some (.string (ls.getD (1 + kk) ByteArray.empty)) := (HB.out.cell (World.block_lt_of_cell? w2 _ (HC2.out (1 + kk) (by omega)))).trans (HC2.out (1 + kk) (by omega))
          have hyz : (ls.getD (1 + kk) ByteArray.empty).size ≤ 281474976710656 := HZ.out _ (by
            rw [List.getD_eq_getElem?_getD, List.getElem?_eq_getElem (by rw [HL.out]; omega)]
            exact List.getElem_mem _)
          generalize hy : ls.getD (1 + kk) ByteArray.empty = y at hcell hyz
          have B : Hid (ls.getD (1 + kk) ByteArray.empty = y) := Lib.hid hy
          clear hy
          have HNO : Hid (pctB y = false → pathB s = false) := Lib.hid (fun h => by
            rw [HR.out, all_no_getD pctB ByteArray.empty (ls.drop 1) kk (by rw [List.length_drop, HL.out]; omega) (by
              rw [List.getD_eq_getElem?_getD, List.getElem?_drop, ← List.getD_eq_getElem?_getD, B.out]; exact h)]
            rfl)
          by_cases h2 : y.size < 2
          · have h2z : (y.size : Int) < 2 := by omega
            have HF : Hid (pctB y = false) := Lib.hid (by unfold pctB; rw [decide_eq_false (by omega)]; rfl)
            clear h2
            go_wp2
            go_ret
            exact ⟨ret_bool (HNO.out HF.out).symm, below_next HB1.out (below_next HB2.out HB.out)⟩
          · have h2z : ¬ (y.size : Int) < 2 := by omega
            have HF : Hid (pctB y = (y.extract 0 2).data.toList.all isHexC) := Lib.hid (by unfold pctB; rw [decide_eq_true (by omega), Lib.extract_from_zero]; rfl)
            have hcall := fun W => uall_any 66 #[] isHexC fn_phex (y.extract 0 2) W (phex_1 W) (by rw [ByteArray.size_extract]; omega)
            have hy2 : 2 ≤ y.size := by omega
            clear h2
            cases hq : (y.extract 0 2).data.toList.all isHexC with
            | true =>
              rw [hq] at hcall HF
              have HC := Lib.hid hcall
              clear hcall hq
              go_wp2_with (go_at_call 49; refine (HC.out _).mono ?_; rintro e w3 ⟨rfl, hb3⟩)
              go_roundg (n - 1 - (kk + 1))
              case measure => omega
              case rel =>
                refine ⟨kk + 1, by omega, by omega, by go_num, below_next HB.out hb3, fun j hj => ?_⟩
                by_cases e : j = kk
                · subst e
                  rw [B.out]; exact HF.out
                · exact AA.out j (by omega)
            | false =>
              rw [hq] at hcall HF
              have HC := Lib.hid hcall
              clear hcall hq
              go_wp2_with (go_at_call 49; refine (HC.out _).mono ?_; rintro e w3 ⟨rfl, hb3⟩)
              go_ret
              exact ⟨ret_bool (HNO.out HF.out).symm, below_next HB1.out (below_next HB2.out (below_next HB.out hb3))⟩
        · have hltz : ¬ (kk : Int) < (n : Int) - 1 := by omega
          obtain rfl : kk = n - 1 := by omega
          have HALL : Hid ((ls.drop 1).all pctB = true) := Lib.hid (all_of_getD pctB ByteArray.empty _ (fun j hj => by
            rw [List.getD_eq_getElem?_getD, List.getElem?_drop, ← List.getD_eq_getElem?_getD]
            rw [List.length_drop, HL.out] at hj
            exact AA.out j hj))
          cases hm : bo.data.toList.all isMay with
          | false =>
            rw [hm] at HR
            have HM := Lib.hid (fun W => by have := uall_any 67 #[] isMay fn_pmay bo W (pmay_1 W) (by omega); rwa [hm] at this : ∀ W, Calls Tryd.prog 49 #[.string bo, .func (.func 67) #[] #[]] W fun e w' => e = .returned (.bool false) ∧ Below W.heap.size W w')
            clear hm
            go_wp2_with (go_at_call 49; refine (HM.out _).mono ?_; rintro e w3 ⟨rfl, hb3⟩)
            go_ret
            refine ⟨ret_bool (by rw [HR.out, HALL.out]; rfl), below_next HB1.out (below_next HB2.out (below_next HB.out (below_next (below_alc (Below.refl _ _) _) hb3)))⟩
          | true =>
            cases hq : qu.data.toList.all isQue with
            | _ =>
              rw [hm, hq] at HR
              have HM := Lib.hid (fun W => by have := uall_any 67 #[] isMay fn_pmay bo W (pmay_1 W) (by omega); rwa [hm] at this : ∀ W, Calls Tryd.prog 49 #[.string bo, .func (.func 67) #[] #[]] W fun e w' => e = .returned (.bool true) ∧ Below W.heap.size W w')
              have HQ := Lib.hid (fun (W : World) (B : Nat) (hB : B < W.heap.size) (hc : W.cell? ⟨B, 0, none⟩ = some (.func (.func 67) #[] #[])) => uall_any 68 #[.pointer (some ⟨B, 0, none⟩)] isQue fn_pque qu W (pque_1 B W hB hc) (by omega))
              rw [hq] at HQ
              clear hm hq
              have tk1 : True := trivial
              go_wp2_with (first | (go_at_call 49; have t_1 := tk1; clear tk1; clear t_1; refine (HM.out _).mono ?_; rintro e w3 ⟨rfl, hb3⟩; have HB3 := Lib.hid hb3; have hc3 := (hb3.cell (p := ⟨wr.heap.size, 0, none⟩) (by simp)).trans (cell_box _ _ _); have HC3 := Lib.hid hc3; clear hb3 hc3) | (go_at_call 49; refine (HQ.out _ _ (World.block_lt_of_cell? w3 _ HC3.out) HC3.out).mono ?_; rintro e w4 ⟨rfl, hb4⟩))
              go_ret
              refine ⟨ret_bool (by rw [HR.out, HALL.out]; simp), below_next HB1.out (below_next HB2.out (below_next HB.out (below_next (below_alc (Below.refl _ _) _) (below_next HB3.out hb4))))⟩
end Go.Proofs.YtjdlaofeenblkaaDoor.T

/- uri.path in the print's form. -/
namespace Go.Proofs.YtjdlaofeenblkaaDoor.X
open Go.RowKit Go.Proofs.YtjdlaofeenblkaaDoorW.PrintWords Go.Proofs.YtjdlaofeenblkaaDoor.T
set_option linter.unusedVariables false
def uri_path.f (a0 : ByteArray) : Option Bool := if a0.size < 2147480000 then some (pathB a0) else none
theorem uri_path.calls (a0 : ByteArray) (r : Bool) (w : World) (HGg : Glob w) (h : uri_path.f a0 = some r) : Calls Tryd.prog 42 #[.string a0] w fun e w' => e = .returned (.bool r) ∧ Below w.heap.size w w' := by
  obtain ⟨h1, rfl⟩ := of_lim h; exact path_any a0 w h1 HGg
end Go.Proofs.YtjdlaofeenblkaaDoor.X

/- strings.IndexRune of a rune beyond ASCII in the text "/?": there is none. -/
namespace Go.Proofs.YtjdlaofeenblkaaDoor.T
open Go.RowKit
set_option linter.unusedSimpArgs false
set_option linter.unusedVariables false
set_option maxRecDepth 100000 in
theorem rune_err (w : World) : Calls Tryd.prog 69 #[.string ⟨#[47, 63]⟩, .int .i32 65533] w fun e w' => e = .returned (.int .i64 (-1)) ∧ Below w.heap.size w w' := by
  go_enter Tryd.func69, Tryd.ntmps69
  go_wp2
  go_loopg [5, 6] 2 (fun g _ _ wx => ∃ i : Nat, i + g = 2 ∧ wx = w.iter ⟨#[47, 63]⟩ i)
  case atStart => exact ⟨0, by omega, rfl⟩
  case round =>
    obtain ⟨i, hig, rfl⟩ := hrel
    have hi : i = 0 ∨ i = 1 ∨ i = 2 := by omega
    rcases hi with rfl | rfl | rfl
    · have hnx := fun ty => run_next_ascii (P := Tryd.prog) w ⟨#[47, 63]⟩ 0 ty (by decide) (by decide)
      go_wp2
      go_roundg 1
      case measure => omega
      case rel => exact ⟨1, by omega, rfl⟩
    · have hnx := fun ty => run_next_ascii (P := Tryd.prog) w ⟨#[47, 63]⟩ 1 ty (by decide) (by decide)
      go_wp2
      go_roundg 0
      case measure => omega
      case rel => exact ⟨2, by omega, rfl⟩
    · have hnx := fun ty => run_next_end (P := Tryd.prog) w ⟨#[47, 63]⟩ 2 ty (by decide)
      go_wp2
      go_ret
      exact ⟨rfl, below_alc (Below.refl _ _) _⟩
set_option maxRecDepth 100000 in
theorem rune_bad (r : Int) (h1 : 128 ≤ r) (h2 : r ≠ 65533) (hv : Lib.validRune r = false) (w : World) : Calls Tryd.prog 69 #[.string ⟨#[47, 63]⟩, .int .i32 r] w fun e w' => e = .returned (.int .i64 (-1)) ∧ w' = w := by
  have HV := Lib.hid (fun W => Tryd.utf8_ValidRune r W)
  rw [hv] at HV
  clear hv
  have e1 : ¬ r < 128 := by omega
  have e2 : (r == 65533) = false := by simpa using h2
  have e3 : 0 ≤ r := by omega
  clear h2
  go_enter Tryd.func69, Tryd.ntmps69
  go_wp2_with (go_at_call 89; refine (HV.out _).mono ?_; rintro e w' ⟨rfl, rfl⟩)
  go_ret
  exact ⟨rfl, rfl⟩
set_option maxRecDepth 100000 in
set_option maxHeartbeats 1000000 in
theorem rune_far3 (r : Int) (h1 : 128 ≤ r) (h2 : r ≠ 65533) (hv : Lib.validRune r = true) (z1 : 3 ≤ (Utf8.encode r).size) (z2 : (Utf8.encode r).size ≤ 4) (w : World) : Calls Tryd.prog 69 #[.string ⟨#[47, 63]⟩, .int .i32 r] w fun e w' => e = .returned (.int .i64 (-1)) ∧ w' = w := by
  have HV := Lib.hid (fun W => Tryd.utf8_ValidRune r W)
  rw [hv] at HV
  clear hv
  have e1 : ¬ r < 128 := by omega
  have e2 : (r == 65533) = false := by simpa using h2
  have e3 : 0 ≤ r := by omega
  clear h2
  go_enter Tryd.func69, Tryd.ntmps69
  go_wp2_with (go_at_call 89; refine (HV.out _).mono ?_; rintro e w' ⟨rfl, rfl⟩)
  go_step3
  go_wp2_with fail
  go_loopg [9, 10] 1 (fun g s9 s10 wx => s9 = .int .i64 (((Utf8.encode r).size : Int) - 1) ∧ wx = w')
  case atStart => exact ⟨rfl, rfl⟩
  case round =>
    obtain ⟨rfl, rfl⟩ := hrel
    have hlt : ¬ (((Utf8.encode r).size : Int) - 1) < 2 := by omega
    go_wp2_with fail
    (try rw [Exit.noGoto_ret])
    go_ret
    exact ⟨rfl, rfl⟩
set_option maxRecDepth 100000 in
set_option maxHeartbeats 1000000 in
theorem rune_far2 (r : Int) (h1 : 128 ≤ r) (h2 : r ≠ 65533) (hv : Lib.validRune r = true) (hz : (Utf8.encode r).size = 2) (hl : ∀ h : 1 < (Utf8.encode r).size, 128 ≤ ((Utf8.encode r)[1]'h).toNat) (w : World) : Calls Tryd.prog 69 #[.string ⟨#[47, 63]⟩, .int .i32 r] w fun e w' => e = .returned (.int .i64 (-1)) ∧ Below w.heap.size w w' := by
  have HV := Lib.hid (fun W => Tryd.utf8_ValidRune r W)
  rw [hv] at HV
  clear hv
  have e1 : ¬ r < 128 := by omega
  have e2 : (r == 65533) = false := by simpa using h2
  have e3 : 0 ≤ r := by omega
  have hcv : ∀ W : World, (convert 21 9 (.int .i32 r)).run Tryd.prog W = .ok (.string (Utf8.encode r)) W := fun W => run_convert_int_string W _ _ _ _ (by kernel_rfl) (by kernel_rfl)
  clear h2
  generalize Utf8.encode r = rs at hz hl hcv
  have hl2 := hl (by omega)
  generalize hc : rs[1]'(by omega) = c at hl2
  have hne1 : (((((⟨#[47, 63]⟩ : ByteArray)[1]'(by decide)).toNat : Int)) != (c.toNat : Int)) = true := by
    have e : (((⟨#[47, 63]⟩ : ByteArray)[1]'(by decide)).toNat : Int) = 63 := rfl
    rw [e, bne_iff_ne]; omega
  go_enter Tryd.func69, Tryd.ntmps69
  go_wp2_with (go_at_call 89; refine (HV.out _).mono ?_; rintro e w' ⟨rfl, rfl⟩)
  go_step3
  go_wp2_with fail
  go_loopg [9, 10] 1 (fun g s9 s10 wx => s9 = .int .i64 1 ∧ wx = w')
  case atStart => exact ⟨rfl, rfl⟩
  case round =>
    obtain ⟨rfl, rfl⟩ := hrel
    go_wp2_with fail
    go_step3
    go_wp2_with fail
    go_quiet (fail)
    go_wp2_with fail
    have hbq := below_drewN1 wr nq
    generalize wr.drewN nq = wq at hbq ⊢
    have HBQ := Lib.hid hbq
    clear hbq
    have hw2 : IntKind.i64.wrap (1 + 1) = 2 := by decide
    go_quiet ((go_at_call 58; exact Calls.quiet_of_same (Tryd.strings_IndexByte _ _ _)))
    go_wp2_with fail
    rw [Exit.noGoto_ret]
    simp only [Exit.inBlock, Exit.then]
    rw [Exit.noGoto_ret]
    go_ret
    exact ⟨rfl, below_next HBQ.out (below_drewN1 _ _)⟩
end Go.Proofs.YtjdlaofeenblkaaDoor.T

/- strings.IndexAny at the signs "/?", at every text. -/
namespace Go.Proofs.YtjdlaofeenblkaaDoor.T
open Go.RowKit Go.Proofs.YtjdlaofeenblkaaDoorW.PrintWords
set_option linter.unusedSimpArgs false
set_option linter.unusedVariables false
def slashI (r : Int) : Int := if r = 47 then 0 else if r = 63 then 1 else -1
theorem slash_byte : ∀ n : Fin 128, Lib.indexByte ([47, 63] : List UInt8) (UInt8.ofNat n.val) = slashI (n.val : Int) := by decide +kernel
theorem rune_any (r : Int) (h0 : 0 ≤ r) (w : World) : Calls Tryd.prog 69 #[.string ⟨#[47, 63]⟩, .int .i32 r] w fun e w' => e = .returned (.int .i64 (slashI r)) ∧ Below w.heap.size w w' := by
  by_cases h1 : r < 128
  · refine (Tryd.strings_IndexRune_ascii _ r w h0 h1).mono fun e w' ⟨he, hw⟩ => ⟨?_, by subst hw; exact Below.refl _ _⟩
    have := slash_byte ⟨r.toNat, by omega⟩
    have e1 : ((r.toNat : Nat) : Int) = r := by omega
    simp only [e1] at this
    rw [he]
    show Ending.returned (.int .i64 (Lib.indexByte [47, 63] r.toNat.toUInt8)) = _
    rw [show r.toNat.toUInt8 = UInt8.ofNat r.toNat from rfl, this]
  · have e : slashI r = -1 := by unfold slashI; rw [if_neg (by omega), if_neg (by omega)]
    rw [e]
    by_cases h2 : r = 65533
    · subst h2; exact rune_err w
    · cases hv : Lib.validRune r with
      | false => exact (rune_bad r (by omega) h2 hv w).mono fun e w' ⟨he, hw⟩ => ⟨he, by subst hw; exact Below.refl _ _⟩
      | true =>
        have hu : Utf8.valid r = true := by
          unfold Lib.validRune at hv
          unfold Utf8.valid
          have := of_decide_eq_true hv
          simp only [Bool.or_eq_true, Bool.and_eq_true, decide_eq_true_eq]
          omega
        obtain ⟨z1, z2, z3⟩ := encode_facts r hu (by omega)
        by_cases hz : (Utf8.encode r).size = 2
        · refine rune_far2 r (by omega) h2 hv hz (fun h => ?_) w
          have := z3 (by omega)
          have e2 : (Utf8.encode r).size - 1 = 1 := by omega
          simpa [e2] using this
        · exact (rune_far3 r (by omega) h2 hv (by omega) z2 w).mono fun e w' ⟨he, hw⟩ => ⟨he, by subst hw; exact Below.refl _ _⟩
/-- what a decoder takes: one ASCII byte, or bytes beyond ASCII -/
theorem decodeN_bytes (n a b c d : Nat) (hn : 1 ≤ n) (ha : a < 256) (r : Nat × Nat) (h : Lib.decodeN n a b c d = r) :
    (r.2 = 1 ∧ r.1 = a ∧ a < 128) ∨ (128 ≤ r.1 ∧ 1 ≤ r.2 ∧ r.2 ≤ n ∧ r.2 ≤ 4 ∧ 128 ≤ a ∧ (2 ≤ r.2 → 128 ≤ b) ∧ (3 ≤ r.2 → 128 ≤ c) ∧ (4 ≤ r.2 → 128 ≤ d)) := by
  have one : (65533, 1) = r → ¬ a < 128 → (r.2 = 1 ∧ r.1 = a ∧ a < 128) ∨ (128 ≤ r.1 ∧ 1 ≤ r.2 ∧ r.2 ≤ n ∧ r.2 ≤ 4 ∧ 128 ≤ a ∧ (2 ≤ r.2 → 128 ≤ b) ∧ (3 ≤ r.2 → 128 ≤ c) ∧ (4 ≤ r.2 → 128 ≤ d)) := fun e h0 => by
    subst e
    exact .inr ⟨show 128 ≤ 65533 by omega, Nat.le_refl 1, hn, show 1 ≤ 4 by omega, by omega, fun h => absurd h (by show ¬ 2 ≤ 1; omega), fun h => absurd h (by show ¬ 3 ≤ 1; omega), fun h => absurd h (by show ¬ 4 ≤ 1; omega)⟩
  unfold Lib.decodeN at h
  split at h
  · subst h
    exact .inl ⟨rfl, rfl, by assumption⟩
  · rename_i h0
    split at h
    · rename_i h1
      split at h
      · subst h
        exact .inr ⟨by show 128 ≤ a % 32 * 64 + b % 64; omega, show 1 ≤ 2 by omega, show 2 ≤ n by omega, show 2 ≤ 4 by omega, by omega, fun _ => by omega, fun h => absurd h (by show ¬ 3 ≤ 2; omega), fun h => absurd h (by show ¬ 4 ≤ 2; omega)⟩
      · exact one h h0
    · split at h
      · rename_i h1
        split at h
        · subst h
          exact .inr ⟨by show 128 ≤ a % 16 * 4096 + b % 64 * 64 + c % 64; omega, show 1 ≤ 3 by omega, show 3 ≤ n by omega, show 3 ≤ 4 by omega, by omega, fun _ => by omega, fun _ => by omega, fun h => absurd h (by show ¬ 4 ≤ 3; omega)⟩
        · exact one h h0
      · split at h
        · rename_i h1
          split at h
          · subst h
            exact .inr ⟨by show 128 ≤ a % 8 * 262144 + b % 64 * 4096 + c % 64 * 64 + d % 64; omega, show 1 ≤ 4 by omega, show 4 ≤ n by omega, Nat.le_refl 4, by omega, fun _ => by omega, fun _ => by omega, fun _ => by omega⟩
          · exact one h h0
        · exact one h h0
theorem decode_bytes (s : ByteArray) (pos : Nat) (h : pos < s.size) :
    ((Utf8.decode s pos).2 = 1 ∧ (Utf8.decode s pos).1 = (s.get! pos).toNat ∧ (s.get! pos).toNat < 128) ∨ (128 ≤ (Utf8.decode s pos).1 ∧ 1 ≤ (Utf8.decode s pos).2 ∧ pos + (Utf8.decode s pos).2 ≤ s.size ∧ ∀ j, j < (Utf8.decode s pos).2 → 128 ≤ (s.get! (pos + j)).toNat) := by
  have h1 := decodeN_bytes (s.size - pos) (s.get! pos).toNat (s.get! (pos + 1)).toNat (s.get! (pos + 2)).toNat (s.get! (pos + 3)).toNat (by omega) (UInt8.toNat_lt _) _ rfl
  rw [← Lib.decode_at] at h1
  rcases h1 with h1 | ⟨a, b, c, d, e, f, g, k⟩
  · exact .inl h1
  · refine .inr ⟨a, b, by omega, fun j hj => ?_⟩
    have hj2 : j = 0 ∨ j = 1 ∨ j = 2 ∨ j = 3 := by omega
    rcases hj2 with rfl | rfl | rfl | rfl
    · rw [Nat.add_zero]; exact e
    · exact f (by omega)
    · exact g (by omega)
    · exact k (by omega)
theorem get_at (s : ByteArray) (i : Nat) (h : i < s.size) : s.data.toList[i]? = some (s.get! i) := by
  rw [List.getElem?_eq_getElem (by rw [size_toList]; exact h)]
  simp [ByteArray.get!, getElem!_pos, h]
theorem hi_no {b : UInt8} (h : 128 ≤ b.toNat) : ([47, 63] : List UInt8).contains b = false := by
  have e1 : b ≠ 47 := fun e => by subst e; revert h; decide
  have e2 : b ≠ 63 := fun e => by subst e; revert h; decide
  simp [e1, e2]
theorem lo_is {b : UInt8} : ([47, 63] : List UInt8).contains b = decide (0 ≤ slashI (b.toNat : Int)) := by
  have h : ∀ n : Fin 256, ([47, 63] : List UInt8).contains (UInt8.ofNat n.val) = decide (0 ≤ slashI ((UInt8.ofNat n.val).toNat : Int)) := by decide +kernel
  have := h ⟨b.toNat, b.toNat_lt⟩
  simpa using this
theorem noany_run {s : List UInt8} {pos : Nat} {c : List UInt8} (h : Lib.NoAny s c pos) : ∀ k : Nat, (∀ j, j < k → ∃ b, s[pos + j]? = some b ∧ c.contains b = false) → Lib.NoAny s c (pos + k)
  | 0, _ => h
  | k + 1, hk => by
    obtain ⟨b, hb, hc⟩ := hk k (by omega)
    exact (noany_run h k (fun j hj => hk j (by omega))).succ hb hc
theorem below_iterAt {w W : World} {k : Nat} (h : Below w.heap.size w W) (hk : w.heap.size ≤ k) (s : ByteArray) (pos : Nat) : Below w.heap.size w (W.iterAt k s pos) :=
  ⟨h.os, h.tape, h.output, by show _ ≤ (W.heap.setIfInBounds k _).size; rw [Array.size_setIfInBounds]; exact h.size, fun j hj => by show (W.heap.setIfInBounds k _)[j]? = _; rw [Array.getElem?_setIfInBounds_ne (by omega)]; exact h.block j hj⟩
set_option maxHeartbeats 4000000 in
set_option maxRecDepth 100000 in
theorem any_short (s : ByteArray) (w : World) (h8 : s.size ≤ 8) : Calls Tryd.prog 43 #[.string s, .string ⟨#[47, 63]⟩] w fun e w' => e = .returned (.int .i64 (Lib.indexAny s.data.toList [47, 63])) ∧ Below w.heap.size w w' := by
  have h8z : decide ((8 : Int) < (s.size : Int)) = false := decide_eq_false (by omega)
  go_enter Tryd.func43, Tryd.ntmps43
  go_wp2_with (go_at_call 70; refine (Tryd.strings_shouldUseASCIISet _ _).mono ?_; rintro e w' ⟨rfl, hw⟩; rw [hw, h8z])
  go_loopg [9, 10] s.size (fun g _ _ wx => ∃ pos : Nat, pos ≤ s.size ∧ s.size - pos ≤ g ∧ wx.heap[w.heap.size]? = some (.stringIter s pos) ∧ Aside (Below w.heap.size w wx) ∧ Aside (Lib.NoAny s.data.toList [47, 63] pos))
  case atStart => exact ⟨0, Nat.zero_le _, by omega, World.iter_heap w s 0, below_alc (Below.refl _ _) _, Lib.NoAny.zero _ _⟩
  case round =>
    obtain ⟨pos, hp, hg, hit, HB0, HN0⟩ := hrel
    have HB := Lib.hid HB0.out
    have HN := Lib.hid HN0.out
    clear HB0 HN0
    by_cases hlt : pos < s.size
    · have hnx : ∀ ty, (Instr.next (.pointer (some ⟨w.heap.size, 0, none⟩)) true ty).run Tryd.prog wr = _ := fun ty => Lib.run_next_any_at wr w.heap.size s pos ty hit hlt
      have hd := decode_bytes s pos hlt
      have hg0 := get_at s pos hlt
      obtain ⟨R, hR⟩ : ∃ R, (Utf8.decode s pos).1 = R := ⟨_, rfl⟩
      obtain ⟨K, hK⟩ : ∃ K, (Utf8.decode s pos).2 = K := ⟨_, rfl⟩
      rw [hR, hK] at hd hnx
      clear hR hK
      have hit2 := Lib.iterAt_heap wr w.heap.size s pos (pos + K) hit
      have hb2 := below_iterAt HB.out (Nat.le_refl _) s (pos + K)
      generalize wr.iterAt w.heap.size s (pos + K) = W at hnx hit2 hb2
      have HI := Lib.hid hit2
      have HB2 := Lib.hid hb2
      have HR := Lib.hid (fun W => rune_any (R : Int) (by omega) W)
      have HD := Lib.hid hd
      have HG := Lib.hid hg0
      clear hd hg0 hit hit2 hb2
      have hlw : w.heap.size < W.heap.size := (Array.getElem?_eq_some_iff.1 HI.out).1
      by_cases hs : 0 ≤ slashI (R : Int)
      · have HS0 := Lib.hid hs
        generalize slashI (R : Int) = q at HR hs
        go_wp2_with (go_at_call 69; refine (HR.out _).mono ?_; rintro e w2 ⟨rfl, hb⟩)
        go_ret
        refine ⟨ret_i64 (Lib.indexAny_hit HN.out HG.out ?_).symm, below_next HB2.out hb⟩
        rcases HD.out with ⟨_, e1, _⟩ | ⟨e1, _⟩
        · rw [lo_is, ← e1]; exact decide_eq_true HS0.out
        · exact absurd HS0.out (by unfold slashI; rw [if_neg (by omega), if_neg (by omega)]; decide)
      · have HS := Lib.hid hs
        clear hs
        have hs2 : slashI (R : Int) < 0 := by have := HS.out; omega
        generalize slashI (R : Int) = q at HR hs2
        go_wp2_with (go_at_call 69; refine (HR.out _).mono ?_; rintro e w2 ⟨rfl, hb⟩)
        have hK : 1 ≤ K ∧ pos + K ≤ s.size := by
          rcases HD.out with ⟨e1, _⟩ | ⟨_, e1, e2, _⟩
          · omega
          · exact ⟨e1, e2⟩
        go_roundg (s.size - (pos + K))
        case measure => omega
        case rel =>
          refine ⟨pos + K, hK.2, by omega, (hb.block _ hlw).trans HI.out, below_next HB2.out hb, noany_run HN.out K fun j hj => ?_⟩
          rcases HD.out with ⟨e1, e2, e3⟩ | ⟨_, _, _, e3⟩
          · obtain rfl : j = 0 := by omega
            refine ⟨_, by rw [Nat.add_zero]; exact HG.out, ?_⟩
            rw [lo_is, ← e2]
            exact decide_eq_false (by have h_ := HS.out; omega)
          · exact ⟨_, get_at s (pos + j) (by omega), hi_no (e3 j hj)⟩
    · have hnx : ∀ ty, (Instr.next (.pointer (some ⟨w.heap.size, 0, none⟩)) true ty).run Tryd.prog wr = _ := fun ty => Lib.run_next_end_at wr w.heap.size s pos ty hit hlt
      obtain rfl : pos = s.size := by omega
      clear hit
      go_wp2
      go_ret
      exact ⟨ret_i64 (Lib.indexAny_none (by rw [size_toList]; exact HN.out)).symm, HB.out⟩
/-- the first '/' or '?' of a text -/
theorem any_slash (s : ByteArray) (w : World) (hs : s.size < 4294967281) : Calls Tryd.prog 43 #[.string s, .string ⟨#[47, 63]⟩] w fun e w' => e = .returned (.int .i64 (Lib.indexAny s.data.toList [47, 63])) ∧ Below w.heap.size w w' := by
  by_cases h8 : s.size ≤ 8
  · exact any_short s w h8
  · refine (Tryd.strings_IndexAny_long (fun _ => by kernel_rfl) s ⟨#[47, 63]⟩ w (by decide) (by omega) hs (by decide) (fun j b hb => by
      have hm : b ∈ ([47, 63] : List UInt8) := List.mem_of_getElem? hb
      rcases List.mem_cons.1 hm with rfl | hm
      · decide
      · obtain rfl := List.mem_singleton.1 hm; decide)).mono fun e w' ⟨he, hw⟩ => ⟨he, ?_⟩
    subst hw
    exact below_alc (below_alc (Below.refl _ _) _) _
end Go.Proofs.YtjdlaofeenblkaaDoor.T

/- strings.IndexAny at "/?" in the print's form. -/
namespace Go.Proofs.YtjdlaofeenblkaaDoor.X
open Go.RowKit Go.Proofs.YtjdlaofeenblkaaDoorW.PrintWords Go.Proofs.YtjdlaofeenblkaaDoor.T
set_option linter.unusedVariables false
def strings_IndexAny.f (a0 a1 : ByteArray) : Option Int := if a1 = (⟨#[47, 63]⟩ : ByteArray) ∧ a0.size < 4294967281 then some (Lib.indexAny a0.data.toList [47, 63]) else none
theorem strings_IndexAny.calls (a0 a1 : ByteArray) (r : Int) (w : World) (HGg : Glob w) (h : strings_IndexAny.f a0 a1 = some r) : Calls Tryd.prog 43 #[.string a0, .string a1] w fun e w' => e = .returned (.int .i64 r) ∧ Below w.heap.size w w' := by
  obtain ⟨⟨rfl, h1⟩, rfl⟩ := of_lim h; exact any_slash a0 w h1
end Go.Proofs.YtjdlaofeenblkaaDoor.X

/- Functions of package strings, slices and strconv in the print's form, out of the library's contracts. -/
namespace Go.Proofs.YtjdlaofeenblkaaDoor.X
open Go.RowKit Go.Proofs.YtjdlaofeenblkaaDoorW.PrintWords Go.Proofs.YtjdlaofeenblkaaDoor.T
set_option linter.unusedVariables false
def strings_HasPrefix.f (a0 a1 : ByteArray) : Option Bool := some (Lib.hasPrefix a0.data.toList a1.data.toList)
theorem strings_HasPrefix.calls (a0 a1 : ByteArray) (r : Bool) (w : World) (HGg : Glob w) (h : strings_HasPrefix.f a0 a1 = some r) : Calls Tryd.prog 47 #[.string a0, .string a1] w fun e w' => e = .returned (.bool r) ∧ Drawn0 w w' := by
  cases h; exact (Tryd.strings_HasPrefix a0 a1 w).mono fun e w' ⟨he, hw⟩ => ⟨he, drawn_same hw⟩
def strings_HasSuffix.f (a0 a1 : ByteArray) : Option Bool := if a0.size ≤ 9223372036854775807 then some (Lib.hasSuffix a0.data.toList a1.data.toList) else none
theorem strings_HasSuffix.calls (a0 a1 : ByteArray) (r : Bool) (w : World) (HGg : Glob w) (h : strings_HasSuffix.f a0 a1 = some r) : Calls Tryd.prog 63 #[.string a0, .string a1] w fun e w' => e = .returned (.bool r) ∧ Drawn0 w w' := by
  obtain ⟨h1, rfl⟩ := of_lim h; exact (Tryd.strings_HasSuffix a0 a1 w h1).mono fun e w' ⟨he, hw⟩ => ⟨he, drawn_same hw⟩
def strings_TrimPrefix.f (a0 a1 : ByteArray) : Option ByteArray := some ⟨(Lib.trimPrefix a0.data.toList a1.data.toList).toArray⟩
theorem strings_TrimPrefix.calls (a0 a1 : ByteArray) (r : ByteArray) (w : World) (HGg : Glob w) (h : strings_TrimPrefix.f a0 a1 = some r) : Calls Tryd.prog 31 #[.string a0, .string a1] w fun e w' => e = .returned (.string r) ∧ Drawn0 w w' := by
  cases h; exact (Tryd.strings_TrimPrefix a0 a1 w).mono fun e w' ⟨he, hw⟩ => ⟨he, drawn_same hw⟩
def strings_Cut.f (a0 a1 : ByteArray) : Option (ByteArray × ByteArray × Bool) := if a0.size < 4294967281 then some (⟨(Lib.cut a0.data.toList a1.data.toList).1.toArray⟩, ⟨(Lib.cut a0.data.toList a1.data.toList).2.1.toArray⟩, (Lib.cut a0.data.toList a1.data.toList).2.2) else none
theorem strings_Cut.calls (a0 a1 : ByteArray) (r1 r2 : ByteArray) (r3 : Bool) (w : World) (HGg : Glob w) (h : strings_Cut.f a0 a1 = some (r1, r2, r3)) : Calls Tryd.prog 44 #[.string a0, .string a1] w fun e w' => e = .returned (.tuple #[.string r1, .string r2, .bool r3]) ∧ Drawn0 w w' := by
  obtain ⟨h1, h2⟩ := of_lim h; injection h2 with e1 e2; injection e2 with e2 e3; subst e1 e2 e3; obtain ⟨m, hm⟩ := HGg.maxLen
  exact (Tryd.strings_Cut a0 a1 m w h1 hm).mono fun e w' ⟨he, hw⟩ => ⟨he, drawn_of hw⟩
def strconv_Itoa.f (a0 : Int) : Option ByteArray := if -9223372036854775808 ≤ a0 ∧ a0 ≤ 9223372036854775807 then some ⟨(Lib.itoa a0).toArray⟩ else none
theorem strconv_Itoa.calls (a0 : Int) (r : ByteArray) (w : World) (HGg : Glob w) (h : strconv_Itoa.f a0 = some r) : Calls Tryd.prog 65 #[.int .i64 a0] w fun e w' => e = .returned (.string r) ∧ Below w.heap.size w w' := by
  obtain ⟨⟨h1, h2⟩, rfl⟩ := of_lim h; exact (Tryd.strconv_Itoa a0 h1 h2 w HGg.pow10).mono fun e w' ⟨he, hw⟩ => ⟨he, below_drewgrow hw⟩
def slices_Contains_string.f (l0 : List ByteArray) (a1 : ByteArray) : Option Bool := if l0.length ≤ 9223372036854775807 then some (Lib.containsS l0 a1) else none
theorem slices_Contains_string.calls (A0 : Option Addr) (c0 : Nat) (l0 : List ByteArray) (a1 : ByteArray) (r : Bool) (w : World) (hr0 : Kd.C Kd.string w A0 l0.length l0) (hc0 : l0.length ≤ c0) (HGg : Glob w) (h : slices_Contains_string.f l0 a1 = some r) : Calls Tryd.prog 40 #[.slice A0 l0.length c0, .string a1] w fun e w' => e = .returned (.bool r) ∧ Drawn0 w w' := by
  obtain ⟨h1, rfl⟩ := of_lim h
  rcases Nat.eq_zero_or_pos l0.length with h0 | h0
  · obtain rfl := List.eq_nil_of_length_eq_zero h0; exact (Tryd.slices_Contains_string_empty A0 c0 a1 w).mono fun e w' ⟨he, hw⟩ => ⟨he, drawn_same hw⟩
  · obtain ⟨b, off, rfl, hc⟩ := C_strings hr0 h0; refine (Tryd.slices_Contains_string b off l0.length c0 l0 a1 w (Nat.le_refl _) h1 hc).mono fun e w' ⟨he, hw⟩ => ⟨?_, drawn_same hw⟩; rwa [List.take_length] at he
end Go.Proofs.YtjdlaofeenblkaaDoor.X

/- strconv.Atoi at every text, under one statement. -/
namespace Go.Proofs.YtjdlaofeenblkaaDoor.T
open Go.RowKit
set_option linter.unusedVariables false
def atoiOk (s : ByteArray) : Bool := match Lib.atoiAll s.data.toList with | .ok _ => true | _ => false
def atoiV (s : ByteArray) : Int := match Lib.atoiAll s.data.toList with | .ok v => v | .range => Lib.atoiSat s.data.toList | _ => 0
theorem atoi_any (s : ByteArray) (hlim : s.size ≤ 281474976710656) (w : World) (hg : Glob w) :
    Calls Tryd.prog 74 #[.string s] w fun e w' => ∃ ev, e = .returned (.tuple #[.int .i64 (atoiV s), ev]) ∧ (if atoiOk s then ev = .nilIface else ∃ t p, ev = .iface t p) ∧ Below w.heap.size w w' := by
  unfold atoiV atoiOk
  rcases h : Lib.atoiAll s.data.toList with v | _ | _
  · refine (Tryd.strconv_Atoi_ok s (by omega) v h w).mono fun e w' ⟨he, hw⟩ => ⟨_, he, by simp, ?_⟩
    rcases hw with rfl | ⟨t, rfl⟩
    · exact Below.refl _ _
    · exact below_bytes (Below.refl _ _) _ _
  · obtain ⟨tp, p, hv⟩ := hg.errSyntax
    refine (Tryd.strconv_Atoi_syntax_var s hlim h tp p w hv).mono fun e w' ⟨N, he, h1, h2, hb⟩ => ⟨_, he, by simp, hb⟩
  · obtain ⟨tp, p, hv⟩ := hg.errRange
    refine (Tryd.strconv_Atoi_range_var s hlim h tp p w hv).mono fun e w' ⟨N, he, h1, h2, hb⟩ => ⟨_, he, by simp, hb⟩
end Go.Proofs.YtjdlaofeenblkaaDoor.T

/- uri.port in the print's form. -/
namespace Go.Proofs.YtjdlaofeenblkaaDoor.X
open Go.RowKit Go.Proofs.YtjdlaofeenblkaaDoorW.PrintWords Go.Proofs.YtjdlaofeenblkaaDoor.T
set_option linter.unusedSimpArgs false
set_option linter.unusedVariables false
def portB (s : ByteArray) : Int := if atoiOk s = true ∧ Lib.itoa (atoiV s) = s.data.toList ∧ 1 ≤ atoiV s ∧ atoiV s ≤ 65535 then atoiV s else 0
theorem atoiV_range {s : ByteArray} (h : atoiOk s = true) : -9223372036854775808 ≤ atoiV s ∧ atoiV s ≤ 9223372036854775807 := by
  unfold atoiOk at h
  unfold atoiV
  rcases hv : Lib.atoiAll s.data.toList with v | _ | _
  · exact Lib.atoiAll_bounds hv
  · rw [hv] at h; cases h
  · rw [hv] at h; cases h
def uri_port.f (a0 : ByteArray) : Option Int := if a0.size ≤ 281474976710656 then some (portB a0) else none
set_option maxHeartbeats 2000000 in
theorem uri_port.calls (a0 : ByteArray) (r : Int) (w : World) (HGg : Glob w) (h : uri_port.f a0 = some r) : Calls Tryd.prog 45 #[.string a0] w fun e w' => e = .returned (.int .i64 r) ∧ Below w.heap.size w w' := by
  obtain ⟨hlim, rfl⟩ := of_lim h
  clear h
  have HA := Lib.hid (atoi_any a0 hlim w HGg)
  have HG := Lib.hid HGg
  clear HGg hlim
  cases hok : atoiOk a0 with
  | false =>
    have HA2 : Hid (Calls Tryd.prog 74 #[.string a0] w fun e w' => (∃ tp vp, e = .returned (.tuple #[.int .i64 (atoiV a0), .iface tp vp])) ∧ Below w.heap.size w w') := Lib.hid (HA.out.mono fun e w' ⟨ev, he, hev, hb2⟩ => ⟨by
      rw [hok] at hev
      obtain ⟨tp, vp, rfl⟩ := hev
      exact ⟨tp, vp, he⟩, hb2⟩)
    have HP : Hid (portB a0 = 0) := Lib.hid (by unfold portB; rw [hok, if_neg (fun hh => by cases hh.1)])
    clear HA hok
    rw [HP.out]
    generalize atoiV a0 = av at HA2
    go_enter Tryd.func45, Tryd.ntmps45
    go_wp2_with (go_at_call 74; refine HA2.out.mono ?_; rintro e w1 ⟨⟨tp, vp, rfl⟩, hb1⟩)
    go_ret
    exact ⟨rfl, hb1⟩
  | true =>
    have hr := atoiV_range hok
    have HA2 : Hid (Calls Tryd.prog 74 #[.string a0] w fun e w' => e = .returned (.tuple #[.int .i64 (atoiV a0), .nilIface]) ∧ Below w.heap.size w w') := Lib.hid (HA.out.mono fun e w' ⟨ev, he, hev, hb2⟩ => ⟨by
      rw [hok] at hev
      have : ev = .nilIface := hev
      rw [this] at he; exact he, hb2⟩)
    have HI : Hid (∀ W, Below w.heap.size w W → Calls Tryd.prog 65 #[.int .i64 (atoiV a0)] W fun e w' => e = .returned (.string ⟨(Lib.itoa (atoiV a0)).toArray⟩) ∧ Below W.heap.size W w') := Lib.hid (fun W hb => strconv_Itoa.calls (atoiV a0) _ W (HG.out.below hb) (by unfold strconv_Itoa.f; rw [if_pos hr]))
    have HP : Hid (portB a0 = if Lib.itoa (atoiV a0) = a0.data.toList ∧ 1 ≤ atoiV a0 ∧ atoiV a0 ≤ 65535 then atoiV a0 else 0) := Lib.hid (by unfold portB; simp only [hok, true_and])
    have hte : (⟨(Lib.itoa (atoiV a0)).toArray⟩ : ByteArray).toList = Lib.itoa (atoiV a0) := by rw [Lib.toList_data]
    have hae : a0.toList = a0.data.toList := Lib.toList_data a0
    clear HA hok HG
    generalize hit : (⟨(Lib.itoa (atoiV a0)).toArray⟩ : ByteArray) = it at HI hte
    generalize Lib.itoa (atoiV a0) = il at HP hte
    clear hit
    generalize atoiV a0 = av at HA2 HI HP hr
    obtain ⟨hr1, hr2⟩ := hr
    by_cases heq : it.toList = a0.toList
    · have heq2 : (it.toList == a0.toList) = true := by simpa using heq
      have heq3 : (it.toList != a0.toList) = false := by simpa using heq
      have HE : Hid (il = a0.data.toList) := Lib.hid (by rw [← hte, heq, hae])
      clear heq hte hae
      by_cases h1 : 1 ≤ av
      · have h1n : ¬ av < 1 := by omega
        by_cases h2 : av ≤ 65535
        · have h2n : ¬ av > 65535 := by omega
          rw [HP.out, if_pos ⟨HE.out, h1, h2⟩]
          go_enter Tryd.func45, Tryd.ntmps45
          go_wp2_with (first
            | (go_at_call 74; refine HA2.out.mono ?_; rintro e w1 ⟨rfl, hb1⟩)
            | (go_at_call 65; refine (HI.out _ hb1).mono ?_; rintro e w2 ⟨rfl, hb2⟩))
          go_ret
          exact ⟨rfl, below_next hb1 hb2⟩
        · have h2n : av > 65535 := by omega
          rw [HP.out, if_neg (fun hh => h2 hh.2.2)]
          go_enter Tryd.func45, Tryd.ntmps45
          go_wp2_with (first
            | (go_at_call 74; refine HA2.out.mono ?_; rintro e w1 ⟨rfl, hb1⟩)
            | (go_at_call 65; refine (HI.out _ hb1).mono ?_; rintro e w2 ⟨rfl, hb2⟩))
          go_ret
          exact ⟨rfl, below_next hb1 hb2⟩
      · have h1n : av < 1 := by omega
        rw [HP.out, if_neg (fun hh => h1 hh.2.1)]
        go_enter Tryd.func45, Tryd.ntmps45
        go_wp2_with (first
          | (go_at_call 74; refine HA2.out.mono ?_; rintro e w1 ⟨rfl, hb1⟩)
          | (go_at_call 65; refine (HI.out _ hb1).mono ?_; rintro e w2 ⟨rfl, hb2⟩))
        go_ret
        exact ⟨rfl, below_next hb1 hb2⟩
    · have heq2 : (it.toList == a0.toList) = false := by simpa using heq
      have heq3 : (it.toList != a0.toList) = true := by simpa using heq
      rw [HP.out, if_neg (fun hh => heq (by rw [hte, hh.1, hae]))]
      clear heq hte hae
      go_enter Tryd.func45, Tryd.ntmps45
      go_wp2_with (first
        | (go_at_call 74; refine HA2.out.mono ?_; rintro e w1 ⟨rfl, hb1⟩)
        | (go_at_call 65; refine (HI.out _ hb1).mono ?_; rintro e w2 ⟨rfl, hb2⟩))
      go_ret
      exact ⟨rfl, below_next hb1 hb2⟩
end Go.Proofs.YtjdlaofeenblkaaDoor.X
