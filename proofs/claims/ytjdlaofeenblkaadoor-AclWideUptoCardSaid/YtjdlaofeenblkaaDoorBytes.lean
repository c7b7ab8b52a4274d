/- Small lemmas for walks; slices.ContainsFunc on bytes; text.all. -/
import Derived.Test.YtjdlaofeenblkaaDoorProg
import Derived.Test.YtjdlaofeenblkaaDoorSpec
import Derived.Test.YtjdlaofeenblkaaDoorShelf
import Derived.Deep.Draws
import Derived.Tactics
import Derived.WalkKit
import Derived.KernelRfl
import Derived.RowKit3
import Derived.Deep.LoopGhost
import Derived.Lib.ConvBytes
import Derived.Lib.Hide
import Derived.Shelf.Abstract
import Derived.Sort.Grow
import Derived.Outline
namespace Go.Proofs.YtjdlaofeenblkaaDoor.T
open Go.RowKit
set_option linter.unusedSimpArgs false
set_option linter.unusedVariables false

theorem isEmpty_data0 (s : ByteArray) : s.toList.isEmpty = s.data.toList.isEmpty := by
  have h : s.toList = s.data.toList := Lib.toList_data s
  rw [h]
theorem ret_i64 {a b : Int} (h : a = b) : Ending.returned (.int .i64 a) = .returned (.int .i64 b) := by rw [h]
theorem ret_bool {a b : Bool} (h : a = b) : Ending.returned (.bool a) = .returned (.bool b) := by rw [h]
theorem ret_str {a b : ByteArray} (h : a = b) : Ending.returned (.string a) = .returned (.string b) := by rw [h]
theorem below_next {w W W1 : World} (h : Below w.heap.size w W) (k : Below W.heap.size W W1) : Below w.heap.size w W1 := h.trans (k.mono h.size)
theorem below_drw {w W : World} (h : Below w.heap.size w W) : Below w.heap.size w W.drew := ⟨h.os, h.tape, h.output, h.size, h.block⟩
theorem below_drwN {w W : World} (h : Below w.heap.size w W) (n : Nat) : Below w.heap.size w (W.drewN n) := ⟨h.os, h.tape, h.output, h.size, h.block⟩
theorem below_alc {w W : World} (h : Below w.heap.size w W) (o : Obj) : Below w.heap.size w (W.alloc o) := h.alloc h.size o
theorem below_bytes {w W : World} (h : Below w.heap.size w W) (e : TypeId) (s : ByteArray) : Below w.heap.size w (Lib.bytesWorld W e s) :=
  below_next h ⟨rfl, rfl, rfl, by rw [Lib.bytesWorld_size]; omega, fun j hj => Lib.bytesWorld_at_old W e s j hj⟩

theorem below_drewN1 (w : World) (n : Nat) : Below w.heap.size w (w.drewN n) := by
  have := Below.refl w.heap.size w
  exact ⟨this.os, this.tape, this.output, this.size, this.block⟩
theorem below_grw {w w' : World} (h : ∃ k os, w' = Go.Sort.grow (w.drewN k) os) : Below w.heap.size w w' := by
  obtain ⟨k, os, rfl⟩ := h
  refine below_next (below_drewN1 w k) ⟨rfl, rfl, rfl, ?_, fun j hj => ?_⟩
  · show (w.drewN k).heap.size ≤ ((w.drewN k).heap ++ os).size
    rw [Array.size_append]; omega
  · show ((w.drewN k).heap ++ os)[j]? = (w.drewN k).heap[j]?
    rw [Array.getElem?_append_left hj]
/-- a function value that tells whether p holds of a byte -/
def PredB (g : Nat) (lb : Array Value) (p : UInt8 → Bool) (w : World) : Prop :=
  ∀ (W : World) (c : UInt8), Below w.heap.size w W → Calls Tryd.prog g (#[.int .u8 c.toNat] ++ lb) W fun e w' => e = .returned (.bool (p c)) ∧ Below W.heap.size W w'
theorem PredB.later {g : Nat} {lb : Array Value} {p : UInt8 → Bool} {w W : World} (h : PredB g lb p w) (hb : Below w.heap.size w W) : PredB g lb p W := fun W1 c h1 => h W1 c (below_next hb h1)

set_option maxHeartbeats 1000000 in
theorem index_byte (g : Nat) (lb : Array Value) (p : UInt8 → Bool) (eg : ∀ args w, (callFunc g args).run Tryd.prog w = .ok (.enter g args) w) (b off n c : Nat) (zs : List UInt8) (w : World)
    (hp : PredB g lb p w) (hn : zs.length = n) (hbig : n ≤ 9223372036854775807) (hc : ∀ j, j < n → w.cell? ⟨b, off + j, none⟩ = some (.int .u8 (zs.getD j 0).toNat)) :
    Calls Tryd.prog 98 #[.slice (some ⟨b, off, none⟩) n c, .func (.func g) #[] lb] w fun e w' => e = .returned (.int .i64 (fidx p zs)) ∧ Below w.heap.size w w' := by
  have HP := Lib.hid hp; clear hp
  have HN := Lib.hid hn; clear hn
  have HC := Lib.hid hc; clear hc
  go_enter Tryd.func98, Tryd.ntmps98
  go_wp2
  go_loopg [5, 8] n (fun gg _ s8 wr => ∃ kk : Nat, kk ≤ n ∧ n - kk ≤ gg ∧ s8 = .int .i64 kk ∧ Aside (Below w.heap.size w wr) ∧ Aside (∀ j, j < kk → p (zs.getD j 0) = false))
  case atStart => exact ⟨0, Nat.zero_le _, by omega, rfl, Below.refl _ _, fun j hj => absurd hj (Nat.not_lt_zero _)⟩
  case round =>
    obtain ⟨kk, hkk, hg, rfl, HB0, A⟩ := hrel
    have HB : Hid (Below w.heap.size w wr) := Lib.hid HB0.out
    clear HB0
    by_cases hlt : kk < n
    · have hltz : (kk : Int) < (n : Int) := by omega
      have hcell0 := HC.out kk hlt
      have hcell : wr.cell? ⟨b, off + kk, none⟩ = some (.int .u8 (zs.getD kk 0).toNat) := (HB.out.cell (World.block_lt_of_cell? w _ hcell0)).trans hcell0
      clear hcell0
      generalize hy : zs.getD kk 0 = y at hcell
      have B : Hid (zs.getD kk 0 = y) := Lib.hid hy
      clear hy
      have hcall := fun W hb => HP.out W y hb
      cases hq : p y with
      | true =>
        rw [hq] at hcall
        have HCALL := Lib.hid hcall; clear hcall
        have HQ := Lib.hid hq; clear hq
        go_wp2_with (go_at_fn g; refine (HCALL.out _ HB.out).mono ?_; rintro e w' ⟨rfl, hb⟩)
        go_ret
        exact ⟨ret_i64 (fidx_hit p 0 zs kk (by have := HN.out; omega) (by rw [B.out]; exact HQ.out) A.out).symm, below_next HB.out hb⟩
      | false =>
        rw [hq] at hcall
        have HCALL := Lib.hid hcall; clear hcall
        have HQ := Lib.hid hq; clear hq
        go_wp2_with (go_at_fn g; refine (HCALL.out _ HB.out).mono ?_; rintro e w' ⟨rfl, hb⟩)
        go_roundg (n - (kk + 1))
        case measure => omega
        case rel =>
          refine ⟨kk + 1, by omega, by omega, by go_num, below_next HB.out hb, fun j hj => ?_⟩
          by_cases e : j = kk
          · subst e
            rw [B.out]; exact HQ.out
          · exact A.out j (by omega)
    · have hltz : ¬ (kk : Int) < (n : Int) := by omega
      obtain rfl : kk = n := by omega
      go_wp2
      go_ret
      exact ⟨ret_i64 (fidx_miss p 0 zs (by have := HN.out; intro j hj; exact A.out j (by omega))).symm, HB.out⟩

theorem contains_byte (g : Nat) (lb : Array Value) (p : UInt8 → Bool) (eg : ∀ args w, (callFunc g args).run Tryd.prog w = .ok (.enter g args) w) (b off n c : Nat) (zs : List UInt8) (w : World)
    (hp : PredB g lb p w) (hn : zs.length = n) (hbig : n ≤ 9223372036854775807) (hc : ∀ j, j < n → w.cell? ⟨b, off + j, none⟩ = some (.int .u8 (zs.getD j 0).toNat)) :
    Calls Tryd.prog 77 #[.slice (some ⟨b, off, none⟩) n c, .func (.func g) #[] lb] w fun e w' => e = .returned (.bool (zs.any p)) ∧ Below w.heap.size w w' := by
  have H := Lib.hid (index_byte g lb p eg b off n c zs w hp hn hbig hc)
  clear hp hn hc
  go_enter Tryd.func77, Tryd.ntmps77
  go_wp2_with (go_at_call 98; refine H.out.mono ?_; rintro e w' ⟨rfl, hb⟩)
  go_ret
  exact ⟨ret_bool (fidx_any p zs), hb⟩

/-- '[]byte(s)', asked whether one of its bytes is such -/
theorem contains_conv (g : Nat) (lb : Array Value) (p : UInt8 → Bool) (eg : ∀ args w, (callFunc g args).run Tryd.prog w = .ok (.enter g args) w) (s : ByteArray) (w W : World) (m c : Nat)
    (hm : w.heap.size = m) (hw : Below W.heap.size W w) (hp : PredB g lb p W) (hs : s.size ≤ 9223372036854775807) :
    Calls Tryd.prog 77 #[.slice (some ⟨m, 0, none⟩) s.size c, .func (.func g) #[] lb] (Lib.bytesWorld w 5 s) fun e w' => e = .returned (.bool (s.data.toList.any p)) ∧ Below W.heap.size W w' := by
  subst hm
  refine (contains_byte g lb p eg w.heap.size 0 s.size c s.data.toList _ (hp.later (below_bytes hw _ s)) (size_toList s) hs (fun j hj => ?_)).mono fun e w' ⟨he, hb⟩ => ⟨he, below_next (below_bytes hw _ s) hb⟩
  rw [Nat.zero_add]
  exact Lib.bytesWorld_cell w _ s j hj

theorem all_1 (g : Nat) (lb : Array Value) (p : UInt8 → Bool) (eg : ∀ args w, (callFunc g args).run Tryd.prog w = .ok (.enter g args) w) (B : Nat) (w : World)
    (hp : PredB g lb p w) (hB : B < w.heap.size) (hc : w.cell? ⟨B, 0, none⟩ = some (.func (.func g) #[] lb)) : PredB 85 #[.pointer (some ⟨B, 0, none⟩)] (fun c => !p c) w := by
  intro W c hb
  have hc' : W.cell? ⟨B, 0, none⟩ = some (.func (.func g) #[] lb) := (hb.cell (p := ⟨B, 0, none⟩) hB).trans hc
  clear hc
  have HP := Lib.hid (fun W1 h1 => hp W1 c (below_next hb h1)); clear hp hb
  cases hq : p c with
  | _ =>
    rw [hq] at HP
    have HQ := Lib.hid hq; clear hq
    go_enter Tryd.func85, Tryd.ntmps85
    go_wp2_with (go_at_fn g; refine (HP.out _ (Below.refl _ _)).mono ?_; rintro e w' ⟨rfl, hb1⟩)
    go_ret
    exact ⟨ret_bool (by rw [HQ.out]; rfl), hb1⟩

theorem cell_box (w : World) (v : Value) (t : TypeId) : (w.alloc (.cells #[v] t)).cell? ⟨w.heap.size, 0, none⟩ = some v := by go_simp
theorem all_any (g : Nat) (lb : Array Value) (p : UInt8 → Bool) (eg : ∀ args w, (callFunc g args).run Tryd.prog w = .ok (.enter g args) w) (s : ByteArray) (w : World)
    (hp : PredB g lb p w) (hs : s.size ≤ 9223372036854775807) :
    Calls Tryd.prog 56 #[.string s, .func (.func g) #[] lb] w fun e w' => e = .returned (.bool (s.data.toList.all p)) ∧ Below w.heap.size w w' := by
  have hcv := fun w => Lib.run_convert_string_bytes (P := Tryd.prog) w 9 41 5 s Tryd.underlying9 Tryd.underlying41 Tryd.underlying5
  have e1 : ∀ args w, (callFunc 85 args).run Tryd.prog w = .ok (.enter 85 args) w := enters_of Tryd.func85 (by kernel_rfl) rfl
  have hb0 : Below w.heap.size w (w.alloc (.cells #[.func (.func g) #[] lb] 66)) := below_alc (Below.refl _ _) _
  have hp1 := all_1 g lb p eg w.heap.size (w.alloc (.cells #[.func (.func g) #[] lb] 66)) (hp.later hb0) (by simp) (cell_box _ _ _)
  have hc := fun c => contains_conv _ _ _ e1 s _ _ (w.heap.size + 1) c (by simp) (Below.refl _ _) hp1 hs
  generalize hr : (s.data.toList.any fun c => !p c) = r at hc
  have HR := Lib.hid hr; clear hr
  have HC := Lib.hid hc; clear hc
  have HB := Lib.hid hb0
  clear hp hp1 hb0 e1
  go_enter Tryd.func56, Tryd.ntmps56
  go_wp2_with (go_at_call 77; refine (HC.out _).mono ?_; rintro e w' ⟨rfl, hb⟩)
  go_ret
  refine ⟨ret_bool ?_, below_next HB.out hb⟩
  rw [← HR.out, List.not_any_eq_all_not]
  simp
end Go.Proofs.YtjdlaofeenblkaaDoor.T
