/- uri.all over this program. -/
import Derived.Test.YtjdlaofeenblkaaDoorBytes
namespace Go.Proofs.YtjdlaofeenblkaaDoor.T
open Go.RowKit
set_option linter.unusedSimpArgs false
set_option linter.unusedVariables false
theorem uall_1 (g : Nat) (lb : Array Value) (p : UInt8 → Bool) (eg : ∀ args w, (callFunc g args).run Tryd.prog w = .ok (.enter g args) w) (B : Nat) (w : World)
    (hp : PredB g lb p w) (hB : B < w.heap.size) (hc : w.cell? ⟨B, 0, none⟩ = some (.func (.func g) #[] lb)) : PredB 78 #[.pointer (some ⟨B, 0, none⟩)] (fun c => !p c) w := by
  intro W c hb
  have hc' : W.cell? ⟨B, 0, none⟩ = some (.func (.func g) #[] lb) := (hb.cell (p := ⟨B, 0, none⟩) hB).trans hc
  clear hc
  have HP := Lib.hid (fun W1 h1 => hp W1 c (below_next hb h1)); clear hp hb
  cases hq : p c with
  | _ =>
    rw [hq] at HP
    have HQ := Lib.hid hq; clear hq
    go_enter Tryd.func78, Tryd.ntmps78
    go_wp2_with (go_at_fn g; refine (HP.out _ (Below.refl _ _)).mono ?_; rintro e w' ⟨rfl, hb1⟩)
    go_ret
    exact ⟨ret_bool (by rw [HQ.out]; rfl), hb1⟩

theorem uall_any (g : Nat) (lb : Array Value) (p : UInt8 → Bool) (eg : ∀ args w, (callFunc g args).run Tryd.prog w = .ok (.enter g args) w) (s : ByteArray) (w : World)
    (hp : PredB g lb p w) (hs : s.size ≤ 9223372036854775807) :
    Calls Tryd.prog 49 #[.string s, .func (.func g) #[] lb] w fun e w' => e = .returned (.bool (s.data.toList.all p)) ∧ Below w.heap.size w w' := by
  have hcv := fun w => Lib.run_convert_string_bytes (P := Tryd.prog) w 9 41 5 s Tryd.underlying9 Tryd.underlying41 Tryd.underlying5
  have e1 : ∀ args w, (callFunc 78 args).run Tryd.prog w = .ok (.enter 78 args) w := enters_of Tryd.func78 (by kernel_rfl) rfl
  have hb0 : Below w.heap.size w (w.alloc (.cells #[.func (.func g) #[] lb] 66)) := below_alc (Below.refl _ _) _
  have hp1 := uall_1 g lb p eg w.heap.size (w.alloc (.cells #[.func (.func g) #[] lb] 66)) (hp.later hb0) (by simp) (cell_box _ _ _)
  have hc := fun c => contains_conv _ _ _ e1 s _ _ (w.heap.size + 1) c (by simp) (Below.refl _ _) hp1 hs
  generalize hr : (s.data.toList.any fun c => !p c) = r at hc
  have HR := Lib.hid hr; clear hr
  have HC := Lib.hid hc; clear hc
  have HB := Lib.hid hb0
  clear hp hp1 hb0 e1
  go_enter Tryd.func49, Tryd.ntmps49
  go_wp2_with (go_at_call 77; refine (HC.out _).mono ?_; rintro e w' ⟨rfl, hb⟩)
  go_ret
  refine ⟨ret_bool ?_, below_next HB.out hb⟩
  rw [← HR.out, List.not_any_eq_all_not]
  simp
end Go.Proofs.YtjdlaofeenblkaaDoor.T
