/- acl.May, acl.All in the print's form. -/
import Derived.Test.YtjdlaofeenblkaaDoorRules
import Derived.Test.YtjdlaofeenblkaaDoorAcl
namespace Go.Proofs.YtjdlaofeenblkaaDoor.X
open Go.RowKit Go.Proofs.YtjdlaofeenblkaaDoorW.PrintWords Go.Proofs.YtjdlaofeenblkaaDoor.T
set_option linter.unusedSimpArgs false
set_option linter.unusedVariables false
/-- the sizes at which a rule is asked -/
def fitsM (l : List ByteArray) : Bool := l.all fun m => decide (m.size ≤ 281474976710656)
theorem fitsM_mem {l : List ByteArray} (h : fitsM l = true) : ∀ m ∈ l, m.size ≤ 281474976710656 := fun m hm => by
  unfold fitsM at h
  rw [List.all_eq_true] at h
  simpa using h m hm
def acl_May.f (a0_0 : Bool) (a0_1 : ByteArray) (a0_2 : Int) (a0_3 : Int) (l0_4 : List ByteArray) : Option Bool :=
  if a0_1.size < 4294967281 ∧ fitsM l0_4 = true ∧ l0_4.length ≤ 9223372036854775807 then some (mayB a0_0 a0_1 a0_2 a0_3 l0_4) else none
theorem acl_May.calls (a0_0 : Bool) (a0_1 : ByteArray) (a0_2 : Int) (a0_3 : Int) (A0_4 : Option Addr) (c0_4 : Nat) (l0_4 : List ByteArray) (r : Bool) (w : World) (hr0_4 : Kd.C Kd.string w A0_4 l0_4.length l0_4) (hc0_4 : l0_4.length ≤ c0_4) (HGg : Glob w) (h : acl_May.f a0_0 a0_1 a0_2 a0_3 l0_4 = some r) :
    Calls Tryd.prog 12 #[.agg #[.bool a0_0, .string a0_1, .int .i64 a0_2, .int .i64 a0_3, .slice A0_4 l0_4.length c0_4]] w fun e w' => e = .returned (.bool r) ∧ Below w.heap.size w w' := by
  obtain ⟨⟨h1, h2, h3⟩, rfl⟩ := of_lim h
  exact may_any a0_0 a0_1 a0_2 a0_3 A0_4 c0_4 l0_4 w HGg h1 (fitsM_mem h2) h3 (fun h0 => C_strings hr0_4 h0)
def mayR (x : S25) : Bool := mayB x.f0 x.f1 x.f2 x.f3 x.f4
def fitsR (x : S25) : Bool := decide (x.f1.size < 4294967281) && (fitsM x.f4 && decide (x.f4.length ≤ 9223372036854775807))
theorem fitsR_f {x : S25} (h : fitsR x = true) : acl_May.f x.f0 x.f1 x.f2 x.f3 x.f4 = some (mayR x) := by
  unfold fitsR at h
  simp only [Bool.and_eq_true, decide_eq_true_eq] at h
  unfold acl_May.f mayR
  rw [if_pos h]
theorem all_r1 (w : World) (hg : Glob w) : PredR 38 #[] (fun x => !mayR x) (fun x => fitsR x = true) w := by
  intro W x A c hb hx hC hl
  have HM := Lib.hid (fun (W1 : World) (h1 : Below W.heap.size W W1) => acl_May.calls x.f0 x.f1 x.f2 x.f3 A c x.f4 (mayR x) W1 (Kd.C_below hC h1) hl ((hg.below hb).below h1) (fitsR_f hx))
  clear hb hC hl hg hx
  show Calls _ _ #[ruleV x A c] _ _
  unfold ruleV
  cases hq : mayR x with
  | _ =>
    rw [hq] at HM
    have HQ := Lib.hid hq
    clear hq
    go_enter Tryd.func38, Tryd.ntmps38
    go_wp2_with (go_at_call 12; refine (HM.out _ (below_alc (Below.refl _ _) _)).mono ?_; rintro e w1 ⟨rfl, hb1⟩)
    go_ret
    exact ⟨ret_bool (by rw [HQ.out]; rfl), below_next (below_alc (Below.refl _ _) _) hb1⟩
theorem fn_all_r1 : ∀ args w, (callFunc 38 args).run Tryd.prog w = .ok (.enter 38 args) w := enters_of Tryd.func38 (by kernel_rfl) rfl
def allB (l : List S25) : Bool := decide (l.length ≤ 16) && l.all mayR
def acl_All.f (l0 : List S25) : Option Bool := if l0.all fitsR = true ∧ l0.length ≤ 9223372036854775807 then some (allB l0) else none
theorem acl_All.calls (A0 : Option Addr) (c0 : Nat) (l0 : List S25) (r : Bool) (w : World) (hr0 : Kd.C k25 w A0 l0.length l0) (hc0 : l0.length ≤ c0) (HGg : Glob w) (h : acl_All.f l0 = some r) :
    Calls Tryd.prog 14 #[.slice A0 l0.length c0] w fun e w' => e = .returned (.bool r) ∧ Below w.heap.size w w' := by
  obtain ⟨⟨h1, h3⟩, rfl⟩ := of_lim h
  have hc := contains_rule 38 #[] (fun x => !mayR x) _ fn_all_r1 A0 c0 l0 w (all_r1 w HGg) (fun x hx => List.all_eq_true.1 h1 x hx) h3 hr0
  have HA : Hid (allB l0 = (decide (l0.length ≤ 16) && !(l0.any fun x => !mayR x))) := Lib.hid (by unfold allB; rw [List.not_any_eq_all_not]; simp)
  generalize hr : (l0.any fun x => !mayR x) = r at hc HA
  have HC := Lib.hid hc
  clear hc hr hr0 HGg h h1
  generalize l0.length = n at HC HA h3
  by_cases h16 : n ≤ 16
  · have h16a : (n : Int) ≤ 16 := by omega
    rw [decide_eq_true h16] at HA
    go_enter Tryd.func14, Tryd.ntmps14
    go_wp2_with (go_at_call 37; refine HC.out.mono ?_; rintro e w' ⟨rfl, hb⟩)
    go_ret
    exact ⟨ret_bool (by rw [HA.out]; rfl), hb⟩
  · have h16a : ¬ (n : Int) ≤ 16 := by omega
    rw [decide_eq_false h16] at HA
    clear h16
    go_enter Tryd.func14, Tryd.ntmps14
    go_wp2
    go_ret
    exact ⟨ret_bool (by rw [HA.out]; rfl), Below.refl _ _⟩
end Go.Proofs.YtjdlaofeenblkaaDoor.X
