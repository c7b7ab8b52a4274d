/- The law UriBack: what the walk shows, put together with the plain law, as the given statement asks it: true for every argument of bulk at most 1048576. -/
import Derived.Test.YtjdlaofeenblkaaDoorMUriBack1
import Derived.Test.YtjdlaofeenblkaaDoorMUriBack3
import Derived.Deep.LoopGhost
import Derived.Deep.DeepCutAuto
import Derived.Deep.RegionHeld3
import Derived.Test.YtjdlaofeenblkaaDoorCards
import Derived.Test.YtjdlaofeenblkaaDoorTie
import Derived.WalkKit
import Derived.ProofKit
import Derived.OpenShut
import Derived.ShutString
import Derived.ChangeOld
import Derived.Below
import Derived.SizedLaws
import Derived.Deep.DeepHandedRow
import Derived.Deep.DeepWitnessRowRef
/- tollhouselaw10.wakes, a closed function: walked by hand. -/
namespace Go.Proofs.YtjdlaofeenblkaaDoor.X
open Go.RowKit Go.Proofs.YtjdlaofeenblkaaDoorW.PrintWords Go.Proofs.YtjdlaofeenblkaaDoorW.PrintMore Go.Proofs.YtjdlaofeenblkaaDoor.T
set_option linter.unusedSimpArgs false
set_option linter.unusedVariables false
theorem wk0 : uri_Parse.f 9 (⟨#[104, 116, 116, 112, 58, 47, 47, 65, 46, 98, 58, 56, 48, 56, 48, 47, 120, 63, 121]⟩ : ByteArray) = some ((⟨#[97, 46, 98]⟩ : ByteArray), 8080, (⟨#[47, 120, 63, 121]⟩ : ByteArray), 0) := by decide +kernel
theorem wk1 : uri_Parse.f 9 (⟨#[104, 116, 116, 112, 58, 47, 47, 97, 58, 56, 48, 63, 113]⟩ : ByteArray) = some ((⟨#[97]⟩ : ByteArray), 80, (⟨#[47, 63, 113]⟩ : ByteArray), 0) := by decide +kernel
theorem wk2 : uri_Parse.f 9 (⟨#[104, 116, 116, 112, 58, 47, 47, 97, 58, 48, 56, 48, 47]⟩ : ByteArray) = some ((⟨#[]⟩ : ByteArray), 0, (⟨#[]⟩ : ByteArray), 23) := by decide +kernel
theorem wk3 : uri_Authority.f (⟨#[65, 58, 52, 52, 51]⟩ : ByteArray) = some ((⟨#[97]⟩ : ByteArray), 443, 0) := by decide +kernel
theorem wk4 : uri_Join.f 9 (⟨#[97, 46, 98]⟩ : ByteArray) 8080 (⟨#[47, 120, 63, 121]⟩ : ByteArray) (⟨#[47, 122]⟩ : ByteArray) = some ((⟨#[97, 46, 98]⟩ : ByteArray), 8080, (⟨#[47, 122]⟩ : ByteArray), 0) := by decide +kernel
theorem wk5 : uri_Join.f 9 (⟨#[97, 46, 98]⟩ : ByteArray) 8080 (⟨#[47, 120, 63, 121]⟩ : ByteArray) (⟨#[122]⟩ : ByteArray) = some ((⟨#[]⟩ : ByteArray), 0, (⟨#[]⟩ : ByteArray), 23) := by decide +kernel
theorem wk6 : uri_Text.f (⟨#[97, 46, 98]⟩ : ByteArray) 8080 (⟨#[47, 120, 63, 121]⟩ : ByteArray) = some (⟨#[104, 116, 116, 112, 58, 47, 47, 97, 46, 98, 58, 56, 48, 56, 48, 47, 120, 63, 121]⟩ : ByteArray) := by decide +kernel
theorem wk7 : uri_Host.f (⟨#[97]⟩ : ByteArray) 80 (⟨#[47, 63, 113]⟩ : ByteArray) = some (⟨#[97]⟩ : ByteArray) := by decide +kernel
def tollhouselaw10_wakes.f : Option Bool := some true
set_option maxRecDepth 100000 in
set_option maxHeartbeats 8000000 in
theorem tollhouselaw10_wakes.calls (r : Bool) (w : World) (HGg : Glob w) (h : tollhouselaw10_wakes.f = some r) : Calls Tryd.prog 25 #[] w fun e w' => e = .returned (.bool r) ∧ Below w.heap.size w w' := by
  obtain rfl := Option.some.inj h
  clear h
  have Q0 := Lib.hid (fun (W : World) (hb : Below w.heap.size w W) => uri_Parse.calls _ _ _ _ _ _ W (HGg.below hb) wk0)
  have Q1 := Lib.hid (fun (W : World) (hb : Below w.heap.size w W) => uri_Parse.calls _ _ _ _ _ _ W (HGg.below hb) wk1)
  have Q2 := Lib.hid (fun (W : World) (hb : Below w.heap.size w W) => uri_Parse.calls _ _ _ _ _ _ W (HGg.below hb) wk2)
  have Q3 := Lib.hid (fun (W : World) (hb : Below w.heap.size w W) => uri_Authority.calls _ _ _ _ W (HGg.below hb) wk3)
  have Q4 := Lib.hid (fun (W : World) (hb : Below w.heap.size w W) => uri_Join.calls _ _ _ _ _ _ _ _ _ W (HGg.below hb) wk4)
  have Q5 := Lib.hid (fun (W : World) (hb : Below w.heap.size w W) => uri_Join.calls _ _ _ _ _ _ _ _ _ W (HGg.below hb) wk5)
  have Q6 := Lib.hid (fun (W : World) (hb : Below w.heap.size w W) => uri_Text.calls _ _ _ _ W (HGg.below hb) wk6)
  have Q7 := Lib.hid (fun (W : World) (hb : Below w.heap.size w W) => uri_Host.calls _ _ _ _ W (HGg.below hb) wk7)
  clear HGg
  have tk0 : True := trivial
  have tk1 : True := trivial
  have tk2 : True := trivial
  have tk3 : True := trivial
  have tk4 : True := trivial
  have tk5 : True := trivial
  have tk6 : True := trivial
  have tk7 : True := trivial
  go_enter Tryd.func25, Tryd.ntmps25
  go_wp2_with (first
    | (go_at_call 23; have t_ := tk0; clear tk0; clear t_; refine (Q0.out _ (Below.refl _ _)).mono ?_; rintro e w0 ⟨rfl, hb⟩; have HB0 := Lib.hid (below_next (Below.refl _ _) hb); clear hb)
    | (go_at_call 23; have t_ := tk1; clear tk1; clear t_; refine (Q1.out _ (below_alc HB0.out _)).mono ?_; rintro e w1 ⟨rfl, hb⟩; have hc1_0_0 : w1.cell? ⟨w0.heap.size, 0, none⟩ = some (.string (⟨#[97, 46, 98]⟩ : ByteArray)) := pw_cell_below hb (show (w0.alloc (.cells #[.string (⟨#[97, 46, 98]⟩ : ByteArray), .int .i64 8080, .string (⟨#[47, 120, 63, 121]⟩ : ByteArray)] 35)).cell? ⟨w0.heap.size, 0, none⟩ = some (.string (⟨#[97, 46, 98]⟩ : ByteArray)) by go_simp); have hd1_0_0 : (w1.alloc (.cells #[.string (⟨#[97]⟩ : ByteArray), .int .i64 80, .string (⟨#[47, 63, 113]⟩ : ByteArray)] 35)).cell? ⟨w0.heap.size, 0, none⟩ = some (.string (⟨#[97, 46, 98]⟩ : ByteArray)) := pw_cell_below (below_alc (Below.refl _ _) _) hc1_0_0; have hc1_0_1 : w1.cell? ⟨w0.heap.size, 1, none⟩ = some (.int .i64 8080) := pw_cell_below hb (show (w0.alloc (.cells #[.string (⟨#[97, 46, 98]⟩ : ByteArray), .int .i64 8080, .string (⟨#[47, 120, 63, 121]⟩ : ByteArray)] 35)).cell? ⟨w0.heap.size, 1, none⟩ = some (.int .i64 8080) by go_simp); have hd1_0_1 : (w1.alloc (.cells #[.string (⟨#[97]⟩ : ByteArray), .int .i64 80, .string (⟨#[47, 63, 113]⟩ : ByteArray)] 35)).cell? ⟨w0.heap.size, 1, none⟩ = some (.int .i64 8080) := pw_cell_below (below_alc (Below.refl _ _) _) hc1_0_1; have hc1_0_2 : w1.cell? ⟨w0.heap.size, 2, none⟩ = some (.string (⟨#[47, 120, 63, 121]⟩ : ByteArray)) := pw_cell_below hb (show (w0.alloc (.cells #[.string (⟨#[97, 46, 98]⟩ : ByteArray), .int .i64 8080, .string (⟨#[47, 120, 63, 121]⟩ : ByteArray)] 35)).cell? ⟨w0.heap.size, 2, none⟩ = some (.string (⟨#[47, 120, 63, 121]⟩ : ByteArray)) by go_simp); have hd1_0_2 : (w1.alloc (.cells #[.string (⟨#[97]⟩ : ByteArray), .int .i64 80, .string (⟨#[47, 63, 113]⟩ : ByteArray)] 35)).cell? ⟨w0.heap.size, 2, none⟩ = some (.string (⟨#[47, 120, 63, 121]⟩ : ByteArray)) := pw_cell_below (below_alc (Below.refl _ _) _) hc1_0_2; have HB1 := Lib.hid (below_next (below_alc HB0.out _) hb); clear hb)
    | (go_at_call 23; have t_ := tk2; clear tk2; clear t_; refine (Q2.out _ (below_alc HB1.out _)).mono ?_; rintro e w2 ⟨rfl, hb⟩; have hc2_0_0 : w2.cell? ⟨w0.heap.size, 0, none⟩ = some (.string (⟨#[97, 46, 98]⟩ : ByteArray)) := pw_cell_below hb (pw_cell_below (below_alc (Below.refl _ _) (.cells #[.string (⟨#[97]⟩ : ByteArray), .int .i64 80, .string (⟨#[47, 63, 113]⟩ : ByteArray)] 35)) hc1_0_0); have hd2_0_0 : (w2.alloc (.cells #[.string (⟨#[]⟩ : ByteArray), .int .i64 0, .string (⟨#[]⟩ : ByteArray)] 35)).cell? ⟨w0.heap.size, 0, none⟩ = some (.string (⟨#[97, 46, 98]⟩ : ByteArray)) := pw_cell_below (below_alc (Below.refl _ _) _) hc2_0_0; have hc2_0_1 : w2.cell? ⟨w0.heap.size, 1, none⟩ = some (.int .i64 8080) := pw_cell_below hb (pw_cell_below (below_alc (Below.refl _ _) (.cells #[.string (⟨#[97]⟩ : ByteArray), .int .i64 80, .string (⟨#[47, 63, 113]⟩ : ByteArray)] 35)) hc1_0_1); have hd2_0_1 : (w2.alloc (.cells #[.string (⟨#[]⟩ : ByteArray), .int .i64 0, .string (⟨#[]⟩ : ByteArray)] 35)).cell? ⟨w0.heap.size, 1, none⟩ = some (.int .i64 8080) := pw_cell_below (below_alc (Below.refl _ _) _) hc2_0_1; have hc2_0_2 : w2.cell? ⟨w0.heap.size, 2, none⟩ = some (.string (⟨#[47, 120, 63, 121]⟩ : ByteArray)) := pw_cell_below hb (pw_cell_below (below_alc (Below.refl _ _) (.cells #[.string (⟨#[97]⟩ : ByteArray), .int .i64 80, .string (⟨#[47, 63, 113]⟩ : ByteArray)] 35)) hc1_0_2); have hd2_0_2 : (w2.alloc (.cells #[.string (⟨#[]⟩ : ByteArray), .int .i64 0, .string (⟨#[]⟩ : ByteArray)] 35)).cell? ⟨w0.heap.size, 2, none⟩ = some (.string (⟨#[47, 120, 63, 121]⟩ : ByteArray)) := pw_cell_below (below_alc (Below.refl _ _) _) hc2_0_2; have hc2_1_0 : w2.cell? ⟨w1.heap.size, 0, none⟩ = some (.string (⟨#[97]⟩ : ByteArray)) := pw_cell_below hb (show (w1.alloc (.cells #[.string (⟨#[97]⟩ : ByteArray), .int .i64 80, .string (⟨#[47, 63, 113]⟩ : ByteArray)] 35)).cell? ⟨w1.heap.size, 0, none⟩ = some (.string (⟨#[97]⟩ : ByteArray)) by go_simp); have hd2_1_0 : (w2.alloc (.cells #[.string (⟨#[]⟩ : ByteArray), .int .i64 0, .string (⟨#[]⟩ : ByteArray)] 35)).cell? ⟨w1.heap.size, 0, none⟩ = some (.string (⟨#[97]⟩ : ByteArray)) := pw_cell_below (below_alc (Below.refl _ _) _) hc2_1_0; have hc2_1_1 : w2.cell? ⟨w1.heap.size, 1, none⟩ = some (.int .i64 80) := pw_cell_below hb (show (w1.alloc (.cells #[.string (⟨#[97]⟩ : ByteArray), .int .i64 80, .string (⟨#[47, 63, 113]⟩ : ByteArray)] 35)).cell? ⟨w1.heap.size, 1, none⟩ = some (.int .i64 80) by go_simp); have hd2_1_1 : (w2.alloc (.cells #[.string (⟨#[]⟩ : ByteArray), .int .i64 0, .string (⟨#[]⟩ : ByteArray)] 35)).cell? ⟨w1.heap.size, 1, none⟩ = some (.int .i64 80) := pw_cell_below (below_alc (Below.refl _ _) _) hc2_1_1; have hc2_1_2 : w2.cell? ⟨w1.heap.size, 2, none⟩ = some (.string (⟨#[47, 63, 113]⟩ : ByteArray)) := pw_cell_below hb (show (w1.alloc (.cells #[.string (⟨#[97]⟩ : ByteArray), .int .i64 80, .string (⟨#[47, 63, 113]⟩ : ByteArray)] 35)).cell? ⟨w1.heap.size, 2, none⟩ = some (.string (⟨#[47, 63, 113]⟩ : ByteArray)) by go_simp); have hd2_1_2 : (w2.alloc (.cells #[.string (⟨#[]⟩ : ByteArray), .int .i64 0, .string (⟨#[]⟩ : ByteArray)] 35)).cell? ⟨w1.heap.size, 2, none⟩ = some (.string (⟨#[47, 63, 113]⟩ : ByteArray)) := pw_cell_below (below_alc (Below.refl _ _) _) hc2_1_2; (try clear hc1_0_0 hc1_0_1 hc1_0_2); (try clear hd1_0_0 hd1_0_1 hd1_0_2); have HB2 := Lib.hid (below_next (below_alc HB1.out _) hb); clear hb)
    | (go_at_call 26; have t_ := tk3; clear tk3; clear t_; refine (Q3.out _ (below_alc HB2.out _)).mono ?_; rintro e w3 ⟨rfl, hb⟩; have hc3_0_0 : w3.cell? ⟨w0.heap.size, 0, none⟩ = some (.string (⟨#[97, 46, 98]⟩ : ByteArray)) := pw_cell_below hb (pw_cell_below (below_alc (Below.refl _ _) (.cells #[.string (⟨#[]⟩ : ByteArray), .int .i64 0, .string (⟨#[]⟩ : ByteArray)] 35)) hc2_0_0); have hc3_0_1 : w3.cell? ⟨w0.heap.size, 1, none⟩ = some (.int .i64 8080) := pw_cell_below hb (pw_cell_below (below_alc (Below.refl _ _) (.cells #[.string (⟨#[]⟩ : ByteArray), .int .i64 0, .string (⟨#[]⟩ : ByteArray)] 35)) hc2_0_1); have hc3_0_2 : w3.cell? ⟨w0.heap.size, 2, none⟩ = some (.string (⟨#[47, 120, 63, 121]⟩ : ByteArray)) := pw_cell_below hb (pw_cell_below (below_alc (Below.refl _ _) (.cells #[.string (⟨#[]⟩ : ByteArray), .int .i64 0, .string (⟨#[]⟩ : ByteArray)] 35)) hc2_0_2); have hc3_1_0 : w3.cell? ⟨w1.heap.size, 0, none⟩ = some (.string (⟨#[97]⟩ : ByteArray)) := pw_cell_below hb (pw_cell_below (below_alc (Below.refl _ _) (.cells #[.string (⟨#[]⟩ : ByteArray), .int .i64 0, .string (⟨#[]⟩ : ByteArray)] 35)) hc2_1_0); have hc3_1_1 : w3.cell? ⟨w1.heap.size, 1, none⟩ = some (.int .i64 80) := pw_cell_below hb (pw_cell_below (below_alc (Below.refl _ _) (.cells #[.string (⟨#[]⟩ : ByteArray), .int .i64 0, .string (⟨#[]⟩ : ByteArray)] 35)) hc2_1_1); have hc3_1_2 : w3.cell? ⟨w1.heap.size, 2, none⟩ = some (.string (⟨#[47, 63, 113]⟩ : ByteArray)) := pw_cell_below hb (pw_cell_below (below_alc (Below.refl _ _) (.cells #[.string (⟨#[]⟩ : ByteArray), .int .i64 0, .string (⟨#[]⟩ : ByteArray)] 35)) hc2_1_2); have hc3_2_0 : w3.cell? ⟨w2.heap.size, 0, none⟩ = some (.string (⟨#[]⟩ : ByteArray)) := pw_cell_below hb (show (w2.alloc (.cells #[.string (⟨#[]⟩ : ByteArray), .int .i64 0, .string (⟨#[]⟩ : ByteArray)] 35)).cell? ⟨w2.heap.size, 0, none⟩ = some (.string (⟨#[]⟩ : ByteArray)) by go_simp); have hc3_2_1 : w3.cell? ⟨w2.heap.size, 1, none⟩ = some (.int .i64 0) := pw_cell_below hb (show (w2.alloc (.cells #[.string (⟨#[]⟩ : ByteArray), .int .i64 0, .string (⟨#[]⟩ : ByteArray)] 35)).cell? ⟨w2.heap.size, 1, none⟩ = some (.int .i64 0) by go_simp); have hc3_2_2 : w3.cell? ⟨w2.heap.size, 2, none⟩ = some (.string (⟨#[]⟩ : ByteArray)) := pw_cell_below hb (show (w2.alloc (.cells #[.string (⟨#[]⟩ : ByteArray), .int .i64 0, .string (⟨#[]⟩ : ByteArray)] 35)).cell? ⟨w2.heap.size, 2, none⟩ = some (.string (⟨#[]⟩ : ByteArray)) by go_simp); (try clear hc2_0_0 hc2_0_1 hc2_0_2); (try clear hd2_0_0 hd2_0_1 hd2_0_2); (try clear hc2_1_0 hc2_1_1 hc2_1_2); (try clear hd2_1_0 hd2_1_1 hd2_1_2); have HB3 := Lib.hid (below_next (below_alc HB2.out _) hb); clear hb)
    | (go_at_call 28; have t_ := tk4; clear tk4; clear t_; refine (Q4.out _ HB3.out).mono ?_; rintro e w4 ⟨rfl, hb⟩; have hc4_0_0 : w4.cell? ⟨w0.heap.size, 0, none⟩ = some (.string (⟨#[97, 46, 98]⟩ : ByteArray)) := pw_cell_below hb hc3_0_0; have hd4_0_0 : (w4.alloc (.cells #[.string (⟨#[97, 46, 98]⟩ : ByteArray), .int .i64 8080, .string (⟨#[47, 122]⟩ : ByteArray)] 35)).cell? ⟨w0.heap.size, 0, none⟩ = some (.string (⟨#[97, 46, 98]⟩ : ByteArray)) := pw_cell_below (below_alc (Below.refl _ _) _) hc4_0_0; have hc4_0_1 : w4.cell? ⟨w0.heap.size, 1, none⟩ = some (.int .i64 8080) := pw_cell_below hb hc3_0_1; have hd4_0_1 : (w4.alloc (.cells #[.string (⟨#[97, 46, 98]⟩ : ByteArray), .int .i64 8080, .string (⟨#[47, 122]⟩ : ByteArray)] 35)).cell? ⟨w0.heap.size, 1, none⟩ = some (.int .i64 8080) := pw_cell_below (below_alc (Below.refl _ _) _) hc4_0_1; have hc4_0_2 : w4.cell? ⟨w0.heap.size, 2, none⟩ = some (.string (⟨#[47, 120, 63, 121]⟩ : ByteArray)) := pw_cell_below hb hc3_0_2; have hd4_0_2 : (w4.alloc (.cells #[.string (⟨#[97, 46, 98]⟩ : ByteArray), .int .i64 8080, .string (⟨#[47, 122]⟩ : ByteArray)] 35)).cell? ⟨w0.heap.size, 2, none⟩ = some (.string (⟨#[47, 120, 63, 121]⟩ : ByteArray)) := pw_cell_below (below_alc (Below.refl _ _) _) hc4_0_2; have hc4_1_0 : w4.cell? ⟨w1.heap.size, 0, none⟩ = some (.string (⟨#[97]⟩ : ByteArray)) := pw_cell_below hb hc3_1_0; have hd4_1_0 : (w4.alloc (.cells #[.string (⟨#[97, 46, 98]⟩ : ByteArray), .int .i64 8080, .string (⟨#[47, 122]⟩ : ByteArray)] 35)).cell? ⟨w1.heap.size, 0, none⟩ = some (.string (⟨#[97]⟩ : ByteArray)) := pw_cell_below (below_alc (Below.refl _ _) _) hc4_1_0; have hc4_1_1 : w4.cell? ⟨w1.heap.size, 1, none⟩ = some (.int .i64 80) := pw_cell_below hb hc3_1_1; have hd4_1_1 : (w4.alloc (.cells #[.string (⟨#[97, 46, 98]⟩ : ByteArray), .int .i64 8080, .string (⟨#[47, 122]⟩ : ByteArray)] 35)).cell? ⟨w1.heap.size, 1, none⟩ = some (.int .i64 80) := pw_cell_below (below_alc (Below.refl _ _) _) hc4_1_1; have hc4_1_2 : w4.cell? ⟨w1.heap.size, 2, none⟩ = some (.string (⟨#[47, 63, 113]⟩ : ByteArray)) := pw_cell_below hb hc3_1_2; have hd4_1_2 : (w4.alloc (.cells #[.string (⟨#[97, 46, 98]⟩ : ByteArray), .int .i64 8080, .string (⟨#[47, 122]⟩ : ByteArray)] 35)).cell? ⟨w1.heap.size, 2, none⟩ = some (.string (⟨#[47, 63, 113]⟩ : ByteArray)) := pw_cell_below (below_alc (Below.refl _ _) _) hc4_1_2; have hc4_2_0 : w4.cell? ⟨w2.heap.size, 0, none⟩ = some (.string (⟨#[]⟩ : ByteArray)) := pw_cell_below hb hc3_2_0; have hd4_2_0 : (w4.alloc (.cells #[.string (⟨#[97, 46, 98]⟩ : ByteArray), .int .i64 8080, .string (⟨#[47, 122]⟩ : ByteArray)] 35)).cell? ⟨w2.heap.size, 0, none⟩ = some (.string (⟨#[]⟩ : ByteArray)) := pw_cell_below (below_alc (Below.refl _ _) _) hc4_2_0; have hc4_2_1 : w4.cell? ⟨w2.heap.size, 1, none⟩ = some (.int .i64 0) := pw_cell_below hb hc3_2_1; have hd4_2_1 : (w4.alloc (.cells #[.string (⟨#[97, 46, 98]⟩ : ByteArray), .int .i64 8080, .string (⟨#[47, 122]⟩ : ByteArray)] 35)).cell? ⟨w2.heap.size, 1, none⟩ = some (.int .i64 0) := pw_cell_below (below_alc (Below.refl _ _) _) hc4_2_1; have hc4_2_2 : w4.cell? ⟨w2.heap.size, 2, none⟩ = some (.string (⟨#[]⟩ : ByteArray)) := pw_cell_below hb hc3_2_2; have hd4_2_2 : (w4.alloc (.cells #[.string (⟨#[97, 46, 98]⟩ : ByteArray), .int .i64 8080, .string (⟨#[47, 122]⟩ : ByteArray)] 35)).cell? ⟨w2.heap.size, 2, none⟩ = some (.string (⟨#[]⟩ : ByteArray)) := pw_cell_below (below_alc (Below.refl _ _) _) hc4_2_2; (try clear hc3_0_0 hc3_0_1 hc3_0_2); (try clear hd3_0_0 hd3_0_1 hd3_0_2); (try clear hc3_1_0 hc3_1_1 hc3_1_2); (try clear hd3_1_0 hd3_1_1 hd3_1_2); (try clear hc3_2_0 hc3_2_1 hc3_2_2); (try clear hd3_2_0 hd3_2_1 hd3_2_2); have HB4 := Lib.hid (below_next HB3.out hb); clear hb)
    | (go_at_call 28; have t_ := tk5; clear tk5; clear t_; refine (Q5.out _ (below_alc HB4.out _)).mono ?_; rintro e w5 ⟨rfl, hb⟩; have hc5_0_0 : w5.cell? ⟨w0.heap.size, 0, none⟩ = some (.string (⟨#[97, 46, 98]⟩ : ByteArray)) := pw_cell_below hb (pw_cell_below (below_alc (Below.refl _ _) (.cells #[.string (⟨#[97, 46, 98]⟩ : ByteArray), .int .i64 8080, .string (⟨#[47, 122]⟩ : ByteArray)] 35)) hc4_0_0); have hd5_0_0 : (w5.alloc (.cells #[.string (⟨#[]⟩ : ByteArray), .int .i64 0, .string (⟨#[]⟩ : ByteArray)] 35)).cell? ⟨w0.heap.size, 0, none⟩ = some (.string (⟨#[97, 46, 98]⟩ : ByteArray)) := pw_cell_below (below_alc (Below.refl _ _) _) hc5_0_0; have hc5_0_1 : w5.cell? ⟨w0.heap.size, 1, none⟩ = some (.int .i64 8080) := pw_cell_below hb (pw_cell_below (below_alc (Below.refl _ _) (.cells #[.string (⟨#[97, 46, 98]⟩ : ByteArray), .int .i64 8080, .string (⟨#[47, 122]⟩ : ByteArray)] 35)) hc4_0_1); have hd5_0_1 : (w5.alloc (.cells #[.string (⟨#[]⟩ : ByteArray), .int .i64 0, .string (⟨#[]⟩ : ByteArray)] 35)).cell? ⟨w0.heap.size, 1, none⟩ = some (.int .i64 8080) := pw_cell_below (below_alc (Below.refl _ _) _) hc5_0_1; have hc5_0_2 : w5.cell? ⟨w0.heap.size, 2, none⟩ = some (.string (⟨#[47, 120, 63, 121]⟩ : ByteArray)) := pw_cell_below hb (pw_cell_below (below_alc (Below.refl _ _) (.cells #[.string (⟨#[97, 46, 98]⟩ : ByteArray), .int .i64 8080, .string (⟨#[47, 122]⟩ : ByteArray)] 35)) hc4_0_2); have hd5_0_2 : (w5.alloc (.cells #[.string (⟨#[]⟩ : ByteArray), .int .i64 0, .string (⟨#[]⟩ : ByteArray)] 35)).cell? ⟨w0.heap.size, 2, none⟩ = some (.string (⟨#[47, 120, 63, 121]⟩ : ByteArray)) := pw_cell_below (below_alc (Below.refl _ _) _) hc5_0_2; have hc5_1_0 : w5.cell? ⟨w1.heap.size, 0, none⟩ = some (.string (⟨#[97]⟩ : ByteArray)) := pw_cell_below hb (pw_cell_below (below_alc (Below.refl _ _) (.cells #[.string (⟨#[97, 46, 98]⟩ : ByteArray), .int .i64 8080, .string (⟨#[47, 122]⟩ : ByteArray)] 35)) hc4_1_0); have hd5_1_0 : (w5.alloc (.cells #[.string (⟨#[]⟩ : ByteArray), .int .i64 0, .string (⟨#[]⟩ : ByteArray)] 35)).cell? ⟨w1.heap.size, 0, none⟩ = some (.string (⟨#[97]⟩ : ByteArray)) := pw_cell_below (below_alc (Below.refl _ _) _) hc5_1_0; have hc5_1_1 : w5.cell? ⟨w1.heap.size, 1, none⟩ = some (.int .i64 80) := pw_cell_below hb (pw_cell_below (below_alc (Below.refl _ _) (.cells #[.string (⟨#[97, 46, 98]⟩ : ByteArray), .int .i64 8080, .string (⟨#[47, 122]⟩ : ByteArray)] 35)) hc4_1_1); have hd5_1_1 : (w5.alloc (.cells #[.string (⟨#[]⟩ : ByteArray), .int .i64 0, .string (⟨#[]⟩ : ByteArray)] 35)).cell? ⟨w1.heap.size, 1, none⟩ = some (.int .i64 80) := pw_cell_below (below_alc (Below.refl _ _) _) hc5_1_1; have hc5_1_2 : w5.cell? ⟨w1.heap.size, 2, none⟩ = some (.string (⟨#[47, 63, 113]⟩ : ByteArray)) := pw_cell_below hb (pw_cell_below (below_alc (Below.refl _ _) (.cells #[.string (⟨#[97, 46, 98]⟩ : ByteArray), .int .i64 8080, .string (⟨#[47, 122]⟩ : ByteArray)] 35)) hc4_1_2); have hd5_1_2 : (w5.alloc (.cells #[.string (⟨#[]⟩ : ByteArray), .int .i64 0, .string (⟨#[]⟩ : ByteArray)] 35)).cell? ⟨w1.heap.size, 2, none⟩ = some (.string (⟨#[47, 63, 113]⟩ : ByteArray)) := pw_cell_below (below_alc (Below.refl _ _) _) hc5_1_2; have hc5_2_0 : w5.cell? ⟨w2.heap.size, 0, none⟩ = some (.string (⟨#[]⟩ : ByteArray)) := pw_cell_below hb (pw_cell_below (below_alc (Below.refl _ _) (.cells #[.string (⟨#[97, 46, 98]⟩ : ByteArray), .int .i64 8080, .string (⟨#[47, 122]⟩ : ByteArray)] 35)) hc4_2_0); have hd5_2_0 : (w5.alloc (.cells #[.string (⟨#[]⟩ : ByteArray), .int .i64 0, .string (⟨#[]⟩ : ByteArray)] 35)).cell? ⟨w2.heap.size, 0, none⟩ = some (.string (⟨#[]⟩ : ByteArray)) := pw_cell_below (below_alc (Below.refl _ _) _) hc5_2_0; have hc5_2_1 : w5.cell? ⟨w2.heap.size, 1, none⟩ = some (.int .i64 0) := pw_cell_below hb (pw_cell_below (below_alc (Below.refl _ _) (.cells #[.string (⟨#[97, 46, 98]⟩ : ByteArray), .int .i64 8080, .string (⟨#[47, 122]⟩ : ByteArray)] 35)) hc4_2_1); have hd5_2_1 : (w5.alloc (.cells #[.string (⟨#[]⟩ : ByteArray), .int .i64 0, .string (⟨#[]⟩ : ByteArray)] 35)).cell? ⟨w2.heap.size, 1, none⟩ = some (.int .i64 0) := pw_cell_below (below_alc (Below.refl _ _) _) hc5_2_1; have hc5_2_2 : w5.cell? ⟨w2.heap.size, 2, none⟩ = some (.string (⟨#[]⟩ : ByteArray)) := pw_cell_below hb (pw_cell_below (below_alc (Below.refl _ _) (.cells #[.string (⟨#[97, 46, 98]⟩ : ByteArray), .int .i64 8080, .string (⟨#[47, 122]⟩ : ByteArray)] 35)) hc4_2_2); have hd5_2_2 : (w5.alloc (.cells #[.string (⟨#[]⟩ : ByteArray), .int .i64 0, .string (⟨#[]⟩ : ByteArray)] 35)).cell? ⟨w2.heap.size, 2, none⟩ = some (.string (⟨#[]⟩ : ByteArray)) := pw_cell_below (below_alc (Below.refl _ _) _) hc5_2_2; have hc5_4_0 : w5.cell? ⟨w4.heap.size, 0, none⟩ = some (.string (⟨#[97, 46, 98]⟩ : ByteArray)) := pw_cell_below hb (show (w4.alloc (.cells #[.string (⟨#[97, 46, 98]⟩ : ByteArray), .int .i64 8080, .string (⟨#[47, 122]⟩ : ByteArray)] 35)).cell? ⟨w4.heap.size, 0, none⟩ = some (.string (⟨#[97, 46, 98]⟩ : ByteArray)) by go_simp); have hd5_4_0 : (w5.alloc (.cells #[.string (⟨#[]⟩ : ByteArray), .int .i64 0, .string (⟨#[]⟩ : ByteArray)] 35)).cell? ⟨w4.heap.size, 0, none⟩ = some (.string (⟨#[97, 46, 98]⟩ : ByteArray)) := pw_cell_below (below_alc (Below.refl _ _) _) hc5_4_0; have hc5_4_1 : w5.cell? ⟨w4.heap.size, 1, none⟩ = some (.int .i64 8080) := pw_cell_below hb (show (w4.alloc (.cells #[.string (⟨#[97, 46, 98]⟩ : ByteArray), .int .i64 8080, .string (⟨#[47, 122]⟩ : ByteArray)] 35)).cell? ⟨w4.heap.size, 1, none⟩ = some (.int .i64 8080) by go_simp); have hd5_4_1 : (w5.alloc (.cells #[.string (⟨#[]⟩ : ByteArray), .int .i64 0, .string (⟨#[]⟩ : ByteArray)] 35)).cell? ⟨w4.heap.size, 1, none⟩ = some (.int .i64 8080) := pw_cell_below (below_alc (Below.refl _ _) _) hc5_4_1; have hc5_4_2 : w5.cell? ⟨w4.heap.size, 2, none⟩ = some (.string (⟨#[47, 122]⟩ : ByteArray)) := pw_cell_below hb (show (w4.alloc (.cells #[.string (⟨#[97, 46, 98]⟩ : ByteArray), .int .i64 8080, .string (⟨#[47, 122]⟩ : ByteArray)] 35)).cell? ⟨w4.heap.size, 2, none⟩ = some (.string (⟨#[47, 122]⟩ : ByteArray)) by go_simp); have hd5_4_2 : (w5.alloc (.cells #[.string (⟨#[]⟩ : ByteArray), .int .i64 0, .string (⟨#[]⟩ : ByteArray)] 35)).cell? ⟨w4.heap.size, 2, none⟩ = some (.string (⟨#[47, 122]⟩ : ByteArray)) := pw_cell_below (below_alc (Below.refl _ _) _) hc5_4_2; (try clear hc4_0_0 hc4_0_1 hc4_0_2); (try clear hd4_0_0 hd4_0_1 hd4_0_2); (try clear hc4_1_0 hc4_1_1 hc4_1_2); (try clear hd4_1_0 hd4_1_1 hd4_1_2); (try clear hc4_2_0 hc4_2_1 hc4_2_2); (try clear hd4_2_0 hd4_2_1 hd4_2_2); have HB5 := Lib.hid (below_next (below_alc HB4.out _) hb); clear hb)
    | (go_at_call 21; have t_ := tk6; clear tk6; clear t_; refine (Q6.out _ (below_alc HB5.out _)).mono ?_; rintro e w6 ⟨rfl, hb⟩; have hc6_0_0 : w6.cell? ⟨w0.heap.size, 0, none⟩ = some (.string (⟨#[97, 46, 98]⟩ : ByteArray)) := pw_cell_below hb (pw_cell_below (below_alc (Below.refl _ _) (.cells #[.string (⟨#[]⟩ : ByteArray), .int .i64 0, .string (⟨#[]⟩ : ByteArray)] 35)) hc5_0_0); have hc6_0_1 : w6.cell? ⟨w0.heap.size, 1, none⟩ = some (.int .i64 8080) := pw_cell_below hb (pw_cell_below (below_alc (Below.refl _ _) (.cells #[.string (⟨#[]⟩ : ByteArray), .int .i64 0, .string (⟨#[]⟩ : ByteArray)] 35)) hc5_0_1); have hc6_0_2 : w6.cell? ⟨w0.heap.size, 2, none⟩ = some (.string (⟨#[47, 120, 63, 121]⟩ : ByteArray)) := pw_cell_below hb (pw_cell_below (below_alc (Below.refl _ _) (.cells #[.string (⟨#[]⟩ : ByteArray), .int .i64 0, .string (⟨#[]⟩ : ByteArray)] 35)) hc5_0_2); have hc6_1_0 : w6.cell? ⟨w1.heap.size, 0, none⟩ = some (.string (⟨#[97]⟩ : ByteArray)) := pw_cell_below hb (pw_cell_below (below_alc (Below.refl _ _) (.cells #[.string (⟨#[]⟩ : ByteArray), .int .i64 0, .string (⟨#[]⟩ : ByteArray)] 35)) hc5_1_0); have hc6_1_1 : w6.cell? ⟨w1.heap.size, 1, none⟩ = some (.int .i64 80) := pw_cell_below hb (pw_cell_below (below_alc (Below.refl _ _) (.cells #[.string (⟨#[]⟩ : ByteArray), .int .i64 0, .string (⟨#[]⟩ : ByteArray)] 35)) hc5_1_1); have hc6_1_2 : w6.cell? ⟨w1.heap.size, 2, none⟩ = some (.string (⟨#[47, 63, 113]⟩ : ByteArray)) := pw_cell_below hb (pw_cell_below (below_alc (Below.refl _ _) (.cells #[.string (⟨#[]⟩ : ByteArray), .int .i64 0, .string (⟨#[]⟩ : ByteArray)] 35)) hc5_1_2); have hc6_2_0 : w6.cell? ⟨w2.heap.size, 0, none⟩ = some (.string (⟨#[]⟩ : ByteArray)) := pw_cell_below hb (pw_cell_below (below_alc (Below.refl _ _) (.cells #[.string (⟨#[]⟩ : ByteArray), .int .i64 0, .string (⟨#[]⟩ : ByteArray)] 35)) hc5_2_0); have hc6_2_1 : w6.cell? ⟨w2.heap.size, 1, none⟩ = some (.int .i64 0) := pw_cell_below hb (pw_cell_below (below_alc (Below.refl _ _) (.cells #[.string (⟨#[]⟩ : ByteArray), .int .i64 0, .string (⟨#[]⟩ : ByteArray)] 35)) hc5_2_1); have hc6_2_2 : w6.cell? ⟨w2.heap.size, 2, none⟩ = some (.string (⟨#[]⟩ : ByteArray)) := pw_cell_below hb (pw_cell_below (below_alc (Below.refl _ _) (.cells #[.string (⟨#[]⟩ : ByteArray), .int .i64 0, .string (⟨#[]⟩ : ByteArray)] 35)) hc5_2_2); have hc6_4_0 : w6.cell? ⟨w4.heap.size, 0, none⟩ = some (.string (⟨#[97, 46, 98]⟩ : ByteArray)) := pw_cell_below hb (pw_cell_below (below_alc (Below.refl _ _) (.cells #[.string (⟨#[]⟩ : ByteArray), .int .i64 0, .string (⟨#[]⟩ : ByteArray)] 35)) hc5_4_0); have hc6_4_1 : w6.cell? ⟨w4.heap.size, 1, none⟩ = some (.int .i64 8080) := pw_cell_below hb (pw_cell_below (below_alc (Below.refl _ _) (.cells #[.string (⟨#[]⟩ : ByteArray), .int .i64 0, .string (⟨#[]⟩ : ByteArray)] 35)) hc5_4_1); have hc6_4_2 : w6.cell? ⟨w4.heap.size, 2, none⟩ = some (.string (⟨#[47, 122]⟩ : ByteArray)) := pw_cell_below hb (pw_cell_below (below_alc (Below.refl _ _) (.cells #[.string (⟨#[]⟩ : ByteArray), .int .i64 0, .string (⟨#[]⟩ : ByteArray)] 35)) hc5_4_2); have hc6_5_0 : w6.cell? ⟨w5.heap.size, 0, none⟩ = some (.string (⟨#[]⟩ : ByteArray)) := pw_cell_below hb (show (w5.alloc (.cells #[.string (⟨#[]⟩ : ByteArray), .int .i64 0, .string (⟨#[]⟩ : ByteArray)] 35)).cell? ⟨w5.heap.size, 0, none⟩ = some (.string (⟨#[]⟩ : ByteArray)) by go_simp); have hc6_5_1 : w6.cell? ⟨w5.heap.size, 1, none⟩ = some (.int .i64 0) := pw_cell_below hb (show (w5.alloc (.cells #[.string (⟨#[]⟩ : ByteArray), .int .i64 0, .string (⟨#[]⟩ : ByteArray)] 35)).cell? ⟨w5.heap.size, 1, none⟩ = some (.int .i64 0) by go_simp); have hc6_5_2 : w6.cell? ⟨w5.heap.size, 2, none⟩ = some (.string (⟨#[]⟩ : ByteArray)) := pw_cell_below hb (show (w5.alloc (.cells #[.string (⟨#[]⟩ : ByteArray), .int .i64 0, .string (⟨#[]⟩ : ByteArray)] 35)).cell? ⟨w5.heap.size, 2, none⟩ = some (.string (⟨#[]⟩ : ByteArray)) by go_simp); (try clear hc5_0_0 hc5_0_1 hc5_0_2); (try clear hd5_0_0 hd5_0_1 hd5_0_2); (try clear hc5_1_0 hc5_1_1 hc5_1_2); (try clear hd5_1_0 hd5_1_1 hd5_1_2); (try clear hc5_2_0 hc5_2_1 hc5_2_2); (try clear hd5_2_0 hd5_2_1 hd5_2_2); (try clear hc5_4_0 hc5_4_1 hc5_4_2); (try clear hd5_4_0 hd5_4_1 hd5_4_2); have HB6 := Lib.hid (below_next (below_alc HB5.out _) hb); clear hb)
    | (go_at_call 24; have t_ := tk7; clear tk7; clear t_; refine (Q7.out _ HB6.out).mono ?_; rintro e w7 ⟨rfl, hb⟩; have hc7_0_0 : w7.cell? ⟨w0.heap.size, 0, none⟩ = some (.string (⟨#[97, 46, 98]⟩ : ByteArray)) := pw_cell_below hb hc6_0_0; have hc7_0_1 : w7.cell? ⟨w0.heap.size, 1, none⟩ = some (.int .i64 8080) := pw_cell_below hb hc6_0_1; have hc7_0_2 : w7.cell? ⟨w0.heap.size, 2, none⟩ = some (.string (⟨#[47, 120, 63, 121]⟩ : ByteArray)) := pw_cell_below hb hc6_0_2; have hc7_1_0 : w7.cell? ⟨w1.heap.size, 0, none⟩ = some (.string (⟨#[97]⟩ : ByteArray)) := pw_cell_below hb hc6_1_0; have hc7_1_1 : w7.cell? ⟨w1.heap.size, 1, none⟩ = some (.int .i64 80) := pw_cell_below hb hc6_1_1; have hc7_1_2 : w7.cell? ⟨w1.heap.size, 2, none⟩ = some (.string (⟨#[47, 63, 113]⟩ : ByteArray)) := pw_cell_below hb hc6_1_2; have hc7_2_0 : w7.cell? ⟨w2.heap.size, 0, none⟩ = some (.string (⟨#[]⟩ : ByteArray)) := pw_cell_below hb hc6_2_0; have hc7_2_1 : w7.cell? ⟨w2.heap.size, 1, none⟩ = some (.int .i64 0) := pw_cell_below hb hc6_2_1; have hc7_2_2 : w7.cell? ⟨w2.heap.size, 2, none⟩ = some (.string (⟨#[]⟩ : ByteArray)) := pw_cell_below hb hc6_2_2; have hc7_4_0 : w7.cell? ⟨w4.heap.size, 0, none⟩ = some (.string (⟨#[97, 46, 98]⟩ : ByteArray)) := pw_cell_below hb hc6_4_0; have hc7_4_1 : w7.cell? ⟨w4.heap.size, 1, none⟩ = some (.int .i64 8080) := pw_cell_below hb hc6_4_1; have hc7_4_2 : w7.cell? ⟨w4.heap.size, 2, none⟩ = some (.string (⟨#[47, 122]⟩ : ByteArray)) := pw_cell_below hb hc6_4_2; have hc7_5_0 : w7.cell? ⟨w5.heap.size, 0, none⟩ = some (.string (⟨#[]⟩ : ByteArray)) := pw_cell_below hb hc6_5_0; have hc7_5_1 : w7.cell? ⟨w5.heap.size, 1, none⟩ = some (.int .i64 0) := pw_cell_below hb hc6_5_1; have hc7_5_2 : w7.cell? ⟨w5.heap.size, 2, none⟩ = some (.string (⟨#[]⟩ : ByteArray)) := pw_cell_below hb hc6_5_2; (try clear hc6_0_0 hc6_0_1 hc6_0_2); (try clear hd6_0_0 hd6_0_1 hd6_0_2); (try clear hc6_1_0 hc6_1_1 hc6_1_2); (try clear hd6_1_0 hd6_1_1 hd6_1_2); (try clear hc6_2_0 hc6_2_1 hc6_2_2); (try clear hd6_2_0 hd6_2_1 hd6_2_2); (try clear hc6_4_0 hc6_4_1 hc6_4_2); (try clear hd6_4_0 hd6_4_1 hd6_4_2); (try clear hc6_5_0 hc6_5_1 hc6_5_2); (try clear hd6_5_0 hd6_5_1 hd6_5_2); have HB7 := Lib.hid (below_next HB6.out hb); clear hb))
  go_ret
  exact ⟨rfl, HB7.out⟩
end Go.Proofs.YtjdlaofeenblkaaDoor.X

/- UriBack, walked by hand. -/
namespace Go.Proofs.YtjdlaofeenblkaaDoor.X
open Go.RowKit Go.Proofs.YtjdlaofeenblkaaDoorW.PrintWords Go.Proofs.YtjdlaofeenblkaaDoorW.PrintMore Go.Proofs.YtjdlaofeenblkaaDoor.T
set_option linter.unusedSimpArgs false
set_option linter.unusedVariables false
theorem text_calls (h q : ByteArray) (p : Int) (hs : h.size ≤ 4294967000) (hq : q.size ≤ 2147470000) (W : World) (HG : Glob W) : Calls Tryd.prog 21 #[.agg #[.string h, .int .i64 p, .string q]] W fun e w' => e = .returned (.string (textU h p q)) ∧ Below W.heap.size W w' :=
  uri_Text.calls h p q _ W HG (text_eq h p q hs hq)
theorem may_calls (h q : ByteArray) (p : Int) (hs : h.size ≤ 4294967000) (hq : q.size ≤ 2147470000) (W : World) (HG : Glob W) : Calls Tryd.prog 22 #[.agg #[.string h, .int .i64 p, .string q]] W fun e w' => e = .returned (.bool (mayU h p q)) ∧ Below W.heap.size W w' :=
  uri_May.calls h p q _ W HG (may_eq h p q hs hq)
theorem host_calls (h q : ByteArray) (p : Int) (hs : h.size ≤ 4294967000) (hq : q.size ≤ 2147470000) (W : World) (HG : Glob W) : Calls Tryd.prog 24 #[.agg #[.string h, .int .i64 p, .string q]] W fun e w' => e = .returned (.string (hostU h p q)) ∧ Below W.heap.size W w' :=
  uri_Host.calls h p q _ W HG (host_eq h p q hs hq)
theorem authority_calls (x : ByteArray) (hx : x.size ≤ 2147470000) (W : World) (HG : Glob W) : Calls Tryd.prog 26 #[.string x] W fun e w' => e = .returned (.tuple #[.string (authU x).1, .int .i64 (authU x).2.1, .int .i64 (authU x).2.2]) ∧ Below W.heap.size W w' :=
  uri_Authority.calls x _ _ _ W HG (authority_eq x hx)
theorem parse_calls (x : ByteArray) (hx : x.size ≤ 2147460000) (W : World) (HG : Glob W) : Calls Tryd.prog 23 #[.string x] W fun e w' => e = .returned (.tuple #[.agg #[.string (parseU x).1, .int .i64 (parseU x).2.1, .string (parseU x).2.2.1], .int .i64 (parseU x).2.2.2]) ∧ Below W.heap.size W w' := by
  obtain ⟨k, hk⟩ := Ev.get (parse_ev x hx)
  exact uri_Parse.calls k x _ _ _ _ W HG hk
/-- What the last region's loads read. -/
theorem keep_next {w0 W W' : World} {b c : Nat} {h q h' q' : ByteArray} {p p' : Int} (hb : Below W.heap.size W W') (hS : W.cell? ⟨b, 0, none⟩ = some (.string h) ∧ W.cell? ⟨b, 1, none⟩ = some (.int .i64 p) ∧ W.cell? ⟨b, 2, none⟩ = some (.string q) ∧ W.cell? ⟨c, 0, none⟩ = some (.string h') ∧ W.cell? ⟨c, 1, none⟩ = some (.int .i64 p') ∧ W.cell? ⟨c, 2, none⟩ = some (.string q') ∧ Below w0.heap.size w0 W) :
    W'.cell? ⟨b, 0, none⟩ = some (.string h) ∧ W'.cell? ⟨b, 1, none⟩ = some (.int .i64 p) ∧ W'.cell? ⟨b, 2, none⟩ = some (.string q) ∧ W'.cell? ⟨c, 0, none⟩ = some (.string h') ∧ W'.cell? ⟨c, 1, none⟩ = some (.int .i64 p') ∧ W'.cell? ⟨c, 2, none⟩ = some (.string q') ∧ Below w0.heap.size w0 W' :=
  ⟨pw_cell_below hb hS.1, pw_cell_below hb hS.2.1, pw_cell_below hb hS.2.2.1, pw_cell_below hb hS.2.2.2.1, pw_cell_below hb hS.2.2.2.2.1, pw_cell_below hb hS.2.2.2.2.2.1, below_next hS.2.2.2.2.2.2 hb⟩
theorem keep_bel {w0 W : World} {b c : Nat} {h q h' q' : ByteArray} {p p' : Int} (hS : W.cell? ⟨b, 0, none⟩ = some (.string h) ∧ W.cell? ⟨b, 1, none⟩ = some (.int .i64 p) ∧ W.cell? ⟨b, 2, none⟩ = some (.string q) ∧ W.cell? ⟨c, 0, none⟩ = some (.string h') ∧ W.cell? ⟨c, 1, none⟩ = some (.int .i64 p') ∧ W.cell? ⟨c, 2, none⟩ = some (.string q') ∧ Below w0.heap.size w0 W) : Below w0.heap.size w0 W := hS.2.2.2.2.2.2
def upAt (l : List UInt8) (k j : Nat) : UInt8 := if j < k then upC (l.getD j 0) else l.getD j 0
theorem upC_cap (c : UInt8) (h0 : 97 ≤ (c.toNat : Int)) (h1 : (c.toNat : Int) ≤ 122) : (c.toNat : Int) - 32 = ((upC c).toNat : Int) := by
  rw [upC_nat, if_pos (by omega)]
  omega
theorem upAt_keep (l : List UInt8) (k : Nat) (h : upC (l.getD k 0) = l.getD k 0) (j : Nat) : upAt l (k + 1) j = upAt l k j := by
  unfold upAt
  by_cases e : j = k
  · subst e; rw [if_pos (by omega), if_neg (by omega), h]
  · by_cases e2 : j < k
    · rw [if_pos (by omega), if_pos e2]
    · rw [if_neg (by omega), if_neg e2]
theorem upAt_at (l : List UInt8) (k : Nat) : upAt l k k = l.getD k 0 := by unfold upAt; rw [if_neg (by omega)]
theorem upAt_other (l : List UInt8) (k j : Nat) (h : j ≠ k) : upAt l (k + 1) j = upAt l k j := by
  unfold upAt
  by_cases e2 : j < k
  · rw [if_pos (by omega), if_pos e2]
  · rw [if_neg (by omega), if_neg e2]
theorem upAt_now (l : List UInt8) (k : Nat) : upAt l (k + 1) k = upC (l.getD k 0) := by unfold upAt; rw [if_pos (by omega)]
def upL (l : List UInt8) (n : Nat) : List UInt8 := (l.take n).map upC ++ l.drop n
theorem upL_len (l : List UInt8) (n : Nat) : (upL l n).length = l.length := by
  unfold upL
  rw [List.length_append, List.length_map, List.length_take, List.length_drop]; omega
theorem upL_getD (l : List UInt8) (n j : Nat) (h : j < l.length) : (upL l n).getD j 0 = upAt l n j := by
  unfold upL upAt
  rw [List.getD_eq_getElem?_getD, List.getD_eq_getElem?_getD]
  by_cases e : j < n
  · rw [if_pos e, List.getElem?_append_left (by rw [List.length_map, List.length_take]; omega), List.getElem?_map, List.getElem?_take_of_lt e, List.getElem?_eq_getElem h]
    rfl
  · rw [if_neg e, List.getElem?_append_right (by rw [List.length_map, List.length_take]; omega), List.getElem?_drop, List.length_map, List.length_take]
    rw [show n + (j - min n l.length) = j by omega]
set_option maxRecDepth 100000 in
set_option maxHeartbeats 8000000 in
theorem back_walk (uh uq s a hh : ByteArray) (up : Int) (m : Bool) (w : World) (hS : s.size ≤ 1048576) (HG : Glob w)
    (QT : Hid (∀ W, Below w.heap.size w W → Calls Tryd.prog 21 #[.agg #[.string uh, .int .i64 up, .string uq]] W fun e w' => e = .returned (.string a) ∧ Below W.heap.size W w'))
    (QM : Hid (∀ W, Below w.heap.size w W → Calls Tryd.prog 22 #[.agg #[.string uh, .int .i64 up, .string uq]] W fun e w' => e = .returned (.bool m) ∧ Below W.heap.size W w'))
    (QA : Hid (m = true → ∀ W, Below w.heap.size w W → Calls Tryd.prog 23 #[.string a] W fun e w' => e = .returned (.tuple #[.agg #[.string uh, .int .i64 up, .string uq], .int .i64 0]) ∧ Below W.heap.size W w'))
    (QH : Hid (m = true → ∀ W, Below w.heap.size w W → Calls Tryd.prog 24 #[.agg #[.string uh, .int .i64 up, .string uq]] W fun e w' => e = .returned (.string hh) ∧ Below W.heap.size W w'))
    (QU : Hid (m = true → ∀ W, Below w.heap.size w W → Calls Tryd.prog 23 #[.string (upS a (7 + hh.size))] W fun e w' => e = .returned (.tuple #[.agg #[.string uh, .int .i64 up, .string uq], .int .i64 0]) ∧ Below W.heap.size W w'))
    (hm : (a.toList == ([] : List UInt8)) = !m) (hz : m = true → 7 + hh.size ≤ a.size) (ha : a.size ≤ 384)
    (QW : Hid (∀ W, Below w.heap.size w W → Calls Tryd.prog 25 #[] W fun e w' => e = .returned (.bool true) ∧ Below W.heap.size W w')) :
    Calls Tryd.prog 8 #[.agg #[.string uh, .int .i64 up, .string uq], .string s] w fun e w' => e = .returned (.bool true) ∧ Below w.heap.size w w' := by
  have hm2 : (a.toList != ([] : List UInt8)) = m := by unfold bne; rw [hm]; cases m <;> rfl
  go_enter Tryd.func8, Tryd.ntmps8
  go_upto_if 28 with (first
    | (go_at_call 21; refine (QT.out _ (below_alc (Below.refl _ _) _)).mono ?_; rintro e w1 ⟨rfl, hb1⟩; have HB1 := Lib.hid (below_next (below_alc (Below.refl _ _) _) hb1); have hc0 : w1.cell? ⟨w.heap.size, 0, none⟩ = some (.string uh) := (hb1.cell (by simp)).trans (by go_simp); have hc1 : w1.cell? ⟨w.heap.size, 1, none⟩ = some (.int .i64 up) := (hb1.cell (by simp)).trans (by go_simp); have hc2 : w1.cell? ⟨w.heap.size, 2, none⟩ = some (.string uq) := (hb1.cell (by simp)).trans (by go_simp); clear hb1)
    | (go_at_call 22; refine (QM.out _ HB1.out).mono ?_; rintro e w2 ⟨rfl, hb2⟩; have HB2 := Lib.hid (below_next HB1.out hb2); have hd0 : w2.cell? ⟨w.heap.size, 0, none⟩ = some (.string uh) := pw_cell_below hb2 hc0; have hd1 : w2.cell? ⟨w.heap.size, 1, none⟩ = some (.int .i64 up) := pw_cell_below hb2 hc1; have hd2 : w2.cell? ⟨w.heap.size, 2, none⟩ = some (.string uq) := pw_cell_below hb2 hc2; clear HB1 hb2 hc0 hc1 hc2))
  go_cut [] (fun wc => Aside (Below w.heap.size w wc))
  case first =>
    cases m with
    | false =>
      go_wp2
      go_meet
      case rel => exact HB2.out
    | true =>
      have q1 := Lib.hid (QA.out rfl)
      have q2 := Lib.hid (QH.out rfl)
      have q3 := Lib.hid (QU.out rfl)
      have hz2 := hz rfl
      have hcv := fun w => Lib.run_convert_string_bytes (P := Tryd.prog) w 9 41 5 a Tryd.underlying9 Tryd.underlying41 Tryd.underlying5
      have HL := Lib.hid (size_toList a)
      clear QA QH QU QM QT hz HG QW
      go_wp2_with (first
        | (go_at_call 23; refine (q1.out _ HB2.out).mono ?_; rintro e w3 ⟨rfl, hb3⟩; have HB3 := Lib.hid (below_next HB2.out hb3); have he0 : w3.cell? ⟨w.heap.size, 0, none⟩ = some (.string uh) := pw_cell_below hb3 hd0; have he1 : w3.cell? ⟨w.heap.size, 1, none⟩ = some (.int .i64 up) := pw_cell_below hb3 hd1; have he2 : w3.cell? ⟨w.heap.size, 2, none⟩ = some (.string uq) := pw_cell_below hb3 hd2; have hf0 : (w3.alloc (.cells #[.string uh, .int .i64 up, .string uq] 35)).cell? ⟨w.heap.size, 0, none⟩ = some (.string uh) := pw_cell_below (below_alc (Below.refl _ _) _) he0; have hf1 : (w3.alloc (.cells #[.string uh, .int .i64 up, .string uq] 35)).cell? ⟨w.heap.size, 1, none⟩ = some (.int .i64 up) := pw_cell_below (below_alc (Below.refl _ _) _) he1; have hf2 : (w3.alloc (.cells #[.string uh, .int .i64 up, .string uq] 35)).cell? ⟨w.heap.size, 2, none⟩ = some (.string uq) := pw_cell_below (below_alc (Below.refl _ _) _) he2; clear HB2 hb3 hd0 hd1 hd2)
        | (go_at_call 24; refine (q2.out _ (below_alc HB3.out _)).mono ?_; rintro e w4 ⟨rfl, hb4⟩; have HB4 := Lib.hid (below_next (below_alc HB3.out _) hb4); have hg0 : w4.cell? ⟨w.heap.size, 0, none⟩ = some (.string uh) := pw_cell_below hb4 hf0; have hg1 : w4.cell? ⟨w.heap.size, 1, none⟩ = some (.int .i64 up) := pw_cell_below hb4 hf1; have hg2 : w4.cell? ⟨w.heap.size, 2, none⟩ = some (.string uq) := pw_cell_below hb4 hf2; have hh0 : w4.cell? ⟨w3.heap.size, 0, none⟩ = some (.string uh) := pw_cell_below hb4 (show (w3.alloc (.cells #[.string uh, .int .i64 up, .string uq] 35)).cell? ⟨w3.heap.size, 0, none⟩ = _ by go_simp); have hh1 : w4.cell? ⟨w3.heap.size, 1, none⟩ = some (.int .i64 up) := pw_cell_below hb4 (show (w3.alloc (.cells #[.string uh, .int .i64 up, .string uq] 35)).cell? ⟨w3.heap.size, 1, none⟩ = _ by go_simp); have hh2 : w4.cell? ⟨w3.heap.size, 2, none⟩ = some (.string uq) := pw_cell_below hb4 (show (w3.alloc (.cells #[.string uh, .int .i64 up, .string uq] 35)).cell? ⟨w3.heap.size, 2, none⟩ = _ by go_simp); clear hb4 he0 he1 he2 hf0 hf1 hf2))
      go_loopg [10] (7 + hh.size) (fun gg s10 wr => ∃ kk : Nat, kk ≤ 7 + hh.size ∧ 7 + hh.size - kk ≤ gg ∧ s10 = .int .i64 kk ∧ Aside (Below w4.heap.size w4 wr) ∧ Aside (∀ j, j < a.size → wr.cell? ⟨w4.heap.size, j, none⟩ = some (.int .u8 (upAt a.data.toList kk j).toNat)) ∧ Aside (∀ j, j < a.size → wr.frozen? ⟨w4.heap.size, j, none⟩ = false))
      case atStart =>
        refine ⟨0, Nat.zero_le _, by omega, rfl, below_bytes (Below.refl _ _) _ _, fun j hj => ?_, fun j hj => bytes_frozen w4 _ a j hj⟩
        rw [Lib.bytesWorld_cell w4 _ a j hj]
        rfl
      case round =>
        obtain ⟨kk, hkk, hg, rfl, HBr0, HC0, HF0⟩ := hrel
        have HBr : Hid (Below w4.heap.size w4 wr) := Lib.hid HBr0.out
        have HC := Lib.hid HC0.out
        have HF := Lib.hid HF0.out
        clear HBr0 HC0 HF0
        clear hcv
        by_cases hlt : kk < 7 + hh.size
        · have hltz : (kk : Int) < 7 + (hh.size : Int) := by omega
          have hla : kk < a.size := by omega
          have hlaz : (kk : Int) < (a.size : Int) := by omega
          have hcell := HC.out kk hla
          have hfro := HF.out kk hla
          rw [upAt_at] at hcell
          generalize hy : a.data.toList.getD kk 0 = y at hcell
          have B : Hid (a.data.toList.getD kk 0 = y) := Lib.hid hy
          clear hy
          have hy0 : 0 ≤ (y.toNat : Int) := by omega
          have hy1 : (y.toNat : Int) ≤ 255 := by have := y.toNat_lt; omega
          go_wp2
          · go_roundg (7 + hh.size - (kk + 1))
            case measure => omega
            case rel =>
              refine ⟨kk + 1, by omega, by omega, by go_num, below_set1 HBr.out _ (Nat.le_refl _), fun j hj => ?_, fun j hj => by rw [World.frozen?_setCell]; exact HF.out j hj⟩
              by_cases e : j = kk
              · subst e
                rw [World.cell?_setCell_same wr _ _ hcell, upAt_now, B.out, upC_cap y (by omega) (by omega)]
              · rw [World.cell?_setCell_other wr _ _ _ (by intro e2; injection e2 with _ e3; exact e e3.symm), upAt_other _ _ _ e]
                exact HC.out j hj
          · go_roundg (7 + hh.size - (kk + 1))
            case measure => omega
            case rel =>
              refine ⟨kk + 1, by omega, by omega, by go_num, HBr.out, fun j hj => ?_, fun j hj => HF.out j hj⟩
              rw [upAt_keep _ _ (by rw [B.out]; exact upC_same (by omega))]
              exact HC.out j hj
          · go_roundg (7 + hh.size - (kk + 1))
            case measure => omega
            case rel =>
              refine ⟨kk + 1, by omega, by omega, by go_num, HBr.out, fun j hj => ?_, fun j hj => HF.out j hj⟩
              rw [upAt_keep _ _ (by rw [B.out]; exact upC_same (by omega))]
              exact HC.out j hj
        · have hltz : ¬ (kk : Int) < 7 + (hh.size : Int) := by omega
          obtain rfl : kk = 7 + hh.size := by omega
          have hcv2 := run_convert_bytes_arg (P := Tryd.prog) wr 41 5 Tryd.underlying41 Tryd.underlying5 w4.heap.size 0 a.size (grownCap w4 a.size 0 5) (ints (upL a.data.toList (7 + hh.size))) (by rw [ints_len, upL_len]; exact HL.out) (fun j hj => by
            rw [Nat.zero_add, ints_getD _ _ (by rw [upL_len, HL.out]; exact hj), upL_getD _ _ _ (by rw [HL.out]; exact hj)]
            exact HC.out j hj) 9 Tryd.underlying9
          rw [str_ints] at hcv2
          have HB5 := Lib.hid (below_next HB4.out HBr.out)
          have hi0 : wr.cell? ⟨w.heap.size, 0, none⟩ = some (.string uh) := pw_cell_below HBr.out hg0
          have hi1 : wr.cell? ⟨w.heap.size, 1, none⟩ = some (.int .i64 up) := pw_cell_below HBr.out hg1
          have hi2 : wr.cell? ⟨w.heap.size, 2, none⟩ = some (.string uq) := pw_cell_below HBr.out hg2
          have hj0 : wr.cell? ⟨w3.heap.size, 0, none⟩ = some (.string uh) := pw_cell_below HBr.out hh0
          have hj1 : wr.cell? ⟨w3.heap.size, 1, none⟩ = some (.int .i64 up) := pw_cell_below HBr.out hh1
          have hj2 : wr.cell? ⟨w3.heap.size, 2, none⟩ = some (.string uq) := pw_cell_below HBr.out hh2
          clear HB4 HBr hg0 hg1 hg2 hh0 hh1 hh2 HC HF
          go_wp2_with (go_at_call 23; refine (q3.out _ HB5.out).mono ?_; rintro e w6 ⟨rfl, hb6⟩; have HB6 := Lib.hid (below_next HB5.out hb6); have hi0 : w6.cell? ⟨w.heap.size, 0, none⟩ = some (.string uh) := pw_cell_below hb6 hi0; have hi1 : w6.cell? ⟨w.heap.size, 1, none⟩ = some (.int .i64 up) := pw_cell_below hb6 hi1; have hi2 : w6.cell? ⟨w.heap.size, 2, none⟩ = some (.string uq) := pw_cell_below hb6 hi2; have hj0 : w6.cell? ⟨w3.heap.size, 0, none⟩ = some (.string uh) := pw_cell_below hb6 hj0; have hj1 : w6.cell? ⟨w3.heap.size, 1, none⟩ = some (.int .i64 up) := pw_cell_below hb6 hj1; have hj2 : w6.cell? ⟨w3.heap.size, 2, none⟩ = some (.string uq) := pw_cell_below hb6 hj2; have hk0 : (w6.alloc (.cells #[.string uh, .int .i64 up, .string uq] 35)).cell? ⟨w.heap.size, 0, none⟩ = some (.string uh) := pw_cell_below (below_alc (Below.refl _ _) _) hi0; have hl0 : (w6.alloc (.cells #[.string uh, .int .i64 up, .string uq] 35)).cell? ⟨w3.heap.size, 0, none⟩ = some (.string uh) := pw_cell_below (below_alc (Below.refl _ _) _) hj0; have hk1 : (w6.alloc (.cells #[.string uh, .int .i64 up, .string uq] 35)).cell? ⟨w.heap.size, 1, none⟩ = some (.int .i64 up) := pw_cell_below (below_alc (Below.refl _ _) _) hi1; have hl1 : (w6.alloc (.cells #[.string uh, .int .i64 up, .string uq] 35)).cell? ⟨w3.heap.size, 1, none⟩ = some (.int .i64 up) := pw_cell_below (below_alc (Below.refl _ _) _) hj1; have hk2 : (w6.alloc (.cells #[.string uh, .int .i64 up, .string uq] 35)).cell? ⟨w.heap.size, 2, none⟩ = some (.string uq) := pw_cell_below (below_alc (Below.refl _ _) _) hi2; have hl2 : (w6.alloc (.cells #[.string uh, .int .i64 up, .string uq] 35)).cell? ⟨w3.heap.size, 2, none⟩ = some (.string uq) := pw_cell_below (below_alc (Below.refl _ _) _) hj2; clear hb6 HB5)
          go_meet
          case rel => exact below_alc HB6.out _
  -- TAIL
  have HBwc := Lib.hid hcut.out
  clear hcut HB2 hd0 hd1 hd2 hm hm2 hz ha QT QM QA QH QU
  have QL0 : Hid (∀ x : ByteArray, x.size ≤ 1048576 → ∀ W, Below w.heap.size w W → Calls Tryd.prog 27 #[.string x] W fun e w' => e = .returned (.string (lowerB x)) ∧ Below W.heap.size W w') := Lib.hid (fun x hx W hb => text_Lower.calls x _ W (HG.below hb) (lower_f x (by omega)))
  rcases told_parse s with ⟨h0, hm⟩ | hn
  · have QP0 : Hid (∀ W, Below w.heap.size w W → Calls Tryd.prog 23 #[.string s] W fun e w' => e = .returned (.tuple #[.agg #[.string (parseU s).1, .int .i64 (parseU s).2.1, .string (parseU s).2.2.1], .int .i64 (parseU s).2.2.2]) ∧ Below W.heap.size W w') := Lib.hid (fun W hb => parse_calls s (by omega) W (HG.below hb))
    obtain ⟨⟨h, p, q, e⟩, hpe⟩ : ∃ r, parseU s = r := ⟨_, rfl⟩
    rw [hpe] at QP0 h0 hm
    obtain rfl : e = 0 := h0
    have hm2 : mayU h p q = true := hm
    obtain ⟨hnm, h1, h2, hpq, _⟩ := may_parts hm2
    obtain ⟨hs1, hs2⟩ := may_sizes hm2
    have QP : Hid (∀ W, Below w.heap.size w W → Calls Tryd.prog 23 #[.string s] W fun e w' => e = .returned (.tuple #[.agg #[.string h, .int .i64 p, .string q], .int .i64 0]) ∧ Below W.heap.size W w') := QP0
    have QT : Hid (∀ W, Below w.heap.size w W → Calls Tryd.prog 21 #[.agg #[.string h, .int .i64 p, .string q]] W fun e w' => e = .returned (.string (textU h p q)) ∧ Below W.heap.size W w') := Lib.hid (fun W hb => text_calls h q p (by omega) (by omega) W (HG.below hb))
    have QP2 : Hid (∀ W, Below w.heap.size w W → Calls Tryd.prog 23 #[.string (textU h p q)] W fun e w' => e = .returned (.tuple #[.agg #[.string h, .int .i64 p, .string q], .int .i64 0]) ∧ Below W.heap.size W w') := Lib.hid (fun W hb => by
      have := parse_calls (textU h p q) (by have := text_size h p q; omega) W (HG.below hb)
      rw [parse_text hm2] at this
      exact this)
    have QH : Hid (∀ W, Below w.heap.size w W → Calls Tryd.prog 24 #[.agg #[.string h, .int .i64 p, .string q]] W fun e w' => e = .returned (.string (hostU h p q)) ∧ Below W.heap.size W w') := Lib.hid (fun W hb => host_calls h q p (by omega) (by omega) W (HG.below hb))
    have hzv : (hostU h p q).size ≤ 384 := by
      unfold hostU
      rw [if_pos hm2]
      obtain ⟨_, _, _, _, hh⟩ := may_parts hm2
      omega
    have QA0 : Hid (∀ x : ByteArray, x.size ≤ 1048576 → ∀ W, Below w.heap.size w W → Calls Tryd.prog 26 #[.string x] W fun e w' => e = .returned (.tuple #[.string (authU x).1, .int .i64 (authU x).2.1, .int .i64 (authU x).2.2]) ∧ Below W.heap.size W w') := Lib.hid (fun x hx W hb => authority_calls x (by omega) W (HG.below hb))
    have QM2 : Hid (∀ W, Below w.heap.size w W → Calls Tryd.prog 22 #[.agg #[.string h, .int .i64 p, .string q]] W fun e w' => e = .returned (.bool true) ∧ Below W.heap.size W w') := Lib.hid (fun W hb => by
      have := may_calls h q p (by omega) (by omega) W (HG.below hb)
      rw [hm2] at this
      exact this)
    have QL : Hid (∀ W, Below w.heap.size w W → Calls Tryd.prog 27 #[.string h] W fun e w' => e = .returned (.string h) ∧ Below W.heap.size W w') := Lib.hid (fun W hb => by
      have := QL0.out h (by omega) W hb
      rw [lower_host hnm] at this
      exact this)
    obtain ⟨qt, hqt⟩ := path_head hpq
    have hq0 : 0 < q.size := by rw [← size_toList, hqt]; exact Nat.succ_pos _
    have hqb : ∀ hh : 0 < q.size, q[0]'hh = 47 := fun hh => by
      have e := (bt_at q 0 hh).trans (bt_first hqt)
      have e2 : (q[0]'hh).toNat = 47 := by exact_mod_cast e
      exact UInt8.toNat_inj.1 e2
    clear QL0 QP0 HG hpe hm hnm h1 h2 hpq hs1 hs2
    by_cases h8 : p = 80
    · subst h8
      have QA : Hid (∀ W, Below w.heap.size w W → Calls Tryd.prog 26 #[.string (hostU h 80 q)] W fun e w' => e = .returned (.tuple #[.string (authU (hostU h 80 q)).1, .int .i64 (authU (hostU h 80 q)).2.1, .int .i64 (authU (hostU h 80 q)).2.2]) ∧ Below W.heap.size W w') := Lib.hid (fun W hb => QA0.out _ (by omega) W hb)
      have QA2 : Hid (∀ W, Below w.heap.size w W → Calls Tryd.prog 26 #[.string (hostU h 80 q ++ ⟨#[58, 56, 48]⟩)] W fun e w' => e = .returned (.tuple #[.string h, .int .i64 80, .int .i64 0]) ∧ Below W.heap.size W w') := Lib.hid (fun W hb => by
        have := QA0.out (hostU h 80 q ++ ⟨#[58, 56, 48]⟩) (by rw [size_app]; show _ + 3 ≤ _; omega) W hb
        rw [auth_back80 hm2] at this
        exact this)
      clear QA0 hm2
      generalize authU (hostU h 80 q) = au at QA
      obtain ⟨au1, au2, au3⟩ := au
      generalize hostU h 80 q = hv at QA QA2 QH hzv
      generalize textU h 80 q = tx at QT QP2
      have tk1 : True := trivial
      have tk2 : True := trivial
      have tk3 : True := trivial
      have tk4 : True := trivial
      have tk5 : True := trivial
      have tk6 : True := trivial
      have tk7 : True := trivial
      have tk8 : True := trivial
      have tk9 : True := trivial
      have tk10 : True := trivial
      go_wp2_with (first
        | (go_at_call 23; have t_ := tk1; clear tk1; clear t_; refine (QP.out _ HBwc.out).mono ?_; rintro e w11 ⟨rfl, hb⟩; have HBw11 := Lib.hid (below_next HBwc.out hb); clear hb)
        | (go_at_call 21; have t_ := tk2; clear tk2; clear t_; refine (QT.out _ (below_alc HBw11.out _)).mono ?_; rintro e w12 ⟨rfl, hb⟩; have HBw12 := Lib.hid (below_next (below_alc HBw11.out _) hb); have v_w12_0 : w12.cell? ⟨w11.heap.size, 0, none⟩ = some (.string h) := pw_cell_below hb (show (w11.alloc (.cells #[.string h, .int .i64 80, .string q] 35)).cell? ⟨w11.heap.size, 0, none⟩ = _ by go_simp); have v_w12_1 : w12.cell? ⟨w11.heap.size, 1, none⟩ = some (.int .i64 80) := pw_cell_below hb (show (w11.alloc (.cells #[.string h, .int .i64 80, .string q] 35)).cell? ⟨w11.heap.size, 1, none⟩ = _ by go_simp); have v_w12_2 : w12.cell? ⟨w11.heap.size, 2, none⟩ = some (.string q) := pw_cell_below hb (show (w11.alloc (.cells #[.string h, .int .i64 80, .string q] 35)).cell? ⟨w11.heap.size, 2, none⟩ = _ by go_simp); clear hb)
        | (go_at_call 23; have t_ := tk3; clear tk3; clear t_; refine (QP2.out _ HBw12.out).mono ?_; rintro e w13 ⟨rfl, hb⟩; have HBw13 := Lib.hid (below_next HBw12.out hb); have v_w13_0 : w13.cell? ⟨w11.heap.size, 0, none⟩ = some (.string h) := pw_cell_below hb v_w12_0; have v_w13_1 : w13.cell? ⟨w11.heap.size, 1, none⟩ = some (.int .i64 80) := pw_cell_below hb v_w12_1; have v_w13_2 : w13.cell? ⟨w11.heap.size, 2, none⟩ = some (.string q) := pw_cell_below hb v_w12_2; have v_w13a_0 : (w13.alloc (.cells #[.string h, .int .i64 80, .string q] 35)).cell? ⟨w11.heap.size, 0, none⟩ = some (.string h) := pw_cell_below (below_alc (Below.refl _ _) _) v_w13_0; have v_w13a_1 : (w13.alloc (.cells #[.string h, .int .i64 80, .string q] 35)).cell? ⟨w11.heap.size, 1, none⟩ = some (.int .i64 80) := pw_cell_below (below_alc (Below.refl _ _) _) v_w13_1; have v_w13a_2 : (w13.alloc (.cells #[.string h, .int .i64 80, .string q] 35)).cell? ⟨w11.heap.size, 2, none⟩ = some (.string q) := pw_cell_below (below_alc (Below.refl _ _) _) v_w13_2; clear hb)
        | (go_at_call 24; have t_ := tk4; clear tk4; clear t_; refine (QH.out _ (below_alc HBw13.out _)).mono ?_; rintro e w14 ⟨rfl, hb⟩; have HBw14 := Lib.hid (below_next (below_alc HBw13.out _) hb); have v_w14_0 : w14.cell? ⟨w11.heap.size, 0, none⟩ = some (.string h) := pw_cell_below hb (pw_cell_below (below_alc (Below.refl _ _) (.cells #[.string h, .int .i64 80, .string q] 35)) v_w13_0); have v_w14_1 : w14.cell? ⟨w11.heap.size, 1, none⟩ = some (.int .i64 80) := pw_cell_below hb (pw_cell_below (below_alc (Below.refl _ _) (.cells #[.string h, .int .i64 80, .string q] 35)) v_w13_1); have v_w14_2 : w14.cell? ⟨w11.heap.size, 2, none⟩ = some (.string q) := pw_cell_below hb (pw_cell_below (below_alc (Below.refl _ _) (.cells #[.string h, .int .i64 80, .string q] 35)) v_w13_2); have z_w14_0 : w14.cell? ⟨w13.heap.size, 0, none⟩ = some (.string h) := pw_cell_below hb (show (w13.alloc (.cells #[.string h, .int .i64 80, .string q] 35)).cell? ⟨w13.heap.size, 0, none⟩ = _ by go_simp); have z_w14_1 : w14.cell? ⟨w13.heap.size, 1, none⟩ = some (.int .i64 80) := pw_cell_below hb (show (w13.alloc (.cells #[.string h, .int .i64 80, .string q] 35)).cell? ⟨w13.heap.size, 1, none⟩ = _ by go_simp); have z_w14_2 : w14.cell? ⟨w13.heap.size, 2, none⟩ = some (.string q) := pw_cell_below hb (show (w13.alloc (.cells #[.string h, .int .i64 80, .string q] 35)).cell? ⟨w13.heap.size, 2, none⟩ = _ by go_simp); clear hb)
        | (go_at_call 26; have t_ := tk5; clear tk5; clear t_; refine (QA.out _ HBw14.out).mono ?_; rintro e w15 ⟨rfl, hb⟩; have HBw15 := Lib.hid (below_next HBw14.out hb); have v_w15_0 : w15.cell? ⟨w11.heap.size, 0, none⟩ = some (.string h) := pw_cell_below hb v_w14_0; have v_w15_1 : w15.cell? ⟨w11.heap.size, 1, none⟩ = some (.int .i64 80) := pw_cell_below hb v_w14_1; have v_w15_2 : w15.cell? ⟨w11.heap.size, 2, none⟩ = some (.string q) := pw_cell_below hb v_w14_2; have z_w15_0 : w15.cell? ⟨w13.heap.size, 0, none⟩ = some (.string h) := pw_cell_below hb z_w14_0; have z_w15_1 : w15.cell? ⟨w13.heap.size, 1, none⟩ = some (.int .i64 80) := pw_cell_below hb z_w14_1; have z_w15_2 : w15.cell? ⟨w13.heap.size, 2, none⟩ = some (.string q) := pw_cell_below hb z_w14_2; clear hb)
        | (go_at_call 24; have t_ := tk6; clear tk6; clear t_; refine (QH.out _ HBw15.out).mono ?_; rintro e w16 ⟨rfl, hb⟩; have HBw16 := Lib.hid (below_next HBw15.out hb); have v_w16_0 : w16.cell? ⟨w11.heap.size, 0, none⟩ = some (.string h) := pw_cell_below hb v_w15_0; have v_w16_1 : w16.cell? ⟨w11.heap.size, 1, none⟩ = some (.int .i64 80) := pw_cell_below hb v_w15_1; have v_w16_2 : w16.cell? ⟨w11.heap.size, 2, none⟩ = some (.string q) := pw_cell_below hb v_w15_2; have z_w16_0 : w16.cell? ⟨w13.heap.size, 0, none⟩ = some (.string h) := pw_cell_below hb z_w15_0; have z_w16_1 : w16.cell? ⟨w13.heap.size, 1, none⟩ = some (.int .i64 80) := pw_cell_below hb z_w15_1; have z_w16_2 : w16.cell? ⟨w13.heap.size, 2, none⟩ = some (.string q) := pw_cell_below hb z_w15_2; clear hb)
        | (go_at_call 26; have t_ := tk7; clear tk7; clear t_; refine (QA2.out _ HBw16.out).mono ?_; rintro e w17 ⟨rfl, hb⟩; have HBw17 := Lib.hid (below_next HBw16.out hb); have v_w17_0 : w17.cell? ⟨w11.heap.size, 0, none⟩ = some (.string h) := pw_cell_below hb v_w16_0; have v_w17_1 : w17.cell? ⟨w11.heap.size, 1, none⟩ = some (.int .i64 80) := pw_cell_below hb v_w16_1; have v_w17_2 : w17.cell? ⟨w11.heap.size, 2, none⟩ = some (.string q) := pw_cell_below hb v_w16_2; have z_w17_0 : w17.cell? ⟨w13.heap.size, 0, none⟩ = some (.string h) := pw_cell_below hb z_w16_0; have z_w17_1 : w17.cell? ⟨w13.heap.size, 1, none⟩ = some (.int .i64 80) := pw_cell_below hb z_w16_1; have z_w17_2 : w17.cell? ⟨w13.heap.size, 2, none⟩ = some (.string q) := pw_cell_below hb z_w16_2; clear hb))
      have HS := Lib.hid (show (fun w' : World => w'.cell? ⟨w11.heap.size, 0, none⟩ = some (.string h) ∧ w'.cell? ⟨w11.heap.size, 1, none⟩ = some (.int .i64 80) ∧ w'.cell? ⟨w11.heap.size, 2, none⟩ = some (.string q) ∧ w'.cell? ⟨w13.heap.size, 0, none⟩ = some (.string h) ∧ w'.cell? ⟨w13.heap.size, 1, none⟩ = some (.int .i64 80) ∧ w'.cell? ⟨w13.heap.size, 2, none⟩ = some (.string q) ∧ Below w.heap.size w w') w17 from ⟨v_w17_0, v_w17_1, v_w17_2, z_w17_0, z_w17_1, z_w17_2, HBw17.out⟩)
      go_region_held3 (fun w' => w'.cell? ⟨w11.heap.size, 0, none⟩ = some (.string h) ∧ w'.cell? ⟨w11.heap.size, 1, none⟩ = some (.int .i64 80) ∧ w'.cell? ⟨w11.heap.size, 2, none⟩ = some (.string q) ∧ w'.cell? ⟨w13.heap.size, 0, none⟩ = some (.string h) ∧ w'.cell? ⟨w13.heap.size, 1, none⟩ = some (.int .i64 80) ∧ w'.cell? ⟨w13.heap.size, 2, none⟩ = some (.string q) ∧ Below w.heap.size w w') (first | assumption | exact keep_next (below_drew1 (Below.refl _ _)) HS.out | exact keep_next hb (by assumption) | exact keep_next hb HX.out) (first
              | (go_at_call 22; refine (QM2.out _ (by first | assumption | exact keep_bel (by assumption))).mono ?_; have HX := Lib.hid (show (fun w' : World => w'.cell? ⟨w11.heap.size, 0, none⟩ = some (.string h) ∧ w'.cell? ⟨w11.heap.size, 1, none⟩ = some (.int .i64 80) ∧ w'.cell? ⟨w11.heap.size, 2, none⟩ = some (.string q) ∧ w'.cell? ⟨w13.heap.size, 0, none⟩ = some (.string h) ∧ w'.cell? ⟨w13.heap.size, 1, none⟩ = some (.int .i64 80) ∧ w'.cell? ⟨w13.heap.size, 2, none⟩ = some (.string q) ∧ Below w.heap.size w w') _ by assumption); rintro e w8 ⟨rfl, hb⟩)
              | (go_at_call 27; refine (QL.out _ (by first | assumption | exact keep_bel (by assumption))).mono ?_; have HX := Lib.hid (show (fun w' : World => w'.cell? ⟨w11.heap.size, 0, none⟩ = some (.string h) ∧ w'.cell? ⟨w11.heap.size, 1, none⟩ = some (.int .i64 80) ∧ w'.cell? ⟨w11.heap.size, 2, none⟩ = some (.string q) ∧ w'.cell? ⟨w13.heap.size, 0, none⟩ = some (.string h) ∧ w'.cell? ⟨w13.heap.size, 1, none⟩ = some (.int .i64 80) ∧ w'.cell? ⟨w13.heap.size, 2, none⟩ = some (.string q) ∧ Below w.heap.size w w') _ by assumption); rintro e w8 ⟨rfl, hb⟩)
              | (go_at_call 25; refine (QW.out _ (by first | assumption | exact keep_bel (by assumption))).mono ?_; have HX := Lib.hid (show (fun w' : World => w'.cell? ⟨w11.heap.size, 0, none⟩ = some (.string h) ∧ w'.cell? ⟨w11.heap.size, 1, none⟩ = some (.int .i64 80) ∧ w'.cell? ⟨w11.heap.size, 2, none⟩ = some (.string q) ∧ w'.cell? ⟨w13.heap.size, 0, none⟩ = some (.string h) ∧ w'.cell? ⟨w13.heap.size, 1, none⟩ = some (.int .i64 80) ∧ w'.cell? ⟨w13.heap.size, 2, none⟩ = some (.string q) ∧ Below w.heap.size w w') _ by assumption); rintro e w8 ⟨rfl, hb⟩))
      have HZ := Lib.hid (keep_bel (by assumption))
      go_wp2
      go_ret
      exact ⟨rfl, HZ.out⟩
    · have h8b : (p == 80) = false := by simpa using h8
      have QA : Hid (∀ W, Below w.heap.size w W → Calls Tryd.prog 26 #[.string (hostU h p q)] W fun e w' => e = .returned (.tuple #[.string h, .int .i64 p, .int .i64 0]) ∧ Below W.heap.size W w') := Lib.hid (fun W hb => by
        have := QA0.out (hostU h p q) (by omega) W hb
        rw [auth_back hm2 h8] at this
        exact this)
      clear QA0 hm2
      generalize hostU h p q = hv at QA QH hzv
      generalize textU h p q = tx at QT QP2
      have tk1 : True := trivial
      have tk2 : True := trivial
      have tk3 : True := trivial
      have tk4 : True := trivial
      have tk5 : True := trivial
      have tk6 : True := trivial
      have tk7 : True := trivial
      have tk8 : True := trivial
      have tk9 : True := trivial
      have tk10 : True := trivial
      go_wp2_with (first
        | (go_at_call 23; have t_ := tk1; clear tk1; clear t_; refine (QP.out _ HBwc.out).mono ?_; rintro e w11 ⟨rfl, hb⟩; have HBw11 := Lib.hid (below_next HBwc.out hb); clear hb)
        | (go_at_call 21; have t_ := tk2; clear tk2; clear t_; refine (QT.out _ (below_alc HBw11.out _)).mono ?_; rintro e w12 ⟨rfl, hb⟩; have HBw12 := Lib.hid (below_next (below_alc HBw11.out _) hb); have v_w12_0 : w12.cell? ⟨w11.heap.size, 0, none⟩ = some (.string h) := pw_cell_below hb (show (w11.alloc (.cells #[.string h, .int .i64 p, .string q] 35)).cell? ⟨w11.heap.size, 0, none⟩ = _ by go_simp); have v_w12_1 : w12.cell? ⟨w11.heap.size, 1, none⟩ = some (.int .i64 p) := pw_cell_below hb (show (w11.alloc (.cells #[.string h, .int .i64 p, .string q] 35)).cell? ⟨w11.heap.size, 1, none⟩ = _ by go_simp); have v_w12_2 : w12.cell? ⟨w11.heap.size, 2, none⟩ = some (.string q) := pw_cell_below hb (show (w11.alloc (.cells #[.string h, .int .i64 p, .string q] 35)).cell? ⟨w11.heap.size, 2, none⟩ = _ by go_simp); clear hb)
        | (go_at_call 23; have t_ := tk3; clear tk3; clear t_; refine (QP2.out _ HBw12.out).mono ?_; rintro e w13 ⟨rfl, hb⟩; have HBw13 := Lib.hid (below_next HBw12.out hb); have v_w13_0 : w13.cell? ⟨w11.heap.size, 0, none⟩ = some (.string h) := pw_cell_below hb v_w12_0; have v_w13_1 : w13.cell? ⟨w11.heap.size, 1, none⟩ = some (.int .i64 p) := pw_cell_below hb v_w12_1; have v_w13_2 : w13.cell? ⟨w11.heap.size, 2, none⟩ = some (.string q) := pw_cell_below hb v_w12_2; have v_w13a_0 : (w13.alloc (.cells #[.string h, .int .i64 p, .string q] 35)).cell? ⟨w11.heap.size, 0, none⟩ = some (.string h) := pw_cell_below (below_alc (Below.refl _ _) _) v_w13_0; have v_w13a_1 : (w13.alloc (.cells #[.string h, .int .i64 p, .string q] 35)).cell? ⟨w11.heap.size, 1, none⟩ = some (.int .i64 p) := pw_cell_below (below_alc (Below.refl _ _) _) v_w13_1; have v_w13a_2 : (w13.alloc (.cells #[.string h, .int .i64 p, .string q] 35)).cell? ⟨w11.heap.size, 2, none⟩ = some (.string q) := pw_cell_below (below_alc (Below.refl _ _) _) v_w13_2; clear hb)
        | (go_at_call 24; have t_ := tk4; clear tk4; clear t_; refine (QH.out _ (below_alc HBw13.out _)).mono ?_; rintro e w14 ⟨rfl, hb⟩; have HBw14 := Lib.hid (below_next (below_alc HBw13.out _) hb); have v_w14_0 : w14.cell? ⟨w11.heap.size, 0, none⟩ = some (.string h) := pw_cell_below hb (pw_cell_below (below_alc (Below.refl _ _) (.cells #[.string h, .int .i64 p, .string q] 35)) v_w13_0); have v_w14_1 : w14.cell? ⟨w11.heap.size, 1, none⟩ = some (.int .i64 p) := pw_cell_below hb (pw_cell_below (below_alc (Below.refl _ _) (.cells #[.string h, .int .i64 p, .string q] 35)) v_w13_1); have v_w14_2 : w14.cell? ⟨w11.heap.size, 2, none⟩ = some (.string q) := pw_cell_below hb (pw_cell_below (below_alc (Below.refl _ _) (.cells #[.string h, .int .i64 p, .string q] 35)) v_w13_2); have z_w14_0 : w14.cell? ⟨w13.heap.size, 0, none⟩ = some (.string h) := pw_cell_below hb (show (w13.alloc (.cells #[.string h, .int .i64 p, .string q] 35)).cell? ⟨w13.heap.size, 0, none⟩ = _ by go_simp); have z_w14_1 : w14.cell? ⟨w13.heap.size, 1, none⟩ = some (.int .i64 p) := pw_cell_below hb (show (w13.alloc (.cells #[.string h, .int .i64 p, .string q] 35)).cell? ⟨w13.heap.size, 1, none⟩ = _ by go_simp); have z_w14_2 : w14.cell? ⟨w13.heap.size, 2, none⟩ = some (.string q) := pw_cell_below hb (show (w13.alloc (.cells #[.string h, .int .i64 p, .string q] 35)).cell? ⟨w13.heap.size, 2, none⟩ = _ by go_simp); clear hb)
        | (go_at_call 26; have t_ := tk5; clear tk5; clear t_; refine (QA.out _ HBw14.out).mono ?_; rintro e w15 ⟨rfl, hb⟩; have HBw15 := Lib.hid (below_next HBw14.out hb); have v_w15_0 : w15.cell? ⟨w11.heap.size, 0, none⟩ = some (.string h) := pw_cell_below hb v_w14_0; have v_w15_1 : w15.cell? ⟨w11.heap.size, 1, none⟩ = some (.int .i64 p) := pw_cell_below hb v_w14_1; have v_w15_2 : w15.cell? ⟨w11.heap.size, 2, none⟩ = some (.string q) := pw_cell_below hb v_w14_2; have z_w15_0 : w15.cell? ⟨w13.heap.size, 0, none⟩ = some (.string h) := pw_cell_below hb z_w14_0; have z_w15_1 : w15.cell? ⟨w13.heap.size, 1, none⟩ = some (.int .i64 p) := pw_cell_below hb z_w14_1; have z_w15_2 : w15.cell? ⟨w13.heap.size, 2, none⟩ = some (.string q) := pw_cell_below hb z_w14_2; clear hb))
      have HS := Lib.hid (show (fun w' : World => w'.cell? ⟨w11.heap.size, 0, none⟩ = some (.string h) ∧ w'.cell? ⟨w11.heap.size, 1, none⟩ = some (.int .i64 p) ∧ w'.cell? ⟨w11.heap.size, 2, none⟩ = some (.string q) ∧ w'.cell? ⟨w13.heap.size, 0, none⟩ = some (.string h) ∧ w'.cell? ⟨w13.heap.size, 1, none⟩ = some (.int .i64 p) ∧ w'.cell? ⟨w13.heap.size, 2, none⟩ = some (.string q) ∧ Below w.heap.size w w') w15 from ⟨v_w15_0, v_w15_1, v_w15_2, z_w15_0, z_w15_1, z_w15_2, HBw15.out⟩)
      go_region_held3 (fun w' => w'.cell? ⟨w11.heap.size, 0, none⟩ = some (.string h) ∧ w'.cell? ⟨w11.heap.size, 1, none⟩ = some (.int .i64 p) ∧ w'.cell? ⟨w11.heap.size, 2, none⟩ = some (.string q) ∧ w'.cell? ⟨w13.heap.size, 0, none⟩ = some (.string h) ∧ w'.cell? ⟨w13.heap.size, 1, none⟩ = some (.int .i64 p) ∧ w'.cell? ⟨w13.heap.size, 2, none⟩ = some (.string q) ∧ Below w.heap.size w w') (first | assumption | exact keep_next (below_drew1 (Below.refl _ _)) HS.out | exact keep_next hb (by assumption) | exact keep_next hb HX.out) (first
              | (go_at_call 22; refine (QM2.out _ (by first | assumption | exact keep_bel (by assumption))).mono ?_; have HX := Lib.hid (show (fun w' : World => w'.cell? ⟨w11.heap.size, 0, none⟩ = some (.string h) ∧ w'.cell? ⟨w11.heap.size, 1, none⟩ = some (.int .i64 p) ∧ w'.cell? ⟨w11.heap.size, 2, none⟩ = some (.string q) ∧ w'.cell? ⟨w13.heap.size, 0, none⟩ = some (.string h) ∧ w'.cell? ⟨w13.heap.size, 1, none⟩ = some (.int .i64 p) ∧ w'.cell? ⟨w13.heap.size, 2, none⟩ = some (.string q) ∧ Below w.heap.size w w') _ by assumption); rintro e w8 ⟨rfl, hb⟩)
              | (go_at_call 27; refine (QL.out _ (by first | assumption | exact keep_bel (by assumption))).mono ?_; have HX := Lib.hid (show (fun w' : World => w'.cell? ⟨w11.heap.size, 0, none⟩ = some (.string h) ∧ w'.cell? ⟨w11.heap.size, 1, none⟩ = some (.int .i64 p) ∧ w'.cell? ⟨w11.heap.size, 2, none⟩ = some (.string q) ∧ w'.cell? ⟨w13.heap.size, 0, none⟩ = some (.string h) ∧ w'.cell? ⟨w13.heap.size, 1, none⟩ = some (.int .i64 p) ∧ w'.cell? ⟨w13.heap.size, 2, none⟩ = some (.string q) ∧ Below w.heap.size w w') _ by assumption); rintro e w8 ⟨rfl, hb⟩)
              | (go_at_call 25; refine (QW.out _ (by first | assumption | exact keep_bel (by assumption))).mono ?_; have HX := Lib.hid (show (fun w' : World => w'.cell? ⟨w11.heap.size, 0, none⟩ = some (.string h) ∧ w'.cell? ⟨w11.heap.size, 1, none⟩ = some (.int .i64 p) ∧ w'.cell? ⟨w11.heap.size, 2, none⟩ = some (.string q) ∧ w'.cell? ⟨w13.heap.size, 0, none⟩ = some (.string h) ∧ w'.cell? ⟨w13.heap.size, 1, none⟩ = some (.int .i64 p) ∧ w'.cell? ⟨w13.heap.size, 2, none⟩ = some (.string q) ∧ Below w.heap.size w w') _ by assumption); rintro e w8 ⟨rfl, hb⟩))
      have HZ := Lib.hid (keep_bel (by assumption))
      go_wp2
      go_ret
      exact ⟨rfl, HZ.out⟩
  · have QP : Hid (∀ W, Below w.heap.size w W → Calls Tryd.prog 23 #[.string s] W fun e w' => e = .returned (.tuple #[.agg #[.string ⟨#[]⟩, .int .i64 0, .string ⟨#[]⟩], .int .i64 23]) ∧ Below W.heap.size W w') := Lib.hid (fun W hb => by
      have := parse_calls s (by omega) W (HG.below hb)
      rw [hn] at this
      exact this)
    clear HG QL0 hn
    go_wp2_with (first
      | (go_at_call 23; refine (QP.out _ HBwc.out).mono ?_; rintro e w3 ⟨rfl, hb3⟩; have HB3 := Lib.hid (below_next HBwc.out hb3); clear hb3)
      | (go_at_call 25; refine (QW.out _ (below_alc HB3.out _)).mono ?_; rintro e w4 ⟨rfl, hb4⟩; have HB4 := Lib.hid (below_next (below_alc HB3.out _) hb4); clear hb4))
    go_ret
    exact ⟨rfl, HB4.out⟩
end Go.Proofs.YtjdlaofeenblkaaDoor.X

/- UriBack: true for all texts of bounded size. -/
namespace Go.Proofs.YtjdlaofeenblkaaDoor.X
open Go.RowKit Go.Proofs.YtjdlaofeenblkaaDoorW.PrintWords Go.Proofs.YtjdlaofeenblkaaDoorW.PrintMore Go.Proofs.YtjdlaofeenblkaaDoor.T
set_option linter.unusedSimpArgs false
set_option linter.unusedVariables false
theorem UriBack_any (uh uq s : ByteArray) (up : Int) (h1 : uh.size ≤ 1048576) (h2 : uq.size ≤ 1048576) (h3 : s.size ≤ 1048576) (w : World) (HG : Glob w) :
    Calls Tryd.prog 8 #[.agg #[.string uh, .int .i64 up, .string uq], .string s] w fun e w' => e = .returned (.bool true) ∧ Below w.heap.size w w' := by
  have hz := text_size uh up uq
  refine back_walk uh uq s (textU uh up uq) (hostU uh up uq) up (mayU uh up uq) w h3 HG
    (Lib.hid fun W hb => text_calls uh uq up (by omega) (by omega) W (HG.below hb))
    (Lib.hid fun W hb => may_calls uh uq up (by omega) (by omega) W (HG.below hb))
    (Lib.hid fun hm W hb => ?_) (Lib.hid fun hm W hb => host_calls uh uq up (by omega) (by omega) W (HG.below hb)) (Lib.hid fun hm W hb => ?_) ?_ (fun hm => ?_) hz
    (Lib.hid fun W hb => tollhouselaw10_wakes.calls true W (HG.below hb) rfl)
  · have := parse_calls (textU uh up uq) (by omega) W (HG.below hb)
    rw [parse_text hm] at this
    exact this
  · have hs : (upS (textU uh up uq) (7 + (hostU uh up uq).size)).size = (textU uh up uq).size := by
      have e := size_toList (textU uh up uq)
      refine (size_toList _).symm.trans ?_
      show ((((textU uh up uq).data.toList.take _).map upC ++ (textU uh up uq).data.toList.drop _)).length = _
      rw [List.length_append, List.length_map, List.length_take, List.length_drop]
      omega
    have := parse_calls (upS (textU uh up uq) (7 + (hostU uh up uq).size)) (by omega) W (HG.below hb)
    rw [parse_upper hm] at this
    exact this
  · cases hm : mayU uh up uq with
    | false =>
      rw [text_none.2 hm, toList_eq]
      rfl
    | true =>
      have : (textU uh up uq).toList ≠ [] := fun he => by
        have := text_none.1 (empty_of he)
        rw [hm] at this
        cases this
      simpa using this
  · unfold hostU textU
    rw [if_pos hm, if_pos hm, size_app, size_app]
    show _ ≤ 7 + _ + _
    omega
end Go.Proofs.YtjdlaofeenblkaaDoor.X

namespace Go.Proofs.YtjdlaofeenblkaaDoor.uriBack
open Go.ChangeShapes Go.WideShapes Go.ChangeAt Go.RowKit Go.Proofs.YtjdlaofeenblkaaDoor Go.Proofs.YtjdlaofeenblkaaDoor.L Go.Proofs.YtjdlaofeenblkaaDoor.T Go.Proofs.YtjdlaofeenblkaaDoorW.PrintWords
set_option linter.unusedVariables false
set_option linter.unusedSimpArgs false
set_option maxRecDepth 100000
theorem own : ownKnob Tryd.prog.godebug = none := by kernel_rfl
theorem laidOut : laidOutB Tryd.prog = true := by kernel_rfl
/-- For every argument and every world that holds the listed variables. -/
theorem contract (H : Type) (enc : TypeId × Value → H) (W : World) (base : Nat) (args : Array Value) (ds gs : List (DataW H)) (before : List MemPlace)
    (hval : ∀ (j : Nat) t v, Tryd.f8.params[j]? = some t → args[j]? = some v → Value.okWide Tryd.prog W .any base t v)
    (hW : DataW.Whole enc Tryd.prog Tryd.f8.params.toList Rows.uriBackSpec.vars false W args.toList ds gs before) (B : Nat) (hB : B ≤ 1048576) (hk : Rows.uptoBulkAll (ds ++ gs) ≤ B) (hL : laidMetH Tryd.prog laidL W) (hS : W.ShapedOpen Tryd.prog) :
    Calls Tryd.prog 8 args W fun e W' => ∃ v, e = .returned v ∧ Rows.uriBackSpec.post enc Tryd.prog Tryd.f8 false true false false W args v W' := by
  have hG : Glob W := L.glob hL hS
  have hW' := hW
  obtain ⟨p, q, hA0, hV, rfl, hfz, hnd⟩ := hW
  have hA : DataW.TrodAll enc Tryd.prog W 0 (fun _ => true) true Tryd.f8.params.toList args.toList ds p := hA0
  rw [Tryd.params8] at hA hval
  obtain ⟨v0, vs0, d0, ds0, p0, q0, hargs, rfl, rfl, h0, r0⟩ := trodAll_cons hA
  obtain ⟨v1, vs1, d1, ds1, p1, q1, rfl, rfl, rfl, h1, r1⟩ := trodAll_cons r0
  obtain ⟨rfl, rfl, rfl⟩ := trodAll_nil r1
  obtain rfl : args = #[v0, v1] := by cases args; simp_all
  obtain ⟨rfl, rfl⟩ := trodVars_none hV
  clear hA0
  simp only [List.cons_append, List.nil_append, List.append_nil, Rows.uptoBulkAll] at hk
  have k0 := h0
  have lt0 : ∀ x ∈ p0, x.block < W.heap.size := by obtain ⟨m, hm⟩ := k0; exact DataW.trod_lt m _ _ _ hm
  obtain ⟨fu0, hf0⟩ := h0
  obtain ⟨a0, K0, G0⟩ := X.opens_url H enc W _ _ fu0 _ _ hf0
  replace G0 := G0 B (show Rows.uptoBulk d0 ≤ B by omega)
  have hv0 : Value.okWide Tryd.prog W .any base 35 v0 := hval 0 35 v0 (by simp only [List.getElem?_toArray, List.getElem?_cons_zero, List.getElem?_cons_succ]) (by simp only [List.getElem?_toArray, List.getElem?_cons_zero, List.getElem?_cons_succ])
  obtain ⟨cs0, rfl, _⟩ := okWide_struct Tryd.underlying35 hv0
  have hcs0 := X.k35_open K0
  have ecs0 : cs0 = List.toArray _ := (Array.toArray_toList (xs := cs0)).symm.trans (congrArg List.toArray hcs0)
  subst ecs0
  have k1 := h1
  have lt1 : ∀ x ∈ p1, x.block < W.heap.size := by obtain ⟨m, hm⟩ := k1; exact DataW.trod_lt m _ _ _ hm
  obtain ⟨fu1, hf1⟩ := h1
  obtain ⟨a1, K1, G1⟩ := (X.opens_string Tryd.underlying9) H enc W _ _ fu1 _ _ hf1
  replace G1 := G1 B (show Rows.uptoBulk d1 ≤ B by omega)
  have hv1 : Value.okWide Tryd.prog W .any base 9 v1 := hval 1 9 v1 (by simp only [List.getElem?_toArray, List.getElem?_cons_zero, List.getElem?_cons_succ]) (by simp only [List.getElem?_toArray, List.getElem?_cons_zero, List.getElem?_cons_succ])
  obtain ⟨x1, rfl⟩ := okWide_string Tryd.underlying9 hv1
  obtain rfl : a1 = x1 := (show x1 = a1 by simpa [Kd.int, Kd.bool, Kd.string, Kd.scalar, Value.cells] using K1).symm
  refine (X.UriBack_any a0.f0 a0.f2 a1 a0.f1 (Nat.le_trans G0.1 hB) (Nat.le_trans G0.2.2 hB) (Nat.le_trans G1 hB) W hG).mono ?_
  rintro e W' ⟨he, bel0⟩
  have bel : Below W.heap.size W W' := bel0
  subst he
  exact ⟨_, rfl, _, _, _, [], _, [], hW', trodAll_mk1 (shut_bool Tryd.underlying4 _), (trodAll_cons_mk (Below.trod laidOut (by kernel_rfl) (of_decide_eq_true (by kernel_rfl)) k0 bel lt0) (trodAll_cons_mk (Below.trod laidOut (by kernel_rfl) (of_decide_eq_true (by kernel_rfl)) k1 bel lt1) trodAll_mk0)), rfl, bel.frame _, fun h => by cases h⟩
theorem reads (os : Os) {H : Type} (enc : TypeId × Value → H) : ∃ places, DataW.whole enc Tryd.prog ((laidWorld os).forCall (fun _ _ => 0) ⟨#[], #[.agg #[.string ByteArray.empty, .int .i64 0, .string ByteArray.empty], .string ByteArray.empty], []⟩).memory Tryd.f8.params.toList Rows.uriBackSpec.vars false (#[.agg #[.string ByteArray.empty, .int .i64 0, .string ByteArray.empty], .string ByteArray.empty] : Array Value).toList 8 = some ([.agg [.lit (.string []), .lit (.int .i64 0), .lit (.string [])], .lit (.string [])], [], places) :=
  ⟨[], by kernel_rfl⟩
theorem liftedUpto (os : Os) (started : os.Started) (H : Type) (enc : TypeId × Value → H) (F : Stop.Interp) :
    ReturnsInHanded {} Tryd.checked os 8 .any ((Rows.OpenSpec.upto Rows.uriBackSpec).preRow enc Tryd.prog Tryd.f8 Rows.uriBackUptoRow.domain false Rows.uriBackUptoRow.laid) (((Rows.OpenSpec.upto Rows.uriBackSpec).at F).post enc Tryd.prog Tryd.f8 false true false false) := by
  obtain ⟨places, hx⟩ := reads os enc
  refine returnsInHanded_of_row (C := Tryd.checked) (s := Rows.OpenSpec.upto Rows.uriBackSpec) own started (by kernel_rfl) Tryd.func8
    (witness_row_atRef (enc := enc) (C := Tryd.checked) false (laidWorld os) #[.agg #[.string ByteArray.empty, .int .i64 0, .string ByteArray.empty], .string ByteArray.empty] rfl (by kernel_rfl) (by kernel_rfl) (by kernel_rfl)
      (OpenSpec.preRow_of_cond 8 hx (by kernel_rfl) (fun k hk => by cases hk; kernel_rfl) (by kernel_rfl) (laid_met os _))) ?_
  intro W base args ds gs before hval hW _ hk _ hL hS _
  exact contract H enc W base args ds gs before hval hW 1048576 (Nat.le_refl _) (of_decide_eq_true (hk _ rfl)) hL hS
theorem saidUpto : Rows.UriBackUptoSaid :=
  OpenClaim.holds_of_cond 8 Tryd.f8 rfl rfl rfl rfl rfl rfl rfl ⟨rfl, rfl, rfl, rfl, rfl⟩ rfl rfl rfl rfl rfl (by kernel_rfl) Tryd.func8 (by kernel_rfl)
    (of_decide_eq_true (by kernel_rfl)) (by unfold Func.isWrapper; first | (rw [if_pos (by decide +kernel)]; kernel_rfl) | (rw [if_neg (by decide +kernel)]; exact ⟨rfl, rfl⟩))
    (fun os started H enc _ F => by rw [OpenClaim.pre_eq_preRow]; exact liftedUpto os started H enc F)
theorem plain (f : FuncId) (fn : Func) (hf : Tryd.pinned.checked.prog.funcNamed "tollhouse/tollhouselaw10.UriBack" = some f) (hfn : Tryd.pinned.checked.prog.funcs[f]? = some fn) :
    true = Tryd.pinned.checked.prog.looks [] ∧ ∀ (j : Nat) t, fn.params[j]? = some t → Tryd.pinned.checked.prog.wantsStandIn t = false := by
  obtain rfl : f = 8 := Option.some.inj ((show Tryd.prog.funcNamed "tollhouse/tollhouselaw10.UriBack" = some 8 by kernel_rfl).symm.trans hf) |>.symm
  obtain rfl : fn = Tryd.f8 := (Option.some.inj (Tryd.func8.symm.trans hfn)).symm
  refine ⟨by kernel_rfl, fun j t ht => ?_⟩
  rw [Tryd.params8] at ht
  have s35 : Tryd.prog.wantsStandIn 35 = false := by kernel_rfl
  have s9 : Tryd.prog.wantsStandIn 9 = false := by kernel_rfl
  have hm := Array.mem_of_getElem? ht
  simp only [List.mem_toArray, List.mem_cons, List.not_mem_nil, or_false] at hm
  rcases hm with rfl | rfl
  · exact s35
  · exact s9
/-- THE CARD OF THE BOUNDED FORM. -/
theorem cardUpto : Rows.UriBackUptoCardSaid :=
  Claim7.holds_tied_plain_at .later [] _ _ _ _ saidUpto (fun _ h => by cases h) (by kernel_rfl) (fun _ h => by cases h) uriBackUpto_row_tie rfl ⟨rfl, rfl⟩ (by kernel_rfl) rfl plain (by kernel_rfl)
#print axioms cardUpto
end Go.Proofs.YtjdlaofeenblkaaDoor.uriBack
namespace Go.Proofs.YtjdlaofeenblkaaDoor
/-- The statement, under a short name. -/
theorem uriBack_card : Rows.UriBackUptoCardSaid := uriBack.cardUpto
end Go.Proofs.YtjdlaofeenblkaaDoor
