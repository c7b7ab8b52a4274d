/- How arguments of the program's own struct types read. -/
import Derived.Test.YtjdlaofeenblkaaDoorRead
namespace Go.Proofs.YtjdlaofeenblkaaDoor.X
open Go.RowKit Go.Proofs.YtjdlaofeenblkaaDoorW.PrintWords Go.Proofs.YtjdlaofeenblkaaDoor.T Go.ChangeShapes Go.WideShapes Go.Deep Go.ChangeAt
set_option linter.unusedVariables false
set_option linter.unusedSimpArgs false
def good_rule (B : Nat) (x : S25) : Prop := goodB B x.f0 ∧ goodS B x.f1 ∧ (goodI .i64) B x.f2 ∧ (goodI .i64) B x.f3 ∧ (goodL goodS) B x.f4
theorem opens_rule : Opens 25 k25 good_rule := by
  intro H enc w spare held fuel cs x hx
  obtain ⟨xs, n, _, rfl, hcl, hxl, hf⟩ := DataW.trod_struct Tryd.underlying25 hx
  have hC : Tryd.prog.cellsOf 25 = 5 := by kernel_rfl
  rw [hC] at hcl
  have hxl2 : xs.length = 5 := hxl
  clear hxl
  obtain ⟨c0, c1, c2, c3, c4, rfl⟩ := len_5 hcl
  obtain ⟨y0, y1, y2, y3, y4, rfl⟩ := len_5 hxl2
  have k0 : Tryd.prog.cellsOf 4 = 1 := by kernel_rfl
  have h0 : DataW.trod enc Tryd.prog w 0 spare held n 4 (([c0, c1, c2, c3, c4].drop 0).take (Tryd.prog.cellsOf 4)) = some y0 := hf 0 _ rfl
  rw [k0] at h0
  obtain ⟨a0, K0, g0⟩ := (opens_bool Tryd.underlying4) H enc w spare held n [c0] _ h0
  have k1 : Tryd.prog.cellsOf 9 = 1 := by kernel_rfl
  have h1 : DataW.trod enc Tryd.prog w 0 spare held n 9 (([c0, c1, c2, c3, c4].drop 1).take (Tryd.prog.cellsOf 9)) = some y1 := hf 1 _ rfl
  rw [k1] at h1
  obtain ⟨a1, K1, g1⟩ := (opens_string Tryd.underlying9) H enc w spare held n [c1] _ h1
  have k2 : Tryd.prog.cellsOf 3 = 1 := by kernel_rfl
  have h2 : DataW.trod enc Tryd.prog w 0 spare held n 3 (([c0, c1, c2, c3, c4].drop 2).take (Tryd.prog.cellsOf 3)) = some y2 := hf 2 _ rfl
  rw [k2] at h2
  obtain ⟨a2, K2, g2⟩ := (opens_int Tryd.underlying3) H enc w spare held n [c2] _ h2
  have k3 : Tryd.prog.cellsOf 3 = 1 := by kernel_rfl
  have h3 : DataW.trod enc Tryd.prog w 0 spare held n 3 (([c0, c1, c2, c3, c4].drop 3).take (Tryd.prog.cellsOf 3)) = some y3 := hf 3 _ rfl
  rw [k3] at h3
  obtain ⟨a3, K3, g3⟩ := (opens_int Tryd.underlying3) H enc w spare held n [c3] _ h3
  have k4 : Tryd.prog.cellsOf 23 = 1 := by kernel_rfl
  have h4 : DataW.trod enc Tryd.prog w 0 spare held n 23 (([c0, c1, c2, c3, c4].drop 4).take (Tryd.prog.cellsOf 23)) = some y4 := hf 4 _ rfl
  rw [k4] at h4
  obtain ⟨a4, K4, g4⟩ := (opens_slice Tryd.underlying23 (by kernel_rfl) (opens_string Tryd.underlying9)) H enc w spare held n [c4] _ h4
  have e0 := K0; simp only [Kd.int, Kd.bool, Kd.string, Kd.scalar] at e0; injection e0 with e0 _; subst e0
  have e1 := K1; simp only [Kd.int, Kd.bool, Kd.string, Kd.scalar] at e1; injection e1 with e1 _; subst e1
  have e2 := K2; simp only [Kd.int, Kd.bool, Kd.string, Kd.scalar] at e2; injection e2 with e2 _; subst e2
  have e3 := K3; simp only [Kd.int, Kd.bool, Kd.string, Kd.scalar] at e3; injection e3 with e3 _; subst e3
  obtain ⟨A4, cap4, e4, l4, C4⟩ := K4
  injection e4 with e4 _; subst e4
  refine ⟨⟨a0, a1, a2, a3, a4⟩, ?_, fun B hB => ?_⟩
  · exact k25_mk w _ l4 C4
  · simp only [List.map_cons, List.map_nil, Rows.uptoBulk, Rows.uptoBulkAll] at hB
    exact ⟨g0 B (by omega), g1 B (by omega), g2 B (by omega), g3 B (by omega), g4 B (by omega)⟩
end Go.Proofs.YtjdlaofeenblkaaDoor.X
