/- What functions of the given program compute, each as a contract over what its arguments read as. No condition beside those that each theorem states. -/
import Derived.Test.YtkoghfeelonhhaaTy
import Derived.Test.YtkoghfeelonhhaaSLL
set_option linter.unusedVariables false
set_option linter.unusedSimpArgs false
namespace Go.Proofs.Ytkoghfeelonhhaa
open Go Go.SL Go.RowKit Go.ChangeShapes Go.WideShapes Go.ChangeAt Go.Deep
set_option maxHeartbeats 1000000
theorem Try.own : ownKnob Try.prog.godebug = none := by kernel_rfl
theorem Try.laidOut : laidOutB Try.prog = true := by kernel_rfl
theorem cells_int : Try.prog.cellsOf 3 = 1 := by kernel_rfl
theorem cells_bool : Try.prog.cellsOf 4 = 1 := by kernel_rfl
theorem cells_string : Try.prog.cellsOf 9 = 1 := by kernel_rfl
theorem opens_Int : Opens Int Try.prog 3 := opens_int Try.underlying3
theorem cells_Call : Try.prog.cellsOf 80 = 5 := by kernel_rfl
set_option maxRecDepth 100000 in
theorem opens_Call : Opens DCall Try.prog 80 := by
  intro H enc w base spare held fuel cs x h
  obtain ⟨hl, hf⟩ := opens_fields Try.underlying80 h
  have hl : cs.length = 5 := hl.trans (by kernel_rfl)
  match cs, hl with
  | [c0, c1, c2, c3, c4], _ =>
    obtain ⟨a0, e0, o0⟩ := field_int Try.underlying3 hf 0 0 ⟨_, rfl, rfl, rfl⟩ cells_int
    have e0 : [c0] = [.int .i64 a0] := e0
    obtain ⟨a1, e1, o1⟩ := field_int Try.underlying3 hf 1 1 ⟨_, rfl, rfl, rfl⟩ cells_int
    have e1 : [c1] = [.int .i64 a1] := e1
    obtain ⟨a2, e2, o2⟩ := field_int Try.underlying3 hf 2 2 ⟨_, rfl, rfl, rfl⟩ cells_int
    have e2 : [c2] = [.int .i64 a2] := e2
    obtain ⟨a3, e3, o3⟩ := field_int Try.underlying3 hf 3 3 ⟨_, rfl, rfl, rfl⟩ cells_int
    have e3 : [c3] = [.int .i64 a3] := e3
    obtain ⟨a4, e4, o4⟩ := field_int Try.underlying3 hf 4 4 ⟨_, rfl, rfl, rfl⟩ cells_int
    have e4 : [c4] = [.int .i64 a4] := e4
    have ee : [c0] ++ [c1] ++ [c2] ++ [c3] ++ [c4] = [.int .i64 a0] ++ [.int .i64 a1] ++ [.int .i64 a2] ++ [.int .i64 a3] ++ [.int .i64 a4] := by rw [e0, e1, e2, e3, e4]
    exact ⟨⟨a0, a1, a2, a3, a4⟩, ee, o0, o1, o2, o3, o4⟩
theorem cells_CallS : Try.prog.cellsOf 31 = 1 := by kernel_rfl
theorem opens_CallS : Opens (Sl DCall) Try.prog 31 := opens_slice Try.underlying31 (by kernel_rfl) opens_Call
theorem cells_Passage : Try.prog.cellsOf 91 = 5 := by kernel_rfl
set_option maxRecDepth 100000 in
theorem opens_Passage : Opens DPassage Try.prog 91 := by
  intro H enc w base spare held fuel cs x h
  obtain ⟨hl, hf⟩ := opens_fields Try.underlying91 h
  have hl : cs.length = 5 := hl.trans (by kernel_rfl)
  match cs, hl with
  | [c0, c1, c2, c3, c4], _ =>
    obtain ⟨a0, e0, o0⟩ := field_int Try.underlying3 hf 0 0 ⟨_, rfl, rfl, rfl⟩ cells_int
    have e0 : [c0] = [.int .i64 a0] := e0
    obtain ⟨a1, e1, o1⟩ := field_int Try.underlying3 hf 1 1 ⟨_, rfl, rfl, rfl⟩ cells_int
    have e1 : [c1] = [.int .i64 a1] := e1
    obtain ⟨a2, e2⟩ := field_bool Try.underlying4 hf 2 2 ⟨_, rfl, rfl, rfl⟩ cells_bool
    have e2 : [c2] = [.bool a2] := e2
    obtain ⟨a3, e3, o3⟩ := field_int Try.underlying3 hf 3 3 ⟨_, rfl, rfl, rfl⟩ cells_int
    have e3 : [c3] = [.int .i64 a3] := e3
    obtain ⟨a4, e4, o4⟩ := field_int Try.underlying3 hf 4 4 ⟨_, rfl, rfl, rfl⟩ cells_int
    have e4 : [c4] = [.int .i64 a4] := e4
    have ee : [c0] ++ [c1] ++ [c2] ++ [c3] ++ [c4] = [.int .i64 a0] ++ [.int .i64 a1] ++ [.bool a2] ++ [.int .i64 a3] ++ [.int .i64 a4] := by rw [e0, e1, e2, e3, e4]
    exact ⟨⟨a0, a1, a2, a3, a4⟩, ee, o0, o1, o3, o4⟩
theorem cells_PassageS : Try.prog.cellsOf 40 = 1 := by kernel_rfl
theorem opens_PassageS : Opens (Sl DPassage) Try.prog 40 := opens_slice Try.underlying40 (by kernel_rfl) opens_Passage
theorem cells_Option : Try.prog.cellsOf 42 = 4 := by kernel_rfl
set_option maxRecDepth 100000 in
theorem opens_Option : Opens DOption Try.prog 42 := by
  intro H enc w base spare held fuel cs x h
  obtain ⟨hl, hf⟩ := opens_fields Try.underlying42 h
  have hl : cs.length = 4 := hl.trans (by kernel_rfl)
  match cs, hl with
  | [c0, c1, c2, c3], _ =>
    obtain ⟨a0, e0, o0⟩ := field_int Try.underlying3 hf 0 0 ⟨_, rfl, rfl, rfl⟩ cells_int
    have e0 : [c0] = [.int .i64 a0] := e0
    obtain ⟨a1, e1, o1⟩ := field_int Try.underlying3 hf 1 1 ⟨_, rfl, rfl, rfl⟩ cells_int
    have e1 : [c1] = [.int .i64 a1] := e1
    obtain ⟨a2, e2, o2⟩ := field_int Try.underlying3 hf 2 2 ⟨_, rfl, rfl, rfl⟩ cells_int
    have e2 : [c2] = [.int .i64 a2] := e2
    obtain ⟨a3, e3, o3⟩ := opens_PassageS.field hf 3 3 1 ⟨_, rfl, rfl, rfl⟩ cells_PassageS
    have e3 : [c3] = Enc.enc a3 := e3
    have ee : [c0] ++ [c1] ++ [c2] ++ [c3] = [.int .i64 a0] ++ [.int .i64 a1] ++ [.int .i64 a2] ++ Enc.enc a3 := by rw [e0, e1, e2, e3]
    exact ⟨⟨a0, a1, a2, a3⟩, ee, o0, o1, o2, o3⟩
theorem cells_OptionS : Try.prog.cellsOf 51 = 1 := by kernel_rfl
theorem opens_OptionS : Opens (Sl DOption) Try.prog 51 := opens_slice Try.underlying51 (by kernel_rfl) opens_Option
theorem cells_IntS : Try.prog.cellsOf 22 = 1 := by kernel_rfl
theorem opens_IntS : Opens (Sl Int) Try.prog 22 := opens_slice Try.underlying22 (by kernel_rfl) opens_Int
theorem cells_Crew : Try.prog.cellsOf 24 = 4 := by kernel_rfl
set_option maxRecDepth 100000 in
theorem opens_Crew : Opens DCrew Try.prog 24 := by
  intro H enc w base spare held fuel cs x h
  obtain ⟨hl, hf⟩ := opens_fields Try.underlying24 h
  have hl : cs.length = 4 := hl.trans (by kernel_rfl)
  match cs, hl with
  | [c0, c1, c2, c3], _ =>
    obtain ⟨a0, e0, o0⟩ := field_int Try.underlying3 hf 0 0 ⟨_, rfl, rfl, rfl⟩ cells_int
    have e0 : [c0] = [.int .i64 a0] := e0
    obtain ⟨a1, e1, o1⟩ := field_int Try.underlying3 hf 1 1 ⟨_, rfl, rfl, rfl⟩ cells_int
    have e1 : [c1] = [.int .i64 a1] := e1
    obtain ⟨a2, e2, o2⟩ := field_int Try.underlying3 hf 2 2 ⟨_, rfl, rfl, rfl⟩ cells_int
    have e2 : [c2] = [.int .i64 a2] := e2
    obtain ⟨a3, e3, o3⟩ := opens_IntS.field hf 3 3 1 ⟨_, rfl, rfl, rfl⟩ cells_IntS
    have e3 : [c3] = Enc.enc a3 := e3
    have ee : [c0] ++ [c1] ++ [c2] ++ [c3] = [.int .i64 a0] ++ [.int .i64 a1] ++ [.int .i64 a2] ++ Enc.enc a3 := by rw [e0, e1, e2, e3]
    exact ⟨⟨a0, a1, a2, a3⟩, ee, o0, o1, o2, o3⟩
end Go.Proofs.Ytkoghfeelonhhaa
