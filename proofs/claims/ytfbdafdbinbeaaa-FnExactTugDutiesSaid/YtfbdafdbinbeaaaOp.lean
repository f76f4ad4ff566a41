/- What functions of the given program compute, each as a contract over what its arguments read as. No condition beside those that each theorem states. -/
import Derived.Test.YtfbdafdbinbeaaaTy
import Derived.Test.YtfbdafdbinbeaaaSLL
set_option linter.unusedVariables false
set_option linter.unusedSimpArgs false
namespace Go.Proofs.Ytfbdafdbinbeaaa
open Go Go.SL Go.RowKit Go.ChangeShapes Go.WideShapes Go.ChangeAt Go.Deep
set_option maxHeartbeats 1000000
theorem Try.own : ownKnob Try.prog.godebug = none := by kernel_rfl
theorem Try.laidOut : laidOutB Try.prog = true := by kernel_rfl
theorem cells_int : Try.prog.cellsOf 3 = 1 := by kernel_rfl
theorem cells_bool : Try.prog.cellsOf 4 = 1 := by kernel_rfl
theorem cells_string : Try.prog.cellsOf 9 = 1 := by kernel_rfl
theorem opens_Int : Opens Int Try.prog 3 := opens_int Try.underlying3
theorem cells_Call : Try.prog.cellsOf 108 = 5 := by kernel_rfl
set_option maxRecDepth 100000 in
theorem opens_Call : Opens DCall Try.prog 108 := by
  intro H enc w base spare held fuel cs x h
  obtain ⟨hl, hf⟩ := opens_fields Try.underlying108 h
  have hl : cs.length = 5 := hl.trans (by kernel_rfl)
  match cs, hl with
  | [c0, c1, c2, c3, c4], _ =>
    obtain ⟨a0, e0, o0⟩ := field_int Try.underlying3 hf 0 0 ⟨_, rfl, rfl, rfl⟩ cells_int
    have e0 : [c0] = [.int .i64 a0] := e0
    obtain ⟨a1, e1, o1⟩ := field_int Try.underlying3 hf 1 1 ⟨_, rfl, rfl, rfl⟩ cells_int
    have e1 : [c1] = [.int .i64 a1] := e1
    obtain ⟨a2, e2, o2⟩ := field_int Try.underlying3 hf 2 2 ⟨_, rfl, rfl, rfl⟩ cells_int
    have e2 : [c2] = [.int .i64 a2] := e2
    obtain ⟨a3, e3, o3⟩ := field_int Try.underlying3 hf 3 3 ⟨_, rfl, rfl, rfl⟩ cells_int
    have e3 : [c3] = [.int .i64 a3] := e3
    obtain ⟨a4, e4, o4⟩ := field_int Try.underlying3 hf 4 4 ⟨_, rfl, rfl, rfl⟩ cells_int
    have e4 : [c4] = [.int .i64 a4] := e4
    have ee : [c0] ++ [c1] ++ [c2] ++ [c3] ++ [c4] = [.int .i64 a0] ++ [.int .i64 a1] ++ [.int .i64 a2] ++ [.int .i64 a3] ++ [.int .i64 a4] := by rw [e0, e1, e2, e3, e4]
    exact ⟨⟨a0, a1, a2, a3, a4⟩, ee, o0, o1, o2, o3, o4⟩
theorem cells_CallS : Try.prog.cellsOf 113 = 1 := by kernel_rfl
theorem opens_CallS : Opens (Sl DCall) Try.prog 113 := opens_slice Try.underlying113 (by kernel_rfl) opens_Call
theorem cells_Passage : Try.prog.cellsOf 152 = 5 := by kernel_rfl
set_option maxRecDepth 100000 in
theorem opens_Passage : Opens DPassage Try.prog 152 := by
  intro H enc w base spare held fuel cs x h
  obtain ⟨hl, hf⟩ := opens_fields Try.underlying152 h
  have hl : cs.length = 5 := hl.trans (by kernel_rfl)
  match cs, hl with
  | [c0, c1, c2, c3, c4], _ =>
    obtain ⟨a0, e0, o0⟩ := field_int Try.underlying3 hf 0 0 ⟨_, rfl, rfl, rfl⟩ cells_int
    have e0 : [c0] = [.int .i64 a0] := e0
    obtain ⟨a1, e1, o1⟩ := field_int Try.underlying3 hf 1 1 ⟨_, rfl, rfl, rfl⟩ cells_int
    have e1 : [c1] = [.int .i64 a1] := e1
    obtain ⟨a2, e2⟩ := field_bool Try.underlying4 hf 2 2 ⟨_, rfl, rfl, rfl⟩ cells_bool
    have e2 : [c2] = [.bool a2] := e2
    obtain ⟨a3, e3, o3⟩ := field_int Try.underlying3 hf 3 3 ⟨_, rfl, rfl, rfl⟩ cells_int
    have e3 : [c3] = [.int .i64 a3] := e3
    obtain ⟨a4, e4, o4⟩ := field_int Try.underlying3 hf 4 4 ⟨_, rfl, rfl, rfl⟩ cells_int
    have e4 : [c4] = [.int .i64 a4] := e4
    have ee : [c0] ++ [c1] ++ [c2] ++ [c3] ++ [c4] = [.int .i64 a0] ++ [.int .i64 a1] ++ [.bool a2] ++ [.int .i64 a3] ++ [.int .i64 a4] := by rw [e0, e1, e2, e3, e4]
    exact ⟨⟨a0, a1, a2, a3, a4⟩, ee, o0, o1, o3, o4⟩
theorem cells_PassageS : Try.prog.cellsOf 51 = 1 := by kernel_rfl
theorem opens_PassageS : Opens (Sl DPassage) Try.prog 51 := opens_slice Try.underlying51 (by kernel_rfl) opens_Passage
theorem cells_Option : Try.prog.cellsOf 122 = 4 := by kernel_rfl
set_option maxRecDepth 100000 in
theorem opens_Option : Opens DOption Try.prog 122 := by
  intro H enc w base spare held fuel cs x h
  obtain ⟨hl, hf⟩ := opens_fields Try.underlying122 h
  have hl : cs.length = 4 := hl.trans (by kernel_rfl)
  match cs, hl with
  | [c0, c1, c2, c3], _ =>
    obtain ⟨a0, e0, o0⟩ := field_int Try.underlying3 hf 0 0 ⟨_, rfl, rfl, rfl⟩ cells_int
    have e0 : [c0] = [.int .i64 a0] := e0
    obtain ⟨a1, e1, o1⟩ := field_int Try.underlying3 hf 1 1 ⟨_, rfl, rfl, rfl⟩ cells_int
    have e1 : [c1] = [.int .i64 a1] := e1
    obtain ⟨a2, e2, o2⟩ := field_int Try.underlying3 hf 2 2 ⟨_, rfl, rfl, rfl⟩ cells_int
    have e2 : [c2] = [.int .i64 a2] := e2
    obtain ⟨a3, e3, o3⟩ := opens_PassageS.field hf 3 3 1 ⟨_, rfl, rfl, rfl⟩ cells_PassageS
    have e3 : [c3] = Enc.enc a3 := e3
    have ee : [c0] ++ [c1] ++ [c2] ++ [c3] = [.int .i64 a0] ++ [.int .i64 a1] ++ [.int .i64 a2] ++ Enc.enc a3 := by rw [e0, e1, e2, e3]
    exact ⟨⟨a0, a1, a2, a3⟩, ee, o0, o1, o2, o3⟩
theorem cells_OptionS : Try.prog.cellsOf 22 = 1 := by kernel_rfl
theorem opens_OptionS : Opens (Sl DOption) Try.prog 22 := opens_slice Try.underlying22 (by kernel_rfl) opens_Option
theorem cells_IntS : Try.prog.cellsOf 24 = 1 := by kernel_rfl
theorem opens_IntS : Opens (Sl Int) Try.prog 24 := opens_slice Try.underlying24 (by kernel_rfl) opens_Int
theorem cells_Crew : Try.prog.cellsOf 89 = 4 := by kernel_rfl
set_option maxRecDepth 100000 in
theorem opens_Crew : Opens DCrew Try.prog 89 := by
  intro H enc w base spare held fuel cs x h
  obtain ⟨hl, hf⟩ := opens_fields Try.underlying89 h
  have hl : cs.length = 4 := hl.trans (by kernel_rfl)
  match cs, hl with
  | [c0, c1, c2, c3], _ =>
    obtain ⟨a0, e0, o0⟩ := field_int Try.underlying3 hf 0 0 ⟨_, rfl, rfl, rfl⟩ cells_int
    have e0 : [c0] = [.int .i64 a0] := e0
    obtain ⟨a1, e1, o1⟩ := field_int Try.underlying3 hf 1 1 ⟨_, rfl, rfl, rfl⟩ cells_int
    have e1 : [c1] = [.int .i64 a1] := e1
    obtain ⟨a2, e2, o2⟩ := field_int Try.underlying3 hf 2 2 ⟨_, rfl, rfl, rfl⟩ cells_int
    have e2 : [c2] = [.int .i64 a2] := e2
    obtain ⟨a3, e3, o3⟩ := opens_IntS.field hf 3 3 1 ⟨_, rfl, rfl, rfl⟩ cells_IntS
    have e3 : [c3] = Enc.enc a3 := e3
    have ee : [c0] ++ [c1] ++ [c2] ++ [c3] = [.int .i64 a0] ++ [.int .i64 a1] ++ [.int .i64 a2] ++ Enc.enc a3 := by rw [e0, e1, e2, e3]
    exact ⟨⟨a0, a1, a2, a3⟩, ee, o0, o1, o2, o3⟩
theorem cells_Part : Try.prog.cellsOf 228 = 3 := by kernel_rfl
set_option maxRecDepth 100000 in
theorem opens_Part : Opens DPart Try.prog 228 := by
  intro H enc w base spare held fuel cs x h
  obtain ⟨hl, hf⟩ := opens_fields Try.underlying228 h
  have hl : cs.length = 3 := hl.trans (by kernel_rfl)
  match cs, hl with
  | [c0, c1, c2], _ =>
    obtain ⟨a0, e0, o0⟩ := field_int Try.underlying3 hf 0 0 ⟨_, rfl, rfl, rfl⟩ cells_int
    have e0 : [c0] = [.int .i64 a0] := e0
    obtain ⟨a1, e1, o1⟩ := field_int Try.underlying3 hf 1 1 ⟨_, rfl, rfl, rfl⟩ cells_int
    have e1 : [c1] = [.int .i64 a1] := e1
    obtain ⟨a2, e2, o2⟩ := field_int Try.underlying3 hf 2 2 ⟨_, rfl, rfl, rfl⟩ cells_int
    have e2 : [c2] = [.int .i64 a2] := e2
    have ee : [c0] ++ [c1] ++ [c2] = [.int .i64 a0] ++ [.int .i64 a1] ++ [.int .i64 a2] := by rw [e0, e1, e2]
    exact ⟨⟨a0, a1, a2⟩, ee, o0, o1, o2⟩
theorem cells_PartS : Try.prog.cellsOf 80 = 1 := by kernel_rfl
theorem opens_PartS : Opens (Sl DPart) Try.prog 80 := opens_slice Try.underlying80 (by kernel_rfl) opens_Part
theorem cells_Tide : Try.prog.cellsOf 82 = 2 := by kernel_rfl
set_option maxRecDepth 100000 in
theorem opens_Tide : Opens DTide Try.prog 82 := by
  intro H enc w base spare held fuel cs x h
  obtain ⟨hl, hf⟩ := opens_fields Try.underlying82 h
  have hl : cs.length = 2 := hl.trans (by kernel_rfl)
  match cs, hl with
  | [c0, c1], _ =>
    obtain ⟨a0, e0, o0⟩ := field_int Try.underlying3 hf 0 0 ⟨_, rfl, rfl, rfl⟩ cells_int
    have e0 : [c0] = [.int .i64 a0] := e0
    obtain ⟨a1, e1, o1⟩ := opens_PartS.field hf 1 1 1 ⟨_, rfl, rfl, rfl⟩ cells_PartS
    have e1 : [c1] = Enc.enc a1 := e1
    have ee : [c0] ++ [c1] = [.int .i64 a0] ++ Enc.enc a1 := by rw [e0, e1]
    exact ⟨⟨a0, a1⟩, ee, o0, o1⟩
theorem cells_Surge : Try.prog.cellsOf 224 = 3 := by kernel_rfl
set_option maxRecDepth 100000 in
theorem opens_Surge : Opens DSurge Try.prog 224 := by
  intro H enc w base spare held fuel cs x h
  obtain ⟨hl, hf⟩ := opens_fields Try.underlying224 h
  have hl : cs.length = 3 := hl.trans (by kernel_rfl)
  match cs, hl with
  | [c0, c1, c2], _ =>
    obtain ⟨a0, e0, o0⟩ := field_int Try.underlying3 hf 0 0 ⟨_, rfl, rfl, rfl⟩ cells_int
    have e0 : [c0] = [.int .i64 a0] := e0
    obtain ⟨a1, e1, o1⟩ := field_int Try.underlying3 hf 1 1 ⟨_, rfl, rfl, rfl⟩ cells_int
    have e1 : [c1] = [.int .i64 a1] := e1
    obtain ⟨a2, e2, o2⟩ := field_int Try.underlying3 hf 2 2 ⟨_, rfl, rfl, rfl⟩ cells_int
    have e2 : [c2] = [.int .i64 a2] := e2
    have ee : [c0] ++ [c1] ++ [c2] = [.int .i64 a0] ++ [.int .i64 a1] ++ [.int .i64 a2] := by rw [e0, e1, e2]
    exact ⟨⟨a0, a1, a2⟩, ee, o0, o1, o2⟩
theorem cells_SurgeS : Try.prog.cellsOf 83 = 1 := by kernel_rfl
theorem opens_SurgeS : Opens (Sl DSurge) Try.prog 83 := opens_slice Try.underlying83 (by kernel_rfl) opens_Surge
theorem cells_Forecast : Try.prog.cellsOf 85 = 3 := by kernel_rfl
set_option maxRecDepth 100000 in
theorem opens_Forecast : Opens DForecast Try.prog 85 := by
  intro H enc w base spare held fuel cs x h
  obtain ⟨hl, hf⟩ := opens_fields Try.underlying85 h
  have hl : cs.length = 3 := hl.trans (by kernel_rfl)
  match cs, hl with
  | [c0, c1, c2], _ =>
    obtain ⟨a0, e0, o0⟩ := opens_Tide.field hf 0 0 2 ⟨_, rfl, rfl, rfl⟩ cells_Tide
    have e0 : [c0, c1] = Enc.enc a0 := e0
    obtain ⟨a1, e1, o1⟩ := opens_SurgeS.field hf 1 2 1 ⟨_, rfl, rfl, rfl⟩ cells_SurgeS
    have e1 : [c2] = Enc.enc a1 := e1
    have ee : [c0, c1] ++ [c2] = Enc.enc a0 ++ Enc.enc a1 := by rw [e0, e1]
    exact ⟨⟨a0, a1⟩, ee, o0, o1⟩
theorem cells_Point : Try.prog.cellsOf 184 = 2 := by kernel_rfl
set_option maxRecDepth 100000 in
theorem opens_Point : Opens DPoint Try.prog 184 := by
  intro H enc w base spare held fuel cs x h
  obtain ⟨hl, hf⟩ := opens_fields Try.underlying184 h
  have hl : cs.length = 2 := hl.trans (by kernel_rfl)
  match cs, hl with
  | [c0, c1], _ =>
    obtain ⟨a0, e0, o0⟩ := field_string Try.underlying9 hf 0 0 ⟨_, rfl, rfl, rfl⟩ cells_string
    have e0 : [c0] = [.string a0] := e0
    obtain ⟨a1, e1⟩ := field_bool Try.underlying4 hf 1 1 ⟨_, rfl, rfl, rfl⟩ cells_bool
    have e1 : [c1] = [.bool a1] := e1
    have ee : [c0] ++ [c1] = [.string a0] ++ [.bool a1] := by rw [e0, e1]
    exact ⟨⟨a0, a1⟩, ee, o0⟩
theorem cells_PointS : Try.prog.cellsOf 46 = 1 := by kernel_rfl
theorem opens_PointS : Opens (Sl DPoint) Try.prog 46 := opens_slice Try.underlying46 (by kernel_rfl) opens_Point
theorem cells_Segment : Try.prog.cellsOf 191 = 5 := by kernel_rfl
set_option maxRecDepth 100000 in
theorem opens_Segment : Opens DSegment Try.prog 191 := by
  intro H enc w base spare held fuel cs x h
  obtain ⟨hl, hf⟩ := opens_fields Try.underlying191 h
  have hl : cs.length = 5 := hl.trans (by kernel_rfl)
  match cs, hl with
  | [c0, c1, c2, c3, c4], _ =>
    obtain ⟨a0, e0, o0⟩ := field_int Try.underlying3 hf 0 0 ⟨_, rfl, rfl, rfl⟩ cells_int
    have e0 : [c0] = [.int .i64 a0] := e0
    obtain ⟨a1, e1, o1⟩ := field_int Try.underlying3 hf 1 1 ⟨_, rfl, rfl, rfl⟩ cells_int
    have e1 : [c1] = [.int .i64 a1] := e1
    obtain ⟨a2, e2, o2⟩ := field_int Try.underlying3 hf 2 2 ⟨_, rfl, rfl, rfl⟩ cells_int
    have e2 : [c2] = [.int .i64 a2] := e2
    obtain ⟨a3, e3, o3⟩ := field_int Try.underlying3 hf 3 3 ⟨_, rfl, rfl, rfl⟩ cells_int
    have e3 : [c3] = [.int .i64 a3] := e3
    obtain ⟨a4, e4⟩ := field_bool Try.underlying4 hf 4 4 ⟨_, rfl, rfl, rfl⟩ cells_bool
    have e4 : [c4] = [.bool a4] := e4
    have ee : [c0] ++ [c1] ++ [c2] ++ [c3] ++ [c4] = [.int .i64 a0] ++ [.int .i64 a1] ++ [.int .i64 a2] ++ [.int .i64 a3] ++ [.bool a4] := by rw [e0, e1, e2, e3, e4]
    exact ⟨⟨a0, a1, a2, a3, a4⟩, ee, o0, o1, o2, o3⟩
theorem cells_SegmentS : Try.prog.cellsOf 47 = 1 := by kernel_rfl
theorem opens_SegmentS : Opens (Sl DSegment) Try.prog 47 := opens_slice Try.underlying47 (by kernel_rfl) opens_Segment
theorem cells_Chart : Try.prog.cellsOf 49 = 2 := by kernel_rfl
set_option maxRecDepth 100000 in
theorem opens_Chart : Opens DChart Try.prog 49 := by
  intro H enc w base spare held fuel cs x h
  obtain ⟨hl, hf⟩ := opens_fields Try.underlying49 h
  have hl : cs.length = 2 := hl.trans (by kernel_rfl)
  match cs, hl with
  | [c0, c1], _ =>
    obtain ⟨a0, e0, o0⟩ := opens_PointS.field hf 0 0 1 ⟨_, rfl, rfl, rfl⟩ cells_PointS
    have e0 : [c0] = Enc.enc a0 := e0
    obtain ⟨a1, e1, o1⟩ := opens_SegmentS.field hf 1 1 1 ⟨_, rfl, rfl, rfl⟩ cells_SegmentS
    have e1 : [c1] = Enc.enc a1 := e1
    have ee : [c0] ++ [c1] = Enc.enc a0 ++ Enc.enc a1 := by rw [e0, e1]
    exact ⟨⟨a0, a1⟩, ee, o0, o1⟩
theorem cells_Ship : Try.prog.cellsOf 140 = 6 := by kernel_rfl
set_option maxRecDepth 100000 in
theorem opens_Ship : Opens DShip Try.prog 140 := by
  intro H enc w base spare held fuel cs x h
  obtain ⟨hl, hf⟩ := opens_fields Try.underlying140 h
  have hl : cs.length = 6 := hl.trans (by kernel_rfl)
  match cs, hl with
  | [c0, c1, c2, c3, c4, c5], _ =>
    obtain ⟨a0, e0, o0⟩ := field_string Try.underlying9 hf 0 0 ⟨_, rfl, rfl, rfl⟩ cells_string
    have e0 : [c0] = [.string a0] := e0
    obtain ⟨a1, e1, o1⟩ := field_int Try.underlying3 hf 1 1 ⟨_, rfl, rfl, rfl⟩ cells_int
    have e1 : [c1] = [.int .i64 a1] := e1
    obtain ⟨a2, e2, o2⟩ := field_int Try.underlying3 hf 2 2 ⟨_, rfl, rfl, rfl⟩ cells_int
    have e2 : [c2] = [.int .i64 a2] := e2
    obtain ⟨a3, e3, o3⟩ := field_int Try.underlying3 hf 3 3 ⟨_, rfl, rfl, rfl⟩ cells_int
    have e3 : [c3] = [.int .i64 a3] := e3
    obtain ⟨a4, e4, o4⟩ := field_int Try.underlying3 hf 4 4 ⟨_, rfl, rfl, rfl⟩ cells_int
    have e4 : [c4] = [.int .i64 a4] := e4
    obtain ⟨a5, e5⟩ := field_bool Try.underlying4 hf 5 5 ⟨_, rfl, rfl, rfl⟩ cells_bool
    have e5 : [c5] = [.bool a5] := e5
    have ee : [c0] ++ [c1] ++ [c2] ++ [c3] ++ [c4] ++ [c5] = [.string a0] ++ [.int .i64 a1] ++ [.int .i64 a2] ++ [.int .i64 a3] ++ [.int .i64 a4] ++ [.bool a5] := by rw [e0, e1, e2, e3, e4, e5]
    exact ⟨⟨a0, a1, a2, a3, a4, a5⟩, ee, o0, o1, o2, o3, o4⟩
theorem cells_ShipS : Try.prog.cellsOf 50 = 1 := by kernel_rfl
theorem opens_ShipS : Opens (Sl DShip) Try.prog 50 := opens_slice Try.underlying50 (by kernel_rfl) opens_Ship
theorem cells_Regime : Try.prog.cellsOf 87 = 2 := by kernel_rfl
set_option maxRecDepth 100000 in
theorem opens_Regime : Opens DRegime Try.prog 87 := by
  intro H enc w base spare held fuel cs x h
  obtain ⟨hl, hf⟩ := opens_fields Try.underlying87 h
  have hl : cs.length = 2 := hl.trans (by kernel_rfl)
  match cs, hl with
  | [c0, c1], _ =>
    obtain ⟨a0, e0, o0⟩ := field_int Try.underlying3 hf 0 0 ⟨_, rfl, rfl, rfl⟩ cells_int
    have e0 : [c0] = [.int .i64 a0] := e0
    obtain ⟨a1, e1⟩ := field_bool Try.underlying4 hf 1 1 ⟨_, rfl, rfl, rfl⟩ cells_bool
    have e1 : [c1] = [.bool a1] := e1
    have ee : [c0] ++ [c1] = [.int .i64 a0] ++ [.bool a1] := by rw [e0, e1]
    exact ⟨⟨a0, a1⟩, ee, o0⟩
theorem cells_Harbour : Try.prog.cellsOf 91 = 12 := by kernel_rfl
set_option maxRecDepth 100000 in
theorem opens_Harbour : Opens DHarbour Try.prog 91 := by
  intro H enc w base spare held fuel cs x h
  obtain ⟨hl, hf⟩ := opens_fields Try.underlying91 h
  have hl : cs.length = 12 := hl.trans (by kernel_rfl)
  match cs, hl with
  | [c0, c1, c2, c3, c4, c5, c6, c7, c8, c9, c10, c11], _ =>
    obtain ⟨a0, e0, o0⟩ := opens_Forecast.field hf 0 0 3 ⟨_, rfl, rfl, rfl⟩ cells_Forecast
    have e0 : [c0, c1, c2] = Enc.enc a0 := e0
    obtain ⟨a1, e1, o1⟩ := opens_Chart.field hf 1 3 2 ⟨_, rfl, rfl, rfl⟩ cells_Chart
    have e1 : [c3, c4] = Enc.enc a1 := e1
    obtain ⟨a2, e2, o2⟩ := opens_ShipS.field hf 2 5 1 ⟨_, rfl, rfl, rfl⟩ cells_ShipS
    have e2 : [c5] = Enc.enc a2 := e2
    obtain ⟨a3, e3, o3⟩ := opens_Regime.field hf 3 6 2 ⟨_, rfl, rfl, rfl⟩ cells_Regime
    have e3 : [c6, c7] = Enc.enc a3 := e3
    obtain ⟨a4, e4, o4⟩ := opens_Crew.field hf 4 8 4 ⟨_, rfl, rfl, rfl⟩ cells_Crew
    have e4 : [c8, c9, c10, c11] = Enc.enc a4 := e4
    have ee : [c0, c1, c2] ++ [c3, c4] ++ [c5] ++ [c6, c7] ++ [c8, c9, c10, c11] = Enc.enc a0 ++ Enc.enc a1 ++ Enc.enc a2 ++ Enc.enc a3 ++ Enc.enc a4 := by rw [e0, e1, e2, e3, e4]
    exact ⟨⟨a0, a1, a2, a3, a4⟩, ee, o0, o1, o2, o3, o4⟩
theorem cells_Branch : Try.prog.cellsOf 179 = 3 := by kernel_rfl
set_option maxRecDepth 100000 in
theorem opens_Branch : Opens DBranch Try.prog 179 := by
  intro H enc w base spare held fuel cs x h
  obtain ⟨hl, hf⟩ := opens_fields Try.underlying179 h
  have hl : cs.length = 3 := hl.trans (by kernel_rfl)
  match cs, hl with
  | [c0, c1, c2], _ =>
    obtain ⟨a0, e0, o0⟩ := field_int Try.underlying3 hf 0 0 ⟨_, rfl, rfl, rfl⟩ cells_int
    have e0 : [c0] = [.int .i64 a0] := e0
    obtain ⟨a1, e1, o1⟩ := field_int Try.underlying3 hf 1 1 ⟨_, rfl, rfl, rfl⟩ cells_int
    have e1 : [c1] = [.int .i64 a1] := e1
    obtain ⟨a2, e2, o2⟩ := opens_OptionS.field hf 2 2 1 ⟨_, rfl, rfl, rfl⟩ cells_OptionS
    have e2 : [c2] = Enc.enc a2 := e2
    have ee : [c0] ++ [c1] ++ [c2] = [.int .i64 a0] ++ [.int .i64 a1] ++ Enc.enc a2 := by rw [e0, e1, e2]
    exact ⟨⟨a0, a1, a2⟩, ee, o0, o1, o2⟩
theorem cells_BranchS : Try.prog.cellsOf 33 = 1 := by kernel_rfl
theorem opens_BranchS : Opens (Sl DBranch) Try.prog 33 := opens_slice Try.underlying33 (by kernel_rfl) opens_Branch
theorem cells_Strategy : Try.prog.cellsOf 35 = 2 := by kernel_rfl
set_option maxRecDepth 100000 in
theorem opens_Strategy : Opens DStrategy Try.prog 35 := by
  intro H enc w base spare held fuel cs x h
  obtain ⟨hl, hf⟩ := opens_fields Try.underlying35 h
  have hl : cs.length = 2 := hl.trans (by kernel_rfl)
  match cs, hl with
  | [c0, c1], _ =>
    obtain ⟨a0, e0, o0⟩ := field_int Try.underlying3 hf 0 0 ⟨_, rfl, rfl, rfl⟩ cells_int
    have e0 : [c0] = [.int .i64 a0] := e0
    obtain ⟨a1, e1, o1⟩ := opens_BranchS.field hf 1 1 1 ⟨_, rfl, rfl, rfl⟩ cells_BranchS
    have e1 : [c1] = Enc.enc a1 := e1
    have ee : [c0] ++ [c1] = [.int .i64 a0] ++ Enc.enc a1 := by rw [e0, e1]
    exact ⟨⟨a0, a1⟩, ee, o0, o1⟩
end Go.Proofs.Ytfbdafdbinbeaaa
