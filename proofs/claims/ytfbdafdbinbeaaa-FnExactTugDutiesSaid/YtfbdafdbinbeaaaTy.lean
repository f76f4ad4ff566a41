/- Facts about the types of the program. No condition. -/
import Derived.Test.YtfbdafdbinbeaaaSLS
import Derived.Test.YtfbdafdbinbeaaaProg
set_option linter.unusedVariables false
set_option linter.unusedSimpArgs false
namespace Go.Proofs.Ytfbdafdbinbeaaa
open Go Go.SL
@[go_sem] theorem ty_has1 : hasT Try.prog 1 = true := by kernel_rfl
@[go_sem] theorem ty_sz1 : szT Try.prog 1 = 1 := by kernel_rfl
@[go_sem] theorem ty_by1 : Try.prog.bytesOf 1 = 8 := by kernel_rfl
@[go_sem] theorem ty_agg1 : aggT Try.prog 1 = false := by kernel_rfl
@[go_sem] theorem ty_el1 : elemT Try.prog 1 = none := by kernel_rfl
@[go_sem] theorem ty_ar1 : arrT Try.prog 1 = none := by kernel_rfl
@[go_sem] theorem ty_ze1 : zeroT Try.prog 1 = some [.nilFunc] := by kernel_rfl
@[go_sem] theorem ty_has2 : hasT Try.prog 2 = true := by kernel_rfl
@[go_sem] theorem ty_sz2 : szT Try.prog 2 = 1 := by kernel_rfl
@[go_sem] theorem ty_by2 : Try.prog.bytesOf 2 = 8 := by kernel_rfl
@[go_sem] theorem ty_agg2 : aggT Try.prog 2 = false := by kernel_rfl
@[go_sem] theorem ty_el2 : elemT Try.prog 2 = none := by kernel_rfl
@[go_sem] theorem ty_ar2 : arrT Try.prog 2 = none := by kernel_rfl
@[go_sem] theorem ty_ze2 : zeroT Try.prog 2 = some [.int .i64 0] := by kernel_rfl
@[go_sem] theorem ty_in2 : intT Try.prog 2 = some .i64 := by kernel_rfl
attribute [go_sem] Try.underlying2
@[go_sem] theorem ty_has3 : hasT Try.prog 3 = true := by kernel_rfl
@[go_sem] theorem ty_sz3 : szT Try.prog 3 = 1 := by kernel_rfl
@[go_sem] theorem ty_by3 : Try.prog.bytesOf 3 = 8 := by kernel_rfl
@[go_sem] theorem ty_agg3 : aggT Try.prog 3 = false := by kernel_rfl
@[go_sem] theorem ty_el3 : elemT Try.prog 3 = none := by kernel_rfl
@[go_sem] theorem ty_ar3 : arrT Try.prog 3 = none := by kernel_rfl
@[go_sem] theorem ty_ze3 : zeroT Try.prog 3 = some [.int .i64 0] := by kernel_rfl
@[go_sem] theorem ty_in3 : intT Try.prog 3 = some .i64 := by kernel_rfl
attribute [go_sem] Try.underlying3
@[go_sem] theorem ty_has4 : hasT Try.prog 4 = true := by kernel_rfl
@[go_sem] theorem ty_sz4 : szT Try.prog 4 = 1 := by kernel_rfl
@[go_sem] theorem ty_by4 : Try.prog.bytesOf 4 = 1 := by kernel_rfl
@[go_sem] theorem ty_agg4 : aggT Try.prog 4 = false := by kernel_rfl
@[go_sem] theorem ty_el4 : elemT Try.prog 4 = none := by kernel_rfl
@[go_sem] theorem ty_ar4 : arrT Try.prog 4 = none := by kernel_rfl
@[go_sem] theorem ty_ze4 : zeroT Try.prog 4 = some [.bool false] := by kernel_rfl
attribute [go_sem] Try.underlying4
@[go_sem] theorem ty_has5 : hasT Try.prog 5 = true := by kernel_rfl
@[go_sem] theorem ty_sz5 : szT Try.prog 5 = 1 := by kernel_rfl
@[go_sem] theorem ty_by5 : Try.prog.bytesOf 5 = 1 := by kernel_rfl
@[go_sem] theorem ty_agg5 : aggT Try.prog 5 = false := by kernel_rfl
@[go_sem] theorem ty_el5 : elemT Try.prog 5 = none := by kernel_rfl
@[go_sem] theorem ty_ar5 : arrT Try.prog 5 = none := by kernel_rfl
@[go_sem] theorem ty_ze5 : zeroT Try.prog 5 = some [.int .u8 0] := by kernel_rfl
@[go_sem] theorem ty_in5 : intT Try.prog 5 = some .u8 := by kernel_rfl
attribute [go_sem] Try.underlying5
@[go_sem] theorem ty_has9 : hasT Try.prog 9 = true := by kernel_rfl
@[go_sem] theorem ty_sz9 : szT Try.prog 9 = 1 := by kernel_rfl
@[go_sem] theorem ty_by9 : Try.prog.bytesOf 9 = 16 := by kernel_rfl
@[go_sem] theorem ty_agg9 : aggT Try.prog 9 = false := by kernel_rfl
@[go_sem] theorem ty_el9 : elemT Try.prog 9 = none := by kernel_rfl
@[go_sem] theorem ty_ar9 : arrT Try.prog 9 = none := by kernel_rfl
@[go_sem] theorem ty_ze9 : zeroT Try.prog 9 = some [.string ByteArray.empty] := by kernel_rfl
@[go_sem] theorem ty_st9 : strT Try.prog 9 = true := by kernel_rfl
attribute [go_sem] Try.underlying9
@[go_sem] theorem ty_has12 : hasT Try.prog 12 = true := by kernel_rfl
@[go_sem] theorem ty_sz12 : szT Try.prog 12 = 1 := by kernel_rfl
@[go_sem] theorem ty_by12 : Try.prog.bytesOf 12 = 8 := by kernel_rfl
@[go_sem] theorem ty_agg12 : aggT Try.prog 12 = false := by kernel_rfl
@[go_sem] theorem ty_el12 : elemT Try.prog 12 = none := by kernel_rfl
@[go_sem] theorem ty_ar12 : arrT Try.prog 12 = none := by kernel_rfl
@[go_sem] theorem ty_ze12 : zeroT Try.prog 12 = some [.int .u64 0] := by kernel_rfl
@[go_sem] theorem ty_in12 : intT Try.prog 12 = some .u64 := by kernel_rfl
attribute [go_sem] Try.underlying12
@[go_sem] theorem ty_has13 : hasT Try.prog 13 = true := by kernel_rfl
@[go_sem] theorem ty_sz13 : szT Try.prog 13 = 2 := by kernel_rfl
@[go_sem] theorem ty_by13 : Try.prog.bytesOf 13 = 24 := by kernel_rfl
@[go_sem] theorem ty_agg13 : aggT Try.prog 13 = true := by kernel_rfl
@[go_sem] theorem ty_el13 : elemT Try.prog 13 = none := by kernel_rfl
@[go_sem] theorem ty_ar13 : arrT Try.prog 13 = none := by kernel_rfl
@[go_sem] theorem ty_ze13 : zeroT Try.prog 13 = some [.string ByteArray.empty, .int .u64 0] := by kernel_rfl
@[go_sem] theorem ty_po13 : partsOk Try.prog 13 = true := by kernel_rfl
@[go_sem] theorem ty_fi13_0 : fieldOf Try.prog 13 0 = some (0, 9) := by kernel_rfl
@[go_sem] theorem ty_pt13_0 : partT Try.prog 13 0 = some (0, 1) := by kernel_rfl
@[go_sem] theorem ty_fi13_1 : fieldOf Try.prog 13 1 = some (1, 12) := by kernel_rfl
@[go_sem] theorem ty_pt13_1 : partT Try.prog 13 1 = some (1, 1) := by kernel_rfl
attribute [go_sem] Try.underlying13 Try.stoodInHeld13 Try.eqGuardType13
@[go_sem] theorem ty_has21 : hasT Try.prog 21 = true := by kernel_rfl
@[go_sem] theorem ty_sz21 : szT Try.prog 21 = 1 := by kernel_rfl
@[go_sem] theorem ty_by21 : Try.prog.bytesOf 21 = 4 := by kernel_rfl
@[go_sem] theorem ty_agg21 : aggT Try.prog 21 = false := by kernel_rfl
@[go_sem] theorem ty_el21 : elemT Try.prog 21 = none := by kernel_rfl
@[go_sem] theorem ty_ar21 : arrT Try.prog 21 = none := by kernel_rfl
@[go_sem] theorem ty_ze21 : zeroT Try.prog 21 = some [.int .i32 0] := by kernel_rfl
@[go_sem] theorem ty_in21 : intT Try.prog 21 = some .i32 := by kernel_rfl
attribute [go_sem] Try.underlying21
@[go_sem] theorem ty_has22 : hasT Try.prog 22 = true := by kernel_rfl
@[go_sem] theorem ty_sz22 : szT Try.prog 22 = 1 := by kernel_rfl
@[go_sem] theorem ty_by22 : Try.prog.bytesOf 22 = 24 := by kernel_rfl
@[go_sem] theorem ty_agg22 : aggT Try.prog 22 = false := by kernel_rfl
@[go_sem] theorem ty_el22 : elemT Try.prog 22 = some 122 := by kernel_rfl
@[go_sem] theorem ty_ar22 : arrT Try.prog 22 = none := by kernel_rfl
@[go_sem] theorem ty_ze22 : zeroT Try.prog 22 = some [.slice none 0 0] := by kernel_rfl
@[go_sem] theorem ty_has23 : hasT Try.prog 23 = true := by kernel_rfl
@[go_sem] theorem ty_sz23 : szT Try.prog 23 = 1 := by kernel_rfl
@[go_sem] theorem ty_by23 : Try.prog.bytesOf 23 = 8 := by kernel_rfl
@[go_sem] theorem ty_agg23 : aggT Try.prog 23 = false := by kernel_rfl
@[go_sem] theorem ty_el23 : elemT Try.prog 23 = none := by kernel_rfl
@[go_sem] theorem ty_ar23 : arrT Try.prog 23 = none := by kernel_rfl
@[go_sem] theorem ty_ze23 : zeroT Try.prog 23 = some [.nilFunc] := by kernel_rfl
@[go_sem] theorem ty_has24 : hasT Try.prog 24 = true := by kernel_rfl
@[go_sem] theorem ty_sz24 : szT Try.prog 24 = 1 := by kernel_rfl
@[go_sem] theorem ty_by24 : Try.prog.bytesOf 24 = 24 := by kernel_rfl
@[go_sem] theorem ty_agg24 : aggT Try.prog 24 = false := by kernel_rfl
@[go_sem] theorem ty_el24 : elemT Try.prog 24 = some 3 := by kernel_rfl
@[go_sem] theorem ty_ar24 : arrT Try.prog 24 = none := by kernel_rfl
@[go_sem] theorem ty_ze24 : zeroT Try.prog 24 = some [.slice none 0 0] := by kernel_rfl
@[go_sem] theorem ty_has25 : hasT Try.prog 25 = true := by kernel_rfl
@[go_sem] theorem ty_sz25 : szT Try.prog 25 = 1 := by kernel_rfl
@[go_sem] theorem ty_by25 : Try.prog.bytesOf 25 = 8 := by kernel_rfl
@[go_sem] theorem ty_agg25 : aggT Try.prog 25 = false := by kernel_rfl
@[go_sem] theorem ty_el25 : elemT Try.prog 25 = none := by kernel_rfl
@[go_sem] theorem ty_ar25 : arrT Try.prog 25 = none := by kernel_rfl
@[go_sem] theorem ty_ze25 : zeroT Try.prog 25 = some [.nilFunc] := by kernel_rfl
@[go_sem] theorem ty_has26 : hasT Try.prog 26 = true := by kernel_rfl
@[go_sem] theorem ty_sz26 : szT Try.prog 26 = 1 := by kernel_rfl
@[go_sem] theorem ty_by26 : Try.prog.bytesOf 26 = 24 := by kernel_rfl
@[go_sem] theorem ty_agg26 : aggT Try.prog 26 = false := by kernel_rfl
@[go_sem] theorem ty_el26 : elemT Try.prog 26 = some 125 := by kernel_rfl
@[go_sem] theorem ty_ar26 : arrT Try.prog 26 = none := by kernel_rfl
@[go_sem] theorem ty_ze26 : zeroT Try.prog 26 = some [.slice none 0 0] := by kernel_rfl
@[go_sem] theorem ty_has27 : hasT Try.prog 27 = true := by kernel_rfl
@[go_sem] theorem ty_sz27 : szT Try.prog 27 = 1 := by kernel_rfl
@[go_sem] theorem ty_by27 : Try.prog.bytesOf 27 = 8 := by kernel_rfl
@[go_sem] theorem ty_agg27 : aggT Try.prog 27 = false := by kernel_rfl
@[go_sem] theorem ty_el27 : elemT Try.prog 27 = none := by kernel_rfl
@[go_sem] theorem ty_ar27 : arrT Try.prog 27 = none := by kernel_rfl
@[go_sem] theorem ty_ze27 : zeroT Try.prog 27 = some [.nilFunc] := by kernel_rfl
@[go_sem] theorem ty_has28 : hasT Try.prog 28 = true := by kernel_rfl
@[go_sem] theorem ty_sz28 : szT Try.prog 28 = 1 := by kernel_rfl
@[go_sem] theorem ty_by28 : Try.prog.bytesOf 28 = 8 := by kernel_rfl
@[go_sem] theorem ty_agg28 : aggT Try.prog 28 = false := by kernel_rfl
@[go_sem] theorem ty_el28 : elemT Try.prog 28 = none := by kernel_rfl
@[go_sem] theorem ty_ar28 : arrT Try.prog 28 = none := by kernel_rfl
@[go_sem] theorem ty_ze28 : zeroT Try.prog 28 = some [.nilFunc] := by kernel_rfl
@[go_sem] theorem ty_has29 : hasT Try.prog 29 = true := by kernel_rfl
@[go_sem] theorem ty_sz29 : szT Try.prog 29 = 1 := by kernel_rfl
@[go_sem] theorem ty_by29 : Try.prog.bytesOf 29 = 8 := by kernel_rfl
@[go_sem] theorem ty_agg29 : aggT Try.prog 29 = false := by kernel_rfl
@[go_sem] theorem ty_el29 : elemT Try.prog 29 = none := by kernel_rfl
@[go_sem] theorem ty_ar29 : arrT Try.prog 29 = none := by kernel_rfl
@[go_sem] theorem ty_ze29 : zeroT Try.prog 29 = some [.nilFunc] := by kernel_rfl
@[go_sem] theorem ty_has30 : hasT Try.prog 30 = true := by kernel_rfl
@[go_sem] theorem ty_sz30 : szT Try.prog 30 = 1 := by kernel_rfl
@[go_sem] theorem ty_by30 : Try.prog.bytesOf 30 = 8 := by kernel_rfl
@[go_sem] theorem ty_agg30 : aggT Try.prog 30 = false := by kernel_rfl
@[go_sem] theorem ty_el30 : elemT Try.prog 30 = none := by kernel_rfl
@[go_sem] theorem ty_ar30 : arrT Try.prog 30 = none := by kernel_rfl
@[go_sem] theorem ty_ze30 : zeroT Try.prog 30 = some [.nilFunc] := by kernel_rfl
@[go_sem] theorem ty_has31 : hasT Try.prog 31 = true := by kernel_rfl
@[go_sem] theorem ty_sz31 : szT Try.prog 31 = 1 := by kernel_rfl
@[go_sem] theorem ty_by31 : Try.prog.bytesOf 31 = 8 := by kernel_rfl
@[go_sem] theorem ty_agg31 : aggT Try.prog 31 = false := by kernel_rfl
@[go_sem] theorem ty_el31 : elemT Try.prog 31 = none := by kernel_rfl
@[go_sem] theorem ty_ar31 : arrT Try.prog 31 = none := by kernel_rfl
@[go_sem] theorem ty_ze31 : zeroT Try.prog 31 = some [.nilFunc] := by kernel_rfl
@[go_sem] theorem ty_has32 : hasT Try.prog 32 = true := by kernel_rfl
@[go_sem] theorem ty_sz32 : szT Try.prog 32 = 1 := by kernel_rfl
@[go_sem] theorem ty_by32 : Try.prog.bytesOf 32 = 8 := by kernel_rfl
@[go_sem] theorem ty_agg32 : aggT Try.prog 32 = false := by kernel_rfl
@[go_sem] theorem ty_el32 : elemT Try.prog 32 = none := by kernel_rfl
@[go_sem] theorem ty_ar32 : arrT Try.prog 32 = none := by kernel_rfl
@[go_sem] theorem ty_ze32 : zeroT Try.prog 32 = some [.nilFunc] := by kernel_rfl
@[go_sem] theorem ty_has33 : hasT Try.prog 33 = true := by kernel_rfl
@[go_sem] theorem ty_sz33 : szT Try.prog 33 = 1 := by kernel_rfl
@[go_sem] theorem ty_by33 : Try.prog.bytesOf 33 = 24 := by kernel_rfl
@[go_sem] theorem ty_agg33 : aggT Try.prog 33 = false := by kernel_rfl
@[go_sem] theorem ty_el33 : elemT Try.prog 33 = some 179 := by kernel_rfl
@[go_sem] theorem ty_ar33 : arrT Try.prog 33 = none := by kernel_rfl
@[go_sem] theorem ty_ze33 : zeroT Try.prog 33 = some [.slice none 0 0] := by kernel_rfl
@[go_sem] theorem ty_has34 : hasT Try.prog 34 = true := by kernel_rfl
@[go_sem] theorem ty_sz34 : szT Try.prog 34 = 2 := by kernel_rfl
@[go_sem] theorem ty_by34 : Try.prog.bytesOf 34 = 32 := by kernel_rfl
@[go_sem] theorem ty_agg34 : aggT Try.prog 34 = true := by kernel_rfl
@[go_sem] theorem ty_el34 : elemT Try.prog 34 = none := by kernel_rfl
@[go_sem] theorem ty_ar34 : arrT Try.prog 34 = none := by kernel_rfl
@[go_sem] theorem ty_ze34 : zeroT Try.prog 34 = some [.int .i64 0, .slice none 0 0] := by kernel_rfl
@[go_sem] theorem ty_po34 : partsOk Try.prog 34 = true := by kernel_rfl
@[go_sem] theorem ty_fi34_0 : fieldOf Try.prog 34 0 = some (0, 3) := by kernel_rfl
@[go_sem] theorem ty_pt34_0 : partT Try.prog 34 0 = some (0, 1) := by kernel_rfl
@[go_sem] theorem ty_fi34_1 : fieldOf Try.prog 34 1 = some (1, 33) := by kernel_rfl
@[go_sem] theorem ty_pt34_1 : partT Try.prog 34 1 = some (1, 1) := by kernel_rfl
attribute [go_sem] Try.underlying34 Try.stoodInHeld34 Try.eqGuardType34
@[go_sem] theorem ty_has35 : hasT Try.prog 35 = true := by kernel_rfl
@[go_sem] theorem ty_sz35 : szT Try.prog 35 = 2 := by kernel_rfl
@[go_sem] theorem ty_by35 : Try.prog.bytesOf 35 = 32 := by kernel_rfl
@[go_sem] theorem ty_agg35 : aggT Try.prog 35 = true := by kernel_rfl
@[go_sem] theorem ty_el35 : elemT Try.prog 35 = none := by kernel_rfl
@[go_sem] theorem ty_ar35 : arrT Try.prog 35 = none := by kernel_rfl
@[go_sem] theorem ty_ze35 : zeroT Try.prog 35 = some [.int .i64 0, .slice none 0 0] := by kernel_rfl
@[go_sem] theorem ty_po35 : partsOk Try.prog 35 = true := by kernel_rfl
@[go_sem] theorem ty_fi35_0 : fieldOf Try.prog 35 0 = some (0, 3) := by kernel_rfl
@[go_sem] theorem ty_pt35_0 : partT Try.prog 35 0 = some (0, 1) := by kernel_rfl
@[go_sem] theorem ty_fi35_1 : fieldOf Try.prog 35 1 = some (1, 33) := by kernel_rfl
@[go_sem] theorem ty_pt35_1 : partT Try.prog 35 1 = some (1, 1) := by kernel_rfl
attribute [go_sem] Try.underlying35 Try.stoodInHeld35 Try.eqGuardType35
@[go_sem] theorem ty_has36 : hasT Try.prog 36 = true := by kernel_rfl
@[go_sem] theorem ty_sz36 : szT Try.prog 36 = 1 := by kernel_rfl
@[go_sem] theorem ty_by36 : Try.prog.bytesOf 36 = 8 := by kernel_rfl
@[go_sem] theorem ty_agg36 : aggT Try.prog 36 = false := by kernel_rfl
@[go_sem] theorem ty_el36 : elemT Try.prog 36 = none := by kernel_rfl
@[go_sem] theorem ty_ar36 : arrT Try.prog 36 = none := by kernel_rfl
@[go_sem] theorem ty_ze36 : zeroT Try.prog 36 = some [.nilFunc] := by kernel_rfl
@[go_sem] theorem ty_has37 : hasT Try.prog 37 = true := by kernel_rfl
@[go_sem] theorem ty_sz37 : szT Try.prog 37 = 1 := by kernel_rfl
@[go_sem] theorem ty_by37 : Try.prog.bytesOf 37 = 8 := by kernel_rfl
@[go_sem] theorem ty_agg37 : aggT Try.prog 37 = false := by kernel_rfl
@[go_sem] theorem ty_el37 : elemT Try.prog 37 = none := by kernel_rfl
@[go_sem] theorem ty_ar37 : arrT Try.prog 37 = none := by kernel_rfl
@[go_sem] theorem ty_ze37 : zeroT Try.prog 37 = some [.nilFunc] := by kernel_rfl
@[go_sem] theorem ty_has38 : hasT Try.prog 38 = true := by kernel_rfl
@[go_sem] theorem ty_sz38 : szT Try.prog 38 = 1 := by kernel_rfl
@[go_sem] theorem ty_by38 : Try.prog.bytesOf 38 = 24 := by kernel_rfl
@[go_sem] theorem ty_agg38 : aggT Try.prog 38 = false := by kernel_rfl
@[go_sem] theorem ty_el38 : elemT Try.prog 38 = some 129 := by kernel_rfl
@[go_sem] theorem ty_ar38 : arrT Try.prog 38 = none := by kernel_rfl
@[go_sem] theorem ty_ze38 : zeroT Try.prog 38 = some [.slice none 0 0] := by kernel_rfl
@[go_sem] theorem ty_has39 : hasT Try.prog 39 = true := by kernel_rfl
@[go_sem] theorem ty_sz39 : szT Try.prog 39 = 2 := by kernel_rfl
@[go_sem] theorem ty_by39 : Try.prog.bytesOf 39 = 32 := by kernel_rfl
@[go_sem] theorem ty_agg39 : aggT Try.prog 39 = true := by kernel_rfl
@[go_sem] theorem ty_el39 : elemT Try.prog 39 = none := by kernel_rfl
@[go_sem] theorem ty_ar39 : arrT Try.prog 39 = none := by kernel_rfl
@[go_sem] theorem ty_ze39 : zeroT Try.prog 39 = some [.int .i64 0, .slice none 0 0] := by kernel_rfl
@[go_sem] theorem ty_po39 : partsOk Try.prog 39 = true := by kernel_rfl
@[go_sem] theorem ty_fi39_0 : fieldOf Try.prog 39 0 = some (0, 3) := by kernel_rfl
@[go_sem] theorem ty_pt39_0 : partT Try.prog 39 0 = some (0, 1) := by kernel_rfl
@[go_sem] theorem ty_fi39_1 : fieldOf Try.prog 39 1 = some (1, 38) := by kernel_rfl
@[go_sem] theorem ty_pt39_1 : partT Try.prog 39 1 = some (1, 1) := by kernel_rfl
attribute [go_sem] Try.underlying39 Try.stoodInHeld39 Try.eqGuardType39
@[go_sem] theorem ty_has40 : hasT Try.prog 40 = true := by kernel_rfl
@[go_sem] theorem ty_sz40 : szT Try.prog 40 = 2 := by kernel_rfl
@[go_sem] theorem ty_by40 : Try.prog.bytesOf 40 = 32 := by kernel_rfl
@[go_sem] theorem ty_agg40 : aggT Try.prog 40 = true := by kernel_rfl
@[go_sem] theorem ty_el40 : elemT Try.prog 40 = none := by kernel_rfl
@[go_sem] theorem ty_ar40 : arrT Try.prog 40 = none := by kernel_rfl
@[go_sem] theorem ty_ze40 : zeroT Try.prog 40 = some [.int .i64 0, .slice none 0 0] := by kernel_rfl
@[go_sem] theorem ty_po40 : partsOk Try.prog 40 = true := by kernel_rfl
@[go_sem] theorem ty_fi40_0 : fieldOf Try.prog 40 0 = some (0, 3) := by kernel_rfl
@[go_sem] theorem ty_pt40_0 : partT Try.prog 40 0 = some (0, 1) := by kernel_rfl
@[go_sem] theorem ty_fi40_1 : fieldOf Try.prog 40 1 = some (1, 38) := by kernel_rfl
@[go_sem] theorem ty_pt40_1 : partT Try.prog 40 1 = some (1, 1) := by kernel_rfl
attribute [go_sem] Try.underlying40 Try.stoodInHeld40 Try.eqGuardType40
@[go_sem] theorem ty_has41 : hasT Try.prog 41 = true := by kernel_rfl
@[go_sem] theorem ty_sz41 : szT Try.prog 41 = 1 := by kernel_rfl
@[go_sem] theorem ty_by41 : Try.prog.bytesOf 41 = 8 := by kernel_rfl
@[go_sem] theorem ty_agg41 : aggT Try.prog 41 = false := by kernel_rfl
@[go_sem] theorem ty_el41 : elemT Try.prog 41 = none := by kernel_rfl
@[go_sem] theorem ty_ar41 : arrT Try.prog 41 = none := by kernel_rfl
@[go_sem] theorem ty_ze41 : zeroT Try.prog 41 = some [.nilFunc] := by kernel_rfl
@[go_sem] theorem ty_has42 : hasT Try.prog 42 = true := by kernel_rfl
@[go_sem] theorem ty_sz42 : szT Try.prog 42 = 1 := by kernel_rfl
@[go_sem] theorem ty_by42 : Try.prog.bytesOf 42 = 8 := by kernel_rfl
@[go_sem] theorem ty_agg42 : aggT Try.prog 42 = false := by kernel_rfl
@[go_sem] theorem ty_el42 : elemT Try.prog 42 = none := by kernel_rfl
@[go_sem] theorem ty_ar42 : arrT Try.prog 42 = none := by kernel_rfl
@[go_sem] theorem ty_ze42 : zeroT Try.prog 42 = some [.nilFunc] := by kernel_rfl
@[go_sem] theorem ty_has43 : hasT Try.prog 43 = true := by kernel_rfl
@[go_sem] theorem ty_sz43 : szT Try.prog 43 = 1 := by kernel_rfl
@[go_sem] theorem ty_by43 : Try.prog.bytesOf 43 = 8 := by kernel_rfl
@[go_sem] theorem ty_agg43 : aggT Try.prog 43 = false := by kernel_rfl
@[go_sem] theorem ty_el43 : elemT Try.prog 43 = none := by kernel_rfl
@[go_sem] theorem ty_ar43 : arrT Try.prog 43 = none := by kernel_rfl
@[go_sem] theorem ty_ze43 : zeroT Try.prog 43 = some [.nilFunc] := by kernel_rfl
@[go_sem] theorem ty_has44 : hasT Try.prog 44 = true := by kernel_rfl
@[go_sem] theorem ty_sz44 : szT Try.prog 44 = 1 := by kernel_rfl
@[go_sem] theorem ty_by44 : Try.prog.bytesOf 44 = 8 := by kernel_rfl
@[go_sem] theorem ty_agg44 : aggT Try.prog 44 = false := by kernel_rfl
@[go_sem] theorem ty_el44 : elemT Try.prog 44 = none := by kernel_rfl
@[go_sem] theorem ty_ar44 : arrT Try.prog 44 = none := by kernel_rfl
@[go_sem] theorem ty_ze44 : zeroT Try.prog 44 = some [.nilFunc] := by kernel_rfl
@[go_sem] theorem ty_has45 : hasT Try.prog 45 = true := by kernel_rfl
@[go_sem] theorem ty_sz45 : szT Try.prog 45 = 1 := by kernel_rfl
@[go_sem] theorem ty_by45 : Try.prog.bytesOf 45 = 8 := by kernel_rfl
@[go_sem] theorem ty_agg45 : aggT Try.prog 45 = false := by kernel_rfl
@[go_sem] theorem ty_el45 : elemT Try.prog 45 = none := by kernel_rfl
@[go_sem] theorem ty_ar45 : arrT Try.prog 45 = none := by kernel_rfl
@[go_sem] theorem ty_ze45 : zeroT Try.prog 45 = some [.nilFunc] := by kernel_rfl
@[go_sem] theorem ty_has46 : hasT Try.prog 46 = true := by kernel_rfl
@[go_sem] theorem ty_sz46 : szT Try.prog 46 = 1 := by kernel_rfl
@[go_sem] theorem ty_by46 : Try.prog.bytesOf 46 = 24 := by kernel_rfl
@[go_sem] theorem ty_agg46 : aggT Try.prog 46 = false := by kernel_rfl
@[go_sem] theorem ty_el46 : elemT Try.prog 46 = some 184 := by kernel_rfl
@[go_sem] theorem ty_ar46 : arrT Try.prog 46 = none := by kernel_rfl
@[go_sem] theorem ty_ze46 : zeroT Try.prog 46 = some [.slice none 0 0] := by kernel_rfl
@[go_sem] theorem ty_has47 : hasT Try.prog 47 = true := by kernel_rfl
@[go_sem] theorem ty_sz47 : szT Try.prog 47 = 1 := by kernel_rfl
@[go_sem] theorem ty_by47 : Try.prog.bytesOf 47 = 24 := by kernel_rfl
@[go_sem] theorem ty_agg47 : aggT Try.prog 47 = false := by kernel_rfl
@[go_sem] theorem ty_el47 : elemT Try.prog 47 = some 191 := by kernel_rfl
@[go_sem] theorem ty_ar47 : arrT Try.prog 47 = none := by kernel_rfl
@[go_sem] theorem ty_ze47 : zeroT Try.prog 47 = some [.slice none 0 0] := by kernel_rfl
@[go_sem] theorem ty_has48 : hasT Try.prog 48 = true := by kernel_rfl
@[go_sem] theorem ty_sz48 : szT Try.prog 48 = 2 := by kernel_rfl
@[go_sem] theorem ty_by48 : Try.prog.bytesOf 48 = 48 := by kernel_rfl
@[go_sem] theorem ty_agg48 : aggT Try.prog 48 = true := by kernel_rfl
@[go_sem] theorem ty_el48 : elemT Try.prog 48 = none := by kernel_rfl
@[go_sem] theorem ty_ar48 : arrT Try.prog 48 = none := by kernel_rfl
@[go_sem] theorem ty_ze48 : zeroT Try.prog 48 = some [.slice none 0 0, .slice none 0 0] := by kernel_rfl
@[go_sem] theorem ty_po48 : partsOk Try.prog 48 = true := by kernel_rfl
@[go_sem] theorem ty_fi48_0 : fieldOf Try.prog 48 0 = some (0, 46) := by kernel_rfl
@[go_sem] theorem ty_pt48_0 : partT Try.prog 48 0 = some (0, 1) := by kernel_rfl
@[go_sem] theorem ty_fi48_1 : fieldOf Try.prog 48 1 = some (1, 47) := by kernel_rfl
@[go_sem] theorem ty_pt48_1 : partT Try.prog 48 1 = some (1, 1) := by kernel_rfl
attribute [go_sem] Try.underlying48 Try.stoodInHeld48 Try.eqGuardType48
@[go_sem] theorem ty_has49 : hasT Try.prog 49 = true := by kernel_rfl
@[go_sem] theorem ty_sz49 : szT Try.prog 49 = 2 := by kernel_rfl
@[go_sem] theorem ty_by49 : Try.prog.bytesOf 49 = 48 := by kernel_rfl
@[go_sem] theorem ty_agg49 : aggT Try.prog 49 = true := by kernel_rfl
@[go_sem] theorem ty_el49 : elemT Try.prog 49 = none := by kernel_rfl
@[go_sem] theorem ty_ar49 : arrT Try.prog 49 = none := by kernel_rfl
@[go_sem] theorem ty_ze49 : zeroT Try.prog 49 = some [.slice none 0 0, .slice none 0 0] := by kernel_rfl
@[go_sem] theorem ty_po49 : partsOk Try.prog 49 = true := by kernel_rfl
@[go_sem] theorem ty_fi49_0 : fieldOf Try.prog 49 0 = some (0, 46) := by kernel_rfl
@[go_sem] theorem ty_pt49_0 : partT Try.prog 49 0 = some (0, 1) := by kernel_rfl
@[go_sem] theorem ty_fi49_1 : fieldOf Try.prog 49 1 = some (1, 47) := by kernel_rfl
@[go_sem] theorem ty_pt49_1 : partT Try.prog 49 1 = some (1, 1) := by kernel_rfl
attribute [go_sem] Try.underlying49 Try.stoodInHeld49 Try.eqGuardType49
@[go_sem] theorem ty_has50 : hasT Try.prog 50 = true := by kernel_rfl
@[go_sem] theorem ty_sz50 : szT Try.prog 50 = 1 := by kernel_rfl
@[go_sem] theorem ty_by50 : Try.prog.bytesOf 50 = 24 := by kernel_rfl
@[go_sem] theorem ty_agg50 : aggT Try.prog 50 = false := by kernel_rfl
@[go_sem] theorem ty_el50 : elemT Try.prog 50 = some 140 := by kernel_rfl
@[go_sem] theorem ty_ar50 : arrT Try.prog 50 = none := by kernel_rfl
@[go_sem] theorem ty_ze50 : zeroT Try.prog 50 = some [.slice none 0 0] := by kernel_rfl
@[go_sem] theorem ty_has51 : hasT Try.prog 51 = true := by kernel_rfl
@[go_sem] theorem ty_sz51 : szT Try.prog 51 = 1 := by kernel_rfl
@[go_sem] theorem ty_by51 : Try.prog.bytesOf 51 = 24 := by kernel_rfl
@[go_sem] theorem ty_agg51 : aggT Try.prog 51 = false := by kernel_rfl
@[go_sem] theorem ty_el51 : elemT Try.prog 51 = some 152 := by kernel_rfl
@[go_sem] theorem ty_ar51 : arrT Try.prog 51 = none := by kernel_rfl
@[go_sem] theorem ty_ze51 : zeroT Try.prog 51 = some [.slice none 0 0] := by kernel_rfl
@[go_sem] theorem ty_has52 : hasT Try.prog 52 = true := by kernel_rfl
@[go_sem] theorem ty_sz52 : szT Try.prog 52 = 1 := by kernel_rfl
@[go_sem] theorem ty_by52 : Try.prog.bytesOf 52 = 8 := by kernel_rfl
@[go_sem] theorem ty_agg52 : aggT Try.prog 52 = false := by kernel_rfl
@[go_sem] theorem ty_el52 : elemT Try.prog 52 = none := by kernel_rfl
@[go_sem] theorem ty_ar52 : arrT Try.prog 52 = none := by kernel_rfl
@[go_sem] theorem ty_ze52 : zeroT Try.prog 52 = some [.nilFunc] := by kernel_rfl
@[go_sem] theorem ty_has53 : hasT Try.prog 53 = true := by kernel_rfl
@[go_sem] theorem ty_sz53 : szT Try.prog 53 = 1 := by kernel_rfl
@[go_sem] theorem ty_by53 : Try.prog.bytesOf 53 = 8 := by kernel_rfl
@[go_sem] theorem ty_agg53 : aggT Try.prog 53 = false := by kernel_rfl
@[go_sem] theorem ty_el53 : elemT Try.prog 53 = none := by kernel_rfl
@[go_sem] theorem ty_ar53 : arrT Try.prog 53 = none := by kernel_rfl
@[go_sem] theorem ty_ze53 : zeroT Try.prog 53 = some [.nilFunc] := by kernel_rfl
@[go_sem] theorem ty_has54 : hasT Try.prog 54 = true := by kernel_rfl
@[go_sem] theorem ty_sz54 : szT Try.prog 54 = 1 := by kernel_rfl
@[go_sem] theorem ty_by54 : Try.prog.bytesOf 54 = 8 := by kernel_rfl
@[go_sem] theorem ty_agg54 : aggT Try.prog 54 = false := by kernel_rfl
@[go_sem] theorem ty_el54 : elemT Try.prog 54 = none := by kernel_rfl
@[go_sem] theorem ty_ar54 : arrT Try.prog 54 = none := by kernel_rfl
@[go_sem] theorem ty_ze54 : zeroT Try.prog 54 = some [.nilFunc] := by kernel_rfl
@[go_sem] theorem ty_has55 : hasT Try.prog 55 = true := by kernel_rfl
@[go_sem] theorem ty_sz55 : szT Try.prog 55 = 4 := by kernel_rfl
@[go_sem] theorem ty_by55 : Try.prog.bytesOf 55 = 32 := by kernel_rfl
@[go_sem] theorem ty_agg55 : aggT Try.prog 55 = true := by kernel_rfl
@[go_sem] theorem ty_el55 : elemT Try.prog 55 = none := by kernel_rfl
@[go_sem] theorem ty_ar55 : arrT Try.prog 55 = none := by kernel_rfl
@[go_sem] theorem ty_ze55 : zeroT Try.prog 55 = some [.int .i64 0, .int .i64 0, .int .i64 0, .int .i64 0] := by kernel_rfl
@[go_sem] theorem ty_po55 : partsOk Try.prog 55 = true := by kernel_rfl
@[go_sem] theorem ty_fi55_0 : fieldOf Try.prog 55 0 = some (0, 3) := by kernel_rfl
@[go_sem] theorem ty_pt55_0 : partT Try.prog 55 0 = some (0, 1) := by kernel_rfl
@[go_sem] theorem ty_fi55_1 : fieldOf Try.prog 55 1 = some (1, 3) := by kernel_rfl
@[go_sem] theorem ty_pt55_1 : partT Try.prog 55 1 = some (1, 1) := by kernel_rfl
@[go_sem] theorem ty_fi55_2 : fieldOf Try.prog 55 2 = some (2, 3) := by kernel_rfl
@[go_sem] theorem ty_pt55_2 : partT Try.prog 55 2 = some (2, 1) := by kernel_rfl
@[go_sem] theorem ty_fi55_3 : fieldOf Try.prog 55 3 = some (3, 3) := by kernel_rfl
@[go_sem] theorem ty_pt55_3 : partT Try.prog 55 3 = some (3, 1) := by kernel_rfl
attribute [go_sem] Try.underlying55 Try.stoodInHeld55 Try.eqGuardType55
@[go_sem] theorem ty_has56 : hasT Try.prog 56 = true := by kernel_rfl
@[go_sem] theorem ty_sz56 : szT Try.prog 56 = 4 := by kernel_rfl
@[go_sem] theorem ty_by56 : Try.prog.bytesOf 56 = 32 := by kernel_rfl
@[go_sem] theorem ty_agg56 : aggT Try.prog 56 = true := by kernel_rfl
@[go_sem] theorem ty_el56 : elemT Try.prog 56 = none := by kernel_rfl
@[go_sem] theorem ty_ar56 : arrT Try.prog 56 = none := by kernel_rfl
@[go_sem] theorem ty_ze56 : zeroT Try.prog 56 = some [.int .i64 0, .int .i64 0, .int .i64 0, .int .i64 0] := by kernel_rfl
@[go_sem] theorem ty_po56 : partsOk Try.prog 56 = true := by kernel_rfl
@[go_sem] theorem ty_fi56_0 : fieldOf Try.prog 56 0 = some (0, 3) := by kernel_rfl
@[go_sem] theorem ty_pt56_0 : partT Try.prog 56 0 = some (0, 1) := by kernel_rfl
@[go_sem] theorem ty_fi56_1 : fieldOf Try.prog 56 1 = some (1, 3) := by kernel_rfl
@[go_sem] theorem ty_pt56_1 : partT Try.prog 56 1 = some (1, 1) := by kernel_rfl
@[go_sem] theorem ty_fi56_2 : fieldOf Try.prog 56 2 = some (2, 3) := by kernel_rfl
@[go_sem] theorem ty_pt56_2 : partT Try.prog 56 2 = some (2, 1) := by kernel_rfl
@[go_sem] theorem ty_fi56_3 : fieldOf Try.prog 56 3 = some (3, 3) := by kernel_rfl
@[go_sem] theorem ty_pt56_3 : partT Try.prog 56 3 = some (3, 1) := by kernel_rfl
attribute [go_sem] Try.underlying56 Try.stoodInHeld56 Try.eqGuardType56
@[go_sem] theorem ty_has58 : hasT Try.prog 58 = true := by kernel_rfl
@[go_sem] theorem ty_sz58 : szT Try.prog 58 = 1 := by kernel_rfl
@[go_sem] theorem ty_by58 : Try.prog.bytesOf 58 = 8 := by kernel_rfl
@[go_sem] theorem ty_agg58 : aggT Try.prog 58 = false := by kernel_rfl
@[go_sem] theorem ty_el58 : elemT Try.prog 58 = none := by kernel_rfl
@[go_sem] theorem ty_ar58 : arrT Try.prog 58 = none := by kernel_rfl
@[go_sem] theorem ty_ze58 : zeroT Try.prog 58 = some [.nilFunc] := by kernel_rfl
@[go_sem] theorem ty_has59 : hasT Try.prog 59 = true := by kernel_rfl
@[go_sem] theorem ty_sz59 : szT Try.prog 59 = 1 := by kernel_rfl
@[go_sem] theorem ty_by59 : Try.prog.bytesOf 59 = 24 := by kernel_rfl
@[go_sem] theorem ty_agg59 : aggT Try.prog 59 = false := by kernel_rfl
@[go_sem] theorem ty_el59 : elemT Try.prog 59 = some 188 := by kernel_rfl
@[go_sem] theorem ty_ar59 : arrT Try.prog 59 = none := by kernel_rfl
@[go_sem] theorem ty_ze59 : zeroT Try.prog 59 = some [.slice none 0 0] := by kernel_rfl
@[go_sem] theorem ty_has60 : hasT Try.prog 60 = true := by kernel_rfl
@[go_sem] theorem ty_sz60 : szT Try.prog 60 = 1 := by kernel_rfl
@[go_sem] theorem ty_by60 : Try.prog.bytesOf 60 = 24 := by kernel_rfl
@[go_sem] theorem ty_agg60 : aggT Try.prog 60 = false := by kernel_rfl
@[go_sem] theorem ty_el60 : elemT Try.prog 60 = some 187 := by kernel_rfl
@[go_sem] theorem ty_ar60 : arrT Try.prog 60 = none := by kernel_rfl
@[go_sem] theorem ty_ze60 : zeroT Try.prog 60 = some [.slice none 0 0] := by kernel_rfl
@[go_sem] theorem ty_has61 : hasT Try.prog 61 = true := by kernel_rfl
@[go_sem] theorem ty_sz61 : szT Try.prog 61 = 2 := by kernel_rfl
@[go_sem] theorem ty_by61 : Try.prog.bytesOf 61 = 48 := by kernel_rfl
@[go_sem] theorem ty_agg61 : aggT Try.prog 61 = true := by kernel_rfl
@[go_sem] theorem ty_el61 : elemT Try.prog 61 = none := by kernel_rfl
@[go_sem] theorem ty_ar61 : arrT Try.prog 61 = none := by kernel_rfl
@[go_sem] theorem ty_ze61 : zeroT Try.prog 61 = some [.slice none 0 0, .slice none 0 0] := by kernel_rfl
@[go_sem] theorem ty_po61 : partsOk Try.prog 61 = true := by kernel_rfl
@[go_sem] theorem ty_fi61_0 : fieldOf Try.prog 61 0 = some (0, 59) := by kernel_rfl
@[go_sem] theorem ty_pt61_0 : partT Try.prog 61 0 = some (0, 1) := by kernel_rfl
@[go_sem] theorem ty_fi61_1 : fieldOf Try.prog 61 1 = some (1, 60) := by kernel_rfl
@[go_sem] theorem ty_pt61_1 : partT Try.prog 61 1 = some (1, 1) := by kernel_rfl
attribute [go_sem] Try.underlying61 Try.stoodInHeld61 Try.eqGuardType61
@[go_sem] theorem ty_has62 : hasT Try.prog 62 = true := by kernel_rfl
@[go_sem] theorem ty_sz62 : szT Try.prog 62 = 2 := by kernel_rfl
@[go_sem] theorem ty_by62 : Try.prog.bytesOf 62 = 48 := by kernel_rfl
@[go_sem] theorem ty_agg62 : aggT Try.prog 62 = true := by kernel_rfl
@[go_sem] theorem ty_el62 : elemT Try.prog 62 = none := by kernel_rfl
@[go_sem] theorem ty_ar62 : arrT Try.prog 62 = none := by kernel_rfl
@[go_sem] theorem ty_ze62 : zeroT Try.prog 62 = some [.slice none 0 0, .slice none 0 0] := by kernel_rfl
@[go_sem] theorem ty_po62 : partsOk Try.prog 62 = true := by kernel_rfl
@[go_sem] theorem ty_fi62_0 : fieldOf Try.prog 62 0 = some (0, 59) := by kernel_rfl
@[go_sem] theorem ty_pt62_0 : partT Try.prog 62 0 = some (0, 1) := by kernel_rfl
@[go_sem] theorem ty_fi62_1 : fieldOf Try.prog 62 1 = some (1, 60) := by kernel_rfl
@[go_sem] theorem ty_pt62_1 : partT Try.prog 62 1 = some (1, 1) := by kernel_rfl
attribute [go_sem] Try.underlying62 Try.stoodInHeld62 Try.eqGuardType62
@[go_sem] theorem ty_has63 : hasT Try.prog 63 = true := by kernel_rfl
@[go_sem] theorem ty_sz63 : szT Try.prog 63 = 1 := by kernel_rfl
@[go_sem] theorem ty_by63 : Try.prog.bytesOf 63 = 8 := by kernel_rfl
@[go_sem] theorem ty_agg63 : aggT Try.prog 63 = false := by kernel_rfl
@[go_sem] theorem ty_el63 : elemT Try.prog 63 = none := by kernel_rfl
@[go_sem] theorem ty_ar63 : arrT Try.prog 63 = none := by kernel_rfl
@[go_sem] theorem ty_ze63 : zeroT Try.prog 63 = some [.nilFunc] := by kernel_rfl
@[go_sem] theorem ty_has64 : hasT Try.prog 64 = true := by kernel_rfl
@[go_sem] theorem ty_sz64 : szT Try.prog 64 = 1 := by kernel_rfl
@[go_sem] theorem ty_by64 : Try.prog.bytesOf 64 = 24 := by kernel_rfl
@[go_sem] theorem ty_agg64 : aggT Try.prog 64 = false := by kernel_rfl
@[go_sem] theorem ty_el64 : elemT Try.prog 64 = some 149 := by kernel_rfl
@[go_sem] theorem ty_ar64 : arrT Try.prog 64 = none := by kernel_rfl
@[go_sem] theorem ty_ze64 : zeroT Try.prog 64 = some [.slice none 0 0] := by kernel_rfl
@[go_sem] theorem ty_has65 : hasT Try.prog 65 = true := by kernel_rfl
@[go_sem] theorem ty_sz65 : szT Try.prog 65 = 1 := by kernel_rfl
@[go_sem] theorem ty_by65 : Try.prog.bytesOf 65 = 8 := by kernel_rfl
@[go_sem] theorem ty_agg65 : aggT Try.prog 65 = false := by kernel_rfl
@[go_sem] theorem ty_el65 : elemT Try.prog 65 = none := by kernel_rfl
@[go_sem] theorem ty_ar65 : arrT Try.prog 65 = none := by kernel_rfl
@[go_sem] theorem ty_ze65 : zeroT Try.prog 65 = some [.nilFunc] := by kernel_rfl
@[go_sem] theorem ty_has66 : hasT Try.prog 66 = true := by kernel_rfl
@[go_sem] theorem ty_sz66 : szT Try.prog 66 = 1 := by kernel_rfl
@[go_sem] theorem ty_by66 : Try.prog.bytesOf 66 = 24 := by kernel_rfl
@[go_sem] theorem ty_agg66 : aggT Try.prog 66 = false := by kernel_rfl
@[go_sem] theorem ty_el66 : elemT Try.prog 66 = some 143 := by kernel_rfl
@[go_sem] theorem ty_ar66 : arrT Try.prog 66 = none := by kernel_rfl
@[go_sem] theorem ty_ze66 : zeroT Try.prog 66 = some [.slice none 0 0] := by kernel_rfl
@[go_sem] theorem ty_has67 : hasT Try.prog 67 = true := by kernel_rfl
@[go_sem] theorem ty_sz67 : szT Try.prog 67 = 1 := by kernel_rfl
@[go_sem] theorem ty_by67 : Try.prog.bytesOf 67 = 8 := by kernel_rfl
@[go_sem] theorem ty_agg67 : aggT Try.prog 67 = false := by kernel_rfl
@[go_sem] theorem ty_el67 : elemT Try.prog 67 = none := by kernel_rfl
@[go_sem] theorem ty_ar67 : arrT Try.prog 67 = none := by kernel_rfl
@[go_sem] theorem ty_ze67 : zeroT Try.prog 67 = some [.nilFunc] := by kernel_rfl
@[go_sem] theorem ty_has68 : hasT Try.prog 68 = true := by kernel_rfl
@[go_sem] theorem ty_sz68 : szT Try.prog 68 = 1 := by kernel_rfl
@[go_sem] theorem ty_by68 : Try.prog.bytesOf 68 = 8 := by kernel_rfl
@[go_sem] theorem ty_agg68 : aggT Try.prog 68 = false := by kernel_rfl
@[go_sem] theorem ty_el68 : elemT Try.prog 68 = none := by kernel_rfl
@[go_sem] theorem ty_ar68 : arrT Try.prog 68 = none := by kernel_rfl
@[go_sem] theorem ty_ze68 : zeroT Try.prog 68 = some [.nilFunc] := by kernel_rfl
@[go_sem] theorem ty_has69 : hasT Try.prog 69 = true := by kernel_rfl
@[go_sem] theorem ty_sz69 : szT Try.prog 69 = 1 := by kernel_rfl
@[go_sem] theorem ty_by69 : Try.prog.bytesOf 69 = 8 := by kernel_rfl
@[go_sem] theorem ty_agg69 : aggT Try.prog 69 = false := by kernel_rfl
@[go_sem] theorem ty_el69 : elemT Try.prog 69 = none := by kernel_rfl
@[go_sem] theorem ty_ar69 : arrT Try.prog 69 = none := by kernel_rfl
@[go_sem] theorem ty_ze69 : zeroT Try.prog 69 = some [.nilFunc] := by kernel_rfl
@[go_sem] theorem ty_has70 : hasT Try.prog 70 = true := by kernel_rfl
@[go_sem] theorem ty_sz70 : szT Try.prog 70 = 1 := by kernel_rfl
@[go_sem] theorem ty_by70 : Try.prog.bytesOf 70 = 8 := by kernel_rfl
@[go_sem] theorem ty_agg70 : aggT Try.prog 70 = false := by kernel_rfl
@[go_sem] theorem ty_el70 : elemT Try.prog 70 = none := by kernel_rfl
@[go_sem] theorem ty_ar70 : arrT Try.prog 70 = none := by kernel_rfl
@[go_sem] theorem ty_ze70 : zeroT Try.prog 70 = some [.nilFunc] := by kernel_rfl
@[go_sem] theorem ty_has71 : hasT Try.prog 71 = true := by kernel_rfl
@[go_sem] theorem ty_sz71 : szT Try.prog 71 = 1 := by kernel_rfl
@[go_sem] theorem ty_by71 : Try.prog.bytesOf 71 = 8 := by kernel_rfl
@[go_sem] theorem ty_agg71 : aggT Try.prog 71 = false := by kernel_rfl
@[go_sem] theorem ty_el71 : elemT Try.prog 71 = none := by kernel_rfl
@[go_sem] theorem ty_ar71 : arrT Try.prog 71 = none := by kernel_rfl
@[go_sem] theorem ty_ze71 : zeroT Try.prog 71 = some [.nilFunc] := by kernel_rfl
@[go_sem] theorem ty_has72 : hasT Try.prog 72 = true := by kernel_rfl
@[go_sem] theorem ty_sz72 : szT Try.prog 72 = 1 := by kernel_rfl
@[go_sem] theorem ty_by72 : Try.prog.bytesOf 72 = 8 := by kernel_rfl
@[go_sem] theorem ty_agg72 : aggT Try.prog 72 = false := by kernel_rfl
@[go_sem] theorem ty_el72 : elemT Try.prog 72 = none := by kernel_rfl
@[go_sem] theorem ty_ar72 : arrT Try.prog 72 = none := by kernel_rfl
@[go_sem] theorem ty_ze72 : zeroT Try.prog 72 = some [.nilFunc] := by kernel_rfl
@[go_sem] theorem ty_has73 : hasT Try.prog 73 = true := by kernel_rfl
@[go_sem] theorem ty_sz73 : szT Try.prog 73 = 1 := by kernel_rfl
@[go_sem] theorem ty_by73 : Try.prog.bytesOf 73 = 24 := by kernel_rfl
@[go_sem] theorem ty_agg73 : aggT Try.prog 73 = false := by kernel_rfl
@[go_sem] theorem ty_el73 : elemT Try.prog 73 = some 56 := by kernel_rfl
@[go_sem] theorem ty_ar73 : arrT Try.prog 73 = none := by kernel_rfl
@[go_sem] theorem ty_ze73 : zeroT Try.prog 73 = some [.slice none 0 0] := by kernel_rfl
@[go_sem] theorem ty_has74 : hasT Try.prog 74 = true := by kernel_rfl
@[go_sem] theorem ty_sz74 : szT Try.prog 74 = 1 := by kernel_rfl
@[go_sem] theorem ty_by74 : Try.prog.bytesOf 74 = 8 := by kernel_rfl
@[go_sem] theorem ty_agg74 : aggT Try.prog 74 = false := by kernel_rfl
@[go_sem] theorem ty_el74 : elemT Try.prog 74 = none := by kernel_rfl
@[go_sem] theorem ty_ar74 : arrT Try.prog 74 = none := by kernel_rfl
@[go_sem] theorem ty_ze74 : zeroT Try.prog 74 = some [.nilFunc] := by kernel_rfl
@[go_sem] theorem ty_has75 : hasT Try.prog 75 = true := by kernel_rfl
@[go_sem] theorem ty_sz75 : szT Try.prog 75 = 1 := by kernel_rfl
@[go_sem] theorem ty_by75 : Try.prog.bytesOf 75 = 8 := by kernel_rfl
@[go_sem] theorem ty_agg75 : aggT Try.prog 75 = false := by kernel_rfl
@[go_sem] theorem ty_el75 : elemT Try.prog 75 = none := by kernel_rfl
@[go_sem] theorem ty_ar75 : arrT Try.prog 75 = none := by kernel_rfl
@[go_sem] theorem ty_ze75 : zeroT Try.prog 75 = some [.nilFunc] := by kernel_rfl
@[go_sem] theorem ty_has76 : hasT Try.prog 76 = true := by kernel_rfl
@[go_sem] theorem ty_sz76 : szT Try.prog 76 = 1 := by kernel_rfl
@[go_sem] theorem ty_by76 : Try.prog.bytesOf 76 = 8 := by kernel_rfl
@[go_sem] theorem ty_agg76 : aggT Try.prog 76 = false := by kernel_rfl
@[go_sem] theorem ty_el76 : elemT Try.prog 76 = none := by kernel_rfl
@[go_sem] theorem ty_ar76 : arrT Try.prog 76 = none := by kernel_rfl
@[go_sem] theorem ty_ze76 : zeroT Try.prog 76 = some [.nilFunc] := by kernel_rfl
@[go_sem] theorem ty_has77 : hasT Try.prog 77 = true := by kernel_rfl
@[go_sem] theorem ty_sz77 : szT Try.prog 77 = 1 := by kernel_rfl
@[go_sem] theorem ty_by77 : Try.prog.bytesOf 77 = 8 := by kernel_rfl
@[go_sem] theorem ty_agg77 : aggT Try.prog 77 = false := by kernel_rfl
@[go_sem] theorem ty_el77 : elemT Try.prog 77 = none := by kernel_rfl
@[go_sem] theorem ty_ar77 : arrT Try.prog 77 = none := by kernel_rfl
@[go_sem] theorem ty_ze77 : zeroT Try.prog 77 = some [.nilFunc] := by kernel_rfl
@[go_sem] theorem ty_has78 : hasT Try.prog 78 = true := by kernel_rfl
@[go_sem] theorem ty_sz78 : szT Try.prog 78 = 1 := by kernel_rfl
@[go_sem] theorem ty_by78 : Try.prog.bytesOf 78 = 8 := by kernel_rfl
@[go_sem] theorem ty_agg78 : aggT Try.prog 78 = false := by kernel_rfl
@[go_sem] theorem ty_el78 : elemT Try.prog 78 = none := by kernel_rfl
@[go_sem] theorem ty_ar78 : arrT Try.prog 78 = none := by kernel_rfl
@[go_sem] theorem ty_ze78 : zeroT Try.prog 78 = some [.nilFunc] := by kernel_rfl
@[go_sem] theorem ty_has79 : hasT Try.prog 79 = true := by kernel_rfl
@[go_sem] theorem ty_sz79 : szT Try.prog 79 = 1 := by kernel_rfl
@[go_sem] theorem ty_by79 : Try.prog.bytesOf 79 = 8 := by kernel_rfl
@[go_sem] theorem ty_agg79 : aggT Try.prog 79 = false := by kernel_rfl
@[go_sem] theorem ty_el79 : elemT Try.prog 79 = none := by kernel_rfl
@[go_sem] theorem ty_ar79 : arrT Try.prog 79 = none := by kernel_rfl
@[go_sem] theorem ty_ze79 : zeroT Try.prog 79 = some [.nilFunc] := by kernel_rfl
@[go_sem] theorem ty_has80 : hasT Try.prog 80 = true := by kernel_rfl
@[go_sem] theorem ty_sz80 : szT Try.prog 80 = 1 := by kernel_rfl
@[go_sem] theorem ty_by80 : Try.prog.bytesOf 80 = 24 := by kernel_rfl
@[go_sem] theorem ty_agg80 : aggT Try.prog 80 = false := by kernel_rfl
@[go_sem] theorem ty_el80 : elemT Try.prog 80 = some 228 := by kernel_rfl
@[go_sem] theorem ty_ar80 : arrT Try.prog 80 = none := by kernel_rfl
@[go_sem] theorem ty_ze80 : zeroT Try.prog 80 = some [.slice none 0 0] := by kernel_rfl
@[go_sem] theorem ty_has81 : hasT Try.prog 81 = true := by kernel_rfl
@[go_sem] theorem ty_sz81 : szT Try.prog 81 = 2 := by kernel_rfl
@[go_sem] theorem ty_by81 : Try.prog.bytesOf 81 = 32 := by kernel_rfl
@[go_sem] theorem ty_agg81 : aggT Try.prog 81 = true := by kernel_rfl
@[go_sem] theorem ty_el81 : elemT Try.prog 81 = none := by kernel_rfl
@[go_sem] theorem ty_ar81 : arrT Try.prog 81 = none := by kernel_rfl
@[go_sem] theorem ty_ze81 : zeroT Try.prog 81 = some [.int .i64 0, .slice none 0 0] := by kernel_rfl
@[go_sem] theorem ty_po81 : partsOk Try.prog 81 = true := by kernel_rfl
@[go_sem] theorem ty_fi81_0 : fieldOf Try.prog 81 0 = some (0, 3) := by kernel_rfl
@[go_sem] theorem ty_pt81_0 : partT Try.prog 81 0 = some (0, 1) := by kernel_rfl
@[go_sem] theorem ty_fi81_1 : fieldOf Try.prog 81 1 = some (1, 80) := by kernel_rfl
@[go_sem] theorem ty_pt81_1 : partT Try.prog 81 1 = some (1, 1) := by kernel_rfl
attribute [go_sem] Try.underlying81 Try.stoodInHeld81 Try.eqGuardType81
@[go_sem] theorem ty_has82 : hasT Try.prog 82 = true := by kernel_rfl
@[go_sem] theorem ty_sz82 : szT Try.prog 82 = 2 := by kernel_rfl
@[go_sem] theorem ty_by82 : Try.prog.bytesOf 82 = 32 := by kernel_rfl
@[go_sem] theorem ty_agg82 : aggT Try.prog 82 = true := by kernel_rfl
@[go_sem] theorem ty_el82 : elemT Try.prog 82 = none := by kernel_rfl
@[go_sem] theorem ty_ar82 : arrT Try.prog 82 = none := by kernel_rfl
@[go_sem] theorem ty_ze82 : zeroT Try.prog 82 = some [.int .i64 0, .slice none 0 0] := by kernel_rfl
@[go_sem] theorem ty_po82 : partsOk Try.prog 82 = true := by kernel_rfl
@[go_sem] theorem ty_fi82_0 : fieldOf Try.prog 82 0 = some (0, 3) := by kernel_rfl
@[go_sem] theorem ty_pt82_0 : partT Try.prog 82 0 = some (0, 1) := by kernel_rfl
@[go_sem] theorem ty_fi82_1 : fieldOf Try.prog 82 1 = some (1, 80) := by kernel_rfl
@[go_sem] theorem ty_pt82_1 : partT Try.prog 82 1 = some (1, 1) := by kernel_rfl
attribute [go_sem] Try.underlying82 Try.stoodInHeld82 Try.eqGuardType82
@[go_sem] theorem ty_has83 : hasT Try.prog 83 = true := by kernel_rfl
@[go_sem] theorem ty_sz83 : szT Try.prog 83 = 1 := by kernel_rfl
@[go_sem] theorem ty_by83 : Try.prog.bytesOf 83 = 24 := by kernel_rfl
@[go_sem] theorem ty_agg83 : aggT Try.prog 83 = false := by kernel_rfl
@[go_sem] theorem ty_el83 : elemT Try.prog 83 = some 224 := by kernel_rfl
@[go_sem] theorem ty_ar83 : arrT Try.prog 83 = none := by kernel_rfl
@[go_sem] theorem ty_ze83 : zeroT Try.prog 83 = some [.slice none 0 0] := by kernel_rfl
@[go_sem] theorem ty_has84 : hasT Try.prog 84 = true := by kernel_rfl
@[go_sem] theorem ty_sz84 : szT Try.prog 84 = 3 := by kernel_rfl
@[go_sem] theorem ty_by84 : Try.prog.bytesOf 84 = 56 := by kernel_rfl
@[go_sem] theorem ty_agg84 : aggT Try.prog 84 = true := by kernel_rfl
@[go_sem] theorem ty_el84 : elemT Try.prog 84 = none := by kernel_rfl
@[go_sem] theorem ty_ar84 : arrT Try.prog 84 = none := by kernel_rfl
@[go_sem] theorem ty_ze84 : zeroT Try.prog 84 = some [.int .i64 0, .slice none 0 0, .slice none 0 0] := by kernel_rfl
@[go_sem] theorem ty_po84 : partsOk Try.prog 84 = true := by kernel_rfl
@[go_sem] theorem ty_fi84_0 : fieldOf Try.prog 84 0 = some (0, 82) := by kernel_rfl
@[go_sem] theorem ty_pt84_0 : partT Try.prog 84 0 = some (0, 2) := by kernel_rfl
@[go_sem] theorem ty_fi84_1 : fieldOf Try.prog 84 1 = some (2, 83) := by kernel_rfl
@[go_sem] theorem ty_pt84_1 : partT Try.prog 84 1 = some (2, 1) := by kernel_rfl
attribute [go_sem] Try.underlying84 Try.stoodInHeld84 Try.eqGuardType84
@[go_sem] theorem ty_has85 : hasT Try.prog 85 = true := by kernel_rfl
@[go_sem] theorem ty_sz85 : szT Try.prog 85 = 3 := by kernel_rfl
@[go_sem] theorem ty_by85 : Try.prog.bytesOf 85 = 56 := by kernel_rfl
@[go_sem] theorem ty_agg85 : aggT Try.prog 85 = true := by kernel_rfl
@[go_sem] theorem ty_el85 : elemT Try.prog 85 = none := by kernel_rfl
@[go_sem] theorem ty_ar85 : arrT Try.prog 85 = none := by kernel_rfl
@[go_sem] theorem ty_ze85 : zeroT Try.prog 85 = some [.int .i64 0, .slice none 0 0, .slice none 0 0] := by kernel_rfl
@[go_sem] theorem ty_po85 : partsOk Try.prog 85 = true := by kernel_rfl
@[go_sem] theorem ty_fi85_0 : fieldOf Try.prog 85 0 = some (0, 82) := by kernel_rfl
@[go_sem] theorem ty_pt85_0 : partT Try.prog 85 0 = some (0, 2) := by kernel_rfl
@[go_sem] theorem ty_fi85_1 : fieldOf Try.prog 85 1 = some (2, 83) := by kernel_rfl
@[go_sem] theorem ty_pt85_1 : partT Try.prog 85 1 = some (2, 1) := by kernel_rfl
attribute [go_sem] Try.underlying85 Try.stoodInHeld85 Try.eqGuardType85
@[go_sem] theorem ty_has86 : hasT Try.prog 86 = true := by kernel_rfl
@[go_sem] theorem ty_sz86 : szT Try.prog 86 = 2 := by kernel_rfl
@[go_sem] theorem ty_by86 : Try.prog.bytesOf 86 = 16 := by kernel_rfl
@[go_sem] theorem ty_agg86 : aggT Try.prog 86 = true := by kernel_rfl
@[go_sem] theorem ty_el86 : elemT Try.prog 86 = none := by kernel_rfl
@[go_sem] theorem ty_ar86 : arrT Try.prog 86 = none := by kernel_rfl
@[go_sem] theorem ty_ze86 : zeroT Try.prog 86 = some [.int .i64 0, .bool false] := by kernel_rfl
@[go_sem] theorem ty_po86 : partsOk Try.prog 86 = true := by kernel_rfl
@[go_sem] theorem ty_fi86_0 : fieldOf Try.prog 86 0 = some (0, 3) := by kernel_rfl
@[go_sem] theorem ty_pt86_0 : partT Try.prog 86 0 = some (0, 1) := by kernel_rfl
@[go_sem] theorem ty_fi86_1 : fieldOf Try.prog 86 1 = some (1, 4) := by kernel_rfl
@[go_sem] theorem ty_pt86_1 : partT Try.prog 86 1 = some (1, 1) := by kernel_rfl
attribute [go_sem] Try.underlying86 Try.stoodInHeld86 Try.eqGuardType86
@[go_sem] theorem ty_has87 : hasT Try.prog 87 = true := by kernel_rfl
@[go_sem] theorem ty_sz87 : szT Try.prog 87 = 2 := by kernel_rfl
@[go_sem] theorem ty_by87 : Try.prog.bytesOf 87 = 16 := by kernel_rfl
@[go_sem] theorem ty_agg87 : aggT Try.prog 87 = true := by kernel_rfl
@[go_sem] theorem ty_el87 : elemT Try.prog 87 = none := by kernel_rfl
@[go_sem] theorem ty_ar87 : arrT Try.prog 87 = none := by kernel_rfl
@[go_sem] theorem ty_ze87 : zeroT Try.prog 87 = some [.int .i64 0, .bool false] := by kernel_rfl
@[go_sem] theorem ty_po87 : partsOk Try.prog 87 = true := by kernel_rfl
@[go_sem] theorem ty_fi87_0 : fieldOf Try.prog 87 0 = some (0, 3) := by kernel_rfl
@[go_sem] theorem ty_pt87_0 : partT Try.prog 87 0 = some (0, 1) := by kernel_rfl
@[go_sem] theorem ty_fi87_1 : fieldOf Try.prog 87 1 = some (1, 4) := by kernel_rfl
@[go_sem] theorem ty_pt87_1 : partT Try.prog 87 1 = some (1, 1) := by kernel_rfl
attribute [go_sem] Try.underlying87 Try.stoodInHeld87 Try.eqGuardType87
@[go_sem] theorem ty_has88 : hasT Try.prog 88 = true := by kernel_rfl
@[go_sem] theorem ty_sz88 : szT Try.prog 88 = 4 := by kernel_rfl
@[go_sem] theorem ty_by88 : Try.prog.bytesOf 88 = 48 := by kernel_rfl
@[go_sem] theorem ty_agg88 : aggT Try.prog 88 = true := by kernel_rfl
@[go_sem] theorem ty_el88 : elemT Try.prog 88 = none := by kernel_rfl
@[go_sem] theorem ty_ar88 : arrT Try.prog 88 = none := by kernel_rfl
@[go_sem] theorem ty_ze88 : zeroT Try.prog 88 = some [.int .i64 0, .int .i64 0, .int .i64 0, .slice none 0 0] := by kernel_rfl
@[go_sem] theorem ty_po88 : partsOk Try.prog 88 = true := by kernel_rfl
@[go_sem] theorem ty_fi88_0 : fieldOf Try.prog 88 0 = some (0, 3) := by kernel_rfl
@[go_sem] theorem ty_pt88_0 : partT Try.prog 88 0 = some (0, 1) := by kernel_rfl
@[go_sem] theorem ty_fi88_1 : fieldOf Try.prog 88 1 = some (1, 3) := by kernel_rfl
@[go_sem] theorem ty_pt88_1 : partT Try.prog 88 1 = some (1, 1) := by kernel_rfl
@[go_sem] theorem ty_fi88_2 : fieldOf Try.prog 88 2 = some (2, 3) := by kernel_rfl
@[go_sem] theorem ty_pt88_2 : partT Try.prog 88 2 = some (2, 1) := by kernel_rfl
@[go_sem] theorem ty_fi88_3 : fieldOf Try.prog 88 3 = some (3, 24) := by kernel_rfl
@[go_sem] theorem ty_pt88_3 : partT Try.prog 88 3 = some (3, 1) := by kernel_rfl
attribute [go_sem] Try.underlying88 Try.stoodInHeld88 Try.eqGuardType88
@[go_sem] theorem ty_has89 : hasT Try.prog 89 = true := by kernel_rfl
@[go_sem] theorem ty_sz89 : szT Try.prog 89 = 4 := by kernel_rfl
@[go_sem] theorem ty_by89 : Try.prog.bytesOf 89 = 48 := by kernel_rfl
@[go_sem] theorem ty_agg89 : aggT Try.prog 89 = true := by kernel_rfl
@[go_sem] theorem ty_el89 : elemT Try.prog 89 = none := by kernel_rfl
@[go_sem] theorem ty_ar89 : arrT Try.prog 89 = none := by kernel_rfl
@[go_sem] theorem ty_ze89 : zeroT Try.prog 89 = some [.int .i64 0, .int .i64 0, .int .i64 0, .slice none 0 0] := by kernel_rfl
@[go_sem] theorem ty_po89 : partsOk Try.prog 89 = true := by kernel_rfl
@[go_sem] theorem ty_fi89_0 : fieldOf Try.prog 89 0 = some (0, 3) := by kernel_rfl
@[go_sem] theorem ty_pt89_0 : partT Try.prog 89 0 = some (0, 1) := by kernel_rfl
@[go_sem] theorem ty_fi89_1 : fieldOf Try.prog 89 1 = some (1, 3) := by kernel_rfl
@[go_sem] theorem ty_pt89_1 : partT Try.prog 89 1 = some (1, 1) := by kernel_rfl
@[go_sem] theorem ty_fi89_2 : fieldOf Try.prog 89 2 = some (2, 3) := by kernel_rfl
@[go_sem] theorem ty_pt89_2 : partT Try.prog 89 2 = some (2, 1) := by kernel_rfl
@[go_sem] theorem ty_fi89_3 : fieldOf Try.prog 89 3 = some (3, 24) := by kernel_rfl
@[go_sem] theorem ty_pt89_3 : partT Try.prog 89 3 = some (3, 1) := by kernel_rfl
attribute [go_sem] Try.underlying89 Try.stoodInHeld89 Try.eqGuardType89
@[go_sem] theorem ty_has90 : hasT Try.prog 90 = true := by kernel_rfl
@[go_sem] theorem ty_sz90 : szT Try.prog 90 = 12 := by kernel_rfl
@[go_sem] theorem ty_by90 : Try.prog.bytesOf 90 = 192 := by kernel_rfl
@[go_sem] theorem ty_agg90 : aggT Try.prog 90 = true := by kernel_rfl
@[go_sem] theorem ty_el90 : elemT Try.prog 90 = none := by kernel_rfl
@[go_sem] theorem ty_ar90 : arrT Try.prog 90 = none := by kernel_rfl
@[go_sem] theorem ty_ze90 : zeroT Try.prog 90 = some [.int .i64 0, .slice none 0 0, .slice none 0 0, .slice none 0 0, .slice none 0 0, .slice none 0 0, .int .i64 0, .bool false, .int .i64 0, .int .i64 0, .int .i64 0, .slice none 0 0] := by kernel_rfl
@[go_sem] theorem ty_po90 : partsOk Try.prog 90 = true := by kernel_rfl
@[go_sem] theorem ty_fi90_0 : fieldOf Try.prog 90 0 = some (0, 85) := by kernel_rfl
@[go_sem] theorem ty_pt90_0 : partT Try.prog 90 0 = some (0, 3) := by kernel_rfl
@[go_sem] theorem ty_fi90_1 : fieldOf Try.prog 90 1 = some (3, 49) := by kernel_rfl
@[go_sem] theorem ty_pt90_1 : partT Try.prog 90 1 = some (3, 2) := by kernel_rfl
@[go_sem] theorem ty_fi90_2 : fieldOf Try.prog 90 2 = some (5, 50) := by kernel_rfl
@[go_sem] theorem ty_pt90_2 : partT Try.prog 90 2 = some (5, 1) := by kernel_rfl
@[go_sem] theorem ty_fi90_3 : fieldOf Try.prog 90 3 = some (6, 87) := by kernel_rfl
@[go_sem] theorem ty_pt90_3 : partT Try.prog 90 3 = some (6, 2) := by kernel_rfl
@[go_sem] theorem ty_fi90_4 : fieldOf Try.prog 90 4 = some (8, 89) := by kernel_rfl
@[go_sem] theorem ty_pt90_4 : partT Try.prog 90 4 = some (8, 4) := by kernel_rfl
attribute [go_sem] Try.underlying90 Try.stoodInHeld90 Try.eqGuardType90
@[go_sem] theorem ty_has91 : hasT Try.prog 91 = true := by kernel_rfl
@[go_sem] theorem ty_sz91 : szT Try.prog 91 = 12 := by kernel_rfl
@[go_sem] theorem ty_by91 : Try.prog.bytesOf 91 = 192 := by kernel_rfl
@[go_sem] theorem ty_agg91 : aggT Try.prog 91 = true := by kernel_rfl
@[go_sem] theorem ty_el91 : elemT Try.prog 91 = none := by kernel_rfl
@[go_sem] theorem ty_ar91 : arrT Try.prog 91 = none := by kernel_rfl
@[go_sem] theorem ty_ze91 : zeroT Try.prog 91 = some [.int .i64 0, .slice none 0 0, .slice none 0 0, .slice none 0 0, .slice none 0 0, .slice none 0 0, .int .i64 0, .bool false, .int .i64 0, .int .i64 0, .int .i64 0, .slice none 0 0] := by kernel_rfl
@[go_sem] theorem ty_po91 : partsOk Try.prog 91 = true := by kernel_rfl
@[go_sem] theorem ty_fi91_0 : fieldOf Try.prog 91 0 = some (0, 85) := by kernel_rfl
@[go_sem] theorem ty_pt91_0 : partT Try.prog 91 0 = some (0, 3) := by kernel_rfl
@[go_sem] theorem ty_fi91_1 : fieldOf Try.prog 91 1 = some (3, 49) := by kernel_rfl
@[go_sem] theorem ty_pt91_1 : partT Try.prog 91 1 = some (3, 2) := by kernel_rfl
@[go_sem] theorem ty_fi91_2 : fieldOf Try.prog 91 2 = some (5, 50) := by kernel_rfl
@[go_sem] theorem ty_pt91_2 : partT Try.prog 91 2 = some (5, 1) := by kernel_rfl
@[go_sem] theorem ty_fi91_3 : fieldOf Try.prog 91 3 = some (6, 87) := by kernel_rfl
@[go_sem] theorem ty_pt91_3 : partT Try.prog 91 3 = some (6, 2) := by kernel_rfl
@[go_sem] theorem ty_fi91_4 : fieldOf Try.prog 91 4 = some (8, 89) := by kernel_rfl
@[go_sem] theorem ty_pt91_4 : partT Try.prog 91 4 = some (8, 4) := by kernel_rfl
attribute [go_sem] Try.underlying91 Try.stoodInHeld91 Try.eqGuardType91
@[go_sem] theorem ty_has92 : hasT Try.prog 92 = true := by kernel_rfl
@[go_sem] theorem ty_sz92 : szT Try.prog 92 = 1 := by kernel_rfl
@[go_sem] theorem ty_by92 : Try.prog.bytesOf 92 = 8 := by kernel_rfl
@[go_sem] theorem ty_agg92 : aggT Try.prog 92 = false := by kernel_rfl
@[go_sem] theorem ty_el92 : elemT Try.prog 92 = none := by kernel_rfl
@[go_sem] theorem ty_ar92 : arrT Try.prog 92 = none := by kernel_rfl
@[go_sem] theorem ty_ze92 : zeroT Try.prog 92 = some [.nilFunc] := by kernel_rfl
@[go_sem] theorem ty_has93 : hasT Try.prog 93 = true := by kernel_rfl
@[go_sem] theorem ty_sz93 : szT Try.prog 93 = 1 := by kernel_rfl
@[go_sem] theorem ty_by93 : Try.prog.bytesOf 93 = 8 := by kernel_rfl
@[go_sem] theorem ty_agg93 : aggT Try.prog 93 = false := by kernel_rfl
@[go_sem] theorem ty_el93 : elemT Try.prog 93 = none := by kernel_rfl
@[go_sem] theorem ty_ar93 : arrT Try.prog 93 = none := by kernel_rfl
@[go_sem] theorem ty_ze93 : zeroT Try.prog 93 = some [.nilFunc] := by kernel_rfl
@[go_sem] theorem ty_has94 : hasT Try.prog 94 = true := by kernel_rfl
@[go_sem] theorem ty_sz94 : szT Try.prog 94 = 1 := by kernel_rfl
@[go_sem] theorem ty_by94 : Try.prog.bytesOf 94 = 24 := by kernel_rfl
@[go_sem] theorem ty_agg94 : aggT Try.prog 94 = false := by kernel_rfl
@[go_sem] theorem ty_el94 : elemT Try.prog 94 = some 220 := by kernel_rfl
@[go_sem] theorem ty_ar94 : arrT Try.prog 94 = none := by kernel_rfl
@[go_sem] theorem ty_ze94 : zeroT Try.prog 94 = some [.slice none 0 0] := by kernel_rfl
@[go_sem] theorem ty_has95 : hasT Try.prog 95 = true := by kernel_rfl
@[go_sem] theorem ty_sz95 : szT Try.prog 95 = 2 := by kernel_rfl
@[go_sem] theorem ty_by95 : Try.prog.bytesOf 95 = 32 := by kernel_rfl
@[go_sem] theorem ty_agg95 : aggT Try.prog 95 = true := by kernel_rfl
@[go_sem] theorem ty_el95 : elemT Try.prog 95 = none := by kernel_rfl
@[go_sem] theorem ty_ar95 : arrT Try.prog 95 = none := by kernel_rfl
@[go_sem] theorem ty_ze95 : zeroT Try.prog 95 = some [.int .i64 0, .slice none 0 0] := by kernel_rfl
@[go_sem] theorem ty_po95 : partsOk Try.prog 95 = true := by kernel_rfl
@[go_sem] theorem ty_fi95_0 : fieldOf Try.prog 95 0 = some (0, 3) := by kernel_rfl
@[go_sem] theorem ty_pt95_0 : partT Try.prog 95 0 = some (0, 1) := by kernel_rfl
@[go_sem] theorem ty_fi95_1 : fieldOf Try.prog 95 1 = some (1, 94) := by kernel_rfl
@[go_sem] theorem ty_pt95_1 : partT Try.prog 95 1 = some (1, 1) := by kernel_rfl
attribute [go_sem] Try.underlying95 Try.stoodInHeld95 Try.eqGuardType95
@[go_sem] theorem ty_has96 : hasT Try.prog 96 = true := by kernel_rfl
@[go_sem] theorem ty_sz96 : szT Try.prog 96 = 2 := by kernel_rfl
@[go_sem] theorem ty_by96 : Try.prog.bytesOf 96 = 32 := by kernel_rfl
@[go_sem] theorem ty_agg96 : aggT Try.prog 96 = true := by kernel_rfl
@[go_sem] theorem ty_el96 : elemT Try.prog 96 = none := by kernel_rfl
@[go_sem] theorem ty_ar96 : arrT Try.prog 96 = none := by kernel_rfl
@[go_sem] theorem ty_ze96 : zeroT Try.prog 96 = some [.int .i64 0, .slice none 0 0] := by kernel_rfl
@[go_sem] theorem ty_po96 : partsOk Try.prog 96 = true := by kernel_rfl
@[go_sem] theorem ty_fi96_0 : fieldOf Try.prog 96 0 = some (0, 3) := by kernel_rfl
@[go_sem] theorem ty_pt96_0 : partT Try.prog 96 0 = some (0, 1) := by kernel_rfl
@[go_sem] theorem ty_fi96_1 : fieldOf Try.prog 96 1 = some (1, 94) := by kernel_rfl
@[go_sem] theorem ty_pt96_1 : partT Try.prog 96 1 = some (1, 1) := by kernel_rfl
attribute [go_sem] Try.underlying96 Try.stoodInHeld96 Try.eqGuardType96
@[go_sem] theorem ty_has97 : hasT Try.prog 97 = true := by kernel_rfl
@[go_sem] theorem ty_sz97 : szT Try.prog 97 = 1 := by kernel_rfl
@[go_sem] theorem ty_by97 : Try.prog.bytesOf 97 = 24 := by kernel_rfl
@[go_sem] theorem ty_agg97 : aggT Try.prog 97 = false := by kernel_rfl
@[go_sem] theorem ty_el97 : elemT Try.prog 97 = some 201 := by kernel_rfl
@[go_sem] theorem ty_ar97 : arrT Try.prog 97 = none := by kernel_rfl
@[go_sem] theorem ty_ze97 : zeroT Try.prog 97 = some [.slice none 0 0] := by kernel_rfl
@[go_sem] theorem ty_has98 : hasT Try.prog 98 = true := by kernel_rfl
@[go_sem] theorem ty_sz98 : szT Try.prog 98 = 3 := by kernel_rfl
@[go_sem] theorem ty_by98 : Try.prog.bytesOf 98 = 56 := by kernel_rfl
@[go_sem] theorem ty_agg98 : aggT Try.prog 98 = true := by kernel_rfl
@[go_sem] theorem ty_el98 : elemT Try.prog 98 = none := by kernel_rfl
@[go_sem] theorem ty_ar98 : arrT Try.prog 98 = none := by kernel_rfl
@[go_sem] theorem ty_ze98 : zeroT Try.prog 98 = some [.int .i64 0, .slice none 0 0, .slice none 0 0] := by kernel_rfl
@[go_sem] theorem ty_po98 : partsOk Try.prog 98 = true := by kernel_rfl
@[go_sem] theorem ty_fi98_0 : fieldOf Try.prog 98 0 = some (0, 96) := by kernel_rfl
@[go_sem] theorem ty_pt98_0 : partT Try.prog 98 0 = some (0, 2) := by kernel_rfl
@[go_sem] theorem ty_fi98_1 : fieldOf Try.prog 98 1 = some (2, 97) := by kernel_rfl
@[go_sem] theorem ty_pt98_1 : partT Try.prog 98 1 = some (2, 1) := by kernel_rfl
attribute [go_sem] Try.underlying98 Try.stoodInHeld98 Try.eqGuardType98
@[go_sem] theorem ty_has99 : hasT Try.prog 99 = true := by kernel_rfl
@[go_sem] theorem ty_sz99 : szT Try.prog 99 = 3 := by kernel_rfl
@[go_sem] theorem ty_by99 : Try.prog.bytesOf 99 = 56 := by kernel_rfl
@[go_sem] theorem ty_agg99 : aggT Try.prog 99 = true := by kernel_rfl
@[go_sem] theorem ty_el99 : elemT Try.prog 99 = none := by kernel_rfl
@[go_sem] theorem ty_ar99 : arrT Try.prog 99 = none := by kernel_rfl
@[go_sem] theorem ty_ze99 : zeroT Try.prog 99 = some [.int .i64 0, .slice none 0 0, .slice none 0 0] := by kernel_rfl
@[go_sem] theorem ty_po99 : partsOk Try.prog 99 = true := by kernel_rfl
@[go_sem] theorem ty_fi99_0 : fieldOf Try.prog 99 0 = some (0, 96) := by kernel_rfl
@[go_sem] theorem ty_pt99_0 : partT Try.prog 99 0 = some (0, 2) := by kernel_rfl
@[go_sem] theorem ty_fi99_1 : fieldOf Try.prog 99 1 = some (2, 97) := by kernel_rfl
@[go_sem] theorem ty_pt99_1 : partT Try.prog 99 1 = some (2, 1) := by kernel_rfl
attribute [go_sem] Try.underlying99 Try.stoodInHeld99 Try.eqGuardType99
@[go_sem] theorem ty_has100 : hasT Try.prog 100 = true := by kernel_rfl
@[go_sem] theorem ty_sz100 : szT Try.prog 100 = 2 := by kernel_rfl
@[go_sem] theorem ty_by100 : Try.prog.bytesOf 100 = 16 := by kernel_rfl
@[go_sem] theorem ty_agg100 : aggT Try.prog 100 = true := by kernel_rfl
@[go_sem] theorem ty_el100 : elemT Try.prog 100 = none := by kernel_rfl
@[go_sem] theorem ty_ar100 : arrT Try.prog 100 = none := by kernel_rfl
@[go_sem] theorem ty_ze100 : zeroT Try.prog 100 = some [.int .i64 0, .bool false] := by kernel_rfl
@[go_sem] theorem ty_po100 : partsOk Try.prog 100 = true := by kernel_rfl
@[go_sem] theorem ty_fi100_0 : fieldOf Try.prog 100 0 = some (0, 3) := by kernel_rfl
@[go_sem] theorem ty_pt100_0 : partT Try.prog 100 0 = some (0, 1) := by kernel_rfl
@[go_sem] theorem ty_fi100_1 : fieldOf Try.prog 100 1 = some (1, 4) := by kernel_rfl
@[go_sem] theorem ty_pt100_1 : partT Try.prog 100 1 = some (1, 1) := by kernel_rfl
attribute [go_sem] Try.underlying100 Try.stoodInHeld100 Try.eqGuardType100
@[go_sem] theorem ty_has101 : hasT Try.prog 101 = true := by kernel_rfl
@[go_sem] theorem ty_sz101 : szT Try.prog 101 = 4 := by kernel_rfl
@[go_sem] theorem ty_by101 : Try.prog.bytesOf 101 = 48 := by kernel_rfl
@[go_sem] theorem ty_agg101 : aggT Try.prog 101 = true := by kernel_rfl
@[go_sem] theorem ty_el101 : elemT Try.prog 101 = none := by kernel_rfl
@[go_sem] theorem ty_ar101 : arrT Try.prog 101 = none := by kernel_rfl
@[go_sem] theorem ty_ze101 : zeroT Try.prog 101 = some [.int .i64 0, .int .i64 0, .int .i64 0, .slice none 0 0] := by kernel_rfl
@[go_sem] theorem ty_po101 : partsOk Try.prog 101 = true := by kernel_rfl
@[go_sem] theorem ty_fi101_0 : fieldOf Try.prog 101 0 = some (0, 3) := by kernel_rfl
@[go_sem] theorem ty_pt101_0 : partT Try.prog 101 0 = some (0, 1) := by kernel_rfl
@[go_sem] theorem ty_fi101_1 : fieldOf Try.prog 101 1 = some (1, 3) := by kernel_rfl
@[go_sem] theorem ty_pt101_1 : partT Try.prog 101 1 = some (1, 1) := by kernel_rfl
@[go_sem] theorem ty_fi101_2 : fieldOf Try.prog 101 2 = some (2, 3) := by kernel_rfl
@[go_sem] theorem ty_pt101_2 : partT Try.prog 101 2 = some (2, 1) := by kernel_rfl
@[go_sem] theorem ty_fi101_3 : fieldOf Try.prog 101 3 = some (3, 24) := by kernel_rfl
@[go_sem] theorem ty_pt101_3 : partT Try.prog 101 3 = some (3, 1) := by kernel_rfl
attribute [go_sem] Try.underlying101 Try.stoodInHeld101 Try.eqGuardType101
@[go_sem] theorem ty_has102 : hasT Try.prog 102 = true := by kernel_rfl
@[go_sem] theorem ty_sz102 : szT Try.prog 102 = 12 := by kernel_rfl
@[go_sem] theorem ty_by102 : Try.prog.bytesOf 102 = 192 := by kernel_rfl
@[go_sem] theorem ty_agg102 : aggT Try.prog 102 = true := by kernel_rfl
@[go_sem] theorem ty_el102 : elemT Try.prog 102 = none := by kernel_rfl
@[go_sem] theorem ty_ar102 : arrT Try.prog 102 = none := by kernel_rfl
@[go_sem] theorem ty_ze102 : zeroT Try.prog 102 = some [.int .i64 0, .slice none 0 0, .slice none 0 0, .slice none 0 0, .slice none 0 0, .slice none 0 0, .int .i64 0, .bool false, .int .i64 0, .int .i64 0, .int .i64 0, .slice none 0 0] := by kernel_rfl
@[go_sem] theorem ty_po102 : partsOk Try.prog 102 = true := by kernel_rfl
@[go_sem] theorem ty_fi102_0 : fieldOf Try.prog 102 0 = some (0, 99) := by kernel_rfl
@[go_sem] theorem ty_pt102_0 : partT Try.prog 102 0 = some (0, 3) := by kernel_rfl
@[go_sem] theorem ty_fi102_1 : fieldOf Try.prog 102 1 = some (3, 62) := by kernel_rfl
@[go_sem] theorem ty_pt102_1 : partT Try.prog 102 1 = some (3, 2) := by kernel_rfl
@[go_sem] theorem ty_fi102_2 : fieldOf Try.prog 102 2 = some (5, 64) := by kernel_rfl
@[go_sem] theorem ty_pt102_2 : partT Try.prog 102 2 = some (5, 1) := by kernel_rfl
@[go_sem] theorem ty_fi102_3 : fieldOf Try.prog 102 3 = some (6, 100) := by kernel_rfl
@[go_sem] theorem ty_pt102_3 : partT Try.prog 102 3 = some (6, 2) := by kernel_rfl
@[go_sem] theorem ty_fi102_4 : fieldOf Try.prog 102 4 = some (8, 101) := by kernel_rfl
@[go_sem] theorem ty_pt102_4 : partT Try.prog 102 4 = some (8, 4) := by kernel_rfl
attribute [go_sem] Try.underlying102 Try.stoodInHeld102 Try.eqGuardType102
@[go_sem] theorem ty_has103 : hasT Try.prog 103 = true := by kernel_rfl
@[go_sem] theorem ty_sz103 : szT Try.prog 103 = 12 := by kernel_rfl
@[go_sem] theorem ty_by103 : Try.prog.bytesOf 103 = 192 := by kernel_rfl
@[go_sem] theorem ty_agg103 : aggT Try.prog 103 = true := by kernel_rfl
@[go_sem] theorem ty_el103 : elemT Try.prog 103 = none := by kernel_rfl
@[go_sem] theorem ty_ar103 : arrT Try.prog 103 = none := by kernel_rfl
@[go_sem] theorem ty_ze103 : zeroT Try.prog 103 = some [.int .i64 0, .slice none 0 0, .slice none 0 0, .slice none 0 0, .slice none 0 0, .slice none 0 0, .int .i64 0, .bool false, .int .i64 0, .int .i64 0, .int .i64 0, .slice none 0 0] := by kernel_rfl
@[go_sem] theorem ty_po103 : partsOk Try.prog 103 = true := by kernel_rfl
@[go_sem] theorem ty_fi103_0 : fieldOf Try.prog 103 0 = some (0, 99) := by kernel_rfl
@[go_sem] theorem ty_pt103_0 : partT Try.prog 103 0 = some (0, 3) := by kernel_rfl
@[go_sem] theorem ty_fi103_1 : fieldOf Try.prog 103 1 = some (3, 62) := by kernel_rfl
@[go_sem] theorem ty_pt103_1 : partT Try.prog 103 1 = some (3, 2) := by kernel_rfl
@[go_sem] theorem ty_fi103_2 : fieldOf Try.prog 103 2 = some (5, 64) := by kernel_rfl
@[go_sem] theorem ty_pt103_2 : partT Try.prog 103 2 = some (5, 1) := by kernel_rfl
@[go_sem] theorem ty_fi103_3 : fieldOf Try.prog 103 3 = some (6, 100) := by kernel_rfl
@[go_sem] theorem ty_pt103_3 : partT Try.prog 103 3 = some (6, 2) := by kernel_rfl
@[go_sem] theorem ty_fi103_4 : fieldOf Try.prog 103 4 = some (8, 101) := by kernel_rfl
@[go_sem] theorem ty_pt103_4 : partT Try.prog 103 4 = some (8, 4) := by kernel_rfl
attribute [go_sem] Try.underlying103 Try.stoodInHeld103 Try.eqGuardType103
@[go_sem] theorem ty_has104 : hasT Try.prog 104 = true := by kernel_rfl
@[go_sem] theorem ty_sz104 : szT Try.prog 104 = 1 := by kernel_rfl
@[go_sem] theorem ty_by104 : Try.prog.bytesOf 104 = 8 := by kernel_rfl
@[go_sem] theorem ty_agg104 : aggT Try.prog 104 = false := by kernel_rfl
@[go_sem] theorem ty_el104 : elemT Try.prog 104 = none := by kernel_rfl
@[go_sem] theorem ty_ar104 : arrT Try.prog 104 = none := by kernel_rfl
@[go_sem] theorem ty_ze104 : zeroT Try.prog 104 = some [.nilFunc] := by kernel_rfl
@[go_sem] theorem ty_has105 : hasT Try.prog 105 = true := by kernel_rfl
@[go_sem] theorem ty_sz105 : szT Try.prog 105 = 1 := by kernel_rfl
@[go_sem] theorem ty_by105 : Try.prog.bytesOf 105 = 8 := by kernel_rfl
@[go_sem] theorem ty_agg105 : aggT Try.prog 105 = false := by kernel_rfl
@[go_sem] theorem ty_el105 : elemT Try.prog 105 = none := by kernel_rfl
@[go_sem] theorem ty_ar105 : arrT Try.prog 105 = none := by kernel_rfl
@[go_sem] theorem ty_ze105 : zeroT Try.prog 105 = some [.nilFunc] := by kernel_rfl
@[go_sem] theorem ty_has106 : hasT Try.prog 106 = true := by kernel_rfl
@[go_sem] theorem ty_sz106 : szT Try.prog 106 = 1 := by kernel_rfl
@[go_sem] theorem ty_by106 : Try.prog.bytesOf 106 = 8 := by kernel_rfl
@[go_sem] theorem ty_agg106 : aggT Try.prog 106 = false := by kernel_rfl
@[go_sem] theorem ty_el106 : elemT Try.prog 106 = none := by kernel_rfl
@[go_sem] theorem ty_ar106 : arrT Try.prog 106 = none := by kernel_rfl
@[go_sem] theorem ty_ze106 : zeroT Try.prog 106 = some [.nilFunc] := by kernel_rfl
@[go_sem] theorem ty_has107 : hasT Try.prog 107 = true := by kernel_rfl
@[go_sem] theorem ty_sz107 : szT Try.prog 107 = 5 := by kernel_rfl
@[go_sem] theorem ty_by107 : Try.prog.bytesOf 107 = 40 := by kernel_rfl
@[go_sem] theorem ty_agg107 : aggT Try.prog 107 = true := by kernel_rfl
@[go_sem] theorem ty_el107 : elemT Try.prog 107 = none := by kernel_rfl
@[go_sem] theorem ty_ar107 : arrT Try.prog 107 = none := by kernel_rfl
@[go_sem] theorem ty_ze107 : zeroT Try.prog 107 = some [.int .i64 0, .int .i64 0, .int .i64 0, .int .i64 0, .int .i64 0] := by kernel_rfl
@[go_sem] theorem ty_po107 : partsOk Try.prog 107 = true := by kernel_rfl
@[go_sem] theorem ty_fi107_0 : fieldOf Try.prog 107 0 = some (0, 3) := by kernel_rfl
@[go_sem] theorem ty_pt107_0 : partT Try.prog 107 0 = some (0, 1) := by kernel_rfl
@[go_sem] theorem ty_fi107_1 : fieldOf Try.prog 107 1 = some (1, 3) := by kernel_rfl
@[go_sem] theorem ty_pt107_1 : partT Try.prog 107 1 = some (1, 1) := by kernel_rfl
@[go_sem] theorem ty_fi107_2 : fieldOf Try.prog 107 2 = some (2, 3) := by kernel_rfl
@[go_sem] theorem ty_pt107_2 : partT Try.prog 107 2 = some (2, 1) := by kernel_rfl
@[go_sem] theorem ty_fi107_3 : fieldOf Try.prog 107 3 = some (3, 3) := by kernel_rfl
@[go_sem] theorem ty_pt107_3 : partT Try.prog 107 3 = some (3, 1) := by kernel_rfl
@[go_sem] theorem ty_fi107_4 : fieldOf Try.prog 107 4 = some (4, 3) := by kernel_rfl
@[go_sem] theorem ty_pt107_4 : partT Try.prog 107 4 = some (4, 1) := by kernel_rfl
attribute [go_sem] Try.underlying107 Try.stoodInHeld107 Try.eqGuardType107
@[go_sem] theorem ty_has108 : hasT Try.prog 108 = true := by kernel_rfl
@[go_sem] theorem ty_sz108 : szT Try.prog 108 = 5 := by kernel_rfl
@[go_sem] theorem ty_by108 : Try.prog.bytesOf 108 = 40 := by kernel_rfl
@[go_sem] theorem ty_agg108 : aggT Try.prog 108 = true := by kernel_rfl
@[go_sem] theorem ty_el108 : elemT Try.prog 108 = none := by kernel_rfl
@[go_sem] theorem ty_ar108 : arrT Try.prog 108 = none := by kernel_rfl
@[go_sem] theorem ty_ze108 : zeroT Try.prog 108 = some [.int .i64 0, .int .i64 0, .int .i64 0, .int .i64 0, .int .i64 0] := by kernel_rfl
@[go_sem] theorem ty_po108 : partsOk Try.prog 108 = true := by kernel_rfl
@[go_sem] theorem ty_fi108_0 : fieldOf Try.prog 108 0 = some (0, 3) := by kernel_rfl
@[go_sem] theorem ty_pt108_0 : partT Try.prog 108 0 = some (0, 1) := by kernel_rfl
@[go_sem] theorem ty_fi108_1 : fieldOf Try.prog 108 1 = some (1, 3) := by kernel_rfl
@[go_sem] theorem ty_pt108_1 : partT Try.prog 108 1 = some (1, 1) := by kernel_rfl
@[go_sem] theorem ty_fi108_2 : fieldOf Try.prog 108 2 = some (2, 3) := by kernel_rfl
@[go_sem] theorem ty_pt108_2 : partT Try.prog 108 2 = some (2, 1) := by kernel_rfl
@[go_sem] theorem ty_fi108_3 : fieldOf Try.prog 108 3 = some (3, 3) := by kernel_rfl
@[go_sem] theorem ty_pt108_3 : partT Try.prog 108 3 = some (3, 1) := by kernel_rfl
@[go_sem] theorem ty_fi108_4 : fieldOf Try.prog 108 4 = some (4, 3) := by kernel_rfl
@[go_sem] theorem ty_pt108_4 : partT Try.prog 108 4 = some (4, 1) := by kernel_rfl
attribute [go_sem] Try.underlying108 Try.stoodInHeld108 Try.eqGuardType108
@[go_sem] theorem ty_has109 : hasT Try.prog 109 = true := by kernel_rfl
@[go_sem] theorem ty_sz109 : szT Try.prog 109 = 1 := by kernel_rfl
@[go_sem] theorem ty_by109 : Try.prog.bytesOf 109 = 8 := by kernel_rfl
@[go_sem] theorem ty_agg109 : aggT Try.prog 109 = false := by kernel_rfl
@[go_sem] theorem ty_el109 : elemT Try.prog 109 = none := by kernel_rfl
@[go_sem] theorem ty_ar109 : arrT Try.prog 109 = none := by kernel_rfl
@[go_sem] theorem ty_ze109 : zeroT Try.prog 109 = some [.nilFunc] := by kernel_rfl
@[go_sem] theorem ty_has110 : hasT Try.prog 110 = true := by kernel_rfl
@[go_sem] theorem ty_sz110 : szT Try.prog 110 = 5 := by kernel_rfl
@[go_sem] theorem ty_by110 : Try.prog.bytesOf 110 = 40 := by kernel_rfl
@[go_sem] theorem ty_agg110 : aggT Try.prog 110 = true := by kernel_rfl
@[go_sem] theorem ty_el110 : elemT Try.prog 110 = none := by kernel_rfl
@[go_sem] theorem ty_ar110 : arrT Try.prog 110 = none := by kernel_rfl
@[go_sem] theorem ty_ze110 : zeroT Try.prog 110 = some [.int .i64 0, .int .i64 0, .int .i64 0, .int .i64 0, .int .i64 0] := by kernel_rfl
@[go_sem] theorem ty_po110 : partsOk Try.prog 110 = true := by kernel_rfl
@[go_sem] theorem ty_fi110_0 : fieldOf Try.prog 110 0 = some (0, 3) := by kernel_rfl
@[go_sem] theorem ty_pt110_0 : partT Try.prog 110 0 = some (0, 1) := by kernel_rfl
@[go_sem] theorem ty_fi110_1 : fieldOf Try.prog 110 1 = some (1, 3) := by kernel_rfl
@[go_sem] theorem ty_pt110_1 : partT Try.prog 110 1 = some (1, 1) := by kernel_rfl
@[go_sem] theorem ty_fi110_2 : fieldOf Try.prog 110 2 = some (2, 3) := by kernel_rfl
@[go_sem] theorem ty_pt110_2 : partT Try.prog 110 2 = some (2, 1) := by kernel_rfl
@[go_sem] theorem ty_fi110_3 : fieldOf Try.prog 110 3 = some (3, 3) := by kernel_rfl
@[go_sem] theorem ty_pt110_3 : partT Try.prog 110 3 = some (3, 1) := by kernel_rfl
@[go_sem] theorem ty_fi110_4 : fieldOf Try.prog 110 4 = some (4, 3) := by kernel_rfl
@[go_sem] theorem ty_pt110_4 : partT Try.prog 110 4 = some (4, 1) := by kernel_rfl
attribute [go_sem] Try.underlying110 Try.stoodInHeld110 Try.eqGuardType110
@[go_sem] theorem ty_has111 : hasT Try.prog 111 = true := by kernel_rfl
@[go_sem] theorem ty_sz111 : szT Try.prog 111 = 1 := by kernel_rfl
@[go_sem] theorem ty_by111 : Try.prog.bytesOf 111 = 8 := by kernel_rfl
@[go_sem] theorem ty_agg111 : aggT Try.prog 111 = false := by kernel_rfl
@[go_sem] theorem ty_el111 : elemT Try.prog 111 = none := by kernel_rfl
@[go_sem] theorem ty_ar111 : arrT Try.prog 111 = none := by kernel_rfl
@[go_sem] theorem ty_ze111 : zeroT Try.prog 111 = some [.nilFunc] := by kernel_rfl
@[go_sem] theorem ty_has112 : hasT Try.prog 112 = true := by kernel_rfl
@[go_sem] theorem ty_sz112 : szT Try.prog 112 = 1 := by kernel_rfl
@[go_sem] theorem ty_by112 : Try.prog.bytesOf 112 = 8 := by kernel_rfl
@[go_sem] theorem ty_agg112 : aggT Try.prog 112 = false := by kernel_rfl
@[go_sem] theorem ty_el112 : elemT Try.prog 112 = none := by kernel_rfl
@[go_sem] theorem ty_ar112 : arrT Try.prog 112 = none := by kernel_rfl
@[go_sem] theorem ty_ze112 : zeroT Try.prog 112 = some [.nilFunc] := by kernel_rfl
@[go_sem] theorem ty_has113 : hasT Try.prog 113 = true := by kernel_rfl
@[go_sem] theorem ty_sz113 : szT Try.prog 113 = 1 := by kernel_rfl
@[go_sem] theorem ty_by113 : Try.prog.bytesOf 113 = 24 := by kernel_rfl
@[go_sem] theorem ty_agg113 : aggT Try.prog 113 = false := by kernel_rfl
@[go_sem] theorem ty_el113 : elemT Try.prog 113 = some 108 := by kernel_rfl
@[go_sem] theorem ty_ar113 : arrT Try.prog 113 = none := by kernel_rfl
@[go_sem] theorem ty_ze113 : zeroT Try.prog 113 = some [.slice none 0 0] := by kernel_rfl
@[go_sem] theorem ty_has114 : hasT Try.prog 114 = true := by kernel_rfl
@[go_sem] theorem ty_sz114 : szT Try.prog 114 = 1 := by kernel_rfl
@[go_sem] theorem ty_by114 : Try.prog.bytesOf 114 = 8 := by kernel_rfl
@[go_sem] theorem ty_agg114 : aggT Try.prog 114 = false := by kernel_rfl
@[go_sem] theorem ty_el114 : elemT Try.prog 114 = none := by kernel_rfl
@[go_sem] theorem ty_ar114 : arrT Try.prog 114 = none := by kernel_rfl
@[go_sem] theorem ty_ze114 : zeroT Try.prog 114 = some [.nilFunc] := by kernel_rfl
@[go_sem] theorem ty_has115 : hasT Try.prog 115 = true := by kernel_rfl
@[go_sem] theorem ty_sz115 : szT Try.prog 115 = 1 := by kernel_rfl
@[go_sem] theorem ty_by115 : Try.prog.bytesOf 115 = 8 := by kernel_rfl
@[go_sem] theorem ty_agg115 : aggT Try.prog 115 = false := by kernel_rfl
@[go_sem] theorem ty_el115 : elemT Try.prog 115 = none := by kernel_rfl
@[go_sem] theorem ty_ar115 : arrT Try.prog 115 = none := by kernel_rfl
@[go_sem] theorem ty_ze115 : zeroT Try.prog 115 = some [.nilFunc] := by kernel_rfl
@[go_sem] theorem ty_has116 : hasT Try.prog 116 = true := by kernel_rfl
@[go_sem] theorem ty_sz116 : szT Try.prog 116 = 1 := by kernel_rfl
@[go_sem] theorem ty_by116 : Try.prog.bytesOf 116 = 24 := by kernel_rfl
@[go_sem] theorem ty_agg116 : aggT Try.prog 116 = false := by kernel_rfl
@[go_sem] theorem ty_el116 : elemT Try.prog 116 = some 110 := by kernel_rfl
@[go_sem] theorem ty_ar116 : arrT Try.prog 116 = none := by kernel_rfl
@[go_sem] theorem ty_ze116 : zeroT Try.prog 116 = some [.slice none 0 0] := by kernel_rfl
@[go_sem] theorem ty_has117 : hasT Try.prog 117 = true := by kernel_rfl
@[go_sem] theorem ty_sz117 : szT Try.prog 117 = 1 := by kernel_rfl
@[go_sem] theorem ty_by117 : Try.prog.bytesOf 117 = 8 := by kernel_rfl
@[go_sem] theorem ty_agg117 : aggT Try.prog 117 = false := by kernel_rfl
@[go_sem] theorem ty_el117 : elemT Try.prog 117 = none := by kernel_rfl
@[go_sem] theorem ty_ar117 : arrT Try.prog 117 = none := by kernel_rfl
@[go_sem] theorem ty_ze117 : zeroT Try.prog 117 = some [.nilFunc] := by kernel_rfl
@[go_sem] theorem ty_has118 : hasT Try.prog 118 = true := by kernel_rfl
@[go_sem] theorem ty_sz118 : szT Try.prog 118 = 1 := by kernel_rfl
@[go_sem] theorem ty_by118 : Try.prog.bytesOf 118 = 8 := by kernel_rfl
@[go_sem] theorem ty_agg118 : aggT Try.prog 118 = false := by kernel_rfl
@[go_sem] theorem ty_el118 : elemT Try.prog 118 = none := by kernel_rfl
@[go_sem] theorem ty_ar118 : arrT Try.prog 118 = none := by kernel_rfl
@[go_sem] theorem ty_ze118 : zeroT Try.prog 118 = some [.nilFunc] := by kernel_rfl
@[go_sem] theorem ty_has119 : hasT Try.prog 119 = true := by kernel_rfl
@[go_sem] theorem ty_sz119 : szT Try.prog 119 = 1 := by kernel_rfl
@[go_sem] theorem ty_by119 : Try.prog.bytesOf 119 = 8 := by kernel_rfl
@[go_sem] theorem ty_agg119 : aggT Try.prog 119 = false := by kernel_rfl
@[go_sem] theorem ty_el119 : elemT Try.prog 119 = none := by kernel_rfl
@[go_sem] theorem ty_ar119 : arrT Try.prog 119 = none := by kernel_rfl
@[go_sem] theorem ty_ze119 : zeroT Try.prog 119 = some [.nilFunc] := by kernel_rfl
@[go_sem] theorem ty_has120 : hasT Try.prog 120 = true := by kernel_rfl
@[go_sem] theorem ty_sz120 : szT Try.prog 120 = 1 := by kernel_rfl
@[go_sem] theorem ty_by120 : Try.prog.bytesOf 120 = 8 := by kernel_rfl
@[go_sem] theorem ty_agg120 : aggT Try.prog 120 = false := by kernel_rfl
@[go_sem] theorem ty_el120 : elemT Try.prog 120 = none := by kernel_rfl
@[go_sem] theorem ty_ar120 : arrT Try.prog 120 = none := by kernel_rfl
@[go_sem] theorem ty_ze120 : zeroT Try.prog 120 = some [.nilFunc] := by kernel_rfl
@[go_sem] theorem ty_has121 : hasT Try.prog 121 = true := by kernel_rfl
@[go_sem] theorem ty_sz121 : szT Try.prog 121 = 4 := by kernel_rfl
@[go_sem] theorem ty_by121 : Try.prog.bytesOf 121 = 48 := by kernel_rfl
@[go_sem] theorem ty_agg121 : aggT Try.prog 121 = true := by kernel_rfl
@[go_sem] theorem ty_el121 : elemT Try.prog 121 = none := by kernel_rfl
@[go_sem] theorem ty_ar121 : arrT Try.prog 121 = none := by kernel_rfl
@[go_sem] theorem ty_ze121 : zeroT Try.prog 121 = some [.int .i64 0, .int .i64 0, .int .i64 0, .slice none 0 0] := by kernel_rfl
@[go_sem] theorem ty_po121 : partsOk Try.prog 121 = true := by kernel_rfl
@[go_sem] theorem ty_fi121_0 : fieldOf Try.prog 121 0 = some (0, 3) := by kernel_rfl
@[go_sem] theorem ty_pt121_0 : partT Try.prog 121 0 = some (0, 1) := by kernel_rfl
@[go_sem] theorem ty_fi121_1 : fieldOf Try.prog 121 1 = some (1, 3) := by kernel_rfl
@[go_sem] theorem ty_pt121_1 : partT Try.prog 121 1 = some (1, 1) := by kernel_rfl
@[go_sem] theorem ty_fi121_2 : fieldOf Try.prog 121 2 = some (2, 3) := by kernel_rfl
@[go_sem] theorem ty_pt121_2 : partT Try.prog 121 2 = some (2, 1) := by kernel_rfl
@[go_sem] theorem ty_fi121_3 : fieldOf Try.prog 121 3 = some (3, 51) := by kernel_rfl
@[go_sem] theorem ty_pt121_3 : partT Try.prog 121 3 = some (3, 1) := by kernel_rfl
attribute [go_sem] Try.underlying121 Try.stoodInHeld121 Try.eqGuardType121
@[go_sem] theorem ty_has122 : hasT Try.prog 122 = true := by kernel_rfl
@[go_sem] theorem ty_sz122 : szT Try.prog 122 = 4 := by kernel_rfl
@[go_sem] theorem ty_by122 : Try.prog.bytesOf 122 = 48 := by kernel_rfl
@[go_sem] theorem ty_agg122 : aggT Try.prog 122 = true := by kernel_rfl
@[go_sem] theorem ty_el122 : elemT Try.prog 122 = none := by kernel_rfl
@[go_sem] theorem ty_ar122 : arrT Try.prog 122 = none := by kernel_rfl
@[go_sem] theorem ty_ze122 : zeroT Try.prog 122 = some [.int .i64 0, .int .i64 0, .int .i64 0, .slice none 0 0] := by kernel_rfl
@[go_sem] theorem ty_po122 : partsOk Try.prog 122 = true := by kernel_rfl
@[go_sem] theorem ty_fi122_0 : fieldOf Try.prog 122 0 = some (0, 3) := by kernel_rfl
@[go_sem] theorem ty_pt122_0 : partT Try.prog 122 0 = some (0, 1) := by kernel_rfl
@[go_sem] theorem ty_fi122_1 : fieldOf Try.prog 122 1 = some (1, 3) := by kernel_rfl
@[go_sem] theorem ty_pt122_1 : partT Try.prog 122 1 = some (1, 1) := by kernel_rfl
@[go_sem] theorem ty_fi122_2 : fieldOf Try.prog 122 2 = some (2, 3) := by kernel_rfl
@[go_sem] theorem ty_pt122_2 : partT Try.prog 122 2 = some (2, 1) := by kernel_rfl
@[go_sem] theorem ty_fi122_3 : fieldOf Try.prog 122 3 = some (3, 51) := by kernel_rfl
@[go_sem] theorem ty_pt122_3 : partT Try.prog 122 3 = some (3, 1) := by kernel_rfl
attribute [go_sem] Try.underlying122 Try.stoodInHeld122 Try.eqGuardType122
@[go_sem] theorem ty_has123 : hasT Try.prog 123 = true := by kernel_rfl
@[go_sem] theorem ty_sz123 : szT Try.prog 123 = 1 := by kernel_rfl
@[go_sem] theorem ty_by123 : Try.prog.bytesOf 123 = 8 := by kernel_rfl
@[go_sem] theorem ty_agg123 : aggT Try.prog 123 = false := by kernel_rfl
@[go_sem] theorem ty_el123 : elemT Try.prog 123 = none := by kernel_rfl
@[go_sem] theorem ty_ar123 : arrT Try.prog 123 = none := by kernel_rfl
@[go_sem] theorem ty_ze123 : zeroT Try.prog 123 = some [.nilFunc] := by kernel_rfl
@[go_sem] theorem ty_has124 : hasT Try.prog 124 = true := by kernel_rfl
@[go_sem] theorem ty_sz124 : szT Try.prog 124 = 4 := by kernel_rfl
@[go_sem] theorem ty_by124 : Try.prog.bytesOf 124 = 48 := by kernel_rfl
@[go_sem] theorem ty_agg124 : aggT Try.prog 124 = true := by kernel_rfl
@[go_sem] theorem ty_el124 : elemT Try.prog 124 = none := by kernel_rfl
@[go_sem] theorem ty_ar124 : arrT Try.prog 124 = none := by kernel_rfl
@[go_sem] theorem ty_ze124 : zeroT Try.prog 124 = some [.int .i64 0, .int .i64 0, .int .i64 0, .slice none 0 0] := by kernel_rfl
@[go_sem] theorem ty_po124 : partsOk Try.prog 124 = true := by kernel_rfl
@[go_sem] theorem ty_fi124_0 : fieldOf Try.prog 124 0 = some (0, 3) := by kernel_rfl
@[go_sem] theorem ty_pt124_0 : partT Try.prog 124 0 = some (0, 1) := by kernel_rfl
@[go_sem] theorem ty_fi124_1 : fieldOf Try.prog 124 1 = some (1, 3) := by kernel_rfl
@[go_sem] theorem ty_pt124_1 : partT Try.prog 124 1 = some (1, 1) := by kernel_rfl
@[go_sem] theorem ty_fi124_2 : fieldOf Try.prog 124 2 = some (2, 3) := by kernel_rfl
@[go_sem] theorem ty_pt124_2 : partT Try.prog 124 2 = some (2, 1) := by kernel_rfl
@[go_sem] theorem ty_fi124_3 : fieldOf Try.prog 124 3 = some (3, 66) := by kernel_rfl
@[go_sem] theorem ty_pt124_3 : partT Try.prog 124 3 = some (3, 1) := by kernel_rfl
attribute [go_sem] Try.underlying124 Try.stoodInHeld124 Try.eqGuardType124
@[go_sem] theorem ty_has125 : hasT Try.prog 125 = true := by kernel_rfl
@[go_sem] theorem ty_sz125 : szT Try.prog 125 = 4 := by kernel_rfl
@[go_sem] theorem ty_by125 : Try.prog.bytesOf 125 = 48 := by kernel_rfl
@[go_sem] theorem ty_agg125 : aggT Try.prog 125 = true := by kernel_rfl
@[go_sem] theorem ty_el125 : elemT Try.prog 125 = none := by kernel_rfl
@[go_sem] theorem ty_ar125 : arrT Try.prog 125 = none := by kernel_rfl
@[go_sem] theorem ty_ze125 : zeroT Try.prog 125 = some [.int .i64 0, .int .i64 0, .int .i64 0, .slice none 0 0] := by kernel_rfl
@[go_sem] theorem ty_po125 : partsOk Try.prog 125 = true := by kernel_rfl
@[go_sem] theorem ty_fi125_0 : fieldOf Try.prog 125 0 = some (0, 3) := by kernel_rfl
@[go_sem] theorem ty_pt125_0 : partT Try.prog 125 0 = some (0, 1) := by kernel_rfl
@[go_sem] theorem ty_fi125_1 : fieldOf Try.prog 125 1 = some (1, 3) := by kernel_rfl
@[go_sem] theorem ty_pt125_1 : partT Try.prog 125 1 = some (1, 1) := by kernel_rfl
@[go_sem] theorem ty_fi125_2 : fieldOf Try.prog 125 2 = some (2, 3) := by kernel_rfl
@[go_sem] theorem ty_pt125_2 : partT Try.prog 125 2 = some (2, 1) := by kernel_rfl
@[go_sem] theorem ty_fi125_3 : fieldOf Try.prog 125 3 = some (3, 66) := by kernel_rfl
@[go_sem] theorem ty_pt125_3 : partT Try.prog 125 3 = some (3, 1) := by kernel_rfl
attribute [go_sem] Try.underlying125 Try.stoodInHeld125 Try.eqGuardType125
@[go_sem] theorem ty_has126 : hasT Try.prog 126 = true := by kernel_rfl
@[go_sem] theorem ty_sz126 : szT Try.prog 126 = 1 := by kernel_rfl
@[go_sem] theorem ty_by126 : Try.prog.bytesOf 126 = 8 := by kernel_rfl
@[go_sem] theorem ty_agg126 : aggT Try.prog 126 = false := by kernel_rfl
@[go_sem] theorem ty_el126 : elemT Try.prog 126 = none := by kernel_rfl
@[go_sem] theorem ty_ar126 : arrT Try.prog 126 = none := by kernel_rfl
@[go_sem] theorem ty_ze126 : zeroT Try.prog 126 = some [.nilFunc] := by kernel_rfl
@[go_sem] theorem ty_has127 : hasT Try.prog 127 = true := by kernel_rfl
@[go_sem] theorem ty_sz127 : szT Try.prog 127 = 1 := by kernel_rfl
@[go_sem] theorem ty_by127 : Try.prog.bytesOf 127 = 8 := by kernel_rfl
@[go_sem] theorem ty_agg127 : aggT Try.prog 127 = false := by kernel_rfl
@[go_sem] theorem ty_el127 : elemT Try.prog 127 = none := by kernel_rfl
@[go_sem] theorem ty_ar127 : arrT Try.prog 127 = none := by kernel_rfl
@[go_sem] theorem ty_ze127 : zeroT Try.prog 127 = some [.nilFunc] := by kernel_rfl
@[go_sem] theorem ty_has128 : hasT Try.prog 128 = true := by kernel_rfl
@[go_sem] theorem ty_sz128 : szT Try.prog 128 = 3 := by kernel_rfl
@[go_sem] theorem ty_by128 : Try.prog.bytesOf 128 = 40 := by kernel_rfl
@[go_sem] theorem ty_agg128 : aggT Try.prog 128 = true := by kernel_rfl
@[go_sem] theorem ty_el128 : elemT Try.prog 128 = none := by kernel_rfl
@[go_sem] theorem ty_ar128 : arrT Try.prog 128 = none := by kernel_rfl
@[go_sem] theorem ty_ze128 : zeroT Try.prog 128 = some [.int .i64 0, .int .i64 0, .slice none 0 0] := by kernel_rfl
@[go_sem] theorem ty_po128 : partsOk Try.prog 128 = true := by kernel_rfl
@[go_sem] theorem ty_fi128_0 : fieldOf Try.prog 128 0 = some (0, 3) := by kernel_rfl
@[go_sem] theorem ty_pt128_0 : partT Try.prog 128 0 = some (0, 1) := by kernel_rfl
@[go_sem] theorem ty_fi128_1 : fieldOf Try.prog 128 1 = some (1, 3) := by kernel_rfl
@[go_sem] theorem ty_pt128_1 : partT Try.prog 128 1 = some (1, 1) := by kernel_rfl
@[go_sem] theorem ty_fi128_2 : fieldOf Try.prog 128 2 = some (2, 26) := by kernel_rfl
@[go_sem] theorem ty_pt128_2 : partT Try.prog 128 2 = some (2, 1) := by kernel_rfl
attribute [go_sem] Try.underlying128 Try.stoodInHeld128 Try.eqGuardType128
@[go_sem] theorem ty_has129 : hasT Try.prog 129 = true := by kernel_rfl
@[go_sem] theorem ty_sz129 : szT Try.prog 129 = 3 := by kernel_rfl
@[go_sem] theorem ty_by129 : Try.prog.bytesOf 129 = 40 := by kernel_rfl
@[go_sem] theorem ty_agg129 : aggT Try.prog 129 = true := by kernel_rfl
@[go_sem] theorem ty_el129 : elemT Try.prog 129 = none := by kernel_rfl
@[go_sem] theorem ty_ar129 : arrT Try.prog 129 = none := by kernel_rfl
@[go_sem] theorem ty_ze129 : zeroT Try.prog 129 = some [.int .i64 0, .int .i64 0, .slice none 0 0] := by kernel_rfl
@[go_sem] theorem ty_po129 : partsOk Try.prog 129 = true := by kernel_rfl
@[go_sem] theorem ty_fi129_0 : fieldOf Try.prog 129 0 = some (0, 3) := by kernel_rfl
@[go_sem] theorem ty_pt129_0 : partT Try.prog 129 0 = some (0, 1) := by kernel_rfl
@[go_sem] theorem ty_fi129_1 : fieldOf Try.prog 129 1 = some (1, 3) := by kernel_rfl
@[go_sem] theorem ty_pt129_1 : partT Try.prog 129 1 = some (1, 1) := by kernel_rfl
@[go_sem] theorem ty_fi129_2 : fieldOf Try.prog 129 2 = some (2, 26) := by kernel_rfl
@[go_sem] theorem ty_pt129_2 : partT Try.prog 129 2 = some (2, 1) := by kernel_rfl
attribute [go_sem] Try.underlying129 Try.stoodInHeld129 Try.eqGuardType129
@[go_sem] theorem ty_has130 : hasT Try.prog 130 = true := by kernel_rfl
@[go_sem] theorem ty_sz130 : szT Try.prog 130 = 1 := by kernel_rfl
@[go_sem] theorem ty_by130 : Try.prog.bytesOf 130 = 8 := by kernel_rfl
@[go_sem] theorem ty_agg130 : aggT Try.prog 130 = false := by kernel_rfl
@[go_sem] theorem ty_el130 : elemT Try.prog 130 = none := by kernel_rfl
@[go_sem] theorem ty_ar130 : arrT Try.prog 130 = none := by kernel_rfl
@[go_sem] theorem ty_ze130 : zeroT Try.prog 130 = some [.nilFunc] := by kernel_rfl
@[go_sem] theorem ty_has131 : hasT Try.prog 131 = true := by kernel_rfl
@[go_sem] theorem ty_sz131 : szT Try.prog 131 = 1 := by kernel_rfl
@[go_sem] theorem ty_by131 : Try.prog.bytesOf 131 = 8 := by kernel_rfl
@[go_sem] theorem ty_agg131 : aggT Try.prog 131 = false := by kernel_rfl
@[go_sem] theorem ty_el131 : elemT Try.prog 131 = none := by kernel_rfl
@[go_sem] theorem ty_ar131 : arrT Try.prog 131 = none := by kernel_rfl
@[go_sem] theorem ty_ze131 : zeroT Try.prog 131 = some [.nilFunc] := by kernel_rfl
@[go_sem] theorem ty_has132 : hasT Try.prog 132 = true := by kernel_rfl
@[go_sem] theorem ty_sz132 : szT Try.prog 132 = 1 := by kernel_rfl
@[go_sem] theorem ty_by132 : Try.prog.bytesOf 132 = 8 := by kernel_rfl
@[go_sem] theorem ty_agg132 : aggT Try.prog 132 = false := by kernel_rfl
@[go_sem] theorem ty_el132 : elemT Try.prog 132 = none := by kernel_rfl
@[go_sem] theorem ty_ar132 : arrT Try.prog 132 = none := by kernel_rfl
@[go_sem] theorem ty_ze132 : zeroT Try.prog 132 = some [.nilFunc] := by kernel_rfl
@[go_sem] theorem ty_has133 : hasT Try.prog 133 = true := by kernel_rfl
@[go_sem] theorem ty_sz133 : szT Try.prog 133 = 1 := by kernel_rfl
@[go_sem] theorem ty_by133 : Try.prog.bytesOf 133 = 8 := by kernel_rfl
@[go_sem] theorem ty_agg133 : aggT Try.prog 133 = false := by kernel_rfl
@[go_sem] theorem ty_el133 : elemT Try.prog 133 = none := by kernel_rfl
@[go_sem] theorem ty_ar133 : arrT Try.prog 133 = none := by kernel_rfl
@[go_sem] theorem ty_ze133 : zeroT Try.prog 133 = some [.nilFunc] := by kernel_rfl
@[go_sem] theorem ty_has134 : hasT Try.prog 134 = true := by kernel_rfl
@[go_sem] theorem ty_sz134 : szT Try.prog 134 = 1 := by kernel_rfl
@[go_sem] theorem ty_by134 : Try.prog.bytesOf 134 = 8 := by kernel_rfl
@[go_sem] theorem ty_agg134 : aggT Try.prog 134 = false := by kernel_rfl
@[go_sem] theorem ty_el134 : elemT Try.prog 134 = none := by kernel_rfl
@[go_sem] theorem ty_ar134 : arrT Try.prog 134 = none := by kernel_rfl
@[go_sem] theorem ty_ze134 : zeroT Try.prog 134 = some [.nilFunc] := by kernel_rfl
@[go_sem] theorem ty_has135 : hasT Try.prog 135 = true := by kernel_rfl
@[go_sem] theorem ty_sz135 : szT Try.prog 135 = 1 := by kernel_rfl
@[go_sem] theorem ty_by135 : Try.prog.bytesOf 135 = 8 := by kernel_rfl
@[go_sem] theorem ty_agg135 : aggT Try.prog 135 = false := by kernel_rfl
@[go_sem] theorem ty_el135 : elemT Try.prog 135 = none := by kernel_rfl
@[go_sem] theorem ty_ar135 : arrT Try.prog 135 = none := by kernel_rfl
@[go_sem] theorem ty_ze135 : zeroT Try.prog 135 = some [.nilFunc] := by kernel_rfl
@[go_sem] theorem ty_has136 : hasT Try.prog 136 = true := by kernel_rfl
@[go_sem] theorem ty_sz136 : szT Try.prog 136 = 1 := by kernel_rfl
@[go_sem] theorem ty_by136 : Try.prog.bytesOf 136 = 8 := by kernel_rfl
@[go_sem] theorem ty_agg136 : aggT Try.prog 136 = false := by kernel_rfl
@[go_sem] theorem ty_el136 : elemT Try.prog 136 = none := by kernel_rfl
@[go_sem] theorem ty_ar136 : arrT Try.prog 136 = none := by kernel_rfl
@[go_sem] theorem ty_ze136 : zeroT Try.prog 136 = some [.nilFunc] := by kernel_rfl
@[go_sem] theorem ty_has137 : hasT Try.prog 137 = true := by kernel_rfl
@[go_sem] theorem ty_sz137 : szT Try.prog 137 = 1 := by kernel_rfl
@[go_sem] theorem ty_by137 : Try.prog.bytesOf 137 = 8 := by kernel_rfl
@[go_sem] theorem ty_agg137 : aggT Try.prog 137 = false := by kernel_rfl
@[go_sem] theorem ty_el137 : elemT Try.prog 137 = none := by kernel_rfl
@[go_sem] theorem ty_ar137 : arrT Try.prog 137 = none := by kernel_rfl
@[go_sem] theorem ty_ze137 : zeroT Try.prog 137 = some [.nilFunc] := by kernel_rfl
@[go_sem] theorem ty_has138 : hasT Try.prog 138 = true := by kernel_rfl
@[go_sem] theorem ty_sz138 : szT Try.prog 138 = 1 := by kernel_rfl
@[go_sem] theorem ty_by138 : Try.prog.bytesOf 138 = 8 := by kernel_rfl
@[go_sem] theorem ty_agg138 : aggT Try.prog 138 = false := by kernel_rfl
@[go_sem] theorem ty_el138 : elemT Try.prog 138 = none := by kernel_rfl
@[go_sem] theorem ty_ar138 : arrT Try.prog 138 = none := by kernel_rfl
@[go_sem] theorem ty_ze138 : zeroT Try.prog 138 = some [.nilFunc] := by kernel_rfl
@[go_sem] theorem ty_has139 : hasT Try.prog 139 = true := by kernel_rfl
@[go_sem] theorem ty_sz139 : szT Try.prog 139 = 6 := by kernel_rfl
@[go_sem] theorem ty_by139 : Try.prog.bytesOf 139 = 56 := by kernel_rfl
@[go_sem] theorem ty_agg139 : aggT Try.prog 139 = true := by kernel_rfl
@[go_sem] theorem ty_el139 : elemT Try.prog 139 = none := by kernel_rfl
@[go_sem] theorem ty_ar139 : arrT Try.prog 139 = none := by kernel_rfl
@[go_sem] theorem ty_ze139 : zeroT Try.prog 139 = some [.string ByteArray.empty, .int .i64 0, .int .i64 0, .int .i64 0, .int .i64 0, .bool false] := by kernel_rfl
@[go_sem] theorem ty_po139 : partsOk Try.prog 139 = true := by kernel_rfl
@[go_sem] theorem ty_fi139_0 : fieldOf Try.prog 139 0 = some (0, 9) := by kernel_rfl
@[go_sem] theorem ty_pt139_0 : partT Try.prog 139 0 = some (0, 1) := by kernel_rfl
@[go_sem] theorem ty_fi139_1 : fieldOf Try.prog 139 1 = some (1, 3) := by kernel_rfl
@[go_sem] theorem ty_pt139_1 : partT Try.prog 139 1 = some (1, 1) := by kernel_rfl
@[go_sem] theorem ty_fi139_2 : fieldOf Try.prog 139 2 = some (2, 3) := by kernel_rfl
@[go_sem] theorem ty_pt139_2 : partT Try.prog 139 2 = some (2, 1) := by kernel_rfl
@[go_sem] theorem ty_fi139_3 : fieldOf Try.prog 139 3 = some (3, 3) := by kernel_rfl
@[go_sem] theorem ty_pt139_3 : partT Try.prog 139 3 = some (3, 1) := by kernel_rfl
@[go_sem] theorem ty_fi139_4 : fieldOf Try.prog 139 4 = some (4, 3) := by kernel_rfl
@[go_sem] theorem ty_pt139_4 : partT Try.prog 139 4 = some (4, 1) := by kernel_rfl
@[go_sem] theorem ty_fi139_5 : fieldOf Try.prog 139 5 = some (5, 4) := by kernel_rfl
@[go_sem] theorem ty_pt139_5 : partT Try.prog 139 5 = some (5, 1) := by kernel_rfl
attribute [go_sem] Try.underlying139 Try.stoodInHeld139 Try.eqGuardType139
@[go_sem] theorem ty_has140 : hasT Try.prog 140 = true := by kernel_rfl
@[go_sem] theorem ty_sz140 : szT Try.prog 140 = 6 := by kernel_rfl
@[go_sem] theorem ty_by140 : Try.prog.bytesOf 140 = 56 := by kernel_rfl
@[go_sem] theorem ty_agg140 : aggT Try.prog 140 = true := by kernel_rfl
@[go_sem] theorem ty_el140 : elemT Try.prog 140 = none := by kernel_rfl
@[go_sem] theorem ty_ar140 : arrT Try.prog 140 = none := by kernel_rfl
@[go_sem] theorem ty_ze140 : zeroT Try.prog 140 = some [.string ByteArray.empty, .int .i64 0, .int .i64 0, .int .i64 0, .int .i64 0, .bool false] := by kernel_rfl
@[go_sem] theorem ty_po140 : partsOk Try.prog 140 = true := by kernel_rfl
@[go_sem] theorem ty_fi140_0 : fieldOf Try.prog 140 0 = some (0, 9) := by kernel_rfl
@[go_sem] theorem ty_pt140_0 : partT Try.prog 140 0 = some (0, 1) := by kernel_rfl
@[go_sem] theorem ty_fi140_1 : fieldOf Try.prog 140 1 = some (1, 3) := by kernel_rfl
@[go_sem] theorem ty_pt140_1 : partT Try.prog 140 1 = some (1, 1) := by kernel_rfl
@[go_sem] theorem ty_fi140_2 : fieldOf Try.prog 140 2 = some (2, 3) := by kernel_rfl
@[go_sem] theorem ty_pt140_2 : partT Try.prog 140 2 = some (2, 1) := by kernel_rfl
@[go_sem] theorem ty_fi140_3 : fieldOf Try.prog 140 3 = some (3, 3) := by kernel_rfl
@[go_sem] theorem ty_pt140_3 : partT Try.prog 140 3 = some (3, 1) := by kernel_rfl
@[go_sem] theorem ty_fi140_4 : fieldOf Try.prog 140 4 = some (4, 3) := by kernel_rfl
@[go_sem] theorem ty_pt140_4 : partT Try.prog 140 4 = some (4, 1) := by kernel_rfl
@[go_sem] theorem ty_fi140_5 : fieldOf Try.prog 140 5 = some (5, 4) := by kernel_rfl
@[go_sem] theorem ty_pt140_5 : partT Try.prog 140 5 = some (5, 1) := by kernel_rfl
attribute [go_sem] Try.underlying140 Try.stoodInHeld140 Try.eqGuardType140
@[go_sem] theorem ty_has141 : hasT Try.prog 141 = true := by kernel_rfl
@[go_sem] theorem ty_sz141 : szT Try.prog 141 = 1 := by kernel_rfl
@[go_sem] theorem ty_by141 : Try.prog.bytesOf 141 = 8 := by kernel_rfl
@[go_sem] theorem ty_agg141 : aggT Try.prog 141 = false := by kernel_rfl
@[go_sem] theorem ty_el141 : elemT Try.prog 141 = none := by kernel_rfl
@[go_sem] theorem ty_ar141 : arrT Try.prog 141 = none := by kernel_rfl
@[go_sem] theorem ty_ze141 : zeroT Try.prog 141 = some [.nilFunc] := by kernel_rfl
@[go_sem] theorem ty_has142 : hasT Try.prog 142 = true := by kernel_rfl
@[go_sem] theorem ty_sz142 : szT Try.prog 142 = 5 := by kernel_rfl
@[go_sem] theorem ty_by142 : Try.prog.bytesOf 142 = 40 := by kernel_rfl
@[go_sem] theorem ty_agg142 : aggT Try.prog 142 = true := by kernel_rfl
@[go_sem] theorem ty_el142 : elemT Try.prog 142 = none := by kernel_rfl
@[go_sem] theorem ty_ar142 : arrT Try.prog 142 = none := by kernel_rfl
@[go_sem] theorem ty_ze142 : zeroT Try.prog 142 = some [.int .i64 0, .int .i64 0, .bool false, .int .i64 0, .int .i64 0] := by kernel_rfl
@[go_sem] theorem ty_po142 : partsOk Try.prog 142 = true := by kernel_rfl
@[go_sem] theorem ty_fi142_0 : fieldOf Try.prog 142 0 = some (0, 3) := by kernel_rfl
@[go_sem] theorem ty_pt142_0 : partT Try.prog 142 0 = some (0, 1) := by kernel_rfl
@[go_sem] theorem ty_fi142_1 : fieldOf Try.prog 142 1 = some (1, 3) := by kernel_rfl
@[go_sem] theorem ty_pt142_1 : partT Try.prog 142 1 = some (1, 1) := by kernel_rfl
@[go_sem] theorem ty_fi142_2 : fieldOf Try.prog 142 2 = some (2, 4) := by kernel_rfl
@[go_sem] theorem ty_pt142_2 : partT Try.prog 142 2 = some (2, 1) := by kernel_rfl
@[go_sem] theorem ty_fi142_3 : fieldOf Try.prog 142 3 = some (3, 3) := by kernel_rfl
@[go_sem] theorem ty_pt142_3 : partT Try.prog 142 3 = some (3, 1) := by kernel_rfl
@[go_sem] theorem ty_fi142_4 : fieldOf Try.prog 142 4 = some (4, 3) := by kernel_rfl
@[go_sem] theorem ty_pt142_4 : partT Try.prog 142 4 = some (4, 1) := by kernel_rfl
attribute [go_sem] Try.underlying142 Try.stoodInHeld142 Try.eqGuardType142
@[go_sem] theorem ty_has143 : hasT Try.prog 143 = true := by kernel_rfl
@[go_sem] theorem ty_sz143 : szT Try.prog 143 = 5 := by kernel_rfl
@[go_sem] theorem ty_by143 : Try.prog.bytesOf 143 = 40 := by kernel_rfl
@[go_sem] theorem ty_agg143 : aggT Try.prog 143 = true := by kernel_rfl
@[go_sem] theorem ty_el143 : elemT Try.prog 143 = none := by kernel_rfl
@[go_sem] theorem ty_ar143 : arrT Try.prog 143 = none := by kernel_rfl
@[go_sem] theorem ty_ze143 : zeroT Try.prog 143 = some [.int .i64 0, .int .i64 0, .bool false, .int .i64 0, .int .i64 0] := by kernel_rfl
@[go_sem] theorem ty_po143 : partsOk Try.prog 143 = true := by kernel_rfl
@[go_sem] theorem ty_fi143_0 : fieldOf Try.prog 143 0 = some (0, 3) := by kernel_rfl
@[go_sem] theorem ty_pt143_0 : partT Try.prog 143 0 = some (0, 1) := by kernel_rfl
@[go_sem] theorem ty_fi143_1 : fieldOf Try.prog 143 1 = some (1, 3) := by kernel_rfl
@[go_sem] theorem ty_pt143_1 : partT Try.prog 143 1 = some (1, 1) := by kernel_rfl
@[go_sem] theorem ty_fi143_2 : fieldOf Try.prog 143 2 = some (2, 4) := by kernel_rfl
@[go_sem] theorem ty_pt143_2 : partT Try.prog 143 2 = some (2, 1) := by kernel_rfl
@[go_sem] theorem ty_fi143_3 : fieldOf Try.prog 143 3 = some (3, 3) := by kernel_rfl
@[go_sem] theorem ty_pt143_3 : partT Try.prog 143 3 = some (3, 1) := by kernel_rfl
@[go_sem] theorem ty_fi143_4 : fieldOf Try.prog 143 4 = some (4, 3) := by kernel_rfl
@[go_sem] theorem ty_pt143_4 : partT Try.prog 143 4 = some (4, 1) := by kernel_rfl
attribute [go_sem] Try.underlying143 Try.stoodInHeld143 Try.eqGuardType143
@[go_sem] theorem ty_has144 : hasT Try.prog 144 = true := by kernel_rfl
@[go_sem] theorem ty_sz144 : szT Try.prog 144 = 1 := by kernel_rfl
@[go_sem] theorem ty_by144 : Try.prog.bytesOf 144 = 8 := by kernel_rfl
@[go_sem] theorem ty_agg144 : aggT Try.prog 144 = false := by kernel_rfl
@[go_sem] theorem ty_el144 : elemT Try.prog 144 = none := by kernel_rfl
@[go_sem] theorem ty_ar144 : arrT Try.prog 144 = none := by kernel_rfl
@[go_sem] theorem ty_ze144 : zeroT Try.prog 144 = some [.nilFunc] := by kernel_rfl
@[go_sem] theorem ty_has146 : hasT Try.prog 146 = true := by kernel_rfl
@[go_sem] theorem ty_sz146 : szT Try.prog 146 = 1 := by kernel_rfl
@[go_sem] theorem ty_by146 : Try.prog.bytesOf 146 = 8 := by kernel_rfl
@[go_sem] theorem ty_agg146 : aggT Try.prog 146 = false := by kernel_rfl
@[go_sem] theorem ty_el146 : elemT Try.prog 146 = none := by kernel_rfl
@[go_sem] theorem ty_ar146 : arrT Try.prog 146 = none := by kernel_rfl
@[go_sem] theorem ty_ze146 : zeroT Try.prog 146 = some [.nilFunc] := by kernel_rfl
@[go_sem] theorem ty_has147 : hasT Try.prog 147 = true := by kernel_rfl
@[go_sem] theorem ty_sz147 : szT Try.prog 147 = 1 := by kernel_rfl
@[go_sem] theorem ty_by147 : Try.prog.bytesOf 147 = 8 := by kernel_rfl
@[go_sem] theorem ty_agg147 : aggT Try.prog 147 = false := by kernel_rfl
@[go_sem] theorem ty_el147 : elemT Try.prog 147 = none := by kernel_rfl
@[go_sem] theorem ty_ar147 : arrT Try.prog 147 = none := by kernel_rfl
@[go_sem] theorem ty_ze147 : zeroT Try.prog 147 = some [.nilFunc] := by kernel_rfl
@[go_sem] theorem ty_has148 : hasT Try.prog 148 = true := by kernel_rfl
@[go_sem] theorem ty_sz148 : szT Try.prog 148 = 1 := by kernel_rfl
@[go_sem] theorem ty_by148 : Try.prog.bytesOf 148 = 8 := by kernel_rfl
@[go_sem] theorem ty_agg148 : aggT Try.prog 148 = false := by kernel_rfl
@[go_sem] theorem ty_el148 : elemT Try.prog 148 = none := by kernel_rfl
@[go_sem] theorem ty_ar148 : arrT Try.prog 148 = none := by kernel_rfl
@[go_sem] theorem ty_ze148 : zeroT Try.prog 148 = some [.nilFunc] := by kernel_rfl
@[go_sem] theorem ty_has149 : hasT Try.prog 149 = true := by kernel_rfl
@[go_sem] theorem ty_sz149 : szT Try.prog 149 = 6 := by kernel_rfl
@[go_sem] theorem ty_by149 : Try.prog.bytesOf 149 = 56 := by kernel_rfl
@[go_sem] theorem ty_agg149 : aggT Try.prog 149 = true := by kernel_rfl
@[go_sem] theorem ty_el149 : elemT Try.prog 149 = none := by kernel_rfl
@[go_sem] theorem ty_ar149 : arrT Try.prog 149 = none := by kernel_rfl
@[go_sem] theorem ty_ze149 : zeroT Try.prog 149 = some [.string ByteArray.empty, .int .i64 0, .int .i64 0, .int .i64 0, .int .i64 0, .bool false] := by kernel_rfl
@[go_sem] theorem ty_po149 : partsOk Try.prog 149 = true := by kernel_rfl
@[go_sem] theorem ty_fi149_0 : fieldOf Try.prog 149 0 = some (0, 9) := by kernel_rfl
@[go_sem] theorem ty_pt149_0 : partT Try.prog 149 0 = some (0, 1) := by kernel_rfl
@[go_sem] theorem ty_fi149_1 : fieldOf Try.prog 149 1 = some (1, 3) := by kernel_rfl
@[go_sem] theorem ty_pt149_1 : partT Try.prog 149 1 = some (1, 1) := by kernel_rfl
@[go_sem] theorem ty_fi149_2 : fieldOf Try.prog 149 2 = some (2, 3) := by kernel_rfl
@[go_sem] theorem ty_pt149_2 : partT Try.prog 149 2 = some (2, 1) := by kernel_rfl
@[go_sem] theorem ty_fi149_3 : fieldOf Try.prog 149 3 = some (3, 3) := by kernel_rfl
@[go_sem] theorem ty_pt149_3 : partT Try.prog 149 3 = some (3, 1) := by kernel_rfl
@[go_sem] theorem ty_fi149_4 : fieldOf Try.prog 149 4 = some (4, 3) := by kernel_rfl
@[go_sem] theorem ty_pt149_4 : partT Try.prog 149 4 = some (4, 1) := by kernel_rfl
@[go_sem] theorem ty_fi149_5 : fieldOf Try.prog 149 5 = some (5, 4) := by kernel_rfl
@[go_sem] theorem ty_pt149_5 : partT Try.prog 149 5 = some (5, 1) := by kernel_rfl
attribute [go_sem] Try.underlying149 Try.stoodInHeld149 Try.eqGuardType149
@[go_sem] theorem ty_has150 : hasT Try.prog 150 = true := by kernel_rfl
@[go_sem] theorem ty_sz150 : szT Try.prog 150 = 1 := by kernel_rfl
@[go_sem] theorem ty_by150 : Try.prog.bytesOf 150 = 8 := by kernel_rfl
@[go_sem] theorem ty_agg150 : aggT Try.prog 150 = false := by kernel_rfl
@[go_sem] theorem ty_el150 : elemT Try.prog 150 = none := by kernel_rfl
@[go_sem] theorem ty_ar150 : arrT Try.prog 150 = none := by kernel_rfl
@[go_sem] theorem ty_ze150 : zeroT Try.prog 150 = some [.nilFunc] := by kernel_rfl
@[go_sem] theorem ty_has151 : hasT Try.prog 151 = true := by kernel_rfl
@[go_sem] theorem ty_sz151 : szT Try.prog 151 = 1 := by kernel_rfl
@[go_sem] theorem ty_by151 : Try.prog.bytesOf 151 = 8 := by kernel_rfl
@[go_sem] theorem ty_agg151 : aggT Try.prog 151 = false := by kernel_rfl
@[go_sem] theorem ty_el151 : elemT Try.prog 151 = none := by kernel_rfl
@[go_sem] theorem ty_ar151 : arrT Try.prog 151 = none := by kernel_rfl
@[go_sem] theorem ty_ze151 : zeroT Try.prog 151 = some [.nilFunc] := by kernel_rfl
@[go_sem] theorem ty_has152 : hasT Try.prog 152 = true := by kernel_rfl
@[go_sem] theorem ty_sz152 : szT Try.prog 152 = 5 := by kernel_rfl
@[go_sem] theorem ty_by152 : Try.prog.bytesOf 152 = 40 := by kernel_rfl
@[go_sem] theorem ty_agg152 : aggT Try.prog 152 = true := by kernel_rfl
@[go_sem] theorem ty_el152 : elemT Try.prog 152 = none := by kernel_rfl
@[go_sem] theorem ty_ar152 : arrT Try.prog 152 = none := by kernel_rfl
@[go_sem] theorem ty_ze152 : zeroT Try.prog 152 = some [.int .i64 0, .int .i64 0, .bool false, .int .i64 0, .int .i64 0] := by kernel_rfl
@[go_sem] theorem ty_po152 : partsOk Try.prog 152 = true := by kernel_rfl
@[go_sem] theorem ty_fi152_0 : fieldOf Try.prog 152 0 = some (0, 3) := by kernel_rfl
@[go_sem] theorem ty_pt152_0 : partT Try.prog 152 0 = some (0, 1) := by kernel_rfl
@[go_sem] theorem ty_fi152_1 : fieldOf Try.prog 152 1 = some (1, 3) := by kernel_rfl
@[go_sem] theorem ty_pt152_1 : partT Try.prog 152 1 = some (1, 1) := by kernel_rfl
@[go_sem] theorem ty_fi152_2 : fieldOf Try.prog 152 2 = some (2, 4) := by kernel_rfl
@[go_sem] theorem ty_pt152_2 : partT Try.prog 152 2 = some (2, 1) := by kernel_rfl
@[go_sem] theorem ty_fi152_3 : fieldOf Try.prog 152 3 = some (3, 3) := by kernel_rfl
@[go_sem] theorem ty_pt152_3 : partT Try.prog 152 3 = some (3, 1) := by kernel_rfl
@[go_sem] theorem ty_fi152_4 : fieldOf Try.prog 152 4 = some (4, 3) := by kernel_rfl
@[go_sem] theorem ty_pt152_4 : partT Try.prog 152 4 = some (4, 1) := by kernel_rfl
attribute [go_sem] Try.underlying152 Try.stoodInHeld152 Try.eqGuardType152
@[go_sem] theorem ty_has153 : hasT Try.prog 153 = true := by kernel_rfl
@[go_sem] theorem ty_sz153 : szT Try.prog 153 = 1 := by kernel_rfl
@[go_sem] theorem ty_by153 : Try.prog.bytesOf 153 = 8 := by kernel_rfl
@[go_sem] theorem ty_agg153 : aggT Try.prog 153 = false := by kernel_rfl
@[go_sem] theorem ty_el153 : elemT Try.prog 153 = none := by kernel_rfl
@[go_sem] theorem ty_ar153 : arrT Try.prog 153 = none := by kernel_rfl
@[go_sem] theorem ty_ze153 : zeroT Try.prog 153 = some [.nilFunc] := by kernel_rfl
@[go_sem] theorem ty_has154 : hasT Try.prog 154 = true := by kernel_rfl
@[go_sem] theorem ty_sz154 : szT Try.prog 154 = 1 := by kernel_rfl
@[go_sem] theorem ty_by154 : Try.prog.bytesOf 154 = 8 := by kernel_rfl
@[go_sem] theorem ty_agg154 : aggT Try.prog 154 = false := by kernel_rfl
@[go_sem] theorem ty_el154 : elemT Try.prog 154 = none := by kernel_rfl
@[go_sem] theorem ty_ar154 : arrT Try.prog 154 = none := by kernel_rfl
@[go_sem] theorem ty_ze154 : zeroT Try.prog 154 = some [.nilFunc] := by kernel_rfl
@[go_sem] theorem ty_has155 : hasT Try.prog 155 = true := by kernel_rfl
@[go_sem] theorem ty_sz155 : szT Try.prog 155 = 1 := by kernel_rfl
@[go_sem] theorem ty_by155 : Try.prog.bytesOf 155 = 8 := by kernel_rfl
@[go_sem] theorem ty_agg155 : aggT Try.prog 155 = false := by kernel_rfl
@[go_sem] theorem ty_el155 : elemT Try.prog 155 = none := by kernel_rfl
@[go_sem] theorem ty_ar155 : arrT Try.prog 155 = none := by kernel_rfl
@[go_sem] theorem ty_ze155 : zeroT Try.prog 155 = some [.nilFunc] := by kernel_rfl
@[go_sem] theorem ty_has156 : hasT Try.prog 156 = true := by kernel_rfl
@[go_sem] theorem ty_sz156 : szT Try.prog 156 = 1 := by kernel_rfl
@[go_sem] theorem ty_by156 : Try.prog.bytesOf 156 = 8 := by kernel_rfl
@[go_sem] theorem ty_agg156 : aggT Try.prog 156 = false := by kernel_rfl
@[go_sem] theorem ty_el156 : elemT Try.prog 156 = none := by kernel_rfl
@[go_sem] theorem ty_ar156 : arrT Try.prog 156 = none := by kernel_rfl
@[go_sem] theorem ty_ze156 : zeroT Try.prog 156 = some [.nilFunc] := by kernel_rfl
@[go_sem] theorem ty_has157 : hasT Try.prog 157 = true := by kernel_rfl
@[go_sem] theorem ty_sz157 : szT Try.prog 157 = 1 := by kernel_rfl
@[go_sem] theorem ty_by157 : Try.prog.bytesOf 157 = 8 := by kernel_rfl
@[go_sem] theorem ty_agg157 : aggT Try.prog 157 = false := by kernel_rfl
@[go_sem] theorem ty_el157 : elemT Try.prog 157 = none := by kernel_rfl
@[go_sem] theorem ty_ar157 : arrT Try.prog 157 = none := by kernel_rfl
@[go_sem] theorem ty_ze157 : zeroT Try.prog 157 = some [.nilFunc] := by kernel_rfl
@[go_sem] theorem ty_has159 : hasT Try.prog 159 = true := by kernel_rfl
@[go_sem] theorem ty_sz159 : szT Try.prog 159 = 1 := by kernel_rfl
@[go_sem] theorem ty_by159 : Try.prog.bytesOf 159 = 8 := by kernel_rfl
@[go_sem] theorem ty_agg159 : aggT Try.prog 159 = false := by kernel_rfl
@[go_sem] theorem ty_el159 : elemT Try.prog 159 = none := by kernel_rfl
@[go_sem] theorem ty_ar159 : arrT Try.prog 159 = none := by kernel_rfl
@[go_sem] theorem ty_ze159 : zeroT Try.prog 159 = some [.nilFunc] := by kernel_rfl
@[go_sem] theorem ty_has160 : hasT Try.prog 160 = true := by kernel_rfl
@[go_sem] theorem ty_sz160 : szT Try.prog 160 = 1 := by kernel_rfl
@[go_sem] theorem ty_by160 : Try.prog.bytesOf 160 = 8 := by kernel_rfl
@[go_sem] theorem ty_agg160 : aggT Try.prog 160 = false := by kernel_rfl
@[go_sem] theorem ty_el160 : elemT Try.prog 160 = none := by kernel_rfl
@[go_sem] theorem ty_ar160 : arrT Try.prog 160 = none := by kernel_rfl
@[go_sem] theorem ty_ze160 : zeroT Try.prog 160 = some [.nilFunc] := by kernel_rfl
@[go_sem] theorem ty_has161 : hasT Try.prog 161 = true := by kernel_rfl
@[go_sem] theorem ty_sz161 : szT Try.prog 161 = 1 := by kernel_rfl
@[go_sem] theorem ty_by161 : Try.prog.bytesOf 161 = 8 := by kernel_rfl
@[go_sem] theorem ty_agg161 : aggT Try.prog 161 = false := by kernel_rfl
@[go_sem] theorem ty_el161 : elemT Try.prog 161 = none := by kernel_rfl
@[go_sem] theorem ty_ar161 : arrT Try.prog 161 = none := by kernel_rfl
@[go_sem] theorem ty_ze161 : zeroT Try.prog 161 = some [.nilFunc] := by kernel_rfl
@[go_sem] theorem ty_has162 : hasT Try.prog 162 = true := by kernel_rfl
@[go_sem] theorem ty_sz162 : szT Try.prog 162 = 1 := by kernel_rfl
@[go_sem] theorem ty_by162 : Try.prog.bytesOf 162 = 8 := by kernel_rfl
@[go_sem] theorem ty_agg162 : aggT Try.prog 162 = false := by kernel_rfl
@[go_sem] theorem ty_el162 : elemT Try.prog 162 = none := by kernel_rfl
@[go_sem] theorem ty_ar162 : arrT Try.prog 162 = none := by kernel_rfl
@[go_sem] theorem ty_ze162 : zeroT Try.prog 162 = some [.nilFunc] := by kernel_rfl
@[go_sem] theorem ty_has163 : hasT Try.prog 163 = true := by kernel_rfl
@[go_sem] theorem ty_sz163 : szT Try.prog 163 = 1 := by kernel_rfl
@[go_sem] theorem ty_by163 : Try.prog.bytesOf 163 = 8 := by kernel_rfl
@[go_sem] theorem ty_agg163 : aggT Try.prog 163 = false := by kernel_rfl
@[go_sem] theorem ty_el163 : elemT Try.prog 163 = none := by kernel_rfl
@[go_sem] theorem ty_ar163 : arrT Try.prog 163 = none := by kernel_rfl
@[go_sem] theorem ty_ze163 : zeroT Try.prog 163 = some [.nilFunc] := by kernel_rfl
@[go_sem] theorem ty_has164 : hasT Try.prog 164 = true := by kernel_rfl
@[go_sem] theorem ty_sz164 : szT Try.prog 164 = 1 := by kernel_rfl
@[go_sem] theorem ty_by164 : Try.prog.bytesOf 164 = 8 := by kernel_rfl
@[go_sem] theorem ty_agg164 : aggT Try.prog 164 = false := by kernel_rfl
@[go_sem] theorem ty_el164 : elemT Try.prog 164 = none := by kernel_rfl
@[go_sem] theorem ty_ar164 : arrT Try.prog 164 = none := by kernel_rfl
@[go_sem] theorem ty_ze164 : zeroT Try.prog 164 = some [.nilFunc] := by kernel_rfl
@[go_sem] theorem ty_has165 : hasT Try.prog 165 = true := by kernel_rfl
@[go_sem] theorem ty_sz165 : szT Try.prog 165 = 1 := by kernel_rfl
@[go_sem] theorem ty_by165 : Try.prog.bytesOf 165 = 8 := by kernel_rfl
@[go_sem] theorem ty_agg165 : aggT Try.prog 165 = false := by kernel_rfl
@[go_sem] theorem ty_el165 : elemT Try.prog 165 = none := by kernel_rfl
@[go_sem] theorem ty_ar165 : arrT Try.prog 165 = none := by kernel_rfl
@[go_sem] theorem ty_ze165 : zeroT Try.prog 165 = some [.nilFunc] := by kernel_rfl
@[go_sem] theorem ty_has166 : hasT Try.prog 166 = true := by kernel_rfl
@[go_sem] theorem ty_sz166 : szT Try.prog 166 = 1 := by kernel_rfl
@[go_sem] theorem ty_by166 : Try.prog.bytesOf 166 = 8 := by kernel_rfl
@[go_sem] theorem ty_agg166 : aggT Try.prog 166 = false := by kernel_rfl
@[go_sem] theorem ty_el166 : elemT Try.prog 166 = none := by kernel_rfl
@[go_sem] theorem ty_ar166 : arrT Try.prog 166 = none := by kernel_rfl
@[go_sem] theorem ty_ze166 : zeroT Try.prog 166 = some [.nilFunc] := by kernel_rfl
@[go_sem] theorem ty_has167 : hasT Try.prog 167 = true := by kernel_rfl
@[go_sem] theorem ty_sz167 : szT Try.prog 167 = 1 := by kernel_rfl
@[go_sem] theorem ty_by167 : Try.prog.bytesOf 167 = 8 := by kernel_rfl
@[go_sem] theorem ty_agg167 : aggT Try.prog 167 = false := by kernel_rfl
@[go_sem] theorem ty_el167 : elemT Try.prog 167 = none := by kernel_rfl
@[go_sem] theorem ty_ar167 : arrT Try.prog 167 = none := by kernel_rfl
@[go_sem] theorem ty_ze167 : zeroT Try.prog 167 = some [.nilFunc] := by kernel_rfl
@[go_sem] theorem ty_has168 : hasT Try.prog 168 = true := by kernel_rfl
@[go_sem] theorem ty_sz168 : szT Try.prog 168 = 1 := by kernel_rfl
@[go_sem] theorem ty_by168 : Try.prog.bytesOf 168 = 8 := by kernel_rfl
@[go_sem] theorem ty_agg168 : aggT Try.prog 168 = false := by kernel_rfl
@[go_sem] theorem ty_el168 : elemT Try.prog 168 = none := by kernel_rfl
@[go_sem] theorem ty_ar168 : arrT Try.prog 168 = none := by kernel_rfl
@[go_sem] theorem ty_ze168 : zeroT Try.prog 168 = some [.nilFunc] := by kernel_rfl
@[go_sem] theorem ty_has169 : hasT Try.prog 169 = true := by kernel_rfl
@[go_sem] theorem ty_sz169 : szT Try.prog 169 = 1 := by kernel_rfl
@[go_sem] theorem ty_by169 : Try.prog.bytesOf 169 = 8 := by kernel_rfl
@[go_sem] theorem ty_agg169 : aggT Try.prog 169 = false := by kernel_rfl
@[go_sem] theorem ty_el169 : elemT Try.prog 169 = none := by kernel_rfl
@[go_sem] theorem ty_ar169 : arrT Try.prog 169 = none := by kernel_rfl
@[go_sem] theorem ty_ze169 : zeroT Try.prog 169 = some [.nilFunc] := by kernel_rfl
@[go_sem] theorem ty_has170 : hasT Try.prog 170 = true := by kernel_rfl
@[go_sem] theorem ty_sz170 : szT Try.prog 170 = 1 := by kernel_rfl
@[go_sem] theorem ty_by170 : Try.prog.bytesOf 170 = 8 := by kernel_rfl
@[go_sem] theorem ty_agg170 : aggT Try.prog 170 = false := by kernel_rfl
@[go_sem] theorem ty_el170 : elemT Try.prog 170 = none := by kernel_rfl
@[go_sem] theorem ty_ar170 : arrT Try.prog 170 = none := by kernel_rfl
@[go_sem] theorem ty_ze170 : zeroT Try.prog 170 = some [.nilFunc] := by kernel_rfl
@[go_sem] theorem ty_has171 : hasT Try.prog 171 = true := by kernel_rfl
@[go_sem] theorem ty_sz171 : szT Try.prog 171 = 1 := by kernel_rfl
@[go_sem] theorem ty_by171 : Try.prog.bytesOf 171 = 8 := by kernel_rfl
@[go_sem] theorem ty_agg171 : aggT Try.prog 171 = false := by kernel_rfl
@[go_sem] theorem ty_el171 : elemT Try.prog 171 = none := by kernel_rfl
@[go_sem] theorem ty_ar171 : arrT Try.prog 171 = none := by kernel_rfl
@[go_sem] theorem ty_ze171 : zeroT Try.prog 171 = some [.nilFunc] := by kernel_rfl
@[go_sem] theorem ty_has172 : hasT Try.prog 172 = true := by kernel_rfl
@[go_sem] theorem ty_sz172 : szT Try.prog 172 = 1 := by kernel_rfl
@[go_sem] theorem ty_by172 : Try.prog.bytesOf 172 = 8 := by kernel_rfl
@[go_sem] theorem ty_agg172 : aggT Try.prog 172 = false := by kernel_rfl
@[go_sem] theorem ty_el172 : elemT Try.prog 172 = none := by kernel_rfl
@[go_sem] theorem ty_ar172 : arrT Try.prog 172 = none := by kernel_rfl
@[go_sem] theorem ty_ze172 : zeroT Try.prog 172 = some [.nilFunc] := by kernel_rfl
@[go_sem] theorem ty_has173 : hasT Try.prog 173 = true := by kernel_rfl
@[go_sem] theorem ty_sz173 : szT Try.prog 173 = 1 := by kernel_rfl
@[go_sem] theorem ty_by173 : Try.prog.bytesOf 173 = 8 := by kernel_rfl
@[go_sem] theorem ty_agg173 : aggT Try.prog 173 = false := by kernel_rfl
@[go_sem] theorem ty_el173 : elemT Try.prog 173 = none := by kernel_rfl
@[go_sem] theorem ty_ar173 : arrT Try.prog 173 = none := by kernel_rfl
@[go_sem] theorem ty_ze173 : zeroT Try.prog 173 = some [.nilFunc] := by kernel_rfl
@[go_sem] theorem ty_has174 : hasT Try.prog 174 = true := by kernel_rfl
@[go_sem] theorem ty_sz174 : szT Try.prog 174 = 1 := by kernel_rfl
@[go_sem] theorem ty_by174 : Try.prog.bytesOf 174 = 8 := by kernel_rfl
@[go_sem] theorem ty_agg174 : aggT Try.prog 174 = false := by kernel_rfl
@[go_sem] theorem ty_el174 : elemT Try.prog 174 = none := by kernel_rfl
@[go_sem] theorem ty_ar174 : arrT Try.prog 174 = none := by kernel_rfl
@[go_sem] theorem ty_ze174 : zeroT Try.prog 174 = some [.nilFunc] := by kernel_rfl
@[go_sem] theorem ty_has175 : hasT Try.prog 175 = true := by kernel_rfl
@[go_sem] theorem ty_sz175 : szT Try.prog 175 = 1 := by kernel_rfl
@[go_sem] theorem ty_by175 : Try.prog.bytesOf 175 = 8 := by kernel_rfl
@[go_sem] theorem ty_agg175 : aggT Try.prog 175 = false := by kernel_rfl
@[go_sem] theorem ty_el175 : elemT Try.prog 175 = none := by kernel_rfl
@[go_sem] theorem ty_ar175 : arrT Try.prog 175 = none := by kernel_rfl
@[go_sem] theorem ty_ze175 : zeroT Try.prog 175 = some [.nilFunc] := by kernel_rfl
@[go_sem] theorem ty_has176 : hasT Try.prog 176 = true := by kernel_rfl
@[go_sem] theorem ty_sz176 : szT Try.prog 176 = 1 := by kernel_rfl
@[go_sem] theorem ty_by176 : Try.prog.bytesOf 176 = 8 := by kernel_rfl
@[go_sem] theorem ty_agg176 : aggT Try.prog 176 = false := by kernel_rfl
@[go_sem] theorem ty_el176 : elemT Try.prog 176 = none := by kernel_rfl
@[go_sem] theorem ty_ar176 : arrT Try.prog 176 = none := by kernel_rfl
@[go_sem] theorem ty_ze176 : zeroT Try.prog 176 = some [.nilFunc] := by kernel_rfl
@[go_sem] theorem ty_has177 : hasT Try.prog 177 = true := by kernel_rfl
@[go_sem] theorem ty_sz177 : szT Try.prog 177 = 1 := by kernel_rfl
@[go_sem] theorem ty_by177 : Try.prog.bytesOf 177 = 8 := by kernel_rfl
@[go_sem] theorem ty_agg177 : aggT Try.prog 177 = false := by kernel_rfl
@[go_sem] theorem ty_el177 : elemT Try.prog 177 = none := by kernel_rfl
@[go_sem] theorem ty_ar177 : arrT Try.prog 177 = none := by kernel_rfl
@[go_sem] theorem ty_ze177 : zeroT Try.prog 177 = some [.nilFunc] := by kernel_rfl
@[go_sem] theorem ty_has178 : hasT Try.prog 178 = true := by kernel_rfl
@[go_sem] theorem ty_sz178 : szT Try.prog 178 = 3 := by kernel_rfl
@[go_sem] theorem ty_by178 : Try.prog.bytesOf 178 = 40 := by kernel_rfl
@[go_sem] theorem ty_agg178 : aggT Try.prog 178 = true := by kernel_rfl
@[go_sem] theorem ty_el178 : elemT Try.prog 178 = none := by kernel_rfl
@[go_sem] theorem ty_ar178 : arrT Try.prog 178 = none := by kernel_rfl
@[go_sem] theorem ty_ze178 : zeroT Try.prog 178 = some [.int .i64 0, .int .i64 0, .slice none 0 0] := by kernel_rfl
@[go_sem] theorem ty_po178 : partsOk Try.prog 178 = true := by kernel_rfl
@[go_sem] theorem ty_fi178_0 : fieldOf Try.prog 178 0 = some (0, 3) := by kernel_rfl
@[go_sem] theorem ty_pt178_0 : partT Try.prog 178 0 = some (0, 1) := by kernel_rfl
@[go_sem] theorem ty_fi178_1 : fieldOf Try.prog 178 1 = some (1, 3) := by kernel_rfl
@[go_sem] theorem ty_pt178_1 : partT Try.prog 178 1 = some (1, 1) := by kernel_rfl
@[go_sem] theorem ty_fi178_2 : fieldOf Try.prog 178 2 = some (2, 22) := by kernel_rfl
@[go_sem] theorem ty_pt178_2 : partT Try.prog 178 2 = some (2, 1) := by kernel_rfl
attribute [go_sem] Try.underlying178 Try.stoodInHeld178 Try.eqGuardType178
@[go_sem] theorem ty_has179 : hasT Try.prog 179 = true := by kernel_rfl
@[go_sem] theorem ty_sz179 : szT Try.prog 179 = 3 := by kernel_rfl
@[go_sem] theorem ty_by179 : Try.prog.bytesOf 179 = 40 := by kernel_rfl
@[go_sem] theorem ty_agg179 : aggT Try.prog 179 = true := by kernel_rfl
@[go_sem] theorem ty_el179 : elemT Try.prog 179 = none := by kernel_rfl
@[go_sem] theorem ty_ar179 : arrT Try.prog 179 = none := by kernel_rfl
@[go_sem] theorem ty_ze179 : zeroT Try.prog 179 = some [.int .i64 0, .int .i64 0, .slice none 0 0] := by kernel_rfl
@[go_sem] theorem ty_po179 : partsOk Try.prog 179 = true := by kernel_rfl
@[go_sem] theorem ty_fi179_0 : fieldOf Try.prog 179 0 = some (0, 3) := by kernel_rfl
@[go_sem] theorem ty_pt179_0 : partT Try.prog 179 0 = some (0, 1) := by kernel_rfl
@[go_sem] theorem ty_fi179_1 : fieldOf Try.prog 179 1 = some (1, 3) := by kernel_rfl
@[go_sem] theorem ty_pt179_1 : partT Try.prog 179 1 = some (1, 1) := by kernel_rfl
@[go_sem] theorem ty_fi179_2 : fieldOf Try.prog 179 2 = some (2, 22) := by kernel_rfl
@[go_sem] theorem ty_pt179_2 : partT Try.prog 179 2 = some (2, 1) := by kernel_rfl
attribute [go_sem] Try.underlying179 Try.stoodInHeld179 Try.eqGuardType179
@[go_sem] theorem ty_has180 : hasT Try.prog 180 = true := by kernel_rfl
@[go_sem] theorem ty_sz180 : szT Try.prog 180 = 1 := by kernel_rfl
@[go_sem] theorem ty_by180 : Try.prog.bytesOf 180 = 8 := by kernel_rfl
@[go_sem] theorem ty_agg180 : aggT Try.prog 180 = false := by kernel_rfl
@[go_sem] theorem ty_el180 : elemT Try.prog 180 = none := by kernel_rfl
@[go_sem] theorem ty_ar180 : arrT Try.prog 180 = none := by kernel_rfl
@[go_sem] theorem ty_ze180 : zeroT Try.prog 180 = some [.nilFunc] := by kernel_rfl
@[go_sem] theorem ty_has181 : hasT Try.prog 181 = true := by kernel_rfl
@[go_sem] theorem ty_sz181 : szT Try.prog 181 = 1 := by kernel_rfl
@[go_sem] theorem ty_by181 : Try.prog.bytesOf 181 = 8 := by kernel_rfl
@[go_sem] theorem ty_agg181 : aggT Try.prog 181 = false := by kernel_rfl
@[go_sem] theorem ty_el181 : elemT Try.prog 181 = none := by kernel_rfl
@[go_sem] theorem ty_ar181 : arrT Try.prog 181 = none := by kernel_rfl
@[go_sem] theorem ty_ze181 : zeroT Try.prog 181 = some [.nilFunc] := by kernel_rfl
@[go_sem] theorem ty_has182 : hasT Try.prog 182 = true := by kernel_rfl
@[go_sem] theorem ty_sz182 : szT Try.prog 182 = 1 := by kernel_rfl
@[go_sem] theorem ty_by182 : Try.prog.bytesOf 182 = 8 := by kernel_rfl
@[go_sem] theorem ty_agg182 : aggT Try.prog 182 = false := by kernel_rfl
@[go_sem] theorem ty_el182 : elemT Try.prog 182 = none := by kernel_rfl
@[go_sem] theorem ty_ar182 : arrT Try.prog 182 = none := by kernel_rfl
@[go_sem] theorem ty_ze182 : zeroT Try.prog 182 = some [.nilFunc] := by kernel_rfl
@[go_sem] theorem ty_has183 : hasT Try.prog 183 = true := by kernel_rfl
@[go_sem] theorem ty_sz183 : szT Try.prog 183 = 2 := by kernel_rfl
@[go_sem] theorem ty_by183 : Try.prog.bytesOf 183 = 24 := by kernel_rfl
@[go_sem] theorem ty_agg183 : aggT Try.prog 183 = true := by kernel_rfl
@[go_sem] theorem ty_el183 : elemT Try.prog 183 = none := by kernel_rfl
@[go_sem] theorem ty_ar183 : arrT Try.prog 183 = none := by kernel_rfl
@[go_sem] theorem ty_ze183 : zeroT Try.prog 183 = some [.string ByteArray.empty, .bool false] := by kernel_rfl
@[go_sem] theorem ty_po183 : partsOk Try.prog 183 = true := by kernel_rfl
@[go_sem] theorem ty_fi183_0 : fieldOf Try.prog 183 0 = some (0, 9) := by kernel_rfl
@[go_sem] theorem ty_pt183_0 : partT Try.prog 183 0 = some (0, 1) := by kernel_rfl
@[go_sem] theorem ty_fi183_1 : fieldOf Try.prog 183 1 = some (1, 4) := by kernel_rfl
@[go_sem] theorem ty_pt183_1 : partT Try.prog 183 1 = some (1, 1) := by kernel_rfl
attribute [go_sem] Try.underlying183 Try.stoodInHeld183 Try.eqGuardType183
@[go_sem] theorem ty_has184 : hasT Try.prog 184 = true := by kernel_rfl
@[go_sem] theorem ty_sz184 : szT Try.prog 184 = 2 := by kernel_rfl
@[go_sem] theorem ty_by184 : Try.prog.bytesOf 184 = 24 := by kernel_rfl
@[go_sem] theorem ty_agg184 : aggT Try.prog 184 = true := by kernel_rfl
@[go_sem] theorem ty_el184 : elemT Try.prog 184 = none := by kernel_rfl
@[go_sem] theorem ty_ar184 : arrT Try.prog 184 = none := by kernel_rfl
@[go_sem] theorem ty_ze184 : zeroT Try.prog 184 = some [.string ByteArray.empty, .bool false] := by kernel_rfl
@[go_sem] theorem ty_po184 : partsOk Try.prog 184 = true := by kernel_rfl
@[go_sem] theorem ty_fi184_0 : fieldOf Try.prog 184 0 = some (0, 9) := by kernel_rfl
@[go_sem] theorem ty_pt184_0 : partT Try.prog 184 0 = some (0, 1) := by kernel_rfl
@[go_sem] theorem ty_fi184_1 : fieldOf Try.prog 184 1 = some (1, 4) := by kernel_rfl
@[go_sem] theorem ty_pt184_1 : partT Try.prog 184 1 = some (1, 1) := by kernel_rfl
attribute [go_sem] Try.underlying184 Try.stoodInHeld184 Try.eqGuardType184
@[go_sem] theorem ty_has185 : hasT Try.prog 185 = true := by kernel_rfl
@[go_sem] theorem ty_sz185 : szT Try.prog 185 = 1 := by kernel_rfl
@[go_sem] theorem ty_by185 : Try.prog.bytesOf 185 = 8 := by kernel_rfl
@[go_sem] theorem ty_agg185 : aggT Try.prog 185 = false := by kernel_rfl
@[go_sem] theorem ty_el185 : elemT Try.prog 185 = none := by kernel_rfl
@[go_sem] theorem ty_ar185 : arrT Try.prog 185 = none := by kernel_rfl
@[go_sem] theorem ty_ze185 : zeroT Try.prog 185 = some [.nilFunc] := by kernel_rfl
@[go_sem] theorem ty_has186 : hasT Try.prog 186 = true := by kernel_rfl
@[go_sem] theorem ty_sz186 : szT Try.prog 186 = 5 := by kernel_rfl
@[go_sem] theorem ty_by186 : Try.prog.bytesOf 186 = 40 := by kernel_rfl
@[go_sem] theorem ty_agg186 : aggT Try.prog 186 = true := by kernel_rfl
@[go_sem] theorem ty_el186 : elemT Try.prog 186 = none := by kernel_rfl
@[go_sem] theorem ty_ar186 : arrT Try.prog 186 = none := by kernel_rfl
@[go_sem] theorem ty_ze186 : zeroT Try.prog 186 = some [.int .i64 0, .int .i64 0, .int .i64 0, .int .i64 0, .bool false] := by kernel_rfl
@[go_sem] theorem ty_po186 : partsOk Try.prog 186 = true := by kernel_rfl
@[go_sem] theorem ty_fi186_0 : fieldOf Try.prog 186 0 = some (0, 3) := by kernel_rfl
@[go_sem] theorem ty_pt186_0 : partT Try.prog 186 0 = some (0, 1) := by kernel_rfl
@[go_sem] theorem ty_fi186_1 : fieldOf Try.prog 186 1 = some (1, 3) := by kernel_rfl
@[go_sem] theorem ty_pt186_1 : partT Try.prog 186 1 = some (1, 1) := by kernel_rfl
@[go_sem] theorem ty_fi186_2 : fieldOf Try.prog 186 2 = some (2, 3) := by kernel_rfl
@[go_sem] theorem ty_pt186_2 : partT Try.prog 186 2 = some (2, 1) := by kernel_rfl
@[go_sem] theorem ty_fi186_3 : fieldOf Try.prog 186 3 = some (3, 3) := by kernel_rfl
@[go_sem] theorem ty_pt186_3 : partT Try.prog 186 3 = some (3, 1) := by kernel_rfl
@[go_sem] theorem ty_fi186_4 : fieldOf Try.prog 186 4 = some (4, 4) := by kernel_rfl
@[go_sem] theorem ty_pt186_4 : partT Try.prog 186 4 = some (4, 1) := by kernel_rfl
attribute [go_sem] Try.underlying186 Try.stoodInHeld186 Try.eqGuardType186
@[go_sem] theorem ty_has187 : hasT Try.prog 187 = true := by kernel_rfl
@[go_sem] theorem ty_sz187 : szT Try.prog 187 = 5 := by kernel_rfl
@[go_sem] theorem ty_by187 : Try.prog.bytesOf 187 = 40 := by kernel_rfl
@[go_sem] theorem ty_agg187 : aggT Try.prog 187 = true := by kernel_rfl
@[go_sem] theorem ty_el187 : elemT Try.prog 187 = none := by kernel_rfl
@[go_sem] theorem ty_ar187 : arrT Try.prog 187 = none := by kernel_rfl
@[go_sem] theorem ty_ze187 : zeroT Try.prog 187 = some [.int .i64 0, .int .i64 0, .int .i64 0, .int .i64 0, .bool false] := by kernel_rfl
@[go_sem] theorem ty_po187 : partsOk Try.prog 187 = true := by kernel_rfl
@[go_sem] theorem ty_fi187_0 : fieldOf Try.prog 187 0 = some (0, 3) := by kernel_rfl
@[go_sem] theorem ty_pt187_0 : partT Try.prog 187 0 = some (0, 1) := by kernel_rfl
@[go_sem] theorem ty_fi187_1 : fieldOf Try.prog 187 1 = some (1, 3) := by kernel_rfl
@[go_sem] theorem ty_pt187_1 : partT Try.prog 187 1 = some (1, 1) := by kernel_rfl
@[go_sem] theorem ty_fi187_2 : fieldOf Try.prog 187 2 = some (2, 3) := by kernel_rfl
@[go_sem] theorem ty_pt187_2 : partT Try.prog 187 2 = some (2, 1) := by kernel_rfl
@[go_sem] theorem ty_fi187_3 : fieldOf Try.prog 187 3 = some (3, 3) := by kernel_rfl
@[go_sem] theorem ty_pt187_3 : partT Try.prog 187 3 = some (3, 1) := by kernel_rfl
@[go_sem] theorem ty_fi187_4 : fieldOf Try.prog 187 4 = some (4, 4) := by kernel_rfl
@[go_sem] theorem ty_pt187_4 : partT Try.prog 187 4 = some (4, 1) := by kernel_rfl
attribute [go_sem] Try.underlying187 Try.stoodInHeld187 Try.eqGuardType187
@[go_sem] theorem ty_has188 : hasT Try.prog 188 = true := by kernel_rfl
@[go_sem] theorem ty_sz188 : szT Try.prog 188 = 2 := by kernel_rfl
@[go_sem] theorem ty_by188 : Try.prog.bytesOf 188 = 24 := by kernel_rfl
@[go_sem] theorem ty_agg188 : aggT Try.prog 188 = true := by kernel_rfl
@[go_sem] theorem ty_el188 : elemT Try.prog 188 = none := by kernel_rfl
@[go_sem] theorem ty_ar188 : arrT Try.prog 188 = none := by kernel_rfl
@[go_sem] theorem ty_ze188 : zeroT Try.prog 188 = some [.string ByteArray.empty, .bool false] := by kernel_rfl
@[go_sem] theorem ty_po188 : partsOk Try.prog 188 = true := by kernel_rfl
@[go_sem] theorem ty_fi188_0 : fieldOf Try.prog 188 0 = some (0, 9) := by kernel_rfl
@[go_sem] theorem ty_pt188_0 : partT Try.prog 188 0 = some (0, 1) := by kernel_rfl
@[go_sem] theorem ty_fi188_1 : fieldOf Try.prog 188 1 = some (1, 4) := by kernel_rfl
@[go_sem] theorem ty_pt188_1 : partT Try.prog 188 1 = some (1, 1) := by kernel_rfl
attribute [go_sem] Try.underlying188 Try.stoodInHeld188 Try.eqGuardType188
@[go_sem] theorem ty_has189 : hasT Try.prog 189 = true := by kernel_rfl
@[go_sem] theorem ty_sz189 : szT Try.prog 189 = 1 := by kernel_rfl
@[go_sem] theorem ty_by189 : Try.prog.bytesOf 189 = 8 := by kernel_rfl
@[go_sem] theorem ty_agg189 : aggT Try.prog 189 = false := by kernel_rfl
@[go_sem] theorem ty_el189 : elemT Try.prog 189 = none := by kernel_rfl
@[go_sem] theorem ty_ar189 : arrT Try.prog 189 = none := by kernel_rfl
@[go_sem] theorem ty_ze189 : zeroT Try.prog 189 = some [.nilFunc] := by kernel_rfl
@[go_sem] theorem ty_has190 : hasT Try.prog 190 = true := by kernel_rfl
@[go_sem] theorem ty_sz190 : szT Try.prog 190 = 1 := by kernel_rfl
@[go_sem] theorem ty_by190 : Try.prog.bytesOf 190 = 8 := by kernel_rfl
@[go_sem] theorem ty_agg190 : aggT Try.prog 190 = false := by kernel_rfl
@[go_sem] theorem ty_el190 : elemT Try.prog 190 = none := by kernel_rfl
@[go_sem] theorem ty_ar190 : arrT Try.prog 190 = none := by kernel_rfl
@[go_sem] theorem ty_ze190 : zeroT Try.prog 190 = some [.nilFunc] := by kernel_rfl
@[go_sem] theorem ty_has191 : hasT Try.prog 191 = true := by kernel_rfl
@[go_sem] theorem ty_sz191 : szT Try.prog 191 = 5 := by kernel_rfl
@[go_sem] theorem ty_by191 : Try.prog.bytesOf 191 = 40 := by kernel_rfl
@[go_sem] theorem ty_agg191 : aggT Try.prog 191 = true := by kernel_rfl
@[go_sem] theorem ty_el191 : elemT Try.prog 191 = none := by kernel_rfl
@[go_sem] theorem ty_ar191 : arrT Try.prog 191 = none := by kernel_rfl
@[go_sem] theorem ty_ze191 : zeroT Try.prog 191 = some [.int .i64 0, .int .i64 0, .int .i64 0, .int .i64 0, .bool false] := by kernel_rfl
@[go_sem] theorem ty_po191 : partsOk Try.prog 191 = true := by kernel_rfl
@[go_sem] theorem ty_fi191_0 : fieldOf Try.prog 191 0 = some (0, 3) := by kernel_rfl
@[go_sem] theorem ty_pt191_0 : partT Try.prog 191 0 = some (0, 1) := by kernel_rfl
@[go_sem] theorem ty_fi191_1 : fieldOf Try.prog 191 1 = some (1, 3) := by kernel_rfl
@[go_sem] theorem ty_pt191_1 : partT Try.prog 191 1 = some (1, 1) := by kernel_rfl
@[go_sem] theorem ty_fi191_2 : fieldOf Try.prog 191 2 = some (2, 3) := by kernel_rfl
@[go_sem] theorem ty_pt191_2 : partT Try.prog 191 2 = some (2, 1) := by kernel_rfl
@[go_sem] theorem ty_fi191_3 : fieldOf Try.prog 191 3 = some (3, 3) := by kernel_rfl
@[go_sem] theorem ty_pt191_3 : partT Try.prog 191 3 = some (3, 1) := by kernel_rfl
@[go_sem] theorem ty_fi191_4 : fieldOf Try.prog 191 4 = some (4, 4) := by kernel_rfl
@[go_sem] theorem ty_pt191_4 : partT Try.prog 191 4 = some (4, 1) := by kernel_rfl
attribute [go_sem] Try.underlying191 Try.stoodInHeld191 Try.eqGuardType191
@[go_sem] theorem ty_has192 : hasT Try.prog 192 = true := by kernel_rfl
@[go_sem] theorem ty_sz192 : szT Try.prog 192 = 1 := by kernel_rfl
@[go_sem] theorem ty_by192 : Try.prog.bytesOf 192 = 8 := by kernel_rfl
@[go_sem] theorem ty_agg192 : aggT Try.prog 192 = false := by kernel_rfl
@[go_sem] theorem ty_el192 : elemT Try.prog 192 = none := by kernel_rfl
@[go_sem] theorem ty_ar192 : arrT Try.prog 192 = none := by kernel_rfl
@[go_sem] theorem ty_ze192 : zeroT Try.prog 192 = some [.nilFunc] := by kernel_rfl
@[go_sem] theorem ty_has193 : hasT Try.prog 193 = true := by kernel_rfl
@[go_sem] theorem ty_sz193 : szT Try.prog 193 = 1 := by kernel_rfl
@[go_sem] theorem ty_by193 : Try.prog.bytesOf 193 = 8 := by kernel_rfl
@[go_sem] theorem ty_agg193 : aggT Try.prog 193 = false := by kernel_rfl
@[go_sem] theorem ty_el193 : elemT Try.prog 193 = none := by kernel_rfl
@[go_sem] theorem ty_ar193 : arrT Try.prog 193 = none := by kernel_rfl
@[go_sem] theorem ty_ze193 : zeroT Try.prog 193 = some [.nilFunc] := by kernel_rfl
@[go_sem] theorem ty_has194 : hasT Try.prog 194 = true := by kernel_rfl
@[go_sem] theorem ty_sz194 : szT Try.prog 194 = 1 := by kernel_rfl
@[go_sem] theorem ty_by194 : Try.prog.bytesOf 194 = 8 := by kernel_rfl
@[go_sem] theorem ty_agg194 : aggT Try.prog 194 = false := by kernel_rfl
@[go_sem] theorem ty_el194 : elemT Try.prog 194 = none := by kernel_rfl
@[go_sem] theorem ty_ar194 : arrT Try.prog 194 = none := by kernel_rfl
@[go_sem] theorem ty_ze194 : zeroT Try.prog 194 = some [.nilFunc] := by kernel_rfl
@[go_sem] theorem ty_has195 : hasT Try.prog 195 = true := by kernel_rfl
@[go_sem] theorem ty_sz195 : szT Try.prog 195 = 1 := by kernel_rfl
@[go_sem] theorem ty_by195 : Try.prog.bytesOf 195 = 8 := by kernel_rfl
@[go_sem] theorem ty_agg195 : aggT Try.prog 195 = false := by kernel_rfl
@[go_sem] theorem ty_el195 : elemT Try.prog 195 = none := by kernel_rfl
@[go_sem] theorem ty_ar195 : arrT Try.prog 195 = none := by kernel_rfl
@[go_sem] theorem ty_ze195 : zeroT Try.prog 195 = some [.nilFunc] := by kernel_rfl
@[go_sem] theorem ty_has196 : hasT Try.prog 196 = true := by kernel_rfl
@[go_sem] theorem ty_sz196 : szT Try.prog 196 = 1 := by kernel_rfl
@[go_sem] theorem ty_by196 : Try.prog.bytesOf 196 = 24 := by kernel_rfl
@[go_sem] theorem ty_agg196 : aggT Try.prog 196 = false := by kernel_rfl
@[go_sem] theorem ty_el196 : elemT Try.prog 196 = some 5 := by kernel_rfl
@[go_sem] theorem ty_ar196 : arrT Try.prog 196 = none := by kernel_rfl
@[go_sem] theorem ty_ze196 : zeroT Try.prog 196 = some [.slice none 0 0] := by kernel_rfl
@[go_sem] theorem ty_has197 : hasT Try.prog 197 = true := by kernel_rfl
@[go_sem] theorem ty_sz197 : szT Try.prog 197 = 1 := by kernel_rfl
@[go_sem] theorem ty_by197 : Try.prog.bytesOf 197 = 8 := by kernel_rfl
@[go_sem] theorem ty_agg197 : aggT Try.prog 197 = false := by kernel_rfl
@[go_sem] theorem ty_el197 : elemT Try.prog 197 = none := by kernel_rfl
@[go_sem] theorem ty_ar197 : arrT Try.prog 197 = none := by kernel_rfl
@[go_sem] theorem ty_ze197 : zeroT Try.prog 197 = some [.nilFunc] := by kernel_rfl
@[go_sem] theorem ty_has198 : hasT Try.prog 198 = true := by kernel_rfl
@[go_sem] theorem ty_sz198 : szT Try.prog 198 = 1 := by kernel_rfl
@[go_sem] theorem ty_by198 : Try.prog.bytesOf 198 = 8 := by kernel_rfl
@[go_sem] theorem ty_agg198 : aggT Try.prog 198 = false := by kernel_rfl
@[go_sem] theorem ty_el198 : elemT Try.prog 198 = none := by kernel_rfl
@[go_sem] theorem ty_ar198 : arrT Try.prog 198 = none := by kernel_rfl
@[go_sem] theorem ty_ze198 : zeroT Try.prog 198 = some [.nilFunc] := by kernel_rfl
@[go_sem] theorem ty_has199 : hasT Try.prog 199 = true := by kernel_rfl
@[go_sem] theorem ty_sz199 : szT Try.prog 199 = 1 := by kernel_rfl
@[go_sem] theorem ty_by199 : Try.prog.bytesOf 199 = 8 := by kernel_rfl
@[go_sem] theorem ty_agg199 : aggT Try.prog 199 = false := by kernel_rfl
@[go_sem] theorem ty_el199 : elemT Try.prog 199 = none := by kernel_rfl
@[go_sem] theorem ty_ar199 : arrT Try.prog 199 = none := by kernel_rfl
@[go_sem] theorem ty_ze199 : zeroT Try.prog 199 = some [.nilFunc] := by kernel_rfl
@[go_sem] theorem ty_has200 : hasT Try.prog 200 = true := by kernel_rfl
@[go_sem] theorem ty_sz200 : szT Try.prog 200 = 3 := by kernel_rfl
@[go_sem] theorem ty_by200 : Try.prog.bytesOf 200 = 24 := by kernel_rfl
@[go_sem] theorem ty_agg200 : aggT Try.prog 200 = true := by kernel_rfl
@[go_sem] theorem ty_el200 : elemT Try.prog 200 = none := by kernel_rfl
@[go_sem] theorem ty_ar200 : arrT Try.prog 200 = none := by kernel_rfl
@[go_sem] theorem ty_ze200 : zeroT Try.prog 200 = some [.int .i64 0, .int .i64 0, .int .i64 0] := by kernel_rfl
@[go_sem] theorem ty_po200 : partsOk Try.prog 200 = true := by kernel_rfl
@[go_sem] theorem ty_fi200_0 : fieldOf Try.prog 200 0 = some (0, 3) := by kernel_rfl
@[go_sem] theorem ty_pt200_0 : partT Try.prog 200 0 = some (0, 1) := by kernel_rfl
@[go_sem] theorem ty_fi200_1 : fieldOf Try.prog 200 1 = some (1, 3) := by kernel_rfl
@[go_sem] theorem ty_pt200_1 : partT Try.prog 200 1 = some (1, 1) := by kernel_rfl
@[go_sem] theorem ty_fi200_2 : fieldOf Try.prog 200 2 = some (2, 3) := by kernel_rfl
@[go_sem] theorem ty_pt200_2 : partT Try.prog 200 2 = some (2, 1) := by kernel_rfl
attribute [go_sem] Try.underlying200 Try.stoodInHeld200 Try.eqGuardType200
@[go_sem] theorem ty_has201 : hasT Try.prog 201 = true := by kernel_rfl
@[go_sem] theorem ty_sz201 : szT Try.prog 201 = 3 := by kernel_rfl
@[go_sem] theorem ty_by201 : Try.prog.bytesOf 201 = 24 := by kernel_rfl
@[go_sem] theorem ty_agg201 : aggT Try.prog 201 = true := by kernel_rfl
@[go_sem] theorem ty_el201 : elemT Try.prog 201 = none := by kernel_rfl
@[go_sem] theorem ty_ar201 : arrT Try.prog 201 = none := by kernel_rfl
@[go_sem] theorem ty_ze201 : zeroT Try.prog 201 = some [.int .i64 0, .int .i64 0, .int .i64 0] := by kernel_rfl
@[go_sem] theorem ty_po201 : partsOk Try.prog 201 = true := by kernel_rfl
@[go_sem] theorem ty_fi201_0 : fieldOf Try.prog 201 0 = some (0, 3) := by kernel_rfl
@[go_sem] theorem ty_pt201_0 : partT Try.prog 201 0 = some (0, 1) := by kernel_rfl
@[go_sem] theorem ty_fi201_1 : fieldOf Try.prog 201 1 = some (1, 3) := by kernel_rfl
@[go_sem] theorem ty_pt201_1 : partT Try.prog 201 1 = some (1, 1) := by kernel_rfl
@[go_sem] theorem ty_fi201_2 : fieldOf Try.prog 201 2 = some (2, 3) := by kernel_rfl
@[go_sem] theorem ty_pt201_2 : partT Try.prog 201 2 = some (2, 1) := by kernel_rfl
attribute [go_sem] Try.underlying201 Try.stoodInHeld201 Try.eqGuardType201
@[go_sem] theorem ty_has202 : hasT Try.prog 202 = true := by kernel_rfl
@[go_sem] theorem ty_sz202 : szT Try.prog 202 = 1 := by kernel_rfl
@[go_sem] theorem ty_by202 : Try.prog.bytesOf 202 = 8 := by kernel_rfl
@[go_sem] theorem ty_agg202 : aggT Try.prog 202 = false := by kernel_rfl
@[go_sem] theorem ty_el202 : elemT Try.prog 202 = none := by kernel_rfl
@[go_sem] theorem ty_ar202 : arrT Try.prog 202 = none := by kernel_rfl
@[go_sem] theorem ty_ze202 : zeroT Try.prog 202 = some [.nilFunc] := by kernel_rfl
@[go_sem] theorem ty_has203 : hasT Try.prog 203 = true := by kernel_rfl
@[go_sem] theorem ty_sz203 : szT Try.prog 203 = 1 := by kernel_rfl
@[go_sem] theorem ty_by203 : Try.prog.bytesOf 203 = 8 := by kernel_rfl
@[go_sem] theorem ty_agg203 : aggT Try.prog 203 = false := by kernel_rfl
@[go_sem] theorem ty_el203 : elemT Try.prog 203 = none := by kernel_rfl
@[go_sem] theorem ty_ar203 : arrT Try.prog 203 = none := by kernel_rfl
@[go_sem] theorem ty_ze203 : zeroT Try.prog 203 = some [.nilFunc] := by kernel_rfl
@[go_sem] theorem ty_has204 : hasT Try.prog 204 = true := by kernel_rfl
@[go_sem] theorem ty_sz204 : szT Try.prog 204 = 1 := by kernel_rfl
@[go_sem] theorem ty_by204 : Try.prog.bytesOf 204 = 8 := by kernel_rfl
@[go_sem] theorem ty_agg204 : aggT Try.prog 204 = false := by kernel_rfl
@[go_sem] theorem ty_el204 : elemT Try.prog 204 = none := by kernel_rfl
@[go_sem] theorem ty_ar204 : arrT Try.prog 204 = none := by kernel_rfl
@[go_sem] theorem ty_ze204 : zeroT Try.prog 204 = some [.nilFunc] := by kernel_rfl
@[go_sem] theorem ty_has205 : hasT Try.prog 205 = true := by kernel_rfl
@[go_sem] theorem ty_sz205 : szT Try.prog 205 = 1 := by kernel_rfl
@[go_sem] theorem ty_by205 : Try.prog.bytesOf 205 = 8 := by kernel_rfl
@[go_sem] theorem ty_agg205 : aggT Try.prog 205 = false := by kernel_rfl
@[go_sem] theorem ty_el205 : elemT Try.prog 205 = none := by kernel_rfl
@[go_sem] theorem ty_ar205 : arrT Try.prog 205 = none := by kernel_rfl
@[go_sem] theorem ty_ze205 : zeroT Try.prog 205 = some [.nilFunc] := by kernel_rfl
@[go_sem] theorem ty_has206 : hasT Try.prog 206 = true := by kernel_rfl
@[go_sem] theorem ty_sz206 : szT Try.prog 206 = 1 := by kernel_rfl
@[go_sem] theorem ty_by206 : Try.prog.bytesOf 206 = 8 := by kernel_rfl
@[go_sem] theorem ty_agg206 : aggT Try.prog 206 = false := by kernel_rfl
@[go_sem] theorem ty_el206 : elemT Try.prog 206 = none := by kernel_rfl
@[go_sem] theorem ty_ar206 : arrT Try.prog 206 = none := by kernel_rfl
@[go_sem] theorem ty_ze206 : zeroT Try.prog 206 = some [.nilFunc] := by kernel_rfl
@[go_sem] theorem ty_has207 : hasT Try.prog 207 = true := by kernel_rfl
@[go_sem] theorem ty_sz207 : szT Try.prog 207 = 1 := by kernel_rfl
@[go_sem] theorem ty_by207 : Try.prog.bytesOf 207 = 8 := by kernel_rfl
@[go_sem] theorem ty_agg207 : aggT Try.prog 207 = false := by kernel_rfl
@[go_sem] theorem ty_el207 : elemT Try.prog 207 = none := by kernel_rfl
@[go_sem] theorem ty_ar207 : arrT Try.prog 207 = none := by kernel_rfl
@[go_sem] theorem ty_ze207 : zeroT Try.prog 207 = some [.nilFunc] := by kernel_rfl
@[go_sem] theorem ty_has208 : hasT Try.prog 208 = true := by kernel_rfl
@[go_sem] theorem ty_sz208 : szT Try.prog 208 = 1 := by kernel_rfl
@[go_sem] theorem ty_by208 : Try.prog.bytesOf 208 = 8 := by kernel_rfl
@[go_sem] theorem ty_agg208 : aggT Try.prog 208 = false := by kernel_rfl
@[go_sem] theorem ty_el208 : elemT Try.prog 208 = none := by kernel_rfl
@[go_sem] theorem ty_ar208 : arrT Try.prog 208 = none := by kernel_rfl
@[go_sem] theorem ty_ze208 : zeroT Try.prog 208 = some [.nilFunc] := by kernel_rfl
@[go_sem] theorem ty_has209 : hasT Try.prog 209 = true := by kernel_rfl
@[go_sem] theorem ty_sz209 : szT Try.prog 209 = 1 := by kernel_rfl
@[go_sem] theorem ty_by209 : Try.prog.bytesOf 209 = 8 := by kernel_rfl
@[go_sem] theorem ty_agg209 : aggT Try.prog 209 = false := by kernel_rfl
@[go_sem] theorem ty_el209 : elemT Try.prog 209 = none := by kernel_rfl
@[go_sem] theorem ty_ar209 : arrT Try.prog 209 = none := by kernel_rfl
@[go_sem] theorem ty_ze209 : zeroT Try.prog 209 = some [.nilFunc] := by kernel_rfl
@[go_sem] theorem ty_has210 : hasT Try.prog 210 = true := by kernel_rfl
@[go_sem] theorem ty_sz210 : szT Try.prog 210 = 1 := by kernel_rfl
@[go_sem] theorem ty_by210 : Try.prog.bytesOf 210 = 8 := by kernel_rfl
@[go_sem] theorem ty_agg210 : aggT Try.prog 210 = false := by kernel_rfl
@[go_sem] theorem ty_el210 : elemT Try.prog 210 = none := by kernel_rfl
@[go_sem] theorem ty_ar210 : arrT Try.prog 210 = none := by kernel_rfl
@[go_sem] theorem ty_ze210 : zeroT Try.prog 210 = some [.nilFunc] := by kernel_rfl
@[go_sem] theorem ty_has211 : hasT Try.prog 211 = true := by kernel_rfl
@[go_sem] theorem ty_sz211 : szT Try.prog 211 = 1 := by kernel_rfl
@[go_sem] theorem ty_by211 : Try.prog.bytesOf 211 = 8 := by kernel_rfl
@[go_sem] theorem ty_agg211 : aggT Try.prog 211 = false := by kernel_rfl
@[go_sem] theorem ty_el211 : elemT Try.prog 211 = none := by kernel_rfl
@[go_sem] theorem ty_ar211 : arrT Try.prog 211 = none := by kernel_rfl
@[go_sem] theorem ty_ze211 : zeroT Try.prog 211 = some [.nilFunc] := by kernel_rfl
@[go_sem] theorem ty_has212 : hasT Try.prog 212 = true := by kernel_rfl
@[go_sem] theorem ty_sz212 : szT Try.prog 212 = 1 := by kernel_rfl
@[go_sem] theorem ty_by212 : Try.prog.bytesOf 212 = 8 := by kernel_rfl
@[go_sem] theorem ty_agg212 : aggT Try.prog 212 = false := by kernel_rfl
@[go_sem] theorem ty_el212 : elemT Try.prog 212 = none := by kernel_rfl
@[go_sem] theorem ty_ar212 : arrT Try.prog 212 = none := by kernel_rfl
@[go_sem] theorem ty_ze212 : zeroT Try.prog 212 = some [.nilFunc] := by kernel_rfl
@[go_sem] theorem ty_has213 : hasT Try.prog 213 = true := by kernel_rfl
@[go_sem] theorem ty_sz213 : szT Try.prog 213 = 1 := by kernel_rfl
@[go_sem] theorem ty_by213 : Try.prog.bytesOf 213 = 8 := by kernel_rfl
@[go_sem] theorem ty_agg213 : aggT Try.prog 213 = false := by kernel_rfl
@[go_sem] theorem ty_el213 : elemT Try.prog 213 = none := by kernel_rfl
@[go_sem] theorem ty_ar213 : arrT Try.prog 213 = none := by kernel_rfl
@[go_sem] theorem ty_ze213 : zeroT Try.prog 213 = some [.nilFunc] := by kernel_rfl
@[go_sem] theorem ty_has214 : hasT Try.prog 214 = true := by kernel_rfl
@[go_sem] theorem ty_sz214 : szT Try.prog 214 = 1 := by kernel_rfl
@[go_sem] theorem ty_by214 : Try.prog.bytesOf 214 = 8 := by kernel_rfl
@[go_sem] theorem ty_agg214 : aggT Try.prog 214 = false := by kernel_rfl
@[go_sem] theorem ty_el214 : elemT Try.prog 214 = none := by kernel_rfl
@[go_sem] theorem ty_ar214 : arrT Try.prog 214 = none := by kernel_rfl
@[go_sem] theorem ty_ze214 : zeroT Try.prog 214 = some [.nilFunc] := by kernel_rfl
@[go_sem] theorem ty_has215 : hasT Try.prog 215 = true := by kernel_rfl
@[go_sem] theorem ty_sz215 : szT Try.prog 215 = 1 := by kernel_rfl
@[go_sem] theorem ty_by215 : Try.prog.bytesOf 215 = 8 := by kernel_rfl
@[go_sem] theorem ty_agg215 : aggT Try.prog 215 = false := by kernel_rfl
@[go_sem] theorem ty_el215 : elemT Try.prog 215 = none := by kernel_rfl
@[go_sem] theorem ty_ar215 : arrT Try.prog 215 = none := by kernel_rfl
@[go_sem] theorem ty_ze215 : zeroT Try.prog 215 = some [.nilFunc] := by kernel_rfl
@[go_sem] theorem ty_has216 : hasT Try.prog 216 = true := by kernel_rfl
@[go_sem] theorem ty_sz216 : szT Try.prog 216 = 1 := by kernel_rfl
@[go_sem] theorem ty_by216 : Try.prog.bytesOf 216 = 8 := by kernel_rfl
@[go_sem] theorem ty_agg216 : aggT Try.prog 216 = false := by kernel_rfl
@[go_sem] theorem ty_el216 : elemT Try.prog 216 = none := by kernel_rfl
@[go_sem] theorem ty_ar216 : arrT Try.prog 216 = none := by kernel_rfl
@[go_sem] theorem ty_ze216 : zeroT Try.prog 216 = some [.nilFunc] := by kernel_rfl
@[go_sem] theorem ty_has217 : hasT Try.prog 217 = true := by kernel_rfl
@[go_sem] theorem ty_sz217 : szT Try.prog 217 = 1 := by kernel_rfl
@[go_sem] theorem ty_by217 : Try.prog.bytesOf 217 = 8 := by kernel_rfl
@[go_sem] theorem ty_agg217 : aggT Try.prog 217 = false := by kernel_rfl
@[go_sem] theorem ty_el217 : elemT Try.prog 217 = none := by kernel_rfl
@[go_sem] theorem ty_ar217 : arrT Try.prog 217 = none := by kernel_rfl
@[go_sem] theorem ty_ze217 : zeroT Try.prog 217 = some [.nilFunc] := by kernel_rfl
@[go_sem] theorem ty_has218 : hasT Try.prog 218 = true := by kernel_rfl
@[go_sem] theorem ty_sz218 : szT Try.prog 218 = 1 := by kernel_rfl
@[go_sem] theorem ty_by218 : Try.prog.bytesOf 218 = 8 := by kernel_rfl
@[go_sem] theorem ty_agg218 : aggT Try.prog 218 = false := by kernel_rfl
@[go_sem] theorem ty_el218 : elemT Try.prog 218 = none := by kernel_rfl
@[go_sem] theorem ty_ar218 : arrT Try.prog 218 = none := by kernel_rfl
@[go_sem] theorem ty_ze218 : zeroT Try.prog 218 = some [.nilFunc] := by kernel_rfl
@[go_sem] theorem ty_has219 : hasT Try.prog 219 = true := by kernel_rfl
@[go_sem] theorem ty_sz219 : szT Try.prog 219 = 3 := by kernel_rfl
@[go_sem] theorem ty_by219 : Try.prog.bytesOf 219 = 24 := by kernel_rfl
@[go_sem] theorem ty_agg219 : aggT Try.prog 219 = true := by kernel_rfl
@[go_sem] theorem ty_el219 : elemT Try.prog 219 = none := by kernel_rfl
@[go_sem] theorem ty_ar219 : arrT Try.prog 219 = none := by kernel_rfl
@[go_sem] theorem ty_ze219 : zeroT Try.prog 219 = some [.int .i64 0, .int .i64 0, .int .i64 0] := by kernel_rfl
@[go_sem] theorem ty_po219 : partsOk Try.prog 219 = true := by kernel_rfl
@[go_sem] theorem ty_fi219_0 : fieldOf Try.prog 219 0 = some (0, 3) := by kernel_rfl
@[go_sem] theorem ty_pt219_0 : partT Try.prog 219 0 = some (0, 1) := by kernel_rfl
@[go_sem] theorem ty_fi219_1 : fieldOf Try.prog 219 1 = some (1, 3) := by kernel_rfl
@[go_sem] theorem ty_pt219_1 : partT Try.prog 219 1 = some (1, 1) := by kernel_rfl
@[go_sem] theorem ty_fi219_2 : fieldOf Try.prog 219 2 = some (2, 3) := by kernel_rfl
@[go_sem] theorem ty_pt219_2 : partT Try.prog 219 2 = some (2, 1) := by kernel_rfl
attribute [go_sem] Try.underlying219 Try.stoodInHeld219 Try.eqGuardType219
@[go_sem] theorem ty_has220 : hasT Try.prog 220 = true := by kernel_rfl
@[go_sem] theorem ty_sz220 : szT Try.prog 220 = 3 := by kernel_rfl
@[go_sem] theorem ty_by220 : Try.prog.bytesOf 220 = 24 := by kernel_rfl
@[go_sem] theorem ty_agg220 : aggT Try.prog 220 = true := by kernel_rfl
@[go_sem] theorem ty_el220 : elemT Try.prog 220 = none := by kernel_rfl
@[go_sem] theorem ty_ar220 : arrT Try.prog 220 = none := by kernel_rfl
@[go_sem] theorem ty_ze220 : zeroT Try.prog 220 = some [.int .i64 0, .int .i64 0, .int .i64 0] := by kernel_rfl
@[go_sem] theorem ty_po220 : partsOk Try.prog 220 = true := by kernel_rfl
@[go_sem] theorem ty_fi220_0 : fieldOf Try.prog 220 0 = some (0, 3) := by kernel_rfl
@[go_sem] theorem ty_pt220_0 : partT Try.prog 220 0 = some (0, 1) := by kernel_rfl
@[go_sem] theorem ty_fi220_1 : fieldOf Try.prog 220 1 = some (1, 3) := by kernel_rfl
@[go_sem] theorem ty_pt220_1 : partT Try.prog 220 1 = some (1, 1) := by kernel_rfl
@[go_sem] theorem ty_fi220_2 : fieldOf Try.prog 220 2 = some (2, 3) := by kernel_rfl
@[go_sem] theorem ty_pt220_2 : partT Try.prog 220 2 = some (2, 1) := by kernel_rfl
attribute [go_sem] Try.underlying220 Try.stoodInHeld220 Try.eqGuardType220
@[go_sem] theorem ty_has221 : hasT Try.prog 221 = true := by kernel_rfl
@[go_sem] theorem ty_sz221 : szT Try.prog 221 = 1 := by kernel_rfl
@[go_sem] theorem ty_by221 : Try.prog.bytesOf 221 = 8 := by kernel_rfl
@[go_sem] theorem ty_agg221 : aggT Try.prog 221 = false := by kernel_rfl
@[go_sem] theorem ty_el221 : elemT Try.prog 221 = none := by kernel_rfl
@[go_sem] theorem ty_ar221 : arrT Try.prog 221 = none := by kernel_rfl
@[go_sem] theorem ty_ze221 : zeroT Try.prog 221 = some [.nilFunc] := by kernel_rfl
@[go_sem] theorem ty_has222 : hasT Try.prog 222 = true := by kernel_rfl
@[go_sem] theorem ty_sz222 : szT Try.prog 222 = 1 := by kernel_rfl
@[go_sem] theorem ty_by222 : Try.prog.bytesOf 222 = 8 := by kernel_rfl
@[go_sem] theorem ty_agg222 : aggT Try.prog 222 = false := by kernel_rfl
@[go_sem] theorem ty_el222 : elemT Try.prog 222 = none := by kernel_rfl
@[go_sem] theorem ty_ar222 : arrT Try.prog 222 = none := by kernel_rfl
@[go_sem] theorem ty_ze222 : zeroT Try.prog 222 = some [.nilFunc] := by kernel_rfl
@[go_sem] theorem ty_has223 : hasT Try.prog 223 = true := by kernel_rfl
@[go_sem] theorem ty_sz223 : szT Try.prog 223 = 1 := by kernel_rfl
@[go_sem] theorem ty_by223 : Try.prog.bytesOf 223 = 8 := by kernel_rfl
@[go_sem] theorem ty_agg223 : aggT Try.prog 223 = false := by kernel_rfl
@[go_sem] theorem ty_el223 : elemT Try.prog 223 = none := by kernel_rfl
@[go_sem] theorem ty_ar223 : arrT Try.prog 223 = none := by kernel_rfl
@[go_sem] theorem ty_ze223 : zeroT Try.prog 223 = some [.nilFunc] := by kernel_rfl
@[go_sem] theorem ty_has224 : hasT Try.prog 224 = true := by kernel_rfl
@[go_sem] theorem ty_sz224 : szT Try.prog 224 = 3 := by kernel_rfl
@[go_sem] theorem ty_by224 : Try.prog.bytesOf 224 = 24 := by kernel_rfl
@[go_sem] theorem ty_agg224 : aggT Try.prog 224 = true := by kernel_rfl
@[go_sem] theorem ty_el224 : elemT Try.prog 224 = none := by kernel_rfl
@[go_sem] theorem ty_ar224 : arrT Try.prog 224 = none := by kernel_rfl
@[go_sem] theorem ty_ze224 : zeroT Try.prog 224 = some [.int .i64 0, .int .i64 0, .int .i64 0] := by kernel_rfl
@[go_sem] theorem ty_po224 : partsOk Try.prog 224 = true := by kernel_rfl
@[go_sem] theorem ty_fi224_0 : fieldOf Try.prog 224 0 = some (0, 3) := by kernel_rfl
@[go_sem] theorem ty_pt224_0 : partT Try.prog 224 0 = some (0, 1) := by kernel_rfl
@[go_sem] theorem ty_fi224_1 : fieldOf Try.prog 224 1 = some (1, 3) := by kernel_rfl
@[go_sem] theorem ty_pt224_1 : partT Try.prog 224 1 = some (1, 1) := by kernel_rfl
@[go_sem] theorem ty_fi224_2 : fieldOf Try.prog 224 2 = some (2, 3) := by kernel_rfl
@[go_sem] theorem ty_pt224_2 : partT Try.prog 224 2 = some (2, 1) := by kernel_rfl
attribute [go_sem] Try.underlying224 Try.stoodInHeld224 Try.eqGuardType224
@[go_sem] theorem ty_has225 : hasT Try.prog 225 = true := by kernel_rfl
@[go_sem] theorem ty_sz225 : szT Try.prog 225 = 1 := by kernel_rfl
@[go_sem] theorem ty_by225 : Try.prog.bytesOf 225 = 8 := by kernel_rfl
@[go_sem] theorem ty_agg225 : aggT Try.prog 225 = false := by kernel_rfl
@[go_sem] theorem ty_el225 : elemT Try.prog 225 = none := by kernel_rfl
@[go_sem] theorem ty_ar225 : arrT Try.prog 225 = none := by kernel_rfl
@[go_sem] theorem ty_ze225 : zeroT Try.prog 225 = some [.nilFunc] := by kernel_rfl
@[go_sem] theorem ty_has226 : hasT Try.prog 226 = true := by kernel_rfl
@[go_sem] theorem ty_sz226 : szT Try.prog 226 = 1 := by kernel_rfl
@[go_sem] theorem ty_by226 : Try.prog.bytesOf 226 = 8 := by kernel_rfl
@[go_sem] theorem ty_agg226 : aggT Try.prog 226 = false := by kernel_rfl
@[go_sem] theorem ty_el226 : elemT Try.prog 226 = none := by kernel_rfl
@[go_sem] theorem ty_ar226 : arrT Try.prog 226 = none := by kernel_rfl
@[go_sem] theorem ty_ze226 : zeroT Try.prog 226 = some [.nilFunc] := by kernel_rfl
@[go_sem] theorem ty_has227 : hasT Try.prog 227 = true := by kernel_rfl
@[go_sem] theorem ty_sz227 : szT Try.prog 227 = 1 := by kernel_rfl
@[go_sem] theorem ty_by227 : Try.prog.bytesOf 227 = 8 := by kernel_rfl
@[go_sem] theorem ty_agg227 : aggT Try.prog 227 = false := by kernel_rfl
@[go_sem] theorem ty_el227 : elemT Try.prog 227 = none := by kernel_rfl
@[go_sem] theorem ty_ar227 : arrT Try.prog 227 = none := by kernel_rfl
@[go_sem] theorem ty_ze227 : zeroT Try.prog 227 = some [.nilFunc] := by kernel_rfl
@[go_sem] theorem ty_has228 : hasT Try.prog 228 = true := by kernel_rfl
@[go_sem] theorem ty_sz228 : szT Try.prog 228 = 3 := by kernel_rfl
@[go_sem] theorem ty_by228 : Try.prog.bytesOf 228 = 24 := by kernel_rfl
@[go_sem] theorem ty_agg228 : aggT Try.prog 228 = true := by kernel_rfl
@[go_sem] theorem ty_el228 : elemT Try.prog 228 = none := by kernel_rfl
@[go_sem] theorem ty_ar228 : arrT Try.prog 228 = none := by kernel_rfl
@[go_sem] theorem ty_ze228 : zeroT Try.prog 228 = some [.int .i64 0, .int .i64 0, .int .i64 0] := by kernel_rfl
@[go_sem] theorem ty_po228 : partsOk Try.prog 228 = true := by kernel_rfl
@[go_sem] theorem ty_fi228_0 : fieldOf Try.prog 228 0 = some (0, 3) := by kernel_rfl
@[go_sem] theorem ty_pt228_0 : partT Try.prog 228 0 = some (0, 1) := by kernel_rfl
@[go_sem] theorem ty_fi228_1 : fieldOf Try.prog 228 1 = some (1, 3) := by kernel_rfl
@[go_sem] theorem ty_pt228_1 : partT Try.prog 228 1 = some (1, 1) := by kernel_rfl
@[go_sem] theorem ty_fi228_2 : fieldOf Try.prog 228 2 = some (2, 3) := by kernel_rfl
@[go_sem] theorem ty_pt228_2 : partT Try.prog 228 2 = some (2, 1) := by kernel_rfl
attribute [go_sem] Try.underlying228 Try.stoodInHeld228 Try.eqGuardType228
@[go_sem] theorem ty_has229 : hasT Try.prog 229 = true := by kernel_rfl
@[go_sem] theorem ty_sz229 : szT Try.prog 229 = 1 := by kernel_rfl
@[go_sem] theorem ty_by229 : Try.prog.bytesOf 229 = 8 := by kernel_rfl
@[go_sem] theorem ty_agg229 : aggT Try.prog 229 = false := by kernel_rfl
@[go_sem] theorem ty_el229 : elemT Try.prog 229 = none := by kernel_rfl
@[go_sem] theorem ty_ar229 : arrT Try.prog 229 = none := by kernel_rfl
@[go_sem] theorem ty_ze229 : zeroT Try.prog 229 = some [.nilFunc] := by kernel_rfl
@[go_sem] theorem ty_has230 : hasT Try.prog 230 = true := by kernel_rfl
@[go_sem] theorem ty_sz230 : szT Try.prog 230 = 1 := by kernel_rfl
@[go_sem] theorem ty_by230 : Try.prog.bytesOf 230 = 8 := by kernel_rfl
@[go_sem] theorem ty_agg230 : aggT Try.prog 230 = false := by kernel_rfl
@[go_sem] theorem ty_el230 : elemT Try.prog 230 = none := by kernel_rfl
@[go_sem] theorem ty_ar230 : arrT Try.prog 230 = none := by kernel_rfl
@[go_sem] theorem ty_ze230 : zeroT Try.prog 230 = some [.nilFunc] := by kernel_rfl
@[go_sem] theorem ty_has236 : hasT Try.prog 236 = true := by kernel_rfl
@[go_sem] theorem ty_sz236 : szT Try.prog 236 = 1 := by kernel_rfl
@[go_sem] theorem ty_by236 : Try.prog.bytesOf 236 = 8 := by kernel_rfl
@[go_sem] theorem ty_agg236 : aggT Try.prog 236 = false := by kernel_rfl
@[go_sem] theorem ty_el236 : elemT Try.prog 236 = none := by kernel_rfl
@[go_sem] theorem ty_ar236 : arrT Try.prog 236 = none := by kernel_rfl
@[go_sem] theorem ty_ze236 : zeroT Try.prog 236 = some [.nilFunc] := by kernel_rfl
@[go_sem] theorem ty_has237 : hasT Try.prog 237 = true := by kernel_rfl
@[go_sem] theorem ty_sz237 : szT Try.prog 237 = 1 := by kernel_rfl
@[go_sem] theorem ty_by237 : Try.prog.bytesOf 237 = 4 := by kernel_rfl
@[go_sem] theorem ty_agg237 : aggT Try.prog 237 = false := by kernel_rfl
@[go_sem] theorem ty_el237 : elemT Try.prog 237 = none := by kernel_rfl
@[go_sem] theorem ty_ar237 : arrT Try.prog 237 = none := by kernel_rfl
@[go_sem] theorem ty_ze237 : zeroT Try.prog 237 = some [.int .u32 0] := by kernel_rfl
@[go_sem] theorem ty_in237 : intT Try.prog 237 = some .u32 := by kernel_rfl
attribute [go_sem] Try.underlying237
@[go_sem] theorem ty_has240 : hasT Try.prog 240 = true := by kernel_rfl
@[go_sem] theorem ty_sz240 : szT Try.prog 240 = 1 := by kernel_rfl
@[go_sem] theorem ty_by240 : Try.prog.bytesOf 240 = 8 := by kernel_rfl
@[go_sem] theorem ty_agg240 : aggT Try.prog 240 = false := by kernel_rfl
@[go_sem] theorem ty_el240 : elemT Try.prog 240 = none := by kernel_rfl
@[go_sem] theorem ty_ar240 : arrT Try.prog 240 = none := by kernel_rfl
@[go_sem] theorem ty_ze240 : zeroT Try.prog 240 = some [.nilFunc] := by kernel_rfl
@[go_sem] theorem ty_has241 : hasT Try.prog 241 = true := by kernel_rfl
@[go_sem] theorem ty_sz241 : szT Try.prog 241 = 1 := by kernel_rfl
@[go_sem] theorem ty_by241 : Try.prog.bytesOf 241 = 8 := by kernel_rfl
@[go_sem] theorem ty_agg241 : aggT Try.prog 241 = false := by kernel_rfl
@[go_sem] theorem ty_el241 : elemT Try.prog 241 = none := by kernel_rfl
@[go_sem] theorem ty_ar241 : arrT Try.prog 241 = none := by kernel_rfl
@[go_sem] theorem ty_ze241 : zeroT Try.prog 241 = some [.pointer none] := by kernel_rfl
@[go_sem] theorem ty_has246 : hasT Try.prog 246 = true := by kernel_rfl
@[go_sem] theorem ty_sz246 : szT Try.prog 246 = 1 := by kernel_rfl
@[go_sem] theorem ty_by246 : Try.prog.bytesOf 246 = 8 := by kernel_rfl
@[go_sem] theorem ty_agg246 : aggT Try.prog 246 = false := by kernel_rfl
@[go_sem] theorem ty_el246 : elemT Try.prog 246 = none := by kernel_rfl
@[go_sem] theorem ty_ar246 : arrT Try.prog 246 = none := by kernel_rfl
@[go_sem] theorem ty_ze246 : zeroT Try.prog 246 = some [.nilFunc] := by kernel_rfl
@[go_sem] theorem ty_has247 : hasT Try.prog 247 = true := by kernel_rfl
@[go_sem] theorem ty_sz247 : szT Try.prog 247 = 1 := by kernel_rfl
@[go_sem] theorem ty_by247 : Try.prog.bytesOf 247 = 8 := by kernel_rfl
@[go_sem] theorem ty_agg247 : aggT Try.prog 247 = false := by kernel_rfl
@[go_sem] theorem ty_el247 : elemT Try.prog 247 = none := by kernel_rfl
@[go_sem] theorem ty_ar247 : arrT Try.prog 247 = none := by kernel_rfl
@[go_sem] theorem ty_ze247 : zeroT Try.prog 247 = some [.nilFunc] := by kernel_rfl
end Go.Proofs.Ytfbdafdbinbeaaa
