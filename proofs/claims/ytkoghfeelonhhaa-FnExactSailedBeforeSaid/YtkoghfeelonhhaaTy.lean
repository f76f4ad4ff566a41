/- Facts about the types of the program. No condition. -/
import Derived.Test.YtkoghfeelonhhaaSLS
import Derived.Test.YtkoghfeelonhhaaProg
set_option linter.unusedVariables false
set_option linter.unusedSimpArgs false
namespace Go.Proofs.Ytkoghfeelonhhaa
open Go Go.SL
@[go_sem] theorem ty_has1 : hasT Try.prog 1 = true := by kernel_rfl
@[go_sem] theorem ty_sz1 : szT Try.prog 1 = 1 := by kernel_rfl
@[go_sem] theorem ty_by1 : Try.prog.bytesOf 1 = 8 := by kernel_rfl
@[go_sem] theorem ty_agg1 : aggT Try.prog 1 = false := by kernel_rfl
@[go_sem] theorem ty_el1 : elemT Try.prog 1 = none := by kernel_rfl
@[go_sem] theorem ty_ar1 : arrT Try.prog 1 = none := by kernel_rfl
@[go_sem] theorem ty_ze1 : zeroT Try.prog 1 = some [.nilFunc] := by kernel_rfl
@[go_sem] theorem ty_has2 : hasT Try.prog 2 = true := by kernel_rfl
@[go_sem] theorem ty_sz2 : szT Try.prog 2 = 1 := by kernel_rfl
@[go_sem] theorem ty_by2 : Try.prog.bytesOf 2 = 8 := by kernel_rfl
@[go_sem] theorem ty_agg2 : aggT Try.prog 2 = false := by kernel_rfl
@[go_sem] theorem ty_el2 : elemT Try.prog 2 = none := by kernel_rfl
@[go_sem] theorem ty_ar2 : arrT Try.prog 2 = none := by kernel_rfl
@[go_sem] theorem ty_ze2 : zeroT Try.prog 2 = some [.int .i64 0] := by kernel_rfl
@[go_sem] theorem ty_in2 : intT Try.prog 2 = some .i64 := by kernel_rfl
attribute [go_sem] Try.underlying2
@[go_sem] theorem ty_has3 : hasT Try.prog 3 = true := by kernel_rfl
@[go_sem] theorem ty_sz3 : szT Try.prog 3 = 1 := by kernel_rfl
@[go_sem] theorem ty_by3 : Try.prog.bytesOf 3 = 8 := by kernel_rfl
@[go_sem] theorem ty_agg3 : aggT Try.prog 3 = false := by kernel_rfl
@[go_sem] theorem ty_el3 : elemT Try.prog 3 = none := by kernel_rfl
@[go_sem] theorem ty_ar3 : arrT Try.prog 3 = none := by kernel_rfl
@[go_sem] theorem ty_ze3 : zeroT Try.prog 3 = some [.int .i64 0] := by kernel_rfl
@[go_sem] theorem ty_in3 : intT Try.prog 3 = some .i64 := by kernel_rfl
attribute [go_sem] Try.underlying3
@[go_sem] theorem ty_has4 : hasT Try.prog 4 = true := by kernel_rfl
@[go_sem] theorem ty_sz4 : szT Try.prog 4 = 1 := by kernel_rfl
@[go_sem] theorem ty_by4 : Try.prog.bytesOf 4 = 1 := by kernel_rfl
@[go_sem] theorem ty_agg4 : aggT Try.prog 4 = false := by kernel_rfl
@[go_sem] theorem ty_el4 : elemT Try.prog 4 = none := by kernel_rfl
@[go_sem] theorem ty_ar4 : arrT Try.prog 4 = none := by kernel_rfl
@[go_sem] theorem ty_ze4 : zeroT Try.prog 4 = some [.bool false] := by kernel_rfl
attribute [go_sem] Try.underlying4
@[go_sem] theorem ty_has5 : hasT Try.prog 5 = true := by kernel_rfl
@[go_sem] theorem ty_sz5 : szT Try.prog 5 = 1 := by kernel_rfl
@[go_sem] theorem ty_by5 : Try.prog.bytesOf 5 = 1 := by kernel_rfl
@[go_sem] theorem ty_agg5 : aggT Try.prog 5 = false := by kernel_rfl
@[go_sem] theorem ty_el5 : elemT Try.prog 5 = none := by kernel_rfl
@[go_sem] theorem ty_ar5 : arrT Try.prog 5 = none := by kernel_rfl
@[go_sem] theorem ty_ze5 : zeroT Try.prog 5 = some [.int .u8 0] := by kernel_rfl
@[go_sem] theorem ty_in5 : intT Try.prog 5 = some .u8 := by kernel_rfl
attribute [go_sem] Try.underlying5
@[go_sem] theorem ty_has9 : hasT Try.prog 9 = true := by kernel_rfl
@[go_sem] theorem ty_sz9 : szT Try.prog 9 = 1 := by kernel_rfl
@[go_sem] theorem ty_by9 : Try.prog.bytesOf 9 = 16 := by kernel_rfl
@[go_sem] theorem ty_agg9 : aggT Try.prog 9 = false := by kernel_rfl
@[go_sem] theorem ty_el9 : elemT Try.prog 9 = none := by kernel_rfl
@[go_sem] theorem ty_ar9 : arrT Try.prog 9 = none := by kernel_rfl
@[go_sem] theorem ty_ze9 : zeroT Try.prog 9 = some [.string ByteArray.empty] := by kernel_rfl
@[go_sem] theorem ty_st9 : strT Try.prog 9 = true := by kernel_rfl
attribute [go_sem] Try.underlying9
@[go_sem] theorem ty_has12 : hasT Try.prog 12 = true := by kernel_rfl
@[go_sem] theorem ty_sz12 : szT Try.prog 12 = 1 := by kernel_rfl
@[go_sem] theorem ty_by12 : Try.prog.bytesOf 12 = 8 := by kernel_rfl
@[go_sem] theorem ty_agg12 : aggT Try.prog 12 = false := by kernel_rfl
@[go_sem] theorem ty_el12 : elemT Try.prog 12 = none := by kernel_rfl
@[go_sem] theorem ty_ar12 : arrT Try.prog 12 = none := by kernel_rfl
@[go_sem] theorem ty_ze12 : zeroT Try.prog 12 = some [.int .u64 0] := by kernel_rfl
@[go_sem] theorem ty_in12 : intT Try.prog 12 = some .u64 := by kernel_rfl
attribute [go_sem] Try.underlying12
@[go_sem] theorem ty_has13 : hasT Try.prog 13 = true := by kernel_rfl
@[go_sem] theorem ty_sz13 : szT Try.prog 13 = 2 := by kernel_rfl
@[go_sem] theorem ty_by13 : Try.prog.bytesOf 13 = 24 := by kernel_rfl
@[go_sem] theorem ty_agg13 : aggT Try.prog 13 = true := by kernel_rfl
@[go_sem] theorem ty_el13 : elemT Try.prog 13 = none := by kernel_rfl
@[go_sem] theorem ty_ar13 : arrT Try.prog 13 = none := by kernel_rfl
@[go_sem] theorem ty_ze13 : zeroT Try.prog 13 = some [.string ByteArray.empty, .int .u64 0] := by kernel_rfl
@[go_sem] theorem ty_po13 : partsOk Try.prog 13 = true := by kernel_rfl
@[go_sem] theorem ty_fi13_0 : fieldOf Try.prog 13 0 = some (0, 9) := by kernel_rfl
@[go_sem] theorem ty_pt13_0 : partT Try.prog 13 0 = some (0, 1) := by kernel_rfl
@[go_sem] theorem ty_fi13_1 : fieldOf Try.prog 13 1 = some (1, 12) := by kernel_rfl
@[go_sem] theorem ty_pt13_1 : partT Try.prog 13 1 = some (1, 1) := by kernel_rfl
attribute [go_sem] Try.underlying13 Try.stoodInHeld13 Try.eqGuardType13
@[go_sem] theorem ty_has21 : hasT Try.prog 21 = true := by kernel_rfl
@[go_sem] theorem ty_sz21 : szT Try.prog 21 = 1 := by kernel_rfl
@[go_sem] theorem ty_by21 : Try.prog.bytesOf 21 = 4 := by kernel_rfl
@[go_sem] theorem ty_agg21 : aggT Try.prog 21 = false := by kernel_rfl
@[go_sem] theorem ty_el21 : elemT Try.prog 21 = none := by kernel_rfl
@[go_sem] theorem ty_ar21 : arrT Try.prog 21 = none := by kernel_rfl
@[go_sem] theorem ty_ze21 : zeroT Try.prog 21 = some [.int .i32 0] := by kernel_rfl
@[go_sem] theorem ty_in21 : intT Try.prog 21 = some .i32 := by kernel_rfl
attribute [go_sem] Try.underlying21
@[go_sem] theorem ty_has22 : hasT Try.prog 22 = true := by kernel_rfl
@[go_sem] theorem ty_sz22 : szT Try.prog 22 = 1 := by kernel_rfl
@[go_sem] theorem ty_by22 : Try.prog.bytesOf 22 = 24 := by kernel_rfl
@[go_sem] theorem ty_agg22 : aggT Try.prog 22 = false := by kernel_rfl
@[go_sem] theorem ty_el22 : elemT Try.prog 22 = some 3 := by kernel_rfl
@[go_sem] theorem ty_ar22 : arrT Try.prog 22 = none := by kernel_rfl
@[go_sem] theorem ty_ze22 : zeroT Try.prog 22 = some [.slice none 0 0] := by kernel_rfl
@[go_sem] theorem ty_has23 : hasT Try.prog 23 = true := by kernel_rfl
@[go_sem] theorem ty_sz23 : szT Try.prog 23 = 4 := by kernel_rfl
@[go_sem] theorem ty_by23 : Try.prog.bytesOf 23 = 48 := by kernel_rfl
@[go_sem] theorem ty_agg23 : aggT Try.prog 23 = true := by kernel_rfl
@[go_sem] theorem ty_el23 : elemT Try.prog 23 = none := by kernel_rfl
@[go_sem] theorem ty_ar23 : arrT Try.prog 23 = none := by kernel_rfl
@[go_sem] theorem ty_ze23 : zeroT Try.prog 23 = some [.int .i64 0, .int .i64 0, .int .i64 0, .slice none 0 0] := by kernel_rfl
@[go_sem] theorem ty_po23 : partsOk Try.prog 23 = true := by kernel_rfl
@[go_sem] theorem ty_fi23_0 : fieldOf Try.prog 23 0 = some (0, 3) := by kernel_rfl
@[go_sem] theorem ty_pt23_0 : partT Try.prog 23 0 = some (0, 1) := by kernel_rfl
@[go_sem] theorem ty_fi23_1 : fieldOf Try.prog 23 1 = some (1, 3) := by kernel_rfl
@[go_sem] theorem ty_pt23_1 : partT Try.prog 23 1 = some (1, 1) := by kernel_rfl
@[go_sem] theorem ty_fi23_2 : fieldOf Try.prog 23 2 = some (2, 3) := by kernel_rfl
@[go_sem] theorem ty_pt23_2 : partT Try.prog 23 2 = some (2, 1) := by kernel_rfl
@[go_sem] theorem ty_fi23_3 : fieldOf Try.prog 23 3 = some (3, 22) := by kernel_rfl
@[go_sem] theorem ty_pt23_3 : partT Try.prog 23 3 = some (3, 1) := by kernel_rfl
attribute [go_sem] Try.underlying23 Try.stoodInHeld23 Try.eqGuardType23
@[go_sem] theorem ty_has24 : hasT Try.prog 24 = true := by kernel_rfl
@[go_sem] theorem ty_sz24 : szT Try.prog 24 = 4 := by kernel_rfl
@[go_sem] theorem ty_by24 : Try.prog.bytesOf 24 = 48 := by kernel_rfl
@[go_sem] theorem ty_agg24 : aggT Try.prog 24 = true := by kernel_rfl
@[go_sem] theorem ty_el24 : elemT Try.prog 24 = none := by kernel_rfl
@[go_sem] theorem ty_ar24 : arrT Try.prog 24 = none := by kernel_rfl
@[go_sem] theorem ty_ze24 : zeroT Try.prog 24 = some [.int .i64 0, .int .i64 0, .int .i64 0, .slice none 0 0] := by kernel_rfl
@[go_sem] theorem ty_po24 : partsOk Try.prog 24 = true := by kernel_rfl
@[go_sem] theorem ty_fi24_0 : fieldOf Try.prog 24 0 = some (0, 3) := by kernel_rfl
@[go_sem] theorem ty_pt24_0 : partT Try.prog 24 0 = some (0, 1) := by kernel_rfl
@[go_sem] theorem ty_fi24_1 : fieldOf Try.prog 24 1 = some (1, 3) := by kernel_rfl
@[go_sem] theorem ty_pt24_1 : partT Try.prog 24 1 = some (1, 1) := by kernel_rfl
@[go_sem] theorem ty_fi24_2 : fieldOf Try.prog 24 2 = some (2, 3) := by kernel_rfl
@[go_sem] theorem ty_pt24_2 : partT Try.prog 24 2 = some (2, 1) := by kernel_rfl
@[go_sem] theorem ty_fi24_3 : fieldOf Try.prog 24 3 = some (3, 22) := by kernel_rfl
@[go_sem] theorem ty_pt24_3 : partT Try.prog 24 3 = some (3, 1) := by kernel_rfl
attribute [go_sem] Try.underlying24 Try.stoodInHeld24 Try.eqGuardType24
@[go_sem] theorem ty_has25 : hasT Try.prog 25 = true := by kernel_rfl
@[go_sem] theorem ty_sz25 : szT Try.prog 25 = 1 := by kernel_rfl
@[go_sem] theorem ty_by25 : Try.prog.bytesOf 25 = 8 := by kernel_rfl
@[go_sem] theorem ty_agg25 : aggT Try.prog 25 = false := by kernel_rfl
@[go_sem] theorem ty_el25 : elemT Try.prog 25 = none := by kernel_rfl
@[go_sem] theorem ty_ar25 : arrT Try.prog 25 = none := by kernel_rfl
@[go_sem] theorem ty_ze25 : zeroT Try.prog 25 = some [.nilFunc] := by kernel_rfl
@[go_sem] theorem ty_has26 : hasT Try.prog 26 = true := by kernel_rfl
@[go_sem] theorem ty_sz26 : szT Try.prog 26 = 1 := by kernel_rfl
@[go_sem] theorem ty_by26 : Try.prog.bytesOf 26 = 8 := by kernel_rfl
@[go_sem] theorem ty_agg26 : aggT Try.prog 26 = false := by kernel_rfl
@[go_sem] theorem ty_el26 : elemT Try.prog 26 = none := by kernel_rfl
@[go_sem] theorem ty_ar26 : arrT Try.prog 26 = none := by kernel_rfl
@[go_sem] theorem ty_ze26 : zeroT Try.prog 26 = some [.nilFunc] := by kernel_rfl
@[go_sem] theorem ty_has27 : hasT Try.prog 27 = true := by kernel_rfl
@[go_sem] theorem ty_sz27 : szT Try.prog 27 = 4 := by kernel_rfl
@[go_sem] theorem ty_by27 : Try.prog.bytesOf 27 = 48 := by kernel_rfl
@[go_sem] theorem ty_agg27 : aggT Try.prog 27 = true := by kernel_rfl
@[go_sem] theorem ty_el27 : elemT Try.prog 27 = none := by kernel_rfl
@[go_sem] theorem ty_ar27 : arrT Try.prog 27 = none := by kernel_rfl
@[go_sem] theorem ty_ze27 : zeroT Try.prog 27 = some [.int .i64 0, .int .i64 0, .int .i64 0, .slice none 0 0] := by kernel_rfl
@[go_sem] theorem ty_po27 : partsOk Try.prog 27 = true := by kernel_rfl
@[go_sem] theorem ty_fi27_0 : fieldOf Try.prog 27 0 = some (0, 3) := by kernel_rfl
@[go_sem] theorem ty_pt27_0 : partT Try.prog 27 0 = some (0, 1) := by kernel_rfl
@[go_sem] theorem ty_fi27_1 : fieldOf Try.prog 27 1 = some (1, 3) := by kernel_rfl
@[go_sem] theorem ty_pt27_1 : partT Try.prog 27 1 = some (1, 1) := by kernel_rfl
@[go_sem] theorem ty_fi27_2 : fieldOf Try.prog 27 2 = some (2, 3) := by kernel_rfl
@[go_sem] theorem ty_pt27_2 : partT Try.prog 27 2 = some (2, 1) := by kernel_rfl
@[go_sem] theorem ty_fi27_3 : fieldOf Try.prog 27 3 = some (3, 22) := by kernel_rfl
@[go_sem] theorem ty_pt27_3 : partT Try.prog 27 3 = some (3, 1) := by kernel_rfl
attribute [go_sem] Try.underlying27 Try.stoodInHeld27 Try.eqGuardType27
@[go_sem] theorem ty_has28 : hasT Try.prog 28 = true := by kernel_rfl
@[go_sem] theorem ty_sz28 : szT Try.prog 28 = 1 := by kernel_rfl
@[go_sem] theorem ty_by28 : Try.prog.bytesOf 28 = 8 := by kernel_rfl
@[go_sem] theorem ty_agg28 : aggT Try.prog 28 = false := by kernel_rfl
@[go_sem] theorem ty_el28 : elemT Try.prog 28 = none := by kernel_rfl
@[go_sem] theorem ty_ar28 : arrT Try.prog 28 = none := by kernel_rfl
@[go_sem] theorem ty_ze28 : zeroT Try.prog 28 = some [.nilFunc] := by kernel_rfl
@[go_sem] theorem ty_has29 : hasT Try.prog 29 = true := by kernel_rfl
@[go_sem] theorem ty_sz29 : szT Try.prog 29 = 1 := by kernel_rfl
@[go_sem] theorem ty_by29 : Try.prog.bytesOf 29 = 8 := by kernel_rfl
@[go_sem] theorem ty_agg29 : aggT Try.prog 29 = false := by kernel_rfl
@[go_sem] theorem ty_el29 : elemT Try.prog 29 = none := by kernel_rfl
@[go_sem] theorem ty_ar29 : arrT Try.prog 29 = none := by kernel_rfl
@[go_sem] theorem ty_ze29 : zeroT Try.prog 29 = some [.nilFunc] := by kernel_rfl
@[go_sem] theorem ty_has30 : hasT Try.prog 30 = true := by kernel_rfl
@[go_sem] theorem ty_sz30 : szT Try.prog 30 = 1 := by kernel_rfl
@[go_sem] theorem ty_by30 : Try.prog.bytesOf 30 = 8 := by kernel_rfl
@[go_sem] theorem ty_agg30 : aggT Try.prog 30 = false := by kernel_rfl
@[go_sem] theorem ty_el30 : elemT Try.prog 30 = none := by kernel_rfl
@[go_sem] theorem ty_ar30 : arrT Try.prog 30 = none := by kernel_rfl
@[go_sem] theorem ty_ze30 : zeroT Try.prog 30 = some [.nilFunc] := by kernel_rfl
@[go_sem] theorem ty_has31 : hasT Try.prog 31 = true := by kernel_rfl
@[go_sem] theorem ty_sz31 : szT Try.prog 31 = 1 := by kernel_rfl
@[go_sem] theorem ty_by31 : Try.prog.bytesOf 31 = 24 := by kernel_rfl
@[go_sem] theorem ty_agg31 : aggT Try.prog 31 = false := by kernel_rfl
@[go_sem] theorem ty_el31 : elemT Try.prog 31 = some 80 := by kernel_rfl
@[go_sem] theorem ty_ar31 : arrT Try.prog 31 = none := by kernel_rfl
@[go_sem] theorem ty_ze31 : zeroT Try.prog 31 = some [.slice none 0 0] := by kernel_rfl
@[go_sem] theorem ty_has32 : hasT Try.prog 32 = true := by kernel_rfl
@[go_sem] theorem ty_sz32 : szT Try.prog 32 = 1 := by kernel_rfl
@[go_sem] theorem ty_by32 : Try.prog.bytesOf 32 = 8 := by kernel_rfl
@[go_sem] theorem ty_agg32 : aggT Try.prog 32 = false := by kernel_rfl
@[go_sem] theorem ty_el32 : elemT Try.prog 32 = none := by kernel_rfl
@[go_sem] theorem ty_ar32 : arrT Try.prog 32 = none := by kernel_rfl
@[go_sem] theorem ty_ze32 : zeroT Try.prog 32 = some [.nilFunc] := by kernel_rfl
@[go_sem] theorem ty_has33 : hasT Try.prog 33 = true := by kernel_rfl
@[go_sem] theorem ty_sz33 : szT Try.prog 33 = 1 := by kernel_rfl
@[go_sem] theorem ty_by33 : Try.prog.bytesOf 33 = 8 := by kernel_rfl
@[go_sem] theorem ty_agg33 : aggT Try.prog 33 = false := by kernel_rfl
@[go_sem] theorem ty_el33 : elemT Try.prog 33 = none := by kernel_rfl
@[go_sem] theorem ty_ar33 : arrT Try.prog 33 = none := by kernel_rfl
@[go_sem] theorem ty_ze33 : zeroT Try.prog 33 = some [.nilFunc] := by kernel_rfl
@[go_sem] theorem ty_has34 : hasT Try.prog 34 = true := by kernel_rfl
@[go_sem] theorem ty_sz34 : szT Try.prog 34 = 1 := by kernel_rfl
@[go_sem] theorem ty_by34 : Try.prog.bytesOf 34 = 24 := by kernel_rfl
@[go_sem] theorem ty_agg34 : aggT Try.prog 34 = false := by kernel_rfl
@[go_sem] theorem ty_el34 : elemT Try.prog 34 = some 78 := by kernel_rfl
@[go_sem] theorem ty_ar34 : arrT Try.prog 34 = none := by kernel_rfl
@[go_sem] theorem ty_ze34 : zeroT Try.prog 34 = some [.slice none 0 0] := by kernel_rfl
@[go_sem] theorem ty_has35 : hasT Try.prog 35 = true := by kernel_rfl
@[go_sem] theorem ty_sz35 : szT Try.prog 35 = 1 := by kernel_rfl
@[go_sem] theorem ty_by35 : Try.prog.bytesOf 35 = 8 := by kernel_rfl
@[go_sem] theorem ty_agg35 : aggT Try.prog 35 = false := by kernel_rfl
@[go_sem] theorem ty_el35 : elemT Try.prog 35 = none := by kernel_rfl
@[go_sem] theorem ty_ar35 : arrT Try.prog 35 = none := by kernel_rfl
@[go_sem] theorem ty_ze35 : zeroT Try.prog 35 = some [.nilFunc] := by kernel_rfl
@[go_sem] theorem ty_has36 : hasT Try.prog 36 = true := by kernel_rfl
@[go_sem] theorem ty_sz36 : szT Try.prog 36 = 1 := by kernel_rfl
@[go_sem] theorem ty_by36 : Try.prog.bytesOf 36 = 8 := by kernel_rfl
@[go_sem] theorem ty_agg36 : aggT Try.prog 36 = false := by kernel_rfl
@[go_sem] theorem ty_el36 : elemT Try.prog 36 = none := by kernel_rfl
@[go_sem] theorem ty_ar36 : arrT Try.prog 36 = none := by kernel_rfl
@[go_sem] theorem ty_ze36 : zeroT Try.prog 36 = some [.nilFunc] := by kernel_rfl
@[go_sem] theorem ty_has37 : hasT Try.prog 37 = true := by kernel_rfl
@[go_sem] theorem ty_sz37 : szT Try.prog 37 = 1 := by kernel_rfl
@[go_sem] theorem ty_by37 : Try.prog.bytesOf 37 = 8 := by kernel_rfl
@[go_sem] theorem ty_agg37 : aggT Try.prog 37 = false := by kernel_rfl
@[go_sem] theorem ty_el37 : elemT Try.prog 37 = none := by kernel_rfl
@[go_sem] theorem ty_ar37 : arrT Try.prog 37 = none := by kernel_rfl
@[go_sem] theorem ty_ze37 : zeroT Try.prog 37 = some [.nilFunc] := by kernel_rfl
@[go_sem] theorem ty_has38 : hasT Try.prog 38 = true := by kernel_rfl
@[go_sem] theorem ty_sz38 : szT Try.prog 38 = 1 := by kernel_rfl
@[go_sem] theorem ty_by38 : Try.prog.bytesOf 38 = 8 := by kernel_rfl
@[go_sem] theorem ty_agg38 : aggT Try.prog 38 = false := by kernel_rfl
@[go_sem] theorem ty_el38 : elemT Try.prog 38 = none := by kernel_rfl
@[go_sem] theorem ty_ar38 : arrT Try.prog 38 = none := by kernel_rfl
@[go_sem] theorem ty_ze38 : zeroT Try.prog 38 = some [.nilFunc] := by kernel_rfl
@[go_sem] theorem ty_has39 : hasT Try.prog 39 = true := by kernel_rfl
@[go_sem] theorem ty_sz39 : szT Try.prog 39 = 1 := by kernel_rfl
@[go_sem] theorem ty_by39 : Try.prog.bytesOf 39 = 8 := by kernel_rfl
@[go_sem] theorem ty_agg39 : aggT Try.prog 39 = false := by kernel_rfl
@[go_sem] theorem ty_el39 : elemT Try.prog 39 = none := by kernel_rfl
@[go_sem] theorem ty_ar39 : arrT Try.prog 39 = none := by kernel_rfl
@[go_sem] theorem ty_ze39 : zeroT Try.prog 39 = some [.nilFunc] := by kernel_rfl
@[go_sem] theorem ty_has40 : hasT Try.prog 40 = true := by kernel_rfl
@[go_sem] theorem ty_sz40 : szT Try.prog 40 = 1 := by kernel_rfl
@[go_sem] theorem ty_by40 : Try.prog.bytesOf 40 = 24 := by kernel_rfl
@[go_sem] theorem ty_agg40 : aggT Try.prog 40 = false := by kernel_rfl
@[go_sem] theorem ty_el40 : elemT Try.prog 40 = some 91 := by kernel_rfl
@[go_sem] theorem ty_ar40 : arrT Try.prog 40 = none := by kernel_rfl
@[go_sem] theorem ty_ze40 : zeroT Try.prog 40 = some [.slice none 0 0] := by kernel_rfl
@[go_sem] theorem ty_has41 : hasT Try.prog 41 = true := by kernel_rfl
@[go_sem] theorem ty_sz41 : szT Try.prog 41 = 4 := by kernel_rfl
@[go_sem] theorem ty_by41 : Try.prog.bytesOf 41 = 48 := by kernel_rfl
@[go_sem] theorem ty_agg41 : aggT Try.prog 41 = true := by kernel_rfl
@[go_sem] theorem ty_el41 : elemT Try.prog 41 = none := by kernel_rfl
@[go_sem] theorem ty_ar41 : arrT Try.prog 41 = none := by kernel_rfl
@[go_sem] theorem ty_ze41 : zeroT Try.prog 41 = some [.int .i64 0, .int .i64 0, .int .i64 0, .slice none 0 0] := by kernel_rfl
@[go_sem] theorem ty_po41 : partsOk Try.prog 41 = true := by kernel_rfl
@[go_sem] theorem ty_fi41_0 : fieldOf Try.prog 41 0 = some (0, 3) := by kernel_rfl
@[go_sem] theorem ty_pt41_0 : partT Try.prog 41 0 = some (0, 1) := by kernel_rfl
@[go_sem] theorem ty_fi41_1 : fieldOf Try.prog 41 1 = some (1, 3) := by kernel_rfl
@[go_sem] theorem ty_pt41_1 : partT Try.prog 41 1 = some (1, 1) := by kernel_rfl
@[go_sem] theorem ty_fi41_2 : fieldOf Try.prog 41 2 = some (2, 3) := by kernel_rfl
@[go_sem] theorem ty_pt41_2 : partT Try.prog 41 2 = some (2, 1) := by kernel_rfl
@[go_sem] theorem ty_fi41_3 : fieldOf Try.prog 41 3 = some (3, 40) := by kernel_rfl
@[go_sem] theorem ty_pt41_3 : partT Try.prog 41 3 = some (3, 1) := by kernel_rfl
attribute [go_sem] Try.underlying41 Try.stoodInHeld41 Try.eqGuardType41
@[go_sem] theorem ty_has42 : hasT Try.prog 42 = true := by kernel_rfl
@[go_sem] theorem ty_sz42 : szT Try.prog 42 = 4 := by kernel_rfl
@[go_sem] theorem ty_by42 : Try.prog.bytesOf 42 = 48 := by kernel_rfl
@[go_sem] theorem ty_agg42 : aggT Try.prog 42 = true := by kernel_rfl
@[go_sem] theorem ty_el42 : elemT Try.prog 42 = none := by kernel_rfl
@[go_sem] theorem ty_ar42 : arrT Try.prog 42 = none := by kernel_rfl
@[go_sem] theorem ty_ze42 : zeroT Try.prog 42 = some [.int .i64 0, .int .i64 0, .int .i64 0, .slice none 0 0] := by kernel_rfl
@[go_sem] theorem ty_po42 : partsOk Try.prog 42 = true := by kernel_rfl
@[go_sem] theorem ty_fi42_0 : fieldOf Try.prog 42 0 = some (0, 3) := by kernel_rfl
@[go_sem] theorem ty_pt42_0 : partT Try.prog 42 0 = some (0, 1) := by kernel_rfl
@[go_sem] theorem ty_fi42_1 : fieldOf Try.prog 42 1 = some (1, 3) := by kernel_rfl
@[go_sem] theorem ty_pt42_1 : partT Try.prog 42 1 = some (1, 1) := by kernel_rfl
@[go_sem] theorem ty_fi42_2 : fieldOf Try.prog 42 2 = some (2, 3) := by kernel_rfl
@[go_sem] theorem ty_pt42_2 : partT Try.prog 42 2 = some (2, 1) := by kernel_rfl
@[go_sem] theorem ty_fi42_3 : fieldOf Try.prog 42 3 = some (3, 40) := by kernel_rfl
@[go_sem] theorem ty_pt42_3 : partT Try.prog 42 3 = some (3, 1) := by kernel_rfl
attribute [go_sem] Try.underlying42 Try.stoodInHeld42 Try.eqGuardType42
@[go_sem] theorem ty_has43 : hasT Try.prog 43 = true := by kernel_rfl
@[go_sem] theorem ty_sz43 : szT Try.prog 43 = 1 := by kernel_rfl
@[go_sem] theorem ty_by43 : Try.prog.bytesOf 43 = 8 := by kernel_rfl
@[go_sem] theorem ty_agg43 : aggT Try.prog 43 = false := by kernel_rfl
@[go_sem] theorem ty_el43 : elemT Try.prog 43 = none := by kernel_rfl
@[go_sem] theorem ty_ar43 : arrT Try.prog 43 = none := by kernel_rfl
@[go_sem] theorem ty_ze43 : zeroT Try.prog 43 = some [.nilFunc] := by kernel_rfl
@[go_sem] theorem ty_has44 : hasT Try.prog 44 = true := by kernel_rfl
@[go_sem] theorem ty_sz44 : szT Try.prog 44 = 1 := by kernel_rfl
@[go_sem] theorem ty_by44 : Try.prog.bytesOf 44 = 8 := by kernel_rfl
@[go_sem] theorem ty_agg44 : aggT Try.prog 44 = false := by kernel_rfl
@[go_sem] theorem ty_el44 : elemT Try.prog 44 = none := by kernel_rfl
@[go_sem] theorem ty_ar44 : arrT Try.prog 44 = none := by kernel_rfl
@[go_sem] theorem ty_ze44 : zeroT Try.prog 44 = some [.nilFunc] := by kernel_rfl
@[go_sem] theorem ty_has45 : hasT Try.prog 45 = true := by kernel_rfl
@[go_sem] theorem ty_sz45 : szT Try.prog 45 = 1 := by kernel_rfl
@[go_sem] theorem ty_by45 : Try.prog.bytesOf 45 = 24 := by kernel_rfl
@[go_sem] theorem ty_agg45 : aggT Try.prog 45 = false := by kernel_rfl
@[go_sem] theorem ty_el45 : elemT Try.prog 45 = some 85 := by kernel_rfl
@[go_sem] theorem ty_ar45 : arrT Try.prog 45 = none := by kernel_rfl
@[go_sem] theorem ty_ze45 : zeroT Try.prog 45 = some [.slice none 0 0] := by kernel_rfl
@[go_sem] theorem ty_has46 : hasT Try.prog 46 = true := by kernel_rfl
@[go_sem] theorem ty_sz46 : szT Try.prog 46 = 4 := by kernel_rfl
@[go_sem] theorem ty_by46 : Try.prog.bytesOf 46 = 48 := by kernel_rfl
@[go_sem] theorem ty_agg46 : aggT Try.prog 46 = true := by kernel_rfl
@[go_sem] theorem ty_el46 : elemT Try.prog 46 = none := by kernel_rfl
@[go_sem] theorem ty_ar46 : arrT Try.prog 46 = none := by kernel_rfl
@[go_sem] theorem ty_ze46 : zeroT Try.prog 46 = some [.int .i64 0, .int .i64 0, .int .i64 0, .slice none 0 0] := by kernel_rfl
@[go_sem] theorem ty_po46 : partsOk Try.prog 46 = true := by kernel_rfl
@[go_sem] theorem ty_fi46_0 : fieldOf Try.prog 46 0 = some (0, 3) := by kernel_rfl
@[go_sem] theorem ty_pt46_0 : partT Try.prog 46 0 = some (0, 1) := by kernel_rfl
@[go_sem] theorem ty_fi46_1 : fieldOf Try.prog 46 1 = some (1, 3) := by kernel_rfl
@[go_sem] theorem ty_pt46_1 : partT Try.prog 46 1 = some (1, 1) := by kernel_rfl
@[go_sem] theorem ty_fi46_2 : fieldOf Try.prog 46 2 = some (2, 3) := by kernel_rfl
@[go_sem] theorem ty_pt46_2 : partT Try.prog 46 2 = some (2, 1) := by kernel_rfl
@[go_sem] theorem ty_fi46_3 : fieldOf Try.prog 46 3 = some (3, 45) := by kernel_rfl
@[go_sem] theorem ty_pt46_3 : partT Try.prog 46 3 = some (3, 1) := by kernel_rfl
attribute [go_sem] Try.underlying46 Try.stoodInHeld46 Try.eqGuardType46
@[go_sem] theorem ty_has47 : hasT Try.prog 47 = true := by kernel_rfl
@[go_sem] theorem ty_sz47 : szT Try.prog 47 = 4 := by kernel_rfl
@[go_sem] theorem ty_by47 : Try.prog.bytesOf 47 = 48 := by kernel_rfl
@[go_sem] theorem ty_agg47 : aggT Try.prog 47 = true := by kernel_rfl
@[go_sem] theorem ty_el47 : elemT Try.prog 47 = none := by kernel_rfl
@[go_sem] theorem ty_ar47 : arrT Try.prog 47 = none := by kernel_rfl
@[go_sem] theorem ty_ze47 : zeroT Try.prog 47 = some [.int .i64 0, .int .i64 0, .int .i64 0, .slice none 0 0] := by kernel_rfl
@[go_sem] theorem ty_po47 : partsOk Try.prog 47 = true := by kernel_rfl
@[go_sem] theorem ty_fi47_0 : fieldOf Try.prog 47 0 = some (0, 3) := by kernel_rfl
@[go_sem] theorem ty_pt47_0 : partT Try.prog 47 0 = some (0, 1) := by kernel_rfl
@[go_sem] theorem ty_fi47_1 : fieldOf Try.prog 47 1 = some (1, 3) := by kernel_rfl
@[go_sem] theorem ty_pt47_1 : partT Try.prog 47 1 = some (1, 1) := by kernel_rfl
@[go_sem] theorem ty_fi47_2 : fieldOf Try.prog 47 2 = some (2, 3) := by kernel_rfl
@[go_sem] theorem ty_pt47_2 : partT Try.prog 47 2 = some (2, 1) := by kernel_rfl
@[go_sem] theorem ty_fi47_3 : fieldOf Try.prog 47 3 = some (3, 45) := by kernel_rfl
@[go_sem] theorem ty_pt47_3 : partT Try.prog 47 3 = some (3, 1) := by kernel_rfl
attribute [go_sem] Try.underlying47 Try.stoodInHeld47 Try.eqGuardType47
@[go_sem] theorem ty_has48 : hasT Try.prog 48 = true := by kernel_rfl
@[go_sem] theorem ty_sz48 : szT Try.prog 48 = 1 := by kernel_rfl
@[go_sem] theorem ty_by48 : Try.prog.bytesOf 48 = 8 := by kernel_rfl
@[go_sem] theorem ty_agg48 : aggT Try.prog 48 = false := by kernel_rfl
@[go_sem] theorem ty_el48 : elemT Try.prog 48 = none := by kernel_rfl
@[go_sem] theorem ty_ar48 : arrT Try.prog 48 = none := by kernel_rfl
@[go_sem] theorem ty_ze48 : zeroT Try.prog 48 = some [.nilFunc] := by kernel_rfl
@[go_sem] theorem ty_has49 : hasT Try.prog 49 = true := by kernel_rfl
@[go_sem] theorem ty_sz49 : szT Try.prog 49 = 1 := by kernel_rfl
@[go_sem] theorem ty_by49 : Try.prog.bytesOf 49 = 8 := by kernel_rfl
@[go_sem] theorem ty_agg49 : aggT Try.prog 49 = false := by kernel_rfl
@[go_sem] theorem ty_el49 : elemT Try.prog 49 = none := by kernel_rfl
@[go_sem] theorem ty_ar49 : arrT Try.prog 49 = none := by kernel_rfl
@[go_sem] theorem ty_ze49 : zeroT Try.prog 49 = some [.nilFunc] := by kernel_rfl
@[go_sem] theorem ty_has50 : hasT Try.prog 50 = true := by kernel_rfl
@[go_sem] theorem ty_sz50 : szT Try.prog 50 = 1 := by kernel_rfl
@[go_sem] theorem ty_by50 : Try.prog.bytesOf 50 = 8 := by kernel_rfl
@[go_sem] theorem ty_agg50 : aggT Try.prog 50 = false := by kernel_rfl
@[go_sem] theorem ty_el50 : elemT Try.prog 50 = none := by kernel_rfl
@[go_sem] theorem ty_ar50 : arrT Try.prog 50 = none := by kernel_rfl
@[go_sem] theorem ty_ze50 : zeroT Try.prog 50 = some [.nilFunc] := by kernel_rfl
@[go_sem] theorem ty_has51 : hasT Try.prog 51 = true := by kernel_rfl
@[go_sem] theorem ty_sz51 : szT Try.prog 51 = 1 := by kernel_rfl
@[go_sem] theorem ty_by51 : Try.prog.bytesOf 51 = 24 := by kernel_rfl
@[go_sem] theorem ty_agg51 : aggT Try.prog 51 = false := by kernel_rfl
@[go_sem] theorem ty_el51 : elemT Try.prog 51 = some 42 := by kernel_rfl
@[go_sem] theorem ty_ar51 : arrT Try.prog 51 = none := by kernel_rfl
@[go_sem] theorem ty_ze51 : zeroT Try.prog 51 = some [.slice none 0 0] := by kernel_rfl
@[go_sem] theorem ty_has52 : hasT Try.prog 52 = true := by kernel_rfl
@[go_sem] theorem ty_sz52 : szT Try.prog 52 = 1 := by kernel_rfl
@[go_sem] theorem ty_by52 : Try.prog.bytesOf 52 = 8 := by kernel_rfl
@[go_sem] theorem ty_agg52 : aggT Try.prog 52 = false := by kernel_rfl
@[go_sem] theorem ty_el52 : elemT Try.prog 52 = none := by kernel_rfl
@[go_sem] theorem ty_ar52 : arrT Try.prog 52 = none := by kernel_rfl
@[go_sem] theorem ty_ze52 : zeroT Try.prog 52 = some [.nilFunc] := by kernel_rfl
@[go_sem] theorem ty_has53 : hasT Try.prog 53 = true := by kernel_rfl
@[go_sem] theorem ty_sz53 : szT Try.prog 53 = 1 := by kernel_rfl
@[go_sem] theorem ty_by53 : Try.prog.bytesOf 53 = 8 := by kernel_rfl
@[go_sem] theorem ty_agg53 : aggT Try.prog 53 = false := by kernel_rfl
@[go_sem] theorem ty_el53 : elemT Try.prog 53 = none := by kernel_rfl
@[go_sem] theorem ty_ar53 : arrT Try.prog 53 = none := by kernel_rfl
@[go_sem] theorem ty_ze53 : zeroT Try.prog 53 = some [.nilFunc] := by kernel_rfl
@[go_sem] theorem ty_has54 : hasT Try.prog 54 = true := by kernel_rfl
@[go_sem] theorem ty_sz54 : szT Try.prog 54 = 1 := by kernel_rfl
@[go_sem] theorem ty_by54 : Try.prog.bytesOf 54 = 24 := by kernel_rfl
@[go_sem] theorem ty_agg54 : aggT Try.prog 54 = false := by kernel_rfl
@[go_sem] theorem ty_el54 : elemT Try.prog 54 = some 47 := by kernel_rfl
@[go_sem] theorem ty_ar54 : arrT Try.prog 54 = none := by kernel_rfl
@[go_sem] theorem ty_ze54 : zeroT Try.prog 54 = some [.slice none 0 0] := by kernel_rfl
@[go_sem] theorem ty_has55 : hasT Try.prog 55 = true := by kernel_rfl
@[go_sem] theorem ty_sz55 : szT Try.prog 55 = 1 := by kernel_rfl
@[go_sem] theorem ty_by55 : Try.prog.bytesOf 55 = 8 := by kernel_rfl
@[go_sem] theorem ty_agg55 : aggT Try.prog 55 = false := by kernel_rfl
@[go_sem] theorem ty_el55 : elemT Try.prog 55 = none := by kernel_rfl
@[go_sem] theorem ty_ar55 : arrT Try.prog 55 = none := by kernel_rfl
@[go_sem] theorem ty_ze55 : zeroT Try.prog 55 = some [.nilFunc] := by kernel_rfl
@[go_sem] theorem ty_has56 : hasT Try.prog 56 = true := by kernel_rfl
@[go_sem] theorem ty_sz56 : szT Try.prog 56 = 1 := by kernel_rfl
@[go_sem] theorem ty_by56 : Try.prog.bytesOf 56 = 8 := by kernel_rfl
@[go_sem] theorem ty_agg56 : aggT Try.prog 56 = false := by kernel_rfl
@[go_sem] theorem ty_el56 : elemT Try.prog 56 = none := by kernel_rfl
@[go_sem] theorem ty_ar56 : arrT Try.prog 56 = none := by kernel_rfl
@[go_sem] theorem ty_ze56 : zeroT Try.prog 56 = some [.nilFunc] := by kernel_rfl
@[go_sem] theorem ty_has57 : hasT Try.prog 57 = true := by kernel_rfl
@[go_sem] theorem ty_sz57 : szT Try.prog 57 = 1 := by kernel_rfl
@[go_sem] theorem ty_by57 : Try.prog.bytesOf 57 = 8 := by kernel_rfl
@[go_sem] theorem ty_agg57 : aggT Try.prog 57 = false := by kernel_rfl
@[go_sem] theorem ty_el57 : elemT Try.prog 57 = none := by kernel_rfl
@[go_sem] theorem ty_ar57 : arrT Try.prog 57 = none := by kernel_rfl
@[go_sem] theorem ty_ze57 : zeroT Try.prog 57 = some [.nilFunc] := by kernel_rfl
@[go_sem] theorem ty_has58 : hasT Try.prog 58 = true := by kernel_rfl
@[go_sem] theorem ty_sz58 : szT Try.prog 58 = 1 := by kernel_rfl
@[go_sem] theorem ty_by58 : Try.prog.bytesOf 58 = 8 := by kernel_rfl
@[go_sem] theorem ty_agg58 : aggT Try.prog 58 = false := by kernel_rfl
@[go_sem] theorem ty_el58 : elemT Try.prog 58 = none := by kernel_rfl
@[go_sem] theorem ty_ar58 : arrT Try.prog 58 = none := by kernel_rfl
@[go_sem] theorem ty_ze58 : zeroT Try.prog 58 = some [.nilFunc] := by kernel_rfl
@[go_sem] theorem ty_has59 : hasT Try.prog 59 = true := by kernel_rfl
@[go_sem] theorem ty_sz59 : szT Try.prog 59 = 1 := by kernel_rfl
@[go_sem] theorem ty_by59 : Try.prog.bytesOf 59 = 8 := by kernel_rfl
@[go_sem] theorem ty_agg59 : aggT Try.prog 59 = false := by kernel_rfl
@[go_sem] theorem ty_el59 : elemT Try.prog 59 = none := by kernel_rfl
@[go_sem] theorem ty_ar59 : arrT Try.prog 59 = none := by kernel_rfl
@[go_sem] theorem ty_ze59 : zeroT Try.prog 59 = some [.nilFunc] := by kernel_rfl
@[go_sem] theorem ty_has60 : hasT Try.prog 60 = true := by kernel_rfl
@[go_sem] theorem ty_sz60 : szT Try.prog 60 = 1 := by kernel_rfl
@[go_sem] theorem ty_by60 : Try.prog.bytesOf 60 = 8 := by kernel_rfl
@[go_sem] theorem ty_agg60 : aggT Try.prog 60 = false := by kernel_rfl
@[go_sem] theorem ty_el60 : elemT Try.prog 60 = none := by kernel_rfl
@[go_sem] theorem ty_ar60 : arrT Try.prog 60 = none := by kernel_rfl
@[go_sem] theorem ty_ze60 : zeroT Try.prog 60 = some [.nilFunc] := by kernel_rfl
@[go_sem] theorem ty_has61 : hasT Try.prog 61 = true := by kernel_rfl
@[go_sem] theorem ty_sz61 : szT Try.prog 61 = 1 := by kernel_rfl
@[go_sem] theorem ty_by61 : Try.prog.bytesOf 61 = 8 := by kernel_rfl
@[go_sem] theorem ty_agg61 : aggT Try.prog 61 = false := by kernel_rfl
@[go_sem] theorem ty_el61 : elemT Try.prog 61 = none := by kernel_rfl
@[go_sem] theorem ty_ar61 : arrT Try.prog 61 = none := by kernel_rfl
@[go_sem] theorem ty_ze61 : zeroT Try.prog 61 = some [.nilFunc] := by kernel_rfl
@[go_sem] theorem ty_has62 : hasT Try.prog 62 = true := by kernel_rfl
@[go_sem] theorem ty_sz62 : szT Try.prog 62 = 1 := by kernel_rfl
@[go_sem] theorem ty_by62 : Try.prog.bytesOf 62 = 8 := by kernel_rfl
@[go_sem] theorem ty_agg62 : aggT Try.prog 62 = false := by kernel_rfl
@[go_sem] theorem ty_el62 : elemT Try.prog 62 = none := by kernel_rfl
@[go_sem] theorem ty_ar62 : arrT Try.prog 62 = none := by kernel_rfl
@[go_sem] theorem ty_ze62 : zeroT Try.prog 62 = some [.nilFunc] := by kernel_rfl
@[go_sem] theorem ty_has63 : hasT Try.prog 63 = true := by kernel_rfl
@[go_sem] theorem ty_sz63 : szT Try.prog 63 = 1 := by kernel_rfl
@[go_sem] theorem ty_by63 : Try.prog.bytesOf 63 = 8 := by kernel_rfl
@[go_sem] theorem ty_agg63 : aggT Try.prog 63 = false := by kernel_rfl
@[go_sem] theorem ty_el63 : elemT Try.prog 63 = none := by kernel_rfl
@[go_sem] theorem ty_ar63 : arrT Try.prog 63 = none := by kernel_rfl
@[go_sem] theorem ty_ze63 : zeroT Try.prog 63 = some [.nilFunc] := by kernel_rfl
@[go_sem] theorem ty_has64 : hasT Try.prog 64 = true := by kernel_rfl
@[go_sem] theorem ty_sz64 : szT Try.prog 64 = 1 := by kernel_rfl
@[go_sem] theorem ty_by64 : Try.prog.bytesOf 64 = 8 := by kernel_rfl
@[go_sem] theorem ty_agg64 : aggT Try.prog 64 = false := by kernel_rfl
@[go_sem] theorem ty_el64 : elemT Try.prog 64 = none := by kernel_rfl
@[go_sem] theorem ty_ar64 : arrT Try.prog 64 = none := by kernel_rfl
@[go_sem] theorem ty_ze64 : zeroT Try.prog 64 = some [.nilFunc] := by kernel_rfl
@[go_sem] theorem ty_has65 : hasT Try.prog 65 = true := by kernel_rfl
@[go_sem] theorem ty_sz65 : szT Try.prog 65 = 1 := by kernel_rfl
@[go_sem] theorem ty_by65 : Try.prog.bytesOf 65 = 8 := by kernel_rfl
@[go_sem] theorem ty_agg65 : aggT Try.prog 65 = false := by kernel_rfl
@[go_sem] theorem ty_el65 : elemT Try.prog 65 = none := by kernel_rfl
@[go_sem] theorem ty_ar65 : arrT Try.prog 65 = none := by kernel_rfl
@[go_sem] theorem ty_ze65 : zeroT Try.prog 65 = some [.nilFunc] := by kernel_rfl
@[go_sem] theorem ty_has66 : hasT Try.prog 66 = true := by kernel_rfl
@[go_sem] theorem ty_sz66 : szT Try.prog 66 = 1 := by kernel_rfl
@[go_sem] theorem ty_by66 : Try.prog.bytesOf 66 = 8 := by kernel_rfl
@[go_sem] theorem ty_agg66 : aggT Try.prog 66 = false := by kernel_rfl
@[go_sem] theorem ty_el66 : elemT Try.prog 66 = none := by kernel_rfl
@[go_sem] theorem ty_ar66 : arrT Try.prog 66 = none := by kernel_rfl
@[go_sem] theorem ty_ze66 : zeroT Try.prog 66 = some [.nilFunc] := by kernel_rfl
@[go_sem] theorem ty_has67 : hasT Try.prog 67 = true := by kernel_rfl
@[go_sem] theorem ty_sz67 : szT Try.prog 67 = 1 := by kernel_rfl
@[go_sem] theorem ty_by67 : Try.prog.bytesOf 67 = 8 := by kernel_rfl
@[go_sem] theorem ty_agg67 : aggT Try.prog 67 = false := by kernel_rfl
@[go_sem] theorem ty_el67 : elemT Try.prog 67 = none := by kernel_rfl
@[go_sem] theorem ty_ar67 : arrT Try.prog 67 = none := by kernel_rfl
@[go_sem] theorem ty_ze67 : zeroT Try.prog 67 = some [.nilFunc] := by kernel_rfl
@[go_sem] theorem ty_has68 : hasT Try.prog 68 = true := by kernel_rfl
@[go_sem] theorem ty_sz68 : szT Try.prog 68 = 1 := by kernel_rfl
@[go_sem] theorem ty_by68 : Try.prog.bytesOf 68 = 24 := by kernel_rfl
@[go_sem] theorem ty_agg68 : aggT Try.prog 68 = false := by kernel_rfl
@[go_sem] theorem ty_el68 : elemT Try.prog 68 = some 45 := by kernel_rfl
@[go_sem] theorem ty_ar68 : arrT Try.prog 68 = none := by kernel_rfl
@[go_sem] theorem ty_ze68 : zeroT Try.prog 68 = some [.slice none 0 0] := by kernel_rfl
@[go_sem] theorem ty_has69 : hasT Try.prog 69 = true := by kernel_rfl
@[go_sem] theorem ty_sz69 : szT Try.prog 69 = 1 := by kernel_rfl
@[go_sem] theorem ty_by69 : Try.prog.bytesOf 69 = 8 := by kernel_rfl
@[go_sem] theorem ty_agg69 : aggT Try.prog 69 = false := by kernel_rfl
@[go_sem] theorem ty_el69 : elemT Try.prog 69 = none := by kernel_rfl
@[go_sem] theorem ty_ar69 : arrT Try.prog 69 = none := by kernel_rfl
@[go_sem] theorem ty_ze69 : zeroT Try.prog 69 = some [.nilFunc] := by kernel_rfl
@[go_sem] theorem ty_has70 : hasT Try.prog 70 = true := by kernel_rfl
@[go_sem] theorem ty_sz70 : szT Try.prog 70 = 1 := by kernel_rfl
@[go_sem] theorem ty_by70 : Try.prog.bytesOf 70 = 8 := by kernel_rfl
@[go_sem] theorem ty_agg70 : aggT Try.prog 70 = false := by kernel_rfl
@[go_sem] theorem ty_el70 : elemT Try.prog 70 = none := by kernel_rfl
@[go_sem] theorem ty_ar70 : arrT Try.prog 70 = none := by kernel_rfl
@[go_sem] theorem ty_ze70 : zeroT Try.prog 70 = some [.nilFunc] := by kernel_rfl
@[go_sem] theorem ty_has71 : hasT Try.prog 71 = true := by kernel_rfl
@[go_sem] theorem ty_sz71 : szT Try.prog 71 = 1 := by kernel_rfl
@[go_sem] theorem ty_by71 : Try.prog.bytesOf 71 = 8 := by kernel_rfl
@[go_sem] theorem ty_agg71 : aggT Try.prog 71 = false := by kernel_rfl
@[go_sem] theorem ty_el71 : elemT Try.prog 71 = none := by kernel_rfl
@[go_sem] theorem ty_ar71 : arrT Try.prog 71 = none := by kernel_rfl
@[go_sem] theorem ty_ze71 : zeroT Try.prog 71 = some [.nilFunc] := by kernel_rfl
@[go_sem] theorem ty_has72 : hasT Try.prog 72 = true := by kernel_rfl
@[go_sem] theorem ty_sz72 : szT Try.prog 72 = 1 := by kernel_rfl
@[go_sem] theorem ty_by72 : Try.prog.bytesOf 72 = 8 := by kernel_rfl
@[go_sem] theorem ty_agg72 : aggT Try.prog 72 = false := by kernel_rfl
@[go_sem] theorem ty_el72 : elemT Try.prog 72 = none := by kernel_rfl
@[go_sem] theorem ty_ar72 : arrT Try.prog 72 = none := by kernel_rfl
@[go_sem] theorem ty_ze72 : zeroT Try.prog 72 = some [.nilFunc] := by kernel_rfl
@[go_sem] theorem ty_has73 : hasT Try.prog 73 = true := by kernel_rfl
@[go_sem] theorem ty_sz73 : szT Try.prog 73 = 1 := by kernel_rfl
@[go_sem] theorem ty_by73 : Try.prog.bytesOf 73 = 8 := by kernel_rfl
@[go_sem] theorem ty_agg73 : aggT Try.prog 73 = false := by kernel_rfl
@[go_sem] theorem ty_el73 : elemT Try.prog 73 = none := by kernel_rfl
@[go_sem] theorem ty_ar73 : arrT Try.prog 73 = none := by kernel_rfl
@[go_sem] theorem ty_ze73 : zeroT Try.prog 73 = some [.nilFunc] := by kernel_rfl
@[go_sem] theorem ty_has74 : hasT Try.prog 74 = true := by kernel_rfl
@[go_sem] theorem ty_sz74 : szT Try.prog 74 = 1 := by kernel_rfl
@[go_sem] theorem ty_by74 : Try.prog.bytesOf 74 = 8 := by kernel_rfl
@[go_sem] theorem ty_agg74 : aggT Try.prog 74 = false := by kernel_rfl
@[go_sem] theorem ty_el74 : elemT Try.prog 74 = none := by kernel_rfl
@[go_sem] theorem ty_ar74 : arrT Try.prog 74 = none := by kernel_rfl
@[go_sem] theorem ty_ze74 : zeroT Try.prog 74 = some [.nilFunc] := by kernel_rfl
@[go_sem] theorem ty_has75 : hasT Try.prog 75 = true := by kernel_rfl
@[go_sem] theorem ty_sz75 : szT Try.prog 75 = 1 := by kernel_rfl
@[go_sem] theorem ty_by75 : Try.prog.bytesOf 75 = 8 := by kernel_rfl
@[go_sem] theorem ty_agg75 : aggT Try.prog 75 = false := by kernel_rfl
@[go_sem] theorem ty_el75 : elemT Try.prog 75 = none := by kernel_rfl
@[go_sem] theorem ty_ar75 : arrT Try.prog 75 = none := by kernel_rfl
@[go_sem] theorem ty_ze75 : zeroT Try.prog 75 = some [.nilFunc] := by kernel_rfl
@[go_sem] theorem ty_has76 : hasT Try.prog 76 = true := by kernel_rfl
@[go_sem] theorem ty_sz76 : szT Try.prog 76 = 1 := by kernel_rfl
@[go_sem] theorem ty_by76 : Try.prog.bytesOf 76 = 8 := by kernel_rfl
@[go_sem] theorem ty_agg76 : aggT Try.prog 76 = false := by kernel_rfl
@[go_sem] theorem ty_el76 : elemT Try.prog 76 = none := by kernel_rfl
@[go_sem] theorem ty_ar76 : arrT Try.prog 76 = none := by kernel_rfl
@[go_sem] theorem ty_ze76 : zeroT Try.prog 76 = some [.nilFunc] := by kernel_rfl
@[go_sem] theorem ty_has77 : hasT Try.prog 77 = true := by kernel_rfl
@[go_sem] theorem ty_sz77 : szT Try.prog 77 = 5 := by kernel_rfl
@[go_sem] theorem ty_by77 : Try.prog.bytesOf 77 = 40 := by kernel_rfl
@[go_sem] theorem ty_agg77 : aggT Try.prog 77 = true := by kernel_rfl
@[go_sem] theorem ty_el77 : elemT Try.prog 77 = none := by kernel_rfl
@[go_sem] theorem ty_ar77 : arrT Try.prog 77 = none := by kernel_rfl
@[go_sem] theorem ty_ze77 : zeroT Try.prog 77 = some [.int .i64 0, .int .i64 0, .int .i64 0, .int .i64 0, .int .i64 0] := by kernel_rfl
@[go_sem] theorem ty_po77 : partsOk Try.prog 77 = true := by kernel_rfl
@[go_sem] theorem ty_fi77_0 : fieldOf Try.prog 77 0 = some (0, 3) := by kernel_rfl
@[go_sem] theorem ty_pt77_0 : partT Try.prog 77 0 = some (0, 1) := by kernel_rfl
@[go_sem] theorem ty_fi77_1 : fieldOf Try.prog 77 1 = some (1, 3) := by kernel_rfl
@[go_sem] theorem ty_pt77_1 : partT Try.prog 77 1 = some (1, 1) := by kernel_rfl
@[go_sem] theorem ty_fi77_2 : fieldOf Try.prog 77 2 = some (2, 3) := by kernel_rfl
@[go_sem] theorem ty_pt77_2 : partT Try.prog 77 2 = some (2, 1) := by kernel_rfl
@[go_sem] theorem ty_fi77_3 : fieldOf Try.prog 77 3 = some (3, 3) := by kernel_rfl
@[go_sem] theorem ty_pt77_3 : partT Try.prog 77 3 = some (3, 1) := by kernel_rfl
@[go_sem] theorem ty_fi77_4 : fieldOf Try.prog 77 4 = some (4, 3) := by kernel_rfl
@[go_sem] theorem ty_pt77_4 : partT Try.prog 77 4 = some (4, 1) := by kernel_rfl
attribute [go_sem] Try.underlying77 Try.stoodInHeld77 Try.eqGuardType77
@[go_sem] theorem ty_has78 : hasT Try.prog 78 = true := by kernel_rfl
@[go_sem] theorem ty_sz78 : szT Try.prog 78 = 5 := by kernel_rfl
@[go_sem] theorem ty_by78 : Try.prog.bytesOf 78 = 40 := by kernel_rfl
@[go_sem] theorem ty_agg78 : aggT Try.prog 78 = true := by kernel_rfl
@[go_sem] theorem ty_el78 : elemT Try.prog 78 = none := by kernel_rfl
@[go_sem] theorem ty_ar78 : arrT Try.prog 78 = none := by kernel_rfl
@[go_sem] theorem ty_ze78 : zeroT Try.prog 78 = some [.int .i64 0, .int .i64 0, .int .i64 0, .int .i64 0, .int .i64 0] := by kernel_rfl
@[go_sem] theorem ty_po78 : partsOk Try.prog 78 = true := by kernel_rfl
@[go_sem] theorem ty_fi78_0 : fieldOf Try.prog 78 0 = some (0, 3) := by kernel_rfl
@[go_sem] theorem ty_pt78_0 : partT Try.prog 78 0 = some (0, 1) := by kernel_rfl
@[go_sem] theorem ty_fi78_1 : fieldOf Try.prog 78 1 = some (1, 3) := by kernel_rfl
@[go_sem] theorem ty_pt78_1 : partT Try.prog 78 1 = some (1, 1) := by kernel_rfl
@[go_sem] theorem ty_fi78_2 : fieldOf Try.prog 78 2 = some (2, 3) := by kernel_rfl
@[go_sem] theorem ty_pt78_2 : partT Try.prog 78 2 = some (2, 1) := by kernel_rfl
@[go_sem] theorem ty_fi78_3 : fieldOf Try.prog 78 3 = some (3, 3) := by kernel_rfl
@[go_sem] theorem ty_pt78_3 : partT Try.prog 78 3 = some (3, 1) := by kernel_rfl
@[go_sem] theorem ty_fi78_4 : fieldOf Try.prog 78 4 = some (4, 3) := by kernel_rfl
@[go_sem] theorem ty_pt78_4 : partT Try.prog 78 4 = some (4, 1) := by kernel_rfl
attribute [go_sem] Try.underlying78 Try.stoodInHeld78 Try.eqGuardType78
@[go_sem] theorem ty_has79 : hasT Try.prog 79 = true := by kernel_rfl
@[go_sem] theorem ty_sz79 : szT Try.prog 79 = 1 := by kernel_rfl
@[go_sem] theorem ty_by79 : Try.prog.bytesOf 79 = 8 := by kernel_rfl
@[go_sem] theorem ty_agg79 : aggT Try.prog 79 = false := by kernel_rfl
@[go_sem] theorem ty_el79 : elemT Try.prog 79 = none := by kernel_rfl
@[go_sem] theorem ty_ar79 : arrT Try.prog 79 = none := by kernel_rfl
@[go_sem] theorem ty_ze79 : zeroT Try.prog 79 = some [.nilFunc] := by kernel_rfl
@[go_sem] theorem ty_has80 : hasT Try.prog 80 = true := by kernel_rfl
@[go_sem] theorem ty_sz80 : szT Try.prog 80 = 5 := by kernel_rfl
@[go_sem] theorem ty_by80 : Try.prog.bytesOf 80 = 40 := by kernel_rfl
@[go_sem] theorem ty_agg80 : aggT Try.prog 80 = true := by kernel_rfl
@[go_sem] theorem ty_el80 : elemT Try.prog 80 = none := by kernel_rfl
@[go_sem] theorem ty_ar80 : arrT Try.prog 80 = none := by kernel_rfl
@[go_sem] theorem ty_ze80 : zeroT Try.prog 80 = some [.int .i64 0, .int .i64 0, .int .i64 0, .int .i64 0, .int .i64 0] := by kernel_rfl
@[go_sem] theorem ty_po80 : partsOk Try.prog 80 = true := by kernel_rfl
@[go_sem] theorem ty_fi80_0 : fieldOf Try.prog 80 0 = some (0, 3) := by kernel_rfl
@[go_sem] theorem ty_pt80_0 : partT Try.prog 80 0 = some (0, 1) := by kernel_rfl
@[go_sem] theorem ty_fi80_1 : fieldOf Try.prog 80 1 = some (1, 3) := by kernel_rfl
@[go_sem] theorem ty_pt80_1 : partT Try.prog 80 1 = some (1, 1) := by kernel_rfl
@[go_sem] theorem ty_fi80_2 : fieldOf Try.prog 80 2 = some (2, 3) := by kernel_rfl
@[go_sem] theorem ty_pt80_2 : partT Try.prog 80 2 = some (2, 1) := by kernel_rfl
@[go_sem] theorem ty_fi80_3 : fieldOf Try.prog 80 3 = some (3, 3) := by kernel_rfl
@[go_sem] theorem ty_pt80_3 : partT Try.prog 80 3 = some (3, 1) := by kernel_rfl
@[go_sem] theorem ty_fi80_4 : fieldOf Try.prog 80 4 = some (4, 3) := by kernel_rfl
@[go_sem] theorem ty_pt80_4 : partT Try.prog 80 4 = some (4, 1) := by kernel_rfl
attribute [go_sem] Try.underlying80 Try.stoodInHeld80 Try.eqGuardType80
@[go_sem] theorem ty_has81 : hasT Try.prog 81 = true := by kernel_rfl
@[go_sem] theorem ty_sz81 : szT Try.prog 81 = 1 := by kernel_rfl
@[go_sem] theorem ty_by81 : Try.prog.bytesOf 81 = 8 := by kernel_rfl
@[go_sem] theorem ty_agg81 : aggT Try.prog 81 = false := by kernel_rfl
@[go_sem] theorem ty_el81 : elemT Try.prog 81 = none := by kernel_rfl
@[go_sem] theorem ty_ar81 : arrT Try.prog 81 = none := by kernel_rfl
@[go_sem] theorem ty_ze81 : zeroT Try.prog 81 = some [.nilFunc] := by kernel_rfl
@[go_sem] theorem ty_has82 : hasT Try.prog 82 = true := by kernel_rfl
@[go_sem] theorem ty_sz82 : szT Try.prog 82 = 1 := by kernel_rfl
@[go_sem] theorem ty_by82 : Try.prog.bytesOf 82 = 8 := by kernel_rfl
@[go_sem] theorem ty_agg82 : aggT Try.prog 82 = false := by kernel_rfl
@[go_sem] theorem ty_el82 : elemT Try.prog 82 = none := by kernel_rfl
@[go_sem] theorem ty_ar82 : arrT Try.prog 82 = none := by kernel_rfl
@[go_sem] theorem ty_ze82 : zeroT Try.prog 82 = some [.nilFunc] := by kernel_rfl
@[go_sem] theorem ty_has83 : hasT Try.prog 83 = true := by kernel_rfl
@[go_sem] theorem ty_sz83 : szT Try.prog 83 = 1 := by kernel_rfl
@[go_sem] theorem ty_by83 : Try.prog.bytesOf 83 = 8 := by kernel_rfl
@[go_sem] theorem ty_agg83 : aggT Try.prog 83 = false := by kernel_rfl
@[go_sem] theorem ty_el83 : elemT Try.prog 83 = none := by kernel_rfl
@[go_sem] theorem ty_ar83 : arrT Try.prog 83 = none := by kernel_rfl
@[go_sem] theorem ty_ze83 : zeroT Try.prog 83 = some [.nilFunc] := by kernel_rfl
@[go_sem] theorem ty_has84 : hasT Try.prog 84 = true := by kernel_rfl
@[go_sem] theorem ty_sz84 : szT Try.prog 84 = 5 := by kernel_rfl
@[go_sem] theorem ty_by84 : Try.prog.bytesOf 84 = 40 := by kernel_rfl
@[go_sem] theorem ty_agg84 : aggT Try.prog 84 = true := by kernel_rfl
@[go_sem] theorem ty_el84 : elemT Try.prog 84 = none := by kernel_rfl
@[go_sem] theorem ty_ar84 : arrT Try.prog 84 = none := by kernel_rfl
@[go_sem] theorem ty_ze84 : zeroT Try.prog 84 = some [.int .i64 0, .int .i64 0, .bool false, .int .i64 0, .int .i64 0] := by kernel_rfl
@[go_sem] theorem ty_po84 : partsOk Try.prog 84 = true := by kernel_rfl
@[go_sem] theorem ty_fi84_0 : fieldOf Try.prog 84 0 = some (0, 3) := by kernel_rfl
@[go_sem] theorem ty_pt84_0 : partT Try.prog 84 0 = some (0, 1) := by kernel_rfl
@[go_sem] theorem ty_fi84_1 : fieldOf Try.prog 84 1 = some (1, 3) := by kernel_rfl
@[go_sem] theorem ty_pt84_1 : partT Try.prog 84 1 = some (1, 1) := by kernel_rfl
@[go_sem] theorem ty_fi84_2 : fieldOf Try.prog 84 2 = some (2, 4) := by kernel_rfl
@[go_sem] theorem ty_pt84_2 : partT Try.prog 84 2 = some (2, 1) := by kernel_rfl
@[go_sem] theorem ty_fi84_3 : fieldOf Try.prog 84 3 = some (3, 3) := by kernel_rfl
@[go_sem] theorem ty_pt84_3 : partT Try.prog 84 3 = some (3, 1) := by kernel_rfl
@[go_sem] theorem ty_fi84_4 : fieldOf Try.prog 84 4 = some (4, 3) := by kernel_rfl
@[go_sem] theorem ty_pt84_4 : partT Try.prog 84 4 = some (4, 1) := by kernel_rfl
attribute [go_sem] Try.underlying84 Try.stoodInHeld84 Try.eqGuardType84
@[go_sem] theorem ty_has85 : hasT Try.prog 85 = true := by kernel_rfl
@[go_sem] theorem ty_sz85 : szT Try.prog 85 = 5 := by kernel_rfl
@[go_sem] theorem ty_by85 : Try.prog.bytesOf 85 = 40 := by kernel_rfl
@[go_sem] theorem ty_agg85 : aggT Try.prog 85 = true := by kernel_rfl
@[go_sem] theorem ty_el85 : elemT Try.prog 85 = none := by kernel_rfl
@[go_sem] theorem ty_ar85 : arrT Try.prog 85 = none := by kernel_rfl
@[go_sem] theorem ty_ze85 : zeroT Try.prog 85 = some [.int .i64 0, .int .i64 0, .bool false, .int .i64 0, .int .i64 0] := by kernel_rfl
@[go_sem] theorem ty_po85 : partsOk Try.prog 85 = true := by kernel_rfl
@[go_sem] theorem ty_fi85_0 : fieldOf Try.prog 85 0 = some (0, 3) := by kernel_rfl
@[go_sem] theorem ty_pt85_0 : partT Try.prog 85 0 = some (0, 1) := by kernel_rfl
@[go_sem] theorem ty_fi85_1 : fieldOf Try.prog 85 1 = some (1, 3) := by kernel_rfl
@[go_sem] theorem ty_pt85_1 : partT Try.prog 85 1 = some (1, 1) := by kernel_rfl
@[go_sem] theorem ty_fi85_2 : fieldOf Try.prog 85 2 = some (2, 4) := by kernel_rfl
@[go_sem] theorem ty_pt85_2 : partT Try.prog 85 2 = some (2, 1) := by kernel_rfl
@[go_sem] theorem ty_fi85_3 : fieldOf Try.prog 85 3 = some (3, 3) := by kernel_rfl
@[go_sem] theorem ty_pt85_3 : partT Try.prog 85 3 = some (3, 1) := by kernel_rfl
@[go_sem] theorem ty_fi85_4 : fieldOf Try.prog 85 4 = some (4, 3) := by kernel_rfl
@[go_sem] theorem ty_pt85_4 : partT Try.prog 85 4 = some (4, 1) := by kernel_rfl
attribute [go_sem] Try.underlying85 Try.stoodInHeld85 Try.eqGuardType85
@[go_sem] theorem ty_has86 : hasT Try.prog 86 = true := by kernel_rfl
@[go_sem] theorem ty_sz86 : szT Try.prog 86 = 1 := by kernel_rfl
@[go_sem] theorem ty_by86 : Try.prog.bytesOf 86 = 8 := by kernel_rfl
@[go_sem] theorem ty_agg86 : aggT Try.prog 86 = false := by kernel_rfl
@[go_sem] theorem ty_el86 : elemT Try.prog 86 = none := by kernel_rfl
@[go_sem] theorem ty_ar86 : arrT Try.prog 86 = none := by kernel_rfl
@[go_sem] theorem ty_ze86 : zeroT Try.prog 86 = some [.nilFunc] := by kernel_rfl
@[go_sem] theorem ty_has87 : hasT Try.prog 87 = true := by kernel_rfl
@[go_sem] theorem ty_sz87 : szT Try.prog 87 = 1 := by kernel_rfl
@[go_sem] theorem ty_by87 : Try.prog.bytesOf 87 = 8 := by kernel_rfl
@[go_sem] theorem ty_agg87 : aggT Try.prog 87 = false := by kernel_rfl
@[go_sem] theorem ty_el87 : elemT Try.prog 87 = none := by kernel_rfl
@[go_sem] theorem ty_ar87 : arrT Try.prog 87 = none := by kernel_rfl
@[go_sem] theorem ty_ze87 : zeroT Try.prog 87 = some [.nilFunc] := by kernel_rfl
@[go_sem] theorem ty_has88 : hasT Try.prog 88 = true := by kernel_rfl
@[go_sem] theorem ty_sz88 : szT Try.prog 88 = 1 := by kernel_rfl
@[go_sem] theorem ty_by88 : Try.prog.bytesOf 88 = 8 := by kernel_rfl
@[go_sem] theorem ty_agg88 : aggT Try.prog 88 = false := by kernel_rfl
@[go_sem] theorem ty_el88 : elemT Try.prog 88 = none := by kernel_rfl
@[go_sem] theorem ty_ar88 : arrT Try.prog 88 = none := by kernel_rfl
@[go_sem] theorem ty_ze88 : zeroT Try.prog 88 = some [.nilFunc] := by kernel_rfl
@[go_sem] theorem ty_has89 : hasT Try.prog 89 = true := by kernel_rfl
@[go_sem] theorem ty_sz89 : szT Try.prog 89 = 1 := by kernel_rfl
@[go_sem] theorem ty_by89 : Try.prog.bytesOf 89 = 8 := by kernel_rfl
@[go_sem] theorem ty_agg89 : aggT Try.prog 89 = false := by kernel_rfl
@[go_sem] theorem ty_el89 : elemT Try.prog 89 = none := by kernel_rfl
@[go_sem] theorem ty_ar89 : arrT Try.prog 89 = none := by kernel_rfl
@[go_sem] theorem ty_ze89 : zeroT Try.prog 89 = some [.nilFunc] := by kernel_rfl
@[go_sem] theorem ty_has90 : hasT Try.prog 90 = true := by kernel_rfl
@[go_sem] theorem ty_sz90 : szT Try.prog 90 = 1 := by kernel_rfl
@[go_sem] theorem ty_by90 : Try.prog.bytesOf 90 = 8 := by kernel_rfl
@[go_sem] theorem ty_agg90 : aggT Try.prog 90 = false := by kernel_rfl
@[go_sem] theorem ty_el90 : elemT Try.prog 90 = none := by kernel_rfl
@[go_sem] theorem ty_ar90 : arrT Try.prog 90 = none := by kernel_rfl
@[go_sem] theorem ty_ze90 : zeroT Try.prog 90 = some [.nilFunc] := by kernel_rfl
@[go_sem] theorem ty_has91 : hasT Try.prog 91 = true := by kernel_rfl
@[go_sem] theorem ty_sz91 : szT Try.prog 91 = 5 := by kernel_rfl
@[go_sem] theorem ty_by91 : Try.prog.bytesOf 91 = 40 := by kernel_rfl
@[go_sem] theorem ty_agg91 : aggT Try.prog 91 = true := by kernel_rfl
@[go_sem] theorem ty_el91 : elemT Try.prog 91 = none := by kernel_rfl
@[go_sem] theorem ty_ar91 : arrT Try.prog 91 = none := by kernel_rfl
@[go_sem] theorem ty_ze91 : zeroT Try.prog 91 = some [.int .i64 0, .int .i64 0, .bool false, .int .i64 0, .int .i64 0] := by kernel_rfl
@[go_sem] theorem ty_po91 : partsOk Try.prog 91 = true := by kernel_rfl
@[go_sem] theorem ty_fi91_0 : fieldOf Try.prog 91 0 = some (0, 3) := by kernel_rfl
@[go_sem] theorem ty_pt91_0 : partT Try.prog 91 0 = some (0, 1) := by kernel_rfl
@[go_sem] theorem ty_fi91_1 : fieldOf Try.prog 91 1 = some (1, 3) := by kernel_rfl
@[go_sem] theorem ty_pt91_1 : partT Try.prog 91 1 = some (1, 1) := by kernel_rfl
@[go_sem] theorem ty_fi91_2 : fieldOf Try.prog 91 2 = some (2, 4) := by kernel_rfl
@[go_sem] theorem ty_pt91_2 : partT Try.prog 91 2 = some (2, 1) := by kernel_rfl
@[go_sem] theorem ty_fi91_3 : fieldOf Try.prog 91 3 = some (3, 3) := by kernel_rfl
@[go_sem] theorem ty_pt91_3 : partT Try.prog 91 3 = some (3, 1) := by kernel_rfl
@[go_sem] theorem ty_fi91_4 : fieldOf Try.prog 91 4 = some (4, 3) := by kernel_rfl
@[go_sem] theorem ty_pt91_4 : partT Try.prog 91 4 = some (4, 1) := by kernel_rfl
attribute [go_sem] Try.underlying91 Try.stoodInHeld91 Try.eqGuardType91
@[go_sem] theorem ty_has92 : hasT Try.prog 92 = true := by kernel_rfl
@[go_sem] theorem ty_sz92 : szT Try.prog 92 = 1 := by kernel_rfl
@[go_sem] theorem ty_by92 : Try.prog.bytesOf 92 = 8 := by kernel_rfl
@[go_sem] theorem ty_agg92 : aggT Try.prog 92 = false := by kernel_rfl
@[go_sem] theorem ty_el92 : elemT Try.prog 92 = none := by kernel_rfl
@[go_sem] theorem ty_ar92 : arrT Try.prog 92 = none := by kernel_rfl
@[go_sem] theorem ty_ze92 : zeroT Try.prog 92 = some [.nilFunc] := by kernel_rfl
@[go_sem] theorem ty_has98 : hasT Try.prog 98 = true := by kernel_rfl
@[go_sem] theorem ty_sz98 : szT Try.prog 98 = 1 := by kernel_rfl
@[go_sem] theorem ty_by98 : Try.prog.bytesOf 98 = 8 := by kernel_rfl
@[go_sem] theorem ty_agg98 : aggT Try.prog 98 = false := by kernel_rfl
@[go_sem] theorem ty_el98 : elemT Try.prog 98 = none := by kernel_rfl
@[go_sem] theorem ty_ar98 : arrT Try.prog 98 = none := by kernel_rfl
@[go_sem] theorem ty_ze98 : zeroT Try.prog 98 = some [.nilFunc] := by kernel_rfl
@[go_sem] theorem ty_has99 : hasT Try.prog 99 = true := by kernel_rfl
@[go_sem] theorem ty_sz99 : szT Try.prog 99 = 1 := by kernel_rfl
@[go_sem] theorem ty_by99 : Try.prog.bytesOf 99 = 4 := by kernel_rfl
@[go_sem] theorem ty_agg99 : aggT Try.prog 99 = false := by kernel_rfl
@[go_sem] theorem ty_el99 : elemT Try.prog 99 = none := by kernel_rfl
@[go_sem] theorem ty_ar99 : arrT Try.prog 99 = none := by kernel_rfl
@[go_sem] theorem ty_ze99 : zeroT Try.prog 99 = some [.int .u32 0] := by kernel_rfl
@[go_sem] theorem ty_in99 : intT Try.prog 99 = some .u32 := by kernel_rfl
attribute [go_sem] Try.underlying99
@[go_sem] theorem ty_has102 : hasT Try.prog 102 = true := by kernel_rfl
@[go_sem] theorem ty_sz102 : szT Try.prog 102 = 1 := by kernel_rfl
@[go_sem] theorem ty_by102 : Try.prog.bytesOf 102 = 8 := by kernel_rfl
@[go_sem] theorem ty_agg102 : aggT Try.prog 102 = false := by kernel_rfl
@[go_sem] theorem ty_el102 : elemT Try.prog 102 = none := by kernel_rfl
@[go_sem] theorem ty_ar102 : arrT Try.prog 102 = none := by kernel_rfl
@[go_sem] theorem ty_ze102 : zeroT Try.prog 102 = some [.nilFunc] := by kernel_rfl
@[go_sem] theorem ty_has103 : hasT Try.prog 103 = true := by kernel_rfl
@[go_sem] theorem ty_sz103 : szT Try.prog 103 = 1 := by kernel_rfl
@[go_sem] theorem ty_by103 : Try.prog.bytesOf 103 = 8 := by kernel_rfl
@[go_sem] theorem ty_agg103 : aggT Try.prog 103 = false := by kernel_rfl
@[go_sem] theorem ty_el103 : elemT Try.prog 103 = none := by kernel_rfl
@[go_sem] theorem ty_ar103 : arrT Try.prog 103 = none := by kernel_rfl
@[go_sem] theorem ty_ze103 : zeroT Try.prog 103 = some [.pointer none] := by kernel_rfl
@[go_sem] theorem ty_has108 : hasT Try.prog 108 = true := by kernel_rfl
@[go_sem] theorem ty_sz108 : szT Try.prog 108 = 1 := by kernel_rfl
@[go_sem] theorem ty_by108 : Try.prog.bytesOf 108 = 8 := by kernel_rfl
@[go_sem] theorem ty_agg108 : aggT Try.prog 108 = false := by kernel_rfl
@[go_sem] theorem ty_el108 : elemT Try.prog 108 = none := by kernel_rfl
@[go_sem] theorem ty_ar108 : arrT Try.prog 108 = none := by kernel_rfl
@[go_sem] theorem ty_ze108 : zeroT Try.prog 108 = some [.nilFunc] := by kernel_rfl
@[go_sem] theorem ty_has110 : hasT Try.prog 110 = true := by kernel_rfl
@[go_sem] theorem ty_sz110 : szT Try.prog 110 = 1 := by kernel_rfl
@[go_sem] theorem ty_by110 : Try.prog.bytesOf 110 = 24 := by kernel_rfl
@[go_sem] theorem ty_agg110 : aggT Try.prog 110 = false := by kernel_rfl
@[go_sem] theorem ty_el110 : elemT Try.prog 110 = some 115 := by kernel_rfl
@[go_sem] theorem ty_ar110 : arrT Try.prog 110 = none := by kernel_rfl
@[go_sem] theorem ty_ze110 : zeroT Try.prog 110 = some [.slice none 0 0] := by kernel_rfl
@[go_sem] theorem ty_has111 : hasT Try.prog 111 = true := by kernel_rfl
@[go_sem] theorem ty_sz111 : szT Try.prog 111 = 1 := by kernel_rfl
@[go_sem] theorem ty_by111 : Try.prog.bytesOf 111 = 24 := by kernel_rfl
@[go_sem] theorem ty_agg111 : aggT Try.prog 111 = false := by kernel_rfl
@[go_sem] theorem ty_el111 : elemT Try.prog 111 = some 117 := by kernel_rfl
@[go_sem] theorem ty_ar111 : arrT Try.prog 111 = none := by kernel_rfl
@[go_sem] theorem ty_ze111 : zeroT Try.prog 111 = some [.slice none 0 0] := by kernel_rfl
@[go_sem] theorem ty_has112 : hasT Try.prog 112 = true := by kernel_rfl
@[go_sem] theorem ty_sz112 : szT Try.prog 112 = 2 := by kernel_rfl
@[go_sem] theorem ty_by112 : Try.prog.bytesOf 112 = 48 := by kernel_rfl
@[go_sem] theorem ty_agg112 : aggT Try.prog 112 = true := by kernel_rfl
@[go_sem] theorem ty_el112 : elemT Try.prog 112 = none := by kernel_rfl
@[go_sem] theorem ty_ar112 : arrT Try.prog 112 = none := by kernel_rfl
@[go_sem] theorem ty_ze112 : zeroT Try.prog 112 = some [.slice none 0 0, .slice none 0 0] := by kernel_rfl
@[go_sem] theorem ty_po112 : partsOk Try.prog 112 = true := by kernel_rfl
@[go_sem] theorem ty_fi112_0 : fieldOf Try.prog 112 0 = some (0, 110) := by kernel_rfl
@[go_sem] theorem ty_pt112_0 : partT Try.prog 112 0 = some (0, 1) := by kernel_rfl
@[go_sem] theorem ty_fi112_1 : fieldOf Try.prog 112 1 = some (1, 111) := by kernel_rfl
@[go_sem] theorem ty_pt112_1 : partT Try.prog 112 1 = some (1, 1) := by kernel_rfl
attribute [go_sem] Try.underlying112 Try.stoodInHeld112 Try.eqGuardType112
@[go_sem] theorem ty_has113 : hasT Try.prog 113 = true := by kernel_rfl
@[go_sem] theorem ty_sz113 : szT Try.prog 113 = 2 := by kernel_rfl
@[go_sem] theorem ty_by113 : Try.prog.bytesOf 113 = 48 := by kernel_rfl
@[go_sem] theorem ty_agg113 : aggT Try.prog 113 = true := by kernel_rfl
@[go_sem] theorem ty_el113 : elemT Try.prog 113 = none := by kernel_rfl
@[go_sem] theorem ty_ar113 : arrT Try.prog 113 = none := by kernel_rfl
@[go_sem] theorem ty_ze113 : zeroT Try.prog 113 = some [.slice none 0 0, .slice none 0 0] := by kernel_rfl
@[go_sem] theorem ty_po113 : partsOk Try.prog 113 = true := by kernel_rfl
@[go_sem] theorem ty_fi113_0 : fieldOf Try.prog 113 0 = some (0, 110) := by kernel_rfl
@[go_sem] theorem ty_pt113_0 : partT Try.prog 113 0 = some (0, 1) := by kernel_rfl
@[go_sem] theorem ty_fi113_1 : fieldOf Try.prog 113 1 = some (1, 111) := by kernel_rfl
@[go_sem] theorem ty_pt113_1 : partT Try.prog 113 1 = some (1, 1) := by kernel_rfl
attribute [go_sem] Try.underlying113 Try.stoodInHeld113 Try.eqGuardType113
@[go_sem] theorem ty_has114 : hasT Try.prog 114 = true := by kernel_rfl
@[go_sem] theorem ty_sz114 : szT Try.prog 114 = 2 := by kernel_rfl
@[go_sem] theorem ty_by114 : Try.prog.bytesOf 114 = 24 := by kernel_rfl
@[go_sem] theorem ty_agg114 : aggT Try.prog 114 = true := by kernel_rfl
@[go_sem] theorem ty_el114 : elemT Try.prog 114 = none := by kernel_rfl
@[go_sem] theorem ty_ar114 : arrT Try.prog 114 = none := by kernel_rfl
@[go_sem] theorem ty_ze114 : zeroT Try.prog 114 = some [.string ByteArray.empty, .bool false] := by kernel_rfl
@[go_sem] theorem ty_po114 : partsOk Try.prog 114 = true := by kernel_rfl
@[go_sem] theorem ty_fi114_0 : fieldOf Try.prog 114 0 = some (0, 9) := by kernel_rfl
@[go_sem] theorem ty_pt114_0 : partT Try.prog 114 0 = some (0, 1) := by kernel_rfl
@[go_sem] theorem ty_fi114_1 : fieldOf Try.prog 114 1 = some (1, 4) := by kernel_rfl
@[go_sem] theorem ty_pt114_1 : partT Try.prog 114 1 = some (1, 1) := by kernel_rfl
attribute [go_sem] Try.underlying114 Try.stoodInHeld114 Try.eqGuardType114
@[go_sem] theorem ty_has115 : hasT Try.prog 115 = true := by kernel_rfl
@[go_sem] theorem ty_sz115 : szT Try.prog 115 = 2 := by kernel_rfl
@[go_sem] theorem ty_by115 : Try.prog.bytesOf 115 = 24 := by kernel_rfl
@[go_sem] theorem ty_agg115 : aggT Try.prog 115 = true := by kernel_rfl
@[go_sem] theorem ty_el115 : elemT Try.prog 115 = none := by kernel_rfl
@[go_sem] theorem ty_ar115 : arrT Try.prog 115 = none := by kernel_rfl
@[go_sem] theorem ty_ze115 : zeroT Try.prog 115 = some [.string ByteArray.empty, .bool false] := by kernel_rfl
@[go_sem] theorem ty_po115 : partsOk Try.prog 115 = true := by kernel_rfl
@[go_sem] theorem ty_fi115_0 : fieldOf Try.prog 115 0 = some (0, 9) := by kernel_rfl
@[go_sem] theorem ty_pt115_0 : partT Try.prog 115 0 = some (0, 1) := by kernel_rfl
@[go_sem] theorem ty_fi115_1 : fieldOf Try.prog 115 1 = some (1, 4) := by kernel_rfl
@[go_sem] theorem ty_pt115_1 : partT Try.prog 115 1 = some (1, 1) := by kernel_rfl
attribute [go_sem] Try.underlying115 Try.stoodInHeld115 Try.eqGuardType115
@[go_sem] theorem ty_has116 : hasT Try.prog 116 = true := by kernel_rfl
@[go_sem] theorem ty_sz116 : szT Try.prog 116 = 5 := by kernel_rfl
@[go_sem] theorem ty_by116 : Try.prog.bytesOf 116 = 40 := by kernel_rfl
@[go_sem] theorem ty_agg116 : aggT Try.prog 116 = true := by kernel_rfl
@[go_sem] theorem ty_el116 : elemT Try.prog 116 = none := by kernel_rfl
@[go_sem] theorem ty_ar116 : arrT Try.prog 116 = none := by kernel_rfl
@[go_sem] theorem ty_ze116 : zeroT Try.prog 116 = some [.int .i64 0, .int .i64 0, .int .i64 0, .int .i64 0, .bool false] := by kernel_rfl
@[go_sem] theorem ty_po116 : partsOk Try.prog 116 = true := by kernel_rfl
@[go_sem] theorem ty_fi116_0 : fieldOf Try.prog 116 0 = some (0, 3) := by kernel_rfl
@[go_sem] theorem ty_pt116_0 : partT Try.prog 116 0 = some (0, 1) := by kernel_rfl
@[go_sem] theorem ty_fi116_1 : fieldOf Try.prog 116 1 = some (1, 3) := by kernel_rfl
@[go_sem] theorem ty_pt116_1 : partT Try.prog 116 1 = some (1, 1) := by kernel_rfl
@[go_sem] theorem ty_fi116_2 : fieldOf Try.prog 116 2 = some (2, 3) := by kernel_rfl
@[go_sem] theorem ty_pt116_2 : partT Try.prog 116 2 = some (2, 1) := by kernel_rfl
@[go_sem] theorem ty_fi116_3 : fieldOf Try.prog 116 3 = some (3, 3) := by kernel_rfl
@[go_sem] theorem ty_pt116_3 : partT Try.prog 116 3 = some (3, 1) := by kernel_rfl
@[go_sem] theorem ty_fi116_4 : fieldOf Try.prog 116 4 = some (4, 4) := by kernel_rfl
@[go_sem] theorem ty_pt116_4 : partT Try.prog 116 4 = some (4, 1) := by kernel_rfl
attribute [go_sem] Try.underlying116 Try.stoodInHeld116 Try.eqGuardType116
@[go_sem] theorem ty_has117 : hasT Try.prog 117 = true := by kernel_rfl
@[go_sem] theorem ty_sz117 : szT Try.prog 117 = 5 := by kernel_rfl
@[go_sem] theorem ty_by117 : Try.prog.bytesOf 117 = 40 := by kernel_rfl
@[go_sem] theorem ty_agg117 : aggT Try.prog 117 = true := by kernel_rfl
@[go_sem] theorem ty_el117 : elemT Try.prog 117 = none := by kernel_rfl
@[go_sem] theorem ty_ar117 : arrT Try.prog 117 = none := by kernel_rfl
@[go_sem] theorem ty_ze117 : zeroT Try.prog 117 = some [.int .i64 0, .int .i64 0, .int .i64 0, .int .i64 0, .bool false] := by kernel_rfl
@[go_sem] theorem ty_po117 : partsOk Try.prog 117 = true := by kernel_rfl
@[go_sem] theorem ty_fi117_0 : fieldOf Try.prog 117 0 = some (0, 3) := by kernel_rfl
@[go_sem] theorem ty_pt117_0 : partT Try.prog 117 0 = some (0, 1) := by kernel_rfl
@[go_sem] theorem ty_fi117_1 : fieldOf Try.prog 117 1 = some (1, 3) := by kernel_rfl
@[go_sem] theorem ty_pt117_1 : partT Try.prog 117 1 = some (1, 1) := by kernel_rfl
@[go_sem] theorem ty_fi117_2 : fieldOf Try.prog 117 2 = some (2, 3) := by kernel_rfl
@[go_sem] theorem ty_pt117_2 : partT Try.prog 117 2 = some (2, 1) := by kernel_rfl
@[go_sem] theorem ty_fi117_3 : fieldOf Try.prog 117 3 = some (3, 3) := by kernel_rfl
@[go_sem] theorem ty_pt117_3 : partT Try.prog 117 3 = some (3, 1) := by kernel_rfl
@[go_sem] theorem ty_fi117_4 : fieldOf Try.prog 117 4 = some (4, 4) := by kernel_rfl
@[go_sem] theorem ty_pt117_4 : partT Try.prog 117 4 = some (4, 1) := by kernel_rfl
attribute [go_sem] Try.underlying117 Try.stoodInHeld117 Try.eqGuardType117
@[go_sem] theorem ty_has118 : hasT Try.prog 118 = true := by kernel_rfl
@[go_sem] theorem ty_sz118 : szT Try.prog 118 = 1 := by kernel_rfl
@[go_sem] theorem ty_by118 : Try.prog.bytesOf 118 = 8 := by kernel_rfl
@[go_sem] theorem ty_agg118 : aggT Try.prog 118 = false := by kernel_rfl
@[go_sem] theorem ty_el118 : elemT Try.prog 118 = none := by kernel_rfl
@[go_sem] theorem ty_ar118 : arrT Try.prog 118 = none := by kernel_rfl
@[go_sem] theorem ty_ze118 : zeroT Try.prog 118 = some [.nilFunc] := by kernel_rfl
@[go_sem] theorem ty_has119 : hasT Try.prog 119 = true := by kernel_rfl
@[go_sem] theorem ty_sz119 : szT Try.prog 119 = 1 := by kernel_rfl
@[go_sem] theorem ty_by119 : Try.prog.bytesOf 119 = 8 := by kernel_rfl
@[go_sem] theorem ty_agg119 : aggT Try.prog 119 = false := by kernel_rfl
@[go_sem] theorem ty_el119 : elemT Try.prog 119 = none := by kernel_rfl
@[go_sem] theorem ty_ar119 : arrT Try.prog 119 = none := by kernel_rfl
@[go_sem] theorem ty_ze119 : zeroT Try.prog 119 = some [.nilFunc] := by kernel_rfl
end Go.Proofs.Ytkoghfeelonhhaa
