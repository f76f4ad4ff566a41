/- What functions of the given program compute, as contracts. -/
import Derived.Test.YtdeflkhkfmjckaaGreatProg
import Derived.Test.YtdeflkhkfmjckaaGreatSGFnTopx4
import Derived.Test.YtdeflkhkfmjckaaGreatSGFnTopx5
set_option linter.unusedVariables false
set_option linter.unusedSimpArgs false
set_option maxRecDepth 4000
open Nat renaming reduceAdd → jq, reduceMul → jj, reduceBEq → jy, reduceLeDiff → jv, reduceLT → jk, reduceEqDiff → jx
open Bool renaming or_eq_false_iff → jp, or_eq_true → jQ, and_eq_true → jJ
open Int renaming toNat_natCast → jW, natCast_nonneg → jY
open Go.Proofs.Tryz renaming prog → jV
namespace Go.Proofs.YtdeflkhkfmjckaaGreat
open Go Go.SL
@[go_sem] theorem ty_1:hasT jV 1=true∧szT jV 1=1∧Tryz.prog.bytesOf 1=8∧aggT jV 1=false∧zaX jV 1=none∧arrT jV 1=none∧zbF jV 1=some [.nilFunc]:=by and_intros <;> kernel_rfl
@[go_sem] theorem ty_2:hasT jV 2=true∧szT jV 2=1∧Tryz.prog.bytesOf 2=8∧aggT jV 2=false∧zaX jV 2=none∧arrT jV 2=none∧zbF jV 2=some [.int .i64 0]∧intT jV 2=some .i64:=by and_intros <;> kernel_rfl
attribute [go_sem] Tryz.underlying2
@[go_sem] theorem ty_3:hasT jV 3=true∧szT jV 3=1∧Tryz.prog.bytesOf 3=8∧aggT jV 3=false∧zaX jV 3=none∧arrT jV 3=none∧zbF jV 3=some [.int .i64 0]∧intT jV 3=some .i64:=by and_intros <;> kernel_rfl
attribute [go_sem] Tryz.underlying3
@[go_sem] theorem ty_4:hasT jV 4=true∧szT jV 4=1∧Tryz.prog.bytesOf 4=1∧aggT jV 4=false∧zaX jV 4=none∧arrT jV 4=none∧zbF jV 4=some [.bool false]:=by and_intros <;> kernel_rfl
attribute [go_sem] Tryz.underlying4
@[go_sem] theorem ty_5:hasT jV 5=true∧szT jV 5=1∧Tryz.prog.bytesOf 5=1∧aggT jV 5=false∧zaX jV 5=none∧arrT jV 5=none∧zbF jV 5=some [.int .u8 0]∧intT jV 5=some .u8:=by and_intros <;> kernel_rfl
attribute [go_sem] Tryz.underlying5
@[go_sem] theorem ty_9:hasT jV 9=true∧szT jV 9=1∧Tryz.prog.bytesOf 9=16∧aggT jV 9=false∧zaX jV 9=none∧arrT jV 9=none∧zbF jV 9=some [.string ByteArray.empty]∧strT jV 9=true:=by and_intros <;> kernel_rfl
attribute [go_sem] Tryz.underlying9
@[go_sem] theorem zoA:hasT jV 12=true∧szT jV 12=1∧Tryz.prog.bytesOf 12=8∧aggT jV 12=false∧zaX jV 12=none∧arrT jV 12=none∧zbF jV 12=some [.int .u64 0]∧intT jV 12=some .u64:=by and_intros <;> kernel_rfl
attribute [go_sem] Tryz.underlying12
@[go_sem] theorem zFi:hasT jV 13=true∧szT jV 13=2∧Tryz.prog.bytesOf 13=24∧aggT jV 13=true∧zaX jV 13=none∧arrT jV 13=none∧zbF jV 13=some [.string ByteArray.empty,.int .u64 0]∧zbE jV 13=true:=by and_intros <;> kernel_rfl
@[go_sem] theorem zoB:hasT jV 22=true∧szT jV 22=1∧Tryz.prog.bytesOf 22=24∧aggT jV 22=false∧zaX jV 22=some 5∧arrT jV 22=none∧zbF jV 22=some [.slice none 0 0]:=by and_intros <;> kernel_rfl
@[go_sem] theorem zoC:hasT jV 23=true∧szT jV 23=1∧Tryz.prog.bytesOf 23=24∧aggT jV 23=false∧zaX jV 23=some 202∧arrT jV 23=none∧zbF jV 23=some [.slice none 0 0]:=by and_intros <;> kernel_rfl
@[go_sem] theorem zoD:hasT jV 24=true∧szT jV 24=2∧Tryz.prog.bytesOf 24=32∧aggT jV 24=true∧zaX jV 24=none∧arrT jV 24=none∧zbF jV 24=some [.int .i64 0,.slice none 0 0]∧zbE jV 24=true:=by and_intros <;> kernel_rfl
@[go_sem] theorem zoE:hasT jV 25=true∧szT jV 25=2∧Tryz.prog.bytesOf 25=32∧aggT jV 25=true∧zaX jV 25=none∧arrT jV 25=none∧zbF jV 25=some [.int .i64 0,.slice none 0 0]∧zbE jV 25=true:=by and_intros <;> kernel_rfl
@[go_sem] theorem zoF:hasT jV 26=true∧szT jV 26=1∧Tryz.prog.bytesOf 26=24∧aggT jV 26=false∧zaX jV 26=some 155∧arrT jV 26=none∧zbF jV 26=some [.slice none 0 0]:=by and_intros <;> kernel_rfl
@[go_sem] theorem zoG:hasT jV 27=true∧szT jV 27=3∧Tryz.prog.bytesOf 27=56∧aggT jV 27=true∧zaX jV 27=none∧arrT jV 27=none∧zbF jV 27=some [.int .i64 0,.slice none 0 0,.slice none 0 0]∧zbE jV 27=true:=by and_intros <;> kernel_rfl
@[go_sem] theorem zoH:hasT jV 28=true∧szT jV 28=3∧Tryz.prog.bytesOf 28=56∧aggT jV 28=true∧zaX jV 28=none∧arrT jV 28=none∧zbF jV 28=some [.int .i64 0,.slice none 0 0,.slice none 0 0]∧zbE jV 28=true:=by and_intros <;> kernel_rfl
@[go_sem] theorem zoI:hasT jV 29=true∧szT jV 29=1∧Tryz.prog.bytesOf 29=24∧aggT jV 29=false∧zaX jV 29=some 170∧arrT jV 29=none∧zbF jV 29=some [.slice none 0 0]:=by and_intros <;> kernel_rfl
@[go_sem] theorem zoJ:hasT jV 30=true∧szT jV 30=1∧Tryz.prog.bytesOf 30=24∧aggT jV 30=false∧zaX jV 30=some 152∧arrT jV 30=none∧zbF jV 30=some [.slice none 0 0]:=by and_intros <;> kernel_rfl
@[go_sem] theorem zoK:hasT jV 31=true∧szT jV 31=2∧Tryz.prog.bytesOf 31=48∧aggT jV 31=true∧zaX jV 31=none∧arrT jV 31=none∧zbF jV 31=some [.slice none 0 0,.slice none 0 0]∧zbE jV 31=true:=by and_intros <;> kernel_rfl
@[go_sem] theorem zoL:hasT jV 32=true∧szT jV 32=2∧Tryz.prog.bytesOf 32=48∧aggT jV 32=true∧zaX jV 32=none∧arrT jV 32=none∧zbF jV 32=some [.slice none 0 0,.slice none 0 0]∧zbE jV 32=true:=by and_intros <;> kernel_rfl
@[go_sem] theorem zoM:hasT jV 33=true∧szT jV 33=1∧Tryz.prog.bytesOf 33=24∧aggT jV 33=false∧zaX jV 33=some 59∧arrT jV 33=none∧zbF jV 33=some [.slice none 0 0]:=by and_intros <;> kernel_rfl
@[go_sem] theorem zoN:hasT jV 34=true∧szT jV 34=2∧Tryz.prog.bytesOf 34=16∧aggT jV 34=true∧zaX jV 34=none∧arrT jV 34=none∧zbF jV 34=some [.int .i64 0,.bool false]∧zbE jV 34=true:=by and_intros <;> kernel_rfl
@[go_sem] theorem zoO:hasT jV 35=true∧szT jV 35=2∧Tryz.prog.bytesOf 35=16∧aggT jV 35=true∧zaX jV 35=none∧arrT jV 35=none∧zbF jV 35=some [.int .i64 0,.bool false]∧zbE jV 35=true:=by and_intros <;> kernel_rfl
@[go_sem] theorem zoP:hasT jV 36=true∧szT jV 36=1∧Tryz.prog.bytesOf 36=24∧aggT jV 36=false∧zaX jV 36=some 3∧arrT jV 36=none∧zbF jV 36=some [.slice none 0 0]:=by and_intros <;> kernel_rfl
@[go_sem] theorem zoQ:hasT jV 37=true∧szT jV 37=4∧Tryz.prog.bytesOf 37=48∧aggT jV 37=true∧zaX jV 37=none∧arrT jV 37=none∧zbF jV 37=some [.int .i64 0,.int .i64 0,.int .i64 0,.slice none 0 0]∧zbE jV 37=true:=by and_intros <;> kernel_rfl
@[go_sem] theorem zoR:hasT jV 38=true∧szT jV 38=4∧Tryz.prog.bytesOf 38=48∧aggT jV 38=true∧zaX jV 38=none∧arrT jV 38=none∧zbF jV 38=some [.int .i64 0,.int .i64 0,.int .i64 0,.slice none 0 0]∧zbE jV 38=true:=by and_intros <;> kernel_rfl
@[go_sem] theorem zoS:hasT jV 39=true∧szT jV 39=12∧Tryz.prog.bytesOf 39=192∧aggT jV 39=true∧zaX jV 39=none∧arrT jV 39=none∧zbF jV 39=some [.int .i64 0,.slice none 0 0,.slice none 0 0,.slice none 0 0,.slice none 0 0,.slice none 0 0,.int .i64 0,.bool false,.int .i64 0,.int .i64 0,.int .i64 0,.slice none 0 0]∧zbE jV 39=true:=by and_intros <;> kernel_rfl
@[go_sem] theorem zoT:hasT jV 40=true∧szT jV 40=12∧Tryz.prog.bytesOf 40=192∧aggT jV 40=true∧zaX jV 40=none∧arrT jV 40=none∧zbF jV 40=some [.int .i64 0,.slice none 0 0,.slice none 0 0,.slice none 0 0,.slice none 0 0,.slice none 0 0,.int .i64 0,.bool false,.int .i64 0,.int .i64 0,.int .i64 0,.slice none 0 0]∧zbE jV 40=true:=by and_intros <;> kernel_rfl
@[go_sem] theorem zoU:hasT jV 41=true∧szT jV 41=1∧Tryz.prog.bytesOf 41=24∧aggT jV 41=false∧zaX jV 41=some 89∧arrT jV 41=none∧zbF jV 41=some [.slice none 0 0]:=by and_intros <;> kernel_rfl
@[go_sem] theorem zoY:hasT jV 48=true∧szT jV 48=1∧Tryz.prog.bytesOf 48=24∧aggT jV 48=false∧zaX jV 48=some 53∧arrT jV 48=none∧zbF jV 48=some [.slice none 0 0]:=by and_intros <;> kernel_rfl
@[go_sem] theorem zFj:hasT jV 51=true∧szT jV 51=1∧Tryz.prog.bytesOf 51=24∧aggT jV 51=false∧zaX jV 51=some 55∧arrT jV 51=none∧zbF jV 51=some [.slice none 0 0]:=by and_intros <;> kernel_rfl
@[go_sem] theorem zFk:hasT jV 52=true∧szT jV 52=4∧Tryz.prog.bytesOf 52=48∧aggT jV 52=true∧zaX jV 52=none∧arrT jV 52=none∧zbF jV 52=some [.int .i64 0,.int .i64 0,.int .i64 0,.slice none 0 0]∧zbE jV 52=true:=by and_intros <;> kernel_rfl
@[go_sem] theorem zFl:hasT jV 53=true∧szT jV 53=4∧Tryz.prog.bytesOf 53=48∧aggT jV 53=true∧zaX jV 53=none∧arrT jV 53=none∧zbF jV 53=some [.int .i64 0,.int .i64 0,.int .i64 0,.slice none 0 0]∧zbE jV 53=true:=by and_intros <;> kernel_rfl
@[go_sem] theorem zFm:hasT jV 54=true∧szT jV 54=5∧Tryz.prog.bytesOf 54=40∧aggT jV 54=true∧zaX jV 54=none∧arrT jV 54=none∧zbF jV 54=some [.int .i64 0,.int .i64 0,.bool false,.int .i64 0,.int .i64 0]∧zbE jV 54=true:=by and_intros <;> kernel_rfl
@[go_sem] theorem zoZ:hasT jV 55=true∧szT jV 55=5∧Tryz.prog.bytesOf 55=40∧aggT jV 55=true∧zaX jV 55=none∧arrT jV 55=none∧zbF jV 55=some [.int .i64 0,.int .i64 0,.bool false,.int .i64 0,.int .i64 0]∧zbE jV 55=true:=by and_intros <;> kernel_rfl
@[go_sem] theorem zo0:hasT jV 56=true∧szT jV 56=1∧Tryz.prog.bytesOf 56=8∧aggT jV 56=false∧zaX jV 56=none∧arrT jV 56=none∧zbF jV 56=some [.nilFunc]:=by and_intros <;> kernel_rfl
@[go_sem] theorem zFn:hasT jV 58=true∧szT jV 58=6∧Tryz.prog.bytesOf 58=56∧aggT jV 58=true∧zaX jV 58=none∧arrT jV 58=none∧zbF jV 58=some [.string ByteArray.empty,.int .i64 0,.int .i64 0,.int .i64 0,.int .i64 0,.bool false]∧zbE jV 58=true:=by and_intros <;> kernel_rfl
@[go_sem] theorem zo1:hasT jV 59=true∧szT jV 59=6∧Tryz.prog.bytesOf 59=56∧aggT jV 59=true∧zaX jV 59=none∧arrT jV 59=none∧zbF jV 59=some [.string ByteArray.empty,.int .i64 0,.int .i64 0,.int .i64 0,.int .i64 0,.bool false]∧zbE jV 59=true:=by and_intros <;> kernel_rfl
@[go_sem] theorem zo3:hasT jV 63=true∧szT jV 63=1∧Tryz.prog.bytesOf 63=24∧aggT jV 63=false∧zaX jV 63=some 51∧arrT jV 63=none∧zbF jV 63=some [.slice none 0 0]:=by and_intros <;> kernel_rfl
@[go_sem] theorem zo7:hasT jV 69=true∧szT jV 69=1∧Tryz.prog.bytesOf 69=24∧aggT jV 69=false∧zaX jV 69=some 108∧arrT jV 69=none∧zbF jV 69=some [.slice none 0 0]:=by and_intros <;> kernel_rfl
@[go_sem] theorem zFo:hasT jV 78=true∧szT jV 78=1∧Tryz.prog.bytesOf 78=8∧aggT jV 78=false∧zaX jV 78=none∧arrT jV 78=none∧zbF jV 78=some [.pointer none]:=by and_intros <;> kernel_rfl
@[go_sem] theorem zFp:hasT jV 80=true∧szT jV 80=2∧Tryz.prog.bytesOf 80=16∧aggT jV 80=true∧zaX jV 80=none∧arrT jV 80=some (2,3)∧zbF jV 80=some [.int .i64 0,.int .i64 0]∧zbE jV 80=true:=by and_intros <;> kernel_rfl
@[go_sem] theorem zFq:hasT jV 81=true∧szT jV 81=2∧Tryz.prog.bytesOf 81=16∧aggT jV 81=true∧zaX jV 81=none∧arrT jV 81=some (2,3)∧zbF jV 81=some [.int .i64 0,.int .i64 0]∧zbE jV 81=true:=by and_intros <;> kernel_rfl
@[go_sem] theorem zFr:hasT jV 84=true∧szT jV 84=1∧Tryz.prog.bytesOf 84=24∧aggT jV 84=false∧zaX jV 84=some 48∧arrT jV 84=none∧zbF jV 84=some [.slice none 0 0]:=by and_intros <;> kernel_rfl
@[go_sem] theorem zpb:hasT jV 86=true∧szT jV 86=1∧Tryz.prog.bytesOf 86=8∧aggT jV 86=false∧zaX jV 86=none∧arrT jV 86=none∧zbF jV 86=some [.nilFunc]:=by and_intros <;> kernel_rfl
@[go_sem] theorem zFs:hasT jV 88=true∧szT jV 88=5∧Tryz.prog.bytesOf 88=40∧aggT jV 88=true∧zaX jV 88=none∧arrT jV 88=none∧zbF jV 88=some [.int .i64 0,.int .i64 0,.int .i64 0,.int .i64 0,.int .i64 0]∧zbE jV 88=true:=by and_intros <;> kernel_rfl
@[go_sem] theorem zFt:hasT jV 89=true∧szT jV 89=5∧Tryz.prog.bytesOf 89=40∧aggT jV 89=true∧zaX jV 89=none∧arrT jV 89=none∧zbF jV 89=some [.int .i64 0,.int .i64 0,.int .i64 0,.int .i64 0,.int .i64 0]∧zbE jV 89=true:=by and_intros <;> kernel_rfl
@[go_sem] theorem zpd:hasT jV 91=true∧szT jV 91=1∧Tryz.prog.bytesOf 91=24∧aggT jV 91=false∧zaX jV 91=some 36∧arrT jV 91=none∧zbF jV 91=some [.slice none 0 0]:=by and_intros <;> kernel_rfl
@[go_sem] theorem zpf:hasT jV 93=true∧szT jV 93=1∧Tryz.prog.bytesOf 93=8∧aggT jV 93=false∧zaX jV 93=none∧arrT jV 93=none∧zbF jV 93=some [.nilFunc]:=by and_intros <;> kernel_rfl
@[go_sem] theorem zFu:hasT jV 95=true∧szT jV 95=1∧Tryz.prog.bytesOf 95=8∧aggT jV 95=false∧zaX jV 95=none∧arrT jV 95=none∧zbF jV 95=some [.nilFunc]:=by and_intros <;> kernel_rfl
@[go_sem] theorem zFv:hasT jV 101=true∧szT jV 101=1∧Tryz.prog.bytesOf 101=8∧aggT jV 101=false∧zaX jV 101=none∧arrT jV 101=none∧zbF jV 101=some [.nilFunc]:=by and_intros <;> kernel_rfl
@[go_sem] theorem zpi:hasT jV 102=true∧szT jV 102=1∧Tryz.prog.bytesOf 102=8∧aggT jV 102=false∧zaX jV 102=none∧arrT jV 102=none∧zbF jV 102=some [.nilFunc]:=by and_intros <;> kernel_rfl
@[go_sem] theorem zpk:hasT jV 104=true∧szT jV 104=1∧Tryz.prog.bytesOf 104=8∧aggT jV 104=false∧zaX jV 104=none∧arrT jV 104=none∧zbF jV 104=some [.nilFunc]:=by and_intros <;> kernel_rfl
@[go_sem] theorem zFw:hasT jV 106=true∧szT jV 106=1∧Tryz.prog.bytesOf 106=8∧aggT jV 106=false∧zaX jV 106=none∧arrT jV 106=none∧zbF jV 106=some [.nilFunc]:=by and_intros <;> kernel_rfl
@[go_sem] theorem zFx:hasT jV 107=true∧szT jV 107=4∧Tryz.prog.bytesOf 107=32∧aggT jV 107=true∧zaX jV 107=none∧arrT jV 107=none∧zbF jV 107=some [.int .i64 0,.int .i64 0,.int .i64 0,.int .i64 0]∧zbE jV 107=true:=by and_intros <;> kernel_rfl
@[go_sem] theorem zpm:hasT jV 108=true∧szT jV 108=4∧Tryz.prog.bytesOf 108=32∧aggT jV 108=true∧zaX jV 108=none∧arrT jV 108=none∧zbF jV 108=some [.int .i64 0,.int .i64 0,.int .i64 0,.int .i64 0]∧zbE jV 108=true:=by and_intros <;> kernel_rfl
@[go_sem] theorem zpn:hasT jV 113=true∧szT jV 113=1∧Tryz.prog.bytesOf 113=8∧aggT jV 113=false∧zaX jV 113=none∧arrT jV 113=none∧zbF jV 113=some [.nilFunc]:=by and_intros <;> kernel_rfl
@[go_sem] theorem zpp:hasT jV 116=true∧szT jV 116=1∧Tryz.prog.bytesOf 116=8∧aggT jV 116=false∧zaX jV 116=none∧arrT jV 116=none∧zbF jV 116=some [.nilFunc]:=by and_intros <;> kernel_rfl
@[go_sem] theorem zFy:hasT jV 120=true∧szT jV 120=1∧Tryz.prog.bytesOf 120=8∧aggT jV 120=false∧zaX jV 120=none∧arrT jV 120=none∧zbF jV 120=some [.nilFunc]:=by and_intros <;> kernel_rfl
@[go_sem] theorem zpt:hasT jV 123=true∧szT jV 123=1∧Tryz.prog.bytesOf 123=8∧aggT jV 123=false∧zaX jV 123=none∧arrT jV 123=none∧zbF jV 123=some [.nilFunc]:=by and_intros <;> kernel_rfl
@[go_sem] theorem zpu:hasT jV 128=true∧szT jV 128=3∧Tryz.prog.bytesOf 128=40∧aggT jV 128=true∧zaX jV 128=none∧arrT jV 128=none∧zbF jV 128=some [.slice none 0 0,.int .i64 0,.int .i64 0]∧zbE jV 128=true:=by and_intros <;> kernel_rfl
@[go_sem] theorem zpv:hasT jV 129=true∧szT jV 129=3∧Tryz.prog.bytesOf 129=40∧aggT jV 129=true∧zaX jV 129=none∧arrT jV 129=none∧zbF jV 129=some [.slice none 0 0,.int .i64 0,.int .i64 0]∧zbE jV 129=true:=by and_intros <;> kernel_rfl
@[go_sem] theorem zpw:hasT jV 130=true∧szT jV 130=1∧Tryz.prog.bytesOf 130=8∧aggT jV 130=false∧zaX jV 130=none∧arrT jV 130=none∧zbF jV 130=some [.pointer none]:=by and_intros <;> kernel_rfl
@[go_sem] theorem zFz:hasT jV 131=true∧szT jV 131=20∧Tryz.prog.bytesOf 131=320∧aggT jV 131=true∧zaX jV 131=none∧arrT jV 131=none∧zbF jV 131=some [.int .i64 0,.slice none 0 0,.slice none 0 0,.slice none 0 0,.slice none 0 0,.slice none 0 0,.int .i64 0,.bool false,.int .i64 0,.int .i64 0,.int .i64 0,.slice none 0 0,.slice none 0 0,.nilFunc,.slice none 0 0,.slice none 0 0,.slice none 0 0,.int .i64 0,.int .i64 0,.bool false]∧zbE jV 131=true:=by and_intros <;> kernel_rfl
@[go_sem] theorem zFA:hasT jV 132=true∧szT jV 132=20∧Tryz.prog.bytesOf 132=320∧aggT jV 132=true∧zaX jV 132=none∧arrT jV 132=none∧zbF jV 132=some [.int .i64 0,.slice none 0 0,.slice none 0 0,.slice none 0 0,.slice none 0 0,.slice none 0 0,.int .i64 0,.bool false,.int .i64 0,.int .i64 0,.int .i64 0,.slice none 0 0,.slice none 0 0,.nilFunc,.slice none 0 0,.slice none 0 0,.slice none 0 0,.int .i64 0,.int .i64 0,.bool false]∧zbE jV 132=true:=by and_intros <;> kernel_rfl
@[go_sem] theorem zpx:hasT jV 133=true∧szT jV 133=1∧Tryz.prog.bytesOf 133=8∧aggT jV 133=false∧zaX jV 133=none∧arrT jV 133=none∧zbF jV 133=some [.nilFunc]:=by and_intros <;> kernel_rfl
@[go_sem] theorem zpy:hasT jV 134=true∧szT jV 134=1∧Tryz.prog.bytesOf 134=8∧aggT jV 134=false∧zaX jV 134=none∧arrT jV 134=none∧zbF jV 134=some [.nilFunc]:=by and_intros <;> kernel_rfl
@[go_sem] theorem zFB:hasT jV 138=true∧szT jV 138=1∧Tryz.prog.bytesOf 138=24∧aggT jV 138=false∧zaX jV 138=some 4∧arrT jV 138=none∧zbF jV 138=some [.slice none 0 0]:=by and_intros <;> kernel_rfl
@[go_sem] theorem zFC:hasT jV 139=true∧szT jV 139=1∧Tryz.prog.bytesOf 139=24∧aggT jV 139=false∧zaX jV 139=some 147∧arrT jV 139=none∧zbF jV 139=some [.slice none 0 0]:=by and_intros <;> kernel_rfl
@[go_sem] theorem zpA:hasT jV 140=true∧szT jV 140=3∧Tryz.prog.bytesOf 140=72∧aggT jV 140=true∧zaX jV 140=none∧arrT jV 140=none∧zbF jV 140=some [.slice none 0 0,.slice none 0 0,.slice none 0 0]∧zbE jV 140=true:=by and_intros <;> kernel_rfl
@[go_sem] theorem zpB:hasT jV 141=true∧szT jV 141=3∧Tryz.prog.bytesOf 141=72∧aggT jV 141=true∧zaX jV 141=none∧arrT jV 141=none∧zbF jV 141=some [.slice none 0 0,.slice none 0 0,.slice none 0 0]∧zbE jV 141=true:=by and_intros <;> kernel_rfl
@[go_sem] theorem zFD:hasT jV 147=true∧szT jV 147=1∧Tryz.prog.bytesOf 147=24∧aggT jV 147=false∧zaX jV 147=some 198∧arrT jV 147=none∧zbF jV 147=some [.slice none 0 0]:=by and_intros <;> kernel_rfl
@[go_sem] theorem zFE:hasT jV 149=true∧szT jV 149=1∧Tryz.prog.bytesOf 149=8∧aggT jV 149=false∧zaX jV 149=none∧arrT jV 149=none∧zbF jV 149=some [.nilFunc]:=by and_intros <;> kernel_rfl
@[go_sem] theorem zpD:hasT jV 150=true∧szT jV 150=1∧Tryz.prog.bytesOf 150=8∧aggT jV 150=false∧zaX jV 150=none∧arrT jV 150=none∧zbF jV 150=some [.nilFunc]:=by and_intros <;> kernel_rfl
@[go_sem] theorem zpE:hasT jV 151=true∧szT jV 151=5∧Tryz.prog.bytesOf 151=40∧aggT jV 151=true∧zaX jV 151=none∧arrT jV 151=none∧zbF jV 151=some [.int .i64 0,.int .i64 0,.int .i64 0,.int .i64 0,.bool false]∧zbE jV 151=true:=by and_intros <;> kernel_rfl
@[go_sem] theorem zFF:hasT jV 152=true∧szT jV 152=5∧Tryz.prog.bytesOf 152=40∧aggT jV 152=true∧zaX jV 152=none∧arrT jV 152=none∧zbF jV 152=some [.int .i64 0,.int .i64 0,.int .i64 0,.int .i64 0,.bool false]∧zbE jV 152=true:=by and_intros <;> kernel_rfl
@[go_sem] theorem zFG:hasT jV 154=true∧szT jV 154=3∧Tryz.prog.bytesOf 154=24∧aggT jV 154=true∧zaX jV 154=none∧arrT jV 154=none∧zbF jV 154=some [.int .i64 0,.int .i64 0,.int .i64 0]∧zbE jV 154=true:=by and_intros <;> kernel_rfl
@[go_sem] theorem zFH:hasT jV 155=true∧szT jV 155=3∧Tryz.prog.bytesOf 155=24∧aggT jV 155=true∧zaX jV 155=none∧arrT jV 155=none∧zbF jV 155=some [.int .i64 0,.int .i64 0,.int .i64 0]∧zbE jV 155=true:=by and_intros <;> kernel_rfl
@[go_sem] theorem zFI:hasT jV 156=true∧szT jV 156=1∧Tryz.prog.bytesOf 156=8∧aggT jV 156=false∧zaX jV 156=none∧arrT jV 156=none∧zbF jV 156=some [.nilFunc]:=by and_intros <;> kernel_rfl
@[go_sem] theorem zpH:hasT jV 160=true∧szT jV 160=1∧Tryz.prog.bytesOf 160=24∧aggT jV 160=false∧zaX jV 160=some 179∧arrT jV 160=none∧zbF jV 160=some [.slice none 0 0]:=by and_intros <;> kernel_rfl
@[go_sem] theorem zpI:hasT jV 162=true∧szT jV 162=1∧Tryz.prog.bytesOf 162=8∧aggT jV 162=false∧zaX jV 162=none∧arrT jV 162=none∧zbF jV 162=some [.pointer none]:=by and_intros <;> kernel_rfl
@[go_sem] theorem zFJ:hasT jV 163=true∧szT jV 163=1∧Tryz.prog.bytesOf 163=8∧aggT jV 163=false∧zaX jV 163=none∧arrT jV 163=none∧zbF jV 163=some [.nilFunc]:=by and_intros <;> kernel_rfl
@[go_sem] theorem zFK:hasT jV 164=true∧szT jV 164=4∧Tryz.prog.bytesOf 164=80∧aggT jV 164=true∧zaX jV 164=none∧arrT jV 164=none∧zbF jV 164=some [.slice none 0 0,.int .i64 0,.slice none 0 0,.slice none 0 0]∧zbE jV 164=true:=by and_intros <;> kernel_rfl
@[go_sem] theorem zFL:hasT jV 165=true∧szT jV 165=4∧Tryz.prog.bytesOf 165=80∧aggT jV 165=true∧zaX jV 165=none∧arrT jV 165=none∧zbF jV 165=some [.slice none 0 0,.int .i64 0,.slice none 0 0,.slice none 0 0]∧zbE jV 165=true:=by and_intros <;> kernel_rfl
@[go_sem] theorem zFM:hasT jV 169=true∧szT jV 169=2∧Tryz.prog.bytesOf 169=24∧aggT jV 169=true∧zaX jV 169=none∧arrT jV 169=none∧zbF jV 169=some [.string ByteArray.empty,.bool false]∧zbE jV 169=true:=by and_intros <;> kernel_rfl
@[go_sem] theorem zFN:hasT jV 170=true∧szT jV 170=2∧Tryz.prog.bytesOf 170=24∧aggT jV 170=true∧zaX jV 170=none∧arrT jV 170=none∧zbF jV 170=some [.string ByteArray.empty,.bool false]∧zbE jV 170=true:=by and_intros <;> kernel_rfl
@[go_sem] theorem zpL:hasT jV 179=true∧szT jV 179=1∧Tryz.prog.bytesOf 179=8∧aggT jV 179=false∧zaX jV 179=none∧arrT jV 179=none∧zbF jV 179=some [.int .u64 0]∧intT jV 179=some .u64:=by and_intros <;> kernel_rfl
attribute [go_sem] Tryz.underlying179
@[go_sem] theorem zFO:hasT jV 186=true∧szT jV 186=1∧Tryz.prog.bytesOf 186=8∧aggT jV 186=false∧zaX jV 186=none∧arrT jV 186=none∧zbF jV 186=some [.nilFunc]:=by and_intros <;> kernel_rfl
@[go_sem] theorem zpQ:hasT jV 192=true∧szT jV 192=1∧Tryz.prog.bytesOf 192=8∧aggT jV 192=false∧zaX jV 192=none∧arrT jV 192=none∧zbF jV 192=some [.nilFunc]:=by and_intros <;> kernel_rfl
@[go_sem] theorem zFP:hasT jV 193=true∧szT jV 193=1∧Tryz.prog.bytesOf 193=8∧aggT jV 193=false∧zaX jV 193=none∧arrT jV 193=none∧zbF jV 193=some [.nilFunc]:=by and_intros <;> kernel_rfl
@[go_sem] theorem zFQ:hasT jV 196=true∧szT jV 196=1∧Tryz.prog.bytesOf 196=8∧aggT jV 196=false∧zaX jV 196=none∧arrT jV 196=none∧zbF jV 196=some [.nilFunc]:=by and_intros <;> kernel_rfl
@[go_sem] theorem zFR:hasT jV 197=true∧szT jV 197=2∧Tryz.prog.bytesOf 197=16∧aggT jV 197=true∧zaX jV 197=none∧arrT jV 197=none∧zbF jV 197=some [.int .i64 0,.int .i64 0]∧zbE jV 197=true:=by and_intros <;> kernel_rfl
@[go_sem] theorem zFS:hasT jV 198=true∧szT jV 198=2∧Tryz.prog.bytesOf 198=16∧aggT jV 198=true∧zaX jV 198=none∧arrT jV 198=none∧zbF jV 198=some [.int .i64 0,.int .i64 0]∧zbE jV 198=true:=by and_intros <;> kernel_rfl
@[go_sem] theorem zFT:hasT jV 201=true∧szT jV 201=3∧Tryz.prog.bytesOf 201=24∧aggT jV 201=true∧zaX jV 201=none∧arrT jV 201=none∧zbF jV 201=some [.int .i64 0,.int .i64 0,.int .i64 0]∧zbE jV 201=true:=by and_intros <;> kernel_rfl
@[go_sem] theorem zpS:hasT jV 202=true∧szT jV 202=3∧Tryz.prog.bytesOf 202=24∧aggT jV 202=true∧zaX jV 202=none∧arrT jV 202=none∧zbF jV 202=some [.int .i64 0,.int .i64 0,.int .i64 0]∧zbE jV 202=true:=by and_intros <;> kernel_rfl
@[go_sem] theorem zFU:hasT jV 206=true∧szT jV 206=1∧Tryz.prog.bytesOf 206=8∧aggT jV 206=false∧zaX jV 206=none∧arrT jV 206=none∧zbF jV 206=some [.nilFunc]:=by and_intros <;> kernel_rfl
@[go_sem] theorem zFV:hasT jV 215=true∧szT jV 215=1∧Tryz.prog.bytesOf 215=8∧aggT jV 215=false∧zaX jV 215=none∧arrT jV 215=none∧zbF jV 215=some [.nilFunc]:=by and_intros <;> kernel_rfl
@[go_sem] theorem zFW:hasT jV 216=true∧szT jV 216=8∧Tryz.prog.bytesOf 216=8∧aggT jV 216=true∧zaX jV 216=none∧arrT jV 216=some (8,4)∧zbF jV 216=some [.bool false,.bool false,.bool false,.bool false,.bool false,.bool false,.bool false,.bool false]∧zbE jV 216=true:=by and_intros <;> kernel_rfl
@[go_sem] theorem zFX:hasT jV 217=true∧szT jV 217=1∧Tryz.prog.bytesOf 217=8∧aggT jV 217=false∧zaX jV 217=none∧arrT jV 217=none∧zbF jV 217=some [.pointer none]:=by and_intros <;> kernel_rfl
@[go_sem] theorem zFY:hasT jV 218=true∧szT jV 218=1∧Tryz.prog.bytesOf 218=8∧aggT jV 218=false∧zaX jV 218=none∧arrT jV 218=none∧zbF jV 218=some [.nilFunc]:=by and_intros <;> kernel_rfl
@[go_sem] theorem zFZ:hasT jV 224=true∧szT jV 224=1∧Tryz.prog.bytesOf 224=8∧aggT jV 224=false∧zaX jV 224=none∧arrT jV 224=none∧zbF jV 224=some [.nilFunc]:=by and_intros <;> kernel_rfl
@[go_sem] theorem zF0:hasT jV 226=true∧szT jV 226=1∧Tryz.prog.bytesOf 226=4∧aggT jV 226=false∧zaX jV 226=none∧arrT jV 226=none∧zbF jV 226=some [.int .u32 0]∧intT jV 226=some .u32:=by and_intros <;> kernel_rfl
attribute [go_sem] Tryz.underlying226
@[go_sem] theorem zF1:hasT jV 228=true∧szT jV 228=1∧Tryz.prog.bytesOf 228=8∧aggT jV 228=false∧zaX jV 228=none∧arrT jV 228=none∧zbF jV 228=some [.int .u64 0]∧intT jV 228=some .u64:=by and_intros <;> kernel_rfl
attribute [go_sem] Tryz.underlying228
@[go_sem] theorem zF2:hasT jV 233=true∧szT jV 233=1∧Tryz.prog.bytesOf 233=8∧aggT jV 233=false∧zaX jV 233=none∧arrT jV 233=none∧zbF jV 233=some [.nilFunc]:=by and_intros <;> kernel_rfl
@[go_sem] theorem zpU:zaW jV 13 0=some (0,9):=by kernel_rfl
@[go_sem] theorem zpV:zbD jV 13 0=some (0,1):=by kernel_rfl
@[go_sem] theorem zpW:zaW jV 13 1=some (1,12):=by kernel_rfl
@[go_sem] theorem zpX:zbD jV 13 1=some (1,1):=by kernel_rfl
attribute [go_sem] Tryz.underlying13 Tryz.stoodInHeld13 Tryz.eqGuardType13
@[go_sem] theorem zpY:zaW jV 24 0=some (0,3):=by kernel_rfl
@[go_sem] theorem zpZ:zbD jV 24 0=some (0,1):=by kernel_rfl
@[go_sem] theorem zp0:zaW jV 24 1=some (1,23):=by kernel_rfl
@[go_sem] theorem zp1:zbD jV 24 1=some (1,1):=by kernel_rfl
attribute [go_sem] Tryz.underlying24 Tryz.stoodInHeld24 Tryz.eqGuardType24
@[go_sem] theorem zp2:zaW jV 25 0=some (0,3):=by kernel_rfl
@[go_sem] theorem zp3:zbD jV 25 0=some (0,1):=by kernel_rfl
@[go_sem] theorem zp4:zaW jV 25 1=some (1,23):=by kernel_rfl
@[go_sem] theorem zp5:zbD jV 25 1=some (1,1):=by kernel_rfl
attribute [go_sem] Tryz.underlying25 Tryz.stoodInHeld25 Tryz.eqGuardType25
@[go_sem] theorem zp6:zaW jV 27 0=some (0,25):=by kernel_rfl
@[go_sem] theorem zp7:zbD jV 27 0=some (0,2):=by kernel_rfl
@[go_sem] theorem zp8:zaW jV 27 1=some (2,26):=by kernel_rfl
@[go_sem] theorem zp9:zbD jV 27 1=some (2,1):=by kernel_rfl
attribute [go_sem] Tryz.underlying27 Tryz.stoodInHeld27 Tryz.eqGuardType27
@[go_sem] theorem zqa:zaW jV 28 0=some (0,25):=by kernel_rfl
@[go_sem] theorem zqb:zbD jV 28 0=some (0,2):=by kernel_rfl
@[go_sem] theorem zqc:zaW jV 28 1=some (2,26):=by kernel_rfl
@[go_sem] theorem zqd:zbD jV 28 1=some (2,1):=by kernel_rfl
attribute [go_sem] Tryz.underlying28 Tryz.stoodInHeld28 Tryz.eqGuardType28
@[go_sem] theorem zqe:zaW jV 31 0=some (0,29):=by kernel_rfl
@[go_sem] theorem zqf:zbD jV 31 0=some (0,1):=by kernel_rfl
@[go_sem] theorem zqg:zaW jV 31 1=some (1,30):=by kernel_rfl
@[go_sem] theorem zqh:zbD jV 31 1=some (1,1):=by kernel_rfl
attribute [go_sem] Tryz.underlying31 Tryz.stoodInHeld31 Tryz.eqGuardType31
@[go_sem] theorem zqi:zaW jV 32 0=some (0,29):=by kernel_rfl
@[go_sem] theorem zqj:zbD jV 32 0=some (0,1):=by kernel_rfl
@[go_sem] theorem zqk:zaW jV 32 1=some (1,30):=by kernel_rfl
@[go_sem] theorem zql:zbD jV 32 1=some (1,1):=by kernel_rfl
attribute [go_sem] Tryz.underlying32 Tryz.stoodInHeld32 Tryz.eqGuardType32
@[go_sem] theorem zqm:zaW jV 34 0=some (0,3):=by kernel_rfl
@[go_sem] theorem zqn:zbD jV 34 0=some (0,1):=by kernel_rfl
@[go_sem] theorem zqo:zaW jV 34 1=some (1,4):=by kernel_rfl
@[go_sem] theorem zqp:zbD jV 34 1=some (1,1):=by kernel_rfl
attribute [go_sem] Tryz.underlying34 Tryz.stoodInHeld34 Tryz.eqGuardType34
@[go_sem] theorem zqq:zaW jV 35 0=some (0,3):=by kernel_rfl
@[go_sem] theorem zqr:zbD jV 35 0=some (0,1):=by kernel_rfl
@[go_sem] theorem zqs:zaW jV 35 1=some (1,4):=by kernel_rfl
@[go_sem] theorem zqt:zbD jV 35 1=some (1,1):=by kernel_rfl
attribute [go_sem] Tryz.underlying35 Tryz.stoodInHeld35 Tryz.eqGuardType35
@[go_sem] theorem zqu:zaW jV 37 0=some (0,3):=by kernel_rfl
@[go_sem] theorem zqv:zbD jV 37 0=some (0,1):=by kernel_rfl
@[go_sem] theorem zqw:zaW jV 37 1=some (1,3):=by kernel_rfl
@[go_sem] theorem zqx:zbD jV 37 1=some (1,1):=by kernel_rfl
@[go_sem] theorem zqy:zaW jV 37 2=some (2,3):=by kernel_rfl
@[go_sem] theorem zqz:zbD jV 37 2=some (2,1):=by kernel_rfl
@[go_sem] theorem zqA:zaW jV 37 3=some (3,36):=by kernel_rfl
@[go_sem] theorem zqB:zbD jV 37 3=some (3,1):=by kernel_rfl
attribute [go_sem] Tryz.underlying37 Tryz.stoodInHeld37 Tryz.eqGuardType37
@[go_sem] theorem zqC:zaW jV 38 0=some (0,3):=by kernel_rfl
@[go_sem] theorem zqD:zbD jV 38 0=some (0,1):=by kernel_rfl
@[go_sem] theorem zqE:zaW jV 38 1=some (1,3):=by kernel_rfl
@[go_sem] theorem zqF:zbD jV 38 1=some (1,1):=by kernel_rfl
@[go_sem] theorem zqG:zaW jV 38 2=some (2,3):=by kernel_rfl
@[go_sem] theorem zqH:zbD jV 38 2=some (2,1):=by kernel_rfl
@[go_sem] theorem zqI:zaW jV 38 3=some (3,36):=by kernel_rfl
@[go_sem] theorem zqJ:zbD jV 38 3=some (3,1):=by kernel_rfl
attribute [go_sem] Tryz.underlying38 Tryz.stoodInHeld38 Tryz.eqGuardType38
@[go_sem] theorem zqK:zaW jV 39 0=some (0,28):=by kernel_rfl
@[go_sem] theorem zqL:zbD jV 39 0=some (0,3):=by kernel_rfl
@[go_sem] theorem zqM:zaW jV 39 1=some (3,32):=by kernel_rfl
@[go_sem] theorem zqN:zbD jV 39 1=some (3,2):=by kernel_rfl
@[go_sem] theorem zqO:zaW jV 39 2=some (5,33):=by kernel_rfl
@[go_sem] theorem zqP:zbD jV 39 2=some (5,1):=by kernel_rfl
@[go_sem] theorem zqQ:zaW jV 39 3=some (6,35):=by kernel_rfl
@[go_sem] theorem zqR:zbD jV 39 3=some (6,2):=by kernel_rfl
@[go_sem] theorem zqS:zaW jV 39 4=some (8,38):=by kernel_rfl
@[go_sem] theorem zqT:zbD jV 39 4=some (8,4):=by kernel_rfl
attribute [go_sem] Tryz.underlying39 Tryz.stoodInHeld39 Tryz.eqGuardType39
@[go_sem] theorem zqU:zaW jV 40 0=some (0,28):=by kernel_rfl
@[go_sem] theorem zqV:zbD jV 40 0=some (0,3):=by kernel_rfl
@[go_sem] theorem zqW:zaW jV 40 1=some (3,32):=by kernel_rfl
@[go_sem] theorem zqX:zbD jV 40 1=some (3,2):=by kernel_rfl
@[go_sem] theorem zqY:zaW jV 40 2=some (5,33):=by kernel_rfl
@[go_sem] theorem zqZ:zbD jV 40 2=some (5,1):=by kernel_rfl
@[go_sem] theorem zq0:zaW jV 40 3=some (6,35):=by kernel_rfl
@[go_sem] theorem zq1:zbD jV 40 3=some (6,2):=by kernel_rfl
@[go_sem] theorem zq2:zaW jV 40 4=some (8,38):=by kernel_rfl
@[go_sem] theorem zq3:zbD jV 40 4=some (8,4):=by kernel_rfl
attribute [go_sem] Tryz.underlying40 Tryz.stoodInHeld40 Tryz.eqGuardType40
@[go_sem] theorem zF3:zaW jV 52 0=some (0,3):=by kernel_rfl
@[go_sem] theorem zF4:zbD jV 52 0=some (0,1):=by kernel_rfl
@[go_sem] theorem zF5:zaW jV 52 1=some (1,3):=by kernel_rfl
@[go_sem] theorem zF6:zbD jV 52 1=some (1,1):=by kernel_rfl
@[go_sem] theorem zF7:zaW jV 52 2=some (2,3):=by kernel_rfl
@[go_sem] theorem zF8:zbD jV 52 2=some (2,1):=by kernel_rfl
@[go_sem] theorem zF9:zaW jV 52 3=some (3,51):=by kernel_rfl
@[go_sem] theorem zGa:zbD jV 52 3=some (3,1):=by kernel_rfl
attribute [go_sem] Tryz.underlying52 Tryz.stoodInHeld52 Tryz.eqGuardType52
@[go_sem] theorem zGb:zaW jV 53 0=some (0,3):=by kernel_rfl
@[go_sem] theorem zGc:zbD jV 53 0=some (0,1):=by kernel_rfl
@[go_sem] theorem zGd:zaW jV 53 1=some (1,3):=by kernel_rfl
@[go_sem] theorem zGe:zbD jV 53 1=some (1,1):=by kernel_rfl
@[go_sem] theorem zGf:zaW jV 53 2=some (2,3):=by kernel_rfl
@[go_sem] theorem zGg:zbD jV 53 2=some (2,1):=by kernel_rfl
@[go_sem] theorem zGh:zaW jV 53 3=some (3,51):=by kernel_rfl
@[go_sem] theorem zGi:zbD jV 53 3=some (3,1):=by kernel_rfl
attribute [go_sem] Tryz.underlying53 Tryz.stoodInHeld53 Tryz.eqGuardType53
@[go_sem] theorem zGj:zaW jV 54 0=some (0,3):=by kernel_rfl
@[go_sem] theorem zGk:zbD jV 54 0=some (0,1):=by kernel_rfl
@[go_sem] theorem zGl:zaW jV 54 1=some (1,3):=by kernel_rfl
@[go_sem] theorem zGm:zbD jV 54 1=some (1,1):=by kernel_rfl
@[go_sem] theorem zGn:zaW jV 54 2=some (2,4):=by kernel_rfl
@[go_sem] theorem zGo:zbD jV 54 2=some (2,1):=by kernel_rfl
@[go_sem] theorem zGp:zaW jV 54 3=some (3,3):=by kernel_rfl
@[go_sem] theorem zGq:zbD jV 54 3=some (3,1):=by kernel_rfl
@[go_sem] theorem zGr:zaW jV 54 4=some (4,3):=by kernel_rfl
@[go_sem] theorem zGs:zbD jV 54 4=some (4,1):=by kernel_rfl
attribute [go_sem] Tryz.underlying54 Tryz.stoodInHeld54 Tryz.eqGuardType54
@[go_sem] theorem zGt:zaW jV 55 0=some (0,3):=by kernel_rfl
@[go_sem] theorem zGu:zbD jV 55 0=some (0,1):=by kernel_rfl
@[go_sem] theorem zGv:zaW jV 55 1=some (1,3):=by kernel_rfl
@[go_sem] theorem zGw:zbD jV 55 1=some (1,1):=by kernel_rfl
@[go_sem] theorem zGx:zaW jV 55 2=some (2,4):=by kernel_rfl
@[go_sem] theorem zGy:zbD jV 55 2=some (2,1):=by kernel_rfl
@[go_sem] theorem zGz:zaW jV 55 3=some (3,3):=by kernel_rfl
@[go_sem] theorem zGA:zbD jV 55 3=some (3,1):=by kernel_rfl
@[go_sem] theorem zGB:zaW jV 55 4=some (4,3):=by kernel_rfl
@[go_sem] theorem zGC:zbD jV 55 4=some (4,1):=by kernel_rfl
attribute [go_sem] Tryz.underlying55 Tryz.stoodInHeld55 Tryz.eqGuardType55
@[go_sem] theorem zGD:zaW jV 58 0=some (0,9):=by kernel_rfl
@[go_sem] theorem zGE:zbD jV 58 0=some (0,1):=by kernel_rfl
@[go_sem] theorem zGF:zaW jV 58 1=some (1,3):=by kernel_rfl
@[go_sem] theorem zGG:zbD jV 58 1=some (1,1):=by kernel_rfl
@[go_sem] theorem zGH:zaW jV 58 2=some (2,3):=by kernel_rfl
@[go_sem] theorem zGI:zbD jV 58 2=some (2,1):=by kernel_rfl
@[go_sem] theorem zGJ:zaW jV 58 3=some (3,3):=by kernel_rfl
@[go_sem] theorem zGK:zbD jV 58 3=some (3,1):=by kernel_rfl
@[go_sem] theorem zGL:zaW jV 58 4=some (4,3):=by kernel_rfl
@[go_sem] theorem zGM:zbD jV 58 4=some (4,1):=by kernel_rfl
@[go_sem] theorem zGN:zaW jV 58 5=some (5,4):=by kernel_rfl
@[go_sem] theorem zGO:zbD jV 58 5=some (5,1):=by kernel_rfl
attribute [go_sem] Tryz.underlying58 Tryz.stoodInHeld58 Tryz.eqGuardType58
@[go_sem] theorem zrM:zaW jV 59 0=some (0,9):=by kernel_rfl
@[go_sem] theorem zrN:zbD jV 59 0=some (0,1):=by kernel_rfl
@[go_sem] theorem zrO:zaW jV 59 1=some (1,3):=by kernel_rfl
@[go_sem] theorem zrP:zbD jV 59 1=some (1,1):=by kernel_rfl
@[go_sem] theorem zrQ:zaW jV 59 2=some (2,3):=by kernel_rfl
@[go_sem] theorem zrR:zbD jV 59 2=some (2,1):=by kernel_rfl
@[go_sem] theorem zrS:zaW jV 59 3=some (3,3):=by kernel_rfl
@[go_sem] theorem zrT:zbD jV 59 3=some (3,1):=by kernel_rfl
@[go_sem] theorem zrU:zaW jV 59 4=some (4,3):=by kernel_rfl
@[go_sem] theorem zrV:zbD jV 59 4=some (4,1):=by kernel_rfl
@[go_sem] theorem zGP:zaW jV 59 5=some (5,4):=by kernel_rfl
@[go_sem] theorem zGQ:zbD jV 59 5=some (5,1):=by kernel_rfl
attribute [go_sem] Tryz.underlying59 Tryz.stoodInHeld59 Tryz.eqGuardType59
@[go_sem] theorem zGR:zbD jV 80 0=some (0,1):=by kernel_rfl
@[go_sem] theorem zGS:zbD jV 80 1=some (1,1):=by kernel_rfl
@[go_sem] theorem zGT:zbD jV 81 0=some (0,1):=by kernel_rfl
@[go_sem] theorem zGU:zbD jV 81 1=some (1,1):=by kernel_rfl
@[go_sem] theorem zGV:zaW jV 88 0=some (0,3):=by kernel_rfl
@[go_sem] theorem zGW:zbD jV 88 0=some (0,1):=by kernel_rfl
@[go_sem] theorem zGX:zaW jV 88 1=some (1,3):=by kernel_rfl
@[go_sem] theorem zGY:zbD jV 88 1=some (1,1):=by kernel_rfl
@[go_sem] theorem zGZ:zaW jV 88 2=some (2,3):=by kernel_rfl
@[go_sem] theorem zG0:zbD jV 88 2=some (2,1):=by kernel_rfl
@[go_sem] theorem zG1:zaW jV 88 3=some (3,3):=by kernel_rfl
@[go_sem] theorem zG2:zbD jV 88 3=some (3,1):=by kernel_rfl
@[go_sem] theorem zG3:zaW jV 88 4=some (4,3):=by kernel_rfl
@[go_sem] theorem zG4:zbD jV 88 4=some (4,1):=by kernel_rfl
attribute [go_sem] Tryz.underlying88 Tryz.stoodInHeld88 Tryz.eqGuardType88
@[go_sem] theorem zG5:zaW jV 89 0=some (0,3):=by kernel_rfl
@[go_sem] theorem zG6:zbD jV 89 0=some (0,1):=by kernel_rfl
@[go_sem] theorem zG7:zaW jV 89 1=some (1,3):=by kernel_rfl
@[go_sem] theorem zG8:zbD jV 89 1=some (1,1):=by kernel_rfl
@[go_sem] theorem zG9:zaW jV 89 2=some (2,3):=by kernel_rfl
@[go_sem] theorem zHa:zbD jV 89 2=some (2,1):=by kernel_rfl
@[go_sem] theorem zHb:zaW jV 89 3=some (3,3):=by kernel_rfl
@[go_sem] theorem zHc:zbD jV 89 3=some (3,1):=by kernel_rfl
@[go_sem] theorem zHd:zaW jV 89 4=some (4,3):=by kernel_rfl
@[go_sem] theorem zHe:zbD jV 89 4=some (4,1):=by kernel_rfl
attribute [go_sem] Tryz.underlying89 Tryz.stoodInHeld89 Tryz.eqGuardType89
@[go_sem] theorem zHf:zaW jV 107 0=some (0,3):=by kernel_rfl
@[go_sem] theorem zHg:zbD jV 107 0=some (0,1):=by kernel_rfl
@[go_sem] theorem zHh:zaW jV 107 1=some (1,3):=by kernel_rfl
@[go_sem] theorem zHi:zbD jV 107 1=some (1,1):=by kernel_rfl
@[go_sem] theorem zHj:zaW jV 107 2=some (2,3):=by kernel_rfl
@[go_sem] theorem zHk:zbD jV 107 2=some (2,1):=by kernel_rfl
@[go_sem] theorem zHl:zaW jV 107 3=some (3,3):=by kernel_rfl
@[go_sem] theorem zHm:zbD jV 107 3=some (3,1):=by kernel_rfl
attribute [go_sem] Tryz.underlying107 Tryz.stoodInHeld107 Tryz.eqGuardType107
@[go_sem] theorem zHn:zaW jV 108 0=some (0,3):=by kernel_rfl
@[go_sem] theorem zHo:zbD jV 108 0=some (0,1):=by kernel_rfl
@[go_sem] theorem zHp:zaW jV 108 1=some (1,3):=by kernel_rfl
@[go_sem] theorem zHq:zbD jV 108 1=some (1,1):=by kernel_rfl
@[go_sem] theorem zHr:zaW jV 108 2=some (2,3):=by kernel_rfl
@[go_sem] theorem zHs:zbD jV 108 2=some (2,1):=by kernel_rfl
@[go_sem] theorem zHt:zaW jV 108 3=some (3,3):=by kernel_rfl
@[go_sem] theorem zHu:zbD jV 108 3=some (3,1):=by kernel_rfl
attribute [go_sem] Tryz.underlying108 Tryz.stoodInHeld108 Tryz.eqGuardType108
@[go_sem] theorem zHv:zaW jV 128 0=some (0,22):=by kernel_rfl
@[go_sem] theorem zHw:zbD jV 128 0=some (0,1):=by kernel_rfl
@[go_sem] theorem zHx:zaW jV 128 1=some (1,3):=by kernel_rfl
@[go_sem] theorem zHy:zbD jV 128 1=some (1,1):=by kernel_rfl
@[go_sem] theorem zHz:zaW jV 128 2=some (2,3):=by kernel_rfl
@[go_sem] theorem zHA:zbD jV 128 2=some (2,1):=by kernel_rfl
attribute [go_sem] Tryz.underlying128 Tryz.stoodInHeld128 Tryz.eqGuardType128
@[go_sem] theorem zHB:zaW jV 129 0=some (0,22):=by kernel_rfl
@[go_sem] theorem zHC:zbD jV 129 0=some (0,1):=by kernel_rfl
@[go_sem] theorem zHD:zaW jV 129 1=some (1,3):=by kernel_rfl
@[go_sem] theorem zHE:zbD jV 129 1=some (1,1):=by kernel_rfl
@[go_sem] theorem zHF:zaW jV 129 2=some (2,3):=by kernel_rfl
@[go_sem] theorem zHG:zbD jV 129 2=some (2,1):=by kernel_rfl
attribute [go_sem] Tryz.underlying129 Tryz.stoodInHeld129 Tryz.eqGuardType129
@[go_sem] theorem zHH:zaW jV 131 0=some (0,40):=by kernel_rfl
@[go_sem] theorem zHI:zbD jV 131 0=some (0,12):=by kernel_rfl
@[go_sem] theorem zHJ:zaW jV 131 1=some (12,84):=by kernel_rfl
@[go_sem] theorem zHK:zbD jV 131 1=some (12,1):=by kernel_rfl
@[go_sem] theorem zHL:zaW jV 131 2=some (13,86):=by kernel_rfl
@[go_sem] theorem zHM:zbD jV 131 2=some (13,1):=by kernel_rfl
@[go_sem] theorem zHN:zaW jV 131 3=some (14,48):=by kernel_rfl
@[go_sem] theorem zHO:zbD jV 131 3=some (14,1):=by kernel_rfl
@[go_sem] theorem zHP:zaW jV 131 4=some (15,36):=by kernel_rfl
@[go_sem] theorem zHQ:zbD jV 131 4=some (15,1):=by kernel_rfl
@[go_sem] theorem zHR:zaW jV 131 5=some (16,36):=by kernel_rfl
@[go_sem] theorem zHS:zbD jV 131 5=some (16,1):=by kernel_rfl
@[go_sem] theorem zHT:zaW jV 131 6=some (17,81):=by kernel_rfl
@[go_sem] theorem zHU:zbD jV 131 6=some (17,2):=by kernel_rfl
@[go_sem] theorem zHV:zaW jV 131 7=some (19,4):=by kernel_rfl
@[go_sem] theorem zHW:zbD jV 131 7=some (19,1):=by kernel_rfl
attribute [go_sem] Tryz.underlying131 Tryz.stoodInHeld131 Tryz.eqGuardType131
@[go_sem] theorem zHX:zaW jV 132 0=some (0,40):=by kernel_rfl
@[go_sem] theorem zHY:zbD jV 132 0=some (0,12):=by kernel_rfl
@[go_sem] theorem zHZ:zaW jV 132 1=some (12,84):=by kernel_rfl
@[go_sem] theorem zH0:zbD jV 132 1=some (12,1):=by kernel_rfl
@[go_sem] theorem zH1:zaW jV 132 2=some (13,86):=by kernel_rfl
@[go_sem] theorem zH2:zbD jV 132 2=some (13,1):=by kernel_rfl
@[go_sem] theorem zH3:zaW jV 132 3=some (14,48):=by kernel_rfl
@[go_sem] theorem zH4:zbD jV 132 3=some (14,1):=by kernel_rfl
@[go_sem] theorem zH5:zaW jV 132 4=some (15,36):=by kernel_rfl
@[go_sem] theorem zH6:zbD jV 132 4=some (15,1):=by kernel_rfl
@[go_sem] theorem zH7:zaW jV 132 5=some (16,36):=by kernel_rfl
@[go_sem] theorem zH8:zbD jV 132 5=some (16,1):=by kernel_rfl
@[go_sem] theorem zH9:zaW jV 132 6=some (17,81):=by kernel_rfl
@[go_sem] theorem zIa:zbD jV 132 6=some (17,2):=by kernel_rfl
@[go_sem] theorem zIb:zaW jV 132 7=some (19,4):=by kernel_rfl
@[go_sem] theorem zIc:zbD jV 132 7=some (19,1):=by kernel_rfl
attribute [go_sem] Tryz.underlying132 Tryz.stoodInHeld132 Tryz.eqGuardType132
@[go_sem] theorem zts:zaW jV 140 0=some (0,138):=by kernel_rfl
@[go_sem] theorem ztt:zbD jV 140 0=some (0,1):=by kernel_rfl
@[go_sem] theorem ztu:zaW jV 140 1=some (1,36):=by kernel_rfl
@[go_sem] theorem ztv:zbD jV 140 1=some (1,1):=by kernel_rfl
@[go_sem] theorem zId:zaW jV 140 2=some (2,139):=by kernel_rfl
@[go_sem] theorem zIe:zbD jV 140 2=some (2,1):=by kernel_rfl
attribute [go_sem] Tryz.underlying140 Tryz.stoodInHeld140 Tryz.eqGuardType140
@[go_sem] theorem ztw:zaW jV 141 0=some (0,138):=by kernel_rfl
@[go_sem] theorem ztx:zbD jV 141 0=some (0,1):=by kernel_rfl
@[go_sem] theorem zty:zaW jV 141 1=some (1,36):=by kernel_rfl
@[go_sem] theorem ztz:zbD jV 141 1=some (1,1):=by kernel_rfl
@[go_sem] theorem zIf:zaW jV 141 2=some (2,139):=by kernel_rfl
@[go_sem] theorem zIg:zbD jV 141 2=some (2,1):=by kernel_rfl
attribute [go_sem] Tryz.underlying141 Tryz.stoodInHeld141 Tryz.eqGuardType141
@[go_sem] theorem ztG:zaW jV 151 0=some (0,3):=by kernel_rfl
@[go_sem] theorem ztH:zbD jV 151 0=some (0,1):=by kernel_rfl
@[go_sem] theorem ztI:zaW jV 151 1=some (1,3):=by kernel_rfl
@[go_sem] theorem ztJ:zbD jV 151 1=some (1,1):=by kernel_rfl
@[go_sem] theorem ztK:zaW jV 151 2=some (2,3):=by kernel_rfl
@[go_sem] theorem ztL:zbD jV 151 2=some (2,1):=by kernel_rfl
@[go_sem] theorem zIh:zaW jV 151 3=some (3,3):=by kernel_rfl
@[go_sem] theorem zIi:zbD jV 151 3=some (3,1):=by kernel_rfl
@[go_sem] theorem zIj:zaW jV 151 4=some (4,4):=by kernel_rfl
@[go_sem] theorem zIk:zbD jV 151 4=some (4,1):=by kernel_rfl
attribute [go_sem] Tryz.underlying151 Tryz.stoodInHeld151 Tryz.eqGuardType151
@[go_sem] theorem zIl:zaW jV 152 0=some (0,3):=by kernel_rfl
@[go_sem] theorem zIm:zbD jV 152 0=some (0,1):=by kernel_rfl
@[go_sem] theorem zIn:zaW jV 152 1=some (1,3):=by kernel_rfl
@[go_sem] theorem zIo:zbD jV 152 1=some (1,1):=by kernel_rfl
@[go_sem] theorem zIp:zaW jV 152 2=some (2,3):=by kernel_rfl
@[go_sem] theorem zIq:zbD jV 152 2=some (2,1):=by kernel_rfl
@[go_sem] theorem zIr:zaW jV 152 3=some (3,3):=by kernel_rfl
@[go_sem] theorem zIs:zbD jV 152 3=some (3,1):=by kernel_rfl
@[go_sem] theorem zIt:zaW jV 152 4=some (4,4):=by kernel_rfl
@[go_sem] theorem zIu:zbD jV 152 4=some (4,1):=by kernel_rfl
attribute [go_sem] Tryz.underlying152 Tryz.stoodInHeld152 Tryz.eqGuardType152
@[go_sem] theorem zIv:zaW jV 154 0=some (0,3):=by kernel_rfl
@[go_sem] theorem zIw:zbD jV 154 0=some (0,1):=by kernel_rfl
@[go_sem] theorem zIx:zaW jV 154 1=some (1,3):=by kernel_rfl
@[go_sem] theorem zIy:zbD jV 154 1=some (1,1):=by kernel_rfl
@[go_sem] theorem zIz:zaW jV 154 2=some (2,3):=by kernel_rfl
@[go_sem] theorem zIA:zbD jV 154 2=some (2,1):=by kernel_rfl
attribute [go_sem] Tryz.underlying154 Tryz.stoodInHeld154 Tryz.eqGuardType154
@[go_sem] theorem zIB:zaW jV 155 0=some (0,3):=by kernel_rfl
@[go_sem] theorem zIC:zbD jV 155 0=some (0,1):=by kernel_rfl
@[go_sem] theorem zID:zaW jV 155 1=some (1,3):=by kernel_rfl
@[go_sem] theorem zIE:zbD jV 155 1=some (1,1):=by kernel_rfl
@[go_sem] theorem zIF:zaW jV 155 2=some (2,3):=by kernel_rfl
@[go_sem] theorem zIG:zbD jV 155 2=some (2,1):=by kernel_rfl
attribute [go_sem] Tryz.underlying155 Tryz.stoodInHeld155 Tryz.eqGuardType155
@[go_sem] theorem zIH:zaW jV 164 0=some (0,160):=by kernel_rfl
@[go_sem] theorem zII:zbD jV 164 0=some (0,1):=by kernel_rfl
@[go_sem] theorem zIJ:zaW jV 164 1=some (1,3):=by kernel_rfl
@[go_sem] theorem zIK:zbD jV 164 1=some (1,1):=by kernel_rfl
@[go_sem] theorem zIL:zaW jV 164 2=some (2,160):=by kernel_rfl
@[go_sem] theorem zIM:zbD jV 164 2=some (2,1):=by kernel_rfl
@[go_sem] theorem zIN:zaW jV 164 3=some (3,36):=by kernel_rfl
@[go_sem] theorem zIO:zbD jV 164 3=some (3,1):=by kernel_rfl
attribute [go_sem] Tryz.underlying164 Tryz.stoodInHeld164 Tryz.eqGuardType164
@[go_sem] theorem zIP:zaW jV 165 0=some (0,160):=by kernel_rfl
@[go_sem] theorem zIQ:zbD jV 165 0=some (0,1):=by kernel_rfl
@[go_sem] theorem zIR:zaW jV 165 1=some (1,3):=by kernel_rfl
@[go_sem] theorem zIS:zbD jV 165 1=some (1,1):=by kernel_rfl
@[go_sem] theorem zIT:zaW jV 165 2=some (2,160):=by kernel_rfl
@[go_sem] theorem zIU:zbD jV 165 2=some (2,1):=by kernel_rfl
@[go_sem] theorem zIV:zaW jV 165 3=some (3,36):=by kernel_rfl
@[go_sem] theorem zIW:zbD jV 165 3=some (3,1):=by kernel_rfl
attribute [go_sem] Tryz.underlying165 Tryz.stoodInHeld165 Tryz.eqGuardType165
@[go_sem] theorem zIX:zaW jV 169 0=some (0,9):=by kernel_rfl
@[go_sem] theorem zIY:zbD jV 169 0=some (0,1):=by kernel_rfl
@[go_sem] theorem zIZ:zaW jV 169 1=some (1,4):=by kernel_rfl
@[go_sem] theorem zI0:zbD jV 169 1=some (1,1):=by kernel_rfl
attribute [go_sem] Tryz.underlying169 Tryz.stoodInHeld169 Tryz.eqGuardType169
@[go_sem] theorem zI1:zaW jV 170 0=some (0,9):=by kernel_rfl
@[go_sem] theorem zI2:zbD jV 170 0=some (0,1):=by kernel_rfl
@[go_sem] theorem zI3:zaW jV 170 1=some (1,4):=by kernel_rfl
@[go_sem] theorem zI4:zbD jV 170 1=some (1,1):=by kernel_rfl
attribute [go_sem] Tryz.underlying170 Tryz.stoodInHeld170 Tryz.eqGuardType170
@[go_sem] theorem zI5:zaW jV 197 0=some (0,3):=by kernel_rfl
@[go_sem] theorem zI6:zbD jV 197 0=some (0,1):=by kernel_rfl
@[go_sem] theorem zI7:zaW jV 197 1=some (1,3):=by kernel_rfl
@[go_sem] theorem zI8:zbD jV 197 1=some (1,1):=by kernel_rfl
attribute [go_sem] Tryz.underlying197 Tryz.stoodInHeld197 Tryz.eqGuardType197
@[go_sem] theorem zI9:zaW jV 198 0=some (0,3):=by kernel_rfl
@[go_sem] theorem zJa:zbD jV 198 0=some (0,1):=by kernel_rfl
@[go_sem] theorem zJb:zaW jV 198 1=some (1,3):=by kernel_rfl
@[go_sem] theorem zJc:zbD jV 198 1=some (1,1):=by kernel_rfl
attribute [go_sem] Tryz.underlying198 Tryz.stoodInHeld198 Tryz.eqGuardType198
@[go_sem] theorem zJd:zaW jV 201 0=some (0,3):=by kernel_rfl
@[go_sem] theorem zJe:zbD jV 201 0=some (0,1):=by kernel_rfl
@[go_sem] theorem zJf:zaW jV 201 1=some (1,3):=by kernel_rfl
@[go_sem] theorem zJg:zbD jV 201 1=some (1,1):=by kernel_rfl
@[go_sem] theorem zJh:zaW jV 201 2=some (2,3):=by kernel_rfl
@[go_sem] theorem zJi:zbD jV 201 2=some (2,1):=by kernel_rfl
attribute [go_sem] Tryz.underlying201 Tryz.stoodInHeld201 Tryz.eqGuardType201
@[go_sem] theorem zJj:zaW jV 202 0=some (0,3):=by kernel_rfl
@[go_sem] theorem zJk:zbD jV 202 0=some (0,1):=by kernel_rfl
@[go_sem] theorem zJl:zaW jV 202 1=some (1,3):=by kernel_rfl
@[go_sem] theorem zJm:zbD jV 202 1=some (1,1):=by kernel_rfl
@[go_sem] theorem zJn:zaW jV 202 2=some (2,3):=by kernel_rfl
@[go_sem] theorem zJo:zbD jV 202 2=some (2,1):=by kernel_rfl
attribute [go_sem] Tryz.underlying202 Tryz.stoodInHeld202 Tryz.eqGuardType202
@[go_sem] theorem zJp:zbD jV 216 0=some (0,1):=by kernel_rfl
@[go_sem] theorem zJq:zbD jV 216 1=some (1,1):=by kernel_rfl
@[go_sem] theorem zJr:zbD jV 216 2=some (2,1):=by kernel_rfl
@[go_sem] theorem zJs:zbD jV 216 3=some (3,1):=by kernel_rfl
@[go_sem] theorem zJt:zbD jV 216 4=some (4,1):=by kernel_rfl
@[go_sem] theorem zJu:zbD jV 216 5=some (5,1):=by kernel_rfl
@[go_sem] theorem zJv:zbD jV 216 6=some (6,1):=by kernel_rfl
@[go_sem] theorem zJw:zbD jV 216 7=some (7,1):=by kernel_rfl
set_option maxHeartbeats 1000000
theorem zum (n lo hi:Int) (h:Hp):Ct jV 55 [.int .i64 n,.int .i64 lo,.int .i64 hi] h fun v h'=>v=.bool (decide (lo≤n) && decide (n≤hi))∧h'=h:=by
 refine zdn (fun A W=>by simp) Tryz.func55 rfl rfl (by simp) fun W0=>?_
 exact Wk0
theorem zun (n:Int) (h:Hp):Ct jV 43 [.int .i64 n] h fun v h'=>v=.bool (decide (0≤n) && decide (n≤2880))∧h'=h:=by
 refine zdn (fun A W=>by simp) Tryz.func43 rfl rfl (by simp) fun W0=>?_
 repeat' first|refine Wa ?_|refine zhF (fun _=>zum _ _ _ _) ?_|(simp only [go_sem,jq,jj,jy,jv,jk,jx];try rfl)|refine Wb ?_|fail
theorem zuo (n m:Int) (h:Hp):Ct jV 37 [.int .i64 n,.int .i64 m] h fun v h'=>v=.bool (decide (0≤n) && decide (n < m))∧h'=h:=by
 refine zdn (fun A W=>by simp) Tryz.func37 rfl rfl (by simp) fun W0=>?_
 exact Wk0
theorem zup (s:Sl DPassage):Con.con s=s.l:=List.map_id _
theorem zuq (n:Int):zaH jV 3 (.int .i64 n)=True:=by
 simp only [zaH,Tryz.underlying3,Value.isI]
theorem zur (p q:DPassage):(!(p.ship == q.ship && (p.seg == q.seg && (p.toward == q.toward && (p.start == q.start && p.fin == q.fin)))))=!decide (p=q):=by
 congr 1
 rw [Bool.eq_iff_iff]
 simp only [jJ,beq_iff_eq,decide_eq_true_eq]
 cases p;cases q;simp only [DPassage.mk.injEq]
theorem zus (a b:Sl DPassage) (h:Hp) (ha:a.Ok h) (hb:b.Ok h):Ct jV 99 [a.val,b.val] h fun v h'=>v=.bool (decide (a.l=b.l))∧h'=h:=by
 have hl:=ha.max
 refine zdn (fun A W=>by simp) Tryz.func99 rfl rfl (by simp) fun W0=>?_
 refine Wk ?_
 refine zc9 rfl (fun hc=>?_) (fun hc=>?_)
 ·refine Wk ?_
  exact zjF fun e=>zjD hc (by rw [e])
 have hlen:a.l.length=b.l.length:=by have:=zjE hc;omega
 refine Wk ?_
 refine zde (ι:=Nat) (fun k=>⟨[(0,true,.c (.v a.val)),(1,true,.c (.v b.val)),(12,true,.c (.v (.int .i64 a.l.length))),(13,true,.c (.v (.int .i64 k)))],[],h,0⟩) (fun k=>k≤a.l.length∧a.l.take k=b.l.take k) (fun k=>a.l.length - k) 0 ⟨Nat.zero_le _,rfl⟩ ?_ ?_
 ·refine Evs ?_
  rfl
 intro k hk
 refine Wk ?_
 refine zc9 rfl (fun hc=>?_) (fun hc=>?_)
 ·have hlt:=zjH hc
  have hlt':k < b.l.length:=by omega
  refine Wk ?_
  refine zi8 rfl (by kernel_rfl) ?_
  simp (maxSteps:=2000000) only [go_sem,jq,jj,jy,jv,jk,jx,zky ha hlt,ha.some hlt,zky hb hlt',hb.some hlt',hlt,hlt',zuq,String.reduceEq,not_false_eq_true,and_self,true_and]
  refine zc9 rfl (fun hd=>?_) (fun hd=>?_)
  ·refine Wk ?_
   refine zjF fun e=>?_
   rw [zur] at hd
   exact of_decide_eq_false (by simpa using hd) (by simp only [e])
  ·refine Wk ?_
   rw [zur] at hd
   exact ⟨k+1,⟨hlt,zjC hlt hlt' hk.2 (of_decide_eq_true (by simpa using hd))⟩,by omega,zjB (zjA hlt (by omega))⟩
 ·have hge:=zjI hc
  refine Wk ?_
  refine zjG ?_
  have:=hk.2
  rwa [List.take_of_length_le hge,List.take_of_length_le (by omega)] at this
def zut (a b:POption):Bool:=decide (a=b)
theorem zuu (a b:DOption):zut (Con.con a) (Con.con b)=decide (a.start=b.start∧a.arr=b.arr∧a.cost=b.cost∧a.pas.l=b.pas.l):=by
 unfold zut
 simp only [zkA,POption.mk.injEq,zkp,zup]
theorem zuv (a b:DOption) (h:Hp) (ha:Enc.ok h a) (hb:Enc.ok h b):Ct jV 59 [a.v,b.v] h fun v h'=>v=.bool (zut (Con.con a) (Con.con b))∧h'=h:=by
 rw [zuu]
 refine zdn (fun A W=>by simp) Tryz.func59 rfl rfl (by simp) fun W0=>?_
 repeat' first|refine Wa ?_|refine zhF (fun _=>zus _ _ _ ha.2.2.2 hb.2.2.2) ?_|(simp (maxSteps:=2000000) only [go_sem,jq,jj,jy,jv,jk,jx];try rfl)|refine Wb ?_|fail
 congr 1
 rw [Bool.eq_iff_iff]
 simp only [jJ,beq_iff_eq,decide_eq_true_eq,and_assoc]
theorem w64 (n:Int):IntKind.i64.wrap n=(n+9223372036854775808) % 18446744073709551616 - 9223372036854775808:=by rw [IntKind.wrap_i64]
def zuw (a b:POption):Int:=if a=b then 0 else IntKind.i64.wrap (60+(max a.start b.start - min a.start b.start))
theorem zux (a b:DOption):zuw (Con.con a) (Con.con b)=if zut (Con.con a) (Con.con b)=true then 0 else IntKind.i64.wrap (60+(max a.start b.start - min a.start b.start)):=by
 unfold zuw zut
 simp only [decide_eq_true_eq]
 rfl
theorem zuy (a b:DOption) (h:Hp) (ha:Enc.ok h a) (hb:Enc.ok h b):Ct jV 62 [a.v,b.v] h fun v h'=>v=.int .i64 (zuw (Con.con a) (Con.con b))∧h'=h:=by
 rw [zux]
 refine zdn (fun A W=>by simp) Tryz.func62 rfl rfl (by simp) fun W0=>?_
 repeat' first|refine Wa ?_|refine zhF (fun _=>zuv _ _ _ ha hb) ?_|(simp only [go_sem,jq,jj,jy,jv,jk,jx];try rfl)|refine Wb ?_|fail
 refine zc9 rfl (fun hc=>?_) (fun hc=>?_)
 ·refine Wk ?_
  rw [if_pos hc]
 ·refine Wk ?_
  rw [if_neg (by simp [hc])]
  congr 1
  simp only [w64]
  omega
def zJx (l:List POption):Int:=l.foldl (fun t o=>IntKind.i64.wrap (t+o.cost)) 0
theorem zJy (s:Sl DOption):zJx (Con.con s)=s.l.foldl (fun t o=>IntKind.i64.wrap (t+o.cost)) 0:=by rw [zkq,zJx,List.foldl_map];rfl
theorem zuz {α β:Type} (f:β→α→β) (b:β) {l:List α} {k:Nat} (hk:k < l.length):(l.take (k+1)).foldl f b=f ((l.take k).foldl f b) l[k]:=by
 rw [List.take_succ_eq_append_getElem hk,List.foldl_append];rfl
theorem zJz (a:Sl DOption) (h:Hp) (ha:a.Ok h):Ct jV 18 [a.val] h fun v h'=>v=.int .i64 (zJx (Con.con a))∧h'=h:=by
 have hl:=ha.max
 rw [zJy]
 refine zdn (fun A W=>by simp) Tryz.func18 rfl rfl (by simp) fun W0=>?_
 refine Wk ?_
 refine zde (ι:=Nat) (fun k=>⟨[(3,true,.c (.v (.int .i64 ((a.l.take k).foldl (fun t o=>IntKind.i64.wrap (t+o.cost)) 0)))),(6,true,.c (.v a.val)),(7,true,.c (.v (.int .i64 a.l.length))),(8,true,.c (.v (.int .i64 k)))],[],h,0⟩) (fun k=>k≤a.l.length) (fun k=>a.l.length - k) 0 (Nat.zero_le _) ?_ ?_
 ·refine Evs ?_
  exact ⟨rfl,rfl⟩
 intro k hk
 refine Wk ?_
 refine zc9 rfl (fun hd=>?_) (fun hd=>?_)
 ·have hlt:=zjH hd
  repeat' first|refine Wa ?_|(simp only [go_sem,jq,jj,jy,jv,jk,jx,zkC ha hlt,ha.some hlt,hlt,jW];try rfl)|refine Wb ?_|fail
  exact ⟨k+1,hlt,by omega,zjB (by rw [zuz _ _ hlt]),zjB (zjA hlt (by omega))⟩
 ·have hge:=zjI hd
  refine Wk ?_
  rw [List.take_of_length_le hge]
def zuA (l:List Int):Nat→Int
 | 0=>-1
 | k+1=>if zuA l k < 0∨l.getD k 0 < l.getD (zuA l k).toNat 0 then k else zuA l k
theorem zuB (l:List Int):∀ k,(k=0∧zuA l k=-1)∨(0≤zuA l k∧zuA l k < k)
 | 0=>.inl ⟨rfl,rfl⟩
 | k+1=>by
  right
  simp only [zuA]
  rcases zuB l k with ⟨rfl,h⟩|h
  ·rw [h];simp
  ·split <;> omega
def zuC (l:List POption):Int:=zuA (l.map (·.cost)) l.length
theorem zJA {α β:Type} {a:List α} {b:List β} {k:Nat} (ha:k < a.length) (hb:k < b.length) {γ:Type} (f:γ→α × β→γ) (z:γ):((a.zip b).take (k+1)).foldl f z=f (((a.zip b).take k).foldl f z) (a[k],b[k]):=by
 rw [zuz _ _ (by rw [List.length_zip];omega),List.getElem_zip]
def zJB (a b:List POption):Int:=(a.zip b).foldl (fun t p=>IntKind.i64.wrap (t+zuw p.1 p.2)) 0
theorem zJC (a b:Sl DOption):zJB (Con.con a) (Con.con b)=(a.l.zip b.l).foldl (fun t p=>IntKind.i64.wrap (t+zuw (Con.con p.1) (Con.con p.2))) 0:=by
 rw [zkq,zkq,zJB,List.zip_map,List.foldl_map];rfl
theorem zJD (a b:Sl DOption) (h:Hp) (ha:a.Ok h) (hb:b.Ok h):Ct jV 26 [a.val,b.val] h fun v h'=>v=.int .i64 (zJB (Con.con a) (Con.con b))∧h'=h:=by
 have hl:=ha.max
 rw [zJC]
 refine zdn (fun A W=>by simp) Tryz.func26 rfl rfl (by simp) fun W0=>?_
 refine Wk ?_
 refine zde (ι:=Nat) (fun k=>⟨[(0,true,.c (.v a.val)),(1,true,.c (.v b.val)),(5,true,.c (.v (.int .i64 (((a.l.zip b.l).take k).foldl (fun t p=>IntKind.i64.wrap (t+zuw (Con.con p.1) (Con.con p.2))) 0)))),(11,true,.c (.v (.int .i64 (min (a.l.length:Int) b.l.length)))),(12,true,.c (.v (.int .i64 k)))],[],h,0⟩) (fun k=>k≤a.l.length∧k≤b.l.length) (fun k=>a.l.length - k) 0 ⟨Nat.zero_le _,Nat.zero_le _⟩ ?_ ?_
 ·refine Evs ?_
  exact ⟨rfl,rfl⟩
 intro k hk
 refine Wk ?_
 refine zc9 rfl (fun hd=>?_) (fun hd=>?_)
 ·have hd':=of_decide_eq_true hd
  have hlt:k < a.l.length:=by omega
  have hlt':k < b.l.length:=by omega
  refine Wk ?_
  refine ziV rfl ?_
  refine zi3 [0,1,2,3,4,5,6,7,8] rfl (by kernel_rfl) ?_
  simp only [go_sem,jq,jj,jy,jv,jk,jx,zkC ha hlt,ha.some hlt,hlt,zkC hb hlt',hb.some hlt',hlt',jW]
  refine ziT [9] (by kernel_rfl) (by kernel_rfl) ?_
  simp only [go_sem,jq,jj,jy,jv,jk,jx,zkC ha hlt,ha.some hlt,hlt,zkC hb hlt',hb.some hlt',hlt',jW]
  refine zhF (fun _=>zuy _ _ _ (ha.el hlt) (hb.el hlt')) ?_
  simp only [go_sem,jq,jj,jy,jv,jk,jx,zkC ha hlt,ha.some hlt,hlt,zkC hb hlt',hb.some hlt',hlt',jW]
  refine zi3 [10,11] rfl (by kernel_rfl) ?_
  refine Evs ?_
  refine ziU (by kernel_rfl) ?_
  refine Wk ?_
  exact ⟨k+1,⟨hlt,hlt'⟩,by omega,zjB (by rw [zJA hlt hlt']),zjB (zjA hlt (by omega))⟩
 ·have hge:=of_decide_eq_false hd
  refine Wk ?_
  rw [List.take_of_length_le (by rw [List.length_zip];omega)]
def zJE (a b:List POption):Nat→List Int
 | 0=>[]
 | k+1=>if a[k]?=b[k]? then zJE a b k ++ [(k:Int)] else zJE a b k
def zJF (a b:List POption):List Int:=zJE a b (min a.length b.length)
theorem zJG (a b:List POption):∀ k,(zJE a b k).length≤k
 | 0=>Nat.le_refl _
 | k+1=>by
  have:=zJG a b k
  simp only [zJE]
  split
  ·rw [List.length_append,List.length_singleton];omega
  ·omega
theorem zJH (a b:List POption):∀ k x,x ∈ zJE a b k→0≤x∧x < k
 | 0,x,hx=>by cases hx
 | k+1,x,hx=>by
  simp only [zJE] at hx
  split at hx
  ·rcases List.mem_append.1 hx with hx|hx
   ·have:=zJH a b k x hx;omega
   ·rw [List.mem_singleton.1 hx];omega
  ·have:=zJH a b k x hx;omega
def In (n lo hi:Int):Bool:=decide (lo≤n) && decide (n≤hi)
def zuG (n:Int):Bool:=In n 4 2880 && (Int.tmod n 4 == 0)
theorem zuH (n:Int) (h:Hp):Ct jV 140 [.int .i64 n] h fun v h'=>v=.bool (zuG n)∧h'=h:=by
 refine zdn (fun A W=>by simp) Tryz.func140 rfl rfl (by simp) fun W0=>?_
 repeat' first|refine Wa ?_|refine zhF (fun _=>zum _ _ _ _) ?_|(simp only [go_sem,jq,jj,jy,jv,jk,jx];try rfl)|refine Wb ?_|fail
 refine ⟨fun _ _=>by decide,?_⟩
 exact Wk0
def zuI (p:DPart):Bool:=In p.amp 0 1000 && zuG p.period && In p.phase 0 (p.period - 1)
theorem zuJ (p:DPart) (h:Hp) (hp:Enc.ok h p):Ct jV 121 [p.v] h fun v h'=>v=.bool (zuI p)∧h'=h:=by
 have hw:=w64 (p.period - 1)
 refine zdn (fun A W=>by simp) Tryz.func121 rfl rfl (by simp) fun W0=>?_
 repeat' first|refine Wa ?_|refine zhF (fun _=>zum _ _ _ _) ?_|refine zhF (fun _=>zuH _ _) ?_|(simp only [go_sem,jq,jj,jy,jv,jk,jx];try rfl)|refine Wb ?_|fail
 congr 1;rw [Bool.eq_iff_iff];simp only [zuI,zuG,In,jJ,jQ,Bool.not_eq_true',decide_eq_true_eq,decide_eq_false_iff_not,beq_iff_eq,and_assoc]
 rw [hw]
 constructor <;> intro h <;> omega
def zuK (s:DSurge):Bool:=In s.src 0 2880 && In s.low (-500) 500 && In s.high s.low 500
theorem zuL (p:DSurge) (h:Hp):Ct jV 80 [p.v] h fun v h'=>v=.bool (zuK p)∧h'=h:=by
 refine zdn (fun A W=>by simp) Tryz.func80 rfl rfl (by simp) fun W0=>?_
 repeat' first|refine Wa ?_|refine zhF (fun _=>zun _ _) ?_|(simp only [go_sem,jq,jj,jy,jv,jk,jx];try rfl)|refine Wb ?_|fail
 congr 1;rw [Bool.eq_iff_iff];simp only [zuK,In,jJ,jQ,Bool.not_eq_true',decide_eq_true_eq,decide_eq_false_iff_not,beq_iff_eq,and_assoc]
 omega
def zuM (s:ByteArray) (k:Nat):Bool:=!(decide (97≤zms s k) && decide (zms s k≤122)) && (decide ((k:Int)=0) || decide (zms s k < 48) || decide (57 < zms s k))
def zuN (s:ByteArray):Bool:=decide (∀ i,i < s.size→zuM s i=false) && In s.size 1 8
theorem zuO (s:ByteArray) (h:Hp) (hs:zks s):Ct jV 91 [.string s] h fun v h'=>v=.bool (zuN s)∧h'=h:=by
 have hmax:s.size≤9223372036854775807:=hs
 refine zdn (fun A W=>by simp) Tryz.func91 rfl rfl (by simp) fun W0=>?_
 repeat' first|refine Wa ?_|refine zhF (fun _=>zum _ _ _ _) ?_|(simp only [go_sem,jq,jj,jy,jv,jk,jx];try rfl)|refine Wb ?_|fail
 refine zc9 rfl (fun hc=>?_) (fun hc=>?_)
 ·refine Wk ?_
  rw [Bool.not_eq_true'] at hc
  rw [zuN,In,hc,Bool.and_false]
 rw [Bool.not_eq_false'] at hc
 refine Wk ?_
 refine zde (ι:=Nat) (fun k=>⟨[(0,true,.c (.v (.string s))),(3,true,.c (.v (.int .i64 k)))],[],h,0⟩) (fun k=>k≤s.size∧∀ i,i < k→zuM s i=false) (fun k=>s.size - k) 0 ⟨Nat.zero_le _,fun i hi=>absurd hi (Nat.not_lt_zero _)⟩ ?_ ?_
 ·refine Evs ?_
  exact Gk
 intro k hk
 refine Wk ?_
 refine zc9 rfl (fun hd=>?_) (fun hd=>?_)
 ·have hlt:=zjH hd
  repeat' first|refine Wa ?_|(simp only [go_sem,jq,jj,jy,jv,jk,jx,hlt,jW];try rfl)|refine Wb ?_|fail
  refine zc9 rfl (fun hq=>?_) (fun hq=>?_)
  ·refine Wk ?_
   have:zuN s=false:=by
    rw [zuN,decide_eq_false (fun e=>?_),Bool.false_and]
    have:=e k hlt
    rw [show zuM s k=true from hq] at this
    cases this
   rw [this]
  ·refine Wk ?_
   refine ⟨k+1,⟨hlt,fun i hi=>?_⟩,by omega,zjB (zjA hlt (by omega))⟩
   rcases Nat.lt_succ_iff_lt_or_eq.1 hi with hi|rfl
   ·exact hk.2 i hi
   ·exact hq
 ·have hge:=zjI hd
  refine Wk ?_
  have:decide (∀ i,i < s.size→zuM s i=false)=true:=decide_eq_true (fun i hi=>hk.2 i (by omega))
  rw [zuN,this,Bool.true_and,In,hc]
def zuP {α:Type} (p:α→Bool) (l:List α):Int:=match l.findIdx? p with|some i=>i|none=>-1
theorem zuQ {α:Type} {p:α→Bool} {l:List α} {k:Nat} (hk:k < l.length) (h:p l[k]=true) (hp:∀ i (hi:i < l.length),i < k→p l[i]=false):zuP p l=k:=by
 have:l.findIdx? p=some k:=by
  rw [List.findIdx?_eq_some_iff_getElem]
  exact ⟨hk,h,fun j hj=>by rw [hp j (by omega) hj];exact Bool.false_ne_true⟩
 rw [zuP,this]
theorem zuR {α:Type} {p:α→Bool} {l:List α} (hp:∀ i (hi:i < l.length),p l[i]=false):zuP p l=-1:=by
 have:l.findIdx? p=none:=by
  rw [List.findIdx?_eq_none_iff]
  intro x hx
  obtain ⟨i,hi,rfl⟩:=List.getElem_of_mem hx
  exact hp i hi
 rw [zuP,this]
def zuS (t:zE9):Bool:=In t.mean (-1000) 1000 && decide (t.parts.length≤4) && t.parts.all zuI
theorem zuT (s:Sl DPart):Con.con s=s.l:=List.map_id _
theorem zuU {α:Type} {p:α→Bool} {l:List α} {k:Nat} (hk:k < l.length) (h:p l[k]=false):l.all p=false:=List.all_eq_false.2 ⟨l[k],List.getElem_mem hk,by rw [h];exact Bool.false_ne_true⟩
theorem zuV {α:Type} {p:α→Bool} {l:List α} {k:Nat} (hk:k < l.length) (hp:(l.take k).all p=true) (h:p l[k]=true):(l.take (k+1)).all p=true:=by
 rw [List.take_succ_eq_append_getElem hk,List.all_append,hp];simp [h]
theorem zuW (t:DTide) (h:Hp) (ht:Enc.ok h t):Ct jV 79 [t.v] h fun v h'=>v=.bool (zuS (Con.con t))∧h'=h:=by
 have hp:=ht.2
 have hl:=hp.max
 rw [zuS,show (Con.con t).mean=t.mean from rfl,show (Con.con t).parts=t.parts.l from zuT _]
 refine zdn (fun A W=>by simp) Tryz.func79 rfl rfl (by simp) fun W0=>?_
 repeat' first|refine Wa ?_|refine zhF (fun _=>zum _ _ _ _) ?_|(simp only [go_sem,jq,jj,jy,jv,jk,jx];try rfl)|refine Wb ?_|fail
 refine zc9 rfl (fun hc=>?_) (fun hc=>?_)
 ·refine Wk ?_
  congr 1
  rw [jQ] at hc
  rcases hc with hc|hc
  ·rw [Bool.not_eq_true'] at hc
   rw [In,hc];rfl
  ·rw [decide_eq_false (by have:=of_decide_eq_true hc;omega),Bool.and_false,Bool.false_and]
 obtain ⟨hc1,hc2⟩:=Bool.or_eq_false_iff.1 hc
 rw [Bool.not_eq_false'] at hc1
 have hc2:=of_decide_eq_false hc2
 refine Wk ?_
 refine zde (ι:=Nat) (fun k=>⟨[(16,true,.c (.v t.parts.val)),(17,true,.c (.v (.int .i64 t.parts.l.length))),(18,true,.c (.v (.int .i64 k)))],[],h,0⟩) (fun k=>k≤t.parts.l.length∧(t.parts.l.take k).all zuI=true) (fun k=>t.parts.l.length - k) 0 ⟨Nat.zero_le _,rfl⟩ ?_ ?_
 ·refine Evs ?_
  exact Gk
 intro k hk
 refine Wk ?_
 refine zc9 rfl (fun hd=>?_) (fun hd=>?_)
 ·have hlt:=zjH hd
  repeat' first|refine Wa ?_|refine zhF (fun _=>zuJ _ _ (hp.el hlt)) ?_|(simp only [go_sem,jq,jj,jy,jv,jk,jx,zkH hp hlt,hp.some hlt,hlt,jW];try rfl)|refine Wb ?_|fail
  refine zc9 rfl (fun hq=>?_) (fun hq=>?_)
  ·rw [Bool.not_eq_true'] at hq
   refine Wk ?_
   rw [zuU hlt hq,Bool.and_false]
  ·rw [Bool.not_eq_false'] at hq
   refine Wk ?_
   exact ⟨k+1,⟨hlt,zuV hlt hk.2 hq⟩,by omega,zjB (zjA hlt (by omega))⟩
 ·have hge:=zjI hd
  refine Wk ?_
  have:=hk.2
  rw [List.take_of_length_le hge] at this
  rw [this,In,hc1,decide_eq_true (show t.parts.l.length≤4 by omega)];rfl
def dS:DSurge:=⟨0,0,0⟩
def zuX (l:List DSurge) (i:Nat):Bool:=zuK (l.getD i dS) && !(decide (0 < (i:Int)) && decide ((l.getD i dS).src≤(l.getD (i - 1) dS).src))
def zuY (f:zFa):Bool:=zuS f.tide && In (f.surges.length:Int) 1 6 && decide ((f.surges.getD 0 dS).src=0) && decide (∀ i,i < f.surges.length→zuX f.surges i=true)
theorem zuZ (s:Sl DSurge):Con.con s=s.l:=List.map_id _
theorem sget {l:List DSurge} {i:Nat} (hi:i < l.length):l.getD i dS=l[i]:=by simp [List.getD_eq_getElem?_getD,hi]
theorem zu0 (f:DForecast) (h:Hp) (hf:Enc.ok h f):Ct jV 42 [f.v] h fun v h'=>v=.bool (zuY (Con.con f))∧h'=h:=by
 have hp:=hf.2
 have hl:=hp.max
 rw [zuY,show (Con.con f).tide=Con.con f.tide from rfl,show (Con.con f).surges=f.surges.l from zuZ _]
 refine zdn (fun A W=>by simp) Tryz.func42 rfl rfl (by simp) fun W0=>?_
 by_cases h0:0 < f.surges.l.length
 ·have hs0:=hp.some h0
  have hf0:(0 < (f.surges.l.length:Int))=True:=eq_true (by omega)
  have hs1:=(zlQ hp h0).1
  simp only [go_sem,Nat.zero_mul] at hs1
  repeat' first|refine Wa ?_|refine zhF (fun _=>zuW _ _ hf.1) ?_|refine zhF (fun _=>zum _ _ _ _) ?_|(simp only [go_sem,jq,jj,jy,jv,jk,jx,hf0,hs0,hs1,Int.toNat_zero,Nat.zero_mul,Int.le_refl,implies_true,true_and,and_true];try rfl)|refine Wb ?_|fail
  refine zc9 rfl (fun hc=>?_) (fun hc=>?_)
  ·refine Wk ?_
   congr 1
   simp only [jQ,Bool.not_eq_true'] at hc
   rcases hc with (hc|hc)|hc
   ·rw [hc];rfl
   ·rw [In,hc,Bool.and_false];rfl
   ·rw [sget h0,decide_eq_false (by simpa using hc),Bool.and_false,Bool.false_and]
  simp only [jp,Bool.not_eq_false'] at hc
  obtain ⟨⟨hc1,hc2⟩,hc3⟩:=hc
  have hc3:=zjE hc3
  have hpre:(zuS (Con.con f.tide) && In (f.surges.l.length:Int) 1 6 && decide ((f.surges.l.getD 0 dS).src=0))=true:=by rw [hc1,In,hc2,sget h0,decide_eq_true hc3];rfl
  rw [hpre,Bool.true_and]
  refine Wk ?_
  refine zde (ι:=Nat) (fun k=>⟨[(1,true,.c (.p 0 0)),(25,true,.c (.v f.surges.val)),(26,true,.c (.v (.int .i64 f.surges.l.length))),(27,true,.c (.v (.int .i64 k)))],[(0,.box 28 [.v (.int .i64 f.tide.mean),.v f.tide.parts.val,.v f.surges.val])],h,1⟩) (fun k=>k≤f.surges.l.length∧∀ i,i < k→zuX f.surges.l i=true) (fun k=>f.surges.l.length - k) 0 ⟨Nat.zero_le _,fun i hi=>absurd hi (Nat.not_lt_zero _)⟩ ?_ ?_
  ·refine Evs ?_
   exact Gk
  intro k hk
  refine Wk ?_
  refine zc9 rfl (fun hd=>?_) (fun hd=>?_)
  ·have hlt:=zjH hd
   have fin:∀ b:Bool,b=zuX f.surges.l k→(b=false→decide (∀ i,i < f.surges.l.length→zuX f.surges.l i=true)=false)∧(b=true→∀ i,i < k+1→zuX f.surges.l i=true):=by
    rintro b rfl
    refine ⟨fun e=>decide_eq_false fun hh=>(by rw [hh k hlt] at e;cases e),fun e i hi=>?_⟩
    rcases Nat.lt_succ_iff_lt_or_eq.1 hi with hi|rfl
    ·exact hk.2 i hi
    ·exact e
   have hsg:=sget hlt
   rcases Nat.eq_zero_or_pos k with hz|hz
   ·have hfk:(0 < (k:Int))=False:=eq_false (by omega)
    repeat' first|refine Wa ?_|(simp only [go_sem,jq,jj,jy,jv,jk,jx,zkM hp hlt,hp.some hlt,hlt,jW];try rfl)|refine Wb ?_|fail
    refine ziV rfl ?_
    refine zi3 [0] rfl (by kernel_rfl) ?_
    refine Evs ?_
    refine ziT [1] (by kernel_rfl) (by kernel_rfl) ?_
    refine Evs ?_
    refine zhF (fun _=>zuL _ _) ?_
    refine Evs ?_
    refine zi3 [2,3,4,5,6,7,8,9,10,11,12,13,14,15,16,17,18] rfl (by kernel_rfl) ?_
    simp only [go_sem,jq,jj,jy,jv,jk,jx,hfk,decide_false,Bool.and_false,Bool.false_and,Bool.or_false,Bool.false_eq_true,false_implies,implies_true,true_and,reduceCtorEq]
    refine ziU (by kernel_rfl) ?_
    refine Wk ?_
    refine zc9 rfl (fun hq=>?_) (fun hq=>?_)
    ·refine Wk ?_
     rw [(fin (zuK f.surges.l[k]) (by rw [zuX,hsg];simp only [hfk,decide_false,Bool.false_and,Bool.not_false,Bool.and_true])).1 (by simpa using hq)]
    ·refine Wk ?_
     exact ⟨k+1,⟨hlt,(fin (zuK f.surges.l[k]) (by rw [zuX,hsg];simp only [hfk,decide_false,Bool.false_and,Bool.not_false,Bool.and_true])).2 (by simpa using hq)⟩,by omega,zjB (zjA hlt (by omega))⟩
   ·have hfk:(0 < (k:Int))=True:=eq_true (by omega)
    have hk1:k - 1 < f.surges.l.length:=by omega
    have hw:IntKind.i64.wrap ((k:Int) - 1)=((k - 1:Nat):Int):=by rw [zjz (by omega)];omega
    repeat' first|refine Wa ?_|(simp only [go_sem,jq,jj,jy,jv,jk,jx,zkM hp hlt,hp.some hlt,hlt,jW];try rfl)|refine Wb ?_|fail
    refine ziV rfl ?_
    refine zi3 [0] rfl (by kernel_rfl) ?_
    refine Evs ?_
    refine ziT [1] (by kernel_rfl) (by kernel_rfl) ?_
    refine Evs ?_
    refine zhF (fun _=>zuL _ _) ?_
    refine Evs ?_
    refine zi3 [2,3,4,5,6,7,8,9,10,11,12,13,14,15,16,17,18] rfl (by kernel_rfl) ?_
    simp only [go_sem,jq,jj,jy,jv,jk,jx,hfk,hw,zlQ hp hk1,hp.some hk1,hk1,jW,decide_true,and_true,imp_self,implies_true,true_and,Bool.true_and,Bool.and_true]
    refine ziU (by kernel_rfl) ?_
    refine Wk ?_
    refine zc9 rfl (fun hq=>?_) (fun hq=>?_)
    ·refine Wk ?_
     rw [(fin _ rfl).1 ?_]
     rw [zuX,sget hlt,sget hk1]
     rcases (jQ _ _).mp hq with h1|h1
     ·rw [Bool.not_eq_true'] at h1
      rw [h1];rfl
     ·rw [decide_eq_true (show 0 < (k:Int) by omega),decide_eq_true (of_decide_eq_true h1),Bool.and_self,Bool.not_true,Bool.and_false]
    ·refine Wk ?_
     refine ⟨k+1,⟨hlt,(fin _ rfl).2 ?_⟩,by omega,zjB (zjA hlt (by omega))⟩
     rw [zuX,sget hlt,sget hk1]
     obtain ⟨h1,h2⟩:=Bool.or_eq_false_iff.1 hq
     rw [Bool.not_eq_false'] at h1
     rw [h1,decide_eq_false (of_decide_eq_false h2),Bool.and_false];rfl
  ·have hge:=zjI hd
   refine Wk ?_
   exact zjG (fun i hi=>hk.2 i (by omega))
 ·have h1f:(1≤(f.surges.l.length:Int))=False:=eq_false (by omega)
  repeat' first|refine Wa ?_|refine zhF (fun _=>zuW _ _ hf.1) ?_|refine zhF (fun _=>zum _ _ _ _) ?_|(simp only [go_sem,jq,jj,jy,jv,jk,jx,h1f,decide_false,Bool.false_and,Bool.not_false,Bool.or_true,reduceCtorEq,false_implies,true_and];try rfl)|refine Wb ?_|fail
  refine zc9 rfl (fun hc=>?_) (fun hc=>?_)
  ·refine Wk ?_
   congr 1
   simp only [In,h1f,decide_false,Bool.false_and,Bool.and_false]
  ·simp at hc
def dP:DPoint:=⟨ByteArray.empty,false⟩
def dG:DSegment:=⟨0,0,0,0,false⟩
theorem pget {l:List DPoint} {i:Nat} (hi:i < l.length):l.getD i dP=l[i]:=by simp [List.getD_eq_getElem?_getD,hi]
theorem gget {l:List DSegment} {i:Nat} (hi:i < l.length):l.getD i dG=l[i]:=by simp [List.getD_eq_getElem?_getD,hi]
def zu1 (l:List DPoint) (n:ByteArray):Int:=zuP (fun p=>decide (p.name=n)) l
theorem zu2 (s:Sl DPoint):Con.con s=s.l:=List.map_id _
theorem zu3 (s:Sl DSegment):Con.con s=s.l:=List.map_id _
theorem zu4 (s:Sl DShip):Con.con s=s.l:=List.map_id _
def zu5 (s:DSegment) (a b:Int):Bool:=decide (s.a=a) && decide (s.b=b) || decide (s.a=b) && decide (s.b=a)
theorem zu6 (s:DSegment) (a b:Int) (h:Hp):Ct jV 93 [s.v,.int .i64 a,.int .i64 b] h fun v h'=>v=.bool (zu5 s a b)∧h'=h:=by
 refine zdn (fun A W=>by simp) Tryz.func93 rfl rfl (by simp) fun W0=>?_
 exact Wk0
def ptOk (l:List DPoint) (i:Nat):Bool:=zuN (l.getD i dP).name && decide (zu1 l (l.getD i dP).name=(i:Int))
def zu7 (n:Nat) (s:DSegment):Bool:=decide (0≤s.a∧s.a < n∧0≤s.b∧s.b < n∧s.a ≠ s.b∧0≤s.depth∧s.depth≤3000∧1≤s.minutes∧s.minutes≤240)
def zu8 (l:List DSegment) (i:Nat):Bool:=decide (∀ j,j < i→zu5 (l.getD j dG) (l.getD i dG).a (l.getD i dG).b=false)
def zu9 (n:Nat) (l:List DSegment) (i:Nat):Bool:=zu7 n (l.getD i dG) && zu8 l i
def zva (c:zFb):Bool:=decide (c.points.length≤8) && decide (c.segments.length≤10) && decide (∀ i,i < c.points.length→ptOk c.points i=true) && decide (∀ i,i < c.segments.length→zu9 c.points.length c.segments i=true)
theorem zvb (c:DChart):zva (Con.con c)=(decide (c.points.l.length≤8) && decide (c.segments.l.length≤10) && decide (∀ i,i < c.points.l.length→ptOk c.points.l i=true) && decide (∀ i,i < c.segments.l.length→zu9 c.points.l.length c.segments.l i=true)):=by
 rw [zva,show (Con.con c).points=c.points.l from zu2 _,show (Con.con c).segments=c.segments.l from zu3 _]
theorem zvc {p:Nat→Bool} {n k:Nat} (hk:k < n) (h:p k=false):decide (∀ i,i < n→p i=true)=false:=decide_eq_false fun hh=>by rw [hh k hk] at h;cases h
theorem zvd {p:Nat→Bool} {k:Nat} (hp:∀ i,i < k→p i=true) (h:p k=true):∀ i,i < k+1→p i=true:=fun i hi=>by
 rcases Nat.lt_succ_iff_lt_or_eq.1 hi with hi|rfl
 ·exact hp i hi
 ·exact h
theorem zve {p:Nat→Bool} {n k:Nat} (hk:n≤k) (hp:∀ i,i < k→p i=true):decide (∀ i,i < n→p i=true)=true:=decide_eq_true fun i hi=>hp i (by omega)
theorem zvf {p:Nat→Bool}:∀ i,i < 0→p i=true:=fun i hi=>absurd hi (Nat.not_lt_zero _)
theorem zvg (c:DChart) (n:ByteArray) (h:Hp) (hc:Enc.ok h c):Ct jV 92 [c.v,.string n] h fun v h'=>v=.int .i64 (zu1 c.points.l n)∧h'=h:=by
 have hp:=hc.1
 have hl:=hp.max
 refine zdn (fun A W=>by simp) Tryz.func92 rfl rfl (by simp) fun W0=>?_
 refine Wk ?_
 refine zde (ι:=Nat) (fun k=>⟨[(1,true,.c (.v (.string n))),(8,true,.c (.v c.points.val)),(9,true,.c (.v (.int .i64 c.points.l.length))),(10,true,.c (.v (.int .i64 k)))],[],h,1⟩) (fun k=>k≤c.points.l.length∧∀ i (hi:i < c.points.l.length),i < k→(decide (c.points.l[i].name=n))=false) (fun k=>c.points.l.length - k) 0 ⟨Nat.zero_le _,fun i _ hi=>absurd hi (Nat.not_lt_zero _)⟩ ?_ ?_
 ·refine Evs ?_
  exact Gk
 intro k hk
 refine Wk ?_
 refine zc9 rfl (fun hd=>?_) (fun hd=>?_)
 ·have hlt:=zjH hd
  repeat' first|refine Wa ?_|(simp (maxSteps:=2000000) only [go_sem,jq,jj,jy,jv,jk,jx,zkS hp hlt,hp.some hlt,hlt,jW];try rfl)|refine Wb ?_|fail
  refine zc9 rfl (fun hq=>?_) (fun hq=>?_)
  ·refine Wk ?_
   rw [zu1,zuQ hlt hq hk.2]
  ·refine Wk ?_
   refine ⟨k+1,⟨hlt,fun i hi hik=>?_⟩,by omega,zjB (zjA hlt (by omega))⟩
   rcases Nat.lt_succ_iff_lt_or_eq.1 hik with hik|rfl
   ·exact hk.2 i hi hik
   ·exact hq
 ·have hge:=zjI hd
  refine Wk ?_
  rw [zu1,zuR (fun i hi=>hk.2 i hi (by omega))]
theorem zvh (c:DChart) (h:Hp) (hc:Enc.ok h c):Ct jV 51 [c.v] h fun v h'=>v=.bool (zva (Con.con c))∧h'=h:=by
 have hp:=hc.1
 have hg:=hc.2
 have hl:=hp.max
 have hl2:=hg.max
 have hw:IntKind.i64.wrap ((c.points.l.length:Int) - 1)=(c.points.l.length:Int) - 1:=zjz (by omega)
 rw [zvb]
 refine zdn (fun A W=>by simp) Tryz.func51 rfl rfl (by simp) fun W0=>?_
 refine Wk ?_
 refine zc9 rfl (fun hc1=>?_) (fun hc1=>?_)
 ·refine Wk ?_
  congr 1
  rcases (jQ _ _).mp hc1 with h1|h1
  ·rw [decide_eq_false (by have:=of_decide_eq_true h1;omega)];rfl
  ·rw [decide_eq_false (p:=c.segments.l.length≤10) (by have:=of_decide_eq_true h1;omega),Bool.and_false];rfl
 obtain ⟨hc2,hc3⟩:=Bool.or_eq_false_iff.1 hc1
 have hc2:=of_decide_eq_false hc2
 have hc3:=of_decide_eq_false hc3
 rw [decide_eq_true (show c.points.l.length≤8 by omega),decide_eq_true (show c.segments.l.length≤10 by omega),Bool.and_self,Bool.true_and]
 refine Wk ?_
 refine zde (ι:=Nat) (fun k=>⟨[(1,true,.c (.p 0 0)),(20,true,.c (.v c.points.val)),(21,true,.c (.v (.int .i64 c.points.l.length))),(22,true,.c (.v (.int .i64 k)))],[(0,.box 32 [.v c.points.val,.v c.segments.val])],h,1⟩) (fun k=>k≤c.points.l.length∧∀ i,i < k→ptOk c.points.l i=true) (fun k=>c.points.l.length - k) 0 ⟨Nat.zero_le _,zvf⟩ ?_ ?_
 ·refine Evs ?_
  exact Gk
 ·intro k hk
  refine Wk ?_
  refine zc9 rfl (fun hd=>?_) (fun hd=>?_)
  ·have hlt:=zjH hd
   repeat' first|refine Wa ?_|refine zhF (fun _=>zuO _ _ (hp.el hlt)) ?_|refine zhF (fun _=>zvg c _ _ hc) ?_|(simp (maxSteps:=2000000) only [go_sem,jq,jj,jy,jv,jk,jx,zkS hp hlt,hp.some hlt,hlt,jW];try rfl)|refine Wb ?_|fail
   refine zc9 rfl (fun hq=>?_) (fun hq=>?_)
   ·refine Wk ?_
    rw [zvc hlt ?_];rfl
    rw [ptOk,pget hlt]
    rcases (jQ _ _).mp hq with h1|h1
    ·rw [Bool.not_eq_true'] at h1;rw [h1];rfl
    ·rw [decide_eq_false (zjD h1),Bool.and_false]
   ·obtain ⟨h1,h2⟩:=Bool.or_eq_false_iff.1 hq
    rw [Bool.not_eq_false'] at h1
    refine Wk ?_
    exact ⟨k+1,⟨hlt,zvd hk.2 (by rw [ptOk,pget hlt,h1,decide_eq_true (zjE h2)];rfl)⟩,by omega,zjB (zjA hlt (by omega))⟩
  ·have hge:=zjI hd
   rw [zve hge hk.2,Bool.true_and]
   refine Wk ?_
   refine zde (ι:=Nat) (fun k=>⟨[(1,true,.c (.p 0 0)),(41,true,.c (.v c.segments.val)),(42,true,.c (.v (.int .i64 c.segments.l.length))),(43,true,.c (.v (.int .i64 k)))],[(0,.box 32 [.v c.points.val,.v c.segments.val])],h,1⟩) (fun k=>k≤c.segments.l.length∧∀ i,i < k→zu9 c.points.l.length c.segments.l i=true) (fun k=>c.segments.l.length - k) 0 ⟨Nat.zero_le _,zvf⟩ ?_ ?_
   ·refine Evs ?_
    exact Gk
   intro k hk
   refine Wk ?_
   refine zc9 rfl (fun hd=>?_) (fun hd=>?_)
   ·have hlt:=zjH hd
    repeat' first|refine Wa ?_|refine zhF (fun _=>zuo _ _ _) ?_|refine zhF (fun _=>zum _ _ _ _) ?_|(simp (maxSteps:=2000000) only [go_sem,jq,jj,jy,jv,jk,jx,zkU hg hlt,hg.some hlt,hlt,jW];try rfl)|refine Wb ?_|fail
    refine zc9 rfl (fun hq=>?_) (fun hq=>?_)
    ·refine Wk ?_
     rw [zvc hlt ?_]
     rw [zu9,gget hlt,zu7,decide_eq_false ?_,Bool.false_and]
     simp only [jQ,Bool.not_eq_true',Bool.and_eq_false_iff,decide_eq_false_iff_not,beq_iff_eq] at hq
     omega
    ·have hin:zu7 c.points.l.length c.segments.l[k]=true:=by
      simp only [jp,Bool.not_eq_false',jJ,decide_eq_true_eq,beq_eq_false_iff_ne] at hq
      rw [zu7]
      refine decide_eq_true ?_
      omega
     have hgo:=Sl.to_ok hg k
     have hlt0:=Sl.to_len hk.1
     have hcap:=hg.1
     refine Wk ?_
     refine ⟨by omega,?_⟩
     simp only [Int.toNat_zero,Nat.sub_zero,Nat.zero_mul,zmA,zmB,ite_self]
     rw [zmC hk.1]
     refine Wk ?_
     refine zde (ι:=Nat) (fun j=>⟨[(1,true,.c (.p 0 0)),(6,true,.c (.p 1 0)),(41,true,.c (.v c.segments.val)),(42,true,.c (.v (.int .i64 c.segments.l.length))),(43,true,.c (.v (.int .i64 k))),(86,true,.c (.v (c.segments.to k).val)),(87,true,.c (.v (.int .i64 k))),(88,true,.c (.v (.int .i64 j)))],[(0,.box 32 [.v c.points.val,.v c.segments.val]),(1,.box 152 [.v (.int .i64 c.segments.l[k].a),.v (.int .i64 c.segments.l[k].b),.v (.int .i64 c.segments.l[k].depth),.v (.int .i64 c.segments.l[k].minutes),.v (.bool c.segments.l[k].meet)])],h,2⟩) (fun j=>j≤k∧∀ i,i < j→zu5 (c.segments.l.getD i dG) c.segments.l[k].a c.segments.l[k].b=false) (fun j=>k - j) 0 ⟨Nat.zero_le _,fun i hi=>absurd hi (Nat.not_lt_zero _)⟩ ?_ ?_
     ·refine Evs ?_
      exact Gk
     intro j hj
     refine Wk ?_
     refine zc9 rfl (fun hq2=>?_) (fun hq2=>?_)
     ·have hltj:=zjH hq2
      have hltj':j < (c.segments.to k).l.length:=by omega
      have hltj2:j < c.segments.l.length:=by omega
      have hje:=Sl.to_get hltj' hltj2
      repeat' first|refine Wa ?_|refine zhF (fun _=>zu6 _ _ _ _) ?_|(simp (maxSteps:=2000000) only [go_sem,jq,jj,jy,jv,jk,jx,zkU hgo hltj',hgo.some hltj',hltj',hltj,jW,hje];try rfl)|refine Wb ?_|fail
      refine zc9 rfl (fun hq3=>?_) (fun hq3=>?_)
      ·refine Wk ?_
       rw [zvc hlt ?_]
       rw [zu9,gget hlt,hin,Bool.true_and,zu8]
       refine decide_eq_false fun hh=>?_
       have:=hh j hltj
       rw [gget hltj2,gget hlt,hq3] at this
       cases this
      ·refine Wk ?_
       exact ⟨j+1,⟨hltj,fun i hi=>by
        rcases Nat.lt_succ_iff_lt_or_eq.1 hi with hi|rfl
        ·exact hj.2 i hi
        ·rw [gget hltj2];exact hq3⟩,by omega,zjB (zjA hltj (by omega))⟩
     ·have hgej:=zjI hq2
      refine Wk ?_
      refine ⟨k+1,⟨hlt,zvd hk.2 ?_⟩,by omega,zjB (zjA hlt (by omega))⟩
      rw [zu9,gget hlt,hin,Bool.true_and,zu8]
      refine decide_eq_true fun i hi=>?_
      rw [gget hlt];exact hj.2 i (by omega)
   ·have hge:=zjI hd
    refine Wk ?_
    rw [zve hge hk.2]
end Go.Proofs.YtdeflkhkfmjckaaGreat
