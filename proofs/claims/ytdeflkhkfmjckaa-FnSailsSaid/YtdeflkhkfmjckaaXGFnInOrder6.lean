/- What functions of the given program compute, as contracts. -/
import Derived.Test.YtdeflkhkfmjckaaProg
import Derived.Test.YtdeflkhkfmjckaaSGFnInOrderx4
import Derived.Test.YtdeflkhkfmjckaaSGFnInOrderx5
set_option linter.unusedVariables false
set_option linter.unusedSimpArgs false
set_option maxRecDepth 4000
open Nat renaming reduceAdd → jq, reduceMul → jj, reduceBEq → jy, reduceLeDiff → jv, reduceLT → jk, reduceEqDiff → jx
open Bool renaming or_eq_false_iff → jp, or_eq_true → jQ, and_eq_true → jJ
open Int renaming toNat_natCast → jW, natCast_nonneg → jY
open Go.Proofs.Try renaming prog → jV
namespace Go.Proofs.Ytdeflkhkfmjckaa
open Go Go.SL
@[go_sem] theorem ty_1:hasT jV 1=true∧szT jV 1=1∧Try.prog.bytesOf 1=8∧aggT jV 1=false∧zaX jV 1=none∧arrT jV 1=none∧zbF jV 1=some [.nilFunc]:=by and_intros <;> kernel_rfl
@[go_sem] theorem ty_2:hasT jV 2=true∧szT jV 2=1∧Try.prog.bytesOf 2=8∧aggT jV 2=false∧zaX jV 2=none∧arrT jV 2=none∧zbF jV 2=some [.int .i64 0]∧intT jV 2=some .i64:=by and_intros <;> kernel_rfl
attribute [go_sem] Try.underlying2
@[go_sem] theorem ty_3:hasT jV 3=true∧szT jV 3=1∧Try.prog.bytesOf 3=8∧aggT jV 3=false∧zaX jV 3=none∧arrT jV 3=none∧zbF jV 3=some [.int .i64 0]∧intT jV 3=some .i64:=by and_intros <;> kernel_rfl
attribute [go_sem] Try.underlying3
@[go_sem] theorem ty_4:hasT jV 4=true∧szT jV 4=1∧Try.prog.bytesOf 4=1∧aggT jV 4=false∧zaX jV 4=none∧arrT jV 4=none∧zbF jV 4=some [.bool false]:=by and_intros <;> kernel_rfl
attribute [go_sem] Try.underlying4
@[go_sem] theorem ty_5:hasT jV 5=true∧szT jV 5=1∧Try.prog.bytesOf 5=1∧aggT jV 5=false∧zaX jV 5=none∧arrT jV 5=none∧zbF jV 5=some [.int .u8 0]∧intT jV 5=some .u8:=by and_intros <;> kernel_rfl
attribute [go_sem] Try.underlying5
@[go_sem] theorem ty_9:hasT jV 9=true∧szT jV 9=1∧Try.prog.bytesOf 9=16∧aggT jV 9=false∧zaX jV 9=none∧arrT jV 9=none∧zbF jV 9=some [.string ByteArray.empty]∧strT jV 9=true:=by and_intros <;> kernel_rfl
attribute [go_sem] Try.underlying9
@[go_sem] theorem zoA:hasT jV 12=true∧szT jV 12=1∧Try.prog.bytesOf 12=8∧aggT jV 12=false∧zaX jV 12=none∧arrT jV 12=none∧zbF jV 12=some [.int .u64 0]∧intT jV 12=some .u64:=by and_intros <;> kernel_rfl
attribute [go_sem] Try.underlying12
@[go_sem] theorem zoB:hasT jV 22=true∧szT jV 22=1∧Try.prog.bytesOf 22=24∧aggT jV 22=false∧zaX jV 22=some 5∧arrT jV 22=none∧zbF jV 22=some [.slice none 0 0]:=by and_intros <;> kernel_rfl
@[go_sem] theorem zoC:hasT jV 23=true∧szT jV 23=1∧Try.prog.bytesOf 23=24∧aggT jV 23=false∧zaX jV 23=some 188∧arrT jV 23=none∧zbF jV 23=some [.slice none 0 0]:=by and_intros <;> kernel_rfl
@[go_sem] theorem zoD:hasT jV 24=true∧szT jV 24=2∧Try.prog.bytesOf 24=32∧aggT jV 24=true∧zaX jV 24=none∧arrT jV 24=none∧zbF jV 24=some [.int .i64 0,.slice none 0 0]∧zbE jV 24=true:=by and_intros <;> kernel_rfl
@[go_sem] theorem zoE:hasT jV 25=true∧szT jV 25=2∧Try.prog.bytesOf 25=32∧aggT jV 25=true∧zaX jV 25=none∧arrT jV 25=none∧zbF jV 25=some [.int .i64 0,.slice none 0 0]∧zbE jV 25=true:=by and_intros <;> kernel_rfl
@[go_sem] theorem zoF:hasT jV 26=true∧szT jV 26=1∧Try.prog.bytesOf 26=24∧aggT jV 26=false∧zaX jV 26=some 134∧arrT jV 26=none∧zbF jV 26=some [.slice none 0 0]:=by and_intros <;> kernel_rfl
@[go_sem] theorem zoG:hasT jV 27=true∧szT jV 27=3∧Try.prog.bytesOf 27=56∧aggT jV 27=true∧zaX jV 27=none∧arrT jV 27=none∧zbF jV 27=some [.int .i64 0,.slice none 0 0,.slice none 0 0]∧zbE jV 27=true:=by and_intros <;> kernel_rfl
@[go_sem] theorem zoH:hasT jV 28=true∧szT jV 28=3∧Try.prog.bytesOf 28=56∧aggT jV 28=true∧zaX jV 28=none∧arrT jV 28=none∧zbF jV 28=some [.int .i64 0,.slice none 0 0,.slice none 0 0]∧zbE jV 28=true:=by and_intros <;> kernel_rfl
@[go_sem] theorem zoI:hasT jV 29=true∧szT jV 29=1∧Try.prog.bytesOf 29=24∧aggT jV 29=false∧zaX jV 29=some 64∧arrT jV 29=none∧zbF jV 29=some [.slice none 0 0]:=by and_intros <;> kernel_rfl
@[go_sem] theorem zoJ:hasT jV 30=true∧szT jV 30=1∧Try.prog.bytesOf 30=24∧aggT jV 30=false∧zaX jV 30=some 118∧arrT jV 30=none∧zbF jV 30=some [.slice none 0 0]:=by and_intros <;> kernel_rfl
@[go_sem] theorem zoK:hasT jV 31=true∧szT jV 31=2∧Try.prog.bytesOf 31=48∧aggT jV 31=true∧zaX jV 31=none∧arrT jV 31=none∧zbF jV 31=some [.slice none 0 0,.slice none 0 0]∧zbE jV 31=true:=by and_intros <;> kernel_rfl
@[go_sem] theorem zoL:hasT jV 32=true∧szT jV 32=2∧Try.prog.bytesOf 32=48∧aggT jV 32=true∧zaX jV 32=none∧arrT jV 32=none∧zbF jV 32=some [.slice none 0 0,.slice none 0 0]∧zbE jV 32=true:=by and_intros <;> kernel_rfl
@[go_sem] theorem zoM:hasT jV 33=true∧szT jV 33=1∧Try.prog.bytesOf 33=24∧aggT jV 33=false∧zaX jV 33=some 46∧arrT jV 33=none∧zbF jV 33=some [.slice none 0 0]:=by and_intros <;> kernel_rfl
@[go_sem] theorem zoN:hasT jV 34=true∧szT jV 34=2∧Try.prog.bytesOf 34=16∧aggT jV 34=true∧zaX jV 34=none∧arrT jV 34=none∧zbF jV 34=some [.int .i64 0,.bool false]∧zbE jV 34=true:=by and_intros <;> kernel_rfl
@[go_sem] theorem zoO:hasT jV 35=true∧szT jV 35=2∧Try.prog.bytesOf 35=16∧aggT jV 35=true∧zaX jV 35=none∧arrT jV 35=none∧zbF jV 35=some [.int .i64 0,.bool false]∧zbE jV 35=true:=by and_intros <;> kernel_rfl
@[go_sem] theorem zoP:hasT jV 36=true∧szT jV 36=1∧Try.prog.bytesOf 36=24∧aggT jV 36=false∧zaX jV 36=some 3∧arrT jV 36=none∧zbF jV 36=some [.slice none 0 0]:=by and_intros <;> kernel_rfl
@[go_sem] theorem zoQ:hasT jV 37=true∧szT jV 37=4∧Try.prog.bytesOf 37=48∧aggT jV 37=true∧zaX jV 37=none∧arrT jV 37=none∧zbF jV 37=some [.int .i64 0,.int .i64 0,.int .i64 0,.slice none 0 0]∧zbE jV 37=true:=by and_intros <;> kernel_rfl
@[go_sem] theorem zoR:hasT jV 38=true∧szT jV 38=4∧Try.prog.bytesOf 38=48∧aggT jV 38=true∧zaX jV 38=none∧arrT jV 38=none∧zbF jV 38=some [.int .i64 0,.int .i64 0,.int .i64 0,.slice none 0 0]∧zbE jV 38=true:=by and_intros <;> kernel_rfl
@[go_sem] theorem zoS:hasT jV 39=true∧szT jV 39=12∧Try.prog.bytesOf 39=192∧aggT jV 39=true∧zaX jV 39=none∧arrT jV 39=none∧zbF jV 39=some [.int .i64 0,.slice none 0 0,.slice none 0 0,.slice none 0 0,.slice none 0 0,.slice none 0 0,.int .i64 0,.bool false,.int .i64 0,.int .i64 0,.int .i64 0,.slice none 0 0]∧zbE jV 39=true:=by and_intros <;> kernel_rfl
@[go_sem] theorem zoT:hasT jV 40=true∧szT jV 40=12∧Try.prog.bytesOf 40=192∧aggT jV 40=true∧zaX jV 40=none∧arrT jV 40=none∧zbF jV 40=some [.int .i64 0,.slice none 0 0,.slice none 0 0,.slice none 0 0,.slice none 0 0,.slice none 0 0,.int .i64 0,.bool false,.int .i64 0,.int .i64 0,.int .i64 0,.slice none 0 0]∧zbE jV 40=true:=by and_intros <;> kernel_rfl
@[go_sem] theorem zoU:hasT jV 41=true∧szT jV 41=5∧Try.prog.bytesOf 41=40∧aggT jV 41=true∧zaX jV 41=none∧arrT jV 41=none∧zbF jV 41=some [.int .i64 0,.int .i64 0,.int .i64 0,.int .i64 0,.int .i64 0]∧zbE jV 41=true:=by and_intros <;> kernel_rfl
@[go_sem] theorem zoV:hasT jV 42=true∧szT jV 42=5∧Try.prog.bytesOf 42=40∧aggT jV 42=true∧zaX jV 42=none∧arrT jV 42=none∧zbF jV 42=some [.int .i64 0,.int .i64 0,.int .i64 0,.int .i64 0,.int .i64 0]∧zbE jV 42=true:=by and_intros <;> kernel_rfl
@[go_sem] theorem zoW:hasT jV 45=true∧szT jV 45=6∧Try.prog.bytesOf 45=56∧aggT jV 45=true∧zaX jV 45=none∧arrT jV 45=none∧zbF jV 45=some [.string ByteArray.empty,.int .i64 0,.int .i64 0,.int .i64 0,.int .i64 0,.bool false]∧zbE jV 45=true:=by and_intros <;> kernel_rfl
@[go_sem] theorem zoX:hasT jV 46=true∧szT jV 46=6∧Try.prog.bytesOf 46=56∧aggT jV 46=true∧zaX jV 46=none∧arrT jV 46=none∧zbF jV 46=some [.string ByteArray.empty,.int .i64 0,.int .i64 0,.int .i64 0,.int .i64 0,.bool false]∧zbE jV 46=true:=by and_intros <;> kernel_rfl
@[go_sem] theorem zoY:hasT jV 48=true∧szT jV 48=1∧Try.prog.bytesOf 48=8∧aggT jV 48=false∧zaX jV 48=none∧arrT jV 48=none∧zbF jV 48=some [.nilFunc]:=by and_intros <;> kernel_rfl
@[go_sem] theorem zoZ:hasT jV 55=true∧szT jV 55=1∧Try.prog.bytesOf 55=8∧aggT jV 55=false∧zaX jV 55=none∧arrT jV 55=none∧zbF jV 55=some [.nilFunc]:=by and_intros <;> kernel_rfl
@[go_sem] theorem zo0:hasT jV 56=true∧szT jV 56=1∧Try.prog.bytesOf 56=24∧aggT jV 56=false∧zaX jV 56=some 60∧arrT jV 56=none∧zbF jV 56=some [.slice none 0 0]:=by and_intros <;> kernel_rfl
@[go_sem] theorem zo1:hasT jV 59=true∧szT jV 59=5∧Try.prog.bytesOf 59=40∧aggT jV 59=true∧zaX jV 59=none∧arrT jV 59=none∧zbF jV 59=some [.int .i64 0,.int .i64 0,.bool false,.int .i64 0,.int .i64 0]∧zbE jV 59=true:=by and_intros <;> kernel_rfl
@[go_sem] theorem zo2:hasT jV 60=true∧szT jV 60=5∧Try.prog.bytesOf 60=40∧aggT jV 60=true∧zaX jV 60=none∧arrT jV 60=none∧zbF jV 60=some [.int .i64 0,.int .i64 0,.bool false,.int .i64 0,.int .i64 0]∧zbE jV 60=true:=by and_intros <;> kernel_rfl
@[go_sem] theorem zo3:hasT jV 63=true∧szT jV 63=2∧Try.prog.bytesOf 63=24∧aggT jV 63=true∧zaX jV 63=none∧arrT jV 63=none∧zbF jV 63=some [.string ByteArray.empty,.bool false]∧zbE jV 63=true:=by and_intros <;> kernel_rfl
@[go_sem] theorem zo4:hasT jV 64=true∧szT jV 64=2∧Try.prog.bytesOf 64=24∧aggT jV 64=true∧zaX jV 64=none∧arrT jV 64=none∧zbF jV 64=some [.string ByteArray.empty,.bool false]∧zbE jV 64=true:=by and_intros <;> kernel_rfl
@[go_sem] theorem zo5:hasT jV 65=true∧szT jV 65=1∧Try.prog.bytesOf 65=24∧aggT jV 65=false∧zaX jV 65=some 69∧arrT jV 65=none∧zbF jV 65=some [.slice none 0 0]:=by and_intros <;> kernel_rfl
@[go_sem] theorem zo6:hasT jV 68=true∧szT jV 68=4∧Try.prog.bytesOf 68=48∧aggT jV 68=true∧zaX jV 68=none∧arrT jV 68=none∧zbF jV 68=some [.int .i64 0,.int .i64 0,.int .i64 0,.slice none 0 0]∧zbE jV 68=true:=by and_intros <;> kernel_rfl
@[go_sem] theorem zo7:hasT jV 69=true∧szT jV 69=4∧Try.prog.bytesOf 69=48∧aggT jV 69=true∧zaX jV 69=none∧arrT jV 69=none∧zbF jV 69=some [.int .i64 0,.int .i64 0,.int .i64 0,.slice none 0 0]∧zbE jV 69=true:=by and_intros <;> kernel_rfl
@[go_sem] theorem zo8:hasT jV 70=true∧szT jV 70=1∧Try.prog.bytesOf 70=8∧aggT jV 70=false∧zaX jV 70=none∧arrT jV 70=none∧zbF jV 70=some [.nilFunc]:=by and_intros <;> kernel_rfl
@[go_sem] theorem zo9:hasT jV 72=true∧szT jV 72=1∧Try.prog.bytesOf 72=8∧aggT jV 72=false∧zaX jV 72=none∧arrT jV 72=none∧zbF jV 72=some [.nilFunc]:=by and_intros <;> kernel_rfl
@[go_sem] theorem zpa:hasT jV 83=true∧szT jV 83=1∧Try.prog.bytesOf 83=24∧aggT jV 83=false∧zaX jV 83=some 141∧arrT jV 83=none∧zbF jV 83=some [.slice none 0 0]:=by and_intros <;> kernel_rfl
@[go_sem] theorem zpb:hasT jV 86=true∧szT jV 86=4∧Try.prog.bytesOf 86=32∧aggT jV 86=true∧zaX jV 86=none∧arrT jV 86=none∧zbF jV 86=some [.int .i64 0,.int .i64 0,.int .i64 0,.int .i64 0]∧zbE jV 86=true:=by and_intros <;> kernel_rfl
@[go_sem] theorem zpc:hasT jV 87=true∧szT jV 87=4∧Try.prog.bytesOf 87=32∧aggT jV 87=true∧zaX jV 87=none∧arrT jV 87=none∧zbF jV 87=some [.int .i64 0,.int .i64 0,.int .i64 0,.int .i64 0]∧zbE jV 87=true:=by and_intros <;> kernel_rfl
@[go_sem] theorem zpd:hasT jV 91=true∧szT jV 91=1∧Try.prog.bytesOf 91=24∧aggT jV 91=false∧zaX jV 91=some 56∧arrT jV 91=none∧zbF jV 91=some [.slice none 0 0]:=by and_intros <;> kernel_rfl
@[go_sem] theorem zpe:hasT jV 92=true∧szT jV 92=1∧Try.prog.bytesOf 92=8∧aggT jV 92=false∧zaX jV 92=none∧arrT jV 92=none∧zbF jV 92=some [.nilFunc]:=by and_intros <;> kernel_rfl
@[go_sem] theorem zpf:hasT jV 93=true∧szT jV 93=1∧Try.prog.bytesOf 93=24∧aggT jV 93=false∧zaX jV 93=some 87∧arrT jV 93=none∧zbF jV 93=some [.slice none 0 0]:=by and_intros <;> kernel_rfl
@[go_sem] theorem zpg:hasT jV 94=true∧szT jV 94=1∧Try.prog.bytesOf 94=8∧aggT jV 94=false∧zaX jV 94=none∧arrT jV 94=none∧zbF jV 94=some [.pointer none]:=by and_intros <;> kernel_rfl
@[go_sem] theorem zph:hasT jV 99=true∧szT jV 99=1∧Try.prog.bytesOf 99=24∧aggT jV 99=false∧zaX jV 99=some 36∧arrT jV 99=none∧zbF jV 99=some [.slice none 0 0]:=by and_intros <;> kernel_rfl
@[go_sem] theorem zpi:hasT jV 102=true∧szT jV 102=1∧Try.prog.bytesOf 102=24∧aggT jV 102=false∧zaX jV 102=some 4∧arrT jV 102=none∧zbF jV 102=some [.slice none 0 0]:=by and_intros <;> kernel_rfl
@[go_sem] theorem zpj:hasT jV 103=true∧szT jV 103=1∧Try.prog.bytesOf 103=24∧aggT jV 103=false∧zaX jV 103=some 83∧arrT jV 103=none∧zbF jV 103=some [.slice none 0 0]:=by and_intros <;> kernel_rfl
@[go_sem] theorem zpk:hasT jV 104=true∧szT jV 104=3∧Try.prog.bytesOf 104=72∧aggT jV 104=true∧zaX jV 104=none∧arrT jV 104=none∧zbF jV 104=some [.slice none 0 0,.slice none 0 0,.slice none 0 0]∧zbE jV 104=true:=by and_intros <;> kernel_rfl
@[go_sem] theorem zpl:hasT jV 105=true∧szT jV 105=3∧Try.prog.bytesOf 105=72∧aggT jV 105=true∧zaX jV 105=none∧arrT jV 105=none∧zbF jV 105=some [.slice none 0 0,.slice none 0 0,.slice none 0 0]∧zbE jV 105=true:=by and_intros <;> kernel_rfl
@[go_sem] theorem zpm:hasT jV 108=true∧szT jV 108=1∧Try.prog.bytesOf 108=8∧aggT jV 108=false∧zaX jV 108=none∧arrT jV 108=none∧zbF jV 108=some [.nilFunc]:=by and_intros <;> kernel_rfl
@[go_sem] theorem zpn:hasT jV 113=true∧szT jV 113=1∧Try.prog.bytesOf 113=8∧aggT jV 113=false∧zaX jV 113=none∧arrT jV 113=none∧zbF jV 113=some [.nilFunc]:=by and_intros <;> kernel_rfl
@[go_sem] theorem zpo:hasT jV 115=true∧szT jV 115=1∧Try.prog.bytesOf 115=8∧aggT jV 115=false∧zaX jV 115=none∧arrT jV 115=none∧zbF jV 115=some [.nilFunc]:=by and_intros <;> kernel_rfl
@[go_sem] theorem zpp:hasT jV 116=true∧szT jV 116=1∧Try.prog.bytesOf 116=8∧aggT jV 116=false∧zaX jV 116=none∧arrT jV 116=none∧zbF jV 116=some [.nilFunc]:=by and_intros <;> kernel_rfl
@[go_sem] theorem zpq:hasT jV 117=true∧szT jV 117=5∧Try.prog.bytesOf 117=40∧aggT jV 117=true∧zaX jV 117=none∧arrT jV 117=none∧zbF jV 117=some [.int .i64 0,.int .i64 0,.int .i64 0,.int .i64 0,.bool false]∧zbE jV 117=true:=by and_intros <;> kernel_rfl
@[go_sem] theorem zpr:hasT jV 118=true∧szT jV 118=5∧Try.prog.bytesOf 118=40∧aggT jV 118=true∧zaX jV 118=none∧arrT jV 118=none∧zbF jV 118=some [.int .i64 0,.int .i64 0,.int .i64 0,.int .i64 0,.bool false]∧zbE jV 118=true:=by and_intros <;> kernel_rfl
@[go_sem] theorem zps:hasT jV 122=true∧szT jV 122=1∧Try.prog.bytesOf 122=8∧aggT jV 122=false∧zaX jV 122=none∧arrT jV 122=none∧zbF jV 122=some [.nilFunc]:=by and_intros <;> kernel_rfl
@[go_sem] theorem zpt:hasT jV 123=true∧szT jV 123=1∧Try.prog.bytesOf 123=8∧aggT jV 123=false∧zaX jV 123=none∧arrT jV 123=none∧zbF jV 123=some [.nilFunc]:=by and_intros <;> kernel_rfl
@[go_sem] theorem zpu:hasT jV 128=true∧szT jV 128=1∧Try.prog.bytesOf 128=8∧aggT jV 128=false∧zaX jV 128=none∧arrT jV 128=none∧zbF jV 128=some [.nilFunc]:=by and_intros <;> kernel_rfl
@[go_sem] theorem zpv:hasT jV 129=true∧szT jV 129=1∧Try.prog.bytesOf 129=8∧aggT jV 129=false∧zaX jV 129=none∧arrT jV 129=none∧zbF jV 129=some [.nilFunc]:=by and_intros <;> kernel_rfl
@[go_sem] theorem zpw:hasT jV 130=true∧szT jV 130=1∧Try.prog.bytesOf 130=8∧aggT jV 130=false∧zaX jV 130=none∧arrT jV 130=none∧zbF jV 130=some [.nilFunc]:=by and_intros <;> kernel_rfl
@[go_sem] theorem zpx:hasT jV 133=true∧szT jV 133=3∧Try.prog.bytesOf 133=24∧aggT jV 133=true∧zaX jV 133=none∧arrT jV 133=none∧zbF jV 133=some [.int .i64 0,.int .i64 0,.int .i64 0]∧zbE jV 133=true:=by and_intros <;> kernel_rfl
@[go_sem] theorem zpy:hasT jV 134=true∧szT jV 134=3∧Try.prog.bytesOf 134=24∧aggT jV 134=true∧zaX jV 134=none∧arrT jV 134=none∧zbF jV 134=some [.int .i64 0,.int .i64 0,.int .i64 0]∧zbE jV 134=true:=by and_intros <;> kernel_rfl
@[go_sem] theorem zpz:hasT jV 135=true∧szT jV 135=1∧Try.prog.bytesOf 135=8∧aggT jV 135=false∧zaX jV 135=none∧arrT jV 135=none∧zbF jV 135=some [.nilFunc]:=by and_intros <;> kernel_rfl
@[go_sem] theorem zpA:hasT jV 140=true∧szT jV 140=2∧Try.prog.bytesOf 140=16∧aggT jV 140=true∧zaX jV 140=none∧arrT jV 140=none∧zbF jV 140=some [.int .i64 0,.int .i64 0]∧zbE jV 140=true:=by and_intros <;> kernel_rfl
@[go_sem] theorem zpB:hasT jV 141=true∧szT jV 141=2∧Try.prog.bytesOf 141=16∧aggT jV 141=true∧zaX jV 141=none∧arrT jV 141=none∧zbF jV 141=some [.int .i64 0,.int .i64 0]∧zbE jV 141=true:=by and_intros <;> kernel_rfl
@[go_sem] theorem zpC:hasT jV 144=true∧szT jV 144=1∧Try.prog.bytesOf 144=8∧aggT jV 144=false∧zaX jV 144=none∧arrT jV 144=none∧zbF jV 144=some [.nilFunc]:=by and_intros <;> kernel_rfl
@[go_sem] theorem zpD:hasT jV 150=true∧szT jV 150=3∧Try.prog.bytesOf 150=40∧aggT jV 150=true∧zaX jV 150=none∧arrT jV 150=none∧zbF jV 150=some [.slice none 0 0,.int .i64 0,.int .i64 0]∧zbE jV 150=true:=by and_intros <;> kernel_rfl
@[go_sem] theorem zpE:hasT jV 151=true∧szT jV 151=3∧Try.prog.bytesOf 151=40∧aggT jV 151=true∧zaX jV 151=none∧arrT jV 151=none∧zbF jV 151=some [.slice none 0 0,.int .i64 0,.int .i64 0]∧zbE jV 151=true:=by and_intros <;> kernel_rfl
@[go_sem] theorem zpF:hasT jV 158=true∧szT jV 158=1∧Try.prog.bytesOf 158=8∧aggT jV 158=false∧zaX jV 158=none∧arrT jV 158=none∧zbF jV 158=some [.nilFunc]:=by and_intros <;> kernel_rfl
@[go_sem] theorem zpG:hasT jV 159=true∧szT jV 159=8∧Try.prog.bytesOf 159=8∧aggT jV 159=true∧zaX jV 159=none∧arrT jV 159=some (8,4)∧zbF jV 159=some [.bool false,.bool false,.bool false,.bool false,.bool false,.bool false,.bool false,.bool false]∧zbE jV 159=true:=by and_intros <;> kernel_rfl
@[go_sem] theorem zpH:hasT jV 160=true∧szT jV 160=1∧Try.prog.bytesOf 160=8∧aggT jV 160=false∧zaX jV 160=none∧arrT jV 160=none∧zbF jV 160=some [.pointer none]:=by and_intros <;> kernel_rfl
@[go_sem] theorem zpI:hasT jV 162=true∧szT jV 162=1∧Try.prog.bytesOf 162=8∧aggT jV 162=false∧zaX jV 162=none∧arrT jV 162=none∧zbF jV 162=some [.int .u64 0]∧intT jV 162=some .u64:=by and_intros <;> kernel_rfl
attribute [go_sem] Try.underlying162
@[go_sem] theorem zpJ:hasT jV 175=true∧szT jV 175=1∧Try.prog.bytesOf 175=8∧aggT jV 175=false∧zaX jV 175=none∧arrT jV 175=none∧zbF jV 175=some [.nilFunc]:=by and_intros <;> kernel_rfl
@[go_sem] theorem zpK:hasT jV 177=true∧szT jV 177=1∧Try.prog.bytesOf 177=24∧aggT jV 177=false∧zaX jV 177=some 162∧arrT jV 177=none∧zbF jV 177=some [.slice none 0 0]:=by and_intros <;> kernel_rfl
@[go_sem] theorem zpL:hasT jV 179=true∧szT jV 179=1∧Try.prog.bytesOf 179=8∧aggT jV 179=false∧zaX jV 179=none∧arrT jV 179=none∧zbF jV 179=some [.pointer none]:=by and_intros <;> kernel_rfl
@[go_sem] theorem zpM:hasT jV 181=true∧szT jV 181=4∧Try.prog.bytesOf 181=80∧aggT jV 181=true∧zaX jV 181=none∧arrT jV 181=none∧zbF jV 181=some [.slice none 0 0,.int .i64 0,.slice none 0 0,.slice none 0 0]∧zbE jV 181=true:=by and_intros <;> kernel_rfl
@[go_sem] theorem zpN:hasT jV 182=true∧szT jV 182=4∧Try.prog.bytesOf 182=80∧aggT jV 182=true∧zaX jV 182=none∧arrT jV 182=none∧zbF jV 182=some [.slice none 0 0,.int .i64 0,.slice none 0 0,.slice none 0 0]∧zbE jV 182=true:=by and_intros <;> kernel_rfl
@[go_sem] theorem zpO:hasT jV 187=true∧szT jV 187=3∧Try.prog.bytesOf 187=24∧aggT jV 187=true∧zaX jV 187=none∧arrT jV 187=none∧zbF jV 187=some [.int .i64 0,.int .i64 0,.int .i64 0]∧zbE jV 187=true:=by and_intros <;> kernel_rfl
@[go_sem] theorem zpP:hasT jV 188=true∧szT jV 188=3∧Try.prog.bytesOf 188=24∧aggT jV 188=true∧zaX jV 188=none∧arrT jV 188=none∧zbF jV 188=some [.int .i64 0,.int .i64 0,.int .i64 0]∧zbE jV 188=true:=by and_intros <;> kernel_rfl
@[go_sem] theorem zpQ:hasT jV 192=true∧szT jV 192=1∧Try.prog.bytesOf 192=8∧aggT jV 192=false∧zaX jV 192=none∧arrT jV 192=none∧zbF jV 192=some [.nilFunc]:=by and_intros <;> kernel_rfl
@[go_sem] theorem zpR:hasT jV 200=true∧szT jV 200=1∧Try.prog.bytesOf 200=4∧aggT jV 200=false∧zaX jV 200=none∧arrT jV 200=none∧zbF jV 200=some [.int .u32 0]∧intT jV 200=some .u32:=by and_intros <;> kernel_rfl
attribute [go_sem] Try.underlying200
@[go_sem] theorem zpS:hasT jV 202=true∧szT jV 202=1∧Try.prog.bytesOf 202=8∧aggT jV 202=false∧zaX jV 202=none∧arrT jV 202=none∧zbF jV 202=some [.int .u64 0]∧intT jV 202=some .u64:=by and_intros <;> kernel_rfl
attribute [go_sem] Try.underlying202
@[go_sem] theorem zpT:hasT jV 204=true∧szT jV 204=1∧Try.prog.bytesOf 204=8∧aggT jV 204=false∧zaX jV 204=none∧arrT jV 204=none∧zbF jV 204=some [.nilFunc]:=by and_intros <;> kernel_rfl
@[go_sem] theorem zpU:zaW jV 13 0=some (0,9):=by kernel_rfl
@[go_sem] theorem zpV:zbD jV 13 0=some (0,1):=by kernel_rfl
@[go_sem] theorem zpW:zaW jV 13 1=some (1,12):=by kernel_rfl
@[go_sem] theorem zpX:zbD jV 13 1=some (1,1):=by kernel_rfl
attribute [go_sem] Try.underlying13 Try.stoodInHeld13 Try.eqGuardType13
@[go_sem] theorem zpY:zaW jV 24 0=some (0,3):=by kernel_rfl
@[go_sem] theorem zpZ:zbD jV 24 0=some (0,1):=by kernel_rfl
@[go_sem] theorem zp0:zaW jV 24 1=some (1,23):=by kernel_rfl
@[go_sem] theorem zp1:zbD jV 24 1=some (1,1):=by kernel_rfl
attribute [go_sem] Try.underlying24 Try.stoodInHeld24 Try.eqGuardType24
@[go_sem] theorem zp2:zaW jV 25 0=some (0,3):=by kernel_rfl
@[go_sem] theorem zp3:zbD jV 25 0=some (0,1):=by kernel_rfl
@[go_sem] theorem zp4:zaW jV 25 1=some (1,23):=by kernel_rfl
@[go_sem] theorem zp5:zbD jV 25 1=some (1,1):=by kernel_rfl
attribute [go_sem] Try.underlying25 Try.stoodInHeld25 Try.eqGuardType25
@[go_sem] theorem zp6:zaW jV 27 0=some (0,25):=by kernel_rfl
@[go_sem] theorem zp7:zbD jV 27 0=some (0,2):=by kernel_rfl
@[go_sem] theorem zp8:zaW jV 27 1=some (2,26):=by kernel_rfl
@[go_sem] theorem zp9:zbD jV 27 1=some (2,1):=by kernel_rfl
attribute [go_sem] Try.underlying27 Try.stoodInHeld27 Try.eqGuardType27
@[go_sem] theorem zqa:zaW jV 28 0=some (0,25):=by kernel_rfl
@[go_sem] theorem zqb:zbD jV 28 0=some (0,2):=by kernel_rfl
@[go_sem] theorem zqc:zaW jV 28 1=some (2,26):=by kernel_rfl
@[go_sem] theorem zqd:zbD jV 28 1=some (2,1):=by kernel_rfl
attribute [go_sem] Try.underlying28 Try.stoodInHeld28 Try.eqGuardType28
@[go_sem] theorem zqe:zaW jV 31 0=some (0,29):=by kernel_rfl
@[go_sem] theorem zqf:zbD jV 31 0=some (0,1):=by kernel_rfl
@[go_sem] theorem zqg:zaW jV 31 1=some (1,30):=by kernel_rfl
@[go_sem] theorem zqh:zbD jV 31 1=some (1,1):=by kernel_rfl
attribute [go_sem] Try.underlying31 Try.stoodInHeld31 Try.eqGuardType31
@[go_sem] theorem zqi:zaW jV 32 0=some (0,29):=by kernel_rfl
@[go_sem] theorem zqj:zbD jV 32 0=some (0,1):=by kernel_rfl
@[go_sem] theorem zqk:zaW jV 32 1=some (1,30):=by kernel_rfl
@[go_sem] theorem zql:zbD jV 32 1=some (1,1):=by kernel_rfl
attribute [go_sem] Try.underlying32 Try.stoodInHeld32 Try.eqGuardType32
@[go_sem] theorem zqm:zaW jV 34 0=some (0,3):=by kernel_rfl
@[go_sem] theorem zqn:zbD jV 34 0=some (0,1):=by kernel_rfl
@[go_sem] theorem zqo:zaW jV 34 1=some (1,4):=by kernel_rfl
@[go_sem] theorem zqp:zbD jV 34 1=some (1,1):=by kernel_rfl
attribute [go_sem] Try.underlying34 Try.stoodInHeld34 Try.eqGuardType34
@[go_sem] theorem zqq:zaW jV 35 0=some (0,3):=by kernel_rfl
@[go_sem] theorem zqr:zbD jV 35 0=some (0,1):=by kernel_rfl
@[go_sem] theorem zqs:zaW jV 35 1=some (1,4):=by kernel_rfl
@[go_sem] theorem zqt:zbD jV 35 1=some (1,1):=by kernel_rfl
attribute [go_sem] Try.underlying35 Try.stoodInHeld35 Try.eqGuardType35
@[go_sem] theorem zqu:zaW jV 37 0=some (0,3):=by kernel_rfl
@[go_sem] theorem zqv:zbD jV 37 0=some (0,1):=by kernel_rfl
@[go_sem] theorem zqw:zaW jV 37 1=some (1,3):=by kernel_rfl
@[go_sem] theorem zqx:zbD jV 37 1=some (1,1):=by kernel_rfl
@[go_sem] theorem zqy:zaW jV 37 2=some (2,3):=by kernel_rfl
@[go_sem] theorem zqz:zbD jV 37 2=some (2,1):=by kernel_rfl
@[go_sem] theorem zqA:zaW jV 37 3=some (3,36):=by kernel_rfl
@[go_sem] theorem zqB:zbD jV 37 3=some (3,1):=by kernel_rfl
attribute [go_sem] Try.underlying37 Try.stoodInHeld37 Try.eqGuardType37
@[go_sem] theorem zqC:zaW jV 38 0=some (0,3):=by kernel_rfl
@[go_sem] theorem zqD:zbD jV 38 0=some (0,1):=by kernel_rfl
@[go_sem] theorem zqE:zaW jV 38 1=some (1,3):=by kernel_rfl
@[go_sem] theorem zqF:zbD jV 38 1=some (1,1):=by kernel_rfl
@[go_sem] theorem zqG:zaW jV 38 2=some (2,3):=by kernel_rfl
@[go_sem] theorem zqH:zbD jV 38 2=some (2,1):=by kernel_rfl
@[go_sem] theorem zqI:zaW jV 38 3=some (3,36):=by kernel_rfl
@[go_sem] theorem zqJ:zbD jV 38 3=some (3,1):=by kernel_rfl
attribute [go_sem] Try.underlying38 Try.stoodInHeld38 Try.eqGuardType38
@[go_sem] theorem zqK:zaW jV 39 0=some (0,28):=by kernel_rfl
@[go_sem] theorem zqL:zbD jV 39 0=some (0,3):=by kernel_rfl
@[go_sem] theorem zqM:zaW jV 39 1=some (3,32):=by kernel_rfl
@[go_sem] theorem zqN:zbD jV 39 1=some (3,2):=by kernel_rfl
@[go_sem] theorem zqO:zaW jV 39 2=some (5,33):=by kernel_rfl
@[go_sem] theorem zqP:zbD jV 39 2=some (5,1):=by kernel_rfl
@[go_sem] theorem zqQ:zaW jV 39 3=some (6,35):=by kernel_rfl
@[go_sem] theorem zqR:zbD jV 39 3=some (6,2):=by kernel_rfl
@[go_sem] theorem zqS:zaW jV 39 4=some (8,38):=by kernel_rfl
@[go_sem] theorem zqT:zbD jV 39 4=some (8,4):=by kernel_rfl
attribute [go_sem] Try.underlying39 Try.stoodInHeld39 Try.eqGuardType39
@[go_sem] theorem zqU:zaW jV 40 0=some (0,28):=by kernel_rfl
@[go_sem] theorem zqV:zbD jV 40 0=some (0,3):=by kernel_rfl
@[go_sem] theorem zqW:zaW jV 40 1=some (3,32):=by kernel_rfl
@[go_sem] theorem zqX:zbD jV 40 1=some (3,2):=by kernel_rfl
@[go_sem] theorem zqY:zaW jV 40 2=some (5,33):=by kernel_rfl
@[go_sem] theorem zqZ:zbD jV 40 2=some (5,1):=by kernel_rfl
@[go_sem] theorem zq0:zaW jV 40 3=some (6,35):=by kernel_rfl
@[go_sem] theorem zq1:zbD jV 40 3=some (6,2):=by kernel_rfl
@[go_sem] theorem zq2:zaW jV 40 4=some (8,38):=by kernel_rfl
@[go_sem] theorem zq3:zbD jV 40 4=some (8,4):=by kernel_rfl
attribute [go_sem] Try.underlying40 Try.stoodInHeld40 Try.eqGuardType40
@[go_sem] theorem zq4:zaW jV 41 0=some (0,3):=by kernel_rfl
@[go_sem] theorem zq5:zbD jV 41 0=some (0,1):=by kernel_rfl
@[go_sem] theorem zq6:zaW jV 41 1=some (1,3):=by kernel_rfl
@[go_sem] theorem zq7:zbD jV 41 1=some (1,1):=by kernel_rfl
@[go_sem] theorem zq8:zaW jV 41 2=some (2,3):=by kernel_rfl
@[go_sem] theorem zq9:zbD jV 41 2=some (2,1):=by kernel_rfl
@[go_sem] theorem zra:zaW jV 41 3=some (3,3):=by kernel_rfl
@[go_sem] theorem zrb:zbD jV 41 3=some (3,1):=by kernel_rfl
@[go_sem] theorem zrc:zaW jV 41 4=some (4,3):=by kernel_rfl
@[go_sem] theorem zrd:zbD jV 41 4=some (4,1):=by kernel_rfl
attribute [go_sem] Try.underlying41 Try.stoodInHeld41 Try.eqGuardType41
@[go_sem] theorem zre:zaW jV 42 0=some (0,3):=by kernel_rfl
@[go_sem] theorem zrf:zbD jV 42 0=some (0,1):=by kernel_rfl
@[go_sem] theorem zrg:zaW jV 42 1=some (1,3):=by kernel_rfl
@[go_sem] theorem zrh:zbD jV 42 1=some (1,1):=by kernel_rfl
@[go_sem] theorem zri:zaW jV 42 2=some (2,3):=by kernel_rfl
@[go_sem] theorem zrj:zbD jV 42 2=some (2,1):=by kernel_rfl
@[go_sem] theorem zrk:zaW jV 42 3=some (3,3):=by kernel_rfl
@[go_sem] theorem zrl:zbD jV 42 3=some (3,1):=by kernel_rfl
@[go_sem] theorem zrm:zaW jV 42 4=some (4,3):=by kernel_rfl
@[go_sem] theorem zrn:zbD jV 42 4=some (4,1):=by kernel_rfl
attribute [go_sem] Try.underlying42 Try.stoodInHeld42 Try.eqGuardType42
@[go_sem] theorem zro:zaW jV 45 0=some (0,9):=by kernel_rfl
@[go_sem] theorem zrp:zbD jV 45 0=some (0,1):=by kernel_rfl
@[go_sem] theorem zrq:zaW jV 45 1=some (1,3):=by kernel_rfl
@[go_sem] theorem zrr:zbD jV 45 1=some (1,1):=by kernel_rfl
@[go_sem] theorem zrs:zaW jV 45 2=some (2,3):=by kernel_rfl
@[go_sem] theorem zrt:zbD jV 45 2=some (2,1):=by kernel_rfl
@[go_sem] theorem zru:zaW jV 45 3=some (3,3):=by kernel_rfl
@[go_sem] theorem zrv:zbD jV 45 3=some (3,1):=by kernel_rfl
@[go_sem] theorem zrw:zaW jV 45 4=some (4,3):=by kernel_rfl
@[go_sem] theorem zrx:zbD jV 45 4=some (4,1):=by kernel_rfl
@[go_sem] theorem zry:zaW jV 45 5=some (5,4):=by kernel_rfl
@[go_sem] theorem zrz:zbD jV 45 5=some (5,1):=by kernel_rfl
attribute [go_sem] Try.underlying45 Try.stoodInHeld45 Try.eqGuardType45
@[go_sem] theorem zrA:zaW jV 46 0=some (0,9):=by kernel_rfl
@[go_sem] theorem zrB:zbD jV 46 0=some (0,1):=by kernel_rfl
@[go_sem] theorem zrC:zaW jV 46 1=some (1,3):=by kernel_rfl
@[go_sem] theorem zrD:zbD jV 46 1=some (1,1):=by kernel_rfl
@[go_sem] theorem zrE:zaW jV 46 2=some (2,3):=by kernel_rfl
@[go_sem] theorem zrF:zbD jV 46 2=some (2,1):=by kernel_rfl
@[go_sem] theorem zrG:zaW jV 46 3=some (3,3):=by kernel_rfl
@[go_sem] theorem zrH:zbD jV 46 3=some (3,1):=by kernel_rfl
@[go_sem] theorem zrI:zaW jV 46 4=some (4,3):=by kernel_rfl
@[go_sem] theorem zrJ:zbD jV 46 4=some (4,1):=by kernel_rfl
@[go_sem] theorem zrK:zaW jV 46 5=some (5,4):=by kernel_rfl
@[go_sem] theorem zrL:zbD jV 46 5=some (5,1):=by kernel_rfl
attribute [go_sem] Try.underlying46 Try.stoodInHeld46 Try.eqGuardType46
@[go_sem] theorem zrM:zaW jV 59 0=some (0,3):=by kernel_rfl
@[go_sem] theorem zrN:zbD jV 59 0=some (0,1):=by kernel_rfl
@[go_sem] theorem zrO:zaW jV 59 1=some (1,3):=by kernel_rfl
@[go_sem] theorem zrP:zbD jV 59 1=some (1,1):=by kernel_rfl
@[go_sem] theorem zrQ:zaW jV 59 2=some (2,4):=by kernel_rfl
@[go_sem] theorem zrR:zbD jV 59 2=some (2,1):=by kernel_rfl
@[go_sem] theorem zrS:zaW jV 59 3=some (3,3):=by kernel_rfl
@[go_sem] theorem zrT:zbD jV 59 3=some (3,1):=by kernel_rfl
@[go_sem] theorem zrU:zaW jV 59 4=some (4,3):=by kernel_rfl
@[go_sem] theorem zrV:zbD jV 59 4=some (4,1):=by kernel_rfl
attribute [go_sem] Try.underlying59 Try.stoodInHeld59 Try.eqGuardType59
@[go_sem] theorem zrW:zaW jV 60 0=some (0,3):=by kernel_rfl
@[go_sem] theorem zrX:zbD jV 60 0=some (0,1):=by kernel_rfl
@[go_sem] theorem zrY:zaW jV 60 1=some (1,3):=by kernel_rfl
@[go_sem] theorem zrZ:zbD jV 60 1=some (1,1):=by kernel_rfl
@[go_sem] theorem zr0:zaW jV 60 2=some (2,4):=by kernel_rfl
@[go_sem] theorem zr1:zbD jV 60 2=some (2,1):=by kernel_rfl
@[go_sem] theorem zr2:zaW jV 60 3=some (3,3):=by kernel_rfl
@[go_sem] theorem zr3:zbD jV 60 3=some (3,1):=by kernel_rfl
@[go_sem] theorem zr4:zaW jV 60 4=some (4,3):=by kernel_rfl
@[go_sem] theorem zr5:zbD jV 60 4=some (4,1):=by kernel_rfl
attribute [go_sem] Try.underlying60 Try.stoodInHeld60 Try.eqGuardType60
@[go_sem] theorem zr6:zaW jV 63 0=some (0,9):=by kernel_rfl
@[go_sem] theorem zr7:zbD jV 63 0=some (0,1):=by kernel_rfl
@[go_sem] theorem zr8:zaW jV 63 1=some (1,4):=by kernel_rfl
@[go_sem] theorem zr9:zbD jV 63 1=some (1,1):=by kernel_rfl
attribute [go_sem] Try.underlying63 Try.stoodInHeld63 Try.eqGuardType63
@[go_sem] theorem zsa:zaW jV 64 0=some (0,9):=by kernel_rfl
@[go_sem] theorem zsb:zbD jV 64 0=some (0,1):=by kernel_rfl
@[go_sem] theorem zsc:zaW jV 64 1=some (1,4):=by kernel_rfl
@[go_sem] theorem zsd:zbD jV 64 1=some (1,1):=by kernel_rfl
attribute [go_sem] Try.underlying64 Try.stoodInHeld64 Try.eqGuardType64
@[go_sem] theorem zse:zaW jV 68 0=some (0,3):=by kernel_rfl
@[go_sem] theorem zsf:zbD jV 68 0=some (0,1):=by kernel_rfl
@[go_sem] theorem zsg:zaW jV 68 1=some (1,3):=by kernel_rfl
@[go_sem] theorem zsh:zbD jV 68 1=some (1,1):=by kernel_rfl
@[go_sem] theorem zsi:zaW jV 68 2=some (2,3):=by kernel_rfl
@[go_sem] theorem zsj:zbD jV 68 2=some (2,1):=by kernel_rfl
@[go_sem] theorem zsk:zaW jV 68 3=some (3,56):=by kernel_rfl
@[go_sem] theorem zsl:zbD jV 68 3=some (3,1):=by kernel_rfl
attribute [go_sem] Try.underlying68 Try.stoodInHeld68 Try.eqGuardType68
@[go_sem] theorem zsm:zaW jV 69 0=some (0,3):=by kernel_rfl
@[go_sem] theorem zsn:zbD jV 69 0=some (0,1):=by kernel_rfl
@[go_sem] theorem zso:zaW jV 69 1=some (1,3):=by kernel_rfl
@[go_sem] theorem zsp:zbD jV 69 1=some (1,1):=by kernel_rfl
@[go_sem] theorem zsq:zaW jV 69 2=some (2,3):=by kernel_rfl
@[go_sem] theorem zsr:zbD jV 69 2=some (2,1):=by kernel_rfl
@[go_sem] theorem zss:zaW jV 69 3=some (3,56):=by kernel_rfl
@[go_sem] theorem zst:zbD jV 69 3=some (3,1):=by kernel_rfl
attribute [go_sem] Try.underlying69 Try.stoodInHeld69 Try.eqGuardType69
@[go_sem] theorem zsu:zaW jV 86 0=some (0,3):=by kernel_rfl
@[go_sem] theorem zsv:zbD jV 86 0=some (0,1):=by kernel_rfl
@[go_sem] theorem zsw:zaW jV 86 1=some (1,3):=by kernel_rfl
@[go_sem] theorem zsx:zbD jV 86 1=some (1,1):=by kernel_rfl
@[go_sem] theorem zsy:zaW jV 86 2=some (2,3):=by kernel_rfl
@[go_sem] theorem zsz:zbD jV 86 2=some (2,1):=by kernel_rfl
@[go_sem] theorem zsA:zaW jV 86 3=some (3,3):=by kernel_rfl
@[go_sem] theorem zsB:zbD jV 86 3=some (3,1):=by kernel_rfl
attribute [go_sem] Try.underlying86 Try.stoodInHeld86 Try.eqGuardType86
@[go_sem] theorem zsC:zaW jV 87 0=some (0,3):=by kernel_rfl
@[go_sem] theorem zsD:zbD jV 87 0=some (0,1):=by kernel_rfl
@[go_sem] theorem zsE:zaW jV 87 1=some (1,3):=by kernel_rfl
@[go_sem] theorem zsF:zbD jV 87 1=some (1,1):=by kernel_rfl
@[go_sem] theorem zsG:zaW jV 87 2=some (2,3):=by kernel_rfl
@[go_sem] theorem zsH:zbD jV 87 2=some (2,1):=by kernel_rfl
@[go_sem] theorem zsI:zaW jV 87 3=some (3,3):=by kernel_rfl
@[go_sem] theorem zsJ:zbD jV 87 3=some (3,1):=by kernel_rfl
attribute [go_sem] Try.underlying87 Try.stoodInHeld87 Try.eqGuardType87
@[go_sem] theorem zsK:zaW jV 104 0=some (0,102):=by kernel_rfl
@[go_sem] theorem zsL:zbD jV 104 0=some (0,1):=by kernel_rfl
@[go_sem] theorem zsM:zaW jV 104 1=some (1,36):=by kernel_rfl
@[go_sem] theorem zsN:zbD jV 104 1=some (1,1):=by kernel_rfl
@[go_sem] theorem zsO:zaW jV 104 2=some (2,103):=by kernel_rfl
@[go_sem] theorem zsP:zbD jV 104 2=some (2,1):=by kernel_rfl
attribute [go_sem] Try.underlying104 Try.stoodInHeld104 Try.eqGuardType104
@[go_sem] theorem zsQ:zaW jV 105 0=some (0,102):=by kernel_rfl
@[go_sem] theorem zsR:zbD jV 105 0=some (0,1):=by kernel_rfl
@[go_sem] theorem zsS:zaW jV 105 1=some (1,36):=by kernel_rfl
@[go_sem] theorem zsT:zbD jV 105 1=some (1,1):=by kernel_rfl
@[go_sem] theorem zsU:zaW jV 105 2=some (2,103):=by kernel_rfl
@[go_sem] theorem zsV:zbD jV 105 2=some (2,1):=by kernel_rfl
attribute [go_sem] Try.underlying105 Try.stoodInHeld105 Try.eqGuardType105
@[go_sem] theorem zsW:zaW jV 117 0=some (0,3):=by kernel_rfl
@[go_sem] theorem zsX:zbD jV 117 0=some (0,1):=by kernel_rfl
@[go_sem] theorem zsY:zaW jV 117 1=some (1,3):=by kernel_rfl
@[go_sem] theorem zsZ:zbD jV 117 1=some (1,1):=by kernel_rfl
@[go_sem] theorem zs0:zaW jV 117 2=some (2,3):=by kernel_rfl
@[go_sem] theorem zs1:zbD jV 117 2=some (2,1):=by kernel_rfl
@[go_sem] theorem zs2:zaW jV 117 3=some (3,3):=by kernel_rfl
@[go_sem] theorem zs3:zbD jV 117 3=some (3,1):=by kernel_rfl
@[go_sem] theorem zs4:zaW jV 117 4=some (4,4):=by kernel_rfl
@[go_sem] theorem zs5:zbD jV 117 4=some (4,1):=by kernel_rfl
attribute [go_sem] Try.underlying117 Try.stoodInHeld117 Try.eqGuardType117
@[go_sem] theorem zs6:zaW jV 118 0=some (0,3):=by kernel_rfl
@[go_sem] theorem zs7:zbD jV 118 0=some (0,1):=by kernel_rfl
@[go_sem] theorem zs8:zaW jV 118 1=some (1,3):=by kernel_rfl
@[go_sem] theorem zs9:zbD jV 118 1=some (1,1):=by kernel_rfl
@[go_sem] theorem zta:zaW jV 118 2=some (2,3):=by kernel_rfl
@[go_sem] theorem ztb:zbD jV 118 2=some (2,1):=by kernel_rfl
@[go_sem] theorem ztc:zaW jV 118 3=some (3,3):=by kernel_rfl
@[go_sem] theorem ztd:zbD jV 118 3=some (3,1):=by kernel_rfl
@[go_sem] theorem zte:zaW jV 118 4=some (4,4):=by kernel_rfl
@[go_sem] theorem ztf:zbD jV 118 4=some (4,1):=by kernel_rfl
attribute [go_sem] Try.underlying118 Try.stoodInHeld118 Try.eqGuardType118
@[go_sem] theorem ztg:zaW jV 133 0=some (0,3):=by kernel_rfl
@[go_sem] theorem zth:zbD jV 133 0=some (0,1):=by kernel_rfl
@[go_sem] theorem zti:zaW jV 133 1=some (1,3):=by kernel_rfl
@[go_sem] theorem ztj:zbD jV 133 1=some (1,1):=by kernel_rfl
@[go_sem] theorem ztk:zaW jV 133 2=some (2,3):=by kernel_rfl
@[go_sem] theorem ztl:zbD jV 133 2=some (2,1):=by kernel_rfl
attribute [go_sem] Try.underlying133 Try.stoodInHeld133 Try.eqGuardType133
@[go_sem] theorem ztm:zaW jV 134 0=some (0,3):=by kernel_rfl
@[go_sem] theorem ztn:zbD jV 134 0=some (0,1):=by kernel_rfl
@[go_sem] theorem zto:zaW jV 134 1=some (1,3):=by kernel_rfl
@[go_sem] theorem ztp:zbD jV 134 1=some (1,1):=by kernel_rfl
@[go_sem] theorem ztq:zaW jV 134 2=some (2,3):=by kernel_rfl
@[go_sem] theorem ztr:zbD jV 134 2=some (2,1):=by kernel_rfl
attribute [go_sem] Try.underlying134 Try.stoodInHeld134 Try.eqGuardType134
@[go_sem] theorem zts:zaW jV 140 0=some (0,3):=by kernel_rfl
@[go_sem] theorem ztt:zbD jV 140 0=some (0,1):=by kernel_rfl
@[go_sem] theorem ztu:zaW jV 140 1=some (1,3):=by kernel_rfl
@[go_sem] theorem ztv:zbD jV 140 1=some (1,1):=by kernel_rfl
attribute [go_sem] Try.underlying140 Try.stoodInHeld140 Try.eqGuardType140
@[go_sem] theorem ztw:zaW jV 141 0=some (0,3):=by kernel_rfl
@[go_sem] theorem ztx:zbD jV 141 0=some (0,1):=by kernel_rfl
@[go_sem] theorem zty:zaW jV 141 1=some (1,3):=by kernel_rfl
@[go_sem] theorem ztz:zbD jV 141 1=some (1,1):=by kernel_rfl
attribute [go_sem] Try.underlying141 Try.stoodInHeld141 Try.eqGuardType141
@[go_sem] theorem ztA:zaW jV 150 0=some (0,22):=by kernel_rfl
@[go_sem] theorem ztB:zbD jV 150 0=some (0,1):=by kernel_rfl
@[go_sem] theorem ztC:zaW jV 150 1=some (1,3):=by kernel_rfl
@[go_sem] theorem ztD:zbD jV 150 1=some (1,1):=by kernel_rfl
@[go_sem] theorem ztE:zaW jV 150 2=some (2,3):=by kernel_rfl
@[go_sem] theorem ztF:zbD jV 150 2=some (2,1):=by kernel_rfl
attribute [go_sem] Try.underlying150 Try.stoodInHeld150 Try.eqGuardType150
@[go_sem] theorem ztG:zaW jV 151 0=some (0,22):=by kernel_rfl
@[go_sem] theorem ztH:zbD jV 151 0=some (0,1):=by kernel_rfl
@[go_sem] theorem ztI:zaW jV 151 1=some (1,3):=by kernel_rfl
@[go_sem] theorem ztJ:zbD jV 151 1=some (1,1):=by kernel_rfl
@[go_sem] theorem ztK:zaW jV 151 2=some (2,3):=by kernel_rfl
@[go_sem] theorem ztL:zbD jV 151 2=some (2,1):=by kernel_rfl
attribute [go_sem] Try.underlying151 Try.stoodInHeld151 Try.eqGuardType151
@[go_sem] theorem ztM:zbD jV 159 0=some (0,1):=by kernel_rfl
@[go_sem] theorem ztN:zbD jV 159 1=some (1,1):=by kernel_rfl
@[go_sem] theorem ztO:zbD jV 159 2=some (2,1):=by kernel_rfl
@[go_sem] theorem ztP:zbD jV 159 3=some (3,1):=by kernel_rfl
@[go_sem] theorem ztQ:zbD jV 159 4=some (4,1):=by kernel_rfl
@[go_sem] theorem ztR:zbD jV 159 5=some (5,1):=by kernel_rfl
@[go_sem] theorem ztS:zbD jV 159 6=some (6,1):=by kernel_rfl
@[go_sem] theorem ztT:zbD jV 159 7=some (7,1):=by kernel_rfl
@[go_sem] theorem ztU:zaW jV 181 0=some (0,177):=by kernel_rfl
@[go_sem] theorem ztV:zbD jV 181 0=some (0,1):=by kernel_rfl
@[go_sem] theorem ztW:zaW jV 181 1=some (1,3):=by kernel_rfl
@[go_sem] theorem ztX:zbD jV 181 1=some (1,1):=by kernel_rfl
@[go_sem] theorem ztY:zaW jV 181 2=some (2,177):=by kernel_rfl
@[go_sem] theorem ztZ:zbD jV 181 2=some (2,1):=by kernel_rfl
@[go_sem] theorem zt0:zaW jV 181 3=some (3,36):=by kernel_rfl
@[go_sem] theorem zt1:zbD jV 181 3=some (3,1):=by kernel_rfl
attribute [go_sem] Try.underlying181 Try.stoodInHeld181 Try.eqGuardType181
@[go_sem] theorem zt2:zaW jV 182 0=some (0,177):=by kernel_rfl
@[go_sem] theorem zt3:zbD jV 182 0=some (0,1):=by kernel_rfl
@[go_sem] theorem zt4:zaW jV 182 1=some (1,3):=by kernel_rfl
@[go_sem] theorem zt5:zbD jV 182 1=some (1,1):=by kernel_rfl
@[go_sem] theorem zt6:zaW jV 182 2=some (2,177):=by kernel_rfl
@[go_sem] theorem zt7:zbD jV 182 2=some (2,1):=by kernel_rfl
@[go_sem] theorem zt8:zaW jV 182 3=some (3,36):=by kernel_rfl
@[go_sem] theorem zt9:zbD jV 182 3=some (3,1):=by kernel_rfl
attribute [go_sem] Try.underlying182 Try.stoodInHeld182 Try.eqGuardType182
@[go_sem] theorem zua:zaW jV 187 0=some (0,3):=by kernel_rfl
@[go_sem] theorem zub:zbD jV 187 0=some (0,1):=by kernel_rfl
@[go_sem] theorem zuc:zaW jV 187 1=some (1,3):=by kernel_rfl
@[go_sem] theorem zud:zbD jV 187 1=some (1,1):=by kernel_rfl
@[go_sem] theorem zue:zaW jV 187 2=some (2,3):=by kernel_rfl
@[go_sem] theorem zuf:zbD jV 187 2=some (2,1):=by kernel_rfl
attribute [go_sem] Try.underlying187 Try.stoodInHeld187 Try.eqGuardType187
@[go_sem] theorem zug:zaW jV 188 0=some (0,3):=by kernel_rfl
@[go_sem] theorem zuh:zbD jV 188 0=some (0,1):=by kernel_rfl
@[go_sem] theorem zui:zaW jV 188 1=some (1,3):=by kernel_rfl
@[go_sem] theorem zuj:zbD jV 188 1=some (1,1):=by kernel_rfl
@[go_sem] theorem zuk:zaW jV 188 2=some (2,3):=by kernel_rfl
@[go_sem] theorem zul:zbD jV 188 2=some (2,1):=by kernel_rfl
attribute [go_sem] Try.underlying188 Try.stoodInHeld188 Try.eqGuardType188
set_option maxHeartbeats 1000000
theorem zum (n lo hi:Int) (h:Hp):Ct jV 51 [.int .i64 n,.int .i64 lo,.int .i64 hi] h fun v h'=>v=.bool (decide (lo≤n) && decide (n≤hi))∧h'=h:=by
 refine zdn (fun A W=>by simp) Try.func51 rfl rfl (by simp) fun W0=>?_
 exact Wk0
theorem zun (n:Int) (h:Hp):Ct jV 54 [.int .i64 n] h fun v h'=>v=.bool (decide (0≤n) && decide (n≤2880))∧h'=h:=by
 refine zdn (fun A W=>by simp) Try.func54 rfl rfl (by simp) fun W0=>?_
 repeat' first|refine Wa ?_|refine zhF (fun _=>zum _ _ _ _) ?_|(simp only [go_sem,jq,jj,jy,jv,jk,jx];try rfl)|refine Wb ?_|fail
theorem zuo (n m:Int) (h:Hp):Ct jV 52 [.int .i64 n,.int .i64 m] h fun v h'=>v=.bool (decide (0≤n) && decide (n < m))∧h'=h:=by
 refine zdn (fun A W=>by simp) Try.func52 rfl rfl (by simp) fun W0=>?_
 exact Wk0
theorem zup (s:Sl DPassage):Con.con s=s.l:=List.map_id _
theorem zuq (n:Int):zaH jV 3 (.int .i64 n)=True:=by
 simp only [zaH,Try.underlying3,Value.isI]
theorem zur (p q:DPassage):(!(p.ship == q.ship && (p.seg == q.seg && (p.toward == q.toward && (p.start == q.start && p.fin == q.fin)))))=!decide (p=q):=by
 congr 1
 rw [Bool.eq_iff_iff]
 simp only [jJ,beq_iff_eq,decide_eq_true_eq]
 cases p;cases q;simp only [DPassage.mk.injEq]
theorem zus (a b:Sl DPassage) (h:Hp) (ha:a.Ok h) (hb:b.Ok h):Ct jV 65 [a.val,b.val] h fun v h'=>v=.bool (decide (a.l=b.l))∧h'=h:=by
 have hl:=ha.max
 refine zdn (fun A W=>by simp) Try.func65 rfl rfl (by simp) fun W0=>?_
 refine Wk ?_
 refine zc9 rfl (fun hc=>?_) (fun hc=>?_)
 ·refine Wk ?_
  exact zjF fun e=>zjD hc (by rw [e])
 have hlen:a.l.length=b.l.length:=by have:=zjE hc;omega
 refine Wk ?_
 refine zde (ι:=Nat) (fun k=>⟨[(0,true,.c (.v a.val)),(1,true,.c (.v b.val)),(12,true,.c (.v (.int .i64 a.l.length))),(13,true,.c (.v (.int .i64 k)))],[],h,0⟩) (fun k=>k≤a.l.length∧a.l.take k=b.l.take k) (fun k=>a.l.length - k) 0 ⟨Nat.zero_le _,rfl⟩ ?_ ?_
 ·refine Evs ?_
  rfl
 intro k hk
 refine Wk ?_
 refine zc9 rfl (fun hc=>?_) (fun hc=>?_)
 ·have hlt:=zjH hc
  have hlt':k < b.l.length:=by omega
  refine Wk ?_
  refine zi8 rfl (by kernel_rfl) ?_
  simp (maxSteps:=2000000) only [go_sem,jq,jj,jy,jv,jk,jx,zky ha hlt,ha.some hlt,zky hb hlt',hb.some hlt',hlt,hlt',zuq,String.reduceEq,not_false_eq_true,and_self,true_and]
  refine zc9 rfl (fun hd=>?_) (fun hd=>?_)
  ·refine Wk ?_
   refine zjF fun e=>?_
   rw [zur] at hd
   exact of_decide_eq_false (by simpa using hd) (by simp only [e])
  ·refine Wk ?_
   rw [zur] at hd
   exact ⟨k+1,⟨hlt,zjC hlt hlt' hk.2 (of_decide_eq_true (by simpa using hd))⟩,by omega,zjB (zjA hlt (by omega))⟩
 ·have hge:=zjI hc
  refine Wk ?_
  refine zjG ?_
  have:=hk.2
  rwa [List.take_of_length_le hge,List.take_of_length_le (by omega)] at this
def zut (a b:POption):Bool:=decide (a=b)
theorem zuu (a b:DOption):zut (Con.con a) (Con.con b)=decide (a.start=b.start∧a.arr=b.arr∧a.cost=b.cost∧a.pas.l=b.pas.l):=by
 unfold zut
 simp only [zkA,POption.mk.injEq,zkp,zup]
theorem zuv (a b:DOption) (h:Hp) (ha:Enc.ok h a) (hb:Enc.ok h b):Ct jV 24 [a.v,b.v] h fun v h'=>v=.bool (zut (Con.con a) (Con.con b))∧h'=h:=by
 rw [zuu]
 refine zdn (fun A W=>by simp) Try.func24 rfl rfl (by simp) fun W0=>?_
 repeat' first|refine Wa ?_|refine zhF (fun _=>zus _ _ _ ha.2.2.2 hb.2.2.2) ?_|(simp (maxSteps:=2000000) only [go_sem,jq,jj,jy,jv,jk,jx];try rfl)|refine Wb ?_|fail
 congr 1
 rw [Bool.eq_iff_iff]
 simp only [jJ,beq_iff_eq,decide_eq_true_eq,and_assoc]
theorem w64 (n:Int):IntKind.i64.wrap n=(n+9223372036854775808) % 18446744073709551616 - 9223372036854775808:=by rw [IntKind.wrap_i64]
def zuw (a b:POption):Int:=if a=b then 0 else IntKind.i64.wrap (60+(max a.start b.start - min a.start b.start))
theorem zux (a b:DOption):zuw (Con.con a) (Con.con b)=if zut (Con.con a) (Con.con b)=true then 0 else IntKind.i64.wrap (60+(max a.start b.start - min a.start b.start)):=by
 unfold zuw zut
 simp only [decide_eq_true_eq]
 rfl
theorem zuy (a b:DOption) (h:Hp) (ha:Enc.ok h a) (hb:Enc.ok h b):Ct jV 25 [a.v,b.v] h fun v h'=>v=.int .i64 (zuw (Con.con a) (Con.con b))∧h'=h:=by
 rw [zux]
 refine zdn (fun A W=>by simp) Try.func25 rfl rfl (by simp) fun W0=>?_
 repeat' first|refine Wa ?_|refine zhF (fun _=>zuv _ _ _ ha hb) ?_|(simp only [go_sem,jq,jj,jy,jv,jk,jx];try rfl)|refine Wb ?_|fail
 refine zc9 rfl (fun hc=>?_) (fun hc=>?_)
 ·refine Wk ?_
  rw [if_pos hc]
 ·refine Wk ?_
  rw [if_neg (by simp [hc])]
  congr 1
  simp only [w64]
  omega
theorem zuz {α β:Type} (f:β→α→β) (b:β) {l:List α} {k:Nat} (hk:k < l.length):(l.take (k+1)).foldl f b=f ((l.take k).foldl f b) l[k]:=by
 rw [List.take_succ_eq_append_getElem hk,List.foldl_append];rfl
def zuA (l:List Int):Nat→Int
 | 0=>-1
 | k+1=>if zuA l k < 0∨l.getD k 0 < l.getD (zuA l k).toNat 0 then k else zuA l k
theorem zuB (l:List Int):∀ k,(k=0∧zuA l k=-1)∨(0≤zuA l k∧zuA l k < k)
 | 0=>.inl ⟨rfl,rfl⟩
 | k+1=>by
  right
  simp only [zuA]
  rcases zuB l k with ⟨rfl,h⟩|h
  ·rw [h];simp
  ·split <;> omega
def zuC (l:List POption):Int:=zuA (l.map (·.cost)) l.length
theorem zuD (s:Sl DOption):zuC (Con.con s)=zuA (s.l.map (·.cost)) s.l.length:=by rw [zkq,zuC,List.map_map,List.length_map];rfl
theorem zuE {l:List DOption} {k:Nat} (hk:k < l.length):(l.map (·.cost)).getD k 0=l[k].cost:=by simp [List.getD_eq_getElem?_getD,hk]
theorem zuF (a:Sl DOption) (h:Hp) (ha:a.Ok h):Ct jV 30 [a.val] h fun v h'=>v=.int .i64 (zuC (Con.con a))∧h'=h:=by
 have hl:=ha.max
 rw [zuD]
 refine zdn (fun A W=>by simp) Try.func30 rfl rfl (by simp) fun W0=>?_
 refine Wk ?_
 refine zde (ι:=Nat) (fun k=>⟨[(0,true,.c (.v a.val)),(3,true,.c (.v (.int .i64 (zuA (a.l.map (·.cost)) k)))),(6,true,.c (.v a.val)),(7,true,.c (.v (.int .i64 a.l.length))),(8,true,.c (.v (.int .i64 k)))],[],h,0⟩) (fun k=>k≤a.l.length) (fun k=>a.l.length - k) 0 (Nat.zero_le _) ?_ ?_
 ·refine Evs ?_
  exact ⟨rfl,rfl⟩
 intro k hk
 refine Wk ?_
 refine zc9 rfl (fun hd=>?_) (fun hd=>?_)
 ·have hlt:=zjH hd
  repeat' first|refine Wa ?_|(simp only [go_sem,jq,jj,jy,jv,jk,jx,zkC ha hlt,ha.some hlt,hlt,jW];try rfl)|refine Wb ?_|fail
  have hstep:zuA (a.l.map (·.cost)) (k+1)=if zuA (a.l.map (·.cost)) k < 0∨(a.l.map (·.cost)).getD k 0 < (a.l.map (·.cost)).getD (zuA (a.l.map (·.cost)) k).toNat 0 then (k:Int) else zuA (a.l.map (·.cost)) k:=rfl
  rcases zuB (a.l.map (·.cost)) k with ⟨h0,hB⟩|⟨h0,hB⟩
  ·rw [hB] at hstep ⊢
   refine zi8 rfl (by kernel_rfl) ?_
   simp only [go_sem,jq,jj,jy,jv,jk,jx,Int.reduceNeg,Int.reduceLT,decide_true,Bool.not_true,Bool.false_eq_true,reduceCtorEq,false_implies,Bool.true_or]
   refine zc9 rfl (fun hq=>?_) (fun hq=>?_)
   ·refine Wk ?_
    exact ⟨k+1,hlt,by omega,zjB (by rw [hstep];simp),zjB (zjA hlt (by omega))⟩
   ·cases hq
  ·have hb:(zuA (a.l.map (·.cost)) k).toNat < a.l.length:=by omega
   have hnn:decide (zuA (a.l.map (·.cost)) k < 0)=false:=decide_eq_false (by omega)
   rw [zuE hlt,zuE hb] at hstep
   generalize zuA (a.l.map (·.cost)) k=B at *
   refine zi8 rfl (by kernel_rfl) ?_
   simp only [go_sem,jq,jj,jy,jv,jk,jx,hnn,h0,hb,zlP ha hb,ha.some hb,Bool.not_false,Bool.false_or]
   refine ⟨fun _=>by omega,?_⟩
   refine zc9 rfl (fun hq=>?_) (fun hq=>?_)
   ·refine Wk ?_
    exact ⟨k+1,hlt,by omega,zjB (by rw [hstep,if_pos (((jQ _ _).mp hq).elim (fun e=>.inl (of_decide_eq_true e)) (fun e=>.inr (of_decide_eq_true e)))]),zjB (zjA hlt (by omega))⟩
   ·refine Wk ?_
    exact ⟨k+1,hlt,by omega,zjB (by rw [hstep,if_neg (fun e=>e.elim (by omega) (of_decide_eq_false (Bool.or_eq_false_iff.1 hq).2))]),zjB (zjA hlt (by omega))⟩
 ·have hge:=zjI hd
  refine Wk ?_
  rw [Nat.le_antisymm hk hge]
def In (n lo hi:Int):Bool:=decide (lo≤n) && decide (n≤hi)
def zuG (n:Int):Bool:=In n 4 2880 && (Int.tmod n 4 == 0)
theorem zuH (n:Int) (h:Hp):Ct jV 123 [.int .i64 n] h fun v h'=>v=.bool (zuG n)∧h'=h:=by
 refine zdn (fun A W=>by simp) Try.func123 rfl rfl (by simp) fun W0=>?_
 repeat' first|refine Wa ?_|refine zhF (fun _=>zum _ _ _ _) ?_|(simp only [go_sem,jq,jj,jy,jv,jk,jx];try rfl)|refine Wb ?_|fail
 refine ⟨fun _ _=>by decide,?_⟩
 exact Wk0
def zuI (p:DPart):Bool:=In p.amp 0 1000 && zuG p.period && In p.phase 0 (p.period - 1)
theorem zuJ (p:DPart) (h:Hp) (hp:Enc.ok h p):Ct jV 114 [p.v] h fun v h'=>v=.bool (zuI p)∧h'=h:=by
 have hw:=w64 (p.period - 1)
 refine zdn (fun A W=>by simp) Try.func114 rfl rfl (by simp) fun W0=>?_
 repeat' first|refine Wa ?_|refine zhF (fun _=>zum _ _ _ _) ?_|refine zhF (fun _=>zuH _ _) ?_|(simp only [go_sem,jq,jj,jy,jv,jk,jx];try rfl)|refine Wb ?_|fail
 congr 1;rw [Bool.eq_iff_iff];simp only [zuI,zuG,In,jJ,jQ,Bool.not_eq_true',decide_eq_true_eq,decide_eq_false_iff_not,beq_iff_eq,and_assoc]
 rw [hw]
 constructor <;> intro h <;> omega
def zuK (s:DSurge):Bool:=In s.src 0 2880 && In s.low (-500) 500 && In s.high s.low 500
theorem zuL (p:DSurge) (h:Hp):Ct jV 95 [p.v] h fun v h'=>v=.bool (zuK p)∧h'=h:=by
 refine zdn (fun A W=>by simp) Try.func95 rfl rfl (by simp) fun W0=>?_
 repeat' first|refine Wa ?_|refine zhF (fun _=>zun _ _) ?_|(simp only [go_sem,jq,jj,jy,jv,jk,jx];try rfl)|refine Wb ?_|fail
 congr 1;rw [Bool.eq_iff_iff];simp only [zuK,In,jJ,jQ,Bool.not_eq_true',decide_eq_true_eq,decide_eq_false_iff_not,beq_iff_eq,and_assoc]
 omega
def zuM (s:ByteArray) (k:Nat):Bool:=!(decide (97≤zms s k) && decide (zms s k≤122)) && (decide ((k:Int)=0) || decide (zms s k < 48) || decide (57 < zms s k))
def zuN (s:ByteArray):Bool:=decide (∀ i,i < s.size→zuM s i=false) && In s.size 1 8
theorem zuO (s:ByteArray) (h:Hp) (hs:zks s):Ct jV 50 [.string s] h fun v h'=>v=.bool (zuN s)∧h'=h:=by
 have hmax:s.size≤9223372036854775807:=hs
 refine zdn (fun A W=>by simp) Try.func50 rfl rfl (by simp) fun W0=>?_
 repeat' first|refine Wa ?_|refine zhF (fun _=>zum _ _ _ _) ?_|(simp only [go_sem,jq,jj,jy,jv,jk,jx];try rfl)|refine Wb ?_|fail
 refine zc9 rfl (fun hc=>?_) (fun hc=>?_)
 ·refine Wk ?_
  rw [Bool.not_eq_true'] at hc
  rw [zuN,In,hc,Bool.and_false]
 rw [Bool.not_eq_false'] at hc
 refine Wk ?_
 refine zde (ι:=Nat) (fun k=>⟨[(0,true,.c (.v (.string s))),(3,true,.c (.v (.int .i64 k)))],[],h,0⟩) (fun k=>k≤s.size∧∀ i,i < k→zuM s i=false) (fun k=>s.size - k) 0 ⟨Nat.zero_le _,fun i hi=>absurd hi (Nat.not_lt_zero _)⟩ ?_ ?_
 ·refine Evs ?_
  exact Gk
 intro k hk
 refine Wk ?_
 refine zc9 rfl (fun hd=>?_) (fun hd=>?_)
 ·have hlt:=zjH hd
  repeat' first|refine Wa ?_|(simp only [go_sem,jq,jj,jy,jv,jk,jx,hlt,jW];try rfl)|refine Wb ?_|fail
  refine zc9 rfl (fun hq=>?_) (fun hq=>?_)
  ·refine Wk ?_
   have:zuN s=false:=by
    rw [zuN,decide_eq_false (fun e=>?_),Bool.false_and]
    have:=e k hlt
    rw [show zuM s k=true from hq] at this
    cases this
   rw [this]
  ·refine Wk ?_
   refine ⟨k+1,⟨hlt,fun i hi=>?_⟩,by omega,zjB (zjA hlt (by omega))⟩
   rcases Nat.lt_succ_iff_lt_or_eq.1 hi with hi|rfl
   ·exact hk.2 i hi
   ·exact hq
 ·have hge:=zjI hd
  refine Wk ?_
  have:decide (∀ i,i < s.size→zuM s i=false)=true:=decide_eq_true (fun i hi=>hk.2 i (by omega))
  rw [zuN,this,Bool.true_and,In,hc]
def zuP {α:Type} (p:α→Bool) (l:List α):Int:=match l.findIdx? p with|some i=>i|none=>-1
theorem zuQ {α:Type} {p:α→Bool} {l:List α} {k:Nat} (hk:k < l.length) (h:p l[k]=true) (hp:∀ i (hi:i < l.length),i < k→p l[i]=false):zuP p l=k:=by
 have:l.findIdx? p=some k:=by
  rw [List.findIdx?_eq_some_iff_getElem]
  exact ⟨hk,h,fun j hj=>by rw [hp j (by omega) hj];exact Bool.false_ne_true⟩
 rw [zuP,this]
theorem zuR {α:Type} {p:α→Bool} {l:List α} (hp:∀ i (hi:i < l.length),p l[i]=false):zuP p l=-1:=by
 have:l.findIdx? p=none:=by
  rw [List.findIdx?_eq_none_iff]
  intro x hx
  obtain ⟨i,hi,rfl⟩:=List.getElem_of_mem hx
  exact hp i hi
 rw [zuP,this]
def zuS (t:PTide):Bool:=In t.mean (-1000) 1000 && decide (t.parts.length≤4) && t.parts.all zuI
theorem zuT (s:Sl DPart):Con.con s=s.l:=List.map_id _
theorem zuU {α:Type} {p:α→Bool} {l:List α} {k:Nat} (hk:k < l.length) (h:p l[k]=false):l.all p=false:=List.all_eq_false.2 ⟨l[k],List.getElem_mem hk,by rw [h];exact Bool.false_ne_true⟩
theorem zuV {α:Type} {p:α→Bool} {l:List α} {k:Nat} (hk:k < l.length) (hp:(l.take k).all p=true) (h:p l[k]=true):(l.take (k+1)).all p=true:=by
 rw [List.take_succ_eq_append_getElem hk,List.all_append,hp];simp [h]
theorem zuW (t:DTide) (h:Hp) (ht:Enc.ok h t):Ct jV 94 [t.v] h fun v h'=>v=.bool (zuS (Con.con t))∧h'=h:=by
 have hp:=ht.2
 have hl:=hp.max
 rw [zuS,show (Con.con t).mean=t.mean from rfl,show (Con.con t).parts=t.parts.l from zuT _]
 refine zdn (fun A W=>by simp) Try.func94 rfl rfl (by simp) fun W0=>?_
 repeat' first|refine Wa ?_|refine zhF (fun _=>zum _ _ _ _) ?_|(simp only [go_sem,jq,jj,jy,jv,jk,jx];try rfl)|refine Wb ?_|fail
 refine zc9 rfl (fun hc=>?_) (fun hc=>?_)
 ·refine Wk ?_
  congr 1
  rw [jQ] at hc
  rcases hc with hc|hc
  ·rw [Bool.not_eq_true'] at hc
   rw [In,hc];rfl
  ·rw [decide_eq_false (by have:=of_decide_eq_true hc;omega),Bool.and_false,Bool.false_and]
 obtain ⟨hc1,hc2⟩:=Bool.or_eq_false_iff.1 hc
 rw [Bool.not_eq_false'] at hc1
 have hc2:=of_decide_eq_false hc2
 refine Wk ?_
 refine zde (ι:=Nat) (fun k=>⟨[(16,true,.c (.v t.parts.val)),(17,true,.c (.v (.int .i64 t.parts.l.length))),(18,true,.c (.v (.int .i64 k)))],[],h,0⟩) (fun k=>k≤t.parts.l.length∧(t.parts.l.take k).all zuI=true) (fun k=>t.parts.l.length - k) 0 ⟨Nat.zero_le _,rfl⟩ ?_ ?_
 ·refine Evs ?_
  exact Gk
 intro k hk
 refine Wk ?_
 refine zc9 rfl (fun hd=>?_) (fun hd=>?_)
 ·have hlt:=zjH hd
  repeat' first|refine Wa ?_|refine zhF (fun _=>zuJ _ _ (hp.el hlt)) ?_|(simp only [go_sem,jq,jj,jy,jv,jk,jx,zkH hp hlt,hp.some hlt,hlt,jW];try rfl)|refine Wb ?_|fail
  refine zc9 rfl (fun hq=>?_) (fun hq=>?_)
  ·rw [Bool.not_eq_true'] at hq
   refine Wk ?_
   rw [zuU hlt hq,Bool.and_false]
  ·rw [Bool.not_eq_false'] at hq
   refine Wk ?_
   exact ⟨k+1,⟨hlt,zuV hlt hk.2 hq⟩,by omega,zjB (zjA hlt (by omega))⟩
 ·have hge:=zjI hd
  refine Wk ?_
  have:=hk.2
  rw [List.take_of_length_le hge] at this
  rw [this,In,hc1,decide_eq_true (show t.parts.l.length≤4 by omega)];rfl
def dS:DSurge:=⟨0,0,0⟩
def zuX (l:List DSurge) (i:Nat):Bool:=zuK (l.getD i dS) && !(decide (0 < (i:Int)) && decide ((l.getD i dS).src≤(l.getD (i - 1) dS).src))
def zuY (f:PForecast):Bool:=zuS f.tide && In (f.surges.length:Int) 1 6 && decide ((f.surges.getD 0 dS).src=0) && decide (∀ i,i < f.surges.length→zuX f.surges i=true)
theorem zuZ (s:Sl DSurge):Con.con s=s.l:=List.map_id _
theorem sget {l:List DSurge} {i:Nat} (hi:i < l.length):l.getD i dS=l[i]:=by simp [List.getD_eq_getElem?_getD,hi]
theorem zu0 (f:DForecast) (h:Hp) (hf:Enc.ok h f):Ct jV 66 [f.v] h fun v h'=>v=.bool (zuY (Con.con f))∧h'=h:=by
 have hp:=hf.2
 have hl:=hp.max
 rw [zuY,show (Con.con f).tide=Con.con f.tide from rfl,show (Con.con f).surges=f.surges.l from zuZ _]
 refine zdn (fun A W=>by simp) Try.func66 rfl rfl (by simp) fun W0=>?_
 by_cases h0:0 < f.surges.l.length
 ·have hs0:=hp.some h0
  have hf0:(0 < (f.surges.l.length:Int))=True:=eq_true (by omega)
  have hs1:=(zlQ hp h0).1
  simp only [go_sem,Nat.zero_mul] at hs1
  repeat' first|refine Wa ?_|refine zhF (fun _=>zuW _ _ hf.1) ?_|refine zhF (fun _=>zum _ _ _ _) ?_|(simp only [go_sem,jq,jj,jy,jv,jk,jx,hf0,hs0,hs1,Int.toNat_zero,Nat.zero_mul,Int.le_refl,implies_true,true_and,and_true];try rfl)|refine Wb ?_|fail
  refine zc9 rfl (fun hc=>?_) (fun hc=>?_)
  ·refine Wk ?_
   congr 1
   simp only [jQ,Bool.not_eq_true'] at hc
   rcases hc with (hc|hc)|hc
   ·rw [hc];rfl
   ·rw [In,hc,Bool.and_false];rfl
   ·rw [sget h0,decide_eq_false (by simpa using hc),Bool.and_false,Bool.false_and]
  simp only [jp,Bool.not_eq_false'] at hc
  obtain ⟨⟨hc1,hc2⟩,hc3⟩:=hc
  have hc3:=zjE hc3
  have hpre:(zuS (Con.con f.tide) && In (f.surges.l.length:Int) 1 6 && decide ((f.surges.l.getD 0 dS).src=0))=true:=by rw [hc1,In,hc2,sget h0,decide_eq_true hc3];rfl
  rw [hpre,Bool.true_and]
  refine Wk ?_
  refine zde (ι:=Nat) (fun k=>⟨[(1,true,.c (.p 0 0)),(25,true,.c (.v f.surges.val)),(26,true,.c (.v (.int .i64 f.surges.l.length))),(27,true,.c (.v (.int .i64 k)))],[(0,.box 28 [.v (.int .i64 f.tide.mean),.v f.tide.parts.val,.v f.surges.val])],h,1⟩) (fun k=>k≤f.surges.l.length∧∀ i,i < k→zuX f.surges.l i=true) (fun k=>f.surges.l.length - k) 0 ⟨Nat.zero_le _,fun i hi=>absurd hi (Nat.not_lt_zero _)⟩ ?_ ?_
  ·refine Evs ?_
   exact Gk
  intro k hk
  refine Wk ?_
  refine zc9 rfl (fun hd=>?_) (fun hd=>?_)
  ·have hlt:=zjH hd
   have fin:∀ b:Bool,b=zuX f.surges.l k→(b=false→decide (∀ i,i < f.surges.l.length→zuX f.surges.l i=true)=false)∧(b=true→∀ i,i < k+1→zuX f.surges.l i=true):=by
    rintro b rfl
    refine ⟨fun e=>decide_eq_false fun hh=>(by rw [hh k hlt] at e;cases e),fun e i hi=>?_⟩
    rcases Nat.lt_succ_iff_lt_or_eq.1 hi with hi|rfl
    ·exact hk.2 i hi
    ·exact e
   have hsg:=sget hlt
   rcases Nat.eq_zero_or_pos k with hz|hz
   ·have hfk:(0 < (k:Int))=False:=eq_false (by omega)
    repeat' first|refine Wa ?_|(simp only [go_sem,jq,jj,jy,jv,jk,jx,zkM hp hlt,hp.some hlt,hlt,jW];try rfl)|refine Wb ?_|fail
    refine ziV rfl ?_
    refine zi3 [0] rfl (by kernel_rfl) ?_
    refine Evs ?_
    refine ziT [1] (by kernel_rfl) (by kernel_rfl) ?_
    refine Evs ?_
    refine zhF (fun _=>zuL _ _) ?_
    refine Evs ?_
    refine zi3 [2,3,4,5,6,7,8,9,10,11,12,13,14,15,16,17,18] rfl (by kernel_rfl) ?_
    simp only [go_sem,jq,jj,jy,jv,jk,jx,hfk,decide_false,Bool.and_false,Bool.false_and,Bool.or_false,Bool.false_eq_true,false_implies,implies_true,true_and,reduceCtorEq]
    refine ziU (by kernel_rfl) ?_
    refine Wk ?_
    refine zc9 rfl (fun hq=>?_) (fun hq=>?_)
    ·refine Wk ?_
     rw [(fin (zuK f.surges.l[k]) (by rw [zuX,hsg];simp only [hfk,decide_false,Bool.false_and,Bool.not_false,Bool.and_true])).1 (by simpa using hq)]
    ·refine Wk ?_
     exact ⟨k+1,⟨hlt,(fin (zuK f.surges.l[k]) (by rw [zuX,hsg];simp only [hfk,decide_false,Bool.false_and,Bool.not_false,Bool.and_true])).2 (by simpa using hq)⟩,by omega,zjB (zjA hlt (by omega))⟩
   ·have hfk:(0 < (k:Int))=True:=eq_true (by omega)
    have hk1:k - 1 < f.surges.l.length:=by omega
    have hw:IntKind.i64.wrap ((k:Int) - 1)=((k - 1:Nat):Int):=by rw [zjz (by omega)];omega
    repeat' first|refine Wa ?_|(simp only [go_sem,jq,jj,jy,jv,jk,jx,zkM hp hlt,hp.some hlt,hlt,jW];try rfl)|refine Wb ?_|fail
    refine ziV rfl ?_
    refine zi3 [0] rfl (by kernel_rfl) ?_
    refine Evs ?_
    refine ziT [1] (by kernel_rfl) (by kernel_rfl) ?_
    refine Evs ?_
    refine zhF (fun _=>zuL _ _) ?_
    refine Evs ?_
    refine zi3 [2,3,4,5,6,7,8,9,10,11,12,13,14,15,16,17,18] rfl (by kernel_rfl) ?_
    simp only [go_sem,jq,jj,jy,jv,jk,jx,hfk,hw,zlQ hp hk1,hp.some hk1,hk1,jW,decide_true,and_true,imp_self,implies_true,true_and,Bool.true_and,Bool.and_true]
    refine ziU (by kernel_rfl) ?_
    refine Wk ?_
    refine zc9 rfl (fun hq=>?_) (fun hq=>?_)
    ·refine Wk ?_
     rw [(fin _ rfl).1 ?_]
     rw [zuX,sget hlt,sget hk1]
     rcases (jQ _ _).mp hq with h1|h1
     ·rw [Bool.not_eq_true'] at h1
      rw [h1];rfl
     ·rw [decide_eq_true (show 0 < (k:Int) by omega),decide_eq_true (of_decide_eq_true h1),Bool.and_self,Bool.not_true,Bool.and_false]
    ·refine Wk ?_
     refine ⟨k+1,⟨hlt,(fin _ rfl).2 ?_⟩,by omega,zjB (zjA hlt (by omega))⟩
     rw [zuX,sget hlt,sget hk1]
     obtain ⟨h1,h2⟩:=Bool.or_eq_false_iff.1 hq
     rw [Bool.not_eq_false'] at h1
     rw [h1,decide_eq_false (of_decide_eq_false h2),Bool.and_false];rfl
  ·have hge:=zjI hd
   refine Wk ?_
   exact zjG (fun i hi=>hk.2 i (by omega))
 ·have h1f:(1≤(f.surges.l.length:Int))=False:=eq_false (by omega)
  repeat' first|refine Wa ?_|refine zhF (fun _=>zuW _ _ hf.1) ?_|refine zhF (fun _=>zum _ _ _ _) ?_|(simp only [go_sem,jq,jj,jy,jv,jk,jx,h1f,decide_false,Bool.false_and,Bool.not_false,Bool.or_true,reduceCtorEq,false_implies,true_and];try rfl)|refine Wb ?_|fail
  refine zc9 rfl (fun hc=>?_) (fun hc=>?_)
  ·refine Wk ?_
   congr 1
   simp only [In,h1f,decide_false,Bool.false_and,Bool.and_false]
  ·simp at hc
def dP:DPoint:=⟨ByteArray.empty,false⟩
def dG:DSegment:=⟨0,0,0,0,false⟩
theorem pget {l:List DPoint} {i:Nat} (hi:i < l.length):l.getD i dP=l[i]:=by simp [List.getD_eq_getElem?_getD,hi]
theorem gget {l:List DSegment} {i:Nat} (hi:i < l.length):l.getD i dG=l[i]:=by simp [List.getD_eq_getElem?_getD,hi]
def zu1 (l:List DPoint) (n:ByteArray):Int:=zuP (fun p=>decide (p.name=n)) l
theorem zu2 (s:Sl DPoint):Con.con s=s.l:=List.map_id _
theorem zu3 (s:Sl DSegment):Con.con s=s.l:=List.map_id _
theorem zu4 (s:Sl DShip):Con.con s=s.l:=List.map_id _
def zu5 (s:DSegment) (a b:Int):Bool:=decide (s.a=a) && decide (s.b=b) || decide (s.a=b) && decide (s.b=a)
theorem zu6 (s:DSegment) (a b:Int) (h:Hp):Ct jV 91 [s.v,.int .i64 a,.int .i64 b] h fun v h'=>v=.bool (zu5 s a b)∧h'=h:=by
 refine zdn (fun A W=>by simp) Try.func91 rfl rfl (by simp) fun W0=>?_
 exact Wk0
def ptOk (l:List DPoint) (i:Nat):Bool:=zuN (l.getD i dP).name && decide (zu1 l (l.getD i dP).name=(i:Int))
def zu7 (n:Nat) (s:DSegment):Bool:=decide (0≤s.a∧s.a < n∧0≤s.b∧s.b < n∧s.a ≠ s.b∧0≤s.depth∧s.depth≤3000∧1≤s.minutes∧s.minutes≤240)
def zu8 (l:List DSegment) (i:Nat):Bool:=decide (∀ j,j < i→zu5 (l.getD j dG) (l.getD i dG).a (l.getD i dG).b=false)
def zu9 (n:Nat) (l:List DSegment) (i:Nat):Bool:=zu7 n (l.getD i dG) && zu8 l i
def zva (c:PChart):Bool:=decide (c.points.length≤8) && decide (c.segments.length≤10) && decide (∀ i,i < c.points.length→ptOk c.points i=true) && decide (∀ i,i < c.segments.length→zu9 c.points.length c.segments i=true)
theorem zvb (c:DChart):zva (Con.con c)=(decide (c.points.l.length≤8) && decide (c.segments.l.length≤10) && decide (∀ i,i < c.points.l.length→ptOk c.points.l i=true) && decide (∀ i,i < c.segments.l.length→zu9 c.points.l.length c.segments.l i=true)):=by
 rw [zva,show (Con.con c).points=c.points.l from zu2 _,show (Con.con c).segments=c.segments.l from zu3 _]
theorem zvc {p:Nat→Bool} {n k:Nat} (hk:k < n) (h:p k=false):decide (∀ i,i < n→p i=true)=false:=decide_eq_false fun hh=>by rw [hh k hk] at h;cases h
theorem zvd {p:Nat→Bool} {k:Nat} (hp:∀ i,i < k→p i=true) (h:p k=true):∀ i,i < k+1→p i=true:=fun i hi=>by
 rcases Nat.lt_succ_iff_lt_or_eq.1 hi with hi|rfl
 ·exact hp i hi
 ·exact h
theorem zve {p:Nat→Bool} {n k:Nat} (hk:n≤k) (hp:∀ i,i < k→p i=true):decide (∀ i,i < n→p i=true)=true:=decide_eq_true fun i hi=>hp i (by omega)
theorem zvf {p:Nat→Bool}:∀ i,i < 0→p i=true:=fun i hi=>absurd hi (Nat.not_lt_zero _)
theorem zvg (c:DChart) (n:ByteArray) (h:Hp) (hc:Enc.ok h c):Ct jV 90 [c.v,.string n] h fun v h'=>v=.int .i64 (zu1 c.points.l n)∧h'=h:=by
 have hp:=hc.1
 have hl:=hp.max
 refine zdn (fun A W=>by simp) Try.func90 rfl rfl (by simp) fun W0=>?_
 refine Wk ?_
 refine zde (ι:=Nat) (fun k=>⟨[(1,true,.c (.v (.string n))),(8,true,.c (.v c.points.val)),(9,true,.c (.v (.int .i64 c.points.l.length))),(10,true,.c (.v (.int .i64 k)))],[],h,1⟩) (fun k=>k≤c.points.l.length∧∀ i (hi:i < c.points.l.length),i < k→(decide (c.points.l[i].name=n))=false) (fun k=>c.points.l.length - k) 0 ⟨Nat.zero_le _,fun i _ hi=>absurd hi (Nat.not_lt_zero _)⟩ ?_ ?_
 ·refine Evs ?_
  exact Gk
 intro k hk
 refine Wk ?_
 refine zc9 rfl (fun hd=>?_) (fun hd=>?_)
 ·have hlt:=zjH hd
  repeat' first|refine Wa ?_|(simp (maxSteps:=2000000) only [go_sem,jq,jj,jy,jv,jk,jx,zkS hp hlt,hp.some hlt,hlt,jW];try rfl)|refine Wb ?_|fail
  refine zc9 rfl (fun hq=>?_) (fun hq=>?_)
  ·refine Wk ?_
   rw [zu1,zuQ hlt hq hk.2]
  ·refine Wk ?_
   refine ⟨k+1,⟨hlt,fun i hi hik=>?_⟩,by omega,zjB (zjA hlt (by omega))⟩
   rcases Nat.lt_succ_iff_lt_or_eq.1 hik with hik|rfl
   ·exact hk.2 i hi hik
   ·exact hq
 ·have hge:=zjI hd
  refine Wk ?_
  rw [zu1,zuR (fun i hi=>hk.2 i hi (by omega))]
theorem zvh (c:DChart) (h:Hp) (hc:Enc.ok h c):Ct jV 58 [c.v] h fun v h'=>v=.bool (zva (Con.con c))∧h'=h:=by
 have hp:=hc.1
 have hg:=hc.2
 have hl:=hp.max
 have hl2:=hg.max
 have hw:IntKind.i64.wrap ((c.points.l.length:Int) - 1)=(c.points.l.length:Int) - 1:=zjz (by omega)
 rw [zvb]
 refine zdn (fun A W=>by simp) Try.func58 rfl rfl (by simp) fun W0=>?_
 refine Wk ?_
 refine zc9 rfl (fun hc1=>?_) (fun hc1=>?_)
 ·refine Wk ?_
  congr 1
  rcases (jQ _ _).mp hc1 with h1|h1
  ·rw [decide_eq_false (by have:=of_decide_eq_true h1;omega)];rfl
  ·rw [decide_eq_false (p:=c.segments.l.length≤10) (by have:=of_decide_eq_true h1;omega),Bool.and_false];rfl
 obtain ⟨hc2,hc3⟩:=Bool.or_eq_false_iff.1 hc1
 have hc2:=of_decide_eq_false hc2
 have hc3:=of_decide_eq_false hc3
 rw [decide_eq_true (show c.points.l.length≤8 by omega),decide_eq_true (show c.segments.l.length≤10 by omega),Bool.and_self,Bool.true_and]
 refine Wk ?_
 refine zde (ι:=Nat) (fun k=>⟨[(1,true,.c (.p 0 0)),(20,true,.c (.v c.points.val)),(21,true,.c (.v (.int .i64 c.points.l.length))),(22,true,.c (.v (.int .i64 k)))],[(0,.box 32 [.v c.points.val,.v c.segments.val])],h,1⟩) (fun k=>k≤c.points.l.length∧∀ i,i < k→ptOk c.points.l i=true) (fun k=>c.points.l.length - k) 0 ⟨Nat.zero_le _,zvf⟩ ?_ ?_
 ·refine Evs ?_
  exact Gk
 ·intro k hk
  refine Wk ?_
  refine zc9 rfl (fun hd=>?_) (fun hd=>?_)
  ·have hlt:=zjH hd
   repeat' first|refine Wa ?_|refine zhF (fun _=>zuO _ _ (hp.el hlt)) ?_|refine zhF (fun _=>zvg c _ _ hc) ?_|(simp (maxSteps:=2000000) only [go_sem,jq,jj,jy,jv,jk,jx,zkS hp hlt,hp.some hlt,hlt,jW];try rfl)|refine Wb ?_|fail
   refine zc9 rfl (fun hq=>?_) (fun hq=>?_)
   ·refine Wk ?_
    rw [zvc hlt ?_];rfl
    rw [ptOk,pget hlt]
    rcases (jQ _ _).mp hq with h1|h1
    ·rw [Bool.not_eq_true'] at h1;rw [h1];rfl
    ·rw [decide_eq_false (zjD h1),Bool.and_false]
   ·obtain ⟨h1,h2⟩:=Bool.or_eq_false_iff.1 hq
    rw [Bool.not_eq_false'] at h1
    refine Wk ?_
    exact ⟨k+1,⟨hlt,zvd hk.2 (by rw [ptOk,pget hlt,h1,decide_eq_true (zjE h2)];rfl)⟩,by omega,zjB (zjA hlt (by omega))⟩
  ·have hge:=zjI hd
   rw [zve hge hk.2,Bool.true_and]
   refine Wk ?_
   refine zde (ι:=Nat) (fun k=>⟨[(1,true,.c (.p 0 0)),(41,true,.c (.v c.segments.val)),(42,true,.c (.v (.int .i64 c.segments.l.length))),(43,true,.c (.v (.int .i64 k)))],[(0,.box 32 [.v c.points.val,.v c.segments.val])],h,1⟩) (fun k=>k≤c.segments.l.length∧∀ i,i < k→zu9 c.points.l.length c.segments.l i=true) (fun k=>c.segments.l.length - k) 0 ⟨Nat.zero_le _,zvf⟩ ?_ ?_
   ·refine Evs ?_
    exact Gk
   intro k hk
   refine Wk ?_
   refine zc9 rfl (fun hd=>?_) (fun hd=>?_)
   ·have hlt:=zjH hd
    repeat' first|refine Wa ?_|refine zhF (fun _=>zuo _ _ _) ?_|refine zhF (fun _=>zum _ _ _ _) ?_|(simp (maxSteps:=2000000) only [go_sem,jq,jj,jy,jv,jk,jx,zkU hg hlt,hg.some hlt,hlt,jW];try rfl)|refine Wb ?_|fail
    refine zc9 rfl (fun hq=>?_) (fun hq=>?_)
    ·refine Wk ?_
     rw [zvc hlt ?_]
     rw [zu9,gget hlt,zu7,decide_eq_false ?_,Bool.false_and]
     simp only [jQ,Bool.not_eq_true',Bool.and_eq_false_iff,decide_eq_false_iff_not,beq_iff_eq] at hq
     omega
    ·have hin:zu7 c.points.l.length c.segments.l[k]=true:=by
      simp only [jp,Bool.not_eq_false',jJ,decide_eq_true_eq,beq_eq_false_iff_ne] at hq
      rw [zu7]
      refine decide_eq_true ?_
      omega
     have hgo:=Sl.to_ok hg k
     have hlt0:=Sl.to_len hk.1
     have hcap:=hg.1
     refine Wk ?_
     refine ⟨by omega,?_⟩
     simp only [Int.toNat_zero,Nat.sub_zero,Nat.zero_mul,zmA,zmB,ite_self]
     rw [zmC hk.1]
     refine Wk ?_
     refine zde (ι:=Nat) (fun j=>⟨[(1,true,.c (.p 0 0)),(6,true,.c (.p 1 0)),(41,true,.c (.v c.segments.val)),(42,true,.c (.v (.int .i64 c.segments.l.length))),(43,true,.c (.v (.int .i64 k))),(86,true,.c (.v (c.segments.to k).val)),(87,true,.c (.v (.int .i64 k))),(88,true,.c (.v (.int .i64 j)))],[(0,.box 32 [.v c.points.val,.v c.segments.val]),(1,.box 118 [.v (.int .i64 c.segments.l[k].a),.v (.int .i64 c.segments.l[k].b),.v (.int .i64 c.segments.l[k].depth),.v (.int .i64 c.segments.l[k].minutes),.v (.bool c.segments.l[k].meet)])],h,2⟩) (fun j=>j≤k∧∀ i,i < j→zu5 (c.segments.l.getD i dG) c.segments.l[k].a c.segments.l[k].b=false) (fun j=>k - j) 0 ⟨Nat.zero_le _,fun i hi=>absurd hi (Nat.not_lt_zero _)⟩ ?_ ?_
     ·refine Evs ?_
      exact Gk
     intro j hj
     refine Wk ?_
     refine zc9 rfl (fun hq2=>?_) (fun hq2=>?_)
     ·have hltj:=zjH hq2
      have hltj':j < (c.segments.to k).l.length:=by omega
      have hltj2:j < c.segments.l.length:=by omega
      have hje:=Sl.to_get hltj' hltj2
      repeat' first|refine Wa ?_|refine zhF (fun _=>zu6 _ _ _ _) ?_|(simp (maxSteps:=2000000) only [go_sem,jq,jj,jy,jv,jk,jx,zkU hgo hltj',hgo.some hltj',hltj',hltj,jW,hje];try rfl)|refine Wb ?_|fail
      refine zc9 rfl (fun hq3=>?_) (fun hq3=>?_)
      ·refine Wk ?_
       rw [zvc hlt ?_]
       rw [zu9,gget hlt,hin,Bool.true_and,zu8]
       refine decide_eq_false fun hh=>?_
       have:=hh j hltj
       rw [gget hltj2,gget hlt,hq3] at this
       cases this
      ·refine Wk ?_
       exact ⟨j+1,⟨hltj,fun i hi=>by
        rcases Nat.lt_succ_iff_lt_or_eq.1 hi with hi|rfl
        ·exact hj.2 i hi
        ·rw [gget hltj2];exact hq3⟩,by omega,zjB (zjA hltj (by omega))⟩
     ·have hgej:=zjI hq2
      refine Wk ?_
      refine ⟨k+1,⟨hlt,zvd hk.2 ?_⟩,by omega,zjB (zjA hlt (by omega))⟩
      rw [zu9,gget hlt,hin,Bool.true_and,zu8]
      refine decide_eq_true fun i hi=>?_
      rw [gget hlt];exact hj.2 i (by omega)
   ·have hge:=zjI hd
    refine Wk ?_
    rw [zve hge hk.2]
def dH:DShip:=⟨ByteArray.empty,0,0,0,0,false⟩
theorem hget {l:List DShip} {i:Nat} (hi:i < l.length):l.getD i dH=l[i]:=by simp [List.getD_eq_getElem?_getD,hi]
def zvi (l:List DShip) (n:ByteArray):Int:=zuP (fun p=>decide (p.name=n)) l
def zvj (s:DShip):Bool:=zuN s.name && In s.length 10 400 && In s.draught 100 2000 && In s.line 0 3 && In s.tugs 0 4
def shOk (l:List DShip) (i:Nat):Bool:=zvj (l.getD i dH) && decide (zvi l (l.getD i dH).name=(i:Int))
def zvk (l:List DShip):Bool:=decide (l.length≤6) && decide (∀ i,i < l.length→shOk l i=true)
def zvl (r:DRegime):Bool:=In r.gap 0 60
def zvm (l:List Int):Bool:=decide (l.length=64) && l.all (fun n=>In n 0 240)
def zvn (w:PCrew):Bool:=In w.tugs 0 12 && In w.pilots 0 12 && (In w.rest 0 2880 && zvm w.moves)
def zvo (x:PHarbour):Bool:=zuY x.forecast && zva x.chart && zvk x.fleet && zvl x.regime && zvn x.crew
theorem zvp (c:Sl DShip) (n:ByteArray) (h:Hp) (hp:c.Ok h):Ct jV 53 [c.val,.string n] h fun v h'=>v=.int .i64 (zvi c.l n)∧h'=h:=by
 have hl:=hp.max
 refine zdn (fun A W=>by simp) Try.func53 rfl rfl (by simp) fun W0=>?_
 refine Wk ?_
 refine zde (ι:=Nat) (fun k=>⟨[(1,true,.c (.v (.string n))),(7,true,.c (.v c.val)),(8,true,.c (.v (.int .i64 c.l.length))),(9,true,.c (.v (.int .i64 k)))],[],h,1⟩) (fun k=>k≤c.l.length∧∀ i (hi:i < c.l.length),i < k→(decide (c.l[i].name=n))=false) (fun k=>c.l.length - k) 0 ⟨Nat.zero_le _,fun i _ hi=>absurd hi (Nat.not_lt_zero _)⟩ ?_ ?_
 ·refine Evs ?_
  exact Gk
 intro k hk
 refine Wk ?_
 refine zc9 rfl (fun hd=>?_) (fun hd=>?_)
 ·have hlt:=zjH hd
  repeat' first|refine Wa ?_|(simp only [go_sem,jq,jj,jy,jv,jk,jx,zk0 hp hlt,hp.some hlt,hlt,jW];try rfl)|refine Wb ?_|fail
  refine zc9 rfl (fun hq=>?_) (fun hq=>?_)
  ·refine Wk ?_
   rw [zvi,zuQ hlt hq hk.2]
  ·refine Wk ?_
   refine ⟨k+1,⟨hlt,fun i hi hik=>?_⟩,by omega,zjB (zjA hlt (by omega))⟩
   rcases Nat.lt_succ_iff_lt_or_eq.1 hik with hik|rfl
   ·exact hk.2 i hi hik
   ·exact hq
 ·have hge:=zjI hd
  refine Wk ?_
  rw [zvi,zuR (fun i hi=>hk.2 i hi (by omega))]
theorem zvq (s:DShip) (h:Hp) (hs:Enc.ok h s):Ct jV 13 [s.v] h fun v h'=>v=.bool (zvj s)∧h'=h:=by
 refine zdn (fun A W=>by simp) Try.func13 rfl rfl (by simp) fun W0=>?_
 repeat' first|refine Wa ?_|refine zhF (fun _=>zuO _ _ hs.1) ?_|refine zhF (fun _=>zum _ _ _ _) ?_|refine zhF (fun _=>zuo _ _ _) ?_|(simp only [go_sem,jq,jj,jy,jv,jk,jx];try rfl)|refine Wb ?_|fail
 congr 1;rw [Bool.eq_iff_iff];simp only [zvj,In,jJ,jQ,Bool.not_eq_true',decide_eq_true_eq,decide_eq_false_iff_not,beq_iff_eq,and_assoc]
 constructor <;> intro hh <;> (refine ⟨hh.1,?_⟩;omega)
theorem zvr (c:Sl DShip) (h:Hp) (hp:c.Ok h):Ct jV 14 [c.val] h fun v h'=>v=.bool (zvk c.l)∧h'=h:=by
 have hl:=hp.max
 rw [zvk]
 refine zdn (fun A W=>by simp) Try.func14 rfl rfl (by simp) fun W0=>?_
 refine Wk ?_
 refine zc9 rfl (fun hc=>?_) (fun hc=>?_)
 ·refine Wk ?_
  rw [decide_eq_false (by have:=of_decide_eq_true hc;omega)];rfl
 rw [decide_eq_true (show c.l.length≤6 by have:=of_decide_eq_false hc;omega),Bool.true_and]
 refine Wk ?_
 refine zde (ι:=Nat) (fun k=>⟨[(0,true,.c (.v c.val)),(8,true,.c (.v c.val)),(9,true,.c (.v (.int .i64 c.l.length))),(10,true,.c (.v (.int .i64 k)))],[],h,0⟩) (fun k=>k≤c.l.length∧∀ i,i < k→shOk c.l i=true) (fun k=>c.l.length - k) 0 ⟨Nat.zero_le _,zvf⟩ ?_ ?_
 ·refine Evs ?_
  exact Gk
 intro k hk
 refine Wk ?_
 refine zc9 rfl (fun hd=>?_) (fun hd=>?_)
 ·have hlt:=zjH hd
  repeat' first|refine Wa ?_|refine zhF (fun _=>zvq _ _ (hp.el hlt)) ?_|refine zhF (fun _=>zvp c _ _ hp) ?_|(simp only [go_sem,jq,jj,jy,jv,jk,jx,zk0 hp hlt,hp.some hlt,hlt,jW];try rfl)|refine Wb ?_|fail
  refine zc9 rfl (fun hq=>?_) (fun hq=>?_)
  ·refine Wk ?_
   rw [zvc hlt ?_]
   rw [shOk,hget hlt]
   rcases (jQ _ _).mp hq with h1|h1
   ·rw [Bool.not_eq_true'] at h1;rw [h1];rfl
   ·rw [decide_eq_false (zjD h1),Bool.and_false]
  ·obtain ⟨h1,h2⟩:=Bool.or_eq_false_iff.1 hq
   rw [Bool.not_eq_false'] at h1
   refine Wk ?_
   exact ⟨k+1,⟨hlt,zvd hk.2 (by rw [shOk,hget hlt,h1,decide_eq_true (zjE h2)];rfl)⟩,by omega,zjB (zjA hlt (by omega))⟩
 ·have hge:=zjI hd
  refine Wk ?_
  rw [zve hge hk.2]
theorem zvs (s:DRegime) (h:Hp):Ct jV 67 [s.v] h fun v h'=>v=.bool (zvl s)∧h'=h:=by
 refine zdn (fun A W=>by simp) Try.func67 rfl rfl (by simp) fun W0=>?_
 repeat' first|refine Wa ?_|refine zhF (fun _=>zum _ _ _ _) ?_|(simp only [go_sem,jq,jj,jy,jv,jk,jx];try rfl)|refine Wb ?_|fail
theorem zvt {l:List Int} {k:Nat} (hk:k < l.length) (h:In l[k] 0 240=false):zvm l=false:=by rw [zvm,zuU (p:=fun n=>In n 0 240) hk h,Bool.and_false]
theorem zvu {l:List Int} {k:Nat} (h64:l.length=64) (hk:l.length≤k) (hp:(l.take k).all (fun n=>In n 0 240)=true):zvm l=true:=by
 rw [List.take_of_length_le hk] at hp
 rw [zvm,hp,decide_eq_true h64];rfl
theorem zvv (a:Sl Int) (h:Hp) (ha:a.Ok h):Ct jV 79 [a.val] h fun v h'=>v=.bool (zvm a.l)∧h'=h:=by
 have hl:=ha.max
 refine zdn (fun A W=>by simp) Try.func79 rfl rfl (by simp) fun W0=>?_
 refine Wk ?_
 refine zc9 rfl (fun hc=>?_) (fun hc=>?_)
 ·refine Wk ?_
  rw [zvm,decide_eq_false (by have:=zjD hc;omega)];rfl
 have h64:a.l.length=64:=by have:=zjE hc;omega
 refine Wk ?_
 refine zde (ι:=Nat) (fun k=>⟨[(8,true,.c (.v a.val)),(9,true,.c (.v (.int .i64 a.l.length))),(10,true,.c (.v (.int .i64 k)))],[],h,0⟩) (fun k=>k≤a.l.length∧(a.l.take k).all (fun n=>In n 0 240)=true) (fun k=>a.l.length - k) 0 ⟨Nat.zero_le _,rfl⟩ ?_ ?_
 ·refine Evs ?_
  exact Gk
 intro k hk
 refine Wk ?_
 refine zc9 rfl (fun hd=>?_) (fun hd=>?_)
 ·have hlt:=zjH hd
  repeat' first|refine Wa ?_|refine zhF (fun _=>zum _ _ _ _) ?_|(simp only [go_sem,jq,jj,jy,jv,jk,jx,zkv ha hlt,ha.some hlt,hlt,jW];try rfl)|refine Wb ?_|fail
  refine zc9 rfl (fun hq=>?_) (fun hq=>?_)
  ·rw [Bool.not_eq_true'] at hq
   refine Wk ?_
   rw [zvt hlt hq]
  ·rw [Bool.not_eq_false'] at hq
   refine Wk ?_
   exact ⟨k+1,⟨hlt,zuV hlt hk.2 hq⟩,by omega,zjB (zjA hlt (by omega))⟩
 ·have hge:=zjI hd
  refine Wk ?_
  rw [zvu h64 hge hk.2]
theorem zvw (w:DCrew):zvn (Con.con w)=(In w.tugs 0 12 && In w.pilots 0 12 && (In w.rest 0 2880 && zvm w.moves.l)):=by
 rw [zvn,show (Con.con w).moves=w.moves.l from zkr];rfl
theorem zvx (w:DCrew) (h:Hp) (hw:Enc.ok h w):Ct jV 36 [w.v] h fun v h'=>v=.bool (zvn (Con.con w))∧h'=h:=by
 rw [zvw]
 refine zdn (fun A W=>by simp) Try.func36 rfl rfl (by simp) fun W0=>?_
 repeat' first|refine Wa ?_|refine zhF (fun _=>zum _ _ _ _) ?_|refine zhF (fun _=>zun _ _) ?_|refine zhF (fun _=>zvv _ _ hw.2.2.2) ?_|(simp only [go_sem,jq,jj,jy,jv,jk,jx];try rfl)|refine Wb ?_|fail
 congr 1;rw [Bool.eq_iff_iff];simp only [In,jJ,jQ,Bool.not_eq_true',decide_eq_true_eq,decide_eq_false_iff_not,beq_iff_eq,and_assoc]
theorem zvy (x:DHarbour):zvo (Con.con x)=(zuY (Con.con x.forecast) && zva (Con.con x.chart) && zvk x.fleet.l && zvl x.regime && zvn (Con.con x.crew)):=by
 rw [zvo,show (Con.con x).fleet=x.fleet.l from zu4 _];rfl
theorem zvz (x:DHarbour) (h:Hp) (hx:Enc.ok h x):Ct jV 26 [x.v] h fun v h'=>v=.bool (zvo (Con.con x))∧h'=h:=by
 obtain ⟨o1,o2,o3,o4,o5⟩:=hx
 rw [zvy]
 refine zdn (fun A W=>by simp) Try.func26 rfl rfl (by simp) fun W0=>?_
 repeat' first|refine Wa ?_|refine zhF (fun _=>zu0 x.forecast _ o1) ?_|refine zhF (fun _=>zvh x.chart _ o2) ?_|refine zhF (fun _=>zvr _ _ o3) ?_|refine zhF (fun _=>zvs x.regime _) ?_|refine zhF (fun _=>zvx x.crew _ o5) ?_|(simp only [go_sem,jq,jj,jy,jv,jk,jx];try rfl)|refine Wb ?_|fail
def zvA (x:PHarbour) (a:DCall):Bool:=decide (0≤a.ship∧a.ship < x.fleet.length∧0≤a.src∧a.src < x.chart.points.length∧0≤a.dst∧a.dst < x.chart.points.length∧a.src ≠ a.dst∧0≤a.ready∧a.ready≤2880∧a.ready≤a.due∧a.due≤2880)
def zvB (x:PHarbour) (a:DCall):Bool:=zvo x && zvA x a
theorem zvC (x:DHarbour) (a:DCall):zvA (Con.con x) a=decide (0≤a.ship∧a.ship < x.fleet.l.length∧0≤a.src∧a.src < x.chart.points.l.length∧0≤a.dst∧a.dst < x.chart.points.l.length∧a.src ≠ a.dst∧0≤a.ready∧a.ready≤2880∧a.ready≤a.due∧a.due≤2880):=by
 rw [zvA,show (Con.con x).fleet=x.fleet.l from zu4 _,show (Con.con x).chart.points=x.chart.points.l from zu2 _]
theorem zvD (x:DHarbour) (a:DCall) (h:Hp) (hx:Enc.ok h x):Ct jV 56 [x.v,a.v] h fun v h'=>v=.bool (zvA (Con.con x) a)∧h'=h:=by
 rw [zvC]
 refine zdn (fun A W=>by simp) Try.func56 rfl rfl (by simp) fun W0=>?_
 repeat' first|refine Wa ?_|refine zhF (fun _=>zuo _ _ _) ?_|refine zhF (fun _=>zun _ _) ?_|refine zhF (fun _=>zum _ _ _ _) ?_|(simp (maxSteps:=2000000) only [go_sem,jq,jj,jy,jv,jk,jx];try rfl)|refine Wb ?_|fail
 congr 1
 rw [Bool.eq_iff_iff]
 simp only [jJ,decide_eq_true_eq,Bool.not_eq_true',beq_eq_false_iff_ne,bne_iff_ne,ne_eq,and_assoc]
 skip
theorem zvE (x:DHarbour) (a:DCall) (h:Hp) (hx:Enc.ok h x) (ha:Enc.ok h a):Ct jV 16 [x.v,a.v] h fun v h'=>v=.bool (zvB (Con.con x) (Con.con a))∧h'=h:=by
 rw [zvB,show (Con.con a:DCall)=a from rfl]
 refine zdn (fun A W=>by simp) Try.func16 rfl rfl (by simp) fun W0=>?_
 repeat' first|refine Wa ?_|refine zhF (fun _=>zvz x _ hx) ?_|refine zhF (fun _=>zvD x a _ hx) ?_|(simp (maxSteps:=2000000) only [go_sem,jq,jj,jy,jv,jk,jx];try rfl)|refine Wb ?_|fail
end Go.Proofs.Ytdeflkhkfmjckaa
