/- What functions of the given program compute, as contracts. -/
import Derived.Test.YtbkaaakphpbmiaaGreatProg
import Derived.Test.YtbkaaakphpbmiaaGreatSAfterReadingx4
set_option linter.unusedVariables false
set_option linter.unusedSimpArgs false
set_option maxRecDepth 4000
open Nat renaming reduceAdd → jq, reduceMul → jj, reduceBEq → jy, reduceLeDiff → jv, reduceLT → jk, reduceEqDiff → jx
open Bool renaming or_eq_false_iff → jp, or_eq_true → jQ, and_eq_true → jJ
open Int renaming toNat_natCast → jW, natCast_nonneg → jY
open Go.Proofs.Tryz renaming prog → jV
namespace Go.Proofs.YtbkaaakphpbmiaaGreat
open Go Go.SL
@[go_sem] theorem ty_1:hasT jV 1=true∧szT jV 1=1∧Tryz.prog.bytesOf 1=8∧aggT jV 1=false∧zaX jV 1=none∧arrT jV 1=none∧zbF jV 1=some [.nilFunc]:=by and_intros <;> kernel_rfl
@[go_sem] theorem ty_2:hasT jV 2=true∧szT jV 2=1∧Tryz.prog.bytesOf 2=8∧aggT jV 2=false∧zaX jV 2=none∧arrT jV 2=none∧zbF jV 2=some [.int .i64 0]∧intT jV 2=some .i64:=by and_intros <;> kernel_rfl
attribute [go_sem] Tryz.underlying2
@[go_sem] theorem ty_3:hasT jV 3=true∧szT jV 3=1∧Tryz.prog.bytesOf 3=8∧aggT jV 3=false∧zaX jV 3=none∧arrT jV 3=none∧zbF jV 3=some [.int .i64 0]∧intT jV 3=some .i64:=by and_intros <;> kernel_rfl
attribute [go_sem] Tryz.underlying3
@[go_sem] theorem ty_4:hasT jV 4=true∧szT jV 4=1∧Tryz.prog.bytesOf 4=1∧aggT jV 4=false∧zaX jV 4=none∧arrT jV 4=none∧zbF jV 4=some [.bool false]:=by and_intros <;> kernel_rfl
attribute [go_sem] Tryz.underlying4
@[go_sem] theorem ty_5:hasT jV 5=true∧szT jV 5=1∧Tryz.prog.bytesOf 5=1∧aggT jV 5=false∧zaX jV 5=none∧arrT jV 5=none∧zbF jV 5=some [.int .u8 0]∧intT jV 5=some .u8:=by and_intros <;> kernel_rfl
attribute [go_sem] Tryz.underlying5
@[go_sem] theorem ty_9:hasT jV 9=true∧szT jV 9=1∧Tryz.prog.bytesOf 9=16∧aggT jV 9=false∧zaX jV 9=none∧arrT jV 9=none∧zbF jV 9=some [.string ByteArray.empty]∧strT jV 9=true:=by and_intros <;> kernel_rfl
attribute [go_sem] Tryz.underlying9
@[go_sem] theorem zoA:hasT jV 12=true∧szT jV 12=1∧Tryz.prog.bytesOf 12=8∧aggT jV 12=false∧zaX jV 12=none∧arrT jV 12=none∧zbF jV 12=some [.int .u64 0]∧intT jV 12=some .u64:=by and_intros <;> kernel_rfl
attribute [go_sem] Tryz.underlying12
@[go_sem] theorem zoB:hasT jV 22=true∧szT jV 22=1∧Tryz.prog.bytesOf 22=24∧aggT jV 22=false∧zaX jV 22=some 312∧arrT jV 22=none∧zbF jV 22=some [.slice none 0 0]:=by and_intros <;> kernel_rfl
@[go_sem] theorem zoC:hasT jV 23=true∧szT jV 23=2∧Tryz.prog.bytesOf 23=32∧aggT jV 23=true∧zaX jV 23=none∧arrT jV 23=none∧zbF jV 23=some [.int .i64 0,.slice none 0 0]∧zbE jV 23=true:=by and_intros <;> kernel_rfl
@[go_sem] theorem zoD:hasT jV 24=true∧szT jV 24=2∧Tryz.prog.bytesOf 24=32∧aggT jV 24=true∧zaX jV 24=none∧arrT jV 24=none∧zbF jV 24=some [.int .i64 0,.slice none 0 0]∧zbE jV 24=true:=by and_intros <;> kernel_rfl
@[go_sem] theorem zoE:hasT jV 25=true∧szT jV 25=1∧Tryz.prog.bytesOf 25=24∧aggT jV 25=false∧zaX jV 25=some 268∧arrT jV 25=none∧zbF jV 25=some [.slice none 0 0]:=by and_intros <;> kernel_rfl
@[go_sem] theorem zoF:hasT jV 26=true∧szT jV 26=3∧Tryz.prog.bytesOf 26=56∧aggT jV 26=true∧zaX jV 26=none∧arrT jV 26=none∧zbF jV 26=some [.int .i64 0,.slice none 0 0,.slice none 0 0]∧zbE jV 26=true:=by and_intros <;> kernel_rfl
@[go_sem] theorem zoG:hasT jV 27=true∧szT jV 27=3∧Tryz.prog.bytesOf 27=56∧aggT jV 27=true∧zaX jV 27=none∧arrT jV 27=none∧zbF jV 27=some [.int .i64 0,.slice none 0 0,.slice none 0 0]∧zbE jV 27=true:=by and_intros <;> kernel_rfl
@[go_sem] theorem zoH:hasT jV 28=true∧szT jV 28=1∧Tryz.prog.bytesOf 28=24∧aggT jV 28=false∧zaX jV 28=some 265∧arrT jV 28=none∧zbF jV 28=some [.slice none 0 0]:=by and_intros <;> kernel_rfl
@[go_sem] theorem zoI:hasT jV 29=true∧szT jV 29=1∧Tryz.prog.bytesOf 29=24∧aggT jV 29=false∧zaX jV 29=some 271∧arrT jV 29=none∧zbF jV 29=some [.slice none 0 0]:=by and_intros <;> kernel_rfl
@[go_sem] theorem zoJ:hasT jV 30=true∧szT jV 30=2∧Tryz.prog.bytesOf 30=48∧aggT jV 30=true∧zaX jV 30=none∧arrT jV 30=none∧zbF jV 30=some [.slice none 0 0,.slice none 0 0]∧zbE jV 30=true:=by and_intros <;> kernel_rfl
@[go_sem] theorem zoK:hasT jV 31=true∧szT jV 31=2∧Tryz.prog.bytesOf 31=48∧aggT jV 31=true∧zaX jV 31=none∧arrT jV 31=none∧zbF jV 31=some [.slice none 0 0,.slice none 0 0]∧zbE jV 31=true:=by and_intros <;> kernel_rfl
@[go_sem] theorem zoL:hasT jV 32=true∧szT jV 32=1∧Tryz.prog.bytesOf 32=24∧aggT jV 32=false∧zaX jV 32=some 197∧arrT jV 32=none∧zbF jV 32=some [.slice none 0 0]:=by and_intros <;> kernel_rfl
@[go_sem] theorem zoM:hasT jV 33=true∧szT jV 33=2∧Tryz.prog.bytesOf 33=16∧aggT jV 33=true∧zaX jV 33=none∧arrT jV 33=none∧zbF jV 33=some [.int .i64 0,.bool false]∧zbE jV 33=true:=by and_intros <;> kernel_rfl
@[go_sem] theorem zoN:hasT jV 34=true∧szT jV 34=2∧Tryz.prog.bytesOf 34=16∧aggT jV 34=true∧zaX jV 34=none∧arrT jV 34=none∧zbF jV 34=some [.int .i64 0,.bool false]∧zbE jV 34=true:=by and_intros <;> kernel_rfl
@[go_sem] theorem zoO:hasT jV 35=true∧szT jV 35=1∧Tryz.prog.bytesOf 35=24∧aggT jV 35=false∧zaX jV 35=some 3∧arrT jV 35=none∧zbF jV 35=some [.slice none 0 0]:=by and_intros <;> kernel_rfl
@[go_sem] theorem zoP:hasT jV 36=true∧szT jV 36=4∧Tryz.prog.bytesOf 36=48∧aggT jV 36=true∧zaX jV 36=none∧arrT jV 36=none∧zbF jV 36=some [.int .i64 0,.int .i64 0,.int .i64 0,.slice none 0 0]∧zbE jV 36=true:=by and_intros <;> kernel_rfl
@[go_sem] theorem zoQ:hasT jV 37=true∧szT jV 37=4∧Tryz.prog.bytesOf 37=48∧aggT jV 37=true∧zaX jV 37=none∧arrT jV 37=none∧zbF jV 37=some [.int .i64 0,.int .i64 0,.int .i64 0,.slice none 0 0]∧zbE jV 37=true:=by and_intros <;> kernel_rfl
@[go_sem] theorem zoR:hasT jV 38=true∧szT jV 38=12∧Tryz.prog.bytesOf 38=192∧aggT jV 38=true∧zaX jV 38=none∧arrT jV 38=none∧zbF jV 38=some [.int .i64 0,.slice none 0 0,.slice none 0 0,.slice none 0 0,.slice none 0 0,.slice none 0 0,.int .i64 0,.bool false,.int .i64 0,.int .i64 0,.int .i64 0,.slice none 0 0]∧zbE jV 38=true:=by and_intros <;> kernel_rfl
@[go_sem] theorem zoS:hasT jV 39=true∧szT jV 39=12∧Tryz.prog.bytesOf 39=192∧aggT jV 39=true∧zaX jV 39=none∧arrT jV 39=none∧zbF jV 39=some [.int .i64 0,.slice none 0 0,.slice none 0 0,.slice none 0 0,.slice none 0 0,.slice none 0 0,.int .i64 0,.bool false,.int .i64 0,.int .i64 0,.int .i64 0,.slice none 0 0]∧zbE jV 39=true:=by and_intros <;> kernel_rfl
@[go_sem] theorem zoT:hasT jV 40=true∧szT jV 40=1∧Tryz.prog.bytesOf 40=24∧aggT jV 40=false∧zaX jV 40=some 77∧arrT jV 40=none∧zbF jV 40=some [.slice none 0 0]:=by and_intros <;> kernel_rfl
@[go_sem] theorem zoY:hasT jV 48=true∧szT jV 48=1∧Tryz.prog.bytesOf 48=24∧aggT jV 48=false∧zaX jV 48=some 297∧arrT jV 48=none∧zbF jV 48=some [.slice none 0 0]:=by and_intros <;> kernel_rfl
@[go_sem] theorem zPZ:hasT jV 49=true∧szT jV 49=2∧Tryz.prog.bytesOf 49=32∧aggT jV 49=true∧zaX jV 49=none∧arrT jV 49=none∧zbF jV 49=some [.int .i64 0,.slice none 0 0]∧zbE jV 49=true:=by and_intros <;> kernel_rfl
@[go_sem] theorem zP0:hasT jV 50=true∧szT jV 50=2∧Tryz.prog.bytesOf 50=32∧aggT jV 50=true∧zaX jV 50=none∧arrT jV 50=none∧zbF jV 50=some [.int .i64 0,.slice none 0 0]∧zbE jV 50=true:=by and_intros <;> kernel_rfl
@[go_sem] theorem zFj:hasT jV 51=true∧szT jV 51=1∧Tryz.prog.bytesOf 51=24∧aggT jV 51=false∧zaX jV 51=some 125∧arrT jV 51=none∧zbF jV 51=some [.slice none 0 0]:=by and_intros <;> kernel_rfl
@[go_sem] theorem zFk:hasT jV 52=true∧szT jV 52=3∧Tryz.prog.bytesOf 52=56∧aggT jV 52=true∧zaX jV 52=none∧arrT jV 52=none∧zbF jV 52=some [.int .i64 0,.slice none 0 0,.slice none 0 0]∧zbE jV 52=true:=by and_intros <;> kernel_rfl
@[go_sem] theorem zFl:hasT jV 53=true∧szT jV 53=3∧Tryz.prog.bytesOf 53=56∧aggT jV 53=true∧zaX jV 53=none∧arrT jV 53=none∧zbF jV 53=some [.int .i64 0,.slice none 0 0,.slice none 0 0]∧zbE jV 53=true:=by and_intros <;> kernel_rfl
@[go_sem] theorem zFm:hasT jV 54=true∧szT jV 54=1∧Tryz.prog.bytesOf 54=24∧aggT jV 54=false∧zaX jV 54=some 244∧arrT jV 54=none∧zbF jV 54=some [.slice none 0 0]:=by and_intros <;> kernel_rfl
@[go_sem] theorem zoZ:hasT jV 55=true∧szT jV 55=1∧Tryz.prog.bytesOf 55=24∧aggT jV 55=false∧zaX jV 55=some 230∧arrT jV 55=none∧zbF jV 55=some [.slice none 0 0]:=by and_intros <;> kernel_rfl
@[go_sem] theorem zo0:hasT jV 56=true∧szT jV 56=2∧Tryz.prog.bytesOf 56=48∧aggT jV 56=true∧zaX jV 56=none∧arrT jV 56=none∧zbF jV 56=some [.slice none 0 0,.slice none 0 0]∧zbE jV 56=true:=by and_intros <;> kernel_rfl
@[go_sem] theorem zP1:hasT jV 57=true∧szT jV 57=2∧Tryz.prog.bytesOf 57=48∧aggT jV 57=true∧zaX jV 57=none∧arrT jV 57=none∧zbF jV 57=some [.slice none 0 0,.slice none 0 0]∧zbE jV 57=true:=by and_intros <;> kernel_rfl
@[go_sem] theorem zFn:hasT jV 58=true∧szT jV 58=1∧Tryz.prog.bytesOf 58=24∧aggT jV 58=false∧zaX jV 58=some 157∧arrT jV 58=none∧zbF jV 58=some [.slice none 0 0]:=by and_intros <;> kernel_rfl
@[go_sem] theorem zo1:hasT jV 59=true∧szT jV 59=2∧Tryz.prog.bytesOf 59=16∧aggT jV 59=true∧zaX jV 59=none∧arrT jV 59=none∧zbF jV 59=some [.int .i64 0,.bool false]∧zbE jV 59=true:=by and_intros <;> kernel_rfl
@[go_sem] theorem zo2:hasT jV 60=true∧szT jV 60=4∧Tryz.prog.bytesOf 60=48∧aggT jV 60=true∧zaX jV 60=none∧arrT jV 60=none∧zbF jV 60=some [.int .i64 0,.int .i64 0,.int .i64 0,.slice none 0 0]∧zbE jV 60=true:=by and_intros <;> kernel_rfl
@[go_sem] theorem zP2:hasT jV 61=true∧szT jV 61=12∧Tryz.prog.bytesOf 61=192∧aggT jV 61=true∧zaX jV 61=none∧arrT jV 61=none∧zbF jV 61=some [.int .i64 0,.slice none 0 0,.slice none 0 0,.slice none 0 0,.slice none 0 0,.slice none 0 0,.int .i64 0,.bool false,.int .i64 0,.int .i64 0,.int .i64 0,.slice none 0 0]∧zbE jV 61=true:=by and_intros <;> kernel_rfl
@[go_sem] theorem zP3:hasT jV 62=true∧szT jV 62=12∧Tryz.prog.bytesOf 62=192∧aggT jV 62=true∧zaX jV 62=none∧arrT jV 62=none∧zbF jV 62=some [.int .i64 0,.slice none 0 0,.slice none 0 0,.slice none 0 0,.slice none 0 0,.slice none 0 0,.int .i64 0,.bool false,.int .i64 0,.int .i64 0,.int .i64 0,.slice none 0 0]∧zbE jV 62=true:=by and_intros <;> kernel_rfl
@[go_sem] theorem zP4:hasT jV 76=true∧szT jV 76=5∧Tryz.prog.bytesOf 76=40∧aggT jV 76=true∧zaX jV 76=none∧arrT jV 76=none∧zbF jV 76=some [.int .i64 0,.int .i64 0,.int .i64 0,.int .i64 0,.int .i64 0]∧zbE jV 76=true:=by and_intros <;> kernel_rfl
@[go_sem] theorem zP5:hasT jV 77=true∧szT jV 77=5∧Tryz.prog.bytesOf 77=40∧aggT jV 77=true∧zaX jV 77=none∧arrT jV 77=none∧zbF jV 77=some [.int .i64 0,.int .i64 0,.int .i64 0,.int .i64 0,.int .i64 0]∧zbE jV 77=true:=by and_intros <;> kernel_rfl
@[go_sem] theorem zP7:hasT jV 82=true∧szT jV 82=1∧Tryz.prog.bytesOf 82=24∧aggT jV 82=false∧zaX jV 82=some 222∧arrT jV 82=none∧zbF jV 82=some [.slice none 0 0]:=by and_intros <;> kernel_rfl
@[go_sem] theorem zpa:hasT jV 83=true∧szT jV 83=4∧Tryz.prog.bytesOf 83=48∧aggT jV 83=true∧zaX jV 83=none∧arrT jV 83=none∧zbF jV 83=some [.int .i64 0,.int .i64 0,.int .i64 0,.slice none 0 0]∧zbE jV 83=true:=by and_intros <;> kernel_rfl
@[go_sem] theorem zFr:hasT jV 84=true∧szT jV 84=4∧Tryz.prog.bytesOf 84=48∧aggT jV 84=true∧zaX jV 84=none∧arrT jV 84=none∧zbF jV 84=some [.int .i64 0,.int .i64 0,.int .i64 0,.slice none 0 0]∧zbE jV 84=true:=by and_intros <;> kernel_rfl
@[go_sem] theorem zpf:hasT jV 93=true∧szT jV 93=1∧Tryz.prog.bytesOf 93=24∧aggT jV 93=false∧zaX jV 93=some 84∧arrT jV 93=none∧zbF jV 93=some [.slice none 0 0]:=by and_intros <;> kernel_rfl
@[go_sem] theorem zpk:hasT jV 104=true∧szT jV 104=1∧Tryz.prog.bytesOf 104=8∧aggT jV 104=false∧zaX jV 104=none∧arrT jV 104=none∧zbF jV 104=some [.nilFunc]:=by and_intros <;> kernel_rfl
@[go_sem] theorem zP8:hasT jV 124=true∧szT jV 124=3∧Tryz.prog.bytesOf 124=24∧aggT jV 124=true∧zaX jV 124=none∧arrT jV 124=none∧zbF jV 124=some [.int .i64 0,.int .i64 0,.int .i64 0]∧zbE jV 124=true:=by and_intros <;> kernel_rfl
@[go_sem] theorem zP9:hasT jV 125=true∧szT jV 125=3∧Tryz.prog.bytesOf 125=24∧aggT jV 125=true∧zaX jV 125=none∧arrT jV 125=none∧zbF jV 125=some [.int .i64 0,.int .i64 0,.int .i64 0]∧zbE jV 125=true:=by and_intros <;> kernel_rfl
@[go_sem] theorem zQa:hasT jV 127=true∧szT jV 127=3∧Tryz.prog.bytesOf 127=40∧aggT jV 127=true∧zaX jV 127=none∧arrT jV 127=none∧zbF jV 127=some [.int .i64 0,.int .i64 0,.slice none 0 0]∧zbE jV 127=true:=by and_intros <;> kernel_rfl
@[go_sem] theorem zpu:hasT jV 128=true∧szT jV 128=3∧Tryz.prog.bytesOf 128=40∧aggT jV 128=true∧zaX jV 128=none∧arrT jV 128=none∧zbF jV 128=some [.int .i64 0,.int .i64 0,.slice none 0 0]∧zbE jV 128=true:=by and_intros <;> kernel_rfl
@[go_sem] theorem zpC:hasT jV 144=true∧szT jV 144=1∧Tryz.prog.bytesOf 144=8∧aggT jV 144=false∧zaX jV 144=none∧arrT jV 144=none∧zbF jV 144=some [.nilFunc]:=by and_intros <;> kernel_rfl
@[go_sem] theorem zpD:hasT jV 150=true∧szT jV 150=1∧Tryz.prog.bytesOf 150=8∧aggT jV 150=false∧zaX jV 150=none∧arrT jV 150=none∧zbF jV 150=some [.nilFunc]:=by and_intros <;> kernel_rfl
@[go_sem] theorem zFI:hasT jV 156=true∧szT jV 156=6∧Tryz.prog.bytesOf 156=56∧aggT jV 156=true∧zaX jV 156=none∧arrT jV 156=none∧zbF jV 156=some [.string ByteArray.empty,.int .i64 0,.int .i64 0,.int .i64 0,.int .i64 0,.bool false]∧zbE jV 156=true:=by and_intros <;> kernel_rfl
@[go_sem] theorem zQb:hasT jV 157=true∧szT jV 157=6∧Tryz.prog.bytesOf 157=56∧aggT jV 157=true∧zaX jV 157=none∧arrT jV 157=none∧zbF jV 157=some [.string ByteArray.empty,.int .i64 0,.int .i64 0,.int .i64 0,.int .i64 0,.bool false]∧zbE jV 157=true:=by and_intros <;> kernel_rfl
@[go_sem] theorem zpG:hasT jV 159=true∧szT jV 159=1∧Tryz.prog.bytesOf 159=24∧aggT jV 159=false∧zaX jV 159=some 4∧arrT jV 159=none∧zbF jV 159=some [.slice none 0 0]:=by and_intros <;> kernel_rfl
@[go_sem] theorem zQd:hasT jV 173=true∧szT jV 173=1∧Tryz.prog.bytesOf 173=8∧aggT jV 173=false∧zaX jV 173=none∧arrT jV 173=none∧zbF jV 173=some [.nilFunc]:=by and_intros <;> kernel_rfl
@[go_sem] theorem zpQ:hasT jV 192=true∧szT jV 192=1∧Tryz.prog.bytesOf 192=8∧aggT jV 192=false∧zaX jV 192=none∧arrT jV 192=none∧zbF jV 192=some [.nilFunc]:=by and_intros <;> kernel_rfl
@[go_sem] theorem zFR:hasT jV 197=true∧szT jV 197=6∧Tryz.prog.bytesOf 197=56∧aggT jV 197=true∧zaX jV 197=none∧arrT jV 197=none∧zbF jV 197=some [.string ByteArray.empty,.int .i64 0,.int .i64 0,.int .i64 0,.int .i64 0,.bool false]∧zbE jV 197=true:=by and_intros <;> kernel_rfl
@[go_sem] theorem zQg:hasT jV 205=true∧szT jV 205=1∧Tryz.prog.bytesOf 205=8∧aggT jV 205=false∧zaX jV 205=none∧arrT jV 205=none∧zbF jV 205=some [.nilFunc]:=by and_intros <;> kernel_rfl
@[go_sem] theorem zQh:hasT jV 221=true∧szT jV 221=5∧Tryz.prog.bytesOf 221=40∧aggT jV 221=true∧zaX jV 221=none∧arrT jV 221=none∧zbF jV 221=some [.int .i64 0,.int .i64 0,.bool false,.int .i64 0,.int .i64 0]∧zbE jV 221=true:=by and_intros <;> kernel_rfl
@[go_sem] theorem zQi:hasT jV 222=true∧szT jV 222=5∧Tryz.prog.bytesOf 222=40∧aggT jV 222=true∧zaX jV 222=none∧arrT jV 222=none∧zbF jV 222=some [.int .i64 0,.int .i64 0,.bool false,.int .i64 0,.int .i64 0]∧zbE jV 222=true:=by and_intros <;> kernel_rfl
@[go_sem] theorem zQj:hasT jV 229=true∧szT jV 229=5∧Tryz.prog.bytesOf 229=40∧aggT jV 229=true∧zaX jV 229=none∧arrT jV 229=none∧zbF jV 229=some [.int .i64 0,.int .i64 0,.int .i64 0,.int .i64 0,.bool false]∧zbE jV 229=true:=by and_intros <;> kernel_rfl
@[go_sem] theorem zQk:hasT jV 230=true∧szT jV 230=5∧Tryz.prog.bytesOf 230=40∧aggT jV 230=true∧zaX jV 230=none∧arrT jV 230=none∧zbF jV 230=some [.int .i64 0,.int .i64 0,.int .i64 0,.int .i64 0,.bool false]∧zbE jV 230=true:=by and_intros <;> kernel_rfl
@[go_sem] theorem zQn:hasT jV 241=true∧szT jV 241=1∧Tryz.prog.bytesOf 241=8∧aggT jV 241=false∧zaX jV 241=none∧arrT jV 241=none∧zbF jV 241=some [.nilFunc]:=by and_intros <;> kernel_rfl
@[go_sem] theorem zQo:hasT jV 243=true∧szT jV 243=2∧Tryz.prog.bytesOf 243=24∧aggT jV 243=true∧zaX jV 243=none∧arrT jV 243=none∧zbF jV 243=some [.string ByteArray.empty,.bool false]∧zbE jV 243=true:=by and_intros <;> kernel_rfl
@[go_sem] theorem zQp:hasT jV 244=true∧szT jV 244=2∧Tryz.prog.bytesOf 244=24∧aggT jV 244=true∧zaX jV 244=none∧arrT jV 244=none∧zbF jV 244=some [.string ByteArray.empty,.bool false]∧zbE jV 244=true:=by and_intros <;> kernel_rfl
@[go_sem] theorem zQt:hasT jV 255=true∧szT jV 255=1∧Tryz.prog.bytesOf 255=24∧aggT jV 255=false∧zaX jV 255=some 308∧arrT jV 255=none∧zbF jV 255=some [.slice none 0 0]:=by and_intros <;> kernel_rfl
@[go_sem] theorem zQA:hasT jV 265=true∧szT jV 265=2∧Tryz.prog.bytesOf 265=24∧aggT jV 265=true∧zaX jV 265=none∧arrT jV 265=none∧zbF jV 265=some [.string ByteArray.empty,.bool false]∧zbE jV 265=true:=by and_intros <;> kernel_rfl
@[go_sem] theorem zQB:hasT jV 268=true∧szT jV 268=3∧Tryz.prog.bytesOf 268=24∧aggT jV 268=true∧zaX jV 268=none∧arrT jV 268=none∧zbF jV 268=some [.int .i64 0,.int .i64 0,.int .i64 0]∧zbE jV 268=true:=by and_intros <;> kernel_rfl
@[go_sem] theorem zQC:hasT jV 271=true∧szT jV 271=5∧Tryz.prog.bytesOf 271=40∧aggT jV 271=true∧zaX jV 271=none∧arrT jV 271=none∧zbF jV 271=some [.int .i64 0,.int .i64 0,.int .i64 0,.int .i64 0,.bool false]∧zbE jV 271=true:=by and_intros <;> kernel_rfl
@[go_sem] theorem zQE:hasT jV 275=true∧szT jV 275=1∧Tryz.prog.bytesOf 275=8∧aggT jV 275=false∧zaX jV 275=none∧arrT jV 275=none∧zbF jV 275=some [.nilFunc]:=by and_intros <;> kernel_rfl
@[go_sem] theorem zQF:hasT jV 277=true∧szT jV 277=1∧Tryz.prog.bytesOf 277=8∧aggT jV 277=false∧zaX jV 277=none∧arrT jV 277=none∧zbF jV 277=some [.nilFunc]:=by and_intros <;> kernel_rfl
@[go_sem] theorem zQG:hasT jV 279=true∧szT jV 279=1∧Tryz.prog.bytesOf 279=24∧aggT jV 279=false∧zaX jV 279=some 5∧arrT jV 279=none∧zbF jV 279=some [.slice none 0 0]:=by and_intros <;> kernel_rfl
@[go_sem] theorem zQJ:hasT jV 287=true∧szT jV 287=1∧Tryz.prog.bytesOf 287=8∧aggT jV 287=false∧zaX jV 287=none∧arrT jV 287=none∧zbF jV 287=some [.nilFunc]:=by and_intros <;> kernel_rfl
@[go_sem] theorem zQL:hasT jV 289=true∧szT jV 289=1∧Tryz.prog.bytesOf 289=8∧aggT jV 289=false∧zaX jV 289=none∧arrT jV 289=none∧zbF jV 289=some [.nilFunc]:=by and_intros <;> kernel_rfl
@[go_sem] theorem zQM:hasT jV 290=true∧szT jV 290=1∧Tryz.prog.bytesOf 290=8∧aggT jV 290=false∧zaX jV 290=none∧arrT jV 290=none∧zbF jV 290=some [.nilFunc]:=by and_intros <;> kernel_rfl
@[go_sem] theorem zQN:hasT jV 296=true∧szT jV 296=3∧Tryz.prog.bytesOf 296=24∧aggT jV 296=true∧zaX jV 296=none∧arrT jV 296=none∧zbF jV 296=some [.int .i64 0,.int .i64 0,.int .i64 0]∧zbE jV 296=true:=by and_intros <;> kernel_rfl
@[go_sem] theorem zQO:hasT jV 297=true∧szT jV 297=3∧Tryz.prog.bytesOf 297=24∧aggT jV 297=true∧zaX jV 297=none∧arrT jV 297=none∧zbF jV 297=some [.int .i64 0,.int .i64 0,.int .i64 0]∧zbE jV 297=true:=by and_intros <;> kernel_rfl
@[go_sem] theorem zQP:hasT jV 298=true∧szT jV 298=1∧Tryz.prog.bytesOf 298=8∧aggT jV 298=false∧zaX jV 298=none∧arrT jV 298=none∧zbF jV 298=some [.nilFunc]:=by and_intros <;> kernel_rfl
@[go_sem] theorem zQQ:hasT jV 299=true∧szT jV 299=1∧Tryz.prog.bytesOf 299=8∧aggT jV 299=false∧zaX jV 299=none∧arrT jV 299=none∧zbF jV 299=some [.nilFunc]:=by and_intros <;> kernel_rfl
@[go_sem] theorem zQV:hasT jV 308=true∧szT jV 308=1∧Tryz.prog.bytesOf 308=24∧aggT jV 308=false∧zaX jV 308=some 309∧arrT jV 308=none∧zbF jV 308=some [.slice none 0 0]:=by and_intros <;> kernel_rfl
@[go_sem] theorem zQW:hasT jV 309=true∧szT jV 309=1∧Tryz.prog.bytesOf 309=24∧aggT jV 309=false∧zaX jV 309=some 159∧arrT jV 309=none∧zbF jV 309=some [.slice none 0 0]:=by and_intros <;> kernel_rfl
@[go_sem] theorem zQY:hasT jV 312=true∧szT jV 312=3∧Tryz.prog.bytesOf 312=24∧aggT jV 312=true∧zaX jV 312=none∧arrT jV 312=none∧zbF jV 312=some [.int .i64 0,.int .i64 0,.int .i64 0]∧zbE jV 312=true:=by and_intros <;> kernel_rfl
@[go_sem] theorem zQZ:hasT jV 314=true∧szT jV 314=1∧Tryz.prog.bytesOf 314=8∧aggT jV 314=false∧zaX jV 314=none∧arrT jV 314=none∧zbF jV 314=some [.nilFunc]:=by and_intros <;> kernel_rfl
@[go_sem] theorem zQ0:hasT jV 315=true∧szT jV 315=1∧Tryz.prog.bytesOf 315=8∧aggT jV 315=false∧zaX jV 315=none∧arrT jV 315=none∧zbF jV 315=some [.nilFunc]:=by and_intros <;> kernel_rfl
@[go_sem] theorem zQ3:hasT jV 322=true∧szT jV 322=1∧Tryz.prog.bytesOf 322=8∧aggT jV 322=false∧zaX jV 322=none∧arrT jV 322=none∧zbF jV 322=some [.nilFunc]:=by and_intros <;> kernel_rfl
@[go_sem] theorem zQ7:hasT jV 328=true∧szT jV 328=1∧Tryz.prog.bytesOf 328=8∧aggT jV 328=false∧zaX jV 328=none∧arrT jV 328=none∧zbF jV 328=some [.nilFunc]:=by and_intros <;> kernel_rfl
@[go_sem] theorem zQ8:hasT jV 329=true∧szT jV 329=1∧Tryz.prog.bytesOf 329=8∧aggT jV 329=false∧zaX jV 329=none∧arrT jV 329=none∧zbF jV 329=some [.nilFunc]:=by and_intros <;> kernel_rfl
@[go_sem] theorem zQ9:hasT jV 334=true∧szT jV 334=1∧Tryz.prog.bytesOf 334=8∧aggT jV 334=false∧zaX jV 334=none∧arrT jV 334=none∧zbF jV 334=some [.nilFunc]:=by and_intros <;> kernel_rfl
@[go_sem] theorem zRb:hasT jV 338=true∧szT jV 338=1∧Tryz.prog.bytesOf 338=8∧aggT jV 338=false∧zaX jV 338=none∧arrT jV 338=none∧zbF jV 338=some [.nilFunc]:=by and_intros <;> kernel_rfl
@[go_sem] theorem zRe:hasT jV 343=true∧szT jV 343=1∧Tryz.prog.bytesOf 343=8∧aggT jV 343=false∧zaX jV 343=none∧arrT jV 343=none∧zbF jV 343=some [.nilFunc]:=by and_intros <;> kernel_rfl
@[go_sem] theorem zRl:hasT jV 363=true∧szT jV 363=1∧Tryz.prog.bytesOf 363=8∧aggT jV 363=false∧zaX jV 363=none∧arrT jV 363=none∧zbF jV 363=some [.nilFunc]:=by and_intros <;> kernel_rfl
@[go_sem] theorem zpU:zaW jV 13 0=some (0,9):=by kernel_rfl
@[go_sem] theorem zpV:zbD jV 13 0=some (0,1):=by kernel_rfl
@[go_sem] theorem zpW:zaW jV 13 1=some (1,12):=by kernel_rfl
@[go_sem] theorem zpX:zbD jV 13 1=some (1,1):=by kernel_rfl
attribute [go_sem] Tryz.underlying13 Tryz.stoodInHeld13 Tryz.eqGuardType13
@[go_sem] theorem zRm:zaW jV 23 0=some (0,3):=by kernel_rfl
@[go_sem] theorem zRn:zbD jV 23 0=some (0,1):=by kernel_rfl
@[go_sem] theorem zRo:zaW jV 23 1=some (1,22):=by kernel_rfl
@[go_sem] theorem zRp:zbD jV 23 1=some (1,1):=by kernel_rfl
attribute [go_sem] Tryz.underlying23 Tryz.stoodInHeld23 Tryz.eqGuardType23
@[go_sem] theorem zpY:zaW jV 24 0=some (0,3):=by kernel_rfl
@[go_sem] theorem zpZ:zbD jV 24 0=some (0,1):=by kernel_rfl
@[go_sem] theorem zp0:zaW jV 24 1=some (1,22):=by kernel_rfl
@[go_sem] theorem zp1:zbD jV 24 1=some (1,1):=by kernel_rfl
attribute [go_sem] Tryz.underlying24 Tryz.stoodInHeld24 Tryz.eqGuardType24
@[go_sem] theorem zRq:zaW jV 26 0=some (0,24):=by kernel_rfl
@[go_sem] theorem zRr:zbD jV 26 0=some (0,2):=by kernel_rfl
@[go_sem] theorem zRs:zaW jV 26 1=some (2,25):=by kernel_rfl
@[go_sem] theorem zRt:zbD jV 26 1=some (2,1):=by kernel_rfl
attribute [go_sem] Tryz.underlying26 Tryz.stoodInHeld26 Tryz.eqGuardType26
@[go_sem] theorem zp6:zaW jV 27 0=some (0,24):=by kernel_rfl
@[go_sem] theorem zp7:zbD jV 27 0=some (0,2):=by kernel_rfl
@[go_sem] theorem zp8:zaW jV 27 1=some (2,25):=by kernel_rfl
@[go_sem] theorem zp9:zbD jV 27 1=some (2,1):=by kernel_rfl
attribute [go_sem] Tryz.underlying27 Tryz.stoodInHeld27 Tryz.eqGuardType27
@[go_sem] theorem zRu:zaW jV 30 0=some (0,28):=by kernel_rfl
@[go_sem] theorem zRv:zbD jV 30 0=some (0,1):=by kernel_rfl
@[go_sem] theorem zRw:zaW jV 30 1=some (1,29):=by kernel_rfl
@[go_sem] theorem zRx:zbD jV 30 1=some (1,1):=by kernel_rfl
attribute [go_sem] Tryz.underlying30 Tryz.stoodInHeld30 Tryz.eqGuardType30
@[go_sem] theorem zqe:zaW jV 31 0=some (0,28):=by kernel_rfl
@[go_sem] theorem zqf:zbD jV 31 0=some (0,1):=by kernel_rfl
@[go_sem] theorem zqg:zaW jV 31 1=some (1,29):=by kernel_rfl
@[go_sem] theorem zqh:zbD jV 31 1=some (1,1):=by kernel_rfl
attribute [go_sem] Tryz.underlying31 Tryz.stoodInHeld31 Tryz.eqGuardType31
@[go_sem] theorem zRy:zaW jV 33 0=some (0,3):=by kernel_rfl
@[go_sem] theorem zRz:zbD jV 33 0=some (0,1):=by kernel_rfl
@[go_sem] theorem zRA:zaW jV 33 1=some (1,4):=by kernel_rfl
@[go_sem] theorem zRB:zbD jV 33 1=some (1,1):=by kernel_rfl
attribute [go_sem] Tryz.underlying33 Tryz.stoodInHeld33 Tryz.eqGuardType33
@[go_sem] theorem zqm:zaW jV 34 0=some (0,3):=by kernel_rfl
@[go_sem] theorem zqn:zbD jV 34 0=some (0,1):=by kernel_rfl
@[go_sem] theorem zqo:zaW jV 34 1=some (1,4):=by kernel_rfl
@[go_sem] theorem zqp:zbD jV 34 1=some (1,1):=by kernel_rfl
attribute [go_sem] Tryz.underlying34 Tryz.stoodInHeld34 Tryz.eqGuardType34
@[go_sem] theorem zRC:zaW jV 36 0=some (0,3):=by kernel_rfl
@[go_sem] theorem zRD:zbD jV 36 0=some (0,1):=by kernel_rfl
@[go_sem] theorem zRE:zaW jV 36 1=some (1,3):=by kernel_rfl
@[go_sem] theorem zRF:zbD jV 36 1=some (1,1):=by kernel_rfl
@[go_sem] theorem zRG:zaW jV 36 2=some (2,3):=by kernel_rfl
@[go_sem] theorem zRH:zbD jV 36 2=some (2,1):=by kernel_rfl
@[go_sem] theorem zRI:zaW jV 36 3=some (3,35):=by kernel_rfl
@[go_sem] theorem zRJ:zbD jV 36 3=some (3,1):=by kernel_rfl
attribute [go_sem] Tryz.underlying36 Tryz.stoodInHeld36 Tryz.eqGuardType36
@[go_sem] theorem zqu:zaW jV 37 0=some (0,3):=by kernel_rfl
@[go_sem] theorem zqv:zbD jV 37 0=some (0,1):=by kernel_rfl
@[go_sem] theorem zqw:zaW jV 37 1=some (1,3):=by kernel_rfl
@[go_sem] theorem zqx:zbD jV 37 1=some (1,1):=by kernel_rfl
@[go_sem] theorem zqy:zaW jV 37 2=some (2,3):=by kernel_rfl
@[go_sem] theorem zqz:zbD jV 37 2=some (2,1):=by kernel_rfl
@[go_sem] theorem zqA:zaW jV 37 3=some (3,35):=by kernel_rfl
@[go_sem] theorem zqB:zbD jV 37 3=some (3,1):=by kernel_rfl
attribute [go_sem] Tryz.underlying37 Tryz.stoodInHeld37 Tryz.eqGuardType37
@[go_sem] theorem zqC:zaW jV 38 0=some (0,27):=by kernel_rfl
@[go_sem] theorem zqD:zbD jV 38 0=some (0,3):=by kernel_rfl
@[go_sem] theorem zqE:zaW jV 38 1=some (3,31):=by kernel_rfl
@[go_sem] theorem zqF:zbD jV 38 1=some (3,2):=by kernel_rfl
@[go_sem] theorem zqG:zaW jV 38 2=some (5,32):=by kernel_rfl
@[go_sem] theorem zqH:zbD jV 38 2=some (5,1):=by kernel_rfl
@[go_sem] theorem zqI:zaW jV 38 3=some (6,34):=by kernel_rfl
@[go_sem] theorem zqJ:zbD jV 38 3=some (6,2):=by kernel_rfl
@[go_sem] theorem zRK:zaW jV 38 4=some (8,37):=by kernel_rfl
@[go_sem] theorem zRL:zbD jV 38 4=some (8,4):=by kernel_rfl
attribute [go_sem] Tryz.underlying38 Tryz.stoodInHeld38 Tryz.eqGuardType38
@[go_sem] theorem zqK:zaW jV 39 0=some (0,27):=by kernel_rfl
@[go_sem] theorem zqL:zbD jV 39 0=some (0,3):=by kernel_rfl
@[go_sem] theorem zqM:zaW jV 39 1=some (3,31):=by kernel_rfl
@[go_sem] theorem zqN:zbD jV 39 1=some (3,2):=by kernel_rfl
@[go_sem] theorem zqO:zaW jV 39 2=some (5,32):=by kernel_rfl
@[go_sem] theorem zqP:zbD jV 39 2=some (5,1):=by kernel_rfl
@[go_sem] theorem zqQ:zaW jV 39 3=some (6,34):=by kernel_rfl
@[go_sem] theorem zqR:zbD jV 39 3=some (6,2):=by kernel_rfl
@[go_sem] theorem zqS:zaW jV 39 4=some (8,37):=by kernel_rfl
@[go_sem] theorem zqT:zbD jV 39 4=some (8,4):=by kernel_rfl
attribute [go_sem] Tryz.underlying39 Tryz.stoodInHeld39 Tryz.eqGuardType39
@[go_sem] theorem zRM:zaW jV 44 0=some (0,3):=by kernel_rfl
@[go_sem] theorem zRN:zbD jV 44 0=some (0,1):=by kernel_rfl
@[go_sem] theorem zRO:zaW jV 44 1=some (1,43):=by kernel_rfl
@[go_sem] theorem zRP:zbD jV 44 1=some (1,1):=by kernel_rfl
attribute [go_sem] Tryz.underlying44 Tryz.stoodInHeld44 Tryz.eqGuardType44
@[go_sem] theorem zro:zaW jV 45 0=some (0,3):=by kernel_rfl
@[go_sem] theorem zrp:zbD jV 45 0=some (0,1):=by kernel_rfl
@[go_sem] theorem zrq:zaW jV 45 1=some (1,43):=by kernel_rfl
@[go_sem] theorem zrr:zbD jV 45 1=some (1,1):=by kernel_rfl
attribute [go_sem] Tryz.underlying45 Tryz.stoodInHeld45 Tryz.eqGuardType45
@[go_sem] theorem zRQ:zaW jV 49 0=some (0,3):=by kernel_rfl
@[go_sem] theorem zRR:zbD jV 49 0=some (0,1):=by kernel_rfl
@[go_sem] theorem zRS:zaW jV 49 1=some (1,48):=by kernel_rfl
@[go_sem] theorem zRT:zbD jV 49 1=some (1,1):=by kernel_rfl
attribute [go_sem] Tryz.underlying49 Tryz.stoodInHeld49 Tryz.eqGuardType49
@[go_sem] theorem zRU:zaW jV 50 0=some (0,3):=by kernel_rfl
@[go_sem] theorem zRV:zbD jV 50 0=some (0,1):=by kernel_rfl
@[go_sem] theorem zRW:zaW jV 50 1=some (1,48):=by kernel_rfl
@[go_sem] theorem zRX:zbD jV 50 1=some (1,1):=by kernel_rfl
attribute [go_sem] Tryz.underlying50 Tryz.stoodInHeld50 Tryz.eqGuardType50
@[go_sem] theorem zF3:zaW jV 52 0=some (0,50):=by kernel_rfl
@[go_sem] theorem zF4:zbD jV 52 0=some (0,2):=by kernel_rfl
@[go_sem] theorem zF5:zaW jV 52 1=some (2,51):=by kernel_rfl
@[go_sem] theorem zF6:zbD jV 52 1=some (2,1):=by kernel_rfl
attribute [go_sem] Tryz.underlying52 Tryz.stoodInHeld52 Tryz.eqGuardType52
@[go_sem] theorem zGb:zaW jV 53 0=some (0,50):=by kernel_rfl
@[go_sem] theorem zGc:zbD jV 53 0=some (0,2):=by kernel_rfl
@[go_sem] theorem zGd:zaW jV 53 1=some (2,51):=by kernel_rfl
@[go_sem] theorem zGe:zbD jV 53 1=some (2,1):=by kernel_rfl
attribute [go_sem] Tryz.underlying53 Tryz.stoodInHeld53 Tryz.eqGuardType53
@[go_sem] theorem zRY:zaW jV 56 0=some (0,54):=by kernel_rfl
@[go_sem] theorem zRZ:zbD jV 56 0=some (0,1):=by kernel_rfl
@[go_sem] theorem zR0:zaW jV 56 1=some (1,55):=by kernel_rfl
@[go_sem] theorem zR1:zbD jV 56 1=some (1,1):=by kernel_rfl
attribute [go_sem] Tryz.underlying56 Tryz.stoodInHeld56 Tryz.eqGuardType56
@[go_sem] theorem zR2:zaW jV 57 0=some (0,54):=by kernel_rfl
@[go_sem] theorem zR3:zbD jV 57 0=some (0,1):=by kernel_rfl
@[go_sem] theorem zR4:zaW jV 57 1=some (1,55):=by kernel_rfl
@[go_sem] theorem zR5:zbD jV 57 1=some (1,1):=by kernel_rfl
attribute [go_sem] Tryz.underlying57 Tryz.stoodInHeld57 Tryz.eqGuardType57
@[go_sem] theorem zrM:zaW jV 59 0=some (0,3):=by kernel_rfl
@[go_sem] theorem zrN:zbD jV 59 0=some (0,1):=by kernel_rfl
@[go_sem] theorem zrO:zaW jV 59 1=some (1,4):=by kernel_rfl
@[go_sem] theorem zrP:zbD jV 59 1=some (1,1):=by kernel_rfl
attribute [go_sem] Tryz.underlying59 Tryz.stoodInHeld59 Tryz.eqGuardType59
@[go_sem] theorem zrW:zaW jV 60 0=some (0,3):=by kernel_rfl
@[go_sem] theorem zrX:zbD jV 60 0=some (0,1):=by kernel_rfl
@[go_sem] theorem zrY:zaW jV 60 1=some (1,3):=by kernel_rfl
@[go_sem] theorem zrZ:zbD jV 60 1=some (1,1):=by kernel_rfl
@[go_sem] theorem zr0:zaW jV 60 2=some (2,3):=by kernel_rfl
@[go_sem] theorem zr1:zbD jV 60 2=some (2,1):=by kernel_rfl
@[go_sem] theorem zr2:zaW jV 60 3=some (3,35):=by kernel_rfl
@[go_sem] theorem zr3:zbD jV 60 3=some (3,1):=by kernel_rfl
attribute [go_sem] Tryz.underlying60 Tryz.stoodInHeld60 Tryz.eqGuardType60
@[go_sem] theorem zR6:zaW jV 61 0=some (0,53):=by kernel_rfl
@[go_sem] theorem zR7:zbD jV 61 0=some (0,3):=by kernel_rfl
@[go_sem] theorem zR8:zaW jV 61 1=some (3,57):=by kernel_rfl
@[go_sem] theorem zR9:zbD jV 61 1=some (3,2):=by kernel_rfl
@[go_sem] theorem zSa:zaW jV 61 2=some (5,58):=by kernel_rfl
@[go_sem] theorem zSb:zbD jV 61 2=some (5,1):=by kernel_rfl
@[go_sem] theorem zSc:zaW jV 61 3=some (6,59):=by kernel_rfl
@[go_sem] theorem zSd:zbD jV 61 3=some (6,2):=by kernel_rfl
@[go_sem] theorem zSe:zaW jV 61 4=some (8,60):=by kernel_rfl
@[go_sem] theorem zSf:zbD jV 61 4=some (8,4):=by kernel_rfl
attribute [go_sem] Tryz.underlying61 Tryz.stoodInHeld61 Tryz.eqGuardType61
@[go_sem] theorem zSg:zaW jV 62 0=some (0,53):=by kernel_rfl
@[go_sem] theorem zSh:zbD jV 62 0=some (0,3):=by kernel_rfl
@[go_sem] theorem zSi:zaW jV 62 1=some (3,57):=by kernel_rfl
@[go_sem] theorem zSj:zbD jV 62 1=some (3,2):=by kernel_rfl
@[go_sem] theorem zSk:zaW jV 62 2=some (5,58):=by kernel_rfl
@[go_sem] theorem zSl:zbD jV 62 2=some (5,1):=by kernel_rfl
@[go_sem] theorem zSm:zaW jV 62 3=some (6,59):=by kernel_rfl
@[go_sem] theorem zSn:zbD jV 62 3=some (6,2):=by kernel_rfl
@[go_sem] theorem zSo:zaW jV 62 4=some (8,60):=by kernel_rfl
@[go_sem] theorem zSp:zbD jV 62 4=some (8,4):=by kernel_rfl
attribute [go_sem] Tryz.underlying62 Tryz.stoodInHeld62 Tryz.eqGuardType62
@[go_sem] theorem zSq:zaW jV 76 0=some (0,3):=by kernel_rfl
@[go_sem] theorem zSr:zbD jV 76 0=some (0,1):=by kernel_rfl
@[go_sem] theorem zSs:zaW jV 76 1=some (1,3):=by kernel_rfl
@[go_sem] theorem zSt:zbD jV 76 1=some (1,1):=by kernel_rfl
@[go_sem] theorem zSu:zaW jV 76 2=some (2,3):=by kernel_rfl
@[go_sem] theorem zSv:zbD jV 76 2=some (2,1):=by kernel_rfl
@[go_sem] theorem zSw:zaW jV 76 3=some (3,3):=by kernel_rfl
@[go_sem] theorem zSx:zbD jV 76 3=some (3,1):=by kernel_rfl
@[go_sem] theorem zSy:zaW jV 76 4=some (4,3):=by kernel_rfl
@[go_sem] theorem zSz:zbD jV 76 4=some (4,1):=by kernel_rfl
attribute [go_sem] Tryz.underlying76 Tryz.stoodInHeld76 Tryz.eqGuardType76
@[go_sem] theorem zSA:zaW jV 77 0=some (0,3):=by kernel_rfl
@[go_sem] theorem zSB:zbD jV 77 0=some (0,1):=by kernel_rfl
@[go_sem] theorem zSC:zaW jV 77 1=some (1,3):=by kernel_rfl
@[go_sem] theorem zSD:zbD jV 77 1=some (1,1):=by kernel_rfl
@[go_sem] theorem zSE:zaW jV 77 2=some (2,3):=by kernel_rfl
@[go_sem] theorem zSF:zbD jV 77 2=some (2,1):=by kernel_rfl
@[go_sem] theorem zSG:zaW jV 77 3=some (3,3):=by kernel_rfl
@[go_sem] theorem zSH:zbD jV 77 3=some (3,1):=by kernel_rfl
@[go_sem] theorem zSI:zaW jV 77 4=some (4,3):=by kernel_rfl
@[go_sem] theorem zSJ:zbD jV 77 4=some (4,1):=by kernel_rfl
attribute [go_sem] Tryz.underlying77 Tryz.stoodInHeld77 Tryz.eqGuardType77
@[go_sem] theorem zSK:zaW jV 79 0=some (0,3):=by kernel_rfl
@[go_sem] theorem zSL:zbD jV 79 0=some (0,1):=by kernel_rfl
@[go_sem] theorem zSM:zaW jV 79 1=some (1,3):=by kernel_rfl
@[go_sem] theorem zSN:zbD jV 79 1=some (1,1):=by kernel_rfl
@[go_sem] theorem zSO:zaW jV 79 2=some (2,3):=by kernel_rfl
@[go_sem] theorem zSP:zbD jV 79 2=some (2,1):=by kernel_rfl
@[go_sem] theorem zSQ:zaW jV 79 3=some (3,3):=by kernel_rfl
@[go_sem] theorem zSR:zbD jV 79 3=some (3,1):=by kernel_rfl
@[go_sem] theorem zSS:zaW jV 79 4=some (4,3):=by kernel_rfl
@[go_sem] theorem zST:zbD jV 79 4=some (4,1):=by kernel_rfl
attribute [go_sem] Tryz.underlying79 Tryz.stoodInHeld79 Tryz.eqGuardType79
@[go_sem] theorem zSU:zaW jV 83 0=some (0,3):=by kernel_rfl
@[go_sem] theorem zSV:zbD jV 83 0=some (0,1):=by kernel_rfl
@[go_sem] theorem zSW:zaW jV 83 1=some (1,3):=by kernel_rfl
@[go_sem] theorem zSX:zbD jV 83 1=some (1,1):=by kernel_rfl
@[go_sem] theorem zSY:zaW jV 83 2=some (2,3):=by kernel_rfl
@[go_sem] theorem zSZ:zbD jV 83 2=some (2,1):=by kernel_rfl
@[go_sem] theorem zS0:zaW jV 83 3=some (3,82):=by kernel_rfl
@[go_sem] theorem zS1:zbD jV 83 3=some (3,1):=by kernel_rfl
attribute [go_sem] Tryz.underlying83 Tryz.stoodInHeld83 Tryz.eqGuardType83
@[go_sem] theorem zS2:zaW jV 84 0=some (0,3):=by kernel_rfl
@[go_sem] theorem zS3:zbD jV 84 0=some (0,1):=by kernel_rfl
@[go_sem] theorem zS4:zaW jV 84 1=some (1,3):=by kernel_rfl
@[go_sem] theorem zS5:zbD jV 84 1=some (1,1):=by kernel_rfl
@[go_sem] theorem zS6:zaW jV 84 2=some (2,3):=by kernel_rfl
@[go_sem] theorem zS7:zbD jV 84 2=some (2,1):=by kernel_rfl
@[go_sem] theorem zS8:zaW jV 84 3=some (3,82):=by kernel_rfl
@[go_sem] theorem zS9:zbD jV 84 3=some (3,1):=by kernel_rfl
attribute [go_sem] Tryz.underlying84 Tryz.stoodInHeld84 Tryz.eqGuardType84
@[go_sem] theorem zTa:zaW jV 102 0=some (0,3):=by kernel_rfl
@[go_sem] theorem zTb:zbD jV 102 0=some (0,1):=by kernel_rfl
@[go_sem] theorem zTc:zaW jV 102 1=some (1,3):=by kernel_rfl
@[go_sem] theorem zTd:zbD jV 102 1=some (1,1):=by kernel_rfl
@[go_sem] theorem zTe:zaW jV 102 2=some (2,3):=by kernel_rfl
@[go_sem] theorem zTf:zbD jV 102 2=some (2,1):=by kernel_rfl
@[go_sem] theorem zTg:zaW jV 102 3=some (3,101):=by kernel_rfl
@[go_sem] theorem zTh:zbD jV 102 3=some (3,1):=by kernel_rfl
attribute [go_sem] Tryz.underlying102 Tryz.stoodInHeld102 Tryz.eqGuardType102
@[go_sem] theorem zTi:zaW jV 103 0=some (0,3):=by kernel_rfl
@[go_sem] theorem zTj:zbD jV 103 0=some (0,1):=by kernel_rfl
@[go_sem] theorem zTk:zaW jV 103 1=some (1,3):=by kernel_rfl
@[go_sem] theorem zTl:zbD jV 103 1=some (1,1):=by kernel_rfl
@[go_sem] theorem zTm:zaW jV 103 2=some (2,3):=by kernel_rfl
@[go_sem] theorem zTn:zbD jV 103 2=some (2,1):=by kernel_rfl
@[go_sem] theorem zTo:zaW jV 103 3=some (3,101):=by kernel_rfl
@[go_sem] theorem zTp:zbD jV 103 3=some (3,1):=by kernel_rfl
attribute [go_sem] Tryz.underlying103 Tryz.stoodInHeld103 Tryz.eqGuardType103
@[go_sem] theorem zTq:zaW jV 124 0=some (0,3):=by kernel_rfl
@[go_sem] theorem zTr:zbD jV 124 0=some (0,1):=by kernel_rfl
@[go_sem] theorem zTs:zaW jV 124 1=some (1,3):=by kernel_rfl
@[go_sem] theorem zTt:zbD jV 124 1=some (1,1):=by kernel_rfl
@[go_sem] theorem zTu:zaW jV 124 2=some (2,3):=by kernel_rfl
@[go_sem] theorem zTv:zbD jV 124 2=some (2,1):=by kernel_rfl
attribute [go_sem] Tryz.underlying124 Tryz.stoodInHeld124 Tryz.eqGuardType124
@[go_sem] theorem zTw:zaW jV 125 0=some (0,3):=by kernel_rfl
@[go_sem] theorem zTx:zbD jV 125 0=some (0,1):=by kernel_rfl
@[go_sem] theorem zTy:zaW jV 125 1=some (1,3):=by kernel_rfl
@[go_sem] theorem zTz:zbD jV 125 1=some (1,1):=by kernel_rfl
@[go_sem] theorem zTA:zaW jV 125 2=some (2,3):=by kernel_rfl
@[go_sem] theorem zTB:zbD jV 125 2=some (2,1):=by kernel_rfl
attribute [go_sem] Tryz.underlying125 Tryz.stoodInHeld125 Tryz.eqGuardType125
@[go_sem] theorem zTC:zaW jV 127 0=some (0,3):=by kernel_rfl
@[go_sem] theorem zTD:zbD jV 127 0=some (0,1):=by kernel_rfl
@[go_sem] theorem zTE:zaW jV 127 1=some (1,3):=by kernel_rfl
@[go_sem] theorem zTF:zbD jV 127 1=some (1,1):=by kernel_rfl
@[go_sem] theorem zTG:zaW jV 127 2=some (2,93):=by kernel_rfl
@[go_sem] theorem zTH:zbD jV 127 2=some (2,1):=by kernel_rfl
attribute [go_sem] Tryz.underlying127 Tryz.stoodInHeld127 Tryz.eqGuardType127
@[go_sem] theorem zHv:zaW jV 128 0=some (0,3):=by kernel_rfl
@[go_sem] theorem zHw:zbD jV 128 0=some (0,1):=by kernel_rfl
@[go_sem] theorem zHx:zaW jV 128 1=some (1,3):=by kernel_rfl
@[go_sem] theorem zHy:zbD jV 128 1=some (1,1):=by kernel_rfl
@[go_sem] theorem zHz:zaW jV 128 2=some (2,93):=by kernel_rfl
@[go_sem] theorem zHA:zbD jV 128 2=some (2,1):=by kernel_rfl
attribute [go_sem] Tryz.underlying128 Tryz.stoodInHeld128 Tryz.eqGuardType128
@[go_sem] theorem zTI:zaW jV 156 0=some (0,9):=by kernel_rfl
@[go_sem] theorem zTJ:zbD jV 156 0=some (0,1):=by kernel_rfl
@[go_sem] theorem zTK:zaW jV 156 1=some (1,3):=by kernel_rfl
@[go_sem] theorem zTL:zbD jV 156 1=some (1,1):=by kernel_rfl
@[go_sem] theorem zTM:zaW jV 156 2=some (2,3):=by kernel_rfl
@[go_sem] theorem zTN:zbD jV 156 2=some (2,1):=by kernel_rfl
@[go_sem] theorem zTO:zaW jV 156 3=some (3,3):=by kernel_rfl
@[go_sem] theorem zTP:zbD jV 156 3=some (3,1):=by kernel_rfl
@[go_sem] theorem zTQ:zaW jV 156 4=some (4,3):=by kernel_rfl
@[go_sem] theorem zTR:zbD jV 156 4=some (4,1):=by kernel_rfl
@[go_sem] theorem zTS:zaW jV 156 5=some (5,4):=by kernel_rfl
@[go_sem] theorem zTT:zbD jV 156 5=some (5,1):=by kernel_rfl
attribute [go_sem] Tryz.underlying156 Tryz.stoodInHeld156 Tryz.eqGuardType156
@[go_sem] theorem zTU:zaW jV 157 0=some (0,9):=by kernel_rfl
@[go_sem] theorem zTV:zbD jV 157 0=some (0,1):=by kernel_rfl
@[go_sem] theorem zTW:zaW jV 157 1=some (1,3):=by kernel_rfl
@[go_sem] theorem zTX:zbD jV 157 1=some (1,1):=by kernel_rfl
@[go_sem] theorem zTY:zaW jV 157 2=some (2,3):=by kernel_rfl
@[go_sem] theorem zTZ:zbD jV 157 2=some (2,1):=by kernel_rfl
@[go_sem] theorem zT0:zaW jV 157 3=some (3,3):=by kernel_rfl
@[go_sem] theorem zT1:zbD jV 157 3=some (3,1):=by kernel_rfl
@[go_sem] theorem zT2:zaW jV 157 4=some (4,3):=by kernel_rfl
@[go_sem] theorem zT3:zbD jV 157 4=some (4,1):=by kernel_rfl
@[go_sem] theorem zT4:zaW jV 157 5=some (5,4):=by kernel_rfl
@[go_sem] theorem zT5:zbD jV 157 5=some (5,1):=by kernel_rfl
attribute [go_sem] Tryz.underlying157 Tryz.stoodInHeld157 Tryz.eqGuardType157
@[go_sem] theorem zT6:zaW jV 161 0=some (0,159):=by kernel_rfl
@[go_sem] theorem zT7:zbD jV 161 0=some (0,1):=by kernel_rfl
@[go_sem] theorem zT8:zaW jV 161 1=some (1,35):=by kernel_rfl
@[go_sem] theorem zT9:zbD jV 161 1=some (1,1):=by kernel_rfl
@[go_sem] theorem zUa:zaW jV 161 2=some (2,160):=by kernel_rfl
@[go_sem] theorem zUb:zbD jV 161 2=some (2,1):=by kernel_rfl
attribute [go_sem] Tryz.underlying161 Tryz.stoodInHeld161 Tryz.eqGuardType161
@[go_sem] theorem zUc:zaW jV 162 0=some (0,159):=by kernel_rfl
@[go_sem] theorem zUd:zbD jV 162 0=some (0,1):=by kernel_rfl
@[go_sem] theorem zUe:zaW jV 162 1=some (1,35):=by kernel_rfl
@[go_sem] theorem zUf:zbD jV 162 1=some (1,1):=by kernel_rfl
@[go_sem] theorem zUg:zaW jV 162 2=some (2,160):=by kernel_rfl
@[go_sem] theorem zUh:zbD jV 162 2=some (2,1):=by kernel_rfl
attribute [go_sem] Tryz.underlying162 Tryz.stoodInHeld162 Tryz.eqGuardType162
@[go_sem] theorem zub:zbD jV 187 0=some (0,1):=by kernel_rfl
@[go_sem] theorem zud:zbD jV 187 1=some (1,1):=by kernel_rfl
@[go_sem] theorem zuh:zbD jV 188 0=some (0,1):=by kernel_rfl
@[go_sem] theorem zuj:zbD jV 188 1=some (1,1):=by kernel_rfl
@[go_sem] theorem zI5:zaW jV 197 0=some (0,9):=by kernel_rfl
@[go_sem] theorem zI6:zbD jV 197 0=some (0,1):=by kernel_rfl
@[go_sem] theorem zI7:zaW jV 197 1=some (1,3):=by kernel_rfl
@[go_sem] theorem zI8:zbD jV 197 1=some (1,1):=by kernel_rfl
@[go_sem] theorem zUi:zaW jV 197 2=some (2,3):=by kernel_rfl
@[go_sem] theorem zUj:zbD jV 197 2=some (2,1):=by kernel_rfl
@[go_sem] theorem zUk:zaW jV 197 3=some (3,3):=by kernel_rfl
@[go_sem] theorem zUl:zbD jV 197 3=some (3,1):=by kernel_rfl
@[go_sem] theorem zUm:zaW jV 197 4=some (4,3):=by kernel_rfl
@[go_sem] theorem zUn:zbD jV 197 4=some (4,1):=by kernel_rfl
@[go_sem] theorem zUo:zaW jV 197 5=some (5,4):=by kernel_rfl
@[go_sem] theorem zUp:zbD jV 197 5=some (5,1):=by kernel_rfl
attribute [go_sem] Tryz.underlying197 Tryz.stoodInHeld197 Tryz.eqGuardType197
@[go_sem] theorem zUq:zaW jV 221 0=some (0,3):=by kernel_rfl
@[go_sem] theorem zUr:zbD jV 221 0=some (0,1):=by kernel_rfl
@[go_sem] theorem zUs:zaW jV 221 1=some (1,3):=by kernel_rfl
@[go_sem] theorem zUt:zbD jV 221 1=some (1,1):=by kernel_rfl
@[go_sem] theorem zUu:zaW jV 221 2=some (2,4):=by kernel_rfl
@[go_sem] theorem zUv:zbD jV 221 2=some (2,1):=by kernel_rfl
@[go_sem] theorem zUw:zaW jV 221 3=some (3,3):=by kernel_rfl
@[go_sem] theorem zUx:zbD jV 221 3=some (3,1):=by kernel_rfl
@[go_sem] theorem zUy:zaW jV 221 4=some (4,3):=by kernel_rfl
@[go_sem] theorem zUz:zbD jV 221 4=some (4,1):=by kernel_rfl
attribute [go_sem] Tryz.underlying221 Tryz.stoodInHeld221 Tryz.eqGuardType221
@[go_sem] theorem zUA:zaW jV 222 0=some (0,3):=by kernel_rfl
@[go_sem] theorem zUB:zbD jV 222 0=some (0,1):=by kernel_rfl
@[go_sem] theorem zUC:zaW jV 222 1=some (1,3):=by kernel_rfl
@[go_sem] theorem zUD:zbD jV 222 1=some (1,1):=by kernel_rfl
@[go_sem] theorem zUE:zaW jV 222 2=some (2,4):=by kernel_rfl
@[go_sem] theorem zUF:zbD jV 222 2=some (2,1):=by kernel_rfl
@[go_sem] theorem zUG:zaW jV 222 3=some (3,3):=by kernel_rfl
@[go_sem] theorem zUH:zbD jV 222 3=some (3,1):=by kernel_rfl
@[go_sem] theorem zUI:zaW jV 222 4=some (4,3):=by kernel_rfl
@[go_sem] theorem zUJ:zbD jV 222 4=some (4,1):=by kernel_rfl
attribute [go_sem] Tryz.underlying222 Tryz.stoodInHeld222 Tryz.eqGuardType222
@[go_sem] theorem zUK:zaW jV 229 0=some (0,3):=by kernel_rfl
@[go_sem] theorem zUL:zbD jV 229 0=some (0,1):=by kernel_rfl
@[go_sem] theorem zUM:zaW jV 229 1=some (1,3):=by kernel_rfl
@[go_sem] theorem zUN:zbD jV 229 1=some (1,1):=by kernel_rfl
@[go_sem] theorem zUO:zaW jV 229 2=some (2,3):=by kernel_rfl
@[go_sem] theorem zUP:zbD jV 229 2=some (2,1):=by kernel_rfl
@[go_sem] theorem zUQ:zaW jV 229 3=some (3,3):=by kernel_rfl
@[go_sem] theorem zUR:zbD jV 229 3=some (3,1):=by kernel_rfl
@[go_sem] theorem zUS:zaW jV 229 4=some (4,4):=by kernel_rfl
@[go_sem] theorem zUT:zbD jV 229 4=some (4,1):=by kernel_rfl
attribute [go_sem] Tryz.underlying229 Tryz.stoodInHeld229 Tryz.eqGuardType229
@[go_sem] theorem zUU:zaW jV 230 0=some (0,3):=by kernel_rfl
@[go_sem] theorem zUV:zbD jV 230 0=some (0,1):=by kernel_rfl
@[go_sem] theorem zUW:zaW jV 230 1=some (1,3):=by kernel_rfl
@[go_sem] theorem zUX:zbD jV 230 1=some (1,1):=by kernel_rfl
@[go_sem] theorem zUY:zaW jV 230 2=some (2,3):=by kernel_rfl
@[go_sem] theorem zUZ:zbD jV 230 2=some (2,1):=by kernel_rfl
@[go_sem] theorem zU0:zaW jV 230 3=some (3,3):=by kernel_rfl
@[go_sem] theorem zU1:zbD jV 230 3=some (3,1):=by kernel_rfl
@[go_sem] theorem zU2:zaW jV 230 4=some (4,4):=by kernel_rfl
@[go_sem] theorem zU3:zbD jV 230 4=some (4,1):=by kernel_rfl
attribute [go_sem] Tryz.underlying230 Tryz.stoodInHeld230 Tryz.eqGuardType230
@[go_sem] theorem zU4:zaW jV 243 0=some (0,9):=by kernel_rfl
@[go_sem] theorem zU5:zbD jV 243 0=some (0,1):=by kernel_rfl
@[go_sem] theorem zU6:zaW jV 243 1=some (1,4):=by kernel_rfl
@[go_sem] theorem zU7:zbD jV 243 1=some (1,1):=by kernel_rfl
attribute [go_sem] Tryz.underlying243 Tryz.stoodInHeld243 Tryz.eqGuardType243
@[go_sem] theorem zU8:zaW jV 244 0=some (0,9):=by kernel_rfl
@[go_sem] theorem zU9:zbD jV 244 0=some (0,1):=by kernel_rfl
@[go_sem] theorem zVa:zaW jV 244 1=some (1,4):=by kernel_rfl
@[go_sem] theorem zVb:zbD jV 244 1=some (1,1):=by kernel_rfl
attribute [go_sem] Tryz.underlying244 Tryz.stoodInHeld244 Tryz.eqGuardType244
@[go_sem] theorem zVc:zaW jV 248 0=some (0,3):=by kernel_rfl
@[go_sem] theorem zVd:zbD jV 248 0=some (0,1):=by kernel_rfl
@[go_sem] theorem zVe:zaW jV 248 1=some (1,3):=by kernel_rfl
@[go_sem] theorem zVf:zbD jV 248 1=some (1,1):=by kernel_rfl
@[go_sem] theorem zVg:zaW jV 248 2=some (2,4):=by kernel_rfl
@[go_sem] theorem zVh:zbD jV 248 2=some (2,1):=by kernel_rfl
@[go_sem] theorem zVi:zaW jV 248 3=some (3,3):=by kernel_rfl
@[go_sem] theorem zVj:zbD jV 248 3=some (3,1):=by kernel_rfl
@[go_sem] theorem zVk:zaW jV 248 4=some (4,3):=by kernel_rfl
@[go_sem] theorem zVl:zbD jV 248 4=some (4,1):=by kernel_rfl
attribute [go_sem] Tryz.underlying248 Tryz.stoodInHeld248 Tryz.eqGuardType248
@[go_sem] theorem zVm:zaW jV 257 0=some (0,62):=by kernel_rfl
@[go_sem] theorem zVn:zbD jV 257 0=some (0,12):=by kernel_rfl
@[go_sem] theorem zVo:zaW jV 257 1=some (12,170):=by kernel_rfl
@[go_sem] theorem zVp:zbD jV 257 1=some (12,1):=by kernel_rfl
@[go_sem] theorem zVq:zaW jV 257 2=some (13,255):=by kernel_rfl
@[go_sem] theorem zVr:zbD jV 257 2=some (13,1):=by kernel_rfl
@[go_sem] theorem zVs:zaW jV 257 3=some (14,35):=by kernel_rfl
@[go_sem] theorem zVt:zbD jV 257 3=some (14,1):=by kernel_rfl
@[go_sem] theorem zVu:zaW jV 257 4=some (15,35):=by kernel_rfl
@[go_sem] theorem zVv:zbD jV 257 4=some (15,1):=by kernel_rfl
@[go_sem] theorem zVw:zaW jV 257 5=some (16,3):=by kernel_rfl
@[go_sem] theorem zVx:zbD jV 257 5=some (16,1):=by kernel_rfl
@[go_sem] theorem zVy:zaW jV 257 6=some (17,4):=by kernel_rfl
@[go_sem] theorem zVz:zbD jV 257 6=some (17,1):=by kernel_rfl
attribute [go_sem] Tryz.underlying257 Tryz.stoodInHeld257 Tryz.eqGuardType257
@[go_sem] theorem zVA:zaW jV 258 0=some (0,62):=by kernel_rfl
@[go_sem] theorem zVB:zbD jV 258 0=some (0,12):=by kernel_rfl
@[go_sem] theorem zVC:zaW jV 258 1=some (12,170):=by kernel_rfl
@[go_sem] theorem zVD:zbD jV 258 1=some (12,1):=by kernel_rfl
@[go_sem] theorem zVE:zaW jV 258 2=some (13,255):=by kernel_rfl
@[go_sem] theorem zVF:zbD jV 258 2=some (13,1):=by kernel_rfl
@[go_sem] theorem zVG:zaW jV 258 3=some (14,35):=by kernel_rfl
@[go_sem] theorem zVH:zbD jV 258 3=some (14,1):=by kernel_rfl
@[go_sem] theorem zVI:zaW jV 258 4=some (15,35):=by kernel_rfl
@[go_sem] theorem zVJ:zbD jV 258 4=some (15,1):=by kernel_rfl
@[go_sem] theorem zVK:zaW jV 258 5=some (16,3):=by kernel_rfl
@[go_sem] theorem zVL:zbD jV 258 5=some (16,1):=by kernel_rfl
@[go_sem] theorem zVM:zaW jV 258 6=some (17,4):=by kernel_rfl
@[go_sem] theorem zVN:zbD jV 258 6=some (17,1):=by kernel_rfl
attribute [go_sem] Tryz.underlying258 Tryz.stoodInHeld258 Tryz.eqGuardType258
@[go_sem] theorem zVO:zaW jV 261 0=some (0,62):=by kernel_rfl
@[go_sem] theorem zVP:zbD jV 261 0=some (0,12):=by kernel_rfl
@[go_sem] theorem zVQ:zaW jV 261 1=some (12,170):=by kernel_rfl
@[go_sem] theorem zVR:zbD jV 261 1=some (12,1):=by kernel_rfl
@[go_sem] theorem zVS:zaW jV 261 2=some (13,191):=by kernel_rfl
@[go_sem] theorem zVT:zbD jV 261 2=some (13,1):=by kernel_rfl
@[go_sem] theorem zVU:zaW jV 261 3=some (14,93):=by kernel_rfl
@[go_sem] theorem zVV:zbD jV 261 3=some (14,1):=by kernel_rfl
@[go_sem] theorem zVW:zaW jV 261 4=some (15,35):=by kernel_rfl
@[go_sem] theorem zVX:zbD jV 261 4=some (15,1):=by kernel_rfl
@[go_sem] theorem zVY:zaW jV 261 5=some (16,35):=by kernel_rfl
@[go_sem] theorem zVZ:zbD jV 261 5=some (16,1):=by kernel_rfl
@[go_sem] theorem zV0:zaW jV 261 6=some (17,188):=by kernel_rfl
@[go_sem] theorem zV1:zbD jV 261 6=some (17,2):=by kernel_rfl
@[go_sem] theorem zV2:zaW jV 261 7=some (19,4):=by kernel_rfl
@[go_sem] theorem zV3:zbD jV 261 7=some (19,1):=by kernel_rfl
attribute [go_sem] Tryz.underlying261 Tryz.stoodInHeld261 Tryz.eqGuardType261
@[go_sem] theorem zV4:zaW jV 262 0=some (0,62):=by kernel_rfl
@[go_sem] theorem zV5:zbD jV 262 0=some (0,12):=by kernel_rfl
@[go_sem] theorem zV6:zaW jV 262 1=some (12,170):=by kernel_rfl
@[go_sem] theorem zV7:zbD jV 262 1=some (12,1):=by kernel_rfl
@[go_sem] theorem zV8:zaW jV 262 2=some (13,191):=by kernel_rfl
@[go_sem] theorem zV9:zbD jV 262 2=some (13,1):=by kernel_rfl
@[go_sem] theorem zWa:zaW jV 262 3=some (14,93):=by kernel_rfl
@[go_sem] theorem zWb:zbD jV 262 3=some (14,1):=by kernel_rfl
@[go_sem] theorem zWc:zaW jV 262 4=some (15,35):=by kernel_rfl
@[go_sem] theorem zWd:zbD jV 262 4=some (15,1):=by kernel_rfl
@[go_sem] theorem zWe:zaW jV 262 5=some (16,35):=by kernel_rfl
@[go_sem] theorem zWf:zbD jV 262 5=some (16,1):=by kernel_rfl
@[go_sem] theorem zWg:zaW jV 262 6=some (17,188):=by kernel_rfl
@[go_sem] theorem zWh:zbD jV 262 6=some (17,2):=by kernel_rfl
@[go_sem] theorem zWi:zaW jV 262 7=some (19,4):=by kernel_rfl
@[go_sem] theorem zWj:zbD jV 262 7=some (19,1):=by kernel_rfl
attribute [go_sem] Tryz.underlying262 Tryz.stoodInHeld262 Tryz.eqGuardType262
@[go_sem] theorem zWk:zaW jV 265 0=some (0,9):=by kernel_rfl
@[go_sem] theorem zWl:zbD jV 265 0=some (0,1):=by kernel_rfl
@[go_sem] theorem zWm:zaW jV 265 1=some (1,4):=by kernel_rfl
@[go_sem] theorem zWn:zbD jV 265 1=some (1,1):=by kernel_rfl
attribute [go_sem] Tryz.underlying265 Tryz.stoodInHeld265 Tryz.eqGuardType265
@[go_sem] theorem zWo:zaW jV 268 0=some (0,3):=by kernel_rfl
@[go_sem] theorem zWp:zbD jV 268 0=some (0,1):=by kernel_rfl
@[go_sem] theorem zWq:zaW jV 268 1=some (1,3):=by kernel_rfl
@[go_sem] theorem zWr:zbD jV 268 1=some (1,1):=by kernel_rfl
@[go_sem] theorem zWs:zaW jV 268 2=some (2,3):=by kernel_rfl
@[go_sem] theorem zWt:zbD jV 268 2=some (2,1):=by kernel_rfl
attribute [go_sem] Tryz.underlying268 Tryz.stoodInHeld268 Tryz.eqGuardType268
@[go_sem] theorem zWu:zaW jV 271 0=some (0,3):=by kernel_rfl
@[go_sem] theorem zWv:zbD jV 271 0=some (0,1):=by kernel_rfl
@[go_sem] theorem zWw:zaW jV 271 1=some (1,3):=by kernel_rfl
@[go_sem] theorem zWx:zbD jV 271 1=some (1,1):=by kernel_rfl
@[go_sem] theorem zWy:zaW jV 271 2=some (2,3):=by kernel_rfl
@[go_sem] theorem zWz:zbD jV 271 2=some (2,1):=by kernel_rfl
@[go_sem] theorem zWA:zaW jV 271 3=some (3,3):=by kernel_rfl
@[go_sem] theorem zWB:zbD jV 271 3=some (3,1):=by kernel_rfl
@[go_sem] theorem zWC:zaW jV 271 4=some (4,4):=by kernel_rfl
@[go_sem] theorem zWD:zbD jV 271 4=some (4,1):=by kernel_rfl
attribute [go_sem] Tryz.underlying271 Tryz.stoodInHeld271 Tryz.eqGuardType271
@[go_sem] theorem zWE:zaW jV 296 0=some (0,3):=by kernel_rfl
@[go_sem] theorem zWF:zbD jV 296 0=some (0,1):=by kernel_rfl
@[go_sem] theorem zWG:zaW jV 296 1=some (1,3):=by kernel_rfl
@[go_sem] theorem zWH:zbD jV 296 1=some (1,1):=by kernel_rfl
@[go_sem] theorem zWI:zaW jV 296 2=some (2,3):=by kernel_rfl
@[go_sem] theorem zWJ:zbD jV 296 2=some (2,1):=by kernel_rfl
attribute [go_sem] Tryz.underlying296 Tryz.stoodInHeld296 Tryz.eqGuardType296
@[go_sem] theorem zWK:zaW jV 297 0=some (0,3):=by kernel_rfl
@[go_sem] theorem zWL:zbD jV 297 0=some (0,1):=by kernel_rfl
@[go_sem] theorem zWM:zaW jV 297 1=some (1,3):=by kernel_rfl
@[go_sem] theorem zWN:zbD jV 297 1=some (1,1):=by kernel_rfl
@[go_sem] theorem zWO:zaW jV 297 2=some (2,3):=by kernel_rfl
@[go_sem] theorem zWP:zbD jV 297 2=some (2,1):=by kernel_rfl
attribute [go_sem] Tryz.underlying297 Tryz.stoodInHeld297 Tryz.eqGuardType297
@[go_sem] theorem zWQ:zaW jV 302 0=some (0,3):=by kernel_rfl
@[go_sem] theorem zWR:zbD jV 302 0=some (0,1):=by kernel_rfl
@[go_sem] theorem zWS:zaW jV 302 1=some (1,3):=by kernel_rfl
@[go_sem] theorem zWT:zbD jV 302 1=some (1,1):=by kernel_rfl
@[go_sem] theorem zWU:zaW jV 302 2=some (2,3):=by kernel_rfl
@[go_sem] theorem zWV:zbD jV 302 2=some (2,1):=by kernel_rfl
@[go_sem] theorem zWW:zaW jV 302 3=some (3,3):=by kernel_rfl
@[go_sem] theorem zWX:zbD jV 302 3=some (3,1):=by kernel_rfl
attribute [go_sem] Tryz.underlying302 Tryz.stoodInHeld302 Tryz.eqGuardType302
@[go_sem] theorem zWY:zaW jV 303 0=some (0,3):=by kernel_rfl
@[go_sem] theorem zWZ:zbD jV 303 0=some (0,1):=by kernel_rfl
@[go_sem] theorem zW0:zaW jV 303 1=some (1,3):=by kernel_rfl
@[go_sem] theorem zW1:zbD jV 303 1=some (1,1):=by kernel_rfl
@[go_sem] theorem zW2:zaW jV 303 2=some (2,3):=by kernel_rfl
@[go_sem] theorem zW3:zbD jV 303 2=some (2,1):=by kernel_rfl
@[go_sem] theorem zW4:zaW jV 303 3=some (3,3):=by kernel_rfl
@[go_sem] theorem zW5:zbD jV 303 3=some (3,1):=by kernel_rfl
attribute [go_sem] Tryz.underlying303 Tryz.stoodInHeld303 Tryz.eqGuardType303
@[go_sem] theorem zW6:zaW jV 312 0=some (0,3):=by kernel_rfl
@[go_sem] theorem zW7:zbD jV 312 0=some (0,1):=by kernel_rfl
@[go_sem] theorem zW8:zaW jV 312 1=some (1,3):=by kernel_rfl
@[go_sem] theorem zW9:zbD jV 312 1=some (1,1):=by kernel_rfl
@[go_sem] theorem zXa:zaW jV 312 2=some (2,3):=by kernel_rfl
@[go_sem] theorem zXb:zbD jV 312 2=some (2,1):=by kernel_rfl
attribute [go_sem] Tryz.underlying312 Tryz.stoodInHeld312 Tryz.eqGuardType312
@[go_sem] theorem zXc:zaW jV 319 0=some (0,3):=by kernel_rfl
@[go_sem] theorem zXd:zbD jV 319 0=some (0,1):=by kernel_rfl
@[go_sem] theorem zXe:zaW jV 319 1=some (1,3):=by kernel_rfl
@[go_sem] theorem zXf:zbD jV 319 1=some (1,1):=by kernel_rfl
attribute [go_sem] Tryz.underlying319 Tryz.stoodInHeld319 Tryz.eqGuardType319
@[go_sem] theorem zXg:zaW jV 320 0=some (0,3):=by kernel_rfl
@[go_sem] theorem zXh:zbD jV 320 0=some (0,1):=by kernel_rfl
@[go_sem] theorem zXi:zaW jV 320 1=some (1,3):=by kernel_rfl
@[go_sem] theorem zXj:zbD jV 320 1=some (1,1):=by kernel_rfl
attribute [go_sem] Tryz.underlying320 Tryz.stoodInHeld320 Tryz.eqGuardType320
@[go_sem] theorem zXk:zbD jV 323 0=some (0,1):=by kernel_rfl
@[go_sem] theorem zXl:zbD jV 323 1=some (1,1):=by kernel_rfl
@[go_sem] theorem zXm:zbD jV 323 2=some (2,1):=by kernel_rfl
@[go_sem] theorem zXn:zbD jV 323 3=some (3,1):=by kernel_rfl
@[go_sem] theorem zXo:zbD jV 323 4=some (4,1):=by kernel_rfl
@[go_sem] theorem zXp:zbD jV 323 5=some (5,1):=by kernel_rfl
@[go_sem] theorem zXq:zbD jV 323 6=some (6,1):=by kernel_rfl
@[go_sem] theorem zXr:zbD jV 323 7=some (7,1):=by kernel_rfl
@[go_sem] theorem zXs:zaW jV 349 0=some (0,345):=by kernel_rfl
@[go_sem] theorem zXt:zbD jV 349 0=some (0,1):=by kernel_rfl
@[go_sem] theorem zXu:zaW jV 349 1=some (1,3):=by kernel_rfl
@[go_sem] theorem zXv:zbD jV 349 1=some (1,1):=by kernel_rfl
@[go_sem] theorem zXw:zaW jV 349 2=some (2,345):=by kernel_rfl
@[go_sem] theorem zXx:zbD jV 349 2=some (2,1):=by kernel_rfl
@[go_sem] theorem zXy:zaW jV 349 3=some (3,35):=by kernel_rfl
@[go_sem] theorem zXz:zbD jV 349 3=some (3,1):=by kernel_rfl
attribute [go_sem] Tryz.underlying349 Tryz.stoodInHeld349 Tryz.eqGuardType349
@[go_sem] theorem zXA:zaW jV 350 0=some (0,345):=by kernel_rfl
@[go_sem] theorem zXB:zbD jV 350 0=some (0,1):=by kernel_rfl
@[go_sem] theorem zXC:zaW jV 350 1=some (1,3):=by kernel_rfl
@[go_sem] theorem zXD:zbD jV 350 1=some (1,1):=by kernel_rfl
@[go_sem] theorem zXE:zaW jV 350 2=some (2,345):=by kernel_rfl
@[go_sem] theorem zXF:zbD jV 350 2=some (2,1):=by kernel_rfl
@[go_sem] theorem zXG:zaW jV 350 3=some (3,35):=by kernel_rfl
@[go_sem] theorem zXH:zbD jV 350 3=some (3,1):=by kernel_rfl
attribute [go_sem] Tryz.underlying350 Tryz.stoodInHeld350 Tryz.eqGuardType350
set_option maxHeartbeats 1000000
theorem zXI (a:Sl Int) (n:Int) (h:Hp) (ha:a.Ok h) (hn:0≤n∧n≤1048576):Ct jV 142 [a.val,.int .i64 n] h fun v h'=>v=.int .i64 (zOJ n (Blk.blk a))∧h'=h:=by
 have hl:=ha.max
 rw [zOI (fun _=>rfl) a]
 refine zdn (fun A W=>by simp) Tryz.func142 rfl rfl (by simp) fun W0=>?_
 refine Wk ?_
 refine zc9 rfl (fun hc=>?_) (fun hc=>?_)
 ·refine Wk ?_
  rw [zOQ hn hl] at hc
  exact zOP (zOR hc) (Nat.le_refl _)
 ·refine Wk ?_
  rw [zOQ hn hl] at hc ⊢
  rw [(zOS hc).1]
theorem zXJ (c:DPoint) (n:Int) (h:Hp) (hc:Enc.ok h c) (hn:0≤n∧n≤1048576):Ct jV 215 [.agg #[.string c.name,.bool c.wait],.int .i64 n] h fun v h'=>v=.int .i64 (zOJ n (Blk.blk c))∧h'=h:=by
 rw [zkR]
 have o_name:=hc
 refine zdn (fun A W=>by simp) Tryz.func215 rfl rfl (by simp) fun W0=>?_
 refine Wk ?_
 have hl0:c.name.size≤9223372036854775807:=o_name
 refine zc9 rfl (fun hd=>?_) (fun hd=>?_)
 ·refine Wk ?_
  rw [zOQ hn hl0] at hd
  exact zOP (zOR hd) (by first|exact Nat.le_refl _|omega)
 rw [zOQ hn hl0] at hd
 have hp0:=zOS hd
 refine Wk ?_
 rw [zOQ hn hl0,hp0.1];rfl
theorem zXK (c:DShip) (n:Int) (h:Hp) (hc:Enc.ok h c) (hn:0≤n∧n≤1048576):Ct jV 141 [.agg #[.string c.name,.int .i64 c.length,.int .i64 c.draught,.int .i64 c.line,.int .i64 c.tugs,.bool c.slow],.int .i64 n] h fun v h'=>v=.int .i64 (zOJ n (Blk.blk c))∧h'=h:=by
 rw [zkZ]
 have hc':=hc
 obtain ⟨o_name,o_length,o_draught,o_line,o_tugs⟩:=hc'
 refine zdn (fun A W=>by simp) Tryz.func141 rfl rfl (by simp) fun W0=>?_
 refine Wk ?_
 have hl0:c.name.size≤9223372036854775807:=o_name
 refine zc9 rfl (fun hd=>?_) (fun hd=>?_)
 ·refine Wk ?_
  rw [zOQ hn hl0] at hd
  exact zOP (zOR hd) (by first|exact Nat.le_refl _|omega)
 rw [zOQ hn hl0] at hd
 have hp0:=zOS hd
 refine Wk ?_
 rw [zOQ hn hl0,hp0.1];rfl
theorem zXM (c:DCrew) (n:Int) (h:Hp) (hc:Enc.ok h c) (hn:0≤n∧n≤1048576):Ct jV 63 [.agg #[.int .i64 c.tugs,.int .i64 c.pilots,.int .i64 c.rest,c.moves.val],.int .i64 n] h fun v h'=>v=.int .i64 (zOJ n (Blk.blk c))∧h'=h:=by
 rw [zkF]
 have hc':=hc
 obtain ⟨o_tugs,o_pilots,o_rest,o_moves⟩:=hc'
 refine zdn (fun A W=>by simp) Tryz.func63 rfl rfl (by simp) fun W0=>?_
 repeat' first|refine Wa ?_|refine zhF (fun _=>zXI _ _ _ o_moves hn) ?_|(simp only [go_sem,jq,jj,jy,jv,jk,jx];try rfl)|refine Wb ?_|fail
 refine zc9 rfl (fun hd=>?_) (fun hd=>?_)
 ·refine Wk ?_
  exact zOP (of_decide_eq_true hd) (by omega)
 have hp0:=zOL hd
 exact Wk0
theorem zXN (a:Sl DPart) (n:Int) (h:Hp) (ha:a.Ok h) (hn:0≤n∧n≤1048576):Ct jV 214 [a.val,.int .i64 n] h fun v h'=>v=.int .i64 (zOJ n (Blk.blk a))∧h'=h:=by
 have hl:=ha.max
 rw [zOI (fun _=>rfl) a]
 refine zdn (fun A W=>by simp) Tryz.func214 rfl rfl (by simp) fun W0=>?_
 refine Wk ?_
 refine zc9 rfl (fun hc=>?_) (fun hc=>?_)
 ·refine Wk ?_
  rw [zOQ hn hl] at hc
  exact zOP (zOR hc) (Nat.le_refl _)
 ·refine Wk ?_
  rw [zOQ hn hl] at hc ⊢
  rw [(zOS hc).1]
theorem zXO (a:Sl DPoint) (n:Int) (h:Hp) (ha:a.Ok h) (hn:0≤n∧n≤1048576):Ct jV 139 [a.val,.int .i64 n] h fun v h'=>v=.int .i64 (zOJ n (Blk.blk a))∧h'=h:=by
 have hl:=ha.max
 rw [zkt]
 refine zdn (fun A W=>by simp) Tryz.func139 rfl rfl (by simp) fun W0=>?_
 refine Wk ?_
 refine zc9 rfl (fun hc=>?_) (fun hc=>?_)
 ·refine Wk ?_
  rw [zOQ hn hl] at hc
  exact zOP (zOR hc) (Nat.le_add_right _ _)
 rw [zOQ hn hl] at hc
 have hp:=zOS hc
 refine Wk ?_
 refine zde (ι:=Nat) (fun k=>⟨[(0,true,.c (.v a.val)),(1,true,.c (.v (.int .i64 (zOJ n (a.l.length+((a.l.map Blk.blk).take k).sum))))),(5,true,.c (.v (.int .i64 k)))],[],h,0⟩) (fun k=>k≤a.l.length∧0≤zOJ n (a.l.length+((a.l.map Blk.blk).take k).sum)) (fun k=>a.l.length - k) 0 ⟨Nat.zero_le _,hp.2⟩ ?_ ?_
 ·refine Evs ?_
  exact ⟨by rw [zOQ hn hl,hp.1];rfl,rfl⟩
 intro k hk
 refine Wk ?_
 refine zc9 rfl (fun hd=>?_) (fun hd=>?_)
 ·have hlt:=zjH hd
  have hlm:k < (a.l.map Blk.blk).length:=by rw [List.length_map];exact hlt
  repeat' first|refine Wa ?_|refine zhF (fun _=>zXJ _ _ _ (ha.el hlt) (zON hn hk.2)) ?_|(simp only [go_sem,jq,jj,jy,jv,jk,jx,zkS ha hlt,ha.some hlt,hlt,jW];try rfl)|refine Wb ?_|fail
  refine zc9 rfl (fun hg=>?_) (fun hg=>?_)
  ·refine Wk ?_
   rw [zOK hk.2] at hg
   refine zOP (of_decide_eq_true hg) ?_
   have:=zOT hlm
   rw [List.getElem_map] at this
   have:=zOU (l:=a.l.map Blk.blk) (k:=k+1)
   omega
  ·rw [zOK hk.2] at hg
   have hs:=zOT hlm
   rw [List.getElem_map] at hs
   have he:a.l.length+((a.l.map Blk.blk).take k).sum+Blk.blk a.l[k]=a.l.length+((a.l.map Blk.blk).take (k+1)).sum:=by omega
   rw [he] at hg
   refine Wk ?_
   exact ⟨k+1,⟨hlt,zOL hg⟩,by omega,by rw [zOK hk.2,he],zjB (zjA hlt hl)⟩
 ·have hge:=zjI hd
  refine Wk ?_
  rw [List.take_of_length_le (by rw [List.length_map];exact hge)]
theorem zXP (a:Sl DSegment) (n:Int) (h:Hp) (ha:a.Ok h) (hn:0≤n∧n≤1048576):Ct jV 140 [a.val,.int .i64 n] h fun v h'=>v=.int .i64 (zOJ n (Blk.blk a))∧h'=h:=by
 have hl:=ha.max
 rw [zOI (fun _=>rfl) a]
 refine zdn (fun A W=>by simp) Tryz.func140 rfl rfl (by simp) fun W0=>?_
 refine Wk ?_
 refine zc9 rfl (fun hc=>?_) (fun hc=>?_)
 ·refine Wk ?_
  rw [zOQ hn hl] at hc
  exact zOP (zOR hc) (Nat.le_refl _)
 ·refine Wk ?_
  rw [zOQ hn hl] at hc ⊢
  rw [(zOS hc).1]
theorem zXQ (a:Sl DShip) (n:Int) (h:Hp) (ha:a.Ok h) (hn:0≤n∧n≤1048576):Ct jV 62 [a.val,.int .i64 n] h fun v h'=>v=.int .i64 (zOJ n (Blk.blk a))∧h'=h:=by
 have hl:=ha.max
 rw [zkt]
 refine zdn (fun A W=>by simp) Tryz.func62 rfl rfl (by simp) fun W0=>?_
 refine Wk ?_
 refine zc9 rfl (fun hc=>?_) (fun hc=>?_)
 ·refine Wk ?_
  rw [zOQ hn hl] at hc
  exact zOP (zOR hc) (Nat.le_add_right _ _)
 rw [zOQ hn hl] at hc
 have hp:=zOS hc
 refine Wk ?_
 refine zde (ι:=Nat) (fun k=>⟨[(0,true,.c (.v a.val)),(1,true,.c (.v (.int .i64 (zOJ n (a.l.length+((a.l.map Blk.blk).take k).sum))))),(5,true,.c (.v (.int .i64 k)))],[],h,0⟩) (fun k=>k≤a.l.length∧0≤zOJ n (a.l.length+((a.l.map Blk.blk).take k).sum)) (fun k=>a.l.length - k) 0 ⟨Nat.zero_le _,hp.2⟩ ?_ ?_
 ·refine Evs ?_
  exact ⟨by rw [zOQ hn hl,hp.1];rfl,rfl⟩
 intro k hk
 refine Wk ?_
 refine zc9 rfl (fun hd=>?_) (fun hd=>?_)
 ·have hlt:=zjH hd
  have hlm:k < (a.l.map Blk.blk).length:=by rw [List.length_map];exact hlt
  repeat' first|refine Wa ?_|refine zhF (fun _=>zXK _ _ _ (ha.el hlt) (zON hn hk.2)) ?_|(simp only [go_sem,jq,jj,jy,jv,jk,jx,zk0 ha hlt,ha.some hlt,hlt,jW];try rfl)|refine Wb ?_|fail
  refine zc9 rfl (fun hg=>?_) (fun hg=>?_)
  ·refine Wk ?_
   rw [zOK hk.2] at hg
   refine zOP (of_decide_eq_true hg) ?_
   have:=zOT hlm
   rw [List.getElem_map] at this
   have:=zOU (l:=a.l.map Blk.blk) (k:=k+1)
   omega
  ·rw [zOK hk.2] at hg
   have hs:=zOT hlm
   rw [List.getElem_map] at hs
   have he:a.l.length+((a.l.map Blk.blk).take k).sum+Blk.blk a.l[k]=a.l.length+((a.l.map Blk.blk).take (k+1)).sum:=by omega
   rw [he] at hg
   refine Wk ?_
   exact ⟨k+1,⟨hlt,zOL hg⟩,by omega,by rw [zOK hk.2,he],zjB (zjA hlt hl)⟩
 ·have hge:=zjI hd
  refine Wk ?_
  rw [List.take_of_length_le (by rw [List.length_map];exact hge)]
theorem zXR (a:Sl DSurge) (n:Int) (h:Hp) (ha:a.Ok h) (hn:0≤n∧n≤1048576):Ct jV 138 [a.val,.int .i64 n] h fun v h'=>v=.int .i64 (zOJ n (Blk.blk a))∧h'=h:=by
 have hl:=ha.max
 rw [zOI (fun _=>rfl) a]
 refine zdn (fun A W=>by simp) Tryz.func138 rfl rfl (by simp) fun W0=>?_
 refine Wk ?_
 refine zc9 rfl (fun hc=>?_) (fun hc=>?_)
 ·refine Wk ?_
  rw [zOQ hn hl] at hc
  exact zOP (zOR hc) (Nat.le_refl _)
 ·refine Wk ?_
  rw [zOQ hn hl] at hc ⊢
  rw [(zOS hc).1]
theorem zXS (c:DChart) (n:Int) (h:Hp) (hc:Enc.ok h c) (hn:0≤n∧n≤1048576):Ct jV 61 [.agg #[c.points.val,c.segments.val],.int .i64 n] h fun v h'=>v=.int .i64 (zOJ n (Blk.blk c))∧h'=h:=by
 rw [zkX]
 have hc':=hc
 obtain ⟨o_points,o_segments⟩:=hc'
 refine zdn (fun A W=>by simp) Tryz.func61 rfl rfl (by simp) fun W0=>?_
 repeat' first|refine Wa ?_|refine zhF (fun _=>zXO _ _ _ o_points hn) ?_|(simp only [go_sem,jq,jj,jy,jv,jk,jx];try rfl)|refine Wb ?_|fail
 refine zc9 rfl (fun hd=>?_) (fun hd=>?_)
 ·refine Wk ?_
  exact zOP (of_decide_eq_true hd) (by omega)
 have hp0:=zOL hd
 repeat' first|refine Wa ?_|refine zhF (fun _=>zXP _ _ _ o_segments (zON hn hp0)) ?_|(simp only [go_sem,jq,jj,jy,jv,jk,jx];try rfl)|refine Wb ?_|fail
 refine zc9 rfl (fun hd=>?_) (fun hd=>?_)
 ·refine Wk ?_
  rw [zOK hp0] at hd
  exact zOP (of_decide_eq_true hd) (by omega)
 have hp1:=zOL hd
 rw [zOK hp0] at hp1
 refine Wk ?_
 rw [zOK hp0]
theorem zXT (c:DTide) (n:Int) (h:Hp) (hc:Enc.ok h c) (hn:0≤n∧n≤1048576):Ct jV 137 [.agg #[.int .i64 c.mean,c.parts.val],.int .i64 n] h fun v h'=>v=.int .i64 (zOJ n (Blk.blk c))∧h'=h:=by
 rw [zkK]
 have hc':=hc
 obtain ⟨o_mean,o_parts⟩:=hc'
 refine zdn (fun A W=>by simp) Tryz.func137 rfl rfl (by simp) fun W0=>?_
 repeat' first|refine Wa ?_|refine zhF (fun _=>zXN _ _ _ o_parts hn) ?_|(simp only [go_sem,jq,jj,jy,jv,jk,jx];try rfl)|refine Wb ?_|fail
 refine zc9 rfl (fun hd=>?_) (fun hd=>?_)
 ·refine Wk ?_
  exact zOP (of_decide_eq_true hd) (by omega)
 have hp0:=zOL hd
 exact Wk0
theorem zXU (c:DForecast) (n:Int) (h:Hp) (hc:Enc.ok h c) (hn:0≤n∧n≤1048576):Ct jV 60 [.agg #[.int .i64 c.tide.mean,c.tide.parts.val,c.surges.val],.int .i64 n] h fun v h'=>v=.int .i64 (zOJ n (Blk.blk c))∧h'=h:=by
 rw [zkP]
 have hc':=hc
 obtain ⟨o_tide,o_surges⟩:=hc'
 refine zdn (fun A W=>by simp) Tryz.func60 rfl rfl (by simp) fun W0=>?_
 repeat' first|refine Wa ?_|refine zhF (fun _=>zXT _ _ _ o_tide hn) ?_|(simp only [go_sem,jq,jj,jy,jv,jk,jx];try rfl)|refine Wb ?_|fail
 refine zc9 rfl (fun hd=>?_) (fun hd=>?_)
 ·refine Wk ?_
  exact zOP (of_decide_eq_true hd) (by omega)
 have hp0:=zOL hd
 repeat' first|refine Wa ?_|refine zhF (fun _=>zXR _ _ _ o_surges (zON hn hp0)) ?_|(simp only [go_sem,jq,jj,jy,jv,jk,jx];try rfl)|refine Wb ?_|fail
 refine zc9 rfl (fun hd=>?_) (fun hd=>?_)
 ·refine Wk ?_
  rw [zOK hp0] at hd
  exact zOP (of_decide_eq_true hd) (by omega)
 have hp1:=zOL hd
 rw [zOK hp0] at hp1
 refine Wk ?_
 rw [zOK hp0]
theorem zXV (c:DHarbour) (n:Int) (h:Hp) (hc:Enc.ok h c) (hn:0≤n∧n≤1048576):Ct jV 13 [.agg #[.int .i64 c.forecast.tide.mean,c.forecast.tide.parts.val,c.forecast.surges.val,c.chart.points.val,c.chart.segments.val,c.fleet.val,.int .i64 c.regime.gap,.bool c.regime.noMeet,.int .i64 c.crew.tugs,.int .i64 c.crew.pilots,.int .i64 c.crew.rest,c.crew.moves.val],.int .i64 n] h fun v h'=>v=.int .i64 (zOJ n (Blk.blk c))∧h'=h:=by
 rw [zk4]
 have hc':=hc
 obtain ⟨o_forecast,o_chart,o_fleet,o_regime,o_crew⟩:=hc'
 refine zdn (fun A W=>by simp) Tryz.func13 rfl rfl (by simp) fun W0=>?_
 repeat' first|refine Wa ?_|refine zhF (fun _=>zXU _ _ _ o_forecast hn) ?_|(simp only [go_sem,jq,jj,jy,jv,jk,jx];try rfl)|refine Wb ?_|fail
 refine zc9 rfl (fun hd=>?_) (fun hd=>?_)
 ·refine Wk ?_
  exact zOP (of_decide_eq_true hd) (by omega)
 have hp0:=zOL hd
 repeat' first|refine Wa ?_|refine zhF (fun _=>zXS _ _ _ o_chart (zON hn hp0)) ?_|(simp only [go_sem,jq,jj,jy,jv,jk,jx];try rfl)|refine Wb ?_|fail
 refine zc9 rfl (fun hd=>?_) (fun hd=>?_)
 ·refine Wk ?_
  rw [zOK hp0] at hd
  exact zOP (of_decide_eq_true hd) (by omega)
 have hp1:=zOL hd
 rw [zOK hp0] at hp1
 repeat' first|refine Wa ?_|refine zhF (fun _=>zXQ _ _ _ o_fleet (by rw [zOK hp0];exact zON hn hp1)) ?_|(simp only [go_sem,jq,jj,jy,jv,jk,jx];try rfl)|refine Wb ?_|fail
 refine zc9 rfl (fun hd=>?_) (fun hd=>?_)
 ·refine Wk ?_
  rw [zOK hp0] at hd
  rw [zOK hp1] at hd
  exact zOP (of_decide_eq_true hd) (by omega)
 have hp2:=zOL hd
 rw [zOK hp0,zOK hp1] at hp2
 repeat' first|refine Wa ?_|refine zhF (fun _=>zXM _ _ _ o_crew (by rw [zOK hp0,zOK hp1];exact zON hn hp2)) ?_|(simp only [go_sem,jq,jj,jy,jv,jk,jx];try rfl)|refine Wb ?_|fail
 refine zc9 rfl (fun hd=>?_) (fun hd=>?_)
 ·refine Wk ?_
  rw [zOK hp0] at hd
  rw [zOK hp1] at hd
  rw [zOK hp2] at hd
  exact zOP (of_decide_eq_true hd) (by omega)
 have hp3:=zOL hd
 rw [zOK hp0,zOK hp1,zOK hp2] at hp3
 refine Wk ?_
 rw [zOK hp0,zOK hp1,zOK hp2]
end Go.Proofs.YtbkaaakphpbmiaaGreat
