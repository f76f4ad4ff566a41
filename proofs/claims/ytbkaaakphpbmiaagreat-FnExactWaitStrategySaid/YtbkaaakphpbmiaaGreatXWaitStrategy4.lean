/- What functions of the given program compute, as contracts. -/
import Derived.Test.YtbkaaakphpbmiaaGreatProg
import Derived.Test.YtbkaaakphpbmiaaGreatSWaitStrategyx2
import Derived.Test.YtbkaaakphpbmiaaGreatSWaitStrategyx3
set_option linter.unusedVariables false
set_option linter.unusedSimpArgs false
set_option maxRecDepth 4000
open Nat renaming reduceAdd → jq, reduceMul → jj, reduceBEq → jy, reduceLeDiff → jv, reduceLT → jk, reduceEqDiff → jx, zero_le → jC, le_refl → qV, le_trans → wK, mul_le_mul_right → wP, add_mul → yP, le_add_right → uK
open Int renaming toNat_natCast → jW
open Go.SL.Con renaming con → jK
open Go.SL.Hp renaming le_trans → jB, le_refl → wW
open Go.SL.Enc renaming ok → jD, mono → jL
open List renaming length_map → jH, take_succ_eq_append_getElem → qw, take_of_length_le → qy, getElem_map → qH, getElem_of_mem → qL, length_take → ww
open Go.SL.Blk renaming blk → yW
open Go.Proofs.Tryz renaming prog → jV
namespace Go.Proofs.YtbkaaakphpbmiaaGreat
open Go Go.SL
@[go_sem] theorem ty_1:hasT jV 1=true∧szT jV 1=1∧Tryz.prog.bytesOf 1=8∧aggT jV 1=false∧zaX jV 1=none∧arrT jV 1=none∧zbF jV 1=some [.nilFunc]:=by and_intros <;> kernel_rfl
@[go_sem] theorem ty_2:hasT jV 2=true∧szT jV 2=1∧Tryz.prog.bytesOf 2=8∧aggT jV 2=false∧zaX jV 2=none∧arrT jV 2=none∧zbF jV 2=some [.int .i64 0]∧intT jV 2=some .i64:=by and_intros <;> kernel_rfl
attribute [go_sem] Tryz.underlying2
@[go_sem] theorem ty_3:hasT jV 3=true∧szT jV 3=1∧Tryz.prog.bytesOf 3=8∧aggT jV 3=false∧zaX jV 3=none∧arrT jV 3=none∧zbF jV 3=some [.int .i64 0]∧intT jV 3=some .i64:=by and_intros <;> kernel_rfl
attribute [go_sem] Tryz.underlying3
@[go_sem] theorem ty_4:hasT jV 4=true∧szT jV 4=1∧Tryz.prog.bytesOf 4=1∧aggT jV 4=false∧zaX jV 4=none∧arrT jV 4=none∧zbF jV 4=some [.bool false]:=by and_intros <;> kernel_rfl
attribute [go_sem] Tryz.underlying4
@[go_sem] theorem ty_5:hasT jV 5=true∧szT jV 5=1∧Tryz.prog.bytesOf 5=1∧aggT jV 5=false∧zaX jV 5=none∧arrT jV 5=none∧zbF jV 5=some [.int .u8 0]∧intT jV 5=some .u8:=by and_intros <;> kernel_rfl
attribute [go_sem] Tryz.underlying5
@[go_sem] theorem ty_9:hasT jV 9=true∧szT jV 9=1∧Tryz.prog.bytesOf 9=16∧aggT jV 9=false∧zaX jV 9=none∧arrT jV 9=none∧zbF jV 9=some [.string ByteArray.empty]∧strT jV 9=true:=by and_intros <;> kernel_rfl
attribute [go_sem] Tryz.underlying9
@[go_sem] theorem zoe:hasT jV 12=true∧szT jV 12=1∧Tryz.prog.bytesOf 12=8∧aggT jV 12=false∧zaX jV 12=none∧arrT jV 12=none∧zbF jV 12=some [.int .u64 0]∧intT jV 12=some .u64:=by and_intros <;> kernel_rfl
attribute [go_sem] Tryz.underlying12
@[go_sem] theorem zof:hasT jV 13=true∧szT jV 13=2∧Tryz.prog.bytesOf 13=24∧aggT jV 13=true∧zaX jV 13=none∧arrT jV 13=none∧zbF jV 13=some [.string ByteArray.empty,.int .u64 0]∧zbE jV 13=true:=by and_intros <;> kernel_rfl
@[go_sem] theorem zog:hasT jV 22=true∧szT jV 22=1∧Tryz.prog.bytesOf 22=24∧aggT jV 22=false∧zaX jV 22=some 312∧arrT jV 22=none∧zbF jV 22=some [.slice none 0 0]:=by and_intros <;> kernel_rfl
@[go_sem] theorem zoh:hasT jV 23=true∧szT jV 23=2∧Tryz.prog.bytesOf 23=32∧aggT jV 23=true∧zaX jV 23=none∧arrT jV 23=none∧zbF jV 23=some [.int .i64 0,.slice none 0 0]∧zbE jV 23=true:=by and_intros <;> kernel_rfl
@[go_sem] theorem zoi:hasT jV 24=true∧szT jV 24=2∧Tryz.prog.bytesOf 24=32∧aggT jV 24=true∧zaX jV 24=none∧arrT jV 24=none∧zbF jV 24=some [.int .i64 0,.slice none 0 0]∧zbE jV 24=true:=by and_intros <;> kernel_rfl
@[go_sem] theorem zoj:hasT jV 25=true∧szT jV 25=1∧Tryz.prog.bytesOf 25=24∧aggT jV 25=false∧zaX jV 25=some 268∧arrT jV 25=none∧zbF jV 25=some [.slice none 0 0]:=by and_intros <;> kernel_rfl
@[go_sem] theorem zok:hasT jV 26=true∧szT jV 26=3∧Tryz.prog.bytesOf 26=56∧aggT jV 26=true∧zaX jV 26=none∧arrT jV 26=none∧zbF jV 26=some [.int .i64 0,.slice none 0 0,.slice none 0 0]∧zbE jV 26=true:=by and_intros <;> kernel_rfl
@[go_sem] theorem zol:hasT jV 27=true∧szT jV 27=3∧Tryz.prog.bytesOf 27=56∧aggT jV 27=true∧zaX jV 27=none∧arrT jV 27=none∧zbF jV 27=some [.int .i64 0,.slice none 0 0,.slice none 0 0]∧zbE jV 27=true:=by and_intros <;> kernel_rfl
@[go_sem] theorem zom:hasT jV 28=true∧szT jV 28=1∧Tryz.prog.bytesOf 28=24∧aggT jV 28=false∧zaX jV 28=some 265∧arrT jV 28=none∧zbF jV 28=some [.slice none 0 0]:=by and_intros <;> kernel_rfl
@[go_sem] theorem zon:hasT jV 29=true∧szT jV 29=1∧Tryz.prog.bytesOf 29=24∧aggT jV 29=false∧zaX jV 29=some 271∧arrT jV 29=none∧zbF jV 29=some [.slice none 0 0]:=by and_intros <;> kernel_rfl
@[go_sem] theorem zoo:hasT jV 30=true∧szT jV 30=2∧Tryz.prog.bytesOf 30=48∧aggT jV 30=true∧zaX jV 30=none∧arrT jV 30=none∧zbF jV 30=some [.slice none 0 0,.slice none 0 0]∧zbE jV 30=true:=by and_intros <;> kernel_rfl
@[go_sem] theorem zop:hasT jV 31=true∧szT jV 31=2∧Tryz.prog.bytesOf 31=48∧aggT jV 31=true∧zaX jV 31=none∧arrT jV 31=none∧zbF jV 31=some [.slice none 0 0,.slice none 0 0]∧zbE jV 31=true:=by and_intros <;> kernel_rfl
@[go_sem] theorem zoq:hasT jV 32=true∧szT jV 32=1∧Tryz.prog.bytesOf 32=24∧aggT jV 32=false∧zaX jV 32=some 197∧arrT jV 32=none∧zbF jV 32=some [.slice none 0 0]:=by and_intros <;> kernel_rfl
@[go_sem] theorem zor:hasT jV 33=true∧szT jV 33=2∧Tryz.prog.bytesOf 33=16∧aggT jV 33=true∧zaX jV 33=none∧arrT jV 33=none∧zbF jV 33=some [.int .i64 0,.bool false]∧zbE jV 33=true:=by and_intros <;> kernel_rfl
@[go_sem] theorem zos:hasT jV 34=true∧szT jV 34=2∧Tryz.prog.bytesOf 34=16∧aggT jV 34=true∧zaX jV 34=none∧arrT jV 34=none∧zbF jV 34=some [.int .i64 0,.bool false]∧zbE jV 34=true:=by and_intros <;> kernel_rfl
@[go_sem] theorem zot:hasT jV 35=true∧szT jV 35=1∧Tryz.prog.bytesOf 35=24∧aggT jV 35=false∧zaX jV 35=some 3∧arrT jV 35=none∧zbF jV 35=some [.slice none 0 0]:=by and_intros <;> kernel_rfl
@[go_sem] theorem zou:hasT jV 36=true∧szT jV 36=4∧Tryz.prog.bytesOf 36=48∧aggT jV 36=true∧zaX jV 36=none∧arrT jV 36=none∧zbF jV 36=some [.int .i64 0,.int .i64 0,.int .i64 0,.slice none 0 0]∧zbE jV 36=true:=by and_intros <;> kernel_rfl
@[go_sem] theorem zov:hasT jV 37=true∧szT jV 37=4∧Tryz.prog.bytesOf 37=48∧aggT jV 37=true∧zaX jV 37=none∧arrT jV 37=none∧zbF jV 37=some [.int .i64 0,.int .i64 0,.int .i64 0,.slice none 0 0]∧zbE jV 37=true:=by and_intros <;> kernel_rfl
@[go_sem] theorem zow:hasT jV 38=true∧szT jV 38=12∧Tryz.prog.bytesOf 38=192∧aggT jV 38=true∧zaX jV 38=none∧arrT jV 38=none∧zbF jV 38=some [.int .i64 0,.slice none 0 0,.slice none 0 0,.slice none 0 0,.slice none 0 0,.slice none 0 0,.int .i64 0,.bool false,.int .i64 0,.int .i64 0,.int .i64 0,.slice none 0 0]∧zbE jV 38=true:=by and_intros <;> kernel_rfl
@[go_sem] theorem zox:hasT jV 39=true∧szT jV 39=12∧Tryz.prog.bytesOf 39=192∧aggT jV 39=true∧zaX jV 39=none∧arrT jV 39=none∧zbF jV 39=some [.int .i64 0,.slice none 0 0,.slice none 0 0,.slice none 0 0,.slice none 0 0,.slice none 0 0,.int .i64 0,.bool false,.int .i64 0,.int .i64 0,.int .i64 0,.slice none 0 0]∧zbE jV 39=true:=by and_intros <;> kernel_rfl
@[go_sem] theorem zoy:hasT jV 40=true∧szT jV 40=1∧Tryz.prog.bytesOf 40=24∧aggT jV 40=false∧zaX jV 40=some 77∧arrT jV 40=none∧zbF jV 40=some [.slice none 0 0]:=by and_intros <;> kernel_rfl
@[go_sem] theorem zoz:hasT jV 43=true∧szT jV 43=1∧Tryz.prog.bytesOf 43=24∧aggT jV 43=false∧zaX jV 43=some 128∧arrT jV 43=none∧zbF jV 43=some [.slice none 0 0]:=by and_intros <;> kernel_rfl
@[go_sem] theorem zoA:hasT jV 44=true∧szT jV 44=2∧Tryz.prog.bytesOf 44=32∧aggT jV 44=true∧zaX jV 44=none∧arrT jV 44=none∧zbF jV 44=some [.int .i64 0,.slice none 0 0]∧zbE jV 44=true:=by and_intros <;> kernel_rfl
@[go_sem] theorem zoB:hasT jV 45=true∧szT jV 45=2∧Tryz.prog.bytesOf 45=32∧aggT jV 45=true∧zaX jV 45=none∧arrT jV 45=none∧zbF jV 45=some [.int .i64 0,.slice none 0 0]∧zbE jV 45=true:=by and_intros <;> kernel_rfl
@[go_sem] theorem zoC:hasT jV 48=true∧szT jV 48=1∧Tryz.prog.bytesOf 48=24∧aggT jV 48=false∧zaX jV 48=some 297∧arrT jV 48=none∧zbF jV 48=some [.slice none 0 0]:=by and_intros <;> kernel_rfl
@[go_sem] theorem zoD:hasT jV 49=true∧szT jV 49=2∧Tryz.prog.bytesOf 49=32∧aggT jV 49=true∧zaX jV 49=none∧arrT jV 49=none∧zbF jV 49=some [.int .i64 0,.slice none 0 0]∧zbE jV 49=true:=by and_intros <;> kernel_rfl
@[go_sem] theorem zoE:hasT jV 50=true∧szT jV 50=2∧Tryz.prog.bytesOf 50=32∧aggT jV 50=true∧zaX jV 50=none∧arrT jV 50=none∧zbF jV 50=some [.int .i64 0,.slice none 0 0]∧zbE jV 50=true:=by and_intros <;> kernel_rfl
@[go_sem] theorem zoF:hasT jV 51=true∧szT jV 51=1∧Tryz.prog.bytesOf 51=24∧aggT jV 51=false∧zaX jV 51=some 125∧arrT jV 51=none∧zbF jV 51=some [.slice none 0 0]:=by and_intros <;> kernel_rfl
@[go_sem] theorem zoG:hasT jV 52=true∧szT jV 52=3∧Tryz.prog.bytesOf 52=56∧aggT jV 52=true∧zaX jV 52=none∧arrT jV 52=none∧zbF jV 52=some [.int .i64 0,.slice none 0 0,.slice none 0 0]∧zbE jV 52=true:=by and_intros <;> kernel_rfl
@[go_sem] theorem zoH:hasT jV 53=true∧szT jV 53=3∧Tryz.prog.bytesOf 53=56∧aggT jV 53=true∧zaX jV 53=none∧arrT jV 53=none∧zbF jV 53=some [.int .i64 0,.slice none 0 0,.slice none 0 0]∧zbE jV 53=true:=by and_intros <;> kernel_rfl
@[go_sem] theorem zoI:hasT jV 54=true∧szT jV 54=1∧Tryz.prog.bytesOf 54=24∧aggT jV 54=false∧zaX jV 54=some 244∧arrT jV 54=none∧zbF jV 54=some [.slice none 0 0]:=by and_intros <;> kernel_rfl
@[go_sem] theorem zoJ:hasT jV 55=true∧szT jV 55=1∧Tryz.prog.bytesOf 55=24∧aggT jV 55=false∧zaX jV 55=some 230∧arrT jV 55=none∧zbF jV 55=some [.slice none 0 0]:=by and_intros <;> kernel_rfl
@[go_sem] theorem zoK:hasT jV 56=true∧szT jV 56=2∧Tryz.prog.bytesOf 56=48∧aggT jV 56=true∧zaX jV 56=none∧arrT jV 56=none∧zbF jV 56=some [.slice none 0 0,.slice none 0 0]∧zbE jV 56=true:=by and_intros <;> kernel_rfl
@[go_sem] theorem zoL:hasT jV 57=true∧szT jV 57=2∧Tryz.prog.bytesOf 57=48∧aggT jV 57=true∧zaX jV 57=none∧arrT jV 57=none∧zbF jV 57=some [.slice none 0 0,.slice none 0 0]∧zbE jV 57=true:=by and_intros <;> kernel_rfl
@[go_sem] theorem zoM:hasT jV 58=true∧szT jV 58=1∧Tryz.prog.bytesOf 58=24∧aggT jV 58=false∧zaX jV 58=some 157∧arrT jV 58=none∧zbF jV 58=some [.slice none 0 0]:=by and_intros <;> kernel_rfl
@[go_sem] theorem zoN:hasT jV 59=true∧szT jV 59=2∧Tryz.prog.bytesOf 59=16∧aggT jV 59=true∧zaX jV 59=none∧arrT jV 59=none∧zbF jV 59=some [.int .i64 0,.bool false]∧zbE jV 59=true:=by and_intros <;> kernel_rfl
@[go_sem] theorem zoO:hasT jV 60=true∧szT jV 60=4∧Tryz.prog.bytesOf 60=48∧aggT jV 60=true∧zaX jV 60=none∧arrT jV 60=none∧zbF jV 60=some [.int .i64 0,.int .i64 0,.int .i64 0,.slice none 0 0]∧zbE jV 60=true:=by and_intros <;> kernel_rfl
@[go_sem] theorem zoP:hasT jV 61=true∧szT jV 61=12∧Tryz.prog.bytesOf 61=192∧aggT jV 61=true∧zaX jV 61=none∧arrT jV 61=none∧zbF jV 61=some [.int .i64 0,.slice none 0 0,.slice none 0 0,.slice none 0 0,.slice none 0 0,.slice none 0 0,.int .i64 0,.bool false,.int .i64 0,.int .i64 0,.int .i64 0,.slice none 0 0]∧zbE jV 61=true:=by and_intros <;> kernel_rfl
@[go_sem] theorem zoQ:hasT jV 62=true∧szT jV 62=12∧Tryz.prog.bytesOf 62=192∧aggT jV 62=true∧zaX jV 62=none∧arrT jV 62=none∧zbF jV 62=some [.int .i64 0,.slice none 0 0,.slice none 0 0,.slice none 0 0,.slice none 0 0,.slice none 0 0,.int .i64 0,.bool false,.int .i64 0,.int .i64 0,.int .i64 0,.slice none 0 0]∧zbE jV 62=true:=by and_intros <;> kernel_rfl
@[go_sem] theorem zoR:hasT jV 64=true∧szT jV 64=1∧Tryz.prog.bytesOf 64=24∧aggT jV 64=false∧zaX jV 64=some 79∧arrT jV 64=none∧zbF jV 64=some [.slice none 0 0]:=by and_intros <;> kernel_rfl
@[go_sem] theorem zoS:hasT jV 72=true∧szT jV 72=1∧Tryz.prog.bytesOf 72=8∧aggT jV 72=false∧zaX jV 72=none∧arrT jV 72=none∧zbF jV 72=some [.nilFunc]:=by and_intros <;> kernel_rfl
@[go_sem] theorem zoT:hasT jV 76=true∧szT jV 76=5∧Tryz.prog.bytesOf 76=40∧aggT jV 76=true∧zaX jV 76=none∧arrT jV 76=none∧zbF jV 76=some [.int .i64 0,.int .i64 0,.int .i64 0,.int .i64 0,.int .i64 0]∧zbE jV 76=true:=by and_intros <;> kernel_rfl
@[go_sem] theorem zoU:hasT jV 77=true∧szT jV 77=5∧Tryz.prog.bytesOf 77=40∧aggT jV 77=true∧zaX jV 77=none∧arrT jV 77=none∧zbF jV 77=some [.int .i64 0,.int .i64 0,.int .i64 0,.int .i64 0,.int .i64 0]∧zbE jV 77=true:=by and_intros <;> kernel_rfl
@[go_sem] theorem zoV:hasT jV 79=true∧szT jV 79=5∧Tryz.prog.bytesOf 79=40∧aggT jV 79=true∧zaX jV 79=none∧arrT jV 79=none∧zbF jV 79=some [.int .i64 0,.int .i64 0,.int .i64 0,.int .i64 0,.int .i64 0]∧zbE jV 79=true:=by and_intros <;> kernel_rfl
@[go_sem] theorem zoW:hasT jV 80=true∧szT jV 80=1∧Tryz.prog.bytesOf 80=8∧aggT jV 80=false∧zaX jV 80=none∧arrT jV 80=none∧zbF jV 80=some [.nilFunc]:=by and_intros <;> kernel_rfl
@[go_sem] theorem zoX:hasT jV 82=true∧szT jV 82=1∧Tryz.prog.bytesOf 82=24∧aggT jV 82=false∧zaX jV 82=some 222∧arrT jV 82=none∧zbF jV 82=some [.slice none 0 0]:=by and_intros <;> kernel_rfl
@[go_sem] theorem zoY:hasT jV 83=true∧szT jV 83=4∧Tryz.prog.bytesOf 83=48∧aggT jV 83=true∧zaX jV 83=none∧arrT jV 83=none∧zbF jV 83=some [.int .i64 0,.int .i64 0,.int .i64 0,.slice none 0 0]∧zbE jV 83=true:=by and_intros <;> kernel_rfl
@[go_sem] theorem zoZ:hasT jV 84=true∧szT jV 84=4∧Tryz.prog.bytesOf 84=48∧aggT jV 84=true∧zaX jV 84=none∧arrT jV 84=none∧zbF jV 84=some [.int .i64 0,.int .i64 0,.int .i64 0,.slice none 0 0]∧zbE jV 84=true:=by and_intros <;> kernel_rfl
@[go_sem] theorem zo0:hasT jV 93=true∧szT jV 93=1∧Tryz.prog.bytesOf 93=24∧aggT jV 93=false∧zaX jV 93=some 84∧arrT jV 93=none∧zbF jV 93=some [.slice none 0 0]:=by and_intros <;> kernel_rfl
@[go_sem] theorem zo1:hasT jV 104=true∧szT jV 104=1∧Tryz.prog.bytesOf 104=8∧aggT jV 104=false∧zaX jV 104=none∧arrT jV 104=none∧zbF jV 104=some [.nilFunc]:=by and_intros <;> kernel_rfl
@[go_sem] theorem zo2:hasT jV 124=true∧szT jV 124=3∧Tryz.prog.bytesOf 124=24∧aggT jV 124=true∧zaX jV 124=none∧arrT jV 124=none∧zbF jV 124=some [.int .i64 0,.int .i64 0,.int .i64 0]∧zbE jV 124=true:=by and_intros <;> kernel_rfl
@[go_sem] theorem zo3:hasT jV 125=true∧szT jV 125=3∧Tryz.prog.bytesOf 125=24∧aggT jV 125=true∧zaX jV 125=none∧arrT jV 125=none∧zbF jV 125=some [.int .i64 0,.int .i64 0,.int .i64 0]∧zbE jV 125=true:=by and_intros <;> kernel_rfl
@[go_sem] theorem zo4:hasT jV 127=true∧szT jV 127=3∧Tryz.prog.bytesOf 127=40∧aggT jV 127=true∧zaX jV 127=none∧arrT jV 127=none∧zbF jV 127=some [.int .i64 0,.int .i64 0,.slice none 0 0]∧zbE jV 127=true:=by and_intros <;> kernel_rfl
@[go_sem] theorem zo5:hasT jV 128=true∧szT jV 128=3∧Tryz.prog.bytesOf 128=40∧aggT jV 128=true∧zaX jV 128=none∧arrT jV 128=none∧zbF jV 128=some [.int .i64 0,.int .i64 0,.slice none 0 0]∧zbE jV 128=true:=by and_intros <;> kernel_rfl
@[go_sem] theorem zo6:hasT jV 144=true∧szT jV 144=1∧Tryz.prog.bytesOf 144=8∧aggT jV 144=false∧zaX jV 144=none∧arrT jV 144=none∧zbF jV 144=some [.nilFunc]:=by and_intros <;> kernel_rfl
@[go_sem] theorem zo7:hasT jV 150=true∧szT jV 150=1∧Tryz.prog.bytesOf 150=8∧aggT jV 150=false∧zaX jV 150=none∧arrT jV 150=none∧zbF jV 150=some [.nilFunc]:=by and_intros <;> kernel_rfl
@[go_sem] theorem zo8:hasT jV 156=true∧szT jV 156=6∧Tryz.prog.bytesOf 156=56∧aggT jV 156=true∧zaX jV 156=none∧arrT jV 156=none∧zbF jV 156=some [.string ByteArray.empty,.int .i64 0,.int .i64 0,.int .i64 0,.int .i64 0,.bool false]∧zbE jV 156=true:=by and_intros <;> kernel_rfl
@[go_sem] theorem zo9:hasT jV 157=true∧szT jV 157=6∧Tryz.prog.bytesOf 157=56∧aggT jV 157=true∧zaX jV 157=none∧arrT jV 157=none∧zbF jV 157=some [.string ByteArray.empty,.int .i64 0,.int .i64 0,.int .i64 0,.int .i64 0,.bool false]∧zbE jV 157=true:=by and_intros <;> kernel_rfl
@[go_sem] theorem zpa:hasT jV 159=true∧szT jV 159=1∧Tryz.prog.bytesOf 159=24∧aggT jV 159=false∧zaX jV 159=some 4∧arrT jV 159=none∧zbF jV 159=some [.slice none 0 0]:=by and_intros <;> kernel_rfl
@[go_sem] theorem zpb:hasT jV 160=true∧szT jV 160=1∧Tryz.prog.bytesOf 160=24∧aggT jV 160=false∧zaX jV 160=some 283∧arrT jV 160=none∧zbF jV 160=some [.slice none 0 0]:=by and_intros <;> kernel_rfl
@[go_sem] theorem zpc:hasT jV 161=true∧szT jV 161=3∧Tryz.prog.bytesOf 161=72∧aggT jV 161=true∧zaX jV 161=none∧arrT jV 161=none∧zbF jV 161=some [.slice none 0 0,.slice none 0 0,.slice none 0 0]∧zbE jV 161=true:=by and_intros <;> kernel_rfl
@[go_sem] theorem zpd:hasT jV 162=true∧szT jV 162=3∧Tryz.prog.bytesOf 162=72∧aggT jV 162=true∧zaX jV 162=none∧arrT jV 162=none∧zbF jV 162=some [.slice none 0 0,.slice none 0 0,.slice none 0 0]∧zbE jV 162=true:=by and_intros <;> kernel_rfl
@[go_sem] theorem zpe:hasT jV 170=true∧szT jV 170=1∧Tryz.prog.bytesOf 170=24∧aggT jV 170=false∧zaX jV 170=some 93∧arrT jV 170=none∧zbF jV 170=some [.slice none 0 0]:=by and_intros <;> kernel_rfl
@[go_sem] theorem zpf:hasT jV 173=true∧szT jV 173=1∧Tryz.prog.bytesOf 173=8∧aggT jV 173=false∧zaX jV 173=none∧arrT jV 173=none∧zbF jV 173=some [.nilFunc]:=by and_intros <;> kernel_rfl
@[go_sem] theorem zpg:hasT jV 178=true∧szT jV 178=1∧Tryz.prog.bytesOf 178=8∧aggT jV 178=false∧zaX jV 178=none∧arrT jV 178=none∧zbF jV 178=some [.nilFunc]:=by and_intros <;> kernel_rfl
@[go_sem] theorem zph:hasT jV 187=true∧szT jV 187=2∧Tryz.prog.bytesOf 187=16∧aggT jV 187=true∧zaX jV 187=none∧arrT jV 187=some (2,3)∧zbF jV 187=some [.int .i64 0,.int .i64 0]∧zbE jV 187=true:=by and_intros <;> kernel_rfl
@[go_sem] theorem zpi:hasT jV 188=true∧szT jV 188=2∧Tryz.prog.bytesOf 188=16∧aggT jV 188=true∧zaX jV 188=none∧arrT jV 188=some (2,3)∧zbF jV 188=some [.int .i64 0,.int .i64 0]∧zbE jV 188=true:=by and_intros <;> kernel_rfl
@[go_sem] theorem zpj:hasT jV 191=true∧szT jV 191=1∧Tryz.prog.bytesOf 191=8∧aggT jV 191=false∧zaX jV 191=none∧arrT jV 191=none∧zbF jV 191=some [.nilFunc]:=by and_intros <;> kernel_rfl
@[go_sem] theorem zpk:hasT jV 192=true∧szT jV 192=1∧Tryz.prog.bytesOf 192=8∧aggT jV 192=false∧zaX jV 192=none∧arrT jV 192=none∧zbF jV 192=some [.nilFunc]:=by and_intros <;> kernel_rfl
@[go_sem] theorem zpl:hasT jV 197=true∧szT jV 197=6∧Tryz.prog.bytesOf 197=56∧aggT jV 197=true∧zaX jV 197=none∧arrT jV 197=none∧zbF jV 197=some [.string ByteArray.empty,.int .i64 0,.int .i64 0,.int .i64 0,.int .i64 0,.bool false]∧zbE jV 197=true:=by and_intros <;> kernel_rfl
@[go_sem] theorem zpm:hasT jV 204=true∧szT jV 204=1∧Tryz.prog.bytesOf 204=8∧aggT jV 204=false∧zaX jV 204=none∧arrT jV 204=none∧zbF jV 204=some [.nilFunc]:=by and_intros <;> kernel_rfl
@[go_sem] theorem zpn:hasT jV 205=true∧szT jV 205=1∧Tryz.prog.bytesOf 205=8∧aggT jV 205=false∧zaX jV 205=none∧arrT jV 205=none∧zbF jV 205=some [.nilFunc]:=by and_intros <;> kernel_rfl
@[go_sem] theorem zpo:hasT jV 216=true∧szT jV 216=1∧Tryz.prog.bytesOf 216=8∧aggT jV 216=false∧zaX jV 216=none∧arrT jV 216=none∧zbF jV 216=some [.nilFunc]:=by and_intros <;> kernel_rfl
@[go_sem] theorem zpp:hasT jV 221=true∧szT jV 221=5∧Tryz.prog.bytesOf 221=40∧aggT jV 221=true∧zaX jV 221=none∧arrT jV 221=none∧zbF jV 221=some [.int .i64 0,.int .i64 0,.bool false,.int .i64 0,.int .i64 0]∧zbE jV 221=true:=by and_intros <;> kernel_rfl
@[go_sem] theorem zpq:hasT jV 222=true∧szT jV 222=5∧Tryz.prog.bytesOf 222=40∧aggT jV 222=true∧zaX jV 222=none∧arrT jV 222=none∧zbF jV 222=some [.int .i64 0,.int .i64 0,.bool false,.int .i64 0,.int .i64 0]∧zbE jV 222=true:=by and_intros <;> kernel_rfl
@[go_sem] theorem zpr:hasT jV 224=true∧szT jV 224=1∧Tryz.prog.bytesOf 224=8∧aggT jV 224=false∧zaX jV 224=none∧arrT jV 224=none∧zbF jV 224=some [.nilFunc]:=by and_intros <;> kernel_rfl
@[go_sem] theorem zps:hasT jV 229=true∧szT jV 229=5∧Tryz.prog.bytesOf 229=40∧aggT jV 229=true∧zaX jV 229=none∧arrT jV 229=none∧zbF jV 229=some [.int .i64 0,.int .i64 0,.int .i64 0,.int .i64 0,.bool false]∧zbE jV 229=true:=by and_intros <;> kernel_rfl
@[go_sem] theorem zpt:hasT jV 230=true∧szT jV 230=5∧Tryz.prog.bytesOf 230=40∧aggT jV 230=true∧zaX jV 230=none∧arrT jV 230=none∧zbF jV 230=some [.int .i64 0,.int .i64 0,.int .i64 0,.int .i64 0,.bool false]∧zbE jV 230=true:=by and_intros <;> kernel_rfl
@[go_sem] theorem zpu:hasT jV 232=true∧szT jV 232=1∧Tryz.prog.bytesOf 232=8∧aggT jV 232=false∧zaX jV 232=none∧arrT jV 232=none∧zbF jV 232=some [.nilFunc]:=by and_intros <;> kernel_rfl
@[go_sem] theorem zpv:hasT jV 240=true∧szT jV 240=1∧Tryz.prog.bytesOf 240=8∧aggT jV 240=false∧zaX jV 240=none∧arrT jV 240=none∧zbF jV 240=some [.nilFunc]:=by and_intros <;> kernel_rfl
@[go_sem] theorem zpw:hasT jV 241=true∧szT jV 241=1∧Tryz.prog.bytesOf 241=8∧aggT jV 241=false∧zaX jV 241=none∧arrT jV 241=none∧zbF jV 241=some [.nilFunc]:=by and_intros <;> kernel_rfl
@[go_sem] theorem zpx:hasT jV 243=true∧szT jV 243=2∧Tryz.prog.bytesOf 243=24∧aggT jV 243=true∧zaX jV 243=none∧arrT jV 243=none∧zbF jV 243=some [.string ByteArray.empty,.bool false]∧zbE jV 243=true:=by and_intros <;> kernel_rfl
@[go_sem] theorem zpy:hasT jV 244=true∧szT jV 244=2∧Tryz.prog.bytesOf 244=24∧aggT jV 244=true∧zaX jV 244=none∧arrT jV 244=none∧zbF jV 244=some [.string ByteArray.empty,.bool false]∧zbE jV 244=true:=by and_intros <;> kernel_rfl
@[go_sem] theorem zpz:hasT jV 248=true∧szT jV 248=5∧Tryz.prog.bytesOf 248=40∧aggT jV 248=true∧zaX jV 248=none∧arrT jV 248=none∧zbF jV 248=some [.int .i64 0,.int .i64 0,.bool false,.int .i64 0,.int .i64 0]∧zbE jV 248=true:=by and_intros <;> kernel_rfl
@[go_sem] theorem zpA:hasT jV 251=true∧szT jV 251=1∧Tryz.prog.bytesOf 251=24∧aggT jV 251=false∧zaX jV 251=some 82∧arrT jV 251=none∧zbF jV 251=some [.slice none 0 0]:=by and_intros <;> kernel_rfl
@[go_sem] theorem zpB:hasT jV 254=true∧szT jV 254=1∧Tryz.prog.bytesOf 254=8∧aggT jV 254=false∧zaX jV 254=none∧arrT jV 254=none∧zbF jV 254=some [.pointer none]:=by and_intros <;> kernel_rfl
@[go_sem] theorem zpC:hasT jV 255=true∧szT jV 255=1∧Tryz.prog.bytesOf 255=24∧aggT jV 255=false∧zaX jV 255=some 308∧arrT jV 255=none∧zbF jV 255=some [.slice none 0 0]:=by and_intros <;> kernel_rfl
@[go_sem] theorem zpD:hasT jV 257=true∧szT jV 257=18∧Tryz.prog.bytesOf 257=304∧aggT jV 257=true∧zaX jV 257=none∧arrT jV 257=none∧zbF jV 257=some [.int .i64 0,.slice none 0 0,.slice none 0 0,.slice none 0 0,.slice none 0 0,.slice none 0 0,.int .i64 0,.bool false,.int .i64 0,.int .i64 0,.int .i64 0,.slice none 0 0,.slice none 0 0,.slice none 0 0,.slice none 0 0,.slice none 0 0,.int .i64 0,.bool false]∧zbE jV 257=true:=by and_intros <;> kernel_rfl
@[go_sem] theorem zpE:hasT jV 258=true∧szT jV 258=18∧Tryz.prog.bytesOf 258=304∧aggT jV 258=true∧zaX jV 258=none∧arrT jV 258=none∧zbF jV 258=some [.int .i64 0,.slice none 0 0,.slice none 0 0,.slice none 0 0,.slice none 0 0,.slice none 0 0,.int .i64 0,.bool false,.int .i64 0,.int .i64 0,.int .i64 0,.slice none 0 0,.slice none 0 0,.slice none 0 0,.slice none 0 0,.slice none 0 0,.int .i64 0,.bool false]∧zbE jV 258=true:=by and_intros <;> kernel_rfl
@[go_sem] theorem zpF:hasT jV 260=true∧szT jV 260=1∧Tryz.prog.bytesOf 260=8∧aggT jV 260=false∧zaX jV 260=none∧arrT jV 260=none∧zbF jV 260=some [.pointer none]:=by and_intros <;> kernel_rfl
@[go_sem] theorem zpG:hasT jV 261=true∧szT jV 261=20∧Tryz.prog.bytesOf 261=320∧aggT jV 261=true∧zaX jV 261=none∧arrT jV 261=none∧zbF jV 261=some [.int .i64 0,.slice none 0 0,.slice none 0 0,.slice none 0 0,.slice none 0 0,.slice none 0 0,.int .i64 0,.bool false,.int .i64 0,.int .i64 0,.int .i64 0,.slice none 0 0,.slice none 0 0,.nilFunc,.slice none 0 0,.slice none 0 0,.slice none 0 0,.int .i64 0,.int .i64 0,.bool false]∧zbE jV 261=true:=by and_intros <;> kernel_rfl
@[go_sem] theorem zpH:hasT jV 262=true∧szT jV 262=20∧Tryz.prog.bytesOf 262=320∧aggT jV 262=true∧zaX jV 262=none∧arrT jV 262=none∧zbF jV 262=some [.int .i64 0,.slice none 0 0,.slice none 0 0,.slice none 0 0,.slice none 0 0,.slice none 0 0,.int .i64 0,.bool false,.int .i64 0,.int .i64 0,.int .i64 0,.slice none 0 0,.slice none 0 0,.nilFunc,.slice none 0 0,.slice none 0 0,.slice none 0 0,.int .i64 0,.int .i64 0,.bool false]∧zbE jV 262=true:=by and_intros <;> kernel_rfl
@[go_sem] theorem zpI:hasT jV 264=true∧szT jV 264=1∧Tryz.prog.bytesOf 264=8∧aggT jV 264=false∧zaX jV 264=none∧arrT jV 264=none∧zbF jV 264=some [.nilFunc]:=by and_intros <;> kernel_rfl
@[go_sem] theorem zpJ:hasT jV 265=true∧szT jV 265=2∧Tryz.prog.bytesOf 265=24∧aggT jV 265=true∧zaX jV 265=none∧arrT jV 265=none∧zbF jV 265=some [.string ByteArray.empty,.bool false]∧zbE jV 265=true:=by and_intros <;> kernel_rfl
@[go_sem] theorem zpK:hasT jV 268=true∧szT jV 268=3∧Tryz.prog.bytesOf 268=24∧aggT jV 268=true∧zaX jV 268=none∧arrT jV 268=none∧zbF jV 268=some [.int .i64 0,.int .i64 0,.int .i64 0]∧zbE jV 268=true:=by and_intros <;> kernel_rfl
@[go_sem] theorem zpL:hasT jV 271=true∧szT jV 271=5∧Tryz.prog.bytesOf 271=40∧aggT jV 271=true∧zaX jV 271=none∧arrT jV 271=none∧zbF jV 271=some [.int .i64 0,.int .i64 0,.int .i64 0,.int .i64 0,.bool false]∧zbE jV 271=true:=by and_intros <;> kernel_rfl
@[go_sem] theorem zpM:hasT jV 272=true∧szT jV 272=1∧Tryz.prog.bytesOf 272=8∧aggT jV 272=false∧zaX jV 272=none∧arrT jV 272=none∧zbF jV 272=some [.nilFunc]:=by and_intros <;> kernel_rfl
@[go_sem] theorem zpN:hasT jV 275=true∧szT jV 275=1∧Tryz.prog.bytesOf 275=8∧aggT jV 275=false∧zaX jV 275=none∧arrT jV 275=none∧zbF jV 275=some [.nilFunc]:=by and_intros <;> kernel_rfl
@[go_sem] theorem zpO:hasT jV 277=true∧szT jV 277=1∧Tryz.prog.bytesOf 277=8∧aggT jV 277=false∧zaX jV 277=none∧arrT jV 277=none∧zbF jV 277=some [.nilFunc]:=by and_intros <;> kernel_rfl
@[go_sem] theorem zpP:hasT jV 279=true∧szT jV 279=1∧Tryz.prog.bytesOf 279=24∧aggT jV 279=false∧zaX jV 279=some 5∧arrT jV 279=none∧zbF jV 279=some [.slice none 0 0]:=by and_intros <;> kernel_rfl
@[go_sem] theorem zpQ:hasT jV 280=true∧szT jV 280=1∧Tryz.prog.bytesOf 280=24∧aggT jV 280=false∧zaX jV 280=some 35∧arrT jV 280=none∧zbF jV 280=some [.slice none 0 0]:=by and_intros <;> kernel_rfl
@[go_sem] theorem zpR:hasT jV 283=true∧szT jV 283=1∧Tryz.prog.bytesOf 283=24∧aggT jV 283=false∧zaX jV 283=some 320∧arrT jV 283=none∧zbF jV 283=some [.slice none 0 0]:=by and_intros <;> kernel_rfl
@[go_sem] theorem zpS:hasT jV 287=true∧szT jV 287=1∧Tryz.prog.bytesOf 287=8∧aggT jV 287=false∧zaX jV 287=none∧arrT jV 287=none∧zbF jV 287=some [.nilFunc]:=by and_intros <;> kernel_rfl
@[go_sem] theorem zpT:hasT jV 288=true∧szT jV 288=1∧Tryz.prog.bytesOf 288=8∧aggT jV 288=false∧zaX jV 288=none∧arrT jV 288=none∧zbF jV 288=some [.nilFunc]:=by and_intros <;> kernel_rfl
@[go_sem] theorem zpU:hasT jV 289=true∧szT jV 289=1∧Tryz.prog.bytesOf 289=8∧aggT jV 289=false∧zaX jV 289=none∧arrT jV 289=none∧zbF jV 289=some [.nilFunc]:=by and_intros <;> kernel_rfl
@[go_sem] theorem zpV:hasT jV 290=true∧szT jV 290=1∧Tryz.prog.bytesOf 290=8∧aggT jV 290=false∧zaX jV 290=none∧arrT jV 290=none∧zbF jV 290=some [.nilFunc]:=by and_intros <;> kernel_rfl
@[go_sem] theorem zpW:hasT jV 296=true∧szT jV 296=3∧Tryz.prog.bytesOf 296=24∧aggT jV 296=true∧zaX jV 296=none∧arrT jV 296=none∧zbF jV 296=some [.int .i64 0,.int .i64 0,.int .i64 0]∧zbE jV 296=true:=by and_intros <;> kernel_rfl
@[go_sem] theorem zpX:hasT jV 297=true∧szT jV 297=3∧Tryz.prog.bytesOf 297=24∧aggT jV 297=true∧zaX jV 297=none∧arrT jV 297=none∧zbF jV 297=some [.int .i64 0,.int .i64 0,.int .i64 0]∧zbE jV 297=true:=by and_intros <;> kernel_rfl
@[go_sem] theorem zpY:hasT jV 298=true∧szT jV 298=1∧Tryz.prog.bytesOf 298=8∧aggT jV 298=false∧zaX jV 298=none∧arrT jV 298=none∧zbF jV 298=some [.nilFunc]:=by and_intros <;> kernel_rfl
@[go_sem] theorem zpZ:hasT jV 299=true∧szT jV 299=1∧Tryz.prog.bytesOf 299=8∧aggT jV 299=false∧zaX jV 299=none∧arrT jV 299=none∧zbF jV 299=some [.nilFunc]:=by and_intros <;> kernel_rfl
@[go_sem] theorem zp0:hasT jV 301=true∧szT jV 301=1∧Tryz.prog.bytesOf 301=24∧aggT jV 301=false∧zaX jV 301=some 303∧arrT jV 301=none∧zbF jV 301=some [.slice none 0 0]:=by and_intros <;> kernel_rfl
@[go_sem] theorem zp1:hasT jV 302=true∧szT jV 302=4∧Tryz.prog.bytesOf 302=32∧aggT jV 302=true∧zaX jV 302=none∧arrT jV 302=none∧zbF jV 302=some [.int .i64 0,.int .i64 0,.int .i64 0,.int .i64 0]∧zbE jV 302=true:=by and_intros <;> kernel_rfl
@[go_sem] theorem zp2:hasT jV 303=true∧szT jV 303=4∧Tryz.prog.bytesOf 303=32∧aggT jV 303=true∧zaX jV 303=none∧arrT jV 303=none∧zbF jV 303=some [.int .i64 0,.int .i64 0,.int .i64 0,.int .i64 0]∧zbE jV 303=true:=by and_intros <;> kernel_rfl
@[go_sem] theorem zp3:hasT jV 304=true∧szT jV 304=1∧Tryz.prog.bytesOf 304=8∧aggT jV 304=false∧zaX jV 304=none∧arrT jV 304=none∧zbF jV 304=some [.nilFunc]:=by and_intros <;> kernel_rfl
@[go_sem] theorem zp4:hasT jV 308=true∧szT jV 308=1∧Tryz.prog.bytesOf 308=24∧aggT jV 308=false∧zaX jV 308=some 309∧arrT jV 308=none∧zbF jV 308=some [.slice none 0 0]:=by and_intros <;> kernel_rfl
@[go_sem] theorem zp5:hasT jV 309=true∧szT jV 309=1∧Tryz.prog.bytesOf 309=24∧aggT jV 309=false∧zaX jV 309=some 159∧arrT jV 309=none∧zbF jV 309=some [.slice none 0 0]:=by and_intros <;> kernel_rfl
@[go_sem] theorem zp6:hasT jV 310=true∧szT jV 310=1∧Tryz.prog.bytesOf 310=8∧aggT jV 310=false∧zaX jV 310=none∧arrT jV 310=none∧zbF jV 310=some [.nilFunc]:=by and_intros <;> kernel_rfl
@[go_sem] theorem zp7:hasT jV 312=true∧szT jV 312=3∧Tryz.prog.bytesOf 312=24∧aggT jV 312=true∧zaX jV 312=none∧arrT jV 312=none∧zbF jV 312=some [.int .i64 0,.int .i64 0,.int .i64 0]∧zbE jV 312=true:=by and_intros <;> kernel_rfl
@[go_sem] theorem zp8:hasT jV 314=true∧szT jV 314=1∧Tryz.prog.bytesOf 314=8∧aggT jV 314=false∧zaX jV 314=none∧arrT jV 314=none∧zbF jV 314=some [.nilFunc]:=by and_intros <;> kernel_rfl
@[go_sem] theorem zp9:hasT jV 315=true∧szT jV 315=1∧Tryz.prog.bytesOf 315=8∧aggT jV 315=false∧zaX jV 315=none∧arrT jV 315=none∧zbF jV 315=some [.nilFunc]:=by and_intros <;> kernel_rfl
@[go_sem] theorem zqa:hasT jV 319=true∧szT jV 319=2∧Tryz.prog.bytesOf 319=16∧aggT jV 319=true∧zaX jV 319=none∧arrT jV 319=none∧zbF jV 319=some [.int .i64 0,.int .i64 0]∧zbE jV 319=true:=by and_intros <;> kernel_rfl
@[go_sem] theorem zqb:hasT jV 320=true∧szT jV 320=2∧Tryz.prog.bytesOf 320=16∧aggT jV 320=true∧zaX jV 320=none∧arrT jV 320=none∧zbF jV 320=some [.int .i64 0,.int .i64 0]∧zbE jV 320=true:=by and_intros <;> kernel_rfl
@[go_sem] theorem zqc:hasT jV 322=true∧szT jV 322=1∧Tryz.prog.bytesOf 322=8∧aggT jV 322=false∧zaX jV 322=none∧arrT jV 322=none∧zbF jV 322=some [.nilFunc]:=by and_intros <;> kernel_rfl
@[go_sem] theorem zqd:hasT jV 323=true∧szT jV 323=8∧Tryz.prog.bytesOf 323=8∧aggT jV 323=true∧zaX jV 323=none∧arrT jV 323=some (8,4)∧zbF jV 323=some [.bool false,.bool false,.bool false,.bool false,.bool false,.bool false,.bool false,.bool false]∧zbE jV 323=true:=by and_intros <;> kernel_rfl
@[go_sem] theorem zqe:hasT jV 324=true∧szT jV 324=1∧Tryz.prog.bytesOf 324=8∧aggT jV 324=false∧zaX jV 324=none∧arrT jV 324=none∧zbF jV 324=some [.pointer none]:=by and_intros <;> kernel_rfl
@[go_sem] theorem zqf:hasT jV 325=true∧szT jV 325=1∧Tryz.prog.bytesOf 325=8∧aggT jV 325=false∧zaX jV 325=none∧arrT jV 325=none∧zbF jV 325=some [.int .u64 0]∧intT jV 325=some .u64:=by and_intros <;> kernel_rfl
attribute [go_sem] Tryz.underlying325
@[go_sem] theorem zqg:hasT jV 328=true∧szT jV 328=1∧Tryz.prog.bytesOf 328=8∧aggT jV 328=false∧zaX jV 328=none∧arrT jV 328=none∧zbF jV 328=some [.nilFunc]:=by and_intros <;> kernel_rfl
@[go_sem] theorem zqh:hasT jV 329=true∧szT jV 329=1∧Tryz.prog.bytesOf 329=8∧aggT jV 329=false∧zaX jV 329=none∧arrT jV 329=none∧zbF jV 329=some [.nilFunc]:=by and_intros <;> kernel_rfl
@[go_sem] theorem zqi:hasT jV 334=true∧szT jV 334=1∧Tryz.prog.bytesOf 334=8∧aggT jV 334=false∧zaX jV 334=none∧arrT jV 334=none∧zbF jV 334=some [.nilFunc]:=by and_intros <;> kernel_rfl
@[go_sem] theorem zqj:hasT jV 335=true∧szT jV 335=1∧Tryz.prog.bytesOf 335=8∧aggT jV 335=false∧zaX jV 335=none∧arrT jV 335=none∧zbF jV 335=some [.nilFunc]:=by and_intros <;> kernel_rfl
@[go_sem] theorem zqk:hasT jV 338=true∧szT jV 338=1∧Tryz.prog.bytesOf 338=8∧aggT jV 338=false∧zaX jV 338=none∧arrT jV 338=none∧zbF jV 338=some [.nilFunc]:=by and_intros <;> kernel_rfl
@[go_sem] theorem zql:hasT jV 341=true∧szT jV 341=1∧Tryz.prog.bytesOf 341=8∧aggT jV 341=false∧zaX jV 341=none∧arrT jV 341=none∧zbF jV 341=some [.nilFunc]:=by and_intros <;> kernel_rfl
@[go_sem] theorem zqm:hasT jV 342=true∧szT jV 342=1∧Tryz.prog.bytesOf 342=8∧aggT jV 342=false∧zaX jV 342=none∧arrT jV 342=none∧zbF jV 342=some [.nilFunc]:=by and_intros <;> kernel_rfl
@[go_sem] theorem zqn:hasT jV 343=true∧szT jV 343=1∧Tryz.prog.bytesOf 343=8∧aggT jV 343=false∧zaX jV 343=none∧arrT jV 343=none∧zbF jV 343=some [.nilFunc]:=by and_intros <;> kernel_rfl
@[go_sem] theorem zqo:hasT jV 345=true∧szT jV 345=1∧Tryz.prog.bytesOf 345=24∧aggT jV 345=false∧zaX jV 345=some 356∧arrT jV 345=none∧zbF jV 345=some [.slice none 0 0]:=by and_intros <;> kernel_rfl
@[go_sem] theorem zqp:hasT jV 347=true∧szT jV 347=1∧Tryz.prog.bytesOf 347=8∧aggT jV 347=false∧zaX jV 347=none∧arrT jV 347=none∧zbF jV 347=some [.pointer none]:=by and_intros <;> kernel_rfl
@[go_sem] theorem zqq:hasT jV 349=true∧szT jV 349=4∧Tryz.prog.bytesOf 349=80∧aggT jV 349=true∧zaX jV 349=none∧arrT jV 349=none∧zbF jV 349=some [.slice none 0 0,.int .i64 0,.slice none 0 0,.slice none 0 0]∧zbE jV 349=true:=by and_intros <;> kernel_rfl
@[go_sem] theorem zqr:hasT jV 350=true∧szT jV 350=4∧Tryz.prog.bytesOf 350=80∧aggT jV 350=true∧zaX jV 350=none∧arrT jV 350=none∧zbF jV 350=some [.slice none 0 0,.int .i64 0,.slice none 0 0,.slice none 0 0]∧zbE jV 350=true:=by and_intros <;> kernel_rfl
@[go_sem] theorem zqs:hasT jV 356=true∧szT jV 356=1∧Tryz.prog.bytesOf 356=8∧aggT jV 356=false∧zaX jV 356=none∧arrT jV 356=none∧zbF jV 356=some [.int .u64 0]∧intT jV 356=some .u64:=by and_intros <;> kernel_rfl
attribute [go_sem] Tryz.underlying356
@[go_sem] theorem zqt:hasT jV 361=true∧szT jV 361=1∧Tryz.prog.bytesOf 361=4∧aggT jV 361=false∧zaX jV 361=none∧arrT jV 361=none∧zbF jV 361=some [.int .u32 0]∧intT jV 361=some .u32:=by and_intros <;> kernel_rfl
attribute [go_sem] Tryz.underlying361
@[go_sem] theorem zqu:hasT jV 363=true∧szT jV 363=1∧Tryz.prog.bytesOf 363=8∧aggT jV 363=false∧zaX jV 363=none∧arrT jV 363=none∧zbF jV 363=some [.nilFunc]:=by and_intros <;> kernel_rfl
@[go_sem] theorem zqv:zaW jV 13 0=some (0,9):=by kernel_rfl
@[go_sem] theorem zqw:zbD jV 13 0=some (0,1):=by kernel_rfl
@[go_sem] theorem zqx:zaW jV 13 1=some (1,12):=by kernel_rfl
@[go_sem] theorem zqy:zbD jV 13 1=some (1,1):=by kernel_rfl
attribute [go_sem] Tryz.underlying13 Tryz.stoodInHeld13 Tryz.eqGuardType13
@[go_sem] theorem zqz:zaW jV 23 0=some (0,3):=by kernel_rfl
@[go_sem] theorem zqA:zbD jV 23 0=some (0,1):=by kernel_rfl
@[go_sem] theorem zqB:zaW jV 23 1=some (1,22):=by kernel_rfl
@[go_sem] theorem zqC:zbD jV 23 1=some (1,1):=by kernel_rfl
attribute [go_sem] Tryz.underlying23 Tryz.stoodInHeld23 Tryz.eqGuardType23
@[go_sem] theorem zqD:zaW jV 24 0=some (0,3):=by kernel_rfl
@[go_sem] theorem zqE:zbD jV 24 0=some (0,1):=by kernel_rfl
@[go_sem] theorem zqF:zaW jV 24 1=some (1,22):=by kernel_rfl
@[go_sem] theorem zqG:zbD jV 24 1=some (1,1):=by kernel_rfl
attribute [go_sem] Tryz.underlying24 Tryz.stoodInHeld24 Tryz.eqGuardType24
@[go_sem] theorem zqH:zaW jV 26 0=some (0,24):=by kernel_rfl
@[go_sem] theorem zqI:zbD jV 26 0=some (0,2):=by kernel_rfl
@[go_sem] theorem zqJ:zaW jV 26 1=some (2,25):=by kernel_rfl
@[go_sem] theorem zqK:zbD jV 26 1=some (2,1):=by kernel_rfl
attribute [go_sem] Tryz.underlying26 Tryz.stoodInHeld26 Tryz.eqGuardType26
@[go_sem] theorem zqL:zaW jV 27 0=some (0,24):=by kernel_rfl
@[go_sem] theorem zqM:zbD jV 27 0=some (0,2):=by kernel_rfl
@[go_sem] theorem zqN:zaW jV 27 1=some (2,25):=by kernel_rfl
@[go_sem] theorem zqO:zbD jV 27 1=some (2,1):=by kernel_rfl
attribute [go_sem] Tryz.underlying27 Tryz.stoodInHeld27 Tryz.eqGuardType27
@[go_sem] theorem zqP:zaW jV 30 0=some (0,28):=by kernel_rfl
@[go_sem] theorem zqQ:zbD jV 30 0=some (0,1):=by kernel_rfl
@[go_sem] theorem zqR:zaW jV 30 1=some (1,29):=by kernel_rfl
@[go_sem] theorem zqS:zbD jV 30 1=some (1,1):=by kernel_rfl
attribute [go_sem] Tryz.underlying30 Tryz.stoodInHeld30 Tryz.eqGuardType30
@[go_sem] theorem zqT:zaW jV 31 0=some (0,28):=by kernel_rfl
@[go_sem] theorem zqU:zbD jV 31 0=some (0,1):=by kernel_rfl
@[go_sem] theorem zqV:zaW jV 31 1=some (1,29):=by kernel_rfl
@[go_sem] theorem zqW:zbD jV 31 1=some (1,1):=by kernel_rfl
attribute [go_sem] Tryz.underlying31 Tryz.stoodInHeld31 Tryz.eqGuardType31
@[go_sem] theorem zqX:zaW jV 33 0=some (0,3):=by kernel_rfl
@[go_sem] theorem zqY:zbD jV 33 0=some (0,1):=by kernel_rfl
@[go_sem] theorem zqZ:zaW jV 33 1=some (1,4):=by kernel_rfl
@[go_sem] theorem zq0:zbD jV 33 1=some (1,1):=by kernel_rfl
attribute [go_sem] Tryz.underlying33 Tryz.stoodInHeld33 Tryz.eqGuardType33
@[go_sem] theorem zq1:zaW jV 34 0=some (0,3):=by kernel_rfl
@[go_sem] theorem zq2:zbD jV 34 0=some (0,1):=by kernel_rfl
@[go_sem] theorem zq3:zaW jV 34 1=some (1,4):=by kernel_rfl
@[go_sem] theorem zq4:zbD jV 34 1=some (1,1):=by kernel_rfl
attribute [go_sem] Tryz.underlying34 Tryz.stoodInHeld34 Tryz.eqGuardType34
@[go_sem] theorem zq5:zaW jV 36 0=some (0,3):=by kernel_rfl
@[go_sem] theorem zq6:zbD jV 36 0=some (0,1):=by kernel_rfl
@[go_sem] theorem zq7:zaW jV 36 1=some (1,3):=by kernel_rfl
@[go_sem] theorem zq8:zbD jV 36 1=some (1,1):=by kernel_rfl
@[go_sem] theorem zq9:zaW jV 36 2=some (2,3):=by kernel_rfl
@[go_sem] theorem zra:zbD jV 36 2=some (2,1):=by kernel_rfl
@[go_sem] theorem zrb:zaW jV 36 3=some (3,35):=by kernel_rfl
@[go_sem] theorem zrc:zbD jV 36 3=some (3,1):=by kernel_rfl
attribute [go_sem] Tryz.underlying36 Tryz.stoodInHeld36 Tryz.eqGuardType36
@[go_sem] theorem zrd:zaW jV 37 0=some (0,3):=by kernel_rfl
@[go_sem] theorem zre:zbD jV 37 0=some (0,1):=by kernel_rfl
@[go_sem] theorem zrf:zaW jV 37 1=some (1,3):=by kernel_rfl
@[go_sem] theorem zrg:zbD jV 37 1=some (1,1):=by kernel_rfl
@[go_sem] theorem zrh:zaW jV 37 2=some (2,3):=by kernel_rfl
@[go_sem] theorem zri:zbD jV 37 2=some (2,1):=by kernel_rfl
@[go_sem] theorem zrj:zaW jV 37 3=some (3,35):=by kernel_rfl
@[go_sem] theorem zrk:zbD jV 37 3=some (3,1):=by kernel_rfl
attribute [go_sem] Tryz.underlying37 Tryz.stoodInHeld37 Tryz.eqGuardType37
@[go_sem] theorem zrl:zaW jV 38 0=some (0,27):=by kernel_rfl
@[go_sem] theorem zrm:zbD jV 38 0=some (0,3):=by kernel_rfl
@[go_sem] theorem zrn:zaW jV 38 1=some (3,31):=by kernel_rfl
@[go_sem] theorem zro:zbD jV 38 1=some (3,2):=by kernel_rfl
@[go_sem] theorem zrp:zaW jV 38 2=some (5,32):=by kernel_rfl
@[go_sem] theorem zrq:zbD jV 38 2=some (5,1):=by kernel_rfl
@[go_sem] theorem zrr:zaW jV 38 3=some (6,34):=by kernel_rfl
@[go_sem] theorem zrs:zbD jV 38 3=some (6,2):=by kernel_rfl
@[go_sem] theorem zrt:zaW jV 38 4=some (8,37):=by kernel_rfl
@[go_sem] theorem zru:zbD jV 38 4=some (8,4):=by kernel_rfl
attribute [go_sem] Tryz.underlying38 Tryz.stoodInHeld38 Tryz.eqGuardType38
@[go_sem] theorem zrv:zaW jV 39 0=some (0,27):=by kernel_rfl
@[go_sem] theorem zrw:zbD jV 39 0=some (0,3):=by kernel_rfl
@[go_sem] theorem zrx:zaW jV 39 1=some (3,31):=by kernel_rfl
@[go_sem] theorem zry:zbD jV 39 1=some (3,2):=by kernel_rfl
@[go_sem] theorem zrz:zaW jV 39 2=some (5,32):=by kernel_rfl
@[go_sem] theorem zrA:zbD jV 39 2=some (5,1):=by kernel_rfl
@[go_sem] theorem zrB:zaW jV 39 3=some (6,34):=by kernel_rfl
@[go_sem] theorem zrC:zbD jV 39 3=some (6,2):=by kernel_rfl
@[go_sem] theorem zrD:zaW jV 39 4=some (8,37):=by kernel_rfl
@[go_sem] theorem zrE:zbD jV 39 4=some (8,4):=by kernel_rfl
attribute [go_sem] Tryz.underlying39 Tryz.stoodInHeld39 Tryz.eqGuardType39
@[go_sem] theorem zrF:zaW jV 44 0=some (0,3):=by kernel_rfl
@[go_sem] theorem zrG:zbD jV 44 0=some (0,1):=by kernel_rfl
@[go_sem] theorem zrH:zaW jV 44 1=some (1,43):=by kernel_rfl
@[go_sem] theorem zrI:zbD jV 44 1=some (1,1):=by kernel_rfl
attribute [go_sem] Tryz.underlying44 Tryz.stoodInHeld44 Tryz.eqGuardType44
@[go_sem] theorem zrJ:zaW jV 45 0=some (0,3):=by kernel_rfl
@[go_sem] theorem zrK:zbD jV 45 0=some (0,1):=by kernel_rfl
@[go_sem] theorem zrL:zaW jV 45 1=some (1,43):=by kernel_rfl
@[go_sem] theorem zrM:zbD jV 45 1=some (1,1):=by kernel_rfl
attribute [go_sem] Tryz.underlying45 Tryz.stoodInHeld45 Tryz.eqGuardType45
@[go_sem] theorem zrN:zaW jV 49 0=some (0,3):=by kernel_rfl
@[go_sem] theorem zrO:zbD jV 49 0=some (0,1):=by kernel_rfl
@[go_sem] theorem zrP:zaW jV 49 1=some (1,48):=by kernel_rfl
@[go_sem] theorem zrQ:zbD jV 49 1=some (1,1):=by kernel_rfl
attribute [go_sem] Tryz.underlying49 Tryz.stoodInHeld49 Tryz.eqGuardType49
@[go_sem] theorem zrR:zaW jV 50 0=some (0,3):=by kernel_rfl
@[go_sem] theorem zrS:zbD jV 50 0=some (0,1):=by kernel_rfl
@[go_sem] theorem zrT:zaW jV 50 1=some (1,48):=by kernel_rfl
@[go_sem] theorem zrU:zbD jV 50 1=some (1,1):=by kernel_rfl
attribute [go_sem] Tryz.underlying50 Tryz.stoodInHeld50 Tryz.eqGuardType50
@[go_sem] theorem zrV:zaW jV 52 0=some (0,50):=by kernel_rfl
@[go_sem] theorem zrW:zbD jV 52 0=some (0,2):=by kernel_rfl
@[go_sem] theorem zrX:zaW jV 52 1=some (2,51):=by kernel_rfl
@[go_sem] theorem zrY:zbD jV 52 1=some (2,1):=by kernel_rfl
attribute [go_sem] Tryz.underlying52 Tryz.stoodInHeld52 Tryz.eqGuardType52
@[go_sem] theorem zrZ:zaW jV 53 0=some (0,50):=by kernel_rfl
@[go_sem] theorem zr0:zbD jV 53 0=some (0,2):=by kernel_rfl
@[go_sem] theorem zr1:zaW jV 53 1=some (2,51):=by kernel_rfl
@[go_sem] theorem zr2:zbD jV 53 1=some (2,1):=by kernel_rfl
attribute [go_sem] Tryz.underlying53 Tryz.stoodInHeld53 Tryz.eqGuardType53
@[go_sem] theorem zr3:zaW jV 56 0=some (0,54):=by kernel_rfl
@[go_sem] theorem zr4:zbD jV 56 0=some (0,1):=by kernel_rfl
@[go_sem] theorem zr5:zaW jV 56 1=some (1,55):=by kernel_rfl
@[go_sem] theorem zr6:zbD jV 56 1=some (1,1):=by kernel_rfl
attribute [go_sem] Tryz.underlying56 Tryz.stoodInHeld56 Tryz.eqGuardType56
@[go_sem] theorem zr7:zaW jV 57 0=some (0,54):=by kernel_rfl
@[go_sem] theorem zr8:zbD jV 57 0=some (0,1):=by kernel_rfl
@[go_sem] theorem zr9:zaW jV 57 1=some (1,55):=by kernel_rfl
@[go_sem] theorem zsa:zbD jV 57 1=some (1,1):=by kernel_rfl
attribute [go_sem] Tryz.underlying57 Tryz.stoodInHeld57 Tryz.eqGuardType57
@[go_sem] theorem zsb:zaW jV 59 0=some (0,3):=by kernel_rfl
@[go_sem] theorem zsc:zbD jV 59 0=some (0,1):=by kernel_rfl
@[go_sem] theorem zsd:zaW jV 59 1=some (1,4):=by kernel_rfl
@[go_sem] theorem zse:zbD jV 59 1=some (1,1):=by kernel_rfl
attribute [go_sem] Tryz.underlying59 Tryz.stoodInHeld59 Tryz.eqGuardType59
@[go_sem] theorem zsf:zaW jV 60 0=some (0,3):=by kernel_rfl
@[go_sem] theorem zsg:zbD jV 60 0=some (0,1):=by kernel_rfl
@[go_sem] theorem zsh:zaW jV 60 1=some (1,3):=by kernel_rfl
@[go_sem] theorem zsi:zbD jV 60 1=some (1,1):=by kernel_rfl
@[go_sem] theorem zsj:zaW jV 60 2=some (2,3):=by kernel_rfl
@[go_sem] theorem zsk:zbD jV 60 2=some (2,1):=by kernel_rfl
@[go_sem] theorem zsl:zaW jV 60 3=some (3,35):=by kernel_rfl
@[go_sem] theorem zsm:zbD jV 60 3=some (3,1):=by kernel_rfl
attribute [go_sem] Tryz.underlying60 Tryz.stoodInHeld60 Tryz.eqGuardType60
@[go_sem] theorem zsn:zaW jV 61 0=some (0,53):=by kernel_rfl
@[go_sem] theorem zso:zbD jV 61 0=some (0,3):=by kernel_rfl
@[go_sem] theorem zsp:zaW jV 61 1=some (3,57):=by kernel_rfl
@[go_sem] theorem zsq:zbD jV 61 1=some (3,2):=by kernel_rfl
@[go_sem] theorem zsr:zaW jV 61 2=some (5,58):=by kernel_rfl
@[go_sem] theorem zss:zbD jV 61 2=some (5,1):=by kernel_rfl
@[go_sem] theorem zst:zaW jV 61 3=some (6,59):=by kernel_rfl
@[go_sem] theorem zsu:zbD jV 61 3=some (6,2):=by kernel_rfl
@[go_sem] theorem zsv:zaW jV 61 4=some (8,60):=by kernel_rfl
@[go_sem] theorem zsw:zbD jV 61 4=some (8,4):=by kernel_rfl
attribute [go_sem] Tryz.underlying61 Tryz.stoodInHeld61 Tryz.eqGuardType61
@[go_sem] theorem zsx:zaW jV 62 0=some (0,53):=by kernel_rfl
@[go_sem] theorem zsy:zbD jV 62 0=some (0,3):=by kernel_rfl
@[go_sem] theorem zsz:zaW jV 62 1=some (3,57):=by kernel_rfl
@[go_sem] theorem zsA:zbD jV 62 1=some (3,2):=by kernel_rfl
@[go_sem] theorem zsB:zaW jV 62 2=some (5,58):=by kernel_rfl
@[go_sem] theorem zsC:zbD jV 62 2=some (5,1):=by kernel_rfl
@[go_sem] theorem zsD:zaW jV 62 3=some (6,59):=by kernel_rfl
@[go_sem] theorem zsE:zbD jV 62 3=some (6,2):=by kernel_rfl
@[go_sem] theorem zsF:zaW jV 62 4=some (8,60):=by kernel_rfl
@[go_sem] theorem zsG:zbD jV 62 4=some (8,4):=by kernel_rfl
attribute [go_sem] Tryz.underlying62 Tryz.stoodInHeld62 Tryz.eqGuardType62
@[go_sem] theorem zsH:zaW jV 76 0=some (0,3):=by kernel_rfl
@[go_sem] theorem zsI:zbD jV 76 0=some (0,1):=by kernel_rfl
@[go_sem] theorem zsJ:zaW jV 76 1=some (1,3):=by kernel_rfl
@[go_sem] theorem zsK:zbD jV 76 1=some (1,1):=by kernel_rfl
@[go_sem] theorem zsL:zaW jV 76 2=some (2,3):=by kernel_rfl
@[go_sem] theorem zsM:zbD jV 76 2=some (2,1):=by kernel_rfl
@[go_sem] theorem zsN:zaW jV 76 3=some (3,3):=by kernel_rfl
@[go_sem] theorem zsO:zbD jV 76 3=some (3,1):=by kernel_rfl
@[go_sem] theorem zsP:zaW jV 76 4=some (4,3):=by kernel_rfl
@[go_sem] theorem zsQ:zbD jV 76 4=some (4,1):=by kernel_rfl
attribute [go_sem] Tryz.underlying76 Tryz.stoodInHeld76 Tryz.eqGuardType76
@[go_sem] theorem zsR:zaW jV 77 0=some (0,3):=by kernel_rfl
@[go_sem] theorem zsS:zbD jV 77 0=some (0,1):=by kernel_rfl
@[go_sem] theorem zsT:zaW jV 77 1=some (1,3):=by kernel_rfl
@[go_sem] theorem zsU:zbD jV 77 1=some (1,1):=by kernel_rfl
@[go_sem] theorem zsV:zaW jV 77 2=some (2,3):=by kernel_rfl
@[go_sem] theorem zsW:zbD jV 77 2=some (2,1):=by kernel_rfl
@[go_sem] theorem zsX:zaW jV 77 3=some (3,3):=by kernel_rfl
@[go_sem] theorem zsY:zbD jV 77 3=some (3,1):=by kernel_rfl
@[go_sem] theorem zsZ:zaW jV 77 4=some (4,3):=by kernel_rfl
@[go_sem] theorem zs0:zbD jV 77 4=some (4,1):=by kernel_rfl
attribute [go_sem] Tryz.underlying77 Tryz.stoodInHeld77 Tryz.eqGuardType77
@[go_sem] theorem zs1:zaW jV 79 0=some (0,3):=by kernel_rfl
@[go_sem] theorem zs2:zbD jV 79 0=some (0,1):=by kernel_rfl
@[go_sem] theorem zs3:zaW jV 79 1=some (1,3):=by kernel_rfl
@[go_sem] theorem zs4:zbD jV 79 1=some (1,1):=by kernel_rfl
@[go_sem] theorem zs5:zaW jV 79 2=some (2,3):=by kernel_rfl
@[go_sem] theorem zs6:zbD jV 79 2=some (2,1):=by kernel_rfl
@[go_sem] theorem zs7:zaW jV 79 3=some (3,3):=by kernel_rfl
@[go_sem] theorem zs8:zbD jV 79 3=some (3,1):=by kernel_rfl
@[go_sem] theorem zs9:zaW jV 79 4=some (4,3):=by kernel_rfl
@[go_sem] theorem zta:zbD jV 79 4=some (4,1):=by kernel_rfl
attribute [go_sem] Tryz.underlying79 Tryz.stoodInHeld79 Tryz.eqGuardType79
@[go_sem] theorem ztb:zaW jV 83 0=some (0,3):=by kernel_rfl
@[go_sem] theorem ztc:zbD jV 83 0=some (0,1):=by kernel_rfl
@[go_sem] theorem ztd:zaW jV 83 1=some (1,3):=by kernel_rfl
@[go_sem] theorem zte:zbD jV 83 1=some (1,1):=by kernel_rfl
@[go_sem] theorem ztf:zaW jV 83 2=some (2,3):=by kernel_rfl
@[go_sem] theorem ztg:zbD jV 83 2=some (2,1):=by kernel_rfl
@[go_sem] theorem zth:zaW jV 83 3=some (3,82):=by kernel_rfl
@[go_sem] theorem zti:zbD jV 83 3=some (3,1):=by kernel_rfl
attribute [go_sem] Tryz.underlying83 Tryz.stoodInHeld83 Tryz.eqGuardType83
@[go_sem] theorem ztj:zaW jV 84 0=some (0,3):=by kernel_rfl
@[go_sem] theorem ztk:zbD jV 84 0=some (0,1):=by kernel_rfl
@[go_sem] theorem ztl:zaW jV 84 1=some (1,3):=by kernel_rfl
@[go_sem] theorem ztm:zbD jV 84 1=some (1,1):=by kernel_rfl
@[go_sem] theorem ztn:zaW jV 84 2=some (2,3):=by kernel_rfl
@[go_sem] theorem zto:zbD jV 84 2=some (2,1):=by kernel_rfl
@[go_sem] theorem ztp:zaW jV 84 3=some (3,82):=by kernel_rfl
@[go_sem] theorem ztq:zbD jV 84 3=some (3,1):=by kernel_rfl
attribute [go_sem] Tryz.underlying84 Tryz.stoodInHeld84 Tryz.eqGuardType84
@[go_sem] theorem ztr:zaW jV 102 0=some (0,3):=by kernel_rfl
@[go_sem] theorem zts:zbD jV 102 0=some (0,1):=by kernel_rfl
@[go_sem] theorem ztt:zaW jV 102 1=some (1,3):=by kernel_rfl
@[go_sem] theorem ztu:zbD jV 102 1=some (1,1):=by kernel_rfl
@[go_sem] theorem ztv:zaW jV 102 2=some (2,3):=by kernel_rfl
@[go_sem] theorem ztw:zbD jV 102 2=some (2,1):=by kernel_rfl
@[go_sem] theorem ztx:zaW jV 102 3=some (3,101):=by kernel_rfl
@[go_sem] theorem zty:zbD jV 102 3=some (3,1):=by kernel_rfl
attribute [go_sem] Tryz.underlying102 Tryz.stoodInHeld102 Tryz.eqGuardType102
@[go_sem] theorem ztz:zaW jV 103 0=some (0,3):=by kernel_rfl
@[go_sem] theorem ztA:zbD jV 103 0=some (0,1):=by kernel_rfl
@[go_sem] theorem ztB:zaW jV 103 1=some (1,3):=by kernel_rfl
@[go_sem] theorem ztC:zbD jV 103 1=some (1,1):=by kernel_rfl
@[go_sem] theorem ztD:zaW jV 103 2=some (2,3):=by kernel_rfl
@[go_sem] theorem ztE:zbD jV 103 2=some (2,1):=by kernel_rfl
@[go_sem] theorem ztF:zaW jV 103 3=some (3,101):=by kernel_rfl
@[go_sem] theorem ztG:zbD jV 103 3=some (3,1):=by kernel_rfl
attribute [go_sem] Tryz.underlying103 Tryz.stoodInHeld103 Tryz.eqGuardType103
@[go_sem] theorem ztH:zaW jV 124 0=some (0,3):=by kernel_rfl
@[go_sem] theorem ztI:zbD jV 124 0=some (0,1):=by kernel_rfl
@[go_sem] theorem ztJ:zaW jV 124 1=some (1,3):=by kernel_rfl
@[go_sem] theorem ztK:zbD jV 124 1=some (1,1):=by kernel_rfl
@[go_sem] theorem ztL:zaW jV 124 2=some (2,3):=by kernel_rfl
@[go_sem] theorem ztM:zbD jV 124 2=some (2,1):=by kernel_rfl
attribute [go_sem] Tryz.underlying124 Tryz.stoodInHeld124 Tryz.eqGuardType124
@[go_sem] theorem ztN:zaW jV 125 0=some (0,3):=by kernel_rfl
@[go_sem] theorem ztO:zbD jV 125 0=some (0,1):=by kernel_rfl
@[go_sem] theorem ztP:zaW jV 125 1=some (1,3):=by kernel_rfl
@[go_sem] theorem ztQ:zbD jV 125 1=some (1,1):=by kernel_rfl
@[go_sem] theorem ztR:zaW jV 125 2=some (2,3):=by kernel_rfl
@[go_sem] theorem ztS:zbD jV 125 2=some (2,1):=by kernel_rfl
attribute [go_sem] Tryz.underlying125 Tryz.stoodInHeld125 Tryz.eqGuardType125
@[go_sem] theorem ztT:zaW jV 127 0=some (0,3):=by kernel_rfl
@[go_sem] theorem ztU:zbD jV 127 0=some (0,1):=by kernel_rfl
@[go_sem] theorem ztV:zaW jV 127 1=some (1,3):=by kernel_rfl
@[go_sem] theorem ztW:zbD jV 127 1=some (1,1):=by kernel_rfl
@[go_sem] theorem ztX:zaW jV 127 2=some (2,93):=by kernel_rfl
@[go_sem] theorem ztY:zbD jV 127 2=some (2,1):=by kernel_rfl
attribute [go_sem] Tryz.underlying127 Tryz.stoodInHeld127 Tryz.eqGuardType127
@[go_sem] theorem ztZ:zaW jV 128 0=some (0,3):=by kernel_rfl
@[go_sem] theorem zt0:zbD jV 128 0=some (0,1):=by kernel_rfl
@[go_sem] theorem zt1:zaW jV 128 1=some (1,3):=by kernel_rfl
@[go_sem] theorem zt2:zbD jV 128 1=some (1,1):=by kernel_rfl
@[go_sem] theorem zt3:zaW jV 128 2=some (2,93):=by kernel_rfl
@[go_sem] theorem zt4:zbD jV 128 2=some (2,1):=by kernel_rfl
attribute [go_sem] Tryz.underlying128 Tryz.stoodInHeld128 Tryz.eqGuardType128
@[go_sem] theorem zt5:zaW jV 156 0=some (0,9):=by kernel_rfl
@[go_sem] theorem zt6:zbD jV 156 0=some (0,1):=by kernel_rfl
@[go_sem] theorem zt7:zaW jV 156 1=some (1,3):=by kernel_rfl
@[go_sem] theorem zt8:zbD jV 156 1=some (1,1):=by kernel_rfl
@[go_sem] theorem zt9:zaW jV 156 2=some (2,3):=by kernel_rfl
@[go_sem] theorem zua:zbD jV 156 2=some (2,1):=by kernel_rfl
@[go_sem] theorem zub:zaW jV 156 3=some (3,3):=by kernel_rfl
@[go_sem] theorem zuc:zbD jV 156 3=some (3,1):=by kernel_rfl
@[go_sem] theorem zud:zaW jV 156 4=some (4,3):=by kernel_rfl
@[go_sem] theorem zue:zbD jV 156 4=some (4,1):=by kernel_rfl
@[go_sem] theorem zuf:zaW jV 156 5=some (5,4):=by kernel_rfl
@[go_sem] theorem zug:zbD jV 156 5=some (5,1):=by kernel_rfl
attribute [go_sem] Tryz.underlying156 Tryz.stoodInHeld156 Tryz.eqGuardType156
@[go_sem] theorem zuh:zaW jV 157 0=some (0,9):=by kernel_rfl
@[go_sem] theorem zui:zbD jV 157 0=some (0,1):=by kernel_rfl
@[go_sem] theorem zuj:zaW jV 157 1=some (1,3):=by kernel_rfl
@[go_sem] theorem zuk:zbD jV 157 1=some (1,1):=by kernel_rfl
@[go_sem] theorem zul:zaW jV 157 2=some (2,3):=by kernel_rfl
@[go_sem] theorem zum:zbD jV 157 2=some (2,1):=by kernel_rfl
@[go_sem] theorem zun:zaW jV 157 3=some (3,3):=by kernel_rfl
@[go_sem] theorem zuo:zbD jV 157 3=some (3,1):=by kernel_rfl
@[go_sem] theorem zup:zaW jV 157 4=some (4,3):=by kernel_rfl
@[go_sem] theorem zuq:zbD jV 157 4=some (4,1):=by kernel_rfl
@[go_sem] theorem zur:zaW jV 157 5=some (5,4):=by kernel_rfl
@[go_sem] theorem zus:zbD jV 157 5=some (5,1):=by kernel_rfl
attribute [go_sem] Tryz.underlying157 Tryz.stoodInHeld157 Tryz.eqGuardType157
@[go_sem] theorem zut:zaW jV 161 0=some (0,159):=by kernel_rfl
@[go_sem] theorem zuu:zbD jV 161 0=some (0,1):=by kernel_rfl
@[go_sem] theorem zuv:zaW jV 161 1=some (1,35):=by kernel_rfl
@[go_sem] theorem zuw:zbD jV 161 1=some (1,1):=by kernel_rfl
@[go_sem] theorem zux:zaW jV 161 2=some (2,160):=by kernel_rfl
@[go_sem] theorem zuy:zbD jV 161 2=some (2,1):=by kernel_rfl
attribute [go_sem] Tryz.underlying161 Tryz.stoodInHeld161 Tryz.eqGuardType161
@[go_sem] theorem zuz:zaW jV 162 0=some (0,159):=by kernel_rfl
@[go_sem] theorem zuA:zbD jV 162 0=some (0,1):=by kernel_rfl
@[go_sem] theorem zuB:zaW jV 162 1=some (1,35):=by kernel_rfl
@[go_sem] theorem zuC:zbD jV 162 1=some (1,1):=by kernel_rfl
@[go_sem] theorem zuD:zaW jV 162 2=some (2,160):=by kernel_rfl
@[go_sem] theorem zuE:zbD jV 162 2=some (2,1):=by kernel_rfl
attribute [go_sem] Tryz.underlying162 Tryz.stoodInHeld162 Tryz.eqGuardType162
@[go_sem] theorem zuF:zbD jV 187 0=some (0,1):=by kernel_rfl
@[go_sem] theorem zuG:zbD jV 187 1=some (1,1):=by kernel_rfl
@[go_sem] theorem zuH:zbD jV 188 0=some (0,1):=by kernel_rfl
@[go_sem] theorem zuI:zbD jV 188 1=some (1,1):=by kernel_rfl
@[go_sem] theorem zuJ:zaW jV 197 0=some (0,9):=by kernel_rfl
@[go_sem] theorem zuK:zbD jV 197 0=some (0,1):=by kernel_rfl
@[go_sem] theorem zuL:zaW jV 197 1=some (1,3):=by kernel_rfl
@[go_sem] theorem zuM:zbD jV 197 1=some (1,1):=by kernel_rfl
@[go_sem] theorem zuN:zaW jV 197 2=some (2,3):=by kernel_rfl
@[go_sem] theorem zuO:zbD jV 197 2=some (2,1):=by kernel_rfl
@[go_sem] theorem zuP:zaW jV 197 3=some (3,3):=by kernel_rfl
@[go_sem] theorem zuQ:zbD jV 197 3=some (3,1):=by kernel_rfl
@[go_sem] theorem zuR:zaW jV 197 4=some (4,3):=by kernel_rfl
@[go_sem] theorem zuS:zbD jV 197 4=some (4,1):=by kernel_rfl
@[go_sem] theorem zuT:zaW jV 197 5=some (5,4):=by kernel_rfl
@[go_sem] theorem zuU:zbD jV 197 5=some (5,1):=by kernel_rfl
attribute [go_sem] Tryz.underlying197 Tryz.stoodInHeld197 Tryz.eqGuardType197
@[go_sem] theorem zuV:zaW jV 221 0=some (0,3):=by kernel_rfl
@[go_sem] theorem zuW:zbD jV 221 0=some (0,1):=by kernel_rfl
@[go_sem] theorem zuX:zaW jV 221 1=some (1,3):=by kernel_rfl
@[go_sem] theorem zuY:zbD jV 221 1=some (1,1):=by kernel_rfl
@[go_sem] theorem zuZ:zaW jV 221 2=some (2,4):=by kernel_rfl
@[go_sem] theorem zu0:zbD jV 221 2=some (2,1):=by kernel_rfl
@[go_sem] theorem zu1:zaW jV 221 3=some (3,3):=by kernel_rfl
@[go_sem] theorem zu2:zbD jV 221 3=some (3,1):=by kernel_rfl
@[go_sem] theorem zu3:zaW jV 221 4=some (4,3):=by kernel_rfl
@[go_sem] theorem zu4:zbD jV 221 4=some (4,1):=by kernel_rfl
attribute [go_sem] Tryz.underlying221 Tryz.stoodInHeld221 Tryz.eqGuardType221
@[go_sem] theorem zu5:zaW jV 222 0=some (0,3):=by kernel_rfl
@[go_sem] theorem zu6:zbD jV 222 0=some (0,1):=by kernel_rfl
@[go_sem] theorem zu7:zaW jV 222 1=some (1,3):=by kernel_rfl
@[go_sem] theorem zu8:zbD jV 222 1=some (1,1):=by kernel_rfl
@[go_sem] theorem zu9:zaW jV 222 2=some (2,4):=by kernel_rfl
@[go_sem] theorem zva:zbD jV 222 2=some (2,1):=by kernel_rfl
@[go_sem] theorem zvb:zaW jV 222 3=some (3,3):=by kernel_rfl
@[go_sem] theorem zvc:zbD jV 222 3=some (3,1):=by kernel_rfl
@[go_sem] theorem zvd:zaW jV 222 4=some (4,3):=by kernel_rfl
@[go_sem] theorem zve:zbD jV 222 4=some (4,1):=by kernel_rfl
attribute [go_sem] Tryz.underlying222 Tryz.stoodInHeld222 Tryz.eqGuardType222
@[go_sem] theorem zvf:zaW jV 229 0=some (0,3):=by kernel_rfl
@[go_sem] theorem zvg:zbD jV 229 0=some (0,1):=by kernel_rfl
@[go_sem] theorem zvh:zaW jV 229 1=some (1,3):=by kernel_rfl
@[go_sem] theorem zvi:zbD jV 229 1=some (1,1):=by kernel_rfl
@[go_sem] theorem zvj:zaW jV 229 2=some (2,3):=by kernel_rfl
@[go_sem] theorem zvk:zbD jV 229 2=some (2,1):=by kernel_rfl
@[go_sem] theorem zvl:zaW jV 229 3=some (3,3):=by kernel_rfl
@[go_sem] theorem zvm:zbD jV 229 3=some (3,1):=by kernel_rfl
@[go_sem] theorem zvn:zaW jV 229 4=some (4,4):=by kernel_rfl
@[go_sem] theorem zvo:zbD jV 229 4=some (4,1):=by kernel_rfl
attribute [go_sem] Tryz.underlying229 Tryz.stoodInHeld229 Tryz.eqGuardType229
@[go_sem] theorem zvp:zaW jV 230 0=some (0,3):=by kernel_rfl
@[go_sem] theorem zvq:zbD jV 230 0=some (0,1):=by kernel_rfl
@[go_sem] theorem zvr:zaW jV 230 1=some (1,3):=by kernel_rfl
@[go_sem] theorem zvs:zbD jV 230 1=some (1,1):=by kernel_rfl
@[go_sem] theorem zvt:zaW jV 230 2=some (2,3):=by kernel_rfl
@[go_sem] theorem zvu:zbD jV 230 2=some (2,1):=by kernel_rfl
@[go_sem] theorem zvv:zaW jV 230 3=some (3,3):=by kernel_rfl
@[go_sem] theorem zvw:zbD jV 230 3=some (3,1):=by kernel_rfl
@[go_sem] theorem zvx:zaW jV 230 4=some (4,4):=by kernel_rfl
@[go_sem] theorem zvy:zbD jV 230 4=some (4,1):=by kernel_rfl
attribute [go_sem] Tryz.underlying230 Tryz.stoodInHeld230 Tryz.eqGuardType230
@[go_sem] theorem zvz:zaW jV 243 0=some (0,9):=by kernel_rfl
@[go_sem] theorem zvA:zbD jV 243 0=some (0,1):=by kernel_rfl
@[go_sem] theorem zvB:zaW jV 243 1=some (1,4):=by kernel_rfl
@[go_sem] theorem zvC:zbD jV 243 1=some (1,1):=by kernel_rfl
attribute [go_sem] Tryz.underlying243 Tryz.stoodInHeld243 Tryz.eqGuardType243
@[go_sem] theorem zvD:zaW jV 244 0=some (0,9):=by kernel_rfl
@[go_sem] theorem zvE:zbD jV 244 0=some (0,1):=by kernel_rfl
@[go_sem] theorem zvF:zaW jV 244 1=some (1,4):=by kernel_rfl
@[go_sem] theorem zvG:zbD jV 244 1=some (1,1):=by kernel_rfl
attribute [go_sem] Tryz.underlying244 Tryz.stoodInHeld244 Tryz.eqGuardType244
@[go_sem] theorem zvH:zaW jV 248 0=some (0,3):=by kernel_rfl
@[go_sem] theorem zvI:zbD jV 248 0=some (0,1):=by kernel_rfl
@[go_sem] theorem zvJ:zaW jV 248 1=some (1,3):=by kernel_rfl
@[go_sem] theorem zvK:zbD jV 248 1=some (1,1):=by kernel_rfl
@[go_sem] theorem zvL:zaW jV 248 2=some (2,4):=by kernel_rfl
@[go_sem] theorem zvM:zbD jV 248 2=some (2,1):=by kernel_rfl
@[go_sem] theorem zvN:zaW jV 248 3=some (3,3):=by kernel_rfl
@[go_sem] theorem zvO:zbD jV 248 3=some (3,1):=by kernel_rfl
@[go_sem] theorem zvP:zaW jV 248 4=some (4,3):=by kernel_rfl
@[go_sem] theorem zvQ:zbD jV 248 4=some (4,1):=by kernel_rfl
attribute [go_sem] Tryz.underlying248 Tryz.stoodInHeld248 Tryz.eqGuardType248
@[go_sem] theorem zvR:zaW jV 257 0=some (0,62):=by kernel_rfl
@[go_sem] theorem zvS:zbD jV 257 0=some (0,12):=by kernel_rfl
@[go_sem] theorem zvT:zaW jV 257 1=some (12,170):=by kernel_rfl
@[go_sem] theorem zvU:zbD jV 257 1=some (12,1):=by kernel_rfl
@[go_sem] theorem zvV:zaW jV 257 2=some (13,255):=by kernel_rfl
@[go_sem] theorem zvW:zbD jV 257 2=some (13,1):=by kernel_rfl
@[go_sem] theorem zvX:zaW jV 257 3=some (14,35):=by kernel_rfl
@[go_sem] theorem zvY:zbD jV 257 3=some (14,1):=by kernel_rfl
@[go_sem] theorem zvZ:zaW jV 257 4=some (15,35):=by kernel_rfl
@[go_sem] theorem zv0:zbD jV 257 4=some (15,1):=by kernel_rfl
@[go_sem] theorem zv1:zaW jV 257 5=some (16,3):=by kernel_rfl
@[go_sem] theorem zv2:zbD jV 257 5=some (16,1):=by kernel_rfl
@[go_sem] theorem zv3:zaW jV 257 6=some (17,4):=by kernel_rfl
@[go_sem] theorem zv4:zbD jV 257 6=some (17,1):=by kernel_rfl
attribute [go_sem] Tryz.underlying257 Tryz.stoodInHeld257 Tryz.eqGuardType257
@[go_sem] theorem zv5:zaW jV 258 0=some (0,62):=by kernel_rfl
@[go_sem] theorem zv6:zbD jV 258 0=some (0,12):=by kernel_rfl
@[go_sem] theorem zv7:zaW jV 258 1=some (12,170):=by kernel_rfl
@[go_sem] theorem zv8:zbD jV 258 1=some (12,1):=by kernel_rfl
@[go_sem] theorem zv9:zaW jV 258 2=some (13,255):=by kernel_rfl
@[go_sem] theorem zwa:zbD jV 258 2=some (13,1):=by kernel_rfl
@[go_sem] theorem zwb:zaW jV 258 3=some (14,35):=by kernel_rfl
@[go_sem] theorem zwc:zbD jV 258 3=some (14,1):=by kernel_rfl
@[go_sem] theorem zwd:zaW jV 258 4=some (15,35):=by kernel_rfl
@[go_sem] theorem zwe:zbD jV 258 4=some (15,1):=by kernel_rfl
@[go_sem] theorem zwf:zaW jV 258 5=some (16,3):=by kernel_rfl
@[go_sem] theorem zwg:zbD jV 258 5=some (16,1):=by kernel_rfl
@[go_sem] theorem zwh:zaW jV 258 6=some (17,4):=by kernel_rfl
@[go_sem] theorem zwi:zbD jV 258 6=some (17,1):=by kernel_rfl
attribute [go_sem] Tryz.underlying258 Tryz.stoodInHeld258 Tryz.eqGuardType258
@[go_sem] theorem zwj:zaW jV 261 0=some (0,62):=by kernel_rfl
@[go_sem] theorem zwk:zbD jV 261 0=some (0,12):=by kernel_rfl
@[go_sem] theorem zwl:zaW jV 261 1=some (12,170):=by kernel_rfl
@[go_sem] theorem zwm:zbD jV 261 1=some (12,1):=by kernel_rfl
@[go_sem] theorem zwn:zaW jV 261 2=some (13,191):=by kernel_rfl
@[go_sem] theorem zwo:zbD jV 261 2=some (13,1):=by kernel_rfl
@[go_sem] theorem zwp:zaW jV 261 3=some (14,93):=by kernel_rfl
@[go_sem] theorem zwq:zbD jV 261 3=some (14,1):=by kernel_rfl
@[go_sem] theorem zwr:zaW jV 261 4=some (15,35):=by kernel_rfl
@[go_sem] theorem zws:zbD jV 261 4=some (15,1):=by kernel_rfl
@[go_sem] theorem zwt:zaW jV 261 5=some (16,35):=by kernel_rfl
@[go_sem] theorem zwu:zbD jV 261 5=some (16,1):=by kernel_rfl
@[go_sem] theorem zwv:zaW jV 261 6=some (17,188):=by kernel_rfl
@[go_sem] theorem zww:zbD jV 261 6=some (17,2):=by kernel_rfl
@[go_sem] theorem zwx:zaW jV 261 7=some (19,4):=by kernel_rfl
@[go_sem] theorem zwy:zbD jV 261 7=some (19,1):=by kernel_rfl
attribute [go_sem] Tryz.underlying261 Tryz.stoodInHeld261 Tryz.eqGuardType261
@[go_sem] theorem zwz:zaW jV 262 0=some (0,62):=by kernel_rfl
@[go_sem] theorem zwA:zbD jV 262 0=some (0,12):=by kernel_rfl
@[go_sem] theorem zwB:zaW jV 262 1=some (12,170):=by kernel_rfl
@[go_sem] theorem zwC:zbD jV 262 1=some (12,1):=by kernel_rfl
@[go_sem] theorem zwD:zaW jV 262 2=some (13,191):=by kernel_rfl
@[go_sem] theorem zwE:zbD jV 262 2=some (13,1):=by kernel_rfl
@[go_sem] theorem zwF:zaW jV 262 3=some (14,93):=by kernel_rfl
@[go_sem] theorem zwG:zbD jV 262 3=some (14,1):=by kernel_rfl
@[go_sem] theorem zwH:zaW jV 262 4=some (15,35):=by kernel_rfl
@[go_sem] theorem zwI:zbD jV 262 4=some (15,1):=by kernel_rfl
@[go_sem] theorem zwJ:zaW jV 262 5=some (16,35):=by kernel_rfl
@[go_sem] theorem zwK:zbD jV 262 5=some (16,1):=by kernel_rfl
@[go_sem] theorem zwL:zaW jV 262 6=some (17,188):=by kernel_rfl
@[go_sem] theorem zwM:zbD jV 262 6=some (17,2):=by kernel_rfl
@[go_sem] theorem zwN:zaW jV 262 7=some (19,4):=by kernel_rfl
@[go_sem] theorem zwO:zbD jV 262 7=some (19,1):=by kernel_rfl
attribute [go_sem] Tryz.underlying262 Tryz.stoodInHeld262 Tryz.eqGuardType262
@[go_sem] theorem zwP:zaW jV 265 0=some (0,9):=by kernel_rfl
@[go_sem] theorem zwQ:zbD jV 265 0=some (0,1):=by kernel_rfl
@[go_sem] theorem zwR:zaW jV 265 1=some (1,4):=by kernel_rfl
@[go_sem] theorem zwS:zbD jV 265 1=some (1,1):=by kernel_rfl
attribute [go_sem] Tryz.underlying265 Tryz.stoodInHeld265 Tryz.eqGuardType265
@[go_sem] theorem zwT:zaW jV 268 0=some (0,3):=by kernel_rfl
@[go_sem] theorem zwU:zbD jV 268 0=some (0,1):=by kernel_rfl
@[go_sem] theorem zwV:zaW jV 268 1=some (1,3):=by kernel_rfl
@[go_sem] theorem zwW:zbD jV 268 1=some (1,1):=by kernel_rfl
@[go_sem] theorem zwX:zaW jV 268 2=some (2,3):=by kernel_rfl
@[go_sem] theorem zwY:zbD jV 268 2=some (2,1):=by kernel_rfl
attribute [go_sem] Tryz.underlying268 Tryz.stoodInHeld268 Tryz.eqGuardType268
@[go_sem] theorem zwZ:zaW jV 271 0=some (0,3):=by kernel_rfl
@[go_sem] theorem zw0:zbD jV 271 0=some (0,1):=by kernel_rfl
@[go_sem] theorem zw1:zaW jV 271 1=some (1,3):=by kernel_rfl
@[go_sem] theorem zw2:zbD jV 271 1=some (1,1):=by kernel_rfl
@[go_sem] theorem zw3:zaW jV 271 2=some (2,3):=by kernel_rfl
@[go_sem] theorem zw4:zbD jV 271 2=some (2,1):=by kernel_rfl
@[go_sem] theorem zw5:zaW jV 271 3=some (3,3):=by kernel_rfl
@[go_sem] theorem zw6:zbD jV 271 3=some (3,1):=by kernel_rfl
@[go_sem] theorem zw7:zaW jV 271 4=some (4,4):=by kernel_rfl
@[go_sem] theorem zw8:zbD jV 271 4=some (4,1):=by kernel_rfl
attribute [go_sem] Tryz.underlying271 Tryz.stoodInHeld271 Tryz.eqGuardType271
@[go_sem] theorem zw9:zaW jV 296 0=some (0,3):=by kernel_rfl
@[go_sem] theorem zxa:zbD jV 296 0=some (0,1):=by kernel_rfl
@[go_sem] theorem zxb:zaW jV 296 1=some (1,3):=by kernel_rfl
@[go_sem] theorem zxc:zbD jV 296 1=some (1,1):=by kernel_rfl
@[go_sem] theorem zxd:zaW jV 296 2=some (2,3):=by kernel_rfl
@[go_sem] theorem zxe:zbD jV 296 2=some (2,1):=by kernel_rfl
attribute [go_sem] Tryz.underlying296 Tryz.stoodInHeld296 Tryz.eqGuardType296
@[go_sem] theorem zxf:zaW jV 297 0=some (0,3):=by kernel_rfl
@[go_sem] theorem zxg:zbD jV 297 0=some (0,1):=by kernel_rfl
@[go_sem] theorem zxh:zaW jV 297 1=some (1,3):=by kernel_rfl
@[go_sem] theorem zxi:zbD jV 297 1=some (1,1):=by kernel_rfl
@[go_sem] theorem zxj:zaW jV 297 2=some (2,3):=by kernel_rfl
@[go_sem] theorem zxk:zbD jV 297 2=some (2,1):=by kernel_rfl
attribute [go_sem] Tryz.underlying297 Tryz.stoodInHeld297 Tryz.eqGuardType297
@[go_sem] theorem zxl:zaW jV 302 0=some (0,3):=by kernel_rfl
@[go_sem] theorem zxm:zbD jV 302 0=some (0,1):=by kernel_rfl
@[go_sem] theorem zxn:zaW jV 302 1=some (1,3):=by kernel_rfl
@[go_sem] theorem zxo:zbD jV 302 1=some (1,1):=by kernel_rfl
@[go_sem] theorem zxp:zaW jV 302 2=some (2,3):=by kernel_rfl
@[go_sem] theorem zxq:zbD jV 302 2=some (2,1):=by kernel_rfl
@[go_sem] theorem zxr:zaW jV 302 3=some (3,3):=by kernel_rfl
@[go_sem] theorem zxs:zbD jV 302 3=some (3,1):=by kernel_rfl
attribute [go_sem] Tryz.underlying302 Tryz.stoodInHeld302 Tryz.eqGuardType302
@[go_sem] theorem zxt:zaW jV 303 0=some (0,3):=by kernel_rfl
@[go_sem] theorem zxu:zbD jV 303 0=some (0,1):=by kernel_rfl
@[go_sem] theorem zxv:zaW jV 303 1=some (1,3):=by kernel_rfl
@[go_sem] theorem zxw:zbD jV 303 1=some (1,1):=by kernel_rfl
@[go_sem] theorem zxx:zaW jV 303 2=some (2,3):=by kernel_rfl
@[go_sem] theorem zxy:zbD jV 303 2=some (2,1):=by kernel_rfl
@[go_sem] theorem zxz:zaW jV 303 3=some (3,3):=by kernel_rfl
@[go_sem] theorem zxA:zbD jV 303 3=some (3,1):=by kernel_rfl
attribute [go_sem] Tryz.underlying303 Tryz.stoodInHeld303 Tryz.eqGuardType303
@[go_sem] theorem zxB:zaW jV 312 0=some (0,3):=by kernel_rfl
@[go_sem] theorem zxC:zbD jV 312 0=some (0,1):=by kernel_rfl
@[go_sem] theorem zxD:zaW jV 312 1=some (1,3):=by kernel_rfl
@[go_sem] theorem zxE:zbD jV 312 1=some (1,1):=by kernel_rfl
@[go_sem] theorem zxF:zaW jV 312 2=some (2,3):=by kernel_rfl
@[go_sem] theorem zxG:zbD jV 312 2=some (2,1):=by kernel_rfl
attribute [go_sem] Tryz.underlying312 Tryz.stoodInHeld312 Tryz.eqGuardType312
@[go_sem] theorem zxH:zaW jV 319 0=some (0,3):=by kernel_rfl
@[go_sem] theorem zxI:zbD jV 319 0=some (0,1):=by kernel_rfl
@[go_sem] theorem zxJ:zaW jV 319 1=some (1,3):=by kernel_rfl
@[go_sem] theorem zxK:zbD jV 319 1=some (1,1):=by kernel_rfl
attribute [go_sem] Tryz.underlying319 Tryz.stoodInHeld319 Tryz.eqGuardType319
@[go_sem] theorem zxL:zaW jV 320 0=some (0,3):=by kernel_rfl
@[go_sem] theorem zxM:zbD jV 320 0=some (0,1):=by kernel_rfl
@[go_sem] theorem zxN:zaW jV 320 1=some (1,3):=by kernel_rfl
@[go_sem] theorem zxO:zbD jV 320 1=some (1,1):=by kernel_rfl
attribute [go_sem] Tryz.underlying320 Tryz.stoodInHeld320 Tryz.eqGuardType320
@[go_sem] theorem zxP:zbD jV 323 0=some (0,1):=by kernel_rfl
@[go_sem] theorem zxQ:zbD jV 323 1=some (1,1):=by kernel_rfl
@[go_sem] theorem zxR:zbD jV 323 2=some (2,1):=by kernel_rfl
@[go_sem] theorem zxS:zbD jV 323 3=some (3,1):=by kernel_rfl
@[go_sem] theorem zxT:zbD jV 323 4=some (4,1):=by kernel_rfl
@[go_sem] theorem zxU:zbD jV 323 5=some (5,1):=by kernel_rfl
@[go_sem] theorem zxV:zbD jV 323 6=some (6,1):=by kernel_rfl
@[go_sem] theorem zxW:zbD jV 323 7=some (7,1):=by kernel_rfl
@[go_sem] theorem zxX:zaW jV 349 0=some (0,345):=by kernel_rfl
@[go_sem] theorem zxY:zbD jV 349 0=some (0,1):=by kernel_rfl
@[go_sem] theorem zxZ:zaW jV 349 1=some (1,3):=by kernel_rfl
@[go_sem] theorem zx0:zbD jV 349 1=some (1,1):=by kernel_rfl
@[go_sem] theorem zx1:zaW jV 349 2=some (2,345):=by kernel_rfl
@[go_sem] theorem zx2:zbD jV 349 2=some (2,1):=by kernel_rfl
@[go_sem] theorem zx3:zaW jV 349 3=some (3,35):=by kernel_rfl
@[go_sem] theorem zx4:zbD jV 349 3=some (3,1):=by kernel_rfl
attribute [go_sem] Tryz.underlying349 Tryz.stoodInHeld349 Tryz.eqGuardType349
@[go_sem] theorem zx5:zaW jV 350 0=some (0,345):=by kernel_rfl
@[go_sem] theorem zx6:zbD jV 350 0=some (0,1):=by kernel_rfl
@[go_sem] theorem zx7:zaW jV 350 1=some (1,3):=by kernel_rfl
@[go_sem] theorem zx8:zbD jV 350 1=some (1,1):=by kernel_rfl
@[go_sem] theorem zx9:zaW jV 350 2=some (2,345):=by kernel_rfl
@[go_sem] theorem zya:zbD jV 350 2=some (2,1):=by kernel_rfl
@[go_sem] theorem zyb:zaW jV 350 3=some (3,35):=by kernel_rfl
@[go_sem] theorem zyc:zbD jV 350 3=some (3,1):=by kernel_rfl
attribute [go_sem] Tryz.underlying350 Tryz.stoodInHeld350 Tryz.eqGuardType350
set_option maxHeartbeats 1000000
theorem zyd (a:Sl Int) (n:Int) (h:Hp) (e:a.Ok h) (c:0≤n∧n≤1048576):Ct jV 142 [a.val,.int .i64 n] h fun v h'=>v=.int .i64 (zkD n (yW a))∧h'=h:=by
 have d:=e.max
 rw [zkC (fun _=>rfl) a]
 refine zdn (fun A W=>by simp) Tryz.func142 rfl rfl (by simp) fun W0=>?_
 refine Wk ?_
 refine zc9 rfl (fun b=>?_) (fun b=>?_)
 ·refine Wk ?_
  rw [zkK c d] at b
  exact zkJ (zkL b) (qV _)
 ·refine Wk ?_
  rw [zkK c d] at b ⊢
  rw [(zkM b).1]
theorem zye (c:DPoint) (n:Int) (h:Hp) (g:jD h c) (e:0≤n∧n≤1048576):Ct jV 215 [.agg #[.string c.name,.bool c.wait],.int .i64 n] h fun v h'=>v=.int .i64 (zkD n (yW c))∧h'=h:=by
 rw [zle]
 have a:=g
 refine zdn (fun A W=>by simp) Tryz.func215 rfl rfl (by simp) fun W0=>?_
 refine Wk ?_
 have b:c.name.size≤9223372036854775807:=a
 refine zc9 rfl (fun d=>?_) (fun d=>?_)
 ·refine Wk ?_
  rw [zkK e b] at d
  exact zkJ (zkL d) (by first|exact qV _|omega)
 rw [zkK e b] at d
 have f:=zkM d
 refine Wk ?_
 rw [zkK e b,f.1];rfl
theorem zyf (c:DShip) (n:Int) (h:Hp) (m:jD h c) (f:0≤n∧n≤1048576):Ct jV 141 [.agg #[.string c.name,.int .i64 c.length,.int .i64 c.draught,.int .i64 c.line,.int .i64 c.tugs,.bool c.slow],.int .i64 n] h fun v h'=>v=.int .i64 (zkD n (yW c))∧h'=h:=by
 rw [zlm]
 have i:=m
 obtain ⟨a,g,e,j,k⟩:=i
 refine zdn (fun A W=>by simp) Tryz.func141 rfl rfl (by simp) fun W0=>?_
 refine Wk ?_
 have b:c.name.size≤9223372036854775807:=a
 refine zc9 rfl (fun d=>?_) (fun d=>?_)
 ·refine Wk ?_
  rw [zkK f b] at d
  exact zkJ (zkL d) (by first|exact qV _|omega)
 rw [zkK f b] at d
 have l:=zkM d
 refine Wk ?_
 rw [zkK f b,l.1];rfl
theorem zyg (a:Sl DCall) (n:Int) (h:Hp) (e:a.Ok h) (c:0≤n∧n≤1048576):Ct jV 14 [a.val,.int .i64 n] h fun v h'=>v=.int .i64 (zkD n (yW a))∧h'=h:=by
 have d:=e.max
 rw [zkC (fun _=>rfl) a]
 refine zdn (fun A W=>by simp) Tryz.func14 rfl rfl (by simp) fun W0=>?_
 refine Wk ?_
 refine zc9 rfl (fun b=>?_) (fun b=>?_)
 ·refine Wk ?_
  rw [zkK c d] at b
  exact zkJ (zkL b) (qV _)
 ·refine Wk ?_
  rw [zkK c d] at b ⊢
  rw [(zkM b).1]
theorem zyh (c:DCrew) (n:Int) (h:Hp) (i:jD h c) (j:0≤n∧n≤1048576):Ct jV 63 [.agg #[.int .i64 c.tugs,.int .i64 c.pilots,.int .i64 c.rest,c.moves.val],.int .i64 n] h fun v h'=>v=.int .i64 (zkD n (yW c))∧h'=h:=by
 rw [zk2]
 have e:=i
 obtain ⟨f,b,g,a⟩:=e
 refine zdn (fun A W=>by simp) Tryz.func63 rfl rfl (by simp) fun W0=>?_
 repeat' first|refine Wa ?_|refine zhF (fun _=>zyd _ _ _ a j) ?_|(simp only [go_sem,jq,jj,jy,jv,jk,jx];try rfl)|refine Wb ?_|fail
 refine zc9 rfl (fun d=>?_) (fun d=>?_)
 ·refine Wk ?_
  exact zkJ (JE d) (by omega)
 have k:=zkF d
 exact Wk0
theorem zyi (a:Sl DPart) (n:Int) (h:Hp) (e:a.Ok h) (c:0≤n∧n≤1048576):Ct jV 214 [a.val,.int .i64 n] h fun v h'=>v=.int .i64 (zkD n (yW a))∧h'=h:=by
 have d:=e.max
 rw [zkC (fun _=>rfl) a]
 refine zdn (fun A W=>by simp) Tryz.func214 rfl rfl (by simp) fun W0=>?_
 refine Wk ?_
 refine zc9 rfl (fun b=>?_) (fun b=>?_)
 ·refine Wk ?_
  rw [zkK c d] at b
  exact zkJ (zkL b) (qV _)
 ·refine Wk ?_
  rw [zkK c d] at b ⊢
  rw [(zkM b).1]
theorem zyj (a:Sl DPoint) (n:Int) (h:Hp) (f:a.Ok h) (g:0≤n∧n≤1048576):Ct jV 139 [a.val,.int .i64 n] h fun v h'=>v=.int .i64 (zkD n (yW a))∧h'=h:=by
 have i:=f.max
 rw [zkB]
 refine zdn (fun A W=>by simp) Tryz.func139 rfl rfl (by simp) fun W0=>?_
 refine Wk ?_
 refine zc9 rfl (fun e=>?_) (fun e=>?_)
 ·refine Wk ?_
  rw [zkK g i] at e
  exact zkJ (zkL e) (uK _ _)
 rw [zkK g i] at e
 have p:=zkM e
 refine Wk ?_
 refine zde (ι:=Nat) (fun k=>⟨[(0,true,.c (.v a.val)),(1,true,.c (.v (.int .i64 (zkD n (a.l.length+((a.l.map yW).take k).sum))))),(5,true,.c (.v (.int .i64 k)))],[],h,0⟩) (fun k=>k≤a.l.length∧0≤zkD n (a.l.length+((a.l.map yW).take k).sum)) (fun k=>a.l.length - k) 0 ⟨jC _,p.2⟩ ?_ ?_
 ·refine Evs ?_
  exact ⟨by rw [zkK g i,p.1];rfl,rfl⟩
 intro k j
 refine Wk ?_
 refine zc9 rfl (fun o=>?_) (fun o=>?_)
 ·have b:=zjH o
  have m:k < (a.l.map yW).length:=by rw [jH];exact b
  repeat' first|refine Wa ?_|refine zhF (fun _=>zye _ _ _ (f.el b) (zkH g j.2)) ?_|(simp only [go_sem,jq,jj,jy,jv,jk,jx,zlf f b,f.some b,b,jW];try rfl)|refine Wb ?_|fail
  refine zc9 rfl (fun d=>?_) (fun d=>?_)
  ·refine Wk ?_
   rw [zkE j.2] at d
   refine zkJ (JE d) ?_
   have:=zkO m
   rw [qH] at this
   have:=zkP (l:=a.l.map yW) (k:=k+1)
   omega
  ·rw [zkE j.2] at d
   have s:=zkO m
   rw [qH] at s
   have q:a.l.length+((a.l.map yW).take k).sum+yW a.l[k]=a.l.length+((a.l.map yW).take (k+1)).sum:=by omega
   rw [q] at d
   refine Wk ?_
   exact ⟨k+1,⟨b,zkF d⟩,by omega,by rw [zkE j.2,q],zjB (zjA b i)⟩
 ·have r:=zjI o
  refine Wk ?_
  rw [qy (by rw [jH];exact r)]
theorem zyk (a:Sl DSegment) (n:Int) (h:Hp) (e:a.Ok h) (c:0≤n∧n≤1048576):Ct jV 140 [a.val,.int .i64 n] h fun v h'=>v=.int .i64 (zkD n (yW a))∧h'=h:=by
 have d:=e.max
 rw [zkC (fun _=>rfl) a]
 refine zdn (fun A W=>by simp) Tryz.func140 rfl rfl (by simp) fun W0=>?_
 refine Wk ?_
 refine zc9 rfl (fun b=>?_) (fun b=>?_)
 ·refine Wk ?_
  rw [zkK c d] at b
  exact zkJ (zkL b) (qV _)
 ·refine Wk ?_
  rw [zkK c d] at b ⊢
  rw [(zkM b).1]
theorem zyl (a:Sl DShip) (n:Int) (h:Hp) (f:a.Ok h) (g:0≤n∧n≤1048576):Ct jV 62 [a.val,.int .i64 n] h fun v h'=>v=.int .i64 (zkD n (yW a))∧h'=h:=by
 have i:=f.max
 rw [zkB]
 refine zdn (fun A W=>by simp) Tryz.func62 rfl rfl (by simp) fun W0=>?_
 refine Wk ?_
 refine zc9 rfl (fun e=>?_) (fun e=>?_)
 ·refine Wk ?_
  rw [zkK g i] at e
  exact zkJ (zkL e) (uK _ _)
 rw [zkK g i] at e
 have p:=zkM e
 refine Wk ?_
 refine zde (ι:=Nat) (fun k=>⟨[(0,true,.c (.v a.val)),(1,true,.c (.v (.int .i64 (zkD n (a.l.length+((a.l.map yW).take k).sum))))),(5,true,.c (.v (.int .i64 k)))],[],h,0⟩) (fun k=>k≤a.l.length∧0≤zkD n (a.l.length+((a.l.map yW).take k).sum)) (fun k=>a.l.length - k) 0 ⟨jC _,p.2⟩ ?_ ?_
 ·refine Evs ?_
  exact ⟨by rw [zkK g i,p.1];rfl,rfl⟩
 intro k j
 refine Wk ?_
 refine zc9 rfl (fun o=>?_) (fun o=>?_)
 ·have b:=zjH o
  have m:k < (a.l.map yW).length:=by rw [jH];exact b
  repeat' first|refine Wa ?_|refine zhF (fun _=>zyf _ _ _ (f.el b) (zkH g j.2)) ?_|(simp only [go_sem,jq,jj,jy,jv,jk,jx,zln f b,f.some b,b,jW];try rfl)|refine Wb ?_|fail
  refine zc9 rfl (fun d=>?_) (fun d=>?_)
  ·refine Wk ?_
   rw [zkE j.2] at d
   refine zkJ (JE d) ?_
   have:=zkO m
   rw [qH] at this
   have:=zkP (l:=a.l.map yW) (k:=k+1)
   omega
  ·rw [zkE j.2] at d
   have s:=zkO m
   rw [qH] at s
   have q:a.l.length+((a.l.map yW).take k).sum+yW a.l[k]=a.l.length+((a.l.map yW).take (k+1)).sum:=by omega
   rw [q] at d
   refine Wk ?_
   exact ⟨k+1,⟨b,zkF d⟩,by omega,by rw [zkE j.2,q],zjB (zjA b i)⟩
 ·have r:=zjI o
  refine Wk ?_
  rw [qy (by rw [jH];exact r)]
theorem zym (a:Sl DSurge) (n:Int) (h:Hp) (e:a.Ok h) (c:0≤n∧n≤1048576):Ct jV 138 [a.val,.int .i64 n] h fun v h'=>v=.int .i64 (zkD n (yW a))∧h'=h:=by
 have d:=e.max
 rw [zkC (fun _=>rfl) a]
 refine zdn (fun A W=>by simp) Tryz.func138 rfl rfl (by simp) fun W0=>?_
 refine Wk ?_
 refine zc9 rfl (fun b=>?_) (fun b=>?_)
 ·refine Wk ?_
  rw [zkK c d] at b
  exact zkJ (zkL b) (qV _)
 ·refine Wk ?_
  rw [zkK c d] at b ⊢
  rw [(zkM b).1]
theorem zyn (c:DChart) (n:Int) (h:Hp) (j:jD h c) (f:0≤n∧n≤1048576):Ct jV 61 [.agg #[c.points.val,c.segments.val],.int .i64 n] h fun v h'=>v=.int .i64 (zkD n (yW c))∧h'=h:=by
 rw [zlk]
 have g:=j
 obtain ⟨d,a⟩:=g
 refine zdn (fun A W=>by simp) Tryz.func61 rfl rfl (by simp) fun W0=>?_
 repeat' first|refine Wa ?_|refine zhF (fun _=>zyj _ _ _ d f) ?_|(simp only [go_sem,jq,jj,jy,jv,jk,jx];try rfl)|refine Wb ?_|fail
 refine zc9 rfl (fun b=>?_) (fun b=>?_)
 ·refine Wk ?_
  exact zkJ (JE b) (by omega)
 have e:=zkF b
 repeat' first|refine Wa ?_|refine zhF (fun _=>zyk _ _ _ a (zkH f e)) ?_|(simp only [go_sem,jq,jj,jy,jv,jk,jx];try rfl)|refine Wb ?_|fail
 refine zc9 rfl (fun b=>?_) (fun b=>?_)
 ·refine Wk ?_
  rw [zkE e] at b
  exact zkJ (JE b) (by omega)
 have i:=zkF b
 rw [zkE e] at i
 refine Wk ?_
 rw [zkE e]
theorem zyo (c:DTide) (n:Int) (h:Hp) (f:jD h c) (g:0≤n∧n≤1048576):Ct jV 137 [.agg #[.int .i64 c.mean,c.parts.val],.int .i64 n] h fun v h'=>v=.int .i64 (zkD n (yW c))∧h'=h:=by
 rw [zk7]
 have d:=f
 obtain ⟨e,a⟩:=d
 refine zdn (fun A W=>by simp) Tryz.func137 rfl rfl (by simp) fun W0=>?_
 repeat' first|refine Wa ?_|refine zhF (fun _=>zyi _ _ _ a g) ?_|(simp only [go_sem,jq,jj,jy,jv,jk,jx];try rfl)|refine Wb ?_|fail
 refine zc9 rfl (fun b=>?_) (fun b=>?_)
 ·refine Wk ?_
  exact zkJ (JE b) (by omega)
 have i:=zkF b
 exact Wk0
theorem zyp (c:DForecast) (n:Int) (h:Hp) (j:jD h c) (f:0≤n∧n≤1048576):Ct jV 60 [.agg #[.int .i64 c.tide.mean,c.tide.parts.val,c.surges.val],.int .i64 n] h fun v h'=>v=.int .i64 (zkD n (yW c))∧h'=h:=by
 rw [zlc]
 have g:=j
 obtain ⟨e,b⟩:=g
 refine zdn (fun A W=>by simp) Tryz.func60 rfl rfl (by simp) fun W0=>?_
 repeat' first|refine Wa ?_|refine zhF (fun _=>zyo _ _ _ e f) ?_|(simp only [go_sem,jq,jj,jy,jv,jk,jx];try rfl)|refine Wb ?_|fail
 refine zc9 rfl (fun a=>?_) (fun a=>?_)
 ·refine Wk ?_
  exact zkJ (JE a) (by omega)
 have d:=zkF a
 repeat' first|refine Wa ?_|refine zhF (fun _=>zym _ _ _ b (zkH f d)) ?_|(simp only [go_sem,jq,jj,jy,jv,jk,jx];try rfl)|refine Wb ?_|fail
 refine zc9 rfl (fun a=>?_) (fun a=>?_)
 ·refine Wk ?_
  rw [zkE d] at a
  exact zkJ (JE a) (by omega)
 have i:=zkF a
 rw [zkE d] at i
 refine Wk ?_
 rw [zkE d]
theorem zyq (c:DHarbour) (n:Int) (h:Hp) (p:jD h c) (k:0≤n∧n≤1048576):Ct jV 13 [.agg #[.int .i64 c.forecast.tide.mean,c.forecast.tide.parts.val,c.forecast.surges.val,c.chart.points.val,c.chart.segments.val,c.fleet.val,.int .i64 c.regime.gap,.bool c.regime.noMeet,.int .i64 c.crew.tugs,.int .i64 c.crew.pilots,.int .i64 c.crew.rest,c.crew.moves.val],.int .i64 n] h fun v h'=>v=.int .i64 (zkD n (yW c))∧h'=h:=by
 rw [zlr]
 have m:=p
 obtain ⟨e,g,i,l,j⟩:=m
 refine zdn (fun A W=>by simp) Tryz.func13 rfl rfl (by simp) fun W0=>?_
 repeat' first|refine Wa ?_|refine zhF (fun _=>zyp _ _ _ e k) ?_|(simp only [go_sem,jq,jj,jy,jv,jk,jx];try rfl)|refine Wb ?_|fail
 refine zc9 rfl (fun a=>?_) (fun a=>?_)
 ·refine Wk ?_
  exact zkJ (JE a) (by omega)
 have b:=zkF a
 repeat' first|refine Wa ?_|refine zhF (fun _=>zyn _ _ _ g (zkH k b)) ?_|(simp only [go_sem,jq,jj,jy,jv,jk,jx];try rfl)|refine Wb ?_|fail
 refine zc9 rfl (fun a=>?_) (fun a=>?_)
 ·refine Wk ?_
  rw [zkE b] at a
  exact zkJ (JE a) (by omega)
 have d:=zkF a
 rw [zkE b] at d
 repeat' first|refine Wa ?_|refine zhF (fun _=>zyl _ _ _ i (by rw [zkE b];exact zkH k d)) ?_|(simp only [go_sem,jq,jj,jy,jv,jk,jx];try rfl)|refine Wb ?_|fail
 refine zc9 rfl (fun a=>?_) (fun a=>?_)
 ·refine Wk ?_
  rw [zkE b] at a
  rw [zkE d] at a
  exact zkJ (JE a) (by omega)
 have f:=zkF a
 rw [zkE b,zkE d] at f
 repeat' first|refine Wa ?_|refine zhF (fun _=>zyh _ _ _ j (by rw [zkE b,zkE d];exact zkH k f)) ?_|(simp only [go_sem,jq,jj,jy,jv,jk,jx];try rfl)|refine Wb ?_|fail
 refine zc9 rfl (fun a=>?_) (fun a=>?_)
 ·refine Wk ?_
  rw [zkE b] at a
  rw [zkE d] at a
  rw [zkE f] at a
  exact zkJ (JE a) (by omega)
 have o:=zkF a
 rw [zkE b,zkE d,zkE f] at o
 refine Wk ?_
 rw [zkE b,zkE d,zkE f]
theorem zyr (c:DCall) (h:Hp):Ct jV 30 [.agg #[.int .i64 c.ship,.int .i64 c.src,.int .i64 c.dst,.int .i64 c.ready,.int .i64 c.due]] h fun v h'=>v=.agg #[.int .i64 c.ship,.int .i64 c.src,.int .i64 c.dst,.int .i64 c.ready,.int .i64 c.due]∧h'=h:=by
 refine zdn (fun A W=>by simp) Tryz.func30 rfl rfl (by simp) fun W0=>?_
 exact Wk0
theorem zys (a:Sl Int) (h:Hp) (d:a.Ok h) (j:yW a≤1048576):Ct jV 18 [a.val] h fun v h'=>∃ s:Sl Int,v=s.val∧jK s=jK a∧s.Ok h'∧Mine h h' s:=by
 have r:a.l.length≤1048576:=wK (uK _ _) j
 refine zdn (fun A W=>by simp) Tryz.func18 rfl rfl (by simp) fun W0=>?_
 refine Wk ?_
 refine ⟨by simp only [maxLen];omega,by omega,?_⟩
 refine Wk ?_
 refine zde (ι:=Nat) (fun k=>⟨[(0,true,.c (.v a.val)),(3,true,.c (.s 0)),(4,true,.c (.v (.int .i64 k)))],[(0,.row 3 1 a.l.length (conv (a.l.take k) a.l.length [.int .i64 0]))],h,1⟩) (fun k=>k≤a.l.length) (fun k=>a.l.length - k) 0 (jC _) ?_ ?_
 ·refine Evs ?_
  exact ⟨rfl,zj8 (zkc (α:=Int) (z:=#[.int .i64 0]) (by decide))⟩
 intro k t
 refine Wk ?_
 refine zc9 rfl (fun e=>?_) (fun e=>?_)
 ·have b:=zjH e
  have f:(a.l.take k).length=k:=by rw [ww];omega
  repeat' first|refine Wa ?_|(simp only [go_sem,jq,jj,jy,jv,jk,jx,zkR d b,d.some b,b,jW];try rfl)|refine Wb ?_|fail
  refine ⟨?_,?_⟩
  ·rw [zj9 (by omega) rfl];exact wK (Nat.le_of_eq (by simp only [yP])) (wP 1 (show k+1≤a.l.length from b))
  refine Wk ?_
  exact ⟨k+1,b,by omega,zjB (zjA b (by omega)),zj8 (by rw [qw b];exact zkb f b rfl)⟩
 ·have g:=zjI e
  refine zc6 ?_
  refine Evs ?_
  refine zl7 0 a.l rfl rfl rfl (by rw [qy g];exact zka (qV _)) (by decide) (fun x m=>by obtain ⟨i,n,rfl⟩:=qL m;exact d.el n) h (wW _) (Mines.flat (fun _=>rfl) (fun _=>trivial)) fun s h' o p u q=>?_
  refine Wk ?_
  exact ⟨s,rfl,by rw [zkz,zkz,o],p,q⟩
theorem zyt (c:DPart) (h:Hp):Ct jV 265 [.agg #[.int .i64 c.amp,.int .i64 c.period,.int .i64 c.phase]] h fun v h'=>v=.agg #[.int .i64 c.amp,.int .i64 c.period,.int .i64 c.phase]∧h'=h:=by
 refine zdn (fun A W=>by simp) Tryz.func265 rfl rfl (by simp) fun W0=>?_
 exact Wk0
theorem zyu (c:DPoint) (h:Hp):Ct jV 218 [.agg #[.string c.name,.bool c.wait]] h fun v h'=>v=.agg #[.string c.name,.bool c.wait]∧h'=h:=by
 refine zdn (fun A W=>by simp) Tryz.func218 rfl rfl (by simp) fun W0=>?_
 exact Wk0
theorem zyv (c:DRegime) (h:Hp):Ct jV 70 [.agg #[.int .i64 c.gap,.bool c.noMeet]] h fun v h'=>v=.agg #[.int .i64 c.gap,.bool c.noMeet]∧h'=h:=by
 refine zdn (fun A W=>by simp) Tryz.func70 rfl rfl (by simp) fun W0=>?_
 exact Wk0
theorem zyw (c:DSegment) (h:Hp):Ct jV 219 [.agg #[.int .i64 c.a,.int .i64 c.b,.int .i64 c.depth,.int .i64 c.minutes,.bool c.meet]] h fun v h'=>v=.agg #[.int .i64 c.a,.int .i64 c.b,.int .i64 c.depth,.int .i64 c.minutes,.bool c.meet]∧h'=h:=by
 refine zdn (fun A W=>by simp) Tryz.func219 rfl rfl (by simp) fun W0=>?_
 exact Wk0
theorem zyx (c:DShip) (h:Hp):Ct jV 147 [.agg #[.string c.name,.int .i64 c.length,.int .i64 c.draught,.int .i64 c.line,.int .i64 c.tugs,.bool c.slow]] h fun v h'=>v=.agg #[.string c.name,.int .i64 c.length,.int .i64 c.draught,.int .i64 c.line,.int .i64 c.tugs,.bool c.slow]∧h'=h:=by
 refine zdn (fun A W=>by simp) Tryz.func147 rfl rfl (by simp) fun W0=>?_
 exact Wk0
theorem zyy (c:DSurge) (h:Hp):Ct jV 217 [.agg #[.int .i64 c.src,.int .i64 c.low,.int .i64 c.high]] h fun v h'=>v=.agg #[.int .i64 c.src,.int .i64 c.low,.int .i64 c.high]∧h'=h:=by
 refine zdn (fun A W=>by simp) Tryz.func217 rfl rfl (by simp) fun W0=>?_
 exact Wk0
theorem zyz (a:Sl DCall) (h:Hp) (d:a.Ok h) (j:yW a≤1048576):Ct jV 17 [a.val] h fun v h'=>∃ s:Sl DCall,v=s.val∧jK s=jK a∧s.Ok h'∧Mine h h' s:=by
 have r:a.l.length≤1048576:=wK (uK _ _) j
 refine zdn (fun A W=>by simp) Tryz.func17 rfl rfl (by simp) fun W0=>?_
 refine Wk ?_
 refine ⟨by simp only [maxLen];omega,by omega,?_⟩
 refine Wk ?_
 refine zde (ι:=Nat) (fun k=>⟨[(0,true,.c (.v a.val)),(3,true,.c (.s 0)),(4,true,.c (.v (.int .i64 k)))],[(0,.row 79 5 a.l.length (conv (a.l.take k) a.l.length [.int .i64 0,.int .i64 0,.int .i64 0,.int .i64 0,.int .i64 0]))],h,1⟩) (fun k=>k≤a.l.length) (fun k=>a.l.length - k) 0 (jC _) ?_ ?_
 ·refine Evs ?_
  exact ⟨rfl,zj8 (zkc (α:=DCall) (z:=#[.int .i64 0,.int .i64 0,.int .i64 0,.int .i64 0,.int .i64 0]) (by decide))⟩
 intro k t
 refine Wk ?_
 refine zc9 rfl (fun e=>?_) (fun e=>?_)
 ·have b:=zjH e
  have f:(a.l.take k).length=k:=by rw [ww];omega
  repeat' first|refine Wa ?_|refine zhF (fun _=>zyr _ _) ?_|(simp only [go_sem,jq,jj,jy,jv,jk,jx,zkT d b,d.some b,b,jW];try rfl)|refine Wb ?_|fail
  refine ⟨?_,?_⟩
  ·rw [zj9 (by omega) rfl];exact wK (Nat.le_of_eq (by simp only [yP])) (wP 5 (show k+1≤a.l.length from b))
  refine Wk ?_
  exact ⟨k+1,b,by omega,zjB (zjA b (by omega)),zj8 (by rw [qw b];exact zkb f b rfl)⟩
 ·have g:=zjI e
  refine zc6 ?_
  refine Evs ?_
  refine zl7 0 a.l rfl rfl rfl (by rw [qy g];exact zka (qV _)) (by decide) (fun x m=>by obtain ⟨i,n,rfl⟩:=qL m;exact d.el n) h (wW _) (Mines.flat (fun _=>rfl) (fun _=>trivial)) fun s h' o p u q=>?_
  refine Wk ?_
  exact ⟨s,rfl,by rw [zkz,zkz,o],p,q⟩
theorem zyA (c:DCrew) (h:Hp) (l:jD h c) (m:yW c≤1048576):Ct jV 71 [.agg #[.int .i64 c.tugs,.int .i64 c.pilots,.int .i64 c.rest,c.moves.val]] h fun v h'=>∃ d:DCrew,v=.agg #[.int .i64 d.tugs,.int .i64 d.pilots,.int .i64 d.rest,d.moves.val]∧jK d=jK c∧jD h' d∧Mine h h' d:=by
 rw [zk2] at m
 obtain ⟨e,a,f,b⟩:=l
 refine zdn (fun A W=>by simp) Tryz.func71 rfl rfl (by simp) fun W0=>?_
 refine Wk ?_
 refine zkr (zys _ _ b (by omega)) rfl ?_
 rintro v o n ⟨j,rfl,k,i,g⟩
 refine Wk ?_
 exact ⟨⟨c.tugs,c.pilots,c.rest,j⟩,rfl,by rw [zk1,zk1];simp only [k],⟨e,a,f,i⟩,News.mine (g.1) g.news⟩
theorem zyB (a:Sl DPart) (h:Hp) (d:a.Ok h) (j:yW a≤1048576):Ct jV 216 [a.val] h fun v h'=>∃ s:Sl DPart,v=s.val∧jK s=jK a∧s.Ok h'∧Mine h h' s:=by
 have r:a.l.length≤1048576:=wK (uK _ _) j
 refine zdn (fun A W=>by simp) Tryz.func216 rfl rfl (by simp) fun W0=>?_
 refine Wk ?_
 refine ⟨by simp only [maxLen];omega,by omega,?_⟩
 refine Wk ?_
 refine zde (ι:=Nat) (fun k=>⟨[(0,true,.c (.v a.val)),(3,true,.c (.s 0)),(4,true,.c (.v (.int .i64 k)))],[(0,.row 297 3 a.l.length (conv (a.l.take k) a.l.length [.int .i64 0,.int .i64 0,.int .i64 0]))],h,1⟩) (fun k=>k≤a.l.length) (fun k=>a.l.length - k) 0 (jC _) ?_ ?_
 ·refine Evs ?_
  exact ⟨rfl,zj8 (zkc (α:=DPart) (z:=#[.int .i64 0,.int .i64 0,.int .i64 0]) (by decide))⟩
 intro k t
 refine Wk ?_
 refine zc9 rfl (fun e=>?_) (fun e=>?_)
 ·have b:=zjH e
  have f:(a.l.take k).length=k:=by rw [ww];omega
  repeat' first|refine Wa ?_|refine zhF (fun _=>zyt _ _) ?_|(simp only [go_sem,jq,jj,jy,jv,jk,jx,zk4 d b,d.some b,b,jW];try rfl)|refine Wb ?_|fail
  refine ⟨?_,?_⟩
  ·rw [zj9 (by omega) rfl];exact wK (Nat.le_of_eq (by simp only [yP])) (wP 3 (show k+1≤a.l.length from b))
  refine Wk ?_
  exact ⟨k+1,b,by omega,zjB (zjA b (by omega)),zj8 (by rw [qw b];exact zkb f b rfl)⟩
 ·have g:=zjI e
  refine zc6 ?_
  refine Evs ?_
  refine zl7 0 a.l rfl rfl rfl (by rw [qy g];exact zka (qV _)) (by decide) (fun x m=>by obtain ⟨i,n,rfl⟩:=qL m;exact d.el n) h (wW _) (Mines.flat (fun _=>rfl) (fun _=>trivial)) fun s h' o p u q=>?_
  refine Wk ?_
  exact ⟨s,rfl,by rw [zkz,zkz,o],p,q⟩
theorem zyC (a:Sl DPoint) (h:Hp) (d:a.Ok h) (j:yW a≤1048576):Ct jV 145 [a.val] h fun v h'=>∃ s:Sl DPoint,v=s.val∧jK s=jK a∧s.Ok h'∧Mine h h' s:=by
 have r:a.l.length≤1048576:=wK (uK _ _) j
 refine zdn (fun A W=>by simp) Tryz.func145 rfl rfl (by simp) fun W0=>?_
 refine Wk ?_
 refine ⟨by simp only [maxLen];omega,by omega,?_⟩
 refine Wk ?_
 refine zde (ι:=Nat) (fun k=>⟨[(0,true,.c (.v a.val)),(3,true,.c (.s 0)),(4,true,.c (.v (.int .i64 k)))],[(0,.row 244 2 a.l.length (conv (a.l.take k) a.l.length [.string ByteArray.empty,.bool false]))],h,1⟩) (fun k=>k≤a.l.length) (fun k=>a.l.length - k) 0 (jC _) ?_ ?_
 ·refine Evs ?_
  exact ⟨rfl,zj8 (zkc (α:=DPoint) (z:=#[.string ByteArray.empty,.bool false]) (by decide))⟩
 intro k t
 refine Wk ?_
 refine zc9 rfl (fun e=>?_) (fun e=>?_)
 ·have b:=zjH e
  have f:(a.l.take k).length=k:=by rw [ww];omega
  repeat' first|refine Wa ?_|refine zhF (fun _=>zyu _ _) ?_|(simp only [go_sem,jq,jj,jy,jv,jk,jx,zlf d b,d.some b,b,jW];try rfl)|refine Wb ?_|fail
  refine ⟨?_,?_⟩
  ·rw [zj9 (by omega) rfl];exact wK (Nat.le_of_eq (by simp only [yP])) (wP 2 (show k+1≤a.l.length from b))
  refine Wk ?_
  exact ⟨k+1,b,by omega,zjB (zjA b (by omega)),zj8 (by rw [qw b];exact zkb f b rfl)⟩
 ·have g:=zjI e
  refine zc6 ?_
  refine Evs ?_
  refine zl7 0 a.l rfl rfl rfl (by rw [qy g];exact zka (qV _)) (by decide) (fun x m=>by obtain ⟨i,n,rfl⟩:=qL m;exact d.el n) h (wW _) (Mines.flat (fun _=>rfl) (fun _=>trivial)) fun s h' o p u q=>?_
  refine Wk ?_
  exact ⟨s,rfl,by rw [zkz,zkz,o],p,q⟩
theorem zyD (a:Sl DSegment) (h:Hp) (d:a.Ok h) (j:yW a≤1048576):Ct jV 146 [a.val] h fun v h'=>∃ s:Sl DSegment,v=s.val∧jK s=jK a∧s.Ok h'∧Mine h h' s:=by
 have r:a.l.length≤1048576:=wK (uK _ _) j
 refine zdn (fun A W=>by simp) Tryz.func146 rfl rfl (by simp) fun W0=>?_
 refine Wk ?_
 refine ⟨by simp only [maxLen];omega,by omega,?_⟩
 refine Wk ?_
 refine zde (ι:=Nat) (fun k=>⟨[(0,true,.c (.v a.val)),(3,true,.c (.s 0)),(4,true,.c (.v (.int .i64 k)))],[(0,.row 230 5 a.l.length (conv (a.l.take k) a.l.length [.int .i64 0,.int .i64 0,.int .i64 0,.int .i64 0,.bool false]))],h,1⟩) (fun k=>k≤a.l.length) (fun k=>a.l.length - k) 0 (jC _) ?_ ?_
 ·refine Evs ?_
  exact ⟨rfl,zj8 (zkc (α:=DSegment) (z:=#[.int .i64 0,.int .i64 0,.int .i64 0,.int .i64 0,.bool false]) (by decide))⟩
 intro k t
 refine Wk ?_
 refine zc9 rfl (fun e=>?_) (fun e=>?_)
 ·have b:=zjH e
  have f:(a.l.take k).length=k:=by rw [ww];omega
  repeat' first|refine Wa ?_|refine zhF (fun _=>zyw _ _) ?_|(simp only [go_sem,jq,jj,jy,jv,jk,jx,zlh d b,d.some b,b,jW];try rfl)|refine Wb ?_|fail
  refine ⟨?_,?_⟩
  ·rw [zj9 (by omega) rfl];exact wK (Nat.le_of_eq (by simp only [yP])) (wP 5 (show k+1≤a.l.length from b))
  refine Wk ?_
  exact ⟨k+1,b,by omega,zjB (zjA b (by omega)),zj8 (by rw [qw b];exact zkb f b rfl)⟩
 ·have g:=zjI e
  refine zc6 ?_
  refine Evs ?_
  refine zl7 0 a.l rfl rfl rfl (by rw [qy g];exact zka (qV _)) (by decide) (fun x m=>by obtain ⟨i,n,rfl⟩:=qL m;exact d.el n) h (wW _) (Mines.flat (fun _=>rfl) (fun _=>trivial)) fun s h' o p u q=>?_
  refine Wk ?_
  exact ⟨s,rfl,by rw [zkz,zkz,o],p,q⟩
theorem zyE (a:Sl DShip) (h:Hp) (d:a.Ok h) (j:yW a≤1048576):Ct jV 69 [a.val] h fun v h'=>∃ s:Sl DShip,v=s.val∧jK s=jK a∧s.Ok h'∧Mine h h' s:=by
 have r:a.l.length≤1048576:=wK (uK _ _) j
 refine zdn (fun A W=>by simp) Tryz.func69 rfl rfl (by simp) fun W0=>?_
 refine Wk ?_
 refine ⟨by simp only [maxLen];omega,by omega,?_⟩
 refine Wk ?_
 refine zde (ι:=Nat) (fun k=>⟨[(0,true,.c (.v a.val)),(3,true,.c (.s 0)),(4,true,.c (.v (.int .i64 k)))],[(0,.row 157 6 a.l.length (conv (a.l.take k) a.l.length [.string ByteArray.empty,.int .i64 0,.int .i64 0,.int .i64 0,.int .i64 0,.bool false]))],h,1⟩) (fun k=>k≤a.l.length) (fun k=>a.l.length - k) 0 (jC _) ?_ ?_
 ·refine Evs ?_
  exact ⟨rfl,zj8 (zkc (α:=DShip) (z:=#[.string ByteArray.empty,.int .i64 0,.int .i64 0,.int .i64 0,.int .i64 0,.bool false]) (by decide))⟩
 intro k t
 refine Wk ?_
 refine zc9 rfl (fun e=>?_) (fun e=>?_)
 ·have b:=zjH e
  have f:(a.l.take k).length=k:=by rw [ww];omega
  repeat' first|refine Wa ?_|refine zhF (fun _=>zyx _ _) ?_|(simp only [go_sem,jq,jj,jy,jv,jk,jx,zln d b,d.some b,b,jW];try rfl)|refine Wb ?_|fail
  refine ⟨?_,?_⟩
  ·rw [zj9 (by omega) rfl];exact wK (Nat.le_of_eq (by simp only [yP])) (wP 6 (show k+1≤a.l.length from b))
  refine Wk ?_
  exact ⟨k+1,b,by omega,zjB (zjA b (by omega)),zj8 (by rw [qw b];exact zkb f b rfl)⟩
 ·have g:=zjI e
  refine zc6 ?_
  refine Evs ?_
  refine zl7 0 a.l rfl rfl rfl (by rw [qy g];exact zka (qV _)) (by decide) (fun x m=>by obtain ⟨i,n,rfl⟩:=qL m;exact d.el n) h (wW _) (Mines.flat (fun _=>rfl) (fun _=>trivial)) fun s h' o p u q=>?_
  refine Wk ?_
  exact ⟨s,rfl,by rw [zkz,zkz,o],p,q⟩
theorem zyF (a:Sl DSurge) (h:Hp) (d:a.Ok h) (j:yW a≤1048576):Ct jV 144 [a.val] h fun v h'=>∃ s:Sl DSurge,v=s.val∧jK s=jK a∧s.Ok h'∧Mine h h' s:=by
 have r:a.l.length≤1048576:=wK (uK _ _) j
 refine zdn (fun A W=>by simp) Tryz.func144 rfl rfl (by simp) fun W0=>?_
 refine Wk ?_
 refine ⟨by simp only [maxLen];omega,by omega,?_⟩
 refine Wk ?_
 refine zde (ι:=Nat) (fun k=>⟨[(0,true,.c (.v a.val)),(3,true,.c (.s 0)),(4,true,.c (.v (.int .i64 k)))],[(0,.row 125 3 a.l.length (conv (a.l.take k) a.l.length [.int .i64 0,.int .i64 0,.int .i64 0]))],h,1⟩) (fun k=>k≤a.l.length) (fun k=>a.l.length - k) 0 (jC _) ?_ ?_
 ·refine Evs ?_
  exact ⟨rfl,zj8 (zkc (α:=DSurge) (z:=#[.int .i64 0,.int .i64 0,.int .i64 0]) (by decide))⟩
 intro k t
 refine Wk ?_
 refine zc9 rfl (fun e=>?_) (fun e=>?_)
 ·have b:=zjH e
  have f:(a.l.take k).length=k:=by rw [ww];omega
  repeat' first|refine Wa ?_|refine zhF (fun _=>zyy _ _) ?_|(simp only [go_sem,jq,jj,jy,jv,jk,jx,zk9 d b,d.some b,b,jW];try rfl)|refine Wb ?_|fail
  refine ⟨?_,?_⟩
  ·rw [zj9 (by omega) rfl];exact wK (Nat.le_of_eq (by simp only [yP])) (wP 3 (show k+1≤a.l.length from b))
  refine Wk ?_
  exact ⟨k+1,b,by omega,zjB (zjA b (by omega)),zj8 (by rw [qw b];exact zkb f b rfl)⟩
 ·have g:=zjI e
  refine zc6 ?_
  refine Evs ?_
  refine zl7 0 a.l rfl rfl rfl (by rw [qy g];exact zka (qV _)) (by decide) (fun x m=>by obtain ⟨i,n,rfl⟩:=qL m;exact d.el n) h (wW _) (Mines.flat (fun _=>rfl) (fun _=>trivial)) fun s h' o p u q=>?_
  refine Wk ?_
  exact ⟨s,rfl,by rw [zkz,zkz,o],p,q⟩
theorem zyG (c:DChart) (h:Hp) (p:jD h c) (q:yW c≤1048576):Ct jV 68 [.agg #[c.points.val,c.segments.val]] h fun v h'=>∃ d:DChart,v=.agg #[d.points.val,d.segments.val]∧jK d=jK c∧jD h' d∧Mine h h' d:=by
 rw [zlk] at q
 obtain ⟨b,a⟩:=p
 refine zdn (fun A W=>by simp) Tryz.func68 rfl rfl (by simp) fun W0=>?_
 refine Wk ?_
 refine zkr (zyC _ _ b (by omega)) rfl ?_
 rintro v r f ⟨l,rfl,m,g,i⟩
 refine Wk ?_
 refine zkr (zyD _ _ (a.mono f) (by omega)) rfl ?_
 rintro v s e ⟨n,rfl,o,k,j⟩
 refine Wk ?_
 exact ⟨⟨l,n⟩,rfl,by rw [zlj,zlj];simp only [m,o],⟨g.mono e,k⟩,News.mine ⟨(Mine.on e g i).1,j.1⟩ (i.news.append f e j.news)⟩
theorem zyH (c:DTide) (h:Hp) (j:jD h c) (k:yW c≤1048576):Ct jV 143 [.agg #[.int .i64 c.mean,c.parts.val]] h fun v h'=>∃ d:DTide,v=.agg #[.int .i64 d.mean,d.parts.val]∧jK d=jK c∧jD h' d∧Mine h h' d:=by
 rw [zk7] at k
 obtain ⟨b,a⟩:=j
 refine zdn (fun A W=>by simp) Tryz.func143 rfl rfl (by simp) fun W0=>?_
 refine Wk ?_
 refine zkr (zyB _ _ a (by omega)) rfl ?_
 rintro v m l ⟨g,rfl,i,f,e⟩
 refine Wk ?_
 exact ⟨⟨c.mean,g⟩,rfl,by rw [zk6,zk6];simp only [i],⟨b,f⟩,News.mine (e.1) e.news⟩
theorem zyI (c:DForecast) (h:Hp) (p:jD h c) (q:yW c≤1048576):Ct jV 67 [.agg #[.int .i64 c.tide.mean,c.tide.parts.val,c.surges.val]] h fun v h'=>∃ d:DForecast,v=.agg #[.int .i64 d.tide.mean,d.tide.parts.val,d.surges.val]∧jK d=jK c∧jD h' d∧Mine h h' d:=by
 rw [zlc] at q
 obtain ⟨e,a⟩:=p
 refine zdn (fun A W=>by simp) Tryz.func67 rfl rfl (by simp) fun W0=>?_
 refine Wk ?_
 refine zkr (zyH _ _ e (by omega)) rfl ?_
 rintro v r f ⟨l,rfl,m,g,i⟩
 refine Wk ?_
 refine zkr (zyF _ _ (a.mono f) (by omega)) rfl ?_
 rintro v s b ⟨n,rfl,o,k,j⟩
 refine Wk ?_
 exact ⟨⟨l,n⟩,rfl,by rw [zlb,zlb];simp only [m,o],⟨jL b g,k⟩,News.mine ⟨(Mine.on b g i).1,j.1⟩ (i.news.append f b j.news)⟩
theorem zyJ (c:DHarbour) (h:Hp) (H:jD h c) (J:yW c≤1048576):Ct jV 16 [.agg #[.int .i64 c.forecast.tide.mean,c.forecast.tide.parts.val,c.forecast.surges.val,c.chart.points.val,c.chart.segments.val,c.fleet.val,.int .i64 c.regime.gap,.bool c.regime.noMeet,.int .i64 c.crew.tugs,.int .i64 c.crew.pilots,.int .i64 c.crew.rest,c.crew.moves.val]] h fun v h'=>∃ d:DHarbour,v=.agg #[.int .i64 d.forecast.tide.mean,d.forecast.tide.parts.val,d.forecast.surges.val,d.chart.points.val,d.chart.segments.val,d.fleet.val,.int .i64 d.regime.gap,.bool d.regime.noMeet,.int .i64 d.crew.tugs,.int .i64 d.crew.pilots,.int .i64 d.crew.rest,d.crew.moves.val]∧jK d=jK c∧jD h' d∧Mine h h' d:=by
 rw [zlr] at J
 obtain ⟨g,j,k,i,l⟩:=H
 refine zdn (fun A W=>by simp) Tryz.func16 rfl rfl (by simp) fun W0=>?_
 refine Wk ?_
 refine zkr (zyI _ _ g (by omega)) rfl ?_
 rintro v K f ⟨u,rfl,w,m,p⟩
 refine Wk ?_
 refine zkr (zyG _ _ (jL f j) (by omega)) rfl ?_
 rintro v M a ⟨x,rfl,y,n,q⟩
 refine Wk ?_
 refine zkr (zyE _ _ (k.mono (jB f a)) (by omega)) rfl ?_
 rintro v N b ⟨z,rfl,D,o,r⟩
 refine Wk ?_
 refine zhF (fun _=>zyv _ _) ?_
 refine Wk ?_
 refine zkr (zyA _ _ (jL (jB (jB f a) b) l) (by omega)) rfl ?_
 rintro v O e ⟨F,rfl,G,t,s⟩
 refine Wk ?_
 exact ⟨⟨u,x,z,c.regime,F⟩,rfl,by rw [zlq,zlq];simp only [w,y,D,G],⟨jL (jB (jB a b) e) m,jL (jB b e) n,o.mono e,i,t⟩,News.mine ⟨(Mine.on (jB (jB a b) e) m p).1,(Mine.on (jB b e) n q).1,(Mine.on e o r).1,s.1⟩ (((p.news.append f a q.news).append (jB f a) b r.news).append (jB (jB f a) b) e s.news)⟩
end Go.Proofs.YtbkaaakphpbmiaaGreat
