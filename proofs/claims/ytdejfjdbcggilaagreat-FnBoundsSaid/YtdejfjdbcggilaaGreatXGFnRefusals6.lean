/- What functions of the given program compute, as contracts. -/
import Derived.Test.YtdejfjdbcggilaaGreatProg
import Derived.Test.YtdejfjdbcggilaaGreatSGFnRefusalsx4
import Derived.Test.YtdejfjdbcggilaaGreatSGFnRefusalsx5
set_option linter.unusedVariables false
set_option linter.unusedSimpArgs false
set_option maxRecDepth 4000
open Nat renaming reduceAdd → jq, reduceMul → jj, reduceBEq → jy, reduceLeDiff → jv, reduceLT → jk, reduceEqDiff → jx
open Bool renaming or_eq_false_iff → jp, or_eq_true → jQ, and_eq_true → jJ
open Int renaming toNat_natCast → jW, natCast_nonneg → jY
open Go.Proofs.Tryz renaming prog → jV
namespace Go.Proofs.YtdejfjdbcggilaaGreat
open Go Go.SL
@[go_sem] theorem ty_1:hasT jV 1=true∧szT jV 1=1∧Tryz.prog.bytesOf 1=8∧aggT jV 1=false∧zaX jV 1=none∧arrT jV 1=none∧zbF jV 1=some [.nilFunc]:=by and_intros <;> kernel_rfl
@[go_sem] theorem ty_2:hasT jV 2=true∧szT jV 2=1∧Tryz.prog.bytesOf 2=8∧aggT jV 2=false∧zaX jV 2=none∧arrT jV 2=none∧zbF jV 2=some [.int .i64 0]∧intT jV 2=some .i64:=by and_intros <;> kernel_rfl
attribute [go_sem] Tryz.underlying2
@[go_sem] theorem ty_3:hasT jV 3=true∧szT jV 3=1∧Tryz.prog.bytesOf 3=8∧aggT jV 3=false∧zaX jV 3=none∧arrT jV 3=none∧zbF jV 3=some [.int .i64 0]∧intT jV 3=some .i64:=by and_intros <;> kernel_rfl
attribute [go_sem] Tryz.underlying3
@[go_sem] theorem ty_4:hasT jV 4=true∧szT jV 4=1∧Tryz.prog.bytesOf 4=1∧aggT jV 4=false∧zaX jV 4=none∧arrT jV 4=none∧zbF jV 4=some [.bool false]:=by and_intros <;> kernel_rfl
attribute [go_sem] Tryz.underlying4
@[go_sem] theorem ty_5:hasT jV 5=true∧szT jV 5=1∧Tryz.prog.bytesOf 5=1∧aggT jV 5=false∧zaX jV 5=none∧arrT jV 5=none∧zbF jV 5=some [.int .u8 0]∧intT jV 5=some .u8:=by and_intros <;> kernel_rfl
attribute [go_sem] Tryz.underlying5
@[go_sem] theorem ty_9:hasT jV 9=true∧szT jV 9=1∧Tryz.prog.bytesOf 9=16∧aggT jV 9=false∧zaX jV 9=none∧arrT jV 9=none∧zbF jV 9=some [.string ByteArray.empty]∧strT jV 9=true:=by and_intros <;> kernel_rfl
attribute [go_sem] Tryz.underlying9
@[go_sem] theorem znV:hasT jV 12=true∧szT jV 12=1∧Tryz.prog.bytesOf 12=8∧aggT jV 12=false∧zaX jV 12=none∧arrT jV 12=none∧zbF jV 12=some [.int .u64 0]∧intT jV 12=some .u64:=by and_intros <;> kernel_rfl
attribute [go_sem] Tryz.underlying12
@[go_sem] theorem znW:hasT jV 13=true∧szT jV 13=2∧Tryz.prog.bytesOf 13=24∧aggT jV 13=true∧zaX jV 13=none∧arrT jV 13=none∧zbF jV 13=some [.string ByteArray.empty,.int .u64 0]∧zbE jV 13=true:=by and_intros <;> kernel_rfl
@[go_sem] theorem znX:hasT jV 22=true∧szT jV 22=1∧Tryz.prog.bytesOf 22=24∧aggT jV 22=false∧zaX jV 22=some 277∧arrT jV 22=none∧zbF jV 22=some [.slice none 0 0]:=by and_intros <;> kernel_rfl
@[go_sem] theorem znY:hasT jV 23=true∧szT jV 23=2∧Tryz.prog.bytesOf 23=32∧aggT jV 23=true∧zaX jV 23=none∧arrT jV 23=none∧zbF jV 23=some [.int .i64 0,.slice none 0 0]∧zbE jV 23=true:=by and_intros <;> kernel_rfl
@[go_sem] theorem znZ:hasT jV 24=true∧szT jV 24=2∧Tryz.prog.bytesOf 24=32∧aggT jV 24=true∧zaX jV 24=none∧arrT jV 24=none∧zbF jV 24=some [.int .i64 0,.slice none 0 0]∧zbE jV 24=true:=by and_intros <;> kernel_rfl
@[go_sem] theorem zn7:hasT jV 32=true∧szT jV 32=1∧Tryz.prog.bytesOf 32=24∧aggT jV 32=false∧zaX jV 32=some 162∧arrT jV 32=none∧zbF jV 32=some [.slice none 0 0]:=by and_intros <;> kernel_rfl
@[go_sem] theorem zn8:hasT jV 33=true∧szT jV 33=2∧Tryz.prog.bytesOf 33=16∧aggT jV 33=true∧zaX jV 33=none∧arrT jV 33=none∧zbF jV 33=some [.int .i64 0,.bool false]∧zbE jV 33=true:=by and_intros <;> kernel_rfl
@[go_sem] theorem zoa:hasT jV 35=true∧szT jV 35=1∧Tryz.prog.bytesOf 35=24∧aggT jV 35=false∧zaX jV 35=some 3∧arrT jV 35=none∧zbF jV 35=some [.slice none 0 0]:=by and_intros <;> kernel_rfl
@[go_sem] theorem zob:hasT jV 36=true∧szT jV 36=4∧Tryz.prog.bytesOf 36=48∧aggT jV 36=true∧zaX jV 36=none∧arrT jV 36=none∧zbF jV 36=some [.int .i64 0,.int .i64 0,.int .i64 0,.slice none 0 0]∧zbE jV 36=true:=by and_intros <;> kernel_rfl
@[go_sem] theorem zof:hasT jV 40=true∧szT jV 40=1∧Tryz.prog.bytesOf 40=24∧aggT jV 40=false∧zaX jV 40=some 107∧arrT jV 40=none∧zbF jV 40=some [.slice none 0 0]:=by and_intros <;> kernel_rfl
@[go_sem] theorem zog:hasT jV 44=true∧szT jV 44=1∧Tryz.prog.bytesOf 44=24∧aggT jV 44=false∧zaX jV 44=some 275∧arrT jV 44=none∧zbF jV 44=some [.slice none 0 0]:=by and_intros <;> kernel_rfl
@[go_sem] theorem zoh:hasT jV 45=true∧szT jV 45=2∧Tryz.prog.bytesOf 45=32∧aggT jV 45=true∧zaX jV 45=none∧arrT jV 45=none∧zbF jV 45=some [.int .i64 0,.slice none 0 0]∧zbE jV 45=true:=by and_intros <;> kernel_rfl
@[go_sem] theorem zoi:hasT jV 46=true∧szT jV 46=2∧Tryz.prog.bytesOf 46=32∧aggT jV 46=true∧zaX jV 46=none∧arrT jV 46=none∧zbF jV 46=some [.int .i64 0,.slice none 0 0]∧zbE jV 46=true:=by and_intros <;> kernel_rfl
@[go_sem] theorem zoj:hasT jV 47=true∧szT jV 47=1∧Tryz.prog.bytesOf 47=24∧aggT jV 47=false∧zaX jV 47=some 225∧arrT jV 47=none∧zbF jV 47=some [.slice none 0 0]:=by and_intros <;> kernel_rfl
@[go_sem] theorem zok:hasT jV 48=true∧szT jV 48=3∧Tryz.prog.bytesOf 48=56∧aggT jV 48=true∧zaX jV 48=none∧arrT jV 48=none∧zbF jV 48=some [.int .i64 0,.slice none 0 0,.slice none 0 0]∧zbE jV 48=true:=by and_intros <;> kernel_rfl
@[go_sem] theorem zol:hasT jV 49=true∧szT jV 49=3∧Tryz.prog.bytesOf 49=56∧aggT jV 49=true∧zaX jV 49=none∧arrT jV 49=none∧zbF jV 49=some [.int .i64 0,.slice none 0 0,.slice none 0 0]∧zbE jV 49=true:=by and_intros <;> kernel_rfl
@[go_sem] theorem zom:hasT jV 50=true∧szT jV 50=1∧Tryz.prog.bytesOf 50=24∧aggT jV 50=false∧zaX jV 50=some 228∧arrT jV 50=none∧zbF jV 50=some [.slice none 0 0]:=by and_intros <;> kernel_rfl
@[go_sem] theorem zon:hasT jV 51=true∧szT jV 51=1∧Tryz.prog.bytesOf 51=24∧aggT jV 51=false∧zaX jV 51=some 231∧arrT jV 51=none∧zbF jV 51=some [.slice none 0 0]:=by and_intros <;> kernel_rfl
@[go_sem] theorem zoo:hasT jV 52=true∧szT jV 52=2∧Tryz.prog.bytesOf 52=48∧aggT jV 52=true∧zaX jV 52=none∧arrT jV 52=none∧zbF jV 52=some [.slice none 0 0,.slice none 0 0]∧zbE jV 52=true:=by and_intros <;> kernel_rfl
@[go_sem] theorem zop:hasT jV 53=true∧szT jV 53=2∧Tryz.prog.bytesOf 53=48∧aggT jV 53=true∧zaX jV 53=none∧arrT jV 53=none∧zbF jV 53=some [.slice none 0 0,.slice none 0 0]∧zbE jV 53=true:=by and_intros <;> kernel_rfl
@[go_sem] theorem zoq:hasT jV 54=true∧szT jV 54=1∧Tryz.prog.bytesOf 54=24∧aggT jV 54=false∧zaX jV 54=some 168∧arrT jV 54=none∧zbF jV 54=some [.slice none 0 0]:=by and_intros <;> kernel_rfl
@[go_sem] theorem zor:hasT jV 55=true∧szT jV 55=2∧Tryz.prog.bytesOf 55=16∧aggT jV 55=true∧zaX jV 55=none∧arrT jV 55=none∧zbF jV 55=some [.int .i64 0,.bool false]∧zbE jV 55=true:=by and_intros <;> kernel_rfl
@[go_sem] theorem zos:hasT jV 56=true∧szT jV 56=4∧Tryz.prog.bytesOf 56=48∧aggT jV 56=true∧zaX jV 56=none∧arrT jV 56=none∧zbF jV 56=some [.int .i64 0,.int .i64 0,.int .i64 0,.slice none 0 0]∧zbE jV 56=true:=by and_intros <;> kernel_rfl
@[go_sem] theorem zot:hasT jV 57=true∧szT jV 57=12∧Tryz.prog.bytesOf 57=192∧aggT jV 57=true∧zaX jV 57=none∧arrT jV 57=none∧zbF jV 57=some [.int .i64 0,.slice none 0 0,.slice none 0 0,.slice none 0 0,.slice none 0 0,.slice none 0 0,.int .i64 0,.bool false,.int .i64 0,.int .i64 0,.int .i64 0,.slice none 0 0]∧zbE jV 57=true:=by and_intros <;> kernel_rfl
@[go_sem] theorem zou:hasT jV 58=true∧szT jV 58=12∧Tryz.prog.bytesOf 58=192∧aggT jV 58=true∧zaX jV 58=none∧arrT jV 58=none∧zbF jV 58=some [.int .i64 0,.slice none 0 0,.slice none 0 0,.slice none 0 0,.slice none 0 0,.slice none 0 0,.int .i64 0,.bool false,.int .i64 0,.int .i64 0,.int .i64 0,.slice none 0 0]∧zbE jV 58=true:=by and_intros <;> kernel_rfl
@[go_sem] theorem zov:hasT jV 60=true∧szT jV 60=1∧Tryz.prog.bytesOf 60=24∧aggT jV 60=false∧zaX jV 60=some 90∧arrT jV 60=none∧zbF jV 60=some [.slice none 0 0]:=by and_intros <;> kernel_rfl
@[go_sem] theorem zow:hasT jV 72=true∧szT jV 72=1∧Tryz.prog.bytesOf 72=8∧aggT jV 72=false∧zaX jV 72=none∧arrT jV 72=none∧zbF jV 72=some [.nilFunc]:=by and_intros <;> kernel_rfl
@[go_sem] theorem zox:hasT jV 76=true∧szT jV 76=1∧Tryz.prog.bytesOf 76=24∧aggT jV 76=false∧zaX jV 76=some 5∧arrT jV 76=none∧zbF jV 76=some [.slice none 0 0]:=by and_intros <;> kernel_rfl
@[go_sem] theorem zoy:hasT jV 80=true∧szT jV 80=1∧Tryz.prog.bytesOf 80=24∧aggT jV 80=false∧zaX jV 80=some 149∧arrT jV 80=none∧zbF jV 80=some [.slice none 0 0]:=by and_intros <;> kernel_rfl
@[go_sem] theorem zoz:hasT jV 85=true∧szT jV 85=1∧Tryz.prog.bytesOf 85=24∧aggT jV 85=false∧zaX jV 85=some 147∧arrT jV 85=none∧zbF jV 85=some [.slice none 0 0]:=by and_intros <;> kernel_rfl
@[go_sem] theorem zoA:hasT jV 89=true∧szT jV 89=5∧Tryz.prog.bytesOf 89=40∧aggT jV 89=true∧zaX jV 89=none∧arrT jV 89=none∧zbF jV 89=some [.int .i64 0,.int .i64 0,.int .i64 0,.int .i64 0,.int .i64 0]∧zbE jV 89=true:=by and_intros <;> kernel_rfl
@[go_sem] theorem zoB:hasT jV 90=true∧szT jV 90=5∧Tryz.prog.bytesOf 90=40∧aggT jV 90=true∧zaX jV 90=none∧arrT jV 90=none∧zbF jV 90=some [.int .i64 0,.int .i64 0,.int .i64 0,.int .i64 0,.int .i64 0]∧zbE jV 90=true:=by and_intros <;> kernel_rfl
@[go_sem] theorem zoC:hasT jV 104=true∧szT jV 104=1∧Tryz.prog.bytesOf 104=8∧aggT jV 104=false∧zaX jV 104=none∧arrT jV 104=none∧zbF jV 104=some [.nilFunc]:=by and_intros <;> kernel_rfl
@[go_sem] theorem zoD:hasT jV 107=true∧szT jV 107=5∧Tryz.prog.bytesOf 107=40∧aggT jV 107=true∧zaX jV 107=none∧arrT jV 107=none∧zbF jV 107=some [.int .i64 0,.int .i64 0,.int .i64 0,.int .i64 0,.int .i64 0]∧zbE jV 107=true:=by and_intros <;> kernel_rfl
@[go_sem] theorem zoE:hasT jV 117=true∧szT jV 117=1∧Tryz.prog.bytesOf 117=24∧aggT jV 117=false∧zaX jV 117=some 4∧arrT jV 117=none∧zbF jV 117=some [.slice none 0 0]:=by and_intros <;> kernel_rfl
@[go_sem] theorem zoF:hasT jV 119=true∧szT jV 119=1∧Tryz.prog.bytesOf 119=24∧aggT jV 119=false∧zaX jV 119=some 35∧arrT jV 119=none∧zbF jV 119=some [.slice none 0 0]:=by and_intros <;> kernel_rfl
@[go_sem] theorem zoG:hasT jV 126=true∧szT jV 126=1∧Tryz.prog.bytesOf 126=8∧aggT jV 126=false∧zaX jV 126=none∧arrT jV 126=none∧zbF jV 126=some [.nilFunc]:=by and_intros <;> kernel_rfl
@[go_sem] theorem zoH:hasT jV 127=true∧szT jV 127=1∧Tryz.prog.bytesOf 127=24∧aggT jV 127=false∧zaX jV 127=some 80∧arrT jV 127=none∧zbF jV 127=some [.slice none 0 0]:=by and_intros <;> kernel_rfl
@[go_sem] theorem zoI:hasT jV 128=true∧szT jV 128=1∧Tryz.prog.bytesOf 128=8∧aggT jV 128=false∧zaX jV 128=none∧arrT jV 128=none∧zbF jV 128=some [.nilFunc]:=by and_intros <;> kernel_rfl
@[go_sem] theorem zM1:hasT jV 132=true∧szT jV 132=1∧Tryz.prog.bytesOf 132=8∧aggT jV 132=false∧zaX jV 132=none∧arrT jV 132=none∧zbF jV 132=some [.nilFunc]:=by and_intros <;> kernel_rfl
@[go_sem] theorem zOK:hasT jV 134=true∧szT jV 134=1∧Tryz.prog.bytesOf 134=8∧aggT jV 134=false∧zaX jV 134=none∧arrT jV 134=none∧zbF jV 134=some [.pointer none]:=by and_intros <;> kernel_rfl
@[go_sem] theorem zoJ:hasT jV 136=true∧szT jV 136=2∧Tryz.prog.bytesOf 136=16∧aggT jV 136=true∧zaX jV 136=none∧arrT jV 136=some (2,3)∧zbF jV 136=some [.int .i64 0,.int .i64 0]∧zbE jV 136=true:=by and_intros <;> kernel_rfl
@[go_sem] theorem zoK:hasT jV 137=true∧szT jV 137=2∧Tryz.prog.bytesOf 137=16∧aggT jV 137=true∧zaX jV 137=none∧arrT jV 137=some (2,3)∧zbF jV 137=some [.int .i64 0,.int .i64 0]∧zbE jV 137=true:=by and_intros <;> kernel_rfl
@[go_sem] theorem zoL:hasT jV 140=true∧szT jV 140=1∧Tryz.prog.bytesOf 140=8∧aggT jV 140=false∧zaX jV 140=none∧arrT jV 140=none∧zbF jV 140=some [.nilFunc]:=by and_intros <;> kernel_rfl
@[go_sem] theorem zoM:hasT jV 144=true∧szT jV 144=1∧Tryz.prog.bytesOf 144=8∧aggT jV 144=false∧zaX jV 144=none∧arrT jV 144=none∧zbF jV 144=some [.nilFunc]:=by and_intros <;> kernel_rfl
@[go_sem] theorem zoN:hasT jV 146=true∧szT jV 146=1∧Tryz.prog.bytesOf 146=8∧aggT jV 146=false∧zaX jV 146=none∧arrT jV 146=none∧zbF jV 146=some [.nilFunc]:=by and_intros <;> kernel_rfl
@[go_sem] theorem zoO:hasT jV 147=true∧szT jV 147=1∧Tryz.prog.bytesOf 147=24∧aggT jV 147=false∧zaX jV 147=some 154∧arrT jV 147=none∧zbF jV 147=some [.slice none 0 0]:=by and_intros <;> kernel_rfl
@[go_sem] theorem zoP:hasT jV 148=true∧szT jV 148=4∧Tryz.prog.bytesOf 148=48∧aggT jV 148=true∧zaX jV 148=none∧arrT jV 148=none∧zbF jV 148=some [.int .i64 0,.int .i64 0,.int .i64 0,.slice none 0 0]∧zbE jV 148=true:=by and_intros <;> kernel_rfl
@[go_sem] theorem zoQ:hasT jV 149=true∧szT jV 149=4∧Tryz.prog.bytesOf 149=48∧aggT jV 149=true∧zaX jV 149=none∧arrT jV 149=none∧zbF jV 149=some [.int .i64 0,.int .i64 0,.int .i64 0,.slice none 0 0]∧zbE jV 149=true:=by and_intros <;> kernel_rfl
@[go_sem] theorem zoR:hasT jV 153=true∧szT jV 153=5∧Tryz.prog.bytesOf 153=40∧aggT jV 153=true∧zaX jV 153=none∧arrT jV 153=none∧zbF jV 153=some [.int .i64 0,.int .i64 0,.bool false,.int .i64 0,.int .i64 0]∧zbE jV 153=true:=by and_intros <;> kernel_rfl
@[go_sem] theorem zoS:hasT jV 154=true∧szT jV 154=5∧Tryz.prog.bytesOf 154=40∧aggT jV 154=true∧zaX jV 154=none∧arrT jV 154=none∧zbF jV 154=some [.int .i64 0,.int .i64 0,.bool false,.int .i64 0,.int .i64 0]∧zbE jV 154=true:=by and_intros <;> kernel_rfl
@[go_sem] theorem zoT:hasT jV 161=true∧szT jV 161=6∧Tryz.prog.bytesOf 161=56∧aggT jV 161=true∧zaX jV 161=none∧arrT jV 161=none∧zbF jV 161=some [.string ByteArray.empty,.int .i64 0,.int .i64 0,.int .i64 0,.int .i64 0,.bool false]∧zbE jV 161=true:=by and_intros <;> kernel_rfl
@[go_sem] theorem zoU:hasT jV 162=true∧szT jV 162=6∧Tryz.prog.bytesOf 162=56∧aggT jV 162=true∧zaX jV 162=none∧arrT jV 162=none∧zbF jV 162=some [.string ByteArray.empty,.int .i64 0,.int .i64 0,.int .i64 0,.int .i64 0,.bool false]∧zbE jV 162=true:=by and_intros <;> kernel_rfl
@[go_sem] theorem zoV:hasT jV 168=true∧szT jV 168=6∧Tryz.prog.bytesOf 168=56∧aggT jV 168=true∧zaX jV 168=none∧arrT jV 168=none∧zbF jV 168=some [.string ByteArray.empty,.int .i64 0,.int .i64 0,.int .i64 0,.int .i64 0,.bool false]∧zbE jV 168=true:=by and_intros <;> kernel_rfl
@[go_sem] theorem zOL:hasT jV 187=true∧szT jV 187=3∧Tryz.prog.bytesOf 187=40∧aggT jV 187=true∧zaX jV 187=none∧arrT jV 187=none∧zbF jV 187=some [.slice none 0 0,.int .i64 0,.int .i64 0]∧zbE jV 187=true:=by and_intros <;> kernel_rfl
@[go_sem] theorem zOM:hasT jV 188=true∧szT jV 188=3∧Tryz.prog.bytesOf 188=40∧aggT jV 188=true∧zaX jV 188=none∧arrT jV 188=none∧zbF jV 188=some [.slice none 0 0,.int .i64 0,.int .i64 0]∧zbE jV 188=true:=by and_intros <;> kernel_rfl
@[go_sem] theorem zoW:hasT jV 189=true∧szT jV 189=1∧Tryz.prog.bytesOf 189=8∧aggT jV 189=false∧zaX jV 189=none∧arrT jV 189=none∧zbF jV 189=some [.pointer none]:=by and_intros <;> kernel_rfl
@[go_sem] theorem zoX:hasT jV 190=true∧szT jV 190=20∧Tryz.prog.bytesOf 190=320∧aggT jV 190=true∧zaX jV 190=none∧arrT jV 190=none∧zbF jV 190=some [.int .i64 0,.slice none 0 0,.slice none 0 0,.slice none 0 0,.slice none 0 0,.slice none 0 0,.int .i64 0,.bool false,.int .i64 0,.int .i64 0,.int .i64 0,.slice none 0 0,.slice none 0 0,.nilFunc,.slice none 0 0,.slice none 0 0,.slice none 0 0,.int .i64 0,.int .i64 0,.bool false]∧zbE jV 190=true:=by and_intros <;> kernel_rfl
@[go_sem] theorem zoY:hasT jV 191=true∧szT jV 191=20∧Tryz.prog.bytesOf 191=320∧aggT jV 191=true∧zaX jV 191=none∧arrT jV 191=none∧zbF jV 191=some [.int .i64 0,.slice none 0 0,.slice none 0 0,.slice none 0 0,.slice none 0 0,.slice none 0 0,.int .i64 0,.bool false,.int .i64 0,.int .i64 0,.int .i64 0,.slice none 0 0,.slice none 0 0,.nilFunc,.slice none 0 0,.slice none 0 0,.slice none 0 0,.int .i64 0,.int .i64 0,.bool false]∧zbE jV 191=true:=by and_intros <;> kernel_rfl
@[go_sem] theorem zoZ:hasT jV 192=true∧szT jV 192=1∧Tryz.prog.bytesOf 192=8∧aggT jV 192=false∧zaX jV 192=none∧arrT jV 192=none∧zbF jV 192=some [.nilFunc]:=by and_intros <;> kernel_rfl
@[go_sem] theorem zo0:hasT jV 196=true∧szT jV 196=1∧Tryz.prog.bytesOf 196=8∧aggT jV 196=false∧zaX jV 196=none∧arrT jV 196=none∧zbF jV 196=some [.nilFunc]:=by and_intros <;> kernel_rfl
@[go_sem] theorem zo1:hasT jV 197=true∧szT jV 197=1∧Tryz.prog.bytesOf 197=8∧aggT jV 197=false∧zaX jV 197=none∧arrT jV 197=none∧zbF jV 197=some [.nilFunc]:=by and_intros <;> kernel_rfl
@[go_sem] theorem zo2:hasT jV 198=true∧szT jV 198=1∧Tryz.prog.bytesOf 198=8∧aggT jV 198=false∧zaX jV 198=none∧arrT jV 198=none∧zbF jV 198=some [.int .u64 0]∧intT jV 198=some .u64:=by and_intros <;> kernel_rfl
attribute [go_sem] Tryz.underlying198
@[go_sem] theorem zo3:hasT jV 201=true∧szT jV 201=1∧Tryz.prog.bytesOf 201=24∧aggT jV 201=false∧zaX jV 201=some 280∧arrT jV 201=none∧zbF jV 201=some [.slice none 0 0]:=by and_intros <;> kernel_rfl
@[go_sem] theorem zo4:hasT jV 202=true∧szT jV 202=3∧Tryz.prog.bytesOf 202=72∧aggT jV 202=true∧zaX jV 202=none∧arrT jV 202=none∧zbF jV 202=some [.slice none 0 0,.slice none 0 0,.slice none 0 0]∧zbE jV 202=true:=by and_intros <;> kernel_rfl
@[go_sem] theorem zo5:hasT jV 203=true∧szT jV 203=3∧Tryz.prog.bytesOf 203=72∧aggT jV 203=true∧zaX jV 203=none∧arrT jV 203=none∧zbF jV 203=some [.slice none 0 0,.slice none 0 0,.slice none 0 0]∧zbE jV 203=true:=by and_intros <;> kernel_rfl
@[go_sem] theorem zo6:hasT jV 215=true∧szT jV 215=2∧Tryz.prog.bytesOf 215=24∧aggT jV 215=true∧zaX jV 215=none∧arrT jV 215=none∧zbF jV 215=some [.string ByteArray.empty,.bool false]∧zbE jV 215=true:=by and_intros <;> kernel_rfl
@[go_sem] theorem zo7:hasT jV 216=true∧szT jV 216=2∧Tryz.prog.bytesOf 216=24∧aggT jV 216=true∧zaX jV 216=none∧arrT jV 216=none∧zbF jV 216=some [.string ByteArray.empty,.bool false]∧zbE jV 216=true:=by and_intros <;> kernel_rfl
@[go_sem] theorem zpc:hasT jV 224=true∧szT jV 224=3∧Tryz.prog.bytesOf 224=24∧aggT jV 224=true∧zaX jV 224=none∧arrT jV 224=none∧zbF jV 224=some [.int .i64 0,.int .i64 0,.int .i64 0]∧zbE jV 224=true:=by and_intros <;> kernel_rfl
@[go_sem] theorem zpd:hasT jV 225=true∧szT jV 225=3∧Tryz.prog.bytesOf 225=24∧aggT jV 225=true∧zaX jV 225=none∧arrT jV 225=none∧zbF jV 225=some [.int .i64 0,.int .i64 0,.int .i64 0]∧zbE jV 225=true:=by and_intros <;> kernel_rfl
@[go_sem] theorem zpf:hasT jV 228=true∧szT jV 228=2∧Tryz.prog.bytesOf 228=24∧aggT jV 228=true∧zaX jV 228=none∧arrT jV 228=none∧zbF jV 228=some [.string ByteArray.empty,.bool false]∧zbE jV 228=true:=by and_intros <;> kernel_rfl
@[go_sem] theorem zpg:hasT jV 230=true∧szT jV 230=5∧Tryz.prog.bytesOf 230=40∧aggT jV 230=true∧zaX jV 230=none∧arrT jV 230=none∧zbF jV 230=some [.int .i64 0,.int .i64 0,.int .i64 0,.int .i64 0,.bool false]∧zbE jV 230=true:=by and_intros <;> kernel_rfl
@[go_sem] theorem zph:hasT jV 231=true∧szT jV 231=5∧Tryz.prog.bytesOf 231=40∧aggT jV 231=true∧zaX jV 231=none∧arrT jV 231=none∧zbF jV 231=some [.int .i64 0,.int .i64 0,.int .i64 0,.int .i64 0,.bool false]∧zbE jV 231=true:=by and_intros <;> kernel_rfl
@[go_sem] theorem zpj:hasT jV 240=true∧szT jV 240=1∧Tryz.prog.bytesOf 240=8∧aggT jV 240=false∧zaX jV 240=none∧arrT jV 240=none∧zbF jV 240=some [.nilFunc]:=by and_intros <;> kernel_rfl
@[go_sem] theorem zpk:hasT jV 241=true∧szT jV 241=1∧Tryz.prog.bytesOf 241=8∧aggT jV 241=false∧zaX jV 241=none∧arrT jV 241=none∧zbF jV 241=some [.nilFunc]:=by and_intros <;> kernel_rfl
@[go_sem] theorem zpl:hasT jV 243=true∧szT jV 243=1∧Tryz.prog.bytesOf 243=8∧aggT jV 243=false∧zaX jV 243=none∧arrT jV 243=none∧zbF jV 243=some [.nilFunc]:=by and_intros <;> kernel_rfl
@[go_sem] theorem zpm:hasT jV 247=true∧szT jV 247=1∧Tryz.prog.bytesOf 247=8∧aggT jV 247=false∧zaX jV 247=none∧arrT jV 247=none∧zbF jV 247=some [.nilFunc]:=by and_intros <;> kernel_rfl
@[go_sem] theorem zpn:hasT jV 248=true∧szT jV 248=1∧Tryz.prog.bytesOf 248=8∧aggT jV 248=false∧zaX jV 248=none∧arrT jV 248=none∧zbF jV 248=some [.nilFunc]:=by and_intros <;> kernel_rfl
@[go_sem] theorem zpo:hasT jV 249=true∧szT jV 249=1∧Tryz.prog.bytesOf 249=8∧aggT jV 249=false∧zaX jV 249=none∧arrT jV 249=none∧zbF jV 249=some [.nilFunc]:=by and_intros <;> kernel_rfl
@[go_sem] theorem zpp:hasT jV 259=true∧szT jV 259=1∧Tryz.prog.bytesOf 259=8∧aggT jV 259=false∧zaX jV 259=none∧arrT jV 259=none∧zbF jV 259=some [.nilFunc]:=by and_intros <;> kernel_rfl
@[go_sem] theorem zpq:hasT jV 263=true∧szT jV 263=1∧Tryz.prog.bytesOf 263=24∧aggT jV 263=false∧zaX jV 263=some 265∧arrT jV 263=none∧zbF jV 263=some [.slice none 0 0]:=by and_intros <;> kernel_rfl
@[go_sem] theorem zpr:hasT jV 264=true∧szT jV 264=4∧Tryz.prog.bytesOf 264=32∧aggT jV 264=true∧zaX jV 264=none∧arrT jV 264=none∧zbF jV 264=some [.int .i64 0,.int .i64 0,.int .i64 0,.int .i64 0]∧zbE jV 264=true:=by and_intros <;> kernel_rfl
@[go_sem] theorem zps:hasT jV 265=true∧szT jV 265=4∧Tryz.prog.bytesOf 265=32∧aggT jV 265=true∧zaX jV 265=none∧arrT jV 265=none∧zbF jV 265=some [.int .i64 0,.int .i64 0,.int .i64 0,.int .i64 0]∧zbE jV 265=true:=by and_intros <;> kernel_rfl
@[go_sem] theorem zpu:hasT jV 272=true∧szT jV 272=1∧Tryz.prog.bytesOf 272=24∧aggT jV 272=false∧zaX jV 272=some 117∧arrT jV 272=none∧zbF jV 272=some [.slice none 0 0]:=by and_intros <;> kernel_rfl
@[go_sem] theorem zpv:hasT jV 274=true∧szT jV 274=3∧Tryz.prog.bytesOf 274=24∧aggT jV 274=true∧zaX jV 274=none∧arrT jV 274=none∧zbF jV 274=some [.int .i64 0,.int .i64 0,.int .i64 0]∧zbE jV 274=true:=by and_intros <;> kernel_rfl
@[go_sem] theorem zpw:hasT jV 275=true∧szT jV 275=3∧Tryz.prog.bytesOf 275=24∧aggT jV 275=true∧zaX jV 275=none∧arrT jV 275=none∧zbF jV 275=some [.int .i64 0,.int .i64 0,.int .i64 0]∧zbE jV 275=true:=by and_intros <;> kernel_rfl
@[go_sem] theorem zpx:hasT jV 277=true∧szT jV 277=3∧Tryz.prog.bytesOf 277=24∧aggT jV 277=true∧zaX jV 277=none∧arrT jV 277=none∧zbF jV 277=some [.int .i64 0,.int .i64 0,.int .i64 0]∧zbE jV 277=true:=by and_intros <;> kernel_rfl
@[go_sem] theorem zpy:hasT jV 280=true∧szT jV 280=1∧Tryz.prog.bytesOf 280=24∧aggT jV 280=false∧zaX jV 280=some 308∧arrT jV 280=none∧zbF jV 280=some [.slice none 0 0]:=by and_intros <;> kernel_rfl
@[go_sem] theorem zpz:hasT jV 287=true∧szT jV 287=1∧Tryz.prog.bytesOf 287=8∧aggT jV 287=false∧zaX jV 287=none∧arrT jV 287=none∧zbF jV 287=some [.nilFunc]:=by and_intros <;> kernel_rfl
@[go_sem] theorem zpA:hasT jV 288=true∧szT jV 288=1∧Tryz.prog.bytesOf 288=8∧aggT jV 288=false∧zaX jV 288=none∧arrT jV 288=none∧zbF jV 288=some [.nilFunc]:=by and_intros <;> kernel_rfl
@[go_sem] theorem zpB:hasT jV 291=true∧szT jV 291=1∧Tryz.prog.bytesOf 291=8∧aggT jV 291=false∧zaX jV 291=none∧arrT jV 291=none∧zbF jV 291=some [.nilFunc]:=by and_intros <;> kernel_rfl
@[go_sem] theorem zpC:hasT jV 292=true∧szT jV 292=8∧Tryz.prog.bytesOf 292=8∧aggT jV 292=true∧zaX jV 292=none∧arrT jV 292=some (8,4)∧zbF jV 292=some [.bool false,.bool false,.bool false,.bool false,.bool false,.bool false,.bool false,.bool false]∧zbE jV 292=true:=by and_intros <;> kernel_rfl
@[go_sem] theorem zpD:hasT jV 293=true∧szT jV 293=1∧Tryz.prog.bytesOf 293=8∧aggT jV 293=false∧zaX jV 293=none∧arrT jV 293=none∧zbF jV 293=some [.pointer none]:=by and_intros <;> kernel_rfl
@[go_sem] theorem zpE:hasT jV 294=true∧szT jV 294=1∧Tryz.prog.bytesOf 294=8∧aggT jV 294=false∧zaX jV 294=none∧arrT jV 294=none∧zbF jV 294=some [.nilFunc]:=by and_intros <;> kernel_rfl
@[go_sem] theorem zpF:hasT jV 295=true∧szT jV 295=1∧Tryz.prog.bytesOf 295=8∧aggT jV 295=false∧zaX jV 295=none∧arrT jV 295=none∧zbF jV 295=some [.nilFunc]:=by and_intros <;> kernel_rfl
@[go_sem] theorem zpG:hasT jV 297=true∧szT jV 297=1∧Tryz.prog.bytesOf 297=8∧aggT jV 297=false∧zaX jV 297=none∧arrT jV 297=none∧zbF jV 297=some [.nilFunc]:=by and_intros <;> kernel_rfl
@[go_sem] theorem zpH:hasT jV 300=true∧szT jV 300=1∧Tryz.prog.bytesOf 300=8∧aggT jV 300=false∧zaX jV 300=none∧arrT jV 300=none∧zbF jV 300=some [.int .u64 0]∧intT jV 300=some .u64:=by and_intros <;> kernel_rfl
attribute [go_sem] Tryz.underlying300
@[go_sem] theorem zpI:hasT jV 302=true∧szT jV 302=1∧Tryz.prog.bytesOf 302=8∧aggT jV 302=false∧zaX jV 302=none∧arrT jV 302=none∧zbF jV 302=some [.nilFunc]:=by and_intros <;> kernel_rfl
@[go_sem] theorem zpJ:hasT jV 303=true∧szT jV 303=1∧Tryz.prog.bytesOf 303=8∧aggT jV 303=false∧zaX jV 303=none∧arrT jV 303=none∧zbF jV 303=some [.nilFunc]:=by and_intros <;> kernel_rfl
@[go_sem] theorem zpK:hasT jV 304=true∧szT jV 304=1∧Tryz.prog.bytesOf 304=8∧aggT jV 304=false∧zaX jV 304=none∧arrT jV 304=none∧zbF jV 304=some [.nilFunc]:=by and_intros <;> kernel_rfl
@[go_sem] theorem zpL:hasT jV 307=true∧szT jV 307=2∧Tryz.prog.bytesOf 307=16∧aggT jV 307=true∧zaX jV 307=none∧arrT jV 307=none∧zbF jV 307=some [.int .i64 0,.int .i64 0]∧zbE jV 307=true:=by and_intros <;> kernel_rfl
@[go_sem] theorem zpM:hasT jV 308=true∧szT jV 308=2∧Tryz.prog.bytesOf 308=16∧aggT jV 308=true∧zaX jV 308=none∧arrT jV 308=none∧zbF jV 308=some [.int .i64 0,.int .i64 0]∧zbE jV 308=true:=by and_intros <;> kernel_rfl
@[go_sem] theorem zpN:hasT jV 312=true∧szT jV 312=1∧Tryz.prog.bytesOf 312=8∧aggT jV 312=false∧zaX jV 312=none∧arrT jV 312=none∧zbF jV 312=some [.nilFunc]:=by and_intros <;> kernel_rfl
@[go_sem] theorem zpO:hasT jV 314=true∧szT jV 314=1∧Tryz.prog.bytesOf 314=8∧aggT jV 314=false∧zaX jV 314=none∧arrT jV 314=none∧zbF jV 314=some [.nilFunc]:=by and_intros <;> kernel_rfl
@[go_sem] theorem zpP:hasT jV 315=true∧szT jV 315=1∧Tryz.prog.bytesOf 315=8∧aggT jV 315=false∧zaX jV 315=none∧arrT jV 315=none∧zbF jV 315=some [.nilFunc]:=by and_intros <;> kernel_rfl
@[go_sem] theorem zpQ:hasT jV 318=true∧szT jV 318=1∧Tryz.prog.bytesOf 318=24∧aggT jV 318=false∧zaX jV 318=some 198∧arrT jV 318=none∧zbF jV 318=some [.slice none 0 0]:=by and_intros <;> kernel_rfl
@[go_sem] theorem zpR:hasT jV 320=true∧szT jV 320=1∧Tryz.prog.bytesOf 320=8∧aggT jV 320=false∧zaX jV 320=none∧arrT jV 320=none∧zbF jV 320=some [.pointer none]:=by and_intros <;> kernel_rfl
@[go_sem] theorem zpS:hasT jV 321=true∧szT jV 321=1∧Tryz.prog.bytesOf 321=8∧aggT jV 321=false∧zaX jV 321=none∧arrT jV 321=none∧zbF jV 321=some [.nilFunc]:=by and_intros <;> kernel_rfl
@[go_sem] theorem zpT:hasT jV 322=true∧szT jV 322=4∧Tryz.prog.bytesOf 322=80∧aggT jV 322=true∧zaX jV 322=none∧arrT jV 322=none∧zbF jV 322=some [.slice none 0 0,.int .i64 0,.slice none 0 0,.slice none 0 0]∧zbE jV 322=true:=by and_intros <;> kernel_rfl
@[go_sem] theorem zpU:hasT jV 323=true∧szT jV 323=4∧Tryz.prog.bytesOf 323=80∧aggT jV 323=true∧zaX jV 323=none∧arrT jV 323=none∧zbF jV 323=some [.slice none 0 0,.int .i64 0,.slice none 0 0,.slice none 0 0]∧zbE jV 323=true:=by and_intros <;> kernel_rfl
@[go_sem] theorem zpV:hasT jV 327=true∧szT jV 327=1∧Tryz.prog.bytesOf 327=8∧aggT jV 327=false∧zaX jV 327=none∧arrT jV 327=none∧zbF jV 327=some [.nilFunc]:=by and_intros <;> kernel_rfl
@[go_sem] theorem zpW:hasT jV 328=true∧szT jV 328=1∧Tryz.prog.bytesOf 328=8∧aggT jV 328=false∧zaX jV 328=none∧arrT jV 328=none∧zbF jV 328=some [.nilFunc]:=by and_intros <;> kernel_rfl
@[go_sem] theorem zpX:hasT jV 329=true∧szT jV 329=1∧Tryz.prog.bytesOf 329=8∧aggT jV 329=false∧zaX jV 329=none∧arrT jV 329=none∧zbF jV 329=some [.nilFunc]:=by and_intros <;> kernel_rfl
@[go_sem] theorem zpY:hasT jV 330=true∧szT jV 330=1∧Tryz.prog.bytesOf 330=8∧aggT jV 330=false∧zaX jV 330=none∧arrT jV 330=none∧zbF jV 330=some [.nilFunc]:=by and_intros <;> kernel_rfl
@[go_sem] theorem zpZ:hasT jV 343=true∧szT jV 343=1∧Tryz.prog.bytesOf 343=4∧aggT jV 343=false∧zaX jV 343=none∧arrT jV 343=none∧zbF jV 343=some [.int .u32 0]∧intT jV 343=some .u32:=by and_intros <;> kernel_rfl
attribute [go_sem] Tryz.underlying343
@[go_sem] theorem zp0:hasT jV 347=true∧szT jV 347=1∧Tryz.prog.bytesOf 347=8∧aggT jV 347=false∧zaX jV 347=none∧arrT jV 347=none∧zbF jV 347=some [.nilFunc]:=by and_intros <;> kernel_rfl
@[go_sem] theorem zp1:zaW jV 13 0=some (0,9):=by kernel_rfl
@[go_sem] theorem zp2:zbD jV 13 0=some (0,1):=by kernel_rfl
@[go_sem] theorem zp3:zaW jV 13 1=some (1,12):=by kernel_rfl
@[go_sem] theorem zp4:zbD jV 13 1=some (1,1):=by kernel_rfl
attribute [go_sem] Tryz.underlying13 Tryz.stoodInHeld13 Tryz.eqGuardType13
@[go_sem] theorem zp5:zaW jV 23 0=some (0,3):=by kernel_rfl
@[go_sem] theorem zp6:zbD jV 23 0=some (0,1):=by kernel_rfl
@[go_sem] theorem zp7:zaW jV 23 1=some (1,22):=by kernel_rfl
@[go_sem] theorem zp8:zbD jV 23 1=some (1,1):=by kernel_rfl
attribute [go_sem] Tryz.underlying23 Tryz.stoodInHeld23 Tryz.eqGuardType23
@[go_sem] theorem zp9:zaW jV 24 0=some (0,3):=by kernel_rfl
@[go_sem] theorem zqa:zbD jV 24 0=some (0,1):=by kernel_rfl
@[go_sem] theorem zqb:zaW jV 24 1=some (1,22):=by kernel_rfl
@[go_sem] theorem zqc:zbD jV 24 1=some (1,1):=by kernel_rfl
attribute [go_sem] Tryz.underlying24 Tryz.stoodInHeld24 Tryz.eqGuardType24
@[go_sem] theorem zqd:zaW jV 26 0=some (0,24):=by kernel_rfl
@[go_sem] theorem zqe:zbD jV 26 0=some (0,2):=by kernel_rfl
@[go_sem] theorem zqf:zaW jV 26 1=some (2,25):=by kernel_rfl
@[go_sem] theorem zqg:zbD jV 26 1=some (2,1):=by kernel_rfl
attribute [go_sem] Tryz.underlying26 Tryz.stoodInHeld26 Tryz.eqGuardType26
@[go_sem] theorem zqh:zaW jV 27 0=some (0,24):=by kernel_rfl
@[go_sem] theorem zqi:zbD jV 27 0=some (0,2):=by kernel_rfl
@[go_sem] theorem zqj:zaW jV 27 1=some (2,25):=by kernel_rfl
@[go_sem] theorem zqk:zbD jV 27 1=some (2,1):=by kernel_rfl
attribute [go_sem] Tryz.underlying27 Tryz.stoodInHeld27 Tryz.eqGuardType27
@[go_sem] theorem zql:zaW jV 30 0=some (0,28):=by kernel_rfl
@[go_sem] theorem zqm:zbD jV 30 0=some (0,1):=by kernel_rfl
@[go_sem] theorem zqn:zaW jV 30 1=some (1,29):=by kernel_rfl
@[go_sem] theorem zqo:zbD jV 30 1=some (1,1):=by kernel_rfl
attribute [go_sem] Tryz.underlying30 Tryz.stoodInHeld30 Tryz.eqGuardType30
@[go_sem] theorem zqp:zaW jV 31 0=some (0,28):=by kernel_rfl
@[go_sem] theorem zqq:zbD jV 31 0=some (0,1):=by kernel_rfl
@[go_sem] theorem zqr:zaW jV 31 1=some (1,29):=by kernel_rfl
@[go_sem] theorem zqs:zbD jV 31 1=some (1,1):=by kernel_rfl
attribute [go_sem] Tryz.underlying31 Tryz.stoodInHeld31 Tryz.eqGuardType31
@[go_sem] theorem zqt:zaW jV 33 0=some (0,3):=by kernel_rfl
@[go_sem] theorem zqu:zbD jV 33 0=some (0,1):=by kernel_rfl
@[go_sem] theorem zqv:zaW jV 33 1=some (1,4):=by kernel_rfl
@[go_sem] theorem zqw:zbD jV 33 1=some (1,1):=by kernel_rfl
attribute [go_sem] Tryz.underlying33 Tryz.stoodInHeld33 Tryz.eqGuardType33
@[go_sem] theorem zqx:zaW jV 34 0=some (0,3):=by kernel_rfl
@[go_sem] theorem zqy:zbD jV 34 0=some (0,1):=by kernel_rfl
@[go_sem] theorem zqz:zaW jV 34 1=some (1,4):=by kernel_rfl
@[go_sem] theorem zqA:zbD jV 34 1=some (1,1):=by kernel_rfl
attribute [go_sem] Tryz.underlying34 Tryz.stoodInHeld34 Tryz.eqGuardType34
@[go_sem] theorem zqB:zaW jV 36 0=some (0,3):=by kernel_rfl
@[go_sem] theorem zqC:zbD jV 36 0=some (0,1):=by kernel_rfl
@[go_sem] theorem zqD:zaW jV 36 1=some (1,3):=by kernel_rfl
@[go_sem] theorem zqE:zbD jV 36 1=some (1,1):=by kernel_rfl
@[go_sem] theorem zqF:zaW jV 36 2=some (2,3):=by kernel_rfl
@[go_sem] theorem zqG:zbD jV 36 2=some (2,1):=by kernel_rfl
@[go_sem] theorem zqH:zaW jV 36 3=some (3,35):=by kernel_rfl
@[go_sem] theorem zqI:zbD jV 36 3=some (3,1):=by kernel_rfl
attribute [go_sem] Tryz.underlying36 Tryz.stoodInHeld36 Tryz.eqGuardType36
@[go_sem] theorem zqJ:zaW jV 37 0=some (0,3):=by kernel_rfl
@[go_sem] theorem zqK:zbD jV 37 0=some (0,1):=by kernel_rfl
@[go_sem] theorem zqL:zaW jV 37 1=some (1,3):=by kernel_rfl
@[go_sem] theorem zqM:zbD jV 37 1=some (1,1):=by kernel_rfl
@[go_sem] theorem zqN:zaW jV 37 2=some (2,3):=by kernel_rfl
@[go_sem] theorem zqO:zbD jV 37 2=some (2,1):=by kernel_rfl
@[go_sem] theorem zqP:zaW jV 37 3=some (3,35):=by kernel_rfl
@[go_sem] theorem zqQ:zbD jV 37 3=some (3,1):=by kernel_rfl
attribute [go_sem] Tryz.underlying37 Tryz.stoodInHeld37 Tryz.eqGuardType37
@[go_sem] theorem zqR:zaW jV 38 0=some (0,27):=by kernel_rfl
@[go_sem] theorem zqS:zbD jV 38 0=some (0,3):=by kernel_rfl
@[go_sem] theorem zqT:zaW jV 38 1=some (3,31):=by kernel_rfl
@[go_sem] theorem zqU:zbD jV 38 1=some (3,2):=by kernel_rfl
@[go_sem] theorem zqV:zaW jV 38 2=some (5,32):=by kernel_rfl
@[go_sem] theorem zqW:zbD jV 38 2=some (5,1):=by kernel_rfl
@[go_sem] theorem zqX:zaW jV 38 3=some (6,34):=by kernel_rfl
@[go_sem] theorem zqY:zbD jV 38 3=some (6,2):=by kernel_rfl
@[go_sem] theorem zqZ:zaW jV 38 4=some (8,37):=by kernel_rfl
@[go_sem] theorem zq0:zbD jV 38 4=some (8,4):=by kernel_rfl
attribute [go_sem] Tryz.underlying38 Tryz.stoodInHeld38 Tryz.eqGuardType38
@[go_sem] theorem zq1:zaW jV 39 0=some (0,27):=by kernel_rfl
@[go_sem] theorem zq2:zbD jV 39 0=some (0,3):=by kernel_rfl
@[go_sem] theorem zq3:zaW jV 39 1=some (3,31):=by kernel_rfl
@[go_sem] theorem zq4:zbD jV 39 1=some (3,2):=by kernel_rfl
@[go_sem] theorem zq5:zaW jV 39 2=some (5,32):=by kernel_rfl
@[go_sem] theorem zq6:zbD jV 39 2=some (5,1):=by kernel_rfl
@[go_sem] theorem zq7:zaW jV 39 3=some (6,34):=by kernel_rfl
@[go_sem] theorem zq8:zbD jV 39 3=some (6,2):=by kernel_rfl
@[go_sem] theorem zq9:zaW jV 39 4=some (8,37):=by kernel_rfl
@[go_sem] theorem zra:zbD jV 39 4=some (8,4):=by kernel_rfl
attribute [go_sem] Tryz.underlying39 Tryz.stoodInHeld39 Tryz.eqGuardType39
@[go_sem] theorem zrb:zaW jV 45 0=some (0,3):=by kernel_rfl
@[go_sem] theorem zrc:zbD jV 45 0=some (0,1):=by kernel_rfl
@[go_sem] theorem zrd:zaW jV 45 1=some (1,44):=by kernel_rfl
@[go_sem] theorem zre:zbD jV 45 1=some (1,1):=by kernel_rfl
attribute [go_sem] Tryz.underlying45 Tryz.stoodInHeld45 Tryz.eqGuardType45
@[go_sem] theorem zrf:zaW jV 46 0=some (0,3):=by kernel_rfl
@[go_sem] theorem zrg:zbD jV 46 0=some (0,1):=by kernel_rfl
@[go_sem] theorem zrh:zaW jV 46 1=some (1,44):=by kernel_rfl
@[go_sem] theorem zri:zbD jV 46 1=some (1,1):=by kernel_rfl
attribute [go_sem] Tryz.underlying46 Tryz.stoodInHeld46 Tryz.eqGuardType46
@[go_sem] theorem zrj:zaW jV 48 0=some (0,46):=by kernel_rfl
@[go_sem] theorem zrk:zbD jV 48 0=some (0,2):=by kernel_rfl
@[go_sem] theorem zrl:zaW jV 48 1=some (2,47):=by kernel_rfl
@[go_sem] theorem zrm:zbD jV 48 1=some (2,1):=by kernel_rfl
attribute [go_sem] Tryz.underlying48 Tryz.stoodInHeld48 Tryz.eqGuardType48
@[go_sem] theorem zrn:zaW jV 49 0=some (0,46):=by kernel_rfl
@[go_sem] theorem zro:zbD jV 49 0=some (0,2):=by kernel_rfl
@[go_sem] theorem zrp:zaW jV 49 1=some (2,47):=by kernel_rfl
@[go_sem] theorem zrq:zbD jV 49 1=some (2,1):=by kernel_rfl
attribute [go_sem] Tryz.underlying49 Tryz.stoodInHeld49 Tryz.eqGuardType49
@[go_sem] theorem zrr:zaW jV 52 0=some (0,50):=by kernel_rfl
@[go_sem] theorem zrs:zbD jV 52 0=some (0,1):=by kernel_rfl
@[go_sem] theorem zrt:zaW jV 52 1=some (1,51):=by kernel_rfl
@[go_sem] theorem zru:zbD jV 52 1=some (1,1):=by kernel_rfl
attribute [go_sem] Tryz.underlying52 Tryz.stoodInHeld52 Tryz.eqGuardType52
@[go_sem] theorem zrv:zaW jV 53 0=some (0,50):=by kernel_rfl
@[go_sem] theorem zrw:zbD jV 53 0=some (0,1):=by kernel_rfl
@[go_sem] theorem zrx:zaW jV 53 1=some (1,51):=by kernel_rfl
@[go_sem] theorem zry:zbD jV 53 1=some (1,1):=by kernel_rfl
attribute [go_sem] Tryz.underlying53 Tryz.stoodInHeld53 Tryz.eqGuardType53
@[go_sem] theorem zrz:zaW jV 55 0=some (0,3):=by kernel_rfl
@[go_sem] theorem zrA:zbD jV 55 0=some (0,1):=by kernel_rfl
@[go_sem] theorem zrB:zaW jV 55 1=some (1,4):=by kernel_rfl
@[go_sem] theorem zrC:zbD jV 55 1=some (1,1):=by kernel_rfl
attribute [go_sem] Tryz.underlying55 Tryz.stoodInHeld55 Tryz.eqGuardType55
@[go_sem] theorem zrD:zaW jV 56 0=some (0,3):=by kernel_rfl
@[go_sem] theorem zrE:zbD jV 56 0=some (0,1):=by kernel_rfl
@[go_sem] theorem zrF:zaW jV 56 1=some (1,3):=by kernel_rfl
@[go_sem] theorem zrG:zbD jV 56 1=some (1,1):=by kernel_rfl
@[go_sem] theorem zrH:zaW jV 56 2=some (2,3):=by kernel_rfl
@[go_sem] theorem zrI:zbD jV 56 2=some (2,1):=by kernel_rfl
@[go_sem] theorem zrJ:zaW jV 56 3=some (3,35):=by kernel_rfl
@[go_sem] theorem zrK:zbD jV 56 3=some (3,1):=by kernel_rfl
attribute [go_sem] Tryz.underlying56 Tryz.stoodInHeld56 Tryz.eqGuardType56
@[go_sem] theorem zrL:zaW jV 57 0=some (0,49):=by kernel_rfl
@[go_sem] theorem zrM:zbD jV 57 0=some (0,3):=by kernel_rfl
@[go_sem] theorem zrN:zaW jV 57 1=some (3,53):=by kernel_rfl
@[go_sem] theorem zrO:zbD jV 57 1=some (3,2):=by kernel_rfl
@[go_sem] theorem zrP:zaW jV 57 2=some (5,54):=by kernel_rfl
@[go_sem] theorem zrQ:zbD jV 57 2=some (5,1):=by kernel_rfl
@[go_sem] theorem zrR:zaW jV 57 3=some (6,55):=by kernel_rfl
@[go_sem] theorem zrS:zbD jV 57 3=some (6,2):=by kernel_rfl
@[go_sem] theorem zrT:zaW jV 57 4=some (8,56):=by kernel_rfl
@[go_sem] theorem zrU:zbD jV 57 4=some (8,4):=by kernel_rfl
attribute [go_sem] Tryz.underlying57 Tryz.stoodInHeld57 Tryz.eqGuardType57
@[go_sem] theorem zrV:zaW jV 58 0=some (0,49):=by kernel_rfl
@[go_sem] theorem zrW:zbD jV 58 0=some (0,3):=by kernel_rfl
@[go_sem] theorem zrX:zaW jV 58 1=some (3,53):=by kernel_rfl
@[go_sem] theorem zrY:zbD jV 58 1=some (3,2):=by kernel_rfl
@[go_sem] theorem zrZ:zaW jV 58 2=some (5,54):=by kernel_rfl
@[go_sem] theorem zr0:zbD jV 58 2=some (5,1):=by kernel_rfl
@[go_sem] theorem zr1:zaW jV 58 3=some (6,55):=by kernel_rfl
@[go_sem] theorem zr2:zbD jV 58 3=some (6,2):=by kernel_rfl
@[go_sem] theorem zr3:zaW jV 58 4=some (8,56):=by kernel_rfl
@[go_sem] theorem zr4:zbD jV 58 4=some (8,4):=by kernel_rfl
attribute [go_sem] Tryz.underlying58 Tryz.stoodInHeld58 Tryz.eqGuardType58
@[go_sem] theorem zr5:zaW jV 89 0=some (0,3):=by kernel_rfl
@[go_sem] theorem zr6:zbD jV 89 0=some (0,1):=by kernel_rfl
@[go_sem] theorem zr7:zaW jV 89 1=some (1,3):=by kernel_rfl
@[go_sem] theorem zr8:zbD jV 89 1=some (1,1):=by kernel_rfl
@[go_sem] theorem zr9:zaW jV 89 2=some (2,3):=by kernel_rfl
@[go_sem] theorem zsa:zbD jV 89 2=some (2,1):=by kernel_rfl
@[go_sem] theorem zsb:zaW jV 89 3=some (3,3):=by kernel_rfl
@[go_sem] theorem zsc:zbD jV 89 3=some (3,1):=by kernel_rfl
@[go_sem] theorem zsd:zaW jV 89 4=some (4,3):=by kernel_rfl
@[go_sem] theorem zse:zbD jV 89 4=some (4,1):=by kernel_rfl
attribute [go_sem] Tryz.underlying89 Tryz.stoodInHeld89 Tryz.eqGuardType89
@[go_sem] theorem zsf:zaW jV 90 0=some (0,3):=by kernel_rfl
@[go_sem] theorem zsg:zbD jV 90 0=some (0,1):=by kernel_rfl
@[go_sem] theorem zsh:zaW jV 90 1=some (1,3):=by kernel_rfl
@[go_sem] theorem zsi:zbD jV 90 1=some (1,1):=by kernel_rfl
@[go_sem] theorem zsj:zaW jV 90 2=some (2,3):=by kernel_rfl
@[go_sem] theorem zsk:zbD jV 90 2=some (2,1):=by kernel_rfl
@[go_sem] theorem zsl:zaW jV 90 3=some (3,3):=by kernel_rfl
@[go_sem] theorem zsm:zbD jV 90 3=some (3,1):=by kernel_rfl
@[go_sem] theorem zsn:zaW jV 90 4=some (4,3):=by kernel_rfl
@[go_sem] theorem zso:zbD jV 90 4=some (4,1):=by kernel_rfl
attribute [go_sem] Tryz.underlying90 Tryz.stoodInHeld90 Tryz.eqGuardType90
@[go_sem] theorem zsp:zaW jV 107 0=some (0,3):=by kernel_rfl
@[go_sem] theorem zsq:zbD jV 107 0=some (0,1):=by kernel_rfl
@[go_sem] theorem zsr:zaW jV 107 1=some (1,3):=by kernel_rfl
@[go_sem] theorem zss:zbD jV 107 1=some (1,1):=by kernel_rfl
@[go_sem] theorem zst:zaW jV 107 2=some (2,3):=by kernel_rfl
@[go_sem] theorem zsu:zbD jV 107 2=some (2,1):=by kernel_rfl
@[go_sem] theorem zsv:zaW jV 107 3=some (3,3):=by kernel_rfl
@[go_sem] theorem zsw:zbD jV 107 3=some (3,1):=by kernel_rfl
@[go_sem] theorem zsx:zaW jV 107 4=some (4,3):=by kernel_rfl
@[go_sem] theorem zsy:zbD jV 107 4=some (4,1):=by kernel_rfl
attribute [go_sem] Tryz.underlying107 Tryz.stoodInHeld107 Tryz.eqGuardType107
@[go_sem] theorem zsz:zbD jV 136 0=some (0,1):=by kernel_rfl
@[go_sem] theorem zsA:zbD jV 136 1=some (1,1):=by kernel_rfl
@[go_sem] theorem zsB:zbD jV 137 0=some (0,1):=by kernel_rfl
@[go_sem] theorem zsC:zbD jV 137 1=some (1,1):=by kernel_rfl
@[go_sem] theorem zsD:zaW jV 148 0=some (0,3):=by kernel_rfl
@[go_sem] theorem zsE:zbD jV 148 0=some (0,1):=by kernel_rfl
@[go_sem] theorem zsF:zaW jV 148 1=some (1,3):=by kernel_rfl
@[go_sem] theorem zsG:zbD jV 148 1=some (1,1):=by kernel_rfl
@[go_sem] theorem zsH:zaW jV 148 2=some (2,3):=by kernel_rfl
@[go_sem] theorem zsI:zbD jV 148 2=some (2,1):=by kernel_rfl
@[go_sem] theorem zsJ:zaW jV 148 3=some (3,147):=by kernel_rfl
@[go_sem] theorem zsK:zbD jV 148 3=some (3,1):=by kernel_rfl
attribute [go_sem] Tryz.underlying148 Tryz.stoodInHeld148 Tryz.eqGuardType148
@[go_sem] theorem zsL:zaW jV 149 0=some (0,3):=by kernel_rfl
@[go_sem] theorem zsM:zbD jV 149 0=some (0,1):=by kernel_rfl
@[go_sem] theorem zsN:zaW jV 149 1=some (1,3):=by kernel_rfl
@[go_sem] theorem zsO:zbD jV 149 1=some (1,1):=by kernel_rfl
@[go_sem] theorem zsP:zaW jV 149 2=some (2,3):=by kernel_rfl
@[go_sem] theorem zsQ:zbD jV 149 2=some (2,1):=by kernel_rfl
@[go_sem] theorem zsR:zaW jV 149 3=some (3,147):=by kernel_rfl
@[go_sem] theorem zsS:zbD jV 149 3=some (3,1):=by kernel_rfl
attribute [go_sem] Tryz.underlying149 Tryz.stoodInHeld149 Tryz.eqGuardType149
@[go_sem] theorem zsT:zaW jV 153 0=some (0,3):=by kernel_rfl
@[go_sem] theorem zsU:zbD jV 153 0=some (0,1):=by kernel_rfl
@[go_sem] theorem zsV:zaW jV 153 1=some (1,3):=by kernel_rfl
@[go_sem] theorem zsW:zbD jV 153 1=some (1,1):=by kernel_rfl
@[go_sem] theorem zsX:zaW jV 153 2=some (2,4):=by kernel_rfl
@[go_sem] theorem zsY:zbD jV 153 2=some (2,1):=by kernel_rfl
@[go_sem] theorem zsZ:zaW jV 153 3=some (3,3):=by kernel_rfl
@[go_sem] theorem zs0:zbD jV 153 3=some (3,1):=by kernel_rfl
@[go_sem] theorem zs1:zaW jV 153 4=some (4,3):=by kernel_rfl
@[go_sem] theorem zs2:zbD jV 153 4=some (4,1):=by kernel_rfl
attribute [go_sem] Tryz.underlying153 Tryz.stoodInHeld153 Tryz.eqGuardType153
@[go_sem] theorem zs3:zaW jV 154 0=some (0,3):=by kernel_rfl
@[go_sem] theorem zs4:zbD jV 154 0=some (0,1):=by kernel_rfl
@[go_sem] theorem zs5:zaW jV 154 1=some (1,3):=by kernel_rfl
@[go_sem] theorem zs6:zbD jV 154 1=some (1,1):=by kernel_rfl
@[go_sem] theorem zs7:zaW jV 154 2=some (2,4):=by kernel_rfl
@[go_sem] theorem zs8:zbD jV 154 2=some (2,1):=by kernel_rfl
@[go_sem] theorem zs9:zaW jV 154 3=some (3,3):=by kernel_rfl
@[go_sem] theorem zta:zbD jV 154 3=some (3,1):=by kernel_rfl
@[go_sem] theorem ztb:zaW jV 154 4=some (4,3):=by kernel_rfl
@[go_sem] theorem ztc:zbD jV 154 4=some (4,1):=by kernel_rfl
attribute [go_sem] Tryz.underlying154 Tryz.stoodInHeld154 Tryz.eqGuardType154
@[go_sem] theorem ztd:zaW jV 161 0=some (0,9):=by kernel_rfl
@[go_sem] theorem zte:zbD jV 161 0=some (0,1):=by kernel_rfl
@[go_sem] theorem ztf:zaW jV 161 1=some (1,3):=by kernel_rfl
@[go_sem] theorem ztg:zbD jV 161 1=some (1,1):=by kernel_rfl
@[go_sem] theorem zth:zaW jV 161 2=some (2,3):=by kernel_rfl
@[go_sem] theorem zti:zbD jV 161 2=some (2,1):=by kernel_rfl
@[go_sem] theorem ztj:zaW jV 161 3=some (3,3):=by kernel_rfl
@[go_sem] theorem ztk:zbD jV 161 3=some (3,1):=by kernel_rfl
@[go_sem] theorem ztl:zaW jV 161 4=some (4,3):=by kernel_rfl
@[go_sem] theorem ztm:zbD jV 161 4=some (4,1):=by kernel_rfl
@[go_sem] theorem ztn:zaW jV 161 5=some (5,4):=by kernel_rfl
@[go_sem] theorem zto:zbD jV 161 5=some (5,1):=by kernel_rfl
attribute [go_sem] Tryz.underlying161 Tryz.stoodInHeld161 Tryz.eqGuardType161
@[go_sem] theorem ztp:zaW jV 162 0=some (0,9):=by kernel_rfl
@[go_sem] theorem ztq:zbD jV 162 0=some (0,1):=by kernel_rfl
@[go_sem] theorem ztr:zaW jV 162 1=some (1,3):=by kernel_rfl
@[go_sem] theorem zts:zbD jV 162 1=some (1,1):=by kernel_rfl
@[go_sem] theorem ztt:zaW jV 162 2=some (2,3):=by kernel_rfl
@[go_sem] theorem ztu:zbD jV 162 2=some (2,1):=by kernel_rfl
@[go_sem] theorem ztv:zaW jV 162 3=some (3,3):=by kernel_rfl
@[go_sem] theorem ztw:zbD jV 162 3=some (3,1):=by kernel_rfl
@[go_sem] theorem ztx:zaW jV 162 4=some (4,3):=by kernel_rfl
@[go_sem] theorem zty:zbD jV 162 4=some (4,1):=by kernel_rfl
@[go_sem] theorem ztz:zaW jV 162 5=some (5,4):=by kernel_rfl
@[go_sem] theorem ztA:zbD jV 162 5=some (5,1):=by kernel_rfl
attribute [go_sem] Tryz.underlying162 Tryz.stoodInHeld162 Tryz.eqGuardType162
@[go_sem] theorem ztB:zaW jV 168 0=some (0,9):=by kernel_rfl
@[go_sem] theorem ztC:zbD jV 168 0=some (0,1):=by kernel_rfl
@[go_sem] theorem ztD:zaW jV 168 1=some (1,3):=by kernel_rfl
@[go_sem] theorem ztE:zbD jV 168 1=some (1,1):=by kernel_rfl
@[go_sem] theorem ztF:zaW jV 168 2=some (2,3):=by kernel_rfl
@[go_sem] theorem ztG:zbD jV 168 2=some (2,1):=by kernel_rfl
@[go_sem] theorem ztH:zaW jV 168 3=some (3,3):=by kernel_rfl
@[go_sem] theorem ztI:zbD jV 168 3=some (3,1):=by kernel_rfl
@[go_sem] theorem ztJ:zaW jV 168 4=some (4,3):=by kernel_rfl
@[go_sem] theorem ztK:zbD jV 168 4=some (4,1):=by kernel_rfl
@[go_sem] theorem ztL:zaW jV 168 5=some (5,4):=by kernel_rfl
@[go_sem] theorem ztM:zbD jV 168 5=some (5,1):=by kernel_rfl
attribute [go_sem] Tryz.underlying168 Tryz.stoodInHeld168 Tryz.eqGuardType168
@[go_sem] theorem ztN:zaW jV 187 0=some (0,76):=by kernel_rfl
@[go_sem] theorem ztO:zbD jV 187 0=some (0,1):=by kernel_rfl
@[go_sem] theorem ztP:zaW jV 187 1=some (1,3):=by kernel_rfl
@[go_sem] theorem ztQ:zbD jV 187 1=some (1,1):=by kernel_rfl
@[go_sem] theorem ztR:zaW jV 187 2=some (2,3):=by kernel_rfl
@[go_sem] theorem ztS:zbD jV 187 2=some (2,1):=by kernel_rfl
attribute [go_sem] Tryz.underlying187 Tryz.stoodInHeld187 Tryz.eqGuardType187
@[go_sem] theorem ztT:zaW jV 188 0=some (0,76):=by kernel_rfl
@[go_sem] theorem ztU:zbD jV 188 0=some (0,1):=by kernel_rfl
@[go_sem] theorem ztV:zaW jV 188 1=some (1,3):=by kernel_rfl
@[go_sem] theorem ztW:zbD jV 188 1=some (1,1):=by kernel_rfl
@[go_sem] theorem ztX:zaW jV 188 2=some (2,3):=by kernel_rfl
@[go_sem] theorem ztY:zbD jV 188 2=some (2,1):=by kernel_rfl
attribute [go_sem] Tryz.underlying188 Tryz.stoodInHeld188 Tryz.eqGuardType188
@[go_sem] theorem ztZ:zaW jV 190 0=some (0,58):=by kernel_rfl
@[go_sem] theorem zt0:zbD jV 190 0=some (0,12):=by kernel_rfl
@[go_sem] theorem zt1:zaW jV 190 1=some (12,127):=by kernel_rfl
@[go_sem] theorem zt2:zbD jV 190 1=some (12,1):=by kernel_rfl
@[go_sem] theorem zt3:zaW jV 190 2=some (13,140):=by kernel_rfl
@[go_sem] theorem zt4:zbD jV 190 2=some (13,1):=by kernel_rfl
@[go_sem] theorem zt5:zaW jV 190 3=some (14,80):=by kernel_rfl
@[go_sem] theorem zt6:zbD jV 190 3=some (14,1):=by kernel_rfl
@[go_sem] theorem zt7:zaW jV 190 4=some (15,35):=by kernel_rfl
@[go_sem] theorem zt8:zbD jV 190 4=some (15,1):=by kernel_rfl
@[go_sem] theorem zt9:zaW jV 190 5=some (16,35):=by kernel_rfl
@[go_sem] theorem zua:zbD jV 190 5=some (16,1):=by kernel_rfl
@[go_sem] theorem zub:zaW jV 190 6=some (17,137):=by kernel_rfl
@[go_sem] theorem zuc:zbD jV 190 6=some (17,2):=by kernel_rfl
@[go_sem] theorem zud:zaW jV 190 7=some (19,4):=by kernel_rfl
@[go_sem] theorem zue:zbD jV 190 7=some (19,1):=by kernel_rfl
attribute [go_sem] Tryz.underlying190 Tryz.stoodInHeld190 Tryz.eqGuardType190
@[go_sem] theorem zuf:zaW jV 191 0=some (0,58):=by kernel_rfl
@[go_sem] theorem zug:zbD jV 191 0=some (0,12):=by kernel_rfl
@[go_sem] theorem zuh:zaW jV 191 1=some (12,127):=by kernel_rfl
@[go_sem] theorem zui:zbD jV 191 1=some (12,1):=by kernel_rfl
@[go_sem] theorem zuj:zaW jV 191 2=some (13,140):=by kernel_rfl
@[go_sem] theorem zuk:zbD jV 191 2=some (13,1):=by kernel_rfl
@[go_sem] theorem zul:zaW jV 191 3=some (14,80):=by kernel_rfl
@[go_sem] theorem zum:zbD jV 191 3=some (14,1):=by kernel_rfl
@[go_sem] theorem zun:zaW jV 191 4=some (15,35):=by kernel_rfl
@[go_sem] theorem zuo:zbD jV 191 4=some (15,1):=by kernel_rfl
@[go_sem] theorem zup:zaW jV 191 5=some (16,35):=by kernel_rfl
@[go_sem] theorem zuq:zbD jV 191 5=some (16,1):=by kernel_rfl
@[go_sem] theorem zur:zaW jV 191 6=some (17,137):=by kernel_rfl
@[go_sem] theorem zus:zbD jV 191 6=some (17,2):=by kernel_rfl
@[go_sem] theorem zut:zaW jV 191 7=some (19,4):=by kernel_rfl
@[go_sem] theorem zuu:zbD jV 191 7=some (19,1):=by kernel_rfl
attribute [go_sem] Tryz.underlying191 Tryz.stoodInHeld191 Tryz.eqGuardType191
@[go_sem] theorem zuv:zaW jV 202 0=some (0,117):=by kernel_rfl
@[go_sem] theorem zuw:zbD jV 202 0=some (0,1):=by kernel_rfl
@[go_sem] theorem zux:zaW jV 202 1=some (1,35):=by kernel_rfl
@[go_sem] theorem zuy:zbD jV 202 1=some (1,1):=by kernel_rfl
@[go_sem] theorem zuz:zaW jV 202 2=some (2,201):=by kernel_rfl
@[go_sem] theorem zuA:zbD jV 202 2=some (2,1):=by kernel_rfl
attribute [go_sem] Tryz.underlying202 Tryz.stoodInHeld202 Tryz.eqGuardType202
@[go_sem] theorem zuB:zaW jV 203 0=some (0,117):=by kernel_rfl
@[go_sem] theorem zuC:zbD jV 203 0=some (0,1):=by kernel_rfl
@[go_sem] theorem zuD:zaW jV 203 1=some (1,35):=by kernel_rfl
@[go_sem] theorem zuE:zbD jV 203 1=some (1,1):=by kernel_rfl
@[go_sem] theorem zuF:zaW jV 203 2=some (2,201):=by kernel_rfl
@[go_sem] theorem zuG:zbD jV 203 2=some (2,1):=by kernel_rfl
attribute [go_sem] Tryz.underlying203 Tryz.stoodInHeld203 Tryz.eqGuardType203
@[go_sem] theorem zuH:zaW jV 215 0=some (0,9):=by kernel_rfl
@[go_sem] theorem zuI:zbD jV 215 0=some (0,1):=by kernel_rfl
@[go_sem] theorem zuJ:zaW jV 215 1=some (1,4):=by kernel_rfl
@[go_sem] theorem zuK:zbD jV 215 1=some (1,1):=by kernel_rfl
attribute [go_sem] Tryz.underlying215 Tryz.stoodInHeld215 Tryz.eqGuardType215
@[go_sem] theorem zuL:zaW jV 216 0=some (0,9):=by kernel_rfl
@[go_sem] theorem zuM:zbD jV 216 0=some (0,1):=by kernel_rfl
@[go_sem] theorem zuN:zaW jV 216 1=some (1,4):=by kernel_rfl
@[go_sem] theorem zuO:zbD jV 216 1=some (1,1):=by kernel_rfl
attribute [go_sem] Tryz.underlying216 Tryz.stoodInHeld216 Tryz.eqGuardType216
@[go_sem] theorem zuP:zaW jV 220 0=some (0,58):=by kernel_rfl
@[go_sem] theorem zuQ:zbD jV 220 0=some (0,12):=by kernel_rfl
@[go_sem] theorem zuR:zaW jV 220 1=some (12,127):=by kernel_rfl
@[go_sem] theorem zuS:zbD jV 220 1=some (12,1):=by kernel_rfl
@[go_sem] theorem zuT:zaW jV 220 2=some (13,218):=by kernel_rfl
@[go_sem] theorem zuU:zbD jV 220 2=some (13,1):=by kernel_rfl
@[go_sem] theorem zuV:zaW jV 220 3=some (14,35):=by kernel_rfl
@[go_sem] theorem zuW:zbD jV 220 3=some (14,1):=by kernel_rfl
@[go_sem] theorem zuX:zaW jV 220 4=some (15,35):=by kernel_rfl
@[go_sem] theorem zuY:zbD jV 220 4=some (15,1):=by kernel_rfl
@[go_sem] theorem zuZ:zaW jV 220 5=some (16,3):=by kernel_rfl
@[go_sem] theorem zu0:zbD jV 220 5=some (16,1):=by kernel_rfl
@[go_sem] theorem zu1:zaW jV 220 6=some (17,4):=by kernel_rfl
@[go_sem] theorem zu2:zbD jV 220 6=some (17,1):=by kernel_rfl
attribute [go_sem] Tryz.underlying220 Tryz.stoodInHeld220 Tryz.eqGuardType220
@[go_sem] theorem zu3:zaW jV 221 0=some (0,58):=by kernel_rfl
@[go_sem] theorem zu4:zbD jV 221 0=some (0,12):=by kernel_rfl
@[go_sem] theorem zu5:zaW jV 221 1=some (12,127):=by kernel_rfl
@[go_sem] theorem zu6:zbD jV 221 1=some (12,1):=by kernel_rfl
@[go_sem] theorem zu7:zaW jV 221 2=some (13,218):=by kernel_rfl
@[go_sem] theorem zu8:zbD jV 221 2=some (13,1):=by kernel_rfl
@[go_sem] theorem zu9:zaW jV 221 3=some (14,35):=by kernel_rfl
@[go_sem] theorem zva:zbD jV 221 3=some (14,1):=by kernel_rfl
@[go_sem] theorem zvb:zaW jV 221 4=some (15,35):=by kernel_rfl
@[go_sem] theorem zvc:zbD jV 221 4=some (15,1):=by kernel_rfl
@[go_sem] theorem zvd:zaW jV 221 5=some (16,3):=by kernel_rfl
@[go_sem] theorem zve:zbD jV 221 5=some (16,1):=by kernel_rfl
@[go_sem] theorem zvf:zaW jV 221 6=some (17,4):=by kernel_rfl
@[go_sem] theorem zvg:zbD jV 221 6=some (17,1):=by kernel_rfl
attribute [go_sem] Tryz.underlying221 Tryz.stoodInHeld221 Tryz.eqGuardType221
@[go_sem] theorem zvh:zaW jV 224 0=some (0,3):=by kernel_rfl
@[go_sem] theorem zvi:zbD jV 224 0=some (0,1):=by kernel_rfl
@[go_sem] theorem zvj:zaW jV 224 1=some (1,3):=by kernel_rfl
@[go_sem] theorem zvk:zbD jV 224 1=some (1,1):=by kernel_rfl
@[go_sem] theorem zvl:zaW jV 224 2=some (2,3):=by kernel_rfl
@[go_sem] theorem zvm:zbD jV 224 2=some (2,1):=by kernel_rfl
attribute [go_sem] Tryz.underlying224 Tryz.stoodInHeld224 Tryz.eqGuardType224
@[go_sem] theorem zvn:zaW jV 225 0=some (0,3):=by kernel_rfl
@[go_sem] theorem zvo:zbD jV 225 0=some (0,1):=by kernel_rfl
@[go_sem] theorem zvp:zaW jV 225 1=some (1,3):=by kernel_rfl
@[go_sem] theorem zvq:zbD jV 225 1=some (1,1):=by kernel_rfl
@[go_sem] theorem zvr:zaW jV 225 2=some (2,3):=by kernel_rfl
@[go_sem] theorem zvs:zbD jV 225 2=some (2,1):=by kernel_rfl
attribute [go_sem] Tryz.underlying225 Tryz.stoodInHeld225 Tryz.eqGuardType225
@[go_sem] theorem zvt:zaW jV 227 0=some (0,3):=by kernel_rfl
@[go_sem] theorem zvu:zbD jV 227 0=some (0,1):=by kernel_rfl
@[go_sem] theorem zvv:zaW jV 227 1=some (1,3):=by kernel_rfl
@[go_sem] theorem zvw:zbD jV 227 1=some (1,1):=by kernel_rfl
@[go_sem] theorem zvx:zaW jV 227 2=some (2,3):=by kernel_rfl
@[go_sem] theorem zvy:zbD jV 227 2=some (2,1):=by kernel_rfl
attribute [go_sem] Tryz.underlying227 Tryz.stoodInHeld227 Tryz.eqGuardType227
@[go_sem] theorem zvz:zaW jV 228 0=some (0,9):=by kernel_rfl
@[go_sem] theorem zvA:zbD jV 228 0=some (0,1):=by kernel_rfl
@[go_sem] theorem zvB:zaW jV 228 1=some (1,4):=by kernel_rfl
@[go_sem] theorem zvC:zbD jV 228 1=some (1,1):=by kernel_rfl
attribute [go_sem] Tryz.underlying228 Tryz.stoodInHeld228 Tryz.eqGuardType228
@[go_sem] theorem zvD:zaW jV 230 0=some (0,3):=by kernel_rfl
@[go_sem] theorem zvE:zbD jV 230 0=some (0,1):=by kernel_rfl
@[go_sem] theorem zvF:zaW jV 230 1=some (1,3):=by kernel_rfl
@[go_sem] theorem zvG:zbD jV 230 1=some (1,1):=by kernel_rfl
@[go_sem] theorem zvH:zaW jV 230 2=some (2,3):=by kernel_rfl
@[go_sem] theorem zvI:zbD jV 230 2=some (2,1):=by kernel_rfl
@[go_sem] theorem zvJ:zaW jV 230 3=some (3,3):=by kernel_rfl
@[go_sem] theorem zvK:zbD jV 230 3=some (3,1):=by kernel_rfl
@[go_sem] theorem zvL:zaW jV 230 4=some (4,4):=by kernel_rfl
@[go_sem] theorem zvM:zbD jV 230 4=some (4,1):=by kernel_rfl
attribute [go_sem] Tryz.underlying230 Tryz.stoodInHeld230 Tryz.eqGuardType230
@[go_sem] theorem zvN:zaW jV 231 0=some (0,3):=by kernel_rfl
@[go_sem] theorem zvO:zbD jV 231 0=some (0,1):=by kernel_rfl
@[go_sem] theorem zvP:zaW jV 231 1=some (1,3):=by kernel_rfl
@[go_sem] theorem zvQ:zbD jV 231 1=some (1,1):=by kernel_rfl
@[go_sem] theorem zvR:zaW jV 231 2=some (2,3):=by kernel_rfl
@[go_sem] theorem zvS:zbD jV 231 2=some (2,1):=by kernel_rfl
@[go_sem] theorem zvT:zaW jV 231 3=some (3,3):=by kernel_rfl
@[go_sem] theorem zvU:zbD jV 231 3=some (3,1):=by kernel_rfl
@[go_sem] theorem zvV:zaW jV 231 4=some (4,4):=by kernel_rfl
@[go_sem] theorem zvW:zbD jV 231 4=some (4,1):=by kernel_rfl
attribute [go_sem] Tryz.underlying231 Tryz.stoodInHeld231 Tryz.eqGuardType231
@[go_sem] theorem zvX:zaW jV 233 0=some (0,3):=by kernel_rfl
@[go_sem] theorem zvY:zbD jV 233 0=some (0,1):=by kernel_rfl
@[go_sem] theorem zvZ:zaW jV 233 1=some (1,3):=by kernel_rfl
@[go_sem] theorem zv0:zbD jV 233 1=some (1,1):=by kernel_rfl
@[go_sem] theorem zv1:zaW jV 233 2=some (2,3):=by kernel_rfl
@[go_sem] theorem zv2:zbD jV 233 2=some (2,1):=by kernel_rfl
@[go_sem] theorem zv3:zaW jV 233 3=some (3,3):=by kernel_rfl
@[go_sem] theorem zv4:zbD jV 233 3=some (3,1):=by kernel_rfl
@[go_sem] theorem zv5:zaW jV 233 4=some (4,4):=by kernel_rfl
@[go_sem] theorem zv6:zbD jV 233 4=some (4,1):=by kernel_rfl
attribute [go_sem] Tryz.underlying233 Tryz.stoodInHeld233 Tryz.eqGuardType233
@[go_sem] theorem zv7:zaW jV 264 0=some (0,3):=by kernel_rfl
@[go_sem] theorem zv8:zbD jV 264 0=some (0,1):=by kernel_rfl
@[go_sem] theorem zv9:zaW jV 264 1=some (1,3):=by kernel_rfl
@[go_sem] theorem zwa:zbD jV 264 1=some (1,1):=by kernel_rfl
@[go_sem] theorem zwb:zaW jV 264 2=some (2,3):=by kernel_rfl
@[go_sem] theorem zwc:zbD jV 264 2=some (2,1):=by kernel_rfl
@[go_sem] theorem zwd:zaW jV 264 3=some (3,3):=by kernel_rfl
@[go_sem] theorem zwe:zbD jV 264 3=some (3,1):=by kernel_rfl
attribute [go_sem] Tryz.underlying264 Tryz.stoodInHeld264 Tryz.eqGuardType264
@[go_sem] theorem zwf:zaW jV 265 0=some (0,3):=by kernel_rfl
@[go_sem] theorem zwg:zbD jV 265 0=some (0,1):=by kernel_rfl
@[go_sem] theorem zwh:zaW jV 265 1=some (1,3):=by kernel_rfl
@[go_sem] theorem zwi:zbD jV 265 1=some (1,1):=by kernel_rfl
@[go_sem] theorem zwj:zaW jV 265 2=some (2,3):=by kernel_rfl
@[go_sem] theorem zwk:zbD jV 265 2=some (2,1):=by kernel_rfl
@[go_sem] theorem zwl:zaW jV 265 3=some (3,3):=by kernel_rfl
@[go_sem] theorem zwm:zbD jV 265 3=some (3,1):=by kernel_rfl
attribute [go_sem] Tryz.underlying265 Tryz.stoodInHeld265 Tryz.eqGuardType265
@[go_sem] theorem zwn:zaW jV 274 0=some (0,3):=by kernel_rfl
@[go_sem] theorem zwo:zbD jV 274 0=some (0,1):=by kernel_rfl
@[go_sem] theorem zwp:zaW jV 274 1=some (1,3):=by kernel_rfl
@[go_sem] theorem zwq:zbD jV 274 1=some (1,1):=by kernel_rfl
@[go_sem] theorem zwr:zaW jV 274 2=some (2,3):=by kernel_rfl
@[go_sem] theorem zws:zbD jV 274 2=some (2,1):=by kernel_rfl
attribute [go_sem] Tryz.underlying274 Tryz.stoodInHeld274 Tryz.eqGuardType274
@[go_sem] theorem zwt:zaW jV 275 0=some (0,3):=by kernel_rfl
@[go_sem] theorem zwu:zbD jV 275 0=some (0,1):=by kernel_rfl
@[go_sem] theorem zwv:zaW jV 275 1=some (1,3):=by kernel_rfl
@[go_sem] theorem zww:zbD jV 275 1=some (1,1):=by kernel_rfl
@[go_sem] theorem zwx:zaW jV 275 2=some (2,3):=by kernel_rfl
@[go_sem] theorem zwy:zbD jV 275 2=some (2,1):=by kernel_rfl
attribute [go_sem] Tryz.underlying275 Tryz.stoodInHeld275 Tryz.eqGuardType275
@[go_sem] theorem zwz:zaW jV 277 0=some (0,3):=by kernel_rfl
@[go_sem] theorem zwA:zbD jV 277 0=some (0,1):=by kernel_rfl
@[go_sem] theorem zwB:zaW jV 277 1=some (1,3):=by kernel_rfl
@[go_sem] theorem zwC:zbD jV 277 1=some (1,1):=by kernel_rfl
@[go_sem] theorem zwD:zaW jV 277 2=some (2,3):=by kernel_rfl
@[go_sem] theorem zwE:zbD jV 277 2=some (2,1):=by kernel_rfl
attribute [go_sem] Tryz.underlying277 Tryz.stoodInHeld277 Tryz.eqGuardType277
@[go_sem] theorem zwF:zbD jV 292 0=some (0,1):=by kernel_rfl
@[go_sem] theorem zwG:zbD jV 292 1=some (1,1):=by kernel_rfl
@[go_sem] theorem zwH:zbD jV 292 2=some (2,1):=by kernel_rfl
@[go_sem] theorem zwI:zbD jV 292 3=some (3,1):=by kernel_rfl
@[go_sem] theorem zwJ:zbD jV 292 4=some (4,1):=by kernel_rfl
@[go_sem] theorem zwK:zbD jV 292 5=some (5,1):=by kernel_rfl
@[go_sem] theorem zwL:zbD jV 292 6=some (6,1):=by kernel_rfl
@[go_sem] theorem zwM:zbD jV 292 7=some (7,1):=by kernel_rfl
@[go_sem] theorem zwN:zaW jV 307 0=some (0,3):=by kernel_rfl
@[go_sem] theorem zwO:zbD jV 307 0=some (0,1):=by kernel_rfl
@[go_sem] theorem zwP:zaW jV 307 1=some (1,3):=by kernel_rfl
@[go_sem] theorem zwQ:zbD jV 307 1=some (1,1):=by kernel_rfl
attribute [go_sem] Tryz.underlying307 Tryz.stoodInHeld307 Tryz.eqGuardType307
@[go_sem] theorem zwR:zaW jV 308 0=some (0,3):=by kernel_rfl
@[go_sem] theorem zwS:zbD jV 308 0=some (0,1):=by kernel_rfl
@[go_sem] theorem zwT:zaW jV 308 1=some (1,3):=by kernel_rfl
@[go_sem] theorem zwU:zbD jV 308 1=some (1,1):=by kernel_rfl
attribute [go_sem] Tryz.underlying308 Tryz.stoodInHeld308 Tryz.eqGuardType308
@[go_sem] theorem zwV:zaW jV 322 0=some (0,318):=by kernel_rfl
@[go_sem] theorem zwW:zbD jV 322 0=some (0,1):=by kernel_rfl
@[go_sem] theorem zwX:zaW jV 322 1=some (1,3):=by kernel_rfl
@[go_sem] theorem zwY:zbD jV 322 1=some (1,1):=by kernel_rfl
@[go_sem] theorem zwZ:zaW jV 322 2=some (2,318):=by kernel_rfl
@[go_sem] theorem zw0:zbD jV 322 2=some (2,1):=by kernel_rfl
@[go_sem] theorem zw1:zaW jV 322 3=some (3,35):=by kernel_rfl
@[go_sem] theorem zw2:zbD jV 322 3=some (3,1):=by kernel_rfl
attribute [go_sem] Tryz.underlying322 Tryz.stoodInHeld322 Tryz.eqGuardType322
@[go_sem] theorem zw3:zaW jV 323 0=some (0,318):=by kernel_rfl
@[go_sem] theorem zw4:zbD jV 323 0=some (0,1):=by kernel_rfl
@[go_sem] theorem zw5:zaW jV 323 1=some (1,3):=by kernel_rfl
@[go_sem] theorem zw6:zbD jV 323 1=some (1,1):=by kernel_rfl
@[go_sem] theorem zw7:zaW jV 323 2=some (2,318):=by kernel_rfl
@[go_sem] theorem zw8:zbD jV 323 2=some (2,1):=by kernel_rfl
@[go_sem] theorem zw9:zaW jV 323 3=some (3,35):=by kernel_rfl
@[go_sem] theorem zxa:zbD jV 323 3=some (3,1):=by kernel_rfl
attribute [go_sem] Tryz.underlying323 Tryz.stoodInHeld323 Tryz.eqGuardType323
set_option maxHeartbeats 1000000
theorem zzl (n lo hi:Int) (h:Hp):Ct jV 151 [.int .i64 n,.int .i64 lo,.int .i64 hi] h fun v h'=>v=.bool (decide (lo≤n) && decide (n≤hi))∧h'=h:=by
 refine zdn (fun A W=>by simp) Tryz.func151 rfl rfl (by simp) fun W0=>?_
 exact Wk0
theorem zzm (n:Int) (h:Hp):Ct jV 150 [.int .i64 n] h fun v h'=>v=.bool (decide (0≤n) && decide (n≤2880))∧h'=h:=by
 refine zdn (fun A W=>by simp) Tryz.func150 rfl rfl (by simp) fun W0=>?_
 repeat' first|refine Wa ?_|refine zhF (fun _=>zzl _ _ _ _) ?_|(simp only [go_sem,jq,jj,jy,jv,jk,jx];try rfl)|refine Wb ?_|fail
theorem zzn (n m:Int) (h:Hp):Ct jV 104 [.int .i64 n,.int .i64 m] h fun v h'=>v=.bool (decide (0≤n) && decide (n < m))∧h'=h:=by
 refine zdn (fun A W=>by simp) Tryz.func104 rfl rfl (by simp) fun W0=>?_
 exact Wk0
theorem zzo (s:Sl DPassage):Con.con s=s.l:=List.map_id _
theorem zON (n:Int):zaH jV 3 (.int .i64 n)=True:=by
 simp only [zaH,Tryz.underlying3,Value.isI]
theorem zOO (p q:DPassage):(!(p.ship == q.ship && (p.seg == q.seg && (p.toward == q.toward && (p.start == q.start && p.fin == q.fin)))))=!decide (p=q):=by
 congr 1
 rw [Bool.eq_iff_iff]
 simp only [jJ,beq_iff_eq,decide_eq_true_eq]
 cases p;cases q;simp only [DPassage.mk.injEq]
theorem zOP (a b:Sl DPassage) (h:Hp) (ha:a.Ok h) (hb:b.Ok h):Ct jV 207 [a.val,b.val] h fun v h'=>v=.bool (decide (a.l=b.l))∧h'=h:=by
 have hl:=ha.max
 refine zdn (fun A W=>by simp) Tryz.func207 rfl rfl (by simp) fun W0=>?_
 refine Wk ?_
 refine zc9 rfl (fun hc=>?_) (fun hc=>?_)
 ·refine Wk ?_
  exact zjF fun e=>zjD hc (by rw [e])
 have hlen:a.l.length=b.l.length:=by have:=zjE hc;omega
 refine Wk ?_
 refine zde (ι:=Nat) (fun k=>⟨[(0,true,.c (.v a.val)),(1,true,.c (.v b.val)),(12,true,.c (.v (.int .i64 a.l.length))),(13,true,.c (.v (.int .i64 k)))],[],h,0⟩) (fun k=>k≤a.l.length∧a.l.take k=b.l.take k) (fun k=>a.l.length - k) 0 ⟨Nat.zero_le _,rfl⟩ ?_ ?_
 ·refine Evs ?_
  rfl
 intro k hk
 refine Wk ?_
 refine zc9 rfl (fun hc=>?_) (fun hc=>?_)
 ·have hlt:=zjH hc
  have hlt':k < b.l.length:=by omega
  refine Wk ?_
  refine zi8 rfl (by kernel_rfl) ?_
  simp (maxSteps:=2000000) only [go_sem,jq,jj,jy,jv,jk,jx,zkV ha hlt,ha.some hlt,zkV hb hlt',hb.some hlt',hlt,hlt',zON,String.reduceEq,not_false_eq_true,and_self,true_and]
  refine zc9 rfl (fun hd=>?_) (fun hd=>?_)
  ·refine Wk ?_
   refine zjF fun e=>?_
   rw [zOO] at hd
   exact of_decide_eq_false (by simpa using hd) (by simp only [e])
  ·refine Wk ?_
   rw [zOO] at hd
   exact ⟨k+1,⟨hlt,zjC hlt hlt' hk.2 (of_decide_eq_true (by simpa using hd))⟩,by omega,zjB (zjA hlt (by omega))⟩
 ·have hge:=zjI hc
  refine Wk ?_
  refine zjG ?_
  have:=hk.2
  rwa [List.take_of_length_le hge,List.take_of_length_le (by omega)] at this
def zOQ (a b:POption):Bool:=decide (a=b)
theorem zOR (a b:DOption):zOQ (Con.con a) (Con.con b)=decide (a.start=b.start∧a.arr=b.arr∧a.cost=b.cost∧a.pas.l=b.pas.l):=by
 unfold zOQ
 simp only [zkX,POption.mk.injEq,zOr,zzo]
theorem zOS (a b:DOption) (h:Hp) (ha:Enc.ok h a) (hb:Enc.ok h b):Ct jV 157 [a.v,b.v] h fun v h'=>v=.bool (zOQ (Con.con a) (Con.con b))∧h'=h:=by
 rw [zOR]
 refine zdn (fun A W=>by simp) Tryz.func157 rfl rfl (by simp) fun W0=>?_
 repeat' first|refine Wa ?_|refine zhF (fun _=>zOP _ _ _ ha.2.2.2 hb.2.2.2) ?_|(simp (maxSteps:=2000000) only [go_sem,jq,jj,jy,jv,jk,jx];try rfl)|refine Wb ?_|fail
 congr 1
 rw [Bool.eq_iff_iff]
 simp only [jJ,beq_iff_eq,decide_eq_true_eq,and_assoc]
theorem w64 (n:Int):IntKind.i64.wrap n=(n+9223372036854775808) % 18446744073709551616 - 9223372036854775808:=by rw [IntKind.wrap_i64]
def zzp (l:List POption):Int:=l.foldl (fun t o=>IntKind.i64.wrap (t+o.cost)) 0
theorem zzq (s:Sl DOption):zzp (Con.con s)=s.l.foldl (fun t o=>IntKind.i64.wrap (t+o.cost)) 0:=by rw [zkz,zzp,List.foldl_map];rfl
theorem zzr {α β:Type} (f:β→α→β) (b:β) {l:List α} {k:Nat} (hk:k < l.length):(l.take (k+1)).foldl f b=f ((l.take k).foldl f b) l[k]:=by
 rw [List.take_succ_eq_append_getElem hk,List.foldl_append];rfl
theorem zzs (a:Sl DOption) (h:Hp) (ha:a.Ok h):Ct jV 49 [a.val] h fun v h'=>v=.int .i64 (zzp (Con.con a))∧h'=h:=by
 have hl:=ha.max
 rw [zzq]
 refine zdn (fun A W=>by simp) Tryz.func49 rfl rfl (by simp) fun W0=>?_
 refine Wk ?_
 refine zde (ι:=Nat) (fun k=>⟨[(3,true,.c (.v (.int .i64 ((a.l.take k).foldl (fun t o=>IntKind.i64.wrap (t+o.cost)) 0)))),(6,true,.c (.v a.val)),(7,true,.c (.v (.int .i64 a.l.length))),(8,true,.c (.v (.int .i64 k)))],[],h,0⟩) (fun k=>k≤a.l.length) (fun k=>a.l.length - k) 0 (Nat.zero_le _) ?_ ?_
 ·refine Evs ?_
  exact ⟨rfl,rfl⟩
 intro k hk
 refine Wk ?_
 refine zc9 rfl (fun hd=>?_) (fun hd=>?_)
 ·have hlt:=zjH hd
  repeat' first|refine Wa ?_|(simp only [go_sem,jq,jj,jy,jv,jk,jx,zkZ ha hlt,ha.some hlt,hlt,jW];try rfl)|refine Wb ?_|fail
  exact ⟨k+1,hlt,by omega,zjB (by rw [zzr _ _ hlt]),zjB (zjA hlt (by omega))⟩
 ·have hge:=zjI hd
  refine Wk ?_
  rw [List.take_of_length_le hge]
def zzt (l:List Int):Nat→Int
 | 0=>-1
 | k+1=>if zzt l k < 0∨l.getD k 0 < l.getD (zzt l k).toNat 0 then k else zzt l k
theorem zzu (l:List Int):∀ k,(k=0∧zzt l k=-1)∨(0≤zzt l k∧zzt l k < k)
 | 0=>.inl ⟨rfl,rfl⟩
 | k+1=>by
  right
  simp only [zzt]
  rcases zzu l k with ⟨rfl,h⟩|h
  ·rw [h];simp
  ·split <;> omega
def zzv (l:List POption):Int:=zzt (l.map (·.cost)) l.length
theorem zzw (s:Sl DOption):zzv (Con.con s)=zzt (s.l.map (·.cost)) s.l.length:=by rw [zkz,zzv,List.map_map,List.length_map];rfl
theorem zzx {l:List DOption} {k:Nat} (hk:k < l.length):(l.map (·.cost)).getD k 0=l[k].cost:=by simp [List.getD_eq_getElem?_getD,hk]
theorem zM2 (a:Sl DOption) (h:Hp) (ha:a.Ok h):Ct jV 109 [a.val] h fun v h'=>v=.int .i64 (zzv (Con.con a))∧h'=h:=by
 have hl:=ha.max
 rw [zzw]
 refine zdn (fun A W=>by simp) Tryz.func109 rfl rfl (by simp) fun W0=>?_
 refine Wk ?_
 refine zde (ι:=Nat) (fun k=>⟨[(0,true,.c (.v a.val)),(3,true,.c (.v (.int .i64 (zzt (a.l.map (·.cost)) k)))),(6,true,.c (.v a.val)),(7,true,.c (.v (.int .i64 a.l.length))),(8,true,.c (.v (.int .i64 k)))],[],h,0⟩) (fun k=>k≤a.l.length) (fun k=>a.l.length - k) 0 (Nat.zero_le _) ?_ ?_
 ·refine Evs ?_
  exact ⟨rfl,rfl⟩
 intro k hk
 refine Wk ?_
 refine zc9 rfl (fun hd=>?_) (fun hd=>?_)
 ·have hlt:=zjH hd
  repeat' first|refine Wa ?_|(simp only [go_sem,jq,jj,jy,jv,jk,jx,zkZ ha hlt,ha.some hlt,hlt,jW];try rfl)|refine Wb ?_|fail
  have hstep:zzt (a.l.map (·.cost)) (k+1)=if zzt (a.l.map (·.cost)) k < 0∨(a.l.map (·.cost)).getD k 0 < (a.l.map (·.cost)).getD (zzt (a.l.map (·.cost)) k).toNat 0 then (k:Int) else zzt (a.l.map (·.cost)) k:=rfl
  rcases zzu (a.l.map (·.cost)) k with ⟨h0,hB⟩|⟨h0,hB⟩
  ·rw [hB] at hstep ⊢
   refine zi8 rfl (by kernel_rfl) ?_
   simp only [go_sem,jq,jj,jy,jv,jk,jx,Int.reduceNeg,Int.reduceLT,decide_true,Bool.not_true,Bool.false_eq_true,reduceCtorEq,false_implies,Bool.true_or]
   refine zc9 rfl (fun hq=>?_) (fun hq=>?_)
   ·refine Wk ?_
    exact ⟨k+1,hlt,by omega,zjB (by rw [hstep];simp),zjB (zjA hlt (by omega))⟩
   ·cases hq
  ·have hb:(zzt (a.l.map (·.cost)) k).toNat < a.l.length:=by omega
   have hnn:decide (zzt (a.l.map (·.cost)) k < 0)=false:=decide_eq_false (by omega)
   rw [zzx hlt,zzx hb] at hstep
   generalize zzt (a.l.map (·.cost)) k=B at *
   refine zi8 rfl (by kernel_rfl) ?_
   simp only [go_sem,jq,jj,jy,jv,jk,jx,hnn,h0,hb,zmQ ha hb,ha.some hb,Bool.not_false,Bool.false_or]
   refine ⟨fun _=>by omega,?_⟩
   refine zc9 rfl (fun hq=>?_) (fun hq=>?_)
   ·refine Wk ?_
    exact ⟨k+1,hlt,by omega,zjB (by rw [hstep,if_pos (((jQ _ _).mp hq).elim (fun e=>.inl (of_decide_eq_true e)) (fun e=>.inr (of_decide_eq_true e)))]),zjB (zjA hlt (by omega))⟩
   ·refine Wk ?_
    exact ⟨k+1,hlt,by omega,zjB (by rw [hstep,if_neg (fun e=>e.elim (by omega) (of_decide_eq_false (Bool.or_eq_false_iff.1 hq).2))]),zjB (zjA hlt (by omega))⟩
 ·have hge:=zjI hd
  refine Wk ?_
  rw [Nat.le_antisymm hk hge]
def In (n lo hi:Int):Bool:=decide (lo≤n) && decide (n≤hi)
def zzz (n:Int):Bool:=In n 4 2880 && (Int.tmod n 4 == 0)
theorem zzA (n:Int) (h:Hp):Ct jV 263 [.int .i64 n] h fun v h'=>v=.bool (zzz n)∧h'=h:=by
 refine zdn (fun A W=>by simp) Tryz.func263 rfl rfl (by simp) fun W0=>?_
 repeat' first|refine Wa ?_|refine zhF (fun _=>zzl _ _ _ _) ?_|(simp only [go_sem,jq,jj,jy,jv,jk,jx];try rfl)|refine Wb ?_|fail
 refine ⟨fun _ _=>by decide,?_⟩
 exact Wk0
def zzB (p:DPart):Bool:=In p.amp 0 1000 && zzz p.period && In p.phase 0 (p.period - 1)
theorem zzD (p:DPart) (h:Hp) (hp:Enc.ok h p):Ct jV 239 [p.v] h fun v h'=>v=.bool (zzB p)∧h'=h:=by
 have hw:=w64 (p.period - 1)
 refine zdn (fun A W=>by simp) Tryz.func239 rfl rfl (by simp) fun W0=>?_
 repeat' first|refine Wa ?_|refine zhF (fun _=>zzl _ _ _ _) ?_|refine zhF (fun _=>zzA _ _) ?_|(simp only [go_sem,jq,jj,jy,jv,jk,jx];try rfl)|refine Wb ?_|fail
 congr 1;rw [Bool.eq_iff_iff];simp only [zzB,zzz,In,jJ,jQ,Bool.not_eq_true',decide_eq_true_eq,decide_eq_false_iff_not,beq_iff_eq,and_assoc]
 rw [hw]
 constructor <;> intro h <;> omega
def zzE (s:DSurge):Bool:=In s.src 0 2880 && In s.low (-500) 500 && In s.high s.low 500
theorem zzG (p:DSurge) (h:Hp):Ct jV 193 [p.v] h fun v h'=>v=.bool (zzE p)∧h'=h:=by
 refine zdn (fun A W=>by simp) Tryz.func193 rfl rfl (by simp) fun W0=>?_
 repeat' first|refine Wa ?_|refine zhF (fun _=>zzm _ _) ?_|(simp only [go_sem,jq,jj,jy,jv,jk,jx];try rfl)|refine Wb ?_|fail
 congr 1;rw [Bool.eq_iff_iff];simp only [zzE,In,jJ,jQ,Bool.not_eq_true',decide_eq_true_eq,decide_eq_false_iff_not,beq_iff_eq,and_assoc]
 omega
def zzH (s:ByteArray) (k:Nat):Bool:=!(decide (97≤znu s k) && decide (znu s k≤122)) && (decide ((k:Int)=0) || decide (znu s k < 48) || decide (57 < znu s k))
def zzI (s:ByteArray):Bool:=decide (∀ i,i < s.size→zzH s i=false) && In s.size 1 8
theorem zzK (s:ByteArray) (h:Hp) (hs:zkA s):Ct jV 194 [.string s] h fun v h'=>v=.bool (zzI s)∧h'=h:=by
 have hmax:s.size≤9223372036854775807:=hs
 refine zdn (fun A W=>by simp) Tryz.func194 rfl rfl (by simp) fun W0=>?_
 repeat' first|refine Wa ?_|refine zhF (fun _=>zzl _ _ _ _) ?_|(simp only [go_sem,jq,jj,jy,jv,jk,jx];try rfl)|refine Wb ?_|fail
 refine zc9 rfl (fun hc=>?_) (fun hc=>?_)
 ·refine Wk ?_
  rw [Bool.not_eq_true'] at hc
  rw [zzI,In,hc,Bool.and_false]
 rw [Bool.not_eq_false'] at hc
 refine Wk ?_
 refine zde (ι:=Nat) (fun k=>⟨[(0,true,.c (.v (.string s))),(3,true,.c (.v (.int .i64 k)))],[],h,0⟩) (fun k=>k≤s.size∧∀ i,i < k→zzH s i=false) (fun k=>s.size - k) 0 ⟨Nat.zero_le _,fun i hi=>absurd hi (Nat.not_lt_zero _)⟩ ?_ ?_
 ·refine Evs ?_
  exact Gk
 intro k hk
 refine Wk ?_
 refine zc9 rfl (fun hd=>?_) (fun hd=>?_)
 ·have hlt:=zjH hd
  repeat' first|refine Wa ?_|(simp only [go_sem,jq,jj,jy,jv,jk,jx,hlt,jW];try rfl)|refine Wb ?_|fail
  refine zc9 rfl (fun hq=>?_) (fun hq=>?_)
  ·refine Wk ?_
   have:zzI s=false:=by
    rw [zzI,decide_eq_false (fun e=>?_),Bool.false_and]
    have:=e k hlt
    rw [show zzH s k=true from hq] at this
    cases this
   rw [this]
  ·refine Wk ?_
   refine ⟨k+1,⟨hlt,fun i hi=>?_⟩,by omega,zjB (zjA hlt (by omega))⟩
   rcases Nat.lt_succ_iff_lt_or_eq.1 hi with hi|rfl
   ·exact hk.2 i hi
   ·exact hq
 ·have hge:=zjI hd
  refine Wk ?_
  have:decide (∀ i,i < s.size→zzH s i=false)=true:=decide_eq_true (fun i hi=>hk.2 i (by omega))
  rw [zzI,this,Bool.true_and,In,hc]
def zzL {α:Type} (p:α→Bool) (l:List α):Int:=match l.findIdx? p with|some i=>i|none=>-1
theorem zzM {α:Type} {p:α→Bool} {l:List α} {k:Nat} (hk:k < l.length) (h:p l[k]=true) (hp:∀ i (hi:i < l.length),i < k→p l[i]=false):zzL p l=k:=by
 have:l.findIdx? p=some k:=by
  rw [List.findIdx?_eq_some_iff_getElem]
  exact ⟨hk,h,fun j hj=>by rw [hp j (by omega) hj];exact Bool.false_ne_true⟩
 rw [zzL,this]
theorem zzN {α:Type} {p:α→Bool} {l:List α} (hp:∀ i (hi:i < l.length),p l[i]=false):zzL p l=-1:=by
 have:l.findIdx? p=none:=by
  rw [List.findIdx?_eq_none_iff]
  intro x hx
  obtain ⟨i,hi,rfl⟩:=List.getElem_of_mem hx
  exact hp i hi
 rw [zzL,this]
end Go.Proofs.YtdejfjdbcggilaaGreat
