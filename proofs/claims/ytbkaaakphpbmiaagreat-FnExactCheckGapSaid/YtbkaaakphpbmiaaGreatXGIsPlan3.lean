/- What functions of the given program compute, each as a contract over what its arguments read as. No condition beside those that each theorem states. -/
import Derived.Test.YtbkaaakphpbmiaaGreatProg
import Derived.Test.YtbkaaakphpbmiaaGreatS2
set_option linter.unusedVariables false
set_option linter.unusedSimpArgs false
open Nat renaming reduceAdd → yqa, reduceMul → yqb, reduceBEq → yqc, reduceLeDiff → yqd, reduceLT → yqe, reduceEqDiff → yqf
open Bool renaming or_eq_false_iff → yqg, or_eq_true → yqh, and_eq_true → yqi
open Int renaming toNat_natCast → yqj, natCast_nonneg → yqk
namespace Go.Proofs.YtbkaaakphpbmiaaGreat
open Go Go.SL
@[go_sem] theorem ty_1:hasT Tryz.prog 1=true∧szT Tryz.prog 1=1∧Tryz.prog.bytesOf 1=8∧aggT Tryz.prog 1=false∧zaX Tryz.prog 1=none∧arrT Tryz.prog 1=none∧zbF Tryz.prog 1=some [.nilFunc]:=⟨by kernel_rfl,by kernel_rfl,by kernel_rfl,by kernel_rfl,by kernel_rfl,by kernel_rfl,by kernel_rfl⟩
@[go_sem] theorem ty_2:hasT Tryz.prog 2=true∧szT Tryz.prog 2=1∧Tryz.prog.bytesOf 2=8∧aggT Tryz.prog 2=false∧zaX Tryz.prog 2=none∧arrT Tryz.prog 2=none∧zbF Tryz.prog 2=some [.int .i64 0]∧intT Tryz.prog 2=some .i64:=⟨by kernel_rfl,by kernel_rfl,by kernel_rfl,by kernel_rfl,by kernel_rfl,by kernel_rfl,by kernel_rfl,by kernel_rfl⟩
attribute [go_sem] Tryz.underlying2
@[go_sem] theorem ty_3:hasT Tryz.prog 3=true∧szT Tryz.prog 3=1∧Tryz.prog.bytesOf 3=8∧aggT Tryz.prog 3=false∧zaX Tryz.prog 3=none∧arrT Tryz.prog 3=none∧zbF Tryz.prog 3=some [.int .i64 0]∧intT Tryz.prog 3=some .i64:=⟨by kernel_rfl,by kernel_rfl,by kernel_rfl,by kernel_rfl,by kernel_rfl,by kernel_rfl,by kernel_rfl,by kernel_rfl⟩
attribute [go_sem] Tryz.underlying3
@[go_sem] theorem ty_4:hasT Tryz.prog 4=true∧szT Tryz.prog 4=1∧Tryz.prog.bytesOf 4=1∧aggT Tryz.prog 4=false∧zaX Tryz.prog 4=none∧arrT Tryz.prog 4=none∧zbF Tryz.prog 4=some [.bool false]:=⟨by kernel_rfl,by kernel_rfl,by kernel_rfl,by kernel_rfl,by kernel_rfl,by kernel_rfl,by kernel_rfl⟩
attribute [go_sem] Tryz.underlying4
@[go_sem] theorem ty_5:hasT Tryz.prog 5=true∧szT Tryz.prog 5=1∧Tryz.prog.bytesOf 5=1∧aggT Tryz.prog 5=false∧zaX Tryz.prog 5=none∧arrT Tryz.prog 5=none∧zbF Tryz.prog 5=some [.int .u8 0]∧intT Tryz.prog 5=some .u8:=⟨by kernel_rfl,by kernel_rfl,by kernel_rfl,by kernel_rfl,by kernel_rfl,by kernel_rfl,by kernel_rfl,by kernel_rfl⟩
attribute [go_sem] Tryz.underlying5
@[go_sem] theorem ty_9:hasT Tryz.prog 9=true∧szT Tryz.prog 9=1∧Tryz.prog.bytesOf 9=16∧aggT Tryz.prog 9=false∧zaX Tryz.prog 9=none∧arrT Tryz.prog 9=none∧zbF Tryz.prog 9=some [.string ByteArray.empty]∧strT Tryz.prog 9=true:=⟨by kernel_rfl,by kernel_rfl,by kernel_rfl,by kernel_rfl,by kernel_rfl,by kernel_rfl,by kernel_rfl,by kernel_rfl⟩
attribute [go_sem] Tryz.underlying9
@[go_sem] theorem znV:hasT Tryz.prog 12=true∧szT Tryz.prog 12=1∧Tryz.prog.bytesOf 12=8∧aggT Tryz.prog 12=false∧zaX Tryz.prog 12=none∧arrT Tryz.prog 12=none∧zbF Tryz.prog 12=some [.int .u64 0]∧intT Tryz.prog 12=some .u64:=⟨by kernel_rfl,by kernel_rfl,by kernel_rfl,by kernel_rfl,by kernel_rfl,by kernel_rfl,by kernel_rfl,by kernel_rfl⟩
attribute [go_sem] Tryz.underlying12
@[go_sem] theorem znW:hasT Tryz.prog 22=true∧szT Tryz.prog 22=1∧Tryz.prog.bytesOf 22=24∧aggT Tryz.prog 22=false∧zaX Tryz.prog 22=some 312∧arrT Tryz.prog 22=none∧zbF Tryz.prog 22=some [.slice none 0 0]:=⟨by kernel_rfl,by kernel_rfl,by kernel_rfl,by kernel_rfl,by kernel_rfl,by kernel_rfl,by kernel_rfl⟩
@[go_sem] theorem znX:hasT Tryz.prog 23=true∧szT Tryz.prog 23=2∧Tryz.prog.bytesOf 23=32∧aggT Tryz.prog 23=true∧zaX Tryz.prog 23=none∧arrT Tryz.prog 23=none∧zbF Tryz.prog 23=some [.int .i64 0,.slice none 0 0]∧zbE Tryz.prog 23=true:=⟨by kernel_rfl,by kernel_rfl,by kernel_rfl,by kernel_rfl,by kernel_rfl,by kernel_rfl,by kernel_rfl,by kernel_rfl⟩
@[go_sem] theorem znY:hasT Tryz.prog 24=true∧szT Tryz.prog 24=2∧Tryz.prog.bytesOf 24=32∧aggT Tryz.prog 24=true∧zaX Tryz.prog 24=none∧arrT Tryz.prog 24=none∧zbF Tryz.prog 24=some [.int .i64 0,.slice none 0 0]∧zbE Tryz.prog 24=true:=⟨by kernel_rfl,by kernel_rfl,by kernel_rfl,by kernel_rfl,by kernel_rfl,by kernel_rfl,by kernel_rfl,by kernel_rfl⟩
@[go_sem] theorem znZ:hasT Tryz.prog 25=true∧szT Tryz.prog 25=1∧Tryz.prog.bytesOf 25=24∧aggT Tryz.prog 25=false∧zaX Tryz.prog 25=some 268∧arrT Tryz.prog 25=none∧zbF Tryz.prog 25=some [.slice none 0 0]:=⟨by kernel_rfl,by kernel_rfl,by kernel_rfl,by kernel_rfl,by kernel_rfl,by kernel_rfl,by kernel_rfl⟩
@[go_sem] theorem zn0:hasT Tryz.prog 26=true∧szT Tryz.prog 26=3∧Tryz.prog.bytesOf 26=56∧aggT Tryz.prog 26=true∧zaX Tryz.prog 26=none∧arrT Tryz.prog 26=none∧zbF Tryz.prog 26=some [.int .i64 0,.slice none 0 0,.slice none 0 0]∧zbE Tryz.prog 26=true:=⟨by kernel_rfl,by kernel_rfl,by kernel_rfl,by kernel_rfl,by kernel_rfl,by kernel_rfl,by kernel_rfl,by kernel_rfl⟩
@[go_sem] theorem zn1:hasT Tryz.prog 27=true∧szT Tryz.prog 27=3∧Tryz.prog.bytesOf 27=56∧aggT Tryz.prog 27=true∧zaX Tryz.prog 27=none∧arrT Tryz.prog 27=none∧zbF Tryz.prog 27=some [.int .i64 0,.slice none 0 0,.slice none 0 0]∧zbE Tryz.prog 27=true:=⟨by kernel_rfl,by kernel_rfl,by kernel_rfl,by kernel_rfl,by kernel_rfl,by kernel_rfl,by kernel_rfl,by kernel_rfl⟩
@[go_sem] theorem zn2:hasT Tryz.prog 28=true∧szT Tryz.prog 28=1∧Tryz.prog.bytesOf 28=24∧aggT Tryz.prog 28=false∧zaX Tryz.prog 28=some 265∧arrT Tryz.prog 28=none∧zbF Tryz.prog 28=some [.slice none 0 0]:=⟨by kernel_rfl,by kernel_rfl,by kernel_rfl,by kernel_rfl,by kernel_rfl,by kernel_rfl,by kernel_rfl⟩
@[go_sem] theorem zn3:hasT Tryz.prog 29=true∧szT Tryz.prog 29=1∧Tryz.prog.bytesOf 29=24∧aggT Tryz.prog 29=false∧zaX Tryz.prog 29=some 271∧arrT Tryz.prog 29=none∧zbF Tryz.prog 29=some [.slice none 0 0]:=⟨by kernel_rfl,by kernel_rfl,by kernel_rfl,by kernel_rfl,by kernel_rfl,by kernel_rfl,by kernel_rfl⟩
@[go_sem] theorem zn4:hasT Tryz.prog 30=true∧szT Tryz.prog 30=2∧Tryz.prog.bytesOf 30=48∧aggT Tryz.prog 30=true∧zaX Tryz.prog 30=none∧arrT Tryz.prog 30=none∧zbF Tryz.prog 30=some [.slice none 0 0,.slice none 0 0]∧zbE Tryz.prog 30=true:=⟨by kernel_rfl,by kernel_rfl,by kernel_rfl,by kernel_rfl,by kernel_rfl,by kernel_rfl,by kernel_rfl,by kernel_rfl⟩
@[go_sem] theorem zn5:hasT Tryz.prog 31=true∧szT Tryz.prog 31=2∧Tryz.prog.bytesOf 31=48∧aggT Tryz.prog 31=true∧zaX Tryz.prog 31=none∧arrT Tryz.prog 31=none∧zbF Tryz.prog 31=some [.slice none 0 0,.slice none 0 0]∧zbE Tryz.prog 31=true:=⟨by kernel_rfl,by kernel_rfl,by kernel_rfl,by kernel_rfl,by kernel_rfl,by kernel_rfl,by kernel_rfl,by kernel_rfl⟩
@[go_sem] theorem zn6:hasT Tryz.prog 32=true∧szT Tryz.prog 32=1∧Tryz.prog.bytesOf 32=24∧aggT Tryz.prog 32=false∧zaX Tryz.prog 32=some 197∧arrT Tryz.prog 32=none∧zbF Tryz.prog 32=some [.slice none 0 0]:=⟨by kernel_rfl,by kernel_rfl,by kernel_rfl,by kernel_rfl,by kernel_rfl,by kernel_rfl,by kernel_rfl⟩
@[go_sem] theorem zn7:hasT Tryz.prog 33=true∧szT Tryz.prog 33=2∧Tryz.prog.bytesOf 33=16∧aggT Tryz.prog 33=true∧zaX Tryz.prog 33=none∧arrT Tryz.prog 33=none∧zbF Tryz.prog 33=some [.int .i64 0,.bool false]∧zbE Tryz.prog 33=true:=⟨by kernel_rfl,by kernel_rfl,by kernel_rfl,by kernel_rfl,by kernel_rfl,by kernel_rfl,by kernel_rfl,by kernel_rfl⟩
@[go_sem] theorem zn8:hasT Tryz.prog 34=true∧szT Tryz.prog 34=2∧Tryz.prog.bytesOf 34=16∧aggT Tryz.prog 34=true∧zaX Tryz.prog 34=none∧arrT Tryz.prog 34=none∧zbF Tryz.prog 34=some [.int .i64 0,.bool false]∧zbE Tryz.prog 34=true:=⟨by kernel_rfl,by kernel_rfl,by kernel_rfl,by kernel_rfl,by kernel_rfl,by kernel_rfl,by kernel_rfl,by kernel_rfl⟩
@[go_sem] theorem zn9:hasT Tryz.prog 35=true∧szT Tryz.prog 35=1∧Tryz.prog.bytesOf 35=24∧aggT Tryz.prog 35=false∧zaX Tryz.prog 35=some 3∧arrT Tryz.prog 35=none∧zbF Tryz.prog 35=some [.slice none 0 0]:=⟨by kernel_rfl,by kernel_rfl,by kernel_rfl,by kernel_rfl,by kernel_rfl,by kernel_rfl,by kernel_rfl⟩
@[go_sem] theorem zoa:hasT Tryz.prog 36=true∧szT Tryz.prog 36=4∧Tryz.prog.bytesOf 36=48∧aggT Tryz.prog 36=true∧zaX Tryz.prog 36=none∧arrT Tryz.prog 36=none∧zbF Tryz.prog 36=some [.int .i64 0,.int .i64 0,.int .i64 0,.slice none 0 0]∧zbE Tryz.prog 36=true:=⟨by kernel_rfl,by kernel_rfl,by kernel_rfl,by kernel_rfl,by kernel_rfl,by kernel_rfl,by kernel_rfl,by kernel_rfl⟩
@[go_sem] theorem zob:hasT Tryz.prog 37=true∧szT Tryz.prog 37=4∧Tryz.prog.bytesOf 37=48∧aggT Tryz.prog 37=true∧zaX Tryz.prog 37=none∧arrT Tryz.prog 37=none∧zbF Tryz.prog 37=some [.int .i64 0,.int .i64 0,.int .i64 0,.slice none 0 0]∧zbE Tryz.prog 37=true:=⟨by kernel_rfl,by kernel_rfl,by kernel_rfl,by kernel_rfl,by kernel_rfl,by kernel_rfl,by kernel_rfl,by kernel_rfl⟩
@[go_sem] theorem zoc:hasT Tryz.prog 38=true∧szT Tryz.prog 38=12∧Tryz.prog.bytesOf 38=192∧aggT Tryz.prog 38=true∧zaX Tryz.prog 38=none∧arrT Tryz.prog 38=none∧zbF Tryz.prog 38=some [.int .i64 0,.slice none 0 0,.slice none 0 0,.slice none 0 0,.slice none 0 0,.slice none 0 0,.int .i64 0,.bool false,.int .i64 0,.int .i64 0,.int .i64 0,.slice none 0 0]∧zbE Tryz.prog 38=true:=⟨by kernel_rfl,by kernel_rfl,by kernel_rfl,by kernel_rfl,by kernel_rfl,by kernel_rfl,by kernel_rfl,by kernel_rfl⟩
@[go_sem] theorem zod:hasT Tryz.prog 39=true∧szT Tryz.prog 39=12∧Tryz.prog.bytesOf 39=192∧aggT Tryz.prog 39=true∧zaX Tryz.prog 39=none∧arrT Tryz.prog 39=none∧zbF Tryz.prog 39=some [.int .i64 0,.slice none 0 0,.slice none 0 0,.slice none 0 0,.slice none 0 0,.slice none 0 0,.int .i64 0,.bool false,.int .i64 0,.int .i64 0,.int .i64 0,.slice none 0 0]∧zbE Tryz.prog 39=true:=⟨by kernel_rfl,by kernel_rfl,by kernel_rfl,by kernel_rfl,by kernel_rfl,by kernel_rfl,by kernel_rfl,by kernel_rfl⟩
@[go_sem] theorem zoe:hasT Tryz.prog 40=true∧szT Tryz.prog 40=1∧Tryz.prog.bytesOf 40=24∧aggT Tryz.prog 40=false∧zaX Tryz.prog 40=some 77∧arrT Tryz.prog 40=none∧zbF Tryz.prog 40=some [.slice none 0 0]:=⟨by kernel_rfl,by kernel_rfl,by kernel_rfl,by kernel_rfl,by kernel_rfl,by kernel_rfl,by kernel_rfl⟩
@[go_sem] theorem zof:hasT Tryz.prog 48=true∧szT Tryz.prog 48=1∧Tryz.prog.bytesOf 48=24∧aggT Tryz.prog 48=false∧zaX Tryz.prog 48=some 297∧arrT Tryz.prog 48=none∧zbF Tryz.prog 48=some [.slice none 0 0]:=⟨by kernel_rfl,by kernel_rfl,by kernel_rfl,by kernel_rfl,by kernel_rfl,by kernel_rfl,by kernel_rfl⟩
@[go_sem] theorem zog:hasT Tryz.prog 49=true∧szT Tryz.prog 49=2∧Tryz.prog.bytesOf 49=32∧aggT Tryz.prog 49=true∧zaX Tryz.prog 49=none∧arrT Tryz.prog 49=none∧zbF Tryz.prog 49=some [.int .i64 0,.slice none 0 0]∧zbE Tryz.prog 49=true:=⟨by kernel_rfl,by kernel_rfl,by kernel_rfl,by kernel_rfl,by kernel_rfl,by kernel_rfl,by kernel_rfl,by kernel_rfl⟩
@[go_sem] theorem zoh:hasT Tryz.prog 50=true∧szT Tryz.prog 50=2∧Tryz.prog.bytesOf 50=32∧aggT Tryz.prog 50=true∧zaX Tryz.prog 50=none∧arrT Tryz.prog 50=none∧zbF Tryz.prog 50=some [.int .i64 0,.slice none 0 0]∧zbE Tryz.prog 50=true:=⟨by kernel_rfl,by kernel_rfl,by kernel_rfl,by kernel_rfl,by kernel_rfl,by kernel_rfl,by kernel_rfl,by kernel_rfl⟩
@[go_sem] theorem zoi:hasT Tryz.prog 51=true∧szT Tryz.prog 51=1∧Tryz.prog.bytesOf 51=24∧aggT Tryz.prog 51=false∧zaX Tryz.prog 51=some 125∧arrT Tryz.prog 51=none∧zbF Tryz.prog 51=some [.slice none 0 0]:=⟨by kernel_rfl,by kernel_rfl,by kernel_rfl,by kernel_rfl,by kernel_rfl,by kernel_rfl,by kernel_rfl⟩
@[go_sem] theorem zoj:hasT Tryz.prog 52=true∧szT Tryz.prog 52=3∧Tryz.prog.bytesOf 52=56∧aggT Tryz.prog 52=true∧zaX Tryz.prog 52=none∧arrT Tryz.prog 52=none∧zbF Tryz.prog 52=some [.int .i64 0,.slice none 0 0,.slice none 0 0]∧zbE Tryz.prog 52=true:=⟨by kernel_rfl,by kernel_rfl,by kernel_rfl,by kernel_rfl,by kernel_rfl,by kernel_rfl,by kernel_rfl,by kernel_rfl⟩
@[go_sem] theorem zok:hasT Tryz.prog 53=true∧szT Tryz.prog 53=3∧Tryz.prog.bytesOf 53=56∧aggT Tryz.prog 53=true∧zaX Tryz.prog 53=none∧arrT Tryz.prog 53=none∧zbF Tryz.prog 53=some [.int .i64 0,.slice none 0 0,.slice none 0 0]∧zbE Tryz.prog 53=true:=⟨by kernel_rfl,by kernel_rfl,by kernel_rfl,by kernel_rfl,by kernel_rfl,by kernel_rfl,by kernel_rfl,by kernel_rfl⟩
@[go_sem] theorem zol:hasT Tryz.prog 54=true∧szT Tryz.prog 54=1∧Tryz.prog.bytesOf 54=24∧aggT Tryz.prog 54=false∧zaX Tryz.prog 54=some 244∧arrT Tryz.prog 54=none∧zbF Tryz.prog 54=some [.slice none 0 0]:=⟨by kernel_rfl,by kernel_rfl,by kernel_rfl,by kernel_rfl,by kernel_rfl,by kernel_rfl,by kernel_rfl⟩
@[go_sem] theorem zom:hasT Tryz.prog 55=true∧szT Tryz.prog 55=1∧Tryz.prog.bytesOf 55=24∧aggT Tryz.prog 55=false∧zaX Tryz.prog 55=some 230∧arrT Tryz.prog 55=none∧zbF Tryz.prog 55=some [.slice none 0 0]:=⟨by kernel_rfl,by kernel_rfl,by kernel_rfl,by kernel_rfl,by kernel_rfl,by kernel_rfl,by kernel_rfl⟩
@[go_sem] theorem zon:hasT Tryz.prog 56=true∧szT Tryz.prog 56=2∧Tryz.prog.bytesOf 56=48∧aggT Tryz.prog 56=true∧zaX Tryz.prog 56=none∧arrT Tryz.prog 56=none∧zbF Tryz.prog 56=some [.slice none 0 0,.slice none 0 0]∧zbE Tryz.prog 56=true:=⟨by kernel_rfl,by kernel_rfl,by kernel_rfl,by kernel_rfl,by kernel_rfl,by kernel_rfl,by kernel_rfl,by kernel_rfl⟩
@[go_sem] theorem zoo:hasT Tryz.prog 57=true∧szT Tryz.prog 57=2∧Tryz.prog.bytesOf 57=48∧aggT Tryz.prog 57=true∧zaX Tryz.prog 57=none∧arrT Tryz.prog 57=none∧zbF Tryz.prog 57=some [.slice none 0 0,.slice none 0 0]∧zbE Tryz.prog 57=true:=⟨by kernel_rfl,by kernel_rfl,by kernel_rfl,by kernel_rfl,by kernel_rfl,by kernel_rfl,by kernel_rfl,by kernel_rfl⟩
@[go_sem] theorem zop:hasT Tryz.prog 58=true∧szT Tryz.prog 58=1∧Tryz.prog.bytesOf 58=24∧aggT Tryz.prog 58=false∧zaX Tryz.prog 58=some 157∧arrT Tryz.prog 58=none∧zbF Tryz.prog 58=some [.slice none 0 0]:=⟨by kernel_rfl,by kernel_rfl,by kernel_rfl,by kernel_rfl,by kernel_rfl,by kernel_rfl,by kernel_rfl⟩
@[go_sem] theorem zoq:hasT Tryz.prog 59=true∧szT Tryz.prog 59=2∧Tryz.prog.bytesOf 59=16∧aggT Tryz.prog 59=true∧zaX Tryz.prog 59=none∧arrT Tryz.prog 59=none∧zbF Tryz.prog 59=some [.int .i64 0,.bool false]∧zbE Tryz.prog 59=true:=⟨by kernel_rfl,by kernel_rfl,by kernel_rfl,by kernel_rfl,by kernel_rfl,by kernel_rfl,by kernel_rfl,by kernel_rfl⟩
@[go_sem] theorem zor:hasT Tryz.prog 60=true∧szT Tryz.prog 60=4∧Tryz.prog.bytesOf 60=48∧aggT Tryz.prog 60=true∧zaX Tryz.prog 60=none∧arrT Tryz.prog 60=none∧zbF Tryz.prog 60=some [.int .i64 0,.int .i64 0,.int .i64 0,.slice none 0 0]∧zbE Tryz.prog 60=true:=⟨by kernel_rfl,by kernel_rfl,by kernel_rfl,by kernel_rfl,by kernel_rfl,by kernel_rfl,by kernel_rfl,by kernel_rfl⟩
@[go_sem] theorem zos:hasT Tryz.prog 61=true∧szT Tryz.prog 61=12∧Tryz.prog.bytesOf 61=192∧aggT Tryz.prog 61=true∧zaX Tryz.prog 61=none∧arrT Tryz.prog 61=none∧zbF Tryz.prog 61=some [.int .i64 0,.slice none 0 0,.slice none 0 0,.slice none 0 0,.slice none 0 0,.slice none 0 0,.int .i64 0,.bool false,.int .i64 0,.int .i64 0,.int .i64 0,.slice none 0 0]∧zbE Tryz.prog 61=true:=⟨by kernel_rfl,by kernel_rfl,by kernel_rfl,by kernel_rfl,by kernel_rfl,by kernel_rfl,by kernel_rfl,by kernel_rfl⟩
@[go_sem] theorem zot:hasT Tryz.prog 62=true∧szT Tryz.prog 62=12∧Tryz.prog.bytesOf 62=192∧aggT Tryz.prog 62=true∧zaX Tryz.prog 62=none∧arrT Tryz.prog 62=none∧zbF Tryz.prog 62=some [.int .i64 0,.slice none 0 0,.slice none 0 0,.slice none 0 0,.slice none 0 0,.slice none 0 0,.int .i64 0,.bool false,.int .i64 0,.int .i64 0,.int .i64 0,.slice none 0 0]∧zbE Tryz.prog 62=true:=⟨by kernel_rfl,by kernel_rfl,by kernel_rfl,by kernel_rfl,by kernel_rfl,by kernel_rfl,by kernel_rfl,by kernel_rfl⟩
@[go_sem] theorem zou:hasT Tryz.prog 64=true∧szT Tryz.prog 64=1∧Tryz.prog.bytesOf 64=24∧aggT Tryz.prog 64=false∧zaX Tryz.prog 64=some 79∧arrT Tryz.prog 64=none∧zbF Tryz.prog 64=some [.slice none 0 0]:=⟨by kernel_rfl,by kernel_rfl,by kernel_rfl,by kernel_rfl,by kernel_rfl,by kernel_rfl,by kernel_rfl⟩
@[go_sem] theorem zov:hasT Tryz.prog 72=true∧szT Tryz.prog 72=1∧Tryz.prog.bytesOf 72=8∧aggT Tryz.prog 72=false∧zaX Tryz.prog 72=none∧arrT Tryz.prog 72=none∧zbF Tryz.prog 72=some [.nilFunc]:=⟨by kernel_rfl,by kernel_rfl,by kernel_rfl,by kernel_rfl,by kernel_rfl,by kernel_rfl,by kernel_rfl⟩
@[go_sem] theorem zow:hasT Tryz.prog 76=true∧szT Tryz.prog 76=5∧Tryz.prog.bytesOf 76=40∧aggT Tryz.prog 76=true∧zaX Tryz.prog 76=none∧arrT Tryz.prog 76=none∧zbF Tryz.prog 76=some [.int .i64 0,.int .i64 0,.int .i64 0,.int .i64 0,.int .i64 0]∧zbE Tryz.prog 76=true:=⟨by kernel_rfl,by kernel_rfl,by kernel_rfl,by kernel_rfl,by kernel_rfl,by kernel_rfl,by kernel_rfl,by kernel_rfl⟩
@[go_sem] theorem zox:hasT Tryz.prog 77=true∧szT Tryz.prog 77=5∧Tryz.prog.bytesOf 77=40∧aggT Tryz.prog 77=true∧zaX Tryz.prog 77=none∧arrT Tryz.prog 77=none∧zbF Tryz.prog 77=some [.int .i64 0,.int .i64 0,.int .i64 0,.int .i64 0,.int .i64 0]∧zbE Tryz.prog 77=true:=⟨by kernel_rfl,by kernel_rfl,by kernel_rfl,by kernel_rfl,by kernel_rfl,by kernel_rfl,by kernel_rfl,by kernel_rfl⟩
@[go_sem] theorem zoy:hasT Tryz.prog 79=true∧szT Tryz.prog 79=5∧Tryz.prog.bytesOf 79=40∧aggT Tryz.prog 79=true∧zaX Tryz.prog 79=none∧arrT Tryz.prog 79=none∧zbF Tryz.prog 79=some [.int .i64 0,.int .i64 0,.int .i64 0,.int .i64 0,.int .i64 0]∧zbE Tryz.prog 79=true:=⟨by kernel_rfl,by kernel_rfl,by kernel_rfl,by kernel_rfl,by kernel_rfl,by kernel_rfl,by kernel_rfl,by kernel_rfl⟩
@[go_sem] theorem zIr:hasT Tryz.prog 80=true∧szT Tryz.prog 80=1∧Tryz.prog.bytesOf 80=8∧aggT Tryz.prog 80=false∧zaX Tryz.prog 80=none∧arrT Tryz.prog 80=none∧zbF Tryz.prog 80=some [.nilFunc]:=⟨by kernel_rfl,by kernel_rfl,by kernel_rfl,by kernel_rfl,by kernel_rfl,by kernel_rfl,by kernel_rfl⟩
@[go_sem] theorem zoz:hasT Tryz.prog 82=true∧szT Tryz.prog 82=1∧Tryz.prog.bytesOf 82=24∧aggT Tryz.prog 82=false∧zaX Tryz.prog 82=some 222∧arrT Tryz.prog 82=none∧zbF Tryz.prog 82=some [.slice none 0 0]:=⟨by kernel_rfl,by kernel_rfl,by kernel_rfl,by kernel_rfl,by kernel_rfl,by kernel_rfl,by kernel_rfl⟩
@[go_sem] theorem zoA:hasT Tryz.prog 83=true∧szT Tryz.prog 83=4∧Tryz.prog.bytesOf 83=48∧aggT Tryz.prog 83=true∧zaX Tryz.prog 83=none∧arrT Tryz.prog 83=none∧zbF Tryz.prog 83=some [.int .i64 0,.int .i64 0,.int .i64 0,.slice none 0 0]∧zbE Tryz.prog 83=true:=⟨by kernel_rfl,by kernel_rfl,by kernel_rfl,by kernel_rfl,by kernel_rfl,by kernel_rfl,by kernel_rfl,by kernel_rfl⟩
@[go_sem] theorem zoB:hasT Tryz.prog 84=true∧szT Tryz.prog 84=4∧Tryz.prog.bytesOf 84=48∧aggT Tryz.prog 84=true∧zaX Tryz.prog 84=none∧arrT Tryz.prog 84=none∧zbF Tryz.prog 84=some [.int .i64 0,.int .i64 0,.int .i64 0,.slice none 0 0]∧zbE Tryz.prog 84=true:=⟨by kernel_rfl,by kernel_rfl,by kernel_rfl,by kernel_rfl,by kernel_rfl,by kernel_rfl,by kernel_rfl,by kernel_rfl⟩
@[go_sem] theorem zoC:hasT Tryz.prog 93=true∧szT Tryz.prog 93=1∧Tryz.prog.bytesOf 93=24∧aggT Tryz.prog 93=false∧zaX Tryz.prog 93=some 84∧arrT Tryz.prog 93=none∧zbF Tryz.prog 93=some [.slice none 0 0]:=⟨by kernel_rfl,by kernel_rfl,by kernel_rfl,by kernel_rfl,by kernel_rfl,by kernel_rfl,by kernel_rfl⟩
@[go_sem] theorem zHw:hasT Tryz.prog 101=true∧szT Tryz.prog 101=1∧Tryz.prog.bytesOf 101=24∧aggT Tryz.prog 101=false∧zaX Tryz.prog 101=some 248∧arrT Tryz.prog 101=none∧zbF Tryz.prog 101=some [.slice none 0 0]:=⟨by kernel_rfl,by kernel_rfl,by kernel_rfl,by kernel_rfl,by kernel_rfl,by kernel_rfl,by kernel_rfl⟩
@[go_sem] theorem zHx:hasT Tryz.prog 102=true∧szT Tryz.prog 102=4∧Tryz.prog.bytesOf 102=48∧aggT Tryz.prog 102=true∧zaX Tryz.prog 102=none∧arrT Tryz.prog 102=none∧zbF Tryz.prog 102=some [.int .i64 0,.int .i64 0,.int .i64 0,.slice none 0 0]∧zbE Tryz.prog 102=true:=⟨by kernel_rfl,by kernel_rfl,by kernel_rfl,by kernel_rfl,by kernel_rfl,by kernel_rfl,by kernel_rfl,by kernel_rfl⟩
@[go_sem] theorem zHy:hasT Tryz.prog 103=true∧szT Tryz.prog 103=4∧Tryz.prog.bytesOf 103=48∧aggT Tryz.prog 103=true∧zaX Tryz.prog 103=none∧arrT Tryz.prog 103=none∧zbF Tryz.prog 103=some [.int .i64 0,.int .i64 0,.int .i64 0,.slice none 0 0]∧zbE Tryz.prog 103=true:=⟨by kernel_rfl,by kernel_rfl,by kernel_rfl,by kernel_rfl,by kernel_rfl,by kernel_rfl,by kernel_rfl,by kernel_rfl⟩
@[go_sem] theorem zoD:hasT Tryz.prog 104=true∧szT Tryz.prog 104=1∧Tryz.prog.bytesOf 104=8∧aggT Tryz.prog 104=false∧zaX Tryz.prog 104=none∧arrT Tryz.prog 104=none∧zbF Tryz.prog 104=some [.nilFunc]:=⟨by kernel_rfl,by kernel_rfl,by kernel_rfl,by kernel_rfl,by kernel_rfl,by kernel_rfl,by kernel_rfl⟩
@[go_sem] theorem zUu:hasT Tryz.prog 108=true∧szT Tryz.prog 108=1∧Tryz.prog.bytesOf 108=24∧aggT Tryz.prog 108=false∧zaX Tryz.prog 108=some 103∧arrT Tryz.prog 108=none∧zbF Tryz.prog 108=some [.slice none 0 0]:=⟨by kernel_rfl,by kernel_rfl,by kernel_rfl,by kernel_rfl,by kernel_rfl,by kernel_rfl,by kernel_rfl⟩
@[go_sem] theorem zoE:hasT Tryz.prog 124=true∧szT Tryz.prog 124=3∧Tryz.prog.bytesOf 124=24∧aggT Tryz.prog 124=true∧zaX Tryz.prog 124=none∧arrT Tryz.prog 124=none∧zbF Tryz.prog 124=some [.int .i64 0,.int .i64 0,.int .i64 0]∧zbE Tryz.prog 124=true:=⟨by kernel_rfl,by kernel_rfl,by kernel_rfl,by kernel_rfl,by kernel_rfl,by kernel_rfl,by kernel_rfl,by kernel_rfl⟩
@[go_sem] theorem zoF:hasT Tryz.prog 125=true∧szT Tryz.prog 125=3∧Tryz.prog.bytesOf 125=24∧aggT Tryz.prog 125=true∧zaX Tryz.prog 125=none∧arrT Tryz.prog 125=none∧zbF Tryz.prog 125=some [.int .i64 0,.int .i64 0,.int .i64 0]∧zbE Tryz.prog 125=true:=⟨by kernel_rfl,by kernel_rfl,by kernel_rfl,by kernel_rfl,by kernel_rfl,by kernel_rfl,by kernel_rfl,by kernel_rfl⟩
@[go_sem] theorem zoG:hasT Tryz.prog 127=true∧szT Tryz.prog 127=3∧Tryz.prog.bytesOf 127=40∧aggT Tryz.prog 127=true∧zaX Tryz.prog 127=none∧arrT Tryz.prog 127=none∧zbF Tryz.prog 127=some [.int .i64 0,.int .i64 0,.slice none 0 0]∧zbE Tryz.prog 127=true:=⟨by kernel_rfl,by kernel_rfl,by kernel_rfl,by kernel_rfl,by kernel_rfl,by kernel_rfl,by kernel_rfl,by kernel_rfl⟩
@[go_sem] theorem zoH:hasT Tryz.prog 128=true∧szT Tryz.prog 128=3∧Tryz.prog.bytesOf 128=40∧aggT Tryz.prog 128=true∧zaX Tryz.prog 128=none∧arrT Tryz.prog 128=none∧zbF Tryz.prog 128=some [.int .i64 0,.int .i64 0,.slice none 0 0]∧zbE Tryz.prog 128=true:=⟨by kernel_rfl,by kernel_rfl,by kernel_rfl,by kernel_rfl,by kernel_rfl,by kernel_rfl,by kernel_rfl,by kernel_rfl⟩
@[go_sem] theorem zoI:hasT Tryz.prog 144=true∧szT Tryz.prog 144=1∧Tryz.prog.bytesOf 144=8∧aggT Tryz.prog 144=false∧zaX Tryz.prog 144=none∧arrT Tryz.prog 144=none∧zbF Tryz.prog 144=some [.nilFunc]:=⟨by kernel_rfl,by kernel_rfl,by kernel_rfl,by kernel_rfl,by kernel_rfl,by kernel_rfl,by kernel_rfl⟩
@[go_sem] theorem zoJ:hasT Tryz.prog 150=true∧szT Tryz.prog 150=1∧Tryz.prog.bytesOf 150=8∧aggT Tryz.prog 150=false∧zaX Tryz.prog 150=none∧arrT Tryz.prog 150=none∧zbF Tryz.prog 150=some [.nilFunc]:=⟨by kernel_rfl,by kernel_rfl,by kernel_rfl,by kernel_rfl,by kernel_rfl,by kernel_rfl,by kernel_rfl⟩
@[go_sem] theorem zoK:hasT Tryz.prog 156=true∧szT Tryz.prog 156=6∧Tryz.prog.bytesOf 156=56∧aggT Tryz.prog 156=true∧zaX Tryz.prog 156=none∧arrT Tryz.prog 156=none∧zbF Tryz.prog 156=some [.string ByteArray.empty,.int .i64 0,.int .i64 0,.int .i64 0,.int .i64 0,.bool false]∧zbE Tryz.prog 156=true:=⟨by kernel_rfl,by kernel_rfl,by kernel_rfl,by kernel_rfl,by kernel_rfl,by kernel_rfl,by kernel_rfl,by kernel_rfl⟩
@[go_sem] theorem zoL:hasT Tryz.prog 157=true∧szT Tryz.prog 157=6∧Tryz.prog.bytesOf 157=56∧aggT Tryz.prog 157=true∧zaX Tryz.prog 157=none∧arrT Tryz.prog 157=none∧zbF Tryz.prog 157=some [.string ByteArray.empty,.int .i64 0,.int .i64 0,.int .i64 0,.int .i64 0,.bool false]∧zbE Tryz.prog 157=true:=⟨by kernel_rfl,by kernel_rfl,by kernel_rfl,by kernel_rfl,by kernel_rfl,by kernel_rfl,by kernel_rfl,by kernel_rfl⟩
@[go_sem] theorem zoM:hasT Tryz.prog 159=true∧szT Tryz.prog 159=1∧Tryz.prog.bytesOf 159=24∧aggT Tryz.prog 159=false∧zaX Tryz.prog 159=some 4∧arrT Tryz.prog 159=none∧zbF Tryz.prog 159=some [.slice none 0 0]:=⟨by kernel_rfl,by kernel_rfl,by kernel_rfl,by kernel_rfl,by kernel_rfl,by kernel_rfl,by kernel_rfl⟩
@[go_sem] theorem zoN:hasT Tryz.prog 160=true∧szT Tryz.prog 160=1∧Tryz.prog.bytesOf 160=24∧aggT Tryz.prog 160=false∧zaX Tryz.prog 160=some 283∧arrT Tryz.prog 160=none∧zbF Tryz.prog 160=some [.slice none 0 0]:=⟨by kernel_rfl,by kernel_rfl,by kernel_rfl,by kernel_rfl,by kernel_rfl,by kernel_rfl,by kernel_rfl⟩
@[go_sem] theorem zoO:hasT Tryz.prog 161=true∧szT Tryz.prog 161=3∧Tryz.prog.bytesOf 161=72∧aggT Tryz.prog 161=true∧zaX Tryz.prog 161=none∧arrT Tryz.prog 161=none∧zbF Tryz.prog 161=some [.slice none 0 0,.slice none 0 0,.slice none 0 0]∧zbE Tryz.prog 161=true:=⟨by kernel_rfl,by kernel_rfl,by kernel_rfl,by kernel_rfl,by kernel_rfl,by kernel_rfl,by kernel_rfl,by kernel_rfl⟩
@[go_sem] theorem zoP:hasT Tryz.prog 162=true∧szT Tryz.prog 162=3∧Tryz.prog.bytesOf 162=72∧aggT Tryz.prog 162=true∧zaX Tryz.prog 162=none∧arrT Tryz.prog 162=none∧zbF Tryz.prog 162=some [.slice none 0 0,.slice none 0 0,.slice none 0 0]∧zbE Tryz.prog 162=true:=⟨by kernel_rfl,by kernel_rfl,by kernel_rfl,by kernel_rfl,by kernel_rfl,by kernel_rfl,by kernel_rfl,by kernel_rfl⟩
@[go_sem] theorem zoQ:hasT Tryz.prog 170=true∧szT Tryz.prog 170=1∧Tryz.prog.bytesOf 170=24∧aggT Tryz.prog 170=false∧zaX Tryz.prog 170=some 93∧arrT Tryz.prog 170=none∧zbF Tryz.prog 170=some [.slice none 0 0]:=⟨by kernel_rfl,by kernel_rfl,by kernel_rfl,by kernel_rfl,by kernel_rfl,by kernel_rfl,by kernel_rfl⟩
@[go_sem] theorem zoR:hasT Tryz.prog 173=true∧szT Tryz.prog 173=1∧Tryz.prog.bytesOf 173=8∧aggT Tryz.prog 173=false∧zaX Tryz.prog 173=none∧arrT Tryz.prog 173=none∧zbF Tryz.prog 173=some [.nilFunc]:=⟨by kernel_rfl,by kernel_rfl,by kernel_rfl,by kernel_rfl,by kernel_rfl,by kernel_rfl,by kernel_rfl⟩
@[go_sem] theorem zoS:hasT Tryz.prog 178=true∧szT Tryz.prog 178=1∧Tryz.prog.bytesOf 178=8∧aggT Tryz.prog 178=false∧zaX Tryz.prog 178=none∧arrT Tryz.prog 178=none∧zbF Tryz.prog 178=some [.nilFunc]:=⟨by kernel_rfl,by kernel_rfl,by kernel_rfl,by kernel_rfl,by kernel_rfl,by kernel_rfl,by kernel_rfl⟩
@[go_sem] theorem zoT:hasT Tryz.prog 192=true∧szT Tryz.prog 192=1∧Tryz.prog.bytesOf 192=8∧aggT Tryz.prog 192=false∧zaX Tryz.prog 192=none∧arrT Tryz.prog 192=none∧zbF Tryz.prog 192=some [.nilFunc]:=⟨by kernel_rfl,by kernel_rfl,by kernel_rfl,by kernel_rfl,by kernel_rfl,by kernel_rfl,by kernel_rfl⟩
@[go_sem] theorem zoU:hasT Tryz.prog 197=true∧szT Tryz.prog 197=6∧Tryz.prog.bytesOf 197=56∧aggT Tryz.prog 197=true∧zaX Tryz.prog 197=none∧arrT Tryz.prog 197=none∧zbF Tryz.prog 197=some [.string ByteArray.empty,.int .i64 0,.int .i64 0,.int .i64 0,.int .i64 0,.bool false]∧zbE Tryz.prog 197=true:=⟨by kernel_rfl,by kernel_rfl,by kernel_rfl,by kernel_rfl,by kernel_rfl,by kernel_rfl,by kernel_rfl,by kernel_rfl⟩
@[go_sem] theorem zoV:hasT Tryz.prog 204=true∧szT Tryz.prog 204=1∧Tryz.prog.bytesOf 204=8∧aggT Tryz.prog 204=false∧zaX Tryz.prog 204=none∧arrT Tryz.prog 204=none∧zbF Tryz.prog 204=some [.nilFunc]:=⟨by kernel_rfl,by kernel_rfl,by kernel_rfl,by kernel_rfl,by kernel_rfl,by kernel_rfl,by kernel_rfl⟩
@[go_sem] theorem zoW:hasT Tryz.prog 205=true∧szT Tryz.prog 205=1∧Tryz.prog.bytesOf 205=8∧aggT Tryz.prog 205=false∧zaX Tryz.prog 205=none∧arrT Tryz.prog 205=none∧zbF Tryz.prog 205=some [.nilFunc]:=⟨by kernel_rfl,by kernel_rfl,by kernel_rfl,by kernel_rfl,by kernel_rfl,by kernel_rfl,by kernel_rfl⟩
@[go_sem] theorem zoX:hasT Tryz.prog 221=true∧szT Tryz.prog 221=5∧Tryz.prog.bytesOf 221=40∧aggT Tryz.prog 221=true∧zaX Tryz.prog 221=none∧arrT Tryz.prog 221=none∧zbF Tryz.prog 221=some [.int .i64 0,.int .i64 0,.bool false,.int .i64 0,.int .i64 0]∧zbE Tryz.prog 221=true:=⟨by kernel_rfl,by kernel_rfl,by kernel_rfl,by kernel_rfl,by kernel_rfl,by kernel_rfl,by kernel_rfl,by kernel_rfl⟩
@[go_sem] theorem zoY:hasT Tryz.prog 222=true∧szT Tryz.prog 222=5∧Tryz.prog.bytesOf 222=40∧aggT Tryz.prog 222=true∧zaX Tryz.prog 222=none∧arrT Tryz.prog 222=none∧zbF Tryz.prog 222=some [.int .i64 0,.int .i64 0,.bool false,.int .i64 0,.int .i64 0]∧zbE Tryz.prog 222=true:=⟨by kernel_rfl,by kernel_rfl,by kernel_rfl,by kernel_rfl,by kernel_rfl,by kernel_rfl,by kernel_rfl,by kernel_rfl⟩
@[go_sem] theorem zoZ:hasT Tryz.prog 229=true∧szT Tryz.prog 229=5∧Tryz.prog.bytesOf 229=40∧aggT Tryz.prog 229=true∧zaX Tryz.prog 229=none∧arrT Tryz.prog 229=none∧zbF Tryz.prog 229=some [.int .i64 0,.int .i64 0,.int .i64 0,.int .i64 0,.bool false]∧zbE Tryz.prog 229=true:=⟨by kernel_rfl,by kernel_rfl,by kernel_rfl,by kernel_rfl,by kernel_rfl,by kernel_rfl,by kernel_rfl,by kernel_rfl⟩
@[go_sem] theorem zo0:hasT Tryz.prog 230=true∧szT Tryz.prog 230=5∧Tryz.prog.bytesOf 230=40∧aggT Tryz.prog 230=true∧zaX Tryz.prog 230=none∧arrT Tryz.prog 230=none∧zbF Tryz.prog 230=some [.int .i64 0,.int .i64 0,.int .i64 0,.int .i64 0,.bool false]∧zbE Tryz.prog 230=true:=⟨by kernel_rfl,by kernel_rfl,by kernel_rfl,by kernel_rfl,by kernel_rfl,by kernel_rfl,by kernel_rfl,by kernel_rfl⟩
@[go_sem] theorem zo1:hasT Tryz.prog 232=true∧szT Tryz.prog 232=1∧Tryz.prog.bytesOf 232=8∧aggT Tryz.prog 232=false∧zaX Tryz.prog 232=none∧arrT Tryz.prog 232=none∧zbF Tryz.prog 232=some [.nilFunc]:=⟨by kernel_rfl,by kernel_rfl,by kernel_rfl,by kernel_rfl,by kernel_rfl,by kernel_rfl,by kernel_rfl⟩
@[go_sem] theorem zo2:hasT Tryz.prog 241=true∧szT Tryz.prog 241=1∧Tryz.prog.bytesOf 241=8∧aggT Tryz.prog 241=false∧zaX Tryz.prog 241=none∧arrT Tryz.prog 241=none∧zbF Tryz.prog 241=some [.nilFunc]:=⟨by kernel_rfl,by kernel_rfl,by kernel_rfl,by kernel_rfl,by kernel_rfl,by kernel_rfl,by kernel_rfl⟩
@[go_sem] theorem zo3:hasT Tryz.prog 243=true∧szT Tryz.prog 243=2∧Tryz.prog.bytesOf 243=24∧aggT Tryz.prog 243=true∧zaX Tryz.prog 243=none∧arrT Tryz.prog 243=none∧zbF Tryz.prog 243=some [.string ByteArray.empty,.bool false]∧zbE Tryz.prog 243=true:=⟨by kernel_rfl,by kernel_rfl,by kernel_rfl,by kernel_rfl,by kernel_rfl,by kernel_rfl,by kernel_rfl,by kernel_rfl⟩
@[go_sem] theorem zo4:hasT Tryz.prog 244=true∧szT Tryz.prog 244=2∧Tryz.prog.bytesOf 244=24∧aggT Tryz.prog 244=true∧zaX Tryz.prog 244=none∧arrT Tryz.prog 244=none∧zbF Tryz.prog 244=some [.string ByteArray.empty,.bool false]∧zbE Tryz.prog 244=true:=⟨by kernel_rfl,by kernel_rfl,by kernel_rfl,by kernel_rfl,by kernel_rfl,by kernel_rfl,by kernel_rfl,by kernel_rfl⟩
@[go_sem] theorem zHz:hasT Tryz.prog 248=true∧szT Tryz.prog 248=5∧Tryz.prog.bytesOf 248=40∧aggT Tryz.prog 248=true∧zaX Tryz.prog 248=none∧arrT Tryz.prog 248=none∧zbF Tryz.prog 248=some [.int .i64 0,.int .i64 0,.bool false,.int .i64 0,.int .i64 0]∧zbE Tryz.prog 248=true:=⟨by kernel_rfl,by kernel_rfl,by kernel_rfl,by kernel_rfl,by kernel_rfl,by kernel_rfl,by kernel_rfl,by kernel_rfl⟩
@[go_sem] theorem zIy:hasT Tryz.prog 251=true∧szT Tryz.prog 251=1∧Tryz.prog.bytesOf 251=24∧aggT Tryz.prog 251=false∧zaX Tryz.prog 251=some 82∧arrT Tryz.prog 251=none∧zbF Tryz.prog 251=some [.slice none 0 0]:=⟨by kernel_rfl,by kernel_rfl,by kernel_rfl,by kernel_rfl,by kernel_rfl,by kernel_rfl,by kernel_rfl⟩
@[go_sem] theorem zo5:hasT Tryz.prog 255=true∧szT Tryz.prog 255=1∧Tryz.prog.bytesOf 255=24∧aggT Tryz.prog 255=false∧zaX Tryz.prog 255=some 308∧arrT Tryz.prog 255=none∧zbF Tryz.prog 255=some [.slice none 0 0]:=⟨by kernel_rfl,by kernel_rfl,by kernel_rfl,by kernel_rfl,by kernel_rfl,by kernel_rfl,by kernel_rfl⟩
@[go_sem] theorem zo6:hasT Tryz.prog 265=true∧szT Tryz.prog 265=2∧Tryz.prog.bytesOf 265=24∧aggT Tryz.prog 265=true∧zaX Tryz.prog 265=none∧arrT Tryz.prog 265=none∧zbF Tryz.prog 265=some [.string ByteArray.empty,.bool false]∧zbE Tryz.prog 265=true:=⟨by kernel_rfl,by kernel_rfl,by kernel_rfl,by kernel_rfl,by kernel_rfl,by kernel_rfl,by kernel_rfl,by kernel_rfl⟩
@[go_sem] theorem zo7:hasT Tryz.prog 268=true∧szT Tryz.prog 268=3∧Tryz.prog.bytesOf 268=24∧aggT Tryz.prog 268=true∧zaX Tryz.prog 268=none∧arrT Tryz.prog 268=none∧zbF Tryz.prog 268=some [.int .i64 0,.int .i64 0,.int .i64 0]∧zbE Tryz.prog 268=true:=⟨by kernel_rfl,by kernel_rfl,by kernel_rfl,by kernel_rfl,by kernel_rfl,by kernel_rfl,by kernel_rfl,by kernel_rfl⟩
@[go_sem] theorem zo8:hasT Tryz.prog 271=true∧szT Tryz.prog 271=5∧Tryz.prog.bytesOf 271=40∧aggT Tryz.prog 271=true∧zaX Tryz.prog 271=none∧arrT Tryz.prog 271=none∧zbF Tryz.prog 271=some [.int .i64 0,.int .i64 0,.int .i64 0,.int .i64 0,.bool false]∧zbE Tryz.prog 271=true:=⟨by kernel_rfl,by kernel_rfl,by kernel_rfl,by kernel_rfl,by kernel_rfl,by kernel_rfl,by kernel_rfl,by kernel_rfl⟩
@[go_sem] theorem zo9:hasT Tryz.prog 275=true∧szT Tryz.prog 275=1∧Tryz.prog.bytesOf 275=8∧aggT Tryz.prog 275=false∧zaX Tryz.prog 275=none∧arrT Tryz.prog 275=none∧zbF Tryz.prog 275=some [.nilFunc]:=⟨by kernel_rfl,by kernel_rfl,by kernel_rfl,by kernel_rfl,by kernel_rfl,by kernel_rfl,by kernel_rfl⟩
@[go_sem] theorem zpa:hasT Tryz.prog 277=true∧szT Tryz.prog 277=1∧Tryz.prog.bytesOf 277=8∧aggT Tryz.prog 277=false∧zaX Tryz.prog 277=none∧arrT Tryz.prog 277=none∧zbF Tryz.prog 277=some [.nilFunc]:=⟨by kernel_rfl,by kernel_rfl,by kernel_rfl,by kernel_rfl,by kernel_rfl,by kernel_rfl,by kernel_rfl⟩
@[go_sem] theorem zpc:hasT Tryz.prog 280=true∧szT Tryz.prog 280=1∧Tryz.prog.bytesOf 280=24∧aggT Tryz.prog 280=false∧zaX Tryz.prog 280=some 35∧arrT Tryz.prog 280=none∧zbF Tryz.prog 280=some [.slice none 0 0]:=⟨by kernel_rfl,by kernel_rfl,by kernel_rfl,by kernel_rfl,by kernel_rfl,by kernel_rfl,by kernel_rfl⟩
@[go_sem] theorem zpd:hasT Tryz.prog 283=true∧szT Tryz.prog 283=1∧Tryz.prog.bytesOf 283=24∧aggT Tryz.prog 283=false∧zaX Tryz.prog 283=some 320∧arrT Tryz.prog 283=none∧zbF Tryz.prog 283=some [.slice none 0 0]:=⟨by kernel_rfl,by kernel_rfl,by kernel_rfl,by kernel_rfl,by kernel_rfl,by kernel_rfl,by kernel_rfl⟩
@[go_sem] theorem zpe:hasT Tryz.prog 287=true∧szT Tryz.prog 287=1∧Tryz.prog.bytesOf 287=8∧aggT Tryz.prog 287=false∧zaX Tryz.prog 287=none∧arrT Tryz.prog 287=none∧zbF Tryz.prog 287=some [.nilFunc]:=⟨by kernel_rfl,by kernel_rfl,by kernel_rfl,by kernel_rfl,by kernel_rfl,by kernel_rfl,by kernel_rfl⟩
@[go_sem] theorem zpf:hasT Tryz.prog 289=true∧szT Tryz.prog 289=1∧Tryz.prog.bytesOf 289=8∧aggT Tryz.prog 289=false∧zaX Tryz.prog 289=none∧arrT Tryz.prog 289=none∧zbF Tryz.prog 289=some [.nilFunc]:=⟨by kernel_rfl,by kernel_rfl,by kernel_rfl,by kernel_rfl,by kernel_rfl,by kernel_rfl,by kernel_rfl⟩
@[go_sem] theorem zpg:hasT Tryz.prog 290=true∧szT Tryz.prog 290=1∧Tryz.prog.bytesOf 290=8∧aggT Tryz.prog 290=false∧zaX Tryz.prog 290=none∧arrT Tryz.prog 290=none∧zbF Tryz.prog 290=some [.nilFunc]:=⟨by kernel_rfl,by kernel_rfl,by kernel_rfl,by kernel_rfl,by kernel_rfl,by kernel_rfl,by kernel_rfl⟩
@[go_sem] theorem zph:hasT Tryz.prog 296=true∧szT Tryz.prog 296=3∧Tryz.prog.bytesOf 296=24∧aggT Tryz.prog 296=true∧zaX Tryz.prog 296=none∧arrT Tryz.prog 296=none∧zbF Tryz.prog 296=some [.int .i64 0,.int .i64 0,.int .i64 0]∧zbE Tryz.prog 296=true:=⟨by kernel_rfl,by kernel_rfl,by kernel_rfl,by kernel_rfl,by kernel_rfl,by kernel_rfl,by kernel_rfl,by kernel_rfl⟩
@[go_sem] theorem zpi:hasT Tryz.prog 297=true∧szT Tryz.prog 297=3∧Tryz.prog.bytesOf 297=24∧aggT Tryz.prog 297=true∧zaX Tryz.prog 297=none∧arrT Tryz.prog 297=none∧zbF Tryz.prog 297=some [.int .i64 0,.int .i64 0,.int .i64 0]∧zbE Tryz.prog 297=true:=⟨by kernel_rfl,by kernel_rfl,by kernel_rfl,by kernel_rfl,by kernel_rfl,by kernel_rfl,by kernel_rfl,by kernel_rfl⟩
@[go_sem] theorem zpj:hasT Tryz.prog 298=true∧szT Tryz.prog 298=1∧Tryz.prog.bytesOf 298=8∧aggT Tryz.prog 298=false∧zaX Tryz.prog 298=none∧arrT Tryz.prog 298=none∧zbF Tryz.prog 298=some [.nilFunc]:=⟨by kernel_rfl,by kernel_rfl,by kernel_rfl,by kernel_rfl,by kernel_rfl,by kernel_rfl,by kernel_rfl⟩
@[go_sem] theorem zpk:hasT Tryz.prog 299=true∧szT Tryz.prog 299=1∧Tryz.prog.bytesOf 299=8∧aggT Tryz.prog 299=false∧zaX Tryz.prog 299=none∧arrT Tryz.prog 299=none∧zbF Tryz.prog 299=some [.nilFunc]:=⟨by kernel_rfl,by kernel_rfl,by kernel_rfl,by kernel_rfl,by kernel_rfl,by kernel_rfl,by kernel_rfl⟩
@[go_sem] theorem zII:hasT Tryz.prog 301=true∧szT Tryz.prog 301=1∧Tryz.prog.bytesOf 301=24∧aggT Tryz.prog 301=false∧zaX Tryz.prog 301=some 303∧arrT Tryz.prog 301=none∧zbF Tryz.prog 301=some [.slice none 0 0]:=⟨by kernel_rfl,by kernel_rfl,by kernel_rfl,by kernel_rfl,by kernel_rfl,by kernel_rfl,by kernel_rfl⟩
@[go_sem] theorem zIJ:hasT Tryz.prog 302=true∧szT Tryz.prog 302=4∧Tryz.prog.bytesOf 302=32∧aggT Tryz.prog 302=true∧zaX Tryz.prog 302=none∧arrT Tryz.prog 302=none∧zbF Tryz.prog 302=some [.int .i64 0,.int .i64 0,.int .i64 0,.int .i64 0]∧zbE Tryz.prog 302=true:=⟨by kernel_rfl,by kernel_rfl,by kernel_rfl,by kernel_rfl,by kernel_rfl,by kernel_rfl,by kernel_rfl,by kernel_rfl⟩
@[go_sem] theorem zIK:hasT Tryz.prog 303=true∧szT Tryz.prog 303=4∧Tryz.prog.bytesOf 303=32∧aggT Tryz.prog 303=true∧zaX Tryz.prog 303=none∧arrT Tryz.prog 303=none∧zbF Tryz.prog 303=some [.int .i64 0,.int .i64 0,.int .i64 0,.int .i64 0]∧zbE Tryz.prog 303=true:=⟨by kernel_rfl,by kernel_rfl,by kernel_rfl,by kernel_rfl,by kernel_rfl,by kernel_rfl,by kernel_rfl,by kernel_rfl⟩
@[go_sem] theorem zpl:hasT Tryz.prog 308=true∧szT Tryz.prog 308=1∧Tryz.prog.bytesOf 308=24∧aggT Tryz.prog 308=false∧zaX Tryz.prog 308=some 309∧arrT Tryz.prog 308=none∧zbF Tryz.prog 308=some [.slice none 0 0]:=⟨by kernel_rfl,by kernel_rfl,by kernel_rfl,by kernel_rfl,by kernel_rfl,by kernel_rfl,by kernel_rfl⟩
@[go_sem] theorem zpm:hasT Tryz.prog 309=true∧szT Tryz.prog 309=1∧Tryz.prog.bytesOf 309=24∧aggT Tryz.prog 309=false∧zaX Tryz.prog 309=some 159∧arrT Tryz.prog 309=none∧zbF Tryz.prog 309=some [.slice none 0 0]:=⟨by kernel_rfl,by kernel_rfl,by kernel_rfl,by kernel_rfl,by kernel_rfl,by kernel_rfl,by kernel_rfl⟩
@[go_sem] theorem zpn:hasT Tryz.prog 312=true∧szT Tryz.prog 312=3∧Tryz.prog.bytesOf 312=24∧aggT Tryz.prog 312=true∧zaX Tryz.prog 312=none∧arrT Tryz.prog 312=none∧zbF Tryz.prog 312=some [.int .i64 0,.int .i64 0,.int .i64 0]∧zbE Tryz.prog 312=true:=⟨by kernel_rfl,by kernel_rfl,by kernel_rfl,by kernel_rfl,by kernel_rfl,by kernel_rfl,by kernel_rfl,by kernel_rfl⟩
@[go_sem] theorem zpo:hasT Tryz.prog 314=true∧szT Tryz.prog 314=1∧Tryz.prog.bytesOf 314=8∧aggT Tryz.prog 314=false∧zaX Tryz.prog 314=none∧arrT Tryz.prog 314=none∧zbF Tryz.prog 314=some [.nilFunc]:=⟨by kernel_rfl,by kernel_rfl,by kernel_rfl,by kernel_rfl,by kernel_rfl,by kernel_rfl,by kernel_rfl⟩
@[go_sem] theorem zpp:hasT Tryz.prog 315=true∧szT Tryz.prog 315=1∧Tryz.prog.bytesOf 315=8∧aggT Tryz.prog 315=false∧zaX Tryz.prog 315=none∧arrT Tryz.prog 315=none∧zbF Tryz.prog 315=some [.nilFunc]:=⟨by kernel_rfl,by kernel_rfl,by kernel_rfl,by kernel_rfl,by kernel_rfl,by kernel_rfl,by kernel_rfl⟩
@[go_sem] theorem zpq:hasT Tryz.prog 319=true∧szT Tryz.prog 319=2∧Tryz.prog.bytesOf 319=16∧aggT Tryz.prog 319=true∧zaX Tryz.prog 319=none∧arrT Tryz.prog 319=none∧zbF Tryz.prog 319=some [.int .i64 0,.int .i64 0]∧zbE Tryz.prog 319=true:=⟨by kernel_rfl,by kernel_rfl,by kernel_rfl,by kernel_rfl,by kernel_rfl,by kernel_rfl,by kernel_rfl,by kernel_rfl⟩
@[go_sem] theorem zpr:hasT Tryz.prog 320=true∧szT Tryz.prog 320=2∧Tryz.prog.bytesOf 320=16∧aggT Tryz.prog 320=true∧zaX Tryz.prog 320=none∧arrT Tryz.prog 320=none∧zbF Tryz.prog 320=some [.int .i64 0,.int .i64 0]∧zbE Tryz.prog 320=true:=⟨by kernel_rfl,by kernel_rfl,by kernel_rfl,by kernel_rfl,by kernel_rfl,by kernel_rfl,by kernel_rfl,by kernel_rfl⟩
@[go_sem] theorem zps:hasT Tryz.prog 322=true∧szT Tryz.prog 322=1∧Tryz.prog.bytesOf 322=8∧aggT Tryz.prog 322=false∧zaX Tryz.prog 322=none∧arrT Tryz.prog 322=none∧zbF Tryz.prog 322=some [.nilFunc]:=⟨by kernel_rfl,by kernel_rfl,by kernel_rfl,by kernel_rfl,by kernel_rfl,by kernel_rfl,by kernel_rfl⟩
@[go_sem] theorem zpt:hasT Tryz.prog 323=true∧szT Tryz.prog 323=8∧Tryz.prog.bytesOf 323=8∧aggT Tryz.prog 323=true∧zaX Tryz.prog 323=none∧arrT Tryz.prog 323=some (8,4)∧zbF Tryz.prog 323=some [.bool false,.bool false,.bool false,.bool false,.bool false,.bool false,.bool false,.bool false]∧zbE Tryz.prog 323=true:=⟨by kernel_rfl,by kernel_rfl,by kernel_rfl,by kernel_rfl,by kernel_rfl,by kernel_rfl,by kernel_rfl,by kernel_rfl⟩
@[go_sem] theorem zpu:hasT Tryz.prog 324=true∧szT Tryz.prog 324=1∧Tryz.prog.bytesOf 324=8∧aggT Tryz.prog 324=false∧zaX Tryz.prog 324=none∧arrT Tryz.prog 324=none∧zbF Tryz.prog 324=some [.pointer none]:=⟨by kernel_rfl,by kernel_rfl,by kernel_rfl,by kernel_rfl,by kernel_rfl,by kernel_rfl,by kernel_rfl⟩
@[go_sem] theorem zpv:hasT Tryz.prog 325=true∧szT Tryz.prog 325=1∧Tryz.prog.bytesOf 325=8∧aggT Tryz.prog 325=false∧zaX Tryz.prog 325=none∧arrT Tryz.prog 325=none∧zbF Tryz.prog 325=some [.int .u64 0]∧intT Tryz.prog 325=some .u64:=⟨by kernel_rfl,by kernel_rfl,by kernel_rfl,by kernel_rfl,by kernel_rfl,by kernel_rfl,by kernel_rfl,by kernel_rfl⟩
attribute [go_sem] Tryz.underlying325
@[go_sem] theorem zpw:hasT Tryz.prog 328=true∧szT Tryz.prog 328=1∧Tryz.prog.bytesOf 328=8∧aggT Tryz.prog 328=false∧zaX Tryz.prog 328=none∧arrT Tryz.prog 328=none∧zbF Tryz.prog 328=some [.nilFunc]:=⟨by kernel_rfl,by kernel_rfl,by kernel_rfl,by kernel_rfl,by kernel_rfl,by kernel_rfl,by kernel_rfl⟩
@[go_sem] theorem zpx:hasT Tryz.prog 329=true∧szT Tryz.prog 329=1∧Tryz.prog.bytesOf 329=8∧aggT Tryz.prog 329=false∧zaX Tryz.prog 329=none∧arrT Tryz.prog 329=none∧zbF Tryz.prog 329=some [.nilFunc]:=⟨by kernel_rfl,by kernel_rfl,by kernel_rfl,by kernel_rfl,by kernel_rfl,by kernel_rfl,by kernel_rfl⟩
@[go_sem] theorem zpy:hasT Tryz.prog 334=true∧szT Tryz.prog 334=1∧Tryz.prog.bytesOf 334=8∧aggT Tryz.prog 334=false∧zaX Tryz.prog 334=none∧arrT Tryz.prog 334=none∧zbF Tryz.prog 334=some [.nilFunc]:=⟨by kernel_rfl,by kernel_rfl,by kernel_rfl,by kernel_rfl,by kernel_rfl,by kernel_rfl,by kernel_rfl⟩
@[go_sem] theorem zpz:hasT Tryz.prog 338=true∧szT Tryz.prog 338=1∧Tryz.prog.bytesOf 338=8∧aggT Tryz.prog 338=false∧zaX Tryz.prog 338=none∧arrT Tryz.prog 338=none∧zbF Tryz.prog 338=some [.nilFunc]:=⟨by kernel_rfl,by kernel_rfl,by kernel_rfl,by kernel_rfl,by kernel_rfl,by kernel_rfl,by kernel_rfl⟩
@[go_sem] theorem zpA:hasT Tryz.prog 343=true∧szT Tryz.prog 343=1∧Tryz.prog.bytesOf 343=8∧aggT Tryz.prog 343=false∧zaX Tryz.prog 343=none∧arrT Tryz.prog 343=none∧zbF Tryz.prog 343=some [.nilFunc]:=⟨by kernel_rfl,by kernel_rfl,by kernel_rfl,by kernel_rfl,by kernel_rfl,by kernel_rfl,by kernel_rfl⟩
@[go_sem] theorem zIQ:hasT Tryz.prog 345=true∧szT Tryz.prog 345=1∧Tryz.prog.bytesOf 345=24∧aggT Tryz.prog 345=false∧zaX Tryz.prog 345=some 356∧arrT Tryz.prog 345=none∧zbF Tryz.prog 345=some [.slice none 0 0]:=⟨by kernel_rfl,by kernel_rfl,by kernel_rfl,by kernel_rfl,by kernel_rfl,by kernel_rfl,by kernel_rfl⟩
@[go_sem] theorem zIR:hasT Tryz.prog 347=true∧szT Tryz.prog 347=1∧Tryz.prog.bytesOf 347=8∧aggT Tryz.prog 347=false∧zaX Tryz.prog 347=none∧arrT Tryz.prog 347=none∧zbF Tryz.prog 347=some [.pointer none]:=⟨by kernel_rfl,by kernel_rfl,by kernel_rfl,by kernel_rfl,by kernel_rfl,by kernel_rfl,by kernel_rfl⟩
@[go_sem] theorem zIS:hasT Tryz.prog 349=true∧szT Tryz.prog 349=4∧Tryz.prog.bytesOf 349=80∧aggT Tryz.prog 349=true∧zaX Tryz.prog 349=none∧arrT Tryz.prog 349=none∧zbF Tryz.prog 349=some [.slice none 0 0,.int .i64 0,.slice none 0 0,.slice none 0 0]∧zbE Tryz.prog 349=true:=⟨by kernel_rfl,by kernel_rfl,by kernel_rfl,by kernel_rfl,by kernel_rfl,by kernel_rfl,by kernel_rfl,by kernel_rfl⟩
@[go_sem] theorem zIT:hasT Tryz.prog 350=true∧szT Tryz.prog 350=4∧Tryz.prog.bytesOf 350=80∧aggT Tryz.prog 350=true∧zaX Tryz.prog 350=none∧arrT Tryz.prog 350=none∧zbF Tryz.prog 350=some [.slice none 0 0,.int .i64 0,.slice none 0 0,.slice none 0 0]∧zbE Tryz.prog 350=true:=⟨by kernel_rfl,by kernel_rfl,by kernel_rfl,by kernel_rfl,by kernel_rfl,by kernel_rfl,by kernel_rfl,by kernel_rfl⟩
@[go_sem] theorem zIU:hasT Tryz.prog 356=true∧szT Tryz.prog 356=1∧Tryz.prog.bytesOf 356=8∧aggT Tryz.prog 356=false∧zaX Tryz.prog 356=none∧arrT Tryz.prog 356=none∧zbF Tryz.prog 356=some [.int .u64 0]∧intT Tryz.prog 356=some .u64:=⟨by kernel_rfl,by kernel_rfl,by kernel_rfl,by kernel_rfl,by kernel_rfl,by kernel_rfl,by kernel_rfl,by kernel_rfl⟩
attribute [go_sem] Tryz.underlying356
@[go_sem] theorem zIV:hasT Tryz.prog 361=true∧szT Tryz.prog 361=1∧Tryz.prog.bytesOf 361=4∧aggT Tryz.prog 361=false∧zaX Tryz.prog 361=none∧arrT Tryz.prog 361=none∧zbF Tryz.prog 361=some [.int .u32 0]∧intT Tryz.prog 361=some .u32:=⟨by kernel_rfl,by kernel_rfl,by kernel_rfl,by kernel_rfl,by kernel_rfl,by kernel_rfl,by kernel_rfl,by kernel_rfl⟩
attribute [go_sem] Tryz.underlying361
@[go_sem] theorem zpB:hasT Tryz.prog 363=true∧szT Tryz.prog 363=1∧Tryz.prog.bytesOf 363=8∧aggT Tryz.prog 363=false∧zaX Tryz.prog 363=none∧arrT Tryz.prog 363=none∧zbF Tryz.prog 363=some [.nilFunc]:=⟨by kernel_rfl,by kernel_rfl,by kernel_rfl,by kernel_rfl,by kernel_rfl,by kernel_rfl,by kernel_rfl⟩
@[go_sem] theorem zpC:zaW Tryz.prog 13 0=some (0,9):=by kernel_rfl
@[go_sem] theorem zpD:zbD Tryz.prog 13 0=some (0,1):=by kernel_rfl
@[go_sem] theorem zpE:zaW Tryz.prog 13 1=some (1,12):=by kernel_rfl
@[go_sem] theorem zpF:zbD Tryz.prog 13 1=some (1,1):=by kernel_rfl
attribute [go_sem] Tryz.underlying13 Tryz.stoodInHeld13 Tryz.eqGuardType13
@[go_sem] theorem zpG:zaW Tryz.prog 23 0=some (0,3):=by kernel_rfl
@[go_sem] theorem zpH:zbD Tryz.prog 23 0=some (0,1):=by kernel_rfl
@[go_sem] theorem zpI:zaW Tryz.prog 23 1=some (1,22):=by kernel_rfl
@[go_sem] theorem zpJ:zbD Tryz.prog 23 1=some (1,1):=by kernel_rfl
attribute [go_sem] Tryz.underlying23 Tryz.stoodInHeld23 Tryz.eqGuardType23
@[go_sem] theorem zpK:zaW Tryz.prog 24 0=some (0,3):=by kernel_rfl
@[go_sem] theorem zpL:zbD Tryz.prog 24 0=some (0,1):=by kernel_rfl
@[go_sem] theorem zpM:zaW Tryz.prog 24 1=some (1,22):=by kernel_rfl
@[go_sem] theorem zpN:zbD Tryz.prog 24 1=some (1,1):=by kernel_rfl
attribute [go_sem] Tryz.underlying24 Tryz.stoodInHeld24 Tryz.eqGuardType24
@[go_sem] theorem zpO:zaW Tryz.prog 26 0=some (0,24):=by kernel_rfl
@[go_sem] theorem zpP:zbD Tryz.prog 26 0=some (0,2):=by kernel_rfl
@[go_sem] theorem zpQ:zaW Tryz.prog 26 1=some (2,25):=by kernel_rfl
@[go_sem] theorem zpR:zbD Tryz.prog 26 1=some (2,1):=by kernel_rfl
attribute [go_sem] Tryz.underlying26 Tryz.stoodInHeld26 Tryz.eqGuardType26
@[go_sem] theorem zpS:zaW Tryz.prog 27 0=some (0,24):=by kernel_rfl
@[go_sem] theorem zpT:zbD Tryz.prog 27 0=some (0,2):=by kernel_rfl
@[go_sem] theorem zpU:zaW Tryz.prog 27 1=some (2,25):=by kernel_rfl
@[go_sem] theorem zpV:zbD Tryz.prog 27 1=some (2,1):=by kernel_rfl
attribute [go_sem] Tryz.underlying27 Tryz.stoodInHeld27 Tryz.eqGuardType27
@[go_sem] theorem zpW:zaW Tryz.prog 30 0=some (0,28):=by kernel_rfl
@[go_sem] theorem zpX:zbD Tryz.prog 30 0=some (0,1):=by kernel_rfl
@[go_sem] theorem zpY:zaW Tryz.prog 30 1=some (1,29):=by kernel_rfl
@[go_sem] theorem zpZ:zbD Tryz.prog 30 1=some (1,1):=by kernel_rfl
attribute [go_sem] Tryz.underlying30 Tryz.stoodInHeld30 Tryz.eqGuardType30
@[go_sem] theorem zp0:zaW Tryz.prog 31 0=some (0,28):=by kernel_rfl
@[go_sem] theorem zp1:zbD Tryz.prog 31 0=some (0,1):=by kernel_rfl
@[go_sem] theorem zp2:zaW Tryz.prog 31 1=some (1,29):=by kernel_rfl
@[go_sem] theorem zp3:zbD Tryz.prog 31 1=some (1,1):=by kernel_rfl
attribute [go_sem] Tryz.underlying31 Tryz.stoodInHeld31 Tryz.eqGuardType31
@[go_sem] theorem zp4:zaW Tryz.prog 33 0=some (0,3):=by kernel_rfl
@[go_sem] theorem zp5:zbD Tryz.prog 33 0=some (0,1):=by kernel_rfl
@[go_sem] theorem zp6:zaW Tryz.prog 33 1=some (1,4):=by kernel_rfl
@[go_sem] theorem zp7:zbD Tryz.prog 33 1=some (1,1):=by kernel_rfl
attribute [go_sem] Tryz.underlying33 Tryz.stoodInHeld33 Tryz.eqGuardType33
@[go_sem] theorem zp8:zaW Tryz.prog 34 0=some (0,3):=by kernel_rfl
@[go_sem] theorem zp9:zbD Tryz.prog 34 0=some (0,1):=by kernel_rfl
@[go_sem] theorem zqa:zaW Tryz.prog 34 1=some (1,4):=by kernel_rfl
@[go_sem] theorem zqb:zbD Tryz.prog 34 1=some (1,1):=by kernel_rfl
attribute [go_sem] Tryz.underlying34 Tryz.stoodInHeld34 Tryz.eqGuardType34
@[go_sem] theorem zqc:zaW Tryz.prog 36 0=some (0,3):=by kernel_rfl
@[go_sem] theorem zqd:zbD Tryz.prog 36 0=some (0,1):=by kernel_rfl
@[go_sem] theorem zqe:zaW Tryz.prog 36 1=some (1,3):=by kernel_rfl
@[go_sem] theorem zqf:zbD Tryz.prog 36 1=some (1,1):=by kernel_rfl
@[go_sem] theorem zqg:zaW Tryz.prog 36 2=some (2,3):=by kernel_rfl
@[go_sem] theorem zqh:zbD Tryz.prog 36 2=some (2,1):=by kernel_rfl
@[go_sem] theorem zqi:zaW Tryz.prog 36 3=some (3,35):=by kernel_rfl
@[go_sem] theorem zqj:zbD Tryz.prog 36 3=some (3,1):=by kernel_rfl
attribute [go_sem] Tryz.underlying36 Tryz.stoodInHeld36 Tryz.eqGuardType36
@[go_sem] theorem zqk:zaW Tryz.prog 37 0=some (0,3):=by kernel_rfl
@[go_sem] theorem zql:zbD Tryz.prog 37 0=some (0,1):=by kernel_rfl
@[go_sem] theorem zqm:zaW Tryz.prog 37 1=some (1,3):=by kernel_rfl
@[go_sem] theorem zqn:zbD Tryz.prog 37 1=some (1,1):=by kernel_rfl
@[go_sem] theorem zqo:zaW Tryz.prog 37 2=some (2,3):=by kernel_rfl
@[go_sem] theorem zqp:zbD Tryz.prog 37 2=some (2,1):=by kernel_rfl
@[go_sem] theorem zqq:zaW Tryz.prog 37 3=some (3,35):=by kernel_rfl
@[go_sem] theorem zqr:zbD Tryz.prog 37 3=some (3,1):=by kernel_rfl
attribute [go_sem] Tryz.underlying37 Tryz.stoodInHeld37 Tryz.eqGuardType37
@[go_sem] theorem zqs:zaW Tryz.prog 38 0=some (0,27):=by kernel_rfl
@[go_sem] theorem zqt:zbD Tryz.prog 38 0=some (0,3):=by kernel_rfl
@[go_sem] theorem zqu:zaW Tryz.prog 38 1=some (3,31):=by kernel_rfl
@[go_sem] theorem zqv:zbD Tryz.prog 38 1=some (3,2):=by kernel_rfl
@[go_sem] theorem zqw:zaW Tryz.prog 38 2=some (5,32):=by kernel_rfl
@[go_sem] theorem zqx:zbD Tryz.prog 38 2=some (5,1):=by kernel_rfl
@[go_sem] theorem zqy:zaW Tryz.prog 38 3=some (6,34):=by kernel_rfl
@[go_sem] theorem zqz:zbD Tryz.prog 38 3=some (6,2):=by kernel_rfl
@[go_sem] theorem zqA:zaW Tryz.prog 38 4=some (8,37):=by kernel_rfl
@[go_sem] theorem zqB:zbD Tryz.prog 38 4=some (8,4):=by kernel_rfl
attribute [go_sem] Tryz.underlying38 Tryz.stoodInHeld38 Tryz.eqGuardType38
@[go_sem] theorem zqC:zaW Tryz.prog 39 0=some (0,27):=by kernel_rfl
@[go_sem] theorem zqD:zbD Tryz.prog 39 0=some (0,3):=by kernel_rfl
@[go_sem] theorem zqE:zaW Tryz.prog 39 1=some (3,31):=by kernel_rfl
@[go_sem] theorem zqF:zbD Tryz.prog 39 1=some (3,2):=by kernel_rfl
@[go_sem] theorem zqG:zaW Tryz.prog 39 2=some (5,32):=by kernel_rfl
@[go_sem] theorem zqH:zbD Tryz.prog 39 2=some (5,1):=by kernel_rfl
@[go_sem] theorem zqI:zaW Tryz.prog 39 3=some (6,34):=by kernel_rfl
@[go_sem] theorem zqJ:zbD Tryz.prog 39 3=some (6,2):=by kernel_rfl
@[go_sem] theorem zqK:zaW Tryz.prog 39 4=some (8,37):=by kernel_rfl
@[go_sem] theorem zqL:zbD Tryz.prog 39 4=some (8,4):=by kernel_rfl
attribute [go_sem] Tryz.underlying39 Tryz.stoodInHeld39 Tryz.eqGuardType39
@[go_sem] theorem zqM:zaW Tryz.prog 44 0=some (0,3):=by kernel_rfl
@[go_sem] theorem zqN:zbD Tryz.prog 44 0=some (0,1):=by kernel_rfl
@[go_sem] theorem zqO:zaW Tryz.prog 44 1=some (1,43):=by kernel_rfl
@[go_sem] theorem zqP:zbD Tryz.prog 44 1=some (1,1):=by kernel_rfl
attribute [go_sem] Tryz.underlying44 Tryz.stoodInHeld44 Tryz.eqGuardType44
@[go_sem] theorem zqQ:zaW Tryz.prog 45 0=some (0,3):=by kernel_rfl
@[go_sem] theorem zqR:zbD Tryz.prog 45 0=some (0,1):=by kernel_rfl
@[go_sem] theorem zqS:zaW Tryz.prog 45 1=some (1,43):=by kernel_rfl
@[go_sem] theorem zqT:zbD Tryz.prog 45 1=some (1,1):=by kernel_rfl
attribute [go_sem] Tryz.underlying45 Tryz.stoodInHeld45 Tryz.eqGuardType45
@[go_sem] theorem zqU:zaW Tryz.prog 49 0=some (0,3):=by kernel_rfl
@[go_sem] theorem zqV:zbD Tryz.prog 49 0=some (0,1):=by kernel_rfl
@[go_sem] theorem zqW:zaW Tryz.prog 49 1=some (1,48):=by kernel_rfl
@[go_sem] theorem zqX:zbD Tryz.prog 49 1=some (1,1):=by kernel_rfl
attribute [go_sem] Tryz.underlying49 Tryz.stoodInHeld49 Tryz.eqGuardType49
@[go_sem] theorem zqY:zaW Tryz.prog 50 0=some (0,3):=by kernel_rfl
@[go_sem] theorem zqZ:zbD Tryz.prog 50 0=some (0,1):=by kernel_rfl
@[go_sem] theorem zq0:zaW Tryz.prog 50 1=some (1,48):=by kernel_rfl
@[go_sem] theorem zq1:zbD Tryz.prog 50 1=some (1,1):=by kernel_rfl
attribute [go_sem] Tryz.underlying50 Tryz.stoodInHeld50 Tryz.eqGuardType50
@[go_sem] theorem zq2:zaW Tryz.prog 52 0=some (0,50):=by kernel_rfl
@[go_sem] theorem zq3:zbD Tryz.prog 52 0=some (0,2):=by kernel_rfl
@[go_sem] theorem zq4:zaW Tryz.prog 52 1=some (2,51):=by kernel_rfl
@[go_sem] theorem zq5:zbD Tryz.prog 52 1=some (2,1):=by kernel_rfl
attribute [go_sem] Tryz.underlying52 Tryz.stoodInHeld52 Tryz.eqGuardType52
@[go_sem] theorem zq6:zaW Tryz.prog 53 0=some (0,50):=by kernel_rfl
@[go_sem] theorem zq7:zbD Tryz.prog 53 0=some (0,2):=by kernel_rfl
@[go_sem] theorem zq8:zaW Tryz.prog 53 1=some (2,51):=by kernel_rfl
@[go_sem] theorem zq9:zbD Tryz.prog 53 1=some (2,1):=by kernel_rfl
attribute [go_sem] Tryz.underlying53 Tryz.stoodInHeld53 Tryz.eqGuardType53
@[go_sem] theorem zra:zaW Tryz.prog 56 0=some (0,54):=by kernel_rfl
@[go_sem] theorem zrb:zbD Tryz.prog 56 0=some (0,1):=by kernel_rfl
@[go_sem] theorem zrc:zaW Tryz.prog 56 1=some (1,55):=by kernel_rfl
@[go_sem] theorem zrd:zbD Tryz.prog 56 1=some (1,1):=by kernel_rfl
attribute [go_sem] Tryz.underlying56 Tryz.stoodInHeld56 Tryz.eqGuardType56
@[go_sem] theorem zre:zaW Tryz.prog 57 0=some (0,54):=by kernel_rfl
@[go_sem] theorem zrf:zbD Tryz.prog 57 0=some (0,1):=by kernel_rfl
@[go_sem] theorem zrg:zaW Tryz.prog 57 1=some (1,55):=by kernel_rfl
@[go_sem] theorem zrh:zbD Tryz.prog 57 1=some (1,1):=by kernel_rfl
attribute [go_sem] Tryz.underlying57 Tryz.stoodInHeld57 Tryz.eqGuardType57
@[go_sem] theorem zri:zaW Tryz.prog 59 0=some (0,3):=by kernel_rfl
@[go_sem] theorem zrj:zbD Tryz.prog 59 0=some (0,1):=by kernel_rfl
@[go_sem] theorem zrk:zaW Tryz.prog 59 1=some (1,4):=by kernel_rfl
@[go_sem] theorem zrl:zbD Tryz.prog 59 1=some (1,1):=by kernel_rfl
attribute [go_sem] Tryz.underlying59 Tryz.stoodInHeld59 Tryz.eqGuardType59
@[go_sem] theorem zrm:zaW Tryz.prog 60 0=some (0,3):=by kernel_rfl
@[go_sem] theorem zrn:zbD Tryz.prog 60 0=some (0,1):=by kernel_rfl
@[go_sem] theorem zro:zaW Tryz.prog 60 1=some (1,3):=by kernel_rfl
@[go_sem] theorem zrp:zbD Tryz.prog 60 1=some (1,1):=by kernel_rfl
@[go_sem] theorem zrq:zaW Tryz.prog 60 2=some (2,3):=by kernel_rfl
@[go_sem] theorem zrr:zbD Tryz.prog 60 2=some (2,1):=by kernel_rfl
@[go_sem] theorem zrs:zaW Tryz.prog 60 3=some (3,35):=by kernel_rfl
@[go_sem] theorem zrt:zbD Tryz.prog 60 3=some (3,1):=by kernel_rfl
attribute [go_sem] Tryz.underlying60 Tryz.stoodInHeld60 Tryz.eqGuardType60
@[go_sem] theorem zru:zaW Tryz.prog 61 0=some (0,53):=by kernel_rfl
@[go_sem] theorem zrv:zbD Tryz.prog 61 0=some (0,3):=by kernel_rfl
@[go_sem] theorem zrw:zaW Tryz.prog 61 1=some (3,57):=by kernel_rfl
@[go_sem] theorem zrx:zbD Tryz.prog 61 1=some (3,2):=by kernel_rfl
@[go_sem] theorem zry:zaW Tryz.prog 61 2=some (5,58):=by kernel_rfl
@[go_sem] theorem zrz:zbD Tryz.prog 61 2=some (5,1):=by kernel_rfl
@[go_sem] theorem zrA:zaW Tryz.prog 61 3=some (6,59):=by kernel_rfl
@[go_sem] theorem zrB:zbD Tryz.prog 61 3=some (6,2):=by kernel_rfl
@[go_sem] theorem zrC:zaW Tryz.prog 61 4=some (8,60):=by kernel_rfl
@[go_sem] theorem zrD:zbD Tryz.prog 61 4=some (8,4):=by kernel_rfl
attribute [go_sem] Tryz.underlying61 Tryz.stoodInHeld61 Tryz.eqGuardType61
@[go_sem] theorem zrE:zaW Tryz.prog 62 0=some (0,53):=by kernel_rfl
@[go_sem] theorem zrF:zbD Tryz.prog 62 0=some (0,3):=by kernel_rfl
@[go_sem] theorem zrG:zaW Tryz.prog 62 1=some (3,57):=by kernel_rfl
@[go_sem] theorem zrH:zbD Tryz.prog 62 1=some (3,2):=by kernel_rfl
@[go_sem] theorem zrI:zaW Tryz.prog 62 2=some (5,58):=by kernel_rfl
@[go_sem] theorem zrJ:zbD Tryz.prog 62 2=some (5,1):=by kernel_rfl
@[go_sem] theorem zrK:zaW Tryz.prog 62 3=some (6,59):=by kernel_rfl
@[go_sem] theorem zrL:zbD Tryz.prog 62 3=some (6,2):=by kernel_rfl
@[go_sem] theorem zrM:zaW Tryz.prog 62 4=some (8,60):=by kernel_rfl
@[go_sem] theorem zrN:zbD Tryz.prog 62 4=some (8,4):=by kernel_rfl
attribute [go_sem] Tryz.underlying62 Tryz.stoodInHeld62 Tryz.eqGuardType62
@[go_sem] theorem zrO:zaW Tryz.prog 76 0=some (0,3):=by kernel_rfl
@[go_sem] theorem zrP:zbD Tryz.prog 76 0=some (0,1):=by kernel_rfl
@[go_sem] theorem zrQ:zaW Tryz.prog 76 1=some (1,3):=by kernel_rfl
@[go_sem] theorem zrR:zbD Tryz.prog 76 1=some (1,1):=by kernel_rfl
@[go_sem] theorem zrS:zaW Tryz.prog 76 2=some (2,3):=by kernel_rfl
@[go_sem] theorem zrT:zbD Tryz.prog 76 2=some (2,1):=by kernel_rfl
@[go_sem] theorem zrU:zaW Tryz.prog 76 3=some (3,3):=by kernel_rfl
@[go_sem] theorem zrV:zbD Tryz.prog 76 3=some (3,1):=by kernel_rfl
@[go_sem] theorem zrW:zaW Tryz.prog 76 4=some (4,3):=by kernel_rfl
@[go_sem] theorem zrX:zbD Tryz.prog 76 4=some (4,1):=by kernel_rfl
attribute [go_sem] Tryz.underlying76 Tryz.stoodInHeld76 Tryz.eqGuardType76
@[go_sem] theorem zrY:zaW Tryz.prog 77 0=some (0,3):=by kernel_rfl
@[go_sem] theorem zrZ:zbD Tryz.prog 77 0=some (0,1):=by kernel_rfl
@[go_sem] theorem zr0:zaW Tryz.prog 77 1=some (1,3):=by kernel_rfl
@[go_sem] theorem zr1:zbD Tryz.prog 77 1=some (1,1):=by kernel_rfl
@[go_sem] theorem zr2:zaW Tryz.prog 77 2=some (2,3):=by kernel_rfl
@[go_sem] theorem zr3:zbD Tryz.prog 77 2=some (2,1):=by kernel_rfl
@[go_sem] theorem zr4:zaW Tryz.prog 77 3=some (3,3):=by kernel_rfl
@[go_sem] theorem zr5:zbD Tryz.prog 77 3=some (3,1):=by kernel_rfl
@[go_sem] theorem zr6:zaW Tryz.prog 77 4=some (4,3):=by kernel_rfl
@[go_sem] theorem zr7:zbD Tryz.prog 77 4=some (4,1):=by kernel_rfl
attribute [go_sem] Tryz.underlying77 Tryz.stoodInHeld77 Tryz.eqGuardType77
@[go_sem] theorem zr8:zaW Tryz.prog 79 0=some (0,3):=by kernel_rfl
@[go_sem] theorem zr9:zbD Tryz.prog 79 0=some (0,1):=by kernel_rfl
@[go_sem] theorem zsa:zaW Tryz.prog 79 1=some (1,3):=by kernel_rfl
@[go_sem] theorem zsb:zbD Tryz.prog 79 1=some (1,1):=by kernel_rfl
@[go_sem] theorem zsc:zaW Tryz.prog 79 2=some (2,3):=by kernel_rfl
@[go_sem] theorem zsd:zbD Tryz.prog 79 2=some (2,1):=by kernel_rfl
@[go_sem] theorem zse:zaW Tryz.prog 79 3=some (3,3):=by kernel_rfl
@[go_sem] theorem zsf:zbD Tryz.prog 79 3=some (3,1):=by kernel_rfl
@[go_sem] theorem zsg:zaW Tryz.prog 79 4=some (4,3):=by kernel_rfl
@[go_sem] theorem zsh:zbD Tryz.prog 79 4=some (4,1):=by kernel_rfl
attribute [go_sem] Tryz.underlying79 Tryz.stoodInHeld79 Tryz.eqGuardType79
@[go_sem] theorem zsi:zaW Tryz.prog 83 0=some (0,3):=by kernel_rfl
@[go_sem] theorem zsj:zbD Tryz.prog 83 0=some (0,1):=by kernel_rfl
@[go_sem] theorem zsk:zaW Tryz.prog 83 1=some (1,3):=by kernel_rfl
@[go_sem] theorem zsl:zbD Tryz.prog 83 1=some (1,1):=by kernel_rfl
@[go_sem] theorem zsm:zaW Tryz.prog 83 2=some (2,3):=by kernel_rfl
@[go_sem] theorem zsn:zbD Tryz.prog 83 2=some (2,1):=by kernel_rfl
@[go_sem] theorem zso:zaW Tryz.prog 83 3=some (3,82):=by kernel_rfl
@[go_sem] theorem zsp:zbD Tryz.prog 83 3=some (3,1):=by kernel_rfl
attribute [go_sem] Tryz.underlying83 Tryz.stoodInHeld83 Tryz.eqGuardType83
@[go_sem] theorem zsq:zaW Tryz.prog 84 0=some (0,3):=by kernel_rfl
@[go_sem] theorem zsr:zbD Tryz.prog 84 0=some (0,1):=by kernel_rfl
@[go_sem] theorem zss:zaW Tryz.prog 84 1=some (1,3):=by kernel_rfl
@[go_sem] theorem zst:zbD Tryz.prog 84 1=some (1,1):=by kernel_rfl
@[go_sem] theorem zsu:zaW Tryz.prog 84 2=some (2,3):=by kernel_rfl
@[go_sem] theorem zsv:zbD Tryz.prog 84 2=some (2,1):=by kernel_rfl
@[go_sem] theorem zsw:zaW Tryz.prog 84 3=some (3,82):=by kernel_rfl
@[go_sem] theorem zsx:zbD Tryz.prog 84 3=some (3,1):=by kernel_rfl
attribute [go_sem] Tryz.underlying84 Tryz.stoodInHeld84 Tryz.eqGuardType84
@[go_sem] theorem zsy:zaW Tryz.prog 102 0=some (0,3):=by kernel_rfl
@[go_sem] theorem zsz:zbD Tryz.prog 102 0=some (0,1):=by kernel_rfl
@[go_sem] theorem zsA:zaW Tryz.prog 102 1=some (1,3):=by kernel_rfl
@[go_sem] theorem zsB:zbD Tryz.prog 102 1=some (1,1):=by kernel_rfl
@[go_sem] theorem zsC:zaW Tryz.prog 102 2=some (2,3):=by kernel_rfl
@[go_sem] theorem zsD:zbD Tryz.prog 102 2=some (2,1):=by kernel_rfl
@[go_sem] theorem zsE:zaW Tryz.prog 102 3=some (3,101):=by kernel_rfl
@[go_sem] theorem zsF:zbD Tryz.prog 102 3=some (3,1):=by kernel_rfl
attribute [go_sem] Tryz.underlying102 Tryz.stoodInHeld102 Tryz.eqGuardType102
@[go_sem] theorem zsG:zaW Tryz.prog 103 0=some (0,3):=by kernel_rfl
@[go_sem] theorem zsH:zbD Tryz.prog 103 0=some (0,1):=by kernel_rfl
@[go_sem] theorem zsI:zaW Tryz.prog 103 1=some (1,3):=by kernel_rfl
@[go_sem] theorem zsJ:zbD Tryz.prog 103 1=some (1,1):=by kernel_rfl
@[go_sem] theorem zsK:zaW Tryz.prog 103 2=some (2,3):=by kernel_rfl
@[go_sem] theorem zsL:zbD Tryz.prog 103 2=some (2,1):=by kernel_rfl
@[go_sem] theorem zsM:zaW Tryz.prog 103 3=some (3,101):=by kernel_rfl
@[go_sem] theorem zsN:zbD Tryz.prog 103 3=some (3,1):=by kernel_rfl
attribute [go_sem] Tryz.underlying103 Tryz.stoodInHeld103 Tryz.eqGuardType103
@[go_sem] theorem zsO:zaW Tryz.prog 124 0=some (0,3):=by kernel_rfl
@[go_sem] theorem zsP:zbD Tryz.prog 124 0=some (0,1):=by kernel_rfl
@[go_sem] theorem zsQ:zaW Tryz.prog 124 1=some (1,3):=by kernel_rfl
@[go_sem] theorem zsR:zbD Tryz.prog 124 1=some (1,1):=by kernel_rfl
@[go_sem] theorem zsS:zaW Tryz.prog 124 2=some (2,3):=by kernel_rfl
@[go_sem] theorem zsT:zbD Tryz.prog 124 2=some (2,1):=by kernel_rfl
attribute [go_sem] Tryz.underlying124 Tryz.stoodInHeld124 Tryz.eqGuardType124
@[go_sem] theorem zsU:zaW Tryz.prog 125 0=some (0,3):=by kernel_rfl
@[go_sem] theorem zsV:zbD Tryz.prog 125 0=some (0,1):=by kernel_rfl
@[go_sem] theorem zsW:zaW Tryz.prog 125 1=some (1,3):=by kernel_rfl
@[go_sem] theorem zsX:zbD Tryz.prog 125 1=some (1,1):=by kernel_rfl
@[go_sem] theorem zsY:zaW Tryz.prog 125 2=some (2,3):=by kernel_rfl
@[go_sem] theorem zsZ:zbD Tryz.prog 125 2=some (2,1):=by kernel_rfl
attribute [go_sem] Tryz.underlying125 Tryz.stoodInHeld125 Tryz.eqGuardType125
@[go_sem] theorem zs0:zaW Tryz.prog 127 0=some (0,3):=by kernel_rfl
@[go_sem] theorem zs1:zbD Tryz.prog 127 0=some (0,1):=by kernel_rfl
@[go_sem] theorem zs2:zaW Tryz.prog 127 1=some (1,3):=by kernel_rfl
@[go_sem] theorem zs3:zbD Tryz.prog 127 1=some (1,1):=by kernel_rfl
@[go_sem] theorem zs4:zaW Tryz.prog 127 2=some (2,93):=by kernel_rfl
@[go_sem] theorem zs5:zbD Tryz.prog 127 2=some (2,1):=by kernel_rfl
attribute [go_sem] Tryz.underlying127 Tryz.stoodInHeld127 Tryz.eqGuardType127
@[go_sem] theorem zs6:zaW Tryz.prog 128 0=some (0,3):=by kernel_rfl
@[go_sem] theorem zs7:zbD Tryz.prog 128 0=some (0,1):=by kernel_rfl
@[go_sem] theorem zs8:zaW Tryz.prog 128 1=some (1,3):=by kernel_rfl
@[go_sem] theorem zs9:zbD Tryz.prog 128 1=some (1,1):=by kernel_rfl
@[go_sem] theorem zta:zaW Tryz.prog 128 2=some (2,93):=by kernel_rfl
@[go_sem] theorem ztb:zbD Tryz.prog 128 2=some (2,1):=by kernel_rfl
attribute [go_sem] Tryz.underlying128 Tryz.stoodInHeld128 Tryz.eqGuardType128
@[go_sem] theorem ztc:zaW Tryz.prog 156 0=some (0,9):=by kernel_rfl
@[go_sem] theorem ztd:zbD Tryz.prog 156 0=some (0,1):=by kernel_rfl
@[go_sem] theorem zte:zaW Tryz.prog 156 1=some (1,3):=by kernel_rfl
@[go_sem] theorem ztf:zbD Tryz.prog 156 1=some (1,1):=by kernel_rfl
@[go_sem] theorem ztg:zaW Tryz.prog 156 2=some (2,3):=by kernel_rfl
@[go_sem] theorem zth:zbD Tryz.prog 156 2=some (2,1):=by kernel_rfl
@[go_sem] theorem zti:zaW Tryz.prog 156 3=some (3,3):=by kernel_rfl
@[go_sem] theorem ztj:zbD Tryz.prog 156 3=some (3,1):=by kernel_rfl
@[go_sem] theorem ztk:zaW Tryz.prog 156 4=some (4,3):=by kernel_rfl
@[go_sem] theorem ztl:zbD Tryz.prog 156 4=some (4,1):=by kernel_rfl
@[go_sem] theorem ztm:zaW Tryz.prog 156 5=some (5,4):=by kernel_rfl
@[go_sem] theorem ztn:zbD Tryz.prog 156 5=some (5,1):=by kernel_rfl
attribute [go_sem] Tryz.underlying156 Tryz.stoodInHeld156 Tryz.eqGuardType156
@[go_sem] theorem zto:zaW Tryz.prog 157 0=some (0,9):=by kernel_rfl
@[go_sem] theorem ztp:zbD Tryz.prog 157 0=some (0,1):=by kernel_rfl
@[go_sem] theorem ztq:zaW Tryz.prog 157 1=some (1,3):=by kernel_rfl
@[go_sem] theorem ztr:zbD Tryz.prog 157 1=some (1,1):=by kernel_rfl
@[go_sem] theorem zts:zaW Tryz.prog 157 2=some (2,3):=by kernel_rfl
@[go_sem] theorem ztt:zbD Tryz.prog 157 2=some (2,1):=by kernel_rfl
@[go_sem] theorem ztu:zaW Tryz.prog 157 3=some (3,3):=by kernel_rfl
@[go_sem] theorem ztv:zbD Tryz.prog 157 3=some (3,1):=by kernel_rfl
@[go_sem] theorem ztw:zaW Tryz.prog 157 4=some (4,3):=by kernel_rfl
@[go_sem] theorem ztx:zbD Tryz.prog 157 4=some (4,1):=by kernel_rfl
@[go_sem] theorem zty:zaW Tryz.prog 157 5=some (5,4):=by kernel_rfl
@[go_sem] theorem ztz:zbD Tryz.prog 157 5=some (5,1):=by kernel_rfl
attribute [go_sem] Tryz.underlying157 Tryz.stoodInHeld157 Tryz.eqGuardType157
@[go_sem] theorem ztA:zaW Tryz.prog 161 0=some (0,159):=by kernel_rfl
@[go_sem] theorem ztB:zbD Tryz.prog 161 0=some (0,1):=by kernel_rfl
@[go_sem] theorem ztC:zaW Tryz.prog 161 1=some (1,35):=by kernel_rfl
@[go_sem] theorem ztD:zbD Tryz.prog 161 1=some (1,1):=by kernel_rfl
@[go_sem] theorem ztE:zaW Tryz.prog 161 2=some (2,160):=by kernel_rfl
@[go_sem] theorem ztF:zbD Tryz.prog 161 2=some (2,1):=by kernel_rfl
attribute [go_sem] Tryz.underlying161 Tryz.stoodInHeld161 Tryz.eqGuardType161
@[go_sem] theorem ztG:zaW Tryz.prog 162 0=some (0,159):=by kernel_rfl
@[go_sem] theorem ztH:zbD Tryz.prog 162 0=some (0,1):=by kernel_rfl
@[go_sem] theorem ztI:zaW Tryz.prog 162 1=some (1,35):=by kernel_rfl
@[go_sem] theorem ztJ:zbD Tryz.prog 162 1=some (1,1):=by kernel_rfl
@[go_sem] theorem ztK:zaW Tryz.prog 162 2=some (2,160):=by kernel_rfl
@[go_sem] theorem ztL:zbD Tryz.prog 162 2=some (2,1):=by kernel_rfl
attribute [go_sem] Tryz.underlying162 Tryz.stoodInHeld162 Tryz.eqGuardType162
@[go_sem] theorem ztM:zbD Tryz.prog 187 0=some (0,1):=by kernel_rfl
@[go_sem] theorem ztN:zbD Tryz.prog 187 1=some (1,1):=by kernel_rfl
@[go_sem] theorem ztO:zbD Tryz.prog 188 0=some (0,1):=by kernel_rfl
@[go_sem] theorem ztP:zbD Tryz.prog 188 1=some (1,1):=by kernel_rfl
@[go_sem] theorem ztQ:zaW Tryz.prog 197 0=some (0,9):=by kernel_rfl
@[go_sem] theorem ztR:zbD Tryz.prog 197 0=some (0,1):=by kernel_rfl
@[go_sem] theorem ztS:zaW Tryz.prog 197 1=some (1,3):=by kernel_rfl
@[go_sem] theorem ztT:zbD Tryz.prog 197 1=some (1,1):=by kernel_rfl
@[go_sem] theorem ztU:zaW Tryz.prog 197 2=some (2,3):=by kernel_rfl
@[go_sem] theorem ztV:zbD Tryz.prog 197 2=some (2,1):=by kernel_rfl
@[go_sem] theorem ztW:zaW Tryz.prog 197 3=some (3,3):=by kernel_rfl
@[go_sem] theorem ztX:zbD Tryz.prog 197 3=some (3,1):=by kernel_rfl
@[go_sem] theorem ztY:zaW Tryz.prog 197 4=some (4,3):=by kernel_rfl
@[go_sem] theorem ztZ:zbD Tryz.prog 197 4=some (4,1):=by kernel_rfl
@[go_sem] theorem zt0:zaW Tryz.prog 197 5=some (5,4):=by kernel_rfl
@[go_sem] theorem zt1:zbD Tryz.prog 197 5=some (5,1):=by kernel_rfl
attribute [go_sem] Tryz.underlying197 Tryz.stoodInHeld197 Tryz.eqGuardType197
@[go_sem] theorem zt2:zaW Tryz.prog 221 0=some (0,3):=by kernel_rfl
@[go_sem] theorem zt3:zbD Tryz.prog 221 0=some (0,1):=by kernel_rfl
@[go_sem] theorem zt4:zaW Tryz.prog 221 1=some (1,3):=by kernel_rfl
@[go_sem] theorem zt5:zbD Tryz.prog 221 1=some (1,1):=by kernel_rfl
@[go_sem] theorem zt6:zaW Tryz.prog 221 2=some (2,4):=by kernel_rfl
@[go_sem] theorem zt7:zbD Tryz.prog 221 2=some (2,1):=by kernel_rfl
@[go_sem] theorem zt8:zaW Tryz.prog 221 3=some (3,3):=by kernel_rfl
@[go_sem] theorem zt9:zbD Tryz.prog 221 3=some (3,1):=by kernel_rfl
@[go_sem] theorem zua:zaW Tryz.prog 221 4=some (4,3):=by kernel_rfl
@[go_sem] theorem zub:zbD Tryz.prog 221 4=some (4,1):=by kernel_rfl
attribute [go_sem] Tryz.underlying221 Tryz.stoodInHeld221 Tryz.eqGuardType221
@[go_sem] theorem zuc:zaW Tryz.prog 222 0=some (0,3):=by kernel_rfl
@[go_sem] theorem zud:zbD Tryz.prog 222 0=some (0,1):=by kernel_rfl
@[go_sem] theorem zue:zaW Tryz.prog 222 1=some (1,3):=by kernel_rfl
@[go_sem] theorem zuf:zbD Tryz.prog 222 1=some (1,1):=by kernel_rfl
@[go_sem] theorem zug:zaW Tryz.prog 222 2=some (2,4):=by kernel_rfl
@[go_sem] theorem zuh:zbD Tryz.prog 222 2=some (2,1):=by kernel_rfl
@[go_sem] theorem zui:zaW Tryz.prog 222 3=some (3,3):=by kernel_rfl
@[go_sem] theorem zuj:zbD Tryz.prog 222 3=some (3,1):=by kernel_rfl
@[go_sem] theorem zuk:zaW Tryz.prog 222 4=some (4,3):=by kernel_rfl
@[go_sem] theorem zul:zbD Tryz.prog 222 4=some (4,1):=by kernel_rfl
attribute [go_sem] Tryz.underlying222 Tryz.stoodInHeld222 Tryz.eqGuardType222
@[go_sem] theorem zum:zaW Tryz.prog 229 0=some (0,3):=by kernel_rfl
@[go_sem] theorem zun:zbD Tryz.prog 229 0=some (0,1):=by kernel_rfl
@[go_sem] theorem zuo:zaW Tryz.prog 229 1=some (1,3):=by kernel_rfl
@[go_sem] theorem zup:zbD Tryz.prog 229 1=some (1,1):=by kernel_rfl
@[go_sem] theorem zuq:zaW Tryz.prog 229 2=some (2,3):=by kernel_rfl
@[go_sem] theorem zur:zbD Tryz.prog 229 2=some (2,1):=by kernel_rfl
@[go_sem] theorem zus:zaW Tryz.prog 229 3=some (3,3):=by kernel_rfl
@[go_sem] theorem zut:zbD Tryz.prog 229 3=some (3,1):=by kernel_rfl
@[go_sem] theorem zuu:zaW Tryz.prog 229 4=some (4,4):=by kernel_rfl
@[go_sem] theorem zuv:zbD Tryz.prog 229 4=some (4,1):=by kernel_rfl
attribute [go_sem] Tryz.underlying229 Tryz.stoodInHeld229 Tryz.eqGuardType229
@[go_sem] theorem zuw:zaW Tryz.prog 230 0=some (0,3):=by kernel_rfl
@[go_sem] theorem zux:zbD Tryz.prog 230 0=some (0,1):=by kernel_rfl
@[go_sem] theorem zuy:zaW Tryz.prog 230 1=some (1,3):=by kernel_rfl
@[go_sem] theorem zuz:zbD Tryz.prog 230 1=some (1,1):=by kernel_rfl
@[go_sem] theorem zuA:zaW Tryz.prog 230 2=some (2,3):=by kernel_rfl
@[go_sem] theorem zuB:zbD Tryz.prog 230 2=some (2,1):=by kernel_rfl
@[go_sem] theorem zuC:zaW Tryz.prog 230 3=some (3,3):=by kernel_rfl
@[go_sem] theorem zuD:zbD Tryz.prog 230 3=some (3,1):=by kernel_rfl
@[go_sem] theorem zuE:zaW Tryz.prog 230 4=some (4,4):=by kernel_rfl
@[go_sem] theorem zuF:zbD Tryz.prog 230 4=some (4,1):=by kernel_rfl
attribute [go_sem] Tryz.underlying230 Tryz.stoodInHeld230 Tryz.eqGuardType230
@[go_sem] theorem zuG:zaW Tryz.prog 243 0=some (0,9):=by kernel_rfl
@[go_sem] theorem zuH:zbD Tryz.prog 243 0=some (0,1):=by kernel_rfl
@[go_sem] theorem zuI:zaW Tryz.prog 243 1=some (1,4):=by kernel_rfl
@[go_sem] theorem zuJ:zbD Tryz.prog 243 1=some (1,1):=by kernel_rfl
attribute [go_sem] Tryz.underlying243 Tryz.stoodInHeld243 Tryz.eqGuardType243
@[go_sem] theorem zuK:zaW Tryz.prog 244 0=some (0,9):=by kernel_rfl
@[go_sem] theorem zuL:zbD Tryz.prog 244 0=some (0,1):=by kernel_rfl
@[go_sem] theorem zuM:zaW Tryz.prog 244 1=some (1,4):=by kernel_rfl
@[go_sem] theorem zuN:zbD Tryz.prog 244 1=some (1,1):=by kernel_rfl
attribute [go_sem] Tryz.underlying244 Tryz.stoodInHeld244 Tryz.eqGuardType244
@[go_sem] theorem zuO:zaW Tryz.prog 248 0=some (0,3):=by kernel_rfl
@[go_sem] theorem zuP:zbD Tryz.prog 248 0=some (0,1):=by kernel_rfl
@[go_sem] theorem zuQ:zaW Tryz.prog 248 1=some (1,3):=by kernel_rfl
@[go_sem] theorem zuR:zbD Tryz.prog 248 1=some (1,1):=by kernel_rfl
@[go_sem] theorem zuS:zaW Tryz.prog 248 2=some (2,4):=by kernel_rfl
@[go_sem] theorem zuT:zbD Tryz.prog 248 2=some (2,1):=by kernel_rfl
@[go_sem] theorem zuU:zaW Tryz.prog 248 3=some (3,3):=by kernel_rfl
@[go_sem] theorem zuV:zbD Tryz.prog 248 3=some (3,1):=by kernel_rfl
@[go_sem] theorem zuW:zaW Tryz.prog 248 4=some (4,3):=by kernel_rfl
@[go_sem] theorem zuX:zbD Tryz.prog 248 4=some (4,1):=by kernel_rfl
attribute [go_sem] Tryz.underlying248 Tryz.stoodInHeld248 Tryz.eqGuardType248
@[go_sem] theorem zuY:zaW Tryz.prog 257 0=some (0,62):=by kernel_rfl
@[go_sem] theorem zuZ:zbD Tryz.prog 257 0=some (0,12):=by kernel_rfl
@[go_sem] theorem zu0:zaW Tryz.prog 257 1=some (12,170):=by kernel_rfl
@[go_sem] theorem zu1:zbD Tryz.prog 257 1=some (12,1):=by kernel_rfl
@[go_sem] theorem zu2:zaW Tryz.prog 257 2=some (13,255):=by kernel_rfl
@[go_sem] theorem zu3:zbD Tryz.prog 257 2=some (13,1):=by kernel_rfl
@[go_sem] theorem zu4:zaW Tryz.prog 257 3=some (14,35):=by kernel_rfl
@[go_sem] theorem zu5:zbD Tryz.prog 257 3=some (14,1):=by kernel_rfl
@[go_sem] theorem zu6:zaW Tryz.prog 257 4=some (15,35):=by kernel_rfl
@[go_sem] theorem zu7:zbD Tryz.prog 257 4=some (15,1):=by kernel_rfl
@[go_sem] theorem zu8:zaW Tryz.prog 257 5=some (16,3):=by kernel_rfl
@[go_sem] theorem zu9:zbD Tryz.prog 257 5=some (16,1):=by kernel_rfl
@[go_sem] theorem zva:zaW Tryz.prog 257 6=some (17,4):=by kernel_rfl
@[go_sem] theorem zvb:zbD Tryz.prog 257 6=some (17,1):=by kernel_rfl
attribute [go_sem] Tryz.underlying257 Tryz.stoodInHeld257 Tryz.eqGuardType257
@[go_sem] theorem zvc:zaW Tryz.prog 258 0=some (0,62):=by kernel_rfl
@[go_sem] theorem zvd:zbD Tryz.prog 258 0=some (0,12):=by kernel_rfl
@[go_sem] theorem zve:zaW Tryz.prog 258 1=some (12,170):=by kernel_rfl
@[go_sem] theorem zvf:zbD Tryz.prog 258 1=some (12,1):=by kernel_rfl
@[go_sem] theorem zvg:zaW Tryz.prog 258 2=some (13,255):=by kernel_rfl
@[go_sem] theorem zvh:zbD Tryz.prog 258 2=some (13,1):=by kernel_rfl
@[go_sem] theorem zvi:zaW Tryz.prog 258 3=some (14,35):=by kernel_rfl
@[go_sem] theorem zvj:zbD Tryz.prog 258 3=some (14,1):=by kernel_rfl
@[go_sem] theorem zvk:zaW Tryz.prog 258 4=some (15,35):=by kernel_rfl
@[go_sem] theorem zvl:zbD Tryz.prog 258 4=some (15,1):=by kernel_rfl
@[go_sem] theorem zvm:zaW Tryz.prog 258 5=some (16,3):=by kernel_rfl
@[go_sem] theorem zvn:zbD Tryz.prog 258 5=some (16,1):=by kernel_rfl
@[go_sem] theorem zvo:zaW Tryz.prog 258 6=some (17,4):=by kernel_rfl
@[go_sem] theorem zvp:zbD Tryz.prog 258 6=some (17,1):=by kernel_rfl
attribute [go_sem] Tryz.underlying258 Tryz.stoodInHeld258 Tryz.eqGuardType258
@[go_sem] theorem zvq:zaW Tryz.prog 261 0=some (0,62):=by kernel_rfl
@[go_sem] theorem zvr:zbD Tryz.prog 261 0=some (0,12):=by kernel_rfl
@[go_sem] theorem zvs:zaW Tryz.prog 261 1=some (12,170):=by kernel_rfl
@[go_sem] theorem zvt:zbD Tryz.prog 261 1=some (12,1):=by kernel_rfl
@[go_sem] theorem zvu:zaW Tryz.prog 261 2=some (13,191):=by kernel_rfl
@[go_sem] theorem zvv:zbD Tryz.prog 261 2=some (13,1):=by kernel_rfl
@[go_sem] theorem zvw:zaW Tryz.prog 261 3=some (14,93):=by kernel_rfl
@[go_sem] theorem zvx:zbD Tryz.prog 261 3=some (14,1):=by kernel_rfl
@[go_sem] theorem zvy:zaW Tryz.prog 261 4=some (15,35):=by kernel_rfl
@[go_sem] theorem zvz:zbD Tryz.prog 261 4=some (15,1):=by kernel_rfl
@[go_sem] theorem zvA:zaW Tryz.prog 261 5=some (16,35):=by kernel_rfl
@[go_sem] theorem zvB:zbD Tryz.prog 261 5=some (16,1):=by kernel_rfl
@[go_sem] theorem zvC:zaW Tryz.prog 261 6=some (17,188):=by kernel_rfl
@[go_sem] theorem zvD:zbD Tryz.prog 261 6=some (17,2):=by kernel_rfl
@[go_sem] theorem zvE:zaW Tryz.prog 261 7=some (19,4):=by kernel_rfl
@[go_sem] theorem zvF:zbD Tryz.prog 261 7=some (19,1):=by kernel_rfl
attribute [go_sem] Tryz.underlying261 Tryz.stoodInHeld261 Tryz.eqGuardType261
@[go_sem] theorem zvG:zaW Tryz.prog 262 0=some (0,62):=by kernel_rfl
@[go_sem] theorem zvH:zbD Tryz.prog 262 0=some (0,12):=by kernel_rfl
@[go_sem] theorem zvI:zaW Tryz.prog 262 1=some (12,170):=by kernel_rfl
@[go_sem] theorem zvJ:zbD Tryz.prog 262 1=some (12,1):=by kernel_rfl
@[go_sem] theorem zvK:zaW Tryz.prog 262 2=some (13,191):=by kernel_rfl
@[go_sem] theorem zvL:zbD Tryz.prog 262 2=some (13,1):=by kernel_rfl
@[go_sem] theorem zvM:zaW Tryz.prog 262 3=some (14,93):=by kernel_rfl
@[go_sem] theorem zvN:zbD Tryz.prog 262 3=some (14,1):=by kernel_rfl
@[go_sem] theorem zvO:zaW Tryz.prog 262 4=some (15,35):=by kernel_rfl
@[go_sem] theorem zvP:zbD Tryz.prog 262 4=some (15,1):=by kernel_rfl
@[go_sem] theorem zvQ:zaW Tryz.prog 262 5=some (16,35):=by kernel_rfl
@[go_sem] theorem zvR:zbD Tryz.prog 262 5=some (16,1):=by kernel_rfl
@[go_sem] theorem zvS:zaW Tryz.prog 262 6=some (17,188):=by kernel_rfl
@[go_sem] theorem zvT:zbD Tryz.prog 262 6=some (17,2):=by kernel_rfl
@[go_sem] theorem zvU:zaW Tryz.prog 262 7=some (19,4):=by kernel_rfl
@[go_sem] theorem zvV:zbD Tryz.prog 262 7=some (19,1):=by kernel_rfl
attribute [go_sem] Tryz.underlying262 Tryz.stoodInHeld262 Tryz.eqGuardType262
@[go_sem] theorem zvW:zaW Tryz.prog 265 0=some (0,9):=by kernel_rfl
@[go_sem] theorem zvX:zbD Tryz.prog 265 0=some (0,1):=by kernel_rfl
@[go_sem] theorem zvY:zaW Tryz.prog 265 1=some (1,4):=by kernel_rfl
@[go_sem] theorem zvZ:zbD Tryz.prog 265 1=some (1,1):=by kernel_rfl
attribute [go_sem] Tryz.underlying265 Tryz.stoodInHeld265 Tryz.eqGuardType265
@[go_sem] theorem zv0:zaW Tryz.prog 268 0=some (0,3):=by kernel_rfl
@[go_sem] theorem zv1:zbD Tryz.prog 268 0=some (0,1):=by kernel_rfl
@[go_sem] theorem zv2:zaW Tryz.prog 268 1=some (1,3):=by kernel_rfl
@[go_sem] theorem zv3:zbD Tryz.prog 268 1=some (1,1):=by kernel_rfl
@[go_sem] theorem zv4:zaW Tryz.prog 268 2=some (2,3):=by kernel_rfl
@[go_sem] theorem zv5:zbD Tryz.prog 268 2=some (2,1):=by kernel_rfl
attribute [go_sem] Tryz.underlying268 Tryz.stoodInHeld268 Tryz.eqGuardType268
@[go_sem] theorem zv6:zaW Tryz.prog 271 0=some (0,3):=by kernel_rfl
@[go_sem] theorem zv7:zbD Tryz.prog 271 0=some (0,1):=by kernel_rfl
@[go_sem] theorem zv8:zaW Tryz.prog 271 1=some (1,3):=by kernel_rfl
@[go_sem] theorem zv9:zbD Tryz.prog 271 1=some (1,1):=by kernel_rfl
@[go_sem] theorem zwa:zaW Tryz.prog 271 2=some (2,3):=by kernel_rfl
@[go_sem] theorem zwb:zbD Tryz.prog 271 2=some (2,1):=by kernel_rfl
@[go_sem] theorem zwc:zaW Tryz.prog 271 3=some (3,3):=by kernel_rfl
@[go_sem] theorem zwd:zbD Tryz.prog 271 3=some (3,1):=by kernel_rfl
@[go_sem] theorem zwe:zaW Tryz.prog 271 4=some (4,4):=by kernel_rfl
@[go_sem] theorem zwf:zbD Tryz.prog 271 4=some (4,1):=by kernel_rfl
attribute [go_sem] Tryz.underlying271 Tryz.stoodInHeld271 Tryz.eqGuardType271
@[go_sem] theorem zwg:zaW Tryz.prog 296 0=some (0,3):=by kernel_rfl
@[go_sem] theorem zwh:zbD Tryz.prog 296 0=some (0,1):=by kernel_rfl
@[go_sem] theorem zwi:zaW Tryz.prog 296 1=some (1,3):=by kernel_rfl
@[go_sem] theorem zwj:zbD Tryz.prog 296 1=some (1,1):=by kernel_rfl
@[go_sem] theorem zwk:zaW Tryz.prog 296 2=some (2,3):=by kernel_rfl
@[go_sem] theorem zwl:zbD Tryz.prog 296 2=some (2,1):=by kernel_rfl
attribute [go_sem] Tryz.underlying296 Tryz.stoodInHeld296 Tryz.eqGuardType296
@[go_sem] theorem zwm:zaW Tryz.prog 297 0=some (0,3):=by kernel_rfl
@[go_sem] theorem zwn:zbD Tryz.prog 297 0=some (0,1):=by kernel_rfl
@[go_sem] theorem zwo:zaW Tryz.prog 297 1=some (1,3):=by kernel_rfl
@[go_sem] theorem zwp:zbD Tryz.prog 297 1=some (1,1):=by kernel_rfl
@[go_sem] theorem zwq:zaW Tryz.prog 297 2=some (2,3):=by kernel_rfl
@[go_sem] theorem zwr:zbD Tryz.prog 297 2=some (2,1):=by kernel_rfl
attribute [go_sem] Tryz.underlying297 Tryz.stoodInHeld297 Tryz.eqGuardType297
@[go_sem] theorem zws:zaW Tryz.prog 302 0=some (0,3):=by kernel_rfl
@[go_sem] theorem zwt:zbD Tryz.prog 302 0=some (0,1):=by kernel_rfl
@[go_sem] theorem zwu:zaW Tryz.prog 302 1=some (1,3):=by kernel_rfl
@[go_sem] theorem zwv:zbD Tryz.prog 302 1=some (1,1):=by kernel_rfl
@[go_sem] theorem zww:zaW Tryz.prog 302 2=some (2,3):=by kernel_rfl
@[go_sem] theorem zwx:zbD Tryz.prog 302 2=some (2,1):=by kernel_rfl
@[go_sem] theorem zwy:zaW Tryz.prog 302 3=some (3,3):=by kernel_rfl
@[go_sem] theorem zwz:zbD Tryz.prog 302 3=some (3,1):=by kernel_rfl
attribute [go_sem] Tryz.underlying302 Tryz.stoodInHeld302 Tryz.eqGuardType302
@[go_sem] theorem zwA:zaW Tryz.prog 303 0=some (0,3):=by kernel_rfl
@[go_sem] theorem zwB:zbD Tryz.prog 303 0=some (0,1):=by kernel_rfl
@[go_sem] theorem zwC:zaW Tryz.prog 303 1=some (1,3):=by kernel_rfl
@[go_sem] theorem zwD:zbD Tryz.prog 303 1=some (1,1):=by kernel_rfl
@[go_sem] theorem zwE:zaW Tryz.prog 303 2=some (2,3):=by kernel_rfl
@[go_sem] theorem zwF:zbD Tryz.prog 303 2=some (2,1):=by kernel_rfl
@[go_sem] theorem zwG:zaW Tryz.prog 303 3=some (3,3):=by kernel_rfl
@[go_sem] theorem zwH:zbD Tryz.prog 303 3=some (3,1):=by kernel_rfl
attribute [go_sem] Tryz.underlying303 Tryz.stoodInHeld303 Tryz.eqGuardType303
@[go_sem] theorem zwI:zaW Tryz.prog 312 0=some (0,3):=by kernel_rfl
@[go_sem] theorem zwJ:zbD Tryz.prog 312 0=some (0,1):=by kernel_rfl
@[go_sem] theorem zwK:zaW Tryz.prog 312 1=some (1,3):=by kernel_rfl
@[go_sem] theorem zwL:zbD Tryz.prog 312 1=some (1,1):=by kernel_rfl
@[go_sem] theorem zwM:zaW Tryz.prog 312 2=some (2,3):=by kernel_rfl
@[go_sem] theorem zwN:zbD Tryz.prog 312 2=some (2,1):=by kernel_rfl
attribute [go_sem] Tryz.underlying312 Tryz.stoodInHeld312 Tryz.eqGuardType312
@[go_sem] theorem zwO:zaW Tryz.prog 319 0=some (0,3):=by kernel_rfl
@[go_sem] theorem zwP:zbD Tryz.prog 319 0=some (0,1):=by kernel_rfl
@[go_sem] theorem zwQ:zaW Tryz.prog 319 1=some (1,3):=by kernel_rfl
@[go_sem] theorem zwR:zbD Tryz.prog 319 1=some (1,1):=by kernel_rfl
attribute [go_sem] Tryz.underlying319 Tryz.stoodInHeld319 Tryz.eqGuardType319
@[go_sem] theorem zwS:zaW Tryz.prog 320 0=some (0,3):=by kernel_rfl
@[go_sem] theorem zwT:zbD Tryz.prog 320 0=some (0,1):=by kernel_rfl
@[go_sem] theorem zwU:zaW Tryz.prog 320 1=some (1,3):=by kernel_rfl
@[go_sem] theorem zwV:zbD Tryz.prog 320 1=some (1,1):=by kernel_rfl
attribute [go_sem] Tryz.underlying320 Tryz.stoodInHeld320 Tryz.eqGuardType320
@[go_sem] theorem zwW:zbD Tryz.prog 323 0=some (0,1):=by kernel_rfl
@[go_sem] theorem zwX:zbD Tryz.prog 323 1=some (1,1):=by kernel_rfl
@[go_sem] theorem zwY:zbD Tryz.prog 323 2=some (2,1):=by kernel_rfl
@[go_sem] theorem zwZ:zbD Tryz.prog 323 3=some (3,1):=by kernel_rfl
@[go_sem] theorem zw0:zbD Tryz.prog 323 4=some (4,1):=by kernel_rfl
@[go_sem] theorem zw1:zbD Tryz.prog 323 5=some (5,1):=by kernel_rfl
@[go_sem] theorem zw2:zbD Tryz.prog 323 6=some (6,1):=by kernel_rfl
@[go_sem] theorem zw3:zbD Tryz.prog 323 7=some (7,1):=by kernel_rfl
@[go_sem] theorem zw4:zaW Tryz.prog 349 0=some (0,345):=by kernel_rfl
@[go_sem] theorem zw5:zbD Tryz.prog 349 0=some (0,1):=by kernel_rfl
@[go_sem] theorem zw6:zaW Tryz.prog 349 1=some (1,3):=by kernel_rfl
@[go_sem] theorem zw7:zbD Tryz.prog 349 1=some (1,1):=by kernel_rfl
@[go_sem] theorem zw8:zaW Tryz.prog 349 2=some (2,345):=by kernel_rfl
@[go_sem] theorem zw9:zbD Tryz.prog 349 2=some (2,1):=by kernel_rfl
@[go_sem] theorem zxa:zaW Tryz.prog 349 3=some (3,35):=by kernel_rfl
@[go_sem] theorem zxb:zbD Tryz.prog 349 3=some (3,1):=by kernel_rfl
attribute [go_sem] Tryz.underlying349 Tryz.stoodInHeld349 Tryz.eqGuardType349
@[go_sem] theorem zxc:zaW Tryz.prog 350 0=some (0,345):=by kernel_rfl
@[go_sem] theorem zxd:zbD Tryz.prog 350 0=some (0,1):=by kernel_rfl
@[go_sem] theorem zxe:zaW Tryz.prog 350 1=some (1,3):=by kernel_rfl
@[go_sem] theorem zxf:zbD Tryz.prog 350 1=some (1,1):=by kernel_rfl
@[go_sem] theorem zxg:zaW Tryz.prog 350 2=some (2,345):=by kernel_rfl
@[go_sem] theorem zxh:zbD Tryz.prog 350 2=some (2,1):=by kernel_rfl
@[go_sem] theorem zxi:zaW Tryz.prog 350 3=some (3,35):=by kernel_rfl
@[go_sem] theorem zxj:zbD Tryz.prog 350 3=some (3,1):=by kernel_rfl
attribute [go_sem] Tryz.underlying350 Tryz.stoodInHeld350 Tryz.eqGuardType350
end Go.Proofs.YtbkaaakphpbmiaaGreat
namespace Go.Proofs.YtbkaaakphpbmiaaGreat
open Go Go.SL
set_option maxHeartbeats 1000000
theorem zxk (a:Sl Int) (n:Int) (h:Hp) (ha:a.Ok h) (hn:0≤n∧n≤1048576):Ct Tryz.prog 142 [a.val,.int .i64 n] h fun v h'=>v=.int .i64 (zkB n (Blk.blk a))∧h'=h:=by
 have hl:=ha.max
 rw [zkA (fun _=>rfl) a]
 refine zdm (fun A W=>by simp) Tryz.func142 rfl rfl (by simp) fun W0=>?_
 refine Wk ?_
 refine zc9 rfl (fun hc=>?_) (fun hc=>?_)
 ·refine Wk ?_
  rw [zkI hn hl] at hc
  exact zkH (zkJ hc) (Nat.le_refl _)
 ·refine Wk ?_
  rw [zkI hn hl] at hc ⊢
  rw [(zkK hc).1]
theorem zxl (c:DPoint) (n:Int) (h:Hp) (hc:Enc.ok h c) (hn:0≤n∧n≤1048576):Ct Tryz.prog 215 [.agg #[.string c.name,.bool c.wait],.int .i64 n] h fun v h'=>v=.int .i64 (zkB n (Blk.blk c))∧h'=h:=by
 rw [zlb]
 have o_name:=hc
 refine zdm (fun A W=>by simp) Tryz.func215 rfl rfl (by simp) fun W0=>?_
 refine Wk ?_
 have hl0:c.name.size≤9223372036854775807:=o_name
 refine zc9 rfl (fun hd=>?_) (fun hd=>?_)
 ·refine Wk ?_
  rw [zkI hn hl0] at hd
  exact zkH (zkJ hd) (by first|exact Nat.le_refl _|omega)
 rw [zkI hn hl0] at hd
 have hp0:=zkK hd
 refine Wk ?_
 rw [zkI hn hl0,hp0.1];rfl
theorem zxm (c:DShip) (n:Int) (h:Hp) (hc:Enc.ok h c) (hn:0≤n∧n≤1048576):Ct Tryz.prog 141 [.agg #[.string c.name,.int .i64 c.length,.int .i64 c.draught,.int .i64 c.line,.int .i64 c.tugs,.bool c.slow],.int .i64 n] h fun v h'=>v=.int .i64 (zkB n (Blk.blk c))∧h'=h:=by
 rw [zlj]
 have hc':=hc
 obtain ⟨o_name,o_length,o_draught,o_line,o_tugs⟩:=hc'
 refine zdm (fun A W=>by simp) Tryz.func141 rfl rfl (by simp) fun W0=>?_
 refine Wk ?_
 have hl0:c.name.size≤9223372036854775807:=o_name
 refine zc9 rfl (fun hd=>?_) (fun hd=>?_)
 ·refine Wk ?_
  rw [zkI hn hl0] at hd
  exact zkH (zkJ hd) (by first|exact Nat.le_refl _|omega)
 rw [zkI hn hl0] at hd
 have hp0:=zkK hd
 refine Wk ?_
 rw [zkI hn hl0,hp0.1];rfl
theorem zxn (a:Sl DCall) (n:Int) (h:Hp) (ha:a.Ok h) (hn:0≤n∧n≤1048576):Ct Tryz.prog 14 [a.val,.int .i64 n] h fun v h'=>v=.int .i64 (zkB n (Blk.blk a))∧h'=h:=by
 have hl:=ha.max
 rw [zkA (fun _=>rfl) a]
 refine zdm (fun A W=>by simp) Tryz.func14 rfl rfl (by simp) fun W0=>?_
 refine Wk ?_
 refine zc9 rfl (fun hc=>?_) (fun hc=>?_)
 ·refine Wk ?_
  rw [zkI hn hl] at hc
  exact zkH (zkJ hc) (Nat.le_refl _)
 ·refine Wk ?_
  rw [zkI hn hl] at hc ⊢
  rw [(zkK hc).1]
theorem zxo (c:DCrew) (n:Int) (h:Hp) (hc:Enc.ok h c) (hn:0≤n∧n≤1048576):Ct Tryz.prog 63 [.agg #[.int .i64 c.tugs,.int .i64 c.pilots,.int .i64 c.rest,c.moves.val],.int .i64 n] h fun v h'=>v=.int .i64 (zkB n (Blk.blk c))∧h'=h:=by
 rw [zkZ]
 have hc':=hc
 obtain ⟨o_tugs,o_pilots,o_rest,o_moves⟩:=hc'
 refine zdm (fun A W=>by simp) Tryz.func63 rfl rfl (by simp) fun W0=>?_
 repeat' first|refine zid rfl ?_|refine zc4 rfl ?_|refine zc7 ?_|refine zc8 ?_|refine zc5 ?_|refine zc6 ?_|refine zhE (fun _=>zxk _ _ _ o_moves hn) ?_|(simp (maxSteps:=2000000) only [go_sem,yqa,yqb,yqc,yqd,yqe,yqf];try rfl)|refine zc3 ?_|(refine And.intro ?_ ?_;focus (intros;simp_all only [yqg,yqh,yqi,and_self,true_and,and_true];done))
 refine zc9 rfl (fun hd=>?_) (fun hd=>?_)
 ·refine Wk ?_
  exact zkH (of_decide_eq_true hd) (by omega)
 have hp0:=zkD hd
 exact Wk0
theorem zxp (a:Sl DPart) (n:Int) (h:Hp) (ha:a.Ok h) (hn:0≤n∧n≤1048576):Ct Tryz.prog 214 [a.val,.int .i64 n] h fun v h'=>v=.int .i64 (zkB n (Blk.blk a))∧h'=h:=by
 have hl:=ha.max
 rw [zkA (fun _=>rfl) a]
 refine zdm (fun A W=>by simp) Tryz.func214 rfl rfl (by simp) fun W0=>?_
 refine Wk ?_
 refine zc9 rfl (fun hc=>?_) (fun hc=>?_)
 ·refine Wk ?_
  rw [zkI hn hl] at hc
  exact zkH (zkJ hc) (Nat.le_refl _)
 ·refine Wk ?_
  rw [zkI hn hl] at hc ⊢
  rw [(zkK hc).1]
theorem zHA (a:Sl DPassage) (n:Int) (h:Hp) (ha:a.Ok h) (hn:0≤n∧n≤1048576):Ct Tryz.prog 121 [a.val,.int .i64 n] h fun v h'=>v=.int .i64 (zkB n (Blk.blk a))∧h'=h:=by
 have hl:=ha.max
 rw [zkA (fun _=>rfl) a]
 refine zdm (fun A W=>by simp) Tryz.func121 rfl rfl (by simp) fun W0=>?_
 refine Wk ?_
 refine zc9 rfl (fun hc=>?_) (fun hc=>?_)
 ·refine Wk ?_
  rw [zkI hn hl] at hc
  exact zkH (zkJ hc) (Nat.le_refl _)
 ·refine Wk ?_
  rw [zkI hn hl] at hc ⊢
  rw [(zkK hc).1]
theorem zxq (a:Sl DPoint) (n:Int) (h:Hp) (ha:a.Ok h) (hn:0≤n∧n≤1048576):Ct Tryz.prog 139 [a.val,.int .i64 n] h fun v h'=>v=.int .i64 (zkB n (Blk.blk a))∧h'=h:=by
 have hl:=ha.max
 rw [zkz]
 refine zdm (fun A W=>by simp) Tryz.func139 rfl rfl (by simp) fun W0=>?_
 refine Wk ?_
 refine zc9 rfl (fun hc=>?_) (fun hc=>?_)
 ·refine Wk ?_
  rw [zkI hn hl] at hc
  exact zkH (zkJ hc) (Nat.le_add_right _ _)
 rw [zkI hn hl] at hc
 have hp:=zkK hc
 refine Wk ?_
 refine zdd (ι:=Nat) (fun k=>⟨[(0,true,.c (.v a.val)),(1,true,.c (.v (.int .i64 (zkB n (a.l.length+((a.l.map Blk.blk).take k).sum))))),(5,true,.c (.v (.int .i64 k)))],[],h,0⟩) (fun k=>k≤a.l.length∧0≤zkB n (a.l.length+((a.l.map Blk.blk).take k).sum)) (fun k=>a.l.length - k) 0 ⟨Nat.zero_le _,hp.2⟩ ?_ ?_
 ·refine Evs ?_
  exact ⟨by rw [zkI hn hl,hp.1];rfl,rfl⟩
 intro k hk
 refine Wk ?_
 refine zc9 rfl (fun hd=>?_) (fun hd=>?_)
 ·have hlt:=zjG hd
  have hlm:k < (a.l.map Blk.blk).length:=by rw [List.length_map];exact hlt
  repeat' first|refine zid rfl ?_|refine zc4 rfl ?_|refine zc7 ?_|refine zc8 ?_|refine zc5 ?_|refine zc6 ?_|refine zhE (fun _=>zxl _ _ _ (ha.el hlt) (zkF hn hk.2)) ?_|(simp (maxSteps:=2000000) only [go_sem,yqa,yqb,yqc,yqd,yqe,yqf,zlc ha hlt,ha.some hlt,hlt,yqj];try rfl)|refine zc3 ?_|(refine And.intro ?_ ?_;focus (intros;simp_all only [yqg,yqh,yqi,and_self,true_and,and_true];done))
  refine zc9 rfl (fun hg=>?_) (fun hg=>?_)
  ·refine Wk ?_
   rw [zkC hk.2] at hg
   refine zkH (of_decide_eq_true hg) ?_
   have:=zkL hlm
   rw [List.getElem_map] at this
   have:=zkM (l:=a.l.map Blk.blk) (k:=k+1)
   omega
  ·rw [zkC hk.2] at hg
   have hs:=zkL hlm
   rw [List.getElem_map] at hs
   have he:a.l.length+((a.l.map Blk.blk).take k).sum+Blk.blk a.l[k]=a.l.length+((a.l.map Blk.blk).take (k+1)).sum:=by omega
   rw [he] at hg
   refine Wk ?_
   exact ⟨k+1,⟨hlt,zkD hg⟩,by omega,by rw [zkC hk.2,he],zjA (zjz hlt hl)⟩
 ·have hge:=zjH hd
  refine Wk ?_
  rw [List.take_of_length_le (by rw [List.length_map];exact hge)]
theorem zxr (a:Sl DSegment) (n:Int) (h:Hp) (ha:a.Ok h) (hn:0≤n∧n≤1048576):Ct Tryz.prog 140 [a.val,.int .i64 n] h fun v h'=>v=.int .i64 (zkB n (Blk.blk a))∧h'=h:=by
 have hl:=ha.max
 rw [zkA (fun _=>rfl) a]
 refine zdm (fun A W=>by simp) Tryz.func140 rfl rfl (by simp) fun W0=>?_
 refine Wk ?_
 refine zc9 rfl (fun hc=>?_) (fun hc=>?_)
 ·refine Wk ?_
  rw [zkI hn hl] at hc
  exact zkH (zkJ hc) (Nat.le_refl _)
 ·refine Wk ?_
  rw [zkI hn hl] at hc ⊢
  rw [(zkK hc).1]
theorem zxs (a:Sl DShip) (n:Int) (h:Hp) (ha:a.Ok h) (hn:0≤n∧n≤1048576):Ct Tryz.prog 62 [a.val,.int .i64 n] h fun v h'=>v=.int .i64 (zkB n (Blk.blk a))∧h'=h:=by
 have hl:=ha.max
 rw [zkz]
 refine zdm (fun A W=>by simp) Tryz.func62 rfl rfl (by simp) fun W0=>?_
 refine Wk ?_
 refine zc9 rfl (fun hc=>?_) (fun hc=>?_)
 ·refine Wk ?_
  rw [zkI hn hl] at hc
  exact zkH (zkJ hc) (Nat.le_add_right _ _)
 rw [zkI hn hl] at hc
 have hp:=zkK hc
 refine Wk ?_
 refine zdd (ι:=Nat) (fun k=>⟨[(0,true,.c (.v a.val)),(1,true,.c (.v (.int .i64 (zkB n (a.l.length+((a.l.map Blk.blk).take k).sum))))),(5,true,.c (.v (.int .i64 k)))],[],h,0⟩) (fun k=>k≤a.l.length∧0≤zkB n (a.l.length+((a.l.map Blk.blk).take k).sum)) (fun k=>a.l.length - k) 0 ⟨Nat.zero_le _,hp.2⟩ ?_ ?_
 ·refine Evs ?_
  exact ⟨by rw [zkI hn hl,hp.1];rfl,rfl⟩
 intro k hk
 refine Wk ?_
 refine zc9 rfl (fun hd=>?_) (fun hd=>?_)
 ·have hlt:=zjG hd
  have hlm:k < (a.l.map Blk.blk).length:=by rw [List.length_map];exact hlt
  repeat' first|refine zid rfl ?_|refine zc4 rfl ?_|refine zc7 ?_|refine zc8 ?_|refine zc5 ?_|refine zc6 ?_|refine zhE (fun _=>zxm _ _ _ (ha.el hlt) (zkF hn hk.2)) ?_|(simp (maxSteps:=2000000) only [go_sem,yqa,yqb,yqc,yqd,yqe,yqf,zlk ha hlt,ha.some hlt,hlt,yqj];try rfl)|refine zc3 ?_|(refine And.intro ?_ ?_;focus (intros;simp_all only [yqg,yqh,yqi,and_self,true_and,and_true];done))
  refine zc9 rfl (fun hg=>?_) (fun hg=>?_)
  ·refine Wk ?_
   rw [zkC hk.2] at hg
   refine zkH (of_decide_eq_true hg) ?_
   have:=zkL hlm
   rw [List.getElem_map] at this
   have:=zkM (l:=a.l.map Blk.blk) (k:=k+1)
   omega
  ·rw [zkC hk.2] at hg
   have hs:=zkL hlm
   rw [List.getElem_map] at hs
   have he:a.l.length+((a.l.map Blk.blk).take k).sum+Blk.blk a.l[k]=a.l.length+((a.l.map Blk.blk).take (k+1)).sum:=by omega
   rw [he] at hg
   refine Wk ?_
   exact ⟨k+1,⟨hlt,zkD hg⟩,by omega,by rw [zkC hk.2,he],zjA (zjz hlt hl)⟩
 ·have hge:=zjH hd
  refine Wk ?_
  rw [List.take_of_length_le (by rw [List.length_map];exact hge)]
theorem zxt (a:Sl DSurge) (n:Int) (h:Hp) (ha:a.Ok h) (hn:0≤n∧n≤1048576):Ct Tryz.prog 138 [a.val,.int .i64 n] h fun v h'=>v=.int .i64 (zkB n (Blk.blk a))∧h'=h:=by
 have hl:=ha.max
 rw [zkA (fun _=>rfl) a]
 refine zdm (fun A W=>by simp) Tryz.func138 rfl rfl (by simp) fun W0=>?_
 refine Wk ?_
 refine zc9 rfl (fun hc=>?_) (fun hc=>?_)
 ·refine Wk ?_
  rw [zkI hn hl] at hc
  exact zkH (zkJ hc) (Nat.le_refl _)
 ·refine Wk ?_
  rw [zkI hn hl] at hc ⊢
  rw [(zkK hc).1]
theorem zxu (c:DChart) (n:Int) (h:Hp) (hc:Enc.ok h c) (hn:0≤n∧n≤1048576):Ct Tryz.prog 61 [.agg #[c.points.val,c.segments.val],.int .i64 n] h fun v h'=>v=.int .i64 (zkB n (Blk.blk c))∧h'=h:=by
 rw [zlh]
 have hc':=hc
 obtain ⟨o_points,o_segments⟩:=hc'
 refine zdm (fun A W=>by simp) Tryz.func61 rfl rfl (by simp) fun W0=>?_
 repeat' first|refine zid rfl ?_|refine zc4 rfl ?_|refine zc7 ?_|refine zc8 ?_|refine zc5 ?_|refine zc6 ?_|refine zhE (fun _=>zxq _ _ _ o_points hn) ?_|(simp (maxSteps:=2000000) only [go_sem,yqa,yqb,yqc,yqd,yqe,yqf];try rfl)|refine zc3 ?_|(refine And.intro ?_ ?_;focus (intros;simp_all only [yqg,yqh,yqi,and_self,true_and,and_true];done))
 refine zc9 rfl (fun hd=>?_) (fun hd=>?_)
 ·refine Wk ?_
  exact zkH (of_decide_eq_true hd) (by omega)
 have hp0:=zkD hd
 repeat' first|refine zid rfl ?_|refine zc4 rfl ?_|refine zc7 ?_|refine zc8 ?_|refine zc5 ?_|refine zc6 ?_|refine zhE (fun _=>zxr _ _ _ o_segments (zkF hn hp0)) ?_|(simp (maxSteps:=2000000) only [go_sem,yqa,yqb,yqc,yqd,yqe,yqf];try rfl)|refine zc3 ?_|(refine And.intro ?_ ?_;focus (intros;simp_all only [yqg,yqh,yqi,and_self,true_and,and_true];done))
 refine zc9 rfl (fun hd=>?_) (fun hd=>?_)
 ·refine Wk ?_
  rw [zkC hp0] at hd
  exact zkH (of_decide_eq_true hd) (by omega)
 have hp1:=zkD hd
 rw [zkC hp0] at hp1
 refine Wk ?_
 rw [zkC hp0]
theorem zHB (c:DOption) (n:Int) (h:Hp) (hc:Enc.ok h c) (hn:0≤n∧n≤1048576):Ct Tryz.prog 47 [.agg #[.int .i64 c.start,.int .i64 c.arr,.int .i64 c.cost,c.pas.val],.int .i64 n] h fun v h'=>v=.int .i64 (zkB n (Blk.blk c))∧h'=h:=by
 rw [zkV]
 have hc':=hc
 obtain ⟨o_start,o_arr,o_cost,o_pas⟩:=hc'
 refine zdm (fun A W=>by simp) Tryz.func47 rfl rfl (by simp) fun W0=>?_
 repeat' first|refine zid rfl ?_|refine zc4 rfl ?_|refine zc7 ?_|refine zc8 ?_|refine zc5 ?_|refine zc6 ?_|refine zhE (fun _=>zHA _ _ _ o_pas hn) ?_|(simp (maxSteps:=2000000) only [go_sem,yqa,yqb,yqc,yqd,yqe,yqf];try rfl)|refine zc3 ?_|(refine And.intro ?_ ?_;focus (intros;simp_all only [yqg,yqh,yqi,and_self,true_and,and_true];done))
 refine zc9 rfl (fun hd=>?_) (fun hd=>?_)
 ·refine Wk ?_
  exact zkH (of_decide_eq_true hd) (by omega)
 have hp0:=zkD hd
 exact Wk0
theorem zxv (c:DTide) (n:Int) (h:Hp) (hc:Enc.ok h c) (hn:0≤n∧n≤1048576):Ct Tryz.prog 137 [.agg #[.int .i64 c.mean,c.parts.val],.int .i64 n] h fun v h'=>v=.int .i64 (zkB n (Blk.blk c))∧h'=h:=by
 rw [zk4]
 have hc':=hc
 obtain ⟨o_mean,o_parts⟩:=hc'
 refine zdm (fun A W=>by simp) Tryz.func137 rfl rfl (by simp) fun W0=>?_
 repeat' first|refine zid rfl ?_|refine zc4 rfl ?_|refine zc7 ?_|refine zc8 ?_|refine zc5 ?_|refine zc6 ?_|refine zhE (fun _=>zxp _ _ _ o_parts hn) ?_|(simp (maxSteps:=2000000) only [go_sem,yqa,yqb,yqc,yqd,yqe,yqf];try rfl)|refine zc3 ?_|(refine And.intro ?_ ?_;focus (intros;simp_all only [yqg,yqh,yqi,and_self,true_and,and_true];done))
 refine zc9 rfl (fun hd=>?_) (fun hd=>?_)
 ·refine Wk ?_
  exact zkH (of_decide_eq_true hd) (by omega)
 have hp0:=zkD hd
 exact Wk0
theorem zxw (c:DForecast) (n:Int) (h:Hp) (hc:Enc.ok h c) (hn:0≤n∧n≤1048576):Ct Tryz.prog 60 [.agg #[.int .i64 c.tide.mean,c.tide.parts.val,c.surges.val],.int .i64 n] h fun v h'=>v=.int .i64 (zkB n (Blk.blk c))∧h'=h:=by
 rw [zk9]
 have hc':=hc
 obtain ⟨o_tide,o_surges⟩:=hc'
 refine zdm (fun A W=>by simp) Tryz.func60 rfl rfl (by simp) fun W0=>?_
 repeat' first|refine zid rfl ?_|refine zc4 rfl ?_|refine zc7 ?_|refine zc8 ?_|refine zc5 ?_|refine zc6 ?_|refine zhE (fun _=>zxv _ _ _ o_tide hn) ?_|(simp (maxSteps:=2000000) only [go_sem,yqa,yqb,yqc,yqd,yqe,yqf];try rfl)|refine zc3 ?_|(refine And.intro ?_ ?_;focus (intros;simp_all only [yqg,yqh,yqi,and_self,true_and,and_true];done))
 refine zc9 rfl (fun hd=>?_) (fun hd=>?_)
 ·refine Wk ?_
  exact zkH (of_decide_eq_true hd) (by omega)
 have hp0:=zkD hd
 repeat' first|refine zid rfl ?_|refine zc4 rfl ?_|refine zc7 ?_|refine zc8 ?_|refine zc5 ?_|refine zc6 ?_|refine zhE (fun _=>zxt _ _ _ o_surges (zkF hn hp0)) ?_|(simp (maxSteps:=2000000) only [go_sem,yqa,yqb,yqc,yqd,yqe,yqf];try rfl)|refine zc3 ?_|(refine And.intro ?_ ?_;focus (intros;simp_all only [yqg,yqh,yqi,and_self,true_and,and_true];done))
 refine zc9 rfl (fun hd=>?_) (fun hd=>?_)
 ·refine Wk ?_
  rw [zkC hp0] at hd
  exact zkH (of_decide_eq_true hd) (by omega)
 have hp1:=zkD hd
 rw [zkC hp0] at hp1
 refine Wk ?_
 rw [zkC hp0]
theorem zUv (a:Sl DOption) (n:Int) (h:Hp) (ha:a.Ok h) (hn:0≤n∧n≤1048576):Ct Tryz.prog 51 [a.val,.int .i64 n] h fun v h'=>v=.int .i64 (zkB n (Blk.blk a))∧h'=h:=by
 have hl:=ha.max
 rw [zkz]
 refine zdm (fun A W=>by simp) Tryz.func51 rfl rfl (by simp) fun W0=>?_
 refine Wk ?_
 refine zc9 rfl (fun hc=>?_) (fun hc=>?_)
 ·refine Wk ?_
  rw [zkI hn hl] at hc
  exact zkH (zkJ hc) (Nat.le_add_right _ _)
 rw [zkI hn hl] at hc
 have hp:=zkK hc
 refine Wk ?_
 refine zdd (ι:=Nat) (fun k=>⟨[(0,true,.c (.v a.val)),(1,true,.c (.v (.int .i64 (zkB n (a.l.length+((a.l.map Blk.blk).take k).sum))))),(5,true,.c (.v (.int .i64 k)))],[],h,0⟩) (fun k=>k≤a.l.length∧0≤zkB n (a.l.length+((a.l.map Blk.blk).take k).sum)) (fun k=>a.l.length - k) 0 ⟨Nat.zero_le _,hp.2⟩ ?_ ?_
 ·refine Evs ?_
  exact ⟨by rw [zkI hn hl,hp.1];rfl,rfl⟩
 intro k hk
 refine Wk ?_
 refine zc9 rfl (fun hd=>?_) (fun hd=>?_)
 ·have hlt:=zjG hd
  have hlm:k < (a.l.map Blk.blk).length:=by rw [List.length_map];exact hlt
  repeat' first|refine zid rfl ?_|refine zc4 rfl ?_|refine zc7 ?_|refine zc8 ?_|refine zc5 ?_|refine zc6 ?_|refine zhE (fun _=>zHB _ _ _ (ha.el hlt) (zkF hn hk.2)) ?_|(simp (maxSteps:=2000000) only [go_sem,yqa,yqb,yqc,yqd,yqe,yqf,zkW ha hlt,ha.some hlt,hlt,yqj];try rfl)|refine zc3 ?_|(refine And.intro ?_ ?_;focus (intros;simp_all only [yqg,yqh,yqi,and_self,true_and,and_true];done))
  refine zc9 rfl (fun hg=>?_) (fun hg=>?_)
  ·refine Wk ?_
   rw [zkC hk.2] at hg
   refine zkH (of_decide_eq_true hg) ?_
   have:=zkL hlm
   rw [List.getElem_map] at this
   have:=zkM (l:=a.l.map Blk.blk) (k:=k+1)
   omega
  ·rw [zkC hk.2] at hg
   have hs:=zkL hlm
   rw [List.getElem_map] at hs
   have he:a.l.length+((a.l.map Blk.blk).take k).sum+Blk.blk a.l[k]=a.l.length+((a.l.map Blk.blk).take (k+1)).sum:=by omega
   rw [he] at hg
   refine Wk ?_
   exact ⟨k+1,⟨hlt,zkD hg⟩,by omega,by rw [zkC hk.2,he],zjA (zjz hlt hl)⟩
 ·have hge:=zjH hd
  refine Wk ?_
  rw [List.take_of_length_le (by rw [List.length_map];exact hge)]
theorem zxx (c:DHarbour) (n:Int) (h:Hp) (hc:Enc.ok h c) (hn:0≤n∧n≤1048576):Ct Tryz.prog 13 [.agg #[.int .i64 c.forecast.tide.mean,c.forecast.tide.parts.val,c.forecast.surges.val,c.chart.points.val,c.chart.segments.val,c.fleet.val,.int .i64 c.regime.gap,.bool c.regime.noMeet,.int .i64 c.crew.tugs,.int .i64 c.crew.pilots,.int .i64 c.crew.rest,c.crew.moves.val],.int .i64 n] h fun v h'=>v=.int .i64 (zkB n (Blk.blk c))∧h'=h:=by
 rw [zlo]
 have hc':=hc
 obtain ⟨o_forecast,o_chart,o_fleet,o_regime,o_crew⟩:=hc'
 refine zdm (fun A W=>by simp) Tryz.func13 rfl rfl (by simp) fun W0=>?_
 repeat' first|refine zid rfl ?_|refine zc4 rfl ?_|refine zc7 ?_|refine zc8 ?_|refine zc5 ?_|refine zc6 ?_|refine zhE (fun _=>zxw _ _ _ o_forecast hn) ?_|(simp (maxSteps:=2000000) only [go_sem,yqa,yqb,yqc,yqd,yqe,yqf];try rfl)|refine zc3 ?_|(refine And.intro ?_ ?_;focus (intros;simp_all only [yqg,yqh,yqi,and_self,true_and,and_true];done))
 refine zc9 rfl (fun hd=>?_) (fun hd=>?_)
 ·refine Wk ?_
  exact zkH (of_decide_eq_true hd) (by omega)
 have hp0:=zkD hd
 repeat' first|refine zid rfl ?_|refine zc4 rfl ?_|refine zc7 ?_|refine zc8 ?_|refine zc5 ?_|refine zc6 ?_|refine zhE (fun _=>zxu _ _ _ o_chart (zkF hn hp0)) ?_|(simp (maxSteps:=2000000) only [go_sem,yqa,yqb,yqc,yqd,yqe,yqf];try rfl)|refine zc3 ?_|(refine And.intro ?_ ?_;focus (intros;simp_all only [yqg,yqh,yqi,and_self,true_and,and_true];done))
 refine zc9 rfl (fun hd=>?_) (fun hd=>?_)
 ·refine Wk ?_
  rw [zkC hp0] at hd
  exact zkH (of_decide_eq_true hd) (by omega)
 have hp1:=zkD hd
 rw [zkC hp0] at hp1
 repeat' first|refine zid rfl ?_|refine zc4 rfl ?_|refine zc7 ?_|refine zc8 ?_|refine zc5 ?_|refine zc6 ?_|refine zhE (fun _=>zxs _ _ _ o_fleet (by rw [zkC hp0];exact zkF hn hp1)) ?_|(simp (maxSteps:=2000000) only [go_sem,yqa,yqb,yqc,yqd,yqe,yqf];try rfl)|refine zc3 ?_|(refine And.intro ?_ ?_;focus (intros;simp_all only [yqg,yqh,yqi,and_self,true_and,and_true];done))
 refine zc9 rfl (fun hd=>?_) (fun hd=>?_)
 ·refine Wk ?_
  rw [zkC hp0] at hd
  rw [zkC hp1] at hd
  exact zkH (of_decide_eq_true hd) (by omega)
 have hp2:=zkD hd
 rw [zkC hp0,zkC hp1] at hp2
 repeat' first|refine zid rfl ?_|refine zc4 rfl ?_|refine zc7 ?_|refine zc8 ?_|refine zc5 ?_|refine zc6 ?_|refine zhE (fun _=>zxo _ _ _ o_crew (by rw [zkC hp0,zkC hp1];exact zkF hn hp2)) ?_|(simp (maxSteps:=2000000) only [go_sem,yqa,yqb,yqc,yqd,yqe,yqf];try rfl)|refine zc3 ?_|(refine And.intro ?_ ?_;focus (intros;simp_all only [yqg,yqh,yqi,and_self,true_and,and_true];done))
 refine zc9 rfl (fun hd=>?_) (fun hd=>?_)
 ·refine Wk ?_
  rw [zkC hp0] at hd
  rw [zkC hp1] at hd
  rw [zkC hp2] at hd
  exact zkH (of_decide_eq_true hd) (by omega)
 have hp3:=zkD hd
 rw [zkC hp0,zkC hp1,zkC hp2] at hp3
 refine Wk ?_
 rw [zkC hp0,zkC hp1,zkC hp2]
end Go.Proofs.YtbkaaakphpbmiaaGreat
namespace Go.Proofs.YtbkaaakphpbmiaaGreat
open Go Go.SL
set_option maxHeartbeats 1000000
theorem zxy (c:DCall) (h:Hp):Ct Tryz.prog 30 [.agg #[.int .i64 c.ship,.int .i64 c.src,.int .i64 c.dst,.int .i64 c.ready,.int .i64 c.due]] h fun v h'=>v=.agg #[.int .i64 c.ship,.int .i64 c.src,.int .i64 c.dst,.int .i64 c.ready,.int .i64 c.due]∧h'=h:=by
 refine zdm (fun A W=>by simp) Tryz.func30 rfl rfl (by simp) fun W0=>?_
 exact Wk0
theorem zxz (a:Sl Int) (h:Hp) (ha:a.Ok h) (hb:Blk.blk a≤1048576):Ct Tryz.prog 18 [a.val] h fun v h'=>∃ s:Sl Int,v=s.val∧Con.con s=Con.con a∧s.Ok h'∧Mine h h' s:=by
 have hl:a.l.length≤1048576:=Nat.le_trans (Nat.le_add_right _ _) hb
 refine zdm (fun A W=>by simp) Tryz.func18 rfl rfl (by simp) fun W0=>?_
 refine Wk ?_
 refine ⟨by simp only [maxLen];omega,by omega,?_⟩
 refine Wk ?_
 refine zdd (ι:=Nat) (fun k=>⟨[(0,true,.c (.v a.val)),(3,true,.c (.s 0)),(4,true,.c (.v (.int .i64 k)))],[(0,.row 3 1 a.l.length (conv (a.l.take k) a.l.length [.int .i64 0]))],h,1⟩) (fun k=>k≤a.l.length) (fun k=>a.l.length - k) 0 (Nat.zero_le _) ?_ ?_
 ·refine Evs ?_
  exact ⟨rfl,zj5 (zj9 (α:=Int) (z:=#[.int .i64 0]) (by decide))⟩
 intro k hk
 refine Wk ?_
 refine zc9 rfl (fun hd=>?_) (fun hd=>?_)
 ·have hlt:=zjG hd
  have hle:(a.l.take k).length=k:=by rw [List.length_take];omega
  repeat' first|refine zid rfl ?_|refine zc4 rfl ?_|refine zc7 ?_|refine zc8 ?_|refine zc5 ?_|refine zc6 ?_|(simp (maxSteps:=2000000) only [go_sem,yqa,yqb,yqc,yqd,yqe,yqf,zkO ha hlt,ha.some hlt,hlt,yqj];try rfl)|refine zc3 ?_|(refine And.intro ?_ ?_;focus (intros;simp_all only [yqg,yqh,yqi,and_self,true_and,and_true];done))
  refine ⟨?_,?_⟩
  ·rw [zj6 (by omega) rfl];exact Nat.le_trans (Nat.le_of_eq (by simp only [Nat.add_mul])) (Nat.mul_le_mul_right 1 (show k+1≤a.l.length from hlt))
  refine Wk ?_
  exact ⟨k+1,hlt,by omega,zjA (zjz hlt (by omega)),zj5 (by rw [List.take_succ_eq_append_getElem hlt];exact zj8 hle hlt rfl)⟩
 ·have hge:=zjH hd
  refine zc6 ?_
  refine Evs ?_
  refine zl1 0 a.l rfl rfl rfl (by rw [List.take_of_length_le hge];exact zj7 (Nat.le_refl _)) (by decide) (fun x hx=>by obtain ⟨i,hi,rfl⟩:=List.getElem_of_mem hx;exact ha.el hi) h (Hp.le_refl _) (Mines.flat (fun _=>rfl) (fun _=>trivial)) fun s h' e1 e2 e3 e4=>?_
  refine Wk ?_
  exact ⟨s,rfl,by rw [zkw,zkw,e1],e2,e4⟩
theorem zxA (c:DPart) (h:Hp):Ct Tryz.prog 265 [.agg #[.int .i64 c.amp,.int .i64 c.period,.int .i64 c.phase]] h fun v h'=>v=.agg #[.int .i64 c.amp,.int .i64 c.period,.int .i64 c.phase]∧h'=h:=by
 refine zdm (fun A W=>by simp) Tryz.func265 rfl rfl (by simp) fun W0=>?_
 exact Wk0
theorem zHC (c:DPassage) (h:Hp):Ct Tryz.prog 204 [.agg #[.int .i64 c.ship,.int .i64 c.seg,.bool c.toward,.int .i64 c.start,.int .i64 c.fin]] h fun v h'=>v=.agg #[.int .i64 c.ship,.int .i64 c.seg,.bool c.toward,.int .i64 c.start,.int .i64 c.fin]∧h'=h:=by
 refine zdm (fun A W=>by simp) Tryz.func204 rfl rfl (by simp) fun W0=>?_
 exact Wk0
theorem zxB (c:DPoint) (h:Hp):Ct Tryz.prog 218 [.agg #[.string c.name,.bool c.wait]] h fun v h'=>v=.agg #[.string c.name,.bool c.wait]∧h'=h:=by
 refine zdm (fun A W=>by simp) Tryz.func218 rfl rfl (by simp) fun W0=>?_
 exact Wk0
theorem zxC (c:DRegime) (h:Hp):Ct Tryz.prog 70 [.agg #[.int .i64 c.gap,.bool c.noMeet]] h fun v h'=>v=.agg #[.int .i64 c.gap,.bool c.noMeet]∧h'=h:=by
 refine zdm (fun A W=>by simp) Tryz.func70 rfl rfl (by simp) fun W0=>?_
 exact Wk0
theorem zxD (c:DSegment) (h:Hp):Ct Tryz.prog 219 [.agg #[.int .i64 c.a,.int .i64 c.b,.int .i64 c.depth,.int .i64 c.minutes,.bool c.meet]] h fun v h'=>v=.agg #[.int .i64 c.a,.int .i64 c.b,.int .i64 c.depth,.int .i64 c.minutes,.bool c.meet]∧h'=h:=by
 refine zdm (fun A W=>by simp) Tryz.func219 rfl rfl (by simp) fun W0=>?_
 exact Wk0
theorem zxE (c:DShip) (h:Hp):Ct Tryz.prog 147 [.agg #[.string c.name,.int .i64 c.length,.int .i64 c.draught,.int .i64 c.line,.int .i64 c.tugs,.bool c.slow]] h fun v h'=>v=.agg #[.string c.name,.int .i64 c.length,.int .i64 c.draught,.int .i64 c.line,.int .i64 c.tugs,.bool c.slow]∧h'=h:=by
 refine zdm (fun A W=>by simp) Tryz.func147 rfl rfl (by simp) fun W0=>?_
 exact Wk0
theorem zxF (c:DSurge) (h:Hp):Ct Tryz.prog 217 [.agg #[.int .i64 c.src,.int .i64 c.low,.int .i64 c.high]] h fun v h'=>v=.agg #[.int .i64 c.src,.int .i64 c.low,.int .i64 c.high]∧h'=h:=by
 refine zdm (fun A W=>by simp) Tryz.func217 rfl rfl (by simp) fun W0=>?_
 exact Wk0
theorem zxG (a:Sl DCall) (h:Hp) (ha:a.Ok h) (hb:Blk.blk a≤1048576):Ct Tryz.prog 17 [a.val] h fun v h'=>∃ s:Sl DCall,v=s.val∧Con.con s=Con.con a∧s.Ok h'∧Mine h h' s:=by
 have hl:a.l.length≤1048576:=Nat.le_trans (Nat.le_add_right _ _) hb
 refine zdm (fun A W=>by simp) Tryz.func17 rfl rfl (by simp) fun W0=>?_
 refine Wk ?_
 refine ⟨by simp only [maxLen];omega,by omega,?_⟩
 refine Wk ?_
 refine zdd (ι:=Nat) (fun k=>⟨[(0,true,.c (.v a.val)),(3,true,.c (.s 0)),(4,true,.c (.v (.int .i64 k)))],[(0,.row 79 5 a.l.length (conv (a.l.take k) a.l.length [.int .i64 0,.int .i64 0,.int .i64 0,.int .i64 0,.int .i64 0]))],h,1⟩) (fun k=>k≤a.l.length) (fun k=>a.l.length - k) 0 (Nat.zero_le _) ?_ ?_
 ·refine Evs ?_
  exact ⟨rfl,zj5 (zj9 (α:=DCall) (z:=#[.int .i64 0,.int .i64 0,.int .i64 0,.int .i64 0,.int .i64 0]) (by decide))⟩
 intro k hk
 refine Wk ?_
 refine zc9 rfl (fun hd=>?_) (fun hd=>?_)
 ·have hlt:=zjG hd
  have hle:(a.l.take k).length=k:=by rw [List.length_take];omega
  repeat' first|refine zid rfl ?_|refine zc4 rfl ?_|refine zc7 ?_|refine zc8 ?_|refine zc5 ?_|refine zc6 ?_|refine zhE (fun _=>zxy _ _) ?_|(simp (maxSteps:=2000000) only [go_sem,yqa,yqb,yqc,yqd,yqe,yqf,zkQ ha hlt,ha.some hlt,hlt,yqj];try rfl)|refine zc3 ?_|(refine And.intro ?_ ?_;focus (intros;simp_all only [yqg,yqh,yqi,and_self,true_and,and_true];done))
  refine ⟨?_,?_⟩
  ·rw [zj6 (by omega) rfl];exact Nat.le_trans (Nat.le_of_eq (by simp only [Nat.add_mul])) (Nat.mul_le_mul_right 5 (show k+1≤a.l.length from hlt))
  refine Wk ?_
  exact ⟨k+1,hlt,by omega,zjA (zjz hlt (by omega)),zj5 (by rw [List.take_succ_eq_append_getElem hlt];exact zj8 hle hlt rfl)⟩
 ·have hge:=zjH hd
  refine zc6 ?_
  refine Evs ?_
  refine zl1 0 a.l rfl rfl rfl (by rw [List.take_of_length_le hge];exact zj7 (Nat.le_refl _)) (by decide) (fun x hx=>by obtain ⟨i,hi,rfl⟩:=List.getElem_of_mem hx;exact ha.el hi) h (Hp.le_refl _) (Mines.flat (fun _=>rfl) (fun _=>trivial)) fun s h' e1 e2 e3 e4=>?_
  refine Wk ?_
  exact ⟨s,rfl,by rw [zkw,zkw,e1],e2,e4⟩
theorem zxH (c:DCrew) (h:Hp) (hc:Enc.ok h c) (hb:Blk.blk c≤1048576):Ct Tryz.prog 71 [.agg #[.int .i64 c.tugs,.int .i64 c.pilots,.int .i64 c.rest,c.moves.val]] h fun v h'=>∃ d:DCrew,v=.agg #[.int .i64 d.tugs,.int .i64 d.pilots,.int .i64 d.rest,d.moves.val]∧Con.con d=Con.con c∧Enc.ok h' d∧Mine h h' d:=by
 rw [zkZ] at hb
 obtain ⟨o_tugs,o_pilots,o_rest,o_moves⟩:=hc
 refine zdm (fun A W=>by simp) Tryz.func71 rfl rfl (by simp) fun W0=>?_
 refine Wk ?_
 refine zko (zxz _ _ o_moves (by omega)) rfl ?_
 rintro v h_0 le_0 ⟨s_0,rfl,e_0,ok_0,m_0⟩
 refine Wk ?_
 exact ⟨⟨c.tugs,c.pilots,c.rest,s_0⟩,rfl,by rw [zkY,zkY];simp only [e_0],⟨o_tugs,o_pilots,o_rest,ok_0⟩,News.mine (m_0.1) m_0.news⟩
theorem zxI (a:Sl DPart) (h:Hp) (ha:a.Ok h) (hb:Blk.blk a≤1048576):Ct Tryz.prog 216 [a.val] h fun v h'=>∃ s:Sl DPart,v=s.val∧Con.con s=Con.con a∧s.Ok h'∧Mine h h' s:=by
 have hl:a.l.length≤1048576:=Nat.le_trans (Nat.le_add_right _ _) hb
 refine zdm (fun A W=>by simp) Tryz.func216 rfl rfl (by simp) fun W0=>?_
 refine Wk ?_
 refine ⟨by simp only [maxLen];omega,by omega,?_⟩
 refine Wk ?_
 refine zdd (ι:=Nat) (fun k=>⟨[(0,true,.c (.v a.val)),(3,true,.c (.s 0)),(4,true,.c (.v (.int .i64 k)))],[(0,.row 297 3 a.l.length (conv (a.l.take k) a.l.length [.int .i64 0,.int .i64 0,.int .i64 0]))],h,1⟩) (fun k=>k≤a.l.length) (fun k=>a.l.length - k) 0 (Nat.zero_le _) ?_ ?_
 ·refine Evs ?_
  exact ⟨rfl,zj5 (zj9 (α:=DPart) (z:=#[.int .i64 0,.int .i64 0,.int .i64 0]) (by decide))⟩
 intro k hk
 refine Wk ?_
 refine zc9 rfl (fun hd=>?_) (fun hd=>?_)
 ·have hlt:=zjG hd
  have hle:(a.l.take k).length=k:=by rw [List.length_take];omega
  repeat' first|refine zid rfl ?_|refine zc4 rfl ?_|refine zc7 ?_|refine zc8 ?_|refine zc5 ?_|refine zc6 ?_|refine zhE (fun _=>zxA _ _) ?_|(simp (maxSteps:=2000000) only [go_sem,yqa,yqb,yqc,yqd,yqe,yqf,zk1 ha hlt,ha.some hlt,hlt,yqj];try rfl)|refine zc3 ?_|(refine And.intro ?_ ?_;focus (intros;simp_all only [yqg,yqh,yqi,and_self,true_and,and_true];done))
  refine ⟨?_,?_⟩
  ·rw [zj6 (by omega) rfl];exact Nat.le_trans (Nat.le_of_eq (by simp only [Nat.add_mul])) (Nat.mul_le_mul_right 3 (show k+1≤a.l.length from hlt))
  refine Wk ?_
  exact ⟨k+1,hlt,by omega,zjA (zjz hlt (by omega)),zj5 (by rw [List.take_succ_eq_append_getElem hlt];exact zj8 hle hlt rfl)⟩
 ·have hge:=zjH hd
  refine zc6 ?_
  refine Evs ?_
  refine zl1 0 a.l rfl rfl rfl (by rw [List.take_of_length_le hge];exact zj7 (Nat.le_refl _)) (by decide) (fun x hx=>by obtain ⟨i,hi,rfl⟩:=List.getElem_of_mem hx;exact ha.el hi) h (Hp.le_refl _) (Mines.flat (fun _=>rfl) (fun _=>trivial)) fun s h' e1 e2 e3 e4=>?_
  refine Wk ?_
  exact ⟨s,rfl,by rw [zkw,zkw,e1],e2,e4⟩
theorem zHD (a:Sl DPassage) (h:Hp) (ha:a.Ok h) (hb:Blk.blk a≤1048576):Ct Tryz.prog 125 [a.val] h fun v h'=>∃ s:Sl DPassage,v=s.val∧Con.con s=Con.con a∧s.Ok h'∧Mine h h' s:=by
 have hl:a.l.length≤1048576:=Nat.le_trans (Nat.le_add_right _ _) hb
 refine zdm (fun A W=>by simp) Tryz.func125 rfl rfl (by simp) fun W0=>?_
 refine Wk ?_
 refine ⟨by simp only [maxLen];omega,by omega,?_⟩
 refine Wk ?_
 refine zdd (ι:=Nat) (fun k=>⟨[(0,true,.c (.v a.val)),(3,true,.c (.s 0)),(4,true,.c (.v (.int .i64 k)))],[(0,.row 222 5 a.l.length (conv (a.l.take k) a.l.length [.int .i64 0,.int .i64 0,.bool false,.int .i64 0,.int .i64 0]))],h,1⟩) (fun k=>k≤a.l.length) (fun k=>a.l.length - k) 0 (Nat.zero_le _) ?_ ?_
 ·refine Evs ?_
  exact ⟨rfl,zj5 (zj9 (α:=DPassage) (z:=#[.int .i64 0,.int .i64 0,.bool false,.int .i64 0,.int .i64 0]) (by decide))⟩
 intro k hk
 refine Wk ?_
 refine zc9 rfl (fun hd=>?_) (fun hd=>?_)
 ·have hlt:=zjG hd
  have hle:(a.l.take k).length=k:=by rw [List.length_take];omega
  repeat' first|refine zid rfl ?_|refine zc4 rfl ?_|refine zc7 ?_|refine zc8 ?_|refine zc5 ?_|refine zc6 ?_|refine zhE (fun _=>zHC _ _) ?_|(simp (maxSteps:=2000000) only [go_sem,yqa,yqb,yqc,yqd,yqe,yqf,zkS ha hlt,ha.some hlt,hlt,yqj];try rfl)|refine zc3 ?_|(refine And.intro ?_ ?_;focus (intros;simp_all only [yqg,yqh,yqi,and_self,true_and,and_true];done))
  refine ⟨?_,?_⟩
  ·rw [zj6 (by omega) rfl];exact Nat.le_trans (Nat.le_of_eq (by simp only [Nat.add_mul])) (Nat.mul_le_mul_right 5 (show k+1≤a.l.length from hlt))
  refine Wk ?_
  exact ⟨k+1,hlt,by omega,zjA (zjz hlt (by omega)),zj5 (by rw [List.take_succ_eq_append_getElem hlt];exact zj8 hle hlt rfl)⟩
 ·have hge:=zjH hd
  refine zc6 ?_
  refine Evs ?_
  refine zl1 0 a.l rfl rfl rfl (by rw [List.take_of_length_le hge];exact zj7 (Nat.le_refl _)) (by decide) (fun x hx=>by obtain ⟨i,hi,rfl⟩:=List.getElem_of_mem hx;exact ha.el hi) h (Hp.le_refl _) (Mines.flat (fun _=>rfl) (fun _=>trivial)) fun s h' e1 e2 e3 e4=>?_
  refine Wk ?_
  exact ⟨s,rfl,by rw [zkw,zkw,e1],e2,e4⟩
theorem zxJ (a:Sl DPoint) (h:Hp) (ha:a.Ok h) (hb:Blk.blk a≤1048576):Ct Tryz.prog 145 [a.val] h fun v h'=>∃ s:Sl DPoint,v=s.val∧Con.con s=Con.con a∧s.Ok h'∧Mine h h' s:=by
 have hl:a.l.length≤1048576:=Nat.le_trans (Nat.le_add_right _ _) hb
 refine zdm (fun A W=>by simp) Tryz.func145 rfl rfl (by simp) fun W0=>?_
 refine Wk ?_
 refine ⟨by simp only [maxLen];omega,by omega,?_⟩
 refine Wk ?_
 refine zdd (ι:=Nat) (fun k=>⟨[(0,true,.c (.v a.val)),(3,true,.c (.s 0)),(4,true,.c (.v (.int .i64 k)))],[(0,.row 244 2 a.l.length (conv (a.l.take k) a.l.length [.string ByteArray.empty,.bool false]))],h,1⟩) (fun k=>k≤a.l.length) (fun k=>a.l.length - k) 0 (Nat.zero_le _) ?_ ?_
 ·refine Evs ?_
  exact ⟨rfl,zj5 (zj9 (α:=DPoint) (z:=#[.string ByteArray.empty,.bool false]) (by decide))⟩
 intro k hk
 refine Wk ?_
 refine zc9 rfl (fun hd=>?_) (fun hd=>?_)
 ·have hlt:=zjG hd
  have hle:(a.l.take k).length=k:=by rw [List.length_take];omega
  repeat' first|refine zid rfl ?_|refine zc4 rfl ?_|refine zc7 ?_|refine zc8 ?_|refine zc5 ?_|refine zc6 ?_|refine zhE (fun _=>zxB _ _) ?_|(simp (maxSteps:=2000000) only [go_sem,yqa,yqb,yqc,yqd,yqe,yqf,zlc ha hlt,ha.some hlt,hlt,yqj];try rfl)|refine zc3 ?_|(refine And.intro ?_ ?_;focus (intros;simp_all only [yqg,yqh,yqi,and_self,true_and,and_true];done))
  refine ⟨?_,?_⟩
  ·rw [zj6 (by omega) rfl];exact Nat.le_trans (Nat.le_of_eq (by simp only [Nat.add_mul])) (Nat.mul_le_mul_right 2 (show k+1≤a.l.length from hlt))
  refine Wk ?_
  exact ⟨k+1,hlt,by omega,zjA (zjz hlt (by omega)),zj5 (by rw [List.take_succ_eq_append_getElem hlt];exact zj8 hle hlt rfl)⟩
 ·have hge:=zjH hd
  refine zc6 ?_
  refine Evs ?_
  refine zl1 0 a.l rfl rfl rfl (by rw [List.take_of_length_le hge];exact zj7 (Nat.le_refl _)) (by decide) (fun x hx=>by obtain ⟨i,hi,rfl⟩:=List.getElem_of_mem hx;exact ha.el hi) h (Hp.le_refl _) (Mines.flat (fun _=>rfl) (fun _=>trivial)) fun s h' e1 e2 e3 e4=>?_
  refine Wk ?_
  exact ⟨s,rfl,by rw [zkw,zkw,e1],e2,e4⟩
theorem zxK (a:Sl DSegment) (h:Hp) (ha:a.Ok h) (hb:Blk.blk a≤1048576):Ct Tryz.prog 146 [a.val] h fun v h'=>∃ s:Sl DSegment,v=s.val∧Con.con s=Con.con a∧s.Ok h'∧Mine h h' s:=by
 have hl:a.l.length≤1048576:=Nat.le_trans (Nat.le_add_right _ _) hb
 refine zdm (fun A W=>by simp) Tryz.func146 rfl rfl (by simp) fun W0=>?_
 refine Wk ?_
 refine ⟨by simp only [maxLen];omega,by omega,?_⟩
 refine Wk ?_
 refine zdd (ι:=Nat) (fun k=>⟨[(0,true,.c (.v a.val)),(3,true,.c (.s 0)),(4,true,.c (.v (.int .i64 k)))],[(0,.row 230 5 a.l.length (conv (a.l.take k) a.l.length [.int .i64 0,.int .i64 0,.int .i64 0,.int .i64 0,.bool false]))],h,1⟩) (fun k=>k≤a.l.length) (fun k=>a.l.length - k) 0 (Nat.zero_le _) ?_ ?_
 ·refine Evs ?_
  exact ⟨rfl,zj5 (zj9 (α:=DSegment) (z:=#[.int .i64 0,.int .i64 0,.int .i64 0,.int .i64 0,.bool false]) (by decide))⟩
 intro k hk
 refine Wk ?_
 refine zc9 rfl (fun hd=>?_) (fun hd=>?_)
 ·have hlt:=zjG hd
  have hle:(a.l.take k).length=k:=by rw [List.length_take];omega
  repeat' first|refine zid rfl ?_|refine zc4 rfl ?_|refine zc7 ?_|refine zc8 ?_|refine zc5 ?_|refine zc6 ?_|refine zhE (fun _=>zxD _ _) ?_|(simp (maxSteps:=2000000) only [go_sem,yqa,yqb,yqc,yqd,yqe,yqf,zle ha hlt,ha.some hlt,hlt,yqj];try rfl)|refine zc3 ?_|(refine And.intro ?_ ?_;focus (intros;simp_all only [yqg,yqh,yqi,and_self,true_and,and_true];done))
  refine ⟨?_,?_⟩
  ·rw [zj6 (by omega) rfl];exact Nat.le_trans (Nat.le_of_eq (by simp only [Nat.add_mul])) (Nat.mul_le_mul_right 5 (show k+1≤a.l.length from hlt))
  refine Wk ?_
  exact ⟨k+1,hlt,by omega,zjA (zjz hlt (by omega)),zj5 (by rw [List.take_succ_eq_append_getElem hlt];exact zj8 hle hlt rfl)⟩
 ·have hge:=zjH hd
  refine zc6 ?_
  refine Evs ?_
  refine zl1 0 a.l rfl rfl rfl (by rw [List.take_of_length_le hge];exact zj7 (Nat.le_refl _)) (by decide) (fun x hx=>by obtain ⟨i,hi,rfl⟩:=List.getElem_of_mem hx;exact ha.el hi) h (Hp.le_refl _) (Mines.flat (fun _=>rfl) (fun _=>trivial)) fun s h' e1 e2 e3 e4=>?_
  refine Wk ?_
  exact ⟨s,rfl,by rw [zkw,zkw,e1],e2,e4⟩
theorem zxL (a:Sl DShip) (h:Hp) (ha:a.Ok h) (hb:Blk.blk a≤1048576):Ct Tryz.prog 69 [a.val] h fun v h'=>∃ s:Sl DShip,v=s.val∧Con.con s=Con.con a∧s.Ok h'∧Mine h h' s:=by
 have hl:a.l.length≤1048576:=Nat.le_trans (Nat.le_add_right _ _) hb
 refine zdm (fun A W=>by simp) Tryz.func69 rfl rfl (by simp) fun W0=>?_
 refine Wk ?_
 refine ⟨by simp only [maxLen];omega,by omega,?_⟩
 refine Wk ?_
 refine zdd (ι:=Nat) (fun k=>⟨[(0,true,.c (.v a.val)),(3,true,.c (.s 0)),(4,true,.c (.v (.int .i64 k)))],[(0,.row 157 6 a.l.length (conv (a.l.take k) a.l.length [.string ByteArray.empty,.int .i64 0,.int .i64 0,.int .i64 0,.int .i64 0,.bool false]))],h,1⟩) (fun k=>k≤a.l.length) (fun k=>a.l.length - k) 0 (Nat.zero_le _) ?_ ?_
 ·refine Evs ?_
  exact ⟨rfl,zj5 (zj9 (α:=DShip) (z:=#[.string ByteArray.empty,.int .i64 0,.int .i64 0,.int .i64 0,.int .i64 0,.bool false]) (by decide))⟩
 intro k hk
 refine Wk ?_
 refine zc9 rfl (fun hd=>?_) (fun hd=>?_)
 ·have hlt:=zjG hd
  have hle:(a.l.take k).length=k:=by rw [List.length_take];omega
  repeat' first|refine zid rfl ?_|refine zc4 rfl ?_|refine zc7 ?_|refine zc8 ?_|refine zc5 ?_|refine zc6 ?_|refine zhE (fun _=>zxE _ _) ?_|(simp (maxSteps:=2000000) only [go_sem,yqa,yqb,yqc,yqd,yqe,yqf,zlk ha hlt,ha.some hlt,hlt,yqj];try rfl)|refine zc3 ?_|(refine And.intro ?_ ?_;focus (intros;simp_all only [yqg,yqh,yqi,and_self,true_and,and_true];done))
  refine ⟨?_,?_⟩
  ·rw [zj6 (by omega) rfl];exact Nat.le_trans (Nat.le_of_eq (by simp only [Nat.add_mul])) (Nat.mul_le_mul_right 6 (show k+1≤a.l.length from hlt))
  refine Wk ?_
  exact ⟨k+1,hlt,by omega,zjA (zjz hlt (by omega)),zj5 (by rw [List.take_succ_eq_append_getElem hlt];exact zj8 hle hlt rfl)⟩
 ·have hge:=zjH hd
  refine zc6 ?_
  refine Evs ?_
  refine zl1 0 a.l rfl rfl rfl (by rw [List.take_of_length_le hge];exact zj7 (Nat.le_refl _)) (by decide) (fun x hx=>by obtain ⟨i,hi,rfl⟩:=List.getElem_of_mem hx;exact ha.el hi) h (Hp.le_refl _) (Mines.flat (fun _=>rfl) (fun _=>trivial)) fun s h' e1 e2 e3 e4=>?_
  refine Wk ?_
  exact ⟨s,rfl,by rw [zkw,zkw,e1],e2,e4⟩
theorem zxM (a:Sl DSurge) (h:Hp) (ha:a.Ok h) (hb:Blk.blk a≤1048576):Ct Tryz.prog 144 [a.val] h fun v h'=>∃ s:Sl DSurge,v=s.val∧Con.con s=Con.con a∧s.Ok h'∧Mine h h' s:=by
 have hl:a.l.length≤1048576:=Nat.le_trans (Nat.le_add_right _ _) hb
 refine zdm (fun A W=>by simp) Tryz.func144 rfl rfl (by simp) fun W0=>?_
 refine Wk ?_
 refine ⟨by simp only [maxLen];omega,by omega,?_⟩
 refine Wk ?_
 refine zdd (ι:=Nat) (fun k=>⟨[(0,true,.c (.v a.val)),(3,true,.c (.s 0)),(4,true,.c (.v (.int .i64 k)))],[(0,.row 125 3 a.l.length (conv (a.l.take k) a.l.length [.int .i64 0,.int .i64 0,.int .i64 0]))],h,1⟩) (fun k=>k≤a.l.length) (fun k=>a.l.length - k) 0 (Nat.zero_le _) ?_ ?_
 ·refine Evs ?_
  exact ⟨rfl,zj5 (zj9 (α:=DSurge) (z:=#[.int .i64 0,.int .i64 0,.int .i64 0]) (by decide))⟩
 intro k hk
 refine Wk ?_
 refine zc9 rfl (fun hd=>?_) (fun hd=>?_)
 ·have hlt:=zjG hd
  have hle:(a.l.take k).length=k:=by rw [List.length_take];omega
  repeat' first|refine zid rfl ?_|refine zc4 rfl ?_|refine zc7 ?_|refine zc8 ?_|refine zc5 ?_|refine zc6 ?_|refine zhE (fun _=>zxF _ _) ?_|(simp (maxSteps:=2000000) only [go_sem,yqa,yqb,yqc,yqd,yqe,yqf,zk6 ha hlt,ha.some hlt,hlt,yqj];try rfl)|refine zc3 ?_|(refine And.intro ?_ ?_;focus (intros;simp_all only [yqg,yqh,yqi,and_self,true_and,and_true];done))
  refine ⟨?_,?_⟩
  ·rw [zj6 (by omega) rfl];exact Nat.le_trans (Nat.le_of_eq (by simp only [Nat.add_mul])) (Nat.mul_le_mul_right 3 (show k+1≤a.l.length from hlt))
  refine Wk ?_
  exact ⟨k+1,hlt,by omega,zjA (zjz hlt (by omega)),zj5 (by rw [List.take_succ_eq_append_getElem hlt];exact zj8 hle hlt rfl)⟩
 ·have hge:=zjH hd
  refine zc6 ?_
  refine Evs ?_
  refine zl1 0 a.l rfl rfl rfl (by rw [List.take_of_length_le hge];exact zj7 (Nat.le_refl _)) (by decide) (fun x hx=>by obtain ⟨i,hi,rfl⟩:=List.getElem_of_mem hx;exact ha.el hi) h (Hp.le_refl _) (Mines.flat (fun _=>rfl) (fun _=>trivial)) fun s h' e1 e2 e3 e4=>?_
  refine Wk ?_
  exact ⟨s,rfl,by rw [zkw,zkw,e1],e2,e4⟩
theorem zxN (c:DChart) (h:Hp) (hc:Enc.ok h c) (hb:Blk.blk c≤1048576):Ct Tryz.prog 68 [.agg #[c.points.val,c.segments.val]] h fun v h'=>∃ d:DChart,v=.agg #[d.points.val,d.segments.val]∧Con.con d=Con.con c∧Enc.ok h' d∧Mine h h' d:=by
 rw [zlh] at hb
 obtain ⟨o_points,o_segments⟩:=hc
 refine zdm (fun A W=>by simp) Tryz.func68 rfl rfl (by simp) fun W0=>?_
 refine Wk ?_
 refine zko (zxJ _ _ o_points (by omega)) rfl ?_
 rintro v h_0 le_0 ⟨s_0,rfl,e_0,ok_0,m_0⟩
 refine Wk ?_
 refine zko (zxK _ _ (o_segments.mono le_0) (by omega)) rfl ?_
 rintro v h_1 le_1 ⟨s_1,rfl,e_1,ok_1,m_1⟩
 refine Wk ?_
 exact ⟨⟨s_0,s_1⟩,rfl,by rw [zlg,zlg];simp only [e_0,e_1],⟨ok_0.mono le_1,ok_1⟩,News.mine ⟨(Mine.on le_1 ok_0 m_0).1,m_1.1⟩ (m_0.news.append le_0 le_1 m_1.news)⟩
theorem zHE (c:DOption) (h:Hp) (hc:Enc.ok h c) (hb:Blk.blk c≤1048576):Ct Tryz.prog 49 [.agg #[.int .i64 c.start,.int .i64 c.arr,.int .i64 c.cost,c.pas.val]] h fun v h'=>∃ d:DOption,v=.agg #[.int .i64 d.start,.int .i64 d.arr,.int .i64 d.cost,d.pas.val]∧Con.con d=Con.con c∧Enc.ok h' d∧Mine h h' d:=by
 rw [zkV] at hb
 obtain ⟨o_start,o_arr,o_cost,o_pas⟩:=hc
 refine zdm (fun A W=>by simp) Tryz.func49 rfl rfl (by simp) fun W0=>?_
 refine Wk ?_
 refine zko (zHD _ _ o_pas (by omega)) rfl ?_
 rintro v h_0 le_0 ⟨s_0,rfl,e_0,ok_0,m_0⟩
 refine Wk ?_
 exact ⟨⟨c.start,c.arr,c.cost,s_0⟩,rfl,by rw [zkU,zkU];simp only [e_0],⟨o_start,o_arr,o_cost,ok_0⟩,News.mine (m_0.1) m_0.news⟩
theorem zxO (c:DTide) (h:Hp) (hc:Enc.ok h c) (hb:Blk.blk c≤1048576):Ct Tryz.prog 143 [.agg #[.int .i64 c.mean,c.parts.val]] h fun v h'=>∃ d:DTide,v=.agg #[.int .i64 d.mean,d.parts.val]∧Con.con d=Con.con c∧Enc.ok h' d∧Mine h h' d:=by
 rw [zk4] at hb
 obtain ⟨o_mean,o_parts⟩:=hc
 refine zdm (fun A W=>by simp) Tryz.func143 rfl rfl (by simp) fun W0=>?_
 refine Wk ?_
 refine zko (zxI _ _ o_parts (by omega)) rfl ?_
 rintro v h_0 le_0 ⟨s_0,rfl,e_0,ok_0,m_0⟩
 refine Wk ?_
 exact ⟨⟨c.mean,s_0⟩,rfl,by rw [zk3,zk3];simp only [e_0],⟨o_mean,ok_0⟩,News.mine (m_0.1) m_0.news⟩
theorem zxP (c:DForecast) (h:Hp) (hc:Enc.ok h c) (hb:Blk.blk c≤1048576):Ct Tryz.prog 67 [.agg #[.int .i64 c.tide.mean,c.tide.parts.val,c.surges.val]] h fun v h'=>∃ d:DForecast,v=.agg #[.int .i64 d.tide.mean,d.tide.parts.val,d.surges.val]∧Con.con d=Con.con c∧Enc.ok h' d∧Mine h h' d:=by
 rw [zk9] at hb
 obtain ⟨o_tide,o_surges⟩:=hc
 refine zdm (fun A W=>by simp) Tryz.func67 rfl rfl (by simp) fun W0=>?_
 refine Wk ?_
 refine zko (zxO _ _ o_tide (by omega)) rfl ?_
 rintro v h_0 le_0 ⟨s_0,rfl,e_0,ok_0,m_0⟩
 refine Wk ?_
 refine zko (zxM _ _ (o_surges.mono le_0) (by omega)) rfl ?_
 rintro v h_1 le_1 ⟨s_1,rfl,e_1,ok_1,m_1⟩
 refine Wk ?_
 exact ⟨⟨s_0,s_1⟩,rfl,by rw [zk8,zk8];simp only [e_0,e_1],⟨Enc.mono le_1 ok_0,ok_1⟩,News.mine ⟨(Mine.on le_1 ok_0 m_0).1,m_1.1⟩ (m_0.news.append le_0 le_1 m_1.news)⟩
theorem zUw (a:Sl DOption) (h:Hp) (ha:a.Ok h) (hb:Blk.blk a≤1048576):Ct Tryz.prog 53 [a.val] h fun v h'=>∃ s:Sl DOption,v=s.val∧Con.con s=Con.con a∧s.Ok h'∧Mine h h' s:=by
 have hl:a.l.length≤1048576:=Nat.le_trans (Nat.le_add_right _ _) hb
 refine zdm (fun A W=>by simp) Tryz.func53 rfl rfl (by simp) fun W0=>?_
 refine Wk ?_
 refine ⟨by simp only [maxLen];omega,by omega,?_⟩
 refine Wk ?_
 refine zdd (ι:=Nat × List DOption × Hp) (fun i=>match i with|(k,ds,hk)=>⟨[(0,true,.c (.v a.val)),(3,true,.c (.s 0)),(4,true,.c (.v (.int .i64 k)))],[(0,.row 84 4 a.l.length (conv ds a.l.length [.int .i64 0,.int .i64 0,.int .i64 0,.slice none 0 0]))],hk,1⟩) (fun i=>i.1≤a.l.length∧i.2.1.length=i.1∧i.2.1.map Con.con=(Con.con a).take i.1∧(∀ d ∈ i.2.1,Enc.ok i.2.2 d)∧h.le i.2.2∧Mines h i.2.2 i.2.1) (fun i=>a.l.length - i.1) (0,[],h) ⟨Nat.zero_le _,rfl,rfl,fun _ h=>(by cases h),Hp.le_refl _,Mines.nil⟩ ?_ ?_
 ·refine Evs ?_
  exact ⟨rfl,zj5 (zj9 (α:=DOption) (z:=#[.int .i64 0,.int .i64 0,.int .i64 0,.slice none 0 0]) (by decide))⟩
 rintro ⟨k,ds,hk⟩ ⟨hi,hn,hm,ho,hle,hmi⟩
 simp only at hi hn hm ho hle hmi
 have ha':=ha.mono hle
 refine Wk ?_
 refine zc9 rfl (fun hd=>?_) (fun hd=>?_)
 ·have hlt:=zjG hd
  have hbk:Blk.blk a.l[k]≤1048576:=by
   have h1:=zIm (List.mem_map_of_mem (f:=Blk.blk) (List.getElem_mem hlt))
   rw [zkz] at hb;omega
  repeat' first|refine zid rfl ?_|refine zc4 rfl ?_|refine zc7 ?_|refine zc8 ?_|refine zc5 ?_|refine zc6 ?_|(simp (maxSteps:=2000000) only [go_sem,yqa,yqb,yqc,yqd,yqe,yqf,zkW ha' hlt,ha.some hlt,hlt,yqj];try rfl)|refine zc3 ?_|(refine And.intro ?_ ?_;focus (intros;simp_all only [yqg,yqh,yqi,and_self,true_and,and_true];done))
  refine zko (zHE _ _ (ha'.el hlt) hbk) rfl ?_
  rintro v h1 hle1 ⟨d,rfl,e1,e2,e3⟩
  refine Wk ?_
  refine ⟨?_,?_⟩
  ·rw [zj6 (by omega) rfl];exact Nat.le_trans (Nat.le_of_eq (by simp only [Nat.add_mul])) (Nat.mul_le_mul_right 4 (show k+1≤a.l.length from hlt))
  refine Wk ?_
  refine ⟨(k+1,ds ++ [d],h1),⟨hlt,by simp [hn],?_,?_,Hp.le_trans hle hle1,hmi.snoc ho hle1 hle e3⟩,by simp only;omega,?_⟩
  ·have gA:(Con.con a)[k]'(by rw [zkw,List.length_map];exact hlt)=Con.con a.l[k]:=List.getElem_map ..
   rw [List.map_append,hm,List.take_succ_eq_append_getElem (by rw [zkw,List.length_map];exact hlt),gA,← e1];rfl
  ·intro x hx
   rcases List.mem_append.1 hx with hx|hx
   ·exact Enc.mono hle1 (ho x hx)
   ·rw [List.mem_singleton.1 hx];exact e2
  ·refine Evs ?_
   exact ⟨zjA (zjz hlt (by omega)),zj5 (zj8 hn hlt rfl)⟩
 ·have hge:=zjH hd
  have hke:k=a.l.length:=Nat.le_antisymm hi hge
  refine zc6 ?_
  refine Evs ?_
  refine zl1 0 ds rfl rfl (by omega) (zj7 (by omega)) (by decide) ho h hle hmi fun s h' e1 e2 e3 e4=>?_
  refine Wk ?_
  exact ⟨s,rfl,by rw [zkw,e1,hm,hke,List.take_of_length_le (by rw [zkw,List.length_map];exact Nat.le_refl _)],e2,e4⟩
theorem zxQ (c:DHarbour) (h:Hp) (hc:Enc.ok h c) (hb:Blk.blk c≤1048576):Ct Tryz.prog 16 [.agg #[.int .i64 c.forecast.tide.mean,c.forecast.tide.parts.val,c.forecast.surges.val,c.chart.points.val,c.chart.segments.val,c.fleet.val,.int .i64 c.regime.gap,.bool c.regime.noMeet,.int .i64 c.crew.tugs,.int .i64 c.crew.pilots,.int .i64 c.crew.rest,c.crew.moves.val]] h fun v h'=>∃ d:DHarbour,v=.agg #[.int .i64 d.forecast.tide.mean,d.forecast.tide.parts.val,d.forecast.surges.val,d.chart.points.val,d.chart.segments.val,d.fleet.val,.int .i64 d.regime.gap,.bool d.regime.noMeet,.int .i64 d.crew.tugs,.int .i64 d.crew.pilots,.int .i64 d.crew.rest,d.crew.moves.val]∧Con.con d=Con.con c∧Enc.ok h' d∧Mine h h' d:=by
 rw [zlo] at hb
 obtain ⟨o_forecast,o_chart,o_fleet,o_regime,o_crew⟩:=hc
 refine zdm (fun A W=>by simp) Tryz.func16 rfl rfl (by simp) fun W0=>?_
 refine Wk ?_
 refine zko (zxP _ _ o_forecast (by omega)) rfl ?_
 rintro v h_0 le_0 ⟨s_0,rfl,e_0,ok_0,m_0⟩
 refine Wk ?_
 refine zko (zxN _ _ (Enc.mono le_0 o_chart) (by omega)) rfl ?_
 rintro v h_1 le_1 ⟨s_1,rfl,e_1,ok_1,m_1⟩
 refine Wk ?_
 refine zko (zxL _ _ (o_fleet.mono (Hp.le_trans le_0 le_1)) (by omega)) rfl ?_
 rintro v h_2 le_2 ⟨s_2,rfl,e_2,ok_2,m_2⟩
 refine Wk ?_
 refine zhE (fun _=>zxC _ _) ?_
 refine Wk ?_
 refine zko (zxH _ _ (Enc.mono (Hp.le_trans (Hp.le_trans le_0 le_1) le_2) o_crew) (by omega)) rfl ?_
 rintro v h_3 le_3 ⟨s_3,rfl,e_3,ok_3,m_3⟩
 refine Wk ?_
 exact ⟨⟨s_0,s_1,s_2,c.regime,s_3⟩,rfl,by rw [zln,zln];simp only [e_0,e_1,e_2,e_3],⟨Enc.mono (Hp.le_trans (Hp.le_trans le_1 le_2) le_3) ok_0,Enc.mono (Hp.le_trans le_2 le_3) ok_1,ok_2.mono le_3,o_regime,ok_3⟩,News.mine ⟨(Mine.on (Hp.le_trans (Hp.le_trans le_1 le_2) le_3) ok_0 m_0).1,(Mine.on (Hp.le_trans le_2 le_3) ok_1 m_1).1,(Mine.on le_3 ok_2 m_2).1,m_3.1⟩ (((m_0.news.append le_0 le_1 m_1.news).append (Hp.le_trans le_0 le_1) le_2 m_2.news).append (Hp.le_trans (Hp.le_trans le_0 le_1) le_2) le_3 m_3.news)⟩
end Go.Proofs.YtbkaaakphpbmiaaGreat
