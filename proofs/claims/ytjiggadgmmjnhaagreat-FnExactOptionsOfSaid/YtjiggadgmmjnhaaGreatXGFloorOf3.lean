/- What functions of the given program compute, each as a contract over what its arguments read as. No condition beside those that each theorem states. -/
import Derived.Test.YtjiggadgmmjnhaaGreatProg
import Derived.Test.YtjiggadgmmjnhaaGreatS2
set_option linter.unusedVariables false
set_option linter.unusedSimpArgs false
open Nat renaming reduceAdd → yqa, reduceMul → yqb, reduceBEq → yqc, reduceLeDiff → yqd, reduceLT → yqe, reduceEqDiff → yqf
open Bool renaming or_eq_false_iff → yqg, or_eq_true → yqh, and_eq_true → yqi
open Int renaming toNat_natCast → yqj, natCast_nonneg → yqk
namespace Go.Proofs.YtjiggadgmmjnhaaGreat
open Go Go.SL
@[go_sem] theorem ty_1:hasT Tryz.prog 1=true∧szT Tryz.prog 1=1∧Tryz.prog.bytesOf 1=8∧aggT Tryz.prog 1=false∧zaX Tryz.prog 1=none∧arrT Tryz.prog 1=none∧zbF Tryz.prog 1=some [.nilFunc]:=⟨by kernel_rfl,by kernel_rfl,by kernel_rfl,by kernel_rfl,by kernel_rfl,by kernel_rfl,by kernel_rfl⟩
@[go_sem] theorem ty_2:hasT Tryz.prog 2=true∧szT Tryz.prog 2=1∧Tryz.prog.bytesOf 2=8∧aggT Tryz.prog 2=false∧zaX Tryz.prog 2=none∧arrT Tryz.prog 2=none∧zbF Tryz.prog 2=some [.int .i64 0]∧intT Tryz.prog 2=some .i64:=⟨by kernel_rfl,by kernel_rfl,by kernel_rfl,by kernel_rfl,by kernel_rfl,by kernel_rfl,by kernel_rfl,by kernel_rfl⟩
attribute [go_sem] Tryz.underlying2
@[go_sem] theorem ty_3:hasT Tryz.prog 3=true∧szT Tryz.prog 3=1∧Tryz.prog.bytesOf 3=8∧aggT Tryz.prog 3=false∧zaX Tryz.prog 3=none∧arrT Tryz.prog 3=none∧zbF Tryz.prog 3=some [.int .i64 0]∧intT Tryz.prog 3=some .i64:=⟨by kernel_rfl,by kernel_rfl,by kernel_rfl,by kernel_rfl,by kernel_rfl,by kernel_rfl,by kernel_rfl,by kernel_rfl⟩
attribute [go_sem] Tryz.underlying3
@[go_sem] theorem ty_4:hasT Tryz.prog 4=true∧szT Tryz.prog 4=1∧Tryz.prog.bytesOf 4=1∧aggT Tryz.prog 4=false∧zaX Tryz.prog 4=none∧arrT Tryz.prog 4=none∧zbF Tryz.prog 4=some [.bool false]:=⟨by kernel_rfl,by kernel_rfl,by kernel_rfl,by kernel_rfl,by kernel_rfl,by kernel_rfl,by kernel_rfl⟩
attribute [go_sem] Tryz.underlying4
@[go_sem] theorem ty_5:hasT Tryz.prog 5=true∧szT Tryz.prog 5=1∧Tryz.prog.bytesOf 5=1∧aggT Tryz.prog 5=false∧zaX Tryz.prog 5=none∧arrT Tryz.prog 5=none∧zbF Tryz.prog 5=some [.int .u8 0]∧intT Tryz.prog 5=some .u8:=⟨by kernel_rfl,by kernel_rfl,by kernel_rfl,by kernel_rfl,by kernel_rfl,by kernel_rfl,by kernel_rfl,by kernel_rfl⟩
attribute [go_sem] Tryz.underlying5
@[go_sem] theorem ty_9:hasT Tryz.prog 9=true∧szT Tryz.prog 9=1∧Tryz.prog.bytesOf 9=16∧aggT Tryz.prog 9=false∧zaX Tryz.prog 9=none∧arrT Tryz.prog 9=none∧zbF Tryz.prog 9=some [.string ByteArray.empty]∧strT Tryz.prog 9=true:=⟨by kernel_rfl,by kernel_rfl,by kernel_rfl,by kernel_rfl,by kernel_rfl,by kernel_rfl,by kernel_rfl,by kernel_rfl⟩
attribute [go_sem] Tryz.underlying9
@[go_sem] theorem zyT:hasT Tryz.prog 12=true∧szT Tryz.prog 12=1∧Tryz.prog.bytesOf 12=8∧aggT Tryz.prog 12=false∧zaX Tryz.prog 12=none∧arrT Tryz.prog 12=none∧zbF Tryz.prog 12=some [.int .u64 0]∧intT Tryz.prog 12=some .u64:=⟨by kernel_rfl,by kernel_rfl,by kernel_rfl,by kernel_rfl,by kernel_rfl,by kernel_rfl,by kernel_rfl,by kernel_rfl⟩
attribute [go_sem] Tryz.underlying12
@[go_sem] theorem zyU:hasT Tryz.prog 13=true∧szT Tryz.prog 13=2∧Tryz.prog.bytesOf 13=24∧aggT Tryz.prog 13=true∧zaX Tryz.prog 13=none∧arrT Tryz.prog 13=none∧zbF Tryz.prog 13=some [.string ByteArray.empty,.int .u64 0]∧zbE Tryz.prog 13=true:=⟨by kernel_rfl,by kernel_rfl,by kernel_rfl,by kernel_rfl,by kernel_rfl,by kernel_rfl,by kernel_rfl,by kernel_rfl⟩
@[go_sem] theorem zmI:hasT Tryz.prog 22=true∧szT Tryz.prog 22=1∧Tryz.prog.bytesOf 22=24∧aggT Tryz.prog 22=false∧zaX Tryz.prog 22=some 296∧arrT Tryz.prog 22=none∧zbF Tryz.prog 22=some [.slice none 0 0]:=⟨by kernel_rfl,by kernel_rfl,by kernel_rfl,by kernel_rfl,by kernel_rfl,by kernel_rfl,by kernel_rfl⟩
@[go_sem] theorem zwW:hasT Tryz.prog 23=true∧szT Tryz.prog 23=2∧Tryz.prog.bytesOf 23=32∧aggT Tryz.prog 23=true∧zaX Tryz.prog 23=none∧arrT Tryz.prog 23=none∧zbF Tryz.prog 23=some [.int .i64 0,.slice none 0 0]∧zbE Tryz.prog 23=true:=⟨by kernel_rfl,by kernel_rfl,by kernel_rfl,by kernel_rfl,by kernel_rfl,by kernel_rfl,by kernel_rfl,by kernel_rfl⟩
@[go_sem] theorem zmJ:hasT Tryz.prog 24=true∧szT Tryz.prog 24=2∧Tryz.prog.bytesOf 24=32∧aggT Tryz.prog 24=true∧zaX Tryz.prog 24=none∧arrT Tryz.prog 24=none∧zbF Tryz.prog 24=some [.int .i64 0,.slice none 0 0]∧zbE Tryz.prog 24=true:=⟨by kernel_rfl,by kernel_rfl,by kernel_rfl,by kernel_rfl,by kernel_rfl,by kernel_rfl,by kernel_rfl,by kernel_rfl⟩
@[go_sem] theorem zyV:hasT Tryz.prog 25=true∧szT Tryz.prog 25=1∧Tryz.prog.bytesOf 25=24∧aggT Tryz.prog 25=false∧zaX Tryz.prog 25=some 251∧arrT Tryz.prog 25=none∧zbF Tryz.prog 25=some [.slice none 0 0]:=⟨by kernel_rfl,by kernel_rfl,by kernel_rfl,by kernel_rfl,by kernel_rfl,by kernel_rfl,by kernel_rfl⟩
@[go_sem] theorem zyW:hasT Tryz.prog 26=true∧szT Tryz.prog 26=3∧Tryz.prog.bytesOf 26=56∧aggT Tryz.prog 26=true∧zaX Tryz.prog 26=none∧arrT Tryz.prog 26=none∧zbF Tryz.prog 26=some [.int .i64 0,.slice none 0 0,.slice none 0 0]∧zbE Tryz.prog 26=true:=⟨by kernel_rfl,by kernel_rfl,by kernel_rfl,by kernel_rfl,by kernel_rfl,by kernel_rfl,by kernel_rfl,by kernel_rfl⟩
@[go_sem] theorem zyX:hasT Tryz.prog 27=true∧szT Tryz.prog 27=3∧Tryz.prog.bytesOf 27=56∧aggT Tryz.prog 27=true∧zaX Tryz.prog 27=none∧arrT Tryz.prog 27=none∧zbF Tryz.prog 27=some [.int .i64 0,.slice none 0 0,.slice none 0 0]∧zbE Tryz.prog 27=true:=⟨by kernel_rfl,by kernel_rfl,by kernel_rfl,by kernel_rfl,by kernel_rfl,by kernel_rfl,by kernel_rfl,by kernel_rfl⟩
@[go_sem] theorem zmK:hasT Tryz.prog 28=true∧szT Tryz.prog 28=1∧Tryz.prog.bytesOf 28=24∧aggT Tryz.prog 28=false∧zaX Tryz.prog 28=some 236∧arrT Tryz.prog 28=none∧zbF Tryz.prog 28=some [.slice none 0 0]:=⟨by kernel_rfl,by kernel_rfl,by kernel_rfl,by kernel_rfl,by kernel_rfl,by kernel_rfl,by kernel_rfl⟩
@[go_sem] theorem zyY:hasT Tryz.prog 29=true∧szT Tryz.prog 29=1∧Tryz.prog.bytesOf 29=24∧aggT Tryz.prog 29=false∧zaX Tryz.prog 29=some 254∧arrT Tryz.prog 29=none∧zbF Tryz.prog 29=some [.slice none 0 0]:=⟨by kernel_rfl,by kernel_rfl,by kernel_rfl,by kernel_rfl,by kernel_rfl,by kernel_rfl,by kernel_rfl⟩
@[go_sem] theorem zyZ:hasT Tryz.prog 30=true∧szT Tryz.prog 30=2∧Tryz.prog.bytesOf 30=48∧aggT Tryz.prog 30=true∧zaX Tryz.prog 30=none∧arrT Tryz.prog 30=none∧zbF Tryz.prog 30=some [.slice none 0 0,.slice none 0 0]∧zbE Tryz.prog 30=true:=⟨by kernel_rfl,by kernel_rfl,by kernel_rfl,by kernel_rfl,by kernel_rfl,by kernel_rfl,by kernel_rfl,by kernel_rfl⟩
@[go_sem] theorem zy0:hasT Tryz.prog 31=true∧szT Tryz.prog 31=2∧Tryz.prog.bytesOf 31=48∧aggT Tryz.prog 31=true∧zaX Tryz.prog 31=none∧arrT Tryz.prog 31=none∧zbF Tryz.prog 31=some [.slice none 0 0,.slice none 0 0]∧zbE Tryz.prog 31=true:=⟨by kernel_rfl,by kernel_rfl,by kernel_rfl,by kernel_rfl,by kernel_rfl,by kernel_rfl,by kernel_rfl,by kernel_rfl⟩
@[go_sem] theorem zmL:hasT Tryz.prog 32=true∧szT Tryz.prog 32=1∧Tryz.prog.bytesOf 32=24∧aggT Tryz.prog 32=false∧zaX Tryz.prog 32=some 180∧arrT Tryz.prog 32=none∧zbF Tryz.prog 32=some [.slice none 0 0]:=⟨by kernel_rfl,by kernel_rfl,by kernel_rfl,by kernel_rfl,by kernel_rfl,by kernel_rfl,by kernel_rfl⟩
@[go_sem] theorem zy1:hasT Tryz.prog 33=true∧szT Tryz.prog 33=2∧Tryz.prog.bytesOf 33=16∧aggT Tryz.prog 33=true∧zaX Tryz.prog 33=none∧arrT Tryz.prog 33=none∧zbF Tryz.prog 33=some [.int .i64 0,.bool false]∧zbE Tryz.prog 33=true:=⟨by kernel_rfl,by kernel_rfl,by kernel_rfl,by kernel_rfl,by kernel_rfl,by kernel_rfl,by kernel_rfl,by kernel_rfl⟩
@[go_sem] theorem zy2:hasT Tryz.prog 34=true∧szT Tryz.prog 34=2∧Tryz.prog.bytesOf 34=16∧aggT Tryz.prog 34=true∧zaX Tryz.prog 34=none∧arrT Tryz.prog 34=none∧zbF Tryz.prog 34=some [.int .i64 0,.bool false]∧zbE Tryz.prog 34=true:=⟨by kernel_rfl,by kernel_rfl,by kernel_rfl,by kernel_rfl,by kernel_rfl,by kernel_rfl,by kernel_rfl,by kernel_rfl⟩
@[go_sem] theorem zmM:hasT Tryz.prog 35=true∧szT Tryz.prog 35=1∧Tryz.prog.bytesOf 35=24∧aggT Tryz.prog 35=false∧zaX Tryz.prog 35=some 3∧arrT Tryz.prog 35=none∧zbF Tryz.prog 35=some [.slice none 0 0]:=⟨by kernel_rfl,by kernel_rfl,by kernel_rfl,by kernel_rfl,by kernel_rfl,by kernel_rfl,by kernel_rfl⟩
@[go_sem] theorem zmN:hasT Tryz.prog 36=true∧szT Tryz.prog 36=4∧Tryz.prog.bytesOf 36=48∧aggT Tryz.prog 36=true∧zaX Tryz.prog 36=none∧arrT Tryz.prog 36=none∧zbF Tryz.prog 36=some [.int .i64 0,.int .i64 0,.int .i64 0,.slice none 0 0]∧zbE Tryz.prog 36=true:=⟨by kernel_rfl,by kernel_rfl,by kernel_rfl,by kernel_rfl,by kernel_rfl,by kernel_rfl,by kernel_rfl,by kernel_rfl⟩
@[go_sem] theorem zmO:hasT Tryz.prog 37=true∧szT Tryz.prog 37=4∧Tryz.prog.bytesOf 37=48∧aggT Tryz.prog 37=true∧zaX Tryz.prog 37=none∧arrT Tryz.prog 37=none∧zbF Tryz.prog 37=some [.int .i64 0,.int .i64 0,.int .i64 0,.slice none 0 0]∧zbE Tryz.prog 37=true:=⟨by kernel_rfl,by kernel_rfl,by kernel_rfl,by kernel_rfl,by kernel_rfl,by kernel_rfl,by kernel_rfl,by kernel_rfl⟩
@[go_sem] theorem zmP:hasT Tryz.prog 38=true∧szT Tryz.prog 38=12∧Tryz.prog.bytesOf 38=192∧aggT Tryz.prog 38=true∧zaX Tryz.prog 38=none∧arrT Tryz.prog 38=none∧zbF Tryz.prog 38=some [.int .i64 0,.slice none 0 0,.slice none 0 0,.slice none 0 0,.slice none 0 0,.slice none 0 0,.int .i64 0,.bool false,.int .i64 0,.int .i64 0,.int .i64 0,.slice none 0 0]∧zbE Tryz.prog 38=true:=⟨by kernel_rfl,by kernel_rfl,by kernel_rfl,by kernel_rfl,by kernel_rfl,by kernel_rfl,by kernel_rfl,by kernel_rfl⟩
@[go_sem] theorem zmQ:hasT Tryz.prog 39=true∧szT Tryz.prog 39=12∧Tryz.prog.bytesOf 39=192∧aggT Tryz.prog 39=true∧zaX Tryz.prog 39=none∧arrT Tryz.prog 39=none∧zbF Tryz.prog 39=some [.int .i64 0,.slice none 0 0,.slice none 0 0,.slice none 0 0,.slice none 0 0,.slice none 0 0,.int .i64 0,.bool false,.int .i64 0,.int .i64 0,.int .i64 0,.slice none 0 0]∧zbE Tryz.prog 39=true:=⟨by kernel_rfl,by kernel_rfl,by kernel_rfl,by kernel_rfl,by kernel_rfl,by kernel_rfl,by kernel_rfl,by kernel_rfl⟩
@[go_sem] theorem zmR:hasT Tryz.prog 40=true∧szT Tryz.prog 40=1∧Tryz.prog.bytesOf 40=24∧aggT Tryz.prog 40=false∧zaX Tryz.prog 40=some 77∧arrT Tryz.prog 40=none∧zbF Tryz.prog 40=some [.slice none 0 0]:=⟨by kernel_rfl,by kernel_rfl,by kernel_rfl,by kernel_rfl,by kernel_rfl,by kernel_rfl,by kernel_rfl⟩
@[go_sem] theorem zmU:hasT Tryz.prog 48=true∧szT Tryz.prog 48=1∧Tryz.prog.bytesOf 48=24∧aggT Tryz.prog 48=false∧zaX Tryz.prog 48=some 294∧arrT Tryz.prog 48=none∧zbF Tryz.prog 48=some [.slice none 0 0]:=⟨by kernel_rfl,by kernel_rfl,by kernel_rfl,by kernel_rfl,by kernel_rfl,by kernel_rfl,by kernel_rfl⟩
@[go_sem] theorem zy3:hasT Tryz.prog 49=true∧szT Tryz.prog 49=2∧Tryz.prog.bytesOf 49=32∧aggT Tryz.prog 49=true∧zaX Tryz.prog 49=none∧arrT Tryz.prog 49=none∧zbF Tryz.prog 49=some [.int .i64 0,.slice none 0 0]∧zbE Tryz.prog 49=true:=⟨by kernel_rfl,by kernel_rfl,by kernel_rfl,by kernel_rfl,by kernel_rfl,by kernel_rfl,by kernel_rfl,by kernel_rfl⟩
@[go_sem] theorem zmV:hasT Tryz.prog 50=true∧szT Tryz.prog 50=2∧Tryz.prog.bytesOf 50=32∧aggT Tryz.prog 50=true∧zaX Tryz.prog 50=none∧arrT Tryz.prog 50=none∧zbF Tryz.prog 50=some [.int .i64 0,.slice none 0 0]∧zbE Tryz.prog 50=true:=⟨by kernel_rfl,by kernel_rfl,by kernel_rfl,by kernel_rfl,by kernel_rfl,by kernel_rfl,by kernel_rfl,by kernel_rfl⟩
@[go_sem] theorem zmW:hasT Tryz.prog 51=true∧szT Tryz.prog 51=1∧Tryz.prog.bytesOf 51=24∧aggT Tryz.prog 51=false∧zaX Tryz.prog 51=some 115∧arrT Tryz.prog 51=none∧zbF Tryz.prog 51=some [.slice none 0 0]:=⟨by kernel_rfl,by kernel_rfl,by kernel_rfl,by kernel_rfl,by kernel_rfl,by kernel_rfl,by kernel_rfl⟩
@[go_sem] theorem zmX:hasT Tryz.prog 52=true∧szT Tryz.prog 52=3∧Tryz.prog.bytesOf 52=56∧aggT Tryz.prog 52=true∧zaX Tryz.prog 52=none∧arrT Tryz.prog 52=none∧zbF Tryz.prog 52=some [.int .i64 0,.slice none 0 0,.slice none 0 0]∧zbE Tryz.prog 52=true:=⟨by kernel_rfl,by kernel_rfl,by kernel_rfl,by kernel_rfl,by kernel_rfl,by kernel_rfl,by kernel_rfl,by kernel_rfl⟩
@[go_sem] theorem zmY:hasT Tryz.prog 53=true∧szT Tryz.prog 53=3∧Tryz.prog.bytesOf 53=56∧aggT Tryz.prog 53=true∧zaX Tryz.prog 53=none∧arrT Tryz.prog 53=none∧zbF Tryz.prog 53=some [.int .i64 0,.slice none 0 0,.slice none 0 0]∧zbE Tryz.prog 53=true:=⟨by kernel_rfl,by kernel_rfl,by kernel_rfl,by kernel_rfl,by kernel_rfl,by kernel_rfl,by kernel_rfl,by kernel_rfl⟩
@[go_sem] theorem zy4:hasT Tryz.prog 54=true∧szT Tryz.prog 54=1∧Tryz.prog.bytesOf 54=24∧aggT Tryz.prog 54=false∧zaX Tryz.prog 54=some 233∧arrT Tryz.prog 54=none∧zbF Tryz.prog 54=some [.slice none 0 0]:=⟨by kernel_rfl,by kernel_rfl,by kernel_rfl,by kernel_rfl,by kernel_rfl,by kernel_rfl,by kernel_rfl⟩
@[go_sem] theorem zmZ:hasT Tryz.prog 55=true∧szT Tryz.prog 55=1∧Tryz.prog.bytesOf 55=24∧aggT Tryz.prog 55=false∧zaX Tryz.prog 55=some 221∧arrT Tryz.prog 55=none∧zbF Tryz.prog 55=some [.slice none 0 0]:=⟨by kernel_rfl,by kernel_rfl,by kernel_rfl,by kernel_rfl,by kernel_rfl,by kernel_rfl,by kernel_rfl⟩
@[go_sem] theorem zm0:hasT Tryz.prog 56=true∧szT Tryz.prog 56=2∧Tryz.prog.bytesOf 56=48∧aggT Tryz.prog 56=true∧zaX Tryz.prog 56=none∧arrT Tryz.prog 56=none∧zbF Tryz.prog 56=some [.slice none 0 0,.slice none 0 0]∧zbE Tryz.prog 56=true:=⟨by kernel_rfl,by kernel_rfl,by kernel_rfl,by kernel_rfl,by kernel_rfl,by kernel_rfl,by kernel_rfl,by kernel_rfl⟩
@[go_sem] theorem zm1:hasT Tryz.prog 57=true∧szT Tryz.prog 57=2∧Tryz.prog.bytesOf 57=48∧aggT Tryz.prog 57=true∧zaX Tryz.prog 57=none∧arrT Tryz.prog 57=none∧zbF Tryz.prog 57=some [.slice none 0 0,.slice none 0 0]∧zbE Tryz.prog 57=true:=⟨by kernel_rfl,by kernel_rfl,by kernel_rfl,by kernel_rfl,by kernel_rfl,by kernel_rfl,by kernel_rfl,by kernel_rfl⟩
@[go_sem] theorem zy5:hasT Tryz.prog 58=true∧szT Tryz.prog 58=1∧Tryz.prog.bytesOf 58=24∧aggT Tryz.prog 58=false∧zaX Tryz.prog 58=some 156∧arrT Tryz.prog 58=none∧zbF Tryz.prog 58=some [.slice none 0 0]:=⟨by kernel_rfl,by kernel_rfl,by kernel_rfl,by kernel_rfl,by kernel_rfl,by kernel_rfl,by kernel_rfl⟩
@[go_sem] theorem zy6:hasT Tryz.prog 59=true∧szT Tryz.prog 59=2∧Tryz.prog.bytesOf 59=16∧aggT Tryz.prog 59=true∧zaX Tryz.prog 59=none∧arrT Tryz.prog 59=none∧zbF Tryz.prog 59=some [.int .i64 0,.bool false]∧zbE Tryz.prog 59=true:=⟨by kernel_rfl,by kernel_rfl,by kernel_rfl,by kernel_rfl,by kernel_rfl,by kernel_rfl,by kernel_rfl,by kernel_rfl⟩
@[go_sem] theorem zy7:hasT Tryz.prog 60=true∧szT Tryz.prog 60=4∧Tryz.prog.bytesOf 60=48∧aggT Tryz.prog 60=true∧zaX Tryz.prog 60=none∧arrT Tryz.prog 60=none∧zbF Tryz.prog 60=some [.int .i64 0,.int .i64 0,.int .i64 0,.slice none 0 0]∧zbE Tryz.prog 60=true:=⟨by kernel_rfl,by kernel_rfl,by kernel_rfl,by kernel_rfl,by kernel_rfl,by kernel_rfl,by kernel_rfl,by kernel_rfl⟩
@[go_sem] theorem zy8:hasT Tryz.prog 61=true∧szT Tryz.prog 61=12∧Tryz.prog.bytesOf 61=192∧aggT Tryz.prog 61=true∧zaX Tryz.prog 61=none∧arrT Tryz.prog 61=none∧zbF Tryz.prog 61=some [.int .i64 0,.slice none 0 0,.slice none 0 0,.slice none 0 0,.slice none 0 0,.slice none 0 0,.int .i64 0,.bool false,.int .i64 0,.int .i64 0,.int .i64 0,.slice none 0 0]∧zbE Tryz.prog 61=true:=⟨by kernel_rfl,by kernel_rfl,by kernel_rfl,by kernel_rfl,by kernel_rfl,by kernel_rfl,by kernel_rfl,by kernel_rfl⟩
@[go_sem] theorem zy9:hasT Tryz.prog 62=true∧szT Tryz.prog 62=12∧Tryz.prog.bytesOf 62=192∧aggT Tryz.prog 62=true∧zaX Tryz.prog 62=none∧arrT Tryz.prog 62=none∧zbF Tryz.prog 62=some [.int .i64 0,.slice none 0 0,.slice none 0 0,.slice none 0 0,.slice none 0 0,.slice none 0 0,.int .i64 0,.bool false,.int .i64 0,.int .i64 0,.int .i64 0,.slice none 0 0]∧zbE Tryz.prog 62=true:=⟨by kernel_rfl,by kernel_rfl,by kernel_rfl,by kernel_rfl,by kernel_rfl,by kernel_rfl,by kernel_rfl,by kernel_rfl⟩
@[go_sem] theorem zza:hasT Tryz.prog 72=true∧szT Tryz.prog 72=1∧Tryz.prog.bytesOf 72=8∧aggT Tryz.prog 72=false∧zaX Tryz.prog 72=none∧arrT Tryz.prog 72=none∧zbF Tryz.prog 72=some [.nilFunc]:=⟨by kernel_rfl,by kernel_rfl,by kernel_rfl,by kernel_rfl,by kernel_rfl,by kernel_rfl,by kernel_rfl⟩
@[go_sem] theorem zzb:hasT Tryz.prog 76=true∧szT Tryz.prog 76=5∧Tryz.prog.bytesOf 76=40∧aggT Tryz.prog 76=true∧zaX Tryz.prog 76=none∧arrT Tryz.prog 76=none∧zbF Tryz.prog 76=some [.int .i64 0,.int .i64 0,.int .i64 0,.int .i64 0,.int .i64 0]∧zbE Tryz.prog 76=true:=⟨by kernel_rfl,by kernel_rfl,by kernel_rfl,by kernel_rfl,by kernel_rfl,by kernel_rfl,by kernel_rfl,by kernel_rfl⟩
@[go_sem] theorem zzc:hasT Tryz.prog 77=true∧szT Tryz.prog 77=5∧Tryz.prog.bytesOf 77=40∧aggT Tryz.prog 77=true∧zaX Tryz.prog 77=none∧arrT Tryz.prog 77=none∧zbF Tryz.prog 77=some [.int .i64 0,.int .i64 0,.int .i64 0,.int .i64 0,.int .i64 0]∧zbE Tryz.prog 77=true:=⟨by kernel_rfl,by kernel_rfl,by kernel_rfl,by kernel_rfl,by kernel_rfl,by kernel_rfl,by kernel_rfl,by kernel_rfl⟩
@[go_sem] theorem zm4:hasT Tryz.prog 79=true∧szT Tryz.prog 79=5∧Tryz.prog.bytesOf 79=40∧aggT Tryz.prog 79=true∧zaX Tryz.prog 79=none∧arrT Tryz.prog 79=none∧zbF Tryz.prog 79=some [.int .i64 0,.int .i64 0,.int .i64 0,.int .i64 0,.int .i64 0]∧zbE Tryz.prog 79=true:=⟨by kernel_rfl,by kernel_rfl,by kernel_rfl,by kernel_rfl,by kernel_rfl,by kernel_rfl,by kernel_rfl,by kernel_rfl⟩
@[go_sem] theorem zzd:hasT Tryz.prog 82=true∧szT Tryz.prog 82=1∧Tryz.prog.bytesOf 82=24∧aggT Tryz.prog 82=false∧zaX Tryz.prog 82=some 212∧arrT Tryz.prog 82=none∧zbF Tryz.prog 82=some [.slice none 0 0]:=⟨by kernel_rfl,by kernel_rfl,by kernel_rfl,by kernel_rfl,by kernel_rfl,by kernel_rfl,by kernel_rfl⟩
@[go_sem] theorem zm6:hasT Tryz.prog 83=true∧szT Tryz.prog 83=4∧Tryz.prog.bytesOf 83=48∧aggT Tryz.prog 83=true∧zaX Tryz.prog 83=none∧arrT Tryz.prog 83=none∧zbF Tryz.prog 83=some [.int .i64 0,.int .i64 0,.int .i64 0,.slice none 0 0]∧zbE Tryz.prog 83=true:=⟨by kernel_rfl,by kernel_rfl,by kernel_rfl,by kernel_rfl,by kernel_rfl,by kernel_rfl,by kernel_rfl,by kernel_rfl⟩
@[go_sem] theorem zze:hasT Tryz.prog 84=true∧szT Tryz.prog 84=4∧Tryz.prog.bytesOf 84=48∧aggT Tryz.prog 84=true∧zaX Tryz.prog 84=none∧arrT Tryz.prog 84=none∧zbF Tryz.prog 84=some [.int .i64 0,.int .i64 0,.int .i64 0,.slice none 0 0]∧zbE Tryz.prog 84=true:=⟨by kernel_rfl,by kernel_rfl,by kernel_rfl,by kernel_rfl,by kernel_rfl,by kernel_rfl,by kernel_rfl,by kernel_rfl⟩
@[go_sem] theorem zm8:hasT Tryz.prog 87=true∧szT Tryz.prog 87=1∧Tryz.prog.bytesOf 87=24∧aggT Tryz.prog 87=false∧zaX Tryz.prog 87=some 147∧arrT Tryz.prog 87=none∧zbF Tryz.prog 87=some [.slice none 0 0]:=⟨by kernel_rfl,by kernel_rfl,by kernel_rfl,by kernel_rfl,by kernel_rfl,by kernel_rfl,by kernel_rfl⟩
@[go_sem] theorem zm9:hasT Tryz.prog 88=true∧szT Tryz.prog 88=4∧Tryz.prog.bytesOf 88=48∧aggT Tryz.prog 88=true∧zaX Tryz.prog 88=none∧arrT Tryz.prog 88=none∧zbF Tryz.prog 88=some [.int .i64 0,.int .i64 0,.int .i64 0,.slice none 0 0]∧zbE Tryz.prog 88=true:=⟨by kernel_rfl,by kernel_rfl,by kernel_rfl,by kernel_rfl,by kernel_rfl,by kernel_rfl,by kernel_rfl,by kernel_rfl⟩
@[go_sem] theorem zzf:hasT Tryz.prog 89=true∧szT Tryz.prog 89=4∧Tryz.prog.bytesOf 89=48∧aggT Tryz.prog 89=true∧zaX Tryz.prog 89=none∧arrT Tryz.prog 89=none∧zbF Tryz.prog 89=some [.int .i64 0,.int .i64 0,.int .i64 0,.slice none 0 0]∧zbE Tryz.prog 89=true:=⟨by kernel_rfl,by kernel_rfl,by kernel_rfl,by kernel_rfl,by kernel_rfl,by kernel_rfl,by kernel_rfl,by kernel_rfl⟩
@[go_sem] theorem zzg:hasT Tryz.prog 99=true∧szT Tryz.prog 99=1∧Tryz.prog.bytesOf 99=24∧aggT Tryz.prog 99=false∧zaX Tryz.prog 99=some 89∧arrT Tryz.prog 99=none∧zbF Tryz.prog 99=some [.slice none 0 0]:=⟨by kernel_rfl,by kernel_rfl,by kernel_rfl,by kernel_rfl,by kernel_rfl,by kernel_rfl,by kernel_rfl⟩
@[go_sem] theorem znf:hasT Tryz.prog 104=true∧szT Tryz.prog 104=1∧Tryz.prog.bytesOf 104=8∧aggT Tryz.prog 104=false∧zaX Tryz.prog 104=none∧arrT Tryz.prog 104=none∧zbF Tryz.prog 104=some [.nilFunc]:=⟨by kernel_rfl,by kernel_rfl,by kernel_rfl,by kernel_rfl,by kernel_rfl,by kernel_rfl,by kernel_rfl⟩
@[go_sem] theorem zzh:hasT Tryz.prog 114=true∧szT Tryz.prog 114=3∧Tryz.prog.bytesOf 114=24∧aggT Tryz.prog 114=true∧zaX Tryz.prog 114=none∧arrT Tryz.prog 114=none∧zbF Tryz.prog 114=some [.int .i64 0,.int .i64 0,.int .i64 0]∧zbE Tryz.prog 114=true:=⟨by kernel_rfl,by kernel_rfl,by kernel_rfl,by kernel_rfl,by kernel_rfl,by kernel_rfl,by kernel_rfl,by kernel_rfl⟩
@[go_sem] theorem znj:hasT Tryz.prog 115=true∧szT Tryz.prog 115=3∧Tryz.prog.bytesOf 115=24∧aggT Tryz.prog 115=true∧zaX Tryz.prog 115=none∧arrT Tryz.prog 115=none∧zbF Tryz.prog 115=some [.int .i64 0,.int .i64 0,.int .i64 0]∧zbE Tryz.prog 115=true:=⟨by kernel_rfl,by kernel_rfl,by kernel_rfl,by kernel_rfl,by kernel_rfl,by kernel_rfl,by kernel_rfl,by kernel_rfl⟩
@[go_sem] theorem znq:hasT Tryz.prog 130=true∧szT Tryz.prog 130=1∧Tryz.prog.bytesOf 130=8∧aggT Tryz.prog 130=false∧zaX Tryz.prog 130=none∧arrT Tryz.prog 130=none∧zbF Tryz.prog 130=some [.nilFunc]:=⟨by kernel_rfl,by kernel_rfl,by kernel_rfl,by kernel_rfl,by kernel_rfl,by kernel_rfl,by kernel_rfl⟩
@[go_sem] theorem zzi:hasT Tryz.prog 144=true∧szT Tryz.prog 144=1∧Tryz.prog.bytesOf 144=8∧aggT Tryz.prog 144=false∧zaX Tryz.prog 144=none∧arrT Tryz.prog 144=none∧zbF Tryz.prog 144=some [.nilFunc]:=⟨by kernel_rfl,by kernel_rfl,by kernel_rfl,by kernel_rfl,by kernel_rfl,by kernel_rfl,by kernel_rfl⟩
@[go_sem] theorem zzj:hasT Tryz.prog 146=true∧szT Tryz.prog 146=5∧Tryz.prog.bytesOf 146=40∧aggT Tryz.prog 146=true∧zaX Tryz.prog 146=none∧arrT Tryz.prog 146=none∧zbF Tryz.prog 146=some [.int .i64 0,.int .i64 0,.bool false,.int .i64 0,.int .i64 0]∧zbE Tryz.prog 146=true:=⟨by kernel_rfl,by kernel_rfl,by kernel_rfl,by kernel_rfl,by kernel_rfl,by kernel_rfl,by kernel_rfl,by kernel_rfl⟩
@[go_sem] theorem znv:hasT Tryz.prog 147=true∧szT Tryz.prog 147=5∧Tryz.prog.bytesOf 147=40∧aggT Tryz.prog 147=true∧zaX Tryz.prog 147=none∧arrT Tryz.prog 147=none∧zbF Tryz.prog 147=some [.int .i64 0,.int .i64 0,.bool false,.int .i64 0,.int .i64 0]∧zbE Tryz.prog 147=true:=⟨by kernel_rfl,by kernel_rfl,by kernel_rfl,by kernel_rfl,by kernel_rfl,by kernel_rfl,by kernel_rfl,by kernel_rfl⟩
@[go_sem] theorem znx:hasT Tryz.prog 155=true∧szT Tryz.prog 155=6∧Tryz.prog.bytesOf 155=56∧aggT Tryz.prog 155=true∧zaX Tryz.prog 155=none∧arrT Tryz.prog 155=none∧zbF Tryz.prog 155=some [.string ByteArray.empty,.int .i64 0,.int .i64 0,.int .i64 0,.int .i64 0,.bool false]∧zbE Tryz.prog 155=true:=⟨by kernel_rfl,by kernel_rfl,by kernel_rfl,by kernel_rfl,by kernel_rfl,by kernel_rfl,by kernel_rfl,by kernel_rfl⟩
@[go_sem] theorem zzk:hasT Tryz.prog 156=true∧szT Tryz.prog 156=6∧Tryz.prog.bytesOf 156=56∧aggT Tryz.prog 156=true∧zaX Tryz.prog 156=none∧arrT Tryz.prog 156=none∧zbF Tryz.prog 156=some [.string ByteArray.empty,.int .i64 0,.int .i64 0,.int .i64 0,.int .i64 0,.bool false]∧zbE Tryz.prog 156=true:=⟨by kernel_rfl,by kernel_rfl,by kernel_rfl,by kernel_rfl,by kernel_rfl,by kernel_rfl,by kernel_rfl,by kernel_rfl⟩
@[go_sem] theorem zzl:hasT Tryz.prog 158=true∧szT Tryz.prog 158=1∧Tryz.prog.bytesOf 158=24∧aggT Tryz.prog 158=false∧zaX Tryz.prog 158=some 4∧arrT Tryz.prog 158=none∧zbF Tryz.prog 158=some [.slice none 0 0]:=⟨by kernel_rfl,by kernel_rfl,by kernel_rfl,by kernel_rfl,by kernel_rfl,by kernel_rfl,by kernel_rfl⟩
@[go_sem] theorem zzm:hasT Tryz.prog 159=true∧szT Tryz.prog 159=1∧Tryz.prog.bytesOf 159=24∧aggT Tryz.prog 159=false∧zaX Tryz.prog 159=some 227∧arrT Tryz.prog 159=none∧zbF Tryz.prog 159=some [.slice none 0 0]:=⟨by kernel_rfl,by kernel_rfl,by kernel_rfl,by kernel_rfl,by kernel_rfl,by kernel_rfl,by kernel_rfl⟩
@[go_sem] theorem zzn:hasT Tryz.prog 160=true∧szT Tryz.prog 160=3∧Tryz.prog.bytesOf 160=72∧aggT Tryz.prog 160=true∧zaX Tryz.prog 160=none∧arrT Tryz.prog 160=none∧zbF Tryz.prog 160=some [.slice none 0 0,.slice none 0 0,.slice none 0 0]∧zbE Tryz.prog 160=true:=⟨by kernel_rfl,by kernel_rfl,by kernel_rfl,by kernel_rfl,by kernel_rfl,by kernel_rfl,by kernel_rfl,by kernel_rfl⟩
@[go_sem] theorem zny:hasT Tryz.prog 161=true∧szT Tryz.prog 161=3∧Tryz.prog.bytesOf 161=72∧aggT Tryz.prog 161=true∧zaX Tryz.prog 161=none∧arrT Tryz.prog 161=none∧zbF Tryz.prog 161=some [.slice none 0 0,.slice none 0 0,.slice none 0 0]∧zbE Tryz.prog 161=true:=⟨by kernel_rfl,by kernel_rfl,by kernel_rfl,by kernel_rfl,by kernel_rfl,by kernel_rfl,by kernel_rfl,by kernel_rfl⟩
@[go_sem] theorem zzo:hasT Tryz.prog 172=true∧szT Tryz.prog 172=1∧Tryz.prog.bytesOf 172=24∧aggT Tryz.prog 172=false∧zaX Tryz.prog 172=some 99∧arrT Tryz.prog 172=none∧zbF Tryz.prog 172=some [.slice none 0 0]:=⟨by kernel_rfl,by kernel_rfl,by kernel_rfl,by kernel_rfl,by kernel_rfl,by kernel_rfl,by kernel_rfl⟩
@[go_sem] theorem zzp:hasT Tryz.prog 174=true∧szT Tryz.prog 174=1∧Tryz.prog.bytesOf 174=8∧aggT Tryz.prog 174=false∧zaX Tryz.prog 174=none∧arrT Tryz.prog 174=none∧zbF Tryz.prog 174=some [.nilFunc]:=⟨by kernel_rfl,by kernel_rfl,by kernel_rfl,by kernel_rfl,by kernel_rfl,by kernel_rfl,by kernel_rfl⟩
@[go_sem] theorem zzq:hasT Tryz.prog 180=true∧szT Tryz.prog 180=6∧Tryz.prog.bytesOf 180=56∧aggT Tryz.prog 180=true∧zaX Tryz.prog 180=none∧arrT Tryz.prog 180=none∧zbF Tryz.prog 180=some [.string ByteArray.empty,.int .i64 0,.int .i64 0,.int .i64 0,.int .i64 0,.bool false]∧zbE Tryz.prog 180=true:=⟨by kernel_rfl,by kernel_rfl,by kernel_rfl,by kernel_rfl,by kernel_rfl,by kernel_rfl,by kernel_rfl,by kernel_rfl⟩
@[go_sem] theorem zzr:hasT Tryz.prog 192=true∧szT Tryz.prog 192=1∧Tryz.prog.bytesOf 192=8∧aggT Tryz.prog 192=false∧zaX Tryz.prog 192=none∧arrT Tryz.prog 192=none∧zbF Tryz.prog 192=some [.nilFunc]:=⟨by kernel_rfl,by kernel_rfl,by kernel_rfl,by kernel_rfl,by kernel_rfl,by kernel_rfl,by kernel_rfl⟩
@[go_sem] theorem zzs:hasT Tryz.prog 193=true∧szT Tryz.prog 193=1∧Tryz.prog.bytesOf 193=8∧aggT Tryz.prog 193=false∧zaX Tryz.prog 193=none∧arrT Tryz.prog 193=none∧zbF Tryz.prog 193=some [.nilFunc]:=⟨by kernel_rfl,by kernel_rfl,by kernel_rfl,by kernel_rfl,by kernel_rfl,by kernel_rfl,by kernel_rfl⟩
@[go_sem] theorem zzt:hasT Tryz.prog 194=true∧szT Tryz.prog 194=1∧Tryz.prog.bytesOf 194=8∧aggT Tryz.prog 194=false∧zaX Tryz.prog 194=none∧arrT Tryz.prog 194=none∧zbF Tryz.prog 194=some [.nilFunc]:=⟨by kernel_rfl,by kernel_rfl,by kernel_rfl,by kernel_rfl,by kernel_rfl,by kernel_rfl,by kernel_rfl⟩
@[go_sem] theorem zzu:hasT Tryz.prog 195=true∧szT Tryz.prog 195=2∧Tryz.prog.bytesOf 195=16∧aggT Tryz.prog 195=true∧zaX Tryz.prog 195=none∧arrT Tryz.prog 195=some (2,3)∧zbF Tryz.prog 195=some [.int .i64 0,.int .i64 0]∧zbE Tryz.prog 195=true:=⟨by kernel_rfl,by kernel_rfl,by kernel_rfl,by kernel_rfl,by kernel_rfl,by kernel_rfl,by kernel_rfl,by kernel_rfl⟩
@[go_sem] theorem zzv:hasT Tryz.prog 196=true∧szT Tryz.prog 196=2∧Tryz.prog.bytesOf 196=16∧aggT Tryz.prog 196=true∧zaX Tryz.prog 196=none∧arrT Tryz.prog 196=some (2,3)∧zbF Tryz.prog 196=some [.int .i64 0,.int .i64 0]∧zbE Tryz.prog 196=true:=⟨by kernel_rfl,by kernel_rfl,by kernel_rfl,by kernel_rfl,by kernel_rfl,by kernel_rfl,by kernel_rfl,by kernel_rfl⟩
@[go_sem] theorem zzw:hasT Tryz.prog 199=true∧szT Tryz.prog 199=1∧Tryz.prog.bytesOf 199=8∧aggT Tryz.prog 199=false∧zaX Tryz.prog 199=none∧arrT Tryz.prog 199=none∧zbF Tryz.prog 199=some [.nilFunc]:=⟨by kernel_rfl,by kernel_rfl,by kernel_rfl,by kernel_rfl,by kernel_rfl,by kernel_rfl,by kernel_rfl⟩
@[go_sem] theorem zzx:hasT Tryz.prog 212=true∧szT Tryz.prog 212=5∧Tryz.prog.bytesOf 212=40∧aggT Tryz.prog 212=true∧zaX Tryz.prog 212=none∧arrT Tryz.prog 212=none∧zbF Tryz.prog 212=some [.int .i64 0,.int .i64 0,.bool false,.int .i64 0,.int .i64 0]∧zbE Tryz.prog 212=true:=⟨by kernel_rfl,by kernel_rfl,by kernel_rfl,by kernel_rfl,by kernel_rfl,by kernel_rfl,by kernel_rfl,by kernel_rfl⟩
@[go_sem] theorem zzy:hasT Tryz.prog 215=true∧szT Tryz.prog 215=1∧Tryz.prog.bytesOf 215=8∧aggT Tryz.prog 215=false∧zaX Tryz.prog 215=none∧arrT Tryz.prog 215=none∧zbF Tryz.prog 215=some [.nilFunc]:=⟨by kernel_rfl,by kernel_rfl,by kernel_rfl,by kernel_rfl,by kernel_rfl,by kernel_rfl,by kernel_rfl⟩
@[go_sem] theorem zzz:hasT Tryz.prog 216=true∧szT Tryz.prog 216=1∧Tryz.prog.bytesOf 216=8∧aggT Tryz.prog 216=false∧zaX Tryz.prog 216=none∧arrT Tryz.prog 216=none∧zbF Tryz.prog 216=some [.nilFunc]:=⟨by kernel_rfl,by kernel_rfl,by kernel_rfl,by kernel_rfl,by kernel_rfl,by kernel_rfl,by kernel_rfl⟩
@[go_sem] theorem zzA:hasT Tryz.prog 220=true∧szT Tryz.prog 220=5∧Tryz.prog.bytesOf 220=40∧aggT Tryz.prog 220=true∧zaX Tryz.prog 220=none∧arrT Tryz.prog 220=none∧zbF Tryz.prog 220=some [.int .i64 0,.int .i64 0,.int .i64 0,.int .i64 0,.bool false]∧zbE Tryz.prog 220=true:=⟨by kernel_rfl,by kernel_rfl,by kernel_rfl,by kernel_rfl,by kernel_rfl,by kernel_rfl,by kernel_rfl,by kernel_rfl⟩
@[go_sem] theorem zzB:hasT Tryz.prog 221=true∧szT Tryz.prog 221=5∧Tryz.prog.bytesOf 221=40∧aggT Tryz.prog 221=true∧zaX Tryz.prog 221=none∧arrT Tryz.prog 221=none∧zbF Tryz.prog 221=some [.int .i64 0,.int .i64 0,.int .i64 0,.int .i64 0,.bool false]∧zbE Tryz.prog 221=true:=⟨by kernel_rfl,by kernel_rfl,by kernel_rfl,by kernel_rfl,by kernel_rfl,by kernel_rfl,by kernel_rfl,by kernel_rfl⟩
@[go_sem] theorem zzC:hasT Tryz.prog 223=true∧szT Tryz.prog 223=1∧Tryz.prog.bytesOf 223=8∧aggT Tryz.prog 223=false∧zaX Tryz.prog 223=none∧arrT Tryz.prog 223=none∧zbF Tryz.prog 223=some [.nilFunc]:=⟨by kernel_rfl,by kernel_rfl,by kernel_rfl,by kernel_rfl,by kernel_rfl,by kernel_rfl,by kernel_rfl⟩
@[go_sem] theorem zzD:hasT Tryz.prog 224=true∧szT Tryz.prog 224=1∧Tryz.prog.bytesOf 224=24∧aggT Tryz.prog 224=false∧zaX Tryz.prog 224=some 35∧arrT Tryz.prog 224=none∧zbF Tryz.prog 224=some [.slice none 0 0]:=⟨by kernel_rfl,by kernel_rfl,by kernel_rfl,by kernel_rfl,by kernel_rfl,by kernel_rfl,by kernel_rfl⟩
@[go_sem] theorem zzE:hasT Tryz.prog 227=true∧szT Tryz.prog 227=1∧Tryz.prog.bytesOf 227=24∧aggT Tryz.prog 227=false∧zaX Tryz.prog 227=some 279∧arrT Tryz.prog 227=none∧zbF Tryz.prog 227=some [.slice none 0 0]:=⟨by kernel_rfl,by kernel_rfl,by kernel_rfl,by kernel_rfl,by kernel_rfl,by kernel_rfl,by kernel_rfl⟩
@[go_sem] theorem zzF:hasT Tryz.prog 232=true∧szT Tryz.prog 232=2∧Tryz.prog.bytesOf 232=24∧aggT Tryz.prog 232=true∧zaX Tryz.prog 232=none∧arrT Tryz.prog 232=none∧zbF Tryz.prog 232=some [.string ByteArray.empty,.bool false]∧zbE Tryz.prog 232=true:=⟨by kernel_rfl,by kernel_rfl,by kernel_rfl,by kernel_rfl,by kernel_rfl,by kernel_rfl,by kernel_rfl,by kernel_rfl⟩
@[go_sem] theorem zzG:hasT Tryz.prog 233=true∧szT Tryz.prog 233=2∧Tryz.prog.bytesOf 233=24∧aggT Tryz.prog 233=true∧zaX Tryz.prog 233=none∧arrT Tryz.prog 233=none∧zbF Tryz.prog 233=some [.string ByteArray.empty,.bool false]∧zbE Tryz.prog 233=true:=⟨by kernel_rfl,by kernel_rfl,by kernel_rfl,by kernel_rfl,by kernel_rfl,by kernel_rfl,by kernel_rfl,by kernel_rfl⟩
@[go_sem] theorem zzH:hasT Tryz.prog 235=true∧szT Tryz.prog 235=1∧Tryz.prog.bytesOf 235=8∧aggT Tryz.prog 235=false∧zaX Tryz.prog 235=none∧arrT Tryz.prog 235=none∧zbF Tryz.prog 235=some [.nilFunc]:=⟨by kernel_rfl,by kernel_rfl,by kernel_rfl,by kernel_rfl,by kernel_rfl,by kernel_rfl,by kernel_rfl⟩
@[go_sem] theorem zzI:hasT Tryz.prog 236=true∧szT Tryz.prog 236=2∧Tryz.prog.bytesOf 236=24∧aggT Tryz.prog 236=true∧zaX Tryz.prog 236=none∧arrT Tryz.prog 236=none∧zbF Tryz.prog 236=some [.string ByteArray.empty,.bool false]∧zbE Tryz.prog 236=true:=⟨by kernel_rfl,by kernel_rfl,by kernel_rfl,by kernel_rfl,by kernel_rfl,by kernel_rfl,by kernel_rfl,by kernel_rfl⟩
@[go_sem] theorem zzJ:hasT Tryz.prog 239=true∧szT Tryz.prog 239=1∧Tryz.prog.bytesOf 239=8∧aggT Tryz.prog 239=false∧zaX Tryz.prog 239=none∧arrT Tryz.prog 239=none∧zbF Tryz.prog 239=some [.nilFunc]:=⟨by kernel_rfl,by kernel_rfl,by kernel_rfl,by kernel_rfl,by kernel_rfl,by kernel_rfl,by kernel_rfl⟩
@[go_sem] theorem zzK:hasT Tryz.prog 245=true∧szT Tryz.prog 245=1∧Tryz.prog.bytesOf 245=8∧aggT Tryz.prog 245=false∧zaX Tryz.prog 245=none∧arrT Tryz.prog 245=none∧zbF Tryz.prog 245=some [.nilFunc]:=⟨by kernel_rfl,by kernel_rfl,by kernel_rfl,by kernel_rfl,by kernel_rfl,by kernel_rfl,by kernel_rfl⟩
@[go_sem] theorem zzL:hasT Tryz.prog 248=true∧szT Tryz.prog 248=1∧Tryz.prog.bytesOf 248=8∧aggT Tryz.prog 248=false∧zaX Tryz.prog 248=none∧arrT Tryz.prog 248=none∧zbF Tryz.prog 248=some [.nilFunc]:=⟨by kernel_rfl,by kernel_rfl,by kernel_rfl,by kernel_rfl,by kernel_rfl,by kernel_rfl,by kernel_rfl⟩
@[go_sem] theorem zzM:hasT Tryz.prog 251=true∧szT Tryz.prog 251=3∧Tryz.prog.bytesOf 251=24∧aggT Tryz.prog 251=true∧zaX Tryz.prog 251=none∧arrT Tryz.prog 251=none∧zbF Tryz.prog 251=some [.int .i64 0,.int .i64 0,.int .i64 0]∧zbE Tryz.prog 251=true:=⟨by kernel_rfl,by kernel_rfl,by kernel_rfl,by kernel_rfl,by kernel_rfl,by kernel_rfl,by kernel_rfl,by kernel_rfl⟩
@[go_sem] theorem zzN:hasT Tryz.prog 254=true∧szT Tryz.prog 254=5∧Tryz.prog.bytesOf 254=40∧aggT Tryz.prog 254=true∧zaX Tryz.prog 254=none∧arrT Tryz.prog 254=none∧zbF Tryz.prog 254=some [.int .i64 0,.int .i64 0,.int .i64 0,.int .i64 0,.bool false]∧zbE Tryz.prog 254=true:=⟨by kernel_rfl,by kernel_rfl,by kernel_rfl,by kernel_rfl,by kernel_rfl,by kernel_rfl,by kernel_rfl,by kernel_rfl⟩
@[go_sem] theorem zzO:hasT Tryz.prog 263=true∧szT Tryz.prog 263=20∧Tryz.prog.bytesOf 263=320∧aggT Tryz.prog 263=true∧zaX Tryz.prog 263=none∧arrT Tryz.prog 263=none∧zbF Tryz.prog 263=some [.int .i64 0,.slice none 0 0,.slice none 0 0,.slice none 0 0,.slice none 0 0,.slice none 0 0,.int .i64 0,.bool false,.int .i64 0,.int .i64 0,.int .i64 0,.slice none 0 0,.slice none 0 0,.nilFunc,.slice none 0 0,.slice none 0 0,.slice none 0 0,.int .i64 0,.int .i64 0,.bool false]∧zbE Tryz.prog 263=true:=⟨by kernel_rfl,by kernel_rfl,by kernel_rfl,by kernel_rfl,by kernel_rfl,by kernel_rfl,by kernel_rfl,by kernel_rfl⟩
@[go_sem] theorem zzP:hasT Tryz.prog 264=true∧szT Tryz.prog 264=20∧Tryz.prog.bytesOf 264=320∧aggT Tryz.prog 264=true∧zaX Tryz.prog 264=none∧arrT Tryz.prog 264=none∧zbF Tryz.prog 264=some [.int .i64 0,.slice none 0 0,.slice none 0 0,.slice none 0 0,.slice none 0 0,.slice none 0 0,.int .i64 0,.bool false,.int .i64 0,.int .i64 0,.int .i64 0,.slice none 0 0,.slice none 0 0,.nilFunc,.slice none 0 0,.slice none 0 0,.slice none 0 0,.int .i64 0,.int .i64 0,.bool false]∧zbE Tryz.prog 264=true:=⟨by kernel_rfl,by kernel_rfl,by kernel_rfl,by kernel_rfl,by kernel_rfl,by kernel_rfl,by kernel_rfl,by kernel_rfl⟩
@[go_sem] theorem zzQ:hasT Tryz.prog 265=true∧szT Tryz.prog 265=1∧Tryz.prog.bytesOf 265=8∧aggT Tryz.prog 265=false∧zaX Tryz.prog 265=none∧arrT Tryz.prog 265=none∧zbF Tryz.prog 265=some [.nilFunc]:=⟨by kernel_rfl,by kernel_rfl,by kernel_rfl,by kernel_rfl,by kernel_rfl,by kernel_rfl,by kernel_rfl⟩
@[go_sem] theorem zzR:hasT Tryz.prog 270=true∧szT Tryz.prog 270=1∧Tryz.prog.bytesOf 270=24∧aggT Tryz.prog 270=false∧zaX Tryz.prog 270=some 5∧arrT Tryz.prog 270=none∧zbF Tryz.prog 270=some [.slice none 0 0]:=⟨by kernel_rfl,by kernel_rfl,by kernel_rfl,by kernel_rfl,by kernel_rfl,by kernel_rfl,by kernel_rfl⟩
@[go_sem] theorem zzS:hasT Tryz.prog 272=true∧szT Tryz.prog 272=1∧Tryz.prog.bytesOf 272=8∧aggT Tryz.prog 272=false∧zaX Tryz.prog 272=none∧arrT Tryz.prog 272=none∧zbF Tryz.prog 272=some [.nilFunc]:=⟨by kernel_rfl,by kernel_rfl,by kernel_rfl,by kernel_rfl,by kernel_rfl,by kernel_rfl,by kernel_rfl⟩
@[go_sem] theorem zzT:hasT Tryz.prog 273=true∧szT Tryz.prog 273=1∧Tryz.prog.bytesOf 273=8∧aggT Tryz.prog 273=false∧zaX Tryz.prog 273=none∧arrT Tryz.prog 273=none∧zbF Tryz.prog 273=some [.nilFunc]:=⟨by kernel_rfl,by kernel_rfl,by kernel_rfl,by kernel_rfl,by kernel_rfl,by kernel_rfl,by kernel_rfl⟩
@[go_sem] theorem zzU:hasT Tryz.prog 275=true∧szT Tryz.prog 275=1∧Tryz.prog.bytesOf 275=8∧aggT Tryz.prog 275=false∧zaX Tryz.prog 275=none∧arrT Tryz.prog 275=none∧zbF Tryz.prog 275=some [.nilFunc]:=⟨by kernel_rfl,by kernel_rfl,by kernel_rfl,by kernel_rfl,by kernel_rfl,by kernel_rfl,by kernel_rfl⟩
@[go_sem] theorem zzV:hasT Tryz.prog 276=true∧szT Tryz.prog 276=1∧Tryz.prog.bytesOf 276=8∧aggT Tryz.prog 276=false∧zaX Tryz.prog 276=none∧arrT Tryz.prog 276=none∧zbF Tryz.prog 276=some [.nilFunc]:=⟨by kernel_rfl,by kernel_rfl,by kernel_rfl,by kernel_rfl,by kernel_rfl,by kernel_rfl,by kernel_rfl⟩
@[go_sem] theorem zzW:hasT Tryz.prog 278=true∧szT Tryz.prog 278=2∧Tryz.prog.bytesOf 278=16∧aggT Tryz.prog 278=true∧zaX Tryz.prog 278=none∧arrT Tryz.prog 278=none∧zbF Tryz.prog 278=some [.int .i64 0,.int .i64 0]∧zbE Tryz.prog 278=true:=⟨by kernel_rfl,by kernel_rfl,by kernel_rfl,by kernel_rfl,by kernel_rfl,by kernel_rfl,by kernel_rfl,by kernel_rfl⟩
@[go_sem] theorem zzX:hasT Tryz.prog 279=true∧szT Tryz.prog 279=2∧Tryz.prog.bytesOf 279=16∧aggT Tryz.prog 279=true∧zaX Tryz.prog 279=none∧arrT Tryz.prog 279=none∧zbF Tryz.prog 279=some [.int .i64 0,.int .i64 0]∧zbE Tryz.prog 279=true:=⟨by kernel_rfl,by kernel_rfl,by kernel_rfl,by kernel_rfl,by kernel_rfl,by kernel_rfl,by kernel_rfl,by kernel_rfl⟩
@[go_sem] theorem zzY:hasT Tryz.prog 281=true∧szT Tryz.prog 281=1∧Tryz.prog.bytesOf 281=8∧aggT Tryz.prog 281=false∧zaX Tryz.prog 281=none∧arrT Tryz.prog 281=none∧zbF Tryz.prog 281=some [.nilFunc]:=⟨by kernel_rfl,by kernel_rfl,by kernel_rfl,by kernel_rfl,by kernel_rfl,by kernel_rfl,by kernel_rfl⟩
@[go_sem] theorem zzZ:hasT Tryz.prog 282=true∧szT Tryz.prog 282=8∧Tryz.prog.bytesOf 282=8∧aggT Tryz.prog 282=true∧zaX Tryz.prog 282=none∧arrT Tryz.prog 282=some (8,4)∧zbF Tryz.prog 282=some [.bool false,.bool false,.bool false,.bool false,.bool false,.bool false,.bool false,.bool false]∧zbE Tryz.prog 282=true:=⟨by kernel_rfl,by kernel_rfl,by kernel_rfl,by kernel_rfl,by kernel_rfl,by kernel_rfl,by kernel_rfl,by kernel_rfl⟩
@[go_sem] theorem zz0:hasT Tryz.prog 283=true∧szT Tryz.prog 283=1∧Tryz.prog.bytesOf 283=8∧aggT Tryz.prog 283=false∧zaX Tryz.prog 283=none∧arrT Tryz.prog 283=none∧zbF Tryz.prog 283=some [.pointer none]:=⟨by kernel_rfl,by kernel_rfl,by kernel_rfl,by kernel_rfl,by kernel_rfl,by kernel_rfl,by kernel_rfl⟩
@[go_sem] theorem zz1:hasT Tryz.prog 285=true∧szT Tryz.prog 285=1∧Tryz.prog.bytesOf 285=8∧aggT Tryz.prog 285=false∧zaX Tryz.prog 285=none∧arrT Tryz.prog 285=none∧zbF Tryz.prog 285=some [.nilFunc]:=⟨by kernel_rfl,by kernel_rfl,by kernel_rfl,by kernel_rfl,by kernel_rfl,by kernel_rfl,by kernel_rfl⟩
@[go_sem] theorem zz2:hasT Tryz.prog 293=true∧szT Tryz.prog 293=3∧Tryz.prog.bytesOf 293=24∧aggT Tryz.prog 293=true∧zaX Tryz.prog 293=none∧arrT Tryz.prog 293=none∧zbF Tryz.prog 293=some [.int .i64 0,.int .i64 0,.int .i64 0]∧zbE Tryz.prog 293=true:=⟨by kernel_rfl,by kernel_rfl,by kernel_rfl,by kernel_rfl,by kernel_rfl,by kernel_rfl,by kernel_rfl,by kernel_rfl⟩
@[go_sem] theorem zz3:hasT Tryz.prog 294=true∧szT Tryz.prog 294=3∧Tryz.prog.bytesOf 294=24∧aggT Tryz.prog 294=true∧zaX Tryz.prog 294=none∧arrT Tryz.prog 294=none∧zbF Tryz.prog 294=some [.int .i64 0,.int .i64 0,.int .i64 0]∧zbE Tryz.prog 294=true:=⟨by kernel_rfl,by kernel_rfl,by kernel_rfl,by kernel_rfl,by kernel_rfl,by kernel_rfl,by kernel_rfl,by kernel_rfl⟩
@[go_sem] theorem zz4:hasT Tryz.prog 296=true∧szT Tryz.prog 296=3∧Tryz.prog.bytesOf 296=24∧aggT Tryz.prog 296=true∧zaX Tryz.prog 296=none∧arrT Tryz.prog 296=none∧zbF Tryz.prog 296=some [.int .i64 0,.int .i64 0,.int .i64 0]∧zbE Tryz.prog 296=true:=⟨by kernel_rfl,by kernel_rfl,by kernel_rfl,by kernel_rfl,by kernel_rfl,by kernel_rfl,by kernel_rfl,by kernel_rfl⟩
@[go_sem] theorem zz5:hasT Tryz.prog 300=true∧szT Tryz.prog 300=1∧Tryz.prog.bytesOf 300=8∧aggT Tryz.prog 300=false∧zaX Tryz.prog 300=none∧arrT Tryz.prog 300=none∧zbF Tryz.prog 300=some [.nilFunc]:=⟨by kernel_rfl,by kernel_rfl,by kernel_rfl,by kernel_rfl,by kernel_rfl,by kernel_rfl,by kernel_rfl⟩
@[go_sem] theorem zz6:hasT Tryz.prog 303=true∧szT Tryz.prog 303=1∧Tryz.prog.bytesOf 303=8∧aggT Tryz.prog 303=false∧zaX Tryz.prog 303=none∧arrT Tryz.prog 303=none∧zbF Tryz.prog 303=some [.int .u64 0]∧intT Tryz.prog 303=some .u64:=⟨by kernel_rfl,by kernel_rfl,by kernel_rfl,by kernel_rfl,by kernel_rfl,by kernel_rfl,by kernel_rfl,by kernel_rfl⟩
attribute [go_sem] Tryz.underlying303
@[go_sem] theorem zz7:hasT Tryz.prog 304=true∧szT Tryz.prog 304=1∧Tryz.prog.bytesOf 304=8∧aggT Tryz.prog 304=false∧zaX Tryz.prog 304=none∧arrT Tryz.prog 304=none∧zbF Tryz.prog 304=some [.nilFunc]:=⟨by kernel_rfl,by kernel_rfl,by kernel_rfl,by kernel_rfl,by kernel_rfl,by kernel_rfl,by kernel_rfl⟩
@[go_sem] theorem zz8:hasT Tryz.prog 309=true∧szT Tryz.prog 309=1∧Tryz.prog.bytesOf 309=8∧aggT Tryz.prog 309=false∧zaX Tryz.prog 309=none∧arrT Tryz.prog 309=none∧zbF Tryz.prog 309=some [.nilFunc]:=⟨by kernel_rfl,by kernel_rfl,by kernel_rfl,by kernel_rfl,by kernel_rfl,by kernel_rfl,by kernel_rfl⟩
@[go_sem] theorem zz9:hasT Tryz.prog 310=true∧szT Tryz.prog 310=1∧Tryz.prog.bytesOf 310=8∧aggT Tryz.prog 310=false∧zaX Tryz.prog 310=none∧arrT Tryz.prog 310=none∧zbF Tryz.prog 310=some [.nilFunc]:=⟨by kernel_rfl,by kernel_rfl,by kernel_rfl,by kernel_rfl,by kernel_rfl,by kernel_rfl,by kernel_rfl⟩
@[go_sem] theorem zAa:hasT Tryz.prog 312=true∧szT Tryz.prog 312=1∧Tryz.prog.bytesOf 312=8∧aggT Tryz.prog 312=false∧zaX Tryz.prog 312=none∧arrT Tryz.prog 312=none∧zbF Tryz.prog 312=some [.nilFunc]:=⟨by kernel_rfl,by kernel_rfl,by kernel_rfl,by kernel_rfl,by kernel_rfl,by kernel_rfl,by kernel_rfl⟩
@[go_sem] theorem zAb:hasT Tryz.prog 314=true∧szT Tryz.prog 314=1∧Tryz.prog.bytesOf 314=8∧aggT Tryz.prog 314=false∧zaX Tryz.prog 314=none∧arrT Tryz.prog 314=none∧zbF Tryz.prog 314=some [.nilFunc]:=⟨by kernel_rfl,by kernel_rfl,by kernel_rfl,by kernel_rfl,by kernel_rfl,by kernel_rfl,by kernel_rfl⟩
@[go_sem] theorem zAc:hasT Tryz.prog 316=true∧szT Tryz.prog 316=1∧Tryz.prog.bytesOf 316=8∧aggT Tryz.prog 316=false∧zaX Tryz.prog 316=none∧arrT Tryz.prog 316=none∧zbF Tryz.prog 316=some [.nilFunc]:=⟨by kernel_rfl,by kernel_rfl,by kernel_rfl,by kernel_rfl,by kernel_rfl,by kernel_rfl,by kernel_rfl⟩
@[go_sem] theorem zAd:hasT Tryz.prog 317=true∧szT Tryz.prog 317=1∧Tryz.prog.bytesOf 317=24∧aggT Tryz.prog 317=false∧zaX Tryz.prog 317=some 322∧arrT Tryz.prog 317=none∧zbF Tryz.prog 317=some [.slice none 0 0]:=⟨by kernel_rfl,by kernel_rfl,by kernel_rfl,by kernel_rfl,by kernel_rfl,by kernel_rfl,by kernel_rfl⟩
@[go_sem] theorem zAe:hasT Tryz.prog 320=true∧szT Tryz.prog 320=1∧Tryz.prog.bytesOf 320=8∧aggT Tryz.prog 320=false∧zaX Tryz.prog 320=none∧arrT Tryz.prog 320=none∧zbF Tryz.prog 320=some [.nilFunc]:=⟨by kernel_rfl,by kernel_rfl,by kernel_rfl,by kernel_rfl,by kernel_rfl,by kernel_rfl,by kernel_rfl⟩
@[go_sem] theorem zAf:hasT Tryz.prog 321=true∧szT Tryz.prog 321=4∧Tryz.prog.bytesOf 321=32∧aggT Tryz.prog 321=true∧zaX Tryz.prog 321=none∧arrT Tryz.prog 321=none∧zbF Tryz.prog 321=some [.int .i64 0,.int .i64 0,.int .i64 0,.int .i64 0]∧zbE Tryz.prog 321=true:=⟨by kernel_rfl,by kernel_rfl,by kernel_rfl,by kernel_rfl,by kernel_rfl,by kernel_rfl,by kernel_rfl,by kernel_rfl⟩
@[go_sem] theorem zAg:hasT Tryz.prog 322=true∧szT Tryz.prog 322=4∧Tryz.prog.bytesOf 322=32∧aggT Tryz.prog 322=true∧zaX Tryz.prog 322=none∧arrT Tryz.prog 322=none∧zbF Tryz.prog 322=some [.int .i64 0,.int .i64 0,.int .i64 0,.int .i64 0]∧zbE Tryz.prog 322=true:=⟨by kernel_rfl,by kernel_rfl,by kernel_rfl,by kernel_rfl,by kernel_rfl,by kernel_rfl,by kernel_rfl,by kernel_rfl⟩
@[go_sem] theorem zAh:hasT Tryz.prog 335=true∧szT Tryz.prog 335=1∧Tryz.prog.bytesOf 335=8∧aggT Tryz.prog 335=false∧zaX Tryz.prog 335=none∧arrT Tryz.prog 335=none∧zbF Tryz.prog 335=some [.nilFunc]:=⟨by kernel_rfl,by kernel_rfl,by kernel_rfl,by kernel_rfl,by kernel_rfl,by kernel_rfl,by kernel_rfl⟩
@[go_sem] theorem zAi:hasT Tryz.prog 352=true∧szT Tryz.prog 352=1∧Tryz.prog.bytesOf 352=8∧aggT Tryz.prog 352=false∧zaX Tryz.prog 352=none∧arrT Tryz.prog 352=none∧zbF Tryz.prog 352=some [.nilFunc]:=⟨by kernel_rfl,by kernel_rfl,by kernel_rfl,by kernel_rfl,by kernel_rfl,by kernel_rfl,by kernel_rfl⟩
@[go_sem] theorem znB:zaW Tryz.prog 13 0=some (0,9):=by kernel_rfl
@[go_sem] theorem znC:zbD Tryz.prog 13 0=some (0,1):=by kernel_rfl
@[go_sem] theorem znD:zaW Tryz.prog 13 1=some (1,12):=by kernel_rfl
@[go_sem] theorem znE:zbD Tryz.prog 13 1=some (1,1):=by kernel_rfl
attribute [go_sem] Tryz.underlying13 Tryz.stoodInHeld13 Tryz.eqGuardType13
@[go_sem] theorem zAj:zaW Tryz.prog 23 0=some (0,3):=by kernel_rfl
@[go_sem] theorem zAk:zbD Tryz.prog 23 0=some (0,1):=by kernel_rfl
@[go_sem] theorem zAl:zaW Tryz.prog 23 1=some (1,22):=by kernel_rfl
@[go_sem] theorem zAm:zbD Tryz.prog 23 1=some (1,1):=by kernel_rfl
attribute [go_sem] Tryz.underlying23 Tryz.stoodInHeld23 Tryz.eqGuardType23
@[go_sem] theorem zAn:zaW Tryz.prog 24 0=some (0,3):=by kernel_rfl
@[go_sem] theorem zAo:zbD Tryz.prog 24 0=some (0,1):=by kernel_rfl
@[go_sem] theorem zAp:zaW Tryz.prog 24 1=some (1,22):=by kernel_rfl
@[go_sem] theorem zAq:zbD Tryz.prog 24 1=some (1,1):=by kernel_rfl
attribute [go_sem] Tryz.underlying24 Tryz.stoodInHeld24 Tryz.eqGuardType24
@[go_sem] theorem zAr:zaW Tryz.prog 26 0=some (0,24):=by kernel_rfl
@[go_sem] theorem zAs:zbD Tryz.prog 26 0=some (0,2):=by kernel_rfl
@[go_sem] theorem zAt:zaW Tryz.prog 26 1=some (2,25):=by kernel_rfl
@[go_sem] theorem zAu:zbD Tryz.prog 26 1=some (2,1):=by kernel_rfl
attribute [go_sem] Tryz.underlying26 Tryz.stoodInHeld26 Tryz.eqGuardType26
@[go_sem] theorem zAv:zaW Tryz.prog 27 0=some (0,24):=by kernel_rfl
@[go_sem] theorem zAw:zbD Tryz.prog 27 0=some (0,2):=by kernel_rfl
@[go_sem] theorem zAx:zaW Tryz.prog 27 1=some (2,25):=by kernel_rfl
@[go_sem] theorem zAy:zbD Tryz.prog 27 1=some (2,1):=by kernel_rfl
attribute [go_sem] Tryz.underlying27 Tryz.stoodInHeld27 Tryz.eqGuardType27
@[go_sem] theorem zAz:zaW Tryz.prog 30 0=some (0,28):=by kernel_rfl
@[go_sem] theorem zAA:zbD Tryz.prog 30 0=some (0,1):=by kernel_rfl
@[go_sem] theorem zAB:zaW Tryz.prog 30 1=some (1,29):=by kernel_rfl
@[go_sem] theorem zAC:zbD Tryz.prog 30 1=some (1,1):=by kernel_rfl
attribute [go_sem] Tryz.underlying30 Tryz.stoodInHeld30 Tryz.eqGuardType30
@[go_sem] theorem zAD:zaW Tryz.prog 31 0=some (0,28):=by kernel_rfl
@[go_sem] theorem zAE:zbD Tryz.prog 31 0=some (0,1):=by kernel_rfl
@[go_sem] theorem zAF:zaW Tryz.prog 31 1=some (1,29):=by kernel_rfl
@[go_sem] theorem zAG:zbD Tryz.prog 31 1=some (1,1):=by kernel_rfl
attribute [go_sem] Tryz.underlying31 Tryz.stoodInHeld31 Tryz.eqGuardType31
@[go_sem] theorem zAH:zaW Tryz.prog 33 0=some (0,3):=by kernel_rfl
@[go_sem] theorem zAI:zbD Tryz.prog 33 0=some (0,1):=by kernel_rfl
@[go_sem] theorem zAJ:zaW Tryz.prog 33 1=some (1,4):=by kernel_rfl
@[go_sem] theorem zAK:zbD Tryz.prog 33 1=some (1,1):=by kernel_rfl
attribute [go_sem] Tryz.underlying33 Tryz.stoodInHeld33 Tryz.eqGuardType33
@[go_sem] theorem zAL:zaW Tryz.prog 34 0=some (0,3):=by kernel_rfl
@[go_sem] theorem zAM:zbD Tryz.prog 34 0=some (0,1):=by kernel_rfl
@[go_sem] theorem zAN:zaW Tryz.prog 34 1=some (1,4):=by kernel_rfl
@[go_sem] theorem zAO:zbD Tryz.prog 34 1=some (1,1):=by kernel_rfl
attribute [go_sem] Tryz.underlying34 Tryz.stoodInHeld34 Tryz.eqGuardType34
@[go_sem] theorem znN:zaW Tryz.prog 36 0=some (0,3):=by kernel_rfl
@[go_sem] theorem znO:zbD Tryz.prog 36 0=some (0,1):=by kernel_rfl
@[go_sem] theorem znP:zaW Tryz.prog 36 1=some (1,3):=by kernel_rfl
@[go_sem] theorem znQ:zbD Tryz.prog 36 1=some (1,1):=by kernel_rfl
@[go_sem] theorem znR:zaW Tryz.prog 36 2=some (2,3):=by kernel_rfl
@[go_sem] theorem znS:zbD Tryz.prog 36 2=some (2,1):=by kernel_rfl
@[go_sem] theorem znT:zaW Tryz.prog 36 3=some (3,35):=by kernel_rfl
@[go_sem] theorem znU:zbD Tryz.prog 36 3=some (3,1):=by kernel_rfl
attribute [go_sem] Tryz.underlying36 Tryz.stoodInHeld36 Tryz.eqGuardType36
@[go_sem] theorem zAP:zaW Tryz.prog 37 0=some (0,3):=by kernel_rfl
@[go_sem] theorem zAQ:zbD Tryz.prog 37 0=some (0,1):=by kernel_rfl
@[go_sem] theorem zAR:zaW Tryz.prog 37 1=some (1,3):=by kernel_rfl
@[go_sem] theorem zAS:zbD Tryz.prog 37 1=some (1,1):=by kernel_rfl
@[go_sem] theorem zAT:zaW Tryz.prog 37 2=some (2,3):=by kernel_rfl
@[go_sem] theorem zAU:zbD Tryz.prog 37 2=some (2,1):=by kernel_rfl
@[go_sem] theorem zAV:zaW Tryz.prog 37 3=some (3,35):=by kernel_rfl
@[go_sem] theorem zAW:zbD Tryz.prog 37 3=some (3,1):=by kernel_rfl
attribute [go_sem] Tryz.underlying37 Tryz.stoodInHeld37 Tryz.eqGuardType37
@[go_sem] theorem zAX:zaW Tryz.prog 38 0=some (0,27):=by kernel_rfl
@[go_sem] theorem zAY:zbD Tryz.prog 38 0=some (0,3):=by kernel_rfl
@[go_sem] theorem zAZ:zaW Tryz.prog 38 1=some (3,31):=by kernel_rfl
@[go_sem] theorem zA0:zbD Tryz.prog 38 1=some (3,2):=by kernel_rfl
@[go_sem] theorem zA1:zaW Tryz.prog 38 2=some (5,32):=by kernel_rfl
@[go_sem] theorem zA2:zbD Tryz.prog 38 2=some (5,1):=by kernel_rfl
@[go_sem] theorem zA3:zaW Tryz.prog 38 3=some (6,34):=by kernel_rfl
@[go_sem] theorem zA4:zbD Tryz.prog 38 3=some (6,2):=by kernel_rfl
@[go_sem] theorem zA5:zaW Tryz.prog 38 4=some (8,37):=by kernel_rfl
@[go_sem] theorem zA6:zbD Tryz.prog 38 4=some (8,4):=by kernel_rfl
attribute [go_sem] Tryz.underlying38 Tryz.stoodInHeld38 Tryz.eqGuardType38
@[go_sem] theorem znV:zaW Tryz.prog 39 0=some (0,27):=by kernel_rfl
@[go_sem] theorem znW:zbD Tryz.prog 39 0=some (0,3):=by kernel_rfl
@[go_sem] theorem znX:zaW Tryz.prog 39 1=some (3,31):=by kernel_rfl
@[go_sem] theorem znY:zbD Tryz.prog 39 1=some (3,2):=by kernel_rfl
@[go_sem] theorem zA7:zaW Tryz.prog 39 2=some (5,32):=by kernel_rfl
@[go_sem] theorem zA8:zbD Tryz.prog 39 2=some (5,1):=by kernel_rfl
@[go_sem] theorem zA9:zaW Tryz.prog 39 3=some (6,34):=by kernel_rfl
@[go_sem] theorem zBa:zbD Tryz.prog 39 3=some (6,2):=by kernel_rfl
@[go_sem] theorem zBb:zaW Tryz.prog 39 4=some (8,37):=by kernel_rfl
@[go_sem] theorem zBc:zbD Tryz.prog 39 4=some (8,4):=by kernel_rfl
attribute [go_sem] Tryz.underlying39 Tryz.stoodInHeld39 Tryz.eqGuardType39
@[go_sem] theorem zBd:zaW Tryz.prog 44 0=some (0,3):=by kernel_rfl
@[go_sem] theorem zBe:zbD Tryz.prog 44 0=some (0,1):=by kernel_rfl
@[go_sem] theorem zBf:zaW Tryz.prog 44 1=some (1,43):=by kernel_rfl
@[go_sem] theorem zBg:zbD Tryz.prog 44 1=some (1,1):=by kernel_rfl
attribute [go_sem] Tryz.underlying44 Tryz.stoodInHeld44 Tryz.eqGuardType44
@[go_sem] theorem zBh:zaW Tryz.prog 45 0=some (0,3):=by kernel_rfl
@[go_sem] theorem zBi:zbD Tryz.prog 45 0=some (0,1):=by kernel_rfl
@[go_sem] theorem zBj:zaW Tryz.prog 45 1=some (1,43):=by kernel_rfl
@[go_sem] theorem zBk:zbD Tryz.prog 45 1=some (1,1):=by kernel_rfl
attribute [go_sem] Tryz.underlying45 Tryz.stoodInHeld45 Tryz.eqGuardType45
@[go_sem] theorem zBl:zaW Tryz.prog 49 0=some (0,3):=by kernel_rfl
@[go_sem] theorem zBm:zbD Tryz.prog 49 0=some (0,1):=by kernel_rfl
@[go_sem] theorem zBn:zaW Tryz.prog 49 1=some (1,48):=by kernel_rfl
@[go_sem] theorem zBo:zbD Tryz.prog 49 1=some (1,1):=by kernel_rfl
attribute [go_sem] Tryz.underlying49 Tryz.stoodInHeld49 Tryz.eqGuardType49
@[go_sem] theorem zBp:zaW Tryz.prog 50 0=some (0,3):=by kernel_rfl
@[go_sem] theorem zBq:zbD Tryz.prog 50 0=some (0,1):=by kernel_rfl
@[go_sem] theorem zBr:zaW Tryz.prog 50 1=some (1,48):=by kernel_rfl
@[go_sem] theorem zBs:zbD Tryz.prog 50 1=some (1,1):=by kernel_rfl
attribute [go_sem] Tryz.underlying50 Tryz.stoodInHeld50 Tryz.eqGuardType50
@[go_sem] theorem zob:zaW Tryz.prog 52 0=some (0,50):=by kernel_rfl
@[go_sem] theorem zoc:zbD Tryz.prog 52 0=some (0,2):=by kernel_rfl
@[go_sem] theorem zod:zaW Tryz.prog 52 1=some (2,51):=by kernel_rfl
@[go_sem] theorem zoe:zbD Tryz.prog 52 1=some (2,1):=by kernel_rfl
attribute [go_sem] Tryz.underlying52 Tryz.stoodInHeld52 Tryz.eqGuardType52
@[go_sem] theorem zof:zaW Tryz.prog 53 0=some (0,50):=by kernel_rfl
@[go_sem] theorem zog:zbD Tryz.prog 53 0=some (0,2):=by kernel_rfl
@[go_sem] theorem zoh:zaW Tryz.prog 53 1=some (2,51):=by kernel_rfl
@[go_sem] theorem zoi:zbD Tryz.prog 53 1=some (2,1):=by kernel_rfl
attribute [go_sem] Tryz.underlying53 Tryz.stoodInHeld53 Tryz.eqGuardType53
@[go_sem] theorem zBt:zaW Tryz.prog 56 0=some (0,54):=by kernel_rfl
@[go_sem] theorem zBu:zbD Tryz.prog 56 0=some (0,1):=by kernel_rfl
@[go_sem] theorem zBv:zaW Tryz.prog 56 1=some (1,55):=by kernel_rfl
@[go_sem] theorem zBw:zbD Tryz.prog 56 1=some (1,1):=by kernel_rfl
attribute [go_sem] Tryz.underlying56 Tryz.stoodInHeld56 Tryz.eqGuardType56
@[go_sem] theorem zBx:zaW Tryz.prog 57 0=some (0,54):=by kernel_rfl
@[go_sem] theorem zBy:zbD Tryz.prog 57 0=some (0,1):=by kernel_rfl
@[go_sem] theorem zBz:zaW Tryz.prog 57 1=some (1,55):=by kernel_rfl
@[go_sem] theorem zBA:zbD Tryz.prog 57 1=some (1,1):=by kernel_rfl
attribute [go_sem] Tryz.underlying57 Tryz.stoodInHeld57 Tryz.eqGuardType57
@[go_sem] theorem zBB:zaW Tryz.prog 59 0=some (0,3):=by kernel_rfl
@[go_sem] theorem zBC:zbD Tryz.prog 59 0=some (0,1):=by kernel_rfl
@[go_sem] theorem zBD:zaW Tryz.prog 59 1=some (1,4):=by kernel_rfl
@[go_sem] theorem zBE:zbD Tryz.prog 59 1=some (1,1):=by kernel_rfl
attribute [go_sem] Tryz.underlying59 Tryz.stoodInHeld59 Tryz.eqGuardType59
@[go_sem] theorem zBF:zaW Tryz.prog 60 0=some (0,3):=by kernel_rfl
@[go_sem] theorem zBG:zbD Tryz.prog 60 0=some (0,1):=by kernel_rfl
@[go_sem] theorem zBH:zaW Tryz.prog 60 1=some (1,3):=by kernel_rfl
@[go_sem] theorem zBI:zbD Tryz.prog 60 1=some (1,1):=by kernel_rfl
@[go_sem] theorem zBJ:zaW Tryz.prog 60 2=some (2,3):=by kernel_rfl
@[go_sem] theorem zBK:zbD Tryz.prog 60 2=some (2,1):=by kernel_rfl
@[go_sem] theorem zBL:zaW Tryz.prog 60 3=some (3,35):=by kernel_rfl
@[go_sem] theorem zBM:zbD Tryz.prog 60 3=some (3,1):=by kernel_rfl
attribute [go_sem] Tryz.underlying60 Tryz.stoodInHeld60 Tryz.eqGuardType60
@[go_sem] theorem zBN:zaW Tryz.prog 61 0=some (0,53):=by kernel_rfl
@[go_sem] theorem zBO:zbD Tryz.prog 61 0=some (0,3):=by kernel_rfl
@[go_sem] theorem zBP:zaW Tryz.prog 61 1=some (3,57):=by kernel_rfl
@[go_sem] theorem zBQ:zbD Tryz.prog 61 1=some (3,2):=by kernel_rfl
@[go_sem] theorem zBR:zaW Tryz.prog 61 2=some (5,58):=by kernel_rfl
@[go_sem] theorem zBS:zbD Tryz.prog 61 2=some (5,1):=by kernel_rfl
@[go_sem] theorem zBT:zaW Tryz.prog 61 3=some (6,59):=by kernel_rfl
@[go_sem] theorem zBU:zbD Tryz.prog 61 3=some (6,2):=by kernel_rfl
@[go_sem] theorem zBV:zaW Tryz.prog 61 4=some (8,60):=by kernel_rfl
@[go_sem] theorem zBW:zbD Tryz.prog 61 4=some (8,4):=by kernel_rfl
attribute [go_sem] Tryz.underlying61 Tryz.stoodInHeld61 Tryz.eqGuardType61
@[go_sem] theorem zBX:zaW Tryz.prog 62 0=some (0,53):=by kernel_rfl
@[go_sem] theorem zBY:zbD Tryz.prog 62 0=some (0,3):=by kernel_rfl
@[go_sem] theorem zBZ:zaW Tryz.prog 62 1=some (3,57):=by kernel_rfl
@[go_sem] theorem zB0:zbD Tryz.prog 62 1=some (3,2):=by kernel_rfl
@[go_sem] theorem zB1:zaW Tryz.prog 62 2=some (5,58):=by kernel_rfl
@[go_sem] theorem zB2:zbD Tryz.prog 62 2=some (5,1):=by kernel_rfl
@[go_sem] theorem zB3:zaW Tryz.prog 62 3=some (6,59):=by kernel_rfl
@[go_sem] theorem zB4:zbD Tryz.prog 62 3=some (6,2):=by kernel_rfl
@[go_sem] theorem zB5:zaW Tryz.prog 62 4=some (8,60):=by kernel_rfl
@[go_sem] theorem zB6:zbD Tryz.prog 62 4=some (8,4):=by kernel_rfl
attribute [go_sem] Tryz.underlying62 Tryz.stoodInHeld62 Tryz.eqGuardType62
@[go_sem] theorem zB7:zaW Tryz.prog 76 0=some (0,3):=by kernel_rfl
@[go_sem] theorem zB8:zbD Tryz.prog 76 0=some (0,1):=by kernel_rfl
@[go_sem] theorem zB9:zaW Tryz.prog 76 1=some (1,3):=by kernel_rfl
@[go_sem] theorem zCa:zbD Tryz.prog 76 1=some (1,1):=by kernel_rfl
@[go_sem] theorem zCb:zaW Tryz.prog 76 2=some (2,3):=by kernel_rfl
@[go_sem] theorem zCc:zbD Tryz.prog 76 2=some (2,1):=by kernel_rfl
@[go_sem] theorem zCd:zaW Tryz.prog 76 3=some (3,3):=by kernel_rfl
@[go_sem] theorem zCe:zbD Tryz.prog 76 3=some (3,1):=by kernel_rfl
@[go_sem] theorem zCf:zaW Tryz.prog 76 4=some (4,3):=by kernel_rfl
@[go_sem] theorem zCg:zbD Tryz.prog 76 4=some (4,1):=by kernel_rfl
attribute [go_sem] Tryz.underlying76 Tryz.stoodInHeld76 Tryz.eqGuardType76
@[go_sem] theorem zCh:zaW Tryz.prog 77 0=some (0,3):=by kernel_rfl
@[go_sem] theorem zCi:zbD Tryz.prog 77 0=some (0,1):=by kernel_rfl
@[go_sem] theorem zCj:zaW Tryz.prog 77 1=some (1,3):=by kernel_rfl
@[go_sem] theorem zCk:zbD Tryz.prog 77 1=some (1,1):=by kernel_rfl
@[go_sem] theorem zCl:zaW Tryz.prog 77 2=some (2,3):=by kernel_rfl
@[go_sem] theorem zCm:zbD Tryz.prog 77 2=some (2,1):=by kernel_rfl
@[go_sem] theorem zCn:zaW Tryz.prog 77 3=some (3,3):=by kernel_rfl
@[go_sem] theorem zCo:zbD Tryz.prog 77 3=some (3,1):=by kernel_rfl
@[go_sem] theorem zCp:zaW Tryz.prog 77 4=some (4,3):=by kernel_rfl
@[go_sem] theorem zCq:zbD Tryz.prog 77 4=some (4,1):=by kernel_rfl
attribute [go_sem] Tryz.underlying77 Tryz.stoodInHeld77 Tryz.eqGuardType77
@[go_sem] theorem zor:zaW Tryz.prog 79 0=some (0,3):=by kernel_rfl
@[go_sem] theorem zos:zbD Tryz.prog 79 0=some (0,1):=by kernel_rfl
@[go_sem] theorem zot:zaW Tryz.prog 79 1=some (1,3):=by kernel_rfl
@[go_sem] theorem zou:zbD Tryz.prog 79 1=some (1,1):=by kernel_rfl
@[go_sem] theorem zov:zaW Tryz.prog 79 2=some (2,3):=by kernel_rfl
@[go_sem] theorem zow:zbD Tryz.prog 79 2=some (2,1):=by kernel_rfl
@[go_sem] theorem zox:zaW Tryz.prog 79 3=some (3,3):=by kernel_rfl
@[go_sem] theorem zoy:zbD Tryz.prog 79 3=some (3,1):=by kernel_rfl
@[go_sem] theorem zCr:zaW Tryz.prog 79 4=some (4,3):=by kernel_rfl
@[go_sem] theorem zCs:zbD Tryz.prog 79 4=some (4,1):=by kernel_rfl
attribute [go_sem] Tryz.underlying79 Tryz.stoodInHeld79 Tryz.eqGuardType79
@[go_sem] theorem zCt:zaW Tryz.prog 83 0=some (0,3):=by kernel_rfl
@[go_sem] theorem zCu:zbD Tryz.prog 83 0=some (0,1):=by kernel_rfl
@[go_sem] theorem zCv:zaW Tryz.prog 83 1=some (1,3):=by kernel_rfl
@[go_sem] theorem zCw:zbD Tryz.prog 83 1=some (1,1):=by kernel_rfl
@[go_sem] theorem zCx:zaW Tryz.prog 83 2=some (2,3):=by kernel_rfl
@[go_sem] theorem zCy:zbD Tryz.prog 83 2=some (2,1):=by kernel_rfl
@[go_sem] theorem zCz:zaW Tryz.prog 83 3=some (3,82):=by kernel_rfl
@[go_sem] theorem zCA:zbD Tryz.prog 83 3=some (3,1):=by kernel_rfl
attribute [go_sem] Tryz.underlying83 Tryz.stoodInHeld83 Tryz.eqGuardType83
@[go_sem] theorem zCB:zaW Tryz.prog 84 0=some (0,3):=by kernel_rfl
@[go_sem] theorem zCC:zbD Tryz.prog 84 0=some (0,1):=by kernel_rfl
@[go_sem] theorem zCD:zaW Tryz.prog 84 1=some (1,3):=by kernel_rfl
@[go_sem] theorem zCE:zbD Tryz.prog 84 1=some (1,1):=by kernel_rfl
@[go_sem] theorem zCF:zaW Tryz.prog 84 2=some (2,3):=by kernel_rfl
@[go_sem] theorem zCG:zbD Tryz.prog 84 2=some (2,1):=by kernel_rfl
@[go_sem] theorem zCH:zaW Tryz.prog 84 3=some (3,82):=by kernel_rfl
@[go_sem] theorem zCI:zbD Tryz.prog 84 3=some (3,1):=by kernel_rfl
attribute [go_sem] Tryz.underlying84 Tryz.stoodInHeld84 Tryz.eqGuardType84
@[go_sem] theorem zoP:zaW Tryz.prog 88 0=some (0,3):=by kernel_rfl
@[go_sem] theorem zoQ:zbD Tryz.prog 88 0=some (0,1):=by kernel_rfl
@[go_sem] theorem zoR:zaW Tryz.prog 88 1=some (1,3):=by kernel_rfl
@[go_sem] theorem zoS:zbD Tryz.prog 88 1=some (1,1):=by kernel_rfl
@[go_sem] theorem zoT:zaW Tryz.prog 88 2=some (2,3):=by kernel_rfl
@[go_sem] theorem zoU:zbD Tryz.prog 88 2=some (2,1):=by kernel_rfl
@[go_sem] theorem zoV:zaW Tryz.prog 88 3=some (3,87):=by kernel_rfl
@[go_sem] theorem zoW:zbD Tryz.prog 88 3=some (3,1):=by kernel_rfl
attribute [go_sem] Tryz.underlying88 Tryz.stoodInHeld88 Tryz.eqGuardType88
@[go_sem] theorem zCJ:zaW Tryz.prog 89 0=some (0,3):=by kernel_rfl
@[go_sem] theorem zCK:zbD Tryz.prog 89 0=some (0,1):=by kernel_rfl
@[go_sem] theorem zCL:zaW Tryz.prog 89 1=some (1,3):=by kernel_rfl
@[go_sem] theorem zCM:zbD Tryz.prog 89 1=some (1,1):=by kernel_rfl
@[go_sem] theorem zCN:zaW Tryz.prog 89 2=some (2,3):=by kernel_rfl
@[go_sem] theorem zCO:zbD Tryz.prog 89 2=some (2,1):=by kernel_rfl
@[go_sem] theorem zCP:zaW Tryz.prog 89 3=some (3,87):=by kernel_rfl
@[go_sem] theorem zCQ:zbD Tryz.prog 89 3=some (3,1):=by kernel_rfl
attribute [go_sem] Tryz.underlying89 Tryz.stoodInHeld89 Tryz.eqGuardType89
@[go_sem] theorem zCR:zaW Tryz.prog 114 0=some (0,3):=by kernel_rfl
@[go_sem] theorem zCS:zbD Tryz.prog 114 0=some (0,1):=by kernel_rfl
@[go_sem] theorem zCT:zaW Tryz.prog 114 1=some (1,3):=by kernel_rfl
@[go_sem] theorem zCU:zbD Tryz.prog 114 1=some (1,1):=by kernel_rfl
@[go_sem] theorem zCV:zaW Tryz.prog 114 2=some (2,3):=by kernel_rfl
@[go_sem] theorem zCW:zbD Tryz.prog 114 2=some (2,1):=by kernel_rfl
attribute [go_sem] Tryz.underlying114 Tryz.stoodInHeld114 Tryz.eqGuardType114
@[go_sem] theorem zCX:zaW Tryz.prog 115 0=some (0,3):=by kernel_rfl
@[go_sem] theorem zCY:zbD Tryz.prog 115 0=some (0,1):=by kernel_rfl
@[go_sem] theorem zCZ:zaW Tryz.prog 115 1=some (1,3):=by kernel_rfl
@[go_sem] theorem zC0:zbD Tryz.prog 115 1=some (1,1):=by kernel_rfl
@[go_sem] theorem zC1:zaW Tryz.prog 115 2=some (2,3):=by kernel_rfl
@[go_sem] theorem zC2:zbD Tryz.prog 115 2=some (2,1):=by kernel_rfl
attribute [go_sem] Tryz.underlying115 Tryz.stoodInHeld115 Tryz.eqGuardType115
@[go_sem] theorem zC3:zaW Tryz.prog 121 0=some (0,3):=by kernel_rfl
@[go_sem] theorem zC4:zbD Tryz.prog 121 0=some (0,1):=by kernel_rfl
@[go_sem] theorem zC5:zaW Tryz.prog 121 1=some (1,3):=by kernel_rfl
@[go_sem] theorem zC6:zbD Tryz.prog 121 1=some (1,1):=by kernel_rfl
@[go_sem] theorem zC7:zaW Tryz.prog 121 2=some (2,99):=by kernel_rfl
@[go_sem] theorem zC8:zbD Tryz.prog 121 2=some (2,1):=by kernel_rfl
attribute [go_sem] Tryz.underlying121 Tryz.stoodInHeld121 Tryz.eqGuardType121
@[go_sem] theorem zp1:zaW Tryz.prog 122 0=some (0,3):=by kernel_rfl
@[go_sem] theorem zp2:zbD Tryz.prog 122 0=some (0,1):=by kernel_rfl
@[go_sem] theorem zp3:zaW Tryz.prog 122 1=some (1,3):=by kernel_rfl
@[go_sem] theorem zp4:zbD Tryz.prog 122 1=some (1,1):=by kernel_rfl
@[go_sem] theorem zC9:zaW Tryz.prog 122 2=some (2,99):=by kernel_rfl
@[go_sem] theorem zDa:zbD Tryz.prog 122 2=some (2,1):=by kernel_rfl
attribute [go_sem] Tryz.underlying122 Tryz.stoodInHeld122 Tryz.eqGuardType122
@[go_sem] theorem zDb:zaW Tryz.prog 146 0=some (0,3):=by kernel_rfl
@[go_sem] theorem zDc:zbD Tryz.prog 146 0=some (0,1):=by kernel_rfl
@[go_sem] theorem zDd:zaW Tryz.prog 146 1=some (1,3):=by kernel_rfl
@[go_sem] theorem zDe:zbD Tryz.prog 146 1=some (1,1):=by kernel_rfl
@[go_sem] theorem zDf:zaW Tryz.prog 146 2=some (2,4):=by kernel_rfl
@[go_sem] theorem zDg:zbD Tryz.prog 146 2=some (2,1):=by kernel_rfl
@[go_sem] theorem zDh:zaW Tryz.prog 146 3=some (3,3):=by kernel_rfl
@[go_sem] theorem zDi:zbD Tryz.prog 146 3=some (3,1):=by kernel_rfl
@[go_sem] theorem zDj:zaW Tryz.prog 146 4=some (4,3):=by kernel_rfl
@[go_sem] theorem zDk:zbD Tryz.prog 146 4=some (4,1):=by kernel_rfl
attribute [go_sem] Tryz.underlying146 Tryz.stoodInHeld146 Tryz.eqGuardType146
@[go_sem] theorem zDl:zaW Tryz.prog 147 0=some (0,3):=by kernel_rfl
@[go_sem] theorem zDm:zbD Tryz.prog 147 0=some (0,1):=by kernel_rfl
@[go_sem] theorem zDn:zaW Tryz.prog 147 1=some (1,3):=by kernel_rfl
@[go_sem] theorem zDo:zbD Tryz.prog 147 1=some (1,1):=by kernel_rfl
@[go_sem] theorem zDp:zaW Tryz.prog 147 2=some (2,4):=by kernel_rfl
@[go_sem] theorem zDq:zbD Tryz.prog 147 2=some (2,1):=by kernel_rfl
@[go_sem] theorem zDr:zaW Tryz.prog 147 3=some (3,3):=by kernel_rfl
@[go_sem] theorem zDs:zbD Tryz.prog 147 3=some (3,1):=by kernel_rfl
@[go_sem] theorem zDt:zaW Tryz.prog 147 4=some (4,3):=by kernel_rfl
@[go_sem] theorem zDu:zbD Tryz.prog 147 4=some (4,1):=by kernel_rfl
attribute [go_sem] Tryz.underlying147 Tryz.stoodInHeld147 Tryz.eqGuardType147
@[go_sem] theorem zDv:zaW Tryz.prog 155 0=some (0,9):=by kernel_rfl
@[go_sem] theorem zDw:zbD Tryz.prog 155 0=some (0,1):=by kernel_rfl
@[go_sem] theorem zDx:zaW Tryz.prog 155 1=some (1,3):=by kernel_rfl
@[go_sem] theorem zDy:zbD Tryz.prog 155 1=some (1,1):=by kernel_rfl
@[go_sem] theorem zDz:zaW Tryz.prog 155 2=some (2,3):=by kernel_rfl
@[go_sem] theorem zDA:zbD Tryz.prog 155 2=some (2,1):=by kernel_rfl
@[go_sem] theorem zDB:zaW Tryz.prog 155 3=some (3,3):=by kernel_rfl
@[go_sem] theorem zDC:zbD Tryz.prog 155 3=some (3,1):=by kernel_rfl
@[go_sem] theorem zDD:zaW Tryz.prog 155 4=some (4,3):=by kernel_rfl
@[go_sem] theorem zDE:zbD Tryz.prog 155 4=some (4,1):=by kernel_rfl
@[go_sem] theorem zDF:zaW Tryz.prog 155 5=some (5,4):=by kernel_rfl
@[go_sem] theorem zDG:zbD Tryz.prog 155 5=some (5,1):=by kernel_rfl
attribute [go_sem] Tryz.underlying155 Tryz.stoodInHeld155 Tryz.eqGuardType155
@[go_sem] theorem zDH:zaW Tryz.prog 156 0=some (0,9):=by kernel_rfl
@[go_sem] theorem zDI:zbD Tryz.prog 156 0=some (0,1):=by kernel_rfl
@[go_sem] theorem zDJ:zaW Tryz.prog 156 1=some (1,3):=by kernel_rfl
@[go_sem] theorem zDK:zbD Tryz.prog 156 1=some (1,1):=by kernel_rfl
@[go_sem] theorem zDL:zaW Tryz.prog 156 2=some (2,3):=by kernel_rfl
@[go_sem] theorem zDM:zbD Tryz.prog 156 2=some (2,1):=by kernel_rfl
@[go_sem] theorem zDN:zaW Tryz.prog 156 3=some (3,3):=by kernel_rfl
@[go_sem] theorem zDO:zbD Tryz.prog 156 3=some (3,1):=by kernel_rfl
@[go_sem] theorem zDP:zaW Tryz.prog 156 4=some (4,3):=by kernel_rfl
@[go_sem] theorem zDQ:zbD Tryz.prog 156 4=some (4,1):=by kernel_rfl
@[go_sem] theorem zDR:zaW Tryz.prog 156 5=some (5,4):=by kernel_rfl
@[go_sem] theorem zDS:zbD Tryz.prog 156 5=some (5,1):=by kernel_rfl
attribute [go_sem] Tryz.underlying156 Tryz.stoodInHeld156 Tryz.eqGuardType156
@[go_sem] theorem zDT:zaW Tryz.prog 160 0=some (0,158):=by kernel_rfl
@[go_sem] theorem zDU:zbD Tryz.prog 160 0=some (0,1):=by kernel_rfl
@[go_sem] theorem zDV:zaW Tryz.prog 160 1=some (1,35):=by kernel_rfl
@[go_sem] theorem zDW:zbD Tryz.prog 160 1=some (1,1):=by kernel_rfl
@[go_sem] theorem zDX:zaW Tryz.prog 160 2=some (2,159):=by kernel_rfl
@[go_sem] theorem zDY:zbD Tryz.prog 160 2=some (2,1):=by kernel_rfl
attribute [go_sem] Tryz.underlying160 Tryz.stoodInHeld160 Tryz.eqGuardType160
@[go_sem] theorem zDZ:zaW Tryz.prog 161 0=some (0,158):=by kernel_rfl
@[go_sem] theorem zD0:zbD Tryz.prog 161 0=some (0,1):=by kernel_rfl
@[go_sem] theorem zD1:zaW Tryz.prog 161 1=some (1,35):=by kernel_rfl
@[go_sem] theorem zD2:zbD Tryz.prog 161 1=some (1,1):=by kernel_rfl
@[go_sem] theorem zD3:zaW Tryz.prog 161 2=some (2,159):=by kernel_rfl
@[go_sem] theorem zD4:zbD Tryz.prog 161 2=some (2,1):=by kernel_rfl
attribute [go_sem] Tryz.underlying161 Tryz.stoodInHeld161 Tryz.eqGuardType161
@[go_sem] theorem zD5:zaW Tryz.prog 180 0=some (0,9):=by kernel_rfl
@[go_sem] theorem zD6:zbD Tryz.prog 180 0=some (0,1):=by kernel_rfl
@[go_sem] theorem zD7:zaW Tryz.prog 180 1=some (1,3):=by kernel_rfl
@[go_sem] theorem zD8:zbD Tryz.prog 180 1=some (1,1):=by kernel_rfl
@[go_sem] theorem zD9:zaW Tryz.prog 180 2=some (2,3):=by kernel_rfl
@[go_sem] theorem zEa:zbD Tryz.prog 180 2=some (2,1):=by kernel_rfl
@[go_sem] theorem zEb:zaW Tryz.prog 180 3=some (3,3):=by kernel_rfl
@[go_sem] theorem zEc:zbD Tryz.prog 180 3=some (3,1):=by kernel_rfl
@[go_sem] theorem zEd:zaW Tryz.prog 180 4=some (4,3):=by kernel_rfl
@[go_sem] theorem zEe:zbD Tryz.prog 180 4=some (4,1):=by kernel_rfl
@[go_sem] theorem zEf:zaW Tryz.prog 180 5=some (5,4):=by kernel_rfl
@[go_sem] theorem zEg:zbD Tryz.prog 180 5=some (5,1):=by kernel_rfl
attribute [go_sem] Tryz.underlying180 Tryz.stoodInHeld180 Tryz.eqGuardType180
@[go_sem] theorem zEh:zbD Tryz.prog 195 0=some (0,1):=by kernel_rfl
@[go_sem] theorem zEi:zbD Tryz.prog 195 1=some (1,1):=by kernel_rfl
@[go_sem] theorem zEj:zbD Tryz.prog 196 0=some (0,1):=by kernel_rfl
@[go_sem] theorem zEk:zbD Tryz.prog 196 1=some (1,1):=by kernel_rfl
@[go_sem] theorem zEl:zaW Tryz.prog 212 0=some (0,3):=by kernel_rfl
@[go_sem] theorem zEm:zbD Tryz.prog 212 0=some (0,1):=by kernel_rfl
@[go_sem] theorem zEn:zaW Tryz.prog 212 1=some (1,3):=by kernel_rfl
@[go_sem] theorem zEo:zbD Tryz.prog 212 1=some (1,1):=by kernel_rfl
@[go_sem] theorem zEp:zaW Tryz.prog 212 2=some (2,4):=by kernel_rfl
@[go_sem] theorem zEq:zbD Tryz.prog 212 2=some (2,1):=by kernel_rfl
@[go_sem] theorem zEr:zaW Tryz.prog 212 3=some (3,3):=by kernel_rfl
@[go_sem] theorem zEs:zbD Tryz.prog 212 3=some (3,1):=by kernel_rfl
@[go_sem] theorem zEt:zaW Tryz.prog 212 4=some (4,3):=by kernel_rfl
@[go_sem] theorem zEu:zbD Tryz.prog 212 4=some (4,1):=by kernel_rfl
attribute [go_sem] Tryz.underlying212 Tryz.stoodInHeld212 Tryz.eqGuardType212
@[go_sem] theorem zEv:zaW Tryz.prog 220 0=some (0,3):=by kernel_rfl
@[go_sem] theorem zEw:zbD Tryz.prog 220 0=some (0,1):=by kernel_rfl
@[go_sem] theorem zEx:zaW Tryz.prog 220 1=some (1,3):=by kernel_rfl
@[go_sem] theorem zEy:zbD Tryz.prog 220 1=some (1,1):=by kernel_rfl
@[go_sem] theorem zEz:zaW Tryz.prog 220 2=some (2,3):=by kernel_rfl
@[go_sem] theorem zEA:zbD Tryz.prog 220 2=some (2,1):=by kernel_rfl
@[go_sem] theorem zEB:zaW Tryz.prog 220 3=some (3,3):=by kernel_rfl
@[go_sem] theorem zEC:zbD Tryz.prog 220 3=some (3,1):=by kernel_rfl
@[go_sem] theorem zED:zaW Tryz.prog 220 4=some (4,4):=by kernel_rfl
@[go_sem] theorem zEE:zbD Tryz.prog 220 4=some (4,1):=by kernel_rfl
attribute [go_sem] Tryz.underlying220 Tryz.stoodInHeld220 Tryz.eqGuardType220
@[go_sem] theorem zEF:zaW Tryz.prog 221 0=some (0,3):=by kernel_rfl
@[go_sem] theorem zEG:zbD Tryz.prog 221 0=some (0,1):=by kernel_rfl
@[go_sem] theorem zEH:zaW Tryz.prog 221 1=some (1,3):=by kernel_rfl
@[go_sem] theorem zEI:zbD Tryz.prog 221 1=some (1,1):=by kernel_rfl
@[go_sem] theorem zEJ:zaW Tryz.prog 221 2=some (2,3):=by kernel_rfl
@[go_sem] theorem zEK:zbD Tryz.prog 221 2=some (2,1):=by kernel_rfl
@[go_sem] theorem zEL:zaW Tryz.prog 221 3=some (3,3):=by kernel_rfl
@[go_sem] theorem zEM:zbD Tryz.prog 221 3=some (3,1):=by kernel_rfl
@[go_sem] theorem zEN:zaW Tryz.prog 221 4=some (4,4):=by kernel_rfl
@[go_sem] theorem zEO:zbD Tryz.prog 221 4=some (4,1):=by kernel_rfl
attribute [go_sem] Tryz.underlying221 Tryz.stoodInHeld221 Tryz.eqGuardType221
@[go_sem] theorem zEP:zaW Tryz.prog 232 0=some (0,9):=by kernel_rfl
@[go_sem] theorem zEQ:zbD Tryz.prog 232 0=some (0,1):=by kernel_rfl
@[go_sem] theorem zER:zaW Tryz.prog 232 1=some (1,4):=by kernel_rfl
@[go_sem] theorem zES:zbD Tryz.prog 232 1=some (1,1):=by kernel_rfl
attribute [go_sem] Tryz.underlying232 Tryz.stoodInHeld232 Tryz.eqGuardType232
@[go_sem] theorem zET:zaW Tryz.prog 233 0=some (0,9):=by kernel_rfl
@[go_sem] theorem zEU:zbD Tryz.prog 233 0=some (0,1):=by kernel_rfl
@[go_sem] theorem zEV:zaW Tryz.prog 233 1=some (1,4):=by kernel_rfl
@[go_sem] theorem zEW:zbD Tryz.prog 233 1=some (1,1):=by kernel_rfl
attribute [go_sem] Tryz.underlying233 Tryz.stoodInHeld233 Tryz.eqGuardType233
@[go_sem] theorem zEX:zaW Tryz.prog 236 0=some (0,9):=by kernel_rfl
@[go_sem] theorem zEY:zbD Tryz.prog 236 0=some (0,1):=by kernel_rfl
@[go_sem] theorem zEZ:zaW Tryz.prog 236 1=some (1,4):=by kernel_rfl
@[go_sem] theorem zE0:zbD Tryz.prog 236 1=some (1,1):=by kernel_rfl
attribute [go_sem] Tryz.underlying236 Tryz.stoodInHeld236 Tryz.eqGuardType236
@[go_sem] theorem zE1:zaW Tryz.prog 246 0=some (0,62):=by kernel_rfl
@[go_sem] theorem zE2:zbD Tryz.prog 246 0=some (0,12):=by kernel_rfl
@[go_sem] theorem zE3:zaW Tryz.prog 246 1=some (12,172):=by kernel_rfl
@[go_sem] theorem zE4:zbD Tryz.prog 246 1=some (12,1):=by kernel_rfl
@[go_sem] theorem zE5:zaW Tryz.prog 246 2=some (13,244):=by kernel_rfl
@[go_sem] theorem zE6:zbD Tryz.prog 246 2=some (13,1):=by kernel_rfl
@[go_sem] theorem zE7:zaW Tryz.prog 246 3=some (14,35):=by kernel_rfl
@[go_sem] theorem zE8:zbD Tryz.prog 246 3=some (14,1):=by kernel_rfl
@[go_sem] theorem zE9:zaW Tryz.prog 246 4=some (15,35):=by kernel_rfl
@[go_sem] theorem zFa:zbD Tryz.prog 246 4=some (15,1):=by kernel_rfl
@[go_sem] theorem zFb:zaW Tryz.prog 246 5=some (16,3):=by kernel_rfl
@[go_sem] theorem zFc:zbD Tryz.prog 246 5=some (16,1):=by kernel_rfl
@[go_sem] theorem zFd:zaW Tryz.prog 246 6=some (17,4):=by kernel_rfl
@[go_sem] theorem zFe:zbD Tryz.prog 246 6=some (17,1):=by kernel_rfl
attribute [go_sem] Tryz.underlying246 Tryz.stoodInHeld246 Tryz.eqGuardType246
@[go_sem] theorem zFf:zaW Tryz.prog 247 0=some (0,62):=by kernel_rfl
@[go_sem] theorem zFg:zbD Tryz.prog 247 0=some (0,12):=by kernel_rfl
@[go_sem] theorem zFh:zaW Tryz.prog 247 1=some (12,172):=by kernel_rfl
@[go_sem] theorem zFi:zbD Tryz.prog 247 1=some (12,1):=by kernel_rfl
@[go_sem] theorem zFj:zaW Tryz.prog 247 2=some (13,244):=by kernel_rfl
@[go_sem] theorem zFk:zbD Tryz.prog 247 2=some (13,1):=by kernel_rfl
@[go_sem] theorem zFl:zaW Tryz.prog 247 3=some (14,35):=by kernel_rfl
@[go_sem] theorem zFm:zbD Tryz.prog 247 3=some (14,1):=by kernel_rfl
@[go_sem] theorem zFn:zaW Tryz.prog 247 4=some (15,35):=by kernel_rfl
@[go_sem] theorem zFo:zbD Tryz.prog 247 4=some (15,1):=by kernel_rfl
@[go_sem] theorem zFp:zaW Tryz.prog 247 5=some (16,3):=by kernel_rfl
@[go_sem] theorem zFq:zbD Tryz.prog 247 5=some (16,1):=by kernel_rfl
@[go_sem] theorem zFr:zaW Tryz.prog 247 6=some (17,4):=by kernel_rfl
@[go_sem] theorem zFs:zbD Tryz.prog 247 6=some (17,1):=by kernel_rfl
attribute [go_sem] Tryz.underlying247 Tryz.stoodInHeld247 Tryz.eqGuardType247
@[go_sem] theorem zFt:zaW Tryz.prog 251 0=some (0,3):=by kernel_rfl
@[go_sem] theorem zFu:zbD Tryz.prog 251 0=some (0,1):=by kernel_rfl
@[go_sem] theorem zFv:zaW Tryz.prog 251 1=some (1,3):=by kernel_rfl
@[go_sem] theorem zFw:zbD Tryz.prog 251 1=some (1,1):=by kernel_rfl
@[go_sem] theorem zFx:zaW Tryz.prog 251 2=some (2,3):=by kernel_rfl
@[go_sem] theorem zFy:zbD Tryz.prog 251 2=some (2,1):=by kernel_rfl
attribute [go_sem] Tryz.underlying251 Tryz.stoodInHeld251 Tryz.eqGuardType251
@[go_sem] theorem zFz:zaW Tryz.prog 254 0=some (0,3):=by kernel_rfl
@[go_sem] theorem zFA:zbD Tryz.prog 254 0=some (0,1):=by kernel_rfl
@[go_sem] theorem zFB:zaW Tryz.prog 254 1=some (1,3):=by kernel_rfl
@[go_sem] theorem zFC:zbD Tryz.prog 254 1=some (1,1):=by kernel_rfl
@[go_sem] theorem zFD:zaW Tryz.prog 254 2=some (2,3):=by kernel_rfl
@[go_sem] theorem zFE:zbD Tryz.prog 254 2=some (2,1):=by kernel_rfl
@[go_sem] theorem zFF:zaW Tryz.prog 254 3=some (3,3):=by kernel_rfl
@[go_sem] theorem zFG:zbD Tryz.prog 254 3=some (3,1):=by kernel_rfl
@[go_sem] theorem zFH:zaW Tryz.prog 254 4=some (4,4):=by kernel_rfl
@[go_sem] theorem zFI:zbD Tryz.prog 254 4=some (4,1):=by kernel_rfl
attribute [go_sem] Tryz.underlying254 Tryz.stoodInHeld254 Tryz.eqGuardType254
@[go_sem] theorem zFJ:zaW Tryz.prog 263 0=some (0,62):=by kernel_rfl
@[go_sem] theorem zFK:zbD Tryz.prog 263 0=some (0,12):=by kernel_rfl
@[go_sem] theorem zFL:zaW Tryz.prog 263 1=some (12,172):=by kernel_rfl
@[go_sem] theorem zFM:zbD Tryz.prog 263 1=some (12,1):=by kernel_rfl
@[go_sem] theorem zFN:zaW Tryz.prog 263 2=some (13,199):=by kernel_rfl
@[go_sem] theorem zFO:zbD Tryz.prog 263 2=some (13,1):=by kernel_rfl
@[go_sem] theorem zFP:zaW Tryz.prog 263 3=some (14,99):=by kernel_rfl
@[go_sem] theorem zFQ:zbD Tryz.prog 263 3=some (14,1):=by kernel_rfl
@[go_sem] theorem zFR:zaW Tryz.prog 263 4=some (15,35):=by kernel_rfl
@[go_sem] theorem zFS:zbD Tryz.prog 263 4=some (15,1):=by kernel_rfl
@[go_sem] theorem zFT:zaW Tryz.prog 263 5=some (16,35):=by kernel_rfl
@[go_sem] theorem zFU:zbD Tryz.prog 263 5=some (16,1):=by kernel_rfl
@[go_sem] theorem zFV:zaW Tryz.prog 263 6=some (17,196):=by kernel_rfl
@[go_sem] theorem zFW:zbD Tryz.prog 263 6=some (17,2):=by kernel_rfl
@[go_sem] theorem zFX:zaW Tryz.prog 263 7=some (19,4):=by kernel_rfl
@[go_sem] theorem zFY:zbD Tryz.prog 263 7=some (19,1):=by kernel_rfl
attribute [go_sem] Tryz.underlying263 Tryz.stoodInHeld263 Tryz.eqGuardType263
@[go_sem] theorem zFZ:zaW Tryz.prog 264 0=some (0,62):=by kernel_rfl
@[go_sem] theorem zF0:zbD Tryz.prog 264 0=some (0,12):=by kernel_rfl
@[go_sem] theorem zF1:zaW Tryz.prog 264 1=some (12,172):=by kernel_rfl
@[go_sem] theorem zF2:zbD Tryz.prog 264 1=some (12,1):=by kernel_rfl
@[go_sem] theorem zF3:zaW Tryz.prog 264 2=some (13,199):=by kernel_rfl
@[go_sem] theorem zF4:zbD Tryz.prog 264 2=some (13,1):=by kernel_rfl
@[go_sem] theorem zF5:zaW Tryz.prog 264 3=some (14,99):=by kernel_rfl
@[go_sem] theorem zF6:zbD Tryz.prog 264 3=some (14,1):=by kernel_rfl
@[go_sem] theorem zF7:zaW Tryz.prog 264 4=some (15,35):=by kernel_rfl
@[go_sem] theorem zF8:zbD Tryz.prog 264 4=some (15,1):=by kernel_rfl
@[go_sem] theorem zF9:zaW Tryz.prog 264 5=some (16,35):=by kernel_rfl
@[go_sem] theorem zGa:zbD Tryz.prog 264 5=some (16,1):=by kernel_rfl
@[go_sem] theorem zGb:zaW Tryz.prog 264 6=some (17,196):=by kernel_rfl
@[go_sem] theorem zGc:zbD Tryz.prog 264 6=some (17,2):=by kernel_rfl
@[go_sem] theorem zGd:zaW Tryz.prog 264 7=some (19,4):=by kernel_rfl
@[go_sem] theorem zGe:zbD Tryz.prog 264 7=some (19,1):=by kernel_rfl
attribute [go_sem] Tryz.underlying264 Tryz.stoodInHeld264 Tryz.eqGuardType264
@[go_sem] theorem zGf:zaW Tryz.prog 278 0=some (0,3):=by kernel_rfl
@[go_sem] theorem zGg:zbD Tryz.prog 278 0=some (0,1):=by kernel_rfl
@[go_sem] theorem zGh:zaW Tryz.prog 278 1=some (1,3):=by kernel_rfl
@[go_sem] theorem zGi:zbD Tryz.prog 278 1=some (1,1):=by kernel_rfl
attribute [go_sem] Tryz.underlying278 Tryz.stoodInHeld278 Tryz.eqGuardType278
@[go_sem] theorem zGj:zaW Tryz.prog 279 0=some (0,3):=by kernel_rfl
@[go_sem] theorem zGk:zbD Tryz.prog 279 0=some (0,1):=by kernel_rfl
@[go_sem] theorem zGl:zaW Tryz.prog 279 1=some (1,3):=by kernel_rfl
@[go_sem] theorem zGm:zbD Tryz.prog 279 1=some (1,1):=by kernel_rfl
attribute [go_sem] Tryz.underlying279 Tryz.stoodInHeld279 Tryz.eqGuardType279
@[go_sem] theorem zGn:zbD Tryz.prog 282 0=some (0,1):=by kernel_rfl
@[go_sem] theorem zGo:zbD Tryz.prog 282 1=some (1,1):=by kernel_rfl
@[go_sem] theorem zGp:zbD Tryz.prog 282 2=some (2,1):=by kernel_rfl
@[go_sem] theorem zGq:zbD Tryz.prog 282 3=some (3,1):=by kernel_rfl
@[go_sem] theorem zGr:zbD Tryz.prog 282 4=some (4,1):=by kernel_rfl
@[go_sem] theorem zGs:zbD Tryz.prog 282 5=some (5,1):=by kernel_rfl
@[go_sem] theorem zGt:zbD Tryz.prog 282 6=some (6,1):=by kernel_rfl
@[go_sem] theorem zGu:zbD Tryz.prog 282 7=some (7,1):=by kernel_rfl
@[go_sem] theorem zGv:zaW Tryz.prog 293 0=some (0,3):=by kernel_rfl
@[go_sem] theorem zGw:zbD Tryz.prog 293 0=some (0,1):=by kernel_rfl
@[go_sem] theorem zGx:zaW Tryz.prog 293 1=some (1,3):=by kernel_rfl
@[go_sem] theorem zGy:zbD Tryz.prog 293 1=some (1,1):=by kernel_rfl
@[go_sem] theorem zGz:zaW Tryz.prog 293 2=some (2,3):=by kernel_rfl
@[go_sem] theorem zGA:zbD Tryz.prog 293 2=some (2,1):=by kernel_rfl
attribute [go_sem] Tryz.underlying293 Tryz.stoodInHeld293 Tryz.eqGuardType293
@[go_sem] theorem zGB:zaW Tryz.prog 294 0=some (0,3):=by kernel_rfl
@[go_sem] theorem zGC:zbD Tryz.prog 294 0=some (0,1):=by kernel_rfl
@[go_sem] theorem zGD:zaW Tryz.prog 294 1=some (1,3):=by kernel_rfl
@[go_sem] theorem zGE:zbD Tryz.prog 294 1=some (1,1):=by kernel_rfl
@[go_sem] theorem zGF:zaW Tryz.prog 294 2=some (2,3):=by kernel_rfl
@[go_sem] theorem zGG:zbD Tryz.prog 294 2=some (2,1):=by kernel_rfl
attribute [go_sem] Tryz.underlying294 Tryz.stoodInHeld294 Tryz.eqGuardType294
@[go_sem] theorem zGH:zaW Tryz.prog 296 0=some (0,3):=by kernel_rfl
@[go_sem] theorem zGI:zbD Tryz.prog 296 0=some (0,1):=by kernel_rfl
@[go_sem] theorem zGJ:zaW Tryz.prog 296 1=some (1,3):=by kernel_rfl
@[go_sem] theorem zGK:zbD Tryz.prog 296 1=some (1,1):=by kernel_rfl
@[go_sem] theorem zGL:zaW Tryz.prog 296 2=some (2,3):=by kernel_rfl
@[go_sem] theorem zGM:zbD Tryz.prog 296 2=some (2,1):=by kernel_rfl
attribute [go_sem] Tryz.underlying296 Tryz.stoodInHeld296 Tryz.eqGuardType296
@[go_sem] theorem zGN:zaW Tryz.prog 321 0=some (0,3):=by kernel_rfl
@[go_sem] theorem zGO:zbD Tryz.prog 321 0=some (0,1):=by kernel_rfl
@[go_sem] theorem zGP:zaW Tryz.prog 321 1=some (1,3):=by kernel_rfl
@[go_sem] theorem zGQ:zbD Tryz.prog 321 1=some (1,1):=by kernel_rfl
@[go_sem] theorem zGR:zaW Tryz.prog 321 2=some (2,3):=by kernel_rfl
@[go_sem] theorem zGS:zbD Tryz.prog 321 2=some (2,1):=by kernel_rfl
@[go_sem] theorem zGT:zaW Tryz.prog 321 3=some (3,3):=by kernel_rfl
@[go_sem] theorem zGU:zbD Tryz.prog 321 3=some (3,1):=by kernel_rfl
attribute [go_sem] Tryz.underlying321 Tryz.stoodInHeld321 Tryz.eqGuardType321
@[go_sem] theorem zGV:zaW Tryz.prog 322 0=some (0,3):=by kernel_rfl
@[go_sem] theorem zGW:zbD Tryz.prog 322 0=some (0,1):=by kernel_rfl
@[go_sem] theorem zGX:zaW Tryz.prog 322 1=some (1,3):=by kernel_rfl
@[go_sem] theorem zGY:zbD Tryz.prog 322 1=some (1,1):=by kernel_rfl
@[go_sem] theorem zGZ:zaW Tryz.prog 322 2=some (2,3):=by kernel_rfl
@[go_sem] theorem zG0:zbD Tryz.prog 322 2=some (2,1):=by kernel_rfl
@[go_sem] theorem zG1:zaW Tryz.prog 322 3=some (3,3):=by kernel_rfl
@[go_sem] theorem zG2:zbD Tryz.prog 322 3=some (3,1):=by kernel_rfl
attribute [go_sem] Tryz.underlying322 Tryz.stoodInHeld322 Tryz.eqGuardType322
@[go_sem] theorem zG3:zaW Tryz.prog 343 0=some (0,339):=by kernel_rfl
@[go_sem] theorem zG4:zbD Tryz.prog 343 0=some (0,1):=by kernel_rfl
@[go_sem] theorem zG5:zaW Tryz.prog 343 1=some (1,3):=by kernel_rfl
@[go_sem] theorem zG6:zbD Tryz.prog 343 1=some (1,1):=by kernel_rfl
@[go_sem] theorem zG7:zaW Tryz.prog 343 2=some (2,339):=by kernel_rfl
@[go_sem] theorem zG8:zbD Tryz.prog 343 2=some (2,1):=by kernel_rfl
@[go_sem] theorem zG9:zaW Tryz.prog 343 3=some (3,35):=by kernel_rfl
@[go_sem] theorem zHa:zbD Tryz.prog 343 3=some (3,1):=by kernel_rfl
attribute [go_sem] Tryz.underlying343 Tryz.stoodInHeld343 Tryz.eqGuardType343
@[go_sem] theorem zHb:zaW Tryz.prog 344 0=some (0,339):=by kernel_rfl
@[go_sem] theorem zHc:zbD Tryz.prog 344 0=some (0,1):=by kernel_rfl
@[go_sem] theorem zHd:zaW Tryz.prog 344 1=some (1,3):=by kernel_rfl
@[go_sem] theorem zHe:zbD Tryz.prog 344 1=some (1,1):=by kernel_rfl
@[go_sem] theorem zHf:zaW Tryz.prog 344 2=some (2,339):=by kernel_rfl
@[go_sem] theorem zHg:zbD Tryz.prog 344 2=some (2,1):=by kernel_rfl
@[go_sem] theorem zHh:zaW Tryz.prog 344 3=some (3,35):=by kernel_rfl
@[go_sem] theorem zHi:zbD Tryz.prog 344 3=some (3,1):=by kernel_rfl
attribute [go_sem] Tryz.underlying344 Tryz.stoodInHeld344 Tryz.eqGuardType344
end Go.Proofs.YtjiggadgmmjnhaaGreat
namespace Go.Proofs.YtjiggadgmmjnhaaGreat
open Go Go.SL
set_option maxHeartbeats 1000000
theorem zqH (a:Sl Int) (n:Int) (h:Hp) (ha:a.Ok h) (hn:0≤n∧n≤1048576):Ct Tryz.prog 117 [a.val,.int .i64 n] h fun v h'=>v=.int .i64 (zkE n (Blk.blk a))∧h'=h:=by
 have hl:=ha.max
 rw [zkD (fun _=>rfl) a]
 refine zdn (fun A W=>by simp) Tryz.func117 rfl rfl (by simp) fun W0=>?_
 repeat' first|refine zie rfl ?_|refine zc4 rfl ?_|refine zc7 ?_|refine zc8 ?_|refine zc5 ?_|refine zc6 ?_|(simp (maxSteps:=2000000) only [go_sem,yqa,yqb,yqc,yqd,yqe,yqf];try rfl)|refine zc3 ?_|(refine And.intro ?_ ?_;focus (intros;simp_all only [yqg,yqh,yqi,and_self,true_and,and_true];done))
 refine zc9 rfl (fun hc=>?_) (fun hc=>?_)
 ·repeat' first|refine zie rfl ?_|refine zc4 rfl ?_|refine zc7 ?_|refine zc8 ?_|refine zc5 ?_|refine zc6 ?_|(simp (maxSteps:=2000000) only [go_sem,yqa,yqb,yqc,yqd,yqe,yqf];try rfl)|refine zc3 ?_|(refine And.intro ?_ ?_;focus (intros;simp_all only [yqg,yqh,yqi,and_self,true_and,and_true];done))
  rw [zkL hn hl] at hc
  exact zkK (zkM hc) (Nat.le_refl _)
 ·repeat' first|refine zie rfl ?_|refine zc4 rfl ?_|refine zc7 ?_|refine zc8 ?_|refine zc5 ?_|refine zc6 ?_|(simp (maxSteps:=2000000) only [go_sem,yqa,yqb,yqc,yqd,yqe,yqf];try rfl)|refine zc3 ?_|(refine And.intro ?_ ?_;focus (intros;simp_all only [yqg,yqh,yqi,and_self,true_and,and_true];done))
  rw [zkL hn hl] at hc ⊢
  rw [(zkN hc).1]
theorem zqI (c:DPoint) (n:Int) (h:Hp) (hc:Enc.ok h c) (hn:0≤n∧n≤1048576):Ct Tryz.prog 174 [.agg #[.string c.name,.bool c.wait],.int .i64 n] h fun v h'=>v=.int .i64 (zkE n (Blk.blk c))∧h'=h:=by
 rw [zla]
 have o_name:=hc
 refine zdn (fun A W=>by simp) Tryz.func174 rfl rfl (by simp) fun W0=>?_
 repeat' first|refine zie rfl ?_|refine zc4 rfl ?_|refine zc7 ?_|refine zc8 ?_|refine zc5 ?_|refine zc6 ?_|(simp (maxSteps:=2000000) only [go_sem,yqa,yqb,yqc,yqd,yqe,yqf];try rfl)|refine zc3 ?_|(refine And.intro ?_ ?_;focus (intros;simp_all only [yqg,yqh,yqi,and_self,true_and,and_true];done))
 have hl0:c.name.size≤9223372036854775807:=o_name
 refine zc9 rfl (fun hd=>?_) (fun hd=>?_)
 ·repeat' first|refine zie rfl ?_|refine zc4 rfl ?_|refine zc7 ?_|refine zc8 ?_|refine zc5 ?_|refine zc6 ?_|(simp (maxSteps:=2000000) only [go_sem,yqa,yqb,yqc,yqd,yqe,yqf];try rfl)|refine zc3 ?_|(refine And.intro ?_ ?_;focus (intros;simp_all only [yqg,yqh,yqi,and_self,true_and,and_true];done))
  rw [zkL hn hl0] at hd
  exact zkK (zkM hd) (by first|exact Nat.le_refl _|omega)
 rw [zkL hn hl0] at hd
 have hp0:=zkN hd
 repeat' first|refine zie rfl ?_|refine zc4 rfl ?_|refine zc7 ?_|refine zc8 ?_|refine zc5 ?_|refine zc6 ?_|(simp (maxSteps:=2000000) only [go_sem,yqa,yqb,yqc,yqd,yqe,yqf];try rfl)|refine zc3 ?_|(refine And.intro ?_ ?_;focus (intros;simp_all only [yqg,yqh,yqi,and_self,true_and,and_true];done))
 rw [zkL hn hl0,hp0.1];rfl
theorem zqJ (c:DShip) (n:Int) (h:Hp) (hc:Enc.ok h c) (hn:0≤n∧n≤1048576):Ct Tryz.prog 116 [.agg #[.string c.name,.int .i64 c.length,.int .i64 c.draught,.int .i64 c.line,.int .i64 c.tugs,.bool c.slow],.int .i64 n] h fun v h'=>v=.int .i64 (zkE n (Blk.blk c))∧h'=h:=by
 rw [zli]
 have hc':=hc
 obtain ⟨o_name,o_length,o_draught,o_line,o_tugs⟩:=hc'
 refine zdn (fun A W=>by simp) Tryz.func116 rfl rfl (by simp) fun W0=>?_
 repeat' first|refine zie rfl ?_|refine zc4 rfl ?_|refine zc7 ?_|refine zc8 ?_|refine zc5 ?_|refine zc6 ?_|(simp (maxSteps:=2000000) only [go_sem,yqa,yqb,yqc,yqd,yqe,yqf];try rfl)|refine zc3 ?_|(refine And.intro ?_ ?_;focus (intros;simp_all only [yqg,yqh,yqi,and_self,true_and,and_true];done))
 have hl0:c.name.size≤9223372036854775807:=o_name
 refine zc9 rfl (fun hd=>?_) (fun hd=>?_)
 ·repeat' first|refine zie rfl ?_|refine zc4 rfl ?_|refine zc7 ?_|refine zc8 ?_|refine zc5 ?_|refine zc6 ?_|(simp (maxSteps:=2000000) only [go_sem,yqa,yqb,yqc,yqd,yqe,yqf];try rfl)|refine zc3 ?_|(refine And.intro ?_ ?_;focus (intros;simp_all only [yqg,yqh,yqi,and_self,true_and,and_true];done))
  rw [zkL hn hl0] at hd
  exact zkK (zkM hd) (by first|exact Nat.le_refl _|omega)
 rw [zkL hn hl0] at hd
 have hp0:=zkN hd
 repeat' first|refine zie rfl ?_|refine zc4 rfl ?_|refine zc7 ?_|refine zc8 ?_|refine zc5 ?_|refine zc6 ?_|(simp (maxSteps:=2000000) only [go_sem,yqa,yqb,yqc,yqd,yqe,yqf];try rfl)|refine zc3 ?_|(refine And.intro ?_ ?_;focus (intros;simp_all only [yqg,yqh,yqi,and_self,true_and,and_true];done))
 rw [zkL hn hl0,hp0.1];rfl
theorem zqK (c:DCrew) (n:Int) (h:Hp) (hc:Enc.ok h c) (hn:0≤n∧n≤1048576):Ct Tryz.prog 53 [.agg #[.int .i64 c.tugs,.int .i64 c.pilots,.int .i64 c.rest,c.moves.val],.int .i64 n] h fun v h'=>v=.int .i64 (zkE n (Blk.blk c))∧h'=h:=by
 rw [zk0]
 have hc':=hc
 obtain ⟨o_tugs,o_pilots,o_rest,o_moves⟩:=hc'
 refine zdn (fun A W=>by simp) Tryz.func53 rfl rfl (by simp) fun W0=>?_
 repeat' first|refine zie rfl ?_|refine zc4 rfl ?_|refine zc7 ?_|refine zc8 ?_|refine zc5 ?_|refine zc6 ?_|refine zhF (fun _=>zqH _ _ _ o_moves hn) ?_|(simp (maxSteps:=2000000) only [go_sem,yqa,yqb,yqc,yqd,yqe,yqf];try rfl)|refine zc3 ?_|(refine And.intro ?_ ?_;focus (intros;simp_all only [yqg,yqh,yqi,and_self,true_and,and_true];done))
 refine zc9 rfl (fun hd=>?_) (fun hd=>?_)
 ·repeat' first|refine zie rfl ?_|refine zc4 rfl ?_|refine zc7 ?_|refine zc8 ?_|refine zc5 ?_|refine zc6 ?_|(simp (maxSteps:=2000000) only [go_sem,yqa,yqb,yqc,yqd,yqe,yqf];try rfl)|refine zc3 ?_|(refine And.intro ?_ ?_;focus (intros;simp_all only [yqg,yqh,yqi,and_self,true_and,and_true];done))
  exact zkK (of_decide_eq_true hd) (by omega)
 have hp0:=zkG hd
 repeat' first|refine zie rfl ?_|refine zc4 rfl ?_|refine zc7 ?_|refine zc8 ?_|refine zc5 ?_|refine zc6 ?_|(simp (maxSteps:=2000000) only [go_sem,yqa,yqb,yqc,yqd,yqe,yqf];try rfl)|refine zc3 ?_|(refine And.intro ?_ ?_;focus (intros;simp_all only [yqg,yqh,yqi,and_self,true_and,and_true];done))
theorem zHj (a:Sl DPart) (n:Int) (h:Hp) (ha:a.Ok h) (hn:0≤n∧n≤1048576):Ct Tryz.prog 173 [a.val,.int .i64 n] h fun v h'=>v=.int .i64 (zkE n (Blk.blk a))∧h'=h:=by
 have hl:=ha.max
 rw [zkD (fun _=>rfl) a]
 refine zdn (fun A W=>by simp) Tryz.func173 rfl rfl (by simp) fun W0=>?_
 repeat' first|refine zie rfl ?_|refine zc4 rfl ?_|refine zc7 ?_|refine zc8 ?_|refine zc5 ?_|refine zc6 ?_|(simp (maxSteps:=2000000) only [go_sem,yqa,yqb,yqc,yqd,yqe,yqf];try rfl)|refine zc3 ?_|(refine And.intro ?_ ?_;focus (intros;simp_all only [yqg,yqh,yqi,and_self,true_and,and_true];done))
 refine zc9 rfl (fun hc=>?_) (fun hc=>?_)
 ·repeat' first|refine zie rfl ?_|refine zc4 rfl ?_|refine zc7 ?_|refine zc8 ?_|refine zc5 ?_|refine zc6 ?_|(simp (maxSteps:=2000000) only [go_sem,yqa,yqb,yqc,yqd,yqe,yqf];try rfl)|refine zc3 ?_|(refine And.intro ?_ ?_;focus (intros;simp_all only [yqg,yqh,yqi,and_self,true_and,and_true];done))
  rw [zkL hn hl] at hc
  exact zkK (zkM hc) (Nat.le_refl _)
 ·repeat' first|refine zie rfl ?_|refine zc4 rfl ?_|refine zc7 ?_|refine zc8 ?_|refine zc5 ?_|refine zc6 ?_|(simp (maxSteps:=2000000) only [go_sem,yqa,yqb,yqc,yqd,yqe,yqf];try rfl)|refine zc3 ?_|(refine And.intro ?_ ?_;focus (intros;simp_all only [yqg,yqh,yqi,and_self,true_and,and_true];done))
  rw [zkL hn hl] at hc ⊢
  rw [(zkN hc).1]
theorem zqL (a:Sl DPassage) (n:Int) (h:Hp) (ha:a.Ok h) (hn:0≤n∧n≤1048576):Ct Tryz.prog 85 [a.val,.int .i64 n] h fun v h'=>v=.int .i64 (zkE n (Blk.blk a))∧h'=h:=by
 have hl:=ha.max
 rw [zkD (fun _=>rfl) a]
 refine zdn (fun A W=>by simp) Tryz.func85 rfl rfl (by simp) fun W0=>?_
 repeat' first|refine zie rfl ?_|refine zc4 rfl ?_|refine zc7 ?_|refine zc8 ?_|refine zc5 ?_|refine zc6 ?_|(simp (maxSteps:=2000000) only [go_sem,yqa,yqb,yqc,yqd,yqe,yqf];try rfl)|refine zc3 ?_|(refine And.intro ?_ ?_;focus (intros;simp_all only [yqg,yqh,yqi,and_self,true_and,and_true];done))
 refine zc9 rfl (fun hc=>?_) (fun hc=>?_)
 ·repeat' first|refine zie rfl ?_|refine zc4 rfl ?_|refine zc7 ?_|refine zc8 ?_|refine zc5 ?_|refine zc6 ?_|(simp (maxSteps:=2000000) only [go_sem,yqa,yqb,yqc,yqd,yqe,yqf];try rfl)|refine zc3 ?_|(refine And.intro ?_ ?_;focus (intros;simp_all only [yqg,yqh,yqi,and_self,true_and,and_true];done))
  rw [zkL hn hl] at hc
  exact zkK (zkM hc) (Nat.le_refl _)
 ·repeat' first|refine zie rfl ?_|refine zc4 rfl ?_|refine zc7 ?_|refine zc8 ?_|refine zc5 ?_|refine zc6 ?_|(simp (maxSteps:=2000000) only [go_sem,yqa,yqb,yqc,yqd,yqe,yqf];try rfl)|refine zc3 ?_|(refine And.intro ?_ ?_;focus (intros;simp_all only [yqg,yqh,yqi,and_self,true_and,and_true];done))
  rw [zkL hn hl] at hc ⊢
  rw [(zkN hc).1]
theorem zqM (a:Sl DPoint) (n:Int) (h:Hp) (ha:a.Ok h) (hn:0≤n∧n≤1048576):Ct Tryz.prog 114 [a.val,.int .i64 n] h fun v h'=>v=.int .i64 (zkE n (Blk.blk a))∧h'=h:=by
 have hl:=ha.max
 rw [zkC]
 refine zdn (fun A W=>by simp) Tryz.func114 rfl rfl (by simp) fun W0=>?_
 repeat' first|refine zie rfl ?_|refine zc4 rfl ?_|refine zc7 ?_|refine zc8 ?_|refine zc5 ?_|refine zc6 ?_|(simp (maxSteps:=2000000) only [go_sem,yqa,yqb,yqc,yqd,yqe,yqf];try rfl)|refine zc3 ?_|(refine And.intro ?_ ?_;focus (intros;simp_all only [yqg,yqh,yqi,and_self,true_and,and_true];done))
 refine zc9 rfl (fun hc=>?_) (fun hc=>?_)
 ·repeat' first|refine zie rfl ?_|refine zc4 rfl ?_|refine zc7 ?_|refine zc8 ?_|refine zc5 ?_|refine zc6 ?_|(simp (maxSteps:=2000000) only [go_sem,yqa,yqb,yqc,yqd,yqe,yqf];try rfl)|refine zc3 ?_|(refine And.intro ?_ ?_;focus (intros;simp_all only [yqg,yqh,yqi,and_self,true_and,and_true];done))
  rw [zkL hn hl] at hc
  exact zkK (zkM hc) (Nat.le_add_right _ _)
 rw [zkL hn hl] at hc
 have hp:=zkN hc
 repeat' first|refine zie rfl ?_|refine zc4 rfl ?_|refine zc7 ?_|refine zc8 ?_|refine zc5 ?_|refine zc6 ?_|(simp (maxSteps:=2000000) only [go_sem,yqa,yqb,yqc,yqd,yqe,yqf];try rfl)|refine zc3 ?_|(refine And.intro ?_ ?_;focus (intros;simp_all only [yqg,yqh,yqi,and_self,true_and,and_true];done))
 refine zde (ι:=Nat) (fun k=>⟨[(0,true,.c (.v a.val)),(1,true,.c (.v (.int .i64 (zkE n (a.l.length+((a.l.map Blk.blk).take k).sum))))),(5,true,.c (.v (.int .i64 k)))],[],h,0⟩) (fun k=>k≤a.l.length∧0≤zkE n (a.l.length+((a.l.map Blk.blk).take k).sum)) (fun k=>a.l.length - k) 0 ⟨Nat.zero_le _,hp.2⟩ ?_ ?_
 ·simp (maxSteps:=2000000) only [go_sem,yqa,yqb,yqc,yqd,yqe,yqf]
  exact ⟨by rw [zkL hn hl,hp.1];rfl,rfl⟩
 intro k hk
 repeat' first|refine zie rfl ?_|refine zc4 rfl ?_|refine zc7 ?_|refine zc8 ?_|refine zc5 ?_|refine zc6 ?_|(simp (maxSteps:=2000000) only [go_sem,yqa,yqb,yqc,yqd,yqe,yqf];try rfl)|refine zc3 ?_|(refine And.intro ?_ ?_;focus (intros;simp_all only [yqg,yqh,yqi,and_self,true_and,and_true];done))
 refine zc9 rfl (fun hd=>?_) (fun hd=>?_)
 ·have hlt:=zjH hd
  have hlm:k < (a.l.map Blk.blk).length:=by rw [List.length_map];exact hlt
  repeat' first|refine zie rfl ?_|refine zc4 rfl ?_|refine zc7 ?_|refine zc8 ?_|refine zc5 ?_|refine zc6 ?_|refine zhF (fun _=>zqI _ _ _ (ha.el hlt) (zkI hn hk.2)) ?_|(simp (maxSteps:=2000000) only [go_sem,yqa,yqb,yqc,yqd,yqe,yqf,zlb ha hlt,ha.some hlt,hlt,yqj];try rfl)|refine zc3 ?_|(refine And.intro ?_ ?_;focus (intros;simp_all only [yqg,yqh,yqi,and_self,true_and,and_true];done))
  refine zc9 rfl (fun hg=>?_) (fun hg=>?_)
  ·repeat' first|refine zie rfl ?_|refine zc4 rfl ?_|refine zc7 ?_|refine zc8 ?_|refine zc5 ?_|refine zc6 ?_|(simp (maxSteps:=2000000) only [go_sem,yqa,yqb,yqc,yqd,yqe,yqf];try rfl)|refine zc3 ?_|(refine And.intro ?_ ?_;focus (intros;simp_all only [yqg,yqh,yqi,and_self,true_and,and_true];done))
   rw [zkF hk.2] at hg
   refine zkK (of_decide_eq_true hg) ?_
   have:=zkO hlm
   rw [List.getElem_map] at this
   have:=zkP (l:=a.l.map Blk.blk) (k:=k+1)
   omega
  ·rw [zkF hk.2] at hg
   have hs:=zkO hlm
   rw [List.getElem_map] at hs
   have he:a.l.length+((a.l.map Blk.blk).take k).sum+Blk.blk a.l[k]=a.l.length+((a.l.map Blk.blk).take (k+1)).sum:=by omega
   rw [he] at hg
   repeat' first|refine zie rfl ?_|refine zc4 rfl ?_|refine zc7 ?_|refine zc8 ?_|refine zc5 ?_|refine zc6 ?_|(simp (maxSteps:=2000000) only [go_sem,yqa,yqb,yqc,yqd,yqe,yqf];try rfl)|refine zc3 ?_|(refine And.intro ?_ ?_;focus (intros;simp_all only [yqg,yqh,yqi,and_self,true_and,and_true];done))
   exact ⟨k+1,⟨hlt,zkG hg⟩,by omega,by rw [zkF hk.2,he],zjB (zjA hlt hl)⟩
 ·have hge:=zjI hd
  repeat' first|refine zie rfl ?_|refine zc4 rfl ?_|refine zc7 ?_|refine zc8 ?_|refine zc5 ?_|refine zc6 ?_|(simp (maxSteps:=2000000) only [go_sem,yqa,yqb,yqc,yqd,yqe,yqf];try rfl)|refine zc3 ?_|(refine And.intro ?_ ?_;focus (intros;simp_all only [yqg,yqh,yqi,and_self,true_and,and_true];done))
  rw [List.take_of_length_le (by rw [List.length_map];exact hge)]
theorem zqN (a:Sl DSegment) (n:Int) (h:Hp) (ha:a.Ok h) (hn:0≤n∧n≤1048576):Ct Tryz.prog 115 [a.val,.int .i64 n] h fun v h'=>v=.int .i64 (zkE n (Blk.blk a))∧h'=h:=by
 have hl:=ha.max
 rw [zkD (fun _=>rfl) a]
 refine zdn (fun A W=>by simp) Tryz.func115 rfl rfl (by simp) fun W0=>?_
 repeat' first|refine zie rfl ?_|refine zc4 rfl ?_|refine zc7 ?_|refine zc8 ?_|refine zc5 ?_|refine zc6 ?_|(simp (maxSteps:=2000000) only [go_sem,yqa,yqb,yqc,yqd,yqe,yqf];try rfl)|refine zc3 ?_|(refine And.intro ?_ ?_;focus (intros;simp_all only [yqg,yqh,yqi,and_self,true_and,and_true];done))
 refine zc9 rfl (fun hc=>?_) (fun hc=>?_)
 ·repeat' first|refine zie rfl ?_|refine zc4 rfl ?_|refine zc7 ?_|refine zc8 ?_|refine zc5 ?_|refine zc6 ?_|(simp (maxSteps:=2000000) only [go_sem,yqa,yqb,yqc,yqd,yqe,yqf];try rfl)|refine zc3 ?_|(refine And.intro ?_ ?_;focus (intros;simp_all only [yqg,yqh,yqi,and_self,true_and,and_true];done))
  rw [zkL hn hl] at hc
  exact zkK (zkM hc) (Nat.le_refl _)
 ·repeat' first|refine zie rfl ?_|refine zc4 rfl ?_|refine zc7 ?_|refine zc8 ?_|refine zc5 ?_|refine zc6 ?_|(simp (maxSteps:=2000000) only [go_sem,yqa,yqb,yqc,yqd,yqe,yqf];try rfl)|refine zc3 ?_|(refine And.intro ?_ ?_;focus (intros;simp_all only [yqg,yqh,yqi,and_self,true_and,and_true];done))
  rw [zkL hn hl] at hc ⊢
  rw [(zkN hc).1]
theorem zqO (a:Sl DShip) (n:Int) (h:Hp) (ha:a.Ok h) (hn:0≤n∧n≤1048576):Ct Tryz.prog 52 [a.val,.int .i64 n] h fun v h'=>v=.int .i64 (zkE n (Blk.blk a))∧h'=h:=by
 have hl:=ha.max
 rw [zkC]
 refine zdn (fun A W=>by simp) Tryz.func52 rfl rfl (by simp) fun W0=>?_
 repeat' first|refine zie rfl ?_|refine zc4 rfl ?_|refine zc7 ?_|refine zc8 ?_|refine zc5 ?_|refine zc6 ?_|(simp (maxSteps:=2000000) only [go_sem,yqa,yqb,yqc,yqd,yqe,yqf];try rfl)|refine zc3 ?_|(refine And.intro ?_ ?_;focus (intros;simp_all only [yqg,yqh,yqi,and_self,true_and,and_true];done))
 refine zc9 rfl (fun hc=>?_) (fun hc=>?_)
 ·repeat' first|refine zie rfl ?_|refine zc4 rfl ?_|refine zc7 ?_|refine zc8 ?_|refine zc5 ?_|refine zc6 ?_|(simp (maxSteps:=2000000) only [go_sem,yqa,yqb,yqc,yqd,yqe,yqf];try rfl)|refine zc3 ?_|(refine And.intro ?_ ?_;focus (intros;simp_all only [yqg,yqh,yqi,and_self,true_and,and_true];done))
  rw [zkL hn hl] at hc
  exact zkK (zkM hc) (Nat.le_add_right _ _)
 rw [zkL hn hl] at hc
 have hp:=zkN hc
 repeat' first|refine zie rfl ?_|refine zc4 rfl ?_|refine zc7 ?_|refine zc8 ?_|refine zc5 ?_|refine zc6 ?_|(simp (maxSteps:=2000000) only [go_sem,yqa,yqb,yqc,yqd,yqe,yqf];try rfl)|refine zc3 ?_|(refine And.intro ?_ ?_;focus (intros;simp_all only [yqg,yqh,yqi,and_self,true_and,and_true];done))
 refine zde (ι:=Nat) (fun k=>⟨[(0,true,.c (.v a.val)),(1,true,.c (.v (.int .i64 (zkE n (a.l.length+((a.l.map Blk.blk).take k).sum))))),(5,true,.c (.v (.int .i64 k)))],[],h,0⟩) (fun k=>k≤a.l.length∧0≤zkE n (a.l.length+((a.l.map Blk.blk).take k).sum)) (fun k=>a.l.length - k) 0 ⟨Nat.zero_le _,hp.2⟩ ?_ ?_
 ·simp (maxSteps:=2000000) only [go_sem,yqa,yqb,yqc,yqd,yqe,yqf]
  exact ⟨by rw [zkL hn hl,hp.1];rfl,rfl⟩
 intro k hk
 repeat' first|refine zie rfl ?_|refine zc4 rfl ?_|refine zc7 ?_|refine zc8 ?_|refine zc5 ?_|refine zc6 ?_|(simp (maxSteps:=2000000) only [go_sem,yqa,yqb,yqc,yqd,yqe,yqf];try rfl)|refine zc3 ?_|(refine And.intro ?_ ?_;focus (intros;simp_all only [yqg,yqh,yqi,and_self,true_and,and_true];done))
 refine zc9 rfl (fun hd=>?_) (fun hd=>?_)
 ·have hlt:=zjH hd
  have hlm:k < (a.l.map Blk.blk).length:=by rw [List.length_map];exact hlt
  repeat' first|refine zie rfl ?_|refine zc4 rfl ?_|refine zc7 ?_|refine zc8 ?_|refine zc5 ?_|refine zc6 ?_|refine zhF (fun _=>zqJ _ _ _ (ha.el hlt) (zkI hn hk.2)) ?_|(simp (maxSteps:=2000000) only [go_sem,yqa,yqb,yqc,yqd,yqe,yqf,zlj ha hlt,ha.some hlt,hlt,yqj];try rfl)|refine zc3 ?_|(refine And.intro ?_ ?_;focus (intros;simp_all only [yqg,yqh,yqi,and_self,true_and,and_true];done))
  refine zc9 rfl (fun hg=>?_) (fun hg=>?_)
  ·repeat' first|refine zie rfl ?_|refine zc4 rfl ?_|refine zc7 ?_|refine zc8 ?_|refine zc5 ?_|refine zc6 ?_|(simp (maxSteps:=2000000) only [go_sem,yqa,yqb,yqc,yqd,yqe,yqf];try rfl)|refine zc3 ?_|(refine And.intro ?_ ?_;focus (intros;simp_all only [yqg,yqh,yqi,and_self,true_and,and_true];done))
   rw [zkF hk.2] at hg
   refine zkK (of_decide_eq_true hg) ?_
   have:=zkO hlm
   rw [List.getElem_map] at this
   have:=zkP (l:=a.l.map Blk.blk) (k:=k+1)
   omega
  ·rw [zkF hk.2] at hg
   have hs:=zkO hlm
   rw [List.getElem_map] at hs
   have he:a.l.length+((a.l.map Blk.blk).take k).sum+Blk.blk a.l[k]=a.l.length+((a.l.map Blk.blk).take (k+1)).sum:=by omega
   rw [he] at hg
   repeat' first|refine zie rfl ?_|refine zc4 rfl ?_|refine zc7 ?_|refine zc8 ?_|refine zc5 ?_|refine zc6 ?_|(simp (maxSteps:=2000000) only [go_sem,yqa,yqb,yqc,yqd,yqe,yqf];try rfl)|refine zc3 ?_|(refine And.intro ?_ ?_;focus (intros;simp_all only [yqg,yqh,yqi,and_self,true_and,and_true];done))
   exact ⟨k+1,⟨hlt,zkG hg⟩,by omega,by rw [zkF hk.2,he],zjB (zjA hlt hl)⟩
 ·have hge:=zjI hd
  repeat' first|refine zie rfl ?_|refine zc4 rfl ?_|refine zc7 ?_|refine zc8 ?_|refine zc5 ?_|refine zc6 ?_|(simp (maxSteps:=2000000) only [go_sem,yqa,yqb,yqc,yqd,yqe,yqf];try rfl)|refine zc3 ?_|(refine And.intro ?_ ?_;focus (intros;simp_all only [yqg,yqh,yqi,and_self,true_and,and_true];done))
  rw [List.take_of_length_le (by rw [List.length_map];exact hge)]
theorem zHk (a:Sl DSurge) (n:Int) (h:Hp) (ha:a.Ok h) (hn:0≤n∧n≤1048576):Ct Tryz.prog 113 [a.val,.int .i64 n] h fun v h'=>v=.int .i64 (zkE n (Blk.blk a))∧h'=h:=by
 have hl:=ha.max
 rw [zkD (fun _=>rfl) a]
 refine zdn (fun A W=>by simp) Tryz.func113 rfl rfl (by simp) fun W0=>?_
 repeat' first|refine zie rfl ?_|refine zc4 rfl ?_|refine zc7 ?_|refine zc8 ?_|refine zc5 ?_|refine zc6 ?_|(simp (maxSteps:=2000000) only [go_sem,yqa,yqb,yqc,yqd,yqe,yqf];try rfl)|refine zc3 ?_|(refine And.intro ?_ ?_;focus (intros;simp_all only [yqg,yqh,yqi,and_self,true_and,and_true];done))
 refine zc9 rfl (fun hc=>?_) (fun hc=>?_)
 ·repeat' first|refine zie rfl ?_|refine zc4 rfl ?_|refine zc7 ?_|refine zc8 ?_|refine zc5 ?_|refine zc6 ?_|(simp (maxSteps:=2000000) only [go_sem,yqa,yqb,yqc,yqd,yqe,yqf];try rfl)|refine zc3 ?_|(refine And.intro ?_ ?_;focus (intros;simp_all only [yqg,yqh,yqi,and_self,true_and,and_true];done))
  rw [zkL hn hl] at hc
  exact zkK (zkM hc) (Nat.le_refl _)
 ·repeat' first|refine zie rfl ?_|refine zc4 rfl ?_|refine zc7 ?_|refine zc8 ?_|refine zc5 ?_|refine zc6 ?_|(simp (maxSteps:=2000000) only [go_sem,yqa,yqb,yqc,yqd,yqe,yqf];try rfl)|refine zc3 ?_|(refine And.intro ?_ ?_;focus (intros;simp_all only [yqg,yqh,yqi,and_self,true_and,and_true];done))
  rw [zkL hn hl] at hc ⊢
  rw [(zkN hc).1]
theorem zqP (c:DChart) (n:Int) (h:Hp) (hc:Enc.ok h c) (hn:0≤n∧n≤1048576):Ct Tryz.prog 51 [.agg #[c.points.val,c.segments.val],.int .i64 n] h fun v h'=>v=.int .i64 (zkE n (Blk.blk c))∧h'=h:=by
 rw [zlg]
 have hc':=hc
 obtain ⟨o_points,o_segments⟩:=hc'
 refine zdn (fun A W=>by simp) Tryz.func51 rfl rfl (by simp) fun W0=>?_
 repeat' first|refine zie rfl ?_|refine zc4 rfl ?_|refine zc7 ?_|refine zc8 ?_|refine zc5 ?_|refine zc6 ?_|refine zhF (fun _=>zqM _ _ _ o_points hn) ?_|(simp (maxSteps:=2000000) only [go_sem,yqa,yqb,yqc,yqd,yqe,yqf];try rfl)|refine zc3 ?_|(refine And.intro ?_ ?_;focus (intros;simp_all only [yqg,yqh,yqi,and_self,true_and,and_true];done))
 refine zc9 rfl (fun hd=>?_) (fun hd=>?_)
 ·repeat' first|refine zie rfl ?_|refine zc4 rfl ?_|refine zc7 ?_|refine zc8 ?_|refine zc5 ?_|refine zc6 ?_|(simp (maxSteps:=2000000) only [go_sem,yqa,yqb,yqc,yqd,yqe,yqf];try rfl)|refine zc3 ?_|(refine And.intro ?_ ?_;focus (intros;simp_all only [yqg,yqh,yqi,and_self,true_and,and_true];done))
  exact zkK (of_decide_eq_true hd) (by omega)
 have hp0:=zkG hd
 repeat' first|refine zie rfl ?_|refine zc4 rfl ?_|refine zc7 ?_|refine zc8 ?_|refine zc5 ?_|refine zc6 ?_|refine zhF (fun _=>zqN _ _ _ o_segments (zkI hn hp0)) ?_|(simp (maxSteps:=2000000) only [go_sem,yqa,yqb,yqc,yqd,yqe,yqf];try rfl)|refine zc3 ?_|(refine And.intro ?_ ?_;focus (intros;simp_all only [yqg,yqh,yqi,and_self,true_and,and_true];done))
 refine zc9 rfl (fun hd=>?_) (fun hd=>?_)
 ·repeat' first|refine zie rfl ?_|refine zc4 rfl ?_|refine zc7 ?_|refine zc8 ?_|refine zc5 ?_|refine zc6 ?_|(simp (maxSteps:=2000000) only [go_sem,yqa,yqb,yqc,yqd,yqe,yqf];try rfl)|refine zc3 ?_|(refine And.intro ?_ ?_;focus (intros;simp_all only [yqg,yqh,yqi,and_self,true_and,and_true];done))
  rw [zkF hp0] at hd
  exact zkK (of_decide_eq_true hd) (by omega)
 have hp1:=zkG hd
 rw [zkF hp0] at hp1
 repeat' first|refine zie rfl ?_|refine zc4 rfl ?_|refine zc7 ?_|refine zc8 ?_|refine zc5 ?_|refine zc6 ?_|(simp (maxSteps:=2000000) only [go_sem,yqa,yqb,yqc,yqd,yqe,yqf];try rfl)|refine zc3 ?_|(refine And.intro ?_ ?_;focus (intros;simp_all only [yqg,yqh,yqi,and_self,true_and,and_true];done))
 rw [zkF hp0]
theorem zHl (c:DOption) (n:Int) (h:Hp) (hc:Enc.ok h c) (hn:0≤n∧n≤1048576):Ct Tryz.prog 30 [.agg #[.int .i64 c.start,.int .i64 c.arr,.int .i64 c.cost,c.pas.val],.int .i64 n] h fun v h'=>v=.int .i64 (zkE n (Blk.blk c))∧h'=h:=by
 rw [zkX]
 have hc':=hc
 obtain ⟨o_start,o_arr,o_cost,o_pas⟩:=hc'
 refine zdn (fun A W=>by simp) Tryz.func30 rfl rfl (by simp) fun W0=>?_
 repeat' first|refine zie rfl ?_|refine zc4 rfl ?_|refine zc7 ?_|refine zc8 ?_|refine zc5 ?_|refine zc6 ?_|refine zhF (fun _=>zqL _ _ _ o_pas hn) ?_|(simp (maxSteps:=2000000) only [go_sem,yqa,yqb,yqc,yqd,yqe,yqf];try rfl)|refine zc3 ?_|(refine And.intro ?_ ?_;focus (intros;simp_all only [yqg,yqh,yqi,and_self,true_and,and_true];done))
 refine zc9 rfl (fun hd=>?_) (fun hd=>?_)
 ·repeat' first|refine zie rfl ?_|refine zc4 rfl ?_|refine zc7 ?_|refine zc8 ?_|refine zc5 ?_|refine zc6 ?_|(simp (maxSteps:=2000000) only [go_sem,yqa,yqb,yqc,yqd,yqe,yqf];try rfl)|refine zc3 ?_|(refine And.intro ?_ ?_;focus (intros;simp_all only [yqg,yqh,yqi,and_self,true_and,and_true];done))
  exact zkK (of_decide_eq_true hd) (by omega)
 have hp0:=zkG hd
 repeat' first|refine zie rfl ?_|refine zc4 rfl ?_|refine zc7 ?_|refine zc8 ?_|refine zc5 ?_|refine zc6 ?_|(simp (maxSteps:=2000000) only [go_sem,yqa,yqb,yqc,yqd,yqe,yqf];try rfl)|refine zc3 ?_|(refine And.intro ?_ ?_;focus (intros;simp_all only [yqg,yqh,yqi,and_self,true_and,and_true];done))
theorem zHm (c:DTide) (n:Int) (h:Hp) (hc:Enc.ok h c) (hn:0≤n∧n≤1048576):Ct Tryz.prog 112 [.agg #[.int .i64 c.mean,c.parts.val],.int .i64 n] h fun v h'=>v=.int .i64 (zkE n (Blk.blk c))∧h'=h:=by
 rw [zk4]
 have hc':=hc
 obtain ⟨o_mean,o_parts⟩:=hc'
 refine zdn (fun A W=>by simp) Tryz.func112 rfl rfl (by simp) fun W0=>?_
 repeat' first|refine zie rfl ?_|refine zc4 rfl ?_|refine zc7 ?_|refine zc8 ?_|refine zc5 ?_|refine zc6 ?_|refine zhF (fun _=>zHj _ _ _ o_parts hn) ?_|(simp (maxSteps:=2000000) only [go_sem,yqa,yqb,yqc,yqd,yqe,yqf];try rfl)|refine zc3 ?_|(refine And.intro ?_ ?_;focus (intros;simp_all only [yqg,yqh,yqi,and_self,true_and,and_true];done))
 refine zc9 rfl (fun hd=>?_) (fun hd=>?_)
 ·repeat' first|refine zie rfl ?_|refine zc4 rfl ?_|refine zc7 ?_|refine zc8 ?_|refine zc5 ?_|refine zc6 ?_|(simp (maxSteps:=2000000) only [go_sem,yqa,yqb,yqc,yqd,yqe,yqf];try rfl)|refine zc3 ?_|(refine And.intro ?_ ?_;focus (intros;simp_all only [yqg,yqh,yqi,and_self,true_and,and_true];done))
  exact zkK (of_decide_eq_true hd) (by omega)
 have hp0:=zkG hd
 repeat' first|refine zie rfl ?_|refine zc4 rfl ?_|refine zc7 ?_|refine zc8 ?_|refine zc5 ?_|refine zc6 ?_|(simp (maxSteps:=2000000) only [go_sem,yqa,yqb,yqc,yqd,yqe,yqf];try rfl)|refine zc3 ?_|(refine And.intro ?_ ?_;focus (intros;simp_all only [yqg,yqh,yqi,and_self,true_and,and_true];done))
theorem zHn (c:DForecast) (n:Int) (h:Hp) (hc:Enc.ok h c) (hn:0≤n∧n≤1048576):Ct Tryz.prog 50 [.agg #[.int .i64 c.tide.mean,c.tide.parts.val,c.surges.val],.int .i64 n] h fun v h'=>v=.int .i64 (zkE n (Blk.blk c))∧h'=h:=by
 rw [zk8]
 have hc':=hc
 obtain ⟨o_tide,o_surges⟩:=hc'
 refine zdn (fun A W=>by simp) Tryz.func50 rfl rfl (by simp) fun W0=>?_
 repeat' first|refine zie rfl ?_|refine zc4 rfl ?_|refine zc7 ?_|refine zc8 ?_|refine zc5 ?_|refine zc6 ?_|refine zhF (fun _=>zHm _ _ _ o_tide hn) ?_|(simp (maxSteps:=2000000) only [go_sem,yqa,yqb,yqc,yqd,yqe,yqf];try rfl)|refine zc3 ?_|(refine And.intro ?_ ?_;focus (intros;simp_all only [yqg,yqh,yqi,and_self,true_and,and_true];done))
 refine zc9 rfl (fun hd=>?_) (fun hd=>?_)
 ·repeat' first|refine zie rfl ?_|refine zc4 rfl ?_|refine zc7 ?_|refine zc8 ?_|refine zc5 ?_|refine zc6 ?_|(simp (maxSteps:=2000000) only [go_sem,yqa,yqb,yqc,yqd,yqe,yqf];try rfl)|refine zc3 ?_|(refine And.intro ?_ ?_;focus (intros;simp_all only [yqg,yqh,yqi,and_self,true_and,and_true];done))
  exact zkK (of_decide_eq_true hd) (by omega)
 have hp0:=zkG hd
 repeat' first|refine zie rfl ?_|refine zc4 rfl ?_|refine zc7 ?_|refine zc8 ?_|refine zc5 ?_|refine zc6 ?_|refine zhF (fun _=>zHk _ _ _ o_surges (zkI hn hp0)) ?_|(simp (maxSteps:=2000000) only [go_sem,yqa,yqb,yqc,yqd,yqe,yqf];try rfl)|refine zc3 ?_|(refine And.intro ?_ ?_;focus (intros;simp_all only [yqg,yqh,yqi,and_self,true_and,and_true];done))
 refine zc9 rfl (fun hd=>?_) (fun hd=>?_)
 ·repeat' first|refine zie rfl ?_|refine zc4 rfl ?_|refine zc7 ?_|refine zc8 ?_|refine zc5 ?_|refine zc6 ?_|(simp (maxSteps:=2000000) only [go_sem,yqa,yqb,yqc,yqd,yqe,yqf];try rfl)|refine zc3 ?_|(refine And.intro ?_ ?_;focus (intros;simp_all only [yqg,yqh,yqi,and_self,true_and,and_true];done))
  rw [zkF hp0] at hd
  exact zkK (of_decide_eq_true hd) (by omega)
 have hp1:=zkG hd
 rw [zkF hp0] at hp1
 repeat' first|refine zie rfl ?_|refine zc4 rfl ?_|refine zc7 ?_|refine zc8 ?_|refine zc5 ?_|refine zc6 ?_|(simp (maxSteps:=2000000) only [go_sem,yqa,yqb,yqc,yqd,yqe,yqf];try rfl)|refine zc3 ?_|(refine And.intro ?_ ?_;focus (intros;simp_all only [yqg,yqh,yqi,and_self,true_and,and_true];done))
 rw [zkF hp0]
theorem zHo (c:DHarbour) (n:Int) (h:Hp) (hc:Enc.ok h c) (hn:0≤n∧n≤1048576):Ct Tryz.prog 11 [.agg #[.int .i64 c.forecast.tide.mean,c.forecast.tide.parts.val,c.forecast.surges.val,c.chart.points.val,c.chart.segments.val,c.fleet.val,.int .i64 c.regime.gap,.bool c.regime.noMeet,.int .i64 c.crew.tugs,.int .i64 c.crew.pilots,.int .i64 c.crew.rest,c.crew.moves.val],.int .i64 n] h fun v h'=>v=.int .i64 (zkE n (Blk.blk c))∧h'=h:=by
 rw [zln]
 have hc':=hc
 obtain ⟨o_forecast,o_chart,o_fleet,o_regime,o_crew⟩:=hc'
 refine zdn (fun A W=>by simp) Tryz.func11 rfl rfl (by simp) fun W0=>?_
 repeat' first|refine zie rfl ?_|refine zc4 rfl ?_|refine zc7 ?_|refine zc8 ?_|refine zc5 ?_|refine zc6 ?_|refine zhF (fun _=>zHn _ _ _ o_forecast hn) ?_|(simp (maxSteps:=2000000) only [go_sem,yqa,yqb,yqc,yqd,yqe,yqf];try rfl)|refine zc3 ?_|(refine And.intro ?_ ?_;focus (intros;simp_all only [yqg,yqh,yqi,and_self,true_and,and_true];done))
 refine zc9 rfl (fun hd=>?_) (fun hd=>?_)
 ·repeat' first|refine zie rfl ?_|refine zc4 rfl ?_|refine zc7 ?_|refine zc8 ?_|refine zc5 ?_|refine zc6 ?_|(simp (maxSteps:=2000000) only [go_sem,yqa,yqb,yqc,yqd,yqe,yqf];try rfl)|refine zc3 ?_|(refine And.intro ?_ ?_;focus (intros;simp_all only [yqg,yqh,yqi,and_self,true_and,and_true];done))
  exact zkK (of_decide_eq_true hd) (by omega)
 have hp0:=zkG hd
 repeat' first|refine zie rfl ?_|refine zc4 rfl ?_|refine zc7 ?_|refine zc8 ?_|refine zc5 ?_|refine zc6 ?_|refine zhF (fun _=>zqP _ _ _ o_chart (zkI hn hp0)) ?_|(simp (maxSteps:=2000000) only [go_sem,yqa,yqb,yqc,yqd,yqe,yqf];try rfl)|refine zc3 ?_|(refine And.intro ?_ ?_;focus (intros;simp_all only [yqg,yqh,yqi,and_self,true_and,and_true];done))
 refine zc9 rfl (fun hd=>?_) (fun hd=>?_)
 ·repeat' first|refine zie rfl ?_|refine zc4 rfl ?_|refine zc7 ?_|refine zc8 ?_|refine zc5 ?_|refine zc6 ?_|(simp (maxSteps:=2000000) only [go_sem,yqa,yqb,yqc,yqd,yqe,yqf];try rfl)|refine zc3 ?_|(refine And.intro ?_ ?_;focus (intros;simp_all only [yqg,yqh,yqi,and_self,true_and,and_true];done))
  rw [zkF hp0] at hd
  exact zkK (of_decide_eq_true hd) (by omega)
 have hp1:=zkG hd
 rw [zkF hp0] at hp1
 repeat' first|refine zie rfl ?_|refine zc4 rfl ?_|refine zc7 ?_|refine zc8 ?_|refine zc5 ?_|refine zc6 ?_|refine zhF (fun _=>zqO _ _ _ o_fleet (by rw [zkF hp0];exact zkI hn hp1)) ?_|(simp (maxSteps:=2000000) only [go_sem,yqa,yqb,yqc,yqd,yqe,yqf];try rfl)|refine zc3 ?_|(refine And.intro ?_ ?_;focus (intros;simp_all only [yqg,yqh,yqi,and_self,true_and,and_true];done))
 refine zc9 rfl (fun hd=>?_) (fun hd=>?_)
 ·repeat' first|refine zie rfl ?_|refine zc4 rfl ?_|refine zc7 ?_|refine zc8 ?_|refine zc5 ?_|refine zc6 ?_|(simp (maxSteps:=2000000) only [go_sem,yqa,yqb,yqc,yqd,yqe,yqf];try rfl)|refine zc3 ?_|(refine And.intro ?_ ?_;focus (intros;simp_all only [yqg,yqh,yqi,and_self,true_and,and_true];done))
  rw [zkF hp0] at hd
  rw [zkF hp1] at hd
  exact zkK (of_decide_eq_true hd) (by omega)
 have hp2:=zkG hd
 rw [zkF hp0,zkF hp1] at hp2
 repeat' first|refine zie rfl ?_|refine zc4 rfl ?_|refine zc7 ?_|refine zc8 ?_|refine zc5 ?_|refine zc6 ?_|refine zhF (fun _=>zqK _ _ _ o_crew (by rw [zkF hp0,zkF hp1];exact zkI hn hp2)) ?_|(simp (maxSteps:=2000000) only [go_sem,yqa,yqb,yqc,yqd,yqe,yqf];try rfl)|refine zc3 ?_|(refine And.intro ?_ ?_;focus (intros;simp_all only [yqg,yqh,yqi,and_self,true_and,and_true];done))
 refine zc9 rfl (fun hd=>?_) (fun hd=>?_)
 ·repeat' first|refine zie rfl ?_|refine zc4 rfl ?_|refine zc7 ?_|refine zc8 ?_|refine zc5 ?_|refine zc6 ?_|(simp (maxSteps:=2000000) only [go_sem,yqa,yqb,yqc,yqd,yqe,yqf];try rfl)|refine zc3 ?_|(refine And.intro ?_ ?_;focus (intros;simp_all only [yqg,yqh,yqi,and_self,true_and,and_true];done))
  rw [zkF hp0] at hd
  rw [zkF hp1] at hd
  rw [zkF hp2] at hd
  exact zkK (of_decide_eq_true hd) (by omega)
 have hp3:=zkG hd
 rw [zkF hp0,zkF hp1,zkF hp2] at hp3
 repeat' first|refine zie rfl ?_|refine zc4 rfl ?_|refine zc7 ?_|refine zc8 ?_|refine zc5 ?_|refine zc6 ?_|(simp (maxSteps:=2000000) only [go_sem,yqa,yqb,yqc,yqd,yqe,yqf];try rfl)|refine zc3 ?_|(refine And.intro ?_ ?_;focus (intros;simp_all only [yqg,yqh,yqi,and_self,true_and,and_true];done))
 rw [zkF hp0,zkF hp1,zkF hp2]
end Go.Proofs.YtjiggadgmmjnhaaGreat
