/- What functions of the given program compute, each as a contract over what its arguments read as. No condition beside those that each theorem states. -/
import Derived.Test.YtjiggadgmmjnhaaProg
import Derived.Test.YtjiggadgmmjnhaaS2
set_option linter.unusedVariables false
set_option linter.unusedSimpArgs false
namespace Go.Proofs.Ytjiggadgmmjnhaa
open Go Go.SL
@[go_sem] theorem ty_1:hasT Try.prog 1=true∧szT Try.prog 1=1∧Try.prog.bytesOf 1=8∧aggT Try.prog 1=false∧zaX Try.prog 1=none∧arrT Try.prog 1=none∧zbF Try.prog 1=some [.nilFunc]:=⟨by kernel_rfl,by kernel_rfl,by kernel_rfl,by kernel_rfl,by kernel_rfl,by kernel_rfl,by kernel_rfl⟩
@[go_sem] theorem ty_2:hasT Try.prog 2=true∧szT Try.prog 2=1∧Try.prog.bytesOf 2=8∧aggT Try.prog 2=false∧zaX Try.prog 2=none∧arrT Try.prog 2=none∧zbF Try.prog 2=some [.int .i64 0]∧intT Try.prog 2=some .i64:=⟨by kernel_rfl,by kernel_rfl,by kernel_rfl,by kernel_rfl,by kernel_rfl,by kernel_rfl,by kernel_rfl,by kernel_rfl⟩
attribute [go_sem] Try.underlying2
@[go_sem] theorem ty_3:hasT Try.prog 3=true∧szT Try.prog 3=1∧Try.prog.bytesOf 3=8∧aggT Try.prog 3=false∧zaX Try.prog 3=none∧arrT Try.prog 3=none∧zbF Try.prog 3=some [.int .i64 0]∧intT Try.prog 3=some .i64:=⟨by kernel_rfl,by kernel_rfl,by kernel_rfl,by kernel_rfl,by kernel_rfl,by kernel_rfl,by kernel_rfl,by kernel_rfl⟩
attribute [go_sem] Try.underlying3
@[go_sem] theorem ty_4:hasT Try.prog 4=true∧szT Try.prog 4=1∧Try.prog.bytesOf 4=1∧aggT Try.prog 4=false∧zaX Try.prog 4=none∧arrT Try.prog 4=none∧zbF Try.prog 4=some [.bool false]:=⟨by kernel_rfl,by kernel_rfl,by kernel_rfl,by kernel_rfl,by kernel_rfl,by kernel_rfl,by kernel_rfl⟩
attribute [go_sem] Try.underlying4
@[go_sem] theorem ty_5:hasT Try.prog 5=true∧szT Try.prog 5=1∧Try.prog.bytesOf 5=1∧aggT Try.prog 5=false∧zaX Try.prog 5=none∧arrT Try.prog 5=none∧zbF Try.prog 5=some [.int .u8 0]∧intT Try.prog 5=some .u8:=⟨by kernel_rfl,by kernel_rfl,by kernel_rfl,by kernel_rfl,by kernel_rfl,by kernel_rfl,by kernel_rfl,by kernel_rfl⟩
attribute [go_sem] Try.underlying5
@[go_sem] theorem ty_9:hasT Try.prog 9=true∧szT Try.prog 9=1∧Try.prog.bytesOf 9=16∧aggT Try.prog 9=false∧zaX Try.prog 9=none∧arrT Try.prog 9=none∧zbF Try.prog 9=some [.string ByteArray.empty]∧strT Try.prog 9=true:=⟨by kernel_rfl,by kernel_rfl,by kernel_rfl,by kernel_rfl,by kernel_rfl,by kernel_rfl,by kernel_rfl,by kernel_rfl⟩
attribute [go_sem] Try.underlying9
@[go_sem] theorem zmI:hasT Try.prog 22=true∧szT Try.prog 22=1∧Try.prog.bytesOf 22=24∧aggT Try.prog 22=false∧zaX Try.prog 22=some 3∧arrT Try.prog 22=none∧zbF Try.prog 22=some [.slice none 0 0]:=⟨by kernel_rfl,by kernel_rfl,by kernel_rfl,by kernel_rfl,by kernel_rfl,by kernel_rfl,by kernel_rfl⟩
@[go_sem] theorem zmJ:hasT Try.prog 24=true∧szT Try.prog 24=1∧Try.prog.bytesOf 24=8∧aggT Try.prog 24=false∧zaX Try.prog 24=none∧arrT Try.prog 24=none∧zbF Try.prog 24=some [.nilFunc]:=⟨by kernel_rfl,by kernel_rfl,by kernel_rfl,by kernel_rfl,by kernel_rfl,by kernel_rfl,by kernel_rfl⟩
@[go_sem] theorem zmK:hasT Try.prog 28=true∧szT Try.prog 28=1∧Try.prog.bytesOf 28=24∧aggT Try.prog 28=false∧zaX Try.prog 28=some 79∧arrT Try.prog 28=none∧zbF Try.prog 28=some [.slice none 0 0]:=⟨by kernel_rfl,by kernel_rfl,by kernel_rfl,by kernel_rfl,by kernel_rfl,by kernel_rfl,by kernel_rfl⟩
@[go_sem] theorem zmL:hasT Try.prog 32=true∧szT Try.prog 32=1∧Try.prog.bytesOf 32=8∧aggT Try.prog 32=false∧zaX Try.prog 32=none∧arrT Try.prog 32=none∧zbF Try.prog 32=some [.nilFunc]:=⟨by kernel_rfl,by kernel_rfl,by kernel_rfl,by kernel_rfl,by kernel_rfl,by kernel_rfl,by kernel_rfl⟩
@[go_sem] theorem zmM:hasT Try.prog 35=true∧szT Try.prog 35=4∧Try.prog.bytesOf 35=48∧aggT Try.prog 35=true∧zaX Try.prog 35=none∧arrT Try.prog 35=none∧zbF Try.prog 35=some [.int .i64 0,.int .i64 0,.int .i64 0,.slice none 0 0]∧zbE Try.prog 35=true:=⟨by kernel_rfl,by kernel_rfl,by kernel_rfl,by kernel_rfl,by kernel_rfl,by kernel_rfl,by kernel_rfl,by kernel_rfl⟩
@[go_sem] theorem zmN:hasT Try.prog 36=true∧szT Try.prog 36=4∧Try.prog.bytesOf 36=48∧aggT Try.prog 36=true∧zaX Try.prog 36=none∧arrT Try.prog 36=none∧zbF Try.prog 36=some [.int .i64 0,.int .i64 0,.int .i64 0,.slice none 0 0]∧zbE Try.prog 36=true:=⟨by kernel_rfl,by kernel_rfl,by kernel_rfl,by kernel_rfl,by kernel_rfl,by kernel_rfl,by kernel_rfl,by kernel_rfl⟩
@[go_sem] theorem zmO:hasT Try.prog 37=true∧szT Try.prog 37=1∧Try.prog.bytesOf 37=24∧aggT Try.prog 37=false∧zaX Try.prog 37=some 123∧arrT Try.prog 37=none∧zbF Try.prog 37=some [.slice none 0 0]:=⟨by kernel_rfl,by kernel_rfl,by kernel_rfl,by kernel_rfl,by kernel_rfl,by kernel_rfl,by kernel_rfl⟩
@[go_sem] theorem zmP:hasT Try.prog 38=true∧szT Try.prog 38=1∧Try.prog.bytesOf 38=24∧aggT Try.prog 38=false∧zaX Try.prog 38=some 132∧arrT Try.prog 38=none∧zbF Try.prog 38=some [.slice none 0 0]:=⟨by kernel_rfl,by kernel_rfl,by kernel_rfl,by kernel_rfl,by kernel_rfl,by kernel_rfl,by kernel_rfl⟩
@[go_sem] theorem zmQ:hasT Try.prog 39=true∧szT Try.prog 39=2∧Try.prog.bytesOf 39=48∧aggT Try.prog 39=true∧zaX Try.prog 39=none∧arrT Try.prog 39=none∧zbF Try.prog 39=some [.slice none 0 0,.slice none 0 0]∧zbE Try.prog 39=true:=⟨by kernel_rfl,by kernel_rfl,by kernel_rfl,by kernel_rfl,by kernel_rfl,by kernel_rfl,by kernel_rfl,by kernel_rfl⟩
@[go_sem] theorem zmR:hasT Try.prog 40=true∧szT Try.prog 40=2∧Try.prog.bytesOf 40=48∧aggT Try.prog 40=true∧zaX Try.prog 40=none∧arrT Try.prog 40=none∧zbF Try.prog 40=some [.slice none 0 0,.slice none 0 0]∧zbE Try.prog 40=true:=⟨by kernel_rfl,by kernel_rfl,by kernel_rfl,by kernel_rfl,by kernel_rfl,by kernel_rfl,by kernel_rfl,by kernel_rfl⟩
@[go_sem] theorem zmS:hasT Try.prog 41=true∧szT Try.prog 41=1∧Try.prog.bytesOf 41=24∧aggT Try.prog 41=false∧zaX Try.prog 41=some 95∧arrT Try.prog 41=none∧zbF Try.prog 41=some [.slice none 0 0]:=⟨by kernel_rfl,by kernel_rfl,by kernel_rfl,by kernel_rfl,by kernel_rfl,by kernel_rfl,by kernel_rfl⟩
@[go_sem] theorem zmT:hasT Try.prog 42=true∧szT Try.prog 42=1∧Try.prog.bytesOf 42=24∧aggT Try.prog 42=false∧zaX Try.prog 42=some 106∧arrT Try.prog 42=none∧zbF Try.prog 42=some [.slice none 0 0]:=⟨by kernel_rfl,by kernel_rfl,by kernel_rfl,by kernel_rfl,by kernel_rfl,by kernel_rfl,by kernel_rfl⟩
@[go_sem] theorem zmU:hasT Try.prog 48=true∧szT Try.prog 48=4∧Try.prog.bytesOf 48=48∧aggT Try.prog 48=true∧zaX Try.prog 48=none∧arrT Try.prog 48=none∧zbF Try.prog 48=some [.int .i64 0,.int .i64 0,.int .i64 0,.slice none 0 0]∧zbE Try.prog 48=true:=⟨by kernel_rfl,by kernel_rfl,by kernel_rfl,by kernel_rfl,by kernel_rfl,by kernel_rfl,by kernel_rfl,by kernel_rfl⟩
@[go_sem] theorem zmV:hasT Try.prog 50=true∧szT Try.prog 50=1∧Try.prog.bytesOf 50=24∧aggT Try.prog 50=false∧zaX Try.prog 50=some 127∧arrT Try.prog 50=none∧zbF Try.prog 50=some [.slice none 0 0]:=⟨by kernel_rfl,by kernel_rfl,by kernel_rfl,by kernel_rfl,by kernel_rfl,by kernel_rfl,by kernel_rfl⟩
@[go_sem] theorem zmW:hasT Try.prog 51=true∧szT Try.prog 51=1∧Try.prog.bytesOf 51=24∧aggT Try.prog 51=false∧zaX Try.prog 51=some 130∧arrT Try.prog 51=none∧zbF Try.prog 51=some [.slice none 0 0]:=⟨by kernel_rfl,by kernel_rfl,by kernel_rfl,by kernel_rfl,by kernel_rfl,by kernel_rfl,by kernel_rfl⟩
@[go_sem] theorem zmX:hasT Try.prog 52=true∧szT Try.prog 52=2∧Try.prog.bytesOf 52=48∧aggT Try.prog 52=true∧zaX Try.prog 52=none∧arrT Try.prog 52=none∧zbF Try.prog 52=some [.slice none 0 0,.slice none 0 0]∧zbE Try.prog 52=true:=⟨by kernel_rfl,by kernel_rfl,by kernel_rfl,by kernel_rfl,by kernel_rfl,by kernel_rfl,by kernel_rfl,by kernel_rfl⟩
@[go_sem] theorem zmY:hasT Try.prog 53=true∧szT Try.prog 53=2∧Try.prog.bytesOf 53=48∧aggT Try.prog 53=true∧zaX Try.prog 53=none∧arrT Try.prog 53=none∧zbF Try.prog 53=some [.slice none 0 0,.slice none 0 0]∧zbE Try.prog 53=true:=⟨by kernel_rfl,by kernel_rfl,by kernel_rfl,by kernel_rfl,by kernel_rfl,by kernel_rfl,by kernel_rfl,by kernel_rfl⟩
@[go_sem] theorem zmZ:hasT Try.prog 55=true∧szT Try.prog 55=1∧Try.prog.bytesOf 55=24∧aggT Try.prog 55=false∧zaX Try.prog 55=some 101∧arrT Try.prog 55=none∧zbF Try.prog 55=some [.slice none 0 0]:=⟨by kernel_rfl,by kernel_rfl,by kernel_rfl,by kernel_rfl,by kernel_rfl,by kernel_rfl,by kernel_rfl⟩
@[go_sem] theorem zm0:hasT Try.prog 56=true∧szT Try.prog 56=1∧Try.prog.bytesOf 56=8∧aggT Try.prog 56=false∧zaX Try.prog 56=none∧arrT Try.prog 56=none∧zbF Try.prog 56=some [.nilFunc]:=⟨by kernel_rfl,by kernel_rfl,by kernel_rfl,by kernel_rfl,by kernel_rfl,by kernel_rfl,by kernel_rfl⟩
@[go_sem] theorem zm1:hasT Try.prog 57=true∧szT Try.prog 57=1∧Try.prog.bytesOf 57=24∧aggT Try.prog 57=false∧zaX Try.prog 57=some 104∧arrT Try.prog 57=none∧zbF Try.prog 57=some [.slice none 0 0]:=⟨by kernel_rfl,by kernel_rfl,by kernel_rfl,by kernel_rfl,by kernel_rfl,by kernel_rfl,by kernel_rfl⟩
@[go_sem] theorem zxf:hasT Try.prog 64=true∧szT Try.prog 64=1∧Try.prog.bytesOf 64=24∧aggT Try.prog 64=false∧zaX Try.prog 64=some 42∧arrT Try.prog 64=none∧zbF Try.prog 64=some [.slice none 0 0]:=⟨by kernel_rfl,by kernel_rfl,by kernel_rfl,by kernel_rfl,by kernel_rfl,by kernel_rfl,by kernel_rfl⟩
@[go_sem] theorem zxg:hasT Try.prog 67=true∧szT Try.prog 67=1∧Try.prog.bytesOf 67=24∧aggT Try.prog 67=false∧zaX Try.prog 67=some 57∧arrT Try.prog 67=none∧zbF Try.prog 67=some [.slice none 0 0]:=⟨by kernel_rfl,by kernel_rfl,by kernel_rfl,by kernel_rfl,by kernel_rfl,by kernel_rfl,by kernel_rfl⟩
@[go_sem] theorem zm2:hasT Try.prog 74=true∧szT Try.prog 74=1∧Try.prog.bytesOf 74=24∧aggT Try.prog 74=false∧zaX Try.prog 74=some 115∧arrT Try.prog 74=none∧zbF Try.prog 74=some [.slice none 0 0]:=⟨by kernel_rfl,by kernel_rfl,by kernel_rfl,by kernel_rfl,by kernel_rfl,by kernel_rfl,by kernel_rfl⟩
@[go_sem] theorem zm3:hasT Try.prog 78=true∧szT Try.prog 78=4∧Try.prog.bytesOf 78=32∧aggT Try.prog 78=true∧zaX Try.prog 78=none∧arrT Try.prog 78=none∧zbF Try.prog 78=some [.int .i64 0,.int .i64 0,.int .i64 0,.int .i64 0]∧zbE Try.prog 78=true:=⟨by kernel_rfl,by kernel_rfl,by kernel_rfl,by kernel_rfl,by kernel_rfl,by kernel_rfl,by kernel_rfl,by kernel_rfl⟩
@[go_sem] theorem zm4:hasT Try.prog 79=true∧szT Try.prog 79=4∧Try.prog.bytesOf 79=32∧aggT Try.prog 79=true∧zaX Try.prog 79=none∧arrT Try.prog 79=none∧zbF Try.prog 79=some [.int .i64 0,.int .i64 0,.int .i64 0,.int .i64 0]∧zbE Try.prog 79=true:=⟨by kernel_rfl,by kernel_rfl,by kernel_rfl,by kernel_rfl,by kernel_rfl,by kernel_rfl,by kernel_rfl,by kernel_rfl⟩
@[go_sem] theorem zm5:hasT Try.prog 80=true∧szT Try.prog 80=1∧Try.prog.bytesOf 80=8∧aggT Try.prog 80=false∧zaX Try.prog 80=none∧arrT Try.prog 80=none∧zbF Try.prog 80=some [.nilFunc]:=⟨by kernel_rfl,by kernel_rfl,by kernel_rfl,by kernel_rfl,by kernel_rfl,by kernel_rfl,by kernel_rfl⟩
@[go_sem] theorem zm6:hasT Try.prog 83=true∧szT Try.prog 83=1∧Try.prog.bytesOf 83=24∧aggT Try.prog 83=false∧zaX Try.prog 83=some 119∧arrT Try.prog 83=none∧zbF Try.prog 83=some [.slice none 0 0]:=⟨by kernel_rfl,by kernel_rfl,by kernel_rfl,by kernel_rfl,by kernel_rfl,by kernel_rfl,by kernel_rfl⟩
@[go_sem] theorem zm7:hasT Try.prog 85=true∧szT Try.prog 85=1∧Try.prog.bytesOf 85=8∧aggT Try.prog 85=false∧zaX Try.prog 85=none∧arrT Try.prog 85=none∧zbF Try.prog 85=some [.pointer none]:=⟨by kernel_rfl,by kernel_rfl,by kernel_rfl,by kernel_rfl,by kernel_rfl,by kernel_rfl,by kernel_rfl⟩
@[go_sem] theorem zm8:hasT Try.prog 87=true∧szT Try.prog 87=4∧Try.prog.bytesOf 87=80∧aggT Try.prog 87=true∧zaX Try.prog 87=none∧arrT Try.prog 87=none∧zbF Try.prog 87=some [.slice none 0 0,.int .i64 0,.slice none 0 0,.slice none 0 0]∧zbE Try.prog 87=true:=⟨by kernel_rfl,by kernel_rfl,by kernel_rfl,by kernel_rfl,by kernel_rfl,by kernel_rfl,by kernel_rfl,by kernel_rfl⟩
@[go_sem] theorem zm9:hasT Try.prog 88=true∧szT Try.prog 88=4∧Try.prog.bytesOf 88=80∧aggT Try.prog 88=true∧zaX Try.prog 88=none∧arrT Try.prog 88=none∧zbF Try.prog 88=some [.slice none 0 0,.int .i64 0,.slice none 0 0,.slice none 0 0]∧zbE Try.prog 88=true:=⟨by kernel_rfl,by kernel_rfl,by kernel_rfl,by kernel_rfl,by kernel_rfl,by kernel_rfl,by kernel_rfl,by kernel_rfl⟩
@[go_sem] theorem zna:hasT Try.prog 94=true∧szT Try.prog 94=6∧Try.prog.bytesOf 94=56∧aggT Try.prog 94=true∧zaX Try.prog 94=none∧arrT Try.prog 94=none∧zbF Try.prog 94=some [.string ByteArray.empty,.int .i64 0,.int .i64 0,.int .i64 0,.int .i64 0,.bool false]∧zbE Try.prog 94=true:=⟨by kernel_rfl,by kernel_rfl,by kernel_rfl,by kernel_rfl,by kernel_rfl,by kernel_rfl,by kernel_rfl,by kernel_rfl⟩
@[go_sem] theorem znb:hasT Try.prog 95=true∧szT Try.prog 95=6∧Try.prog.bytesOf 95=56∧aggT Try.prog 95=true∧zaX Try.prog 95=none∧arrT Try.prog 95=none∧zbF Try.prog 95=some [.string ByteArray.empty,.int .i64 0,.int .i64 0,.int .i64 0,.int .i64 0,.bool false]∧zbE Try.prog 95=true:=⟨by kernel_rfl,by kernel_rfl,by kernel_rfl,by kernel_rfl,by kernel_rfl,by kernel_rfl,by kernel_rfl,by kernel_rfl⟩
@[go_sem] theorem znc:hasT Try.prog 97=true∧szT Try.prog 97=1∧Try.prog.bytesOf 97=8∧aggT Try.prog 97=false∧zaX Try.prog 97=none∧arrT Try.prog 97=none∧zbF Try.prog 97=some [.nilFunc]:=⟨by kernel_rfl,by kernel_rfl,by kernel_rfl,by kernel_rfl,by kernel_rfl,by kernel_rfl,by kernel_rfl⟩
@[go_sem] theorem znd:hasT Try.prog 101=true∧szT Try.prog 101=6∧Try.prog.bytesOf 101=56∧aggT Try.prog 101=true∧zaX Try.prog 101=none∧arrT Try.prog 101=none∧zbF Try.prog 101=some [.string ByteArray.empty,.int .i64 0,.int .i64 0,.int .i64 0,.int .i64 0,.bool false]∧zbE Try.prog 101=true:=⟨by kernel_rfl,by kernel_rfl,by kernel_rfl,by kernel_rfl,by kernel_rfl,by kernel_rfl,by kernel_rfl,by kernel_rfl⟩
@[go_sem] theorem zne:hasT Try.prog 103=true∧szT Try.prog 103=5∧Try.prog.bytesOf 103=40∧aggT Try.prog 103=true∧zaX Try.prog 103=none∧arrT Try.prog 103=none∧zbF Try.prog 103=some [.int .i64 0,.int .i64 0,.bool false,.int .i64 0,.int .i64 0]∧zbE Try.prog 103=true:=⟨by kernel_rfl,by kernel_rfl,by kernel_rfl,by kernel_rfl,by kernel_rfl,by kernel_rfl,by kernel_rfl,by kernel_rfl⟩
@[go_sem] theorem znf:hasT Try.prog 104=true∧szT Try.prog 104=5∧Try.prog.bytesOf 104=40∧aggT Try.prog 104=true∧zaX Try.prog 104=none∧arrT Try.prog 104=none∧zbF Try.prog 104=some [.int .i64 0,.int .i64 0,.bool false,.int .i64 0,.int .i64 0]∧zbE Try.prog 104=true:=⟨by kernel_rfl,by kernel_rfl,by kernel_rfl,by kernel_rfl,by kernel_rfl,by kernel_rfl,by kernel_rfl,by kernel_rfl⟩
@[go_sem] theorem zng:hasT Try.prog 106=true∧szT Try.prog 106=5∧Try.prog.bytesOf 106=40∧aggT Try.prog 106=true∧zaX Try.prog 106=none∧arrT Try.prog 106=none∧zbF Try.prog 106=some [.int .i64 0,.int .i64 0,.bool false,.int .i64 0,.int .i64 0]∧zbE Try.prog 106=true:=⟨by kernel_rfl,by kernel_rfl,by kernel_rfl,by kernel_rfl,by kernel_rfl,by kernel_rfl,by kernel_rfl,by kernel_rfl⟩
@[go_sem] theorem znh:hasT Try.prog 109=true∧szT Try.prog 109=1∧Try.prog.bytesOf 109=8∧aggT Try.prog 109=false∧zaX Try.prog 109=none∧arrT Try.prog 109=none∧zbF Try.prog 109=some [.nilFunc]:=⟨by kernel_rfl,by kernel_rfl,by kernel_rfl,by kernel_rfl,by kernel_rfl,by kernel_rfl,by kernel_rfl⟩
@[go_sem] theorem zni:hasT Try.prog 110=true∧szT Try.prog 110=1∧Try.prog.bytesOf 110=8∧aggT Try.prog 110=false∧zaX Try.prog 110=none∧arrT Try.prog 110=none∧zbF Try.prog 110=some [.nilFunc]:=⟨by kernel_rfl,by kernel_rfl,by kernel_rfl,by kernel_rfl,by kernel_rfl,by kernel_rfl,by kernel_rfl⟩
@[go_sem] theorem znj:hasT Try.prog 115=true∧szT Try.prog 115=1∧Try.prog.bytesOf 115=24∧aggT Try.prog 115=false∧zaX Try.prog 115=some 4∧arrT Try.prog 115=none∧zbF Try.prog 115=some [.slice none 0 0]:=⟨by kernel_rfl,by kernel_rfl,by kernel_rfl,by kernel_rfl,by kernel_rfl,by kernel_rfl,by kernel_rfl⟩
@[go_sem] theorem znk:hasT Try.prog 119=true∧szT Try.prog 119=1∧Try.prog.bytesOf 119=8∧aggT Try.prog 119=false∧zaX Try.prog 119=none∧arrT Try.prog 119=none∧zbF Try.prog 119=some [.int .u64 0]∧intT Try.prog 119=some .u64:=⟨by kernel_rfl,by kernel_rfl,by kernel_rfl,by kernel_rfl,by kernel_rfl,by kernel_rfl,by kernel_rfl,by kernel_rfl⟩
attribute [go_sem] Try.underlying119
@[go_sem] theorem znl:hasT Try.prog 122=true∧szT Try.prog 122=2∧Try.prog.bytesOf 122=24∧aggT Try.prog 122=true∧zaX Try.prog 122=none∧arrT Try.prog 122=none∧zbF Try.prog 122=some [.string ByteArray.empty,.bool false]∧zbE Try.prog 122=true:=⟨by kernel_rfl,by kernel_rfl,by kernel_rfl,by kernel_rfl,by kernel_rfl,by kernel_rfl,by kernel_rfl,by kernel_rfl⟩
@[go_sem] theorem znm:hasT Try.prog 123=true∧szT Try.prog 123=2∧Try.prog.bytesOf 123=24∧aggT Try.prog 123=true∧zaX Try.prog 123=none∧arrT Try.prog 123=none∧zbF Try.prog 123=some [.string ByteArray.empty,.bool false]∧zbE Try.prog 123=true:=⟨by kernel_rfl,by kernel_rfl,by kernel_rfl,by kernel_rfl,by kernel_rfl,by kernel_rfl,by kernel_rfl,by kernel_rfl⟩
@[go_sem] theorem znn:hasT Try.prog 126=true∧szT Try.prog 126=1∧Try.prog.bytesOf 126=8∧aggT Try.prog 126=false∧zaX Try.prog 126=none∧arrT Try.prog 126=none∧zbF Try.prog 126=some [.nilFunc]:=⟨by kernel_rfl,by kernel_rfl,by kernel_rfl,by kernel_rfl,by kernel_rfl,by kernel_rfl,by kernel_rfl⟩
@[go_sem] theorem zno:hasT Try.prog 127=true∧szT Try.prog 127=2∧Try.prog.bytesOf 127=24∧aggT Try.prog 127=true∧zaX Try.prog 127=none∧arrT Try.prog 127=none∧zbF Try.prog 127=some [.string ByteArray.empty,.bool false]∧zbE Try.prog 127=true:=⟨by kernel_rfl,by kernel_rfl,by kernel_rfl,by kernel_rfl,by kernel_rfl,by kernel_rfl,by kernel_rfl,by kernel_rfl⟩
@[go_sem] theorem znp:hasT Try.prog 129=true∧szT Try.prog 129=5∧Try.prog.bytesOf 129=40∧aggT Try.prog 129=true∧zaX Try.prog 129=none∧arrT Try.prog 129=none∧zbF Try.prog 129=some [.int .i64 0,.int .i64 0,.int .i64 0,.int .i64 0,.bool false]∧zbE Try.prog 129=true:=⟨by kernel_rfl,by kernel_rfl,by kernel_rfl,by kernel_rfl,by kernel_rfl,by kernel_rfl,by kernel_rfl,by kernel_rfl⟩
@[go_sem] theorem znq:hasT Try.prog 130=true∧szT Try.prog 130=5∧Try.prog.bytesOf 130=40∧aggT Try.prog 130=true∧zaX Try.prog 130=none∧arrT Try.prog 130=none∧zbF Try.prog 130=some [.int .i64 0,.int .i64 0,.int .i64 0,.int .i64 0,.bool false]∧zbE Try.prog 130=true:=⟨by kernel_rfl,by kernel_rfl,by kernel_rfl,by kernel_rfl,by kernel_rfl,by kernel_rfl,by kernel_rfl,by kernel_rfl⟩
@[go_sem] theorem znr:hasT Try.prog 132=true∧szT Try.prog 132=5∧Try.prog.bytesOf 132=40∧aggT Try.prog 132=true∧zaX Try.prog 132=none∧arrT Try.prog 132=none∧zbF Try.prog 132=some [.int .i64 0,.int .i64 0,.int .i64 0,.int .i64 0,.bool false]∧zbE Try.prog 132=true:=⟨by kernel_rfl,by kernel_rfl,by kernel_rfl,by kernel_rfl,by kernel_rfl,by kernel_rfl,by kernel_rfl,by kernel_rfl⟩
@[go_sem] theorem zns:hasT Try.prog 139=true∧szT Try.prog 139=1∧Try.prog.bytesOf 139=8∧aggT Try.prog 139=false∧zaX Try.prog 139=none∧arrT Try.prog 139=none∧zbF Try.prog 139=some [.nilFunc]:=⟨by kernel_rfl,by kernel_rfl,by kernel_rfl,by kernel_rfl,by kernel_rfl,by kernel_rfl,by kernel_rfl⟩
@[go_sem] theorem znt:hasT Try.prog 141=true∧szT Try.prog 141=1∧Try.prog.bytesOf 141=4∧aggT Try.prog 141=false∧zaX Try.prog 141=none∧arrT Try.prog 141=none∧zbF Try.prog 141=some [.int .u32 0]∧intT Try.prog 141=some .u32:=⟨by kernel_rfl,by kernel_rfl,by kernel_rfl,by kernel_rfl,by kernel_rfl,by kernel_rfl,by kernel_rfl,by kernel_rfl⟩
attribute [go_sem] Try.underlying141
@[go_sem] theorem znu:hasT Try.prog 143=true∧szT Try.prog 143=1∧Try.prog.bytesOf 143=8∧aggT Try.prog 143=false∧zaX Try.prog 143=none∧arrT Try.prog 143=none∧zbF Try.prog 143=some [.int .u64 0]∧intT Try.prog 143=some .u64:=⟨by kernel_rfl,by kernel_rfl,by kernel_rfl,by kernel_rfl,by kernel_rfl,by kernel_rfl,by kernel_rfl,by kernel_rfl⟩
attribute [go_sem] Try.underlying143
@[go_sem] theorem znv:hasT Try.prog 147=true∧szT Try.prog 147=1∧Try.prog.bytesOf 147=8∧aggT Try.prog 147=false∧zaX Try.prog 147=none∧arrT Try.prog 147=none∧zbF Try.prog 147=some [.nilFunc]:=⟨by kernel_rfl,by kernel_rfl,by kernel_rfl,by kernel_rfl,by kernel_rfl,by kernel_rfl,by kernel_rfl⟩
@[go_sem] theorem znw:hasT Try.prog 154=true∧szT Try.prog 154=1∧Try.prog.bytesOf 154=8∧aggT Try.prog 154=false∧zaX Try.prog 154=none∧arrT Try.prog 154=none∧zbF Try.prog 154=some [.nilFunc]:=⟨by kernel_rfl,by kernel_rfl,by kernel_rfl,by kernel_rfl,by kernel_rfl,by kernel_rfl,by kernel_rfl⟩
@[go_sem] theorem znx:hasT Try.prog 155=true∧szT Try.prog 155=1∧Try.prog.bytesOf 155=8∧aggT Try.prog 155=false∧zaX Try.prog 155=none∧arrT Try.prog 155=none∧zbF Try.prog 155=some [.nilFunc]:=⟨by kernel_rfl,by kernel_rfl,by kernel_rfl,by kernel_rfl,by kernel_rfl,by kernel_rfl,by kernel_rfl⟩
@[go_sem] theorem zny:hasT Try.prog 161=true∧szT Try.prog 161=1∧Try.prog.bytesOf 161=8∧aggT Try.prog 161=false∧zaX Try.prog 161=none∧arrT Try.prog 161=none∧zbF Try.prog 161=some [.nilFunc]:=⟨by kernel_rfl,by kernel_rfl,by kernel_rfl,by kernel_rfl,by kernel_rfl,by kernel_rfl,by kernel_rfl⟩
@[go_sem] theorem znz:hasT Try.prog 170=true∧szT Try.prog 170=1∧Try.prog.bytesOf 170=8∧aggT Try.prog 170=false∧zaX Try.prog 170=none∧arrT Try.prog 170=none∧zbF Try.prog 170=some [.nilFunc]:=⟨by kernel_rfl,by kernel_rfl,by kernel_rfl,by kernel_rfl,by kernel_rfl,by kernel_rfl,by kernel_rfl⟩
@[go_sem] theorem znA:hasT Try.prog 171=true∧szT Try.prog 171=1∧Try.prog.bytesOf 171=8∧aggT Try.prog 171=false∧zaX Try.prog 171=none∧arrT Try.prog 171=none∧zbF Try.prog 171=some [.nilFunc]:=⟨by kernel_rfl,by kernel_rfl,by kernel_rfl,by kernel_rfl,by kernel_rfl,by kernel_rfl,by kernel_rfl⟩
@[go_sem] theorem znB:zaW Try.prog 13 0=some (0,9):=by kernel_rfl
@[go_sem] theorem znC:zbD Try.prog 13 0=some (0,1):=by kernel_rfl
@[go_sem] theorem znD:zaW Try.prog 13 1=some (1,12):=by kernel_rfl
@[go_sem] theorem znE:zbD Try.prog 13 1=some (1,1):=by kernel_rfl
attribute [go_sem] Try.underlying13 Try.stoodInHeld13 Try.eqGuardType13
@[go_sem] theorem znF:zaW Try.prog 35 0=some (0,3):=by kernel_rfl
@[go_sem] theorem znG:zbD Try.prog 35 0=some (0,1):=by kernel_rfl
@[go_sem] theorem znH:zaW Try.prog 35 1=some (1,3):=by kernel_rfl
@[go_sem] theorem znI:zbD Try.prog 35 1=some (1,1):=by kernel_rfl
@[go_sem] theorem znJ:zaW Try.prog 35 2=some (2,3):=by kernel_rfl
@[go_sem] theorem znK:zbD Try.prog 35 2=some (2,1):=by kernel_rfl
@[go_sem] theorem znL:zaW Try.prog 35 3=some (3,22):=by kernel_rfl
@[go_sem] theorem znM:zbD Try.prog 35 3=some (3,1):=by kernel_rfl
attribute [go_sem] Try.underlying35 Try.stoodInHeld35 Try.eqGuardType35
@[go_sem] theorem znN:zaW Try.prog 36 0=some (0,3):=by kernel_rfl
@[go_sem] theorem znO:zbD Try.prog 36 0=some (0,1):=by kernel_rfl
@[go_sem] theorem znP:zaW Try.prog 36 1=some (1,3):=by kernel_rfl
@[go_sem] theorem znQ:zbD Try.prog 36 1=some (1,1):=by kernel_rfl
@[go_sem] theorem znR:zaW Try.prog 36 2=some (2,3):=by kernel_rfl
@[go_sem] theorem znS:zbD Try.prog 36 2=some (2,1):=by kernel_rfl
@[go_sem] theorem znT:zaW Try.prog 36 3=some (3,22):=by kernel_rfl
@[go_sem] theorem znU:zbD Try.prog 36 3=some (3,1):=by kernel_rfl
attribute [go_sem] Try.underlying36 Try.stoodInHeld36 Try.eqGuardType36
@[go_sem] theorem znV:zaW Try.prog 39 0=some (0,37):=by kernel_rfl
@[go_sem] theorem znW:zbD Try.prog 39 0=some (0,1):=by kernel_rfl
@[go_sem] theorem znX:zaW Try.prog 39 1=some (1,38):=by kernel_rfl
@[go_sem] theorem znY:zbD Try.prog 39 1=some (1,1):=by kernel_rfl
attribute [go_sem] Try.underlying39 Try.stoodInHeld39 Try.eqGuardType39
@[go_sem] theorem znZ:zaW Try.prog 40 0=some (0,37):=by kernel_rfl
@[go_sem] theorem zn0:zbD Try.prog 40 0=some (0,1):=by kernel_rfl
@[go_sem] theorem zn1:zaW Try.prog 40 1=some (1,38):=by kernel_rfl
@[go_sem] theorem zn2:zbD Try.prog 40 1=some (1,1):=by kernel_rfl
attribute [go_sem] Try.underlying40 Try.stoodInHeld40 Try.eqGuardType40
@[go_sem] theorem zn3:zaW Try.prog 48 0=some (0,3):=by kernel_rfl
@[go_sem] theorem zn4:zbD Try.prog 48 0=some (0,1):=by kernel_rfl
@[go_sem] theorem zn5:zaW Try.prog 48 1=some (1,3):=by kernel_rfl
@[go_sem] theorem zn6:zbD Try.prog 48 1=some (1,1):=by kernel_rfl
@[go_sem] theorem zn7:zaW Try.prog 48 2=some (2,3):=by kernel_rfl
@[go_sem] theorem zn8:zbD Try.prog 48 2=some (2,1):=by kernel_rfl
@[go_sem] theorem zn9:zaW Try.prog 48 3=some (3,22):=by kernel_rfl
@[go_sem] theorem zoa:zbD Try.prog 48 3=some (3,1):=by kernel_rfl
attribute [go_sem] Try.underlying48 Try.stoodInHeld48 Try.eqGuardType48
@[go_sem] theorem zob:zaW Try.prog 52 0=some (0,50):=by kernel_rfl
@[go_sem] theorem zoc:zbD Try.prog 52 0=some (0,1):=by kernel_rfl
@[go_sem] theorem zod:zaW Try.prog 52 1=some (1,51):=by kernel_rfl
@[go_sem] theorem zoe:zbD Try.prog 52 1=some (1,1):=by kernel_rfl
attribute [go_sem] Try.underlying52 Try.stoodInHeld52 Try.eqGuardType52
@[go_sem] theorem zof:zaW Try.prog 53 0=some (0,50):=by kernel_rfl
@[go_sem] theorem zog:zbD Try.prog 53 0=some (0,1):=by kernel_rfl
@[go_sem] theorem zoh:zaW Try.prog 53 1=some (1,51):=by kernel_rfl
@[go_sem] theorem zoi:zbD Try.prog 53 1=some (1,1):=by kernel_rfl
attribute [go_sem] Try.underlying53 Try.stoodInHeld53 Try.eqGuardType53
@[go_sem] theorem zoj:zaW Try.prog 78 0=some (0,3):=by kernel_rfl
@[go_sem] theorem zok:zbD Try.prog 78 0=some (0,1):=by kernel_rfl
@[go_sem] theorem zol:zaW Try.prog 78 1=some (1,3):=by kernel_rfl
@[go_sem] theorem zom:zbD Try.prog 78 1=some (1,1):=by kernel_rfl
@[go_sem] theorem zon:zaW Try.prog 78 2=some (2,3):=by kernel_rfl
@[go_sem] theorem zoo:zbD Try.prog 78 2=some (2,1):=by kernel_rfl
@[go_sem] theorem zop:zaW Try.prog 78 3=some (3,3):=by kernel_rfl
@[go_sem] theorem zoq:zbD Try.prog 78 3=some (3,1):=by kernel_rfl
attribute [go_sem] Try.underlying78 Try.stoodInHeld78 Try.eqGuardType78
@[go_sem] theorem zor:zaW Try.prog 79 0=some (0,3):=by kernel_rfl
@[go_sem] theorem zos:zbD Try.prog 79 0=some (0,1):=by kernel_rfl
@[go_sem] theorem zot:zaW Try.prog 79 1=some (1,3):=by kernel_rfl
@[go_sem] theorem zou:zbD Try.prog 79 1=some (1,1):=by kernel_rfl
@[go_sem] theorem zov:zaW Try.prog 79 2=some (2,3):=by kernel_rfl
@[go_sem] theorem zow:zbD Try.prog 79 2=some (2,1):=by kernel_rfl
@[go_sem] theorem zox:zaW Try.prog 79 3=some (3,3):=by kernel_rfl
@[go_sem] theorem zoy:zbD Try.prog 79 3=some (3,1):=by kernel_rfl
attribute [go_sem] Try.underlying79 Try.stoodInHeld79 Try.eqGuardType79
@[go_sem] theorem zoz:zaW Try.prog 81 0=some (0,3):=by kernel_rfl
@[go_sem] theorem zoA:zbD Try.prog 81 0=some (0,1):=by kernel_rfl
@[go_sem] theorem zoB:zaW Try.prog 81 1=some (1,3):=by kernel_rfl
@[go_sem] theorem zoC:zbD Try.prog 81 1=some (1,1):=by kernel_rfl
@[go_sem] theorem zoD:zaW Try.prog 81 2=some (2,3):=by kernel_rfl
@[go_sem] theorem zoE:zbD Try.prog 81 2=some (2,1):=by kernel_rfl
@[go_sem] theorem zoF:zaW Try.prog 81 3=some (3,3):=by kernel_rfl
@[go_sem] theorem zoG:zbD Try.prog 81 3=some (3,1):=by kernel_rfl
attribute [go_sem] Try.underlying81 Try.stoodInHeld81 Try.eqGuardType81
@[go_sem] theorem zoH:zaW Try.prog 87 0=some (0,83):=by kernel_rfl
@[go_sem] theorem zoI:zbD Try.prog 87 0=some (0,1):=by kernel_rfl
@[go_sem] theorem zoJ:zaW Try.prog 87 1=some (1,3):=by kernel_rfl
@[go_sem] theorem zoK:zbD Try.prog 87 1=some (1,1):=by kernel_rfl
@[go_sem] theorem zoL:zaW Try.prog 87 2=some (2,83):=by kernel_rfl
@[go_sem] theorem zoM:zbD Try.prog 87 2=some (2,1):=by kernel_rfl
@[go_sem] theorem zoN:zaW Try.prog 87 3=some (3,22):=by kernel_rfl
@[go_sem] theorem zoO:zbD Try.prog 87 3=some (3,1):=by kernel_rfl
attribute [go_sem] Try.underlying87 Try.stoodInHeld87 Try.eqGuardType87
@[go_sem] theorem zoP:zaW Try.prog 88 0=some (0,83):=by kernel_rfl
@[go_sem] theorem zoQ:zbD Try.prog 88 0=some (0,1):=by kernel_rfl
@[go_sem] theorem zoR:zaW Try.prog 88 1=some (1,3):=by kernel_rfl
@[go_sem] theorem zoS:zbD Try.prog 88 1=some (1,1):=by kernel_rfl
@[go_sem] theorem zoT:zaW Try.prog 88 2=some (2,83):=by kernel_rfl
@[go_sem] theorem zoU:zbD Try.prog 88 2=some (2,1):=by kernel_rfl
@[go_sem] theorem zoV:zaW Try.prog 88 3=some (3,22):=by kernel_rfl
@[go_sem] theorem zoW:zbD Try.prog 88 3=some (3,1):=by kernel_rfl
attribute [go_sem] Try.underlying88 Try.stoodInHeld88 Try.eqGuardType88
@[go_sem] theorem zoX:zaW Try.prog 94 0=some (0,9):=by kernel_rfl
@[go_sem] theorem zoY:zbD Try.prog 94 0=some (0,1):=by kernel_rfl
@[go_sem] theorem zoZ:zaW Try.prog 94 1=some (1,3):=by kernel_rfl
@[go_sem] theorem zo0:zbD Try.prog 94 1=some (1,1):=by kernel_rfl
@[go_sem] theorem zo1:zaW Try.prog 94 2=some (2,3):=by kernel_rfl
@[go_sem] theorem zo2:zbD Try.prog 94 2=some (2,1):=by kernel_rfl
@[go_sem] theorem zo3:zaW Try.prog 94 3=some (3,3):=by kernel_rfl
@[go_sem] theorem zo4:zbD Try.prog 94 3=some (3,1):=by kernel_rfl
@[go_sem] theorem zo5:zaW Try.prog 94 4=some (4,3):=by kernel_rfl
@[go_sem] theorem zo6:zbD Try.prog 94 4=some (4,1):=by kernel_rfl
@[go_sem] theorem zo7:zaW Try.prog 94 5=some (5,4):=by kernel_rfl
@[go_sem] theorem zo8:zbD Try.prog 94 5=some (5,1):=by kernel_rfl
attribute [go_sem] Try.underlying94 Try.stoodInHeld94 Try.eqGuardType94
@[go_sem] theorem zo9:zaW Try.prog 95 0=some (0,9):=by kernel_rfl
@[go_sem] theorem zpa:zbD Try.prog 95 0=some (0,1):=by kernel_rfl
@[go_sem] theorem zpb:zaW Try.prog 95 1=some (1,3):=by kernel_rfl
@[go_sem] theorem zpc:zbD Try.prog 95 1=some (1,1):=by kernel_rfl
@[go_sem] theorem zpd:zaW Try.prog 95 2=some (2,3):=by kernel_rfl
@[go_sem] theorem zpe:zbD Try.prog 95 2=some (2,1):=by kernel_rfl
@[go_sem] theorem zpf:zaW Try.prog 95 3=some (3,3):=by kernel_rfl
@[go_sem] theorem zpg:zbD Try.prog 95 3=some (3,1):=by kernel_rfl
@[go_sem] theorem zph:zaW Try.prog 95 4=some (4,3):=by kernel_rfl
@[go_sem] theorem zpi:zbD Try.prog 95 4=some (4,1):=by kernel_rfl
@[go_sem] theorem zpj:zaW Try.prog 95 5=some (5,4):=by kernel_rfl
@[go_sem] theorem zpk:zbD Try.prog 95 5=some (5,1):=by kernel_rfl
attribute [go_sem] Try.underlying95 Try.stoodInHeld95 Try.eqGuardType95
@[go_sem] theorem zpl:zaW Try.prog 101 0=some (0,9):=by kernel_rfl
@[go_sem] theorem zpm:zbD Try.prog 101 0=some (0,1):=by kernel_rfl
@[go_sem] theorem zpn:zaW Try.prog 101 1=some (1,3):=by kernel_rfl
@[go_sem] theorem zpo:zbD Try.prog 101 1=some (1,1):=by kernel_rfl
@[go_sem] theorem zpp:zaW Try.prog 101 2=some (2,3):=by kernel_rfl
@[go_sem] theorem zpq:zbD Try.prog 101 2=some (2,1):=by kernel_rfl
@[go_sem] theorem zpr:zaW Try.prog 101 3=some (3,3):=by kernel_rfl
@[go_sem] theorem zps:zbD Try.prog 101 3=some (3,1):=by kernel_rfl
@[go_sem] theorem zpt:zaW Try.prog 101 4=some (4,3):=by kernel_rfl
@[go_sem] theorem zpu:zbD Try.prog 101 4=some (4,1):=by kernel_rfl
@[go_sem] theorem zpv:zaW Try.prog 101 5=some (5,4):=by kernel_rfl
@[go_sem] theorem zpw:zbD Try.prog 101 5=some (5,1):=by kernel_rfl
attribute [go_sem] Try.underlying101 Try.stoodInHeld101 Try.eqGuardType101
@[go_sem] theorem zpx:zaW Try.prog 103 0=some (0,3):=by kernel_rfl
@[go_sem] theorem zpy:zbD Try.prog 103 0=some (0,1):=by kernel_rfl
@[go_sem] theorem zpz:zaW Try.prog 103 1=some (1,3):=by kernel_rfl
@[go_sem] theorem zpA:zbD Try.prog 103 1=some (1,1):=by kernel_rfl
@[go_sem] theorem zpB:zaW Try.prog 103 2=some (2,4):=by kernel_rfl
@[go_sem] theorem zpC:zbD Try.prog 103 2=some (2,1):=by kernel_rfl
@[go_sem] theorem zpD:zaW Try.prog 103 3=some (3,3):=by kernel_rfl
@[go_sem] theorem zpE:zbD Try.prog 103 3=some (3,1):=by kernel_rfl
@[go_sem] theorem zpF:zaW Try.prog 103 4=some (4,3):=by kernel_rfl
@[go_sem] theorem zpG:zbD Try.prog 103 4=some (4,1):=by kernel_rfl
attribute [go_sem] Try.underlying103 Try.stoodInHeld103 Try.eqGuardType103
@[go_sem] theorem zpH:zaW Try.prog 104 0=some (0,3):=by kernel_rfl
@[go_sem] theorem zpI:zbD Try.prog 104 0=some (0,1):=by kernel_rfl
@[go_sem] theorem zpJ:zaW Try.prog 104 1=some (1,3):=by kernel_rfl
@[go_sem] theorem zpK:zbD Try.prog 104 1=some (1,1):=by kernel_rfl
@[go_sem] theorem zpL:zaW Try.prog 104 2=some (2,4):=by kernel_rfl
@[go_sem] theorem zpM:zbD Try.prog 104 2=some (2,1):=by kernel_rfl
@[go_sem] theorem zpN:zaW Try.prog 104 3=some (3,3):=by kernel_rfl
@[go_sem] theorem zpO:zbD Try.prog 104 3=some (3,1):=by kernel_rfl
@[go_sem] theorem zpP:zaW Try.prog 104 4=some (4,3):=by kernel_rfl
@[go_sem] theorem zpQ:zbD Try.prog 104 4=some (4,1):=by kernel_rfl
attribute [go_sem] Try.underlying104 Try.stoodInHeld104 Try.eqGuardType104
@[go_sem] theorem zpR:zaW Try.prog 106 0=some (0,3):=by kernel_rfl
@[go_sem] theorem zpS:zbD Try.prog 106 0=some (0,1):=by kernel_rfl
@[go_sem] theorem zpT:zaW Try.prog 106 1=some (1,3):=by kernel_rfl
@[go_sem] theorem zpU:zbD Try.prog 106 1=some (1,1):=by kernel_rfl
@[go_sem] theorem zpV:zaW Try.prog 106 2=some (2,4):=by kernel_rfl
@[go_sem] theorem zpW:zbD Try.prog 106 2=some (2,1):=by kernel_rfl
@[go_sem] theorem zpX:zaW Try.prog 106 3=some (3,3):=by kernel_rfl
@[go_sem] theorem zpY:zbD Try.prog 106 3=some (3,1):=by kernel_rfl
@[go_sem] theorem zpZ:zaW Try.prog 106 4=some (4,3):=by kernel_rfl
@[go_sem] theorem zp0:zbD Try.prog 106 4=some (4,1):=by kernel_rfl
attribute [go_sem] Try.underlying106 Try.stoodInHeld106 Try.eqGuardType106
@[go_sem] theorem zp1:zaW Try.prog 122 0=some (0,9):=by kernel_rfl
@[go_sem] theorem zp2:zbD Try.prog 122 0=some (0,1):=by kernel_rfl
@[go_sem] theorem zp3:zaW Try.prog 122 1=some (1,4):=by kernel_rfl
@[go_sem] theorem zp4:zbD Try.prog 122 1=some (1,1):=by kernel_rfl
attribute [go_sem] Try.underlying122 Try.stoodInHeld122 Try.eqGuardType122
@[go_sem] theorem zp5:zaW Try.prog 123 0=some (0,9):=by kernel_rfl
@[go_sem] theorem zp6:zbD Try.prog 123 0=some (0,1):=by kernel_rfl
@[go_sem] theorem zp7:zaW Try.prog 123 1=some (1,4):=by kernel_rfl
@[go_sem] theorem zp8:zbD Try.prog 123 1=some (1,1):=by kernel_rfl
attribute [go_sem] Try.underlying123 Try.stoodInHeld123 Try.eqGuardType123
@[go_sem] theorem zp9:zaW Try.prog 127 0=some (0,9):=by kernel_rfl
@[go_sem] theorem zqa:zbD Try.prog 127 0=some (0,1):=by kernel_rfl
@[go_sem] theorem zqb:zaW Try.prog 127 1=some (1,4):=by kernel_rfl
@[go_sem] theorem zqc:zbD Try.prog 127 1=some (1,1):=by kernel_rfl
attribute [go_sem] Try.underlying127 Try.stoodInHeld127 Try.eqGuardType127
@[go_sem] theorem zqd:zaW Try.prog 129 0=some (0,3):=by kernel_rfl
@[go_sem] theorem zqe:zbD Try.prog 129 0=some (0,1):=by kernel_rfl
@[go_sem] theorem zqf:zaW Try.prog 129 1=some (1,3):=by kernel_rfl
@[go_sem] theorem zqg:zbD Try.prog 129 1=some (1,1):=by kernel_rfl
@[go_sem] theorem zqh:zaW Try.prog 129 2=some (2,3):=by kernel_rfl
@[go_sem] theorem zqi:zbD Try.prog 129 2=some (2,1):=by kernel_rfl
@[go_sem] theorem zqj:zaW Try.prog 129 3=some (3,3):=by kernel_rfl
@[go_sem] theorem zqk:zbD Try.prog 129 3=some (3,1):=by kernel_rfl
@[go_sem] theorem zql:zaW Try.prog 129 4=some (4,4):=by kernel_rfl
@[go_sem] theorem zqm:zbD Try.prog 129 4=some (4,1):=by kernel_rfl
attribute [go_sem] Try.underlying129 Try.stoodInHeld129 Try.eqGuardType129
@[go_sem] theorem zqn:zaW Try.prog 130 0=some (0,3):=by kernel_rfl
@[go_sem] theorem zqo:zbD Try.prog 130 0=some (0,1):=by kernel_rfl
@[go_sem] theorem zqp:zaW Try.prog 130 1=some (1,3):=by kernel_rfl
@[go_sem] theorem zqq:zbD Try.prog 130 1=some (1,1):=by kernel_rfl
@[go_sem] theorem zqr:zaW Try.prog 130 2=some (2,3):=by kernel_rfl
@[go_sem] theorem zqs:zbD Try.prog 130 2=some (2,1):=by kernel_rfl
@[go_sem] theorem zqt:zaW Try.prog 130 3=some (3,3):=by kernel_rfl
@[go_sem] theorem zqu:zbD Try.prog 130 3=some (3,1):=by kernel_rfl
@[go_sem] theorem zqv:zaW Try.prog 130 4=some (4,4):=by kernel_rfl
@[go_sem] theorem zqw:zbD Try.prog 130 4=some (4,1):=by kernel_rfl
attribute [go_sem] Try.underlying130 Try.stoodInHeld130 Try.eqGuardType130
@[go_sem] theorem zqx:zaW Try.prog 132 0=some (0,3):=by kernel_rfl
@[go_sem] theorem zqy:zbD Try.prog 132 0=some (0,1):=by kernel_rfl
@[go_sem] theorem zqz:zaW Try.prog 132 1=some (1,3):=by kernel_rfl
@[go_sem] theorem zqA:zbD Try.prog 132 1=some (1,1):=by kernel_rfl
@[go_sem] theorem zqB:zaW Try.prog 132 2=some (2,3):=by kernel_rfl
@[go_sem] theorem zqC:zbD Try.prog 132 2=some (2,1):=by kernel_rfl
@[go_sem] theorem zqD:zaW Try.prog 132 3=some (3,3):=by kernel_rfl
@[go_sem] theorem zqE:zbD Try.prog 132 3=some (3,1):=by kernel_rfl
@[go_sem] theorem zqF:zaW Try.prog 132 4=some (4,4):=by kernel_rfl
@[go_sem] theorem zqG:zbD Try.prog 132 4=some (4,1):=by kernel_rfl
attribute [go_sem] Try.underlying132 Try.stoodInHeld132 Try.eqGuardType132
end Go.Proofs.Ytjiggadgmmjnhaa
namespace Go.Proofs.Ytjiggadgmmjnhaa
open Go Go.SL
set_option maxHeartbeats 1000000
theorem zqH (a:Sl Int) (n:Int) (h:Hp) (ha:a.Ok h) (hn:0≤n∧n≤1048576):Ct Try.prog 48 [a.val,.int .i64 n] h fun v h'=>v=.int .i64 (zkE n (Blk.blk a))∧h'=h:=by
  have hl:=ha.max
  rw [zkD (fun _=>rfl) a]
  refine zdn (fun A W=>by simp) Try.func48 rfl rfl (by simp) fun W0=>?_
  repeat' first|refine zie rfl ?_|refine zc4 rfl ?_|refine zc7 ?_|refine zc8 ?_|refine zc5 ?_|refine zc6 ?_|(simp (maxSteps:=2000000) only [go_sem,Nat.reduceAdd,Nat.reduceMul,Nat.reduceBEq,Nat.reduceLeDiff,Nat.reduceLT,Nat.reduceEqDiff];try rfl)|refine zc3 ?_|(refine And.intro ?_ ?_;focus (intros;simp_all only [Bool.or_eq_false_iff,Bool.or_eq_true,Bool.and_eq_true,and_self,true_and,and_true];done))
  refine zc9 rfl (fun hc=>?_) (fun hc=>?_)
  · repeat' first|refine zie rfl ?_|refine zc4 rfl ?_|refine zc7 ?_|refine zc8 ?_|refine zc5 ?_|refine zc6 ?_|(simp (maxSteps:=2000000) only [go_sem,Nat.reduceAdd,Nat.reduceMul,Nat.reduceBEq,Nat.reduceLeDiff,Nat.reduceLT,Nat.reduceEqDiff];try rfl)|refine zc3 ?_|(refine And.intro ?_ ?_;focus (intros;simp_all only [Bool.or_eq_false_iff,Bool.or_eq_true,Bool.and_eq_true,and_self,true_and,and_true];done))
    rw [zkL hn hl] at hc
    exact zkK (zkM hc) (Nat.le_refl _)
  · repeat' first|refine zie rfl ?_|refine zc4 rfl ?_|refine zc7 ?_|refine zc8 ?_|refine zc5 ?_|refine zc6 ?_|(simp (maxSteps:=2000000) only [go_sem,Nat.reduceAdd,Nat.reduceMul,Nat.reduceBEq,Nat.reduceLeDiff,Nat.reduceLT,Nat.reduceEqDiff];try rfl)|refine zc3 ?_|(refine And.intro ?_ ?_;focus (intros;simp_all only [Bool.or_eq_false_iff,Bool.or_eq_true,Bool.and_eq_true,and_self,true_and,and_true];done))
    rw [zkL hn hl] at hc ⊢
    rw [(zkN hc).1]
theorem zqI (c:DPoint) (n:Int) (h:Hp) (hc:Enc.ok h c) (hn:0≤n∧n≤1048576):Ct Try.prog 75 [.agg #[.string c.name,.bool c.wait],.int .i64 n] h fun v h'=>v=.int .i64 (zkE n (Blk.blk c))∧h'=h:=by
  rw [zla]
  have o_name:=hc
  refine zdn (fun A W=>by simp) Try.func75 rfl rfl (by simp) fun W0=>?_
  repeat' first|refine zie rfl ?_|refine zc4 rfl ?_|refine zc7 ?_|refine zc8 ?_|refine zc5 ?_|refine zc6 ?_|(simp (maxSteps:=2000000) only [go_sem,Nat.reduceAdd,Nat.reduceMul,Nat.reduceBEq,Nat.reduceLeDiff,Nat.reduceLT,Nat.reduceEqDiff];try rfl)|refine zc3 ?_|(refine And.intro ?_ ?_;focus (intros;simp_all only [Bool.or_eq_false_iff,Bool.or_eq_true,Bool.and_eq_true,and_self,true_and,and_true];done))
  have hl0:c.name.size≤9223372036854775807:=o_name
  refine zc9 rfl (fun hd=>?_) (fun hd=>?_)
  · repeat' first|refine zie rfl ?_|refine zc4 rfl ?_|refine zc7 ?_|refine zc8 ?_|refine zc5 ?_|refine zc6 ?_|(simp (maxSteps:=2000000) only [go_sem,Nat.reduceAdd,Nat.reduceMul,Nat.reduceBEq,Nat.reduceLeDiff,Nat.reduceLT,Nat.reduceEqDiff];try rfl)|refine zc3 ?_|(refine And.intro ?_ ?_;focus (intros;simp_all only [Bool.or_eq_false_iff,Bool.or_eq_true,Bool.and_eq_true,and_self,true_and,and_true];done))
    rw [zkL hn hl0] at hd
    exact zkK (zkM hd) (by first|exact Nat.le_refl _|omega)
  rw [zkL hn hl0] at hd
  have hp0:=zkN hd
  repeat' first|refine zie rfl ?_|refine zc4 rfl ?_|refine zc7 ?_|refine zc8 ?_|refine zc5 ?_|refine zc6 ?_|(simp (maxSteps:=2000000) only [go_sem,Nat.reduceAdd,Nat.reduceMul,Nat.reduceBEq,Nat.reduceLeDiff,Nat.reduceLT,Nat.reduceEqDiff];try rfl)|refine zc3 ?_|(refine And.intro ?_ ?_;focus (intros;simp_all only [Bool.or_eq_false_iff,Bool.or_eq_true,Bool.and_eq_true,and_self,true_and,and_true];done))
  rw [zkL hn hl0,hp0.1];rfl
theorem zqJ (c:DShip) (n:Int) (h:Hp) (hc:Enc.ok h c) (hn:0≤n∧n≤1048576):Ct Try.prog 51 [.agg #[.string c.name,.int .i64 c.length,.int .i64 c.draught,.int .i64 c.line,.int .i64 c.tugs,.bool c.slow],.int .i64 n] h fun v h'=>v=.int .i64 (zkE n (Blk.blk c))∧h'=h:=by
  rw [zli]
  have hc':=hc
  obtain ⟨o_name,o_length,o_draught,o_line,o_tugs⟩:=hc'
  refine zdn (fun A W=>by simp) Try.func51 rfl rfl (by simp) fun W0=>?_
  repeat' first|refine zie rfl ?_|refine zc4 rfl ?_|refine zc7 ?_|refine zc8 ?_|refine zc5 ?_|refine zc6 ?_|(simp (maxSteps:=2000000) only [go_sem,Nat.reduceAdd,Nat.reduceMul,Nat.reduceBEq,Nat.reduceLeDiff,Nat.reduceLT,Nat.reduceEqDiff];try rfl)|refine zc3 ?_|(refine And.intro ?_ ?_;focus (intros;simp_all only [Bool.or_eq_false_iff,Bool.or_eq_true,Bool.and_eq_true,and_self,true_and,and_true];done))
  have hl0:c.name.size≤9223372036854775807:=o_name
  refine zc9 rfl (fun hd=>?_) (fun hd=>?_)
  · repeat' first|refine zie rfl ?_|refine zc4 rfl ?_|refine zc7 ?_|refine zc8 ?_|refine zc5 ?_|refine zc6 ?_|(simp (maxSteps:=2000000) only [go_sem,Nat.reduceAdd,Nat.reduceMul,Nat.reduceBEq,Nat.reduceLeDiff,Nat.reduceLT,Nat.reduceEqDiff];try rfl)|refine zc3 ?_|(refine And.intro ?_ ?_;focus (intros;simp_all only [Bool.or_eq_false_iff,Bool.or_eq_true,Bool.and_eq_true,and_self,true_and,and_true];done))
    rw [zkL hn hl0] at hd
    exact zkK (zkM hd) (by first|exact Nat.le_refl _|omega)
  rw [zkL hn hl0] at hd
  have hp0:=zkN hd
  repeat' first|refine zie rfl ?_|refine zc4 rfl ?_|refine zc7 ?_|refine zc8 ?_|refine zc5 ?_|refine zc6 ?_|(simp (maxSteps:=2000000) only [go_sem,Nat.reduceAdd,Nat.reduceMul,Nat.reduceBEq,Nat.reduceLeDiff,Nat.reduceLT,Nat.reduceEqDiff];try rfl)|refine zc3 ?_|(refine And.intro ?_ ?_;focus (intros;simp_all only [Bool.or_eq_false_iff,Bool.or_eq_true,Bool.and_eq_true,and_self,true_and,and_true];done))
  rw [zkL hn hl0,hp0.1];rfl
theorem zqK (c:DCrew) (n:Int) (h:Hp) (hc:Enc.ok h c) (hn:0≤n∧n≤1048576):Ct Try.prog 17 [.agg #[.int .i64 c.tugs,.int .i64 c.pilots,.int .i64 c.rest,c.moves.val],.int .i64 n] h fun v h'=>v=.int .i64 (zkE n (Blk.blk c))∧h'=h:=by
  rw [zk0]
  have hc':=hc
  obtain ⟨o_tugs,o_pilots,o_rest,o_moves⟩:=hc'
  refine zdn (fun A W=>by simp) Try.func17 rfl rfl (by simp) fun W0=>?_
  repeat' first|refine zie rfl ?_|refine zc4 rfl ?_|refine zc7 ?_|refine zc8 ?_|refine zc5 ?_|refine zc6 ?_|refine zhF (fun _=>zqH _ _ _ o_moves hn) ?_|(simp (maxSteps:=2000000) only [go_sem,Nat.reduceAdd,Nat.reduceMul,Nat.reduceBEq,Nat.reduceLeDiff,Nat.reduceLT,Nat.reduceEqDiff];try rfl)|refine zc3 ?_|(refine And.intro ?_ ?_;focus (intros;simp_all only [Bool.or_eq_false_iff,Bool.or_eq_true,Bool.and_eq_true,and_self,true_and,and_true];done))
  refine zc9 rfl (fun hd=>?_) (fun hd=>?_)
  · repeat' first|refine zie rfl ?_|refine zc4 rfl ?_|refine zc7 ?_|refine zc8 ?_|refine zc5 ?_|refine zc6 ?_|(simp (maxSteps:=2000000) only [go_sem,Nat.reduceAdd,Nat.reduceMul,Nat.reduceBEq,Nat.reduceLeDiff,Nat.reduceLT,Nat.reduceEqDiff];try rfl)|refine zc3 ?_|(refine And.intro ?_ ?_;focus (intros;simp_all only [Bool.or_eq_false_iff,Bool.or_eq_true,Bool.and_eq_true,and_self,true_and,and_true];done))
    exact zkK (of_decide_eq_true hd) (by omega)
  have hp0:=zkG hd
  repeat' first|refine zie rfl ?_|refine zc4 rfl ?_|refine zc7 ?_|refine zc8 ?_|refine zc5 ?_|refine zc6 ?_|(simp (maxSteps:=2000000) only [go_sem,Nat.reduceAdd,Nat.reduceMul,Nat.reduceBEq,Nat.reduceLeDiff,Nat.reduceLT,Nat.reduceEqDiff];try rfl)|refine zc3 ?_|(refine And.intro ?_ ?_;focus (intros;simp_all only [Bool.or_eq_false_iff,Bool.or_eq_true,Bool.and_eq_true,and_self,true_and,and_true];done))
theorem zqL (a:Sl DPassage) (n:Int) (h:Hp) (ha:a.Ok h) (hn:0≤n∧n≤1048576):Ct Try.prog 20 [a.val,.int .i64 n] h fun v h'=>v=.int .i64 (zkE n (Blk.blk a))∧h'=h:=by
  have hl:=ha.max
  rw [zkD (fun _=>rfl) a]
  refine zdn (fun A W=>by simp) Try.func20 rfl rfl (by simp) fun W0=>?_
  repeat' first|refine zie rfl ?_|refine zc4 rfl ?_|refine zc7 ?_|refine zc8 ?_|refine zc5 ?_|refine zc6 ?_|(simp (maxSteps:=2000000) only [go_sem,Nat.reduceAdd,Nat.reduceMul,Nat.reduceBEq,Nat.reduceLeDiff,Nat.reduceLT,Nat.reduceEqDiff];try rfl)|refine zc3 ?_|(refine And.intro ?_ ?_;focus (intros;simp_all only [Bool.or_eq_false_iff,Bool.or_eq_true,Bool.and_eq_true,and_self,true_and,and_true];done))
  refine zc9 rfl (fun hc=>?_) (fun hc=>?_)
  · repeat' first|refine zie rfl ?_|refine zc4 rfl ?_|refine zc7 ?_|refine zc8 ?_|refine zc5 ?_|refine zc6 ?_|(simp (maxSteps:=2000000) only [go_sem,Nat.reduceAdd,Nat.reduceMul,Nat.reduceBEq,Nat.reduceLeDiff,Nat.reduceLT,Nat.reduceEqDiff];try rfl)|refine zc3 ?_|(refine And.intro ?_ ?_;focus (intros;simp_all only [Bool.or_eq_false_iff,Bool.or_eq_true,Bool.and_eq_true,and_self,true_and,and_true];done))
    rw [zkL hn hl] at hc
    exact zkK (zkM hc) (Nat.le_refl _)
  · repeat' first|refine zie rfl ?_|refine zc4 rfl ?_|refine zc7 ?_|refine zc8 ?_|refine zc5 ?_|refine zc6 ?_|(simp (maxSteps:=2000000) only [go_sem,Nat.reduceAdd,Nat.reduceMul,Nat.reduceBEq,Nat.reduceLeDiff,Nat.reduceLT,Nat.reduceEqDiff];try rfl)|refine zc3 ?_|(refine And.intro ?_ ?_;focus (intros;simp_all only [Bool.or_eq_false_iff,Bool.or_eq_true,Bool.and_eq_true,and_self,true_and,and_true];done))
    rw [zkL hn hl] at hc ⊢
    rw [(zkN hc).1]
theorem zqM (a:Sl DPoint) (n:Int) (h:Hp) (ha:a.Ok h) (hn:0≤n∧n≤1048576):Ct Try.prog 49 [a.val,.int .i64 n] h fun v h'=>v=.int .i64 (zkE n (Blk.blk a))∧h'=h:=by
  have hl:=ha.max
  rw [zkC]
  refine zdn (fun A W=>by simp) Try.func49 rfl rfl (by simp) fun W0=>?_
  repeat' first|refine zie rfl ?_|refine zc4 rfl ?_|refine zc7 ?_|refine zc8 ?_|refine zc5 ?_|refine zc6 ?_|(simp (maxSteps:=2000000) only [go_sem,Nat.reduceAdd,Nat.reduceMul,Nat.reduceBEq,Nat.reduceLeDiff,Nat.reduceLT,Nat.reduceEqDiff];try rfl)|refine zc3 ?_|(refine And.intro ?_ ?_;focus (intros;simp_all only [Bool.or_eq_false_iff,Bool.or_eq_true,Bool.and_eq_true,and_self,true_and,and_true];done))
  refine zc9 rfl (fun hc=>?_) (fun hc=>?_)
  · repeat' first|refine zie rfl ?_|refine zc4 rfl ?_|refine zc7 ?_|refine zc8 ?_|refine zc5 ?_|refine zc6 ?_|(simp (maxSteps:=2000000) only [go_sem,Nat.reduceAdd,Nat.reduceMul,Nat.reduceBEq,Nat.reduceLeDiff,Nat.reduceLT,Nat.reduceEqDiff];try rfl)|refine zc3 ?_|(refine And.intro ?_ ?_;focus (intros;simp_all only [Bool.or_eq_false_iff,Bool.or_eq_true,Bool.and_eq_true,and_self,true_and,and_true];done))
    rw [zkL hn hl] at hc
    exact zkK (zkM hc) (Nat.le_add_right _ _)
  rw [zkL hn hl] at hc
  have hp:=zkN hc
  repeat' first|refine zie rfl ?_|refine zc4 rfl ?_|refine zc7 ?_|refine zc8 ?_|refine zc5 ?_|refine zc6 ?_|(simp (maxSteps:=2000000) only [go_sem,Nat.reduceAdd,Nat.reduceMul,Nat.reduceBEq,Nat.reduceLeDiff,Nat.reduceLT,Nat.reduceEqDiff];try rfl)|refine zc3 ?_|(refine And.intro ?_ ?_;focus (intros;simp_all only [Bool.or_eq_false_iff,Bool.or_eq_true,Bool.and_eq_true,and_self,true_and,and_true];done))
  refine zde (ι:=Nat) (fun k=>⟨[(0,true,.c (.v a.val)),(1,true,.c (.v (.int .i64 (zkE n (a.l.length+((a.l.map Blk.blk).take k).sum))))),(5,true,.c (.v (.int .i64 k)))],[],h,0⟩) (fun k=>k≤a.l.length∧0≤zkE n (a.l.length+((a.l.map Blk.blk).take k).sum)) (fun k=>a.l.length - k) 0 ⟨Nat.zero_le _,hp.2⟩ ?_ ?_
  · simp (maxSteps:=2000000) only [go_sem,Nat.reduceAdd,Nat.reduceMul,Nat.reduceBEq,Nat.reduceLeDiff,Nat.reduceLT,Nat.reduceEqDiff]
    exact ⟨by rw [zkL hn hl,hp.1];rfl,rfl⟩
  intro k hk
  repeat' first|refine zie rfl ?_|refine zc4 rfl ?_|refine zc7 ?_|refine zc8 ?_|refine zc5 ?_|refine zc6 ?_|(simp (maxSteps:=2000000) only [go_sem,Nat.reduceAdd,Nat.reduceMul,Nat.reduceBEq,Nat.reduceLeDiff,Nat.reduceLT,Nat.reduceEqDiff];try rfl)|refine zc3 ?_|(refine And.intro ?_ ?_;focus (intros;simp_all only [Bool.or_eq_false_iff,Bool.or_eq_true,Bool.and_eq_true,and_self,true_and,and_true];done))
  refine zc9 rfl (fun hd=>?_) (fun hd=>?_)
  · have hlt:=zjH hd
    have hlm:k < (a.l.map Blk.blk).length:=by rw [List.length_map];exact hlt
    repeat' first|refine zie rfl ?_|refine zc4 rfl ?_|refine zc7 ?_|refine zc8 ?_|refine zc5 ?_|refine zc6 ?_|refine zhF (fun _=>zqI _ _ _ (ha.el hlt) (zkI hn hk.2)) ?_|(simp (maxSteps:=2000000) only [go_sem,Nat.reduceAdd,Nat.reduceMul,Nat.reduceBEq,Nat.reduceLeDiff,Nat.reduceLT,Nat.reduceEqDiff,zlb ha hlt,ha.some hlt,hlt,Int.toNat_natCast];try rfl)|refine zc3 ?_|(refine And.intro ?_ ?_;focus (intros;simp_all only [Bool.or_eq_false_iff,Bool.or_eq_true,Bool.and_eq_true,and_self,true_and,and_true];done))
    refine zc9 rfl (fun hg=>?_) (fun hg=>?_)
    · repeat' first|refine zie rfl ?_|refine zc4 rfl ?_|refine zc7 ?_|refine zc8 ?_|refine zc5 ?_|refine zc6 ?_|(simp (maxSteps:=2000000) only [go_sem,Nat.reduceAdd,Nat.reduceMul,Nat.reduceBEq,Nat.reduceLeDiff,Nat.reduceLT,Nat.reduceEqDiff];try rfl)|refine zc3 ?_|(refine And.intro ?_ ?_;focus (intros;simp_all only [Bool.or_eq_false_iff,Bool.or_eq_true,Bool.and_eq_true,and_self,true_and,and_true];done))
      rw [zkF hk.2] at hg
      refine zkK (of_decide_eq_true hg) ?_
      have:=zkO hlm
      rw [List.getElem_map] at this
      have:=zkP (l:=a.l.map Blk.blk) (k:=k+1)
      omega
    · rw [zkF hk.2] at hg
      have hs:=zkO hlm
      rw [List.getElem_map] at hs
      have he:a.l.length+((a.l.map Blk.blk).take k).sum+Blk.blk a.l[k]=a.l.length+((a.l.map Blk.blk).take (k+1)).sum:=by omega
      rw [he] at hg
      repeat' first|refine zie rfl ?_|refine zc4 rfl ?_|refine zc7 ?_|refine zc8 ?_|refine zc5 ?_|refine zc6 ?_|(simp (maxSteps:=2000000) only [go_sem,Nat.reduceAdd,Nat.reduceMul,Nat.reduceBEq,Nat.reduceLeDiff,Nat.reduceLT,Nat.reduceEqDiff];try rfl)|refine zc3 ?_|(refine And.intro ?_ ?_;focus (intros;simp_all only [Bool.or_eq_false_iff,Bool.or_eq_true,Bool.and_eq_true,and_self,true_and,and_true];done))
      exact ⟨k+1,⟨hlt,zkG hg⟩,by omega,by rw [zkF hk.2,he],zjB (zjA hlt hl)⟩
  · have hge:=zjI hd
    repeat' first|refine zie rfl ?_|refine zc4 rfl ?_|refine zc7 ?_|refine zc8 ?_|refine zc5 ?_|refine zc6 ?_|(simp (maxSteps:=2000000) only [go_sem,Nat.reduceAdd,Nat.reduceMul,Nat.reduceBEq,Nat.reduceLeDiff,Nat.reduceLT,Nat.reduceEqDiff];try rfl)|refine zc3 ?_|(refine And.intro ?_ ?_;focus (intros;simp_all only [Bool.or_eq_false_iff,Bool.or_eq_true,Bool.and_eq_true,and_self,true_and,and_true];done))
    rw [List.take_of_length_le (by rw [List.length_map];exact hge)]
theorem zqN (a:Sl DSegment) (n:Int) (h:Hp) (ha:a.Ok h) (hn:0≤n∧n≤1048576):Ct Try.prog 50 [a.val,.int .i64 n] h fun v h'=>v=.int .i64 (zkE n (Blk.blk a))∧h'=h:=by
  have hl:=ha.max
  rw [zkD (fun _=>rfl) a]
  refine zdn (fun A W=>by simp) Try.func50 rfl rfl (by simp) fun W0=>?_
  repeat' first|refine zie rfl ?_|refine zc4 rfl ?_|refine zc7 ?_|refine zc8 ?_|refine zc5 ?_|refine zc6 ?_|(simp (maxSteps:=2000000) only [go_sem,Nat.reduceAdd,Nat.reduceMul,Nat.reduceBEq,Nat.reduceLeDiff,Nat.reduceLT,Nat.reduceEqDiff];try rfl)|refine zc3 ?_|(refine And.intro ?_ ?_;focus (intros;simp_all only [Bool.or_eq_false_iff,Bool.or_eq_true,Bool.and_eq_true,and_self,true_and,and_true];done))
  refine zc9 rfl (fun hc=>?_) (fun hc=>?_)
  · repeat' first|refine zie rfl ?_|refine zc4 rfl ?_|refine zc7 ?_|refine zc8 ?_|refine zc5 ?_|refine zc6 ?_|(simp (maxSteps:=2000000) only [go_sem,Nat.reduceAdd,Nat.reduceMul,Nat.reduceBEq,Nat.reduceLeDiff,Nat.reduceLT,Nat.reduceEqDiff];try rfl)|refine zc3 ?_|(refine And.intro ?_ ?_;focus (intros;simp_all only [Bool.or_eq_false_iff,Bool.or_eq_true,Bool.and_eq_true,and_self,true_and,and_true];done))
    rw [zkL hn hl] at hc
    exact zkK (zkM hc) (Nat.le_refl _)
  · repeat' first|refine zie rfl ?_|refine zc4 rfl ?_|refine zc7 ?_|refine zc8 ?_|refine zc5 ?_|refine zc6 ?_|(simp (maxSteps:=2000000) only [go_sem,Nat.reduceAdd,Nat.reduceMul,Nat.reduceBEq,Nat.reduceLeDiff,Nat.reduceLT,Nat.reduceEqDiff];try rfl)|refine zc3 ?_|(refine And.intro ?_ ?_;focus (intros;simp_all only [Bool.or_eq_false_iff,Bool.or_eq_true,Bool.and_eq_true,and_self,true_and,and_true];done))
    rw [zkL hn hl] at hc ⊢
    rw [(zkN hc).1]
theorem zqO (a:Sl DShip) (n:Int) (h:Hp) (ha:a.Ok h) (hn:0≤n∧n≤1048576):Ct Try.prog 19 [a.val,.int .i64 n] h fun v h'=>v=.int .i64 (zkE n (Blk.blk a))∧h'=h:=by
  have hl:=ha.max
  rw [zkC]
  refine zdn (fun A W=>by simp) Try.func19 rfl rfl (by simp) fun W0=>?_
  repeat' first|refine zie rfl ?_|refine zc4 rfl ?_|refine zc7 ?_|refine zc8 ?_|refine zc5 ?_|refine zc6 ?_|(simp (maxSteps:=2000000) only [go_sem,Nat.reduceAdd,Nat.reduceMul,Nat.reduceBEq,Nat.reduceLeDiff,Nat.reduceLT,Nat.reduceEqDiff];try rfl)|refine zc3 ?_|(refine And.intro ?_ ?_;focus (intros;simp_all only [Bool.or_eq_false_iff,Bool.or_eq_true,Bool.and_eq_true,and_self,true_and,and_true];done))
  refine zc9 rfl (fun hc=>?_) (fun hc=>?_)
  · repeat' first|refine zie rfl ?_|refine zc4 rfl ?_|refine zc7 ?_|refine zc8 ?_|refine zc5 ?_|refine zc6 ?_|(simp (maxSteps:=2000000) only [go_sem,Nat.reduceAdd,Nat.reduceMul,Nat.reduceBEq,Nat.reduceLeDiff,Nat.reduceLT,Nat.reduceEqDiff];try rfl)|refine zc3 ?_|(refine And.intro ?_ ?_;focus (intros;simp_all only [Bool.or_eq_false_iff,Bool.or_eq_true,Bool.and_eq_true,and_self,true_and,and_true];done))
    rw [zkL hn hl] at hc
    exact zkK (zkM hc) (Nat.le_add_right _ _)
  rw [zkL hn hl] at hc
  have hp:=zkN hc
  repeat' first|refine zie rfl ?_|refine zc4 rfl ?_|refine zc7 ?_|refine zc8 ?_|refine zc5 ?_|refine zc6 ?_|(simp (maxSteps:=2000000) only [go_sem,Nat.reduceAdd,Nat.reduceMul,Nat.reduceBEq,Nat.reduceLeDiff,Nat.reduceLT,Nat.reduceEqDiff];try rfl)|refine zc3 ?_|(refine And.intro ?_ ?_;focus (intros;simp_all only [Bool.or_eq_false_iff,Bool.or_eq_true,Bool.and_eq_true,and_self,true_and,and_true];done))
  refine zde (ι:=Nat) (fun k=>⟨[(0,true,.c (.v a.val)),(1,true,.c (.v (.int .i64 (zkE n (a.l.length+((a.l.map Blk.blk).take k).sum))))),(5,true,.c (.v (.int .i64 k)))],[],h,0⟩) (fun k=>k≤a.l.length∧0≤zkE n (a.l.length+((a.l.map Blk.blk).take k).sum)) (fun k=>a.l.length - k) 0 ⟨Nat.zero_le _,hp.2⟩ ?_ ?_
  · simp (maxSteps:=2000000) only [go_sem,Nat.reduceAdd,Nat.reduceMul,Nat.reduceBEq,Nat.reduceLeDiff,Nat.reduceLT,Nat.reduceEqDiff]
    exact ⟨by rw [zkL hn hl,hp.1];rfl,rfl⟩
  intro k hk
  repeat' first|refine zie rfl ?_|refine zc4 rfl ?_|refine zc7 ?_|refine zc8 ?_|refine zc5 ?_|refine zc6 ?_|(simp (maxSteps:=2000000) only [go_sem,Nat.reduceAdd,Nat.reduceMul,Nat.reduceBEq,Nat.reduceLeDiff,Nat.reduceLT,Nat.reduceEqDiff];try rfl)|refine zc3 ?_|(refine And.intro ?_ ?_;focus (intros;simp_all only [Bool.or_eq_false_iff,Bool.or_eq_true,Bool.and_eq_true,and_self,true_and,and_true];done))
  refine zc9 rfl (fun hd=>?_) (fun hd=>?_)
  · have hlt:=zjH hd
    have hlm:k < (a.l.map Blk.blk).length:=by rw [List.length_map];exact hlt
    repeat' first|refine zie rfl ?_|refine zc4 rfl ?_|refine zc7 ?_|refine zc8 ?_|refine zc5 ?_|refine zc6 ?_|refine zhF (fun _=>zqJ _ _ _ (ha.el hlt) (zkI hn hk.2)) ?_|(simp (maxSteps:=2000000) only [go_sem,Nat.reduceAdd,Nat.reduceMul,Nat.reduceBEq,Nat.reduceLeDiff,Nat.reduceLT,Nat.reduceEqDiff,zlj ha hlt,ha.some hlt,hlt,Int.toNat_natCast];try rfl)|refine zc3 ?_|(refine And.intro ?_ ?_;focus (intros;simp_all only [Bool.or_eq_false_iff,Bool.or_eq_true,Bool.and_eq_true,and_self,true_and,and_true];done))
    refine zc9 rfl (fun hg=>?_) (fun hg=>?_)
    · repeat' first|refine zie rfl ?_|refine zc4 rfl ?_|refine zc7 ?_|refine zc8 ?_|refine zc5 ?_|refine zc6 ?_|(simp (maxSteps:=2000000) only [go_sem,Nat.reduceAdd,Nat.reduceMul,Nat.reduceBEq,Nat.reduceLeDiff,Nat.reduceLT,Nat.reduceEqDiff];try rfl)|refine zc3 ?_|(refine And.intro ?_ ?_;focus (intros;simp_all only [Bool.or_eq_false_iff,Bool.or_eq_true,Bool.and_eq_true,and_self,true_and,and_true];done))
      rw [zkF hk.2] at hg
      refine zkK (of_decide_eq_true hg) ?_
      have:=zkO hlm
      rw [List.getElem_map] at this
      have:=zkP (l:=a.l.map Blk.blk) (k:=k+1)
      omega
    · rw [zkF hk.2] at hg
      have hs:=zkO hlm
      rw [List.getElem_map] at hs
      have he:a.l.length+((a.l.map Blk.blk).take k).sum+Blk.blk a.l[k]=a.l.length+((a.l.map Blk.blk).take (k+1)).sum:=by omega
      rw [he] at hg
      repeat' first|refine zie rfl ?_|refine zc4 rfl ?_|refine zc7 ?_|refine zc8 ?_|refine zc5 ?_|refine zc6 ?_|(simp (maxSteps:=2000000) only [go_sem,Nat.reduceAdd,Nat.reduceMul,Nat.reduceBEq,Nat.reduceLeDiff,Nat.reduceLT,Nat.reduceEqDiff];try rfl)|refine zc3 ?_|(refine And.intro ?_ ?_;focus (intros;simp_all only [Bool.or_eq_false_iff,Bool.or_eq_true,Bool.and_eq_true,and_self,true_and,and_true];done))
      exact ⟨k+1,⟨hlt,zkG hg⟩,by omega,by rw [zkF hk.2,he],zjB (zjA hlt hl)⟩
  · have hge:=zjI hd
    repeat' first|refine zie rfl ?_|refine zc4 rfl ?_|refine zc7 ?_|refine zc8 ?_|refine zc5 ?_|refine zc6 ?_|(simp (maxSteps:=2000000) only [go_sem,Nat.reduceAdd,Nat.reduceMul,Nat.reduceBEq,Nat.reduceLeDiff,Nat.reduceLT,Nat.reduceEqDiff];try rfl)|refine zc3 ?_|(refine And.intro ?_ ?_;focus (intros;simp_all only [Bool.or_eq_false_iff,Bool.or_eq_true,Bool.and_eq_true,and_self,true_and,and_true];done))
    rw [List.take_of_length_le (by rw [List.length_map];exact hge)]
theorem zqP (c:DChart) (n:Int) (h:Hp) (hc:Enc.ok h c) (hn:0≤n∧n≤1048576):Ct Try.prog 18 [.agg #[c.points.val,c.segments.val],.int .i64 n] h fun v h'=>v=.int .i64 (zkE n (Blk.blk c))∧h'=h:=by
  rw [zlg]
  have hc':=hc
  obtain ⟨o_points,o_segments⟩:=hc'
  refine zdn (fun A W=>by simp) Try.func18 rfl rfl (by simp) fun W0=>?_
  repeat' first|refine zie rfl ?_|refine zc4 rfl ?_|refine zc7 ?_|refine zc8 ?_|refine zc5 ?_|refine zc6 ?_|refine zhF (fun _=>zqM _ _ _ o_points hn) ?_|(simp (maxSteps:=2000000) only [go_sem,Nat.reduceAdd,Nat.reduceMul,Nat.reduceBEq,Nat.reduceLeDiff,Nat.reduceLT,Nat.reduceEqDiff];try rfl)|refine zc3 ?_|(refine And.intro ?_ ?_;focus (intros;simp_all only [Bool.or_eq_false_iff,Bool.or_eq_true,Bool.and_eq_true,and_self,true_and,and_true];done))
  refine zc9 rfl (fun hd=>?_) (fun hd=>?_)
  · repeat' first|refine zie rfl ?_|refine zc4 rfl ?_|refine zc7 ?_|refine zc8 ?_|refine zc5 ?_|refine zc6 ?_|(simp (maxSteps:=2000000) only [go_sem,Nat.reduceAdd,Nat.reduceMul,Nat.reduceBEq,Nat.reduceLeDiff,Nat.reduceLT,Nat.reduceEqDiff];try rfl)|refine zc3 ?_|(refine And.intro ?_ ?_;focus (intros;simp_all only [Bool.or_eq_false_iff,Bool.or_eq_true,Bool.and_eq_true,and_self,true_and,and_true];done))
    exact zkK (of_decide_eq_true hd) (by omega)
  have hp0:=zkG hd
  repeat' first|refine zie rfl ?_|refine zc4 rfl ?_|refine zc7 ?_|refine zc8 ?_|refine zc5 ?_|refine zc6 ?_|refine zhF (fun _=>zqN _ _ _ o_segments (zkI hn hp0)) ?_|(simp (maxSteps:=2000000) only [go_sem,Nat.reduceAdd,Nat.reduceMul,Nat.reduceBEq,Nat.reduceLeDiff,Nat.reduceLT,Nat.reduceEqDiff];try rfl)|refine zc3 ?_|(refine And.intro ?_ ?_;focus (intros;simp_all only [Bool.or_eq_false_iff,Bool.or_eq_true,Bool.and_eq_true,and_self,true_and,and_true];done))
  refine zc9 rfl (fun hd=>?_) (fun hd=>?_)
  · repeat' first|refine zie rfl ?_|refine zc4 rfl ?_|refine zc7 ?_|refine zc8 ?_|refine zc5 ?_|refine zc6 ?_|(simp (maxSteps:=2000000) only [go_sem,Nat.reduceAdd,Nat.reduceMul,Nat.reduceBEq,Nat.reduceLeDiff,Nat.reduceLT,Nat.reduceEqDiff];try rfl)|refine zc3 ?_|(refine And.intro ?_ ?_;focus (intros;simp_all only [Bool.or_eq_false_iff,Bool.or_eq_true,Bool.and_eq_true,and_self,true_and,and_true];done))
    rw [zkF hp0] at hd
    exact zkK (of_decide_eq_true hd) (by omega)
  have hp1:=zkG hd
  rw [zkF hp0] at hp1
  repeat' first|refine zie rfl ?_|refine zc4 rfl ?_|refine zc7 ?_|refine zc8 ?_|refine zc5 ?_|refine zc6 ?_|(simp (maxSteps:=2000000) only [go_sem,Nat.reduceAdd,Nat.reduceMul,Nat.reduceBEq,Nat.reduceLeDiff,Nat.reduceLT,Nat.reduceEqDiff];try rfl)|refine zc3 ?_|(refine And.intro ?_ ?_;focus (intros;simp_all only [Bool.or_eq_false_iff,Bool.or_eq_true,Bool.and_eq_true,and_self,true_and,and_true];done))
  rw [zkF hp0]
theorem zxh (a:Sl (Sl DPassage)) (n:Int) (h:Hp) (ha:a.Ok h) (hn:0≤n∧n≤1048576):Ct Try.prog 31 [a.val,.int .i64 n] h fun v h'=>v=.int .i64 (zkE n (Blk.blk a))∧h'=h:=by
  have hl:=ha.max
  rw [zkC]
  refine zdn (fun A W=>by simp) Try.func31 rfl rfl (by simp) fun W0=>?_
  repeat' first|refine zie rfl ?_|refine zc4 rfl ?_|refine zc7 ?_|refine zc8 ?_|refine zc5 ?_|refine zc6 ?_|(simp (maxSteps:=2000000) only [go_sem,Nat.reduceAdd,Nat.reduceMul,Nat.reduceBEq,Nat.reduceLeDiff,Nat.reduceLT,Nat.reduceEqDiff];try rfl)|refine zc3 ?_|(refine And.intro ?_ ?_;focus (intros;simp_all only [Bool.or_eq_false_iff,Bool.or_eq_true,Bool.and_eq_true,and_self,true_and,and_true];done))
  refine zc9 rfl (fun hc=>?_) (fun hc=>?_)
  · repeat' first|refine zie rfl ?_|refine zc4 rfl ?_|refine zc7 ?_|refine zc8 ?_|refine zc5 ?_|refine zc6 ?_|(simp (maxSteps:=2000000) only [go_sem,Nat.reduceAdd,Nat.reduceMul,Nat.reduceBEq,Nat.reduceLeDiff,Nat.reduceLT,Nat.reduceEqDiff];try rfl)|refine zc3 ?_|(refine And.intro ?_ ?_;focus (intros;simp_all only [Bool.or_eq_false_iff,Bool.or_eq_true,Bool.and_eq_true,and_self,true_and,and_true];done))
    rw [zkL hn hl] at hc
    exact zkK (zkM hc) (Nat.le_add_right _ _)
  rw [zkL hn hl] at hc
  have hp:=zkN hc
  repeat' first|refine zie rfl ?_|refine zc4 rfl ?_|refine zc7 ?_|refine zc8 ?_|refine zc5 ?_|refine zc6 ?_|(simp (maxSteps:=2000000) only [go_sem,Nat.reduceAdd,Nat.reduceMul,Nat.reduceBEq,Nat.reduceLeDiff,Nat.reduceLT,Nat.reduceEqDiff];try rfl)|refine zc3 ?_|(refine And.intro ?_ ?_;focus (intros;simp_all only [Bool.or_eq_false_iff,Bool.or_eq_true,Bool.and_eq_true,and_self,true_and,and_true];done))
  refine zde (ι:=Nat) (fun k=>⟨[(0,true,.c (.v a.val)),(1,true,.c (.v (.int .i64 (zkE n (a.l.length+((a.l.map Blk.blk).take k).sum))))),(5,true,.c (.v (.int .i64 k)))],[],h,0⟩) (fun k=>k≤a.l.length∧0≤zkE n (a.l.length+((a.l.map Blk.blk).take k).sum)) (fun k=>a.l.length - k) 0 ⟨Nat.zero_le _,hp.2⟩ ?_ ?_
  · simp (maxSteps:=2000000) only [go_sem,Nat.reduceAdd,Nat.reduceMul,Nat.reduceBEq,Nat.reduceLeDiff,Nat.reduceLT,Nat.reduceEqDiff]
    exact ⟨by rw [zkL hn hl,hp.1];rfl,rfl⟩
  intro k hk
  repeat' first|refine zie rfl ?_|refine zc4 rfl ?_|refine zc7 ?_|refine zc8 ?_|refine zc5 ?_|refine zc6 ?_|(simp (maxSteps:=2000000) only [go_sem,Nat.reduceAdd,Nat.reduceMul,Nat.reduceBEq,Nat.reduceLeDiff,Nat.reduceLT,Nat.reduceEqDiff];try rfl)|refine zc3 ?_|(refine And.intro ?_ ?_;focus (intros;simp_all only [Bool.or_eq_false_iff,Bool.or_eq_true,Bool.and_eq_true,and_self,true_and,and_true];done))
  refine zc9 rfl (fun hd=>?_) (fun hd=>?_)
  · have hlt:=zjH hd
    have hlm:k < (a.l.map Blk.blk).length:=by rw [List.length_map];exact hlt
    repeat' first|refine zie rfl ?_|refine zc4 rfl ?_|refine zc7 ?_|refine zc8 ?_|refine zc5 ?_|refine zc6 ?_|refine zhF (fun _=>zqL _ _ _ (ha.el hlt) (zkI hn hk.2)) ?_|(simp (maxSteps:=2000000) only [go_sem,Nat.reduceAdd,Nat.reduceMul,Nat.reduceBEq,Nat.reduceLeDiff,Nat.reduceLT,Nat.reduceEqDiff,zkQ ha hlt,ha.some hlt,hlt,Int.toNat_natCast];try rfl)|refine zc3 ?_|(refine And.intro ?_ ?_;focus (intros;simp_all only [Bool.or_eq_false_iff,Bool.or_eq_true,Bool.and_eq_true,and_self,true_and,and_true];done))
    refine zc9 rfl (fun hg=>?_) (fun hg=>?_)
    · repeat' first|refine zie rfl ?_|refine zc4 rfl ?_|refine zc7 ?_|refine zc8 ?_|refine zc5 ?_|refine zc6 ?_|(simp (maxSteps:=2000000) only [go_sem,Nat.reduceAdd,Nat.reduceMul,Nat.reduceBEq,Nat.reduceLeDiff,Nat.reduceLT,Nat.reduceEqDiff];try rfl)|refine zc3 ?_|(refine And.intro ?_ ?_;focus (intros;simp_all only [Bool.or_eq_false_iff,Bool.or_eq_true,Bool.and_eq_true,and_self,true_and,and_true];done))
      rw [zkF hk.2] at hg
      refine zkK (of_decide_eq_true hg) ?_
      have:=zkO hlm
      rw [List.getElem_map] at this
      have:=zkP (l:=a.l.map Blk.blk) (k:=k+1)
      omega
    · rw [zkF hk.2] at hg
      have hs:=zkO hlm
      rw [List.getElem_map] at hs
      have he:a.l.length+((a.l.map Blk.blk).take k).sum+Blk.blk a.l[k]=a.l.length+((a.l.map Blk.blk).take (k+1)).sum:=by omega
      rw [he] at hg
      repeat' first|refine zie rfl ?_|refine zc4 rfl ?_|refine zc7 ?_|refine zc8 ?_|refine zc5 ?_|refine zc6 ?_|(simp (maxSteps:=2000000) only [go_sem,Nat.reduceAdd,Nat.reduceMul,Nat.reduceBEq,Nat.reduceLeDiff,Nat.reduceLT,Nat.reduceEqDiff];try rfl)|refine zc3 ?_|(refine And.intro ?_ ?_;focus (intros;simp_all only [Bool.or_eq_false_iff,Bool.or_eq_true,Bool.and_eq_true,and_self,true_and,and_true];done))
      exact ⟨k+1,⟨hlt,zkG hg⟩,by omega,by rw [zkF hk.2,he],zjB (zjA hlt hl)⟩
  · have hge:=zjI hd
    repeat' first|refine zie rfl ?_|refine zc4 rfl ?_|refine zc7 ?_|refine zc8 ?_|refine zc5 ?_|refine zc6 ?_|(simp (maxSteps:=2000000) only [go_sem,Nat.reduceAdd,Nat.reduceMul,Nat.reduceBEq,Nat.reduceLeDiff,Nat.reduceLT,Nat.reduceEqDiff];try rfl)|refine zc3 ?_|(refine And.intro ?_ ?_;focus (intros;simp_all only [Bool.or_eq_false_iff,Bool.or_eq_true,Bool.and_eq_true,and_self,true_and,and_true];done))
    rw [List.take_of_length_le (by rw [List.length_map];exact hge)]
end Go.Proofs.Ytjiggadgmmjnhaa
namespace Go.Proofs.Ytjiggadgmmjnhaa
open Go Go.SL
set_option maxHeartbeats 1000000
theorem zqQ (a:Sl Int) (h:Hp) (ha:a.Ok h) (hb:Blk.blk a≤1048576):Ct Try.prog 9 [a.val] h fun v h'=>∃ s:Sl Int,v=s.val∧Con.con s=Con.con a∧s.Ok h'∧Mine h h' s:=by
  have hl:a.l.length≤1048576:=Nat.le_trans (Nat.le_add_right _ _) hb
  refine zdn (fun A W=>by simp) Try.func9 rfl rfl (by simp) fun W0=>?_
  repeat' first|refine zie rfl ?_|refine zc4 rfl ?_|refine zc7 ?_|refine zc8 ?_|refine zc5 ?_|refine zc6 ?_|(simp (maxSteps:=2000000) only [go_sem,Nat.reduceAdd,Nat.reduceMul,Nat.reduceBEq,Nat.reduceLeDiff,Nat.reduceLT,Nat.reduceEqDiff];try rfl)|refine zc3 ?_|(refine And.intro ?_ ?_;focus (intros;simp_all only [Bool.or_eq_false_iff,Bool.or_eq_true,Bool.and_eq_true,and_self,true_and,and_true];done))
  refine ⟨by simp only [maxLen];omega,by omega,?_⟩
  repeat' first|refine zie rfl ?_|refine zc4 rfl ?_|refine zc7 ?_|refine zc8 ?_|refine zc5 ?_|refine zc6 ?_|(simp (maxSteps:=2000000) only [go_sem,Nat.reduceAdd,Nat.reduceMul,Nat.reduceBEq,Nat.reduceLeDiff,Nat.reduceLT,Nat.reduceEqDiff];try rfl)|refine zc3 ?_|(refine And.intro ?_ ?_;focus (intros;simp_all only [Bool.or_eq_false_iff,Bool.or_eq_true,Bool.and_eq_true,and_self,true_and,and_true];done))
  refine zde (ι:=Nat) (fun k=>⟨[(0,true,.c (.v a.val)),(3,true,.c (.s 0)),(4,true,.c (.v (.int .i64 k)))],[(0,.row 3 1 a.l.length (conv (a.l.take k) a.l.length [.int .i64 0]))],h,1⟩) (fun k=>k≤a.l.length) (fun k=>a.l.length - k) 0 (Nat.zero_le _) ?_ ?_
  · simp (maxSteps:=2000000) only [go_sem,Nat.reduceAdd,Nat.reduceMul,Nat.reduceBEq,Nat.reduceLeDiff,Nat.reduceLT,Nat.reduceEqDiff]
    exact ⟨rfl,zj8 (zkc (α:=Int) (z:=#[.int .i64 0]) (by decide))⟩
  intro k hk
  repeat' first|refine zie rfl ?_|refine zc4 rfl ?_|refine zc7 ?_|refine zc8 ?_|refine zc5 ?_|refine zc6 ?_|(simp (maxSteps:=2000000) only [go_sem,Nat.reduceAdd,Nat.reduceMul,Nat.reduceBEq,Nat.reduceLeDiff,Nat.reduceLT,Nat.reduceEqDiff];try rfl)|refine zc3 ?_|(refine And.intro ?_ ?_;focus (intros;simp_all only [Bool.or_eq_false_iff,Bool.or_eq_true,Bool.and_eq_true,and_self,true_and,and_true];done))
  refine zc9 rfl (fun hd=>?_) (fun hd=>?_)
  · have hlt:=zjH hd
    have hle:(a.l.take k).length=k:=by rw [List.length_take];omega
    repeat' first|refine zie rfl ?_|refine zc4 rfl ?_|refine zc7 ?_|refine zc8 ?_|refine zc5 ?_|refine zc6 ?_|(simp (maxSteps:=2000000) only [go_sem,Nat.reduceAdd,Nat.reduceMul,Nat.reduceBEq,Nat.reduceLeDiff,Nat.reduceLT,Nat.reduceEqDiff,zkR ha hlt,ha.some hlt,hlt,Int.toNat_natCast];try rfl)|refine zc3 ?_|(refine And.intro ?_ ?_;focus (intros;simp_all only [Bool.or_eq_false_iff,Bool.or_eq_true,Bool.and_eq_true,and_self,true_and,and_true];done))
    refine ⟨?_,?_⟩
    · rw [zj9 (by omega) rfl];exact Nat.le_trans (Nat.le_of_eq (by simp only [Nat.add_mul])) (Nat.mul_le_mul_right 1 (show k+1≤a.l.length from hlt))
    repeat' first|refine zie rfl ?_|refine zc4 rfl ?_|refine zc7 ?_|refine zc8 ?_|refine zc5 ?_|refine zc6 ?_|(simp (maxSteps:=2000000) only [go_sem,Nat.reduceAdd,Nat.reduceMul,Nat.reduceBEq,Nat.reduceLeDiff,Nat.reduceLT,Nat.reduceEqDiff];try rfl)|refine zc3 ?_|(refine And.intro ?_ ?_;focus (intros;simp_all only [Bool.or_eq_false_iff,Bool.or_eq_true,Bool.and_eq_true,and_self,true_and,and_true];done))
    exact ⟨k+1,hlt,by omega,zjB (zjA hlt (by omega)),zj8 (by rw [List.take_succ_eq_append_getElem hlt];exact zkb hle hlt rfl)⟩
  · have hge:=zjI hd
    refine zc6 ?_
    simp (maxSteps:=2000000) only [go_sem,Nat.reduceAdd,Nat.reduceMul,Nat.reduceBEq,Nat.reduceLeDiff,Nat.reduceLT,Nat.reduceEqDiff]
    refine zlX 0 a.l rfl rfl rfl (by rw [List.take_of_length_le hge];exact zka (Nat.le_refl _)) (by decide) (fun x hx=>by obtain ⟨i,hi,rfl⟩:=List.getElem_of_mem hx;exact ha.el hi) h (Hp.le_refl _) (Mines.flat (fun _=>rfl) (fun _=>trivial)) fun s h' e1 e2 e3 e4=>?_
    repeat' first|refine zie rfl ?_|refine zc4 rfl ?_|refine zc7 ?_|refine zc8 ?_|refine zc5 ?_|refine zc6 ?_|(simp (maxSteps:=2000000) only [go_sem,Nat.reduceAdd,Nat.reduceMul,Nat.reduceBEq,Nat.reduceLeDiff,Nat.reduceLT,Nat.reduceEqDiff];try rfl)|refine zc3 ?_|(refine And.intro ?_ ?_;focus (intros;simp_all only [Bool.or_eq_false_iff,Bool.or_eq_true,Bool.and_eq_true,and_self,true_and,and_true];done))
    exact ⟨s,rfl,by rw [zkz,zkz,e1],e2,e4⟩
theorem zqR (c:DPassage) (h:Hp):Ct Try.prog 57 [.agg #[.int .i64 c.ship,.int .i64 c.seg,.bool c.toward,.int .i64 c.start,.int .i64 c.fin]] h fun v h'=>v=.agg #[.int .i64 c.ship,.int .i64 c.seg,.bool c.toward,.int .i64 c.start,.int .i64 c.fin]∧h'=h:=by
  refine zdn (fun A W=>by simp) Try.func57 rfl rfl (by simp) fun W0=>?_
  repeat' first|refine zie rfl ?_|refine zc4 rfl ?_|refine zc7 ?_|refine zc8 ?_|refine zc5 ?_|refine zc6 ?_|(simp (maxSteps:=2000000) only [go_sem,Nat.reduceAdd,Nat.reduceMul,Nat.reduceBEq,Nat.reduceLeDiff,Nat.reduceLT,Nat.reduceEqDiff];try rfl)|refine zc3 ?_|(refine And.intro ?_ ?_;focus (intros;simp_all only [Bool.or_eq_false_iff,Bool.or_eq_true,Bool.and_eq_true,and_self,true_and,and_true];done))
theorem zqS (c:DPoint) (h:Hp):Ct Try.prog 78 [.agg #[.string c.name,.bool c.wait]] h fun v h'=>v=.agg #[.string c.name,.bool c.wait]∧h'=h:=by
  refine zdn (fun A W=>by simp) Try.func78 rfl rfl (by simp) fun W0=>?_
  repeat' first|refine zie rfl ?_|refine zc4 rfl ?_|refine zc7 ?_|refine zc8 ?_|refine zc5 ?_|refine zc6 ?_|(simp (maxSteps:=2000000) only [go_sem,Nat.reduceAdd,Nat.reduceMul,Nat.reduceBEq,Nat.reduceLeDiff,Nat.reduceLT,Nat.reduceEqDiff];try rfl)|refine zc3 ?_|(refine And.intro ?_ ?_;focus (intros;simp_all only [Bool.or_eq_false_iff,Bool.or_eq_true,Bool.and_eq_true,and_self,true_and,and_true];done))
theorem zqT (c:DSegment) (h:Hp):Ct Try.prog 79 [.agg #[.int .i64 c.a,.int .i64 c.b,.int .i64 c.depth,.int .i64 c.minutes,.bool c.meet]] h fun v h'=>v=.agg #[.int .i64 c.a,.int .i64 c.b,.int .i64 c.depth,.int .i64 c.minutes,.bool c.meet]∧h'=h:=by
  refine zdn (fun A W=>by simp) Try.func79 rfl rfl (by simp) fun W0=>?_
  repeat' first|refine zie rfl ?_|refine zc4 rfl ?_|refine zc7 ?_|refine zc8 ?_|refine zc5 ?_|refine zc6 ?_|(simp (maxSteps:=2000000) only [go_sem,Nat.reduceAdd,Nat.reduceMul,Nat.reduceBEq,Nat.reduceLeDiff,Nat.reduceLT,Nat.reduceEqDiff];try rfl)|refine zc3 ?_|(refine And.intro ?_ ?_;focus (intros;simp_all only [Bool.or_eq_false_iff,Bool.or_eq_true,Bool.and_eq_true,and_self,true_and,and_true];done))
theorem zqU (c:DShip) (h:Hp):Ct Try.prog 56 [.agg #[.string c.name,.int .i64 c.length,.int .i64 c.draught,.int .i64 c.line,.int .i64 c.tugs,.bool c.slow]] h fun v h'=>v=.agg #[.string c.name,.int .i64 c.length,.int .i64 c.draught,.int .i64 c.line,.int .i64 c.tugs,.bool c.slow]∧h'=h:=by
  refine zdn (fun A W=>by simp) Try.func56 rfl rfl (by simp) fun W0=>?_
  repeat' first|refine zie rfl ?_|refine zc4 rfl ?_|refine zc7 ?_|refine zc8 ?_|refine zc5 ?_|refine zc6 ?_|(simp (maxSteps:=2000000) only [go_sem,Nat.reduceAdd,Nat.reduceMul,Nat.reduceBEq,Nat.reduceLeDiff,Nat.reduceLT,Nat.reduceEqDiff];try rfl)|refine zc3 ?_|(refine And.intro ?_ ?_;focus (intros;simp_all only [Bool.or_eq_false_iff,Bool.or_eq_true,Bool.and_eq_true,and_self,true_and,and_true];done))
theorem zqV (c:DCrew) (h:Hp) (hc:Enc.ok h c) (hb:Blk.blk c≤1048576):Ct Try.prog 22 [.agg #[.int .i64 c.tugs,.int .i64 c.pilots,.int .i64 c.rest,c.moves.val]] h fun v h'=>∃ d:DCrew,v=.agg #[.int .i64 d.tugs,.int .i64 d.pilots,.int .i64 d.rest,d.moves.val]∧Con.con d=Con.con c∧Enc.ok h' d∧Mine h h' d:=by
  rw [zk0] at hb
  obtain ⟨o_tugs,o_pilots,o_rest,o_moves⟩:=hc
  refine zdn (fun A W=>by simp) Try.func22 rfl rfl (by simp) fun W0=>?_
  repeat' first|refine zie rfl ?_|refine zc4 rfl ?_|refine zc7 ?_|refine zc8 ?_|refine zc5 ?_|refine zc6 ?_|(simp (maxSteps:=2000000) only [go_sem,Nat.reduceAdd,Nat.reduceMul,Nat.reduceBEq,Nat.reduceLeDiff,Nat.reduceLT,Nat.reduceEqDiff];try rfl)|refine zc3 ?_|(refine And.intro ?_ ?_;focus (intros;simp_all only [Bool.or_eq_false_iff,Bool.or_eq_true,Bool.and_eq_true,and_self,true_and,and_true];done))
  refine zkr (zqQ _ _ o_moves (by omega)) rfl ?_
  rintro v h_0 le_0 ⟨s_0,rfl,e_0,ok_0,m_0⟩
  repeat' first|refine zie rfl ?_|refine zc4 rfl ?_|refine zc7 ?_|refine zc8 ?_|refine zc5 ?_|refine zc6 ?_|(simp (maxSteps:=2000000) only [go_sem,Nat.reduceAdd,Nat.reduceMul,Nat.reduceBEq,Nat.reduceLeDiff,Nat.reduceLT,Nat.reduceEqDiff];try rfl)|refine zc3 ?_|(refine And.intro ?_ ?_;focus (intros;simp_all only [Bool.or_eq_false_iff,Bool.or_eq_true,Bool.and_eq_true,and_self,true_and,and_true];done))
  exact ⟨⟨c.tugs,c.pilots,c.rest,s_0⟩,rfl,by rw [zkZ,zkZ];simp only [e_0],⟨o_tugs,o_pilots,o_rest,ok_0⟩,News.mine (m_0.1) m_0.news⟩
theorem zqW (a:Sl DPassage) (h:Hp) (ha:a.Ok h) (hb:Blk.blk a≤1048576):Ct Try.prog 25 [a.val] h fun v h'=>∃ s:Sl DPassage,v=s.val∧Con.con s=Con.con a∧s.Ok h'∧Mine h h' s:=by
  have hl:a.l.length≤1048576:=Nat.le_trans (Nat.le_add_right _ _) hb
  refine zdn (fun A W=>by simp) Try.func25 rfl rfl (by simp) fun W0=>?_
  repeat' first|refine zie rfl ?_|refine zc4 rfl ?_|refine zc7 ?_|refine zc8 ?_|refine zc5 ?_|refine zc6 ?_|(simp (maxSteps:=2000000) only [go_sem,Nat.reduceAdd,Nat.reduceMul,Nat.reduceBEq,Nat.reduceLeDiff,Nat.reduceLT,Nat.reduceEqDiff];try rfl)|refine zc3 ?_|(refine And.intro ?_ ?_;focus (intros;simp_all only [Bool.or_eq_false_iff,Bool.or_eq_true,Bool.and_eq_true,and_self,true_and,and_true];done))
  refine ⟨by simp only [maxLen];omega,by omega,?_⟩
  repeat' first|refine zie rfl ?_|refine zc4 rfl ?_|refine zc7 ?_|refine zc8 ?_|refine zc5 ?_|refine zc6 ?_|(simp (maxSteps:=2000000) only [go_sem,Nat.reduceAdd,Nat.reduceMul,Nat.reduceBEq,Nat.reduceLeDiff,Nat.reduceLT,Nat.reduceEqDiff];try rfl)|refine zc3 ?_|(refine And.intro ?_ ?_;focus (intros;simp_all only [Bool.or_eq_false_iff,Bool.or_eq_true,Bool.and_eq_true,and_self,true_and,and_true];done))
  refine zde (ι:=Nat) (fun k=>⟨[(0,true,.c (.v a.val)),(3,true,.c (.s 0)),(4,true,.c (.v (.int .i64 k)))],[(0,.row 104 5 a.l.length (conv (a.l.take k) a.l.length [.int .i64 0,.int .i64 0,.bool false,.int .i64 0,.int .i64 0]))],h,1⟩) (fun k=>k≤a.l.length) (fun k=>a.l.length - k) 0 (Nat.zero_le _) ?_ ?_
  · simp (maxSteps:=2000000) only [go_sem,Nat.reduceAdd,Nat.reduceMul,Nat.reduceBEq,Nat.reduceLeDiff,Nat.reduceLT,Nat.reduceEqDiff]
    exact ⟨rfl,zj8 (zkc (α:=DPassage) (z:=#[.int .i64 0,.int .i64 0,.bool false,.int .i64 0,.int .i64 0]) (by decide))⟩
  intro k hk
  repeat' first|refine zie rfl ?_|refine zc4 rfl ?_|refine zc7 ?_|refine zc8 ?_|refine zc5 ?_|refine zc6 ?_|(simp (maxSteps:=2000000) only [go_sem,Nat.reduceAdd,Nat.reduceMul,Nat.reduceBEq,Nat.reduceLeDiff,Nat.reduceLT,Nat.reduceEqDiff];try rfl)|refine zc3 ?_|(refine And.intro ?_ ?_;focus (intros;simp_all only [Bool.or_eq_false_iff,Bool.or_eq_true,Bool.and_eq_true,and_self,true_and,and_true];done))
  refine zc9 rfl (fun hd=>?_) (fun hd=>?_)
  · have hlt:=zjH hd
    have hle:(a.l.take k).length=k:=by rw [List.length_take];omega
    repeat' first|refine zie rfl ?_|refine zc4 rfl ?_|refine zc7 ?_|refine zc8 ?_|refine zc5 ?_|refine zc6 ?_|refine zhF (fun _=>zqR _ _) ?_|(simp (maxSteps:=2000000) only [go_sem,Nat.reduceAdd,Nat.reduceMul,Nat.reduceBEq,Nat.reduceLeDiff,Nat.reduceLT,Nat.reduceEqDiff,zkU ha hlt,ha.some hlt,hlt,Int.toNat_natCast];try rfl)|refine zc3 ?_|(refine And.intro ?_ ?_;focus (intros;simp_all only [Bool.or_eq_false_iff,Bool.or_eq_true,Bool.and_eq_true,and_self,true_and,and_true];done))
    refine ⟨?_,?_⟩
    · rw [zj9 (by omega) rfl];exact Nat.le_trans (Nat.le_of_eq (by simp only [Nat.add_mul])) (Nat.mul_le_mul_right 5 (show k+1≤a.l.length from hlt))
    repeat' first|refine zie rfl ?_|refine zc4 rfl ?_|refine zc7 ?_|refine zc8 ?_|refine zc5 ?_|refine zc6 ?_|(simp (maxSteps:=2000000) only [go_sem,Nat.reduceAdd,Nat.reduceMul,Nat.reduceBEq,Nat.reduceLeDiff,Nat.reduceLT,Nat.reduceEqDiff];try rfl)|refine zc3 ?_|(refine And.intro ?_ ?_;focus (intros;simp_all only [Bool.or_eq_false_iff,Bool.or_eq_true,Bool.and_eq_true,and_self,true_and,and_true];done))
    exact ⟨k+1,hlt,by omega,zjB (zjA hlt (by omega)),zj8 (by rw [List.take_succ_eq_append_getElem hlt];exact zkb hle hlt rfl)⟩
  · have hge:=zjI hd
    refine zc6 ?_
    simp (maxSteps:=2000000) only [go_sem,Nat.reduceAdd,Nat.reduceMul,Nat.reduceBEq,Nat.reduceLeDiff,Nat.reduceLT,Nat.reduceEqDiff]
    refine zlX 0 a.l rfl rfl rfl (by rw [List.take_of_length_le hge];exact zka (Nat.le_refl _)) (by decide) (fun x hx=>by obtain ⟨i,hi,rfl⟩:=List.getElem_of_mem hx;exact ha.el hi) h (Hp.le_refl _) (Mines.flat (fun _=>rfl) (fun _=>trivial)) fun s h' e1 e2 e3 e4=>?_
    repeat' first|refine zie rfl ?_|refine zc4 rfl ?_|refine zc7 ?_|refine zc8 ?_|refine zc5 ?_|refine zc6 ?_|(simp (maxSteps:=2000000) only [go_sem,Nat.reduceAdd,Nat.reduceMul,Nat.reduceBEq,Nat.reduceLeDiff,Nat.reduceLT,Nat.reduceEqDiff];try rfl)|refine zc3 ?_|(refine And.intro ?_ ?_;focus (intros;simp_all only [Bool.or_eq_false_iff,Bool.or_eq_true,Bool.and_eq_true,and_self,true_and,and_true];done))
    exact ⟨s,rfl,by rw [zkz,zkz,e1],e2,e4⟩
theorem zqX (a:Sl DPoint) (h:Hp) (ha:a.Ok h) (hb:Blk.blk a≤1048576):Ct Try.prog 54 [a.val] h fun v h'=>∃ s:Sl DPoint,v=s.val∧Con.con s=Con.con a∧s.Ok h'∧Mine h h' s:=by
  have hl:a.l.length≤1048576:=Nat.le_trans (Nat.le_add_right _ _) hb
  refine zdn (fun A W=>by simp) Try.func54 rfl rfl (by simp) fun W0=>?_
  repeat' first|refine zie rfl ?_|refine zc4 rfl ?_|refine zc7 ?_|refine zc8 ?_|refine zc5 ?_|refine zc6 ?_|(simp (maxSteps:=2000000) only [go_sem,Nat.reduceAdd,Nat.reduceMul,Nat.reduceBEq,Nat.reduceLeDiff,Nat.reduceLT,Nat.reduceEqDiff];try rfl)|refine zc3 ?_|(refine And.intro ?_ ?_;focus (intros;simp_all only [Bool.or_eq_false_iff,Bool.or_eq_true,Bool.and_eq_true,and_self,true_and,and_true];done))
  refine ⟨by simp only [maxLen];omega,by omega,?_⟩
  repeat' first|refine zie rfl ?_|refine zc4 rfl ?_|refine zc7 ?_|refine zc8 ?_|refine zc5 ?_|refine zc6 ?_|(simp (maxSteps:=2000000) only [go_sem,Nat.reduceAdd,Nat.reduceMul,Nat.reduceBEq,Nat.reduceLeDiff,Nat.reduceLT,Nat.reduceEqDiff];try rfl)|refine zc3 ?_|(refine And.intro ?_ ?_;focus (intros;simp_all only [Bool.or_eq_false_iff,Bool.or_eq_true,Bool.and_eq_true,and_self,true_and,and_true];done))
  refine zde (ι:=Nat) (fun k=>⟨[(0,true,.c (.v a.val)),(3,true,.c (.s 0)),(4,true,.c (.v (.int .i64 k)))],[(0,.row 127 2 a.l.length (conv (a.l.take k) a.l.length [.string ByteArray.empty,.bool false]))],h,1⟩) (fun k=>k≤a.l.length) (fun k=>a.l.length - k) 0 (Nat.zero_le _) ?_ ?_
  · simp (maxSteps:=2000000) only [go_sem,Nat.reduceAdd,Nat.reduceMul,Nat.reduceBEq,Nat.reduceLeDiff,Nat.reduceLT,Nat.reduceEqDiff]
    exact ⟨rfl,zj8 (zkc (α:=DPoint) (z:=#[.string ByteArray.empty,.bool false]) (by decide))⟩
  intro k hk
  repeat' first|refine zie rfl ?_|refine zc4 rfl ?_|refine zc7 ?_|refine zc8 ?_|refine zc5 ?_|refine zc6 ?_|(simp (maxSteps:=2000000) only [go_sem,Nat.reduceAdd,Nat.reduceMul,Nat.reduceBEq,Nat.reduceLeDiff,Nat.reduceLT,Nat.reduceEqDiff];try rfl)|refine zc3 ?_|(refine And.intro ?_ ?_;focus (intros;simp_all only [Bool.or_eq_false_iff,Bool.or_eq_true,Bool.and_eq_true,and_self,true_and,and_true];done))
  refine zc9 rfl (fun hd=>?_) (fun hd=>?_)
  · have hlt:=zjH hd
    have hle:(a.l.take k).length=k:=by rw [List.length_take];omega
    repeat' first|refine zie rfl ?_|refine zc4 rfl ?_|refine zc7 ?_|refine zc8 ?_|refine zc5 ?_|refine zc6 ?_|refine zhF (fun _=>zqS _ _) ?_|(simp (maxSteps:=2000000) only [go_sem,Nat.reduceAdd,Nat.reduceMul,Nat.reduceBEq,Nat.reduceLeDiff,Nat.reduceLT,Nat.reduceEqDiff,zlb ha hlt,ha.some hlt,hlt,Int.toNat_natCast];try rfl)|refine zc3 ?_|(refine And.intro ?_ ?_;focus (intros;simp_all only [Bool.or_eq_false_iff,Bool.or_eq_true,Bool.and_eq_true,and_self,true_and,and_true];done))
    refine ⟨?_,?_⟩
    · rw [zj9 (by omega) rfl];exact Nat.le_trans (Nat.le_of_eq (by simp only [Nat.add_mul])) (Nat.mul_le_mul_right 2 (show k+1≤a.l.length from hlt))
    repeat' first|refine zie rfl ?_|refine zc4 rfl ?_|refine zc7 ?_|refine zc8 ?_|refine zc5 ?_|refine zc6 ?_|(simp (maxSteps:=2000000) only [go_sem,Nat.reduceAdd,Nat.reduceMul,Nat.reduceBEq,Nat.reduceLeDiff,Nat.reduceLT,Nat.reduceEqDiff];try rfl)|refine zc3 ?_|(refine And.intro ?_ ?_;focus (intros;simp_all only [Bool.or_eq_false_iff,Bool.or_eq_true,Bool.and_eq_true,and_self,true_and,and_true];done))
    exact ⟨k+1,hlt,by omega,zjB (zjA hlt (by omega)),zj8 (by rw [List.take_succ_eq_append_getElem hlt];exact zkb hle hlt rfl)⟩
  · have hge:=zjI hd
    refine zc6 ?_
    simp (maxSteps:=2000000) only [go_sem,Nat.reduceAdd,Nat.reduceMul,Nat.reduceBEq,Nat.reduceLeDiff,Nat.reduceLT,Nat.reduceEqDiff]
    refine zlX 0 a.l rfl rfl rfl (by rw [List.take_of_length_le hge];exact zka (Nat.le_refl _)) (by decide) (fun x hx=>by obtain ⟨i,hi,rfl⟩:=List.getElem_of_mem hx;exact ha.el hi) h (Hp.le_refl _) (Mines.flat (fun _=>rfl) (fun _=>trivial)) fun s h' e1 e2 e3 e4=>?_
    repeat' first|refine zie rfl ?_|refine zc4 rfl ?_|refine zc7 ?_|refine zc8 ?_|refine zc5 ?_|refine zc6 ?_|(simp (maxSteps:=2000000) only [go_sem,Nat.reduceAdd,Nat.reduceMul,Nat.reduceBEq,Nat.reduceLeDiff,Nat.reduceLT,Nat.reduceEqDiff];try rfl)|refine zc3 ?_|(refine And.intro ?_ ?_;focus (intros;simp_all only [Bool.or_eq_false_iff,Bool.or_eq_true,Bool.and_eq_true,and_self,true_and,and_true];done))
    exact ⟨s,rfl,by rw [zkz,zkz,e1],e2,e4⟩
theorem zqY (a:Sl DSegment) (h:Hp) (ha:a.Ok h) (hb:Blk.blk a≤1048576):Ct Try.prog 55 [a.val] h fun v h'=>∃ s:Sl DSegment,v=s.val∧Con.con s=Con.con a∧s.Ok h'∧Mine h h' s:=by
  have hl:a.l.length≤1048576:=Nat.le_trans (Nat.le_add_right _ _) hb
  refine zdn (fun A W=>by simp) Try.func55 rfl rfl (by simp) fun W0=>?_
  repeat' first|refine zie rfl ?_|refine zc4 rfl ?_|refine zc7 ?_|refine zc8 ?_|refine zc5 ?_|refine zc6 ?_|(simp (maxSteps:=2000000) only [go_sem,Nat.reduceAdd,Nat.reduceMul,Nat.reduceBEq,Nat.reduceLeDiff,Nat.reduceLT,Nat.reduceEqDiff];try rfl)|refine zc3 ?_|(refine And.intro ?_ ?_;focus (intros;simp_all only [Bool.or_eq_false_iff,Bool.or_eq_true,Bool.and_eq_true,and_self,true_and,and_true];done))
  refine ⟨by simp only [maxLen];omega,by omega,?_⟩
  repeat' first|refine zie rfl ?_|refine zc4 rfl ?_|refine zc7 ?_|refine zc8 ?_|refine zc5 ?_|refine zc6 ?_|(simp (maxSteps:=2000000) only [go_sem,Nat.reduceAdd,Nat.reduceMul,Nat.reduceBEq,Nat.reduceLeDiff,Nat.reduceLT,Nat.reduceEqDiff];try rfl)|refine zc3 ?_|(refine And.intro ?_ ?_;focus (intros;simp_all only [Bool.or_eq_false_iff,Bool.or_eq_true,Bool.and_eq_true,and_self,true_and,and_true];done))
  refine zde (ι:=Nat) (fun k=>⟨[(0,true,.c (.v a.val)),(3,true,.c (.s 0)),(4,true,.c (.v (.int .i64 k)))],[(0,.row 130 5 a.l.length (conv (a.l.take k) a.l.length [.int .i64 0,.int .i64 0,.int .i64 0,.int .i64 0,.bool false]))],h,1⟩) (fun k=>k≤a.l.length) (fun k=>a.l.length - k) 0 (Nat.zero_le _) ?_ ?_
  · simp (maxSteps:=2000000) only [go_sem,Nat.reduceAdd,Nat.reduceMul,Nat.reduceBEq,Nat.reduceLeDiff,Nat.reduceLT,Nat.reduceEqDiff]
    exact ⟨rfl,zj8 (zkc (α:=DSegment) (z:=#[.int .i64 0,.int .i64 0,.int .i64 0,.int .i64 0,.bool false]) (by decide))⟩
  intro k hk
  repeat' first|refine zie rfl ?_|refine zc4 rfl ?_|refine zc7 ?_|refine zc8 ?_|refine zc5 ?_|refine zc6 ?_|(simp (maxSteps:=2000000) only [go_sem,Nat.reduceAdd,Nat.reduceMul,Nat.reduceBEq,Nat.reduceLeDiff,Nat.reduceLT,Nat.reduceEqDiff];try rfl)|refine zc3 ?_|(refine And.intro ?_ ?_;focus (intros;simp_all only [Bool.or_eq_false_iff,Bool.or_eq_true,Bool.and_eq_true,and_self,true_and,and_true];done))
  refine zc9 rfl (fun hd=>?_) (fun hd=>?_)
  · have hlt:=zjH hd
    have hle:(a.l.take k).length=k:=by rw [List.length_take];omega
    repeat' first|refine zie rfl ?_|refine zc4 rfl ?_|refine zc7 ?_|refine zc8 ?_|refine zc5 ?_|refine zc6 ?_|refine zhF (fun _=>zqT _ _) ?_|(simp (maxSteps:=2000000) only [go_sem,Nat.reduceAdd,Nat.reduceMul,Nat.reduceBEq,Nat.reduceLeDiff,Nat.reduceLT,Nat.reduceEqDiff,zld ha hlt,ha.some hlt,hlt,Int.toNat_natCast];try rfl)|refine zc3 ?_|(refine And.intro ?_ ?_;focus (intros;simp_all only [Bool.or_eq_false_iff,Bool.or_eq_true,Bool.and_eq_true,and_self,true_and,and_true];done))
    refine ⟨?_,?_⟩
    · rw [zj9 (by omega) rfl];exact Nat.le_trans (Nat.le_of_eq (by simp only [Nat.add_mul])) (Nat.mul_le_mul_right 5 (show k+1≤a.l.length from hlt))
    repeat' first|refine zie rfl ?_|refine zc4 rfl ?_|refine zc7 ?_|refine zc8 ?_|refine zc5 ?_|refine zc6 ?_|(simp (maxSteps:=2000000) only [go_sem,Nat.reduceAdd,Nat.reduceMul,Nat.reduceBEq,Nat.reduceLeDiff,Nat.reduceLT,Nat.reduceEqDiff];try rfl)|refine zc3 ?_|(refine And.intro ?_ ?_;focus (intros;simp_all only [Bool.or_eq_false_iff,Bool.or_eq_true,Bool.and_eq_true,and_self,true_and,and_true];done))
    exact ⟨k+1,hlt,by omega,zjB (zjA hlt (by omega)),zj8 (by rw [List.take_succ_eq_append_getElem hlt];exact zkb hle hlt rfl)⟩
  · have hge:=zjI hd
    refine zc6 ?_
    simp (maxSteps:=2000000) only [go_sem,Nat.reduceAdd,Nat.reduceMul,Nat.reduceBEq,Nat.reduceLeDiff,Nat.reduceLT,Nat.reduceEqDiff]
    refine zlX 0 a.l rfl rfl rfl (by rw [List.take_of_length_le hge];exact zka (Nat.le_refl _)) (by decide) (fun x hx=>by obtain ⟨i,hi,rfl⟩:=List.getElem_of_mem hx;exact ha.el hi) h (Hp.le_refl _) (Mines.flat (fun _=>rfl) (fun _=>trivial)) fun s h' e1 e2 e3 e4=>?_
    repeat' first|refine zie rfl ?_|refine zc4 rfl ?_|refine zc7 ?_|refine zc8 ?_|refine zc5 ?_|refine zc6 ?_|(simp (maxSteps:=2000000) only [go_sem,Nat.reduceAdd,Nat.reduceMul,Nat.reduceBEq,Nat.reduceLeDiff,Nat.reduceLT,Nat.reduceEqDiff];try rfl)|refine zc3 ?_|(refine And.intro ?_ ?_;focus (intros;simp_all only [Bool.or_eq_false_iff,Bool.or_eq_true,Bool.and_eq_true,and_self,true_and,and_true];done))
    exact ⟨s,rfl,by rw [zkz,zkz,e1],e2,e4⟩
theorem zqZ (a:Sl DShip) (h:Hp) (ha:a.Ok h) (hb:Blk.blk a≤1048576):Ct Try.prog 24 [a.val] h fun v h'=>∃ s:Sl DShip,v=s.val∧Con.con s=Con.con a∧s.Ok h'∧Mine h h' s:=by
  have hl:a.l.length≤1048576:=Nat.le_trans (Nat.le_add_right _ _) hb
  refine zdn (fun A W=>by simp) Try.func24 rfl rfl (by simp) fun W0=>?_
  repeat' first|refine zie rfl ?_|refine zc4 rfl ?_|refine zc7 ?_|refine zc8 ?_|refine zc5 ?_|refine zc6 ?_|(simp (maxSteps:=2000000) only [go_sem,Nat.reduceAdd,Nat.reduceMul,Nat.reduceBEq,Nat.reduceLeDiff,Nat.reduceLT,Nat.reduceEqDiff];try rfl)|refine zc3 ?_|(refine And.intro ?_ ?_;focus (intros;simp_all only [Bool.or_eq_false_iff,Bool.or_eq_true,Bool.and_eq_true,and_self,true_and,and_true];done))
  refine ⟨by simp only [maxLen];omega,by omega,?_⟩
  repeat' first|refine zie rfl ?_|refine zc4 rfl ?_|refine zc7 ?_|refine zc8 ?_|refine zc5 ?_|refine zc6 ?_|(simp (maxSteps:=2000000) only [go_sem,Nat.reduceAdd,Nat.reduceMul,Nat.reduceBEq,Nat.reduceLeDiff,Nat.reduceLT,Nat.reduceEqDiff];try rfl)|refine zc3 ?_|(refine And.intro ?_ ?_;focus (intros;simp_all only [Bool.or_eq_false_iff,Bool.or_eq_true,Bool.and_eq_true,and_self,true_and,and_true];done))
  refine zde (ι:=Nat) (fun k=>⟨[(0,true,.c (.v a.val)),(3,true,.c (.s 0)),(4,true,.c (.v (.int .i64 k)))],[(0,.row 101 6 a.l.length (conv (a.l.take k) a.l.length [.string ByteArray.empty,.int .i64 0,.int .i64 0,.int .i64 0,.int .i64 0,.bool false]))],h,1⟩) (fun k=>k≤a.l.length) (fun k=>a.l.length - k) 0 (Nat.zero_le _) ?_ ?_
  · simp (maxSteps:=2000000) only [go_sem,Nat.reduceAdd,Nat.reduceMul,Nat.reduceBEq,Nat.reduceLeDiff,Nat.reduceLT,Nat.reduceEqDiff]
    exact ⟨rfl,zj8 (zkc (α:=DShip) (z:=#[.string ByteArray.empty,.int .i64 0,.int .i64 0,.int .i64 0,.int .i64 0,.bool false]) (by decide))⟩
  intro k hk
  repeat' first|refine zie rfl ?_|refine zc4 rfl ?_|refine zc7 ?_|refine zc8 ?_|refine zc5 ?_|refine zc6 ?_|(simp (maxSteps:=2000000) only [go_sem,Nat.reduceAdd,Nat.reduceMul,Nat.reduceBEq,Nat.reduceLeDiff,Nat.reduceLT,Nat.reduceEqDiff];try rfl)|refine zc3 ?_|(refine And.intro ?_ ?_;focus (intros;simp_all only [Bool.or_eq_false_iff,Bool.or_eq_true,Bool.and_eq_true,and_self,true_and,and_true];done))
  refine zc9 rfl (fun hd=>?_) (fun hd=>?_)
  · have hlt:=zjH hd
    have hle:(a.l.take k).length=k:=by rw [List.length_take];omega
    repeat' first|refine zie rfl ?_|refine zc4 rfl ?_|refine zc7 ?_|refine zc8 ?_|refine zc5 ?_|refine zc6 ?_|refine zhF (fun _=>zqU _ _) ?_|(simp (maxSteps:=2000000) only [go_sem,Nat.reduceAdd,Nat.reduceMul,Nat.reduceBEq,Nat.reduceLeDiff,Nat.reduceLT,Nat.reduceEqDiff,zlj ha hlt,ha.some hlt,hlt,Int.toNat_natCast];try rfl)|refine zc3 ?_|(refine And.intro ?_ ?_;focus (intros;simp_all only [Bool.or_eq_false_iff,Bool.or_eq_true,Bool.and_eq_true,and_self,true_and,and_true];done))
    refine ⟨?_,?_⟩
    · rw [zj9 (by omega) rfl];exact Nat.le_trans (Nat.le_of_eq (by simp only [Nat.add_mul])) (Nat.mul_le_mul_right 6 (show k+1≤a.l.length from hlt))
    repeat' first|refine zie rfl ?_|refine zc4 rfl ?_|refine zc7 ?_|refine zc8 ?_|refine zc5 ?_|refine zc6 ?_|(simp (maxSteps:=2000000) only [go_sem,Nat.reduceAdd,Nat.reduceMul,Nat.reduceBEq,Nat.reduceLeDiff,Nat.reduceLT,Nat.reduceEqDiff];try rfl)|refine zc3 ?_|(refine And.intro ?_ ?_;focus (intros;simp_all only [Bool.or_eq_false_iff,Bool.or_eq_true,Bool.and_eq_true,and_self,true_and,and_true];done))
    exact ⟨k+1,hlt,by omega,zjB (zjA hlt (by omega)),zj8 (by rw [List.take_succ_eq_append_getElem hlt];exact zkb hle hlt rfl)⟩
  · have hge:=zjI hd
    refine zc6 ?_
    simp (maxSteps:=2000000) only [go_sem,Nat.reduceAdd,Nat.reduceMul,Nat.reduceBEq,Nat.reduceLeDiff,Nat.reduceLT,Nat.reduceEqDiff]
    refine zlX 0 a.l rfl rfl rfl (by rw [List.take_of_length_le hge];exact zka (Nat.le_refl _)) (by decide) (fun x hx=>by obtain ⟨i,hi,rfl⟩:=List.getElem_of_mem hx;exact ha.el hi) h (Hp.le_refl _) (Mines.flat (fun _=>rfl) (fun _=>trivial)) fun s h' e1 e2 e3 e4=>?_
    repeat' first|refine zie rfl ?_|refine zc4 rfl ?_|refine zc7 ?_|refine zc8 ?_|refine zc5 ?_|refine zc6 ?_|(simp (maxSteps:=2000000) only [go_sem,Nat.reduceAdd,Nat.reduceMul,Nat.reduceBEq,Nat.reduceLeDiff,Nat.reduceLT,Nat.reduceEqDiff];try rfl)|refine zc3 ?_|(refine And.intro ?_ ?_;focus (intros;simp_all only [Bool.or_eq_false_iff,Bool.or_eq_true,Bool.and_eq_true,and_self,true_and,and_true];done))
    exact ⟨s,rfl,by rw [zkz,zkz,e1],e2,e4⟩
theorem zq0 (c:DChart) (h:Hp) (hc:Enc.ok h c) (hb:Blk.blk c≤1048576):Ct Try.prog 23 [.agg #[c.points.val,c.segments.val]] h fun v h'=>∃ d:DChart,v=.agg #[d.points.val,d.segments.val]∧Con.con d=Con.con c∧Enc.ok h' d∧Mine h h' d:=by
  rw [zlg] at hb
  obtain ⟨o_points,o_segments⟩:=hc
  refine zdn (fun A W=>by simp) Try.func23 rfl rfl (by simp) fun W0=>?_
  repeat' first|refine zie rfl ?_|refine zc4 rfl ?_|refine zc7 ?_|refine zc8 ?_|refine zc5 ?_|refine zc6 ?_|(simp (maxSteps:=2000000) only [go_sem,Nat.reduceAdd,Nat.reduceMul,Nat.reduceBEq,Nat.reduceLeDiff,Nat.reduceLT,Nat.reduceEqDiff];try rfl)|refine zc3 ?_|(refine And.intro ?_ ?_;focus (intros;simp_all only [Bool.or_eq_false_iff,Bool.or_eq_true,Bool.and_eq_true,and_self,true_and,and_true];done))
  refine zkr (zqX _ _ o_points (by omega)) rfl ?_
  rintro v h_0 le_0 ⟨s_0,rfl,e_0,ok_0,m_0⟩
  repeat' first|refine zie rfl ?_|refine zc4 rfl ?_|refine zc7 ?_|refine zc8 ?_|refine zc5 ?_|refine zc6 ?_|(simp (maxSteps:=2000000) only [go_sem,Nat.reduceAdd,Nat.reduceMul,Nat.reduceBEq,Nat.reduceLeDiff,Nat.reduceLT,Nat.reduceEqDiff];try rfl)|refine zc3 ?_|(refine And.intro ?_ ?_;focus (intros;simp_all only [Bool.or_eq_false_iff,Bool.or_eq_true,Bool.and_eq_true,and_self,true_and,and_true];done))
  refine zkr (zqY _ _ (o_segments.mono le_0) (by omega)) rfl ?_
  rintro v h_1 le_1 ⟨s_1,rfl,e_1,ok_1,m_1⟩
  repeat' first|refine zie rfl ?_|refine zc4 rfl ?_|refine zc7 ?_|refine zc8 ?_|refine zc5 ?_|refine zc6 ?_|(simp (maxSteps:=2000000) only [go_sem,Nat.reduceAdd,Nat.reduceMul,Nat.reduceBEq,Nat.reduceLeDiff,Nat.reduceLT,Nat.reduceEqDiff];try rfl)|refine zc3 ?_|(refine And.intro ?_ ?_;focus (intros;simp_all only [Bool.or_eq_false_iff,Bool.or_eq_true,Bool.and_eq_true,and_self,true_and,and_true];done))
  exact ⟨⟨s_0,s_1⟩,rfl,by rw [zlf,zlf];simp only [e_0,e_1],⟨ok_0.mono le_1,ok_1⟩,News.mine ⟨(Mine.on le_1 ok_0 m_0).1,m_1.1⟩ (m_0.news.append le_0 le_1 m_1.news)⟩
theorem zxi (a:Sl (Sl DPassage)) (h:Hp) (ha:a.Ok h) (hb:Blk.blk a≤1048576):Ct Try.prog 33 [a.val] h fun v h'=>∃ s:Sl (Sl DPassage),v=s.val∧Con.con s=Con.con a∧s.Ok h'∧Mine h h' s:=by
  have hl:a.l.length≤1048576:=Nat.le_trans (Nat.le_add_right _ _) hb
  refine zdn (fun A W=>by simp) Try.func33 rfl rfl (by simp) fun W0=>?_
  repeat' first|refine zie rfl ?_|refine zc4 rfl ?_|refine zc7 ?_|refine zc8 ?_|refine zc5 ?_|refine zc6 ?_|(simp (maxSteps:=2000000) only [go_sem,Nat.reduceAdd,Nat.reduceMul,Nat.reduceBEq,Nat.reduceLeDiff,Nat.reduceLT,Nat.reduceEqDiff];try rfl)|refine zc3 ?_|(refine And.intro ?_ ?_;focus (intros;simp_all only [Bool.or_eq_false_iff,Bool.or_eq_true,Bool.and_eq_true,and_self,true_and,and_true];done))
  refine ⟨by simp only [maxLen];omega,by omega,?_⟩
  repeat' first|refine zie rfl ?_|refine zc4 rfl ?_|refine zc7 ?_|refine zc8 ?_|refine zc5 ?_|refine zc6 ?_|(simp (maxSteps:=2000000) only [go_sem,Nat.reduceAdd,Nat.reduceMul,Nat.reduceBEq,Nat.reduceLeDiff,Nat.reduceLT,Nat.reduceEqDiff];try rfl)|refine zc3 ?_|(refine And.intro ?_ ?_;focus (intros;simp_all only [Bool.or_eq_false_iff,Bool.or_eq_true,Bool.and_eq_true,and_self,true_and,and_true];done))
  refine zde (ι:=Nat × List (Sl DPassage) × Hp) (fun i=>match i with|(k,ds,hk)=>⟨[(0,true,.c (.v a.val)),(3,true,.c (.s 0)),(4,true,.c (.v (.int .i64 k)))],[(0,.row 57 1 a.l.length (conv ds a.l.length [.slice none 0 0]))],hk,1⟩) (fun i=>i.1≤a.l.length∧i.2.1.length=i.1∧i.2.1.map Con.con=(Con.con a).take i.1∧(∀ d ∈ i.2.1,Enc.ok i.2.2 d)∧h.le i.2.2∧Mines h i.2.2 i.2.1) (fun i=>a.l.length - i.1) (0,[],h) ⟨Nat.zero_le _,rfl,rfl,fun _ h=>(by cases h),Hp.le_refl _,Mines.nil⟩ ?_ ?_
  · simp (maxSteps:=2000000) only [go_sem,Nat.reduceAdd,Nat.reduceMul,Nat.reduceBEq,Nat.reduceLeDiff,Nat.reduceLT,Nat.reduceEqDiff]
    exact ⟨rfl,zj8 (zkc (α:=(Sl DPassage)) (z:=#[.slice none 0 0]) (by decide))⟩
  rintro ⟨k,ds,hk⟩ ⟨hi,hn,hm,ho,hle,hmi⟩
  simp only at hi hn hm ho hle hmi
  have ha':=ha.mono hle
  repeat' first|refine zie rfl ?_|refine zc4 rfl ?_|refine zc7 ?_|refine zc8 ?_|refine zc5 ?_|refine zc6 ?_|(simp (maxSteps:=2000000) only [go_sem,Nat.reduceAdd,Nat.reduceMul,Nat.reduceBEq,Nat.reduceLeDiff,Nat.reduceLT,Nat.reduceEqDiff];try rfl)|refine zc3 ?_|(refine And.intro ?_ ?_;focus (intros;simp_all only [Bool.or_eq_false_iff,Bool.or_eq_true,Bool.and_eq_true,and_self,true_and,and_true];done))
  refine zc9 rfl (fun hd=>?_) (fun hd=>?_)
  · have hlt:=zjH hd
    have hbk:Blk.blk a.l[k]≤1048576:=by
      have h1:=zxd (List.mem_map_of_mem (f:=Blk.blk) (List.getElem_mem hlt))
      rw [zkC] at hb;omega
    repeat' first|refine zie rfl ?_|refine zc4 rfl ?_|refine zc7 ?_|refine zc8 ?_|refine zc5 ?_|refine zc6 ?_|(simp (maxSteps:=2000000) only [go_sem,Nat.reduceAdd,Nat.reduceMul,Nat.reduceBEq,Nat.reduceLeDiff,Nat.reduceLT,Nat.reduceEqDiff,zkQ ha' hlt,ha.some hlt,hlt,Int.toNat_natCast];try rfl)|refine zc3 ?_|(refine And.intro ?_ ?_;focus (intros;simp_all only [Bool.or_eq_false_iff,Bool.or_eq_true,Bool.and_eq_true,and_self,true_and,and_true];done))
    refine zkr (zqW _ _ (ha'.el hlt) hbk) rfl ?_
    rintro v h1 hle1 ⟨d,rfl,e1,e2,e3⟩
    repeat' first|refine zie rfl ?_|refine zc4 rfl ?_|refine zc7 ?_|refine zc8 ?_|refine zc5 ?_|refine zc6 ?_|(simp (maxSteps:=2000000) only [go_sem,Nat.reduceAdd,Nat.reduceMul,Nat.reduceBEq,Nat.reduceLeDiff,Nat.reduceLT,Nat.reduceEqDiff];try rfl)|refine zc3 ?_|(refine And.intro ?_ ?_;focus (intros;simp_all only [Bool.or_eq_false_iff,Bool.or_eq_true,Bool.and_eq_true,and_self,true_and,and_true];done))
    refine ⟨?_,?_⟩
    · rw [zj9 (by omega) rfl];exact Nat.le_trans (Nat.le_of_eq (by simp only [Nat.add_mul])) (Nat.mul_le_mul_right 1 (show k+1≤a.l.length from hlt))
    repeat' first|refine zie rfl ?_|refine zc4 rfl ?_|refine zc7 ?_|refine zc8 ?_|refine zc5 ?_|refine zc6 ?_|(simp (maxSteps:=2000000) only [go_sem,Nat.reduceAdd,Nat.reduceMul,Nat.reduceBEq,Nat.reduceLeDiff,Nat.reduceLT,Nat.reduceEqDiff];try rfl)|refine zc3 ?_|(refine And.intro ?_ ?_;focus (intros;simp_all only [Bool.or_eq_false_iff,Bool.or_eq_true,Bool.and_eq_true,and_self,true_and,and_true];done))
    refine ⟨(k+1,ds ++ [d],h1),⟨hlt,by simp [hn],?_,?_,Hp.le_trans hle hle1,hmi.snoc ho hle1 hle e3⟩,by simp only;omega,?_⟩
    · have gA:(Con.con a)[k]'(by rw [zkz,List.length_map];exact hlt)=Con.con a.l[k]:=List.getElem_map ..
      rw [List.map_append,hm,List.take_succ_eq_append_getElem (by rw [zkz,List.length_map];exact hlt),gA,← e1];rfl
    · intro x hx
      rcases List.mem_append.1 hx with hx|hx
      · exact Enc.mono hle1 (ho x hx)
      · rw [List.mem_singleton.1 hx];exact e2
    · simp (maxSteps:=2000000) only [go_sem,Nat.reduceAdd,Nat.reduceMul,Nat.reduceBEq,Nat.reduceLeDiff,Nat.reduceLT,Nat.reduceEqDiff]
      exact ⟨zjB (zjA hlt (by omega)),zj8 (zkb hn hlt rfl)⟩
  · have hge:=zjI hd
    have hke:k=a.l.length:=Nat.le_antisymm hi hge
    refine zc6 ?_
    simp (maxSteps:=2000000) only [go_sem,Nat.reduceAdd,Nat.reduceMul,Nat.reduceBEq,Nat.reduceLeDiff,Nat.reduceLT,Nat.reduceEqDiff]
    refine zlX 0 ds rfl rfl (by omega) (zka (by omega)) (by decide) ho h hle hmi fun s h' e1 e2 e3 e4=>?_
    repeat' first|refine zie rfl ?_|refine zc4 rfl ?_|refine zc7 ?_|refine zc8 ?_|refine zc5 ?_|refine zc6 ?_|(simp (maxSteps:=2000000) only [go_sem,Nat.reduceAdd,Nat.reduceMul,Nat.reduceBEq,Nat.reduceLeDiff,Nat.reduceLT,Nat.reduceEqDiff];try rfl)|refine zc3 ?_|(refine And.intro ?_ ?_;focus (intros;simp_all only [Bool.or_eq_false_iff,Bool.or_eq_true,Bool.and_eq_true,and_self,true_and,and_true];done))
    exact ⟨s,rfl,by rw [zkz,e1,hm,hke,List.take_of_length_le (by rw [zkz,List.length_map];exact Nat.le_refl _)],e2,e4⟩
end Go.Proofs.Ytjiggadgmmjnhaa
