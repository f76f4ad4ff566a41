/- What functions of the given program compute, each as a contract over what its arguments read as. No condition beside those that each theorem states. -/
import Derived.Test.YtjiggadgmmjnhaaProg
import Derived.Test.YtjiggadgmmjnhaaS2
set_option linter.unusedVariables false
set_option linter.unusedSimpArgs false
namespace Go.Proofs.Ytjiggadgmmjnhaa
open Go Go.SL
@[go_sem] theorem ty_1:hasT Try.prog 1=true∧szT Try.prog 1=1∧Try.prog.bytesOf 1=8∧aggT Try.prog 1=false∧zaX Try.prog 1=none∧arrT Try.prog 1=none∧zbF Try.prog 1=some [.nilFunc]:=⟨by kernel_rfl,by kernel_rfl,by kernel_rfl,by kernel_rfl,by kernel_rfl,by kernel_rfl,by kernel_rfl⟩
@[go_sem] theorem ty_2:hasT Try.prog 2=true∧szT Try.prog 2=1∧Try.prog.bytesOf 2=8∧aggT Try.prog 2=false∧zaX Try.prog 2=none∧arrT Try.prog 2=none∧zbF Try.prog 2=some [.int .i64 0]∧intT Try.prog 2=some .i64:=⟨by kernel_rfl,by kernel_rfl,by kernel_rfl,by kernel_rfl,by kernel_rfl,by kernel_rfl,by kernel_rfl,by kernel_rfl⟩
attribute [go_sem] Try.underlying2
@[go_sem] theorem ty_3:hasT Try.prog 3=true∧szT Try.prog 3=1∧Try.prog.bytesOf 3=8∧aggT Try.prog 3=false∧zaX Try.prog 3=none∧arrT Try.prog 3=none∧zbF Try.prog 3=some [.int .i64 0]∧intT Try.prog 3=some .i64:=⟨by kernel_rfl,by kernel_rfl,by kernel_rfl,by kernel_rfl,by kernel_rfl,by kernel_rfl,by kernel_rfl,by kernel_rfl⟩
attribute [go_sem] Try.underlying3
@[go_sem] theorem ty_4:hasT Try.prog 4=true∧szT Try.prog 4=1∧Try.prog.bytesOf 4=1∧aggT Try.prog 4=false∧zaX Try.prog 4=none∧arrT Try.prog 4=none∧zbF Try.prog 4=some [.bool false]:=⟨by kernel_rfl,by kernel_rfl,by kernel_rfl,by kernel_rfl,by kernel_rfl,by kernel_rfl,by kernel_rfl⟩
attribute [go_sem] Try.underlying4
@[go_sem] theorem ty_5:hasT Try.prog 5=true∧szT Try.prog 5=1∧Try.prog.bytesOf 5=1∧aggT Try.prog 5=false∧zaX Try.prog 5=none∧arrT Try.prog 5=none∧zbF Try.prog 5=some [.int .u8 0]∧intT Try.prog 5=some .u8:=⟨by kernel_rfl,by kernel_rfl,by kernel_rfl,by kernel_rfl,by kernel_rfl,by kernel_rfl,by kernel_rfl,by kernel_rfl⟩
attribute [go_sem] Try.underlying5
@[go_sem] theorem ty_9:hasT Try.prog 9=true∧szT Try.prog 9=1∧Try.prog.bytesOf 9=16∧aggT Try.prog 9=false∧zaX Try.prog 9=none∧arrT Try.prog 9=none∧zbF Try.prog 9=some [.string ByteArray.empty]∧strT Try.prog 9=true:=⟨by kernel_rfl,by kernel_rfl,by kernel_rfl,by kernel_rfl,by kernel_rfl,by kernel_rfl,by kernel_rfl,by kernel_rfl⟩
attribute [go_sem] Try.underlying9
@[go_sem] theorem zmI:hasT Try.prog 22=true∧szT Try.prog 22=1∧Try.prog.bytesOf 22=24∧aggT Try.prog 22=false∧zaX Try.prog 22=some 3∧arrT Try.prog 22=none∧zbF Try.prog 22=some [.slice none 0 0]:=⟨by kernel_rfl,by kernel_rfl,by kernel_rfl,by kernel_rfl,by kernel_rfl,by kernel_rfl,by kernel_rfl⟩
@[go_sem] theorem zwW:hasT Try.prog 23=true∧szT Try.prog 23=1∧Try.prog.bytesOf 23=24∧aggT Try.prog 23=false∧zaX Try.prog 23=some 81∧arrT Try.prog 23=none∧zbF Try.prog 23=some [.slice none 0 0]:=⟨by kernel_rfl,by kernel_rfl,by kernel_rfl,by kernel_rfl,by kernel_rfl,by kernel_rfl,by kernel_rfl⟩
@[go_sem] theorem zmJ:hasT Try.prog 24=true∧szT Try.prog 24=1∧Try.prog.bytesOf 24=8∧aggT Try.prog 24=false∧zaX Try.prog 24=none∧arrT Try.prog 24=none∧zbF Try.prog 24=some [.nilFunc]:=⟨by kernel_rfl,by kernel_rfl,by kernel_rfl,by kernel_rfl,by kernel_rfl,by kernel_rfl,by kernel_rfl⟩
@[go_sem] theorem zmK:hasT Try.prog 28=true∧szT Try.prog 28=1∧Try.prog.bytesOf 28=24∧aggT Try.prog 28=false∧zaX Try.prog 28=some 79∧arrT Try.prog 28=none∧zbF Try.prog 28=some [.slice none 0 0]:=⟨by kernel_rfl,by kernel_rfl,by kernel_rfl,by kernel_rfl,by kernel_rfl,by kernel_rfl,by kernel_rfl⟩
@[go_sem] theorem zmL:hasT Try.prog 32=true∧szT Try.prog 32=1∧Try.prog.bytesOf 32=8∧aggT Try.prog 32=false∧zaX Try.prog 32=none∧arrT Try.prog 32=none∧zbF Try.prog 32=some [.nilFunc]:=⟨by kernel_rfl,by kernel_rfl,by kernel_rfl,by kernel_rfl,by kernel_rfl,by kernel_rfl,by kernel_rfl⟩
@[go_sem] theorem zm0:hasT Try.prog 56=true∧szT Try.prog 56=1∧Try.prog.bytesOf 56=8∧aggT Try.prog 56=false∧zaX Try.prog 56=none∧arrT Try.prog 56=none∧zbF Try.prog 56=some [.nilFunc]:=⟨by kernel_rfl,by kernel_rfl,by kernel_rfl,by kernel_rfl,by kernel_rfl,by kernel_rfl,by kernel_rfl⟩
@[go_sem] theorem zm2:hasT Try.prog 74=true∧szT Try.prog 74=1∧Try.prog.bytesOf 74=24∧aggT Try.prog 74=false∧zaX Try.prog 74=some 115∧arrT Try.prog 74=none∧zbF Try.prog 74=some [.slice none 0 0]:=⟨by kernel_rfl,by kernel_rfl,by kernel_rfl,by kernel_rfl,by kernel_rfl,by kernel_rfl,by kernel_rfl⟩
@[go_sem] theorem zm3:hasT Try.prog 78=true∧szT Try.prog 78=4∧Try.prog.bytesOf 78=32∧aggT Try.prog 78=true∧zaX Try.prog 78=none∧arrT Try.prog 78=none∧zbF Try.prog 78=some [.int .i64 0,.int .i64 0,.int .i64 0,.int .i64 0]∧zbE Try.prog 78=true:=⟨by kernel_rfl,by kernel_rfl,by kernel_rfl,by kernel_rfl,by kernel_rfl,by kernel_rfl,by kernel_rfl,by kernel_rfl⟩
@[go_sem] theorem zm4:hasT Try.prog 79=true∧szT Try.prog 79=4∧Try.prog.bytesOf 79=32∧aggT Try.prog 79=true∧zaX Try.prog 79=none∧arrT Try.prog 79=none∧zbF Try.prog 79=some [.int .i64 0,.int .i64 0,.int .i64 0,.int .i64 0]∧zbE Try.prog 79=true:=⟨by kernel_rfl,by kernel_rfl,by kernel_rfl,by kernel_rfl,by kernel_rfl,by kernel_rfl,by kernel_rfl,by kernel_rfl⟩
@[go_sem] theorem zm5:hasT Try.prog 80=true∧szT Try.prog 80=1∧Try.prog.bytesOf 80=8∧aggT Try.prog 80=false∧zaX Try.prog 80=none∧arrT Try.prog 80=none∧zbF Try.prog 80=some [.nilFunc]:=⟨by kernel_rfl,by kernel_rfl,by kernel_rfl,by kernel_rfl,by kernel_rfl,by kernel_rfl,by kernel_rfl⟩
@[go_sem] theorem zwX:hasT Try.prog 81=true∧szT Try.prog 81=4∧Try.prog.bytesOf 81=32∧aggT Try.prog 81=true∧zaX Try.prog 81=none∧arrT Try.prog 81=none∧zbF Try.prog 81=some [.int .i64 0,.int .i64 0,.int .i64 0,.int .i64 0]∧zbE Try.prog 81=true:=⟨by kernel_rfl,by kernel_rfl,by kernel_rfl,by kernel_rfl,by kernel_rfl,by kernel_rfl,by kernel_rfl,by kernel_rfl⟩
@[go_sem] theorem zm6:hasT Try.prog 83=true∧szT Try.prog 83=1∧Try.prog.bytesOf 83=24∧aggT Try.prog 83=false∧zaX Try.prog 83=some 119∧arrT Try.prog 83=none∧zbF Try.prog 83=some [.slice none 0 0]:=⟨by kernel_rfl,by kernel_rfl,by kernel_rfl,by kernel_rfl,by kernel_rfl,by kernel_rfl,by kernel_rfl⟩
@[go_sem] theorem zm7:hasT Try.prog 85=true∧szT Try.prog 85=1∧Try.prog.bytesOf 85=8∧aggT Try.prog 85=false∧zaX Try.prog 85=none∧arrT Try.prog 85=none∧zbF Try.prog 85=some [.pointer none]:=⟨by kernel_rfl,by kernel_rfl,by kernel_rfl,by kernel_rfl,by kernel_rfl,by kernel_rfl,by kernel_rfl⟩
@[go_sem] theorem zm8:hasT Try.prog 87=true∧szT Try.prog 87=4∧Try.prog.bytesOf 87=80∧aggT Try.prog 87=true∧zaX Try.prog 87=none∧arrT Try.prog 87=none∧zbF Try.prog 87=some [.slice none 0 0,.int .i64 0,.slice none 0 0,.slice none 0 0]∧zbE Try.prog 87=true:=⟨by kernel_rfl,by kernel_rfl,by kernel_rfl,by kernel_rfl,by kernel_rfl,by kernel_rfl,by kernel_rfl,by kernel_rfl⟩
@[go_sem] theorem zm9:hasT Try.prog 88=true∧szT Try.prog 88=4∧Try.prog.bytesOf 88=80∧aggT Try.prog 88=true∧zaX Try.prog 88=none∧arrT Try.prog 88=none∧zbF Try.prog 88=some [.slice none 0 0,.int .i64 0,.slice none 0 0,.slice none 0 0]∧zbE Try.prog 88=true:=⟨by kernel_rfl,by kernel_rfl,by kernel_rfl,by kernel_rfl,by kernel_rfl,by kernel_rfl,by kernel_rfl,by kernel_rfl⟩
@[go_sem] theorem zni:hasT Try.prog 110=true∧szT Try.prog 110=1∧Try.prog.bytesOf 110=8∧aggT Try.prog 110=false∧zaX Try.prog 110=none∧arrT Try.prog 110=none∧zbF Try.prog 110=some [.nilFunc]:=⟨by kernel_rfl,by kernel_rfl,by kernel_rfl,by kernel_rfl,by kernel_rfl,by kernel_rfl,by kernel_rfl⟩
@[go_sem] theorem znj:hasT Try.prog 115=true∧szT Try.prog 115=1∧Try.prog.bytesOf 115=24∧aggT Try.prog 115=false∧zaX Try.prog 115=some 4∧arrT Try.prog 115=none∧zbF Try.prog 115=some [.slice none 0 0]:=⟨by kernel_rfl,by kernel_rfl,by kernel_rfl,by kernel_rfl,by kernel_rfl,by kernel_rfl,by kernel_rfl⟩
@[go_sem] theorem znk:hasT Try.prog 119=true∧szT Try.prog 119=1∧Try.prog.bytesOf 119=8∧aggT Try.prog 119=false∧zaX Try.prog 119=none∧arrT Try.prog 119=none∧zbF Try.prog 119=some [.int .u64 0]∧intT Try.prog 119=some .u64:=⟨by kernel_rfl,by kernel_rfl,by kernel_rfl,by kernel_rfl,by kernel_rfl,by kernel_rfl,by kernel_rfl,by kernel_rfl⟩
attribute [go_sem] Try.underlying119
@[go_sem] theorem znt:hasT Try.prog 141=true∧szT Try.prog 141=1∧Try.prog.bytesOf 141=4∧aggT Try.prog 141=false∧zaX Try.prog 141=none∧arrT Try.prog 141=none∧zbF Try.prog 141=some [.int .u32 0]∧intT Try.prog 141=some .u32:=⟨by kernel_rfl,by kernel_rfl,by kernel_rfl,by kernel_rfl,by kernel_rfl,by kernel_rfl,by kernel_rfl,by kernel_rfl⟩
attribute [go_sem] Try.underlying141
@[go_sem] theorem znu:hasT Try.prog 143=true∧szT Try.prog 143=1∧Try.prog.bytesOf 143=8∧aggT Try.prog 143=false∧zaX Try.prog 143=none∧arrT Try.prog 143=none∧zbF Try.prog 143=some [.int .u64 0]∧intT Try.prog 143=some .u64:=⟨by kernel_rfl,by kernel_rfl,by kernel_rfl,by kernel_rfl,by kernel_rfl,by kernel_rfl,by kernel_rfl,by kernel_rfl⟩
attribute [go_sem] Try.underlying143
@[go_sem] theorem znx:hasT Try.prog 155=true∧szT Try.prog 155=1∧Try.prog.bytesOf 155=8∧aggT Try.prog 155=false∧zaX Try.prog 155=none∧arrT Try.prog 155=none∧zbF Try.prog 155=some [.nilFunc]:=⟨by kernel_rfl,by kernel_rfl,by kernel_rfl,by kernel_rfl,by kernel_rfl,by kernel_rfl,by kernel_rfl⟩
@[go_sem] theorem znB:zaW Try.prog 13 0=some (0,9):=by kernel_rfl
@[go_sem] theorem znC:zbD Try.prog 13 0=some (0,1):=by kernel_rfl
@[go_sem] theorem znD:zaW Try.prog 13 1=some (1,12):=by kernel_rfl
@[go_sem] theorem znE:zbD Try.prog 13 1=some (1,1):=by kernel_rfl
attribute [go_sem] Try.underlying13 Try.stoodInHeld13 Try.eqGuardType13
@[go_sem] theorem znF:zaW Try.prog 35 0=some (0,3):=by kernel_rfl
@[go_sem] theorem znG:zbD Try.prog 35 0=some (0,1):=by kernel_rfl
@[go_sem] theorem znH:zaW Try.prog 35 1=some (1,3):=by kernel_rfl
@[go_sem] theorem znI:zbD Try.prog 35 1=some (1,1):=by kernel_rfl
@[go_sem] theorem znJ:zaW Try.prog 35 2=some (2,3):=by kernel_rfl
@[go_sem] theorem znK:zbD Try.prog 35 2=some (2,1):=by kernel_rfl
@[go_sem] theorem znL:zaW Try.prog 35 3=some (3,22):=by kernel_rfl
@[go_sem] theorem znM:zbD Try.prog 35 3=some (3,1):=by kernel_rfl
attribute [go_sem] Try.underlying35 Try.stoodInHeld35 Try.eqGuardType35
@[go_sem] theorem znN:zaW Try.prog 36 0=some (0,3):=by kernel_rfl
@[go_sem] theorem znO:zbD Try.prog 36 0=some (0,1):=by kernel_rfl
@[go_sem] theorem znP:zaW Try.prog 36 1=some (1,3):=by kernel_rfl
@[go_sem] theorem znQ:zbD Try.prog 36 1=some (1,1):=by kernel_rfl
@[go_sem] theorem znR:zaW Try.prog 36 2=some (2,3):=by kernel_rfl
@[go_sem] theorem znS:zbD Try.prog 36 2=some (2,1):=by kernel_rfl
@[go_sem] theorem znT:zaW Try.prog 36 3=some (3,22):=by kernel_rfl
@[go_sem] theorem znU:zbD Try.prog 36 3=some (3,1):=by kernel_rfl
attribute [go_sem] Try.underlying36 Try.stoodInHeld36 Try.eqGuardType36
@[go_sem] theorem znV:zaW Try.prog 39 0=some (0,37):=by kernel_rfl
@[go_sem] theorem znW:zbD Try.prog 39 0=some (0,1):=by kernel_rfl
@[go_sem] theorem znX:zaW Try.prog 39 1=some (1,38):=by kernel_rfl
@[go_sem] theorem znY:zbD Try.prog 39 1=some (1,1):=by kernel_rfl
attribute [go_sem] Try.underlying39 Try.stoodInHeld39 Try.eqGuardType39
@[go_sem] theorem znZ:zaW Try.prog 40 0=some (0,37):=by kernel_rfl
@[go_sem] theorem zn0:zbD Try.prog 40 0=some (0,1):=by kernel_rfl
@[go_sem] theorem zn1:zaW Try.prog 40 1=some (1,38):=by kernel_rfl
@[go_sem] theorem zn2:zbD Try.prog 40 1=some (1,1):=by kernel_rfl
attribute [go_sem] Try.underlying40 Try.stoodInHeld40 Try.eqGuardType40
@[go_sem] theorem zn3:zaW Try.prog 48 0=some (0,3):=by kernel_rfl
@[go_sem] theorem zn4:zbD Try.prog 48 0=some (0,1):=by kernel_rfl
@[go_sem] theorem zn5:zaW Try.prog 48 1=some (1,3):=by kernel_rfl
@[go_sem] theorem zn6:zbD Try.prog 48 1=some (1,1):=by kernel_rfl
@[go_sem] theorem zn7:zaW Try.prog 48 2=some (2,3):=by kernel_rfl
@[go_sem] theorem zn8:zbD Try.prog 48 2=some (2,1):=by kernel_rfl
@[go_sem] theorem zn9:zaW Try.prog 48 3=some (3,22):=by kernel_rfl
@[go_sem] theorem zoa:zbD Try.prog 48 3=some (3,1):=by kernel_rfl
attribute [go_sem] Try.underlying48 Try.stoodInHeld48 Try.eqGuardType48
@[go_sem] theorem zob:zaW Try.prog 52 0=some (0,50):=by kernel_rfl
@[go_sem] theorem zoc:zbD Try.prog 52 0=some (0,1):=by kernel_rfl
@[go_sem] theorem zod:zaW Try.prog 52 1=some (1,51):=by kernel_rfl
@[go_sem] theorem zoe:zbD Try.prog 52 1=some (1,1):=by kernel_rfl
attribute [go_sem] Try.underlying52 Try.stoodInHeld52 Try.eqGuardType52
@[go_sem] theorem zof:zaW Try.prog 53 0=some (0,50):=by kernel_rfl
@[go_sem] theorem zog:zbD Try.prog 53 0=some (0,1):=by kernel_rfl
@[go_sem] theorem zoh:zaW Try.prog 53 1=some (1,51):=by kernel_rfl
@[go_sem] theorem zoi:zbD Try.prog 53 1=some (1,1):=by kernel_rfl
attribute [go_sem] Try.underlying53 Try.stoodInHeld53 Try.eqGuardType53
@[go_sem] theorem zoj:zaW Try.prog 78 0=some (0,3):=by kernel_rfl
@[go_sem] theorem zok:zbD Try.prog 78 0=some (0,1):=by kernel_rfl
@[go_sem] theorem zol:zaW Try.prog 78 1=some (1,3):=by kernel_rfl
@[go_sem] theorem zom:zbD Try.prog 78 1=some (1,1):=by kernel_rfl
@[go_sem] theorem zon:zaW Try.prog 78 2=some (2,3):=by kernel_rfl
@[go_sem] theorem zoo:zbD Try.prog 78 2=some (2,1):=by kernel_rfl
@[go_sem] theorem zop:zaW Try.prog 78 3=some (3,3):=by kernel_rfl
@[go_sem] theorem zoq:zbD Try.prog 78 3=some (3,1):=by kernel_rfl
attribute [go_sem] Try.underlying78 Try.stoodInHeld78 Try.eqGuardType78
@[go_sem] theorem zor:zaW Try.prog 79 0=some (0,3):=by kernel_rfl
@[go_sem] theorem zos:zbD Try.prog 79 0=some (0,1):=by kernel_rfl
@[go_sem] theorem zot:zaW Try.prog 79 1=some (1,3):=by kernel_rfl
@[go_sem] theorem zou:zbD Try.prog 79 1=some (1,1):=by kernel_rfl
@[go_sem] theorem zov:zaW Try.prog 79 2=some (2,3):=by kernel_rfl
@[go_sem] theorem zow:zbD Try.prog 79 2=some (2,1):=by kernel_rfl
@[go_sem] theorem zox:zaW Try.prog 79 3=some (3,3):=by kernel_rfl
@[go_sem] theorem zoy:zbD Try.prog 79 3=some (3,1):=by kernel_rfl
attribute [go_sem] Try.underlying79 Try.stoodInHeld79 Try.eqGuardType79
@[go_sem] theorem zoz:zaW Try.prog 81 0=some (0,3):=by kernel_rfl
@[go_sem] theorem zoA:zbD Try.prog 81 0=some (0,1):=by kernel_rfl
@[go_sem] theorem zoB:zaW Try.prog 81 1=some (1,3):=by kernel_rfl
@[go_sem] theorem zoC:zbD Try.prog 81 1=some (1,1):=by kernel_rfl
@[go_sem] theorem zoD:zaW Try.prog 81 2=some (2,3):=by kernel_rfl
@[go_sem] theorem zoE:zbD Try.prog 81 2=some (2,1):=by kernel_rfl
@[go_sem] theorem zoF:zaW Try.prog 81 3=some (3,3):=by kernel_rfl
@[go_sem] theorem zoG:zbD Try.prog 81 3=some (3,1):=by kernel_rfl
attribute [go_sem] Try.underlying81 Try.stoodInHeld81 Try.eqGuardType81
@[go_sem] theorem zoH:zaW Try.prog 87 0=some (0,83):=by kernel_rfl
@[go_sem] theorem zoI:zbD Try.prog 87 0=some (0,1):=by kernel_rfl
@[go_sem] theorem zoJ:zaW Try.prog 87 1=some (1,3):=by kernel_rfl
@[go_sem] theorem zoK:zbD Try.prog 87 1=some (1,1):=by kernel_rfl
@[go_sem] theorem zoL:zaW Try.prog 87 2=some (2,83):=by kernel_rfl
@[go_sem] theorem zoM:zbD Try.prog 87 2=some (2,1):=by kernel_rfl
@[go_sem] theorem zoN:zaW Try.prog 87 3=some (3,22):=by kernel_rfl
@[go_sem] theorem zoO:zbD Try.prog 87 3=some (3,1):=by kernel_rfl
attribute [go_sem] Try.underlying87 Try.stoodInHeld87 Try.eqGuardType87
@[go_sem] theorem zoP:zaW Try.prog 88 0=some (0,83):=by kernel_rfl
@[go_sem] theorem zoQ:zbD Try.prog 88 0=some (0,1):=by kernel_rfl
@[go_sem] theorem zoR:zaW Try.prog 88 1=some (1,3):=by kernel_rfl
@[go_sem] theorem zoS:zbD Try.prog 88 1=some (1,1):=by kernel_rfl
@[go_sem] theorem zoT:zaW Try.prog 88 2=some (2,83):=by kernel_rfl
@[go_sem] theorem zoU:zbD Try.prog 88 2=some (2,1):=by kernel_rfl
@[go_sem] theorem zoV:zaW Try.prog 88 3=some (3,22):=by kernel_rfl
@[go_sem] theorem zoW:zbD Try.prog 88 3=some (3,1):=by kernel_rfl
attribute [go_sem] Try.underlying88 Try.stoodInHeld88 Try.eqGuardType88
@[go_sem] theorem zoX:zaW Try.prog 94 0=some (0,9):=by kernel_rfl
@[go_sem] theorem zoY:zbD Try.prog 94 0=some (0,1):=by kernel_rfl
@[go_sem] theorem zoZ:zaW Try.prog 94 1=some (1,3):=by kernel_rfl
@[go_sem] theorem zo0:zbD Try.prog 94 1=some (1,1):=by kernel_rfl
@[go_sem] theorem zo1:zaW Try.prog 94 2=some (2,3):=by kernel_rfl
@[go_sem] theorem zo2:zbD Try.prog 94 2=some (2,1):=by kernel_rfl
@[go_sem] theorem zo3:zaW Try.prog 94 3=some (3,3):=by kernel_rfl
@[go_sem] theorem zo4:zbD Try.prog 94 3=some (3,1):=by kernel_rfl
@[go_sem] theorem zo5:zaW Try.prog 94 4=some (4,3):=by kernel_rfl
@[go_sem] theorem zo6:zbD Try.prog 94 4=some (4,1):=by kernel_rfl
@[go_sem] theorem zo7:zaW Try.prog 94 5=some (5,4):=by kernel_rfl
@[go_sem] theorem zo8:zbD Try.prog 94 5=some (5,1):=by kernel_rfl
attribute [go_sem] Try.underlying94 Try.stoodInHeld94 Try.eqGuardType94
@[go_sem] theorem zo9:zaW Try.prog 95 0=some (0,9):=by kernel_rfl
@[go_sem] theorem zpa:zbD Try.prog 95 0=some (0,1):=by kernel_rfl
@[go_sem] theorem zpb:zaW Try.prog 95 1=some (1,3):=by kernel_rfl
@[go_sem] theorem zpc:zbD Try.prog 95 1=some (1,1):=by kernel_rfl
@[go_sem] theorem zpd:zaW Try.prog 95 2=some (2,3):=by kernel_rfl
@[go_sem] theorem zpe:zbD Try.prog 95 2=some (2,1):=by kernel_rfl
@[go_sem] theorem zpf:zaW Try.prog 95 3=some (3,3):=by kernel_rfl
@[go_sem] theorem zpg:zbD Try.prog 95 3=some (3,1):=by kernel_rfl
@[go_sem] theorem zph:zaW Try.prog 95 4=some (4,3):=by kernel_rfl
@[go_sem] theorem zpi:zbD Try.prog 95 4=some (4,1):=by kernel_rfl
@[go_sem] theorem zpj:zaW Try.prog 95 5=some (5,4):=by kernel_rfl
@[go_sem] theorem zpk:zbD Try.prog 95 5=some (5,1):=by kernel_rfl
attribute [go_sem] Try.underlying95 Try.stoodInHeld95 Try.eqGuardType95
@[go_sem] theorem zpl:zaW Try.prog 101 0=some (0,9):=by kernel_rfl
@[go_sem] theorem zpm:zbD Try.prog 101 0=some (0,1):=by kernel_rfl
@[go_sem] theorem zpn:zaW Try.prog 101 1=some (1,3):=by kernel_rfl
@[go_sem] theorem zpo:zbD Try.prog 101 1=some (1,1):=by kernel_rfl
@[go_sem] theorem zpp:zaW Try.prog 101 2=some (2,3):=by kernel_rfl
@[go_sem] theorem zpq:zbD Try.prog 101 2=some (2,1):=by kernel_rfl
@[go_sem] theorem zpr:zaW Try.prog 101 3=some (3,3):=by kernel_rfl
@[go_sem] theorem zps:zbD Try.prog 101 3=some (3,1):=by kernel_rfl
@[go_sem] theorem zpt:zaW Try.prog 101 4=some (4,3):=by kernel_rfl
@[go_sem] theorem zpu:zbD Try.prog 101 4=some (4,1):=by kernel_rfl
@[go_sem] theorem zpv:zaW Try.prog 101 5=some (5,4):=by kernel_rfl
@[go_sem] theorem zpw:zbD Try.prog 101 5=some (5,1):=by kernel_rfl
attribute [go_sem] Try.underlying101 Try.stoodInHeld101 Try.eqGuardType101
@[go_sem] theorem zpx:zaW Try.prog 103 0=some (0,3):=by kernel_rfl
@[go_sem] theorem zpy:zbD Try.prog 103 0=some (0,1):=by kernel_rfl
@[go_sem] theorem zpz:zaW Try.prog 103 1=some (1,3):=by kernel_rfl
@[go_sem] theorem zpA:zbD Try.prog 103 1=some (1,1):=by kernel_rfl
@[go_sem] theorem zpB:zaW Try.prog 103 2=some (2,4):=by kernel_rfl
@[go_sem] theorem zpC:zbD Try.prog 103 2=some (2,1):=by kernel_rfl
@[go_sem] theorem zpD:zaW Try.prog 103 3=some (3,3):=by kernel_rfl
@[go_sem] theorem zpE:zbD Try.prog 103 3=some (3,1):=by kernel_rfl
@[go_sem] theorem zpF:zaW Try.prog 103 4=some (4,3):=by kernel_rfl
@[go_sem] theorem zpG:zbD Try.prog 103 4=some (4,1):=by kernel_rfl
attribute [go_sem] Try.underlying103 Try.stoodInHeld103 Try.eqGuardType103
@[go_sem] theorem zpH:zaW Try.prog 104 0=some (0,3):=by kernel_rfl
@[go_sem] theorem zpI:zbD Try.prog 104 0=some (0,1):=by kernel_rfl
@[go_sem] theorem zpJ:zaW Try.prog 104 1=some (1,3):=by kernel_rfl
@[go_sem] theorem zpK:zbD Try.prog 104 1=some (1,1):=by kernel_rfl
@[go_sem] theorem zpL:zaW Try.prog 104 2=some (2,4):=by kernel_rfl
@[go_sem] theorem zpM:zbD Try.prog 104 2=some (2,1):=by kernel_rfl
@[go_sem] theorem zpN:zaW Try.prog 104 3=some (3,3):=by kernel_rfl
@[go_sem] theorem zpO:zbD Try.prog 104 3=some (3,1):=by kernel_rfl
@[go_sem] theorem zpP:zaW Try.prog 104 4=some (4,3):=by kernel_rfl
@[go_sem] theorem zpQ:zbD Try.prog 104 4=some (4,1):=by kernel_rfl
attribute [go_sem] Try.underlying104 Try.stoodInHeld104 Try.eqGuardType104
@[go_sem] theorem zpR:zaW Try.prog 106 0=some (0,3):=by kernel_rfl
@[go_sem] theorem zpS:zbD Try.prog 106 0=some (0,1):=by kernel_rfl
@[go_sem] theorem zpT:zaW Try.prog 106 1=some (1,3):=by kernel_rfl
@[go_sem] theorem zpU:zbD Try.prog 106 1=some (1,1):=by kernel_rfl
@[go_sem] theorem zpV:zaW Try.prog 106 2=some (2,4):=by kernel_rfl
@[go_sem] theorem zpW:zbD Try.prog 106 2=some (2,1):=by kernel_rfl
@[go_sem] theorem zpX:zaW Try.prog 106 3=some (3,3):=by kernel_rfl
@[go_sem] theorem zpY:zbD Try.prog 106 3=some (3,1):=by kernel_rfl
@[go_sem] theorem zpZ:zaW Try.prog 106 4=some (4,3):=by kernel_rfl
@[go_sem] theorem zp0:zbD Try.prog 106 4=some (4,1):=by kernel_rfl
attribute [go_sem] Try.underlying106 Try.stoodInHeld106 Try.eqGuardType106
@[go_sem] theorem zp1:zaW Try.prog 122 0=some (0,9):=by kernel_rfl
@[go_sem] theorem zp2:zbD Try.prog 122 0=some (0,1):=by kernel_rfl
@[go_sem] theorem zp3:zaW Try.prog 122 1=some (1,4):=by kernel_rfl
@[go_sem] theorem zp4:zbD Try.prog 122 1=some (1,1):=by kernel_rfl
attribute [go_sem] Try.underlying122 Try.stoodInHeld122 Try.eqGuardType122
@[go_sem] theorem zp5:zaW Try.prog 123 0=some (0,9):=by kernel_rfl
@[go_sem] theorem zp6:zbD Try.prog 123 0=some (0,1):=by kernel_rfl
@[go_sem] theorem zp7:zaW Try.prog 123 1=some (1,4):=by kernel_rfl
@[go_sem] theorem zp8:zbD Try.prog 123 1=some (1,1):=by kernel_rfl
attribute [go_sem] Try.underlying123 Try.stoodInHeld123 Try.eqGuardType123
@[go_sem] theorem zp9:zaW Try.prog 127 0=some (0,9):=by kernel_rfl
@[go_sem] theorem zqa:zbD Try.prog 127 0=some (0,1):=by kernel_rfl
@[go_sem] theorem zqb:zaW Try.prog 127 1=some (1,4):=by kernel_rfl
@[go_sem] theorem zqc:zbD Try.prog 127 1=some (1,1):=by kernel_rfl
attribute [go_sem] Try.underlying127 Try.stoodInHeld127 Try.eqGuardType127
@[go_sem] theorem zqd:zaW Try.prog 129 0=some (0,3):=by kernel_rfl
@[go_sem] theorem zqe:zbD Try.prog 129 0=some (0,1):=by kernel_rfl
@[go_sem] theorem zqf:zaW Try.prog 129 1=some (1,3):=by kernel_rfl
@[go_sem] theorem zqg:zbD Try.prog 129 1=some (1,1):=by kernel_rfl
@[go_sem] theorem zqh:zaW Try.prog 129 2=some (2,3):=by kernel_rfl
@[go_sem] theorem zqi:zbD Try.prog 129 2=some (2,1):=by kernel_rfl
@[go_sem] theorem zqj:zaW Try.prog 129 3=some (3,3):=by kernel_rfl
@[go_sem] theorem zqk:zbD Try.prog 129 3=some (3,1):=by kernel_rfl
@[go_sem] theorem zql:zaW Try.prog 129 4=some (4,4):=by kernel_rfl
@[go_sem] theorem zqm:zbD Try.prog 129 4=some (4,1):=by kernel_rfl
attribute [go_sem] Try.underlying129 Try.stoodInHeld129 Try.eqGuardType129
@[go_sem] theorem zqn:zaW Try.prog 130 0=some (0,3):=by kernel_rfl
@[go_sem] theorem zqo:zbD Try.prog 130 0=some (0,1):=by kernel_rfl
@[go_sem] theorem zqp:zaW Try.prog 130 1=some (1,3):=by kernel_rfl
@[go_sem] theorem zqq:zbD Try.prog 130 1=some (1,1):=by kernel_rfl
@[go_sem] theorem zqr:zaW Try.prog 130 2=some (2,3):=by kernel_rfl
@[go_sem] theorem zqs:zbD Try.prog 130 2=some (2,1):=by kernel_rfl
@[go_sem] theorem zqt:zaW Try.prog 130 3=some (3,3):=by kernel_rfl
@[go_sem] theorem zqu:zbD Try.prog 130 3=some (3,1):=by kernel_rfl
@[go_sem] theorem zqv:zaW Try.prog 130 4=some (4,4):=by kernel_rfl
@[go_sem] theorem zqw:zbD Try.prog 130 4=some (4,1):=by kernel_rfl
attribute [go_sem] Try.underlying130 Try.stoodInHeld130 Try.eqGuardType130
@[go_sem] theorem zqx:zaW Try.prog 132 0=some (0,3):=by kernel_rfl
@[go_sem] theorem zqy:zbD Try.prog 132 0=some (0,1):=by kernel_rfl
@[go_sem] theorem zqz:zaW Try.prog 132 1=some (1,3):=by kernel_rfl
@[go_sem] theorem zqA:zbD Try.prog 132 1=some (1,1):=by kernel_rfl
@[go_sem] theorem zqB:zaW Try.prog 132 2=some (2,3):=by kernel_rfl
@[go_sem] theorem zqC:zbD Try.prog 132 2=some (2,1):=by kernel_rfl
@[go_sem] theorem zqD:zaW Try.prog 132 3=some (3,3):=by kernel_rfl
@[go_sem] theorem zqE:zbD Try.prog 132 3=some (3,1):=by kernel_rfl
@[go_sem] theorem zqF:zaW Try.prog 132 4=some (4,4):=by kernel_rfl
@[go_sem] theorem zqG:zbD Try.prog 132 4=some (4,1):=by kernel_rfl
attribute [go_sem] Try.underlying132 Try.stoodInHeld132 Try.eqGuardType132
end Go.Proofs.Ytjiggadgmmjnhaa
namespace Go.Proofs.Ytjiggadgmmjnhaa
open Go Go.SL
set_option maxHeartbeats 1000000
theorem zwY (a:Sl DDuty) (n:Int) (h:Hp) (ha:a.Ok h) (hn:0≤n∧n≤1048576):Ct Try.prog 7 [a.val,.int .i64 n] h fun v h'=>v=.int .i64 (zkE n (Blk.blk a))∧h'=h:=by
  have hl:=ha.max
  rw [zkD (fun _=>rfl) a]
  refine zdn (fun A W=>by simp) Try.func7 rfl rfl (by simp) fun W0=>?_
  repeat' first|refine zie rfl ?_|refine zc4 rfl ?_|refine zc7 ?_|refine zc8 ?_|refine zc5 ?_|refine zc6 ?_|(simp (maxSteps:=2000000) only [go_sem,Nat.reduceAdd,Nat.reduceMul,Nat.reduceBEq,Nat.reduceLeDiff,Nat.reduceLT,Nat.reduceEqDiff];try rfl)|refine zc3 ?_|(refine And.intro ?_ ?_;focus (intros;simp_all only [Bool.or_eq_false_iff,Bool.or_eq_true,Bool.and_eq_true,and_self,true_and,and_true];done))
  refine zc9 rfl (fun hc=>?_) (fun hc=>?_)
  · repeat' first|refine zie rfl ?_|refine zc4 rfl ?_|refine zc7 ?_|refine zc8 ?_|refine zc5 ?_|refine zc6 ?_|(simp (maxSteps:=2000000) only [go_sem,Nat.reduceAdd,Nat.reduceMul,Nat.reduceBEq,Nat.reduceLeDiff,Nat.reduceLT,Nat.reduceEqDiff];try rfl)|refine zc3 ?_|(refine And.intro ?_ ?_;focus (intros;simp_all only [Bool.or_eq_false_iff,Bool.or_eq_true,Bool.and_eq_true,and_self,true_and,and_true];done))
    rw [zkL hn hl] at hc
    exact zkK (zkM hc) (Nat.le_refl _)
  · repeat' first|refine zie rfl ?_|refine zc4 rfl ?_|refine zc7 ?_|refine zc8 ?_|refine zc5 ?_|refine zc6 ?_|(simp (maxSteps:=2000000) only [go_sem,Nat.reduceAdd,Nat.reduceMul,Nat.reduceBEq,Nat.reduceLeDiff,Nat.reduceLT,Nat.reduceEqDiff];try rfl)|refine zc3 ?_|(refine And.intro ?_ ?_;focus (intros;simp_all only [Bool.or_eq_false_iff,Bool.or_eq_true,Bool.and_eq_true,and_self,true_and,and_true];done))
    rw [zkL hn hl] at hc ⊢
    rw [(zkN hc).1]
end Go.Proofs.Ytjiggadgmmjnhaa
namespace Go.Proofs.Ytjiggadgmmjnhaa
open Go Go.SL
set_option maxHeartbeats 1000000
theorem zwZ (c:DDuty) (h:Hp):Ct Try.prog 42 [.agg #[.int .i64 c.src,.int .i64 c.dst,.int .i64 c.a,.int .i64 c.b]] h fun v h'=>v=.agg #[.int .i64 c.src,.int .i64 c.dst,.int .i64 c.a,.int .i64 c.b]∧h'=h:=by
  refine zdn (fun A W=>by simp) Try.func42 rfl rfl (by simp) fun W0=>?_
  repeat' first|refine zie rfl ?_|refine zc4 rfl ?_|refine zc7 ?_|refine zc8 ?_|refine zc5 ?_|refine zc6 ?_|(simp (maxSteps:=2000000) only [go_sem,Nat.reduceAdd,Nat.reduceMul,Nat.reduceBEq,Nat.reduceLeDiff,Nat.reduceLT,Nat.reduceEqDiff];try rfl)|refine zc3 ?_|(refine And.intro ?_ ?_;focus (intros;simp_all only [Bool.or_eq_false_iff,Bool.or_eq_true,Bool.and_eq_true,and_self,true_and,and_true];done))
theorem zqQ (a:Sl Int) (h:Hp) (ha:a.Ok h) (hb:Blk.blk a≤1048576):Ct Try.prog 9 [a.val] h fun v h'=>∃ s:Sl Int,v=s.val∧Con.con s=Con.con a∧s.Ok h'∧Mine h h' s:=by
  have hl:a.l.length≤1048576:=Nat.le_trans (Nat.le_add_right _ _) hb
  refine zdn (fun A W=>by simp) Try.func9 rfl rfl (by simp) fun W0=>?_
  repeat' first|refine zie rfl ?_|refine zc4 rfl ?_|refine zc7 ?_|refine zc8 ?_|refine zc5 ?_|refine zc6 ?_|(simp (maxSteps:=2000000) only [go_sem,Nat.reduceAdd,Nat.reduceMul,Nat.reduceBEq,Nat.reduceLeDiff,Nat.reduceLT,Nat.reduceEqDiff];try rfl)|refine zc3 ?_|(refine And.intro ?_ ?_;focus (intros;simp_all only [Bool.or_eq_false_iff,Bool.or_eq_true,Bool.and_eq_true,and_self,true_and,and_true];done))
  refine ⟨by simp only [maxLen];omega,by omega,?_⟩
  repeat' first|refine zie rfl ?_|refine zc4 rfl ?_|refine zc7 ?_|refine zc8 ?_|refine zc5 ?_|refine zc6 ?_|(simp (maxSteps:=2000000) only [go_sem,Nat.reduceAdd,Nat.reduceMul,Nat.reduceBEq,Nat.reduceLeDiff,Nat.reduceLT,Nat.reduceEqDiff];try rfl)|refine zc3 ?_|(refine And.intro ?_ ?_;focus (intros;simp_all only [Bool.or_eq_false_iff,Bool.or_eq_true,Bool.and_eq_true,and_self,true_and,and_true];done))
  refine zde (ι:=Nat) (fun k=>⟨[(0,true,.c (.v a.val)),(3,true,.c (.s 0)),(4,true,.c (.v (.int .i64 k)))],[(0,.row 3 1 a.l.length (conv (a.l.take k) a.l.length [.int .i64 0]))],h,1⟩) (fun k=>k≤a.l.length) (fun k=>a.l.length - k) 0 (Nat.zero_le _) ?_ ?_
  · simp (maxSteps:=2000000) only [go_sem,Nat.reduceAdd,Nat.reduceMul,Nat.reduceBEq,Nat.reduceLeDiff,Nat.reduceLT,Nat.reduceEqDiff]
    exact ⟨rfl,zj8 (zkc (α:=Int) (z:=#[.int .i64 0]) (by decide))⟩
  intro k hk
  repeat' first|refine zie rfl ?_|refine zc4 rfl ?_|refine zc7 ?_|refine zc8 ?_|refine zc5 ?_|refine zc6 ?_|(simp (maxSteps:=2000000) only [go_sem,Nat.reduceAdd,Nat.reduceMul,Nat.reduceBEq,Nat.reduceLeDiff,Nat.reduceLT,Nat.reduceEqDiff];try rfl)|refine zc3 ?_|(refine And.intro ?_ ?_;focus (intros;simp_all only [Bool.or_eq_false_iff,Bool.or_eq_true,Bool.and_eq_true,and_self,true_and,and_true];done))
  refine zc9 rfl (fun hd=>?_) (fun hd=>?_)
  · have hlt:=zjH hd
    have hle:(a.l.take k).length=k:=by rw [List.length_take];omega
    repeat' first|refine zie rfl ?_|refine zc4 rfl ?_|refine zc7 ?_|refine zc8 ?_|refine zc5 ?_|refine zc6 ?_|(simp (maxSteps:=2000000) only [go_sem,Nat.reduceAdd,Nat.reduceMul,Nat.reduceBEq,Nat.reduceLeDiff,Nat.reduceLT,Nat.reduceEqDiff,zkR ha hlt,ha.some hlt,hlt,Int.toNat_natCast];try rfl)|refine zc3 ?_|(refine And.intro ?_ ?_;focus (intros;simp_all only [Bool.or_eq_false_iff,Bool.or_eq_true,Bool.and_eq_true,and_self,true_and,and_true];done))
    refine ⟨?_,?_⟩
    · rw [zj9 (by omega) rfl];exact Nat.le_trans (Nat.le_of_eq (by simp only [Nat.add_mul])) (Nat.mul_le_mul_right 1 (show k+1≤a.l.length from hlt))
    repeat' first|refine zie rfl ?_|refine zc4 rfl ?_|refine zc7 ?_|refine zc8 ?_|refine zc5 ?_|refine zc6 ?_|(simp (maxSteps:=2000000) only [go_sem,Nat.reduceAdd,Nat.reduceMul,Nat.reduceBEq,Nat.reduceLeDiff,Nat.reduceLT,Nat.reduceEqDiff];try rfl)|refine zc3 ?_|(refine And.intro ?_ ?_;focus (intros;simp_all only [Bool.or_eq_false_iff,Bool.or_eq_true,Bool.and_eq_true,and_self,true_and,and_true];done))
    exact ⟨k+1,hlt,by omega,zjB (zjA hlt (by omega)),zj8 (by rw [List.take_succ_eq_append_getElem hlt];exact zkb hle hlt rfl)⟩
  · have hge:=zjI hd
    refine zc6 ?_
    simp (maxSteps:=2000000) only [go_sem,Nat.reduceAdd,Nat.reduceMul,Nat.reduceBEq,Nat.reduceLeDiff,Nat.reduceLT,Nat.reduceEqDiff]
    refine zlX 0 a.l rfl rfl rfl (by rw [List.take_of_length_le hge];exact zka (Nat.le_refl _)) (by decide) (fun x hx=>by obtain ⟨i,hi,rfl⟩:=List.getElem_of_mem hx;exact ha.el hi) h (Hp.le_refl _) (Mines.flat (fun _=>rfl) (fun _=>trivial)) fun s h' e1 e2 e3 e4=>?_
    repeat' first|refine zie rfl ?_|refine zc4 rfl ?_|refine zc7 ?_|refine zc8 ?_|refine zc5 ?_|refine zc6 ?_|(simp (maxSteps:=2000000) only [go_sem,Nat.reduceAdd,Nat.reduceMul,Nat.reduceBEq,Nat.reduceLeDiff,Nat.reduceLT,Nat.reduceEqDiff];try rfl)|refine zc3 ?_|(refine And.intro ?_ ?_;focus (intros;simp_all only [Bool.or_eq_false_iff,Bool.or_eq_true,Bool.and_eq_true,and_self,true_and,and_true];done))
    exact ⟨s,rfl,by rw [zkz,zkz,e1],e2,e4⟩
theorem zw0 (a:Sl DDuty) (h:Hp) (ha:a.Ok h) (hb:Blk.blk a≤1048576):Ct Try.prog 10 [a.val] h fun v h'=>∃ s:Sl DDuty,v=s.val∧Con.con s=Con.con a∧s.Ok h'∧Mine h h' s:=by
  have hl:a.l.length≤1048576:=Nat.le_trans (Nat.le_add_right _ _) hb
  refine zdn (fun A W=>by simp) Try.func10 rfl rfl (by simp) fun W0=>?_
  repeat' first|refine zie rfl ?_|refine zc4 rfl ?_|refine zc7 ?_|refine zc8 ?_|refine zc5 ?_|refine zc6 ?_|(simp (maxSteps:=2000000) only [go_sem,Nat.reduceAdd,Nat.reduceMul,Nat.reduceBEq,Nat.reduceLeDiff,Nat.reduceLT,Nat.reduceEqDiff];try rfl)|refine zc3 ?_|(refine And.intro ?_ ?_;focus (intros;simp_all only [Bool.or_eq_false_iff,Bool.or_eq_true,Bool.and_eq_true,and_self,true_and,and_true];done))
  refine ⟨by simp only [maxLen];omega,by omega,?_⟩
  repeat' first|refine zie rfl ?_|refine zc4 rfl ?_|refine zc7 ?_|refine zc8 ?_|refine zc5 ?_|refine zc6 ?_|(simp (maxSteps:=2000000) only [go_sem,Nat.reduceAdd,Nat.reduceMul,Nat.reduceBEq,Nat.reduceLeDiff,Nat.reduceLT,Nat.reduceEqDiff];try rfl)|refine zc3 ?_|(refine And.intro ?_ ?_;focus (intros;simp_all only [Bool.or_eq_false_iff,Bool.or_eq_true,Bool.and_eq_true,and_self,true_and,and_true];done))
  refine zde (ι:=Nat) (fun k=>⟨[(0,true,.c (.v a.val)),(3,true,.c (.s 0)),(4,true,.c (.v (.int .i64 k)))],[(0,.row 79 4 a.l.length (conv (a.l.take k) a.l.length [.int .i64 0,.int .i64 0,.int .i64 0,.int .i64 0]))],h,1⟩) (fun k=>k≤a.l.length) (fun k=>a.l.length - k) 0 (Nat.zero_le _) ?_ ?_
  · simp (maxSteps:=2000000) only [go_sem,Nat.reduceAdd,Nat.reduceMul,Nat.reduceBEq,Nat.reduceLeDiff,Nat.reduceLT,Nat.reduceEqDiff]
    exact ⟨rfl,zj8 (zkc (α:=DDuty) (z:=#[.int .i64 0,.int .i64 0,.int .i64 0,.int .i64 0]) (by decide))⟩
  intro k hk
  repeat' first|refine zie rfl ?_|refine zc4 rfl ?_|refine zc7 ?_|refine zc8 ?_|refine zc5 ?_|refine zc6 ?_|(simp (maxSteps:=2000000) only [go_sem,Nat.reduceAdd,Nat.reduceMul,Nat.reduceBEq,Nat.reduceLeDiff,Nat.reduceLT,Nat.reduceEqDiff];try rfl)|refine zc3 ?_|(refine And.intro ?_ ?_;focus (intros;simp_all only [Bool.or_eq_false_iff,Bool.or_eq_true,Bool.and_eq_true,and_self,true_and,and_true];done))
  refine zc9 rfl (fun hd=>?_) (fun hd=>?_)
  · have hlt:=zjH hd
    have hle:(a.l.take k).length=k:=by rw [List.length_take];omega
    repeat' first|refine zie rfl ?_|refine zc4 rfl ?_|refine zc7 ?_|refine zc8 ?_|refine zc5 ?_|refine zc6 ?_|refine zhF (fun _=>zwZ _ _) ?_|(simp (maxSteps:=2000000) only [go_sem,Nat.reduceAdd,Nat.reduceMul,Nat.reduceBEq,Nat.reduceLeDiff,Nat.reduceLT,Nat.reduceEqDiff,zlw ha hlt,ha.some hlt,hlt,Int.toNat_natCast];try rfl)|refine zc3 ?_|(refine And.intro ?_ ?_;focus (intros;simp_all only [Bool.or_eq_false_iff,Bool.or_eq_true,Bool.and_eq_true,and_self,true_and,and_true];done))
    refine ⟨?_,?_⟩
    · rw [zj9 (by omega) rfl];exact Nat.le_trans (Nat.le_of_eq (by simp only [Nat.add_mul])) (Nat.mul_le_mul_right 4 (show k+1≤a.l.length from hlt))
    repeat' first|refine zie rfl ?_|refine zc4 rfl ?_|refine zc7 ?_|refine zc8 ?_|refine zc5 ?_|refine zc6 ?_|(simp (maxSteps:=2000000) only [go_sem,Nat.reduceAdd,Nat.reduceMul,Nat.reduceBEq,Nat.reduceLeDiff,Nat.reduceLT,Nat.reduceEqDiff];try rfl)|refine zc3 ?_|(refine And.intro ?_ ?_;focus (intros;simp_all only [Bool.or_eq_false_iff,Bool.or_eq_true,Bool.and_eq_true,and_self,true_and,and_true];done))
    exact ⟨k+1,hlt,by omega,zjB (zjA hlt (by omega)),zj8 (by rw [List.take_succ_eq_append_getElem hlt];exact zkb hle hlt rfl)⟩
  · have hge:=zjI hd
    refine zc6 ?_
    simp (maxSteps:=2000000) only [go_sem,Nat.reduceAdd,Nat.reduceMul,Nat.reduceBEq,Nat.reduceLeDiff,Nat.reduceLT,Nat.reduceEqDiff]
    refine zlX 0 a.l rfl rfl rfl (by rw [List.take_of_length_le hge];exact zka (Nat.le_refl _)) (by decide) (fun x hx=>by obtain ⟨i,hi,rfl⟩:=List.getElem_of_mem hx;exact ha.el hi) h (Hp.le_refl _) (Mines.flat (fun _=>rfl) (fun _=>trivial)) fun s h' e1 e2 e3 e4=>?_
    repeat' first|refine zie rfl ?_|refine zc4 rfl ?_|refine zc7 ?_|refine zc8 ?_|refine zc5 ?_|refine zc6 ?_|(simp (maxSteps:=2000000) only [go_sem,Nat.reduceAdd,Nat.reduceMul,Nat.reduceBEq,Nat.reduceLeDiff,Nat.reduceLT,Nat.reduceEqDiff];try rfl)|refine zc3 ?_|(refine And.intro ?_ ?_;focus (intros;simp_all only [Bool.or_eq_false_iff,Bool.or_eq_true,Bool.and_eq_true,and_self,true_and,and_true];done))
    exact ⟨s,rfl,by rw [zkz,zkz,e1],e2,e4⟩
end Go.Proofs.Ytjiggadgmmjnhaa
namespace Go.Proofs.Ytjiggadgmmjnhaa
open Go Go.SL
set_option maxHeartbeats 1000000
theorem zw1 (c d:DDuty) (h:Hp) (hc:Enc.ok h c) (hd:Enc.ok h d):Ct Try.prog 47 [.agg #[.int .i64 c.src,.int .i64 c.dst,.int .i64 c.a,.int .i64 c.b],.agg #[.int .i64 d.src,.int .i64 d.dst,.int .i64 d.a,.int .i64 d.b]] h fun v h'=>v=.bool (decide (Con.con c=Con.con d))∧h'=h:=by
  obtain ⟨oc_src,oc_dst,oc_a,oc_b⟩:=hc
  obtain ⟨od_src,od_dst,od_a,od_b⟩:=hd
  refine zdn (fun A W=>by simp) Try.func47 rfl rfl (by simp) fun W0=>?_
  repeat' first|refine zie rfl ?_|refine zc4 rfl ?_|refine zc7 ?_|refine zc8 ?_|refine zc5 ?_|refine zc6 ?_|(simp (maxSteps:=2000000) only [go_sem,Nat.reduceAdd,Nat.reduceMul,Nat.reduceBEq,Nat.reduceLeDiff,Nat.reduceLT,Nat.reduceEqDiff];try rfl)|refine zc3 ?_|(refine And.intro ?_ ?_;focus (intros;simp_all only [Bool.or_eq_false_iff,Bool.or_eq_true,Bool.and_eq_true,and_self,true_and,and_true];done))
  refine zc9 rfl (fun h0=>?_) (fun h0=>?_)
  · repeat' first|refine zie rfl ?_|refine zc4 rfl ?_|refine zc7 ?_|refine zc8 ?_|refine zc5 ?_|refine zc6 ?_|(simp (maxSteps:=2000000) only [go_sem,Nat.reduceAdd,Nat.reduceMul,Nat.reduceBEq,Nat.reduceLeDiff,Nat.reduceLT,Nat.reduceEqDiff];try rfl)|refine zc3 ?_|(refine And.intro ?_ ?_;focus (intros;simp_all only [Bool.or_eq_false_iff,Bool.or_eq_true,Bool.and_eq_true,and_self,true_and,and_true];done))
    exact zjF fun e=>zjD h0 (congrArg DDuty.src e)
  repeat' first|refine zie rfl ?_|refine zc4 rfl ?_|refine zc7 ?_|refine zc8 ?_|refine zc5 ?_|refine zc6 ?_|(simp (maxSteps:=2000000) only [go_sem,Nat.reduceAdd,Nat.reduceMul,Nat.reduceBEq,Nat.reduceLeDiff,Nat.reduceLT,Nat.reduceEqDiff];try rfl)|refine zc3 ?_|(refine And.intro ?_ ?_;focus (intros;simp_all only [Bool.or_eq_false_iff,Bool.or_eq_true,Bool.and_eq_true,and_self,true_and,and_true];done))
  refine zc9 rfl (fun h1=>?_) (fun h1=>?_)
  · repeat' first|refine zie rfl ?_|refine zc4 rfl ?_|refine zc7 ?_|refine zc8 ?_|refine zc5 ?_|refine zc6 ?_|(simp (maxSteps:=2000000) only [go_sem,Nat.reduceAdd,Nat.reduceMul,Nat.reduceBEq,Nat.reduceLeDiff,Nat.reduceLT,Nat.reduceEqDiff];try rfl)|refine zc3 ?_|(refine And.intro ?_ ?_;focus (intros;simp_all only [Bool.or_eq_false_iff,Bool.or_eq_true,Bool.and_eq_true,and_self,true_and,and_true];done))
    exact zjF fun e=>zjD h1 (congrArg DDuty.dst e)
  repeat' first|refine zie rfl ?_|refine zc4 rfl ?_|refine zc7 ?_|refine zc8 ?_|refine zc5 ?_|refine zc6 ?_|(simp (maxSteps:=2000000) only [go_sem,Nat.reduceAdd,Nat.reduceMul,Nat.reduceBEq,Nat.reduceLeDiff,Nat.reduceLT,Nat.reduceEqDiff];try rfl)|refine zc3 ?_|(refine And.intro ?_ ?_;focus (intros;simp_all only [Bool.or_eq_false_iff,Bool.or_eq_true,Bool.and_eq_true,and_self,true_and,and_true];done))
  refine zc9 rfl (fun h2=>?_) (fun h2=>?_)
  · repeat' first|refine zie rfl ?_|refine zc4 rfl ?_|refine zc7 ?_|refine zc8 ?_|refine zc5 ?_|refine zc6 ?_|(simp (maxSteps:=2000000) only [go_sem,Nat.reduceAdd,Nat.reduceMul,Nat.reduceBEq,Nat.reduceLeDiff,Nat.reduceLT,Nat.reduceEqDiff];try rfl)|refine zc3 ?_|(refine And.intro ?_ ?_;focus (intros;simp_all only [Bool.or_eq_false_iff,Bool.or_eq_true,Bool.and_eq_true,and_self,true_and,and_true];done))
    exact zjF fun e=>zjD h2 (congrArg DDuty.a e)
  repeat' first|refine zie rfl ?_|refine zc4 rfl ?_|refine zc7 ?_|refine zc8 ?_|refine zc5 ?_|refine zc6 ?_|(simp (maxSteps:=2000000) only [go_sem,Nat.reduceAdd,Nat.reduceMul,Nat.reduceBEq,Nat.reduceLeDiff,Nat.reduceLT,Nat.reduceEqDiff];try rfl)|refine zc3 ?_|(refine And.intro ?_ ?_;focus (intros;simp_all only [Bool.or_eq_false_iff,Bool.or_eq_true,Bool.and_eq_true,and_self,true_and,and_true];done))
  refine zc9 rfl (fun h3=>?_) (fun h3=>?_)
  · repeat' first|refine zie rfl ?_|refine zc4 rfl ?_|refine zc7 ?_|refine zc8 ?_|refine zc5 ?_|refine zc6 ?_|(simp (maxSteps:=2000000) only [go_sem,Nat.reduceAdd,Nat.reduceMul,Nat.reduceBEq,Nat.reduceLeDiff,Nat.reduceLT,Nat.reduceEqDiff];try rfl)|refine zc3 ?_|(refine And.intro ?_ ?_;focus (intros;simp_all only [Bool.or_eq_false_iff,Bool.or_eq_true,Bool.and_eq_true,and_self,true_and,and_true];done))
    exact zjF fun e=>zjD h3 (congrArg DDuty.b e)
  repeat' first|refine zie rfl ?_|refine zc4 rfl ?_|refine zc7 ?_|refine zc8 ?_|refine zc5 ?_|refine zc6 ?_|(simp (maxSteps:=2000000) only [go_sem,Nat.reduceAdd,Nat.reduceMul,Nat.reduceBEq,Nat.reduceLeDiff,Nat.reduceLT,Nat.reduceEqDiff];try rfl)|refine zc3 ?_|(refine And.intro ?_ ?_;focus (intros;simp_all only [Bool.or_eq_false_iff,Bool.or_eq_true,Bool.and_eq_true,and_self,true_and,and_true];done))
  refine zjG ?_
  obtain ⟨c_src,c_dst,c_a,c_b⟩:=c
  obtain ⟨d_src,d_dst,d_a,d_b⟩:=d
  show DDuty.mk c_src c_dst c_a c_b=DDuty.mk d_src d_dst d_a d_b
  rw [DDuty.mk.injEq]
  exact ⟨zjE h0,zjE h1,zjE h2,zjE h3⟩
theorem zq1 (a b:Sl Int) (h:Hp) (ha:a.Ok h) (hb:b.Ok h):Ct Try.prog 12 [a.val,b.val] h fun v h'=>v=.bool (decide (Con.con a=Con.con b))∧h'=h:=by
  have hl:=ha.max
  have hA:(Con.con a).length=a.l.length:=List.length_map ..
  have hB:(Con.con b).length=b.l.length:=List.length_map ..
  refine zdn (fun A W=>by simp) Try.func12 rfl rfl (by simp) fun W0=>?_
  repeat' first|refine zie rfl ?_|refine zc4 rfl ?_|refine zc7 ?_|refine zc8 ?_|refine zc5 ?_|refine zc6 ?_|(simp (maxSteps:=2000000) only [go_sem,Nat.reduceAdd,Nat.reduceMul,Nat.reduceBEq,Nat.reduceLeDiff,Nat.reduceLT,Nat.reduceEqDiff];try rfl)|refine zc3 ?_|(refine And.intro ?_ ?_;focus (intros;simp_all only [Bool.or_eq_false_iff,Bool.or_eq_true,Bool.and_eq_true,and_self,true_and,and_true];done))
  refine zc9 rfl (fun hc=>?_) (fun hc=>?_)
  · repeat' first|refine zie rfl ?_|refine zc4 rfl ?_|refine zc7 ?_|refine zc8 ?_|refine zc5 ?_|refine zc6 ?_|(simp (maxSteps:=2000000) only [go_sem,Nat.reduceAdd,Nat.reduceMul,Nat.reduceBEq,Nat.reduceLeDiff,Nat.reduceLT,Nat.reduceEqDiff];try rfl)|refine zc3 ?_|(refine And.intro ?_ ?_;focus (intros;simp_all only [Bool.or_eq_false_iff,Bool.or_eq_true,Bool.and_eq_true,and_self,true_and,and_true];done))
    exact zjF fun e=>zjD hc (by rw [← hA,← hB,e])
  have hlen:a.l.length=b.l.length:=by have:=zjE hc;omega
  repeat' first|refine zie rfl ?_|refine zc4 rfl ?_|refine zc7 ?_|refine zc8 ?_|refine zc5 ?_|refine zc6 ?_|(simp (maxSteps:=2000000) only [go_sem,Nat.reduceAdd,Nat.reduceMul,Nat.reduceBEq,Nat.reduceLeDiff,Nat.reduceLT,Nat.reduceEqDiff];try rfl)|refine zc3 ?_|(refine And.intro ?_ ?_;focus (intros;simp_all only [Bool.or_eq_false_iff,Bool.or_eq_true,Bool.and_eq_true,and_self,true_and,and_true];done))
  refine zde (ι:=Nat) (fun k=>⟨[(0,true,.c (.v a.val)),(1,true,.c (.v b.val)),(5,true,.c (.v (.int .i64 k)))],[],h,0⟩) (fun k=>k≤a.l.length∧(Con.con a).take k=(Con.con b).take k) (fun k=>a.l.length - k) 0 ⟨Nat.zero_le _,rfl⟩ ?_ ?_
  · simp (maxSteps:=2000000) only [go_sem,Nat.reduceAdd,Nat.reduceMul,Nat.reduceBEq,Nat.reduceLeDiff,Nat.reduceLT,Nat.reduceEqDiff]
    rfl
  intro k hk
  repeat' first|refine zie rfl ?_|refine zc4 rfl ?_|refine zc7 ?_|refine zc8 ?_|refine zc5 ?_|refine zc6 ?_|(simp (maxSteps:=2000000) only [go_sem,Nat.reduceAdd,Nat.reduceMul,Nat.reduceBEq,Nat.reduceLeDiff,Nat.reduceLT,Nat.reduceEqDiff];try rfl)|refine zc3 ?_|(refine And.intro ?_ ?_;focus (intros;simp_all only [Bool.or_eq_false_iff,Bool.or_eq_true,Bool.and_eq_true,and_self,true_and,and_true];done))
  refine zc9 rfl (fun hc=>?_) (fun hc=>?_)
  · have hlt:=zjH hc
    have hlt':k < b.l.length:=by omega
    have gA:(Con.con a)[k]'(by omega)=Con.con a.l[k]:=List.getElem_map ..
    have gB:(Con.con b)[k]'(by omega)=Con.con b.l[k]:=List.getElem_map ..
    repeat' first|refine zie rfl ?_|refine zc4 rfl ?_|refine zc7 ?_|refine zc8 ?_|refine zc5 ?_|refine zc6 ?_|(simp (maxSteps:=2000000) only [go_sem,Nat.reduceAdd,Nat.reduceMul,Nat.reduceBEq,Nat.reduceLeDiff,Nat.reduceLT,Nat.reduceEqDiff];try rfl)|refine zc3 ?_|(refine And.intro ?_ ?_;focus (intros;simp_all only [Bool.or_eq_false_iff,Bool.or_eq_true,Bool.and_eq_true,and_self,true_and,and_true];done))
    refine zi8 rfl (by kernel_rfl) ?_
    simp (maxSteps:=2000000) only [go_sem,Nat.reduceAdd,Nat.reduceMul,Nat.reduceBEq,Nat.reduceLeDiff,Nat.reduceLT,Nat.reduceEqDiff,zkR ha hlt,ha.some hlt,zkR hb hlt',hb.some hlt',hlt,hlt']
    refine zc9 rfl (fun hd=>?_) (fun hd=>?_)
    · repeat' first|refine zie rfl ?_|refine zc4 rfl ?_|refine zc7 ?_|refine zc8 ?_|refine zc5 ?_|refine zc6 ?_|(simp (maxSteps:=2000000) only [go_sem,Nat.reduceAdd,Nat.reduceMul,Nat.reduceBEq,Nat.reduceLeDiff,Nat.reduceLT,Nat.reduceEqDiff];try rfl)|refine zc3 ?_|(refine And.intro ?_ ?_;focus (intros;simp_all only [Bool.or_eq_false_iff,Bool.or_eq_true,Bool.and_eq_true,and_self,true_and,and_true];done))
      refine zjF fun e=>(zjD hd:¬ Con.con a.l[k]=Con.con b.l[k]) ?_
      rw [← gA,← gB];simp only [e]
    · repeat' first|refine zie rfl ?_|refine zc4 rfl ?_|refine zc7 ?_|refine zc8 ?_|refine zc5 ?_|refine zc6 ?_|(simp (maxSteps:=2000000) only [go_sem,Nat.reduceAdd,Nat.reduceMul,Nat.reduceBEq,Nat.reduceLeDiff,Nat.reduceLT,Nat.reduceEqDiff];try rfl)|refine zc3 ?_|(refine And.intro ?_ ?_;focus (intros;simp_all only [Bool.or_eq_false_iff,Bool.or_eq_true,Bool.and_eq_true,and_self,true_and,and_true];done))
      exact ⟨k+1,⟨hlt,zjC (by omega) (by omega) hk.2 (by rw [gA,gB];exact zjE hd)⟩,by omega,zjB (zjA hlt (by omega))⟩
  · have hge:=zjI hc
    repeat' first|refine zie rfl ?_|refine zc4 rfl ?_|refine zc7 ?_|refine zc8 ?_|refine zc5 ?_|refine zc6 ?_|(simp (maxSteps:=2000000) only [go_sem,Nat.reduceAdd,Nat.reduceMul,Nat.reduceBEq,Nat.reduceLeDiff,Nat.reduceLT,Nat.reduceEqDiff];try rfl)|refine zc3 ?_|(refine And.intro ?_ ?_;focus (intros;simp_all only [Bool.or_eq_false_iff,Bool.or_eq_true,Bool.and_eq_true,and_self,true_and,and_true];done))
    refine zjG ?_
    have:=hk.2
    rwa [List.take_of_length_le (by omega),List.take_of_length_le (by omega)] at this
theorem zw2 (a b:Sl DDuty) (h:Hp) (ha:a.Ok h) (hb:b.Ok h):Ct Try.prog 13 [a.val,b.val] h fun v h'=>v=.bool (decide (Con.con a=Con.con b))∧h'=h:=by
  have hl:=ha.max
  have hA:(Con.con a).length=a.l.length:=List.length_map ..
  have hB:(Con.con b).length=b.l.length:=List.length_map ..
  refine zdn (fun A W=>by simp) Try.func13 rfl rfl (by simp) fun W0=>?_
  repeat' first|refine zie rfl ?_|refine zc4 rfl ?_|refine zc7 ?_|refine zc8 ?_|refine zc5 ?_|refine zc6 ?_|(simp (maxSteps:=2000000) only [go_sem,Nat.reduceAdd,Nat.reduceMul,Nat.reduceBEq,Nat.reduceLeDiff,Nat.reduceLT,Nat.reduceEqDiff];try rfl)|refine zc3 ?_|(refine And.intro ?_ ?_;focus (intros;simp_all only [Bool.or_eq_false_iff,Bool.or_eq_true,Bool.and_eq_true,and_self,true_and,and_true];done))
  refine zc9 rfl (fun hc=>?_) (fun hc=>?_)
  · repeat' first|refine zie rfl ?_|refine zc4 rfl ?_|refine zc7 ?_|refine zc8 ?_|refine zc5 ?_|refine zc6 ?_|(simp (maxSteps:=2000000) only [go_sem,Nat.reduceAdd,Nat.reduceMul,Nat.reduceBEq,Nat.reduceLeDiff,Nat.reduceLT,Nat.reduceEqDiff];try rfl)|refine zc3 ?_|(refine And.intro ?_ ?_;focus (intros;simp_all only [Bool.or_eq_false_iff,Bool.or_eq_true,Bool.and_eq_true,and_self,true_and,and_true];done))
    exact zjF fun e=>zjD hc (by rw [← hA,← hB,e])
  have hlen:a.l.length=b.l.length:=by have:=zjE hc;omega
  repeat' first|refine zie rfl ?_|refine zc4 rfl ?_|refine zc7 ?_|refine zc8 ?_|refine zc5 ?_|refine zc6 ?_|(simp (maxSteps:=2000000) only [go_sem,Nat.reduceAdd,Nat.reduceMul,Nat.reduceBEq,Nat.reduceLeDiff,Nat.reduceLT,Nat.reduceEqDiff];try rfl)|refine zc3 ?_|(refine And.intro ?_ ?_;focus (intros;simp_all only [Bool.or_eq_false_iff,Bool.or_eq_true,Bool.and_eq_true,and_self,true_and,and_true];done))
  refine zde (ι:=Nat) (fun k=>⟨[(0,true,.c (.v a.val)),(1,true,.c (.v b.val)),(5,true,.c (.v (.int .i64 k)))],[],h,0⟩) (fun k=>k≤a.l.length∧(Con.con a).take k=(Con.con b).take k) (fun k=>a.l.length - k) 0 ⟨Nat.zero_le _,rfl⟩ ?_ ?_
  · simp (maxSteps:=2000000) only [go_sem,Nat.reduceAdd,Nat.reduceMul,Nat.reduceBEq,Nat.reduceLeDiff,Nat.reduceLT,Nat.reduceEqDiff]
    rfl
  intro k hk
  repeat' first|refine zie rfl ?_|refine zc4 rfl ?_|refine zc7 ?_|refine zc8 ?_|refine zc5 ?_|refine zc6 ?_|(simp (maxSteps:=2000000) only [go_sem,Nat.reduceAdd,Nat.reduceMul,Nat.reduceBEq,Nat.reduceLeDiff,Nat.reduceLT,Nat.reduceEqDiff];try rfl)|refine zc3 ?_|(refine And.intro ?_ ?_;focus (intros;simp_all only [Bool.or_eq_false_iff,Bool.or_eq_true,Bool.and_eq_true,and_self,true_and,and_true];done))
  refine zc9 rfl (fun hc=>?_) (fun hc=>?_)
  · have hlt:=zjH hc
    have hlt':k < b.l.length:=by omega
    have gA:(Con.con a)[k]'(by omega)=Con.con a.l[k]:=List.getElem_map ..
    have gB:(Con.con b)[k]'(by omega)=Con.con b.l[k]:=List.getElem_map ..
    repeat' first|refine zie rfl ?_|refine zc4 rfl ?_|refine zc7 ?_|refine zc8 ?_|refine zc5 ?_|refine zc6 ?_|(simp (maxSteps:=2000000) only [go_sem,Nat.reduceAdd,Nat.reduceMul,Nat.reduceBEq,Nat.reduceLeDiff,Nat.reduceLT,Nat.reduceEqDiff];try rfl)|refine zc3 ?_|(refine And.intro ?_ ?_;focus (intros;simp_all only [Bool.or_eq_false_iff,Bool.or_eq_true,Bool.and_eq_true,and_self,true_and,and_true];done))
    refine ziV rfl ?_
    refine zi3 [0,1,2,3,4,5,6,7] rfl (by kernel_rfl) ?_
    simp (maxSteps:=2000000) only [go_sem,Nat.reduceAdd,Nat.reduceMul,Nat.reduceBEq,Nat.reduceLeDiff,Nat.reduceLT,Nat.reduceEqDiff,zlw ha hlt,ha.some hlt,zlw hb hlt',hb.some hlt',hlt,hlt']
    refine ziT [8] (by kernel_rfl) (by kernel_rfl) ?_
    simp (maxSteps:=2000000) only [go_sem,Nat.reduceAdd,Nat.reduceMul,Nat.reduceBEq,Nat.reduceLeDiff,Nat.reduceLT,Nat.reduceEqDiff,zlw ha hlt,ha.some hlt,zlw hb hlt',hb.some hlt',hlt,hlt']
    refine zhF (fun _=>zw1 _ _ _ (ha.el hlt) (hb.el hlt')) ?_
    simp (maxSteps:=2000000) only [go_sem,Nat.reduceAdd,Nat.reduceMul,Nat.reduceBEq,Nat.reduceLeDiff,Nat.reduceLT,Nat.reduceEqDiff,zlw ha hlt,ha.some hlt,zlw hb hlt',hb.some hlt',hlt,hlt']
    refine zi3 [9] rfl (by kernel_rfl) ?_
    simp (maxSteps:=2000000) only [go_sem,Nat.reduceAdd,Nat.reduceMul,Nat.reduceBEq,Nat.reduceLeDiff,Nat.reduceLT,Nat.reduceEqDiff]
    refine ziU (by kernel_rfl) ?_
    repeat' first|refine zie rfl ?_|refine zc4 rfl ?_|refine zc7 ?_|refine zc8 ?_|refine zc5 ?_|refine zc6 ?_|(simp (maxSteps:=2000000) only [go_sem,Nat.reduceAdd,Nat.reduceMul,Nat.reduceBEq,Nat.reduceLeDiff,Nat.reduceLT,Nat.reduceEqDiff];try rfl)|refine zc3 ?_|(refine And.intro ?_ ?_;focus (intros;simp_all only [Bool.or_eq_false_iff,Bool.or_eq_true,Bool.and_eq_true,and_self,true_and,and_true];done))
    refine zc9 rfl (fun hd=>?_) (fun hd=>?_)
    · repeat' first|refine zie rfl ?_|refine zc4 rfl ?_|refine zc7 ?_|refine zc8 ?_|refine zc5 ?_|refine zc6 ?_|(simp (maxSteps:=2000000) only [go_sem,Nat.reduceAdd,Nat.reduceMul,Nat.reduceBEq,Nat.reduceLeDiff,Nat.reduceLT,Nat.reduceEqDiff];try rfl)|refine zc3 ?_|(refine And.intro ?_ ?_;focus (intros;simp_all only [Bool.or_eq_false_iff,Bool.or_eq_true,Bool.and_eq_true,and_self,true_and,and_true];done))
      refine zjF fun e=>(of_decide_eq_false (by simpa only [Bool.not_eq_true'] using hd):¬ Con.con a.l[k]=Con.con b.l[k]) ?_
      rw [← gA,← gB];simp only [e]
    · repeat' first|refine zie rfl ?_|refine zc4 rfl ?_|refine zc7 ?_|refine zc8 ?_|refine zc5 ?_|refine zc6 ?_|(simp (maxSteps:=2000000) only [go_sem,Nat.reduceAdd,Nat.reduceMul,Nat.reduceBEq,Nat.reduceLeDiff,Nat.reduceLT,Nat.reduceEqDiff];try rfl)|refine zc3 ?_|(refine And.intro ?_ ?_;focus (intros;simp_all only [Bool.or_eq_false_iff,Bool.or_eq_true,Bool.and_eq_true,and_self,true_and,and_true];done))
      exact ⟨k+1,⟨hlt,zjC (by omega) (by omega) hk.2 (by rw [gA,gB];exact of_decide_eq_true (by simpa only [Bool.not_eq_false'] using hd))⟩,by omega,zjB (zjA hlt (by omega))⟩
  · have hge:=zjI hc
    repeat' first|refine zie rfl ?_|refine zc4 rfl ?_|refine zc7 ?_|refine zc8 ?_|refine zc5 ?_|refine zc6 ?_|(simp (maxSteps:=2000000) only [go_sem,Nat.reduceAdd,Nat.reduceMul,Nat.reduceBEq,Nat.reduceLeDiff,Nat.reduceLT,Nat.reduceEqDiff];try rfl)|refine zc3 ?_|(refine And.intro ?_ ?_;focus (intros;simp_all only [Bool.or_eq_false_iff,Bool.or_eq_true,Bool.and_eq_true,and_self,true_and,and_true];done))
    refine zjG ?_
    have:=hk.2
    rwa [List.take_of_length_le (by omega),List.take_of_length_le (by omega)] at this
end Go.Proofs.Ytjiggadgmmjnhaa
