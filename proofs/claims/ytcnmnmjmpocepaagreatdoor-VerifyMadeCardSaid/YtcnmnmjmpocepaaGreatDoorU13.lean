
import Derived.Test.YtcnmnmjmpocepaaGreatDoorU00
import Derived.Test.YtcnmnmjmpocepaaGreatDoorU11
import Derived.Test.YtcnmnmjmpocepaaGreatDoorU07
import Derived.KernelRfl
import Derived.Test.YtcnmnmjmpocepaaGreatDoorProg
set_option linter.unusedVariables false
set_option linter.unusedSimpArgs false
set_option linter.unusedSectionVars false
set_option maxRecDepth 100000
set_option maxHeartbeats 16000000
namespace Go.Proofs.YtcnmnmjmpocepaaGreatDoor
open Go.SL
instance nc:Ty Tryz.prog 3 (Go.TypeDesc.int Go.IntKind.i64) (Go.Value.int Go.IntKind.i64 0) Tryz.t3:=⟨Tryz.underlying3,Tryz.zeroValue3,rfl⟩
instance nb:Ty Tryz.prog 4 Go.TypeDesc.bool (Go.Value.bool false) Tryz.t4:=⟨Tryz.underlying4,Tryz.zeroValue4,rfl⟩
instance na:Ty Tryz.prog 5 (Go.TypeDesc.int Go.IntKind.u8) (Go.Value.int Go.IntKind.u8 0) Tryz.t5:=⟨Tryz.underlying5,Tryz.zeroValue5,rfl⟩
instance mZ:Ty Tryz.prog 9 Go.TypeDesc.string (Go.Value.string {data:= #[]}) Tryz.t9:=⟨Tryz.underlying9,Tryz.zeroValue9,rfl⟩
instance ll:Ty Tryz.prog 20 (Go.TypeDesc.interface #[]) Go.Value.nilIface Tryz.t20:=⟨Tryz.underlying20,Tryz.zeroValue20,rfl⟩
instance lj:Ty Tryz.prog 22 (Go.TypeDesc.slice 5) (Go.Value.slice none 0 0) Tryz.t22:=⟨Tryz.underlying22,Tryz.zeroValue22,rfl⟩
instance lh:Ty Tryz.prog 24 (Go.TypeDesc.struct #[{name:= "Op",type:=3,offset:=0,embedded:=false,tag:= "",pkgPath:= "",byteOffset:=0},{name:= "A",type:=3,offset:=1,embedded:=false,tag:= "",pkgPath:= "",byteOffset:=8},{name:= "B",type:=3,offset:=2,embedded:=false,tag:= "",pkgPath:= "",byteOffset:=16}]) (Go.Value.agg #[Go.Value.int Go.IntKind.i64 0,Go.Value.int Go.IntKind.i64 0,Go.Value.int Go.IntKind.i64 0]) Tryz.t24:=⟨Tryz.underlying24,Tryz.zeroValue24,rfl⟩
instance lg:Ty Tryz.prog 26 (Go.TypeDesc.struct #[{name:= "B",type:=22,offset:=0,embedded:=false,tag:= "",pkgPath:= "",byteOffset:=0},{name:= "Odd",type:=4,offset:=1,embedded:=false,tag:= "",pkgPath:= "",byteOffset:=24},{name:= "M",type:=5,offset:=2,embedded:=false,tag:= "",pkgPath:= "",byteOffset:=25},{name:= "At",type:=5,offset:=3,embedded:=false,tag:= "",pkgPath:= "",byteOffset:=26},{name:= "Y",type:=24,offset:=4,embedded:=false,tag:= "",pkgPath:= "",byteOffset:=32}]) (Go.Value.agg #[Go.Value.slice none 0 0,Go.Value.bool false,Go.Value.int Go.IntKind.u8 0,Go.Value.int Go.IntKind.u8 0,Go.Value.int Go.IntKind.i64 0,Go.Value.int Go.IntKind.i64 0,Go.Value.int Go.IntKind.i64 0]) Tryz.t26:=⟨Tryz.underlying26,Tryz.zeroValue26,rfl⟩
instance ld:Ty Tryz.prog 29 (Go.TypeDesc.slice 76) (Go.Value.slice none 0 0) Tryz.t29:=⟨Tryz.underlying29,Tryz.zeroValue29,rfl⟩
instance la:Ty Tryz.prog 30 (Go.TypeDesc.slice 66) (Go.Value.slice none 0 0) Tryz.t30:=⟨Tryz.underlying30,Tryz.zeroValue30,rfl⟩
instance kZ:Ty Tryz.prog 32 (Go.TypeDesc.struct #[{name:= "Classes",type:=29,offset:=0,embedded:=false,tag:= "",pkgPath:= "",byteOffset:=0},{name:= "Methods",type:=30,offset:=1,embedded:=false,tag:= "",pkgPath:= "",byteOffset:=24}]) (Go.Value.agg #[Go.Value.slice none 0 0,Go.Value.slice none 0 0]) Tryz.t32:=⟨Tryz.underlying32,Tryz.zeroValue32,rfl⟩
instance kY:Ty Tryz.prog 34 (Go.TypeDesc.int Go.IntKind.i64) (Go.Value.int Go.IntKind.i64 0) Tryz.t34:=⟨Tryz.underlying34,Tryz.zeroValue34,rfl⟩
instance kX:Ty Tryz.prog 40 (Go.TypeDesc.interface #[("Error",297)]) Go.Value.nilIface Tryz.t40:=⟨Tryz.underlying40,Tryz.zeroValue40,rfl⟩
instance kW:Ty Tryz.prog 43 (Go.TypeDesc.struct #[{name:= "Code",type:=34,offset:=0,embedded:=false,tag:= "",pkgPath:= "",byteOffset:=0},{name:= "Method",type:=3,offset:=1,embedded:=false,tag:= "",pkgPath:= "",byteOffset:=8},{name:= "At",type:=3,offset:=2,embedded:=false,tag:= "",pkgPath:= "",byteOffset:=16}]) (Go.Value.agg #[Go.Value.int Go.IntKind.i64 0,Go.Value.int Go.IntKind.i64 0,Go.Value.int Go.IntKind.i64 0]) Tryz.t43:=⟨Tryz.underlying43,Tryz.zeroValue43,rfl⟩
instance kV:Ty Tryz.prog 47 (Go.TypeDesc.slice 59) (Go.Value.slice none 0 0) Tryz.t47:=⟨Tryz.underlying47,Tryz.zeroValue47,rfl⟩
instance kU:Ty Tryz.prog 48 (Go.TypeDesc.slice 4) (Go.Value.slice none 0 0) Tryz.t48:=⟨Tryz.underlying48,Tryz.zeroValue48,rfl⟩
instance kT:Ty Tryz.prog 53 (Go.TypeDesc.slice 60) (Go.Value.slice none 0 0) Tryz.t53:=⟨Tryz.underlying53,Tryz.zeroValue53,rfl⟩
instance kS:Ty Tryz.prog 57 (Go.TypeDesc.slice 79) (Go.Value.slice none 0 0) Tryz.t57:=⟨Tryz.underlying57,Tryz.zeroValue57,rfl⟩
instance kR:Ty Tryz.prog 59 (Go.TypeDesc.struct #[{name:= "Locals",type:=57,offset:=0,embedded:=false,tag:= "",pkgPath:= "",byteOffset:=0},{name:= "Stack",type:=57,offset:=1,embedded:=false,tag:= "",pkgPath:= "",byteOffset:=24}]) (Go.Value.agg #[Go.Value.slice none 0 0,Go.Value.slice none 0 0]) Tryz.t59:=⟨Tryz.underlying59,Tryz.zeroValue59,rfl⟩
instance kQ:Ty Tryz.prog 60 (Go.TypeDesc.struct #[{name:= "Locals",type:=57,offset:=0,embedded:=false,tag:= "",pkgPath:= "",byteOffset:=0},{name:= "Stack",type:=57,offset:=1,embedded:=false,tag:= "",pkgPath:= "",byteOffset:=24}]) (Go.Value.agg #[Go.Value.slice none 0 0,Go.Value.slice none 0 0]) Tryz.t60:=⟨Tryz.underlying60,Tryz.zeroValue60,rfl⟩
instance kP:Ty Tryz.prog 64 (Go.TypeDesc.slice 24) (Go.Value.slice none 0 0) Tryz.t64:=⟨Tryz.underlying64,Tryz.zeroValue64,rfl⟩
instance kO:Ty Tryz.prog 66 (Go.TypeDesc.struct #[{name:= "Params",type:=57,offset:=0,embedded:=false,tag:= "",pkgPath:= "",byteOffset:=0},{name:= "Locals",type:=3,offset:=1,embedded:=false,tag:= "",pkgPath:= "",byteOffset:=24},{name:= "Stack",type:=3,offset:=2,embedded:=false,tag:= "",pkgPath:= "",byteOffset:=32},{name:= "Code",type:=64,offset:=3,embedded:=false,tag:= "",pkgPath:= "",byteOffset:=40}]) (Go.Value.agg #[Go.Value.slice none 0 0,Go.Value.int Go.IntKind.i64 0,Go.Value.int Go.IntKind.i64 0,Go.Value.slice none 0 0]) Tryz.t66:=⟨Tryz.underlying66,Tryz.zeroValue66,rfl⟩
instance kN:Ty Tryz.prog 69 (Go.TypeDesc.slice 3) (Go.Value.slice none 0 0) Tryz.t69:=⟨Tryz.underlying69,Tryz.zeroValue69,rfl⟩
instance kM:Ty Tryz.prog 76 (Go.TypeDesc.struct #[{name:= "Fields",type:=57,offset:=0,embedded:=false,tag:= "",pkgPath:= "",byteOffset:=0}]) (Go.Value.agg #[Go.Value.slice none 0 0]) Tryz.t76:=⟨Tryz.underlying76,Tryz.zeroValue76,rfl⟩
instance kL:Ty Tryz.prog 79 (Go.TypeDesc.int Go.IntKind.i64) (Go.Value.int Go.IntKind.i64 0) Tryz.t79:=⟨Tryz.underlying79,Tryz.zeroValue79,rfl⟩
instance kK:Ty Tryz.prog 84 (Go.TypeDesc.int Go.IntKind.u64) (Go.Value.int Go.IntKind.u64 0) Tryz.t84:=⟨Tryz.underlying84,Tryz.zeroValue84,rfl⟩
instance kJ:Ty Tryz.prog 87 (Go.TypeDesc.int Go.IntKind.u64) (Go.Value.int Go.IntKind.u64 0) Tryz.t87:=⟨Tryz.underlying87,Tryz.zeroValue87,rfl⟩
instance kI:Ty Tryz.prog 89 (Go.TypeDesc.pointer 102) (Go.Value.pointer none) Tryz.t89:=⟨Tryz.underlying89,Tryz.zeroValue89,rfl⟩
instance kH:Ty Tryz.prog 91 (Go.TypeDesc.func #[] #[40] false) Go.Value.nilFunc Tryz.t91:=⟨Tryz.underlying91,Tryz.zeroValue91,rfl⟩
instance kG:Ty Tryz.prog 92 (Go.TypeDesc.array 3 91) (Go.Value.agg #[Go.Value.nilFunc,Go.Value.nilFunc,Go.Value.nilFunc]) Tryz.t92:=⟨Tryz.underlying92,Tryz.zeroValue92,rfl⟩
instance jN:Ty Tryz.prog 114 (Go.TypeDesc.func #[] #[121] false) Go.Value.nilFunc Tryz.t114:=⟨Tryz.underlying114,Tryz.zeroValue114,rfl⟩
instance jM:Ty Tryz.prog 116 (Go.TypeDesc.map 3 114) (Go.Value.map none) Tryz.t116:=⟨Tryz.underlying116,Tryz.zeroValue116,rfl⟩
instance jL:Ty Tryz.prog 118 (Go.TypeDesc.struct #[{name:= "Insn",type:=24,offset:=0,embedded:=true,tag:= "",pkgPath:= "",byteOffset:=0},{name:= "x",type:=32,offset:=3,embedded:=false,tag:= "",pkgPath:= "doorkeeper/kinds",byteOffset:=24},{name:= "m",type:=66,offset:=5,embedded:=false,tag:= "",pkgPath:= "doorkeeper/kinds",byteOffset:=72},{name:= "f",type:=59,offset:=9,embedded:=false,tag:= "",pkgPath:= "doorkeeper/kinds",byteOffset:=136}]) (Go.Value.agg #[Go.Value.int Go.IntKind.i64 0,Go.Value.int Go.IntKind.i64 0,Go.Value.int Go.IntKind.i64 0,Go.Value.slice none 0 0,Go.Value.slice none 0 0,Go.Value.slice none 0 0,Go.Value.int Go.IntKind.i64 0,Go.Value.int Go.IntKind.i64 0,Go.Value.slice none 0 0,Go.Value.slice none 0 0,Go.Value.slice none 0 0]) Tryz.t118:=⟨Tryz.underlying118,Tryz.zeroValue118,rfl⟩
instance jK:Ty Tryz.prog 121 (Go.TypeDesc.struct #[{name:= "is",type:=4,offset:=0,embedded:=false,tag:= "",pkgPath:= "doorkeeper/kinds",byteOffset:=0},{name:= "take",type:=57,offset:=1,embedded:=false,tag:= "",pkgPath:= "doorkeeper/kinds",byteOffset:=8},{name:= "put",type:=57,offset:=2,embedded:=false,tag:= "",pkgPath:= "doorkeeper/kinds",byteOffset:=32}]) (Go.Value.agg #[Go.Value.bool false,Go.Value.slice none 0 0,Go.Value.slice none 0 0]) Tryz.t121:=⟨Tryz.underlying121,Tryz.zeroValue121,rfl⟩
instance jJ:Ty Tryz.prog 129 (Go.TypeDesc.pointer 133) (Go.Value.pointer none) Tryz.t129:=⟨Tryz.underlying129,Tryz.zeroValue129,rfl⟩
instance jI:Ty Tryz.prog 131 (Go.TypeDesc.map 3 69) (Go.Value.map none) Tryz.t131:=⟨Tryz.underlying131,Tryz.zeroValue131,rfl⟩
instance jH:Ty Tryz.prog 145 (Go.TypeDesc.pointer 43) (Go.Value.pointer none) Tryz.t145:=⟨Tryz.underlying145,Tryz.zeroValue145,rfl⟩
instance jG:Ty Tryz.prog 147 (Go.TypeDesc.pointer 145) (Go.Value.pointer none) Tryz.t147:=⟨Tryz.underlying147,Tryz.zeroValue147,rfl⟩
instance jF:Ty Tryz.prog 163 (Go.TypeDesc.struct #[{name:= "Fault",type:=145,offset:=0,embedded:=true,tag:= "",pkgPath:= "",byteOffset:=0}]) (Go.Value.agg #[Go.Value.pointer none]) Tryz.t163:=⟨Tryz.underlying163,Tryz.zeroValue163,rfl⟩
instance jE:Ty Tryz.prog 180 (Go.TypeDesc.struct #[{name:= "Fault",type:=145,offset:=0,embedded:=true,tag:= "",pkgPath:= "",byteOffset:=0}]) (Go.Value.agg #[Go.Value.pointer none]) Tryz.t180:=⟨Tryz.underlying180,Tryz.zeroValue180,rfl⟩
instance jD:Ty Tryz.prog 182 (Go.TypeDesc.pointer 184) (Go.Value.pointer none) Tryz.t182:=⟨Tryz.underlying182,Tryz.zeroValue182,rfl⟩
instance jC:Ty Tryz.prog 236 (Go.TypeDesc.func #[69,3] #[69,4] false) Go.Value.nilFunc Tryz.t236:=⟨Tryz.underlying236,Tryz.zeroValue236,rfl⟩
instance jB:Ty Tryz.prog 238 (Go.TypeDesc.map 3 236) (Go.Value.map none) Tryz.t238:=⟨Tryz.underlying238,Tryz.zeroValue238,rfl⟩
instance jA:Ps Tryz.prog 24 (fun i=>nth [(0,1),(1,1),(2,1)] i) [Go.Value.int Go.IntKind.i64 0,Go.Value.int Go.IntKind.i64 0,Go.Value.int Go.IntKind.i64 0]:=Dl Tryz.underlying24 Tryz.zeroValue24 rfl
instance jz:Ps Tryz.prog 26 (fun i=>nth [(0,1),(1,1),(2,1),(3,1),(4,3)] i) [Go.Value.slice none 0 0,Go.Value.bool false,Go.Value.int Go.IntKind.u8 0,Go.Value.int Go.IntKind.u8 0,Go.Value.int Go.IntKind.i64 0,Go.Value.int Go.IntKind.i64 0,Go.Value.int Go.IntKind.i64 0]:=Dl Tryz.underlying26 Tryz.zeroValue26 rfl
instance jy:Ps Tryz.prog 32 (fun i=>nth [(0,1),(1,1)] i) [Go.Value.slice none 0 0,Go.Value.slice none 0 0]:=Dl Tryz.underlying32 Tryz.zeroValue32 rfl
instance jx:Ps Tryz.prog 43 (fun i=>nth [(0,1),(1,1),(2,1)] i) [Go.Value.int Go.IntKind.i64 0,Go.Value.int Go.IntKind.i64 0,Go.Value.int Go.IntKind.i64 0]:=Dl Tryz.underlying43 Tryz.zeroValue43 rfl
instance jw:Ps Tryz.prog 59 (fun i=>nth [(0,1),(1,1)] i) [Go.Value.slice none 0 0,Go.Value.slice none 0 0]:=Dl Tryz.underlying59 Tryz.zeroValue59 rfl
instance jv:Ps Tryz.prog 60 (fun i=>nth [(0,1),(1,1)] i) [Go.Value.slice none 0 0,Go.Value.slice none 0 0]:=Dl Tryz.underlying60 Tryz.zeroValue60 rfl
instance ju:Ps Tryz.prog 66 (fun i=>nth [(0,1),(1,1),(2,1),(3,1)] i) [Go.Value.slice none 0 0,Go.Value.int Go.IntKind.i64 0,Go.Value.int Go.IntKind.i64 0,Go.Value.slice none 0 0]:=Dl Tryz.underlying66 Tryz.zeroValue66 rfl
instance js:Ps Tryz.prog 76 (fun i=>nth [(0,1)] i) [Go.Value.slice none 0 0]:=Dl Tryz.underlying76 Tryz.zeroValue76 rfl
instance gX:Ps Tryz.prog 102 (fun i=>nth [(0,4),(4,2),(6,1),(7,1),(8,1)] i) [Go.Value.slice none 0 0,Go.Value.int Go.IntKind.i64 0,Go.Value.int Go.IntKind.i64 0,Go.Value.slice none 0 0,Go.Value.slice none 0 0,Go.Value.slice none 0 0,Go.Value.int Go.IntKind.i64 0,Go.Value.slice none 0 0,Go.Value.slice none 0 0]:=Dl Tryz.underlying102 Tryz.zeroValue102 rfl
instance gW:Ps Tryz.prog 118 (fun i=>nth [(0,3),(3,2),(5,4),(9,2)] i) [Go.Value.int Go.IntKind.i64 0,Go.Value.int Go.IntKind.i64 0,Go.Value.int Go.IntKind.i64 0,Go.Value.slice none 0 0,Go.Value.slice none 0 0,Go.Value.slice none 0 0,Go.Value.int Go.IntKind.i64 0,Go.Value.int Go.IntKind.i64 0,Go.Value.slice none 0 0,Go.Value.slice none 0 0,Go.Value.slice none 0 0]:=Dl Tryz.underlying118 Tryz.zeroValue118 rfl
instance gV:Ps Tryz.prog 121 (fun i=>nth [(0,1),(1,1),(2,1)] i) [Go.Value.bool false,Go.Value.slice none 0 0,Go.Value.slice none 0 0]:=Dl Tryz.underlying121 Tryz.zeroValue121 rfl
instance gU:Ps Tryz.prog 133 (fun i=>nth [(0,4),(4,1),(5,1),(6,1)] i) [Go.Value.slice none 0 0,Go.Value.int Go.IntKind.i64 0,Go.Value.int Go.IntKind.i64 0,Go.Value.slice none 0 0,Go.Value.map none,Go.Value.slice none 0 0,Go.Value.int Go.IntKind.i64 0]:=Dl Tryz.underlying133 Tryz.zeroValue133 rfl
instance gT:Ps Tryz.prog 136 (fun i=>nth [(0,1),(1,1),(2,1),(3,1),(4,1),(5,1)] i) [Go.Value.slice none 0 0,Go.Value.int Go.IntKind.i64 0,Go.Value.int Go.IntKind.i64 0,Go.Value.slice none 0 0,Go.Value.slice none 0 0,Go.Value.int Go.IntKind.i64 0]:=Dl Tryz.underlying136 Tryz.zeroValue136 rfl
instance gS:Ps Tryz.prog 142 (fun i=>nth [(0,1)] i) [Go.Value.slice none 0 0]:=Dl Tryz.underlying142 Tryz.zeroValue142 rfl
instance gR:Ps Tryz.prog 163 (fun i=>nth [(0,1)] i) [Go.Value.pointer none]:=Dl Tryz.underlying163 Tryz.zeroValue163 rfl
instance gQ:Ps Tryz.prog 180 (fun i=>nth [(0,1)] i) [Go.Value.pointer none]:=Dl Tryz.underlying180 Tryz.zeroValue180 rfl
instance gP:Ps Tryz.prog 184 (fun i=>nth [(0,1),(1,1)] i) [Go.Value.string {data:= #[]},Go.Value.int Go.IntKind.i64 0]:=Dl Tryz.underlying184 Tryz.zeroValue184 rfl
instance :He Tryz.prog 24 0 0:=Da (i:=Tryz.t3) Tryz.underlying24 rfl rfl rfl rfl
instance :He Tryz.prog 24 1 1:=Da (i:=Tryz.t3) Tryz.underlying24 rfl rfl rfl rfl
instance :He Tryz.prog 24 2 2:=Da (i:=Tryz.t3) Tryz.underlying24 rfl rfl rfl rfl
instance :He Tryz.prog 26 0 0:=Da (i:=Tryz.t22) Tryz.underlying26 rfl rfl rfl rfl
instance :He Tryz.prog 26 1 1:=Da (i:=Tryz.t4) Tryz.underlying26 rfl rfl rfl rfl
instance :He Tryz.prog 26 2 2:=Da (i:=Tryz.t5) Tryz.underlying26 rfl rfl rfl rfl
instance :He Tryz.prog 26 3 3:=Da (i:=Tryz.t5) Tryz.underlying26 rfl rfl rfl rfl
instance :He Tryz.prog 26 4 4:=Da (i:=Tryz.t24) Tryz.underlying26 rfl rfl rfl rfl
instance :He Tryz.prog 32 0 0:=Da (i:=Tryz.t29) Tryz.underlying32 rfl rfl rfl rfl
instance :He Tryz.prog 32 1 1:=Da (i:=Tryz.t30) Tryz.underlying32 rfl rfl rfl rfl
instance :He Tryz.prog 43 0 0:=Da (i:=Tryz.t34) Tryz.underlying43 rfl rfl rfl rfl
instance :He Tryz.prog 55 0 0:=Da (i:=Tryz.t53) Tryz.underlying55 rfl rfl rfl rfl
instance :He Tryz.prog 55 1 1:=Da (i:=Tryz.t48) Tryz.underlying55 rfl rfl rfl rfl
instance :He Tryz.prog 55 2 2:=Da (i:=Tryz.t43) Tryz.underlying55 rfl rfl rfl rfl
instance :He Tryz.prog 59 0 0:=Da (i:=Tryz.t57) Tryz.underlying59 rfl rfl rfl rfl
instance :He Tryz.prog 59 1 1:=Da (i:=Tryz.t57) Tryz.underlying59 rfl rfl rfl rfl
instance :He Tryz.prog 60 0 0:=Da (i:=Tryz.t57) Tryz.underlying60 rfl rfl rfl rfl
instance :He Tryz.prog 60 1 1:=Da (i:=Tryz.t57) Tryz.underlying60 rfl rfl rfl rfl
instance :He Tryz.prog 66 0 0:=Da (i:=Tryz.t57) Tryz.underlying66 rfl rfl rfl rfl
instance :He Tryz.prog 66 1 1:=Da (i:=Tryz.t3) Tryz.underlying66 rfl rfl rfl rfl
instance :He Tryz.prog 66 2 2:=Da (i:=Tryz.t3) Tryz.underlying66 rfl rfl rfl rfl
instance :He Tryz.prog 66 3 3:=Da (i:=Tryz.t64) Tryz.underlying66 rfl rfl rfl rfl
instance :He Tryz.prog 76 0 0:=Da (i:=Tryz.t57) Tryz.underlying76 rfl rfl rfl rfl
instance :He Tryz.prog 102 0 0:=Da (i:=Tryz.t66) Tryz.underlying102 rfl rfl rfl rfl
instance :He Tryz.prog 102 1 4:=Da (i:=Tryz.t32) Tryz.underlying102 rfl rfl rfl rfl
instance :He Tryz.prog 102 2 6:=Da (i:=Tryz.t3) Tryz.underlying102 rfl rfl rfl rfl
instance :He Tryz.prog 102 3 7:=Da (i:=Tryz.t47) Tryz.underlying102 rfl rfl rfl rfl
instance :He Tryz.prog 102 4 8:=Da (i:=Tryz.t48) Tryz.underlying102 rfl rfl rfl rfl
instance :He Tryz.prog 118 0 0:=Da (i:=Tryz.t24) Tryz.underlying118 rfl rfl rfl rfl
instance :He Tryz.prog 118 1 3:=Da (i:=Tryz.t32) Tryz.underlying118 rfl rfl rfl rfl
instance :He Tryz.prog 118 2 5:=Da (i:=Tryz.t66) Tryz.underlying118 rfl rfl rfl rfl
instance :He Tryz.prog 118 3 9:=Da (i:=Tryz.t59) Tryz.underlying118 rfl rfl rfl rfl
instance :He Tryz.prog 121 0 0:=Da (i:=Tryz.t4) Tryz.underlying121 rfl rfl rfl rfl
instance :He Tryz.prog 121 1 1:=Da (i:=Tryz.t57) Tryz.underlying121 rfl rfl rfl rfl
instance :He Tryz.prog 121 2 2:=Da (i:=Tryz.t57) Tryz.underlying121 rfl rfl rfl rfl
instance :He Tryz.prog 133 0 0:=Da (i:=Tryz.t66) Tryz.underlying133 rfl rfl rfl rfl
instance :He Tryz.prog 133 1 4:=Da (i:=Tryz.t131) Tryz.underlying133 rfl rfl rfl rfl
instance :He Tryz.prog 133 2 5:=Da (i:=Tryz.t69) Tryz.underlying133 rfl rfl rfl rfl
instance :He Tryz.prog 133 3 6:=Da (i:=Tryz.t3) Tryz.underlying133 rfl rfl rfl rfl
instance :He Tryz.prog 136 0 0:=Da (i:=Tryz.t22) Tryz.underlying136 rfl rfl rfl rfl
instance :He Tryz.prog 136 1 1:=Da (i:=Tryz.t3) Tryz.underlying136 rfl rfl rfl rfl
instance :He Tryz.prog 136 2 2:=Da (i:=Tryz.t3) Tryz.underlying136 rfl rfl rfl rfl
instance :He Tryz.prog 136 3 3:=Da (i:=Tryz.t64) Tryz.underlying136 rfl rfl rfl rfl
instance :He Tryz.prog 136 4 4:=Da (i:=Tryz.t48) Tryz.underlying136 rfl rfl rfl rfl
instance :He Tryz.prog 136 5 5:=Da (i:=Tryz.t3) Tryz.underlying136 rfl rfl rfl rfl
instance :He Tryz.prog 142 0 0:=Da (i:=Tryz.t22) Tryz.underlying142 rfl rfl rfl rfl
instance :He Tryz.prog 184 0 0:=Da (i:=Tryz.t9) Tryz.underlying184 rfl rfl rfl rfl
instance :He Tryz.prog 184 1 1:=Da (i:=Tryz.t3) Tryz.underlying184 rfl rfl rfl rfl
instance :Zq Tryz.prog 3:=L5 Tryz.underlying3 rfl
instance :Zq Tryz.prog 4:=L5 Tryz.underlying4 rfl
instance :Zq Tryz.prog 5:=L5 Tryz.underlying5 rfl
instance :Ns Tryz.prog 22 5 1:=IF (i:=Tryz.t5) Tryz.underlying22 rfl rfl
instance :M4 Tryz.prog 22 5 1 1:=Jk (i:=Tryz.t5) (z:=(Go.Value.int Go.IntKind.u8 0)) Tryz.underlying22 rfl rfl rfl rfl rfl
instance :Y6 Tryz.prog 24 3:=Ny (i:=Tryz.t24) Tryz.underlying24 rfl rfl rfl
instance :Ns Tryz.prog 29 76 1:=IF (i:=Tryz.t76) Tryz.underlying29 rfl rfl
instance :M4 Tryz.prog 29 76 1 24:=Jk (i:=Tryz.t76) (z:=(Go.Value.agg #[Go.Value.slice none 0 0])) Tryz.underlying29 rfl rfl rfl rfl rfl
instance :Ns Tryz.prog 30 66 4:=IF (i:=Tryz.t66) Tryz.underlying30 rfl rfl
instance :M4 Tryz.prog 30 66 4 64:=Jk (i:=Tryz.t66) (z:=(Go.Value.agg #[Go.Value.slice none 0 0,Go.Value.int Go.IntKind.i64 0,Go.Value.int Go.IntKind.i64 0,Go.Value.slice none 0 0])) Tryz.underlying30 rfl rfl rfl rfl rfl
instance :Ns Tryz.prog 47 59 2:=IF (i:=Tryz.t59) Tryz.underlying47 rfl rfl
instance :M4 Tryz.prog 47 59 2 48:=Jk (i:=Tryz.t59) (z:=(Go.Value.agg #[Go.Value.slice none 0 0,Go.Value.slice none 0 0])) Tryz.underlying47 rfl rfl rfl rfl rfl
instance :Ns Tryz.prog 48 4 1:=IF (i:=Tryz.t4) Tryz.underlying48 rfl rfl
instance :M4 Tryz.prog 48 4 1 1:=Jk (i:=Tryz.t4) (z:=(Go.Value.bool false)) Tryz.underlying48 rfl rfl rfl rfl rfl
instance :Ns Tryz.prog 53 60 2:=IF (i:=Tryz.t60) Tryz.underlying53 rfl rfl
instance :Ns Tryz.prog 57 79 1:=IF (i:=Tryz.t79) Tryz.underlying57 rfl rfl
instance :M4 Tryz.prog 57 79 1 8:=Jk (i:=Tryz.t79) (z:=(Go.Value.int Go.IntKind.i64 0)) Tryz.underlying57 rfl rfl rfl rfl rfl
instance :Y6 Tryz.prog 59 2:=Ny (i:=Tryz.t59) Tryz.underlying59 rfl rfl rfl
instance :Y6 Tryz.prog 60 2:=Ny (i:=Tryz.t60) Tryz.underlying60 rfl rfl rfl
instance :Zq Tryz.prog 64:=L5 Tryz.underlying64 rfl
instance :Ns Tryz.prog 64 24 3:=IF (i:=Tryz.t24) Tryz.underlying64 rfl rfl
instance :M4 Tryz.prog 64 24 3 24:=Jk (i:=Tryz.t24) (z:=(Go.Value.agg #[Go.Value.int Go.IntKind.i64 0,Go.Value.int Go.IntKind.i64 0,Go.Value.int Go.IntKind.i64 0])) Tryz.underlying64 rfl rfl rfl rfl rfl
instance :Y6 Tryz.prog 66 4:=Ny (i:=Tryz.t66) Tryz.underlying66 rfl rfl rfl
instance :Ns Tryz.prog 69 3 1:=IF (i:=Tryz.t3) Tryz.underlying69 rfl rfl
instance :M4 Tryz.prog 69 3 1 8:=Jk (i:=Tryz.t3) (z:=(Go.Value.int Go.IntKind.i64 0)) Tryz.underlying69 rfl rfl rfl rfl rfl
instance :Y6 Tryz.prog 76 1:=Ny (i:=Tryz.t76) Tryz.underlying76 rfl rfl rfl
instance :Zq Tryz.prog 79:=L5 Tryz.underlying79 rfl
instance :Zq Tryz.prog 91:=L5 Tryz.underlying91 rfl
instance :jg Tryz.prog 92 3 91 1:=bY (i:=Tryz.t91) Tryz.underlying92 rfl rfl
instance :gJ Tryz.prog 43 [(0,0),(1,0),(2,0)]:=⟨rfl,by kernel_rfl,by kernel_rfl,by kernel_rfl,rfl⟩
instance :Enters Tryz.prog 22:=⟨fun _ _=>rfl⟩
instance :Enters Tryz.prog 95:=⟨fun _ _=>rfl⟩
instance :Enters Tryz.prog 191:=⟨fun _ _=>rfl⟩
instance :Enters Tryz.prog 93:=⟨fun _ _=>rfl⟩
instance :Enters Tryz.prog 15:=⟨fun _ _=>rfl⟩
instance :Enters Tryz.prog 12:=⟨fun _ _=>rfl⟩
instance :Enters Tryz.prog 146:=⟨fun _ _=>rfl⟩
instance :Enters Tryz.prog 49:=⟨fun _ _=>rfl⟩
instance :Enters Tryz.prog 32:=⟨fun _ _=>rfl⟩
instance :Enters Tryz.prog 79:=⟨fun _ _=>rfl⟩
instance :Enters Tryz.prog 66:=⟨fun _ _=>rfl⟩
instance :Enters Tryz.prog 50:=⟨fun _ _=>rfl⟩
instance :Enters Tryz.prog 94:=⟨fun _ _=>rfl⟩
instance :Enters Tryz.prog 201:=⟨fun _ _=>rfl⟩
instance :Enters Tryz.prog 101:=⟨fun _ _=>rfl⟩
instance :Enters Tryz.prog 99:=⟨fun _ _=>rfl⟩
instance :Enters Tryz.prog 189:=⟨fun _ _=>rfl⟩
instance :Enters Tryz.prog 31:=⟨fun _ _=>rfl⟩
instance :Enters Tryz.prog 129:=⟨fun _ _=>rfl⟩
instance :Enters Tryz.prog 134:=⟨fun _ _=>rfl⟩
instance :Enters Tryz.prog 19:=⟨fun _ _=>rfl⟩
instance :Enters Tryz.prog 144:=⟨fun _ _=>rfl⟩
instance :Enters Tryz.prog 58:=⟨fun _ _=>rfl⟩
instance :Enters Tryz.prog 149:=⟨fun _ _=>rfl⟩
instance :Enters Tryz.prog 55:=⟨fun _ _=>rfl⟩
instance :Enters Tryz.prog 34:=⟨fun _ _=>rfl⟩
instance :Enters Tryz.prog 59:=⟨fun _ _=>rfl⟩
instance :Enters Tryz.prog 20:=⟨fun _ _=>rfl⟩
instance :Enters Tryz.prog 26:=⟨fun _ _=>rfl⟩
instance :Enters Tryz.prog 56:=⟨fun _ _=>rfl⟩
instance :Enters Tryz.prog 23:=⟨fun _ _=>rfl⟩
instance :Enters Tryz.prog 64:=⟨fun _ _=>rfl⟩
instance :Enters Tryz.prog 155:=⟨fun _ _=>rfl⟩
instance :Enters Tryz.prog 44:=⟨fun _ _=>rfl⟩
instance :Enters Tryz.prog 43:=⟨fun _ _=>rfl⟩
instance :Enters Tryz.prog 78:=⟨fun _ _=>rfl⟩
instance :Enters Tryz.prog 85:=⟨fun _ _=>rfl⟩
instance :Enters Tryz.prog 10:=⟨fun _ _=>rfl⟩
instance :Enters Tryz.prog 21:=⟨fun _ _=>rfl⟩
instance :Enters Tryz.prog 52:=⟨fun _ _=>rfl⟩
instance :Enters Tryz.prog 83:=⟨fun _ _=>rfl⟩
instance :Enters Tryz.prog 53:=⟨fun _ _=>rfl⟩
instance :Enters Tryz.prog 98:=⟨fun _ _=>rfl⟩
instance :Enters Tryz.prog 203:=⟨fun _ _=>rfl⟩
instance :Enters Tryz.prog 35:=⟨fun _ _=>rfl⟩
instance :Enters Tryz.prog 140:=⟨fun _ _=>rfl⟩
instance :Enters Tryz.prog 87:=⟨fun _ _=>rfl⟩
instance :Enters Tryz.prog 148:=⟨fun _ _=>rfl⟩
instance :Enters Tryz.prog 18:=⟨fun _ _=>rfl⟩
instance :Enters Tryz.prog 115:=⟨fun _ _=>rfl⟩
instance :Enters Tryz.prog 65:=⟨fun _ _=>rfl⟩
instance :Enters Tryz.prog 119:=⟨fun _ _=>rfl⟩
instance :Enters Tryz.prog 89:=⟨fun _ _=>rfl⟩
instance :Enters Tryz.prog 63:=⟨fun _ _=>rfl⟩
instance :Enters Tryz.prog 91:=⟨fun _ _=>rfl⟩
instance :Enters Tryz.prog 11:=⟨fun _ _=>rfl⟩
instance :Enters Tryz.prog 33:=⟨fun _ _=>rfl⟩
instance :Enters Tryz.prog 97:=⟨fun _ _=>rfl⟩
instance :Enters Tryz.prog 180:=⟨fun _ _=>rfl⟩
instance :Enters Tryz.prog 48:=⟨fun _ _=>rfl⟩
instance :Enters Tryz.prog 109:=⟨fun _ _=>rfl⟩
instance :Enters Tryz.prog 107:=⟨fun _ _=>rfl⟩
instance :Enters Tryz.prog 135:=⟨fun _ _=>rfl⟩
instance :Enters Tryz.prog 82:=⟨fun _ _=>rfl⟩
instance :Enters Tryz.prog 177:=⟨fun _ _=>rfl⟩
instance :Enters Tryz.prog 184:=⟨fun _ _=>rfl⟩
instance :Enters Tryz.prog 142:=⟨fun _ _=>rfl⟩
instance :Enters Tryz.prog 92:=⟨fun _ _=>rfl⟩
instance :Enters Tryz.prog 62:=⟨fun _ _=>rfl⟩
instance :Enters Tryz.prog 145:=⟨fun _ _=>rfl⟩
instance :Enters Tryz.prog 103:=⟨fun _ _=>rfl⟩
instance :Enters Tryz.prog 185:=⟨fun _ _=>rfl⟩
instance :Enters Tryz.prog 138:=⟨fun _ _=>rfl⟩
instance :Enters Tryz.prog 187:=⟨fun _ _=>rfl⟩
instance :Enters Tryz.prog 182:=⟨fun _ _=>rfl⟩
instance :Enters Tryz.prog 27:=⟨fun _ _=>rfl⟩
instance :Enters Tryz.prog 47:=⟨fun _ _=>rfl⟩
instance :Enters Tryz.prog 110:=⟨fun _ _=>rfl⟩
instance :Enters Tryz.prog 154:=⟨fun _ _=>rfl⟩
instance :Enters Tryz.prog 178:=⟨fun _ _=>rfl⟩
instance :Enters Tryz.prog 147:=⟨fun _ _=>rfl⟩
instance :Enters Tryz.prog 75:=⟨fun _ _=>rfl⟩
instance :Enters Tryz.prog 156:=⟨fun _ _=>rfl⟩
instance :Enters Tryz.prog 143:=⟨fun _ _=>rfl⟩
instance :Enters Tryz.prog 86:=⟨fun _ _=>rfl⟩
instance :Enters Tryz.prog 199:=⟨fun _ _=>rfl⟩
instance :Enters Tryz.prog 188:=⟨fun _ _=>rfl⟩
instance :Enters Tryz.prog 8:=⟨fun _ _=>rfl⟩
instance :Enters Tryz.prog 102:=⟨fun _ _=>rfl⟩
instance :Enters Tryz.prog 61:=⟨fun _ _=>rfl⟩
instance :Enters Tryz.prog 152:=⟨fun _ _=>rfl⟩
instance :Enters Tryz.prog 30:=⟨fun _ _=>rfl⟩
instance :Enters Tryz.prog 67:=⟨fun _ _=>rfl⟩
instance :Enters Tryz.prog 200:=⟨fun _ _=>rfl⟩
instance :Enters Tryz.prog 132:=⟨fun _ _=>rfl⟩
instance :Enters Tryz.prog 76:=⟨fun _ _=>rfl⟩
instance :Enters Tryz.prog 183:=⟨fun _ _=>rfl⟩
instance :Enters Tryz.prog 25:=⟨fun _ _=>rfl⟩
instance :Enters Tryz.prog 104:=⟨fun _ _=>rfl⟩
instance :Enters Tryz.prog 40:=⟨fun _ _=>rfl⟩
instance :Enters Tryz.prog 162:=⟨fun _ _=>rfl⟩
instance :Enters Tryz.prog 118:=⟨fun _ _=>rfl⟩
instance :Enters Tryz.prog 57:=⟨fun _ _=>rfl⟩
instance :Enters Tryz.prog 80:=⟨fun _ _=>rfl⟩
instance :Enters Tryz.prog 150:=⟨fun _ _=>rfl⟩
instance :Enters Tryz.prog 100:=⟨fun _ _=>rfl⟩
instance :Enters Tryz.prog 81:=⟨fun _ _=>rfl⟩
instance :Enters Tryz.prog 181:=⟨fun _ _=>rfl⟩
instance :Enters Tryz.prog 24:=⟨fun _ _=>rfl⟩
instance :Enters Tryz.prog 120:=⟨fun _ _=>rfl⟩
instance :Enters Tryz.prog 141:=⟨fun _ _=>rfl⟩
instance :Enters Tryz.prog 117:=⟨fun _ _=>rfl⟩
instance :Enters Tryz.prog 96:=⟨fun _ _=>rfl⟩
instance :Enters Tryz.prog 88:=⟨fun _ _=>rfl⟩
instance :Enters Tryz.prog 54:=⟨fun _ _=>rfl⟩
instance :Enters Tryz.prog 151:=⟨fun _ _=>rfl⟩
instance :Enters Tryz.prog 186:=⟨fun _ _=>rfl⟩
instance :Enters Tryz.prog 45:=⟨fun _ _=>rfl⟩
instance :Enters Tryz.prog 161:=⟨fun _ _=>rfl⟩
instance :Enters Tryz.prog 139:=⟨fun _ _=>rfl⟩
instance :Enters Tryz.prog 153:=⟨fun _ _=>rfl⟩
instance :Enters Tryz.prog 116:=⟨fun _ _=>rfl⟩
instance :Enters Tryz.prog 179:=⟨fun _ _=>rfl⟩
instance :Enters Tryz.prog 133:=⟨fun _ _=>rfl⟩
instance :Enters Tryz.prog 108:=⟨fun _ _=>rfl⟩
instance :Enters Tryz.prog 105:=⟨fun _ _=>rfl⟩
instance :Enters Tryz.prog 90:=⟨fun _ _=>rfl⟩
instance :Enters Tryz.prog 190:=⟨fun _ _=>rfl⟩
instance :Enters Tryz.prog 106:=⟨fun _ _=>rfl⟩
instance :Enters Tryz.prog 51:=⟨fun _ _=>rfl⟩
instance :Enters Tryz.prog 157:=⟨fun _ _=>rfl⟩
instance :Enters Tryz.prog 46:=⟨fun _ _=>rfl⟩
instance :Enters Tryz.prog 84:=⟨fun _ _=>rfl⟩
instance :Enters Tryz.prog 77:=⟨fun _ _=>rfl⟩
end Go.Proofs.YtcnmnmjmpocepaaGreatDoor
