/- Facts of the seat's types and functions, by program. -/
import Derived.Test.YtifhhfeibnpaoaaSlG3
import Derived.KernelRfl
import Derived.Test.YtifhhfeibnpaoaaProg
namespace Go.Proofs.Ytifhhfeibnpaoaa
open Go.SL
set_option maxRecDepth 100000
instance ty0 : Ty Try.prog 0 (Go.TypeDesc.tuple #[]) (Go.Value.tuple #[]) Try.t0 := ⟨Try.underlying0, Try.zeroValue0, rfl⟩
instance ty1 : Ty Try.prog 1 (Go.TypeDesc.func #[] #[] false) Go.Value.nilFunc Try.t1 := ⟨Try.underlying1, Try.zeroValue1, rfl⟩
instance ty2 : Ty Try.prog 2 (Go.TypeDesc.int Go.IntKind.i64) (Go.Value.int Go.IntKind.i64 0) Try.t2 := ⟨Try.underlying2, Try.zeroValue2, rfl⟩
instance ty3 : Ty Try.prog 3 (Go.TypeDesc.int Go.IntKind.i64) (Go.Value.int Go.IntKind.i64 0) Try.t3 := ⟨Try.underlying3, Try.zeroValue3, rfl⟩
instance ty4 : Ty Try.prog 4 Go.TypeDesc.bool (Go.Value.bool false) Try.t4 := ⟨Try.underlying4, Try.zeroValue4, rfl⟩
instance ty5 : Ty Try.prog 5 (Go.TypeDesc.int Go.IntKind.u8) (Go.Value.int Go.IntKind.u8 0) Try.t5 := ⟨Try.underlying5, Try.zeroValue5, rfl⟩
instance ty6 : Ty Try.prog 6 (Go.TypeDesc.int Go.IntKind.u8) (Go.Value.int Go.IntKind.u8 0) Try.t6 := ⟨Try.underlying6, Try.zeroValue6, rfl⟩
instance ty7 : Ty Try.prog 7 (Go.TypeDesc.struct #[{ name := "x", type := 2, offset := 0, embedded := false, tag := "", pkgPath := "runtime", byteOffset := 0 }, { name := "y", type := 3, offset := 1, embedded := false, tag := "", pkgPath := "runtime", byteOffset := 8 }, { name := "signed", type := 4, offset := 2, embedded := false, tag := "", pkgPath := "runtime", byteOffset := 16 }, { name := "code", type := 6, offset := 3, embedded := false, tag := "", pkgPath := "runtime", byteOffset := 17 }]) (Go.Value.agg #[Go.Value.int Go.IntKind.i64 0, Go.Value.int Go.IntKind.i64 0, Go.Value.bool false, Go.Value.int Go.IntKind.u8 0]) Try.t7 := ⟨Try.underlying7, Try.zeroValue7, rfl⟩
instance ty8 : Ty Try.prog 8 (Go.TypeDesc.struct #[{ name := "x", type := 2, offset := 0, embedded := false, tag := "", pkgPath := "runtime", byteOffset := 0 }, { name := "y", type := 3, offset := 1, embedded := false, tag := "", pkgPath := "runtime", byteOffset := 8 }, { name := "signed", type := 4, offset := 2, embedded := false, tag := "", pkgPath := "runtime", byteOffset := 16 }, { name := "code", type := 6, offset := 3, embedded := false, tag := "", pkgPath := "runtime", byteOffset := 17 }]) (Go.Value.agg #[Go.Value.int Go.IntKind.i64 0, Go.Value.int Go.IntKind.i64 0, Go.Value.bool false, Go.Value.int Go.IntKind.u8 0]) Try.t8 := ⟨Try.underlying8, Try.zeroValue8, rfl⟩
instance ty9 : Ty Try.prog 9 Go.TypeDesc.string (Go.Value.string { data := #[] }) Try.t9 := ⟨Try.underlying9, Try.zeroValue9, rfl⟩
instance ty10 : Ty Try.prog 10 Go.TypeDesc.string (Go.Value.string { data := #[] }) Try.t10 := ⟨Try.underlying10, Try.zeroValue10, rfl⟩
instance ty11 : Ty Try.prog 11 Go.TypeDesc.string (Go.Value.string { data := #[] }) Try.t11 := ⟨Try.underlying11, Try.zeroValue11, rfl⟩
instance ty12 : Ty Try.prog 12 (Go.TypeDesc.int Go.IntKind.u64) (Go.Value.int Go.IntKind.u64 0) Try.t12 := ⟨Try.underlying12, Try.zeroValue12, rfl⟩
instance ty13 : Ty Try.prog 13 (Go.TypeDesc.struct #[{ name := "msg", type := 9, offset := 0, embedded := false, tag := "", pkgPath := "runtime", byteOffset := 0 }, { name := "addr", type := 12, offset := 1, embedded := false, tag := "", pkgPath := "runtime", byteOffset := 16 }]) (Go.Value.agg #[Go.Value.string { data := #[] }, Go.Value.int Go.IntKind.u64 0]) Try.t13 := ⟨Try.underlying13, Try.zeroValue13, rfl⟩
instance ty14 : Ty Try.prog 14 (Go.TypeDesc.struct #[{ name := "msg", type := 9, offset := 0, embedded := false, tag := "", pkgPath := "runtime", byteOffset := 0 }, { name := "addr", type := 12, offset := 1, embedded := false, tag := "", pkgPath := "runtime", byteOffset := 16 }]) (Go.Value.agg #[Go.Value.string { data := #[] }, Go.Value.int Go.IntKind.u64 0]) Try.t14 := ⟨Try.underlying14, Try.zeroValue14, rfl⟩
instance ty15 : Ty Try.prog 15 (Go.TypeDesc.pointer 120) (Go.Value.pointer none) Try.t15 := ⟨Try.underlying15, Try.zeroValue15, rfl⟩
instance ty16 : Ty Try.prog 16 (Go.TypeDesc.pointer 123) (Go.Value.pointer none) Try.t16 := ⟨Try.underlying16, Try.zeroValue16, rfl⟩
instance ty17 : Ty Try.prog 17 (Go.TypeDesc.pointer 131) (Go.Value.pointer none) Try.t17 := ⟨Try.underlying17, Try.zeroValue17, rfl⟩
instance ty18 : Ty Try.prog 18 (Go.TypeDesc.struct #[{ name := "typ", type := 17, offset := 0, embedded := false, tag := "", pkgPath := "internal/runtime/maps", byteOffset := 0 }]) (Go.Value.agg #[Go.Value.pointer none]) Try.t18 := ⟨Try.underlying18, Try.zeroValue18, rfl⟩
instance ty19 : Ty Try.prog 19 (Go.TypeDesc.struct #[{ name := "typ", type := 17, offset := 0, embedded := false, tag := "", pkgPath := "internal/runtime/maps", byteOffset := 0 }]) (Go.Value.agg #[Go.Value.pointer none]) Try.t19 := ⟨Try.underlying19, Try.zeroValue19, rfl⟩
instance ty20 : Ty Try.prog 20 (Go.TypeDesc.interface #[]) Go.Value.nilIface Try.t20 := ⟨Try.underlying20, Try.zeroValue20, rfl⟩
instance ty21 : Ty Try.prog 21 (Go.TypeDesc.int Go.IntKind.i32) (Go.Value.int Go.IntKind.i32 0) Try.t21 := ⟨Try.underlying21, Try.zeroValue21, rfl⟩
instance ty22 : Ty Try.prog 22 (Go.TypeDesc.slice 5) (Go.Value.slice none 0 0) Try.t22 := ⟨Try.underlying22, Try.zeroValue22, rfl⟩
instance ty23 : Ty Try.prog 23 (Go.TypeDesc.array 2 5) (Go.Value.agg #[Go.Value.int Go.IntKind.u8 0, Go.Value.int Go.IntKind.u8 0]) Try.t23 := ⟨Try.underlying23, Try.zeroValue23, rfl⟩
instance ty24 : Ty Try.prog 24 (Go.TypeDesc.struct #[{ name := "B", type := 22, offset := 0, embedded := false, tag := "", pkgPath := "", byteOffset := 0 }, { name := "Odd", type := 4, offset := 1, embedded := false, tag := "", pkgPath := "", byteOffset := 24 }, { name := "At", type := 5, offset := 2, embedded := false, tag := "", pkgPath := "", byteOffset := 25 }, { name := "X", type := 23, offset := 3, embedded := false, tag := "", pkgPath := "", byteOffset := 26 }, { name := "at", type := 3, offset := 5, embedded := false, tag := "", pkgPath := "doorkeeper/doorkeeperref29", byteOffset := 32 }]) (Go.Value.agg #[Go.Value.slice none 0 0, Go.Value.bool false, Go.Value.int Go.IntKind.u8 0, Go.Value.int Go.IntKind.u8 0, Go.Value.int Go.IntKind.u8 0, Go.Value.int Go.IntKind.i64 0]) Try.t24 := ⟨Try.underlying24, Try.zeroValue24, rfl⟩
instance ty25 : Ty Try.prog 25 (Go.TypeDesc.struct #[{ name := "B", type := 22, offset := 0, embedded := false, tag := "", pkgPath := "", byteOffset := 0 }, { name := "Odd", type := 4, offset := 1, embedded := false, tag := "", pkgPath := "", byteOffset := 24 }, { name := "At", type := 5, offset := 2, embedded := false, tag := "", pkgPath := "", byteOffset := 25 }, { name := "X", type := 23, offset := 3, embedded := false, tag := "", pkgPath := "", byteOffset := 26 }, { name := "at", type := 3, offset := 5, embedded := false, tag := "", pkgPath := "doorkeeper/doorkeeperref29", byteOffset := 32 }]) (Go.Value.agg #[Go.Value.slice none 0 0, Go.Value.bool false, Go.Value.int Go.IntKind.u8 0, Go.Value.int Go.IntKind.u8 0, Go.Value.int Go.IntKind.u8 0, Go.Value.int Go.IntKind.i64 0]) Try.t25 := ⟨Try.underlying25, Try.zeroValue25, rfl⟩
instance ty26 : Ty Try.prog 26 (Go.TypeDesc.slice 29) (Go.Value.slice none 0 0) Try.t26 := ⟨Try.underlying26, Try.zeroValue26, rfl⟩
instance ty27 : Ty Try.prog 27 (Go.TypeDesc.int Go.IntKind.u64) (Go.Value.int Go.IntKind.u64 0) Try.t27 := ⟨Try.underlying27, Try.zeroValue27, rfl⟩
instance ty28 : Ty Try.prog 28 (Go.TypeDesc.struct #[{ name := "Op", type := 3, offset := 0, embedded := false, tag := "", pkgPath := "", byteOffset := 0 }, { name := "A", type := 3, offset := 1, embedded := false, tag := "", pkgPath := "", byteOffset := 8 }, { name := "B", type := 3, offset := 2, embedded := false, tag := "", pkgPath := "", byteOffset := 16 }]) (Go.Value.agg #[Go.Value.int Go.IntKind.i64 0, Go.Value.int Go.IntKind.i64 0, Go.Value.int Go.IntKind.i64 0]) Try.t28 := ⟨Try.underlying28, Try.zeroValue28, rfl⟩
instance ty29 : Ty Try.prog 29 (Go.TypeDesc.struct #[{ name := "Op", type := 3, offset := 0, embedded := false, tag := "", pkgPath := "", byteOffset := 0 }, { name := "A", type := 3, offset := 1, embedded := false, tag := "", pkgPath := "", byteOffset := 8 }, { name := "B", type := 3, offset := 2, embedded := false, tag := "", pkgPath := "", byteOffset := 16 }]) (Go.Value.agg #[Go.Value.int Go.IntKind.i64 0, Go.Value.int Go.IntKind.i64 0, Go.Value.int Go.IntKind.i64 0]) Try.t29 := ⟨Try.underlying29, Try.zeroValue29, rfl⟩
instance ty30 : Ty Try.prog 30 (Go.TypeDesc.slice 132) (Go.Value.slice none 0 0) Try.t30 := ⟨Try.underlying30, Try.zeroValue30, rfl⟩
instance ty31 : Ty Try.prog 31 (Go.TypeDesc.struct #[{ name := "Params", type := 30, offset := 0, embedded := false, tag := "", pkgPath := "", byteOffset := 0 }, { name := "Locals", type := 3, offset := 1, embedded := false, tag := "", pkgPath := "", byteOffset := 24 }, { name := "Stack", type := 3, offset := 2, embedded := false, tag := "", pkgPath := "", byteOffset := 32 }, { name := "Code", type := 26, offset := 3, embedded := false, tag := "", pkgPath := "", byteOffset := 40 }]) (Go.Value.agg #[Go.Value.slice none 0 0, Go.Value.int Go.IntKind.i64 0, Go.Value.int Go.IntKind.i64 0, Go.Value.slice none 0 0]) Try.t31 := ⟨Try.underlying31, Try.zeroValue31, rfl⟩
instance ty32 : Ty Try.prog 32 (Go.TypeDesc.struct #[{ name := "Params", type := 30, offset := 0, embedded := false, tag := "", pkgPath := "", byteOffset := 0 }, { name := "Locals", type := 3, offset := 1, embedded := false, tag := "", pkgPath := "", byteOffset := 24 }, { name := "Stack", type := 3, offset := 2, embedded := false, tag := "", pkgPath := "", byteOffset := 32 }, { name := "Code", type := 26, offset := 3, embedded := false, tag := "", pkgPath := "", byteOffset := 40 }]) (Go.Value.agg #[Go.Value.slice none 0 0, Go.Value.int Go.IntKind.i64 0, Go.Value.int Go.IntKind.i64 0, Go.Value.slice none 0 0]) Try.t32 := ⟨Try.underlying32, Try.zeroValue32, rfl⟩
instance ty33 : Ty Try.prog 33 (Go.TypeDesc.func #[] #[32] false) Go.Value.nilFunc Try.t33 := ⟨Try.underlying33, Try.zeroValue33, rfl⟩
instance ty34 : Ty Try.prog 34 (Go.TypeDesc.array 3 32) (Go.Value.agg #[Go.Value.slice none 0 0, Go.Value.int Go.IntKind.i64 0, Go.Value.int Go.IntKind.i64 0, Go.Value.slice none 0 0, Go.Value.slice none 0 0, Go.Value.int Go.IntKind.i64 0, Go.Value.int Go.IntKind.i64 0, Go.Value.slice none 0 0, Go.Value.slice none 0 0, Go.Value.int Go.IntKind.i64 0, Go.Value.int Go.IntKind.i64 0, Go.Value.slice none 0 0]) Try.t34 := ⟨Try.underlying34, Try.zeroValue34, rfl⟩
instance ty35 : Ty Try.prog 35 (Go.TypeDesc.slice 47) (Go.Value.slice none 0 0) Try.t35 := ⟨Try.underlying35, Try.zeroValue35, rfl⟩
instance ty36 : Ty Try.prog 36 (Go.TypeDesc.slice 4) (Go.Value.slice none 0 0) Try.t36 := ⟨Try.underlying36, Try.zeroValue36, rfl⟩
instance ty37 : Ty Try.prog 37 (Go.TypeDesc.struct #[{ name := "Stacks", type := 35, offset := 0, embedded := false, tag := "", pkgPath := "", byteOffset := 0 }, { name := "Come", type := 36, offset := 1, embedded := false, tag := "", pkgPath := "", byteOffset := 24 }, { name := "Wrong", type := 3, offset := 2, embedded := false, tag := "", pkgPath := "", byteOffset := 48 }]) (Go.Value.agg #[Go.Value.slice none 0 0, Go.Value.slice none 0 0, Go.Value.int Go.IntKind.i64 0]) Try.t37 := ⟨Try.underlying37, Try.zeroValue37, rfl⟩
instance ty38 : Ty Try.prog 38 (Go.TypeDesc.struct #[{ name := "Stacks", type := 35, offset := 0, embedded := false, tag := "", pkgPath := "", byteOffset := 0 }, { name := "Come", type := 36, offset := 1, embedded := false, tag := "", pkgPath := "", byteOffset := 24 }, { name := "Wrong", type := 3, offset := 2, embedded := false, tag := "", pkgPath := "", byteOffset := 48 }]) (Go.Value.agg #[Go.Value.slice none 0 0, Go.Value.slice none 0 0, Go.Value.int Go.IntKind.i64 0]) Try.t38 := ⟨Try.underlying38, Try.zeroValue38, rfl⟩
instance ty39 : Ty Try.prog 39 (Go.TypeDesc.func #[32] #[38] false) Go.Value.nilFunc Try.t39 := ⟨Try.underlying39, Try.zeroValue39, rfl⟩
instance ty40 : Ty Try.prog 40 (Go.TypeDesc.int Go.IntKind.i64) (Go.Value.int Go.IntKind.i64 0) Try.t40 := ⟨Try.underlying40, Try.zeroValue40, rfl⟩
instance ty41 : Ty Try.prog 41 (Go.TypeDesc.tuple #[3, 40]) (Go.Value.tuple #[Go.Value.int Go.IntKind.i64 0, Go.Value.int Go.IntKind.i64 0]) Try.t41 := ⟨Try.underlying41, Try.zeroValue41, rfl⟩
instance ty42 : Ty Try.prog 42 (Go.TypeDesc.func #[32] #[3, 40] false) Go.Value.nilFunc Try.t42 := ⟨Try.underlying42, Try.zeroValue42, rfl⟩
instance ty43 : Ty Try.prog 43 (Go.TypeDesc.tuple #[3, 4]) (Go.Value.tuple #[Go.Value.int Go.IntKind.i64 0, Go.Value.bool false]) Try.t43 := ⟨Try.underlying43, Try.zeroValue43, rfl⟩
instance ty44 : Ty Try.prog 44 (Go.TypeDesc.func #[32, 3] #[3, 4] false) Go.Value.nilFunc Try.t44 := ⟨Try.underlying44, Try.zeroValue44, rfl⟩
instance ty45 : Ty Try.prog 45 (Go.TypeDesc.func #[32] #[35] false) Go.Value.nilFunc Try.t45 := ⟨Try.underlying45, Try.zeroValue45, rfl⟩
instance ty46 : Ty Try.prog 46 (Go.TypeDesc.func #[47, 47] #[4] false) Go.Value.nilFunc Try.t46 := ⟨Try.underlying46, Try.zeroValue46, rfl⟩
instance ty47 : Ty Try.prog 47 (Go.TypeDesc.slice 3) (Go.Value.slice none 0 0) Try.t47 := ⟨Try.underlying47, Try.zeroValue47, rfl⟩
instance ty48 : Ty Try.prog 48 (Go.TypeDesc.func #[] #[4] false) Go.Value.nilFunc Try.t48 := ⟨Try.underlying48, Try.zeroValue48, rfl⟩
instance ty49 : Ty Try.prog 49 (Go.TypeDesc.func #[25, 26] #[4] false) Go.Value.nilFunc Try.t49 := ⟨Try.underlying49, Try.zeroValue49, rfl⟩
instance ty50 : Ty Try.prog 50 (Go.TypeDesc.slice 52) (Go.Value.slice none 0 0) Try.t50 := ⟨Try.underlying50, Try.zeroValue50, rfl⟩
instance ty51 : Ty Try.prog 51 (Go.TypeDesc.struct #[{ name := "local", type := 3, offset := 0, embedded := false, tag := "", pkgPath := "doorkeeper/doorkeeperlaw29", byteOffset := 0 }, { name := "value", type := 3, offset := 1, embedded := false, tag := "", pkgPath := "doorkeeper/doorkeeperlaw29", byteOffset := 8 }]) (Go.Value.agg #[Go.Value.int Go.IntKind.i64 0, Go.Value.int Go.IntKind.i64 0]) Try.t51 := ⟨Try.underlying51, Try.zeroValue51, rfl⟩
instance ty52 : Ty Try.prog 52 (Go.TypeDesc.struct #[{ name := "local", type := 3, offset := 0, embedded := false, tag := "", pkgPath := "doorkeeper/doorkeeperlaw29", byteOffset := 0 }, { name := "value", type := 3, offset := 1, embedded := false, tag := "", pkgPath := "doorkeeper/doorkeeperlaw29", byteOffset := 8 }]) (Go.Value.agg #[Go.Value.int Go.IntKind.i64 0, Go.Value.int Go.IntKind.i64 0]) Try.t52 := ⟨Try.underlying52, Try.zeroValue52, rfl⟩
instance ty53 : Ty Try.prog 53 (Go.TypeDesc.func #[32, 3] #[47] false) Go.Value.nilFunc Try.t53 := ⟨Try.underlying53, Try.zeroValue53, rfl⟩
instance ty54 : Ty Try.prog 54 (Go.TypeDesc.func #[25, 22] #[4] false) Go.Value.nilFunc Try.t54 := ⟨Try.underlying54, Try.zeroValue54, rfl⟩
instance ty55 : Ty Try.prog 55 (Go.TypeDesc.func #[25] #[4] false) Go.Value.nilFunc Try.t55 := ⟨Try.underlying55, Try.zeroValue55, rfl⟩
instance ty56 : Ty Try.prog 56 (Go.TypeDesc.slice 57) (Go.Value.slice none 0 0) Try.t56 := ⟨Try.underlying56, Try.zeroValue56, rfl⟩
instance ty57 : Ty Try.prog 57 (Go.TypeDesc.array 2 3) (Go.Value.agg #[Go.Value.int Go.IntKind.i64 0, Go.Value.int Go.IntKind.i64 0]) Try.t57 := ⟨Try.underlying57, Try.zeroValue57, rfl⟩
instance ty58 : Ty Try.prog 58 (Go.TypeDesc.func #[3] #[57] false) Go.Value.nilFunc Try.t58 := ⟨Try.underlying58, Try.zeroValue58, rfl⟩
instance ty59 : Ty Try.prog 59 (Go.TypeDesc.func #[56] #[32] true) Go.Value.nilFunc Try.t59 := ⟨Try.underlying59, Try.zeroValue59, rfl⟩
instance ty60 : Ty Try.prog 60 (Go.TypeDesc.func #[32, 3] #[4] false) Go.Value.nilFunc Try.t60 := ⟨Try.underlying60, Try.zeroValue60, rfl⟩
instance ty61 : Ty Try.prog 61 (Go.TypeDesc.pointer 25) (Go.Value.pointer none) Try.t61 := ⟨Try.underlying61, Try.zeroValue61, rfl⟩
instance ty62 : Ty Try.prog 62 (Go.TypeDesc.func #[78] #[26] true) Go.Value.nilFunc Try.t62 := ⟨Try.underlying62, Try.zeroValue62, rfl⟩
instance ty63 : Ty Try.prog 63 (Go.TypeDesc.func #[3, 3] #[26] false) Go.Value.nilFunc Try.t63 := ⟨Try.underlying63, Try.zeroValue63, rfl⟩
instance ty64 : Ty Try.prog 64 (Go.TypeDesc.func #[] #[3] false) Go.Value.nilFunc Try.t64 := ⟨Try.underlying64, Try.zeroValue64, rfl⟩
instance ty65 : Ty Try.prog 65 (Go.TypeDesc.tuple #[47, 4]) (Go.Value.tuple #[Go.Value.slice none 0 0, Go.Value.bool false]) Try.t65 := ⟨Try.underlying65, Try.zeroValue65, rfl⟩
instance ty66 : Ty Try.prog 66 (Go.TypeDesc.func #[32, 3, 47] #[47, 4] false) Go.Value.nilFunc Try.t66 := ⟨Try.underlying66, Try.zeroValue66, rfl⟩
instance ty67 : Ty Try.prog 67 (Go.TypeDesc.pointer 71) (Go.Value.pointer none) Try.t67 := ⟨Try.underlying67, Try.zeroValue67, rfl⟩
instance ty68 : Ty Try.prog 68 (Go.TypeDesc.func #[32] #[67] false) Go.Value.nilFunc Try.t68 := ⟨Try.underlying68, Try.zeroValue68, rfl⟩
instance ty69 : Ty Try.prog 69 (Go.TypeDesc.map 3 47) (Go.Value.map none) Try.t69 := ⟨Try.underlying69, Try.zeroValue69, rfl⟩
instance ty70 : Ty Try.prog 70 (Go.TypeDesc.struct #[{ name := "Method", type := 32, offset := 0, embedded := true, tag := "", pkgPath := "", byteOffset := 0 }, { name := "stacks", type := 69, offset := 4, embedded := false, tag := "", pkgPath := "doorkeeper/nest", byteOffset := 64 }, { name := "order", type := 47, offset := 5, embedded := false, tag := "", pkgPath := "doorkeeper/nest", byteOffset := 72 }, { name := "wrong", type := 3, offset := 6, embedded := false, tag := "", pkgPath := "doorkeeper/nest", byteOffset := 96 }]) (Go.Value.agg #[Go.Value.slice none 0 0, Go.Value.int Go.IntKind.i64 0, Go.Value.int Go.IntKind.i64 0, Go.Value.slice none 0 0, Go.Value.map none, Go.Value.slice none 0 0, Go.Value.int Go.IntKind.i64 0]) Try.t70 := ⟨Try.underlying70, Try.zeroValue70, rfl⟩
instance ty71 : Ty Try.prog 71 (Go.TypeDesc.struct #[{ name := "Method", type := 32, offset := 0, embedded := true, tag := "", pkgPath := "", byteOffset := 0 }, { name := "stacks", type := 69, offset := 4, embedded := false, tag := "", pkgPath := "doorkeeper/nest", byteOffset := 64 }, { name := "order", type := 47, offset := 5, embedded := false, tag := "", pkgPath := "doorkeeper/nest", byteOffset := 72 }, { name := "wrong", type := 3, offset := 6, embedded := false, tag := "", pkgPath := "doorkeeper/nest", byteOffset := 96 }]) (Go.Value.agg #[Go.Value.slice none 0 0, Go.Value.int Go.IntKind.i64 0, Go.Value.int Go.IntKind.i64 0, Go.Value.slice none 0 0, Go.Value.map none, Go.Value.slice none 0 0, Go.Value.int Go.IntKind.i64 0]) Try.t71 := ⟨Try.underlying71, Try.zeroValue71, rfl⟩
instance ty72 : Ty Try.prog 72 (Go.TypeDesc.func #[3] #[4] false) Go.Value.nilFunc Try.t72 := ⟨Try.underlying72, Try.zeroValue72, rfl⟩
instance ty73 : Ty Try.prog 73 (Go.TypeDesc.func #[47, 3] #[3, 4] false) Go.Value.nilFunc Try.t73 := ⟨Try.underlying73, Try.zeroValue73, rfl⟩
instance ty74 : Ty Try.prog 74 (Go.TypeDesc.func #[32] #[47] false) Go.Value.nilFunc Try.t74 := ⟨Try.underlying74, Try.zeroValue74, rfl⟩
instance ty75 : Ty Try.prog 75 (Go.TypeDesc.func #[47] #[47] false) Go.Value.nilFunc Try.t75 := ⟨Try.underlying75, Try.zeroValue75, rfl⟩
instance ty76 : Ty Try.prog 76 (Go.TypeDesc.func #[29] #[4] false) Go.Value.nilFunc Try.t76 := ⟨Try.underlying76, Try.zeroValue76, rfl⟩
instance ty77 : Ty Try.prog 77 (Go.TypeDesc.func #[47] #[47] true) Go.Value.nilFunc Try.t77 := ⟨Try.underlying77, Try.zeroValue77, rfl⟩
instance ty78 : Ty Try.prog 78 (Go.TypeDesc.slice 26) (Go.Value.slice none 0 0) Try.t78 := ⟨Try.underlying78, Try.zeroValue78, rfl⟩
instance ty79 : Ty Try.prog 79 (Go.TypeDesc.func #[47, 3] #[4] false) Go.Value.nilFunc Try.t79 := ⟨Try.underlying79, Try.zeroValue79, rfl⟩
instance ty80 : Ty Try.prog 80 (Go.TypeDesc.func #[32, 3, 3] #[4] false) Go.Value.nilFunc Try.t80 := ⟨Try.underlying80, Try.zeroValue80, rfl⟩
instance ty81 : Ty Try.prog 81 (Go.TypeDesc.func #[3, 47] #[4] false) Go.Value.nilFunc Try.t81 := ⟨Try.underlying81, Try.zeroValue81, rfl⟩
instance ty82 : Ty Try.prog 82 (Go.TypeDesc.func #[72] #[] false) Go.Value.nilFunc Try.t82 := ⟨Try.underlying82, Try.zeroValue82, rfl⟩
instance ty83 : Ty Try.prog 83 (Go.TypeDesc.func #[72] #[] false) Go.Value.nilFunc Try.t83 := ⟨Try.underlying83, Try.zeroValue83, rfl⟩
instance ty84 : Ty Try.prog 84 (Go.TypeDesc.func #[] #[83] false) Go.Value.nilFunc Try.t84 := ⟨Try.underlying84, Try.zeroValue84, rfl⟩
instance ty85 : Ty Try.prog 85 (Go.TypeDesc.func #[3] #[47, 4] false) Go.Value.nilFunc Try.t85 := ⟨Try.underlying85, Try.zeroValue85, rfl⟩
instance ty86 : Ty Try.prog 86 (Go.TypeDesc.func #[3, 3] #[4] false) Go.Value.nilFunc Try.t86 := ⟨Try.underlying86, Try.zeroValue86, rfl⟩
instance ty87 : Ty Try.prog 87 (Go.TypeDesc.func #[47, 72] #[47] false) Go.Value.nilFunc Try.t87 := ⟨Try.underlying87, Try.zeroValue87, rfl⟩
instance ty88 : Ty Try.prog 88 (Go.TypeDesc.func #[47] #[] false) Go.Value.nilFunc Try.t88 := ⟨Try.underlying88, Try.zeroValue88, rfl⟩
instance ty89 : Ty Try.prog 89 (Go.TypeDesc.func #[47, 3] #[47, 4] false) Go.Value.nilFunc Try.t89 := ⟨Try.underlying89, Try.zeroValue89, rfl⟩
instance ty90 : Ty Try.prog 90 (Go.TypeDesc.tuple #[89, 4]) (Go.Value.tuple #[Go.Value.nilFunc, Go.Value.bool false]) Try.t90 := ⟨Try.underlying90, Try.zeroValue90, rfl⟩
instance ty91 : Ty Try.prog 91 (Go.TypeDesc.map 3 89) (Go.Value.map none) Try.t91 := ⟨Try.underlying91, Try.zeroValue91, rfl⟩
instance ty92 : Ty Try.prog 92 (Go.TypeDesc.func #[] #[91] false) Go.Value.nilFunc Try.t92 := ⟨Try.underlying92, Try.zeroValue92, rfl⟩
instance ty93 : Ty Try.prog 93 (Go.TypeDesc.func #[47, 3] #[3] false) Go.Value.nilFunc Try.t93 := ⟨Try.underlying93, Try.zeroValue93, rfl⟩
instance ty94 : Ty Try.prog 94 (Go.TypeDesc.func #[47, 72] #[3] false) Go.Value.nilFunc Try.t94 := ⟨Try.underlying94, Try.zeroValue94, rfl⟩
instance ty95 : Ty Try.prog 95 (Go.TypeDesc.func #[47, 3, 3, 3] #[] false) Go.Value.nilFunc Try.t95 := ⟨Try.underlying95, Try.zeroValue95, rfl⟩
instance ty96 : Ty Try.prog 96 (Go.TypeDesc.func #[27] #[3] false) Go.Value.nilFunc Try.t96 := ⟨Try.underlying96, Try.zeroValue96, rfl⟩
instance ty97 : Ty Try.prog 97 (Go.TypeDesc.func #[47, 3] #[47] false) Go.Value.nilFunc Try.t97 := ⟨Try.underlying97, Try.zeroValue97, rfl⟩
instance ty98 : Ty Try.prog 98 (Go.TypeDesc.func #[47, 3, 3] #[] false) Go.Value.nilFunc Try.t98 := ⟨Try.underlying98, Try.zeroValue98, rfl⟩
instance ty99 : Ty Try.prog 99 (Go.TypeDesc.int Go.IntKind.i64) (Go.Value.int Go.IntKind.i64 0) Try.t99 := ⟨Try.underlying99, Try.zeroValue99, rfl⟩
instance ty100 : Ty Try.prog 100 (Go.TypeDesc.tuple #[3, 99]) (Go.Value.tuple #[Go.Value.int Go.IntKind.i64 0, Go.Value.int Go.IntKind.i64 0]) Try.t100 := ⟨Try.underlying100, Try.zeroValue100, rfl⟩
instance ty101 : Ty Try.prog 101 (Go.TypeDesc.func #[47, 3, 3] #[3, 99] false) Go.Value.nilFunc Try.t101 := ⟨Try.underlying101, Try.zeroValue101, rfl⟩
instance ty102 : Ty Try.prog 102 (Go.TypeDesc.func #[47, 3, 3] #[4] false) Go.Value.nilFunc Try.t102 := ⟨Try.underlying102, Try.zeroValue102, rfl⟩
instance ty103 : Ty Try.prog 103 (Go.TypeDesc.func #[47, 3, 3, 3] #[3] false) Go.Value.nilFunc Try.t103 := ⟨Try.underlying103, Try.zeroValue103, rfl⟩
instance ty104 : Ty Try.prog 104 (Go.TypeDesc.func #[47, 3, 3, 3] #[3, 4] false) Go.Value.nilFunc Try.t104 := ⟨Try.underlying104, Try.zeroValue104, rfl⟩
instance ty105 : Ty Try.prog 105 (Go.TypeDesc.func #[106] #[3] false) Go.Value.nilFunc Try.t105 := ⟨Try.underlying105, Try.zeroValue105, rfl⟩
instance ty106 : Ty Try.prog 106 (Go.TypeDesc.int Go.IntKind.u32) (Go.Value.int Go.IntKind.u32 0) Try.t106 := ⟨Try.underlying106, Try.zeroValue106, rfl⟩
instance ty107 : Ty Try.prog 107 (Go.TypeDesc.func #[108] #[3] false) Go.Value.nilFunc Try.t107 := ⟨Try.underlying107, Try.zeroValue107, rfl⟩
instance ty108 : Ty Try.prog 108 (Go.TypeDesc.int Go.IntKind.u64) (Go.Value.int Go.IntKind.u64 0) Try.t108 := ⟨Try.underlying108, Try.zeroValue108, rfl⟩
instance ty109 : Ty Try.prog 109 (Go.TypeDesc.int Go.IntKind.u64) (Go.Value.int Go.IntKind.u64 0) Try.t109 := ⟨Try.underlying109, Try.zeroValue109, rfl⟩
instance ty110 : Ty Try.prog 110 (Go.TypeDesc.func #[3] #[27] false) Go.Value.nilFunc Try.t110 := ⟨Try.underlying110, Try.zeroValue110, rfl⟩
instance ty111 : Ty Try.prog 111 (Go.TypeDesc.func #[] #[108] false) Go.Value.nilFunc Try.t111 := ⟨Try.underlying111, Try.zeroValue111, rfl⟩
instance ty112 : Ty Try.prog 112 (Go.TypeDesc.func #[47, 3, 113] #[3] false) Go.Value.nilFunc Try.t112 := ⟨Try.underlying112, Try.zeroValue112, rfl⟩
instance ty113 : Ty Try.prog 113 (Go.TypeDesc.pointer 3) (Go.Value.pointer none) Try.t113 := ⟨Try.underlying113, Try.zeroValue113, rfl⟩
instance ty114 : Ty Try.prog 114 (Go.TypeDesc.func #[47, 3, 3, 3, 113] #[3] false) Go.Value.nilFunc Try.t114 := ⟨Try.underlying114, Try.zeroValue114, rfl⟩
instance ty115 : Ty Try.prog 115 (Go.TypeDesc.pointer 109) (Go.Value.pointer none) Try.t115 := ⟨Try.underlying115, Try.zeroValue115, rfl⟩
instance ty116 : Ty Try.prog 116 (Go.TypeDesc.tuple #[3, 3]) (Go.Value.tuple #[Go.Value.int Go.IntKind.i64 0, Go.Value.int Go.IntKind.i64 0]) Try.t116 := ⟨Try.underlying116, Try.zeroValue116, rfl⟩
instance ty117 : Ty Try.prog 117 (Go.TypeDesc.func #[47, 3, 3, 113] #[3, 3] false) Go.Value.nilFunc Try.t117 := ⟨Try.underlying117, Try.zeroValue117, rfl⟩
instance ty118 : Ty Try.prog 118 (Go.TypeDesc.func #[] #[9] false) Go.Value.nilFunc Try.t118 := ⟨Try.underlying118, Try.zeroValue118, rfl⟩
instance ty119 : Ty Try.prog 119 (Go.TypeDesc.struct #[{ name := "_interface", type := 17, offset := 0, embedded := false, tag := "", pkgPath := "runtime", byteOffset := 0 }, { name := "concrete", type := 17, offset := 1, embedded := false, tag := "", pkgPath := "runtime", byteOffset := 8 }, { name := "asserted", type := 17, offset := 2, embedded := false, tag := "", pkgPath := "runtime", byteOffset := 16 }, { name := "missingMethod", type := 9, offset := 3, embedded := false, tag := "", pkgPath := "runtime", byteOffset := 24 }]) (Go.Value.agg #[Go.Value.pointer none, Go.Value.pointer none, Go.Value.pointer none, Go.Value.string { data := #[] }]) Try.t119 := ⟨Try.underlying119, Try.zeroValue119, rfl⟩
instance ty120 : Ty Try.prog 120 (Go.TypeDesc.struct #[{ name := "_interface", type := 17, offset := 0, embedded := false, tag := "", pkgPath := "runtime", byteOffset := 0 }, { name := "concrete", type := 17, offset := 1, embedded := false, tag := "", pkgPath := "runtime", byteOffset := 8 }, { name := "asserted", type := 17, offset := 2, embedded := false, tag := "", pkgPath := "runtime", byteOffset := 16 }, { name := "missingMethod", type := 9, offset := 3, embedded := false, tag := "", pkgPath := "runtime", byteOffset := 24 }]) (Go.Value.agg #[Go.Value.pointer none, Go.Value.pointer none, Go.Value.pointer none, Go.Value.string { data := #[] }]) Try.t120 := ⟨Try.underlying120, Try.zeroValue120, rfl⟩
instance ty121 : Ty Try.prog 121 (Go.TypeDesc.array 0 16) (Go.Value.agg #[]) Try.t121 := ⟨Try.underlying121, Try.zeroValue121, rfl⟩
instance ty122 : Ty Try.prog 122 (Go.TypeDesc.struct #[{ name := "_", type := 121, offset := 0, embedded := false, tag := "", pkgPath := "runtime", byteOffset := 0 }]) (Go.Value.agg #[]) Try.t122 := ⟨Try.underlying122, Try.zeroValue122, rfl⟩
instance ty123 : Ty Try.prog 123 (Go.TypeDesc.struct #[{ name := "_", type := 121, offset := 0, embedded := false, tag := "", pkgPath := "runtime", byteOffset := 0 }]) (Go.Value.agg #[]) Try.t123 := ⟨Try.underlying123, Try.zeroValue123, rfl⟩
instance ty124 : Ty Try.prog 124 (Go.TypeDesc.int Go.IntKind.u8) (Go.Value.int Go.IntKind.u8 0) Try.t124 := ⟨Try.underlying124, Try.zeroValue124, rfl⟩
instance ty125 : Ty Try.prog 125 (Go.TypeDesc.int Go.IntKind.u8) (Go.Value.int Go.IntKind.u8 0) Try.t125 := ⟨Try.underlying125, Try.zeroValue125, rfl⟩
instance ty126 : Ty Try.prog 126 (Go.TypeDesc.func #[133, 133] #[4] false) Go.Value.nilFunc Try.t126 := ⟨Try.underlying126, Try.zeroValue126, rfl⟩
instance ty127 : Ty Try.prog 127 (Go.TypeDesc.pointer 5) (Go.Value.pointer none) Try.t127 := ⟨Try.underlying127, Try.zeroValue127, rfl⟩
instance ty128 : Ty Try.prog 128 (Go.TypeDesc.int Go.IntKind.i32) (Go.Value.int Go.IntKind.i32 0) Try.t128 := ⟨Try.underlying128, Try.zeroValue128, rfl⟩
instance ty129 : Ty Try.prog 129 (Go.TypeDesc.int Go.IntKind.i32) (Go.Value.int Go.IntKind.i32 0) Try.t129 := ⟨Try.underlying129, Try.zeroValue129, rfl⟩
instance ty130 : Ty Try.prog 130 (Go.TypeDesc.struct #[{ name := "Size_", type := 12, offset := 0, embedded := false, tag := "", pkgPath := "", byteOffset := 0 }, { name := "PtrBytes", type := 12, offset := 1, embedded := false, tag := "", pkgPath := "", byteOffset := 8 }, { name := "Hash", type := 106, offset := 2, embedded := false, tag := "", pkgPath := "", byteOffset := 16 }, { name := "TFlag", type := 124, offset := 3, embedded := false, tag := "", pkgPath := "", byteOffset := 20 }, { name := "Align_", type := 5, offset := 4, embedded := false, tag := "", pkgPath := "", byteOffset := 21 }, { name := "FieldAlign_", type := 5, offset := 5, embedded := false, tag := "", pkgPath := "", byteOffset := 22 }, { name := "Kind_", type := 125, offset := 6, embedded := false, tag := "", pkgPath := "", byteOffset := 23 }, { name := "Equal", type := 126, offset := 7, embedded := false, tag := "", pkgPath := "", byteOffset := 24 }, { name := "GCData", type := 127, offset := 8, embedded := false, tag := "", pkgPath := "", byteOffset := 32 }, { name := "Str", type := 128, offset := 9, embedded := false, tag := "", pkgPath := "", byteOffset := 40 }, { name := "PtrToThis", type := 129, offset := 10, embedded := false, tag := "", pkgPath := "", byteOffset := 44 }]) (Go.Value.agg #[Go.Value.int Go.IntKind.u64 0, Go.Value.int Go.IntKind.u64 0, Go.Value.int Go.IntKind.u32 0, Go.Value.int Go.IntKind.u8 0, Go.Value.int Go.IntKind.u8 0, Go.Value.int Go.IntKind.u8 0, Go.Value.int Go.IntKind.u8 0, Go.Value.nilFunc, Go.Value.pointer none, Go.Value.int Go.IntKind.i32 0, Go.Value.int Go.IntKind.i32 0]) Try.t130 := ⟨Try.underlying130, Try.zeroValue130, rfl⟩
instance ty131 : Ty Try.prog 131 (Go.TypeDesc.struct #[{ name := "Size_", type := 12, offset := 0, embedded := false, tag := "", pkgPath := "", byteOffset := 0 }, { name := "PtrBytes", type := 12, offset := 1, embedded := false, tag := "", pkgPath := "", byteOffset := 8 }, { name := "Hash", type := 106, offset := 2, embedded := false, tag := "", pkgPath := "", byteOffset := 16 }, { name := "TFlag", type := 124, offset := 3, embedded := false, tag := "", pkgPath := "", byteOffset := 20 }, { name := "Align_", type := 5, offset := 4, embedded := false, tag := "", pkgPath := "", byteOffset := 21 }, { name := "FieldAlign_", type := 5, offset := 5, embedded := false, tag := "", pkgPath := "", byteOffset := 22 }, { name := "Kind_", type := 125, offset := 6, embedded := false, tag := "", pkgPath := "", byteOffset := 23 }, { name := "Equal", type := 126, offset := 7, embedded := false, tag := "", pkgPath := "", byteOffset := 24 }, { name := "GCData", type := 127, offset := 8, embedded := false, tag := "", pkgPath := "", byteOffset := 32 }, { name := "Str", type := 128, offset := 9, embedded := false, tag := "", pkgPath := "", byteOffset := 40 }, { name := "PtrToThis", type := 129, offset := 10, embedded := false, tag := "", pkgPath := "", byteOffset := 44 }]) (Go.Value.agg #[Go.Value.int Go.IntKind.u64 0, Go.Value.int Go.IntKind.u64 0, Go.Value.int Go.IntKind.u32 0, Go.Value.int Go.IntKind.u8 0, Go.Value.int Go.IntKind.u8 0, Go.Value.int Go.IntKind.u8 0, Go.Value.int Go.IntKind.u8 0, Go.Value.nilFunc, Go.Value.pointer none, Go.Value.int Go.IntKind.i32 0, Go.Value.int Go.IntKind.i32 0]) Try.t131 := ⟨Try.underlying131, Try.zeroValue131, rfl⟩
instance ty132 : Ty Try.prog 132 (Go.TypeDesc.int Go.IntKind.i64) (Go.Value.int Go.IntKind.i64 0) Try.t132 := ⟨Try.underlying132, Try.zeroValue132, rfl⟩
instance ty133 : Ty Try.prog 133 Go.TypeDesc.unsafePointer (Go.Value.pointer none) Try.t133 := ⟨Try.underlying133, Try.zeroValue133, rfl⟩
instance tyB7 : TyB Try.prog 7 (fun i => nth [(0, 1), (1, 1), (2, 1), (3, 1)] i) [Go.Value.int Go.IntKind.i64 0, Go.Value.int Go.IntKind.i64 0, Go.Value.bool false, Go.Value.int Go.IntKind.u8 0] := tyB_struct' Try.underlying7 Try.zeroValue7 rfl
instance tyB8 : TyB Try.prog 8 (fun i => nth [(0, 1), (1, 1), (2, 1), (3, 1)] i) [Go.Value.int Go.IntKind.i64 0, Go.Value.int Go.IntKind.i64 0, Go.Value.bool false, Go.Value.int Go.IntKind.u8 0] := tyB_struct' Try.underlying8 Try.zeroValue8 rfl
instance tyB13 : TyB Try.prog 13 (fun i => nth [(0, 1), (1, 1)] i) [Go.Value.string { data := #[] }, Go.Value.int Go.IntKind.u64 0] := tyB_struct' Try.underlying13 Try.zeroValue13 rfl
instance tyB14 : TyB Try.prog 14 (fun i => nth [(0, 1), (1, 1)] i) [Go.Value.string { data := #[] }, Go.Value.int Go.IntKind.u64 0] := tyB_struct' Try.underlying14 Try.zeroValue14 rfl
instance tyB18 : TyB Try.prog 18 (fun i => nth [(0, 1)] i) [Go.Value.pointer none] := tyB_struct' Try.underlying18 Try.zeroValue18 rfl
instance tyB19 : TyB Try.prog 19 (fun i => nth [(0, 1)] i) [Go.Value.pointer none] := tyB_struct' Try.underlying19 Try.zeroValue19 rfl
instance tyB24 : TyB Try.prog 24 (fun i => nth [(0, 1), (1, 1), (2, 1), (3, 2), (5, 1)] i) [Go.Value.slice none 0 0, Go.Value.bool false, Go.Value.int Go.IntKind.u8 0, Go.Value.int Go.IntKind.u8 0, Go.Value.int Go.IntKind.u8 0, Go.Value.int Go.IntKind.i64 0] := tyB_struct' Try.underlying24 Try.zeroValue24 rfl
instance tyB25 : TyB Try.prog 25 (fun i => nth [(0, 1), (1, 1), (2, 1), (3, 2), (5, 1)] i) [Go.Value.slice none 0 0, Go.Value.bool false, Go.Value.int Go.IntKind.u8 0, Go.Value.int Go.IntKind.u8 0, Go.Value.int Go.IntKind.u8 0, Go.Value.int Go.IntKind.i64 0] := tyB_struct' Try.underlying25 Try.zeroValue25 rfl
instance tyB28 : TyB Try.prog 28 (fun i => nth [(0, 1), (1, 1), (2, 1)] i) [Go.Value.int Go.IntKind.i64 0, Go.Value.int Go.IntKind.i64 0, Go.Value.int Go.IntKind.i64 0] := tyB_struct' Try.underlying28 Try.zeroValue28 rfl
instance tyB29 : TyB Try.prog 29 (fun i => nth [(0, 1), (1, 1), (2, 1)] i) [Go.Value.int Go.IntKind.i64 0, Go.Value.int Go.IntKind.i64 0, Go.Value.int Go.IntKind.i64 0] := tyB_struct' Try.underlying29 Try.zeroValue29 rfl
instance tyB31 : TyB Try.prog 31 (fun i => nth [(0, 1), (1, 1), (2, 1), (3, 1)] i) [Go.Value.slice none 0 0, Go.Value.int Go.IntKind.i64 0, Go.Value.int Go.IntKind.i64 0, Go.Value.slice none 0 0] := tyB_struct' Try.underlying31 Try.zeroValue31 rfl
instance tyB32 : TyB Try.prog 32 (fun i => nth [(0, 1), (1, 1), (2, 1), (3, 1)] i) [Go.Value.slice none 0 0, Go.Value.int Go.IntKind.i64 0, Go.Value.int Go.IntKind.i64 0, Go.Value.slice none 0 0] := tyB_struct' Try.underlying32 Try.zeroValue32 rfl
instance tyB37 : TyB Try.prog 37 (fun i => nth [(0, 1), (1, 1), (2, 1)] i) [Go.Value.slice none 0 0, Go.Value.slice none 0 0, Go.Value.int Go.IntKind.i64 0] := tyB_struct' Try.underlying37 Try.zeroValue37 rfl
instance tyB38 : TyB Try.prog 38 (fun i => nth [(0, 1), (1, 1), (2, 1)] i) [Go.Value.slice none 0 0, Go.Value.slice none 0 0, Go.Value.int Go.IntKind.i64 0] := tyB_struct' Try.underlying38 Try.zeroValue38 rfl
instance tyB51 : TyB Try.prog 51 (fun i => nth [(0, 1), (1, 1)] i) [Go.Value.int Go.IntKind.i64 0, Go.Value.int Go.IntKind.i64 0] := tyB_struct' Try.underlying51 Try.zeroValue51 rfl
instance tyB52 : TyB Try.prog 52 (fun i => nth [(0, 1), (1, 1)] i) [Go.Value.int Go.IntKind.i64 0, Go.Value.int Go.IntKind.i64 0] := tyB_struct' Try.underlying52 Try.zeroValue52 rfl
instance tyB70 : TyB Try.prog 70 (fun i => nth [(0, 4), (4, 1), (5, 1), (6, 1)] i) [Go.Value.slice none 0 0, Go.Value.int Go.IntKind.i64 0, Go.Value.int Go.IntKind.i64 0, Go.Value.slice none 0 0, Go.Value.map none, Go.Value.slice none 0 0, Go.Value.int Go.IntKind.i64 0] := tyB_struct' Try.underlying70 Try.zeroValue70 rfl
instance tyB71 : TyB Try.prog 71 (fun i => nth [(0, 4), (4, 1), (5, 1), (6, 1)] i) [Go.Value.slice none 0 0, Go.Value.int Go.IntKind.i64 0, Go.Value.int Go.IntKind.i64 0, Go.Value.slice none 0 0, Go.Value.map none, Go.Value.slice none 0 0, Go.Value.int Go.IntKind.i64 0] := tyB_struct' Try.underlying71 Try.zeroValue71 rfl
instance tyB119 : TyB Try.prog 119 (fun i => nth [(0, 1), (1, 1), (2, 1), (3, 1)] i) [Go.Value.pointer none, Go.Value.pointer none, Go.Value.pointer none, Go.Value.string { data := #[] }] := tyB_struct' Try.underlying119 Try.zeroValue119 rfl
instance tyB120 : TyB Try.prog 120 (fun i => nth [(0, 1), (1, 1), (2, 1), (3, 1)] i) [Go.Value.pointer none, Go.Value.pointer none, Go.Value.pointer none, Go.Value.string { data := #[] }] := tyB_struct' Try.underlying120 Try.zeroValue120 rfl
instance tyB122 : TyB Try.prog 122 (fun i => nth [(0, 0)] i) [] := tyB_struct' Try.underlying122 Try.zeroValue122 rfl
instance tyB123 : TyB Try.prog 123 (fun i => nth [(0, 0)] i) [] := tyB_struct' Try.underlying123 Try.zeroValue123 rfl
instance tyB130 : TyB Try.prog 130 (fun i => nth [(0, 1), (1, 1), (2, 1), (3, 1), (4, 1), (5, 1), (6, 1), (7, 1), (8, 1), (9, 1), (10, 1)] i) [Go.Value.int Go.IntKind.u64 0, Go.Value.int Go.IntKind.u64 0, Go.Value.int Go.IntKind.u32 0, Go.Value.int Go.IntKind.u8 0, Go.Value.int Go.IntKind.u8 0, Go.Value.int Go.IntKind.u8 0, Go.Value.int Go.IntKind.u8 0, Go.Value.nilFunc, Go.Value.pointer none, Go.Value.int Go.IntKind.i32 0, Go.Value.int Go.IntKind.i32 0] := tyB_struct' Try.underlying130 Try.zeroValue130 rfl
instance tyB131 : TyB Try.prog 131 (fun i => nth [(0, 1), (1, 1), (2, 1), (3, 1), (4, 1), (5, 1), (6, 1), (7, 1), (8, 1), (9, 1), (10, 1)] i) [Go.Value.int Go.IntKind.u64 0, Go.Value.int Go.IntKind.u64 0, Go.Value.int Go.IntKind.u32 0, Go.Value.int Go.IntKind.u8 0, Go.Value.int Go.IntKind.u8 0, Go.Value.int Go.IntKind.u8 0, Go.Value.int Go.IntKind.u8 0, Go.Value.nilFunc, Go.Value.pointer none, Go.Value.int Go.IntKind.i32 0, Go.Value.int Go.IntKind.i32 0] := tyB_struct' Try.underlying131 Try.zeroValue131 rfl
instance : TyF Try.prog 7 0 0 := tyF_mk (i := Try.t2) Try.underlying7 rfl rfl rfl rfl
instance : TyF Try.prog 7 1 1 := tyF_mk (i := Try.t3) Try.underlying7 rfl rfl rfl rfl
instance : TyF Try.prog 7 2 2 := tyF_mk (i := Try.t4) Try.underlying7 rfl rfl rfl rfl
instance : TyF Try.prog 7 3 3 := tyF_mk (i := Try.t6) Try.underlying7 rfl rfl rfl rfl
instance : TyF Try.prog 8 0 0 := tyF_mk (i := Try.t2) Try.underlying8 rfl rfl rfl rfl
instance : TyF Try.prog 8 1 1 := tyF_mk (i := Try.t3) Try.underlying8 rfl rfl rfl rfl
instance : TyF Try.prog 8 2 2 := tyF_mk (i := Try.t4) Try.underlying8 rfl rfl rfl rfl
instance : TyF Try.prog 8 3 3 := tyF_mk (i := Try.t6) Try.underlying8 rfl rfl rfl rfl
instance : TyF Try.prog 13 0 0 := tyF_mk (i := Try.t9) Try.underlying13 rfl rfl rfl rfl
instance : TyF Try.prog 13 1 1 := tyF_mk (i := Try.t12) Try.underlying13 rfl rfl rfl rfl
instance : TyF Try.prog 14 0 0 := tyF_mk (i := Try.t9) Try.underlying14 rfl rfl rfl rfl
instance : TyF Try.prog 14 1 1 := tyF_mk (i := Try.t12) Try.underlying14 rfl rfl rfl rfl
instance : TyF Try.prog 18 0 0 := tyF_mk (i := Try.t17) Try.underlying18 rfl rfl rfl rfl
instance : TyF Try.prog 19 0 0 := tyF_mk (i := Try.t17) Try.underlying19 rfl rfl rfl rfl
instance : TyF Try.prog 24 0 0 := tyF_mk (i := Try.t22) Try.underlying24 rfl rfl rfl rfl
instance : TyF Try.prog 24 1 1 := tyF_mk (i := Try.t4) Try.underlying24 rfl rfl rfl rfl
instance : TyF Try.prog 24 2 2 := tyF_mk (i := Try.t5) Try.underlying24 rfl rfl rfl rfl
instance : TyF Try.prog 24 3 3 := tyF_mk (i := Try.t23) Try.underlying24 rfl rfl rfl rfl
instance : TyF Try.prog 24 4 5 := tyF_mk (i := Try.t3) Try.underlying24 rfl rfl rfl rfl
instance : TyF Try.prog 25 0 0 := tyF_mk (i := Try.t22) Try.underlying25 rfl rfl rfl rfl
instance : TyF Try.prog 25 1 1 := tyF_mk (i := Try.t4) Try.underlying25 rfl rfl rfl rfl
instance : TyF Try.prog 25 2 2 := tyF_mk (i := Try.t5) Try.underlying25 rfl rfl rfl rfl
instance : TyF Try.prog 25 3 3 := tyF_mk (i := Try.t23) Try.underlying25 rfl rfl rfl rfl
instance : TyF Try.prog 25 4 5 := tyF_mk (i := Try.t3) Try.underlying25 rfl rfl rfl rfl
instance : TyF Try.prog 28 0 0 := tyF_mk (i := Try.t3) Try.underlying28 rfl rfl rfl rfl
instance : TyF Try.prog 28 1 1 := tyF_mk (i := Try.t3) Try.underlying28 rfl rfl rfl rfl
instance : TyF Try.prog 28 2 2 := tyF_mk (i := Try.t3) Try.underlying28 rfl rfl rfl rfl
instance : TyF Try.prog 29 0 0 := tyF_mk (i := Try.t3) Try.underlying29 rfl rfl rfl rfl
instance : TyF Try.prog 29 1 1 := tyF_mk (i := Try.t3) Try.underlying29 rfl rfl rfl rfl
instance : TyF Try.prog 29 2 2 := tyF_mk (i := Try.t3) Try.underlying29 rfl rfl rfl rfl
instance : TyF Try.prog 31 0 0 := tyF_mk (i := Try.t30) Try.underlying31 rfl rfl rfl rfl
instance : TyF Try.prog 31 1 1 := tyF_mk (i := Try.t3) Try.underlying31 rfl rfl rfl rfl
instance : TyF Try.prog 31 2 2 := tyF_mk (i := Try.t3) Try.underlying31 rfl rfl rfl rfl
instance : TyF Try.prog 31 3 3 := tyF_mk (i := Try.t26) Try.underlying31 rfl rfl rfl rfl
instance : TyF Try.prog 32 0 0 := tyF_mk (i := Try.t30) Try.underlying32 rfl rfl rfl rfl
instance : TyF Try.prog 32 1 1 := tyF_mk (i := Try.t3) Try.underlying32 rfl rfl rfl rfl
instance : TyF Try.prog 32 2 2 := tyF_mk (i := Try.t3) Try.underlying32 rfl rfl rfl rfl
instance : TyF Try.prog 32 3 3 := tyF_mk (i := Try.t26) Try.underlying32 rfl rfl rfl rfl
instance : TyF Try.prog 37 0 0 := tyF_mk (i := Try.t35) Try.underlying37 rfl rfl rfl rfl
instance : TyF Try.prog 37 1 1 := tyF_mk (i := Try.t36) Try.underlying37 rfl rfl rfl rfl
instance : TyF Try.prog 37 2 2 := tyF_mk (i := Try.t3) Try.underlying37 rfl rfl rfl rfl
instance : TyF Try.prog 38 0 0 := tyF_mk (i := Try.t35) Try.underlying38 rfl rfl rfl rfl
instance : TyF Try.prog 38 1 1 := tyF_mk (i := Try.t36) Try.underlying38 rfl rfl rfl rfl
instance : TyF Try.prog 38 2 2 := tyF_mk (i := Try.t3) Try.underlying38 rfl rfl rfl rfl
instance : TyF Try.prog 51 0 0 := tyF_mk (i := Try.t3) Try.underlying51 rfl rfl rfl rfl
instance : TyF Try.prog 51 1 1 := tyF_mk (i := Try.t3) Try.underlying51 rfl rfl rfl rfl
instance : TyF Try.prog 52 0 0 := tyF_mk (i := Try.t3) Try.underlying52 rfl rfl rfl rfl
instance : TyF Try.prog 52 1 1 := tyF_mk (i := Try.t3) Try.underlying52 rfl rfl rfl rfl
instance : TyF Try.prog 70 0 0 := tyF_mk (i := Try.t32) Try.underlying70 rfl rfl rfl rfl
instance : TyF Try.prog 70 1 4 := tyF_mk (i := Try.t69) Try.underlying70 rfl rfl rfl rfl
instance : TyF Try.prog 70 2 5 := tyF_mk (i := Try.t47) Try.underlying70 rfl rfl rfl rfl
instance : TyF Try.prog 70 3 6 := tyF_mk (i := Try.t3) Try.underlying70 rfl rfl rfl rfl
instance : TyF Try.prog 71 0 0 := tyF_mk (i := Try.t32) Try.underlying71 rfl rfl rfl rfl
instance : TyF Try.prog 71 1 4 := tyF_mk (i := Try.t69) Try.underlying71 rfl rfl rfl rfl
instance : TyF Try.prog 71 2 5 := tyF_mk (i := Try.t47) Try.underlying71 rfl rfl rfl rfl
instance : TyF Try.prog 71 3 6 := tyF_mk (i := Try.t3) Try.underlying71 rfl rfl rfl rfl
instance : TyF Try.prog 119 0 0 := tyF_mk (i := Try.t17) Try.underlying119 rfl rfl rfl rfl
instance : TyF Try.prog 119 1 1 := tyF_mk (i := Try.t17) Try.underlying119 rfl rfl rfl rfl
instance : TyF Try.prog 119 2 2 := tyF_mk (i := Try.t17) Try.underlying119 rfl rfl rfl rfl
instance : TyF Try.prog 119 3 3 := tyF_mk (i := Try.t9) Try.underlying119 rfl rfl rfl rfl
instance : TyF Try.prog 120 0 0 := tyF_mk (i := Try.t17) Try.underlying120 rfl rfl rfl rfl
instance : TyF Try.prog 120 1 1 := tyF_mk (i := Try.t17) Try.underlying120 rfl rfl rfl rfl
instance : TyF Try.prog 120 2 2 := tyF_mk (i := Try.t17) Try.underlying120 rfl rfl rfl rfl
instance : TyF Try.prog 120 3 3 := tyF_mk (i := Try.t9) Try.underlying120 rfl rfl rfl rfl
instance : TyF Try.prog 130 0 0 := tyF_mk (i := Try.t12) Try.underlying130 rfl rfl rfl rfl
instance : TyF Try.prog 130 1 1 := tyF_mk (i := Try.t12) Try.underlying130 rfl rfl rfl rfl
instance : TyF Try.prog 130 2 2 := tyF_mk (i := Try.t106) Try.underlying130 rfl rfl rfl rfl
instance : TyF Try.prog 130 3 3 := tyF_mk (i := Try.t124) Try.underlying130 rfl rfl rfl rfl
instance : TyF Try.prog 130 4 4 := tyF_mk (i := Try.t5) Try.underlying130 rfl rfl rfl rfl
instance : TyF Try.prog 130 5 5 := tyF_mk (i := Try.t5) Try.underlying130 rfl rfl rfl rfl
instance : TyF Try.prog 130 6 6 := tyF_mk (i := Try.t125) Try.underlying130 rfl rfl rfl rfl
instance : TyF Try.prog 130 7 7 := tyF_mk (i := Try.t126) Try.underlying130 rfl rfl rfl rfl
instance : TyF Try.prog 130 8 8 := tyF_mk (i := Try.t127) Try.underlying130 rfl rfl rfl rfl
instance : TyF Try.prog 130 9 9 := tyF_mk (i := Try.t128) Try.underlying130 rfl rfl rfl rfl
instance : TyF Try.prog 130 10 10 := tyF_mk (i := Try.t129) Try.underlying130 rfl rfl rfl rfl
instance : TyF Try.prog 131 0 0 := tyF_mk (i := Try.t12) Try.underlying131 rfl rfl rfl rfl
instance : TyF Try.prog 131 1 1 := tyF_mk (i := Try.t12) Try.underlying131 rfl rfl rfl rfl
instance : TyF Try.prog 131 2 2 := tyF_mk (i := Try.t106) Try.underlying131 rfl rfl rfl rfl
instance : TyF Try.prog 131 3 3 := tyF_mk (i := Try.t124) Try.underlying131 rfl rfl rfl rfl
instance : TyF Try.prog 131 4 4 := tyF_mk (i := Try.t5) Try.underlying131 rfl rfl rfl rfl
instance : TyF Try.prog 131 5 5 := tyF_mk (i := Try.t5) Try.underlying131 rfl rfl rfl rfl
instance : TyF Try.prog 131 6 6 := tyF_mk (i := Try.t125) Try.underlying131 rfl rfl rfl rfl
instance : TyF Try.prog 131 7 7 := tyF_mk (i := Try.t126) Try.underlying131 rfl rfl rfl rfl
instance : TyF Try.prog 131 8 8 := tyF_mk (i := Try.t127) Try.underlying131 rfl rfl rfl rfl
instance : TyF Try.prog 131 9 9 := tyF_mk (i := Try.t128) Try.underlying131 rfl rfl rfl rfl
instance : TyF Try.prog 131 10 10 := tyF_mk (i := Try.t129) Try.underlying131 rfl rfl rfl rfl
instance : TyS Try.prog 0 := tyS_mk Try.underlying0 rfl
instance : TyS Try.prog 1 := tyS_mk Try.underlying1 rfl
instance : TyS Try.prog 2 := tyS_mk Try.underlying2 rfl
instance : TyS Try.prog 3 := tyS_mk Try.underlying3 rfl
instance : TyS Try.prog 4 := tyS_mk Try.underlying4 rfl
instance : TyS Try.prog 5 := tyS_mk Try.underlying5 rfl
instance : TyS Try.prog 6 := tyS_mk Try.underlying6 rfl
instance : TyA Try.prog 7 4 := tyA_mk (i := Try.t7) Try.underlying7 rfl rfl rfl
instance : TyA Try.prog 8 4 := tyA_mk (i := Try.t8) Try.underlying8 rfl rfl rfl
instance : TyS Try.prog 9 := tyS_mk Try.underlying9 rfl
instance : TyS Try.prog 10 := tyS_mk Try.underlying10 rfl
instance : TyS Try.prog 11 := tyS_mk Try.underlying11 rfl
instance : TyS Try.prog 12 := tyS_mk Try.underlying12 rfl
instance : TyA Try.prog 13 2 := tyA_mk (i := Try.t13) Try.underlying13 rfl rfl rfl
instance : TyA Try.prog 14 2 := tyA_mk (i := Try.t14) Try.underlying14 rfl rfl rfl
instance : TyS Try.prog 15 := tyS_mk Try.underlying15 rfl
instance : TyS Try.prog 16 := tyS_mk Try.underlying16 rfl
instance : TyS Try.prog 17 := tyS_mk Try.underlying17 rfl
instance : TyA Try.prog 18 1 := tyA_mk (i := Try.t18) Try.underlying18 rfl rfl rfl
instance : TyA Try.prog 19 1 := tyA_mk (i := Try.t19) Try.underlying19 rfl rfl rfl
instance : TyS Try.prog 20 := tyS_mk Try.underlying20 rfl
instance : TyS Try.prog 21 := tyS_mk Try.underlying21 rfl
instance : TyS Try.prog 22 := tyS_mk Try.underlying22 rfl
instance : TyE Try.prog 22 5 1 := tyE_mk (i := Try.t5) Try.underlying22 rfl rfl
instance : TyG Try.prog 22 5 1 1 := tyG_mk (i := Try.t5) (z := (Go.Value.int Go.IntKind.u8 0)) Try.underlying22 rfl rfl rfl rfl rfl
instance : TyA Try.prog 23 2 := tyA_mk (i := Try.t23) Try.underlying23 rfl rfl rfl
instance : TyR Try.prog 23 2 5 1 := tyR_mk (i := Try.t5) Try.underlying23 rfl rfl
instance : TyA Try.prog 24 6 := tyA_mk (i := Try.t24) Try.underlying24 rfl rfl rfl
instance : TyA Try.prog 25 6 := tyA_mk (i := Try.t25) Try.underlying25 rfl rfl rfl
instance : TyS Try.prog 26 := tyS_mk Try.underlying26 rfl
instance : TyE Try.prog 26 29 3 := tyE_mk (i := Try.t29) Try.underlying26 rfl rfl
instance : TyG Try.prog 26 29 3 24 := tyG_mk (i := Try.t29) (z := (Go.Value.agg #[Go.Value.int Go.IntKind.i64 0, Go.Value.int Go.IntKind.i64 0, Go.Value.int Go.IntKind.i64 0])) Try.underlying26 rfl rfl rfl rfl rfl
instance : TyS Try.prog 27 := tyS_mk Try.underlying27 rfl
instance : TyA Try.prog 28 3 := tyA_mk (i := Try.t28) Try.underlying28 rfl rfl rfl
instance : TyA Try.prog 29 3 := tyA_mk (i := Try.t29) Try.underlying29 rfl rfl rfl
instance : TyS Try.prog 30 := tyS_mk Try.underlying30 rfl
instance : TyE Try.prog 30 132 1 := tyE_mk (i := Try.t132) Try.underlying30 rfl rfl
instance : TyG Try.prog 30 132 1 8 := tyG_mk (i := Try.t132) (z := (Go.Value.int Go.IntKind.i64 0)) Try.underlying30 rfl rfl rfl rfl rfl
instance : TyA Try.prog 31 4 := tyA_mk (i := Try.t31) Try.underlying31 rfl rfl rfl
instance : TyA Try.prog 32 4 := tyA_mk (i := Try.t32) Try.underlying32 rfl rfl rfl
instance : TyS Try.prog 33 := tyS_mk Try.underlying33 rfl
instance : TyA Try.prog 34 12 := tyA_mk (i := Try.t34) Try.underlying34 rfl rfl rfl
instance : TyR Try.prog 34 3 32 4 := tyR_mk (i := Try.t32) Try.underlying34 rfl rfl
instance : TyS Try.prog 35 := tyS_mk Try.underlying35 rfl
instance : TyE Try.prog 35 47 1 := tyE_mk (i := Try.t47) Try.underlying35 rfl rfl
instance : TyG Try.prog 35 47 1 24 := tyG_mk (i := Try.t47) (z := (Go.Value.slice none 0 0)) Try.underlying35 rfl rfl rfl rfl rfl
instance : TyS Try.prog 36 := tyS_mk Try.underlying36 rfl
instance : TyE Try.prog 36 4 1 := tyE_mk (i := Try.t4) Try.underlying36 rfl rfl
instance : TyG Try.prog 36 4 1 1 := tyG_mk (i := Try.t4) (z := (Go.Value.bool false)) Try.underlying36 rfl rfl rfl rfl rfl
instance : TyA Try.prog 37 3 := tyA_mk (i := Try.t37) Try.underlying37 rfl rfl rfl
instance : TyA Try.prog 38 3 := tyA_mk (i := Try.t38) Try.underlying38 rfl rfl rfl
instance : TyS Try.prog 39 := tyS_mk Try.underlying39 rfl
instance : TyS Try.prog 40 := tyS_mk Try.underlying40 rfl
instance : TyS Try.prog 41 := tyS_mk Try.underlying41 rfl
instance : TyS Try.prog 42 := tyS_mk Try.underlying42 rfl
instance : TyS Try.prog 43 := tyS_mk Try.underlying43 rfl
instance : TyS Try.prog 44 := tyS_mk Try.underlying44 rfl
instance : TyS Try.prog 45 := tyS_mk Try.underlying45 rfl
instance : TyS Try.prog 46 := tyS_mk Try.underlying46 rfl
instance : TyS Try.prog 47 := tyS_mk Try.underlying47 rfl
instance : TyE Try.prog 47 3 1 := tyE_mk (i := Try.t3) Try.underlying47 rfl rfl
instance : TyG Try.prog 47 3 1 8 := tyG_mk (i := Try.t3) (z := (Go.Value.int Go.IntKind.i64 0)) Try.underlying47 rfl rfl rfl rfl rfl
instance : TyS Try.prog 48 := tyS_mk Try.underlying48 rfl
instance : TyS Try.prog 49 := tyS_mk Try.underlying49 rfl
instance : TyS Try.prog 50 := tyS_mk Try.underlying50 rfl
instance : TyE Try.prog 50 52 2 := tyE_mk (i := Try.t52) Try.underlying50 rfl rfl
instance : TyG Try.prog 50 52 2 16 := tyG_mk (i := Try.t52) (z := (Go.Value.agg #[Go.Value.int Go.IntKind.i64 0, Go.Value.int Go.IntKind.i64 0])) Try.underlying50 rfl rfl rfl rfl rfl
instance : TyA Try.prog 51 2 := tyA_mk (i := Try.t51) Try.underlying51 rfl rfl rfl
instance : TyA Try.prog 52 2 := tyA_mk (i := Try.t52) Try.underlying52 rfl rfl rfl
instance : TyS Try.prog 53 := tyS_mk Try.underlying53 rfl
instance : TyS Try.prog 54 := tyS_mk Try.underlying54 rfl
instance : TyS Try.prog 55 := tyS_mk Try.underlying55 rfl
instance : TyS Try.prog 56 := tyS_mk Try.underlying56 rfl
instance : TyE Try.prog 56 57 2 := tyE_mk (i := Try.t57) Try.underlying56 rfl rfl
instance : TyG Try.prog 56 57 2 16 := tyG_mk (i := Try.t57) (z := (Go.Value.agg #[Go.Value.int Go.IntKind.i64 0, Go.Value.int Go.IntKind.i64 0])) Try.underlying56 rfl rfl rfl rfl rfl
instance : TyA Try.prog 57 2 := tyA_mk (i := Try.t57) Try.underlying57 rfl rfl rfl
instance : TyR Try.prog 57 2 3 1 := tyR_mk (i := Try.t3) Try.underlying57 rfl rfl
instance : TyS Try.prog 58 := tyS_mk Try.underlying58 rfl
instance : TyS Try.prog 59 := tyS_mk Try.underlying59 rfl
instance : TyS Try.prog 60 := tyS_mk Try.underlying60 rfl
instance : TyS Try.prog 61 := tyS_mk Try.underlying61 rfl
instance : TyS Try.prog 62 := tyS_mk Try.underlying62 rfl
instance : TyS Try.prog 63 := tyS_mk Try.underlying63 rfl
instance : TyS Try.prog 64 := tyS_mk Try.underlying64 rfl
instance : TyS Try.prog 65 := tyS_mk Try.underlying65 rfl
instance : TyS Try.prog 66 := tyS_mk Try.underlying66 rfl
instance : TyS Try.prog 67 := tyS_mk Try.underlying67 rfl
instance : TyS Try.prog 68 := tyS_mk Try.underlying68 rfl
instance : TyS Try.prog 69 := tyS_mk Try.underlying69 rfl
instance : TyA Try.prog 70 7 := tyA_mk (i := Try.t70) Try.underlying70 rfl rfl rfl
instance : TyA Try.prog 71 7 := tyA_mk (i := Try.t71) Try.underlying71 rfl rfl rfl
instance : TyS Try.prog 72 := tyS_mk Try.underlying72 rfl
instance : TyS Try.prog 73 := tyS_mk Try.underlying73 rfl
instance : TyS Try.prog 74 := tyS_mk Try.underlying74 rfl
instance : TyS Try.prog 75 := tyS_mk Try.underlying75 rfl
instance : TyS Try.prog 76 := tyS_mk Try.underlying76 rfl
instance : TyS Try.prog 77 := tyS_mk Try.underlying77 rfl
instance : TyS Try.prog 78 := tyS_mk Try.underlying78 rfl
instance : TyE Try.prog 78 26 1 := tyE_mk (i := Try.t26) Try.underlying78 rfl rfl
instance : TyG Try.prog 78 26 1 24 := tyG_mk (i := Try.t26) (z := (Go.Value.slice none 0 0)) Try.underlying78 rfl rfl rfl rfl rfl
instance : TyS Try.prog 79 := tyS_mk Try.underlying79 rfl
instance : TyS Try.prog 80 := tyS_mk Try.underlying80 rfl
instance : TyS Try.prog 81 := tyS_mk Try.underlying81 rfl
instance : TyS Try.prog 82 := tyS_mk Try.underlying82 rfl
instance : TyS Try.prog 83 := tyS_mk Try.underlying83 rfl
instance : TyS Try.prog 84 := tyS_mk Try.underlying84 rfl
instance : TyS Try.prog 85 := tyS_mk Try.underlying85 rfl
instance : TyS Try.prog 86 := tyS_mk Try.underlying86 rfl
instance : TyS Try.prog 87 := tyS_mk Try.underlying87 rfl
instance : TyS Try.prog 88 := tyS_mk Try.underlying88 rfl
instance : TyS Try.prog 89 := tyS_mk Try.underlying89 rfl
instance : TyS Try.prog 90 := tyS_mk Try.underlying90 rfl
instance : TyS Try.prog 91 := tyS_mk Try.underlying91 rfl
instance : TyS Try.prog 92 := tyS_mk Try.underlying92 rfl
instance : TyS Try.prog 93 := tyS_mk Try.underlying93 rfl
instance : TyS Try.prog 94 := tyS_mk Try.underlying94 rfl
instance : TyS Try.prog 95 := tyS_mk Try.underlying95 rfl
instance : TyS Try.prog 96 := tyS_mk Try.underlying96 rfl
instance : TyS Try.prog 97 := tyS_mk Try.underlying97 rfl
instance : TyS Try.prog 98 := tyS_mk Try.underlying98 rfl
instance : TyS Try.prog 99 := tyS_mk Try.underlying99 rfl
instance : TyS Try.prog 100 := tyS_mk Try.underlying100 rfl
instance : TyS Try.prog 101 := tyS_mk Try.underlying101 rfl
instance : TyS Try.prog 102 := tyS_mk Try.underlying102 rfl
instance : TyS Try.prog 103 := tyS_mk Try.underlying103 rfl
instance : TyS Try.prog 104 := tyS_mk Try.underlying104 rfl
instance : TyS Try.prog 105 := tyS_mk Try.underlying105 rfl
instance : TyS Try.prog 106 := tyS_mk Try.underlying106 rfl
instance : TyS Try.prog 107 := tyS_mk Try.underlying107 rfl
instance : TyS Try.prog 108 := tyS_mk Try.underlying108 rfl
instance : TyS Try.prog 109 := tyS_mk Try.underlying109 rfl
instance : TyS Try.prog 110 := tyS_mk Try.underlying110 rfl
instance : TyS Try.prog 111 := tyS_mk Try.underlying111 rfl
instance : TyS Try.prog 112 := tyS_mk Try.underlying112 rfl
instance : TyS Try.prog 113 := tyS_mk Try.underlying113 rfl
instance : TyS Try.prog 114 := tyS_mk Try.underlying114 rfl
instance : TyS Try.prog 115 := tyS_mk Try.underlying115 rfl
instance : TyS Try.prog 116 := tyS_mk Try.underlying116 rfl
instance : TyS Try.prog 117 := tyS_mk Try.underlying117 rfl
instance : TyS Try.prog 118 := tyS_mk Try.underlying118 rfl
instance : TyA Try.prog 119 4 := tyA_mk (i := Try.t119) Try.underlying119 rfl rfl rfl
instance : TyA Try.prog 120 4 := tyA_mk (i := Try.t120) Try.underlying120 rfl rfl rfl
instance : TyA Try.prog 121 0 := tyA_mk (i := Try.t121) Try.underlying121 rfl rfl rfl
instance : TyR Try.prog 121 0 16 1 := tyR_mk (i := Try.t16) Try.underlying121 rfl rfl
instance : TyA Try.prog 122 0 := tyA_mk (i := Try.t122) Try.underlying122 rfl rfl rfl
instance : TyA Try.prog 123 0 := tyA_mk (i := Try.t123) Try.underlying123 rfl rfl rfl
instance : TyS Try.prog 124 := tyS_mk Try.underlying124 rfl
instance : TyS Try.prog 125 := tyS_mk Try.underlying125 rfl
instance : TyS Try.prog 126 := tyS_mk Try.underlying126 rfl
instance : TyS Try.prog 127 := tyS_mk Try.underlying127 rfl
instance : TyS Try.prog 128 := tyS_mk Try.underlying128 rfl
instance : TyS Try.prog 129 := tyS_mk Try.underlying129 rfl
instance : TyA Try.prog 130 11 := tyA_mk (i := Try.t130) Try.underlying130 rfl rfl rfl
instance : TyA Try.prog 131 11 := tyA_mk (i := Try.t131) Try.underlying131 rfl rfl rfl
instance : TyS Try.prog 132 := tyS_mk Try.underlying132 rfl
instance : TyS Try.prog 133 := tyS_mk Try.underlying133 rfl
instance : TyQ Try.prog 28 [(0, 0), (1, 0), (2, 0)] := ⟨rfl, by kernel_rfl, by kernel_rfl, by kernel_rfl, rfl⟩
instance : TyQ Try.prog 29 [(0, 0), (1, 0), (2, 0)] := ⟨rfl, by kernel_rfl, by kernel_rfl, by kernel_rfl, rfl⟩
instance : TyQ Try.prog 51 [(0, 0), (1, 0)] := ⟨rfl, by kernel_rfl, by kernel_rfl, by kernel_rfl, rfl⟩
instance : TyQ Try.prog 52 [(0, 0), (1, 0)] := ⟨rfl, by kernel_rfl, by kernel_rfl, by kernel_rfl, rfl⟩
instance : Enters Try.prog 13 := ⟨fun _ _ => rfl⟩
instance : Enters Try.prog 22 := ⟨fun _ _ => rfl⟩
instance : Enters Try.prog 4 := ⟨fun _ _ => rfl⟩
instance : Enters Try.prog 37 := ⟨fun _ _ => rfl⟩
instance : Enters Try.prog 70 := ⟨fun _ _ => rfl⟩
instance : Enters Try.prog 15 := ⟨fun _ _ => rfl⟩
instance : Enters Try.prog 73 := ⟨fun _ _ => rfl⟩
instance : Enters Try.prog 12 := ⟨fun _ _ => rfl⟩
instance : Enters Try.prog 9 := ⟨fun _ _ => rfl⟩
instance : Enters Try.prog 49 := ⟨fun _ _ => rfl⟩
instance : Enters Try.prog 32 := ⟨fun _ _ => rfl⟩
instance : Enters Try.prog 66 := ⟨fun _ _ => rfl⟩
instance : Enters Try.prog 50 := ⟨fun _ _ => rfl⟩
instance : Enters Try.prog 31 := ⟨fun _ _ => rfl⟩
instance : Enters Try.prog 19 := ⟨fun _ _ => rfl⟩
instance : Enters Try.prog 41 := ⟨fun _ _ => rfl⟩
instance : Enters Try.prog 58 := ⟨fun _ _ => rfl⟩
instance : Enters Try.prog 68 := ⟨fun _ _ => rfl⟩
instance : Enters Try.prog 36 := ⟨fun _ _ => rfl⟩
instance : Enters Try.prog 55 := ⟨fun _ _ => rfl⟩
instance : Enters Try.prog 71 := ⟨fun _ _ => rfl⟩
instance : Enters Try.prog 34 := ⟨fun _ _ => rfl⟩
instance : Enters Try.prog 59 := ⟨fun _ _ => rfl⟩
instance : Enters Try.prog 20 := ⟨fun _ _ => rfl⟩
instance : Enters Try.prog 26 := ⟨fun _ _ => rfl⟩
instance : Enters Try.prog 56 := ⟨fun _ _ => rfl⟩
instance : Enters Try.prog 23 := ⟨fun _ _ => rfl⟩
instance : Enters Try.prog 64 := ⟨fun _ _ => rfl⟩
instance : Enters Try.prog 44 := ⟨fun _ _ => rfl⟩
instance : Enters Try.prog 43 := ⟨fun _ _ => rfl⟩
instance : Enters Try.prog 10 := ⟨fun _ _ => rfl⟩
instance : Enters Try.prog 21 := ⟨fun _ _ => rfl⟩
instance : Enters Try.prog 52 := ⟨fun _ _ => rfl⟩
instance : Enters Try.prog 53 := ⟨fun _ _ => rfl⟩
instance : Enters Try.prog 35 := ⟨fun _ _ => rfl⟩
instance : Enters Try.prog 18 := ⟨fun _ _ => rfl⟩
instance : Enters Try.prog 65 := ⟨fun _ _ => rfl⟩
instance : Enters Try.prog 63 := ⟨fun _ _ => rfl⟩
instance : Enters Try.prog 11 := ⟨fun _ _ => rfl⟩
instance : Enters Try.prog 33 := ⟨fun _ _ => rfl⟩
instance : Enters Try.prog 48 := ⟨fun _ _ => rfl⟩
instance : Enters Try.prog 29 := ⟨fun _ _ => rfl⟩
instance : Enters Try.prog 62 := ⟨fun _ _ => rfl⟩
instance : Enters Try.prog 14 := ⟨fun _ _ => rfl⟩
instance : Enters Try.prog 27 := ⟨fun _ _ => rfl⟩
instance : Enters Try.prog 47 := ⟨fun _ _ => rfl⟩
instance : Enters Try.prog 75 := ⟨fun _ _ => rfl⟩
instance : Enters Try.prog 8 := ⟨fun _ _ => rfl⟩
instance : Enters Try.prog 61 := ⟨fun _ _ => rfl⟩
instance : Enters Try.prog 30 := ⟨fun _ _ => rfl⟩
instance : Enters Try.prog 67 := ⟨fun _ _ => rfl⟩
instance : Enters Try.prog 76 := ⟨fun _ _ => rfl⟩
instance : Enters Try.prog 25 := ⟨fun _ _ => rfl⟩
instance : Enters Try.prog 39 := ⟨fun _ _ => rfl⟩
instance : Enters Try.prog 40 := ⟨fun _ _ => rfl⟩
instance : Enters Try.prog 5 := ⟨fun _ _ => rfl⟩
instance : Enters Try.prog 6 := ⟨fun _ _ => rfl⟩
instance : Enters Try.prog 57 := ⟨fun _ _ => rfl⟩
instance : Enters Try.prog 74 := ⟨fun _ _ => rfl⟩
instance : Enters Try.prog 24 := ⟨fun _ _ => rfl⟩
instance : Enters Try.prog 72 := ⟨fun _ _ => rfl⟩
instance : Enters Try.prog 3 := ⟨fun _ _ => rfl⟩
instance : Enters Try.prog 54 := ⟨fun _ _ => rfl⟩
instance : Enters Try.prog 45 := ⟨fun _ _ => rfl⟩
instance : Enters Try.prog 60 := ⟨fun _ _ => rfl⟩
instance : Enters Try.prog 16 := ⟨fun _ _ => rfl⟩
instance : Enters Try.prog 7 := ⟨fun _ _ => rfl⟩
instance : Enters Try.prog 51 := ⟨fun _ _ => rfl⟩
instance : Enters Try.prog 42 := ⟨fun _ _ => rfl⟩
instance : Enters Try.prog 28 := ⟨fun _ _ => rfl⟩
instance : Enters Try.prog 17 := ⟨fun _ _ => rfl⟩
instance : Enters Try.prog 46 := ⟨fun _ _ => rfl⟩
instance : Enters Try.prog 69 := ⟨fun _ _ => rfl⟩
instance : Enters Try.prog 77 := ⟨fun _ _ => rfl⟩
instance : Enters Try.prog 38 := ⟨fun _ _ => rfl⟩
end Go.Proofs.Ytifhhfeibnpaoaa
