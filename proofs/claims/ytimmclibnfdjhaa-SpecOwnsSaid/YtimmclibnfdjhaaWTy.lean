/- Facts of the seat's types and functions, by program. -/
import Derived.Test.YtimmclibnfdjhaaSlG3
import Derived.KernelRfl
import Derived.Test.YtimmclibnfdjhaaProg
set_option linter.unusedVariables false
set_option linter.unusedSimpArgs false
set_option linter.unusedSectionVars false
namespace Go.Proofs.Ytimmclibnfdjhaa
open Go.SL
set_option maxRecDepth 100000
instance ty0 : Ty Try.prog 0 (Go.TypeDesc.tuple #[]) (Go.Value.tuple #[]) Try.t0 := ⟨Try.underlying0, Try.zeroValue0, rfl⟩
instance ty1 : Ty Try.prog 1 (Go.TypeDesc.func #[] #[] false) Go.Value.nilFunc Try.t1 := ⟨Try.underlying1, Try.zeroValue1, rfl⟩
instance ty2 : Ty Try.prog 2 (Go.TypeDesc.int Go.IntKind.i64) (Go.Value.int Go.IntKind.i64 0) Try.t2 := ⟨Try.underlying2, Try.zeroValue2, rfl⟩
instance ty3 : Ty Try.prog 3 (Go.TypeDesc.int Go.IntKind.i64) (Go.Value.int Go.IntKind.i64 0) Try.t3 := ⟨Try.underlying3, Try.zeroValue3, rfl⟩
instance ty4 : Ty Try.prog 4 Go.TypeDesc.bool (Go.Value.bool false) Try.t4 := ⟨Try.underlying4, Try.zeroValue4, rfl⟩
instance ty5 : Ty Try.prog 5 (Go.TypeDesc.int Go.IntKind.u8) (Go.Value.int Go.IntKind.u8 0) Try.t5 := ⟨Try.underlying5, Try.zeroValue5, rfl⟩
instance ty6 : Ty Try.prog 6 (Go.TypeDesc.int Go.IntKind.u8) (Go.Value.int Go.IntKind.u8 0) Try.t6 := ⟨Try.underlying6, Try.zeroValue6, rfl⟩
instance ty7 : Ty Try.prog 7 (Go.TypeDesc.struct #[{ name := "x", type := 2, offset := 0, embedded := false, tag := "", pkgPath := "runtime", byteOffset := 0 }, { name := "y", type := 3, offset := 1, embedded := false, tag := "", pkgPath := "runtime", byteOffset := 8 }, { name := "signed", type := 4, offset := 2, embedded := false, tag := "", pkgPath := "runtime", byteOffset := 16 }, { name := "code", type := 6, offset := 3, embedded := false, tag := "", pkgPath := "runtime", byteOffset := 17 }]) (Go.Value.agg #[Go.Value.int Go.IntKind.i64 0, Go.Value.int Go.IntKind.i64 0, Go.Value.bool false, Go.Value.int Go.IntKind.u8 0]) Try.t7 := ⟨Try.underlying7, Try.zeroValue7, rfl⟩
instance ty8 : Ty Try.prog 8 (Go.TypeDesc.struct #[{ name := "x", type := 2, offset := 0, embedded := false, tag := "", pkgPath := "runtime", byteOffset := 0 }, { name := "y", type := 3, offset := 1, embedded := false, tag := "", pkgPath := "runtime", byteOffset := 8 }, { name := "signed", type := 4, offset := 2, embedded := false, tag := "", pkgPath := "runtime", byteOffset := 16 }, { name := "code", type := 6, offset := 3, embedded := false, tag := "", pkgPath := "runtime", byteOffset := 17 }]) (Go.Value.agg #[Go.Value.int Go.IntKind.i64 0, Go.Value.int Go.IntKind.i64 0, Go.Value.bool false, Go.Value.int Go.IntKind.u8 0]) Try.t8 := ⟨Try.underlying8, Try.zeroValue8, rfl⟩
instance ty9 : Ty Try.prog 9 Go.TypeDesc.string (Go.Value.string { data := #[] }) Try.t9 := ⟨Try.underlying9, Try.zeroValue9, rfl⟩
instance ty10 : Ty Try.prog 10 Go.TypeDesc.string (Go.Value.string { data := #[] }) Try.t10 := ⟨Try.underlying10, Try.zeroValue10, rfl⟩
instance ty11 : Ty Try.prog 11 Go.TypeDesc.string (Go.Value.string { data := #[] }) Try.t11 := ⟨Try.underlying11, Try.zeroValue11, rfl⟩
instance ty12 : Ty Try.prog 12 (Go.TypeDesc.int Go.IntKind.u64) (Go.Value.int Go.IntKind.u64 0) Try.t12 := ⟨Try.underlying12, Try.zeroValue12, rfl⟩
instance ty13 : Ty Try.prog 13 (Go.TypeDesc.struct #[{ name := "msg", type := 9, offset := 0, embedded := false, tag := "", pkgPath := "runtime", byteOffset := 0 }, { name := "addr", type := 12, offset := 1, embedded := false, tag := "", pkgPath := "runtime", byteOffset := 16 }]) (Go.Value.agg #[Go.Value.string { data := #[] }, Go.Value.int Go.IntKind.u64 0]) Try.t13 := ⟨Try.underlying13, Try.zeroValue13, rfl⟩
instance ty14 : Ty Try.prog 14 (Go.TypeDesc.struct #[{ name := "msg", type := 9, offset := 0, embedded := false, tag := "", pkgPath := "runtime", byteOffset := 0 }, { name := "addr", type := 12, offset := 1, embedded := false, tag := "", pkgPath := "runtime", byteOffset := 16 }]) (Go.Value.agg #[Go.Value.string { data := #[] }, Go.Value.int Go.IntKind.u64 0]) Try.t14 := ⟨Try.underlying14, Try.zeroValue14, rfl⟩
instance ty15 : Ty Try.prog 15 (Go.TypeDesc.pointer 121) (Go.Value.pointer none) Try.t15 := ⟨Try.underlying15, Try.zeroValue15, rfl⟩
instance ty16 : Ty Try.prog 16 (Go.TypeDesc.pointer 124) (Go.Value.pointer none) Try.t16 := ⟨Try.underlying16, Try.zeroValue16, rfl⟩
instance ty17 : Ty Try.prog 17 (Go.TypeDesc.pointer 133) (Go.Value.pointer none) Try.t17 := ⟨Try.underlying17, Try.zeroValue17, rfl⟩
instance ty18 : Ty Try.prog 18 (Go.TypeDesc.struct #[{ name := "typ", type := 17, offset := 0, embedded := false, tag := "", pkgPath := "internal/runtime/maps", byteOffset := 0 }]) (Go.Value.agg #[Go.Value.pointer none]) Try.t18 := ⟨Try.underlying18, Try.zeroValue18, rfl⟩
instance ty19 : Ty Try.prog 19 (Go.TypeDesc.struct #[{ name := "typ", type := 17, offset := 0, embedded := false, tag := "", pkgPath := "internal/runtime/maps", byteOffset := 0 }]) (Go.Value.agg #[Go.Value.pointer none]) Try.t19 := ⟨Try.underlying19, Try.zeroValue19, rfl⟩
instance ty20 : Ty Try.prog 20 (Go.TypeDesc.interface #[]) Go.Value.nilIface Try.t20 := ⟨Try.underlying20, Try.zeroValue20, rfl⟩
instance ty21 : Ty Try.prog 21 (Go.TypeDesc.int Go.IntKind.i32) (Go.Value.int Go.IntKind.i32 0) Try.t21 := ⟨Try.underlying21, Try.zeroValue21, rfl⟩
instance ty22 : Ty Try.prog 22 (Go.TypeDesc.slice 5) (Go.Value.slice none 0 0) Try.t22 := ⟨Try.underlying22, Try.zeroValue22, rfl⟩
instance ty23 : Ty Try.prog 23 (Go.TypeDesc.struct #[{ name := "Threads", type := 5, offset := 0, embedded := false, tag := "", pkgPath := "", byteOffset := 0 }, { name := "Objects", type := 5, offset := 1, embedded := false, tag := "", pkgPath := "", byteOffset := 1 }, { name := "B", type := 22, offset := 2, embedded := false, tag := "", pkgPath := "", byteOffset := 8 }]) (Go.Value.agg #[Go.Value.int Go.IntKind.u8 0, Go.Value.int Go.IntKind.u8 0, Go.Value.slice none 0 0]) Try.t23 := ⟨Try.underlying23, Try.zeroValue23, rfl⟩
instance ty24 : Ty Try.prog 24 (Go.TypeDesc.struct #[{ name := "Threads", type := 5, offset := 0, embedded := false, tag := "", pkgPath := "", byteOffset := 0 }, { name := "Objects", type := 5, offset := 1, embedded := false, tag := "", pkgPath := "", byteOffset := 1 }, { name := "B", type := 22, offset := 2, embedded := false, tag := "", pkgPath := "", byteOffset := 8 }]) (Go.Value.agg #[Go.Value.int Go.IntKind.u8 0, Go.Value.int Go.IntKind.u8 0, Go.Value.slice none 0 0]) Try.t24 := ⟨Try.underlying24, Try.zeroValue24, rfl⟩
instance ty25 : Ty Try.prog 25 (Go.TypeDesc.func #[] #[4] false) Go.Value.nilFunc Try.t25 := ⟨Try.underlying25, Try.zeroValue25, rfl⟩
instance ty26 : Ty Try.prog 26 (Go.TypeDesc.tuple #[3, 3]) (Go.Value.tuple #[Go.Value.int Go.IntKind.i64 0, Go.Value.int Go.IntKind.i64 0]) Try.t26 := ⟨Try.underlying26, Try.zeroValue26, rfl⟩
instance ty27 : Ty Try.prog 27 (Go.TypeDesc.func #[] #[3, 3] false) Go.Value.nilFunc Try.t27 := ⟨Try.underlying27, Try.zeroValue27, rfl⟩
instance ty28 : Ty Try.prog 28 (Go.TypeDesc.pointer 68) (Go.Value.pointer none) Try.t28 := ⟨Try.underlying28, Try.zeroValue28, rfl⟩
instance ty29 : Ty Try.prog 29 (Go.TypeDesc.func #[3, 3] #[28] false) Go.Value.nilFunc Try.t29 := ⟨Try.underlying29, Try.zeroValue29, rfl⟩
instance ty30 : Ty Try.prog 30 (Go.TypeDesc.slice 3) (Go.Value.slice none 0 0) Try.t30 := ⟨Try.underlying30, Try.zeroValue30, rfl⟩
instance ty31 : Ty Try.prog 31 (Go.TypeDesc.slice 37) (Go.Value.slice none 0 0) Try.t31 := ⟨Try.underlying31, Try.zeroValue31, rfl⟩
instance ty32 : Ty Try.prog 32 (Go.TypeDesc.func #[] #[31] false) Go.Value.nilFunc Try.t32 := ⟨Try.underlying32, Try.zeroValue32, rfl⟩
instance ty33 : Ty Try.prog 33 (Go.TypeDesc.int Go.IntKind.i64) (Go.Value.int Go.IntKind.i64 0) Try.t33 := ⟨Try.underlying33, Try.zeroValue33, rfl⟩
instance ty34 : Ty Try.prog 34 (Go.TypeDesc.struct #[{ name := "Code", type := 33, offset := 0, embedded := false, tag := "", pkgPath := "", byteOffset := 0 }, { name := "Value", type := 3, offset := 1, embedded := false, tag := "", pkgPath := "", byteOffset := 8 }]) (Go.Value.agg #[Go.Value.int Go.IntKind.i64 0, Go.Value.int Go.IntKind.i64 0]) Try.t34 := ⟨Try.underlying34, Try.zeroValue34, rfl⟩
instance ty35 : Ty Try.prog 35 (Go.TypeDesc.struct #[{ name := "Code", type := 33, offset := 0, embedded := false, tag := "", pkgPath := "", byteOffset := 0 }, { name := "Value", type := 3, offset := 1, embedded := false, tag := "", pkgPath := "", byteOffset := 8 }]) (Go.Value.agg #[Go.Value.int Go.IntKind.i64 0, Go.Value.int Go.IntKind.i64 0]) Try.t35 := ⟨Try.underlying35, Try.zeroValue35, rfl⟩
instance ty36 : Ty Try.prog 36 (Go.TypeDesc.struct #[{ name := "Kind", type := 3, offset := 0, embedded := false, tag := "", pkgPath := "", byteOffset := 0 }, { name := "Thread", type := 3, offset := 1, embedded := false, tag := "", pkgPath := "", byteOffset := 8 }, { name := "Index", type := 3, offset := 2, embedded := false, tag := "", pkgPath := "", byteOffset := 16 }, { name := "Act", type := 3, offset := 3, embedded := false, tag := "", pkgPath := "", byteOffset := 24 }, { name := "Obj", type := 3, offset := 4, embedded := false, tag := "", pkgPath := "", byteOffset := 32 }, { name := "Other", type := 3, offset := 5, embedded := false, tag := "", pkgPath := "", byteOffset := 40 }, { name := "Res", type := 35, offset := 6, embedded := false, tag := "", pkgPath := "", byteOffset := 48 }]) (Go.Value.agg #[Go.Value.int Go.IntKind.i64 0, Go.Value.int Go.IntKind.i64 0, Go.Value.int Go.IntKind.i64 0, Go.Value.int Go.IntKind.i64 0, Go.Value.int Go.IntKind.i64 0, Go.Value.int Go.IntKind.i64 0, Go.Value.int Go.IntKind.i64 0, Go.Value.int Go.IntKind.i64 0]) Try.t36 := ⟨Try.underlying36, Try.zeroValue36, rfl⟩
instance ty37 : Ty Try.prog 37 (Go.TypeDesc.struct #[{ name := "Kind", type := 3, offset := 0, embedded := false, tag := "", pkgPath := "", byteOffset := 0 }, { name := "Thread", type := 3, offset := 1, embedded := false, tag := "", pkgPath := "", byteOffset := 8 }, { name := "Index", type := 3, offset := 2, embedded := false, tag := "", pkgPath := "", byteOffset := 16 }, { name := "Act", type := 3, offset := 3, embedded := false, tag := "", pkgPath := "", byteOffset := 24 }, { name := "Obj", type := 3, offset := 4, embedded := false, tag := "", pkgPath := "", byteOffset := 32 }, { name := "Other", type := 3, offset := 5, embedded := false, tag := "", pkgPath := "", byteOffset := 40 }, { name := "Res", type := 35, offset := 6, embedded := false, tag := "", pkgPath := "", byteOffset := 48 }]) (Go.Value.agg #[Go.Value.int Go.IntKind.i64 0, Go.Value.int Go.IntKind.i64 0, Go.Value.int Go.IntKind.i64 0, Go.Value.int Go.IntKind.i64 0, Go.Value.int Go.IntKind.i64 0, Go.Value.int Go.IntKind.i64 0, Go.Value.int Go.IntKind.i64 0, Go.Value.int Go.IntKind.i64 0]) Try.t37 := ⟨Try.underlying37, Try.zeroValue37, rfl⟩
instance ty38 : Ty Try.prog 38 (Go.TypeDesc.func #[37] #[4] false) Go.Value.nilFunc Try.t38 := ⟨Try.underlying38, Try.zeroValue38, rfl⟩
instance ty39 : Ty Try.prog 39 (Go.TypeDesc.struct #[{ name := "Owner", type := 3, offset := 0, embedded := false, tag := "", pkgPath := "", byteOffset := 0 }, { name := "Depth", type := 3, offset := 1, embedded := false, tag := "", pkgPath := "", byteOffset := 8 }, { name := "Waiting", type := 30, offset := 2, embedded := false, tag := "", pkgPath := "", byteOffset := 16 }]) (Go.Value.agg #[Go.Value.int Go.IntKind.i64 0, Go.Value.int Go.IntKind.i64 0, Go.Value.slice none 0 0]) Try.t39 := ⟨Try.underlying39, Try.zeroValue39, rfl⟩
instance ty40 : Ty Try.prog 40 (Go.TypeDesc.struct #[{ name := "Owner", type := 3, offset := 0, embedded := false, tag := "", pkgPath := "", byteOffset := 0 }, { name := "Depth", type := 3, offset := 1, embedded := false, tag := "", pkgPath := "", byteOffset := 8 }, { name := "Waiting", type := 30, offset := 2, embedded := false, tag := "", pkgPath := "", byteOffset := 16 }]) (Go.Value.agg #[Go.Value.int Go.IntKind.i64 0, Go.Value.int Go.IntKind.i64 0, Go.Value.slice none 0 0]) Try.t40 := ⟨Try.underlying40, Try.zeroValue40, rfl⟩
instance ty41 : Ty Try.prog 41 (Go.TypeDesc.func #[3] #[40] false) Go.Value.nilFunc Try.t41 := ⟨Try.underlying41, Try.zeroValue41, rfl⟩
instance ty42 : Ty Try.prog 42 (Go.TypeDesc.func #[24] #[4] false) Go.Value.nilFunc Try.t42 := ⟨Try.underlying42, Try.zeroValue42, rfl⟩
instance ty43 : Ty Try.prog 43 (Go.TypeDesc.array 6 5) (Go.Value.agg #[Go.Value.int Go.IntKind.u8 0, Go.Value.int Go.IntKind.u8 0, Go.Value.int Go.IntKind.u8 0, Go.Value.int Go.IntKind.u8 0, Go.Value.int Go.IntKind.u8 0, Go.Value.int Go.IntKind.u8 0]) Try.t43 := ⟨Try.underlying43, Try.zeroValue43, rfl⟩
instance ty44 : Ty Try.prog 44 (Go.TypeDesc.func #[28, 31] #[4] true) Go.Value.nilFunc Try.t44 := ⟨Try.underlying44, Try.zeroValue44, rfl⟩
instance ty45 : Ty Try.prog 45 (Go.TypeDesc.func #[3, 3, 3, 3] #[37] false) Go.Value.nilFunc Try.t45 := ⟨Try.underlying45, Try.zeroValue45, rfl⟩
instance ty46 : Ty Try.prog 46 (Go.TypeDesc.func #[3, 3, 3] #[37] false) Go.Value.nilFunc Try.t46 := ⟨Try.underlying46, Try.zeroValue46, rfl⟩
instance ty47 : Ty Try.prog 47 (Go.TypeDesc.func #[3, 3, 33, 3] #[37] false) Go.Value.nilFunc Try.t47 := ⟨Try.underlying47, Try.zeroValue47, rfl⟩
instance ty48 : Ty Try.prog 48 (Go.TypeDesc.func #[28, 3, 3, 30] #[4] true) Go.Value.nilFunc Try.t48 := ⟨Try.underlying48, Try.zeroValue48, rfl⟩
instance ty49 : Ty Try.prog 49 (Go.TypeDesc.func #[43, 43] #[4] false) Go.Value.nilFunc Try.t49 := ⟨Try.underlying49, Try.zeroValue49, rfl⟩
instance ty50 : Ty Try.prog 50 (Go.TypeDesc.int Go.IntKind.i8) (Go.Value.int Go.IntKind.i8 0) Try.t50 := ⟨Try.underlying50, Try.zeroValue50, rfl⟩
instance ty51 : Ty Try.prog 51 (Go.TypeDesc.struct #[{ name := "What", type := 5, offset := 0, embedded := false, tag := "", pkgPath := "", byteOffset := 0 }, { name := "At", type := 5, offset := 1, embedded := false, tag := "", pkgPath := "", byteOffset := 1 }, { name := "N", type := 50, offset := 2, embedded := false, tag := "", pkgPath := "", byteOffset := 2 }]) (Go.Value.agg #[Go.Value.int Go.IntKind.u8 0, Go.Value.int Go.IntKind.u8 0, Go.Value.int Go.IntKind.i8 0]) Try.t51 := ⟨Try.underlying51, Try.zeroValue51, rfl⟩
instance ty52 : Ty Try.prog 52 (Go.TypeDesc.struct #[{ name := "What", type := 5, offset := 0, embedded := false, tag := "", pkgPath := "", byteOffset := 0 }, { name := "At", type := 5, offset := 1, embedded := false, tag := "", pkgPath := "", byteOffset := 1 }, { name := "N", type := 50, offset := 2, embedded := false, tag := "", pkgPath := "", byteOffset := 2 }]) (Go.Value.agg #[Go.Value.int Go.IntKind.u8 0, Go.Value.int Go.IntKind.u8 0, Go.Value.int Go.IntKind.i8 0]) Try.t52 := ⟨Try.underlying52, Try.zeroValue52, rfl⟩
instance ty53 : Ty Try.prog 53 (Go.TypeDesc.func #[3, 3, 31] #[3] false) Go.Value.nilFunc Try.t53 := ⟨Try.underlying53, Try.zeroValue53, rfl⟩
instance ty54 : Ty Try.prog 54 (Go.TypeDesc.func #[] #[28] false) Go.Value.nilFunc Try.t54 := ⟨Try.underlying54, Try.zeroValue54, rfl⟩
instance ty55 : Ty Try.prog 55 (Go.TypeDesc.func #[37] #[37] false) Go.Value.nilFunc Try.t55 := ⟨Try.underlying55, Try.zeroValue55, rfl⟩
instance ty56 : Ty Try.prog 56 (Go.TypeDesc.func #[24, 5, 52] #[4] false) Go.Value.nilFunc Try.t56 := ⟨Try.underlying56, Try.zeroValue56, rfl⟩
instance ty57 : Ty Try.prog 57 (Go.TypeDesc.func #[3] #[4] false) Go.Value.nilFunc Try.t57 := ⟨Try.underlying57, Try.zeroValue57, rfl⟩
instance ty58 : Ty Try.prog 58 (Go.TypeDesc.struct #[{ name := "Op", type := 3, offset := 0, embedded := false, tag := "", pkgPath := "", byteOffset := 0 }, { name := "Obj", type := 3, offset := 1, embedded := false, tag := "", pkgPath := "", byteOffset := 8 }, { name := "Arg", type := 3, offset := 2, embedded := false, tag := "", pkgPath := "", byteOffset := 16 }]) (Go.Value.agg #[Go.Value.int Go.IntKind.i64 0, Go.Value.int Go.IntKind.i64 0, Go.Value.int Go.IntKind.i64 0]) Try.t58 := ⟨Try.underlying58, Try.zeroValue58, rfl⟩
instance ty59 : Ty Try.prog 59 (Go.TypeDesc.struct #[{ name := "Op", type := 3, offset := 0, embedded := false, tag := "", pkgPath := "", byteOffset := 0 }, { name := "Obj", type := 3, offset := 1, embedded := false, tag := "", pkgPath := "", byteOffset := 8 }, { name := "Arg", type := 3, offset := 2, embedded := false, tag := "", pkgPath := "", byteOffset := 16 }]) (Go.Value.agg #[Go.Value.int Go.IntKind.i64 0, Go.Value.int Go.IntKind.i64 0, Go.Value.int Go.IntKind.i64 0]) Try.t59 := ⟨Try.underlying59, Try.zeroValue59, rfl⟩
instance ty60 : Ty Try.prog 60 (Go.TypeDesc.tuple #[59, 4]) (Go.Value.tuple #[Go.Value.agg #[Go.Value.int Go.IntKind.i64 0, Go.Value.int Go.IntKind.i64 0, Go.Value.int Go.IntKind.i64 0], Go.Value.bool false]) Try.t60 := ⟨Try.underlying60, Try.zeroValue60, rfl⟩
instance ty61 : Ty Try.prog 61 (Go.TypeDesc.func #[3] #[59, 4] false) Go.Value.nilFunc Try.t61 := ⟨Try.underlying61, Try.zeroValue61, rfl⟩
instance ty62 : Ty Try.prog 62 (Go.TypeDesc.slice 73) (Go.Value.slice none 0 0) Try.t62 := ⟨Try.underlying62, Try.zeroValue62, rfl⟩
instance ty63 : Ty Try.prog 63 (Go.TypeDesc.slice 66) (Go.Value.slice none 0 0) Try.t63 := ⟨Try.underlying63, Try.zeroValue63, rfl⟩
instance ty64 : Ty Try.prog 64 (Go.TypeDesc.func #[63, 3] #[63] false) Go.Value.nilFunc Try.t64 := ⟨Try.underlying64, Try.zeroValue64, rfl⟩
instance ty65 : Ty Try.prog 65 (Go.TypeDesc.struct #[{ name := "owner", type := 3, offset := 0, embedded := false, tag := "", pkgPath := "doorkeeper/spec", byteOffset := 0 }, { name := "depth", type := 3, offset := 1, embedded := false, tag := "", pkgPath := "doorkeeper/spec", byteOffset := 8 }]) (Go.Value.agg #[Go.Value.int Go.IntKind.i64 0, Go.Value.int Go.IntKind.i64 0]) Try.t65 := ⟨Try.underlying65, Try.zeroValue65, rfl⟩
instance ty66 : Ty Try.prog 66 (Go.TypeDesc.struct #[{ name := "owner", type := 3, offset := 0, embedded := false, tag := "", pkgPath := "doorkeeper/spec", byteOffset := 0 }, { name := "depth", type := 3, offset := 1, embedded := false, tag := "", pkgPath := "doorkeeper/spec", byteOffset := 8 }]) (Go.Value.agg #[Go.Value.int Go.IntKind.i64 0, Go.Value.int Go.IntKind.i64 0]) Try.t66 := ⟨Try.underlying66, Try.zeroValue66, rfl⟩
instance ty67 : Ty Try.prog 67 (Go.TypeDesc.struct #[{ name := "threads", type := 62, offset := 0, embedded := false, tag := "", pkgPath := "doorkeeper/spec", byteOffset := 0 }, { name := "objects", type := 63, offset := 1, embedded := false, tag := "", pkgPath := "doorkeeper/spec", byteOffset := 24 }, { name := "releases", type := 3, offset := 2, embedded := false, tag := "", pkgPath := "doorkeeper/spec", byteOffset := 48 }]) (Go.Value.agg #[Go.Value.slice none 0 0, Go.Value.slice none 0 0, Go.Value.int Go.IntKind.i64 0]) Try.t67 := ⟨Try.underlying67, Try.zeroValue67, rfl⟩
instance ty68 : Ty Try.prog 68 (Go.TypeDesc.struct #[{ name := "threads", type := 62, offset := 0, embedded := false, tag := "", pkgPath := "doorkeeper/spec", byteOffset := 0 }, { name := "objects", type := 63, offset := 1, embedded := false, tag := "", pkgPath := "doorkeeper/spec", byteOffset := 24 }, { name := "releases", type := 3, offset := 2, embedded := false, tag := "", pkgPath := "doorkeeper/spec", byteOffset := 48 }]) (Go.Value.agg #[Go.Value.slice none 0 0, Go.Value.slice none 0 0, Go.Value.int Go.IntKind.i64 0]) Try.t68 := ⟨Try.underlying68, Try.zeroValue68, rfl⟩
instance ty69 : Ty Try.prog 69 (Go.TypeDesc.func #[22, 3, 3] #[31] false) Go.Value.nilFunc Try.t69 := ⟨Try.underlying69, Try.zeroValue69, rfl⟩
instance ty70 : Ty Try.prog 70 (Go.TypeDesc.pointer 73) (Go.Value.pointer none) Try.t70 := ⟨Try.underlying70, Try.zeroValue70, rfl⟩
instance ty71 : Ty Try.prog 71 (Go.TypeDesc.pointer 83) (Go.Value.pointer none) Try.t71 := ⟨Try.underlying71, Try.zeroValue71, rfl⟩
instance ty72 : Ty Try.prog 72 (Go.TypeDesc.struct #[{ name := "open", type := 71, offset := 0, embedded := true, tag := "", pkgPath := "doorkeeper/spec", byteOffset := 0 }, { name := "calls", type := 3, offset := 1, embedded := false, tag := "", pkgPath := "doorkeeper/spec", byteOffset := 8 }, { name := "flag", type := 4, offset := 2, embedded := false, tag := "", pkgPath := "doorkeeper/spec", byteOffset := 16 }]) (Go.Value.agg #[Go.Value.pointer none, Go.Value.int Go.IntKind.i64 0, Go.Value.bool false]) Try.t72 := ⟨Try.underlying72, Try.zeroValue72, rfl⟩
instance ty73 : Ty Try.prog 73 (Go.TypeDesc.struct #[{ name := "open", type := 71, offset := 0, embedded := true, tag := "", pkgPath := "doorkeeper/spec", byteOffset := 0 }, { name := "calls", type := 3, offset := 1, embedded := false, tag := "", pkgPath := "doorkeeper/spec", byteOffset := 8 }, { name := "flag", type := 4, offset := 2, embedded := false, tag := "", pkgPath := "doorkeeper/spec", byteOffset := 16 }]) (Go.Value.agg #[Go.Value.pointer none, Go.Value.int Go.IntKind.i64 0, Go.Value.bool false]) Try.t73 := ⟨Try.underlying73, Try.zeroValue73, rfl⟩
instance ty74 : Ty Try.prog 74 (Go.TypeDesc.func #[70, 37] #[4] false) Go.Value.nilFunc Try.t74 := ⟨Try.underlying74, Try.zeroValue74, rfl⟩
instance ty75 : Ty Try.prog 75 (Go.TypeDesc.func #[77] #[30] false) Go.Value.nilFunc Try.t75 := ⟨Try.underlying75, Try.zeroValue75, rfl⟩
instance ty76 : Ty Try.prog 76 (Go.TypeDesc.func #[57] #[] false) Go.Value.nilFunc Try.t76 := ⟨Try.underlying76, Try.zeroValue76, rfl⟩
instance ty77 : Ty Try.prog 77 (Go.TypeDesc.func #[57] #[] false) Go.Value.nilFunc Try.t77 := ⟨Try.underlying77, Try.zeroValue77, rfl⟩
instance ty78 : Ty Try.prog 78 (Go.TypeDesc.func #[3, 30] #[77] true) Go.Value.nilFunc Try.t78 := ⟨Try.underlying78, Try.zeroValue78, rfl⟩
instance ty79 : Ty Try.prog 79 (Go.TypeDesc.func #[31, 38] #[3] false) Go.Value.nilFunc Try.t79 := ⟨Try.underlying79, Try.zeroValue79, rfl⟩
instance ty80 : Ty Try.prog 80 (Go.TypeDesc.func #[62] #[62] false) Go.Value.nilFunc Try.t80 := ⟨Try.underlying80, Try.zeroValue80, rfl⟩
instance ty81 : Ty Try.prog 81 (Go.TypeDesc.func #[63] #[63] false) Go.Value.nilFunc Try.t81 := ⟨Try.underlying81, Try.zeroValue81, rfl⟩
instance ty82 : Ty Try.prog 82 (Go.TypeDesc.struct #[{ name := "Call", type := 59, offset := 0, embedded := true, tag := "", pkgPath := "", byteOffset := 0 }, { name := "far", type := 3, offset := 3, embedded := false, tag := "", pkgPath := "doorkeeper/spec", byteOffset := 24 }, { name := "saved", type := 3, offset := 4, embedded := false, tag := "", pkgPath := "doorkeeper/spec", byteOffset := 32 }, { name := "since", type := 3, offset := 5, embedded := false, tag := "", pkgPath := "doorkeeper/spec", byteOffset := 40 }, { name := "res", type := 35, offset := 6, embedded := false, tag := "", pkgPath := "doorkeeper/spec", byteOffset := 48 }]) (Go.Value.agg #[Go.Value.int Go.IntKind.i64 0, Go.Value.int Go.IntKind.i64 0, Go.Value.int Go.IntKind.i64 0, Go.Value.int Go.IntKind.i64 0, Go.Value.int Go.IntKind.i64 0, Go.Value.int Go.IntKind.i64 0, Go.Value.int Go.IntKind.i64 0, Go.Value.int Go.IntKind.i64 0]) Try.t82 := ⟨Try.underlying82, Try.zeroValue82, rfl⟩
instance ty83 : Ty Try.prog 83 (Go.TypeDesc.struct #[{ name := "Call", type := 59, offset := 0, embedded := true, tag := "", pkgPath := "", byteOffset := 0 }, { name := "far", type := 3, offset := 3, embedded := false, tag := "", pkgPath := "doorkeeper/spec", byteOffset := 24 }, { name := "saved", type := 3, offset := 4, embedded := false, tag := "", pkgPath := "doorkeeper/spec", byteOffset := 32 }, { name := "since", type := 3, offset := 5, embedded := false, tag := "", pkgPath := "doorkeeper/spec", byteOffset := 40 }, { name := "res", type := 35, offset := 6, embedded := false, tag := "", pkgPath := "doorkeeper/spec", byteOffset := 48 }]) (Go.Value.agg #[Go.Value.int Go.IntKind.i64 0, Go.Value.int Go.IntKind.i64 0, Go.Value.int Go.IntKind.i64 0, Go.Value.int Go.IntKind.i64 0, Go.Value.int Go.IntKind.i64 0, Go.Value.int Go.IntKind.i64 0, Go.Value.int Go.IntKind.i64 0, Go.Value.int Go.IntKind.i64 0]) Try.t83 := ⟨Try.underlying83, Try.zeroValue83, rfl⟩
instance ty84 : Ty Try.prog 84 (Go.TypeDesc.int Go.IntKind.u64) (Go.Value.int Go.IntKind.u64 0) Try.t84 := ⟨Try.underlying84, Try.zeroValue84, rfl⟩
instance ty85 : Ty Try.prog 85 (Go.TypeDesc.tuple #[84, 84]) (Go.Value.tuple #[Go.Value.int Go.IntKind.u64 0, Go.Value.int Go.IntKind.u64 0]) Try.t85 := ⟨Try.underlying85, Try.zeroValue85, rfl⟩
instance ty86 : Ty Try.prog 86 (Go.TypeDesc.func #[84, 84] #[84, 84] false) Go.Value.nilFunc Try.t86 := ⟨Try.underlying86, Try.zeroValue86, rfl⟩
instance ty87 : Ty Try.prog 87 (Go.TypeDesc.pointer 107) (Go.Value.pointer none) Try.t87 := ⟨Try.underlying87, Try.zeroValue87, rfl⟩
instance ty88 : Ty Try.prog 88 (Go.TypeDesc.func #[3, 3] #[87] false) Go.Value.nilFunc Try.t88 := ⟨Try.underlying88, Try.zeroValue88, rfl⟩
instance ty89 : Ty Try.prog 89 (Go.TypeDesc.tuple #[37, 4]) (Go.Value.tuple #[Go.Value.agg #[Go.Value.int Go.IntKind.i64 0, Go.Value.int Go.IntKind.i64 0, Go.Value.int Go.IntKind.i64 0, Go.Value.int Go.IntKind.i64 0, Go.Value.int Go.IntKind.i64 0, Go.Value.int Go.IntKind.i64 0, Go.Value.int Go.IntKind.i64 0, Go.Value.int Go.IntKind.i64 0], Go.Value.bool false]) Try.t89 := ⟨Try.underlying89, Try.zeroValue89, rfl⟩
instance ty90 : Ty Try.prog 90 (Go.TypeDesc.func #[3, 5, 5] #[37, 4] false) Go.Value.nilFunc Try.t90 := ⟨Try.underlying90, Try.zeroValue90, rfl⟩
instance ty91 : Ty Try.prog 91 (Go.TypeDesc.func #[59] #[4] false) Go.Value.nilFunc Try.t91 := ⟨Try.underlying91, Try.zeroValue91, rfl⟩
instance ty92 : Ty Try.prog 92 (Go.TypeDesc.pointer 95) (Go.Value.pointer none) Try.t92 := ⟨Try.underlying92, Try.zeroValue92, rfl⟩
instance ty93 : Ty Try.prog 93 (Go.TypeDesc.pointer 66) (Go.Value.pointer none) Try.t93 := ⟨Try.underlying93, Try.zeroValue93, rfl⟩
instance ty94 : Ty Try.prog 94 (Go.TypeDesc.struct #[{ name := "Spec", type := 28, offset := 0, embedded := true, tag := "", pkgPath := "", byteOffset := 0 }, { name := "t", type := 70, offset := 1, embedded := false, tag := "", pkgPath := "doorkeeper/spec", byteOffset := 8 }, { name := "o", type := 93, offset := 2, embedded := false, tag := "", pkgPath := "doorkeeper/spec", byteOffset := 16 }, { name := "e", type := 37, offset := 3, embedded := false, tag := "", pkgPath := "doorkeeper/spec", byteOffset := 24 }, { name := "owns", type := 4, offset := 11, embedded := false, tag := "", pkgPath := "doorkeeper/spec", byteOffset := 88 }]) (Go.Value.agg #[Go.Value.pointer none, Go.Value.pointer none, Go.Value.pointer none, Go.Value.int Go.IntKind.i64 0, Go.Value.int Go.IntKind.i64 0, Go.Value.int Go.IntKind.i64 0, Go.Value.int Go.IntKind.i64 0, Go.Value.int Go.IntKind.i64 0, Go.Value.int Go.IntKind.i64 0, Go.Value.int Go.IntKind.i64 0, Go.Value.int Go.IntKind.i64 0, Go.Value.bool false]) Try.t94 := ⟨Try.underlying94, Try.zeroValue94, rfl⟩
instance ty95 : Ty Try.prog 95 (Go.TypeDesc.struct #[{ name := "Spec", type := 28, offset := 0, embedded := true, tag := "", pkgPath := "", byteOffset := 0 }, { name := "t", type := 70, offset := 1, embedded := false, tag := "", pkgPath := "doorkeeper/spec", byteOffset := 8 }, { name := "o", type := 93, offset := 2, embedded := false, tag := "", pkgPath := "doorkeeper/spec", byteOffset := 16 }, { name := "e", type := 37, offset := 3, embedded := false, tag := "", pkgPath := "doorkeeper/spec", byteOffset := 24 }, { name := "owns", type := 4, offset := 11, embedded := false, tag := "", pkgPath := "doorkeeper/spec", byteOffset := 88 }]) (Go.Value.agg #[Go.Value.pointer none, Go.Value.pointer none, Go.Value.pointer none, Go.Value.int Go.IntKind.i64 0, Go.Value.int Go.IntKind.i64 0, Go.Value.int Go.IntKind.i64 0, Go.Value.int Go.IntKind.i64 0, Go.Value.int Go.IntKind.i64 0, Go.Value.int Go.IntKind.i64 0, Go.Value.int Go.IntKind.i64 0, Go.Value.int Go.IntKind.i64 0, Go.Value.bool false]) Try.t95 := ⟨Try.underlying95, Try.zeroValue95, rfl⟩
instance ty96 : Ty Try.prog 96 (Go.TypeDesc.map 3 25) (Go.Value.map none) Try.t96 := ⟨Try.underlying96, Try.zeroValue96, rfl⟩
instance ty97 : Ty Try.prog 97 (Go.TypeDesc.func #[30, 77] #[30] false) Go.Value.nilFunc Try.t97 := ⟨Try.underlying97, Try.zeroValue97, rfl⟩
instance ty98 : Ty Try.prog 98 (Go.TypeDesc.func #[30, 3] #[4] false) Go.Value.nilFunc Try.t98 := ⟨Try.underlying98, Try.zeroValue98, rfl⟩
instance ty99 : Ty Try.prog 99 (Go.TypeDesc.int Go.IntKind.u32) (Go.Value.int Go.IntKind.u32 0) Try.t99 := ⟨Try.underlying99, Try.zeroValue99, rfl⟩
instance ty100 : Ty Try.prog 100 (Go.TypeDesc.tuple #[99, 99]) (Go.Value.tuple #[Go.Value.int Go.IntKind.u32 0, Go.Value.int Go.IntKind.u32 0]) Try.t100 := ⟨Try.underlying100, Try.zeroValue100, rfl⟩
instance ty101 : Ty Try.prog 101 (Go.TypeDesc.func #[99, 99] #[99, 99] false) Go.Value.nilFunc Try.t101 := ⟨Try.underlying101, Try.zeroValue101, rfl⟩
instance ty102 : Ty Try.prog 102 (Go.TypeDesc.int Go.IntKind.u64) (Go.Value.int Go.IntKind.u64 0) Try.t102 := ⟨Try.underlying102, Try.zeroValue102, rfl⟩
instance ty103 : Ty Try.prog 103 (Go.TypeDesc.tuple #[102, 102]) (Go.Value.tuple #[Go.Value.int Go.IntKind.u64 0, Go.Value.int Go.IntKind.u64 0]) Try.t103 := ⟨Try.underlying103, Try.zeroValue103, rfl⟩
instance ty104 : Ty Try.prog 104 (Go.TypeDesc.func #[102, 102] #[102, 102] false) Go.Value.nilFunc Try.t104 := ⟨Try.underlying104, Try.zeroValue104, rfl⟩
instance ty105 : Ty Try.prog 105 (Go.TypeDesc.slice 109) (Go.Value.slice none 0 0) Try.t105 := ⟨Try.underlying105, Try.zeroValue105, rfl⟩
instance ty106 : Ty Try.prog 106 (Go.TypeDesc.struct #[{ name := "Owner", type := 30, offset := 0, embedded := false, tag := "", pkgPath := "", byteOffset := 0 }, { name := "Depth", type := 30, offset := 1, embedded := false, tag := "", pkgPath := "", byteOffset := 24 }, { name := "T", type := 105, offset := 2, embedded := false, tag := "", pkgPath := "", byteOffset := 48 }, { name := "Releases", type := 3, offset := 3, embedded := false, tag := "", pkgPath := "", byteOffset := 72 }]) (Go.Value.agg #[Go.Value.slice none 0 0, Go.Value.slice none 0 0, Go.Value.slice none 0 0, Go.Value.int Go.IntKind.i64 0]) Try.t106 := ⟨Try.underlying106, Try.zeroValue106, rfl⟩
instance ty107 : Ty Try.prog 107 (Go.TypeDesc.struct #[{ name := "Owner", type := 30, offset := 0, embedded := false, tag := "", pkgPath := "", byteOffset := 0 }, { name := "Depth", type := 30, offset := 1, embedded := false, tag := "", pkgPath := "", byteOffset := 24 }, { name := "T", type := 105, offset := 2, embedded := false, tag := "", pkgPath := "", byteOffset := 48 }, { name := "Releases", type := 3, offset := 3, embedded := false, tag := "", pkgPath := "", byteOffset := 72 }]) (Go.Value.agg #[Go.Value.slice none 0 0, Go.Value.slice none 0 0, Go.Value.slice none 0 0, Go.Value.int Go.IntKind.i64 0]) Try.t107 := ⟨Try.underlying107, Try.zeroValue107, rfl⟩
instance ty108 : Ty Try.prog 108 (Go.TypeDesc.struct #[{ name := "Calls", type := 3, offset := 0, embedded := false, tag := "", pkgPath := "", byteOffset := 0 }, { name := "Open", type := 4, offset := 1, embedded := false, tag := "", pkgPath := "", byteOffset := 8 }, { name := "Call", type := 59, offset := 2, embedded := false, tag := "", pkgPath := "", byteOffset := 16 }, { name := "Far", type := 3, offset := 5, embedded := false, tag := "", pkgPath := "", byteOffset := 40 }, { name := "Res", type := 35, offset := 6, embedded := false, tag := "", pkgPath := "", byteOffset := 48 }, { name := "Flag", type := 4, offset := 8, embedded := false, tag := "", pkgPath := "", byteOffset := 64 }, { name := "Saved", type := 3, offset := 9, embedded := false, tag := "", pkgPath := "", byteOffset := 72 }, { name := "Since", type := 3, offset := 10, embedded := false, tag := "", pkgPath := "", byteOffset := 80 }]) (Go.Value.agg #[Go.Value.int Go.IntKind.i64 0, Go.Value.bool false, Go.Value.int Go.IntKind.i64 0, Go.Value.int Go.IntKind.i64 0, Go.Value.int Go.IntKind.i64 0, Go.Value.int Go.IntKind.i64 0, Go.Value.int Go.IntKind.i64 0, Go.Value.int Go.IntKind.i64 0, Go.Value.bool false, Go.Value.int Go.IntKind.i64 0, Go.Value.int Go.IntKind.i64 0]) Try.t108 := ⟨Try.underlying108, Try.zeroValue108, rfl⟩
instance ty109 : Ty Try.prog 109 (Go.TypeDesc.struct #[{ name := "Calls", type := 3, offset := 0, embedded := false, tag := "", pkgPath := "", byteOffset := 0 }, { name := "Open", type := 4, offset := 1, embedded := false, tag := "", pkgPath := "", byteOffset := 8 }, { name := "Call", type := 59, offset := 2, embedded := false, tag := "", pkgPath := "", byteOffset := 16 }, { name := "Far", type := 3, offset := 5, embedded := false, tag := "", pkgPath := "", byteOffset := 40 }, { name := "Res", type := 35, offset := 6, embedded := false, tag := "", pkgPath := "", byteOffset := 48 }, { name := "Flag", type := 4, offset := 8, embedded := false, tag := "", pkgPath := "", byteOffset := 64 }, { name := "Saved", type := 3, offset := 9, embedded := false, tag := "", pkgPath := "", byteOffset := 72 }, { name := "Since", type := 3, offset := 10, embedded := false, tag := "", pkgPath := "", byteOffset := 80 }]) (Go.Value.agg #[Go.Value.int Go.IntKind.i64 0, Go.Value.bool false, Go.Value.int Go.IntKind.i64 0, Go.Value.int Go.IntKind.i64 0, Go.Value.int Go.IntKind.i64 0, Go.Value.int Go.IntKind.i64 0, Go.Value.int Go.IntKind.i64 0, Go.Value.int Go.IntKind.i64 0, Go.Value.bool false, Go.Value.int Go.IntKind.i64 0, Go.Value.int Go.IntKind.i64 0]) Try.t109 := ⟨Try.underlying109, Try.zeroValue109, rfl⟩
instance ty110 : Ty Try.prog 110 (Go.TypeDesc.func #[3] #[31] false) Go.Value.nilFunc Try.t110 := ⟨Try.underlying110, Try.zeroValue110, rfl⟩
instance ty111 : Ty Try.prog 111 (Go.TypeDesc.func #[] #[87] false) Go.Value.nilFunc Try.t111 := ⟨Try.underlying111, Try.zeroValue111, rfl⟩
instance tyB7 : TyB Try.prog 7 (fun i => nth [(0, 1), (1, 1), (2, 1), (3, 1)] i) [Go.Value.int Go.IntKind.i64 0, Go.Value.int Go.IntKind.i64 0, Go.Value.bool false, Go.Value.int Go.IntKind.u8 0] := tyB_struct' Try.underlying7 Try.zeroValue7 rfl
instance tyB8 : TyB Try.prog 8 (fun i => nth [(0, 1), (1, 1), (2, 1), (3, 1)] i) [Go.Value.int Go.IntKind.i64 0, Go.Value.int Go.IntKind.i64 0, Go.Value.bool false, Go.Value.int Go.IntKind.u8 0] := tyB_struct' Try.underlying8 Try.zeroValue8 rfl
instance tyB13 : TyB Try.prog 13 (fun i => nth [(0, 1), (1, 1)] i) [Go.Value.string { data := #[] }, Go.Value.int Go.IntKind.u64 0] := tyB_struct' Try.underlying13 Try.zeroValue13 rfl
instance tyB14 : TyB Try.prog 14 (fun i => nth [(0, 1), (1, 1)] i) [Go.Value.string { data := #[] }, Go.Value.int Go.IntKind.u64 0] := tyB_struct' Try.underlying14 Try.zeroValue14 rfl
instance tyB18 : TyB Try.prog 18 (fun i => nth [(0, 1)] i) [Go.Value.pointer none] := tyB_struct' Try.underlying18 Try.zeroValue18 rfl
instance tyB19 : TyB Try.prog 19 (fun i => nth [(0, 1)] i) [Go.Value.pointer none] := tyB_struct' Try.underlying19 Try.zeroValue19 rfl
instance tyB23 : TyB Try.prog 23 (fun i => nth [(0, 1), (1, 1), (2, 1)] i) [Go.Value.int Go.IntKind.u8 0, Go.Value.int Go.IntKind.u8 0, Go.Value.slice none 0 0] := tyB_struct' Try.underlying23 Try.zeroValue23 rfl
instance tyB24 : TyB Try.prog 24 (fun i => nth [(0, 1), (1, 1), (2, 1)] i) [Go.Value.int Go.IntKind.u8 0, Go.Value.int Go.IntKind.u8 0, Go.Value.slice none 0 0] := tyB_struct' Try.underlying24 Try.zeroValue24 rfl
instance tyB34 : TyB Try.prog 34 (fun i => nth [(0, 1), (1, 1)] i) [Go.Value.int Go.IntKind.i64 0, Go.Value.int Go.IntKind.i64 0] := tyB_struct' Try.underlying34 Try.zeroValue34 rfl
instance tyB35 : TyB Try.prog 35 (fun i => nth [(0, 1), (1, 1)] i) [Go.Value.int Go.IntKind.i64 0, Go.Value.int Go.IntKind.i64 0] := tyB_struct' Try.underlying35 Try.zeroValue35 rfl
instance tyB36 : TyB Try.prog 36 (fun i => nth [(0, 1), (1, 1), (2, 1), (3, 1), (4, 1), (5, 1), (6, 2)] i) [Go.Value.int Go.IntKind.i64 0, Go.Value.int Go.IntKind.i64 0, Go.Value.int Go.IntKind.i64 0, Go.Value.int Go.IntKind.i64 0, Go.Value.int Go.IntKind.i64 0, Go.Value.int Go.IntKind.i64 0, Go.Value.int Go.IntKind.i64 0, Go.Value.int Go.IntKind.i64 0] := tyB_struct' Try.underlying36 Try.zeroValue36 rfl
instance tyB37 : TyB Try.prog 37 (fun i => nth [(0, 1), (1, 1), (2, 1), (3, 1), (4, 1), (5, 1), (6, 2)] i) [Go.Value.int Go.IntKind.i64 0, Go.Value.int Go.IntKind.i64 0, Go.Value.int Go.IntKind.i64 0, Go.Value.int Go.IntKind.i64 0, Go.Value.int Go.IntKind.i64 0, Go.Value.int Go.IntKind.i64 0, Go.Value.int Go.IntKind.i64 0, Go.Value.int Go.IntKind.i64 0] := tyB_struct' Try.underlying37 Try.zeroValue37 rfl
instance tyB39 : TyB Try.prog 39 (fun i => nth [(0, 1), (1, 1), (2, 1)] i) [Go.Value.int Go.IntKind.i64 0, Go.Value.int Go.IntKind.i64 0, Go.Value.slice none 0 0] := tyB_struct' Try.underlying39 Try.zeroValue39 rfl
instance tyB40 : TyB Try.prog 40 (fun i => nth [(0, 1), (1, 1), (2, 1)] i) [Go.Value.int Go.IntKind.i64 0, Go.Value.int Go.IntKind.i64 0, Go.Value.slice none 0 0] := tyB_struct' Try.underlying40 Try.zeroValue40 rfl
instance tyB51 : TyB Try.prog 51 (fun i => nth [(0, 1), (1, 1), (2, 1)] i) [Go.Value.int Go.IntKind.u8 0, Go.Value.int Go.IntKind.u8 0, Go.Value.int Go.IntKind.i8 0] := tyB_struct' Try.underlying51 Try.zeroValue51 rfl
instance tyB52 : TyB Try.prog 52 (fun i => nth [(0, 1), (1, 1), (2, 1)] i) [Go.Value.int Go.IntKind.u8 0, Go.Value.int Go.IntKind.u8 0, Go.Value.int Go.IntKind.i8 0] := tyB_struct' Try.underlying52 Try.zeroValue52 rfl
instance tyB58 : TyB Try.prog 58 (fun i => nth [(0, 1), (1, 1), (2, 1)] i) [Go.Value.int Go.IntKind.i64 0, Go.Value.int Go.IntKind.i64 0, Go.Value.int Go.IntKind.i64 0] := tyB_struct' Try.underlying58 Try.zeroValue58 rfl
instance tyB59 : TyB Try.prog 59 (fun i => nth [(0, 1), (1, 1), (2, 1)] i) [Go.Value.int Go.IntKind.i64 0, Go.Value.int Go.IntKind.i64 0, Go.Value.int Go.IntKind.i64 0] := tyB_struct' Try.underlying59 Try.zeroValue59 rfl
instance tyB65 : TyB Try.prog 65 (fun i => nth [(0, 1), (1, 1)] i) [Go.Value.int Go.IntKind.i64 0, Go.Value.int Go.IntKind.i64 0] := tyB_struct' Try.underlying65 Try.zeroValue65 rfl
instance tyB66 : TyB Try.prog 66 (fun i => nth [(0, 1), (1, 1)] i) [Go.Value.int Go.IntKind.i64 0, Go.Value.int Go.IntKind.i64 0] := tyB_struct' Try.underlying66 Try.zeroValue66 rfl
instance tyB67 : TyB Try.prog 67 (fun i => nth [(0, 1), (1, 1), (2, 1)] i) [Go.Value.slice none 0 0, Go.Value.slice none 0 0, Go.Value.int Go.IntKind.i64 0] := tyB_struct' Try.underlying67 Try.zeroValue67 rfl
instance tyB68 : TyB Try.prog 68 (fun i => nth [(0, 1), (1, 1), (2, 1)] i) [Go.Value.slice none 0 0, Go.Value.slice none 0 0, Go.Value.int Go.IntKind.i64 0] := tyB_struct' Try.underlying68 Try.zeroValue68 rfl
instance tyB72 : TyB Try.prog 72 (fun i => nth [(0, 1), (1, 1), (2, 1)] i) [Go.Value.pointer none, Go.Value.int Go.IntKind.i64 0, Go.Value.bool false] := tyB_struct' Try.underlying72 Try.zeroValue72 rfl
instance tyB73 : TyB Try.prog 73 (fun i => nth [(0, 1), (1, 1), (2, 1)] i) [Go.Value.pointer none, Go.Value.int Go.IntKind.i64 0, Go.Value.bool false] := tyB_struct' Try.underlying73 Try.zeroValue73 rfl
instance tyB82 : TyB Try.prog 82 (fun i => nth [(0, 3), (3, 1), (4, 1), (5, 1), (6, 2)] i) [Go.Value.int Go.IntKind.i64 0, Go.Value.int Go.IntKind.i64 0, Go.Value.int Go.IntKind.i64 0, Go.Value.int Go.IntKind.i64 0, Go.Value.int Go.IntKind.i64 0, Go.Value.int Go.IntKind.i64 0, Go.Value.int Go.IntKind.i64 0, Go.Value.int Go.IntKind.i64 0] := tyB_struct' Try.underlying82 Try.zeroValue82 rfl
instance tyB83 : TyB Try.prog 83 (fun i => nth [(0, 3), (3, 1), (4, 1), (5, 1), (6, 2)] i) [Go.Value.int Go.IntKind.i64 0, Go.Value.int Go.IntKind.i64 0, Go.Value.int Go.IntKind.i64 0, Go.Value.int Go.IntKind.i64 0, Go.Value.int Go.IntKind.i64 0, Go.Value.int Go.IntKind.i64 0, Go.Value.int Go.IntKind.i64 0, Go.Value.int Go.IntKind.i64 0] := tyB_struct' Try.underlying83 Try.zeroValue83 rfl
instance tyB94 : TyB Try.prog 94 (fun i => nth [(0, 1), (1, 1), (2, 1), (3, 8), (11, 1)] i) [Go.Value.pointer none, Go.Value.pointer none, Go.Value.pointer none, Go.Value.int Go.IntKind.i64 0, Go.Value.int Go.IntKind.i64 0, Go.Value.int Go.IntKind.i64 0, Go.Value.int Go.IntKind.i64 0, Go.Value.int Go.IntKind.i64 0, Go.Value.int Go.IntKind.i64 0, Go.Value.int Go.IntKind.i64 0, Go.Value.int Go.IntKind.i64 0, Go.Value.bool false] := tyB_struct' Try.underlying94 Try.zeroValue94 rfl
instance tyB95 : TyB Try.prog 95 (fun i => nth [(0, 1), (1, 1), (2, 1), (3, 8), (11, 1)] i) [Go.Value.pointer none, Go.Value.pointer none, Go.Value.pointer none, Go.Value.int Go.IntKind.i64 0, Go.Value.int Go.IntKind.i64 0, Go.Value.int Go.IntKind.i64 0, Go.Value.int Go.IntKind.i64 0, Go.Value.int Go.IntKind.i64 0, Go.Value.int Go.IntKind.i64 0, Go.Value.int Go.IntKind.i64 0, Go.Value.int Go.IntKind.i64 0, Go.Value.bool false] := tyB_struct' Try.underlying95 Try.zeroValue95 rfl
instance tyB106 : TyB Try.prog 106 (fun i => nth [(0, 1), (1, 1), (2, 1), (3, 1)] i) [Go.Value.slice none 0 0, Go.Value.slice none 0 0, Go.Value.slice none 0 0, Go.Value.int Go.IntKind.i64 0] := tyB_struct' Try.underlying106 Try.zeroValue106 rfl
instance tyB107 : TyB Try.prog 107 (fun i => nth [(0, 1), (1, 1), (2, 1), (3, 1)] i) [Go.Value.slice none 0 0, Go.Value.slice none 0 0, Go.Value.slice none 0 0, Go.Value.int Go.IntKind.i64 0] := tyB_struct' Try.underlying107 Try.zeroValue107 rfl
instance tyB108 : TyB Try.prog 108 (fun i => nth [(0, 1), (1, 1), (2, 3), (5, 1), (6, 2), (8, 1), (9, 1), (10, 1)] i) [Go.Value.int Go.IntKind.i64 0, Go.Value.bool false, Go.Value.int Go.IntKind.i64 0, Go.Value.int Go.IntKind.i64 0, Go.Value.int Go.IntKind.i64 0, Go.Value.int Go.IntKind.i64 0, Go.Value.int Go.IntKind.i64 0, Go.Value.int Go.IntKind.i64 0, Go.Value.bool false, Go.Value.int Go.IntKind.i64 0, Go.Value.int Go.IntKind.i64 0] := tyB_struct' Try.underlying108 Try.zeroValue108 rfl
instance tyB109 : TyB Try.prog 109 (fun i => nth [(0, 1), (1, 1), (2, 3), (5, 1), (6, 2), (8, 1), (9, 1), (10, 1)] i) [Go.Value.int Go.IntKind.i64 0, Go.Value.bool false, Go.Value.int Go.IntKind.i64 0, Go.Value.int Go.IntKind.i64 0, Go.Value.int Go.IntKind.i64 0, Go.Value.int Go.IntKind.i64 0, Go.Value.int Go.IntKind.i64 0, Go.Value.int Go.IntKind.i64 0, Go.Value.bool false, Go.Value.int Go.IntKind.i64 0, Go.Value.int Go.IntKind.i64 0] := tyB_struct' Try.underlying109 Try.zeroValue109 rfl
instance : TyF Try.prog 7 0 0 := tyF_mk (i := Try.t2) Try.underlying7 rfl rfl rfl rfl
instance : TyF Try.prog 7 1 1 := tyF_mk (i := Try.t3) Try.underlying7 rfl rfl rfl rfl
instance : TyF Try.prog 7 2 2 := tyF_mk (i := Try.t4) Try.underlying7 rfl rfl rfl rfl
instance : TyF Try.prog 7 3 3 := tyF_mk (i := Try.t6) Try.underlying7 rfl rfl rfl rfl
instance : TyF Try.prog 8 0 0 := tyF_mk (i := Try.t2) Try.underlying8 rfl rfl rfl rfl
instance : TyF Try.prog 8 1 1 := tyF_mk (i := Try.t3) Try.underlying8 rfl rfl rfl rfl
instance : TyF Try.prog 8 2 2 := tyF_mk (i := Try.t4) Try.underlying8 rfl rfl rfl rfl
instance : TyF Try.prog 8 3 3 := tyF_mk (i := Try.t6) Try.underlying8 rfl rfl rfl rfl
instance : TyF Try.prog 13 0 0 := tyF_mk (i := Try.t9) Try.underlying13 rfl rfl rfl rfl
instance : TyF Try.prog 13 1 1 := tyF_mk (i := Try.t12) Try.underlying13 rfl rfl rfl rfl
instance : TyF Try.prog 14 0 0 := tyF_mk (i := Try.t9) Try.underlying14 rfl rfl rfl rfl
instance : TyF Try.prog 14 1 1 := tyF_mk (i := Try.t12) Try.underlying14 rfl rfl rfl rfl
instance : TyF Try.prog 18 0 0 := tyF_mk (i := Try.t17) Try.underlying18 rfl rfl rfl rfl
instance : TyF Try.prog 19 0 0 := tyF_mk (i := Try.t17) Try.underlying19 rfl rfl rfl rfl
instance : TyF Try.prog 23 0 0 := tyF_mk (i := Try.t5) Try.underlying23 rfl rfl rfl rfl
instance : TyF Try.prog 23 1 1 := tyF_mk (i := Try.t5) Try.underlying23 rfl rfl rfl rfl
instance : TyF Try.prog 23 2 2 := tyF_mk (i := Try.t22) Try.underlying23 rfl rfl rfl rfl
instance : TyF Try.prog 24 0 0 := tyF_mk (i := Try.t5) Try.underlying24 rfl rfl rfl rfl
instance : TyF Try.prog 24 1 1 := tyF_mk (i := Try.t5) Try.underlying24 rfl rfl rfl rfl
instance : TyF Try.prog 24 2 2 := tyF_mk (i := Try.t22) Try.underlying24 rfl rfl rfl rfl
instance : TyF Try.prog 34 0 0 := tyF_mk (i := Try.t33) Try.underlying34 rfl rfl rfl rfl
instance : TyF Try.prog 34 1 1 := tyF_mk (i := Try.t3) Try.underlying34 rfl rfl rfl rfl
instance : TyF Try.prog 35 0 0 := tyF_mk (i := Try.t33) Try.underlying35 rfl rfl rfl rfl
instance : TyF Try.prog 35 1 1 := tyF_mk (i := Try.t3) Try.underlying35 rfl rfl rfl rfl
instance : TyF Try.prog 36 0 0 := tyF_mk (i := Try.t3) Try.underlying36 rfl rfl rfl rfl
instance : TyF Try.prog 36 1 1 := tyF_mk (i := Try.t3) Try.underlying36 rfl rfl rfl rfl
instance : TyF Try.prog 36 2 2 := tyF_mk (i := Try.t3) Try.underlying36 rfl rfl rfl rfl
instance : TyF Try.prog 36 3 3 := tyF_mk (i := Try.t3) Try.underlying36 rfl rfl rfl rfl
instance : TyF Try.prog 36 4 4 := tyF_mk (i := Try.t3) Try.underlying36 rfl rfl rfl rfl
instance : TyF Try.prog 36 5 5 := tyF_mk (i := Try.t3) Try.underlying36 rfl rfl rfl rfl
instance : TyF Try.prog 36 6 6 := tyF_mk (i := Try.t35) Try.underlying36 rfl rfl rfl rfl
instance : TyF Try.prog 37 0 0 := tyF_mk (i := Try.t3) Try.underlying37 rfl rfl rfl rfl
instance : TyF Try.prog 37 1 1 := tyF_mk (i := Try.t3) Try.underlying37 rfl rfl rfl rfl
instance : TyF Try.prog 37 2 2 := tyF_mk (i := Try.t3) Try.underlying37 rfl rfl rfl rfl
instance : TyF Try.prog 37 3 3 := tyF_mk (i := Try.t3) Try.underlying37 rfl rfl rfl rfl
instance : TyF Try.prog 37 4 4 := tyF_mk (i := Try.t3) Try.underlying37 rfl rfl rfl rfl
instance : TyF Try.prog 37 5 5 := tyF_mk (i := Try.t3) Try.underlying37 rfl rfl rfl rfl
instance : TyF Try.prog 37 6 6 := tyF_mk (i := Try.t35) Try.underlying37 rfl rfl rfl rfl
instance : TyF Try.prog 39 0 0 := tyF_mk (i := Try.t3) Try.underlying39 rfl rfl rfl rfl
instance : TyF Try.prog 39 1 1 := tyF_mk (i := Try.t3) Try.underlying39 rfl rfl rfl rfl
instance : TyF Try.prog 39 2 2 := tyF_mk (i := Try.t30) Try.underlying39 rfl rfl rfl rfl
instance : TyF Try.prog 40 0 0 := tyF_mk (i := Try.t3) Try.underlying40 rfl rfl rfl rfl
instance : TyF Try.prog 40 1 1 := tyF_mk (i := Try.t3) Try.underlying40 rfl rfl rfl rfl
instance : TyF Try.prog 40 2 2 := tyF_mk (i := Try.t30) Try.underlying40 rfl rfl rfl rfl
instance : TyF Try.prog 51 0 0 := tyF_mk (i := Try.t5) Try.underlying51 rfl rfl rfl rfl
instance : TyF Try.prog 51 1 1 := tyF_mk (i := Try.t5) Try.underlying51 rfl rfl rfl rfl
instance : TyF Try.prog 51 2 2 := tyF_mk (i := Try.t50) Try.underlying51 rfl rfl rfl rfl
instance : TyF Try.prog 52 0 0 := tyF_mk (i := Try.t5) Try.underlying52 rfl rfl rfl rfl
instance : TyF Try.prog 52 1 1 := tyF_mk (i := Try.t5) Try.underlying52 rfl rfl rfl rfl
instance : TyF Try.prog 52 2 2 := tyF_mk (i := Try.t50) Try.underlying52 rfl rfl rfl rfl
instance : TyF Try.prog 58 0 0 := tyF_mk (i := Try.t3) Try.underlying58 rfl rfl rfl rfl
instance : TyF Try.prog 58 1 1 := tyF_mk (i := Try.t3) Try.underlying58 rfl rfl rfl rfl
instance : TyF Try.prog 58 2 2 := tyF_mk (i := Try.t3) Try.underlying58 rfl rfl rfl rfl
instance : TyF Try.prog 59 0 0 := tyF_mk (i := Try.t3) Try.underlying59 rfl rfl rfl rfl
instance : TyF Try.prog 59 1 1 := tyF_mk (i := Try.t3) Try.underlying59 rfl rfl rfl rfl
instance : TyF Try.prog 59 2 2 := tyF_mk (i := Try.t3) Try.underlying59 rfl rfl rfl rfl
instance : TyF Try.prog 65 0 0 := tyF_mk (i := Try.t3) Try.underlying65 rfl rfl rfl rfl
instance : TyF Try.prog 65 1 1 := tyF_mk (i := Try.t3) Try.underlying65 rfl rfl rfl rfl
instance : TyF Try.prog 66 0 0 := tyF_mk (i := Try.t3) Try.underlying66 rfl rfl rfl rfl
instance : TyF Try.prog 66 1 1 := tyF_mk (i := Try.t3) Try.underlying66 rfl rfl rfl rfl
instance : TyF Try.prog 67 0 0 := tyF_mk (i := Try.t62) Try.underlying67 rfl rfl rfl rfl
instance : TyF Try.prog 67 1 1 := tyF_mk (i := Try.t63) Try.underlying67 rfl rfl rfl rfl
instance : TyF Try.prog 67 2 2 := tyF_mk (i := Try.t3) Try.underlying67 rfl rfl rfl rfl
instance : TyF Try.prog 68 0 0 := tyF_mk (i := Try.t62) Try.underlying68 rfl rfl rfl rfl
instance : TyF Try.prog 68 1 1 := tyF_mk (i := Try.t63) Try.underlying68 rfl rfl rfl rfl
instance : TyF Try.prog 68 2 2 := tyF_mk (i := Try.t3) Try.underlying68 rfl rfl rfl rfl
instance : TyF Try.prog 72 0 0 := tyF_mk (i := Try.t71) Try.underlying72 rfl rfl rfl rfl
instance : TyF Try.prog 72 1 1 := tyF_mk (i := Try.t3) Try.underlying72 rfl rfl rfl rfl
instance : TyF Try.prog 72 2 2 := tyF_mk (i := Try.t4) Try.underlying72 rfl rfl rfl rfl
instance : TyF Try.prog 73 0 0 := tyF_mk (i := Try.t71) Try.underlying73 rfl rfl rfl rfl
instance : TyF Try.prog 73 1 1 := tyF_mk (i := Try.t3) Try.underlying73 rfl rfl rfl rfl
instance : TyF Try.prog 73 2 2 := tyF_mk (i := Try.t4) Try.underlying73 rfl rfl rfl rfl
instance : TyF Try.prog 82 0 0 := tyF_mk (i := Try.t59) Try.underlying82 rfl rfl rfl rfl
instance : TyF Try.prog 82 1 3 := tyF_mk (i := Try.t3) Try.underlying82 rfl rfl rfl rfl
instance : TyF Try.prog 82 2 4 := tyF_mk (i := Try.t3) Try.underlying82 rfl rfl rfl rfl
instance : TyF Try.prog 82 3 5 := tyF_mk (i := Try.t3) Try.underlying82 rfl rfl rfl rfl
instance : TyF Try.prog 82 4 6 := tyF_mk (i := Try.t35) Try.underlying82 rfl rfl rfl rfl
instance : TyF Try.prog 83 0 0 := tyF_mk (i := Try.t59) Try.underlying83 rfl rfl rfl rfl
instance : TyF Try.prog 83 1 3 := tyF_mk (i := Try.t3) Try.underlying83 rfl rfl rfl rfl
instance : TyF Try.prog 83 2 4 := tyF_mk (i := Try.t3) Try.underlying83 rfl rfl rfl rfl
instance : TyF Try.prog 83 3 5 := tyF_mk (i := Try.t3) Try.underlying83 rfl rfl rfl rfl
instance : TyF Try.prog 83 4 6 := tyF_mk (i := Try.t35) Try.underlying83 rfl rfl rfl rfl
instance : TyF Try.prog 94 0 0 := tyF_mk (i := Try.t28) Try.underlying94 rfl rfl rfl rfl
instance : TyF Try.prog 94 1 1 := tyF_mk (i := Try.t70) Try.underlying94 rfl rfl rfl rfl
instance : TyF Try.prog 94 2 2 := tyF_mk (i := Try.t93) Try.underlying94 rfl rfl rfl rfl
instance : TyF Try.prog 94 3 3 := tyF_mk (i := Try.t37) Try.underlying94 rfl rfl rfl rfl
instance : TyF Try.prog 94 4 11 := tyF_mk (i := Try.t4) Try.underlying94 rfl rfl rfl rfl
instance : TyF Try.prog 95 0 0 := tyF_mk (i := Try.t28) Try.underlying95 rfl rfl rfl rfl
instance : TyF Try.prog 95 1 1 := tyF_mk (i := Try.t70) Try.underlying95 rfl rfl rfl rfl
instance : TyF Try.prog 95 2 2 := tyF_mk (i := Try.t93) Try.underlying95 rfl rfl rfl rfl
instance : TyF Try.prog 95 3 3 := tyF_mk (i := Try.t37) Try.underlying95 rfl rfl rfl rfl
instance : TyF Try.prog 95 4 11 := tyF_mk (i := Try.t4) Try.underlying95 rfl rfl rfl rfl
instance : TyF Try.prog 106 0 0 := tyF_mk (i := Try.t30) Try.underlying106 rfl rfl rfl rfl
instance : TyF Try.prog 106 1 1 := tyF_mk (i := Try.t30) Try.underlying106 rfl rfl rfl rfl
instance : TyF Try.prog 106 2 2 := tyF_mk (i := Try.t105) Try.underlying106 rfl rfl rfl rfl
instance : TyF Try.prog 106 3 3 := tyF_mk (i := Try.t3) Try.underlying106 rfl rfl rfl rfl
instance : TyF Try.prog 107 0 0 := tyF_mk (i := Try.t30) Try.underlying107 rfl rfl rfl rfl
instance : TyF Try.prog 107 1 1 := tyF_mk (i := Try.t30) Try.underlying107 rfl rfl rfl rfl
instance : TyF Try.prog 107 2 2 := tyF_mk (i := Try.t105) Try.underlying107 rfl rfl rfl rfl
instance : TyF Try.prog 107 3 3 := tyF_mk (i := Try.t3) Try.underlying107 rfl rfl rfl rfl
instance : TyF Try.prog 108 0 0 := tyF_mk (i := Try.t3) Try.underlying108 rfl rfl rfl rfl
instance : TyF Try.prog 108 1 1 := tyF_mk (i := Try.t4) Try.underlying108 rfl rfl rfl rfl
instance : TyF Try.prog 108 2 2 := tyF_mk (i := Try.t59) Try.underlying108 rfl rfl rfl rfl
instance : TyF Try.prog 108 3 5 := tyF_mk (i := Try.t3) Try.underlying108 rfl rfl rfl rfl
instance : TyF Try.prog 108 4 6 := tyF_mk (i := Try.t35) Try.underlying108 rfl rfl rfl rfl
instance : TyF Try.prog 108 5 8 := tyF_mk (i := Try.t4) Try.underlying108 rfl rfl rfl rfl
instance : TyF Try.prog 108 6 9 := tyF_mk (i := Try.t3) Try.underlying108 rfl rfl rfl rfl
instance : TyF Try.prog 108 7 10 := tyF_mk (i := Try.t3) Try.underlying108 rfl rfl rfl rfl
instance : TyF Try.prog 109 0 0 := tyF_mk (i := Try.t3) Try.underlying109 rfl rfl rfl rfl
instance : TyF Try.prog 109 1 1 := tyF_mk (i := Try.t4) Try.underlying109 rfl rfl rfl rfl
instance : TyF Try.prog 109 2 2 := tyF_mk (i := Try.t59) Try.underlying109 rfl rfl rfl rfl
instance : TyF Try.prog 109 3 5 := tyF_mk (i := Try.t3) Try.underlying109 rfl rfl rfl rfl
instance : TyF Try.prog 109 4 6 := tyF_mk (i := Try.t35) Try.underlying109 rfl rfl rfl rfl
instance : TyF Try.prog 109 5 8 := tyF_mk (i := Try.t4) Try.underlying109 rfl rfl rfl rfl
instance : TyF Try.prog 109 6 9 := tyF_mk (i := Try.t3) Try.underlying109 rfl rfl rfl rfl
instance : TyF Try.prog 109 7 10 := tyF_mk (i := Try.t3) Try.underlying109 rfl rfl rfl rfl
instance : TyS Try.prog 0 := tyS_mk Try.underlying0 rfl
instance : TyS Try.prog 1 := tyS_mk Try.underlying1 rfl
instance : TyS Try.prog 2 := tyS_mk Try.underlying2 rfl
instance : TyS Try.prog 3 := tyS_mk Try.underlying3 rfl
instance : TyS Try.prog 4 := tyS_mk Try.underlying4 rfl
instance : TyS Try.prog 5 := tyS_mk Try.underlying5 rfl
instance : TyS Try.prog 6 := tyS_mk Try.underlying6 rfl
instance : TyA Try.prog 7 4 := tyA_mk (i := Try.t7) Try.underlying7 rfl rfl rfl
instance : TyA Try.prog 8 4 := tyA_mk (i := Try.t8) Try.underlying8 rfl rfl rfl
instance : TyS Try.prog 9 := tyS_mk Try.underlying9 rfl
instance : TyS Try.prog 10 := tyS_mk Try.underlying10 rfl
instance : TyS Try.prog 11 := tyS_mk Try.underlying11 rfl
instance : TyS Try.prog 12 := tyS_mk Try.underlying12 rfl
instance : TyA Try.prog 13 2 := tyA_mk (i := Try.t13) Try.underlying13 rfl rfl rfl
instance : TyA Try.prog 14 2 := tyA_mk (i := Try.t14) Try.underlying14 rfl rfl rfl
instance : TyS Try.prog 15 := tyS_mk Try.underlying15 rfl
instance : TyS Try.prog 16 := tyS_mk Try.underlying16 rfl
instance : TyS Try.prog 17 := tyS_mk Try.underlying17 rfl
instance : TyA Try.prog 18 1 := tyA_mk (i := Try.t18) Try.underlying18 rfl rfl rfl
instance : TyA Try.prog 19 1 := tyA_mk (i := Try.t19) Try.underlying19 rfl rfl rfl
instance : TyS Try.prog 20 := tyS_mk Try.underlying20 rfl
instance : TyS Try.prog 21 := tyS_mk Try.underlying21 rfl
instance : TyS Try.prog 22 := tyS_mk Try.underlying22 rfl
instance : TyE Try.prog 22 5 1 := tyE_mk (i := Try.t5) Try.underlying22 rfl rfl
instance : TyG Try.prog 22 5 1 1 := tyG_mk (i := Try.t5) (z := (Go.Value.int Go.IntKind.u8 0)) Try.underlying22 rfl rfl rfl rfl rfl
instance : TyA Try.prog 23 3 := tyA_mk (i := Try.t23) Try.underlying23 rfl rfl rfl
instance : TyA Try.prog 24 3 := tyA_mk (i := Try.t24) Try.underlying24 rfl rfl rfl
instance : TyS Try.prog 25 := tyS_mk Try.underlying25 rfl
instance : TyS Try.prog 26 := tyS_mk Try.underlying26 rfl
instance : TyS Try.prog 27 := tyS_mk Try.underlying27 rfl
instance : TyS Try.prog 28 := tyS_mk Try.underlying28 rfl
instance : TyS Try.prog 29 := tyS_mk Try.underlying29 rfl
instance : TyS Try.prog 30 := tyS_mk Try.underlying30 rfl
instance : TyE Try.prog 30 3 1 := tyE_mk (i := Try.t3) Try.underlying30 rfl rfl
instance : TyG Try.prog 30 3 1 8 := tyG_mk (i := Try.t3) (z := (Go.Value.int Go.IntKind.i64 0)) Try.underlying30 rfl rfl rfl rfl rfl
instance : TyS Try.prog 31 := tyS_mk Try.underlying31 rfl
instance : TyE Try.prog 31 37 8 := tyE_mk (i := Try.t37) Try.underlying31 rfl rfl
instance : TyG Try.prog 31 37 8 64 := tyG_mk (i := Try.t37) (z := (Go.Value.agg #[Go.Value.int Go.IntKind.i64 0, Go.Value.int Go.IntKind.i64 0, Go.Value.int Go.IntKind.i64 0, Go.Value.int Go.IntKind.i64 0, Go.Value.int Go.IntKind.i64 0, Go.Value.int Go.IntKind.i64 0, Go.Value.int Go.IntKind.i64 0, Go.Value.int Go.IntKind.i64 0])) Try.underlying31 rfl rfl rfl rfl rfl
instance : TyS Try.prog 32 := tyS_mk Try.underlying32 rfl
instance : TyS Try.prog 33 := tyS_mk Try.underlying33 rfl
instance : TyA Try.prog 34 2 := tyA_mk (i := Try.t34) Try.underlying34 rfl rfl rfl
instance : TyA Try.prog 35 2 := tyA_mk (i := Try.t35) Try.underlying35 rfl rfl rfl
instance : TyA Try.prog 36 8 := tyA_mk (i := Try.t36) Try.underlying36 rfl rfl rfl
instance : TyA Try.prog 37 8 := tyA_mk (i := Try.t37) Try.underlying37 rfl rfl rfl
instance : TyS Try.prog 38 := tyS_mk Try.underlying38 rfl
instance : TyA Try.prog 39 3 := tyA_mk (i := Try.t39) Try.underlying39 rfl rfl rfl
instance : TyA Try.prog 40 3 := tyA_mk (i := Try.t40) Try.underlying40 rfl rfl rfl
instance : TyS Try.prog 41 := tyS_mk Try.underlying41 rfl
instance : TyS Try.prog 42 := tyS_mk Try.underlying42 rfl
instance : TyA Try.prog 43 6 := tyA_mk (i := Try.t43) Try.underlying43 rfl rfl rfl
instance : TyR Try.prog 43 6 5 1 := tyR_mk (i := Try.t5) Try.underlying43 rfl rfl
instance : TyS Try.prog 44 := tyS_mk Try.underlying44 rfl
instance : TyS Try.prog 45 := tyS_mk Try.underlying45 rfl
instance : TyS Try.prog 46 := tyS_mk Try.underlying46 rfl
instance : TyS Try.prog 47 := tyS_mk Try.underlying47 rfl
instance : TyS Try.prog 48 := tyS_mk Try.underlying48 rfl
instance : TyS Try.prog 49 := tyS_mk Try.underlying49 rfl
instance : TyS Try.prog 50 := tyS_mk Try.underlying50 rfl
instance : TyA Try.prog 51 3 := tyA_mk (i := Try.t51) Try.underlying51 rfl rfl rfl
instance : TyA Try.prog 52 3 := tyA_mk (i := Try.t52) Try.underlying52 rfl rfl rfl
instance : TyS Try.prog 53 := tyS_mk Try.underlying53 rfl
instance : TyS Try.prog 54 := tyS_mk Try.underlying54 rfl
instance : TyS Try.prog 55 := tyS_mk Try.underlying55 rfl
instance : TyS Try.prog 56 := tyS_mk Try.underlying56 rfl
instance : TyS Try.prog 57 := tyS_mk Try.underlying57 rfl
instance : TyA Try.prog 58 3 := tyA_mk (i := Try.t58) Try.underlying58 rfl rfl rfl
instance : TyA Try.prog 59 3 := tyA_mk (i := Try.t59) Try.underlying59 rfl rfl rfl
instance : TyS Try.prog 60 := tyS_mk Try.underlying60 rfl
instance : TyS Try.prog 61 := tyS_mk Try.underlying61 rfl
instance : TyS Try.prog 62 := tyS_mk Try.underlying62 rfl
instance : TyE Try.prog 62 73 3 := tyE_mk (i := Try.t73) Try.underlying62 rfl rfl
instance : TyG Try.prog 62 73 3 24 := tyG_mk (i := Try.t73) (z := (Go.Value.agg #[Go.Value.pointer none, Go.Value.int Go.IntKind.i64 0, Go.Value.bool false])) Try.underlying62 rfl rfl rfl rfl rfl
instance : TyS Try.prog 63 := tyS_mk Try.underlying63 rfl
instance : TyE Try.prog 63 66 2 := tyE_mk (i := Try.t66) Try.underlying63 rfl rfl
instance : TyG Try.prog 63 66 2 16 := tyG_mk (i := Try.t66) (z := (Go.Value.agg #[Go.Value.int Go.IntKind.i64 0, Go.Value.int Go.IntKind.i64 0])) Try.underlying63 rfl rfl rfl rfl rfl
instance : TyS Try.prog 64 := tyS_mk Try.underlying64 rfl
instance : TyA Try.prog 65 2 := tyA_mk (i := Try.t65) Try.underlying65 rfl rfl rfl
instance : TyA Try.prog 66 2 := tyA_mk (i := Try.t66) Try.underlying66 rfl rfl rfl
instance : TyA Try.prog 67 3 := tyA_mk (i := Try.t67) Try.underlying67 rfl rfl rfl
instance : TyA Try.prog 68 3 := tyA_mk (i := Try.t68) Try.underlying68 rfl rfl rfl
instance : TyS Try.prog 69 := tyS_mk Try.underlying69 rfl
instance : TyS Try.prog 70 := tyS_mk Try.underlying70 rfl
instance : TyS Try.prog 71 := tyS_mk Try.underlying71 rfl
instance : TyA Try.prog 72 3 := tyA_mk (i := Try.t72) Try.underlying72 rfl rfl rfl
instance : TyA Try.prog 73 3 := tyA_mk (i := Try.t73) Try.underlying73 rfl rfl rfl
instance : TyS Try.prog 74 := tyS_mk Try.underlying74 rfl
instance : TyS Try.prog 75 := tyS_mk Try.underlying75 rfl
instance : TyS Try.prog 76 := tyS_mk Try.underlying76 rfl
instance : TyS Try.prog 77 := tyS_mk Try.underlying77 rfl
instance : TyS Try.prog 78 := tyS_mk Try.underlying78 rfl
instance : TyS Try.prog 79 := tyS_mk Try.underlying79 rfl
instance : TyS Try.prog 80 := tyS_mk Try.underlying80 rfl
instance : TyS Try.prog 81 := tyS_mk Try.underlying81 rfl
instance : TyA Try.prog 82 8 := tyA_mk (i := Try.t82) Try.underlying82 rfl rfl rfl
instance : TyA Try.prog 83 8 := tyA_mk (i := Try.t83) Try.underlying83 rfl rfl rfl
instance : TyS Try.prog 84 := tyS_mk Try.underlying84 rfl
instance : TyS Try.prog 85 := tyS_mk Try.underlying85 rfl
instance : TyS Try.prog 86 := tyS_mk Try.underlying86 rfl
instance : TyS Try.prog 87 := tyS_mk Try.underlying87 rfl
instance : TyS Try.prog 88 := tyS_mk Try.underlying88 rfl
instance : TyS Try.prog 89 := tyS_mk Try.underlying89 rfl
instance : TyS Try.prog 90 := tyS_mk Try.underlying90 rfl
instance : TyS Try.prog 91 := tyS_mk Try.underlying91 rfl
instance : TyS Try.prog 92 := tyS_mk Try.underlying92 rfl
instance : TyS Try.prog 93 := tyS_mk Try.underlying93 rfl
instance : TyA Try.prog 94 12 := tyA_mk (i := Try.t94) Try.underlying94 rfl rfl rfl
instance : TyA Try.prog 95 12 := tyA_mk (i := Try.t95) Try.underlying95 rfl rfl rfl
instance : TyS Try.prog 96 := tyS_mk Try.underlying96 rfl
instance : TyS Try.prog 97 := tyS_mk Try.underlying97 rfl
instance : TyS Try.prog 98 := tyS_mk Try.underlying98 rfl
instance : TyS Try.prog 99 := tyS_mk Try.underlying99 rfl
instance : TyS Try.prog 100 := tyS_mk Try.underlying100 rfl
instance : TyS Try.prog 101 := tyS_mk Try.underlying101 rfl
instance : TyS Try.prog 102 := tyS_mk Try.underlying102 rfl
instance : TyS Try.prog 103 := tyS_mk Try.underlying103 rfl
instance : TyS Try.prog 104 := tyS_mk Try.underlying104 rfl
instance : TyS Try.prog 105 := tyS_mk Try.underlying105 rfl
instance : TyE Try.prog 105 109 11 := tyE_mk (i := Try.t109) Try.underlying105 rfl rfl
instance : TyG Try.prog 105 109 11 88 := tyG_mk (i := Try.t109) (z := (Go.Value.agg #[Go.Value.int Go.IntKind.i64 0, Go.Value.bool false, Go.Value.int Go.IntKind.i64 0, Go.Value.int Go.IntKind.i64 0, Go.Value.int Go.IntKind.i64 0, Go.Value.int Go.IntKind.i64 0, Go.Value.int Go.IntKind.i64 0, Go.Value.int Go.IntKind.i64 0, Go.Value.bool false, Go.Value.int Go.IntKind.i64 0, Go.Value.int Go.IntKind.i64 0])) Try.underlying105 rfl rfl rfl rfl rfl
instance : TyA Try.prog 106 4 := tyA_mk (i := Try.t106) Try.underlying106 rfl rfl rfl
instance : TyA Try.prog 107 4 := tyA_mk (i := Try.t107) Try.underlying107 rfl rfl rfl
instance : TyA Try.prog 108 11 := tyA_mk (i := Try.t108) Try.underlying108 rfl rfl rfl
instance : TyA Try.prog 109 11 := tyA_mk (i := Try.t109) Try.underlying109 rfl rfl rfl
instance : TyS Try.prog 110 := tyS_mk Try.underlying110 rfl
instance : TyS Try.prog 111 := tyS_mk Try.underlying111 rfl
instance : TyQ Try.prog 34 [(0, 0), (1, 0)] := ⟨rfl, by kernel_rfl, by kernel_rfl, by kernel_rfl, rfl⟩
instance : TyQ Try.prog 35 [(0, 0), (1, 0)] := ⟨rfl, by kernel_rfl, by kernel_rfl, by kernel_rfl, rfl⟩
instance : TyQ Try.prog 51 [(0, 0), (1, 0), (2, 0)] := ⟨rfl, by kernel_rfl, by kernel_rfl, by kernel_rfl, rfl⟩
instance : TyQ Try.prog 52 [(0, 0), (1, 0), (2, 0)] := ⟨rfl, by kernel_rfl, by kernel_rfl, by kernel_rfl, rfl⟩
instance : TyQ Try.prog 58 [(0, 0), (1, 0), (2, 0)] := ⟨rfl, by kernel_rfl, by kernel_rfl, by kernel_rfl, rfl⟩
instance : TyQ Try.prog 59 [(0, 0), (1, 0), (2, 0)] := ⟨rfl, by kernel_rfl, by kernel_rfl, by kernel_rfl, rfl⟩
instance : TyQ Try.prog 65 [(0, 0), (1, 0)] := ⟨rfl, by kernel_rfl, by kernel_rfl, by kernel_rfl, rfl⟩
instance : TyQ Try.prog 66 [(0, 0), (1, 0)] := ⟨rfl, by kernel_rfl, by kernel_rfl, by kernel_rfl, rfl⟩
instance : Enters Try.prog 13 := ⟨fun _ _ => rfl⟩
instance : Enters Try.prog 22 := ⟨fun _ _ => rfl⟩
instance : Enters Try.prog 4 := ⟨fun _ _ => rfl⟩
instance : Enters Try.prog 37 := ⟨fun _ _ => rfl⟩
instance : Enters Try.prog 15 := ⟨fun _ _ => rfl⟩
instance : Enters Try.prog 12 := ⟨fun _ _ => rfl⟩
instance : Enters Try.prog 9 := ⟨fun _ _ => rfl⟩
instance : Enters Try.prog 49 := ⟨fun _ _ => rfl⟩
instance : Enters Try.prog 32 := ⟨fun _ _ => rfl⟩
instance : Enters Try.prog 66 := ⟨fun _ _ => rfl⟩
instance : Enters Try.prog 50 := ⟨fun _ _ => rfl⟩
instance : Enters Try.prog 31 := ⟨fun _ _ => rfl⟩
instance : Enters Try.prog 19 := ⟨fun _ _ => rfl⟩
instance : Enters Try.prog 41 := ⟨fun _ _ => rfl⟩
instance : Enters Try.prog 58 := ⟨fun _ _ => rfl⟩
instance : Enters Try.prog 36 := ⟨fun _ _ => rfl⟩
instance : Enters Try.prog 55 := ⟨fun _ _ => rfl⟩
instance : Enters Try.prog 34 := ⟨fun _ _ => rfl⟩
instance : Enters Try.prog 59 := ⟨fun _ _ => rfl⟩
instance : Enters Try.prog 20 := ⟨fun _ _ => rfl⟩
instance : Enters Try.prog 26 := ⟨fun _ _ => rfl⟩
instance : Enters Try.prog 56 := ⟨fun _ _ => rfl⟩
instance : Enters Try.prog 23 := ⟨fun _ _ => rfl⟩
instance : Enters Try.prog 64 := ⟨fun _ _ => rfl⟩
instance : Enters Try.prog 44 := ⟨fun _ _ => rfl⟩
instance : Enters Try.prog 43 := ⟨fun _ _ => rfl⟩
instance : Enters Try.prog 10 := ⟨fun _ _ => rfl⟩
instance : Enters Try.prog 21 := ⟨fun _ _ => rfl⟩
instance : Enters Try.prog 52 := ⟨fun _ _ => rfl⟩
instance : Enters Try.prog 53 := ⟨fun _ _ => rfl⟩
instance : Enters Try.prog 35 := ⟨fun _ _ => rfl⟩
instance : Enters Try.prog 18 := ⟨fun _ _ => rfl⟩
instance : Enters Try.prog 65 := ⟨fun _ _ => rfl⟩
instance : Enters Try.prog 63 := ⟨fun _ _ => rfl⟩
instance : Enters Try.prog 11 := ⟨fun _ _ => rfl⟩
instance : Enters Try.prog 33 := ⟨fun _ _ => rfl⟩
instance : Enters Try.prog 48 := ⟨fun _ _ => rfl⟩
instance : Enters Try.prog 29 := ⟨fun _ _ => rfl⟩
instance : Enters Try.prog 62 := ⟨fun _ _ => rfl⟩
instance : Enters Try.prog 14 := ⟨fun _ _ => rfl⟩
instance : Enters Try.prog 27 := ⟨fun _ _ => rfl⟩
instance : Enters Try.prog 47 := ⟨fun _ _ => rfl⟩
instance : Enters Try.prog 8 := ⟨fun _ _ => rfl⟩
instance : Enters Try.prog 61 := ⟨fun _ _ => rfl⟩
instance : Enters Try.prog 30 := ⟨fun _ _ => rfl⟩
instance : Enters Try.prog 25 := ⟨fun _ _ => rfl⟩
instance : Enters Try.prog 39 := ⟨fun _ _ => rfl⟩
instance : Enters Try.prog 40 := ⟨fun _ _ => rfl⟩
instance : Enters Try.prog 5 := ⟨fun _ _ => rfl⟩
instance : Enters Try.prog 6 := ⟨fun _ _ => rfl⟩
instance : Enters Try.prog 57 := ⟨fun _ _ => rfl⟩
instance : Enters Try.prog 24 := ⟨fun _ _ => rfl⟩
instance : Enters Try.prog 3 := ⟨fun _ _ => rfl⟩
instance : Enters Try.prog 54 := ⟨fun _ _ => rfl⟩
instance : Enters Try.prog 45 := ⟨fun _ _ => rfl⟩
instance : Enters Try.prog 60 := ⟨fun _ _ => rfl⟩
instance : Enters Try.prog 16 := ⟨fun _ _ => rfl⟩
instance : Enters Try.prog 7 := ⟨fun _ _ => rfl⟩
instance : Enters Try.prog 51 := ⟨fun _ _ => rfl⟩
instance : Enters Try.prog 42 := ⟨fun _ _ => rfl⟩
instance : Enters Try.prog 28 := ⟨fun _ _ => rfl⟩
instance : Enters Try.prog 17 := ⟨fun _ _ => rfl⟩
instance : Enters Try.prog 46 := ⟨fun _ _ => rfl⟩
instance : Enters Try.prog 38 := ⟨fun _ _ => rfl⟩
end Go.Proofs.Ytimmclibnfdjhaa
