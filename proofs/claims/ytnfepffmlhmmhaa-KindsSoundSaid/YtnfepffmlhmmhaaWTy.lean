/- Facts of the seat's types and functions, by program. -/
import Derived.Test.YtnfepffmlhmmhaaSlG3
import Derived.KernelRfl
import Derived.Test.YtnfepffmlhmmhaaProg
namespace Go.Proofs.Ytnfepffmlhmmhaa
open Go.SL
set_option maxRecDepth 100000
instance ty0 : Ty Try.prog 0 (Go.TypeDesc.tuple #[]) (Go.Value.tuple #[]) Try.t0 := ⟨Try.underlying0, Try.zeroValue0, rfl⟩
instance ty1 : Ty Try.prog 1 (Go.TypeDesc.func #[] #[] false) Go.Value.nilFunc Try.t1 := ⟨Try.underlying1, Try.zeroValue1, rfl⟩
instance ty2 : Ty Try.prog 2 (Go.TypeDesc.int Go.IntKind.i64) (Go.Value.int Go.IntKind.i64 0) Try.t2 := ⟨Try.underlying2, Try.zeroValue2, rfl⟩
instance ty3 : Ty Try.prog 3 (Go.TypeDesc.int Go.IntKind.i64) (Go.Value.int Go.IntKind.i64 0) Try.t3 := ⟨Try.underlying3, Try.zeroValue3, rfl⟩
instance ty4 : Ty Try.prog 4 Go.TypeDesc.bool (Go.Value.bool false) Try.t4 := ⟨Try.underlying4, Try.zeroValue4, rfl⟩
instance ty5 : Ty Try.prog 5 (Go.TypeDesc.int Go.IntKind.u8) (Go.Value.int Go.IntKind.u8 0) Try.t5 := ⟨Try.underlying5, Try.zeroValue5, rfl⟩
instance ty6 : Ty Try.prog 6 (Go.TypeDesc.int Go.IntKind.u8) (Go.Value.int Go.IntKind.u8 0) Try.t6 := ⟨Try.underlying6, Try.zeroValue6, rfl⟩
instance ty7 : Ty Try.prog 7 (Go.TypeDesc.struct #[{ name := "x", type := 2, offset := 0, embedded := false, tag := "", pkgPath := "runtime", byteOffset := 0 }, { name := "y", type := 3, offset := 1, embedded := false, tag := "", pkgPath := "runtime", byteOffset := 8 }, { name := "signed", type := 4, offset := 2, embedded := false, tag := "", pkgPath := "runtime", byteOffset := 16 }, { name := "code", type := 6, offset := 3, embedded := false, tag := "", pkgPath := "runtime", byteOffset := 17 }]) (Go.Value.agg #[Go.Value.int Go.IntKind.i64 0, Go.Value.int Go.IntKind.i64 0, Go.Value.bool false, Go.Value.int Go.IntKind.u8 0]) Try.t7 := ⟨Try.underlying7, Try.zeroValue7, rfl⟩
instance ty8 : Ty Try.prog 8 (Go.TypeDesc.struct #[{ name := "x", type := 2, offset := 0, embedded := false, tag := "", pkgPath := "runtime", byteOffset := 0 }, { name := "y", type := 3, offset := 1, embedded := false, tag := "", pkgPath := "runtime", byteOffset := 8 }, { name := "signed", type := 4, offset := 2, embedded := false, tag := "", pkgPath := "runtime", byteOffset := 16 }, { name := "code", type := 6, offset := 3, embedded := false, tag := "", pkgPath := "runtime", byteOffset := 17 }]) (Go.Value.agg #[Go.Value.int Go.IntKind.i64 0, Go.Value.int Go.IntKind.i64 0, Go.Value.bool false, Go.Value.int Go.IntKind.u8 0]) Try.t8 := ⟨Try.underlying8, Try.zeroValue8, rfl⟩
instance ty9 : Ty Try.prog 9 Go.TypeDesc.string (Go.Value.string { data := #[] }) Try.t9 := ⟨Try.underlying9, Try.zeroValue9, rfl⟩
instance ty10 : Ty Try.prog 10 Go.TypeDesc.string (Go.Value.string { data := #[] }) Try.t10 := ⟨Try.underlying10, Try.zeroValue10, rfl⟩
instance ty11 : Ty Try.prog 11 Go.TypeDesc.string (Go.Value.string { data := #[] }) Try.t11 := ⟨Try.underlying11, Try.zeroValue11, rfl⟩
instance ty12 : Ty Try.prog 12 (Go.TypeDesc.int Go.IntKind.u64) (Go.Value.int Go.IntKind.u64 0) Try.t12 := ⟨Try.underlying12, Try.zeroValue12, rfl⟩
instance ty13 : Ty Try.prog 13 (Go.TypeDesc.struct #[{ name := "msg", type := 9, offset := 0, embedded := false, tag := "", pkgPath := "runtime", byteOffset := 0 }, { name := "addr", type := 12, offset := 1, embedded := false, tag := "", pkgPath := "runtime", byteOffset := 16 }]) (Go.Value.agg #[Go.Value.string { data := #[] }, Go.Value.int Go.IntKind.u64 0]) Try.t13 := ⟨Try.underlying13, Try.zeroValue13, rfl⟩
instance ty14 : Ty Try.prog 14 (Go.TypeDesc.struct #[{ name := "msg", type := 9, offset := 0, embedded := false, tag := "", pkgPath := "runtime", byteOffset := 0 }, { name := "addr", type := 12, offset := 1, embedded := false, tag := "", pkgPath := "runtime", byteOffset := 16 }]) (Go.Value.agg #[Go.Value.string { data := #[] }, Go.Value.int Go.IntKind.u64 0]) Try.t14 := ⟨Try.underlying14, Try.zeroValue14, rfl⟩
instance ty15 : Ty Try.prog 15 (Go.TypeDesc.pointer 97) (Go.Value.pointer none) Try.t15 := ⟨Try.underlying15, Try.zeroValue15, rfl⟩
instance ty16 : Ty Try.prog 16 (Go.TypeDesc.pointer 100) (Go.Value.pointer none) Try.t16 := ⟨Try.underlying16, Try.zeroValue16, rfl⟩
instance ty17 : Ty Try.prog 17 (Go.TypeDesc.pointer 109) (Go.Value.pointer none) Try.t17 := ⟨Try.underlying17, Try.zeroValue17, rfl⟩
instance ty18 : Ty Try.prog 18 (Go.TypeDesc.struct #[{ name := "typ", type := 17, offset := 0, embedded := false, tag := "", pkgPath := "internal/runtime/maps", byteOffset := 0 }]) (Go.Value.agg #[Go.Value.pointer none]) Try.t18 := ⟨Try.underlying18, Try.zeroValue18, rfl⟩
instance ty19 : Ty Try.prog 19 (Go.TypeDesc.struct #[{ name := "typ", type := 17, offset := 0, embedded := false, tag := "", pkgPath := "internal/runtime/maps", byteOffset := 0 }]) (Go.Value.agg #[Go.Value.pointer none]) Try.t19 := ⟨Try.underlying19, Try.zeroValue19, rfl⟩
instance ty20 : Ty Try.prog 20 (Go.TypeDesc.interface #[]) Go.Value.nilIface Try.t20 := ⟨Try.underlying20, Try.zeroValue20, rfl⟩
instance ty21 : Ty Try.prog 21 (Go.TypeDesc.int Go.IntKind.i32) (Go.Value.int Go.IntKind.i32 0) Try.t21 := ⟨Try.underlying21, Try.zeroValue21, rfl⟩
instance ty22 : Ty Try.prog 22 (Go.TypeDesc.slice 28) (Go.Value.slice none 0 0) Try.t22 := ⟨Try.underlying22, Try.zeroValue22, rfl⟩
instance ty23 : Ty Try.prog 23 (Go.TypeDesc.slice 27) (Go.Value.slice none 0 0) Try.t23 := ⟨Try.underlying23, Try.zeroValue23, rfl⟩
instance ty24 : Ty Try.prog 24 (Go.TypeDesc.func #[] #[4] false) Go.Value.nilFunc Try.t24 := ⟨Try.underlying24, Try.zeroValue24, rfl⟩
instance ty25 : Ty Try.prog 25 (Go.TypeDesc.struct #[{ name := "Locals", type := 23, offset := 0, embedded := false, tag := "", pkgPath := "", byteOffset := 0 }, { name := "Stack", type := 23, offset := 1, embedded := false, tag := "", pkgPath := "", byteOffset := 24 }]) (Go.Value.agg #[Go.Value.slice none 0 0, Go.Value.slice none 0 0]) Try.t25 := ⟨Try.underlying25, Try.zeroValue25, rfl⟩
instance ty26 : Ty Try.prog 26 (Go.TypeDesc.struct #[{ name := "Locals", type := 23, offset := 0, embedded := false, tag := "", pkgPath := "", byteOffset := 0 }, { name := "Stack", type := 23, offset := 1, embedded := false, tag := "", pkgPath := "", byteOffset := 24 }]) (Go.Value.agg #[Go.Value.slice none 0 0, Go.Value.slice none 0 0]) Try.t26 := ⟨Try.underlying26, Try.zeroValue26, rfl⟩
instance ty27 : Ty Try.prog 27 (Go.TypeDesc.int Go.IntKind.i64) (Go.Value.int Go.IntKind.i64 0) Try.t27 := ⟨Try.underlying27, Try.zeroValue27, rfl⟩
instance ty28 : Ty Try.prog 28 (Go.TypeDesc.array 3 27) (Go.Value.agg #[Go.Value.int Go.IntKind.i64 0, Go.Value.int Go.IntKind.i64 0, Go.Value.int Go.IntKind.i64 0]) Try.t28 := ⟨Try.underlying28, Try.zeroValue28, rfl⟩
instance ty29 : Ty Try.prog 29 (Go.TypeDesc.func #[23] #[23] false) Go.Value.nilFunc Try.t29 := ⟨Try.underlying29, Try.zeroValue29, rfl⟩
instance ty30 : Ty Try.prog 30 (Go.TypeDesc.tuple #[26, 4]) (Go.Value.tuple #[Go.Value.agg #[Go.Value.slice none 0 0, Go.Value.slice none 0 0], Go.Value.bool false]) Try.t30 := ⟨Try.underlying30, Try.zeroValue30, rfl⟩
instance ty31 : Ty Try.prog 31 (Go.TypeDesc.func #[26, 26] #[26, 4] false) Go.Value.nilFunc Try.t31 := ⟨Try.underlying31, Try.zeroValue31, rfl⟩
instance ty32 : Ty Try.prog 32 (Go.TypeDesc.func #[26, 26] #[4] false) Go.Value.nilFunc Try.t32 := ⟨Try.underlying32, Try.zeroValue32, rfl⟩
instance ty33 : Ty Try.prog 33 (Go.TypeDesc.func #[22, 23] #[4] false) Go.Value.nilFunc Try.t33 := ⟨Try.underlying33, Try.zeroValue33, rfl⟩
instance ty34 : Ty Try.prog 34 (Go.TypeDesc.slice 52) (Go.Value.slice none 0 0) Try.t34 := ⟨Try.underlying34, Try.zeroValue34, rfl⟩
instance ty35 : Ty Try.prog 35 (Go.TypeDesc.slice 49) (Go.Value.slice none 0 0) Try.t35 := ⟨Try.underlying35, Try.zeroValue35, rfl⟩
instance ty36 : Ty Try.prog 36 (Go.TypeDesc.struct #[{ name := "Classes", type := 34, offset := 0, embedded := false, tag := "", pkgPath := "", byteOffset := 0 }, { name := "Methods", type := 35, offset := 1, embedded := false, tag := "", pkgPath := "", byteOffset := 24 }]) (Go.Value.agg #[Go.Value.slice none 0 0, Go.Value.slice none 0 0]) Try.t36 := ⟨Try.underlying36, Try.zeroValue36, rfl⟩
instance ty37 : Ty Try.prog 37 (Go.TypeDesc.struct #[{ name := "Classes", type := 34, offset := 0, embedded := false, tag := "", pkgPath := "", byteOffset := 0 }, { name := "Methods", type := 35, offset := 1, embedded := false, tag := "", pkgPath := "", byteOffset := 24 }]) (Go.Value.agg #[Go.Value.slice none 0 0, Go.Value.slice none 0 0]) Try.t37 := ⟨Try.underlying37, Try.zeroValue37, rfl⟩
instance ty38 : Ty Try.prog 38 (Go.TypeDesc.struct #[{ name := "Op", type := 3, offset := 0, embedded := false, tag := "", pkgPath := "", byteOffset := 0 }, { name := "A", type := 3, offset := 1, embedded := false, tag := "", pkgPath := "", byteOffset := 8 }, { name := "B", type := 3, offset := 2, embedded := false, tag := "", pkgPath := "", byteOffset := 16 }]) (Go.Value.agg #[Go.Value.int Go.IntKind.i64 0, Go.Value.int Go.IntKind.i64 0, Go.Value.int Go.IntKind.i64 0]) Try.t38 := ⟨Try.underlying38, Try.zeroValue38, rfl⟩
instance ty39 : Ty Try.prog 39 (Go.TypeDesc.struct #[{ name := "Op", type := 3, offset := 0, embedded := false, tag := "", pkgPath := "", byteOffset := 0 }, { name := "A", type := 3, offset := 1, embedded := false, tag := "", pkgPath := "", byteOffset := 8 }, { name := "B", type := 3, offset := 2, embedded := false, tag := "", pkgPath := "", byteOffset := 16 }]) (Go.Value.agg #[Go.Value.int Go.IntKind.i64 0, Go.Value.int Go.IntKind.i64 0, Go.Value.int Go.IntKind.i64 0]) Try.t39 := ⟨Try.underlying39, Try.zeroValue39, rfl⟩
instance ty40 : Ty Try.prog 40 (Go.TypeDesc.struct #[{ name := "X", type := 37, offset := 0, embedded := false, tag := "", pkgPath := "", byteOffset := 0 }, { name := "M", type := 5, offset := 2, embedded := false, tag := "", pkgPath := "", byteOffset := 48 }, { name := "At", type := 5, offset := 3, embedded := false, tag := "", pkgPath := "", byteOffset := 49 }, { name := "A", type := 23, offset := 4, embedded := false, tag := "", pkgPath := "", byteOffset := 56 }, { name := "B", type := 23, offset := 5, embedded := false, tag := "", pkgPath := "", byteOffset := 80 }, { name := "S", type := 23, offset := 6, embedded := false, tag := "", pkgPath := "", byteOffset := 104 }, { name := "Y", type := 39, offset := 7, embedded := false, tag := "", pkgPath := "", byteOffset := 128 }]) (Go.Value.agg #[Go.Value.slice none 0 0, Go.Value.slice none 0 0, Go.Value.int Go.IntKind.u8 0, Go.Value.int Go.IntKind.u8 0, Go.Value.slice none 0 0, Go.Value.slice none 0 0, Go.Value.slice none 0 0, Go.Value.int Go.IntKind.i64 0, Go.Value.int Go.IntKind.i64 0, Go.Value.int Go.IntKind.i64 0]) Try.t40 := ⟨Try.underlying40, Try.zeroValue40, rfl⟩
instance ty41 : Ty Try.prog 41 (Go.TypeDesc.struct #[{ name := "X", type := 37, offset := 0, embedded := false, tag := "", pkgPath := "", byteOffset := 0 }, { name := "M", type := 5, offset := 2, embedded := false, tag := "", pkgPath := "", byteOffset := 48 }, { name := "At", type := 5, offset := 3, embedded := false, tag := "", pkgPath := "", byteOffset := 49 }, { name := "A", type := 23, offset := 4, embedded := false, tag := "", pkgPath := "", byteOffset := 56 }, { name := "B", type := 23, offset := 5, embedded := false, tag := "", pkgPath := "", byteOffset := 80 }, { name := "S", type := 23, offset := 6, embedded := false, tag := "", pkgPath := "", byteOffset := 104 }, { name := "Y", type := 39, offset := 7, embedded := false, tag := "", pkgPath := "", byteOffset := 128 }]) (Go.Value.agg #[Go.Value.slice none 0 0, Go.Value.slice none 0 0, Go.Value.int Go.IntKind.u8 0, Go.Value.int Go.IntKind.u8 0, Go.Value.slice none 0 0, Go.Value.slice none 0 0, Go.Value.slice none 0 0, Go.Value.int Go.IntKind.i64 0, Go.Value.int Go.IntKind.i64 0, Go.Value.int Go.IntKind.i64 0]) Try.t41 := ⟨Try.underlying41, Try.zeroValue41, rfl⟩
instance ty42 : Ty Try.prog 42 (Go.TypeDesc.tuple #[37, 3, 3]) (Go.Value.tuple #[Go.Value.agg #[Go.Value.slice none 0 0, Go.Value.slice none 0 0], Go.Value.int Go.IntKind.i64 0, Go.Value.int Go.IntKind.i64 0]) Try.t42 := ⟨Try.underlying42, Try.zeroValue42, rfl⟩
instance ty43 : Ty Try.prog 43 (Go.TypeDesc.func #[] #[37, 3, 3] false) Go.Value.nilFunc Try.t43 := ⟨Try.underlying43, Try.zeroValue43, rfl⟩
instance ty44 : Ty Try.prog 44 (Go.TypeDesc.int Go.IntKind.i64) (Go.Value.int Go.IntKind.i64 0) Try.t44 := ⟨Try.underlying44, Try.zeroValue44, rfl⟩
instance ty45 : Ty Try.prog 45 (Go.TypeDesc.tuple #[26, 44]) (Go.Value.tuple #[Go.Value.agg #[Go.Value.slice none 0 0, Go.Value.slice none 0 0], Go.Value.int Go.IntKind.i64 0]) Try.t45 := ⟨Try.underlying45, Try.zeroValue45, rfl⟩
instance ty46 : Ty Try.prog 46 (Go.TypeDesc.func #[37, 3, 26, 3] #[26, 44] false) Go.Value.nilFunc Try.t46 := ⟨Try.underlying46, Try.zeroValue46, rfl⟩
instance ty47 : Ty Try.prog 47 (Go.TypeDesc.slice 39) (Go.Value.slice none 0 0) Try.t47 := ⟨Try.underlying47, Try.zeroValue47, rfl⟩
instance ty48 : Ty Try.prog 48 (Go.TypeDesc.struct #[{ name := "Params", type := 23, offset := 0, embedded := false, tag := "", pkgPath := "", byteOffset := 0 }, { name := "Locals", type := 3, offset := 1, embedded := false, tag := "", pkgPath := "", byteOffset := 24 }, { name := "Stack", type := 3, offset := 2, embedded := false, tag := "", pkgPath := "", byteOffset := 32 }, { name := "Code", type := 47, offset := 3, embedded := false, tag := "", pkgPath := "", byteOffset := 40 }]) (Go.Value.agg #[Go.Value.slice none 0 0, Go.Value.int Go.IntKind.i64 0, Go.Value.int Go.IntKind.i64 0, Go.Value.slice none 0 0]) Try.t48 := ⟨Try.underlying48, Try.zeroValue48, rfl⟩
instance ty49 : Ty Try.prog 49 (Go.TypeDesc.struct #[{ name := "Params", type := 23, offset := 0, embedded := false, tag := "", pkgPath := "", byteOffset := 0 }, { name := "Locals", type := 3, offset := 1, embedded := false, tag := "", pkgPath := "", byteOffset := 24 }, { name := "Stack", type := 3, offset := 2, embedded := false, tag := "", pkgPath := "", byteOffset := 32 }, { name := "Code", type := 47, offset := 3, embedded := false, tag := "", pkgPath := "", byteOffset := 40 }]) (Go.Value.agg #[Go.Value.slice none 0 0, Go.Value.int Go.IntKind.i64 0, Go.Value.int Go.IntKind.i64 0, Go.Value.slice none 0 0]) Try.t49 := ⟨Try.underlying49, Try.zeroValue49, rfl⟩
instance ty50 : Ty Try.prog 50 (Go.TypeDesc.func #[41] #[4] false) Go.Value.nilFunc Try.t50 := ⟨Try.underlying50, Try.zeroValue50, rfl⟩
instance ty51 : Ty Try.prog 51 (Go.TypeDesc.struct #[{ name := "Fields", type := 23, offset := 0, embedded := false, tag := "", pkgPath := "", byteOffset := 0 }]) (Go.Value.agg #[Go.Value.slice none 0 0]) Try.t51 := ⟨Try.underlying51, Try.zeroValue51, rfl⟩
instance ty52 : Ty Try.prog 52 (Go.TypeDesc.struct #[{ name := "Fields", type := 23, offset := 0, embedded := false, tag := "", pkgPath := "", byteOffset := 0 }]) (Go.Value.agg #[Go.Value.slice none 0 0]) Try.t52 := ⟨Try.underlying52, Try.zeroValue52, rfl⟩
instance ty53 : Ty Try.prog 53 (Go.TypeDesc.func #[37, 3] #[26, 44] false) Go.Value.nilFunc Try.t53 := ⟨Try.underlying53, Try.zeroValue53, rfl⟩
instance ty54 : Ty Try.prog 54 (Go.TypeDesc.func #[23, 23] #[26] true) Go.Value.nilFunc Try.t54 := ⟨Try.underlying54, Try.zeroValue54, rfl⟩
instance ty55 : Ty Try.prog 55 (Go.TypeDesc.array 3 23) (Go.Value.agg #[Go.Value.slice none 0 0, Go.Value.slice none 0 0, Go.Value.slice none 0 0]) Try.t55 := ⟨Try.underlying55, Try.zeroValue55, rfl⟩
instance ty56 : Ty Try.prog 56 (Go.TypeDesc.slice 55) (Go.Value.slice none 0 0) Try.t56 := ⟨Try.underlying56, Try.zeroValue56, rfl⟩
instance ty57 : Ty Try.prog 57 (Go.TypeDesc.func #[26, 39, 26, 44] #[4] false) Go.Value.nilFunc Try.t57 := ⟨Try.underlying57, Try.zeroValue57, rfl⟩
instance ty58 : Ty Try.prog 58 (Go.TypeDesc.func #[23, 23] #[4] false) Go.Value.nilFunc Try.t58 := ⟨Try.underlying58, Try.zeroValue58, rfl⟩
instance ty59 : Ty Try.prog 59 (Go.TypeDesc.int Go.IntKind.u64) (Go.Value.int Go.IntKind.u64 0) Try.t59 := ⟨Try.underlying59, Try.zeroValue59, rfl⟩
instance ty60 : Ty Try.prog 60 (Go.TypeDesc.tuple #[49, 4]) (Go.Value.tuple #[Go.Value.agg #[Go.Value.slice none 0 0, Go.Value.int Go.IntKind.i64 0, Go.Value.int Go.IntKind.i64 0, Go.Value.slice none 0 0], Go.Value.bool false]) Try.t60 := ⟨Try.underlying60, Try.zeroValue60, rfl⟩
instance ty61 : Ty Try.prog 61 (Go.TypeDesc.func #[35, 3] #[49, 4] false) Go.Value.nilFunc Try.t61 := ⟨Try.underlying61, Try.zeroValue61, rfl⟩
instance ty62 : Ty Try.prog 62 (Go.TypeDesc.tuple #[39, 4]) (Go.Value.tuple #[Go.Value.agg #[Go.Value.int Go.IntKind.i64 0, Go.Value.int Go.IntKind.i64 0, Go.Value.int Go.IntKind.i64 0], Go.Value.bool false]) Try.t62 := ⟨Try.underlying62, Try.zeroValue62, rfl⟩
instance ty63 : Ty Try.prog 63 (Go.TypeDesc.func #[47, 3] #[39, 4] false) Go.Value.nilFunc Try.t63 := ⟨Try.underlying63, Try.zeroValue63, rfl⟩
instance ty64 : Ty Try.prog 64 (Go.TypeDesc.func #[] #[71] false) Go.Value.nilFunc Try.t64 := ⟨Try.underlying64, Try.zeroValue64, rfl⟩
instance ty65 : Ty Try.prog 65 (Go.TypeDesc.tuple #[64, 4]) (Go.Value.tuple #[Go.Value.nilFunc, Go.Value.bool false]) Try.t65 := ⟨Try.underlying65, Try.zeroValue65, rfl⟩
instance ty66 : Ty Try.prog 66 (Go.TypeDesc.map 3 64) (Go.Value.map none) Try.t66 := ⟨Try.underlying66, Try.zeroValue66, rfl⟩
instance ty67 : Ty Try.prog 67 (Go.TypeDesc.struct #[{ name := "Insn", type := 39, offset := 0, embedded := true, tag := "", pkgPath := "", byteOffset := 0 }, { name := "x", type := 37, offset := 3, embedded := false, tag := "", pkgPath := "doorkeeper/kinds", byteOffset := 24 }, { name := "m", type := 49, offset := 5, embedded := false, tag := "", pkgPath := "doorkeeper/kinds", byteOffset := 72 }, { name := "f", type := 26, offset := 9, embedded := false, tag := "", pkgPath := "doorkeeper/kinds", byteOffset := 136 }]) (Go.Value.agg #[Go.Value.int Go.IntKind.i64 0, Go.Value.int Go.IntKind.i64 0, Go.Value.int Go.IntKind.i64 0, Go.Value.slice none 0 0, Go.Value.slice none 0 0, Go.Value.slice none 0 0, Go.Value.int Go.IntKind.i64 0, Go.Value.int Go.IntKind.i64 0, Go.Value.slice none 0 0, Go.Value.slice none 0 0, Go.Value.slice none 0 0]) Try.t67 := ⟨Try.underlying67, Try.zeroValue67, rfl⟩
instance ty68 : Ty Try.prog 68 (Go.TypeDesc.struct #[{ name := "Insn", type := 39, offset := 0, embedded := true, tag := "", pkgPath := "", byteOffset := 0 }, { name := "x", type := 37, offset := 3, embedded := false, tag := "", pkgPath := "doorkeeper/kinds", byteOffset := 24 }, { name := "m", type := 49, offset := 5, embedded := false, tag := "", pkgPath := "doorkeeper/kinds", byteOffset := 72 }, { name := "f", type := 26, offset := 9, embedded := false, tag := "", pkgPath := "doorkeeper/kinds", byteOffset := 136 }]) (Go.Value.agg #[Go.Value.int Go.IntKind.i64 0, Go.Value.int Go.IntKind.i64 0, Go.Value.int Go.IntKind.i64 0, Go.Value.slice none 0 0, Go.Value.slice none 0 0, Go.Value.slice none 0 0, Go.Value.int Go.IntKind.i64 0, Go.Value.int Go.IntKind.i64 0, Go.Value.slice none 0 0, Go.Value.slice none 0 0, Go.Value.slice none 0 0]) Try.t68 := ⟨Try.underlying68, Try.zeroValue68, rfl⟩
instance ty69 : Ty Try.prog 69 (Go.TypeDesc.func #[] #[66] false) Go.Value.nilFunc Try.t69 := ⟨Try.underlying69, Try.zeroValue69, rfl⟩
instance ty70 : Ty Try.prog 70 (Go.TypeDesc.struct #[{ name := "is", type := 4, offset := 0, embedded := false, tag := "", pkgPath := "doorkeeper/kinds", byteOffset := 0 }, { name := "take", type := 23, offset := 1, embedded := false, tag := "", pkgPath := "doorkeeper/kinds", byteOffset := 8 }, { name := "put", type := 23, offset := 2, embedded := false, tag := "", pkgPath := "doorkeeper/kinds", byteOffset := 32 }]) (Go.Value.agg #[Go.Value.bool false, Go.Value.slice none 0 0, Go.Value.slice none 0 0]) Try.t70 := ⟨Try.underlying70, Try.zeroValue70, rfl⟩
instance ty71 : Ty Try.prog 71 (Go.TypeDesc.struct #[{ name := "is", type := 4, offset := 0, embedded := false, tag := "", pkgPath := "doorkeeper/kinds", byteOffset := 0 }, { name := "take", type := 23, offset := 1, embedded := false, tag := "", pkgPath := "doorkeeper/kinds", byteOffset := 8 }, { name := "put", type := 23, offset := 2, embedded := false, tag := "", pkgPath := "doorkeeper/kinds", byteOffset := 32 }]) (Go.Value.agg #[Go.Value.bool false, Go.Value.slice none 0 0, Go.Value.slice none 0 0]) Try.t71 := ⟨Try.underlying71, Try.zeroValue71, rfl⟩
instance ty72 : Ty Try.prog 72 (Go.TypeDesc.func #[23, 23, 73] #[4] false) Go.Value.nilFunc Try.t72 := ⟨Try.underlying72, Try.zeroValue72, rfl⟩
instance ty73 : Ty Try.prog 73 (Go.TypeDesc.func #[27, 27] #[4] false) Go.Value.nilFunc Try.t73 := ⟨Try.underlying73, Try.zeroValue73, rfl⟩
instance ty74 : Ty Try.prog 74 (Go.TypeDesc.func #[23, 27] #[4] false) Go.Value.nilFunc Try.t74 := ⟨Try.underlying74, Try.zeroValue74, rfl⟩
instance ty75 : Ty Try.prog 75 (Go.TypeDesc.func #[23, 3] #[23] false) Go.Value.nilFunc Try.t75 := ⟨Try.underlying75, Try.zeroValue75, rfl⟩
instance tyB7 : TyB Try.prog 7 (fun i => nth [(0, 1), (1, 1), (2, 1), (3, 1)] i) [Go.Value.int Go.IntKind.i64 0, Go.Value.int Go.IntKind.i64 0, Go.Value.bool false, Go.Value.int Go.IntKind.u8 0] := tyB_struct' Try.underlying7 Try.zeroValue7 rfl
instance tyB8 : TyB Try.prog 8 (fun i => nth [(0, 1), (1, 1), (2, 1), (3, 1)] i) [Go.Value.int Go.IntKind.i64 0, Go.Value.int Go.IntKind.i64 0, Go.Value.bool false, Go.Value.int Go.IntKind.u8 0] := tyB_struct' Try.underlying8 Try.zeroValue8 rfl
instance tyB13 : TyB Try.prog 13 (fun i => nth [(0, 1), (1, 1)] i) [Go.Value.string { data := #[] }, Go.Value.int Go.IntKind.u64 0] := tyB_struct' Try.underlying13 Try.zeroValue13 rfl
instance tyB14 : TyB Try.prog 14 (fun i => nth [(0, 1), (1, 1)] i) [Go.Value.string { data := #[] }, Go.Value.int Go.IntKind.u64 0] := tyB_struct' Try.underlying14 Try.zeroValue14 rfl
instance tyB18 : TyB Try.prog 18 (fun i => nth [(0, 1)] i) [Go.Value.pointer none] := tyB_struct' Try.underlying18 Try.zeroValue18 rfl
instance tyB19 : TyB Try.prog 19 (fun i => nth [(0, 1)] i) [Go.Value.pointer none] := tyB_struct' Try.underlying19 Try.zeroValue19 rfl
instance tyB25 : TyB Try.prog 25 (fun i => nth [(0, 1), (1, 1)] i) [Go.Value.slice none 0 0, Go.Value.slice none 0 0] := tyB_struct' Try.underlying25 Try.zeroValue25 rfl
instance tyB26 : TyB Try.prog 26 (fun i => nth [(0, 1), (1, 1)] i) [Go.Value.slice none 0 0, Go.Value.slice none 0 0] := tyB_struct' Try.underlying26 Try.zeroValue26 rfl
instance tyB36 : TyB Try.prog 36 (fun i => nth [(0, 1), (1, 1)] i) [Go.Value.slice none 0 0, Go.Value.slice none 0 0] := tyB_struct' Try.underlying36 Try.zeroValue36 rfl
instance tyB37 : TyB Try.prog 37 (fun i => nth [(0, 1), (1, 1)] i) [Go.Value.slice none 0 0, Go.Value.slice none 0 0] := tyB_struct' Try.underlying37 Try.zeroValue37 rfl
instance tyB38 : TyB Try.prog 38 (fun i => nth [(0, 1), (1, 1), (2, 1)] i) [Go.Value.int Go.IntKind.i64 0, Go.Value.int Go.IntKind.i64 0, Go.Value.int Go.IntKind.i64 0] := tyB_struct' Try.underlying38 Try.zeroValue38 rfl
instance tyB39 : TyB Try.prog 39 (fun i => nth [(0, 1), (1, 1), (2, 1)] i) [Go.Value.int Go.IntKind.i64 0, Go.Value.int Go.IntKind.i64 0, Go.Value.int Go.IntKind.i64 0] := tyB_struct' Try.underlying39 Try.zeroValue39 rfl
instance tyB40 : TyB Try.prog 40 (fun i => nth [(0, 2), (2, 1), (3, 1), (4, 1), (5, 1), (6, 1), (7, 3)] i) [Go.Value.slice none 0 0, Go.Value.slice none 0 0, Go.Value.int Go.IntKind.u8 0, Go.Value.int Go.IntKind.u8 0, Go.Value.slice none 0 0, Go.Value.slice none 0 0, Go.Value.slice none 0 0, Go.Value.int Go.IntKind.i64 0, Go.Value.int Go.IntKind.i64 0, Go.Value.int Go.IntKind.i64 0] := tyB_struct' Try.underlying40 Try.zeroValue40 rfl
instance tyB41 : TyB Try.prog 41 (fun i => nth [(0, 2), (2, 1), (3, 1), (4, 1), (5, 1), (6, 1), (7, 3)] i) [Go.Value.slice none 0 0, Go.Value.slice none 0 0, Go.Value.int Go.IntKind.u8 0, Go.Value.int Go.IntKind.u8 0, Go.Value.slice none 0 0, Go.Value.slice none 0 0, Go.Value.slice none 0 0, Go.Value.int Go.IntKind.i64 0, Go.Value.int Go.IntKind.i64 0, Go.Value.int Go.IntKind.i64 0] := tyB_struct' Try.underlying41 Try.zeroValue41 rfl
instance tyB48 : TyB Try.prog 48 (fun i => nth [(0, 1), (1, 1), (2, 1), (3, 1)] i) [Go.Value.slice none 0 0, Go.Value.int Go.IntKind.i64 0, Go.Value.int Go.IntKind.i64 0, Go.Value.slice none 0 0] := tyB_struct' Try.underlying48 Try.zeroValue48 rfl
instance tyB49 : TyB Try.prog 49 (fun i => nth [(0, 1), (1, 1), (2, 1), (3, 1)] i) [Go.Value.slice none 0 0, Go.Value.int Go.IntKind.i64 0, Go.Value.int Go.IntKind.i64 0, Go.Value.slice none 0 0] := tyB_struct' Try.underlying49 Try.zeroValue49 rfl
instance tyB51 : TyB Try.prog 51 (fun i => nth [(0, 1)] i) [Go.Value.slice none 0 0] := tyB_struct' Try.underlying51 Try.zeroValue51 rfl
instance tyB52 : TyB Try.prog 52 (fun i => nth [(0, 1)] i) [Go.Value.slice none 0 0] := tyB_struct' Try.underlying52 Try.zeroValue52 rfl
instance tyB67 : TyB Try.prog 67 (fun i => nth [(0, 3), (3, 2), (5, 4), (9, 2)] i) [Go.Value.int Go.IntKind.i64 0, Go.Value.int Go.IntKind.i64 0, Go.Value.int Go.IntKind.i64 0, Go.Value.slice none 0 0, Go.Value.slice none 0 0, Go.Value.slice none 0 0, Go.Value.int Go.IntKind.i64 0, Go.Value.int Go.IntKind.i64 0, Go.Value.slice none 0 0, Go.Value.slice none 0 0, Go.Value.slice none 0 0] := tyB_struct' Try.underlying67 Try.zeroValue67 rfl
instance tyB68 : TyB Try.prog 68 (fun i => nth [(0, 3), (3, 2), (5, 4), (9, 2)] i) [Go.Value.int Go.IntKind.i64 0, Go.Value.int Go.IntKind.i64 0, Go.Value.int Go.IntKind.i64 0, Go.Value.slice none 0 0, Go.Value.slice none 0 0, Go.Value.slice none 0 0, Go.Value.int Go.IntKind.i64 0, Go.Value.int Go.IntKind.i64 0, Go.Value.slice none 0 0, Go.Value.slice none 0 0, Go.Value.slice none 0 0] := tyB_struct' Try.underlying68 Try.zeroValue68 rfl
instance tyB70 : TyB Try.prog 70 (fun i => nth [(0, 1), (1, 1), (2, 1)] i) [Go.Value.bool false, Go.Value.slice none 0 0, Go.Value.slice none 0 0] := tyB_struct' Try.underlying70 Try.zeroValue70 rfl
instance tyB71 : TyB Try.prog 71 (fun i => nth [(0, 1), (1, 1), (2, 1)] i) [Go.Value.bool false, Go.Value.slice none 0 0, Go.Value.slice none 0 0] := tyB_struct' Try.underlying71 Try.zeroValue71 rfl
instance : TyF Try.prog 7 0 0 := tyF_mk (i := Try.t2) Try.underlying7 rfl rfl rfl rfl
instance : TyF Try.prog 7 1 1 := tyF_mk (i := Try.t3) Try.underlying7 rfl rfl rfl rfl
instance : TyF Try.prog 7 2 2 := tyF_mk (i := Try.t4) Try.underlying7 rfl rfl rfl rfl
instance : TyF Try.prog 7 3 3 := tyF_mk (i := Try.t6) Try.underlying7 rfl rfl rfl rfl
instance : TyF Try.prog 8 0 0 := tyF_mk (i := Try.t2) Try.underlying8 rfl rfl rfl rfl
instance : TyF Try.prog 8 1 1 := tyF_mk (i := Try.t3) Try.underlying8 rfl rfl rfl rfl
instance : TyF Try.prog 8 2 2 := tyF_mk (i := Try.t4) Try.underlying8 rfl rfl rfl rfl
instance : TyF Try.prog 8 3 3 := tyF_mk (i := Try.t6) Try.underlying8 rfl rfl rfl rfl
instance : TyF Try.prog 13 0 0 := tyF_mk (i := Try.t9) Try.underlying13 rfl rfl rfl rfl
instance : TyF Try.prog 13 1 1 := tyF_mk (i := Try.t12) Try.underlying13 rfl rfl rfl rfl
instance : TyF Try.prog 14 0 0 := tyF_mk (i := Try.t9) Try.underlying14 rfl rfl rfl rfl
instance : TyF Try.prog 14 1 1 := tyF_mk (i := Try.t12) Try.underlying14 rfl rfl rfl rfl
instance : TyF Try.prog 18 0 0 := tyF_mk (i := Try.t17) Try.underlying18 rfl rfl rfl rfl
instance : TyF Try.prog 19 0 0 := tyF_mk (i := Try.t17) Try.underlying19 rfl rfl rfl rfl
instance : TyF Try.prog 25 0 0 := tyF_mk (i := Try.t23) Try.underlying25 rfl rfl rfl rfl
instance : TyF Try.prog 25 1 1 := tyF_mk (i := Try.t23) Try.underlying25 rfl rfl rfl rfl
instance : TyF Try.prog 26 0 0 := tyF_mk (i := Try.t23) Try.underlying26 rfl rfl rfl rfl
instance : TyF Try.prog 26 1 1 := tyF_mk (i := Try.t23) Try.underlying26 rfl rfl rfl rfl
instance : TyF Try.prog 36 0 0 := tyF_mk (i := Try.t34) Try.underlying36 rfl rfl rfl rfl
instance : TyF Try.prog 36 1 1 := tyF_mk (i := Try.t35) Try.underlying36 rfl rfl rfl rfl
instance : TyF Try.prog 37 0 0 := tyF_mk (i := Try.t34) Try.underlying37 rfl rfl rfl rfl
instance : TyF Try.prog 37 1 1 := tyF_mk (i := Try.t35) Try.underlying37 rfl rfl rfl rfl
instance : TyF Try.prog 38 0 0 := tyF_mk (i := Try.t3) Try.underlying38 rfl rfl rfl rfl
instance : TyF Try.prog 38 1 1 := tyF_mk (i := Try.t3) Try.underlying38 rfl rfl rfl rfl
instance : TyF Try.prog 38 2 2 := tyF_mk (i := Try.t3) Try.underlying38 rfl rfl rfl rfl
instance : TyF Try.prog 39 0 0 := tyF_mk (i := Try.t3) Try.underlying39 rfl rfl rfl rfl
instance : TyF Try.prog 39 1 1 := tyF_mk (i := Try.t3) Try.underlying39 rfl rfl rfl rfl
instance : TyF Try.prog 39 2 2 := tyF_mk (i := Try.t3) Try.underlying39 rfl rfl rfl rfl
instance : TyF Try.prog 40 0 0 := tyF_mk (i := Try.t37) Try.underlying40 rfl rfl rfl rfl
instance : TyF Try.prog 40 1 2 := tyF_mk (i := Try.t5) Try.underlying40 rfl rfl rfl rfl
instance : TyF Try.prog 40 2 3 := tyF_mk (i := Try.t5) Try.underlying40 rfl rfl rfl rfl
instance : TyF Try.prog 40 3 4 := tyF_mk (i := Try.t23) Try.underlying40 rfl rfl rfl rfl
instance : TyF Try.prog 40 4 5 := tyF_mk (i := Try.t23) Try.underlying40 rfl rfl rfl rfl
instance : TyF Try.prog 40 5 6 := tyF_mk (i := Try.t23) Try.underlying40 rfl rfl rfl rfl
instance : TyF Try.prog 40 6 7 := tyF_mk (i := Try.t39) Try.underlying40 rfl rfl rfl rfl
instance : TyF Try.prog 41 0 0 := tyF_mk (i := Try.t37) Try.underlying41 rfl rfl rfl rfl
instance : TyF Try.prog 41 1 2 := tyF_mk (i := Try.t5) Try.underlying41 rfl rfl rfl rfl
instance : TyF Try.prog 41 2 3 := tyF_mk (i := Try.t5) Try.underlying41 rfl rfl rfl rfl
instance : TyF Try.prog 41 3 4 := tyF_mk (i := Try.t23) Try.underlying41 rfl rfl rfl rfl
instance : TyF Try.prog 41 4 5 := tyF_mk (i := Try.t23) Try.underlying41 rfl rfl rfl rfl
instance : TyF Try.prog 41 5 6 := tyF_mk (i := Try.t23) Try.underlying41 rfl rfl rfl rfl
instance : TyF Try.prog 41 6 7 := tyF_mk (i := Try.t39) Try.underlying41 rfl rfl rfl rfl
instance : TyF Try.prog 48 0 0 := tyF_mk (i := Try.t23) Try.underlying48 rfl rfl rfl rfl
instance : TyF Try.prog 48 1 1 := tyF_mk (i := Try.t3) Try.underlying48 rfl rfl rfl rfl
instance : TyF Try.prog 48 2 2 := tyF_mk (i := Try.t3) Try.underlying48 rfl rfl rfl rfl
instance : TyF Try.prog 48 3 3 := tyF_mk (i := Try.t47) Try.underlying48 rfl rfl rfl rfl
instance : TyF Try.prog 49 0 0 := tyF_mk (i := Try.t23) Try.underlying49 rfl rfl rfl rfl
instance : TyF Try.prog 49 1 1 := tyF_mk (i := Try.t3) Try.underlying49 rfl rfl rfl rfl
instance : TyF Try.prog 49 2 2 := tyF_mk (i := Try.t3) Try.underlying49 rfl rfl rfl rfl
instance : TyF Try.prog 49 3 3 := tyF_mk (i := Try.t47) Try.underlying49 rfl rfl rfl rfl
instance : TyF Try.prog 51 0 0 := tyF_mk (i := Try.t23) Try.underlying51 rfl rfl rfl rfl
instance : TyF Try.prog 52 0 0 := tyF_mk (i := Try.t23) Try.underlying52 rfl rfl rfl rfl
instance : TyF Try.prog 67 0 0 := tyF_mk (i := Try.t39) Try.underlying67 rfl rfl rfl rfl
instance : TyF Try.prog 67 1 3 := tyF_mk (i := Try.t37) Try.underlying67 rfl rfl rfl rfl
instance : TyF Try.prog 67 2 5 := tyF_mk (i := Try.t49) Try.underlying67 rfl rfl rfl rfl
instance : TyF Try.prog 67 3 9 := tyF_mk (i := Try.t26) Try.underlying67 rfl rfl rfl rfl
instance : TyF Try.prog 68 0 0 := tyF_mk (i := Try.t39) Try.underlying68 rfl rfl rfl rfl
instance : TyF Try.prog 68 1 3 := tyF_mk (i := Try.t37) Try.underlying68 rfl rfl rfl rfl
instance : TyF Try.prog 68 2 5 := tyF_mk (i := Try.t49) Try.underlying68 rfl rfl rfl rfl
instance : TyF Try.prog 68 3 9 := tyF_mk (i := Try.t26) Try.underlying68 rfl rfl rfl rfl
instance : TyF Try.prog 70 0 0 := tyF_mk (i := Try.t4) Try.underlying70 rfl rfl rfl rfl
instance : TyF Try.prog 70 1 1 := tyF_mk (i := Try.t23) Try.underlying70 rfl rfl rfl rfl
instance : TyF Try.prog 70 2 2 := tyF_mk (i := Try.t23) Try.underlying70 rfl rfl rfl rfl
instance : TyF Try.prog 71 0 0 := tyF_mk (i := Try.t4) Try.underlying71 rfl rfl rfl rfl
instance : TyF Try.prog 71 1 1 := tyF_mk (i := Try.t23) Try.underlying71 rfl rfl rfl rfl
instance : TyF Try.prog 71 2 2 := tyF_mk (i := Try.t23) Try.underlying71 rfl rfl rfl rfl
instance : TyS Try.prog 0 := tyS_mk Try.underlying0 rfl
instance : TyS Try.prog 1 := tyS_mk Try.underlying1 rfl
instance : TyS Try.prog 2 := tyS_mk Try.underlying2 rfl
instance : TyS Try.prog 3 := tyS_mk Try.underlying3 rfl
instance : TyS Try.prog 4 := tyS_mk Try.underlying4 rfl
instance : TyS Try.prog 5 := tyS_mk Try.underlying5 rfl
instance : TyS Try.prog 6 := tyS_mk Try.underlying6 rfl
instance : TyA Try.prog 7 4 := tyA_mk (i := Try.t7) Try.underlying7 rfl rfl rfl
instance : TyA Try.prog 8 4 := tyA_mk (i := Try.t8) Try.underlying8 rfl rfl rfl
instance : TyS Try.prog 9 := tyS_mk Try.underlying9 rfl
instance : TyS Try.prog 10 := tyS_mk Try.underlying10 rfl
instance : TyS Try.prog 11 := tyS_mk Try.underlying11 rfl
instance : TyS Try.prog 12 := tyS_mk Try.underlying12 rfl
instance : TyA Try.prog 13 2 := tyA_mk (i := Try.t13) Try.underlying13 rfl rfl rfl
instance : TyA Try.prog 14 2 := tyA_mk (i := Try.t14) Try.underlying14 rfl rfl rfl
instance : TyS Try.prog 15 := tyS_mk Try.underlying15 rfl
instance : TyS Try.prog 16 := tyS_mk Try.underlying16 rfl
instance : TyS Try.prog 17 := tyS_mk Try.underlying17 rfl
instance : TyA Try.prog 18 1 := tyA_mk (i := Try.t18) Try.underlying18 rfl rfl rfl
instance : TyA Try.prog 19 1 := tyA_mk (i := Try.t19) Try.underlying19 rfl rfl rfl
instance : TyS Try.prog 20 := tyS_mk Try.underlying20 rfl
instance : TyS Try.prog 21 := tyS_mk Try.underlying21 rfl
instance : TyS Try.prog 22 := tyS_mk Try.underlying22 rfl
instance : TyE Try.prog 22 28 3 := tyE_mk (i := Try.t28) Try.underlying22 rfl rfl
instance : TyG Try.prog 22 28 3 24 := tyG_mk (i := Try.t28) (z := (Go.Value.agg #[Go.Value.int Go.IntKind.i64 0, Go.Value.int Go.IntKind.i64 0, Go.Value.int Go.IntKind.i64 0])) Try.underlying22 rfl rfl rfl rfl rfl
instance : TyS Try.prog 23 := tyS_mk Try.underlying23 rfl
instance : TyE Try.prog 23 27 1 := tyE_mk (i := Try.t27) Try.underlying23 rfl rfl
instance : TyG Try.prog 23 27 1 8 := tyG_mk (i := Try.t27) (z := (Go.Value.int Go.IntKind.i64 0)) Try.underlying23 rfl rfl rfl rfl rfl
instance : TyS Try.prog 24 := tyS_mk Try.underlying24 rfl
instance : TyA Try.prog 25 2 := tyA_mk (i := Try.t25) Try.underlying25 rfl rfl rfl
instance : TyA Try.prog 26 2 := tyA_mk (i := Try.t26) Try.underlying26 rfl rfl rfl
instance : TyS Try.prog 27 := tyS_mk Try.underlying27 rfl
instance : TyA Try.prog 28 3 := tyA_mk (i := Try.t28) Try.underlying28 rfl rfl rfl
instance : TyR Try.prog 28 3 27 1 := tyR_mk (i := Try.t27) Try.underlying28 rfl rfl
instance : TyS Try.prog 29 := tyS_mk Try.underlying29 rfl
instance : TyS Try.prog 30 := tyS_mk Try.underlying30 rfl
instance : TyS Try.prog 31 := tyS_mk Try.underlying31 rfl
instance : TyS Try.prog 32 := tyS_mk Try.underlying32 rfl
instance : TyS Try.prog 33 := tyS_mk Try.underlying33 rfl
instance : TyS Try.prog 34 := tyS_mk Try.underlying34 rfl
instance : TyE Try.prog 34 52 1 := tyE_mk (i := Try.t52) Try.underlying34 rfl rfl
instance : TyG Try.prog 34 52 1 24 := tyG_mk (i := Try.t52) (z := (Go.Value.agg #[Go.Value.slice none 0 0])) Try.underlying34 rfl rfl rfl rfl rfl
instance : TyS Try.prog 35 := tyS_mk Try.underlying35 rfl
instance : TyE Try.prog 35 49 4 := tyE_mk (i := Try.t49) Try.underlying35 rfl rfl
instance : TyG Try.prog 35 49 4 64 := tyG_mk (i := Try.t49) (z := (Go.Value.agg #[Go.Value.slice none 0 0, Go.Value.int Go.IntKind.i64 0, Go.Value.int Go.IntKind.i64 0, Go.Value.slice none 0 0])) Try.underlying35 rfl rfl rfl rfl rfl
instance : TyA Try.prog 36 2 := tyA_mk (i := Try.t36) Try.underlying36 rfl rfl rfl
instance : TyA Try.prog 37 2 := tyA_mk (i := Try.t37) Try.underlying37 rfl rfl rfl
instance : TyA Try.prog 38 3 := tyA_mk (i := Try.t38) Try.underlying38 rfl rfl rfl
instance : TyA Try.prog 39 3 := tyA_mk (i := Try.t39) Try.underlying39 rfl rfl rfl
instance : TyA Try.prog 40 10 := tyA_mk (i := Try.t40) Try.underlying40 rfl rfl rfl
instance : TyA Try.prog 41 10 := tyA_mk (i := Try.t41) Try.underlying41 rfl rfl rfl
instance : TyS Try.prog 42 := tyS_mk Try.underlying42 rfl
instance : TyS Try.prog 43 := tyS_mk Try.underlying43 rfl
instance : TyS Try.prog 44 := tyS_mk Try.underlying44 rfl
instance : TyS Try.prog 45 := tyS_mk Try.underlying45 rfl
instance : TyS Try.prog 46 := tyS_mk Try.underlying46 rfl
instance : TyS Try.prog 47 := tyS_mk Try.underlying47 rfl
instance : TyE Try.prog 47 39 3 := tyE_mk (i := Try.t39) Try.underlying47 rfl rfl
instance : TyG Try.prog 47 39 3 24 := tyG_mk (i := Try.t39) (z := (Go.Value.agg #[Go.Value.int Go.IntKind.i64 0, Go.Value.int Go.IntKind.i64 0, Go.Value.int Go.IntKind.i64 0])) Try.underlying47 rfl rfl rfl rfl rfl
instance : TyA Try.prog 48 4 := tyA_mk (i := Try.t48) Try.underlying48 rfl rfl rfl
instance : TyA Try.prog 49 4 := tyA_mk (i := Try.t49) Try.underlying49 rfl rfl rfl
instance : TyS Try.prog 50 := tyS_mk Try.underlying50 rfl
instance : TyA Try.prog 51 1 := tyA_mk (i := Try.t51) Try.underlying51 rfl rfl rfl
instance : TyA Try.prog 52 1 := tyA_mk (i := Try.t52) Try.underlying52 rfl rfl rfl
instance : TyS Try.prog 53 := tyS_mk Try.underlying53 rfl
instance : TyS Try.prog 54 := tyS_mk Try.underlying54 rfl
instance : TyA Try.prog 55 3 := tyA_mk (i := Try.t55) Try.underlying55 rfl rfl rfl
instance : TyR Try.prog 55 3 23 1 := tyR_mk (i := Try.t23) Try.underlying55 rfl rfl
instance : TyS Try.prog 56 := tyS_mk Try.underlying56 rfl
instance : TyE Try.prog 56 55 3 := tyE_mk (i := Try.t55) Try.underlying56 rfl rfl
instance : TyG Try.prog 56 55 3 72 := tyG_mk (i := Try.t55) (z := (Go.Value.agg #[Go.Value.slice none 0 0, Go.Value.slice none 0 0, Go.Value.slice none 0 0])) Try.underlying56 rfl rfl rfl rfl rfl
instance : TyS Try.prog 57 := tyS_mk Try.underlying57 rfl
instance : TyS Try.prog 58 := tyS_mk Try.underlying58 rfl
instance : TyS Try.prog 59 := tyS_mk Try.underlying59 rfl
instance : TyS Try.prog 60 := tyS_mk Try.underlying60 rfl
instance : TyS Try.prog 61 := tyS_mk Try.underlying61 rfl
instance : TyS Try.prog 62 := tyS_mk Try.underlying62 rfl
instance : TyS Try.prog 63 := tyS_mk Try.underlying63 rfl
instance : TyS Try.prog 64 := tyS_mk Try.underlying64 rfl
instance : TyS Try.prog 65 := tyS_mk Try.underlying65 rfl
instance : TyS Try.prog 66 := tyS_mk Try.underlying66 rfl
instance : TyA Try.prog 67 11 := tyA_mk (i := Try.t67) Try.underlying67 rfl rfl rfl
instance : TyA Try.prog 68 11 := tyA_mk (i := Try.t68) Try.underlying68 rfl rfl rfl
instance : TyS Try.prog 69 := tyS_mk Try.underlying69 rfl
instance : TyA Try.prog 70 3 := tyA_mk (i := Try.t70) Try.underlying70 rfl rfl rfl
instance : TyA Try.prog 71 3 := tyA_mk (i := Try.t71) Try.underlying71 rfl rfl rfl
instance : TyS Try.prog 72 := tyS_mk Try.underlying72 rfl
instance : TyS Try.prog 73 := tyS_mk Try.underlying73 rfl
instance : TyS Try.prog 74 := tyS_mk Try.underlying74 rfl
instance : TyS Try.prog 75 := tyS_mk Try.underlying75 rfl
instance : TyQ Try.prog 38 [(0, 0), (1, 0), (2, 0)] := ⟨rfl, by kernel_rfl, by kernel_rfl, by kernel_rfl, rfl⟩
instance : TyQ Try.prog 39 [(0, 0), (1, 0), (2, 0)] := ⟨rfl, by kernel_rfl, by kernel_rfl, by kernel_rfl, rfl⟩
instance : Enters Try.prog 13 := ⟨fun _ _ => rfl⟩
instance : Enters Try.prog 22 := ⟨fun _ _ => rfl⟩
instance : Enters Try.prog 4 := ⟨fun _ _ => rfl⟩
instance : Enters Try.prog 37 := ⟨fun _ _ => rfl⟩
instance : Enters Try.prog 15 := ⟨fun _ _ => rfl⟩
instance : Enters Try.prog 12 := ⟨fun _ _ => rfl⟩
instance : Enters Try.prog 9 := ⟨fun _ _ => rfl⟩
instance : Enters Try.prog 32 := ⟨fun _ _ => rfl⟩
instance : Enters Try.prog 31 := ⟨fun _ _ => rfl⟩
instance : Enters Try.prog 19 := ⟨fun _ _ => rfl⟩
instance : Enters Try.prog 41 := ⟨fun _ _ => rfl⟩
instance : Enters Try.prog 36 := ⟨fun _ _ => rfl⟩
instance : Enters Try.prog 34 := ⟨fun _ _ => rfl⟩
instance : Enters Try.prog 20 := ⟨fun _ _ => rfl⟩
instance : Enters Try.prog 26 := ⟨fun _ _ => rfl⟩
instance : Enters Try.prog 23 := ⟨fun _ _ => rfl⟩
instance : Enters Try.prog 43 := ⟨fun _ _ => rfl⟩
instance : Enters Try.prog 10 := ⟨fun _ _ => rfl⟩
instance : Enters Try.prog 21 := ⟨fun _ _ => rfl⟩
instance : Enters Try.prog 35 := ⟨fun _ _ => rfl⟩
instance : Enters Try.prog 18 := ⟨fun _ _ => rfl⟩
instance : Enters Try.prog 11 := ⟨fun _ _ => rfl⟩
instance : Enters Try.prog 33 := ⟨fun _ _ => rfl⟩
instance : Enters Try.prog 29 := ⟨fun _ _ => rfl⟩
instance : Enters Try.prog 14 := ⟨fun _ _ => rfl⟩
instance : Enters Try.prog 27 := ⟨fun _ _ => rfl⟩
instance : Enters Try.prog 8 := ⟨fun _ _ => rfl⟩
instance : Enters Try.prog 30 := ⟨fun _ _ => rfl⟩
instance : Enters Try.prog 25 := ⟨fun _ _ => rfl⟩
instance : Enters Try.prog 39 := ⟨fun _ _ => rfl⟩
instance : Enters Try.prog 40 := ⟨fun _ _ => rfl⟩
instance : Enters Try.prog 5 := ⟨fun _ _ => rfl⟩
instance : Enters Try.prog 6 := ⟨fun _ _ => rfl⟩
instance : Enters Try.prog 24 := ⟨fun _ _ => rfl⟩
instance : Enters Try.prog 3 := ⟨fun _ _ => rfl⟩
instance : Enters Try.prog 16 := ⟨fun _ _ => rfl⟩
instance : Enters Try.prog 7 := ⟨fun _ _ => rfl⟩
instance : Enters Try.prog 42 := ⟨fun _ _ => rfl⟩
instance : Enters Try.prog 28 := ⟨fun _ _ => rfl⟩
instance : Enters Try.prog 17 := ⟨fun _ _ => rfl⟩
instance : Enters Try.prog 38 := ⟨fun _ _ => rfl⟩
end Go.Proofs.Ytnfepffmlhmmhaa
