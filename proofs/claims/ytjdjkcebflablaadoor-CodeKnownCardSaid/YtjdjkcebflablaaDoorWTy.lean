/- Facts of the seat's types and functions, by program. -/
import Derived.Test.YtjdjkcebflablaaDoorSlG3
import Derived.KernelRfl
import Derived.Test.YtjdjkcebflablaaDoorProg
set_option linter.unusedVariables false
set_option linter.unusedSimpArgs false
set_option linter.unusedSectionVars false
namespace Go.Proofs.YtjdjkcebflablaaDoor
open Go.SL
set_option maxRecDepth 100000
instance ty0 : Ty Tryd.prog 0 (Go.TypeDesc.tuple #[]) (Go.Value.tuple #[]) Tryd.t0 := ⟨Tryd.underlying0, Tryd.zeroValue0, rfl⟩
instance ty1 : Ty Tryd.prog 1 (Go.TypeDesc.func #[] #[] false) Go.Value.nilFunc Tryd.t1 := ⟨Tryd.underlying1, Tryd.zeroValue1, rfl⟩
instance ty2 : Ty Tryd.prog 2 (Go.TypeDesc.int Go.IntKind.i64) (Go.Value.int Go.IntKind.i64 0) Tryd.t2 := ⟨Tryd.underlying2, Tryd.zeroValue2, rfl⟩
instance ty3 : Ty Tryd.prog 3 (Go.TypeDesc.int Go.IntKind.i64) (Go.Value.int Go.IntKind.i64 0) Tryd.t3 := ⟨Tryd.underlying3, Tryd.zeroValue3, rfl⟩
instance ty4 : Ty Tryd.prog 4 Go.TypeDesc.bool (Go.Value.bool false) Tryd.t4 := ⟨Tryd.underlying4, Tryd.zeroValue4, rfl⟩
instance ty5 : Ty Tryd.prog 5 (Go.TypeDesc.int Go.IntKind.u8) (Go.Value.int Go.IntKind.u8 0) Tryd.t5 := ⟨Tryd.underlying5, Tryd.zeroValue5, rfl⟩
instance ty6 : Ty Tryd.prog 6 (Go.TypeDesc.int Go.IntKind.u8) (Go.Value.int Go.IntKind.u8 0) Tryd.t6 := ⟨Tryd.underlying6, Tryd.zeroValue6, rfl⟩
instance ty7 : Ty Tryd.prog 7 (Go.TypeDesc.struct #[{ name := "x", type := 2, offset := 0, embedded := false, tag := "", pkgPath := "runtime", byteOffset := 0 }, { name := "y", type := 3, offset := 1, embedded := false, tag := "", pkgPath := "runtime", byteOffset := 8 }, { name := "signed", type := 4, offset := 2, embedded := false, tag := "", pkgPath := "runtime", byteOffset := 16 }, { name := "code", type := 6, offset := 3, embedded := false, tag := "", pkgPath := "runtime", byteOffset := 17 }]) (Go.Value.agg #[Go.Value.int Go.IntKind.i64 0, Go.Value.int Go.IntKind.i64 0, Go.Value.bool false, Go.Value.int Go.IntKind.u8 0]) Tryd.t7 := ⟨Tryd.underlying7, Tryd.zeroValue7, rfl⟩
instance ty8 : Ty Tryd.prog 8 (Go.TypeDesc.struct #[{ name := "x", type := 2, offset := 0, embedded := false, tag := "", pkgPath := "runtime", byteOffset := 0 }, { name := "y", type := 3, offset := 1, embedded := false, tag := "", pkgPath := "runtime", byteOffset := 8 }, { name := "signed", type := 4, offset := 2, embedded := false, tag := "", pkgPath := "runtime", byteOffset := 16 }, { name := "code", type := 6, offset := 3, embedded := false, tag := "", pkgPath := "runtime", byteOffset := 17 }]) (Go.Value.agg #[Go.Value.int Go.IntKind.i64 0, Go.Value.int Go.IntKind.i64 0, Go.Value.bool false, Go.Value.int Go.IntKind.u8 0]) Tryd.t8 := ⟨Tryd.underlying8, Tryd.zeroValue8, rfl⟩
instance ty9 : Ty Tryd.prog 9 Go.TypeDesc.string (Go.Value.string { data := #[] }) Tryd.t9 := ⟨Tryd.underlying9, Tryd.zeroValue9, rfl⟩
instance ty10 : Ty Tryd.prog 10 Go.TypeDesc.string (Go.Value.string { data := #[] }) Tryd.t10 := ⟨Tryd.underlying10, Tryd.zeroValue10, rfl⟩
instance ty11 : Ty Tryd.prog 11 Go.TypeDesc.string (Go.Value.string { data := #[] }) Tryd.t11 := ⟨Tryd.underlying11, Tryd.zeroValue11, rfl⟩
instance ty12 : Ty Tryd.prog 12 (Go.TypeDesc.int Go.IntKind.u64) (Go.Value.int Go.IntKind.u64 0) Tryd.t12 := ⟨Tryd.underlying12, Tryd.zeroValue12, rfl⟩
instance ty13 : Ty Tryd.prog 13 (Go.TypeDesc.struct #[{ name := "msg", type := 9, offset := 0, embedded := false, tag := "", pkgPath := "runtime", byteOffset := 0 }, { name := "addr", type := 12, offset := 1, embedded := false, tag := "", pkgPath := "runtime", byteOffset := 16 }]) (Go.Value.agg #[Go.Value.string { data := #[] }, Go.Value.int Go.IntKind.u64 0]) Tryd.t13 := ⟨Tryd.underlying13, Tryd.zeroValue13, rfl⟩
instance ty14 : Ty Tryd.prog 14 (Go.TypeDesc.struct #[{ name := "msg", type := 9, offset := 0, embedded := false, tag := "", pkgPath := "runtime", byteOffset := 0 }, { name := "addr", type := 12, offset := 1, embedded := false, tag := "", pkgPath := "runtime", byteOffset := 16 }]) (Go.Value.agg #[Go.Value.string { data := #[] }, Go.Value.int Go.IntKind.u64 0]) Tryd.t14 := ⟨Tryd.underlying14, Tryd.zeroValue14, rfl⟩
instance ty15 : Ty Tryd.prog 15 (Go.TypeDesc.pointer 151) (Go.Value.pointer none) Tryd.t15 := ⟨Tryd.underlying15, Tryd.zeroValue15, rfl⟩
instance ty16 : Ty Tryd.prog 16 (Go.TypeDesc.pointer 154) (Go.Value.pointer none) Tryd.t16 := ⟨Tryd.underlying16, Tryd.zeroValue16, rfl⟩
instance ty17 : Ty Tryd.prog 17 (Go.TypeDesc.pointer 164) (Go.Value.pointer none) Tryd.t17 := ⟨Tryd.underlying17, Tryd.zeroValue17, rfl⟩
instance ty18 : Ty Tryd.prog 18 (Go.TypeDesc.struct #[{ name := "typ", type := 17, offset := 0, embedded := false, tag := "", pkgPath := "internal/runtime/maps", byteOffset := 0 }]) (Go.Value.agg #[Go.Value.pointer none]) Tryd.t18 := ⟨Tryd.underlying18, Tryd.zeroValue18, rfl⟩
instance ty19 : Ty Tryd.prog 19 (Go.TypeDesc.struct #[{ name := "typ", type := 17, offset := 0, embedded := false, tag := "", pkgPath := "internal/runtime/maps", byteOffset := 0 }]) (Go.Value.agg #[Go.Value.pointer none]) Tryd.t19 := ⟨Tryd.underlying19, Tryd.zeroValue19, rfl⟩
instance ty20 : Ty Tryd.prog 20 (Go.TypeDesc.interface #[]) Go.Value.nilIface Tryd.t20 := ⟨Tryd.underlying20, Tryd.zeroValue20, rfl⟩
instance ty21 : Ty Tryd.prog 21 (Go.TypeDesc.int Go.IntKind.i32) (Go.Value.int Go.IntKind.i32 0) Tryd.t21 := ⟨Tryd.underlying21, Tryd.zeroValue21, rfl⟩
instance ty22 : Ty Tryd.prog 22 (Go.TypeDesc.slice 53) (Go.Value.slice none 0 0) Tryd.t22 := ⟨Tryd.underlying22, Tryd.zeroValue22, rfl⟩
instance ty23 : Ty Tryd.prog 23 (Go.TypeDesc.slice 56) (Go.Value.slice none 0 0) Tryd.t23 := ⟨Tryd.underlying23, Tryd.zeroValue23, rfl⟩
instance ty24 : Ty Tryd.prog 24 (Go.TypeDesc.struct #[{ name := "Classes", type := 22, offset := 0, embedded := false, tag := "", pkgPath := "", byteOffset := 0 }, { name := "Methods", type := 23, offset := 1, embedded := false, tag := "", pkgPath := "", byteOffset := 24 }]) (Go.Value.agg #[Go.Value.slice none 0 0, Go.Value.slice none 0 0]) Tryd.t24 := ⟨Tryd.underlying24, Tryd.zeroValue24, rfl⟩
instance ty25 : Ty Tryd.prog 25 (Go.TypeDesc.struct #[{ name := "Classes", type := 22, offset := 0, embedded := false, tag := "", pkgPath := "", byteOffset := 0 }, { name := "Methods", type := 23, offset := 1, embedded := false, tag := "", pkgPath := "", byteOffset := 24 }]) (Go.Value.agg #[Go.Value.slice none 0 0, Go.Value.slice none 0 0]) Tryd.t25 := ⟨Tryd.underlying25, Tryd.zeroValue25, rfl⟩
instance ty26 : Ty Tryd.prog 26 (Go.TypeDesc.int Go.IntKind.u16) (Go.Value.int Go.IntKind.u16 0) Tryd.t26 := ⟨Tryd.underlying26, Tryd.zeroValue26, rfl⟩
instance ty27 : Ty Tryd.prog 27 (Go.TypeDesc.array 3 26) (Go.Value.agg #[Go.Value.int Go.IntKind.u16 0, Go.Value.int Go.IntKind.u16 0, Go.Value.int Go.IntKind.u16 0]) Tryd.t27 := ⟨Tryd.underlying27, Tryd.zeroValue27, rfl⟩
instance ty28 : Ty Tryd.prog 28 (Go.TypeDesc.func #[25] #[25] false) Go.Value.nilFunc Tryd.t28 := ⟨Tryd.underlying28, Tryd.zeroValue28, rfl⟩
instance ty29 : Ty Tryd.prog 29 (Go.TypeDesc.array 2 25) (Go.Value.agg #[Go.Value.slice none 0 0, Go.Value.slice none 0 0, Go.Value.slice none 0 0, Go.Value.slice none 0 0]) Tryd.t29 := ⟨Tryd.underlying29, Tryd.zeroValue29, rfl⟩
instance ty30 : Ty Tryd.prog 30 (Go.TypeDesc.int Go.IntKind.i64) (Go.Value.int Go.IntKind.i64 0) Tryd.t30 := ⟨Tryd.underlying30, Tryd.zeroValue30, rfl⟩
instance ty31 : Ty Tryd.prog 31 (Go.TypeDesc.tuple #[9, 30]) (Go.Value.tuple #[Go.Value.string { data := #[] }, Go.Value.int Go.IntKind.i64 0]) Tryd.t31 := ⟨Tryd.underlying31, Tryd.zeroValue31, rfl⟩
instance ty32 : Ty Tryd.prog 32 (Go.TypeDesc.func #[25] #[9, 30] false) Go.Value.nilFunc Tryd.t32 := ⟨Tryd.underlying32, Tryd.zeroValue32, rfl⟩
instance ty33 : Ty Tryd.prog 33 (Go.TypeDesc.slice 5) (Go.Value.slice none 0 0) Tryd.t33 := ⟨Tryd.underlying33, Tryd.zeroValue33, rfl⟩
instance ty34 : Ty Tryd.prog 34 (Go.TypeDesc.func #[9] #[4] false) Go.Value.nilFunc Tryd.t34 := ⟨Tryd.underlying34, Tryd.zeroValue34, rfl⟩
instance ty35 : Ty Tryd.prog 35 (Go.TypeDesc.func #[] #[4] false) Go.Value.nilFunc Tryd.t35 := ⟨Tryd.underlying35, Tryd.zeroValue35, rfl⟩
instance ty36 : Ty Tryd.prog 36 (Go.TypeDesc.func #[25, 27, 9] #[4] false) Go.Value.nilFunc Tryd.t36 := ⟨Tryd.underlying36, Tryd.zeroValue36, rfl⟩
instance ty37 : Ty Tryd.prog 37 (Go.TypeDesc.interface #[("Error", 149)]) Go.Value.nilIface Tryd.t37 := ⟨Tryd.underlying37, Tryd.zeroValue37, rfl⟩
instance ty38 : Ty Tryd.prog 38 (Go.TypeDesc.interface #[("Error", 149)]) Go.Value.nilIface Tryd.t38 := ⟨Tryd.underlying38, Tryd.zeroValue38, rfl⟩
instance ty39 : Ty Tryd.prog 39 (Go.TypeDesc.tuple #[25, 38]) (Go.Value.tuple #[Go.Value.agg #[Go.Value.slice none 0 0, Go.Value.slice none 0 0], Go.Value.nilIface]) Tryd.t39 := ⟨Tryd.underlying39, Tryd.zeroValue39, rfl⟩
instance ty40 : Ty Tryd.prog 40 (Go.TypeDesc.func #[9] #[25, 38] false) Go.Value.nilFunc Tryd.t40 := ⟨Tryd.underlying40, Tryd.zeroValue40, rfl⟩
instance ty41 : Ty Tryd.prog 41 (Go.TypeDesc.func #[25, 25] #[4] false) Go.Value.nilFunc Tryd.t41 := ⟨Tryd.underlying41, Tryd.zeroValue41, rfl⟩
instance ty42 : Ty Tryd.prog 42 (Go.TypeDesc.struct #[{ name := "Code", type := 30, offset := 0, embedded := false, tag := "", pkgPath := "", byteOffset := 0 }, { name := "Method", type := 3, offset := 1, embedded := false, tag := "", pkgPath := "", byteOffset := 8 }, { name := "At", type := 3, offset := 2, embedded := false, tag := "", pkgPath := "", byteOffset := 16 }]) (Go.Value.agg #[Go.Value.int Go.IntKind.i64 0, Go.Value.int Go.IntKind.i64 0, Go.Value.int Go.IntKind.i64 0]) Tryd.t42 := ⟨Tryd.underlying42, Tryd.zeroValue42, rfl⟩
instance ty43 : Ty Tryd.prog 43 (Go.TypeDesc.struct #[{ name := "Code", type := 30, offset := 0, embedded := false, tag := "", pkgPath := "", byteOffset := 0 }, { name := "Method", type := 3, offset := 1, embedded := false, tag := "", pkgPath := "", byteOffset := 8 }, { name := "At", type := 3, offset := 2, embedded := false, tag := "", pkgPath := "", byteOffset := 16 }]) (Go.Value.agg #[Go.Value.int Go.IntKind.i64 0, Go.Value.int Go.IntKind.i64 0, Go.Value.int Go.IntKind.i64 0]) Tryd.t43 := ⟨Tryd.underlying43, Tryd.zeroValue43, rfl⟩
instance ty44 : Ty Tryd.prog 44 (Go.TypeDesc.func #[38] #[43] false) Go.Value.nilFunc Tryd.t44 := ⟨Tryd.underlying44, Tryd.zeroValue44, rfl⟩
instance ty45 : Ty Tryd.prog 45 (Go.TypeDesc.func #[9, 3] #[4] false) Go.Value.nilFunc Tryd.t45 := ⟨Tryd.underlying45, Tryd.zeroValue45, rfl⟩
instance ty46 : Ty Tryd.prog 46 (Go.TypeDesc.array 2 9) (Go.Value.agg #[Go.Value.string { data := #[] }, Go.Value.string { data := #[] }]) Tryd.t46 := ⟨Tryd.underlying46, Tryd.zeroValue46, rfl⟩
instance ty47 : Ty Tryd.prog 47 (Go.TypeDesc.func #[25, 9, 26] #[4] false) Go.Value.nilFunc Tryd.t47 := ⟨Tryd.underlying47, Tryd.zeroValue47, rfl⟩
instance ty48 : Ty Tryd.prog 48 (Go.TypeDesc.tuple #[25, 9]) (Go.Value.tuple #[Go.Value.agg #[Go.Value.slice none 0 0, Go.Value.slice none 0 0], Go.Value.string { data := #[] }]) Tryd.t48 := ⟨Tryd.underlying48, Tryd.zeroValue48, rfl⟩
instance ty49 : Ty Tryd.prog 49 (Go.TypeDesc.func #[] #[25, 9] false) Go.Value.nilFunc Tryd.t49 := ⟨Tryd.underlying49, Tryd.zeroValue49, rfl⟩
instance ty50 : Ty Tryd.prog 50 (Go.TypeDesc.int Go.IntKind.i64) (Go.Value.int Go.IntKind.i64 0) Tryd.t50 := ⟨Tryd.underlying50, Tryd.zeroValue50, rfl⟩
instance ty51 : Ty Tryd.prog 51 (Go.TypeDesc.slice 50) (Go.Value.slice none 0 0) Tryd.t51 := ⟨Tryd.underlying51, Tryd.zeroValue51, rfl⟩
instance ty52 : Ty Tryd.prog 52 (Go.TypeDesc.struct #[{ name := "Fields", type := 51, offset := 0, embedded := false, tag := "", pkgPath := "", byteOffset := 0 }]) (Go.Value.agg #[Go.Value.slice none 0 0]) Tryd.t52 := ⟨Tryd.underlying52, Tryd.zeroValue52, rfl⟩
instance ty53 : Ty Tryd.prog 53 (Go.TypeDesc.struct #[{ name := "Fields", type := 51, offset := 0, embedded := false, tag := "", pkgPath := "", byteOffset := 0 }]) (Go.Value.agg #[Go.Value.slice none 0 0]) Tryd.t53 := ⟨Tryd.underlying53, Tryd.zeroValue53, rfl⟩
instance ty54 : Ty Tryd.prog 54 (Go.TypeDesc.slice 58) (Go.Value.slice none 0 0) Tryd.t54 := ⟨Tryd.underlying54, Tryd.zeroValue54, rfl⟩
instance ty55 : Ty Tryd.prog 55 (Go.TypeDesc.struct #[{ name := "Params", type := 51, offset := 0, embedded := false, tag := "", pkgPath := "", byteOffset := 0 }, { name := "Locals", type := 3, offset := 1, embedded := false, tag := "", pkgPath := "", byteOffset := 24 }, { name := "Stack", type := 3, offset := 2, embedded := false, tag := "", pkgPath := "", byteOffset := 32 }, { name := "Code", type := 54, offset := 3, embedded := false, tag := "", pkgPath := "", byteOffset := 40 }]) (Go.Value.agg #[Go.Value.slice none 0 0, Go.Value.int Go.IntKind.i64 0, Go.Value.int Go.IntKind.i64 0, Go.Value.slice none 0 0]) Tryd.t55 := ⟨Tryd.underlying55, Tryd.zeroValue55, rfl⟩
instance ty56 : Ty Tryd.prog 56 (Go.TypeDesc.struct #[{ name := "Params", type := 51, offset := 0, embedded := false, tag := "", pkgPath := "", byteOffset := 0 }, { name := "Locals", type := 3, offset := 1, embedded := false, tag := "", pkgPath := "", byteOffset := 24 }, { name := "Stack", type := 3, offset := 2, embedded := false, tag := "", pkgPath := "", byteOffset := 32 }, { name := "Code", type := 54, offset := 3, embedded := false, tag := "", pkgPath := "", byteOffset := 40 }]) (Go.Value.agg #[Go.Value.slice none 0 0, Go.Value.int Go.IntKind.i64 0, Go.Value.int Go.IntKind.i64 0, Go.Value.slice none 0 0]) Tryd.t56 := ⟨Tryd.underlying56, Tryd.zeroValue56, rfl⟩
instance ty57 : Ty Tryd.prog 57 (Go.TypeDesc.struct #[{ name := "Op", type := 3, offset := 0, embedded := false, tag := "", pkgPath := "", byteOffset := 0 }, { name := "A", type := 3, offset := 1, embedded := false, tag := "", pkgPath := "", byteOffset := 8 }, { name := "B", type := 3, offset := 2, embedded := false, tag := "", pkgPath := "", byteOffset := 16 }]) (Go.Value.agg #[Go.Value.int Go.IntKind.i64 0, Go.Value.int Go.IntKind.i64 0, Go.Value.int Go.IntKind.i64 0]) Tryd.t57 := ⟨Tryd.underlying57, Tryd.zeroValue57, rfl⟩
instance ty58 : Ty Tryd.prog 58 (Go.TypeDesc.struct #[{ name := "Op", type := 3, offset := 0, embedded := false, tag := "", pkgPath := "", byteOffset := 0 }, { name := "A", type := 3, offset := 1, embedded := false, tag := "", pkgPath := "", byteOffset := 8 }, { name := "B", type := 3, offset := 2, embedded := false, tag := "", pkgPath := "", byteOffset := 16 }]) (Go.Value.agg #[Go.Value.int Go.IntKind.i64 0, Go.Value.int Go.IntKind.i64 0, Go.Value.int Go.IntKind.i64 0]) Tryd.t58 := ⟨Tryd.underlying58, Tryd.zeroValue58, rfl⟩
instance ty59 : Ty Tryd.prog 59 (Go.TypeDesc.slice 25) (Go.Value.slice none 0 0) Tryd.t59 := ⟨Tryd.underlying59, Tryd.zeroValue59, rfl⟩
instance ty60 : Ty Tryd.prog 60 (Go.TypeDesc.func #[51, 3, 3] #[51] false) Go.Value.nilFunc Tryd.t60 := ⟨Tryd.underlying60, Tryd.zeroValue60, rfl⟩
instance ty61 : Ty Tryd.prog 61 (Go.TypeDesc.int Go.IntKind.u64) (Go.Value.int Go.IntKind.u64 0) Tryd.t61 := ⟨Tryd.underlying61, Tryd.zeroValue61, rfl⟩
instance ty62 : Ty Tryd.prog 62 (Go.TypeDesc.func #[25] #[4] false) Go.Value.nilFunc Tryd.t62 := ⟨Tryd.underlying62, Tryd.zeroValue62, rfl⟩
instance ty63 : Ty Tryd.prog 63 (Go.TypeDesc.pointer 65) (Go.Value.pointer none) Tryd.t63 := ⟨Tryd.underlying63, Tryd.zeroValue63, rfl⟩
instance ty64 : Ty Tryd.prog 64 (Go.TypeDesc.struct #[{ name := "b", type := 33, offset := 0, embedded := false, tag := "", pkgPath := "doorkeeper/code", byteOffset := 0 }]) (Go.Value.agg #[Go.Value.slice none 0 0]) Tryd.t64 := ⟨Tryd.underlying64, Tryd.zeroValue64, rfl⟩
instance ty65 : Ty Tryd.prog 65 (Go.TypeDesc.struct #[{ name := "b", type := 33, offset := 0, embedded := false, tag := "", pkgPath := "doorkeeper/code", byteOffset := 0 }]) (Go.Value.agg #[Go.Value.slice none 0 0]) Tryd.t65 := ⟨Tryd.underlying65, Tryd.zeroValue65, rfl⟩
instance ty66 : Ty Tryd.prog 66 (Go.TypeDesc.func #[3, 3] #[] false) Go.Value.nilFunc Tryd.t66 := ⟨Tryd.underlying66, Tryd.zeroValue66, rfl⟩
instance ty67 : Ty Tryd.prog 67 (Go.TypeDesc.func #[51] #[] false) Go.Value.nilFunc Tryd.t67 := ⟨Tryd.underlying67, Tryd.zeroValue67, rfl⟩
instance ty68 : Ty Tryd.prog 68 (Go.TypeDesc.func #[69, 3] #[9] false) Go.Value.nilFunc Tryd.t68 := ⟨Tryd.underlying68, Tryd.zeroValue68, rfl⟩
instance ty69 : Ty Tryd.prog 69 (Go.TypeDesc.int Go.IntKind.u64) (Go.Value.int Go.IntKind.u64 0) Tryd.t69 := ⟨Tryd.underlying69, Tryd.zeroValue69, rfl⟩
instance ty70 : Ty Tryd.prog 70 (Go.TypeDesc.tuple #[25, 3]) (Go.Value.tuple #[Go.Value.agg #[Go.Value.slice none 0 0, Go.Value.slice none 0 0], Go.Value.int Go.IntKind.i64 0]) Tryd.t70 := ⟨Tryd.underlying70, Tryd.zeroValue70, rfl⟩
instance ty71 : Ty Tryd.prog 71 (Go.TypeDesc.func #[9] #[25, 3] false) Go.Value.nilFunc Tryd.t71 := ⟨Tryd.underlying71, Tryd.zeroValue71, rfl⟩
instance ty72 : Ty Tryd.prog 72 (Go.TypeDesc.pointer 43) (Go.Value.pointer none) Tryd.t72 := ⟨Tryd.underlying72, Tryd.zeroValue72, rfl⟩
instance ty73 : Ty Tryd.prog 73 (Go.TypeDesc.struct #[{ name := "Fault", type := 72, offset := 0, embedded := true, tag := "", pkgPath := "", byteOffset := 0 }]) (Go.Value.agg #[Go.Value.pointer none]) Tryd.t73 := ⟨Tryd.underlying73, Tryd.zeroValue73, rfl⟩
instance ty74 : Ty Tryd.prog 74 (Go.TypeDesc.struct #[{ name := "Fault", type := 72, offset := 0, embedded := true, tag := "", pkgPath := "", byteOffset := 0 }]) (Go.Value.agg #[Go.Value.pointer none]) Tryd.t74 := ⟨Tryd.underlying74, Tryd.zeroValue74, rfl⟩
instance ty75 : Ty Tryd.prog 75 (Go.TypeDesc.tuple #[74, 4]) (Go.Value.tuple #[Go.Value.agg #[Go.Value.pointer none], Go.Value.bool false]) Tryd.t75 := ⟨Tryd.underlying75, Tryd.zeroValue75, rfl⟩
instance ty76 : Ty Tryd.prog 76 (Go.TypeDesc.pointer 78) (Go.Value.pointer none) Tryd.t76 := ⟨Tryd.underlying76, Tryd.zeroValue76, rfl⟩
instance ty77 : Ty Tryd.prog 77 (Go.TypeDesc.struct #[{ name := "s", type := 9, offset := 0, embedded := false, tag := "", pkgPath := "doorkeeper/code", byteOffset := 0 }, { name := "at", type := 3, offset := 1, embedded := false, tag := "", pkgPath := "doorkeeper/code", byteOffset := 16 }]) (Go.Value.agg #[Go.Value.string { data := #[] }, Go.Value.int Go.IntKind.i64 0]) Tryd.t77 := ⟨Tryd.underlying77, Tryd.zeroValue77, rfl⟩
instance ty78 : Ty Tryd.prog 78 (Go.TypeDesc.struct #[{ name := "s", type := 9, offset := 0, embedded := false, tag := "", pkgPath := "doorkeeper/code", byteOffset := 0 }, { name := "at", type := 3, offset := 1, embedded := false, tag := "", pkgPath := "doorkeeper/code", byteOffset := 16 }]) (Go.Value.agg #[Go.Value.string { data := #[] }, Go.Value.int Go.IntKind.i64 0]) Tryd.t78 := ⟨Tryd.underlying78, Tryd.zeroValue78, rfl⟩
instance ty79 : Ty Tryd.prog 79 (Go.TypeDesc.func #[] #[25] false) Go.Value.nilFunc Tryd.t79 := ⟨Tryd.underlying79, Tryd.zeroValue79, rfl⟩
instance ty80 : Ty Tryd.prog 80 (Go.TypeDesc.func #[22, 22, 82] #[4] false) Go.Value.nilFunc Tryd.t80 := ⟨Tryd.underlying80, Tryd.zeroValue80, rfl⟩
instance ty81 : Ty Tryd.prog 81 (Go.TypeDesc.func #[51, 51] #[4] false) Go.Value.nilFunc Tryd.t81 := ⟨Tryd.underlying81, Tryd.zeroValue81, rfl⟩
instance ty82 : Ty Tryd.prog 82 (Go.TypeDesc.func #[53, 53] #[4] false) Go.Value.nilFunc Tryd.t82 := ⟨Tryd.underlying82, Tryd.zeroValue82, rfl⟩
instance ty83 : Ty Tryd.prog 83 (Go.TypeDesc.func #[23, 23, 85] #[4] false) Go.Value.nilFunc Tryd.t83 := ⟨Tryd.underlying83, Tryd.zeroValue83, rfl⟩
instance ty84 : Ty Tryd.prog 84 (Go.TypeDesc.func #[54, 54] #[4] false) Go.Value.nilFunc Tryd.t84 := ⟨Tryd.underlying84, Tryd.zeroValue84, rfl⟩
instance ty85 : Ty Tryd.prog 85 (Go.TypeDesc.func #[56, 56] #[4] false) Go.Value.nilFunc Tryd.t85 := ⟨Tryd.underlying85, Tryd.zeroValue85, rfl⟩
instance ty86 : Ty Tryd.prog 86 (Go.TypeDesc.func #[38, 20] #[4] false) Go.Value.nilFunc Tryd.t86 := ⟨Tryd.underlying86, Tryd.zeroValue86, rfl⟩
instance ty87 : Ty Tryd.prog 87 (Go.TypeDesc.pointer 72) (Go.Value.pointer none) Tryd.t87 := ⟨Tryd.underlying87, Tryd.zeroValue87, rfl⟩
instance ty88 : Ty Tryd.prog 88 (Go.TypeDesc.pointer 30) (Go.Value.pointer none) Tryd.t88 := ⟨Tryd.underlying88, Tryd.zeroValue88, rfl⟩
instance ty89 : Ty Tryd.prog 89 (Go.TypeDesc.func #[3, 3, 3] #[4] false) Go.Value.nilFunc Tryd.t89 := ⟨Tryd.underlying89, Tryd.zeroValue89, rfl⟩
instance ty90 : Ty Tryd.prog 90 (Go.TypeDesc.func #[56, 3, 3] #[4] false) Go.Value.nilFunc Tryd.t90 := ⟨Tryd.underlying90, Tryd.zeroValue90, rfl⟩
instance ty91 : Ty Tryd.prog 91 (Go.TypeDesc.func #[22, 93] #[4] false) Go.Value.nilFunc Tryd.t91 := ⟨Tryd.underlying91, Tryd.zeroValue91, rfl⟩
instance ty92 : Ty Tryd.prog 92 (Go.TypeDesc.func #[51, 3, 3] #[4] false) Go.Value.nilFunc Tryd.t92 := ⟨Tryd.underlying92, Tryd.zeroValue92, rfl⟩
instance ty93 : Ty Tryd.prog 93 (Go.TypeDesc.func #[53] #[4] false) Go.Value.nilFunc Tryd.t93 := ⟨Tryd.underlying93, Tryd.zeroValue93, rfl⟩
instance ty94 : Ty Tryd.prog 94 (Go.TypeDesc.func #[23, 95] #[4] false) Go.Value.nilFunc Tryd.t94 := ⟨Tryd.underlying94, Tryd.zeroValue94, rfl⟩
instance ty95 : Ty Tryd.prog 95 (Go.TypeDesc.func #[56] #[4] false) Go.Value.nilFunc Tryd.t95 := ⟨Tryd.underlying95, Tryd.zeroValue95, rfl⟩
instance ty96 : Ty Tryd.prog 96 (Go.TypeDesc.func #[51, 3] #[4] false) Go.Value.nilFunc Tryd.t96 := ⟨Tryd.underlying96, Tryd.zeroValue96, rfl⟩
instance ty97 : Ty Tryd.prog 97 (Go.TypeDesc.pointer 99) (Go.Value.pointer none) Tryd.t97 := ⟨Tryd.underlying97, Tryd.zeroValue97, rfl⟩
instance ty98 : Ty Tryd.prog 98 (Go.TypeDesc.struct #[{ name := "s", type := 9, offset := 0, embedded := false, tag := "", pkgPath := "doorkeeper/doorkeeperref26", byteOffset := 0 }, { name := "at", type := 3, offset := 1, embedded := false, tag := "", pkgPath := "doorkeeper/doorkeeperref26", byteOffset := 16 }, { name := "bad", type := 3, offset := 2, embedded := false, tag := "", pkgPath := "doorkeeper/doorkeeperref26", byteOffset := 24 }]) (Go.Value.agg #[Go.Value.string { data := #[] }, Go.Value.int Go.IntKind.i64 0, Go.Value.int Go.IntKind.i64 0]) Tryd.t98 := ⟨Tryd.underlying98, Tryd.zeroValue98, rfl⟩
instance ty99 : Ty Tryd.prog 99 (Go.TypeDesc.struct #[{ name := "s", type := 9, offset := 0, embedded := false, tag := "", pkgPath := "doorkeeper/doorkeeperref26", byteOffset := 0 }, { name := "at", type := 3, offset := 1, embedded := false, tag := "", pkgPath := "doorkeeper/doorkeeperref26", byteOffset := 16 }, { name := "bad", type := 3, offset := 2, embedded := false, tag := "", pkgPath := "doorkeeper/doorkeeperref26", byteOffset := 24 }]) (Go.Value.agg #[Go.Value.string { data := #[] }, Go.Value.int Go.IntKind.i64 0, Go.Value.int Go.IntKind.i64 0]) Tryd.t99 := ⟨Tryd.underlying99, Tryd.zeroValue99, rfl⟩
instance ty100 : Ty Tryd.prog 100 (Go.TypeDesc.func #[3, 3, 3] #[3] false) Go.Value.nilFunc Tryd.t100 := ⟨Tryd.underlying100, Tryd.zeroValue100, rfl⟩
instance ty101 : Ty Tryd.prog 101 (Go.TypeDesc.func #[3, 3] #[51] false) Go.Value.nilFunc Tryd.t101 := ⟨Tryd.underlying101, Tryd.zeroValue101, rfl⟩
instance ty102 : Ty Tryd.prog 102 (Go.TypeDesc.func #[4] #[] false) Go.Value.nilFunc Tryd.t102 := ⟨Tryd.underlying102, Tryd.zeroValue102, rfl⟩
instance ty103 : Ty Tryd.prog 103 (Go.TypeDesc.func #[3, 104] #[3] false) Go.Value.nilFunc Tryd.t103 := ⟨Tryd.underlying103, Tryd.zeroValue103, rfl⟩
instance ty104 : Ty Tryd.prog 104 (Go.TypeDesc.func #[3] #[4] false) Go.Value.nilFunc Tryd.t104 := ⟨Tryd.underlying104, Tryd.zeroValue104, rfl⟩
instance ty105 : Ty Tryd.prog 105 (Go.TypeDesc.func #[3, 3] #[104] false) Go.Value.nilFunc Tryd.t105 := ⟨Tryd.underlying105, Tryd.zeroValue105, rfl⟩
instance ty106 : Ty Tryd.prog 106 (Go.TypeDesc.func #[3, 107] #[22] false) Go.Value.nilFunc Tryd.t106 := ⟨Tryd.underlying106, Tryd.zeroValue106, rfl⟩
instance ty107 : Ty Tryd.prog 107 (Go.TypeDesc.func #[] #[53] false) Go.Value.nilFunc Tryd.t107 := ⟨Tryd.underlying107, Tryd.zeroValue107, rfl⟩
instance ty108 : Ty Tryd.prog 108 (Go.TypeDesc.func #[3, 110] #[23] false) Go.Value.nilFunc Tryd.t108 := ⟨Tryd.underlying108, Tryd.zeroValue108, rfl⟩
instance ty109 : Ty Tryd.prog 109 (Go.TypeDesc.func #[3, 3] #[56] false) Go.Value.nilFunc Tryd.t109 := ⟨Tryd.underlying109, Tryd.zeroValue109, rfl⟩
instance ty110 : Ty Tryd.prog 110 (Go.TypeDesc.func #[] #[56] false) Go.Value.nilFunc Tryd.t110 := ⟨Tryd.underlying110, Tryd.zeroValue110, rfl⟩
instance ty111 : Ty Tryd.prog 111 Go.TypeDesc.unsafePointer (Go.Value.pointer none) Tryd.t111 := ⟨Tryd.underlying111, Tryd.zeroValue111, rfl⟩
instance ty112 : Ty Tryd.prog 112 (Go.TypeDesc.int Go.IntKind.u64) (Go.Value.int Go.IntKind.u64 0) Tryd.t112 := ⟨Tryd.underlying112, Tryd.zeroValue112, rfl⟩
instance ty113 : Ty Tryd.prog 113 (Go.TypeDesc.struct #[{ name := "typ_", type := 17, offset := 0, embedded := false, tag := "", pkgPath := "internal/reflectlite", byteOffset := 0 }, { name := "ptr", type := 111, offset := 1, embedded := false, tag := "", pkgPath := "internal/reflectlite", byteOffset := 8 }, { name := "flag", type := 112, offset := 2, embedded := true, tag := "", pkgPath := "internal/reflectlite", byteOffset := 16 }]) (Go.Value.agg #[Go.Value.pointer none, Go.Value.pointer none, Go.Value.int Go.IntKind.u64 0]) Tryd.t113 := ⟨Tryd.underlying113, Tryd.zeroValue113, rfl⟩
instance ty114 : Ty Tryd.prog 114 (Go.TypeDesc.struct #[{ name := "typ_", type := 17, offset := 0, embedded := false, tag := "", pkgPath := "internal/reflectlite", byteOffset := 0 }, { name := "ptr", type := 111, offset := 1, embedded := false, tag := "", pkgPath := "internal/reflectlite", byteOffset := 8 }, { name := "flag", type := 112, offset := 2, embedded := true, tag := "", pkgPath := "internal/reflectlite", byteOffset := 16 }]) (Go.Value.agg #[Go.Value.pointer none, Go.Value.pointer none, Go.Value.int Go.IntKind.u64 0]) Tryd.t114 := ⟨Tryd.underlying114, Tryd.zeroValue114, rfl⟩
instance ty115 : Ty Tryd.prog 115 (Go.TypeDesc.func #[20] #[114] false) Go.Value.nilFunc Tryd.t115 := ⟨Tryd.underlying115, Tryd.zeroValue115, rfl⟩
instance ty116 : Ty Tryd.prog 116 (Go.TypeDesc.interface #[("AssignableTo", 121), ("Comparable", 35), ("Elem", 118), ("Implements", 121), ("Kind", 120), ("Name", 149), ("PkgPath", 149), ("Size", 165), ("String", 149), ("internal/reflectlite.common", 156), ("internal/reflectlite.uncommon", 166)]) Go.Value.nilIface Tryd.t116 := ⟨Tryd.underlying116, Tryd.zeroValue116, rfl⟩
instance ty117 : Ty Tryd.prog 117 (Go.TypeDesc.interface #[("AssignableTo", 121), ("Comparable", 35), ("Elem", 118), ("Implements", 121), ("Kind", 120), ("Name", 149), ("PkgPath", 149), ("Size", 165), ("String", 149), ("internal/reflectlite.common", 156), ("internal/reflectlite.uncommon", 166)]) Go.Value.nilIface Tryd.t117 := ⟨Tryd.underlying117, Tryd.zeroValue117, rfl⟩
instance ty118 : Ty Tryd.prog 118 (Go.TypeDesc.func #[] #[117] false) Go.Value.nilFunc Tryd.t118 := ⟨Tryd.underlying118, Tryd.zeroValue118, rfl⟩
instance ty119 : Ty Tryd.prog 119 (Go.TypeDesc.int Go.IntKind.u8) (Go.Value.int Go.IntKind.u8 0) Tryd.t119 := ⟨Tryd.underlying119, Tryd.zeroValue119, rfl⟩
instance ty120 : Ty Tryd.prog 120 (Go.TypeDesc.func #[] #[119] false) Go.Value.nilFunc Tryd.t120 := ⟨Tryd.underlying120, Tryd.zeroValue120, rfl⟩
instance ty121 : Ty Tryd.prog 121 (Go.TypeDesc.func #[117] #[4] false) Go.Value.nilFunc Tryd.t121 := ⟨Tryd.underlying121, Tryd.zeroValue121, rfl⟩
instance ty122 : Ty Tryd.prog 122 (Go.TypeDesc.func #[38, 20, 114, 117] #[4] false) Go.Value.nilFunc Tryd.t122 := ⟨Tryd.underlying122, Tryd.zeroValue122, rfl⟩
instance ty123 : Ty Tryd.prog 123 (Go.TypeDesc.func #[54, 124] #[4] false) Go.Value.nilFunc Tryd.t123 := ⟨Tryd.underlying123, Tryd.zeroValue123, rfl⟩
instance ty124 : Ty Tryd.prog 124 (Go.TypeDesc.func #[58] #[4] false) Go.Value.nilFunc Tryd.t124 := ⟨Tryd.underlying124, Tryd.zeroValue124, rfl⟩
instance ty125 : Ty Tryd.prog 125 (Go.TypeDesc.func #[22, 93] #[3] false) Go.Value.nilFunc Tryd.t125 := ⟨Tryd.underlying125, Tryd.zeroValue125, rfl⟩
instance ty126 : Ty Tryd.prog 126 (Go.TypeDesc.func #[51, 127] #[4] false) Go.Value.nilFunc Tryd.t126 := ⟨Tryd.underlying126, Tryd.zeroValue126, rfl⟩
instance ty127 : Ty Tryd.prog 127 (Go.TypeDesc.func #[50] #[4] false) Go.Value.nilFunc Tryd.t127 := ⟨Tryd.underlying127, Tryd.zeroValue127, rfl⟩
instance ty128 : Ty Tryd.prog 128 (Go.TypeDesc.func #[23, 95] #[3] false) Go.Value.nilFunc Tryd.t128 := ⟨Tryd.underlying128, Tryd.zeroValue128, rfl⟩
instance ty129 : Ty Tryd.prog 129 (Go.TypeDesc.func #[3, 130] #[51] false) Go.Value.nilFunc Tryd.t129 := ⟨Tryd.underlying129, Tryd.zeroValue129, rfl⟩
instance ty130 : Ty Tryd.prog 130 (Go.TypeDesc.func #[] #[50] false) Go.Value.nilFunc Tryd.t130 := ⟨Tryd.underlying130, Tryd.zeroValue130, rfl⟩
instance ty131 : Ty Tryd.prog 131 (Go.TypeDesc.func #[3, 132] #[54] false) Go.Value.nilFunc Tryd.t131 := ⟨Tryd.underlying131, Tryd.zeroValue131, rfl⟩
instance ty132 : Ty Tryd.prog 132 (Go.TypeDesc.func #[] #[58] false) Go.Value.nilFunc Tryd.t132 := ⟨Tryd.underlying132, Tryd.zeroValue132, rfl⟩
instance ty133 : Ty Tryd.prog 133 (Go.TypeDesc.struct #[{ name := "Type", type := 17, offset := 0, embedded := true, tag := "", pkgPath := "", byteOffset := 0 }]) (Go.Value.agg #[Go.Value.pointer none]) Tryd.t133 := ⟨Tryd.underlying133, Tryd.zeroValue133, rfl⟩
instance ty134 : Ty Tryd.prog 134 (Go.TypeDesc.struct #[{ name := "Type", type := 17, offset := 0, embedded := true, tag := "", pkgPath := "", byteOffset := 0 }]) (Go.Value.agg #[Go.Value.pointer none]) Tryd.t134 := ⟨Tryd.underlying134, Tryd.zeroValue134, rfl⟩
instance ty135 : Ty Tryd.prog 135 (Go.TypeDesc.pointer 168) (Go.Value.pointer none) Tryd.t135 := ⟨Tryd.underlying135, Tryd.zeroValue135, rfl⟩
instance ty136 : Ty Tryd.prog 136 (Go.TypeDesc.func #[20] #[117] false) Go.Value.nilFunc Tryd.t136 := ⟨Tryd.underlying136, Tryd.zeroValue136, rfl⟩
instance ty137 : Ty Tryd.prog 137 (Go.TypeDesc.func #[] #[114] false) Go.Value.nilFunc Tryd.t137 := ⟨Tryd.underlying137, Tryd.zeroValue137, rfl⟩
instance ty138 : Ty Tryd.prog 138 (Go.TypeDesc.func #[114] #[] false) Go.Value.nilFunc Tryd.t138 := ⟨Tryd.underlying138, Tryd.zeroValue138, rfl⟩
instance ty139 : Ty Tryd.prog 139 (Go.TypeDesc.interface #[("As", 141)]) Go.Value.nilIface Tryd.t139 := ⟨Tryd.underlying139, Tryd.zeroValue139, rfl⟩
instance ty140 : Ty Tryd.prog 140 (Go.TypeDesc.tuple #[139, 4]) (Go.Value.tuple #[Go.Value.nilIface, Go.Value.bool false]) Tryd.t140 := ⟨Tryd.underlying140, Tryd.zeroValue140, rfl⟩
instance ty141 : Ty Tryd.prog 141 (Go.TypeDesc.func #[20] #[4] false) Go.Value.nilFunc Tryd.t141 := ⟨Tryd.underlying141, Tryd.zeroValue141, rfl⟩
instance ty142 : Ty Tryd.prog 142 (Go.TypeDesc.interface #[("Unwrap", 143)]) Go.Value.nilIface Tryd.t142 := ⟨Tryd.underlying142, Tryd.zeroValue142, rfl⟩
instance ty143 : Ty Tryd.prog 143 (Go.TypeDesc.func #[] #[38] false) Go.Value.nilFunc Tryd.t143 := ⟨Tryd.underlying143, Tryd.zeroValue143, rfl⟩
instance ty144 : Ty Tryd.prog 144 (Go.TypeDesc.interface #[("Unwrap", 146)]) Go.Value.nilIface Tryd.t144 := ⟨Tryd.underlying144, Tryd.zeroValue144, rfl⟩
instance ty145 : Ty Tryd.prog 145 (Go.TypeDesc.slice 38) (Go.Value.slice none 0 0) Tryd.t145 := ⟨Tryd.underlying145, Tryd.zeroValue145, rfl⟩
instance ty146 : Ty Tryd.prog 146 (Go.TypeDesc.func #[] #[145] false) Go.Value.nilFunc Tryd.t146 := ⟨Tryd.underlying146, Tryd.zeroValue146, rfl⟩
instance ty147 : Ty Tryd.prog 147 (Go.TypeDesc.func #[54, 124] #[3] false) Go.Value.nilFunc Tryd.t147 := ⟨Tryd.underlying147, Tryd.zeroValue147, rfl⟩
instance ty148 : Ty Tryd.prog 148 (Go.TypeDesc.func #[51, 127] #[3] false) Go.Value.nilFunc Tryd.t148 := ⟨Tryd.underlying148, Tryd.zeroValue148, rfl⟩
instance ty149 : Ty Tryd.prog 149 (Go.TypeDesc.func #[] #[9] false) Go.Value.nilFunc Tryd.t149 := ⟨Tryd.underlying149, Tryd.zeroValue149, rfl⟩
instance ty150 : Ty Tryd.prog 150 (Go.TypeDesc.struct #[{ name := "_interface", type := 17, offset := 0, embedded := false, tag := "", pkgPath := "runtime", byteOffset := 0 }, { name := "concrete", type := 17, offset := 1, embedded := false, tag := "", pkgPath := "runtime", byteOffset := 8 }, { name := "asserted", type := 17, offset := 2, embedded := false, tag := "", pkgPath := "runtime", byteOffset := 16 }, { name := "missingMethod", type := 9, offset := 3, embedded := false, tag := "", pkgPath := "runtime", byteOffset := 24 }]) (Go.Value.agg #[Go.Value.pointer none, Go.Value.pointer none, Go.Value.pointer none, Go.Value.string { data := #[] }]) Tryd.t150 := ⟨Tryd.underlying150, Tryd.zeroValue150, rfl⟩
instance ty151 : Ty Tryd.prog 151 (Go.TypeDesc.struct #[{ name := "_interface", type := 17, offset := 0, embedded := false, tag := "", pkgPath := "runtime", byteOffset := 0 }, { name := "concrete", type := 17, offset := 1, embedded := false, tag := "", pkgPath := "runtime", byteOffset := 8 }, { name := "asserted", type := 17, offset := 2, embedded := false, tag := "", pkgPath := "runtime", byteOffset := 16 }, { name := "missingMethod", type := 9, offset := 3, embedded := false, tag := "", pkgPath := "runtime", byteOffset := 24 }]) (Go.Value.agg #[Go.Value.pointer none, Go.Value.pointer none, Go.Value.pointer none, Go.Value.string { data := #[] }]) Tryd.t151 := ⟨Tryd.underlying151, Tryd.zeroValue151, rfl⟩
instance ty152 : Ty Tryd.prog 152 (Go.TypeDesc.array 0 16) (Go.Value.agg #[]) Tryd.t152 := ⟨Tryd.underlying152, Tryd.zeroValue152, rfl⟩
instance ty153 : Ty Tryd.prog 153 (Go.TypeDesc.struct #[{ name := "_", type := 152, offset := 0, embedded := false, tag := "", pkgPath := "runtime", byteOffset := 0 }]) (Go.Value.agg #[]) Tryd.t153 := ⟨Tryd.underlying153, Tryd.zeroValue153, rfl⟩
instance ty154 : Ty Tryd.prog 154 (Go.TypeDesc.struct #[{ name := "_", type := 152, offset := 0, embedded := false, tag := "", pkgPath := "runtime", byteOffset := 0 }]) (Go.Value.agg #[]) Tryd.t154 := ⟨Tryd.underlying154, Tryd.zeroValue154, rfl⟩
instance ty155 : Ty Tryd.prog 155 (Go.TypeDesc.func #[] #[3] false) Go.Value.nilFunc Tryd.t155 := ⟨Tryd.underlying155, Tryd.zeroValue155, rfl⟩
instance ty156 : Ty Tryd.prog 156 (Go.TypeDesc.func #[] #[17] false) Go.Value.nilFunc Tryd.t156 := ⟨Tryd.underlying156, Tryd.zeroValue156, rfl⟩
instance ty157 : Ty Tryd.prog 157 (Go.TypeDesc.int Go.IntKind.u32) (Go.Value.int Go.IntKind.u32 0) Tryd.t157 := ⟨Tryd.underlying157, Tryd.zeroValue157, rfl⟩
instance ty158 : Ty Tryd.prog 158 (Go.TypeDesc.int Go.IntKind.u8) (Go.Value.int Go.IntKind.u8 0) Tryd.t158 := ⟨Tryd.underlying158, Tryd.zeroValue158, rfl⟩
instance ty159 : Ty Tryd.prog 159 (Go.TypeDesc.func #[111, 111] #[4] false) Go.Value.nilFunc Tryd.t159 := ⟨Tryd.underlying159, Tryd.zeroValue159, rfl⟩
instance ty160 : Ty Tryd.prog 160 (Go.TypeDesc.pointer 5) (Go.Value.pointer none) Tryd.t160 := ⟨Tryd.underlying160, Tryd.zeroValue160, rfl⟩
instance ty161 : Ty Tryd.prog 161 (Go.TypeDesc.int Go.IntKind.i32) (Go.Value.int Go.IntKind.i32 0) Tryd.t161 := ⟨Tryd.underlying161, Tryd.zeroValue161, rfl⟩
instance ty162 : Ty Tryd.prog 162 (Go.TypeDesc.int Go.IntKind.i32) (Go.Value.int Go.IntKind.i32 0) Tryd.t162 := ⟨Tryd.underlying162, Tryd.zeroValue162, rfl⟩
instance ty163 : Ty Tryd.prog 163 (Go.TypeDesc.struct #[{ name := "Size_", type := 12, offset := 0, embedded := false, tag := "", pkgPath := "", byteOffset := 0 }, { name := "PtrBytes", type := 12, offset := 1, embedded := false, tag := "", pkgPath := "", byteOffset := 8 }, { name := "Hash", type := 157, offset := 2, embedded := false, tag := "", pkgPath := "", byteOffset := 16 }, { name := "TFlag", type := 158, offset := 3, embedded := false, tag := "", pkgPath := "", byteOffset := 20 }, { name := "Align_", type := 5, offset := 4, embedded := false, tag := "", pkgPath := "", byteOffset := 21 }, { name := "FieldAlign_", type := 5, offset := 5, embedded := false, tag := "", pkgPath := "", byteOffset := 22 }, { name := "Kind_", type := 119, offset := 6, embedded := false, tag := "", pkgPath := "", byteOffset := 23 }, { name := "Equal", type := 159, offset := 7, embedded := false, tag := "", pkgPath := "", byteOffset := 24 }, { name := "GCData", type := 160, offset := 8, embedded := false, tag := "", pkgPath := "", byteOffset := 32 }, { name := "Str", type := 161, offset := 9, embedded := false, tag := "", pkgPath := "", byteOffset := 40 }, { name := "PtrToThis", type := 162, offset := 10, embedded := false, tag := "", pkgPath := "", byteOffset := 44 }]) (Go.Value.agg #[Go.Value.int Go.IntKind.u64 0, Go.Value.int Go.IntKind.u64 0, Go.Value.int Go.IntKind.u32 0, Go.Value.int Go.IntKind.u8 0, Go.Value.int Go.IntKind.u8 0, Go.Value.int Go.IntKind.u8 0, Go.Value.int Go.IntKind.u8 0, Go.Value.nilFunc, Go.Value.pointer none, Go.Value.int Go.IntKind.i32 0, Go.Value.int Go.IntKind.i32 0]) Tryd.t163 := ⟨Tryd.underlying163, Tryd.zeroValue163, rfl⟩
instance ty164 : Ty Tryd.prog 164 (Go.TypeDesc.struct #[{ name := "Size_", type := 12, offset := 0, embedded := false, tag := "", pkgPath := "", byteOffset := 0 }, { name := "PtrBytes", type := 12, offset := 1, embedded := false, tag := "", pkgPath := "", byteOffset := 8 }, { name := "Hash", type := 157, offset := 2, embedded := false, tag := "", pkgPath := "", byteOffset := 16 }, { name := "TFlag", type := 158, offset := 3, embedded := false, tag := "", pkgPath := "", byteOffset := 20 }, { name := "Align_", type := 5, offset := 4, embedded := false, tag := "", pkgPath := "", byteOffset := 21 }, { name := "FieldAlign_", type := 5, offset := 5, embedded := false, tag := "", pkgPath := "", byteOffset := 22 }, { name := "Kind_", type := 119, offset := 6, embedded := false, tag := "", pkgPath := "", byteOffset := 23 }, { name := "Equal", type := 159, offset := 7, embedded := false, tag := "", pkgPath := "", byteOffset := 24 }, { name := "GCData", type := 160, offset := 8, embedded := false, tag := "", pkgPath := "", byteOffset := 32 }, { name := "Str", type := 161, offset := 9, embedded := false, tag := "", pkgPath := "", byteOffset := 40 }, { name := "PtrToThis", type := 162, offset := 10, embedded := false, tag := "", pkgPath := "", byteOffset := 44 }]) (Go.Value.agg #[Go.Value.int Go.IntKind.u64 0, Go.Value.int Go.IntKind.u64 0, Go.Value.int Go.IntKind.u32 0, Go.Value.int Go.IntKind.u8 0, Go.Value.int Go.IntKind.u8 0, Go.Value.int Go.IntKind.u8 0, Go.Value.int Go.IntKind.u8 0, Go.Value.nilFunc, Go.Value.pointer none, Go.Value.int Go.IntKind.i32 0, Go.Value.int Go.IntKind.i32 0]) Tryd.t164 := ⟨Tryd.underlying164, Tryd.zeroValue164, rfl⟩
instance ty165 : Ty Tryd.prog 165 (Go.TypeDesc.func #[] #[12] false) Go.Value.nilFunc Tryd.t165 := ⟨Tryd.underlying165, Tryd.zeroValue165, rfl⟩
instance ty166 : Ty Tryd.prog 166 (Go.TypeDesc.func #[] #[169] false) Go.Value.nilFunc Tryd.t166 := ⟨Tryd.underlying166, Tryd.zeroValue166, rfl⟩
instance ty167 : Ty Tryd.prog 167 (Go.TypeDesc.struct #[{ name := "Method", type := 9, offset := 0, embedded := false, tag := "", pkgPath := "", byteOffset := 0 }, { name := "Kind", type := 119, offset := 1, embedded := false, tag := "", pkgPath := "", byteOffset := 16 }]) (Go.Value.agg #[Go.Value.string { data := #[] }, Go.Value.int Go.IntKind.u8 0]) Tryd.t167 := ⟨Tryd.underlying167, Tryd.zeroValue167, rfl⟩
instance ty168 : Ty Tryd.prog 168 (Go.TypeDesc.struct #[{ name := "Method", type := 9, offset := 0, embedded := false, tag := "", pkgPath := "", byteOffset := 0 }, { name := "Kind", type := 119, offset := 1, embedded := false, tag := "", pkgPath := "", byteOffset := 16 }]) (Go.Value.agg #[Go.Value.string { data := #[] }, Go.Value.int Go.IntKind.u8 0]) Tryd.t168 := ⟨Tryd.underlying168, Tryd.zeroValue168, rfl⟩
instance ty169 : Ty Tryd.prog 169 (Go.TypeDesc.pointer 172) (Go.Value.pointer none) Tryd.t169 := ⟨Tryd.underlying169, Tryd.zeroValue169, rfl⟩
instance ty170 : Ty Tryd.prog 170 (Go.TypeDesc.func #[] #[173] false) Go.Value.nilFunc Tryd.t170 := ⟨Tryd.underlying170, Tryd.zeroValue170, rfl⟩
instance ty171 : Ty Tryd.prog 171 (Go.TypeDesc.struct #[{ name := "PkgPath", type := 161, offset := 0, embedded := false, tag := "", pkgPath := "", byteOffset := 0 }, { name := "Mcount", type := 26, offset := 1, embedded := false, tag := "", pkgPath := "", byteOffset := 4 }, { name := "Xcount", type := 26, offset := 2, embedded := false, tag := "", pkgPath := "", byteOffset := 6 }, { name := "Moff", type := 157, offset := 3, embedded := false, tag := "", pkgPath := "", byteOffset := 8 }, { name := "_", type := 157, offset := 4, embedded := false, tag := "", pkgPath := "internal/abi", byteOffset := 12 }]) (Go.Value.agg #[Go.Value.int Go.IntKind.i32 0, Go.Value.int Go.IntKind.u16 0, Go.Value.int Go.IntKind.u16 0, Go.Value.int Go.IntKind.u32 0, Go.Value.int Go.IntKind.u32 0]) Tryd.t171 := ⟨Tryd.underlying171, Tryd.zeroValue171, rfl⟩
instance ty172 : Ty Tryd.prog 172 (Go.TypeDesc.struct #[{ name := "PkgPath", type := 161, offset := 0, embedded := false, tag := "", pkgPath := "", byteOffset := 0 }, { name := "Mcount", type := 26, offset := 1, embedded := false, tag := "", pkgPath := "", byteOffset := 4 }, { name := "Xcount", type := 26, offset := 2, embedded := false, tag := "", pkgPath := "", byteOffset := 6 }, { name := "Moff", type := 157, offset := 3, embedded := false, tag := "", pkgPath := "", byteOffset := 8 }, { name := "_", type := 157, offset := 4, embedded := false, tag := "", pkgPath := "internal/abi", byteOffset := 12 }]) (Go.Value.agg #[Go.Value.int Go.IntKind.i32 0, Go.Value.int Go.IntKind.u16 0, Go.Value.int Go.IntKind.u16 0, Go.Value.int Go.IntKind.u32 0, Go.Value.int Go.IntKind.u32 0]) Tryd.t172 := ⟨Tryd.underlying172, Tryd.zeroValue172, rfl⟩
instance ty173 : Ty Tryd.prog 173 (Go.TypeDesc.slice 176) (Go.Value.slice none 0 0) Tryd.t173 := ⟨Tryd.underlying173, Tryd.zeroValue173, rfl⟩
instance ty174 : Ty Tryd.prog 174 (Go.TypeDesc.int Go.IntKind.i32) (Go.Value.int Go.IntKind.i32 0) Tryd.t174 := ⟨Tryd.underlying174, Tryd.zeroValue174, rfl⟩
instance ty175 : Ty Tryd.prog 175 (Go.TypeDesc.struct #[{ name := "Name", type := 161, offset := 0, embedded := false, tag := "", pkgPath := "", byteOffset := 0 }, { name := "Mtyp", type := 162, offset := 1, embedded := false, tag := "", pkgPath := "", byteOffset := 4 }, { name := "Ifn", type := 174, offset := 2, embedded := false, tag := "", pkgPath := "", byteOffset := 8 }, { name := "Tfn", type := 174, offset := 3, embedded := false, tag := "", pkgPath := "", byteOffset := 12 }]) (Go.Value.agg #[Go.Value.int Go.IntKind.i32 0, Go.Value.int Go.IntKind.i32 0, Go.Value.int Go.IntKind.i32 0, Go.Value.int Go.IntKind.i32 0]) Tryd.t175 := ⟨Tryd.underlying175, Tryd.zeroValue175, rfl⟩
instance ty176 : Ty Tryd.prog 176 (Go.TypeDesc.struct #[{ name := "Name", type := 161, offset := 0, embedded := false, tag := "", pkgPath := "", byteOffset := 0 }, { name := "Mtyp", type := 162, offset := 1, embedded := false, tag := "", pkgPath := "", byteOffset := 4 }, { name := "Ifn", type := 174, offset := 2, embedded := false, tag := "", pkgPath := "", byteOffset := 8 }, { name := "Tfn", type := 174, offset := 3, embedded := false, tag := "", pkgPath := "", byteOffset := 12 }]) (Go.Value.agg #[Go.Value.int Go.IntKind.i32 0, Go.Value.int Go.IntKind.i32 0, Go.Value.int Go.IntKind.i32 0, Go.Value.int Go.IntKind.i32 0]) Tryd.t176 := ⟨Tryd.underlying176, Tryd.zeroValue176, rfl⟩
instance ty177 : Ty Tryd.prog 177 (Go.TypeDesc.pointer 38) (Go.Value.pointer none) Tryd.t177 := ⟨Tryd.underlying177, Tryd.zeroValue177, rfl⟩
instance tyB7 : TyB Tryd.prog 7 (fun i => nth [(0, 1), (1, 1), (2, 1), (3, 1)] i) [Go.Value.int Go.IntKind.i64 0, Go.Value.int Go.IntKind.i64 0, Go.Value.bool false, Go.Value.int Go.IntKind.u8 0] := tyB_struct' Tryd.underlying7 Tryd.zeroValue7 rfl
instance tyB8 : TyB Tryd.prog 8 (fun i => nth [(0, 1), (1, 1), (2, 1), (3, 1)] i) [Go.Value.int Go.IntKind.i64 0, Go.Value.int Go.IntKind.i64 0, Go.Value.bool false, Go.Value.int Go.IntKind.u8 0] := tyB_struct' Tryd.underlying8 Tryd.zeroValue8 rfl
instance tyB13 : TyB Tryd.prog 13 (fun i => nth [(0, 1), (1, 1)] i) [Go.Value.string { data := #[] }, Go.Value.int Go.IntKind.u64 0] := tyB_struct' Tryd.underlying13 Tryd.zeroValue13 rfl
instance tyB14 : TyB Tryd.prog 14 (fun i => nth [(0, 1), (1, 1)] i) [Go.Value.string { data := #[] }, Go.Value.int Go.IntKind.u64 0] := tyB_struct' Tryd.underlying14 Tryd.zeroValue14 rfl
instance tyB18 : TyB Tryd.prog 18 (fun i => nth [(0, 1)] i) [Go.Value.pointer none] := tyB_struct' Tryd.underlying18 Tryd.zeroValue18 rfl
instance tyB19 : TyB Tryd.prog 19 (fun i => nth [(0, 1)] i) [Go.Value.pointer none] := tyB_struct' Tryd.underlying19 Tryd.zeroValue19 rfl
instance tyB24 : TyB Tryd.prog 24 (fun i => nth [(0, 1), (1, 1)] i) [Go.Value.slice none 0 0, Go.Value.slice none 0 0] := tyB_struct' Tryd.underlying24 Tryd.zeroValue24 rfl
instance tyB25 : TyB Tryd.prog 25 (fun i => nth [(0, 1), (1, 1)] i) [Go.Value.slice none 0 0, Go.Value.slice none 0 0] := tyB_struct' Tryd.underlying25 Tryd.zeroValue25 rfl
instance tyB42 : TyB Tryd.prog 42 (fun i => nth [(0, 1), (1, 1), (2, 1)] i) [Go.Value.int Go.IntKind.i64 0, Go.Value.int Go.IntKind.i64 0, Go.Value.int Go.IntKind.i64 0] := tyB_struct' Tryd.underlying42 Tryd.zeroValue42 rfl
instance tyB43 : TyB Tryd.prog 43 (fun i => nth [(0, 1), (1, 1), (2, 1)] i) [Go.Value.int Go.IntKind.i64 0, Go.Value.int Go.IntKind.i64 0, Go.Value.int Go.IntKind.i64 0] := tyB_struct' Tryd.underlying43 Tryd.zeroValue43 rfl
instance tyB52 : TyB Tryd.prog 52 (fun i => nth [(0, 1)] i) [Go.Value.slice none 0 0] := tyB_struct' Tryd.underlying52 Tryd.zeroValue52 rfl
instance tyB53 : TyB Tryd.prog 53 (fun i => nth [(0, 1)] i) [Go.Value.slice none 0 0] := tyB_struct' Tryd.underlying53 Tryd.zeroValue53 rfl
instance tyB55 : TyB Tryd.prog 55 (fun i => nth [(0, 1), (1, 1), (2, 1), (3, 1)] i) [Go.Value.slice none 0 0, Go.Value.int Go.IntKind.i64 0, Go.Value.int Go.IntKind.i64 0, Go.Value.slice none 0 0] := tyB_struct' Tryd.underlying55 Tryd.zeroValue55 rfl
instance tyB56 : TyB Tryd.prog 56 (fun i => nth [(0, 1), (1, 1), (2, 1), (3, 1)] i) [Go.Value.slice none 0 0, Go.Value.int Go.IntKind.i64 0, Go.Value.int Go.IntKind.i64 0, Go.Value.slice none 0 0] := tyB_struct' Tryd.underlying56 Tryd.zeroValue56 rfl
instance tyB57 : TyB Tryd.prog 57 (fun i => nth [(0, 1), (1, 1), (2, 1)] i) [Go.Value.int Go.IntKind.i64 0, Go.Value.int Go.IntKind.i64 0, Go.Value.int Go.IntKind.i64 0] := tyB_struct' Tryd.underlying57 Tryd.zeroValue57 rfl
instance tyB58 : TyB Tryd.prog 58 (fun i => nth [(0, 1), (1, 1), (2, 1)] i) [Go.Value.int Go.IntKind.i64 0, Go.Value.int Go.IntKind.i64 0, Go.Value.int Go.IntKind.i64 0] := tyB_struct' Tryd.underlying58 Tryd.zeroValue58 rfl
instance tyB64 : TyB Tryd.prog 64 (fun i => nth [(0, 1)] i) [Go.Value.slice none 0 0] := tyB_struct' Tryd.underlying64 Tryd.zeroValue64 rfl
instance tyB65 : TyB Tryd.prog 65 (fun i => nth [(0, 1)] i) [Go.Value.slice none 0 0] := tyB_struct' Tryd.underlying65 Tryd.zeroValue65 rfl
instance tyB73 : TyB Tryd.prog 73 (fun i => nth [(0, 1)] i) [Go.Value.pointer none] := tyB_struct' Tryd.underlying73 Tryd.zeroValue73 rfl
instance tyB74 : TyB Tryd.prog 74 (fun i => nth [(0, 1)] i) [Go.Value.pointer none] := tyB_struct' Tryd.underlying74 Tryd.zeroValue74 rfl
instance tyB77 : TyB Tryd.prog 77 (fun i => nth [(0, 1), (1, 1)] i) [Go.Value.string { data := #[] }, Go.Value.int Go.IntKind.i64 0] := tyB_struct' Tryd.underlying77 Tryd.zeroValue77 rfl
instance tyB78 : TyB Tryd.prog 78 (fun i => nth [(0, 1), (1, 1)] i) [Go.Value.string { data := #[] }, Go.Value.int Go.IntKind.i64 0] := tyB_struct' Tryd.underlying78 Tryd.zeroValue78 rfl
instance tyB98 : TyB Tryd.prog 98 (fun i => nth [(0, 1), (1, 1), (2, 1)] i) [Go.Value.string { data := #[] }, Go.Value.int Go.IntKind.i64 0, Go.Value.int Go.IntKind.i64 0] := tyB_struct' Tryd.underlying98 Tryd.zeroValue98 rfl
instance tyB99 : TyB Tryd.prog 99 (fun i => nth [(0, 1), (1, 1), (2, 1)] i) [Go.Value.string { data := #[] }, Go.Value.int Go.IntKind.i64 0, Go.Value.int Go.IntKind.i64 0] := tyB_struct' Tryd.underlying99 Tryd.zeroValue99 rfl
instance tyB113 : TyB Tryd.prog 113 (fun i => nth [(0, 1), (1, 1), (2, 1)] i) [Go.Value.pointer none, Go.Value.pointer none, Go.Value.int Go.IntKind.u64 0] := tyB_struct' Tryd.underlying113 Tryd.zeroValue113 rfl
instance tyB114 : TyB Tryd.prog 114 (fun i => nth [(0, 1), (1, 1), (2, 1)] i) [Go.Value.pointer none, Go.Value.pointer none, Go.Value.int Go.IntKind.u64 0] := tyB_struct' Tryd.underlying114 Tryd.zeroValue114 rfl
instance tyB133 : TyB Tryd.prog 133 (fun i => nth [(0, 1)] i) [Go.Value.pointer none] := tyB_struct' Tryd.underlying133 Tryd.zeroValue133 rfl
instance tyB134 : TyB Tryd.prog 134 (fun i => nth [(0, 1)] i) [Go.Value.pointer none] := tyB_struct' Tryd.underlying134 Tryd.zeroValue134 rfl
instance tyB150 : TyB Tryd.prog 150 (fun i => nth [(0, 1), (1, 1), (2, 1), (3, 1)] i) [Go.Value.pointer none, Go.Value.pointer none, Go.Value.pointer none, Go.Value.string { data := #[] }] := tyB_struct' Tryd.underlying150 Tryd.zeroValue150 rfl
instance tyB151 : TyB Tryd.prog 151 (fun i => nth [(0, 1), (1, 1), (2, 1), (3, 1)] i) [Go.Value.pointer none, Go.Value.pointer none, Go.Value.pointer none, Go.Value.string { data := #[] }] := tyB_struct' Tryd.underlying151 Tryd.zeroValue151 rfl
instance tyB153 : TyB Tryd.prog 153 (fun i => nth [(0, 0)] i) [] := tyB_struct' Tryd.underlying153 Tryd.zeroValue153 rfl
instance tyB154 : TyB Tryd.prog 154 (fun i => nth [(0, 0)] i) [] := tyB_struct' Tryd.underlying154 Tryd.zeroValue154 rfl
instance tyB163 : TyB Tryd.prog 163 (fun i => nth [(0, 1), (1, 1), (2, 1), (3, 1), (4, 1), (5, 1), (6, 1), (7, 1), (8, 1), (9, 1), (10, 1)] i) [Go.Value.int Go.IntKind.u64 0, Go.Value.int Go.IntKind.u64 0, Go.Value.int Go.IntKind.u32 0, Go.Value.int Go.IntKind.u8 0, Go.Value.int Go.IntKind.u8 0, Go.Value.int Go.IntKind.u8 0, Go.Value.int Go.IntKind.u8 0, Go.Value.nilFunc, Go.Value.pointer none, Go.Value.int Go.IntKind.i32 0, Go.Value.int Go.IntKind.i32 0] := tyB_struct' Tryd.underlying163 Tryd.zeroValue163 rfl
instance tyB164 : TyB Tryd.prog 164 (fun i => nth [(0, 1), (1, 1), (2, 1), (3, 1), (4, 1), (5, 1), (6, 1), (7, 1), (8, 1), (9, 1), (10, 1)] i) [Go.Value.int Go.IntKind.u64 0, Go.Value.int Go.IntKind.u64 0, Go.Value.int Go.IntKind.u32 0, Go.Value.int Go.IntKind.u8 0, Go.Value.int Go.IntKind.u8 0, Go.Value.int Go.IntKind.u8 0, Go.Value.int Go.IntKind.u8 0, Go.Value.nilFunc, Go.Value.pointer none, Go.Value.int Go.IntKind.i32 0, Go.Value.int Go.IntKind.i32 0] := tyB_struct' Tryd.underlying164 Tryd.zeroValue164 rfl
instance tyB167 : TyB Tryd.prog 167 (fun i => nth [(0, 1), (1, 1)] i) [Go.Value.string { data := #[] }, Go.Value.int Go.IntKind.u8 0] := tyB_struct' Tryd.underlying167 Tryd.zeroValue167 rfl
instance tyB168 : TyB Tryd.prog 168 (fun i => nth [(0, 1), (1, 1)] i) [Go.Value.string { data := #[] }, Go.Value.int Go.IntKind.u8 0] := tyB_struct' Tryd.underlying168 Tryd.zeroValue168 rfl
instance tyB171 : TyB Tryd.prog 171 (fun i => nth [(0, 1), (1, 1), (2, 1), (3, 1), (4, 1)] i) [Go.Value.int Go.IntKind.i32 0, Go.Value.int Go.IntKind.u16 0, Go.Value.int Go.IntKind.u16 0, Go.Value.int Go.IntKind.u32 0, Go.Value.int Go.IntKind.u32 0] := tyB_struct' Tryd.underlying171 Tryd.zeroValue171 rfl
instance tyB172 : TyB Tryd.prog 172 (fun i => nth [(0, 1), (1, 1), (2, 1), (3, 1), (4, 1)] i) [Go.Value.int Go.IntKind.i32 0, Go.Value.int Go.IntKind.u16 0, Go.Value.int Go.IntKind.u16 0, Go.Value.int Go.IntKind.u32 0, Go.Value.int Go.IntKind.u32 0] := tyB_struct' Tryd.underlying172 Tryd.zeroValue172 rfl
instance tyB175 : TyB Tryd.prog 175 (fun i => nth [(0, 1), (1, 1), (2, 1), (3, 1)] i) [Go.Value.int Go.IntKind.i32 0, Go.Value.int Go.IntKind.i32 0, Go.Value.int Go.IntKind.i32 0, Go.Value.int Go.IntKind.i32 0] := tyB_struct' Tryd.underlying175 Tryd.zeroValue175 rfl
instance tyB176 : TyB Tryd.prog 176 (fun i => nth [(0, 1), (1, 1), (2, 1), (3, 1)] i) [Go.Value.int Go.IntKind.i32 0, Go.Value.int Go.IntKind.i32 0, Go.Value.int Go.IntKind.i32 0, Go.Value.int Go.IntKind.i32 0] := tyB_struct' Tryd.underlying176 Tryd.zeroValue176 rfl
instance : TyF Tryd.prog 7 0 0 := tyF_mk (i := Tryd.t2) Tryd.underlying7 rfl rfl rfl rfl
instance : TyF Tryd.prog 7 1 1 := tyF_mk (i := Tryd.t3) Tryd.underlying7 rfl rfl rfl rfl
instance : TyF Tryd.prog 7 2 2 := tyF_mk (i := Tryd.t4) Tryd.underlying7 rfl rfl rfl rfl
instance : TyF Tryd.prog 7 3 3 := tyF_mk (i := Tryd.t6) Tryd.underlying7 rfl rfl rfl rfl
instance : TyF Tryd.prog 8 0 0 := tyF_mk (i := Tryd.t2) Tryd.underlying8 rfl rfl rfl rfl
instance : TyF Tryd.prog 8 1 1 := tyF_mk (i := Tryd.t3) Tryd.underlying8 rfl rfl rfl rfl
instance : TyF Tryd.prog 8 2 2 := tyF_mk (i := Tryd.t4) Tryd.underlying8 rfl rfl rfl rfl
instance : TyF Tryd.prog 8 3 3 := tyF_mk (i := Tryd.t6) Tryd.underlying8 rfl rfl rfl rfl
instance : TyF Tryd.prog 13 0 0 := tyF_mk (i := Tryd.t9) Tryd.underlying13 rfl rfl rfl rfl
instance : TyF Tryd.prog 13 1 1 := tyF_mk (i := Tryd.t12) Tryd.underlying13 rfl rfl rfl rfl
instance : TyF Tryd.prog 14 0 0 := tyF_mk (i := Tryd.t9) Tryd.underlying14 rfl rfl rfl rfl
instance : TyF Tryd.prog 14 1 1 := tyF_mk (i := Tryd.t12) Tryd.underlying14 rfl rfl rfl rfl
instance : TyF Tryd.prog 18 0 0 := tyF_mk (i := Tryd.t17) Tryd.underlying18 rfl rfl rfl rfl
instance : TyF Tryd.prog 19 0 0 := tyF_mk (i := Tryd.t17) Tryd.underlying19 rfl rfl rfl rfl
instance : TyF Tryd.prog 24 0 0 := tyF_mk (i := Tryd.t22) Tryd.underlying24 rfl rfl rfl rfl
instance : TyF Tryd.prog 24 1 1 := tyF_mk (i := Tryd.t23) Tryd.underlying24 rfl rfl rfl rfl
instance : TyF Tryd.prog 25 0 0 := tyF_mk (i := Tryd.t22) Tryd.underlying25 rfl rfl rfl rfl
instance : TyF Tryd.prog 25 1 1 := tyF_mk (i := Tryd.t23) Tryd.underlying25 rfl rfl rfl rfl
instance : TyF Tryd.prog 42 0 0 := tyF_mk (i := Tryd.t30) Tryd.underlying42 rfl rfl rfl rfl
instance : TyF Tryd.prog 42 1 1 := tyF_mk (i := Tryd.t3) Tryd.underlying42 rfl rfl rfl rfl
instance : TyF Tryd.prog 42 2 2 := tyF_mk (i := Tryd.t3) Tryd.underlying42 rfl rfl rfl rfl
instance : TyF Tryd.prog 43 0 0 := tyF_mk (i := Tryd.t30) Tryd.underlying43 rfl rfl rfl rfl
instance : TyF Tryd.prog 43 1 1 := tyF_mk (i := Tryd.t3) Tryd.underlying43 rfl rfl rfl rfl
instance : TyF Tryd.prog 43 2 2 := tyF_mk (i := Tryd.t3) Tryd.underlying43 rfl rfl rfl rfl
instance : TyF Tryd.prog 52 0 0 := tyF_mk (i := Tryd.t51) Tryd.underlying52 rfl rfl rfl rfl
instance : TyF Tryd.prog 53 0 0 := tyF_mk (i := Tryd.t51) Tryd.underlying53 rfl rfl rfl rfl
instance : TyF Tryd.prog 55 0 0 := tyF_mk (i := Tryd.t51) Tryd.underlying55 rfl rfl rfl rfl
instance : TyF Tryd.prog 55 1 1 := tyF_mk (i := Tryd.t3) Tryd.underlying55 rfl rfl rfl rfl
instance : TyF Tryd.prog 55 2 2 := tyF_mk (i := Tryd.t3) Tryd.underlying55 rfl rfl rfl rfl
instance : TyF Tryd.prog 55 3 3 := tyF_mk (i := Tryd.t54) Tryd.underlying55 rfl rfl rfl rfl
instance : TyF Tryd.prog 56 0 0 := tyF_mk (i := Tryd.t51) Tryd.underlying56 rfl rfl rfl rfl
instance : TyF Tryd.prog 56 1 1 := tyF_mk (i := Tryd.t3) Tryd.underlying56 rfl rfl rfl rfl
instance : TyF Tryd.prog 56 2 2 := tyF_mk (i := Tryd.t3) Tryd.underlying56 rfl rfl rfl rfl
instance : TyF Tryd.prog 56 3 3 := tyF_mk (i := Tryd.t54) Tryd.underlying56 rfl rfl rfl rfl
instance : TyF Tryd.prog 57 0 0 := tyF_mk (i := Tryd.t3) Tryd.underlying57 rfl rfl rfl rfl
instance : TyF Tryd.prog 57 1 1 := tyF_mk (i := Tryd.t3) Tryd.underlying57 rfl rfl rfl rfl
instance : TyF Tryd.prog 57 2 2 := tyF_mk (i := Tryd.t3) Tryd.underlying57 rfl rfl rfl rfl
instance : TyF Tryd.prog 58 0 0 := tyF_mk (i := Tryd.t3) Tryd.underlying58 rfl rfl rfl rfl
instance : TyF Tryd.prog 58 1 1 := tyF_mk (i := Tryd.t3) Tryd.underlying58 rfl rfl rfl rfl
instance : TyF Tryd.prog 58 2 2 := tyF_mk (i := Tryd.t3) Tryd.underlying58 rfl rfl rfl rfl
instance : TyF Tryd.prog 64 0 0 := tyF_mk (i := Tryd.t33) Tryd.underlying64 rfl rfl rfl rfl
instance : TyF Tryd.prog 65 0 0 := tyF_mk (i := Tryd.t33) Tryd.underlying65 rfl rfl rfl rfl
instance : TyF Tryd.prog 73 0 0 := tyF_mk (i := Tryd.t72) Tryd.underlying73 rfl rfl rfl rfl
instance : TyF Tryd.prog 74 0 0 := tyF_mk (i := Tryd.t72) Tryd.underlying74 rfl rfl rfl rfl
instance : TyF Tryd.prog 77 0 0 := tyF_mk (i := Tryd.t9) Tryd.underlying77 rfl rfl rfl rfl
instance : TyF Tryd.prog 77 1 1 := tyF_mk (i := Tryd.t3) Tryd.underlying77 rfl rfl rfl rfl
instance : TyF Tryd.prog 78 0 0 := tyF_mk (i := Tryd.t9) Tryd.underlying78 rfl rfl rfl rfl
instance : TyF Tryd.prog 78 1 1 := tyF_mk (i := Tryd.t3) Tryd.underlying78 rfl rfl rfl rfl
instance : TyF Tryd.prog 98 0 0 := tyF_mk (i := Tryd.t9) Tryd.underlying98 rfl rfl rfl rfl
instance : TyF Tryd.prog 98 1 1 := tyF_mk (i := Tryd.t3) Tryd.underlying98 rfl rfl rfl rfl
instance : TyF Tryd.prog 98 2 2 := tyF_mk (i := Tryd.t3) Tryd.underlying98 rfl rfl rfl rfl
instance : TyF Tryd.prog 99 0 0 := tyF_mk (i := Tryd.t9) Tryd.underlying99 rfl rfl rfl rfl
instance : TyF Tryd.prog 99 1 1 := tyF_mk (i := Tryd.t3) Tryd.underlying99 rfl rfl rfl rfl
instance : TyF Tryd.prog 99 2 2 := tyF_mk (i := Tryd.t3) Tryd.underlying99 rfl rfl rfl rfl
instance : TyF Tryd.prog 113 0 0 := tyF_mk (i := Tryd.t17) Tryd.underlying113 rfl rfl rfl rfl
instance : TyF Tryd.prog 113 1 1 := tyF_mk (i := Tryd.t111) Tryd.underlying113 rfl rfl rfl rfl
instance : TyF Tryd.prog 113 2 2 := tyF_mk (i := Tryd.t112) Tryd.underlying113 rfl rfl rfl rfl
instance : TyF Tryd.prog 114 0 0 := tyF_mk (i := Tryd.t17) Tryd.underlying114 rfl rfl rfl rfl
instance : TyF Tryd.prog 114 1 1 := tyF_mk (i := Tryd.t111) Tryd.underlying114 rfl rfl rfl rfl
instance : TyF Tryd.prog 114 2 2 := tyF_mk (i := Tryd.t112) Tryd.underlying114 rfl rfl rfl rfl
instance : TyF Tryd.prog 133 0 0 := tyF_mk (i := Tryd.t17) Tryd.underlying133 rfl rfl rfl rfl
instance : TyF Tryd.prog 134 0 0 := tyF_mk (i := Tryd.t17) Tryd.underlying134 rfl rfl rfl rfl
instance : TyF Tryd.prog 150 0 0 := tyF_mk (i := Tryd.t17) Tryd.underlying150 rfl rfl rfl rfl
instance : TyF Tryd.prog 150 1 1 := tyF_mk (i := Tryd.t17) Tryd.underlying150 rfl rfl rfl rfl
instance : TyF Tryd.prog 150 2 2 := tyF_mk (i := Tryd.t17) Tryd.underlying150 rfl rfl rfl rfl
instance : TyF Tryd.prog 150 3 3 := tyF_mk (i := Tryd.t9) Tryd.underlying150 rfl rfl rfl rfl
instance : TyF Tryd.prog 151 0 0 := tyF_mk (i := Tryd.t17) Tryd.underlying151 rfl rfl rfl rfl
instance : TyF Tryd.prog 151 1 1 := tyF_mk (i := Tryd.t17) Tryd.underlying151 rfl rfl rfl rfl
instance : TyF Tryd.prog 151 2 2 := tyF_mk (i := Tryd.t17) Tryd.underlying151 rfl rfl rfl rfl
instance : TyF Tryd.prog 151 3 3 := tyF_mk (i := Tryd.t9) Tryd.underlying151 rfl rfl rfl rfl
instance : TyF Tryd.prog 163 0 0 := tyF_mk (i := Tryd.t12) Tryd.underlying163 rfl rfl rfl rfl
instance : TyF Tryd.prog 163 1 1 := tyF_mk (i := Tryd.t12) Tryd.underlying163 rfl rfl rfl rfl
instance : TyF Tryd.prog 163 2 2 := tyF_mk (i := Tryd.t157) Tryd.underlying163 rfl rfl rfl rfl
instance : TyF Tryd.prog 163 3 3 := tyF_mk (i := Tryd.t158) Tryd.underlying163 rfl rfl rfl rfl
instance : TyF Tryd.prog 163 4 4 := tyF_mk (i := Tryd.t5) Tryd.underlying163 rfl rfl rfl rfl
instance : TyF Tryd.prog 163 5 5 := tyF_mk (i := Tryd.t5) Tryd.underlying163 rfl rfl rfl rfl
instance : TyF Tryd.prog 163 6 6 := tyF_mk (i := Tryd.t119) Tryd.underlying163 rfl rfl rfl rfl
instance : TyF Tryd.prog 163 7 7 := tyF_mk (i := Tryd.t159) Tryd.underlying163 rfl rfl rfl rfl
instance : TyF Tryd.prog 163 8 8 := tyF_mk (i := Tryd.t160) Tryd.underlying163 rfl rfl rfl rfl
instance : TyF Tryd.prog 163 9 9 := tyF_mk (i := Tryd.t161) Tryd.underlying163 rfl rfl rfl rfl
instance : TyF Tryd.prog 163 10 10 := tyF_mk (i := Tryd.t162) Tryd.underlying163 rfl rfl rfl rfl
instance : TyF Tryd.prog 164 0 0 := tyF_mk (i := Tryd.t12) Tryd.underlying164 rfl rfl rfl rfl
instance : TyF Tryd.prog 164 1 1 := tyF_mk (i := Tryd.t12) Tryd.underlying164 rfl rfl rfl rfl
instance : TyF Tryd.prog 164 2 2 := tyF_mk (i := Tryd.t157) Tryd.underlying164 rfl rfl rfl rfl
instance : TyF Tryd.prog 164 3 3 := tyF_mk (i := Tryd.t158) Tryd.underlying164 rfl rfl rfl rfl
instance : TyF Tryd.prog 164 4 4 := tyF_mk (i := Tryd.t5) Tryd.underlying164 rfl rfl rfl rfl
instance : TyF Tryd.prog 164 5 5 := tyF_mk (i := Tryd.t5) Tryd.underlying164 rfl rfl rfl rfl
instance : TyF Tryd.prog 164 6 6 := tyF_mk (i := Tryd.t119) Tryd.underlying164 rfl rfl rfl rfl
instance : TyF Tryd.prog 164 7 7 := tyF_mk (i := Tryd.t159) Tryd.underlying164 rfl rfl rfl rfl
instance : TyF Tryd.prog 164 8 8 := tyF_mk (i := Tryd.t160) Tryd.underlying164 rfl rfl rfl rfl
instance : TyF Tryd.prog 164 9 9 := tyF_mk (i := Tryd.t161) Tryd.underlying164 rfl rfl rfl rfl
instance : TyF Tryd.prog 164 10 10 := tyF_mk (i := Tryd.t162) Tryd.underlying164 rfl rfl rfl rfl
instance : TyF Tryd.prog 167 0 0 := tyF_mk (i := Tryd.t9) Tryd.underlying167 rfl rfl rfl rfl
instance : TyF Tryd.prog 167 1 1 := tyF_mk (i := Tryd.t119) Tryd.underlying167 rfl rfl rfl rfl
instance : TyF Tryd.prog 168 0 0 := tyF_mk (i := Tryd.t9) Tryd.underlying168 rfl rfl rfl rfl
instance : TyF Tryd.prog 168 1 1 := tyF_mk (i := Tryd.t119) Tryd.underlying168 rfl rfl rfl rfl
instance : TyF Tryd.prog 171 0 0 := tyF_mk (i := Tryd.t161) Tryd.underlying171 rfl rfl rfl rfl
instance : TyF Tryd.prog 171 1 1 := tyF_mk (i := Tryd.t26) Tryd.underlying171 rfl rfl rfl rfl
instance : TyF Tryd.prog 171 2 2 := tyF_mk (i := Tryd.t26) Tryd.underlying171 rfl rfl rfl rfl
instance : TyF Tryd.prog 171 3 3 := tyF_mk (i := Tryd.t157) Tryd.underlying171 rfl rfl rfl rfl
instance : TyF Tryd.prog 171 4 4 := tyF_mk (i := Tryd.t157) Tryd.underlying171 rfl rfl rfl rfl
instance : TyF Tryd.prog 172 0 0 := tyF_mk (i := Tryd.t161) Tryd.underlying172 rfl rfl rfl rfl
instance : TyF Tryd.prog 172 1 1 := tyF_mk (i := Tryd.t26) Tryd.underlying172 rfl rfl rfl rfl
instance : TyF Tryd.prog 172 2 2 := tyF_mk (i := Tryd.t26) Tryd.underlying172 rfl rfl rfl rfl
instance : TyF Tryd.prog 172 3 3 := tyF_mk (i := Tryd.t157) Tryd.underlying172 rfl rfl rfl rfl
instance : TyF Tryd.prog 172 4 4 := tyF_mk (i := Tryd.t157) Tryd.underlying172 rfl rfl rfl rfl
instance : TyF Tryd.prog 175 0 0 := tyF_mk (i := Tryd.t161) Tryd.underlying175 rfl rfl rfl rfl
instance : TyF Tryd.prog 175 1 1 := tyF_mk (i := Tryd.t162) Tryd.underlying175 rfl rfl rfl rfl
instance : TyF Tryd.prog 175 2 2 := tyF_mk (i := Tryd.t174) Tryd.underlying175 rfl rfl rfl rfl
instance : TyF Tryd.prog 175 3 3 := tyF_mk (i := Tryd.t174) Tryd.underlying175 rfl rfl rfl rfl
instance : TyF Tryd.prog 176 0 0 := tyF_mk (i := Tryd.t161) Tryd.underlying176 rfl rfl rfl rfl
instance : TyF Tryd.prog 176 1 1 := tyF_mk (i := Tryd.t162) Tryd.underlying176 rfl rfl rfl rfl
instance : TyF Tryd.prog 176 2 2 := tyF_mk (i := Tryd.t174) Tryd.underlying176 rfl rfl rfl rfl
instance : TyF Tryd.prog 176 3 3 := tyF_mk (i := Tryd.t174) Tryd.underlying176 rfl rfl rfl rfl
instance : TyS Tryd.prog 0 := tyS_mk Tryd.underlying0 rfl
instance : TyS Tryd.prog 1 := tyS_mk Tryd.underlying1 rfl
instance : TyS Tryd.prog 2 := tyS_mk Tryd.underlying2 rfl
instance : TyS Tryd.prog 3 := tyS_mk Tryd.underlying3 rfl
instance : TyS Tryd.prog 4 := tyS_mk Tryd.underlying4 rfl
instance : TyS Tryd.prog 5 := tyS_mk Tryd.underlying5 rfl
instance : TyS Tryd.prog 6 := tyS_mk Tryd.underlying6 rfl
instance : TyA Tryd.prog 7 4 := tyA_mk (i := Tryd.t7) Tryd.underlying7 rfl rfl rfl
instance : TyA Tryd.prog 8 4 := tyA_mk (i := Tryd.t8) Tryd.underlying8 rfl rfl rfl
instance : TyS Tryd.prog 9 := tyS_mk Tryd.underlying9 rfl
instance : TyS Tryd.prog 10 := tyS_mk Tryd.underlying10 rfl
instance : TyS Tryd.prog 11 := tyS_mk Tryd.underlying11 rfl
instance : TyS Tryd.prog 12 := tyS_mk Tryd.underlying12 rfl
instance : TyA Tryd.prog 13 2 := tyA_mk (i := Tryd.t13) Tryd.underlying13 rfl rfl rfl
instance : TyA Tryd.prog 14 2 := tyA_mk (i := Tryd.t14) Tryd.underlying14 rfl rfl rfl
instance : TyS Tryd.prog 15 := tyS_mk Tryd.underlying15 rfl
instance : TyS Tryd.prog 16 := tyS_mk Tryd.underlying16 rfl
instance : TyS Tryd.prog 17 := tyS_mk Tryd.underlying17 rfl
instance : TyA Tryd.prog 18 1 := tyA_mk (i := Tryd.t18) Tryd.underlying18 rfl rfl rfl
instance : TyA Tryd.prog 19 1 := tyA_mk (i := Tryd.t19) Tryd.underlying19 rfl rfl rfl
instance : TyS Tryd.prog 20 := tyS_mk Tryd.underlying20 rfl
instance : TyS Tryd.prog 21 := tyS_mk Tryd.underlying21 rfl
instance : TyS Tryd.prog 22 := tyS_mk Tryd.underlying22 rfl
instance : TyE Tryd.prog 22 53 1 := tyE_mk (i := Tryd.t53) Tryd.underlying22 rfl rfl
instance : TyG Tryd.prog 22 53 1 24 := tyG_mk (i := Tryd.t53) (z := (Go.Value.agg #[Go.Value.slice none 0 0])) Tryd.underlying22 rfl rfl rfl rfl rfl
instance : TyS Tryd.prog 23 := tyS_mk Tryd.underlying23 rfl
instance : TyE Tryd.prog 23 56 4 := tyE_mk (i := Tryd.t56) Tryd.underlying23 rfl rfl
instance : TyG Tryd.prog 23 56 4 64 := tyG_mk (i := Tryd.t56) (z := (Go.Value.agg #[Go.Value.slice none 0 0, Go.Value.int Go.IntKind.i64 0, Go.Value.int Go.IntKind.i64 0, Go.Value.slice none 0 0])) Tryd.underlying23 rfl rfl rfl rfl rfl
instance : TyA Tryd.prog 24 2 := tyA_mk (i := Tryd.t24) Tryd.underlying24 rfl rfl rfl
instance : TyA Tryd.prog 25 2 := tyA_mk (i := Tryd.t25) Tryd.underlying25 rfl rfl rfl
instance : TyS Tryd.prog 26 := tyS_mk Tryd.underlying26 rfl
instance : TyA Tryd.prog 27 3 := tyA_mk (i := Tryd.t27) Tryd.underlying27 rfl rfl rfl
instance : TyR Tryd.prog 27 3 26 1 := tyR_mk (i := Tryd.t26) Tryd.underlying27 rfl rfl
instance : TyS Tryd.prog 28 := tyS_mk Tryd.underlying28 rfl
instance : TyA Tryd.prog 29 4 := tyA_mk (i := Tryd.t29) Tryd.underlying29 rfl rfl rfl
instance : TyR Tryd.prog 29 2 25 2 := tyR_mk (i := Tryd.t25) Tryd.underlying29 rfl rfl
instance : TyS Tryd.prog 30 := tyS_mk Tryd.underlying30 rfl
instance : TyS Tryd.prog 31 := tyS_mk Tryd.underlying31 rfl
instance : TyS Tryd.prog 32 := tyS_mk Tryd.underlying32 rfl
instance : TyS Tryd.prog 33 := tyS_mk Tryd.underlying33 rfl
instance : TyE Tryd.prog 33 5 1 := tyE_mk (i := Tryd.t5) Tryd.underlying33 rfl rfl
instance : TyG Tryd.prog 33 5 1 1 := tyG_mk (i := Tryd.t5) (z := (Go.Value.int Go.IntKind.u8 0)) Tryd.underlying33 rfl rfl rfl rfl rfl
instance : TyS Tryd.prog 34 := tyS_mk Tryd.underlying34 rfl
instance : TyS Tryd.prog 35 := tyS_mk Tryd.underlying35 rfl
instance : TyS Tryd.prog 36 := tyS_mk Tryd.underlying36 rfl
instance : TyS Tryd.prog 37 := tyS_mk Tryd.underlying37 rfl
instance : TyS Tryd.prog 38 := tyS_mk Tryd.underlying38 rfl
instance : TyS Tryd.prog 39 := tyS_mk Tryd.underlying39 rfl
instance : TyS Tryd.prog 40 := tyS_mk Tryd.underlying40 rfl
instance : TyS Tryd.prog 41 := tyS_mk Tryd.underlying41 rfl
instance : TyA Tryd.prog 42 3 := tyA_mk (i := Tryd.t42) Tryd.underlying42 rfl rfl rfl
instance : TyA Tryd.prog 43 3 := tyA_mk (i := Tryd.t43) Tryd.underlying43 rfl rfl rfl
instance : TyS Tryd.prog 44 := tyS_mk Tryd.underlying44 rfl
instance : TyS Tryd.prog 45 := tyS_mk Tryd.underlying45 rfl
instance : TyA Tryd.prog 46 2 := tyA_mk (i := Tryd.t46) Tryd.underlying46 rfl rfl rfl
instance : TyR Tryd.prog 46 2 9 1 := tyR_mk (i := Tryd.t9) Tryd.underlying46 rfl rfl
instance : TyS Tryd.prog 47 := tyS_mk Tryd.underlying47 rfl
instance : TyS Tryd.prog 48 := tyS_mk Tryd.underlying48 rfl
instance : TyS Tryd.prog 49 := tyS_mk Tryd.underlying49 rfl
instance : TyS Tryd.prog 50 := tyS_mk Tryd.underlying50 rfl
instance : TyS Tryd.prog 51 := tyS_mk Tryd.underlying51 rfl
instance : TyE Tryd.prog 51 50 1 := tyE_mk (i := Tryd.t50) Tryd.underlying51 rfl rfl
instance : TyG Tryd.prog 51 50 1 8 := tyG_mk (i := Tryd.t50) (z := (Go.Value.int Go.IntKind.i64 0)) Tryd.underlying51 rfl rfl rfl rfl rfl
instance : TyA Tryd.prog 52 1 := tyA_mk (i := Tryd.t52) Tryd.underlying52 rfl rfl rfl
instance : TyA Tryd.prog 53 1 := tyA_mk (i := Tryd.t53) Tryd.underlying53 rfl rfl rfl
instance : TyS Tryd.prog 54 := tyS_mk Tryd.underlying54 rfl
instance : TyE Tryd.prog 54 58 3 := tyE_mk (i := Tryd.t58) Tryd.underlying54 rfl rfl
instance : TyG Tryd.prog 54 58 3 24 := tyG_mk (i := Tryd.t58) (z := (Go.Value.agg #[Go.Value.int Go.IntKind.i64 0, Go.Value.int Go.IntKind.i64 0, Go.Value.int Go.IntKind.i64 0])) Tryd.underlying54 rfl rfl rfl rfl rfl
instance : TyA Tryd.prog 55 4 := tyA_mk (i := Tryd.t55) Tryd.underlying55 rfl rfl rfl
instance : TyA Tryd.prog 56 4 := tyA_mk (i := Tryd.t56) Tryd.underlying56 rfl rfl rfl
instance : TyA Tryd.prog 57 3 := tyA_mk (i := Tryd.t57) Tryd.underlying57 rfl rfl rfl
instance : TyA Tryd.prog 58 3 := tyA_mk (i := Tryd.t58) Tryd.underlying58 rfl rfl rfl
instance : TyS Tryd.prog 59 := tyS_mk Tryd.underlying59 rfl
instance : TyE Tryd.prog 59 25 2 := tyE_mk (i := Tryd.t25) Tryd.underlying59 rfl rfl
instance : TyG Tryd.prog 59 25 2 48 := tyG_mk (i := Tryd.t25) (z := (Go.Value.agg #[Go.Value.slice none 0 0, Go.Value.slice none 0 0])) Tryd.underlying59 rfl rfl rfl rfl rfl
instance : TyS Tryd.prog 60 := tyS_mk Tryd.underlying60 rfl
instance : TyS Tryd.prog 61 := tyS_mk Tryd.underlying61 rfl
instance : TyS Tryd.prog 62 := tyS_mk Tryd.underlying62 rfl
instance : TyS Tryd.prog 63 := tyS_mk Tryd.underlying63 rfl
instance : TyA Tryd.prog 64 1 := tyA_mk (i := Tryd.t64) Tryd.underlying64 rfl rfl rfl
instance : TyA Tryd.prog 65 1 := tyA_mk (i := Tryd.t65) Tryd.underlying65 rfl rfl rfl
instance : TyS Tryd.prog 66 := tyS_mk Tryd.underlying66 rfl
instance : TyS Tryd.prog 67 := tyS_mk Tryd.underlying67 rfl
instance : TyS Tryd.prog 68 := tyS_mk Tryd.underlying68 rfl
instance : TyS Tryd.prog 69 := tyS_mk Tryd.underlying69 rfl
instance : TyS Tryd.prog 70 := tyS_mk Tryd.underlying70 rfl
instance : TyS Tryd.prog 71 := tyS_mk Tryd.underlying71 rfl
instance : TyS Tryd.prog 72 := tyS_mk Tryd.underlying72 rfl
instance : TyA Tryd.prog 73 1 := tyA_mk (i := Tryd.t73) Tryd.underlying73 rfl rfl rfl
instance : TyA Tryd.prog 74 1 := tyA_mk (i := Tryd.t74) Tryd.underlying74 rfl rfl rfl
instance : TyS Tryd.prog 75 := tyS_mk Tryd.underlying75 rfl
instance : TyS Tryd.prog 76 := tyS_mk Tryd.underlying76 rfl
instance : TyA Tryd.prog 77 2 := tyA_mk (i := Tryd.t77) Tryd.underlying77 rfl rfl rfl
instance : TyA Tryd.prog 78 2 := tyA_mk (i := Tryd.t78) Tryd.underlying78 rfl rfl rfl
instance : TyS Tryd.prog 79 := tyS_mk Tryd.underlying79 rfl
instance : TyS Tryd.prog 80 := tyS_mk Tryd.underlying80 rfl
instance : TyS Tryd.prog 81 := tyS_mk Tryd.underlying81 rfl
instance : TyS Tryd.prog 82 := tyS_mk Tryd.underlying82 rfl
instance : TyS Tryd.prog 83 := tyS_mk Tryd.underlying83 rfl
instance : TyS Tryd.prog 84 := tyS_mk Tryd.underlying84 rfl
instance : TyS Tryd.prog 85 := tyS_mk Tryd.underlying85 rfl
instance : TyS Tryd.prog 86 := tyS_mk Tryd.underlying86 rfl
instance : TyS Tryd.prog 87 := tyS_mk Tryd.underlying87 rfl
instance : TyS Tryd.prog 88 := tyS_mk Tryd.underlying88 rfl
instance : TyS Tryd.prog 89 := tyS_mk Tryd.underlying89 rfl
instance : TyS Tryd.prog 90 := tyS_mk Tryd.underlying90 rfl
instance : TyS Tryd.prog 91 := tyS_mk Tryd.underlying91 rfl
instance : TyS Tryd.prog 92 := tyS_mk Tryd.underlying92 rfl
instance : TyS Tryd.prog 93 := tyS_mk Tryd.underlying93 rfl
instance : TyS Tryd.prog 94 := tyS_mk Tryd.underlying94 rfl
instance : TyS Tryd.prog 95 := tyS_mk Tryd.underlying95 rfl
instance : TyS Tryd.prog 96 := tyS_mk Tryd.underlying96 rfl
instance : TyS Tryd.prog 97 := tyS_mk Tryd.underlying97 rfl
instance : TyA Tryd.prog 98 3 := tyA_mk (i := Tryd.t98) Tryd.underlying98 rfl rfl rfl
instance : TyA Tryd.prog 99 3 := tyA_mk (i := Tryd.t99) Tryd.underlying99 rfl rfl rfl
instance : TyS Tryd.prog 100 := tyS_mk Tryd.underlying100 rfl
instance : TyS Tryd.prog 101 := tyS_mk Tryd.underlying101 rfl
instance : TyS Tryd.prog 102 := tyS_mk Tryd.underlying102 rfl
instance : TyS Tryd.prog 103 := tyS_mk Tryd.underlying103 rfl
instance : TyS Tryd.prog 104 := tyS_mk Tryd.underlying104 rfl
instance : TyS Tryd.prog 105 := tyS_mk Tryd.underlying105 rfl
instance : TyS Tryd.prog 106 := tyS_mk Tryd.underlying106 rfl
instance : TyS Tryd.prog 107 := tyS_mk Tryd.underlying107 rfl
instance : TyS Tryd.prog 108 := tyS_mk Tryd.underlying108 rfl
instance : TyS Tryd.prog 109 := tyS_mk Tryd.underlying109 rfl
instance : TyS Tryd.prog 110 := tyS_mk Tryd.underlying110 rfl
instance : TyS Tryd.prog 111 := tyS_mk Tryd.underlying111 rfl
instance : TyS Tryd.prog 112 := tyS_mk Tryd.underlying112 rfl
instance : TyA Tryd.prog 113 3 := tyA_mk (i := Tryd.t113) Tryd.underlying113 rfl rfl rfl
instance : TyA Tryd.prog 114 3 := tyA_mk (i := Tryd.t114) Tryd.underlying114 rfl rfl rfl
instance : TyS Tryd.prog 115 := tyS_mk Tryd.underlying115 rfl
instance : TyS Tryd.prog 116 := tyS_mk Tryd.underlying116 rfl
instance : TyS Tryd.prog 117 := tyS_mk Tryd.underlying117 rfl
instance : TyS Tryd.prog 118 := tyS_mk Tryd.underlying118 rfl
instance : TyS Tryd.prog 119 := tyS_mk Tryd.underlying119 rfl
instance : TyS Tryd.prog 120 := tyS_mk Tryd.underlying120 rfl
instance : TyS Tryd.prog 121 := tyS_mk Tryd.underlying121 rfl
instance : TyS Tryd.prog 122 := tyS_mk Tryd.underlying122 rfl
instance : TyS Tryd.prog 123 := tyS_mk Tryd.underlying123 rfl
instance : TyS Tryd.prog 124 := tyS_mk Tryd.underlying124 rfl
instance : TyS Tryd.prog 125 := tyS_mk Tryd.underlying125 rfl
instance : TyS Tryd.prog 126 := tyS_mk Tryd.underlying126 rfl
instance : TyS Tryd.prog 127 := tyS_mk Tryd.underlying127 rfl
instance : TyS Tryd.prog 128 := tyS_mk Tryd.underlying128 rfl
instance : TyS Tryd.prog 129 := tyS_mk Tryd.underlying129 rfl
instance : TyS Tryd.prog 130 := tyS_mk Tryd.underlying130 rfl
instance : TyS Tryd.prog 131 := tyS_mk Tryd.underlying131 rfl
instance : TyS Tryd.prog 132 := tyS_mk Tryd.underlying132 rfl
instance : TyA Tryd.prog 133 1 := tyA_mk (i := Tryd.t133) Tryd.underlying133 rfl rfl rfl
instance : TyA Tryd.prog 134 1 := tyA_mk (i := Tryd.t134) Tryd.underlying134 rfl rfl rfl
instance : TyS Tryd.prog 135 := tyS_mk Tryd.underlying135 rfl
instance : TyS Tryd.prog 136 := tyS_mk Tryd.underlying136 rfl
instance : TyS Tryd.prog 137 := tyS_mk Tryd.underlying137 rfl
instance : TyS Tryd.prog 138 := tyS_mk Tryd.underlying138 rfl
instance : TyS Tryd.prog 139 := tyS_mk Tryd.underlying139 rfl
instance : TyS Tryd.prog 140 := tyS_mk Tryd.underlying140 rfl
instance : TyS Tryd.prog 141 := tyS_mk Tryd.underlying141 rfl
instance : TyS Tryd.prog 142 := tyS_mk Tryd.underlying142 rfl
instance : TyS Tryd.prog 143 := tyS_mk Tryd.underlying143 rfl
instance : TyS Tryd.prog 144 := tyS_mk Tryd.underlying144 rfl
instance : TyS Tryd.prog 145 := tyS_mk Tryd.underlying145 rfl
instance : TyE Tryd.prog 145 38 1 := tyE_mk (i := Tryd.t38) Tryd.underlying145 rfl rfl
instance : TyG Tryd.prog 145 38 1 16 := tyG_mk (i := Tryd.t38) (z := Go.Value.nilIface) Tryd.underlying145 rfl rfl rfl rfl rfl
instance : TyS Tryd.prog 146 := tyS_mk Tryd.underlying146 rfl
instance : TyS Tryd.prog 147 := tyS_mk Tryd.underlying147 rfl
instance : TyS Tryd.prog 148 := tyS_mk Tryd.underlying148 rfl
instance : TyS Tryd.prog 149 := tyS_mk Tryd.underlying149 rfl
instance : TyA Tryd.prog 150 4 := tyA_mk (i := Tryd.t150) Tryd.underlying150 rfl rfl rfl
instance : TyA Tryd.prog 151 4 := tyA_mk (i := Tryd.t151) Tryd.underlying151 rfl rfl rfl
instance : TyA Tryd.prog 152 0 := tyA_mk (i := Tryd.t152) Tryd.underlying152 rfl rfl rfl
instance : TyR Tryd.prog 152 0 16 1 := tyR_mk (i := Tryd.t16) Tryd.underlying152 rfl rfl
instance : TyA Tryd.prog 153 0 := tyA_mk (i := Tryd.t153) Tryd.underlying153 rfl rfl rfl
instance : TyA Tryd.prog 154 0 := tyA_mk (i := Tryd.t154) Tryd.underlying154 rfl rfl rfl
instance : TyS Tryd.prog 155 := tyS_mk Tryd.underlying155 rfl
instance : TyS Tryd.prog 156 := tyS_mk Tryd.underlying156 rfl
instance : TyS Tryd.prog 157 := tyS_mk Tryd.underlying157 rfl
instance : TyS Tryd.prog 158 := tyS_mk Tryd.underlying158 rfl
instance : TyS Tryd.prog 159 := tyS_mk Tryd.underlying159 rfl
instance : TyS Tryd.prog 160 := tyS_mk Tryd.underlying160 rfl
instance : TyS Tryd.prog 161 := tyS_mk Tryd.underlying161 rfl
instance : TyS Tryd.prog 162 := tyS_mk Tryd.underlying162 rfl
instance : TyA Tryd.prog 163 11 := tyA_mk (i := Tryd.t163) Tryd.underlying163 rfl rfl rfl
instance : TyA Tryd.prog 164 11 := tyA_mk (i := Tryd.t164) Tryd.underlying164 rfl rfl rfl
instance : TyS Tryd.prog 165 := tyS_mk Tryd.underlying165 rfl
instance : TyS Tryd.prog 166 := tyS_mk Tryd.underlying166 rfl
instance : TyA Tryd.prog 167 2 := tyA_mk (i := Tryd.t167) Tryd.underlying167 rfl rfl rfl
instance : TyA Tryd.prog 168 2 := tyA_mk (i := Tryd.t168) Tryd.underlying168 rfl rfl rfl
instance : TyS Tryd.prog 169 := tyS_mk Tryd.underlying169 rfl
instance : TyS Tryd.prog 170 := tyS_mk Tryd.underlying170 rfl
instance : TyA Tryd.prog 171 5 := tyA_mk (i := Tryd.t171) Tryd.underlying171 rfl rfl rfl
instance : TyA Tryd.prog 172 5 := tyA_mk (i := Tryd.t172) Tryd.underlying172 rfl rfl rfl
instance : TyS Tryd.prog 173 := tyS_mk Tryd.underlying173 rfl
instance : TyE Tryd.prog 173 176 4 := tyE_mk (i := Tryd.t176) Tryd.underlying173 rfl rfl
instance : TyG Tryd.prog 173 176 4 16 := tyG_mk (i := Tryd.t176) (z := (Go.Value.agg #[Go.Value.int Go.IntKind.i32 0, Go.Value.int Go.IntKind.i32 0, Go.Value.int Go.IntKind.i32 0, Go.Value.int Go.IntKind.i32 0])) Tryd.underlying173 rfl rfl rfl rfl rfl
instance : TyS Tryd.prog 174 := tyS_mk Tryd.underlying174 rfl
instance : TyA Tryd.prog 175 4 := tyA_mk (i := Tryd.t175) Tryd.underlying175 rfl rfl rfl
instance : TyA Tryd.prog 176 4 := tyA_mk (i := Tryd.t176) Tryd.underlying176 rfl rfl rfl
instance : TyS Tryd.prog 177 := tyS_mk Tryd.underlying177 rfl
instance : TyQ Tryd.prog 42 [(0, 0), (1, 0), (2, 0)] := ⟨rfl, by kernel_rfl, by kernel_rfl, by kernel_rfl, rfl⟩
instance : TyQ Tryd.prog 43 [(0, 0), (1, 0), (2, 0)] := ⟨rfl, by kernel_rfl, by kernel_rfl, by kernel_rfl, rfl⟩
instance : TyQ Tryd.prog 57 [(0, 0), (1, 0), (2, 0)] := ⟨rfl, by kernel_rfl, by kernel_rfl, by kernel_rfl, rfl⟩
instance : TyQ Tryd.prog 58 [(0, 0), (1, 0), (2, 0)] := ⟨rfl, by kernel_rfl, by kernel_rfl, by kernel_rfl, rfl⟩
instance : TyQ Tryd.prog 77 [(0, 2), (1, 0)] := ⟨rfl, by kernel_rfl, by kernel_rfl, by kernel_rfl, rfl⟩
instance : TyQ Tryd.prog 78 [(0, 2), (1, 0)] := ⟨rfl, by kernel_rfl, by kernel_rfl, by kernel_rfl, rfl⟩
instance : TyQ Tryd.prog 98 [(0, 2), (1, 0), (2, 0)] := ⟨rfl, by kernel_rfl, by kernel_rfl, by kernel_rfl, rfl⟩
instance : TyQ Tryd.prog 99 [(0, 2), (1, 0), (2, 0)] := ⟨rfl, by kernel_rfl, by kernel_rfl, by kernel_rfl, rfl⟩
instance : Enters Tryd.prog 13 := ⟨fun _ _ => rfl⟩
instance : Enters Tryd.prog 22 := ⟨fun _ _ => rfl⟩
instance : Enters Tryd.prog 4 := ⟨fun _ _ => rfl⟩
instance : Enters Tryd.prog 95 := ⟨fun _ _ => rfl⟩
instance : Enters Tryd.prog 37 := ⟨fun _ _ => rfl⟩
instance : Enters Tryd.prog 15 := ⟨fun _ _ => rfl⟩
instance : Enters Tryd.prog 73 := ⟨fun _ _ => rfl⟩
instance : Enters Tryd.prog 12 := ⟨fun _ _ => rfl⟩
instance : Enters Tryd.prog 9 := ⟨fun _ _ => rfl⟩
instance : Enters Tryd.prog 49 := ⟨fun _ _ => rfl⟩
instance : Enters Tryd.prog 32 := ⟨fun _ _ => rfl⟩
instance : Enters Tryd.prog 66 := ⟨fun _ _ => rfl⟩
instance : Enters Tryd.prog 50 := ⟨fun _ _ => rfl⟩
instance : Enters Tryd.prog 94 := ⟨fun _ _ => rfl⟩
instance : Enters Tryd.prog 31 := ⟨fun _ _ => rfl⟩
instance : Enters Tryd.prog 19 := ⟨fun _ _ => rfl⟩
instance : Enters Tryd.prog 41 := ⟨fun _ _ => rfl⟩
instance : Enters Tryd.prog 58 := ⟨fun _ _ => rfl⟩
instance : Enters Tryd.prog 68 := ⟨fun _ _ => rfl⟩
instance : Enters Tryd.prog 36 := ⟨fun _ _ => rfl⟩
instance : Enters Tryd.prog 34 := ⟨fun _ _ => rfl⟩
instance : Enters Tryd.prog 59 := ⟨fun _ _ => rfl⟩
instance : Enters Tryd.prog 20 := ⟨fun _ _ => rfl⟩
instance : Enters Tryd.prog 26 := ⟨fun _ _ => rfl⟩
instance : Enters Tryd.prog 23 := ⟨fun _ _ => rfl⟩
instance : Enters Tryd.prog 64 := ⟨fun _ _ => rfl⟩
instance : Enters Tryd.prog 44 := ⟨fun _ _ => rfl⟩
instance : Enters Tryd.prog 43 := ⟨fun _ _ => rfl⟩
instance : Enters Tryd.prog 10 := ⟨fun _ _ => rfl⟩
instance : Enters Tryd.prog 21 := ⟨fun _ _ => rfl⟩
instance : Enters Tryd.prog 52 := ⟨fun _ _ => rfl⟩
instance : Enters Tryd.prog 53 := ⟨fun _ _ => rfl⟩
instance : Enters Tryd.prog 35 := ⟨fun _ _ => rfl⟩
instance : Enters Tryd.prog 18 := ⟨fun _ _ => rfl⟩
instance : Enters Tryd.prog 65 := ⟨fun _ _ => rfl⟩
instance : Enters Tryd.prog 63 := ⟨fun _ _ => rfl⟩
instance : Enters Tryd.prog 11 := ⟨fun _ _ => rfl⟩
instance : Enters Tryd.prog 33 := ⟨fun _ _ => rfl⟩
instance : Enters Tryd.prog 48 := ⟨fun _ _ => rfl⟩
instance : Enters Tryd.prog 29 := ⟨fun _ _ => rfl⟩
instance : Enters Tryd.prog 62 := ⟨fun _ _ => rfl⟩
instance : Enters Tryd.prog 14 := ⟨fun _ _ => rfl⟩
instance : Enters Tryd.prog 27 := ⟨fun _ _ => rfl⟩
instance : Enters Tryd.prog 47 := ⟨fun _ _ => rfl⟩
instance : Enters Tryd.prog 8 := ⟨fun _ _ => rfl⟩
instance : Enters Tryd.prog 61 := ⟨fun _ _ => rfl⟩
instance : Enters Tryd.prog 30 := ⟨fun _ _ => rfl⟩
instance : Enters Tryd.prog 67 := ⟨fun _ _ => rfl⟩
instance : Enters Tryd.prog 25 := ⟨fun _ _ => rfl⟩
instance : Enters Tryd.prog 39 := ⟨fun _ _ => rfl⟩
instance : Enters Tryd.prog 40 := ⟨fun _ _ => rfl⟩
instance : Enters Tryd.prog 5 := ⟨fun _ _ => rfl⟩
instance : Enters Tryd.prog 6 := ⟨fun _ _ => rfl⟩
instance : Enters Tryd.prog 114 := ⟨fun _ _ => rfl⟩
instance : Enters Tryd.prog 57 := ⟨fun _ _ => rfl⟩
instance : Enters Tryd.prog 74 := ⟨fun _ _ => rfl⟩
instance : Enters Tryd.prog 24 := ⟨fun _ _ => rfl⟩
instance : Enters Tryd.prog 72 := ⟨fun _ _ => rfl⟩
instance : Enters Tryd.prog 3 := ⟨fun _ _ => rfl⟩
instance : Enters Tryd.prog 45 := ⟨fun _ _ => rfl⟩
instance : Enters Tryd.prog 60 := ⟨fun _ _ => rfl⟩
instance : Enters Tryd.prog 16 := ⟨fun _ _ => rfl⟩
instance : Enters Tryd.prog 7 := ⟨fun _ _ => rfl⟩
instance : Enters Tryd.prog 51 := ⟨fun _ _ => rfl⟩
instance : Enters Tryd.prog 42 := ⟨fun _ _ => rfl⟩
instance : Enters Tryd.prog 28 := ⟨fun _ _ => rfl⟩
instance : Enters Tryd.prog 17 := ⟨fun _ _ => rfl⟩
instance : Enters Tryd.prog 46 := ⟨fun _ _ => rfl⟩
instance : Enters Tryd.prog 38 := ⟨fun _ _ => rfl⟩
end Go.Proofs.YtjdjkcebflablaaDoor
