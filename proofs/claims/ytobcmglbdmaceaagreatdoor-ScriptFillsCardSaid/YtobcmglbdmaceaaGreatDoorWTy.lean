/- Facts of the seat's types and functions, by program. -/
import Derived.Test.YtobcmglbdmaceaaGreatDoorSlG3
import Derived.KernelRfl
import Derived.Test.YtobcmglbdmaceaaGreatDoorProg
set_option linter.unusedVariables false
set_option linter.unusedSimpArgs false
set_option linter.unusedSectionVars false
namespace Go.Proofs.YtobcmglbdmaceaaGreatDoor
open Go.SL
set_option maxRecDepth 100000
instance ty0 : Ty Tryz.prog 0 (Go.TypeDesc.tuple #[]) (Go.Value.tuple #[]) Tryz.t0 := ⟨Tryz.underlying0, Tryz.zeroValue0, rfl⟩
instance ty1 : Ty Tryz.prog 1 (Go.TypeDesc.func #[] #[] false) Go.Value.nilFunc Tryz.t1 := ⟨Tryz.underlying1, Tryz.zeroValue1, rfl⟩
instance ty2 : Ty Tryz.prog 2 (Go.TypeDesc.int Go.IntKind.i64) (Go.Value.int Go.IntKind.i64 0) Tryz.t2 := ⟨Tryz.underlying2, Tryz.zeroValue2, rfl⟩
instance ty3 : Ty Tryz.prog 3 (Go.TypeDesc.int Go.IntKind.i64) (Go.Value.int Go.IntKind.i64 0) Tryz.t3 := ⟨Tryz.underlying3, Tryz.zeroValue3, rfl⟩
instance ty4 : Ty Tryz.prog 4 Go.TypeDesc.bool (Go.Value.bool false) Tryz.t4 := ⟨Tryz.underlying4, Tryz.zeroValue4, rfl⟩
instance ty5 : Ty Tryz.prog 5 (Go.TypeDesc.int Go.IntKind.u8) (Go.Value.int Go.IntKind.u8 0) Tryz.t5 := ⟨Tryz.underlying5, Tryz.zeroValue5, rfl⟩
instance ty6 : Ty Tryz.prog 6 (Go.TypeDesc.int Go.IntKind.u8) (Go.Value.int Go.IntKind.u8 0) Tryz.t6 := ⟨Tryz.underlying6, Tryz.zeroValue6, rfl⟩
instance ty7 : Ty Tryz.prog 7 (Go.TypeDesc.struct #[{ name := "x", type := 2, offset := 0, embedded := false, tag := "", pkgPath := "runtime", byteOffset := 0 }, { name := "y", type := 3, offset := 1, embedded := false, tag := "", pkgPath := "runtime", byteOffset := 8 }, { name := "signed", type := 4, offset := 2, embedded := false, tag := "", pkgPath := "runtime", byteOffset := 16 }, { name := "code", type := 6, offset := 3, embedded := false, tag := "", pkgPath := "runtime", byteOffset := 17 }]) (Go.Value.agg #[Go.Value.int Go.IntKind.i64 0, Go.Value.int Go.IntKind.i64 0, Go.Value.bool false, Go.Value.int Go.IntKind.u8 0]) Tryz.t7 := ⟨Tryz.underlying7, Tryz.zeroValue7, rfl⟩
instance ty8 : Ty Tryz.prog 8 (Go.TypeDesc.struct #[{ name := "x", type := 2, offset := 0, embedded := false, tag := "", pkgPath := "runtime", byteOffset := 0 }, { name := "y", type := 3, offset := 1, embedded := false, tag := "", pkgPath := "runtime", byteOffset := 8 }, { name := "signed", type := 4, offset := 2, embedded := false, tag := "", pkgPath := "runtime", byteOffset := 16 }, { name := "code", type := 6, offset := 3, embedded := false, tag := "", pkgPath := "runtime", byteOffset := 17 }]) (Go.Value.agg #[Go.Value.int Go.IntKind.i64 0, Go.Value.int Go.IntKind.i64 0, Go.Value.bool false, Go.Value.int Go.IntKind.u8 0]) Tryz.t8 := ⟨Tryz.underlying8, Tryz.zeroValue8, rfl⟩
instance ty9 : Ty Tryz.prog 9 Go.TypeDesc.string (Go.Value.string { data := #[] }) Tryz.t9 := ⟨Tryz.underlying9, Tryz.zeroValue9, rfl⟩
instance ty10 : Ty Tryz.prog 10 Go.TypeDesc.string (Go.Value.string { data := #[] }) Tryz.t10 := ⟨Tryz.underlying10, Tryz.zeroValue10, rfl⟩
instance ty11 : Ty Tryz.prog 11 Go.TypeDesc.string (Go.Value.string { data := #[] }) Tryz.t11 := ⟨Tryz.underlying11, Tryz.zeroValue11, rfl⟩
instance ty12 : Ty Tryz.prog 12 (Go.TypeDesc.int Go.IntKind.u64) (Go.Value.int Go.IntKind.u64 0) Tryz.t12 := ⟨Tryz.underlying12, Tryz.zeroValue12, rfl⟩
instance ty13 : Ty Tryz.prog 13 (Go.TypeDesc.struct #[{ name := "msg", type := 9, offset := 0, embedded := false, tag := "", pkgPath := "runtime", byteOffset := 0 }, { name := "addr", type := 12, offset := 1, embedded := false, tag := "", pkgPath := "runtime", byteOffset := 16 }]) (Go.Value.agg #[Go.Value.string { data := #[] }, Go.Value.int Go.IntKind.u64 0]) Tryz.t13 := ⟨Tryz.underlying13, Tryz.zeroValue13, rfl⟩
instance ty14 : Ty Tryz.prog 14 (Go.TypeDesc.struct #[{ name := "msg", type := 9, offset := 0, embedded := false, tag := "", pkgPath := "runtime", byteOffset := 0 }, { name := "addr", type := 12, offset := 1, embedded := false, tag := "", pkgPath := "runtime", byteOffset := 16 }]) (Go.Value.agg #[Go.Value.string { data := #[] }, Go.Value.int Go.IntKind.u64 0]) Tryz.t14 := ⟨Tryz.underlying14, Tryz.zeroValue14, rfl⟩
instance ty15 : Ty Tryz.prog 15 (Go.TypeDesc.pointer 169) (Go.Value.pointer none) Tryz.t15 := ⟨Tryz.underlying15, Tryz.zeroValue15, rfl⟩
instance ty16 : Ty Tryz.prog 16 (Go.TypeDesc.pointer 172) (Go.Value.pointer none) Tryz.t16 := ⟨Tryz.underlying16, Tryz.zeroValue16, rfl⟩
instance ty17 : Ty Tryz.prog 17 (Go.TypeDesc.pointer 180) (Go.Value.pointer none) Tryz.t17 := ⟨Tryz.underlying17, Tryz.zeroValue17, rfl⟩
instance ty18 : Ty Tryz.prog 18 (Go.TypeDesc.struct #[{ name := "typ", type := 17, offset := 0, embedded := false, tag := "", pkgPath := "internal/runtime/maps", byteOffset := 0 }]) (Go.Value.agg #[Go.Value.pointer none]) Tryz.t18 := ⟨Tryz.underlying18, Tryz.zeroValue18, rfl⟩
instance ty19 : Ty Tryz.prog 19 (Go.TypeDesc.struct #[{ name := "typ", type := 17, offset := 0, embedded := false, tag := "", pkgPath := "internal/runtime/maps", byteOffset := 0 }]) (Go.Value.agg #[Go.Value.pointer none]) Tryz.t19 := ⟨Tryz.underlying19, Tryz.zeroValue19, rfl⟩
instance ty20 : Ty Tryz.prog 20 (Go.TypeDesc.interface #[]) Go.Value.nilIface Tryz.t20 := ⟨Tryz.underlying20, Tryz.zeroValue20, rfl⟩
instance ty21 : Ty Tryz.prog 21 (Go.TypeDesc.int Go.IntKind.i32) (Go.Value.int Go.IntKind.i32 0) Tryz.t21 := ⟨Tryz.underlying21, Tryz.zeroValue21, rfl⟩
instance ty22 : Ty Tryz.prog 22 (Go.TypeDesc.slice 42) (Go.Value.slice none 0 0) Tryz.t22 := ⟨Tryz.underlying22, Tryz.zeroValue22, rfl⟩
instance ty23 : Ty Tryz.prog 23 (Go.TypeDesc.func #[22] #[9] false) Go.Value.nilFunc Tryz.t23 := ⟨Tryz.underlying23, Tryz.zeroValue23, rfl⟩
instance ty24 : Ty Tryz.prog 24 (Go.TypeDesc.array 3 9) (Go.Value.agg #[Go.Value.string { data := #[] }, Go.Value.string { data := #[] }, Go.Value.string { data := #[] }]) Tryz.t24 := ⟨Tryz.underlying24, Tryz.zeroValue24, rfl⟩
instance ty25 : Ty Tryz.prog 25 (Go.TypeDesc.interface #[("Error", 78)]) Go.Value.nilIface Tryz.t25 := ⟨Tryz.underlying25, Tryz.zeroValue25, rfl⟩
instance ty26 : Ty Tryz.prog 26 (Go.TypeDesc.interface #[("Error", 78)]) Go.Value.nilIface Tryz.t26 := ⟨Tryz.underlying26, Tryz.zeroValue26, rfl⟩
instance ty27 : Ty Tryz.prog 27 (Go.TypeDesc.tuple #[22, 26]) (Go.Value.tuple #[Go.Value.slice none 0 0, Go.Value.nilIface]) Tryz.t27 := ⟨Tryz.underlying27, Tryz.zeroValue27, rfl⟩
instance ty28 : Ty Tryz.prog 28 (Go.TypeDesc.func #[9] #[22, 26] false) Go.Value.nilFunc Tryz.t28 := ⟨Tryz.underlying28, Tryz.zeroValue28, rfl⟩
instance ty29 : Ty Tryz.prog 29 (Go.TypeDesc.tuple #[22, 3]) (Go.Value.tuple #[Go.Value.slice none 0 0, Go.Value.int Go.IntKind.i64 0]) Tryz.t29 := ⟨Tryz.underlying29, Tryz.zeroValue29, rfl⟩
instance ty30 : Ty Tryz.prog 30 (Go.TypeDesc.func #[9] #[22, 3] false) Go.Value.nilFunc Tryz.t30 := ⟨Tryz.underlying30, Tryz.zeroValue30, rfl⟩
instance ty31 : Ty Tryz.prog 31 (Go.TypeDesc.int Go.IntKind.i64) (Go.Value.int Go.IntKind.i64 0) Tryz.t31 := ⟨Tryz.underlying31, Tryz.zeroValue31, rfl⟩
instance ty32 : Ty Tryz.prog 32 (Go.TypeDesc.struct #[{ name := "Code", type := 31, offset := 0, embedded := false, tag := "", pkgPath := "", byteOffset := 0 }, { name := "Method", type := 3, offset := 1, embedded := false, tag := "", pkgPath := "", byteOffset := 8 }, { name := "At", type := 3, offset := 2, embedded := false, tag := "", pkgPath := "", byteOffset := 16 }]) (Go.Value.agg #[Go.Value.int Go.IntKind.i64 0, Go.Value.int Go.IntKind.i64 0, Go.Value.int Go.IntKind.i64 0]) Tryz.t32 := ⟨Tryz.underlying32, Tryz.zeroValue32, rfl⟩
instance ty33 : Ty Tryz.prog 33 (Go.TypeDesc.struct #[{ name := "Code", type := 31, offset := 0, embedded := false, tag := "", pkgPath := "", byteOffset := 0 }, { name := "Method", type := 3, offset := 1, embedded := false, tag := "", pkgPath := "", byteOffset := 8 }, { name := "At", type := 3, offset := 2, embedded := false, tag := "", pkgPath := "", byteOffset := 16 }]) (Go.Value.agg #[Go.Value.int Go.IntKind.i64 0, Go.Value.int Go.IntKind.i64 0, Go.Value.int Go.IntKind.i64 0]) Tryz.t33 := ⟨Tryz.underlying33, Tryz.zeroValue33, rfl⟩
instance ty34 : Ty Tryz.prog 34 (Go.TypeDesc.func #[26] #[33] false) Go.Value.nilFunc Tryz.t34 := ⟨Tryz.underlying34, Tryz.zeroValue34, rfl⟩
instance ty35 : Ty Tryz.prog 35 (Go.TypeDesc.func #[22, 22] #[4] false) Go.Value.nilFunc Tryz.t35 := ⟨Tryz.underlying35, Tryz.zeroValue35, rfl⟩
instance ty36 : Ty Tryz.prog 36 (Go.TypeDesc.func #[] #[4] false) Go.Value.nilFunc Tryz.t36 := ⟨Tryz.underlying36, Tryz.zeroValue36, rfl⟩
instance ty37 : Ty Tryz.prog 37 (Go.TypeDesc.func #[22, 9] #[4] false) Go.Value.nilFunc Tryz.t37 := ⟨Tryz.underlying37, Tryz.zeroValue37, rfl⟩
instance ty38 : Ty Tryz.prog 38 (Go.TypeDesc.func #[9] #[22] false) Go.Value.nilFunc Tryz.t38 := ⟨Tryz.underlying38, Tryz.zeroValue38, rfl⟩
instance ty39 : Ty Tryz.prog 39 (Go.TypeDesc.func #[22, 3, 3] #[22] false) Go.Value.nilFunc Tryz.t39 := ⟨Tryz.underlying39, Tryz.zeroValue39, rfl⟩
instance ty40 : Ty Tryz.prog 40 (Go.TypeDesc.func #[22, 3, 3] #[4] false) Go.Value.nilFunc Tryz.t40 := ⟨Tryz.underlying40, Tryz.zeroValue40, rfl⟩
instance ty41 : Ty Tryz.prog 41 (Go.TypeDesc.struct #[{ name := "Thread", type := 3, offset := 0, embedded := false, tag := "", pkgPath := "", byteOffset := 0 }, { name := "Kind", type := 3, offset := 1, embedded := false, tag := "", pkgPath := "", byteOffset := 8 }]) (Go.Value.agg #[Go.Value.int Go.IntKind.i64 0, Go.Value.int Go.IntKind.i64 0]) Tryz.t41 := ⟨Tryz.underlying41, Tryz.zeroValue41, rfl⟩
instance ty42 : Ty Tryz.prog 42 (Go.TypeDesc.struct #[{ name := "Thread", type := 3, offset := 0, embedded := false, tag := "", pkgPath := "", byteOffset := 0 }, { name := "Kind", type := 3, offset := 1, embedded := false, tag := "", pkgPath := "", byteOffset := 8 }]) (Go.Value.agg #[Go.Value.int Go.IntKind.i64 0, Go.Value.int Go.IntKind.i64 0]) Tryz.t42 := ⟨Tryz.underlying42, Tryz.zeroValue42, rfl⟩
instance ty43 : Ty Tryz.prog 43 (Go.TypeDesc.func #[9, 5, 5] #[4] false) Go.Value.nilFunc Tryz.t43 := ⟨Tryz.underlying43, Tryz.zeroValue43, rfl⟩
instance ty44 : Ty Tryz.prog 44 (Go.TypeDesc.array 4 5) (Go.Value.agg #[Go.Value.int Go.IntKind.u8 0, Go.Value.int Go.IntKind.u8 0, Go.Value.int Go.IntKind.u8 0, Go.Value.int Go.IntKind.u8 0]) Tryz.t44 := ⟨Tryz.underlying44, Tryz.zeroValue44, rfl⟩
instance ty45 : Ty Tryz.prog 45 (Go.TypeDesc.func #[9, 44] #[4] false) Go.Value.nilFunc Tryz.t45 := ⟨Tryz.underlying45, Tryz.zeroValue45, rfl⟩
instance ty46 : Ty Tryz.prog 46 (Go.TypeDesc.slice 48) (Go.Value.slice none 0 0) Tryz.t46 := ⟨Tryz.underlying46, Tryz.zeroValue46, rfl⟩
instance ty47 : Ty Tryz.prog 47 (Go.TypeDesc.slice 5) (Go.Value.slice none 0 0) Tryz.t47 := ⟨Tryz.underlying47, Tryz.zeroValue47, rfl⟩
instance ty48 : Ty Tryz.prog 48 (Go.TypeDesc.int Go.IntKind.u16) (Go.Value.int Go.IntKind.u16 0) Tryz.t48 := ⟨Tryz.underlying48, Tryz.zeroValue48, rfl⟩
instance ty49 : Ty Tryz.prog 49 (Go.TypeDesc.slice 9) (Go.Value.slice none 0 0) Tryz.t49 := ⟨Tryz.underlying49, Tryz.zeroValue49, rfl⟩
instance ty50 : Ty Tryz.prog 50 (Go.TypeDesc.func #[9, 46, 47] #[4] false) Go.Value.nilFunc Tryz.t50 := ⟨Tryz.underlying50, Tryz.zeroValue50, rfl⟩
instance ty51 : Ty Tryz.prog 51 (Go.TypeDesc.func #[9, 3] #[4] false) Go.Value.nilFunc Tryz.t51 := ⟨Tryz.underlying51, Tryz.zeroValue51, rfl⟩
instance ty52 : Ty Tryz.prog 52 (Go.TypeDesc.tuple #[9, 4]) (Go.Value.tuple #[Go.Value.string { data := #[] }, Go.Value.bool false]) Tryz.t52 := ⟨Tryz.underlying52, Tryz.zeroValue52, rfl⟩
instance ty53 : Ty Tryz.prog 53 (Go.TypeDesc.map 3 9) (Go.Value.map none) Tryz.t53 := ⟨Tryz.underlying53, Tryz.zeroValue53, rfl⟩
instance ty54 : Ty Tryz.prog 54 (Go.TypeDesc.func #[] #[53] false) Go.Value.nilFunc Tryz.t54 := ⟨Tryz.underlying54, Tryz.zeroValue54, rfl⟩
instance ty55 : Ty Tryz.prog 55 (Go.TypeDesc.func #[3] #[9] false) Go.Value.nilFunc Tryz.t55 := ⟨Tryz.underlying55, Tryz.zeroValue55, rfl⟩
instance ty56 : Ty Tryz.prog 56 (Go.TypeDesc.func #[49, 9] #[9] false) Go.Value.nilFunc Tryz.t56 := ⟨Tryz.underlying56, Tryz.zeroValue56, rfl⟩
instance ty57 : Ty Tryz.prog 57 (Go.TypeDesc.func #[97] #[] false) Go.Value.nilFunc Tryz.t57 := ⟨Tryz.underlying57, Tryz.zeroValue57, rfl⟩
instance ty58 : Ty Tryz.prog 58 (Go.TypeDesc.func #[97] #[] false) Go.Value.nilFunc Tryz.t58 := ⟨Tryz.underlying58, Tryz.zeroValue58, rfl⟩
instance ty59 : Ty Tryz.prog 59 (Go.TypeDesc.func #[9, 9] #[58] false) Go.Value.nilFunc Tryz.t59 := ⟨Tryz.underlying59, Tryz.zeroValue59, rfl⟩
instance ty60 : Ty Tryz.prog 60 (Go.TypeDesc.tuple #[42, 4]) (Go.Value.tuple #[Go.Value.agg #[Go.Value.int Go.IntKind.i64 0, Go.Value.int Go.IntKind.i64 0], Go.Value.bool false]) Tryz.t60 := ⟨Tryz.underlying60, Tryz.zeroValue60, rfl⟩
instance ty61 : Ty Tryz.prog 61 (Go.TypeDesc.func #[9] #[42, 4] false) Go.Value.nilFunc Tryz.t61 := ⟨Tryz.underlying61, Tryz.zeroValue61, rfl⟩
instance ty62 : Ty Tryz.prog 62 (Go.TypeDesc.pointer 33) (Go.Value.pointer none) Tryz.t62 := ⟨Tryz.underlying62, Tryz.zeroValue62, rfl⟩
instance ty63 : Ty Tryz.prog 63 (Go.TypeDesc.func #[26, 20] #[4] false) Go.Value.nilFunc Tryz.t63 := ⟨Tryz.underlying63, Tryz.zeroValue63, rfl⟩
instance ty64 : Ty Tryz.prog 64 (Go.TypeDesc.pointer 62) (Go.Value.pointer none) Tryz.t64 := ⟨Tryz.underlying64, Tryz.zeroValue64, rfl⟩
instance ty65 : Ty Tryz.prog 65 (Go.TypeDesc.pointer 31) (Go.Value.pointer none) Tryz.t65 := ⟨Tryz.underlying65, Tryz.zeroValue65, rfl⟩
instance ty66 : Ty Tryz.prog 66 (Go.TypeDesc.int Go.IntKind.u64) (Go.Value.int Go.IntKind.u64 0) Tryz.t66 := ⟨Tryz.underlying66, Tryz.zeroValue66, rfl⟩
instance ty67 : Ty Tryz.prog 67 (Go.TypeDesc.func #[94] #[] false) Go.Value.nilFunc Tryz.t67 := ⟨Tryz.underlying67, Tryz.zeroValue67, rfl⟩
instance ty68 : Ty Tryz.prog 68 (Go.TypeDesc.func #[94] #[] false) Go.Value.nilFunc Tryz.t68 := ⟨Tryz.underlying68, Tryz.zeroValue68, rfl⟩
instance ty69 : Ty Tryz.prog 69 (Go.TypeDesc.func #[22, 3, 3] #[68] false) Go.Value.nilFunc Tryz.t69 := ⟨Tryz.underlying69, Tryz.zeroValue69, rfl⟩
instance ty70 : Ty Tryz.prog 70 (Go.TypeDesc.slice 3) (Go.Value.slice none 0 0) Tryz.t70 := ⟨Tryz.underlying70, Tryz.zeroValue70, rfl⟩
instance ty71 : Ty Tryz.prog 71 (Go.TypeDesc.func #[3] #[4] false) Go.Value.nilFunc Tryz.t71 := ⟨Tryz.underlying71, Tryz.zeroValue71, rfl⟩
instance ty72 : Ty Tryz.prog 72 (Go.TypeDesc.pointer 74) (Go.Value.pointer none) Tryz.t72 := ⟨Tryz.underlying72, Tryz.zeroValue72, rfl⟩
instance ty73 : Ty Tryz.prog 73 (Go.TypeDesc.struct #[{ name := "addr", type := 72, offset := 0, embedded := false, tag := "", pkgPath := "strings", byteOffset := 0 }, { name := "buf", type := 47, offset := 1, embedded := false, tag := "", pkgPath := "strings", byteOffset := 8 }]) (Go.Value.agg #[Go.Value.pointer none, Go.Value.slice none 0 0]) Tryz.t73 := ⟨Tryz.underlying73, Tryz.zeroValue73, rfl⟩
instance ty74 : Ty Tryz.prog 74 (Go.TypeDesc.struct #[{ name := "addr", type := 72, offset := 0, embedded := false, tag := "", pkgPath := "strings", byteOffset := 0 }, { name := "buf", type := 47, offset := 1, embedded := false, tag := "", pkgPath := "strings", byteOffset := 8 }]) (Go.Value.agg #[Go.Value.pointer none, Go.Value.slice none 0 0]) Tryz.t74 := ⟨Tryz.underlying74, Tryz.zeroValue74, rfl⟩
instance ty75 : Ty Tryz.prog 75 (Go.TypeDesc.func #[3] #[] false) Go.Value.nilFunc Tryz.t75 := ⟨Tryz.underlying75, Tryz.zeroValue75, rfl⟩
instance ty76 : Ty Tryz.prog 76 (Go.TypeDesc.tuple #[3, 26]) (Go.Value.tuple #[Go.Value.int Go.IntKind.i64 0, Go.Value.nilIface]) Tryz.t76 := ⟨Tryz.underlying76, Tryz.zeroValue76, rfl⟩
instance ty77 : Ty Tryz.prog 77 (Go.TypeDesc.func #[9] #[3, 26] false) Go.Value.nilFunc Tryz.t77 := ⟨Tryz.underlying77, Tryz.zeroValue77, rfl⟩
instance ty78 : Ty Tryz.prog 78 (Go.TypeDesc.func #[] #[9] false) Go.Value.nilFunc Tryz.t78 := ⟨Tryz.underlying78, Tryz.zeroValue78, rfl⟩
instance ty79 : Ty Tryz.prog 79 (Go.TypeDesc.func #[9, 9, 3] #[58] false) Go.Value.nilFunc Tryz.t79 := ⟨Tryz.underlying79, Tryz.zeroValue79, rfl⟩
instance ty80 : Ty Tryz.prog 80 (Go.TypeDesc.func #[9, 9] #[9, 4] false) Go.Value.nilFunc Tryz.t80 := ⟨Tryz.underlying80, Tryz.zeroValue80, rfl⟩
instance ty81 : Ty Tryz.prog 81 (Go.TypeDesc.func #[9, 9] #[9] false) Go.Value.nilFunc Tryz.t81 := ⟨Tryz.underlying81, Tryz.zeroValue81, rfl⟩
instance ty82 : Ty Tryz.prog 82 Go.TypeDesc.unsafePointer (Go.Value.pointer none) Tryz.t82 := ⟨Tryz.underlying82, Tryz.zeroValue82, rfl⟩
instance ty83 : Ty Tryz.prog 83 (Go.TypeDesc.int Go.IntKind.u64) (Go.Value.int Go.IntKind.u64 0) Tryz.t83 := ⟨Tryz.underlying83, Tryz.zeroValue83, rfl⟩
instance ty84 : Ty Tryz.prog 84 (Go.TypeDesc.struct #[{ name := "typ_", type := 17, offset := 0, embedded := false, tag := "", pkgPath := "internal/reflectlite", byteOffset := 0 }, { name := "ptr", type := 82, offset := 1, embedded := false, tag := "", pkgPath := "internal/reflectlite", byteOffset := 8 }, { name := "flag", type := 83, offset := 2, embedded := true, tag := "", pkgPath := "internal/reflectlite", byteOffset := 16 }]) (Go.Value.agg #[Go.Value.pointer none, Go.Value.pointer none, Go.Value.int Go.IntKind.u64 0]) Tryz.t84 := ⟨Tryz.underlying84, Tryz.zeroValue84, rfl⟩
instance ty85 : Ty Tryz.prog 85 (Go.TypeDesc.struct #[{ name := "typ_", type := 17, offset := 0, embedded := false, tag := "", pkgPath := "internal/reflectlite", byteOffset := 0 }, { name := "ptr", type := 82, offset := 1, embedded := false, tag := "", pkgPath := "internal/reflectlite", byteOffset := 8 }, { name := "flag", type := 83, offset := 2, embedded := true, tag := "", pkgPath := "internal/reflectlite", byteOffset := 16 }]) (Go.Value.agg #[Go.Value.pointer none, Go.Value.pointer none, Go.Value.int Go.IntKind.u64 0]) Tryz.t85 := ⟨Tryz.underlying85, Tryz.zeroValue85, rfl⟩
instance ty86 : Ty Tryz.prog 86 (Go.TypeDesc.func #[20] #[85] false) Go.Value.nilFunc Tryz.t86 := ⟨Tryz.underlying86, Tryz.zeroValue86, rfl⟩
instance ty87 : Ty Tryz.prog 87 (Go.TypeDesc.interface #[("AssignableTo", 92), ("Comparable", 36), ("Elem", 89), ("Implements", 92), ("Kind", 91), ("Name", 78), ("PkgPath", 78), ("Size", 181), ("String", 78), ("internal/reflectlite.common", 174), ("internal/reflectlite.uncommon", 182)]) Go.Value.nilIface Tryz.t87 := ⟨Tryz.underlying87, Tryz.zeroValue87, rfl⟩
instance ty88 : Ty Tryz.prog 88 (Go.TypeDesc.interface #[("AssignableTo", 92), ("Comparable", 36), ("Elem", 89), ("Implements", 92), ("Kind", 91), ("Name", 78), ("PkgPath", 78), ("Size", 181), ("String", 78), ("internal/reflectlite.common", 174), ("internal/reflectlite.uncommon", 182)]) Go.Value.nilIface Tryz.t88 := ⟨Tryz.underlying88, Tryz.zeroValue88, rfl⟩
instance ty89 : Ty Tryz.prog 89 (Go.TypeDesc.func #[] #[88] false) Go.Value.nilFunc Tryz.t89 := ⟨Tryz.underlying89, Tryz.zeroValue89, rfl⟩
instance ty90 : Ty Tryz.prog 90 (Go.TypeDesc.int Go.IntKind.u8) (Go.Value.int Go.IntKind.u8 0) Tryz.t90 := ⟨Tryz.underlying90, Tryz.zeroValue90, rfl⟩
instance ty91 : Ty Tryz.prog 91 (Go.TypeDesc.func #[] #[90] false) Go.Value.nilFunc Tryz.t91 := ⟨Tryz.underlying91, Tryz.zeroValue91, rfl⟩
instance ty92 : Ty Tryz.prog 92 (Go.TypeDesc.func #[88] #[4] false) Go.Value.nilFunc Tryz.t92 := ⟨Tryz.underlying92, Tryz.zeroValue92, rfl⟩
instance ty93 : Ty Tryz.prog 93 (Go.TypeDesc.func #[26, 20, 85, 88] #[4] false) Go.Value.nilFunc Tryz.t93 := ⟨Tryz.underlying93, Tryz.zeroValue93, rfl⟩
instance ty94 : Ty Tryz.prog 94 (Go.TypeDesc.func #[42] #[4] false) Go.Value.nilFunc Tryz.t94 := ⟨Tryz.underlying94, Tryz.zeroValue94, rfl⟩
instance ty95 : Ty Tryz.prog 95 (Go.TypeDesc.func #[2, 3] #[9] false) Go.Value.nilFunc Tryz.t95 := ⟨Tryz.underlying95, Tryz.zeroValue95, rfl⟩
instance ty96 : Ty Tryz.prog 96 (Go.TypeDesc.pointer 5) (Go.Value.pointer none) Tryz.t96 := ⟨Tryz.underlying96, Tryz.zeroValue96, rfl⟩
instance ty97 : Ty Tryz.prog 97 (Go.TypeDesc.func #[9] #[4] false) Go.Value.nilFunc Tryz.t97 := ⟨Tryz.underlying97, Tryz.zeroValue97, rfl⟩
instance ty98 : Ty Tryz.prog 98 (Go.TypeDesc.tuple #[21, 3]) (Go.Value.tuple #[Go.Value.int Go.IntKind.i32 0, Go.Value.int Go.IntKind.i64 0]) Tryz.t98 := ⟨Tryz.underlying98, Tryz.zeroValue98, rfl⟩
instance ty99 : Ty Tryz.prog 99 (Go.TypeDesc.func #[9] #[21, 3] false) Go.Value.nilFunc Tryz.t99 := ⟨Tryz.underlying99, Tryz.zeroValue99, rfl⟩
instance ty100 : Ty Tryz.prog 100 (Go.TypeDesc.func #[9, 9] #[3] false) Go.Value.nilFunc Tryz.t100 := ⟨Tryz.underlying100, Tryz.zeroValue100, rfl⟩
instance ty101 : Ty Tryz.prog 101 (Go.TypeDesc.func #[9, 5] #[9] false) Go.Value.nilFunc Tryz.t101 := ⟨Tryz.underlying101, Tryz.zeroValue101, rfl⟩
instance ty102 : Ty Tryz.prog 102 (Go.TypeDesc.array 256 4) (Go.Value.agg Go.Proofs.Tryz.zeroCells102) Tryz.t102 := ⟨Tryz.underlying102, Tryz.zeroValue102, rfl⟩
instance ty103 : Ty Tryz.prog 103 (Go.TypeDesc.array 256 4) (Go.Value.agg Go.Proofs.Tryz.zeroCells103) Tryz.t103 := ⟨Tryz.underlying103, Tryz.zeroValue103, rfl⟩
instance ty104 : Ty Tryz.prog 104 (Go.TypeDesc.tuple #[103, 4]) (Go.Value.tuple #[Go.Value.agg (([Go.Value.bool false, Go.Value.bool false, Go.Value.bool false, Go.Value.bool false, Go.Value.bool false, Go.Value.bool false, Go.Value.bool false, Go.Value.bool false, Go.Value.bool false, Go.Value.bool false, Go.Value.bool false, Go.Value.bool false, Go.Value.bool false, Go.Value.bool false, Go.Value.bool false, Go.Value.bool false, Go.Value.bool false, Go.Value.bool false, Go.Value.bool false, Go.Value.bool false, Go.Value.bool false, Go.Value.bool false, Go.Value.bool false, Go.Value.bool false, Go.Value.bool false, Go.Value.bool false, Go.Value.bool false, Go.Value.bool false, Go.Value.bool false, Go.Value.bool false, Go.Value.bool false, Go.Value.bool false, Go.Value.bool false, Go.Value.bool false, Go.Value.bool false, Go.Value.bool false, Go.Value.bool false, Go.Value.bool false, Go.Value.bool false, Go.Value.bool false, Go.Value.bool false, Go.Value.bool false, Go.Value.bool false, Go.Value.bool false, Go.Value.bool false, Go.Value.bool false, Go.Value.bool false, Go.Value.bool false, Go.Value.bool false, Go.Value.bool false, Go.Value.bool false, Go.Value.bool false, Go.Value.bool false, Go.Value.bool false, Go.Value.bool false, Go.Value.bool false, Go.Value.bool false, Go.Value.bool false, Go.Value.bool false, Go.Value.bool false, Go.Value.bool false, Go.Value.bool false, Go.Value.bool false, Go.Value.bool false].append [Go.Value.bool false, Go.Value.bool false, Go.Value.bool false, Go.Value.bool false, Go.Value.bool false, Go.Value.bool false, Go.Value.bool false, Go.Value.bool false, Go.Value.bool false, Go.Value.bool false, Go.Value.bool false, Go.Value.bool false, Go.Value.bool false, Go.Value.bool false, Go.Value.bool false, Go.Value.bool false, Go.Value.bool false, Go.Value.bool false, Go.Value.bool false, Go.Value.bool false, Go.Value.bool false, Go.Value.bool false, Go.Value.bool false, Go.Value.bool false, Go.Value.bool false, Go.Value.bool false, Go.Value.bool false, Go.Value.bool false, Go.Value.bool false, Go.Value.bool false, Go.Value.bool false, Go.Value.bool false, Go.Value.bool false, Go.Value.bool false, Go.Value.bool false, Go.Value.bool false, Go.Value.bool false, Go.Value.bool false, Go.Value.bool false, Go.Value.bool false, Go.Value.bool false, Go.Value.bool false, Go.Value.bool false, Go.Value.bool false, Go.Value.bool false, Go.Value.bool false, Go.Value.bool false, Go.Value.bool false, Go.Value.bool false, Go.Value.bool false, Go.Value.bool false, Go.Value.bool false, Go.Value.bool false, Go.Value.bool false, Go.Value.bool false, Go.Value.bool false, Go.Value.bool false, Go.Value.bool false, Go.Value.bool false, Go.Value.bool false, Go.Value.bool false, Go.Value.bool false, Go.Value.bool false, Go.Value.bool false]).append ([Go.Value.bool false, Go.Value.bool false, Go.Value.bool false, Go.Value.bool false, Go.Value.bool false, Go.Value.bool false, Go.Value.bool false, Go.Value.bool false, Go.Value.bool false, Go.Value.bool false, Go.Value.bool false, Go.Value.bool false, Go.Value.bool false, Go.Value.bool false, Go.Value.bool false, Go.Value.bool false, Go.Value.bool false, Go.Value.bool false, Go.Value.bool false, Go.Value.bool false, Go.Value.bool false, Go.Value.bool false, Go.Value.bool false, Go.Value.bool false, Go.Value.bool false, Go.Value.bool false, Go.Value.bool false, Go.Value.bool false, Go.Value.bool false, Go.Value.bool false, Go.Value.bool false, Go.Value.bool false, Go.Value.bool false, Go.Value.bool false, Go.Value.bool false, Go.Value.bool false, Go.Value.bool false, Go.Value.bool false, Go.Value.bool false, Go.Value.bool false, Go.Value.bool false, Go.Value.bool false, Go.Value.bool false, Go.Value.bool false, Go.Value.bool false, Go.Value.bool false, Go.Value.bool false, Go.Value.bool false, Go.Value.bool false, Go.Value.bool false, Go.Value.bool false, Go.Value.bool false, Go.Value.bool false, Go.Value.bool false, Go.Value.bool false, Go.Value.bool false, Go.Value.bool false, Go.Value.bool false, Go.Value.bool false, Go.Value.bool false, Go.Value.bool false, Go.Value.bool false, Go.Value.bool false, Go.Value.bool false].append [Go.Value.bool false, Go.Value.bool false, Go.Value.bool false, Go.Value.bool false, Go.Value.bool false, Go.Value.bool false, Go.Value.bool false, Go.Value.bool false, Go.Value.bool false, Go.Value.bool false, Go.Value.bool false, Go.Value.bool false, Go.Value.bool false, Go.Value.bool false, Go.Value.bool false, Go.Value.bool false, Go.Value.bool false, Go.Value.bool false, Go.Value.bool false, Go.Value.bool false, Go.Value.bool false, Go.Value.bool false, Go.Value.bool false, Go.Value.bool false, Go.Value.bool false, Go.Value.bool false, Go.Value.bool false, Go.Value.bool false, Go.Value.bool false, Go.Value.bool false, Go.Value.bool false, Go.Value.bool false, Go.Value.bool false, Go.Value.bool false, Go.Value.bool false, Go.Value.bool false, Go.Value.bool false, Go.Value.bool false, Go.Value.bool false, Go.Value.bool false, Go.Value.bool false, Go.Value.bool false, Go.Value.bool false, Go.Value.bool false, Go.Value.bool false, Go.Value.bool false, Go.Value.bool false, Go.Value.bool false, Go.Value.bool false, Go.Value.bool false, Go.Value.bool false, Go.Value.bool false, Go.Value.bool false, Go.Value.bool false, Go.Value.bool false, Go.Value.bool false, Go.Value.bool false, Go.Value.bool false, Go.Value.bool false, Go.Value.bool false, Go.Value.bool false, Go.Value.bool false, Go.Value.bool false, Go.Value.bool false])).toArray, Go.Value.bool false]) Tryz.t104 := ⟨Tryz.underlying104, Tryz.zeroValue104, rfl⟩
instance ty105 : Ty Tryz.prog 105 (Go.TypeDesc.func #[9] #[103, 4] false) Go.Value.nilFunc Tryz.t105 := ⟨Tryz.underlying105, Tryz.zeroValue105, rfl⟩
instance ty106 : Ty Tryz.prog 106 (Go.TypeDesc.func #[9, 107] #[9] false) Go.Value.nilFunc Tryz.t106 := ⟨Tryz.underlying106, Tryz.zeroValue106, rfl⟩
instance ty107 : Ty Tryz.prog 107 (Go.TypeDesc.pointer 103) (Go.Value.pointer none) Tryz.t107 := ⟨Tryz.underlying107, Tryz.zeroValue107, rfl⟩
instance ty108 : Ty Tryz.prog 108 (Go.TypeDesc.func #[9, 9, 3, 3, 26] #[26] false) Go.Value.nilFunc Tryz.t108 := ⟨Tryz.underlying108, Tryz.zeroValue108, rfl⟩
instance ty109 : Ty Tryz.prog 109 (Go.TypeDesc.struct #[{ name := "Type", type := 17, offset := 0, embedded := true, tag := "", pkgPath := "", byteOffset := 0 }]) (Go.Value.agg #[Go.Value.pointer none]) Tryz.t109 := ⟨Tryz.underlying109, Tryz.zeroValue109, rfl⟩
instance ty110 : Ty Tryz.prog 110 (Go.TypeDesc.struct #[{ name := "Type", type := 17, offset := 0, embedded := true, tag := "", pkgPath := "", byteOffset := 0 }]) (Go.Value.agg #[Go.Value.pointer none]) Tryz.t110 := ⟨Tryz.underlying110, Tryz.zeroValue110, rfl⟩
instance ty111 : Ty Tryz.prog 111 (Go.TypeDesc.pointer 184) (Go.Value.pointer none) Tryz.t111 := ⟨Tryz.underlying111, Tryz.zeroValue111, rfl⟩
instance ty112 : Ty Tryz.prog 112 (Go.TypeDesc.func #[20] #[88] false) Go.Value.nilFunc Tryz.t112 := ⟨Tryz.underlying112, Tryz.zeroValue112, rfl⟩
instance ty113 : Ty Tryz.prog 113 (Go.TypeDesc.func #[] #[85] false) Go.Value.nilFunc Tryz.t113 := ⟨Tryz.underlying113, Tryz.zeroValue113, rfl⟩
instance ty114 : Ty Tryz.prog 114 (Go.TypeDesc.func #[85] #[] false) Go.Value.nilFunc Tryz.t114 := ⟨Tryz.underlying114, Tryz.zeroValue114, rfl⟩
instance ty115 : Ty Tryz.prog 115 (Go.TypeDesc.interface #[("As", 117)]) Go.Value.nilIface Tryz.t115 := ⟨Tryz.underlying115, Tryz.zeroValue115, rfl⟩
instance ty116 : Ty Tryz.prog 116 (Go.TypeDesc.tuple #[115, 4]) (Go.Value.tuple #[Go.Value.nilIface, Go.Value.bool false]) Tryz.t116 := ⟨Tryz.underlying116, Tryz.zeroValue116, rfl⟩
instance ty117 : Ty Tryz.prog 117 (Go.TypeDesc.func #[20] #[4] false) Go.Value.nilFunc Tryz.t117 := ⟨Tryz.underlying117, Tryz.zeroValue117, rfl⟩
instance ty118 : Ty Tryz.prog 118 (Go.TypeDesc.interface #[("Unwrap", 119)]) Go.Value.nilIface Tryz.t118 := ⟨Tryz.underlying118, Tryz.zeroValue118, rfl⟩
instance ty119 : Ty Tryz.prog 119 (Go.TypeDesc.func #[] #[26] false) Go.Value.nilFunc Tryz.t119 := ⟨Tryz.underlying119, Tryz.zeroValue119, rfl⟩
instance ty120 : Ty Tryz.prog 120 (Go.TypeDesc.interface #[("Unwrap", 122)]) Go.Value.nilIface Tryz.t120 := ⟨Tryz.underlying120, Tryz.zeroValue120, rfl⟩
instance ty121 : Ty Tryz.prog 121 (Go.TypeDesc.slice 26) (Go.Value.slice none 0 0) Tryz.t121 := ⟨Tryz.underlying121, Tryz.zeroValue121, rfl⟩
instance ty122 : Ty Tryz.prog 122 (Go.TypeDesc.func #[] #[121] false) Go.Value.nilFunc Tryz.t122 := ⟨Tryz.underlying122, Tryz.zeroValue122, rfl⟩
instance ty123 : Ty Tryz.prog 123 (Go.TypeDesc.array 24 5) (Go.Value.agg #[Go.Value.int Go.IntKind.u8 0, Go.Value.int Go.IntKind.u8 0, Go.Value.int Go.IntKind.u8 0, Go.Value.int Go.IntKind.u8 0, Go.Value.int Go.IntKind.u8 0, Go.Value.int Go.IntKind.u8 0, Go.Value.int Go.IntKind.u8 0, Go.Value.int Go.IntKind.u8 0, Go.Value.int Go.IntKind.u8 0, Go.Value.int Go.IntKind.u8 0, Go.Value.int Go.IntKind.u8 0, Go.Value.int Go.IntKind.u8 0, Go.Value.int Go.IntKind.u8 0, Go.Value.int Go.IntKind.u8 0, Go.Value.int Go.IntKind.u8 0, Go.Value.int Go.IntKind.u8 0, Go.Value.int Go.IntKind.u8 0, Go.Value.int Go.IntKind.u8 0, Go.Value.int Go.IntKind.u8 0, Go.Value.int Go.IntKind.u8 0, Go.Value.int Go.IntKind.u8 0, Go.Value.int Go.IntKind.u8 0, Go.Value.int Go.IntKind.u8 0, Go.Value.int Go.IntKind.u8 0]) Tryz.t123 := ⟨Tryz.underlying123, Tryz.zeroValue123, rfl⟩
instance ty124 : Ty Tryz.prog 124 (Go.TypeDesc.int Go.IntKind.u64) (Go.Value.int Go.IntKind.u64 0) Tryz.t124 := ⟨Tryz.underlying124, Tryz.zeroValue124, rfl⟩
instance ty125 : Ty Tryz.prog 125 (Go.TypeDesc.func #[124] #[3] false) Go.Value.nilFunc Tryz.t125 := ⟨Tryz.underlying125, Tryz.zeroValue125, rfl⟩
instance ty126 : Ty Tryz.prog 126 (Go.TypeDesc.func #[47, 124] #[] false) Go.Value.nilFunc Tryz.t126 := ⟨Tryz.underlying126, Tryz.zeroValue126, rfl⟩
instance ty127 : Ty Tryz.prog 127 (Go.TypeDesc.tuple #[47, 9]) (Go.Value.tuple #[Go.Value.slice none 0 0, Go.Value.string { data := #[] }]) Tryz.t127 := ⟨Tryz.underlying127, Tryz.zeroValue127, rfl⟩
instance ty128 : Ty Tryz.prog 128 (Go.TypeDesc.func #[47, 124, 3, 4, 4] #[47, 9] false) Go.Value.nilFunc Tryz.t128 := ⟨Tryz.underlying128, Tryz.zeroValue128, rfl⟩
instance ty129 : Ty Tryz.prog 129 (Go.TypeDesc.func #[82] #[82] false) Go.Value.nilFunc Tryz.t129 := ⟨Tryz.underlying129, Tryz.zeroValue129, rfl⟩
instance ty130 : Ty Tryz.prog 130 (Go.TypeDesc.func #[3] #[47] false) Go.Value.nilFunc Tryz.t130 := ⟨Tryz.underlying130, Tryz.zeroValue130, rfl⟩
instance ty131 : Ty Tryz.prog 131 (Go.TypeDesc.func #[9, 9] #[4] false) Go.Value.nilFunc Tryz.t131 := ⟨Tryz.underlying131, Tryz.zeroValue131, rfl⟩
instance ty132 : Ty Tryz.prog 132 (Go.TypeDesc.func #[5] #[4] false) Go.Value.nilFunc Tryz.t132 := ⟨Tryz.underlying132, Tryz.zeroValue132, rfl⟩
instance ty133 : Ty Tryz.prog 133 (Go.TypeDesc.func #[9, 21] #[4] false) Go.Value.nilFunc Tryz.t133 := ⟨Tryz.underlying133, Tryz.zeroValue133, rfl⟩
instance ty134 : Ty Tryz.prog 134 (Go.TypeDesc.int Go.IntKind.i64) (Go.Value.int Go.IntKind.i64 0) Tryz.t134 := ⟨Tryz.underlying134, Tryz.zeroValue134, rfl⟩
instance ty135 : Ty Tryz.prog 135 (Go.TypeDesc.tuple #[2, 26]) (Go.Value.tuple #[Go.Value.int Go.IntKind.i64 0, Go.Value.nilIface]) Tryz.t135 := ⟨Tryz.underlying135, Tryz.zeroValue135, rfl⟩
instance ty136 : Ty Tryz.prog 136 (Go.TypeDesc.func #[9, 3, 3] #[2, 26] false) Go.Value.nilFunc Tryz.t136 := ⟨Tryz.underlying136, Tryz.zeroValue136, rfl⟩
instance ty137 : Ty Tryz.prog 137 (Go.TypeDesc.pointer 156) (Go.Value.pointer none) Tryz.t137 := ⟨Tryz.underlying137, Tryz.zeroValue137, rfl⟩
instance ty138 : Ty Tryz.prog 138 (Go.TypeDesc.func #[9, 9] #[137] false) Go.Value.nilFunc Tryz.t138 := ⟨Tryz.underlying138, Tryz.zeroValue138, rfl⟩
instance ty139 : Ty Tryz.prog 139 (Go.TypeDesc.func #[9, 9, 3] #[137] false) Go.Value.nilFunc Tryz.t139 := ⟨Tryz.underlying139, Tryz.zeroValue139, rfl⟩
instance ty140 : Ty Tryz.prog 140 (Go.TypeDesc.func #[3] #[3] false) Go.Value.nilFunc Tryz.t140 := ⟨Tryz.underlying140, Tryz.zeroValue140, rfl⟩
instance ty141 : Ty Tryz.prog 141 (Go.TypeDesc.func #[4] #[3] false) Go.Value.nilFunc Tryz.t141 := ⟨Tryz.underlying141, Tryz.zeroValue141, rfl⟩
instance ty142 : Ty Tryz.prog 142 (Go.TypeDesc.array 20 124) (Go.Value.agg #[Go.Value.int Go.IntKind.u64 0, Go.Value.int Go.IntKind.u64 0, Go.Value.int Go.IntKind.u64 0, Go.Value.int Go.IntKind.u64 0, Go.Value.int Go.IntKind.u64 0, Go.Value.int Go.IntKind.u64 0, Go.Value.int Go.IntKind.u64 0, Go.Value.int Go.IntKind.u64 0, Go.Value.int Go.IntKind.u64 0, Go.Value.int Go.IntKind.u64 0, Go.Value.int Go.IntKind.u64 0, Go.Value.int Go.IntKind.u64 0, Go.Value.int Go.IntKind.u64 0, Go.Value.int Go.IntKind.u64 0, Go.Value.int Go.IntKind.u64 0, Go.Value.int Go.IntKind.u64 0, Go.Value.int Go.IntKind.u64 0, Go.Value.int Go.IntKind.u64 0, Go.Value.int Go.IntKind.u64 0, Go.Value.int Go.IntKind.u64 0]) Tryz.t142 := ⟨Tryz.underlying142, Tryz.zeroValue142, rfl⟩
instance ty143 : Ty Tryz.prog 143 (Go.TypeDesc.int Go.IntKind.u32) (Go.Value.int Go.IntKind.u32 0) Tryz.t143 := ⟨Tryz.underlying143, Tryz.zeroValue143, rfl⟩
instance ty144 : Ty Tryz.prog 144 (Go.TypeDesc.array 65 5) (Go.Value.agg Go.Proofs.Tryz.zeroCells144) Tryz.t144 := ⟨Tryz.underlying144, Tryz.zeroValue144, rfl⟩
instance ty145 : Ty Tryz.prog 145 (Go.TypeDesc.func #[66] #[3] false) Go.Value.nilFunc Tryz.t145 := ⟨Tryz.underlying145, Tryz.zeroValue145, rfl⟩
instance ty146 : Ty Tryz.prog 146 (Go.TypeDesc.array 256 5) (Go.Value.agg Go.Proofs.Tryz.zeroCells146) Tryz.t146 := ⟨Tryz.underlying146, Tryz.zeroValue146, rfl⟩
instance ty147 : Ty Tryz.prog 147 (Go.TypeDesc.struct #[{ name := "lo", type := 5, offset := 0, embedded := false, tag := "", pkgPath := "unicode/utf8", byteOffset := 0 }, { name := "hi", type := 5, offset := 1, embedded := false, tag := "", pkgPath := "unicode/utf8", byteOffset := 1 }]) (Go.Value.agg #[Go.Value.int Go.IntKind.u8 0, Go.Value.int Go.IntKind.u8 0]) Tryz.t147 := ⟨Tryz.underlying147, Tryz.zeroValue147, rfl⟩
instance ty148 : Ty Tryz.prog 148 (Go.TypeDesc.struct #[{ name := "lo", type := 5, offset := 0, embedded := false, tag := "", pkgPath := "unicode/utf8", byteOffset := 0 }, { name := "hi", type := 5, offset := 1, embedded := false, tag := "", pkgPath := "unicode/utf8", byteOffset := 1 }]) (Go.Value.agg #[Go.Value.int Go.IntKind.u8 0, Go.Value.int Go.IntKind.u8 0]) Tryz.t148 := ⟨Tryz.underlying148, Tryz.zeroValue148, rfl⟩
instance ty149 : Ty Tryz.prog 149 (Go.TypeDesc.array 16 148) (Go.Value.agg #[Go.Value.int Go.IntKind.u8 0, Go.Value.int Go.IntKind.u8 0, Go.Value.int Go.IntKind.u8 0, Go.Value.int Go.IntKind.u8 0, Go.Value.int Go.IntKind.u8 0, Go.Value.int Go.IntKind.u8 0, Go.Value.int Go.IntKind.u8 0, Go.Value.int Go.IntKind.u8 0, Go.Value.int Go.IntKind.u8 0, Go.Value.int Go.IntKind.u8 0, Go.Value.int Go.IntKind.u8 0, Go.Value.int Go.IntKind.u8 0, Go.Value.int Go.IntKind.u8 0, Go.Value.int Go.IntKind.u8 0, Go.Value.int Go.IntKind.u8 0, Go.Value.int Go.IntKind.u8 0, Go.Value.int Go.IntKind.u8 0, Go.Value.int Go.IntKind.u8 0, Go.Value.int Go.IntKind.u8 0, Go.Value.int Go.IntKind.u8 0, Go.Value.int Go.IntKind.u8 0, Go.Value.int Go.IntKind.u8 0, Go.Value.int Go.IntKind.u8 0, Go.Value.int Go.IntKind.u8 0, Go.Value.int Go.IntKind.u8 0, Go.Value.int Go.IntKind.u8 0, Go.Value.int Go.IntKind.u8 0, Go.Value.int Go.IntKind.u8 0, Go.Value.int Go.IntKind.u8 0, Go.Value.int Go.IntKind.u8 0, Go.Value.int Go.IntKind.u8 0, Go.Value.int Go.IntKind.u8 0]) Tryz.t149 := ⟨Tryz.underlying149, Tryz.zeroValue149, rfl⟩
instance ty150 : Ty Tryz.prog 150 (Go.TypeDesc.func #[9, 5] #[3] false) Go.Value.nilFunc Tryz.t150 := ⟨Tryz.underlying150, Tryz.zeroValue150, rfl⟩
instance ty151 : Ty Tryz.prog 151 (Go.TypeDesc.func #[9, 21] #[3] false) Go.Value.nilFunc Tryz.t151 := ⟨Tryz.underlying151, Tryz.zeroValue151, rfl⟩
instance ty152 : Ty Tryz.prog 152 (Go.TypeDesc.tuple #[124, 26]) (Go.Value.tuple #[Go.Value.int Go.IntKind.u64 0, Go.Value.nilIface]) Tryz.t152 := ⟨Tryz.underlying152, Tryz.zeroValue152, rfl⟩
instance ty153 : Ty Tryz.prog 153 (Go.TypeDesc.func #[9, 3, 3] #[124, 26] false) Go.Value.nilFunc Tryz.t153 := ⟨Tryz.underlying153, Tryz.zeroValue153, rfl⟩
instance ty154 : Ty Tryz.prog 154 (Go.TypeDesc.func #[9] #[9] false) Go.Value.nilFunc Tryz.t154 := ⟨Tryz.underlying154, Tryz.zeroValue154, rfl⟩
instance ty155 : Ty Tryz.prog 155 (Go.TypeDesc.struct #[{ name := "Func", type := 9, offset := 0, embedded := false, tag := "", pkgPath := "", byteOffset := 0 }, { name := "Num", type := 9, offset := 1, embedded := false, tag := "", pkgPath := "", byteOffset := 16 }, { name := "Err", type := 26, offset := 2, embedded := false, tag := "", pkgPath := "", byteOffset := 32 }]) (Go.Value.agg #[Go.Value.string { data := #[] }, Go.Value.string { data := #[] }, Go.Value.nilIface]) Tryz.t155 := ⟨Tryz.underlying155, Tryz.zeroValue155, rfl⟩
instance ty156 : Ty Tryz.prog 156 (Go.TypeDesc.struct #[{ name := "Func", type := 9, offset := 0, embedded := false, tag := "", pkgPath := "", byteOffset := 0 }, { name := "Num", type := 9, offset := 1, embedded := false, tag := "", pkgPath := "", byteOffset := 16 }, { name := "Err", type := 26, offset := 2, embedded := false, tag := "", pkgPath := "", byteOffset := 32 }]) (Go.Value.agg #[Go.Value.string { data := #[] }, Go.Value.string { data := #[] }, Go.Value.nilIface]) Tryz.t156 := ⟨Tryz.underlying156, Tryz.zeroValue156, rfl⟩
instance ty157 : Ty Tryz.prog 157 (Go.TypeDesc.func #[9] #[26] false) Go.Value.nilFunc Tryz.t157 := ⟨Tryz.underlying157, Tryz.zeroValue157, rfl⟩
instance ty158 : Ty Tryz.prog 158 (Go.TypeDesc.func #[143] #[3] false) Go.Value.nilFunc Tryz.t158 := ⟨Tryz.underlying158, Tryz.zeroValue158, rfl⟩
instance ty159 : Ty Tryz.prog 159 (Go.TypeDesc.tuple #[143, 143]) (Go.Value.tuple #[Go.Value.int Go.IntKind.u32 0, Go.Value.int Go.IntKind.u32 0]) Tryz.t159 := ⟨Tryz.underlying159, Tryz.zeroValue159, rfl⟩
instance ty160 : Ty Tryz.prog 160 (Go.TypeDesc.func #[9] #[143, 143] false) Go.Value.nilFunc Tryz.t160 := ⟨Tryz.underlying160, Tryz.zeroValue160, rfl⟩
instance ty161 : Ty Tryz.prog 161 (Go.TypeDesc.func #[21] #[4] false) Go.Value.nilFunc Tryz.t161 := ⟨Tryz.underlying161, Tryz.zeroValue161, rfl⟩
instance ty162 : Ty Tryz.prog 162 (Go.TypeDesc.func #[5] #[5] false) Go.Value.nilFunc Tryz.t162 := ⟨Tryz.underlying162, Tryz.zeroValue162, rfl⟩
instance ty163 : Ty Tryz.prog 163 (Go.TypeDesc.pointer 165) (Go.Value.pointer none) Tryz.t163 := ⟨Tryz.underlying163, Tryz.zeroValue163, rfl⟩
instance ty164 : Ty Tryz.prog 164 (Go.TypeDesc.struct #[{ name := "s", type := 9, offset := 0, embedded := false, tag := "", pkgPath := "errors", byteOffset := 0 }]) (Go.Value.agg #[Go.Value.string { data := #[] }]) Tryz.t164 := ⟨Tryz.underlying164, Tryz.zeroValue164, rfl⟩
instance ty165 : Ty Tryz.prog 165 (Go.TypeDesc.struct #[{ name := "s", type := 9, offset := 0, embedded := false, tag := "", pkgPath := "errors", byteOffset := 0 }]) (Go.Value.agg #[Go.Value.string { data := #[] }]) Tryz.t165 := ⟨Tryz.underlying165, Tryz.zeroValue165, rfl⟩
instance ty166 : Ty Tryz.prog 166 (Go.TypeDesc.array 32 5) (Go.Value.agg #[Go.Value.int Go.IntKind.u8 0, Go.Value.int Go.IntKind.u8 0, Go.Value.int Go.IntKind.u8 0, Go.Value.int Go.IntKind.u8 0, Go.Value.int Go.IntKind.u8 0, Go.Value.int Go.IntKind.u8 0, Go.Value.int Go.IntKind.u8 0, Go.Value.int Go.IntKind.u8 0, Go.Value.int Go.IntKind.u8 0, Go.Value.int Go.IntKind.u8 0, Go.Value.int Go.IntKind.u8 0, Go.Value.int Go.IntKind.u8 0, Go.Value.int Go.IntKind.u8 0, Go.Value.int Go.IntKind.u8 0, Go.Value.int Go.IntKind.u8 0, Go.Value.int Go.IntKind.u8 0, Go.Value.int Go.IntKind.u8 0, Go.Value.int Go.IntKind.u8 0, Go.Value.int Go.IntKind.u8 0, Go.Value.int Go.IntKind.u8 0, Go.Value.int Go.IntKind.u8 0, Go.Value.int Go.IntKind.u8 0, Go.Value.int Go.IntKind.u8 0, Go.Value.int Go.IntKind.u8 0, Go.Value.int Go.IntKind.u8 0, Go.Value.int Go.IntKind.u8 0, Go.Value.int Go.IntKind.u8 0, Go.Value.int Go.IntKind.u8 0, Go.Value.int Go.IntKind.u8 0, Go.Value.int Go.IntKind.u8 0, Go.Value.int Go.IntKind.u8 0, Go.Value.int Go.IntKind.u8 0]) Tryz.t166 := ⟨Tryz.underlying166, Tryz.zeroValue166, rfl⟩
instance ty167 : Ty Tryz.prog 167 (Go.TypeDesc.array 64 5) (Go.Value.agg #[Go.Value.int Go.IntKind.u8 0, Go.Value.int Go.IntKind.u8 0, Go.Value.int Go.IntKind.u8 0, Go.Value.int Go.IntKind.u8 0, Go.Value.int Go.IntKind.u8 0, Go.Value.int Go.IntKind.u8 0, Go.Value.int Go.IntKind.u8 0, Go.Value.int Go.IntKind.u8 0, Go.Value.int Go.IntKind.u8 0, Go.Value.int Go.IntKind.u8 0, Go.Value.int Go.IntKind.u8 0, Go.Value.int Go.IntKind.u8 0, Go.Value.int Go.IntKind.u8 0, Go.Value.int Go.IntKind.u8 0, Go.Value.int Go.IntKind.u8 0, Go.Value.int Go.IntKind.u8 0, Go.Value.int Go.IntKind.u8 0, Go.Value.int Go.IntKind.u8 0, Go.Value.int Go.IntKind.u8 0, Go.Value.int Go.IntKind.u8 0, Go.Value.int Go.IntKind.u8 0, Go.Value.int Go.IntKind.u8 0, Go.Value.int Go.IntKind.u8 0, Go.Value.int Go.IntKind.u8 0, Go.Value.int Go.IntKind.u8 0, Go.Value.int Go.IntKind.u8 0, Go.Value.int Go.IntKind.u8 0, Go.Value.int Go.IntKind.u8 0, Go.Value.int Go.IntKind.u8 0, Go.Value.int Go.IntKind.u8 0, Go.Value.int Go.IntKind.u8 0, Go.Value.int Go.IntKind.u8 0, Go.Value.int Go.IntKind.u8 0, Go.Value.int Go.IntKind.u8 0, Go.Value.int Go.IntKind.u8 0, Go.Value.int Go.IntKind.u8 0, Go.Value.int Go.IntKind.u8 0, Go.Value.int Go.IntKind.u8 0, Go.Value.int Go.IntKind.u8 0, Go.Value.int Go.IntKind.u8 0, Go.Value.int Go.IntKind.u8 0, Go.Value.int Go.IntKind.u8 0, Go.Value.int Go.IntKind.u8 0, Go.Value.int Go.IntKind.u8 0, Go.Value.int Go.IntKind.u8 0, Go.Value.int Go.IntKind.u8 0, Go.Value.int Go.IntKind.u8 0, Go.Value.int Go.IntKind.u8 0, Go.Value.int Go.IntKind.u8 0, Go.Value.int Go.IntKind.u8 0, Go.Value.int Go.IntKind.u8 0, Go.Value.int Go.IntKind.u8 0, Go.Value.int Go.IntKind.u8 0, Go.Value.int Go.IntKind.u8 0, Go.Value.int Go.IntKind.u8 0, Go.Value.int Go.IntKind.u8 0, Go.Value.int Go.IntKind.u8 0, Go.Value.int Go.IntKind.u8 0, Go.Value.int Go.IntKind.u8 0, Go.Value.int Go.IntKind.u8 0, Go.Value.int Go.IntKind.u8 0, Go.Value.int Go.IntKind.u8 0, Go.Value.int Go.IntKind.u8 0, Go.Value.int Go.IntKind.u8 0]) Tryz.t167 := ⟨Tryz.underlying167, Tryz.zeroValue167, rfl⟩
instance ty168 : Ty Tryz.prog 168 (Go.TypeDesc.struct #[{ name := "_interface", type := 17, offset := 0, embedded := false, tag := "", pkgPath := "runtime", byteOffset := 0 }, { name := "concrete", type := 17, offset := 1, embedded := false, tag := "", pkgPath := "runtime", byteOffset := 8 }, { name := "asserted", type := 17, offset := 2, embedded := false, tag := "", pkgPath := "runtime", byteOffset := 16 }, { name := "missingMethod", type := 9, offset := 3, embedded := false, tag := "", pkgPath := "runtime", byteOffset := 24 }]) (Go.Value.agg #[Go.Value.pointer none, Go.Value.pointer none, Go.Value.pointer none, Go.Value.string { data := #[] }]) Tryz.t168 := ⟨Tryz.underlying168, Tryz.zeroValue168, rfl⟩
instance ty169 : Ty Tryz.prog 169 (Go.TypeDesc.struct #[{ name := "_interface", type := 17, offset := 0, embedded := false, tag := "", pkgPath := "runtime", byteOffset := 0 }, { name := "concrete", type := 17, offset := 1, embedded := false, tag := "", pkgPath := "runtime", byteOffset := 8 }, { name := "asserted", type := 17, offset := 2, embedded := false, tag := "", pkgPath := "runtime", byteOffset := 16 }, { name := "missingMethod", type := 9, offset := 3, embedded := false, tag := "", pkgPath := "runtime", byteOffset := 24 }]) (Go.Value.agg #[Go.Value.pointer none, Go.Value.pointer none, Go.Value.pointer none, Go.Value.string { data := #[] }]) Tryz.t169 := ⟨Tryz.underlying169, Tryz.zeroValue169, rfl⟩
instance ty170 : Ty Tryz.prog 170 (Go.TypeDesc.array 0 16) (Go.Value.agg #[]) Tryz.t170 := ⟨Tryz.underlying170, Tryz.zeroValue170, rfl⟩
instance ty171 : Ty Tryz.prog 171 (Go.TypeDesc.struct #[{ name := "_", type := 170, offset := 0, embedded := false, tag := "", pkgPath := "runtime", byteOffset := 0 }]) (Go.Value.agg #[]) Tryz.t171 := ⟨Tryz.underlying171, Tryz.zeroValue171, rfl⟩
instance ty172 : Ty Tryz.prog 172 (Go.TypeDesc.struct #[{ name := "_", type := 170, offset := 0, embedded := false, tag := "", pkgPath := "runtime", byteOffset := 0 }]) (Go.Value.agg #[]) Tryz.t172 := ⟨Tryz.underlying172, Tryz.zeroValue172, rfl⟩
instance ty173 : Ty Tryz.prog 173 (Go.TypeDesc.func #[] #[3] false) Go.Value.nilFunc Tryz.t173 := ⟨Tryz.underlying173, Tryz.zeroValue173, rfl⟩
instance ty174 : Ty Tryz.prog 174 (Go.TypeDesc.func #[] #[17] false) Go.Value.nilFunc Tryz.t174 := ⟨Tryz.underlying174, Tryz.zeroValue174, rfl⟩
instance ty175 : Ty Tryz.prog 175 (Go.TypeDesc.int Go.IntKind.u8) (Go.Value.int Go.IntKind.u8 0) Tryz.t175 := ⟨Tryz.underlying175, Tryz.zeroValue175, rfl⟩
instance ty176 : Ty Tryz.prog 176 (Go.TypeDesc.func #[82, 82] #[4] false) Go.Value.nilFunc Tryz.t176 := ⟨Tryz.underlying176, Tryz.zeroValue176, rfl⟩
instance ty177 : Ty Tryz.prog 177 (Go.TypeDesc.int Go.IntKind.i32) (Go.Value.int Go.IntKind.i32 0) Tryz.t177 := ⟨Tryz.underlying177, Tryz.zeroValue177, rfl⟩
instance ty178 : Ty Tryz.prog 178 (Go.TypeDesc.int Go.IntKind.i32) (Go.Value.int Go.IntKind.i32 0) Tryz.t178 := ⟨Tryz.underlying178, Tryz.zeroValue178, rfl⟩
instance ty179 : Ty Tryz.prog 179 (Go.TypeDesc.struct #[{ name := "Size_", type := 12, offset := 0, embedded := false, tag := "", pkgPath := "", byteOffset := 0 }, { name := "PtrBytes", type := 12, offset := 1, embedded := false, tag := "", pkgPath := "", byteOffset := 8 }, { name := "Hash", type := 143, offset := 2, embedded := false, tag := "", pkgPath := "", byteOffset := 16 }, { name := "TFlag", type := 175, offset := 3, embedded := false, tag := "", pkgPath := "", byteOffset := 20 }, { name := "Align_", type := 5, offset := 4, embedded := false, tag := "", pkgPath := "", byteOffset := 21 }, { name := "FieldAlign_", type := 5, offset := 5, embedded := false, tag := "", pkgPath := "", byteOffset := 22 }, { name := "Kind_", type := 90, offset := 6, embedded := false, tag := "", pkgPath := "", byteOffset := 23 }, { name := "Equal", type := 176, offset := 7, embedded := false, tag := "", pkgPath := "", byteOffset := 24 }, { name := "GCData", type := 96, offset := 8, embedded := false, tag := "", pkgPath := "", byteOffset := 32 }, { name := "Str", type := 177, offset := 9, embedded := false, tag := "", pkgPath := "", byteOffset := 40 }, { name := "PtrToThis", type := 178, offset := 10, embedded := false, tag := "", pkgPath := "", byteOffset := 44 }]) (Go.Value.agg #[Go.Value.int Go.IntKind.u64 0, Go.Value.int Go.IntKind.u64 0, Go.Value.int Go.IntKind.u32 0, Go.Value.int Go.IntKind.u8 0, Go.Value.int Go.IntKind.u8 0, Go.Value.int Go.IntKind.u8 0, Go.Value.int Go.IntKind.u8 0, Go.Value.nilFunc, Go.Value.pointer none, Go.Value.int Go.IntKind.i32 0, Go.Value.int Go.IntKind.i32 0]) Tryz.t179 := ⟨Tryz.underlying179, Tryz.zeroValue179, rfl⟩
instance ty180 : Ty Tryz.prog 180 (Go.TypeDesc.struct #[{ name := "Size_", type := 12, offset := 0, embedded := false, tag := "", pkgPath := "", byteOffset := 0 }, { name := "PtrBytes", type := 12, offset := 1, embedded := false, tag := "", pkgPath := "", byteOffset := 8 }, { name := "Hash", type := 143, offset := 2, embedded := false, tag := "", pkgPath := "", byteOffset := 16 }, { name := "TFlag", type := 175, offset := 3, embedded := false, tag := "", pkgPath := "", byteOffset := 20 }, { name := "Align_", type := 5, offset := 4, embedded := false, tag := "", pkgPath := "", byteOffset := 21 }, { name := "FieldAlign_", type := 5, offset := 5, embedded := false, tag := "", pkgPath := "", byteOffset := 22 }, { name := "Kind_", type := 90, offset := 6, embedded := false, tag := "", pkgPath := "", byteOffset := 23 }, { name := "Equal", type := 176, offset := 7, embedded := false, tag := "", pkgPath := "", byteOffset := 24 }, { name := "GCData", type := 96, offset := 8, embedded := false, tag := "", pkgPath := "", byteOffset := 32 }, { name := "Str", type := 177, offset := 9, embedded := false, tag := "", pkgPath := "", byteOffset := 40 }, { name := "PtrToThis", type := 178, offset := 10, embedded := false, tag := "", pkgPath := "", byteOffset := 44 }]) (Go.Value.agg #[Go.Value.int Go.IntKind.u64 0, Go.Value.int Go.IntKind.u64 0, Go.Value.int Go.IntKind.u32 0, Go.Value.int Go.IntKind.u8 0, Go.Value.int Go.IntKind.u8 0, Go.Value.int Go.IntKind.u8 0, Go.Value.int Go.IntKind.u8 0, Go.Value.nilFunc, Go.Value.pointer none, Go.Value.int Go.IntKind.i32 0, Go.Value.int Go.IntKind.i32 0]) Tryz.t180 := ⟨Tryz.underlying180, Tryz.zeroValue180, rfl⟩
instance ty181 : Ty Tryz.prog 181 (Go.TypeDesc.func #[] #[12] false) Go.Value.nilFunc Tryz.t181 := ⟨Tryz.underlying181, Tryz.zeroValue181, rfl⟩
instance ty182 : Ty Tryz.prog 182 (Go.TypeDesc.func #[] #[185] false) Go.Value.nilFunc Tryz.t182 := ⟨Tryz.underlying182, Tryz.zeroValue182, rfl⟩
instance ty183 : Ty Tryz.prog 183 (Go.TypeDesc.struct #[{ name := "Method", type := 9, offset := 0, embedded := false, tag := "", pkgPath := "", byteOffset := 0 }, { name := "Kind", type := 90, offset := 1, embedded := false, tag := "", pkgPath := "", byteOffset := 16 }]) (Go.Value.agg #[Go.Value.string { data := #[] }, Go.Value.int Go.IntKind.u8 0]) Tryz.t183 := ⟨Tryz.underlying183, Tryz.zeroValue183, rfl⟩
instance ty184 : Ty Tryz.prog 184 (Go.TypeDesc.struct #[{ name := "Method", type := 9, offset := 0, embedded := false, tag := "", pkgPath := "", byteOffset := 0 }, { name := "Kind", type := 90, offset := 1, embedded := false, tag := "", pkgPath := "", byteOffset := 16 }]) (Go.Value.agg #[Go.Value.string { data := #[] }, Go.Value.int Go.IntKind.u8 0]) Tryz.t184 := ⟨Tryz.underlying184, Tryz.zeroValue184, rfl⟩
instance ty185 : Ty Tryz.prog 185 (Go.TypeDesc.pointer 188) (Go.Value.pointer none) Tryz.t185 := ⟨Tryz.underlying185, Tryz.zeroValue185, rfl⟩
instance ty186 : Ty Tryz.prog 186 (Go.TypeDesc.func #[] #[189] false) Go.Value.nilFunc Tryz.t186 := ⟨Tryz.underlying186, Tryz.zeroValue186, rfl⟩
instance ty187 : Ty Tryz.prog 187 (Go.TypeDesc.struct #[{ name := "PkgPath", type := 177, offset := 0, embedded := false, tag := "", pkgPath := "", byteOffset := 0 }, { name := "Mcount", type := 48, offset := 1, embedded := false, tag := "", pkgPath := "", byteOffset := 4 }, { name := "Xcount", type := 48, offset := 2, embedded := false, tag := "", pkgPath := "", byteOffset := 6 }, { name := "Moff", type := 143, offset := 3, embedded := false, tag := "", pkgPath := "", byteOffset := 8 }, { name := "_", type := 143, offset := 4, embedded := false, tag := "", pkgPath := "internal/abi", byteOffset := 12 }]) (Go.Value.agg #[Go.Value.int Go.IntKind.i32 0, Go.Value.int Go.IntKind.u16 0, Go.Value.int Go.IntKind.u16 0, Go.Value.int Go.IntKind.u32 0, Go.Value.int Go.IntKind.u32 0]) Tryz.t187 := ⟨Tryz.underlying187, Tryz.zeroValue187, rfl⟩
instance ty188 : Ty Tryz.prog 188 (Go.TypeDesc.struct #[{ name := "PkgPath", type := 177, offset := 0, embedded := false, tag := "", pkgPath := "", byteOffset := 0 }, { name := "Mcount", type := 48, offset := 1, embedded := false, tag := "", pkgPath := "", byteOffset := 4 }, { name := "Xcount", type := 48, offset := 2, embedded := false, tag := "", pkgPath := "", byteOffset := 6 }, { name := "Moff", type := 143, offset := 3, embedded := false, tag := "", pkgPath := "", byteOffset := 8 }, { name := "_", type := 143, offset := 4, embedded := false, tag := "", pkgPath := "internal/abi", byteOffset := 12 }]) (Go.Value.agg #[Go.Value.int Go.IntKind.i32 0, Go.Value.int Go.IntKind.u16 0, Go.Value.int Go.IntKind.u16 0, Go.Value.int Go.IntKind.u32 0, Go.Value.int Go.IntKind.u32 0]) Tryz.t188 := ⟨Tryz.underlying188, Tryz.zeroValue188, rfl⟩
instance ty189 : Ty Tryz.prog 189 (Go.TypeDesc.slice 192) (Go.Value.slice none 0 0) Tryz.t189 := ⟨Tryz.underlying189, Tryz.zeroValue189, rfl⟩
instance ty190 : Ty Tryz.prog 190 (Go.TypeDesc.int Go.IntKind.i32) (Go.Value.int Go.IntKind.i32 0) Tryz.t190 := ⟨Tryz.underlying190, Tryz.zeroValue190, rfl⟩
instance ty191 : Ty Tryz.prog 191 (Go.TypeDesc.struct #[{ name := "Name", type := 177, offset := 0, embedded := false, tag := "", pkgPath := "", byteOffset := 0 }, { name := "Mtyp", type := 178, offset := 1, embedded := false, tag := "", pkgPath := "", byteOffset := 4 }, { name := "Ifn", type := 190, offset := 2, embedded := false, tag := "", pkgPath := "", byteOffset := 8 }, { name := "Tfn", type := 190, offset := 3, embedded := false, tag := "", pkgPath := "", byteOffset := 12 }]) (Go.Value.agg #[Go.Value.int Go.IntKind.i32 0, Go.Value.int Go.IntKind.i32 0, Go.Value.int Go.IntKind.i32 0, Go.Value.int Go.IntKind.i32 0]) Tryz.t191 := ⟨Tryz.underlying191, Tryz.zeroValue191, rfl⟩
instance ty192 : Ty Tryz.prog 192 (Go.TypeDesc.struct #[{ name := "Name", type := 177, offset := 0, embedded := false, tag := "", pkgPath := "", byteOffset := 0 }, { name := "Mtyp", type := 178, offset := 1, embedded := false, tag := "", pkgPath := "", byteOffset := 4 }, { name := "Ifn", type := 190, offset := 2, embedded := false, tag := "", pkgPath := "", byteOffset := 8 }, { name := "Tfn", type := 190, offset := 3, embedded := false, tag := "", pkgPath := "", byteOffset := 12 }]) (Go.Value.agg #[Go.Value.int Go.IntKind.i32 0, Go.Value.int Go.IntKind.i32 0, Go.Value.int Go.IntKind.i32 0, Go.Value.int Go.IntKind.i32 0]) Tryz.t192 := ⟨Tryz.underlying192, Tryz.zeroValue192, rfl⟩
instance ty193 : Ty Tryz.prog 193 (Go.TypeDesc.pointer 26) (Go.Value.pointer none) Tryz.t193 := ⟨Tryz.underlying193, Tryz.zeroValue193, rfl⟩
instance tyB7 : TyB Tryz.prog 7 (fun i => nth [(0, 1), (1, 1), (2, 1), (3, 1)] i) [Go.Value.int Go.IntKind.i64 0, Go.Value.int Go.IntKind.i64 0, Go.Value.bool false, Go.Value.int Go.IntKind.u8 0] := tyB_struct' Tryz.underlying7 Tryz.zeroValue7 rfl
instance tyB8 : TyB Tryz.prog 8 (fun i => nth [(0, 1), (1, 1), (2, 1), (3, 1)] i) [Go.Value.int Go.IntKind.i64 0, Go.Value.int Go.IntKind.i64 0, Go.Value.bool false, Go.Value.int Go.IntKind.u8 0] := tyB_struct' Tryz.underlying8 Tryz.zeroValue8 rfl
instance tyB13 : TyB Tryz.prog 13 (fun i => nth [(0, 1), (1, 1)] i) [Go.Value.string { data := #[] }, Go.Value.int Go.IntKind.u64 0] := tyB_struct' Tryz.underlying13 Tryz.zeroValue13 rfl
instance tyB14 : TyB Tryz.prog 14 (fun i => nth [(0, 1), (1, 1)] i) [Go.Value.string { data := #[] }, Go.Value.int Go.IntKind.u64 0] := tyB_struct' Tryz.underlying14 Tryz.zeroValue14 rfl
instance tyB18 : TyB Tryz.prog 18 (fun i => nth [(0, 1)] i) [Go.Value.pointer none] := tyB_struct' Tryz.underlying18 Tryz.zeroValue18 rfl
instance tyB19 : TyB Tryz.prog 19 (fun i => nth [(0, 1)] i) [Go.Value.pointer none] := tyB_struct' Tryz.underlying19 Tryz.zeroValue19 rfl
instance tyB32 : TyB Tryz.prog 32 (fun i => nth [(0, 1), (1, 1), (2, 1)] i) [Go.Value.int Go.IntKind.i64 0, Go.Value.int Go.IntKind.i64 0, Go.Value.int Go.IntKind.i64 0] := tyB_struct' Tryz.underlying32 Tryz.zeroValue32 rfl
instance tyB33 : TyB Tryz.prog 33 (fun i => nth [(0, 1), (1, 1), (2, 1)] i) [Go.Value.int Go.IntKind.i64 0, Go.Value.int Go.IntKind.i64 0, Go.Value.int Go.IntKind.i64 0] := tyB_struct' Tryz.underlying33 Tryz.zeroValue33 rfl
instance tyB41 : TyB Tryz.prog 41 (fun i => nth [(0, 1), (1, 1)] i) [Go.Value.int Go.IntKind.i64 0, Go.Value.int Go.IntKind.i64 0] := tyB_struct' Tryz.underlying41 Tryz.zeroValue41 rfl
instance tyB42 : TyB Tryz.prog 42 (fun i => nth [(0, 1), (1, 1)] i) [Go.Value.int Go.IntKind.i64 0, Go.Value.int Go.IntKind.i64 0] := tyB_struct' Tryz.underlying42 Tryz.zeroValue42 rfl
instance tyB73 : TyB Tryz.prog 73 (fun i => nth [(0, 1), (1, 1)] i) [Go.Value.pointer none, Go.Value.slice none 0 0] := tyB_struct' Tryz.underlying73 Tryz.zeroValue73 rfl
instance tyB74 : TyB Tryz.prog 74 (fun i => nth [(0, 1), (1, 1)] i) [Go.Value.pointer none, Go.Value.slice none 0 0] := tyB_struct' Tryz.underlying74 Tryz.zeroValue74 rfl
instance tyB84 : TyB Tryz.prog 84 (fun i => nth [(0, 1), (1, 1), (2, 1)] i) [Go.Value.pointer none, Go.Value.pointer none, Go.Value.int Go.IntKind.u64 0] := tyB_struct' Tryz.underlying84 Tryz.zeroValue84 rfl
instance tyB85 : TyB Tryz.prog 85 (fun i => nth [(0, 1), (1, 1), (2, 1)] i) [Go.Value.pointer none, Go.Value.pointer none, Go.Value.int Go.IntKind.u64 0] := tyB_struct' Tryz.underlying85 Tryz.zeroValue85 rfl
instance tyB109 : TyB Tryz.prog 109 (fun i => nth [(0, 1)] i) [Go.Value.pointer none] := tyB_struct' Tryz.underlying109 Tryz.zeroValue109 rfl
instance tyB110 : TyB Tryz.prog 110 (fun i => nth [(0, 1)] i) [Go.Value.pointer none] := tyB_struct' Tryz.underlying110 Tryz.zeroValue110 rfl
instance tyB147 : TyB Tryz.prog 147 (fun i => nth [(0, 1), (1, 1)] i) [Go.Value.int Go.IntKind.u8 0, Go.Value.int Go.IntKind.u8 0] := tyB_struct' Tryz.underlying147 Tryz.zeroValue147 rfl
instance tyB148 : TyB Tryz.prog 148 (fun i => nth [(0, 1), (1, 1)] i) [Go.Value.int Go.IntKind.u8 0, Go.Value.int Go.IntKind.u8 0] := tyB_struct' Tryz.underlying148 Tryz.zeroValue148 rfl
instance tyB155 : TyB Tryz.prog 155 (fun i => nth [(0, 1), (1, 1), (2, 1)] i) [Go.Value.string { data := #[] }, Go.Value.string { data := #[] }, Go.Value.nilIface] := tyB_struct' Tryz.underlying155 Tryz.zeroValue155 rfl
instance tyB156 : TyB Tryz.prog 156 (fun i => nth [(0, 1), (1, 1), (2, 1)] i) [Go.Value.string { data := #[] }, Go.Value.string { data := #[] }, Go.Value.nilIface] := tyB_struct' Tryz.underlying156 Tryz.zeroValue156 rfl
instance tyB164 : TyB Tryz.prog 164 (fun i => nth [(0, 1)] i) [Go.Value.string { data := #[] }] := tyB_struct' Tryz.underlying164 Tryz.zeroValue164 rfl
instance tyB165 : TyB Tryz.prog 165 (fun i => nth [(0, 1)] i) [Go.Value.string { data := #[] }] := tyB_struct' Tryz.underlying165 Tryz.zeroValue165 rfl
instance tyB168 : TyB Tryz.prog 168 (fun i => nth [(0, 1), (1, 1), (2, 1), (3, 1)] i) [Go.Value.pointer none, Go.Value.pointer none, Go.Value.pointer none, Go.Value.string { data := #[] }] := tyB_struct' Tryz.underlying168 Tryz.zeroValue168 rfl
instance tyB169 : TyB Tryz.prog 169 (fun i => nth [(0, 1), (1, 1), (2, 1), (3, 1)] i) [Go.Value.pointer none, Go.Value.pointer none, Go.Value.pointer none, Go.Value.string { data := #[] }] := tyB_struct' Tryz.underlying169 Tryz.zeroValue169 rfl
instance tyB171 : TyB Tryz.prog 171 (fun i => nth [(0, 0)] i) [] := tyB_struct' Tryz.underlying171 Tryz.zeroValue171 rfl
instance tyB172 : TyB Tryz.prog 172 (fun i => nth [(0, 0)] i) [] := tyB_struct' Tryz.underlying172 Tryz.zeroValue172 rfl
instance tyB179 : TyB Tryz.prog 179 (fun i => nth [(0, 1), (1, 1), (2, 1), (3, 1), (4, 1), (5, 1), (6, 1), (7, 1), (8, 1), (9, 1), (10, 1)] i) [Go.Value.int Go.IntKind.u64 0, Go.Value.int Go.IntKind.u64 0, Go.Value.int Go.IntKind.u32 0, Go.Value.int Go.IntKind.u8 0, Go.Value.int Go.IntKind.u8 0, Go.Value.int Go.IntKind.u8 0, Go.Value.int Go.IntKind.u8 0, Go.Value.nilFunc, Go.Value.pointer none, Go.Value.int Go.IntKind.i32 0, Go.Value.int Go.IntKind.i32 0] := tyB_struct' Tryz.underlying179 Tryz.zeroValue179 rfl
instance tyB180 : TyB Tryz.prog 180 (fun i => nth [(0, 1), (1, 1), (2, 1), (3, 1), (4, 1), (5, 1), (6, 1), (7, 1), (8, 1), (9, 1), (10, 1)] i) [Go.Value.int Go.IntKind.u64 0, Go.Value.int Go.IntKind.u64 0, Go.Value.int Go.IntKind.u32 0, Go.Value.int Go.IntKind.u8 0, Go.Value.int Go.IntKind.u8 0, Go.Value.int Go.IntKind.u8 0, Go.Value.int Go.IntKind.u8 0, Go.Value.nilFunc, Go.Value.pointer none, Go.Value.int Go.IntKind.i32 0, Go.Value.int Go.IntKind.i32 0] := tyB_struct' Tryz.underlying180 Tryz.zeroValue180 rfl
instance tyB183 : TyB Tryz.prog 183 (fun i => nth [(0, 1), (1, 1)] i) [Go.Value.string { data := #[] }, Go.Value.int Go.IntKind.u8 0] := tyB_struct' Tryz.underlying183 Tryz.zeroValue183 rfl
instance tyB184 : TyB Tryz.prog 184 (fun i => nth [(0, 1), (1, 1)] i) [Go.Value.string { data := #[] }, Go.Value.int Go.IntKind.u8 0] := tyB_struct' Tryz.underlying184 Tryz.zeroValue184 rfl
instance tyB187 : TyB Tryz.prog 187 (fun i => nth [(0, 1), (1, 1), (2, 1), (3, 1), (4, 1)] i) [Go.Value.int Go.IntKind.i32 0, Go.Value.int Go.IntKind.u16 0, Go.Value.int Go.IntKind.u16 0, Go.Value.int Go.IntKind.u32 0, Go.Value.int Go.IntKind.u32 0] := tyB_struct' Tryz.underlying187 Tryz.zeroValue187 rfl
instance tyB188 : TyB Tryz.prog 188 (fun i => nth [(0, 1), (1, 1), (2, 1), (3, 1), (4, 1)] i) [Go.Value.int Go.IntKind.i32 0, Go.Value.int Go.IntKind.u16 0, Go.Value.int Go.IntKind.u16 0, Go.Value.int Go.IntKind.u32 0, Go.Value.int Go.IntKind.u32 0] := tyB_struct' Tryz.underlying188 Tryz.zeroValue188 rfl
instance tyB191 : TyB Tryz.prog 191 (fun i => nth [(0, 1), (1, 1), (2, 1), (3, 1)] i) [Go.Value.int Go.IntKind.i32 0, Go.Value.int Go.IntKind.i32 0, Go.Value.int Go.IntKind.i32 0, Go.Value.int Go.IntKind.i32 0] := tyB_struct' Tryz.underlying191 Tryz.zeroValue191 rfl
instance tyB192 : TyB Tryz.prog 192 (fun i => nth [(0, 1), (1, 1), (2, 1), (3, 1)] i) [Go.Value.int Go.IntKind.i32 0, Go.Value.int Go.IntKind.i32 0, Go.Value.int Go.IntKind.i32 0, Go.Value.int Go.IntKind.i32 0] := tyB_struct' Tryz.underlying192 Tryz.zeroValue192 rfl
instance : TyF Tryz.prog 7 0 0 := tyF_mk (i := Tryz.t2) Tryz.underlying7 rfl rfl rfl rfl
instance : TyF Tryz.prog 7 1 1 := tyF_mk (i := Tryz.t3) Tryz.underlying7 rfl rfl rfl rfl
instance : TyF Tryz.prog 7 2 2 := tyF_mk (i := Tryz.t4) Tryz.underlying7 rfl rfl rfl rfl
instance : TyF Tryz.prog 7 3 3 := tyF_mk (i := Tryz.t6) Tryz.underlying7 rfl rfl rfl rfl
instance : TyF Tryz.prog 8 0 0 := tyF_mk (i := Tryz.t2) Tryz.underlying8 rfl rfl rfl rfl
instance : TyF Tryz.prog 8 1 1 := tyF_mk (i := Tryz.t3) Tryz.underlying8 rfl rfl rfl rfl
instance : TyF Tryz.prog 8 2 2 := tyF_mk (i := Tryz.t4) Tryz.underlying8 rfl rfl rfl rfl
instance : TyF Tryz.prog 8 3 3 := tyF_mk (i := Tryz.t6) Tryz.underlying8 rfl rfl rfl rfl
instance : TyF Tryz.prog 13 0 0 := tyF_mk (i := Tryz.t9) Tryz.underlying13 rfl rfl rfl rfl
instance : TyF Tryz.prog 13 1 1 := tyF_mk (i := Tryz.t12) Tryz.underlying13 rfl rfl rfl rfl
instance : TyF Tryz.prog 14 0 0 := tyF_mk (i := Tryz.t9) Tryz.underlying14 rfl rfl rfl rfl
instance : TyF Tryz.prog 14 1 1 := tyF_mk (i := Tryz.t12) Tryz.underlying14 rfl rfl rfl rfl
instance : TyF Tryz.prog 18 0 0 := tyF_mk (i := Tryz.t17) Tryz.underlying18 rfl rfl rfl rfl
instance : TyF Tryz.prog 19 0 0 := tyF_mk (i := Tryz.t17) Tryz.underlying19 rfl rfl rfl rfl
instance : TyF Tryz.prog 32 0 0 := tyF_mk (i := Tryz.t31) Tryz.underlying32 rfl rfl rfl rfl
instance : TyF Tryz.prog 32 1 1 := tyF_mk (i := Tryz.t3) Tryz.underlying32 rfl rfl rfl rfl
instance : TyF Tryz.prog 32 2 2 := tyF_mk (i := Tryz.t3) Tryz.underlying32 rfl rfl rfl rfl
instance : TyF Tryz.prog 33 0 0 := tyF_mk (i := Tryz.t31) Tryz.underlying33 rfl rfl rfl rfl
instance : TyF Tryz.prog 33 1 1 := tyF_mk (i := Tryz.t3) Tryz.underlying33 rfl rfl rfl rfl
instance : TyF Tryz.prog 33 2 2 := tyF_mk (i := Tryz.t3) Tryz.underlying33 rfl rfl rfl rfl
instance : TyF Tryz.prog 41 0 0 := tyF_mk (i := Tryz.t3) Tryz.underlying41 rfl rfl rfl rfl
instance : TyF Tryz.prog 41 1 1 := tyF_mk (i := Tryz.t3) Tryz.underlying41 rfl rfl rfl rfl
instance : TyF Tryz.prog 42 0 0 := tyF_mk (i := Tryz.t3) Tryz.underlying42 rfl rfl rfl rfl
instance : TyF Tryz.prog 42 1 1 := tyF_mk (i := Tryz.t3) Tryz.underlying42 rfl rfl rfl rfl
instance : TyF Tryz.prog 73 0 0 := tyF_mk (i := Tryz.t72) Tryz.underlying73 rfl rfl rfl rfl
instance : TyF Tryz.prog 73 1 1 := tyF_mk (i := Tryz.t47) Tryz.underlying73 rfl rfl rfl rfl
instance : TyF Tryz.prog 74 0 0 := tyF_mk (i := Tryz.t72) Tryz.underlying74 rfl rfl rfl rfl
instance : TyF Tryz.prog 74 1 1 := tyF_mk (i := Tryz.t47) Tryz.underlying74 rfl rfl rfl rfl
instance : TyF Tryz.prog 84 0 0 := tyF_mk (i := Tryz.t17) Tryz.underlying84 rfl rfl rfl rfl
instance : TyF Tryz.prog 84 1 1 := tyF_mk (i := Tryz.t82) Tryz.underlying84 rfl rfl rfl rfl
instance : TyF Tryz.prog 84 2 2 := tyF_mk (i := Tryz.t83) Tryz.underlying84 rfl rfl rfl rfl
instance : TyF Tryz.prog 85 0 0 := tyF_mk (i := Tryz.t17) Tryz.underlying85 rfl rfl rfl rfl
instance : TyF Tryz.prog 85 1 1 := tyF_mk (i := Tryz.t82) Tryz.underlying85 rfl rfl rfl rfl
instance : TyF Tryz.prog 85 2 2 := tyF_mk (i := Tryz.t83) Tryz.underlying85 rfl rfl rfl rfl
instance : TyF Tryz.prog 109 0 0 := tyF_mk (i := Tryz.t17) Tryz.underlying109 rfl rfl rfl rfl
instance : TyF Tryz.prog 110 0 0 := tyF_mk (i := Tryz.t17) Tryz.underlying110 rfl rfl rfl rfl
instance : TyF Tryz.prog 147 0 0 := tyF_mk (i := Tryz.t5) Tryz.underlying147 rfl rfl rfl rfl
instance : TyF Tryz.prog 147 1 1 := tyF_mk (i := Tryz.t5) Tryz.underlying147 rfl rfl rfl rfl
instance : TyF Tryz.prog 148 0 0 := tyF_mk (i := Tryz.t5) Tryz.underlying148 rfl rfl rfl rfl
instance : TyF Tryz.prog 148 1 1 := tyF_mk (i := Tryz.t5) Tryz.underlying148 rfl rfl rfl rfl
instance : TyF Tryz.prog 155 0 0 := tyF_mk (i := Tryz.t9) Tryz.underlying155 rfl rfl rfl rfl
instance : TyF Tryz.prog 155 1 1 := tyF_mk (i := Tryz.t9) Tryz.underlying155 rfl rfl rfl rfl
instance : TyF Tryz.prog 155 2 2 := tyF_mk (i := Tryz.t26) Tryz.underlying155 rfl rfl rfl rfl
instance : TyF Tryz.prog 156 0 0 := tyF_mk (i := Tryz.t9) Tryz.underlying156 rfl rfl rfl rfl
instance : TyF Tryz.prog 156 1 1 := tyF_mk (i := Tryz.t9) Tryz.underlying156 rfl rfl rfl rfl
instance : TyF Tryz.prog 156 2 2 := tyF_mk (i := Tryz.t26) Tryz.underlying156 rfl rfl rfl rfl
instance : TyF Tryz.prog 164 0 0 := tyF_mk (i := Tryz.t9) Tryz.underlying164 rfl rfl rfl rfl
instance : TyF Tryz.prog 165 0 0 := tyF_mk (i := Tryz.t9) Tryz.underlying165 rfl rfl rfl rfl
instance : TyF Tryz.prog 168 0 0 := tyF_mk (i := Tryz.t17) Tryz.underlying168 rfl rfl rfl rfl
instance : TyF Tryz.prog 168 1 1 := tyF_mk (i := Tryz.t17) Tryz.underlying168 rfl rfl rfl rfl
instance : TyF Tryz.prog 168 2 2 := tyF_mk (i := Tryz.t17) Tryz.underlying168 rfl rfl rfl rfl
instance : TyF Tryz.prog 168 3 3 := tyF_mk (i := Tryz.t9) Tryz.underlying168 rfl rfl rfl rfl
instance : TyF Tryz.prog 169 0 0 := tyF_mk (i := Tryz.t17) Tryz.underlying169 rfl rfl rfl rfl
instance : TyF Tryz.prog 169 1 1 := tyF_mk (i := Tryz.t17) Tryz.underlying169 rfl rfl rfl rfl
instance : TyF Tryz.prog 169 2 2 := tyF_mk (i := Tryz.t17) Tryz.underlying169 rfl rfl rfl rfl
instance : TyF Tryz.prog 169 3 3 := tyF_mk (i := Tryz.t9) Tryz.underlying169 rfl rfl rfl rfl
instance : TyF Tryz.prog 179 0 0 := tyF_mk (i := Tryz.t12) Tryz.underlying179 rfl rfl rfl rfl
instance : TyF Tryz.prog 179 1 1 := tyF_mk (i := Tryz.t12) Tryz.underlying179 rfl rfl rfl rfl
instance : TyF Tryz.prog 179 2 2 := tyF_mk (i := Tryz.t143) Tryz.underlying179 rfl rfl rfl rfl
instance : TyF Tryz.prog 179 3 3 := tyF_mk (i := Tryz.t175) Tryz.underlying179 rfl rfl rfl rfl
instance : TyF Tryz.prog 179 4 4 := tyF_mk (i := Tryz.t5) Tryz.underlying179 rfl rfl rfl rfl
instance : TyF Tryz.prog 179 5 5 := tyF_mk (i := Tryz.t5) Tryz.underlying179 rfl rfl rfl rfl
instance : TyF Tryz.prog 179 6 6 := tyF_mk (i := Tryz.t90) Tryz.underlying179 rfl rfl rfl rfl
instance : TyF Tryz.prog 179 7 7 := tyF_mk (i := Tryz.t176) Tryz.underlying179 rfl rfl rfl rfl
instance : TyF Tryz.prog 179 8 8 := tyF_mk (i := Tryz.t96) Tryz.underlying179 rfl rfl rfl rfl
instance : TyF Tryz.prog 179 9 9 := tyF_mk (i := Tryz.t177) Tryz.underlying179 rfl rfl rfl rfl
instance : TyF Tryz.prog 179 10 10 := tyF_mk (i := Tryz.t178) Tryz.underlying179 rfl rfl rfl rfl
instance : TyF Tryz.prog 180 0 0 := tyF_mk (i := Tryz.t12) Tryz.underlying180 rfl rfl rfl rfl
instance : TyF Tryz.prog 180 1 1 := tyF_mk (i := Tryz.t12) Tryz.underlying180 rfl rfl rfl rfl
instance : TyF Tryz.prog 180 2 2 := tyF_mk (i := Tryz.t143) Tryz.underlying180 rfl rfl rfl rfl
instance : TyF Tryz.prog 180 3 3 := tyF_mk (i := Tryz.t175) Tryz.underlying180 rfl rfl rfl rfl
instance : TyF Tryz.prog 180 4 4 := tyF_mk (i := Tryz.t5) Tryz.underlying180 rfl rfl rfl rfl
instance : TyF Tryz.prog 180 5 5 := tyF_mk (i := Tryz.t5) Tryz.underlying180 rfl rfl rfl rfl
instance : TyF Tryz.prog 180 6 6 := tyF_mk (i := Tryz.t90) Tryz.underlying180 rfl rfl rfl rfl
instance : TyF Tryz.prog 180 7 7 := tyF_mk (i := Tryz.t176) Tryz.underlying180 rfl rfl rfl rfl
instance : TyF Tryz.prog 180 8 8 := tyF_mk (i := Tryz.t96) Tryz.underlying180 rfl rfl rfl rfl
instance : TyF Tryz.prog 180 9 9 := tyF_mk (i := Tryz.t177) Tryz.underlying180 rfl rfl rfl rfl
instance : TyF Tryz.prog 180 10 10 := tyF_mk (i := Tryz.t178) Tryz.underlying180 rfl rfl rfl rfl
instance : TyF Tryz.prog 183 0 0 := tyF_mk (i := Tryz.t9) Tryz.underlying183 rfl rfl rfl rfl
instance : TyF Tryz.prog 183 1 1 := tyF_mk (i := Tryz.t90) Tryz.underlying183 rfl rfl rfl rfl
instance : TyF Tryz.prog 184 0 0 := tyF_mk (i := Tryz.t9) Tryz.underlying184 rfl rfl rfl rfl
instance : TyF Tryz.prog 184 1 1 := tyF_mk (i := Tryz.t90) Tryz.underlying184 rfl rfl rfl rfl
instance : TyF Tryz.prog 187 0 0 := tyF_mk (i := Tryz.t177) Tryz.underlying187 rfl rfl rfl rfl
instance : TyF Tryz.prog 187 1 1 := tyF_mk (i := Tryz.t48) Tryz.underlying187 rfl rfl rfl rfl
instance : TyF Tryz.prog 187 2 2 := tyF_mk (i := Tryz.t48) Tryz.underlying187 rfl rfl rfl rfl
instance : TyF Tryz.prog 187 3 3 := tyF_mk (i := Tryz.t143) Tryz.underlying187 rfl rfl rfl rfl
instance : TyF Tryz.prog 187 4 4 := tyF_mk (i := Tryz.t143) Tryz.underlying187 rfl rfl rfl rfl
instance : TyF Tryz.prog 188 0 0 := tyF_mk (i := Tryz.t177) Tryz.underlying188 rfl rfl rfl rfl
instance : TyF Tryz.prog 188 1 1 := tyF_mk (i := Tryz.t48) Tryz.underlying188 rfl rfl rfl rfl
instance : TyF Tryz.prog 188 2 2 := tyF_mk (i := Tryz.t48) Tryz.underlying188 rfl rfl rfl rfl
instance : TyF Tryz.prog 188 3 3 := tyF_mk (i := Tryz.t143) Tryz.underlying188 rfl rfl rfl rfl
instance : TyF Tryz.prog 188 4 4 := tyF_mk (i := Tryz.t143) Tryz.underlying188 rfl rfl rfl rfl
instance : TyF Tryz.prog 191 0 0 := tyF_mk (i := Tryz.t177) Tryz.underlying191 rfl rfl rfl rfl
instance : TyF Tryz.prog 191 1 1 := tyF_mk (i := Tryz.t178) Tryz.underlying191 rfl rfl rfl rfl
instance : TyF Tryz.prog 191 2 2 := tyF_mk (i := Tryz.t190) Tryz.underlying191 rfl rfl rfl rfl
instance : TyF Tryz.prog 191 3 3 := tyF_mk (i := Tryz.t190) Tryz.underlying191 rfl rfl rfl rfl
instance : TyF Tryz.prog 192 0 0 := tyF_mk (i := Tryz.t177) Tryz.underlying192 rfl rfl rfl rfl
instance : TyF Tryz.prog 192 1 1 := tyF_mk (i := Tryz.t178) Tryz.underlying192 rfl rfl rfl rfl
instance : TyF Tryz.prog 192 2 2 := tyF_mk (i := Tryz.t190) Tryz.underlying192 rfl rfl rfl rfl
instance : TyF Tryz.prog 192 3 3 := tyF_mk (i := Tryz.t190) Tryz.underlying192 rfl rfl rfl rfl
instance : TyS Tryz.prog 0 := tyS_mk Tryz.underlying0 rfl
instance : TyS Tryz.prog 1 := tyS_mk Tryz.underlying1 rfl
instance : TyS Tryz.prog 2 := tyS_mk Tryz.underlying2 rfl
instance : TyS Tryz.prog 3 := tyS_mk Tryz.underlying3 rfl
instance : TyS Tryz.prog 4 := tyS_mk Tryz.underlying4 rfl
instance : TyS Tryz.prog 5 := tyS_mk Tryz.underlying5 rfl
instance : TyS Tryz.prog 6 := tyS_mk Tryz.underlying6 rfl
instance : TyA Tryz.prog 7 4 := tyA_mk (i := Tryz.t7) Tryz.underlying7 rfl rfl rfl
instance : TyA Tryz.prog 8 4 := tyA_mk (i := Tryz.t8) Tryz.underlying8 rfl rfl rfl
instance : TyS Tryz.prog 9 := tyS_mk Tryz.underlying9 rfl
instance : TyS Tryz.prog 10 := tyS_mk Tryz.underlying10 rfl
instance : TyS Tryz.prog 11 := tyS_mk Tryz.underlying11 rfl
instance : TyS Tryz.prog 12 := tyS_mk Tryz.underlying12 rfl
instance : TyA Tryz.prog 13 2 := tyA_mk (i := Tryz.t13) Tryz.underlying13 rfl rfl rfl
instance : TyA Tryz.prog 14 2 := tyA_mk (i := Tryz.t14) Tryz.underlying14 rfl rfl rfl
instance : TyS Tryz.prog 15 := tyS_mk Tryz.underlying15 rfl
instance : TyS Tryz.prog 16 := tyS_mk Tryz.underlying16 rfl
instance : TyS Tryz.prog 17 := tyS_mk Tryz.underlying17 rfl
instance : TyA Tryz.prog 18 1 := tyA_mk (i := Tryz.t18) Tryz.underlying18 rfl rfl rfl
instance : TyA Tryz.prog 19 1 := tyA_mk (i := Tryz.t19) Tryz.underlying19 rfl rfl rfl
instance : TyS Tryz.prog 20 := tyS_mk Tryz.underlying20 rfl
instance : TyS Tryz.prog 21 := tyS_mk Tryz.underlying21 rfl
instance : TyS Tryz.prog 22 := tyS_mk Tryz.underlying22 rfl
instance : TyE Tryz.prog 22 42 2 := tyE_mk (i := Tryz.t42) Tryz.underlying22 rfl rfl
instance : TyG Tryz.prog 22 42 2 16 := tyG_mk (i := Tryz.t42) (z := (Go.Value.agg #[Go.Value.int Go.IntKind.i64 0, Go.Value.int Go.IntKind.i64 0])) Tryz.underlying22 rfl rfl rfl rfl rfl
instance : TyS Tryz.prog 23 := tyS_mk Tryz.underlying23 rfl
instance : TyA Tryz.prog 24 3 := tyA_mk (i := Tryz.t24) Tryz.underlying24 rfl rfl rfl
instance : TyR Tryz.prog 24 3 9 1 := tyR_mk (i := Tryz.t9) Tryz.underlying24 rfl rfl
instance : TyS Tryz.prog 25 := tyS_mk Tryz.underlying25 rfl
instance : TyS Tryz.prog 26 := tyS_mk Tryz.underlying26 rfl
instance : TyS Tryz.prog 27 := tyS_mk Tryz.underlying27 rfl
instance : TyS Tryz.prog 28 := tyS_mk Tryz.underlying28 rfl
instance : TyS Tryz.prog 29 := tyS_mk Tryz.underlying29 rfl
instance : TyS Tryz.prog 30 := tyS_mk Tryz.underlying30 rfl
instance : TyS Tryz.prog 31 := tyS_mk Tryz.underlying31 rfl
instance : TyA Tryz.prog 32 3 := tyA_mk (i := Tryz.t32) Tryz.underlying32 rfl rfl rfl
instance : TyA Tryz.prog 33 3 := tyA_mk (i := Tryz.t33) Tryz.underlying33 rfl rfl rfl
instance : TyS Tryz.prog 34 := tyS_mk Tryz.underlying34 rfl
instance : TyS Tryz.prog 35 := tyS_mk Tryz.underlying35 rfl
instance : TyS Tryz.prog 36 := tyS_mk Tryz.underlying36 rfl
instance : TyS Tryz.prog 37 := tyS_mk Tryz.underlying37 rfl
instance : TyS Tryz.prog 38 := tyS_mk Tryz.underlying38 rfl
instance : TyS Tryz.prog 39 := tyS_mk Tryz.underlying39 rfl
instance : TyS Tryz.prog 40 := tyS_mk Tryz.underlying40 rfl
instance : TyA Tryz.prog 41 2 := tyA_mk (i := Tryz.t41) Tryz.underlying41 rfl rfl rfl
instance : TyA Tryz.prog 42 2 := tyA_mk (i := Tryz.t42) Tryz.underlying42 rfl rfl rfl
instance : TyS Tryz.prog 43 := tyS_mk Tryz.underlying43 rfl
instance : TyA Tryz.prog 44 4 := tyA_mk (i := Tryz.t44) Tryz.underlying44 rfl rfl rfl
instance : TyR Tryz.prog 44 4 5 1 := tyR_mk (i := Tryz.t5) Tryz.underlying44 rfl rfl
instance : TyS Tryz.prog 45 := tyS_mk Tryz.underlying45 rfl
instance : TyS Tryz.prog 46 := tyS_mk Tryz.underlying46 rfl
instance : TyE Tryz.prog 46 48 1 := tyE_mk (i := Tryz.t48) Tryz.underlying46 rfl rfl
instance : TyG Tryz.prog 46 48 1 2 := tyG_mk (i := Tryz.t48) (z := (Go.Value.int Go.IntKind.u16 0)) Tryz.underlying46 rfl rfl rfl rfl rfl
instance : TyS Tryz.prog 47 := tyS_mk Tryz.underlying47 rfl
instance : TyE Tryz.prog 47 5 1 := tyE_mk (i := Tryz.t5) Tryz.underlying47 rfl rfl
instance : TyG Tryz.prog 47 5 1 1 := tyG_mk (i := Tryz.t5) (z := (Go.Value.int Go.IntKind.u8 0)) Tryz.underlying47 rfl rfl rfl rfl rfl
instance : TyS Tryz.prog 48 := tyS_mk Tryz.underlying48 rfl
instance : TyS Tryz.prog 49 := tyS_mk Tryz.underlying49 rfl
instance : TyE Tryz.prog 49 9 1 := tyE_mk (i := Tryz.t9) Tryz.underlying49 rfl rfl
instance : TyG Tryz.prog 49 9 1 16 := tyG_mk (i := Tryz.t9) (z := (Go.Value.string { data := #[] })) Tryz.underlying49 rfl rfl rfl rfl rfl
instance : TyS Tryz.prog 50 := tyS_mk Tryz.underlying50 rfl
instance : TyS Tryz.prog 51 := tyS_mk Tryz.underlying51 rfl
instance : TyS Tryz.prog 52 := tyS_mk Tryz.underlying52 rfl
instance : TyS Tryz.prog 53 := tyS_mk Tryz.underlying53 rfl
instance : TyS Tryz.prog 54 := tyS_mk Tryz.underlying54 rfl
instance : TyS Tryz.prog 55 := tyS_mk Tryz.underlying55 rfl
instance : TyS Tryz.prog 56 := tyS_mk Tryz.underlying56 rfl
instance : TyS Tryz.prog 57 := tyS_mk Tryz.underlying57 rfl
instance : TyS Tryz.prog 58 := tyS_mk Tryz.underlying58 rfl
instance : TyS Tryz.prog 59 := tyS_mk Tryz.underlying59 rfl
instance : TyS Tryz.prog 60 := tyS_mk Tryz.underlying60 rfl
instance : TyS Tryz.prog 61 := tyS_mk Tryz.underlying61 rfl
instance : TyS Tryz.prog 62 := tyS_mk Tryz.underlying62 rfl
instance : TyS Tryz.prog 63 := tyS_mk Tryz.underlying63 rfl
instance : TyS Tryz.prog 64 := tyS_mk Tryz.underlying64 rfl
instance : TyS Tryz.prog 65 := tyS_mk Tryz.underlying65 rfl
instance : TyS Tryz.prog 66 := tyS_mk Tryz.underlying66 rfl
instance : TyS Tryz.prog 67 := tyS_mk Tryz.underlying67 rfl
instance : TyS Tryz.prog 68 := tyS_mk Tryz.underlying68 rfl
instance : TyS Tryz.prog 69 := tyS_mk Tryz.underlying69 rfl
instance : TyS Tryz.prog 70 := tyS_mk Tryz.underlying70 rfl
instance : TyE Tryz.prog 70 3 1 := tyE_mk (i := Tryz.t3) Tryz.underlying70 rfl rfl
instance : TyG Tryz.prog 70 3 1 8 := tyG_mk (i := Tryz.t3) (z := (Go.Value.int Go.IntKind.i64 0)) Tryz.underlying70 rfl rfl rfl rfl rfl
instance : TyS Tryz.prog 71 := tyS_mk Tryz.underlying71 rfl
instance : TyS Tryz.prog 72 := tyS_mk Tryz.underlying72 rfl
instance : TyA Tryz.prog 73 2 := tyA_mk (i := Tryz.t73) Tryz.underlying73 rfl rfl rfl
instance : TyA Tryz.prog 74 2 := tyA_mk (i := Tryz.t74) Tryz.underlying74 rfl rfl rfl
instance : TyS Tryz.prog 75 := tyS_mk Tryz.underlying75 rfl
instance : TyS Tryz.prog 76 := tyS_mk Tryz.underlying76 rfl
instance : TyS Tryz.prog 77 := tyS_mk Tryz.underlying77 rfl
instance : TyS Tryz.prog 78 := tyS_mk Tryz.underlying78 rfl
instance : TyS Tryz.prog 79 := tyS_mk Tryz.underlying79 rfl
instance : TyS Tryz.prog 80 := tyS_mk Tryz.underlying80 rfl
instance : TyS Tryz.prog 81 := tyS_mk Tryz.underlying81 rfl
instance : TyS Tryz.prog 82 := tyS_mk Tryz.underlying82 rfl
instance : TyS Tryz.prog 83 := tyS_mk Tryz.underlying83 rfl
instance : TyA Tryz.prog 84 3 := tyA_mk (i := Tryz.t84) Tryz.underlying84 rfl rfl rfl
instance : TyA Tryz.prog 85 3 := tyA_mk (i := Tryz.t85) Tryz.underlying85 rfl rfl rfl
instance : TyS Tryz.prog 86 := tyS_mk Tryz.underlying86 rfl
instance : TyS Tryz.prog 87 := tyS_mk Tryz.underlying87 rfl
instance : TyS Tryz.prog 88 := tyS_mk Tryz.underlying88 rfl
instance : TyS Tryz.prog 89 := tyS_mk Tryz.underlying89 rfl
instance : TyS Tryz.prog 90 := tyS_mk Tryz.underlying90 rfl
instance : TyS Tryz.prog 91 := tyS_mk Tryz.underlying91 rfl
instance : TyS Tryz.prog 92 := tyS_mk Tryz.underlying92 rfl
instance : TyS Tryz.prog 93 := tyS_mk Tryz.underlying93 rfl
instance : TyS Tryz.prog 94 := tyS_mk Tryz.underlying94 rfl
instance : TyS Tryz.prog 95 := tyS_mk Tryz.underlying95 rfl
instance : TyS Tryz.prog 96 := tyS_mk Tryz.underlying96 rfl
instance : TyS Tryz.prog 97 := tyS_mk Tryz.underlying97 rfl
instance : TyS Tryz.prog 98 := tyS_mk Tryz.underlying98 rfl
instance : TyS Tryz.prog 99 := tyS_mk Tryz.underlying99 rfl
instance : TyS Tryz.prog 100 := tyS_mk Tryz.underlying100 rfl
instance : TyS Tryz.prog 101 := tyS_mk Tryz.underlying101 rfl
instance : TyA Tryz.prog 102 256 := tyA_mk (i := Tryz.t102) Tryz.underlying102 rfl rfl rfl
instance : TyR Tryz.prog 102 256 4 1 := tyR_mk (i := Tryz.t4) Tryz.underlying102 rfl rfl
instance : TyA Tryz.prog 103 256 := tyA_mk (i := Tryz.t103) Tryz.underlying103 rfl rfl rfl
instance : TyR Tryz.prog 103 256 4 1 := tyR_mk (i := Tryz.t4) Tryz.underlying103 rfl rfl
instance : TyS Tryz.prog 104 := tyS_mk Tryz.underlying104 rfl
instance : TyS Tryz.prog 105 := tyS_mk Tryz.underlying105 rfl
instance : TyS Tryz.prog 106 := tyS_mk Tryz.underlying106 rfl
instance : TyS Tryz.prog 107 := tyS_mk Tryz.underlying107 rfl
instance : TyS Tryz.prog 108 := tyS_mk Tryz.underlying108 rfl
instance : TyA Tryz.prog 109 1 := tyA_mk (i := Tryz.t109) Tryz.underlying109 rfl rfl rfl
instance : TyA Tryz.prog 110 1 := tyA_mk (i := Tryz.t110) Tryz.underlying110 rfl rfl rfl
instance : TyS Tryz.prog 111 := tyS_mk Tryz.underlying111 rfl
instance : TyS Tryz.prog 112 := tyS_mk Tryz.underlying112 rfl
instance : TyS Tryz.prog 113 := tyS_mk Tryz.underlying113 rfl
instance : TyS Tryz.prog 114 := tyS_mk Tryz.underlying114 rfl
instance : TyS Tryz.prog 115 := tyS_mk Tryz.underlying115 rfl
instance : TyS Tryz.prog 116 := tyS_mk Tryz.underlying116 rfl
instance : TyS Tryz.prog 117 := tyS_mk Tryz.underlying117 rfl
instance : TyS Tryz.prog 118 := tyS_mk Tryz.underlying118 rfl
instance : TyS Tryz.prog 119 := tyS_mk Tryz.underlying119 rfl
instance : TyS Tryz.prog 120 := tyS_mk Tryz.underlying120 rfl
instance : TyS Tryz.prog 121 := tyS_mk Tryz.underlying121 rfl
instance : TyE Tryz.prog 121 26 1 := tyE_mk (i := Tryz.t26) Tryz.underlying121 rfl rfl
instance : TyG Tryz.prog 121 26 1 16 := tyG_mk (i := Tryz.t26) (z := Go.Value.nilIface) Tryz.underlying121 rfl rfl rfl rfl rfl
instance : TyS Tryz.prog 122 := tyS_mk Tryz.underlying122 rfl
instance : TyA Tryz.prog 123 24 := tyA_mk (i := Tryz.t123) Tryz.underlying123 rfl rfl rfl
instance : TyR Tryz.prog 123 24 5 1 := tyR_mk (i := Tryz.t5) Tryz.underlying123 rfl rfl
instance : TyS Tryz.prog 124 := tyS_mk Tryz.underlying124 rfl
instance : TyS Tryz.prog 125 := tyS_mk Tryz.underlying125 rfl
instance : TyS Tryz.prog 126 := tyS_mk Tryz.underlying126 rfl
instance : TyS Tryz.prog 127 := tyS_mk Tryz.underlying127 rfl
instance : TyS Tryz.prog 128 := tyS_mk Tryz.underlying128 rfl
instance : TyS Tryz.prog 129 := tyS_mk Tryz.underlying129 rfl
instance : TyS Tryz.prog 130 := tyS_mk Tryz.underlying130 rfl
instance : TyS Tryz.prog 131 := tyS_mk Tryz.underlying131 rfl
instance : TyS Tryz.prog 132 := tyS_mk Tryz.underlying132 rfl
instance : TyS Tryz.prog 133 := tyS_mk Tryz.underlying133 rfl
instance : TyS Tryz.prog 134 := tyS_mk Tryz.underlying134 rfl
instance : TyS Tryz.prog 135 := tyS_mk Tryz.underlying135 rfl
instance : TyS Tryz.prog 136 := tyS_mk Tryz.underlying136 rfl
instance : TyS Tryz.prog 137 := tyS_mk Tryz.underlying137 rfl
instance : TyS Tryz.prog 138 := tyS_mk Tryz.underlying138 rfl
instance : TyS Tryz.prog 139 := tyS_mk Tryz.underlying139 rfl
instance : TyS Tryz.prog 140 := tyS_mk Tryz.underlying140 rfl
instance : TyS Tryz.prog 141 := tyS_mk Tryz.underlying141 rfl
instance : TyA Tryz.prog 142 20 := tyA_mk (i := Tryz.t142) Tryz.underlying142 rfl rfl rfl
instance : TyR Tryz.prog 142 20 124 1 := tyR_mk (i := Tryz.t124) Tryz.underlying142 rfl rfl
instance : TyS Tryz.prog 143 := tyS_mk Tryz.underlying143 rfl
instance : TyA Tryz.prog 144 65 := tyA_mk (i := Tryz.t144) Tryz.underlying144 rfl rfl rfl
instance : TyR Tryz.prog 144 65 5 1 := tyR_mk (i := Tryz.t5) Tryz.underlying144 rfl rfl
instance : TyS Tryz.prog 145 := tyS_mk Tryz.underlying145 rfl
instance : TyA Tryz.prog 146 256 := tyA_mk (i := Tryz.t146) Tryz.underlying146 rfl rfl rfl
instance : TyR Tryz.prog 146 256 5 1 := tyR_mk (i := Tryz.t5) Tryz.underlying146 rfl rfl
instance : TyA Tryz.prog 147 2 := tyA_mk (i := Tryz.t147) Tryz.underlying147 rfl rfl rfl
instance : TyA Tryz.prog 148 2 := tyA_mk (i := Tryz.t148) Tryz.underlying148 rfl rfl rfl
instance : TyA Tryz.prog 149 32 := tyA_mk (i := Tryz.t149) Tryz.underlying149 rfl rfl rfl
instance : TyR Tryz.prog 149 16 148 2 := tyR_mk (i := Tryz.t148) Tryz.underlying149 rfl rfl
instance : TyS Tryz.prog 150 := tyS_mk Tryz.underlying150 rfl
instance : TyS Tryz.prog 151 := tyS_mk Tryz.underlying151 rfl
instance : TyS Tryz.prog 152 := tyS_mk Tryz.underlying152 rfl
instance : TyS Tryz.prog 153 := tyS_mk Tryz.underlying153 rfl
instance : TyS Tryz.prog 154 := tyS_mk Tryz.underlying154 rfl
instance : TyA Tryz.prog 155 3 := tyA_mk (i := Tryz.t155) Tryz.underlying155 rfl rfl rfl
instance : TyA Tryz.prog 156 3 := tyA_mk (i := Tryz.t156) Tryz.underlying156 rfl rfl rfl
instance : TyS Tryz.prog 157 := tyS_mk Tryz.underlying157 rfl
instance : TyS Tryz.prog 158 := tyS_mk Tryz.underlying158 rfl
instance : TyS Tryz.prog 159 := tyS_mk Tryz.underlying159 rfl
instance : TyS Tryz.prog 160 := tyS_mk Tryz.underlying160 rfl
instance : TyS Tryz.prog 161 := tyS_mk Tryz.underlying161 rfl
instance : TyS Tryz.prog 162 := tyS_mk Tryz.underlying162 rfl
instance : TyS Tryz.prog 163 := tyS_mk Tryz.underlying163 rfl
instance : TyA Tryz.prog 164 1 := tyA_mk (i := Tryz.t164) Tryz.underlying164 rfl rfl rfl
instance : TyA Tryz.prog 165 1 := tyA_mk (i := Tryz.t165) Tryz.underlying165 rfl rfl rfl
instance : TyA Tryz.prog 166 32 := tyA_mk (i := Tryz.t166) Tryz.underlying166 rfl rfl rfl
instance : TyR Tryz.prog 166 32 5 1 := tyR_mk (i := Tryz.t5) Tryz.underlying166 rfl rfl
instance : TyA Tryz.prog 167 64 := tyA_mk (i := Tryz.t167) Tryz.underlying167 rfl rfl rfl
instance : TyR Tryz.prog 167 64 5 1 := tyR_mk (i := Tryz.t5) Tryz.underlying167 rfl rfl
instance : TyA Tryz.prog 168 4 := tyA_mk (i := Tryz.t168) Tryz.underlying168 rfl rfl rfl
instance : TyA Tryz.prog 169 4 := tyA_mk (i := Tryz.t169) Tryz.underlying169 rfl rfl rfl
instance : TyA Tryz.prog 170 0 := tyA_mk (i := Tryz.t170) Tryz.underlying170 rfl rfl rfl
instance : TyR Tryz.prog 170 0 16 1 := tyR_mk (i := Tryz.t16) Tryz.underlying170 rfl rfl
instance : TyA Tryz.prog 171 0 := tyA_mk (i := Tryz.t171) Tryz.underlying171 rfl rfl rfl
instance : TyA Tryz.prog 172 0 := tyA_mk (i := Tryz.t172) Tryz.underlying172 rfl rfl rfl
instance : TyS Tryz.prog 173 := tyS_mk Tryz.underlying173 rfl
instance : TyS Tryz.prog 174 := tyS_mk Tryz.underlying174 rfl
instance : TyS Tryz.prog 175 := tyS_mk Tryz.underlying175 rfl
instance : TyS Tryz.prog 176 := tyS_mk Tryz.underlying176 rfl
instance : TyS Tryz.prog 177 := tyS_mk Tryz.underlying177 rfl
instance : TyS Tryz.prog 178 := tyS_mk Tryz.underlying178 rfl
instance : TyA Tryz.prog 179 11 := tyA_mk (i := Tryz.t179) Tryz.underlying179 rfl rfl rfl
instance : TyA Tryz.prog 180 11 := tyA_mk (i := Tryz.t180) Tryz.underlying180 rfl rfl rfl
instance : TyS Tryz.prog 181 := tyS_mk Tryz.underlying181 rfl
instance : TyS Tryz.prog 182 := tyS_mk Tryz.underlying182 rfl
instance : TyA Tryz.prog 183 2 := tyA_mk (i := Tryz.t183) Tryz.underlying183 rfl rfl rfl
instance : TyA Tryz.prog 184 2 := tyA_mk (i := Tryz.t184) Tryz.underlying184 rfl rfl rfl
instance : TyS Tryz.prog 185 := tyS_mk Tryz.underlying185 rfl
instance : TyS Tryz.prog 186 := tyS_mk Tryz.underlying186 rfl
instance : TyA Tryz.prog 187 5 := tyA_mk (i := Tryz.t187) Tryz.underlying187 rfl rfl rfl
instance : TyA Tryz.prog 188 5 := tyA_mk (i := Tryz.t188) Tryz.underlying188 rfl rfl rfl
instance : TyS Tryz.prog 189 := tyS_mk Tryz.underlying189 rfl
instance : TyE Tryz.prog 189 192 4 := tyE_mk (i := Tryz.t192) Tryz.underlying189 rfl rfl
instance : TyG Tryz.prog 189 192 4 16 := tyG_mk (i := Tryz.t192) (z := (Go.Value.agg #[Go.Value.int Go.IntKind.i32 0, Go.Value.int Go.IntKind.i32 0, Go.Value.int Go.IntKind.i32 0, Go.Value.int Go.IntKind.i32 0])) Tryz.underlying189 rfl rfl rfl rfl rfl
instance : TyS Tryz.prog 190 := tyS_mk Tryz.underlying190 rfl
instance : TyA Tryz.prog 191 4 := tyA_mk (i := Tryz.t191) Tryz.underlying191 rfl rfl rfl
instance : TyA Tryz.prog 192 4 := tyA_mk (i := Tryz.t192) Tryz.underlying192 rfl rfl rfl
instance : TyS Tryz.prog 193 := tyS_mk Tryz.underlying193 rfl
instance : TyQ Tryz.prog 32 [(0, 0), (1, 0), (2, 0)] := ⟨rfl, by kernel_rfl, by kernel_rfl, by kernel_rfl, rfl⟩
instance : TyQ Tryz.prog 33 [(0, 0), (1, 0), (2, 0)] := ⟨rfl, by kernel_rfl, by kernel_rfl, by kernel_rfl, rfl⟩
instance : TyQ Tryz.prog 41 [(0, 0), (1, 0)] := ⟨rfl, by kernel_rfl, by kernel_rfl, by kernel_rfl, rfl⟩
instance : TyQ Tryz.prog 42 [(0, 0), (1, 0)] := ⟨rfl, by kernel_rfl, by kernel_rfl, by kernel_rfl, rfl⟩
instance : TyQ Tryz.prog 147 [(0, 0), (1, 0)] := ⟨rfl, by kernel_rfl, by kernel_rfl, by kernel_rfl, rfl⟩
instance : TyQ Tryz.prog 148 [(0, 0), (1, 0)] := ⟨rfl, by kernel_rfl, by kernel_rfl, by kernel_rfl, rfl⟩
instance : TyQ Tryz.prog 164 [(0, 2)] := ⟨rfl, by kernel_rfl, by kernel_rfl, by kernel_rfl, rfl⟩
instance : TyQ Tryz.prog 165 [(0, 2)] := ⟨rfl, by kernel_rfl, by kernel_rfl, by kernel_rfl, rfl⟩
instance : Enters Tryz.prog 13 := ⟨fun _ _ => rfl⟩
instance : Enters Tryz.prog 22 := ⟨fun _ _ => rfl⟩
instance : Enters Tryz.prog 4 := ⟨fun _ _ => rfl⟩
instance : Enters Tryz.prog 95 := ⟨fun _ _ => rfl⟩
instance : Enters Tryz.prog 37 := ⟨fun _ _ => rfl⟩
instance : Enters Tryz.prog 70 := ⟨fun _ _ => rfl⟩
instance : Enters Tryz.prog 93 := ⟨fun _ _ => rfl⟩
instance : Enters Tryz.prog 15 := ⟨fun _ _ => rfl⟩
instance : Enters Tryz.prog 73 := ⟨fun _ _ => rfl⟩
instance : Enters Tryz.prog 12 := ⟨fun _ _ => rfl⟩
instance : Enters Tryz.prog 9 := ⟨fun _ _ => rfl⟩
instance : Enters Tryz.prog 49 := ⟨fun _ _ => rfl⟩
instance : Enters Tryz.prog 32 := ⟨fun _ _ => rfl⟩
instance : Enters Tryz.prog 79 := ⟨fun _ _ => rfl⟩
instance : Enters Tryz.prog 66 := ⟨fun _ _ => rfl⟩
instance : Enters Tryz.prog 50 := ⟨fun _ _ => rfl⟩
instance : Enters Tryz.prog 94 := ⟨fun _ _ => rfl⟩
instance : Enters Tryz.prog 101 := ⟨fun _ _ => rfl⟩
instance : Enters Tryz.prog 99 := ⟨fun _ _ => rfl⟩
instance : Enters Tryz.prog 31 := ⟨fun _ _ => rfl⟩
instance : Enters Tryz.prog 19 := ⟨fun _ _ => rfl⟩
instance : Enters Tryz.prog 41 := ⟨fun _ _ => rfl⟩
instance : Enters Tryz.prog 58 := ⟨fun _ _ => rfl⟩
instance : Enters Tryz.prog 36 := ⟨fun _ _ => rfl⟩
instance : Enters Tryz.prog 55 := ⟨fun _ _ => rfl⟩
instance : Enters Tryz.prog 71 := ⟨fun _ _ => rfl⟩
instance : Enters Tryz.prog 34 := ⟨fun _ _ => rfl⟩
instance : Enters Tryz.prog 59 := ⟨fun _ _ => rfl⟩
instance : Enters Tryz.prog 20 := ⟨fun _ _ => rfl⟩
instance : Enters Tryz.prog 26 := ⟨fun _ _ => rfl⟩
instance : Enters Tryz.prog 56 := ⟨fun _ _ => rfl⟩
instance : Enters Tryz.prog 23 := ⟨fun _ _ => rfl⟩
instance : Enters Tryz.prog 64 := ⟨fun _ _ => rfl⟩
instance : Enters Tryz.prog 44 := ⟨fun _ _ => rfl⟩
instance : Enters Tryz.prog 43 := ⟨fun _ _ => rfl⟩
instance : Enters Tryz.prog 78 := ⟨fun _ _ => rfl⟩
instance : Enters Tryz.prog 85 := ⟨fun _ _ => rfl⟩
instance : Enters Tryz.prog 10 := ⟨fun _ _ => rfl⟩
instance : Enters Tryz.prog 21 := ⟨fun _ _ => rfl⟩
instance : Enters Tryz.prog 52 := ⟨fun _ _ => rfl⟩
instance : Enters Tryz.prog 83 := ⟨fun _ _ => rfl⟩
instance : Enters Tryz.prog 53 := ⟨fun _ _ => rfl⟩
instance : Enters Tryz.prog 98 := ⟨fun _ _ => rfl⟩
instance : Enters Tryz.prog 35 := ⟨fun _ _ => rfl⟩
instance : Enters Tryz.prog 87 := ⟨fun _ _ => rfl⟩
instance : Enters Tryz.prog 18 := ⟨fun _ _ => rfl⟩
instance : Enters Tryz.prog 65 := ⟨fun _ _ => rfl⟩
instance : Enters Tryz.prog 89 := ⟨fun _ _ => rfl⟩
instance : Enters Tryz.prog 63 := ⟨fun _ _ => rfl⟩
instance : Enters Tryz.prog 91 := ⟨fun _ _ => rfl⟩
instance : Enters Tryz.prog 11 := ⟨fun _ _ => rfl⟩
instance : Enters Tryz.prog 33 := ⟨fun _ _ => rfl⟩
instance : Enters Tryz.prog 97 := ⟨fun _ _ => rfl⟩
instance : Enters Tryz.prog 48 := ⟨fun _ _ => rfl⟩
instance : Enters Tryz.prog 29 := ⟨fun _ _ => rfl⟩
instance : Enters Tryz.prog 82 := ⟨fun _ _ => rfl⟩
instance : Enters Tryz.prog 92 := ⟨fun _ _ => rfl⟩
instance : Enters Tryz.prog 14 := ⟨fun _ _ => rfl⟩
instance : Enters Tryz.prog 27 := ⟨fun _ _ => rfl⟩
instance : Enters Tryz.prog 47 := ⟨fun _ _ => rfl⟩
instance : Enters Tryz.prog 75 := ⟨fun _ _ => rfl⟩
instance : Enters Tryz.prog 8 := ⟨fun _ _ => rfl⟩
instance : Enters Tryz.prog 152 := ⟨fun _ _ => rfl⟩
instance : Enters Tryz.prog 30 := ⟨fun _ _ => rfl⟩
instance : Enters Tryz.prog 76 := ⟨fun _ _ => rfl⟩
instance : Enters Tryz.prog 25 := ⟨fun _ _ => rfl⟩
instance : Enters Tryz.prog 5 := ⟨fun _ _ => rfl⟩
instance : Enters Tryz.prog 6 := ⟨fun _ _ => rfl⟩
instance : Enters Tryz.prog 57 := ⟨fun _ _ => rfl⟩
instance : Enters Tryz.prog 80 := ⟨fun _ _ => rfl⟩
instance : Enters Tryz.prog 100 := ⟨fun _ _ => rfl⟩
instance : Enters Tryz.prog 81 := ⟨fun _ _ => rfl⟩
instance : Enters Tryz.prog 74 := ⟨fun _ _ => rfl⟩
instance : Enters Tryz.prog 24 := ⟨fun _ _ => rfl⟩
instance : Enters Tryz.prog 121 := ⟨fun _ _ => rfl⟩
instance : Enters Tryz.prog 72 := ⟨fun _ _ => rfl⟩
instance : Enters Tryz.prog 3 := ⟨fun _ _ => rfl⟩
instance : Enters Tryz.prog 88 := ⟨fun _ _ => rfl⟩
instance : Enters Tryz.prog 54 := ⟨fun _ _ => rfl⟩
instance : Enters Tryz.prog 45 := ⟨fun _ _ => rfl⟩
instance : Enters Tryz.prog 139 := ⟨fun _ _ => rfl⟩
instance : Enters Tryz.prog 16 := ⟨fun _ _ => rfl⟩
instance : Enters Tryz.prog 7 := ⟨fun _ _ => rfl⟩
instance : Enters Tryz.prog 90 := ⟨fun _ _ => rfl⟩
instance : Enters Tryz.prog 51 := ⟨fun _ _ => rfl⟩
instance : Enters Tryz.prog 42 := ⟨fun _ _ => rfl⟩
instance : Enters Tryz.prog 28 := ⟨fun _ _ => rfl⟩
instance : Enters Tryz.prog 17 := ⟨fun _ _ => rfl⟩
instance : Enters Tryz.prog 46 := ⟨fun _ _ => rfl⟩
instance : Enters Tryz.prog 84 := ⟨fun _ _ => rfl⟩
instance : Enters Tryz.prog 69 := ⟨fun _ _ => rfl⟩
instance : Enters Tryz.prog 77 := ⟨fun _ _ => rfl⟩
end Go.Proofs.YtobcmglbdmaceaaGreatDoor
