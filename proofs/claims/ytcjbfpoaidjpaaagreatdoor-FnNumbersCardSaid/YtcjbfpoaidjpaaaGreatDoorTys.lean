/- Facts on the program's types and functions. -/
import Derived.Shelf.LaysM
import Derived.Shelf.Strconv.Itoa4
import Derived.Shelf.Strings.OnBuilder
import Derived.Shelf.Strings.Repeat
import Derived.Shelf.Strconv.ToError
import Derived.Shelf.Strconv.ToErrorRange
import Derived.Test.YtcjbfpoaidjpaaaGreatDoorAm2
import Derived.Test.YtcjbfpoaidjpaaaGreatDoorChecked
namespace Go.Proofs.YtcjbfpoaidjpaaaGreatDoor
open Go Go.AM
set_option maxRecDepth 20000
set_option maxHeartbeats 4000000
set_option linter.unusedVariables false
set_option linter.unusedSimpArgs false
def lit_53dfb3bc : ByteArray := { data := #[48] }
def lit_5ac87db9 : ByteArray := { data := #[110, 111, 110, 101] }
def lit_99ba06bc : ByteArray := { data := #[] }
def lit_b1892504 : ByteArray := { data := #[48, 49, 50, 51, 52, 53, 54, 55, 56, 57, 97, 98, 99, 100, 101, 102, 103, 104, 105, 106, 107, 108, 109, 110, 111, 112, 113, 114, 115, 116, 117, 118, 119, 120, 121, 122] }
def lit_be717853 : ByteArray := { data := #[44] }
def lit_c0869d09 : ByteArray := { data := #[80, 97, 114, 115, 101, 85, 105, 110, 116] }
theorem mixed : Tryz.prog.follows .mixedOrders = true := by kernel_rfl
theorem agg2 : ∀ w, (isAgg 2).run Tryz.prog w = .ok false w := by intro w; kernel_rfl
theorem agg3 : ∀ w, (isAgg 3).run Tryz.prog w = .ok false w := by intro w; kernel_rfl
theorem agg5 : ∀ w, (isAgg 5).run Tryz.prog w = .ok false w := by intro w; kernel_rfl
theorem agg9 : ∀ w, (isAgg 9).run Tryz.prog w = .ok false w := by intro w; kernel_rfl
theorem agg22 : ∀ w, (isAgg 22).run Tryz.prog w = .ok false w := by intro w; kernel_rfl
theorem agg28 : ∀ w, (isAgg 28).run Tryz.prog w = .ok false w := by intro w; kernel_rfl
theorem agg90 : ∀ w, (isAgg 90).run Tryz.prog w = .ok false w := by intro w; kernel_rfl
theorem ent5 : ∀ (vs : Array Value) w, (callFunc 5 vs).run Tryz.prog w = .ok (.enter 5 vs) w := by intro vs w; kernel_rfl
theorem ent10 : ∀ (vs : Array Value) w, (callFunc 10 vs).run Tryz.prog w = .ok (.enter 10 vs) w := by intro vs w; kernel_rfl
theorem ent16 : ∀ (vs : Array Value) w, (callFunc 16 vs).run Tryz.prog w = .ok (.enter 16 vs) w := by intro vs w; kernel_rfl
theorem ent19 : ∀ (vs : Array Value) w, (callFunc 19 vs).run Tryz.prog w = .ok (.enter 19 vs) w := by intro vs w; kernel_rfl
theorem ent20 : ∀ (vs : Array Value) w, (callFunc 20 vs).run Tryz.prog w = .ok (.enter 20 vs) w := by intro vs w; kernel_rfl
theorem ent21 : ∀ (vs : Array Value) w, (callFunc 21 vs).run Tryz.prog w = .ok (.enter 21 vs) w := by intro vs w; kernel_rfl
theorem ent28 : ∀ (vs : Array Value) w, (callFunc 28 vs).run Tryz.prog w = .ok (.enter 28 vs) w := by intro vs w; kernel_rfl
theorem ent29 : ∀ (vs : Array Value) w, (callFunc 29 vs).run Tryz.prog w = .ok (.enter 29 vs) w := by intro vs w; kernel_rfl
theorem ent30 : ∀ (vs : Array Value) w, (callFunc 30 vs).run Tryz.prog w = .ok (.enter 30 vs) w := by intro vs w; kernel_rfl
theorem ent31 : ∀ (vs : Array Value) w, (callFunc 31 vs).run Tryz.prog w = .ok (.enter 31 vs) w := by intro vs w; kernel_rfl
theorem ent32 : ∀ (vs : Array Value) w, (callFunc 32 vs).run Tryz.prog w = .ok (.enter 32 vs) w := by intro vs w; kernel_rfl
theorem ent33 : ∀ (vs : Array Value) w, (callFunc 33 vs).run Tryz.prog w = .ok (.enter 33 vs) w := by intro vs w; kernel_rfl
theorem ent34 : ∀ (vs : Array Value) w, (callFunc 34 vs).run Tryz.prog w = .ok (.enter 34 vs) w := by intro vs w; kernel_rfl
theorem ent35 : ∀ (vs : Array Value) w, (callFunc 35 vs).run Tryz.prog w = .ok (.enter 35 vs) w := by intro vs w; kernel_rfl
theorem ent36 : ∀ (vs : Array Value) w, (callFunc 36 vs).run Tryz.prog w = .ok (.enter 36 vs) w := by intro vs w; kernel_rfl
theorem ent37 : ∀ (vs : Array Value) w, (callFunc 37 vs).run Tryz.prog w = .ok (.enter 37 vs) w := by intro vs w; kernel_rfl
theorem ent38 : ∀ (vs : Array Value) w, (callFunc 38 vs).run Tryz.prog w = .ok (.enter 38 vs) w := by intro vs w; kernel_rfl
theorem ent39 : ∀ (vs : Array Value) w, (callFunc 39 vs).run Tryz.prog w = .ok (.enter 39 vs) w := by intro vs w; kernel_rfl
theorem ent42 : ∀ (vs : Array Value) w, (callFunc 42 vs).run Tryz.prog w = .ok (.enter 42 vs) w := by intro vs w; kernel_rfl
theorem ent43 : ∀ (vs : Array Value) w, (callFunc 43 vs).run Tryz.prog w = .ok (.enter 43 vs) w := by intro vs w; kernel_rfl
theorem ent48 : ∀ (vs : Array Value) w, (callFunc 48 vs).run Tryz.prog w = .ok (.enter 48 vs) w := by intro vs w; kernel_rfl
theorem ent49 : ∀ (vs : Array Value) w, (callFunc 49 vs).run Tryz.prog w = .ok (.enter 49 vs) w := by intro vs w; kernel_rfl
theorem ent50 : ∀ (vs : Array Value) w, (callFunc 50 vs).run Tryz.prog w = .ok (.enter 50 vs) w := by intro vs w; kernel_rfl
theorem ent51 : ∀ (vs : Array Value) w, (callFunc 51 vs).run Tryz.prog w = .ok (.enter 51 vs) w := by intro vs w; kernel_rfl
theorem ent52 : ∀ (vs : Array Value) w, (callFunc 52 vs).run Tryz.prog w = .ok (.enter 52 vs) w := by intro vs w; kernel_rfl
theorem ent53 : ∀ (vs : Array Value) w, (callFunc 53 vs).run Tryz.prog w = .ok (.enter 53 vs) w := by intro vs w; kernel_rfl
theorem ent54 : ∀ (vs : Array Value) w, (callFunc 54 vs).run Tryz.prog w = .ok (.enter 54 vs) w := by intro vs w; kernel_rfl
theorem ent55 : ∀ (vs : Array Value) w, (callFunc 55 vs).run Tryz.prog w = .ok (.enter 55 vs) w := by intro vs w; kernel_rfl
theorem ent62 : ∀ (vs : Array Value) w, (callFunc 62 vs).run Tryz.prog w = .ok (.enter 62 vs) w := by intro vs w; kernel_rfl
theorem ent64 : ∀ (vs : Array Value) w, (callFunc 64 vs).run Tryz.prog w = .ok (.enter 64 vs) w := by intro vs w; kernel_rfl
theorem ent65 : ∀ (vs : Array Value) w, (callFunc 65 vs).run Tryz.prog w = .ok (.enter 65 vs) w := by intro vs w; kernel_rfl
theorem ent66 : ∀ (vs : Array Value) w, (callFunc 66 vs).run Tryz.prog w = .ok (.enter 66 vs) w := by intro vs w; kernel_rfl
theorem ent67 : ∀ (vs : Array Value) w, (callFunc 67 vs).run Tryz.prog w = .ok (.enter 67 vs) w := by intro vs w; kernel_rfl
theorem ent68 : ∀ (vs : Array Value) w, (callFunc 68 vs).run Tryz.prog w = .ok (.enter 68 vs) w := by intro vs w; kernel_rfl
theorem ent69 : ∀ (vs : Array Value) w, (callFunc 69 vs).run Tryz.prog w = .ok (.enter 69 vs) w := by intro vs w; kernel_rfl
theorem ent70 : ∀ (vs : Array Value) w, (callFunc 70 vs).run Tryz.prog w = .ok (.enter 70 vs) w := by intro vs w; kernel_rfl
theorem ent71 : ∀ (vs : Array Value) w, (callFunc 71 vs).run Tryz.prog w = .ok (.enter 71 vs) w := by intro vs w; kernel_rfl
theorem ent72 : ∀ (vs : Array Value) w, (callFunc 72 vs).run Tryz.prog w = .ok (.enter 72 vs) w := by intro vs w; kernel_rfl
theorem ent73 : ∀ (vs : Array Value) w, (callFunc 73 vs).run Tryz.prog w = .ok (.enter 73 vs) w := by intro vs w; kernel_rfl
theorem ent74 : ∀ (vs : Array Value) w, (callFunc 74 vs).run Tryz.prog w = .ok (.enter 74 vs) w := by intro vs w; kernel_rfl
theorem ent75 : ∀ (vs : Array Value) w, (callFunc 75 vs).run Tryz.prog w = .ok (.enter 75 vs) w := by intro vs w; kernel_rfl
theorem ent76 : ∀ (vs : Array Value) w, (callFunc 76 vs).run Tryz.prog w = .ok (.enter 76 vs) w := by intro vs w; kernel_rfl
theorem ent79 : ∀ (vs : Array Value) w, (callFunc 79 vs).run Tryz.prog w = .ok (.enter 79 vs) w := by intro vs w; kernel_rfl
theorem ent80 : ∀ (vs : Array Value) w, (callFunc 80 vs).run Tryz.prog w = .ok (.enter 80 vs) w := by intro vs w; kernel_rfl
theorem ent81 : ∀ (vs : Array Value) w, (callFunc 81 vs).run Tryz.prog w = .ok (.enter 81 vs) w := by intro vs w; kernel_rfl
theorem ent82 : ∀ (vs : Array Value) w, (callFunc 82 vs).run Tryz.prog w = .ok (.enter 82 vs) w := by intro vs w; kernel_rfl
theorem ent83 : ∀ (vs : Array Value) w, (callFunc 83 vs).run Tryz.prog w = .ok (.enter 83 vs) w := by intro vs w; kernel_rfl
theorem ent84 : ∀ (vs : Array Value) w, (callFunc 84 vs).run Tryz.prog w = .ok (.enter 84 vs) w := by intro vs w; kernel_rfl
theorem ent85 : ∀ (vs : Array Value) w, (callFunc 85 vs).run Tryz.prog w = .ok (.enter 85 vs) w := by intro vs w; kernel_rfl
theorem ent88 : ∀ (vs : Array Value) w, (callFunc 88 vs).run Tryz.prog w = .ok (.enter 88 vs) w := by intro vs w; kernel_rfl
theorem ent92 : ∀ (vs : Array Value) w, (callFunc 92 vs).run Tryz.prog w = .ok (.enter 92 vs) w := by intro vs w; kernel_rfl
theorem ent93 : ∀ (vs : Array Value) w, (callFunc 93 vs).run Tryz.prog w = .ok (.enter 93 vs) w := by intro vs w; kernel_rfl
theorem ent94 : ∀ (vs : Array Value) w, (callFunc 94 vs).run Tryz.prog w = .ok (.enter 94 vs) w := by intro vs w; kernel_rfl
theorem ent102 : ∀ (vs : Array Value) w, (callFunc 102 vs).run Tryz.prog w = .ok (.enter 102 vs) w := by intro vs w; kernel_rfl
theorem ent103 : ∀ (vs : Array Value) w, (callFunc 103 vs).run Tryz.prog w = .ok (.enter 103 vs) w := by intro vs w; kernel_rfl
theorem ent104 : ∀ (vs : Array Value) w, (callFunc 104 vs).run Tryz.prog w = .ok (.enter 104 vs) w := by intro vs w; kernel_rfl
theorem ent105 : ∀ (vs : Array Value) w, (callFunc 105 vs).run Tryz.prog w = .ok (.enter 105 vs) w := by intro vs w; kernel_rfl
theorem ent106 : ∀ (vs : Array Value) w, (callFunc 106 vs).run Tryz.prog w = .ok (.enter 106 vs) w := by intro vs w; kernel_rfl
theorem ent107 : ∀ (vs : Array Value) w, (callFunc 107 vs).run Tryz.prog w = .ok (.enter 107 vs) w := by intro vs w; kernel_rfl
theorem ent108 : ∀ (vs : Array Value) w, (callFunc 108 vs).run Tryz.prog w = .ok (.enter 108 vs) w := by intro vs w; kernel_rfl
theorem ent109 : ∀ (vs : Array Value) w, (callFunc 109 vs).run Tryz.prog w = .ok (.enter 109 vs) w := by intro vs w; kernel_rfl
theorem ent110 : ∀ (vs : Array Value) w, (callFunc 110 vs).run Tryz.prog w = .ok (.enter 110 vs) w := by intro vs w; kernel_rfl
theorem ent114 : ∀ (vs : Array Value) w, (callFunc 114 vs).run Tryz.prog w = .ok (.enter 114 vs) w := by intro vs w; kernel_rfl
theorem ent123 : ∀ (vs : Array Value) w, (callFunc 123 vs).run Tryz.prog w = .ok (.enter 123 vs) w := by intro vs w; kernel_rfl
theorem ent124 : ∀ (vs : Array Value) w, (callFunc 124 vs).run Tryz.prog w = .ok (.enter 124 vs) w := by intro vs w; kernel_rfl
theorem ent135 : ∀ (vs : Array Value) w, (callFunc 135 vs).run Tryz.prog w = .ok (.enter 135 vs) w := by intro vs w; kernel_rfl
theorem ent136 : ∀ (vs : Array Value) w, (callFunc 136 vs).run Tryz.prog w = .ok (.enter 136 vs) w := by intro vs w; kernel_rfl
theorem ent140 : ∀ (vs : Array Value) w, (callFunc 140 vs).run Tryz.prog w = .ok (.enter 140 vs) w := by intro vs w; kernel_rfl
theorem ent148 : ∀ (vs : Array Value) w, (callFunc 148 vs).run Tryz.prog w = .ok (.enter 148 vs) w := by intro vs w; kernel_rfl
theorem ext56 : ∀ (b : Nat) w, (callFunc 56 #[.int .u32 b]).run Tryz.prog w = .ok (.value (.float .f32 b)) w := by intro b w; kernel_rfl
theorem ext57 : ∀ (b : Nat) w, (callFunc 57 #[.float .f32 b]).run Tryz.prog w = .ok (.value (.int .u32 b)) w := by intro b w; kernel_rfl
theorem ext77 : ∀ (b : Nat) w, (callFunc 77 #[.float .f64 b]).run Tryz.prog w = (do pure (Next.value (← Extern.MathSqrt.sqrt #[.float .f64 b])) : Sem Next).run Tryz.prog w := by intro b w; kernel_rfl
theorem ext89 : ∀ (b : Nat) w, (callFunc 89 #[.int .u64 b]).run Tryz.prog w = .ok (.value (.float .f64 b)) w := by intro b w; kernel_rfl
theorem ext90 : ∀ (b : Nat) w, (callFunc 90 #[.float .f64 b]).run Tryz.prog w = .ok (.value (.int .u64 b)) w := by intro b w; kernel_rfl
theorem ext122 : ∀ (b : ByteArray) (i : Int) w, (callFunc 122 #[.string b, .int .u8 i]).run Tryz.prog w = (do pure (Next.value (← Extern.BytealgCount.count #[.string b, .int .u8 i])) : Sem Next).run Tryz.prog w := by intro b i w; kernel_rfl
theorem ext130 : ∀ (b : Nat) w, (callFunc 130 #[.float .f64 b]).run Tryz.prog w = (do pure (Next.value (← Extern.MathFloor.toIntegral "math.archTrunc" .zero #[.float .f64 b])) : Sem Next).run Tryz.prog w := by intro b w; kernel_rfl
theorem ext149 : ∀ (b : ByteArray) (i : Int) w, (callFunc 149 #[.string b, .int .u8 i]).run Tryz.prog w = (do pure (Next.value (← Extern.BytealgIndexByte.indexByte #[.string b, .int .u8 i])) : Sem Next).run Tryz.prog w := by intro b i w; kernel_rfl
theorem inf9 : Tryz.prog.info? 9 = some Tryz.t9 := by kernel_rfl
theorem inf28 : Tryz.prog.info? 28 = some Tryz.t28 := by kernel_rfl
theorem plc92 : ∀ w, ((#[{ name := "code", type := 22, offset := 0, embedded := false, tag := "", pkgPath := "loop.example/g01327/spec", byteOffset := 0 }, { name := "at", type := 3, offset := 1, embedded := false, tag := "", pkgPath := "loop.example/g01327/spec", byteOffset := 24 }, { name := "seed", type := 90, offset := 2, embedded := false, tag := "", pkgPath := "loop.example/g01327/spec", byteOffset := 32 }] : Array Field).mapM fun f => Prod.mk f.offset <$> sizeOf f.type).run Tryz.prog w = .ok #[(0, 1), (1, 1), (2, 1)] w := by intro w; kernel_rfl
theorem pun2 : Tryz.prog.underlying 2 = some (Go.TypeDesc.int Go.IntKind.i64) := by kernel_rfl
theorem pun3 : Tryz.prog.underlying 3 = some (Go.TypeDesc.int Go.IntKind.i64) := by kernel_rfl
theorem pun4 : Tryz.prog.underlying 4 = some Go.TypeDesc.bool := by kernel_rfl
theorem pun5 : Tryz.prog.underlying 5 = some (Go.TypeDesc.int Go.IntKind.u8) := by kernel_rfl
theorem pun9 : Tryz.prog.underlying 9 = some Go.TypeDesc.string := by kernel_rfl
theorem pun22 : Tryz.prog.underlying 22 = some (Go.TypeDesc.slice 5) := by kernel_rfl
theorem pun28 : Tryz.prog.underlying 28 = some (Go.TypeDesc.float Go.FloatKind.f32) := by kernel_rfl
theorem pun46 : Tryz.prog.underlying 46 = some (Go.TypeDesc.float Go.FloatKind.f64) := by kernel_rfl
theorem pun52 : Tryz.prog.underlying 52 = some (Go.TypeDesc.slice 28) := by kernel_rfl
theorem pun69 : Tryz.prog.underlying 69 = some (Go.TypeDesc.slice 9) := by kernel_rfl
theorem pun79 : Tryz.prog.underlying 79 = some (Go.TypeDesc.int Go.IntKind.u32) := by kernel_rfl
theorem pun90 : Tryz.prog.underlying 90 = some (Go.TypeDesc.int Go.IntKind.u64) := by kernel_rfl
theorem pun99 : Tryz.prog.underlying 99 = some (Go.TypeDesc.interface #[("Error", 117)]) := by kernel_rfl
theorem pun106 : Tryz.prog.underlying 106 = some (Go.TypeDesc.int Go.IntKind.u64) := by kernel_rfl
theorem siz2 : ∀ w, (sizeOf 2).run Tryz.prog w = .ok 1 w := by intro w; kernel_rfl
theorem siz3 : ∀ w, (sizeOf 3).run Tryz.prog w = .ok 1 w := by intro w; kernel_rfl
theorem siz5 : ∀ w, (sizeOf 5).run Tryz.prog w = .ok 1 w := by intro w; kernel_rfl
theorem siz9 : ∀ w, (sizeOf 9).run Tryz.prog w = .ok 1 w := by intro w; kernel_rfl
theorem siz22 : ∀ w, (sizeOf 22).run Tryz.prog w = .ok 1 w := by intro w; kernel_rfl
theorem siz28 : ∀ w, (sizeOf 28).run Tryz.prog w = .ok 1 w := by intro w; kernel_rfl
theorem siz90 : ∀ w, (sizeOf 90).run Tryz.prog w = .ok 1 w := by intro w; kernel_rfl
theorem tin9 : ∀ w, (typeInfo 9).run Tryz.prog w = .ok Tryz.t9 w := by intro w; kernel_rfl
theorem und9 : ∀ w, (underlying 9).run Tryz.prog w = .ok Go.TypeDesc.string w := by intro w; kernel_rfl
theorem und22 : ∀ w, (underlying 22).run Tryz.prog w = .ok (Go.TypeDesc.slice 5) w := by intro w; kernel_rfl
theorem und52 : ∀ w, (underlying 52).run Tryz.prog w = .ok (Go.TypeDesc.slice 28) w := by intro w; kernel_rfl
theorem und69 : ∀ w, (underlying 69).run Tryz.prog w = .ok (Go.TypeDesc.slice 9) w := by intro w; kernel_rfl
theorem und92 : ∀ w, (underlying 92).run Tryz.prog w = .ok (Go.TypeDesc.struct #[{ name := "code", type := 22, offset := 0, embedded := false, tag := "", pkgPath := "loop.example/g01327/spec", byteOffset := 0 }, { name := "at", type := 3, offset := 1, embedded := false, tag := "", pkgPath := "loop.example/g01327/spec", byteOffset := 24 }, { name := "seed", type := 90, offset := 2, embedded := false, tag := "", pkgPath := "loop.example/g01327/spec", byteOffset := 32 }]) w := by intro w; kernel_rfl
theorem und103 : ∀ w, (underlying 103).run Tryz.prog w = .ok (Go.TypeDesc.slice 2) w := by intro w; kernel_rfl
theorem und140 : ∀ w, (underlying 140).run Tryz.prog w = .ok (Go.TypeDesc.int Go.IntKind.i64) w := by intro w; kernel_rfl
theorem und149 : ∀ w, (underlying 149).run Tryz.prog w = .ok (Go.TypeDesc.array 65 5) w := by intro w; kernel_rfl
theorem und169 : ∀ w, (underlying 169).run Tryz.prog w = .ok (Go.TypeDesc.array 64 5) w := by intro w; kernel_rfl
theorem zel2 : ∀ S μ, V S μ (AV.i64 0) (Go.Value.int Go.IntKind.i64 0) := by intro S μ; exact (by simp only [V])
theorem zel9 : ∀ S μ, V S μ (AV.str lit_99ba06bc) (Go.Value.string { data := #[] }) := by intro S μ; exact (by simp only [V]; rfl)
theorem zel28 : ∀ S μ, V S μ (AV.f32 (some 0)) (Go.Value.float Go.FloatKind.f32 0) := by intro S μ; exact (ALe.fl (by kernel_rfl) (by kernel_rfl) S μ _ (by simp only [V]))
theorem zer2 : ∀ w, (zeroValue 2).run Tryz.prog w = .ok (Go.Value.int Go.IntKind.i64 0) w := by intro w; kernel_rfl
theorem zer9 : ∀ w, (zeroValue 9).run Tryz.prog w = .ok (Go.Value.string { data := #[] }) w := by intro w; kernel_rfl
theorem zer28 : ∀ w, (zeroValue 28).run Tryz.prog w = .ok (Go.Value.float Go.FloatKind.f32 0) w := by intro w; kernel_rfl
theorem zer92 : ∀ w, (zeroValue 92).run Tryz.prog w = .ok (Go.Value.agg #[(Go.Value.slice none 0 0), (Go.Value.int Go.IntKind.i64 0), (Go.Value.int Go.IntKind.u64 0)]) w := by intro w; kernel_rfl
theorem zer126 : ∀ w, (zeroValue 126).run Tryz.prog w = .ok (.agg (List.replicate 24 (Value.int .u8 0)).toArray) w := by intro w; kernel_rfl
theorem zer149 : ∀ w, (zeroValue 149).run Tryz.prog w = .ok (.agg (List.replicate 65 (Value.int .u8 0)).toArray) w := by intro w; kernel_rfl
theorem zok92 : ZeroOk [AV.nilsl, AV.i64 0, AV.ik .u64 0] (Go.Value.agg #[(Go.Value.slice none 0 0), (Go.Value.int Go.IntKind.i64 0), (Go.Value.int Go.IntKind.u64 0)]) := by intro S μ; simp only [Value.cells, VL]; exact ⟨(by simp only [V]), (by simp only [V]), (by simp only [V]), trivial⟩
theorem zok126 : ZeroOk ((List.replicate 24 (0 : Int)).map (AV.ik .u8)) (.agg (List.replicate 24 (Value.int .u8 0)).toArray) := zok_arr
theorem zok149 : ZeroOk ((List.replicate 65 (0 : Int)).map (AV.ik .u8)) (.agg (List.replicate 65 (Value.int .u8 0)).toArray) := zok_arr
end Go.Proofs.YtcjbfpoaidjpaaaGreatDoor
