/- Facts on the program's types and functions. -/
import Derived.Shelf.LaysM
import Derived.Shelf.Strconv.Itoa4
import Derived.Shelf.Strings.OnBuilder
import Derived.Shelf.Strings.Repeat
import Derived.Shelf.Strconv.ToError
import Derived.Shelf.Strconv.ToErrorRange
import Derived.Test.YtcjbfpoaidjpaaaGreatDoorAm2
import Derived.Test.YtcjbfpoaidjpaaaGreatDoorChecked
namespace Go.Proofs.YtcjbfpoaidjpaaaGreatDoor
open Go Go.AM
set_option maxRecDepth 20000
set_option maxHeartbeats 4000000
set_option linter.unusedVariables false
set_option linter.unusedSimpArgs false
def lit_53dfb3bc : ByteArray := { data := #[48] }
def lit_5ac87db9 : ByteArray := { data := #[110, 111, 110, 101] }
def lit_99ba06bc : ByteArray := { data := #[] }
def lit_b1892504 : ByteArray := { data := #[48, 49, 50, 51, 52, 53, 54, 55, 56, 57, 97, 98, 99, 100, 101, 102, 103, 104, 105, 106, 107, 108, 109, 110, 111, 112, 113, 114, 115, 116, 117, 118, 119, 120, 121, 122] }
def lit_be717853 : ByteArray := { data := #[44] }
def lit_c0869d09 : ByteArray := { data := #[80, 97, 114, 115, 101, 85, 105, 110, 116] }
theorem mixed : Tryz.prog.follows .mixedOrders = true := by kernel_rfl
theorem agg2 : ∀ w, (isAgg 2).run Tryz.prog w = .ok false w := by intro w; kernel_rfl
theorem agg3 : ∀ w, (isAgg 3).run Tryz.prog w = .ok false w := by intro w; kernel_rfl
theorem agg5 : ∀ w, (isAgg 5).run Tryz.prog w = .ok false w := by intro w; kernel_rfl
theorem agg9 : ∀ w, (isAgg 9).run Tryz.prog w = .ok false w := by intro w; kernel_rfl
theorem agg22 : ∀ w, (isAgg 22).run Tryz.prog w = .ok false w := by intro w; kernel_rfl
theorem agg24 : ∀ w, (isAgg 24).run Tryz.prog w = .ok false w := by intro w; kernel_rfl
theorem agg90 : ∀ w, (isAgg 90).run Tryz.prog w = .ok false w := by intro w; kernel_rfl
theorem ent5 : ∀ (vs : Array Value) w, (callFunc 5 vs).run Tryz.prog w = .ok (.enter 5 vs) w := by intro vs w; kernel_rfl
theorem ent6 : ∀ (vs : Array Value) w, (callFunc 6 vs).run Tryz.prog w = .ok (.enter 6 vs) w := by intro vs w; kernel_rfl
theorem ent7 : ∀ (vs : Array Value) w, (callFunc 7 vs).run Tryz.prog w = .ok (.enter 7 vs) w := by intro vs w; kernel_rfl
theorem ent8 : ∀ (vs : Array Value) w, (callFunc 8 vs).run Tryz.prog w = .ok (.enter 8 vs) w := by intro vs w; kernel_rfl
theorem ent9 : ∀ (vs : Array Value) w, (callFunc 9 vs).run Tryz.prog w = .ok (.enter 9 vs) w := by intro vs w; kernel_rfl
theorem ent10 : ∀ (vs : Array Value) w, (callFunc 10 vs).run Tryz.prog w = .ok (.enter 10 vs) w := by intro vs w; kernel_rfl
theorem ent11 : ∀ (vs : Array Value) w, (callFunc 11 vs).run Tryz.prog w = .ok (.enter 11 vs) w := by intro vs w; kernel_rfl
theorem ent12 : ∀ (vs : Array Value) w, (callFunc 12 vs).run Tryz.prog w = .ok (.enter 12 vs) w := by intro vs w; kernel_rfl
theorem ent13 : ∀ (vs : Array Value) w, (callFunc 13 vs).run Tryz.prog w = .ok (.enter 13 vs) w := by intro vs w; kernel_rfl
theorem ent14 : ∀ (vs : Array Value) w, (callFunc 14 vs).run Tryz.prog w = .ok (.enter 14 vs) w := by intro vs w; kernel_rfl
theorem ent15 : ∀ (vs : Array Value) w, (callFunc 15 vs).run Tryz.prog w = .ok (.enter 15 vs) w := by intro vs w; kernel_rfl
theorem ent16 : ∀ (vs : Array Value) w, (callFunc 16 vs).run Tryz.prog w = .ok (.enter 16 vs) w := by intro vs w; kernel_rfl
theorem ent17 : ∀ (vs : Array Value) w, (callFunc 17 vs).run Tryz.prog w = .ok (.enter 17 vs) w := by intro vs w; kernel_rfl
theorem ent18 : ∀ (vs : Array Value) w, (callFunc 18 vs).run Tryz.prog w = .ok (.enter 18 vs) w := by intro vs w; kernel_rfl
theorem ent19 : ∀ (vs : Array Value) w, (callFunc 19 vs).run Tryz.prog w = .ok (.enter 19 vs) w := by intro vs w; kernel_rfl
theorem ent20 : ∀ (vs : Array Value) w, (callFunc 20 vs).run Tryz.prog w = .ok (.enter 20 vs) w := by intro vs w; kernel_rfl
theorem ent21 : ∀ (vs : Array Value) w, (callFunc 21 vs).run Tryz.prog w = .ok (.enter 21 vs) w := by intro vs w; kernel_rfl
theorem ent22 : ∀ (vs : Array Value) w, (callFunc 22 vs).run Tryz.prog w = .ok (.enter 22 vs) w := by intro vs w; kernel_rfl
theorem ent23 : ∀ (vs : Array Value) w, (callFunc 23 vs).run Tryz.prog w = .ok (.enter 23 vs) w := by intro vs w; kernel_rfl
theorem ent24 : ∀ (vs : Array Value) w, (callFunc 24 vs).run Tryz.prog w = .ok (.enter 24 vs) w := by intro vs w; kernel_rfl
theorem ent25 : ∀ (vs : Array Value) w, (callFunc 25 vs).run Tryz.prog w = .ok (.enter 25 vs) w := by intro vs w; kernel_rfl
theorem ent26 : ∀ (vs : Array Value) w, (callFunc 26 vs).run Tryz.prog w = .ok (.enter 26 vs) w := by intro vs w; kernel_rfl
theorem ent27 : ∀ (vs : Array Value) w, (callFunc 27 vs).run Tryz.prog w = .ok (.enter 27 vs) w := by intro vs w; kernel_rfl
theorem ent38 : ∀ (vs : Array Value) w, (callFunc 38 vs).run Tryz.prog w = .ok (.enter 38 vs) w := by intro vs w; kernel_rfl
theorem ent39 : ∀ (vs : Array Value) w, (callFunc 39 vs).run Tryz.prog w = .ok (.enter 39 vs) w := by intro vs w; kernel_rfl
theorem ent40 : ∀ (vs : Array Value) w, (callFunc 40 vs).run Tryz.prog w = .ok (.enter 40 vs) w := by intro vs w; kernel_rfl
theorem ent41 : ∀ (vs : Array Value) w, (callFunc 41 vs).run Tryz.prog w = .ok (.enter 41 vs) w := by intro vs w; kernel_rfl
theorem ent42 : ∀ (vs : Array Value) w, (callFunc 42 vs).run Tryz.prog w = .ok (.enter 42 vs) w := by intro vs w; kernel_rfl
theorem ent43 : ∀ (vs : Array Value) w, (callFunc 43 vs).run Tryz.prog w = .ok (.enter 43 vs) w := by intro vs w; kernel_rfl
theorem ent44 : ∀ (vs : Array Value) w, (callFunc 44 vs).run Tryz.prog w = .ok (.enter 44 vs) w := by intro vs w; kernel_rfl
theorem ent45 : ∀ (vs : Array Value) w, (callFunc 45 vs).run Tryz.prog w = .ok (.enter 45 vs) w := by intro vs w; kernel_rfl
theorem ent46 : ∀ (vs : Array Value) w, (callFunc 46 vs).run Tryz.prog w = .ok (.enter 46 vs) w := by intro vs w; kernel_rfl
theorem ent47 : ∀ (vs : Array Value) w, (callFunc 47 vs).run Tryz.prog w = .ok (.enter 47 vs) w := by intro vs w; kernel_rfl
theorem ent48 : ∀ (vs : Array Value) w, (callFunc 48 vs).run Tryz.prog w = .ok (.enter 48 vs) w := by intro vs w; kernel_rfl
theorem ent49 : ∀ (vs : Array Value) w, (callFunc 49 vs).run Tryz.prog w = .ok (.enter 49 vs) w := by intro vs w; kernel_rfl
theorem ent50 : ∀ (vs : Array Value) w, (callFunc 50 vs).run Tryz.prog w = .ok (.enter 50 vs) w := by intro vs w; kernel_rfl
theorem ent51 : ∀ (vs : Array Value) w, (callFunc 51 vs).run Tryz.prog w = .ok (.enter 51 vs) w := by intro vs w; kernel_rfl
theorem ent52 : ∀ (vs : Array Value) w, (callFunc 52 vs).run Tryz.prog w = .ok (.enter 52 vs) w := by intro vs w; kernel_rfl
theorem ent53 : ∀ (vs : Array Value) w, (callFunc 53 vs).run Tryz.prog w = .ok (.enter 53 vs) w := by intro vs w; kernel_rfl
theorem ent54 : ∀ (vs : Array Value) w, (callFunc 54 vs).run Tryz.prog w = .ok (.enter 54 vs) w := by intro vs w; kernel_rfl
theorem ent55 : ∀ (vs : Array Value) w, (callFunc 55 vs).run Tryz.prog w = .ok (.enter 55 vs) w := by intro vs w; kernel_rfl
theorem ent58 : ∀ (vs : Array Value) w, (callFunc 58 vs).run Tryz.prog w = .ok (.enter 58 vs) w := by intro vs w; kernel_rfl
theorem ent59 : ∀ (vs : Array Value) w, (callFunc 59 vs).run Tryz.prog w = .ok (.enter 59 vs) w := by intro vs w; kernel_rfl
theorem ent60 : ∀ (vs : Array Value) w, (callFunc 60 vs).run Tryz.prog w = .ok (.enter 60 vs) w := by intro vs w; kernel_rfl
theorem ent61 : ∀ (vs : Array Value) w, (callFunc 61 vs).run Tryz.prog w = .ok (.enter 61 vs) w := by intro vs w; kernel_rfl
theorem ent62 : ∀ (vs : Array Value) w, (callFunc 62 vs).run Tryz.prog w = .ok (.enter 62 vs) w := by intro vs w; kernel_rfl
theorem ent63 : ∀ (vs : Array Value) w, (callFunc 63 vs).run Tryz.prog w = .ok (.enter 63 vs) w := by intro vs w; kernel_rfl
theorem ent69 : ∀ (vs : Array Value) w, (callFunc 69 vs).run Tryz.prog w = .ok (.enter 69 vs) w := by intro vs w; kernel_rfl
theorem ent72 : ∀ (vs : Array Value) w, (callFunc 72 vs).run Tryz.prog w = .ok (.enter 72 vs) w := by intro vs w; kernel_rfl
theorem ent75 : ∀ (vs : Array Value) w, (callFunc 75 vs).run Tryz.prog w = .ok (.enter 75 vs) w := by intro vs w; kernel_rfl
theorem ent76 : ∀ (vs : Array Value) w, (callFunc 76 vs).run Tryz.prog w = .ok (.enter 76 vs) w := by intro vs w; kernel_rfl
theorem ent78 : ∀ (vs : Array Value) w, (callFunc 78 vs).run Tryz.prog w = .ok (.enter 78 vs) w := by intro vs w; kernel_rfl
theorem ent79 : ∀ (vs : Array Value) w, (callFunc 79 vs).run Tryz.prog w = .ok (.enter 79 vs) w := by intro vs w; kernel_rfl
theorem ent80 : ∀ (vs : Array Value) w, (callFunc 80 vs).run Tryz.prog w = .ok (.enter 80 vs) w := by intro vs w; kernel_rfl
theorem ent81 : ∀ (vs : Array Value) w, (callFunc 81 vs).run Tryz.prog w = .ok (.enter 81 vs) w := by intro vs w; kernel_rfl
theorem ent82 : ∀ (vs : Array Value) w, (callFunc 82 vs).run Tryz.prog w = .ok (.enter 82 vs) w := by intro vs w; kernel_rfl
theorem ent83 : ∀ (vs : Array Value) w, (callFunc 83 vs).run Tryz.prog w = .ok (.enter 83 vs) w := by intro vs w; kernel_rfl
theorem ent84 : ∀ (vs : Array Value) w, (callFunc 84 vs).run Tryz.prog w = .ok (.enter 84 vs) w := by intro vs w; kernel_rfl
theorem ent85 : ∀ (vs : Array Value) w, (callFunc 85 vs).run Tryz.prog w = .ok (.enter 85 vs) w := by intro vs w; kernel_rfl
theorem ent86 : ∀ (vs : Array Value) w, (callFunc 86 vs).run Tryz.prog w = .ok (.enter 86 vs) w := by intro vs w; kernel_rfl
theorem ent87 : ∀ (vs : Array Value) w, (callFunc 87 vs).run Tryz.prog w = .ok (.enter 87 vs) w := by intro vs w; kernel_rfl
theorem ent88 : ∀ (vs : Array Value) w, (callFunc 88 vs).run Tryz.prog w = .ok (.enter 88 vs) w := by intro vs w; kernel_rfl
theorem ent94 : ∀ (vs : Array Value) w, (callFunc 94 vs).run Tryz.prog w = .ok (.enter 94 vs) w := by intro vs w; kernel_rfl
theorem ent102 : ∀ (vs : Array Value) w, (callFunc 102 vs).run Tryz.prog w = .ok (.enter 102 vs) w := by intro vs w; kernel_rfl
theorem ent103 : ∀ (vs : Array Value) w, (callFunc 103 vs).run Tryz.prog w = .ok (.enter 103 vs) w := by intro vs w; kernel_rfl
theorem ent104 : ∀ (vs : Array Value) w, (callFunc 104 vs).run Tryz.prog w = .ok (.enter 104 vs) w := by intro vs w; kernel_rfl
theorem ent105 : ∀ (vs : Array Value) w, (callFunc 105 vs).run Tryz.prog w = .ok (.enter 105 vs) w := by intro vs w; kernel_rfl
theorem ent106 : ∀ (vs : Array Value) w, (callFunc 106 vs).run Tryz.prog w = .ok (.enter 106 vs) w := by intro vs w; kernel_rfl
theorem ent107 : ∀ (vs : Array Value) w, (callFunc 107 vs).run Tryz.prog w = .ok (.enter 107 vs) w := by intro vs w; kernel_rfl
theorem ent114 : ∀ (vs : Array Value) w, (callFunc 114 vs).run Tryz.prog w = .ok (.enter 114 vs) w := by intro vs w; kernel_rfl
theorem ent123 : ∀ (vs : Array Value) w, (callFunc 123 vs).run Tryz.prog w = .ok (.enter 123 vs) w := by intro vs w; kernel_rfl
theorem ent124 : ∀ (vs : Array Value) w, (callFunc 124 vs).run Tryz.prog w = .ok (.enter 124 vs) w := by intro vs w; kernel_rfl
theorem ent135 : ∀ (vs : Array Value) w, (callFunc 135 vs).run Tryz.prog w = .ok (.enter 135 vs) w := by intro vs w; kernel_rfl
theorem ent136 : ∀ (vs : Array Value) w, (callFunc 136 vs).run Tryz.prog w = .ok (.enter 136 vs) w := by intro vs w; kernel_rfl
theorem ent140 : ∀ (vs : Array Value) w, (callFunc 140 vs).run Tryz.prog w = .ok (.enter 140 vs) w := by intro vs w; kernel_rfl
theorem ent148 : ∀ (vs : Array Value) w, (callFunc 148 vs).run Tryz.prog w = .ok (.enter 148 vs) w := by intro vs w; kernel_rfl
theorem ext56 : ∀ (b : Nat) w, (callFunc 56 #[.int .u32 b]).run Tryz.prog w = .ok (.value (.float .f32 b)) w := by intro b w; kernel_rfl
theorem ext57 : ∀ (b : Nat) w, (callFunc 57 #[.float .f32 b]).run Tryz.prog w = .ok (.value (.int .u32 b)) w := by intro b w; kernel_rfl
theorem ext77 : ∀ (b : Nat) w, (callFunc 77 #[.float .f64 b]).run Tryz.prog w = (do pure (Next.value (← Extern.MathSqrt.sqrt #[.float .f64 b])) : Sem Next).run Tryz.prog w := by intro b w; kernel_rfl
theorem ext89 : ∀ (b : Nat) w, (callFunc 89 #[.int .u64 b]).run Tryz.prog w = .ok (.value (.float .f64 b)) w := by intro b w; kernel_rfl
theorem ext90 : ∀ (b : Nat) w, (callFunc 90 #[.float .f64 b]).run Tryz.prog w = .ok (.value (.int .u64 b)) w := by intro b w; kernel_rfl
theorem ext122 : ∀ (b : ByteArray) (i : Int) w, (callFunc 122 #[.string b, .int .u8 i]).run Tryz.prog w = (do pure (Next.value (← Extern.BytealgCount.count #[.string b, .int .u8 i])) : Sem Next).run Tryz.prog w := by intro b i w; kernel_rfl
theorem ext149 : ∀ (b : ByteArray) (i : Int) w, (callFunc 149 #[.string b, .int .u8 i]).run Tryz.prog w = (do pure (Next.value (← Extern.BytealgIndexByte.indexByte #[.string b, .int .u8 i])) : Sem Next).run Tryz.prog w := by intro b i w; kernel_rfl
theorem inf9 : Tryz.prog.info? 9 = some Tryz.t9 := by kernel_rfl
theorem inf24 : Tryz.prog.info? 24 = some Tryz.t24 := by kernel_rfl
theorem plc92 : ∀ w, ((#[{ name := "code", type := 22, offset := 0, embedded := false, tag := "", pkgPath := "loop.example/g01327/spec", byteOffset := 0 }, { name := "at", type := 3, offset := 1, embedded := false, tag := "", pkgPath := "loop.example/g01327/spec", byteOffset := 24 }, { name := "seed", type := 90, offset := 2, embedded := false, tag := "", pkgPath := "loop.example/g01327/spec", byteOffset := 32 }] : Array Field).mapM fun f => Prod.mk f.offset <$> sizeOf f.type).run Tryz.prog w = .ok #[(0, 1), (1, 1), (2, 1)] w := by intro w; kernel_rfl
theorem pun2 : Tryz.prog.underlying 2 = some (Go.TypeDesc.int Go.IntKind.i64) := by kernel_rfl
theorem pun3 : Tryz.prog.underlying 3 = some (Go.TypeDesc.int Go.IntKind.i64) := by kernel_rfl
theorem pun4 : Tryz.prog.underlying 4 = some Go.TypeDesc.bool := by kernel_rfl
theorem pun5 : Tryz.prog.underlying 5 = some (Go.TypeDesc.int Go.IntKind.u8) := by kernel_rfl
theorem pun9 : Tryz.prog.underlying 9 = some Go.TypeDesc.string := by kernel_rfl
theorem pun22 : Tryz.prog.underlying 22 = some (Go.TypeDesc.slice 5) := by kernel_rfl
theorem pun25 : Tryz.prog.underlying 25 = some (Go.TypeDesc.slice 24) := by kernel_rfl
theorem pun28 : Tryz.prog.underlying 28 = some (Go.TypeDesc.float Go.FloatKind.f32) := by kernel_rfl
theorem pun46 : Tryz.prog.underlying 46 = some (Go.TypeDesc.float Go.FloatKind.f64) := by kernel_rfl
theorem pun69 : Tryz.prog.underlying 69 = some (Go.TypeDesc.slice 9) := by kernel_rfl
theorem pun79 : Tryz.prog.underlying 79 = some (Go.TypeDesc.int Go.IntKind.u32) := by kernel_rfl
theorem pun90 : Tryz.prog.underlying 90 = some (Go.TypeDesc.int Go.IntKind.u64) := by kernel_rfl
theorem pun99 : Tryz.prog.underlying 99 = some (Go.TypeDesc.interface #[("Error", 117)]) := by kernel_rfl
theorem pun106 : Tryz.prog.underlying 106 = some (Go.TypeDesc.int Go.IntKind.u64) := by kernel_rfl
theorem siz2 : ∀ w, (sizeOf 2).run Tryz.prog w = .ok 1 w := by intro w; kernel_rfl
theorem siz3 : ∀ w, (sizeOf 3).run Tryz.prog w = .ok 1 w := by intro w; kernel_rfl
theorem siz5 : ∀ w, (sizeOf 5).run Tryz.prog w = .ok 1 w := by intro w; kernel_rfl
theorem siz9 : ∀ w, (sizeOf 9).run Tryz.prog w = .ok 1 w := by intro w; kernel_rfl
theorem siz22 : ∀ w, (sizeOf 22).run Tryz.prog w = .ok 1 w := by intro w; kernel_rfl
theorem siz24 : ∀ w, (sizeOf 24).run Tryz.prog w = .ok 1 w := by intro w; kernel_rfl
theorem siz90 : ∀ w, (sizeOf 90).run Tryz.prog w = .ok 1 w := by intro w; kernel_rfl
theorem tin9 : ∀ w, (typeInfo 9).run Tryz.prog w = .ok Tryz.t9 w := by intro w; kernel_rfl
theorem und9 : ∀ w, (underlying 9).run Tryz.prog w = .ok Go.TypeDesc.string w := by intro w; kernel_rfl
theorem und22 : ∀ w, (underlying 22).run Tryz.prog w = .ok (Go.TypeDesc.slice 5) w := by intro w; kernel_rfl
theorem und25 : ∀ w, (underlying 25).run Tryz.prog w = .ok (Go.TypeDesc.slice 24) w := by intro w; kernel_rfl
theorem und69 : ∀ w, (underlying 69).run Tryz.prog w = .ok (Go.TypeDesc.slice 9) w := by intro w; kernel_rfl
theorem und92 : ∀ w, (underlying 92).run Tryz.prog w = .ok (Go.TypeDesc.struct #[{ name := "code", type := 22, offset := 0, embedded := false, tag := "", pkgPath := "loop.example/g01327/spec", byteOffset := 0 }, { name := "at", type := 3, offset := 1, embedded := false, tag := "", pkgPath := "loop.example/g01327/spec", byteOffset := 24 }, { name := "seed", type := 90, offset := 2, embedded := false, tag := "", pkgPath := "loop.example/g01327/spec", byteOffset := 32 }]) w := by intro w; kernel_rfl
theorem und103 : ∀ w, (underlying 103).run Tryz.prog w = .ok (Go.TypeDesc.slice 2) w := by intro w; kernel_rfl
theorem und140 : ∀ w, (underlying 140).run Tryz.prog w = .ok (Go.TypeDesc.int Go.IntKind.i64) w := by intro w; kernel_rfl
theorem und149 : ∀ w, (underlying 149).run Tryz.prog w = .ok (Go.TypeDesc.array 65 5) w := by intro w; kernel_rfl
theorem und169 : ∀ w, (underlying 169).run Tryz.prog w = .ok (Go.TypeDesc.array 64 5) w := by intro w; kernel_rfl
theorem zel2 : ∀ S μ, V S μ (AV.i64 0) (Go.Value.int Go.IntKind.i64 0) := by intro S μ; exact (by simp only [V])
theorem zel9 : ∀ S μ, V S μ (AV.str lit_99ba06bc) (Go.Value.string { data := #[] }) := by intro S μ; exact (by simp only [V]; rfl)
theorem zel24 : ∀ S μ, V S μ (AV.cx .f32 (some 0) (some 0)) (Go.Value.complex Go.FloatKind.f32 0 0) := by intro S μ; exact (ALe.cpx (by kernel_rfl) (by kernel_rfl) (by kernel_rfl) (by kernel_rfl) S μ _ (by simp only [V]))
theorem zer2 : ∀ w, (zeroValue 2).run Tryz.prog w = .ok (Go.Value.int Go.IntKind.i64 0) w := by intro w; kernel_rfl
theorem zer9 : ∀ w, (zeroValue 9).run Tryz.prog w = .ok (Go.Value.string { data := #[] }) w := by intro w; kernel_rfl
theorem zer24 : ∀ w, (zeroValue 24).run Tryz.prog w = .ok (Go.Value.complex Go.FloatKind.f32 0 0) w := by intro w; kernel_rfl
theorem zer92 : ∀ w, (zeroValue 92).run Tryz.prog w = .ok (Go.Value.agg #[(Go.Value.slice none 0 0), (Go.Value.int Go.IntKind.i64 0), (Go.Value.int Go.IntKind.u64 0)]) w := by intro w; kernel_rfl
theorem zer126 : ∀ w, (zeroValue 126).run Tryz.prog w = .ok (.agg (List.replicate 24 (Value.int .u8 0)).toArray) w := by intro w; kernel_rfl
theorem zer149 : ∀ w, (zeroValue 149).run Tryz.prog w = .ok (.agg (List.replicate 65 (Value.int .u8 0)).toArray) w := by intro w; kernel_rfl
theorem zok92 : ZeroOk [AV.nilsl, AV.i64 0, AV.ik .u64 0] (Go.Value.agg #[(Go.Value.slice none 0 0), (Go.Value.int Go.IntKind.i64 0), (Go.Value.int Go.IntKind.u64 0)]) := by intro S μ; simp only [Value.cells, VL]; exact ⟨(by simp only [V]), (by simp only [V]), (by simp only [V]), trivial⟩
theorem zok126 : ZeroOk ((List.replicate 24 (0 : Int)).map (AV.ik .u8)) (.agg (List.replicate 24 (Value.int .u8 0)).toArray) := zok_arr
theorem zok149 : ZeroOk ((List.replicate 65 (0 : Int)).map (AV.ik .u8)) (.agg (List.replicate 65 (Value.int .u8 0)).toArray) := zok_arr
end Go.Proofs.YtcjbfpoaidjpaaaGreatDoor
