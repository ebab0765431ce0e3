/- Facts on the program's types and functions. -/
import Derived.Shelf.LaysM
import Derived.Shelf.Strconv.Itoa4
import Derived.Shelf.Strconv.ParseIntPublic10
import Derived.Shelf.Strings.Repeat
import Derived.Shelf.Strconv.ToError
import Derived.Shelf.Strconv.ToErrorRange
import Derived.Test.YticpoofjnfiebaaGreatDoorAm1
import Derived.Test.YticpoofjnfiebaaGreatDoorChecked
namespace Go.Proofs.YticpoofjnfiebaaGreatDoor
open Go Go.AM
set_option maxRecDepth 20000
set_option maxHeartbeats 4000000
set_option linter.unusedVariables false
set_option linter.unusedSimpArgs false
def lit_53dfb3bc : ByteArray := { data := #[48] }
def lit_5ac87db9 : ByteArray := { data := #[110, 111, 110, 101] }
def lit_99ba06bc : ByteArray := { data := #[] }
def lit_b1892504 : ByteArray := { data := #[48, 49, 50, 51, 52, 53, 54, 55, 56, 57, 97, 98, 99, 100, 101, 102, 103, 104, 105, 106, 107, 108, 109, 110, 111, 112, 113, 114, 115, 116, 117, 118, 119, 120, 121, 122] }
def lit_b7340269 : ByteArray := { data := #[59] }
def lit_be717853 : ByteArray := { data := #[44] }
def lit_c0869d09 : ByteArray := { data := #[80, 97, 114, 115, 101, 85, 105, 110, 116] }
theorem mixed : Tryz.prog.follows .mixedOrders = true := by kernel_rfl
theorem agg2 : ∀ w, (isAgg 2).run Tryz.prog w = .ok false w := by intro w; kernel_rfl
theorem agg5 : ∀ w, (isAgg 5).run Tryz.prog w = .ok false w := by intro w; kernel_rfl
theorem agg9 : ∀ w, (isAgg 9).run Tryz.prog w = .ok false w := by intro w; kernel_rfl
theorem agg22 : ∀ w, (isAgg 22).run Tryz.prog w = .ok false w := by intro w; kernel_rfl
theorem agg31 : ∀ w, (isAgg 31).run Tryz.prog w = .ok true w := by intro w; kernel_rfl
theorem agg51 : ∀ w, (isAgg 51).run Tryz.prog w = .ok false w := by intro w; kernel_rfl
theorem ent10 : ∀ (vs : Array Value) w, (callFunc 10 vs).run Tryz.prog w = .ok (.enter 10 vs) w := by intro vs w; kernel_rfl
theorem ent11 : ∀ (vs : Array Value) w, (callFunc 11 vs).run Tryz.prog w = .ok (.enter 11 vs) w := by intro vs w; kernel_rfl
theorem ent12 : ∀ (vs : Array Value) w, (callFunc 12 vs).run Tryz.prog w = .ok (.enter 12 vs) w := by intro vs w; kernel_rfl
theorem ent13 : ∀ (vs : Array Value) w, (callFunc 13 vs).run Tryz.prog w = .ok (.enter 13 vs) w := by intro vs w; kernel_rfl
theorem ent14 : ∀ (vs : Array Value) w, (callFunc 14 vs).run Tryz.prog w = .ok (.enter 14 vs) w := by intro vs w; kernel_rfl
theorem ent16 : ∀ (vs : Array Value) w, (callFunc 16 vs).run Tryz.prog w = .ok (.enter 16 vs) w := by intro vs w; kernel_rfl
theorem ent17 : ∀ (vs : Array Value) w, (callFunc 17 vs).run Tryz.prog w = .ok (.enter 17 vs) w := by intro vs w; kernel_rfl
theorem ent19 : ∀ (vs : Array Value) w, (callFunc 19 vs).run Tryz.prog w = .ok (.enter 19 vs) w := by intro vs w; kernel_rfl
theorem ent20 : ∀ (vs : Array Value) w, (callFunc 20 vs).run Tryz.prog w = .ok (.enter 20 vs) w := by intro vs w; kernel_rfl
theorem ent21 : ∀ (vs : Array Value) w, (callFunc 21 vs).run Tryz.prog w = .ok (.enter 21 vs) w := by intro vs w; kernel_rfl
theorem ent22 : ∀ (vs : Array Value) w, (callFunc 22 vs).run Tryz.prog w = .ok (.enter 22 vs) w := by intro vs w; kernel_rfl
theorem ent23 : ∀ (vs : Array Value) w, (callFunc 23 vs).run Tryz.prog w = .ok (.enter 23 vs) w := by intro vs w; kernel_rfl
theorem ent24 : ∀ (vs : Array Value) w, (callFunc 24 vs).run Tryz.prog w = .ok (.enter 24 vs) w := by intro vs w; kernel_rfl
theorem ent25 : ∀ (vs : Array Value) w, (callFunc 25 vs).run Tryz.prog w = .ok (.enter 25 vs) w := by intro vs w; kernel_rfl
theorem ent26 : ∀ (vs : Array Value) w, (callFunc 26 vs).run Tryz.prog w = .ok (.enter 26 vs) w := by intro vs w; kernel_rfl
theorem ent28 : ∀ (vs : Array Value) w, (callFunc 28 vs).run Tryz.prog w = .ok (.enter 28 vs) w := by intro vs w; kernel_rfl
theorem ent29 : ∀ (vs : Array Value) w, (callFunc 29 vs).run Tryz.prog w = .ok (.enter 29 vs) w := by intro vs w; kernel_rfl
theorem ent30 : ∀ (vs : Array Value) w, (callFunc 30 vs).run Tryz.prog w = .ok (.enter 30 vs) w := by intro vs w; kernel_rfl
theorem ent31 : ∀ (vs : Array Value) w, (callFunc 31 vs).run Tryz.prog w = .ok (.enter 31 vs) w := by intro vs w; kernel_rfl
theorem ent32 : ∀ (vs : Array Value) w, (callFunc 32 vs).run Tryz.prog w = .ok (.enter 32 vs) w := by intro vs w; kernel_rfl
theorem ent33 : ∀ (vs : Array Value) w, (callFunc 33 vs).run Tryz.prog w = .ok (.enter 33 vs) w := by intro vs w; kernel_rfl
theorem ent34 : ∀ (vs : Array Value) w, (callFunc 34 vs).run Tryz.prog w = .ok (.enter 34 vs) w := by intro vs w; kernel_rfl
theorem ent35 : ∀ (vs : Array Value) w, (callFunc 35 vs).run Tryz.prog w = .ok (.enter 35 vs) w := by intro vs w; kernel_rfl
theorem ent36 : ∀ (vs : Array Value) w, (callFunc 36 vs).run Tryz.prog w = .ok (.enter 36 vs) w := by intro vs w; kernel_rfl
theorem ent37 : ∀ (vs : Array Value) w, (callFunc 37 vs).run Tryz.prog w = .ok (.enter 37 vs) w := by intro vs w; kernel_rfl
theorem ent38 : ∀ (vs : Array Value) w, (callFunc 38 vs).run Tryz.prog w = .ok (.enter 38 vs) w := by intro vs w; kernel_rfl
theorem ent39 : ∀ (vs : Array Value) w, (callFunc 39 vs).run Tryz.prog w = .ok (.enter 39 vs) w := by intro vs w; kernel_rfl
theorem ent40 : ∀ (vs : Array Value) w, (callFunc 40 vs).run Tryz.prog w = .ok (.enter 40 vs) w := by intro vs w; kernel_rfl
theorem ent41 : ∀ (vs : Array Value) w, (callFunc 41 vs).run Tryz.prog w = .ok (.enter 41 vs) w := by intro vs w; kernel_rfl
theorem ent42 : ∀ (vs : Array Value) w, (callFunc 42 vs).run Tryz.prog w = .ok (.enter 42 vs) w := by intro vs w; kernel_rfl
theorem ent43 : ∀ (vs : Array Value) w, (callFunc 43 vs).run Tryz.prog w = .ok (.enter 43 vs) w := by intro vs w; kernel_rfl
theorem ent44 : ∀ (vs : Array Value) w, (callFunc 44 vs).run Tryz.prog w = .ok (.enter 44 vs) w := by intro vs w; kernel_rfl
theorem ent46 : ∀ (vs : Array Value) w, (callFunc 46 vs).run Tryz.prog w = .ok (.enter 46 vs) w := by intro vs w; kernel_rfl
theorem ent47 : ∀ (vs : Array Value) w, (callFunc 47 vs).run Tryz.prog w = .ok (.enter 47 vs) w := by intro vs w; kernel_rfl
theorem ent48 : ∀ (vs : Array Value) w, (callFunc 48 vs).run Tryz.prog w = .ok (.enter 48 vs) w := by intro vs w; kernel_rfl
theorem ent49 : ∀ (vs : Array Value) w, (callFunc 49 vs).run Tryz.prog w = .ok (.enter 49 vs) w := by intro vs w; kernel_rfl
theorem ent50 : ∀ (vs : Array Value) w, (callFunc 50 vs).run Tryz.prog w = .ok (.enter 50 vs) w := by intro vs w; kernel_rfl
theorem ent51 : ∀ (vs : Array Value) w, (callFunc 51 vs).run Tryz.prog w = .ok (.enter 51 vs) w := by intro vs w; kernel_rfl
theorem ent52 : ∀ (vs : Array Value) w, (callFunc 52 vs).run Tryz.prog w = .ok (.enter 52 vs) w := by intro vs w; kernel_rfl
theorem ent53 : ∀ (vs : Array Value) w, (callFunc 53 vs).run Tryz.prog w = .ok (.enter 53 vs) w := by intro vs w; kernel_rfl
theorem ent55 : ∀ (vs : Array Value) w, (callFunc 55 vs).run Tryz.prog w = .ok (.enter 55 vs) w := by intro vs w; kernel_rfl
theorem ent56 : ∀ (vs : Array Value) w, (callFunc 56 vs).run Tryz.prog w = .ok (.enter 56 vs) w := by intro vs w; kernel_rfl
theorem ent61 : ∀ (vs : Array Value) w, (callFunc 61 vs).run Tryz.prog w = .ok (.enter 61 vs) w := by intro vs w; kernel_rfl
theorem ent62 : ∀ (vs : Array Value) w, (callFunc 62 vs).run Tryz.prog w = .ok (.enter 62 vs) w := by intro vs w; kernel_rfl
theorem ent63 : ∀ (vs : Array Value) w, (callFunc 63 vs).run Tryz.prog w = .ok (.enter 63 vs) w := by intro vs w; kernel_rfl
theorem ent64 : ∀ (vs : Array Value) w, (callFunc 64 vs).run Tryz.prog w = .ok (.enter 64 vs) w := by intro vs w; kernel_rfl
theorem ent65 : ∀ (vs : Array Value) w, (callFunc 65 vs).run Tryz.prog w = .ok (.enter 65 vs) w := by intro vs w; kernel_rfl
theorem ent66 : ∀ (vs : Array Value) w, (callFunc 66 vs).run Tryz.prog w = .ok (.enter 66 vs) w := by intro vs w; kernel_rfl
theorem ent67 : ∀ (vs : Array Value) w, (callFunc 67 vs).run Tryz.prog w = .ok (.enter 67 vs) w := by intro vs w; kernel_rfl
theorem ent68 : ∀ (vs : Array Value) w, (callFunc 68 vs).run Tryz.prog w = .ok (.enter 68 vs) w := by intro vs w; kernel_rfl
theorem ent69 : ∀ (vs : Array Value) w, (callFunc 69 vs).run Tryz.prog w = .ok (.enter 69 vs) w := by intro vs w; kernel_rfl
theorem ent70 : ∀ (vs : Array Value) w, (callFunc 70 vs).run Tryz.prog w = .ok (.enter 70 vs) w := by intro vs w; kernel_rfl
theorem ent71 : ∀ (vs : Array Value) w, (callFunc 71 vs).run Tryz.prog w = .ok (.enter 71 vs) w := by intro vs w; kernel_rfl
theorem ent72 : ∀ (vs : Array Value) w, (callFunc 72 vs).run Tryz.prog w = .ok (.enter 72 vs) w := by intro vs w; kernel_rfl
theorem ent73 : ∀ (vs : Array Value) w, (callFunc 73 vs).run Tryz.prog w = .ok (.enter 73 vs) w := by intro vs w; kernel_rfl
theorem ent79 : ∀ (vs : Array Value) w, (callFunc 79 vs).run Tryz.prog w = .ok (.enter 79 vs) w := by intro vs w; kernel_rfl
theorem ent85 : ∀ (vs : Array Value) w, (callFunc 85 vs).run Tryz.prog w = .ok (.enter 85 vs) w := by intro vs w; kernel_rfl
theorem ent92 : ∀ (vs : Array Value) w, (callFunc 92 vs).run Tryz.prog w = .ok (.enter 92 vs) w := by intro vs w; kernel_rfl
theorem ent93 : ∀ (vs : Array Value) w, (callFunc 93 vs).run Tryz.prog w = .ok (.enter 93 vs) w := by intro vs w; kernel_rfl
theorem ent94 : ∀ (vs : Array Value) w, (callFunc 94 vs).run Tryz.prog w = .ok (.enter 94 vs) w := by intro vs w; kernel_rfl
theorem ent95 : ∀ (vs : Array Value) w, (callFunc 95 vs).run Tryz.prog w = .ok (.enter 95 vs) w := by intro vs w; kernel_rfl
theorem ent104 : ∀ (vs : Array Value) w, (callFunc 104 vs).run Tryz.prog w = .ok (.enter 104 vs) w := by intro vs w; kernel_rfl
theorem ent110 : ∀ (vs : Array Value) w, (callFunc 110 vs).run Tryz.prog w = .ok (.enter 110 vs) w := by intro vs w; kernel_rfl
theorem ent115 : ∀ (vs : Array Value) w, (callFunc 115 vs).run Tryz.prog w = .ok (.enter 115 vs) w := by intro vs w; kernel_rfl
theorem ent116 : ∀ (vs : Array Value) w, (callFunc 116 vs).run Tryz.prog w = .ok (.enter 116 vs) w := by intro vs w; kernel_rfl
theorem ent122 : ∀ (vs : Array Value) w, (callFunc 122 vs).run Tryz.prog w = .ok (.enter 122 vs) w := by intro vs w; kernel_rfl
theorem ext45 : ∀ (b : Nat) w, (callFunc 45 #[.int .u32 b]).run Tryz.prog w = .ok (.value (.float .f32 b)) w := by intro b w; kernel_rfl
theorem ext54 : ∀ (b : Nat) w, (callFunc 54 #[.float .f32 b]).run Tryz.prog w = .ok (.value (.int .u32 b)) w := by intro b w; kernel_rfl
theorem ext74 : ∀ (b : ByteArray) (i : Int) w, (callFunc 74 #[.string b, .int .u8 i]).run Tryz.prog w = (do pure (Next.value (← Extern.BytealgIndexByte.indexByte #[.string b, .int .u8 i])) : Sem Next).run Tryz.prog w := by intro b i w; kernel_rfl
theorem ext78 : ∀ (b : ByteArray) (i : Int) w, (callFunc 78 #[.string b, .int .u8 i]).run Tryz.prog w = (do pure (Next.value (← Extern.BytealgCount.count #[.string b, .int .u8 i])) : Sem Next).run Tryz.prog w := by intro b i w; kernel_rfl
theorem ext119 : ∀ (b : Nat) w, (callFunc 119 #[.int .u64 b]).run Tryz.prog w = .ok (.value (.float .f64 b)) w := by intro b w; kernel_rfl
theorem ext120 : ∀ (b : Nat) w, (callFunc 120 #[.float .f64 b]).run Tryz.prog w = .ok (.value (.int .u64 b)) w := by intro b w; kernel_rfl
theorem inf2 : Tryz.prog.info? 2 = some Tryz.t2 := by kernel_rfl
theorem inf5 : Tryz.prog.info? 5 = some Tryz.t5 := by kernel_rfl
theorem inf9 : Tryz.prog.info? 9 = some Tryz.t9 := by kernel_rfl
theorem inf51 : Tryz.prog.info? 51 = some Tryz.t51 := by kernel_rfl
theorem plc31 : ∀ w, ((#[{ name := "Rows", type := 2, offset := 0, embedded := false, tag := "", pkgPath := "", byteOffset := 0 }, { name := "Columns", type := 2, offset := 1, embedded := false, tag := "", pkgPath := "", byteOffset := 8 }, { name := "Numbers", type := 22, offset := 2, embedded := false, tag := "", pkgPath := "", byteOffset := 16 }] : Array Field).mapM fun f => Prod.mk f.offset <$> sizeOf f.type).run Tryz.prog w = .ok #[(0, 1), (1, 1), (2, 1)] w := by intro w; kernel_rfl
theorem pun2 : Tryz.prog.underlying 2 = some (Go.TypeDesc.int Go.IntKind.i64) := by kernel_rfl
theorem pun3 : Tryz.prog.underlying 3 = some (Go.TypeDesc.int Go.IntKind.i64) := by kernel_rfl
theorem pun4 : Tryz.prog.underlying 4 = some Go.TypeDesc.bool := by kernel_rfl
theorem pun5 : Tryz.prog.underlying 5 = some (Go.TypeDesc.int Go.IntKind.u8) := by kernel_rfl
theorem pun9 : Tryz.prog.underlying 9 = some Go.TypeDesc.string := by kernel_rfl
theorem pun22 : Tryz.prog.underlying 22 = some (Go.TypeDesc.slice 51) := by kernel_rfl
theorem pun46 : Tryz.prog.underlying 46 = some (Go.TypeDesc.slice 9) := by kernel_rfl
theorem pun51 : Tryz.prog.underlying 51 = some (Go.TypeDesc.float Go.FloatKind.f32) := by kernel_rfl
theorem pun58 : Tryz.prog.underlying 58 = some (Go.TypeDesc.float Go.FloatKind.f64) := by kernel_rfl
theorem pun60 : Tryz.prog.underlying 60 = some (Go.TypeDesc.slice 2) := by kernel_rfl
theorem pun69 : Tryz.prog.underlying 69 = some (Go.TypeDesc.int Go.IntKind.u64) := by kernel_rfl
theorem pun71 : Tryz.prog.underlying 71 = some (Go.TypeDesc.interface #[("Error", 119)]) := by kernel_rfl
theorem pun75 : Tryz.prog.underlying 75 = some (Go.TypeDesc.int Go.IntKind.u32) := by kernel_rfl
theorem pun87 : Tryz.prog.underlying 87 = some (Go.TypeDesc.int Go.IntKind.u64) := by kernel_rfl
theorem pun105 : Tryz.prog.underlying 105 = some (Go.TypeDesc.slice 5) := by kernel_rfl
theorem siz2 : ∀ w, (sizeOf 2).run Tryz.prog w = .ok 1 w := by intro w; kernel_rfl
theorem siz5 : ∀ w, (sizeOf 5).run Tryz.prog w = .ok 1 w := by intro w; kernel_rfl
theorem siz9 : ∀ w, (sizeOf 9).run Tryz.prog w = .ok 1 w := by intro w; kernel_rfl
theorem siz22 : ∀ w, (sizeOf 22).run Tryz.prog w = .ok 1 w := by intro w; kernel_rfl
theorem siz31 : ∀ w, (sizeOf 31).run Tryz.prog w = .ok 3 w := by intro w; kernel_rfl
theorem siz51 : ∀ w, (sizeOf 51).run Tryz.prog w = .ok 1 w := by intro w; kernel_rfl
theorem tin9 : ∀ w, (typeInfo 9).run Tryz.prog w = .ok Tryz.t9 w := by intro w; kernel_rfl
theorem und9 : ∀ w, (underlying 9).run Tryz.prog w = .ok Go.TypeDesc.string w := by intro w; kernel_rfl
theorem und22 : ∀ w, (underlying 22).run Tryz.prog w = .ok (Go.TypeDesc.slice 51) w := by intro w; kernel_rfl
theorem und31 : ∀ w, (underlying 31).run Tryz.prog w = .ok (Go.TypeDesc.struct #[{ name := "Rows", type := 2, offset := 0, embedded := false, tag := "", pkgPath := "", byteOffset := 0 }, { name := "Columns", type := 2, offset := 1, embedded := false, tag := "", pkgPath := "", byteOffset := 8 }, { name := "Numbers", type := 22, offset := 2, embedded := false, tag := "", pkgPath := "", byteOffset := 16 }]) w := by intro w; kernel_rfl
theorem und46 : ∀ w, (underlying 46).run Tryz.prog w = .ok (Go.TypeDesc.slice 9) w := by intro w; kernel_rfl
theorem und60 : ∀ w, (underlying 60).run Tryz.prog w = .ok (Go.TypeDesc.slice 2) w := by intro w; kernel_rfl
theorem und103 : ∀ w, (underlying 103).run Tryz.prog w = .ok (Go.TypeDesc.int Go.IntKind.i64) w := by intro w; kernel_rfl
theorem und105 : ∀ w, (underlying 105).run Tryz.prog w = .ok (Go.TypeDesc.slice 5) w := by intro w; kernel_rfl
theorem und145 : ∀ w, (underlying 145).run Tryz.prog w = .ok (Go.TypeDesc.array 65 5) w := by intro w; kernel_rfl
theorem und155 : ∀ w, (underlying 155).run Tryz.prog w = .ok (Go.TypeDesc.array 64 5) w := by intro w; kernel_rfl
theorem zel2 : ∀ S μ, V S μ (AV.i64 0) (Go.Value.int Go.IntKind.i64 0) := by intro S μ; exact (by simp only [V])
theorem zel5 : ∀ S μ, V S μ (AV.ik .u8 0) (Go.Value.int Go.IntKind.u8 0) := by intro S μ; exact (by simp only [V])
theorem zel9 : ∀ S μ, V S μ (AV.str lit_99ba06bc) (Go.Value.string { data := #[] }) := by intro S μ; exact (by simp only [V]; rfl)
theorem zel51 : ∀ S μ, V S μ (AV.f32 (some 0)) (Go.Value.float Go.FloatKind.f32 0) := by intro S μ; exact (ALe.fl (by kernel_rfl) (by kernel_rfl) S μ _ (by simp only [V]))
theorem zer2 : ∀ w, (zeroValue 2).run Tryz.prog w = .ok (Go.Value.int Go.IntKind.i64 0) w := by intro w; kernel_rfl
theorem zer5 : ∀ w, (zeroValue 5).run Tryz.prog w = .ok (Go.Value.int Go.IntKind.u8 0) w := by intro w; kernel_rfl
theorem zer9 : ∀ w, (zeroValue 9).run Tryz.prog w = .ok (Go.Value.string { data := #[] }) w := by intro w; kernel_rfl
theorem zer31 : ∀ w, (zeroValue 31).run Tryz.prog w = .ok (Go.Value.agg #[(Go.Value.int Go.IntKind.i64 0), (Go.Value.int Go.IntKind.i64 0), (Go.Value.slice none 0 0)]) w := by intro w; kernel_rfl
theorem zer51 : ∀ w, (zeroValue 51).run Tryz.prog w = .ok (Go.Value.float Go.FloatKind.f32 0) w := by intro w; kernel_rfl
theorem zer126 : ∀ w, (zeroValue 126).run Tryz.prog w = .ok (.agg (List.replicate 24 (Value.int .u8 0)).toArray) w := by intro w; kernel_rfl
theorem zer145 : ∀ w, (zeroValue 145).run Tryz.prog w = .ok (.agg (List.replicate 65 (Value.int .u8 0)).toArray) w := by intro w; kernel_rfl
theorem zok31 : ZeroOk [AV.i64 0, AV.i64 0, AV.nilsl] (Go.Value.agg #[(Go.Value.int Go.IntKind.i64 0), (Go.Value.int Go.IntKind.i64 0), (Go.Value.slice none 0 0)]) := by intro S μ; simp only [Value.cells, VL]; exact ⟨(by simp only [V]), (by simp only [V]), (by simp only [V]), trivial⟩
theorem zok126 : ZeroOk ((List.replicate 24 (0 : Int)).map (AV.ik .u8)) (.agg (List.replicate 24 (Value.int .u8 0)).toArray) := zok_arr
theorem zok145 : ZeroOk ((List.replicate 65 (0 : Int)).map (AV.ik .u8)) (.agg (List.replicate 65 (Value.int .u8 0)).toArray) := zok_arr
end Go.Proofs.YticpoofjnfiebaaGreatDoor
