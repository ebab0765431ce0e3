/- Facts on the program's types and functions. -/
import Derived.Shelf.LaysM
import Derived.Shelf.Strconv.Itoa4
import Derived.Shelf.Strings.OnBuilder
import Derived.Shelf.Strings.Repeat
import Derived.Test.YtddegdokdpeboaaDoorAm2
import Derived.Test.YtddegdokdpeboaaDoorChecked
namespace Go.Proofs.YtddegdokdpeboaaDoor
open Go Go.AM
set_option maxRecDepth 20000
set_option maxHeartbeats 4000000
set_option linter.unusedVariables false
set_option linter.unusedSimpArgs false
def lit_2dfa74a3 : ByteArray := { data := #[48, 49, 50, 51, 52, 53, 54, 55, 56, 57, 97, 98, 99, 100, 101, 102] }
def lit_53dfb3bc : ByteArray := { data := #[48] }
def lit_5ac87db9 : ByteArray := { data := #[110, 111, 110, 101] }
def lit_99ba06bc : ByteArray := { data := #[] }
def lit_b1892504 : ByteArray := { data := #[48, 49, 50, 51, 52, 53, 54, 55, 56, 57, 97, 98, 99, 100, 101, 102, 103, 104, 105, 106, 107, 108, 109, 110, 111, 112, 113, 114, 115, 116, 117, 118, 119, 120, 121, 122] }
def lit_b7340269 : ByteArray := { data := #[59] }
def lit_be717853 : ByteArray := { data := #[44] }
theorem mixed : Tryd.prog.follows .mixedOrders = true := by kernel_rfl
theorem agg2 : ∀ w, (isAgg 2).run Tryd.prog w = .ok false w := by intro w; kernel_rfl
theorem agg5 : ∀ w, (isAgg 5).run Tryd.prog w = .ok false w := by intro w; kernel_rfl
theorem agg43 : ∀ w, (isAgg 43).run Tryd.prog w = .ok false w := by intro w; kernel_rfl
theorem agg53 : ∀ w, (isAgg 53).run Tryd.prog w = .ok true w := by intro w; kernel_rfl
theorem agg56 : ∀ w, (isAgg 56).run Tryd.prog w = .ok true w := by intro w; kernel_rfl
theorem agg115 : ∀ w, (isAgg 115).run Tryd.prog w = .ok false w := by intro w; kernel_rfl
theorem ent30 : ∀ (vs : Array Value) w, (callFunc 30 vs).run Tryd.prog w = .ok (.enter 30 vs) w := by intro vs w; kernel_rfl
theorem ent31 : ∀ (vs : Array Value) w, (callFunc 31 vs).run Tryd.prog w = .ok (.enter 31 vs) w := by intro vs w; kernel_rfl
theorem ent32 : ∀ (vs : Array Value) w, (callFunc 32 vs).run Tryd.prog w = .ok (.enter 32 vs) w := by intro vs w; kernel_rfl
theorem ent33 : ∀ (vs : Array Value) w, (callFunc 33 vs).run Tryd.prog w = .ok (.enter 33 vs) w := by intro vs w; kernel_rfl
theorem ent34 : ∀ (vs : Array Value) w, (callFunc 34 vs).run Tryd.prog w = .ok (.enter 34 vs) w := by intro vs w; kernel_rfl
theorem ent43 : ∀ (vs : Array Value) w, (callFunc 43 vs).run Tryd.prog w = .ok (.enter 43 vs) w := by intro vs w; kernel_rfl
theorem ent48 : ∀ (vs : Array Value) w, (callFunc 48 vs).run Tryd.prog w = .ok (.enter 48 vs) w := by intro vs w; kernel_rfl
theorem ent55 : ∀ (vs : Array Value) w, (callFunc 55 vs).run Tryd.prog w = .ok (.enter 55 vs) w := by intro vs w; kernel_rfl
theorem ent58 : ∀ (vs : Array Value) w, (callFunc 58 vs).run Tryd.prog w = .ok (.enter 58 vs) w := by intro vs w; kernel_rfl
theorem ent60 : ∀ (vs : Array Value) w, (callFunc 60 vs).run Tryd.prog w = .ok (.enter 60 vs) w := by intro vs w; kernel_rfl
theorem ent61 : ∀ (vs : Array Value) w, (callFunc 61 vs).run Tryd.prog w = .ok (.enter 61 vs) w := by intro vs w; kernel_rfl
theorem ent62 : ∀ (vs : Array Value) w, (callFunc 62 vs).run Tryd.prog w = .ok (.enter 62 vs) w := by intro vs w; kernel_rfl
theorem ent63 : ∀ (vs : Array Value) w, (callFunc 63 vs).run Tryd.prog w = .ok (.enter 63 vs) w := by intro vs w; kernel_rfl
theorem ent64 : ∀ (vs : Array Value) w, (callFunc 64 vs).run Tryd.prog w = .ok (.enter 64 vs) w := by intro vs w; kernel_rfl
theorem ent67 : ∀ (vs : Array Value) w, (callFunc 67 vs).run Tryd.prog w = .ok (.enter 67 vs) w := by intro vs w; kernel_rfl
theorem ent69 : ∀ (vs : Array Value) w, (callFunc 69 vs).run Tryd.prog w = .ok (.enter 69 vs) w := by intro vs w; kernel_rfl
theorem ent71 : ∀ (vs : Array Value) w, (callFunc 71 vs).run Tryd.prog w = .ok (.enter 71 vs) w := by intro vs w; kernel_rfl
theorem ent73 : ∀ (vs : Array Value) w, (callFunc 73 vs).run Tryd.prog w = .ok (.enter 73 vs) w := by intro vs w; kernel_rfl
theorem ent75 : ∀ (vs : Array Value) w, (callFunc 75 vs).run Tryd.prog w = .ok (.enter 75 vs) w := by intro vs w; kernel_rfl
theorem ent78 : ∀ (vs : Array Value) w, (callFunc 78 vs).run Tryd.prog w = .ok (.enter 78 vs) w := by intro vs w; kernel_rfl
theorem ent79 : ∀ (vs : Array Value) w, (callFunc 79 vs).run Tryd.prog w = .ok (.enter 79 vs) w := by intro vs w; kernel_rfl
theorem ent80 : ∀ (vs : Array Value) w, (callFunc 80 vs).run Tryd.prog w = .ok (.enter 80 vs) w := by intro vs w; kernel_rfl
theorem ent81 : ∀ (vs : Array Value) w, (callFunc 81 vs).run Tryd.prog w = .ok (.enter 81 vs) w := by intro vs w; kernel_rfl
theorem ent82 : ∀ (vs : Array Value) w, (callFunc 82 vs).run Tryd.prog w = .ok (.enter 82 vs) w := by intro vs w; kernel_rfl
theorem ent83 : ∀ (vs : Array Value) w, (callFunc 83 vs).run Tryd.prog w = .ok (.enter 83 vs) w := by intro vs w; kernel_rfl
theorem ent84 : ∀ (vs : Array Value) w, (callFunc 84 vs).run Tryd.prog w = .ok (.enter 84 vs) w := by intro vs w; kernel_rfl
theorem ent85 : ∀ (vs : Array Value) w, (callFunc 85 vs).run Tryd.prog w = .ok (.enter 85 vs) w := by intro vs w; kernel_rfl
theorem ent87 : ∀ (vs : Array Value) w, (callFunc 87 vs).run Tryd.prog w = .ok (.enter 87 vs) w := by intro vs w; kernel_rfl
theorem ent90 : ∀ (vs : Array Value) w, (callFunc 90 vs).run Tryd.prog w = .ok (.enter 90 vs) w := by intro vs w; kernel_rfl
theorem ent92 : ∀ (vs : Array Value) w, (callFunc 92 vs).run Tryd.prog w = .ok (.enter 92 vs) w := by intro vs w; kernel_rfl
theorem ent94 : ∀ (vs : Array Value) w, (callFunc 94 vs).run Tryd.prog w = .ok (.enter 94 vs) w := by intro vs w; kernel_rfl
theorem ent95 : ∀ (vs : Array Value) w, (callFunc 95 vs).run Tryd.prog w = .ok (.enter 95 vs) w := by intro vs w; kernel_rfl
theorem ent96 : ∀ (vs : Array Value) w, (callFunc 96 vs).run Tryd.prog w = .ok (.enter 96 vs) w := by intro vs w; kernel_rfl
theorem ent97 : ∀ (vs : Array Value) w, (callFunc 97 vs).run Tryd.prog w = .ok (.enter 97 vs) w := by intro vs w; kernel_rfl
theorem ent98 : ∀ (vs : Array Value) w, (callFunc 98 vs).run Tryd.prog w = .ok (.enter 98 vs) w := by intro vs w; kernel_rfl
theorem ent99 : ∀ (vs : Array Value) w, (callFunc 99 vs).run Tryd.prog w = .ok (.enter 99 vs) w := by intro vs w; kernel_rfl
theorem ent100 : ∀ (vs : Array Value) w, (callFunc 100 vs).run Tryd.prog w = .ok (.enter 100 vs) w := by intro vs w; kernel_rfl
theorem ent109 : ∀ (vs : Array Value) w, (callFunc 109 vs).run Tryd.prog w = .ok (.enter 109 vs) w := by intro vs w; kernel_rfl
theorem ent114 : ∀ (vs : Array Value) w, (callFunc 114 vs).run Tryd.prog w = .ok (.enter 114 vs) w := by intro vs w; kernel_rfl
theorem ent115 : ∀ (vs : Array Value) w, (callFunc 115 vs).run Tryd.prog w = .ok (.enter 115 vs) w := by intro vs w; kernel_rfl
theorem ent116 : ∀ (vs : Array Value) w, (callFunc 116 vs).run Tryd.prog w = .ok (.enter 116 vs) w := by intro vs w; kernel_rfl
theorem ent128 : ∀ (vs : Array Value) w, (callFunc 128 vs).run Tryd.prog w = .ok (.enter 128 vs) w := by intro vs w; kernel_rfl
theorem ent129 : ∀ (vs : Array Value) w, (callFunc 129 vs).run Tryd.prog w = .ok (.enter 129 vs) w := by intro vs w; kernel_rfl
theorem ent132 : ∀ (vs : Array Value) w, (callFunc 132 vs).run Tryd.prog w = .ok (.enter 132 vs) w := by intro vs w; kernel_rfl
theorem ent133 : ∀ (vs : Array Value) w, (callFunc 133 vs).run Tryd.prog w = .ok (.enter 133 vs) w := by intro vs w; kernel_rfl
theorem ent140 : ∀ (vs : Array Value) w, (callFunc 140 vs).run Tryd.prog w = .ok (.enter 140 vs) w := by intro vs w; kernel_rfl
theorem ent141 : ∀ (vs : Array Value) w, (callFunc 141 vs).run Tryd.prog w = .ok (.enter 141 vs) w := by intro vs w; kernel_rfl
theorem ext117 : ∀ (b : Nat) w, (callFunc 117 #[.float .f32 b]).run Tryd.prog w = .ok (.value (.int .u32 b)) w := by intro b w; kernel_rfl
theorem ext142 : ∀ (b : Nat) w, (callFunc 142 #[.int .u64 b]).run Tryd.prog w = .ok (.value (.float .f64 b)) w := by intro b w; kernel_rfl
theorem ext143 : ∀ (b : Nat) w, (callFunc 143 #[.float .f64 b]).run Tryd.prog w = .ok (.value (.int .u64 b)) w := by intro b w; kernel_rfl
theorem inf5 : Tryd.prog.info? 5 = some Tryd.t5 := by kernel_rfl
theorem inf9 : Tryd.prog.info? 9 = some Tryd.t9 := by kernel_rfl
theorem pun2 : Tryd.prog.underlying 2 = some (Go.TypeDesc.int Go.IntKind.i64) := by kernel_rfl
theorem pun3 : Tryd.prog.underlying 3 = some (Go.TypeDesc.int Go.IntKind.i64) := by kernel_rfl
theorem pun4 : Tryd.prog.underlying 4 = some Go.TypeDesc.bool := by kernel_rfl
theorem pun5 : Tryd.prog.underlying 5 = some (Go.TypeDesc.int Go.IntKind.u8) := by kernel_rfl
theorem pun9 : Tryd.prog.underlying 9 = some Go.TypeDesc.string := by kernel_rfl
theorem pun35 : Tryd.prog.underlying 35 = some (Go.TypeDesc.slice 9) := by kernel_rfl
theorem pun43 : Tryd.prog.underlying 43 = some (Go.TypeDesc.slice 115) := by kernel_rfl
theorem pun53 : Tryd.prog.underlying 53 = some (Go.TypeDesc.struct #[{ name := "Rows", type := 2, offset := 0, embedded := false, tag := "", pkgPath := "", byteOffset := 0 }, { name := "Columns", type := 2, offset := 1, embedded := false, tag := "", pkgPath := "", byteOffset := 8 }, { name := "Numbers", type := 43, offset := 2, embedded := false, tag := "", pkgPath := "", byteOffset := 16 }]) := by kernel_rfl
theorem pun75 : Tryd.prog.underlying 75 = some (Go.TypeDesc.slice 5) := by kernel_rfl
theorem pun115 : Tryd.prog.underlying 115 = some (Go.TypeDesc.float Go.FloatKind.f32) := by kernel_rfl
theorem pun121 : Tryd.prog.underlying 121 = some (Go.TypeDesc.float Go.FloatKind.f64) := by kernel_rfl
theorem pun137 : Tryd.prog.underlying 137 = some (Go.TypeDesc.int Go.IntKind.u64) := by kernel_rfl
theorem pun144 : Tryd.prog.underlying 144 = some (Go.TypeDesc.int Go.IntKind.u64) := by kernel_rfl
theorem pun147 : Tryd.prog.underlying 147 = some (Go.TypeDesc.int Go.IntKind.u32) := by kernel_rfl
theorem siz2 : ∀ w, (sizeOf 2).run Tryd.prog w = .ok 1 w := by intro w; kernel_rfl
theorem siz5 : ∀ w, (sizeOf 5).run Tryd.prog w = .ok 1 w := by intro w; kernel_rfl
theorem siz9 : ∀ w, (sizeOf 9).run Tryd.prog w = .ok 1 w := by intro w; kernel_rfl
theorem siz43 : ∀ w, (sizeOf 43).run Tryd.prog w = .ok 1 w := by intro w; kernel_rfl
theorem siz53 : ∀ w, (sizeOf 53).run Tryd.prog w = .ok 3 w := by intro w; kernel_rfl
theorem siz56 : ∀ w, (sizeOf 56).run Tryd.prog w = .ok 3 w := by intro w; kernel_rfl
theorem siz115 : ∀ w, (sizeOf 115).run Tryd.prog w = .ok 1 w := by intro w; kernel_rfl
theorem tin115 : ∀ w, (typeInfo 115).run Tryd.prog w = .ok Tryd.t115 w := by intro w; kernel_rfl
theorem und9 : ∀ w, (underlying 9).run Tryd.prog w = .ok Go.TypeDesc.string w := by intro w; kernel_rfl
theorem und25 : ∀ w, (underlying 25).run Tryd.prog w = .ok (Go.TypeDesc.slice 2) w := by intro w; kernel_rfl
theorem und35 : ∀ w, (underlying 35).run Tryd.prog w = .ok (Go.TypeDesc.slice 9) w := by intro w; kernel_rfl
theorem und43 : ∀ w, (underlying 43).run Tryd.prog w = .ok (Go.TypeDesc.slice 115) w := by intro w; kernel_rfl
theorem und53 : ∀ w, (underlying 53).run Tryd.prog w = .ok (Go.TypeDesc.struct #[{ name := "Rows", type := 2, offset := 0, embedded := false, tag := "", pkgPath := "", byteOffset := 0 }, { name := "Columns", type := 2, offset := 1, embedded := false, tag := "", pkgPath := "", byteOffset := 8 }, { name := "Numbers", type := 43, offset := 2, embedded := false, tag := "", pkgPath := "", byteOffset := 16 }]) w := by intro w; kernel_rfl
theorem und56 : ∀ w, (underlying 56).run Tryd.prog w = .ok (Go.TypeDesc.struct #[{ name := "Rows", type := 2, offset := 0, embedded := false, tag := "", pkgPath := "", byteOffset := 0 }, { name := "Columns", type := 2, offset := 1, embedded := false, tag := "", pkgPath := "", byteOffset := 8 }, { name := "Numbers", type := 43, offset := 2, embedded := false, tag := "", pkgPath := "", byteOffset := 16 }]) w := by intro w; kernel_rfl
theorem und75 : ∀ w, (underlying 75).run Tryd.prog w = .ok (Go.TypeDesc.slice 5) w := by intro w; kernel_rfl
theorem und157 : ∀ w, (underlying 157).run Tryd.prog w = .ok (Go.TypeDesc.array 65 5) w := by intro w; kernel_rfl
theorem und174 : ∀ w, (underlying 174).run Tryd.prog w = .ok (Go.TypeDesc.array 64 5) w := by intro w; kernel_rfl
theorem zel2 : ∀ S μ, V S μ (AV.i64 0) (Go.Value.int Go.IntKind.i64 0) := by intro S μ; exact (by simp only [V])
theorem zel5 : ∀ S μ, V S μ (AV.ik .u8 0) (Go.Value.int Go.IntKind.u8 0) := by intro S μ; exact (by simp only [V])
theorem zel9 : ∀ S μ, V S μ (AV.str lit_99ba06bc) (Go.Value.string { data := #[] }) := by intro S μ; exact (by simp only [V]; rfl)
theorem zel115 : ∀ S μ, V S μ (AV.f32 (some 0)) (Go.Value.float Go.FloatKind.f32 0) := by intro S μ; exact (ALe.fl (by kernel_rfl) (by kernel_rfl) S μ _ (by simp only [V]))
theorem zer2 : ∀ w, (zeroValue 2).run Tryd.prog w = .ok (Go.Value.int Go.IntKind.i64 0) w := by intro w; kernel_rfl
theorem zer5 : ∀ w, (zeroValue 5).run Tryd.prog w = .ok (Go.Value.int Go.IntKind.u8 0) w := by intro w; kernel_rfl
theorem zer9 : ∀ w, (zeroValue 9).run Tryd.prog w = .ok (Go.Value.string { data := #[] }) w := by intro w; kernel_rfl
theorem zer56 : ∀ w, (zeroValue 56).run Tryd.prog w = .ok (Go.Value.agg #[(Go.Value.int Go.IntKind.i64 0), (Go.Value.int Go.IntKind.i64 0), (Go.Value.slice none 0 0)]) w := by intro w; kernel_rfl
theorem zer115 : ∀ w, (zeroValue 115).run Tryd.prog w = .ok (Go.Value.float Go.FloatKind.f32 0) w := by intro w; kernel_rfl
theorem zer136 : ∀ w, (zeroValue 136).run Tryd.prog w = .ok (.agg (List.replicate 24 (Value.int .u8 0)).toArray) w := by intro w; kernel_rfl
theorem zer157 : ∀ w, (zeroValue 157).run Tryd.prog w = .ok (.agg (List.replicate 65 (Value.int .u8 0)).toArray) w := by intro w; kernel_rfl
theorem zok56 : ZeroOk [AV.i64 0, AV.i64 0, AV.nilsl] (Go.Value.agg #[(Go.Value.int Go.IntKind.i64 0), (Go.Value.int Go.IntKind.i64 0), (Go.Value.slice none 0 0)]) := by intro S μ; simp only [Value.cells, VL]; exact ⟨(by simp only [V]), (by simp only [V]), (by simp only [V]), trivial⟩
theorem zok136 : ZeroOk ((List.replicate 24 (0 : Int)).map (AV.ik .u8)) (.agg (List.replicate 24 (Value.int .u8 0)).toArray) := zok_arr
theorem zok157 : ZeroOk ((List.replicate 65 (0 : Int)).map (AV.ik .u8)) (.agg (List.replicate 65 (Value.int .u8 0)).toArray) := zok_arr
end Go.Proofs.YtddegdokdpeboaaDoor
