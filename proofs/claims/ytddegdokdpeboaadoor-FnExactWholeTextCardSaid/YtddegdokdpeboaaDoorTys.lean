/- Facts on the program's types and functions. -/
import Derived.Shelf.LaysM
import Derived.Shelf.Strconv.Itoa4
import Derived.Shelf.Strings.OnBuilder
import Derived.Test.YtddegdokdpeboaaDoorAm2
import Derived.Test.YtddegdokdpeboaaDoorChecked
namespace Go.Proofs.YtddegdokdpeboaaDoor
open Go Go.AM
set_option maxRecDepth 20000
set_option maxHeartbeats 4000000
set_option linter.unusedVariables false
set_option linter.unusedSimpArgs false
def lit_5ac87db9 : ByteArray := { data := #[110, 111, 110, 101] }
def lit_99ba06bc : ByteArray := { data := #[] }
def lit_b7340269 : ByteArray := { data := #[59] }
def lit_be717853 : ByteArray := { data := #[44] }
theorem mixed : Tryd.prog.follows .mixedOrders = true := by kernel_rfl
theorem agg2 : ∀ w, (isAgg 2).run Tryd.prog w = .ok false w := by intro w; kernel_rfl
theorem agg25 : ∀ w, (isAgg 25).run Tryd.prog w = .ok false w := by intro w; kernel_rfl
theorem agg27 : ∀ w, (isAgg 27).run Tryd.prog w = .ok true w := by intro w; kernel_rfl
theorem agg31 : ∀ w, (isAgg 31).run Tryd.prog w = .ok true w := by intro w; kernel_rfl
theorem ent11 : ∀ (vs : Array Value) w, (callFunc 11 vs).run Tryd.prog w = .ok (.enter 11 vs) w := by intro vs w; kernel_rfl
theorem ent12 : ∀ (vs : Array Value) w, (callFunc 12 vs).run Tryd.prog w = .ok (.enter 12 vs) w := by intro vs w; kernel_rfl
theorem ent13 : ∀ (vs : Array Value) w, (callFunc 13 vs).run Tryd.prog w = .ok (.enter 13 vs) w := by intro vs w; kernel_rfl
theorem ent14 : ∀ (vs : Array Value) w, (callFunc 14 vs).run Tryd.prog w = .ok (.enter 14 vs) w := by intro vs w; kernel_rfl
theorem ent15 : ∀ (vs : Array Value) w, (callFunc 15 vs).run Tryd.prog w = .ok (.enter 15 vs) w := by intro vs w; kernel_rfl
theorem ent38 : ∀ (vs : Array Value) w, (callFunc 38 vs).run Tryd.prog w = .ok (.enter 38 vs) w := by intro vs w; kernel_rfl
theorem ent39 : ∀ (vs : Array Value) w, (callFunc 39 vs).run Tryd.prog w = .ok (.enter 39 vs) w := by intro vs w; kernel_rfl
theorem ent40 : ∀ (vs : Array Value) w, (callFunc 40 vs).run Tryd.prog w = .ok (.enter 40 vs) w := by intro vs w; kernel_rfl
theorem ent41 : ∀ (vs : Array Value) w, (callFunc 41 vs).run Tryd.prog w = .ok (.enter 41 vs) w := by intro vs w; kernel_rfl
theorem ent42 : ∀ (vs : Array Value) w, (callFunc 42 vs).run Tryd.prog w = .ok (.enter 42 vs) w := by intro vs w; kernel_rfl
theorem ent43 : ∀ (vs : Array Value) w, (callFunc 43 vs).run Tryd.prog w = .ok (.enter 43 vs) w := by intro vs w; kernel_rfl
theorem ent44 : ∀ (vs : Array Value) w, (callFunc 44 vs).run Tryd.prog w = .ok (.enter 44 vs) w := by intro vs w; kernel_rfl
theorem ent48 : ∀ (vs : Array Value) w, (callFunc 48 vs).run Tryd.prog w = .ok (.enter 48 vs) w := by intro vs w; kernel_rfl
theorem ent67 : ∀ (vs : Array Value) w, (callFunc 67 vs).run Tryd.prog w = .ok (.enter 67 vs) w := by intro vs w; kernel_rfl
theorem ent68 : ∀ (vs : Array Value) w, (callFunc 68 vs).run Tryd.prog w = .ok (.enter 68 vs) w := by intro vs w; kernel_rfl
theorem ent69 : ∀ (vs : Array Value) w, (callFunc 69 vs).run Tryd.prog w = .ok (.enter 69 vs) w := by intro vs w; kernel_rfl
theorem ent70 : ∀ (vs : Array Value) w, (callFunc 70 vs).run Tryd.prog w = .ok (.enter 70 vs) w := by intro vs w; kernel_rfl
theorem ent71 : ∀ (vs : Array Value) w, (callFunc 71 vs).run Tryd.prog w = .ok (.enter 71 vs) w := by intro vs w; kernel_rfl
theorem ent73 : ∀ (vs : Array Value) w, (callFunc 73 vs).run Tryd.prog w = .ok (.enter 73 vs) w := by intro vs w; kernel_rfl
theorem ent75 : ∀ (vs : Array Value) w, (callFunc 75 vs).run Tryd.prog w = .ok (.enter 75 vs) w := by intro vs w; kernel_rfl
theorem ent87 : ∀ (vs : Array Value) w, (callFunc 87 vs).run Tryd.prog w = .ok (.enter 87 vs) w := by intro vs w; kernel_rfl
theorem ent88 : ∀ (vs : Array Value) w, (callFunc 88 vs).run Tryd.prog w = .ok (.enter 88 vs) w := by intro vs w; kernel_rfl
theorem ent89 : ∀ (vs : Array Value) w, (callFunc 89 vs).run Tryd.prog w = .ok (.enter 89 vs) w := by intro vs w; kernel_rfl
theorem ent90 : ∀ (vs : Array Value) w, (callFunc 90 vs).run Tryd.prog w = .ok (.enter 90 vs) w := by intro vs w; kernel_rfl
theorem ent103 : ∀ (vs : Array Value) w, (callFunc 103 vs).run Tryd.prog w = .ok (.enter 103 vs) w := by intro vs w; kernel_rfl
theorem ent104 : ∀ (vs : Array Value) w, (callFunc 104 vs).run Tryd.prog w = .ok (.enter 104 vs) w := by intro vs w; kernel_rfl
theorem ent123 : ∀ (vs : Array Value) w, (callFunc 123 vs).run Tryd.prog w = .ok (.enter 123 vs) w := by intro vs w; kernel_rfl
theorem inf5 : Tryd.prog.info? 5 = some Tryd.t5 := by kernel_rfl
theorem inf9 : Tryd.prog.info? 9 = some Tryd.t9 := by kernel_rfl
theorem pun2 : Tryd.prog.underlying 2 = some (Go.TypeDesc.int Go.IntKind.i64) := by kernel_rfl
theorem pun4 : Tryd.prog.underlying 4 = some Go.TypeDesc.bool := by kernel_rfl
theorem pun5 : Tryd.prog.underlying 5 = some (Go.TypeDesc.int Go.IntKind.u8) := by kernel_rfl
theorem pun9 : Tryd.prog.underlying 9 = some Go.TypeDesc.string := by kernel_rfl
theorem pun25 : Tryd.prog.underlying 25 = some (Go.TypeDesc.slice 2) := by kernel_rfl
theorem pun27 : Tryd.prog.underlying 27 = some (Go.TypeDesc.struct #[{ name := "Rows", type := 2, offset := 0, embedded := false, tag := "", pkgPath := "", byteOffset := 0 }, { name := "Columns", type := 2, offset := 1, embedded := false, tag := "", pkgPath := "", byteOffset := 8 }, { name := "Numbers", type := 25, offset := 2, embedded := false, tag := "", pkgPath := "", byteOffset := 16 }]) := by kernel_rfl
theorem pun35 : Tryd.prog.underlying 35 = some (Go.TypeDesc.slice 9) := by kernel_rfl
theorem pun75 : Tryd.prog.underlying 75 = some (Go.TypeDesc.slice 5) := by kernel_rfl
theorem siz2 : ∀ w, (sizeOf 2).run Tryd.prog w = .ok 1 w := by intro w; kernel_rfl
theorem siz5 : ∀ w, (sizeOf 5).run Tryd.prog w = .ok 1 w := by intro w; kernel_rfl
theorem siz9 : ∀ w, (sizeOf 9).run Tryd.prog w = .ok 1 w := by intro w; kernel_rfl
theorem siz25 : ∀ w, (sizeOf 25).run Tryd.prog w = .ok 1 w := by intro w; kernel_rfl
theorem siz27 : ∀ w, (sizeOf 27).run Tryd.prog w = .ok 3 w := by intro w; kernel_rfl
theorem siz31 : ∀ w, (sizeOf 31).run Tryd.prog w = .ok 3 w := by intro w; kernel_rfl
theorem tin2 : ∀ w, (typeInfo 2).run Tryd.prog w = .ok Tryd.t2 w := by intro w; kernel_rfl
theorem und25 : ∀ w, (underlying 25).run Tryd.prog w = .ok (Go.TypeDesc.slice 2) w := by intro w; kernel_rfl
theorem und27 : ∀ w, (underlying 27).run Tryd.prog w = .ok (Go.TypeDesc.struct #[{ name := "Rows", type := 2, offset := 0, embedded := false, tag := "", pkgPath := "", byteOffset := 0 }, { name := "Columns", type := 2, offset := 1, embedded := false, tag := "", pkgPath := "", byteOffset := 8 }, { name := "Numbers", type := 25, offset := 2, embedded := false, tag := "", pkgPath := "", byteOffset := 16 }]) w := by intro w; kernel_rfl
theorem und31 : ∀ w, (underlying 31).run Tryd.prog w = .ok (Go.TypeDesc.struct #[{ name := "Rows", type := 2, offset := 0, embedded := false, tag := "", pkgPath := "", byteOffset := 0 }, { name := "Columns", type := 2, offset := 1, embedded := false, tag := "", pkgPath := "", byteOffset := 8 }, { name := "Numbers", type := 25, offset := 2, embedded := false, tag := "", pkgPath := "", byteOffset := 16 }]) w := by intro w; kernel_rfl
theorem und35 : ∀ w, (underlying 35).run Tryd.prog w = .ok (Go.TypeDesc.slice 9) w := by intro w; kernel_rfl
theorem und75 : ∀ w, (underlying 75).run Tryd.prog w = .ok (Go.TypeDesc.slice 5) w := by intro w; kernel_rfl
theorem zel2 : ∀ S μ, V S μ (AV.i64 0) (Go.Value.int Go.IntKind.i64 0) := by intro S μ; exact (by simp only [V])
theorem zel5 : ∀ S μ, V S μ (AV.ik .u8 0) (Go.Value.int Go.IntKind.u8 0) := by intro S μ; exact (by simp only [V])
theorem zel9 : ∀ S μ, V S μ (AV.str lit_99ba06bc) (Go.Value.string { data := #[] }) := by intro S μ; exact (by simp only [V]; rfl)
theorem zer2 : ∀ w, (zeroValue 2).run Tryd.prog w = .ok (Go.Value.int Go.IntKind.i64 0) w := by intro w; kernel_rfl
theorem zer5 : ∀ w, (zeroValue 5).run Tryd.prog w = .ok (Go.Value.int Go.IntKind.u8 0) w := by intro w; kernel_rfl
theorem zer9 : ∀ w, (zeroValue 9).run Tryd.prog w = .ok (Go.Value.string { data := #[] }) w := by intro w; kernel_rfl
theorem zer31 : ∀ w, (zeroValue 31).run Tryd.prog w = .ok (Go.Value.agg #[(Go.Value.int Go.IntKind.i64 0), (Go.Value.int Go.IntKind.i64 0), (Go.Value.slice none 0 0)]) w := by intro w; kernel_rfl
theorem zok31 : ZeroOk [AV.i64 0, AV.i64 0, AV.nilsl] (Go.Value.agg #[(Go.Value.int Go.IntKind.i64 0), (Go.Value.int Go.IntKind.i64 0), (Go.Value.slice none 0 0)]) := by intro S μ; simp only [Value.cells, VL]; exact ⟨(by simp only [V]), (by simp only [V]), (by simp only [V]), trivial⟩
end Go.Proofs.YtddegdokdpeboaaDoor
