/- Facts on the program's types and functions. -/
import Derived.Test.YtddegdokdpeboaaDoorAm2
import Derived.Test.YtddegdokdpeboaaDoorChecked
namespace Go.Proofs.YtddegdokdpeboaaDoor
open Go Go.AM
set_option maxRecDepth 20000
set_option maxHeartbeats 4000000
set_option linter.unusedVariables false
set_option linter.unusedSimpArgs false
def lit_2d360788 : ByteArray := { data := #[119, 104, 97, 116] }
def lit_7101a59a : ByteArray := { data := #[110, 111] }
def lit_99ba06bc : ByteArray := { data := #[] }
def lit_e4a5378b : ByteArray := { data := #[10] }
theorem mixed : Tryd.prog.follows .mixedOrders = true := by kernel_rfl
theorem agg9 : ∀ w, (isAgg 9).run Tryd.prog w = .ok false w := by intro w; kernel_rfl
theorem ent9 : ∀ (vs : Array Value) w, (callFunc 9 vs).run Tryd.prog w = .ok (.enter 9 vs) w := by intro vs w; kernel_rfl
theorem ent10 : ∀ (vs : Array Value) w, (callFunc 10 vs).run Tryd.prog w = .ok (.enter 10 vs) w := by intro vs w; kernel_rfl
theorem ent35 : ∀ (vs : Array Value) w, (callFunc 35 vs).run Tryd.prog w = .ok (.enter 35 vs) w := by intro vs w; kernel_rfl
theorem ent36 : ∀ (vs : Array Value) w, (callFunc 36 vs).run Tryd.prog w = .ok (.enter 36 vs) w := by intro vs w; kernel_rfl
theorem ent37 : ∀ (vs : Array Value) w, (callFunc 37 vs).run Tryd.prog w = .ok (.enter 37 vs) w := by intro vs w; kernel_rfl
theorem ent65 : ∀ (vs : Array Value) w, (callFunc 65 vs).run Tryd.prog w = .ok (.enter 65 vs) w := by intro vs w; kernel_rfl
theorem ent66 : ∀ (vs : Array Value) w, (callFunc 66 vs).run Tryd.prog w = .ok (.enter 66 vs) w := by intro vs w; kernel_rfl
theorem ent76 : ∀ (vs : Array Value) w, (callFunc 76 vs).run Tryd.prog w = .ok (.enter 76 vs) w := by intro vs w; kernel_rfl
theorem ent86 : ∀ (vs : Array Value) w, (callFunc 86 vs).run Tryd.prog w = .ok (.enter 86 vs) w := by intro vs w; kernel_rfl
theorem ent93 : ∀ (vs : Array Value) w, (callFunc 93 vs).run Tryd.prog w = .ok (.enter 93 vs) w := by intro vs w; kernel_rfl
theorem ent102 : ∀ (vs : Array Value) w, (callFunc 102 vs).run Tryd.prog w = .ok (.enter 102 vs) w := by intro vs w; kernel_rfl
theorem ent110 : ∀ (vs : Array Value) w, (callFunc 110 vs).run Tryd.prog w = .ok (.enter 110 vs) w := by intro vs w; kernel_rfl
theorem ext122 : ∀ (b : ByteArray) (i : Int) w, (callFunc 122 #[.string b, .int .u8 i]).run Tryd.prog w = (do pure (Next.value (← Extern.BytealgCount.count #[.string b, .int .u8 i])) : Sem Next).run Tryd.prog w := by intro b i w; kernel_rfl
theorem ext130 : ∀ (b : ByteArray) (i : Int) w, (callFunc 130 #[.string b, .int .u8 i]).run Tryd.prog w = (do pure (Next.value (← Extern.BytealgIndexByte.indexByte #[.string b, .int .u8 i])) : Sem Next).run Tryd.prog w := by intro b i w; kernel_rfl
theorem inf9 : Tryd.prog.info? 9 = some Tryd.t9 := by kernel_rfl
theorem pun4 : Tryd.prog.underlying 4 = some Go.TypeDesc.bool := by kernel_rfl
theorem pun9 : Tryd.prog.underlying 9 = some Go.TypeDesc.string := by kernel_rfl
theorem pun35 : Tryd.prog.underlying 35 = some (Go.TypeDesc.slice 9) := by kernel_rfl
theorem siz9 : ∀ w, (sizeOf 9).run Tryd.prog w = .ok 1 w := by intro w; kernel_rfl
theorem tin9 : ∀ w, (typeInfo 9).run Tryd.prog w = .ok Tryd.t9 w := by intro w; kernel_rfl
theorem und9 : ∀ w, (underlying 9).run Tryd.prog w = .ok Go.TypeDesc.string w := by intro w; kernel_rfl
theorem und35 : ∀ w, (underlying 35).run Tryd.prog w = .ok (Go.TypeDesc.slice 9) w := by intro w; kernel_rfl
theorem zel9 : ∀ S μ, V S μ (AV.str lit_99ba06bc) (Go.Value.string { data := #[] }) := by intro S μ; exact (by simp only [V]; rfl)
theorem zer9 : ∀ w, (zeroValue 9).run Tryd.prog w = .ok (Go.Value.string { data := #[] }) w := by intro w; kernel_rfl
end Go.Proofs.YtddegdokdpeboaaDoor
