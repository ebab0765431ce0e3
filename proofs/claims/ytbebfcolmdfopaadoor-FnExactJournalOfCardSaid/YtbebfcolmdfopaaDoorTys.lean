/- Facts on the program's types and functions. -/
import Derived.Shelf.LaysM
import Derived.Shelf.Strconv.Itoa4
import Derived.Shelf.Strings.BuilderK
import Derived.WalkKit
import Derived.BigCall
import Derived.Test.YtbebfcolmdfopaaDoorAm2
import Derived.Test.YtbebfcolmdfopaaDoorChecked
namespace Go.Proofs.YtbebfcolmdfopaaDoor
open Go Go.AM
set_option maxRecDepth 20000
set_option maxHeartbeats 4000000
set_option linter.unusedVariables false
set_option linter.unusedSimpArgs false
def lit_592437da : ByteArray := { data := #[32] }
def lit_99ba06bc : ByteArray := { data := #[] }
def lit_e4a5378b : ByteArray := { data := #[10] }
theorem mixed : Tryd.prog.follows .mixedOrders = true := by kernel_rfl
theorem agg9 : ∀ w, (isAgg 9).run Tryd.prog w = .ok false w := by intro w; kernel_rfl
theorem ent4 : ∀ (vs : Array Value) w, (callFunc 4 vs).run Tryd.prog w = .ok (.enter 4 vs) w := by intro vs w; kernel_rfl
theorem ent5 : ∀ (vs : Array Value) w, (callFunc 5 vs).run Tryd.prog w = .ok (.enter 5 vs) w := by intro vs w; kernel_rfl
theorem ent6 : ∀ (vs : Array Value) w, (callFunc 6 vs).run Tryd.prog w = .ok (.enter 6 vs) w := by intro vs w; kernel_rfl
theorem ent7 : ∀ (vs : Array Value) w, (callFunc 7 vs).run Tryd.prog w = .ok (.enter 7 vs) w := by intro vs w; kernel_rfl
theorem ent8 : ∀ (vs : Array Value) w, (callFunc 8 vs).run Tryd.prog w = .ok (.enter 8 vs) w := by intro vs w; kernel_rfl
theorem ent9 : ∀ (vs : Array Value) w, (callFunc 9 vs).run Tryd.prog w = .ok (.enter 9 vs) w := by intro vs w; kernel_rfl
theorem ent16 : ∀ (vs : Array Value) w, (callFunc 16 vs).run Tryd.prog w = .ok (.enter 16 vs) w := by intro vs w; kernel_rfl
theorem ent17 : ∀ (vs : Array Value) w, (callFunc 17 vs).run Tryd.prog w = .ok (.enter 17 vs) w := by intro vs w; kernel_rfl
theorem ent19 : ∀ (vs : Array Value) w, (callFunc 19 vs).run Tryd.prog w = .ok (.enter 19 vs) w := by intro vs w; kernel_rfl
theorem ent20 : ∀ (vs : Array Value) w, (callFunc 20 vs).run Tryd.prog w = .ok (.enter 20 vs) w := by intro vs w; kernel_rfl
theorem ent23 : ∀ (vs : Array Value) w, (callFunc 23 vs).run Tryd.prog w = .ok (.enter 23 vs) w := by intro vs w; kernel_rfl
theorem ent28 : ∀ (vs : Array Value) w, (callFunc 28 vs).run Tryd.prog w = .ok (.enter 28 vs) w := by intro vs w; kernel_rfl
theorem ext37 : ∀ (b : ByteArray) (i : Int) w, (callFunc 37 #[.string b, .int .u8 i]).run Tryd.prog w = (do pure (Next.value (← Extern.BytealgIndexByte.indexByte #[.string b, .int .u8 i])) : Sem Next).run Tryd.prog w := by intro b i w; kernel_rfl
theorem inf5 : Tryd.prog.info? 5 = some Tryd.t5 := by kernel_rfl
theorem pun2 : Tryd.prog.underlying 2 = some (Go.TypeDesc.int Go.IntKind.i64) := by kernel_rfl
theorem pun4 : Tryd.prog.underlying 4 = some Go.TypeDesc.bool := by kernel_rfl
theorem pun5 : Tryd.prog.underlying 5 = some (Go.TypeDesc.int Go.IntKind.u8) := by kernel_rfl
theorem pun9 : Tryd.prog.underlying 9 = some Go.TypeDesc.string := by kernel_rfl
theorem pun22 : Tryd.prog.underlying 22 = some (Go.TypeDesc.slice 9) := by kernel_rfl
theorem pun31 : Tryd.prog.underlying 31 = some (Go.TypeDesc.slice 5) := by kernel_rfl
theorem siz5 : ∀ w, (sizeOf 5).run Tryd.prog w = .ok 1 w := by intro w; kernel_rfl
theorem siz9 : ∀ w, (sizeOf 9).run Tryd.prog w = .ok 1 w := by intro w; kernel_rfl
theorem tin9 : ∀ w, (typeInfo 9).run Tryd.prog w = .ok Tryd.t9 w := by intro w; kernel_rfl
theorem und9 : ∀ w, (underlying 9).run Tryd.prog w = .ok Go.TypeDesc.string w := by intro w; kernel_rfl
theorem und22 : ∀ w, (underlying 22).run Tryd.prog w = .ok (Go.TypeDesc.slice 9) w := by intro w; kernel_rfl
theorem und31 : ∀ w, (underlying 31).run Tryd.prog w = .ok (Go.TypeDesc.slice 5) w := by intro w; kernel_rfl
theorem zel5 : ∀ S μ, V S μ (AV.ik .u8 0) (Go.Value.int Go.IntKind.u8 0) := by intro S μ; exact (by simp only [V])
theorem zel9 : ∀ S μ, V S μ (AV.str lit_99ba06bc) (Go.Value.string { data := #[] }) := by intro S μ; exact (by simp only [V]; rfl)
theorem zer5 : ∀ w, (zeroValue 5).run Tryd.prog w = .ok (Go.Value.int Go.IntKind.u8 0) w := by intro w; kernel_rfl
theorem zer9 : ∀ w, (zeroValue 9).run Tryd.prog w = .ok (Go.Value.string { data := #[] }) w := by intro w; kernel_rfl
end Go.Proofs.YtbebfcolmdfopaaDoor
