/- Facts on the program's types and functions. -/
import Derived.Shelf.LaysM
import Derived.Shelf.Strconv.Itoa4
import Derived.Test.YtddegdokdpeboaaDoorAm2
import Derived.Test.YtddegdokdpeboaaDoorChecked
namespace Go.Proofs.YtddegdokdpeboaaDoor
open Go Go.AM
set_option maxRecDepth 20000
set_option maxHeartbeats 4000000
set_option linter.unusedVariables false
set_option linter.unusedSimpArgs false
def lit_23c9ab83 : ByteArray := { data := #[109] }
def lit_592437da : ByteArray := { data := #[32] }
def lit_7f3dfdf2 : ByteArray := { data := #[109, 48] }
def lit_99ba06bc : ByteArray := { data := #[] }
def lit_e4a5378b : ByteArray := { data := #[10] }
theorem mixed : Tryd.prog.follows .mixedOrders = true := by kernel_rfl
theorem agg9 : ∀ w, (isAgg 9).run Tryd.prog w = .ok false w := by intro w; kernel_rfl
theorem ent20 : ∀ (vs : Array Value) w, (callFunc 20 vs).run Tryd.prog w = .ok (.enter 20 vs) w := by intro vs w; kernel_rfl
theorem ent21 : ∀ (vs : Array Value) w, (callFunc 21 vs).run Tryd.prog w = .ok (.enter 21 vs) w := by intro vs w; kernel_rfl
theorem ent22 : ∀ (vs : Array Value) w, (callFunc 22 vs).run Tryd.prog w = .ok (.enter 22 vs) w := by intro vs w; kernel_rfl
theorem ent23 : ∀ (vs : Array Value) w, (callFunc 23 vs).run Tryd.prog w = .ok (.enter 23 vs) w := by intro vs w; kernel_rfl
theorem ent24 : ∀ (vs : Array Value) w, (callFunc 24 vs).run Tryd.prog w = .ok (.enter 24 vs) w := by intro vs w; kernel_rfl
theorem ent35 : ∀ (vs : Array Value) w, (callFunc 35 vs).run Tryd.prog w = .ok (.enter 35 vs) w := by intro vs w; kernel_rfl
theorem ent46 : ∀ (vs : Array Value) w, (callFunc 46 vs).run Tryd.prog w = .ok (.enter 46 vs) w := by intro vs w; kernel_rfl
theorem ent48 : ∀ (vs : Array Value) w, (callFunc 48 vs).run Tryd.prog w = .ok (.enter 48 vs) w := by intro vs w; kernel_rfl
theorem ent52 : ∀ (vs : Array Value) w, (callFunc 52 vs).run Tryd.prog w = .ok (.enter 52 vs) w := by intro vs w; kernel_rfl
theorem ent53 : ∀ (vs : Array Value) w, (callFunc 53 vs).run Tryd.prog w = .ok (.enter 53 vs) w := by intro vs w; kernel_rfl
theorem ent54 : ∀ (vs : Array Value) w, (callFunc 54 vs).run Tryd.prog w = .ok (.enter 54 vs) w := by intro vs w; kernel_rfl
theorem ent65 : ∀ (vs : Array Value) w, (callFunc 65 vs).run Tryd.prog w = .ok (.enter 65 vs) w := by intro vs w; kernel_rfl
theorem ent72 : ∀ (vs : Array Value) w, (callFunc 72 vs).run Tryd.prog w = .ok (.enter 72 vs) w := by intro vs w; kernel_rfl
theorem ent73 : ∀ (vs : Array Value) w, (callFunc 73 vs).run Tryd.prog w = .ok (.enter 73 vs) w := by intro vs w; kernel_rfl
theorem ent75 : ∀ (vs : Array Value) w, (callFunc 75 vs).run Tryd.prog w = .ok (.enter 75 vs) w := by intro vs w; kernel_rfl
theorem ent77 : ∀ (vs : Array Value) w, (callFunc 77 vs).run Tryd.prog w = .ok (.enter 77 vs) w := by intro vs w; kernel_rfl
theorem ent93 : ∀ (vs : Array Value) w, (callFunc 93 vs).run Tryd.prog w = .ok (.enter 93 vs) w := by intro vs w; kernel_rfl
theorem ent110 : ∀ (vs : Array Value) w, (callFunc 110 vs).run Tryd.prog w = .ok (.enter 110 vs) w := by intro vs w; kernel_rfl
theorem ext130 : ∀ (b : ByteArray) (i : Int) w, (callFunc 130 #[.string b, .int .u8 i]).run Tryd.prog w = (do pure (Next.value (← Extern.BytealgIndexByte.indexByte #[.string b, .int .u8 i])) : Sem Next).run Tryd.prog w := by intro b i w; kernel_rfl
theorem inf5 : Tryd.prog.info? 5 = some Tryd.t5 := by kernel_rfl
theorem inf9 : Tryd.prog.info? 9 = some Tryd.t9 := by kernel_rfl
theorem pun2 : Tryd.prog.underlying 2 = some (Go.TypeDesc.int Go.IntKind.i64) := by kernel_rfl
theorem pun3 : Tryd.prog.underlying 3 = some (Go.TypeDesc.int Go.IntKind.i64) := by kernel_rfl
theorem pun4 : Tryd.prog.underlying 4 = some Go.TypeDesc.bool := by kernel_rfl
theorem pun5 : Tryd.prog.underlying 5 = some (Go.TypeDesc.int Go.IntKind.u8) := by kernel_rfl
theorem pun9 : Tryd.prog.underlying 9 = some Go.TypeDesc.string := by kernel_rfl
theorem pun35 : Tryd.prog.underlying 35 = some (Go.TypeDesc.slice 9) := by kernel_rfl
theorem pun75 : Tryd.prog.underlying 75 = some (Go.TypeDesc.slice 5) := by kernel_rfl
theorem siz5 : ∀ w, (sizeOf 5).run Tryd.prog w = .ok 1 w := by intro w; kernel_rfl
theorem siz9 : ∀ w, (sizeOf 9).run Tryd.prog w = .ok 1 w := by intro w; kernel_rfl
theorem und9 : ∀ w, (underlying 9).run Tryd.prog w = .ok Go.TypeDesc.string w := by intro w; kernel_rfl
theorem und35 : ∀ w, (underlying 35).run Tryd.prog w = .ok (Go.TypeDesc.slice 9) w := by intro w; kernel_rfl
theorem und75 : ∀ w, (underlying 75).run Tryd.prog w = .ok (Go.TypeDesc.slice 5) w := by intro w; kernel_rfl
theorem zel5 : ∀ S μ, V S μ (AV.ik .u8 0) (Go.Value.int Go.IntKind.u8 0) := by intro S μ; exact (by simp only [V])
theorem zel9 : ∀ S μ, V S μ (AV.str lit_99ba06bc) (Go.Value.string { data := #[] }) := by intro S μ; exact (by simp only [V]; rfl)
theorem zer5 : ∀ w, (zeroValue 5).run Tryd.prog w = .ok (Go.Value.int Go.IntKind.u8 0) w := by intro w; kernel_rfl
theorem zer9 : ∀ w, (zeroValue 9).run Tryd.prog w = .ok (Go.Value.string { data := #[] }) w := by intro w; kernel_rfl
end Go.Proofs.YtddegdokdpeboaaDoor
