/- Facts on the program's types and functions. -/
import Derived.Test.YtjbifkimffmhpaaAm2
import Derived.Test.YtjbifkimffmhpaaChecked
namespace Go.Proofs.Ytjbifkimffmhpaa
open Go Go.AM
set_option maxRecDepth 20000
set_option maxHeartbeats 4000000
set_option linter.unusedVariables false
set_option linter.unusedSimpArgs false
theorem mixed : Try.prog.follows .mixedOrders = true := by kernel_rfl
theorem agg2 : ∀ w, (isAgg 2).run Try.prog w = .ok false w := by intro w; kernel_rfl
theorem agg22 : ∀ w, (isAgg 22).run Try.prog w = .ok false w := by intro w; kernel_rfl
theorem agg24 : ∀ w, (isAgg 24).run Try.prog w = .ok true w := by intro w; kernel_rfl
theorem agg25 : ∀ w, (isAgg 25).run Try.prog w = .ok false w := by intro w; kernel_rfl
theorem agg27 : ∀ w, (isAgg 27).run Try.prog w = .ok true w := by intro w; kernel_rfl
theorem ent9 : ∀ (vs : Array Value) w, (callFunc 9 vs).run Try.prog w = .ok (.enter 9 vs) w := by intro vs w; kernel_rfl
theorem ent11 : ∀ (vs : Array Value) w, (callFunc 11 vs).run Try.prog w = .ok (.enter 11 vs) w := by intro vs w; kernel_rfl
theorem ent13 : ∀ (vs : Array Value) w, (callFunc 13 vs).run Try.prog w = .ok (.enter 13 vs) w := by intro vs w; kernel_rfl
theorem ent15 : ∀ (vs : Array Value) w, (callFunc 15 vs).run Try.prog w = .ok (.enter 15 vs) w := by intro vs w; kernel_rfl
theorem ent21 : ∀ (vs : Array Value) w, (callFunc 21 vs).run Try.prog w = .ok (.enter 21 vs) w := by intro vs w; kernel_rfl
theorem ent22 : ∀ (vs : Array Value) w, (callFunc 22 vs).run Try.prog w = .ok (.enter 22 vs) w := by intro vs w; kernel_rfl
theorem ent23 : ∀ (vs : Array Value) w, (callFunc 23 vs).run Try.prog w = .ok (.enter 23 vs) w := by intro vs w; kernel_rfl
theorem ent24 : ∀ (vs : Array Value) w, (callFunc 24 vs).run Try.prog w = .ok (.enter 24 vs) w := by intro vs w; kernel_rfl
theorem ent25 : ∀ (vs : Array Value) w, (callFunc 25 vs).run Try.prog w = .ok (.enter 25 vs) w := by intro vs w; kernel_rfl
theorem ent26 : ∀ (vs : Array Value) w, (callFunc 26 vs).run Try.prog w = .ok (.enter 26 vs) w := by intro vs w; kernel_rfl
theorem ent36 : ∀ (vs : Array Value) w, (callFunc 36 vs).run Try.prog w = .ok (.enter 36 vs) w := by intro vs w; kernel_rfl
theorem ent37 : ∀ (vs : Array Value) w, (callFunc 37 vs).run Try.prog w = .ok (.enter 37 vs) w := by intro vs w; kernel_rfl
theorem ent39 : ∀ (vs : Array Value) w, (callFunc 39 vs).run Try.prog w = .ok (.enter 39 vs) w := by intro vs w; kernel_rfl
theorem ent40 : ∀ (vs : Array Value) w, (callFunc 40 vs).run Try.prog w = .ok (.enter 40 vs) w := by intro vs w; kernel_rfl
theorem ent43 : ∀ (vs : Array Value) w, (callFunc 43 vs).run Try.prog w = .ok (.enter 43 vs) w := by intro vs w; kernel_rfl
theorem ent44 : ∀ (vs : Array Value) w, (callFunc 44 vs).run Try.prog w = .ok (.enter 44 vs) w := by intro vs w; kernel_rfl
theorem ent45 : ∀ (vs : Array Value) w, (callFunc 45 vs).run Try.prog w = .ok (.enter 45 vs) w := by intro vs w; kernel_rfl
theorem ent46 : ∀ (vs : Array Value) w, (callFunc 46 vs).run Try.prog w = .ok (.enter 46 vs) w := by intro vs w; kernel_rfl
theorem ent47 : ∀ (vs : Array Value) w, (callFunc 47 vs).run Try.prog w = .ok (.enter 47 vs) w := by intro vs w; kernel_rfl
theorem ent48 : ∀ (vs : Array Value) w, (callFunc 48 vs).run Try.prog w = .ok (.enter 48 vs) w := by intro vs w; kernel_rfl
theorem ent49 : ∀ (vs : Array Value) w, (callFunc 49 vs).run Try.prog w = .ok (.enter 49 vs) w := by intro vs w; kernel_rfl
theorem ent51 : ∀ (vs : Array Value) w, (callFunc 51 vs).run Try.prog w = .ok (.enter 51 vs) w := by intro vs w; kernel_rfl
theorem ent52 : ∀ (vs : Array Value) w, (callFunc 52 vs).run Try.prog w = .ok (.enter 52 vs) w := by intro vs w; kernel_rfl
theorem ent53 : ∀ (vs : Array Value) w, (callFunc 53 vs).run Try.prog w = .ok (.enter 53 vs) w := by intro vs w; kernel_rfl
theorem ent54 : ∀ (vs : Array Value) w, (callFunc 54 vs).run Try.prog w = .ok (.enter 54 vs) w := by intro vs w; kernel_rfl
theorem ent55 : ∀ (vs : Array Value) w, (callFunc 55 vs).run Try.prog w = .ok (.enter 55 vs) w := by intro vs w; kernel_rfl
theorem ent58 : ∀ (vs : Array Value) w, (callFunc 58 vs).run Try.prog w = .ok (.enter 58 vs) w := by intro vs w; kernel_rfl
theorem ent59 : ∀ (vs : Array Value) w, (callFunc 59 vs).run Try.prog w = .ok (.enter 59 vs) w := by intro vs w; kernel_rfl
theorem ent60 : ∀ (vs : Array Value) w, (callFunc 60 vs).run Try.prog w = .ok (.enter 60 vs) w := by intro vs w; kernel_rfl
theorem ent62 : ∀ (vs : Array Value) w, (callFunc 62 vs).run Try.prog w = .ok (.enter 62 vs) w := by intro vs w; kernel_rfl
theorem ent63 : ∀ (vs : Array Value) w, (callFunc 63 vs).run Try.prog w = .ok (.enter 63 vs) w := by intro vs w; kernel_rfl
theorem ent64 : ∀ (vs : Array Value) w, (callFunc 64 vs).run Try.prog w = .ok (.enter 64 vs) w := by intro vs w; kernel_rfl
theorem ent65 : ∀ (vs : Array Value) w, (callFunc 65 vs).run Try.prog w = .ok (.enter 65 vs) w := by intro vs w; kernel_rfl
theorem ent66 : ∀ (vs : Array Value) w, (callFunc 66 vs).run Try.prog w = .ok (.enter 66 vs) w := by intro vs w; kernel_rfl
theorem ent67 : ∀ (vs : Array Value) w, (callFunc 67 vs).run Try.prog w = .ok (.enter 67 vs) w := by intro vs w; kernel_rfl
theorem ent83 : ∀ (vs : Array Value) w, (callFunc 83 vs).run Try.prog w = .ok (.enter 83 vs) w := by intro vs w; kernel_rfl
theorem ent84 : ∀ (vs : Array Value) w, (callFunc 84 vs).run Try.prog w = .ok (.enter 84 vs) w := by intro vs w; kernel_rfl
theorem ent87 : ∀ (vs : Array Value) w, (callFunc 87 vs).run Try.prog w = .ok (.enter 87 vs) w := by intro vs w; kernel_rfl
theorem ent88 : ∀ (vs : Array Value) w, (callFunc 88 vs).run Try.prog w = .ok (.enter 88 vs) w := by intro vs w; kernel_rfl
theorem ent89 : ∀ (vs : Array Value) w, (callFunc 89 vs).run Try.prog w = .ok (.enter 89 vs) w := by intro vs w; kernel_rfl
theorem ent90 : ∀ (vs : Array Value) w, (callFunc 90 vs).run Try.prog w = .ok (.enter 90 vs) w := by intro vs w; kernel_rfl
theorem ent91 : ∀ (vs : Array Value) w, (callFunc 91 vs).run Try.prog w = .ok (.enter 91 vs) w := by intro vs w; kernel_rfl
theorem ent92 : ∀ (vs : Array Value) w, (callFunc 92 vs).run Try.prog w = .ok (.enter 92 vs) w := by intro vs w; kernel_rfl
theorem ent93 : ∀ (vs : Array Value) w, (callFunc 93 vs).run Try.prog w = .ok (.enter 93 vs) w := by intro vs w; kernel_rfl
theorem ent95 : ∀ (vs : Array Value) w, (callFunc 95 vs).run Try.prog w = .ok (.enter 95 vs) w := by intro vs w; kernel_rfl
theorem ent97 : ∀ (vs : Array Value) w, (callFunc 97 vs).run Try.prog w = .ok (.enter 97 vs) w := by intro vs w; kernel_rfl
theorem ent98 : ∀ (vs : Array Value) w, (callFunc 98 vs).run Try.prog w = .ok (.enter 98 vs) w := by intro vs w; kernel_rfl
theorem ent99 : ∀ (vs : Array Value) w, (callFunc 99 vs).run Try.prog w = .ok (.enter 99 vs) w := by intro vs w; kernel_rfl
theorem ent100 : ∀ (vs : Array Value) w, (callFunc 100 vs).run Try.prog w = .ok (.enter 100 vs) w := by intro vs w; kernel_rfl
theorem ent101 : ∀ (vs : Array Value) w, (callFunc 101 vs).run Try.prog w = .ok (.enter 101 vs) w := by intro vs w; kernel_rfl
theorem ent102 : ∀ (vs : Array Value) w, (callFunc 102 vs).run Try.prog w = .ok (.enter 102 vs) w := by intro vs w; kernel_rfl
theorem ent103 : ∀ (vs : Array Value) w, (callFunc 103 vs).run Try.prog w = .ok (.enter 103 vs) w := by intro vs w; kernel_rfl
theorem ent104 : ∀ (vs : Array Value) w, (callFunc 104 vs).run Try.prog w = .ok (.enter 104 vs) w := by intro vs w; kernel_rfl
theorem ent110 : ∀ (vs : Array Value) w, (callFunc 110 vs).run Try.prog w = .ok (.enter 110 vs) w := by intro vs w; kernel_rfl
theorem ent112 : ∀ (vs : Array Value) w, (callFunc 112 vs).run Try.prog w = .ok (.enter 112 vs) w := by intro vs w; kernel_rfl
theorem ent113 : ∀ (vs : Array Value) w, (callFunc 113 vs).run Try.prog w = .ok (.enter 113 vs) w := by intro vs w; kernel_rfl
theorem ent114 : ∀ (vs : Array Value) w, (callFunc 114 vs).run Try.prog w = .ok (.enter 114 vs) w := by intro vs w; kernel_rfl
theorem ent115 : ∀ (vs : Array Value) w, (callFunc 115 vs).run Try.prog w = .ok (.enter 115 vs) w := by intro vs w; kernel_rfl
theorem ent120 : ∀ (vs : Array Value) w, (callFunc 120 vs).run Try.prog w = .ok (.enter 120 vs) w := by intro vs w; kernel_rfl
theorem ent121 : ∀ (vs : Array Value) w, (callFunc 121 vs).run Try.prog w = .ok (.enter 121 vs) w := by intro vs w; kernel_rfl
theorem ent122 : ∀ (vs : Array Value) w, (callFunc 122 vs).run Try.prog w = .ok (.enter 122 vs) w := by intro vs w; kernel_rfl
theorem ext116 : ∀ (b : Nat) w, (callFunc 116 #[.int .u64 b]).run Try.prog w = .ok (.value (.float .f64 b)) w := by intro b w; kernel_rfl
theorem ext117 : ∀ (b : Nat) w, (callFunc 117 #[.float .f64 b]).run Try.prog w = .ok (.value (.int .u64 b)) w := by intro b w; kernel_rfl
theorem inf25 : Try.prog.info? 25 = some Try.t25 := by kernel_rfl
theorem plc27 : ∀ w, ((#[{ name := "Rows", type := 2, offset := 0, embedded := false, tag := "", pkgPath := "", byteOffset := 0 }, { name := "Columns", type := 2, offset := 1, embedded := false, tag := "", pkgPath := "", byteOffset := 8 }, { name := "Numbers", type := 22, offset := 2, embedded := false, tag := "", pkgPath := "", byteOffset := 16 }] : Array Field).mapM fun f => Prod.mk f.offset <$> sizeOf f.type).run Try.prog w = .ok #[(0, 1), (1, 1), (2, 1)] w := by intro w; kernel_rfl
theorem pun2 : Try.prog.underlying 2 = some (Go.TypeDesc.int Go.IntKind.i64) := by kernel_rfl
theorem pun3 : Try.prog.underlying 3 = some (Go.TypeDesc.int Go.IntKind.i64) := by kernel_rfl
theorem pun4 : Try.prog.underlying 4 = some Go.TypeDesc.bool := by kernel_rfl
theorem pun22 : Try.prog.underlying 22 = some (Go.TypeDesc.slice 25) := by kernel_rfl
theorem pun24 : Try.prog.underlying 24 = some (Go.TypeDesc.struct #[{ name := "Rows", type := 2, offset := 0, embedded := false, tag := "", pkgPath := "", byteOffset := 0 }, { name := "Columns", type := 2, offset := 1, embedded := false, tag := "", pkgPath := "", byteOffset := 8 }, { name := "Numbers", type := 22, offset := 2, embedded := false, tag := "", pkgPath := "", byteOffset := 16 }]) := by kernel_rfl
theorem pun25 : Try.prog.underlying 25 = some (Go.TypeDesc.float Go.FloatKind.f32) := by kernel_rfl
theorem pun40 : Try.prog.underlying 40 = some (Go.TypeDesc.float Go.FloatKind.f64) := by kernel_rfl
theorem siz2 : ∀ w, (sizeOf 2).run Try.prog w = .ok 1 w := by intro w; kernel_rfl
theorem siz22 : ∀ w, (sizeOf 22).run Try.prog w = .ok 1 w := by intro w; kernel_rfl
theorem siz24 : ∀ w, (sizeOf 24).run Try.prog w = .ok 3 w := by intro w; kernel_rfl
theorem siz25 : ∀ w, (sizeOf 25).run Try.prog w = .ok 1 w := by intro w; kernel_rfl
theorem siz27 : ∀ w, (sizeOf 27).run Try.prog w = .ok 3 w := by intro w; kernel_rfl
theorem tin25 : ∀ w, (typeInfo 25).run Try.prog w = .ok Try.t25 w := by intro w; kernel_rfl
theorem und22 : ∀ w, (underlying 22).run Try.prog w = .ok (Go.TypeDesc.slice 25) w := by intro w; kernel_rfl
theorem und24 : ∀ w, (underlying 24).run Try.prog w = .ok (Go.TypeDesc.struct #[{ name := "Rows", type := 2, offset := 0, embedded := false, tag := "", pkgPath := "", byteOffset := 0 }, { name := "Columns", type := 2, offset := 1, embedded := false, tag := "", pkgPath := "", byteOffset := 8 }, { name := "Numbers", type := 22, offset := 2, embedded := false, tag := "", pkgPath := "", byteOffset := 16 }]) w := by intro w; kernel_rfl
theorem und27 : ∀ w, (underlying 27).run Try.prog w = .ok (Go.TypeDesc.struct #[{ name := "Rows", type := 2, offset := 0, embedded := false, tag := "", pkgPath := "", byteOffset := 0 }, { name := "Columns", type := 2, offset := 1, embedded := false, tag := "", pkgPath := "", byteOffset := 8 }, { name := "Numbers", type := 22, offset := 2, embedded := false, tag := "", pkgPath := "", byteOffset := 16 }]) w := by intro w; kernel_rfl
theorem zel25 : ∀ S μ, V S μ (AV.f32 (some 0)) (Go.Value.float Go.FloatKind.f32 0) := by intro S μ; exact (ALe.fl (by kernel_rfl) (by kernel_rfl) S μ _ (by simp only [V]))
theorem zer25 : ∀ w, (zeroValue 25).run Try.prog w = .ok (Go.Value.float Go.FloatKind.f32 0) w := by intro w; kernel_rfl
theorem zer27 : ∀ w, (zeroValue 27).run Try.prog w = .ok (Go.Value.agg #[(Go.Value.int Go.IntKind.i64 0), (Go.Value.int Go.IntKind.i64 0), (Go.Value.slice none 0 0)]) w := by intro w; kernel_rfl
theorem zok27 : ZeroOk [AV.i64 0, AV.i64 0, AV.nilsl] (Go.Value.agg #[(Go.Value.int Go.IntKind.i64 0), (Go.Value.int Go.IntKind.i64 0), (Go.Value.slice none 0 0)]) := by intro S μ; simp only [Value.cells, VL]; exact ⟨(by simp only [V]), (by simp only [V]), (by simp only [V]), trivial⟩
end Go.Proofs.Ytjbifkimffmhpaa
