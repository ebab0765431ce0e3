/- Facts on the program's types and functions. -/
import Derived.Test.YtcjbfpoaidjpaaaAm1
import Derived.Test.YtcjbfpoaidjpaaaChecked
namespace Go.Proofs.Ytcjbfpoaidjpaaa
open Go Go.AM
set_option maxRecDepth 20000
set_option maxHeartbeats 4000000
set_option linter.unusedVariables false
set_option linter.unusedSimpArgs false
theorem mixed : Try.prog.follows .mixedOrders = true := by kernel_rfl
theorem agg2 : ∀ w, (isAgg 2).run Try.prog w = .ok false w := by intro w; kernel_rfl
theorem agg3 : ∀ w, (isAgg 3).run Try.prog w = .ok false w := by intro w; kernel_rfl
theorem agg5 : ∀ w, (isAgg 5).run Try.prog w = .ok false w := by intro w; kernel_rfl
theorem agg22 : ∀ w, (isAgg 22).run Try.prog w = .ok false w := by intro w; kernel_rfl
theorem agg24 : ∀ w, (isAgg 24).run Try.prog w = .ok false w := by intro w; kernel_rfl
theorem agg26 : ∀ w, (isAgg 26).run Try.prog w = .ok true w := by intro w; kernel_rfl
theorem agg36 : ∀ w, (isAgg 36).run Try.prog w = .ok false w := by intro w; kernel_rfl
theorem agg129 : ∀ w, (isAgg 129).run Try.prog w = .ok false w := by intro w; kernel_rfl
theorem ent7 : ∀ (vs : Array Value) w, (callFunc 7 vs).run Try.prog w = .ok (.enter 7 vs) w := by intro vs w; kernel_rfl
theorem ent8 : ∀ (vs : Array Value) w, (callFunc 8 vs).run Try.prog w = .ok (.enter 8 vs) w := by intro vs w; kernel_rfl
theorem ent9 : ∀ (vs : Array Value) w, (callFunc 9 vs).run Try.prog w = .ok (.enter 9 vs) w := by intro vs w; kernel_rfl
theorem ent10 : ∀ (vs : Array Value) w, (callFunc 10 vs).run Try.prog w = .ok (.enter 10 vs) w := by intro vs w; kernel_rfl
theorem ent11 : ∀ (vs : Array Value) w, (callFunc 11 vs).run Try.prog w = .ok (.enter 11 vs) w := by intro vs w; kernel_rfl
theorem ent12 : ∀ (vs : Array Value) w, (callFunc 12 vs).run Try.prog w = .ok (.enter 12 vs) w := by intro vs w; kernel_rfl
theorem ent13 : ∀ (vs : Array Value) w, (callFunc 13 vs).run Try.prog w = .ok (.enter 13 vs) w := by intro vs w; kernel_rfl
theorem ent14 : ∀ (vs : Array Value) w, (callFunc 14 vs).run Try.prog w = .ok (.enter 14 vs) w := by intro vs w; kernel_rfl
theorem ent15 : ∀ (vs : Array Value) w, (callFunc 15 vs).run Try.prog w = .ok (.enter 15 vs) w := by intro vs w; kernel_rfl
theorem ent16 : ∀ (vs : Array Value) w, (callFunc 16 vs).run Try.prog w = .ok (.enter 16 vs) w := by intro vs w; kernel_rfl
theorem ent17 : ∀ (vs : Array Value) w, (callFunc 17 vs).run Try.prog w = .ok (.enter 17 vs) w := by intro vs w; kernel_rfl
theorem ent18 : ∀ (vs : Array Value) w, (callFunc 18 vs).run Try.prog w = .ok (.enter 18 vs) w := by intro vs w; kernel_rfl
theorem ent19 : ∀ (vs : Array Value) w, (callFunc 19 vs).run Try.prog w = .ok (.enter 19 vs) w := by intro vs w; kernel_rfl
theorem ent20 : ∀ (vs : Array Value) w, (callFunc 20 vs).run Try.prog w = .ok (.enter 20 vs) w := by intro vs w; kernel_rfl
theorem ent21 : ∀ (vs : Array Value) w, (callFunc 21 vs).run Try.prog w = .ok (.enter 21 vs) w := by intro vs w; kernel_rfl
theorem ent53 : ∀ (vs : Array Value) w, (callFunc 53 vs).run Try.prog w = .ok (.enter 53 vs) w := by intro vs w; kernel_rfl
theorem ent54 : ∀ (vs : Array Value) w, (callFunc 54 vs).run Try.prog w = .ok (.enter 54 vs) w := by intro vs w; kernel_rfl
theorem ent55 : ∀ (vs : Array Value) w, (callFunc 55 vs).run Try.prog w = .ok (.enter 55 vs) w := by intro vs w; kernel_rfl
theorem ent56 : ∀ (vs : Array Value) w, (callFunc 56 vs).run Try.prog w = .ok (.enter 56 vs) w := by intro vs w; kernel_rfl
theorem ent57 : ∀ (vs : Array Value) w, (callFunc 57 vs).run Try.prog w = .ok (.enter 57 vs) w := by intro vs w; kernel_rfl
theorem ent58 : ∀ (vs : Array Value) w, (callFunc 58 vs).run Try.prog w = .ok (.enter 58 vs) w := by intro vs w; kernel_rfl
theorem ent59 : ∀ (vs : Array Value) w, (callFunc 59 vs).run Try.prog w = .ok (.enter 59 vs) w := by intro vs w; kernel_rfl
theorem ent60 : ∀ (vs : Array Value) w, (callFunc 60 vs).run Try.prog w = .ok (.enter 60 vs) w := by intro vs w; kernel_rfl
theorem ent61 : ∀ (vs : Array Value) w, (callFunc 61 vs).run Try.prog w = .ok (.enter 61 vs) w := by intro vs w; kernel_rfl
theorem ent62 : ∀ (vs : Array Value) w, (callFunc 62 vs).run Try.prog w = .ok (.enter 62 vs) w := by intro vs w; kernel_rfl
theorem ent63 : ∀ (vs : Array Value) w, (callFunc 63 vs).run Try.prog w = .ok (.enter 63 vs) w := by intro vs w; kernel_rfl
theorem ent64 : ∀ (vs : Array Value) w, (callFunc 64 vs).run Try.prog w = .ok (.enter 64 vs) w := by intro vs w; kernel_rfl
theorem ent65 : ∀ (vs : Array Value) w, (callFunc 65 vs).run Try.prog w = .ok (.enter 65 vs) w := by intro vs w; kernel_rfl
theorem ent66 : ∀ (vs : Array Value) w, (callFunc 66 vs).run Try.prog w = .ok (.enter 66 vs) w := by intro vs w; kernel_rfl
theorem ent67 : ∀ (vs : Array Value) w, (callFunc 67 vs).run Try.prog w = .ok (.enter 67 vs) w := by intro vs w; kernel_rfl
theorem ent68 : ∀ (vs : Array Value) w, (callFunc 68 vs).run Try.prog w = .ok (.enter 68 vs) w := by intro vs w; kernel_rfl
theorem ent69 : ∀ (vs : Array Value) w, (callFunc 69 vs).run Try.prog w = .ok (.enter 69 vs) w := by intro vs w; kernel_rfl
theorem ent70 : ∀ (vs : Array Value) w, (callFunc 70 vs).run Try.prog w = .ok (.enter 70 vs) w := by intro vs w; kernel_rfl
theorem ent71 : ∀ (vs : Array Value) w, (callFunc 71 vs).run Try.prog w = .ok (.enter 71 vs) w := by intro vs w; kernel_rfl
theorem ent72 : ∀ (vs : Array Value) w, (callFunc 72 vs).run Try.prog w = .ok (.enter 72 vs) w := by intro vs w; kernel_rfl
theorem ent73 : ∀ (vs : Array Value) w, (callFunc 73 vs).run Try.prog w = .ok (.enter 73 vs) w := by intro vs w; kernel_rfl
theorem ent74 : ∀ (vs : Array Value) w, (callFunc 74 vs).run Try.prog w = .ok (.enter 74 vs) w := by intro vs w; kernel_rfl
theorem ent75 : ∀ (vs : Array Value) w, (callFunc 75 vs).run Try.prog w = .ok (.enter 75 vs) w := by intro vs w; kernel_rfl
theorem ent76 : ∀ (vs : Array Value) w, (callFunc 76 vs).run Try.prog w = .ok (.enter 76 vs) w := by intro vs w; kernel_rfl
theorem ent77 : ∀ (vs : Array Value) w, (callFunc 77 vs).run Try.prog w = .ok (.enter 77 vs) w := by intro vs w; kernel_rfl
theorem ent78 : ∀ (vs : Array Value) w, (callFunc 78 vs).run Try.prog w = .ok (.enter 78 vs) w := by intro vs w; kernel_rfl
theorem ent79 : ∀ (vs : Array Value) w, (callFunc 79 vs).run Try.prog w = .ok (.enter 79 vs) w := by intro vs w; kernel_rfl
theorem ent80 : ∀ (vs : Array Value) w, (callFunc 80 vs).run Try.prog w = .ok (.enter 80 vs) w := by intro vs w; kernel_rfl
theorem ent107 : ∀ (vs : Array Value) w, (callFunc 107 vs).run Try.prog w = .ok (.enter 107 vs) w := by intro vs w; kernel_rfl
theorem ent109 : ∀ (vs : Array Value) w, (callFunc 109 vs).run Try.prog w = .ok (.enter 109 vs) w := by intro vs w; kernel_rfl
theorem ent110 : ∀ (vs : Array Value) w, (callFunc 110 vs).run Try.prog w = .ok (.enter 110 vs) w := by intro vs w; kernel_rfl
theorem ent112 : ∀ (vs : Array Value) w, (callFunc 112 vs).run Try.prog w = .ok (.enter 112 vs) w := by intro vs w; kernel_rfl
theorem ent124 : ∀ (vs : Array Value) w, (callFunc 124 vs).run Try.prog w = .ok (.enter 124 vs) w := by intro vs w; kernel_rfl
theorem ent125 : ∀ (vs : Array Value) w, (callFunc 125 vs).run Try.prog w = .ok (.enter 125 vs) w := by intro vs w; kernel_rfl
theorem ent126 : ∀ (vs : Array Value) w, (callFunc 126 vs).run Try.prog w = .ok (.enter 126 vs) w := by intro vs w; kernel_rfl
theorem ent127 : ∀ (vs : Array Value) w, (callFunc 127 vs).run Try.prog w = .ok (.enter 127 vs) w := by intro vs w; kernel_rfl
theorem ent128 : ∀ (vs : Array Value) w, (callFunc 128 vs).run Try.prog w = .ok (.enter 128 vs) w := by intro vs w; kernel_rfl
theorem ent129 : ∀ (vs : Array Value) w, (callFunc 129 vs).run Try.prog w = .ok (.enter 129 vs) w := by intro vs w; kernel_rfl
theorem ent130 : ∀ (vs : Array Value) w, (callFunc 130 vs).run Try.prog w = .ok (.enter 130 vs) w := by intro vs w; kernel_rfl
theorem ent131 : ∀ (vs : Array Value) w, (callFunc 131 vs).run Try.prog w = .ok (.enter 131 vs) w := by intro vs w; kernel_rfl
theorem ent132 : ∀ (vs : Array Value) w, (callFunc 132 vs).run Try.prog w = .ok (.enter 132 vs) w := by intro vs w; kernel_rfl
theorem ent133 : ∀ (vs : Array Value) w, (callFunc 133 vs).run Try.prog w = .ok (.enter 133 vs) w := by intro vs w; kernel_rfl
theorem ent134 : ∀ (vs : Array Value) w, (callFunc 134 vs).run Try.prog w = .ok (.enter 134 vs) w := by intro vs w; kernel_rfl
theorem ent150 : ∀ (vs : Array Value) w, (callFunc 150 vs).run Try.prog w = .ok (.enter 150 vs) w := by intro vs w; kernel_rfl
theorem ent156 : ∀ (vs : Array Value) w, (callFunc 156 vs).run Try.prog w = .ok (.enter 156 vs) w := by intro vs w; kernel_rfl
theorem ent159 : ∀ (vs : Array Value) w, (callFunc 159 vs).run Try.prog w = .ok (.enter 159 vs) w := by intro vs w; kernel_rfl
theorem ent160 : ∀ (vs : Array Value) w, (callFunc 160 vs).run Try.prog w = .ok (.enter 160 vs) w := by intro vs w; kernel_rfl
theorem ent162 : ∀ (vs : Array Value) w, (callFunc 162 vs).run Try.prog w = .ok (.enter 162 vs) w := by intro vs w; kernel_rfl
theorem ent163 : ∀ (vs : Array Value) w, (callFunc 163 vs).run Try.prog w = .ok (.enter 163 vs) w := by intro vs w; kernel_rfl
theorem ext153 : ∀ (b : Nat) w, (callFunc 153 #[.int .u64 b]).run Try.prog w = .ok (.value (.float .f64 b)) w := by intro b w; kernel_rfl
theorem ext154 : ∀ (b : Nat) w, (callFunc 154 #[.float .f64 b]).run Try.prog w = .ok (.value (.int .u64 b)) w := by intro b w; kernel_rfl
theorem inf36 : Try.prog.info? 36 = some Try.t36 := by kernel_rfl
theorem plc26 : ∀ w, ((#[{ name := "Rows", type := 2, offset := 0, embedded := false, tag := "", pkgPath := "", byteOffset := 0 }, { name := "Columns", type := 2, offset := 1, embedded := false, tag := "", pkgPath := "", byteOffset := 8 }, { name := "Numbers", type := 24, offset := 2, embedded := false, tag := "", pkgPath := "", byteOffset := 16 }] : Array Field).mapM fun f => Prod.mk f.offset <$> sizeOf f.type).run Try.prog w = .ok #[(0, 1), (1, 1), (2, 1)] w := by intro w; kernel_rfl
theorem plc131 : ∀ w, ((#[{ name := "code", type := 22, offset := 0, embedded := false, tag := "", pkgPath := "loop.example/g01327/spec", byteOffset := 0 }, { name := "at", type := 3, offset := 1, embedded := false, tag := "", pkgPath := "loop.example/g01327/spec", byteOffset := 24 }, { name := "seed", type := 129, offset := 2, embedded := false, tag := "", pkgPath := "loop.example/g01327/spec", byteOffset := 32 }] : Array Field).mapM fun f => Prod.mk f.offset <$> sizeOf f.type).run Try.prog w = .ok #[(0, 1), (1, 1), (2, 1)] w := by intro w; kernel_rfl
theorem pun2 : Try.prog.underlying 2 = some (Go.TypeDesc.int Go.IntKind.i64) := by kernel_rfl
theorem pun3 : Try.prog.underlying 3 = some (Go.TypeDesc.int Go.IntKind.i64) := by kernel_rfl
theorem pun4 : Try.prog.underlying 4 = some Go.TypeDesc.bool := by kernel_rfl
theorem pun5 : Try.prog.underlying 5 = some (Go.TypeDesc.int Go.IntKind.u8) := by kernel_rfl
theorem pun22 : Try.prog.underlying 22 = some (Go.TypeDesc.slice 5) := by kernel_rfl
theorem pun24 : Try.prog.underlying 24 = some (Go.TypeDesc.slice 36) := by kernel_rfl
theorem pun36 : Try.prog.underlying 36 = some (Go.TypeDesc.float Go.FloatKind.f32) := by kernel_rfl
theorem pun37 : Try.prog.underlying 37 = some (Go.TypeDesc.float Go.FloatKind.f64) := by kernel_rfl
theorem pun129 : Try.prog.underlying 129 = some (Go.TypeDesc.int Go.IntKind.u64) := by kernel_rfl
theorem siz2 : ∀ w, (sizeOf 2).run Try.prog w = .ok 1 w := by intro w; kernel_rfl
theorem siz3 : ∀ w, (sizeOf 3).run Try.prog w = .ok 1 w := by intro w; kernel_rfl
theorem siz5 : ∀ w, (sizeOf 5).run Try.prog w = .ok 1 w := by intro w; kernel_rfl
theorem siz22 : ∀ w, (sizeOf 22).run Try.prog w = .ok 1 w := by intro w; kernel_rfl
theorem siz24 : ∀ w, (sizeOf 24).run Try.prog w = .ok 1 w := by intro w; kernel_rfl
theorem siz26 : ∀ w, (sizeOf 26).run Try.prog w = .ok 3 w := by intro w; kernel_rfl
theorem siz36 : ∀ w, (sizeOf 36).run Try.prog w = .ok 1 w := by intro w; kernel_rfl
theorem siz129 : ∀ w, (sizeOf 129).run Try.prog w = .ok 1 w := by intro w; kernel_rfl
theorem tin36 : ∀ w, (typeInfo 36).run Try.prog w = .ok Try.t36 w := by intro w; kernel_rfl
theorem und22 : ∀ w, (underlying 22).run Try.prog w = .ok (Go.TypeDesc.slice 5) w := by intro w; kernel_rfl
theorem und24 : ∀ w, (underlying 24).run Try.prog w = .ok (Go.TypeDesc.slice 36) w := by intro w; kernel_rfl
theorem und26 : ∀ w, (underlying 26).run Try.prog w = .ok (Go.TypeDesc.struct #[{ name := "Rows", type := 2, offset := 0, embedded := false, tag := "", pkgPath := "", byteOffset := 0 }, { name := "Columns", type := 2, offset := 1, embedded := false, tag := "", pkgPath := "", byteOffset := 8 }, { name := "Numbers", type := 24, offset := 2, embedded := false, tag := "", pkgPath := "", byteOffset := 16 }]) w := by intro w; kernel_rfl
theorem und131 : ∀ w, (underlying 131).run Try.prog w = .ok (Go.TypeDesc.struct #[{ name := "code", type := 22, offset := 0, embedded := false, tag := "", pkgPath := "loop.example/g01327/spec", byteOffset := 0 }, { name := "at", type := 3, offset := 1, embedded := false, tag := "", pkgPath := "loop.example/g01327/spec", byteOffset := 24 }, { name := "seed", type := 129, offset := 2, embedded := false, tag := "", pkgPath := "loop.example/g01327/spec", byteOffset := 32 }]) w := by intro w; kernel_rfl
theorem zel36 : ∀ S μ, V S μ (AV.f32 (some 0)) (Go.Value.float Go.FloatKind.f32 0) := by intro S μ; exact (ALe.fl (by kernel_rfl) (by kernel_rfl) S μ _ (by simp only [V]))
theorem zer26 : ∀ w, (zeroValue 26).run Try.prog w = .ok (Go.Value.agg #[(Go.Value.int Go.IntKind.i64 0), (Go.Value.int Go.IntKind.i64 0), (Go.Value.slice none 0 0)]) w := by intro w; kernel_rfl
theorem zer36 : ∀ w, (zeroValue 36).run Try.prog w = .ok (Go.Value.float Go.FloatKind.f32 0) w := by intro w; kernel_rfl
theorem zer131 : ∀ w, (zeroValue 131).run Try.prog w = .ok (Go.Value.agg #[(Go.Value.slice none 0 0), (Go.Value.int Go.IntKind.i64 0), (Go.Value.int Go.IntKind.u64 0)]) w := by intro w; kernel_rfl
theorem zok26 : ZeroOk [AV.i64 0, AV.i64 0, AV.nilsl] (Go.Value.agg #[(Go.Value.int Go.IntKind.i64 0), (Go.Value.int Go.IntKind.i64 0), (Go.Value.slice none 0 0)]) := by intro S μ; simp only [Value.cells, VL]; exact ⟨(by simp only [V]), (by simp only [V]), (by simp only [V]), trivial⟩
theorem zok131 : ZeroOk [AV.nilsl, AV.i64 0, AV.ik .u64 0] (Go.Value.agg #[(Go.Value.slice none 0 0), (Go.Value.int Go.IntKind.i64 0), (Go.Value.int Go.IntKind.u64 0)]) := by intro S μ; simp only [Value.cells, VL]; exact ⟨(by simp only [V]), (by simp only [V]), (by simp only [V]), trivial⟩
end Go.Proofs.Ytcjbfpoaidjpaaa
