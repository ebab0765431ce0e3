/- Facts on the program's types and functions. -/
import Derived.Test.YtkdociaoknmgbaaAm2
import Derived.Test.YtkdociaoknmgbaaChecked
namespace Go.Proofs.Ytkdociaoknmgbaa
open Go Go.AM
set_option maxRecDepth 20000
set_option maxHeartbeats 4000000
set_option linter.unusedVariables false
set_option linter.unusedSimpArgs false
theorem mixed : Try.prog.follows .mixedOrders = true := by kernel_rfl
theorem agg2 : ∀ w, (isAgg 2).run Try.prog w = .ok false w := by intro w; kernel_rfl
theorem agg5 : ∀ w, (isAgg 5).run Try.prog w = .ok false w := by intro w; kernel_rfl
theorem agg26 : ∀ w, (isAgg 26).run Try.prog w = .ok false w := by intro w; kernel_rfl
theorem agg27 : ∀ w, (isAgg 27).run Try.prog w = .ok false w := by intro w; kernel_rfl
theorem agg28 : ∀ w, (isAgg 28).run Try.prog w = .ok false w := by intro w; kernel_rfl
theorem agg33 : ∀ w, (isAgg 33).run Try.prog w = .ok true w := by intro w; kernel_rfl
theorem ent7 : ∀ (vs : Array Value) w, (callFunc 7 vs).run Try.prog w = .ok (.enter 7 vs) w := by intro vs w; kernel_rfl
theorem ent8 : ∀ (vs : Array Value) w, (callFunc 8 vs).run Try.prog w = .ok (.enter 8 vs) w := by intro vs w; kernel_rfl
theorem ent9 : ∀ (vs : Array Value) w, (callFunc 9 vs).run Try.prog w = .ok (.enter 9 vs) w := by intro vs w; kernel_rfl
theorem ent10 : ∀ (vs : Array Value) w, (callFunc 10 vs).run Try.prog w = .ok (.enter 10 vs) w := by intro vs w; kernel_rfl
theorem ent11 : ∀ (vs : Array Value) w, (callFunc 11 vs).run Try.prog w = .ok (.enter 11 vs) w := by intro vs w; kernel_rfl
theorem ent12 : ∀ (vs : Array Value) w, (callFunc 12 vs).run Try.prog w = .ok (.enter 12 vs) w := by intro vs w; kernel_rfl
theorem ent13 : ∀ (vs : Array Value) w, (callFunc 13 vs).run Try.prog w = .ok (.enter 13 vs) w := by intro vs w; kernel_rfl
theorem ent14 : ∀ (vs : Array Value) w, (callFunc 14 vs).run Try.prog w = .ok (.enter 14 vs) w := by intro vs w; kernel_rfl
theorem ent15 : ∀ (vs : Array Value) w, (callFunc 15 vs).run Try.prog w = .ok (.enter 15 vs) w := by intro vs w; kernel_rfl
theorem ent16 : ∀ (vs : Array Value) w, (callFunc 16 vs).run Try.prog w = .ok (.enter 16 vs) w := by intro vs w; kernel_rfl
theorem ent17 : ∀ (vs : Array Value) w, (callFunc 17 vs).run Try.prog w = .ok (.enter 17 vs) w := by intro vs w; kernel_rfl
theorem ent53 : ∀ (vs : Array Value) w, (callFunc 53 vs).run Try.prog w = .ok (.enter 53 vs) w := by intro vs w; kernel_rfl
theorem ent54 : ∀ (vs : Array Value) w, (callFunc 54 vs).run Try.prog w = .ok (.enter 54 vs) w := by intro vs w; kernel_rfl
theorem ent55 : ∀ (vs : Array Value) w, (callFunc 55 vs).run Try.prog w = .ok (.enter 55 vs) w := by intro vs w; kernel_rfl
theorem ent56 : ∀ (vs : Array Value) w, (callFunc 56 vs).run Try.prog w = .ok (.enter 56 vs) w := by intro vs w; kernel_rfl
theorem ent57 : ∀ (vs : Array Value) w, (callFunc 57 vs).run Try.prog w = .ok (.enter 57 vs) w := by intro vs w; kernel_rfl
theorem ent58 : ∀ (vs : Array Value) w, (callFunc 58 vs).run Try.prog w = .ok (.enter 58 vs) w := by intro vs w; kernel_rfl
theorem ent59 : ∀ (vs : Array Value) w, (callFunc 59 vs).run Try.prog w = .ok (.enter 59 vs) w := by intro vs w; kernel_rfl
theorem ent60 : ∀ (vs : Array Value) w, (callFunc 60 vs).run Try.prog w = .ok (.enter 60 vs) w := by intro vs w; kernel_rfl
theorem ent61 : ∀ (vs : Array Value) w, (callFunc 61 vs).run Try.prog w = .ok (.enter 61 vs) w := by intro vs w; kernel_rfl
theorem ent62 : ∀ (vs : Array Value) w, (callFunc 62 vs).run Try.prog w = .ok (.enter 62 vs) w := by intro vs w; kernel_rfl
theorem ent63 : ∀ (vs : Array Value) w, (callFunc 63 vs).run Try.prog w = .ok (.enter 63 vs) w := by intro vs w; kernel_rfl
theorem ent64 : ∀ (vs : Array Value) w, (callFunc 64 vs).run Try.prog w = .ok (.enter 64 vs) w := by intro vs w; kernel_rfl
theorem ent65 : ∀ (vs : Array Value) w, (callFunc 65 vs).run Try.prog w = .ok (.enter 65 vs) w := by intro vs w; kernel_rfl
theorem ent66 : ∀ (vs : Array Value) w, (callFunc 66 vs).run Try.prog w = .ok (.enter 66 vs) w := by intro vs w; kernel_rfl
theorem ent67 : ∀ (vs : Array Value) w, (callFunc 67 vs).run Try.prog w = .ok (.enter 67 vs) w := by intro vs w; kernel_rfl
theorem ent68 : ∀ (vs : Array Value) w, (callFunc 68 vs).run Try.prog w = .ok (.enter 68 vs) w := by intro vs w; kernel_rfl
theorem ent69 : ∀ (vs : Array Value) w, (callFunc 69 vs).run Try.prog w = .ok (.enter 69 vs) w := by intro vs w; kernel_rfl
theorem ent70 : ∀ (vs : Array Value) w, (callFunc 70 vs).run Try.prog w = .ok (.enter 70 vs) w := by intro vs w; kernel_rfl
theorem ent74 : ∀ (vs : Array Value) w, (callFunc 74 vs).run Try.prog w = .ok (.enter 74 vs) w := by intro vs w; kernel_rfl
theorem ent76 : ∀ (vs : Array Value) w, (callFunc 76 vs).run Try.prog w = .ok (.enter 76 vs) w := by intro vs w; kernel_rfl
theorem ent80 : ∀ (vs : Array Value) w, (callFunc 80 vs).run Try.prog w = .ok (.enter 80 vs) w := by intro vs w; kernel_rfl
theorem ent85 : ∀ (vs : Array Value) w, (callFunc 85 vs).run Try.prog w = .ok (.enter 85 vs) w := by intro vs w; kernel_rfl
theorem ent93 : ∀ (vs : Array Value) w, (callFunc 93 vs).run Try.prog w = .ok (.enter 93 vs) w := by intro vs w; kernel_rfl
theorem ent105 : ∀ (vs : Array Value) w, (callFunc 105 vs).run Try.prog w = .ok (.enter 105 vs) w := by intro vs w; kernel_rfl
theorem ent113 : ∀ (vs : Array Value) w, (callFunc 113 vs).run Try.prog w = .ok (.enter 113 vs) w := by intro vs w; kernel_rfl
theorem ent121 : ∀ (vs : Array Value) w, (callFunc 121 vs).run Try.prog w = .ok (.enter 121 vs) w := by intro vs w; kernel_rfl
theorem ent126 : ∀ (vs : Array Value) w, (callFunc 126 vs).run Try.prog w = .ok (.enter 126 vs) w := by intro vs w; kernel_rfl
theorem ent127 : ∀ (vs : Array Value) w, (callFunc 127 vs).run Try.prog w = .ok (.enter 127 vs) w := by intro vs w; kernel_rfl
theorem ent128 : ∀ (vs : Array Value) w, (callFunc 128 vs).run Try.prog w = .ok (.enter 128 vs) w := by intro vs w; kernel_rfl
theorem ent129 : ∀ (vs : Array Value) w, (callFunc 129 vs).run Try.prog w = .ok (.enter 129 vs) w := by intro vs w; kernel_rfl
theorem ent130 : ∀ (vs : Array Value) w, (callFunc 130 vs).run Try.prog w = .ok (.enter 130 vs) w := by intro vs w; kernel_rfl
theorem ent131 : ∀ (vs : Array Value) w, (callFunc 131 vs).run Try.prog w = .ok (.enter 131 vs) w := by intro vs w; kernel_rfl
theorem ent132 : ∀ (vs : Array Value) w, (callFunc 132 vs).run Try.prog w = .ok (.enter 132 vs) w := by intro vs w; kernel_rfl
theorem ent133 : ∀ (vs : Array Value) w, (callFunc 133 vs).run Try.prog w = .ok (.enter 133 vs) w := by intro vs w; kernel_rfl
theorem ent134 : ∀ (vs : Array Value) w, (callFunc 134 vs).run Try.prog w = .ok (.enter 134 vs) w := by intro vs w; kernel_rfl
theorem ent135 : ∀ (vs : Array Value) w, (callFunc 135 vs).run Try.prog w = .ok (.enter 135 vs) w := by intro vs w; kernel_rfl
theorem ent136 : ∀ (vs : Array Value) w, (callFunc 136 vs).run Try.prog w = .ok (.enter 136 vs) w := by intro vs w; kernel_rfl
theorem ent137 : ∀ (vs : Array Value) w, (callFunc 137 vs).run Try.prog w = .ok (.enter 137 vs) w := by intro vs w; kernel_rfl
theorem ent138 : ∀ (vs : Array Value) w, (callFunc 138 vs).run Try.prog w = .ok (.enter 138 vs) w := by intro vs w; kernel_rfl
theorem ent139 : ∀ (vs : Array Value) w, (callFunc 139 vs).run Try.prog w = .ok (.enter 139 vs) w := by intro vs w; kernel_rfl
theorem ent141 : ∀ (vs : Array Value) w, (callFunc 141 vs).run Try.prog w = .ok (.enter 141 vs) w := by intro vs w; kernel_rfl
theorem ent145 : ∀ (vs : Array Value) w, (callFunc 145 vs).run Try.prog w = .ok (.enter 145 vs) w := by intro vs w; kernel_rfl
theorem ent164 : ∀ (vs : Array Value) w, (callFunc 164 vs).run Try.prog w = .ok (.enter 164 vs) w := by intro vs w; kernel_rfl
theorem ent165 : ∀ (vs : Array Value) w, (callFunc 165 vs).run Try.prog w = .ok (.enter 165 vs) w := by intro vs w; kernel_rfl
theorem ent166 : ∀ (vs : Array Value) w, (callFunc 166 vs).run Try.prog w = .ok (.enter 166 vs) w := by intro vs w; kernel_rfl
theorem ent167 : ∀ (vs : Array Value) w, (callFunc 167 vs).run Try.prog w = .ok (.enter 167 vs) w := by intro vs w; kernel_rfl
theorem ent168 : ∀ (vs : Array Value) w, (callFunc 168 vs).run Try.prog w = .ok (.enter 168 vs) w := by intro vs w; kernel_rfl
theorem ent169 : ∀ (vs : Array Value) w, (callFunc 169 vs).run Try.prog w = .ok (.enter 169 vs) w := by intro vs w; kernel_rfl
theorem ent170 : ∀ (vs : Array Value) w, (callFunc 170 vs).run Try.prog w = .ok (.enter 170 vs) w := by intro vs w; kernel_rfl
theorem ent171 : ∀ (vs : Array Value) w, (callFunc 171 vs).run Try.prog w = .ok (.enter 171 vs) w := by intro vs w; kernel_rfl
theorem ent173 : ∀ (vs : Array Value) w, (callFunc 173 vs).run Try.prog w = .ok (.enter 173 vs) w := by intro vs w; kernel_rfl
theorem ent174 : ∀ (vs : Array Value) w, (callFunc 174 vs).run Try.prog w = .ok (.enter 174 vs) w := by intro vs w; kernel_rfl
theorem ent180 : ∀ (vs : Array Value) w, (callFunc 180 vs).run Try.prog w = .ok (.enter 180 vs) w := by intro vs w; kernel_rfl
theorem ent181 : ∀ (vs : Array Value) w, (callFunc 181 vs).run Try.prog w = .ok (.enter 181 vs) w := by intro vs w; kernel_rfl
theorem ext157 : ∀ (b : Nat) w, (callFunc 157 #[.int .u64 b]).run Try.prog w = .ok (.value (.float .f64 b)) w := by intro b w; kernel_rfl
theorem ext172 : ∀ (b : Nat) w, (callFunc 172 #[.float .f64 b]).run Try.prog w = (do pure (Next.value (← Extern.MathSqrt.sqrt #[.float .f64 b])) : Sem Next).run Try.prog w := by intro b w; kernel_rfl
theorem ext183 : ∀ (b : Nat) w, (callFunc 183 #[.float .f64 b]).run Try.prog w = .ok (.value (.int .u64 b)) w := by intro b w; kernel_rfl
theorem ext184 : ∀ (b : Nat) w, (callFunc 184 #[.float .f64 b]).run Try.prog w = (do pure (Next.value (← Extern.MathFloor.toIntegral "math.archTrunc" .zero #[.float .f64 b])) : Sem Next).run Try.prog w := by intro b w; kernel_rfl
theorem inf27 : Try.prog.info? 27 = some Try.t27 := by kernel_rfl
theorem inf28 : Try.prog.info? 28 = some Try.t28 := by kernel_rfl
theorem plc33 : ∀ w, ((#[{ name := "Rows", type := 2, offset := 0, embedded := false, tag := "", pkgPath := "", byteOffset := 0 }, { name := "Columns", type := 2, offset := 1, embedded := false, tag := "", pkgPath := "", byteOffset := 8 }, { name := "Numbers", type := 26, offset := 2, embedded := false, tag := "", pkgPath := "", byteOffset := 16 }] : Array Field).mapM fun f => Prod.mk f.offset <$> sizeOf f.type).run Try.prog w = .ok #[(0, 1), (1, 1), (2, 1)] w := by intro w; kernel_rfl
theorem pun2 : Try.prog.underlying 2 = some (Go.TypeDesc.int Go.IntKind.i64) := by kernel_rfl
theorem pun3 : Try.prog.underlying 3 = some (Go.TypeDesc.int Go.IntKind.i64) := by kernel_rfl
theorem pun4 : Try.prog.underlying 4 = some Go.TypeDesc.bool := by kernel_rfl
theorem pun5 : Try.prog.underlying 5 = some (Go.TypeDesc.int Go.IntKind.u8) := by kernel_rfl
theorem pun22 : Try.prog.underlying 22 = some (Go.TypeDesc.slice 5) := by kernel_rfl
theorem pun25 : Try.prog.underlying 25 = some (Go.TypeDesc.slice 27) := by kernel_rfl
theorem pun26 : Try.prog.underlying 26 = some (Go.TypeDesc.slice 28) := by kernel_rfl
theorem pun28 : Try.prog.underlying 28 = some (Go.TypeDesc.float Go.FloatKind.f32) := by kernel_rfl
theorem pun40 : Try.prog.underlying 40 = some (Go.TypeDesc.float Go.FloatKind.f64) := by kernel_rfl
theorem siz2 : ∀ w, (sizeOf 2).run Try.prog w = .ok 1 w := by intro w; kernel_rfl
theorem siz5 : ∀ w, (sizeOf 5).run Try.prog w = .ok 1 w := by intro w; kernel_rfl
theorem siz26 : ∀ w, (sizeOf 26).run Try.prog w = .ok 1 w := by intro w; kernel_rfl
theorem siz27 : ∀ w, (sizeOf 27).run Try.prog w = .ok 1 w := by intro w; kernel_rfl
theorem siz28 : ∀ w, (sizeOf 28).run Try.prog w = .ok 1 w := by intro w; kernel_rfl
theorem siz33 : ∀ w, (sizeOf 33).run Try.prog w = .ok 3 w := by intro w; kernel_rfl
theorem tin28 : ∀ w, (typeInfo 28).run Try.prog w = .ok Try.t28 w := by intro w; kernel_rfl
theorem und22 : ∀ w, (underlying 22).run Try.prog w = .ok (Go.TypeDesc.slice 5) w := by intro w; kernel_rfl
theorem und25 : ∀ w, (underlying 25).run Try.prog w = .ok (Go.TypeDesc.slice 27) w := by intro w; kernel_rfl
theorem und26 : ∀ w, (underlying 26).run Try.prog w = .ok (Go.TypeDesc.slice 28) w := by intro w; kernel_rfl
theorem und33 : ∀ w, (underlying 33).run Try.prog w = .ok (Go.TypeDesc.struct #[{ name := "Rows", type := 2, offset := 0, embedded := false, tag := "", pkgPath := "", byteOffset := 0 }, { name := "Columns", type := 2, offset := 1, embedded := false, tag := "", pkgPath := "", byteOffset := 8 }, { name := "Numbers", type := 26, offset := 2, embedded := false, tag := "", pkgPath := "", byteOffset := 16 }]) w := by intro w; kernel_rfl
theorem zel27 : ∀ S μ, V S μ (AV.cx .f32 (some 0) (some 0)) (Go.Value.complex Go.FloatKind.f32 0 0) := by intro S μ; exact (ALe.cpx (by kernel_rfl) (by kernel_rfl) (by kernel_rfl) (by kernel_rfl) S μ _ (by simp only [V]))
theorem zel28 : ∀ S μ, V S μ (AV.f32 (some 0)) (Go.Value.float Go.FloatKind.f32 0) := by intro S μ; exact (ALe.fl (by kernel_rfl) (by kernel_rfl) S μ _ (by simp only [V]))
theorem zer2 : ∀ w, (zeroValue 2).run Try.prog w = .ok (Go.Value.int Go.IntKind.i64 0) w := by intro w; kernel_rfl
theorem zer27 : ∀ w, (zeroValue 27).run Try.prog w = .ok (Go.Value.complex Go.FloatKind.f32 0 0) w := by intro w; kernel_rfl
theorem zer28 : ∀ w, (zeroValue 28).run Try.prog w = .ok (Go.Value.float Go.FloatKind.f32 0) w := by intro w; kernel_rfl
theorem zer33 : ∀ w, (zeroValue 33).run Try.prog w = .ok (Go.Value.agg #[(Go.Value.int Go.IntKind.i64 0), (Go.Value.int Go.IntKind.i64 0), (Go.Value.slice none 0 0)]) w := by intro w; kernel_rfl
theorem zok2 : ZeroOk [AV.i64 0] (Go.Value.int Go.IntKind.i64 0) := by intro S μ; simp only [Value.cells, VL]; exact ⟨(by simp only [V]), trivial⟩
theorem zok33 : ZeroOk [AV.i64 0, AV.i64 0, AV.nilsl] (Go.Value.agg #[(Go.Value.int Go.IntKind.i64 0), (Go.Value.int Go.IntKind.i64 0), (Go.Value.slice none 0 0)]) := by intro S μ; simp only [Value.cells, VL]; exact ⟨(by simp only [V]), (by simp only [V]), (by simp only [V]), trivial⟩
end Go.Proofs.Ytkdociaoknmgbaa
