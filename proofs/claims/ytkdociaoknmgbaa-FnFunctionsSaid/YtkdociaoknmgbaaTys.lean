/- Facts on the program's types and functions. -/
import Derived.Test.YtkdociaoknmgbaaAm2
import Derived.Test.YtkdociaoknmgbaaChecked
namespace Go.Proofs.Ytkdociaoknmgbaa
open Go Go.AM
set_option maxRecDepth 20000
set_option maxHeartbeats 4000000
set_option linter.unusedVariables false
set_option linter.unusedSimpArgs false
theorem mixed : Try.prog.follows .mixedOrders = true := by kernel_rfl
theorem agg2 : ∀ w, (isAgg 2).run Try.prog w = .ok false w := by intro w; kernel_rfl
theorem agg3 : ∀ w, (isAgg 3).run Try.prog w = .ok false w := by intro w; kernel_rfl
theorem agg5 : ∀ w, (isAgg 5).run Try.prog w = .ok false w := by intro w; kernel_rfl
theorem agg22 : ∀ w, (isAgg 22).run Try.prog w = .ok false w := by intro w; kernel_rfl
theorem agg26 : ∀ w, (isAgg 26).run Try.prog w = .ok false w := by intro w; kernel_rfl
theorem agg28 : ∀ w, (isAgg 28).run Try.prog w = .ok false w := by intro w; kernel_rfl
theorem agg33 : ∀ w, (isAgg 33).run Try.prog w = .ok true w := by intro w; kernel_rfl
theorem agg134 : ∀ w, (isAgg 134).run Try.prog w = .ok false w := by intro w; kernel_rfl
theorem ent31 : ∀ (vs : Array Value) w, (callFunc 31 vs).run Try.prog w = .ok (.enter 31 vs) w := by intro vs w; kernel_rfl
theorem ent32 : ∀ (vs : Array Value) w, (callFunc 32 vs).run Try.prog w = .ok (.enter 32 vs) w := by intro vs w; kernel_rfl
theorem ent33 : ∀ (vs : Array Value) w, (callFunc 33 vs).run Try.prog w = .ok (.enter 33 vs) w := by intro vs w; kernel_rfl
theorem ent34 : ∀ (vs : Array Value) w, (callFunc 34 vs).run Try.prog w = .ok (.enter 34 vs) w := by intro vs w; kernel_rfl
theorem ent35 : ∀ (vs : Array Value) w, (callFunc 35 vs).run Try.prog w = .ok (.enter 35 vs) w := by intro vs w; kernel_rfl
theorem ent36 : ∀ (vs : Array Value) w, (callFunc 36 vs).run Try.prog w = .ok (.enter 36 vs) w := by intro vs w; kernel_rfl
theorem ent37 : ∀ (vs : Array Value) w, (callFunc 37 vs).run Try.prog w = .ok (.enter 37 vs) w := by intro vs w; kernel_rfl
theorem ent38 : ∀ (vs : Array Value) w, (callFunc 38 vs).run Try.prog w = .ok (.enter 38 vs) w := by intro vs w; kernel_rfl
theorem ent39 : ∀ (vs : Array Value) w, (callFunc 39 vs).run Try.prog w = .ok (.enter 39 vs) w := by intro vs w; kernel_rfl
theorem ent40 : ∀ (vs : Array Value) w, (callFunc 40 vs).run Try.prog w = .ok (.enter 40 vs) w := by intro vs w; kernel_rfl
theorem ent41 : ∀ (vs : Array Value) w, (callFunc 41 vs).run Try.prog w = .ok (.enter 41 vs) w := by intro vs w; kernel_rfl
theorem ent42 : ∀ (vs : Array Value) w, (callFunc 42 vs).run Try.prog w = .ok (.enter 42 vs) w := by intro vs w; kernel_rfl
theorem ent62 : ∀ (vs : Array Value) w, (callFunc 62 vs).run Try.prog w = .ok (.enter 62 vs) w := by intro vs w; kernel_rfl
theorem ent64 : ∀ (vs : Array Value) w, (callFunc 64 vs).run Try.prog w = .ok (.enter 64 vs) w := by intro vs w; kernel_rfl
theorem ent71 : ∀ (vs : Array Value) w, (callFunc 71 vs).run Try.prog w = .ok (.enter 71 vs) w := by intro vs w; kernel_rfl
theorem ent72 : ∀ (vs : Array Value) w, (callFunc 72 vs).run Try.prog w = .ok (.enter 72 vs) w := by intro vs w; kernel_rfl
theorem ent74 : ∀ (vs : Array Value) w, (callFunc 74 vs).run Try.prog w = .ok (.enter 74 vs) w := by intro vs w; kernel_rfl
theorem ent76 : ∀ (vs : Array Value) w, (callFunc 76 vs).run Try.prog w = .ok (.enter 76 vs) w := by intro vs w; kernel_rfl
theorem ent77 : ∀ (vs : Array Value) w, (callFunc 77 vs).run Try.prog w = .ok (.enter 77 vs) w := by intro vs w; kernel_rfl
theorem ent80 : ∀ (vs : Array Value) w, (callFunc 80 vs).run Try.prog w = .ok (.enter 80 vs) w := by intro vs w; kernel_rfl
theorem ent82 : ∀ (vs : Array Value) w, (callFunc 82 vs).run Try.prog w = .ok (.enter 82 vs) w := by intro vs w; kernel_rfl
theorem ent85 : ∀ (vs : Array Value) w, (callFunc 85 vs).run Try.prog w = .ok (.enter 85 vs) w := by intro vs w; kernel_rfl
theorem ent88 : ∀ (vs : Array Value) w, (callFunc 88 vs).run Try.prog w = .ok (.enter 88 vs) w := by intro vs w; kernel_rfl
theorem ent89 : ∀ (vs : Array Value) w, (callFunc 89 vs).run Try.prog w = .ok (.enter 89 vs) w := by intro vs w; kernel_rfl
theorem ent90 : ∀ (vs : Array Value) w, (callFunc 90 vs).run Try.prog w = .ok (.enter 90 vs) w := by intro vs w; kernel_rfl
theorem ent91 : ∀ (vs : Array Value) w, (callFunc 91 vs).run Try.prog w = .ok (.enter 91 vs) w := by intro vs w; kernel_rfl
theorem ent92 : ∀ (vs : Array Value) w, (callFunc 92 vs).run Try.prog w = .ok (.enter 92 vs) w := by intro vs w; kernel_rfl
theorem ent93 : ∀ (vs : Array Value) w, (callFunc 93 vs).run Try.prog w = .ok (.enter 93 vs) w := by intro vs w; kernel_rfl
theorem ent94 : ∀ (vs : Array Value) w, (callFunc 94 vs).run Try.prog w = .ok (.enter 94 vs) w := by intro vs w; kernel_rfl
theorem ent95 : ∀ (vs : Array Value) w, (callFunc 95 vs).run Try.prog w = .ok (.enter 95 vs) w := by intro vs w; kernel_rfl
theorem ent96 : ∀ (vs : Array Value) w, (callFunc 96 vs).run Try.prog w = .ok (.enter 96 vs) w := by intro vs w; kernel_rfl
theorem ent97 : ∀ (vs : Array Value) w, (callFunc 97 vs).run Try.prog w = .ok (.enter 97 vs) w := by intro vs w; kernel_rfl
theorem ent98 : ∀ (vs : Array Value) w, (callFunc 98 vs).run Try.prog w = .ok (.enter 98 vs) w := by intro vs w; kernel_rfl
theorem ent99 : ∀ (vs : Array Value) w, (callFunc 99 vs).run Try.prog w = .ok (.enter 99 vs) w := by intro vs w; kernel_rfl
theorem ent100 : ∀ (vs : Array Value) w, (callFunc 100 vs).run Try.prog w = .ok (.enter 100 vs) w := by intro vs w; kernel_rfl
theorem ent101 : ∀ (vs : Array Value) w, (callFunc 101 vs).run Try.prog w = .ok (.enter 101 vs) w := by intro vs w; kernel_rfl
theorem ent102 : ∀ (vs : Array Value) w, (callFunc 102 vs).run Try.prog w = .ok (.enter 102 vs) w := by intro vs w; kernel_rfl
theorem ent103 : ∀ (vs : Array Value) w, (callFunc 103 vs).run Try.prog w = .ok (.enter 103 vs) w := by intro vs w; kernel_rfl
theorem ent104 : ∀ (vs : Array Value) w, (callFunc 104 vs).run Try.prog w = .ok (.enter 104 vs) w := by intro vs w; kernel_rfl
theorem ent105 : ∀ (vs : Array Value) w, (callFunc 105 vs).run Try.prog w = .ok (.enter 105 vs) w := by intro vs w; kernel_rfl
theorem ent106 : ∀ (vs : Array Value) w, (callFunc 106 vs).run Try.prog w = .ok (.enter 106 vs) w := by intro vs w; kernel_rfl
theorem ent107 : ∀ (vs : Array Value) w, (callFunc 107 vs).run Try.prog w = .ok (.enter 107 vs) w := by intro vs w; kernel_rfl
theorem ent108 : ∀ (vs : Array Value) w, (callFunc 108 vs).run Try.prog w = .ok (.enter 108 vs) w := by intro vs w; kernel_rfl
theorem ent109 : ∀ (vs : Array Value) w, (callFunc 109 vs).run Try.prog w = .ok (.enter 109 vs) w := by intro vs w; kernel_rfl
theorem ent110 : ∀ (vs : Array Value) w, (callFunc 110 vs).run Try.prog w = .ok (.enter 110 vs) w := by intro vs w; kernel_rfl
theorem ent111 : ∀ (vs : Array Value) w, (callFunc 111 vs).run Try.prog w = .ok (.enter 111 vs) w := by intro vs w; kernel_rfl
theorem ent113 : ∀ (vs : Array Value) w, (callFunc 113 vs).run Try.prog w = .ok (.enter 113 vs) w := by intro vs w; kernel_rfl
theorem ent114 : ∀ (vs : Array Value) w, (callFunc 114 vs).run Try.prog w = .ok (.enter 114 vs) w := by intro vs w; kernel_rfl
theorem ent121 : ∀ (vs : Array Value) w, (callFunc 121 vs).run Try.prog w = .ok (.enter 121 vs) w := by intro vs w; kernel_rfl
theorem ent138 : ∀ (vs : Array Value) w, (callFunc 138 vs).run Try.prog w = .ok (.enter 138 vs) w := by intro vs w; kernel_rfl
theorem ent140 : ∀ (vs : Array Value) w, (callFunc 140 vs).run Try.prog w = .ok (.enter 140 vs) w := by intro vs w; kernel_rfl
theorem ent141 : ∀ (vs : Array Value) w, (callFunc 141 vs).run Try.prog w = .ok (.enter 141 vs) w := by intro vs w; kernel_rfl
theorem ent143 : ∀ (vs : Array Value) w, (callFunc 143 vs).run Try.prog w = .ok (.enter 143 vs) w := by intro vs w; kernel_rfl
theorem ent144 : ∀ (vs : Array Value) w, (callFunc 144 vs).run Try.prog w = .ok (.enter 144 vs) w := by intro vs w; kernel_rfl
theorem ent145 : ∀ (vs : Array Value) w, (callFunc 145 vs).run Try.prog w = .ok (.enter 145 vs) w := by intro vs w; kernel_rfl
theorem ent149 : ∀ (vs : Array Value) w, (callFunc 149 vs).run Try.prog w = .ok (.enter 149 vs) w := by intro vs w; kernel_rfl
theorem ent150 : ∀ (vs : Array Value) w, (callFunc 150 vs).run Try.prog w = .ok (.enter 150 vs) w := by intro vs w; kernel_rfl
theorem ent151 : ∀ (vs : Array Value) w, (callFunc 151 vs).run Try.prog w = .ok (.enter 151 vs) w := by intro vs w; kernel_rfl
theorem ent152 : ∀ (vs : Array Value) w, (callFunc 152 vs).run Try.prog w = .ok (.enter 152 vs) w := by intro vs w; kernel_rfl
theorem ent153 : ∀ (vs : Array Value) w, (callFunc 153 vs).run Try.prog w = .ok (.enter 153 vs) w := by intro vs w; kernel_rfl
theorem ent154 : ∀ (vs : Array Value) w, (callFunc 154 vs).run Try.prog w = .ok (.enter 154 vs) w := by intro vs w; kernel_rfl
theorem ent155 : ∀ (vs : Array Value) w, (callFunc 155 vs).run Try.prog w = .ok (.enter 155 vs) w := by intro vs w; kernel_rfl
theorem ent156 : ∀ (vs : Array Value) w, (callFunc 156 vs).run Try.prog w = .ok (.enter 156 vs) w := by intro vs w; kernel_rfl
theorem ent158 : ∀ (vs : Array Value) w, (callFunc 158 vs).run Try.prog w = .ok (.enter 158 vs) w := by intro vs w; kernel_rfl
theorem ent159 : ∀ (vs : Array Value) w, (callFunc 159 vs).run Try.prog w = .ok (.enter 159 vs) w := by intro vs w; kernel_rfl
theorem ent160 : ∀ (vs : Array Value) w, (callFunc 160 vs).run Try.prog w = .ok (.enter 160 vs) w := by intro vs w; kernel_rfl
theorem ent164 : ∀ (vs : Array Value) w, (callFunc 164 vs).run Try.prog w = .ok (.enter 164 vs) w := by intro vs w; kernel_rfl
theorem ent173 : ∀ (vs : Array Value) w, (callFunc 173 vs).run Try.prog w = .ok (.enter 173 vs) w := by intro vs w; kernel_rfl
theorem ent174 : ∀ (vs : Array Value) w, (callFunc 174 vs).run Try.prog w = .ok (.enter 174 vs) w := by intro vs w; kernel_rfl
theorem ent176 : ∀ (vs : Array Value) w, (callFunc 176 vs).run Try.prog w = .ok (.enter 176 vs) w := by intro vs w; kernel_rfl
theorem ent177 : ∀ (vs : Array Value) w, (callFunc 177 vs).run Try.prog w = .ok (.enter 177 vs) w := by intro vs w; kernel_rfl
theorem ent178 : ∀ (vs : Array Value) w, (callFunc 178 vs).run Try.prog w = .ok (.enter 178 vs) w := by intro vs w; kernel_rfl
theorem ent179 : ∀ (vs : Array Value) w, (callFunc 179 vs).run Try.prog w = .ok (.enter 179 vs) w := by intro vs w; kernel_rfl
theorem ent180 : ∀ (vs : Array Value) w, (callFunc 180 vs).run Try.prog w = .ok (.enter 180 vs) w := by intro vs w; kernel_rfl
theorem ext157 : ∀ (b : Nat) w, (callFunc 157 #[.int .u64 b]).run Try.prog w = .ok (.value (.float .f64 b)) w := by intro b w; kernel_rfl
theorem ext172 : ∀ (b : Nat) w, (callFunc 172 #[.float .f64 b]).run Try.prog w = (do pure (Next.value (← Extern.MathSqrt.sqrt #[.float .f64 b])) : Sem Next).run Try.prog w := by intro b w; kernel_rfl
theorem ext183 : ∀ (b : Nat) w, (callFunc 183 #[.float .f64 b]).run Try.prog w = .ok (.value (.int .u64 b)) w := by intro b w; kernel_rfl
theorem inf28 : Try.prog.info? 28 = some Try.t28 := by kernel_rfl
theorem plc33 : ∀ w, ((#[{ name := "Rows", type := 2, offset := 0, embedded := false, tag := "", pkgPath := "", byteOffset := 0 }, { name := "Columns", type := 2, offset := 1, embedded := false, tag := "", pkgPath := "", byteOffset := 8 }, { name := "Numbers", type := 26, offset := 2, embedded := false, tag := "", pkgPath := "", byteOffset := 16 }] : Array Field).mapM fun f => Prod.mk f.offset <$> sizeOf f.type).run Try.prog w = .ok #[(0, 1), (1, 1), (2, 1)] w := by intro w; kernel_rfl
theorem plc136 : ∀ w, ((#[{ name := "code", type := 22, offset := 0, embedded := false, tag := "", pkgPath := "loop.example/g01327/spec", byteOffset := 0 }, { name := "at", type := 3, offset := 1, embedded := false, tag := "", pkgPath := "loop.example/g01327/spec", byteOffset := 24 }, { name := "seed", type := 134, offset := 2, embedded := false, tag := "", pkgPath := "loop.example/g01327/spec", byteOffset := 32 }] : Array Field).mapM fun f => Prod.mk f.offset <$> sizeOf f.type).run Try.prog w = .ok #[(0, 1), (1, 1), (2, 1)] w := by intro w; kernel_rfl
theorem pun2 : Try.prog.underlying 2 = some (Go.TypeDesc.int Go.IntKind.i64) := by kernel_rfl
theorem pun3 : Try.prog.underlying 3 = some (Go.TypeDesc.int Go.IntKind.i64) := by kernel_rfl
theorem pun4 : Try.prog.underlying 4 = some Go.TypeDesc.bool := by kernel_rfl
theorem pun5 : Try.prog.underlying 5 = some (Go.TypeDesc.int Go.IntKind.u8) := by kernel_rfl
theorem pun22 : Try.prog.underlying 22 = some (Go.TypeDesc.slice 5) := by kernel_rfl
theorem pun26 : Try.prog.underlying 26 = some (Go.TypeDesc.slice 28) := by kernel_rfl
theorem pun28 : Try.prog.underlying 28 = some (Go.TypeDesc.float Go.FloatKind.f32) := by kernel_rfl
theorem pun40 : Try.prog.underlying 40 = some (Go.TypeDesc.float Go.FloatKind.f64) := by kernel_rfl
theorem pun134 : Try.prog.underlying 134 = some (Go.TypeDesc.int Go.IntKind.u64) := by kernel_rfl
theorem siz2 : ∀ w, (sizeOf 2).run Try.prog w = .ok 1 w := by intro w; kernel_rfl
theorem siz3 : ∀ w, (sizeOf 3).run Try.prog w = .ok 1 w := by intro w; kernel_rfl
theorem siz5 : ∀ w, (sizeOf 5).run Try.prog w = .ok 1 w := by intro w; kernel_rfl
theorem siz22 : ∀ w, (sizeOf 22).run Try.prog w = .ok 1 w := by intro w; kernel_rfl
theorem siz26 : ∀ w, (sizeOf 26).run Try.prog w = .ok 1 w := by intro w; kernel_rfl
theorem siz28 : ∀ w, (sizeOf 28).run Try.prog w = .ok 1 w := by intro w; kernel_rfl
theorem siz33 : ∀ w, (sizeOf 33).run Try.prog w = .ok 3 w := by intro w; kernel_rfl
theorem siz134 : ∀ w, (sizeOf 134).run Try.prog w = .ok 1 w := by intro w; kernel_rfl
theorem tin28 : ∀ w, (typeInfo 28).run Try.prog w = .ok Try.t28 w := by intro w; kernel_rfl
theorem und22 : ∀ w, (underlying 22).run Try.prog w = .ok (Go.TypeDesc.slice 5) w := by intro w; kernel_rfl
theorem und26 : ∀ w, (underlying 26).run Try.prog w = .ok (Go.TypeDesc.slice 28) w := by intro w; kernel_rfl
theorem und33 : ∀ w, (underlying 33).run Try.prog w = .ok (Go.TypeDesc.struct #[{ name := "Rows", type := 2, offset := 0, embedded := false, tag := "", pkgPath := "", byteOffset := 0 }, { name := "Columns", type := 2, offset := 1, embedded := false, tag := "", pkgPath := "", byteOffset := 8 }, { name := "Numbers", type := 26, offset := 2, embedded := false, tag := "", pkgPath := "", byteOffset := 16 }]) w := by intro w; kernel_rfl
theorem und136 : ∀ w, (underlying 136).run Try.prog w = .ok (Go.TypeDesc.struct #[{ name := "code", type := 22, offset := 0, embedded := false, tag := "", pkgPath := "loop.example/g01327/spec", byteOffset := 0 }, { name := "at", type := 3, offset := 1, embedded := false, tag := "", pkgPath := "loop.example/g01327/spec", byteOffset := 24 }, { name := "seed", type := 134, offset := 2, embedded := false, tag := "", pkgPath := "loop.example/g01327/spec", byteOffset := 32 }]) w := by intro w; kernel_rfl
theorem zel28 : ∀ S μ, V S μ (AV.f32 (some 0)) (Go.Value.float Go.FloatKind.f32 0) := by intro S μ; exact (ALe.fl (by kernel_rfl) (by kernel_rfl) S μ _ (by simp only [V]))
theorem zer2 : ∀ w, (zeroValue 2).run Try.prog w = .ok (Go.Value.int Go.IntKind.i64 0) w := by intro w; kernel_rfl
theorem zer28 : ∀ w, (zeroValue 28).run Try.prog w = .ok (Go.Value.float Go.FloatKind.f32 0) w := by intro w; kernel_rfl
theorem zer33 : ∀ w, (zeroValue 33).run Try.prog w = .ok (Go.Value.agg #[(Go.Value.int Go.IntKind.i64 0), (Go.Value.int Go.IntKind.i64 0), (Go.Value.slice none 0 0)]) w := by intro w; kernel_rfl
theorem zer136 : ∀ w, (zeroValue 136).run Try.prog w = .ok (Go.Value.agg #[(Go.Value.slice none 0 0), (Go.Value.int Go.IntKind.i64 0), (Go.Value.int Go.IntKind.u64 0)]) w := by intro w; kernel_rfl
theorem zok2 : ZeroOk [AV.i64 0] (Go.Value.int Go.IntKind.i64 0) := by intro S μ; simp only [Value.cells, VL]; exact ⟨(by simp only [V]), trivial⟩
theorem zok28 : ZeroOk [AV.f32 (some 0)] (Go.Value.float Go.FloatKind.f32 0) := by intro S μ; simp only [Value.cells, VL]; exact ⟨(ALe.fl (by kernel_rfl) (by kernel_rfl) S μ _ (by simp only [V])), trivial⟩
theorem zok33 : ZeroOk [AV.i64 0, AV.i64 0, AV.nilsl] (Go.Value.agg #[(Go.Value.int Go.IntKind.i64 0), (Go.Value.int Go.IntKind.i64 0), (Go.Value.slice none 0 0)]) := by intro S μ; simp only [Value.cells, VL]; exact ⟨(by simp only [V]), (by simp only [V]), (by simp only [V]), trivial⟩
theorem zok136 : ZeroOk [AV.nilsl, AV.i64 0, AV.ik .u64 0] (Go.Value.agg #[(Go.Value.slice none 0 0), (Go.Value.int Go.IntKind.i64 0), (Go.Value.int Go.IntKind.u64 0)]) := by intro S μ; simp only [Value.cells, VL]; exact ⟨(by simp only [V]), (by simp only [V]), (by simp only [V]), trivial⟩
end Go.Proofs.Ytkdociaoknmgbaa
