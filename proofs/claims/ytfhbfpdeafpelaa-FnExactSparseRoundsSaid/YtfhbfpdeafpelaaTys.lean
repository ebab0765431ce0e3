/- Facts on the program's types and functions. -/
import Derived.Test.YtfhbfpdeafpelaaAm1
import Derived.Test.YtfhbfpdeafpelaaChecked
namespace Go.Proofs.Ytfhbfpdeafpelaa
open Go Go.AM
set_option maxRecDepth 20000
set_option maxHeartbeats 4000000
set_option linter.unusedVariables false
set_option linter.unusedSimpArgs false
theorem mixed : Try.prog.follows .mixedOrders = true := by kernel_rfl
theorem agg2 : ∀ w, (isAgg 2).run Try.prog w = .ok false w := by intro w; kernel_rfl
theorem agg22 : ∀ w, (isAgg 22).run Try.prog w = .ok false w := by intro w; kernel_rfl
theorem agg23 : ∀ w, (isAgg 23).run Try.prog w = .ok false w := by intro w; kernel_rfl
theorem agg25 : ∀ w, (isAgg 25).run Try.prog w = .ok true w := by intro w; kernel_rfl
theorem agg26 : ∀ w, (isAgg 26).run Try.prog w = .ok false w := by intro w; kernel_rfl
theorem agg30 : ∀ w, (isAgg 30).run Try.prog w = .ok true w := by intro w; kernel_rfl
theorem agg89 : ∀ w, (isAgg 89).run Try.prog w = .ok false w := by intro w; kernel_rfl
theorem agg91 : ∀ w, (isAgg 91).run Try.prog w = .ok true w := by intro w; kernel_rfl
theorem agg98 : ∀ w, (isAgg 98).run Try.prog w = .ok false w := by intro w; kernel_rfl
theorem ent8 : ∀ (vs : Array Value) w, (callFunc 8 vs).run Try.prog w = .ok (.enter 8 vs) w := by intro vs w; kernel_rfl
theorem ent9 : ∀ (vs : Array Value) w, (callFunc 9 vs).run Try.prog w = .ok (.enter 9 vs) w := by intro vs w; kernel_rfl
theorem ent10 : ∀ (vs : Array Value) w, (callFunc 10 vs).run Try.prog w = .ok (.enter 10 vs) w := by intro vs w; kernel_rfl
theorem ent11 : ∀ (vs : Array Value) w, (callFunc 11 vs).run Try.prog w = .ok (.enter 11 vs) w := by intro vs w; kernel_rfl
theorem ent12 : ∀ (vs : Array Value) w, (callFunc 12 vs).run Try.prog w = .ok (.enter 12 vs) w := by intro vs w; kernel_rfl
theorem ent13 : ∀ (vs : Array Value) w, (callFunc 13 vs).run Try.prog w = .ok (.enter 13 vs) w := by intro vs w; kernel_rfl
theorem ent14 : ∀ (vs : Array Value) w, (callFunc 14 vs).run Try.prog w = .ok (.enter 14 vs) w := by intro vs w; kernel_rfl
theorem ent15 : ∀ (vs : Array Value) w, (callFunc 15 vs).run Try.prog w = .ok (.enter 15 vs) w := by intro vs w; kernel_rfl
theorem ent16 : ∀ (vs : Array Value) w, (callFunc 16 vs).run Try.prog w = .ok (.enter 16 vs) w := by intro vs w; kernel_rfl
theorem ent17 : ∀ (vs : Array Value) w, (callFunc 17 vs).run Try.prog w = .ok (.enter 17 vs) w := by intro vs w; kernel_rfl
theorem ent30 : ∀ (vs : Array Value) w, (callFunc 30 vs).run Try.prog w = .ok (.enter 30 vs) w := by intro vs w; kernel_rfl
theorem ent69 : ∀ (vs : Array Value) w, (callFunc 69 vs).run Try.prog w = .ok (.enter 69 vs) w := by intro vs w; kernel_rfl
theorem ent70 : ∀ (vs : Array Value) w, (callFunc 70 vs).run Try.prog w = .ok (.enter 70 vs) w := by intro vs w; kernel_rfl
theorem ent71 : ∀ (vs : Array Value) w, (callFunc 71 vs).run Try.prog w = .ok (.enter 71 vs) w := by intro vs w; kernel_rfl
theorem ent72 : ∀ (vs : Array Value) w, (callFunc 72 vs).run Try.prog w = .ok (.enter 72 vs) w := by intro vs w; kernel_rfl
theorem ent73 : ∀ (vs : Array Value) w, (callFunc 73 vs).run Try.prog w = .ok (.enter 73 vs) w := by intro vs w; kernel_rfl
theorem ent74 : ∀ (vs : Array Value) w, (callFunc 74 vs).run Try.prog w = .ok (.enter 74 vs) w := by intro vs w; kernel_rfl
theorem ent75 : ∀ (vs : Array Value) w, (callFunc 75 vs).run Try.prog w = .ok (.enter 75 vs) w := by intro vs w; kernel_rfl
theorem ent76 : ∀ (vs : Array Value) w, (callFunc 76 vs).run Try.prog w = .ok (.enter 76 vs) w := by intro vs w; kernel_rfl
theorem ent77 : ∀ (vs : Array Value) w, (callFunc 77 vs).run Try.prog w = .ok (.enter 77 vs) w := by intro vs w; kernel_rfl
theorem ent78 : ∀ (vs : Array Value) w, (callFunc 78 vs).run Try.prog w = .ok (.enter 78 vs) w := by intro vs w; kernel_rfl
theorem ent79 : ∀ (vs : Array Value) w, (callFunc 79 vs).run Try.prog w = .ok (.enter 79 vs) w := by intro vs w; kernel_rfl
theorem ent80 : ∀ (vs : Array Value) w, (callFunc 80 vs).run Try.prog w = .ok (.enter 80 vs) w := by intro vs w; kernel_rfl
theorem ent81 : ∀ (vs : Array Value) w, (callFunc 81 vs).run Try.prog w = .ok (.enter 81 vs) w := by intro vs w; kernel_rfl
theorem ent82 : ∀ (vs : Array Value) w, (callFunc 82 vs).run Try.prog w = .ok (.enter 82 vs) w := by intro vs w; kernel_rfl
theorem ent83 : ∀ (vs : Array Value) w, (callFunc 83 vs).run Try.prog w = .ok (.enter 83 vs) w := by intro vs w; kernel_rfl
theorem ent84 : ∀ (vs : Array Value) w, (callFunc 84 vs).run Try.prog w = .ok (.enter 84 vs) w := by intro vs w; kernel_rfl
theorem ent85 : ∀ (vs : Array Value) w, (callFunc 85 vs).run Try.prog w = .ok (.enter 85 vs) w := by intro vs w; kernel_rfl
theorem ent86 : ∀ (vs : Array Value) w, (callFunc 86 vs).run Try.prog w = .ok (.enter 86 vs) w := by intro vs w; kernel_rfl
theorem ent87 : ∀ (vs : Array Value) w, (callFunc 87 vs).run Try.prog w = .ok (.enter 87 vs) w := by intro vs w; kernel_rfl
theorem ent88 : ∀ (vs : Array Value) w, (callFunc 88 vs).run Try.prog w = .ok (.enter 88 vs) w := by intro vs w; kernel_rfl
theorem ent89 : ∀ (vs : Array Value) w, (callFunc 89 vs).run Try.prog w = .ok (.enter 89 vs) w := by intro vs w; kernel_rfl
theorem ent90 : ∀ (vs : Array Value) w, (callFunc 90 vs).run Try.prog w = .ok (.enter 90 vs) w := by intro vs w; kernel_rfl
theorem ent91 : ∀ (vs : Array Value) w, (callFunc 91 vs).run Try.prog w = .ok (.enter 91 vs) w := by intro vs w; kernel_rfl
theorem ent92 : ∀ (vs : Array Value) w, (callFunc 92 vs).run Try.prog w = .ok (.enter 92 vs) w := by intro vs w; kernel_rfl
theorem ent93 : ∀ (vs : Array Value) w, (callFunc 93 vs).run Try.prog w = .ok (.enter 93 vs) w := by intro vs w; kernel_rfl
theorem ent97 : ∀ (vs : Array Value) w, (callFunc 97 vs).run Try.prog w = .ok (.enter 97 vs) w := by intro vs w; kernel_rfl
theorem ent104 : ∀ (vs : Array Value) w, (callFunc 104 vs).run Try.prog w = .ok (.enter 104 vs) w := by intro vs w; kernel_rfl
theorem ent105 : ∀ (vs : Array Value) w, (callFunc 105 vs).run Try.prog w = .ok (.enter 105 vs) w := by intro vs w; kernel_rfl
theorem ent106 : ∀ (vs : Array Value) w, (callFunc 106 vs).run Try.prog w = .ok (.enter 106 vs) w := by intro vs w; kernel_rfl
theorem ent111 : ∀ (vs : Array Value) w, (callFunc 111 vs).run Try.prog w = .ok (.enter 111 vs) w := by intro vs w; kernel_rfl
theorem ent127 : ∀ (vs : Array Value) w, (callFunc 127 vs).run Try.prog w = .ok (.enter 127 vs) w := by intro vs w; kernel_rfl
theorem ent132 : ∀ (vs : Array Value) w, (callFunc 132 vs).run Try.prog w = .ok (.enter 132 vs) w := by intro vs w; kernel_rfl
theorem ent144 : ∀ (vs : Array Value) w, (callFunc 144 vs).run Try.prog w = .ok (.enter 144 vs) w := by intro vs w; kernel_rfl
theorem ent145 : ∀ (vs : Array Value) w, (callFunc 145 vs).run Try.prog w = .ok (.enter 145 vs) w := by intro vs w; kernel_rfl
theorem ent152 : ∀ (vs : Array Value) w, (callFunc 152 vs).run Try.prog w = .ok (.enter 152 vs) w := by intro vs w; kernel_rfl
theorem ent154 : ∀ (vs : Array Value) w, (callFunc 154 vs).run Try.prog w = .ok (.enter 154 vs) w := by intro vs w; kernel_rfl
theorem ent173 : ∀ (vs : Array Value) w, (callFunc 173 vs).run Try.prog w = .ok (.enter 173 vs) w := by intro vs w; kernel_rfl
theorem ent174 : ∀ (vs : Array Value) w, (callFunc 174 vs).run Try.prog w = .ok (.enter 174 vs) w := by intro vs w; kernel_rfl
theorem ent175 : ∀ (vs : Array Value) w, (callFunc 175 vs).run Try.prog w = .ok (.enter 175 vs) w := by intro vs w; kernel_rfl
theorem ent176 : ∀ (vs : Array Value) w, (callFunc 176 vs).run Try.prog w = .ok (.enter 176 vs) w := by intro vs w; kernel_rfl
theorem ent177 : ∀ (vs : Array Value) w, (callFunc 177 vs).run Try.prog w = .ok (.enter 177 vs) w := by intro vs w; kernel_rfl
theorem ent178 : ∀ (vs : Array Value) w, (callFunc 178 vs).run Try.prog w = .ok (.enter 178 vs) w := by intro vs w; kernel_rfl
theorem ent180 : ∀ (vs : Array Value) w, (callFunc 180 vs).run Try.prog w = .ok (.enter 180 vs) w := by intro vs w; kernel_rfl
theorem ent181 : ∀ (vs : Array Value) w, (callFunc 181 vs).run Try.prog w = .ok (.enter 181 vs) w := by intro vs w; kernel_rfl
theorem ent182 : ∀ (vs : Array Value) w, (callFunc 182 vs).run Try.prog w = .ok (.enter 182 vs) w := by intro vs w; kernel_rfl
theorem ent196 : ∀ (vs : Array Value) w, (callFunc 196 vs).run Try.prog w = .ok (.enter 196 vs) w := by intro vs w; kernel_rfl
theorem ent197 : ∀ (vs : Array Value) w, (callFunc 197 vs).run Try.prog w = .ok (.enter 197 vs) w := by intro vs w; kernel_rfl
theorem ent205 : ∀ (vs : Array Value) w, (callFunc 205 vs).run Try.prog w = .ok (.enter 205 vs) w := by intro vs w; kernel_rfl
theorem ent206 : ∀ (vs : Array Value) w, (callFunc 206 vs).run Try.prog w = .ok (.enter 206 vs) w := by intro vs w; kernel_rfl
theorem ent207 : ∀ (vs : Array Value) w, (callFunc 207 vs).run Try.prog w = .ok (.enter 207 vs) w := by intro vs w; kernel_rfl
theorem ent208 : ∀ (vs : Array Value) w, (callFunc 208 vs).run Try.prog w = .ok (.enter 208 vs) w := by intro vs w; kernel_rfl
theorem ent209 : ∀ (vs : Array Value) w, (callFunc 209 vs).run Try.prog w = .ok (.enter 209 vs) w := by intro vs w; kernel_rfl
theorem ent213 : ∀ (vs : Array Value) w, (callFunc 213 vs).run Try.prog w = .ok (.enter 213 vs) w := by intro vs w; kernel_rfl
theorem ext212 : ∀ (b : Nat) w, (callFunc 212 #[.float .f64 b]).run Try.prog w = (do pure (Next.value (← Extern.MathSqrt.sqrt #[.float .f64 b])) : Sem Next).run Try.prog w := by intro b w; kernel_rfl
theorem ext214 : ∀ (b : Nat) w, (callFunc 214 #[.float .f64 b]).run Try.prog w = .ok (.value (.int .u64 b)) w := by intro b w; kernel_rfl
theorem ext215 : ∀ (b : Nat) w, (callFunc 215 #[.int .u64 b]).run Try.prog w = .ok (.value (.float .f64 b)) w := by intro b w; kernel_rfl
theorem inf26 : Try.prog.info? 26 = some Try.t26 := by kernel_rfl
theorem plc91 : ∀ w, ((#[{ name := "side", type := 2, offset := 0, embedded := false, tag := "", pkgPath := "loop.example/g01327/spec", byteOffset := 0 }, { name := "told", type := 89, offset := 1, embedded := false, tag := "", pkgPath := "loop.example/g01327/spec", byteOffset := 8 }, { name := "numbers", type := 23, offset := 2, embedded := false, tag := "", pkgPath := "loop.example/g01327/spec", byteOffset := 32 }] : Array Field).mapM fun f => Prod.mk f.offset <$> sizeOf f.type).run Try.prog w = .ok #[(0, 1), (1, 1), (2, 1)] w := by intro w; kernel_rfl
theorem plc101 : ∀ w, ((#[{ name := "row", type := 2, offset := 0, embedded := false, tag := "", pkgPath := "loop.example/g01327/impl", byteOffset := 0 }, { name := "column", type := 2, offset := 1, embedded := false, tag := "", pkgPath := "loop.example/g01327/impl", byteOffset := 8 }] : Array Field).mapM fun f => Prod.mk f.offset <$> sizeOf f.type).run Try.prog w = .ok #[(0, 1), (1, 1)] w := by intro w; kernel_rfl
theorem pun2 : Try.prog.underlying 2 = some (Go.TypeDesc.int Go.IntKind.i64) := by kernel_rfl
theorem pun3 : Try.prog.underlying 3 = some (Go.TypeDesc.int Go.IntKind.i64) := by kernel_rfl
theorem pun4 : Try.prog.underlying 4 = some Go.TypeDesc.bool := by kernel_rfl
theorem pun22 : Try.prog.underlying 22 = some (Go.TypeDesc.slice 2) := by kernel_rfl
theorem pun23 : Try.prog.underlying 23 = some (Go.TypeDesc.slice 26) := by kernel_rfl
theorem pun25 : Try.prog.underlying 25 = some (Go.TypeDesc.struct #[{ name := "Side", type := 2, offset := 0, embedded := false, tag := "", pkgPath := "", byteOffset := 0 }, { name := "Starts", type := 22, offset := 1, embedded := false, tag := "", pkgPath := "", byteOffset := 8 }, { name := "Columns", type := 22, offset := 2, embedded := false, tag := "", pkgPath := "", byteOffset := 32 }, { name := "Values", type := 23, offset := 3, embedded := false, tag := "", pkgPath := "", byteOffset := 56 }]) := by kernel_rfl
theorem pun26 : Try.prog.underlying 26 = some (Go.TypeDesc.float Go.FloatKind.f32) := by kernel_rfl
theorem pun56 : Try.prog.underlying 56 = some (Go.TypeDesc.float Go.FloatKind.f64) := by kernel_rfl
theorem pun101 : Try.prog.underlying 101 = some (Go.TypeDesc.struct #[{ name := "row", type := 2, offset := 0, embedded := false, tag := "", pkgPath := "loop.example/g01327/impl", byteOffset := 0 }, { name := "column", type := 2, offset := 1, embedded := false, tag := "", pkgPath := "loop.example/g01327/impl", byteOffset := 8 }]) := by kernel_rfl
theorem siz2 : ∀ w, (sizeOf 2).run Try.prog w = .ok 1 w := by intro w; kernel_rfl
theorem siz4 : ∀ w, (sizeOf 4).run Try.prog w = .ok 1 w := by intro w; kernel_rfl
theorem siz22 : ∀ w, (sizeOf 22).run Try.prog w = .ok 1 w := by intro w; kernel_rfl
theorem siz23 : ∀ w, (sizeOf 23).run Try.prog w = .ok 1 w := by intro w; kernel_rfl
theorem siz25 : ∀ w, (sizeOf 25).run Try.prog w = .ok 4 w := by intro w; kernel_rfl
theorem siz26 : ∀ w, (sizeOf 26).run Try.prog w = .ok 1 w := by intro w; kernel_rfl
theorem siz30 : ∀ w, (sizeOf 30).run Try.prog w = .ok 4 w := by intro w; kernel_rfl
theorem siz89 : ∀ w, (sizeOf 89).run Try.prog w = .ok 1 w := by intro w; kernel_rfl
theorem siz91 : ∀ w, (sizeOf 91).run Try.prog w = .ok 3 w := by intro w; kernel_rfl
theorem siz98 : ∀ w, (sizeOf 98).run Try.prog w = .ok 1 w := by intro w; kernel_rfl
theorem tin2 : ∀ w, (typeInfo 2).run Try.prog w = .ok Try.t2 w := by intro w; kernel_rfl
theorem tin4 : ∀ w, (typeInfo 4).run Try.prog w = .ok Try.t4 w := by intro w; kernel_rfl
theorem tin26 : ∀ w, (typeInfo 26).run Try.prog w = .ok Try.t26 w := by intro w; kernel_rfl
theorem und22 : ∀ w, (underlying 22).run Try.prog w = .ok (Go.TypeDesc.slice 2) w := by intro w; kernel_rfl
theorem und23 : ∀ w, (underlying 23).run Try.prog w = .ok (Go.TypeDesc.slice 26) w := by intro w; kernel_rfl
theorem und25 : ∀ w, (underlying 25).run Try.prog w = .ok (Go.TypeDesc.struct #[{ name := "Side", type := 2, offset := 0, embedded := false, tag := "", pkgPath := "", byteOffset := 0 }, { name := "Starts", type := 22, offset := 1, embedded := false, tag := "", pkgPath := "", byteOffset := 8 }, { name := "Columns", type := 22, offset := 2, embedded := false, tag := "", pkgPath := "", byteOffset := 32 }, { name := "Values", type := 23, offset := 3, embedded := false, tag := "", pkgPath := "", byteOffset := 56 }]) w := by intro w; kernel_rfl
theorem und30 : ∀ w, (underlying 30).run Try.prog w = .ok (Go.TypeDesc.struct #[{ name := "Side", type := 2, offset := 0, embedded := false, tag := "", pkgPath := "", byteOffset := 0 }, { name := "Starts", type := 22, offset := 1, embedded := false, tag := "", pkgPath := "", byteOffset := 8 }, { name := "Columns", type := 22, offset := 2, embedded := false, tag := "", pkgPath := "", byteOffset := 32 }, { name := "Values", type := 23, offset := 3, embedded := false, tag := "", pkgPath := "", byteOffset := 56 }]) w := by intro w; kernel_rfl
theorem und89 : ∀ w, (underlying 89).run Try.prog w = .ok (Go.TypeDesc.slice 4) w := by intro w; kernel_rfl
theorem und91 : ∀ w, (underlying 91).run Try.prog w = .ok (Go.TypeDesc.struct #[{ name := "side", type := 2, offset := 0, embedded := false, tag := "", pkgPath := "loop.example/g01327/spec", byteOffset := 0 }, { name := "told", type := 89, offset := 1, embedded := false, tag := "", pkgPath := "loop.example/g01327/spec", byteOffset := 8 }, { name := "numbers", type := 23, offset := 2, embedded := false, tag := "", pkgPath := "loop.example/g01327/spec", byteOffset := 32 }]) w := by intro w; kernel_rfl
theorem und98 : ∀ w, (underlying 98).run Try.prog w = .ok (Go.TypeDesc.map 101 26) w := by intro w; kernel_rfl
theorem und101 : ∀ w, (underlying 101).run Try.prog w = .ok (Go.TypeDesc.struct #[{ name := "row", type := 2, offset := 0, embedded := false, tag := "", pkgPath := "loop.example/g01327/impl", byteOffset := 0 }, { name := "column", type := 2, offset := 1, embedded := false, tag := "", pkgPath := "loop.example/g01327/impl", byteOffset := 8 }]) w := by intro w; kernel_rfl
theorem zel2 : ∀ S μ, V S μ (AV.i64 0) (Go.Value.int Go.IntKind.i64 0) := by intro S μ; exact (by simp only [V])
theorem zel4 : ∀ S μ, V S μ (AV.b false) (Go.Value.bool false) := by intro S μ; exact (by simp only [V])
theorem zel26 : ∀ S μ, V S μ (AV.f32 (some 0)) (Go.Value.float Go.FloatKind.f32 0) := by intro S μ; exact (ALe.fl (by kernel_rfl) (by kernel_rfl) S μ _ (by simp only [V]))
theorem zer2 : ∀ w, (zeroValue 2).run Try.prog w = .ok (Go.Value.int Go.IntKind.i64 0) w := by intro w; kernel_rfl
theorem zer4 : ∀ w, (zeroValue 4).run Try.prog w = .ok (Go.Value.bool false) w := by intro w; kernel_rfl
theorem zer23 : ∀ w, (zeroValue 23).run Try.prog w = .ok (Go.Value.slice none 0 0) w := by intro w; kernel_rfl
theorem zer26 : ∀ w, (zeroValue 26).run Try.prog w = .ok (Go.Value.float Go.FloatKind.f32 0) w := by intro w; kernel_rfl
theorem zer30 : ∀ w, (zeroValue 30).run Try.prog w = .ok (Go.Value.agg #[(Go.Value.int Go.IntKind.i64 0), (Go.Value.slice none 0 0), (Go.Value.slice none 0 0), (Go.Value.slice none 0 0)]) w := by intro w; kernel_rfl
theorem zer91 : ∀ w, (zeroValue 91).run Try.prog w = .ok (Go.Value.agg #[(Go.Value.int Go.IntKind.i64 0), (Go.Value.slice none 0 0), (Go.Value.slice none 0 0)]) w := by intro w; kernel_rfl
theorem zer98 : ∀ w, (zeroValue 98).run Try.prog w = .ok (Go.Value.map none) w := by intro w; kernel_rfl
theorem zer101 : ∀ w, (zeroValue 101).run Try.prog w = .ok (Go.Value.agg #[(Go.Value.int Go.IntKind.i64 0), (Go.Value.int Go.IntKind.i64 0)]) w := by intro w; kernel_rfl
theorem zok2 : ZeroOk [AV.i64 0] (Go.Value.int Go.IntKind.i64 0) := by intro S μ; simp only [Value.cells, VL]; exact ⟨(by simp only [V]), trivial⟩
theorem zok23 : ZeroOk [AV.nilsl] (Go.Value.slice none 0 0) := by intro S μ; simp only [Value.cells, VL]; exact ⟨(by simp only [V]), trivial⟩
theorem zok26 : ZeroOk [AV.f32 (some 0)] (Go.Value.float Go.FloatKind.f32 0) := by intro S μ; simp only [Value.cells, VL]; exact ⟨(ALe.fl (by kernel_rfl) (by kernel_rfl) S μ _ (by simp only [V])), trivial⟩
theorem zok30 : ZeroOk [AV.i64 0, AV.nilsl, AV.nilsl, AV.nilsl] (Go.Value.agg #[(Go.Value.int Go.IntKind.i64 0), (Go.Value.slice none 0 0), (Go.Value.slice none 0 0), (Go.Value.slice none 0 0)]) := by intro S μ; simp only [Value.cells, VL]; exact ⟨(by simp only [V]), (by simp only [V]), (by simp only [V]), (by simp only [V]), trivial⟩
theorem zok91 : ZeroOk [AV.i64 0, AV.nilsl, AV.nilsl] (Go.Value.agg #[(Go.Value.int Go.IntKind.i64 0), (Go.Value.slice none 0 0), (Go.Value.slice none 0 0)]) := by intro S μ; simp only [Value.cells, VL]; exact ⟨(by simp only [V]), (by simp only [V]), (by simp only [V]), trivial⟩
theorem zok98 : ZeroOk [AV.x (.map none)] (Go.Value.map none) := by intro S μ; simp only [Value.cells, VL]; exact ⟨(by simp only [V]), trivial⟩
theorem zok101 : ZeroOk [AV.i64 0, AV.i64 0] (Go.Value.agg #[(Go.Value.int Go.IntKind.i64 0), (Go.Value.int Go.IntKind.i64 0)]) := by intro S μ; simp only [Value.cells, VL]; exact ⟨(by simp only [V]), (by simp only [V]), trivial⟩
theorem pky101 : PKey Try.prog 101 := PKey.of (by kernel_rfl) pun101 (by kernel_rfl) (by decide) (by decide) rfl rfl rfl rfl pun2 pun2 agg2 agg2
end Go.Proofs.Ytfhbfpdeafpelaa
