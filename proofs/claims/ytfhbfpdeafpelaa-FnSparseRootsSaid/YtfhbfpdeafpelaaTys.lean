/- Facts on the program's types and functions. -/
import Derived.Test.YtfhbfpdeafpelaaAm2
import Derived.Test.YtfhbfpdeafpelaaChecked
namespace Go.Proofs.Ytfhbfpdeafpelaa
open Go Go.AM
set_option maxRecDepth 20000
set_option maxHeartbeats 4000000
set_option linter.unusedVariables false
set_option linter.unusedSimpArgs false
theorem mixed : Try.prog.follows .mixedOrders = true := by kernel_rfl
theorem agg2 : ∀ w, (isAgg 2).run Try.prog w = .ok false w := by intro w; kernel_rfl
theorem agg3 : ∀ w, (isAgg 3).run Try.prog w = .ok false w := by intro w; kernel_rfl
theorem agg4 : ∀ w, (isAgg 4).run Try.prog w = .ok false w := by intro w; kernel_rfl
theorem agg5 : ∀ w, (isAgg 5).run Try.prog w = .ok false w := by intro w; kernel_rfl
theorem agg22 : ∀ w, (isAgg 22).run Try.prog w = .ok false w := by intro w; kernel_rfl
theorem agg23 : ∀ w, (isAgg 23).run Try.prog w = .ok false w := by intro w; kernel_rfl
theorem agg26 : ∀ w, (isAgg 26).run Try.prog w = .ok false w := by intro w; kernel_rfl
theorem agg30 : ∀ w, (isAgg 30).run Try.prog w = .ok true w := by intro w; kernel_rfl
theorem agg38 : ∀ w, (isAgg 38).run Try.prog w = .ok false w := by intro w; kernel_rfl
theorem agg89 : ∀ w, (isAgg 89).run Try.prog w = .ok false w := by intro w; kernel_rfl
theorem agg91 : ∀ w, (isAgg 91).run Try.prog w = .ok true w := by intro w; kernel_rfl
theorem agg98 : ∀ w, (isAgg 98).run Try.prog w = .ok false w := by intro w; kernel_rfl
theorem agg123 : ∀ w, (isAgg 123).run Try.prog w = .ok false w := by intro w; kernel_rfl
theorem agg129 : ∀ w, (isAgg 129).run Try.prog w = .ok false w := by intro w; kernel_rfl
theorem ent18 : ∀ (vs : Array Value) w, (callFunc 18 vs).run Try.prog w = .ok (.enter 18 vs) w := by intro vs w; kernel_rfl
theorem ent19 : ∀ (vs : Array Value) w, (callFunc 19 vs).run Try.prog w = .ok (.enter 19 vs) w := by intro vs w; kernel_rfl
theorem ent20 : ∀ (vs : Array Value) w, (callFunc 20 vs).run Try.prog w = .ok (.enter 20 vs) w := by intro vs w; kernel_rfl
theorem ent25 : ∀ (vs : Array Value) w, (callFunc 25 vs).run Try.prog w = .ok (.enter 25 vs) w := by intro vs w; kernel_rfl
theorem ent30 : ∀ (vs : Array Value) w, (callFunc 30 vs).run Try.prog w = .ok (.enter 30 vs) w := by intro vs w; kernel_rfl
theorem ent34 : ∀ (vs : Array Value) w, (callFunc 34 vs).run Try.prog w = .ok (.enter 34 vs) w := by intro vs w; kernel_rfl
theorem ent38 : ∀ (vs : Array Value) w, (callFunc 38 vs).run Try.prog w = .ok (.enter 38 vs) w := by intro vs w; kernel_rfl
theorem ent40 : ∀ (vs : Array Value) w, (callFunc 40 vs).run Try.prog w = .ok (.enter 40 vs) w := by intro vs w; kernel_rfl
theorem ent41 : ∀ (vs : Array Value) w, (callFunc 41 vs).run Try.prog w = .ok (.enter 41 vs) w := by intro vs w; kernel_rfl
theorem ent42 : ∀ (vs : Array Value) w, (callFunc 42 vs).run Try.prog w = .ok (.enter 42 vs) w := by intro vs w; kernel_rfl
theorem ent43 : ∀ (vs : Array Value) w, (callFunc 43 vs).run Try.prog w = .ok (.enter 43 vs) w := by intro vs w; kernel_rfl
theorem ent44 : ∀ (vs : Array Value) w, (callFunc 44 vs).run Try.prog w = .ok (.enter 44 vs) w := by intro vs w; kernel_rfl
theorem ent45 : ∀ (vs : Array Value) w, (callFunc 45 vs).run Try.prog w = .ok (.enter 45 vs) w := by intro vs w; kernel_rfl
theorem ent46 : ∀ (vs : Array Value) w, (callFunc 46 vs).run Try.prog w = .ok (.enter 46 vs) w := by intro vs w; kernel_rfl
theorem ent47 : ∀ (vs : Array Value) w, (callFunc 47 vs).run Try.prog w = .ok (.enter 47 vs) w := by intro vs w; kernel_rfl
theorem ent48 : ∀ (vs : Array Value) w, (callFunc 48 vs).run Try.prog w = .ok (.enter 48 vs) w := by intro vs w; kernel_rfl
theorem ent71 : ∀ (vs : Array Value) w, (callFunc 71 vs).run Try.prog w = .ok (.enter 71 vs) w := by intro vs w; kernel_rfl
theorem ent73 : ∀ (vs : Array Value) w, (callFunc 73 vs).run Try.prog w = .ok (.enter 73 vs) w := by intro vs w; kernel_rfl
theorem ent74 : ∀ (vs : Array Value) w, (callFunc 74 vs).run Try.prog w = .ok (.enter 74 vs) w := by intro vs w; kernel_rfl
theorem ent77 : ∀ (vs : Array Value) w, (callFunc 77 vs).run Try.prog w = .ok (.enter 77 vs) w := by intro vs w; kernel_rfl
theorem ent78 : ∀ (vs : Array Value) w, (callFunc 78 vs).run Try.prog w = .ok (.enter 78 vs) w := by intro vs w; kernel_rfl
theorem ent80 : ∀ (vs : Array Value) w, (callFunc 80 vs).run Try.prog w = .ok (.enter 80 vs) w := by intro vs w; kernel_rfl
theorem ent81 : ∀ (vs : Array Value) w, (callFunc 81 vs).run Try.prog w = .ok (.enter 81 vs) w := by intro vs w; kernel_rfl
theorem ent82 : ∀ (vs : Array Value) w, (callFunc 82 vs).run Try.prog w = .ok (.enter 82 vs) w := by intro vs w; kernel_rfl
theorem ent83 : ∀ (vs : Array Value) w, (callFunc 83 vs).run Try.prog w = .ok (.enter 83 vs) w := by intro vs w; kernel_rfl
theorem ent84 : ∀ (vs : Array Value) w, (callFunc 84 vs).run Try.prog w = .ok (.enter 84 vs) w := by intro vs w; kernel_rfl
theorem ent86 : ∀ (vs : Array Value) w, (callFunc 86 vs).run Try.prog w = .ok (.enter 86 vs) w := by intro vs w; kernel_rfl
theorem ent90 : ∀ (vs : Array Value) w, (callFunc 90 vs).run Try.prog w = .ok (.enter 90 vs) w := by intro vs w; kernel_rfl
theorem ent94 : ∀ (vs : Array Value) w, (callFunc 94 vs).run Try.prog w = .ok (.enter 94 vs) w := by intro vs w; kernel_rfl
theorem ent95 : ∀ (vs : Array Value) w, (callFunc 95 vs).run Try.prog w = .ok (.enter 95 vs) w := by intro vs w; kernel_rfl
theorem ent96 : ∀ (vs : Array Value) w, (callFunc 96 vs).run Try.prog w = .ok (.enter 96 vs) w := by intro vs w; kernel_rfl
theorem ent97 : ∀ (vs : Array Value) w, (callFunc 97 vs).run Try.prog w = .ok (.enter 97 vs) w := by intro vs w; kernel_rfl
theorem ent98 : ∀ (vs : Array Value) w, (callFunc 98 vs).run Try.prog w = .ok (.enter 98 vs) w := by intro vs w; kernel_rfl
theorem ent100 : ∀ (vs : Array Value) w, (callFunc 100 vs).run Try.prog w = .ok (.enter 100 vs) w := by intro vs w; kernel_rfl
theorem ent101 : ∀ (vs : Array Value) w, (callFunc 101 vs).run Try.prog w = .ok (.enter 101 vs) w := by intro vs w; kernel_rfl
theorem ent104 : ∀ (vs : Array Value) w, (callFunc 104 vs).run Try.prog w = .ok (.enter 104 vs) w := by intro vs w; kernel_rfl
theorem ent105 : ∀ (vs : Array Value) w, (callFunc 105 vs).run Try.prog w = .ok (.enter 105 vs) w := by intro vs w; kernel_rfl
theorem ent106 : ∀ (vs : Array Value) w, (callFunc 106 vs).run Try.prog w = .ok (.enter 106 vs) w := by intro vs w; kernel_rfl
theorem ent111 : ∀ (vs : Array Value) w, (callFunc 111 vs).run Try.prog w = .ok (.enter 111 vs) w := by intro vs w; kernel_rfl
theorem ent113 : ∀ (vs : Array Value) w, (callFunc 113 vs).run Try.prog w = .ok (.enter 113 vs) w := by intro vs w; kernel_rfl
theorem ent114 : ∀ (vs : Array Value) w, (callFunc 114 vs).run Try.prog w = .ok (.enter 114 vs) w := by intro vs w; kernel_rfl
theorem ent115 : ∀ (vs : Array Value) w, (callFunc 115 vs).run Try.prog w = .ok (.enter 115 vs) w := by intro vs w; kernel_rfl
theorem ent116 : ∀ (vs : Array Value) w, (callFunc 116 vs).run Try.prog w = .ok (.enter 116 vs) w := by intro vs w; kernel_rfl
theorem ent117 : ∀ (vs : Array Value) w, (callFunc 117 vs).run Try.prog w = .ok (.enter 117 vs) w := by intro vs w; kernel_rfl
theorem ent118 : ∀ (vs : Array Value) w, (callFunc 118 vs).run Try.prog w = .ok (.enter 118 vs) w := by intro vs w; kernel_rfl
theorem ent119 : ∀ (vs : Array Value) w, (callFunc 119 vs).run Try.prog w = .ok (.enter 119 vs) w := by intro vs w; kernel_rfl
theorem ent120 : ∀ (vs : Array Value) w, (callFunc 120 vs).run Try.prog w = .ok (.enter 120 vs) w := by intro vs w; kernel_rfl
theorem ent121 : ∀ (vs : Array Value) w, (callFunc 121 vs).run Try.prog w = .ok (.enter 121 vs) w := by intro vs w; kernel_rfl
theorem ent122 : ∀ (vs : Array Value) w, (callFunc 122 vs).run Try.prog w = .ok (.enter 122 vs) w := by intro vs w; kernel_rfl
theorem ent123 : ∀ (vs : Array Value) w, (callFunc 123 vs).run Try.prog w = .ok (.enter 123 vs) w := by intro vs w; kernel_rfl
theorem ent124 : ∀ (vs : Array Value) w, (callFunc 124 vs).run Try.prog w = .ok (.enter 124 vs) w := by intro vs w; kernel_rfl
theorem ent125 : ∀ (vs : Array Value) w, (callFunc 125 vs).run Try.prog w = .ok (.enter 125 vs) w := by intro vs w; kernel_rfl
theorem ent126 : ∀ (vs : Array Value) w, (callFunc 126 vs).run Try.prog w = .ok (.enter 126 vs) w := by intro vs w; kernel_rfl
theorem ent127 : ∀ (vs : Array Value) w, (callFunc 127 vs).run Try.prog w = .ok (.enter 127 vs) w := by intro vs w; kernel_rfl
theorem ent144 : ∀ (vs : Array Value) w, (callFunc 144 vs).run Try.prog w = .ok (.enter 144 vs) w := by intro vs w; kernel_rfl
theorem ent145 : ∀ (vs : Array Value) w, (callFunc 145 vs).run Try.prog w = .ok (.enter 145 vs) w := by intro vs w; kernel_rfl
theorem ent152 : ∀ (vs : Array Value) w, (callFunc 152 vs).run Try.prog w = .ok (.enter 152 vs) w := by intro vs w; kernel_rfl
theorem ent154 : ∀ (vs : Array Value) w, (callFunc 154 vs).run Try.prog w = .ok (.enter 154 vs) w := by intro vs w; kernel_rfl
theorem ent175 : ∀ (vs : Array Value) w, (callFunc 175 vs).run Try.prog w = .ok (.enter 175 vs) w := by intro vs w; kernel_rfl
theorem ent176 : ∀ (vs : Array Value) w, (callFunc 176 vs).run Try.prog w = .ok (.enter 176 vs) w := by intro vs w; kernel_rfl
theorem ent178 : ∀ (vs : Array Value) w, (callFunc 178 vs).run Try.prog w = .ok (.enter 178 vs) w := by intro vs w; kernel_rfl
theorem ent179 : ∀ (vs : Array Value) w, (callFunc 179 vs).run Try.prog w = .ok (.enter 179 vs) w := by intro vs w; kernel_rfl
theorem ent180 : ∀ (vs : Array Value) w, (callFunc 180 vs).run Try.prog w = .ok (.enter 180 vs) w := by intro vs w; kernel_rfl
theorem ent181 : ∀ (vs : Array Value) w, (callFunc 181 vs).run Try.prog w = .ok (.enter 181 vs) w := by intro vs w; kernel_rfl
theorem ent182 : ∀ (vs : Array Value) w, (callFunc 182 vs).run Try.prog w = .ok (.enter 182 vs) w := by intro vs w; kernel_rfl
theorem ent186 : ∀ (vs : Array Value) w, (callFunc 186 vs).run Try.prog w = .ok (.enter 186 vs) w := by intro vs w; kernel_rfl
theorem ent187 : ∀ (vs : Array Value) w, (callFunc 187 vs).run Try.prog w = .ok (.enter 187 vs) w := by intro vs w; kernel_rfl
theorem ent188 : ∀ (vs : Array Value) w, (callFunc 188 vs).run Try.prog w = .ok (.enter 188 vs) w := by intro vs w; kernel_rfl
theorem ent196 : ∀ (vs : Array Value) w, (callFunc 196 vs).run Try.prog w = .ok (.enter 196 vs) w := by intro vs w; kernel_rfl
theorem ent197 : ∀ (vs : Array Value) w, (callFunc 197 vs).run Try.prog w = .ok (.enter 197 vs) w := by intro vs w; kernel_rfl
theorem ent206 : ∀ (vs : Array Value) w, (callFunc 206 vs).run Try.prog w = .ok (.enter 206 vs) w := by intro vs w; kernel_rfl
theorem ent207 : ∀ (vs : Array Value) w, (callFunc 207 vs).run Try.prog w = .ok (.enter 207 vs) w := by intro vs w; kernel_rfl
theorem ent208 : ∀ (vs : Array Value) w, (callFunc 208 vs).run Try.prog w = .ok (.enter 208 vs) w := by intro vs w; kernel_rfl
theorem ent209 : ∀ (vs : Array Value) w, (callFunc 209 vs).run Try.prog w = .ok (.enter 209 vs) w := by intro vs w; kernel_rfl
theorem ent213 : ∀ (vs : Array Value) w, (callFunc 213 vs).run Try.prog w = .ok (.enter 213 vs) w := by intro vs w; kernel_rfl
theorem ext212 : ∀ (b : Nat) w, (callFunc 212 #[.float .f64 b]).run Try.prog w = (do pure (Next.value (← Extern.MathSqrt.sqrt #[.float .f64 b])) : Sem Next).run Try.prog w := by intro b w; kernel_rfl
theorem ext214 : ∀ (b : Nat) w, (callFunc 214 #[.float .f64 b]).run Try.prog w = .ok (.value (.int .u64 b)) w := by intro b w; kernel_rfl
theorem ext215 : ∀ (b : Nat) w, (callFunc 215 #[.int .u64 b]).run Try.prog w = .ok (.value (.float .f64 b)) w := by intro b w; kernel_rfl
theorem inf2 : Try.prog.info? 2 = some Try.t2 := by kernel_rfl
theorem inf26 : Try.prog.info? 26 = some Try.t26 := by kernel_rfl
theorem inf112 : Try.prog.info? 112 = some Try.t112 := by kernel_rfl
theorem inf129 : Try.prog.info? 129 = some Try.t129 := by kernel_rfl
theorem plc30 : ∀ w, ((#[{ name := "Side", type := 2, offset := 0, embedded := false, tag := "", pkgPath := "", byteOffset := 0 }, { name := "Starts", type := 22, offset := 1, embedded := false, tag := "", pkgPath := "", byteOffset := 8 }, { name := "Columns", type := 22, offset := 2, embedded := false, tag := "", pkgPath := "", byteOffset := 32 }, { name := "Values", type := 23, offset := 3, embedded := false, tag := "", pkgPath := "", byteOffset := 56 }] : Array Field).mapM fun f => Prod.mk f.offset <$> sizeOf f.type).run Try.prog w = .ok #[(0, 1), (1, 1), (2, 1), (3, 1)] w := by intro w; kernel_rfl
theorem plc91 : ∀ w, ((#[{ name := "side", type := 2, offset := 0, embedded := false, tag := "", pkgPath := "loop.example/g01327/spec", byteOffset := 0 }, { name := "told", type := 89, offset := 1, embedded := false, tag := "", pkgPath := "loop.example/g01327/spec", byteOffset := 8 }, { name := "numbers", type := 23, offset := 2, embedded := false, tag := "", pkgPath := "loop.example/g01327/spec", byteOffset := 32 }] : Array Field).mapM fun f => Prod.mk f.offset <$> sizeOf f.type).run Try.prog w = .ok #[(0, 1), (1, 1), (2, 1)] w := by intro w; kernel_rfl
theorem plc101 : ∀ w, ((#[{ name := "row", type := 2, offset := 0, embedded := false, tag := "", pkgPath := "loop.example/g01327/impl", byteOffset := 0 }, { name := "column", type := 2, offset := 1, embedded := false, tag := "", pkgPath := "loop.example/g01327/impl", byteOffset := 8 }] : Array Field).mapM fun f => Prod.mk f.offset <$> sizeOf f.type).run Try.prog w = .ok #[(0, 1), (1, 1)] w := by intro w; kernel_rfl
theorem plc112 : ∀ w, ((#[{ name := "Row", type := 2, offset := 0, embedded := false, tag := "", pkgPath := "", byteOffset := 0 }, { name := "Column", type := 2, offset := 1, embedded := false, tag := "", pkgPath := "", byteOffset := 8 }, { name := "Value", type := 26, offset := 2, embedded := false, tag := "", pkgPath := "", byteOffset := 16 }] : Array Field).mapM fun f => Prod.mk f.offset <$> sizeOf f.type).run Try.prog w = .ok #[(0, 1), (1, 1), (2, 1)] w := by intro w; kernel_rfl
theorem plc168 : ∀ w, ((#[{ name := "code", type := 38, offset := 0, embedded := false, tag := "", pkgPath := "loop.example/g01327/spec", byteOffset := 0 }, { name := "at", type := 3, offset := 1, embedded := false, tag := "", pkgPath := "loop.example/g01327/spec", byteOffset := 24 }, { name := "seed", type := 129, offset := 2, embedded := false, tag := "", pkgPath := "loop.example/g01327/spec", byteOffset := 32 }] : Array Field).mapM fun f => Prod.mk f.offset <$> sizeOf f.type).run Try.prog w = .ok #[(0, 1), (1, 1), (2, 1)] w := by intro w; kernel_rfl
theorem pun2 : Try.prog.underlying 2 = some (Go.TypeDesc.int Go.IntKind.i64) := by kernel_rfl
theorem pun3 : Try.prog.underlying 3 = some (Go.TypeDesc.int Go.IntKind.i64) := by kernel_rfl
theorem pun4 : Try.prog.underlying 4 = some Go.TypeDesc.bool := by kernel_rfl
theorem pun5 : Try.prog.underlying 5 = some (Go.TypeDesc.int Go.IntKind.u8) := by kernel_rfl
theorem pun22 : Try.prog.underlying 22 = some (Go.TypeDesc.slice 2) := by kernel_rfl
theorem pun23 : Try.prog.underlying 23 = some (Go.TypeDesc.slice 26) := by kernel_rfl
theorem pun26 : Try.prog.underlying 26 = some (Go.TypeDesc.float Go.FloatKind.f32) := by kernel_rfl
theorem pun38 : Try.prog.underlying 38 = some (Go.TypeDesc.slice 5) := by kernel_rfl
theorem pun43 : Try.prog.underlying 43 = some (Go.TypeDesc.slice 112) := by kernel_rfl
theorem pun56 : Try.prog.underlying 56 = some (Go.TypeDesc.float Go.FloatKind.f64) := by kernel_rfl
theorem pun101 : Try.prog.underlying 101 = some (Go.TypeDesc.struct #[{ name := "row", type := 2, offset := 0, embedded := false, tag := "", pkgPath := "loop.example/g01327/impl", byteOffset := 0 }, { name := "column", type := 2, offset := 1, embedded := false, tag := "", pkgPath := "loop.example/g01327/impl", byteOffset := 8 }]) := by kernel_rfl
theorem pun123 : Try.prog.underlying 123 = some (Go.TypeDesc.slice 129) := by kernel_rfl
theorem pun129 : Try.prog.underlying 129 = some (Go.TypeDesc.int Go.IntKind.u64) := by kernel_rfl
theorem siz2 : ∀ w, (sizeOf 2).run Try.prog w = .ok 1 w := by intro w; kernel_rfl
theorem siz3 : ∀ w, (sizeOf 3).run Try.prog w = .ok 1 w := by intro w; kernel_rfl
theorem siz4 : ∀ w, (sizeOf 4).run Try.prog w = .ok 1 w := by intro w; kernel_rfl
theorem siz5 : ∀ w, (sizeOf 5).run Try.prog w = .ok 1 w := by intro w; kernel_rfl
theorem siz22 : ∀ w, (sizeOf 22).run Try.prog w = .ok 1 w := by intro w; kernel_rfl
theorem siz23 : ∀ w, (sizeOf 23).run Try.prog w = .ok 1 w := by intro w; kernel_rfl
theorem siz26 : ∀ w, (sizeOf 26).run Try.prog w = .ok 1 w := by intro w; kernel_rfl
theorem siz30 : ∀ w, (sizeOf 30).run Try.prog w = .ok 4 w := by intro w; kernel_rfl
theorem siz38 : ∀ w, (sizeOf 38).run Try.prog w = .ok 1 w := by intro w; kernel_rfl
theorem siz89 : ∀ w, (sizeOf 89).run Try.prog w = .ok 1 w := by intro w; kernel_rfl
theorem siz91 : ∀ w, (sizeOf 91).run Try.prog w = .ok 3 w := by intro w; kernel_rfl
theorem siz98 : ∀ w, (sizeOf 98).run Try.prog w = .ok 1 w := by intro w; kernel_rfl
theorem siz101 : ∀ w, (sizeOf 101).run Try.prog w = .ok 2 w := by intro w; kernel_rfl
theorem siz112 : ∀ w, (sizeOf 112).run Try.prog w = .ok 3 w := by intro w; kernel_rfl
theorem siz123 : ∀ w, (sizeOf 123).run Try.prog w = .ok 1 w := by intro w; kernel_rfl
theorem siz129 : ∀ w, (sizeOf 129).run Try.prog w = .ok 1 w := by intro w; kernel_rfl
theorem tin4 : ∀ w, (typeInfo 4).run Try.prog w = .ok Try.t4 w := by intro w; kernel_rfl
theorem tin26 : ∀ w, (typeInfo 26).run Try.prog w = .ok Try.t26 w := by intro w; kernel_rfl
theorem tin129 : ∀ w, (typeInfo 129).run Try.prog w = .ok Try.t129 w := by intro w; kernel_rfl
theorem und22 : ∀ w, (underlying 22).run Try.prog w = .ok (Go.TypeDesc.slice 2) w := by intro w; kernel_rfl
theorem und23 : ∀ w, (underlying 23).run Try.prog w = .ok (Go.TypeDesc.slice 26) w := by intro w; kernel_rfl
theorem und30 : ∀ w, (underlying 30).run Try.prog w = .ok (Go.TypeDesc.struct #[{ name := "Side", type := 2, offset := 0, embedded := false, tag := "", pkgPath := "", byteOffset := 0 }, { name := "Starts", type := 22, offset := 1, embedded := false, tag := "", pkgPath := "", byteOffset := 8 }, { name := "Columns", type := 22, offset := 2, embedded := false, tag := "", pkgPath := "", byteOffset := 32 }, { name := "Values", type := 23, offset := 3, embedded := false, tag := "", pkgPath := "", byteOffset := 56 }]) w := by intro w; kernel_rfl
theorem und38 : ∀ w, (underlying 38).run Try.prog w = .ok (Go.TypeDesc.slice 5) w := by intro w; kernel_rfl
theorem und43 : ∀ w, (underlying 43).run Try.prog w = .ok (Go.TypeDesc.slice 112) w := by intro w; kernel_rfl
theorem und89 : ∀ w, (underlying 89).run Try.prog w = .ok (Go.TypeDesc.slice 4) w := by intro w; kernel_rfl
theorem und91 : ∀ w, (underlying 91).run Try.prog w = .ok (Go.TypeDesc.struct #[{ name := "side", type := 2, offset := 0, embedded := false, tag := "", pkgPath := "loop.example/g01327/spec", byteOffset := 0 }, { name := "told", type := 89, offset := 1, embedded := false, tag := "", pkgPath := "loop.example/g01327/spec", byteOffset := 8 }, { name := "numbers", type := 23, offset := 2, embedded := false, tag := "", pkgPath := "loop.example/g01327/spec", byteOffset := 32 }]) w := by intro w; kernel_rfl
theorem und98 : ∀ w, (underlying 98).run Try.prog w = .ok (Go.TypeDesc.map 101 26) w := by intro w; kernel_rfl
theorem und101 : ∀ w, (underlying 101).run Try.prog w = .ok (Go.TypeDesc.struct #[{ name := "row", type := 2, offset := 0, embedded := false, tag := "", pkgPath := "loop.example/g01327/impl", byteOffset := 0 }, { name := "column", type := 2, offset := 1, embedded := false, tag := "", pkgPath := "loop.example/g01327/impl", byteOffset := 8 }]) w := by intro w; kernel_rfl
theorem und112 : ∀ w, (underlying 112).run Try.prog w = .ok (Go.TypeDesc.struct #[{ name := "Row", type := 2, offset := 0, embedded := false, tag := "", pkgPath := "", byteOffset := 0 }, { name := "Column", type := 2, offset := 1, embedded := false, tag := "", pkgPath := "", byteOffset := 8 }, { name := "Value", type := 26, offset := 2, embedded := false, tag := "", pkgPath := "", byteOffset := 16 }]) w := by intro w; kernel_rfl
theorem und123 : ∀ w, (underlying 123).run Try.prog w = .ok (Go.TypeDesc.slice 129) w := by intro w; kernel_rfl
theorem und124 : ∀ w, (underlying 124).run Try.prog w = .ok (Go.TypeDesc.slice 129) w := by intro w; kernel_rfl
theorem und168 : ∀ w, (underlying 168).run Try.prog w = .ok (Go.TypeDesc.struct #[{ name := "code", type := 38, offset := 0, embedded := false, tag := "", pkgPath := "loop.example/g01327/spec", byteOffset := 0 }, { name := "at", type := 3, offset := 1, embedded := false, tag := "", pkgPath := "loop.example/g01327/spec", byteOffset := 24 }, { name := "seed", type := 129, offset := 2, embedded := false, tag := "", pkgPath := "loop.example/g01327/spec", byteOffset := 32 }]) w := by intro w; kernel_rfl
theorem zel2 : ∀ S μ, V S μ (AV.i64 0) (Go.Value.int Go.IntKind.i64 0) := by intro S μ; exact (by simp only [V])
theorem zel4 : ∀ S μ, V S μ (AV.b false) (Go.Value.bool false) := by intro S μ; exact (by simp only [V])
theorem zel26 : ∀ S μ, V S μ (AV.f32 (some 0)) (Go.Value.float Go.FloatKind.f32 0) := by intro S μ; exact (ALe.fl (by kernel_rfl) (by kernel_rfl) S μ _ (by simp only [V]))
theorem zel129 : ∀ S μ, V S μ (AV.ik .u64 0) (Go.Value.int Go.IntKind.u64 0) := by intro S μ; exact (by simp only [V])
theorem zer2 : ∀ w, (zeroValue 2).run Try.prog w = .ok (Go.Value.int Go.IntKind.i64 0) w := by intro w; kernel_rfl
theorem zer4 : ∀ w, (zeroValue 4).run Try.prog w = .ok (Go.Value.bool false) w := by intro w; kernel_rfl
theorem zer23 : ∀ w, (zeroValue 23).run Try.prog w = .ok (Go.Value.slice none 0 0) w := by intro w; kernel_rfl
theorem zer26 : ∀ w, (zeroValue 26).run Try.prog w = .ok (Go.Value.float Go.FloatKind.f32 0) w := by intro w; kernel_rfl
theorem zer30 : ∀ w, (zeroValue 30).run Try.prog w = .ok (Go.Value.agg #[(Go.Value.int Go.IntKind.i64 0), (Go.Value.slice none 0 0), (Go.Value.slice none 0 0), (Go.Value.slice none 0 0)]) w := by intro w; kernel_rfl
theorem zer91 : ∀ w, (zeroValue 91).run Try.prog w = .ok (Go.Value.agg #[(Go.Value.int Go.IntKind.i64 0), (Go.Value.slice none 0 0), (Go.Value.slice none 0 0)]) w := by intro w; kernel_rfl
theorem zer98 : ∀ w, (zeroValue 98).run Try.prog w = .ok (Go.Value.map none) w := by intro w; kernel_rfl
theorem zer101 : ∀ w, (zeroValue 101).run Try.prog w = .ok (Go.Value.agg #[(Go.Value.int Go.IntKind.i64 0), (Go.Value.int Go.IntKind.i64 0)]) w := by intro w; kernel_rfl
theorem zer112 : ∀ w, (zeroValue 112).run Try.prog w = .ok (Go.Value.agg #[(Go.Value.int Go.IntKind.i64 0), (Go.Value.int Go.IntKind.i64 0), (Go.Value.float Go.FloatKind.f32 0)]) w := by intro w; kernel_rfl
theorem zer123 : ∀ w, (zeroValue 123).run Try.prog w = .ok (Go.Value.slice none 0 0) w := by intro w; kernel_rfl
theorem zer129 : ∀ w, (zeroValue 129).run Try.prog w = .ok (Go.Value.int Go.IntKind.u64 0) w := by intro w; kernel_rfl
theorem zer168 : ∀ w, (zeroValue 168).run Try.prog w = .ok (Go.Value.agg #[(Go.Value.slice none 0 0), (Go.Value.int Go.IntKind.i64 0), (Go.Value.int Go.IntKind.u64 0)]) w := by intro w; kernel_rfl
theorem zok2 : ZeroOk [AV.i64 0] (Go.Value.int Go.IntKind.i64 0) := by intro S μ; simp only [Value.cells, VL]; exact ⟨(by simp only [V]), trivial⟩
theorem zok23 : ZeroOk [AV.nilsl] (Go.Value.slice none 0 0) := by intro S μ; simp only [Value.cells, VL]; exact ⟨(by simp only [V]), trivial⟩
theorem zok30 : ZeroOk [AV.i64 0, AV.nilsl, AV.nilsl, AV.nilsl] (Go.Value.agg #[(Go.Value.int Go.IntKind.i64 0), (Go.Value.slice none 0 0), (Go.Value.slice none 0 0), (Go.Value.slice none 0 0)]) := by intro S μ; simp only [Value.cells, VL]; exact ⟨(by simp only [V]), (by simp only [V]), (by simp only [V]), (by simp only [V]), trivial⟩
theorem zok91 : ZeroOk [AV.i64 0, AV.nilsl, AV.nilsl] (Go.Value.agg #[(Go.Value.int Go.IntKind.i64 0), (Go.Value.slice none 0 0), (Go.Value.slice none 0 0)]) := by intro S μ; simp only [Value.cells, VL]; exact ⟨(by simp only [V]), (by simp only [V]), (by simp only [V]), trivial⟩
theorem zok98 : ZeroOk [AV.x (.map none)] (Go.Value.map none) := by intro S μ; simp only [Value.cells, VL]; exact ⟨(by simp only [V]), trivial⟩
theorem zok101 : ZeroOk [AV.i64 0, AV.i64 0] (Go.Value.agg #[(Go.Value.int Go.IntKind.i64 0), (Go.Value.int Go.IntKind.i64 0)]) := by intro S μ; simp only [Value.cells, VL]; exact ⟨(by simp only [V]), (by simp only [V]), trivial⟩
theorem zok112 : ZeroOk [AV.i64 0, AV.i64 0, AV.f32 (some 0)] (Go.Value.agg #[(Go.Value.int Go.IntKind.i64 0), (Go.Value.int Go.IntKind.i64 0), (Go.Value.float Go.FloatKind.f32 0)]) := by intro S μ; simp only [Value.cells, VL]; exact ⟨(by simp only [V]), (by simp only [V]), (ALe.fl (by kernel_rfl) (by kernel_rfl) S μ _ (by simp only [V])), trivial⟩
theorem zok123 : ZeroOk [AV.nilsl] (Go.Value.slice none 0 0) := by intro S μ; simp only [Value.cells, VL]; exact ⟨(by simp only [V]), trivial⟩
theorem zok168 : ZeroOk [AV.nilsl, AV.i64 0, AV.ik .u64 0] (Go.Value.agg #[(Go.Value.slice none 0 0), (Go.Value.int Go.IntKind.i64 0), (Go.Value.int Go.IntKind.u64 0)]) := by intro S μ; simp only [Value.cells, VL]; exact ⟨(by simp only [V]), (by simp only [V]), (by simp only [V]), trivial⟩
theorem pky101 : PKey Try.prog 101 := PKey.of (by kernel_rfl) pun101 (by kernel_rfl) (by decide) (by decide) rfl rfl rfl rfl pun2 pun2 agg2 agg2
end Go.Proofs.Ytfhbfpdeafpelaa
