/- Facts on the program's types and functions. -/
import Derived.Test.YtkdociaoknmgbaaGreatAm2
import Derived.Test.YtkdociaoknmgbaaGreatChecked
namespace Go.Proofs.YtkdociaoknmgbaaGreat
open Go Go.AM
set_option maxRecDepth 20000
set_option maxHeartbeats 4000000
set_option linter.unusedVariables false
set_option linter.unusedSimpArgs false
def lit_77d67bd0 : ByteArray := { data := ((([0, 1, 2, 2, 3, 3, 3, 3, 4, 4, 4, 4, 4, 4, 4, 4, 5, 5, 5, 5, 5, 5, 5, 5, 5, 5, 5, 5, 5, 5, 5, 5, 6, 6, 6, 6, 6, 6, 6, 6, 6, 6, 6, 6, 6, 6, 6, 6, 6, 6, 6, 6, 6, 6, 6, 6, 6, 6, 6, 6, 6, 6, 6, 6] : List UInt8) ++ ([7, 7, 7, 7, 7, 7, 7, 7, 7, 7, 7, 7, 7, 7, 7, 7, 7, 7, 7, 7, 7, 7, 7, 7, 7, 7, 7, 7, 7, 7, 7, 7, 7, 7, 7, 7, 7, 7, 7, 7, 7, 7, 7, 7, 7, 7, 7, 7, 7, 7, 7, 7, 7, 7, 7, 7, 7, 7, 7, 7, 7, 7, 7, 7] : List UInt8)) ++ (([8, 8, 8, 8, 8, 8, 8, 8, 8, 8, 8, 8, 8, 8, 8, 8, 8, 8, 8, 8, 8, 8, 8, 8, 8, 8, 8, 8, 8, 8, 8, 8, 8, 8, 8, 8, 8, 8, 8, 8, 8, 8, 8, 8, 8, 8, 8, 8, 8, 8, 8, 8, 8, 8, 8, 8, 8, 8, 8, 8, 8, 8, 8, 8] : List UInt8) ++ ([8, 8, 8, 8, 8, 8, 8, 8, 8, 8, 8, 8, 8, 8, 8, 8, 8, 8, 8, 8, 8, 8, 8, 8, 8, 8, 8, 8, 8, 8, 8, 8, 8, 8, 8, 8, 8, 8, 8, 8, 8, 8, 8, 8, 8, 8, 8, 8, 8, 8, 8, 8, 8, 8, 8, 8, 8, 8, 8, 8, 8, 8, 8, 8] : List UInt8))).toArray }
theorem mixed : Tryz.prog.follows .mixedOrders = true := by kernel_rfl
theorem agg2 : ∀ w, (isAgg 2).run Tryz.prog w = .ok false w := by intro w; kernel_rfl
theorem agg3 : ∀ w, (isAgg 3).run Tryz.prog w = .ok false w := by intro w; kernel_rfl
theorem agg5 : ∀ w, (isAgg 5).run Tryz.prog w = .ok false w := by intro w; kernel_rfl
theorem agg22 : ∀ w, (isAgg 22).run Tryz.prog w = .ok false w := by intro w; kernel_rfl
theorem agg25 : ∀ w, (isAgg 25).run Tryz.prog w = .ok false w := by intro w; kernel_rfl
theorem agg27 : ∀ w, (isAgg 27).run Tryz.prog w = .ok true w := by intro w; kernel_rfl
theorem agg30 : ∀ w, (isAgg 30).run Tryz.prog w = .ok false w := by intro w; kernel_rfl
theorem agg32 : ∀ w, (isAgg 32).run Tryz.prog w = .ok true w := by intro w; kernel_rfl
theorem agg41 : ∀ w, (isAgg 41).run Tryz.prog w = .ok false w := by intro w; kernel_rfl
theorem agg107 : ∀ w, (isAgg 107).run Tryz.prog w = .ok false w := by intro w; kernel_rfl
theorem ent5 : ∀ (vs : Array Value) w, (callFunc 5 vs).run Tryz.prog w = .ok (.enter 5 vs) w := by intro vs w; kernel_rfl
theorem ent6 : ∀ (vs : Array Value) w, (callFunc 6 vs).run Tryz.prog w = .ok (.enter 6 vs) w := by intro vs w; kernel_rfl
theorem ent7 : ∀ (vs : Array Value) w, (callFunc 7 vs).run Tryz.prog w = .ok (.enter 7 vs) w := by intro vs w; kernel_rfl
theorem ent8 : ∀ (vs : Array Value) w, (callFunc 8 vs).run Tryz.prog w = .ok (.enter 8 vs) w := by intro vs w; kernel_rfl
theorem ent10 : ∀ (vs : Array Value) w, (callFunc 10 vs).run Tryz.prog w = .ok (.enter 10 vs) w := by intro vs w; kernel_rfl
theorem ent18 : ∀ (vs : Array Value) w, (callFunc 18 vs).run Tryz.prog w = .ok (.enter 18 vs) w := by intro vs w; kernel_rfl
theorem ent21 : ∀ (vs : Array Value) w, (callFunc 21 vs).run Tryz.prog w = .ok (.enter 21 vs) w := by intro vs w; kernel_rfl
theorem ent22 : ∀ (vs : Array Value) w, (callFunc 22 vs).run Tryz.prog w = .ok (.enter 22 vs) w := by intro vs w; kernel_rfl
theorem ent23 : ∀ (vs : Array Value) w, (callFunc 23 vs).run Tryz.prog w = .ok (.enter 23 vs) w := by intro vs w; kernel_rfl
theorem ent25 : ∀ (vs : Array Value) w, (callFunc 25 vs).run Tryz.prog w = .ok (.enter 25 vs) w := by intro vs w; kernel_rfl
theorem ent28 : ∀ (vs : Array Value) w, (callFunc 28 vs).run Tryz.prog w = .ok (.enter 28 vs) w := by intro vs w; kernel_rfl
theorem ent29 : ∀ (vs : Array Value) w, (callFunc 29 vs).run Tryz.prog w = .ok (.enter 29 vs) w := by intro vs w; kernel_rfl
theorem ent30 : ∀ (vs : Array Value) w, (callFunc 30 vs).run Tryz.prog w = .ok (.enter 30 vs) w := by intro vs w; kernel_rfl
theorem ent31 : ∀ (vs : Array Value) w, (callFunc 31 vs).run Tryz.prog w = .ok (.enter 31 vs) w := by intro vs w; kernel_rfl
theorem ent32 : ∀ (vs : Array Value) w, (callFunc 32 vs).run Tryz.prog w = .ok (.enter 32 vs) w := by intro vs w; kernel_rfl
theorem ent33 : ∀ (vs : Array Value) w, (callFunc 33 vs).run Tryz.prog w = .ok (.enter 33 vs) w := by intro vs w; kernel_rfl
theorem ent34 : ∀ (vs : Array Value) w, (callFunc 34 vs).run Tryz.prog w = .ok (.enter 34 vs) w := by intro vs w; kernel_rfl
theorem ent35 : ∀ (vs : Array Value) w, (callFunc 35 vs).run Tryz.prog w = .ok (.enter 35 vs) w := by intro vs w; kernel_rfl
theorem ent36 : ∀ (vs : Array Value) w, (callFunc 36 vs).run Tryz.prog w = .ok (.enter 36 vs) w := by intro vs w; kernel_rfl
theorem ent37 : ∀ (vs : Array Value) w, (callFunc 37 vs).run Tryz.prog w = .ok (.enter 37 vs) w := by intro vs w; kernel_rfl
theorem ent38 : ∀ (vs : Array Value) w, (callFunc 38 vs).run Tryz.prog w = .ok (.enter 38 vs) w := by intro vs w; kernel_rfl
theorem ent40 : ∀ (vs : Array Value) w, (callFunc 40 vs).run Tryz.prog w = .ok (.enter 40 vs) w := by intro vs w; kernel_rfl
theorem ent41 : ∀ (vs : Array Value) w, (callFunc 41 vs).run Tryz.prog w = .ok (.enter 41 vs) w := by intro vs w; kernel_rfl
theorem ent45 : ∀ (vs : Array Value) w, (callFunc 45 vs).run Tryz.prog w = .ok (.enter 45 vs) w := by intro vs w; kernel_rfl
theorem ent46 : ∀ (vs : Array Value) w, (callFunc 46 vs).run Tryz.prog w = .ok (.enter 46 vs) w := by intro vs w; kernel_rfl
theorem ent47 : ∀ (vs : Array Value) w, (callFunc 47 vs).run Tryz.prog w = .ok (.enter 47 vs) w := by intro vs w; kernel_rfl
theorem ent48 : ∀ (vs : Array Value) w, (callFunc 48 vs).run Tryz.prog w = .ok (.enter 48 vs) w := by intro vs w; kernel_rfl
theorem ent49 : ∀ (vs : Array Value) w, (callFunc 49 vs).run Tryz.prog w = .ok (.enter 49 vs) w := by intro vs w; kernel_rfl
theorem ent59 : ∀ (vs : Array Value) w, (callFunc 59 vs).run Tryz.prog w = .ok (.enter 59 vs) w := by intro vs w; kernel_rfl
theorem ent62 : ∀ (vs : Array Value) w, (callFunc 62 vs).run Tryz.prog w = .ok (.enter 62 vs) w := by intro vs w; kernel_rfl
theorem ent63 : ∀ (vs : Array Value) w, (callFunc 63 vs).run Tryz.prog w = .ok (.enter 63 vs) w := by intro vs w; kernel_rfl
theorem ent64 : ∀ (vs : Array Value) w, (callFunc 64 vs).run Tryz.prog w = .ok (.enter 64 vs) w := by intro vs w; kernel_rfl
theorem ent65 : ∀ (vs : Array Value) w, (callFunc 65 vs).run Tryz.prog w = .ok (.enter 65 vs) w := by intro vs w; kernel_rfl
theorem ent66 : ∀ (vs : Array Value) w, (callFunc 66 vs).run Tryz.prog w = .ok (.enter 66 vs) w := by intro vs w; kernel_rfl
theorem ent68 : ∀ (vs : Array Value) w, (callFunc 68 vs).run Tryz.prog w = .ok (.enter 68 vs) w := by intro vs w; kernel_rfl
theorem ent71 : ∀ (vs : Array Value) w, (callFunc 71 vs).run Tryz.prog w = .ok (.enter 71 vs) w := by intro vs w; kernel_rfl
theorem ent73 : ∀ (vs : Array Value) w, (callFunc 73 vs).run Tryz.prog w = .ok (.enter 73 vs) w := by intro vs w; kernel_rfl
theorem ent74 : ∀ (vs : Array Value) w, (callFunc 74 vs).run Tryz.prog w = .ok (.enter 74 vs) w := by intro vs w; kernel_rfl
theorem ent75 : ∀ (vs : Array Value) w, (callFunc 75 vs).run Tryz.prog w = .ok (.enter 75 vs) w := by intro vs w; kernel_rfl
theorem ent77 : ∀ (vs : Array Value) w, (callFunc 77 vs).run Tryz.prog w = .ok (.enter 77 vs) w := by intro vs w; kernel_rfl
theorem ent80 : ∀ (vs : Array Value) w, (callFunc 80 vs).run Tryz.prog w = .ok (.enter 80 vs) w := by intro vs w; kernel_rfl
theorem ent81 : ∀ (vs : Array Value) w, (callFunc 81 vs).run Tryz.prog w = .ok (.enter 81 vs) w := by intro vs w; kernel_rfl
theorem ent82 : ∀ (vs : Array Value) w, (callFunc 82 vs).run Tryz.prog w = .ok (.enter 82 vs) w := by intro vs w; kernel_rfl
theorem ent83 : ∀ (vs : Array Value) w, (callFunc 83 vs).run Tryz.prog w = .ok (.enter 83 vs) w := by intro vs w; kernel_rfl
theorem ent84 : ∀ (vs : Array Value) w, (callFunc 84 vs).run Tryz.prog w = .ok (.enter 84 vs) w := by intro vs w; kernel_rfl
theorem ent85 : ∀ (vs : Array Value) w, (callFunc 85 vs).run Tryz.prog w = .ok (.enter 85 vs) w := by intro vs w; kernel_rfl
theorem ent86 : ∀ (vs : Array Value) w, (callFunc 86 vs).run Tryz.prog w = .ok (.enter 86 vs) w := by intro vs w; kernel_rfl
theorem ent87 : ∀ (vs : Array Value) w, (callFunc 87 vs).run Tryz.prog w = .ok (.enter 87 vs) w := by intro vs w; kernel_rfl
theorem ent88 : ∀ (vs : Array Value) w, (callFunc 88 vs).run Tryz.prog w = .ok (.enter 88 vs) w := by intro vs w; kernel_rfl
theorem ent89 : ∀ (vs : Array Value) w, (callFunc 89 vs).run Tryz.prog w = .ok (.enter 89 vs) w := by intro vs w; kernel_rfl
theorem ent90 : ∀ (vs : Array Value) w, (callFunc 90 vs).run Tryz.prog w = .ok (.enter 90 vs) w := by intro vs w; kernel_rfl
theorem ent91 : ∀ (vs : Array Value) w, (callFunc 91 vs).run Tryz.prog w = .ok (.enter 91 vs) w := by intro vs w; kernel_rfl
theorem ent92 : ∀ (vs : Array Value) w, (callFunc 92 vs).run Tryz.prog w = .ok (.enter 92 vs) w := by intro vs w; kernel_rfl
theorem ent93 : ∀ (vs : Array Value) w, (callFunc 93 vs).run Tryz.prog w = .ok (.enter 93 vs) w := by intro vs w; kernel_rfl
theorem ent94 : ∀ (vs : Array Value) w, (callFunc 94 vs).run Tryz.prog w = .ok (.enter 94 vs) w := by intro vs w; kernel_rfl
theorem ent95 : ∀ (vs : Array Value) w, (callFunc 95 vs).run Tryz.prog w = .ok (.enter 95 vs) w := by intro vs w; kernel_rfl
theorem ent96 : ∀ (vs : Array Value) w, (callFunc 96 vs).run Tryz.prog w = .ok (.enter 96 vs) w := by intro vs w; kernel_rfl
theorem ent98 : ∀ (vs : Array Value) w, (callFunc 98 vs).run Tryz.prog w = .ok (.enter 98 vs) w := by intro vs w; kernel_rfl
theorem ent99 : ∀ (vs : Array Value) w, (callFunc 99 vs).run Tryz.prog w = .ok (.enter 99 vs) w := by intro vs w; kernel_rfl
theorem ent100 : ∀ (vs : Array Value) w, (callFunc 100 vs).run Tryz.prog w = .ok (.enter 100 vs) w := by intro vs w; kernel_rfl
theorem ent101 : ∀ (vs : Array Value) w, (callFunc 101 vs).run Tryz.prog w = .ok (.enter 101 vs) w := by intro vs w; kernel_rfl
theorem ent104 : ∀ (vs : Array Value) w, (callFunc 104 vs).run Tryz.prog w = .ok (.enter 104 vs) w := by intro vs w; kernel_rfl
theorem ent105 : ∀ (vs : Array Value) w, (callFunc 105 vs).run Tryz.prog w = .ok (.enter 105 vs) w := by intro vs w; kernel_rfl
theorem ent106 : ∀ (vs : Array Value) w, (callFunc 106 vs).run Tryz.prog w = .ok (.enter 106 vs) w := by intro vs w; kernel_rfl
theorem ent107 : ∀ (vs : Array Value) w, (callFunc 107 vs).run Tryz.prog w = .ok (.enter 107 vs) w := by intro vs w; kernel_rfl
theorem ent108 : ∀ (vs : Array Value) w, (callFunc 108 vs).run Tryz.prog w = .ok (.enter 108 vs) w := by intro vs w; kernel_rfl
theorem ent110 : ∀ (vs : Array Value) w, (callFunc 110 vs).run Tryz.prog w = .ok (.enter 110 vs) w := by intro vs w; kernel_rfl
theorem ent112 : ∀ (vs : Array Value) w, (callFunc 112 vs).run Tryz.prog w = .ok (.enter 112 vs) w := by intro vs w; kernel_rfl
theorem ent113 : ∀ (vs : Array Value) w, (callFunc 113 vs).run Tryz.prog w = .ok (.enter 113 vs) w := by intro vs w; kernel_rfl
theorem ent114 : ∀ (vs : Array Value) w, (callFunc 114 vs).run Tryz.prog w = .ok (.enter 114 vs) w := by intro vs w; kernel_rfl
theorem ent115 : ∀ (vs : Array Value) w, (callFunc 115 vs).run Tryz.prog w = .ok (.enter 115 vs) w := by intro vs w; kernel_rfl
theorem ent116 : ∀ (vs : Array Value) w, (callFunc 116 vs).run Tryz.prog w = .ok (.enter 116 vs) w := by intro vs w; kernel_rfl
theorem ent117 : ∀ (vs : Array Value) w, (callFunc 117 vs).run Tryz.prog w = .ok (.enter 117 vs) w := by intro vs w; kernel_rfl
theorem ent120 : ∀ (vs : Array Value) w, (callFunc 120 vs).run Tryz.prog w = .ok (.enter 120 vs) w := by intro vs w; kernel_rfl
theorem ent121 : ∀ (vs : Array Value) w, (callFunc 121 vs).run Tryz.prog w = .ok (.enter 121 vs) w := by intro vs w; kernel_rfl
theorem ent122 : ∀ (vs : Array Value) w, (callFunc 122 vs).run Tryz.prog w = .ok (.enter 122 vs) w := by intro vs w; kernel_rfl
theorem ent123 : ∀ (vs : Array Value) w, (callFunc 123 vs).run Tryz.prog w = .ok (.enter 123 vs) w := by intro vs w; kernel_rfl
theorem ent126 : ∀ (vs : Array Value) w, (callFunc 126 vs).run Tryz.prog w = .ok (.enter 126 vs) w := by intro vs w; kernel_rfl
theorem ent127 : ∀ (vs : Array Value) w, (callFunc 127 vs).run Tryz.prog w = .ok (.enter 127 vs) w := by intro vs w; kernel_rfl
theorem ent128 : ∀ (vs : Array Value) w, (callFunc 128 vs).run Tryz.prog w = .ok (.enter 128 vs) w := by intro vs w; kernel_rfl
theorem ent129 : ∀ (vs : Array Value) w, (callFunc 129 vs).run Tryz.prog w = .ok (.enter 129 vs) w := by intro vs w; kernel_rfl
theorem ent130 : ∀ (vs : Array Value) w, (callFunc 130 vs).run Tryz.prog w = .ok (.enter 130 vs) w := by intro vs w; kernel_rfl
theorem ent133 : ∀ (vs : Array Value) w, (callFunc 133 vs).run Tryz.prog w = .ok (.enter 133 vs) w := by intro vs w; kernel_rfl
theorem ent134 : ∀ (vs : Array Value) w, (callFunc 134 vs).run Tryz.prog w = .ok (.enter 134 vs) w := by intro vs w; kernel_rfl
theorem ent135 : ∀ (vs : Array Value) w, (callFunc 135 vs).run Tryz.prog w = .ok (.enter 135 vs) w := by intro vs w; kernel_rfl
theorem ent136 : ∀ (vs : Array Value) w, (callFunc 136 vs).run Tryz.prog w = .ok (.enter 136 vs) w := by intro vs w; kernel_rfl
theorem ent142 : ∀ (vs : Array Value) w, (callFunc 142 vs).run Tryz.prog w = .ok (.enter 142 vs) w := by intro vs w; kernel_rfl
theorem ent146 : ∀ (vs : Array Value) w, (callFunc 146 vs).run Tryz.prog w = .ok (.enter 146 vs) w := by intro vs w; kernel_rfl
theorem ent152 : ∀ (vs : Array Value) w, (callFunc 152 vs).run Tryz.prog w = .ok (.enter 152 vs) w := by intro vs w; kernel_rfl
theorem ext118 : ∀ (b : Nat) w, (callFunc 118 #[.int .u64 b]).run Tryz.prog w = .ok (.value (.float .f64 b)) w := by intro b w; kernel_rfl
theorem ext119 : ∀ (b : Nat) w, (callFunc 119 #[.float .f64 b]).run Tryz.prog w = .ok (.value (.int .u64 b)) w := by intro b w; kernel_rfl
theorem inf2 : Tryz.prog.info? 2 = some Tryz.t2 := by kernel_rfl
theorem inf41 : Tryz.prog.info? 41 = some Tryz.t41 := by kernel_rfl
theorem plc27 : ∀ w, ((#[{ name := "Rows", type := 2, offset := 0, embedded := false, tag := "", pkgPath := "", byteOffset := 0 }, { name := "Columns", type := 2, offset := 1, embedded := false, tag := "", pkgPath := "", byteOffset := 8 }, { name := "Numbers", type := 25, offset := 2, embedded := false, tag := "", pkgPath := "", byteOffset := 16 }] : Array Field).mapM fun f => Prod.mk f.offset <$> sizeOf f.type).run Tryz.prog w = .ok #[(0, 1), (1, 1), (2, 1)] w := by intro w; kernel_rfl
theorem plc32 : ∀ w, ((#[{ name := "Square", type := 27, offset := 0, embedded := false, tag := "", pkgPath := "", byteOffset := 0 }, { name := "Order", type := 30, offset := 3, embedded := false, tag := "", pkgPath := "", byteOffset := 40 }] : Array Field).mapM fun f => Prod.mk f.offset <$> sizeOf f.type).run Tryz.prog w = .ok #[(0, 3), (3, 1)] w := by intro w; kernel_rfl
theorem plc109 : ∀ w, ((#[{ name := "code", type := 22, offset := 0, embedded := false, tag := "", pkgPath := "loop.example/g01327/spec", byteOffset := 0 }, { name := "at", type := 3, offset := 1, embedded := false, tag := "", pkgPath := "loop.example/g01327/spec", byteOffset := 24 }, { name := "seed", type := 107, offset := 2, embedded := false, tag := "", pkgPath := "loop.example/g01327/spec", byteOffset := 32 }] : Array Field).mapM fun f => Prod.mk f.offset <$> sizeOf f.type).run Tryz.prog w = .ok #[(0, 1), (1, 1), (2, 1)] w := by intro w; kernel_rfl
theorem pun2 : Tryz.prog.underlying 2 = some (Go.TypeDesc.int Go.IntKind.i64) := by kernel_rfl
theorem pun3 : Tryz.prog.underlying 3 = some (Go.TypeDesc.int Go.IntKind.i64) := by kernel_rfl
theorem pun4 : Tryz.prog.underlying 4 = some Go.TypeDesc.bool := by kernel_rfl
theorem pun5 : Tryz.prog.underlying 5 = some (Go.TypeDesc.int Go.IntKind.u8) := by kernel_rfl
theorem pun22 : Tryz.prog.underlying 22 = some (Go.TypeDesc.slice 5) := by kernel_rfl
theorem pun25 : Tryz.prog.underlying 25 = some (Go.TypeDesc.slice 41) := by kernel_rfl
theorem pun30 : Tryz.prog.underlying 30 = some (Go.TypeDesc.slice 2) := by kernel_rfl
theorem pun41 : Tryz.prog.underlying 41 = some (Go.TypeDesc.float Go.FloatKind.f32) := by kernel_rfl
theorem pun48 : Tryz.prog.underlying 48 = some (Go.TypeDesc.float Go.FloatKind.f64) := by kernel_rfl
theorem pun107 : Tryz.prog.underlying 107 = some (Go.TypeDesc.int Go.IntKind.u64) := by kernel_rfl
theorem pun121 : Tryz.prog.underlying 121 = some (Go.TypeDesc.int Go.IntKind.u64) := by kernel_rfl
theorem siz2 : ∀ w, (sizeOf 2).run Tryz.prog w = .ok 1 w := by intro w; kernel_rfl
theorem siz3 : ∀ w, (sizeOf 3).run Tryz.prog w = .ok 1 w := by intro w; kernel_rfl
theorem siz5 : ∀ w, (sizeOf 5).run Tryz.prog w = .ok 1 w := by intro w; kernel_rfl
theorem siz22 : ∀ w, (sizeOf 22).run Tryz.prog w = .ok 1 w := by intro w; kernel_rfl
theorem siz25 : ∀ w, (sizeOf 25).run Tryz.prog w = .ok 1 w := by intro w; kernel_rfl
theorem siz27 : ∀ w, (sizeOf 27).run Tryz.prog w = .ok 3 w := by intro w; kernel_rfl
theorem siz30 : ∀ w, (sizeOf 30).run Tryz.prog w = .ok 1 w := by intro w; kernel_rfl
theorem siz32 : ∀ w, (sizeOf 32).run Tryz.prog w = .ok 4 w := by intro w; kernel_rfl
theorem siz41 : ∀ w, (sizeOf 41).run Tryz.prog w = .ok 1 w := by intro w; kernel_rfl
theorem siz107 : ∀ w, (sizeOf 107).run Tryz.prog w = .ok 1 w := by intro w; kernel_rfl
theorem tin41 : ∀ w, (typeInfo 41).run Tryz.prog w = .ok Tryz.t41 w := by intro w; kernel_rfl
theorem und9 : ∀ w, (underlying 9).run Tryz.prog w = .ok Go.TypeDesc.string w := by intro w; kernel_rfl
theorem und22 : ∀ w, (underlying 22).run Tryz.prog w = .ok (Go.TypeDesc.slice 5) w := by intro w; kernel_rfl
theorem und25 : ∀ w, (underlying 25).run Tryz.prog w = .ok (Go.TypeDesc.slice 41) w := by intro w; kernel_rfl
theorem und27 : ∀ w, (underlying 27).run Tryz.prog w = .ok (Go.TypeDesc.struct #[{ name := "Rows", type := 2, offset := 0, embedded := false, tag := "", pkgPath := "", byteOffset := 0 }, { name := "Columns", type := 2, offset := 1, embedded := false, tag := "", pkgPath := "", byteOffset := 8 }, { name := "Numbers", type := 25, offset := 2, embedded := false, tag := "", pkgPath := "", byteOffset := 16 }]) w := by intro w; kernel_rfl
theorem und30 : ∀ w, (underlying 30).run Tryz.prog w = .ok (Go.TypeDesc.slice 2) w := by intro w; kernel_rfl
theorem und32 : ∀ w, (underlying 32).run Tryz.prog w = .ok (Go.TypeDesc.struct #[{ name := "Square", type := 27, offset := 0, embedded := false, tag := "", pkgPath := "", byteOffset := 0 }, { name := "Order", type := 30, offset := 3, embedded := false, tag := "", pkgPath := "", byteOffset := 40 }]) w := by intro w; kernel_rfl
theorem und109 : ∀ w, (underlying 109).run Tryz.prog w = .ok (Go.TypeDesc.struct #[{ name := "code", type := 22, offset := 0, embedded := false, tag := "", pkgPath := "loop.example/g01327/spec", byteOffset := 0 }, { name := "at", type := 3, offset := 1, embedded := false, tag := "", pkgPath := "loop.example/g01327/spec", byteOffset := 24 }, { name := "seed", type := 107, offset := 2, embedded := false, tag := "", pkgPath := "loop.example/g01327/spec", byteOffset := 32 }]) w := by intro w; kernel_rfl
theorem zel2 : ∀ S μ, V S μ (AV.i64 0) (Go.Value.int Go.IntKind.i64 0) := by intro S μ; exact (by simp only [V])
theorem zel41 : ∀ S μ, V S μ (AV.f32 (some 0)) (Go.Value.float Go.FloatKind.f32 0) := by intro S μ; exact (ALe.fl (by kernel_rfl) (by kernel_rfl) S μ _ (by simp only [V]))
theorem zer2 : ∀ w, (zeroValue 2).run Tryz.prog w = .ok (Go.Value.int Go.IntKind.i64 0) w := by intro w; kernel_rfl
theorem zer27 : ∀ w, (zeroValue 27).run Tryz.prog w = .ok (Go.Value.agg #[(Go.Value.int Go.IntKind.i64 0), (Go.Value.int Go.IntKind.i64 0), (Go.Value.slice none 0 0)]) w := by intro w; kernel_rfl
theorem zer32 : ∀ w, (zeroValue 32).run Tryz.prog w = .ok (Go.Value.agg #[(Go.Value.int Go.IntKind.i64 0), (Go.Value.int Go.IntKind.i64 0), (Go.Value.slice none 0 0), (Go.Value.slice none 0 0)]) w := by intro w; kernel_rfl
theorem zer41 : ∀ w, (zeroValue 41).run Tryz.prog w = .ok (Go.Value.float Go.FloatKind.f32 0) w := by intro w; kernel_rfl
theorem zer109 : ∀ w, (zeroValue 109).run Tryz.prog w = .ok (Go.Value.agg #[(Go.Value.slice none 0 0), (Go.Value.int Go.IntKind.i64 0), (Go.Value.int Go.IntKind.u64 0)]) w := by intro w; kernel_rfl
theorem zok27 : ZeroOk [AV.i64 0, AV.i64 0, AV.nilsl] (Go.Value.agg #[(Go.Value.int Go.IntKind.i64 0), (Go.Value.int Go.IntKind.i64 0), (Go.Value.slice none 0 0)]) := by intro S μ; simp only [Value.cells, VL]; exact ⟨(by simp only [V]), (by simp only [V]), (by simp only [V]), trivial⟩
theorem zok32 : ZeroOk [AV.i64 0, AV.i64 0, AV.nilsl, AV.nilsl] (Go.Value.agg #[(Go.Value.int Go.IntKind.i64 0), (Go.Value.int Go.IntKind.i64 0), (Go.Value.slice none 0 0), (Go.Value.slice none 0 0)]) := by intro S μ; simp only [Value.cells, VL]; exact ⟨(by simp only [V]), (by simp only [V]), (by simp only [V]), (by simp only [V]), trivial⟩
theorem zok109 : ZeroOk [AV.nilsl, AV.i64 0, AV.ik .u64 0] (Go.Value.agg #[(Go.Value.slice none 0 0), (Go.Value.int Go.IntKind.i64 0), (Go.Value.int Go.IntKind.u64 0)]) := by intro S μ; simp only [Value.cells, VL]; exact ⟨(by simp only [V]), (by simp only [V]), (by simp only [V]), trivial⟩
end Go.Proofs.YtkdociaoknmgbaaGreat
