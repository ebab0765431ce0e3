/- Facts on the program's types and functions. -/
import Derived.Test.YtcoookgeialmnaaGreatAm1
import Derived.Test.YtcoookgeialmnaaGreatChecked
namespace Go.Proofs.YtcoookgeialmnaaGreat
open Go Go.AM
set_option maxRecDepth 20000
set_option maxHeartbeats 4000000
set_option linter.unusedVariables false
set_option linter.unusedSimpArgs false
def lit_77d67bd0 : ByteArray := { data := ((([0, 1, 2, 2, 3, 3, 3, 3, 4, 4, 4, 4, 4, 4, 4, 4, 5, 5, 5, 5, 5, 5, 5, 5, 5, 5, 5, 5, 5, 5, 5, 5, 6, 6, 6, 6, 6, 6, 6, 6, 6, 6, 6, 6, 6, 6, 6, 6, 6, 6, 6, 6, 6, 6, 6, 6, 6, 6, 6, 6, 6, 6, 6, 6] : List UInt8) ++ ([7, 7, 7, 7, 7, 7, 7, 7, 7, 7, 7, 7, 7, 7, 7, 7, 7, 7, 7, 7, 7, 7, 7, 7, 7, 7, 7, 7, 7, 7, 7, 7, 7, 7, 7, 7, 7, 7, 7, 7, 7, 7, 7, 7, 7, 7, 7, 7, 7, 7, 7, 7, 7, 7, 7, 7, 7, 7, 7, 7, 7, 7, 7, 7] : List UInt8)) ++ (([8, 8, 8, 8, 8, 8, 8, 8, 8, 8, 8, 8, 8, 8, 8, 8, 8, 8, 8, 8, 8, 8, 8, 8, 8, 8, 8, 8, 8, 8, 8, 8, 8, 8, 8, 8, 8, 8, 8, 8, 8, 8, 8, 8, 8, 8, 8, 8, 8, 8, 8, 8, 8, 8, 8, 8, 8, 8, 8, 8, 8, 8, 8, 8] : List UInt8) ++ ([8, 8, 8, 8, 8, 8, 8, 8, 8, 8, 8, 8, 8, 8, 8, 8, 8, 8, 8, 8, 8, 8, 8, 8, 8, 8, 8, 8, 8, 8, 8, 8, 8, 8, 8, 8, 8, 8, 8, 8, 8, 8, 8, 8, 8, 8, 8, 8, 8, 8, 8, 8, 8, 8, 8, 8, 8, 8, 8, 8, 8, 8, 8, 8] : List UInt8))).toArray }
theorem mixed : Tryz.prog.follows .mixedOrders = true := by kernel_rfl
theorem agg2 : ∀ w, (isAgg 2).run Tryz.prog w = .ok false w := by intro w; kernel_rfl
theorem agg4 : ∀ w, (isAgg 4).run Tryz.prog w = .ok false w := by intro w; kernel_rfl
theorem agg22 : ∀ w, (isAgg 22).run Tryz.prog w = .ok false w := by intro w; kernel_rfl
theorem agg24 : ∀ w, (isAgg 24).run Tryz.prog w = .ok true w := by intro w; kernel_rfl
theorem agg26 : ∀ w, (isAgg 26).run Tryz.prog w = .ok true w := by intro w; kernel_rfl
theorem agg33 : ∀ w, (isAgg 33).run Tryz.prog w = .ok false w := by intro w; kernel_rfl
theorem agg53 : ∀ w, (isAgg 53).run Tryz.prog w = .ok false w := by intro w; kernel_rfl
theorem agg65 : ∀ w, (isAgg 65).run Tryz.prog w = .ok true w := by intro w; kernel_rfl
theorem ent5 : ∀ (vs : Array Value) w, (callFunc 5 vs).run Tryz.prog w = .ok (.enter 5 vs) w := by intro vs w; kernel_rfl
theorem ent7 : ∀ (vs : Array Value) w, (callFunc 7 vs).run Tryz.prog w = .ok (.enter 7 vs) w := by intro vs w; kernel_rfl
theorem ent9 : ∀ (vs : Array Value) w, (callFunc 9 vs).run Tryz.prog w = .ok (.enter 9 vs) w := by intro vs w; kernel_rfl
theorem ent12 : ∀ (vs : Array Value) w, (callFunc 12 vs).run Tryz.prog w = .ok (.enter 12 vs) w := by intro vs w; kernel_rfl
theorem ent13 : ∀ (vs : Array Value) w, (callFunc 13 vs).run Tryz.prog w = .ok (.enter 13 vs) w := by intro vs w; kernel_rfl
theorem ent14 : ∀ (vs : Array Value) w, (callFunc 14 vs).run Tryz.prog w = .ok (.enter 14 vs) w := by intro vs w; kernel_rfl
theorem ent15 : ∀ (vs : Array Value) w, (callFunc 15 vs).run Tryz.prog w = .ok (.enter 15 vs) w := by intro vs w; kernel_rfl
theorem ent17 : ∀ (vs : Array Value) w, (callFunc 17 vs).run Tryz.prog w = .ok (.enter 17 vs) w := by intro vs w; kernel_rfl
theorem ent20 : ∀ (vs : Array Value) w, (callFunc 20 vs).run Tryz.prog w = .ok (.enter 20 vs) w := by intro vs w; kernel_rfl
theorem ent21 : ∀ (vs : Array Value) w, (callFunc 21 vs).run Tryz.prog w = .ok (.enter 21 vs) w := by intro vs w; kernel_rfl
theorem ent22 : ∀ (vs : Array Value) w, (callFunc 22 vs).run Tryz.prog w = .ok (.enter 22 vs) w := by intro vs w; kernel_rfl
theorem ent23 : ∀ (vs : Array Value) w, (callFunc 23 vs).run Tryz.prog w = .ok (.enter 23 vs) w := by intro vs w; kernel_rfl
theorem ent25 : ∀ (vs : Array Value) w, (callFunc 25 vs).run Tryz.prog w = .ok (.enter 25 vs) w := by intro vs w; kernel_rfl
theorem ent27 : ∀ (vs : Array Value) w, (callFunc 27 vs).run Tryz.prog w = .ok (.enter 27 vs) w := by intro vs w; kernel_rfl
theorem ent31 : ∀ (vs : Array Value) w, (callFunc 31 vs).run Tryz.prog w = .ok (.enter 31 vs) w := by intro vs w; kernel_rfl
theorem ent32 : ∀ (vs : Array Value) w, (callFunc 32 vs).run Tryz.prog w = .ok (.enter 32 vs) w := by intro vs w; kernel_rfl
theorem ent34 : ∀ (vs : Array Value) w, (callFunc 34 vs).run Tryz.prog w = .ok (.enter 34 vs) w := by intro vs w; kernel_rfl
theorem ent35 : ∀ (vs : Array Value) w, (callFunc 35 vs).run Tryz.prog w = .ok (.enter 35 vs) w := by intro vs w; kernel_rfl
theorem ent36 : ∀ (vs : Array Value) w, (callFunc 36 vs).run Tryz.prog w = .ok (.enter 36 vs) w := by intro vs w; kernel_rfl
theorem ent37 : ∀ (vs : Array Value) w, (callFunc 37 vs).run Tryz.prog w = .ok (.enter 37 vs) w := by intro vs w; kernel_rfl
theorem ent40 : ∀ (vs : Array Value) w, (callFunc 40 vs).run Tryz.prog w = .ok (.enter 40 vs) w := by intro vs w; kernel_rfl
theorem ent41 : ∀ (vs : Array Value) w, (callFunc 41 vs).run Tryz.prog w = .ok (.enter 41 vs) w := by intro vs w; kernel_rfl
theorem ent42 : ∀ (vs : Array Value) w, (callFunc 42 vs).run Tryz.prog w = .ok (.enter 42 vs) w := by intro vs w; kernel_rfl
theorem ent43 : ∀ (vs : Array Value) w, (callFunc 43 vs).run Tryz.prog w = .ok (.enter 43 vs) w := by intro vs w; kernel_rfl
theorem ent44 : ∀ (vs : Array Value) w, (callFunc 44 vs).run Tryz.prog w = .ok (.enter 44 vs) w := by intro vs w; kernel_rfl
theorem ent45 : ∀ (vs : Array Value) w, (callFunc 45 vs).run Tryz.prog w = .ok (.enter 45 vs) w := by intro vs w; kernel_rfl
theorem ent46 : ∀ (vs : Array Value) w, (callFunc 46 vs).run Tryz.prog w = .ok (.enter 46 vs) w := by intro vs w; kernel_rfl
theorem ent47 : ∀ (vs : Array Value) w, (callFunc 47 vs).run Tryz.prog w = .ok (.enter 47 vs) w := by intro vs w; kernel_rfl
theorem ent48 : ∀ (vs : Array Value) w, (callFunc 48 vs).run Tryz.prog w = .ok (.enter 48 vs) w := by intro vs w; kernel_rfl
theorem ent50 : ∀ (vs : Array Value) w, (callFunc 50 vs).run Tryz.prog w = .ok (.enter 50 vs) w := by intro vs w; kernel_rfl
theorem ent53 : ∀ (vs : Array Value) w, (callFunc 53 vs).run Tryz.prog w = .ok (.enter 53 vs) w := by intro vs w; kernel_rfl
theorem ent58 : ∀ (vs : Array Value) w, (callFunc 58 vs).run Tryz.prog w = .ok (.enter 58 vs) w := by intro vs w; kernel_rfl
theorem ent59 : ∀ (vs : Array Value) w, (callFunc 59 vs).run Tryz.prog w = .ok (.enter 59 vs) w := by intro vs w; kernel_rfl
theorem ent60 : ∀ (vs : Array Value) w, (callFunc 60 vs).run Tryz.prog w = .ok (.enter 60 vs) w := by intro vs w; kernel_rfl
theorem ent62 : ∀ (vs : Array Value) w, (callFunc 62 vs).run Tryz.prog w = .ok (.enter 62 vs) w := by intro vs w; kernel_rfl
theorem ent65 : ∀ (vs : Array Value) w, (callFunc 65 vs).run Tryz.prog w = .ok (.enter 65 vs) w := by intro vs w; kernel_rfl
theorem ent68 : ∀ (vs : Array Value) w, (callFunc 68 vs).run Tryz.prog w = .ok (.enter 68 vs) w := by intro vs w; kernel_rfl
theorem ent69 : ∀ (vs : Array Value) w, (callFunc 69 vs).run Tryz.prog w = .ok (.enter 69 vs) w := by intro vs w; kernel_rfl
theorem ent70 : ∀ (vs : Array Value) w, (callFunc 70 vs).run Tryz.prog w = .ok (.enter 70 vs) w := by intro vs w; kernel_rfl
theorem ent71 : ∀ (vs : Array Value) w, (callFunc 71 vs).run Tryz.prog w = .ok (.enter 71 vs) w := by intro vs w; kernel_rfl
theorem ent72 : ∀ (vs : Array Value) w, (callFunc 72 vs).run Tryz.prog w = .ok (.enter 72 vs) w := by intro vs w; kernel_rfl
theorem ent73 : ∀ (vs : Array Value) w, (callFunc 73 vs).run Tryz.prog w = .ok (.enter 73 vs) w := by intro vs w; kernel_rfl
theorem ent74 : ∀ (vs : Array Value) w, (callFunc 74 vs).run Tryz.prog w = .ok (.enter 74 vs) w := by intro vs w; kernel_rfl
theorem ent75 : ∀ (vs : Array Value) w, (callFunc 75 vs).run Tryz.prog w = .ok (.enter 75 vs) w := by intro vs w; kernel_rfl
theorem ent76 : ∀ (vs : Array Value) w, (callFunc 76 vs).run Tryz.prog w = .ok (.enter 76 vs) w := by intro vs w; kernel_rfl
theorem ent77 : ∀ (vs : Array Value) w, (callFunc 77 vs).run Tryz.prog w = .ok (.enter 77 vs) w := by intro vs w; kernel_rfl
theorem ent78 : ∀ (vs : Array Value) w, (callFunc 78 vs).run Tryz.prog w = .ok (.enter 78 vs) w := by intro vs w; kernel_rfl
theorem ent79 : ∀ (vs : Array Value) w, (callFunc 79 vs).run Tryz.prog w = .ok (.enter 79 vs) w := by intro vs w; kernel_rfl
theorem ent80 : ∀ (vs : Array Value) w, (callFunc 80 vs).run Tryz.prog w = .ok (.enter 80 vs) w := by intro vs w; kernel_rfl
theorem ent81 : ∀ (vs : Array Value) w, (callFunc 81 vs).run Tryz.prog w = .ok (.enter 81 vs) w := by intro vs w; kernel_rfl
theorem ent82 : ∀ (vs : Array Value) w, (callFunc 82 vs).run Tryz.prog w = .ok (.enter 82 vs) w := by intro vs w; kernel_rfl
theorem ent83 : ∀ (vs : Array Value) w, (callFunc 83 vs).run Tryz.prog w = .ok (.enter 83 vs) w := by intro vs w; kernel_rfl
theorem ent84 : ∀ (vs : Array Value) w, (callFunc 84 vs).run Tryz.prog w = .ok (.enter 84 vs) w := by intro vs w; kernel_rfl
theorem ent85 : ∀ (vs : Array Value) w, (callFunc 85 vs).run Tryz.prog w = .ok (.enter 85 vs) w := by intro vs w; kernel_rfl
theorem ent86 : ∀ (vs : Array Value) w, (callFunc 86 vs).run Tryz.prog w = .ok (.enter 86 vs) w := by intro vs w; kernel_rfl
theorem ent87 : ∀ (vs : Array Value) w, (callFunc 87 vs).run Tryz.prog w = .ok (.enter 87 vs) w := by intro vs w; kernel_rfl
theorem ent88 : ∀ (vs : Array Value) w, (callFunc 88 vs).run Tryz.prog w = .ok (.enter 88 vs) w := by intro vs w; kernel_rfl
theorem ent89 : ∀ (vs : Array Value) w, (callFunc 89 vs).run Tryz.prog w = .ok (.enter 89 vs) w := by intro vs w; kernel_rfl
theorem ent90 : ∀ (vs : Array Value) w, (callFunc 90 vs).run Tryz.prog w = .ok (.enter 90 vs) w := by intro vs w; kernel_rfl
theorem ent91 : ∀ (vs : Array Value) w, (callFunc 91 vs).run Tryz.prog w = .ok (.enter 91 vs) w := by intro vs w; kernel_rfl
theorem ent92 : ∀ (vs : Array Value) w, (callFunc 92 vs).run Tryz.prog w = .ok (.enter 92 vs) w := by intro vs w; kernel_rfl
theorem ent93 : ∀ (vs : Array Value) w, (callFunc 93 vs).run Tryz.prog w = .ok (.enter 93 vs) w := by intro vs w; kernel_rfl
theorem ent94 : ∀ (vs : Array Value) w, (callFunc 94 vs).run Tryz.prog w = .ok (.enter 94 vs) w := by intro vs w; kernel_rfl
theorem ent95 : ∀ (vs : Array Value) w, (callFunc 95 vs).run Tryz.prog w = .ok (.enter 95 vs) w := by intro vs w; kernel_rfl
theorem ent97 : ∀ (vs : Array Value) w, (callFunc 97 vs).run Tryz.prog w = .ok (.enter 97 vs) w := by intro vs w; kernel_rfl
theorem ent98 : ∀ (vs : Array Value) w, (callFunc 98 vs).run Tryz.prog w = .ok (.enter 98 vs) w := by intro vs w; kernel_rfl
theorem ent99 : ∀ (vs : Array Value) w, (callFunc 99 vs).run Tryz.prog w = .ok (.enter 99 vs) w := by intro vs w; kernel_rfl
theorem ent100 : ∀ (vs : Array Value) w, (callFunc 100 vs).run Tryz.prog w = .ok (.enter 100 vs) w := by intro vs w; kernel_rfl
theorem ent102 : ∀ (vs : Array Value) w, (callFunc 102 vs).run Tryz.prog w = .ok (.enter 102 vs) w := by intro vs w; kernel_rfl
theorem ent103 : ∀ (vs : Array Value) w, (callFunc 103 vs).run Tryz.prog w = .ok (.enter 103 vs) w := by intro vs w; kernel_rfl
theorem ent106 : ∀ (vs : Array Value) w, (callFunc 106 vs).run Tryz.prog w = .ok (.enter 106 vs) w := by intro vs w; kernel_rfl
theorem ent112 : ∀ (vs : Array Value) w, (callFunc 112 vs).run Tryz.prog w = .ok (.enter 112 vs) w := by intro vs w; kernel_rfl
theorem ent116 : ∀ (vs : Array Value) w, (callFunc 116 vs).run Tryz.prog w = .ok (.enter 116 vs) w := by intro vs w; kernel_rfl
theorem ent117 : ∀ (vs : Array Value) w, (callFunc 117 vs).run Tryz.prog w = .ok (.enter 117 vs) w := by intro vs w; kernel_rfl
theorem ent118 : ∀ (vs : Array Value) w, (callFunc 118 vs).run Tryz.prog w = .ok (.enter 118 vs) w := by intro vs w; kernel_rfl
theorem ent119 : ∀ (vs : Array Value) w, (callFunc 119 vs).run Tryz.prog w = .ok (.enter 119 vs) w := by intro vs w; kernel_rfl
theorem ent120 : ∀ (vs : Array Value) w, (callFunc 120 vs).run Tryz.prog w = .ok (.enter 120 vs) w := by intro vs w; kernel_rfl
theorem ent121 : ∀ (vs : Array Value) w, (callFunc 121 vs).run Tryz.prog w = .ok (.enter 121 vs) w := by intro vs w; kernel_rfl
theorem ent122 : ∀ (vs : Array Value) w, (callFunc 122 vs).run Tryz.prog w = .ok (.enter 122 vs) w := by intro vs w; kernel_rfl
theorem ent123 : ∀ (vs : Array Value) w, (callFunc 123 vs).run Tryz.prog w = .ok (.enter 123 vs) w := by intro vs w; kernel_rfl
theorem ent124 : ∀ (vs : Array Value) w, (callFunc 124 vs).run Tryz.prog w = .ok (.enter 124 vs) w := by intro vs w; kernel_rfl
theorem ent125 : ∀ (vs : Array Value) w, (callFunc 125 vs).run Tryz.prog w = .ok (.enter 125 vs) w := by intro vs w; kernel_rfl
theorem ent126 : ∀ (vs : Array Value) w, (callFunc 126 vs).run Tryz.prog w = .ok (.enter 126 vs) w := by intro vs w; kernel_rfl
theorem ent127 : ∀ (vs : Array Value) w, (callFunc 127 vs).run Tryz.prog w = .ok (.enter 127 vs) w := by intro vs w; kernel_rfl
theorem ent128 : ∀ (vs : Array Value) w, (callFunc 128 vs).run Tryz.prog w = .ok (.enter 128 vs) w := by intro vs w; kernel_rfl
theorem ent131 : ∀ (vs : Array Value) w, (callFunc 131 vs).run Tryz.prog w = .ok (.enter 131 vs) w := by intro vs w; kernel_rfl
theorem ent138 : ∀ (vs : Array Value) w, (callFunc 138 vs).run Tryz.prog w = .ok (.enter 138 vs) w := by intro vs w; kernel_rfl
theorem ent141 : ∀ (vs : Array Value) w, (callFunc 141 vs).run Tryz.prog w = .ok (.enter 141 vs) w := by intro vs w; kernel_rfl
theorem ent142 : ∀ (vs : Array Value) w, (callFunc 142 vs).run Tryz.prog w = .ok (.enter 142 vs) w := by intro vs w; kernel_rfl
theorem ent143 : ∀ (vs : Array Value) w, (callFunc 143 vs).run Tryz.prog w = .ok (.enter 143 vs) w := by intro vs w; kernel_rfl
theorem ent144 : ∀ (vs : Array Value) w, (callFunc 144 vs).run Tryz.prog w = .ok (.enter 144 vs) w := by intro vs w; kernel_rfl
theorem ent148 : ∀ (vs : Array Value) w, (callFunc 148 vs).run Tryz.prog w = .ok (.enter 148 vs) w := by intro vs w; kernel_rfl
theorem ent149 : ∀ (vs : Array Value) w, (callFunc 149 vs).run Tryz.prog w = .ok (.enter 149 vs) w := by intro vs w; kernel_rfl
theorem ent150 : ∀ (vs : Array Value) w, (callFunc 150 vs).run Tryz.prog w = .ok (.enter 150 vs) w := by intro vs w; kernel_rfl
theorem ent152 : ∀ (vs : Array Value) w, (callFunc 152 vs).run Tryz.prog w = .ok (.enter 152 vs) w := by intro vs w; kernel_rfl
theorem ext139 : ∀ (b : Nat) w, (callFunc 139 #[.int .u64 b]).run Tryz.prog w = .ok (.value (.float .f64 b)) w := by intro b w; kernel_rfl
theorem ext140 : ∀ (b : Nat) w, (callFunc 140 #[.float .f64 b]).run Tryz.prog w = .ok (.value (.int .u64 b)) w := by intro b w; kernel_rfl
theorem inf2 : Tryz.prog.info? 2 = some Tryz.t2 := by kernel_rfl
theorem inf33 : Tryz.prog.info? 33 = some Tryz.t33 := by kernel_rfl
theorem plc26 : ∀ w, ((#[{ name := "Rows", type := 2, offset := 0, embedded := false, tag := "", pkgPath := "", byteOffset := 0 }, { name := "Columns", type := 2, offset := 1, embedded := false, tag := "", pkgPath := "", byteOffset := 8 }, { name := "Numbers", type := 22, offset := 2, embedded := false, tag := "", pkgPath := "", byteOffset := 16 }] : Array Field).mapM fun f => Prod.mk f.offset <$> sizeOf f.type).run Tryz.prog w = .ok #[(0, 1), (1, 1), (2, 1)] w := by intro w; kernel_rfl
theorem plc65 : ∀ w, ((#[{ name := "Square", type := 26, offset := 0, embedded := false, tag := "", pkgPath := "", byteOffset := 0 }, { name := "Order", type := 53, offset := 3, embedded := false, tag := "", pkgPath := "", byteOffset := 40 }] : Array Field).mapM fun f => Prod.mk f.offset <$> sizeOf f.type).run Tryz.prog w = .ok #[(0, 3), (3, 1)] w := by intro w; kernel_rfl
theorem pun2 : Tryz.prog.underlying 2 = some (Go.TypeDesc.int Go.IntKind.i64) := by kernel_rfl
theorem pun3 : Tryz.prog.underlying 3 = some (Go.TypeDesc.int Go.IntKind.i64) := by kernel_rfl
theorem pun4 : Tryz.prog.underlying 4 = some Go.TypeDesc.bool := by kernel_rfl
theorem pun5 : Tryz.prog.underlying 5 = some (Go.TypeDesc.int Go.IntKind.u8) := by kernel_rfl
theorem pun22 : Tryz.prog.underlying 22 = some (Go.TypeDesc.slice 33) := by kernel_rfl
theorem pun24 : Tryz.prog.underlying 24 = some (Go.TypeDesc.struct #[{ name := "Rows", type := 2, offset := 0, embedded := false, tag := "", pkgPath := "", byteOffset := 0 }, { name := "Columns", type := 2, offset := 1, embedded := false, tag := "", pkgPath := "", byteOffset := 8 }, { name := "Numbers", type := 22, offset := 2, embedded := false, tag := "", pkgPath := "", byteOffset := 16 }]) := by kernel_rfl
theorem pun33 : Tryz.prog.underlying 33 = some (Go.TypeDesc.float Go.FloatKind.f32) := by kernel_rfl
theorem pun37 : Tryz.prog.underlying 37 = some (Go.TypeDesc.float Go.FloatKind.f64) := by kernel_rfl
theorem pun53 : Tryz.prog.underlying 53 = some (Go.TypeDesc.slice 2) := by kernel_rfl
theorem pun89 : Tryz.prog.underlying 89 = some (Go.TypeDesc.int Go.IntKind.u64) := by kernel_rfl
theorem pun121 : Tryz.prog.underlying 121 = some (Go.TypeDesc.int Go.IntKind.u64) := by kernel_rfl
theorem siz2 : ∀ w, (sizeOf 2).run Tryz.prog w = .ok 1 w := by intro w; kernel_rfl
theorem siz4 : ∀ w, (sizeOf 4).run Tryz.prog w = .ok 1 w := by intro w; kernel_rfl
theorem siz22 : ∀ w, (sizeOf 22).run Tryz.prog w = .ok 1 w := by intro w; kernel_rfl
theorem siz24 : ∀ w, (sizeOf 24).run Tryz.prog w = .ok 3 w := by intro w; kernel_rfl
theorem siz26 : ∀ w, (sizeOf 26).run Tryz.prog w = .ok 3 w := by intro w; kernel_rfl
theorem siz33 : ∀ w, (sizeOf 33).run Tryz.prog w = .ok 1 w := by intro w; kernel_rfl
theorem siz53 : ∀ w, (sizeOf 53).run Tryz.prog w = .ok 1 w := by intro w; kernel_rfl
theorem siz65 : ∀ w, (sizeOf 65).run Tryz.prog w = .ok 4 w := by intro w; kernel_rfl
theorem tin4 : ∀ w, (typeInfo 4).run Tryz.prog w = .ok Tryz.t4 w := by intro w; kernel_rfl
theorem tin33 : ∀ w, (typeInfo 33).run Tryz.prog w = .ok Tryz.t33 w := by intro w; kernel_rfl
theorem und9 : ∀ w, (underlying 9).run Tryz.prog w = .ok Go.TypeDesc.string w := by intro w; kernel_rfl
theorem und22 : ∀ w, (underlying 22).run Tryz.prog w = .ok (Go.TypeDesc.slice 33) w := by intro w; kernel_rfl
theorem und24 : ∀ w, (underlying 24).run Tryz.prog w = .ok (Go.TypeDesc.struct #[{ name := "Rows", type := 2, offset := 0, embedded := false, tag := "", pkgPath := "", byteOffset := 0 }, { name := "Columns", type := 2, offset := 1, embedded := false, tag := "", pkgPath := "", byteOffset := 8 }, { name := "Numbers", type := 22, offset := 2, embedded := false, tag := "", pkgPath := "", byteOffset := 16 }]) w := by intro w; kernel_rfl
theorem und26 : ∀ w, (underlying 26).run Tryz.prog w = .ok (Go.TypeDesc.struct #[{ name := "Rows", type := 2, offset := 0, embedded := false, tag := "", pkgPath := "", byteOffset := 0 }, { name := "Columns", type := 2, offset := 1, embedded := false, tag := "", pkgPath := "", byteOffset := 8 }, { name := "Numbers", type := 22, offset := 2, embedded := false, tag := "", pkgPath := "", byteOffset := 16 }]) w := by intro w; kernel_rfl
theorem und46 : ∀ w, (underlying 46).run Tryz.prog w = .ok (Go.TypeDesc.slice 4) w := by intro w; kernel_rfl
theorem und53 : ∀ w, (underlying 53).run Tryz.prog w = .ok (Go.TypeDesc.slice 2) w := by intro w; kernel_rfl
theorem und65 : ∀ w, (underlying 65).run Tryz.prog w = .ok (Go.TypeDesc.struct #[{ name := "Square", type := 26, offset := 0, embedded := false, tag := "", pkgPath := "", byteOffset := 0 }, { name := "Order", type := 53, offset := 3, embedded := false, tag := "", pkgPath := "", byteOffset := 40 }]) w := by intro w; kernel_rfl
theorem zel2 : ∀ S μ, V S μ (AV.i64 0) (Go.Value.int Go.IntKind.i64 0) := by intro S μ; exact (by simp only [V])
theorem zel4 : ∀ S μ, V S μ (AV.b false) (Go.Value.bool false) := by intro S μ; exact (by simp only [V])
theorem zel33 : ∀ S μ, V S μ (AV.f32 (some 0)) (Go.Value.float Go.FloatKind.f32 0) := by intro S μ; exact (ALe.fl (by kernel_rfl) (by kernel_rfl) S μ _ (by simp only [V]))
theorem zer2 : ∀ w, (zeroValue 2).run Tryz.prog w = .ok (Go.Value.int Go.IntKind.i64 0) w := by intro w; kernel_rfl
theorem zer4 : ∀ w, (zeroValue 4).run Tryz.prog w = .ok (Go.Value.bool false) w := by intro w; kernel_rfl
theorem zer26 : ∀ w, (zeroValue 26).run Tryz.prog w = .ok (Go.Value.agg #[(Go.Value.int Go.IntKind.i64 0), (Go.Value.int Go.IntKind.i64 0), (Go.Value.slice none 0 0)]) w := by intro w; kernel_rfl
theorem zer33 : ∀ w, (zeroValue 33).run Tryz.prog w = .ok (Go.Value.float Go.FloatKind.f32 0) w := by intro w; kernel_rfl
theorem zer65 : ∀ w, (zeroValue 65).run Tryz.prog w = .ok (Go.Value.agg #[(Go.Value.int Go.IntKind.i64 0), (Go.Value.int Go.IntKind.i64 0), (Go.Value.slice none 0 0), (Go.Value.slice none 0 0)]) w := by intro w; kernel_rfl
theorem zok26 : ZeroOk [AV.i64 0, AV.i64 0, AV.nilsl] (Go.Value.agg #[(Go.Value.int Go.IntKind.i64 0), (Go.Value.int Go.IntKind.i64 0), (Go.Value.slice none 0 0)]) := by intro S μ; simp only [Value.cells, VL]; exact ⟨(by simp only [V]), (by simp only [V]), (by simp only [V]), trivial⟩
theorem zok65 : ZeroOk [AV.i64 0, AV.i64 0, AV.nilsl, AV.nilsl] (Go.Value.agg #[(Go.Value.int Go.IntKind.i64 0), (Go.Value.int Go.IntKind.i64 0), (Go.Value.slice none 0 0), (Go.Value.slice none 0 0)]) := by intro S μ; simp only [Value.cells, VL]; exact ⟨(by simp only [V]), (by simp only [V]), (by simp only [V]), (by simp only [V]), trivial⟩
end Go.Proofs.YtcoookgeialmnaaGreat
