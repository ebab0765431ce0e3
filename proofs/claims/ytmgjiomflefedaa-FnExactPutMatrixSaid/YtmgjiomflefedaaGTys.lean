/- Facts on the program's types and functions. -/
import Derived.Test.YtmgjiomflefedaaAmBind
import Derived.Test.YtmgjiomflefedaaChecked
namespace Go.Proofs.Ytmgjiomflefedaa
open Go Go.AM
set_option maxRecDepth 20000
set_option maxHeartbeats 4000000
set_option linter.unusedVariables false
set_option linter.unusedSimpArgs false
theorem mixed : Try.prog.follows .mixedOrders = true := by kernel_rfl
theorem agg2 : ∀ w, (isAgg 2).run Try.prog w = .ok false w := by intro w; kernel_rfl
theorem agg34 : ∀ w, (isAgg 34).run Try.prog w = .ok false w := by intro w; kernel_rfl
theorem agg38 : ∀ w, (isAgg 38).run Try.prog w = .ok false w := by intro w; kernel_rfl
theorem agg40 : ∀ w, (isAgg 40).run Try.prog w = .ok true w := by intro w; kernel_rfl
theorem agg42 : ∀ w, (isAgg 42).run Try.prog w = .ok true w := by intro w; kernel_rfl
theorem agg43 : ∀ w, (isAgg 43).run Try.prog w = .ok false w := by intro w; kernel_rfl
theorem agg45 : ∀ w, (isAgg 45).run Try.prog w = .ok true w := by intro w; kernel_rfl
theorem agg47 : ∀ w, (isAgg 47).run Try.prog w = .ok true w := by intro w; kernel_rfl
theorem agg52 : ∀ w, (isAgg 52).run Try.prog w = .ok true w := by intro w; kernel_rfl
theorem ent19 : ∀ (vs : Array Value) w, (callFunc 19 vs).run Try.prog w = .ok (.enter 19 vs) w := by intro vs w; kernel_rfl
theorem ent20 : ∀ (vs : Array Value) w, (callFunc 20 vs).run Try.prog w = .ok (.enter 20 vs) w := by intro vs w; kernel_rfl
theorem ent21 : ∀ (vs : Array Value) w, (callFunc 21 vs).run Try.prog w = .ok (.enter 21 vs) w := by intro vs w; kernel_rfl
theorem ent22 : ∀ (vs : Array Value) w, (callFunc 22 vs).run Try.prog w = .ok (.enter 22 vs) w := by intro vs w; kernel_rfl
theorem ent23 : ∀ (vs : Array Value) w, (callFunc 23 vs).run Try.prog w = .ok (.enter 23 vs) w := by intro vs w; kernel_rfl
theorem ent24 : ∀ (vs : Array Value) w, (callFunc 24 vs).run Try.prog w = .ok (.enter 24 vs) w := by intro vs w; kernel_rfl
theorem ent25 : ∀ (vs : Array Value) w, (callFunc 25 vs).run Try.prog w = .ok (.enter 25 vs) w := by intro vs w; kernel_rfl
theorem ent26 : ∀ (vs : Array Value) w, (callFunc 26 vs).run Try.prog w = .ok (.enter 26 vs) w := by intro vs w; kernel_rfl
theorem ent27 : ∀ (vs : Array Value) w, (callFunc 27 vs).run Try.prog w = .ok (.enter 27 vs) w := by intro vs w; kernel_rfl
theorem ent28 : ∀ (vs : Array Value) w, (callFunc 28 vs).run Try.prog w = .ok (.enter 28 vs) w := by intro vs w; kernel_rfl
theorem ent29 : ∀ (vs : Array Value) w, (callFunc 29 vs).run Try.prog w = .ok (.enter 29 vs) w := by intro vs w; kernel_rfl
theorem ent30 : ∀ (vs : Array Value) w, (callFunc 30 vs).run Try.prog w = .ok (.enter 30 vs) w := by intro vs w; kernel_rfl
theorem ent48 : ∀ (vs : Array Value) w, (callFunc 48 vs).run Try.prog w = .ok (.enter 48 vs) w := by intro vs w; kernel_rfl
theorem ent49 : ∀ (vs : Array Value) w, (callFunc 49 vs).run Try.prog w = .ok (.enter 49 vs) w := by intro vs w; kernel_rfl
theorem ent50 : ∀ (vs : Array Value) w, (callFunc 50 vs).run Try.prog w = .ok (.enter 50 vs) w := by intro vs w; kernel_rfl
theorem ent51 : ∀ (vs : Array Value) w, (callFunc 51 vs).run Try.prog w = .ok (.enter 51 vs) w := by intro vs w; kernel_rfl
theorem ent52 : ∀ (vs : Array Value) w, (callFunc 52 vs).run Try.prog w = .ok (.enter 52 vs) w := by intro vs w; kernel_rfl
theorem ent53 : ∀ (vs : Array Value) w, (callFunc 53 vs).run Try.prog w = .ok (.enter 53 vs) w := by intro vs w; kernel_rfl
theorem ent54 : ∀ (vs : Array Value) w, (callFunc 54 vs).run Try.prog w = .ok (.enter 54 vs) w := by intro vs w; kernel_rfl
theorem ent55 : ∀ (vs : Array Value) w, (callFunc 55 vs).run Try.prog w = .ok (.enter 55 vs) w := by intro vs w; kernel_rfl
theorem ent56 : ∀ (vs : Array Value) w, (callFunc 56 vs).run Try.prog w = .ok (.enter 56 vs) w := by intro vs w; kernel_rfl
theorem ent57 : ∀ (vs : Array Value) w, (callFunc 57 vs).run Try.prog w = .ok (.enter 57 vs) w := by intro vs w; kernel_rfl
theorem ent58 : ∀ (vs : Array Value) w, (callFunc 58 vs).run Try.prog w = .ok (.enter 58 vs) w := by intro vs w; kernel_rfl
theorem ent59 : ∀ (vs : Array Value) w, (callFunc 59 vs).run Try.prog w = .ok (.enter 59 vs) w := by intro vs w; kernel_rfl
theorem ent60 : ∀ (vs : Array Value) w, (callFunc 60 vs).run Try.prog w = .ok (.enter 60 vs) w := by intro vs w; kernel_rfl
theorem ent61 : ∀ (vs : Array Value) w, (callFunc 61 vs).run Try.prog w = .ok (.enter 61 vs) w := by intro vs w; kernel_rfl
theorem ent62 : ∀ (vs : Array Value) w, (callFunc 62 vs).run Try.prog w = .ok (.enter 62 vs) w := by intro vs w; kernel_rfl
theorem ent63 : ∀ (vs : Array Value) w, (callFunc 63 vs).run Try.prog w = .ok (.enter 63 vs) w := by intro vs w; kernel_rfl
theorem ent64 : ∀ (vs : Array Value) w, (callFunc 64 vs).run Try.prog w = .ok (.enter 64 vs) w := by intro vs w; kernel_rfl
theorem ent65 : ∀ (vs : Array Value) w, (callFunc 65 vs).run Try.prog w = .ok (.enter 65 vs) w := by intro vs w; kernel_rfl
theorem ent66 : ∀ (vs : Array Value) w, (callFunc 66 vs).run Try.prog w = .ok (.enter 66 vs) w := by intro vs w; kernel_rfl
theorem ent93 : ∀ (vs : Array Value) w, (callFunc 93 vs).run Try.prog w = .ok (.enter 93 vs) w := by intro vs w; kernel_rfl
theorem ent94 : ∀ (vs : Array Value) w, (callFunc 94 vs).run Try.prog w = .ok (.enter 94 vs) w := by intro vs w; kernel_rfl
theorem ent95 : ∀ (vs : Array Value) w, (callFunc 95 vs).run Try.prog w = .ok (.enter 95 vs) w := by intro vs w; kernel_rfl
theorem ent96 : ∀ (vs : Array Value) w, (callFunc 96 vs).run Try.prog w = .ok (.enter 96 vs) w := by intro vs w; kernel_rfl
theorem ent97 : ∀ (vs : Array Value) w, (callFunc 97 vs).run Try.prog w = .ok (.enter 97 vs) w := by intro vs w; kernel_rfl
theorem ent98 : ∀ (vs : Array Value) w, (callFunc 98 vs).run Try.prog w = .ok (.enter 98 vs) w := by intro vs w; kernel_rfl
theorem ent99 : ∀ (vs : Array Value) w, (callFunc 99 vs).run Try.prog w = .ok (.enter 99 vs) w := by intro vs w; kernel_rfl
theorem ent100 : ∀ (vs : Array Value) w, (callFunc 100 vs).run Try.prog w = .ok (.enter 100 vs) w := by intro vs w; kernel_rfl
theorem ent101 : ∀ (vs : Array Value) w, (callFunc 101 vs).run Try.prog w = .ok (.enter 101 vs) w := by intro vs w; kernel_rfl
theorem ent102 : ∀ (vs : Array Value) w, (callFunc 102 vs).run Try.prog w = .ok (.enter 102 vs) w := by intro vs w; kernel_rfl
theorem ent103 : ∀ (vs : Array Value) w, (callFunc 103 vs).run Try.prog w = .ok (.enter 103 vs) w := by intro vs w; kernel_rfl
theorem ent104 : ∀ (vs : Array Value) w, (callFunc 104 vs).run Try.prog w = .ok (.enter 104 vs) w := by intro vs w; kernel_rfl
theorem ent118 : ∀ (vs : Array Value) w, (callFunc 118 vs).run Try.prog w = .ok (.enter 118 vs) w := by intro vs w; kernel_rfl
theorem ent119 : ∀ (vs : Array Value) w, (callFunc 119 vs).run Try.prog w = .ok (.enter 119 vs) w := by intro vs w; kernel_rfl
theorem ent120 : ∀ (vs : Array Value) w, (callFunc 120 vs).run Try.prog w = .ok (.enter 120 vs) w := by intro vs w; kernel_rfl
theorem ent121 : ∀ (vs : Array Value) w, (callFunc 121 vs).run Try.prog w = .ok (.enter 121 vs) w := by intro vs w; kernel_rfl
theorem ent130 : ∀ (vs : Array Value) w, (callFunc 130 vs).run Try.prog w = .ok (.enter 130 vs) w := by intro vs w; kernel_rfl
theorem ent131 : ∀ (vs : Array Value) w, (callFunc 131 vs).run Try.prog w = .ok (.enter 131 vs) w := by intro vs w; kernel_rfl
theorem ent136 : ∀ (vs : Array Value) w, (callFunc 136 vs).run Try.prog w = .ok (.enter 136 vs) w := by intro vs w; kernel_rfl
theorem ent137 : ∀ (vs : Array Value) w, (callFunc 137 vs).run Try.prog w = .ok (.enter 137 vs) w := by intro vs w; kernel_rfl
theorem ent139 : ∀ (vs : Array Value) w, (callFunc 139 vs).run Try.prog w = .ok (.enter 139 vs) w := by intro vs w; kernel_rfl
theorem ext132 : ∀ (b : Nat) w, (callFunc 132 #[.float .f64 b]).run Try.prog w = .ok (.value (.int .u64 b)) w := by intro b w; kernel_rfl
theorem ext140 : ∀ (b : Nat) w, (callFunc 140 #[.int .u64 b]).run Try.prog w = .ok (.value (.float .f64 b)) w := by intro b w; kernel_rfl
theorem inf34 : Try.prog.info? 34 = some Try.t34 := by kernel_rfl
theorem plc40 : ∀ w, ((#[{ name := "Rows", type := 2, offset := 0, embedded := false, tag := "", pkgPath := "", byteOffset := 0 }, { name := "Columns", type := 2, offset := 1, embedded := false, tag := "", pkgPath := "", byteOffset := 8 }, { name := "Numbers", type := 38, offset := 2, embedded := false, tag := "", pkgPath := "", byteOffset := 16 }] : Array Field).mapM fun f => Prod.mk f.offset <$> sizeOf f.type).run Try.prog w = .ok #[(0, 1), (1, 1), (2, 1)] w := by intro w; kernel_rfl
theorem plc42 : ∀ w, ((#[{ name := "Mids", type := 38, offset := 0, embedded := false, tag := "", pkgPath := "", byteOffset := 0 }, { name := "Sides", type := 38, offset := 1, embedded := false, tag := "", pkgPath := "", byteOffset := 24 }] : Array Field).mapM fun f => Prod.mk f.offset <$> sizeOf f.type).run Try.prog w = .ok #[(0, 1), (1, 1)] w := by intro w; kernel_rfl
theorem plc45 : ∀ w, ((#[{ name := "Rows", type := 2, offset := 0, embedded := false, tag := "", pkgPath := "", byteOffset := 0 }, { name := "Columns", type := 2, offset := 1, embedded := false, tag := "", pkgPath := "", byteOffset := 8 }, { name := "Numbers", type := 43, offset := 2, embedded := false, tag := "", pkgPath := "", byteOffset := 16 }] : Array Field).mapM fun f => Prod.mk f.offset <$> sizeOf f.type).run Try.prog w = .ok #[(0, 1), (1, 1), (2, 1)] w := by intro w; kernel_rfl
theorem plc47 : ∀ w, ((#[{ name := "Matrix", type := 40, offset := 0, embedded := false, tag := "", pkgPath := "", byteOffset := 0 }, { name := "Vector", type := 38, offset := 3, embedded := false, tag := "", pkgPath := "", byteOffset := 40 }, { name := "Chain", type := 42, offset := 4, embedded := false, tag := "", pkgPath := "", byteOffset := 64 }, { name := "Whole", type := 45, offset := 6, embedded := false, tag := "", pkgPath := "", byteOffset := 112 }] : Array Field).mapM fun f => Prod.mk f.offset <$> sizeOf f.type).run Try.prog w = .ok #[(0, 3), (3, 1), (4, 2), (6, 3)] w := by intro w; kernel_rfl
theorem pun3 : Try.prog.underlying 3 = some (Go.TypeDesc.int Go.IntKind.i64) := by kernel_rfl
theorem pun4 : Try.prog.underlying 4 = some Go.TypeDesc.bool := by kernel_rfl
theorem pun34 : Try.prog.underlying 34 = some (Go.TypeDesc.float Go.FloatKind.f32) := by kernel_rfl
theorem pun38 : Try.prog.underlying 38 = some (Go.TypeDesc.slice 34) := by kernel_rfl
theorem pun75 : Try.prog.underlying 75 = some (Go.TypeDesc.float Go.FloatKind.f64) := by kernel_rfl
theorem siz2 : ∀ w, (sizeOf 2).run Try.prog w = .ok 1 w := by intro w; kernel_rfl
theorem siz34 : ∀ w, (sizeOf 34).run Try.prog w = .ok 1 w := by intro w; kernel_rfl
theorem siz38 : ∀ w, (sizeOf 38).run Try.prog w = .ok 1 w := by intro w; kernel_rfl
theorem siz40 : ∀ w, (sizeOf 40).run Try.prog w = .ok 3 w := by intro w; kernel_rfl
theorem siz42 : ∀ w, (sizeOf 42).run Try.prog w = .ok 2 w := by intro w; kernel_rfl
theorem siz43 : ∀ w, (sizeOf 43).run Try.prog w = .ok 1 w := by intro w; kernel_rfl
theorem siz45 : ∀ w, (sizeOf 45).run Try.prog w = .ok 3 w := by intro w; kernel_rfl
theorem siz47 : ∀ w, (sizeOf 47).run Try.prog w = .ok 9 w := by intro w; kernel_rfl
theorem siz52 : ∀ w, (sizeOf 52).run Try.prog w = .ok 3 w := by intro w; kernel_rfl
theorem tin34 : ∀ w, (typeInfo 34).run Try.prog w = .ok Try.t34 w := by intro w; kernel_rfl
theorem und38 : ∀ w, (underlying 38).run Try.prog w = .ok (Go.TypeDesc.slice 34) w := by intro w; kernel_rfl
theorem und40 : ∀ w, (underlying 40).run Try.prog w = .ok (Go.TypeDesc.struct #[{ name := "Rows", type := 2, offset := 0, embedded := false, tag := "", pkgPath := "", byteOffset := 0 }, { name := "Columns", type := 2, offset := 1, embedded := false, tag := "", pkgPath := "", byteOffset := 8 }, { name := "Numbers", type := 38, offset := 2, embedded := false, tag := "", pkgPath := "", byteOffset := 16 }]) w := by intro w; kernel_rfl
theorem und42 : ∀ w, (underlying 42).run Try.prog w = .ok (Go.TypeDesc.struct #[{ name := "Mids", type := 38, offset := 0, embedded := false, tag := "", pkgPath := "", byteOffset := 0 }, { name := "Sides", type := 38, offset := 1, embedded := false, tag := "", pkgPath := "", byteOffset := 24 }]) w := by intro w; kernel_rfl
theorem und43 : ∀ w, (underlying 43).run Try.prog w = .ok (Go.TypeDesc.slice 2) w := by intro w; kernel_rfl
theorem und45 : ∀ w, (underlying 45).run Try.prog w = .ok (Go.TypeDesc.struct #[{ name := "Rows", type := 2, offset := 0, embedded := false, tag := "", pkgPath := "", byteOffset := 0 }, { name := "Columns", type := 2, offset := 1, embedded := false, tag := "", pkgPath := "", byteOffset := 8 }, { name := "Numbers", type := 43, offset := 2, embedded := false, tag := "", pkgPath := "", byteOffset := 16 }]) w := by intro w; kernel_rfl
theorem und47 : ∀ w, (underlying 47).run Try.prog w = .ok (Go.TypeDesc.struct #[{ name := "Matrix", type := 40, offset := 0, embedded := false, tag := "", pkgPath := "", byteOffset := 0 }, { name := "Vector", type := 38, offset := 3, embedded := false, tag := "", pkgPath := "", byteOffset := 40 }, { name := "Chain", type := 42, offset := 4, embedded := false, tag := "", pkgPath := "", byteOffset := 64 }, { name := "Whole", type := 45, offset := 6, embedded := false, tag := "", pkgPath := "", byteOffset := 112 }]) w := by intro w; kernel_rfl
theorem und52 : ∀ w, (underlying 52).run Try.prog w = .ok (Go.TypeDesc.struct #[{ name := "Rows", type := 2, offset := 0, embedded := false, tag := "", pkgPath := "", byteOffset := 0 }, { name := "Columns", type := 2, offset := 1, embedded := false, tag := "", pkgPath := "", byteOffset := 8 }, { name := "Numbers", type := 38, offset := 2, embedded := false, tag := "", pkgPath := "", byteOffset := 16 }]) w := by intro w; kernel_rfl
theorem zel2 : ∀ S μ, V S μ (AV.i64 0) (Go.Value.int Go.IntKind.i64 0) := by intro S μ; exact (by simp only [V])
theorem zel34 : ∀ S μ, V S μ (AV.f32 (some 0)) (Go.Value.float Go.FloatKind.f32 0) := by intro S μ; exact (ALe.fl (by kernel_rfl) (by kernel_rfl) S μ _ (by simp only [V]))
theorem zer2 : ∀ w, (zeroValue 2).run Try.prog w = .ok (Go.Value.int Go.IntKind.i64 0) w := by intro w; kernel_rfl
theorem zer34 : ∀ w, (zeroValue 34).run Try.prog w = .ok (Go.Value.float Go.FloatKind.f32 0) w := by intro w; kernel_rfl
theorem zer40 : ∀ w, (zeroValue 40).run Try.prog w = .ok (Go.Value.agg #[(Go.Value.int Go.IntKind.i64 0), (Go.Value.int Go.IntKind.i64 0), (Go.Value.slice none 0 0)]) w := by intro w; kernel_rfl
theorem zer42 : ∀ w, (zeroValue 42).run Try.prog w = .ok (Go.Value.agg #[(Go.Value.slice none 0 0), (Go.Value.slice none 0 0)]) w := by intro w; kernel_rfl
theorem zer45 : ∀ w, (zeroValue 45).run Try.prog w = .ok (Go.Value.agg #[(Go.Value.int Go.IntKind.i64 0), (Go.Value.int Go.IntKind.i64 0), (Go.Value.slice none 0 0)]) w := by intro w; kernel_rfl
theorem zer47 : ∀ w, (zeroValue 47).run Try.prog w = .ok (Go.Value.agg #[(Go.Value.int Go.IntKind.i64 0), (Go.Value.int Go.IntKind.i64 0), (Go.Value.slice none 0 0), (Go.Value.slice none 0 0), (Go.Value.slice none 0 0), (Go.Value.slice none 0 0), (Go.Value.int Go.IntKind.i64 0), (Go.Value.int Go.IntKind.i64 0), (Go.Value.slice none 0 0)]) w := by intro w; kernel_rfl
theorem zok40 : ZeroOk [AV.i64 0, AV.i64 0, AV.nilsl] (Go.Value.agg #[(Go.Value.int Go.IntKind.i64 0), (Go.Value.int Go.IntKind.i64 0), (Go.Value.slice none 0 0)]) := by intro S μ; simp only [Value.cells, VL]; exact ⟨(by simp only [V]), (by simp only [V]), (by simp only [V]), trivial⟩
theorem zok42 : ZeroOk [AV.nilsl, AV.nilsl] (Go.Value.agg #[(Go.Value.slice none 0 0), (Go.Value.slice none 0 0)]) := by intro S μ; simp only [Value.cells, VL]; exact ⟨(by simp only [V]), (by simp only [V]), trivial⟩
theorem zok45 : ZeroOk [AV.i64 0, AV.i64 0, AV.nilsl] (Go.Value.agg #[(Go.Value.int Go.IntKind.i64 0), (Go.Value.int Go.IntKind.i64 0), (Go.Value.slice none 0 0)]) := by intro S μ; simp only [Value.cells, VL]; exact ⟨(by simp only [V]), (by simp only [V]), (by simp only [V]), trivial⟩
theorem zok47 : ZeroOk [AV.i64 0, AV.i64 0, AV.nilsl, AV.nilsl, AV.nilsl, AV.nilsl, AV.i64 0, AV.i64 0, AV.nilsl] (Go.Value.agg #[(Go.Value.int Go.IntKind.i64 0), (Go.Value.int Go.IntKind.i64 0), (Go.Value.slice none 0 0), (Go.Value.slice none 0 0), (Go.Value.slice none 0 0), (Go.Value.slice none 0 0), (Go.Value.int Go.IntKind.i64 0), (Go.Value.int Go.IntKind.i64 0), (Go.Value.slice none 0 0)]) := by intro S μ; simp only [Value.cells, VL]; exact ⟨(by simp only [V]), (by simp only [V]), (by simp only [V]), (by simp only [V]), (by simp only [V]), (by simp only [V]), (by simp only [V]), (by simp only [V]), (by simp only [V]), trivial⟩
end Go.Proofs.Ytmgjiomflefedaa
