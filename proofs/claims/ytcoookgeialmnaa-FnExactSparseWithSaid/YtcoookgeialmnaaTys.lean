/- Facts on the program's types and functions. -/
import Derived.Test.YtcoookgeialmnaaAm1
import Derived.Test.YtcoookgeialmnaaChecked
namespace Go.Proofs.Ytcoookgeialmnaa
open Go Go.AM
set_option maxRecDepth 20000
set_option maxHeartbeats 4000000
set_option linter.unusedVariables false
set_option linter.unusedSimpArgs false
theorem mixed : Try.prog.follows .mixedOrders = true := by kernel_rfl
theorem agg2 : ∀ w, (isAgg 2).run Try.prog w = .ok false w := by intro w; kernel_rfl
theorem agg22 : ∀ w, (isAgg 22).run Try.prog w = .ok false w := by intro w; kernel_rfl
theorem agg23 : ∀ w, (isAgg 23).run Try.prog w = .ok false w := by intro w; kernel_rfl
theorem agg25 : ∀ w, (isAgg 25).run Try.prog w = .ok true w := by intro w; kernel_rfl
theorem agg26 : ∀ w, (isAgg 26).run Try.prog w = .ok false w := by intro w; kernel_rfl
theorem agg30 : ∀ w, (isAgg 30).run Try.prog w = .ok true w := by intro w; kernel_rfl
theorem ent7 : ∀ (vs : Array Value) w, (callFunc 7 vs).run Try.prog w = .ok (.enter 7 vs) w := by intro vs w; kernel_rfl
theorem ent9 : ∀ (vs : Array Value) w, (callFunc 9 vs).run Try.prog w = .ok (.enter 9 vs) w := by intro vs w; kernel_rfl
theorem ent10 : ∀ (vs : Array Value) w, (callFunc 10 vs).run Try.prog w = .ok (.enter 10 vs) w := by intro vs w; kernel_rfl
theorem ent12 : ∀ (vs : Array Value) w, (callFunc 12 vs).run Try.prog w = .ok (.enter 12 vs) w := by intro vs w; kernel_rfl
theorem ent13 : ∀ (vs : Array Value) w, (callFunc 13 vs).run Try.prog w = .ok (.enter 13 vs) w := by intro vs w; kernel_rfl
theorem ent14 : ∀ (vs : Array Value) w, (callFunc 14 vs).run Try.prog w = .ok (.enter 14 vs) w := by intro vs w; kernel_rfl
theorem ent15 : ∀ (vs : Array Value) w, (callFunc 15 vs).run Try.prog w = .ok (.enter 15 vs) w := by intro vs w; kernel_rfl
theorem ent16 : ∀ (vs : Array Value) w, (callFunc 16 vs).run Try.prog w = .ok (.enter 16 vs) w := by intro vs w; kernel_rfl
theorem ent17 : ∀ (vs : Array Value) w, (callFunc 17 vs).run Try.prog w = .ok (.enter 17 vs) w := by intro vs w; kernel_rfl
theorem ent18 : ∀ (vs : Array Value) w, (callFunc 18 vs).run Try.prog w = .ok (.enter 18 vs) w := by intro vs w; kernel_rfl
theorem ent28 : ∀ (vs : Array Value) w, (callFunc 28 vs).run Try.prog w = .ok (.enter 28 vs) w := by intro vs w; kernel_rfl
theorem ent29 : ∀ (vs : Array Value) w, (callFunc 29 vs).run Try.prog w = .ok (.enter 29 vs) w := by intro vs w; kernel_rfl
theorem ent30 : ∀ (vs : Array Value) w, (callFunc 30 vs).run Try.prog w = .ok (.enter 30 vs) w := by intro vs w; kernel_rfl
theorem ent31 : ∀ (vs : Array Value) w, (callFunc 31 vs).run Try.prog w = .ok (.enter 31 vs) w := by intro vs w; kernel_rfl
theorem ent32 : ∀ (vs : Array Value) w, (callFunc 32 vs).run Try.prog w = .ok (.enter 32 vs) w := by intro vs w; kernel_rfl
theorem ent33 : ∀ (vs : Array Value) w, (callFunc 33 vs).run Try.prog w = .ok (.enter 33 vs) w := by intro vs w; kernel_rfl
theorem ent34 : ∀ (vs : Array Value) w, (callFunc 34 vs).run Try.prog w = .ok (.enter 34 vs) w := by intro vs w; kernel_rfl
theorem ent35 : ∀ (vs : Array Value) w, (callFunc 35 vs).run Try.prog w = .ok (.enter 35 vs) w := by intro vs w; kernel_rfl
theorem ent37 : ∀ (vs : Array Value) w, (callFunc 37 vs).run Try.prog w = .ok (.enter 37 vs) w := by intro vs w; kernel_rfl
theorem ent38 : ∀ (vs : Array Value) w, (callFunc 38 vs).run Try.prog w = .ok (.enter 38 vs) w := by intro vs w; kernel_rfl
theorem ent39 : ∀ (vs : Array Value) w, (callFunc 39 vs).run Try.prog w = .ok (.enter 39 vs) w := by intro vs w; kernel_rfl
theorem ent40 : ∀ (vs : Array Value) w, (callFunc 40 vs).run Try.prog w = .ok (.enter 40 vs) w := by intro vs w; kernel_rfl
theorem ent41 : ∀ (vs : Array Value) w, (callFunc 41 vs).run Try.prog w = .ok (.enter 41 vs) w := by intro vs w; kernel_rfl
theorem ent42 : ∀ (vs : Array Value) w, (callFunc 42 vs).run Try.prog w = .ok (.enter 42 vs) w := by intro vs w; kernel_rfl
theorem ent43 : ∀ (vs : Array Value) w, (callFunc 43 vs).run Try.prog w = .ok (.enter 43 vs) w := by intro vs w; kernel_rfl
theorem ent48 : ∀ (vs : Array Value) w, (callFunc 48 vs).run Try.prog w = .ok (.enter 48 vs) w := by intro vs w; kernel_rfl
theorem ent52 : ∀ (vs : Array Value) w, (callFunc 52 vs).run Try.prog w = .ok (.enter 52 vs) w := by intro vs w; kernel_rfl
theorem ent56 : ∀ (vs : Array Value) w, (callFunc 56 vs).run Try.prog w = .ok (.enter 56 vs) w := by intro vs w; kernel_rfl
theorem ent77 : ∀ (vs : Array Value) w, (callFunc 77 vs).run Try.prog w = .ok (.enter 77 vs) w := by intro vs w; kernel_rfl
theorem ent78 : ∀ (vs : Array Value) w, (callFunc 78 vs).run Try.prog w = .ok (.enter 78 vs) w := by intro vs w; kernel_rfl
theorem ent79 : ∀ (vs : Array Value) w, (callFunc 79 vs).run Try.prog w = .ok (.enter 79 vs) w := by intro vs w; kernel_rfl
theorem ent80 : ∀ (vs : Array Value) w, (callFunc 80 vs).run Try.prog w = .ok (.enter 80 vs) w := by intro vs w; kernel_rfl
theorem ent81 : ∀ (vs : Array Value) w, (callFunc 81 vs).run Try.prog w = .ok (.enter 81 vs) w := by intro vs w; kernel_rfl
theorem ent82 : ∀ (vs : Array Value) w, (callFunc 82 vs).run Try.prog w = .ok (.enter 82 vs) w := by intro vs w; kernel_rfl
theorem ent83 : ∀ (vs : Array Value) w, (callFunc 83 vs).run Try.prog w = .ok (.enter 83 vs) w := by intro vs w; kernel_rfl
theorem ent84 : ∀ (vs : Array Value) w, (callFunc 84 vs).run Try.prog w = .ok (.enter 84 vs) w := by intro vs w; kernel_rfl
theorem ent85 : ∀ (vs : Array Value) w, (callFunc 85 vs).run Try.prog w = .ok (.enter 85 vs) w := by intro vs w; kernel_rfl
theorem ent86 : ∀ (vs : Array Value) w, (callFunc 86 vs).run Try.prog w = .ok (.enter 86 vs) w := by intro vs w; kernel_rfl
theorem ent87 : ∀ (vs : Array Value) w, (callFunc 87 vs).run Try.prog w = .ok (.enter 87 vs) w := by intro vs w; kernel_rfl
theorem ent88 : ∀ (vs : Array Value) w, (callFunc 88 vs).run Try.prog w = .ok (.enter 88 vs) w := by intro vs w; kernel_rfl
theorem ent89 : ∀ (vs : Array Value) w, (callFunc 89 vs).run Try.prog w = .ok (.enter 89 vs) w := by intro vs w; kernel_rfl
theorem ent90 : ∀ (vs : Array Value) w, (callFunc 90 vs).run Try.prog w = .ok (.enter 90 vs) w := by intro vs w; kernel_rfl
theorem ent91 : ∀ (vs : Array Value) w, (callFunc 91 vs).run Try.prog w = .ok (.enter 91 vs) w := by intro vs w; kernel_rfl
theorem ent92 : ∀ (vs : Array Value) w, (callFunc 92 vs).run Try.prog w = .ok (.enter 92 vs) w := by intro vs w; kernel_rfl
theorem ent93 : ∀ (vs : Array Value) w, (callFunc 93 vs).run Try.prog w = .ok (.enter 93 vs) w := by intro vs w; kernel_rfl
theorem ent94 : ∀ (vs : Array Value) w, (callFunc 94 vs).run Try.prog w = .ok (.enter 94 vs) w := by intro vs w; kernel_rfl
theorem ent95 : ∀ (vs : Array Value) w, (callFunc 95 vs).run Try.prog w = .ok (.enter 95 vs) w := by intro vs w; kernel_rfl
theorem ent96 : ∀ (vs : Array Value) w, (callFunc 96 vs).run Try.prog w = .ok (.enter 96 vs) w := by intro vs w; kernel_rfl
theorem ent97 : ∀ (vs : Array Value) w, (callFunc 97 vs).run Try.prog w = .ok (.enter 97 vs) w := by intro vs w; kernel_rfl
theorem ent100 : ∀ (vs : Array Value) w, (callFunc 100 vs).run Try.prog w = .ok (.enter 100 vs) w := by intro vs w; kernel_rfl
theorem ent101 : ∀ (vs : Array Value) w, (callFunc 101 vs).run Try.prog w = .ok (.enter 101 vs) w := by intro vs w; kernel_rfl
theorem ent120 : ∀ (vs : Array Value) w, (callFunc 120 vs).run Try.prog w = .ok (.enter 120 vs) w := by intro vs w; kernel_rfl
theorem ent121 : ∀ (vs : Array Value) w, (callFunc 121 vs).run Try.prog w = .ok (.enter 121 vs) w := by intro vs w; kernel_rfl
theorem ent122 : ∀ (vs : Array Value) w, (callFunc 122 vs).run Try.prog w = .ok (.enter 122 vs) w := by intro vs w; kernel_rfl
theorem ent123 : ∀ (vs : Array Value) w, (callFunc 123 vs).run Try.prog w = .ok (.enter 123 vs) w := by intro vs w; kernel_rfl
theorem ent124 : ∀ (vs : Array Value) w, (callFunc 124 vs).run Try.prog w = .ok (.enter 124 vs) w := by intro vs w; kernel_rfl
theorem ent125 : ∀ (vs : Array Value) w, (callFunc 125 vs).run Try.prog w = .ok (.enter 125 vs) w := by intro vs w; kernel_rfl
theorem ent126 : ∀ (vs : Array Value) w, (callFunc 126 vs).run Try.prog w = .ok (.enter 126 vs) w := by intro vs w; kernel_rfl
theorem ent137 : ∀ (vs : Array Value) w, (callFunc 137 vs).run Try.prog w = .ok (.enter 137 vs) w := by intro vs w; kernel_rfl
theorem ent138 : ∀ (vs : Array Value) w, (callFunc 138 vs).run Try.prog w = .ok (.enter 138 vs) w := by intro vs w; kernel_rfl
theorem ent139 : ∀ (vs : Array Value) w, (callFunc 139 vs).run Try.prog w = .ok (.enter 139 vs) w := by intro vs w; kernel_rfl
theorem ent140 : ∀ (vs : Array Value) w, (callFunc 140 vs).run Try.prog w = .ok (.enter 140 vs) w := by intro vs w; kernel_rfl
theorem ent141 : ∀ (vs : Array Value) w, (callFunc 141 vs).run Try.prog w = .ok (.enter 141 vs) w := by intro vs w; kernel_rfl
theorem ent142 : ∀ (vs : Array Value) w, (callFunc 142 vs).run Try.prog w = .ok (.enter 142 vs) w := by intro vs w; kernel_rfl
theorem ent143 : ∀ (vs : Array Value) w, (callFunc 143 vs).run Try.prog w = .ok (.enter 143 vs) w := by intro vs w; kernel_rfl
theorem ent147 : ∀ (vs : Array Value) w, (callFunc 147 vs).run Try.prog w = .ok (.enter 147 vs) w := by intro vs w; kernel_rfl
theorem ent148 : ∀ (vs : Array Value) w, (callFunc 148 vs).run Try.prog w = .ok (.enter 148 vs) w := by intro vs w; kernel_rfl
theorem ent149 : ∀ (vs : Array Value) w, (callFunc 149 vs).run Try.prog w = .ok (.enter 149 vs) w := by intro vs w; kernel_rfl
theorem ent154 : ∀ (vs : Array Value) w, (callFunc 154 vs).run Try.prog w = .ok (.enter 154 vs) w := by intro vs w; kernel_rfl
theorem ent155 : ∀ (vs : Array Value) w, (callFunc 155 vs).run Try.prog w = .ok (.enter 155 vs) w := by intro vs w; kernel_rfl
theorem ext128 : ∀ (b : Nat) w, (callFunc 128 #[.float .f64 b]).run Try.prog w = (do pure (Next.value (← Extern.MathSqrt.sqrt #[.float .f64 b])) : Sem Next).run Try.prog w := by intro b w; kernel_rfl
theorem ext150 : ∀ (b : Nat) w, (callFunc 150 #[.int .u64 b]).run Try.prog w = .ok (.value (.float .f64 b)) w := by intro b w; kernel_rfl
theorem ext151 : ∀ (b : Nat) w, (callFunc 151 #[.float .f64 b]).run Try.prog w = .ok (.value (.int .u64 b)) w := by intro b w; kernel_rfl
theorem inf26 : Try.prog.info? 26 = some Try.t26 := by kernel_rfl
theorem pun2 : Try.prog.underlying 2 = some (Go.TypeDesc.int Go.IntKind.i64) := by kernel_rfl
theorem pun3 : Try.prog.underlying 3 = some (Go.TypeDesc.int Go.IntKind.i64) := by kernel_rfl
theorem pun4 : Try.prog.underlying 4 = some Go.TypeDesc.bool := by kernel_rfl
theorem pun22 : Try.prog.underlying 22 = some (Go.TypeDesc.slice 2) := by kernel_rfl
theorem pun23 : Try.prog.underlying 23 = some (Go.TypeDesc.slice 26) := by kernel_rfl
theorem pun25 : Try.prog.underlying 25 = some (Go.TypeDesc.struct #[{ name := "Side", type := 2, offset := 0, embedded := false, tag := "", pkgPath := "", byteOffset := 0 }, { name := "Starts", type := 22, offset := 1, embedded := false, tag := "", pkgPath := "", byteOffset := 8 }, { name := "Columns", type := 22, offset := 2, embedded := false, tag := "", pkgPath := "", byteOffset := 32 }, { name := "Values", type := 23, offset := 3, embedded := false, tag := "", pkgPath := "", byteOffset := 56 }]) := by kernel_rfl
theorem pun26 : Try.prog.underlying 26 = some (Go.TypeDesc.float Go.FloatKind.f32) := by kernel_rfl
theorem pun62 : Try.prog.underlying 62 = some (Go.TypeDesc.float Go.FloatKind.f64) := by kernel_rfl
theorem siz2 : ∀ w, (sizeOf 2).run Try.prog w = .ok 1 w := by intro w; kernel_rfl
theorem siz22 : ∀ w, (sizeOf 22).run Try.prog w = .ok 1 w := by intro w; kernel_rfl
theorem siz23 : ∀ w, (sizeOf 23).run Try.prog w = .ok 1 w := by intro w; kernel_rfl
theorem siz25 : ∀ w, (sizeOf 25).run Try.prog w = .ok 4 w := by intro w; kernel_rfl
theorem siz26 : ∀ w, (sizeOf 26).run Try.prog w = .ok 1 w := by intro w; kernel_rfl
theorem siz30 : ∀ w, (sizeOf 30).run Try.prog w = .ok 4 w := by intro w; kernel_rfl
theorem tin2 : ∀ w, (typeInfo 2).run Try.prog w = .ok Try.t2 w := by intro w; kernel_rfl
theorem tin26 : ∀ w, (typeInfo 26).run Try.prog w = .ok Try.t26 w := by intro w; kernel_rfl
theorem und22 : ∀ w, (underlying 22).run Try.prog w = .ok (Go.TypeDesc.slice 2) w := by intro w; kernel_rfl
theorem und23 : ∀ w, (underlying 23).run Try.prog w = .ok (Go.TypeDesc.slice 26) w := by intro w; kernel_rfl
theorem und25 : ∀ w, (underlying 25).run Try.prog w = .ok (Go.TypeDesc.struct #[{ name := "Side", type := 2, offset := 0, embedded := false, tag := "", pkgPath := "", byteOffset := 0 }, { name := "Starts", type := 22, offset := 1, embedded := false, tag := "", pkgPath := "", byteOffset := 8 }, { name := "Columns", type := 22, offset := 2, embedded := false, tag := "", pkgPath := "", byteOffset := 32 }, { name := "Values", type := 23, offset := 3, embedded := false, tag := "", pkgPath := "", byteOffset := 56 }]) w := by intro w; kernel_rfl
theorem und30 : ∀ w, (underlying 30).run Try.prog w = .ok (Go.TypeDesc.struct #[{ name := "Side", type := 2, offset := 0, embedded := false, tag := "", pkgPath := "", byteOffset := 0 }, { name := "Starts", type := 22, offset := 1, embedded := false, tag := "", pkgPath := "", byteOffset := 8 }, { name := "Columns", type := 22, offset := 2, embedded := false, tag := "", pkgPath := "", byteOffset := 32 }, { name := "Values", type := 23, offset := 3, embedded := false, tag := "", pkgPath := "", byteOffset := 56 }]) w := by intro w; kernel_rfl
theorem zel2 : ∀ S μ, V S μ (AV.i64 0) (Go.Value.int Go.IntKind.i64 0) := by intro S μ; exact (by simp only [V])
theorem zel26 : ∀ S μ, V S μ (AV.f32 (some 0)) (Go.Value.float Go.FloatKind.f32 0) := by intro S μ; exact (ALe.fl (by kernel_rfl) (by kernel_rfl) S μ _ (by simp only [V]))
theorem zer2 : ∀ w, (zeroValue 2).run Try.prog w = .ok (Go.Value.int Go.IntKind.i64 0) w := by intro w; kernel_rfl
theorem zer23 : ∀ w, (zeroValue 23).run Try.prog w = .ok (Go.Value.slice none 0 0) w := by intro w; kernel_rfl
theorem zer26 : ∀ w, (zeroValue 26).run Try.prog w = .ok (Go.Value.float Go.FloatKind.f32 0) w := by intro w; kernel_rfl
theorem zer30 : ∀ w, (zeroValue 30).run Try.prog w = .ok (Go.Value.agg #[(Go.Value.int Go.IntKind.i64 0), (Go.Value.slice none 0 0), (Go.Value.slice none 0 0), (Go.Value.slice none 0 0)]) w := by intro w; kernel_rfl
theorem zok2 : ZeroOk [AV.i64 0] (Go.Value.int Go.IntKind.i64 0) := by intro S μ; simp only [Value.cells, VL]; exact ⟨(by simp only [V]), trivial⟩
theorem zok23 : ZeroOk [AV.nilsl] (Go.Value.slice none 0 0) := by intro S μ; simp only [Value.cells, VL]; exact ⟨(by simp only [V]), trivial⟩
theorem zok26 : ZeroOk [AV.f32 (some 0)] (Go.Value.float Go.FloatKind.f32 0) := by intro S μ; simp only [Value.cells, VL]; exact ⟨(ALe.fl (by kernel_rfl) (by kernel_rfl) S μ _ (by simp only [V])), trivial⟩
theorem zok30 : ZeroOk [AV.i64 0, AV.nilsl, AV.nilsl, AV.nilsl] (Go.Value.agg #[(Go.Value.int Go.IntKind.i64 0), (Go.Value.slice none 0 0), (Go.Value.slice none 0 0), (Go.Value.slice none 0 0)]) := by intro S μ; simp only [Value.cells, VL]; exact ⟨(by simp only [V]), (by simp only [V]), (by simp only [V]), (by simp only [V]), trivial⟩
end Go.Proofs.Ytcoookgeialmnaa
