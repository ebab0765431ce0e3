/- Facts on the program's types and functions. -/
import Derived.Test.YtcifbefhglffhaaGreatAm2
import Derived.Test.YtcifbefhglffhaaGreatChecked
namespace Go.Proofs.YtcifbefhglffhaaGreat
open Go Go.AM
set_option maxRecDepth 20000
set_option maxHeartbeats 4000000
set_option linter.unusedVariables false
set_option linter.unusedSimpArgs false
def lit_77d67bd0 : ByteArray := { data := ((([0, 1, 2, 2, 3, 3, 3, 3, 4, 4, 4, 4, 4, 4, 4, 4, 5, 5, 5, 5, 5, 5, 5, 5, 5, 5, 5, 5, 5, 5, 5, 5, 6, 6, 6, 6, 6, 6, 6, 6, 6, 6, 6, 6, 6, 6, 6, 6, 6, 6, 6, 6, 6, 6, 6, 6, 6, 6, 6, 6, 6, 6, 6, 6] : List UInt8) ++ ([7, 7, 7, 7, 7, 7, 7, 7, 7, 7, 7, 7, 7, 7, 7, 7, 7, 7, 7, 7, 7, 7, 7, 7, 7, 7, 7, 7, 7, 7, 7, 7, 7, 7, 7, 7, 7, 7, 7, 7, 7, 7, 7, 7, 7, 7, 7, 7, 7, 7, 7, 7, 7, 7, 7, 7, 7, 7, 7, 7, 7, 7, 7, 7] : List UInt8)) ++ (([8, 8, 8, 8, 8, 8, 8, 8, 8, 8, 8, 8, 8, 8, 8, 8, 8, 8, 8, 8, 8, 8, 8, 8, 8, 8, 8, 8, 8, 8, 8, 8, 8, 8, 8, 8, 8, 8, 8, 8, 8, 8, 8, 8, 8, 8, 8, 8, 8, 8, 8, 8, 8, 8, 8, 8, 8, 8, 8, 8, 8, 8, 8, 8] : List UInt8) ++ ([8, 8, 8, 8, 8, 8, 8, 8, 8, 8, 8, 8, 8, 8, 8, 8, 8, 8, 8, 8, 8, 8, 8, 8, 8, 8, 8, 8, 8, 8, 8, 8, 8, 8, 8, 8, 8, 8, 8, 8, 8, 8, 8, 8, 8, 8, 8, 8, 8, 8, 8, 8, 8, 8, 8, 8, 8, 8, 8, 8, 8, 8, 8, 8] : List UInt8))).toArray }
theorem mixed : Tryz.prog.follows .mixedOrders = true := by kernel_rfl
theorem agg2 : ∀ w, (isAgg 2).run Tryz.prog w = .ok false w := by intro w; kernel_rfl
theorem agg3 : ∀ w, (isAgg 3).run Tryz.prog w = .ok false w := by intro w; kernel_rfl
theorem agg4 : ∀ w, (isAgg 4).run Tryz.prog w = .ok false w := by intro w; kernel_rfl
theorem agg5 : ∀ w, (isAgg 5).run Tryz.prog w = .ok false w := by intro w; kernel_rfl
theorem agg22 : ∀ w, (isAgg 22).run Tryz.prog w = .ok false w := by intro w; kernel_rfl
theorem agg25 : ∀ w, (isAgg 25).run Tryz.prog w = .ok false w := by intro w; kernel_rfl
theorem agg27 : ∀ w, (isAgg 27).run Tryz.prog w = .ok true w := by intro w; kernel_rfl
theorem agg30 : ∀ w, (isAgg 30).run Tryz.prog w = .ok false w := by intro w; kernel_rfl
theorem agg39 : ∀ w, (isAgg 39).run Tryz.prog w = .ok false w := by intro w; kernel_rfl
theorem agg41 : ∀ w, (isAgg 41).run Tryz.prog w = .ok true w := by intro w; kernel_rfl
theorem agg87 : ∀ w, (isAgg 87).run Tryz.prog w = .ok false w := by intro w; kernel_rfl
theorem ent4 : ∀ (vs : Array Value) w, (callFunc 4 vs).run Tryz.prog w = .ok (.enter 4 vs) w := by intro vs w; kernel_rfl
theorem ent5 : ∀ (vs : Array Value) w, (callFunc 5 vs).run Tryz.prog w = .ok (.enter 5 vs) w := by intro vs w; kernel_rfl
theorem ent6 : ∀ (vs : Array Value) w, (callFunc 6 vs).run Tryz.prog w = .ok (.enter 6 vs) w := by intro vs w; kernel_rfl
theorem ent7 : ∀ (vs : Array Value) w, (callFunc 7 vs).run Tryz.prog w = .ok (.enter 7 vs) w := by intro vs w; kernel_rfl
theorem ent8 : ∀ (vs : Array Value) w, (callFunc 8 vs).run Tryz.prog w = .ok (.enter 8 vs) w := by intro vs w; kernel_rfl
theorem ent9 : ∀ (vs : Array Value) w, (callFunc 9 vs).run Tryz.prog w = .ok (.enter 9 vs) w := by intro vs w; kernel_rfl
theorem ent10 : ∀ (vs : Array Value) w, (callFunc 10 vs).run Tryz.prog w = .ok (.enter 10 vs) w := by intro vs w; kernel_rfl
theorem ent11 : ∀ (vs : Array Value) w, (callFunc 11 vs).run Tryz.prog w = .ok (.enter 11 vs) w := by intro vs w; kernel_rfl
theorem ent12 : ∀ (vs : Array Value) w, (callFunc 12 vs).run Tryz.prog w = .ok (.enter 12 vs) w := by intro vs w; kernel_rfl
theorem ent13 : ∀ (vs : Array Value) w, (callFunc 13 vs).run Tryz.prog w = .ok (.enter 13 vs) w := by intro vs w; kernel_rfl
theorem ent14 : ∀ (vs : Array Value) w, (callFunc 14 vs).run Tryz.prog w = .ok (.enter 14 vs) w := by intro vs w; kernel_rfl
theorem ent15 : ∀ (vs : Array Value) w, (callFunc 15 vs).run Tryz.prog w = .ok (.enter 15 vs) w := by intro vs w; kernel_rfl
theorem ent16 : ∀ (vs : Array Value) w, (callFunc 16 vs).run Tryz.prog w = .ok (.enter 16 vs) w := by intro vs w; kernel_rfl
theorem ent17 : ∀ (vs : Array Value) w, (callFunc 17 vs).run Tryz.prog w = .ok (.enter 17 vs) w := by intro vs w; kernel_rfl
theorem ent18 : ∀ (vs : Array Value) w, (callFunc 18 vs).run Tryz.prog w = .ok (.enter 18 vs) w := by intro vs w; kernel_rfl
theorem ent19 : ∀ (vs : Array Value) w, (callFunc 19 vs).run Tryz.prog w = .ok (.enter 19 vs) w := by intro vs w; kernel_rfl
theorem ent20 : ∀ (vs : Array Value) w, (callFunc 20 vs).run Tryz.prog w = .ok (.enter 20 vs) w := by intro vs w; kernel_rfl
theorem ent21 : ∀ (vs : Array Value) w, (callFunc 21 vs).run Tryz.prog w = .ok (.enter 21 vs) w := by intro vs w; kernel_rfl
theorem ent22 : ∀ (vs : Array Value) w, (callFunc 22 vs).run Tryz.prog w = .ok (.enter 22 vs) w := by intro vs w; kernel_rfl
theorem ent23 : ∀ (vs : Array Value) w, (callFunc 23 vs).run Tryz.prog w = .ok (.enter 23 vs) w := by intro vs w; kernel_rfl
theorem ent24 : ∀ (vs : Array Value) w, (callFunc 24 vs).run Tryz.prog w = .ok (.enter 24 vs) w := by intro vs w; kernel_rfl
theorem ent25 : ∀ (vs : Array Value) w, (callFunc 25 vs).run Tryz.prog w = .ok (.enter 25 vs) w := by intro vs w; kernel_rfl
theorem ent26 : ∀ (vs : Array Value) w, (callFunc 26 vs).run Tryz.prog w = .ok (.enter 26 vs) w := by intro vs w; kernel_rfl
theorem ent27 : ∀ (vs : Array Value) w, (callFunc 27 vs).run Tryz.prog w = .ok (.enter 27 vs) w := by intro vs w; kernel_rfl
theorem ent28 : ∀ (vs : Array Value) w, (callFunc 28 vs).run Tryz.prog w = .ok (.enter 28 vs) w := by intro vs w; kernel_rfl
theorem ent29 : ∀ (vs : Array Value) w, (callFunc 29 vs).run Tryz.prog w = .ok (.enter 29 vs) w := by intro vs w; kernel_rfl
theorem ent30 : ∀ (vs : Array Value) w, (callFunc 30 vs).run Tryz.prog w = .ok (.enter 30 vs) w := by intro vs w; kernel_rfl
theorem ent31 : ∀ (vs : Array Value) w, (callFunc 31 vs).run Tryz.prog w = .ok (.enter 31 vs) w := by intro vs w; kernel_rfl
theorem ent32 : ∀ (vs : Array Value) w, (callFunc 32 vs).run Tryz.prog w = .ok (.enter 32 vs) w := by intro vs w; kernel_rfl
theorem ent33 : ∀ (vs : Array Value) w, (callFunc 33 vs).run Tryz.prog w = .ok (.enter 33 vs) w := by intro vs w; kernel_rfl
theorem ent34 : ∀ (vs : Array Value) w, (callFunc 34 vs).run Tryz.prog w = .ok (.enter 34 vs) w := by intro vs w; kernel_rfl
theorem ent35 : ∀ (vs : Array Value) w, (callFunc 35 vs).run Tryz.prog w = .ok (.enter 35 vs) w := by intro vs w; kernel_rfl
theorem ent36 : ∀ (vs : Array Value) w, (callFunc 36 vs).run Tryz.prog w = .ok (.enter 36 vs) w := by intro vs w; kernel_rfl
theorem ent37 : ∀ (vs : Array Value) w, (callFunc 37 vs).run Tryz.prog w = .ok (.enter 37 vs) w := by intro vs w; kernel_rfl
theorem ent38 : ∀ (vs : Array Value) w, (callFunc 38 vs).run Tryz.prog w = .ok (.enter 38 vs) w := by intro vs w; kernel_rfl
theorem ent39 : ∀ (vs : Array Value) w, (callFunc 39 vs).run Tryz.prog w = .ok (.enter 39 vs) w := by intro vs w; kernel_rfl
theorem ent40 : ∀ (vs : Array Value) w, (callFunc 40 vs).run Tryz.prog w = .ok (.enter 40 vs) w := by intro vs w; kernel_rfl
theorem ent41 : ∀ (vs : Array Value) w, (callFunc 41 vs).run Tryz.prog w = .ok (.enter 41 vs) w := by intro vs w; kernel_rfl
theorem ent42 : ∀ (vs : Array Value) w, (callFunc 42 vs).run Tryz.prog w = .ok (.enter 42 vs) w := by intro vs w; kernel_rfl
theorem ent43 : ∀ (vs : Array Value) w, (callFunc 43 vs).run Tryz.prog w = .ok (.enter 43 vs) w := by intro vs w; kernel_rfl
theorem ent44 : ∀ (vs : Array Value) w, (callFunc 44 vs).run Tryz.prog w = .ok (.enter 44 vs) w := by intro vs w; kernel_rfl
theorem ent45 : ∀ (vs : Array Value) w, (callFunc 45 vs).run Tryz.prog w = .ok (.enter 45 vs) w := by intro vs w; kernel_rfl
theorem ent46 : ∀ (vs : Array Value) w, (callFunc 46 vs).run Tryz.prog w = .ok (.enter 46 vs) w := by intro vs w; kernel_rfl
theorem ent47 : ∀ (vs : Array Value) w, (callFunc 47 vs).run Tryz.prog w = .ok (.enter 47 vs) w := by intro vs w; kernel_rfl
theorem ent48 : ∀ (vs : Array Value) w, (callFunc 48 vs).run Tryz.prog w = .ok (.enter 48 vs) w := by intro vs w; kernel_rfl
theorem ent49 : ∀ (vs : Array Value) w, (callFunc 49 vs).run Tryz.prog w = .ok (.enter 49 vs) w := by intro vs w; kernel_rfl
theorem ent50 : ∀ (vs : Array Value) w, (callFunc 50 vs).run Tryz.prog w = .ok (.enter 50 vs) w := by intro vs w; kernel_rfl
theorem ent51 : ∀ (vs : Array Value) w, (callFunc 51 vs).run Tryz.prog w = .ok (.enter 51 vs) w := by intro vs w; kernel_rfl
theorem ent52 : ∀ (vs : Array Value) w, (callFunc 52 vs).run Tryz.prog w = .ok (.enter 52 vs) w := by intro vs w; kernel_rfl
theorem ent53 : ∀ (vs : Array Value) w, (callFunc 53 vs).run Tryz.prog w = .ok (.enter 53 vs) w := by intro vs w; kernel_rfl
theorem ent54 : ∀ (vs : Array Value) w, (callFunc 54 vs).run Tryz.prog w = .ok (.enter 54 vs) w := by intro vs w; kernel_rfl
theorem ent55 : ∀ (vs : Array Value) w, (callFunc 55 vs).run Tryz.prog w = .ok (.enter 55 vs) w := by intro vs w; kernel_rfl
theorem ent56 : ∀ (vs : Array Value) w, (callFunc 56 vs).run Tryz.prog w = .ok (.enter 56 vs) w := by intro vs w; kernel_rfl
theorem ent57 : ∀ (vs : Array Value) w, (callFunc 57 vs).run Tryz.prog w = .ok (.enter 57 vs) w := by intro vs w; kernel_rfl
theorem ent58 : ∀ (vs : Array Value) w, (callFunc 58 vs).run Tryz.prog w = .ok (.enter 58 vs) w := by intro vs w; kernel_rfl
theorem ent59 : ∀ (vs : Array Value) w, (callFunc 59 vs).run Tryz.prog w = .ok (.enter 59 vs) w := by intro vs w; kernel_rfl
theorem ent60 : ∀ (vs : Array Value) w, (callFunc 60 vs).run Tryz.prog w = .ok (.enter 60 vs) w := by intro vs w; kernel_rfl
theorem ent61 : ∀ (vs : Array Value) w, (callFunc 61 vs).run Tryz.prog w = .ok (.enter 61 vs) w := by intro vs w; kernel_rfl
theorem ent62 : ∀ (vs : Array Value) w, (callFunc 62 vs).run Tryz.prog w = .ok (.enter 62 vs) w := by intro vs w; kernel_rfl
theorem ent63 : ∀ (vs : Array Value) w, (callFunc 63 vs).run Tryz.prog w = .ok (.enter 63 vs) w := by intro vs w; kernel_rfl
theorem ent64 : ∀ (vs : Array Value) w, (callFunc 64 vs).run Tryz.prog w = .ok (.enter 64 vs) w := by intro vs w; kernel_rfl
theorem ent65 : ∀ (vs : Array Value) w, (callFunc 65 vs).run Tryz.prog w = .ok (.enter 65 vs) w := by intro vs w; kernel_rfl
theorem ent66 : ∀ (vs : Array Value) w, (callFunc 66 vs).run Tryz.prog w = .ok (.enter 66 vs) w := by intro vs w; kernel_rfl
theorem ent67 : ∀ (vs : Array Value) w, (callFunc 67 vs).run Tryz.prog w = .ok (.enter 67 vs) w := by intro vs w; kernel_rfl
theorem ent68 : ∀ (vs : Array Value) w, (callFunc 68 vs).run Tryz.prog w = .ok (.enter 68 vs) w := by intro vs w; kernel_rfl
theorem ent69 : ∀ (vs : Array Value) w, (callFunc 69 vs).run Tryz.prog w = .ok (.enter 69 vs) w := by intro vs w; kernel_rfl
theorem ent70 : ∀ (vs : Array Value) w, (callFunc 70 vs).run Tryz.prog w = .ok (.enter 70 vs) w := by intro vs w; kernel_rfl
theorem ent71 : ∀ (vs : Array Value) w, (callFunc 71 vs).run Tryz.prog w = .ok (.enter 71 vs) w := by intro vs w; kernel_rfl
theorem ent72 : ∀ (vs : Array Value) w, (callFunc 72 vs).run Tryz.prog w = .ok (.enter 72 vs) w := by intro vs w; kernel_rfl
theorem ent73 : ∀ (vs : Array Value) w, (callFunc 73 vs).run Tryz.prog w = .ok (.enter 73 vs) w := by intro vs w; kernel_rfl
theorem ent74 : ∀ (vs : Array Value) w, (callFunc 74 vs).run Tryz.prog w = .ok (.enter 74 vs) w := by intro vs w; kernel_rfl
theorem ent75 : ∀ (vs : Array Value) w, (callFunc 75 vs).run Tryz.prog w = .ok (.enter 75 vs) w := by intro vs w; kernel_rfl
theorem ent76 : ∀ (vs : Array Value) w, (callFunc 76 vs).run Tryz.prog w = .ok (.enter 76 vs) w := by intro vs w; kernel_rfl
theorem ent77 : ∀ (vs : Array Value) w, (callFunc 77 vs).run Tryz.prog w = .ok (.enter 77 vs) w := by intro vs w; kernel_rfl
theorem ent78 : ∀ (vs : Array Value) w, (callFunc 78 vs).run Tryz.prog w = .ok (.enter 78 vs) w := by intro vs w; kernel_rfl
theorem ent79 : ∀ (vs : Array Value) w, (callFunc 79 vs).run Tryz.prog w = .ok (.enter 79 vs) w := by intro vs w; kernel_rfl
theorem ent80 : ∀ (vs : Array Value) w, (callFunc 80 vs).run Tryz.prog w = .ok (.enter 80 vs) w := by intro vs w; kernel_rfl
theorem ent81 : ∀ (vs : Array Value) w, (callFunc 81 vs).run Tryz.prog w = .ok (.enter 81 vs) w := by intro vs w; kernel_rfl
theorem ent82 : ∀ (vs : Array Value) w, (callFunc 82 vs).run Tryz.prog w = .ok (.enter 82 vs) w := by intro vs w; kernel_rfl
theorem ent83 : ∀ (vs : Array Value) w, (callFunc 83 vs).run Tryz.prog w = .ok (.enter 83 vs) w := by intro vs w; kernel_rfl
theorem ent84 : ∀ (vs : Array Value) w, (callFunc 84 vs).run Tryz.prog w = .ok (.enter 84 vs) w := by intro vs w; kernel_rfl
theorem ent85 : ∀ (vs : Array Value) w, (callFunc 85 vs).run Tryz.prog w = .ok (.enter 85 vs) w := by intro vs w; kernel_rfl
theorem ent86 : ∀ (vs : Array Value) w, (callFunc 86 vs).run Tryz.prog w = .ok (.enter 86 vs) w := by intro vs w; kernel_rfl
theorem ent87 : ∀ (vs : Array Value) w, (callFunc 87 vs).run Tryz.prog w = .ok (.enter 87 vs) w := by intro vs w; kernel_rfl
theorem ent88 : ∀ (vs : Array Value) w, (callFunc 88 vs).run Tryz.prog w = .ok (.enter 88 vs) w := by intro vs w; kernel_rfl
theorem ent89 : ∀ (vs : Array Value) w, (callFunc 89 vs).run Tryz.prog w = .ok (.enter 89 vs) w := by intro vs w; kernel_rfl
theorem ent90 : ∀ (vs : Array Value) w, (callFunc 90 vs).run Tryz.prog w = .ok (.enter 90 vs) w := by intro vs w; kernel_rfl
theorem ent91 : ∀ (vs : Array Value) w, (callFunc 91 vs).run Tryz.prog w = .ok (.enter 91 vs) w := by intro vs w; kernel_rfl
theorem ent92 : ∀ (vs : Array Value) w, (callFunc 92 vs).run Tryz.prog w = .ok (.enter 92 vs) w := by intro vs w; kernel_rfl
theorem ent93 : ∀ (vs : Array Value) w, (callFunc 93 vs).run Tryz.prog w = .ok (.enter 93 vs) w := by intro vs w; kernel_rfl
theorem ent94 : ∀ (vs : Array Value) w, (callFunc 94 vs).run Tryz.prog w = .ok (.enter 94 vs) w := by intro vs w; kernel_rfl
theorem ent95 : ∀ (vs : Array Value) w, (callFunc 95 vs).run Tryz.prog w = .ok (.enter 95 vs) w := by intro vs w; kernel_rfl
theorem ent96 : ∀ (vs : Array Value) w, (callFunc 96 vs).run Tryz.prog w = .ok (.enter 96 vs) w := by intro vs w; kernel_rfl
theorem ent97 : ∀ (vs : Array Value) w, (callFunc 97 vs).run Tryz.prog w = .ok (.enter 97 vs) w := by intro vs w; kernel_rfl
theorem ent98 : ∀ (vs : Array Value) w, (callFunc 98 vs).run Tryz.prog w = .ok (.enter 98 vs) w := by intro vs w; kernel_rfl
theorem ent99 : ∀ (vs : Array Value) w, (callFunc 99 vs).run Tryz.prog w = .ok (.enter 99 vs) w := by intro vs w; kernel_rfl
theorem ent100 : ∀ (vs : Array Value) w, (callFunc 100 vs).run Tryz.prog w = .ok (.enter 100 vs) w := by intro vs w; kernel_rfl
theorem ent103 : ∀ (vs : Array Value) w, (callFunc 103 vs).run Tryz.prog w = .ok (.enter 103 vs) w := by intro vs w; kernel_rfl
theorem ent104 : ∀ (vs : Array Value) w, (callFunc 104 vs).run Tryz.prog w = .ok (.enter 104 vs) w := by intro vs w; kernel_rfl
theorem ent105 : ∀ (vs : Array Value) w, (callFunc 105 vs).run Tryz.prog w = .ok (.enter 105 vs) w := by intro vs w; kernel_rfl
theorem ent106 : ∀ (vs : Array Value) w, (callFunc 106 vs).run Tryz.prog w = .ok (.enter 106 vs) w := by intro vs w; kernel_rfl
theorem ent108 : ∀ (vs : Array Value) w, (callFunc 108 vs).run Tryz.prog w = .ok (.enter 108 vs) w := by intro vs w; kernel_rfl
theorem ent109 : ∀ (vs : Array Value) w, (callFunc 109 vs).run Tryz.prog w = .ok (.enter 109 vs) w := by intro vs w; kernel_rfl
theorem ent110 : ∀ (vs : Array Value) w, (callFunc 110 vs).run Tryz.prog w = .ok (.enter 110 vs) w := by intro vs w; kernel_rfl
theorem ent112 : ∀ (vs : Array Value) w, (callFunc 112 vs).run Tryz.prog w = .ok (.enter 112 vs) w := by intro vs w; kernel_rfl
theorem ent113 : ∀ (vs : Array Value) w, (callFunc 113 vs).run Tryz.prog w = .ok (.enter 113 vs) w := by intro vs w; kernel_rfl
theorem ent115 : ∀ (vs : Array Value) w, (callFunc 115 vs).run Tryz.prog w = .ok (.enter 115 vs) w := by intro vs w; kernel_rfl
theorem ent116 : ∀ (vs : Array Value) w, (callFunc 116 vs).run Tryz.prog w = .ok (.enter 116 vs) w := by intro vs w; kernel_rfl
theorem ent117 : ∀ (vs : Array Value) w, (callFunc 117 vs).run Tryz.prog w = .ok (.enter 117 vs) w := by intro vs w; kernel_rfl
theorem ent118 : ∀ (vs : Array Value) w, (callFunc 118 vs).run Tryz.prog w = .ok (.enter 118 vs) w := by intro vs w; kernel_rfl
theorem ent124 : ∀ (vs : Array Value) w, (callFunc 124 vs).run Tryz.prog w = .ok (.enter 124 vs) w := by intro vs w; kernel_rfl
theorem ent128 : ∀ (vs : Array Value) w, (callFunc 128 vs).run Tryz.prog w = .ok (.enter 128 vs) w := by intro vs w; kernel_rfl
theorem ent134 : ∀ (vs : Array Value) w, (callFunc 134 vs).run Tryz.prog w = .ok (.enter 134 vs) w := by intro vs w; kernel_rfl
theorem ext101 : ∀ (b : Nat) w, (callFunc 101 #[.int .u64 b]).run Tryz.prog w = .ok (.value (.float .f64 b)) w := by intro b w; kernel_rfl
theorem ext102 : ∀ (b : Nat) w, (callFunc 102 #[.float .f64 b]).run Tryz.prog w = .ok (.value (.int .u64 b)) w := by intro b w; kernel_rfl
theorem ext107 : ∀ (b : Nat) w, (callFunc 107 #[.float .f64 b]).run Tryz.prog w = (do pure (Next.value (← Extern.MathSqrt.sqrt #[.float .f64 b])) : Sem Next).run Tryz.prog w := by intro b w; kernel_rfl
theorem ext111 : ∀ (b : Nat) w, (callFunc 111 #[.float .f32 b]).run Tryz.prog w = .ok (.value (.int .u32 b)) w := by intro b w; kernel_rfl
theorem inf2 : Tryz.prog.info? 2 = some Tryz.t2 := by kernel_rfl
theorem inf30 : Tryz.prog.info? 30 = some Tryz.t30 := by kernel_rfl
theorem plc27 : ∀ w, ((#[{ name := "Rows", type := 2, offset := 0, embedded := false, tag := "", pkgPath := "", byteOffset := 0 }, { name := "Columns", type := 2, offset := 1, embedded := false, tag := "", pkgPath := "", byteOffset := 8 }, { name := "Numbers", type := 25, offset := 2, embedded := false, tag := "", pkgPath := "", byteOffset := 16 }] : Array Field).mapM fun f => Prod.mk f.offset <$> sizeOf f.type).run Tryz.prog w = .ok #[(0, 1), (1, 1), (2, 1)] w := by intro w; kernel_rfl
theorem plc41 : ∀ w, ((#[{ name := "Square", type := 27, offset := 0, embedded := false, tag := "", pkgPath := "", byteOffset := 0 }, { name := "Order", type := 39, offset := 3, embedded := false, tag := "", pkgPath := "", byteOffset := 40 }] : Array Field).mapM fun f => Prod.mk f.offset <$> sizeOf f.type).run Tryz.prog w = .ok #[(0, 3), (3, 1)] w := by intro w; kernel_rfl
theorem plc89 : ∀ w, ((#[{ name := "code", type := 22, offset := 0, embedded := false, tag := "", pkgPath := "loop.example/g01327/spec", byteOffset := 0 }, { name := "at", type := 3, offset := 1, embedded := false, tag := "", pkgPath := "loop.example/g01327/spec", byteOffset := 24 }, { name := "seed", type := 87, offset := 2, embedded := false, tag := "", pkgPath := "loop.example/g01327/spec", byteOffset := 32 }] : Array Field).mapM fun f => Prod.mk f.offset <$> sizeOf f.type).run Tryz.prog w = .ok #[(0, 1), (1, 1), (2, 1)] w := by intro w; kernel_rfl
theorem pun2 : Tryz.prog.underlying 2 = some (Go.TypeDesc.int Go.IntKind.i64) := by kernel_rfl
theorem pun3 : Tryz.prog.underlying 3 = some (Go.TypeDesc.int Go.IntKind.i64) := by kernel_rfl
theorem pun4 : Tryz.prog.underlying 4 = some Go.TypeDesc.bool := by kernel_rfl
theorem pun5 : Tryz.prog.underlying 5 = some (Go.TypeDesc.int Go.IntKind.u8) := by kernel_rfl
theorem pun22 : Tryz.prog.underlying 22 = some (Go.TypeDesc.slice 5) := by kernel_rfl
theorem pun25 : Tryz.prog.underlying 25 = some (Go.TypeDesc.slice 30) := by kernel_rfl
theorem pun30 : Tryz.prog.underlying 30 = some (Go.TypeDesc.float Go.FloatKind.f32) := by kernel_rfl
theorem pun35 : Tryz.prog.underlying 35 = some (Go.TypeDesc.float Go.FloatKind.f64) := by kernel_rfl
theorem pun39 : Tryz.prog.underlying 39 = some (Go.TypeDesc.slice 2) := by kernel_rfl
theorem pun87 : Tryz.prog.underlying 87 = some (Go.TypeDesc.int Go.IntKind.u64) := by kernel_rfl
theorem pun110 : Tryz.prog.underlying 110 = some (Go.TypeDesc.int Go.IntKind.u64) := by kernel_rfl
theorem pun123 : Tryz.prog.underlying 123 = some (Go.TypeDesc.int Go.IntKind.u32) := by kernel_rfl
theorem siz2 : ∀ w, (sizeOf 2).run Tryz.prog w = .ok 1 w := by intro w; kernel_rfl
theorem siz3 : ∀ w, (sizeOf 3).run Tryz.prog w = .ok 1 w := by intro w; kernel_rfl
theorem siz4 : ∀ w, (sizeOf 4).run Tryz.prog w = .ok 1 w := by intro w; kernel_rfl
theorem siz5 : ∀ w, (sizeOf 5).run Tryz.prog w = .ok 1 w := by intro w; kernel_rfl
theorem siz22 : ∀ w, (sizeOf 22).run Tryz.prog w = .ok 1 w := by intro w; kernel_rfl
theorem siz25 : ∀ w, (sizeOf 25).run Tryz.prog w = .ok 1 w := by intro w; kernel_rfl
theorem siz27 : ∀ w, (sizeOf 27).run Tryz.prog w = .ok 3 w := by intro w; kernel_rfl
theorem siz30 : ∀ w, (sizeOf 30).run Tryz.prog w = .ok 1 w := by intro w; kernel_rfl
theorem siz39 : ∀ w, (sizeOf 39).run Tryz.prog w = .ok 1 w := by intro w; kernel_rfl
theorem siz41 : ∀ w, (sizeOf 41).run Tryz.prog w = .ok 4 w := by intro w; kernel_rfl
theorem siz87 : ∀ w, (sizeOf 87).run Tryz.prog w = .ok 1 w := by intro w; kernel_rfl
theorem tin4 : ∀ w, (typeInfo 4).run Tryz.prog w = .ok Tryz.t4 w := by intro w; kernel_rfl
theorem tin30 : ∀ w, (typeInfo 30).run Tryz.prog w = .ok Tryz.t30 w := by intro w; kernel_rfl
theorem und9 : ∀ w, (underlying 9).run Tryz.prog w = .ok Go.TypeDesc.string w := by intro w; kernel_rfl
theorem und22 : ∀ w, (underlying 22).run Tryz.prog w = .ok (Go.TypeDesc.slice 5) w := by intro w; kernel_rfl
theorem und25 : ∀ w, (underlying 25).run Tryz.prog w = .ok (Go.TypeDesc.slice 30) w := by intro w; kernel_rfl
theorem und27 : ∀ w, (underlying 27).run Tryz.prog w = .ok (Go.TypeDesc.struct #[{ name := "Rows", type := 2, offset := 0, embedded := false, tag := "", pkgPath := "", byteOffset := 0 }, { name := "Columns", type := 2, offset := 1, embedded := false, tag := "", pkgPath := "", byteOffset := 8 }, { name := "Numbers", type := 25, offset := 2, embedded := false, tag := "", pkgPath := "", byteOffset := 16 }]) w := by intro w; kernel_rfl
theorem und39 : ∀ w, (underlying 39).run Tryz.prog w = .ok (Go.TypeDesc.slice 2) w := by intro w; kernel_rfl
theorem und41 : ∀ w, (underlying 41).run Tryz.prog w = .ok (Go.TypeDesc.struct #[{ name := "Square", type := 27, offset := 0, embedded := false, tag := "", pkgPath := "", byteOffset := 0 }, { name := "Order", type := 39, offset := 3, embedded := false, tag := "", pkgPath := "", byteOffset := 40 }]) w := by intro w; kernel_rfl
theorem und89 : ∀ w, (underlying 89).run Tryz.prog w = .ok (Go.TypeDesc.struct #[{ name := "code", type := 22, offset := 0, embedded := false, tag := "", pkgPath := "loop.example/g01327/spec", byteOffset := 0 }, { name := "at", type := 3, offset := 1, embedded := false, tag := "", pkgPath := "loop.example/g01327/spec", byteOffset := 24 }, { name := "seed", type := 87, offset := 2, embedded := false, tag := "", pkgPath := "loop.example/g01327/spec", byteOffset := 32 }]) w := by intro w; kernel_rfl
theorem und103 : ∀ w, (underlying 103).run Tryz.prog w = .ok (Go.TypeDesc.slice 4) w := by intro w; kernel_rfl
theorem zel2 : ∀ S μ, V S μ (AV.i64 0) (Go.Value.int Go.IntKind.i64 0) := by intro S μ; exact (by simp only [V])
theorem zel4 : ∀ S μ, V S μ (AV.b false) (Go.Value.bool false) := by intro S μ; exact (by simp only [V])
theorem zel30 : ∀ S μ, V S μ (AV.f32 (some 0)) (Go.Value.float Go.FloatKind.f32 0) := by intro S μ; exact (ALe.fl (by kernel_rfl) (by kernel_rfl) S μ _ (by simp only [V]))
theorem zer2 : ∀ w, (zeroValue 2).run Tryz.prog w = .ok (Go.Value.int Go.IntKind.i64 0) w := by intro w; kernel_rfl
theorem zer4 : ∀ w, (zeroValue 4).run Tryz.prog w = .ok (Go.Value.bool false) w := by intro w; kernel_rfl
theorem zer27 : ∀ w, (zeroValue 27).run Tryz.prog w = .ok (Go.Value.agg #[(Go.Value.int Go.IntKind.i64 0), (Go.Value.int Go.IntKind.i64 0), (Go.Value.slice none 0 0)]) w := by intro w; kernel_rfl
theorem zer30 : ∀ w, (zeroValue 30).run Tryz.prog w = .ok (Go.Value.float Go.FloatKind.f32 0) w := by intro w; kernel_rfl
theorem zer41 : ∀ w, (zeroValue 41).run Tryz.prog w = .ok (Go.Value.agg #[(Go.Value.int Go.IntKind.i64 0), (Go.Value.int Go.IntKind.i64 0), (Go.Value.slice none 0 0), (Go.Value.slice none 0 0)]) w := by intro w; kernel_rfl
theorem zer89 : ∀ w, (zeroValue 89).run Tryz.prog w = .ok (Go.Value.agg #[(Go.Value.slice none 0 0), (Go.Value.int Go.IntKind.i64 0), (Go.Value.int Go.IntKind.u64 0)]) w := by intro w; kernel_rfl
theorem zok27 : ZeroOk [AV.i64 0, AV.i64 0, AV.nilsl] (Go.Value.agg #[(Go.Value.int Go.IntKind.i64 0), (Go.Value.int Go.IntKind.i64 0), (Go.Value.slice none 0 0)]) := by intro S μ; simp only [Value.cells, VL]; exact ⟨(by simp only [V]), (by simp only [V]), (by simp only [V]), trivial⟩
theorem zok41 : ZeroOk [AV.i64 0, AV.i64 0, AV.nilsl, AV.nilsl] (Go.Value.agg #[(Go.Value.int Go.IntKind.i64 0), (Go.Value.int Go.IntKind.i64 0), (Go.Value.slice none 0 0), (Go.Value.slice none 0 0)]) := by intro S μ; simp only [Value.cells, VL]; exact ⟨(by simp only [V]), (by simp only [V]), (by simp only [V]), (by simp only [V]), trivial⟩
theorem zok89 : ZeroOk [AV.nilsl, AV.i64 0, AV.ik .u64 0] (Go.Value.agg #[(Go.Value.slice none 0 0), (Go.Value.int Go.IntKind.i64 0), (Go.Value.int Go.IntKind.u64 0)]) := by intro S μ; simp only [Value.cells, VL]; exact ⟨(by simp only [V]), (by simp only [V]), (by simp only [V]), trivial⟩
end Go.Proofs.YtcifbefhglffhaaGreat
