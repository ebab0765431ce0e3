/- Generated. -/
import Derived.Test.YtmgjiomflefedaaGTys
namespace Go.Proofs.Ytmgjiomflefedaa
open Go Go.AM
set_option maxRecDepth 20000
set_option maxHeartbeats 4000000
set_option linter.unusedVariables false
set_option linter.unusedSimpArgs false
noncomputable def f19  : Option (Int × Int × Int × Int × (List F) × (List F) × (List F) × (List F) × (List Int)) :=
  some (2, 2, 2, 2, ([some 1073741824, some 1065353216, some 1065353216, some 1073741824] : List F), ([some 1065353216, some 0] : List F), ([some 1073741824, some 1073741824] : List F), ([some 1065353216] : List F), ([2, 4, 6, 8] : List Int))
theorem f19_ok  (q0 : Int) (q1 : Int) (q2 : Int) (q3 : Int) (q4 : List F) (q5 : List F) (q6 : List F) (q7 : List F) (q8 : List Int) (h : f19  = some (q0, q1, q2, q3, q4, q5, q6, q7, q8)) : Ev Try.prog 19 [] [] (AV.agg [AV.i64 q0, AV.i64 q1, AV.oref 0 0 0 q4.length, AV.oref 1 0 0 q5.length, AV.oref 2 0 0 q6.length, AV.oref 3 0 0 q7.length, AV.i64 q2, AV.i64 q3, AV.oref 4 0 0 q8.length]) [⟨0, some (q4.map AV.f32)⟩, ⟨0, some (q5.map AV.f32)⟩, ⟨0, some (q6.map AV.f32)⟩, ⟨0, some (q7.map AV.f32)⟩, ⟨0, some (q8.map AV.i64)⟩] := by
  refine Ev.start Try.func19 rfl rfl 7 (τ := []) rfl (Γ' := [⟨0, none⟩, ⟨0, none⟩, ⟨0, none⟩, ⟨0, none⟩, ⟨0, none⟩, ⟨0, none⟩, ⟨0, none⟩]) rfl (n := 15) rfl (g := 0) rfl ?_
  unfold f19 at h
  refine RunC.seq ?_
  refine RunC.regionW ?_
  refine ROps.d (r := AV.optr 0 1 0) (fs := [(0, [AV.i64 0, AV.i64 0, AV.nilsl, AV.nilsl, AV.nilsl, AV.nilsl, AV.i64 0, AV.i64 0, AV.nilsl])]) (Γ' := [⟨1, some [AV.i64 0, AV.i64 0, AV.nilsl, AV.nilsl, AV.nilsl, AV.nilsl, AV.i64 0, AV.i64 0, AV.nilsl]⟩, ⟨0, none⟩, ⟨0, none⟩, ⟨0, none⟩, ⟨0, none⟩, ⟨0, none⟩, ⟨0, none⟩]) rfl rfl rfl (TOp.alloc_o (g := ⟨0, none⟩) 0 rfl zer47 zok47 rfl) rfl ?_
  refine ROps.nil ?_
  refine RunC.seq ?_
  refine RunC.regionW ?_
  refine ROps.d (r := AV.oref 1 1 0 4) (fs := [(1, (([some 1073741824, some 1065353216, some 1065353216, some 1073741824] : List F).map AV.f32))]) (Γ' := [⟨1, some [AV.i64 0, AV.i64 0, AV.nilsl, AV.nilsl, AV.nilsl, AV.nilsl, AV.i64 0, AV.i64 0, AV.nilsl]⟩, ⟨1, some (([some 1073741824, some 1065353216, some 1065353216, some 1073741824] : List F).map AV.f32)⟩, ⟨0, none⟩, ⟨0, none⟩, ⟨0, none⟩, ⟨0, none⟩, ⟨0, none⟩]) rfl rfl rfl (TOp.buildSlice_o (g := ⟨0, none⟩) (za := AV.f32 (some 0)) (qs := [(0, [AV.f32 (some 1073741824)]), (1, [AV.f32 (some 1065353216)]), (2, [AV.f32 (some 1065353216)]), (3, [AV.f32 (some 1073741824)])]) 1 rfl und38 siz34 zer34 rfl zel34 rfl rfl ⟨rfl, ⟨_, (ALe.fl (by kernel_rfl) (by kernel_rfl)), rfl⟩, ⟨rfl, ⟨_, (ALe.fl (by kernel_rfl) (by kernel_rfl)), rfl⟩, ⟨rfl, ⟨_, (ALe.fl (by kernel_rfl) (by kernel_rfl)), rfl⟩, ⟨rfl, ⟨_, (ALe.fl (by kernel_rfl) (by kernel_rfl)), rfl⟩, trivial⟩⟩⟩⟩ rfl) rfl ?_
  refine ROps.l (r := AV.agg [AV.i64 2, AV.i64 2, AV.oref 1 1 0 4]) rfl rfl rfl (LOp.build (qs := [(0, [AV.i64 2]), (1, [AV.i64 2]), (2, [AV.oref 1 1 0 4])]) zer40 zok40 und40 plc40 rfl ⟨rfl, ⟨_, ALe.refl _, rfl⟩, ⟨rfl, ⟨_, ALe.refl _, rfl⟩, ⟨rfl, ⟨_, ALe.refl _, rfl⟩, trivial⟩⟩⟩ rfl) ?_
  refine ROps.l (r := AV.agg [AV.i64 2, AV.i64 2, AV.oref 1 1 0 4, AV.nilsl, AV.nilsl, AV.nilsl, AV.i64 0, AV.i64 0, AV.nilsl]) rfl rfl rfl (LOp.build (qs := [(0, [AV.i64 2, AV.i64 2, AV.oref 1 1 0 4])]) zer47 zok47 und47 plc47 rfl ⟨rfl, ⟨_, ALe.refl _, rfl⟩, trivial⟩ rfl) ?_
  refine ROps.d (r := AV.optr 2 1 0) (fs := [(2, [AV.i64 0, AV.i64 0, AV.nilsl, AV.nilsl, AV.nilsl, AV.nilsl, AV.i64 0, AV.i64 0, AV.nilsl])]) (Γ' := [⟨1, some [AV.i64 0, AV.i64 0, AV.nilsl, AV.nilsl, AV.nilsl, AV.nilsl, AV.i64 0, AV.i64 0, AV.nilsl]⟩, ⟨1, some (([some 1073741824, some 1065353216, some 1065353216, some 1073741824] : List F).map AV.f32)⟩, ⟨1, some [AV.i64 0, AV.i64 0, AV.nilsl, AV.nilsl, AV.nilsl, AV.nilsl, AV.i64 0, AV.i64 0, AV.nilsl]⟩, ⟨0, none⟩, ⟨0, none⟩, ⟨0, none⟩, ⟨0, none⟩]) rfl rfl rfl (TOp.alloc_o (g := ⟨0, none⟩) 2 rfl zer47 zok47 rfl) rfl ?_
  refine ROps.store_le (r := AV.agg [AV.i64 2, AV.i64 2, AV.oref 1 1 0 4, AV.nilsl, AV.nilsl, AV.nilsl, AV.i64 0, AV.i64 0, AV.nilsl]) (l' := [AV.i64 2, AV.i64 2, AV.oref 1 1 0 4, AV.nilsl, AV.nilsl, AV.nilsl, AV.i64 0, AV.i64 0, AV.nilsl]) (Γ' := [⟨1, some [AV.i64 0, AV.i64 0, AV.nilsl, AV.nilsl, AV.nilsl, AV.nilsl, AV.i64 0, AV.i64 0, AV.nilsl]⟩, ⟨1, some (([some 1073741824, some 1065353216, some 1065353216, some 1073741824] : List F).map AV.f32)⟩, ⟨1, some [AV.i64 2, AV.i64 2, AV.oref 1 1 0 4, AV.nilsl, AV.nilsl, AV.nilsl, AV.i64 0, AV.i64 0, AV.nilsl]⟩, ⟨0, none⟩, ⟨0, none⟩, ⟨0, none⟩, ⟨0, none⟩]) rfl siz47 rfl rfl rfl (ALe.refl _) rfl rfl rfl rfl (Nat.le_of_ble_eq_true rfl) rfl rfl ?_
  refine ROps.nil ?_
  refine RunC.seq ?_
  refine RunC.regionW ?_
  refine ROps.d (r := AV.oref 3 1 0 2) (fs := [(3, (([some 1065353216, some 0] : List F).map AV.f32))]) (Γ' := [⟨1, some [AV.i64 0, AV.i64 0, AV.nilsl, AV.nilsl, AV.nilsl, AV.nilsl, AV.i64 0, AV.i64 0, AV.nilsl]⟩, ⟨1, some (([some 1073741824, some 1065353216, some 1065353216, some 1073741824] : List F).map AV.f32)⟩, ⟨1, some [AV.i64 2, AV.i64 2, AV.oref 1 1 0 4, AV.nilsl, AV.nilsl, AV.nilsl, AV.i64 0, AV.i64 0, AV.nilsl]⟩, ⟨1, some (([some 1065353216, some 0] : List F).map AV.f32)⟩, ⟨0, none⟩, ⟨0, none⟩, ⟨0, none⟩]) rfl rfl rfl (TOp.buildSlice_o (g := ⟨0, none⟩) (za := AV.f32 (some 0)) (qs := [(0, [AV.f32 (some 1065353216)]), (1, [AV.f32 (some 0)])]) 3 rfl und38 siz34 zer34 rfl zel34 rfl rfl ⟨rfl, ⟨_, (ALe.fl (by kernel_rfl) (by kernel_rfl)), rfl⟩, ⟨rfl, ⟨_, (ALe.fl (by kernel_rfl) (by kernel_rfl)), rfl⟩, trivial⟩⟩ rfl) rfl ?_
  refine ROps.l (r := AV.optr 2 1 3) rfl rfl rfl (LOp.fao und47 rfl siz38 rfl rfl rfl) ?_
  refine ROps.store_le (r := AV.oref 3 1 0 2) (l' := [AV.i64 2, AV.i64 2, AV.oref 1 1 0 4, AV.oref 3 1 0 2, AV.nilsl, AV.nilsl, AV.i64 0, AV.i64 0, AV.nilsl]) (Γ' := [⟨1, some [AV.i64 0, AV.i64 0, AV.nilsl, AV.nilsl, AV.nilsl, AV.nilsl, AV.i64 0, AV.i64 0, AV.nilsl]⟩, ⟨1, some (([some 1073741824, some 1065353216, some 1065353216, some 1073741824] : List F).map AV.f32)⟩, ⟨1, some [AV.i64 2, AV.i64 2, AV.oref 1 1 0 4, AV.oref 3 1 0 2, AV.nilsl, AV.nilsl, AV.i64 0, AV.i64 0, AV.nilsl]⟩, ⟨1, some (([some 1065353216, some 0] : List F).map AV.f32)⟩, ⟨0, none⟩, ⟨0, none⟩, ⟨0, none⟩]) rfl siz38 rfl rfl rfl (ALe.refl _) rfl rfl rfl rfl (Nat.le_of_ble_eq_true rfl) rfl rfl ?_
  refine ROps.nil ?_
  refine RunC.seq ?_
  refine RunC.regionW ?_
  refine ROps.d (r := AV.oref 4 1 0 2) (fs := [(4, (([some 1073741824, some 1073741824] : List F).map AV.f32))]) (Γ' := [⟨1, some [AV.i64 0, AV.i64 0, AV.nilsl, AV.nilsl, AV.nilsl, AV.nilsl, AV.i64 0, AV.i64 0, AV.nilsl]⟩, ⟨1, some (([some 1073741824, some 1065353216, some 1065353216, some 1073741824] : List F).map AV.f32)⟩, ⟨1, some [AV.i64 2, AV.i64 2, AV.oref 1 1 0 4, AV.oref 3 1 0 2, AV.nilsl, AV.nilsl, AV.i64 0, AV.i64 0, AV.nilsl]⟩, ⟨1, some (([some 1065353216, some 0] : List F).map AV.f32)⟩, ⟨1, some (([some 1073741824, some 1073741824] : List F).map AV.f32)⟩, ⟨0, none⟩, ⟨0, none⟩]) rfl rfl rfl (TOp.buildSlice_o (g := ⟨0, none⟩) (za := AV.f32 (some 0)) (qs := [(0, [AV.f32 (some 1073741824)]), (1, [AV.f32 (some 1073741824)])]) 4 rfl und38 siz34 zer34 rfl zel34 rfl rfl ⟨rfl, ⟨_, (ALe.fl (by kernel_rfl) (by kernel_rfl)), rfl⟩, ⟨rfl, ⟨_, (ALe.fl (by kernel_rfl) (by kernel_rfl)), rfl⟩, trivial⟩⟩ rfl) rfl ?_
  refine ROps.d (r := AV.oref 5 1 0 1) (fs := [(5, (([some 1065353216] : List F).map AV.f32))]) (Γ' := [⟨1, some [AV.i64 0, AV.i64 0, AV.nilsl, AV.nilsl, AV.nilsl, AV.nilsl, AV.i64 0, AV.i64 0, AV.nilsl]⟩, ⟨1, some (([some 1073741824, some 1065353216, some 1065353216, some 1073741824] : List F).map AV.f32)⟩, ⟨1, some [AV.i64 2, AV.i64 2, AV.oref 1 1 0 4, AV.oref 3 1 0 2, AV.nilsl, AV.nilsl, AV.i64 0, AV.i64 0, AV.nilsl]⟩, ⟨1, some (([some 1065353216, some 0] : List F).map AV.f32)⟩, ⟨1, some (([some 1073741824, some 1073741824] : List F).map AV.f32)⟩, ⟨1, some (([some 1065353216] : List F).map AV.f32)⟩, ⟨0, none⟩]) rfl rfl rfl (TOp.buildSlice_o (g := ⟨0, none⟩) (za := AV.f32 (some 0)) (qs := [(0, [AV.f32 (some 1065353216)])]) 5 rfl und38 siz34 zer34 rfl zel34 rfl rfl ⟨rfl, ⟨_, (ALe.fl (by kernel_rfl) (by kernel_rfl)), rfl⟩, trivial⟩ rfl) rfl ?_
  refine ROps.l (r := AV.agg [AV.oref 4 1 0 2, AV.oref 5 1 0 1]) rfl rfl rfl (LOp.build (qs := [(0, [AV.oref 4 1 0 2]), (1, [AV.oref 5 1 0 1])]) zer42 zok42 und42 plc42 rfl ⟨rfl, ⟨_, ALe.refl _, rfl⟩, ⟨rfl, ⟨_, ALe.refl _, rfl⟩, trivial⟩⟩ rfl) ?_
  refine ROps.l (r := AV.optr 2 1 4) rfl rfl rfl (LOp.fao und47 rfl siz42 rfl rfl rfl) ?_
  refine ROps.store_le (r := AV.agg [AV.oref 4 1 0 2, AV.oref 5 1 0 1]) (l' := [AV.i64 2, AV.i64 2, AV.oref 1 1 0 4, AV.oref 3 1 0 2, AV.oref 4 1 0 2, AV.oref 5 1 0 1, AV.i64 0, AV.i64 0, AV.nilsl]) (Γ' := [⟨1, some [AV.i64 0, AV.i64 0, AV.nilsl, AV.nilsl, AV.nilsl, AV.nilsl, AV.i64 0, AV.i64 0, AV.nilsl]⟩, ⟨1, some (([some 1073741824, some 1065353216, some 1065353216, some 1073741824] : List F).map AV.f32)⟩, ⟨1, some [AV.i64 2, AV.i64 2, AV.oref 1 1 0 4, AV.oref 3 1 0 2, AV.oref 4 1 0 2, AV.oref 5 1 0 1, AV.i64 0, AV.i64 0, AV.nilsl]⟩, ⟨1, some (([some 1065353216, some 0] : List F).map AV.f32)⟩, ⟨1, some (([some 1073741824, some 1073741824] : List F).map AV.f32)⟩, ⟨1, some (([some 1065353216] : List F).map AV.f32)⟩, ⟨0, none⟩]) rfl siz42 rfl rfl rfl (ALe.refl _) rfl rfl rfl rfl (Nat.le_of_ble_eq_true rfl) rfl rfl ?_
  refine ROps.nil ?_
  refine RunC.seq ?_
  refine RunC.regionW ?_
  refine ROps.d (r := AV.oref 6 1 0 4) (fs := [(6, (([2, 4, 6, 8] : List Int).map AV.i64))]) (Γ' := [⟨1, some [AV.i64 0, AV.i64 0, AV.nilsl, AV.nilsl, AV.nilsl, AV.nilsl, AV.i64 0, AV.i64 0, AV.nilsl]⟩, ⟨1, some (([some 1073741824, some 1065353216, some 1065353216, some 1073741824] : List F).map AV.f32)⟩, ⟨1, some [AV.i64 2, AV.i64 2, AV.oref 1 1 0 4, AV.oref 3 1 0 2, AV.oref 4 1 0 2, AV.oref 5 1 0 1, AV.i64 0, AV.i64 0, AV.nilsl]⟩, ⟨1, some (([some 1065353216, some 0] : List F).map AV.f32)⟩, ⟨1, some (([some 1073741824, some 1073741824] : List F).map AV.f32)⟩, ⟨1, some (([some 1065353216] : List F).map AV.f32)⟩, ⟨1, some (([2, 4, 6, 8] : List Int).map AV.i64)⟩]) rfl rfl rfl (TOp.buildSlice_o (g := ⟨0, none⟩) (za := AV.i64 0) (qs := [(0, [AV.i64 2]), (1, [AV.i64 4]), (2, [AV.i64 6]), (3, [AV.i64 8])]) 6 rfl und43 siz2 zer2 rfl zel2 rfl rfl ⟨rfl, ⟨_, ALe.refl _, rfl⟩, ⟨rfl, ⟨_, ALe.refl _, rfl⟩, ⟨rfl, ⟨_, ALe.refl _, rfl⟩, ⟨rfl, ⟨_, ALe.refl _, rfl⟩, trivial⟩⟩⟩⟩ rfl) rfl ?_
  refine ROps.l (r := AV.agg [AV.i64 2, AV.i64 2, AV.oref 6 1 0 4]) rfl rfl rfl (LOp.build (qs := [(0, [AV.i64 2]), (1, [AV.i64 2]), (2, [AV.oref 6 1 0 4])]) zer45 zok45 und45 plc45 rfl ⟨rfl, ⟨_, ALe.refl _, rfl⟩, ⟨rfl, ⟨_, ALe.refl _, rfl⟩, ⟨rfl, ⟨_, ALe.refl _, rfl⟩, trivial⟩⟩⟩ rfl) ?_
  refine ROps.l (r := AV.optr 2 1 6) rfl rfl rfl (LOp.fao und47 rfl siz45 rfl rfl rfl) ?_
  refine ROps.store_le (r := AV.agg [AV.i64 2, AV.i64 2, AV.oref 6 1 0 4]) (l' := [AV.i64 2, AV.i64 2, AV.oref 1 1 0 4, AV.oref 3 1 0 2, AV.oref 4 1 0 2, AV.oref 5 1 0 1, AV.i64 2, AV.i64 2, AV.oref 6 1 0 4]) (Γ' := [⟨1, some [AV.i64 0, AV.i64 0, AV.nilsl, AV.nilsl, AV.nilsl, AV.nilsl, AV.i64 0, AV.i64 0, AV.nilsl]⟩, ⟨1, some (([some 1073741824, some 1065353216, some 1065353216, some 1073741824] : List F).map AV.f32)⟩, ⟨1, some [AV.i64 2, AV.i64 2, AV.oref 1 1 0 4, AV.oref 3 1 0 2, AV.oref 4 1 0 2, AV.oref 5 1 0 1, AV.i64 2, AV.i64 2, AV.oref 6 1 0 4]⟩, ⟨1, some (([some 1065353216, some 0] : List F).map AV.f32)⟩, ⟨1, some (([some 1073741824, some 1073741824] : List F).map AV.f32)⟩, ⟨1, some (([some 1065353216] : List F).map AV.f32)⟩, ⟨1, some (([2, 4, 6, 8] : List Int).map AV.i64)⟩]) rfl siz45 rfl rfl rfl (ALe.refl _) rfl rfl rfl rfl (Nat.le_of_ble_eq_true rfl) rfl rfl ?_
  refine ROps.nil ?_
  refine RunC.seq ?_
  refine RunC.regionW ?_
  refine ROps.d (r := AV.agg [AV.i64 2, AV.i64 2, AV.oref 1 1 0 4, AV.oref 3 1 0 2, AV.oref 4 1 0 2, AV.oref 5 1 0 1, AV.i64 2, AV.i64 2, AV.oref 6 1 0 4]) (fs := []) (Γ' := [⟨1, some [AV.i64 0, AV.i64 0, AV.nilsl, AV.nilsl, AV.nilsl, AV.nilsl, AV.i64 0, AV.i64 0, AV.nilsl]⟩, ⟨1, some (([some 1073741824, some 1065353216, some 1065353216, some 1073741824] : List F).map AV.f32)⟩, ⟨1, some [AV.i64 2, AV.i64 2, AV.oref 1 1 0 4, AV.oref 3 1 0 2, AV.oref 4 1 0 2, AV.oref 5 1 0 1, AV.i64 2, AV.i64 2, AV.oref 6 1 0 4]⟩, ⟨1, some (([some 1065353216, some 0] : List F).map AV.f32)⟩, ⟨1, some (([some 1073741824, some 1073741824] : List F).map AV.f32)⟩, ⟨1, some (([some 1065353216] : List F).map AV.f32)⟩, ⟨1, some (([2, 4, 6, 8] : List Int).map AV.i64)⟩]) rfl rfl rfl (TOp.loadAgg_o rfl agg47 siz47 rfl rfl rfl rfl) rfl ?_
  refine ROps.store_le (r := AV.agg [AV.i64 2, AV.i64 2, AV.oref 1 1 0 4, AV.oref 3 1 0 2, AV.oref 4 1 0 2, AV.oref 5 1 0 1, AV.i64 2, AV.i64 2, AV.oref 6 1 0 4]) (l' := [AV.i64 2, AV.i64 2, AV.oref 1 1 0 4, AV.oref 3 1 0 2, AV.oref 4 1 0 2, AV.oref 5 1 0 1, AV.i64 2, AV.i64 2, AV.oref 6 1 0 4]) (Γ' := [⟨1, some [AV.i64 2, AV.i64 2, AV.oref 1 1 0 4, AV.oref 3 1 0 2, AV.oref 4 1 0 2, AV.oref 5 1 0 1, AV.i64 2, AV.i64 2, AV.oref 6 1 0 4]⟩, ⟨1, some (([some 1073741824, some 1065353216, some 1065353216, some 1073741824] : List F).map AV.f32)⟩, ⟨1, some [AV.i64 2, AV.i64 2, AV.oref 1 1 0 4, AV.oref 3 1 0 2, AV.oref 4 1 0 2, AV.oref 5 1 0 1, AV.i64 2, AV.i64 2, AV.oref 6 1 0 4]⟩, ⟨1, some (([some 1065353216, some 0] : List F).map AV.f32)⟩, ⟨1, some (([some 1073741824, some 1073741824] : List F).map AV.f32)⟩, ⟨1, some (([some 1065353216] : List F).map AV.f32)⟩, ⟨1, some (([2, 4, 6, 8] : List Int).map AV.i64)⟩]) rfl siz47 rfl rfl rfl (ALe.refl _) rfl rfl rfl rfl (Nat.le_of_ble_eq_true rfl) rfl rfl ?_
  refine ROps.nil ?_
  refine RunC.ret ?_
  have hq := Option.some.inj h
  obtain ⟨hq0, hq⟩ := Prod.mk.inj hq
  obtain ⟨hq1, hq⟩ := Prod.mk.inj hq
  obtain ⟨hq2, hq⟩ := Prod.mk.inj hq
  obtain ⟨hq3, hq⟩ := Prod.mk.inj hq
  obtain ⟨hq4, hq⟩ := Prod.mk.inj hq
  obtain ⟨hq5, hq⟩ := Prod.mk.inj hq
  obtain ⟨hq6, hq⟩ := Prod.mk.inj hq
  obtain ⟨hq7, hq⟩ := Prod.mk.inj hq
  subst q0
  subst q1
  subst q2
  subst q3
  subst q4
  subst q5
  subst q6
  subst q7
  subst q8
  exact bodyQ.mk (r' := AV.agg [AV.i64 2, AV.i64 2, AV.oref 1 1 0 (([some 1073741824, some 1065353216, some 1065353216, some 1073741824] : List F).length), AV.oref 3 1 0 (([some 1065353216, some 0] : List F).length), AV.oref 4 1 0 (([some 1073741824, some 1073741824] : List F).length), AV.oref 5 1 0 (([some 1065353216] : List F).length), AV.i64 2, AV.i64 2, AV.oref 6 1 0 (([2, 4, 6, 8] : List Int).length)]) [(1, 1), (3, 1), (4, 1), (5, 1), (6, 1)] (.inr rfl) rfl (by decide) rfl rfl (Res.eq (Res.one rfl (RV.cell agg47 siz47 rfl rfl rfl rfl)) (by rw [(show ([some 1073741824, some 1065353216, some 1065353216, some 1073741824] : List F).length = 4 from rfl), (show ([some 1065353216, some 0] : List F).length = 2 from rfl), (show ([some 1073741824, some 1073741824] : List F).length = 2 from rfl), (show ([some 1065353216] : List F).length = 1 from rfl), (show ([2, 4, 6, 8] : List Int).length = 4 from rfl)] <;> rfl)) (SelL.arr0 (f := AV.f32) (fun _ => rfl) rfl (SelL.arr0 (f := AV.f32) (fun _ => rfl) rfl (SelL.arr0 (f := AV.f32) (fun _ => rfl) rfl (SelL.arr0 (f := AV.f32) (fun _ => rfl) rfl (SelL.arr0 (f := AV.i64) (fun _ => rfl) rfl trivial)))))
noncomputable def f20  : Option (Int × Int × Int × Int × (List F) × (List F) × (List F) × (List F) × (List Int)) :=
  some (2, 2, 2, 2, ([some 1073741824, some 1065353216, some 1065353216, some 1073741824] : List F), ([some 1065353216, some 0] : List F), ([some 1073741824, some 1073741824] : List F), ([some 1065353216] : List F), ([2, 4, 6, 8] : List Int))
theorem f20_ok  (q0 : Int) (q1 : Int) (q2 : Int) (q3 : Int) (q4 : List F) (q5 : List F) (q6 : List F) (q7 : List F) (q8 : List Int) (h : f20  = some (q0, q1, q2, q3, q4, q5, q6, q7, q8)) : Ev Try.prog 20 [] [] (AV.agg [AV.i64 q0, AV.i64 q1, AV.oref 0 0 0 q4.length, AV.oref 1 0 0 q5.length, AV.oref 2 0 0 q6.length, AV.oref 3 0 0 q7.length, AV.i64 q2, AV.i64 q3, AV.oref 4 0 0 q8.length]) [⟨0, some (q4.map AV.f32)⟩, ⟨0, some (q5.map AV.f32)⟩, ⟨0, some (q6.map AV.f32)⟩, ⟨0, some (q7.map AV.f32)⟩, ⟨0, some (q8.map AV.i64)⟩] := by
  refine Ev.start Try.func20 rfl rfl 6 (τ := []) rfl (Γ' := [⟨0, none⟩, ⟨0, none⟩, ⟨0, none⟩, ⟨0, none⟩, ⟨0, none⟩, ⟨0, none⟩]) rfl (n := 10) rfl (g := 0) rfl ?_
  unfold f20 at h
  refine RunC.seq ?_
  refine RunC.regionW ?_
  refine ROps.d (r := AV.optr 0 1 0) (fs := [(0, [AV.i64 0, AV.i64 0, AV.nilsl, AV.nilsl, AV.nilsl, AV.nilsl, AV.i64 0, AV.i64 0, AV.nilsl])]) (Γ' := [⟨1, some [AV.i64 0, AV.i64 0, AV.nilsl, AV.nilsl, AV.nilsl, AV.nilsl, AV.i64 0, AV.i64 0, AV.nilsl]⟩, ⟨0, none⟩, ⟨0, none⟩, ⟨0, none⟩, ⟨0, none⟩, ⟨0, none⟩]) rfl rfl rfl (TOp.alloc_o (g := ⟨0, none⟩) 0 rfl zer47 zok47 rfl) rfl ?_
  refine ROps.nil ?_
  refine RunC.seq ?_
  refine RunC.regionW ?_
  refine ROps.d (r := AV.oref 1 1 0 4) (fs := [(1, (([some 1073741824, some 1065353216, some 1065353216, some 1073741824] : List F).map AV.f32))]) (Γ' := [⟨1, some [AV.i64 0, AV.i64 0, AV.nilsl, AV.nilsl, AV.nilsl, AV.nilsl, AV.i64 0, AV.i64 0, AV.nilsl]⟩, ⟨1, some (([some 1073741824, some 1065353216, some 1065353216, some 1073741824] : List F).map AV.f32)⟩, ⟨0, none⟩, ⟨0, none⟩, ⟨0, none⟩, ⟨0, none⟩]) rfl rfl rfl (TOp.buildSlice_o (g := ⟨0, none⟩) (za := AV.f32 (some 0)) (qs := [(0, [AV.f32 (some 1073741824)]), (1, [AV.f32 (some 1065353216)]), (2, [AV.f32 (some 1065353216)]), (3, [AV.f32 (some 1073741824)])]) 1 rfl und38 siz34 zer34 rfl zel34 rfl rfl ⟨rfl, ⟨_, (ALe.fl (by kernel_rfl) (by kernel_rfl)), rfl⟩, ⟨rfl, ⟨_, (ALe.fl (by kernel_rfl) (by kernel_rfl)), rfl⟩, ⟨rfl, ⟨_, (ALe.fl (by kernel_rfl) (by kernel_rfl)), rfl⟩, ⟨rfl, ⟨_, (ALe.fl (by kernel_rfl) (by kernel_rfl)), rfl⟩, trivial⟩⟩⟩⟩ rfl) rfl ?_
  refine ROps.l (r := AV.agg [AV.i64 2, AV.i64 2, AV.oref 1 1 0 4]) rfl rfl rfl (LOp.build (qs := [(0, [AV.i64 2]), (1, [AV.i64 2]), (2, [AV.oref 1 1 0 4])]) zer40 zok40 und40 plc40 rfl ⟨rfl, ⟨_, ALe.refl _, rfl⟩, ⟨rfl, ⟨_, ALe.refl _, rfl⟩, ⟨rfl, ⟨_, ALe.refl _, rfl⟩, trivial⟩⟩⟩ rfl) ?_
  refine ROps.d (r := AV.oref 2 1 0 2) (fs := [(2, (([some 1065353216, some 0] : List F).map AV.f32))]) (Γ' := [⟨1, some [AV.i64 0, AV.i64 0, AV.nilsl, AV.nilsl, AV.nilsl, AV.nilsl, AV.i64 0, AV.i64 0, AV.nilsl]⟩, ⟨1, some (([some 1073741824, some 1065353216, some 1065353216, some 1073741824] : List F).map AV.f32)⟩, ⟨1, some (([some 1065353216, some 0] : List F).map AV.f32)⟩, ⟨0, none⟩, ⟨0, none⟩, ⟨0, none⟩]) rfl rfl rfl (TOp.buildSlice_o (g := ⟨0, none⟩) (za := AV.f32 (some 0)) (qs := [(0, [AV.f32 (some 1065353216)]), (1, [AV.f32 (some 0)])]) 2 rfl und38 siz34 zer34 rfl zel34 rfl rfl ⟨rfl, ⟨_, (ALe.fl (by kernel_rfl) (by kernel_rfl)), rfl⟩, ⟨rfl, ⟨_, (ALe.fl (by kernel_rfl) (by kernel_rfl)), rfl⟩, trivial⟩⟩ rfl) rfl ?_
  refine ROps.d (r := AV.oref 3 1 0 2) (fs := [(3, (([some 1073741824, some 1073741824] : List F).map AV.f32))]) (Γ' := [⟨1, some [AV.i64 0, AV.i64 0, AV.nilsl, AV.nilsl, AV.nilsl, AV.nilsl, AV.i64 0, AV.i64 0, AV.nilsl]⟩, ⟨1, some (([some 1073741824, some 1065353216, some 1065353216, some 1073741824] : List F).map AV.f32)⟩, ⟨1, some (([some 1065353216, some 0] : List F).map AV.f32)⟩, ⟨1, some (([some 1073741824, some 1073741824] : List F).map AV.f32)⟩, ⟨0, none⟩, ⟨0, none⟩]) rfl rfl rfl (TOp.buildSlice_o (g := ⟨0, none⟩) (za := AV.f32 (some 0)) (qs := [(0, [AV.f32 (some 1073741824)]), (1, [AV.f32 (some 1073741824)])]) 3 rfl und38 siz34 zer34 rfl zel34 rfl rfl ⟨rfl, ⟨_, (ALe.fl (by kernel_rfl) (by kernel_rfl)), rfl⟩, ⟨rfl, ⟨_, (ALe.fl (by kernel_rfl) (by kernel_rfl)), rfl⟩, trivial⟩⟩ rfl) rfl ?_
  refine ROps.d (r := AV.oref 4 1 0 1) (fs := [(4, (([some 1065353216] : List F).map AV.f32))]) (Γ' := [⟨1, some [AV.i64 0, AV.i64 0, AV.nilsl, AV.nilsl, AV.nilsl, AV.nilsl, AV.i64 0, AV.i64 0, AV.nilsl]⟩, ⟨1, some (([some 1073741824, some 1065353216, some 1065353216, some 1073741824] : List F).map AV.f32)⟩, ⟨1, some (([some 1065353216, some 0] : List F).map AV.f32)⟩, ⟨1, some (([some 1073741824, some 1073741824] : List F).map AV.f32)⟩, ⟨1, some (([some 1065353216] : List F).map AV.f32)⟩, ⟨0, none⟩]) rfl rfl rfl (TOp.buildSlice_o (g := ⟨0, none⟩) (za := AV.f32 (some 0)) (qs := [(0, [AV.f32 (some 1065353216)])]) 4 rfl und38 siz34 zer34 rfl zel34 rfl rfl ⟨rfl, ⟨_, (ALe.fl (by kernel_rfl) (by kernel_rfl)), rfl⟩, trivial⟩ rfl) rfl ?_
  refine ROps.l (r := AV.agg [AV.oref 3 1 0 2, AV.oref 4 1 0 1]) rfl rfl rfl (LOp.build (qs := [(0, [AV.oref 3 1 0 2]), (1, [AV.oref 4 1 0 1])]) zer42 zok42 und42 plc42 rfl ⟨rfl, ⟨_, ALe.refl _, rfl⟩, ⟨rfl, ⟨_, ALe.refl _, rfl⟩, trivial⟩⟩ rfl) ?_
  refine ROps.d (r := AV.oref 5 1 0 4) (fs := [(5, (([2, 4, 6, 8] : List Int).map AV.i64))]) (Γ' := [⟨1, some [AV.i64 0, AV.i64 0, AV.nilsl, AV.nilsl, AV.nilsl, AV.nilsl, AV.i64 0, AV.i64 0, AV.nilsl]⟩, ⟨1, some (([some 1073741824, some 1065353216, some 1065353216, some 1073741824] : List F).map AV.f32)⟩, ⟨1, some (([some 1065353216, some 0] : List F).map AV.f32)⟩, ⟨1, some (([some 1073741824, some 1073741824] : List F).map AV.f32)⟩, ⟨1, some (([some 1065353216] : List F).map AV.f32)⟩, ⟨1, some (([2, 4, 6, 8] : List Int).map AV.i64)⟩]) rfl rfl rfl (TOp.buildSlice_o (g := ⟨0, none⟩) (za := AV.i64 0) (qs := [(0, [AV.i64 2]), (1, [AV.i64 4]), (2, [AV.i64 6]), (3, [AV.i64 8])]) 5 rfl und43 siz2 zer2 rfl zel2 rfl rfl ⟨rfl, ⟨_, ALe.refl _, rfl⟩, ⟨rfl, ⟨_, ALe.refl _, rfl⟩, ⟨rfl, ⟨_, ALe.refl _, rfl⟩, ⟨rfl, ⟨_, ALe.refl _, rfl⟩, trivial⟩⟩⟩⟩ rfl) rfl ?_
  refine ROps.l (r := AV.agg [AV.i64 2, AV.i64 2, AV.oref 5 1 0 4]) rfl rfl rfl (LOp.build (qs := [(0, [AV.i64 2]), (1, [AV.i64 2]), (2, [AV.oref 5 1 0 4])]) zer45 zok45 und45 plc45 rfl ⟨rfl, ⟨_, ALe.refl _, rfl⟩, ⟨rfl, ⟨_, ALe.refl _, rfl⟩, ⟨rfl, ⟨_, ALe.refl _, rfl⟩, trivial⟩⟩⟩ rfl) ?_
  refine ROps.l (r := AV.agg [AV.i64 2, AV.i64 2, AV.oref 1 1 0 4, AV.oref 2 1 0 2, AV.oref 3 1 0 2, AV.oref 4 1 0 1, AV.i64 2, AV.i64 2, AV.oref 5 1 0 4]) rfl rfl rfl (LOp.build (qs := [(0, [AV.i64 2, AV.i64 2, AV.oref 1 1 0 4]), (1, [AV.oref 2 1 0 2]), (2, [AV.oref 3 1 0 2, AV.oref 4 1 0 1]), (3, [AV.i64 2, AV.i64 2, AV.oref 5 1 0 4])]) zer47 zok47 und47 plc47 rfl ⟨rfl, ⟨_, ALe.refl _, rfl⟩, ⟨rfl, ⟨_, ALe.refl _, rfl⟩, ⟨rfl, ⟨_, ALe.refl _, rfl⟩, ⟨rfl, ⟨_, ALe.refl _, rfl⟩, trivial⟩⟩⟩⟩ rfl) ?_
  refine ROps.store_le (r := AV.agg [AV.i64 2, AV.i64 2, AV.oref 1 1 0 4, AV.oref 2 1 0 2, AV.oref 3 1 0 2, AV.oref 4 1 0 1, AV.i64 2, AV.i64 2, AV.oref 5 1 0 4]) (l' := [AV.i64 2, AV.i64 2, AV.oref 1 1 0 4, AV.oref 2 1 0 2, AV.oref 3 1 0 2, AV.oref 4 1 0 1, AV.i64 2, AV.i64 2, AV.oref 5 1 0 4]) (Γ' := [⟨1, some [AV.i64 2, AV.i64 2, AV.oref 1 1 0 4, AV.oref 2 1 0 2, AV.oref 3 1 0 2, AV.oref 4 1 0 1, AV.i64 2, AV.i64 2, AV.oref 5 1 0 4]⟩, ⟨1, some (([some 1073741824, some 1065353216, some 1065353216, some 1073741824] : List F).map AV.f32)⟩, ⟨1, some (([some 1065353216, some 0] : List F).map AV.f32)⟩, ⟨1, some (([some 1073741824, some 1073741824] : List F).map AV.f32)⟩, ⟨1, some (([some 1065353216] : List F).map AV.f32)⟩, ⟨1, some (([2, 4, 6, 8] : List Int).map AV.i64)⟩]) rfl siz47 rfl rfl rfl (ALe.refl _) rfl rfl rfl rfl (Nat.le_of_ble_eq_true rfl) rfl rfl ?_
  refine ROps.nil ?_
  refine RunC.ret ?_
  have hq := Option.some.inj h
  obtain ⟨hq0, hq⟩ := Prod.mk.inj hq
  obtain ⟨hq1, hq⟩ := Prod.mk.inj hq
  obtain ⟨hq2, hq⟩ := Prod.mk.inj hq
  obtain ⟨hq3, hq⟩ := Prod.mk.inj hq
  obtain ⟨hq4, hq⟩ := Prod.mk.inj hq
  obtain ⟨hq5, hq⟩ := Prod.mk.inj hq
  obtain ⟨hq6, hq⟩ := Prod.mk.inj hq
  obtain ⟨hq7, hq⟩ := Prod.mk.inj hq
  subst q0
  subst q1
  subst q2
  subst q3
  subst q4
  subst q5
  subst q6
  subst q7
  subst q8
  exact bodyQ.mk (r' := AV.agg [AV.i64 2, AV.i64 2, AV.oref 1 1 0 (([some 1073741824, some 1065353216, some 1065353216, some 1073741824] : List F).length), AV.oref 2 1 0 (([some 1065353216, some 0] : List F).length), AV.oref 3 1 0 (([some 1073741824, some 1073741824] : List F).length), AV.oref 4 1 0 (([some 1065353216] : List F).length), AV.i64 2, AV.i64 2, AV.oref 5 1 0 (([2, 4, 6, 8] : List Int).length)]) [(1, 1), (2, 1), (3, 1), (4, 1), (5, 1)] (.inr rfl) rfl (by decide) rfl rfl (Res.eq (Res.one rfl (RV.cell agg47 siz47 rfl rfl rfl rfl)) (by rw [(show ([some 1073741824, some 1065353216, some 1065353216, some 1073741824] : List F).length = 4 from rfl), (show ([some 1065353216, some 0] : List F).length = 2 from rfl), (show ([some 1073741824, some 1073741824] : List F).length = 2 from rfl), (show ([some 1065353216] : List F).length = 1 from rfl), (show ([2, 4, 6, 8] : List Int).length = 4 from rfl)] <;> rfl)) (SelL.arr0 (f := AV.f32) (fun _ => rfl) rfl (SelL.arr0 (f := AV.f32) (fun _ => rfl) rfl (SelL.arr0 (f := AV.f32) (fun _ => rfl) rfl (SelL.arr0 (f := AV.f32) (fun _ => rfl) rfl (SelL.arr0 (f := AV.i64) (fun _ => rfl) rfl trivial)))))
noncomputable def f93_k1 (a0 : F) (a1 : F) : Option (Bool) :=
  some (feq .f64 a0 a1)
noncomputable def f93 (a0 : F) (a1 : F) : Option (Bool) :=
  bsel (!feq .f64 a0 a0) (
    some (!feq .f64 a1 a1)) (
    bsel (!feq .f64 a1 a1) (
      some false) (
      bsel (feq .f64 a0 (some 0)) (
        bsel (feq .f64 a1 (some 0)) (
          olet (fop .quo .f64 (some 4607182418800017408) a0) fun (x1 : F) =>
          olet (fop .quo .f64 (some 4607182418800017408) a1) fun (x2 : F) =>
          some ((flt .f64 (some 0) x1) == (flt .f64 (some 0) x2))) (
          f93_k1 a0 a1)) (
        f93_k1 a0 a1)))
theorem f93_ok (a0 : F) (a1 : F) (q0 : Bool) (h : f93 a0 a1 = some q0) : Ev Try.prog 93 [AV.f64 a0, AV.f64 a1] [] (AV.b q0) [] := by
  refine Ev.start Try.func93 rfl rfl 0 (τ := [(0, AV.f64 a0), (1, AV.f64 a1)]) rfl (Γ' := []) rfl (n := 37) rfl (g := 0) rfl ?_
  unfold f93 at h
  refine RunC.seq ?_
  refine RunC.regionW ?_
  refine ROps.l (r := AV.b false) rfl rfl rfl (LOp.assign rfl rfl) ?_
  refine ROps.nil ?_
  refine RunC.seq ?_
  refine RunC.seq ?_
  rcases bsel_some h with ⟨hc1, h⟩ | ⟨hc1, h⟩
  · refine RunC.regionW ?_
    refine ROps.l (r := AV.f64 a0) rfl rfl rfl (LOp.move rfl rfl) ?_
    refine ROps.l (r := AV.f64 a0) rfl rfl rfl (LOp.move rfl rfl) ?_
    refine ROps.l (r := AV.b true) rfl rfl rfl (LOp.eqb (LOp.fne rfl (OpF.tmp rfl) (OpF.tmp rfl)) hc1) ?_
    refine ROps.l (r := AV.b true) rfl rfl rfl (LOp.move rfl rfl) ?_
    refine ROps.s rfl rfl rfl ?_
    refine ROps.s rfl rfl rfl ?_
    refine ROps.s rfl rfl rfl ?_
    refine ROps.l (r := AV.b true) rfl rfl rfl (LOp.pick_true rfl rfl rfl) ?_
    refine ROps.nil ?_
    refine RunC.cond_true rfl rfl ?_
    refine RunC.seq ?_
    refine RunC.regionW ?_
    refine ROps.l (r := AV.f64 a0) rfl rfl rfl (LOp.move rfl rfl) ?_
    refine ROps.l (r := AV.f64 a0) rfl rfl rfl (LOp.move rfl rfl) ?_
    refine ROps.l (r := AV.b true) rfl rfl rfl (LOp.eqb (LOp.fne rfl (OpF.tmp rfl) (OpF.tmp rfl)) hc1) ?_
    refine ROps.l (r := AV.b true) rfl rfl rfl (LOp.move rfl rfl) ?_
    refine ROps.l (r := AV.f64 a1) rfl rfl rfl (LOp.move rfl rfl) ?_
    refine ROps.l (r := AV.f64 a1) rfl rfl rfl (LOp.move rfl rfl) ?_
    refine ROps.l (r := AV.b (!feq .f64 a1 a1)) rfl rfl rfl (LOp.fne rfl (OpF.tmp rfl) (OpF.tmp rfl)) ?_
    refine ROps.l (r := AV.b (!feq .f64 a1 a1)) rfl rfl rfl (LOp.pick_true rfl rfl rfl) ?_
    refine ROps.l (r := AV.b (!feq .f64 a1 a1)) rfl rfl rfl (LOp.assign rfl rfl) ?_
    refine ROps.nil ?_
    refine RunC.ret ?_
    have hq := Option.some.inj h
    subst q0
    exact bodyQ.pure (.inr rfl) rfl (Res.one rfl (RV.tmp rfl))
  · rcases bsel_some h with ⟨hc2, h⟩ | ⟨hc2, h⟩
    · refine RunC.regionW ?_
      refine ROps.l (r := AV.f64 a0) rfl rfl rfl (LOp.move rfl rfl) ?_
      refine ROps.l (r := AV.f64 a0) rfl rfl rfl (LOp.move rfl rfl) ?_
      refine ROps.l (r := AV.b false) rfl rfl rfl (LOp.eqb (LOp.fne rfl (OpF.tmp rfl) (OpF.tmp rfl)) hc1) ?_
      refine ROps.l (r := AV.b false) rfl rfl rfl (LOp.move rfl rfl) ?_
      refine ROps.l (r := AV.f64 a1) rfl rfl rfl (LOp.move rfl rfl) ?_
      refine ROps.l (r := AV.f64 a1) rfl rfl rfl (LOp.move rfl rfl) ?_
      refine ROps.l (r := AV.b true) rfl rfl rfl (LOp.eqb (LOp.fne rfl (OpF.tmp rfl) (OpF.tmp rfl)) hc2) ?_
      refine ROps.l (r := AV.b true) rfl rfl rfl (LOp.pick_false rfl rfl rfl) ?_
      refine ROps.nil ?_
      refine RunC.cond_true rfl rfl ?_
      refine RunC.seq ?_
      refine RunC.regionW ?_
      refine ROps.l (r := AV.f64 a0) rfl rfl rfl (LOp.move rfl rfl) ?_
      refine ROps.l (r := AV.f64 a0) rfl rfl rfl (LOp.move rfl rfl) ?_
      refine ROps.l (r := AV.b false) rfl rfl rfl (LOp.eqb (LOp.fne rfl (OpF.tmp rfl) (OpF.tmp rfl)) hc1) ?_
      refine ROps.l (r := AV.b false) rfl rfl rfl (LOp.move rfl rfl) ?_
      refine ROps.s rfl rfl rfl ?_
      refine ROps.s rfl rfl rfl ?_
      refine ROps.s rfl rfl rfl ?_
      refine ROps.l (r := AV.b false) rfl rfl rfl (LOp.pick_false rfl rfl rfl) ?_
      refine ROps.l (r := AV.b false) rfl rfl rfl (LOp.assign rfl rfl) ?_
      refine ROps.nil ?_
      refine RunC.ret ?_
      have hq := Option.some.inj h
      subst q0
      exact bodyQ.pure (.inr rfl) rfl (Res.one rfl (RV.tmp rfl))
    · refine RunC.regionW ?_
      refine ROps.l (r := AV.f64 a0) rfl rfl rfl (LOp.move rfl rfl) ?_
      refine ROps.l (r := AV.f64 a0) rfl rfl rfl (LOp.move rfl rfl) ?_
      refine ROps.l (r := AV.b false) rfl rfl rfl (LOp.eqb (LOp.fne rfl (OpF.tmp rfl) (OpF.tmp rfl)) hc1) ?_
      refine ROps.l (r := AV.b false) rfl rfl rfl (LOp.move rfl rfl) ?_
      refine ROps.l (r := AV.f64 a1) rfl rfl rfl (LOp.move rfl rfl) ?_
      refine ROps.l (r := AV.f64 a1) rfl rfl rfl (LOp.move rfl rfl) ?_
      refine ROps.l (r := AV.b false) rfl rfl rfl (LOp.eqb (LOp.fne rfl (OpF.tmp rfl) (OpF.tmp rfl)) hc2) ?_
      refine ROps.l (r := AV.b false) rfl rfl rfl (LOp.pick_false rfl rfl rfl) ?_
      refine ROps.nil ?_
      refine RunC.cond_false rfl rfl ?_
      refine RunC.skip ?_
      refine RunC.seq ?_
      refine RunC.cutN (fun τ Γ =>  WeakLe τ [(0, AV.f64 a0), (1, AV.f64 a1)] ∧ DeadLe Γ [] ∧ f93_k1 a0 a1 = some q0) ?_ ?_
      · refine RunC.seq ?_
        rcases bsel_some h with ⟨hc3, h⟩ | ⟨hc3, h⟩
        · rcases bsel_some h with ⟨hc4, h⟩ | ⟨hc4, h⟩
          · refine RunC.regionW ?_
            refine ROps.l (r := AV.f64 a0) rfl rfl rfl (LOp.move rfl rfl) ?_
            refine ROps.l (r := AV.b true) rfl rfl rfl (LOp.eqb (LOp.feq rfl (OpF.tmp rfl) (OpF.const rfl (by kernel_rfl) (by kernel_rfl))) hc3) ?_
            refine ROps.l (r := AV.b true) rfl rfl rfl (LOp.move rfl rfl) ?_
            refine ROps.l (r := AV.f64 a1) rfl rfl rfl (LOp.move rfl rfl) ?_
            refine ROps.l (r := AV.b true) rfl rfl rfl (LOp.eqb (LOp.feq rfl (OpF.tmp rfl) (OpF.const rfl (by kernel_rfl) (by kernel_rfl))) hc4) ?_
            refine ROps.l (r := AV.b true) rfl rfl rfl (LOp.pick_true rfl rfl rfl) ?_
            refine ROps.nil ?_
            refine RunC.wl (τ' := [(0, AV.f64 a0), (1, AV.f64 a1), (26, AV.b true)]) (Γ' := []) ⟨(ALe.refl _), (ALe.refl _), (ALe.refl _), trivial⟩ trivial ?_
            refine RunC.cond_true rfl rfl ?_
            refine RunC.seq ?_
            obtain ⟨x1, hx5, h⟩ := olet_some h
            obtain ⟨x2, hx6, h⟩ := olet_some h
            refine RunC.regionW ?_
            refine ROps.l (r := AV.f64 a0) rfl rfl rfl (LOp.move rfl rfl) ?_
            refine ROps.d (r := AV.f64 x1) (fs := []) (Γ' := []) rfl rfl rfl (TOp.eqr (TOp.fop (.inr (.inr (.inr rfl))) rfl (OpF.const rfl (by kernel_rfl) (by kernel_rfl)) (OpF.tmp rfl)) (congrArg (AV.f .f64) hx5)) rfl ?_
            refine ROps.l (r := AV.b (flt .f64 (some 0) x1)) rfl rfl rfl (LOp.fgt rfl (OpF.tmp rfl) (OpF.const rfl (by kernel_rfl) (by kernel_rfl))) ?_
            refine ROps.l (r := AV.f64 a1) rfl rfl rfl (LOp.move rfl rfl) ?_
            refine ROps.d (r := AV.f64 x2) (fs := []) (Γ' := []) rfl rfl rfl (TOp.eqr (TOp.fop (.inr (.inr (.inr rfl))) rfl (OpF.const rfl (by kernel_rfl) (by kernel_rfl)) (OpF.tmp rfl)) (congrArg (AV.f .f64) hx6)) rfl ?_
            refine ROps.l (r := AV.b (flt .f64 (some 0) x2)) rfl rfl rfl (LOp.fgt rfl (OpF.tmp rfl) (OpF.const rfl (by kernel_rfl) (by kernel_rfl))) ?_
            refine ROps.l (r := AV.b ((flt .f64 (some 0) x1) == (flt .f64 (some 0) x2))) rfl rfl rfl (LOp.eqlb pun4 rfl rfl rfl) ?_
            refine ROps.l (r := AV.b ((flt .f64 (some 0) x1) == (flt .f64 (some 0) x2))) rfl rfl rfl (LOp.assign rfl rfl) ?_
            refine ROps.nil ?_
            refine RunC.ret ?_
            have hq := Option.some.inj h
            subst q0
            exact bodyQ.pure (.inr rfl) rfl (Res.one rfl (RV.tmp rfl))
          · refine RunC.regionW ?_
            refine ROps.l (r := AV.f64 a0) rfl rfl rfl (LOp.move rfl rfl) ?_
            refine ROps.l (r := AV.b true) rfl rfl rfl (LOp.eqb (LOp.feq rfl (OpF.tmp rfl) (OpF.const rfl (by kernel_rfl) (by kernel_rfl))) hc3) ?_
            refine ROps.l (r := AV.b true) rfl rfl rfl (LOp.move rfl rfl) ?_
            refine ROps.l (r := AV.f64 a1) rfl rfl rfl (LOp.move rfl rfl) ?_
            refine ROps.l (r := AV.b false) rfl rfl rfl (LOp.eqb (LOp.feq rfl (OpF.tmp rfl) (OpF.const rfl (by kernel_rfl) (by kernel_rfl))) hc4) ?_
            refine ROps.l (r := AV.b false) rfl rfl rfl (LOp.pick_true rfl rfl rfl) ?_
            refine ROps.nil ?_
            refine RunC.wl (τ' := [(0, AV.f64 a0), (1, AV.f64 a1), (26, AV.b false)]) (Γ' := []) ⟨(ALe.refl _), (ALe.refl _), (ALe.refl _), trivial⟩ trivial ?_
            refine RunC.cond_false rfl rfl ?_
            refine RunC.skip ?_
            exact ⟨⟨(ALe.refl _), (ALe.refl _), trivial⟩, trivial, h⟩
        · refine RunC.regionW ?_
          refine ROps.l (r := AV.f64 a0) rfl rfl rfl (LOp.move rfl rfl) ?_
          refine ROps.l (r := AV.b false) rfl rfl rfl (LOp.eqb (LOp.feq rfl (OpF.tmp rfl) (OpF.const rfl (by kernel_rfl) (by kernel_rfl))) hc3) ?_
          refine ROps.l (r := AV.b false) rfl rfl rfl (LOp.move rfl rfl) ?_
          refine ROps.s rfl rfl rfl ?_
          refine ROps.s rfl rfl rfl ?_
          refine ROps.l (r := AV.b false) rfl rfl rfl (LOp.pick_false rfl rfl rfl) ?_
          refine ROps.nil ?_
          refine RunC.wl (τ' := [(0, AV.f64 a0), (1, AV.f64 a1), (26, AV.b false)]) (Γ' := []) ⟨(ALe.refl _), (ALe.refl _), (ALe.refl _), trivial⟩ trivial ?_
          refine RunC.cond_false rfl rfl ?_
          refine RunC.skip ?_
          exact ⟨⟨(ALe.refl _), (ALe.refl _), trivial⟩, trivial, h⟩
      · rintro τ2 Γ2 ⟨hw2, hd2, h⟩
        refine RunC.wl (τ' := [(0, AV.f64 a0), (1, AV.f64 a1)]) (Γ' := []) hw2 hd2 ?_
        unfold f93_k1 at h
        refine RunC.seq ?_
        refine RunC.regionW ?_
        refine ROps.l (r := AV.f64 a0) rfl rfl rfl (LOp.move rfl rfl) ?_
        refine ROps.l (r := AV.f64 a1) rfl rfl rfl (LOp.move rfl rfl) ?_
        refine ROps.l (r := AV.b (feq .f64 a0 a1)) rfl rfl rfl (LOp.feq rfl (OpF.tmp rfl) (OpF.tmp rfl)) ?_
        refine ROps.l (r := AV.b (feq .f64 a0 a1)) rfl rfl rfl (LOp.assign rfl rfl) ?_
        refine ROps.nil ?_
        refine RunC.ret ?_
        have hq := Option.some.inj h
        subst q0
        exact bodyQ.pure (.inr rfl) rfl (Res.one rfl (RV.tmp rfl))
noncomputable def f48_b1 (a0 : List F) (a1 : List F) (v1 : Int) : Option (LR (Int) (Unit) (Bool)) :=
  bsel (decide (v1 < (a0.length : Int))) (
    obind (at? a0 v1) fun (e2 : F) =>
    olet (fwiden e2) fun (x3 : F) =>
    obind (at? a1 v1) fun (e4 : F) =>
    olet (fwiden e4) fun (x5 : F) =>
    obind (f93 x3 x5) fun (r6 : Bool) =>
    bsel r6 (
      olet (IntKind.i64.wrap (v1 + 1)) fun (x7 : Int) =>
      some (LR.next x7)) (
      some (LR.ret false))) (
    some (LR.out ()))
noncomputable def f48_s1 (a0 : List F) (a1 : List F) : (Int) → Option (LR (Int) (Unit) (Bool)) := fun s => f48_b1 a0 a1 s
noncomputable def f48_k1  : Option (Bool) :=
  some true
noncomputable def f48 (a0 : List F) (a1 : List F) : Option (Bool) :=
  bsel (!decide ((a0.length : Int) = (a1.length : Int))) (
    some false) (
    obind (loopM (f48_s1 a0 a1) 0) fun z => osum z (fun _ => f48_k1) (fun r => some r))
theorem f48_ok (a0 : List F) (a1 : List F) (q0 : Bool) (h : f48 a0 a1 = some q0) : Ev Try.prog 48 [AV.sl a0.length (a0.map AV.f32), AV.sl a1.length (a1.map AV.f32)] [] (AV.b q0) [] := by
  refine Ev.start Try.func48 rfl rfl 0 (τ := [(0, AV.sl a0.length (a0.map AV.f32)), (1, AV.sl a1.length (a1.map AV.f32))]) rfl (Γ' := []) rfl (n := 29) rfl (g := 0) rfl ?_
  unfold f48 at h
  refine RunC.seq ?_
  refine RunC.regionW ?_
  refine ROps.l (r := AV.b false) rfl rfl rfl (LOp.assign rfl rfl) ?_
  refine ROps.nil ?_
  refine RunC.seq ?_
  refine RunC.seq ?_
  rcases bsel_some h with ⟨hc1, h⟩ | ⟨hc1, h⟩
  · refine RunC.regionW ?_
    refine ROps.l (r := AV.sl a0.length (a0.map AV.f32)) rfl rfl rfl (LOp.move rfl rfl) ?_
    refine ROps.l (r := AV.i64 (a0.length : Int)) rfl rfl rfl (LOp.len_sl und38 rfl rfl) ?_
    refine ROps.l (r := AV.sl a1.length (a1.map AV.f32)) rfl rfl rfl (LOp.move rfl rfl) ?_
    refine ROps.l (r := AV.i64 (a1.length : Int)) rfl rfl rfl (LOp.len_sl und38 rfl rfl) ?_
    refine ROps.l (r := AV.b true) rfl rfl rfl (LOp.eqb (LOp.neq rfl rfl rfl) hc1) ?_
    refine ROps.nil ?_
    refine RunC.cond_true rfl rfl ?_
    refine RunC.seq ?_
    refine RunC.regionW ?_
    refine ROps.l (r := AV.b false) rfl rfl rfl (LOp.assign rfl rfl) ?_
    refine ROps.nil ?_
    refine RunC.ret ?_
    have hq := Option.some.inj h
    subst q0
    exact bodyQ.pure (.inr rfl) rfl (Res.one rfl (RV.tmp rfl))
  · refine RunC.regionW ?_
    refine ROps.l (r := AV.sl a0.length (a0.map AV.f32)) rfl rfl rfl (LOp.move rfl rfl) ?_
    refine ROps.l (r := AV.i64 (a0.length : Int)) rfl rfl rfl (LOp.len_sl und38 rfl rfl) ?_
    refine ROps.l (r := AV.sl a1.length (a1.map AV.f32)) rfl rfl rfl (LOp.move rfl rfl) ?_
    refine ROps.l (r := AV.i64 (a1.length : Int)) rfl rfl rfl (LOp.len_sl und38 rfl rfl) ?_
    refine ROps.l (r := AV.b false) rfl rfl rfl (LOp.eqb (LOp.neq rfl rfl rfl) hc1) ?_
    refine ROps.nil ?_
    refine RunC.cond_false rfl rfl ?_
    refine RunC.skip ?_
    refine RunC.seq ?_
    refine RunC.seq ?_
    refine RunC.regionW ?_
    refine ROps.l (r := AV.i64 0) rfl rfl rfl (LOp.assign rfl rfl) ?_
    refine ROps.nil ?_
    obtain ⟨z2, hz_2, h⟩ := obind_some h
    refine RunC.cutN (fun τ Γ => WeakLe τ [] ∧ DeadLe Γ [] ∧ z2 = .inl ()) ?_ ?_
    · refine RunC.block (RunC.loop (RunL.loopM (x := z2) (f48_s1 a0 a1) (fun (s : Int) τ Γ => WeakLe τ [(0, AV.sl a0.length (a0.map AV.f32)), (1, AV.sl a1.length (a1.map AV.f32)), (5, AV.i64 s)] ∧ DeadLe Γ []) ?_ _ _ _ hz_2 ⟨⟨(ALe.refl _), (ALe.refl _), (ALe.refl _), trivial⟩, trivial⟩))
      rintro v1 τ2 Γ2 y2_ ⟨hw2, hd2⟩ h2_ ho2 hr2
      refine RunC.wl (τ' := [(0, AV.sl a0.length (a0.map AV.f32)), (1, AV.sl a1.length (a1.map AV.f32)), (5, AV.i64 v1)]) (Γ' := []) hw2 hd2 ?_
      replace h2_ : f48_b1 a0 a1 v1 = some y2_ := h2_
      unfold f48_b1 at h2_
      refine RunC.seq ?_
      refine RunC.seq ?_
      rcases bsel_some h2_ with ⟨hc2, h2_⟩ | ⟨hc2, h2_⟩
      · refine RunC.regionW ?_
        refine ROps.l (r := AV.i64 v1) rfl rfl rfl (LOp.move rfl rfl) ?_
        refine ROps.l (r := AV.sl a0.length (a0.map AV.f32)) rfl rfl rfl (LOp.move rfl rfl) ?_
        refine ROps.l (r := AV.i64 (a0.length : Int)) rfl rfl rfl (LOp.len_sl und38 rfl rfl) ?_
        refine ROps.l (r := AV.b true) rfl rfl rfl (LOp.eqb (LOp.lss rfl rfl rfl) hc2) ?_
        refine ROps.nil ?_
        refine RunC.cond_true rfl rfl ?_
        refine RunC.skip ?_
        refine RunC.seq ?_
        refine RunC.block ?_
        refine RunC.seq ?_
        obtain ⟨e2, he3, h2_⟩ := obind_some h2_
        obtain ⟨x3, hx4, h2_⟩ := olet_some h2_
        obtain ⟨e4, he5, h2_⟩ := obind_some h2_
        obtain ⟨x5, hx6, h2_⟩ := olet_some h2_
        obtain ⟨r6, hf7, h2_⟩ := obind_some h2_
        rcases bsel_some h2_ with ⟨hc8, h2_⟩ | ⟨hc8, h2_⟩
        · refine RunC.region_draw (Γ' := []) 12 mixed 
            (TR.l (r := AV.sl a0.length (a0.map AV.f32)) rfl rfl (LOp.move rfl rfl) <|
            (TR.l (r := AV.i64 v1) rfl rfl (LOp.move rfl rfl) <|
            (TR.l (r := AV.ptr [AV.f32 e2]) rfl rfl (LOp.le (LOp.ix (f := AV.f32) und38 siz34 rfl rfl rfl rfl he3) ALe.ptr) <|
            (TR.l (r := AV.f32 e2) rfl rfl (LOp.load1 agg34 rfl rfl) <|
            (TR.d (r := AV.f64 x3) (fs := []) rfl rfl (TOp.eqr (TOp.widen (src := 34) (dst := 75) ⟨_, pun34⟩ pun75 rfl (OpF.tmp rfl)) (congrArg (AV.f .f64) hx4)) <|
            (TR.l (r := AV.sl a1.length (a1.map AV.f32)) rfl rfl (LOp.move rfl rfl) <|
            (TR.l (r := AV.i64 v1) rfl rfl (LOp.move rfl rfl) <|
            (TR.l (r := AV.ptr [AV.f32 e4]) rfl rfl (LOp.le (LOp.ix (f := AV.f32) und38 siz34 rfl rfl rfl rfl he5) ALe.ptr) <|
            (TR.l (r := AV.f32 e4) rfl rfl (LOp.load1 agg34 rfl rfl) <|
            (TR.d (r := AV.f64 x5) (fs := []) rfl rfl (TOp.eqr (TOp.widen (src := 34) (dst := 75) ⟨_, pun34⟩ pun75 rfl (OpF.tmp rfl)) (congrArg (AV.f .f64) hx6)) <|
            (TR.d (r := AV.b true) (fs := []) rfl rfl (TOp.eqb (TOp.callB (CallAs.func ent93 rfl rfl) (Bors.cons (Bor.pure rfl) (Bors.cons (Bor.pure rfl) Bors.nil)) rfl rfl (f93_ok x3 x5 r6 hf7)) hc8) <|
            (TR.l (r := AV.b false) rfl rfl (LOp.eqb (LOp.not rfl rfl) rfl) <|
            TR.nil)))))))))))) rfl (by kernel_rfl) rfl fills_nil rfl ?_
          iterate 12 refine ROps.dropS ?_
          refine ROps.drop0 ?_
          refine ROps.nil ?_
          refine RunC.wl (τ' := [(0, AV.sl a0.length (a0.map AV.f32)), (1, AV.sl a1.length (a1.map AV.f32)), (5, AV.i64 v1), (28, AV.b false)]) (Γ' := []) ⟨(ALe.refl _), (ALe.refl _), (ALe.refl _), (ALe.refl _), trivial⟩ trivial ?_
          refine RunC.cond_false rfl rfl ?_
          refine RunC.skip ?_
          obtain ⟨x7, hx9, h2_⟩ := olet_some h2_
          refine RunC.regionW ?_
          refine ROps.l (r := AV.i64 v1) rfl rfl rfl (LOp.move rfl rfl) ?_
          refine ROps.l (r := AV.i64 x7) rfl rfl rfl (LOp.eqr (LOp.add rfl rfl rfl) (congrArg (AV.ik .i64) hx9)) ?_
          refine ROps.l (r := AV.i64 x7) rfl rfl rfl (LOp.assign rfl rfl) ?_
          refine ROps.nil ?_
          cases Option.some.inj h2_
          exact ⟨_, rfl, ⟨(ALe.refl _), (ALe.refl _), (ALe.refl _), trivial⟩, trivial⟩
        · refine RunC.region_draw (Γ' := []) 12 mixed 
            (TR.l (r := AV.sl a0.length (a0.map AV.f32)) rfl rfl (LOp.move rfl rfl) <|
            (TR.l (r := AV.i64 v1) rfl rfl (LOp.move rfl rfl) <|
            (TR.l (r := AV.ptr [AV.f32 e2]) rfl rfl (LOp.le (LOp.ix (f := AV.f32) und38 siz34 rfl rfl rfl rfl he3) ALe.ptr) <|
            (TR.l (r := AV.f32 e2) rfl rfl (LOp.load1 agg34 rfl rfl) <|
            (TR.d (r := AV.f64 x3) (fs := []) rfl rfl (TOp.eqr (TOp.widen (src := 34) (dst := 75) ⟨_, pun34⟩ pun75 rfl (OpF.tmp rfl)) (congrArg (AV.f .f64) hx4)) <|
            (TR.l (r := AV.sl a1.length (a1.map AV.f32)) rfl rfl (LOp.move rfl rfl) <|
            (TR.l (r := AV.i64 v1) rfl rfl (LOp.move rfl rfl) <|
            (TR.l (r := AV.ptr [AV.f32 e4]) rfl rfl (LOp.le (LOp.ix (f := AV.f32) und38 siz34 rfl rfl rfl rfl he5) ALe.ptr) <|
            (TR.l (r := AV.f32 e4) rfl rfl (LOp.load1 agg34 rfl rfl) <|
            (TR.d (r := AV.f64 x5) (fs := []) rfl rfl (TOp.eqr (TOp.widen (src := 34) (dst := 75) ⟨_, pun34⟩ pun75 rfl (OpF.tmp rfl)) (congrArg (AV.f .f64) hx6)) <|
            (TR.d (r := AV.b false) (fs := []) rfl rfl (TOp.eqb (TOp.callB (CallAs.func ent93 rfl rfl) (Bors.cons (Bor.pure rfl) (Bors.cons (Bor.pure rfl) Bors.nil)) rfl rfl (f93_ok x3 x5 r6 hf7)) hc8) <|
            (TR.l (r := AV.b true) rfl rfl (LOp.eqb (LOp.not rfl rfl) rfl) <|
            TR.nil)))))))))))) rfl (by kernel_rfl) rfl fills_nil rfl ?_
          iterate 12 refine ROps.dropS ?_
          refine ROps.drop0 ?_
          refine ROps.nil ?_
          refine RunC.wl (τ' := [(0, AV.sl a0.length (a0.map AV.f32)), (1, AV.sl a1.length (a1.map AV.f32)), (5, AV.i64 v1), (28, AV.b true)]) (Γ' := []) ⟨(ALe.refl _), (ALe.refl _), (ALe.refl _), (ALe.refl _), trivial⟩ trivial ?_
          refine RunC.cond_true rfl rfl ?_
          refine RunC.seq ?_
          refine RunC.regionW ?_
          refine ROps.l (r := AV.b false) rfl rfl rfl (LOp.assign rfl rfl) ?_
          refine ROps.nil ?_
          refine RunC.ret ?_
          cases Option.some.inj h2_
          have hx3_ := hr2 _ rfl
          subst hx3_
          have hq := Option.some.inj h
          subst q0
          exact bodyQ.pure (.inr rfl) rfl (Res.one rfl (RV.tmp rfl))
      · refine RunC.regionW ?_
        refine ROps.l (r := AV.i64 v1) rfl rfl rfl (LOp.move rfl rfl) ?_
        refine ROps.l (r := AV.sl a0.length (a0.map AV.f32)) rfl rfl rfl (LOp.move rfl rfl) ?_
        refine ROps.l (r := AV.i64 (a0.length : Int)) rfl rfl rfl (LOp.len_sl und38 rfl rfl) ?_
        refine ROps.l (r := AV.b false) rfl rfl rfl (LOp.eqb (LOp.lss rfl rfl rfl) hc2) ?_
        refine ROps.nil ?_
        refine RunC.cond_false rfl rfl ?_
        refine RunC.exit ?_
        cases Option.some.inj h2_
        have hx := ho2 _ rfl
        exact ⟨trivial, trivial, hx⟩
    · rintro τ4 Γ4 ⟨hw4, hd4, rfl⟩
      refine RunC.wl (τ' := []) (Γ' := []) hw4 hd4 ?_
      replace h : f48_k1 = some q0 := h
      unfold f48_k1 at h
      refine RunC.seq ?_
      refine RunC.regionW ?_
      refine ROps.l (r := AV.b true) rfl rfl rfl (LOp.assign rfl rfl) ?_
      refine ROps.nil ?_
      refine RunC.ret ?_
      have hq := Option.some.inj h
      subst q0
      exact bodyQ.pure (.inr rfl) rfl (Res.one rfl (RV.tmp rfl))
noncomputable def f28 (a0 : Int) (a1 : Int) (a2 : List F) (a3 : Int) (a4 : Int) (a5 : List F) : Option (Bool) :=
  bsel (!decide (a0 = a3)) (
    some false) (
    bsel (!decide (a1 = a4)) (
      some false) (
      obind (f48 a2 a5) fun (r1 : Bool) =>
      bsel r1 (
        some true) (
        some false)))
theorem f28_ok (a0 : Int) (a1 : Int) (a2 : List F) (a3 : Int) (a4 : Int) (a5 : List F) (q0 : Bool) (h : f28 a0 a1 a2 a3 a4 a5 = some q0) : Ev Try.prog 28 [AV.agg [AV.i64 a0, AV.i64 a1, AV.sl a2.length (a2.map AV.f32)], AV.agg [AV.i64 a3, AV.i64 a4, AV.sl a5.length (a5.map AV.f32)]] [] (AV.b q0) [] := by
  refine Ev.start Try.func28 rfl rfl 0 (τ := [(0, AV.agg [AV.i64 a0, AV.i64 a1, AV.sl a2.length (a2.map AV.f32)]), (1, AV.agg [AV.i64 a3, AV.i64 a4, AV.sl a5.length (a5.map AV.f32)])]) rfl (Γ' := []) rfl (n := 21) rfl (g := 0) rfl ?_
  unfold f28 at h
  refine RunC.seq ?_
  refine RunC.regionW ?_
  refine ROps.d (r := AV.ptr [AV.i64 a0, AV.i64 a1, AV.sl a2.length (a2.map AV.f32)]) (fs := []) (Γ' := []) rfl rfl rfl (TOp.box_s rfl rfl rfl) rfl ?_
  refine ROps.d (r := AV.ptr [AV.i64 a3, AV.i64 a4, AV.sl a5.length (a5.map AV.f32)]) (fs := []) (Γ' := []) rfl rfl rfl (TOp.box_s rfl rfl rfl) rfl ?_
  refine ROps.l (r := AV.b false) rfl rfl rfl (LOp.assign rfl rfl) ?_
  refine ROps.nil ?_
  refine RunC.seq ?_
  refine RunC.seq ?_
  rcases bsel_some h with ⟨hc1, h⟩ | ⟨hc1, h⟩
  · refine RunC.regionW ?_
    refine ROps.l (r := AV.ptr [AV.i64 a0, AV.i64 a1, AV.sl a2.length (a2.map AV.f32)]) rfl rfl rfl (LOp.fap und40 rfl siz2 rfl rfl rfl) ?_
    refine ROps.l (r := AV.i64 a0) rfl rfl rfl (LOp.load1 agg2 rfl rfl) ?_
    refine ROps.l (r := AV.ptr [AV.i64 a3, AV.i64 a4, AV.sl a5.length (a5.map AV.f32)]) rfl rfl rfl (LOp.fap und40 rfl siz2 rfl rfl rfl) ?_
    refine ROps.l (r := AV.i64 a3) rfl rfl rfl (LOp.load1 agg2 rfl rfl) ?_
    refine ROps.l (r := AV.b true) rfl rfl rfl (LOp.eqb (LOp.neq rfl rfl rfl) hc1) ?_
    refine ROps.nil ?_
    refine RunC.cond_true rfl rfl ?_
    refine RunC.seq ?_
    refine RunC.regionW ?_
    refine ROps.l (r := AV.b false) rfl rfl rfl (LOp.assign rfl rfl) ?_
    refine ROps.nil ?_
    refine RunC.ret ?_
    have hq := Option.some.inj h
    subst q0
    exact bodyQ.pure (.inr rfl) rfl (Res.one rfl (RV.tmp rfl))
  · refine RunC.regionW ?_
    refine ROps.l (r := AV.ptr [AV.i64 a0, AV.i64 a1, AV.sl a2.length (a2.map AV.f32)]) rfl rfl rfl (LOp.fap und40 rfl siz2 rfl rfl rfl) ?_
    refine ROps.l (r := AV.i64 a0) rfl rfl rfl (LOp.load1 agg2 rfl rfl) ?_
    refine ROps.l (r := AV.ptr [AV.i64 a3, AV.i64 a4, AV.sl a5.length (a5.map AV.f32)]) rfl rfl rfl (LOp.fap und40 rfl siz2 rfl rfl rfl) ?_
    refine ROps.l (r := AV.i64 a3) rfl rfl rfl (LOp.load1 agg2 rfl rfl) ?_
    refine ROps.l (r := AV.b false) rfl rfl rfl (LOp.eqb (LOp.neq rfl rfl rfl) hc1) ?_
    refine ROps.nil ?_
    refine RunC.cond_false rfl rfl ?_
    refine RunC.skip ?_
    refine RunC.seq ?_
    refine RunC.seq ?_
    rcases bsel_some h with ⟨hc2, h⟩ | ⟨hc2, h⟩
    · refine RunC.regionW ?_
      refine ROps.l (r := AV.ptr [AV.i64 a1, AV.sl a2.length (a2.map AV.f32)]) rfl rfl rfl (LOp.fap und40 rfl siz2 rfl rfl rfl) ?_
      refine ROps.l (r := AV.i64 a1) rfl rfl rfl (LOp.load1 agg2 rfl rfl) ?_
      refine ROps.l (r := AV.ptr [AV.i64 a4, AV.sl a5.length (a5.map AV.f32)]) rfl rfl rfl (LOp.fap und40 rfl siz2 rfl rfl rfl) ?_
      refine ROps.l (r := AV.i64 a4) rfl rfl rfl (LOp.load1 agg2 rfl rfl) ?_
      refine ROps.l (r := AV.b true) rfl rfl rfl (LOp.eqb (LOp.neq rfl rfl rfl) hc2) ?_
      refine ROps.nil ?_
      refine RunC.cond_true rfl rfl ?_
      refine RunC.seq ?_
      refine RunC.regionW ?_
      refine ROps.l (r := AV.b false) rfl rfl rfl (LOp.assign rfl rfl) ?_
      refine ROps.nil ?_
      refine RunC.ret ?_
      have hq := Option.some.inj h
      subst q0
      exact bodyQ.pure (.inr rfl) rfl (Res.one rfl (RV.tmp rfl))
    · refine RunC.regionW ?_
      refine ROps.l (r := AV.ptr [AV.i64 a1, AV.sl a2.length (a2.map AV.f32)]) rfl rfl rfl (LOp.fap und40 rfl siz2 rfl rfl rfl) ?_
      refine ROps.l (r := AV.i64 a1) rfl rfl rfl (LOp.load1 agg2 rfl rfl) ?_
      refine ROps.l (r := AV.ptr [AV.i64 a4, AV.sl a5.length (a5.map AV.f32)]) rfl rfl rfl (LOp.fap und40 rfl siz2 rfl rfl rfl) ?_
      refine ROps.l (r := AV.i64 a4) rfl rfl rfl (LOp.load1 agg2 rfl rfl) ?_
      refine ROps.l (r := AV.b false) rfl rfl rfl (LOp.eqb (LOp.neq rfl rfl rfl) hc2) ?_
      refine ROps.nil ?_
      refine RunC.cond_false rfl rfl ?_
      refine RunC.skip ?_
      refine RunC.wl (τ' := [(2, AV.ptr [AV.i64 a0, AV.i64 a1, AV.sl a2.length (a2.map AV.f32)]), (3, AV.ptr [AV.i64 a3, AV.i64 a4, AV.sl a5.length (a5.map AV.f32)])]) (Γ' := []) ⟨(ALe.refl _), (ALe.refl _), trivial⟩ trivial ?_
      refine RunC.seq ?_
      refine RunC.seq ?_
      obtain ⟨r1, hf3, h⟩ := obind_some h
      rcases bsel_some h with ⟨hc4, h⟩ | ⟨hc4, h⟩
      · refine RunC.regionW ?_
        refine ROps.l (r := AV.ptr [AV.sl a2.length (a2.map AV.f32)]) rfl rfl rfl (LOp.fap und40 rfl siz38 rfl rfl rfl) ?_
        refine ROps.l (r := AV.sl a2.length (a2.map AV.f32)) rfl rfl rfl (LOp.load1 agg38 rfl rfl) ?_
        refine ROps.l (r := AV.ptr [AV.sl a5.length (a5.map AV.f32)]) rfl rfl rfl (LOp.fap und40 rfl siz38 rfl rfl rfl) ?_
        refine ROps.l (r := AV.sl a5.length (a5.map AV.f32)) rfl rfl rfl (LOp.load1 agg38 rfl rfl) ?_
        refine ROps.d (r := AV.b true) (fs := []) (Γ' := []) rfl rfl rfl (TOp.eqb (TOp.callB (CallAs.func ent48 rfl rfl) (Bors.cons (Bor.sl (fun _ => rfl)) (Bors.cons (Bor.sl (fun _ => rfl)) Bors.nil)) rfl rfl (f48_ok a2 a5 r1 hf3)) hc4) rfl ?_
        refine ROps.l (r := AV.b false) rfl rfl rfl (LOp.eqb (LOp.not rfl rfl) rfl) ?_
        refine ROps.nil ?_
        refine RunC.cond_false rfl rfl ?_
        refine RunC.skip ?_
        refine RunC.seq ?_
        refine RunC.regionW ?_
        refine ROps.l (r := AV.b true) rfl rfl rfl (LOp.assign rfl rfl) ?_
        refine ROps.nil ?_
        refine RunC.ret ?_
        have hq := Option.some.inj h
        subst q0
        exact bodyQ.pure (.inr rfl) rfl (Res.one rfl (RV.tmp rfl))
      · refine RunC.regionW ?_
        refine ROps.l (r := AV.ptr [AV.sl a2.length (a2.map AV.f32)]) rfl rfl rfl (LOp.fap und40 rfl siz38 rfl rfl rfl) ?_
        refine ROps.l (r := AV.sl a2.length (a2.map AV.f32)) rfl rfl rfl (LOp.load1 agg38 rfl rfl) ?_
        refine ROps.l (r := AV.ptr [AV.sl a5.length (a5.map AV.f32)]) rfl rfl rfl (LOp.fap und40 rfl siz38 rfl rfl rfl) ?_
        refine ROps.l (r := AV.sl a5.length (a5.map AV.f32)) rfl rfl rfl (LOp.load1 agg38 rfl rfl) ?_
        refine ROps.d (r := AV.b false) (fs := []) (Γ' := []) rfl rfl rfl (TOp.eqb (TOp.callB (CallAs.func ent48 rfl rfl) (Bors.cons (Bor.sl (fun _ => rfl)) (Bors.cons (Bor.sl (fun _ => rfl)) Bors.nil)) rfl rfl (f48_ok a2 a5 r1 hf3)) hc4) rfl ?_
        refine ROps.l (r := AV.b true) rfl rfl rfl (LOp.eqb (LOp.not rfl rfl) rfl) ?_
        refine ROps.nil ?_
        refine RunC.cond_true rfl rfl ?_
        refine RunC.seq ?_
        refine RunC.regionW ?_
        refine ROps.l (r := AV.b false) rfl rfl rfl (LOp.assign rfl rfl) ?_
        refine ROps.nil ?_
        refine RunC.ret ?_
        have hq := Option.some.inj h
        subst q0
        exact bodyQ.pure (.inr rfl) rfl (Res.one rfl (RV.tmp rfl))
noncomputable def f49 (a0 : List F) (a1 : List F) (a2 : List F) (a3 : List F) : Option (Bool) :=
  obind (f48 a0 a2) fun (r1 : Bool) =>
  bsel r1 (
    obind (f48 a1 a3) fun (r2 : Bool) =>
    bsel r2 (
      some true) (
      some false)) (
    some false)
theorem f49_ok (a0 : List F) (a1 : List F) (a2 : List F) (a3 : List F) (q0 : Bool) (h : f49 a0 a1 a2 a3 = some q0) : Ev Try.prog 49 [AV.agg [AV.sl a0.length (a0.map AV.f32), AV.sl a1.length (a1.map AV.f32)], AV.agg [AV.sl a2.length (a2.map AV.f32), AV.sl a3.length (a3.map AV.f32)]] [] (AV.b q0) [] := by
  refine Ev.start Try.func49 rfl rfl 0 (τ := [(0, AV.agg [AV.sl a0.length (a0.map AV.f32), AV.sl a1.length (a1.map AV.f32)]), (1, AV.agg [AV.sl a2.length (a2.map AV.f32), AV.sl a3.length (a3.map AV.f32)])]) rfl (Γ' := []) rfl (n := 17) rfl (g := 0) rfl ?_
  unfold f49 at h
  refine RunC.seq ?_
  refine RunC.regionW ?_
  refine ROps.d (r := AV.ptr [AV.sl a0.length (a0.map AV.f32), AV.sl a1.length (a1.map AV.f32)]) (fs := []) (Γ' := []) rfl rfl rfl (TOp.box_s rfl rfl rfl) rfl ?_
  refine ROps.d (r := AV.ptr [AV.sl a2.length (a2.map AV.f32), AV.sl a3.length (a3.map AV.f32)]) (fs := []) (Γ' := []) rfl rfl rfl (TOp.box_s rfl rfl rfl) rfl ?_
  refine ROps.l (r := AV.b false) rfl rfl rfl (LOp.assign rfl rfl) ?_
  refine ROps.nil ?_
  refine RunC.seq ?_
  refine RunC.seq ?_
  obtain ⟨r1, hf1, h⟩ := obind_some h
  rcases bsel_some h with ⟨hc2, h⟩ | ⟨hc2, h⟩
  · refine RunC.regionW ?_
    refine ROps.l (r := AV.ptr [AV.sl a0.length (a0.map AV.f32), AV.sl a1.length (a1.map AV.f32)]) rfl rfl rfl (LOp.fap und42 rfl siz38 rfl rfl rfl) ?_
    refine ROps.l (r := AV.sl a0.length (a0.map AV.f32)) rfl rfl rfl (LOp.load1 agg38 rfl rfl) ?_
    refine ROps.l (r := AV.ptr [AV.sl a2.length (a2.map AV.f32), AV.sl a3.length (a3.map AV.f32)]) rfl rfl rfl (LOp.fap und42 rfl siz38 rfl rfl rfl) ?_
    refine ROps.l (r := AV.sl a2.length (a2.map AV.f32)) rfl rfl rfl (LOp.load1 agg38 rfl rfl) ?_
    refine ROps.d (r := AV.b true) (fs := []) (Γ' := []) rfl rfl rfl (TOp.eqb (TOp.callB (CallAs.func ent48 rfl rfl) (Bors.cons (Bor.sl (fun _ => rfl)) (Bors.cons (Bor.sl (fun _ => rfl)) Bors.nil)) rfl rfl (f48_ok a0 a2 r1 hf1)) hc2) rfl ?_
    refine ROps.l (r := AV.b false) rfl rfl rfl (LOp.eqb (LOp.not rfl rfl) rfl) ?_
    refine ROps.nil ?_
    refine RunC.cond_false rfl rfl ?_
    refine RunC.skip ?_
    refine RunC.seq ?_
    refine RunC.seq ?_
    obtain ⟨r2, hf3, h⟩ := obind_some h
    rcases bsel_some h with ⟨hc4, h⟩ | ⟨hc4, h⟩
    · refine RunC.regionW ?_
      refine ROps.l (r := AV.ptr [AV.sl a1.length (a1.map AV.f32)]) rfl rfl rfl (LOp.fap und42 rfl siz38 rfl rfl rfl) ?_
      refine ROps.l (r := AV.sl a1.length (a1.map AV.f32)) rfl rfl rfl (LOp.load1 agg38 rfl rfl) ?_
      refine ROps.l (r := AV.ptr [AV.sl a3.length (a3.map AV.f32)]) rfl rfl rfl (LOp.fap und42 rfl siz38 rfl rfl rfl) ?_
      refine ROps.l (r := AV.sl a3.length (a3.map AV.f32)) rfl rfl rfl (LOp.load1 agg38 rfl rfl) ?_
      refine ROps.d (r := AV.b true) (fs := []) (Γ' := []) rfl rfl rfl (TOp.eqb (TOp.callB (CallAs.func ent48 rfl rfl) (Bors.cons (Bor.sl (fun _ => rfl)) (Bors.cons (Bor.sl (fun _ => rfl)) Bors.nil)) rfl rfl (f48_ok a1 a3 r2 hf3)) hc4) rfl ?_
      refine ROps.l (r := AV.b false) rfl rfl rfl (LOp.eqb (LOp.not rfl rfl) rfl) ?_
      refine ROps.nil ?_
      refine RunC.wl (τ' := [(16, AV.b false)]) (Γ' := []) ⟨(ALe.refl _), trivial⟩ trivial ?_
      refine RunC.cond_false rfl rfl ?_
      refine RunC.skip ?_
      refine RunC.seq ?_
      refine RunC.regionW ?_
      refine ROps.l (r := AV.b true) rfl rfl rfl (LOp.assign rfl rfl) ?_
      refine ROps.nil ?_
      refine RunC.ret ?_
      have hq := Option.some.inj h
      subst q0
      exact bodyQ.pure (.inr rfl) rfl (Res.one rfl (RV.tmp rfl))
    · refine RunC.regionW ?_
      refine ROps.l (r := AV.ptr [AV.sl a1.length (a1.map AV.f32)]) rfl rfl rfl (LOp.fap und42 rfl siz38 rfl rfl rfl) ?_
      refine ROps.l (r := AV.sl a1.length (a1.map AV.f32)) rfl rfl rfl (LOp.load1 agg38 rfl rfl) ?_
      refine ROps.l (r := AV.ptr [AV.sl a3.length (a3.map AV.f32)]) rfl rfl rfl (LOp.fap und42 rfl siz38 rfl rfl rfl) ?_
      refine ROps.l (r := AV.sl a3.length (a3.map AV.f32)) rfl rfl rfl (LOp.load1 agg38 rfl rfl) ?_
      refine ROps.d (r := AV.b false) (fs := []) (Γ' := []) rfl rfl rfl (TOp.eqb (TOp.callB (CallAs.func ent48 rfl rfl) (Bors.cons (Bor.sl (fun _ => rfl)) (Bors.cons (Bor.sl (fun _ => rfl)) Bors.nil)) rfl rfl (f48_ok a1 a3 r2 hf3)) hc4) rfl ?_
      refine ROps.l (r := AV.b true) rfl rfl rfl (LOp.eqb (LOp.not rfl rfl) rfl) ?_
      refine ROps.nil ?_
      refine RunC.wl (τ' := [(16, AV.b true)]) (Γ' := []) ⟨(ALe.refl _), trivial⟩ trivial ?_
      refine RunC.cond_true rfl rfl ?_
      refine RunC.seq ?_
      refine RunC.regionW ?_
      refine ROps.l (r := AV.b false) rfl rfl rfl (LOp.assign rfl rfl) ?_
      refine ROps.nil ?_
      refine RunC.ret ?_
      have hq := Option.some.inj h
      subst q0
      exact bodyQ.pure (.inr rfl) rfl (Res.one rfl (RV.tmp rfl))
  · refine RunC.regionW ?_
    refine ROps.l (r := AV.ptr [AV.sl a0.length (a0.map AV.f32), AV.sl a1.length (a1.map AV.f32)]) rfl rfl rfl (LOp.fap und42 rfl siz38 rfl rfl rfl) ?_
    refine ROps.l (r := AV.sl a0.length (a0.map AV.f32)) rfl rfl rfl (LOp.load1 agg38 rfl rfl) ?_
    refine ROps.l (r := AV.ptr [AV.sl a2.length (a2.map AV.f32), AV.sl a3.length (a3.map AV.f32)]) rfl rfl rfl (LOp.fap und42 rfl siz38 rfl rfl rfl) ?_
    refine ROps.l (r := AV.sl a2.length (a2.map AV.f32)) rfl rfl rfl (LOp.load1 agg38 rfl rfl) ?_
    refine ROps.d (r := AV.b false) (fs := []) (Γ' := []) rfl rfl rfl (TOp.eqb (TOp.callB (CallAs.func ent48 rfl rfl) (Bors.cons (Bor.sl (fun _ => rfl)) (Bors.cons (Bor.sl (fun _ => rfl)) Bors.nil)) rfl rfl (f48_ok a0 a2 r1 hf1)) hc2) rfl ?_
    refine ROps.l (r := AV.b true) rfl rfl rfl (LOp.eqb (LOp.not rfl rfl) rfl) ?_
    refine ROps.nil ?_
    refine RunC.cond_true rfl rfl ?_
    refine RunC.seq ?_
    refine RunC.regionW ?_
    refine ROps.l (r := AV.b false) rfl rfl rfl (LOp.assign rfl rfl) ?_
    refine ROps.nil ?_
    refine RunC.ret ?_
    have hq := Option.some.inj h
    subst q0
    exact bodyQ.pure (.inr rfl) rfl (Res.one rfl (RV.tmp rfl))
noncomputable def f94_b1 (a0 : List Int) (a1 : List Int) (v1 : Int) : Option (LR (Int) (Unit) (Bool)) :=
  bsel (decide (v1 < (a0.length : Int))) (
    obind (at? a0 v1) fun (e2 : Int) =>
    obind (at? a1 v1) fun (e3 : Int) =>
    bsel (!decide (e2 = e3)) (
      some (LR.ret false)) (
      olet (IntKind.i64.wrap (v1 + 1)) fun (x4 : Int) =>
      some (LR.next x4))) (
    some (LR.out ()))
noncomputable def f94_s1 (a0 : List Int) (a1 : List Int) : (Int) → Option (LR (Int) (Unit) (Bool)) := fun s => f94_b1 a0 a1 s
noncomputable def f94_k1  : Option (Bool) :=
  some true
noncomputable def f94 (a0 : List Int) (a1 : List Int) : Option (Bool) :=
  bsel (!decide ((a0.length : Int) = (a1.length : Int))) (
    some false) (
    obind (loopM (f94_s1 a0 a1) 0) fun z => osum z (fun _ => f94_k1) (fun r => some r))
theorem f94_ok (a0 : List Int) (a1 : List Int) (q0 : Bool) (h : f94 a0 a1 = some q0) : Ev Try.prog 94 [AV.sl a0.length (a0.map AV.i64), AV.sl a1.length (a1.map AV.i64)] [] (AV.b q0) [] := by
  refine Ev.start Try.func94 rfl rfl 0 (τ := [(0, AV.sl a0.length (a0.map AV.i64)), (1, AV.sl a1.length (a1.map AV.i64))]) rfl (Γ' := []) rfl (n := 26) rfl (g := 0) rfl ?_
  unfold f94 at h
  refine RunC.seq ?_
  refine RunC.regionW ?_
  refine ROps.l (r := AV.b false) rfl rfl rfl (LOp.assign rfl rfl) ?_
  refine ROps.nil ?_
  refine RunC.seq ?_
  refine RunC.seq ?_
  rcases bsel_some h with ⟨hc1, h⟩ | ⟨hc1, h⟩
  · refine RunC.regionW ?_
    refine ROps.l (r := AV.sl a0.length (a0.map AV.i64)) rfl rfl rfl (LOp.move rfl rfl) ?_
    refine ROps.l (r := AV.i64 (a0.length : Int)) rfl rfl rfl (LOp.len_sl und43 rfl rfl) ?_
    refine ROps.l (r := AV.sl a1.length (a1.map AV.i64)) rfl rfl rfl (LOp.move rfl rfl) ?_
    refine ROps.l (r := AV.i64 (a1.length : Int)) rfl rfl rfl (LOp.len_sl und43 rfl rfl) ?_
    refine ROps.l (r := AV.b true) rfl rfl rfl (LOp.eqb (LOp.neq rfl rfl rfl) hc1) ?_
    refine ROps.nil ?_
    refine RunC.cond_true rfl rfl ?_
    refine RunC.seq ?_
    refine RunC.regionW ?_
    refine ROps.l (r := AV.b false) rfl rfl rfl (LOp.assign rfl rfl) ?_
    refine ROps.nil ?_
    refine RunC.ret ?_
    have hq := Option.some.inj h
    subst q0
    exact bodyQ.pure (.inr rfl) rfl (Res.one rfl (RV.tmp rfl))
  · refine RunC.regionW ?_
    refine ROps.l (r := AV.sl a0.length (a0.map AV.i64)) rfl rfl rfl (LOp.move rfl rfl) ?_
    refine ROps.l (r := AV.i64 (a0.length : Int)) rfl rfl rfl (LOp.len_sl und43 rfl rfl) ?_
    refine ROps.l (r := AV.sl a1.length (a1.map AV.i64)) rfl rfl rfl (LOp.move rfl rfl) ?_
    refine ROps.l (r := AV.i64 (a1.length : Int)) rfl rfl rfl (LOp.len_sl und43 rfl rfl) ?_
    refine ROps.l (r := AV.b false) rfl rfl rfl (LOp.eqb (LOp.neq rfl rfl rfl) hc1) ?_
    refine ROps.nil ?_
    refine RunC.cond_false rfl rfl ?_
    refine RunC.skip ?_
    refine RunC.seq ?_
    refine RunC.seq ?_
    refine RunC.regionW ?_
    refine ROps.l (r := AV.i64 0) rfl rfl rfl (LOp.assign rfl rfl) ?_
    refine ROps.nil ?_
    obtain ⟨z2, hz_2, h⟩ := obind_some h
    refine RunC.cutN (fun τ Γ => WeakLe τ [] ∧ DeadLe Γ [] ∧ z2 = .inl ()) ?_ ?_
    · refine RunC.block (RunC.loop (RunL.loopM (x := z2) (f94_s1 a0 a1) (fun (s : Int) τ Γ => WeakLe τ [(0, AV.sl a0.length (a0.map AV.i64)), (1, AV.sl a1.length (a1.map AV.i64)), (5, AV.i64 s)] ∧ DeadLe Γ []) ?_ _ _ _ hz_2 ⟨⟨(ALe.refl _), (ALe.refl _), (ALe.refl _), trivial⟩, trivial⟩))
      rintro v1 τ2 Γ2 y2_ ⟨hw2, hd2⟩ h2_ ho2 hr2
      refine RunC.wl (τ' := [(0, AV.sl a0.length (a0.map AV.i64)), (1, AV.sl a1.length (a1.map AV.i64)), (5, AV.i64 v1)]) (Γ' := []) hw2 hd2 ?_
      replace h2_ : f94_b1 a0 a1 v1 = some y2_ := h2_
      unfold f94_b1 at h2_
      refine RunC.seq ?_
      refine RunC.seq ?_
      rcases bsel_some h2_ with ⟨hc2, h2_⟩ | ⟨hc2, h2_⟩
      · refine RunC.regionW ?_
        refine ROps.l (r := AV.i64 v1) rfl rfl rfl (LOp.move rfl rfl) ?_
        refine ROps.l (r := AV.sl a0.length (a0.map AV.i64)) rfl rfl rfl (LOp.move rfl rfl) ?_
        refine ROps.l (r := AV.i64 (a0.length : Int)) rfl rfl rfl (LOp.len_sl und43 rfl rfl) ?_
        refine ROps.l (r := AV.b true) rfl rfl rfl (LOp.eqb (LOp.lss rfl rfl rfl) hc2) ?_
        refine ROps.nil ?_
        refine RunC.cond_true rfl rfl ?_
        refine RunC.skip ?_
        refine RunC.seq ?_
        refine RunC.block ?_
        refine RunC.seq ?_
        obtain ⟨e2, he3, h2_⟩ := obind_some h2_
        obtain ⟨e3, he4, h2_⟩ := obind_some h2_
        rcases bsel_some h2_ with ⟨hc5, h2_⟩ | ⟨hc5, h2_⟩
        · refine RunC.region_draw (Γ' := []) 9 mixed 
            (TR.l (r := AV.sl a0.length (a0.map AV.i64)) rfl rfl (LOp.move rfl rfl) <|
            (TR.l (r := AV.i64 v1) rfl rfl (LOp.move rfl rfl) <|
            (TR.l (r := AV.ptr [AV.i64 e2]) rfl rfl (LOp.le (LOp.ix (f := AV.i64) und43 siz2 rfl rfl rfl rfl he3) ALe.ptr) <|
            (TR.l (r := AV.i64 e2) rfl rfl (LOp.load1 agg2 rfl rfl) <|
            (TR.l (r := AV.sl a1.length (a1.map AV.i64)) rfl rfl (LOp.move rfl rfl) <|
            (TR.l (r := AV.i64 v1) rfl rfl (LOp.move rfl rfl) <|
            (TR.l (r := AV.ptr [AV.i64 e3]) rfl rfl (LOp.le (LOp.ix (f := AV.i64) und43 siz2 rfl rfl rfl rfl he4) ALe.ptr) <|
            (TR.l (r := AV.i64 e3) rfl rfl (LOp.load1 agg2 rfl rfl) <|
            (TR.l (r := AV.b true) rfl rfl (LOp.eqb (LOp.neq rfl rfl rfl) hc5) <|
            TR.nil))))))))) rfl (by kernel_rfl) rfl fills_nil rfl ?_
          iterate 9 refine ROps.dropS ?_
          refine ROps.drop0 ?_
          refine ROps.nil ?_
          refine RunC.cond_true rfl rfl ?_
          refine RunC.seq ?_
          refine RunC.regionW ?_
          refine ROps.l (r := AV.b false) rfl rfl rfl (LOp.assign rfl rfl) ?_
          refine ROps.nil ?_
          refine RunC.ret ?_
          cases Option.some.inj h2_
          have hx3_ := hr2 _ rfl
          subst hx3_
          have hq := Option.some.inj h
          subst q0
          exact bodyQ.pure (.inr rfl) rfl (Res.one rfl (RV.tmp rfl))
        · refine RunC.region_draw (Γ' := []) 9 mixed 
            (TR.l (r := AV.sl a0.length (a0.map AV.i64)) rfl rfl (LOp.move rfl rfl) <|
            (TR.l (r := AV.i64 v1) rfl rfl (LOp.move rfl rfl) <|
            (TR.l (r := AV.ptr [AV.i64 e2]) rfl rfl (LOp.le (LOp.ix (f := AV.i64) und43 siz2 rfl rfl rfl rfl he3) ALe.ptr) <|
            (TR.l (r := AV.i64 e2) rfl rfl (LOp.load1 agg2 rfl rfl) <|
            (TR.l (r := AV.sl a1.length (a1.map AV.i64)) rfl rfl (LOp.move rfl rfl) <|
            (TR.l (r := AV.i64 v1) rfl rfl (LOp.move rfl rfl) <|
            (TR.l (r := AV.ptr [AV.i64 e3]) rfl rfl (LOp.le (LOp.ix (f := AV.i64) und43 siz2 rfl rfl rfl rfl he4) ALe.ptr) <|
            (TR.l (r := AV.i64 e3) rfl rfl (LOp.load1 agg2 rfl rfl) <|
            (TR.l (r := AV.b false) rfl rfl (LOp.eqb (LOp.neq rfl rfl rfl) hc5) <|
            TR.nil))))))))) rfl (by kernel_rfl) rfl fills_nil rfl ?_
          iterate 9 refine ROps.dropS ?_
          refine ROps.drop0 ?_
          refine ROps.nil ?_
          refine RunC.cond_false rfl rfl ?_
          refine RunC.skip ?_
          refine RunC.wl (τ' := [(0, AV.sl a0.length (a0.map AV.i64)), (1, AV.sl a1.length (a1.map AV.i64)), (5, AV.i64 v1)]) (Γ' := []) ⟨(ALe.refl _), (ALe.refl _), (ALe.refl _), trivial⟩ trivial ?_
          obtain ⟨x4, hx6, h2_⟩ := olet_some h2_
          refine RunC.regionW ?_
          refine ROps.l (r := AV.i64 v1) rfl rfl rfl (LOp.move rfl rfl) ?_
          refine ROps.l (r := AV.i64 x4) rfl rfl rfl (LOp.eqr (LOp.add rfl rfl rfl) (congrArg (AV.ik .i64) hx6)) ?_
          refine ROps.l (r := AV.i64 x4) rfl rfl rfl (LOp.assign rfl rfl) ?_
          refine ROps.nil ?_
          cases Option.some.inj h2_
          exact ⟨_, rfl, ⟨(ALe.refl _), (ALe.refl _), (ALe.refl _), trivial⟩, trivial⟩
      · refine RunC.regionW ?_
        refine ROps.l (r := AV.i64 v1) rfl rfl rfl (LOp.move rfl rfl) ?_
        refine ROps.l (r := AV.sl a0.length (a0.map AV.i64)) rfl rfl rfl (LOp.move rfl rfl) ?_
        refine ROps.l (r := AV.i64 (a0.length : Int)) rfl rfl rfl (LOp.len_sl und43 rfl rfl) ?_
        refine ROps.l (r := AV.b false) rfl rfl rfl (LOp.eqb (LOp.lss rfl rfl rfl) hc2) ?_
        refine ROps.nil ?_
        refine RunC.cond_false rfl rfl ?_
        refine RunC.exit ?_
        cases Option.some.inj h2_
        have hx := ho2 _ rfl
        exact ⟨trivial, trivial, hx⟩
    · rintro τ4 Γ4 ⟨hw4, hd4, rfl⟩
      refine RunC.wl (τ' := []) (Γ' := []) hw4 hd4 ?_
      replace h : f94_k1 = some q0 := h
      unfold f94_k1 at h
      refine RunC.seq ?_
      refine RunC.regionW ?_
      refine ROps.l (r := AV.b true) rfl rfl rfl (LOp.assign rfl rfl) ?_
      refine ROps.nil ?_
      refine RunC.ret ?_
      have hq := Option.some.inj h
      subst q0
      exact bodyQ.pure (.inr rfl) rfl (Res.one rfl (RV.tmp rfl))
noncomputable def f50 (a0 : Int) (a1 : Int) (a2 : List Int) (a3 : Int) (a4 : Int) (a5 : List Int) : Option (Bool) :=
  bsel (!decide (a0 = a3)) (
    some false) (
    bsel (!decide (a1 = a4)) (
      some false) (
      obind (f94 a2 a5) fun (r1 : Bool) =>
      bsel r1 (
        some true) (
        some false)))
theorem f50_ok (a0 : Int) (a1 : Int) (a2 : List Int) (a3 : Int) (a4 : Int) (a5 : List Int) (q0 : Bool) (h : f50 a0 a1 a2 a3 a4 a5 = some q0) : Ev Try.prog 50 [AV.agg [AV.i64 a0, AV.i64 a1, AV.sl a2.length (a2.map AV.i64)], AV.agg [AV.i64 a3, AV.i64 a4, AV.sl a5.length (a5.map AV.i64)]] [] (AV.b q0) [] := by
  refine Ev.start Try.func50 rfl rfl 0 (τ := [(0, AV.agg [AV.i64 a0, AV.i64 a1, AV.sl a2.length (a2.map AV.i64)]), (1, AV.agg [AV.i64 a3, AV.i64 a4, AV.sl a5.length (a5.map AV.i64)])]) rfl (Γ' := []) rfl (n := 21) rfl (g := 0) rfl ?_
  unfold f50 at h
  refine RunC.seq ?_
  refine RunC.regionW ?_
  refine ROps.d (r := AV.ptr [AV.i64 a0, AV.i64 a1, AV.sl a2.length (a2.map AV.i64)]) (fs := []) (Γ' := []) rfl rfl rfl (TOp.box_s rfl rfl rfl) rfl ?_
  refine ROps.d (r := AV.ptr [AV.i64 a3, AV.i64 a4, AV.sl a5.length (a5.map AV.i64)]) (fs := []) (Γ' := []) rfl rfl rfl (TOp.box_s rfl rfl rfl) rfl ?_
  refine ROps.l (r := AV.b false) rfl rfl rfl (LOp.assign rfl rfl) ?_
  refine ROps.nil ?_
  refine RunC.seq ?_
  refine RunC.seq ?_
  rcases bsel_some h with ⟨hc1, h⟩ | ⟨hc1, h⟩
  · refine RunC.regionW ?_
    refine ROps.l (r := AV.ptr [AV.i64 a0, AV.i64 a1, AV.sl a2.length (a2.map AV.i64)]) rfl rfl rfl (LOp.fap und45 rfl siz2 rfl rfl rfl) ?_
    refine ROps.l (r := AV.i64 a0) rfl rfl rfl (LOp.load1 agg2 rfl rfl) ?_
    refine ROps.l (r := AV.ptr [AV.i64 a3, AV.i64 a4, AV.sl a5.length (a5.map AV.i64)]) rfl rfl rfl (LOp.fap und45 rfl siz2 rfl rfl rfl) ?_
    refine ROps.l (r := AV.i64 a3) rfl rfl rfl (LOp.load1 agg2 rfl rfl) ?_
    refine ROps.l (r := AV.b true) rfl rfl rfl (LOp.eqb (LOp.neq rfl rfl rfl) hc1) ?_
    refine ROps.nil ?_
    refine RunC.cond_true rfl rfl ?_
    refine RunC.seq ?_
    refine RunC.regionW ?_
    refine ROps.l (r := AV.b false) rfl rfl rfl (LOp.assign rfl rfl) ?_
    refine ROps.nil ?_
    refine RunC.ret ?_
    have hq := Option.some.inj h
    subst q0
    exact bodyQ.pure (.inr rfl) rfl (Res.one rfl (RV.tmp rfl))
  · refine RunC.regionW ?_
    refine ROps.l (r := AV.ptr [AV.i64 a0, AV.i64 a1, AV.sl a2.length (a2.map AV.i64)]) rfl rfl rfl (LOp.fap und45 rfl siz2 rfl rfl rfl) ?_
    refine ROps.l (r := AV.i64 a0) rfl rfl rfl (LOp.load1 agg2 rfl rfl) ?_
    refine ROps.l (r := AV.ptr [AV.i64 a3, AV.i64 a4, AV.sl a5.length (a5.map AV.i64)]) rfl rfl rfl (LOp.fap und45 rfl siz2 rfl rfl rfl) ?_
    refine ROps.l (r := AV.i64 a3) rfl rfl rfl (LOp.load1 agg2 rfl rfl) ?_
    refine ROps.l (r := AV.b false) rfl rfl rfl (LOp.eqb (LOp.neq rfl rfl rfl) hc1) ?_
    refine ROps.nil ?_
    refine RunC.cond_false rfl rfl ?_
    refine RunC.skip ?_
    refine RunC.seq ?_
    refine RunC.seq ?_
    rcases bsel_some h with ⟨hc2, h⟩ | ⟨hc2, h⟩
    · refine RunC.regionW ?_
      refine ROps.l (r := AV.ptr [AV.i64 a1, AV.sl a2.length (a2.map AV.i64)]) rfl rfl rfl (LOp.fap und45 rfl siz2 rfl rfl rfl) ?_
      refine ROps.l (r := AV.i64 a1) rfl rfl rfl (LOp.load1 agg2 rfl rfl) ?_
      refine ROps.l (r := AV.ptr [AV.i64 a4, AV.sl a5.length (a5.map AV.i64)]) rfl rfl rfl (LOp.fap und45 rfl siz2 rfl rfl rfl) ?_
      refine ROps.l (r := AV.i64 a4) rfl rfl rfl (LOp.load1 agg2 rfl rfl) ?_
      refine ROps.l (r := AV.b true) rfl rfl rfl (LOp.eqb (LOp.neq rfl rfl rfl) hc2) ?_
      refine ROps.nil ?_
      refine RunC.cond_true rfl rfl ?_
      refine RunC.seq ?_
      refine RunC.regionW ?_
      refine ROps.l (r := AV.b false) rfl rfl rfl (LOp.assign rfl rfl) ?_
      refine ROps.nil ?_
      refine RunC.ret ?_
      have hq := Option.some.inj h
      subst q0
      exact bodyQ.pure (.inr rfl) rfl (Res.one rfl (RV.tmp rfl))
    · refine RunC.regionW ?_
      refine ROps.l (r := AV.ptr [AV.i64 a1, AV.sl a2.length (a2.map AV.i64)]) rfl rfl rfl (LOp.fap und45 rfl siz2 rfl rfl rfl) ?_
      refine ROps.l (r := AV.i64 a1) rfl rfl rfl (LOp.load1 agg2 rfl rfl) ?_
      refine ROps.l (r := AV.ptr [AV.i64 a4, AV.sl a5.length (a5.map AV.i64)]) rfl rfl rfl (LOp.fap und45 rfl siz2 rfl rfl rfl) ?_
      refine ROps.l (r := AV.i64 a4) rfl rfl rfl (LOp.load1 agg2 rfl rfl) ?_
      refine ROps.l (r := AV.b false) rfl rfl rfl (LOp.eqb (LOp.neq rfl rfl rfl) hc2) ?_
      refine ROps.nil ?_
      refine RunC.cond_false rfl rfl ?_
      refine RunC.skip ?_
      refine RunC.wl (τ' := [(2, AV.ptr [AV.i64 a0, AV.i64 a1, AV.sl a2.length (a2.map AV.i64)]), (3, AV.ptr [AV.i64 a3, AV.i64 a4, AV.sl a5.length (a5.map AV.i64)])]) (Γ' := []) ⟨(ALe.refl _), (ALe.refl _), trivial⟩ trivial ?_
      refine RunC.seq ?_
      refine RunC.seq ?_
      obtain ⟨r1, hf3, h⟩ := obind_some h
      rcases bsel_some h with ⟨hc4, h⟩ | ⟨hc4, h⟩
      · refine RunC.regionW ?_
        refine ROps.l (r := AV.ptr [AV.sl a2.length (a2.map AV.i64)]) rfl rfl rfl (LOp.fap und45 rfl siz43 rfl rfl rfl) ?_
        refine ROps.l (r := AV.sl a2.length (a2.map AV.i64)) rfl rfl rfl (LOp.load1 agg43 rfl rfl) ?_
        refine ROps.l (r := AV.ptr [AV.sl a5.length (a5.map AV.i64)]) rfl rfl rfl (LOp.fap und45 rfl siz43 rfl rfl rfl) ?_
        refine ROps.l (r := AV.sl a5.length (a5.map AV.i64)) rfl rfl rfl (LOp.load1 agg43 rfl rfl) ?_
        refine ROps.d (r := AV.b true) (fs := []) (Γ' := []) rfl rfl rfl (TOp.eqb (TOp.callB (CallAs.func ent94 rfl rfl) (Bors.cons (Bor.sl (fun _ => rfl)) (Bors.cons (Bor.sl (fun _ => rfl)) Bors.nil)) rfl rfl (f94_ok a2 a5 r1 hf3)) hc4) rfl ?_
        refine ROps.l (r := AV.b false) rfl rfl rfl (LOp.eqb (LOp.not rfl rfl) rfl) ?_
        refine ROps.nil ?_
        refine RunC.cond_false rfl rfl ?_
        refine RunC.skip ?_
        refine RunC.seq ?_
        refine RunC.regionW ?_
        refine ROps.l (r := AV.b true) rfl rfl rfl (LOp.assign rfl rfl) ?_
        refine ROps.nil ?_
        refine RunC.ret ?_
        have hq := Option.some.inj h
        subst q0
        exact bodyQ.pure (.inr rfl) rfl (Res.one rfl (RV.tmp rfl))
      · refine RunC.regionW ?_
        refine ROps.l (r := AV.ptr [AV.sl a2.length (a2.map AV.i64)]) rfl rfl rfl (LOp.fap und45 rfl siz43 rfl rfl rfl) ?_
        refine ROps.l (r := AV.sl a2.length (a2.map AV.i64)) rfl rfl rfl (LOp.load1 agg43 rfl rfl) ?_
        refine ROps.l (r := AV.ptr [AV.sl a5.length (a5.map AV.i64)]) rfl rfl rfl (LOp.fap und45 rfl siz43 rfl rfl rfl) ?_
        refine ROps.l (r := AV.sl a5.length (a5.map AV.i64)) rfl rfl rfl (LOp.load1 agg43 rfl rfl) ?_
        refine ROps.d (r := AV.b false) (fs := []) (Γ' := []) rfl rfl rfl (TOp.eqb (TOp.callB (CallAs.func ent94 rfl rfl) (Bors.cons (Bor.sl (fun _ => rfl)) (Bors.cons (Bor.sl (fun _ => rfl)) Bors.nil)) rfl rfl (f94_ok a2 a5 r1 hf3)) hc4) rfl ?_
        refine ROps.l (r := AV.b true) rfl rfl rfl (LOp.eqb (LOp.not rfl rfl) rfl) ?_
        refine ROps.nil ?_
        refine RunC.cond_true rfl rfl ?_
        refine RunC.seq ?_
        refine RunC.regionW ?_
        refine ROps.l (r := AV.b false) rfl rfl rfl (LOp.assign rfl rfl) ?_
        refine ROps.nil ?_
        refine RunC.ret ?_
        have hq := Option.some.inj h
        subst q0
        exact bodyQ.pure (.inr rfl) rfl (Res.one rfl (RV.tmp rfl))
noncomputable def f21 (a0 : Int) (a1 : Int) (a2 : List F) (a3 : List F) (a4 : List F) (a5 : List F) (a6 : Int) (a7 : Int) (a8 : List Int) (a9 : Int) (a10 : Int) (a11 : List F) (a12 : List F) (a13 : List F) (a14 : List F) (a15 : Int) (a16 : Int) (a17 : List Int) : Option (Bool) :=
  obind (f28 a0 a1 a2 a9 a10 a11) fun (r1 : Bool) =>
  bsel r1 (
    obind (f48 a3 a12) fun (r2 : Bool) =>
    bsel r2 (
      obind (f49 a4 a5 a13 a14) fun (r3 : Bool) =>
      bsel r3 (
        obind (f50 a6 a7 a8 a15 a16 a17) fun (r4 : Bool) =>
        bsel r4 (
          some true) (
          some false)) (
        some false)) (
      some false)) (
    some false)
theorem f21_ok (a0 : Int) (a1 : Int) (a2 : List F) (a3 : List F) (a4 : List F) (a5 : List F) (a6 : Int) (a7 : Int) (a8 : List Int) (a9 : Int) (a10 : Int) (a11 : List F) (a12 : List F) (a13 : List F) (a14 : List F) (a15 : Int) (a16 : Int) (a17 : List Int) (q0 : Bool) (h : f21 a0 a1 a2 a3 a4 a5 a6 a7 a8 a9 a10 a11 a12 a13 a14 a15 a16 a17 = some q0) : Ev Try.prog 21 [AV.agg [AV.i64 a0, AV.i64 a1, AV.sl a2.length (a2.map AV.f32), AV.sl a3.length (a3.map AV.f32), AV.sl a4.length (a4.map AV.f32), AV.sl a5.length (a5.map AV.f32), AV.i64 a6, AV.i64 a7, AV.sl a8.length (a8.map AV.i64)], AV.agg [AV.i64 a9, AV.i64 a10, AV.sl a11.length (a11.map AV.f32), AV.sl a12.length (a12.map AV.f32), AV.sl a13.length (a13.map AV.f32), AV.sl a14.length (a14.map AV.f32), AV.i64 a15, AV.i64 a16, AV.sl a17.length (a17.map AV.i64)]] [] (AV.b q0) [] := by
  refine Ev.start Try.func21 rfl rfl 0 (τ := [(0, AV.agg [AV.i64 a0, AV.i64 a1, AV.sl a2.length (a2.map AV.f32), AV.sl a3.length (a3.map AV.f32), AV.sl a4.length (a4.map AV.f32), AV.sl a5.length (a5.map AV.f32), AV.i64 a6, AV.i64 a7, AV.sl a8.length (a8.map AV.i64)]), (1, AV.agg [AV.i64 a9, AV.i64 a10, AV.sl a11.length (a11.map AV.f32), AV.sl a12.length (a12.map AV.f32), AV.sl a13.length (a13.map AV.f32), AV.sl a14.length (a14.map AV.f32), AV.i64 a15, AV.i64 a16, AV.sl a17.length (a17.map AV.i64)])]) rfl (Γ' := []) rfl (n := 29) rfl (g := 0) rfl ?_
  unfold f21 at h
  refine RunC.seq ?_
  refine RunC.regionW ?_
  refine ROps.d (r := AV.ptr [AV.i64 a0, AV.i64 a1, AV.sl a2.length (a2.map AV.f32), AV.sl a3.length (a3.map AV.f32), AV.sl a4.length (a4.map AV.f32), AV.sl a5.length (a5.map AV.f32), AV.i64 a6, AV.i64 a7, AV.sl a8.length (a8.map AV.i64)]) (fs := []) (Γ' := []) rfl rfl rfl (TOp.box_s rfl rfl rfl) rfl ?_
  refine ROps.d (r := AV.ptr [AV.i64 a9, AV.i64 a10, AV.sl a11.length (a11.map AV.f32), AV.sl a12.length (a12.map AV.f32), AV.sl a13.length (a13.map AV.f32), AV.sl a14.length (a14.map AV.f32), AV.i64 a15, AV.i64 a16, AV.sl a17.length (a17.map AV.i64)]) (fs := []) (Γ' := []) rfl rfl rfl (TOp.box_s rfl rfl rfl) rfl ?_
  refine ROps.l (r := AV.b false) rfl rfl rfl (LOp.assign rfl rfl) ?_
  refine ROps.nil ?_
  refine RunC.seq ?_
  refine RunC.seq ?_
  obtain ⟨r1, hf1, h⟩ := obind_some h
  rcases bsel_some h with ⟨hc2, h⟩ | ⟨hc2, h⟩
  · refine RunC.regionW ?_
    refine ROps.l (r := AV.ptr [AV.i64 a0, AV.i64 a1, AV.sl a2.length (a2.map AV.f32), AV.sl a3.length (a3.map AV.f32), AV.sl a4.length (a4.map AV.f32), AV.sl a5.length (a5.map AV.f32), AV.i64 a6, AV.i64 a7, AV.sl a8.length (a8.map AV.i64)]) rfl rfl rfl (LOp.fap und47 rfl siz40 rfl rfl rfl) ?_
    refine ROps.l (r := AV.agg [AV.i64 a0, AV.i64 a1, AV.sl a2.length (a2.map AV.f32)]) rfl rfl rfl (LOp.loadAgg agg40 siz40 rfl rfl rfl rfl) ?_
    refine ROps.l (r := AV.ptr [AV.i64 a9, AV.i64 a10, AV.sl a11.length (a11.map AV.f32), AV.sl a12.length (a12.map AV.f32), AV.sl a13.length (a13.map AV.f32), AV.sl a14.length (a14.map AV.f32), AV.i64 a15, AV.i64 a16, AV.sl a17.length (a17.map AV.i64)]) rfl rfl rfl (LOp.fap und47 rfl siz40 rfl rfl rfl) ?_
    refine ROps.l (r := AV.agg [AV.i64 a9, AV.i64 a10, AV.sl a11.length (a11.map AV.f32)]) rfl rfl rfl (LOp.loadAgg agg40 siz40 rfl rfl rfl rfl) ?_
    refine ROps.d (r := AV.b true) (fs := []) (Γ' := []) rfl rfl rfl (TOp.eqb (TOp.callB (CallAs.func ent28 rfl rfl) (Bors.cons (Bor.agg (Bors.cons (Bor.pure rfl) (Bors.cons (Bor.pure rfl) (Bors.cons (Bor.sl (fun _ => rfl)) Bors.nil)))) (Bors.cons (Bor.agg (Bors.cons (Bor.pure rfl) (Bors.cons (Bor.pure rfl) (Bors.cons (Bor.sl (fun _ => rfl)) Bors.nil)))) Bors.nil)) rfl rfl (f28_ok a0 a1 a2 a9 a10 a11 r1 hf1)) hc2) rfl ?_
    refine ROps.l (r := AV.b false) rfl rfl rfl (LOp.eqb (LOp.not rfl rfl) rfl) ?_
    refine ROps.nil ?_
    refine RunC.cond_false rfl rfl ?_
    refine RunC.skip ?_
    refine RunC.seq ?_
    refine RunC.seq ?_
    obtain ⟨r2, hf3, h⟩ := obind_some h
    rcases bsel_some h with ⟨hc4, h⟩ | ⟨hc4, h⟩
    · refine RunC.regionW ?_
      refine ROps.l (r := AV.ptr [AV.sl a3.length (a3.map AV.f32), AV.sl a4.length (a4.map AV.f32), AV.sl a5.length (a5.map AV.f32), AV.i64 a6, AV.i64 a7, AV.sl a8.length (a8.map AV.i64)]) rfl rfl rfl (LOp.fap und47 rfl siz38 rfl rfl rfl) ?_
      refine ROps.l (r := AV.sl a3.length (a3.map AV.f32)) rfl rfl rfl (LOp.load1 agg38 rfl rfl) ?_
      refine ROps.l (r := AV.ptr [AV.sl a12.length (a12.map AV.f32), AV.sl a13.length (a13.map AV.f32), AV.sl a14.length (a14.map AV.f32), AV.i64 a15, AV.i64 a16, AV.sl a17.length (a17.map AV.i64)]) rfl rfl rfl (LOp.fap und47 rfl siz38 rfl rfl rfl) ?_
      refine ROps.l (r := AV.sl a12.length (a12.map AV.f32)) rfl rfl rfl (LOp.load1 agg38 rfl rfl) ?_
      refine ROps.d (r := AV.b true) (fs := []) (Γ' := []) rfl rfl rfl (TOp.eqb (TOp.callB (CallAs.func ent48 rfl rfl) (Bors.cons (Bor.sl (fun _ => rfl)) (Bors.cons (Bor.sl (fun _ => rfl)) Bors.nil)) rfl rfl (f48_ok a3 a12 r2 hf3)) hc4) rfl ?_
      refine ROps.l (r := AV.b false) rfl rfl rfl (LOp.eqb (LOp.not rfl rfl) rfl) ?_
      refine ROps.nil ?_
      refine RunC.wl (τ' := [(2, AV.ptr [AV.i64 a0, AV.i64 a1, AV.sl a2.length (a2.map AV.f32), AV.sl a3.length (a3.map AV.f32), AV.sl a4.length (a4.map AV.f32), AV.sl a5.length (a5.map AV.f32), AV.i64 a6, AV.i64 a7, AV.sl a8.length (a8.map AV.i64)]), (3, AV.ptr [AV.i64 a9, AV.i64 a10, AV.sl a11.length (a11.map AV.f32), AV.sl a12.length (a12.map AV.f32), AV.sl a13.length (a13.map AV.f32), AV.sl a14.length (a14.map AV.f32), AV.i64 a15, AV.i64 a16, AV.sl a17.length (a17.map AV.i64)]), (16, AV.b false)]) (Γ' := []) ⟨(ALe.refl _), (ALe.refl _), (ALe.refl _), trivial⟩ trivial ?_
      refine RunC.cond_false rfl rfl ?_
      refine RunC.skip ?_
      refine RunC.seq ?_
      refine RunC.seq ?_
      obtain ⟨r3, hf5, h⟩ := obind_some h
      rcases bsel_some h with ⟨hc6, h⟩ | ⟨hc6, h⟩
      · refine RunC.regionW ?_
        refine ROps.l (r := AV.ptr [AV.sl a4.length (a4.map AV.f32), AV.sl a5.length (a5.map AV.f32), AV.i64 a6, AV.i64 a7, AV.sl a8.length (a8.map AV.i64)]) rfl rfl rfl (LOp.fap und47 rfl siz42 rfl rfl rfl) ?_
        refine ROps.l (r := AV.agg [AV.sl a4.length (a4.map AV.f32), AV.sl a5.length (a5.map AV.f32)]) rfl rfl rfl (LOp.loadAgg agg42 siz42 rfl rfl rfl rfl) ?_
        refine ROps.l (r := AV.ptr [AV.sl a13.length (a13.map AV.f32), AV.sl a14.length (a14.map AV.f32), AV.i64 a15, AV.i64 a16, AV.sl a17.length (a17.map AV.i64)]) rfl rfl rfl (LOp.fap und47 rfl siz42 rfl rfl rfl) ?_
        refine ROps.l (r := AV.agg [AV.sl a13.length (a13.map AV.f32), AV.sl a14.length (a14.map AV.f32)]) rfl rfl rfl (LOp.loadAgg agg42 siz42 rfl rfl rfl rfl) ?_
        refine ROps.d (r := AV.b true) (fs := []) (Γ' := []) rfl rfl rfl (TOp.eqb (TOp.callB (CallAs.func ent49 rfl rfl) (Bors.cons (Bor.agg (Bors.cons (Bor.sl (fun _ => rfl)) (Bors.cons (Bor.sl (fun _ => rfl)) Bors.nil))) (Bors.cons (Bor.agg (Bors.cons (Bor.sl (fun _ => rfl)) (Bors.cons (Bor.sl (fun _ => rfl)) Bors.nil))) Bors.nil)) rfl rfl (f49_ok a4 a5 a13 a14 r3 hf5)) hc6) rfl ?_
        refine ROps.l (r := AV.b false) rfl rfl rfl (LOp.eqb (LOp.not rfl rfl) rfl) ?_
        refine ROps.nil ?_
        refine RunC.cond_false rfl rfl ?_
        refine RunC.skip ?_
        refine RunC.seq ?_
        refine RunC.seq ?_
        obtain ⟨r4, hf7, h⟩ := obind_some h
        rcases bsel_some h with ⟨hc8, h⟩ | ⟨hc8, h⟩
        · refine RunC.regionW ?_
          refine ROps.l (r := AV.ptr [AV.i64 a6, AV.i64 a7, AV.sl a8.length (a8.map AV.i64)]) rfl rfl rfl (LOp.fap und47 rfl siz45 rfl rfl rfl) ?_
          refine ROps.l (r := AV.agg [AV.i64 a6, AV.i64 a7, AV.sl a8.length (a8.map AV.i64)]) rfl rfl rfl (LOp.loadAgg agg45 siz45 rfl rfl rfl rfl) ?_
          refine ROps.l (r := AV.ptr [AV.i64 a15, AV.i64 a16, AV.sl a17.length (a17.map AV.i64)]) rfl rfl rfl (LOp.fap und47 rfl siz45 rfl rfl rfl) ?_
          refine ROps.l (r := AV.agg [AV.i64 a15, AV.i64 a16, AV.sl a17.length (a17.map AV.i64)]) rfl rfl rfl (LOp.loadAgg agg45 siz45 rfl rfl rfl rfl) ?_
          refine ROps.d (r := AV.b true) (fs := []) (Γ' := []) rfl rfl rfl (TOp.eqb (TOp.callB (CallAs.func ent50 rfl rfl) (Bors.cons (Bor.agg (Bors.cons (Bor.pure rfl) (Bors.cons (Bor.pure rfl) (Bors.cons (Bor.sl (fun _ => rfl)) Bors.nil)))) (Bors.cons (Bor.agg (Bors.cons (Bor.pure rfl) (Bors.cons (Bor.pure rfl) (Bors.cons (Bor.sl (fun _ => rfl)) Bors.nil)))) Bors.nil)) rfl rfl (f50_ok a6 a7 a8 a15 a16 a17 r4 hf7)) hc8) rfl ?_
          refine ROps.l (r := AV.b false) rfl rfl rfl (LOp.eqb (LOp.not rfl rfl) rfl) ?_
          refine ROps.nil ?_
          refine RunC.wl (τ' := [(28, AV.b false)]) (Γ' := []) ⟨(ALe.refl _), trivial⟩ trivial ?_
          refine RunC.cond_false rfl rfl ?_
          refine RunC.skip ?_
          refine RunC.seq ?_
          refine RunC.regionW ?_
          refine ROps.l (r := AV.b true) rfl rfl rfl (LOp.assign rfl rfl) ?_
          refine ROps.nil ?_
          refine RunC.ret ?_
          have hq := Option.some.inj h
          subst q0
          exact bodyQ.pure (.inr rfl) rfl (Res.one rfl (RV.tmp rfl))
        · refine RunC.regionW ?_
          refine ROps.l (r := AV.ptr [AV.i64 a6, AV.i64 a7, AV.sl a8.length (a8.map AV.i64)]) rfl rfl rfl (LOp.fap und47 rfl siz45 rfl rfl rfl) ?_
          refine ROps.l (r := AV.agg [AV.i64 a6, AV.i64 a7, AV.sl a8.length (a8.map AV.i64)]) rfl rfl rfl (LOp.loadAgg agg45 siz45 rfl rfl rfl rfl) ?_
          refine ROps.l (r := AV.ptr [AV.i64 a15, AV.i64 a16, AV.sl a17.length (a17.map AV.i64)]) rfl rfl rfl (LOp.fap und47 rfl siz45 rfl rfl rfl) ?_
          refine ROps.l (r := AV.agg [AV.i64 a15, AV.i64 a16, AV.sl a17.length (a17.map AV.i64)]) rfl rfl rfl (LOp.loadAgg agg45 siz45 rfl rfl rfl rfl) ?_
          refine ROps.d (r := AV.b false) (fs := []) (Γ' := []) rfl rfl rfl (TOp.eqb (TOp.callB (CallAs.func ent50 rfl rfl) (Bors.cons (Bor.agg (Bors.cons (Bor.pure rfl) (Bors.cons (Bor.pure rfl) (Bors.cons (Bor.sl (fun _ => rfl)) Bors.nil)))) (Bors.cons (Bor.agg (Bors.cons (Bor.pure rfl) (Bors.cons (Bor.pure rfl) (Bors.cons (Bor.sl (fun _ => rfl)) Bors.nil)))) Bors.nil)) rfl rfl (f50_ok a6 a7 a8 a15 a16 a17 r4 hf7)) hc8) rfl ?_
          refine ROps.l (r := AV.b true) rfl rfl rfl (LOp.eqb (LOp.not rfl rfl) rfl) ?_
          refine ROps.nil ?_
          refine RunC.wl (τ' := [(28, AV.b true)]) (Γ' := []) ⟨(ALe.refl _), trivial⟩ trivial ?_
          refine RunC.cond_true rfl rfl ?_
          refine RunC.seq ?_
          refine RunC.regionW ?_
          refine ROps.l (r := AV.b false) rfl rfl rfl (LOp.assign rfl rfl) ?_
          refine ROps.nil ?_
          refine RunC.ret ?_
          have hq := Option.some.inj h
          subst q0
          exact bodyQ.pure (.inr rfl) rfl (Res.one rfl (RV.tmp rfl))
      · refine RunC.regionW ?_
        refine ROps.l (r := AV.ptr [AV.sl a4.length (a4.map AV.f32), AV.sl a5.length (a5.map AV.f32), AV.i64 a6, AV.i64 a7, AV.sl a8.length (a8.map AV.i64)]) rfl rfl rfl (LOp.fap und47 rfl siz42 rfl rfl rfl) ?_
        refine ROps.l (r := AV.agg [AV.sl a4.length (a4.map AV.f32), AV.sl a5.length (a5.map AV.f32)]) rfl rfl rfl (LOp.loadAgg agg42 siz42 rfl rfl rfl rfl) ?_
        refine ROps.l (r := AV.ptr [AV.sl a13.length (a13.map AV.f32), AV.sl a14.length (a14.map AV.f32), AV.i64 a15, AV.i64 a16, AV.sl a17.length (a17.map AV.i64)]) rfl rfl rfl (LOp.fap und47 rfl siz42 rfl rfl rfl) ?_
        refine ROps.l (r := AV.agg [AV.sl a13.length (a13.map AV.f32), AV.sl a14.length (a14.map AV.f32)]) rfl rfl rfl (LOp.loadAgg agg42 siz42 rfl rfl rfl rfl) ?_
        refine ROps.d (r := AV.b false) (fs := []) (Γ' := []) rfl rfl rfl (TOp.eqb (TOp.callB (CallAs.func ent49 rfl rfl) (Bors.cons (Bor.agg (Bors.cons (Bor.sl (fun _ => rfl)) (Bors.cons (Bor.sl (fun _ => rfl)) Bors.nil))) (Bors.cons (Bor.agg (Bors.cons (Bor.sl (fun _ => rfl)) (Bors.cons (Bor.sl (fun _ => rfl)) Bors.nil))) Bors.nil)) rfl rfl (f49_ok a4 a5 a13 a14 r3 hf5)) hc6) rfl ?_
        refine ROps.l (r := AV.b true) rfl rfl rfl (LOp.eqb (LOp.not rfl rfl) rfl) ?_
        refine ROps.nil ?_
        refine RunC.cond_true rfl rfl ?_
        refine RunC.seq ?_
        refine RunC.regionW ?_
        refine ROps.l (r := AV.b false) rfl rfl rfl (LOp.assign rfl rfl) ?_
        refine ROps.nil ?_
        refine RunC.ret ?_
        have hq := Option.some.inj h
        subst q0
        exact bodyQ.pure (.inr rfl) rfl (Res.one rfl (RV.tmp rfl))
    · refine RunC.regionW ?_
      refine ROps.l (r := AV.ptr [AV.sl a3.length (a3.map AV.f32), AV.sl a4.length (a4.map AV.f32), AV.sl a5.length (a5.map AV.f32), AV.i64 a6, AV.i64 a7, AV.sl a8.length (a8.map AV.i64)]) rfl rfl rfl (LOp.fap und47 rfl siz38 rfl rfl rfl) ?_
      refine ROps.l (r := AV.sl a3.length (a3.map AV.f32)) rfl rfl rfl (LOp.load1 agg38 rfl rfl) ?_
      refine ROps.l (r := AV.ptr [AV.sl a12.length (a12.map AV.f32), AV.sl a13.length (a13.map AV.f32), AV.sl a14.length (a14.map AV.f32), AV.i64 a15, AV.i64 a16, AV.sl a17.length (a17.map AV.i64)]) rfl rfl rfl (LOp.fap und47 rfl siz38 rfl rfl rfl) ?_
      refine ROps.l (r := AV.sl a12.length (a12.map AV.f32)) rfl rfl rfl (LOp.load1 agg38 rfl rfl) ?_
      refine ROps.d (r := AV.b false) (fs := []) (Γ' := []) rfl rfl rfl (TOp.eqb (TOp.callB (CallAs.func ent48 rfl rfl) (Bors.cons (Bor.sl (fun _ => rfl)) (Bors.cons (Bor.sl (fun _ => rfl)) Bors.nil)) rfl rfl (f48_ok a3 a12 r2 hf3)) hc4) rfl ?_
      refine ROps.l (r := AV.b true) rfl rfl rfl (LOp.eqb (LOp.not rfl rfl) rfl) ?_
      refine ROps.nil ?_
      refine RunC.wl (τ' := [(2, AV.ptr [AV.i64 a0, AV.i64 a1, AV.sl a2.length (a2.map AV.f32), AV.sl a3.length (a3.map AV.f32), AV.sl a4.length (a4.map AV.f32), AV.sl a5.length (a5.map AV.f32), AV.i64 a6, AV.i64 a7, AV.sl a8.length (a8.map AV.i64)]), (3, AV.ptr [AV.i64 a9, AV.i64 a10, AV.sl a11.length (a11.map AV.f32), AV.sl a12.length (a12.map AV.f32), AV.sl a13.length (a13.map AV.f32), AV.sl a14.length (a14.map AV.f32), AV.i64 a15, AV.i64 a16, AV.sl a17.length (a17.map AV.i64)]), (16, AV.b true)]) (Γ' := []) ⟨(ALe.refl _), (ALe.refl _), (ALe.refl _), trivial⟩ trivial ?_
      refine RunC.cond_true rfl rfl ?_
      refine RunC.seq ?_
      refine RunC.regionW ?_
      refine ROps.l (r := AV.b false) rfl rfl rfl (LOp.assign rfl rfl) ?_
      refine ROps.nil ?_
      refine RunC.ret ?_
      have hq := Option.some.inj h
      subst q0
      exact bodyQ.pure (.inr rfl) rfl (Res.one rfl (RV.tmp rfl))
  · refine RunC.regionW ?_
    refine ROps.l (r := AV.ptr [AV.i64 a0, AV.i64 a1, AV.sl a2.length (a2.map AV.f32), AV.sl a3.length (a3.map AV.f32), AV.sl a4.length (a4.map AV.f32), AV.sl a5.length (a5.map AV.f32), AV.i64 a6, AV.i64 a7, AV.sl a8.length (a8.map AV.i64)]) rfl rfl rfl (LOp.fap und47 rfl siz40 rfl rfl rfl) ?_
    refine ROps.l (r := AV.agg [AV.i64 a0, AV.i64 a1, AV.sl a2.length (a2.map AV.f32)]) rfl rfl rfl (LOp.loadAgg agg40 siz40 rfl rfl rfl rfl) ?_
    refine ROps.l (r := AV.ptr [AV.i64 a9, AV.i64 a10, AV.sl a11.length (a11.map AV.f32), AV.sl a12.length (a12.map AV.f32), AV.sl a13.length (a13.map AV.f32), AV.sl a14.length (a14.map AV.f32), AV.i64 a15, AV.i64 a16, AV.sl a17.length (a17.map AV.i64)]) rfl rfl rfl (LOp.fap und47 rfl siz40 rfl rfl rfl) ?_
    refine ROps.l (r := AV.agg [AV.i64 a9, AV.i64 a10, AV.sl a11.length (a11.map AV.f32)]) rfl rfl rfl (LOp.loadAgg agg40 siz40 rfl rfl rfl rfl) ?_
    refine ROps.d (r := AV.b false) (fs := []) (Γ' := []) rfl rfl rfl (TOp.eqb (TOp.callB (CallAs.func ent28 rfl rfl) (Bors.cons (Bor.agg (Bors.cons (Bor.pure rfl) (Bors.cons (Bor.pure rfl) (Bors.cons (Bor.sl (fun _ => rfl)) Bors.nil)))) (Bors.cons (Bor.agg (Bors.cons (Bor.pure rfl) (Bors.cons (Bor.pure rfl) (Bors.cons (Bor.sl (fun _ => rfl)) Bors.nil)))) Bors.nil)) rfl rfl (f28_ok a0 a1 a2 a9 a10 a11 r1 hf1)) hc2) rfl ?_
    refine ROps.l (r := AV.b true) rfl rfl rfl (LOp.eqb (LOp.not rfl rfl) rfl) ?_
    refine ROps.nil ?_
    refine RunC.cond_true rfl rfl ?_
    refine RunC.seq ?_
    refine RunC.regionW ?_
    refine ROps.l (r := AV.b false) rfl rfl rfl (LOp.assign rfl rfl) ?_
    refine ROps.nil ?_
    refine RunC.ret ?_
    have hq := Option.some.inj h
    subst q0
    exact bodyQ.pure (.inr rfl) rfl (Res.one rfl (RV.tmp rfl))
noncomputable def f51_1_b1 (a1 : List F) (L1 : List F) (v3 : Int) (v4 : Int) : Option (LR ((List F) × Int × Int) ((List F) × Int) (Int × (List F))) :=
  bsel (decide (v4 < ((a1.length : Nat) : Int))) (
    olet (fint .f32 v3) fun (x5 : F) =>
    obind (setAt? L1 v4 x5) fun (L6 : List F) =>
    olet (IntKind.i64.wrap (v3 + 1)) fun (x7 : Int) =>
    olet (IntKind.i64.wrap (v4 + 1)) fun (x8 : Int) =>
    some (LR.next (L6, x7, x8))) (
    some (LR.out (L1, v3)))
noncomputable def f51_1_s1 (a1 : List F) : ((List F) × Int × Int) → Option (LR ((List F) × Int × Int) ((List F) × Int) (Int × (List F))) := fun s => f51_1_b1 a1 s.1 s.2.1 s.2.2
noncomputable def f51_1_k1 (L9 : List F) (v11 : Int) : Option (Int × (List F)) :=
  some (v11, L9)
noncomputable def f51_1 (a0 : Int) (a1 : List F) : Option (Int × (List F)) :=
  obind (loopM (f51_1_s1 a1) (a1, a0, 0)) fun z => osum z (fun e => f51_1_k1 e.1 e.2) (fun r => some r)
theorem f51_1_ok (a0 : Int) (a1 : List F) (q0 : Int) (q1 : List F) (h : f51_1 a0 a1 = some (q0, q1)) : Ev Try.prog 51 [AV.oref 0 0 0 a1.length, AV.i64 a0] [⟨0, some (a1.map AV.f32)⟩] (AV.i64 q0) [⟨0, some (q1.map AV.f32)⟩] := by
  refine Ev.start Try.func51 rfl rfl 0 (τ := [(0, AV.oref 0 0 0 a1.length), (1, AV.i64 a0)]) rfl (Γ' := [⟨0, some (a1.map AV.f32)⟩]) rfl (n := 20) rfl (g := 1) rfl ?_
  unfold f51_1 at h
  refine RunC.seq ?_
  refine RunC.regionW ?_
  refine ROps.l (r := AV.i64 0) rfl rfl rfl (LOp.assign rfl rfl) ?_
  refine ROps.nil ?_
  refine RunC.seq ?_
  refine RunC.seq ?_
  refine RunC.regionW ?_
  refine ROps.l (r := AV.i64 0) rfl rfl rfl (LOp.assign rfl rfl) ?_
  refine ROps.nil ?_
  obtain ⟨z2, hz_2, h⟩ := obind_some h
  refine RunC.cutN (fun τ Γ => ∃ (L9 : List F) (v11 : Int), L9.length = a1.length ∧ WeakLe τ [(1, AV.i64 v11)] ∧ DeadLe Γ [⟨0, some (L9.map AV.f32)⟩] ∧ z2 = .inl (L9, v11)) ?_ ?_
  · refine RunC.block (RunC.loop (RunL.loopM (x := z2) (f51_1_s1 a1) (fun (s : (List F) × Int × Int) τ Γ => s.1.length = a1.length ∧ WeakLe τ [(0, AV.oref 0 0 0 a1.length), (1, AV.i64 s.2.1), (5, AV.i64 s.2.2)] ∧ DeadLe Γ [⟨0, some (s.1.map AV.f32)⟩]) ?_ _ _ _ hz_2 ⟨rfl, ⟨(ALe.refl _), (ALe.refl _), (ALe.refl _), trivial⟩, ⟨⟨rfl, .inr rfl⟩, trivial⟩⟩))
    rintro ⟨L1, v3, v4⟩ τ2 Γ2 y2_ ⟨hl2, hw2, hd2⟩ h2_ ho2 hr2
    refine RunC.wl (τ' := [(0, AV.oref 0 0 0 a1.length), (1, AV.i64 v3), (5, AV.i64 v4)]) (Γ' := [⟨0, some (L1.map AV.f32)⟩]) hw2 hd2 ?_
    replace hl2 : L1.length = a1.length := hl2
    replace h2_ : f51_1_b1 a1 L1 v3 v4 = some y2_ := h2_
    unfold f51_1_b1 at h2_
    refine RunC.seq ?_
    refine RunC.seq ?_
    rcases bsel_some h2_ with ⟨hc1, h2_⟩ | ⟨hc1, h2_⟩
    · refine RunC.regionW ?_
      refine ROps.l (r := AV.i64 v4) rfl rfl rfl (LOp.move rfl rfl) ?_
      refine ROps.l (r := AV.oref 0 0 0 a1.length) rfl rfl rfl (LOp.move rfl rfl) ?_
      refine ROps.l (r := AV.i64 ((a1.length : Nat) : Int)) rfl rfl rfl (LOp.len_oref und38 rfl rfl) ?_
      refine ROps.l (r := AV.b true) rfl rfl rfl (LOp.eqb (LOp.lss rfl rfl rfl) hc1) ?_
      refine ROps.nil ?_
      refine RunC.cond_true rfl rfl ?_
      refine RunC.skip ?_
      refine RunC.seq ?_
      refine RunC.block ?_
      refine RunC.seq ?_
      obtain ⟨x5, hx2, h2_⟩ := olet_some h2_
      obtain ⟨L6, he3, h2_⟩ := obind_some h2_
      refine RunC.regionW ?_
      refine ROps.l (r := AV.oref 0 0 0 a1.length) rfl rfl rfl (LOp.move rfl rfl) ?_
      refine ROps.l (r := AV.i64 v4) rfl rfl rfl (LOp.move rfl rfl) ?_
      refine ROps.l (r := AV.i64 v3) rfl rfl rfl (LOp.move rfl rfl) ?_
      refine ROps.l (r := AV.f32 x5) rfl rfl rfl (LOp.eqr (LOp.i2f (src := 3) (dst := 34) ⟨_, pun3⟩ pun34 rfl rfl) (congrArg (AV.f .f32) hx2)) ?_
      refine ROps.d (r := AV.optr 0 0 v4.toNat) (fs := []) (Γ' := [⟨0, some (L1.map AV.f32)⟩]) rfl rfl rfl (TOp.ixo und38 siz34 rfl rfl rfl (set_in he3 hl2) rfl) rfl ?_
      refine ROps.st (f := AV.f32) (i := v4) (Γ' := [⟨0, some (L6.map AV.f32)⟩]) rfl siz34 rfl rfl rfl (ALe.refl _) rfl rfl rfl he3 rfl ?_
      refine ROps.nil ?_
      obtain ⟨x7, hx4, h2_⟩ := olet_some h2_
      refine RunC.regionW ?_
      refine ROps.l (r := AV.i64 v3) rfl rfl rfl (LOp.move rfl rfl) ?_
      refine ROps.l (r := AV.i64 x7) rfl rfl rfl (LOp.eqr (LOp.add rfl rfl rfl) (congrArg (AV.ik .i64) hx4)) ?_
      refine ROps.l (r := AV.i64 x7) rfl rfl rfl (LOp.assign rfl rfl) ?_
      refine ROps.nil ?_
      obtain ⟨x8, hx5, h2_⟩ := olet_some h2_
      refine RunC.regionW ?_
      refine ROps.l (r := AV.i64 v4) rfl rfl rfl (LOp.move rfl rfl) ?_
      refine ROps.l (r := AV.i64 x8) rfl rfl rfl (LOp.eqr (LOp.add rfl rfl rfl) (congrArg (AV.ik .i64) hx5)) ?_
      refine ROps.l (r := AV.i64 x8) rfl rfl rfl (LOp.assign rfl rfl) ?_
      refine ROps.nil ?_
      cases Option.some.inj h2_
      exact ⟨_, rfl, ((setAt?_len he3).trans hl2), ⟨(ALe.refl _), (ALe.refl _), (ALe.refl _), trivial⟩, ⟨⟨rfl, .inr rfl⟩, trivial⟩⟩
    · refine RunC.regionW ?_
      refine ROps.l (r := AV.i64 v4) rfl rfl rfl (LOp.move rfl rfl) ?_
      refine ROps.l (r := AV.oref 0 0 0 a1.length) rfl rfl rfl (LOp.move rfl rfl) ?_
      refine ROps.l (r := AV.i64 ((a1.length : Nat) : Int)) rfl rfl rfl (LOp.len_oref und38 rfl rfl) ?_
      refine ROps.l (r := AV.b false) rfl rfl rfl (LOp.eqb (LOp.lss rfl rfl rfl) hc1) ?_
      refine ROps.nil ?_
      refine RunC.cond_false rfl rfl ?_
      refine RunC.exit ?_
      cases Option.some.inj h2_
      have hx := ho2 _ rfl
      exact ⟨L1, v3, hl2, ⟨(ALe.refl _), trivial⟩, ⟨⟨rfl, .inr rfl⟩, trivial⟩, hx⟩
  · rintro τ3 Γ3 ⟨L9, v11, hl10, hw3, hd3, rfl⟩
    refine RunC.wl (τ' := [(1, AV.i64 v11)]) (Γ' := [⟨0, some (L9.map AV.f32)⟩]) hw3 hd3 ?_
    replace h : f51_1_k1 L9 v11 = some (q0, q1) := h
    unfold f51_1_k1 at h
    refine RunC.seq ?_
    refine RunC.regionW ?_
    refine ROps.l (r := AV.i64 v11) rfl rfl rfl (LOp.move rfl rfl) ?_
    refine ROps.l (r := AV.i64 v11) rfl rfl rfl (LOp.assign rfl rfl) ?_
    refine ROps.nil ?_
    refine RunC.ret ?_
    have hq := Option.some.inj h
    obtain ⟨hq0, hq⟩ := Prod.mk.inj hq
    subst q0
    subst q1
    exact bodyQ.mk (r' := AV.i64 v11) [(0, 0)] (.inr rfl) rfl (by decide) rfl rfl (Res.one rfl (RV.tmp rfl)) (SelL.arr (f := AV.f32) (fun _ => rfl) rfl trivial)
noncomputable def f29_1 (a0 : Int) (a1 : Int) (a2 : Int) (a3 : List F) : Option (Int × (List F)) :=
  obind2 (f51_1 a2 a3) fun (r1 : Int) (r2 : List F) =>
  need (decide (r2.length = a3.length)) <|
  some (r1, r2)
theorem f29_1_ok (a0 : Int) (a1 : Int) (a2 : Int) (a3 : List F) (q0 : Int) (q1 : List F) (h : f29_1 a0 a1 a2 a3 = some (q0, q1)) : Ev Try.prog 29 [AV.agg [AV.i64 a0, AV.i64 a1, AV.oref 0 0 0 a3.length], AV.i64 a2] [⟨0, some (a3.map AV.f32)⟩] (AV.i64 q0) [⟨0, some (q1.map AV.f32)⟩] := by
  refine Ev.start Try.func29 rfl rfl 0 (τ := [(0, AV.agg [AV.i64 a0, AV.i64 a1, AV.oref 0 0 0 a3.length]), (1, AV.i64 a2)]) rfl (Γ' := [⟨0, some (a3.map AV.f32)⟩]) rfl (n := 10) rfl (g := 1) rfl ?_
  unfold f29_1 at h
  refine RunC.seq ?_
  refine RunC.regionW ?_
  refine ROps.d (r := AV.ptr [AV.i64 a0, AV.i64 a1, AV.oref 0 0 0 a3.length]) (fs := []) (Γ' := [⟨0, some (a3.map AV.f32)⟩]) rfl rfl rfl (TOp.box_s rfl rfl rfl) rfl ?_
  refine ROps.l (r := AV.i64 0) rfl rfl rfl (LOp.assign rfl rfl) ?_
  refine ROps.nil ?_
  refine RunC.seq ?_
  obtain ⟨r1, r2, hf1, h⟩ := obind2_some h
  obtain ⟨hn2, h⟩ := need_some h
  refine RunC.regionW ?_
  refine ROps.l (r := AV.ptr [AV.oref 0 0 0 a3.length]) rfl rfl rfl (LOp.fap und40 rfl siz38 rfl rfl rfl) ?_
  refine ROps.l (r := AV.oref 0 0 0 a3.length) rfl rfl rfl (LOp.load1 agg38 rfl rfl) ?_
  refine ROps.l (r := AV.i64 a2) rfl rfl rfl (LOp.move rfl rfl) ?_
  refine ROps.callO (A := [AV.oref 0 0 0 a3.length, AV.i64 a2]) (args := [AV.oref 0 0 0 a3.length, AV.i64 a2]) (Γc := [⟨0, some (a3.map AV.f32)⟩]) (Γc' := [⟨0, some (r2.map AV.f32)⟩]) (r' := AV.i64 r1) (Γ' := [⟨0, some (r2.map AV.f32)⟩]) [(0, 0)] [] rfl (CallAs.func ent51 rfl rfl) rfl rfl (SelOk.of (by decide) (SelL.arr0 (f := AV.f32) (fun _ => rfl) rfl trivial)) (live_of ⟨⟨_, _, rfl⟩, trivial⟩) (by simp [AV.ren, AV.rens, sigma]) rfl (f51_1_ok a2 a3 r1 r2 hf1) rfl (news_of trivial) (by decide) (by simp [AV.ren, AV.rens, sigma, of_decide_eq_true hn2]) (by simp [backOb, sigma, rens_f32, rens_f64, rens_i64, rens_ik, rens_str, rens_cp]) ?_
  refine ROps.l (r := AV.i64 r1) rfl rfl rfl (LOp.assign rfl rfl) ?_
  refine ROps.nil ?_
  refine RunC.seq ?_
  refine RunC.regionW ?_
  refine ROps.l (r := AV.i64 r1) rfl rfl rfl (LOp.move rfl rfl) ?_
  refine ROps.l (r := AV.i64 r1) rfl rfl rfl (LOp.assign rfl rfl) ?_
  refine ROps.nil ?_
  refine RunC.ret ?_
  have hq := Option.some.inj h
  obtain ⟨hq0, hq⟩ := Prod.mk.inj hq
  subst q0
  subst q1
  exact bodyQ.mk (r' := AV.i64 r1) [(0, 0)] (.inr rfl) rfl (by decide) rfl rfl (Res.one rfl (RV.tmp rfl)) (SelL.arr (f := AV.f32) (fun _ => rfl) rfl trivial)
noncomputable def f52_1 (a0 : Int) (a1 : List F) (a2 : List F) : Option (Int × (List F) × (List F)) :=
  obind2 (f51_1 a0 a1) fun (r1 : Int) (r2 : List F) =>
  need (decide (r2.length = a1.length)) <|
  obind2 (f51_1 r1 a2) fun (r3 : Int) (r4 : List F) =>
  need (decide (r4.length = a2.length)) <|
  some (r3, r2, r4)
theorem f52_1_ok (a0 : Int) (a1 : List F) (a2 : List F) (q0 : Int) (q1 : List F) (q2 : List F) (h : f52_1 a0 a1 a2 = some (q0, q1, q2)) : Ev Try.prog 52 [AV.agg [AV.oref 0 0 0 a1.length, AV.oref 1 0 0 a2.length], AV.i64 a0] [⟨0, some (a1.map AV.f32)⟩, ⟨0, some (a2.map AV.f32)⟩] (AV.i64 q0) [⟨0, some (q1.map AV.f32)⟩, ⟨0, some (q2.map AV.f32)⟩] := by
  refine Ev.start Try.func52 rfl rfl 0 (τ := [(0, AV.agg [AV.oref 0 0 0 a1.length, AV.oref 1 0 0 a2.length]), (1, AV.i64 a0)]) rfl (Γ' := [⟨0, some (a1.map AV.f32)⟩, ⟨0, some (a2.map AV.f32)⟩]) rfl (n := 14) rfl (g := 2) rfl ?_
  unfold f52_1 at h
  refine RunC.seq ?_
  refine RunC.regionW ?_
  refine ROps.d (r := AV.ptr [AV.oref 0 0 0 a1.length, AV.oref 1 0 0 a2.length]) (fs := []) (Γ' := [⟨0, some (a1.map AV.f32)⟩, ⟨0, some (a2.map AV.f32)⟩]) rfl rfl rfl (TOp.box_s rfl rfl rfl) rfl ?_
  refine ROps.l (r := AV.i64 0) rfl rfl rfl (LOp.assign rfl rfl) ?_
  refine ROps.nil ?_
  refine RunC.seq ?_
  obtain ⟨r1, r2, hf1, h⟩ := obind2_some h
  obtain ⟨hn2, h⟩ := need_some h
  refine RunC.regionW ?_
  refine ROps.l (r := AV.ptr [AV.oref 0 0 0 a1.length, AV.oref 1 0 0 a2.length]) rfl rfl rfl (LOp.fap und42 rfl siz38 rfl rfl rfl) ?_
  refine ROps.l (r := AV.oref 0 0 0 a1.length) rfl rfl rfl (LOp.load1 agg38 rfl rfl) ?_
  refine ROps.l (r := AV.i64 a0) rfl rfl rfl (LOp.move rfl rfl) ?_
  refine ROps.callO (A := [AV.oref 0 0 0 a1.length, AV.i64 a0]) (args := [AV.oref 0 0 0 a1.length, AV.i64 a0]) (Γc := [⟨0, some (a1.map AV.f32)⟩]) (Γc' := [⟨0, some (r2.map AV.f32)⟩]) (r' := AV.i64 r1) (Γ' := [⟨0, some (r2.map AV.f32)⟩, ⟨0, some (a2.map AV.f32)⟩]) [(0, 0)] [] rfl (CallAs.func ent51 rfl rfl) rfl rfl (SelOk.of (by decide) (SelL.arr0 (f := AV.f32) (fun _ => rfl) rfl trivial)) (live_of ⟨⟨_, _, rfl⟩, trivial⟩) (by simp [AV.ren, AV.rens, sigma]) rfl (f51_1_ok a0 a1 r1 r2 hf1) rfl (news_of trivial) (by decide) (by simp [AV.ren, AV.rens, sigma, of_decide_eq_true hn2]) (by simp [backOb, sigma, rens_f32, rens_f64, rens_i64, rens_ik, rens_str, rens_cp]) ?_
  refine ROps.l (r := AV.i64 r1) rfl rfl rfl (LOp.assign rfl rfl) ?_
  refine ROps.nil ?_
  refine RunC.seq ?_
  obtain ⟨r3, r4, hf3, h⟩ := obind2_some h
  obtain ⟨hn4, h⟩ := need_some h
  refine RunC.regionW ?_
  refine ROps.l (r := AV.ptr [AV.oref 1 0 0 a2.length]) rfl rfl rfl (LOp.fap und42 rfl siz38 rfl rfl rfl) ?_
  refine ROps.l (r := AV.oref 1 0 0 a2.length) rfl rfl rfl (LOp.load1 agg38 rfl rfl) ?_
  refine ROps.l (r := AV.i64 r1) rfl rfl rfl (LOp.move rfl rfl) ?_
  refine ROps.callO (A := [AV.oref 1 0 0 a2.length, AV.i64 r1]) (args := [AV.oref 0 0 0 a2.length, AV.i64 r1]) (Γc := [⟨0, some (a2.map AV.f32)⟩]) (Γc' := [⟨0, some (r4.map AV.f32)⟩]) (r' := AV.i64 r3) (Γ' := [⟨0, some (r2.map AV.f32)⟩, ⟨0, some (r4.map AV.f32)⟩]) [(1, 0)] [] rfl (CallAs.func ent51 rfl rfl) rfl rfl (SelOk.of (by decide) (SelL.arr0 (f := AV.f32) (fun _ => rfl) rfl trivial)) (live_of ⟨⟨_, _, rfl⟩, trivial⟩) (by simp [AV.ren, AV.rens, sigma]) rfl (f51_1_ok r1 a2 r3 r4 hf3) rfl (news_of trivial) (by decide) (by simp [AV.ren, AV.rens, sigma, of_decide_eq_true hn4]) (by simp [backOb, sigma, rens_f32, rens_f64, rens_i64, rens_ik, rens_str, rens_cp]) ?_
  refine ROps.l (r := AV.i64 r3) rfl rfl rfl (LOp.assign rfl rfl) ?_
  refine ROps.nil ?_
  refine RunC.seq ?_
  refine RunC.regionW ?_
  refine ROps.l (r := AV.i64 r3) rfl rfl rfl (LOp.move rfl rfl) ?_
  refine ROps.l (r := AV.i64 r3) rfl rfl rfl (LOp.assign rfl rfl) ?_
  refine ROps.nil ?_
  refine RunC.ret ?_
  have hq := Option.some.inj h
  obtain ⟨hq0, hq⟩ := Prod.mk.inj hq
  obtain ⟨hq1, hq⟩ := Prod.mk.inj hq
  subst q0
  subst q1
  subst q2
  exact bodyQ.mk (r' := AV.i64 r3) [(0, 0), (1, 0)] (.inr rfl) rfl (by decide) rfl rfl (Res.one rfl (RV.tmp rfl)) (SelL.arr (f := AV.f32) (fun _ => rfl) rfl (SelL.arr (f := AV.f32) (fun _ => rfl) rfl trivial))
noncomputable def f95_1_b1 (a1 : List Int) (L1 : List Int) (v3 : Int) (v4 : Int) : Option (LR ((List Int) × Int × Int) ((List Int) × Int) (Int × (List Int))) :=
  bsel (decide (v4 < ((a1.length : Nat) : Int))) (
    obind (setAt? L1 v4 v3) fun (L5 : List Int) =>
    olet (IntKind.i64.wrap (v3 + 1)) fun (x6 : Int) =>
    olet (IntKind.i64.wrap (v4 + 1)) fun (x7 : Int) =>
    some (LR.next (L5, x6, x7))) (
    some (LR.out (L1, v3)))
noncomputable def f95_1_s1 (a1 : List Int) : ((List Int) × Int × Int) → Option (LR ((List Int) × Int × Int) ((List Int) × Int) (Int × (List Int))) := fun s => f95_1_b1 a1 s.1 s.2.1 s.2.2
noncomputable def f95_1_k1 (L8 : List Int) (v10 : Int) : Option (Int × (List Int)) :=
  some (v10, L8)
noncomputable def f95_1 (a0 : Int) (a1 : List Int) : Option (Int × (List Int)) :=
  obind (loopM (f95_1_s1 a1) (a1, a0, 0)) fun z => osum z (fun e => f95_1_k1 e.1 e.2) (fun r => some r)
theorem f95_1_ok (a0 : Int) (a1 : List Int) (q0 : Int) (q1 : List Int) (h : f95_1 a0 a1 = some (q0, q1)) : Ev Try.prog 95 [AV.oref 0 0 0 a1.length, AV.i64 a0] [⟨0, some (a1.map AV.i64)⟩] (AV.i64 q0) [⟨0, some (q1.map AV.i64)⟩] := by
  refine Ev.start Try.func95 rfl rfl 0 (τ := [(0, AV.oref 0 0 0 a1.length), (1, AV.i64 a0)]) rfl (Γ' := [⟨0, some (a1.map AV.i64)⟩]) rfl (n := 19) rfl (g := 1) rfl ?_
  unfold f95_1 at h
  refine RunC.seq ?_
  refine RunC.regionW ?_
  refine ROps.l (r := AV.i64 0) rfl rfl rfl (LOp.assign rfl rfl) ?_
  refine ROps.nil ?_
  refine RunC.seq ?_
  refine RunC.seq ?_
  refine RunC.regionW ?_
  refine ROps.l (r := AV.i64 0) rfl rfl rfl (LOp.assign rfl rfl) ?_
  refine ROps.nil ?_
  obtain ⟨z2, hz_2, h⟩ := obind_some h
  refine RunC.cutN (fun τ Γ => ∃ (L8 : List Int) (v10 : Int), L8.length = a1.length ∧ WeakLe τ [(1, AV.i64 v10)] ∧ DeadLe Γ [⟨0, some (L8.map AV.i64)⟩] ∧ z2 = .inl (L8, v10)) ?_ ?_
  · refine RunC.block (RunC.loop (RunL.loopM (x := z2) (f95_1_s1 a1) (fun (s : (List Int) × Int × Int) τ Γ => s.1.length = a1.length ∧ WeakLe τ [(0, AV.oref 0 0 0 a1.length), (1, AV.i64 s.2.1), (5, AV.i64 s.2.2)] ∧ DeadLe Γ [⟨0, some (s.1.map AV.i64)⟩]) ?_ _ _ _ hz_2 ⟨rfl, ⟨(ALe.refl _), (ALe.refl _), (ALe.refl _), trivial⟩, ⟨⟨rfl, .inr rfl⟩, trivial⟩⟩))
    rintro ⟨L1, v3, v4⟩ τ2 Γ2 y2_ ⟨hl2, hw2, hd2⟩ h2_ ho2 hr2
    refine RunC.wl (τ' := [(0, AV.oref 0 0 0 a1.length), (1, AV.i64 v3), (5, AV.i64 v4)]) (Γ' := [⟨0, some (L1.map AV.i64)⟩]) hw2 hd2 ?_
    replace hl2 : L1.length = a1.length := hl2
    replace h2_ : f95_1_b1 a1 L1 v3 v4 = some y2_ := h2_
    unfold f95_1_b1 at h2_
    refine RunC.seq ?_
    refine RunC.seq ?_
    rcases bsel_some h2_ with ⟨hc1, h2_⟩ | ⟨hc1, h2_⟩
    · refine RunC.regionW ?_
      refine ROps.l (r := AV.i64 v4) rfl rfl rfl (LOp.move rfl rfl) ?_
      refine ROps.l (r := AV.oref 0 0 0 a1.length) rfl rfl rfl (LOp.move rfl rfl) ?_
      refine ROps.l (r := AV.i64 ((a1.length : Nat) : Int)) rfl rfl rfl (LOp.len_oref und43 rfl rfl) ?_
      refine ROps.l (r := AV.b true) rfl rfl rfl (LOp.eqb (LOp.lss rfl rfl rfl) hc1) ?_
      refine ROps.nil ?_
      refine RunC.cond_true rfl rfl ?_
      refine RunC.skip ?_
      refine RunC.seq ?_
      refine RunC.block ?_
      refine RunC.seq ?_
      obtain ⟨L5, he2, h2_⟩ := obind_some h2_
      refine RunC.regionW ?_
      refine ROps.l (r := AV.oref 0 0 0 a1.length) rfl rfl rfl (LOp.move rfl rfl) ?_
      refine ROps.l (r := AV.i64 v4) rfl rfl rfl (LOp.move rfl rfl) ?_
      refine ROps.l (r := AV.i64 v3) rfl rfl rfl (LOp.move rfl rfl) ?_
      refine ROps.d (r := AV.optr 0 0 v4.toNat) (fs := []) (Γ' := [⟨0, some (L1.map AV.i64)⟩]) rfl rfl rfl (TOp.ixo und43 siz2 rfl rfl rfl (set_in he2 hl2) rfl) rfl ?_
      refine ROps.st (f := AV.i64) (i := v4) (Γ' := [⟨0, some (L5.map AV.i64)⟩]) rfl siz2 rfl rfl rfl (ALe.refl _) rfl rfl rfl he2 rfl ?_
      refine ROps.nil ?_
      obtain ⟨x6, hx3, h2_⟩ := olet_some h2_
      refine RunC.regionW ?_
      refine ROps.l (r := AV.i64 v3) rfl rfl rfl (LOp.move rfl rfl) ?_
      refine ROps.l (r := AV.i64 x6) rfl rfl rfl (LOp.eqr (LOp.add rfl rfl rfl) (congrArg (AV.ik .i64) hx3)) ?_
      refine ROps.l (r := AV.i64 x6) rfl rfl rfl (LOp.assign rfl rfl) ?_
      refine ROps.nil ?_
      obtain ⟨x7, hx4, h2_⟩ := olet_some h2_
      refine RunC.regionW ?_
      refine ROps.l (r := AV.i64 v4) rfl rfl rfl (LOp.move rfl rfl) ?_
      refine ROps.l (r := AV.i64 x7) rfl rfl rfl (LOp.eqr (LOp.add rfl rfl rfl) (congrArg (AV.ik .i64) hx4)) ?_
      refine ROps.l (r := AV.i64 x7) rfl rfl rfl (LOp.assign rfl rfl) ?_
      refine ROps.nil ?_
      cases Option.some.inj h2_
      exact ⟨_, rfl, ((setAt?_len he2).trans hl2), ⟨(ALe.refl _), (ALe.refl _), (ALe.refl _), trivial⟩, ⟨⟨rfl, .inr rfl⟩, trivial⟩⟩
    · refine RunC.regionW ?_
      refine ROps.l (r := AV.i64 v4) rfl rfl rfl (LOp.move rfl rfl) ?_
      refine ROps.l (r := AV.oref 0 0 0 a1.length) rfl rfl rfl (LOp.move rfl rfl) ?_
      refine ROps.l (r := AV.i64 ((a1.length : Nat) : Int)) rfl rfl rfl (LOp.len_oref und43 rfl rfl) ?_
      refine ROps.l (r := AV.b false) rfl rfl rfl (LOp.eqb (LOp.lss rfl rfl rfl) hc1) ?_
      refine ROps.nil ?_
      refine RunC.cond_false rfl rfl ?_
      refine RunC.exit ?_
      cases Option.some.inj h2_
      have hx := ho2 _ rfl
      exact ⟨L1, v3, hl2, ⟨(ALe.refl _), trivial⟩, ⟨⟨rfl, .inr rfl⟩, trivial⟩, hx⟩
  · rintro τ3 Γ3 ⟨L8, v10, hl9, hw3, hd3, rfl⟩
    refine RunC.wl (τ' := [(1, AV.i64 v10)]) (Γ' := [⟨0, some (L8.map AV.i64)⟩]) hw3 hd3 ?_
    replace h : f95_1_k1 L8 v10 = some (q0, q1) := h
    unfold f95_1_k1 at h
    refine RunC.seq ?_
    refine RunC.regionW ?_
    refine ROps.l (r := AV.i64 v10) rfl rfl rfl (LOp.move rfl rfl) ?_
    refine ROps.l (r := AV.i64 v10) rfl rfl rfl (LOp.assign rfl rfl) ?_
    refine ROps.nil ?_
    refine RunC.ret ?_
    have hq := Option.some.inj h
    obtain ⟨hq0, hq⟩ := Prod.mk.inj hq
    subst q0
    subst q1
    exact bodyQ.mk (r' := AV.i64 v10) [(0, 0)] (.inr rfl) rfl (by decide) rfl rfl (Res.one rfl (RV.tmp rfl)) (SelL.arr (f := AV.i64) (fun _ => rfl) rfl trivial)
noncomputable def f53_1 (a0 : Int) (a1 : Int) (a2 : Int) (a3 : List Int) : Option (Int × (List Int)) :=
  obind2 (f95_1 a2 a3) fun (r1 : Int) (r2 : List Int) =>
  need (decide (r2.length = a3.length)) <|
  some (r1, r2)
theorem f53_1_ok (a0 : Int) (a1 : Int) (a2 : Int) (a3 : List Int) (q0 : Int) (q1 : List Int) (h : f53_1 a0 a1 a2 a3 = some (q0, q1)) : Ev Try.prog 53 [AV.agg [AV.i64 a0, AV.i64 a1, AV.oref 0 0 0 a3.length], AV.i64 a2] [⟨0, some (a3.map AV.i64)⟩] (AV.i64 q0) [⟨0, some (q1.map AV.i64)⟩] := by
  refine Ev.start Try.func53 rfl rfl 0 (τ := [(0, AV.agg [AV.i64 a0, AV.i64 a1, AV.oref 0 0 0 a3.length]), (1, AV.i64 a2)]) rfl (Γ' := [⟨0, some (a3.map AV.i64)⟩]) rfl (n := 10) rfl (g := 1) rfl ?_
  unfold f53_1 at h
  refine RunC.seq ?_
  refine RunC.regionW ?_
  refine ROps.d (r := AV.ptr [AV.i64 a0, AV.i64 a1, AV.oref 0 0 0 a3.length]) (fs := []) (Γ' := [⟨0, some (a3.map AV.i64)⟩]) rfl rfl rfl (TOp.box_s rfl rfl rfl) rfl ?_
  refine ROps.l (r := AV.i64 0) rfl rfl rfl (LOp.assign rfl rfl) ?_
  refine ROps.nil ?_
  refine RunC.seq ?_
  obtain ⟨r1, r2, hf1, h⟩ := obind2_some h
  obtain ⟨hn2, h⟩ := need_some h
  refine RunC.regionW ?_
  refine ROps.l (r := AV.ptr [AV.oref 0 0 0 a3.length]) rfl rfl rfl (LOp.fap und45 rfl siz43 rfl rfl rfl) ?_
  refine ROps.l (r := AV.oref 0 0 0 a3.length) rfl rfl rfl (LOp.load1 agg43 rfl rfl) ?_
  refine ROps.l (r := AV.i64 a2) rfl rfl rfl (LOp.move rfl rfl) ?_
  refine ROps.callO (A := [AV.oref 0 0 0 a3.length, AV.i64 a2]) (args := [AV.oref 0 0 0 a3.length, AV.i64 a2]) (Γc := [⟨0, some (a3.map AV.i64)⟩]) (Γc' := [⟨0, some (r2.map AV.i64)⟩]) (r' := AV.i64 r1) (Γ' := [⟨0, some (r2.map AV.i64)⟩]) [(0, 0)] [] rfl (CallAs.func ent95 rfl rfl) rfl rfl (SelOk.of (by decide) (SelL.arr0 (f := AV.i64) (fun _ => rfl) rfl trivial)) (live_of ⟨⟨_, _, rfl⟩, trivial⟩) (by simp [AV.ren, AV.rens, sigma]) rfl (f95_1_ok a2 a3 r1 r2 hf1) rfl (news_of trivial) (by decide) (by simp [AV.ren, AV.rens, sigma, of_decide_eq_true hn2]) (by simp [backOb, sigma, rens_f32, rens_f64, rens_i64, rens_ik, rens_str, rens_cp]) ?_
  refine ROps.l (r := AV.i64 r1) rfl rfl rfl (LOp.assign rfl rfl) ?_
  refine ROps.nil ?_
  refine RunC.seq ?_
  refine RunC.regionW ?_
  refine ROps.l (r := AV.i64 r1) rfl rfl rfl (LOp.move rfl rfl) ?_
  refine ROps.l (r := AV.i64 r1) rfl rfl rfl (LOp.assign rfl rfl) ?_
  refine ROps.nil ?_
  refine RunC.ret ?_
  have hq := Option.some.inj h
  obtain ⟨hq0, hq⟩ := Prod.mk.inj hq
  subst q0
  subst q1
  exact bodyQ.mk (r' := AV.i64 r1) [(0, 0)] (.inr rfl) rfl (by decide) rfl rfl (Res.one rfl (RV.tmp rfl)) (SelL.arr (f := AV.i64) (fun _ => rfl) rfl trivial)
noncomputable def f22_1 (a0 : Int) (a1 : Int) (a2 : Int) (a3 : Int) (a4 : Int) (a5 : List F) (a6 : List F) (a7 : List F) (a8 : List F) (a9 : List Int) : Option (Int × (List F) × (List F) × (List F) × (List F) × (List Int)) :=
  obind2 (f29_1 a0 a1 a4 a5) fun (r1 : Int) (r2 : List F) =>
  need (decide (r2.length = a5.length)) <|
  obind2 (f51_1 r1 a6) fun (r3 : Int) (r4 : List F) =>
  need (decide (r4.length = a6.length)) <|
  obind3 (f52_1 r3 a7 a8) fun (r5 : Int) (r6 : List F) (r7 : List F) =>
  need (decide (r6.length = a7.length)) <|
  need (decide (r7.length = a8.length)) <|
  obind2 (f53_1 a2 a3 r5 a9) fun (r8 : Int) (r9 : List Int) =>
  need (decide (r9.length = a9.length)) <|
  some (r8, r2, r4, r6, r7, r9)
theorem f22_1_ok (a0 : Int) (a1 : Int) (a2 : Int) (a3 : Int) (a4 : Int) (a5 : List F) (a6 : List F) (a7 : List F) (a8 : List F) (a9 : List Int) (q0 : Int) (q1 : List F) (q2 : List F) (q3 : List F) (q4 : List F) (q5 : List Int) (h : f22_1 a0 a1 a2 a3 a4 a5 a6 a7 a8 a9 = some (q0, q1, q2, q3, q4, q5)) : Ev Try.prog 22 [AV.agg [AV.i64 a0, AV.i64 a1, AV.oref 0 0 0 a5.length, AV.oref 1 0 0 a6.length, AV.oref 2 0 0 a7.length, AV.oref 3 0 0 a8.length, AV.i64 a2, AV.i64 a3, AV.oref 4 0 0 a9.length], AV.i64 a4] [⟨0, some (a5.map AV.f32)⟩, ⟨0, some (a6.map AV.f32)⟩, ⟨0, some (a7.map AV.f32)⟩, ⟨0, some (a8.map AV.f32)⟩, ⟨0, some (a9.map AV.i64)⟩] (AV.i64 q0) [⟨0, some (q1.map AV.f32)⟩, ⟨0, some (q2.map AV.f32)⟩, ⟨0, some (q3.map AV.f32)⟩, ⟨0, some (q4.map AV.f32)⟩, ⟨0, some (q5.map AV.i64)⟩] := by
  refine Ev.start Try.func22 rfl rfl 0 (τ := [(0, AV.agg [AV.i64 a0, AV.i64 a1, AV.oref 0 0 0 a5.length, AV.oref 1 0 0 a6.length, AV.oref 2 0 0 a7.length, AV.oref 3 0 0 a8.length, AV.i64 a2, AV.i64 a3, AV.oref 4 0 0 a9.length]), (1, AV.i64 a4)]) rfl (Γ' := [⟨0, some (a5.map AV.f32)⟩, ⟨0, some (a6.map AV.f32)⟩, ⟨0, some (a7.map AV.f32)⟩, ⟨0, some (a8.map AV.f32)⟩, ⟨0, some (a9.map AV.i64)⟩]) rfl (n := 22) rfl (g := 5) rfl ?_
  unfold f22_1 at h
  refine RunC.seq ?_
  refine RunC.regionW ?_
  refine ROps.d (r := AV.ptr [AV.i64 a0, AV.i64 a1, AV.oref 0 0 0 a5.length, AV.oref 1 0 0 a6.length, AV.oref 2 0 0 a7.length, AV.oref 3 0 0 a8.length, AV.i64 a2, AV.i64 a3, AV.oref 4 0 0 a9.length]) (fs := []) (Γ' := [⟨0, some (a5.map AV.f32)⟩, ⟨0, some (a6.map AV.f32)⟩, ⟨0, some (a7.map AV.f32)⟩, ⟨0, some (a8.map AV.f32)⟩, ⟨0, some (a9.map AV.i64)⟩]) rfl rfl rfl (TOp.box_s rfl rfl rfl) rfl ?_
  refine ROps.l (r := AV.i64 0) rfl rfl rfl (LOp.assign rfl rfl) ?_
  refine ROps.nil ?_
  refine RunC.seq ?_
  obtain ⟨r1, r2, hf1, h⟩ := obind2_some h
  obtain ⟨hn2, h⟩ := need_some h
  refine RunC.regionW ?_
  refine ROps.l (r := AV.ptr [AV.i64 a0, AV.i64 a1, AV.oref 0 0 0 a5.length, AV.oref 1 0 0 a6.length, AV.oref 2 0 0 a7.length, AV.oref 3 0 0 a8.length, AV.i64 a2, AV.i64 a3, AV.oref 4 0 0 a9.length]) rfl rfl rfl (LOp.fap und47 rfl siz40 rfl rfl rfl) ?_
  refine ROps.l (r := AV.agg [AV.i64 a0, AV.i64 a1, AV.oref 0 0 0 a5.length]) rfl rfl rfl (LOp.loadAgg agg40 siz40 rfl rfl rfl rfl) ?_
  refine ROps.l (r := AV.i64 a4) rfl rfl rfl (LOp.move rfl rfl) ?_
  refine ROps.callO (A := [AV.agg [AV.i64 a0, AV.i64 a1, AV.oref 0 0 0 a5.length], AV.i64 a4]) (args := [AV.agg [AV.i64 a0, AV.i64 a1, AV.oref 0 0 0 a5.length], AV.i64 a4]) (Γc := [⟨0, some (a5.map AV.f32)⟩]) (Γc' := [⟨0, some (r2.map AV.f32)⟩]) (r' := AV.i64 r1) (Γ' := [⟨0, some (r2.map AV.f32)⟩, ⟨0, some (a6.map AV.f32)⟩, ⟨0, some (a7.map AV.f32)⟩, ⟨0, some (a8.map AV.f32)⟩, ⟨0, some (a9.map AV.i64)⟩]) [(0, 0)] [] rfl (CallAs.func ent29 rfl rfl) rfl rfl (SelOk.of (by decide) (SelL.arr0 (f := AV.f32) (fun _ => rfl) rfl trivial)) (live_of ⟨⟨_, _, rfl⟩, trivial⟩) (by simp [AV.ren, AV.rens, sigma]) rfl (f29_1_ok a0 a1 a4 a5 r1 r2 hf1) rfl (news_of trivial) (by decide) (by simp [AV.ren, AV.rens, sigma, of_decide_eq_true hn2]) (by simp [backOb, sigma, rens_f32, rens_f64, rens_i64, rens_ik, rens_str, rens_cp]) ?_
  refine ROps.l (r := AV.i64 r1) rfl rfl rfl (LOp.assign rfl rfl) ?_
  refine ROps.nil ?_
  refine RunC.seq ?_
  obtain ⟨r3, r4, hf3, h⟩ := obind2_some h
  obtain ⟨hn4, h⟩ := need_some h
  refine RunC.regionW ?_
  refine ROps.l (r := AV.ptr [AV.oref 1 0 0 a6.length, AV.oref 2 0 0 a7.length, AV.oref 3 0 0 a8.length, AV.i64 a2, AV.i64 a3, AV.oref 4 0 0 a9.length]) rfl rfl rfl (LOp.fap und47 rfl siz38 rfl rfl rfl) ?_
  refine ROps.l (r := AV.oref 1 0 0 a6.length) rfl rfl rfl (LOp.load1 agg38 rfl rfl) ?_
  refine ROps.l (r := AV.i64 r1) rfl rfl rfl (LOp.move rfl rfl) ?_
  refine ROps.callO (A := [AV.oref 1 0 0 a6.length, AV.i64 r1]) (args := [AV.oref 0 0 0 a6.length, AV.i64 r1]) (Γc := [⟨0, some (a6.map AV.f32)⟩]) (Γc' := [⟨0, some (r4.map AV.f32)⟩]) (r' := AV.i64 r3) (Γ' := [⟨0, some (r2.map AV.f32)⟩, ⟨0, some (r4.map AV.f32)⟩, ⟨0, some (a7.map AV.f32)⟩, ⟨0, some (a8.map AV.f32)⟩, ⟨0, some (a9.map AV.i64)⟩]) [(1, 0)] [] rfl (CallAs.func ent51 rfl rfl) rfl rfl (SelOk.of (by decide) (SelL.arr0 (f := AV.f32) (fun _ => rfl) rfl trivial)) (live_of ⟨⟨_, _, rfl⟩, trivial⟩) (by simp [AV.ren, AV.rens, sigma]) rfl (f51_1_ok r1 a6 r3 r4 hf3) rfl (news_of trivial) (by decide) (by simp [AV.ren, AV.rens, sigma, of_decide_eq_true hn4]) (by simp [backOb, sigma, rens_f32, rens_f64, rens_i64, rens_ik, rens_str, rens_cp]) ?_
  refine ROps.l (r := AV.i64 r3) rfl rfl rfl (LOp.assign rfl rfl) ?_
  refine ROps.nil ?_
  refine RunC.seq ?_
  obtain ⟨r5, r6, r7, hf5, h⟩ := obind3_some h
  obtain ⟨hn6, h⟩ := need_some h
  obtain ⟨hn7, h⟩ := need_some h
  refine RunC.regionW ?_
  refine ROps.l (r := AV.ptr [AV.oref 2 0 0 a7.length, AV.oref 3 0 0 a8.length, AV.i64 a2, AV.i64 a3, AV.oref 4 0 0 a9.length]) rfl rfl rfl (LOp.fap und47 rfl siz42 rfl rfl rfl) ?_
  refine ROps.l (r := AV.agg [AV.oref 2 0 0 a7.length, AV.oref 3 0 0 a8.length]) rfl rfl rfl (LOp.loadAgg agg42 siz42 rfl rfl rfl rfl) ?_
  refine ROps.l (r := AV.i64 r3) rfl rfl rfl (LOp.move rfl rfl) ?_
  refine ROps.callO (A := [AV.agg [AV.oref 2 0 0 a7.length, AV.oref 3 0 0 a8.length], AV.i64 r3]) (args := [AV.agg [AV.oref 0 0 0 a7.length, AV.oref 1 0 0 a8.length], AV.i64 r3]) (Γc := [⟨0, some (a7.map AV.f32)⟩, ⟨0, some (a8.map AV.f32)⟩]) (Γc' := [⟨0, some (r6.map AV.f32)⟩, ⟨0, some (r7.map AV.f32)⟩]) (r' := AV.i64 r5) (Γ' := [⟨0, some (r2.map AV.f32)⟩, ⟨0, some (r4.map AV.f32)⟩, ⟨0, some (r6.map AV.f32)⟩, ⟨0, some (r7.map AV.f32)⟩, ⟨0, some (a9.map AV.i64)⟩]) [(2, 0), (3, 0)] [] rfl (CallAs.func ent52 rfl rfl) rfl rfl (SelOk.of (by decide) (SelL.arr0 (f := AV.f32) (fun _ => rfl) rfl (SelL.arr0 (f := AV.f32) (fun _ => rfl) rfl trivial))) (live_of ⟨⟨_, _, rfl⟩, ⟨_, _, rfl⟩, trivial⟩) (by simp [AV.ren, AV.rens, sigma]) rfl (f52_1_ok r3 a7 a8 r5 r6 r7 hf5) rfl (news_of trivial) (by decide) (by simp [AV.ren, AV.rens, sigma, of_decide_eq_true hn6, of_decide_eq_true hn7]) (by simp [backOb, sigma, rens_f32, rens_f64, rens_i64, rens_ik, rens_str, rens_cp]) ?_
  refine ROps.l (r := AV.i64 r5) rfl rfl rfl (LOp.assign rfl rfl) ?_
  refine ROps.nil ?_
  refine RunC.wl (τ' := [(1, AV.i64 r5), (2, AV.ptr [AV.i64 a0, AV.i64 a1, AV.oref 0 0 0 a5.length, AV.oref 1 0 0 a6.length, AV.oref 2 0 0 a7.length, AV.oref 3 0 0 a8.length, AV.i64 a2, AV.i64 a3, AV.oref 4 0 0 a9.length])]) (Γ' := [⟨0, some (r2.map AV.f32)⟩, ⟨0, some (r4.map AV.f32)⟩, ⟨0, some (r6.map AV.f32)⟩, ⟨0, some (r7.map AV.f32)⟩, ⟨0, some (a9.map AV.i64)⟩]) ⟨(ALe.refl _), (ALe.refl _), trivial⟩ ⟨⟨rfl, .inr rfl⟩, ⟨rfl, .inr rfl⟩, ⟨rfl, .inr rfl⟩, ⟨rfl, .inr rfl⟩, ⟨rfl, .inr rfl⟩, trivial⟩ ?_
  refine RunC.seq ?_
  obtain ⟨r8, r9, hf8, h⟩ := obind2_some h
  obtain ⟨hn9, h⟩ := need_some h
  refine RunC.regionW ?_
  refine ROps.l (r := AV.ptr [AV.i64 a2, AV.i64 a3, AV.oref 4 0 0 a9.length]) rfl rfl rfl (LOp.fap und47 rfl siz45 rfl rfl rfl) ?_
  refine ROps.l (r := AV.agg [AV.i64 a2, AV.i64 a3, AV.oref 4 0 0 a9.length]) rfl rfl rfl (LOp.loadAgg agg45 siz45 rfl rfl rfl rfl) ?_
  refine ROps.l (r := AV.i64 r5) rfl rfl rfl (LOp.move rfl rfl) ?_
  refine ROps.callO (A := [AV.agg [AV.i64 a2, AV.i64 a3, AV.oref 4 0 0 a9.length], AV.i64 r5]) (args := [AV.agg [AV.i64 a2, AV.i64 a3, AV.oref 0 0 0 a9.length], AV.i64 r5]) (Γc := [⟨0, some (a9.map AV.i64)⟩]) (Γc' := [⟨0, some (r9.map AV.i64)⟩]) (r' := AV.i64 r8) (Γ' := [⟨0, some (r2.map AV.f32)⟩, ⟨0, some (r4.map AV.f32)⟩, ⟨0, some (r6.map AV.f32)⟩, ⟨0, some (r7.map AV.f32)⟩, ⟨0, some (r9.map AV.i64)⟩]) [(4, 0)] [] rfl (CallAs.func ent53 rfl rfl) rfl rfl (SelOk.of (by decide) (SelL.arr0 (f := AV.i64) (fun _ => rfl) rfl trivial)) (live_of ⟨⟨_, _, rfl⟩, trivial⟩) (by simp [AV.ren, AV.rens, sigma]) rfl (f53_1_ok a2 a3 r5 a9 r8 r9 hf8) rfl (news_of trivial) (by decide) (by simp [AV.ren, AV.rens, sigma, of_decide_eq_true hn9]) (by simp [backOb, sigma, rens_f32, rens_f64, rens_i64, rens_ik, rens_str, rens_cp]) ?_
  refine ROps.l (r := AV.i64 r8) rfl rfl rfl (LOp.assign rfl rfl) ?_
  refine ROps.nil ?_
  refine RunC.seq ?_
  refine RunC.regionW ?_
  refine ROps.l (r := AV.i64 r8) rfl rfl rfl (LOp.move rfl rfl) ?_
  refine ROps.l (r := AV.i64 r8) rfl rfl rfl (LOp.assign rfl rfl) ?_
  refine ROps.nil ?_
  refine RunC.ret ?_
  have hq := Option.some.inj h
  obtain ⟨hq0, hq⟩ := Prod.mk.inj hq
  obtain ⟨hq1, hq⟩ := Prod.mk.inj hq
  obtain ⟨hq2, hq⟩ := Prod.mk.inj hq
  obtain ⟨hq3, hq⟩ := Prod.mk.inj hq
  obtain ⟨hq4, hq⟩ := Prod.mk.inj hq
  subst q0
  subst q1
  subst q2
  subst q3
  subst q4
  subst q5
  exact bodyQ.mk (r' := AV.i64 r8) [(0, 0), (1, 0), (2, 0), (3, 0), (4, 0)] (.inr rfl) rfl (by decide) rfl rfl (Res.one rfl (RV.tmp rfl)) (SelL.arr (f := AV.f32) (fun _ => rfl) rfl (SelL.arr (f := AV.f32) (fun _ => rfl) rfl (SelL.arr (f := AV.f32) (fun _ => rfl) rfl (SelL.arr (f := AV.f32) (fun _ => rfl) rfl (SelL.arr (f := AV.i64) (fun _ => rfl) rfl trivial)))))
noncomputable def f54_b1 (a0 : List F) (v1 : Int) (v2 : Int) : Option (LR (Int × Int) (Int) (Int)) :=
  bsel (decide (v2 < (a0.length : Int))) (
    obind (at? a0 v2) fun (e3 : F) =>
    olet (fint .f32 v1) fun (x4 : F) =>
    bsel (!feq .f32 e3 x4) (
      some (LR.ret (-1))) (
      olet (IntKind.i64.wrap (v1 + 1)) fun (x5 : Int) =>
      olet (IntKind.i64.wrap (v2 + 1)) fun (x6 : Int) =>
      some (LR.next (x5, x6)))) (
    some (LR.out v1))
noncomputable def f54_s1 (a0 : List F) : (Int × Int) → Option (LR (Int × Int) (Int) (Int)) := fun s => f54_b1 a0 s.1 s.2
noncomputable def f54_k1 (v7 : Int) : Option (Int) :=
  some v7
noncomputable def f54 (a0 : List F) (a1 : Int) : Option (Int) :=
  obind (loopM (f54_s1 a0) (a1, 0)) fun z => osum z (fun e => f54_k1 e) (fun r => some r)
theorem f54_ok (a0 : List F) (a1 : Int) (q0 : Int) (h : f54 a0 a1 = some q0) : Ev Try.prog 54 [AV.sl a0.length (a0.map AV.f32), AV.i64 a1] [] (AV.i64 q0) [] := by
  refine Ev.start Try.func54 rfl rfl 0 (τ := [(0, AV.sl a0.length (a0.map AV.f32)), (1, AV.i64 a1)]) rfl (Γ' := []) rfl (n := 22) rfl (g := 0) rfl ?_
  unfold f54 at h
  refine RunC.seq ?_
  refine RunC.regionW ?_
  refine ROps.l (r := AV.i64 0) rfl rfl rfl (LOp.assign rfl rfl) ?_
  refine ROps.nil ?_
  refine RunC.seq ?_
  refine RunC.seq ?_
  refine RunC.regionW ?_
  refine ROps.l (r := AV.i64 0) rfl rfl rfl (LOp.assign rfl rfl) ?_
  refine ROps.nil ?_
  obtain ⟨z2, hz_2, h⟩ := obind_some h
  refine RunC.cutN (fun τ Γ => ∃ (v7 : Int), WeakLe τ [(1, AV.i64 v7)] ∧ DeadLe Γ [] ∧ z2 = .inl v7) ?_ ?_
  · refine RunC.block (RunC.loop (RunL.loopM (x := z2) (f54_s1 a0) (fun (s : Int × Int) τ Γ => WeakLe τ [(0, AV.sl a0.length (a0.map AV.f32)), (1, AV.i64 s.1), (5, AV.i64 s.2)] ∧ DeadLe Γ []) ?_ _ _ _ hz_2 ⟨⟨(ALe.refl _), (ALe.refl _), (ALe.refl _), trivial⟩, trivial⟩))
    rintro ⟨v1, v2⟩ τ2 Γ2 y2_ ⟨hw2, hd2⟩ h2_ ho2 hr2
    refine RunC.wl (τ' := [(0, AV.sl a0.length (a0.map AV.f32)), (1, AV.i64 v1), (5, AV.i64 v2)]) (Γ' := []) hw2 hd2 ?_
    replace h2_ : f54_b1 a0 v1 v2 = some y2_ := h2_
    unfold f54_b1 at h2_
    refine RunC.seq ?_
    refine RunC.seq ?_
    rcases bsel_some h2_ with ⟨hc1, h2_⟩ | ⟨hc1, h2_⟩
    · refine RunC.regionW ?_
      refine ROps.l (r := AV.i64 v2) rfl rfl rfl (LOp.move rfl rfl) ?_
      refine ROps.l (r := AV.sl a0.length (a0.map AV.f32)) rfl rfl rfl (LOp.move rfl rfl) ?_
      refine ROps.l (r := AV.i64 (a0.length : Int)) rfl rfl rfl (LOp.len_sl und38 rfl rfl) ?_
      refine ROps.l (r := AV.b true) rfl rfl rfl (LOp.eqb (LOp.lss rfl rfl rfl) hc1) ?_
      refine ROps.nil ?_
      refine RunC.cond_true rfl rfl ?_
      refine RunC.skip ?_
      refine RunC.seq ?_
      refine RunC.block ?_
      refine RunC.seq ?_
      refine RunC.seq ?_
      obtain ⟨e3, he2, h2_⟩ := obind_some h2_
      obtain ⟨x4, hx3, h2_⟩ := olet_some h2_
      rcases bsel_some h2_ with ⟨hc4, h2_⟩ | ⟨hc4, h2_⟩
      · refine RunC.regionW ?_
        refine ROps.l (r := AV.sl a0.length (a0.map AV.f32)) rfl rfl rfl (LOp.move rfl rfl) ?_
        refine ROps.l (r := AV.i64 v2) rfl rfl rfl (LOp.move rfl rfl) ?_
        refine ROps.l (r := AV.ptr [AV.f32 e3]) rfl rfl rfl (LOp.le (LOp.ix (f := AV.f32) und38 siz34 rfl rfl rfl rfl he2) ALe.ptr) ?_
        refine ROps.l (r := AV.f32 e3) rfl rfl rfl (LOp.load1 agg34 rfl rfl) ?_
        refine ROps.l (r := AV.i64 v1) rfl rfl rfl (LOp.move rfl rfl) ?_
        refine ROps.l (r := AV.f32 x4) rfl rfl rfl (LOp.eqr (LOp.i2f (src := 3) (dst := 34) ⟨_, pun3⟩ pun34 rfl rfl) (congrArg (AV.f .f32) hx3)) ?_
        refine ROps.l (r := AV.b true) rfl rfl rfl (LOp.eqb (LOp.fne rfl (OpF.tmp rfl) (OpF.tmp rfl)) hc4) ?_
        refine ROps.nil ?_
        refine RunC.cond_true rfl rfl ?_
        refine RunC.seq ?_
        refine RunC.regionW ?_
        refine ROps.l (r := AV.i64 (-1)) rfl rfl rfl (LOp.assign rfl rfl) ?_
        refine ROps.nil ?_
        refine RunC.ret ?_
        cases Option.some.inj h2_
        have hx3_ := hr2 _ rfl
        subst hx3_
        have hq := Option.some.inj h
        subst q0
        exact bodyQ.pure (.inr rfl) rfl (Res.one rfl (RV.tmp rfl))
      · refine RunC.regionW ?_
        refine ROps.l (r := AV.sl a0.length (a0.map AV.f32)) rfl rfl rfl (LOp.move rfl rfl) ?_
        refine ROps.l (r := AV.i64 v2) rfl rfl rfl (LOp.move rfl rfl) ?_
        refine ROps.l (r := AV.ptr [AV.f32 e3]) rfl rfl rfl (LOp.le (LOp.ix (f := AV.f32) und38 siz34 rfl rfl rfl rfl he2) ALe.ptr) ?_
        refine ROps.l (r := AV.f32 e3) rfl rfl rfl (LOp.load1 agg34 rfl rfl) ?_
        refine ROps.l (r := AV.i64 v1) rfl rfl rfl (LOp.move rfl rfl) ?_
        refine ROps.l (r := AV.f32 x4) rfl rfl rfl (LOp.eqr (LOp.i2f (src := 3) (dst := 34) ⟨_, pun3⟩ pun34 rfl rfl) (congrArg (AV.f .f32) hx3)) ?_
        refine ROps.l (r := AV.b false) rfl rfl rfl (LOp.eqb (LOp.fne rfl (OpF.tmp rfl) (OpF.tmp rfl)) hc4) ?_
        refine ROps.nil ?_
        refine RunC.cond_false rfl rfl ?_
        refine RunC.skip ?_
        obtain ⟨x5, hx5, h2_⟩ := olet_some h2_
        refine RunC.regionW ?_
        refine ROps.l (r := AV.i64 v1) rfl rfl rfl (LOp.move rfl rfl) ?_
        refine ROps.l (r := AV.i64 x5) rfl rfl rfl (LOp.eqr (LOp.add rfl rfl rfl) (congrArg (AV.ik .i64) hx5)) ?_
        refine ROps.l (r := AV.i64 x5) rfl rfl rfl (LOp.assign rfl rfl) ?_
        refine ROps.nil ?_
        refine RunC.wl (τ' := [(0, AV.sl a0.length (a0.map AV.f32)), (1, AV.i64 x5), (5, AV.i64 v2)]) (Γ' := []) ⟨(ALe.refl _), (ALe.refl _), (ALe.refl _), trivial⟩ trivial ?_
        obtain ⟨x6, hx6, h2_⟩ := olet_some h2_
        refine RunC.regionW ?_
        refine ROps.l (r := AV.i64 v2) rfl rfl rfl (LOp.move rfl rfl) ?_
        refine ROps.l (r := AV.i64 x6) rfl rfl rfl (LOp.eqr (LOp.add rfl rfl rfl) (congrArg (AV.ik .i64) hx6)) ?_
        refine ROps.l (r := AV.i64 x6) rfl rfl rfl (LOp.assign rfl rfl) ?_
        refine ROps.nil ?_
        cases Option.some.inj h2_
        exact ⟨_, rfl, ⟨(ALe.refl _), (ALe.refl _), (ALe.refl _), trivial⟩, trivial⟩
    · refine RunC.regionW ?_
      refine ROps.l (r := AV.i64 v2) rfl rfl rfl (LOp.move rfl rfl) ?_
      refine ROps.l (r := AV.sl a0.length (a0.map AV.f32)) rfl rfl rfl (LOp.move rfl rfl) ?_
      refine ROps.l (r := AV.i64 (a0.length : Int)) rfl rfl rfl (LOp.len_sl und38 rfl rfl) ?_
      refine ROps.l (r := AV.b false) rfl rfl rfl (LOp.eqb (LOp.lss rfl rfl rfl) hc1) ?_
      refine ROps.nil ?_
      refine RunC.cond_false rfl rfl ?_
      refine RunC.exit ?_
      cases Option.some.inj h2_
      have hx := ho2 _ rfl
      exact ⟨v1, ⟨(ALe.refl _), trivial⟩, trivial, hx⟩
  · rintro τ4 Γ4 ⟨v7, hw4, hd4, rfl⟩
    refine RunC.wl (τ' := [(1, AV.i64 v7)]) (Γ' := []) hw4 hd4 ?_
    replace h : f54_k1 v7 = some q0 := h
    unfold f54_k1 at h
    refine RunC.seq ?_
    refine RunC.regionW ?_
    refine ROps.l (r := AV.i64 v7) rfl rfl rfl (LOp.move rfl rfl) ?_
    refine ROps.l (r := AV.i64 v7) rfl rfl rfl (LOp.assign rfl rfl) ?_
    refine ROps.nil ?_
    refine RunC.ret ?_
    have hq := Option.some.inj h
    subst q0
    exact bodyQ.pure (.inr rfl) rfl (Res.one rfl (RV.tmp rfl))
noncomputable def f30 (a0 : Int) (a1 : Int) (a2 : List F) (a3 : Int) : Option (Int) :=
  obind (f54 a2 a3) fun (r1 : Int) =>
  bsel (decide (r1 < 0)) (
    some (-1)) (
    some r1)
theorem f30_ok (a0 : Int) (a1 : Int) (a2 : List F) (a3 : Int) (q0 : Int) (h : f30 a0 a1 a2 a3 = some q0) : Ev Try.prog 30 [AV.agg [AV.i64 a0, AV.i64 a1, AV.sl a2.length (a2.map AV.f32)], AV.i64 a3] [] (AV.i64 q0) [] := by
  refine Ev.start Try.func30 rfl rfl 0 (τ := [(0, AV.agg [AV.i64 a0, AV.i64 a1, AV.sl a2.length (a2.map AV.f32)]), (1, AV.i64 a3)]) rfl (Γ' := []) rfl (n := 12) rfl (g := 0) rfl ?_
  unfold f30 at h
  refine RunC.seq ?_
  refine RunC.regionW ?_
  refine ROps.d (r := AV.ptr [AV.i64 a0, AV.i64 a1, AV.sl a2.length (a2.map AV.f32)]) (fs := []) (Γ' := []) rfl rfl rfl (TOp.box_s rfl rfl rfl) rfl ?_
  refine ROps.l (r := AV.i64 0) rfl rfl rfl (LOp.assign rfl rfl) ?_
  refine ROps.nil ?_
  refine RunC.seq ?_
  obtain ⟨r1, hf1, h⟩ := obind_some h
  refine RunC.regionW ?_
  refine ROps.l (r := AV.ptr [AV.sl a2.length (a2.map AV.f32)]) rfl rfl rfl (LOp.fap und40 rfl siz38 rfl rfl rfl) ?_
  refine ROps.l (r := AV.sl a2.length (a2.map AV.f32)) rfl rfl rfl (LOp.load1 agg38 rfl rfl) ?_
  refine ROps.l (r := AV.i64 a3) rfl rfl rfl (LOp.move rfl rfl) ?_
  refine ROps.d (r := AV.i64 r1) (fs := []) (Γ' := []) rfl rfl rfl (TOp.callB (CallAs.func ent54 rfl rfl) (Bors.cons (Bor.sl (fun _ => rfl)) (Bors.cons (Bor.pure rfl) Bors.nil)) rfl rfl (f54_ok a2 a3 r1 hf1)) rfl ?_
  refine ROps.l (r := AV.i64 r1) rfl rfl rfl (LOp.assign rfl rfl) ?_
  refine ROps.nil ?_
  refine RunC.seq ?_
  refine RunC.seq ?_
  rcases bsel_some h with ⟨hc2, h⟩ | ⟨hc2, h⟩
  · refine RunC.regionW ?_
    refine ROps.l (r := AV.i64 r1) rfl rfl rfl (LOp.move rfl rfl) ?_
    refine ROps.l (r := AV.b true) rfl rfl rfl (LOp.eqb (LOp.lss rfl rfl rfl) hc2) ?_
    refine ROps.nil ?_
    refine RunC.cond_true rfl rfl ?_
    refine RunC.seq ?_
    refine RunC.regionW ?_
    refine ROps.l (r := AV.i64 (-1)) rfl rfl rfl (LOp.assign rfl rfl) ?_
    refine ROps.nil ?_
    refine RunC.ret ?_
    have hq := Option.some.inj h
    subst q0
    exact bodyQ.pure (.inr rfl) rfl (Res.one rfl (RV.tmp rfl))
  · refine RunC.regionW ?_
    refine ROps.l (r := AV.i64 r1) rfl rfl rfl (LOp.move rfl rfl) ?_
    refine ROps.l (r := AV.b false) rfl rfl rfl (LOp.eqb (LOp.lss rfl rfl rfl) hc2) ?_
    refine ROps.nil ?_
    refine RunC.cond_false rfl rfl ?_
    refine RunC.skip ?_
    refine RunC.seq ?_
    refine RunC.regionW ?_
    refine ROps.l (r := AV.i64 r1) rfl rfl rfl (LOp.move rfl rfl) ?_
    refine ROps.l (r := AV.i64 r1) rfl rfl rfl (LOp.assign rfl rfl) ?_
    refine ROps.nil ?_
    refine RunC.ret ?_
    have hq := Option.some.inj h
    subst q0
    exact bodyQ.pure (.inr rfl) rfl (Res.one rfl (RV.tmp rfl))
noncomputable def f55 (a0 : List F) (a1 : List F) (a2 : Int) : Option (Int) :=
  obind (f54 a0 a2) fun (r1 : Int) =>
  bsel (decide (r1 < 0)) (
    some (-1)) (
    obind (f54 a1 r1) fun (r2 : Int) =>
    bsel (decide (r2 < 0)) (
      some (-1)) (
      some r2))
theorem f55_ok (a0 : List F) (a1 : List F) (a2 : Int) (q0 : Int) (h : f55 a0 a1 a2 = some q0) : Ev Try.prog 55 [AV.agg [AV.sl a0.length (a0.map AV.f32), AV.sl a1.length (a1.map AV.f32)], AV.i64 a2] [] (AV.i64 q0) [] := by
  refine Ev.start Try.func55 rfl rfl 0 (τ := [(0, AV.agg [AV.sl a0.length (a0.map AV.f32), AV.sl a1.length (a1.map AV.f32)]), (1, AV.i64 a2)]) rfl (Γ' := []) rfl (n := 18) rfl (g := 0) rfl ?_
  unfold f55 at h
  refine RunC.seq ?_
  refine RunC.regionW ?_
  refine ROps.d (r := AV.ptr [AV.sl a0.length (a0.map AV.f32), AV.sl a1.length (a1.map AV.f32)]) (fs := []) (Γ' := []) rfl rfl rfl (TOp.box_s rfl rfl rfl) rfl ?_
  refine ROps.l (r := AV.i64 0) rfl rfl rfl (LOp.assign rfl rfl) ?_
  refine ROps.nil ?_
  refine RunC.seq ?_
  obtain ⟨r1, hf1, h⟩ := obind_some h
  refine RunC.regionW ?_
  refine ROps.l (r := AV.ptr [AV.sl a0.length (a0.map AV.f32), AV.sl a1.length (a1.map AV.f32)]) rfl rfl rfl (LOp.fap und42 rfl siz38 rfl rfl rfl) ?_
  refine ROps.l (r := AV.sl a0.length (a0.map AV.f32)) rfl rfl rfl (LOp.load1 agg38 rfl rfl) ?_
  refine ROps.l (r := AV.i64 a2) rfl rfl rfl (LOp.move rfl rfl) ?_
  refine ROps.d (r := AV.i64 r1) (fs := []) (Γ' := []) rfl rfl rfl (TOp.callB (CallAs.func ent54 rfl rfl) (Bors.cons (Bor.sl (fun _ => rfl)) (Bors.cons (Bor.pure rfl) Bors.nil)) rfl rfl (f54_ok a0 a2 r1 hf1)) rfl ?_
  refine ROps.l (r := AV.i64 r1) rfl rfl rfl (LOp.assign rfl rfl) ?_
  refine ROps.nil ?_
  refine RunC.seq ?_
  refine RunC.seq ?_
  rcases bsel_some h with ⟨hc2, h⟩ | ⟨hc2, h⟩
  · refine RunC.regionW ?_
    refine ROps.l (r := AV.i64 r1) rfl rfl rfl (LOp.move rfl rfl) ?_
    refine ROps.l (r := AV.b true) rfl rfl rfl (LOp.eqb (LOp.lss rfl rfl rfl) hc2) ?_
    refine ROps.nil ?_
    refine RunC.cond_true rfl rfl ?_
    refine RunC.seq ?_
    refine RunC.regionW ?_
    refine ROps.l (r := AV.i64 (-1)) rfl rfl rfl (LOp.assign rfl rfl) ?_
    refine ROps.nil ?_
    refine RunC.ret ?_
    have hq := Option.some.inj h
    subst q0
    exact bodyQ.pure (.inr rfl) rfl (Res.one rfl (RV.tmp rfl))
  · refine RunC.regionW ?_
    refine ROps.l (r := AV.i64 r1) rfl rfl rfl (LOp.move rfl rfl) ?_
    refine ROps.l (r := AV.b false) rfl rfl rfl (LOp.eqb (LOp.lss rfl rfl rfl) hc2) ?_
    refine ROps.nil ?_
    refine RunC.cond_false rfl rfl ?_
    refine RunC.skip ?_
    refine RunC.seq ?_
    obtain ⟨r2, hf3, h⟩ := obind_some h
    refine RunC.regionW ?_
    refine ROps.l (r := AV.ptr [AV.sl a1.length (a1.map AV.f32)]) rfl rfl rfl (LOp.fap und42 rfl siz38 rfl rfl rfl) ?_
    refine ROps.l (r := AV.sl a1.length (a1.map AV.f32)) rfl rfl rfl (LOp.load1 agg38 rfl rfl) ?_
    refine ROps.l (r := AV.i64 r1) rfl rfl rfl (LOp.move rfl rfl) ?_
    refine ROps.d (r := AV.i64 r2) (fs := []) (Γ' := []) rfl rfl rfl (TOp.callB (CallAs.func ent54 rfl rfl) (Bors.cons (Bor.sl (fun _ => rfl)) (Bors.cons (Bor.pure rfl) Bors.nil)) rfl rfl (f54_ok a1 r1 r2 hf3)) rfl ?_
    refine ROps.l (r := AV.i64 r2) rfl rfl rfl (LOp.assign rfl rfl) ?_
    refine ROps.nil ?_
    refine RunC.wl (τ' := [(1, AV.i64 r2)]) (Γ' := []) ⟨(ALe.refl _), trivial⟩ trivial ?_
    refine RunC.seq ?_
    refine RunC.seq ?_
    rcases bsel_some h with ⟨hc4, h⟩ | ⟨hc4, h⟩
    · refine RunC.regionW ?_
      refine ROps.l (r := AV.i64 r2) rfl rfl rfl (LOp.move rfl rfl) ?_
      refine ROps.l (r := AV.b true) rfl rfl rfl (LOp.eqb (LOp.lss rfl rfl rfl) hc4) ?_
      refine ROps.nil ?_
      refine RunC.cond_true rfl rfl ?_
      refine RunC.seq ?_
      refine RunC.regionW ?_
      refine ROps.l (r := AV.i64 (-1)) rfl rfl rfl (LOp.assign rfl rfl) ?_
      refine ROps.nil ?_
      refine RunC.ret ?_
      have hq := Option.some.inj h
      subst q0
      exact bodyQ.pure (.inr rfl) rfl (Res.one rfl (RV.tmp rfl))
    · refine RunC.regionW ?_
      refine ROps.l (r := AV.i64 r2) rfl rfl rfl (LOp.move rfl rfl) ?_
      refine ROps.l (r := AV.b false) rfl rfl rfl (LOp.eqb (LOp.lss rfl rfl rfl) hc4) ?_
      refine ROps.nil ?_
      refine RunC.cond_false rfl rfl ?_
      refine RunC.skip ?_
      refine RunC.seq ?_
      refine RunC.regionW ?_
      refine ROps.l (r := AV.i64 r2) rfl rfl rfl (LOp.move rfl rfl) ?_
      refine ROps.l (r := AV.i64 r2) rfl rfl rfl (LOp.assign rfl rfl) ?_
      refine ROps.nil ?_
      refine RunC.ret ?_
      have hq := Option.some.inj h
      subst q0
      exact bodyQ.pure (.inr rfl) rfl (Res.one rfl (RV.tmp rfl))
noncomputable def f96_b1 (a0 : List Int) (v1 : Int) (v2 : Int) : Option (LR (Int × Int) (Int) (Int)) :=
  bsel (decide (v2 < (a0.length : Int))) (
    obind (at? a0 v2) fun (e3 : Int) =>
    bsel (!decide (e3 = v1)) (
      some (LR.ret (-1))) (
      olet (IntKind.i64.wrap (v1 + 1)) fun (x4 : Int) =>
      olet (IntKind.i64.wrap (v2 + 1)) fun (x5 : Int) =>
      some (LR.next (x4, x5)))) (
    some (LR.out v1))
noncomputable def f96_s1 (a0 : List Int) : (Int × Int) → Option (LR (Int × Int) (Int) (Int)) := fun s => f96_b1 a0 s.1 s.2
noncomputable def f96_k1 (v6 : Int) : Option (Int) :=
  some v6
noncomputable def f96 (a0 : List Int) (a1 : Int) : Option (Int) :=
  obind (loopM (f96_s1 a0) (a1, 0)) fun z => osum z (fun e => f96_k1 e) (fun r => some r)
theorem f96_ok (a0 : List Int) (a1 : Int) (q0 : Int) (h : f96 a0 a1 = some q0) : Ev Try.prog 96 [AV.sl a0.length (a0.map AV.i64), AV.i64 a1] [] (AV.i64 q0) [] := by
  refine Ev.start Try.func96 rfl rfl 0 (τ := [(0, AV.sl a0.length (a0.map AV.i64)), (1, AV.i64 a1)]) rfl (Γ' := []) rfl (n := 21) rfl (g := 0) rfl ?_
  unfold f96 at h
  refine RunC.seq ?_
  refine RunC.regionW ?_
  refine ROps.l (r := AV.i64 0) rfl rfl rfl (LOp.assign rfl rfl) ?_
  refine ROps.nil ?_
  refine RunC.seq ?_
  refine RunC.seq ?_
  refine RunC.regionW ?_
  refine ROps.l (r := AV.i64 0) rfl rfl rfl (LOp.assign rfl rfl) ?_
  refine ROps.nil ?_
  obtain ⟨z2, hz_2, h⟩ := obind_some h
  refine RunC.cutN (fun τ Γ => ∃ (v6 : Int), WeakLe τ [(1, AV.i64 v6)] ∧ DeadLe Γ [] ∧ z2 = .inl v6) ?_ ?_
  · refine RunC.block (RunC.loop (RunL.loopM (x := z2) (f96_s1 a0) (fun (s : Int × Int) τ Γ => WeakLe τ [(0, AV.sl a0.length (a0.map AV.i64)), (1, AV.i64 s.1), (5, AV.i64 s.2)] ∧ DeadLe Γ []) ?_ _ _ _ hz_2 ⟨⟨(ALe.refl _), (ALe.refl _), (ALe.refl _), trivial⟩, trivial⟩))
    rintro ⟨v1, v2⟩ τ2 Γ2 y2_ ⟨hw2, hd2⟩ h2_ ho2 hr2
    refine RunC.wl (τ' := [(0, AV.sl a0.length (a0.map AV.i64)), (1, AV.i64 v1), (5, AV.i64 v2)]) (Γ' := []) hw2 hd2 ?_
    replace h2_ : f96_b1 a0 v1 v2 = some y2_ := h2_
    unfold f96_b1 at h2_
    refine RunC.seq ?_
    refine RunC.seq ?_
    rcases bsel_some h2_ with ⟨hc1, h2_⟩ | ⟨hc1, h2_⟩
    · refine RunC.regionW ?_
      refine ROps.l (r := AV.i64 v2) rfl rfl rfl (LOp.move rfl rfl) ?_
      refine ROps.l (r := AV.sl a0.length (a0.map AV.i64)) rfl rfl rfl (LOp.move rfl rfl) ?_
      refine ROps.l (r := AV.i64 (a0.length : Int)) rfl rfl rfl (LOp.len_sl und43 rfl rfl) ?_
      refine ROps.l (r := AV.b true) rfl rfl rfl (LOp.eqb (LOp.lss rfl rfl rfl) hc1) ?_
      refine ROps.nil ?_
      refine RunC.cond_true rfl rfl ?_
      refine RunC.skip ?_
      refine RunC.seq ?_
      refine RunC.block ?_
      refine RunC.seq ?_
      refine RunC.seq ?_
      obtain ⟨e3, he2, h2_⟩ := obind_some h2_
      rcases bsel_some h2_ with ⟨hc3, h2_⟩ | ⟨hc3, h2_⟩
      · refine RunC.regionW ?_
        refine ROps.l (r := AV.sl a0.length (a0.map AV.i64)) rfl rfl rfl (LOp.move rfl rfl) ?_
        refine ROps.l (r := AV.i64 v2) rfl rfl rfl (LOp.move rfl rfl) ?_
        refine ROps.l (r := AV.ptr [AV.i64 e3]) rfl rfl rfl (LOp.le (LOp.ix (f := AV.i64) und43 siz2 rfl rfl rfl rfl he2) ALe.ptr) ?_
        refine ROps.l (r := AV.i64 e3) rfl rfl rfl (LOp.load1 agg2 rfl rfl) ?_
        refine ROps.l (r := AV.i64 v1) rfl rfl rfl (LOp.move rfl rfl) ?_
        refine ROps.l (r := AV.b true) rfl rfl rfl (LOp.eqb (LOp.neq rfl rfl rfl) hc3) ?_
        refine ROps.nil ?_
        refine RunC.cond_true rfl rfl ?_
        refine RunC.seq ?_
        refine RunC.regionW ?_
        refine ROps.l (r := AV.i64 (-1)) rfl rfl rfl (LOp.assign rfl rfl) ?_
        refine ROps.nil ?_
        refine RunC.ret ?_
        cases Option.some.inj h2_
        have hx3_ := hr2 _ rfl
        subst hx3_
        have hq := Option.some.inj h
        subst q0
        exact bodyQ.pure (.inr rfl) rfl (Res.one rfl (RV.tmp rfl))
      · refine RunC.regionW ?_
        refine ROps.l (r := AV.sl a0.length (a0.map AV.i64)) rfl rfl rfl (LOp.move rfl rfl) ?_
        refine ROps.l (r := AV.i64 v2) rfl rfl rfl (LOp.move rfl rfl) ?_
        refine ROps.l (r := AV.ptr [AV.i64 e3]) rfl rfl rfl (LOp.le (LOp.ix (f := AV.i64) und43 siz2 rfl rfl rfl rfl he2) ALe.ptr) ?_
        refine ROps.l (r := AV.i64 e3) rfl rfl rfl (LOp.load1 agg2 rfl rfl) ?_
        refine ROps.l (r := AV.i64 v1) rfl rfl rfl (LOp.move rfl rfl) ?_
        refine ROps.l (r := AV.b false) rfl rfl rfl (LOp.eqb (LOp.neq rfl rfl rfl) hc3) ?_
        refine ROps.nil ?_
        refine RunC.cond_false rfl rfl ?_
        refine RunC.skip ?_
        obtain ⟨x4, hx4, h2_⟩ := olet_some h2_
        refine RunC.regionW ?_
        refine ROps.l (r := AV.i64 v1) rfl rfl rfl (LOp.move rfl rfl) ?_
        refine ROps.l (r := AV.i64 x4) rfl rfl rfl (LOp.eqr (LOp.add rfl rfl rfl) (congrArg (AV.ik .i64) hx4)) ?_
        refine ROps.l (r := AV.i64 x4) rfl rfl rfl (LOp.assign rfl rfl) ?_
        refine ROps.nil ?_
        obtain ⟨x5, hx5, h2_⟩ := olet_some h2_
        refine RunC.regionW ?_
        refine ROps.l (r := AV.i64 v2) rfl rfl rfl (LOp.move rfl rfl) ?_
        refine ROps.l (r := AV.i64 x5) rfl rfl rfl (LOp.eqr (LOp.add rfl rfl rfl) (congrArg (AV.ik .i64) hx5)) ?_
        refine ROps.l (r := AV.i64 x5) rfl rfl rfl (LOp.assign rfl rfl) ?_
        refine ROps.nil ?_
        cases Option.some.inj h2_
        exact ⟨_, rfl, ⟨(ALe.refl _), (ALe.refl _), (ALe.refl _), trivial⟩, trivial⟩
    · refine RunC.regionW ?_
      refine ROps.l (r := AV.i64 v2) rfl rfl rfl (LOp.move rfl rfl) ?_
      refine ROps.l (r := AV.sl a0.length (a0.map AV.i64)) rfl rfl rfl (LOp.move rfl rfl) ?_
      refine ROps.l (r := AV.i64 (a0.length : Int)) rfl rfl rfl (LOp.len_sl und43 rfl rfl) ?_
      refine ROps.l (r := AV.b false) rfl rfl rfl (LOp.eqb (LOp.lss rfl rfl rfl) hc1) ?_
      refine ROps.nil ?_
      refine RunC.cond_false rfl rfl ?_
      refine RunC.exit ?_
      cases Option.some.inj h2_
      have hx := ho2 _ rfl
      exact ⟨v1, ⟨(ALe.refl _), trivial⟩, trivial, hx⟩
  · rintro τ4 Γ4 ⟨v6, hw4, hd4, rfl⟩
    refine RunC.wl (τ' := [(1, AV.i64 v6)]) (Γ' := []) hw4 hd4 ?_
    replace h : f96_k1 v6 = some q0 := h
    unfold f96_k1 at h
    refine RunC.seq ?_
    refine RunC.regionW ?_
    refine ROps.l (r := AV.i64 v6) rfl rfl rfl (LOp.move rfl rfl) ?_
    refine ROps.l (r := AV.i64 v6) rfl rfl rfl (LOp.assign rfl rfl) ?_
    refine ROps.nil ?_
    refine RunC.ret ?_
    have hq := Option.some.inj h
    subst q0
    exact bodyQ.pure (.inr rfl) rfl (Res.one rfl (RV.tmp rfl))
noncomputable def f56 (a0 : Int) (a1 : Int) (a2 : List Int) (a3 : Int) : Option (Int) :=
  obind (f96 a2 a3) fun (r1 : Int) =>
  bsel (decide (r1 < 0)) (
    some (-1)) (
    some r1)
theorem f56_ok (a0 : Int) (a1 : Int) (a2 : List Int) (a3 : Int) (q0 : Int) (h : f56 a0 a1 a2 a3 = some q0) : Ev Try.prog 56 [AV.agg [AV.i64 a0, AV.i64 a1, AV.sl a2.length (a2.map AV.i64)], AV.i64 a3] [] (AV.i64 q0) [] := by
  refine Ev.start Try.func56 rfl rfl 0 (τ := [(0, AV.agg [AV.i64 a0, AV.i64 a1, AV.sl a2.length (a2.map AV.i64)]), (1, AV.i64 a3)]) rfl (Γ' := []) rfl (n := 12) rfl (g := 0) rfl ?_
  unfold f56 at h
  refine RunC.seq ?_
  refine RunC.regionW ?_
  refine ROps.d (r := AV.ptr [AV.i64 a0, AV.i64 a1, AV.sl a2.length (a2.map AV.i64)]) (fs := []) (Γ' := []) rfl rfl rfl (TOp.box_s rfl rfl rfl) rfl ?_
  refine ROps.l (r := AV.i64 0) rfl rfl rfl (LOp.assign rfl rfl) ?_
  refine ROps.nil ?_
  refine RunC.seq ?_
  obtain ⟨r1, hf1, h⟩ := obind_some h
  refine RunC.regionW ?_
  refine ROps.l (r := AV.ptr [AV.sl a2.length (a2.map AV.i64)]) rfl rfl rfl (LOp.fap und45 rfl siz43 rfl rfl rfl) ?_
  refine ROps.l (r := AV.sl a2.length (a2.map AV.i64)) rfl rfl rfl (LOp.load1 agg43 rfl rfl) ?_
  refine ROps.l (r := AV.i64 a3) rfl rfl rfl (LOp.move rfl rfl) ?_
  refine ROps.d (r := AV.i64 r1) (fs := []) (Γ' := []) rfl rfl rfl (TOp.callB (CallAs.func ent96 rfl rfl) (Bors.cons (Bor.sl (fun _ => rfl)) (Bors.cons (Bor.pure rfl) Bors.nil)) rfl rfl (f96_ok a2 a3 r1 hf1)) rfl ?_
  refine ROps.l (r := AV.i64 r1) rfl rfl rfl (LOp.assign rfl rfl) ?_
  refine ROps.nil ?_
  refine RunC.seq ?_
  refine RunC.seq ?_
  rcases bsel_some h with ⟨hc2, h⟩ | ⟨hc2, h⟩
  · refine RunC.regionW ?_
    refine ROps.l (r := AV.i64 r1) rfl rfl rfl (LOp.move rfl rfl) ?_
    refine ROps.l (r := AV.b true) rfl rfl rfl (LOp.eqb (LOp.lss rfl rfl rfl) hc2) ?_
    refine ROps.nil ?_
    refine RunC.cond_true rfl rfl ?_
    refine RunC.seq ?_
    refine RunC.regionW ?_
    refine ROps.l (r := AV.i64 (-1)) rfl rfl rfl (LOp.assign rfl rfl) ?_
    refine ROps.nil ?_
    refine RunC.ret ?_
    have hq := Option.some.inj h
    subst q0
    exact bodyQ.pure (.inr rfl) rfl (Res.one rfl (RV.tmp rfl))
  · refine RunC.regionW ?_
    refine ROps.l (r := AV.i64 r1) rfl rfl rfl (LOp.move rfl rfl) ?_
    refine ROps.l (r := AV.b false) rfl rfl rfl (LOp.eqb (LOp.lss rfl rfl rfl) hc2) ?_
    refine ROps.nil ?_
    refine RunC.cond_false rfl rfl ?_
    refine RunC.skip ?_
    refine RunC.seq ?_
    refine RunC.regionW ?_
    refine ROps.l (r := AV.i64 r1) rfl rfl rfl (LOp.move rfl rfl) ?_
    refine ROps.l (r := AV.i64 r1) rfl rfl rfl (LOp.assign rfl rfl) ?_
    refine ROps.nil ?_
    refine RunC.ret ?_
    have hq := Option.some.inj h
    subst q0
    exact bodyQ.pure (.inr rfl) rfl (Res.one rfl (RV.tmp rfl))
noncomputable def f23 (a0 : Int) (a1 : Int) (a2 : List F) (a3 : List F) (a4 : List F) (a5 : List F) (a6 : Int) (a7 : Int) (a8 : List Int) (a9 : Int) : Option (Int) :=
  obind (f30 a0 a1 a2 a9) fun (r1 : Int) =>
  bsel (decide (r1 < 0)) (
    some (-1)) (
    obind (f54 a3 r1) fun (r2 : Int) =>
    bsel (decide (r2 < 0)) (
      some (-1)) (
      obind (f55 a4 a5 r2) fun (r3 : Int) =>
      bsel (decide (r3 < 0)) (
        some (-1)) (
        obind (f56 a6 a7 a8 r3) fun (r4 : Int) =>
        bsel (decide (r4 < 0)) (
          some (-1)) (
          some r4))))
theorem f23_ok (a0 : Int) (a1 : Int) (a2 : List F) (a3 : List F) (a4 : List F) (a5 : List F) (a6 : Int) (a7 : Int) (a8 : List Int) (a9 : Int) (q0 : Int) (h : f23 a0 a1 a2 a3 a4 a5 a6 a7 a8 a9 = some q0) : Ev Try.prog 23 [AV.agg [AV.i64 a0, AV.i64 a1, AV.sl a2.length (a2.map AV.f32), AV.sl a3.length (a3.map AV.f32), AV.sl a4.length (a4.map AV.f32), AV.sl a5.length (a5.map AV.f32), AV.i64 a6, AV.i64 a7, AV.sl a8.length (a8.map AV.i64)], AV.i64 a9] [] (AV.i64 q0) [] := by
  refine Ev.start Try.func23 rfl rfl 0 (τ := [(0, AV.agg [AV.i64 a0, AV.i64 a1, AV.sl a2.length (a2.map AV.f32), AV.sl a3.length (a3.map AV.f32), AV.sl a4.length (a4.map AV.f32), AV.sl a5.length (a5.map AV.f32), AV.i64 a6, AV.i64 a7, AV.sl a8.length (a8.map AV.i64)]), (1, AV.i64 a9)]) rfl (Γ' := []) rfl (n := 30) rfl (g := 0) rfl ?_
  unfold f23 at h
  refine RunC.seq ?_
  refine RunC.regionW ?_
  refine ROps.d (r := AV.ptr [AV.i64 a0, AV.i64 a1, AV.sl a2.length (a2.map AV.f32), AV.sl a3.length (a3.map AV.f32), AV.sl a4.length (a4.map AV.f32), AV.sl a5.length (a5.map AV.f32), AV.i64 a6, AV.i64 a7, AV.sl a8.length (a8.map AV.i64)]) (fs := []) (Γ' := []) rfl rfl rfl (TOp.box_s rfl rfl rfl) rfl ?_
  refine ROps.l (r := AV.i64 0) rfl rfl rfl (LOp.assign rfl rfl) ?_
  refine ROps.nil ?_
  refine RunC.seq ?_
  obtain ⟨r1, hf1, h⟩ := obind_some h
  refine RunC.regionW ?_
  refine ROps.l (r := AV.ptr [AV.i64 a0, AV.i64 a1, AV.sl a2.length (a2.map AV.f32), AV.sl a3.length (a3.map AV.f32), AV.sl a4.length (a4.map AV.f32), AV.sl a5.length (a5.map AV.f32), AV.i64 a6, AV.i64 a7, AV.sl a8.length (a8.map AV.i64)]) rfl rfl rfl (LOp.fap und47 rfl siz40 rfl rfl rfl) ?_
  refine ROps.l (r := AV.agg [AV.i64 a0, AV.i64 a1, AV.sl a2.length (a2.map AV.f32)]) rfl rfl rfl (LOp.loadAgg agg40 siz40 rfl rfl rfl rfl) ?_
  refine ROps.l (r := AV.i64 a9) rfl rfl rfl (LOp.move rfl rfl) ?_
  refine ROps.d (r := AV.i64 r1) (fs := []) (Γ' := []) rfl rfl rfl (TOp.callB (CallAs.func ent30 rfl rfl) (Bors.cons (Bor.agg (Bors.cons (Bor.pure rfl) (Bors.cons (Bor.pure rfl) (Bors.cons (Bor.sl (fun _ => rfl)) Bors.nil)))) (Bors.cons (Bor.pure rfl) Bors.nil)) rfl rfl (f30_ok a0 a1 a2 a9 r1 hf1)) rfl ?_
  refine ROps.l (r := AV.i64 r1) rfl rfl rfl (LOp.assign rfl rfl) ?_
  refine ROps.nil ?_
  refine RunC.seq ?_
  refine RunC.seq ?_
  rcases bsel_some h with ⟨hc2, h⟩ | ⟨hc2, h⟩
  · refine RunC.regionW ?_
    refine ROps.l (r := AV.i64 r1) rfl rfl rfl (LOp.move rfl rfl) ?_
    refine ROps.l (r := AV.b true) rfl rfl rfl (LOp.eqb (LOp.lss rfl rfl rfl) hc2) ?_
    refine ROps.nil ?_
    refine RunC.cond_true rfl rfl ?_
    refine RunC.seq ?_
    refine RunC.regionW ?_
    refine ROps.l (r := AV.i64 (-1)) rfl rfl rfl (LOp.assign rfl rfl) ?_
    refine ROps.nil ?_
    refine RunC.ret ?_
    have hq := Option.some.inj h
    subst q0
    exact bodyQ.pure (.inr rfl) rfl (Res.one rfl (RV.tmp rfl))
  · refine RunC.regionW ?_
    refine ROps.l (r := AV.i64 r1) rfl rfl rfl (LOp.move rfl rfl) ?_
    refine ROps.l (r := AV.b false) rfl rfl rfl (LOp.eqb (LOp.lss rfl rfl rfl) hc2) ?_
    refine ROps.nil ?_
    refine RunC.cond_false rfl rfl ?_
    refine RunC.skip ?_
    refine RunC.seq ?_
    obtain ⟨r2, hf3, h⟩ := obind_some h
    refine RunC.regionW ?_
    refine ROps.l (r := AV.ptr [AV.sl a3.length (a3.map AV.f32), AV.sl a4.length (a4.map AV.f32), AV.sl a5.length (a5.map AV.f32), AV.i64 a6, AV.i64 a7, AV.sl a8.length (a8.map AV.i64)]) rfl rfl rfl (LOp.fap und47 rfl siz38 rfl rfl rfl) ?_
    refine ROps.l (r := AV.sl a3.length (a3.map AV.f32)) rfl rfl rfl (LOp.load1 agg38 rfl rfl) ?_
    refine ROps.l (r := AV.i64 r1) rfl rfl rfl (LOp.move rfl rfl) ?_
    refine ROps.d (r := AV.i64 r2) (fs := []) (Γ' := []) rfl rfl rfl (TOp.callB (CallAs.func ent54 rfl rfl) (Bors.cons (Bor.sl (fun _ => rfl)) (Bors.cons (Bor.pure rfl) Bors.nil)) rfl rfl (f54_ok a3 r1 r2 hf3)) rfl ?_
    refine ROps.l (r := AV.i64 r2) rfl rfl rfl (LOp.assign rfl rfl) ?_
    refine ROps.nil ?_
    refine RunC.seq ?_
    refine RunC.seq ?_
    rcases bsel_some h with ⟨hc4, h⟩ | ⟨hc4, h⟩
    · refine RunC.regionW ?_
      refine ROps.l (r := AV.i64 r2) rfl rfl rfl (LOp.move rfl rfl) ?_
      refine ROps.l (r := AV.b true) rfl rfl rfl (LOp.eqb (LOp.lss rfl rfl rfl) hc4) ?_
      refine ROps.nil ?_
      refine RunC.wl (τ' := [(1, AV.i64 r2), (2, AV.ptr [AV.i64 a0, AV.i64 a1, AV.sl a2.length (a2.map AV.f32), AV.sl a3.length (a3.map AV.f32), AV.sl a4.length (a4.map AV.f32), AV.sl a5.length (a5.map AV.f32), AV.i64 a6, AV.i64 a7, AV.sl a8.length (a8.map AV.i64)]), (16, AV.b true)]) (Γ' := []) ⟨(ALe.refl _), (ALe.refl _), (ALe.refl _), trivial⟩ trivial ?_
      refine RunC.cond_true rfl rfl ?_
      refine RunC.seq ?_
      refine RunC.regionW ?_
      refine ROps.l (r := AV.i64 (-1)) rfl rfl rfl (LOp.assign rfl rfl) ?_
      refine ROps.nil ?_
      refine RunC.ret ?_
      have hq := Option.some.inj h
      subst q0
      exact bodyQ.pure (.inr rfl) rfl (Res.one rfl (RV.tmp rfl))
    · refine RunC.regionW ?_
      refine ROps.l (r := AV.i64 r2) rfl rfl rfl (LOp.move rfl rfl) ?_
      refine ROps.l (r := AV.b false) rfl rfl rfl (LOp.eqb (LOp.lss rfl rfl rfl) hc4) ?_
      refine ROps.nil ?_
      refine RunC.wl (τ' := [(1, AV.i64 r2), (2, AV.ptr [AV.i64 a0, AV.i64 a1, AV.sl a2.length (a2.map AV.f32), AV.sl a3.length (a3.map AV.f32), AV.sl a4.length (a4.map AV.f32), AV.sl a5.length (a5.map AV.f32), AV.i64 a6, AV.i64 a7, AV.sl a8.length (a8.map AV.i64)]), (16, AV.b false)]) (Γ' := []) ⟨(ALe.refl _), (ALe.refl _), (ALe.refl _), trivial⟩ trivial ?_
      refine RunC.cond_false rfl rfl ?_
      refine RunC.skip ?_
      refine RunC.seq ?_
      obtain ⟨r3, hf5, h⟩ := obind_some h
      refine RunC.regionW ?_
      refine ROps.l (r := AV.ptr [AV.sl a4.length (a4.map AV.f32), AV.sl a5.length (a5.map AV.f32), AV.i64 a6, AV.i64 a7, AV.sl a8.length (a8.map AV.i64)]) rfl rfl rfl (LOp.fap und47 rfl siz42 rfl rfl rfl) ?_
      refine ROps.l (r := AV.agg [AV.sl a4.length (a4.map AV.f32), AV.sl a5.length (a5.map AV.f32)]) rfl rfl rfl (LOp.loadAgg agg42 siz42 rfl rfl rfl rfl) ?_
      refine ROps.l (r := AV.i64 r2) rfl rfl rfl (LOp.move rfl rfl) ?_
      refine ROps.d (r := AV.i64 r3) (fs := []) (Γ' := []) rfl rfl rfl (TOp.callB (CallAs.func ent55 rfl rfl) (Bors.cons (Bor.agg (Bors.cons (Bor.sl (fun _ => rfl)) (Bors.cons (Bor.sl (fun _ => rfl)) Bors.nil))) (Bors.cons (Bor.pure rfl) Bors.nil)) rfl rfl (f55_ok a4 a5 r2 r3 hf5)) rfl ?_
      refine ROps.l (r := AV.i64 r3) rfl rfl rfl (LOp.assign rfl rfl) ?_
      refine ROps.nil ?_
      refine RunC.seq ?_
      refine RunC.seq ?_
      rcases bsel_some h with ⟨hc6, h⟩ | ⟨hc6, h⟩
      · refine RunC.regionW ?_
        refine ROps.l (r := AV.i64 r3) rfl rfl rfl (LOp.move rfl rfl) ?_
        refine ROps.l (r := AV.b true) rfl rfl rfl (LOp.eqb (LOp.lss rfl rfl rfl) hc6) ?_
        refine ROps.nil ?_
        refine RunC.cond_true rfl rfl ?_
        refine RunC.seq ?_
        refine RunC.regionW ?_
        refine ROps.l (r := AV.i64 (-1)) rfl rfl rfl (LOp.assign rfl rfl) ?_
        refine ROps.nil ?_
        refine RunC.ret ?_
        have hq := Option.some.inj h
        subst q0
        exact bodyQ.pure (.inr rfl) rfl (Res.one rfl (RV.tmp rfl))
      · refine RunC.regionW ?_
        refine ROps.l (r := AV.i64 r3) rfl rfl rfl (LOp.move rfl rfl) ?_
        refine ROps.l (r := AV.b false) rfl rfl rfl (LOp.eqb (LOp.lss rfl rfl rfl) hc6) ?_
        refine ROps.nil ?_
        refine RunC.cond_false rfl rfl ?_
        refine RunC.skip ?_
        refine RunC.seq ?_
        obtain ⟨r4, hf7, h⟩ := obind_some h
        refine RunC.regionW ?_
        refine ROps.l (r := AV.ptr [AV.i64 a6, AV.i64 a7, AV.sl a8.length (a8.map AV.i64)]) rfl rfl rfl (LOp.fap und47 rfl siz45 rfl rfl rfl) ?_
        refine ROps.l (r := AV.agg [AV.i64 a6, AV.i64 a7, AV.sl a8.length (a8.map AV.i64)]) rfl rfl rfl (LOp.loadAgg agg45 siz45 rfl rfl rfl rfl) ?_
        refine ROps.l (r := AV.i64 r3) rfl rfl rfl (LOp.move rfl rfl) ?_
        refine ROps.d (r := AV.i64 r4) (fs := []) (Γ' := []) rfl rfl rfl (TOp.callB (CallAs.func ent56 rfl rfl) (Bors.cons (Bor.agg (Bors.cons (Bor.pure rfl) (Bors.cons (Bor.pure rfl) (Bors.cons (Bor.sl (fun _ => rfl)) Bors.nil)))) (Bors.cons (Bor.pure rfl) Bors.nil)) rfl rfl (f56_ok a6 a7 a8 r3 r4 hf7)) rfl ?_
        refine ROps.l (r := AV.i64 r4) rfl rfl rfl (LOp.assign rfl rfl) ?_
        refine ROps.nil ?_
        refine RunC.seq ?_
        refine RunC.seq ?_
        rcases bsel_some h with ⟨hc8, h⟩ | ⟨hc8, h⟩
        · refine RunC.regionW ?_
          refine ROps.l (r := AV.i64 r4) rfl rfl rfl (LOp.move rfl rfl) ?_
          refine ROps.l (r := AV.b true) rfl rfl rfl (LOp.eqb (LOp.lss rfl rfl rfl) hc8) ?_
          refine ROps.nil ?_
          refine RunC.wl (τ' := [(1, AV.i64 r4), (28, AV.b true)]) (Γ' := []) ⟨(ALe.refl _), (ALe.refl _), trivial⟩ trivial ?_
          refine RunC.cond_true rfl rfl ?_
          refine RunC.seq ?_
          refine RunC.regionW ?_
          refine ROps.l (r := AV.i64 (-1)) rfl rfl rfl (LOp.assign rfl rfl) ?_
          refine ROps.nil ?_
          refine RunC.ret ?_
          have hq := Option.some.inj h
          subst q0
          exact bodyQ.pure (.inr rfl) rfl (Res.one rfl (RV.tmp rfl))
        · refine RunC.regionW ?_
          refine ROps.l (r := AV.i64 r4) rfl rfl rfl (LOp.move rfl rfl) ?_
          refine ROps.l (r := AV.b false) rfl rfl rfl (LOp.eqb (LOp.lss rfl rfl rfl) hc8) ?_
          refine ROps.nil ?_
          refine RunC.wl (τ' := [(1, AV.i64 r4), (28, AV.b false)]) (Γ' := []) ⟨(ALe.refl _), (ALe.refl _), trivial⟩ trivial ?_
          refine RunC.cond_false rfl rfl ?_
          refine RunC.skip ?_
          refine RunC.seq ?_
          refine RunC.regionW ?_
          refine ROps.l (r := AV.i64 r4) rfl rfl rfl (LOp.move rfl rfl) ?_
          refine ROps.l (r := AV.i64 r4) rfl rfl rfl (LOp.assign rfl rfl) ?_
          refine ROps.nil ?_
          refine RunC.ret ?_
          have hq := Option.some.inj h
          subst q0
          exact bodyQ.pure (.inr rfl) rfl (Res.one rfl (RV.tmp rfl))
noncomputable def f4  : Option (Bool) :=
  obind9 (f19) fun (r1 : Int) (r2 : Int) (r3 : Int) (r4 : Int) (r5 : List F) (r6 : List F) (r7 : List F) (r8 : List F) (r9 : List Int) =>
  obind9 (f20) fun (r10 : Int) (r11 : Int) (r12 : Int) (r13 : Int) (r14 : List F) (r15 : List F) (r16 : List F) (r17 : List F) (r18 : List Int) =>
  obind (f21 r10 r11 r14 r15 r16 r17 r12 r13 r18 r1 r2 r5 r6 r7 r8 r3 r4 r9) fun (r19 : Bool) =>
  bsel r19 (
    obind6 (f22_1 r10 r11 r12 r13 1 r14 r15 r16 r17 r18) fun (r20 : Int) (r21 : List F) (r22 : List F) (r23 : List F) (r24 : List F) (r25 : List Int) =>
    need (decide (r21.length = r14.length)) <|
    need (decide (r22.length = r15.length)) <|
    need (decide (r23.length = r16.length)) <|
    need (decide (r24.length = r17.length)) <|
    need (decide (r25.length = r18.length)) <|
    obind (f23 r10 r11 r21 r22 r23 r24 r12 r13 r25 1) fun (r26 : Int) =>
    bsel (decide (r26 < 0)) (
      some false) (
      bsel (!decide (r26 = r20)) (
        some false) (
        obind9 (f20) fun (r27 : Int) (r28 : Int) (r29 : Int) (r30 : Int) (r31 : List F) (r32 : List F) (r33 : List F) (r34 : List F) (r35 : List Int) =>
        obind (f21 r27 r28 r31 r32 r33 r34 r29 r30 r35 r1 r2 r5 r6 r7 r8 r3 r4 r9) fun (r36 : Bool) =>
        bsel r36 (
          obind (f23 r10 r11 r21 r22 r23 r24 r12 r13 r25 1) fun (r37 : Int) =>
          bsel (decide (r37 < 0)) (
            some false) (
            bsel (!decide (r37 = r20)) (
              some false) (
              some true))) (
          some false)))) (
    some false)
theorem f4_ok  (q0 : Bool) (h : f4  = some q0) : Ev Try.prog 4 [] [] (AV.b q0) [] := by
  refine Ev.start Try.func4 rfl rfl 18 (τ := []) rfl (Γ' := [⟨0, none⟩, ⟨0, none⟩, ⟨0, none⟩, ⟨0, none⟩, ⟨0, none⟩, ⟨0, none⟩, ⟨0, none⟩, ⟨0, none⟩, ⟨0, none⟩, ⟨0, none⟩, ⟨0, none⟩, ⟨0, none⟩, ⟨0, none⟩, ⟨0, none⟩, ⟨0, none⟩, ⟨0, none⟩, ⟨0, none⟩, ⟨0, none⟩]) rfl (n := 36) rfl (g := 0) rfl ?_
  unfold f4 at h
  refine RunC.seq ?_
  refine RunC.regionW ?_
  refine ROps.l (r := AV.b false) rfl rfl rfl (LOp.assign rfl rfl) ?_
  refine ROps.nil ?_
  refine RunC.seq ?_
  obtain ⟨r1, r2, r3, r4, r5, r6, r7, r8, r9, hf1, h⟩ := obind9_some h
  refine RunC.regionW ?_
  refine ROps.d (r := AV.agg [AV.i64 r1, AV.i64 r2, AV.oref 0 1 0 r5.length, AV.oref 1 1 0 r6.length, AV.oref 2 1 0 r7.length, AV.oref 3 1 0 r8.length, AV.i64 r3, AV.i64 r4, AV.oref 4 1 0 r9.length]) (fs := [(0, (r5.map AV.f32)), (1, (r6.map AV.f32)), (2, (r7.map AV.f32)), (3, (r8.map AV.f32)), (4, (r9.map AV.i64))]) (Γ' := [⟨1, some (r5.map AV.f32)⟩, ⟨1, some (r6.map AV.f32)⟩, ⟨1, some (r7.map AV.f32)⟩, ⟨1, some (r8.map AV.f32)⟩, ⟨1, some (r9.map AV.i64)⟩, ⟨0, none⟩, ⟨0, none⟩, ⟨0, none⟩, ⟨0, none⟩, ⟨0, none⟩, ⟨0, none⟩, ⟨0, none⟩, ⟨0, none⟩, ⟨0, none⟩, ⟨0, none⟩, ⟨0, none⟩, ⟨0, none⟩, ⟨0, none⟩]) rfl rfl rfl (TOp.callBN (ls := [(r5.map AV.f32), (r6.map AV.f32), (r7.map AV.f32), (r8.map AV.f32), (r9.map AV.i64)]) [0, 1, 2, 3, 4] (CallAs.func ent19 rfl rfl) Bors.nil rfl (f19_ok r1 r2 r3 r4 r5 r6 r7 r8 r9 hf1) (and_all (lts0_map (f := AV.f32) (fun _ => rfl) _) (and_all (lts0_map (f := AV.f32) (fun _ => rfl) _) (and_all (lts0_map (f := AV.f32) (fun _ => rfl) _) (and_all (lts0_map (f := AV.f32) (fun _ => rfl) _) (and_all (lts0_map (f := AV.i64) (fun _ => rfl) _) rfl))))) (and_all (noss_map (f := AV.f32) (fun _ => rfl) _) (and_all (noss_map (f := AV.f32) (fun _ => rfl) _) (and_all (noss_map (f := AV.f32) (fun _ => rfl) _) (and_all (noss_map (f := AV.f32) (fun _ => rfl) _) (and_all (noss_map (f := AV.i64) (fun _ => rfl) _) rfl))))) rfl (by decide) (ns_of ⟨⟨_, rfl⟩, ⟨_, rfl⟩, ⟨_, rfl⟩, ⟨_, rfl⟩, ⟨_, rfl⟩, trivial⟩)) rfl ?_
  refine ROps.d (r := AV.optr 5 1 0) (fs := [(5, [AV.i64 0, AV.i64 0, AV.nilsl, AV.nilsl, AV.nilsl, AV.nilsl, AV.i64 0, AV.i64 0, AV.nilsl])]) (Γ' := [⟨1, some (r5.map AV.f32)⟩, ⟨1, some (r6.map AV.f32)⟩, ⟨1, some (r7.map AV.f32)⟩, ⟨1, some (r8.map AV.f32)⟩, ⟨1, some (r9.map AV.i64)⟩, ⟨1, some [AV.i64 0, AV.i64 0, AV.nilsl, AV.nilsl, AV.nilsl, AV.nilsl, AV.i64 0, AV.i64 0, AV.nilsl]⟩, ⟨0, none⟩, ⟨0, none⟩, ⟨0, none⟩, ⟨0, none⟩, ⟨0, none⟩, ⟨0, none⟩, ⟨0, none⟩, ⟨0, none⟩, ⟨0, none⟩, ⟨0, none⟩, ⟨0, none⟩, ⟨0, none⟩]) rfl rfl rfl (TOp.alloc_o (g := ⟨0, none⟩) 5 rfl zer47 zok47 rfl) rfl ?_
  refine ROps.store_le (r := AV.agg [AV.i64 r1, AV.i64 r2, AV.oref 0 1 0 r5.length, AV.oref 1 1 0 r6.length, AV.oref 2 1 0 r7.length, AV.oref 3 1 0 r8.length, AV.i64 r3, AV.i64 r4, AV.oref 4 1 0 r9.length]) (l' := [AV.i64 r1, AV.i64 r2, AV.oref 0 1 0 r5.length, AV.oref 1 1 0 r6.length, AV.oref 2 1 0 r7.length, AV.oref 3 1 0 r8.length, AV.i64 r3, AV.i64 r4, AV.oref 4 1 0 r9.length]) (Γ' := [⟨1, some (r5.map AV.f32)⟩, ⟨1, some (r6.map AV.f32)⟩, ⟨1, some (r7.map AV.f32)⟩, ⟨1, some (r8.map AV.f32)⟩, ⟨1, some (r9.map AV.i64)⟩, ⟨1, some [AV.i64 r1, AV.i64 r2, AV.oref 0 1 0 r5.length, AV.oref 1 1 0 r6.length, AV.oref 2 1 0 r7.length, AV.oref 3 1 0 r8.length, AV.i64 r3, AV.i64 r4, AV.oref 4 1 0 r9.length]⟩, ⟨0, none⟩, ⟨0, none⟩, ⟨0, none⟩, ⟨0, none⟩, ⟨0, none⟩, ⟨0, none⟩, ⟨0, none⟩, ⟨0, none⟩, ⟨0, none⟩, ⟨0, none⟩, ⟨0, none⟩, ⟨0, none⟩]) rfl siz47 rfl rfl rfl (ALe.refl _) rfl rfl rfl rfl (Nat.le_of_ble_eq_true rfl) rfl rfl ?_
  refine ROps.nil ?_
  refine RunC.seq ?_
  obtain ⟨r10, r11, r12, r13, r14, r15, r16, r17, r18, hf2, h⟩ := obind9_some h
  refine RunC.regionW ?_
  refine ROps.d (r := AV.agg [AV.i64 r10, AV.i64 r11, AV.oref 6 1 0 r14.length, AV.oref 7 1 0 r15.length, AV.oref 8 1 0 r16.length, AV.oref 9 1 0 r17.length, AV.i64 r12, AV.i64 r13, AV.oref 10 1 0 r18.length]) (fs := [(6, (r14.map AV.f32)), (7, (r15.map AV.f32)), (8, (r16.map AV.f32)), (9, (r17.map AV.f32)), (10, (r18.map AV.i64))]) (Γ' := [⟨1, some (r5.map AV.f32)⟩, ⟨1, some (r6.map AV.f32)⟩, ⟨1, some (r7.map AV.f32)⟩, ⟨1, some (r8.map AV.f32)⟩, ⟨1, some (r9.map AV.i64)⟩, ⟨1, some [AV.i64 r1, AV.i64 r2, AV.oref 0 1 0 r5.length, AV.oref 1 1 0 r6.length, AV.oref 2 1 0 r7.length, AV.oref 3 1 0 r8.length, AV.i64 r3, AV.i64 r4, AV.oref 4 1 0 r9.length]⟩, ⟨1, some (r14.map AV.f32)⟩, ⟨1, some (r15.map AV.f32)⟩, ⟨1, some (r16.map AV.f32)⟩, ⟨1, some (r17.map AV.f32)⟩, ⟨1, some (r18.map AV.i64)⟩, ⟨0, none⟩, ⟨0, none⟩, ⟨0, none⟩, ⟨0, none⟩, ⟨0, none⟩, ⟨0, none⟩, ⟨0, none⟩]) rfl rfl rfl (TOp.callBN (ls := [(r14.map AV.f32), (r15.map AV.f32), (r16.map AV.f32), (r17.map AV.f32), (r18.map AV.i64)]) [6, 7, 8, 9, 10] (CallAs.func ent20 rfl rfl) Bors.nil rfl (f20_ok r10 r11 r12 r13 r14 r15 r16 r17 r18 hf2) (and_all (lts0_map (f := AV.f32) (fun _ => rfl) _) (and_all (lts0_map (f := AV.f32) (fun _ => rfl) _) (and_all (lts0_map (f := AV.f32) (fun _ => rfl) _) (and_all (lts0_map (f := AV.f32) (fun _ => rfl) _) (and_all (lts0_map (f := AV.i64) (fun _ => rfl) _) rfl))))) (and_all (noss_map (f := AV.f32) (fun _ => rfl) _) (and_all (noss_map (f := AV.f32) (fun _ => rfl) _) (and_all (noss_map (f := AV.f32) (fun _ => rfl) _) (and_all (noss_map (f := AV.f32) (fun _ => rfl) _) (and_all (noss_map (f := AV.i64) (fun _ => rfl) _) rfl))))) rfl (by decide) (ns_of ⟨⟨_, rfl⟩, ⟨_, rfl⟩, ⟨_, rfl⟩, ⟨_, rfl⟩, ⟨_, rfl⟩, trivial⟩)) rfl ?_
  refine ROps.d (r := AV.optr 11 1 0) (fs := [(11, [AV.i64 0, AV.i64 0, AV.nilsl, AV.nilsl, AV.nilsl, AV.nilsl, AV.i64 0, AV.i64 0, AV.nilsl])]) (Γ' := [⟨1, some (r5.map AV.f32)⟩, ⟨1, some (r6.map AV.f32)⟩, ⟨1, some (r7.map AV.f32)⟩, ⟨1, some (r8.map AV.f32)⟩, ⟨1, some (r9.map AV.i64)⟩, ⟨1, some [AV.i64 r1, AV.i64 r2, AV.oref 0 1 0 r5.length, AV.oref 1 1 0 r6.length, AV.oref 2 1 0 r7.length, AV.oref 3 1 0 r8.length, AV.i64 r3, AV.i64 r4, AV.oref 4 1 0 r9.length]⟩, ⟨1, some (r14.map AV.f32)⟩, ⟨1, some (r15.map AV.f32)⟩, ⟨1, some (r16.map AV.f32)⟩, ⟨1, some (r17.map AV.f32)⟩, ⟨1, some (r18.map AV.i64)⟩, ⟨1, some [AV.i64 0, AV.i64 0, AV.nilsl, AV.nilsl, AV.nilsl, AV.nilsl, AV.i64 0, AV.i64 0, AV.nilsl]⟩, ⟨0, none⟩, ⟨0, none⟩, ⟨0, none⟩, ⟨0, none⟩, ⟨0, none⟩, ⟨0, none⟩]) rfl rfl rfl (TOp.alloc_o (g := ⟨0, none⟩) 11 rfl zer47 zok47 rfl) rfl ?_
  refine ROps.store_le (r := AV.agg [AV.i64 r10, AV.i64 r11, AV.oref 6 1 0 r14.length, AV.oref 7 1 0 r15.length, AV.oref 8 1 0 r16.length, AV.oref 9 1 0 r17.length, AV.i64 r12, AV.i64 r13, AV.oref 10 1 0 r18.length]) (l' := [AV.i64 r10, AV.i64 r11, AV.oref 6 1 0 r14.length, AV.oref 7 1 0 r15.length, AV.oref 8 1 0 r16.length, AV.oref 9 1 0 r17.length, AV.i64 r12, AV.i64 r13, AV.oref 10 1 0 r18.length]) (Γ' := [⟨1, some (r5.map AV.f32)⟩, ⟨1, some (r6.map AV.f32)⟩, ⟨1, some (r7.map AV.f32)⟩, ⟨1, some (r8.map AV.f32)⟩, ⟨1, some (r9.map AV.i64)⟩, ⟨1, some [AV.i64 r1, AV.i64 r2, AV.oref 0 1 0 r5.length, AV.oref 1 1 0 r6.length, AV.oref 2 1 0 r7.length, AV.oref 3 1 0 r8.length, AV.i64 r3, AV.i64 r4, AV.oref 4 1 0 r9.length]⟩, ⟨1, some (r14.map AV.f32)⟩, ⟨1, some (r15.map AV.f32)⟩, ⟨1, some (r16.map AV.f32)⟩, ⟨1, some (r17.map AV.f32)⟩, ⟨1, some (r18.map AV.i64)⟩, ⟨1, some [AV.i64 r10, AV.i64 r11, AV.oref 6 1 0 r14.length, AV.oref 7 1 0 r15.length, AV.oref 8 1 0 r16.length, AV.oref 9 1 0 r17.length, AV.i64 r12, AV.i64 r13, AV.oref 10 1 0 r18.length]⟩, ⟨0, none⟩, ⟨0, none⟩, ⟨0, none⟩, ⟨0, none⟩, ⟨0, none⟩, ⟨0, none⟩]) rfl siz47 rfl rfl rfl (ALe.refl _) rfl rfl rfl rfl (Nat.le_of_ble_eq_true rfl) rfl rfl ?_
  refine ROps.nil ?_
  refine RunC.seq ?_
  refine RunC.seq ?_
  obtain ⟨r19, hf3, h⟩ := obind_some h
  rcases bsel_some h with ⟨hc4, h⟩ | ⟨hc4, h⟩
  · refine RunC.regionW ?_
    refine ROps.d (r := AV.agg [AV.i64 r10, AV.i64 r11, AV.oref 6 1 0 r14.length, AV.oref 7 1 0 r15.length, AV.oref 8 1 0 r16.length, AV.oref 9 1 0 r17.length, AV.i64 r12, AV.i64 r13, AV.oref 10 1 0 r18.length]) (fs := []) (Γ' := [⟨1, some (r5.map AV.f32)⟩, ⟨1, some (r6.map AV.f32)⟩, ⟨1, some (r7.map AV.f32)⟩, ⟨1, some (r8.map AV.f32)⟩, ⟨1, some (r9.map AV.i64)⟩, ⟨1, some [AV.i64 r1, AV.i64 r2, AV.oref 0 1 0 r5.length, AV.oref 1 1 0 r6.length, AV.oref 2 1 0 r7.length, AV.oref 3 1 0 r8.length, AV.i64 r3, AV.i64 r4, AV.oref 4 1 0 r9.length]⟩, ⟨1, some (r14.map AV.f32)⟩, ⟨1, some (r15.map AV.f32)⟩, ⟨1, some (r16.map AV.f32)⟩, ⟨1, some (r17.map AV.f32)⟩, ⟨1, some (r18.map AV.i64)⟩, ⟨1, some [AV.i64 r10, AV.i64 r11, AV.oref 6 1 0 r14.length, AV.oref 7 1 0 r15.length, AV.oref 8 1 0 r16.length, AV.oref 9 1 0 r17.length, AV.i64 r12, AV.i64 r13, AV.oref 10 1 0 r18.length]⟩, ⟨0, none⟩, ⟨0, none⟩, ⟨0, none⟩, ⟨0, none⟩, ⟨0, none⟩, ⟨0, none⟩]) rfl rfl rfl (TOp.loadAgg_o rfl agg47 siz47 rfl rfl rfl rfl) rfl ?_
    refine ROps.d (r := AV.agg [AV.i64 r1, AV.i64 r2, AV.oref 0 1 0 r5.length, AV.oref 1 1 0 r6.length, AV.oref 2 1 0 r7.length, AV.oref 3 1 0 r8.length, AV.i64 r3, AV.i64 r4, AV.oref 4 1 0 r9.length]) (fs := []) (Γ' := [⟨1, some (r5.map AV.f32)⟩, ⟨1, some (r6.map AV.f32)⟩, ⟨1, some (r7.map AV.f32)⟩, ⟨1, some (r8.map AV.f32)⟩, ⟨1, some (r9.map AV.i64)⟩, ⟨1, some [AV.i64 r1, AV.i64 r2, AV.oref 0 1 0 r5.length, AV.oref 1 1 0 r6.length, AV.oref 2 1 0 r7.length, AV.oref 3 1 0 r8.length, AV.i64 r3, AV.i64 r4, AV.oref 4 1 0 r9.length]⟩, ⟨1, some (r14.map AV.f32)⟩, ⟨1, some (r15.map AV.f32)⟩, ⟨1, some (r16.map AV.f32)⟩, ⟨1, some (r17.map AV.f32)⟩, ⟨1, some (r18.map AV.i64)⟩, ⟨1, some [AV.i64 r10, AV.i64 r11, AV.oref 6 1 0 r14.length, AV.oref 7 1 0 r15.length, AV.oref 8 1 0 r16.length, AV.oref 9 1 0 r17.length, AV.i64 r12, AV.i64 r13, AV.oref 10 1 0 r18.length]⟩, ⟨0, none⟩, ⟨0, none⟩, ⟨0, none⟩, ⟨0, none⟩, ⟨0, none⟩, ⟨0, none⟩]) rfl rfl rfl (TOp.loadAgg_o rfl agg47 siz47 rfl rfl rfl rfl) rfl ?_
    refine ROps.d (r := AV.b true) (fs := []) (Γ' := [⟨1, some (r5.map AV.f32)⟩, ⟨1, some (r6.map AV.f32)⟩, ⟨1, some (r7.map AV.f32)⟩, ⟨1, some (r8.map AV.f32)⟩, ⟨1, some (r9.map AV.i64)⟩, ⟨1, some [AV.i64 r1, AV.i64 r2, AV.oref 0 1 0 r5.length, AV.oref 1 1 0 r6.length, AV.oref 2 1 0 r7.length, AV.oref 3 1 0 r8.length, AV.i64 r3, AV.i64 r4, AV.oref 4 1 0 r9.length]⟩, ⟨1, some (r14.map AV.f32)⟩, ⟨1, some (r15.map AV.f32)⟩, ⟨1, some (r16.map AV.f32)⟩, ⟨1, some (r17.map AV.f32)⟩, ⟨1, some (r18.map AV.i64)⟩, ⟨1, some [AV.i64 r10, AV.i64 r11, AV.oref 6 1 0 r14.length, AV.oref 7 1 0 r15.length, AV.oref 8 1 0 r16.length, AV.oref 9 1 0 r17.length, AV.i64 r12, AV.i64 r13, AV.oref 10 1 0 r18.length]⟩, ⟨0, none⟩, ⟨0, none⟩, ⟨0, none⟩, ⟨0, none⟩, ⟨0, none⟩, ⟨0, none⟩]) rfl rfl rfl (TOp.eqb (TOp.callB (CallAs.func ent21 rfl rfl) (Bors.cons (Bor.agg (Bors.cons (Bor.pure rfl) (Bors.cons (Bor.pure rfl) (Bors.cons (Bor.own (f := AV.f32) (fun _ => rfl) rfl rfl) (Bors.cons (Bor.own (f := AV.f32) (fun _ => rfl) rfl rfl) (Bors.cons (Bor.own (f := AV.f32) (fun _ => rfl) rfl rfl) (Bors.cons (Bor.own (f := AV.f32) (fun _ => rfl) rfl rfl) (Bors.cons (Bor.pure rfl) (Bors.cons (Bor.pure rfl) (Bors.cons (Bor.own (f := AV.i64) (fun _ => rfl) rfl rfl) Bors.nil)))))))))) (Bors.cons (Bor.agg (Bors.cons (Bor.pure rfl) (Bors.cons (Bor.pure rfl) (Bors.cons (Bor.own (f := AV.f32) (fun _ => rfl) rfl rfl) (Bors.cons (Bor.own (f := AV.f32) (fun _ => rfl) rfl rfl) (Bors.cons (Bor.own (f := AV.f32) (fun _ => rfl) rfl rfl) (Bors.cons (Bor.own (f := AV.f32) (fun _ => rfl) rfl rfl) (Bors.cons (Bor.pure rfl) (Bors.cons (Bor.pure rfl) (Bors.cons (Bor.own (f := AV.i64) (fun _ => rfl) rfl rfl) Bors.nil)))))))))) Bors.nil)) rfl rfl (f21_ok r10 r11 r14 r15 r16 r17 r12 r13 r18 r1 r2 r5 r6 r7 r8 r3 r4 r9 r19 hf3)) hc4) rfl ?_
    refine ROps.l (r := AV.b false) rfl rfl rfl (LOp.eqb (LOp.not rfl rfl) rfl) ?_
    refine ROps.nil ?_
    refine RunC.cond_false rfl rfl ?_
    refine RunC.skip ?_
    refine RunC.seq ?_
    refine RunC.regionW ?_
    refine ROps.l (r := AV.i64 1) rfl rfl rfl (LOp.assign rfl rfl) ?_
    refine ROps.nil ?_
    refine RunC.seq ?_
    obtain ⟨r20, r21, r22, r23, r24, r25, hf5, h⟩ := obind6_some h
    obtain ⟨hn6, h⟩ := need_some h
    obtain ⟨hn7, h⟩ := need_some h
    obtain ⟨hn8, h⟩ := need_some h
    obtain ⟨hn9, h⟩ := need_some h
    obtain ⟨hn10, h⟩ := need_some h
    refine RunC.regionW ?_
    refine ROps.d (r := AV.agg [AV.i64 r10, AV.i64 r11, AV.oref 6 1 0 r14.length, AV.oref 7 1 0 r15.length, AV.oref 8 1 0 r16.length, AV.oref 9 1 0 r17.length, AV.i64 r12, AV.i64 r13, AV.oref 10 1 0 r18.length]) (fs := []) (Γ' := [⟨1, some (r5.map AV.f32)⟩, ⟨1, some (r6.map AV.f32)⟩, ⟨1, some (r7.map AV.f32)⟩, ⟨1, some (r8.map AV.f32)⟩, ⟨1, some (r9.map AV.i64)⟩, ⟨1, some [AV.i64 r1, AV.i64 r2, AV.oref 0 1 0 r5.length, AV.oref 1 1 0 r6.length, AV.oref 2 1 0 r7.length, AV.oref 3 1 0 r8.length, AV.i64 r3, AV.i64 r4, AV.oref 4 1 0 r9.length]⟩, ⟨1, some (r14.map AV.f32)⟩, ⟨1, some (r15.map AV.f32)⟩, ⟨1, some (r16.map AV.f32)⟩, ⟨1, some (r17.map AV.f32)⟩, ⟨1, some (r18.map AV.i64)⟩, ⟨1, some [AV.i64 r10, AV.i64 r11, AV.oref 6 1 0 r14.length, AV.oref 7 1 0 r15.length, AV.oref 8 1 0 r16.length, AV.oref 9 1 0 r17.length, AV.i64 r12, AV.i64 r13, AV.oref 10 1 0 r18.length]⟩, ⟨0, none⟩, ⟨0, none⟩, ⟨0, none⟩, ⟨0, none⟩, ⟨0, none⟩, ⟨0, none⟩]) rfl rfl rfl (TOp.loadAgg_o rfl agg47 siz47 rfl rfl rfl rfl) rfl ?_
    refine ROps.l (r := AV.i64 1) rfl rfl rfl (LOp.move rfl rfl) ?_
    refine ROps.callO (A := [AV.agg [AV.i64 r10, AV.i64 r11, AV.oref 6 1 0 r14.length, AV.oref 7 1 0 r15.length, AV.oref 8 1 0 r16.length, AV.oref 9 1 0 r17.length, AV.i64 r12, AV.i64 r13, AV.oref 10 1 0 r18.length], AV.i64 1]) (args := [AV.agg [AV.i64 r10, AV.i64 r11, AV.oref 0 0 0 r14.length, AV.oref 1 0 0 r15.length, AV.oref 2 0 0 r16.length, AV.oref 3 0 0 r17.length, AV.i64 r12, AV.i64 r13, AV.oref 4 0 0 r18.length], AV.i64 1]) (Γc := [⟨0, some (r14.map AV.f32)⟩, ⟨0, some (r15.map AV.f32)⟩, ⟨0, some (r16.map AV.f32)⟩, ⟨0, some (r17.map AV.f32)⟩, ⟨0, some (r18.map AV.i64)⟩]) (Γc' := [⟨0, some (r21.map AV.f32)⟩, ⟨0, some (r22.map AV.f32)⟩, ⟨0, some (r23.map AV.f32)⟩, ⟨0, some (r24.map AV.f32)⟩, ⟨0, some (r25.map AV.i64)⟩]) (r' := AV.i64 r20) (Γ' := [⟨1, some (r5.map AV.f32)⟩, ⟨1, some (r6.map AV.f32)⟩, ⟨1, some (r7.map AV.f32)⟩, ⟨1, some (r8.map AV.f32)⟩, ⟨1, some (r9.map AV.i64)⟩, ⟨1, some [AV.i64 r1, AV.i64 r2, AV.oref 0 1 0 r5.length, AV.oref 1 1 0 r6.length, AV.oref 2 1 0 r7.length, AV.oref 3 1 0 r8.length, AV.i64 r3, AV.i64 r4, AV.oref 4 1 0 r9.length]⟩, ⟨1, some (r21.map AV.f32)⟩, ⟨1, some (r22.map AV.f32)⟩, ⟨1, some (r23.map AV.f32)⟩, ⟨1, some (r24.map AV.f32)⟩, ⟨1, some (r25.map AV.i64)⟩, ⟨1, some [AV.i64 r10, AV.i64 r11, AV.oref 6 1 0 r14.length, AV.oref 7 1 0 r15.length, AV.oref 8 1 0 r16.length, AV.oref 9 1 0 r17.length, AV.i64 r12, AV.i64 r13, AV.oref 10 1 0 r18.length]⟩, ⟨0, none⟩, ⟨0, none⟩, ⟨0, none⟩, ⟨0, none⟩, ⟨0, none⟩, ⟨0, none⟩]) [(6, 1), (7, 1), (8, 1), (9, 1), (10, 1)] [] rfl (CallAs.func ent22 rfl rfl) rfl rfl (SelOk.of (by decide) (SelL.arr0 (f := AV.f32) (fun _ => rfl) rfl (SelL.arr0 (f := AV.f32) (fun _ => rfl) rfl (SelL.arr0 (f := AV.f32) (fun _ => rfl) rfl (SelL.arr0 (f := AV.f32) (fun _ => rfl) rfl (SelL.arr0 (f := AV.i64) (fun _ => rfl) rfl trivial)))))) (live_of ⟨⟨_, _, rfl⟩, ⟨_, _, rfl⟩, ⟨_, _, rfl⟩, ⟨_, _, rfl⟩, ⟨_, _, rfl⟩, trivial⟩) (by simp [AV.ren, AV.rens, sigma]) rfl (f22_1_ok r10 r11 r12 r13 1 r14 r15 r16 r17 r18 r20 r21 r22 r23 r24 r25 hf5) rfl (news_of trivial) (by decide) (by simp [AV.ren, AV.rens, sigma, of_decide_eq_true hn6, of_decide_eq_true hn7, of_decide_eq_true hn8, of_decide_eq_true hn9, of_decide_eq_true hn10]) (by simp [backOb, sigma, rens_f32, rens_f64, rens_i64, rens_ik, rens_str, rens_cp]) ?_
    refine ROps.l (r := AV.i64 r20) rfl rfl rfl (LOp.assign rfl rfl) ?_
    refine ROps.nil ?_
    refine RunC.seq ?_
    refine RunC.regionW ?_
    refine ROps.l (r := AV.i64 1) rfl rfl rfl (LOp.assign rfl rfl) ?_
    refine ROps.nil ?_
    refine RunC.seq ?_
    obtain ⟨r26, hf11, h⟩ := obind_some h
    refine RunC.regionW ?_
    refine ROps.d (r := AV.agg [AV.i64 r10, AV.i64 r11, AV.oref 6 1 0 r14.length, AV.oref 7 1 0 r15.length, AV.oref 8 1 0 r16.length, AV.oref 9 1 0 r17.length, AV.i64 r12, AV.i64 r13, AV.oref 10 1 0 r18.length]) (fs := []) (Γ' := [⟨1, some (r5.map AV.f32)⟩, ⟨1, some (r6.map AV.f32)⟩, ⟨1, some (r7.map AV.f32)⟩, ⟨1, some (r8.map AV.f32)⟩, ⟨1, some (r9.map AV.i64)⟩, ⟨1, some [AV.i64 r1, AV.i64 r2, AV.oref 0 1 0 r5.length, AV.oref 1 1 0 r6.length, AV.oref 2 1 0 r7.length, AV.oref 3 1 0 r8.length, AV.i64 r3, AV.i64 r4, AV.oref 4 1 0 r9.length]⟩, ⟨1, some (r21.map AV.f32)⟩, ⟨1, some (r22.map AV.f32)⟩, ⟨1, some (r23.map AV.f32)⟩, ⟨1, some (r24.map AV.f32)⟩, ⟨1, some (r25.map AV.i64)⟩, ⟨1, some [AV.i64 r10, AV.i64 r11, AV.oref 6 1 0 r14.length, AV.oref 7 1 0 r15.length, AV.oref 8 1 0 r16.length, AV.oref 9 1 0 r17.length, AV.i64 r12, AV.i64 r13, AV.oref 10 1 0 r18.length]⟩, ⟨0, none⟩, ⟨0, none⟩, ⟨0, none⟩, ⟨0, none⟩, ⟨0, none⟩, ⟨0, none⟩]) rfl rfl rfl (TOp.loadAgg_o rfl agg47 siz47 rfl rfl rfl rfl) rfl ?_
    refine ROps.l (r := AV.i64 1) rfl rfl rfl (LOp.move rfl rfl) ?_
    refine ROps.d (r := AV.i64 r26) (fs := []) (Γ' := [⟨1, some (r5.map AV.f32)⟩, ⟨1, some (r6.map AV.f32)⟩, ⟨1, some (r7.map AV.f32)⟩, ⟨1, some (r8.map AV.f32)⟩, ⟨1, some (r9.map AV.i64)⟩, ⟨1, some [AV.i64 r1, AV.i64 r2, AV.oref 0 1 0 r5.length, AV.oref 1 1 0 r6.length, AV.oref 2 1 0 r7.length, AV.oref 3 1 0 r8.length, AV.i64 r3, AV.i64 r4, AV.oref 4 1 0 r9.length]⟩, ⟨1, some (r21.map AV.f32)⟩, ⟨1, some (r22.map AV.f32)⟩, ⟨1, some (r23.map AV.f32)⟩, ⟨1, some (r24.map AV.f32)⟩, ⟨1, some (r25.map AV.i64)⟩, ⟨1, some [AV.i64 r10, AV.i64 r11, AV.oref 6 1 0 r14.length, AV.oref 7 1 0 r15.length, AV.oref 8 1 0 r16.length, AV.oref 9 1 0 r17.length, AV.i64 r12, AV.i64 r13, AV.oref 10 1 0 r18.length]⟩, ⟨0, none⟩, ⟨0, none⟩, ⟨0, none⟩, ⟨0, none⟩, ⟨0, none⟩, ⟨0, none⟩]) rfl rfl rfl (TOp.callB (CallAs.func ent23 rfl rfl) (Bors.cons (Bor.agg (Bors.cons (Bor.pure rfl) (Bors.cons (Bor.pure rfl) (Bors.cons (Bor.own (f := AV.f32) (fun _ => rfl) rfl (of_decide_eq_true hn6)) (Bors.cons (Bor.own (f := AV.f32) (fun _ => rfl) rfl (of_decide_eq_true hn7)) (Bors.cons (Bor.own (f := AV.f32) (fun _ => rfl) rfl (of_decide_eq_true hn8)) (Bors.cons (Bor.own (f := AV.f32) (fun _ => rfl) rfl (of_decide_eq_true hn9)) (Bors.cons (Bor.pure rfl) (Bors.cons (Bor.pure rfl) (Bors.cons (Bor.own (f := AV.i64) (fun _ => rfl) rfl (of_decide_eq_true hn10)) Bors.nil)))))))))) (Bors.cons (Bor.pure rfl) Bors.nil)) rfl rfl (f23_ok r10 r11 r21 r22 r23 r24 r12 r13 r25 1 r26 hf11)) rfl ?_
    refine ROps.l (r := AV.i64 r26) rfl rfl rfl (LOp.assign rfl rfl) ?_
    refine ROps.nil ?_
    refine RunC.wl (τ' := [(1, AV.optr 5 1 0), (2, AV.optr 11 1 0), (3, AV.i64 r20), (4, AV.i64 r26)]) (Γ' := [⟨1, some (r5.map AV.f32)⟩, ⟨1, some (r6.map AV.f32)⟩, ⟨1, some (r7.map AV.f32)⟩, ⟨1, some (r8.map AV.f32)⟩, ⟨1, some (r9.map AV.i64)⟩, ⟨1, some [AV.i64 r1, AV.i64 r2, AV.oref 0 1 0 r5.length, AV.oref 1 1 0 r6.length, AV.oref 2 1 0 r7.length, AV.oref 3 1 0 r8.length, AV.i64 r3, AV.i64 r4, AV.oref 4 1 0 r9.length]⟩, ⟨1, some (r21.map AV.f32)⟩, ⟨1, some (r22.map AV.f32)⟩, ⟨1, some (r23.map AV.f32)⟩, ⟨1, some (r24.map AV.f32)⟩, ⟨1, some (r25.map AV.i64)⟩, ⟨1, some [AV.i64 r10, AV.i64 r11, AV.oref 6 1 0 r14.length, AV.oref 7 1 0 r15.length, AV.oref 8 1 0 r16.length, AV.oref 9 1 0 r17.length, AV.i64 r12, AV.i64 r13, AV.oref 10 1 0 r18.length]⟩, ⟨0, none⟩, ⟨0, none⟩, ⟨0, none⟩, ⟨0, none⟩, ⟨0, none⟩, ⟨0, none⟩]) ⟨(ALe.refl _), (ALe.refl _), (ALe.refl _), (ALe.refl _), trivial⟩ ⟨⟨rfl, .inr rfl⟩, ⟨rfl, .inr rfl⟩, ⟨rfl, .inr rfl⟩, ⟨rfl, .inr rfl⟩, ⟨rfl, .inr rfl⟩, ⟨rfl, .inr rfl⟩, ⟨rfl, .inr rfl⟩, ⟨rfl, .inr rfl⟩, ⟨rfl, .inr rfl⟩, ⟨rfl, .inr rfl⟩, ⟨rfl, .inr rfl⟩, ⟨rfl, .inr rfl⟩, ⟨rfl, .inr rfl⟩, ⟨rfl, .inr rfl⟩, ⟨rfl, .inr rfl⟩, ⟨rfl, .inr rfl⟩, ⟨rfl, .inr rfl⟩, ⟨rfl, .inr rfl⟩, trivial⟩ ?_
    refine RunC.seq ?_
    refine RunC.seq ?_
    rcases bsel_some h with ⟨hc12, h⟩ | ⟨hc12, h⟩
    · refine RunC.regionW ?_
      refine ROps.l (r := AV.i64 r26) rfl rfl rfl (LOp.move rfl rfl) ?_
      refine ROps.l (r := AV.b true) rfl rfl rfl (LOp.eqb (LOp.lss rfl rfl rfl) hc12) ?_
      refine ROps.nil ?_
      refine RunC.cond_true rfl rfl ?_
      refine RunC.seq ?_
      refine RunC.regionW ?_
      refine ROps.l (r := AV.b false) rfl rfl rfl (LOp.assign rfl rfl) ?_
      refine ROps.nil ?_
      refine RunC.ret ?_
      have hq := Option.some.inj h
      subst q0
      exact bodyQ.pure (.inr rfl) rfl (Res.one rfl (RV.tmp rfl))
    · refine RunC.regionW ?_
      refine ROps.l (r := AV.i64 r26) rfl rfl rfl (LOp.move rfl rfl) ?_
      refine ROps.l (r := AV.b false) rfl rfl rfl (LOp.eqb (LOp.lss rfl rfl rfl) hc12) ?_
      refine ROps.nil ?_
      refine RunC.cond_false rfl rfl ?_
      refine RunC.skip ?_
      refine RunC.seq ?_
      refine RunC.seq ?_
      rcases bsel_some h with ⟨hc13, h⟩ | ⟨hc13, h⟩
      · refine RunC.regionW ?_
        refine ROps.l (r := AV.i64 r26) rfl rfl rfl (LOp.move rfl rfl) ?_
        refine ROps.l (r := AV.i64 r20) rfl rfl rfl (LOp.move rfl rfl) ?_
        refine ROps.l (r := AV.b true) rfl rfl rfl (LOp.eqb (LOp.neq rfl rfl rfl) hc13) ?_
        refine ROps.nil ?_
        refine RunC.cond_true rfl rfl ?_
        refine RunC.seq ?_
        refine RunC.regionW ?_
        refine ROps.l (r := AV.b false) rfl rfl rfl (LOp.assign rfl rfl) ?_
        refine ROps.nil ?_
        refine RunC.ret ?_
        have hq := Option.some.inj h
        subst q0
        exact bodyQ.pure (.inr rfl) rfl (Res.one rfl (RV.tmp rfl))
      · refine RunC.regionW ?_
        refine ROps.l (r := AV.i64 r26) rfl rfl rfl (LOp.move rfl rfl) ?_
        refine ROps.l (r := AV.i64 r20) rfl rfl rfl (LOp.move rfl rfl) ?_
        refine ROps.l (r := AV.b false) rfl rfl rfl (LOp.eqb (LOp.neq rfl rfl rfl) hc13) ?_
        refine ROps.nil ?_
        refine RunC.cond_false rfl rfl ?_
        refine RunC.skip ?_
        refine RunC.seq ?_
        obtain ⟨r27, r28, r29, r30, r31, r32, r33, r34, r35, hf14, h⟩ := obind9_some h
        refine RunC.regionW ?_
        refine ROps.d (r := AV.agg [AV.i64 r27, AV.i64 r28, AV.oref 12 1 0 r31.length, AV.oref 13 1 0 r32.length, AV.oref 14 1 0 r33.length, AV.oref 15 1 0 r34.length, AV.i64 r29, AV.i64 r30, AV.oref 16 1 0 r35.length]) (fs := [(12, (r31.map AV.f32)), (13, (r32.map AV.f32)), (14, (r33.map AV.f32)), (15, (r34.map AV.f32)), (16, (r35.map AV.i64))]) (Γ' := [⟨1, some (r5.map AV.f32)⟩, ⟨1, some (r6.map AV.f32)⟩, ⟨1, some (r7.map AV.f32)⟩, ⟨1, some (r8.map AV.f32)⟩, ⟨1, some (r9.map AV.i64)⟩, ⟨1, some [AV.i64 r1, AV.i64 r2, AV.oref 0 1 0 r5.length, AV.oref 1 1 0 r6.length, AV.oref 2 1 0 r7.length, AV.oref 3 1 0 r8.length, AV.i64 r3, AV.i64 r4, AV.oref 4 1 0 r9.length]⟩, ⟨1, some (r21.map AV.f32)⟩, ⟨1, some (r22.map AV.f32)⟩, ⟨1, some (r23.map AV.f32)⟩, ⟨1, some (r24.map AV.f32)⟩, ⟨1, some (r25.map AV.i64)⟩, ⟨1, some [AV.i64 r10, AV.i64 r11, AV.oref 6 1 0 r14.length, AV.oref 7 1 0 r15.length, AV.oref 8 1 0 r16.length, AV.oref 9 1 0 r17.length, AV.i64 r12, AV.i64 r13, AV.oref 10 1 0 r18.length]⟩, ⟨1, some (r31.map AV.f32)⟩, ⟨1, some (r32.map AV.f32)⟩, ⟨1, some (r33.map AV.f32)⟩, ⟨1, some (r34.map AV.f32)⟩, ⟨1, some (r35.map AV.i64)⟩, ⟨0, none⟩]) rfl rfl rfl (TOp.callBN (ls := [(r31.map AV.f32), (r32.map AV.f32), (r33.map AV.f32), (r34.map AV.f32), (r35.map AV.i64)]) [12, 13, 14, 15, 16] (CallAs.func ent20 rfl rfl) Bors.nil rfl (f20_ok r27 r28 r29 r30 r31 r32 r33 r34 r35 hf14) (and_all (lts0_map (f := AV.f32) (fun _ => rfl) _) (and_all (lts0_map (f := AV.f32) (fun _ => rfl) _) (and_all (lts0_map (f := AV.f32) (fun _ => rfl) _) (and_all (lts0_map (f := AV.f32) (fun _ => rfl) _) (and_all (lts0_map (f := AV.i64) (fun _ => rfl) _) rfl))))) (and_all (noss_map (f := AV.f32) (fun _ => rfl) _) (and_all (noss_map (f := AV.f32) (fun _ => rfl) _) (and_all (noss_map (f := AV.f32) (fun _ => rfl) _) (and_all (noss_map (f := AV.f32) (fun _ => rfl) _) (and_all (noss_map (f := AV.i64) (fun _ => rfl) _) rfl))))) rfl (by decide) (ns_of ⟨⟨_, rfl⟩, ⟨_, rfl⟩, ⟨_, rfl⟩, ⟨_, rfl⟩, ⟨_, rfl⟩, trivial⟩)) rfl ?_
        refine ROps.d (r := AV.optr 17 1 0) (fs := [(17, [AV.i64 0, AV.i64 0, AV.nilsl, AV.nilsl, AV.nilsl, AV.nilsl, AV.i64 0, AV.i64 0, AV.nilsl])]) (Γ' := [⟨1, some (r5.map AV.f32)⟩, ⟨1, some (r6.map AV.f32)⟩, ⟨1, some (r7.map AV.f32)⟩, ⟨1, some (r8.map AV.f32)⟩, ⟨1, some (r9.map AV.i64)⟩, ⟨1, some [AV.i64 r1, AV.i64 r2, AV.oref 0 1 0 r5.length, AV.oref 1 1 0 r6.length, AV.oref 2 1 0 r7.length, AV.oref 3 1 0 r8.length, AV.i64 r3, AV.i64 r4, AV.oref 4 1 0 r9.length]⟩, ⟨1, some (r21.map AV.f32)⟩, ⟨1, some (r22.map AV.f32)⟩, ⟨1, some (r23.map AV.f32)⟩, ⟨1, some (r24.map AV.f32)⟩, ⟨1, some (r25.map AV.i64)⟩, ⟨1, some [AV.i64 r10, AV.i64 r11, AV.oref 6 1 0 r14.length, AV.oref 7 1 0 r15.length, AV.oref 8 1 0 r16.length, AV.oref 9 1 0 r17.length, AV.i64 r12, AV.i64 r13, AV.oref 10 1 0 r18.length]⟩, ⟨1, some (r31.map AV.f32)⟩, ⟨1, some (r32.map AV.f32)⟩, ⟨1, some (r33.map AV.f32)⟩, ⟨1, some (r34.map AV.f32)⟩, ⟨1, some (r35.map AV.i64)⟩, ⟨1, some [AV.i64 0, AV.i64 0, AV.nilsl, AV.nilsl, AV.nilsl, AV.nilsl, AV.i64 0, AV.i64 0, AV.nilsl]⟩]) rfl rfl rfl (TOp.alloc_o (g := ⟨0, none⟩) 17 rfl zer47 zok47 rfl) rfl ?_
        refine ROps.store_le (r := AV.agg [AV.i64 r27, AV.i64 r28, AV.oref 12 1 0 r31.length, AV.oref 13 1 0 r32.length, AV.oref 14 1 0 r33.length, AV.oref 15 1 0 r34.length, AV.i64 r29, AV.i64 r30, AV.oref 16 1 0 r35.length]) (l' := [AV.i64 r27, AV.i64 r28, AV.oref 12 1 0 r31.length, AV.oref 13 1 0 r32.length, AV.oref 14 1 0 r33.length, AV.oref 15 1 0 r34.length, AV.i64 r29, AV.i64 r30, AV.oref 16 1 0 r35.length]) (Γ' := [⟨1, some (r5.map AV.f32)⟩, ⟨1, some (r6.map AV.f32)⟩, ⟨1, some (r7.map AV.f32)⟩, ⟨1, some (r8.map AV.f32)⟩, ⟨1, some (r9.map AV.i64)⟩, ⟨1, some [AV.i64 r1, AV.i64 r2, AV.oref 0 1 0 r5.length, AV.oref 1 1 0 r6.length, AV.oref 2 1 0 r7.length, AV.oref 3 1 0 r8.length, AV.i64 r3, AV.i64 r4, AV.oref 4 1 0 r9.length]⟩, ⟨1, some (r21.map AV.f32)⟩, ⟨1, some (r22.map AV.f32)⟩, ⟨1, some (r23.map AV.f32)⟩, ⟨1, some (r24.map AV.f32)⟩, ⟨1, some (r25.map AV.i64)⟩, ⟨1, some [AV.i64 r10, AV.i64 r11, AV.oref 6 1 0 r14.length, AV.oref 7 1 0 r15.length, AV.oref 8 1 0 r16.length, AV.oref 9 1 0 r17.length, AV.i64 r12, AV.i64 r13, AV.oref 10 1 0 r18.length]⟩, ⟨1, some (r31.map AV.f32)⟩, ⟨1, some (r32.map AV.f32)⟩, ⟨1, some (r33.map AV.f32)⟩, ⟨1, some (r34.map AV.f32)⟩, ⟨1, some (r35.map AV.i64)⟩, ⟨1, some [AV.i64 r27, AV.i64 r28, AV.oref 12 1 0 r31.length, AV.oref 13 1 0 r32.length, AV.oref 14 1 0 r33.length, AV.oref 15 1 0 r34.length, AV.i64 r29, AV.i64 r30, AV.oref 16 1 0 r35.length]⟩]) rfl siz47 rfl rfl rfl (ALe.refl _) rfl rfl rfl rfl (Nat.le_of_ble_eq_true rfl) rfl rfl ?_
        refine ROps.nil ?_
        refine RunC.seq ?_
        refine RunC.seq ?_
        obtain ⟨r36, hf15, h⟩ := obind_some h
        rcases bsel_some h with ⟨hc16, h⟩ | ⟨hc16, h⟩
        · refine RunC.regionW ?_
          refine ROps.d (r := AV.agg [AV.i64 r27, AV.i64 r28, AV.oref 12 1 0 r31.length, AV.oref 13 1 0 r32.length, AV.oref 14 1 0 r33.length, AV.oref 15 1 0 r34.length, AV.i64 r29, AV.i64 r30, AV.oref 16 1 0 r35.length]) (fs := []) (Γ' := [⟨1, some (r5.map AV.f32)⟩, ⟨1, some (r6.map AV.f32)⟩, ⟨1, some (r7.map AV.f32)⟩, ⟨1, some (r8.map AV.f32)⟩, ⟨1, some (r9.map AV.i64)⟩, ⟨1, some [AV.i64 r1, AV.i64 r2, AV.oref 0 1 0 r5.length, AV.oref 1 1 0 r6.length, AV.oref 2 1 0 r7.length, AV.oref 3 1 0 r8.length, AV.i64 r3, AV.i64 r4, AV.oref 4 1 0 r9.length]⟩, ⟨1, some (r21.map AV.f32)⟩, ⟨1, some (r22.map AV.f32)⟩, ⟨1, some (r23.map AV.f32)⟩, ⟨1, some (r24.map AV.f32)⟩, ⟨1, some (r25.map AV.i64)⟩, ⟨1, some [AV.i64 r10, AV.i64 r11, AV.oref 6 1 0 r14.length, AV.oref 7 1 0 r15.length, AV.oref 8 1 0 r16.length, AV.oref 9 1 0 r17.length, AV.i64 r12, AV.i64 r13, AV.oref 10 1 0 r18.length]⟩, ⟨1, some (r31.map AV.f32)⟩, ⟨1, some (r32.map AV.f32)⟩, ⟨1, some (r33.map AV.f32)⟩, ⟨1, some (r34.map AV.f32)⟩, ⟨1, some (r35.map AV.i64)⟩, ⟨1, some [AV.i64 r27, AV.i64 r28, AV.oref 12 1 0 r31.length, AV.oref 13 1 0 r32.length, AV.oref 14 1 0 r33.length, AV.oref 15 1 0 r34.length, AV.i64 r29, AV.i64 r30, AV.oref 16 1 0 r35.length]⟩]) rfl rfl rfl (TOp.loadAgg_o rfl agg47 siz47 rfl rfl rfl rfl) rfl ?_
          refine ROps.d (r := AV.agg [AV.i64 r1, AV.i64 r2, AV.oref 0 1 0 r5.length, AV.oref 1 1 0 r6.length, AV.oref 2 1 0 r7.length, AV.oref 3 1 0 r8.length, AV.i64 r3, AV.i64 r4, AV.oref 4 1 0 r9.length]) (fs := []) (Γ' := [⟨1, some (r5.map AV.f32)⟩, ⟨1, some (r6.map AV.f32)⟩, ⟨1, some (r7.map AV.f32)⟩, ⟨1, some (r8.map AV.f32)⟩, ⟨1, some (r9.map AV.i64)⟩, ⟨1, some [AV.i64 r1, AV.i64 r2, AV.oref 0 1 0 r5.length, AV.oref 1 1 0 r6.length, AV.oref 2 1 0 r7.length, AV.oref 3 1 0 r8.length, AV.i64 r3, AV.i64 r4, AV.oref 4 1 0 r9.length]⟩, ⟨1, some (r21.map AV.f32)⟩, ⟨1, some (r22.map AV.f32)⟩, ⟨1, some (r23.map AV.f32)⟩, ⟨1, some (r24.map AV.f32)⟩, ⟨1, some (r25.map AV.i64)⟩, ⟨1, some [AV.i64 r10, AV.i64 r11, AV.oref 6 1 0 r14.length, AV.oref 7 1 0 r15.length, AV.oref 8 1 0 r16.length, AV.oref 9 1 0 r17.length, AV.i64 r12, AV.i64 r13, AV.oref 10 1 0 r18.length]⟩, ⟨1, some (r31.map AV.f32)⟩, ⟨1, some (r32.map AV.f32)⟩, ⟨1, some (r33.map AV.f32)⟩, ⟨1, some (r34.map AV.f32)⟩, ⟨1, some (r35.map AV.i64)⟩, ⟨1, some [AV.i64 r27, AV.i64 r28, AV.oref 12 1 0 r31.length, AV.oref 13 1 0 r32.length, AV.oref 14 1 0 r33.length, AV.oref 15 1 0 r34.length, AV.i64 r29, AV.i64 r30, AV.oref 16 1 0 r35.length]⟩]) rfl rfl rfl (TOp.loadAgg_o rfl agg47 siz47 rfl rfl rfl rfl) rfl ?_
          refine ROps.d (r := AV.b true) (fs := []) (Γ' := [⟨1, some (r5.map AV.f32)⟩, ⟨1, some (r6.map AV.f32)⟩, ⟨1, some (r7.map AV.f32)⟩, ⟨1, some (r8.map AV.f32)⟩, ⟨1, some (r9.map AV.i64)⟩, ⟨1, some [AV.i64 r1, AV.i64 r2, AV.oref 0 1 0 r5.length, AV.oref 1 1 0 r6.length, AV.oref 2 1 0 r7.length, AV.oref 3 1 0 r8.length, AV.i64 r3, AV.i64 r4, AV.oref 4 1 0 r9.length]⟩, ⟨1, some (r21.map AV.f32)⟩, ⟨1, some (r22.map AV.f32)⟩, ⟨1, some (r23.map AV.f32)⟩, ⟨1, some (r24.map AV.f32)⟩, ⟨1, some (r25.map AV.i64)⟩, ⟨1, some [AV.i64 r10, AV.i64 r11, AV.oref 6 1 0 r14.length, AV.oref 7 1 0 r15.length, AV.oref 8 1 0 r16.length, AV.oref 9 1 0 r17.length, AV.i64 r12, AV.i64 r13, AV.oref 10 1 0 r18.length]⟩, ⟨1, some (r31.map AV.f32)⟩, ⟨1, some (r32.map AV.f32)⟩, ⟨1, some (r33.map AV.f32)⟩, ⟨1, some (r34.map AV.f32)⟩, ⟨1, some (r35.map AV.i64)⟩, ⟨1, some [AV.i64 r27, AV.i64 r28, AV.oref 12 1 0 r31.length, AV.oref 13 1 0 r32.length, AV.oref 14 1 0 r33.length, AV.oref 15 1 0 r34.length, AV.i64 r29, AV.i64 r30, AV.oref 16 1 0 r35.length]⟩]) rfl rfl rfl (TOp.eqb (TOp.callB (CallAs.func ent21 rfl rfl) (Bors.cons (Bor.agg (Bors.cons (Bor.pure rfl) (Bors.cons (Bor.pure rfl) (Bors.cons (Bor.own (f := AV.f32) (fun _ => rfl) rfl rfl) (Bors.cons (Bor.own (f := AV.f32) (fun _ => rfl) rfl rfl) (Bors.cons (Bor.own (f := AV.f32) (fun _ => rfl) rfl rfl) (Bors.cons (Bor.own (f := AV.f32) (fun _ => rfl) rfl rfl) (Bors.cons (Bor.pure rfl) (Bors.cons (Bor.pure rfl) (Bors.cons (Bor.own (f := AV.i64) (fun _ => rfl) rfl rfl) Bors.nil)))))))))) (Bors.cons (Bor.agg (Bors.cons (Bor.pure rfl) (Bors.cons (Bor.pure rfl) (Bors.cons (Bor.own (f := AV.f32) (fun _ => rfl) rfl rfl) (Bors.cons (Bor.own (f := AV.f32) (fun _ => rfl) rfl rfl) (Bors.cons (Bor.own (f := AV.f32) (fun _ => rfl) rfl rfl) (Bors.cons (Bor.own (f := AV.f32) (fun _ => rfl) rfl rfl) (Bors.cons (Bor.pure rfl) (Bors.cons (Bor.pure rfl) (Bors.cons (Bor.own (f := AV.i64) (fun _ => rfl) rfl rfl) Bors.nil)))))))))) Bors.nil)) rfl rfl (f21_ok r27 r28 r31 r32 r33 r34 r29 r30 r35 r1 r2 r5 r6 r7 r8 r3 r4 r9 r36 hf15)) hc16) rfl ?_
          refine ROps.l (r := AV.b false) rfl rfl rfl (LOp.eqb (LOp.not rfl rfl) rfl) ?_
          refine ROps.nil ?_
          refine RunC.wl (τ' := [(2, AV.optr 11 1 0), (3, AV.i64 r20), (27, AV.b false)]) (Γ' := [⟨1, none⟩, ⟨1, none⟩, ⟨1, none⟩, ⟨1, none⟩, ⟨1, none⟩, ⟨1, none⟩, ⟨1, some (r21.map AV.f32)⟩, ⟨1, some (r22.map AV.f32)⟩, ⟨1, some (r23.map AV.f32)⟩, ⟨1, some (r24.map AV.f32)⟩, ⟨1, some (r25.map AV.i64)⟩, ⟨1, some [AV.i64 r10, AV.i64 r11, AV.oref 6 1 0 r14.length, AV.oref 7 1 0 r15.length, AV.oref 8 1 0 r16.length, AV.oref 9 1 0 r17.length, AV.i64 r12, AV.i64 r13, AV.oref 10 1 0 r18.length]⟩, ⟨1, none⟩, ⟨1, none⟩, ⟨1, none⟩, ⟨1, none⟩, ⟨1, none⟩, ⟨1, none⟩]) ⟨(ALe.refl _), (ALe.refl _), (ALe.refl _), trivial⟩ ⟨⟨rfl, .inl rfl⟩, ⟨rfl, .inl rfl⟩, ⟨rfl, .inl rfl⟩, ⟨rfl, .inl rfl⟩, ⟨rfl, .inl rfl⟩, ⟨rfl, .inl rfl⟩, ⟨rfl, .inr rfl⟩, ⟨rfl, .inr rfl⟩, ⟨rfl, .inr rfl⟩, ⟨rfl, .inr rfl⟩, ⟨rfl, .inr rfl⟩, ⟨rfl, .inr rfl⟩, ⟨rfl, .inl rfl⟩, ⟨rfl, .inl rfl⟩, ⟨rfl, .inl rfl⟩, ⟨rfl, .inl rfl⟩, ⟨rfl, .inl rfl⟩, ⟨rfl, .inl rfl⟩, trivial⟩ ?_
          refine RunC.cond_false rfl rfl ?_
          refine RunC.skip ?_
          refine RunC.seq ?_
          refine RunC.regionW ?_
          refine ROps.l (r := AV.i64 1) rfl rfl rfl (LOp.assign rfl rfl) ?_
          refine ROps.nil ?_
          refine RunC.seq ?_
          obtain ⟨r37, hf17, h⟩ := obind_some h
          refine RunC.regionW ?_
          refine ROps.d (r := AV.agg [AV.i64 r10, AV.i64 r11, AV.oref 6 1 0 r14.length, AV.oref 7 1 0 r15.length, AV.oref 8 1 0 r16.length, AV.oref 9 1 0 r17.length, AV.i64 r12, AV.i64 r13, AV.oref 10 1 0 r18.length]) (fs := []) (Γ' := [⟨1, none⟩, ⟨1, none⟩, ⟨1, none⟩, ⟨1, none⟩, ⟨1, none⟩, ⟨1, none⟩, ⟨1, some (r21.map AV.f32)⟩, ⟨1, some (r22.map AV.f32)⟩, ⟨1, some (r23.map AV.f32)⟩, ⟨1, some (r24.map AV.f32)⟩, ⟨1, some (r25.map AV.i64)⟩, ⟨1, some [AV.i64 r10, AV.i64 r11, AV.oref 6 1 0 r14.length, AV.oref 7 1 0 r15.length, AV.oref 8 1 0 r16.length, AV.oref 9 1 0 r17.length, AV.i64 r12, AV.i64 r13, AV.oref 10 1 0 r18.length]⟩, ⟨1, none⟩, ⟨1, none⟩, ⟨1, none⟩, ⟨1, none⟩, ⟨1, none⟩, ⟨1, none⟩]) rfl rfl rfl (TOp.loadAgg_o rfl agg47 siz47 rfl rfl rfl rfl) rfl ?_
          refine ROps.l (r := AV.i64 1) rfl rfl rfl (LOp.move rfl rfl) ?_
          refine ROps.d (r := AV.i64 r37) (fs := []) (Γ' := [⟨1, none⟩, ⟨1, none⟩, ⟨1, none⟩, ⟨1, none⟩, ⟨1, none⟩, ⟨1, none⟩, ⟨1, some (r21.map AV.f32)⟩, ⟨1, some (r22.map AV.f32)⟩, ⟨1, some (r23.map AV.f32)⟩, ⟨1, some (r24.map AV.f32)⟩, ⟨1, some (r25.map AV.i64)⟩, ⟨1, some [AV.i64 r10, AV.i64 r11, AV.oref 6 1 0 r14.length, AV.oref 7 1 0 r15.length, AV.oref 8 1 0 r16.length, AV.oref 9 1 0 r17.length, AV.i64 r12, AV.i64 r13, AV.oref 10 1 0 r18.length]⟩, ⟨1, none⟩, ⟨1, none⟩, ⟨1, none⟩, ⟨1, none⟩, ⟨1, none⟩, ⟨1, none⟩]) rfl rfl rfl (TOp.callB (CallAs.func ent23 rfl rfl) (Bors.cons (Bor.agg (Bors.cons (Bor.pure rfl) (Bors.cons (Bor.pure rfl) (Bors.cons (Bor.own (f := AV.f32) (fun _ => rfl) rfl (of_decide_eq_true hn6)) (Bors.cons (Bor.own (f := AV.f32) (fun _ => rfl) rfl (of_decide_eq_true hn7)) (Bors.cons (Bor.own (f := AV.f32) (fun _ => rfl) rfl (of_decide_eq_true hn8)) (Bors.cons (Bor.own (f := AV.f32) (fun _ => rfl) rfl (of_decide_eq_true hn9)) (Bors.cons (Bor.pure rfl) (Bors.cons (Bor.pure rfl) (Bors.cons (Bor.own (f := AV.i64) (fun _ => rfl) rfl (of_decide_eq_true hn10)) Bors.nil)))))))))) (Bors.cons (Bor.pure rfl) Bors.nil)) rfl rfl (f23_ok r10 r11 r21 r22 r23 r24 r12 r13 r25 1 r37 hf17)) rfl ?_
          refine ROps.l (r := AV.i64 r37) rfl rfl rfl (LOp.assign rfl rfl) ?_
          refine ROps.nil ?_
          refine RunC.wl (τ' := [(3, AV.i64 r20), (4, AV.i64 r37)]) (Γ' := [⟨1, none⟩, ⟨1, none⟩, ⟨1, none⟩, ⟨1, none⟩, ⟨1, none⟩, ⟨1, none⟩, ⟨1, none⟩, ⟨1, none⟩, ⟨1, none⟩, ⟨1, none⟩, ⟨1, none⟩, ⟨1, none⟩, ⟨1, none⟩, ⟨1, none⟩, ⟨1, none⟩, ⟨1, none⟩, ⟨1, none⟩, ⟨1, none⟩]) ⟨(ALe.refl _), (ALe.refl _), trivial⟩ ⟨⟨rfl, .inl rfl⟩, ⟨rfl, .inl rfl⟩, ⟨rfl, .inl rfl⟩, ⟨rfl, .inl rfl⟩, ⟨rfl, .inl rfl⟩, ⟨rfl, .inl rfl⟩, ⟨rfl, .inl rfl⟩, ⟨rfl, .inl rfl⟩, ⟨rfl, .inl rfl⟩, ⟨rfl, .inl rfl⟩, ⟨rfl, .inl rfl⟩, ⟨rfl, .inl rfl⟩, ⟨rfl, .inl rfl⟩, ⟨rfl, .inl rfl⟩, ⟨rfl, .inl rfl⟩, ⟨rfl, .inl rfl⟩, ⟨rfl, .inl rfl⟩, ⟨rfl, .inl rfl⟩, trivial⟩ ?_
          refine RunC.seq ?_
          refine RunC.seq ?_
          rcases bsel_some h with ⟨hc18, h⟩ | ⟨hc18, h⟩
          · refine RunC.regionW ?_
            refine ROps.l (r := AV.i64 r37) rfl rfl rfl (LOp.move rfl rfl) ?_
            refine ROps.l (r := AV.b true) rfl rfl rfl (LOp.eqb (LOp.lss rfl rfl rfl) hc18) ?_
            refine ROps.nil ?_
            refine RunC.cond_true rfl rfl ?_
            refine RunC.seq ?_
            refine RunC.regionW ?_
            refine ROps.l (r := AV.b false) rfl rfl rfl (LOp.assign rfl rfl) ?_
            refine ROps.nil ?_
            refine RunC.ret ?_
            have hq := Option.some.inj h
            subst q0
            exact bodyQ.pure (.inr rfl) rfl (Res.one rfl (RV.tmp rfl))
          · refine RunC.regionW ?_
            refine ROps.l (r := AV.i64 r37) rfl rfl rfl (LOp.move rfl rfl) ?_
            refine ROps.l (r := AV.b false) rfl rfl rfl (LOp.eqb (LOp.lss rfl rfl rfl) hc18) ?_
            refine ROps.nil ?_
            refine RunC.cond_false rfl rfl ?_
            refine RunC.skip ?_
            refine RunC.seq ?_
            refine RunC.seq ?_
            rcases bsel_some h with ⟨hc19, h⟩ | ⟨hc19, h⟩
            · refine RunC.regionW ?_
              refine ROps.l (r := AV.i64 r37) rfl rfl rfl (LOp.move rfl rfl) ?_
              refine ROps.l (r := AV.i64 r20) rfl rfl rfl (LOp.move rfl rfl) ?_
              refine ROps.l (r := AV.b true) rfl rfl rfl (LOp.eqb (LOp.neq rfl rfl rfl) hc19) ?_
              refine ROps.nil ?_
              refine RunC.cond_true rfl rfl ?_
              refine RunC.seq ?_
              refine RunC.regionW ?_
              refine ROps.l (r := AV.b false) rfl rfl rfl (LOp.assign rfl rfl) ?_
              refine ROps.nil ?_
              refine RunC.ret ?_
              have hq := Option.some.inj h
              subst q0
              exact bodyQ.pure (.inr rfl) rfl (Res.one rfl (RV.tmp rfl))
            · refine RunC.regionW ?_
              refine ROps.l (r := AV.i64 r37) rfl rfl rfl (LOp.move rfl rfl) ?_
              refine ROps.l (r := AV.i64 r20) rfl rfl rfl (LOp.move rfl rfl) ?_
              refine ROps.l (r := AV.b false) rfl rfl rfl (LOp.eqb (LOp.neq rfl rfl rfl) hc19) ?_
              refine ROps.nil ?_
              refine RunC.cond_false rfl rfl ?_
              refine RunC.skip ?_
              refine RunC.seq ?_
              refine RunC.regionW ?_
              refine ROps.l (r := AV.b true) rfl rfl rfl (LOp.assign rfl rfl) ?_
              refine ROps.nil ?_
              refine RunC.ret ?_
              have hq := Option.some.inj h
              subst q0
              exact bodyQ.pure (.inr rfl) rfl (Res.one rfl (RV.tmp rfl))
        · refine RunC.regionW ?_
          refine ROps.d (r := AV.agg [AV.i64 r27, AV.i64 r28, AV.oref 12 1 0 r31.length, AV.oref 13 1 0 r32.length, AV.oref 14 1 0 r33.length, AV.oref 15 1 0 r34.length, AV.i64 r29, AV.i64 r30, AV.oref 16 1 0 r35.length]) (fs := []) (Γ' := [⟨1, some (r5.map AV.f32)⟩, ⟨1, some (r6.map AV.f32)⟩, ⟨1, some (r7.map AV.f32)⟩, ⟨1, some (r8.map AV.f32)⟩, ⟨1, some (r9.map AV.i64)⟩, ⟨1, some [AV.i64 r1, AV.i64 r2, AV.oref 0 1 0 r5.length, AV.oref 1 1 0 r6.length, AV.oref 2 1 0 r7.length, AV.oref 3 1 0 r8.length, AV.i64 r3, AV.i64 r4, AV.oref 4 1 0 r9.length]⟩, ⟨1, some (r21.map AV.f32)⟩, ⟨1, some (r22.map AV.f32)⟩, ⟨1, some (r23.map AV.f32)⟩, ⟨1, some (r24.map AV.f32)⟩, ⟨1, some (r25.map AV.i64)⟩, ⟨1, some [AV.i64 r10, AV.i64 r11, AV.oref 6 1 0 r14.length, AV.oref 7 1 0 r15.length, AV.oref 8 1 0 r16.length, AV.oref 9 1 0 r17.length, AV.i64 r12, AV.i64 r13, AV.oref 10 1 0 r18.length]⟩, ⟨1, some (r31.map AV.f32)⟩, ⟨1, some (r32.map AV.f32)⟩, ⟨1, some (r33.map AV.f32)⟩, ⟨1, some (r34.map AV.f32)⟩, ⟨1, some (r35.map AV.i64)⟩, ⟨1, some [AV.i64 r27, AV.i64 r28, AV.oref 12 1 0 r31.length, AV.oref 13 1 0 r32.length, AV.oref 14 1 0 r33.length, AV.oref 15 1 0 r34.length, AV.i64 r29, AV.i64 r30, AV.oref 16 1 0 r35.length]⟩]) rfl rfl rfl (TOp.loadAgg_o rfl agg47 siz47 rfl rfl rfl rfl) rfl ?_
          refine ROps.d (r := AV.agg [AV.i64 r1, AV.i64 r2, AV.oref 0 1 0 r5.length, AV.oref 1 1 0 r6.length, AV.oref 2 1 0 r7.length, AV.oref 3 1 0 r8.length, AV.i64 r3, AV.i64 r4, AV.oref 4 1 0 r9.length]) (fs := []) (Γ' := [⟨1, some (r5.map AV.f32)⟩, ⟨1, some (r6.map AV.f32)⟩, ⟨1, some (r7.map AV.f32)⟩, ⟨1, some (r8.map AV.f32)⟩, ⟨1, some (r9.map AV.i64)⟩, ⟨1, some [AV.i64 r1, AV.i64 r2, AV.oref 0 1 0 r5.length, AV.oref 1 1 0 r6.length, AV.oref 2 1 0 r7.length, AV.oref 3 1 0 r8.length, AV.i64 r3, AV.i64 r4, AV.oref 4 1 0 r9.length]⟩, ⟨1, some (r21.map AV.f32)⟩, ⟨1, some (r22.map AV.f32)⟩, ⟨1, some (r23.map AV.f32)⟩, ⟨1, some (r24.map AV.f32)⟩, ⟨1, some (r25.map AV.i64)⟩, ⟨1, some [AV.i64 r10, AV.i64 r11, AV.oref 6 1 0 r14.length, AV.oref 7 1 0 r15.length, AV.oref 8 1 0 r16.length, AV.oref 9 1 0 r17.length, AV.i64 r12, AV.i64 r13, AV.oref 10 1 0 r18.length]⟩, ⟨1, some (r31.map AV.f32)⟩, ⟨1, some (r32.map AV.f32)⟩, ⟨1, some (r33.map AV.f32)⟩, ⟨1, some (r34.map AV.f32)⟩, ⟨1, some (r35.map AV.i64)⟩, ⟨1, some [AV.i64 r27, AV.i64 r28, AV.oref 12 1 0 r31.length, AV.oref 13 1 0 r32.length, AV.oref 14 1 0 r33.length, AV.oref 15 1 0 r34.length, AV.i64 r29, AV.i64 r30, AV.oref 16 1 0 r35.length]⟩]) rfl rfl rfl (TOp.loadAgg_o rfl agg47 siz47 rfl rfl rfl rfl) rfl ?_
          refine ROps.d (r := AV.b false) (fs := []) (Γ' := [⟨1, some (r5.map AV.f32)⟩, ⟨1, some (r6.map AV.f32)⟩, ⟨1, some (r7.map AV.f32)⟩, ⟨1, some (r8.map AV.f32)⟩, ⟨1, some (r9.map AV.i64)⟩, ⟨1, some [AV.i64 r1, AV.i64 r2, AV.oref 0 1 0 r5.length, AV.oref 1 1 0 r6.length, AV.oref 2 1 0 r7.length, AV.oref 3 1 0 r8.length, AV.i64 r3, AV.i64 r4, AV.oref 4 1 0 r9.length]⟩, ⟨1, some (r21.map AV.f32)⟩, ⟨1, some (r22.map AV.f32)⟩, ⟨1, some (r23.map AV.f32)⟩, ⟨1, some (r24.map AV.f32)⟩, ⟨1, some (r25.map AV.i64)⟩, ⟨1, some [AV.i64 r10, AV.i64 r11, AV.oref 6 1 0 r14.length, AV.oref 7 1 0 r15.length, AV.oref 8 1 0 r16.length, AV.oref 9 1 0 r17.length, AV.i64 r12, AV.i64 r13, AV.oref 10 1 0 r18.length]⟩, ⟨1, some (r31.map AV.f32)⟩, ⟨1, some (r32.map AV.f32)⟩, ⟨1, some (r33.map AV.f32)⟩, ⟨1, some (r34.map AV.f32)⟩, ⟨1, some (r35.map AV.i64)⟩, ⟨1, some [AV.i64 r27, AV.i64 r28, AV.oref 12 1 0 r31.length, AV.oref 13 1 0 r32.length, AV.oref 14 1 0 r33.length, AV.oref 15 1 0 r34.length, AV.i64 r29, AV.i64 r30, AV.oref 16 1 0 r35.length]⟩]) rfl rfl rfl (TOp.eqb (TOp.callB (CallAs.func ent21 rfl rfl) (Bors.cons (Bor.agg (Bors.cons (Bor.pure rfl) (Bors.cons (Bor.pure rfl) (Bors.cons (Bor.own (f := AV.f32) (fun _ => rfl) rfl rfl) (Bors.cons (Bor.own (f := AV.f32) (fun _ => rfl) rfl rfl) (Bors.cons (Bor.own (f := AV.f32) (fun _ => rfl) rfl rfl) (Bors.cons (Bor.own (f := AV.f32) (fun _ => rfl) rfl rfl) (Bors.cons (Bor.pure rfl) (Bors.cons (Bor.pure rfl) (Bors.cons (Bor.own (f := AV.i64) (fun _ => rfl) rfl rfl) Bors.nil)))))))))) (Bors.cons (Bor.agg (Bors.cons (Bor.pure rfl) (Bors.cons (Bor.pure rfl) (Bors.cons (Bor.own (f := AV.f32) (fun _ => rfl) rfl rfl) (Bors.cons (Bor.own (f := AV.f32) (fun _ => rfl) rfl rfl) (Bors.cons (Bor.own (f := AV.f32) (fun _ => rfl) rfl rfl) (Bors.cons (Bor.own (f := AV.f32) (fun _ => rfl) rfl rfl) (Bors.cons (Bor.pure rfl) (Bors.cons (Bor.pure rfl) (Bors.cons (Bor.own (f := AV.i64) (fun _ => rfl) rfl rfl) Bors.nil)))))))))) Bors.nil)) rfl rfl (f21_ok r27 r28 r31 r32 r33 r34 r29 r30 r35 r1 r2 r5 r6 r7 r8 r3 r4 r9 r36 hf15)) hc16) rfl ?_
          refine ROps.l (r := AV.b true) rfl rfl rfl (LOp.eqb (LOp.not rfl rfl) rfl) ?_
          refine ROps.nil ?_
          refine RunC.wl (τ' := [(2, AV.optr 11 1 0), (3, AV.i64 r20), (27, AV.b true)]) (Γ' := [⟨1, none⟩, ⟨1, none⟩, ⟨1, none⟩, ⟨1, none⟩, ⟨1, none⟩, ⟨1, none⟩, ⟨1, some (r21.map AV.f32)⟩, ⟨1, some (r22.map AV.f32)⟩, ⟨1, some (r23.map AV.f32)⟩, ⟨1, some (r24.map AV.f32)⟩, ⟨1, some (r25.map AV.i64)⟩, ⟨1, some [AV.i64 r10, AV.i64 r11, AV.oref 6 1 0 r14.length, AV.oref 7 1 0 r15.length, AV.oref 8 1 0 r16.length, AV.oref 9 1 0 r17.length, AV.i64 r12, AV.i64 r13, AV.oref 10 1 0 r18.length]⟩, ⟨1, none⟩, ⟨1, none⟩, ⟨1, none⟩, ⟨1, none⟩, ⟨1, none⟩, ⟨1, none⟩]) ⟨(ALe.refl _), (ALe.refl _), (ALe.refl _), trivial⟩ ⟨⟨rfl, .inl rfl⟩, ⟨rfl, .inl rfl⟩, ⟨rfl, .inl rfl⟩, ⟨rfl, .inl rfl⟩, ⟨rfl, .inl rfl⟩, ⟨rfl, .inl rfl⟩, ⟨rfl, .inr rfl⟩, ⟨rfl, .inr rfl⟩, ⟨rfl, .inr rfl⟩, ⟨rfl, .inr rfl⟩, ⟨rfl, .inr rfl⟩, ⟨rfl, .inr rfl⟩, ⟨rfl, .inl rfl⟩, ⟨rfl, .inl rfl⟩, ⟨rfl, .inl rfl⟩, ⟨rfl, .inl rfl⟩, ⟨rfl, .inl rfl⟩, ⟨rfl, .inl rfl⟩, trivial⟩ ?_
          refine RunC.cond_true rfl rfl ?_
          refine RunC.seq ?_
          refine RunC.regionW ?_
          refine ROps.l (r := AV.b false) rfl rfl rfl (LOp.assign rfl rfl) ?_
          refine ROps.nil ?_
          refine RunC.ret ?_
          have hq := Option.some.inj h
          subst q0
          exact bodyQ.pure (.inr rfl) rfl (Res.one rfl (RV.tmp rfl))
  · refine RunC.regionW ?_
    refine ROps.d (r := AV.agg [AV.i64 r10, AV.i64 r11, AV.oref 6 1 0 r14.length, AV.oref 7 1 0 r15.length, AV.oref 8 1 0 r16.length, AV.oref 9 1 0 r17.length, AV.i64 r12, AV.i64 r13, AV.oref 10 1 0 r18.length]) (fs := []) (Γ' := [⟨1, some (r5.map AV.f32)⟩, ⟨1, some (r6.map AV.f32)⟩, ⟨1, some (r7.map AV.f32)⟩, ⟨1, some (r8.map AV.f32)⟩, ⟨1, some (r9.map AV.i64)⟩, ⟨1, some [AV.i64 r1, AV.i64 r2, AV.oref 0 1 0 r5.length, AV.oref 1 1 0 r6.length, AV.oref 2 1 0 r7.length, AV.oref 3 1 0 r8.length, AV.i64 r3, AV.i64 r4, AV.oref 4 1 0 r9.length]⟩, ⟨1, some (r14.map AV.f32)⟩, ⟨1, some (r15.map AV.f32)⟩, ⟨1, some (r16.map AV.f32)⟩, ⟨1, some (r17.map AV.f32)⟩, ⟨1, some (r18.map AV.i64)⟩, ⟨1, some [AV.i64 r10, AV.i64 r11, AV.oref 6 1 0 r14.length, AV.oref 7 1 0 r15.length, AV.oref 8 1 0 r16.length, AV.oref 9 1 0 r17.length, AV.i64 r12, AV.i64 r13, AV.oref 10 1 0 r18.length]⟩, ⟨0, none⟩, ⟨0, none⟩, ⟨0, none⟩, ⟨0, none⟩, ⟨0, none⟩, ⟨0, none⟩]) rfl rfl rfl (TOp.loadAgg_o rfl agg47 siz47 rfl rfl rfl rfl) rfl ?_
    refine ROps.d (r := AV.agg [AV.i64 r1, AV.i64 r2, AV.oref 0 1 0 r5.length, AV.oref 1 1 0 r6.length, AV.oref 2 1 0 r7.length, AV.oref 3 1 0 r8.length, AV.i64 r3, AV.i64 r4, AV.oref 4 1 0 r9.length]) (fs := []) (Γ' := [⟨1, some (r5.map AV.f32)⟩, ⟨1, some (r6.map AV.f32)⟩, ⟨1, some (r7.map AV.f32)⟩, ⟨1, some (r8.map AV.f32)⟩, ⟨1, some (r9.map AV.i64)⟩, ⟨1, some [AV.i64 r1, AV.i64 r2, AV.oref 0 1 0 r5.length, AV.oref 1 1 0 r6.length, AV.oref 2 1 0 r7.length, AV.oref 3 1 0 r8.length, AV.i64 r3, AV.i64 r4, AV.oref 4 1 0 r9.length]⟩, ⟨1, some (r14.map AV.f32)⟩, ⟨1, some (r15.map AV.f32)⟩, ⟨1, some (r16.map AV.f32)⟩, ⟨1, some (r17.map AV.f32)⟩, ⟨1, some (r18.map AV.i64)⟩, ⟨1, some [AV.i64 r10, AV.i64 r11, AV.oref 6 1 0 r14.length, AV.oref 7 1 0 r15.length, AV.oref 8 1 0 r16.length, AV.oref 9 1 0 r17.length, AV.i64 r12, AV.i64 r13, AV.oref 10 1 0 r18.length]⟩, ⟨0, none⟩, ⟨0, none⟩, ⟨0, none⟩, ⟨0, none⟩, ⟨0, none⟩, ⟨0, none⟩]) rfl rfl rfl (TOp.loadAgg_o rfl agg47 siz47 rfl rfl rfl rfl) rfl ?_
    refine ROps.d (r := AV.b false) (fs := []) (Γ' := [⟨1, some (r5.map AV.f32)⟩, ⟨1, some (r6.map AV.f32)⟩, ⟨1, some (r7.map AV.f32)⟩, ⟨1, some (r8.map AV.f32)⟩, ⟨1, some (r9.map AV.i64)⟩, ⟨1, some [AV.i64 r1, AV.i64 r2, AV.oref 0 1 0 r5.length, AV.oref 1 1 0 r6.length, AV.oref 2 1 0 r7.length, AV.oref 3 1 0 r8.length, AV.i64 r3, AV.i64 r4, AV.oref 4 1 0 r9.length]⟩, ⟨1, some (r14.map AV.f32)⟩, ⟨1, some (r15.map AV.f32)⟩, ⟨1, some (r16.map AV.f32)⟩, ⟨1, some (r17.map AV.f32)⟩, ⟨1, some (r18.map AV.i64)⟩, ⟨1, some [AV.i64 r10, AV.i64 r11, AV.oref 6 1 0 r14.length, AV.oref 7 1 0 r15.length, AV.oref 8 1 0 r16.length, AV.oref 9 1 0 r17.length, AV.i64 r12, AV.i64 r13, AV.oref 10 1 0 r18.length]⟩, ⟨0, none⟩, ⟨0, none⟩, ⟨0, none⟩, ⟨0, none⟩, ⟨0, none⟩, ⟨0, none⟩]) rfl rfl rfl (TOp.eqb (TOp.callB (CallAs.func ent21 rfl rfl) (Bors.cons (Bor.agg (Bors.cons (Bor.pure rfl) (Bors.cons (Bor.pure rfl) (Bors.cons (Bor.own (f := AV.f32) (fun _ => rfl) rfl rfl) (Bors.cons (Bor.own (f := AV.f32) (fun _ => rfl) rfl rfl) (Bors.cons (Bor.own (f := AV.f32) (fun _ => rfl) rfl rfl) (Bors.cons (Bor.own (f := AV.f32) (fun _ => rfl) rfl rfl) (Bors.cons (Bor.pure rfl) (Bors.cons (Bor.pure rfl) (Bors.cons (Bor.own (f := AV.i64) (fun _ => rfl) rfl rfl) Bors.nil)))))))))) (Bors.cons (Bor.agg (Bors.cons (Bor.pure rfl) (Bors.cons (Bor.pure rfl) (Bors.cons (Bor.own (f := AV.f32) (fun _ => rfl) rfl rfl) (Bors.cons (Bor.own (f := AV.f32) (fun _ => rfl) rfl rfl) (Bors.cons (Bor.own (f := AV.f32) (fun _ => rfl) rfl rfl) (Bors.cons (Bor.own (f := AV.f32) (fun _ => rfl) rfl rfl) (Bors.cons (Bor.pure rfl) (Bors.cons (Bor.pure rfl) (Bors.cons (Bor.own (f := AV.i64) (fun _ => rfl) rfl rfl) Bors.nil)))))))))) Bors.nil)) rfl rfl (f21_ok r10 r11 r14 r15 r16 r17 r12 r13 r18 r1 r2 r5 r6 r7 r8 r3 r4 r9 r19 hf3)) hc4) rfl ?_
    refine ROps.l (r := AV.b true) rfl rfl rfl (LOp.eqb (LOp.not rfl rfl) rfl) ?_
    refine ROps.nil ?_
    refine RunC.cond_true rfl rfl ?_
    refine RunC.seq ?_
    refine RunC.regionW ?_
    refine ROps.l (r := AV.b false) rfl rfl rfl (LOp.assign rfl rfl) ?_
    refine ROps.nil ?_
    refine RunC.ret ?_
    have hq := Option.some.inj h
    subst q0
    exact bodyQ.pure (.inr rfl) rfl (Res.one rfl (RV.tmp rfl))
noncomputable def f57 (a0 : List F) (a1 : Int) : Option (Int) :=
  olet (IntKind.i64.wrap (a1 - (a0.length : Int))) fun (x1 : Int) =>
  bsel (decide (x1 < 0)) (
    some (-1)) (
    some x1)
theorem f57_ok (a0 : List F) (a1 : Int) (q0 : Int) (h : f57 a0 a1 = some q0) : Ev Try.prog 57 [AV.sl a0.length (a0.map AV.f32), AV.i64 a1] [] (AV.i64 q0) [] := by
  refine Ev.start Try.func57 rfl rfl 0 (τ := [(0, AV.sl a0.length (a0.map AV.f32)), (1, AV.i64 a1)]) rfl (Γ' := []) rfl (n := 12) rfl (g := 0) rfl ?_
  unfold f57 at h
  refine RunC.seq ?_
  refine RunC.regionW ?_
  refine ROps.l (r := AV.i64 0) rfl rfl rfl (LOp.assign rfl rfl) ?_
  refine ROps.nil ?_
  refine RunC.seq ?_
  obtain ⟨x1, hx1, h⟩ := olet_some h
  refine RunC.regionW ?_
  refine ROps.l (r := AV.i64 a1) rfl rfl rfl (LOp.move rfl rfl) ?_
  refine ROps.l (r := AV.sl a0.length (a0.map AV.f32)) rfl rfl rfl (LOp.move rfl rfl) ?_
  refine ROps.l (r := AV.i64 (a0.length : Int)) rfl rfl rfl (LOp.len_sl und38 rfl rfl) ?_
  refine ROps.l (r := AV.i64 x1) rfl rfl rfl (LOp.eqr (LOp.sub rfl rfl rfl) (congrArg (AV.ik .i64) hx1)) ?_
  refine ROps.l (r := AV.i64 x1) rfl rfl rfl (LOp.assign rfl rfl) ?_
  refine ROps.nil ?_
  refine RunC.seq ?_
  refine RunC.seq ?_
  rcases bsel_some h with ⟨hc2, h⟩ | ⟨hc2, h⟩
  · refine RunC.regionW ?_
    refine ROps.l (r := AV.i64 x1) rfl rfl rfl (LOp.move rfl rfl) ?_
    refine ROps.l (r := AV.b true) rfl rfl rfl (LOp.eqb (LOp.lss rfl rfl rfl) hc2) ?_
    refine ROps.nil ?_
    refine RunC.cond_true rfl rfl ?_
    refine RunC.seq ?_
    refine RunC.regionW ?_
    refine ROps.l (r := AV.i64 (-1)) rfl rfl rfl (LOp.assign rfl rfl) ?_
    refine ROps.nil ?_
    refine RunC.ret ?_
    have hq := Option.some.inj h
    subst q0
    exact bodyQ.pure (.inr rfl) rfl (Res.one rfl (RV.tmp rfl))
  · refine RunC.regionW ?_
    refine ROps.l (r := AV.i64 x1) rfl rfl rfl (LOp.move rfl rfl) ?_
    refine ROps.l (r := AV.b false) rfl rfl rfl (LOp.eqb (LOp.lss rfl rfl rfl) hc2) ?_
    refine ROps.nil ?_
    refine RunC.cond_false rfl rfl ?_
    refine RunC.skip ?_
    refine RunC.seq ?_
    refine RunC.regionW ?_
    refine ROps.l (r := AV.i64 x1) rfl rfl rfl (LOp.move rfl rfl) ?_
    refine ROps.l (r := AV.i64 x1) rfl rfl rfl (LOp.assign rfl rfl) ?_
    refine ROps.nil ?_
    refine RunC.ret ?_
    have hq := Option.some.inj h
    subst q0
    exact bodyQ.pure (.inr rfl) rfl (Res.one rfl (RV.tmp rfl))
noncomputable def f24 (a0 : Int) (a1 : Int) (a2 : List F) (a3 : Int) : Option (Int) :=
  obind (f57 a2 a3) fun (r1 : Int) =>
  bsel (decide (r1 < 0)) (
    some (-1)) (
    some r1)
theorem f24_ok (a0 : Int) (a1 : Int) (a2 : List F) (a3 : Int) (q0 : Int) (h : f24 a0 a1 a2 a3 = some q0) : Ev Try.prog 24 [AV.agg [AV.i64 a0, AV.i64 a1, AV.sl a2.length (a2.map AV.f32)], AV.i64 a3] [] (AV.i64 q0) [] := by
  refine Ev.start Try.func24 rfl rfl 0 (τ := [(0, AV.agg [AV.i64 a0, AV.i64 a1, AV.sl a2.length (a2.map AV.f32)]), (1, AV.i64 a3)]) rfl (Γ' := []) rfl (n := 12) rfl (g := 0) rfl ?_
  unfold f24 at h
  refine RunC.seq ?_
  refine RunC.regionW ?_
  refine ROps.d (r := AV.ptr [AV.i64 a0, AV.i64 a1, AV.sl a2.length (a2.map AV.f32)]) (fs := []) (Γ' := []) rfl rfl rfl (TOp.box_s rfl rfl rfl) rfl ?_
  refine ROps.l (r := AV.i64 0) rfl rfl rfl (LOp.assign rfl rfl) ?_
  refine ROps.nil ?_
  refine RunC.seq ?_
  obtain ⟨r1, hf1, h⟩ := obind_some h
  refine RunC.regionW ?_
  refine ROps.l (r := AV.ptr [AV.sl a2.length (a2.map AV.f32)]) rfl rfl rfl (LOp.fap und52 rfl siz38 rfl rfl rfl) ?_
  refine ROps.l (r := AV.sl a2.length (a2.map AV.f32)) rfl rfl rfl (LOp.load1 agg38 rfl rfl) ?_
  refine ROps.l (r := AV.i64 a3) rfl rfl rfl (LOp.move rfl rfl) ?_
  refine ROps.d (r := AV.i64 r1) (fs := []) (Γ' := []) rfl rfl rfl (TOp.callB (CallAs.func ent57 rfl rfl) (Bors.cons (Bor.sl (fun _ => rfl)) (Bors.cons (Bor.pure rfl) Bors.nil)) rfl rfl (f57_ok a2 a3 r1 hf1)) rfl ?_
  refine ROps.l (r := AV.i64 r1) rfl rfl rfl (LOp.assign rfl rfl) ?_
  refine ROps.nil ?_
  refine RunC.seq ?_
  refine RunC.seq ?_
  rcases bsel_some h with ⟨hc2, h⟩ | ⟨hc2, h⟩
  · refine RunC.regionW ?_
    refine ROps.l (r := AV.i64 r1) rfl rfl rfl (LOp.move rfl rfl) ?_
    refine ROps.l (r := AV.b true) rfl rfl rfl (LOp.eqb (LOp.lss rfl rfl rfl) hc2) ?_
    refine ROps.nil ?_
    refine RunC.cond_true rfl rfl ?_
    refine RunC.seq ?_
    refine RunC.regionW ?_
    refine ROps.l (r := AV.i64 (-1)) rfl rfl rfl (LOp.assign rfl rfl) ?_
    refine ROps.nil ?_
    refine RunC.ret ?_
    have hq := Option.some.inj h
    subst q0
    exact bodyQ.pure (.inr rfl) rfl (Res.one rfl (RV.tmp rfl))
  · refine RunC.regionW ?_
    refine ROps.l (r := AV.i64 r1) rfl rfl rfl (LOp.move rfl rfl) ?_
    refine ROps.l (r := AV.b false) rfl rfl rfl (LOp.eqb (LOp.lss rfl rfl rfl) hc2) ?_
    refine ROps.nil ?_
    refine RunC.cond_false rfl rfl ?_
    refine RunC.skip ?_
    refine RunC.seq ?_
    refine RunC.regionW ?_
    refine ROps.l (r := AV.i64 r1) rfl rfl rfl (LOp.move rfl rfl) ?_
    refine ROps.l (r := AV.i64 r1) rfl rfl rfl (LOp.assign rfl rfl) ?_
    refine ROps.nil ?_
    refine RunC.ret ?_
    have hq := Option.some.inj h
    subst q0
    exact bodyQ.pure (.inr rfl) rfl (Res.one rfl (RV.tmp rfl))
noncomputable def f61_b1 (a0 : List F) (L1 : List F) (v3 : Int) : Option (LR ((List F) × Int) ((List F)) ((List F))) :=
  bsel (decide (v3 < (a0.length : Int))) (
    obind (at? a0 v3) fun (e4 : F) =>
    obind (setAt? L1 v3 e4) fun (L5 : List F) =>
    olet (IntKind.i64.wrap (v3 + 1)) fun (x6 : Int) =>
    some (LR.next (L5, x6))) (
    some (LR.out L1))
noncomputable def f61_s1 (a0 : List F) : ((List F) × Int) → Option (LR ((List F) × Int) ((List F)) ((List F))) := fun s => f61_b1 a0 s.1 s.2
noncomputable def f61_k1 (L7 : List F) : Option ((List F)) :=
  some L7
noncomputable def f61 (a0 : List F) : Option ((List F)) :=
  need (mkok 4 (a0.length : Int)) <|
  obind (loopM (f61_s1 a0) ((List.replicate (a0.length : Int).toNat (some 0)), 0)) fun z => osum z (fun e => f61_k1 e) (fun r => some r)
theorem f61_ok (a0 : List F) (q0 : List F) (h : f61 a0 = some q0) : Ev Try.prog 61 [AV.sl a0.length (a0.map AV.f32)] [] (AV.oref 0 0 0 q0.length) [⟨0, some (q0.map AV.f32)⟩] := by
  refine Ev.start Try.func61 rfl rfl 1 (τ := [(0, AV.sl a0.length (a0.map AV.f32))]) rfl (Γ' := [⟨0, none⟩]) rfl (n := 22) rfl (g := 0) rfl ?_
  unfold f61 at h
  refine RunC.seq ?_
  refine RunC.regionW ?_
  refine ROps.l (r := AV.nilsl) rfl rfl rfl (LOp.assign rfl rfl) ?_
  refine ROps.nil ?_
  refine RunC.seq ?_
  obtain ⟨hm1, h⟩ := need_some h
  refine RunC.regionW ?_
  refine ROps.l (r := AV.sl a0.length (a0.map AV.f32)) rfl rfl rfl (LOp.move rfl rfl) ?_
  refine ROps.l (r := AV.i64 (a0.length : Int)) rfl rfl rfl (LOp.len_sl und38 rfl rfl) ?_
  refine ROps.d (r := AV.oref 0 1 0 ((a0.length : Int).toNat)) (fs := [(0, ((List.replicate (a0.length : Int).toNat (some 0)).map AV.f32))]) (Γ' := [⟨1, some ((List.replicate (a0.length : Int).toNat (some 0)).map AV.f32)⟩]) rfl rfl rfl (TOp.mkS (g := ⟨0, none⟩) (t := 38) (e := 34) (by_ := 4) (f := AV.f32) (zv := some 0) 0 rfl und38 tin34 rfl siz34 zer34 rfl zel34 rfl rfl rfl hm1) rfl ?_
  refine ROps.l (r := AV.oref 0 1 0 ((a0.length : Int).toNat)) rfl rfl rfl (LOp.assign rfl rfl) ?_
  refine ROps.nil ?_
  refine RunC.seq ?_
  refine RunC.seq ?_
  refine RunC.regionW ?_
  refine ROps.l (r := AV.i64 0) rfl rfl rfl (LOp.assign rfl rfl) ?_
  refine ROps.nil ?_
  obtain ⟨z2, hz_2, h⟩ := obind_some h
  refine RunC.cutN (fun τ Γ => ∃ (L7 : List F), L7.length = (a0.length : Int).toNat ∧ WeakLe τ [(3, AV.oref 0 1 0 ((a0.length : Int).toNat))] ∧ DeadLe Γ [⟨1, some (L7.map AV.f32)⟩] ∧ z2 = .inl L7) ?_ ?_
  · refine RunC.block (RunC.loop (RunL.loopM (x := z2) (f61_s1 a0) (fun (s : (List F) × Int) τ Γ => s.1.length = (a0.length : Int).toNat ∧ WeakLe τ [(0, AV.sl a0.length (a0.map AV.f32)), (3, AV.oref 0 1 0 ((a0.length : Int).toNat)), (4, AV.i64 s.2)] ∧ DeadLe Γ [⟨1, some (s.1.map AV.f32)⟩]) ?_ _ _ _ hz_2 ⟨List.length_replicate, ⟨(ALe.refl _), (ALe.refl _), (ALe.refl _), trivial⟩, ⟨⟨rfl, .inr rfl⟩, trivial⟩⟩))
    rintro ⟨L1, v3⟩ τ2 Γ2 y2_ ⟨hl2, hw2, hd2⟩ h2_ ho2 hr2
    refine RunC.wl (τ' := [(0, AV.sl a0.length (a0.map AV.f32)), (3, AV.oref 0 1 0 ((a0.length : Int).toNat)), (4, AV.i64 v3)]) (Γ' := [⟨1, some (L1.map AV.f32)⟩]) hw2 hd2 ?_
    replace hl2 : L1.length = (a0.length : Int).toNat := hl2
    replace h2_ : f61_b1 a0 L1 v3 = some y2_ := h2_
    unfold f61_b1 at h2_
    refine RunC.seq ?_
    refine RunC.seq ?_
    rcases bsel_some h2_ with ⟨hc2, h2_⟩ | ⟨hc2, h2_⟩
    · refine RunC.regionW ?_
      refine ROps.l (r := AV.i64 v3) rfl rfl rfl (LOp.move rfl rfl) ?_
      refine ROps.l (r := AV.sl a0.length (a0.map AV.f32)) rfl rfl rfl (LOp.move rfl rfl) ?_
      refine ROps.l (r := AV.i64 (a0.length : Int)) rfl rfl rfl (LOp.len_sl und38 rfl rfl) ?_
      refine ROps.l (r := AV.b true) rfl rfl rfl (LOp.eqb (LOp.lss rfl rfl rfl) hc2) ?_
      refine ROps.nil ?_
      refine RunC.cond_true rfl rfl ?_
      refine RunC.skip ?_
      refine RunC.seq ?_
      refine RunC.block ?_
      obtain ⟨e4, he3, h2_⟩ := obind_some h2_
      obtain ⟨L5, he4, h2_⟩ := obind_some h2_
      refine RunC.regionW ?_
      refine ROps.l (r := AV.oref 0 1 0 ((a0.length : Int).toNat)) rfl rfl rfl (LOp.move rfl rfl) ?_
      refine ROps.l (r := AV.i64 v3) rfl rfl rfl (LOp.move rfl rfl) ?_
      refine ROps.l (r := AV.sl a0.length (a0.map AV.f32)) rfl rfl rfl (LOp.move rfl rfl) ?_
      refine ROps.l (r := AV.i64 v3) rfl rfl rfl (LOp.move rfl rfl) ?_
      refine ROps.l (r := AV.ptr [AV.f32 e4]) rfl rfl rfl (LOp.le (LOp.ix (f := AV.f32) und38 siz34 rfl rfl rfl rfl he3) ALe.ptr) ?_
      refine ROps.l (r := AV.f32 e4) rfl rfl rfl (LOp.load1 agg34 rfl rfl) ?_
      refine ROps.d (r := AV.optr 0 1 v3.toNat) (fs := []) (Γ' := [⟨1, some (L1.map AV.f32)⟩]) rfl rfl rfl (TOp.ixo und38 siz34 rfl rfl rfl (set_in he4 hl2) rfl) rfl ?_
      refine ROps.st (f := AV.f32) (i := v3) (Γ' := [⟨1, some (L5.map AV.f32)⟩]) rfl siz34 rfl rfl rfl (ALe.refl _) rfl rfl rfl he4 rfl ?_
      refine ROps.nil ?_
      obtain ⟨x6, hx5, h2_⟩ := olet_some h2_
      refine RunC.regionW ?_
      refine ROps.l (r := AV.i64 v3) rfl rfl rfl (LOp.move rfl rfl) ?_
      refine ROps.l (r := AV.i64 x6) rfl rfl rfl (LOp.eqr (LOp.add rfl rfl rfl) (congrArg (AV.ik .i64) hx5)) ?_
      refine ROps.l (r := AV.i64 x6) rfl rfl rfl (LOp.assign rfl rfl) ?_
      refine ROps.nil ?_
      cases Option.some.inj h2_
      exact ⟨_, rfl, ((setAt?_len he4).trans hl2), ⟨(ALe.refl _), (ALe.refl _), (ALe.refl _), trivial⟩, ⟨⟨rfl, .inr rfl⟩, trivial⟩⟩
    · refine RunC.regionW ?_
      refine ROps.l (r := AV.i64 v3) rfl rfl rfl (LOp.move rfl rfl) ?_
      refine ROps.l (r := AV.sl a0.length (a0.map AV.f32)) rfl rfl rfl (LOp.move rfl rfl) ?_
      refine ROps.l (r := AV.i64 (a0.length : Int)) rfl rfl rfl (LOp.len_sl und38 rfl rfl) ?_
      refine ROps.l (r := AV.b false) rfl rfl rfl (LOp.eqb (LOp.lss rfl rfl rfl) hc2) ?_
      refine ROps.nil ?_
      refine RunC.cond_false rfl rfl ?_
      refine RunC.exit ?_
      cases Option.some.inj h2_
      have hx := ho2 _ rfl
      exact ⟨L1, hl2, ⟨(ALe.refl _), trivial⟩, ⟨⟨rfl, .inr rfl⟩, trivial⟩, hx⟩
  · rintro τ3 Γ3 ⟨L7, hl8, hw3, hd3, rfl⟩
    refine RunC.wl (τ' := [(3, AV.oref 0 1 0 ((a0.length : Int).toNat))]) (Γ' := [⟨1, some (L7.map AV.f32)⟩]) hw3 hd3 ?_
    replace h : f61_k1 L7 = some q0 := h
    unfold f61_k1 at h
    refine RunC.seq ?_
    refine RunC.regionW ?_
    refine ROps.l (r := AV.oref 0 1 0 ((a0.length : Int).toNat)) rfl rfl rfl (LOp.move rfl rfl) ?_
    refine ROps.l (r := AV.oref 0 1 0 ((a0.length : Int).toNat)) rfl rfl rfl (LOp.assign rfl rfl) ?_
    refine ROps.nil ?_
    refine RunC.ret ?_
    have hq := Option.some.inj h
    subst q0
    exact bodyQ.mk (r' := AV.oref 0 1 0 L7.length) [(0, 1)] (.inr rfl) rfl (by decide) rfl rfl (Res.eq (Res.one rfl (RV.tmp rfl)) (by rw [(show L7.length = (a0.length : Int).toNat from hl8)] <;> rfl)) (SelL.arr0 (f := AV.f32) (fun _ => rfl) rfl trivial)
noncomputable def f26 (a0 : Int) (a1 : Int) (a2 : List F) : Option (Int × Int × (List F)) :=
  obind (f61 a2) fun (r1 : List F) =>
  some (a0, a1, r1)
theorem f26_ok (a0 : Int) (a1 : Int) (a2 : List F) (q0 : Int) (q1 : Int) (q2 : List F) (h : f26 a0 a1 a2 = some (q0, q1, q2)) : Ev Try.prog 26 [AV.agg [AV.i64 a0, AV.i64 a1, AV.sl a2.length (a2.map AV.f32)]] [] (AV.agg [AV.i64 q0, AV.i64 q1, AV.oref 0 0 0 q2.length]) [⟨0, some (q2.map AV.f32)⟩] := by
  refine Ev.start Try.func26 rfl rfl 3 (τ := [(0, AV.agg [AV.i64 a0, AV.i64 a1, AV.sl a2.length (a2.map AV.f32)])]) rfl (Γ' := [⟨0, none⟩, ⟨0, none⟩, ⟨0, none⟩]) rfl (n := 15) rfl (g := 0) rfl ?_
  unfold f26 at h
  refine RunC.seq ?_
  refine RunC.regionW ?_
  refine ROps.d (r := AV.ptr [AV.i64 a0, AV.i64 a1, AV.sl a2.length (a2.map AV.f32)]) (fs := []) (Γ' := [⟨0, none⟩, ⟨0, none⟩, ⟨0, none⟩]) rfl rfl rfl (TOp.box_s rfl rfl rfl) rfl ?_
  refine ROps.d (r := AV.optr 0 1 0) (fs := [(0, [AV.i64 0, AV.i64 0, AV.nilsl])]) (Γ' := [⟨1, some [AV.i64 0, AV.i64 0, AV.nilsl]⟩, ⟨0, none⟩, ⟨0, none⟩]) rfl rfl rfl (TOp.alloc_o (g := ⟨0, none⟩) 0 rfl zer40 zok40 rfl) rfl ?_
  refine ROps.nil ?_
  refine RunC.seq ?_
  refine RunC.regionW ?_
  refine ROps.d (r := AV.optr 1 1 0) (fs := [(1, [AV.i64 0, AV.i64 0, AV.nilsl])]) (Γ' := [⟨1, some [AV.i64 0, AV.i64 0, AV.nilsl]⟩, ⟨1, some [AV.i64 0, AV.i64 0, AV.nilsl]⟩, ⟨0, none⟩]) rfl rfl rfl (TOp.alloc_o (g := ⟨0, none⟩) 1 rfl zer40 zok40 rfl) rfl ?_
  refine ROps.nil ?_
  refine RunC.seq ?_
  refine RunC.regionW ?_
  refine ROps.l (r := AV.ptr [AV.i64 a0, AV.i64 a1, AV.sl a2.length (a2.map AV.f32)]) rfl rfl rfl (LOp.fap und52 rfl siz2 rfl rfl rfl) ?_
  refine ROps.l (r := AV.i64 a0) rfl rfl rfl (LOp.load1 agg2 rfl rfl) ?_
  refine ROps.l (r := AV.optr 1 1 0) rfl rfl rfl (LOp.fao und40 rfl siz2 rfl rfl rfl) ?_
  refine ROps.store_le (r := AV.i64 a0) (l' := [AV.i64 a0, AV.i64 0, AV.nilsl]) (Γ' := [⟨1, some [AV.i64 0, AV.i64 0, AV.nilsl]⟩, ⟨1, some [AV.i64 a0, AV.i64 0, AV.nilsl]⟩, ⟨0, none⟩]) rfl siz2 rfl rfl rfl (ALe.refl _) rfl rfl rfl rfl (Nat.le_of_ble_eq_true rfl) rfl rfl ?_
  refine ROps.nil ?_
  refine RunC.seq ?_
  refine RunC.regionW ?_
  refine ROps.l (r := AV.ptr [AV.i64 a1, AV.sl a2.length (a2.map AV.f32)]) rfl rfl rfl (LOp.fap und52 rfl siz2 rfl rfl rfl) ?_
  refine ROps.l (r := AV.i64 a1) rfl rfl rfl (LOp.load1 agg2 rfl rfl) ?_
  refine ROps.l (r := AV.optr 1 1 1) rfl rfl rfl (LOp.fao und40 rfl siz2 rfl rfl rfl) ?_
  refine ROps.store_le (r := AV.i64 a1) (l' := [AV.i64 a0, AV.i64 a1, AV.nilsl]) (Γ' := [⟨1, some [AV.i64 0, AV.i64 0, AV.nilsl]⟩, ⟨1, some [AV.i64 a0, AV.i64 a1, AV.nilsl]⟩, ⟨0, none⟩]) rfl siz2 rfl rfl rfl (ALe.refl _) rfl rfl rfl rfl (Nat.le_of_ble_eq_true rfl) rfl rfl ?_
  refine ROps.nil ?_
  refine RunC.seq ?_
  obtain ⟨r1, hf1, h⟩ := obind_some h
  refine RunC.regionW ?_
  refine ROps.l (r := AV.ptr [AV.sl a2.length (a2.map AV.f32)]) rfl rfl rfl (LOp.fap und52 rfl siz38 rfl rfl rfl) ?_
  refine ROps.l (r := AV.sl a2.length (a2.map AV.f32)) rfl rfl rfl (LOp.load1 agg38 rfl rfl) ?_
  refine ROps.d (r := AV.oref 2 1 0 r1.length) (fs := [(2, (r1.map AV.f32))]) (Γ' := [⟨1, some [AV.i64 0, AV.i64 0, AV.nilsl]⟩, ⟨1, some [AV.i64 a0, AV.i64 a1, AV.nilsl]⟩, ⟨1, some (r1.map AV.f32)⟩]) rfl rfl rfl (TOp.callBN (ls := [(r1.map AV.f32)]) [2] (CallAs.func ent61 rfl rfl) (Bors.cons (Bor.sl (fun _ => rfl)) Bors.nil) rfl (f61_ok a2 r1 hf1) (and_all (lts0_map (f := AV.f32) (fun _ => rfl) _) rfl) (and_all (noss_map (f := AV.f32) (fun _ => rfl) _) rfl) rfl (by decide) (ns_of ⟨⟨_, rfl⟩, trivial⟩)) rfl ?_
  refine ROps.l (r := AV.optr 1 1 2) rfl rfl rfl (LOp.fao und40 rfl siz38 rfl rfl rfl) ?_
  refine ROps.store_le (r := AV.oref 2 1 0 r1.length) (l' := [AV.i64 a0, AV.i64 a1, AV.oref 2 1 0 r1.length]) (Γ' := [⟨1, some [AV.i64 0, AV.i64 0, AV.nilsl]⟩, ⟨1, some [AV.i64 a0, AV.i64 a1, AV.oref 2 1 0 r1.length]⟩, ⟨1, some (r1.map AV.f32)⟩]) rfl siz38 rfl rfl rfl (ALe.refl _) rfl rfl rfl rfl (Nat.le_of_ble_eq_true rfl) rfl rfl ?_
  refine ROps.nil ?_
  refine RunC.seq ?_
  refine RunC.regionW ?_
  refine ROps.d (r := AV.agg [AV.i64 a0, AV.i64 a1, AV.oref 2 1 0 r1.length]) (fs := []) (Γ' := [⟨1, some [AV.i64 0, AV.i64 0, AV.nilsl]⟩, ⟨1, some [AV.i64 a0, AV.i64 a1, AV.oref 2 1 0 r1.length]⟩, ⟨1, some (r1.map AV.f32)⟩]) rfl rfl rfl (TOp.loadAgg_o rfl agg40 siz40 rfl rfl rfl rfl) rfl ?_
  refine ROps.store_le (r := AV.agg [AV.i64 a0, AV.i64 a1, AV.oref 2 1 0 r1.length]) (l' := [AV.i64 a0, AV.i64 a1, AV.oref 2 1 0 r1.length]) (Γ' := [⟨1, some [AV.i64 a0, AV.i64 a1, AV.oref 2 1 0 r1.length]⟩, ⟨1, some [AV.i64 a0, AV.i64 a1, AV.oref 2 1 0 r1.length]⟩, ⟨1, some (r1.map AV.f32)⟩]) rfl siz40 rfl rfl rfl (ALe.refl _) rfl rfl rfl rfl (Nat.le_of_ble_eq_true rfl) rfl rfl ?_
  refine ROps.nil ?_
  refine RunC.ret ?_
  have hq := Option.some.inj h
  obtain ⟨hq0, hq⟩ := Prod.mk.inj hq
  obtain ⟨hq1, hq⟩ := Prod.mk.inj hq
  subst q0
  subst q1
  subst q2
  exact bodyQ.mk (r' := AV.agg [AV.i64 a0, AV.i64 a1, AV.oref 2 1 0 r1.length]) [(2, 1)] (.inr rfl) rfl (by decide) rfl rfl (Res.one rfl (RV.cell agg40 siz40 rfl rfl rfl rfl)) (SelL.arr0 (f := AV.f32) (fun _ => rfl) rfl trivial)
noncomputable def f99 (a0 : Int) (a1 : Int) (a2 : Int) : Option (Bool) :=
  bsel (decide (a1 ≤ a0)) (
    some (decide (a0 ≤ a2))) (
    some false)
theorem f99_ok (a0 : Int) (a1 : Int) (a2 : Int) (q0 : Bool) (h : f99 a0 a1 a2 = some q0) : Ev Try.prog 99 [AV.i64 a0, AV.i64 a1, AV.i64 a2] [] (AV.b q0) [] := by
  refine Ev.start Try.func99 rfl rfl 0 (τ := [(0, AV.i64 a0), (1, AV.i64 a1), (2, AV.i64 a2)]) rfl (Γ' := []) rfl (n := 15) rfl (g := 0) rfl ?_
  unfold f99 at h
  refine RunC.seq ?_
  refine RunC.regionW ?_
  refine ROps.l (r := AV.b false) rfl rfl rfl (LOp.assign rfl rfl) ?_
  refine ROps.nil ?_
  refine RunC.seq ?_
  rcases bsel_some h with ⟨hc1, h⟩ | ⟨hc1, h⟩
  · refine RunC.regionW ?_
    refine ROps.l (r := AV.i64 a0) rfl rfl rfl (LOp.move rfl rfl) ?_
    refine ROps.l (r := AV.i64 a1) rfl rfl rfl (LOp.move rfl rfl) ?_
    refine ROps.l (r := AV.b true) rfl rfl rfl (LOp.eqb (LOp.geq rfl rfl rfl) hc1) ?_
    refine ROps.l (r := AV.b true) rfl rfl rfl (LOp.move rfl rfl) ?_
    refine ROps.l (r := AV.i64 a0) rfl rfl rfl (LOp.move rfl rfl) ?_
    refine ROps.l (r := AV.i64 a2) rfl rfl rfl (LOp.move rfl rfl) ?_
    refine ROps.l (r := AV.b (decide (a0 ≤ a2))) rfl rfl rfl (LOp.leq rfl rfl rfl) ?_
    refine ROps.l (r := AV.b (decide (a0 ≤ a2))) rfl rfl rfl (LOp.pick_true rfl rfl rfl) ?_
    refine ROps.l (r := AV.b (decide (a0 ≤ a2))) rfl rfl rfl (LOp.assign rfl rfl) ?_
    refine ROps.nil ?_
    refine RunC.ret ?_
    have hq := Option.some.inj h
    subst q0
    exact bodyQ.pure (.inr rfl) rfl (Res.one rfl (RV.tmp rfl))
  · refine RunC.regionW ?_
    refine ROps.l (r := AV.i64 a0) rfl rfl rfl (LOp.move rfl rfl) ?_
    refine ROps.l (r := AV.i64 a1) rfl rfl rfl (LOp.move rfl rfl) ?_
    refine ROps.l (r := AV.b false) rfl rfl rfl (LOp.eqb (LOp.geq rfl rfl rfl) hc1) ?_
    refine ROps.l (r := AV.b false) rfl rfl rfl (LOp.move rfl rfl) ?_
    refine ROps.s rfl rfl rfl ?_
    refine ROps.s rfl rfl rfl ?_
    refine ROps.s rfl rfl rfl ?_
    refine ROps.l (r := AV.b false) rfl rfl rfl (LOp.pick_false rfl rfl rfl) ?_
    refine ROps.l (r := AV.b false) rfl rfl rfl (LOp.assign rfl rfl) ?_
    refine ROps.nil ?_
    refine RunC.ret ?_
    have hq := Option.some.inj h
    subst q0
    exact bodyQ.pure (.inr rfl) rfl (Res.one rfl (RV.tmp rfl))
noncomputable def f97 (a0 : Int) (a1 : Int) : Option (Bool) :=
  obind (f99 a0 1 12) fun (r1 : Bool) =>
  bsel r1 (
    obind (f99 a1 1 12) fun (r2 : Bool) =>
    some r2) (
    some false)
theorem f97_ok (a0 : Int) (a1 : Int) (q0 : Bool) (h : f97 a0 a1 = some q0) : Ev Try.prog 97 [AV.i64 a0, AV.i64 a1] [] (AV.b q0) [] := by
  refine Ev.start Try.func97 rfl rfl 0 (τ := [(0, AV.i64 a0), (1, AV.i64 a1)]) rfl (Γ' := []) rfl (n := 11) rfl (g := 0) rfl ?_
  unfold f97 at h
  refine RunC.seq ?_
  refine RunC.regionW ?_
  refine ROps.l (r := AV.b false) rfl rfl rfl (LOp.assign rfl rfl) ?_
  refine ROps.nil ?_
  refine RunC.seq ?_
  obtain ⟨r1, hf1, h⟩ := obind_some h
  rcases bsel_some h with ⟨hc2, h⟩ | ⟨hc2, h⟩
  · obtain ⟨r2, hf3, h⟩ := obind_some h
    refine RunC.regionW ?_
    refine ROps.l (r := AV.i64 a0) rfl rfl rfl (LOp.move rfl rfl) ?_
    refine ROps.d (r := AV.b true) (fs := []) (Γ' := []) rfl rfl rfl (TOp.eqb (TOp.callB (CallAs.func ent99 rfl rfl) (Bors.cons (Bor.pure rfl) (Bors.cons (Bor.pure rfl) (Bors.cons (Bor.pure rfl) Bors.nil))) rfl rfl (f99_ok a0 1 12 r1 hf1)) hc2) rfl ?_
    refine ROps.l (r := AV.b true) rfl rfl rfl (LOp.move rfl rfl) ?_
    refine ROps.l (r := AV.i64 a1) rfl rfl rfl (LOp.move rfl rfl) ?_
    refine ROps.d (r := AV.b r2) (fs := []) (Γ' := []) rfl rfl rfl (TOp.callB (CallAs.func ent99 rfl rfl) (Bors.cons (Bor.pure rfl) (Bors.cons (Bor.pure rfl) (Bors.cons (Bor.pure rfl) Bors.nil))) rfl rfl (f99_ok a1 1 12 r2 hf3)) rfl ?_
    refine ROps.l (r := AV.b r2) rfl rfl rfl (LOp.pick_true rfl rfl rfl) ?_
    refine ROps.l (r := AV.b r2) rfl rfl rfl (LOp.assign rfl rfl) ?_
    refine ROps.nil ?_
    refine RunC.ret ?_
    have hq := Option.some.inj h
    subst q0
    exact bodyQ.pure (.inr rfl) rfl (Res.one rfl (RV.tmp rfl))
  · refine RunC.regionW ?_
    refine ROps.l (r := AV.i64 a0) rfl rfl rfl (LOp.move rfl rfl) ?_
    refine ROps.d (r := AV.b false) (fs := []) (Γ' := []) rfl rfl rfl (TOp.eqb (TOp.callB (CallAs.func ent99 rfl rfl) (Bors.cons (Bor.pure rfl) (Bors.cons (Bor.pure rfl) (Bors.cons (Bor.pure rfl) Bors.nil))) rfl rfl (f99_ok a0 1 12 r1 hf1)) hc2) rfl ?_
    refine ROps.l (r := AV.b false) rfl rfl rfl (LOp.move rfl rfl) ?_
    refine ROps.s rfl rfl rfl ?_
    refine ROps.s rfl rfl rfl ?_
    refine ROps.l (r := AV.b false) rfl rfl rfl (LOp.pick_false rfl rfl rfl) ?_
    refine ROps.l (r := AV.b false) rfl rfl rfl (LOp.assign rfl rfl) ?_
    refine ROps.nil ?_
    refine RunC.ret ?_
    have hq := Option.some.inj h
    subst q0
    exact bodyQ.pure (.inr rfl) rfl (Res.one rfl (RV.tmp rfl))
noncomputable def f118 (a0 : F) : Option (Bool) :=
  olet (fop .sub .f32 a0 a0) fun (x1 : F) =>
  some (feq .f32 x1 (some 0))
theorem f118_ok (a0 : F) (q0 : Bool) (h : f118 a0 = some q0) : Ev Try.prog 118 [AV.f32 a0] [] (AV.b q0) [] := by
  refine Ev.start Try.func118 rfl rfl 0 (τ := [(0, AV.f32 a0)]) rfl (Γ' := []) rfl (n := 7) rfl (g := 0) rfl ?_
  unfold f118 at h
  refine RunC.seq ?_
  refine RunC.regionW ?_
  refine ROps.l (r := AV.b false) rfl rfl rfl (LOp.assign rfl rfl) ?_
  refine ROps.nil ?_
  refine RunC.seq ?_
  obtain ⟨x1, hx1, h⟩ := olet_some h
  refine RunC.regionW ?_
  refine ROps.l (r := AV.f32 a0) rfl rfl rfl (LOp.move rfl rfl) ?_
  refine ROps.l (r := AV.f32 a0) rfl rfl rfl (LOp.move rfl rfl) ?_
  refine ROps.d (r := AV.f32 x1) (fs := []) (Γ' := []) rfl rfl rfl (TOp.eqr (TOp.fop (.inr (.inl rfl)) rfl (OpF.tmp rfl) (OpF.tmp rfl)) (congrArg (AV.f .f32) hx1)) rfl ?_
  refine ROps.l (r := AV.b (feq .f32 x1 (some 0))) rfl rfl rfl (LOp.feq rfl (OpF.tmp rfl) (OpF.const rfl (by kernel_rfl) (by kernel_rfl))) ?_
  refine ROps.l (r := AV.b (feq .f32 x1 (some 0))) rfl rfl rfl (LOp.assign rfl rfl) ?_
  refine ROps.nil ?_
  refine RunC.ret ?_
  have hq := Option.some.inj h
  subst q0
  exact bodyQ.pure (.inr rfl) rfl (Res.one rfl (RV.tmp rfl))
noncomputable def f98_b1 (a0 : List F) (v1 : Int) : Option (LR (Int) (Unit) (Bool)) :=
  bsel (decide (v1 < (a0.length : Int))) (
    obind (at? a0 v1) fun (e2 : F) =>
    obind (f118 e2) fun (r3 : Bool) =>
    bsel r3 (
      olet (IntKind.i64.wrap (v1 + 1)) fun (x4 : Int) =>
      some (LR.next x4)) (
      some (LR.ret false))) (
    some (LR.out ()))
noncomputable def f98_s1 (a0 : List F) : (Int) → Option (LR (Int) (Unit) (Bool)) := fun s => f98_b1 a0 s
noncomputable def f98_k1  : Option (Bool) :=
  some true
noncomputable def f98 (a0 : List F) : Option (Bool) :=
  obind (loopM (f98_s1 a0) 0) fun z => osum z (fun _ => f98_k1) (fun r => some r)
theorem f98_ok (a0 : List F) (q0 : Bool) (h : f98 a0 = some q0) : Ev Try.prog 98 [AV.sl a0.length (a0.map AV.f32)] [] (AV.b q0) [] := by
  refine Ev.start Try.func98 rfl rfl 0 (τ := [(0, AV.sl a0.length (a0.map AV.f32))]) rfl (Γ' := []) rfl (n := 16) rfl (g := 0) rfl ?_
  unfold f98 at h
  refine RunC.seq ?_
  refine RunC.regionW ?_
  refine ROps.l (r := AV.b false) rfl rfl rfl (LOp.assign rfl rfl) ?_
  refine ROps.nil ?_
  refine RunC.seq ?_
  refine RunC.seq ?_
  refine RunC.regionW ?_
  refine ROps.l (r := AV.i64 0) rfl rfl rfl (LOp.assign rfl rfl) ?_
  refine ROps.nil ?_
  obtain ⟨z2, hz_2, h⟩ := obind_some h
  refine RunC.cutN (fun τ Γ => WeakLe τ [] ∧ DeadLe Γ [] ∧ z2 = .inl ()) ?_ ?_
  · refine RunC.block (RunC.loop (RunL.loopM (x := z2) (f98_s1 a0) (fun (s : Int) τ Γ => WeakLe τ [(0, AV.sl a0.length (a0.map AV.f32)), (3, AV.i64 s)] ∧ DeadLe Γ []) ?_ _ _ _ hz_2 ⟨⟨(ALe.refl _), (ALe.refl _), trivial⟩, trivial⟩))
    rintro v1 τ2 Γ2 y2_ ⟨hw2, hd2⟩ h2_ ho2 hr2
    refine RunC.wl (τ' := [(0, AV.sl a0.length (a0.map AV.f32)), (3, AV.i64 v1)]) (Γ' := []) hw2 hd2 ?_
    replace h2_ : f98_b1 a0 v1 = some y2_ := h2_
    unfold f98_b1 at h2_
    refine RunC.seq ?_
    refine RunC.seq ?_
    rcases bsel_some h2_ with ⟨hc1, h2_⟩ | ⟨hc1, h2_⟩
    · refine RunC.regionW ?_
      refine ROps.l (r := AV.i64 v1) rfl rfl rfl (LOp.move rfl rfl) ?_
      refine ROps.l (r := AV.sl a0.length (a0.map AV.f32)) rfl rfl rfl (LOp.move rfl rfl) ?_
      refine ROps.l (r := AV.i64 (a0.length : Int)) rfl rfl rfl (LOp.len_sl und38 rfl rfl) ?_
      refine ROps.l (r := AV.b true) rfl rfl rfl (LOp.eqb (LOp.lss rfl rfl rfl) hc1) ?_
      refine ROps.nil ?_
      refine RunC.cond_true rfl rfl ?_
      refine RunC.skip ?_
      refine RunC.seq ?_
      refine RunC.block ?_
      refine RunC.seq ?_
      obtain ⟨e2, he2, h2_⟩ := obind_some h2_
      obtain ⟨r3, hf3, h2_⟩ := obind_some h2_
      rcases bsel_some h2_ with ⟨hc4, h2_⟩ | ⟨hc4, h2_⟩
      · refine RunC.regionW ?_
        refine ROps.l (r := AV.sl a0.length (a0.map AV.f32)) rfl rfl rfl (LOp.move rfl rfl) ?_
        refine ROps.l (r := AV.i64 v1) rfl rfl rfl (LOp.move rfl rfl) ?_
        refine ROps.l (r := AV.ptr [AV.f32 e2]) rfl rfl rfl (LOp.le (LOp.ix (f := AV.f32) und38 siz34 rfl rfl rfl rfl he2) ALe.ptr) ?_
        refine ROps.l (r := AV.f32 e2) rfl rfl rfl (LOp.load1 agg34 rfl rfl) ?_
        refine ROps.d (r := AV.b true) (fs := []) (Γ' := []) rfl rfl rfl (TOp.eqb (TOp.callB (CallAs.func ent118 rfl rfl) (Bors.cons (Bor.pure rfl) Bors.nil) rfl rfl (f118_ok e2 r3 hf3)) hc4) rfl ?_
        refine ROps.l (r := AV.b false) rfl rfl rfl (LOp.eqb (LOp.not rfl rfl) rfl) ?_
        refine ROps.nil ?_
        refine RunC.cond_false rfl rfl ?_
        refine RunC.skip ?_
        obtain ⟨x4, hx5, h2_⟩ := olet_some h2_
        refine RunC.regionW ?_
        refine ROps.l (r := AV.i64 v1) rfl rfl rfl (LOp.move rfl rfl) ?_
        refine ROps.l (r := AV.i64 x4) rfl rfl rfl (LOp.eqr (LOp.add rfl rfl rfl) (congrArg (AV.ik .i64) hx5)) ?_
        refine ROps.l (r := AV.i64 x4) rfl rfl rfl (LOp.assign rfl rfl) ?_
        refine ROps.nil ?_
        cases Option.some.inj h2_
        exact ⟨_, rfl, ⟨(ALe.refl _), (ALe.refl _), trivial⟩, trivial⟩
      · refine RunC.regionW ?_
        refine ROps.l (r := AV.sl a0.length (a0.map AV.f32)) rfl rfl rfl (LOp.move rfl rfl) ?_
        refine ROps.l (r := AV.i64 v1) rfl rfl rfl (LOp.move rfl rfl) ?_
        refine ROps.l (r := AV.ptr [AV.f32 e2]) rfl rfl rfl (LOp.le (LOp.ix (f := AV.f32) und38 siz34 rfl rfl rfl rfl he2) ALe.ptr) ?_
        refine ROps.l (r := AV.f32 e2) rfl rfl rfl (LOp.load1 agg34 rfl rfl) ?_
        refine ROps.d (r := AV.b false) (fs := []) (Γ' := []) rfl rfl rfl (TOp.eqb (TOp.callB (CallAs.func ent118 rfl rfl) (Bors.cons (Bor.pure rfl) Bors.nil) rfl rfl (f118_ok e2 r3 hf3)) hc4) rfl ?_
        refine ROps.l (r := AV.b true) rfl rfl rfl (LOp.eqb (LOp.not rfl rfl) rfl) ?_
        refine ROps.nil ?_
        refine RunC.cond_true rfl rfl ?_
        refine RunC.seq ?_
        refine RunC.regionW ?_
        refine ROps.l (r := AV.b false) rfl rfl rfl (LOp.assign rfl rfl) ?_
        refine ROps.nil ?_
        refine RunC.ret ?_
        cases Option.some.inj h2_
        have hx3_ := hr2 _ rfl
        subst hx3_
        have hq := Option.some.inj h
        subst q0
        exact bodyQ.pure (.inr rfl) rfl (Res.one rfl (RV.tmp rfl))
    · refine RunC.regionW ?_
      refine ROps.l (r := AV.i64 v1) rfl rfl rfl (LOp.move rfl rfl) ?_
      refine ROps.l (r := AV.sl a0.length (a0.map AV.f32)) rfl rfl rfl (LOp.move rfl rfl) ?_
      refine ROps.l (r := AV.i64 (a0.length : Int)) rfl rfl rfl (LOp.len_sl und38 rfl rfl) ?_
      refine ROps.l (r := AV.b false) rfl rfl rfl (LOp.eqb (LOp.lss rfl rfl rfl) hc1) ?_
      refine ROps.nil ?_
      refine RunC.cond_false rfl rfl ?_
      refine RunC.exit ?_
      cases Option.some.inj h2_
      have hx := ho2 _ rfl
      exact ⟨trivial, trivial, hx⟩
  · rintro τ4 Γ4 ⟨hw4, hd4, rfl⟩
    refine RunC.wl (τ' := []) (Γ' := []) hw4 hd4 ?_
    replace h : f98_k1 = some q0 := h
    unfold f98_k1 at h
    refine RunC.seq ?_
    refine RunC.regionW ?_
    refine ROps.l (r := AV.b true) rfl rfl rfl (LOp.assign rfl rfl) ?_
    refine ROps.nil ?_
    refine RunC.ret ?_
    have hq := Option.some.inj h
    subst q0
    exact bodyQ.pure (.inr rfl) rfl (Res.one rfl (RV.tmp rfl))
noncomputable def f58 (a0 : Int) (a1 : Int) (a2 : List F) : Option (Bool) :=
  obind (f97 a0 a1) fun (r1 : Bool) =>
  bsel r1 (
    olet (IntKind.i64.wrap (a0 * a1)) fun (x2 : Int) =>
    bsel (decide ((a2.length : Int) = x2)) (
      obind (f98 a2) fun (r3 : Bool) =>
      some r3) (
      some false)) (
    some false)
theorem f58_ok (a0 : Int) (a1 : Int) (a2 : List F) (q0 : Bool) (h : f58 a0 a1 a2 = some q0) : Ev Try.prog 58 [AV.ptr [AV.i64 a0, AV.i64 a1, AV.sl a2.length (a2.map AV.f32)]] [] (AV.b q0) [] := by
  refine Ev.start Try.func58 rfl rfl 0 (τ := [(0, AV.ptr [AV.i64 a0, AV.i64 a1, AV.sl a2.length (a2.map AV.f32)])]) rfl (Γ' := []) rfl (n := 36) rfl (g := 0) rfl ?_
  unfold f58 at h
  refine RunC.seq ?_
  refine RunC.regionW ?_
  refine ROps.l (r := AV.b false) rfl rfl rfl (LOp.assign rfl rfl) ?_
  refine ROps.nil ?_
  refine RunC.seq ?_
  obtain ⟨r1, hf1, h⟩ := obind_some h
  rcases bsel_some h with ⟨hc2, h⟩ | ⟨hc2, h⟩
  · obtain ⟨x2, hx3, h⟩ := olet_some h
    rcases bsel_some h with ⟨hc4, h⟩ | ⟨hc4, h⟩
    · obtain ⟨r3, hf5, h⟩ := obind_some h
      refine RunC.region_draw (Γ' := []) 34 mixed 
        (TR.l (r := AV.ptr [AV.i64 a0, AV.i64 a1, AV.sl a2.length (a2.map AV.f32)]) rfl rfl (LOp.move rfl rfl) <|
        (TR.l (r := AV.ptr [AV.i64 a0, AV.i64 a1, AV.sl a2.length (a2.map AV.f32)]) rfl rfl (LOp.nilCheck_ptr rfl rfl) <|
        (TR.l (r := AV.ptr [AV.i64 a0, AV.i64 a1, AV.sl a2.length (a2.map AV.f32)]) rfl rfl (LOp.fap und40 rfl siz2 rfl rfl rfl) <|
        (TR.l (r := AV.i64 a0) rfl rfl (LOp.load1 agg2 rfl rfl) <|
        (TR.l (r := AV.ptr [AV.i64 a0, AV.i64 a1, AV.sl a2.length (a2.map AV.f32)]) rfl rfl (LOp.move rfl rfl) <|
        (TR.l (r := AV.ptr [AV.i64 a0, AV.i64 a1, AV.sl a2.length (a2.map AV.f32)]) rfl rfl (LOp.nilCheck_ptr rfl rfl) <|
        (TR.l (r := AV.ptr [AV.i64 a1, AV.sl a2.length (a2.map AV.f32)]) rfl rfl (LOp.fap und40 rfl siz2 rfl rfl rfl) <|
        (TR.l (r := AV.i64 a1) rfl rfl (LOp.load1 agg2 rfl rfl) <|
        (TR.d (r := AV.b true) (fs := []) rfl rfl (TOp.eqb (TOp.callB (CallAs.func ent97 rfl rfl) (Bors.cons (Bor.pure rfl) (Bors.cons (Bor.pure rfl) Bors.nil)) rfl rfl (f97_ok a0 a1 r1 hf1)) hc2) <|
        (TR.l (r := AV.b true) rfl rfl (LOp.move rfl rfl) <|
        (TR.l (r := AV.ptr [AV.i64 a0, AV.i64 a1, AV.sl a2.length (a2.map AV.f32)]) rfl rfl (LOp.move rfl rfl) <|
        (TR.l (r := AV.ptr [AV.i64 a0, AV.i64 a1, AV.sl a2.length (a2.map AV.f32)]) rfl rfl (LOp.nilCheck_ptr rfl rfl) <|
        (TR.l (r := AV.ptr [AV.sl a2.length (a2.map AV.f32)]) rfl rfl (LOp.fap und40 rfl siz38 rfl rfl rfl) <|
        (TR.l (r := AV.sl a2.length (a2.map AV.f32)) rfl rfl (LOp.load1 agg38 rfl rfl) <|
        (TR.l (r := AV.i64 (a2.length : Int)) rfl rfl (LOp.len_sl und38 rfl rfl) <|
        (TR.l (r := AV.ptr [AV.i64 a0, AV.i64 a1, AV.sl a2.length (a2.map AV.f32)]) rfl rfl (LOp.move rfl rfl) <|
        (TR.l (r := AV.ptr [AV.i64 a0, AV.i64 a1, AV.sl a2.length (a2.map AV.f32)]) rfl rfl (LOp.nilCheck_ptr rfl rfl) <|
        (TR.l (r := AV.ptr [AV.i64 a0, AV.i64 a1, AV.sl a2.length (a2.map AV.f32)]) rfl rfl (LOp.fap und40 rfl siz2 rfl rfl rfl) <|
        (TR.l (r := AV.i64 a0) rfl rfl (LOp.load1 agg2 rfl rfl) <|
        (TR.l (r := AV.ptr [AV.i64 a0, AV.i64 a1, AV.sl a2.length (a2.map AV.f32)]) rfl rfl (LOp.move rfl rfl) <|
        (TR.l (r := AV.ptr [AV.i64 a0, AV.i64 a1, AV.sl a2.length (a2.map AV.f32)]) rfl rfl (LOp.nilCheck_ptr rfl rfl) <|
        (TR.l (r := AV.ptr [AV.i64 a1, AV.sl a2.length (a2.map AV.f32)]) rfl rfl (LOp.fap und40 rfl siz2 rfl rfl rfl) <|
        (TR.l (r := AV.i64 a1) rfl rfl (LOp.load1 agg2 rfl rfl) <|
        (TR.l (r := AV.i64 x2) rfl rfl (LOp.eqr (LOp.mul rfl rfl rfl) (congrArg (AV.ik .i64) hx3)) <|
        (TR.l (r := AV.b true) rfl rfl (LOp.eqb (LOp.eql rfl rfl rfl) hc4) <|
        (TR.l (r := AV.b true) rfl rfl (LOp.pick_true rfl rfl rfl) <|
        (TR.l (r := AV.b true) rfl rfl (LOp.move rfl rfl) <|
        (TR.l (r := AV.ptr [AV.i64 a0, AV.i64 a1, AV.sl a2.length (a2.map AV.f32)]) rfl rfl (LOp.move rfl rfl) <|
        (TR.l (r := AV.ptr [AV.i64 a0, AV.i64 a1, AV.sl a2.length (a2.map AV.f32)]) rfl rfl (LOp.nilCheck_ptr rfl rfl) <|
        (TR.l (r := AV.ptr [AV.sl a2.length (a2.map AV.f32)]) rfl rfl (LOp.fap und40 rfl siz38 rfl rfl rfl) <|
        (TR.l (r := AV.sl a2.length (a2.map AV.f32)) rfl rfl (LOp.load1 agg38 rfl rfl) <|
        (TR.d (r := AV.b r3) (fs := []) rfl rfl (TOp.callB (CallAs.func ent98 rfl rfl) (Bors.cons (Bor.sl (fun _ => rfl)) Bors.nil) rfl rfl (f98_ok a2 r3 hf5)) <|
        (TR.l (r := AV.b r3) rfl rfl (LOp.pick_true rfl rfl rfl) <|
        (TR.l (r := AV.b r3) rfl rfl (LOp.assign rfl rfl) <|
        TR.nil)))))))))))))))))))))))))))))))))) rfl (by kernel_rfl) rfl fills_nil rfl ?_
      iterate 34 refine ROps.dropS ?_
      refine ROps.drop0 ?_
      refine ROps.nil ?_
      refine RunC.ret ?_
      have hq := Option.some.inj h
      subst q0
      exact bodyQ.pure (.inr rfl) rfl (Res.one rfl (RV.tmp rfl))
    · refine RunC.region_draw (Γ' := []) 34 mixed 
        (TR.l (r := AV.ptr [AV.i64 a0, AV.i64 a1, AV.sl a2.length (a2.map AV.f32)]) rfl rfl (LOp.move rfl rfl) <|
        (TR.l (r := AV.ptr [AV.i64 a0, AV.i64 a1, AV.sl a2.length (a2.map AV.f32)]) rfl rfl (LOp.nilCheck_ptr rfl rfl) <|
        (TR.l (r := AV.ptr [AV.i64 a0, AV.i64 a1, AV.sl a2.length (a2.map AV.f32)]) rfl rfl (LOp.fap und40 rfl siz2 rfl rfl rfl) <|
        (TR.l (r := AV.i64 a0) rfl rfl (LOp.load1 agg2 rfl rfl) <|
        (TR.l (r := AV.ptr [AV.i64 a0, AV.i64 a1, AV.sl a2.length (a2.map AV.f32)]) rfl rfl (LOp.move rfl rfl) <|
        (TR.l (r := AV.ptr [AV.i64 a0, AV.i64 a1, AV.sl a2.length (a2.map AV.f32)]) rfl rfl (LOp.nilCheck_ptr rfl rfl) <|
        (TR.l (r := AV.ptr [AV.i64 a1, AV.sl a2.length (a2.map AV.f32)]) rfl rfl (LOp.fap und40 rfl siz2 rfl rfl rfl) <|
        (TR.l (r := AV.i64 a1) rfl rfl (LOp.load1 agg2 rfl rfl) <|
        (TR.d (r := AV.b true) (fs := []) rfl rfl (TOp.eqb (TOp.callB (CallAs.func ent97 rfl rfl) (Bors.cons (Bor.pure rfl) (Bors.cons (Bor.pure rfl) Bors.nil)) rfl rfl (f97_ok a0 a1 r1 hf1)) hc2) <|
        (TR.l (r := AV.b true) rfl rfl (LOp.move rfl rfl) <|
        (TR.l (r := AV.ptr [AV.i64 a0, AV.i64 a1, AV.sl a2.length (a2.map AV.f32)]) rfl rfl (LOp.move rfl rfl) <|
        (TR.l (r := AV.ptr [AV.i64 a0, AV.i64 a1, AV.sl a2.length (a2.map AV.f32)]) rfl rfl (LOp.nilCheck_ptr rfl rfl) <|
        (TR.l (r := AV.ptr [AV.sl a2.length (a2.map AV.f32)]) rfl rfl (LOp.fap und40 rfl siz38 rfl rfl rfl) <|
        (TR.l (r := AV.sl a2.length (a2.map AV.f32)) rfl rfl (LOp.load1 agg38 rfl rfl) <|
        (TR.l (r := AV.i64 (a2.length : Int)) rfl rfl (LOp.len_sl und38 rfl rfl) <|
        (TR.l (r := AV.ptr [AV.i64 a0, AV.i64 a1, AV.sl a2.length (a2.map AV.f32)]) rfl rfl (LOp.move rfl rfl) <|
        (TR.l (r := AV.ptr [AV.i64 a0, AV.i64 a1, AV.sl a2.length (a2.map AV.f32)]) rfl rfl (LOp.nilCheck_ptr rfl rfl) <|
        (TR.l (r := AV.ptr [AV.i64 a0, AV.i64 a1, AV.sl a2.length (a2.map AV.f32)]) rfl rfl (LOp.fap und40 rfl siz2 rfl rfl rfl) <|
        (TR.l (r := AV.i64 a0) rfl rfl (LOp.load1 agg2 rfl rfl) <|
        (TR.l (r := AV.ptr [AV.i64 a0, AV.i64 a1, AV.sl a2.length (a2.map AV.f32)]) rfl rfl (LOp.move rfl rfl) <|
        (TR.l (r := AV.ptr [AV.i64 a0, AV.i64 a1, AV.sl a2.length (a2.map AV.f32)]) rfl rfl (LOp.nilCheck_ptr rfl rfl) <|
        (TR.l (r := AV.ptr [AV.i64 a1, AV.sl a2.length (a2.map AV.f32)]) rfl rfl (LOp.fap und40 rfl siz2 rfl rfl rfl) <|
        (TR.l (r := AV.i64 a1) rfl rfl (LOp.load1 agg2 rfl rfl) <|
        (TR.l (r := AV.i64 x2) rfl rfl (LOp.eqr (LOp.mul rfl rfl rfl) (congrArg (AV.ik .i64) hx3)) <|
        (TR.l (r := AV.b false) rfl rfl (LOp.eqb (LOp.eql rfl rfl rfl) hc4) <|
        (TR.l (r := AV.b false) rfl rfl (LOp.pick_true rfl rfl rfl) <|
        (TR.l (r := AV.b false) rfl rfl (LOp.move rfl rfl) <|
        (TR.s rfl rfl <|
        (TR.s rfl rfl <|
        (TR.s rfl rfl <|
        (TR.s rfl rfl <|
        (TR.s rfl rfl <|
        (TR.l (r := AV.b false) rfl rfl (LOp.pick_false rfl rfl rfl) <|
        (TR.l (r := AV.b false) rfl rfl (LOp.assign rfl rfl) <|
        TR.nil)))))))))))))))))))))))))))))))))) rfl (by kernel_rfl) rfl fills_nil rfl ?_
      iterate 34 refine ROps.dropS ?_
      refine ROps.drop0 ?_
      refine ROps.nil ?_
      refine RunC.ret ?_
      have hq := Option.some.inj h
      subst q0
      exact bodyQ.pure (.inr rfl) rfl (Res.one rfl (RV.tmp rfl))
  · refine RunC.region_draw (Γ' := []) 34 mixed 
      (TR.l (r := AV.ptr [AV.i64 a0, AV.i64 a1, AV.sl a2.length (a2.map AV.f32)]) rfl rfl (LOp.move rfl rfl) <|
      (TR.l (r := AV.ptr [AV.i64 a0, AV.i64 a1, AV.sl a2.length (a2.map AV.f32)]) rfl rfl (LOp.nilCheck_ptr rfl rfl) <|
      (TR.l (r := AV.ptr [AV.i64 a0, AV.i64 a1, AV.sl a2.length (a2.map AV.f32)]) rfl rfl (LOp.fap und40 rfl siz2 rfl rfl rfl) <|
      (TR.l (r := AV.i64 a0) rfl rfl (LOp.load1 agg2 rfl rfl) <|
      (TR.l (r := AV.ptr [AV.i64 a0, AV.i64 a1, AV.sl a2.length (a2.map AV.f32)]) rfl rfl (LOp.move rfl rfl) <|
      (TR.l (r := AV.ptr [AV.i64 a0, AV.i64 a1, AV.sl a2.length (a2.map AV.f32)]) rfl rfl (LOp.nilCheck_ptr rfl rfl) <|
      (TR.l (r := AV.ptr [AV.i64 a1, AV.sl a2.length (a2.map AV.f32)]) rfl rfl (LOp.fap und40 rfl siz2 rfl rfl rfl) <|
      (TR.l (r := AV.i64 a1) rfl rfl (LOp.load1 agg2 rfl rfl) <|
      (TR.d (r := AV.b false) (fs := []) rfl rfl (TOp.eqb (TOp.callB (CallAs.func ent97 rfl rfl) (Bors.cons (Bor.pure rfl) (Bors.cons (Bor.pure rfl) Bors.nil)) rfl rfl (f97_ok a0 a1 r1 hf1)) hc2) <|
      (TR.l (r := AV.b false) rfl rfl (LOp.move rfl rfl) <|
      (TR.s rfl rfl <|
      (TR.s rfl rfl <|
      (TR.s rfl rfl <|
      (TR.s rfl rfl <|
      (TR.s rfl rfl <|
      (TR.s rfl rfl <|
      (TR.s rfl rfl <|
      (TR.s rfl rfl <|
      (TR.s rfl rfl <|
      (TR.s rfl rfl <|
      (TR.s rfl rfl <|
      (TR.s rfl rfl <|
      (TR.s rfl rfl <|
      (TR.s rfl rfl <|
      (TR.s rfl rfl <|
      (TR.l (r := AV.b false) rfl rfl (LOp.pick_false rfl rfl rfl) <|
      (TR.l (r := AV.b false) rfl rfl (LOp.move rfl rfl) <|
      (TR.s rfl rfl <|
      (TR.s rfl rfl <|
      (TR.s rfl rfl <|
      (TR.s rfl rfl <|
      (TR.s rfl rfl <|
      (TR.l (r := AV.b false) rfl rfl (LOp.pick_false rfl rfl rfl) <|
      (TR.l (r := AV.b false) rfl rfl (LOp.assign rfl rfl) <|
      TR.nil)))))))))))))))))))))))))))))))))) rfl (by kernel_rfl) rfl fills_nil rfl ?_
    iterate 34 refine ROps.dropS ?_
    refine ROps.drop0 ?_
    refine ROps.nil ?_
    refine RunC.ret ?_
    have hq := Option.some.inj h
    subst q0
    exact bodyQ.pure (.inr rfl) rfl (Res.one rfl (RV.tmp rfl))
noncomputable def f59 (a0 : Int) (a1 : Int) (a2 : List F) (a3 : Int) (a4 : Int) (a5 : Int) (a6 : Int) : Option (Bool) :=
  obind (f97 a5 a6) fun (r1 : Bool) =>
  bsel r1 (
    olet (IntKind.i64.wrap (a0 - a5)) fun (x2 : Int) =>
    obind (f99 a3 0 x2) fun (r3 : Bool) =>
    bsel r3 (
      olet (IntKind.i64.wrap (a1 - a6)) fun (x4 : Int) =>
      obind (f99 a4 0 x4) fun (r5 : Bool) =>
      some r5) (
      some false)) (
    some false)
theorem f59_ok (a0 : Int) (a1 : Int) (a2 : List F) (a3 : Int) (a4 : Int) (a5 : Int) (a6 : Int) (q0 : Bool) (h : f59 a0 a1 a2 a3 a4 a5 a6 = some q0) : Ev Try.prog 59 [AV.ptr [AV.i64 a0, AV.i64 a1, AV.sl a2.length (a2.map AV.f32)], AV.i64 a3, AV.i64 a4, AV.i64 a5, AV.i64 a6] [] (AV.b q0) [] := by
  refine Ev.start Try.func59 rfl rfl 0 (τ := [(0, AV.ptr [AV.i64 a0, AV.i64 a1, AV.sl a2.length (a2.map AV.f32)]), (1, AV.i64 a3), (2, AV.i64 a4), (3, AV.i64 a5), (4, AV.i64 a6)]) rfl (Γ' := []) rfl (n := 34) rfl (g := 0) rfl ?_
  unfold f59 at h
  refine RunC.seq ?_
  refine RunC.regionW ?_
  refine ROps.l (r := AV.b false) rfl rfl rfl (LOp.assign rfl rfl) ?_
  refine ROps.nil ?_
  refine RunC.seq ?_
  obtain ⟨r1, hf1, h⟩ := obind_some h
  rcases bsel_some h with ⟨hc2, h⟩ | ⟨hc2, h⟩
  · obtain ⟨x2, hx3, h⟩ := olet_some h
    obtain ⟨r3, hf4, h⟩ := obind_some h
    rcases bsel_some h with ⟨hc5, h⟩ | ⟨hc5, h⟩
    · obtain ⟨x4, hx6, h⟩ := olet_some h
      obtain ⟨r5, hf7, h⟩ := obind_some h
      refine RunC.regionW ?_
      refine ROps.l (r := AV.i64 a5) rfl rfl rfl (LOp.move rfl rfl) ?_
      refine ROps.l (r := AV.i64 a6) rfl rfl rfl (LOp.move rfl rfl) ?_
      refine ROps.d (r := AV.b true) (fs := []) (Γ' := []) rfl rfl rfl (TOp.eqb (TOp.callB (CallAs.func ent97 rfl rfl) (Bors.cons (Bor.pure rfl) (Bors.cons (Bor.pure rfl) Bors.nil)) rfl rfl (f97_ok a5 a6 r1 hf1)) hc2) rfl ?_
      refine ROps.l (r := AV.b true) rfl rfl rfl (LOp.move rfl rfl) ?_
      refine ROps.l (r := AV.i64 a3) rfl rfl rfl (LOp.move rfl rfl) ?_
      refine ROps.l (r := AV.ptr [AV.i64 a0, AV.i64 a1, AV.sl a2.length (a2.map AV.f32)]) rfl rfl rfl (LOp.move rfl rfl) ?_
      refine ROps.l (r := AV.ptr [AV.i64 a0, AV.i64 a1, AV.sl a2.length (a2.map AV.f32)]) rfl rfl rfl (LOp.nilCheck_ptr rfl rfl) ?_
      refine ROps.l (r := AV.ptr [AV.i64 a0, AV.i64 a1, AV.sl a2.length (a2.map AV.f32)]) rfl rfl rfl (LOp.fap und40 rfl siz2 rfl rfl rfl) ?_
      refine ROps.l (r := AV.i64 a0) rfl rfl rfl (LOp.load1 agg2 rfl rfl) ?_
      refine ROps.l (r := AV.i64 a5) rfl rfl rfl (LOp.move rfl rfl) ?_
      refine ROps.l (r := AV.i64 x2) rfl rfl rfl (LOp.eqr (LOp.sub rfl rfl rfl) (congrArg (AV.ik .i64) hx3)) ?_
      refine ROps.d (r := AV.b true) (fs := []) (Γ' := []) rfl rfl rfl (TOp.eqb (TOp.callB (CallAs.func ent99 rfl rfl) (Bors.cons (Bor.pure rfl) (Bors.cons (Bor.pure rfl) (Bors.cons (Bor.pure rfl) Bors.nil))) rfl rfl (f99_ok a3 0 x2 r3 hf4)) hc5) rfl ?_
      refine ROps.l (r := AV.b true) rfl rfl rfl (LOp.pick_true rfl rfl rfl) ?_
      refine ROps.l (r := AV.b true) rfl rfl rfl (LOp.move rfl rfl) ?_
      refine ROps.l (r := AV.i64 a4) rfl rfl rfl (LOp.move rfl rfl) ?_
      refine ROps.l (r := AV.ptr [AV.i64 a0, AV.i64 a1, AV.sl a2.length (a2.map AV.f32)]) rfl rfl rfl (LOp.move rfl rfl) ?_
      refine ROps.l (r := AV.ptr [AV.i64 a0, AV.i64 a1, AV.sl a2.length (a2.map AV.f32)]) rfl rfl rfl (LOp.nilCheck_ptr rfl rfl) ?_
      refine ROps.l (r := AV.ptr [AV.i64 a1, AV.sl a2.length (a2.map AV.f32)]) rfl rfl rfl (LOp.fap und40 rfl siz2 rfl rfl rfl) ?_
      refine ROps.l (r := AV.i64 a1) rfl rfl rfl (LOp.load1 agg2 rfl rfl) ?_
      refine ROps.l (r := AV.i64 a6) rfl rfl rfl (LOp.move rfl rfl) ?_
      refine ROps.l (r := AV.i64 x4) rfl rfl rfl (LOp.eqr (LOp.sub rfl rfl rfl) (congrArg (AV.ik .i64) hx6)) ?_
      refine ROps.d (r := AV.b r5) (fs := []) (Γ' := []) rfl rfl rfl (TOp.callB (CallAs.func ent99 rfl rfl) (Bors.cons (Bor.pure rfl) (Bors.cons (Bor.pure rfl) (Bors.cons (Bor.pure rfl) Bors.nil))) rfl rfl (f99_ok a4 0 x4 r5 hf7)) rfl ?_
      refine ROps.l (r := AV.b r5) rfl rfl rfl (LOp.pick_true rfl rfl rfl) ?_
      refine ROps.l (r := AV.b r5) rfl rfl rfl (LOp.assign rfl rfl) ?_
      refine ROps.nil ?_
      refine RunC.ret ?_
      have hq := Option.some.inj h
      subst q0
      exact bodyQ.pure (.inr rfl) rfl (Res.one rfl (RV.tmp rfl))
    · refine RunC.regionW ?_
      refine ROps.l (r := AV.i64 a5) rfl rfl rfl (LOp.move rfl rfl) ?_
      refine ROps.l (r := AV.i64 a6) rfl rfl rfl (LOp.move rfl rfl) ?_
      refine ROps.d (r := AV.b true) (fs := []) (Γ' := []) rfl rfl rfl (TOp.eqb (TOp.callB (CallAs.func ent97 rfl rfl) (Bors.cons (Bor.pure rfl) (Bors.cons (Bor.pure rfl) Bors.nil)) rfl rfl (f97_ok a5 a6 r1 hf1)) hc2) rfl ?_
      refine ROps.l (r := AV.b true) rfl rfl rfl (LOp.move rfl rfl) ?_
      refine ROps.l (r := AV.i64 a3) rfl rfl rfl (LOp.move rfl rfl) ?_
      refine ROps.l (r := AV.ptr [AV.i64 a0, AV.i64 a1, AV.sl a2.length (a2.map AV.f32)]) rfl rfl rfl (LOp.move rfl rfl) ?_
      refine ROps.l (r := AV.ptr [AV.i64 a0, AV.i64 a1, AV.sl a2.length (a2.map AV.f32)]) rfl rfl rfl (LOp.nilCheck_ptr rfl rfl) ?_
      refine ROps.l (r := AV.ptr [AV.i64 a0, AV.i64 a1, AV.sl a2.length (a2.map AV.f32)]) rfl rfl rfl (LOp.fap und40 rfl siz2 rfl rfl rfl) ?_
      refine ROps.l (r := AV.i64 a0) rfl rfl rfl (LOp.load1 agg2 rfl rfl) ?_
      refine ROps.l (r := AV.i64 a5) rfl rfl rfl (LOp.move rfl rfl) ?_
      refine ROps.l (r := AV.i64 x2) rfl rfl rfl (LOp.eqr (LOp.sub rfl rfl rfl) (congrArg (AV.ik .i64) hx3)) ?_
      refine ROps.d (r := AV.b false) (fs := []) (Γ' := []) rfl rfl rfl (TOp.eqb (TOp.callB (CallAs.func ent99 rfl rfl) (Bors.cons (Bor.pure rfl) (Bors.cons (Bor.pure rfl) (Bors.cons (Bor.pure rfl) Bors.nil))) rfl rfl (f99_ok a3 0 x2 r3 hf4)) hc5) rfl ?_
      refine ROps.l (r := AV.b false) rfl rfl rfl (LOp.pick_true rfl rfl rfl) ?_
      refine ROps.l (r := AV.b false) rfl rfl rfl (LOp.move rfl rfl) ?_
      refine ROps.s rfl rfl rfl ?_
      refine ROps.s rfl rfl rfl ?_
      refine ROps.s rfl rfl rfl ?_
      refine ROps.s rfl rfl rfl ?_
      refine ROps.s rfl rfl rfl ?_
      refine ROps.s rfl rfl rfl ?_
      refine ROps.s rfl rfl rfl ?_
      refine ROps.s rfl rfl rfl ?_
      refine ROps.l (r := AV.b false) rfl rfl rfl (LOp.pick_false rfl rfl rfl) ?_
      refine ROps.l (r := AV.b false) rfl rfl rfl (LOp.assign rfl rfl) ?_
      refine ROps.nil ?_
      refine RunC.ret ?_
      have hq := Option.some.inj h
      subst q0
      exact bodyQ.pure (.inr rfl) rfl (Res.one rfl (RV.tmp rfl))
  · refine RunC.regionW ?_
    refine ROps.l (r := AV.i64 a5) rfl rfl rfl (LOp.move rfl rfl) ?_
    refine ROps.l (r := AV.i64 a6) rfl rfl rfl (LOp.move rfl rfl) ?_
    refine ROps.d (r := AV.b false) (fs := []) (Γ' := []) rfl rfl rfl (TOp.eqb (TOp.callB (CallAs.func ent97 rfl rfl) (Bors.cons (Bor.pure rfl) (Bors.cons (Bor.pure rfl) Bors.nil)) rfl rfl (f97_ok a5 a6 r1 hf1)) hc2) rfl ?_
    refine ROps.l (r := AV.b false) rfl rfl rfl (LOp.move rfl rfl) ?_
    refine ROps.s rfl rfl rfl ?_
    refine ROps.s rfl rfl rfl ?_
    refine ROps.s rfl rfl rfl ?_
    refine ROps.s rfl rfl rfl ?_
    refine ROps.s rfl rfl rfl ?_
    refine ROps.s rfl rfl rfl ?_
    refine ROps.s rfl rfl rfl ?_
    refine ROps.s rfl rfl rfl ?_
    refine ROps.l (r := AV.b false) rfl rfl rfl (LOp.pick_false rfl rfl rfl) ?_
    refine ROps.l (r := AV.b false) rfl rfl rfl (LOp.move rfl rfl) ?_
    refine ROps.s rfl rfl rfl ?_
    refine ROps.s rfl rfl rfl ?_
    refine ROps.s rfl rfl rfl ?_
    refine ROps.s rfl rfl rfl ?_
    refine ROps.s rfl rfl rfl ?_
    refine ROps.s rfl rfl rfl ?_
    refine ROps.s rfl rfl rfl ?_
    refine ROps.s rfl rfl rfl ?_
    refine ROps.l (r := AV.b false) rfl rfl rfl (LOp.pick_false rfl rfl rfl) ?_
    refine ROps.l (r := AV.b false) rfl rfl rfl (LOp.assign rfl rfl) ?_
    refine ROps.nil ?_
    refine RunC.ret ?_
    have hq := Option.some.inj h
    subst q0
    exact bodyQ.pure (.inr rfl) rfl (Res.one rfl (RV.tmp rfl))
noncomputable def f60 (a0 : Int) (a1 : Int) (a2 : List F) : Option (Int × Int × (List F)) :=
  need (apok 4 0 a2.length) <|
  some (a0, a1, (([] : List F) ++ a2))
theorem f60_ok (a0 : Int) (a1 : Int) (a2 : List F) (q0 : Int) (q1 : Int) (q2 : List F) (h : f60 a0 a1 a2 = some (q0, q1, q2)) : Ev Try.prog 60 [AV.ptr [AV.i64 a0, AV.i64 a1, AV.sl a2.length (a2.map AV.f32)]] [] (AV.agg [AV.i64 q0, AV.i64 q1, AV.oref 0 0 0 q2.length]) [⟨0, some (q2.map AV.f32)⟩] := by
  refine Ev.start Try.func60 rfl rfl 2 (τ := [(0, AV.ptr [AV.i64 a0, AV.i64 a1, AV.sl a2.length (a2.map AV.f32)])]) rfl (Γ' := [⟨0, none⟩, ⟨0, none⟩]) rfl (n := 18) rfl (g := 0) rfl ?_
  unfold f60 at h
  refine RunC.seq ?_
  refine RunC.regionW ?_
  refine ROps.d (r := AV.optr 0 1 0) (fs := [(0, [AV.i64 0, AV.i64 0, AV.nilsl])]) (Γ' := [⟨1, some [AV.i64 0, AV.i64 0, AV.nilsl]⟩, ⟨0, none⟩]) rfl rfl rfl (TOp.alloc_o (g := ⟨0, none⟩) 0 rfl zer40 zok40 rfl) rfl ?_
  refine ROps.nil ?_
  refine RunC.seq ?_
  obtain ⟨hm1, h⟩ := need_some h
  refine RunC.region_draw (Γ' := [⟨1, some [AV.i64 0, AV.i64 0, AV.nilsl]⟩, ⟨1, some (([] : List F).map AV.f32)⟩]) 13 mixed 
    (TR.loose (r := AV.ptr [AV.i64 a0, AV.i64 a1, AV.sl a2.length (a2.map AV.f32)]) rfl rfl (LOp.move rfl rfl) <|
    (TR.loose (r := AV.ptr [AV.i64 a0, AV.i64 a1, AV.sl a2.length (a2.map AV.f32)]) rfl rfl (LOp.nilCheck_ptr rfl rfl) <|
    (TR.loose (r := AV.ptr [AV.i64 a0, AV.i64 a1, AV.sl a2.length (a2.map AV.f32)]) rfl rfl (LOp.fap und40 rfl siz2 rfl rfl rfl) <|
    (TR.loose (r := AV.i64 a0) rfl rfl (LOp.load1 agg2 rfl rfl) <|
    (TR.loose (r := AV.ptr [AV.i64 a0, AV.i64 a1, AV.sl a2.length (a2.map AV.f32)]) rfl rfl (LOp.move rfl rfl) <|
    (TR.loose (r := AV.ptr [AV.i64 a0, AV.i64 a1, AV.sl a2.length (a2.map AV.f32)]) rfl rfl (LOp.nilCheck_ptr rfl rfl) <|
    (TR.loose (r := AV.ptr [AV.i64 a1, AV.sl a2.length (a2.map AV.f32)]) rfl rfl (LOp.fap und40 rfl siz2 rfl rfl rfl) <|
    (TR.loose (r := AV.i64 a1) rfl rfl (LOp.load1 agg2 rfl rfl) <|
    (TR.d (r := AV.oref 1 1 0 0) (fs := [(1, (([] : List F).map AV.f32))]) rfl rfl (TOp.buildSlice_o (g := ⟨0, none⟩) (za := AV.f32 (some 0)) (qs := []) 1 rfl und38 siz34 zer34 rfl zel34 rfl rfl trivial rfl) <|
    (TR.l (r := AV.ptr [AV.i64 a0, AV.i64 a1, AV.sl a2.length (a2.map AV.f32)]) rfl rfl (LOp.move rfl rfl) <|
    (TR.l (r := AV.ptr [AV.i64 a0, AV.i64 a1, AV.sl a2.length (a2.map AV.f32)]) rfl rfl (LOp.nilCheck_ptr rfl rfl) <|
    (TR.l (r := AV.ptr [AV.sl a2.length (a2.map AV.f32)]) rfl rfl (LOp.fap und40 rfl siz38 rfl rfl rfl) <|
    (TR.l (r := AV.sl a2.length (a2.map AV.f32)) rfl rfl (LOp.load1 agg38 rfl rfl) <|
    TR.nil))))))))))))) rfl (by kernel_rfl) rfl (fills_of (by show List.Nodup [1]; decide) ⟨⟨_, rfl⟩, trivial⟩) rfl ?_
  iterate 13 refine ROps.dropS ?_
  refine ROps.drop0 ?_
  refine ROps.app (f := AV.f32) (xs := ([] : List F)) (ys := a2) (Γ' := [⟨1, some [AV.i64 0, AV.i64 0, AV.nilsl]⟩, ⟨2, some ((([] : List F) ++ a2).map AV.f32)⟩]) rfl pun38 inf34 rfl rfl rfl rfl rfl rfl rfl rfl rfl (by simp) (ReadAs.sl (by simp)) (ones_map (fun _ => rfl)) (ap_by hm1) (ap_mx hm1) rfl ?_
  refine ROps.l (r := AV.agg [AV.i64 a0, AV.i64 a1, AV.oref 1 2 0 (0 + a2.length)]) rfl rfl rfl (LOp.build (qs := [(0, [AV.i64 a0]), (1, [AV.i64 a1]), (2, [AV.oref 1 2 0 (0 + a2.length)])]) zer40 zok40 und40 plc40 rfl ⟨rfl, ⟨_, ALe.refl _, rfl⟩, ⟨rfl, ⟨_, ALe.refl _, rfl⟩, ⟨rfl, ⟨_, ALe.refl _, rfl⟩, trivial⟩⟩⟩ rfl) ?_
  refine ROps.store_le (r := AV.agg [AV.i64 a0, AV.i64 a1, AV.oref 1 2 0 (0 + a2.length)]) (l' := [AV.i64 a0, AV.i64 a1, AV.oref 1 2 0 (0 + a2.length)]) (Γ' := [⟨1, some [AV.i64 a0, AV.i64 a1, AV.oref 1 2 0 (0 + a2.length)]⟩, ⟨2, some ((([] : List F) ++ a2).map AV.f32)⟩]) rfl siz40 rfl rfl rfl (ALe.refl _) rfl rfl rfl rfl (Nat.le_of_ble_eq_true rfl) rfl rfl ?_
  refine ROps.nil ?_
  refine RunC.ret ?_
  have hq := Option.some.inj h
  obtain ⟨hq0, hq⟩ := Prod.mk.inj hq
  obtain ⟨hq1, hq⟩ := Prod.mk.inj hq
  subst q0
  subst q1
  subst q2
  exact bodyQ.mk (r' := AV.agg [AV.i64 a0, AV.i64 a1, AV.oref 1 2 0 ((([] : List F) ++ a2).length)]) [(1, 2)] (.inr rfl) rfl (by decide) rfl rfl (Res.eq (Res.one rfl (RV.cell agg40 siz40 rfl rfl rfl rfl)) (by rw [(show (([] : List F) ++ a2).length = (0 + a2.length) from (app_len rfl rfl))] <;> rfl)) (SelL.arr0 (f := AV.f32) (fun _ => rfl) rfl trivial)
end Go.Proofs.Ytmgjiomflefedaa
