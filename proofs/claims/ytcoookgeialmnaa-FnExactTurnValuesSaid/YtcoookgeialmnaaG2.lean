/- Generated. -/
import Derived.Test.YtcoookgeialmnaaG1
namespace Go.Proofs.Ytcoookgeialmnaa
open Go Go.AM Go.AM.AV
set_option maxRecDepth 20000
set_option maxHeartbeats 4000000
set_option linter.unusedVariables false
set_option linter.unusedSimpArgs false
noncomputable def x_slices_stableCmpFunc_int64_0o_2Fi_TurnValues_1_2c0p1_C10o2_b1 (a0 : Int) (a1 : List Int) (a2 : List F) (L1 : List Int) (L3 : List F) (v5 : Int) (v6 : Int) : Option (LR ((List Int) × (List F) × Int × Int) ((List Int) × (List F) × Int) ((List Int) × (List F))) :=
 bsel (decide (v6 ≤ a0)) (
  obind2 (x_slices_insertionSortCmpFunc_int64_0o_3Fi_TurnValues_1_3c0p1_C10o2 v5 v6 L1 L3) fun (r7 : List Int) (r8 : List F) =>
  need (decide (r7.length = a1.length)) <|
  need (decide (r8.length = a2.length)) <|
  olet (IntKind.i64.wrap (v6 + 20)) fun (x9 : Int) =>
  some (LR.next (r7, r8, v6, x9))) (
  some (LR.out (L1, L3, v5)))
noncomputable def x_slices_stableCmpFunc_int64_0o_2Fi_TurnValues_1_2c0p1_C10o2_s1 (a0 : Int) (a1 : List Int) (a2 : List F) : ((List Int) × (List F) × Int × Int) → Option (LR ((List Int) × (List F) × Int × Int) ((List Int) × (List F) × Int) ((List Int) × (List F))) := fun s => x_slices_stableCmpFunc_int64_0o_2Fi_TurnValues_1_2c0p1_C10o2_b1 a0 a1 a2 s.1 s.2.1 s.2.2.1 s.2.2.2
noncomputable def x_slices_stableCmpFunc_int64_0o_2Fi_TurnValues_1_2c0p1_C10o2_b4 (a0 : Int) (a1 : List Int) (a2 : List F) (v21 : Int) (L23 : List Int) (L25 : List F) (v27 : Int) (v28 : Int) : Option (LR ((List Int) × (List F) × Int × Int) ((List Int) × (List F) × Int) ((List Int) × (List F))) :=
 bsel (decide (v28 ≤ a0)) (
  olet (IntKind.i64.wrap (v27 + v21)) fun (x29 : Int) =>
  obind2 (x_slices_symMergeCmpFunc_int64_0o_4Fi_TurnValues_1_4c0p1_C10o2 v27 x29 v28 L23 L25) fun (r30 : List Int) (r31 : List F) =>
  need (decide (r30.length = a1.length)) <|
  need (decide (r31.length = a2.length)) <|
  olet (IntKind.i64.wrap (2 * v21)) fun (x32 : Int) =>
  olet (IntKind.i64.wrap (v28 + x32)) fun (x33 : Int) =>
  some (LR.next (r30, r31, v28, x33))) (
  some (LR.out (L23, L25, v27)))
noncomputable def x_slices_stableCmpFunc_int64_0o_2Fi_TurnValues_1_2c0p1_C10o2_s4 (a0 : Int) (a1 : List Int) (a2 : List F) (v21 : Int) : ((List Int) × (List F) × Int × Int) → Option (LR ((List Int) × (List F) × Int × Int) ((List Int) × (List F) × Int) ((List Int) × (List F))) := fun s => x_slices_stableCmpFunc_int64_0o_2Fi_TurnValues_1_2c0p1_C10o2_b4 a0 a1 a2 v21 s.1 s.2.1 s.2.2.1 s.2.2.2
noncomputable def x_slices_stableCmpFunc_int64_0o_2Fi_TurnValues_1_2c0p1_C10o2_k5 (v21 : Int) (L42 : List Int) (L44 : List F) : Option (LR ((List Int) × (List F) × Int) ((List Int) × (List F)) ((List Int) × (List F))) :=
 olet (IntKind.i64.wrap (v21 * 2)) fun (x46 : Int) =>
 some (LR.next (L42, L44, x46))
noncomputable def x_slices_stableCmpFunc_int64_0o_2Fi_TurnValues_1_2c0p1_C10o2_k4 (a0 : Int) (a1 : List Int) (a2 : List F) (v21 : Int) (L34 : List Int) (L36 : List F) (v38 : Int) : Option (LR ((List Int) × (List F) × Int) ((List Int) × (List F)) ((List Int) × (List F))) :=
 olet (IntKind.i64.wrap (v38 + v21)) fun (x39 : Int) =>
 bsel (decide (x39 < a0)) (
  obind2 (x_slices_symMergeCmpFunc_int64_0o_4Fi_TurnValues_1_4c0p1_C10o2 v38 x39 a0 L34 L36) fun (r40 : List Int) (r41 : List F) =>
  need (decide (r40.length = a1.length)) <|
  need (decide (r41.length = a2.length)) <|
  x_slices_stableCmpFunc_int64_0o_2Fi_TurnValues_1_2c0p1_C10o2_k5 v21 r40 r41) (
  x_slices_stableCmpFunc_int64_0o_2Fi_TurnValues_1_2c0p1_C10o2_k5 v21 L34 L36)
noncomputable def x_slices_stableCmpFunc_int64_0o_2Fi_TurnValues_1_2c0p1_C10o2_b6 (a0 : Int) (a1 : List Int) (a2 : List F) (L17 : List Int) (L19 : List F) (v21 : Int) : Option (LR ((List Int) × (List F) × Int) ((List Int) × (List F)) ((List Int) × (List F))) :=
 bsel (decide (v21 < a0)) (
  olet (IntKind.i64.wrap (2 * v21)) fun (x22 : Int) =>
  obind (loopM (x_slices_stableCmpFunc_int64_0o_2Fi_TurnValues_1_2c0p1_C10o2_s4 a0 a1 a2 v21) (L17, L19, 0, x22)) fun z => osum z (fun e => x_slices_stableCmpFunc_int64_0o_2Fi_TurnValues_1_2c0p1_C10o2_k4 a0 a1 a2 v21 e.1 e.2.1 e.2.2) (fun r => some (LR.ret r))) (
  some (LR.out (L17, L19)))
noncomputable def x_slices_stableCmpFunc_int64_0o_2Fi_TurnValues_1_2c0p1_C10o2_s6 (a0 : Int) (a1 : List Int) (a2 : List F) : ((List Int) × (List F) × Int) → Option (LR ((List Int) × (List F) × Int) ((List Int) × (List F)) ((List Int) × (List F))) := fun s => x_slices_stableCmpFunc_int64_0o_2Fi_TurnValues_1_2c0p1_C10o2_b6 a0 a1 a2 s.1 s.2.1 s.2.2
noncomputable def x_slices_stableCmpFunc_int64_0o_2Fi_TurnValues_1_2c0p1_C10o2_k6 (L47 : List Int) (L49 : List F) : Option ((List Int) × (List F)) :=
 some (L47, L49)
noncomputable def x_slices_stableCmpFunc_int64_0o_2Fi_TurnValues_1_2c0p1_C10o2_k1 (a0 : Int) (a1 : List Int) (a2 : List F) (L10 : List Int) (L12 : List F) (v14 : Int) : Option ((List Int) × (List F)) :=
 obind2 (x_slices_insertionSortCmpFunc_int64_0o_3Fi_TurnValues_1_3c0p1_C10o2 v14 a0 L10 L12) fun (r15 : List Int) (r16 : List F) =>
 need (decide (r15.length = a1.length)) <|
 need (decide (r16.length = a2.length)) <|
 obind (loopM (x_slices_stableCmpFunc_int64_0o_2Fi_TurnValues_1_2c0p1_C10o2_s6 a0 a1 a2) (r15, r16, 20)) fun z => osum z (fun e => x_slices_stableCmpFunc_int64_0o_2Fi_TurnValues_1_2c0p1_C10o2_k6 e.1 e.2) (fun r => some r)
noncomputable def x_slices_stableCmpFunc_int64_0o_2Fi_TurnValues_1_2c0p1_C10o2 (a0 : Int) (a1 : List Int) (a2 : List F) : Option ((List Int) × (List F)) :=
 obind (loopM (x_slices_stableCmpFunc_int64_0o_2Fi_TurnValues_1_2c0p1_C10o2_s1 a0 a1 a2) (a1, a2, 0, 20)) fun z => osum z (fun e => x_slices_stableCmpFunc_int64_0o_2Fi_TurnValues_1_2c0p1_C10o2_k1 a0 a1 a2 e.1 e.2.1 e.2.2) (fun r => some r)
theorem x_slices_stableCmpFunc_int64_0o_2Fi_TurnValues_1_2c0p1_C10o2_ok (a0 : Int) (a1 : List Int) (a2 : List F) (q0 : List Int) (q1 : List F) (h : x_slices_stableCmpFunc_int64_0o_2Fi_TurnValues_1_2c0p1_C10o2 a0 a1 a2 = some (q0, q1)) : Ev Try.prog 117 [oref 0 0 0 a1.length, i64 a0, fn (.func 73) [] [optr 1 0 0]] [⟨0, some (a1.map i64)⟩, ⟨0, some [oref 2 0 0 a2.length]⟩, ⟨0, some (a2.map f32)⟩] (tup []) [⟨0, some (q0.map i64)⟩, ⟨0, some [oref 2 0 0 a2.length]⟩, ⟨0, some (q1.map f32)⟩] := by
 refine Ev.start Try.func117 rfl rfl 0 (τ := [(0, oref 0 0 0 a1.length), (1, i64 a0), (2, fn (.func 73) [] [optr 1 0 0])]) rfl (Γ' := [⟨0, some (a1.map i64)⟩, ⟨0, some [oref 2 0 0 a2.length]⟩, ⟨0, some (a2.map f32)⟩]) rfl (n := 126) rfl (g := 3) rfl (by decide) ?_
 unfold x_slices_stableCmpFunc_int64_0o_2Fi_TurnValues_1_2c0p1_C10o2 at h
 refine zQ ?_
 refine zA (r := i64 20) rfl rfl rfl rfl rfl ?_
 refine zN ?_
 refine zQ ?_
 refine zM (r := i64 20) rfl rfl rfl rfl rfl ?_
 refine zA (r := i64 0) rfl rfl rfl rfl rfl ?_
 refine zA (r := i64 20) rfl rfl rfl rfl rfl ?_
 refine zN ?_
 refine RunC.seq ?_
 obtain ⟨z7, hz_7, h⟩ := obind_some h
 refine RunC.cutN (fun τ Γ => ∃ (L10 : List Int) (L12 : List F) (v14 : Int), L10.length = a1.length ∧ L12.length = a2.length ∧ WeakLe τ [(0, oref 0 0 0 a1.length), (1, i64 a0), (2, fn (.func 73) [] [optr 1 0 0]), (6, i64 20), (7, i64 v14)] ∧ DeadLe Γ [⟨0, some (L10.map i64)⟩, ⟨0, some [oref 2 0 0 a2.length]⟩, ⟨0, some (L12.map f32)⟩] ∧ z7 = .inl (L10, L12, v14)) ?_ ?_
 ·refine RunC.block (RunC.loop (RunL.loopM (x := z7) (x_slices_stableCmpFunc_int64_0o_2Fi_TurnValues_1_2c0p1_C10o2_s1 a0 a1 a2) (fun (s : (List Int) × (List F) × Int × Int) τ Γ => s.1.length = a1.length ∧ s.2.1.length = a2.length ∧ WeakLe τ [(0, oref 0 0 0 a1.length), (1, i64 a0), (2, fn (.func 73) [] [optr 1 0 0]), (6, i64 20), (7, i64 s.2.2.1), (8, i64 s.2.2.2)] ∧ DeadLe Γ [⟨0, some (s.1.map i64)⟩, ⟨0, some [oref 2 0 0 a2.length]⟩, ⟨0, some (s.2.1.map f32)⟩]) ?_ _ _ _ hz_7 ⟨rfl, rfl, ⟨aR, aR, aR, aR, aR, aR, trivial⟩, ⟨⟨rfl, .inr rfl⟩, ⟨rfl, .inr rfl⟩, ⟨rfl, .inr rfl⟩, trivial⟩⟩))
  rintro ⟨L1, L3, v5, v6⟩ τ7 Γ7 y7_ ⟨hl2, hl4, hw7, hd7⟩ h7_ ho7 hr7
  refine RunC.wl (τ' := [(0, oref 0 0 0 a1.length), (1, i64 a0), (2, fn (.func 73) [] [optr 1 0 0]), (6, i64 20), (7, i64 v5), (8, i64 v6)]) (Γ' := [⟨0, some (L1.map i64)⟩, ⟨0, some [oref 2 0 0 a2.length]⟩, ⟨0, some (L3.map f32)⟩]) hw7 hd7 ?_
  replace hl2 : L1.length = a1.length := hl2
  replace hl4 : L3.length = a2.length := hl4
  replace h7_ : x_slices_stableCmpFunc_int64_0o_2Fi_TurnValues_1_2c0p1_C10o2_b1 a0 a1 a2 L1 L3 v5 v6 = some y7_ := h7_
  unfold x_slices_stableCmpFunc_int64_0o_2Fi_TurnValues_1_2c0p1_C10o2_b1 at h7_
  refine RunC.seq ?_
  refine RunC.seq ?_
  rcases bsel_some h7_ with ⟨hc1, h7_⟩ | ⟨hc1, h7_⟩
  ·refine RunC.regionW ?_
   refine zM (r := i64 v6) rfl rfl rfl rfl rfl ?_
   refine zM (r := i64 a0) rfl rfl rfl rfl rfl ?_
   refine zL (r := b true) rfl rfl rfl (LOp.eqb (LOp.leq rfl rfl rfl) hc1) ?_
   refine zN ?_
   refine RunC.cond_true rfl rfl ?_
   refine RunC.skip ?_
   refine RunC.block ?_
   refine RunC.seq ?_
   obtain ⟨r7, r8, hf2, h7_⟩ := obind2_some h7_
   obtain ⟨hn3, h7_⟩ := need_some h7_
   obtain ⟨hn4, h7_⟩ := need_some h7_
   refine RunC.regionW ?_
   refine zM (r := oref 0 0 0 a1.length) rfl rfl rfl rfl rfl ?_
   refine zM (r := i64 v5) rfl rfl rfl rfl rfl ?_
   refine zM (r := i64 v6) rfl rfl rfl rfl rfl ?_
   refine zM (r := fn (.func 73) [] [optr 1 0 0]) rfl rfl rfl rfl rfl ?_
   refine ROps.callO (A := [oref 0 0 0 a1.length, i64 v5, i64 v6, fn (.func 73) [] [optr 1 0 0]]) (args := [oref 0 0 0 L1.length, i64 v5, i64 v6, fn (.func 73) [] [optr 1 0 0]]) (Γc := [⟨0, some (L1.map i64)⟩, ⟨0, some [oref 2 0 0 L3.length]⟩, ⟨0, some (L3.map f32)⟩]) (Γc' := [⟨0, some (r7.map i64)⟩, ⟨0, some [oref 2 0 0 L3.length]⟩, ⟨0, some (r8.map f32)⟩]) (r' := tup []) (Γ' := [⟨0, some (r7.map i64)⟩, ⟨0, some [oref 2 0 0 a2.length]⟩, ⟨0, some (r8.map f32)⟩]) [(0, 0), (1, 0), (2, 0)] [] rfl (CallAs.func ent135 rfl rfl) rfl rfl (SelOk.of (show List.Nodup [0, 1, 2] from by decide) (SelL.arr0 (f := i64) (fun _ => rfl) rfl (SelL.cells0 rfl (by simp [ren, rens, sigma, rens_f32, rens_f64, rens_i64, rens_ik, rens_str, rens_cp, hl2, hl4]) rfl (SelL.arr0 (f := f32) (fun _ => rfl) rfl trivial)))) (live_of ⟨⟨_, _, rfl⟩, ⟨_, _, rfl⟩, ⟨_, _, rfl⟩, trivial⟩) (by simp [ren, rens, sigma, rens_f32, rens_f64, rens_i64, rens_ik, rens_str, rens_cp, hl2, hl4]) rfl (x_slices_insertionSortCmpFunc_int64_0o_3Fi_TurnValues_1_3c0p1_C10o2_ok v5 v6 L1 L3 r7 r8 hf2) rfl (news_of trivial) (show List.Nodup [0, 1, 2] from by decide) (by simp [ren, rens, sigma, of_decide_eq_true hn3, of_decide_eq_true hn4]) (by simp [backOb, sigma, ren, rens, rens_f32, rens_f64, rens_i64, rens_ik, rens_str, rens_cp, hl2, hl4, of_decide_eq_true hn3, of_decide_eq_true hn4]) ?_
   refine zN ?_
   refine zQ ?_
   refine zM (r := i64 v6) rfl rfl rfl rfl rfl ?_
   refine zA (r := i64 v6) rfl rfl rfl rfl rfl ?_
   refine zN ?_
   obtain ⟨x9, hx5, h7_⟩ := olet_some h7_
   refine RunC.regionW ?_
   refine zM (r := i64 v6) rfl rfl rfl rfl rfl ?_
   refine zM (r := i64 20) rfl rfl rfl rfl rfl ?_
   refine zL (r := i64 x9) rfl rfl rfl (LOp.eqr (LOp.add rfl rfl rfl) (congrArg (ik .i64) hx5)) ?_
   refine zA (r := i64 x9) rfl rfl rfl rfl rfl ?_
   refine zN ?_
   cases Option.some.inj h7_
   exact ⟨_, rfl, (of_decide_eq_true hn3), (of_decide_eq_true hn4), ⟨aR, aR, aR, aR, aR, aR, trivial⟩, ⟨⟨rfl, .inr rfl⟩, ⟨rfl, .inr rfl⟩, ⟨rfl, .inr rfl⟩, trivial⟩⟩
  ·refine RunC.regionW ?_
   refine zM (r := i64 v6) rfl rfl rfl rfl rfl ?_
   refine zM (r := i64 a0) rfl rfl rfl rfl rfl ?_
   refine zL (r := b false) rfl rfl rfl (LOp.eqb (LOp.leq rfl rfl rfl) hc1) ?_
   refine zN ?_
   refine RunC.cond_false rfl rfl ?_
   refine RunC.exit ?_
   cases Option.some.inj h7_
   have hx := ho7 _ rfl
   exact ⟨L1, L3, v5, hl2, hl4, ⟨aR, aR, aR, aR, aR, trivial⟩, ⟨⟨rfl, .inr rfl⟩, ⟨rfl, .inr rfl⟩, ⟨rfl, .inr rfl⟩, trivial⟩, hx⟩
 ·rintro τ8 Γ8 ⟨L10, L12, v14, hl11, hl13, hw8, hd8, rfl⟩
  refine RunC.wl hw8 hd8 ?_
  replace h : x_slices_stableCmpFunc_int64_0o_2Fi_TurnValues_1_2c0p1_C10o2_k1 a0 a1 a2 L10 L12 v14 = some (q0, q1) := h
  unfold x_slices_stableCmpFunc_int64_0o_2Fi_TurnValues_1_2c0p1_C10o2_k1 at h
  refine RunC.seq ?_
  obtain ⟨r15, r16, hf6, h⟩ := obind2_some h
  obtain ⟨hn7, h⟩ := need_some h
  obtain ⟨hn8, h⟩ := need_some h
  refine RunC.regionW ?_
  refine zM (r := oref 0 0 0 a1.length) rfl rfl rfl rfl rfl ?_
  refine zM (r := i64 v14) rfl rfl rfl rfl rfl ?_
  refine zM (r := i64 a0) rfl rfl rfl rfl rfl ?_
  refine zM (r := fn (.func 73) [] [optr 1 0 0]) rfl rfl rfl rfl rfl ?_
  refine ROps.callO (A := [oref 0 0 0 a1.length, i64 v14, i64 a0, fn (.func 73) [] [optr 1 0 0]]) (args := [oref 0 0 0 L10.length, i64 v14, i64 a0, fn (.func 73) [] [optr 1 0 0]]) (Γc := [⟨0, some (L10.map i64)⟩, ⟨0, some [oref 2 0 0 L12.length]⟩, ⟨0, some (L12.map f32)⟩]) (Γc' := [⟨0, some (r15.map i64)⟩, ⟨0, some [oref 2 0 0 L12.length]⟩, ⟨0, some (r16.map f32)⟩]) (r' := tup []) (Γ' := [⟨0, some (r15.map i64)⟩, ⟨0, some [oref 2 0 0 a2.length]⟩, ⟨0, some (r16.map f32)⟩]) [(0, 0), (1, 0), (2, 0)] [] rfl (CallAs.func ent135 rfl rfl) rfl rfl (SelOk.of (show List.Nodup [0, 1, 2] from by decide) (SelL.arr0 (f := i64) (fun _ => rfl) rfl (SelL.cells0 rfl (by simp [ren, rens, sigma, rens_f32, rens_f64, rens_i64, rens_ik, rens_str, rens_cp, hl11, hl13]) rfl (SelL.arr0 (f := f32) (fun _ => rfl) rfl trivial)))) (live_of ⟨⟨_, _, rfl⟩, ⟨_, _, rfl⟩, ⟨_, _, rfl⟩, trivial⟩) (by simp [ren, rens, sigma, rens_f32, rens_f64, rens_i64, rens_ik, rens_str, rens_cp, hl11, hl13]) rfl (x_slices_insertionSortCmpFunc_int64_0o_3Fi_TurnValues_1_3c0p1_C10o2_ok v14 a0 L10 L12 r15 r16 hf6) rfl (news_of trivial) (show List.Nodup [0, 1, 2] from by decide) (by simp [ren, rens, sigma, of_decide_eq_true hn7, of_decide_eq_true hn8]) (by simp [backOb, sigma, ren, rens, rens_f32, rens_f64, rens_i64, rens_ik, rens_str, rens_cp, hl11, hl13, of_decide_eq_true hn7, of_decide_eq_true hn8]) ?_
  refine zN ?_
  obtain ⟨z9, hz_9, h⟩ := obind_some h
  refine RunC.cutN (fun τ Γ => ∃ (L47 : List Int) (L49 : List F), L47.length = a1.length ∧ L49.length = a2.length ∧ WeakLe τ [] ∧ DeadLe Γ [⟨0, some (L47.map i64)⟩, ⟨0, some [oref 2 0 0 a2.length]⟩, ⟨0, some (L49.map f32)⟩] ∧ z9 = .inl (L47, L49)) ?_ ?_
  ·refine RunC.block (RunC.loop (RunL.loopM (x := z9) (x_slices_stableCmpFunc_int64_0o_2Fi_TurnValues_1_2c0p1_C10o2_s6 a0 a1 a2) (fun (s : (List Int) × (List F) × Int) τ Γ => s.1.length = a1.length ∧ s.2.1.length = a2.length ∧ WeakLe τ [(0, oref 0 0 0 a1.length), (1, i64 a0), (2, fn (.func 73) [] [optr 1 0 0]), (6, i64 s.2.2)] ∧ DeadLe Γ [⟨0, some (s.1.map i64)⟩, ⟨0, some [oref 2 0 0 a2.length]⟩, ⟨0, some (s.2.1.map f32)⟩]) ?_ _ _ _ hz_9 ⟨(of_decide_eq_true hn7), (of_decide_eq_true hn8), ⟨aR, aR, aR, aR, trivial⟩, ⟨⟨rfl, .inr rfl⟩, ⟨rfl, .inr rfl⟩, ⟨rfl, .inr rfl⟩, trivial⟩⟩))
   rintro ⟨L17, L19, v21⟩ τ9 Γ9 y9_ ⟨hl18, hl20, hw9, hd9⟩ h9_ ho9 hr9
   refine RunC.wl (τ' := [(0, oref 0 0 0 a1.length), (1, i64 a0), (2, fn (.func 73) [] [optr 1 0 0]), (6, i64 v21)]) (Γ' := [⟨0, some (L17.map i64)⟩, ⟨0, some [oref 2 0 0 a2.length]⟩, ⟨0, some (L19.map f32)⟩]) hw9 hd9 ?_
   replace hl18 : L17.length = a1.length := hl18
   replace hl20 : L19.length = a2.length := hl20
   replace h9_ : x_slices_stableCmpFunc_int64_0o_2Fi_TurnValues_1_2c0p1_C10o2_b6 a0 a1 a2 L17 L19 v21 = some y9_ := h9_
   unfold x_slices_stableCmpFunc_int64_0o_2Fi_TurnValues_1_2c0p1_C10o2_b6 at h9_
   refine RunC.seq ?_
   refine RunC.seq ?_
   rcases bsel_some h9_ with ⟨hc9, h9_⟩ | ⟨hc9, h9_⟩
   ·refine RunC.regionW ?_
    refine zM (r := i64 v21) rfl rfl rfl rfl rfl ?_
    refine zM (r := i64 a0) rfl rfl rfl rfl rfl ?_
    refine zL (r := b true) rfl rfl rfl (LOp.eqb (LOp.lss rfl rfl rfl) hc9) ?_
    refine zN ?_
    refine RunC.cond_true rfl rfl ?_
    refine RunC.skip ?_
    refine RunC.block ?_
    refine RunC.seq ?_
    obtain ⟨x22, hx10, h9_⟩ := olet_some h9_
    refine RunC.regionW ?_
    refine zM (r := i64 v21) rfl rfl rfl rfl rfl ?_
    refine zL (r := i64 x22) rfl rfl rfl (LOp.eqr (LOp.mul rfl rfl rfl) (congrArg (ik .i64) hx10)) ?_
    refine zA (r := i64 0) rfl rfl rfl rfl rfl ?_
    refine zA (r := i64 x22) rfl rfl rfl rfl rfl ?_
    refine zN ?_
    refine RunC.seq ?_
    obtain ⟨z10, hz_10, h9_⟩ := obind_some h9_
    refine RunC.cutN (fun τ Γ => ∃ (L34 : List Int) (L36 : List F) (v38 : Int), L34.length = a1.length ∧ L36.length = a2.length ∧ WeakLe τ [(0, oref 0 0 0 a1.length), (1, i64 a0), (2, fn (.func 73) [] [optr 1 0 0]), (6, i64 v21), (7, i64 v38)] ∧ DeadLe Γ [⟨0, some (L34.map i64)⟩, ⟨0, some [oref 2 0 0 a2.length]⟩, ⟨0, some (L36.map f32)⟩] ∧ z10 = .inl (L34, L36, v38)) ?_ ?_
    ·refine RunC.block (RunC.loop (RunL.loopM (x := z10) (x_slices_stableCmpFunc_int64_0o_2Fi_TurnValues_1_2c0p1_C10o2_s4 a0 a1 a2 v21) (fun (s : (List Int) × (List F) × Int × Int) τ Γ => s.1.length = a1.length ∧ s.2.1.length = a2.length ∧ WeakLe τ [(0, oref 0 0 0 a1.length), (1, i64 a0), (2, fn (.func 73) [] [optr 1 0 0]), (6, i64 v21), (7, i64 s.2.2.1), (8, i64 s.2.2.2)] ∧ DeadLe Γ [⟨0, some (s.1.map i64)⟩, ⟨0, some [oref 2 0 0 a2.length]⟩, ⟨0, some (s.2.1.map f32)⟩]) ?_ _ _ _ hz_10 ⟨hl18, hl20, ⟨aR, aR, aR, aR, aR, aR, trivial⟩, ⟨⟨rfl, .inr rfl⟩, ⟨rfl, .inr rfl⟩, ⟨rfl, .inr rfl⟩, trivial⟩⟩))
     rintro ⟨L23, L25, v27, v28⟩ τ10 Γ10 y10_ ⟨hl24, hl26, hw10, hd10⟩ h10_ ho10 hr10
     refine RunC.wl (τ' := [(0, oref 0 0 0 a1.length), (1, i64 a0), (2, fn (.func 73) [] [optr 1 0 0]), (6, i64 v21), (7, i64 v27), (8, i64 v28)]) (Γ' := [⟨0, some (L23.map i64)⟩, ⟨0, some [oref 2 0 0 a2.length]⟩, ⟨0, some (L25.map f32)⟩]) hw10 hd10 ?_
     replace hl24 : L23.length = a1.length := hl24
     replace hl26 : L25.length = a2.length := hl26
     replace h10_ : x_slices_stableCmpFunc_int64_0o_2Fi_TurnValues_1_2c0p1_C10o2_b4 a0 a1 a2 v21 L23 L25 v27 v28 = some y10_ := h10_
     unfold x_slices_stableCmpFunc_int64_0o_2Fi_TurnValues_1_2c0p1_C10o2_b4 at h10_
     refine RunC.seq ?_
     refine RunC.seq ?_
     rcases bsel_some h10_ with ⟨hc11, h10_⟩ | ⟨hc11, h10_⟩
     ·refine RunC.regionW ?_
      refine zM (r := i64 v28) rfl rfl rfl rfl rfl ?_
      refine zM (r := i64 a0) rfl rfl rfl rfl rfl ?_
      refine zL (r := b true) rfl rfl rfl (LOp.eqb (LOp.leq rfl rfl rfl) hc11) ?_
      refine zN ?_
      refine RunC.cond_true rfl rfl ?_
      refine RunC.skip ?_
      refine RunC.block ?_
      refine RunC.seq ?_
      obtain ⟨x29, hx12, h10_⟩ := olet_some h10_
      obtain ⟨r30, r31, hf13, h10_⟩ := obind2_some h10_
      obtain ⟨hn14, h10_⟩ := need_some h10_
      obtain ⟨hn15, h10_⟩ := need_some h10_
      refine RunC.regionW ?_
      refine zM (r := oref 0 0 0 a1.length) rfl rfl rfl rfl rfl ?_
      refine zM (r := i64 v27) rfl rfl rfl rfl rfl ?_
      refine zM (r := i64 v27) rfl rfl rfl rfl rfl ?_
      refine zM (r := i64 v21) rfl rfl rfl rfl rfl ?_
      refine zL (r := i64 x29) rfl rfl rfl (LOp.eqr (LOp.add rfl rfl rfl) (congrArg (ik .i64) hx12)) ?_
      refine zM (r := i64 v28) rfl rfl rfl rfl rfl ?_
      refine zM (r := fn (.func 73) [] [optr 1 0 0]) rfl rfl rfl rfl rfl ?_
      refine ROps.callO (A := [oref 0 0 0 a1.length, i64 v27, i64 x29, i64 v28, fn (.func 73) [] [optr 1 0 0]]) (args := [oref 0 0 0 L23.length, i64 v27, i64 x29, i64 v28, fn (.func 73) [] [optr 1 0 0]]) (Γc := [⟨0, some (L23.map i64)⟩, ⟨0, some [oref 2 0 0 L25.length]⟩, ⟨0, some (L25.map f32)⟩]) (Γc' := [⟨0, some (r30.map i64)⟩, ⟨0, some [oref 2 0 0 L25.length]⟩, ⟨0, some (r31.map f32)⟩]) (r' := tup []) (Γ' := [⟨0, some (r30.map i64)⟩, ⟨0, some [oref 2 0 0 a2.length]⟩, ⟨0, some (r31.map f32)⟩]) [(0, 0), (1, 0), (2, 0)] [] rfl (CallAs.func ent136 rfl rfl) rfl rfl (SelOk.of (show List.Nodup [0, 1, 2] from by decide) (SelL.arr0 (f := i64) (fun _ => rfl) rfl (SelL.cells0 rfl (by simp [ren, rens, sigma, rens_f32, rens_f64, rens_i64, rens_ik, rens_str, rens_cp, hl24, hl26]) rfl (SelL.arr0 (f := f32) (fun _ => rfl) rfl trivial)))) (live_of ⟨⟨_, _, rfl⟩, ⟨_, _, rfl⟩, ⟨_, _, rfl⟩, trivial⟩) (by simp [ren, rens, sigma, rens_f32, rens_f64, rens_i64, rens_ik, rens_str, rens_cp, hl24, hl26]) rfl (x_slices_symMergeCmpFunc_int64_0o_4Fi_TurnValues_1_4c0p1_C10o2_ok v27 x29 v28 L23 L25 r30 r31 hf13) rfl (news_of trivial) (show List.Nodup [0, 1, 2] from by decide) (by simp [ren, rens, sigma, of_decide_eq_true hn14, of_decide_eq_true hn15]) (by simp [backOb, sigma, ren, rens, rens_f32, rens_f64, rens_i64, rens_ik, rens_str, rens_cp, hl24, hl26, of_decide_eq_true hn14, of_decide_eq_true hn15]) ?_
      refine zN ?_
      refine zQ ?_
      refine zM (r := i64 v28) rfl rfl rfl rfl rfl ?_
      refine zA (r := i64 v28) rfl rfl rfl rfl rfl ?_
      refine zN ?_
      obtain ⟨x32, hx16, h10_⟩ := olet_some h10_
      obtain ⟨x33, hx17, h10_⟩ := olet_some h10_
      refine RunC.regionW ?_
      refine zM (r := i64 v28) rfl rfl rfl rfl rfl ?_
      refine zM (r := i64 v21) rfl rfl rfl rfl rfl ?_
      refine zL (r := i64 x32) rfl rfl rfl (LOp.eqr (LOp.mul rfl rfl rfl) (congrArg (ik .i64) hx16)) ?_
      refine zL (r := i64 x33) rfl rfl rfl (LOp.eqr (LOp.add rfl rfl rfl) (congrArg (ik .i64) hx17)) ?_
      refine zA (r := i64 x33) rfl rfl rfl rfl rfl ?_
      refine zN ?_
      cases Option.some.inj h10_
      exact ⟨_, rfl, (of_decide_eq_true hn14), (of_decide_eq_true hn15), ⟨aR, aR, aR, aR, aR, aR, trivial⟩, ⟨⟨rfl, .inr rfl⟩, ⟨rfl, .inr rfl⟩, ⟨rfl, .inr rfl⟩, trivial⟩⟩
     ·refine RunC.regionW ?_
      refine zM (r := i64 v28) rfl rfl rfl rfl rfl ?_
      refine zM (r := i64 a0) rfl rfl rfl rfl rfl ?_
      refine zL (r := b false) rfl rfl rfl (LOp.eqb (LOp.leq rfl rfl rfl) hc11) ?_
      refine zN ?_
      refine RunC.cond_false rfl rfl ?_
      refine RunC.exit ?_
      cases Option.some.inj h10_
      have hx := ho10 _ rfl
      exact ⟨L23, L25, v27, hl24, hl26, ⟨aR, aR, aR, aR, aR, trivial⟩, ⟨⟨rfl, .inr rfl⟩, ⟨rfl, .inr rfl⟩, ⟨rfl, .inr rfl⟩, trivial⟩, hx⟩
    ·rintro τ11 Γ11 ⟨L34, L36, v38, hl35, hl37, hw11, hd11, rfl⟩
     refine RunC.wl hw11 hd11 ?_
     replace h9_ : x_slices_stableCmpFunc_int64_0o_2Fi_TurnValues_1_2c0p1_C10o2_k4 a0 a1 a2 v21 L34 L36 v38 = some y9_ := h9_
     unfold x_slices_stableCmpFunc_int64_0o_2Fi_TurnValues_1_2c0p1_C10o2_k4 at h9_
     refine RunC.seq ?_
     refine RunC.cutN (fun τ Γ => ∃ (L42 : List Int) (L44 : List F), L42.length = a1.length ∧ L44.length = a2.length ∧ WeakLe τ [(0, oref 0 0 0 a1.length), (1, i64 a0), (2, fn (.func 73) [] [optr 1 0 0]), (6, i64 v21)] ∧ DeadLe Γ [⟨0, some (L42.map i64)⟩, ⟨0, some [oref 2 0 0 a2.length]⟩, ⟨0, some (L44.map f32)⟩] ∧ x_slices_stableCmpFunc_int64_0o_2Fi_TurnValues_1_2c0p1_C10o2_k5 v21 L42 L44 = some y9_) ?_ ?_
     ·refine RunC.seq ?_
      obtain ⟨x39, hx18, h9_⟩ := olet_some h9_
      refine RunC.regionW ?_
      refine zM (r := i64 v38) rfl rfl rfl rfl rfl ?_
      refine zM (r := i64 v21) rfl rfl rfl rfl rfl ?_
      refine zL (r := i64 x39) rfl rfl rfl (LOp.eqr (LOp.add rfl rfl rfl) (congrArg (ik .i64) hx18)) ?_
      refine zA (r := i64 x39) rfl rfl rfl rfl rfl ?_
      refine zN ?_
      refine RunC.seq ?_
      rcases bsel_some h9_ with ⟨hc19, h9_⟩ | ⟨hc19, h9_⟩
      ·refine RunC.regionW ?_
       refine zM (r := i64 x39) rfl rfl rfl rfl rfl ?_
       refine zM (r := i64 a0) rfl rfl rfl rfl rfl ?_
       refine zL (r := b true) rfl rfl rfl (LOp.eqb (LOp.lss rfl rfl rfl) hc19) ?_
       refine zN ?_
       refine RunC.cond_true rfl rfl ?_
       obtain ⟨r40, r41, hf20, h9_⟩ := obind2_some h9_
       obtain ⟨hn21, h9_⟩ := need_some h9_
       obtain ⟨hn22, h9_⟩ := need_some h9_
       refine RunC.regionW ?_
       refine zM (r := oref 0 0 0 a1.length) rfl rfl rfl rfl rfl ?_
       refine zM (r := i64 v38) rfl rfl rfl rfl rfl ?_
       refine zM (r := i64 x39) rfl rfl rfl rfl rfl ?_
       refine zM (r := i64 a0) rfl rfl rfl rfl rfl ?_
       refine zM (r := fn (.func 73) [] [optr 1 0 0]) rfl rfl rfl rfl rfl ?_
       refine ROps.callO (A := [oref 0 0 0 a1.length, i64 v38, i64 x39, i64 a0, fn (.func 73) [] [optr 1 0 0]]) (args := [oref 0 0 0 L34.length, i64 v38, i64 x39, i64 a0, fn (.func 73) [] [optr 1 0 0]]) (Γc := [⟨0, some (L34.map i64)⟩, ⟨0, some [oref 2 0 0 L36.length]⟩, ⟨0, some (L36.map f32)⟩]) (Γc' := [⟨0, some (r40.map i64)⟩, ⟨0, some [oref 2 0 0 L36.length]⟩, ⟨0, some (r41.map f32)⟩]) (r' := tup []) (Γ' := [⟨0, some (r40.map i64)⟩, ⟨0, some [oref 2 0 0 a2.length]⟩, ⟨0, some (r41.map f32)⟩]) [(0, 0), (1, 0), (2, 0)] [] rfl (CallAs.func ent136 rfl rfl) rfl rfl (SelOk.of (show List.Nodup [0, 1, 2] from by decide) (SelL.arr0 (f := i64) (fun _ => rfl) rfl (SelL.cells0 rfl (by simp [ren, rens, sigma, rens_f32, rens_f64, rens_i64, rens_ik, rens_str, rens_cp, hl35, hl37]) rfl (SelL.arr0 (f := f32) (fun _ => rfl) rfl trivial)))) (live_of ⟨⟨_, _, rfl⟩, ⟨_, _, rfl⟩, ⟨_, _, rfl⟩, trivial⟩) (by simp [ren, rens, sigma, rens_f32, rens_f64, rens_i64, rens_ik, rens_str, rens_cp, hl35, hl37]) rfl (x_slices_symMergeCmpFunc_int64_0o_4Fi_TurnValues_1_4c0p1_C10o2_ok v38 x39 a0 L34 L36 r40 r41 hf20) rfl (news_of trivial) (show List.Nodup [0, 1, 2] from by decide) (by simp [ren, rens, sigma, of_decide_eq_true hn21, of_decide_eq_true hn22]) (by simp [backOb, sigma, ren, rens, rens_f32, rens_f64, rens_i64, rens_ik, rens_str, rens_cp, hl35, hl37, of_decide_eq_true hn21, of_decide_eq_true hn22]) ?_
       refine zN ?_
       exact ⟨r40, r41, (of_decide_eq_true hn21), (of_decide_eq_true hn22), ⟨aR, aR, aR, aR, trivial⟩, ⟨⟨rfl, .inr rfl⟩, ⟨rfl, .inr rfl⟩, ⟨rfl, .inr rfl⟩, trivial⟩, h9_⟩
      ·refine RunC.regionW ?_
       refine zM (r := i64 x39) rfl rfl rfl rfl rfl ?_
       refine zM (r := i64 a0) rfl rfl rfl rfl rfl ?_
       refine zL (r := b false) rfl rfl rfl (LOp.eqb (LOp.lss rfl rfl rfl) hc19) ?_
       refine zN ?_
       refine RunC.cond_false rfl rfl ?_
       refine RunC.skip ?_
       exact ⟨L34, L36, hl35, hl37, ⟨aR, aR, aR, aR, trivial⟩, ⟨⟨rfl, .inr rfl⟩, ⟨rfl, .inr rfl⟩, ⟨rfl, .inr rfl⟩, trivial⟩, h9_⟩
     ·rintro τ12 Γ12 ⟨L42, L44, hl43, hl45, hw12, hd12, h9_⟩
      refine RunC.wl hw12 hd12 ?_
      unfold x_slices_stableCmpFunc_int64_0o_2Fi_TurnValues_1_2c0p1_C10o2_k5 at h9_
      obtain ⟨x46, hx23, h9_⟩ := olet_some h9_
      refine RunC.regionW ?_
      refine zM (r := i64 v21) rfl rfl rfl rfl rfl ?_
      refine zL (r := i64 x46) rfl rfl rfl (LOp.eqr (LOp.mul rfl rfl rfl) (congrArg (ik .i64) hx23)) ?_
      refine zA (r := i64 x46) rfl rfl rfl rfl rfl ?_
      refine zN ?_
      cases Option.some.inj h9_
      exact ⟨_, rfl, hl43, hl45, ⟨aR, aR, aR, aR, trivial⟩, ⟨⟨rfl, .inr rfl⟩, ⟨rfl, .inr rfl⟩, ⟨rfl, .inr rfl⟩, trivial⟩⟩
   ·refine RunC.regionW ?_
    refine zM (r := i64 v21) rfl rfl rfl rfl rfl ?_
    refine zM (r := i64 a0) rfl rfl rfl rfl rfl ?_
    refine zL (r := b false) rfl rfl rfl (LOp.eqb (LOp.lss rfl rfl rfl) hc9) ?_
    refine zN ?_
    refine RunC.cond_false rfl rfl ?_
    refine RunC.exit ?_
    cases Option.some.inj h9_
    have hx := ho9 _ rfl
    exact ⟨L17, L19, hl18, hl20, trivial, ⟨⟨rfl, .inr rfl⟩, ⟨rfl, .inr rfl⟩, ⟨rfl, .inr rfl⟩, trivial⟩, hx⟩
  ·rintro τ13 Γ13 ⟨L47, L49, hl48, hl50, hw13, hd13, rfl⟩
   replace h : x_slices_stableCmpFunc_int64_0o_2Fi_TurnValues_1_2c0p1_C10o2_k6 L47 L49 = some (q0, q1) := h
   unfold x_slices_stableCmpFunc_int64_0o_2Fi_TurnValues_1_2c0p1_C10o2_k6 at h
   refine bodyQ.wl hw13 hd13 ?_
   have hq := Option.some.inj h
   obtain ⟨hq0, hq⟩ := Prod.mk.inj hq
   subst q0
   subst q1
   exact bodyQ.mk (r' := tup []) [(0, 0), (1, 0), (2, 0)] (.inl rfl) rfl (show List.Nodup [0, 1, 2] from by decide) rfl rfl (Res.zero rfl) (SelL.arr (f := i64) (fun _ => rfl) rfl (SelL.cells rfl (by first | rfl | simp [ren, rens, sigma, rens_f32, rens_f64, rens_i64, rens_ik, rens_str, rens_cp]) rfl (SelL.arr (f := f32) (fun _ => rfl) rfl trivial)))
noncomputable def x_slices_SortStableFunc_int64_int64_0o_1Fi_TurnValues_1_1c0p1_C10o2 (a0 : List Int) (a1 : List F) : Option ((List Int) × (List F)) :=
 obind2 (x_slices_stableCmpFunc_int64_0o_2Fi_TurnValues_1_2c0p1_C10o2 ((a0.length : Nat) : Int) a0 a1) fun (r1 : List Int) (r2 : List F) =>
 need (decide (r1.length = a0.length)) <|
 need (decide (r2.length = a1.length)) <|
 some (r1, r2)
theorem x_slices_SortStableFunc_int64_int64_0o_1Fi_TurnValues_1_1c0p1_C10o2_ok (a0 : List Int) (a1 : List F) (q0 : List Int) (q1 : List F) (h : x_slices_SortStableFunc_int64_int64_0o_1Fi_TurnValues_1_1c0p1_C10o2 a0 a1 = some (q0, q1)) : Ev Try.prog 72 [oref 0 0 0 a0.length, fn (.func 73) [] [optr 1 0 0]] [⟨0, some (a0.map i64)⟩, ⟨0, some [oref 2 0 0 a1.length]⟩, ⟨0, some (a1.map f32)⟩] (tup []) [⟨0, some (q0.map i64)⟩, ⟨0, some [oref 2 0 0 a1.length]⟩, ⟨0, some (q1.map f32)⟩] := by
 refine Ev.start Try.func72 rfl rfl 0 (τ := [(0, oref 0 0 0 a0.length), (1, fn (.func 73) [] [optr 1 0 0])]) rfl (Γ' := [⟨0, some (a0.map i64)⟩, ⟨0, some [oref 2 0 0 a1.length]⟩, ⟨0, some (a1.map f32)⟩]) rfl (n := 18) rfl (g := 3) rfl (by decide) ?_
 unfold x_slices_SortStableFunc_int64_int64_0o_1Fi_TurnValues_1_1c0p1_C10o2 at h
 obtain ⟨r1, r2, hf1, h⟩ := obind2_some h
 obtain ⟨hn2, h⟩ := need_some h
 obtain ⟨hn3, h⟩ := need_some h
 refine RunC.regionW ?_
 refine zM (r := oref 0 0 0 a0.length) rfl rfl rfl rfl rfl ?_
 refine zM (r := oref 0 0 0 a0.length) rfl rfl rfl rfl rfl ?_
 refine zL (r := i64 ((a0.length : Nat) : Int)) rfl rfl rfl (LOp.len_oref und22 rfl rfl) ?_
 refine zM (r := fn (.func 73) [] [optr 1 0 0]) rfl rfl rfl rfl rfl ?_
 refine ROps.callO (A := [oref 0 0 0 a0.length, i64 ((a0.length : Nat) : Int), fn (.func 73) [] [optr 1 0 0]]) (args := [oref 0 0 0 a0.length, i64 ((a0.length : Nat) : Int), fn (.func 73) [] [optr 1 0 0]]) (Γc := [⟨0, some (a0.map i64)⟩, ⟨0, some [oref 2 0 0 a1.length]⟩, ⟨0, some (a1.map f32)⟩]) (Γc' := [⟨0, some (r1.map i64)⟩, ⟨0, some [oref 2 0 0 a1.length]⟩, ⟨0, some (r2.map f32)⟩]) (r' := tup []) (Γ' := [⟨0, some (r1.map i64)⟩, ⟨0, some [oref 2 0 0 a1.length]⟩, ⟨0, some (r2.map f32)⟩]) [(0, 0), (1, 0), (2, 0)] [] rfl (CallAs.func ent117 rfl rfl) rfl rfl (SelOk.of (show List.Nodup [0, 1, 2] from by decide) (SelL.arr0 (f := i64) (fun _ => rfl) rfl (SelL.cells0 rfl (by simp [ren, rens, sigma, rens_f32, rens_f64, rens_i64, rens_ik, rens_str, rens_cp]) rfl (SelL.arr0 (f := f32) (fun _ => rfl) rfl trivial)))) (live_of ⟨⟨_, _, rfl⟩, ⟨_, _, rfl⟩, ⟨_, _, rfl⟩, trivial⟩) (by simp [ren, rens, sigma, rens_f32, rens_f64, rens_i64, rens_ik, rens_str, rens_cp]) rfl (x_slices_stableCmpFunc_int64_0o_2Fi_TurnValues_1_2c0p1_C10o2_ok ((a0.length : Nat) : Int) a0 a1 r1 r2 hf1) rfl (news_of trivial) (show List.Nodup [0, 1, 2] from by decide) (by simp [ren, rens, sigma, of_decide_eq_true hn2, of_decide_eq_true hn3]) (by simp [backOb, sigma, ren, rens, rens_f32, rens_f64, rens_i64, rens_ik, rens_str, rens_cp, of_decide_eq_true hn2, of_decide_eq_true hn3]) ?_
 refine zN ?_
 have hq := Option.some.inj h
 obtain ⟨hq0, hq⟩ := Prod.mk.inj hq
 subst q0
 subst q1
 exact bodyQ.mk (r' := tup []) [(0, 0), (1, 0), (2, 0)] (.inl rfl) rfl (show List.Nodup [0, 1, 2] from by decide) rfl rfl (Res.zero rfl) (SelL.arr (f := i64) (fun _ => rfl) rfl (SelL.cells rfl (by first | rfl | simp [ren, rens, sigma, rens_f32, rens_f64, rens_i64, rens_ik, rens_str, rens_cp]) rfl (SelL.arr (f := f32) (fun _ => rfl) rfl trivial)))
noncomputable def i_TurnValues_2 (a0 : Int) (a1 : Int) (a2 : Int) (a3 : Int) (a4 : List F) (a5 : List Int) : Option (F) :=
 obind (at? a5 a1) fun (e1 : Int) =>
 obind (i_Matrix_at a2 a3 a4 a0 e1) fun (r2 : F) =>
 some r2
theorem i_TurnValues_2_ok (a0 : Int) (a1 : Int) (a2 : Int) (a3 : Int) (a4 : List F) (a5 : List Int) (q0 : F) (h : i_TurnValues_2 a0 a1 a2 a3 a4 a5 = some q0) : Ev Try.prog 75 [i64 a0, i64 a1, ptr [i64 a2, i64 a3, sl a4.length (a4.map f32)], ptr [sl a5.length (a5.map i64)]] [] (f32 q0) [] := by
 refine Ev.start Try.func75 rfl rfl 0 (τ := [(0, i64 a0), (1, i64 a1), (2, ptr [i64 a2, i64 a3, sl a4.length (a4.map f32)]), (3, ptr [sl a5.length (a5.map i64)])]) rfl (Γ' := []) rfl (n := 29) rfl (g := 0) rfl (fun _ => rfl) ?_
 unfold i_TurnValues_2 at h
 refine zQ ?_
 refine zL (r := f32 (some 0)) rfl rfl rfl (LOp.le (LOp.assign rfl rfl) (ALe.fl (by kernel_rfl) (by kernel_rfl))) ?_
 refine zN ?_
 refine RunC.seq ?_
 obtain ⟨e1, he1, h⟩ := obind_some h
 obtain ⟨r2, hf2, h⟩ := obind_some h
 refine RunC.region_draw (Γ' := []) 8 mixed 
  (TR.l (r := agg [i64 a2, i64 a3, sl a4.length (a4.map f32)]) rfl rfl (LOp.loadAgg agg45 siz45 rfl rfl rfl rfl) <|
  (TR.l (r := i64 a0) rfl rfl (LOp.move rfl rfl) <|
  (TR.l (r := sl a5.length (a5.map i64)) rfl rfl (LOp.load1 agg22 rfl rfl) <|
  (TR.l (r := i64 a1) rfl rfl (LOp.move rfl rfl) <|
  (TR.l (r := ptr [i64 e1]) rfl rfl (LOp.le (LOp.ix (f := i64) und22 siz2 rfl rfl rfl rfl he1) ALe.ptr) <|
  (TR.l (r := i64 e1) rfl rfl (LOp.load1 agg2 rfl rfl) <|
  (TR.d (r := f32 r2) (fs := []) rfl rfl (TOp.callB (CallAs.func ent76 rfl rfl) (Bors.cons (Bor.agg (Bors.cons (Bor.pure rfl) (Bors.cons (Bor.pure rfl) (Bors.cons (Bor.sl (fun _ => rfl)) Bors.nil)))) (Bors.cons (Bor.pure rfl) (Bors.cons (Bor.pure rfl) Bors.nil))) rfl rfl (i_Matrix_at_ok a2 a3 a4 a0 e1 r2 hf2)) <|
  (TR.l (r := f32 r2) rfl rfl (LOp.assign rfl rfl) <|
  TR.nil)))))))) rfl (by kernel_rfl) rfl fills_nil rfl ?_
 iterate 8 refine ROps.dropS ?_
 refine ROps.drop0 ?_
 refine zN ?_
 refine RunC.ret ?_
 have hq := Option.some.inj h
 subst q0
 exact bodyQ.pure (.inr rfl) rfl (Res.one rfl (RV.tmp rfl))
noncomputable def i_made_2Fi_TurnValues_2_b2 (a1 : Int) (a2 : Int) (a3 : Int) (a4 : List F) (a5 : List Int) (r1 : Int) (r2 : Int) (r3 : List F) (v6 : Int) (L7 : List F) (v9 : Int) : Option (LR ((List F) × Int) ((List F)) (Int × Int × (List F))) :=
 bsel (decide (v9 < a1)) (
  obind (i_TurnValues_2 v6 v9 a2 a3 a4 a5) fun (r11 : F) =>
  obind (i_Matrix_set_02o r1 r2 v6 v9 r11 L7) fun (r12 : List F) =>
  need (decide (r12.length = r3.length)) <|
  olet (IntKind.i64.wrap (v9 + 1)) fun (x13 : Int) =>
  some (LR.next (r12, x13))) (
  some (LR.out L7))
noncomputable def i_made_2Fi_TurnValues_2_s2 (a1 : Int) (a2 : Int) (a3 : Int) (a4 : List F) (a5 : List Int) (r1 : Int) (r2 : Int) (r3 : List F) (v6 : Int) : ((List F) × Int) → Option (LR ((List F) × Int) ((List F)) (Int × Int × (List F))) := fun s => i_made_2Fi_TurnValues_2_b2 a1 a2 a3 a4 a5 r1 r2 r3 v6 s.1 s.2
noncomputable def i_made_2Fi_TurnValues_2_k2 (v6 : Int) (L14 : List F) : Option (LR ((List F) × Int) ((List F)) (Int × Int × (List F))) :=
 olet (IntKind.i64.wrap (v6 + 1)) fun (x16 : Int) =>
 some (LR.next (L14, x16))
noncomputable def i_made_2Fi_TurnValues_2_b3 (a0 : Int) (a1 : Int) (a2 : Int) (a3 : Int) (a4 : List F) (a5 : List Int) (r1 : Int) (r2 : Int) (r3 : List F) (L4 : List F) (v6 : Int) : Option (LR ((List F) × Int) ((List F)) (Int × Int × (List F))) :=
 bsel (decide (v6 < a0)) (
  obind (loopM (i_made_2Fi_TurnValues_2_s2 a1 a2 a3 a4 a5 r1 r2 r3 v6) (L4, 0)) fun z => osum z (fun e => i_made_2Fi_TurnValues_2_k2 v6 e) (fun r => some (LR.ret r))) (
  some (LR.out L4))
noncomputable def i_made_2Fi_TurnValues_2_s3 (a0 : Int) (a1 : Int) (a2 : Int) (a3 : Int) (a4 : List F) (a5 : List Int) (r1 : Int) (r2 : Int) (r3 : List F) : ((List F) × Int) → Option (LR ((List F) × Int) ((List F)) (Int × Int × (List F))) := fun s => i_made_2Fi_TurnValues_2_b3 a0 a1 a2 a3 a4 a5 r1 r2 r3 s.1 s.2
noncomputable def i_made_2Fi_TurnValues_2_k3 (r1 : Int) (r2 : Int) (L17 : List F) : Option (Int × Int × (List F)) :=
 some (r1, r2, L17)
noncomputable def i_made_2Fi_TurnValues_2 (a0 : Int) (a1 : Int) (a2 : Int) (a3 : Int) (a4 : List F) (a5 : List Int) : Option (Int × Int × (List F)) :=
 obind3 (i_newMatrix a0 a1) fun (r1 : Int) (r2 : Int) (r3 : List F) =>
 obind (loopM (i_made_2Fi_TurnValues_2_s3 a0 a1 a2 a3 a4 a5 r1 r2 r3) (r3, 0)) fun z => osum z (fun e => i_made_2Fi_TurnValues_2_k3 r1 r2 e) (fun r => some r)
theorem i_made_2Fi_TurnValues_2_ok (a0 : Int) (a1 : Int) (a2 : Int) (a3 : Int) (a4 : List F) (a5 : List Int) (q0 : Int) (q1 : Int) (q2 : List F) (h : i_made_2Fi_TurnValues_2 a0 a1 a2 a3 a4 a5 = some (q0, q1, q2)) : Ev Try.prog 74 [i64 a0, i64 a1, fn (.func 75) [] [ptr [i64 a2, i64 a3, sl a4.length (a4.map f32)], ptr [sl a5.length (a5.map i64)]]] [] (agg [i64 q0, i64 q1, oref 0 0 0 q2.length]) [⟨0, some (q2.map f32)⟩] := by
 refine Ev.start Try.func74 rfl rfl 3 (τ := [(0, i64 a0), (1, i64 a1), (2, fn (.func 75) [] [ptr [i64 a2, i64 a3, sl a4.length (a4.map f32)], ptr [sl a5.length (a5.map i64)]])]) rfl (Γ' := [⟨0, none⟩, ⟨0, none⟩, ⟨0, none⟩]) rfl (n := 65) rfl (g := 0) rfl (fun _ => rfl) ?_
 unfold i_made_2Fi_TurnValues_2 at h
 refine zQ ?_
 refine ROps.d (r := optr 0 1 0) (fs := [(0, [i64 0, i64 0, nilsl])]) (Γ' := [⟨1, some [i64 0, i64 0, nilsl]⟩, ⟨0, none⟩, ⟨0, none⟩]) rfl rfl rfl (TOp.alloc_o (g := ⟨0, none⟩) 0 rfl zer45 zok45 rfl) rfl ?_
 refine zN ?_
 refine RunC.seq ?_
 obtain ⟨r1, r2, r3, hf1, h⟩ := obind3_some h
 refine RunC.regionW ?_
 refine zM (r := i64 a0) rfl rfl rfl rfl rfl ?_
 refine zM (r := i64 a1) rfl rfl rfl rfl rfl ?_
 refine ROps.d (r := agg [i64 r1, i64 r2, oref 1 1 0 r3.length]) (fs := [(1, (r3.map f32))]) (Γ' := [⟨1, some [i64 0, i64 0, nilsl]⟩, ⟨1, some (r3.map f32)⟩, ⟨0, none⟩]) rfl rfl rfl (TOp.callBN (ls := [(r3.map f32)]) [1] (CallAs.func ent118 rfl rfl) (Bors.cons (Bor.pure rfl) (Bors.cons (Bor.pure rfl) Bors.nil)) rfl (i_newMatrix_ok a0 a1 r1 r2 r3 hf1) (and_all (lts0_map (f := f32) (fun _ => rfl) _) rfl) (and_all (noss_map (f := f32) (fun _ => rfl) _) rfl) rfl (by decide) (ns_of ⟨⟨_, rfl⟩, trivial⟩)) rfl ?_
 refine ROps.d (r := optr 2 1 0) (fs := [(2, [i64 0, i64 0, nilsl])]) (Γ' := [⟨1, some [i64 0, i64 0, nilsl]⟩, ⟨1, some (r3.map f32)⟩, ⟨1, some [i64 0, i64 0, nilsl]⟩]) rfl rfl rfl (TOp.alloc_o (g := ⟨0, none⟩) 2 rfl zer45 zok45 rfl) rfl ?_
 refine ROps.store_le (r := agg [i64 r1, i64 r2, oref 1 1 0 r3.length]) (l' := [i64 r1, i64 r2, oref 1 1 0 r3.length]) (Γ' := [⟨1, some [i64 0, i64 0, nilsl]⟩, ⟨1, some (r3.map f32)⟩, ⟨1, some [i64 r1, i64 r2, oref 1 1 0 r3.length]⟩]) rfl siz45 rfl rfl rfl aR rfl rfl rfl rfl (Nat.le_of_ble_eq_true rfl) rfl rfl ?_
 refine zN ?_
 refine RunC.seq ?_
 refine zQ ?_
 refine zM (r := i64 a0) rfl rfl rfl rfl rfl ?_
 refine zM (r := i64 0) rfl rfl rfl rfl rfl ?_
 refine zN ?_
 obtain ⟨z4, hz_4, h⟩ := obind_some h
 refine RunC.cutN (fun τ Γ => ∃ (L17 : List F), L17.length = r3.length ∧ WeakLe τ [(6, optr 0 1 0), (7, optr 2 1 0)] ∧ DeadLe Γ [⟨1, some [i64 0, i64 0, nilsl]⟩, ⟨1, some (L17.map f32)⟩, ⟨1, some [i64 r1, i64 r2, oref 1 1 0 r3.length]⟩] ∧ z4 = .inl L17) ?_ ?_
 ·refine RunC.block (RunC.loop (RunL.loopM (x := z4) (i_made_2Fi_TurnValues_2_s3 a0 a1 a2 a3 a4 a5 r1 r2 r3) (fun (s : (List F) × Int) τ Γ => s.1.length = r3.length ∧ WeakLe τ [(1, i64 a1), (2, fn (.func 75) [] [ptr [i64 a2, i64 a3, sl a4.length (a4.map f32)], ptr [sl a5.length (a5.map i64)]]), (6, optr 0 1 0), (7, optr 2 1 0), (13, i64 a0), (14, i64 s.2)] ∧ DeadLe Γ [⟨1, some [i64 0, i64 0, nilsl]⟩, ⟨1, some (s.1.map f32)⟩, ⟨1, some [i64 r1, i64 r2, oref 1 1 0 r3.length]⟩]) ?_ _ _ _ hz_4 ⟨rfl, ⟨aR, aR, aR, aR, aR, aR, trivial⟩, ⟨⟨rfl, .inr rfl⟩, ⟨rfl, .inr rfl⟩, ⟨rfl, .inr rfl⟩, trivial⟩⟩))
  rintro ⟨L4, v6⟩ τ4 Γ4 y4_ ⟨hl5, hw4, hd4⟩ h4_ ho4 hr4
  refine RunC.wl (τ' := [(1, i64 a1), (2, fn (.func 75) [] [ptr [i64 a2, i64 a3, sl a4.length (a4.map f32)], ptr [sl a5.length (a5.map i64)]]), (6, optr 0 1 0), (7, optr 2 1 0), (13, i64 a0), (14, i64 v6)]) (Γ' := [⟨1, some [i64 0, i64 0, nilsl]⟩, ⟨1, some (L4.map f32)⟩, ⟨1, some [i64 r1, i64 r2, oref 1 1 0 r3.length]⟩]) hw4 hd4 ?_
  replace hl5 : L4.length = r3.length := hl5
  replace h4_ : i_made_2Fi_TurnValues_2_b3 a0 a1 a2 a3 a4 a5 r1 r2 r3 L4 v6 = some y4_ := h4_
  unfold i_made_2Fi_TurnValues_2_b3 at h4_
  refine RunC.seq ?_
  rcases bsel_some h4_ with ⟨hc2, h4_⟩ | ⟨hc2, h4_⟩
  ·refine RunC.regionW ?_
   refine zL (r := b true) rfl rfl rfl (LOp.eqb (LOp.lss rfl rfl rfl) hc2) ?_
   refine zN ?_
   refine RunC.seq ?_
   refine RunC.cond_true rfl rfl ?_
   refine RunC.skip ?_
   refine RunC.seq ?_
   refine RunC.block ?_
   refine zQ ?_
   refine zM (r := i64 v6) rfl rfl rfl rfl rfl ?_
   refine zA (r := i64 v6) rfl rfl rfl rfl rfl ?_
   refine zN ?_
   refine zQ ?_
   refine zM (r := i64 a1) rfl rfl rfl rfl rfl ?_
   refine zM (r := i64 0) rfl rfl rfl rfl rfl ?_
   refine zN ?_
   obtain ⟨z5, hz_5, h4_⟩ := obind_some h4_
   refine RunC.cutN (fun τ Γ => ∃ (L14 : List F), L14.length = r3.length ∧ WeakLe τ [(1, i64 a1), (2, fn (.func 75) [] [ptr [i64 a2, i64 a3, sl a4.length (a4.map f32)], ptr [sl a5.length (a5.map i64)]]), (6, optr 0 1 0), (7, optr 2 1 0), (13, i64 a0), (14, i64 v6)] ∧ DeadLe Γ [⟨1, some [i64 0, i64 0, nilsl]⟩, ⟨1, some (L14.map f32)⟩, ⟨1, some [i64 r1, i64 r2, oref 1 1 0 r3.length]⟩] ∧ z5 = .inl L14) ?_ ?_
   ·refine RunC.block (RunC.loop (RunL.loopM (x := z5) (i_made_2Fi_TurnValues_2_s2 a1 a2 a3 a4 a5 r1 r2 r3 v6) (fun (s : (List F) × Int) τ Γ => s.1.length = r3.length ∧ WeakLe τ [(1, i64 a1), (2, fn (.func 75) [] [ptr [i64 a2, i64 a3, sl a4.length (a4.map f32)], ptr [sl a5.length (a5.map i64)]]), (6, optr 0 1 0), (7, optr 2 1 0), (8, i64 v6), (13, i64 a0), (14, i64 v6), (17, i64 a1), (18, i64 s.2)] ∧ DeadLe Γ [⟨1, some [i64 0, i64 0, nilsl]⟩, ⟨1, some (s.1.map f32)⟩, ⟨1, some [i64 r1, i64 r2, oref 1 1 0 r3.length]⟩]) ?_ _ _ _ hz_5 ⟨hl5, ⟨aR, aR, aR, aR, aR, aR, aR, aR, aR, trivial⟩, ⟨⟨rfl, .inr rfl⟩, ⟨rfl, .inr rfl⟩, ⟨rfl, .inr rfl⟩, trivial⟩⟩))
    rintro ⟨L7, v9⟩ τ5 Γ5 y5_ ⟨hl8, hw5, hd5⟩ h5_ ho5 hr5
    refine RunC.wl (τ' := [(1, i64 a1), (2, fn (.func 75) [] [ptr [i64 a2, i64 a3, sl a4.length (a4.map f32)], ptr [sl a5.length (a5.map i64)]]), (6, optr 0 1 0), (7, optr 2 1 0), (8, i64 v6), (13, i64 a0), (14, i64 v6), (17, i64 a1), (18, i64 v9)]) (Γ' := [⟨1, some [i64 0, i64 0, nilsl]⟩, ⟨1, some (L7.map f32)⟩, ⟨1, some [i64 r1, i64 r2, oref 1 1 0 r3.length]⟩]) hw5 hd5 ?_
    replace hl8 : L7.length = r3.length := hl8
    replace h5_ : i_made_2Fi_TurnValues_2_b2 a1 a2 a3 a4 a5 r1 r2 r3 v6 L7 v9 = some y5_ := h5_
    unfold i_made_2Fi_TurnValues_2_b2 at h5_
    refine RunC.seq ?_
    rcases bsel_some h5_ with ⟨hc3, h5_⟩ | ⟨hc3, h5_⟩
    ·refine RunC.regionW ?_
     refine zL (r := b true) rfl rfl rfl (LOp.eqb (LOp.lss rfl rfl rfl) hc3) ?_
     refine zN ?_
     refine RunC.seq ?_
     refine RunC.cond_true rfl rfl ?_
     refine RunC.skip ?_
     refine RunC.seq ?_
     refine RunC.block ?_
     refine zQ ?_
     refine zM (r := i64 v9) rfl rfl rfl rfl rfl ?_
     refine zA (r := i64 v9) rfl rfl rfl rfl rfl ?_
     refine zN ?_
     obtain ⟨r11, hf5, h5_⟩ := obind_some h5_
     obtain ⟨r12, hf6, h5_⟩ := obind_some h5_
     obtain ⟨hn7, h5_⟩ := need_some h5_
     refine RunC.region_draw (Γ' := [⟨1, some [i64 0, i64 0, nilsl]⟩, ⟨1, some (L7.map f32)⟩, ⟨1, some [i64 r1, i64 r2, oref 1 1 0 r3.length]⟩]) 7 mixed 
      (TR.d (r := agg [i64 r1, i64 r2, oref 1 1 0 r3.length]) (fs := []) rfl rfl (TOp.loadAgg_o rfl agg45 siz45 rfl rfl rfl rfl) <|
      (TR.l (r := i64 v6) rfl rfl (LOp.move rfl rfl) <|
      (TR.l (r := i64 v9) rfl rfl (LOp.move rfl rfl) <|
      (TR.l (r := fn (.func 75) [] [ptr [i64 a2, i64 a3, sl a4.length (a4.map f32)], ptr [sl a5.length (a5.map i64)]]) rfl rfl (LOp.move rfl rfl) <|
      (TR.l (r := i64 v6) rfl rfl (LOp.move rfl rfl) <|
      (TR.l (r := i64 v9) rfl rfl (LOp.move rfl rfl) <|
      (TR.d (r := f32 r11) (fs := []) rfl rfl (TOp.callB (CallAs.fn ent75 rfl rfl rfl rfl) (Bors.cons (Bor.pure rfl) (Bors.cons (Bor.pure rfl) (Bors.cons (Bor.ptr (Bors.cons (Bor.pure rfl) (Bors.cons (Bor.pure rfl) (Bors.cons (Bor.sl (fun _ => rfl)) Bors.nil)))) (Bors.cons (Bor.ptr (Bors.cons (Bor.sl (fun _ => rfl)) Bors.nil)) Bors.nil)))) rfl rfl (i_TurnValues_2_ok v6 v9 a2 a3 a4 a5 r11 hf5)) <|
      TR.nil))))))) rfl (by kernel_rfl) rfl fills_nil rfl ?_
     iterate 7 refine ROps.dropS ?_
     refine ROps.drop0 ?_
     refine ROps.callO (A := [agg [i64 r1, i64 r2, oref 1 1 0 r3.length], i64 v6, i64 v9, f32 r11]) (args := [agg [i64 r1, i64 r2, oref 0 0 0 L7.length], i64 v6, i64 v9, f32 r11]) (Γc := [⟨0, some (L7.map f32)⟩]) (Γc' := [⟨0, some (r12.map f32)⟩]) (r' := tup []) (Γ' := [⟨1, some [i64 0, i64 0, nilsl]⟩, ⟨1, some (r12.map f32)⟩, ⟨1, some [i64 r1, i64 r2, oref 1 1 0 r3.length]⟩]) [(1, 1)] [] rfl (CallAs.func ent119 rfl rfl) rfl rfl (SelOk.of (show List.Nodup [1] from by decide) (SelL.arr0 (f := f32) (fun _ => rfl) rfl trivial)) (live_of ⟨⟨_, _, rfl⟩, trivial⟩) (by simp [ren, rens, sigma, rens_f32, rens_f64, rens_i64, rens_ik, rens_str, rens_cp, hl8]) rfl (i_Matrix_set_02o_ok r1 r2 v6 v9 r11 L7 r12 hf6) rfl (news_of trivial) (show List.Nodup [1] from by decide) (by simp [ren, rens, sigma, of_decide_eq_true hn7]) (by simp [backOb, sigma, ren, rens, rens_f32, rens_f64, rens_i64, rens_ik, rens_str, rens_cp]) ?_
     refine zN ?_
     obtain ⟨x13, hx8, h5_⟩ := olet_some h5_
     refine RunC.regionW ?_
     refine zL (r := i64 x13) rfl rfl rfl (LOp.eqr (LOp.add rfl rfl rfl) (congrArg (ik .i64) hx8)) ?_
     refine zM (r := i64 x13) rfl rfl rfl rfl rfl ?_
     refine zN ?_
     cases Option.some.inj h5_
     exact ⟨_, rfl, (of_decide_eq_true hn7), ⟨aR, aR, aR, aR, aR, aR, aR, aR, aR, trivial⟩, ⟨⟨rfl, .inr rfl⟩, ⟨rfl, .inr rfl⟩, ⟨rfl, .inr rfl⟩, trivial⟩⟩
    ·refine RunC.regionW ?_
     refine zL (r := b false) rfl rfl rfl (LOp.eqb (LOp.lss rfl rfl rfl) hc3) ?_
     refine zN ?_
     refine RunC.seq ?_
     refine RunC.cond_false rfl rfl ?_
     refine RunC.exit ?_
     cases Option.some.inj h5_
     have hx := ho5 _ rfl
     exact ⟨L7, hl8, ⟨aR, aR, aR, aR, aR, aR, trivial⟩, ⟨⟨rfl, .inr rfl⟩, ⟨rfl, .inr rfl⟩, ⟨rfl, .inr rfl⟩, trivial⟩, hx⟩
   ·rintro τ6 Γ6 ⟨L14, hl15, hw6, hd6, rfl⟩
    refine RunC.wl hw6 hd6 ?_
    replace h4_ : i_made_2Fi_TurnValues_2_k2 v6 L14 = some y4_ := h4_
    unfold i_made_2Fi_TurnValues_2_k2 at h4_
    obtain ⟨x16, hx9, h4_⟩ := olet_some h4_
    refine RunC.regionW ?_
    refine zL (r := i64 x16) rfl rfl rfl (LOp.eqr (LOp.add rfl rfl rfl) (congrArg (ik .i64) hx9)) ?_
    refine zM (r := i64 x16) rfl rfl rfl rfl rfl ?_
    refine zN ?_
    cases Option.some.inj h4_
    exact ⟨_, rfl, hl15, ⟨aR, aR, aR, aR, aR, aR, trivial⟩, ⟨⟨rfl, .inr rfl⟩, ⟨rfl, .inr rfl⟩, ⟨rfl, .inr rfl⟩, trivial⟩⟩
  ·refine RunC.regionW ?_
   refine zL (r := b false) rfl rfl rfl (LOp.eqb (LOp.lss rfl rfl rfl) hc2) ?_
   refine zN ?_
   refine RunC.seq ?_
   refine RunC.cond_false rfl rfl ?_
   refine RunC.exit ?_
   cases Option.some.inj h4_
   have hx := ho4 _ rfl
   exact ⟨L4, hl5, ⟨aR, aR, trivial⟩, ⟨⟨rfl, .inr rfl⟩, ⟨rfl, .inr rfl⟩, ⟨rfl, .inr rfl⟩, trivial⟩, hx⟩
 ·rintro τ7 Γ7 ⟨L17, hl18, hw7, hd7, rfl⟩
  refine RunC.wl hw7 hd7 ?_
  replace h : i_made_2Fi_TurnValues_2_k3 r1 r2 L17 = some (q0, q1, q2) := h
  unfold i_made_2Fi_TurnValues_2_k3 at h
  refine zQ ?_
  refine ROps.d (r := agg [i64 r1, i64 r2, oref 1 1 0 r3.length]) (fs := []) (Γ' := [⟨1, some [i64 0, i64 0, nilsl]⟩, ⟨1, some (L17.map f32)⟩, ⟨1, some [i64 r1, i64 r2, oref 1 1 0 r3.length]⟩]) rfl rfl rfl (TOp.loadAgg_o rfl agg45 siz45 rfl rfl rfl rfl) rfl ?_
  refine ROps.store_le (r := agg [i64 r1, i64 r2, oref 1 1 0 r3.length]) (l' := [i64 r1, i64 r2, oref 1 1 0 r3.length]) (Γ' := [⟨1, some [i64 r1, i64 r2, oref 1 1 0 r3.length]⟩, ⟨1, some (L17.map f32)⟩, ⟨1, some [i64 r1, i64 r2, oref 1 1 0 r3.length]⟩]) rfl siz45 rfl rfl rfl aR rfl rfl rfl rfl (Nat.le_of_ble_eq_true rfl) rfl rfl ?_
  refine zN ?_
  refine RunC.ret ?_
  have hq := Option.some.inj h
  obtain ⟨hq0, hq⟩ := Prod.mk.inj hq
  obtain ⟨hq1, hq⟩ := Prod.mk.inj hq
  subst q0
  subst q1
  subst q2
  exact bodyQ.mk (r' := agg [i64 r1, i64 r2, oref 1 1 0 L17.length]) [(1, 1)] (.inr rfl) rfl (show List.Nodup [1] from by decide) rfl rfl (Res.eq (Res.one rfl (RV.cell agg45 siz45 rfl rfl rfl rfl)) (by rw [(show L17.length = r3.length from hl18)] <;> rfl)) (SelL.arr0 (f := f32) (fun _ => rfl) rfl trivial)
noncomputable def i_TurnValues_b1 (r11 : List Int) (r12 : List Int) (r13 : List F) (L16 : List F) (v17 : Int) : Option (LR ((List F) × Int) ((List F)) (Int × Int × Bool × (List F) × (List F))) :=
 bsel (decide (v17 < ((r11.length : Nat) : Int))) (
  obind (at? r12 v17) fun (e18 : Int) =>
  obind (at? r13 e18) fun (e19 : F) =>
  need (apok 4 L16.length 1) <|
  olet (IntKind.i64.wrap (v17 + 1)) fun (x20 : Int) =>
  some (LR.next ((L16 ++ ([e19] : List F)), x20))) (
  some (LR.out L16))
noncomputable def i_TurnValues_s1 (r11 : List Int) (r12 : List Int) (r13 : List F) : ((List F) × Int) → Option (LR ((List F) × Int) ((List F)) (Int × Int × Bool × (List F) × (List F))) := fun s => i_TurnValues_b1 r11 r12 r13 s.1 s.2
noncomputable def i_TurnValues_k1 (a0 : Int) (r6 : Int) (r7 : Int) (r10 : List F) (r12 : List Int) (L24 : List F) : Option (Int × Int × Bool × (List F) × (List F)) :=
 obind3 (i_made_2Fi_TurnValues_2 a0 a0 r6 r7 r10 r12) fun (r25 : Int) (r26 : Int) (r27 : List F) =>
 some (r25, r26, true, L24, r27)
noncomputable def i_TurnValues (a0 : Int) (a1 : Int) (a2 : List F) (a3 : Int) : Option (Int × Int × Bool × (List F) × (List F)) :=
 obind (i_IsSymmetric a0 a1 a2) fun (r1 : Bool) =>
 bsel r1 (
  obind (i_isRounds a3) fun (r2 : Bool) =>
  bsel r2 (
   obind3 (i_Matrix_clone a0 a1 a2) fun (r3 : Int) (r4 : Int) (r5 : List F) =>
   obind5 (i_turnValues r3 r4 r5 a3) fun (r6 : Int) (r7 : Int) (r8 : Bool) (r9 : List F) (r10 : List F) =>
   bsel r8 (
    obind (i_ascending a0) fun (r11 : List Int) =>
    obind2 (x_slices_SortStableFunc_int64_int64_0o_1Fi_TurnValues_1_1c0p1_C10o2 r11 r9) fun (r12 : List Int) (r13 : List F) =>
    need (decide (r12.length = r11.length)) <|
    need (decide (r13.length = r9.length)) <|
    obind (loopM (i_TurnValues_s1 r11 r12 r13) (([] : List F), 0)) fun z => osum z (fun e => i_TurnValues_k1 a0 r6 r7 r10 r12 e) (fun r => some r)) (
    some (0, 0, false, ([] : List F), ([] : List F)))) (
   some (0, 0, false, ([] : List F), ([] : List F)))) (
  some (0, 0, false, ([] : List F), ([] : List F)))
theorem i_TurnValues_ok (a0 : Int) (a1 : Int) (a2 : List F) (a3 : Int) (q0 : Int) (q1 : Int) (q2 : Bool) (q3 : List F) (q4 : List F) (h : i_TurnValues a0 a1 a2 a3 = some (q0, q1, q2, q3, q4)) : Ev Try.prog 26 [agg [i64 a0, i64 a1, sl a2.length (a2.map f32)], i64 a3] [] (tup [oref 0 0 0 q3.length, agg [i64 q0, i64 q1, oref 1 0 0 q4.length], b q2]) [⟨0, some (q3.map f32)⟩, ⟨0, some (q4.map f32)⟩] := by
 refine Ev.start Try.func26 rfl rfl 9 (τ := [(0, agg [i64 a0, i64 a1, sl a2.length (a2.map f32)]), (1, i64 a3)]) rfl (Γ' := [⟨0, none⟩, ⟨0, none⟩, ⟨0, none⟩, ⟨0, none⟩, ⟨0, none⟩, ⟨0, none⟩, ⟨0, none⟩, ⟨0, none⟩, ⟨0, none⟩]) rfl (n := 125) rfl (g := 0) rfl (fun _ => rfl) ?_
 unfold i_TurnValues at h
 refine zQ ?_
 refine ROps.d (r := ptr [i64 a0, i64 a1, sl a2.length (a2.map f32)]) (fs := []) (Γ' := [⟨0, none⟩, ⟨0, none⟩, ⟨0, none⟩, ⟨0, none⟩, ⟨0, none⟩, ⟨0, none⟩, ⟨0, none⟩, ⟨0, none⟩, ⟨0, none⟩]) rfl rfl rfl (TOp.box_s rfl rfl rfl) rfl ?_
 refine zA (r := nilsl) rfl rfl rfl rfl rfl ?_
 refine ROps.d (r := optr 0 1 0) (fs := [(0, [i64 0, i64 0, nilsl])]) (Γ' := [⟨1, some [i64 0, i64 0, nilsl]⟩, ⟨0, none⟩, ⟨0, none⟩, ⟨0, none⟩, ⟨0, none⟩, ⟨0, none⟩, ⟨0, none⟩, ⟨0, none⟩, ⟨0, none⟩]) rfl rfl rfl (TOp.alloc_o (g := ⟨0, none⟩) 0 rfl zer45 zok45 rfl) rfl ?_
 refine zA (r := b false) rfl rfl rfl rfl rfl ?_
 refine zN ?_
 refine RunC.seq ?_
 refine RunC.seq ?_
 obtain ⟨r1, hf1, h⟩ := obind_some h
 rcases bsel_some h with ⟨hc2, h⟩ | ⟨hc2, h⟩
 ·obtain ⟨r2, hf3, h⟩ := obind_some h
  rcases bsel_some h with ⟨hc4, h⟩ | ⟨hc4, h⟩
  ·refine RunC.regionW ?_
   refine zL (r := agg [i64 a0, i64 a1, sl a2.length (a2.map f32)]) rfl rfl rfl (LOp.loadAgg agg45 siz45 rfl rfl rfl rfl) ?_
   refine ROps.d (r := b true) (fs := []) (Γ' := [⟨1, some [i64 0, i64 0, nilsl]⟩, ⟨0, none⟩, ⟨0, none⟩, ⟨0, none⟩, ⟨0, none⟩, ⟨0, none⟩, ⟨0, none⟩, ⟨0, none⟩, ⟨0, none⟩]) rfl rfl rfl (TOp.eqb (TOp.callB (CallAs.func ent67 rfl rfl) (Bors.cons (Bor.agg (Bors.cons (Bor.pure rfl) (Bors.cons (Bor.pure rfl) (Bors.cons (Bor.sl (fun _ => rfl)) Bors.nil)))) Bors.nil) rfl rfl (i_IsSymmetric_ok a0 a1 a2 r1 hf1)) hc2) rfl ?_
   refine zL (r := b false) rfl rfl rfl (LOp.eqb (LOp.not rfl rfl) rfl) ?_
   refine zM (r := b false) rfl rfl rfl rfl rfl ?_
   refine zM (r := i64 a3) rfl rfl rfl rfl rfl ?_
   refine ROps.d (r := b true) (fs := []) (Γ' := [⟨1, some [i64 0, i64 0, nilsl]⟩, ⟨0, none⟩, ⟨0, none⟩, ⟨0, none⟩, ⟨0, none⟩, ⟨0, none⟩, ⟨0, none⟩, ⟨0, none⟩, ⟨0, none⟩]) rfl rfl rfl (TOp.eqb (TOp.callB (CallAs.func ent68 rfl rfl) (Bors.cons (Bor.pure rfl) Bors.nil) rfl rfl (i_isRounds_ok a3 r2 hf3)) hc4) rfl ?_
   refine zL (r := b false) rfl rfl rfl (LOp.eqb (LOp.not rfl rfl) rfl) ?_
   refine zL (r := b false) rfl rfl rfl (LOp.pick_false rfl rfl rfl) ?_
   refine zN ?_
   refine RunC.cond_false rfl rfl ?_
   refine RunC.skip ?_
   refine RunC.seq ?_
   obtain ⟨r3, r4, r5, hf5, h⟩ := obind3_some h
   obtain ⟨r6, r7, r8, r9, r10, hf6, h⟩ := obind5_some h
   rcases bsel_some h with ⟨hc7, h⟩ | ⟨hc7, h⟩
   ·refine RunC.regionW ?_
    refine zL (r := agg [i64 a0, i64 a1, sl a2.length (a2.map f32)]) rfl rfl rfl (LOp.loadAgg agg45 siz45 rfl rfl rfl rfl) ?_
    refine ROps.d (r := agg [i64 r3, i64 r4, oref 1 1 0 r5.length]) (fs := [(1, (r5.map f32))]) (Γ' := [⟨1, some [i64 0, i64 0, nilsl]⟩, ⟨1, some (r5.map f32)⟩, ⟨0, none⟩, ⟨0, none⟩, ⟨0, none⟩, ⟨0, none⟩, ⟨0, none⟩, ⟨0, none⟩, ⟨0, none⟩]) rfl rfl rfl (TOp.callBN (ls := [(r5.map f32)]) [1] (CallAs.func ent70 rfl rfl) (Bors.cons (Bor.agg (Bors.cons (Bor.pure rfl) (Bors.cons (Bor.pure rfl) (Bors.cons (Bor.sl (fun _ => rfl)) Bors.nil)))) Bors.nil) rfl (i_Matrix_clone_ok a0 a1 a2 r3 r4 r5 hf5) (and_all (lts0_map (f := f32) (fun _ => rfl) _) rfl) (and_all (noss_map (f := f32) (fun _ => rfl) _) rfl) rfl (by decide) (ns_of ⟨⟨_, rfl⟩, trivial⟩)) rfl ?_
    refine zM (r := i64 a3) rfl rfl rfl rfl rfl ?_
    refine ROps.d (r := tup [oref 2 1 0 r9.length, agg [i64 r6, i64 r7, oref 3 1 0 r10.length], b r8]) (fs := [(2, (r9.map f32)), (3, (r10.map f32))]) (Γ' := [⟨1, some [i64 0, i64 0, nilsl]⟩, ⟨1, some (r5.map f32)⟩, ⟨1, some (r9.map f32)⟩, ⟨1, some (r10.map f32)⟩, ⟨0, none⟩, ⟨0, none⟩, ⟨0, none⟩, ⟨0, none⟩, ⟨0, none⟩]) rfl rfl rfl (TOp.callBN (ls := [(r9.map f32), (r10.map f32)]) [2, 3] (CallAs.func ent69 rfl rfl) (Bors.cons (Bor.agg (Bors.cons (Bor.pure rfl) (Bors.cons (Bor.pure rfl) (Bors.cons (Bor.own (f := f32) (fun _ => rfl) rfl rfl) Bors.nil)))) (Bors.cons (Bor.pure rfl) Bors.nil)) rfl (i_turnValues_ok r3 r4 r5 a3 r6 r7 r8 r9 r10 hf6) (and_all (lts0_map (f := f32) (fun _ => rfl) _) (and_all (lts0_map (f := f32) (fun _ => rfl) _) rfl)) (and_all (noss_map (f := f32) (fun _ => rfl) _) (and_all (noss_map (f := f32) (fun _ => rfl) _) rfl)) rfl (by decide) (ns_of ⟨⟨_, rfl⟩, ⟨_, rfl⟩, trivial⟩)) rfl ?_
    refine zM (r := tup [oref 2 1 0 r9.length, agg [i64 r6, i64 r7, oref 3 1 0 r10.length], b r8]) rfl rfl rfl rfl rfl ?_
    refine zL (r := oref 2 1 0 r9.length) rfl rfl rfl (LOp.extract rfl rfl rfl) ?_
    refine zL (r := agg [i64 r6, i64 r7, oref 3 1 0 r10.length]) rfl rfl rfl (LOp.extract rfl rfl rfl) ?_
    refine zL (r := b true) rfl rfl rfl (LOp.eqb (LOp.extract rfl rfl rfl) hc7) ?_
    refine ROps.d (r := optr 4 1 0) (fs := [(4, [nilsl])]) (Γ' := [⟨1, some [i64 0, i64 0, nilsl]⟩, ⟨1, some (r5.map f32)⟩, ⟨1, some (r9.map f32)⟩, ⟨1, some (r10.map f32)⟩, ⟨1, some [nilsl]⟩, ⟨0, none⟩, ⟨0, none⟩, ⟨0, none⟩, ⟨0, none⟩]) rfl rfl rfl (TOp.alloc_o (g := ⟨0, none⟩) 4 rfl zer23 zok23 rfl) rfl ?_
    refine ROps.d (r := optr 5 1 0) (fs := [(5, [i64 0, i64 0, nilsl])]) (Γ' := [⟨1, some [i64 0, i64 0, nilsl]⟩, ⟨1, some (r5.map f32)⟩, ⟨1, some (r9.map f32)⟩, ⟨1, some (r10.map f32)⟩, ⟨1, some [nilsl]⟩, ⟨1, some [i64 0, i64 0, nilsl]⟩, ⟨0, none⟩, ⟨0, none⟩, ⟨0, none⟩]) rfl rfl rfl (TOp.alloc_o (g := ⟨0, none⟩) 5 rfl zer45 zok45 rfl) rfl ?_
    refine ROps.store_le (r := oref 2 1 0 r9.length) (l' := [oref 2 1 0 r9.length]) (Γ' := [⟨1, some [i64 0, i64 0, nilsl]⟩, ⟨1, some (r5.map f32)⟩, ⟨1, some (r9.map f32)⟩, ⟨1, some (r10.map f32)⟩, ⟨1, some [oref 2 1 0 r9.length]⟩, ⟨1, some [i64 0, i64 0, nilsl]⟩, ⟨0, none⟩, ⟨0, none⟩, ⟨0, none⟩]) rfl siz23 rfl rfl rfl aR rfl rfl rfl rfl (Nat.le_of_ble_eq_true rfl) rfl rfl ?_
    refine ROps.store_le (r := agg [i64 r6, i64 r7, oref 3 1 0 r10.length]) (l' := [i64 r6, i64 r7, oref 3 1 0 r10.length]) (Γ' := [⟨1, some [i64 0, i64 0, nilsl]⟩, ⟨1, some (r5.map f32)⟩, ⟨1, some (r9.map f32)⟩, ⟨1, some (r10.map f32)⟩, ⟨1, some [oref 2 1 0 r9.length]⟩, ⟨1, some [i64 r6, i64 r7, oref 3 1 0 r10.length]⟩, ⟨0, none⟩, ⟨0, none⟩, ⟨0, none⟩]) rfl siz45 rfl rfl rfl aR rfl rfl rfl rfl (Nat.le_of_ble_eq_true rfl) rfl rfl ?_
    refine zA (r := b true) rfl rfl rfl rfl rfl ?_
    refine zN ?_
    refine RunC.wl (τ' := [(2, ptr [i64 a0, i64 a1, sl a2.length (a2.map f32)]), (5, optr 0 1 0), (7, optr 4 1 0), (8, optr 5 1 0), (9, b true)]) (Γ' := [⟨1, some [i64 0, i64 0, nilsl]⟩, ⟨1, none⟩, ⟨1, some (r9.map f32)⟩, ⟨1, some (r10.map f32)⟩, ⟨1, some [oref 2 1 0 r9.length]⟩, ⟨1, some [i64 r6, i64 r7, oref 3 1 0 r10.length]⟩, ⟨0, none⟩, ⟨0, none⟩, ⟨0, none⟩]) ⟨aR, aR, aR, aR, aR, trivial⟩ ⟨⟨rfl, .inr rfl⟩, ⟨rfl, .inl rfl⟩, ⟨rfl, .inr rfl⟩, ⟨rfl, .inr rfl⟩, ⟨rfl, .inr rfl⟩, ⟨rfl, .inr rfl⟩, ⟨rfl, .inr rfl⟩, ⟨rfl, .inr rfl⟩, ⟨rfl, .inr rfl⟩, trivial⟩ ?_
    refine RunC.seq ?_
    refine zQ ?_
    refine zM (r := b true) rfl rfl rfl rfl rfl ?_
    refine zL (r := b false) rfl rfl rfl (LOp.eqb (LOp.not rfl rfl) rfl) ?_
    refine zN ?_
    refine RunC.cond_false rfl rfl ?_
    refine RunC.skip ?_
    refine RunC.seq ?_
    obtain ⟨r11, hf8, h⟩ := obind_some h
    refine RunC.regionW ?_
    refine zL (r := ptr [i64 a0, i64 a1, sl a2.length (a2.map f32)]) rfl rfl rfl (LOp.fap und45 rfl siz2 rfl rfl rfl) ?_
    refine zL (r := i64 a0) rfl rfl rfl (LOp.load1 agg2 rfl rfl) ?_
    refine ROps.d (r := oref 1 2 0 r11.length) (fs := [(1, (r11.map i64))]) (Γ' := [⟨1, some [i64 0, i64 0, nilsl]⟩, ⟨2, some (r11.map i64)⟩, ⟨1, some (r9.map f32)⟩, ⟨1, some (r10.map f32)⟩, ⟨1, some [oref 2 1 0 r9.length]⟩, ⟨1, some [i64 r6, i64 r7, oref 3 1 0 r10.length]⟩, ⟨0, none⟩, ⟨0, none⟩, ⟨0, none⟩]) rfl rfl rfl (TOp.callBN (ls := [(r11.map i64)]) [1] (CallAs.func ent71 rfl rfl) (Bors.cons (Bor.pure rfl) Bors.nil) rfl (i_ascending_ok a0 r11 hf8) (and_all (lts0_map (f := i64) (fun _ => rfl) _) rfl) (and_all (noss_map (f := i64) (fun _ => rfl) _) rfl) rfl (by decide) (ns_of ⟨⟨_, rfl⟩, trivial⟩)) rfl ?_
    refine ROps.d (r := optr 6 1 0) (fs := [(6, [nilsl])]) (Γ' := [⟨1, some [i64 0, i64 0, nilsl]⟩, ⟨2, some (r11.map i64)⟩, ⟨1, some (r9.map f32)⟩, ⟨1, some (r10.map f32)⟩, ⟨1, some [oref 2 1 0 r9.length]⟩, ⟨1, some [i64 r6, i64 r7, oref 3 1 0 r10.length]⟩, ⟨1, some [nilsl]⟩, ⟨0, none⟩, ⟨0, none⟩]) rfl rfl rfl (TOp.alloc_o (g := ⟨0, none⟩) 6 rfl zer22 zok22 rfl) rfl ?_
    refine ROps.store_le (r := oref 1 2 0 r11.length) (l' := [oref 1 2 0 r11.length]) (Γ' := [⟨1, some [i64 0, i64 0, nilsl]⟩, ⟨2, some (r11.map i64)⟩, ⟨1, some (r9.map f32)⟩, ⟨1, some (r10.map f32)⟩, ⟨1, some [oref 2 1 0 r9.length]⟩, ⟨1, some [i64 r6, i64 r7, oref 3 1 0 r10.length]⟩, ⟨1, some [oref 1 2 0 r11.length]⟩, ⟨0, none⟩, ⟨0, none⟩]) rfl siz22 rfl rfl rfl aR rfl rfl rfl rfl (Nat.le_of_ble_eq_true rfl) rfl rfl ?_
    refine zN ?_
    refine RunC.seq ?_
    obtain ⟨r12, r13, hf9, h⟩ := obind2_some h
    obtain ⟨hn10, h⟩ := need_some h
    obtain ⟨hn11, h⟩ := need_some h
    refine RunC.regionW ?_
    refine ROps.d (r := oref 1 2 0 r11.length) (fs := []) (Γ' := [⟨1, some [i64 0, i64 0, nilsl]⟩, ⟨2, some (r11.map i64)⟩, ⟨1, some (r9.map f32)⟩, ⟨1, some (r10.map f32)⟩, ⟨1, some [oref 2 1 0 r9.length]⟩, ⟨1, some [i64 r6, i64 r7, oref 3 1 0 r10.length]⟩, ⟨1, some [oref 1 2 0 r11.length]⟩, ⟨0, none⟩, ⟨0, none⟩]) rfl rfl rfl (TOp.load1_o rfl rfl agg22 rfl rfl) rfl ?_
    refine zL (r := fn (.func 73) [] [optr 4 1 0]) rfl rfl rfl (LOp.makeFunc rfl rfl) ?_
    refine ROps.callO (A := [oref 1 2 0 r11.length, fn (.func 73) [] [optr 4 1 0]]) (args := [oref 0 0 0 r11.length, fn (.func 73) [] [optr 1 0 0]]) (Γc := [⟨0, some (r11.map i64)⟩, ⟨0, some [oref 2 0 0 r9.length]⟩, ⟨0, some (r9.map f32)⟩]) (Γc' := [⟨0, some (r12.map i64)⟩, ⟨0, some [oref 2 0 0 r9.length]⟩, ⟨0, some (r13.map f32)⟩]) (r' := tup []) (Γ' := [⟨1, some [i64 0, i64 0, nilsl]⟩, ⟨2, some (r12.map i64)⟩, ⟨1, some (r13.map f32)⟩, ⟨1, some (r10.map f32)⟩, ⟨1, some [oref 2 1 0 r9.length]⟩, ⟨1, some [i64 r6, i64 r7, oref 3 1 0 r10.length]⟩, ⟨1, some [oref 1 2 0 r11.length]⟩, ⟨0, none⟩, ⟨0, none⟩]) [(1, 2), (4, 1), (2, 1)] [] rfl (CallAs.func ent72 rfl rfl) rfl rfl (SelOk.of (show List.Nodup [1, 4, 2] from by decide) (SelL.arr0 (f := i64) (fun _ => rfl) rfl (SelL.cells0 rfl (by simp [ren, rens, sigma, rens_f32, rens_f64, rens_i64, rens_ik, rens_str, rens_cp]) rfl (SelL.arr0 (f := f32) (fun _ => rfl) rfl trivial)))) (live_of ⟨⟨_, _, rfl⟩, ⟨_, _, rfl⟩, ⟨_, _, rfl⟩, trivial⟩) (by simp [ren, rens, sigma, rens_f32, rens_f64, rens_i64, rens_ik, rens_str, rens_cp]) rfl (x_slices_SortStableFunc_int64_int64_0o_1Fi_TurnValues_1_1c0p1_C10o2_ok r11 r9 r12 r13 hf9) rfl (news_of trivial) (show List.Nodup [1, 4, 2] from by decide) (by simp [ren, rens, sigma, of_decide_eq_true hn10, of_decide_eq_true hn11]) (by simp [backOb, sigma, ren, rens, rens_f32, rens_f64, rens_i64, rens_ik, rens_str, rens_cp, of_decide_eq_true hn10, of_decide_eq_true hn11]) ?_
    refine zN ?_
    refine zQ ?_
    refine ROps.d (r := oref 7 1 0 0) (fs := [(7, (([] : List F).map f32))]) (Γ' := [⟨1, some [i64 0, i64 0, nilsl]⟩, ⟨2, some (r12.map i64)⟩, ⟨1, some (r13.map f32)⟩, ⟨1, some (r10.map f32)⟩, ⟨1, some [oref 2 1 0 r9.length]⟩, ⟨1, some [i64 r6, i64 r7, oref 3 1 0 r10.length]⟩, ⟨1, some [oref 1 2 0 r11.length]⟩, ⟨1, some (([] : List F).map f32)⟩, ⟨0, none⟩]) rfl rfl rfl (TOp.buildSlice_o (g := ⟨0, none⟩) (za := f32 (some 0)) (qs := []) 7 rfl und23 siz26 zer26 rfl zel26 rfl rfl trivial rfl) rfl ?_
    refine zA (r := oref 7 1 0 0) rfl rfl rfl rfl rfl ?_
    refine zN ?_
    refine RunC.seq ?_
    refine zQ ?_
    refine ROps.d (r := oref 1 2 0 r11.length) (fs := []) (Γ' := [⟨1, some [i64 0, i64 0, nilsl]⟩, ⟨2, some (r12.map i64)⟩, ⟨1, some (r13.map f32)⟩, ⟨1, some (r10.map f32)⟩, ⟨1, some [oref 2 1 0 r9.length]⟩, ⟨1, some [i64 r6, i64 r7, oref 3 1 0 r10.length]⟩, ⟨1, some [oref 1 2 0 r11.length]⟩, ⟨1, some (([] : List F).map f32)⟩, ⟨0, none⟩]) rfl rfl rfl (TOp.load1_o rfl rfl agg22 rfl rfl) rfl ?_
    refine zL (r := i64 ((r11.length : Nat) : Int)) rfl rfl rfl (LOp.len_oref und22 rfl rfl) ?_
    refine zM (r := i64 0) rfl rfl rfl rfl rfl ?_
    refine zN ?_
    obtain ⟨z2, hz_2, h⟩ := obind_some h
    refine RunC.cutN (fun τ Γ => ∃ (L24 : List F) (u21 : Nat) (u22 : Nat), r12.length = r11.length ∧ WeakLe τ [(2, ptr [i64 a0, i64 a1, sl a2.length (a2.map f32)]), (5, optr 0 1 0), (8, optr 5 1 0), (10, optr 6 1 0), (11, oref 7 u21 0 L24.length)] ∧ DeadLe Γ [⟨1, some [i64 0, i64 0, nilsl]⟩, ⟨2, some (r12.map i64)⟩, ⟨1, none⟩, ⟨1, some (r10.map f32)⟩, ⟨1, none⟩, ⟨1, some [i64 r6, i64 r7, oref 3 1 0 r10.length]⟩, ⟨1, some [oref 1 2 0 r11.length]⟩, ⟨u21, some (L24.map f32)⟩, ⟨u22, none⟩] ∧ z2 = .inl L24) ?_ ?_
    ·refine RunC.block (RunC.loop (RunL.loopM (x := z2) (i_TurnValues_s1 r11 r12 r13) (fun (s : (List F) × Int) τ Γ => ∃ (u14 : Nat) (u15 : Nat), WeakLe τ [(2, ptr [i64 a0, i64 a1, sl a2.length (a2.map f32)]), (5, optr 0 1 0), (7, optr 4 1 0), (8, optr 5 1 0), (10, optr 6 1 0), (11, oref 7 u14 0 s.1.length), (41, oref 1 2 0 r11.length), (42, i64 ((r11.length : Nat) : Int)), (43, i64 s.2)] ∧ DeadLe Γ [⟨1, some [i64 0, i64 0, nilsl]⟩, ⟨2, some (r12.map i64)⟩, ⟨1, some (r13.map f32)⟩, ⟨1, some (r10.map f32)⟩, ⟨1, some [oref 2 1 0 r9.length]⟩, ⟨1, some [i64 r6, i64 r7, oref 3 1 0 r10.length]⟩, ⟨1, some [oref 1 2 0 r11.length]⟩, ⟨u14, some (s.1.map f32)⟩, ⟨u15, none⟩]) ?_ _ _ _ hz_2 ⟨1, 0, ⟨aR, aR, aR, aR, aR, aR, aR, aR, aR, trivial⟩, ⟨⟨rfl, .inr rfl⟩, ⟨rfl, .inr rfl⟩, ⟨rfl, .inr rfl⟩, ⟨rfl, .inr rfl⟩, ⟨rfl, .inr rfl⟩, ⟨rfl, .inr rfl⟩, ⟨rfl, .inr rfl⟩, ⟨rfl, .inr rfl⟩, ⟨rfl, .inl rfl⟩, trivial⟩⟩))
     rintro ⟨L16, v17⟩ τ2 Γ2 y2_ ⟨u14, u15, hw2, hd2⟩ h2_ ho2 hr2
     refine RunC.wl (τ' := [(2, ptr [i64 a0, i64 a1, sl a2.length (a2.map f32)]), (5, optr 0 1 0), (7, optr 4 1 0), (8, optr 5 1 0), (10, optr 6 1 0), (11, oref 7 u14 0 L16.length), (41, oref 1 2 0 r11.length), (42, i64 ((r11.length : Nat) : Int)), (43, i64 v17)]) (Γ' := [⟨1, some [i64 0, i64 0, nilsl]⟩, ⟨2, some (r12.map i64)⟩, ⟨1, some (r13.map f32)⟩, ⟨1, some (r10.map f32)⟩, ⟨1, some [oref 2 1 0 r9.length]⟩, ⟨1, some [i64 r6, i64 r7, oref 3 1 0 r10.length]⟩, ⟨1, some [oref 1 2 0 r11.length]⟩, ⟨u14, some (L16.map f32)⟩, ⟨u15, none⟩]) hw2 hd2 ?_
     replace h2_ : i_TurnValues_b1 r11 r12 r13 L16 v17 = some y2_ := h2_
     unfold i_TurnValues_b1 at h2_
     refine RunC.seq ?_
     rcases bsel_some h2_ with ⟨hc12, h2_⟩ | ⟨hc12, h2_⟩
     ·refine RunC.regionW ?_
      refine zL (r := b true) rfl rfl rfl (LOp.eqb (LOp.lss rfl rfl rfl) hc12) ?_
      refine zN ?_
      refine RunC.seq ?_
      refine RunC.cond_true rfl rfl ?_
      refine RunC.skip ?_
      refine RunC.seq ?_
      refine RunC.block ?_
      refine RunC.seq ?_
      obtain ⟨e18, he13, h2_⟩ := obind_some h2_
      refine RunC.regionW ?_
      refine ROps.d (r := optr 1 2 v17.toNat) (fs := []) (Γ' := [⟨1, some [i64 0, i64 0, nilsl]⟩, ⟨2, some (r12.map i64)⟩, ⟨1, some (r13.map f32)⟩, ⟨1, some (r10.map f32)⟩, ⟨1, some [oref 2 1 0 r9.length]⟩, ⟨1, some [i64 r6, i64 r7, oref 3 1 0 r10.length]⟩, ⟨1, some [oref 1 2 0 r11.length]⟩, ⟨u14, some (L16.map f32)⟩, ⟨u15, none⟩]) rfl rfl rfl (TOp.ixo und22 siz2 rfl rfl rfl (at_in he13 (of_decide_eq_true hn10)) rfl) rfl ?_
      refine ROps.d (r := i64 e18) (fs := []) (Γ' := [⟨1, some [i64 0, i64 0, nilsl]⟩, ⟨2, some (r12.map i64)⟩, ⟨1, some (r13.map f32)⟩, ⟨1, some (r10.map f32)⟩, ⟨1, some [oref 2 1 0 r9.length]⟩, ⟨1, some [i64 r6, i64 r7, oref 3 1 0 r10.length]⟩, ⟨1, some [oref 1 2 0 r11.length]⟩, ⟨u14, some (L16.map f32)⟩, ⟨u15, none⟩]) rfl rfl rfl (TOp.load1_o rfl (at_cell he13) agg2 rfl rfl) rfl ?_
      refine zA (r := i64 e18) rfl rfl rfl rfl rfl ?_
      refine zN ?_
      obtain ⟨e19, he14, h2_⟩ := obind_some h2_
      obtain ⟨hm15, h2_⟩ := need_some h2_
      refine RunC.regionW ?_
      refine zM (r := oref 7 u14 0 L16.length) rfl rfl rfl rfl rfl ?_
      refine ROps.d (r := oref 2 1 0 r9.length) (fs := []) (Γ' := [⟨1, some [i64 0, i64 0, nilsl]⟩, ⟨2, some (r12.map i64)⟩, ⟨1, some (r13.map f32)⟩, ⟨1, some (r10.map f32)⟩, ⟨1, some [oref 2 1 0 r9.length]⟩, ⟨1, some [i64 r6, i64 r7, oref 3 1 0 r10.length]⟩, ⟨1, some [oref 1 2 0 r11.length]⟩, ⟨u14, some (L16.map f32)⟩, ⟨u15, none⟩]) rfl rfl rfl (TOp.load1_o rfl rfl agg23 rfl rfl) rfl ?_
      refine zM (r := i64 e18) rfl rfl rfl rfl rfl ?_
      refine ROps.d (r := optr 2 1 e18.toNat) (fs := []) (Γ' := [⟨1, some [i64 0, i64 0, nilsl]⟩, ⟨2, some (r12.map i64)⟩, ⟨1, some (r13.map f32)⟩, ⟨1, some (r10.map f32)⟩, ⟨1, some [oref 2 1 0 r9.length]⟩, ⟨1, some [i64 r6, i64 r7, oref 3 1 0 r10.length]⟩, ⟨1, some [oref 1 2 0 r11.length]⟩, ⟨u14, some (L16.map f32)⟩, ⟨u15, none⟩]) rfl rfl rfl (TOp.ixo und23 siz26 rfl rfl rfl (at_in he14 (of_decide_eq_true hn11)) rfl) rfl ?_
      refine ROps.d (r := f32 e19) (fs := []) (Γ' := [⟨1, some [i64 0, i64 0, nilsl]⟩, ⟨2, some (r12.map i64)⟩, ⟨1, some (r13.map f32)⟩, ⟨1, some (r10.map f32)⟩, ⟨1, some [oref 2 1 0 r9.length]⟩, ⟨1, some [i64 r6, i64 r7, oref 3 1 0 r10.length]⟩, ⟨1, some [oref 1 2 0 r11.length]⟩, ⟨u14, some (L16.map f32)⟩, ⟨u15, none⟩]) rfl rfl rfl (TOp.load1_o rfl (at_cell he14) agg26 rfl rfl) rfl ?_
      refine ROps.d (r := oref 8 (u15 + 1) 0 1) (fs := [(8, (([e19] : List F).map f32))]) (Γ' := [⟨1, some [i64 0, i64 0, nilsl]⟩, ⟨2, some (r12.map i64)⟩, ⟨1, some (r13.map f32)⟩, ⟨1, some (r10.map f32)⟩, ⟨1, some [oref 2 1 0 r9.length]⟩, ⟨1, some [i64 r6, i64 r7, oref 3 1 0 r10.length]⟩, ⟨1, some [oref 1 2 0 r11.length]⟩, ⟨u14, some (L16.map f32)⟩, ⟨(u15 + 1), some (([e19] : List F).map f32)⟩]) rfl rfl rfl (TOp.buildSlice_o (g := ⟨u15, none⟩) (za := f32 (some 0)) (qs := [(0, [f32 e19])]) 8 rfl und23 siz26 zer26 rfl zel26 rfl rfl ⟨rfl, ⟨_, ALe.refl _, rfl⟩, trivial⟩ rfl) rfl ?_
      refine ROps.app (f := f32) (xs := L16) (ys := ([e19] : List F)) (Γ' := [⟨1, some [i64 0, i64 0, nilsl]⟩, ⟨2, some (r12.map i64)⟩, ⟨1, some (r13.map f32)⟩, ⟨1, some (r10.map f32)⟩, ⟨1, some [oref 2 1 0 r9.length]⟩, ⟨1, some [i64 r6, i64 r7, oref 3 1 0 r10.length]⟩, ⟨1, some [oref 1 2 0 r11.length]⟩, ⟨(u14 + 1), some ((L16 ++ ([e19] : List F)).map f32)⟩, ⟨(u15 + 1), some (([e19] : List F).map f32)⟩]) rfl pun23 inf26 rfl rfl rfl rfl rfl rfl rfl rfl rfl (by simp) (ReadAs.own rfl (by simp)) (ones_map (fun _ => rfl)) (ap_by hm15) (ap_mx hm15) rfl ?_
      refine zA (r := oref 7 (u14 + 1) 0 (L16.length + 1)) rfl rfl rfl rfl rfl ?_
      refine zN ?_
      refine RunC.wl (τ' := [(2, ptr [i64 a0, i64 a1, sl a2.length (a2.map f32)]), (5, optr 0 1 0), (7, optr 4 1 0), (8, optr 5 1 0), (10, optr 6 1 0), (11, oref 7 (u14 + 1) 0 (L16.length + 1)), (41, oref 1 2 0 r11.length), (42, i64 ((r11.length : Nat) : Int)), (43, i64 v17)]) (Γ' := [⟨1, some [i64 0, i64 0, nilsl]⟩, ⟨2, some (r12.map i64)⟩, ⟨1, some (r13.map f32)⟩, ⟨1, some (r10.map f32)⟩, ⟨1, some [oref 2 1 0 r9.length]⟩, ⟨1, some [i64 r6, i64 r7, oref 3 1 0 r10.length]⟩, ⟨1, some [oref 1 2 0 r11.length]⟩, ⟨(u14 + 1), some ((L16 ++ ([e19] : List F)).map f32)⟩, ⟨(u15 + 1), none⟩]) ⟨aR, aR, aR, aR, aR, aR, aR, aR, aR, trivial⟩ ⟨⟨rfl, .inr rfl⟩, ⟨rfl, .inr rfl⟩, ⟨rfl, .inr rfl⟩, ⟨rfl, .inr rfl⟩, ⟨rfl, .inr rfl⟩, ⟨rfl, .inr rfl⟩, ⟨rfl, .inr rfl⟩, ⟨rfl, .inr rfl⟩, ⟨rfl, .inl rfl⟩, trivial⟩ ?_
      obtain ⟨x20, hx16, h2_⟩ := olet_some h2_
      refine RunC.regionW ?_
      refine zL (r := i64 x20) rfl rfl rfl (LOp.eqr (LOp.add rfl rfl rfl) (congrArg (ik .i64) hx16)) ?_
      refine zM (r := i64 x20) rfl rfl rfl rfl rfl ?_
      refine zN ?_
      cases Option.some.inj h2_
      exact ⟨_, rfl, (u14 + 1), (u15 + 1), ⟨aR, aR, aR, aR, aR, (ALe.eq (by rw [(app_len rfl rfl)] <;> rfl)), aR, aR, aR, trivial⟩, ⟨⟨rfl, .inr rfl⟩, ⟨rfl, .inr rfl⟩, ⟨rfl, .inr rfl⟩, ⟨rfl, .inr rfl⟩, ⟨rfl, .inr rfl⟩, ⟨rfl, .inr rfl⟩, ⟨rfl, .inr rfl⟩, ⟨rfl, .inr rfl⟩, ⟨rfl, .inl rfl⟩, trivial⟩⟩
     ·refine RunC.regionW ?_
      refine zL (r := b false) rfl rfl rfl (LOp.eqb (LOp.lss rfl rfl rfl) hc12) ?_
      refine zN ?_
      refine RunC.seq ?_
      refine RunC.cond_false rfl rfl ?_
      refine RunC.exit ?_
      cases Option.some.inj h2_
      have hx := ho2 _ rfl
      exact ⟨L16, u14, u15, (of_decide_eq_true hn10), ⟨aR, aR, aR, aR, aR, trivial⟩, ⟨⟨rfl, .inr rfl⟩, ⟨rfl, .inr rfl⟩, ⟨rfl, .inl rfl⟩, ⟨rfl, .inr rfl⟩, ⟨rfl, .inl rfl⟩, ⟨rfl, .inr rfl⟩, ⟨rfl, .inr rfl⟩, ⟨rfl, .inr rfl⟩, ⟨rfl, .inl rfl⟩, trivial⟩, hx⟩
    ·rintro τ3 Γ3 ⟨L24, u21, u22, hl23, hw3, hd3, rfl⟩
     refine RunC.wl hw3 hd3 ?_
     replace h : i_TurnValues_k1 a0 r6 r7 r10 r12 L24 = some (q0, q1, q2, q3, q4) := h
     unfold i_TurnValues_k1 at h
     refine RunC.seq ?_
     obtain ⟨r25, r26, r27, hf17, h⟩ := obind3_some h
     refine RunC.regionW ?_
     refine zM (r := oref 7 u21 0 L24.length) rfl rfl rfl rfl rfl ?_
     refine zL (r := ptr [i64 a0, i64 a1, sl a2.length (a2.map f32)]) rfl rfl rfl (LOp.fap und45 rfl siz2 rfl rfl rfl) ?_
     refine zL (r := i64 a0) rfl rfl rfl (LOp.load1 agg2 rfl rfl) ?_
     refine zL (r := ptr [i64 a0, i64 a1, sl a2.length (a2.map f32)]) rfl rfl rfl (LOp.fap und45 rfl siz2 rfl rfl rfl) ?_
     refine zL (r := i64 a0) rfl rfl rfl (LOp.load1 agg2 rfl rfl) ?_
     refine zL (r := fn (.func 75) [] [optr 5 1 0, optr 6 1 0]) rfl rfl rfl (LOp.makeFunc rfl rfl) ?_
     refine ROps.d (r := agg [i64 r25, i64 r26, oref 2 2 0 r27.length]) (fs := [(2, (r27.map f32))]) (Γ' := [⟨1, some [i64 0, i64 0, nilsl]⟩, ⟨2, some (r12.map i64)⟩, ⟨2, some (r27.map f32)⟩, ⟨1, some (r10.map f32)⟩, ⟨1, none⟩, ⟨1, some [i64 r6, i64 r7, oref 3 1 0 r10.length]⟩, ⟨1, some [oref 1 2 0 r11.length]⟩, ⟨u21, some (L24.map f32)⟩, ⟨u22, none⟩]) rfl rfl rfl (TOp.callBN (ls := [(r27.map f32)]) [2] (CallAs.func ent74 rfl rfl) (Bors.cons (Bor.pure rfl) (Bors.cons (Bor.pure rfl) (Bors.cons (Bor.fn Bors.nil (Bors.cons (Bor.optr rfl (Bors.p (Bors.cons (Bor.pure rfl) (Bors.cons (Bor.pure rfl) (Bors.cons (Bor.own (f := f32) (fun _ => rfl) rfl rfl) Bors.nil)))) rfl) (Bors.cons (Bor.optr rfl (Bors.p (Bors.cons (Bor.own (f := i64) (fun _ => rfl) rfl hl23) Bors.nil)) rfl) Bors.nil))) Bors.nil))) rfl (i_made_2Fi_TurnValues_2_ok a0 a0 r6 r7 r10 r12 r25 r26 r27 hf17) (and_all (lts0_map (f := f32) (fun _ => rfl) _) rfl) (and_all (noss_map (f := f32) (fun _ => rfl) _) rfl) rfl (by decide) (ns_of ⟨⟨_, rfl⟩, trivial⟩)) rfl ?_
     refine zA (r := oref 7 u21 0 L24.length) rfl rfl rfl rfl rfl ?_
     refine ROps.store_le (r := agg [i64 r25, i64 r26, oref 2 2 0 r27.length]) (l' := [i64 r25, i64 r26, oref 2 2 0 r27.length]) (Γ' := [⟨1, some [i64 r25, i64 r26, oref 2 2 0 r27.length]⟩, ⟨2, some (r12.map i64)⟩, ⟨2, some (r27.map f32)⟩, ⟨1, some (r10.map f32)⟩, ⟨1, none⟩, ⟨1, some [i64 r6, i64 r7, oref 3 1 0 r10.length]⟩, ⟨1, some [oref 1 2 0 r11.length]⟩, ⟨u21, some (L24.map f32)⟩, ⟨u22, none⟩]) rfl siz45 rfl rfl rfl aR rfl rfl rfl rfl (Nat.le_of_ble_eq_true rfl) rfl rfl ?_
     refine zA (r := b true) rfl rfl rfl rfl rfl ?_
     refine zN ?_
     refine RunC.ret ?_
     have hq := Option.some.inj h
     obtain ⟨hq0, hq⟩ := Prod.mk.inj hq
     obtain ⟨hq1, hq⟩ := Prod.mk.inj hq
     obtain ⟨hq2, hq⟩ := Prod.mk.inj hq
     obtain ⟨hq3, hq⟩ := Prod.mk.inj hq
     subst q0
     subst q1
     subst q2
     subst q3
     subst q4
     exact bodyQ.mk (r' := tup [oref 7 u21 0 L24.length, agg [i64 r25, i64 r26, oref 2 2 0 r27.length], b true]) [(7, u21), (2, 2)] (.inr rfl) rfl (show List.Nodup [7, 2] from by decide) (by simp [ren, rens, sigma]) rfl (Res.three rfl (RV.tmp rfl) (RV.cell agg45 siz45 rfl rfl rfl rfl) (RV.tmp rfl)) (SelL.arr0 (f := f32) (fun _ => rfl) rfl (SelL.arr0 (f := f32) (fun _ => rfl) rfl trivial))
   ·refine RunC.regionW ?_
    refine zL (r := agg [i64 a0, i64 a1, sl a2.length (a2.map f32)]) rfl rfl rfl (LOp.loadAgg agg45 siz45 rfl rfl rfl rfl) ?_
    refine ROps.d (r := agg [i64 r3, i64 r4, oref 1 1 0 r5.length]) (fs := [(1, (r5.map f32))]) (Γ' := [⟨1, some [i64 0, i64 0, nilsl]⟩, ⟨1, some (r5.map f32)⟩, ⟨0, none⟩, ⟨0, none⟩, ⟨0, none⟩, ⟨0, none⟩, ⟨0, none⟩, ⟨0, none⟩, ⟨0, none⟩]) rfl rfl rfl (TOp.callBN (ls := [(r5.map f32)]) [1] (CallAs.func ent70 rfl rfl) (Bors.cons (Bor.agg (Bors.cons (Bor.pure rfl) (Bors.cons (Bor.pure rfl) (Bors.cons (Bor.sl (fun _ => rfl)) Bors.nil)))) Bors.nil) rfl (i_Matrix_clone_ok a0 a1 a2 r3 r4 r5 hf5) (and_all (lts0_map (f := f32) (fun _ => rfl) _) rfl) (and_all (noss_map (f := f32) (fun _ => rfl) _) rfl) rfl (by decide) (ns_of ⟨⟨_, rfl⟩, trivial⟩)) rfl ?_
    refine zM (r := i64 a3) rfl rfl rfl rfl rfl ?_
    refine ROps.d (r := tup [oref 2 1 0 r9.length, agg [i64 r6, i64 r7, oref 3 1 0 r10.length], b r8]) (fs := [(2, (r9.map f32)), (3, (r10.map f32))]) (Γ' := [⟨1, some [i64 0, i64 0, nilsl]⟩, ⟨1, some (r5.map f32)⟩, ⟨1, some (r9.map f32)⟩, ⟨1, some (r10.map f32)⟩, ⟨0, none⟩, ⟨0, none⟩, ⟨0, none⟩, ⟨0, none⟩, ⟨0, none⟩]) rfl rfl rfl (TOp.callBN (ls := [(r9.map f32), (r10.map f32)]) [2, 3] (CallAs.func ent69 rfl rfl) (Bors.cons (Bor.agg (Bors.cons (Bor.pure rfl) (Bors.cons (Bor.pure rfl) (Bors.cons (Bor.own (f := f32) (fun _ => rfl) rfl rfl) Bors.nil)))) (Bors.cons (Bor.pure rfl) Bors.nil)) rfl (i_turnValues_ok r3 r4 r5 a3 r6 r7 r8 r9 r10 hf6) (and_all (lts0_map (f := f32) (fun _ => rfl) _) (and_all (lts0_map (f := f32) (fun _ => rfl) _) rfl)) (and_all (noss_map (f := f32) (fun _ => rfl) _) (and_all (noss_map (f := f32) (fun _ => rfl) _) rfl)) rfl (by decide) (ns_of ⟨⟨_, rfl⟩, ⟨_, rfl⟩, trivial⟩)) rfl ?_
    refine zM (r := tup [oref 2 1 0 r9.length, agg [i64 r6, i64 r7, oref 3 1 0 r10.length], b r8]) rfl rfl rfl rfl rfl ?_
    refine zL (r := oref 2 1 0 r9.length) rfl rfl rfl (LOp.extract rfl rfl rfl) ?_
    refine zL (r := agg [i64 r6, i64 r7, oref 3 1 0 r10.length]) rfl rfl rfl (LOp.extract rfl rfl rfl) ?_
    refine zL (r := b false) rfl rfl rfl (LOp.eqb (LOp.extract rfl rfl rfl) hc7) ?_
    refine ROps.d (r := optr 4 1 0) (fs := [(4, [nilsl])]) (Γ' := [⟨1, some [i64 0, i64 0, nilsl]⟩, ⟨1, some (r5.map f32)⟩, ⟨1, some (r9.map f32)⟩, ⟨1, some (r10.map f32)⟩, ⟨1, some [nilsl]⟩, ⟨0, none⟩, ⟨0, none⟩, ⟨0, none⟩, ⟨0, none⟩]) rfl rfl rfl (TOp.alloc_o (g := ⟨0, none⟩) 4 rfl zer23 zok23 rfl) rfl ?_
    refine ROps.d (r := optr 5 1 0) (fs := [(5, [i64 0, i64 0, nilsl])]) (Γ' := [⟨1, some [i64 0, i64 0, nilsl]⟩, ⟨1, some (r5.map f32)⟩, ⟨1, some (r9.map f32)⟩, ⟨1, some (r10.map f32)⟩, ⟨1, some [nilsl]⟩, ⟨1, some [i64 0, i64 0, nilsl]⟩, ⟨0, none⟩, ⟨0, none⟩, ⟨0, none⟩]) rfl rfl rfl (TOp.alloc_o (g := ⟨0, none⟩) 5 rfl zer45 zok45 rfl) rfl ?_
    refine ROps.store_le (r := oref 2 1 0 r9.length) (l' := [oref 2 1 0 r9.length]) (Γ' := [⟨1, some [i64 0, i64 0, nilsl]⟩, ⟨1, some (r5.map f32)⟩, ⟨1, some (r9.map f32)⟩, ⟨1, some (r10.map f32)⟩, ⟨1, some [oref 2 1 0 r9.length]⟩, ⟨1, some [i64 0, i64 0, nilsl]⟩, ⟨0, none⟩, ⟨0, none⟩, ⟨0, none⟩]) rfl siz23 rfl rfl rfl aR rfl rfl rfl rfl (Nat.le_of_ble_eq_true rfl) rfl rfl ?_
    refine ROps.store_le (r := agg [i64 r6, i64 r7, oref 3 1 0 r10.length]) (l' := [i64 r6, i64 r7, oref 3 1 0 r10.length]) (Γ' := [⟨1, some [i64 0, i64 0, nilsl]⟩, ⟨1, some (r5.map f32)⟩, ⟨1, some (r9.map f32)⟩, ⟨1, some (r10.map f32)⟩, ⟨1, some [oref 2 1 0 r9.length]⟩, ⟨1, some [i64 r6, i64 r7, oref 3 1 0 r10.length]⟩, ⟨0, none⟩, ⟨0, none⟩, ⟨0, none⟩]) rfl siz45 rfl rfl rfl aR rfl rfl rfl rfl (Nat.le_of_ble_eq_true rfl) rfl rfl ?_
    refine zA (r := b false) rfl rfl rfl rfl rfl ?_
    refine zN ?_
    refine RunC.wl (τ' := [(2, ptr [i64 a0, i64 a1, sl a2.length (a2.map f32)]), (5, optr 0 1 0), (7, optr 4 1 0), (8, optr 5 1 0), (9, b false)]) (Γ' := [⟨1, some [i64 0, i64 0, nilsl]⟩, ⟨1, none⟩, ⟨1, some (r9.map f32)⟩, ⟨1, some (r10.map f32)⟩, ⟨1, some [oref 2 1 0 r9.length]⟩, ⟨1, some [i64 r6, i64 r7, oref 3 1 0 r10.length]⟩, ⟨0, none⟩, ⟨0, none⟩, ⟨0, none⟩]) ⟨aR, aR, aR, aR, aR, trivial⟩ ⟨⟨rfl, .inr rfl⟩, ⟨rfl, .inl rfl⟩, ⟨rfl, .inr rfl⟩, ⟨rfl, .inr rfl⟩, ⟨rfl, .inr rfl⟩, ⟨rfl, .inr rfl⟩, ⟨rfl, .inr rfl⟩, ⟨rfl, .inr rfl⟩, ⟨rfl, .inr rfl⟩, trivial⟩ ?_
    refine RunC.seq ?_
    refine zQ ?_
    refine zM (r := b false) rfl rfl rfl rfl rfl ?_
    refine zL (r := b true) rfl rfl rfl (LOp.eqb (LOp.not rfl rfl) rfl) ?_
    refine zN ?_
    refine RunC.cond_true rfl rfl ?_
    refine zQ ?_
    refine zL (r := agg [i64 0, i64 0, nilsl]) rfl rfl rfl (LOp.build (qs := []) zer45 zok45 und45 plc45 rfl trivial rfl) ?_
    refine zA (r := nilsl) rfl rfl rfl rfl rfl ?_
    refine ROps.store_le (r := agg [i64 0, i64 0, nilsl]) (l' := [i64 0, i64 0, nilsl]) (Γ' := [⟨1, some [i64 0, i64 0, nilsl]⟩, ⟨1, none⟩, ⟨1, some (r9.map f32)⟩, ⟨1, some (r10.map f32)⟩, ⟨1, some [oref 2 1 0 r9.length]⟩, ⟨1, some [i64 r6, i64 r7, oref 3 1 0 r10.length]⟩, ⟨0, none⟩, ⟨0, none⟩, ⟨0, none⟩]) rfl siz45 rfl rfl rfl aR rfl rfl rfl rfl (Nat.le_of_ble_eq_true rfl) rfl rfl ?_
    refine zA (r := b false) rfl rfl rfl rfl rfl ?_
    refine zN ?_
    refine RunC.nil_slot (Γ' := [⟨1, some [i64 0, i64 0, nilsl]⟩, ⟨2, some (([] : List F).map f32)⟩, ⟨1, some (r9.map f32)⟩, ⟨1, some (r10.map f32)⟩, ⟨1, some [oref 2 1 0 r9.length]⟩, ⟨1, some [i64 r6, i64 r7, oref 3 1 0 r10.length]⟩, ⟨0, none⟩, ⟨0, none⟩, ⟨0, none⟩]) 4 1 rfl rfl rfl ?_
    refine RunC.nil_cell (l' := [i64 0, i64 0, oref 6 1 0 0]) (Γ' := [⟨1, some [i64 0, i64 0, oref 6 1 0 0]⟩, ⟨2, some (([] : List F).map f32)⟩, ⟨1, some (r9.map f32)⟩, ⟨1, some (r10.map f32)⟩, ⟨1, some [oref 2 1 0 r9.length]⟩, ⟨1, some [i64 r6, i64 r7, oref 3 1 0 r10.length]⟩, ⟨1, some (([] : List F).map f32)⟩, ⟨0, none⟩, ⟨0, none⟩]) 0 2 6 rfl rfl rfl rfl rfl ?_
    refine RunC.ret ?_
    have hq := Option.some.inj h
    obtain ⟨hq0, hq⟩ := Prod.mk.inj hq
    obtain ⟨hq1, hq⟩ := Prod.mk.inj hq
    obtain ⟨hq2, hq⟩ := Prod.mk.inj hq
    obtain ⟨hq3, hq⟩ := Prod.mk.inj hq
    subst q0
    subst q1
    subst q2
    subst q3
    subst q4
    exact bodyQ.mk (r' := tup [oref 1 2 0 (([] : List F).length), agg [i64 0, i64 0, oref 6 1 0 (([] : List F).length)], b false]) [(1, 2), (6, 1)] (.inr rfl) rfl (show List.Nodup [1, 6] from by decide) rfl rfl (Res.eq (Res.three rfl (RV.tmp rfl) (RV.cell agg45 siz45 rfl rfl rfl rfl) (RV.tmp rfl)) (by rw [(show ([] : List F).length = 0 from rfl)] <;> rfl)) (SelL.arr0 (f := f32) (fun _ => rfl) rfl (SelL.arr0 (f := f32) (fun _ => rfl) rfl trivial))
  ·refine RunC.regionW ?_
   refine zL (r := agg [i64 a0, i64 a1, sl a2.length (a2.map f32)]) rfl rfl rfl (LOp.loadAgg agg45 siz45 rfl rfl rfl rfl) ?_
   refine ROps.d (r := b true) (fs := []) (Γ' := [⟨1, some [i64 0, i64 0, nilsl]⟩, ⟨0, none⟩, ⟨0, none⟩, ⟨0, none⟩, ⟨0, none⟩, ⟨0, none⟩, ⟨0, none⟩, ⟨0, none⟩, ⟨0, none⟩]) rfl rfl rfl (TOp.eqb (TOp.callB (CallAs.func ent67 rfl rfl) (Bors.cons (Bor.agg (Bors.cons (Bor.pure rfl) (Bors.cons (Bor.pure rfl) (Bors.cons (Bor.sl (fun _ => rfl)) Bors.nil)))) Bors.nil) rfl rfl (i_IsSymmetric_ok a0 a1 a2 r1 hf1)) hc2) rfl ?_
   refine zL (r := b false) rfl rfl rfl (LOp.eqb (LOp.not rfl rfl) rfl) ?_
   refine zM (r := b false) rfl rfl rfl rfl rfl ?_
   refine zM (r := i64 a3) rfl rfl rfl rfl rfl ?_
   refine ROps.d (r := b false) (fs := []) (Γ' := [⟨1, some [i64 0, i64 0, nilsl]⟩, ⟨0, none⟩, ⟨0, none⟩, ⟨0, none⟩, ⟨0, none⟩, ⟨0, none⟩, ⟨0, none⟩, ⟨0, none⟩, ⟨0, none⟩]) rfl rfl rfl (TOp.eqb (TOp.callB (CallAs.func ent68 rfl rfl) (Bors.cons (Bor.pure rfl) Bors.nil) rfl rfl (i_isRounds_ok a3 r2 hf3)) hc4) rfl ?_
   refine zL (r := b true) rfl rfl rfl (LOp.eqb (LOp.not rfl rfl) rfl) ?_
   refine zL (r := b true) rfl rfl rfl (LOp.pick_false rfl rfl rfl) ?_
   refine zN ?_
   refine RunC.cond_true rfl rfl ?_
   refine zQ ?_
   refine zL (r := agg [i64 0, i64 0, nilsl]) rfl rfl rfl (LOp.build (qs := []) zer45 zok45 und45 plc45 rfl trivial rfl) ?_
   refine zA (r := nilsl) rfl rfl rfl rfl rfl ?_
   refine ROps.store_le (r := agg [i64 0, i64 0, nilsl]) (l' := [i64 0, i64 0, nilsl]) (Γ' := [⟨1, some [i64 0, i64 0, nilsl]⟩, ⟨0, none⟩, ⟨0, none⟩, ⟨0, none⟩, ⟨0, none⟩, ⟨0, none⟩, ⟨0, none⟩, ⟨0, none⟩, ⟨0, none⟩]) rfl siz45 rfl rfl rfl aR rfl rfl rfl rfl (Nat.le_of_ble_eq_true rfl) rfl rfl ?_
   refine zA (r := b false) rfl rfl rfl rfl rfl ?_
   refine zN ?_
   refine RunC.nil_slot (Γ' := [⟨1, some [i64 0, i64 0, nilsl]⟩, ⟨1, some (([] : List F).map f32)⟩, ⟨0, none⟩, ⟨0, none⟩, ⟨0, none⟩, ⟨0, none⟩, ⟨0, none⟩, ⟨0, none⟩, ⟨0, none⟩]) 4 1 rfl rfl rfl ?_
   refine RunC.nil_cell (l' := [i64 0, i64 0, oref 2 1 0 0]) (Γ' := [⟨1, some [i64 0, i64 0, oref 2 1 0 0]⟩, ⟨1, some (([] : List F).map f32)⟩, ⟨1, some (([] : List F).map f32)⟩, ⟨0, none⟩, ⟨0, none⟩, ⟨0, none⟩, ⟨0, none⟩, ⟨0, none⟩, ⟨0, none⟩]) 0 2 2 rfl rfl rfl rfl rfl ?_
   refine RunC.ret ?_
   have hq := Option.some.inj h
   obtain ⟨hq0, hq⟩ := Prod.mk.inj hq
   obtain ⟨hq1, hq⟩ := Prod.mk.inj hq
   obtain ⟨hq2, hq⟩ := Prod.mk.inj hq
   obtain ⟨hq3, hq⟩ := Prod.mk.inj hq
   subst q0
   subst q1
   subst q2
   subst q3
   subst q4
   exact bodyQ.mk (r' := tup [oref 1 1 0 (([] : List F).length), agg [i64 0, i64 0, oref 2 1 0 (([] : List F).length)], b false]) [(1, 1), (2, 1)] (.inr rfl) rfl (show List.Nodup [1, 2] from by decide) rfl rfl (Res.eq (Res.three rfl (RV.tmp rfl) (RV.cell agg45 siz45 rfl rfl rfl rfl) (RV.tmp rfl)) (by rw [(show ([] : List F).length = 0 from rfl)] <;> rfl)) (SelL.arr0 (f := f32) (fun _ => rfl) rfl (SelL.arr0 (f := f32) (fun _ => rfl) rfl trivial))
 ·refine RunC.regionW ?_
  refine zL (r := agg [i64 a0, i64 a1, sl a2.length (a2.map f32)]) rfl rfl rfl (LOp.loadAgg agg45 siz45 rfl rfl rfl rfl) ?_
  refine ROps.d (r := b false) (fs := []) (Γ' := [⟨1, some [i64 0, i64 0, nilsl]⟩, ⟨0, none⟩, ⟨0, none⟩, ⟨0, none⟩, ⟨0, none⟩, ⟨0, none⟩, ⟨0, none⟩, ⟨0, none⟩, ⟨0, none⟩]) rfl rfl rfl (TOp.eqb (TOp.callB (CallAs.func ent67 rfl rfl) (Bors.cons (Bor.agg (Bors.cons (Bor.pure rfl) (Bors.cons (Bor.pure rfl) (Bors.cons (Bor.sl (fun _ => rfl)) Bors.nil)))) Bors.nil) rfl rfl (i_IsSymmetric_ok a0 a1 a2 r1 hf1)) hc2) rfl ?_
  refine zL (r := b true) rfl rfl rfl (LOp.eqb (LOp.not rfl rfl) rfl) ?_
  refine zM (r := b true) rfl rfl rfl rfl rfl ?_
  refine ROps.s rfl rfl rfl ?_
  refine ROps.s rfl rfl rfl ?_
  refine ROps.s rfl rfl rfl ?_
  refine zL (r := b true) rfl rfl rfl (LOp.pick_true rfl rfl rfl) ?_
  refine zN ?_
  refine RunC.cond_true rfl rfl ?_
  refine zQ ?_
  refine zL (r := agg [i64 0, i64 0, nilsl]) rfl rfl rfl (LOp.build (qs := []) zer45 zok45 und45 plc45 rfl trivial rfl) ?_
  refine zA (r := nilsl) rfl rfl rfl rfl rfl ?_
  refine ROps.store_le (r := agg [i64 0, i64 0, nilsl]) (l' := [i64 0, i64 0, nilsl]) (Γ' := [⟨1, some [i64 0, i64 0, nilsl]⟩, ⟨0, none⟩, ⟨0, none⟩, ⟨0, none⟩, ⟨0, none⟩, ⟨0, none⟩, ⟨0, none⟩, ⟨0, none⟩, ⟨0, none⟩]) rfl siz45 rfl rfl rfl aR rfl rfl rfl rfl (Nat.le_of_ble_eq_true rfl) rfl rfl ?_
  refine zA (r := b false) rfl rfl rfl rfl rfl ?_
  refine zN ?_
  refine RunC.nil_slot (Γ' := [⟨1, some [i64 0, i64 0, nilsl]⟩, ⟨1, some (([] : List F).map f32)⟩, ⟨0, none⟩, ⟨0, none⟩, ⟨0, none⟩, ⟨0, none⟩, ⟨0, none⟩, ⟨0, none⟩, ⟨0, none⟩]) 4 1 rfl rfl rfl ?_
  refine RunC.nil_cell (l' := [i64 0, i64 0, oref 2 1 0 0]) (Γ' := [⟨1, some [i64 0, i64 0, oref 2 1 0 0]⟩, ⟨1, some (([] : List F).map f32)⟩, ⟨1, some (([] : List F).map f32)⟩, ⟨0, none⟩, ⟨0, none⟩, ⟨0, none⟩, ⟨0, none⟩, ⟨0, none⟩, ⟨0, none⟩]) 0 2 2 rfl rfl rfl rfl rfl ?_
  refine RunC.ret ?_
  have hq := Option.some.inj h
  obtain ⟨hq0, hq⟩ := Prod.mk.inj hq
  obtain ⟨hq1, hq⟩ := Prod.mk.inj hq
  obtain ⟨hq2, hq⟩ := Prod.mk.inj hq
  obtain ⟨hq3, hq⟩ := Prod.mk.inj hq
  subst q0
  subst q1
  subst q2
  subst q3
  subst q4
  exact bodyQ.mk (r' := tup [oref 1 1 0 (([] : List F).length), agg [i64 0, i64 0, oref 2 1 0 (([] : List F).length)], b false]) [(1, 1), (2, 1)] (.inr rfl) rfl (show List.Nodup [1, 2] from by decide) rfl rfl (Res.eq (Res.three rfl (RV.tmp rfl) (RV.cell agg45 siz45 rfl rfl rfl rfl) (RV.tmp rfl)) (by rw [(show ([] : List F).length = 0 from rfl)] <;> rfl)) (SelL.arr0 (f := f32) (fun _ => rfl) rfl (SelL.arr0 (f := f32) (fun _ => rfl) rfl trivial))
noncomputable def w_sameFloat_k1 (a0 : F) (a1 : F) : Option (Bool) :=
 some (feq .f64 a0 a1)
noncomputable def w_sameFloat (a0 : F) (a1 : F) : Option (Bool) :=
 bsel (!feq .f64 a0 a0) (
  some (!feq .f64 a1 a1)) (
  bsel (!feq .f64 a1 a1) (
   some false) (
   bsel (feq .f64 a0 (some 0)) (
    bsel (feq .f64 a1 (some 0)) (
     olet (fop .quo .f64 (some 4607182418800017408) a0) fun (x1 : F) =>
     olet (fop .quo .f64 (some 4607182418800017408) a1) fun (x2 : F) =>
     some ((flt .f64 (some 0) x1) == (flt .f64 (some 0) x2))) (
     w_sameFloat_k1 a0 a1)) (
    w_sameFloat_k1 a0 a1)))
theorem w_sameFloat_ok (a0 : F) (a1 : F) (q0 : Bool) (h : w_sameFloat a0 a1 = some q0) : Ev Try.prog 38 [f64 a0, f64 a1] [] (b q0) [] := by
 refine Ev.start Try.func38 rfl rfl 0 (τ := [(0, f64 a0), (1, f64 a1)]) rfl (Γ' := []) rfl (n := 75) rfl (g := 0) rfl (fun _ => rfl) ?_
 unfold w_sameFloat at h
 refine zQ ?_
 refine zA (r := b false) rfl rfl rfl rfl rfl ?_
 refine zN ?_
 refine RunC.seq ?_
 refine RunC.seq ?_
 rcases bsel_some h with ⟨hc1, h⟩ | ⟨hc1, h⟩
 ·refine RunC.regionW ?_
  refine zM (r := f64 a0) rfl rfl rfl rfl rfl ?_
  refine zM (r := f64 a0) rfl rfl rfl rfl rfl ?_
  refine zL (r := b true) rfl rfl rfl (LOp.eqb (LOp.fne rfl (OpF.tmp rfl) (OpF.tmp rfl)) hc1) ?_
  refine zM (r := b true) rfl rfl rfl rfl rfl ?_
  refine ROps.s rfl rfl rfl ?_
  refine ROps.s rfl rfl rfl ?_
  refine ROps.s rfl rfl rfl ?_
  refine zL (r := b true) rfl rfl rfl (LOp.pick_true rfl rfl rfl) ?_
  refine zN ?_
  refine RunC.cond_true rfl rfl ?_
  refine zQ ?_
  refine zM (r := f64 a0) rfl rfl rfl rfl rfl ?_
  refine zM (r := f64 a0) rfl rfl rfl rfl rfl ?_
  refine zL (r := b true) rfl rfl rfl (LOp.eqb (LOp.fne rfl (OpF.tmp rfl) (OpF.tmp rfl)) hc1) ?_
  refine zM (r := b true) rfl rfl rfl rfl rfl ?_
  refine zM (r := f64 a1) rfl rfl rfl rfl rfl ?_
  refine zM (r := f64 a1) rfl rfl rfl rfl rfl ?_
  refine zL (r := b (!feq .f64 a1 a1)) rfl rfl rfl (LOp.fne rfl (OpF.tmp rfl) (OpF.tmp rfl)) ?_
  refine zL (r := b (!feq .f64 a1 a1)) rfl rfl rfl (LOp.pick_true rfl rfl rfl) ?_
  refine zA (r := b (!feq .f64 a1 a1)) rfl rfl rfl rfl rfl ?_
  refine zN ?_
  refine RunC.ret ?_
  have hq := Option.some.inj h
  subst q0
  exact bodyQ.pure (.inr rfl) rfl (Res.one rfl (RV.tmp rfl))
 ·rcases bsel_some h with ⟨hc2, h⟩ | ⟨hc2, h⟩
  ·refine RunC.regionW ?_
   refine zM (r := f64 a0) rfl rfl rfl rfl rfl ?_
   refine zM (r := f64 a0) rfl rfl rfl rfl rfl ?_
   refine zL (r := b false) rfl rfl rfl (LOp.eqb (LOp.fne rfl (OpF.tmp rfl) (OpF.tmp rfl)) hc1) ?_
   refine zM (r := b false) rfl rfl rfl rfl rfl ?_
   refine zM (r := f64 a1) rfl rfl rfl rfl rfl ?_
   refine zM (r := f64 a1) rfl rfl rfl rfl rfl ?_
   refine zL (r := b true) rfl rfl rfl (LOp.eqb (LOp.fne rfl (OpF.tmp rfl) (OpF.tmp rfl)) hc2) ?_
   refine zL (r := b true) rfl rfl rfl (LOp.pick_false rfl rfl rfl) ?_
   refine zN ?_
   refine RunC.cond_true rfl rfl ?_
   refine zQ ?_
   refine zM (r := f64 a0) rfl rfl rfl rfl rfl ?_
   refine zM (r := f64 a0) rfl rfl rfl rfl rfl ?_
   refine zL (r := b false) rfl rfl rfl (LOp.eqb (LOp.fne rfl (OpF.tmp rfl) (OpF.tmp rfl)) hc1) ?_
   refine zM (r := b false) rfl rfl rfl rfl rfl ?_
   refine ROps.s rfl rfl rfl ?_
   refine ROps.s rfl rfl rfl ?_
   refine ROps.s rfl rfl rfl ?_
   refine zL (r := b false) rfl rfl rfl (LOp.pick_false rfl rfl rfl) ?_
   refine zA (r := b false) rfl rfl rfl rfl rfl ?_
   refine zN ?_
   refine RunC.ret ?_
   have hq := Option.some.inj h
   subst q0
   exact bodyQ.pure (.inr rfl) rfl (Res.one rfl (RV.tmp rfl))
  ·refine RunC.regionW ?_
   refine zM (r := f64 a0) rfl rfl rfl rfl rfl ?_
   refine zM (r := f64 a0) rfl rfl rfl rfl rfl ?_
   refine zL (r := b false) rfl rfl rfl (LOp.eqb (LOp.fne rfl (OpF.tmp rfl) (OpF.tmp rfl)) hc1) ?_
   refine zM (r := b false) rfl rfl rfl rfl rfl ?_
   refine zM (r := f64 a1) rfl rfl rfl rfl rfl ?_
   refine zM (r := f64 a1) rfl rfl rfl rfl rfl ?_
   refine zL (r := b false) rfl rfl rfl (LOp.eqb (LOp.fne rfl (OpF.tmp rfl) (OpF.tmp rfl)) hc2) ?_
   refine zL (r := b false) rfl rfl rfl (LOp.pick_false rfl rfl rfl) ?_
   refine zN ?_
   refine RunC.cond_false rfl rfl ?_
   refine RunC.skip ?_
   refine RunC.seq ?_
   refine RunC.cutN (fun τ Γ =>  WeakLe τ [(0, f64 a0), (1, f64 a1)] ∧ DeadLe Γ [] ∧ w_sameFloat_k1 a0 a1 = some q0) ?_ ?_
   ·refine RunC.seq ?_
    rcases bsel_some h with ⟨hc3, h⟩ | ⟨hc3, h⟩
    ·rcases bsel_some h with ⟨hc4, h⟩ | ⟨hc4, h⟩
     ·refine RunC.regionW ?_
      refine zM (r := f64 a0) rfl rfl rfl rfl rfl ?_
      refine zL (r := b true) rfl rfl rfl (LOp.eqb (LOp.feq rfl (OpF.tmp rfl) (OpF.const rfl (by kernel_rfl) (by kernel_rfl))) hc3) ?_
      refine zM (r := b true) rfl rfl rfl rfl rfl ?_
      refine zM (r := f64 a1) rfl rfl rfl rfl rfl ?_
      refine zL (r := b true) rfl rfl rfl (LOp.eqb (LOp.feq rfl (OpF.tmp rfl) (OpF.const rfl (by kernel_rfl) (by kernel_rfl))) hc4) ?_
      refine zL (r := b true) rfl rfl rfl (LOp.pick_true rfl rfl rfl) ?_
      refine zN ?_
      refine RunC.wl (τ' := [(0, f64 a0), (1, f64 a1), (26, b true)]) (Γ' := []) ⟨aR, aR, aR, trivial⟩ trivial ?_
      refine RunC.cond_true rfl rfl ?_
      refine RunC.seq ?_
      obtain ⟨x1, hx5, h⟩ := olet_some h
      obtain ⟨x2, hx6, h⟩ := olet_some h
      refine RunC.regionW ?_
      refine zM (r := f64 a0) rfl rfl rfl rfl rfl ?_
      refine ROps.d (r := f64 x1) (fs := []) (Γ' := []) rfl rfl rfl (TOp.eqr (TOp.fop (.inr (.inr (.inr rfl))) rfl (OpF.const rfl (by kernel_rfl) (by kernel_rfl)) (OpF.tmp rfl)) (congrArg (f .f64) hx5)) rfl ?_
      refine zL (r := b (flt .f64 (some 0) x1)) rfl rfl rfl (LOp.fgt rfl (OpF.tmp rfl) (OpF.const rfl (by kernel_rfl) (by kernel_rfl))) ?_
      refine zM (r := f64 a1) rfl rfl rfl rfl rfl ?_
      refine ROps.d (r := f64 x2) (fs := []) (Γ' := []) rfl rfl rfl (TOp.eqr (TOp.fop (.inr (.inr (.inr rfl))) rfl (OpF.const rfl (by kernel_rfl) (by kernel_rfl)) (OpF.tmp rfl)) (congrArg (f .f64) hx6)) rfl ?_
      refine zL (r := b (flt .f64 (some 0) x2)) rfl rfl rfl (LOp.fgt rfl (OpF.tmp rfl) (OpF.const rfl (by kernel_rfl) (by kernel_rfl))) ?_
      refine zL (r := b ((flt .f64 (some 0) x1) == (flt .f64 (some 0) x2))) rfl rfl rfl (LOp.eqlb pun4 rfl rfl rfl) ?_
      refine zA (r := b ((flt .f64 (some 0) x1) == (flt .f64 (some 0) x2))) rfl rfl rfl rfl rfl ?_
      refine zN ?_
      refine RunC.ret ?_
      have hq := Option.some.inj h
      subst q0
      exact bodyQ.pure (.inr rfl) rfl (Res.one rfl (RV.tmp rfl))
     ·refine RunC.regionW ?_
      refine zM (r := f64 a0) rfl rfl rfl rfl rfl ?_
      refine zL (r := b true) rfl rfl rfl (LOp.eqb (LOp.feq rfl (OpF.tmp rfl) (OpF.const rfl (by kernel_rfl) (by kernel_rfl))) hc3) ?_
      refine zM (r := b true) rfl rfl rfl rfl rfl ?_
      refine zM (r := f64 a1) rfl rfl rfl rfl rfl ?_
      refine zL (r := b false) rfl rfl rfl (LOp.eqb (LOp.feq rfl (OpF.tmp rfl) (OpF.const rfl (by kernel_rfl) (by kernel_rfl))) hc4) ?_
      refine zL (r := b false) rfl rfl rfl (LOp.pick_true rfl rfl rfl) ?_
      refine zN ?_
      refine RunC.wl (τ' := [(0, f64 a0), (1, f64 a1), (26, b false)]) (Γ' := []) ⟨aR, aR, aR, trivial⟩ trivial ?_
      refine RunC.cond_false rfl rfl ?_
      refine RunC.skip ?_
      exact ⟨⟨aR, aR, trivial⟩, trivial, h⟩
    ·refine RunC.regionW ?_
     refine zM (r := f64 a0) rfl rfl rfl rfl rfl ?_
     refine zL (r := b false) rfl rfl rfl (LOp.eqb (LOp.feq rfl (OpF.tmp rfl) (OpF.const rfl (by kernel_rfl) (by kernel_rfl))) hc3) ?_
     refine zM (r := b false) rfl rfl rfl rfl rfl ?_
     refine ROps.s rfl rfl rfl ?_
     refine ROps.s rfl rfl rfl ?_
     refine zL (r := b false) rfl rfl rfl (LOp.pick_false rfl rfl rfl) ?_
     refine zN ?_
     refine RunC.wl (τ' := [(0, f64 a0), (1, f64 a1), (26, b false)]) (Γ' := []) ⟨aR, aR, aR, trivial⟩ trivial ?_
     refine RunC.cond_false rfl rfl ?_
     refine RunC.skip ?_
     exact ⟨⟨aR, aR, trivial⟩, trivial, h⟩
   ·rintro τ2 Γ2 ⟨hw2, hd2, h⟩
    refine RunC.wl hw2 hd2 ?_
    unfold w_sameFloat_k1 at h
    refine zQ ?_
    refine zM (r := f64 a0) rfl rfl rfl rfl rfl ?_
    refine zM (r := f64 a1) rfl rfl rfl rfl rfl ?_
    refine zL (r := b (feq .f64 a0 a1)) rfl rfl rfl (LOp.feq rfl (OpF.tmp rfl) (OpF.tmp rfl)) ?_
    refine zA (r := b (feq .f64 a0 a1)) rfl rfl rfl rfl rfl ?_
    refine zN ?_
    refine RunC.ret ?_
    have hq := Option.some.inj h
    subst q0
    exact bodyQ.pure (.inr rfl) rfl (Res.one rfl (RV.tmp rfl))
noncomputable def w_eqFloat32S_b1 (a0 : List F) (a1 : List F) (v1 : Int) : Option (LR (Int) (Unit) (Bool)) :=
 bsel (decide (v1 < (a0.length : Int))) (
  obind (at? a0 v1) fun (e2 : F) =>
  olet (fwiden e2) fun (x3 : F) =>
  obind (at? a1 v1) fun (e4 : F) =>
  olet (fwiden e4) fun (x5 : F) =>
  obind (w_sameFloat x3 x5) fun (r6 : Bool) =>
  bsel r6 (
   olet (IntKind.i64.wrap (v1 + 1)) fun (x7 : Int) =>
   some (LR.next x7)) (
   some (LR.ret false))) (
  some (LR.out ()))
noncomputable def w_eqFloat32S_s1 (a0 : List F) (a1 : List F) : (Int) → Option (LR (Int) (Unit) (Bool)) := fun s => w_eqFloat32S_b1 a0 a1 s
noncomputable def w_eqFloat32S_k1  : Option (Bool) :=
 some true
noncomputable def w_eqFloat32S (a0 : List F) (a1 : List F) : Option (Bool) :=
 bsel (!decide ((a0.length : Int) = (a1.length : Int))) (
  some false) (
  obind (loopM (w_eqFloat32S_s1 a0 a1) 0) fun z => osum z (fun _ => w_eqFloat32S_k1) (fun r => some r))
theorem w_eqFloat32S_ok (a0 : List F) (a1 : List F) (q0 : Bool) (h : w_eqFloat32S a0 a1 = some q0) : Ev Try.prog 12 [sl a0.length (a0.map f32), sl a1.length (a1.map f32)] [] (b q0) [] := by
 refine Ev.start Try.func12 rfl rfl 0 (τ := [(0, sl a0.length (a0.map f32)), (1, sl a1.length (a1.map f32))]) rfl (Γ' := []) rfl (n := 59) rfl (g := 0) rfl (fun _ => rfl) ?_
 unfold w_eqFloat32S at h
 refine zQ ?_
 refine zA (r := b false) rfl rfl rfl rfl rfl ?_
 refine zN ?_
 refine RunC.seq ?_
 refine RunC.seq ?_
 rcases bsel_some h with ⟨hc1, h⟩ | ⟨hc1, h⟩
 ·refine RunC.regionW ?_
  refine zM (r := sl a0.length (a0.map f32)) rfl rfl rfl rfl rfl ?_
  refine zL (r := i64 (a0.length : Int)) rfl rfl rfl (LOp.len_sl und23 rfl rfl) ?_
  refine zM (r := sl a1.length (a1.map f32)) rfl rfl rfl rfl rfl ?_
  refine zL (r := i64 (a1.length : Int)) rfl rfl rfl (LOp.len_sl und23 rfl rfl) ?_
  refine zL (r := b true) rfl rfl rfl (LOp.eqb (LOp.neq rfl rfl rfl) hc1) ?_
  refine zN ?_
  refine RunC.cond_true rfl rfl ?_
  refine zQ ?_
  refine zA (r := b false) rfl rfl rfl rfl rfl ?_
  refine zN ?_
  refine RunC.ret ?_
  have hq := Option.some.inj h
  subst q0
  exact bodyQ.pure (.inr rfl) rfl (Res.one rfl (RV.tmp rfl))
 ·refine RunC.regionW ?_
  refine zM (r := sl a0.length (a0.map f32)) rfl rfl rfl rfl rfl ?_
  refine zL (r := i64 (a0.length : Int)) rfl rfl rfl (LOp.len_sl und23 rfl rfl) ?_
  refine zM (r := sl a1.length (a1.map f32)) rfl rfl rfl rfl rfl ?_
  refine zL (r := i64 (a1.length : Int)) rfl rfl rfl (LOp.len_sl und23 rfl rfl) ?_
  refine zL (r := b false) rfl rfl rfl (LOp.eqb (LOp.neq rfl rfl rfl) hc1) ?_
  refine zN ?_
  refine RunC.cond_false rfl rfl ?_
  refine RunC.skip ?_
  refine RunC.seq ?_
  refine zQ ?_
  refine zA (r := i64 0) rfl rfl rfl rfl rfl ?_
  refine zN ?_
  obtain ⟨z2, hz_2, h⟩ := obind_some h
  refine RunC.cutN (fun τ Γ => WeakLe τ [] ∧ DeadLe Γ [] ∧ z2 = .inl ()) ?_ ?_
  ·refine RunC.block (RunC.loop (RunL.loopM (x := z2) (w_eqFloat32S_s1 a0 a1) (fun (s : Int) τ Γ => WeakLe τ [(0, sl a0.length (a0.map f32)), (1, sl a1.length (a1.map f32)), (5, i64 s)] ∧ DeadLe Γ []) ?_ _ _ _ hz_2 ⟨⟨aR, aR, aR, trivial⟩, trivial⟩))
   rintro v1 τ2 Γ2 y2_ ⟨hw2, hd2⟩ h2_ ho2 hr2
   refine RunC.wl (τ' := [(0, sl a0.length (a0.map f32)), (1, sl a1.length (a1.map f32)), (5, i64 v1)]) (Γ' := []) hw2 hd2 ?_
   replace h2_ : w_eqFloat32S_b1 a0 a1 v1 = some y2_ := h2_
   unfold w_eqFloat32S_b1 at h2_
   refine RunC.seq ?_
   refine RunC.seq ?_
   rcases bsel_some h2_ with ⟨hc2, h2_⟩ | ⟨hc2, h2_⟩
   ·refine RunC.regionW ?_
    refine zM (r := i64 v1) rfl rfl rfl rfl rfl ?_
    refine zM (r := sl a0.length (a0.map f32)) rfl rfl rfl rfl rfl ?_
    refine zL (r := i64 (a0.length : Int)) rfl rfl rfl (LOp.len_sl und23 rfl rfl) ?_
    refine zL (r := b true) rfl rfl rfl (LOp.eqb (LOp.lss rfl rfl rfl) hc2) ?_
    refine zN ?_
    refine RunC.cond_true rfl rfl ?_
    refine RunC.skip ?_
    refine RunC.seq ?_
    refine RunC.block ?_
    refine RunC.seq ?_
    obtain ⟨e2, he3, h2_⟩ := obind_some h2_
    obtain ⟨x3, hx4, h2_⟩ := olet_some h2_
    obtain ⟨e4, he5, h2_⟩ := obind_some h2_
    obtain ⟨x5, hx6, h2_⟩ := olet_some h2_
    obtain ⟨r6, hf7, h2_⟩ := obind_some h2_
    rcases bsel_some h2_ with ⟨hc8, h2_⟩ | ⟨hc8, h2_⟩
    ·refine RunC.region_draw (Γ' := []) 12 mixed 
      (TR.l (r := sl a0.length (a0.map f32)) rfl rfl (LOp.move rfl rfl) <|
      (TR.l (r := i64 v1) rfl rfl (LOp.move rfl rfl) <|
      (TR.l (r := ptr [f32 e2]) rfl rfl (LOp.le (LOp.ix (f := f32) und23 siz26 rfl rfl rfl rfl he3) ALe.ptr) <|
      (TR.l (r := f32 e2) rfl rfl (LOp.load1 agg26 rfl rfl) <|
      (TR.d (r := f64 x3) (fs := []) rfl rfl (TOp.eqr (TOp.widen (src := 26) (dst := 62) ⟨_, pun26⟩ pun62 rfl (OpF.tmp rfl)) (congrArg (f .f64) hx4)) <|
      (TR.l (r := sl a1.length (a1.map f32)) rfl rfl (LOp.move rfl rfl) <|
      (TR.l (r := i64 v1) rfl rfl (LOp.move rfl rfl) <|
      (TR.l (r := ptr [f32 e4]) rfl rfl (LOp.le (LOp.ix (f := f32) und23 siz26 rfl rfl rfl rfl he5) ALe.ptr) <|
      (TR.l (r := f32 e4) rfl rfl (LOp.load1 agg26 rfl rfl) <|
      (TR.d (r := f64 x5) (fs := []) rfl rfl (TOp.eqr (TOp.widen (src := 26) (dst := 62) ⟨_, pun26⟩ pun62 rfl (OpF.tmp rfl)) (congrArg (f .f64) hx6)) <|
      (TR.d (r := b true) (fs := []) rfl rfl (TOp.eqb (TOp.callB (CallAs.func ent38 rfl rfl) (Bors.cons (Bor.pure rfl) (Bors.cons (Bor.pure rfl) Bors.nil)) rfl rfl (w_sameFloat_ok x3 x5 r6 hf7)) hc8) <|
      (TR.l (r := b false) rfl rfl (LOp.eqb (LOp.not rfl rfl) rfl) <|
      TR.nil)))))))))))) rfl (by kernel_rfl) rfl fills_nil rfl ?_
     iterate 12 refine ROps.dropS ?_
     refine ROps.drop0 ?_
     refine zN ?_
     refine RunC.wl (τ' := [(0, sl a0.length (a0.map f32)), (1, sl a1.length (a1.map f32)), (5, i64 v1), (28, b false)]) (Γ' := []) ⟨aR, aR, aR, aR, trivial⟩ trivial ?_
     refine RunC.cond_false rfl rfl ?_
     refine RunC.skip ?_
     obtain ⟨x7, hx9, h2_⟩ := olet_some h2_
     refine RunC.regionW ?_
     refine zM (r := i64 v1) rfl rfl rfl rfl rfl ?_
     refine zL (r := i64 x7) rfl rfl rfl (LOp.eqr (LOp.add rfl rfl rfl) (congrArg (ik .i64) hx9)) ?_
     refine zA (r := i64 x7) rfl rfl rfl rfl rfl ?_
     refine zN ?_
     cases Option.some.inj h2_
     exact ⟨_, rfl, ⟨aR, aR, aR, trivial⟩, trivial⟩
    ·refine RunC.region_draw (Γ' := []) 12 mixed 
      (TR.l (r := sl a0.length (a0.map f32)) rfl rfl (LOp.move rfl rfl) <|
      (TR.l (r := i64 v1) rfl rfl (LOp.move rfl rfl) <|
      (TR.l (r := ptr [f32 e2]) rfl rfl (LOp.le (LOp.ix (f := f32) und23 siz26 rfl rfl rfl rfl he3) ALe.ptr) <|
      (TR.l (r := f32 e2) rfl rfl (LOp.load1 agg26 rfl rfl) <|
      (TR.d (r := f64 x3) (fs := []) rfl rfl (TOp.eqr (TOp.widen (src := 26) (dst := 62) ⟨_, pun26⟩ pun62 rfl (OpF.tmp rfl)) (congrArg (f .f64) hx4)) <|
      (TR.l (r := sl a1.length (a1.map f32)) rfl rfl (LOp.move rfl rfl) <|
      (TR.l (r := i64 v1) rfl rfl (LOp.move rfl rfl) <|
      (TR.l (r := ptr [f32 e4]) rfl rfl (LOp.le (LOp.ix (f := f32) und23 siz26 rfl rfl rfl rfl he5) ALe.ptr) <|
      (TR.l (r := f32 e4) rfl rfl (LOp.load1 agg26 rfl rfl) <|
      (TR.d (r := f64 x5) (fs := []) rfl rfl (TOp.eqr (TOp.widen (src := 26) (dst := 62) ⟨_, pun26⟩ pun62 rfl (OpF.tmp rfl)) (congrArg (f .f64) hx6)) <|
      (TR.d (r := b false) (fs := []) rfl rfl (TOp.eqb (TOp.callB (CallAs.func ent38 rfl rfl) (Bors.cons (Bor.pure rfl) (Bors.cons (Bor.pure rfl) Bors.nil)) rfl rfl (w_sameFloat_ok x3 x5 r6 hf7)) hc8) <|
      (TR.l (r := b true) rfl rfl (LOp.eqb (LOp.not rfl rfl) rfl) <|
      TR.nil)))))))))))) rfl (by kernel_rfl) rfl fills_nil rfl ?_
     iterate 12 refine ROps.dropS ?_
     refine ROps.drop0 ?_
     refine zN ?_
     refine RunC.wl (τ' := [(0, sl a0.length (a0.map f32)), (1, sl a1.length (a1.map f32)), (5, i64 v1), (28, b true)]) (Γ' := []) ⟨aR, aR, aR, aR, trivial⟩ trivial ?_
     refine RunC.cond_true rfl rfl ?_
     refine zQ ?_
     refine zA (r := b false) rfl rfl rfl rfl rfl ?_
     refine zN ?_
     refine RunC.ret ?_
     cases Option.some.inj h2_
     have hx3_ := hr2 _ rfl
     subst hx3_
     have hq := Option.some.inj h
     subst q0
     exact bodyQ.pure (.inr rfl) rfl (Res.one rfl (RV.tmp rfl))
   ·refine RunC.regionW ?_
    refine zM (r := i64 v1) rfl rfl rfl rfl rfl ?_
    refine zM (r := sl a0.length (a0.map f32)) rfl rfl rfl rfl rfl ?_
    refine zL (r := i64 (a0.length : Int)) rfl rfl rfl (LOp.len_sl und23 rfl rfl) ?_
    refine zL (r := b false) rfl rfl rfl (LOp.eqb (LOp.lss rfl rfl rfl) hc2) ?_
    refine zN ?_
    refine RunC.cond_false rfl rfl ?_
    refine RunC.exit ?_
    cases Option.some.inj h2_
    have hx := ho2 _ rfl
    exact ⟨trivial, trivial, hx⟩
  ·rintro τ4 Γ4 ⟨hw4, hd4, rfl⟩
   refine RunC.wl hw4 hd4 ?_
   replace h : w_eqFloat32S_k1 = some q0 := h
   unfold w_eqFloat32S_k1 at h
   refine zQ ?_
   refine zA (r := b true) rfl rfl rfl rfl rfl ?_
   refine zN ?_
   refine RunC.ret ?_
   have hq := Option.some.inj h
   subst q0
   exact bodyQ.pure (.inr rfl) rfl (Res.one rfl (RV.tmp rfl))
noncomputable def w_eqMatrix (a0 : Int) (a1 : Int) (a2 : List F) (a3 : Int) (a4 : Int) (a5 : List F) : Option (Bool) :=
 bsel (!decide (a0 = a3)) (
  some false) (
  bsel (!decide (a1 = a4)) (
   some false) (
   obind (w_eqFloat32S a2 a5) fun (r1 : Bool) =>
   bsel r1 (
    some true) (
    some false)))
theorem w_eqMatrix_ok (a0 : Int) (a1 : Int) (a2 : List F) (a3 : Int) (a4 : Int) (a5 : List F) (q0 : Bool) (h : w_eqMatrix a0 a1 a2 a3 a4 a5 = some q0) : Ev Try.prog 23 [agg [i64 a0, i64 a1, sl a2.length (a2.map f32)], agg [i64 a3, i64 a4, sl a5.length (a5.map f32)]] [] (b q0) [] := by
 refine Ev.start Try.func23 rfl rfl 0 (τ := [(0, agg [i64 a0, i64 a1, sl a2.length (a2.map f32)]), (1, agg [i64 a3, i64 a4, sl a5.length (a5.map f32)])]) rfl (Γ' := []) rfl (n := 43) rfl (g := 0) rfl (fun _ => rfl) ?_
 unfold w_eqMatrix at h
 refine zQ ?_
 refine ROps.d (r := ptr [i64 a0, i64 a1, sl a2.length (a2.map f32)]) (fs := []) (Γ' := []) rfl rfl rfl (TOp.box_s rfl rfl rfl) rfl ?_
 refine ROps.d (r := ptr [i64 a3, i64 a4, sl a5.length (a5.map f32)]) (fs := []) (Γ' := []) rfl rfl rfl (TOp.box_s rfl rfl rfl) rfl ?_
 refine zA (r := b false) rfl rfl rfl rfl rfl ?_
 refine zN ?_
 refine RunC.seq ?_
 refine RunC.seq ?_
 rcases bsel_some h with ⟨hc1, h⟩ | ⟨hc1, h⟩
 ·refine RunC.regionW ?_
  refine zL (r := ptr [i64 a0, i64 a1, sl a2.length (a2.map f32)]) rfl rfl rfl (LOp.fap und45 rfl siz2 rfl rfl rfl) ?_
  refine zL (r := i64 a0) rfl rfl rfl (LOp.load1 agg2 rfl rfl) ?_
  refine zL (r := ptr [i64 a3, i64 a4, sl a5.length (a5.map f32)]) rfl rfl rfl (LOp.fap und45 rfl siz2 rfl rfl rfl) ?_
  refine zL (r := i64 a3) rfl rfl rfl (LOp.load1 agg2 rfl rfl) ?_
  refine zL (r := b true) rfl rfl rfl (LOp.eqb (LOp.neq rfl rfl rfl) hc1) ?_
  refine zN ?_
  refine RunC.cond_true rfl rfl ?_
  refine zQ ?_
  refine zA (r := b false) rfl rfl rfl rfl rfl ?_
  refine zN ?_
  refine RunC.ret ?_
  have hq := Option.some.inj h
  subst q0
  exact bodyQ.pure (.inr rfl) rfl (Res.one rfl (RV.tmp rfl))
 ·refine RunC.regionW ?_
  refine zL (r := ptr [i64 a0, i64 a1, sl a2.length (a2.map f32)]) rfl rfl rfl (LOp.fap und45 rfl siz2 rfl rfl rfl) ?_
  refine zL (r := i64 a0) rfl rfl rfl (LOp.load1 agg2 rfl rfl) ?_
  refine zL (r := ptr [i64 a3, i64 a4, sl a5.length (a5.map f32)]) rfl rfl rfl (LOp.fap und45 rfl siz2 rfl rfl rfl) ?_
  refine zL (r := i64 a3) rfl rfl rfl (LOp.load1 agg2 rfl rfl) ?_
  refine zL (r := b false) rfl rfl rfl (LOp.eqb (LOp.neq rfl rfl rfl) hc1) ?_
  refine zN ?_
  refine RunC.cond_false rfl rfl ?_
  refine RunC.skip ?_
  refine RunC.seq ?_
  refine RunC.seq ?_
  rcases bsel_some h with ⟨hc2, h⟩ | ⟨hc2, h⟩
  ·refine RunC.regionW ?_
   refine zL (r := ptr [i64 a1, sl a2.length (a2.map f32)]) rfl rfl rfl (LOp.fap und45 rfl siz2 rfl rfl rfl) ?_
   refine zL (r := i64 a1) rfl rfl rfl (LOp.load1 agg2 rfl rfl) ?_
   refine zL (r := ptr [i64 a4, sl a5.length (a5.map f32)]) rfl rfl rfl (LOp.fap und45 rfl siz2 rfl rfl rfl) ?_
   refine zL (r := i64 a4) rfl rfl rfl (LOp.load1 agg2 rfl rfl) ?_
   refine zL (r := b true) rfl rfl rfl (LOp.eqb (LOp.neq rfl rfl rfl) hc2) ?_
   refine zN ?_
   refine RunC.cond_true rfl rfl ?_
   refine zQ ?_
   refine zA (r := b false) rfl rfl rfl rfl rfl ?_
   refine zN ?_
   refine RunC.ret ?_
   have hq := Option.some.inj h
   subst q0
   exact bodyQ.pure (.inr rfl) rfl (Res.one rfl (RV.tmp rfl))
  ·refine RunC.regionW ?_
   refine zL (r := ptr [i64 a1, sl a2.length (a2.map f32)]) rfl rfl rfl (LOp.fap und45 rfl siz2 rfl rfl rfl) ?_
   refine zL (r := i64 a1) rfl rfl rfl (LOp.load1 agg2 rfl rfl) ?_
   refine zL (r := ptr [i64 a4, sl a5.length (a5.map f32)]) rfl rfl rfl (LOp.fap und45 rfl siz2 rfl rfl rfl) ?_
   refine zL (r := i64 a4) rfl rfl rfl (LOp.load1 agg2 rfl rfl) ?_
   refine zL (r := b false) rfl rfl rfl (LOp.eqb (LOp.neq rfl rfl rfl) hc2) ?_
   refine zN ?_
   refine RunC.cond_false rfl rfl ?_
   refine RunC.skip ?_
   refine RunC.wl (τ' := [(2, ptr [i64 a0, i64 a1, sl a2.length (a2.map f32)]), (3, ptr [i64 a3, i64 a4, sl a5.length (a5.map f32)])]) (Γ' := []) ⟨aR, aR, trivial⟩ trivial ?_
   refine RunC.seq ?_
   refine RunC.seq ?_
   obtain ⟨r1, hf3, h⟩ := obind_some h
   rcases bsel_some h with ⟨hc4, h⟩ | ⟨hc4, h⟩
   ·refine RunC.regionW ?_
    refine zL (r := ptr [sl a2.length (a2.map f32)]) rfl rfl rfl (LOp.fap und45 rfl siz23 rfl rfl rfl) ?_
    refine zL (r := sl a2.length (a2.map f32)) rfl rfl rfl (LOp.load1 agg23 rfl rfl) ?_
    refine zL (r := ptr [sl a5.length (a5.map f32)]) rfl rfl rfl (LOp.fap und45 rfl siz23 rfl rfl rfl) ?_
    refine zL (r := sl a5.length (a5.map f32)) rfl rfl rfl (LOp.load1 agg23 rfl rfl) ?_
    refine ROps.d (r := b true) (fs := []) (Γ' := []) rfl rfl rfl (TOp.eqb (TOp.callB (CallAs.func ent12 rfl rfl) (Bors.cons (Bor.sl (fun _ => rfl)) (Bors.cons (Bor.sl (fun _ => rfl)) Bors.nil)) rfl rfl (w_eqFloat32S_ok a2 a5 r1 hf3)) hc4) rfl ?_
    refine zL (r := b false) rfl rfl rfl (LOp.eqb (LOp.not rfl rfl) rfl) ?_
    refine zN ?_
    refine RunC.cond_false rfl rfl ?_
    refine RunC.skip ?_
    refine zQ ?_
    refine zA (r := b true) rfl rfl rfl rfl rfl ?_
    refine zN ?_
    refine RunC.ret ?_
    have hq := Option.some.inj h
    subst q0
    exact bodyQ.pure (.inr rfl) rfl (Res.one rfl (RV.tmp rfl))
   ·refine RunC.regionW ?_
    refine zL (r := ptr [sl a2.length (a2.map f32)]) rfl rfl rfl (LOp.fap und45 rfl siz23 rfl rfl rfl) ?_
    refine zL (r := sl a2.length (a2.map f32)) rfl rfl rfl (LOp.load1 agg23 rfl rfl) ?_
    refine zL (r := ptr [sl a5.length (a5.map f32)]) rfl rfl rfl (LOp.fap und45 rfl siz23 rfl rfl rfl) ?_
    refine zL (r := sl a5.length (a5.map f32)) rfl rfl rfl (LOp.load1 agg23 rfl rfl) ?_
    refine ROps.d (r := b false) (fs := []) (Γ' := []) rfl rfl rfl (TOp.eqb (TOp.callB (CallAs.func ent12 rfl rfl) (Bors.cons (Bor.sl (fun _ => rfl)) (Bors.cons (Bor.sl (fun _ => rfl)) Bors.nil)) rfl rfl (w_eqFloat32S_ok a2 a5 r1 hf3)) hc4) rfl ?_
    refine zL (r := b true) rfl rfl rfl (LOp.eqb (LOp.not rfl rfl) rfl) ?_
    refine zN ?_
    refine RunC.cond_true rfl rfl ?_
    refine zQ ?_
    refine zA (r := b false) rfl rfl rfl rfl rfl ?_
    refine zN ?_
    refine RunC.ret ?_
    have hq := Option.some.inj h
    subst q0
    exact bodyQ.pure (.inr rfl) rfl (Res.one rfl (RV.tmp rfl))
noncomputable def w_markFloat32S_0o_b1 (a1 : List F) (L1 : List F) (v3 : Int) (v4 : Int) : Option (LR ((List F) × Int × Int) ((List F) × Int) (Int × (List F))) :=
 bsel (decide (v4 < ((a1.length : Nat) : Int))) (
  olet (fint .f32 v3) fun (x5 : F) =>
  obind (setAt? L1 v4 x5) fun (L6 : List F) =>
  olet (IntKind.i64.wrap (v3 + 1)) fun (x7 : Int) =>
  olet (IntKind.i64.wrap (v4 + 1)) fun (x8 : Int) =>
  some (LR.next (L6, x7, x8))) (
  some (LR.out (L1, v3)))
noncomputable def w_markFloat32S_0o_s1 (a1 : List F) : ((List F) × Int × Int) → Option (LR ((List F) × Int × Int) ((List F) × Int) (Int × (List F))) := fun s => w_markFloat32S_0o_b1 a1 s.1 s.2.1 s.2.2
noncomputable def w_markFloat32S_0o_k1 (L9 : List F) (v11 : Int) : Option (Int × (List F)) :=
 some (v11, L9)
noncomputable def w_markFloat32S_0o (a0 : Int) (a1 : List F) : Option (Int × (List F)) :=
 obind (loopM (w_markFloat32S_0o_s1 a1) (a1, a0, 0)) fun z => osum z (fun e => w_markFloat32S_0o_k1 e.1 e.2) (fun r => some r)
theorem w_markFloat32S_0o_ok (a0 : Int) (a1 : List F) (q0 : Int) (q1 : List F) (h : w_markFloat32S_0o a0 a1 = some (q0, q1)) : Ev Try.prog 15 [oref 0 0 0 a1.length, i64 a0] [⟨0, some (a1.map f32)⟩] (i64 q0) [⟨0, some (q1.map f32)⟩] := by
 refine Ev.start Try.func15 rfl rfl 0 (τ := [(0, oref 0 0 0 a1.length), (1, i64 a0)]) rfl (Γ' := [⟨0, some (a1.map f32)⟩]) rfl (n := 40) rfl (g := 1) rfl (by decide) ?_
 unfold w_markFloat32S_0o at h
 refine zQ ?_
 refine zA (r := i64 0) rfl rfl rfl rfl rfl ?_
 refine zN ?_
 refine RunC.seq ?_
 refine zQ ?_
 refine zA (r := i64 0) rfl rfl rfl rfl rfl ?_
 refine zN ?_
 obtain ⟨z2, hz_2, h⟩ := obind_some h
 refine RunC.cutN (fun τ Γ => ∃ (L9 : List F) (v11 : Int), L9.length = a1.length ∧ WeakLe τ [(1, i64 v11)] ∧ DeadLe Γ [⟨0, some (L9.map f32)⟩] ∧ z2 = .inl (L9, v11)) ?_ ?_
 ·refine RunC.block (RunC.loop (RunL.loopM (x := z2) (w_markFloat32S_0o_s1 a1) (fun (s : (List F) × Int × Int) τ Γ => s.1.length = a1.length ∧ WeakLe τ [(0, oref 0 0 0 a1.length), (1, i64 s.2.1), (5, i64 s.2.2)] ∧ DeadLe Γ [⟨0, some (s.1.map f32)⟩]) ?_ _ _ _ hz_2 ⟨rfl, ⟨aR, aR, aR, trivial⟩, ⟨⟨rfl, .inr rfl⟩, trivial⟩⟩))
  rintro ⟨L1, v3, v4⟩ τ2 Γ2 y2_ ⟨hl2, hw2, hd2⟩ h2_ ho2 hr2
  refine RunC.wl (τ' := [(0, oref 0 0 0 a1.length), (1, i64 v3), (5, i64 v4)]) (Γ' := [⟨0, some (L1.map f32)⟩]) hw2 hd2 ?_
  replace hl2 : L1.length = a1.length := hl2
  replace h2_ : w_markFloat32S_0o_b1 a1 L1 v3 v4 = some y2_ := h2_
  unfold w_markFloat32S_0o_b1 at h2_
  refine RunC.seq ?_
  refine RunC.seq ?_
  rcases bsel_some h2_ with ⟨hc1, h2_⟩ | ⟨hc1, h2_⟩
  ·refine RunC.regionW ?_
   refine zM (r := i64 v4) rfl rfl rfl rfl rfl ?_
   refine zM (r := oref 0 0 0 a1.length) rfl rfl rfl rfl rfl ?_
   refine zL (r := i64 ((a1.length : Nat) : Int)) rfl rfl rfl (LOp.len_oref und23 rfl rfl) ?_
   refine zL (r := b true) rfl rfl rfl (LOp.eqb (LOp.lss rfl rfl rfl) hc1) ?_
   refine zN ?_
   refine RunC.cond_true rfl rfl ?_
   refine RunC.skip ?_
   refine RunC.seq ?_
   refine RunC.block ?_
   refine RunC.seq ?_
   obtain ⟨x5, hx2, h2_⟩ := olet_some h2_
   obtain ⟨L6, he3, h2_⟩ := obind_some h2_
   refine RunC.regionW ?_
   refine zM (r := oref 0 0 0 a1.length) rfl rfl rfl rfl rfl ?_
   refine zM (r := i64 v4) rfl rfl rfl rfl rfl ?_
   refine zM (r := i64 v3) rfl rfl rfl rfl rfl ?_
   refine zL (r := f32 x5) rfl rfl rfl (LOp.eqr (LOp.i2f (src := 3) (dst := 26) ⟨_, pun3⟩ pun26 rfl rfl) (congrArg (f .f32) hx2)) ?_
   refine ROps.d (r := optr 0 0 v4.toNat) (fs := []) (Γ' := [⟨0, some (L1.map f32)⟩]) rfl rfl rfl (TOp.ixo und23 siz26 rfl rfl rfl (set_in he3 hl2) rfl) rfl ?_
   refine ROps.st (f := f32) (i := v4) (Γ' := [⟨0, some (L6.map f32)⟩]) rfl siz26 rfl rfl rfl aR rfl rfl rfl he3 rfl ?_
   refine zN ?_
   obtain ⟨x7, hx4, h2_⟩ := olet_some h2_
   refine RunC.regionW ?_
   refine zM (r := i64 v3) rfl rfl rfl rfl rfl ?_
   refine zL (r := i64 x7) rfl rfl rfl (LOp.eqr (LOp.add rfl rfl rfl) (congrArg (ik .i64) hx4)) ?_
   refine zA (r := i64 x7) rfl rfl rfl rfl rfl ?_
   refine zN ?_
   obtain ⟨x8, hx5, h2_⟩ := olet_some h2_
   refine RunC.regionW ?_
   refine zM (r := i64 v4) rfl rfl rfl rfl rfl ?_
   refine zL (r := i64 x8) rfl rfl rfl (LOp.eqr (LOp.add rfl rfl rfl) (congrArg (ik .i64) hx5)) ?_
   refine zA (r := i64 x8) rfl rfl rfl rfl rfl ?_
   refine zN ?_
   cases Option.some.inj h2_
   exact ⟨_, rfl, ((setAt?_len he3).trans hl2), ⟨aR, aR, aR, trivial⟩, ⟨⟨rfl, .inr rfl⟩, trivial⟩⟩
  ·refine RunC.regionW ?_
   refine zM (r := i64 v4) rfl rfl rfl rfl rfl ?_
   refine zM (r := oref 0 0 0 a1.length) rfl rfl rfl rfl rfl ?_
   refine zL (r := i64 ((a1.length : Nat) : Int)) rfl rfl rfl (LOp.len_oref und23 rfl rfl) ?_
   refine zL (r := b false) rfl rfl rfl (LOp.eqb (LOp.lss rfl rfl rfl) hc1) ?_
   refine zN ?_
   refine RunC.cond_false rfl rfl ?_
   refine RunC.exit ?_
   cases Option.some.inj h2_
   have hx := ho2 _ rfl
   exact ⟨L1, v3, hl2, ⟨aR, trivial⟩, ⟨⟨rfl, .inr rfl⟩, trivial⟩, hx⟩
 ·rintro τ3 Γ3 ⟨L9, v11, hl10, hw3, hd3, rfl⟩
  refine RunC.wl hw3 hd3 ?_
  replace h : w_markFloat32S_0o_k1 L9 v11 = some (q0, q1) := h
  unfold w_markFloat32S_0o_k1 at h
  refine zQ ?_
  refine zM (r := i64 v11) rfl rfl rfl rfl rfl ?_
  refine zA (r := i64 v11) rfl rfl rfl rfl rfl ?_
  refine zN ?_
  refine RunC.ret ?_
  have hq := Option.some.inj h
  obtain ⟨hq0, hq⟩ := Prod.mk.inj hq
  subst q0
  subst q1
  exact bodyQ.mk (r' := i64 v11) [(0, 0)] (.inr rfl) rfl (show List.Nodup [0] from by decide) rfl rfl (Res.one rfl (RV.tmp rfl)) (SelL.arr (f := f32) (fun _ => rfl) rfl trivial)
noncomputable def w_markMatrix_02o (a0 : Int) (a1 : Int) (a2 : Int) (a3 : List F) : Option (Int × (List F)) :=
 obind2 (w_markFloat32S_0o a2 a3) fun (r1 : Int) (r2 : List F) =>
 need (decide (r2.length = a3.length)) <|
 some (r1, r2)
theorem w_markMatrix_02o_ok (a0 : Int) (a1 : Int) (a2 : Int) (a3 : List F) (q0 : Int) (q1 : List F) (h : w_markMatrix_02o a0 a1 a2 a3 = some (q0, q1)) : Ev Try.prog 24 [agg [i64 a0, i64 a1, oref 0 0 0 a3.length], i64 a2] [⟨0, some (a3.map f32)⟩] (i64 q0) [⟨0, some (q1.map f32)⟩] := by
 refine Ev.start Try.func24 rfl rfl 0 (τ := [(0, agg [i64 a0, i64 a1, oref 0 0 0 a3.length]), (1, i64 a2)]) rfl (Γ' := [⟨0, some (a3.map f32)⟩]) rfl (n := 20) rfl (g := 1) rfl (by decide) ?_
 unfold w_markMatrix_02o at h
 refine zQ ?_
 refine ROps.d (r := ptr [i64 a0, i64 a1, oref 0 0 0 a3.length]) (fs := []) (Γ' := [⟨0, some (a3.map f32)⟩]) rfl rfl rfl (TOp.box_s rfl rfl rfl) rfl ?_
 refine zA (r := i64 0) rfl rfl rfl rfl rfl ?_
 refine zN ?_
 refine RunC.seq ?_
 obtain ⟨r1, r2, hf1, h⟩ := obind2_some h
 obtain ⟨hn2, h⟩ := need_some h
 refine RunC.regionW ?_
 refine zL (r := ptr [oref 0 0 0 a3.length]) rfl rfl rfl (LOp.fap und45 rfl siz23 rfl rfl rfl) ?_
 refine zL (r := oref 0 0 0 a3.length) rfl rfl rfl (LOp.load1 agg23 rfl rfl) ?_
 refine zM (r := i64 a2) rfl rfl rfl rfl rfl ?_
 refine ROps.callO (A := [oref 0 0 0 a3.length, i64 a2]) (args := [oref 0 0 0 a3.length, i64 a2]) (Γc := [⟨0, some (a3.map f32)⟩]) (Γc' := [⟨0, some (r2.map f32)⟩]) (r' := i64 r1) (Γ' := [⟨0, some (r2.map f32)⟩]) [(0, 0)] [] rfl (CallAs.func ent15 rfl rfl) rfl rfl (SelOk.of (show List.Nodup [0] from by decide) (SelL.arr0 (f := f32) (fun _ => rfl) rfl trivial)) (live_of ⟨⟨_, _, rfl⟩, trivial⟩) (by simp [ren, rens, sigma, rens_f32, rens_f64, rens_i64, rens_ik, rens_str, rens_cp]) rfl (w_markFloat32S_0o_ok a2 a3 r1 r2 hf1) rfl (news_of trivial) (show List.Nodup [0] from by decide) (by simp [ren, rens, sigma, of_decide_eq_true hn2]) (by simp [backOb, sigma, ren, rens, rens_f32, rens_f64, rens_i64, rens_ik, rens_str, rens_cp]) ?_
 refine zA (r := i64 r1) rfl rfl rfl rfl rfl ?_
 refine zN ?_
 refine zQ ?_
 refine zM (r := i64 r1) rfl rfl rfl rfl rfl ?_
 refine zA (r := i64 r1) rfl rfl rfl rfl rfl ?_
 refine zN ?_
 refine RunC.ret ?_
 have hq := Option.some.inj h
 obtain ⟨hq0, hq⟩ := Prod.mk.inj hq
 subst q0
 subst q1
 exact bodyQ.mk (r' := i64 r1) [(0, 0)] (.inr rfl) rfl (show List.Nodup [0] from by decide) rfl rfl (Res.one rfl (RV.tmp rfl)) (SelL.arr (f := f32) (fun _ => rfl) rfl trivial)
noncomputable def w_heldFloat32S_b1 (a0 : List F) (v1 : Int) (v2 : Int) : Option (LR (Int × Int) (Int) (Int)) :=
 bsel (decide (v2 < (a0.length : Int))) (
  obind (at? a0 v2) fun (e3 : F) =>
  olet (fint .f32 v1) fun (x4 : F) =>
  bsel (!feq .f32 e3 x4) (
   some (LR.ret (-1))) (
   olet (IntKind.i64.wrap (v1 + 1)) fun (x5 : Int) =>
   olet (IntKind.i64.wrap (v2 + 1)) fun (x6 : Int) =>
   some (LR.next (x5, x6)))) (
  some (LR.out v1))
noncomputable def w_heldFloat32S_s1 (a0 : List F) : (Int × Int) → Option (LR (Int × Int) (Int) (Int)) := fun s => w_heldFloat32S_b1 a0 s.1 s.2
noncomputable def w_heldFloat32S_k1 (v7 : Int) : Option (Int) :=
 some v7
noncomputable def w_heldFloat32S (a0 : List F) (a1 : Int) : Option (Int) :=
 obind (loopM (w_heldFloat32S_s1 a0) (a1, 0)) fun z => osum z (fun e => w_heldFloat32S_k1 e) (fun r => some r)
theorem w_heldFloat32S_ok (a0 : List F) (a1 : Int) (q0 : Int) (h : w_heldFloat32S a0 a1 = some q0) : Ev Try.prog 16 [sl a0.length (a0.map f32), i64 a1] [] (i64 q0) [] := by
 refine Ev.start Try.func16 rfl rfl 0 (τ := [(0, sl a0.length (a0.map f32)), (1, i64 a1)]) rfl (Γ' := []) rfl (n := 45) rfl (g := 0) rfl (fun _ => rfl) ?_
 unfold w_heldFloat32S at h
 refine zQ ?_
 refine zA (r := i64 0) rfl rfl rfl rfl rfl ?_
 refine zN ?_
 refine RunC.seq ?_
 refine zQ ?_
 refine zA (r := i64 0) rfl rfl rfl rfl rfl ?_
 refine zN ?_
 obtain ⟨z2, hz_2, h⟩ := obind_some h
 refine RunC.cutN (fun τ Γ => ∃ (v7 : Int), WeakLe τ [(1, i64 v7)] ∧ DeadLe Γ [] ∧ z2 = .inl v7) ?_ ?_
 ·refine RunC.block (RunC.loop (RunL.loopM (x := z2) (w_heldFloat32S_s1 a0) (fun (s : Int × Int) τ Γ => WeakLe τ [(0, sl a0.length (a0.map f32)), (1, i64 s.1), (5, i64 s.2)] ∧ DeadLe Γ []) ?_ _ _ _ hz_2 ⟨⟨aR, aR, aR, trivial⟩, trivial⟩))
  rintro ⟨v1, v2⟩ τ2 Γ2 y2_ ⟨hw2, hd2⟩ h2_ ho2 hr2
  refine RunC.wl (τ' := [(0, sl a0.length (a0.map f32)), (1, i64 v1), (5, i64 v2)]) (Γ' := []) hw2 hd2 ?_
  replace h2_ : w_heldFloat32S_b1 a0 v1 v2 = some y2_ := h2_
  unfold w_heldFloat32S_b1 at h2_
  refine RunC.seq ?_
  refine RunC.seq ?_
  rcases bsel_some h2_ with ⟨hc1, h2_⟩ | ⟨hc1, h2_⟩
  ·refine RunC.regionW ?_
   refine zM (r := i64 v2) rfl rfl rfl rfl rfl ?_
   refine zM (r := sl a0.length (a0.map f32)) rfl rfl rfl rfl rfl ?_
   refine zL (r := i64 (a0.length : Int)) rfl rfl rfl (LOp.len_sl und23 rfl rfl) ?_
   refine zL (r := b true) rfl rfl rfl (LOp.eqb (LOp.lss rfl rfl rfl) hc1) ?_
   refine zN ?_
   refine RunC.cond_true rfl rfl ?_
   refine RunC.skip ?_
   refine RunC.seq ?_
   refine RunC.block ?_
   refine RunC.seq ?_
   refine RunC.seq ?_
   obtain ⟨e3, he2, h2_⟩ := obind_some h2_
   obtain ⟨x4, hx3, h2_⟩ := olet_some h2_
   rcases bsel_some h2_ with ⟨hc4, h2_⟩ | ⟨hc4, h2_⟩
   ·refine RunC.regionW ?_
    refine zM (r := sl a0.length (a0.map f32)) rfl rfl rfl rfl rfl ?_
    refine zM (r := i64 v2) rfl rfl rfl rfl rfl ?_
    refine zL (r := ptr [f32 e3]) rfl rfl rfl (LOp.le (LOp.ix (f := f32) und23 siz26 rfl rfl rfl rfl he2) ALe.ptr) ?_
    refine zL (r := f32 e3) rfl rfl rfl (LOp.load1 agg26 rfl rfl) ?_
    refine zM (r := i64 v1) rfl rfl rfl rfl rfl ?_
    refine zL (r := f32 x4) rfl rfl rfl (LOp.eqr (LOp.i2f (src := 3) (dst := 26) ⟨_, pun3⟩ pun26 rfl rfl) (congrArg (f .f32) hx3)) ?_
    refine zL (r := b true) rfl rfl rfl (LOp.eqb (LOp.fne rfl (OpF.tmp rfl) (OpF.tmp rfl)) hc4) ?_
    refine zN ?_
    refine RunC.cond_true rfl rfl ?_
    refine zQ ?_
    refine zA (r := i64 (-1)) rfl rfl rfl rfl rfl ?_
    refine zN ?_
    refine RunC.ret ?_
    cases Option.some.inj h2_
    have hx3_ := hr2 _ rfl
    subst hx3_
    have hq := Option.some.inj h
    subst q0
    exact bodyQ.pure (.inr rfl) rfl (Res.one rfl (RV.tmp rfl))
   ·refine RunC.regionW ?_
    refine zM (r := sl a0.length (a0.map f32)) rfl rfl rfl rfl rfl ?_
    refine zM (r := i64 v2) rfl rfl rfl rfl rfl ?_
    refine zL (r := ptr [f32 e3]) rfl rfl rfl (LOp.le (LOp.ix (f := f32) und23 siz26 rfl rfl rfl rfl he2) ALe.ptr) ?_
    refine zL (r := f32 e3) rfl rfl rfl (LOp.load1 agg26 rfl rfl) ?_
    refine zM (r := i64 v1) rfl rfl rfl rfl rfl ?_
    refine zL (r := f32 x4) rfl rfl rfl (LOp.eqr (LOp.i2f (src := 3) (dst := 26) ⟨_, pun3⟩ pun26 rfl rfl) (congrArg (f .f32) hx3)) ?_
    refine zL (r := b false) rfl rfl rfl (LOp.eqb (LOp.fne rfl (OpF.tmp rfl) (OpF.tmp rfl)) hc4) ?_
    refine zN ?_
    refine RunC.cond_false rfl rfl ?_
    refine RunC.skip ?_
    obtain ⟨x5, hx5, h2_⟩ := olet_some h2_
    refine RunC.regionW ?_
    refine zM (r := i64 v1) rfl rfl rfl rfl rfl ?_
    refine zL (r := i64 x5) rfl rfl rfl (LOp.eqr (LOp.add rfl rfl rfl) (congrArg (ik .i64) hx5)) ?_
    refine zA (r := i64 x5) rfl rfl rfl rfl rfl ?_
    refine zN ?_
    refine RunC.wl (τ' := [(0, sl a0.length (a0.map f32)), (1, i64 x5), (5, i64 v2)]) (Γ' := []) ⟨aR, aR, aR, trivial⟩ trivial ?_
    obtain ⟨x6, hx6, h2_⟩ := olet_some h2_
    refine RunC.regionW ?_
    refine zM (r := i64 v2) rfl rfl rfl rfl rfl ?_
    refine zL (r := i64 x6) rfl rfl rfl (LOp.eqr (LOp.add rfl rfl rfl) (congrArg (ik .i64) hx6)) ?_
    refine zA (r := i64 x6) rfl rfl rfl rfl rfl ?_
    refine zN ?_
    cases Option.some.inj h2_
    exact ⟨_, rfl, ⟨aR, aR, aR, trivial⟩, trivial⟩
  ·refine RunC.regionW ?_
   refine zM (r := i64 v2) rfl rfl rfl rfl rfl ?_
   refine zM (r := sl a0.length (a0.map f32)) rfl rfl rfl rfl rfl ?_
   refine zL (r := i64 (a0.length : Int)) rfl rfl rfl (LOp.len_sl und23 rfl rfl) ?_
   refine zL (r := b false) rfl rfl rfl (LOp.eqb (LOp.lss rfl rfl rfl) hc1) ?_
   refine zN ?_
   refine RunC.cond_false rfl rfl ?_
   refine RunC.exit ?_
   cases Option.some.inj h2_
   have hx := ho2 _ rfl
   exact ⟨v1, ⟨aR, trivial⟩, trivial, hx⟩
 ·rintro τ4 Γ4 ⟨v7, hw4, hd4, rfl⟩
  refine RunC.wl hw4 hd4 ?_
  replace h : w_heldFloat32S_k1 v7 = some q0 := h
  unfold w_heldFloat32S_k1 at h
  refine zQ ?_
  refine zM (r := i64 v7) rfl rfl rfl rfl rfl ?_
  refine zA (r := i64 v7) rfl rfl rfl rfl rfl ?_
  refine zN ?_
  refine RunC.ret ?_
  have hq := Option.some.inj h
  subst q0
  exact bodyQ.pure (.inr rfl) rfl (Res.one rfl (RV.tmp rfl))
noncomputable def w_heldMatrix (a0 : Int) (a1 : Int) (a2 : List F) (a3 : Int) : Option (Int) :=
 obind (w_heldFloat32S a2 a3) fun (r1 : Int) =>
 bsel (decide (r1 < 0)) (
  some (-1)) (
  some r1)
theorem w_heldMatrix_ok (a0 : Int) (a1 : Int) (a2 : List F) (a3 : Int) (q0 : Int) (h : w_heldMatrix a0 a1 a2 a3 = some q0) : Ev Try.prog 27 [agg [i64 a0, i64 a1, sl a2.length (a2.map f32)], i64 a3] [] (i64 q0) [] := by
 refine Ev.start Try.func27 rfl rfl 0 (τ := [(0, agg [i64 a0, i64 a1, sl a2.length (a2.map f32)]), (1, i64 a3)]) rfl (Γ' := []) rfl (n := 25) rfl (g := 0) rfl (fun _ => rfl) ?_
 unfold w_heldMatrix at h
 refine zQ ?_
 refine ROps.d (r := ptr [i64 a0, i64 a1, sl a2.length (a2.map f32)]) (fs := []) (Γ' := []) rfl rfl rfl (TOp.box_s rfl rfl rfl) rfl ?_
 refine zA (r := i64 0) rfl rfl rfl rfl rfl ?_
 refine zN ?_
 refine RunC.seq ?_
 obtain ⟨r1, hf1, h⟩ := obind_some h
 refine RunC.regionW ?_
 refine zL (r := ptr [sl a2.length (a2.map f32)]) rfl rfl rfl (LOp.fap und45 rfl siz23 rfl rfl rfl) ?_
 refine zL (r := sl a2.length (a2.map f32)) rfl rfl rfl (LOp.load1 agg23 rfl rfl) ?_
 refine zM (r := i64 a3) rfl rfl rfl rfl rfl ?_
 refine ROps.d (r := i64 r1) (fs := []) (Γ' := []) rfl rfl rfl (TOp.callB (CallAs.func ent16 rfl rfl) (Bors.cons (Bor.sl (fun _ => rfl)) (Bors.cons (Bor.pure rfl) Bors.nil)) rfl rfl (w_heldFloat32S_ok a2 a3 r1 hf1)) rfl ?_
 refine zA (r := i64 r1) rfl rfl rfl rfl rfl ?_
 refine zN ?_
 refine RunC.seq ?_
 refine RunC.seq ?_
 rcases bsel_some h with ⟨hc2, h⟩ | ⟨hc2, h⟩
 ·refine RunC.regionW ?_
  refine zM (r := i64 r1) rfl rfl rfl rfl rfl ?_
  refine zL (r := b true) rfl rfl rfl (LOp.eqb (LOp.lss rfl rfl rfl) hc2) ?_
  refine zN ?_
  refine RunC.cond_true rfl rfl ?_
  refine zQ ?_
  refine zA (r := i64 (-1)) rfl rfl rfl rfl rfl ?_
  refine zN ?_
  refine RunC.ret ?_
  have hq := Option.some.inj h
  subst q0
  exact bodyQ.pure (.inr rfl) rfl (Res.one rfl (RV.tmp rfl))
 ·refine RunC.regionW ?_
  refine zM (r := i64 r1) rfl rfl rfl rfl rfl ?_
  refine zL (r := b false) rfl rfl rfl (LOp.eqb (LOp.lss rfl rfl rfl) hc2) ?_
  refine zN ?_
  refine RunC.cond_false rfl rfl ?_
  refine RunC.skip ?_
  refine zQ ?_
  refine zM (r := i64 r1) rfl rfl rfl rfl rfl ?_
  refine zA (r := i64 r1) rfl rfl rfl rfl rfl ?_
  refine zN ?_
  refine RunC.ret ?_
  have hq := Option.some.inj h
  subst q0
  exact bodyQ.pure (.inr rfl) rfl (Res.one rfl (RV.tmp rfl))
noncomputable def w_FnExactTurnValues (a0 : Int) (a1 : Int) (a2 : List F) (a3 : Int) : Option (Bool) :=
 obind (w_szMatrix a0 a1 a2 1048576) fun (r1 : Int) =>
 bsel (decide (r1 < 0)) (
  some true) (
  obind3 (w_toMatrix a0 a1 a2) fun (r2 : Int) (r3 : Int) (r4 : List F) =>
  obind5 (s_TurnValues r2 r3 r4 a3) fun (r5 : Int) (r6 : Int) (r7 : Bool) (r8 : List F) (r9 : List F) =>
  obind3 (w_toMatrix a0 a1 a2) fun (r10 : Int) (r11 : Int) (r12 : List F) =>
  obind5 (i_TurnValues r10 r11 r12 a3) fun (r13 : Int) (r14 : Int) (r15 : Bool) (r16 : List F) (r17 : List F) =>
  obind (w_eqFloat32S r16 r8) fun (r18 : Bool) =>
  bsel r18 (
   obind (w_eqMatrix r13 r14 r17 r5 r6 r9) fun (r19 : Bool) =>
   bsel r19 (
    bsel (!(r15 == r7)) (
     some false) (
     obind3 (w_toMatrix a0 a1 a2) fun (r20 : Int) (r21 : Int) (r22 : List F) =>
     obind (w_eqMatrix r10 r11 r12 r20 r21 r22) fun (r23 : Bool) =>
     bsel r23 (
      obind2 (w_markMatrix_02o r10 r11 1 r12) fun (r24 : Int) (r25 : List F) =>
      need (decide (r25.length = r12.length)) <|
      bsel (decide (r24 < 0)) (
       some false) (
       obind (w_eqFloat32S r16 r8) fun (r26 : Bool) =>
       bsel r26 (
        obind (w_eqMatrix r13 r14 r17 r5 r6 r9) fun (r27 : Bool) =>
        bsel r27 (
         obind2 (w_markFloat32S_0o 1 r16) fun (r28 : Int) (r29 : List F) =>
         need (decide (r29.length = r16.length)) <|
         obind2 (w_markMatrix_02o r13 r14 r28 r17) fun (r30 : Int) (r31 : List F) =>
         need (decide (r31.length = r17.length)) <|
         obind (w_heldFloat32S r29 1) fun (r32 : Int) =>
         bsel (decide (r32 < 0)) (
          some false) (
          obind (w_heldMatrix r13 r14 r31 r32) fun (r33 : Int) =>
          bsel (decide (r33 < 0)) (
           some false) (
           bsel (!decide (r33 = r30)) (
            some false) (
            obind3 (w_toMatrix a0 a1 a2) fun (r34 : Int) (r35 : Int) (r36 : List F) =>
            obind5 (i_TurnValues r34 r35 r36 a3) fun (r37 : Int) (r38 : Int) (r39 : Bool) (r40 : List F) (r41 : List F) =>
            obind (w_eqFloat32S r40 r8) fun (r42 : Bool) =>
            bsel r42 (
             obind (w_eqMatrix r37 r38 r41 r5 r6 r9) fun (r43 : Bool) =>
             bsel r43 (
              bsel (!(r39 == r7)) (
               some false) (
               obind (w_heldFloat32S r29 1) fun (r44 : Int) =>
               bsel (decide (r44 < 0)) (
                some false) (
                obind (w_heldMatrix r13 r14 r31 r44) fun (r45 : Int) =>
                bsel (decide (r45 < 0)) (
                 some false) (
                 bsel (!decide (r45 = r30)) (
                  some false) (
                  some true))))) (
              some false)) (
             some false))))) (
         some false)) (
        some false))) (
      some false))) (
    some false)) (
   some false))
theorem w_FnExactTurnValues_ok (a0 : Int) (a1 : Int) (a2 : List F) (a3 : Int) (q0 : Bool) (h : w_FnExactTurnValues a0 a1 a2 a3 = some q0) : Ev Try.prog 6 [agg [i64 a0, i64 a1, sl a2.length (a2.map f32)], i64 a3] [] (b q0) [] := by
 refine Ev.start Try.func6 rfl rfl 10 (τ := [(0, agg [i64 a0, i64 a1, sl a2.length (a2.map f32)]), (1, i64 a3)]) rfl (Γ' := [⟨0, none⟩, ⟨0, none⟩, ⟨0, none⟩, ⟨0, none⟩, ⟨0, none⟩, ⟨0, none⟩, ⟨0, none⟩, ⟨0, none⟩, ⟨0, none⟩, ⟨0, none⟩]) rfl (n := 277) rfl (g := 0) rfl (fun _ => rfl) ?_
 unfold w_FnExactTurnValues at h
 refine zQ ?_
 refine ROps.d (r := ptr [i64 a0, i64 a1, sl a2.length (a2.map f32)]) (fs := []) (Γ' := [⟨0, none⟩, ⟨0, none⟩, ⟨0, none⟩, ⟨0, none⟩, ⟨0, none⟩, ⟨0, none⟩, ⟨0, none⟩, ⟨0, none⟩, ⟨0, none⟩, ⟨0, none⟩]) rfl rfl rfl (TOp.box_s rfl rfl rfl) rfl ?_
 refine zA (r := b false) rfl rfl rfl rfl rfl ?_
 refine zN ?_
 refine zQ ?_
 refine zA (r := i64 1048576) rfl rfl rfl rfl rfl ?_
 refine zN ?_
 refine RunC.seq ?_
 obtain ⟨r1, hf1, h⟩ := obind_some h
 refine RunC.regionW ?_
 refine zL (r := agg [i64 a0, i64 a1, sl a2.length (a2.map f32)]) rfl rfl rfl (LOp.loadAgg agg41 siz41 rfl rfl rfl rfl) ?_
 refine zM (r := i64 1048576) rfl rfl rfl rfl rfl ?_
 refine ROps.d (r := i64 r1) (fs := []) (Γ' := [⟨0, none⟩, ⟨0, none⟩, ⟨0, none⟩, ⟨0, none⟩, ⟨0, none⟩, ⟨0, none⟩, ⟨0, none⟩, ⟨0, none⟩, ⟨0, none⟩, ⟨0, none⟩]) rfl rfl rfl (TOp.callB (CallAs.func ent19 rfl rfl) (Bors.cons (Bor.agg (Bors.cons (Bor.pure rfl) (Bors.cons (Bor.pure rfl) (Bors.cons (Bor.sl (fun _ => rfl)) Bors.nil)))) (Bors.cons (Bor.pure rfl) Bors.nil)) rfl rfl (w_szMatrix_ok a0 a1 a2 1048576 r1 hf1)) rfl ?_
 refine zA (r := i64 r1) rfl rfl rfl rfl rfl ?_
 refine zN ?_
 refine RunC.seq ?_
 refine RunC.seq ?_
 rcases bsel_some h with ⟨hc2, h⟩ | ⟨hc2, h⟩
 ·refine RunC.regionW ?_
  refine zM (r := i64 r1) rfl rfl rfl rfl rfl ?_
  refine zL (r := b true) rfl rfl rfl (LOp.eqb (LOp.lss rfl rfl rfl) hc2) ?_
  refine zN ?_
  refine RunC.cond_true rfl rfl ?_
  refine zQ ?_
  refine zA (r := b true) rfl rfl rfl rfl rfl ?_
  refine zN ?_
  refine RunC.ret ?_
  have hq := Option.some.inj h
  subst q0
  exact bodyQ.pure (.inr rfl) rfl (Res.one rfl (RV.tmp rfl))
 ·refine RunC.regionW ?_
  refine zM (r := i64 r1) rfl rfl rfl rfl rfl ?_
  refine zL (r := b false) rfl rfl rfl (LOp.eqb (LOp.lss rfl rfl rfl) hc2) ?_
  refine zN ?_
  refine RunC.cond_false rfl rfl ?_
  refine RunC.skip ?_
  refine RunC.seq ?_
  obtain ⟨r2, r3, r4, hf3, h⟩ := obind3_some h
  obtain ⟨r5, r6, r7, r8, r9, hf4, h⟩ := obind5_some h
  refine RunC.regionW ?_
  refine zL (r := agg [i64 a0, i64 a1, sl a2.length (a2.map f32)]) rfl rfl rfl (LOp.loadAgg agg41 siz41 rfl rfl rfl rfl) ?_
  refine ROps.d (r := agg [i64 r2, i64 r3, oref 0 1 0 r4.length]) (fs := [(0, (r4.map f32))]) (Γ' := [⟨1, some (r4.map f32)⟩, ⟨0, none⟩, ⟨0, none⟩, ⟨0, none⟩, ⟨0, none⟩, ⟨0, none⟩, ⟨0, none⟩, ⟨0, none⟩, ⟨0, none⟩, ⟨0, none⟩]) rfl rfl rfl (TOp.callBN (ls := [(r4.map f32)]) [0] (CallAs.func ent21 rfl rfl) (Bors.cons (Bor.agg (Bors.cons (Bor.pure rfl) (Bors.cons (Bor.pure rfl) (Bors.cons (Bor.sl (fun _ => rfl)) Bors.nil)))) Bors.nil) rfl (w_toMatrix_ok a0 a1 a2 r2 r3 r4 hf3) (and_all (lts0_map (f := f32) (fun _ => rfl) _) rfl) (and_all (noss_map (f := f32) (fun _ => rfl) _) rfl) rfl (by decide) (ns_of ⟨⟨_, rfl⟩, trivial⟩)) rfl ?_
  refine zM (r := i64 a3) rfl rfl rfl rfl rfl ?_
  refine ROps.d (r := tup [oref 1 1 0 r8.length, agg [i64 r5, i64 r6, oref 2 1 0 r9.length], b r7]) (fs := [(1, (r8.map f32)), (2, (r9.map f32))]) (Γ' := [⟨1, some (r4.map f32)⟩, ⟨1, some (r8.map f32)⟩, ⟨1, some (r9.map f32)⟩, ⟨0, none⟩, ⟨0, none⟩, ⟨0, none⟩, ⟨0, none⟩, ⟨0, none⟩, ⟨0, none⟩, ⟨0, none⟩]) rfl rfl rfl (TOp.callBN (ls := [(r8.map f32), (r9.map f32)]) [1, 2] (CallAs.func ent25 rfl rfl) (Bors.cons (Bor.agg (Bors.cons (Bor.pure rfl) (Bors.cons (Bor.pure rfl) (Bors.cons (Bor.own (f := f32) (fun _ => rfl) rfl rfl) Bors.nil)))) (Bors.cons (Bor.pure rfl) Bors.nil)) rfl (s_TurnValues_ok r2 r3 r4 a3 r5 r6 r7 r8 r9 hf4) (and_all (lts0_map (f := f32) (fun _ => rfl) _) (and_all (lts0_map (f := f32) (fun _ => rfl) _) rfl)) (and_all (noss_map (f := f32) (fun _ => rfl) _) (and_all (noss_map (f := f32) (fun _ => rfl) _) rfl)) rfl (by decide) (ns_of ⟨⟨_, rfl⟩, ⟨_, rfl⟩, trivial⟩)) rfl ?_
  refine zM (r := tup [oref 1 1 0 r8.length, agg [i64 r5, i64 r6, oref 2 1 0 r9.length], b r7]) rfl rfl rfl rfl rfl ?_
  refine zL (r := oref 1 1 0 r8.length) rfl rfl rfl (LOp.extract rfl rfl rfl) ?_
  refine zL (r := agg [i64 r5, i64 r6, oref 2 1 0 r9.length]) rfl rfl rfl (LOp.extract rfl rfl rfl) ?_
  refine zL (r := b r7) rfl rfl rfl (LOp.extract rfl rfl rfl) ?_
  refine ROps.d (r := optr 3 1 0) (fs := [(3, [i64 0, i64 0, nilsl])]) (Γ' := [⟨1, some (r4.map f32)⟩, ⟨1, some (r8.map f32)⟩, ⟨1, some (r9.map f32)⟩, ⟨1, some [i64 0, i64 0, nilsl]⟩, ⟨0, none⟩, ⟨0, none⟩, ⟨0, none⟩, ⟨0, none⟩, ⟨0, none⟩, ⟨0, none⟩]) rfl rfl rfl (TOp.alloc_o (g := ⟨0, none⟩) 3 rfl zer45 zok45 rfl) rfl ?_
  refine zA (r := oref 1 1 0 r8.length) rfl rfl rfl rfl rfl ?_
  refine ROps.store_le (r := agg [i64 r5, i64 r6, oref 2 1 0 r9.length]) (l' := [i64 r5, i64 r6, oref 2 1 0 r9.length]) (Γ' := [⟨1, some (r4.map f32)⟩, ⟨1, some (r8.map f32)⟩, ⟨1, some (r9.map f32)⟩, ⟨1, some [i64 r5, i64 r6, oref 2 1 0 r9.length]⟩, ⟨0, none⟩, ⟨0, none⟩, ⟨0, none⟩, ⟨0, none⟩, ⟨0, none⟩, ⟨0, none⟩]) rfl siz45 rfl rfl rfl aR rfl rfl rfl rfl (Nat.le_of_ble_eq_true rfl) rfl rfl ?_
  refine zA (r := b r7) rfl rfl rfl rfl rfl ?_
  refine zN ?_
  refine RunC.wl (τ' := [(1, i64 a3), (2, ptr [i64 a0, i64 a1, sl a2.length (a2.map f32)]), (6, oref 1 1 0 r8.length), (7, optr 3 1 0), (8, b r7)]) (Γ' := [⟨1, none⟩, ⟨1, some (r8.map f32)⟩, ⟨1, some (r9.map f32)⟩, ⟨1, some [i64 r5, i64 r6, oref 2 1 0 r9.length]⟩, ⟨0, none⟩, ⟨0, none⟩, ⟨0, none⟩, ⟨0, none⟩, ⟨0, none⟩, ⟨0, none⟩]) ⟨aR, aR, aR, aR, aR, trivial⟩ ⟨⟨rfl, .inl rfl⟩, ⟨rfl, .inr rfl⟩, ⟨rfl, .inr rfl⟩, ⟨rfl, .inr rfl⟩, ⟨rfl, .inr rfl⟩, ⟨rfl, .inr rfl⟩, ⟨rfl, .inr rfl⟩, ⟨rfl, .inr rfl⟩, ⟨rfl, .inr rfl⟩, ⟨rfl, .inr rfl⟩, trivial⟩ ?_
  refine RunC.seq ?_
  obtain ⟨r10, r11, r12, hf5, h⟩ := obind3_some h
  refine RunC.regionW ?_
  refine zL (r := agg [i64 a0, i64 a1, sl a2.length (a2.map f32)]) rfl rfl rfl (LOp.loadAgg agg41 siz41 rfl rfl rfl rfl) ?_
  refine ROps.d (r := agg [i64 r10, i64 r11, oref 0 2 0 r12.length]) (fs := [(0, (r12.map f32))]) (Γ' := [⟨2, some (r12.map f32)⟩, ⟨1, some (r8.map f32)⟩, ⟨1, some (r9.map f32)⟩, ⟨1, some [i64 r5, i64 r6, oref 2 1 0 r9.length]⟩, ⟨0, none⟩, ⟨0, none⟩, ⟨0, none⟩, ⟨0, none⟩, ⟨0, none⟩, ⟨0, none⟩]) rfl rfl rfl (TOp.callBN (ls := [(r12.map f32)]) [0] (CallAs.func ent21 rfl rfl) (Bors.cons (Bor.agg (Bors.cons (Bor.pure rfl) (Bors.cons (Bor.pure rfl) (Bors.cons (Bor.sl (fun _ => rfl)) Bors.nil)))) Bors.nil) rfl (w_toMatrix_ok a0 a1 a2 r10 r11 r12 hf5) (and_all (lts0_map (f := f32) (fun _ => rfl) _) rfl) (and_all (noss_map (f := f32) (fun _ => rfl) _) rfl) rfl (by decide) (ns_of ⟨⟨_, rfl⟩, trivial⟩)) rfl ?_
  refine ROps.d (r := optr 4 1 0) (fs := [(4, [i64 0, i64 0, nilsl])]) (Γ' := [⟨2, some (r12.map f32)⟩, ⟨1, some (r8.map f32)⟩, ⟨1, some (r9.map f32)⟩, ⟨1, some [i64 r5, i64 r6, oref 2 1 0 r9.length]⟩, ⟨1, some [i64 0, i64 0, nilsl]⟩, ⟨0, none⟩, ⟨0, none⟩, ⟨0, none⟩, ⟨0, none⟩, ⟨0, none⟩]) rfl rfl rfl (TOp.alloc_o (g := ⟨0, none⟩) 4 rfl zer45 zok45 rfl) rfl ?_
  refine ROps.store_le (r := agg [i64 r10, i64 r11, oref 0 2 0 r12.length]) (l' := [i64 r10, i64 r11, oref 0 2 0 r12.length]) (Γ' := [⟨2, some (r12.map f32)⟩, ⟨1, some (r8.map f32)⟩, ⟨1, some (r9.map f32)⟩, ⟨1, some [i64 r5, i64 r6, oref 2 1 0 r9.length]⟩, ⟨1, some [i64 r10, i64 r11, oref 0 2 0 r12.length]⟩, ⟨0, none⟩, ⟨0, none⟩, ⟨0, none⟩, ⟨0, none⟩, ⟨0, none⟩]) rfl siz45 rfl rfl rfl aR rfl rfl rfl rfl (Nat.le_of_ble_eq_true rfl) rfl rfl ?_
  refine zN ?_
  refine RunC.seq ?_
  obtain ⟨r13, r14, r15, r16, r17, hf6, h⟩ := obind5_some h
  refine RunC.regionW ?_
  refine ROps.d (r := agg [i64 r10, i64 r11, oref 0 2 0 r12.length]) (fs := []) (Γ' := [⟨2, some (r12.map f32)⟩, ⟨1, some (r8.map f32)⟩, ⟨1, some (r9.map f32)⟩, ⟨1, some [i64 r5, i64 r6, oref 2 1 0 r9.length]⟩, ⟨1, some [i64 r10, i64 r11, oref 0 2 0 r12.length]⟩, ⟨0, none⟩, ⟨0, none⟩, ⟨0, none⟩, ⟨0, none⟩, ⟨0, none⟩]) rfl rfl rfl (TOp.loadAgg_o rfl agg45 siz45 rfl rfl rfl rfl) rfl ?_
  refine zM (r := i64 a3) rfl rfl rfl rfl rfl ?_
  refine ROps.d (r := tup [oref 5 1 0 r16.length, agg [i64 r13, i64 r14, oref 6 1 0 r17.length], b r15]) (fs := [(5, (r16.map f32)), (6, (r17.map f32))]) (Γ' := [⟨2, some (r12.map f32)⟩, ⟨1, some (r8.map f32)⟩, ⟨1, some (r9.map f32)⟩, ⟨1, some [i64 r5, i64 r6, oref 2 1 0 r9.length]⟩, ⟨1, some [i64 r10, i64 r11, oref 0 2 0 r12.length]⟩, ⟨1, some (r16.map f32)⟩, ⟨1, some (r17.map f32)⟩, ⟨0, none⟩, ⟨0, none⟩, ⟨0, none⟩]) rfl rfl rfl (TOp.callBN (ls := [(r16.map f32), (r17.map f32)]) [5, 6] (CallAs.func ent26 rfl rfl) (Bors.cons (Bor.agg (Bors.cons (Bor.pure rfl) (Bors.cons (Bor.pure rfl) (Bors.cons (Bor.own (f := f32) (fun _ => rfl) rfl rfl) Bors.nil)))) (Bors.cons (Bor.pure rfl) Bors.nil)) rfl (i_TurnValues_ok r10 r11 r12 a3 r13 r14 r15 r16 r17 hf6) (and_all (lts0_map (f := f32) (fun _ => rfl) _) (and_all (lts0_map (f := f32) (fun _ => rfl) _) rfl)) (and_all (noss_map (f := f32) (fun _ => rfl) _) (and_all (noss_map (f := f32) (fun _ => rfl) _) rfl)) rfl (by decide) (ns_of ⟨⟨_, rfl⟩, ⟨_, rfl⟩, trivial⟩)) rfl ?_
  refine zM (r := tup [oref 5 1 0 r16.length, agg [i64 r13, i64 r14, oref 6 1 0 r17.length], b r15]) rfl rfl rfl rfl rfl ?_
  refine zL (r := oref 5 1 0 r16.length) rfl rfl rfl (LOp.extract rfl rfl rfl) ?_
  refine zL (r := agg [i64 r13, i64 r14, oref 6 1 0 r17.length]) rfl rfl rfl (LOp.extract rfl rfl rfl) ?_
  refine zL (r := b r15) rfl rfl rfl (LOp.extract rfl rfl rfl) ?_
  refine ROps.d (r := optr 7 1 0) (fs := [(7, [i64 0, i64 0, nilsl])]) (Γ' := [⟨2, some (r12.map f32)⟩, ⟨1, some (r8.map f32)⟩, ⟨1, some (r9.map f32)⟩, ⟨1, some [i64 r5, i64 r6, oref 2 1 0 r9.length]⟩, ⟨1, some [i64 r10, i64 r11, oref 0 2 0 r12.length]⟩, ⟨1, some (r16.map f32)⟩, ⟨1, some (r17.map f32)⟩, ⟨1, some [i64 0, i64 0, nilsl]⟩, ⟨0, none⟩, ⟨0, none⟩]) rfl rfl rfl (TOp.alloc_o (g := ⟨0, none⟩) 7 rfl zer45 zok45 rfl) rfl ?_
  refine zA (r := oref 5 1 0 r16.length) rfl rfl rfl rfl rfl ?_
  refine ROps.store_le (r := agg [i64 r13, i64 r14, oref 6 1 0 r17.length]) (l' := [i64 r13, i64 r14, oref 6 1 0 r17.length]) (Γ' := [⟨2, some (r12.map f32)⟩, ⟨1, some (r8.map f32)⟩, ⟨1, some (r9.map f32)⟩, ⟨1, some [i64 r5, i64 r6, oref 2 1 0 r9.length]⟩, ⟨1, some [i64 r10, i64 r11, oref 0 2 0 r12.length]⟩, ⟨1, some (r16.map f32)⟩, ⟨1, some (r17.map f32)⟩, ⟨1, some [i64 r13, i64 r14, oref 6 1 0 r17.length]⟩, ⟨0, none⟩, ⟨0, none⟩]) rfl siz45 rfl rfl rfl aR rfl rfl rfl rfl (Nat.le_of_ble_eq_true rfl) rfl rfl ?_
  refine zA (r := b r15) rfl rfl rfl rfl rfl ?_
  refine zN ?_
  refine RunC.seq ?_
  refine RunC.seq ?_
  obtain ⟨r18, hf7, h⟩ := obind_some h
  rcases bsel_some h with ⟨hc8, h⟩ | ⟨hc8, h⟩
  ·obtain ⟨r19, hf9, h⟩ := obind_some h
   rcases bsel_some h with ⟨hc10, h⟩ | ⟨hc10, h⟩
   ·rcases bsel_some h with ⟨hc11, h⟩ | ⟨hc11, h⟩
    ·refine RunC.regionW ?_
     refine zM (r := oref 5 1 0 r16.length) rfl rfl rfl rfl rfl ?_
     refine zM (r := oref 1 1 0 r8.length) rfl rfl rfl rfl rfl ?_
     refine ROps.d (r := b true) (fs := []) (Γ' := [⟨2, some (r12.map f32)⟩, ⟨1, some (r8.map f32)⟩, ⟨1, some (r9.map f32)⟩, ⟨1, some [i64 r5, i64 r6, oref 2 1 0 r9.length]⟩, ⟨1, some [i64 r10, i64 r11, oref 0 2 0 r12.length]⟩, ⟨1, some (r16.map f32)⟩, ⟨1, some (r17.map f32)⟩, ⟨1, some [i64 r13, i64 r14, oref 6 1 0 r17.length]⟩, ⟨0, none⟩, ⟨0, none⟩]) rfl rfl rfl (TOp.eqb (TOp.callB (CallAs.func ent12 rfl rfl) (Bors.cons (Bor.own (f := f32) (fun _ => rfl) rfl rfl) (Bors.cons (Bor.own (f := f32) (fun _ => rfl) rfl rfl) Bors.nil)) rfl rfl (w_eqFloat32S_ok r16 r8 r18 hf7)) hc8) rfl ?_
     refine zL (r := b false) rfl rfl rfl (LOp.eqb (LOp.not rfl rfl) rfl) ?_
     refine zM (r := b false) rfl rfl rfl rfl rfl ?_
     refine ROps.d (r := agg [i64 r13, i64 r14, oref 6 1 0 r17.length]) (fs := []) (Γ' := [⟨2, some (r12.map f32)⟩, ⟨1, some (r8.map f32)⟩, ⟨1, some (r9.map f32)⟩, ⟨1, some [i64 r5, i64 r6, oref 2 1 0 r9.length]⟩, ⟨1, some [i64 r10, i64 r11, oref 0 2 0 r12.length]⟩, ⟨1, some (r16.map f32)⟩, ⟨1, some (r17.map f32)⟩, ⟨1, some [i64 r13, i64 r14, oref 6 1 0 r17.length]⟩, ⟨0, none⟩, ⟨0, none⟩]) rfl rfl rfl (TOp.loadAgg_o rfl agg45 siz45 rfl rfl rfl rfl) rfl ?_
     refine ROps.d (r := agg [i64 r5, i64 r6, oref 2 1 0 r9.length]) (fs := []) (Γ' := [⟨2, some (r12.map f32)⟩, ⟨1, some (r8.map f32)⟩, ⟨1, some (r9.map f32)⟩, ⟨1, some [i64 r5, i64 r6, oref 2 1 0 r9.length]⟩, ⟨1, some [i64 r10, i64 r11, oref 0 2 0 r12.length]⟩, ⟨1, some (r16.map f32)⟩, ⟨1, some (r17.map f32)⟩, ⟨1, some [i64 r13, i64 r14, oref 6 1 0 r17.length]⟩, ⟨0, none⟩, ⟨0, none⟩]) rfl rfl rfl (TOp.loadAgg_o rfl agg45 siz45 rfl rfl rfl rfl) rfl ?_
     refine ROps.d (r := b true) (fs := []) (Γ' := [⟨2, some (r12.map f32)⟩, ⟨1, some (r8.map f32)⟩, ⟨1, some (r9.map f32)⟩, ⟨1, some [i64 r5, i64 r6, oref 2 1 0 r9.length]⟩, ⟨1, some [i64 r10, i64 r11, oref 0 2 0 r12.length]⟩, ⟨1, some (r16.map f32)⟩, ⟨1, some (r17.map f32)⟩, ⟨1, some [i64 r13, i64 r14, oref 6 1 0 r17.length]⟩, ⟨0, none⟩, ⟨0, none⟩]) rfl rfl rfl (TOp.eqb (TOp.callB (CallAs.func ent23 rfl rfl) (Bors.cons (Bor.agg (Bors.cons (Bor.pure rfl) (Bors.cons (Bor.pure rfl) (Bors.cons (Bor.own (f := f32) (fun _ => rfl) rfl rfl) Bors.nil)))) (Bors.cons (Bor.agg (Bors.cons (Bor.pure rfl) (Bors.cons (Bor.pure rfl) (Bors.cons (Bor.own (f := f32) (fun _ => rfl) rfl rfl) Bors.nil)))) Bors.nil)) rfl rfl (w_eqMatrix_ok r13 r14 r17 r5 r6 r9 r19 hf9)) hc10) rfl ?_
     refine zL (r := b false) rfl rfl rfl (LOp.eqb (LOp.not rfl rfl) rfl) ?_
     refine zL (r := b false) rfl rfl rfl (LOp.pick_false rfl rfl rfl) ?_
     refine zM (r := b false) rfl rfl rfl rfl rfl ?_
     refine zM (r := b r15) rfl rfl rfl rfl rfl ?_
     refine zM (r := b r7) rfl rfl rfl rfl rfl ?_
     refine zL (r := b true) rfl rfl rfl (LOp.eqb (LOp.neqb pun4 rfl rfl rfl) hc11) ?_
     refine zL (r := b true) rfl rfl rfl (LOp.pick_false rfl rfl rfl) ?_
     refine zN ?_
     refine RunC.cond_true rfl rfl ?_
     refine zQ ?_
     refine zA (r := b false) rfl rfl rfl rfl rfl ?_
     refine zN ?_
     refine RunC.ret ?_
     have hq := Option.some.inj h
     subst q0
     exact bodyQ.pure (.inr rfl) rfl (Res.one rfl (RV.tmp rfl))
    ·refine RunC.regionW ?_
     refine zM (r := oref 5 1 0 r16.length) rfl rfl rfl rfl rfl ?_
     refine zM (r := oref 1 1 0 r8.length) rfl rfl rfl rfl rfl ?_
     refine ROps.d (r := b true) (fs := []) (Γ' := [⟨2, some (r12.map f32)⟩, ⟨1, some (r8.map f32)⟩, ⟨1, some (r9.map f32)⟩, ⟨1, some [i64 r5, i64 r6, oref 2 1 0 r9.length]⟩, ⟨1, some [i64 r10, i64 r11, oref 0 2 0 r12.length]⟩, ⟨1, some (r16.map f32)⟩, ⟨1, some (r17.map f32)⟩, ⟨1, some [i64 r13, i64 r14, oref 6 1 0 r17.length]⟩, ⟨0, none⟩, ⟨0, none⟩]) rfl rfl rfl (TOp.eqb (TOp.callB (CallAs.func ent12 rfl rfl) (Bors.cons (Bor.own (f := f32) (fun _ => rfl) rfl rfl) (Bors.cons (Bor.own (f := f32) (fun _ => rfl) rfl rfl) Bors.nil)) rfl rfl (w_eqFloat32S_ok r16 r8 r18 hf7)) hc8) rfl ?_
     refine zL (r := b false) rfl rfl rfl (LOp.eqb (LOp.not rfl rfl) rfl) ?_
     refine zM (r := b false) rfl rfl rfl rfl rfl ?_
     refine ROps.d (r := agg [i64 r13, i64 r14, oref 6 1 0 r17.length]) (fs := []) (Γ' := [⟨2, some (r12.map f32)⟩, ⟨1, some (r8.map f32)⟩, ⟨1, some (r9.map f32)⟩, ⟨1, some [i64 r5, i64 r6, oref 2 1 0 r9.length]⟩, ⟨1, some [i64 r10, i64 r11, oref 0 2 0 r12.length]⟩, ⟨1, some (r16.map f32)⟩, ⟨1, some (r17.map f32)⟩, ⟨1, some [i64 r13, i64 r14, oref 6 1 0 r17.length]⟩, ⟨0, none⟩, ⟨0, none⟩]) rfl rfl rfl (TOp.loadAgg_o rfl agg45 siz45 rfl rfl rfl rfl) rfl ?_
     refine ROps.d (r := agg [i64 r5, i64 r6, oref 2 1 0 r9.length]) (fs := []) (Γ' := [⟨2, some (r12.map f32)⟩, ⟨1, some (r8.map f32)⟩, ⟨1, some (r9.map f32)⟩, ⟨1, some [i64 r5, i64 r6, oref 2 1 0 r9.length]⟩, ⟨1, some [i64 r10, i64 r11, oref 0 2 0 r12.length]⟩, ⟨1, some (r16.map f32)⟩, ⟨1, some (r17.map f32)⟩, ⟨1, some [i64 r13, i64 r14, oref 6 1 0 r17.length]⟩, ⟨0, none⟩, ⟨0, none⟩]) rfl rfl rfl (TOp.loadAgg_o rfl agg45 siz45 rfl rfl rfl rfl) rfl ?_
     refine ROps.d (r := b true) (fs := []) (Γ' := [⟨2, some (r12.map f32)⟩, ⟨1, some (r8.map f32)⟩, ⟨1, some (r9.map f32)⟩, ⟨1, some [i64 r5, i64 r6, oref 2 1 0 r9.length]⟩, ⟨1, some [i64 r10, i64 r11, oref 0 2 0 r12.length]⟩, ⟨1, some (r16.map f32)⟩, ⟨1, some (r17.map f32)⟩, ⟨1, some [i64 r13, i64 r14, oref 6 1 0 r17.length]⟩, ⟨0, none⟩, ⟨0, none⟩]) rfl rfl rfl (TOp.eqb (TOp.callB (CallAs.func ent23 rfl rfl) (Bors.cons (Bor.agg (Bors.cons (Bor.pure rfl) (Bors.cons (Bor.pure rfl) (Bors.cons (Bor.own (f := f32) (fun _ => rfl) rfl rfl) Bors.nil)))) (Bors.cons (Bor.agg (Bors.cons (Bor.pure rfl) (Bors.cons (Bor.pure rfl) (Bors.cons (Bor.own (f := f32) (fun _ => rfl) rfl rfl) Bors.nil)))) Bors.nil)) rfl rfl (w_eqMatrix_ok r13 r14 r17 r5 r6 r9 r19 hf9)) hc10) rfl ?_
     refine zL (r := b false) rfl rfl rfl (LOp.eqb (LOp.not rfl rfl) rfl) ?_
     refine zL (r := b false) rfl rfl rfl (LOp.pick_false rfl rfl rfl) ?_
     refine zM (r := b false) rfl rfl rfl rfl rfl ?_
     refine zM (r := b r15) rfl rfl rfl rfl rfl ?_
     refine zM (r := b r7) rfl rfl rfl rfl rfl ?_
     refine zL (r := b false) rfl rfl rfl (LOp.eqb (LOp.neqb pun4 rfl rfl rfl) hc11) ?_
     refine zL (r := b false) rfl rfl rfl (LOp.pick_false rfl rfl rfl) ?_
     refine zN ?_
     refine RunC.cond_false rfl rfl ?_
     refine RunC.skip ?_
     refine RunC.seq ?_
     refine RunC.seq ?_
     obtain ⟨r20, r21, r22, hf12, h⟩ := obind3_some h
     obtain ⟨r23, hf13, h⟩ := obind_some h
     rcases bsel_some h with ⟨hc14, h⟩ | ⟨hc14, h⟩
     ·refine RunC.region_draw (Γ' := [⟨2, some (r12.map f32)⟩, ⟨1, some (r8.map f32)⟩, ⟨1, some (r9.map f32)⟩, ⟨1, some [i64 r5, i64 r6, oref 2 1 0 r9.length]⟩, ⟨1, some [i64 r10, i64 r11, oref 0 2 0 r12.length]⟩, ⟨1, some (r16.map f32)⟩, ⟨1, some (r17.map f32)⟩, ⟨1, some [i64 r13, i64 r14, oref 6 1 0 r17.length]⟩, ⟨0, none⟩, ⟨0, none⟩]) 5 mixed 
       (TR.d (r := agg [i64 r10, i64 r11, oref 0 2 0 r12.length]) (fs := []) rfl rfl (TOp.loadAgg_o rfl agg45 siz45 rfl rfl rfl rfl) <|
       (TR.l (r := agg [i64 a0, i64 a1, sl a2.length (a2.map f32)]) rfl rfl (LOp.loadAgg agg41 siz41 rfl rfl rfl rfl) <|
       (TR.d (r := agg [i64 r20, i64 r21, sl r22.length (r22.map f32)]) (fs := []) rfl rfl (TOp.callS (CallAs.func ent21 rfl rfl) (ALes.cons aR ALes.nil) (lts_cons (lt_agg (lts_cons rfl (lts_cons rfl (lts_cons (lt_sl (fun _ => rfl)) lts_nil)))) lts_nil) (lt_agg (lts_cons rfl (lts_cons rfl (lts_cons (lt_sl (fun _ => rfl)) lts_nil)))) (w_toMatrix_ok a0 a1 a2 r20 r21 r22 hf12) (Bor.agg (Bors.cons (Bor.pure rfl) (Bors.cons (Bor.pure rfl) (Bors.cons (Bor.own (f := f32) (fun _ => rfl) rfl rfl) Bors.nil))))) <|
       (TR.d (r := b true) (fs := []) rfl rfl (TOp.eqb (TOp.callB (CallAs.func ent23 rfl rfl) (Bors.cons (Bor.agg (Bors.cons (Bor.pure rfl) (Bors.cons (Bor.pure rfl) (Bors.cons (Bor.own (f := f32) (fun _ => rfl) rfl rfl) Bors.nil)))) (Bors.cons (Bor.agg (Bors.cons (Bor.pure rfl) (Bors.cons (Bor.pure rfl) (Bors.cons (Bor.sl (fun _ => rfl)) Bors.nil)))) Bors.nil)) rfl rfl (w_eqMatrix_ok r10 r11 r12 r20 r21 r22 r23 hf13)) hc14) <|
       (TR.l (r := b false) rfl rfl (LOp.eqb (LOp.not rfl rfl) rfl) <|
       TR.nil))))) rfl (by kernel_rfl) rfl fills_nil rfl ?_
      iterate 5 refine ROps.dropS ?_
      refine ROps.drop0 ?_
      refine zN ?_
      refine RunC.cond_false rfl rfl ?_
      refine RunC.skip ?_
      refine zQ ?_
      refine zA (r := i64 1) rfl rfl rfl rfl rfl ?_
      refine zN ?_
      refine RunC.seq ?_
      obtain ⟨r24, r25, hf15, h⟩ := obind2_some h
      obtain ⟨hn16, h⟩ := need_some h
      refine RunC.regionW ?_
      refine ROps.d (r := agg [i64 r10, i64 r11, oref 0 2 0 r12.length]) (fs := []) (Γ' := [⟨2, some (r12.map f32)⟩, ⟨1, some (r8.map f32)⟩, ⟨1, some (r9.map f32)⟩, ⟨1, some [i64 r5, i64 r6, oref 2 1 0 r9.length]⟩, ⟨1, some [i64 r10, i64 r11, oref 0 2 0 r12.length]⟩, ⟨1, some (r16.map f32)⟩, ⟨1, some (r17.map f32)⟩, ⟨1, some [i64 r13, i64 r14, oref 6 1 0 r17.length]⟩, ⟨0, none⟩, ⟨0, none⟩]) rfl rfl rfl (TOp.loadAgg_o rfl agg45 siz45 rfl rfl rfl rfl) rfl ?_
      refine zM (r := i64 1) rfl rfl rfl rfl rfl ?_
      refine ROps.callO (A := [agg [i64 r10, i64 r11, oref 0 2 0 r12.length], i64 1]) (args := [agg [i64 r10, i64 r11, oref 0 0 0 r12.length], i64 1]) (Γc := [⟨0, some (r12.map f32)⟩]) (Γc' := [⟨0, some (r25.map f32)⟩]) (r' := i64 r24) (Γ' := [⟨2, some (r25.map f32)⟩, ⟨1, some (r8.map f32)⟩, ⟨1, some (r9.map f32)⟩, ⟨1, some [i64 r5, i64 r6, oref 2 1 0 r9.length]⟩, ⟨1, some [i64 r10, i64 r11, oref 0 2 0 r12.length]⟩, ⟨1, some (r16.map f32)⟩, ⟨1, some (r17.map f32)⟩, ⟨1, some [i64 r13, i64 r14, oref 6 1 0 r17.length]⟩, ⟨0, none⟩, ⟨0, none⟩]) [(0, 2)] [] rfl (CallAs.func ent24 rfl rfl) rfl rfl (SelOk.of (show List.Nodup [0] from by decide) (SelL.arr0 (f := f32) (fun _ => rfl) rfl trivial)) (live_of ⟨⟨_, _, rfl⟩, trivial⟩) (by simp [ren, rens, sigma, rens_f32, rens_f64, rens_i64, rens_ik, rens_str, rens_cp]) rfl (w_markMatrix_02o_ok r10 r11 1 r12 r24 r25 hf15) rfl (news_of trivial) (show List.Nodup [0] from by decide) (by simp [ren, rens, sigma, of_decide_eq_true hn16]) (by simp [backOb, sigma, ren, rens, rens_f32, rens_f64, rens_i64, rens_ik, rens_str, rens_cp]) ?_
      refine zA (r := i64 r24) rfl rfl rfl rfl rfl ?_
      refine zN ?_
      refine RunC.wl (τ' := [(1, i64 a3), (2, ptr [i64 a0, i64 a1, sl a2.length (a2.map f32)]), (6, oref 1 1 0 r8.length), (7, optr 3 1 0), (8, b r7), (10, oref 5 1 0 r16.length), (11, optr 7 1 0), (12, b r15), (13, i64 r24)]) (Γ' := [⟨2, none⟩, ⟨1, some (r8.map f32)⟩, ⟨1, some (r9.map f32)⟩, ⟨1, some [i64 r5, i64 r6, oref 2 1 0 r9.length]⟩, ⟨1, none⟩, ⟨1, some (r16.map f32)⟩, ⟨1, some (r17.map f32)⟩, ⟨1, some [i64 r13, i64 r14, oref 6 1 0 r17.length]⟩, ⟨0, none⟩, ⟨0, none⟩]) ⟨aR, aR, aR, aR, aR, aR, aR, aR, aR, trivial⟩ ⟨⟨rfl, .inl rfl⟩, ⟨rfl, .inr rfl⟩, ⟨rfl, .inr rfl⟩, ⟨rfl, .inr rfl⟩, ⟨rfl, .inl rfl⟩, ⟨rfl, .inr rfl⟩, ⟨rfl, .inr rfl⟩, ⟨rfl, .inr rfl⟩, ⟨rfl, .inr rfl⟩, ⟨rfl, .inr rfl⟩, trivial⟩ ?_
      refine RunC.seq ?_
      refine RunC.seq ?_
      rcases bsel_some h with ⟨hc17, h⟩ | ⟨hc17, h⟩
      ·refine RunC.regionW ?_
       refine zM (r := i64 r24) rfl rfl rfl rfl rfl ?_
       refine zL (r := b true) rfl rfl rfl (LOp.eqb (LOp.lss rfl rfl rfl) hc17) ?_
       refine zM (r := b true) rfl rfl rfl rfl rfl ?_
       refine ROps.s rfl rfl rfl ?_
       refine ROps.s rfl rfl rfl ?_
       refine ROps.s rfl rfl rfl ?_
       refine ROps.s rfl rfl rfl ?_
       refine zL (r := b true) rfl rfl rfl (LOp.pick_true rfl rfl rfl) ?_
       refine zM (r := b true) rfl rfl rfl rfl rfl ?_
       refine ROps.s rfl rfl rfl ?_
       refine ROps.s rfl rfl rfl ?_
       refine ROps.s rfl rfl rfl ?_
       refine ROps.s rfl rfl rfl ?_
       refine zL (r := b true) rfl rfl rfl (LOp.pick_true rfl rfl rfl) ?_
       refine zM (r := b true) rfl rfl rfl rfl rfl ?_
       refine ROps.s rfl rfl rfl ?_
       refine ROps.s rfl rfl rfl ?_
       refine ROps.s rfl rfl rfl ?_
       refine zL (r := b true) rfl rfl rfl (LOp.pick_true rfl rfl rfl) ?_
       refine zN ?_
       refine RunC.wl (τ' := [(1, i64 a3), (2, ptr [i64 a0, i64 a1, sl a2.length (a2.map f32)]), (6, oref 1 1 0 r8.length), (7, optr 3 1 0), (8, b r7), (10, oref 5 1 0 r16.length), (11, optr 7 1 0), (82, b true)]) (Γ' := [⟨2, none⟩, ⟨1, some (r8.map f32)⟩, ⟨1, some (r9.map f32)⟩, ⟨1, some [i64 r5, i64 r6, oref 2 1 0 r9.length]⟩, ⟨1, none⟩, ⟨1, some (r16.map f32)⟩, ⟨1, some (r17.map f32)⟩, ⟨1, some [i64 r13, i64 r14, oref 6 1 0 r17.length]⟩, ⟨0, none⟩, ⟨0, none⟩]) ⟨aR, aR, aR, aR, aR, aR, aR, aR, trivial⟩ ⟨⟨rfl, .inl rfl⟩, ⟨rfl, .inr rfl⟩, ⟨rfl, .inr rfl⟩, ⟨rfl, .inr rfl⟩, ⟨rfl, .inl rfl⟩, ⟨rfl, .inr rfl⟩, ⟨rfl, .inr rfl⟩, ⟨rfl, .inr rfl⟩, ⟨rfl, .inr rfl⟩, ⟨rfl, .inr rfl⟩, trivial⟩ ?_
       refine RunC.cond_true rfl rfl ?_
       refine zQ ?_
       refine zA (r := b false) rfl rfl rfl rfl rfl ?_
       refine zN ?_
       refine RunC.ret ?_
       have hq := Option.some.inj h
       subst q0
       exact bodyQ.pure (.inr rfl) rfl (Res.one rfl (RV.tmp rfl))
      ·obtain ⟨r26, hf18, h⟩ := obind_some h
       rcases bsel_some h with ⟨hc19, h⟩ | ⟨hc19, h⟩
       ·obtain ⟨r27, hf20, h⟩ := obind_some h
        rcases bsel_some h with ⟨hc21, h⟩ | ⟨hc21, h⟩
        ·refine RunC.regionW ?_
         refine zM (r := i64 r24) rfl rfl rfl rfl rfl ?_
         refine zL (r := b false) rfl rfl rfl (LOp.eqb (LOp.lss rfl rfl rfl) hc17) ?_
         refine zM (r := b false) rfl rfl rfl rfl rfl ?_
         refine zM (r := oref 5 1 0 r16.length) rfl rfl rfl rfl rfl ?_
         refine zM (r := oref 1 1 0 r8.length) rfl rfl rfl rfl rfl ?_
         refine ROps.d (r := b true) (fs := []) (Γ' := [⟨2, none⟩, ⟨1, some (r8.map f32)⟩, ⟨1, some (r9.map f32)⟩, ⟨1, some [i64 r5, i64 r6, oref 2 1 0 r9.length]⟩, ⟨1, none⟩, ⟨1, some (r16.map f32)⟩, ⟨1, some (r17.map f32)⟩, ⟨1, some [i64 r13, i64 r14, oref 6 1 0 r17.length]⟩, ⟨0, none⟩, ⟨0, none⟩]) rfl rfl rfl (TOp.eqb (TOp.callB (CallAs.func ent12 rfl rfl) (Bors.cons (Bor.own (f := f32) (fun _ => rfl) rfl rfl) (Bors.cons (Bor.own (f := f32) (fun _ => rfl) rfl rfl) Bors.nil)) rfl rfl (w_eqFloat32S_ok r16 r8 r26 hf18)) hc19) rfl ?_
         refine zL (r := b false) rfl rfl rfl (LOp.eqb (LOp.not rfl rfl) rfl) ?_
         refine zL (r := b false) rfl rfl rfl (LOp.pick_false rfl rfl rfl) ?_
         refine zM (r := b false) rfl rfl rfl rfl rfl ?_
         refine ROps.d (r := agg [i64 r13, i64 r14, oref 6 1 0 r17.length]) (fs := []) (Γ' := [⟨2, none⟩, ⟨1, some (r8.map f32)⟩, ⟨1, some (r9.map f32)⟩, ⟨1, some [i64 r5, i64 r6, oref 2 1 0 r9.length]⟩, ⟨1, none⟩, ⟨1, some (r16.map f32)⟩, ⟨1, some (r17.map f32)⟩, ⟨1, some [i64 r13, i64 r14, oref 6 1 0 r17.length]⟩, ⟨0, none⟩, ⟨0, none⟩]) rfl rfl rfl (TOp.loadAgg_o rfl agg45 siz45 rfl rfl rfl rfl) rfl ?_
         refine ROps.d (r := agg [i64 r5, i64 r6, oref 2 1 0 r9.length]) (fs := []) (Γ' := [⟨2, none⟩, ⟨1, some (r8.map f32)⟩, ⟨1, some (r9.map f32)⟩, ⟨1, some [i64 r5, i64 r6, oref 2 1 0 r9.length]⟩, ⟨1, none⟩, ⟨1, some (r16.map f32)⟩, ⟨1, some (r17.map f32)⟩, ⟨1, some [i64 r13, i64 r14, oref 6 1 0 r17.length]⟩, ⟨0, none⟩, ⟨0, none⟩]) rfl rfl rfl (TOp.loadAgg_o rfl agg45 siz45 rfl rfl rfl rfl) rfl ?_
         refine ROps.d (r := b true) (fs := []) (Γ' := [⟨2, none⟩, ⟨1, some (r8.map f32)⟩, ⟨1, some (r9.map f32)⟩, ⟨1, some [i64 r5, i64 r6, oref 2 1 0 r9.length]⟩, ⟨1, none⟩, ⟨1, some (r16.map f32)⟩, ⟨1, some (r17.map f32)⟩, ⟨1, some [i64 r13, i64 r14, oref 6 1 0 r17.length]⟩, ⟨0, none⟩, ⟨0, none⟩]) rfl rfl rfl (TOp.eqb (TOp.callB (CallAs.func ent23 rfl rfl) (Bors.cons (Bor.agg (Bors.cons (Bor.pure rfl) (Bors.cons (Bor.pure rfl) (Bors.cons (Bor.own (f := f32) (fun _ => rfl) rfl rfl) Bors.nil)))) (Bors.cons (Bor.agg (Bors.cons (Bor.pure rfl) (Bors.cons (Bor.pure rfl) (Bors.cons (Bor.own (f := f32) (fun _ => rfl) rfl rfl) Bors.nil)))) Bors.nil)) rfl rfl (w_eqMatrix_ok r13 r14 r17 r5 r6 r9 r27 hf20)) hc21) rfl ?_
         refine zL (r := b false) rfl rfl rfl (LOp.eqb (LOp.not rfl rfl) rfl) ?_
         refine zL (r := b false) rfl rfl rfl (LOp.pick_false rfl rfl rfl) ?_
         refine zM (r := b false) rfl rfl rfl rfl rfl ?_
         refine zM (r := b r15) rfl rfl rfl rfl rfl ?_
         refine zM (r := b r7) rfl rfl rfl rfl rfl ?_
         refine zL (r := b false) rfl rfl rfl (LOp.eqb (LOp.neqb pun4 rfl rfl rfl) hc11) ?_
         refine zL (r := b false) rfl rfl rfl (LOp.pick_false rfl rfl rfl) ?_
         refine zN ?_
         refine RunC.wl (τ' := [(1, i64 a3), (2, ptr [i64 a0, i64 a1, sl a2.length (a2.map f32)]), (6, oref 1 1 0 r8.length), (7, optr 3 1 0), (8, b r7), (10, oref 5 1 0 r16.length), (11, optr 7 1 0), (82, b false)]) (Γ' := [⟨2, none⟩, ⟨1, some (r8.map f32)⟩, ⟨1, some (r9.map f32)⟩, ⟨1, some [i64 r5, i64 r6, oref 2 1 0 r9.length]⟩, ⟨1, none⟩, ⟨1, some (r16.map f32)⟩, ⟨1, some (r17.map f32)⟩, ⟨1, some [i64 r13, i64 r14, oref 6 1 0 r17.length]⟩, ⟨0, none⟩, ⟨0, none⟩]) ⟨aR, aR, aR, aR, aR, aR, aR, aR, trivial⟩ ⟨⟨rfl, .inl rfl⟩, ⟨rfl, .inr rfl⟩, ⟨rfl, .inr rfl⟩, ⟨rfl, .inr rfl⟩, ⟨rfl, .inl rfl⟩, ⟨rfl, .inr rfl⟩, ⟨rfl, .inr rfl⟩, ⟨rfl, .inr rfl⟩, ⟨rfl, .inr rfl⟩, ⟨rfl, .inr rfl⟩, trivial⟩ ?_
         refine RunC.cond_false rfl rfl ?_
         refine RunC.skip ?_
         refine zQ ?_
         refine zA (r := i64 1) rfl rfl rfl rfl rfl ?_
         refine zN ?_
         refine RunC.seq ?_
         obtain ⟨r28, r29, hf22, h⟩ := obind2_some h
         obtain ⟨hn23, h⟩ := need_some h
         refine RunC.regionW ?_
         refine zM (r := oref 5 1 0 r16.length) rfl rfl rfl rfl rfl ?_
         refine zM (r := i64 1) rfl rfl rfl rfl rfl ?_
         refine ROps.callO (A := [oref 5 1 0 r16.length, i64 1]) (args := [oref 0 0 0 r16.length, i64 1]) (Γc := [⟨0, some (r16.map f32)⟩]) (Γc' := [⟨0, some (r29.map f32)⟩]) (r' := i64 r28) (Γ' := [⟨2, none⟩, ⟨1, some (r8.map f32)⟩, ⟨1, some (r9.map f32)⟩, ⟨1, some [i64 r5, i64 r6, oref 2 1 0 r9.length]⟩, ⟨1, none⟩, ⟨1, some (r29.map f32)⟩, ⟨1, some (r17.map f32)⟩, ⟨1, some [i64 r13, i64 r14, oref 6 1 0 r17.length]⟩, ⟨0, none⟩, ⟨0, none⟩]) [(5, 1)] [] rfl (CallAs.func ent15 rfl rfl) rfl rfl (SelOk.of (show List.Nodup [5] from by decide) (SelL.arr0 (f := f32) (fun _ => rfl) rfl trivial)) (live_of ⟨⟨_, _, rfl⟩, trivial⟩) (by simp [ren, rens, sigma, rens_f32, rens_f64, rens_i64, rens_ik, rens_str, rens_cp]) rfl (w_markFloat32S_0o_ok 1 r16 r28 r29 hf22) rfl (news_of trivial) (show List.Nodup [5] from by decide) (by simp [ren, rens, sigma, of_decide_eq_true hn23]) (by simp [backOb, sigma, ren, rens, rens_f32, rens_f64, rens_i64, rens_ik, rens_str, rens_cp]) ?_
         refine zA (r := i64 r28) rfl rfl rfl rfl rfl ?_
         refine zN ?_
         refine RunC.seq ?_
         obtain ⟨r30, r31, hf24, h⟩ := obind2_some h
         obtain ⟨hn25, h⟩ := need_some h
         refine RunC.regionW ?_
         refine ROps.d (r := agg [i64 r13, i64 r14, oref 6 1 0 r17.length]) (fs := []) (Γ' := [⟨2, none⟩, ⟨1, some (r8.map f32)⟩, ⟨1, some (r9.map f32)⟩, ⟨1, some [i64 r5, i64 r6, oref 2 1 0 r9.length]⟩, ⟨1, none⟩, ⟨1, some (r29.map f32)⟩, ⟨1, some (r17.map f32)⟩, ⟨1, some [i64 r13, i64 r14, oref 6 1 0 r17.length]⟩, ⟨0, none⟩, ⟨0, none⟩]) rfl rfl rfl (TOp.loadAgg_o rfl agg45 siz45 rfl rfl rfl rfl) rfl ?_
         refine zM (r := i64 r28) rfl rfl rfl rfl rfl ?_
         refine ROps.callO (A := [agg [i64 r13, i64 r14, oref 6 1 0 r17.length], i64 r28]) (args := [agg [i64 r13, i64 r14, oref 0 0 0 r17.length], i64 r28]) (Γc := [⟨0, some (r17.map f32)⟩]) (Γc' := [⟨0, some (r31.map f32)⟩]) (r' := i64 r30) (Γ' := [⟨2, none⟩, ⟨1, some (r8.map f32)⟩, ⟨1, some (r9.map f32)⟩, ⟨1, some [i64 r5, i64 r6, oref 2 1 0 r9.length]⟩, ⟨1, none⟩, ⟨1, some (r29.map f32)⟩, ⟨1, some (r31.map f32)⟩, ⟨1, some [i64 r13, i64 r14, oref 6 1 0 r17.length]⟩, ⟨0, none⟩, ⟨0, none⟩]) [(6, 1)] [] rfl (CallAs.func ent24 rfl rfl) rfl rfl (SelOk.of (show List.Nodup [6] from by decide) (SelL.arr0 (f := f32) (fun _ => rfl) rfl trivial)) (live_of ⟨⟨_, _, rfl⟩, trivial⟩) (by simp [ren, rens, sigma, rens_f32, rens_f64, rens_i64, rens_ik, rens_str, rens_cp]) rfl (w_markMatrix_02o_ok r13 r14 r28 r17 r30 r31 hf24) rfl (news_of trivial) (show List.Nodup [6] from by decide) (by simp [ren, rens, sigma, of_decide_eq_true hn25]) (by simp [backOb, sigma, ren, rens, rens_f32, rens_f64, rens_i64, rens_ik, rens_str, rens_cp]) ?_
         refine zA (r := i64 r30) rfl rfl rfl rfl rfl ?_
         refine zN ?_
         refine zQ ?_
         refine zA (r := i64 1) rfl rfl rfl rfl rfl ?_
         refine zN ?_
         refine RunC.seq ?_
         obtain ⟨r32, hf26, h⟩ := obind_some h
         refine RunC.regionW ?_
         refine zM (r := oref 5 1 0 r16.length) rfl rfl rfl rfl rfl ?_
         refine zM (r := i64 1) rfl rfl rfl rfl rfl ?_
         refine ROps.d (r := i64 r32) (fs := []) (Γ' := [⟨2, none⟩, ⟨1, some (r8.map f32)⟩, ⟨1, some (r9.map f32)⟩, ⟨1, some [i64 r5, i64 r6, oref 2 1 0 r9.length]⟩, ⟨1, none⟩, ⟨1, some (r29.map f32)⟩, ⟨1, some (r31.map f32)⟩, ⟨1, some [i64 r13, i64 r14, oref 6 1 0 r17.length]⟩, ⟨0, none⟩, ⟨0, none⟩]) rfl rfl rfl (TOp.callB (CallAs.func ent16 rfl rfl) (Bors.cons (Bor.own (f := f32) (fun _ => rfl) rfl (of_decide_eq_true hn23)) (Bors.cons (Bor.pure rfl) Bors.nil)) rfl rfl (w_heldFloat32S_ok r29 1 r32 hf26)) rfl ?_
         refine zA (r := i64 r32) rfl rfl rfl rfl rfl ?_
         refine zN ?_
         refine RunC.seq ?_
         refine RunC.seq ?_
         rcases bsel_some h with ⟨hc27, h⟩ | ⟨hc27, h⟩
         ·refine RunC.regionW ?_
          refine zM (r := i64 r32) rfl rfl rfl rfl rfl ?_
          refine zL (r := b true) rfl rfl rfl (LOp.eqb (LOp.lss rfl rfl rfl) hc27) ?_
          refine zN ?_
          refine RunC.cond_true rfl rfl ?_
          refine zQ ?_
          refine zA (r := b false) rfl rfl rfl rfl rfl ?_
          refine zN ?_
          refine RunC.ret ?_
          have hq := Option.some.inj h
          subst q0
          exact bodyQ.pure (.inr rfl) rfl (Res.one rfl (RV.tmp rfl))
         ·refine RunC.regionW ?_
          refine zM (r := i64 r32) rfl rfl rfl rfl rfl ?_
          refine zL (r := b false) rfl rfl rfl (LOp.eqb (LOp.lss rfl rfl rfl) hc27) ?_
          refine zN ?_
          refine RunC.cond_false rfl rfl ?_
          refine RunC.skip ?_
          refine RunC.seq ?_
          obtain ⟨r33, hf28, h⟩ := obind_some h
          refine RunC.regionW ?_
          refine ROps.d (r := agg [i64 r13, i64 r14, oref 6 1 0 r17.length]) (fs := []) (Γ' := [⟨2, none⟩, ⟨1, some (r8.map f32)⟩, ⟨1, some (r9.map f32)⟩, ⟨1, some [i64 r5, i64 r6, oref 2 1 0 r9.length]⟩, ⟨1, none⟩, ⟨1, some (r29.map f32)⟩, ⟨1, some (r31.map f32)⟩, ⟨1, some [i64 r13, i64 r14, oref 6 1 0 r17.length]⟩, ⟨0, none⟩, ⟨0, none⟩]) rfl rfl rfl (TOp.loadAgg_o rfl agg45 siz45 rfl rfl rfl rfl) rfl ?_
          refine zM (r := i64 r32) rfl rfl rfl rfl rfl ?_
          refine ROps.d (r := i64 r33) (fs := []) (Γ' := [⟨2, none⟩, ⟨1, some (r8.map f32)⟩, ⟨1, some (r9.map f32)⟩, ⟨1, some [i64 r5, i64 r6, oref 2 1 0 r9.length]⟩, ⟨1, none⟩, ⟨1, some (r29.map f32)⟩, ⟨1, some (r31.map f32)⟩, ⟨1, some [i64 r13, i64 r14, oref 6 1 0 r17.length]⟩, ⟨0, none⟩, ⟨0, none⟩]) rfl rfl rfl (TOp.callB (CallAs.func ent27 rfl rfl) (Bors.cons (Bor.agg (Bors.cons (Bor.pure rfl) (Bors.cons (Bor.pure rfl) (Bors.cons (Bor.own (f := f32) (fun _ => rfl) rfl (of_decide_eq_true hn25)) Bors.nil)))) (Bors.cons (Bor.pure rfl) Bors.nil)) rfl rfl (w_heldMatrix_ok r13 r14 r31 r32 r33 hf28)) rfl ?_
          refine zA (r := i64 r33) rfl rfl rfl rfl rfl ?_
          refine zN ?_
          refine RunC.seq ?_
          refine RunC.seq ?_
          rcases bsel_some h with ⟨hc29, h⟩ | ⟨hc29, h⟩
          ·refine RunC.regionW ?_
           refine zM (r := i64 r33) rfl rfl rfl rfl rfl ?_
           refine zL (r := b true) rfl rfl rfl (LOp.eqb (LOp.lss rfl rfl rfl) hc29) ?_
           refine zN ?_
           refine RunC.cond_true rfl rfl ?_
           refine zQ ?_
           refine zA (r := b false) rfl rfl rfl rfl rfl ?_
           refine zN ?_
           refine RunC.ret ?_
           have hq := Option.some.inj h
           subst q0
           exact bodyQ.pure (.inr rfl) rfl (Res.one rfl (RV.tmp rfl))
          ·refine RunC.regionW ?_
           refine zM (r := i64 r33) rfl rfl rfl rfl rfl ?_
           refine zL (r := b false) rfl rfl rfl (LOp.eqb (LOp.lss rfl rfl rfl) hc29) ?_
           refine zN ?_
           refine RunC.cond_false rfl rfl ?_
           refine RunC.skip ?_
           refine RunC.seq ?_
           refine RunC.seq ?_
           rcases bsel_some h with ⟨hc30, h⟩ | ⟨hc30, h⟩
           ·refine RunC.regionW ?_
            refine zM (r := i64 r33) rfl rfl rfl rfl rfl ?_
            refine zM (r := i64 r30) rfl rfl rfl rfl rfl ?_
            refine zL (r := b true) rfl rfl rfl (LOp.eqb (LOp.neq rfl rfl rfl) hc30) ?_
            refine zN ?_
            refine RunC.wl (τ' := [(1, i64 a3), (2, ptr [i64 a0, i64 a1, sl a2.length (a2.map f32)]), (6, oref 1 1 0 r8.length), (7, optr 3 1 0), (8, b r7), (10, oref 5 1 0 r16.length), (11, optr 7 1 0), (14, i64 r30), (101, b true)]) (Γ' := [⟨2, none⟩, ⟨1, some (r8.map f32)⟩, ⟨1, some (r9.map f32)⟩, ⟨1, some [i64 r5, i64 r6, oref 2 1 0 r9.length]⟩, ⟨1, none⟩, ⟨1, some (r29.map f32)⟩, ⟨1, some (r31.map f32)⟩, ⟨1, some [i64 r13, i64 r14, oref 6 1 0 r17.length]⟩, ⟨0, none⟩, ⟨0, none⟩]) ⟨aR, aR, aR, aR, aR, aR, aR, aR, aR, trivial⟩ ⟨⟨rfl, .inl rfl⟩, ⟨rfl, .inr rfl⟩, ⟨rfl, .inr rfl⟩, ⟨rfl, .inr rfl⟩, ⟨rfl, .inl rfl⟩, ⟨rfl, .inr rfl⟩, ⟨rfl, .inr rfl⟩, ⟨rfl, .inr rfl⟩, ⟨rfl, .inr rfl⟩, ⟨rfl, .inr rfl⟩, trivial⟩ ?_
            refine RunC.cond_true rfl rfl ?_
            refine zQ ?_
            refine zA (r := b false) rfl rfl rfl rfl rfl ?_
            refine zN ?_
            refine RunC.ret ?_
            have hq := Option.some.inj h
            subst q0
            exact bodyQ.pure (.inr rfl) rfl (Res.one rfl (RV.tmp rfl))
           ·refine RunC.regionW ?_
            refine zM (r := i64 r33) rfl rfl rfl rfl rfl ?_
            refine zM (r := i64 r30) rfl rfl rfl rfl rfl ?_
            refine zL (r := b false) rfl rfl rfl (LOp.eqb (LOp.neq rfl rfl rfl) hc30) ?_
            refine zN ?_
            refine RunC.wl (τ' := [(1, i64 a3), (2, ptr [i64 a0, i64 a1, sl a2.length (a2.map f32)]), (6, oref 1 1 0 r8.length), (7, optr 3 1 0), (8, b r7), (10, oref 5 1 0 r16.length), (11, optr 7 1 0), (14, i64 r30), (101, b false)]) (Γ' := [⟨2, none⟩, ⟨1, some (r8.map f32)⟩, ⟨1, some (r9.map f32)⟩, ⟨1, some [i64 r5, i64 r6, oref 2 1 0 r9.length]⟩, ⟨1, none⟩, ⟨1, some (r29.map f32)⟩, ⟨1, some (r31.map f32)⟩, ⟨1, some [i64 r13, i64 r14, oref 6 1 0 r17.length]⟩, ⟨0, none⟩, ⟨0, none⟩]) ⟨aR, aR, aR, aR, aR, aR, aR, aR, aR, trivial⟩ ⟨⟨rfl, .inl rfl⟩, ⟨rfl, .inr rfl⟩, ⟨rfl, .inr rfl⟩, ⟨rfl, .inr rfl⟩, ⟨rfl, .inl rfl⟩, ⟨rfl, .inr rfl⟩, ⟨rfl, .inr rfl⟩, ⟨rfl, .inr rfl⟩, ⟨rfl, .inr rfl⟩, ⟨rfl, .inr rfl⟩, trivial⟩ ?_
            refine RunC.cond_false rfl rfl ?_
            refine RunC.skip ?_
            refine RunC.seq ?_
            obtain ⟨r34, r35, r36, hf31, h⟩ := obind3_some h
            obtain ⟨r37, r38, r39, r40, r41, hf32, h⟩ := obind5_some h
            refine RunC.regionW ?_
            refine zL (r := agg [i64 a0, i64 a1, sl a2.length (a2.map f32)]) rfl rfl rfl (LOp.loadAgg agg41 siz41 rfl rfl rfl rfl) ?_
            refine ROps.d (r := agg [i64 r34, i64 r35, oref 0 3 0 r36.length]) (fs := [(0, (r36.map f32))]) (Γ' := [⟨3, some (r36.map f32)⟩, ⟨1, some (r8.map f32)⟩, ⟨1, some (r9.map f32)⟩, ⟨1, some [i64 r5, i64 r6, oref 2 1 0 r9.length]⟩, ⟨1, none⟩, ⟨1, some (r29.map f32)⟩, ⟨1, some (r31.map f32)⟩, ⟨1, some [i64 r13, i64 r14, oref 6 1 0 r17.length]⟩, ⟨0, none⟩, ⟨0, none⟩]) rfl rfl rfl (TOp.callBN (ls := [(r36.map f32)]) [0] (CallAs.func ent21 rfl rfl) (Bors.cons (Bor.agg (Bors.cons (Bor.pure rfl) (Bors.cons (Bor.pure rfl) (Bors.cons (Bor.sl (fun _ => rfl)) Bors.nil)))) Bors.nil) rfl (w_toMatrix_ok a0 a1 a2 r34 r35 r36 hf31) (and_all (lts0_map (f := f32) (fun _ => rfl) _) rfl) (and_all (noss_map (f := f32) (fun _ => rfl) _) rfl) rfl (by decide) (ns_of ⟨⟨_, rfl⟩, trivial⟩)) rfl ?_
            refine zM (r := i64 a3) rfl rfl rfl rfl rfl ?_
            refine ROps.d (r := tup [oref 4 2 0 r40.length, agg [i64 r37, i64 r38, oref 8 1 0 r41.length], b r39]) (fs := [(4, (r40.map f32)), (8, (r41.map f32))]) (Γ' := [⟨3, some (r36.map f32)⟩, ⟨1, some (r8.map f32)⟩, ⟨1, some (r9.map f32)⟩, ⟨1, some [i64 r5, i64 r6, oref 2 1 0 r9.length]⟩, ⟨2, some (r40.map f32)⟩, ⟨1, some (r29.map f32)⟩, ⟨1, some (r31.map f32)⟩, ⟨1, some [i64 r13, i64 r14, oref 6 1 0 r17.length]⟩, ⟨1, some (r41.map f32)⟩, ⟨0, none⟩]) rfl rfl rfl (TOp.callBN (ls := [(r40.map f32), (r41.map f32)]) [4, 8] (CallAs.func ent26 rfl rfl) (Bors.cons (Bor.agg (Bors.cons (Bor.pure rfl) (Bors.cons (Bor.pure rfl) (Bors.cons (Bor.own (f := f32) (fun _ => rfl) rfl rfl) Bors.nil)))) (Bors.cons (Bor.pure rfl) Bors.nil)) rfl (i_TurnValues_ok r34 r35 r36 a3 r37 r38 r39 r40 r41 hf32) (and_all (lts0_map (f := f32) (fun _ => rfl) _) (and_all (lts0_map (f := f32) (fun _ => rfl) _) rfl)) (and_all (noss_map (f := f32) (fun _ => rfl) _) (and_all (noss_map (f := f32) (fun _ => rfl) _) rfl)) rfl (by decide) (ns_of ⟨⟨_, rfl⟩, ⟨_, rfl⟩, trivial⟩)) rfl ?_
            refine zM (r := tup [oref 4 2 0 r40.length, agg [i64 r37, i64 r38, oref 8 1 0 r41.length], b r39]) rfl rfl rfl rfl rfl ?_
            refine zL (r := oref 4 2 0 r40.length) rfl rfl rfl (LOp.extract rfl rfl rfl) ?_
            refine zL (r := agg [i64 r37, i64 r38, oref 8 1 0 r41.length]) rfl rfl rfl (LOp.extract rfl rfl rfl) ?_
            refine zL (r := b r39) rfl rfl rfl (LOp.extract rfl rfl rfl) ?_
            refine ROps.d (r := optr 9 1 0) (fs := [(9, [i64 0, i64 0, nilsl])]) (Γ' := [⟨3, some (r36.map f32)⟩, ⟨1, some (r8.map f32)⟩, ⟨1, some (r9.map f32)⟩, ⟨1, some [i64 r5, i64 r6, oref 2 1 0 r9.length]⟩, ⟨2, some (r40.map f32)⟩, ⟨1, some (r29.map f32)⟩, ⟨1, some (r31.map f32)⟩, ⟨1, some [i64 r13, i64 r14, oref 6 1 0 r17.length]⟩, ⟨1, some (r41.map f32)⟩, ⟨1, some [i64 0, i64 0, nilsl]⟩]) rfl rfl rfl (TOp.alloc_o (g := ⟨0, none⟩) 9 rfl zer45 zok45 rfl) rfl ?_
            refine zA (r := oref 4 2 0 r40.length) rfl rfl rfl rfl rfl ?_
            refine ROps.store_le (r := agg [i64 r37, i64 r38, oref 8 1 0 r41.length]) (l' := [i64 r37, i64 r38, oref 8 1 0 r41.length]) (Γ' := [⟨3, some (r36.map f32)⟩, ⟨1, some (r8.map f32)⟩, ⟨1, some (r9.map f32)⟩, ⟨1, some [i64 r5, i64 r6, oref 2 1 0 r9.length]⟩, ⟨2, some (r40.map f32)⟩, ⟨1, some (r29.map f32)⟩, ⟨1, some (r31.map f32)⟩, ⟨1, some [i64 r13, i64 r14, oref 6 1 0 r17.length]⟩, ⟨1, some (r41.map f32)⟩, ⟨1, some [i64 r37, i64 r38, oref 8 1 0 r41.length]⟩]) rfl siz45 rfl rfl rfl aR rfl rfl rfl rfl (Nat.le_of_ble_eq_true rfl) rfl rfl ?_
            refine zA (r := b r39) rfl rfl rfl rfl rfl ?_
            refine zN ?_
            refine RunC.wl (τ' := [(6, oref 1 1 0 r8.length), (7, optr 3 1 0), (8, b r7), (10, oref 5 1 0 r16.length), (11, optr 7 1 0), (14, i64 r30), (16, oref 4 2 0 r40.length), (17, optr 9 1 0), (18, b r39)]) (Γ' := [⟨3, none⟩, ⟨1, some (r8.map f32)⟩, ⟨1, some (r9.map f32)⟩, ⟨1, some [i64 r5, i64 r6, oref 2 1 0 r9.length]⟩, ⟨2, some (r40.map f32)⟩, ⟨1, some (r29.map f32)⟩, ⟨1, some (r31.map f32)⟩, ⟨1, some [i64 r13, i64 r14, oref 6 1 0 r17.length]⟩, ⟨1, some (r41.map f32)⟩, ⟨1, some [i64 r37, i64 r38, oref 8 1 0 r41.length]⟩]) ⟨aR, aR, aR, aR, aR, aR, aR, aR, aR, trivial⟩ ⟨⟨rfl, .inl rfl⟩, ⟨rfl, .inr rfl⟩, ⟨rfl, .inr rfl⟩, ⟨rfl, .inr rfl⟩, ⟨rfl, .inr rfl⟩, ⟨rfl, .inr rfl⟩, ⟨rfl, .inr rfl⟩, ⟨rfl, .inr rfl⟩, ⟨rfl, .inr rfl⟩, ⟨rfl, .inr rfl⟩, trivial⟩ ?_
            refine RunC.seq ?_
            refine RunC.seq ?_
            obtain ⟨r42, hf33, h⟩ := obind_some h
            rcases bsel_some h with ⟨hc34, h⟩ | ⟨hc34, h⟩
            ·obtain ⟨r43, hf35, h⟩ := obind_some h
             rcases bsel_some h with ⟨hc36, h⟩ | ⟨hc36, h⟩
             ·rcases bsel_some h with ⟨hc37, h⟩ | ⟨hc37, h⟩
              ·refine RunC.regionW ?_
               refine zM (r := oref 4 2 0 r40.length) rfl rfl rfl rfl rfl ?_
               refine zM (r := oref 1 1 0 r8.length) rfl rfl rfl rfl rfl ?_
               refine ROps.d (r := b true) (fs := []) (Γ' := [⟨3, none⟩, ⟨1, some (r8.map f32)⟩, ⟨1, some (r9.map f32)⟩, ⟨1, some [i64 r5, i64 r6, oref 2 1 0 r9.length]⟩, ⟨2, some (r40.map f32)⟩, ⟨1, some (r29.map f32)⟩, ⟨1, some (r31.map f32)⟩, ⟨1, some [i64 r13, i64 r14, oref 6 1 0 r17.length]⟩, ⟨1, some (r41.map f32)⟩, ⟨1, some [i64 r37, i64 r38, oref 8 1 0 r41.length]⟩]) rfl rfl rfl (TOp.eqb (TOp.callB (CallAs.func ent12 rfl rfl) (Bors.cons (Bor.own (f := f32) (fun _ => rfl) rfl rfl) (Bors.cons (Bor.own (f := f32) (fun _ => rfl) rfl rfl) Bors.nil)) rfl rfl (w_eqFloat32S_ok r40 r8 r42 hf33)) hc34) rfl ?_
               refine zL (r := b false) rfl rfl rfl (LOp.eqb (LOp.not rfl rfl) rfl) ?_
               refine zM (r := b false) rfl rfl rfl rfl rfl ?_
               refine ROps.d (r := agg [i64 r37, i64 r38, oref 8 1 0 r41.length]) (fs := []) (Γ' := [⟨3, none⟩, ⟨1, some (r8.map f32)⟩, ⟨1, some (r9.map f32)⟩, ⟨1, some [i64 r5, i64 r6, oref 2 1 0 r9.length]⟩, ⟨2, some (r40.map f32)⟩, ⟨1, some (r29.map f32)⟩, ⟨1, some (r31.map f32)⟩, ⟨1, some [i64 r13, i64 r14, oref 6 1 0 r17.length]⟩, ⟨1, some (r41.map f32)⟩, ⟨1, some [i64 r37, i64 r38, oref 8 1 0 r41.length]⟩]) rfl rfl rfl (TOp.loadAgg_o rfl agg45 siz45 rfl rfl rfl rfl) rfl ?_
               refine ROps.d (r := agg [i64 r5, i64 r6, oref 2 1 0 r9.length]) (fs := []) (Γ' := [⟨3, none⟩, ⟨1, some (r8.map f32)⟩, ⟨1, some (r9.map f32)⟩, ⟨1, some [i64 r5, i64 r6, oref 2 1 0 r9.length]⟩, ⟨2, some (r40.map f32)⟩, ⟨1, some (r29.map f32)⟩, ⟨1, some (r31.map f32)⟩, ⟨1, some [i64 r13, i64 r14, oref 6 1 0 r17.length]⟩, ⟨1, some (r41.map f32)⟩, ⟨1, some [i64 r37, i64 r38, oref 8 1 0 r41.length]⟩]) rfl rfl rfl (TOp.loadAgg_o rfl agg45 siz45 rfl rfl rfl rfl) rfl ?_
               refine ROps.d (r := b true) (fs := []) (Γ' := [⟨3, none⟩, ⟨1, some (r8.map f32)⟩, ⟨1, some (r9.map f32)⟩, ⟨1, some [i64 r5, i64 r6, oref 2 1 0 r9.length]⟩, ⟨2, some (r40.map f32)⟩, ⟨1, some (r29.map f32)⟩, ⟨1, some (r31.map f32)⟩, ⟨1, some [i64 r13, i64 r14, oref 6 1 0 r17.length]⟩, ⟨1, some (r41.map f32)⟩, ⟨1, some [i64 r37, i64 r38, oref 8 1 0 r41.length]⟩]) rfl rfl rfl (TOp.eqb (TOp.callB (CallAs.func ent23 rfl rfl) (Bors.cons (Bor.agg (Bors.cons (Bor.pure rfl) (Bors.cons (Bor.pure rfl) (Bors.cons (Bor.own (f := f32) (fun _ => rfl) rfl rfl) Bors.nil)))) (Bors.cons (Bor.agg (Bors.cons (Bor.pure rfl) (Bors.cons (Bor.pure rfl) (Bors.cons (Bor.own (f := f32) (fun _ => rfl) rfl rfl) Bors.nil)))) Bors.nil)) rfl rfl (w_eqMatrix_ok r37 r38 r41 r5 r6 r9 r43 hf35)) hc36) rfl ?_
               refine zL (r := b false) rfl rfl rfl (LOp.eqb (LOp.not rfl rfl) rfl) ?_
               refine zL (r := b false) rfl rfl rfl (LOp.pick_false rfl rfl rfl) ?_
               refine zM (r := b false) rfl rfl rfl rfl rfl ?_
               refine zM (r := b r39) rfl rfl rfl rfl rfl ?_
               refine zM (r := b r7) rfl rfl rfl rfl rfl ?_
               refine zL (r := b true) rfl rfl rfl (LOp.eqb (LOp.neqb pun4 rfl rfl rfl) hc37) ?_
               refine zL (r := b true) rfl rfl rfl (LOp.pick_false rfl rfl rfl) ?_
               refine zN ?_
               refine RunC.wl (τ' := [(10, oref 5 1 0 r16.length), (11, optr 7 1 0), (14, i64 r30), (124, b true)]) (Γ' := [⟨3, none⟩, ⟨1, none⟩, ⟨1, none⟩, ⟨1, none⟩, ⟨2, none⟩, ⟨1, some (r29.map f32)⟩, ⟨1, some (r31.map f32)⟩, ⟨1, some [i64 r13, i64 r14, oref 6 1 0 r17.length]⟩, ⟨1, none⟩, ⟨1, none⟩]) ⟨aR, aR, aR, aR, trivial⟩ ⟨⟨rfl, .inl rfl⟩, ⟨rfl, .inl rfl⟩, ⟨rfl, .inl rfl⟩, ⟨rfl, .inl rfl⟩, ⟨rfl, .inl rfl⟩, ⟨rfl, .inr rfl⟩, ⟨rfl, .inr rfl⟩, ⟨rfl, .inr rfl⟩, ⟨rfl, .inl rfl⟩, ⟨rfl, .inl rfl⟩, trivial⟩ ?_
               refine RunC.cond_true rfl rfl ?_
               refine zQ ?_
               refine zA (r := b false) rfl rfl rfl rfl rfl ?_
               refine zN ?_
               refine RunC.ret ?_
               have hq := Option.some.inj h
               subst q0
               exact bodyQ.pure (.inr rfl) rfl (Res.one rfl (RV.tmp rfl))
              ·refine RunC.regionW ?_
               refine zM (r := oref 4 2 0 r40.length) rfl rfl rfl rfl rfl ?_
               refine zM (r := oref 1 1 0 r8.length) rfl rfl rfl rfl rfl ?_
               refine ROps.d (r := b true) (fs := []) (Γ' := [⟨3, none⟩, ⟨1, some (r8.map f32)⟩, ⟨1, some (r9.map f32)⟩, ⟨1, some [i64 r5, i64 r6, oref 2 1 0 r9.length]⟩, ⟨2, some (r40.map f32)⟩, ⟨1, some (r29.map f32)⟩, ⟨1, some (r31.map f32)⟩, ⟨1, some [i64 r13, i64 r14, oref 6 1 0 r17.length]⟩, ⟨1, some (r41.map f32)⟩, ⟨1, some [i64 r37, i64 r38, oref 8 1 0 r41.length]⟩]) rfl rfl rfl (TOp.eqb (TOp.callB (CallAs.func ent12 rfl rfl) (Bors.cons (Bor.own (f := f32) (fun _ => rfl) rfl rfl) (Bors.cons (Bor.own (f := f32) (fun _ => rfl) rfl rfl) Bors.nil)) rfl rfl (w_eqFloat32S_ok r40 r8 r42 hf33)) hc34) rfl ?_
               refine zL (r := b false) rfl rfl rfl (LOp.eqb (LOp.not rfl rfl) rfl) ?_
               refine zM (r := b false) rfl rfl rfl rfl rfl ?_
               refine ROps.d (r := agg [i64 r37, i64 r38, oref 8 1 0 r41.length]) (fs := []) (Γ' := [⟨3, none⟩, ⟨1, some (r8.map f32)⟩, ⟨1, some (r9.map f32)⟩, ⟨1, some [i64 r5, i64 r6, oref 2 1 0 r9.length]⟩, ⟨2, some (r40.map f32)⟩, ⟨1, some (r29.map f32)⟩, ⟨1, some (r31.map f32)⟩, ⟨1, some [i64 r13, i64 r14, oref 6 1 0 r17.length]⟩, ⟨1, some (r41.map f32)⟩, ⟨1, some [i64 r37, i64 r38, oref 8 1 0 r41.length]⟩]) rfl rfl rfl (TOp.loadAgg_o rfl agg45 siz45 rfl rfl rfl rfl) rfl ?_
               refine ROps.d (r := agg [i64 r5, i64 r6, oref 2 1 0 r9.length]) (fs := []) (Γ' := [⟨3, none⟩, ⟨1, some (r8.map f32)⟩, ⟨1, some (r9.map f32)⟩, ⟨1, some [i64 r5, i64 r6, oref 2 1 0 r9.length]⟩, ⟨2, some (r40.map f32)⟩, ⟨1, some (r29.map f32)⟩, ⟨1, some (r31.map f32)⟩, ⟨1, some [i64 r13, i64 r14, oref 6 1 0 r17.length]⟩, ⟨1, some (r41.map f32)⟩, ⟨1, some [i64 r37, i64 r38, oref 8 1 0 r41.length]⟩]) rfl rfl rfl (TOp.loadAgg_o rfl agg45 siz45 rfl rfl rfl rfl) rfl ?_
               refine ROps.d (r := b true) (fs := []) (Γ' := [⟨3, none⟩, ⟨1, some (r8.map f32)⟩, ⟨1, some (r9.map f32)⟩, ⟨1, some [i64 r5, i64 r6, oref 2 1 0 r9.length]⟩, ⟨2, some (r40.map f32)⟩, ⟨1, some (r29.map f32)⟩, ⟨1, some (r31.map f32)⟩, ⟨1, some [i64 r13, i64 r14, oref 6 1 0 r17.length]⟩, ⟨1, some (r41.map f32)⟩, ⟨1, some [i64 r37, i64 r38, oref 8 1 0 r41.length]⟩]) rfl rfl rfl (TOp.eqb (TOp.callB (CallAs.func ent23 rfl rfl) (Bors.cons (Bor.agg (Bors.cons (Bor.pure rfl) (Bors.cons (Bor.pure rfl) (Bors.cons (Bor.own (f := f32) (fun _ => rfl) rfl rfl) Bors.nil)))) (Bors.cons (Bor.agg (Bors.cons (Bor.pure rfl) (Bors.cons (Bor.pure rfl) (Bors.cons (Bor.own (f := f32) (fun _ => rfl) rfl rfl) Bors.nil)))) Bors.nil)) rfl rfl (w_eqMatrix_ok r37 r38 r41 r5 r6 r9 r43 hf35)) hc36) rfl ?_
               refine zL (r := b false) rfl rfl rfl (LOp.eqb (LOp.not rfl rfl) rfl) ?_
               refine zL (r := b false) rfl rfl rfl (LOp.pick_false rfl rfl rfl) ?_
               refine zM (r := b false) rfl rfl rfl rfl rfl ?_
               refine zM (r := b r39) rfl rfl rfl rfl rfl ?_
               refine zM (r := b r7) rfl rfl rfl rfl rfl ?_
               refine zL (r := b false) rfl rfl rfl (LOp.eqb (LOp.neqb pun4 rfl rfl rfl) hc37) ?_
               refine zL (r := b false) rfl rfl rfl (LOp.pick_false rfl rfl rfl) ?_
               refine zN ?_
               refine RunC.wl (τ' := [(10, oref 5 1 0 r16.length), (11, optr 7 1 0), (14, i64 r30), (124, b false)]) (Γ' := [⟨3, none⟩, ⟨1, none⟩, ⟨1, none⟩, ⟨1, none⟩, ⟨2, none⟩, ⟨1, some (r29.map f32)⟩, ⟨1, some (r31.map f32)⟩, ⟨1, some [i64 r13, i64 r14, oref 6 1 0 r17.length]⟩, ⟨1, none⟩, ⟨1, none⟩]) ⟨aR, aR, aR, aR, trivial⟩ ⟨⟨rfl, .inl rfl⟩, ⟨rfl, .inl rfl⟩, ⟨rfl, .inl rfl⟩, ⟨rfl, .inl rfl⟩, ⟨rfl, .inl rfl⟩, ⟨rfl, .inr rfl⟩, ⟨rfl, .inr rfl⟩, ⟨rfl, .inr rfl⟩, ⟨rfl, .inl rfl⟩, ⟨rfl, .inl rfl⟩, trivial⟩ ?_
               refine RunC.cond_false rfl rfl ?_
               refine RunC.skip ?_
               refine zQ ?_
               refine zA (r := i64 1) rfl rfl rfl rfl rfl ?_
               refine zN ?_
               refine RunC.seq ?_
               obtain ⟨r44, hf38, h⟩ := obind_some h
               refine RunC.regionW ?_
               refine zM (r := oref 5 1 0 r16.length) rfl rfl rfl rfl rfl ?_
               refine zM (r := i64 1) rfl rfl rfl rfl rfl ?_
               refine ROps.d (r := i64 r44) (fs := []) (Γ' := [⟨3, none⟩, ⟨1, none⟩, ⟨1, none⟩, ⟨1, none⟩, ⟨2, none⟩, ⟨1, some (r29.map f32)⟩, ⟨1, some (r31.map f32)⟩, ⟨1, some [i64 r13, i64 r14, oref 6 1 0 r17.length]⟩, ⟨1, none⟩, ⟨1, none⟩]) rfl rfl rfl (TOp.callB (CallAs.func ent16 rfl rfl) (Bors.cons (Bor.own (f := f32) (fun _ => rfl) rfl (of_decide_eq_true hn23)) (Bors.cons (Bor.pure rfl) Bors.nil)) rfl rfl (w_heldFloat32S_ok r29 1 r44 hf38)) rfl ?_
               refine zA (r := i64 r44) rfl rfl rfl rfl rfl ?_
               refine zN ?_
               refine RunC.wl (τ' := [(11, optr 7 1 0), (14, i64 r30), (15, i64 r44)]) (Γ' := [⟨3, none⟩, ⟨1, none⟩, ⟨1, none⟩, ⟨1, none⟩, ⟨2, none⟩, ⟨1, none⟩, ⟨1, some (r31.map f32)⟩, ⟨1, some [i64 r13, i64 r14, oref 6 1 0 r17.length]⟩, ⟨1, none⟩, ⟨1, none⟩]) ⟨aR, aR, aR, trivial⟩ ⟨⟨rfl, .inl rfl⟩, ⟨rfl, .inl rfl⟩, ⟨rfl, .inl rfl⟩, ⟨rfl, .inl rfl⟩, ⟨rfl, .inl rfl⟩, ⟨rfl, .inl rfl⟩, ⟨rfl, .inr rfl⟩, ⟨rfl, .inr rfl⟩, ⟨rfl, .inl rfl⟩, ⟨rfl, .inl rfl⟩, trivial⟩ ?_
               refine RunC.seq ?_
               refine RunC.seq ?_
               rcases bsel_some h with ⟨hc39, h⟩ | ⟨hc39, h⟩
               ·refine RunC.regionW ?_
                refine zM (r := i64 r44) rfl rfl rfl rfl rfl ?_
                refine zL (r := b true) rfl rfl rfl (LOp.eqb (LOp.lss rfl rfl rfl) hc39) ?_
                refine zN ?_
                refine RunC.cond_true rfl rfl ?_
                refine zQ ?_
                refine zA (r := b false) rfl rfl rfl rfl rfl ?_
                refine zN ?_
                refine RunC.ret ?_
                have hq := Option.some.inj h
                subst q0
                exact bodyQ.pure (.inr rfl) rfl (Res.one rfl (RV.tmp rfl))
               ·refine RunC.regionW ?_
                refine zM (r := i64 r44) rfl rfl rfl rfl rfl ?_
                refine zL (r := b false) rfl rfl rfl (LOp.eqb (LOp.lss rfl rfl rfl) hc39) ?_
                refine zN ?_
                refine RunC.cond_false rfl rfl ?_
                refine RunC.skip ?_
                refine RunC.seq ?_
                obtain ⟨r45, hf40, h⟩ := obind_some h
                refine RunC.regionW ?_
                refine ROps.d (r := agg [i64 r13, i64 r14, oref 6 1 0 r17.length]) (fs := []) (Γ' := [⟨3, none⟩, ⟨1, none⟩, ⟨1, none⟩, ⟨1, none⟩, ⟨2, none⟩, ⟨1, none⟩, ⟨1, some (r31.map f32)⟩, ⟨1, some [i64 r13, i64 r14, oref 6 1 0 r17.length]⟩, ⟨1, none⟩, ⟨1, none⟩]) rfl rfl rfl (TOp.loadAgg_o rfl agg45 siz45 rfl rfl rfl rfl) rfl ?_
                refine zM (r := i64 r44) rfl rfl rfl rfl rfl ?_
                refine ROps.d (r := i64 r45) (fs := []) (Γ' := [⟨3, none⟩, ⟨1, none⟩, ⟨1, none⟩, ⟨1, none⟩, ⟨2, none⟩, ⟨1, none⟩, ⟨1, some (r31.map f32)⟩, ⟨1, some [i64 r13, i64 r14, oref 6 1 0 r17.length]⟩, ⟨1, none⟩, ⟨1, none⟩]) rfl rfl rfl (TOp.callB (CallAs.func ent27 rfl rfl) (Bors.cons (Bor.agg (Bors.cons (Bor.pure rfl) (Bors.cons (Bor.pure rfl) (Bors.cons (Bor.own (f := f32) (fun _ => rfl) rfl (of_decide_eq_true hn25)) Bors.nil)))) (Bors.cons (Bor.pure rfl) Bors.nil)) rfl rfl (w_heldMatrix_ok r13 r14 r31 r44 r45 hf40)) rfl ?_
                refine zA (r := i64 r45) rfl rfl rfl rfl rfl ?_
                refine zN ?_
                refine RunC.wl (τ' := [(14, i64 r30), (15, i64 r45)]) (Γ' := [⟨3, none⟩, ⟨1, none⟩, ⟨1, none⟩, ⟨1, none⟩, ⟨2, none⟩, ⟨1, none⟩, ⟨1, none⟩, ⟨1, none⟩, ⟨1, none⟩, ⟨1, none⟩]) ⟨aR, aR, trivial⟩ ⟨⟨rfl, .inl rfl⟩, ⟨rfl, .inl rfl⟩, ⟨rfl, .inl rfl⟩, ⟨rfl, .inl rfl⟩, ⟨rfl, .inl rfl⟩, ⟨rfl, .inl rfl⟩, ⟨rfl, .inl rfl⟩, ⟨rfl, .inl rfl⟩, ⟨rfl, .inl rfl⟩, ⟨rfl, .inl rfl⟩, trivial⟩ ?_
                refine RunC.seq ?_
                refine RunC.seq ?_
                rcases bsel_some h with ⟨hc41, h⟩ | ⟨hc41, h⟩
                ·refine RunC.regionW ?_
                 refine zM (r := i64 r45) rfl rfl rfl rfl rfl ?_
                 refine zL (r := b true) rfl rfl rfl (LOp.eqb (LOp.lss rfl rfl rfl) hc41) ?_
                 refine zN ?_
                 refine RunC.cond_true rfl rfl ?_
                 refine zQ ?_
                 refine zA (r := b false) rfl rfl rfl rfl rfl ?_
                 refine zN ?_
                 refine RunC.ret ?_
                 have hq := Option.some.inj h
                 subst q0
                 exact bodyQ.pure (.inr rfl) rfl (Res.one rfl (RV.tmp rfl))
                ·refine RunC.regionW ?_
                 refine zM (r := i64 r45) rfl rfl rfl rfl rfl ?_
                 refine zL (r := b false) rfl rfl rfl (LOp.eqb (LOp.lss rfl rfl rfl) hc41) ?_
                 refine zN ?_
                 refine RunC.cond_false rfl rfl ?_
                 refine RunC.skip ?_
                 refine RunC.seq ?_
                 refine RunC.seq ?_
                 rcases bsel_some h with ⟨hc42, h⟩ | ⟨hc42, h⟩
                 ·refine RunC.regionW ?_
                  refine zM (r := i64 r45) rfl rfl rfl rfl rfl ?_
                  refine zM (r := i64 r30) rfl rfl rfl rfl rfl ?_
                  refine zL (r := b true) rfl rfl rfl (LOp.eqb (LOp.neq rfl rfl rfl) hc42) ?_
                  refine zN ?_
                  refine RunC.cond_true rfl rfl ?_
                  refine zQ ?_
                  refine zA (r := b false) rfl rfl rfl rfl rfl ?_
                  refine zN ?_
                  refine RunC.ret ?_
                  have hq := Option.some.inj h
                  subst q0
                  exact bodyQ.pure (.inr rfl) rfl (Res.one rfl (RV.tmp rfl))
                 ·refine RunC.regionW ?_
                  refine zM (r := i64 r45) rfl rfl rfl rfl rfl ?_
                  refine zM (r := i64 r30) rfl rfl rfl rfl rfl ?_
                  refine zL (r := b false) rfl rfl rfl (LOp.eqb (LOp.neq rfl rfl rfl) hc42) ?_
                  refine zN ?_
                  refine RunC.cond_false rfl rfl ?_
                  refine RunC.skip ?_
                  refine zQ ?_
                  refine zA (r := b true) rfl rfl rfl rfl rfl ?_
                  refine zN ?_
                  refine RunC.ret ?_
                  have hq := Option.some.inj h
                  subst q0
                  exact bodyQ.pure (.inr rfl) rfl (Res.one rfl (RV.tmp rfl))
             ·refine RunC.regionW ?_
              refine zM (r := oref 4 2 0 r40.length) rfl rfl rfl rfl rfl ?_
              refine zM (r := oref 1 1 0 r8.length) rfl rfl rfl rfl rfl ?_
              refine ROps.d (r := b true) (fs := []) (Γ' := [⟨3, none⟩, ⟨1, some (r8.map f32)⟩, ⟨1, some (r9.map f32)⟩, ⟨1, some [i64 r5, i64 r6, oref 2 1 0 r9.length]⟩, ⟨2, some (r40.map f32)⟩, ⟨1, some (r29.map f32)⟩, ⟨1, some (r31.map f32)⟩, ⟨1, some [i64 r13, i64 r14, oref 6 1 0 r17.length]⟩, ⟨1, some (r41.map f32)⟩, ⟨1, some [i64 r37, i64 r38, oref 8 1 0 r41.length]⟩]) rfl rfl rfl (TOp.eqb (TOp.callB (CallAs.func ent12 rfl rfl) (Bors.cons (Bor.own (f := f32) (fun _ => rfl) rfl rfl) (Bors.cons (Bor.own (f := f32) (fun _ => rfl) rfl rfl) Bors.nil)) rfl rfl (w_eqFloat32S_ok r40 r8 r42 hf33)) hc34) rfl ?_
              refine zL (r := b false) rfl rfl rfl (LOp.eqb (LOp.not rfl rfl) rfl) ?_
              refine zM (r := b false) rfl rfl rfl rfl rfl ?_
              refine ROps.d (r := agg [i64 r37, i64 r38, oref 8 1 0 r41.length]) (fs := []) (Γ' := [⟨3, none⟩, ⟨1, some (r8.map f32)⟩, ⟨1, some (r9.map f32)⟩, ⟨1, some [i64 r5, i64 r6, oref 2 1 0 r9.length]⟩, ⟨2, some (r40.map f32)⟩, ⟨1, some (r29.map f32)⟩, ⟨1, some (r31.map f32)⟩, ⟨1, some [i64 r13, i64 r14, oref 6 1 0 r17.length]⟩, ⟨1, some (r41.map f32)⟩, ⟨1, some [i64 r37, i64 r38, oref 8 1 0 r41.length]⟩]) rfl rfl rfl (TOp.loadAgg_o rfl agg45 siz45 rfl rfl rfl rfl) rfl ?_
              refine ROps.d (r := agg [i64 r5, i64 r6, oref 2 1 0 r9.length]) (fs := []) (Γ' := [⟨3, none⟩, ⟨1, some (r8.map f32)⟩, ⟨1, some (r9.map f32)⟩, ⟨1, some [i64 r5, i64 r6, oref 2 1 0 r9.length]⟩, ⟨2, some (r40.map f32)⟩, ⟨1, some (r29.map f32)⟩, ⟨1, some (r31.map f32)⟩, ⟨1, some [i64 r13, i64 r14, oref 6 1 0 r17.length]⟩, ⟨1, some (r41.map f32)⟩, ⟨1, some [i64 r37, i64 r38, oref 8 1 0 r41.length]⟩]) rfl rfl rfl (TOp.loadAgg_o rfl agg45 siz45 rfl rfl rfl rfl) rfl ?_
              refine ROps.d (r := b false) (fs := []) (Γ' := [⟨3, none⟩, ⟨1, some (r8.map f32)⟩, ⟨1, some (r9.map f32)⟩, ⟨1, some [i64 r5, i64 r6, oref 2 1 0 r9.length]⟩, ⟨2, some (r40.map f32)⟩, ⟨1, some (r29.map f32)⟩, ⟨1, some (r31.map f32)⟩, ⟨1, some [i64 r13, i64 r14, oref 6 1 0 r17.length]⟩, ⟨1, some (r41.map f32)⟩, ⟨1, some [i64 r37, i64 r38, oref 8 1 0 r41.length]⟩]) rfl rfl rfl (TOp.eqb (TOp.callB (CallAs.func ent23 rfl rfl) (Bors.cons (Bor.agg (Bors.cons (Bor.pure rfl) (Bors.cons (Bor.pure rfl) (Bors.cons (Bor.own (f := f32) (fun _ => rfl) rfl rfl) Bors.nil)))) (Bors.cons (Bor.agg (Bors.cons (Bor.pure rfl) (Bors.cons (Bor.pure rfl) (Bors.cons (Bor.own (f := f32) (fun _ => rfl) rfl rfl) Bors.nil)))) Bors.nil)) rfl rfl (w_eqMatrix_ok r37 r38 r41 r5 r6 r9 r43 hf35)) hc36) rfl ?_
              refine zL (r := b true) rfl rfl rfl (LOp.eqb (LOp.not rfl rfl) rfl) ?_
              refine zL (r := b true) rfl rfl rfl (LOp.pick_false rfl rfl rfl) ?_
              refine zM (r := b true) rfl rfl rfl rfl rfl ?_
              refine ROps.s rfl rfl rfl ?_
              refine ROps.s rfl rfl rfl ?_
              refine ROps.s rfl rfl rfl ?_
              refine zL (r := b true) rfl rfl rfl (LOp.pick_true rfl rfl rfl) ?_
              refine zN ?_
              refine RunC.wl (τ' := [(10, oref 5 1 0 r16.length), (11, optr 7 1 0), (14, i64 r30), (124, b true)]) (Γ' := [⟨3, none⟩, ⟨1, none⟩, ⟨1, none⟩, ⟨1, none⟩, ⟨2, none⟩, ⟨1, some (r29.map f32)⟩, ⟨1, some (r31.map f32)⟩, ⟨1, some [i64 r13, i64 r14, oref 6 1 0 r17.length]⟩, ⟨1, none⟩, ⟨1, none⟩]) ⟨aR, aR, aR, aR, trivial⟩ ⟨⟨rfl, .inl rfl⟩, ⟨rfl, .inl rfl⟩, ⟨rfl, .inl rfl⟩, ⟨rfl, .inl rfl⟩, ⟨rfl, .inl rfl⟩, ⟨rfl, .inr rfl⟩, ⟨rfl, .inr rfl⟩, ⟨rfl, .inr rfl⟩, ⟨rfl, .inl rfl⟩, ⟨rfl, .inl rfl⟩, trivial⟩ ?_
              refine RunC.cond_true rfl rfl ?_
              refine zQ ?_
              refine zA (r := b false) rfl rfl rfl rfl rfl ?_
              refine zN ?_
              refine RunC.ret ?_
              have hq := Option.some.inj h
              subst q0
              exact bodyQ.pure (.inr rfl) rfl (Res.one rfl (RV.tmp rfl))
            ·refine RunC.regionW ?_
             refine zM (r := oref 4 2 0 r40.length) rfl rfl rfl rfl rfl ?_
             refine zM (r := oref 1 1 0 r8.length) rfl rfl rfl rfl rfl ?_
             refine ROps.d (r := b false) (fs := []) (Γ' := [⟨3, none⟩, ⟨1, some (r8.map f32)⟩, ⟨1, some (r9.map f32)⟩, ⟨1, some [i64 r5, i64 r6, oref 2 1 0 r9.length]⟩, ⟨2, some (r40.map f32)⟩, ⟨1, some (r29.map f32)⟩, ⟨1, some (r31.map f32)⟩, ⟨1, some [i64 r13, i64 r14, oref 6 1 0 r17.length]⟩, ⟨1, some (r41.map f32)⟩, ⟨1, some [i64 r37, i64 r38, oref 8 1 0 r41.length]⟩]) rfl rfl rfl (TOp.eqb (TOp.callB (CallAs.func ent12 rfl rfl) (Bors.cons (Bor.own (f := f32) (fun _ => rfl) rfl rfl) (Bors.cons (Bor.own (f := f32) (fun _ => rfl) rfl rfl) Bors.nil)) rfl rfl (w_eqFloat32S_ok r40 r8 r42 hf33)) hc34) rfl ?_
             refine zL (r := b true) rfl rfl rfl (LOp.eqb (LOp.not rfl rfl) rfl) ?_
             refine zM (r := b true) rfl rfl rfl rfl rfl ?_
             refine ROps.s rfl rfl rfl ?_
             refine ROps.s rfl rfl rfl ?_
             refine ROps.s rfl rfl rfl ?_
             refine ROps.s rfl rfl rfl ?_
             refine zL (r := b true) rfl rfl rfl (LOp.pick_true rfl rfl rfl) ?_
             refine zM (r := b true) rfl rfl rfl rfl rfl ?_
             refine ROps.s rfl rfl rfl ?_
             refine ROps.s rfl rfl rfl ?_
             refine ROps.s rfl rfl rfl ?_
             refine zL (r := b true) rfl rfl rfl (LOp.pick_true rfl rfl rfl) ?_
             refine zN ?_
             refine RunC.wl (τ' := [(10, oref 5 1 0 r16.length), (11, optr 7 1 0), (14, i64 r30), (124, b true)]) (Γ' := [⟨3, none⟩, ⟨1, none⟩, ⟨1, none⟩, ⟨1, none⟩, ⟨2, none⟩, ⟨1, some (r29.map f32)⟩, ⟨1, some (r31.map f32)⟩, ⟨1, some [i64 r13, i64 r14, oref 6 1 0 r17.length]⟩, ⟨1, none⟩, ⟨1, none⟩]) ⟨aR, aR, aR, aR, trivial⟩ ⟨⟨rfl, .inl rfl⟩, ⟨rfl, .inl rfl⟩, ⟨rfl, .inl rfl⟩, ⟨rfl, .inl rfl⟩, ⟨rfl, .inl rfl⟩, ⟨rfl, .inr rfl⟩, ⟨rfl, .inr rfl⟩, ⟨rfl, .inr rfl⟩, ⟨rfl, .inl rfl⟩, ⟨rfl, .inl rfl⟩, trivial⟩ ?_
             refine RunC.cond_true rfl rfl ?_
             refine zQ ?_
             refine zA (r := b false) rfl rfl rfl rfl rfl ?_
             refine zN ?_
             refine RunC.ret ?_
             have hq := Option.some.inj h
             subst q0
             exact bodyQ.pure (.inr rfl) rfl (Res.one rfl (RV.tmp rfl))
        ·refine RunC.regionW ?_
         refine zM (r := i64 r24) rfl rfl rfl rfl rfl ?_
         refine zL (r := b false) rfl rfl rfl (LOp.eqb (LOp.lss rfl rfl rfl) hc17) ?_
         refine zM (r := b false) rfl rfl rfl rfl rfl ?_
         refine zM (r := oref 5 1 0 r16.length) rfl rfl rfl rfl rfl ?_
         refine zM (r := oref 1 1 0 r8.length) rfl rfl rfl rfl rfl ?_
         refine ROps.d (r := b true) (fs := []) (Γ' := [⟨2, none⟩, ⟨1, some (r8.map f32)⟩, ⟨1, some (r9.map f32)⟩, ⟨1, some [i64 r5, i64 r6, oref 2 1 0 r9.length]⟩, ⟨1, none⟩, ⟨1, some (r16.map f32)⟩, ⟨1, some (r17.map f32)⟩, ⟨1, some [i64 r13, i64 r14, oref 6 1 0 r17.length]⟩, ⟨0, none⟩, ⟨0, none⟩]) rfl rfl rfl (TOp.eqb (TOp.callB (CallAs.func ent12 rfl rfl) (Bors.cons (Bor.own (f := f32) (fun _ => rfl) rfl rfl) (Bors.cons (Bor.own (f := f32) (fun _ => rfl) rfl rfl) Bors.nil)) rfl rfl (w_eqFloat32S_ok r16 r8 r26 hf18)) hc19) rfl ?_
         refine zL (r := b false) rfl rfl rfl (LOp.eqb (LOp.not rfl rfl) rfl) ?_
         refine zL (r := b false) rfl rfl rfl (LOp.pick_false rfl rfl rfl) ?_
         refine zM (r := b false) rfl rfl rfl rfl rfl ?_
         refine ROps.d (r := agg [i64 r13, i64 r14, oref 6 1 0 r17.length]) (fs := []) (Γ' := [⟨2, none⟩, ⟨1, some (r8.map f32)⟩, ⟨1, some (r9.map f32)⟩, ⟨1, some [i64 r5, i64 r6, oref 2 1 0 r9.length]⟩, ⟨1, none⟩, ⟨1, some (r16.map f32)⟩, ⟨1, some (r17.map f32)⟩, ⟨1, some [i64 r13, i64 r14, oref 6 1 0 r17.length]⟩, ⟨0, none⟩, ⟨0, none⟩]) rfl rfl rfl (TOp.loadAgg_o rfl agg45 siz45 rfl rfl rfl rfl) rfl ?_
         refine ROps.d (r := agg [i64 r5, i64 r6, oref 2 1 0 r9.length]) (fs := []) (Γ' := [⟨2, none⟩, ⟨1, some (r8.map f32)⟩, ⟨1, some (r9.map f32)⟩, ⟨1, some [i64 r5, i64 r6, oref 2 1 0 r9.length]⟩, ⟨1, none⟩, ⟨1, some (r16.map f32)⟩, ⟨1, some (r17.map f32)⟩, ⟨1, some [i64 r13, i64 r14, oref 6 1 0 r17.length]⟩, ⟨0, none⟩, ⟨0, none⟩]) rfl rfl rfl (TOp.loadAgg_o rfl agg45 siz45 rfl rfl rfl rfl) rfl ?_
         refine ROps.d (r := b false) (fs := []) (Γ' := [⟨2, none⟩, ⟨1, some (r8.map f32)⟩, ⟨1, some (r9.map f32)⟩, ⟨1, some [i64 r5, i64 r6, oref 2 1 0 r9.length]⟩, ⟨1, none⟩, ⟨1, some (r16.map f32)⟩, ⟨1, some (r17.map f32)⟩, ⟨1, some [i64 r13, i64 r14, oref 6 1 0 r17.length]⟩, ⟨0, none⟩, ⟨0, none⟩]) rfl rfl rfl (TOp.eqb (TOp.callB (CallAs.func ent23 rfl rfl) (Bors.cons (Bor.agg (Bors.cons (Bor.pure rfl) (Bors.cons (Bor.pure rfl) (Bors.cons (Bor.own (f := f32) (fun _ => rfl) rfl rfl) Bors.nil)))) (Bors.cons (Bor.agg (Bors.cons (Bor.pure rfl) (Bors.cons (Bor.pure rfl) (Bors.cons (Bor.own (f := f32) (fun _ => rfl) rfl rfl) Bors.nil)))) Bors.nil)) rfl rfl (w_eqMatrix_ok r13 r14 r17 r5 r6 r9 r27 hf20)) hc21) rfl ?_
         refine zL (r := b true) rfl rfl rfl (LOp.eqb (LOp.not rfl rfl) rfl) ?_
         refine zL (r := b true) rfl rfl rfl (LOp.pick_false rfl rfl rfl) ?_
         refine zM (r := b true) rfl rfl rfl rfl rfl ?_
         refine ROps.s rfl rfl rfl ?_
         refine ROps.s rfl rfl rfl ?_
         refine ROps.s rfl rfl rfl ?_
         refine zL (r := b true) rfl rfl rfl (LOp.pick_true rfl rfl rfl) ?_
         refine zN ?_
         refine RunC.wl (τ' := [(1, i64 a3), (2, ptr [i64 a0, i64 a1, sl a2.length (a2.map f32)]), (6, oref 1 1 0 r8.length), (7, optr 3 1 0), (8, b r7), (10, oref 5 1 0 r16.length), (11, optr 7 1 0), (82, b true)]) (Γ' := [⟨2, none⟩, ⟨1, some (r8.map f32)⟩, ⟨1, some (r9.map f32)⟩, ⟨1, some [i64 r5, i64 r6, oref 2 1 0 r9.length]⟩, ⟨1, none⟩, ⟨1, some (r16.map f32)⟩, ⟨1, some (r17.map f32)⟩, ⟨1, some [i64 r13, i64 r14, oref 6 1 0 r17.length]⟩, ⟨0, none⟩, ⟨0, none⟩]) ⟨aR, aR, aR, aR, aR, aR, aR, aR, trivial⟩ ⟨⟨rfl, .inl rfl⟩, ⟨rfl, .inr rfl⟩, ⟨rfl, .inr rfl⟩, ⟨rfl, .inr rfl⟩, ⟨rfl, .inl rfl⟩, ⟨rfl, .inr rfl⟩, ⟨rfl, .inr rfl⟩, ⟨rfl, .inr rfl⟩, ⟨rfl, .inr rfl⟩, ⟨rfl, .inr rfl⟩, trivial⟩ ?_
         refine RunC.cond_true rfl rfl ?_
         refine zQ ?_
         refine zA (r := b false) rfl rfl rfl rfl rfl ?_
         refine zN ?_
         refine RunC.ret ?_
         have hq := Option.some.inj h
         subst q0
         exact bodyQ.pure (.inr rfl) rfl (Res.one rfl (RV.tmp rfl))
       ·refine RunC.regionW ?_
        refine zM (r := i64 r24) rfl rfl rfl rfl rfl ?_
        refine zL (r := b false) rfl rfl rfl (LOp.eqb (LOp.lss rfl rfl rfl) hc17) ?_
        refine zM (r := b false) rfl rfl rfl rfl rfl ?_
        refine zM (r := oref 5 1 0 r16.length) rfl rfl rfl rfl rfl ?_
        refine zM (r := oref 1 1 0 r8.length) rfl rfl rfl rfl rfl ?_
        refine ROps.d (r := b false) (fs := []) (Γ' := [⟨2, none⟩, ⟨1, some (r8.map f32)⟩, ⟨1, some (r9.map f32)⟩, ⟨1, some [i64 r5, i64 r6, oref 2 1 0 r9.length]⟩, ⟨1, none⟩, ⟨1, some (r16.map f32)⟩, ⟨1, some (r17.map f32)⟩, ⟨1, some [i64 r13, i64 r14, oref 6 1 0 r17.length]⟩, ⟨0, none⟩, ⟨0, none⟩]) rfl rfl rfl (TOp.eqb (TOp.callB (CallAs.func ent12 rfl rfl) (Bors.cons (Bor.own (f := f32) (fun _ => rfl) rfl rfl) (Bors.cons (Bor.own (f := f32) (fun _ => rfl) rfl rfl) Bors.nil)) rfl rfl (w_eqFloat32S_ok r16 r8 r26 hf18)) hc19) rfl ?_
        refine zL (r := b true) rfl rfl rfl (LOp.eqb (LOp.not rfl rfl) rfl) ?_
        refine zL (r := b true) rfl rfl rfl (LOp.pick_false rfl rfl rfl) ?_
        refine zM (r := b true) rfl rfl rfl rfl rfl ?_
        refine ROps.s rfl rfl rfl ?_
        refine ROps.s rfl rfl rfl ?_
        refine ROps.s rfl rfl rfl ?_
        refine ROps.s rfl rfl rfl ?_
        refine zL (r := b true) rfl rfl rfl (LOp.pick_true rfl rfl rfl) ?_
        refine zM (r := b true) rfl rfl rfl rfl rfl ?_
        refine ROps.s rfl rfl rfl ?_
        refine ROps.s rfl rfl rfl ?_
        refine ROps.s rfl rfl rfl ?_
        refine zL (r := b true) rfl rfl rfl (LOp.pick_true rfl rfl rfl) ?_
        refine zN ?_
        refine RunC.wl (τ' := [(1, i64 a3), (2, ptr [i64 a0, i64 a1, sl a2.length (a2.map f32)]), (6, oref 1 1 0 r8.length), (7, optr 3 1 0), (8, b r7), (10, oref 5 1 0 r16.length), (11, optr 7 1 0), (82, b true)]) (Γ' := [⟨2, none⟩, ⟨1, some (r8.map f32)⟩, ⟨1, some (r9.map f32)⟩, ⟨1, some [i64 r5, i64 r6, oref 2 1 0 r9.length]⟩, ⟨1, none⟩, ⟨1, some (r16.map f32)⟩, ⟨1, some (r17.map f32)⟩, ⟨1, some [i64 r13, i64 r14, oref 6 1 0 r17.length]⟩, ⟨0, none⟩, ⟨0, none⟩]) ⟨aR, aR, aR, aR, aR, aR, aR, aR, trivial⟩ ⟨⟨rfl, .inl rfl⟩, ⟨rfl, .inr rfl⟩, ⟨rfl, .inr rfl⟩, ⟨rfl, .inr rfl⟩, ⟨rfl, .inl rfl⟩, ⟨rfl, .inr rfl⟩, ⟨rfl, .inr rfl⟩, ⟨rfl, .inr rfl⟩, ⟨rfl, .inr rfl⟩, ⟨rfl, .inr rfl⟩, trivial⟩ ?_
        refine RunC.cond_true rfl rfl ?_
        refine zQ ?_
        refine zA (r := b false) rfl rfl rfl rfl rfl ?_
        refine zN ?_
        refine RunC.ret ?_
        have hq := Option.some.inj h
        subst q0
        exact bodyQ.pure (.inr rfl) rfl (Res.one rfl (RV.tmp rfl))
     ·refine RunC.region_draw (Γ' := [⟨2, some (r12.map f32)⟩, ⟨1, some (r8.map f32)⟩, ⟨1, some (r9.map f32)⟩, ⟨1, some [i64 r5, i64 r6, oref 2 1 0 r9.length]⟩, ⟨1, some [i64 r10, i64 r11, oref 0 2 0 r12.length]⟩, ⟨1, some (r16.map f32)⟩, ⟨1, some (r17.map f32)⟩, ⟨1, some [i64 r13, i64 r14, oref 6 1 0 r17.length]⟩, ⟨0, none⟩, ⟨0, none⟩]) 5 mixed 
       (TR.d (r := agg [i64 r10, i64 r11, oref 0 2 0 r12.length]) (fs := []) rfl rfl (TOp.loadAgg_o rfl agg45 siz45 rfl rfl rfl rfl) <|
       (TR.l (r := agg [i64 a0, i64 a1, sl a2.length (a2.map f32)]) rfl rfl (LOp.loadAgg agg41 siz41 rfl rfl rfl rfl) <|
       (TR.d (r := agg [i64 r20, i64 r21, sl r22.length (r22.map f32)]) (fs := []) rfl rfl (TOp.callS (CallAs.func ent21 rfl rfl) (ALes.cons aR ALes.nil) (lts_cons (lt_agg (lts_cons rfl (lts_cons rfl (lts_cons (lt_sl (fun _ => rfl)) lts_nil)))) lts_nil) (lt_agg (lts_cons rfl (lts_cons rfl (lts_cons (lt_sl (fun _ => rfl)) lts_nil)))) (w_toMatrix_ok a0 a1 a2 r20 r21 r22 hf12) (Bor.agg (Bors.cons (Bor.pure rfl) (Bors.cons (Bor.pure rfl) (Bors.cons (Bor.own (f := f32) (fun _ => rfl) rfl rfl) Bors.nil))))) <|
       (TR.d (r := b false) (fs := []) rfl rfl (TOp.eqb (TOp.callB (CallAs.func ent23 rfl rfl) (Bors.cons (Bor.agg (Bors.cons (Bor.pure rfl) (Bors.cons (Bor.pure rfl) (Bors.cons (Bor.own (f := f32) (fun _ => rfl) rfl rfl) Bors.nil)))) (Bors.cons (Bor.agg (Bors.cons (Bor.pure rfl) (Bors.cons (Bor.pure rfl) (Bors.cons (Bor.sl (fun _ => rfl)) Bors.nil)))) Bors.nil)) rfl rfl (w_eqMatrix_ok r10 r11 r12 r20 r21 r22 r23 hf13)) hc14) <|
       (TR.l (r := b true) rfl rfl (LOp.eqb (LOp.not rfl rfl) rfl) <|
       TR.nil))))) rfl (by kernel_rfl) rfl fills_nil rfl ?_
      iterate 5 refine ROps.dropS ?_
      refine ROps.drop0 ?_
      refine zN ?_
      refine RunC.cond_true rfl rfl ?_
      refine zQ ?_
      refine zA (r := b false) rfl rfl rfl rfl rfl ?_
      refine zN ?_
      refine RunC.ret ?_
      have hq := Option.some.inj h
      subst q0
      exact bodyQ.pure (.inr rfl) rfl (Res.one rfl (RV.tmp rfl))
   ·refine RunC.regionW ?_
    refine zM (r := oref 5 1 0 r16.length) rfl rfl rfl rfl rfl ?_
    refine zM (r := oref 1 1 0 r8.length) rfl rfl rfl rfl rfl ?_
    refine ROps.d (r := b true) (fs := []) (Γ' := [⟨2, some (r12.map f32)⟩, ⟨1, some (r8.map f32)⟩, ⟨1, some (r9.map f32)⟩, ⟨1, some [i64 r5, i64 r6, oref 2 1 0 r9.length]⟩, ⟨1, some [i64 r10, i64 r11, oref 0 2 0 r12.length]⟩, ⟨1, some (r16.map f32)⟩, ⟨1, some (r17.map f32)⟩, ⟨1, some [i64 r13, i64 r14, oref 6 1 0 r17.length]⟩, ⟨0, none⟩, ⟨0, none⟩]) rfl rfl rfl (TOp.eqb (TOp.callB (CallAs.func ent12 rfl rfl) (Bors.cons (Bor.own (f := f32) (fun _ => rfl) rfl rfl) (Bors.cons (Bor.own (f := f32) (fun _ => rfl) rfl rfl) Bors.nil)) rfl rfl (w_eqFloat32S_ok r16 r8 r18 hf7)) hc8) rfl ?_
    refine zL (r := b false) rfl rfl rfl (LOp.eqb (LOp.not rfl rfl) rfl) ?_
    refine zM (r := b false) rfl rfl rfl rfl rfl ?_
    refine ROps.d (r := agg [i64 r13, i64 r14, oref 6 1 0 r17.length]) (fs := []) (Γ' := [⟨2, some (r12.map f32)⟩, ⟨1, some (r8.map f32)⟩, ⟨1, some (r9.map f32)⟩, ⟨1, some [i64 r5, i64 r6, oref 2 1 0 r9.length]⟩, ⟨1, some [i64 r10, i64 r11, oref 0 2 0 r12.length]⟩, ⟨1, some (r16.map f32)⟩, ⟨1, some (r17.map f32)⟩, ⟨1, some [i64 r13, i64 r14, oref 6 1 0 r17.length]⟩, ⟨0, none⟩, ⟨0, none⟩]) rfl rfl rfl (TOp.loadAgg_o rfl agg45 siz45 rfl rfl rfl rfl) rfl ?_
    refine ROps.d (r := agg [i64 r5, i64 r6, oref 2 1 0 r9.length]) (fs := []) (Γ' := [⟨2, some (r12.map f32)⟩, ⟨1, some (r8.map f32)⟩, ⟨1, some (r9.map f32)⟩, ⟨1, some [i64 r5, i64 r6, oref 2 1 0 r9.length]⟩, ⟨1, some [i64 r10, i64 r11, oref 0 2 0 r12.length]⟩, ⟨1, some (r16.map f32)⟩, ⟨1, some (r17.map f32)⟩, ⟨1, some [i64 r13, i64 r14, oref 6 1 0 r17.length]⟩, ⟨0, none⟩, ⟨0, none⟩]) rfl rfl rfl (TOp.loadAgg_o rfl agg45 siz45 rfl rfl rfl rfl) rfl ?_
    refine ROps.d (r := b false) (fs := []) (Γ' := [⟨2, some (r12.map f32)⟩, ⟨1, some (r8.map f32)⟩, ⟨1, some (r9.map f32)⟩, ⟨1, some [i64 r5, i64 r6, oref 2 1 0 r9.length]⟩, ⟨1, some [i64 r10, i64 r11, oref 0 2 0 r12.length]⟩, ⟨1, some (r16.map f32)⟩, ⟨1, some (r17.map f32)⟩, ⟨1, some [i64 r13, i64 r14, oref 6 1 0 r17.length]⟩, ⟨0, none⟩, ⟨0, none⟩]) rfl rfl rfl (TOp.eqb (TOp.callB (CallAs.func ent23 rfl rfl) (Bors.cons (Bor.agg (Bors.cons (Bor.pure rfl) (Bors.cons (Bor.pure rfl) (Bors.cons (Bor.own (f := f32) (fun _ => rfl) rfl rfl) Bors.nil)))) (Bors.cons (Bor.agg (Bors.cons (Bor.pure rfl) (Bors.cons (Bor.pure rfl) (Bors.cons (Bor.own (f := f32) (fun _ => rfl) rfl rfl) Bors.nil)))) Bors.nil)) rfl rfl (w_eqMatrix_ok r13 r14 r17 r5 r6 r9 r19 hf9)) hc10) rfl ?_
    refine zL (r := b true) rfl rfl rfl (LOp.eqb (LOp.not rfl rfl) rfl) ?_
    refine zL (r := b true) rfl rfl rfl (LOp.pick_false rfl rfl rfl) ?_
    refine zM (r := b true) rfl rfl rfl rfl rfl ?_
    refine ROps.s rfl rfl rfl ?_
    refine ROps.s rfl rfl rfl ?_
    refine ROps.s rfl rfl rfl ?_
    refine zL (r := b true) rfl rfl rfl (LOp.pick_true rfl rfl rfl) ?_
    refine zN ?_
    refine RunC.cond_true rfl rfl ?_
    refine zQ ?_
    refine zA (r := b false) rfl rfl rfl rfl rfl ?_
    refine zN ?_
    refine RunC.ret ?_
    have hq := Option.some.inj h
    subst q0
    exact bodyQ.pure (.inr rfl) rfl (Res.one rfl (RV.tmp rfl))
  ·refine RunC.regionW ?_
   refine zM (r := oref 5 1 0 r16.length) rfl rfl rfl rfl rfl ?_
   refine zM (r := oref 1 1 0 r8.length) rfl rfl rfl rfl rfl ?_
   refine ROps.d (r := b false) (fs := []) (Γ' := [⟨2, some (r12.map f32)⟩, ⟨1, some (r8.map f32)⟩, ⟨1, some (r9.map f32)⟩, ⟨1, some [i64 r5, i64 r6, oref 2 1 0 r9.length]⟩, ⟨1, some [i64 r10, i64 r11, oref 0 2 0 r12.length]⟩, ⟨1, some (r16.map f32)⟩, ⟨1, some (r17.map f32)⟩, ⟨1, some [i64 r13, i64 r14, oref 6 1 0 r17.length]⟩, ⟨0, none⟩, ⟨0, none⟩]) rfl rfl rfl (TOp.eqb (TOp.callB (CallAs.func ent12 rfl rfl) (Bors.cons (Bor.own (f := f32) (fun _ => rfl) rfl rfl) (Bors.cons (Bor.own (f := f32) (fun _ => rfl) rfl rfl) Bors.nil)) rfl rfl (w_eqFloat32S_ok r16 r8 r18 hf7)) hc8) rfl ?_
   refine zL (r := b true) rfl rfl rfl (LOp.eqb (LOp.not rfl rfl) rfl) ?_
   refine zM (r := b true) rfl rfl rfl rfl rfl ?_
   refine ROps.s rfl rfl rfl ?_
   refine ROps.s rfl rfl rfl ?_
   refine ROps.s rfl rfl rfl ?_
   refine ROps.s rfl rfl rfl ?_
   refine zL (r := b true) rfl rfl rfl (LOp.pick_true rfl rfl rfl) ?_
   refine zM (r := b true) rfl rfl rfl rfl rfl ?_
   refine ROps.s rfl rfl rfl ?_
   refine ROps.s rfl rfl rfl ?_
   refine ROps.s rfl rfl rfl ?_
   refine zL (r := b true) rfl rfl rfl (LOp.pick_true rfl rfl rfl) ?_
   refine zN ?_
   refine RunC.cond_true rfl rfl ?_
   refine zQ ?_
   refine zA (r := b false) rfl rfl rfl rfl rfl ?_
   refine zN ?_
   refine RunC.ret ?_
   have hq := Option.some.inj h
   subst q0
   exact bodyQ.pure (.inr rfl) rfl (Res.one rfl (RV.tmp rfl))
end Go.Proofs.Ytcoookgeialmnaa
