/- Generated. -/
import Derived.Test.YtcoookgeialmnaaG1
namespace Go.Proofs.Ytcoookgeialmnaa
open Go Go.AM Go.AM.AV
set_option maxRecDepth 20000
set_option maxHeartbeats 4000000
set_option linter.unusedVariables false
set_option linter.unusedSimpArgs false
noncomputable def x_slices_stableCmpFunc_float32_0o_2Fi_SingularOf_1_b1 (a0 : Int) (a1 : List F) (L1 : List F) (v3 : Int) (v4 : Int) : Option (LR ((List F) × Int × Int) ((List F) × Int) ((List F))) :=
 bsel (decide (v4 ≤ a0)) (
  obind (x_slices_insertionSortCmpFunc_float32_0o_3Fi_SingularOf_1 v3 v4 L1) fun (r5 : List F) =>
  need (decide (r5.length = a1.length)) <|
  olet (IntKind.i64.wrap (v4 + 20)) fun (x6 : Int) =>
  some (LR.next (r5, v4, x6))) (
  some (LR.out (L1, v3)))
noncomputable def x_slices_stableCmpFunc_float32_0o_2Fi_SingularOf_1_s1 (a0 : Int) (a1 : List F) : ((List F) × Int × Int) → Option (LR ((List F) × Int × Int) ((List F) × Int) ((List F))) := fun s => x_slices_stableCmpFunc_float32_0o_2Fi_SingularOf_1_b1 a0 a1 s.1 s.2.1 s.2.2
noncomputable def x_slices_stableCmpFunc_float32_0o_2Fi_SingularOf_1_b4 (a0 : Int) (a1 : List F) (v13 : Int) (L15 : List F) (v17 : Int) (v18 : Int) : Option (LR ((List F) × Int × Int) ((List F) × Int) ((List F))) :=
 bsel (decide (v18 ≤ a0)) (
  olet (IntKind.i64.wrap (v17 + v13)) fun (x19 : Int) =>
  obind (x_slices_symMergeCmpFunc_float32_0o_4Fi_SingularOf_1 v17 x19 v18 L15) fun (r20 : List F) =>
  need (decide (r20.length = a1.length)) <|
  olet (IntKind.i64.wrap (2 * v13)) fun (x21 : Int) =>
  olet (IntKind.i64.wrap (v18 + x21)) fun (x22 : Int) =>
  some (LR.next (r20, v18, x22))) (
  some (LR.out (L15, v17)))
noncomputable def x_slices_stableCmpFunc_float32_0o_2Fi_SingularOf_1_s4 (a0 : Int) (a1 : List F) (v13 : Int) : ((List F) × Int × Int) → Option (LR ((List F) × Int × Int) ((List F) × Int) ((List F))) := fun s => x_slices_stableCmpFunc_float32_0o_2Fi_SingularOf_1_b4 a0 a1 v13 s.1 s.2.1 s.2.2
noncomputable def x_slices_stableCmpFunc_float32_0o_2Fi_SingularOf_1_k5 (v13 : Int) (L28 : List F) : Option (LR ((List F) × Int) ((List F)) ((List F))) :=
 olet (IntKind.i64.wrap (v13 * 2)) fun (x30 : Int) =>
 some (LR.next (L28, x30))
noncomputable def x_slices_stableCmpFunc_float32_0o_2Fi_SingularOf_1_k4 (a0 : Int) (a1 : List F) (v13 : Int) (L23 : List F) (v25 : Int) : Option (LR ((List F) × Int) ((List F)) ((List F))) :=
 olet (IntKind.i64.wrap (v25 + v13)) fun (x26 : Int) =>
 bsel (decide (x26 < a0)) (
  obind (x_slices_symMergeCmpFunc_float32_0o_4Fi_SingularOf_1 v25 x26 a0 L23) fun (r27 : List F) =>
  need (decide (r27.length = a1.length)) <|
  x_slices_stableCmpFunc_float32_0o_2Fi_SingularOf_1_k5 v13 r27) (
  x_slices_stableCmpFunc_float32_0o_2Fi_SingularOf_1_k5 v13 L23)
noncomputable def x_slices_stableCmpFunc_float32_0o_2Fi_SingularOf_1_b6 (a0 : Int) (a1 : List F) (L11 : List F) (v13 : Int) : Option (LR ((List F) × Int) ((List F)) ((List F))) :=
 bsel (decide (v13 < a0)) (
  olet (IntKind.i64.wrap (2 * v13)) fun (x14 : Int) =>
  obind (loopM (x_slices_stableCmpFunc_float32_0o_2Fi_SingularOf_1_s4 a0 a1 v13) (L11, 0, x14)) fun z => osum z (fun e => x_slices_stableCmpFunc_float32_0o_2Fi_SingularOf_1_k4 a0 a1 v13 e.1 e.2) (fun r => some (LR.ret r))) (
  some (LR.out L11))
noncomputable def x_slices_stableCmpFunc_float32_0o_2Fi_SingularOf_1_s6 (a0 : Int) (a1 : List F) : ((List F) × Int) → Option (LR ((List F) × Int) ((List F)) ((List F))) := fun s => x_slices_stableCmpFunc_float32_0o_2Fi_SingularOf_1_b6 a0 a1 s.1 s.2
noncomputable def x_slices_stableCmpFunc_float32_0o_2Fi_SingularOf_1_k6 (L31 : List F) : Option ((List F)) :=
 some L31
noncomputable def x_slices_stableCmpFunc_float32_0o_2Fi_SingularOf_1_k1 (a0 : Int) (a1 : List F) (L7 : List F) (v9 : Int) : Option ((List F)) :=
 obind (x_slices_insertionSortCmpFunc_float32_0o_3Fi_SingularOf_1 v9 a0 L7) fun (r10 : List F) =>
 need (decide (r10.length = a1.length)) <|
 obind (loopM (x_slices_stableCmpFunc_float32_0o_2Fi_SingularOf_1_s6 a0 a1) (r10, 20)) fun z => osum z (fun e => x_slices_stableCmpFunc_float32_0o_2Fi_SingularOf_1_k6 e) (fun r => some r)
noncomputable def x_slices_stableCmpFunc_float32_0o_2Fi_SingularOf_1 (a0 : Int) (a1 : List F) : Option ((List F)) :=
 obind (loopM (x_slices_stableCmpFunc_float32_0o_2Fi_SingularOf_1_s1 a0 a1) (a1, 0, 20)) fun z => osum z (fun e => x_slices_stableCmpFunc_float32_0o_2Fi_SingularOf_1_k1 a0 a1 e.1 e.2) (fun r => some r)
theorem x_slices_stableCmpFunc_float32_0o_2Fi_SingularOf_1_ok (a0 : Int) (a1 : List F) (q0 : List F) (h : x_slices_stableCmpFunc_float32_0o_2Fi_SingularOf_1 a0 a1 = some q0) : Ev Try.prog 108 [oref 0 0 0 a1.length, i64 a0, fn (.func 54) [] []] [⟨0, some (a1.map f32)⟩] (tup []) [⟨0, some (q0.map f32)⟩] := by
 refine Ev.start Try.func108 rfl rfl 0 (τ := [(0, oref 0 0 0 a1.length), (1, i64 a0), (2, fn (.func 54) [] [])]) rfl (Γ' := [⟨0, some (a1.map f32)⟩]) rfl (n := 126) rfl (g := 1) rfl (by decide) ?_
 unfold x_slices_stableCmpFunc_float32_0o_2Fi_SingularOf_1 at h
 refine zQ ?_
 refine zA (r := i64 20) rfl rfl rfl rfl rfl ?_
 refine zN ?_
 refine zQ ?_
 refine zM (r := i64 20) rfl rfl rfl rfl rfl ?_
 refine zA (r := i64 0) rfl rfl rfl rfl rfl ?_
 refine zA (r := i64 20) rfl rfl rfl rfl rfl ?_
 refine zN ?_
 refine RunC.seq ?_
 obtain ⟨z7, hz_7, h⟩ := obind_some h
 refine RunC.cutN (fun τ Γ => ∃ (L7 : List F) (v9 : Int), L7.length = a1.length ∧ WeakLe τ [(0, oref 0 0 0 a1.length), (1, i64 a0), (2, fn (.func 54) [] []), (6, i64 20), (7, i64 v9)] ∧ DeadLe Γ [⟨0, some (L7.map f32)⟩] ∧ z7 = .inl (L7, v9)) ?_ ?_
 ·refine RunC.block (RunC.loop (RunL.loopM (x := z7) (x_slices_stableCmpFunc_float32_0o_2Fi_SingularOf_1_s1 a0 a1) (fun (s : (List F) × Int × Int) τ Γ => s.1.length = a1.length ∧ WeakLe τ [(0, oref 0 0 0 a1.length), (1, i64 a0), (2, fn (.func 54) [] []), (6, i64 20), (7, i64 s.2.1), (8, i64 s.2.2)] ∧ DeadLe Γ [⟨0, some (s.1.map f32)⟩]) ?_ _ _ _ hz_7 ⟨rfl, ⟨aR, aR, aR, aR, aR, aR, trivial⟩, ⟨⟨rfl, .inr rfl⟩, trivial⟩⟩))
  rintro ⟨L1, v3, v4⟩ τ7 Γ7 y7_ ⟨hl2, hw7, hd7⟩ h7_ ho7 hr7
  refine RunC.wl (τ' := [(0, oref 0 0 0 a1.length), (1, i64 a0), (2, fn (.func 54) [] []), (6, i64 20), (7, i64 v3), (8, i64 v4)]) (Γ' := [⟨0, some (L1.map f32)⟩]) hw7 hd7 ?_
  replace hl2 : L1.length = a1.length := hl2
  replace h7_ : x_slices_stableCmpFunc_float32_0o_2Fi_SingularOf_1_b1 a0 a1 L1 v3 v4 = some y7_ := h7_
  unfold x_slices_stableCmpFunc_float32_0o_2Fi_SingularOf_1_b1 at h7_
  refine RunC.seq ?_
  refine RunC.seq ?_
  rcases bsel_some h7_ with ⟨hc1, h7_⟩ | ⟨hc1, h7_⟩
  ·refine RunC.regionW ?_
   refine zM (r := i64 v4) rfl rfl rfl rfl rfl ?_
   refine zM (r := i64 a0) rfl rfl rfl rfl rfl ?_
   refine zL (r := b true) rfl rfl rfl (LOp.eqb (LOp.leq rfl rfl rfl) hc1) ?_
   refine zN ?_
   refine RunC.cond_true rfl rfl ?_
   refine RunC.skip ?_
   refine RunC.block ?_
   refine RunC.seq ?_
   obtain ⟨r5, hf2, h7_⟩ := obind_some h7_
   obtain ⟨hn3, h7_⟩ := need_some h7_
   refine RunC.regionW ?_
   refine zM (r := oref 0 0 0 a1.length) rfl rfl rfl rfl rfl ?_
   refine zM (r := i64 v3) rfl rfl rfl rfl rfl ?_
   refine zM (r := i64 v4) rfl rfl rfl rfl rfl ?_
   refine zM (r := fn (.func 54) [] []) rfl rfl rfl rfl rfl ?_
   refine ROps.callO (A := [oref 0 0 0 a1.length, i64 v3, i64 v4, fn (.func 54) [] []]) (args := [oref 0 0 0 L1.length, i64 v3, i64 v4, fn (.func 54) [] []]) (Γc := [⟨0, some (L1.map f32)⟩]) (Γc' := [⟨0, some (r5.map f32)⟩]) (r' := tup []) (Γ' := [⟨0, some (r5.map f32)⟩]) [(0, 0)] [] rfl (CallAs.func ent132 rfl rfl) rfl rfl (SelOk.of (show List.Nodup [0] from by decide) (SelL.arr0 (f := f32) (fun _ => rfl) rfl trivial)) (live_of ⟨⟨_, _, rfl⟩, trivial⟩) (by simp [ren, rens, sigma, rens_f32, rens_f64, rens_i64, rens_ik, rens_str, rens_cp, hl2]) rfl (x_slices_insertionSortCmpFunc_float32_0o_3Fi_SingularOf_1_ok v3 v4 L1 r5 hf2) rfl (news_of trivial) (show List.Nodup [0] from by decide) (by simp [ren, rens, sigma, of_decide_eq_true hn3]) (by simp [backOb, sigma, ren, rens, rens_f32, rens_f64, rens_i64, rens_ik, rens_str, rens_cp]) ?_
   refine zN ?_
   refine zQ ?_
   refine zM (r := i64 v4) rfl rfl rfl rfl rfl ?_
   refine zA (r := i64 v4) rfl rfl rfl rfl rfl ?_
   refine zN ?_
   obtain ⟨x6, hx4, h7_⟩ := olet_some h7_
   refine RunC.regionW ?_
   refine zM (r := i64 v4) rfl rfl rfl rfl rfl ?_
   refine zM (r := i64 20) rfl rfl rfl rfl rfl ?_
   refine zL (r := i64 x6) rfl rfl rfl (LOp.eqr (LOp.add rfl rfl rfl) (congrArg (ik .i64) hx4)) ?_
   refine zA (r := i64 x6) rfl rfl rfl rfl rfl ?_
   refine zN ?_
   cases Option.some.inj h7_
   exact ⟨_, rfl, (of_decide_eq_true hn3), ⟨aR, aR, aR, aR, aR, aR, trivial⟩, ⟨⟨rfl, .inr rfl⟩, trivial⟩⟩
  ·refine RunC.regionW ?_
   refine zM (r := i64 v4) rfl rfl rfl rfl rfl ?_
   refine zM (r := i64 a0) rfl rfl rfl rfl rfl ?_
   refine zL (r := b false) rfl rfl rfl (LOp.eqb (LOp.leq rfl rfl rfl) hc1) ?_
   refine zN ?_
   refine RunC.cond_false rfl rfl ?_
   refine RunC.exit ?_
   cases Option.some.inj h7_
   have hx := ho7 _ rfl
   exact ⟨L1, v3, hl2, ⟨aR, aR, aR, aR, aR, trivial⟩, ⟨⟨rfl, .inr rfl⟩, trivial⟩, hx⟩
 ·rintro τ8 Γ8 ⟨L7, v9, hl8, hw8, hd8, rfl⟩
  refine RunC.wl hw8 hd8 ?_
  replace h : x_slices_stableCmpFunc_float32_0o_2Fi_SingularOf_1_k1 a0 a1 L7 v9 = some q0 := h
  unfold x_slices_stableCmpFunc_float32_0o_2Fi_SingularOf_1_k1 at h
  refine RunC.seq ?_
  obtain ⟨r10, hf5, h⟩ := obind_some h
  obtain ⟨hn6, h⟩ := need_some h
  refine RunC.regionW ?_
  refine zM (r := oref 0 0 0 a1.length) rfl rfl rfl rfl rfl ?_
  refine zM (r := i64 v9) rfl rfl rfl rfl rfl ?_
  refine zM (r := i64 a0) rfl rfl rfl rfl rfl ?_
  refine zM (r := fn (.func 54) [] []) rfl rfl rfl rfl rfl ?_
  refine ROps.callO (A := [oref 0 0 0 a1.length, i64 v9, i64 a0, fn (.func 54) [] []]) (args := [oref 0 0 0 L7.length, i64 v9, i64 a0, fn (.func 54) [] []]) (Γc := [⟨0, some (L7.map f32)⟩]) (Γc' := [⟨0, some (r10.map f32)⟩]) (r' := tup []) (Γ' := [⟨0, some (r10.map f32)⟩]) [(0, 0)] [] rfl (CallAs.func ent132 rfl rfl) rfl rfl (SelOk.of (show List.Nodup [0] from by decide) (SelL.arr0 (f := f32) (fun _ => rfl) rfl trivial)) (live_of ⟨⟨_, _, rfl⟩, trivial⟩) (by simp [ren, rens, sigma, rens_f32, rens_f64, rens_i64, rens_ik, rens_str, rens_cp, hl8]) rfl (x_slices_insertionSortCmpFunc_float32_0o_3Fi_SingularOf_1_ok v9 a0 L7 r10 hf5) rfl (news_of trivial) (show List.Nodup [0] from by decide) (by simp [ren, rens, sigma, of_decide_eq_true hn6]) (by simp [backOb, sigma, ren, rens, rens_f32, rens_f64, rens_i64, rens_ik, rens_str, rens_cp]) ?_
  refine zN ?_
  obtain ⟨z9, hz_9, h⟩ := obind_some h
  refine RunC.cutN (fun τ Γ => ∃ (L31 : List F), L31.length = a1.length ∧ WeakLe τ [] ∧ DeadLe Γ [⟨0, some (L31.map f32)⟩] ∧ z9 = .inl L31) ?_ ?_
  ·refine RunC.block (RunC.loop (RunL.loopM (x := z9) (x_slices_stableCmpFunc_float32_0o_2Fi_SingularOf_1_s6 a0 a1) (fun (s : (List F) × Int) τ Γ => s.1.length = a1.length ∧ WeakLe τ [(0, oref 0 0 0 a1.length), (1, i64 a0), (2, fn (.func 54) [] []), (6, i64 s.2)] ∧ DeadLe Γ [⟨0, some (s.1.map f32)⟩]) ?_ _ _ _ hz_9 ⟨(of_decide_eq_true hn6), ⟨aR, aR, aR, aR, trivial⟩, ⟨⟨rfl, .inr rfl⟩, trivial⟩⟩))
   rintro ⟨L11, v13⟩ τ9 Γ9 y9_ ⟨hl12, hw9, hd9⟩ h9_ ho9 hr9
   refine RunC.wl (τ' := [(0, oref 0 0 0 a1.length), (1, i64 a0), (2, fn (.func 54) [] []), (6, i64 v13)]) (Γ' := [⟨0, some (L11.map f32)⟩]) hw9 hd9 ?_
   replace hl12 : L11.length = a1.length := hl12
   replace h9_ : x_slices_stableCmpFunc_float32_0o_2Fi_SingularOf_1_b6 a0 a1 L11 v13 = some y9_ := h9_
   unfold x_slices_stableCmpFunc_float32_0o_2Fi_SingularOf_1_b6 at h9_
   refine RunC.seq ?_
   refine RunC.seq ?_
   rcases bsel_some h9_ with ⟨hc7, h9_⟩ | ⟨hc7, h9_⟩
   ·refine RunC.regionW ?_
    refine zM (r := i64 v13) rfl rfl rfl rfl rfl ?_
    refine zM (r := i64 a0) rfl rfl rfl rfl rfl ?_
    refine zL (r := b true) rfl rfl rfl (LOp.eqb (LOp.lss rfl rfl rfl) hc7) ?_
    refine zN ?_
    refine RunC.cond_true rfl rfl ?_
    refine RunC.skip ?_
    refine RunC.block ?_
    refine RunC.seq ?_
    obtain ⟨x14, hx8, h9_⟩ := olet_some h9_
    refine RunC.regionW ?_
    refine zM (r := i64 v13) rfl rfl rfl rfl rfl ?_
    refine zL (r := i64 x14) rfl rfl rfl (LOp.eqr (LOp.mul rfl rfl rfl) (congrArg (ik .i64) hx8)) ?_
    refine zA (r := i64 0) rfl rfl rfl rfl rfl ?_
    refine zA (r := i64 x14) rfl rfl rfl rfl rfl ?_
    refine zN ?_
    refine RunC.seq ?_
    obtain ⟨z10, hz_10, h9_⟩ := obind_some h9_
    refine RunC.cutN (fun τ Γ => ∃ (L23 : List F) (v25 : Int), L23.length = a1.length ∧ WeakLe τ [(0, oref 0 0 0 a1.length), (1, i64 a0), (2, fn (.func 54) [] []), (6, i64 v13), (7, i64 v25)] ∧ DeadLe Γ [⟨0, some (L23.map f32)⟩] ∧ z10 = .inl (L23, v25)) ?_ ?_
    ·refine RunC.block (RunC.loop (RunL.loopM (x := z10) (x_slices_stableCmpFunc_float32_0o_2Fi_SingularOf_1_s4 a0 a1 v13) (fun (s : (List F) × Int × Int) τ Γ => s.1.length = a1.length ∧ WeakLe τ [(0, oref 0 0 0 a1.length), (1, i64 a0), (2, fn (.func 54) [] []), (6, i64 v13), (7, i64 s.2.1), (8, i64 s.2.2)] ∧ DeadLe Γ [⟨0, some (s.1.map f32)⟩]) ?_ _ _ _ hz_10 ⟨hl12, ⟨aR, aR, aR, aR, aR, aR, trivial⟩, ⟨⟨rfl, .inr rfl⟩, trivial⟩⟩))
     rintro ⟨L15, v17, v18⟩ τ10 Γ10 y10_ ⟨hl16, hw10, hd10⟩ h10_ ho10 hr10
     refine RunC.wl (τ' := [(0, oref 0 0 0 a1.length), (1, i64 a0), (2, fn (.func 54) [] []), (6, i64 v13), (7, i64 v17), (8, i64 v18)]) (Γ' := [⟨0, some (L15.map f32)⟩]) hw10 hd10 ?_
     replace hl16 : L15.length = a1.length := hl16
     replace h10_ : x_slices_stableCmpFunc_float32_0o_2Fi_SingularOf_1_b4 a0 a1 v13 L15 v17 v18 = some y10_ := h10_
     unfold x_slices_stableCmpFunc_float32_0o_2Fi_SingularOf_1_b4 at h10_
     refine RunC.seq ?_
     refine RunC.seq ?_
     rcases bsel_some h10_ with ⟨hc9, h10_⟩ | ⟨hc9, h10_⟩
     ·refine RunC.regionW ?_
      refine zM (r := i64 v18) rfl rfl rfl rfl rfl ?_
      refine zM (r := i64 a0) rfl rfl rfl rfl rfl ?_
      refine zL (r := b true) rfl rfl rfl (LOp.eqb (LOp.leq rfl rfl rfl) hc9) ?_
      refine zN ?_
      refine RunC.cond_true rfl rfl ?_
      refine RunC.skip ?_
      refine RunC.block ?_
      refine RunC.seq ?_
      obtain ⟨x19, hx10, h10_⟩ := olet_some h10_
      obtain ⟨r20, hf11, h10_⟩ := obind_some h10_
      obtain ⟨hn12, h10_⟩ := need_some h10_
      refine RunC.regionW ?_
      refine zM (r := oref 0 0 0 a1.length) rfl rfl rfl rfl rfl ?_
      refine zM (r := i64 v17) rfl rfl rfl rfl rfl ?_
      refine zM (r := i64 v17) rfl rfl rfl rfl rfl ?_
      refine zM (r := i64 v13) rfl rfl rfl rfl rfl ?_
      refine zL (r := i64 x19) rfl rfl rfl (LOp.eqr (LOp.add rfl rfl rfl) (congrArg (ik .i64) hx10)) ?_
      refine zM (r := i64 v18) rfl rfl rfl rfl rfl ?_
      refine zM (r := fn (.func 54) [] []) rfl rfl rfl rfl rfl ?_
      refine ROps.callO (A := [oref 0 0 0 a1.length, i64 v17, i64 x19, i64 v18, fn (.func 54) [] []]) (args := [oref 0 0 0 L15.length, i64 v17, i64 x19, i64 v18, fn (.func 54) [] []]) (Γc := [⟨0, some (L15.map f32)⟩]) (Γc' := [⟨0, some (r20.map f32)⟩]) (r' := tup []) (Γ' := [⟨0, some (r20.map f32)⟩]) [(0, 0)] [] rfl (CallAs.func ent133 rfl rfl) rfl rfl (SelOk.of (show List.Nodup [0] from by decide) (SelL.arr0 (f := f32) (fun _ => rfl) rfl trivial)) (live_of ⟨⟨_, _, rfl⟩, trivial⟩) (by simp [ren, rens, sigma, rens_f32, rens_f64, rens_i64, rens_ik, rens_str, rens_cp, hl16]) rfl (x_slices_symMergeCmpFunc_float32_0o_4Fi_SingularOf_1_ok v17 x19 v18 L15 r20 hf11) rfl (news_of trivial) (show List.Nodup [0] from by decide) (by simp [ren, rens, sigma, of_decide_eq_true hn12]) (by simp [backOb, sigma, ren, rens, rens_f32, rens_f64, rens_i64, rens_ik, rens_str, rens_cp]) ?_
      refine zN ?_
      refine zQ ?_
      refine zM (r := i64 v18) rfl rfl rfl rfl rfl ?_
      refine zA (r := i64 v18) rfl rfl rfl rfl rfl ?_
      refine zN ?_
      obtain ⟨x21, hx13, h10_⟩ := olet_some h10_
      obtain ⟨x22, hx14, h10_⟩ := olet_some h10_
      refine RunC.regionW ?_
      refine zM (r := i64 v18) rfl rfl rfl rfl rfl ?_
      refine zM (r := i64 v13) rfl rfl rfl rfl rfl ?_
      refine zL (r := i64 x21) rfl rfl rfl (LOp.eqr (LOp.mul rfl rfl rfl) (congrArg (ik .i64) hx13)) ?_
      refine zL (r := i64 x22) rfl rfl rfl (LOp.eqr (LOp.add rfl rfl rfl) (congrArg (ik .i64) hx14)) ?_
      refine zA (r := i64 x22) rfl rfl rfl rfl rfl ?_
      refine zN ?_
      cases Option.some.inj h10_
      exact ⟨_, rfl, (of_decide_eq_true hn12), ⟨aR, aR, aR, aR, aR, aR, trivial⟩, ⟨⟨rfl, .inr rfl⟩, trivial⟩⟩
     ·refine RunC.regionW ?_
      refine zM (r := i64 v18) rfl rfl rfl rfl rfl ?_
      refine zM (r := i64 a0) rfl rfl rfl rfl rfl ?_
      refine zL (r := b false) rfl rfl rfl (LOp.eqb (LOp.leq rfl rfl rfl) hc9) ?_
      refine zN ?_
      refine RunC.cond_false rfl rfl ?_
      refine RunC.exit ?_
      cases Option.some.inj h10_
      have hx := ho10 _ rfl
      exact ⟨L15, v17, hl16, ⟨aR, aR, aR, aR, aR, trivial⟩, ⟨⟨rfl, .inr rfl⟩, trivial⟩, hx⟩
    ·rintro τ11 Γ11 ⟨L23, v25, hl24, hw11, hd11, rfl⟩
     refine RunC.wl hw11 hd11 ?_
     replace h9_ : x_slices_stableCmpFunc_float32_0o_2Fi_SingularOf_1_k4 a0 a1 v13 L23 v25 = some y9_ := h9_
     unfold x_slices_stableCmpFunc_float32_0o_2Fi_SingularOf_1_k4 at h9_
     refine RunC.seq ?_
     refine RunC.cutN (fun τ Γ => ∃ (L28 : List F), L28.length = a1.length ∧ WeakLe τ [(0, oref 0 0 0 a1.length), (1, i64 a0), (2, fn (.func 54) [] []), (6, i64 v13)] ∧ DeadLe Γ [⟨0, some (L28.map f32)⟩] ∧ x_slices_stableCmpFunc_float32_0o_2Fi_SingularOf_1_k5 v13 L28 = some y9_) ?_ ?_
     ·refine RunC.seq ?_
      obtain ⟨x26, hx15, h9_⟩ := olet_some h9_
      refine RunC.regionW ?_
      refine zM (r := i64 v25) rfl rfl rfl rfl rfl ?_
      refine zM (r := i64 v13) rfl rfl rfl rfl rfl ?_
      refine zL (r := i64 x26) rfl rfl rfl (LOp.eqr (LOp.add rfl rfl rfl) (congrArg (ik .i64) hx15)) ?_
      refine zA (r := i64 x26) rfl rfl rfl rfl rfl ?_
      refine zN ?_
      refine RunC.seq ?_
      rcases bsel_some h9_ with ⟨hc16, h9_⟩ | ⟨hc16, h9_⟩
      ·refine RunC.regionW ?_
       refine zM (r := i64 x26) rfl rfl rfl rfl rfl ?_
       refine zM (r := i64 a0) rfl rfl rfl rfl rfl ?_
       refine zL (r := b true) rfl rfl rfl (LOp.eqb (LOp.lss rfl rfl rfl) hc16) ?_
       refine zN ?_
       refine RunC.cond_true rfl rfl ?_
       obtain ⟨r27, hf17, h9_⟩ := obind_some h9_
       obtain ⟨hn18, h9_⟩ := need_some h9_
       refine RunC.regionW ?_
       refine zM (r := oref 0 0 0 a1.length) rfl rfl rfl rfl rfl ?_
       refine zM (r := i64 v25) rfl rfl rfl rfl rfl ?_
       refine zM (r := i64 x26) rfl rfl rfl rfl rfl ?_
       refine zM (r := i64 a0) rfl rfl rfl rfl rfl ?_
       refine zM (r := fn (.func 54) [] []) rfl rfl rfl rfl rfl ?_
       refine ROps.callO (A := [oref 0 0 0 a1.length, i64 v25, i64 x26, i64 a0, fn (.func 54) [] []]) (args := [oref 0 0 0 L23.length, i64 v25, i64 x26, i64 a0, fn (.func 54) [] []]) (Γc := [⟨0, some (L23.map f32)⟩]) (Γc' := [⟨0, some (r27.map f32)⟩]) (r' := tup []) (Γ' := [⟨0, some (r27.map f32)⟩]) [(0, 0)] [] rfl (CallAs.func ent133 rfl rfl) rfl rfl (SelOk.of (show List.Nodup [0] from by decide) (SelL.arr0 (f := f32) (fun _ => rfl) rfl trivial)) (live_of ⟨⟨_, _, rfl⟩, trivial⟩) (by simp [ren, rens, sigma, rens_f32, rens_f64, rens_i64, rens_ik, rens_str, rens_cp, hl24]) rfl (x_slices_symMergeCmpFunc_float32_0o_4Fi_SingularOf_1_ok v25 x26 a0 L23 r27 hf17) rfl (news_of trivial) (show List.Nodup [0] from by decide) (by simp [ren, rens, sigma, of_decide_eq_true hn18]) (by simp [backOb, sigma, ren, rens, rens_f32, rens_f64, rens_i64, rens_ik, rens_str, rens_cp]) ?_
       refine zN ?_
       exact ⟨r27, (of_decide_eq_true hn18), ⟨aR, aR, aR, aR, trivial⟩, ⟨⟨rfl, .inr rfl⟩, trivial⟩, h9_⟩
      ·refine RunC.regionW ?_
       refine zM (r := i64 x26) rfl rfl rfl rfl rfl ?_
       refine zM (r := i64 a0) rfl rfl rfl rfl rfl ?_
       refine zL (r := b false) rfl rfl rfl (LOp.eqb (LOp.lss rfl rfl rfl) hc16) ?_
       refine zN ?_
       refine RunC.cond_false rfl rfl ?_
       refine RunC.skip ?_
       exact ⟨L23, hl24, ⟨aR, aR, aR, aR, trivial⟩, ⟨⟨rfl, .inr rfl⟩, trivial⟩, h9_⟩
     ·rintro τ12 Γ12 ⟨L28, hl29, hw12, hd12, h9_⟩
      refine RunC.wl hw12 hd12 ?_
      unfold x_slices_stableCmpFunc_float32_0o_2Fi_SingularOf_1_k5 at h9_
      obtain ⟨x30, hx19, h9_⟩ := olet_some h9_
      refine RunC.regionW ?_
      refine zM (r := i64 v13) rfl rfl rfl rfl rfl ?_
      refine zL (r := i64 x30) rfl rfl rfl (LOp.eqr (LOp.mul rfl rfl rfl) (congrArg (ik .i64) hx19)) ?_
      refine zA (r := i64 x30) rfl rfl rfl rfl rfl ?_
      refine zN ?_
      cases Option.some.inj h9_
      exact ⟨_, rfl, hl29, ⟨aR, aR, aR, aR, trivial⟩, ⟨⟨rfl, .inr rfl⟩, trivial⟩⟩
   ·refine RunC.regionW ?_
    refine zM (r := i64 v13) rfl rfl rfl rfl rfl ?_
    refine zM (r := i64 a0) rfl rfl rfl rfl rfl ?_
    refine zL (r := b false) rfl rfl rfl (LOp.eqb (LOp.lss rfl rfl rfl) hc7) ?_
    refine zN ?_
    refine RunC.cond_false rfl rfl ?_
    refine RunC.exit ?_
    cases Option.some.inj h9_
    have hx := ho9 _ rfl
    exact ⟨L11, hl12, trivial, ⟨⟨rfl, .inr rfl⟩, trivial⟩, hx⟩
  ·rintro τ13 Γ13 ⟨L31, hl32, hw13, hd13, rfl⟩
   replace h : x_slices_stableCmpFunc_float32_0o_2Fi_SingularOf_1_k6 L31 = some q0 := h
   unfold x_slices_stableCmpFunc_float32_0o_2Fi_SingularOf_1_k6 at h
   refine bodyQ.wl hw13 hd13 ?_
   have hq := Option.some.inj h
   subst q0
   exact bodyQ.mk (r' := tup []) [(0, 0)] (.inl rfl) rfl (show List.Nodup [0] from by decide) rfl rfl (Res.zero rfl) (SelL.arr (f := f32) (fun _ => rfl) rfl trivial)
noncomputable def x_slices_SortStableFunc_float32_float32_0o_1Fi_SingularOf_1 (a0 : List F) : Option ((List F)) :=
 obind (x_slices_stableCmpFunc_float32_0o_2Fi_SingularOf_1 ((a0.length : Nat) : Int) a0) fun (r1 : List F) =>
 need (decide (r1.length = a0.length)) <|
 some r1
theorem x_slices_SortStableFunc_float32_float32_0o_1Fi_SingularOf_1_ok (a0 : List F) (q0 : List F) (h : x_slices_SortStableFunc_float32_float32_0o_1Fi_SingularOf_1 a0 = some q0) : Ev Try.prog 53 [oref 0 0 0 a0.length, fn (.func 54) [] []] [⟨0, some (a0.map f32)⟩] (tup []) [⟨0, some (q0.map f32)⟩] := by
 refine Ev.start Try.func53 rfl rfl 0 (τ := [(0, oref 0 0 0 a0.length), (1, fn (.func 54) [] [])]) rfl (Γ' := [⟨0, some (a0.map f32)⟩]) rfl (n := 18) rfl (g := 1) rfl (by decide) ?_
 unfold x_slices_SortStableFunc_float32_float32_0o_1Fi_SingularOf_1 at h
 obtain ⟨r1, hf1, h⟩ := obind_some h
 obtain ⟨hn2, h⟩ := need_some h
 refine RunC.regionW ?_
 refine zM (r := oref 0 0 0 a0.length) rfl rfl rfl rfl rfl ?_
 refine zM (r := oref 0 0 0 a0.length) rfl rfl rfl rfl rfl ?_
 refine zL (r := i64 ((a0.length : Nat) : Int)) rfl rfl rfl (LOp.len_oref und23 rfl rfl) ?_
 refine zM (r := fn (.func 54) [] []) rfl rfl rfl rfl rfl ?_
 refine ROps.callO (A := [oref 0 0 0 a0.length, i64 ((a0.length : Nat) : Int), fn (.func 54) [] []]) (args := [oref 0 0 0 a0.length, i64 ((a0.length : Nat) : Int), fn (.func 54) [] []]) (Γc := [⟨0, some (a0.map f32)⟩]) (Γc' := [⟨0, some (r1.map f32)⟩]) (r' := tup []) (Γ' := [⟨0, some (r1.map f32)⟩]) [(0, 0)] [] rfl (CallAs.func ent108 rfl rfl) rfl rfl (SelOk.of (show List.Nodup [0] from by decide) (SelL.arr0 (f := f32) (fun _ => rfl) rfl trivial)) (live_of ⟨⟨_, _, rfl⟩, trivial⟩) (by simp [ren, rens, sigma, rens_f32, rens_f64, rens_i64, rens_ik, rens_str, rens_cp]) rfl (x_slices_stableCmpFunc_float32_0o_2Fi_SingularOf_1_ok ((a0.length : Nat) : Int) a0 r1 hf1) rfl (news_of trivial) (show List.Nodup [0] from by decide) (by simp [ren, rens, sigma, of_decide_eq_true hn2]) (by simp [backOb, sigma, ren, rens, rens_f32, rens_f64, rens_i64, rens_ik, rens_str, rens_cp]) ?_
 refine zN ?_
 have hq := Option.some.inj h
 subst q0
 exact bodyQ.mk (r' := tup []) [(0, 0)] (.inl rfl) rfl (show List.Nodup [0] from by decide) rfl rfl (Res.zero rfl) (SelL.arr (f := f32) (fun _ => rfl) rfl trivial)
noncomputable def i_allFinite_0o (a0 : List F) : Option ((Bool × (List F)) ⊕ (Bool × (List F) × (List F))) :=
 obind (i_areFinite a0) fun (r1 : Bool) =>
 bsel r1 (
  some (Sum.inl (true, a0))) (
  some (Sum.inr (false, a0, ([] : List F))))
theorem i_allFinite_0o_ok0 (a0 : List F) (q0 : Bool) (q1 : List F) (h : i_allFinite_0o a0 = some (Sum.inl (q0, q1))) : Ev Try.prog 56 [oref 0 0 0 a0.length] [⟨0, some (a0.map f32)⟩] (tup [oref 0 0 0 q1.length, b q0]) [⟨0, some (q1.map f32)⟩] := by
 refine Ev.start Try.func56 rfl rfl 1 (τ := [(0, oref 0 0 0 a0.length)]) rfl (Γ' := [⟨0, some (a0.map f32)⟩, ⟨0, none⟩]) rfl (n := 16) rfl (g := 1) rfl (by decide) ?_
 unfold i_allFinite_0o at h
 refine zQ ?_
 refine zA (r := nilsl) rfl rfl rfl rfl rfl ?_
 refine zA (r := b false) rfl rfl rfl rfl rfl ?_
 refine zN ?_
 refine RunC.seq ?_
 refine RunC.seq ?_
 obtain ⟨r1, hf1, h⟩ := obind_some h
 rcases bsel_some h with ⟨hc2, h⟩ | ⟨hc2, h⟩
 ·refine RunC.regionW ?_
  refine zM (r := oref 0 0 0 a0.length) rfl rfl rfl rfl rfl ?_
  refine ROps.d (r := b true) (fs := []) (Γ' := [⟨0, some (a0.map f32)⟩, ⟨0, none⟩]) rfl rfl rfl (TOp.eqb (TOp.callB (CallAs.func ent90 rfl rfl) (Bors.cons (Bor.own (f := f32) (fun _ => rfl) rfl rfl) Bors.nil) rfl rfl (i_areFinite_ok a0 r1 hf1)) hc2) rfl ?_
  refine zL (r := b false) rfl rfl rfl (LOp.eqb (LOp.not rfl rfl) rfl) ?_
  refine zN ?_
  refine RunC.cond_false rfl rfl ?_
  refine RunC.skip ?_
  refine zQ ?_
  refine zM (r := oref 0 0 0 a0.length) rfl rfl rfl rfl rfl ?_
  refine zA (r := oref 0 0 0 a0.length) rfl rfl rfl rfl rfl ?_
  refine zA (r := b true) rfl rfl rfl rfl rfl ?_
  refine zN ?_
  refine RunC.ret ?_
  have hq := Option.some.inj h
  have hq := Sum.inl.inj hq
  obtain ⟨hq0, hq⟩ := Prod.mk.inj hq
  subst q0
  subst q1
  exact bodyQ.mk (r' := tup [oref 0 0 0 a0.length, b true]) [(0, 0)] (.inr rfl) rfl (show List.Nodup [0] from by decide) rfl rfl (Res.two rfl (RV.tmp rfl) (RV.tmp rfl)) (SelL.arr (f := f32) (fun _ => rfl) rfl trivial)
 ·refine RunC.regionW ?_
  refine zM (r := oref 0 0 0 a0.length) rfl rfl rfl rfl rfl ?_
  refine ROps.d (r := b false) (fs := []) (Γ' := [⟨0, some (a0.map f32)⟩, ⟨0, none⟩]) rfl rfl rfl (TOp.eqb (TOp.callB (CallAs.func ent90 rfl rfl) (Bors.cons (Bor.own (f := f32) (fun _ => rfl) rfl rfl) Bors.nil) rfl rfl (i_areFinite_ok a0 r1 hf1)) hc2) rfl ?_
  refine zL (r := b true) rfl rfl rfl (LOp.eqb (LOp.not rfl rfl) rfl) ?_
  refine zN ?_
  refine RunC.cond_true rfl rfl ?_
  refine zQ ?_
  refine zA (r := nilsl) rfl rfl rfl rfl rfl ?_
  refine zA (r := b false) rfl rfl rfl rfl rfl ?_
  refine zN ?_
  cases Option.some.inj h
theorem i_allFinite_0o_ok1 (a0 : List F) (q0 : Bool) (q1 : List F) (q2 : List F) (h : i_allFinite_0o a0 = some (Sum.inr (q0, q1, q2))) : Ev Try.prog 56 [oref 0 0 0 a0.length] [⟨0, some (a0.map f32)⟩] (tup [oref 1 0 0 q2.length, b q0]) [⟨0, some (q1.map f32)⟩, ⟨0, some (q2.map f32)⟩] := by
 refine Ev.start Try.func56 rfl rfl 1 (τ := [(0, oref 0 0 0 a0.length)]) rfl (Γ' := [⟨0, some (a0.map f32)⟩, ⟨0, none⟩]) rfl (n := 16) rfl (g := 1) rfl (by decide) ?_
 unfold i_allFinite_0o at h
 refine zQ ?_
 refine zA (r := nilsl) rfl rfl rfl rfl rfl ?_
 refine zA (r := b false) rfl rfl rfl rfl rfl ?_
 refine zN ?_
 refine RunC.seq ?_
 refine RunC.seq ?_
 obtain ⟨r1, hf1, h⟩ := obind_some h
 rcases bsel_some h with ⟨hc2, h⟩ | ⟨hc2, h⟩
 ·refine RunC.regionW ?_
  refine zM (r := oref 0 0 0 a0.length) rfl rfl rfl rfl rfl ?_
  refine ROps.d (r := b true) (fs := []) (Γ' := [⟨0, some (a0.map f32)⟩, ⟨0, none⟩]) rfl rfl rfl (TOp.eqb (TOp.callB (CallAs.func ent90 rfl rfl) (Bors.cons (Bor.own (f := f32) (fun _ => rfl) rfl rfl) Bors.nil) rfl rfl (i_areFinite_ok a0 r1 hf1)) hc2) rfl ?_
  refine zL (r := b false) rfl rfl rfl (LOp.eqb (LOp.not rfl rfl) rfl) ?_
  refine zN ?_
  refine RunC.cond_false rfl rfl ?_
  refine RunC.skip ?_
  refine zQ ?_
  refine zM (r := oref 0 0 0 a0.length) rfl rfl rfl rfl rfl ?_
  refine zA (r := oref 0 0 0 a0.length) rfl rfl rfl rfl rfl ?_
  refine zA (r := b true) rfl rfl rfl rfl rfl ?_
  refine zN ?_
  cases Option.some.inj h
 ·refine RunC.regionW ?_
  refine zM (r := oref 0 0 0 a0.length) rfl rfl rfl rfl rfl ?_
  refine ROps.d (r := b false) (fs := []) (Γ' := [⟨0, some (a0.map f32)⟩, ⟨0, none⟩]) rfl rfl rfl (TOp.eqb (TOp.callB (CallAs.func ent90 rfl rfl) (Bors.cons (Bor.own (f := f32) (fun _ => rfl) rfl rfl) Bors.nil) rfl rfl (i_areFinite_ok a0 r1 hf1)) hc2) rfl ?_
  refine zL (r := b true) rfl rfl rfl (LOp.eqb (LOp.not rfl rfl) rfl) ?_
  refine zN ?_
  refine RunC.cond_true rfl rfl ?_
  refine zQ ?_
  refine zA (r := nilsl) rfl rfl rfl rfl rfl ?_
  refine zA (r := b false) rfl rfl rfl rfl rfl ?_
  refine zN ?_
  refine RunC.nil_slot (Γ' := [⟨0, some (a0.map f32)⟩, ⟨1, some (([] : List F).map f32)⟩]) 2 1 rfl rfl rfl ?_
  refine RunC.ret ?_
  have hq := Option.some.inj h
  have hq := Sum.inr.inj hq
  obtain ⟨hq0, hq⟩ := Prod.mk.inj hq
  obtain ⟨hq1, hq⟩ := Prod.mk.inj hq
  subst q0
  subst q1
  subst q2
  exact bodyQ.mk (r' := tup [oref 1 1 0 (([] : List F).length), b false]) [(0, 0), (1, 1)] (.inr rfl) rfl (show List.Nodup [0, 1] from by decide) rfl rfl (Res.eq (Res.two rfl (RV.tmp rfl) (RV.tmp rfl)) (by rw [(show ([] : List F).length = 0 from rfl)] <;> rfl)) (SelL.arr (f := f32) (fun _ => rfl) rfl (SelL.arr0 (f := f32) (fun _ => rfl) rfl trivial))
noncomputable def i_SingularOf_b1 (r8 : List F) (L11 : List F) (v12 : Int) : Option (LR ((List F) × Int) ((List F)) (Bool × (List F))) :=
 bsel (decide (v12 < ((r8.length : Nat) : Int))) (
  obind (at? r8 v12) fun (e13 : F) =>
  obind (i_RootNumber e13) fun (r14 : F) =>
  need (apok 4 L11.length 1) <|
  olet (IntKind.i64.wrap (v12 + 1)) fun (x15 : Int) =>
  some (LR.next ((L11 ++ ([r14] : List F)), x15))) (
  some (LR.out L11))
noncomputable def i_SingularOf_s1 (r8 : List F) : ((List F) × Int) → Option (LR ((List F) × Int) ((List F)) (Bool × (List F))) := fun s => i_SingularOf_b1 r8 s.1 s.2
noncomputable def i_SingularOf_k1 (L18 : List F) : Option (Bool × (List F)) :=
 obind (x_slices_SortStableFunc_float32_float32_0o_1Fi_SingularOf_1 L18) fun (r19 : List F) =>
 need (decide (r19.length = L18.length)) <|
 obind (i_allFinite_0o r19) (fun z => osum z (fun y => obind2 (some y) fun (r20 : Bool) (r21 : List F) =>
  need (decide (r21.length = L18.length)) <|
  some (r20, r21)) (fun y => obind3 (some y) fun (r22 : Bool) (r23 : List F) (r24 : List F) =>
  need (decide (r23.length = L18.length)) <|
  some (r22, r24)))
noncomputable def i_SingularOf (a0 : Int) (a1 : Int) (a2 : List F) (a3 : Int) : Option (Bool × (List F)) :=
 obind7 (i_SideTurns a0 a1 a2 a3) fun (r1 : Int) (r2 : Int) (r3 : Int) (r4 : Int) (r5 : Bool) (r6 : List F) (r7 : List F) =>
 bsel r5 (
  obind (i_Matrix_columnSquares r1 r2 r6) fun (r8 : List F) =>
  obind (loopM (i_SingularOf_s1 r8) (([] : List F), 0)) fun z => osum z (fun e => i_SingularOf_k1 e) (fun r => some r)) (
  some (false, ([] : List F)))
theorem i_SingularOf_ok (a0 : Int) (a1 : Int) (a2 : List F) (a3 : Int) (q0 : Bool) (q1 : List F) (h : i_SingularOf a0 a1 a2 a3 = some (q0, q1)) : Ev Try.prog 22 [agg [i64 a0, i64 a1, sl a2.length (a2.map f32)], i64 a3] [] (tup [oref 0 0 0 q1.length, b q0]) [⟨0, some (q1.map f32)⟩] := by
 refine Ev.start Try.func22 rfl rfl 4 (τ := [(0, agg [i64 a0, i64 a1, sl a2.length (a2.map f32)]), (1, i64 a3)]) rfl (Γ' := [⟨0, none⟩, ⟨0, none⟩, ⟨0, none⟩, ⟨0, none⟩]) rfl (n := 83) rfl (g := 0) rfl (fun _ => rfl) ?_
 unfold i_SingularOf at h
 refine zQ ?_
 refine ROps.d (r := ptr [i64 a0, i64 a1, sl a2.length (a2.map f32)]) (fs := []) (Γ' := [⟨0, none⟩, ⟨0, none⟩, ⟨0, none⟩, ⟨0, none⟩]) rfl rfl rfl (TOp.box_s rfl rfl rfl) rfl ?_
 refine zA (r := nilsl) rfl rfl rfl rfl rfl ?_
 refine zA (r := b false) rfl rfl rfl rfl rfl ?_
 refine zN ?_
 refine RunC.seq ?_
 obtain ⟨r1, r2, r3, r4, r5, r6, r7, hf1, h⟩ := obind7_some h
 rcases bsel_some h with ⟨hc2, h⟩ | ⟨hc2, h⟩
 ·refine RunC.regionW ?_
  refine zL (r := agg [i64 a0, i64 a1, sl a2.length (a2.map f32)]) rfl rfl rfl (LOp.loadAgg agg45 siz45 rfl rfl rfl rfl) ?_
  refine zM (r := i64 a3) rfl rfl rfl rfl rfl ?_
  refine ROps.d (r := tup [agg [i64 r1, i64 r2, oref 0 1 0 r6.length], agg [i64 r3, i64 r4, oref 1 1 0 r7.length], b r5]) (fs := [(0, (r6.map f32)), (1, (r7.map f32))]) (Γ' := [⟨1, some (r6.map f32)⟩, ⟨1, some (r7.map f32)⟩, ⟨0, none⟩, ⟨0, none⟩]) rfl rfl rfl (TOp.callBN (ls := [(r6.map f32), (r7.map f32)]) [0, 1] (CallAs.func ent50 rfl rfl) (Bors.cons (Bor.agg (Bors.cons (Bor.pure rfl) (Bors.cons (Bor.pure rfl) (Bors.cons (Bor.sl (fun _ => rfl)) Bors.nil)))) (Bors.cons (Bor.pure rfl) Bors.nil)) rfl (i_SideTurns_ok a0 a1 a2 a3 r1 r2 r3 r4 r5 r6 r7 hf1) (and_all (lts0_map (f := f32) (fun _ => rfl) _) (and_all (lts0_map (f := f32) (fun _ => rfl) _) rfl)) (and_all (noss_map (f := f32) (fun _ => rfl) _) (and_all (noss_map (f := f32) (fun _ => rfl) _) rfl)) rfl (by decide) (ns_of ⟨⟨_, rfl⟩, ⟨_, rfl⟩, trivial⟩)) rfl ?_
  refine zM (r := tup [agg [i64 r1, i64 r2, oref 0 1 0 r6.length], agg [i64 r3, i64 r4, oref 1 1 0 r7.length], b r5]) rfl rfl rfl rfl rfl ?_
  refine zL (r := agg [i64 r1, i64 r2, oref 0 1 0 r6.length]) rfl rfl rfl (LOp.extract rfl rfl rfl) ?_
  refine zL (r := agg [i64 r3, i64 r4, oref 1 1 0 r7.length]) rfl rfl rfl (LOp.extract rfl rfl rfl) ?_
  refine zL (r := b true) rfl rfl rfl (LOp.eqb (LOp.extract rfl rfl rfl) hc2) ?_
  refine ROps.d (r := optr 2 1 0) (fs := [(2, [i64 0, i64 0, nilsl])]) (Γ' := [⟨1, some (r6.map f32)⟩, ⟨1, some (r7.map f32)⟩, ⟨1, some [i64 0, i64 0, nilsl]⟩, ⟨0, none⟩]) rfl rfl rfl (TOp.alloc_o (g := ⟨0, none⟩) 2 rfl zer45 zok45 rfl) rfl ?_
  refine ROps.d (r := optr 3 1 0) (fs := [(3, [i64 0, i64 0, nilsl])]) (Γ' := [⟨1, some (r6.map f32)⟩, ⟨1, some (r7.map f32)⟩, ⟨1, some [i64 0, i64 0, nilsl]⟩, ⟨1, some [i64 0, i64 0, nilsl]⟩]) rfl rfl rfl (TOp.alloc_o (g := ⟨0, none⟩) 3 rfl zer45 zok45 rfl) rfl ?_
  refine ROps.store_le (r := agg [i64 r1, i64 r2, oref 0 1 0 r6.length]) (l' := [i64 r1, i64 r2, oref 0 1 0 r6.length]) (Γ' := [⟨1, some (r6.map f32)⟩, ⟨1, some (r7.map f32)⟩, ⟨1, some [i64 r1, i64 r2, oref 0 1 0 r6.length]⟩, ⟨1, some [i64 0, i64 0, nilsl]⟩]) rfl siz45 rfl rfl rfl aR rfl rfl rfl rfl (Nat.le_of_ble_eq_true rfl) rfl rfl ?_
  refine ROps.store_le (r := agg [i64 r3, i64 r4, oref 1 1 0 r7.length]) (l' := [i64 r3, i64 r4, oref 1 1 0 r7.length]) (Γ' := [⟨1, some (r6.map f32)⟩, ⟨1, some (r7.map f32)⟩, ⟨1, some [i64 r1, i64 r2, oref 0 1 0 r6.length]⟩, ⟨1, some [i64 r3, i64 r4, oref 1 1 0 r7.length]⟩]) rfl siz45 rfl rfl rfl aR rfl rfl rfl rfl (Nat.le_of_ble_eq_true rfl) rfl rfl ?_
  refine zA (r := b true) rfl rfl rfl rfl rfl ?_
  refine zN ?_
  refine RunC.wl (τ' := [(6, optr 2 1 0), (8, b true)]) (Γ' := [⟨1, some (r6.map f32)⟩, ⟨1, none⟩, ⟨1, some [i64 r1, i64 r2, oref 0 1 0 r6.length]⟩, ⟨1, none⟩]) ⟨aR, aR, trivial⟩ ⟨⟨rfl, .inr rfl⟩, ⟨rfl, .inl rfl⟩, ⟨rfl, .inr rfl⟩, ⟨rfl, .inl rfl⟩, trivial⟩ ?_
  refine RunC.seq ?_
  refine zQ ?_
  refine zM (r := b true) rfl rfl rfl rfl rfl ?_
  refine zL (r := b false) rfl rfl rfl (LOp.eqb (LOp.not rfl rfl) rfl) ?_
  refine zN ?_
  refine RunC.cond_false rfl rfl ?_
  refine RunC.skip ?_
  refine zQ ?_
  refine ROps.d (r := oref 1 2 0 0) (fs := [(1, (([] : List F).map f32))]) (Γ' := [⟨1, some (r6.map f32)⟩, ⟨2, some (([] : List F).map f32)⟩, ⟨1, some [i64 r1, i64 r2, oref 0 1 0 r6.length]⟩, ⟨1, none⟩]) rfl rfl rfl (TOp.buildSlice_o (g := ⟨1, none⟩) (za := f32 (some 0)) (qs := []) 1 rfl und23 siz26 zer26 rfl zel26 rfl rfl trivial rfl) rfl ?_
  refine zA (r := oref 1 2 0 0) rfl rfl rfl rfl rfl ?_
  refine zN ?_
  refine RunC.seq ?_
  refine RunC.seq ?_
  obtain ⟨r8, hf3, h⟩ := obind_some h
  refine RunC.regionW ?_
  refine ROps.d (r := agg [i64 r1, i64 r2, oref 0 1 0 r6.length]) (fs := []) (Γ' := [⟨1, some (r6.map f32)⟩, ⟨2, some (([] : List F).map f32)⟩, ⟨1, some [i64 r1, i64 r2, oref 0 1 0 r6.length]⟩, ⟨1, none⟩]) rfl rfl rfl (TOp.loadAgg_o rfl agg45 siz45 rfl rfl rfl rfl) rfl ?_
  refine ROps.d (r := oref 3 2 0 r8.length) (fs := [(3, (r8.map f32))]) (Γ' := [⟨1, some (r6.map f32)⟩, ⟨2, some (([] : List F).map f32)⟩, ⟨1, some [i64 r1, i64 r2, oref 0 1 0 r6.length]⟩, ⟨2, some (r8.map f32)⟩]) rfl rfl rfl (TOp.callBN (ls := [(r8.map f32)]) [3] (CallAs.func ent51 rfl rfl) (Bors.cons (Bor.agg (Bors.cons (Bor.pure rfl) (Bors.cons (Bor.pure rfl) (Bors.cons (Bor.own (f := f32) (fun _ => rfl) rfl rfl) Bors.nil)))) Bors.nil) rfl (i_Matrix_columnSquares_ok r1 r2 r6 r8 hf3) (and_all (lts0_map (f := f32) (fun _ => rfl) _) rfl) (and_all (noss_map (f := f32) (fun _ => rfl) _) rfl) rfl (by decide) (ns_of ⟨⟨_, rfl⟩, trivial⟩)) rfl ?_
  refine zL (r := i64 ((r8.length : Nat) : Int)) rfl rfl rfl (LOp.len_oref und23 rfl rfl) ?_
  refine zM (r := i64 0) rfl rfl rfl rfl rfl ?_
  refine zN ?_
  refine RunC.wl (τ' := [(9, oref 1 2 0 0), (23, oref 3 2 0 r8.length), (24, i64 ((r8.length : Nat) : Int)), (25, i64 0)]) (Γ' := [⟨1, none⟩, ⟨2, some (([] : List F).map f32)⟩, ⟨1, none⟩, ⟨2, some (r8.map f32)⟩]) ⟨aR, aR, aR, aR, trivial⟩ ⟨⟨rfl, .inl rfl⟩, ⟨rfl, .inr rfl⟩, ⟨rfl, .inl rfl⟩, ⟨rfl, .inr rfl⟩, trivial⟩ ?_
  obtain ⟨z2, hz_2, h⟩ := obind_some h
  refine RunC.cutN (fun τ Γ => ∃ (L18 : List F) (u16 : Nat) (u17 : Nat), WeakLe τ [(9, oref 1 u17 0 L18.length)] ∧ DeadLe Γ [⟨u16, none⟩, ⟨u17, some (L18.map f32)⟩, ⟨1, none⟩, ⟨2, none⟩] ∧ z2 = .inl L18) ?_ ?_
  ·refine RunC.block (RunC.loop (RunL.loopM (x := z2) (i_SingularOf_s1 r8) (fun (s : (List F) × Int) τ Γ => ∃ (u9 : Nat) (u10 : Nat), WeakLe τ [(9, oref 1 u10 0 s.1.length), (23, oref 3 2 0 r8.length), (24, i64 ((r8.length : Nat) : Int)), (25, i64 s.2)] ∧ DeadLe Γ [⟨u9, none⟩, ⟨u10, some (s.1.map f32)⟩, ⟨1, none⟩, ⟨2, some (r8.map f32)⟩]) ?_ _ _ _ hz_2 ⟨1, 2, ⟨aR, aR, aR, aR, trivial⟩, ⟨⟨rfl, .inl rfl⟩, ⟨rfl, .inr rfl⟩, ⟨rfl, .inl rfl⟩, ⟨rfl, .inr rfl⟩, trivial⟩⟩))
   rintro ⟨L11, v12⟩ τ2 Γ2 y2_ ⟨u9, u10, hw2, hd2⟩ h2_ ho2 hr2
   refine RunC.wl (τ' := [(9, oref 1 u10 0 L11.length), (23, oref 3 2 0 r8.length), (24, i64 ((r8.length : Nat) : Int)), (25, i64 v12)]) (Γ' := [⟨u9, none⟩, ⟨u10, some (L11.map f32)⟩, ⟨1, none⟩, ⟨2, some (r8.map f32)⟩]) hw2 hd2 ?_
   replace h2_ : i_SingularOf_b1 r8 L11 v12 = some y2_ := h2_
   unfold i_SingularOf_b1 at h2_
   refine RunC.seq ?_
   rcases bsel_some h2_ with ⟨hc4, h2_⟩ | ⟨hc4, h2_⟩
   ·refine RunC.regionW ?_
    refine zL (r := b true) rfl rfl rfl (LOp.eqb (LOp.lss rfl rfl rfl) hc4) ?_
    refine zN ?_
    refine RunC.seq ?_
    refine RunC.cond_true rfl rfl ?_
    refine RunC.skip ?_
    refine RunC.seq ?_
    refine RunC.block ?_
    refine RunC.seq ?_
    obtain ⟨e13, he5, h2_⟩ := obind_some h2_
    refine RunC.regionW ?_
    refine ROps.d (r := optr 3 2 v12.toNat) (fs := []) (Γ' := [⟨u9, none⟩, ⟨u10, some (L11.map f32)⟩, ⟨1, none⟩, ⟨2, some (r8.map f32)⟩]) rfl rfl rfl (TOp.ixo und23 siz26 rfl rfl rfl (at_in he5 rfl) rfl) rfl ?_
    refine ROps.d (r := f32 e13) (fs := []) (Γ' := [⟨u9, none⟩, ⟨u10, some (L11.map f32)⟩, ⟨1, none⟩, ⟨2, some (r8.map f32)⟩]) rfl rfl rfl (TOp.load1_o rfl (at_cell he5) agg26 rfl rfl) rfl ?_
    refine zA (r := f32 e13) rfl rfl rfl rfl rfl ?_
    refine zN ?_
    obtain ⟨r14, hf6, h2_⟩ := obind_some h2_
    obtain ⟨hm7, h2_⟩ := need_some h2_
    refine RunC.regionW ?_
    refine zM (r := oref 1 u10 0 L11.length) rfl rfl rfl rfl rfl ?_
    refine zM (r := f32 e13) rfl rfl rfl rfl rfl ?_
    refine ROps.d (r := f32 r14) (fs := []) (Γ' := [⟨u9, none⟩, ⟨u10, some (L11.map f32)⟩, ⟨1, none⟩, ⟨2, some (r8.map f32)⟩]) rfl rfl rfl (TOp.callB (CallAs.func ent52 rfl rfl) (Bors.cons (Bor.pure rfl) Bors.nil) rfl rfl (i_RootNumber_ok e13 r14 hf6)) rfl ?_
    refine ROps.d (r := oref 0 (u9 + 1) 0 1) (fs := [(0, (([r14] : List F).map f32))]) (Γ' := [⟨(u9 + 1), some (([r14] : List F).map f32)⟩, ⟨u10, some (L11.map f32)⟩, ⟨1, none⟩, ⟨2, some (r8.map f32)⟩]) rfl rfl rfl (TOp.buildSlice_o (g := ⟨u9, none⟩) (za := f32 (some 0)) (qs := [(0, [f32 r14])]) 0 rfl und23 siz26 zer26 rfl zel26 rfl rfl ⟨rfl, ⟨_, ALe.refl _, rfl⟩, trivial⟩ rfl) rfl ?_
    refine ROps.app (f := f32) (xs := L11) (ys := ([r14] : List F)) (Γ' := [⟨(u9 + 1), some (([r14] : List F).map f32)⟩, ⟨(u10 + 1), some ((L11 ++ ([r14] : List F)).map f32)⟩, ⟨1, none⟩, ⟨2, some (r8.map f32)⟩]) rfl pun23 inf26 rfl rfl rfl rfl rfl rfl rfl rfl rfl (by simp) (ReadAs.own rfl (by simp)) (ones_map (fun _ => rfl)) (ap_by hm7) (ap_mx hm7) rfl ?_
    refine zA (r := oref 1 (u10 + 1) 0 (L11.length + 1)) rfl rfl rfl rfl rfl ?_
    refine zN ?_
    refine RunC.wl (τ' := [(9, oref 1 (u10 + 1) 0 (L11.length + 1)), (23, oref 3 2 0 r8.length), (24, i64 ((r8.length : Nat) : Int)), (25, i64 v12)]) (Γ' := [⟨(u9 + 1), none⟩, ⟨(u10 + 1), some ((L11 ++ ([r14] : List F)).map f32)⟩, ⟨1, none⟩, ⟨2, some (r8.map f32)⟩]) ⟨aR, aR, aR, aR, trivial⟩ ⟨⟨rfl, .inl rfl⟩, ⟨rfl, .inr rfl⟩, ⟨rfl, .inl rfl⟩, ⟨rfl, .inr rfl⟩, trivial⟩ ?_
    obtain ⟨x15, hx8, h2_⟩ := olet_some h2_
    refine RunC.regionW ?_
    refine zL (r := i64 x15) rfl rfl rfl (LOp.eqr (LOp.add rfl rfl rfl) (congrArg (ik .i64) hx8)) ?_
    refine zM (r := i64 x15) rfl rfl rfl rfl rfl ?_
    refine zN ?_
    cases Option.some.inj h2_
    exact ⟨_, rfl, (u9 + 1), (u10 + 1), ⟨(ALe.eq (by rw [(app_len rfl rfl)] <;> rfl)), aR, aR, aR, trivial⟩, ⟨⟨rfl, .inl rfl⟩, ⟨rfl, .inr rfl⟩, ⟨rfl, .inl rfl⟩, ⟨rfl, .inr rfl⟩, trivial⟩⟩
   ·refine RunC.regionW ?_
    refine zL (r := b false) rfl rfl rfl (LOp.eqb (LOp.lss rfl rfl rfl) hc4) ?_
    refine zN ?_
    refine RunC.seq ?_
    refine RunC.cond_false rfl rfl ?_
    refine RunC.exit ?_
    cases Option.some.inj h2_
    have hx := ho2 _ rfl
    exact ⟨L11, u9, u10, ⟨aR, trivial⟩, ⟨⟨rfl, .inl rfl⟩, ⟨rfl, .inr rfl⟩, ⟨rfl, .inl rfl⟩, ⟨rfl, .inl rfl⟩, trivial⟩, hx⟩
  ·rintro τ3 Γ3 ⟨L18, u16, u17, hw3, hd3, rfl⟩
   refine RunC.wl hw3 hd3 ?_
   replace h : i_SingularOf_k1 L18 = some (q0, q1) := h
   unfold i_SingularOf_k1 at h
   refine RunC.seq ?_
   obtain ⟨r19, hf9, h⟩ := obind_some h
   obtain ⟨hn10, h⟩ := need_some h
   refine RunC.regionW ?_
   refine zM (r := oref 1 u17 0 L18.length) rfl rfl rfl rfl rfl ?_
   refine ROps.callO (A := [oref 1 u17 0 L18.length, fn (.func 54) [] []]) (args := [oref 0 0 0 L18.length, fn (.func 54) [] []]) (Γc := [⟨0, some (L18.map f32)⟩]) (Γc' := [⟨0, some (r19.map f32)⟩]) (r' := tup []) (Γ' := [⟨u16, none⟩, ⟨u17, some (r19.map f32)⟩, ⟨1, none⟩, ⟨2, none⟩]) [(1, u17)] [] rfl (CallAs.func ent53 rfl rfl) rfl rfl (SelOk.of (show List.Nodup [1] from by decide) (SelL.arr0 (f := f32) (fun _ => rfl) rfl trivial)) (live_of ⟨⟨_, _, rfl⟩, trivial⟩) (by simp [ren, rens, sigma, rens_f32, rens_f64, rens_i64, rens_ik, rens_str, rens_cp]) rfl (x_slices_SortStableFunc_float32_float32_0o_1Fi_SingularOf_1_ok L18 r19 hf9) rfl (news_of trivial) (show List.Nodup [1] from by decide) (by simp [ren, rens, sigma, of_decide_eq_true hn10]) (by simp [backOb, sigma, ren, rens, rens_f32, rens_f64, rens_i64, rens_ik, rens_str, rens_cp]) ?_
   refine zN ?_
   refine RunC.seq ?_
   obtain ⟨z4, hf11, h⟩ := obind_some h
   rcases z4 with z4 | z4
   ·replace h := (osum_inl _ _ _).symm.trans h
    obtain ⟨r20, r21, hz5, h⟩ := obind2_some h
    cases hz5
    obtain ⟨hn12, h⟩ := need_some h
    refine RunC.regionW ?_
    refine zM (r := oref 1 u17 0 L18.length) rfl rfl rfl rfl rfl ?_
    refine ROps.callO (A := [oref 1 u17 0 L18.length]) (args := [oref 0 0 0 r19.length]) (Γc := [⟨0, some (r19.map f32)⟩]) (Γc' := [⟨0, some (r21.map f32)⟩]) (r' := tup [oref 1 u17 0 L18.length, b r20]) (Γ' := [⟨u16, none⟩, ⟨u17, some (r21.map f32)⟩, ⟨1, none⟩, ⟨2, none⟩]) [(1, u17)] [] rfl (CallAs.func ent56 rfl rfl) rfl rfl (SelOk.of (show List.Nodup [1] from by decide) (SelL.arr0 (f := f32) (fun _ => rfl) rfl trivial)) (live_of ⟨⟨_, _, rfl⟩, trivial⟩) (by simp [ren, rens, sigma, rens_f32, rens_f64, rens_i64, rens_ik, rens_str, rens_cp, (of_decide_eq_true hn10)]) rfl (i_allFinite_0o_ok0 r19 r20 r21 hf11) rfl (news_of trivial) (show List.Nodup [1] from by decide) (by simp [ren, rens, sigma, of_decide_eq_true hn12]) (by simp [backOb, sigma, ren, rens, rens_f32, rens_f64, rens_i64, rens_ik, rens_str, rens_cp]) ?_
    refine zL (r := oref 1 u17 0 L18.length) rfl rfl rfl (LOp.extract rfl rfl rfl) ?_
    refine zL (r := b r20) rfl rfl rfl (LOp.extract rfl rfl rfl) ?_
    refine zA (r := oref 1 u17 0 L18.length) rfl rfl rfl rfl rfl ?_
    refine zA (r := b r20) rfl rfl rfl rfl rfl ?_
    refine zN ?_
    refine RunC.ret ?_
    have hq := Option.some.inj h
    obtain ⟨hq0, hq⟩ := Prod.mk.inj hq
    subst q0
    subst q1
    exact bodyQ.mk (r' := tup [oref 1 u17 0 r21.length, b r20]) [(1, u17)] (.inr rfl) rfl (show List.Nodup [1] from by decide) (by simp [ren, rens, sigma]) rfl (Res.eq (Res.two rfl (RV.tmp rfl) (RV.tmp rfl)) (by rw [(show r21.length = L18.length from (of_decide_eq_true hn12))] <;> rfl)) (SelL.arr0 (f := f32) (fun _ => rfl) rfl trivial)
   ·replace h := (osum_inr _ _ _).symm.trans h
    obtain ⟨r22, r23, r24, hz6, h⟩ := obind3_some h
    cases hz6
    obtain ⟨hn13, h⟩ := need_some h
    refine RunC.regionW ?_
    refine zM (r := oref 1 u17 0 L18.length) rfl rfl rfl rfl rfl ?_
    refine ROps.callO (A := [oref 1 u17 0 L18.length]) (args := [oref 0 0 0 r19.length]) (Γc := [⟨0, some (r19.map f32)⟩]) (Γc' := [⟨0, some (r23.map f32)⟩, ⟨0, some (r24.map f32)⟩]) (r' := tup [oref 0 (u16 + 1) 0 r24.length, b r22]) (Γ' := [⟨(u16 + 1), some (r24.map f32)⟩, ⟨u17, some (r23.map f32)⟩, ⟨1, none⟩, ⟨2, none⟩]) [(1, u17)] [(0, (u16 + 1))] rfl (CallAs.func ent56 rfl rfl) rfl rfl (SelOk.of (show List.Nodup [1] from by decide) (SelL.arr0 (f := f32) (fun _ => rfl) rfl trivial)) (live_of ⟨⟨_, _, rfl⟩, trivial⟩) (by simp [ren, rens, sigma, rens_f32, rens_f64, rens_i64, rens_ik, rens_str, rens_cp, (of_decide_eq_true hn10)]) rfl (i_allFinite_0o_ok1 r19 r22 r23 r24 hf11) rfl (news_of ⟨⟨_, rfl, rfl⟩, trivial⟩) (show List.Nodup [1, 0] from by decide) (by simp [ren, rens, sigma, of_decide_eq_true hn13]) (by simp [backOb, sigma, ren, rens, rens_f32, rens_f64, rens_i64, rens_ik, rens_str, rens_cp]) ?_
    refine zL (r := oref 0 (u16 + 1) 0 r24.length) rfl rfl rfl (LOp.extract rfl rfl rfl) ?_
    refine zL (r := b r22) rfl rfl rfl (LOp.extract rfl rfl rfl) ?_
    refine zA (r := oref 0 (u16 + 1) 0 r24.length) rfl rfl rfl rfl rfl ?_
    refine zA (r := b r22) rfl rfl rfl rfl rfl ?_
    refine zN ?_
    refine RunC.ret ?_
    have hq := Option.some.inj h
    obtain ⟨hq0, hq⟩ := Prod.mk.inj hq
    subst q0
    subst q1
    exact bodyQ.mk (r' := tup [oref 0 (u16 + 1) 0 r24.length, b r22]) [(0, (u16 + 1))] (.inr rfl) rfl (show List.Nodup [0] from by decide) (by simp [ren, rens, sigma]) rfl (Res.two rfl (RV.tmp rfl) (RV.tmp rfl)) (SelL.arr0 (f := f32) (fun _ => rfl) rfl trivial)
 ·refine RunC.regionW ?_
  refine zL (r := agg [i64 a0, i64 a1, sl a2.length (a2.map f32)]) rfl rfl rfl (LOp.loadAgg agg45 siz45 rfl rfl rfl rfl) ?_
  refine zM (r := i64 a3) rfl rfl rfl rfl rfl ?_
  refine ROps.d (r := tup [agg [i64 r1, i64 r2, oref 0 1 0 r6.length], agg [i64 r3, i64 r4, oref 1 1 0 r7.length], b r5]) (fs := [(0, (r6.map f32)), (1, (r7.map f32))]) (Γ' := [⟨1, some (r6.map f32)⟩, ⟨1, some (r7.map f32)⟩, ⟨0, none⟩, ⟨0, none⟩]) rfl rfl rfl (TOp.callBN (ls := [(r6.map f32), (r7.map f32)]) [0, 1] (CallAs.func ent50 rfl rfl) (Bors.cons (Bor.agg (Bors.cons (Bor.pure rfl) (Bors.cons (Bor.pure rfl) (Bors.cons (Bor.sl (fun _ => rfl)) Bors.nil)))) (Bors.cons (Bor.pure rfl) Bors.nil)) rfl (i_SideTurns_ok a0 a1 a2 a3 r1 r2 r3 r4 r5 r6 r7 hf1) (and_all (lts0_map (f := f32) (fun _ => rfl) _) (and_all (lts0_map (f := f32) (fun _ => rfl) _) rfl)) (and_all (noss_map (f := f32) (fun _ => rfl) _) (and_all (noss_map (f := f32) (fun _ => rfl) _) rfl)) rfl (by decide) (ns_of ⟨⟨_, rfl⟩, ⟨_, rfl⟩, trivial⟩)) rfl ?_
  refine zM (r := tup [agg [i64 r1, i64 r2, oref 0 1 0 r6.length], agg [i64 r3, i64 r4, oref 1 1 0 r7.length], b r5]) rfl rfl rfl rfl rfl ?_
  refine zL (r := agg [i64 r1, i64 r2, oref 0 1 0 r6.length]) rfl rfl rfl (LOp.extract rfl rfl rfl) ?_
  refine zL (r := agg [i64 r3, i64 r4, oref 1 1 0 r7.length]) rfl rfl rfl (LOp.extract rfl rfl rfl) ?_
  refine zL (r := b false) rfl rfl rfl (LOp.eqb (LOp.extract rfl rfl rfl) hc2) ?_
  refine ROps.d (r := optr 2 1 0) (fs := [(2, [i64 0, i64 0, nilsl])]) (Γ' := [⟨1, some (r6.map f32)⟩, ⟨1, some (r7.map f32)⟩, ⟨1, some [i64 0, i64 0, nilsl]⟩, ⟨0, none⟩]) rfl rfl rfl (TOp.alloc_o (g := ⟨0, none⟩) 2 rfl zer45 zok45 rfl) rfl ?_
  refine ROps.d (r := optr 3 1 0) (fs := [(3, [i64 0, i64 0, nilsl])]) (Γ' := [⟨1, some (r6.map f32)⟩, ⟨1, some (r7.map f32)⟩, ⟨1, some [i64 0, i64 0, nilsl]⟩, ⟨1, some [i64 0, i64 0, nilsl]⟩]) rfl rfl rfl (TOp.alloc_o (g := ⟨0, none⟩) 3 rfl zer45 zok45 rfl) rfl ?_
  refine ROps.store_le (r := agg [i64 r1, i64 r2, oref 0 1 0 r6.length]) (l' := [i64 r1, i64 r2, oref 0 1 0 r6.length]) (Γ' := [⟨1, some (r6.map f32)⟩, ⟨1, some (r7.map f32)⟩, ⟨1, some [i64 r1, i64 r2, oref 0 1 0 r6.length]⟩, ⟨1, some [i64 0, i64 0, nilsl]⟩]) rfl siz45 rfl rfl rfl aR rfl rfl rfl rfl (Nat.le_of_ble_eq_true rfl) rfl rfl ?_
  refine ROps.store_le (r := agg [i64 r3, i64 r4, oref 1 1 0 r7.length]) (l' := [i64 r3, i64 r4, oref 1 1 0 r7.length]) (Γ' := [⟨1, some (r6.map f32)⟩, ⟨1, some (r7.map f32)⟩, ⟨1, some [i64 r1, i64 r2, oref 0 1 0 r6.length]⟩, ⟨1, some [i64 r3, i64 r4, oref 1 1 0 r7.length]⟩]) rfl siz45 rfl rfl rfl aR rfl rfl rfl rfl (Nat.le_of_ble_eq_true rfl) rfl rfl ?_
  refine zA (r := b false) rfl rfl rfl rfl rfl ?_
  refine zN ?_
  refine RunC.wl (τ' := [(6, optr 2 1 0), (8, b false)]) (Γ' := [⟨1, some (r6.map f32)⟩, ⟨1, none⟩, ⟨1, some [i64 r1, i64 r2, oref 0 1 0 r6.length]⟩, ⟨1, none⟩]) ⟨aR, aR, trivial⟩ ⟨⟨rfl, .inr rfl⟩, ⟨rfl, .inl rfl⟩, ⟨rfl, .inr rfl⟩, ⟨rfl, .inl rfl⟩, trivial⟩ ?_
  refine RunC.seq ?_
  refine zQ ?_
  refine zM (r := b false) rfl rfl rfl rfl rfl ?_
  refine zL (r := b true) rfl rfl rfl (LOp.eqb (LOp.not rfl rfl) rfl) ?_
  refine zN ?_
  refine RunC.cond_true rfl rfl ?_
  refine zQ ?_
  refine zA (r := nilsl) rfl rfl rfl rfl rfl ?_
  refine zA (r := b false) rfl rfl rfl rfl rfl ?_
  refine zN ?_
  refine RunC.nil_slot (Γ' := [⟨1, some (r6.map f32)⟩, ⟨2, some (([] : List F).map f32)⟩, ⟨1, some [i64 r1, i64 r2, oref 0 1 0 r6.length]⟩, ⟨1, none⟩]) 4 1 rfl rfl rfl ?_
  refine RunC.ret ?_
  have hq := Option.some.inj h
  obtain ⟨hq0, hq⟩ := Prod.mk.inj hq
  subst q0
  subst q1
  exact bodyQ.mk (r' := tup [oref 1 2 0 (([] : List F).length), b false]) [(1, 2)] (.inr rfl) rfl (show List.Nodup [1] from by decide) rfl rfl (Res.eq (Res.two rfl (RV.tmp rfl) (RV.tmp rfl)) (by rw [(show ([] : List F).length = 0 from rfl)] <;> rfl)) (SelL.arr0 (f := f32) (fun _ => rfl) rfl trivial)
noncomputable def w_sameFloat_k1 (a0 : F) (a1 : F) : Option (Bool) :=
 some (feq .f64 a0 a1)
noncomputable def w_sameFloat (a0 : F) (a1 : F) : Option (Bool) :=
 bsel (!feq .f64 a0 a0) (
  some (!feq .f64 a1 a1)) (
  bsel (!feq .f64 a1 a1) (
   some false) (
   bsel (feq .f64 a0 (some 0)) (
    bsel (feq .f64 a1 (some 0)) (
     olet (fop .quo .f64 (some 4607182418800017408) a0) fun (x1 : F) =>
     olet (fop .quo .f64 (some 4607182418800017408) a1) fun (x2 : F) =>
     some ((flt .f64 (some 0) x1) == (flt .f64 (some 0) x2))) (
     w_sameFloat_k1 a0 a1)) (
    w_sameFloat_k1 a0 a1)))
theorem w_sameFloat_ok (a0 : F) (a1 : F) (q0 : Bool) (h : w_sameFloat a0 a1 = some q0) : Ev Try.prog 38 [f64 a0, f64 a1] [] (b q0) [] := by
 refine Ev.start Try.func38 rfl rfl 0 (τ := [(0, f64 a0), (1, f64 a1)]) rfl (Γ' := []) rfl (n := 75) rfl (g := 0) rfl (fun _ => rfl) ?_
 unfold w_sameFloat at h
 refine zQ ?_
 refine zA (r := b false) rfl rfl rfl rfl rfl ?_
 refine zN ?_
 refine RunC.seq ?_
 refine RunC.seq ?_
 rcases bsel_some h with ⟨hc1, h⟩ | ⟨hc1, h⟩
 ·refine RunC.regionW ?_
  refine zM (r := f64 a0) rfl rfl rfl rfl rfl ?_
  refine zM (r := f64 a0) rfl rfl rfl rfl rfl ?_
  refine zL (r := b true) rfl rfl rfl (LOp.eqb (LOp.fne rfl (OpF.tmp rfl) (OpF.tmp rfl)) hc1) ?_
  refine zM (r := b true) rfl rfl rfl rfl rfl ?_
  refine ROps.s rfl rfl rfl ?_
  refine ROps.s rfl rfl rfl ?_
  refine ROps.s rfl rfl rfl ?_
  refine zL (r := b true) rfl rfl rfl (LOp.pick_true rfl rfl rfl) ?_
  refine zN ?_
  refine RunC.cond_true rfl rfl ?_
  refine zQ ?_
  refine zM (r := f64 a0) rfl rfl rfl rfl rfl ?_
  refine zM (r := f64 a0) rfl rfl rfl rfl rfl ?_
  refine zL (r := b true) rfl rfl rfl (LOp.eqb (LOp.fne rfl (OpF.tmp rfl) (OpF.tmp rfl)) hc1) ?_
  refine zM (r := b true) rfl rfl rfl rfl rfl ?_
  refine zM (r := f64 a1) rfl rfl rfl rfl rfl ?_
  refine zM (r := f64 a1) rfl rfl rfl rfl rfl ?_
  refine zL (r := b (!feq .f64 a1 a1)) rfl rfl rfl (LOp.fne rfl (OpF.tmp rfl) (OpF.tmp rfl)) ?_
  refine zL (r := b (!feq .f64 a1 a1)) rfl rfl rfl (LOp.pick_true rfl rfl rfl) ?_
  refine zA (r := b (!feq .f64 a1 a1)) rfl rfl rfl rfl rfl ?_
  refine zN ?_
  refine RunC.ret ?_
  have hq := Option.some.inj h
  subst q0
  exact bodyQ.pure (.inr rfl) rfl (Res.one rfl (RV.tmp rfl))
 ·rcases bsel_some h with ⟨hc2, h⟩ | ⟨hc2, h⟩
  ·refine RunC.regionW ?_
   refine zM (r := f64 a0) rfl rfl rfl rfl rfl ?_
   refine zM (r := f64 a0) rfl rfl rfl rfl rfl ?_
   refine zL (r := b false) rfl rfl rfl (LOp.eqb (LOp.fne rfl (OpF.tmp rfl) (OpF.tmp rfl)) hc1) ?_
   refine zM (r := b false) rfl rfl rfl rfl rfl ?_
   refine zM (r := f64 a1) rfl rfl rfl rfl rfl ?_
   refine zM (r := f64 a1) rfl rfl rfl rfl rfl ?_
   refine zL (r := b true) rfl rfl rfl (LOp.eqb (LOp.fne rfl (OpF.tmp rfl) (OpF.tmp rfl)) hc2) ?_
   refine zL (r := b true) rfl rfl rfl (LOp.pick_false rfl rfl rfl) ?_
   refine zN ?_
   refine RunC.cond_true rfl rfl ?_
   refine zQ ?_
   refine zM (r := f64 a0) rfl rfl rfl rfl rfl ?_
   refine zM (r := f64 a0) rfl rfl rfl rfl rfl ?_
   refine zL (r := b false) rfl rfl rfl (LOp.eqb (LOp.fne rfl (OpF.tmp rfl) (OpF.tmp rfl)) hc1) ?_
   refine zM (r := b false) rfl rfl rfl rfl rfl ?_
   refine ROps.s rfl rfl rfl ?_
   refine ROps.s rfl rfl rfl ?_
   refine ROps.s rfl rfl rfl ?_
   refine zL (r := b false) rfl rfl rfl (LOp.pick_false rfl rfl rfl) ?_
   refine zA (r := b false) rfl rfl rfl rfl rfl ?_
   refine zN ?_
   refine RunC.ret ?_
   have hq := Option.some.inj h
   subst q0
   exact bodyQ.pure (.inr rfl) rfl (Res.one rfl (RV.tmp rfl))
  ·refine RunC.regionW ?_
   refine zM (r := f64 a0) rfl rfl rfl rfl rfl ?_
   refine zM (r := f64 a0) rfl rfl rfl rfl rfl ?_
   refine zL (r := b false) rfl rfl rfl (LOp.eqb (LOp.fne rfl (OpF.tmp rfl) (OpF.tmp rfl)) hc1) ?_
   refine zM (r := b false) rfl rfl rfl rfl rfl ?_
   refine zM (r := f64 a1) rfl rfl rfl rfl rfl ?_
   refine zM (r := f64 a1) rfl rfl rfl rfl rfl ?_
   refine zL (r := b false) rfl rfl rfl (LOp.eqb (LOp.fne rfl (OpF.tmp rfl) (OpF.tmp rfl)) hc2) ?_
   refine zL (r := b false) rfl rfl rfl (LOp.pick_false rfl rfl rfl) ?_
   refine zN ?_
   refine RunC.cond_false rfl rfl ?_
   refine RunC.skip ?_
   refine RunC.seq ?_
   refine RunC.cutN (fun τ Γ =>  WeakLe τ [(0, f64 a0), (1, f64 a1)] ∧ DeadLe Γ [] ∧ w_sameFloat_k1 a0 a1 = some q0) ?_ ?_
   ·refine RunC.seq ?_
    rcases bsel_some h with ⟨hc3, h⟩ | ⟨hc3, h⟩
    ·rcases bsel_some h with ⟨hc4, h⟩ | ⟨hc4, h⟩
     ·refine RunC.regionW ?_
      refine zM (r := f64 a0) rfl rfl rfl rfl rfl ?_
      refine zL (r := b true) rfl rfl rfl (LOp.eqb (LOp.feq rfl (OpF.tmp rfl) (OpF.const rfl (by kernel_rfl) (by kernel_rfl))) hc3) ?_
      refine zM (r := b true) rfl rfl rfl rfl rfl ?_
      refine zM (r := f64 a1) rfl rfl rfl rfl rfl ?_
      refine zL (r := b true) rfl rfl rfl (LOp.eqb (LOp.feq rfl (OpF.tmp rfl) (OpF.const rfl (by kernel_rfl) (by kernel_rfl))) hc4) ?_
      refine zL (r := b true) rfl rfl rfl (LOp.pick_true rfl rfl rfl) ?_
      refine zN ?_
      refine RunC.wl (τ' := [(0, f64 a0), (1, f64 a1), (26, b true)]) (Γ' := []) ⟨aR, aR, aR, trivial⟩ trivial ?_
      refine RunC.cond_true rfl rfl ?_
      refine RunC.seq ?_
      obtain ⟨x1, hx5, h⟩ := olet_some h
      obtain ⟨x2, hx6, h⟩ := olet_some h
      refine RunC.regionW ?_
      refine zM (r := f64 a0) rfl rfl rfl rfl rfl ?_
      refine ROps.d (r := f64 x1) (fs := []) (Γ' := []) rfl rfl rfl (TOp.eqr (TOp.fop (.inr (.inr (.inr rfl))) rfl (OpF.const rfl (by kernel_rfl) (by kernel_rfl)) (OpF.tmp rfl)) (congrArg (f .f64) hx5)) rfl ?_
      refine zL (r := b (flt .f64 (some 0) x1)) rfl rfl rfl (LOp.fgt rfl (OpF.tmp rfl) (OpF.const rfl (by kernel_rfl) (by kernel_rfl))) ?_
      refine zM (r := f64 a1) rfl rfl rfl rfl rfl ?_
      refine ROps.d (r := f64 x2) (fs := []) (Γ' := []) rfl rfl rfl (TOp.eqr (TOp.fop (.inr (.inr (.inr rfl))) rfl (OpF.const rfl (by kernel_rfl) (by kernel_rfl)) (OpF.tmp rfl)) (congrArg (f .f64) hx6)) rfl ?_
      refine zL (r := b (flt .f64 (some 0) x2)) rfl rfl rfl (LOp.fgt rfl (OpF.tmp rfl) (OpF.const rfl (by kernel_rfl) (by kernel_rfl))) ?_
      refine zL (r := b ((flt .f64 (some 0) x1) == (flt .f64 (some 0) x2))) rfl rfl rfl (LOp.eqlb pun4 rfl rfl rfl) ?_
      refine zA (r := b ((flt .f64 (some 0) x1) == (flt .f64 (some 0) x2))) rfl rfl rfl rfl rfl ?_
      refine zN ?_
      refine RunC.ret ?_
      have hq := Option.some.inj h
      subst q0
      exact bodyQ.pure (.inr rfl) rfl (Res.one rfl (RV.tmp rfl))
     ·refine RunC.regionW ?_
      refine zM (r := f64 a0) rfl rfl rfl rfl rfl ?_
      refine zL (r := b true) rfl rfl rfl (LOp.eqb (LOp.feq rfl (OpF.tmp rfl) (OpF.const rfl (by kernel_rfl) (by kernel_rfl))) hc3) ?_
      refine zM (r := b true) rfl rfl rfl rfl rfl ?_
      refine zM (r := f64 a1) rfl rfl rfl rfl rfl ?_
      refine zL (r := b false) rfl rfl rfl (LOp.eqb (LOp.feq rfl (OpF.tmp rfl) (OpF.const rfl (by kernel_rfl) (by kernel_rfl))) hc4) ?_
      refine zL (r := b false) rfl rfl rfl (LOp.pick_true rfl rfl rfl) ?_
      refine zN ?_
      refine RunC.wl (τ' := [(0, f64 a0), (1, f64 a1), (26, b false)]) (Γ' := []) ⟨aR, aR, aR, trivial⟩ trivial ?_
      refine RunC.cond_false rfl rfl ?_
      refine RunC.skip ?_
      exact ⟨⟨aR, aR, trivial⟩, trivial, h⟩
    ·refine RunC.regionW ?_
     refine zM (r := f64 a0) rfl rfl rfl rfl rfl ?_
     refine zL (r := b false) rfl rfl rfl (LOp.eqb (LOp.feq rfl (OpF.tmp rfl) (OpF.const rfl (by kernel_rfl) (by kernel_rfl))) hc3) ?_
     refine zM (r := b false) rfl rfl rfl rfl rfl ?_
     refine ROps.s rfl rfl rfl ?_
     refine ROps.s rfl rfl rfl ?_
     refine zL (r := b false) rfl rfl rfl (LOp.pick_false rfl rfl rfl) ?_
     refine zN ?_
     refine RunC.wl (τ' := [(0, f64 a0), (1, f64 a1), (26, b false)]) (Γ' := []) ⟨aR, aR, aR, trivial⟩ trivial ?_
     refine RunC.cond_false rfl rfl ?_
     refine RunC.skip ?_
     exact ⟨⟨aR, aR, trivial⟩, trivial, h⟩
   ·rintro τ2 Γ2 ⟨hw2, hd2, h⟩
    refine RunC.wl hw2 hd2 ?_
    unfold w_sameFloat_k1 at h
    refine zQ ?_
    refine zM (r := f64 a0) rfl rfl rfl rfl rfl ?_
    refine zM (r := f64 a1) rfl rfl rfl rfl rfl ?_
    refine zL (r := b (feq .f64 a0 a1)) rfl rfl rfl (LOp.feq rfl (OpF.tmp rfl) (OpF.tmp rfl)) ?_
    refine zA (r := b (feq .f64 a0 a1)) rfl rfl rfl rfl rfl ?_
    refine zN ?_
    refine RunC.ret ?_
    have hq := Option.some.inj h
    subst q0
    exact bodyQ.pure (.inr rfl) rfl (Res.one rfl (RV.tmp rfl))
noncomputable def w_eqFloat32S_b1 (a0 : List F) (a1 : List F) (v1 : Int) : Option (LR (Int) (Unit) (Bool)) :=
 bsel (decide (v1 < (a0.length : Int))) (
  obind (at? a0 v1) fun (e2 : F) =>
  olet (fwiden e2) fun (x3 : F) =>
  obind (at? a1 v1) fun (e4 : F) =>
  olet (fwiden e4) fun (x5 : F) =>
  obind (w_sameFloat x3 x5) fun (r6 : Bool) =>
  bsel r6 (
   olet (IntKind.i64.wrap (v1 + 1)) fun (x7 : Int) =>
   some (LR.next x7)) (
   some (LR.ret false))) (
  some (LR.out ()))
noncomputable def w_eqFloat32S_s1 (a0 : List F) (a1 : List F) : (Int) → Option (LR (Int) (Unit) (Bool)) := fun s => w_eqFloat32S_b1 a0 a1 s
noncomputable def w_eqFloat32S_k1  : Option (Bool) :=
 some true
noncomputable def w_eqFloat32S (a0 : List F) (a1 : List F) : Option (Bool) :=
 bsel (!decide ((a0.length : Int) = (a1.length : Int))) (
  some false) (
  obind (loopM (w_eqFloat32S_s1 a0 a1) 0) fun z => osum z (fun _ => w_eqFloat32S_k1) (fun r => some r))
theorem w_eqFloat32S_ok (a0 : List F) (a1 : List F) (q0 : Bool) (h : w_eqFloat32S a0 a1 = some q0) : Ev Try.prog 12 [sl a0.length (a0.map f32), sl a1.length (a1.map f32)] [] (b q0) [] := by
 refine Ev.start Try.func12 rfl rfl 0 (τ := [(0, sl a0.length (a0.map f32)), (1, sl a1.length (a1.map f32))]) rfl (Γ' := []) rfl (n := 59) rfl (g := 0) rfl (fun _ => rfl) ?_
 unfold w_eqFloat32S at h
 refine zQ ?_
 refine zA (r := b false) rfl rfl rfl rfl rfl ?_
 refine zN ?_
 refine RunC.seq ?_
 refine RunC.seq ?_
 rcases bsel_some h with ⟨hc1, h⟩ | ⟨hc1, h⟩
 ·refine RunC.regionW ?_
  refine zM (r := sl a0.length (a0.map f32)) rfl rfl rfl rfl rfl ?_
  refine zL (r := i64 (a0.length : Int)) rfl rfl rfl (LOp.len_sl und23 rfl rfl) ?_
  refine zM (r := sl a1.length (a1.map f32)) rfl rfl rfl rfl rfl ?_
  refine zL (r := i64 (a1.length : Int)) rfl rfl rfl (LOp.len_sl und23 rfl rfl) ?_
  refine zL (r := b true) rfl rfl rfl (LOp.eqb (LOp.neq rfl rfl rfl) hc1) ?_
  refine zN ?_
  refine RunC.cond_true rfl rfl ?_
  refine zQ ?_
  refine zA (r := b false) rfl rfl rfl rfl rfl ?_
  refine zN ?_
  refine RunC.ret ?_
  have hq := Option.some.inj h
  subst q0
  exact bodyQ.pure (.inr rfl) rfl (Res.one rfl (RV.tmp rfl))
 ·refine RunC.regionW ?_
  refine zM (r := sl a0.length (a0.map f32)) rfl rfl rfl rfl rfl ?_
  refine zL (r := i64 (a0.length : Int)) rfl rfl rfl (LOp.len_sl und23 rfl rfl) ?_
  refine zM (r := sl a1.length (a1.map f32)) rfl rfl rfl rfl rfl ?_
  refine zL (r := i64 (a1.length : Int)) rfl rfl rfl (LOp.len_sl und23 rfl rfl) ?_
  refine zL (r := b false) rfl rfl rfl (LOp.eqb (LOp.neq rfl rfl rfl) hc1) ?_
  refine zN ?_
  refine RunC.cond_false rfl rfl ?_
  refine RunC.skip ?_
  refine RunC.seq ?_
  refine zQ ?_
  refine zA (r := i64 0) rfl rfl rfl rfl rfl ?_
  refine zN ?_
  obtain ⟨z2, hz_2, h⟩ := obind_some h
  refine RunC.cutN (fun τ Γ => WeakLe τ [] ∧ DeadLe Γ [] ∧ z2 = .inl ()) ?_ ?_
  ·refine RunC.block (RunC.loop (RunL.loopM (x := z2) (w_eqFloat32S_s1 a0 a1) (fun (s : Int) τ Γ => WeakLe τ [(0, sl a0.length (a0.map f32)), (1, sl a1.length (a1.map f32)), (5, i64 s)] ∧ DeadLe Γ []) ?_ _ _ _ hz_2 ⟨⟨aR, aR, aR, trivial⟩, trivial⟩))
   rintro v1 τ2 Γ2 y2_ ⟨hw2, hd2⟩ h2_ ho2 hr2
   refine RunC.wl (τ' := [(0, sl a0.length (a0.map f32)), (1, sl a1.length (a1.map f32)), (5, i64 v1)]) (Γ' := []) hw2 hd2 ?_
   replace h2_ : w_eqFloat32S_b1 a0 a1 v1 = some y2_ := h2_
   unfold w_eqFloat32S_b1 at h2_
   refine RunC.seq ?_
   refine RunC.seq ?_
   rcases bsel_some h2_ with ⟨hc2, h2_⟩ | ⟨hc2, h2_⟩
   ·refine RunC.regionW ?_
    refine zM (r := i64 v1) rfl rfl rfl rfl rfl ?_
    refine zM (r := sl a0.length (a0.map f32)) rfl rfl rfl rfl rfl ?_
    refine zL (r := i64 (a0.length : Int)) rfl rfl rfl (LOp.len_sl und23 rfl rfl) ?_
    refine zL (r := b true) rfl rfl rfl (LOp.eqb (LOp.lss rfl rfl rfl) hc2) ?_
    refine zN ?_
    refine RunC.cond_true rfl rfl ?_
    refine RunC.skip ?_
    refine RunC.seq ?_
    refine RunC.block ?_
    refine RunC.seq ?_
    obtain ⟨e2, he3, h2_⟩ := obind_some h2_
    obtain ⟨x3, hx4, h2_⟩ := olet_some h2_
    obtain ⟨e4, he5, h2_⟩ := obind_some h2_
    obtain ⟨x5, hx6, h2_⟩ := olet_some h2_
    obtain ⟨r6, hf7, h2_⟩ := obind_some h2_
    rcases bsel_some h2_ with ⟨hc8, h2_⟩ | ⟨hc8, h2_⟩
    ·refine RunC.region_draw (Γ' := []) 12 mixed 
      (TR.l (r := sl a0.length (a0.map f32)) rfl rfl (LOp.move rfl rfl) <|
      (TR.l (r := i64 v1) rfl rfl (LOp.move rfl rfl) <|
      (TR.l (r := ptr [f32 e2]) rfl rfl (LOp.le (LOp.ix (f := f32) und23 siz26 rfl rfl rfl rfl he3) ALe.ptr) <|
      (TR.l (r := f32 e2) rfl rfl (LOp.load1 agg26 rfl rfl) <|
      (TR.d (r := f64 x3) (fs := []) rfl rfl (TOp.eqr (TOp.widen (src := 26) (dst := 62) ⟨_, pun26⟩ pun62 rfl (OpF.tmp rfl)) (congrArg (f .f64) hx4)) <|
      (TR.l (r := sl a1.length (a1.map f32)) rfl rfl (LOp.move rfl rfl) <|
      (TR.l (r := i64 v1) rfl rfl (LOp.move rfl rfl) <|
      (TR.l (r := ptr [f32 e4]) rfl rfl (LOp.le (LOp.ix (f := f32) und23 siz26 rfl rfl rfl rfl he5) ALe.ptr) <|
      (TR.l (r := f32 e4) rfl rfl (LOp.load1 agg26 rfl rfl) <|
      (TR.d (r := f64 x5) (fs := []) rfl rfl (TOp.eqr (TOp.widen (src := 26) (dst := 62) ⟨_, pun26⟩ pun62 rfl (OpF.tmp rfl)) (congrArg (f .f64) hx6)) <|
      (TR.d (r := b true) (fs := []) rfl rfl (TOp.eqb (TOp.callB (CallAs.func ent38 rfl rfl) (Bors.cons (Bor.pure rfl) (Bors.cons (Bor.pure rfl) Bors.nil)) rfl rfl (w_sameFloat_ok x3 x5 r6 hf7)) hc8) <|
      (TR.l (r := b false) rfl rfl (LOp.eqb (LOp.not rfl rfl) rfl) <|
      TR.nil)))))))))))) rfl (by kernel_rfl) rfl fills_nil rfl ?_
     iterate 12 refine ROps.dropS ?_
     refine ROps.drop0 ?_
     refine zN ?_
     refine RunC.wl (τ' := [(0, sl a0.length (a0.map f32)), (1, sl a1.length (a1.map f32)), (5, i64 v1), (28, b false)]) (Γ' := []) ⟨aR, aR, aR, aR, trivial⟩ trivial ?_
     refine RunC.cond_false rfl rfl ?_
     refine RunC.skip ?_
     obtain ⟨x7, hx9, h2_⟩ := olet_some h2_
     refine RunC.regionW ?_
     refine zM (r := i64 v1) rfl rfl rfl rfl rfl ?_
     refine zL (r := i64 x7) rfl rfl rfl (LOp.eqr (LOp.add rfl rfl rfl) (congrArg (ik .i64) hx9)) ?_
     refine zA (r := i64 x7) rfl rfl rfl rfl rfl ?_
     refine zN ?_
     cases Option.some.inj h2_
     exact ⟨_, rfl, ⟨aR, aR, aR, trivial⟩, trivial⟩
    ·refine RunC.region_draw (Γ' := []) 12 mixed 
      (TR.l (r := sl a0.length (a0.map f32)) rfl rfl (LOp.move rfl rfl) <|
      (TR.l (r := i64 v1) rfl rfl (LOp.move rfl rfl) <|
      (TR.l (r := ptr [f32 e2]) rfl rfl (LOp.le (LOp.ix (f := f32) und23 siz26 rfl rfl rfl rfl he3) ALe.ptr) <|
      (TR.l (r := f32 e2) rfl rfl (LOp.load1 agg26 rfl rfl) <|
      (TR.d (r := f64 x3) (fs := []) rfl rfl (TOp.eqr (TOp.widen (src := 26) (dst := 62) ⟨_, pun26⟩ pun62 rfl (OpF.tmp rfl)) (congrArg (f .f64) hx4)) <|
      (TR.l (r := sl a1.length (a1.map f32)) rfl rfl (LOp.move rfl rfl) <|
      (TR.l (r := i64 v1) rfl rfl (LOp.move rfl rfl) <|
      (TR.l (r := ptr [f32 e4]) rfl rfl (LOp.le (LOp.ix (f := f32) und23 siz26 rfl rfl rfl rfl he5) ALe.ptr) <|
      (TR.l (r := f32 e4) rfl rfl (LOp.load1 agg26 rfl rfl) <|
      (TR.d (r := f64 x5) (fs := []) rfl rfl (TOp.eqr (TOp.widen (src := 26) (dst := 62) ⟨_, pun26⟩ pun62 rfl (OpF.tmp rfl)) (congrArg (f .f64) hx6)) <|
      (TR.d (r := b false) (fs := []) rfl rfl (TOp.eqb (TOp.callB (CallAs.func ent38 rfl rfl) (Bors.cons (Bor.pure rfl) (Bors.cons (Bor.pure rfl) Bors.nil)) rfl rfl (w_sameFloat_ok x3 x5 r6 hf7)) hc8) <|
      (TR.l (r := b true) rfl rfl (LOp.eqb (LOp.not rfl rfl) rfl) <|
      TR.nil)))))))))))) rfl (by kernel_rfl) rfl fills_nil rfl ?_
     iterate 12 refine ROps.dropS ?_
     refine ROps.drop0 ?_
     refine zN ?_
     refine RunC.wl (τ' := [(0, sl a0.length (a0.map f32)), (1, sl a1.length (a1.map f32)), (5, i64 v1), (28, b true)]) (Γ' := []) ⟨aR, aR, aR, aR, trivial⟩ trivial ?_
     refine RunC.cond_true rfl rfl ?_
     refine zQ ?_
     refine zA (r := b false) rfl rfl rfl rfl rfl ?_
     refine zN ?_
     refine RunC.ret ?_
     cases Option.some.inj h2_
     have hx3_ := hr2 _ rfl
     subst hx3_
     have hq := Option.some.inj h
     subst q0
     exact bodyQ.pure (.inr rfl) rfl (Res.one rfl (RV.tmp rfl))
   ·refine RunC.regionW ?_
    refine zM (r := i64 v1) rfl rfl rfl rfl rfl ?_
    refine zM (r := sl a0.length (a0.map f32)) rfl rfl rfl rfl rfl ?_
    refine zL (r := i64 (a0.length : Int)) rfl rfl rfl (LOp.len_sl und23 rfl rfl) ?_
    refine zL (r := b false) rfl rfl rfl (LOp.eqb (LOp.lss rfl rfl rfl) hc2) ?_
    refine zN ?_
    refine RunC.cond_false rfl rfl ?_
    refine RunC.exit ?_
    cases Option.some.inj h2_
    have hx := ho2 _ rfl
    exact ⟨trivial, trivial, hx⟩
  ·rintro τ4 Γ4 ⟨hw4, hd4, rfl⟩
   refine RunC.wl hw4 hd4 ?_
   replace h : w_eqFloat32S_k1 = some q0 := h
   unfold w_eqFloat32S_k1 at h
   refine zQ ?_
   refine zA (r := b true) rfl rfl rfl rfl rfl ?_
   refine zN ?_
   refine RunC.ret ?_
   have hq := Option.some.inj h
   subst q0
   exact bodyQ.pure (.inr rfl) rfl (Res.one rfl (RV.tmp rfl))
noncomputable def w_eqMatrix (a0 : Int) (a1 : Int) (a2 : List F) (a3 : Int) (a4 : Int) (a5 : List F) : Option (Bool) :=
 bsel (!decide (a0 = a3)) (
  some false) (
  bsel (!decide (a1 = a4)) (
   some false) (
   obind (w_eqFloat32S a2 a5) fun (r1 : Bool) =>
   bsel r1 (
    some true) (
    some false)))
theorem w_eqMatrix_ok (a0 : Int) (a1 : Int) (a2 : List F) (a3 : Int) (a4 : Int) (a5 : List F) (q0 : Bool) (h : w_eqMatrix a0 a1 a2 a3 a4 a5 = some q0) : Ev Try.prog 23 [agg [i64 a0, i64 a1, sl a2.length (a2.map f32)], agg [i64 a3, i64 a4, sl a5.length (a5.map f32)]] [] (b q0) [] := by
 refine Ev.start Try.func23 rfl rfl 0 (τ := [(0, agg [i64 a0, i64 a1, sl a2.length (a2.map f32)]), (1, agg [i64 a3, i64 a4, sl a5.length (a5.map f32)])]) rfl (Γ' := []) rfl (n := 43) rfl (g := 0) rfl (fun _ => rfl) ?_
 unfold w_eqMatrix at h
 refine zQ ?_
 refine ROps.d (r := ptr [i64 a0, i64 a1, sl a2.length (a2.map f32)]) (fs := []) (Γ' := []) rfl rfl rfl (TOp.box_s rfl rfl rfl) rfl ?_
 refine ROps.d (r := ptr [i64 a3, i64 a4, sl a5.length (a5.map f32)]) (fs := []) (Γ' := []) rfl rfl rfl (TOp.box_s rfl rfl rfl) rfl ?_
 refine zA (r := b false) rfl rfl rfl rfl rfl ?_
 refine zN ?_
 refine RunC.seq ?_
 refine RunC.seq ?_
 rcases bsel_some h with ⟨hc1, h⟩ | ⟨hc1, h⟩
 ·refine RunC.regionW ?_
  refine zL (r := ptr [i64 a0, i64 a1, sl a2.length (a2.map f32)]) rfl rfl rfl (LOp.fap und45 rfl siz2 rfl rfl rfl) ?_
  refine zL (r := i64 a0) rfl rfl rfl (LOp.load1 agg2 rfl rfl) ?_
  refine zL (r := ptr [i64 a3, i64 a4, sl a5.length (a5.map f32)]) rfl rfl rfl (LOp.fap und45 rfl siz2 rfl rfl rfl) ?_
  refine zL (r := i64 a3) rfl rfl rfl (LOp.load1 agg2 rfl rfl) ?_
  refine zL (r := b true) rfl rfl rfl (LOp.eqb (LOp.neq rfl rfl rfl) hc1) ?_
  refine zN ?_
  refine RunC.cond_true rfl rfl ?_
  refine zQ ?_
  refine zA (r := b false) rfl rfl rfl rfl rfl ?_
  refine zN ?_
  refine RunC.ret ?_
  have hq := Option.some.inj h
  subst q0
  exact bodyQ.pure (.inr rfl) rfl (Res.one rfl (RV.tmp rfl))
 ·refine RunC.regionW ?_
  refine zL (r := ptr [i64 a0, i64 a1, sl a2.length (a2.map f32)]) rfl rfl rfl (LOp.fap und45 rfl siz2 rfl rfl rfl) ?_
  refine zL (r := i64 a0) rfl rfl rfl (LOp.load1 agg2 rfl rfl) ?_
  refine zL (r := ptr [i64 a3, i64 a4, sl a5.length (a5.map f32)]) rfl rfl rfl (LOp.fap und45 rfl siz2 rfl rfl rfl) ?_
  refine zL (r := i64 a3) rfl rfl rfl (LOp.load1 agg2 rfl rfl) ?_
  refine zL (r := b false) rfl rfl rfl (LOp.eqb (LOp.neq rfl rfl rfl) hc1) ?_
  refine zN ?_
  refine RunC.cond_false rfl rfl ?_
  refine RunC.skip ?_
  refine RunC.seq ?_
  refine RunC.seq ?_
  rcases bsel_some h with ⟨hc2, h⟩ | ⟨hc2, h⟩
  ·refine RunC.regionW ?_
   refine zL (r := ptr [i64 a1, sl a2.length (a2.map f32)]) rfl rfl rfl (LOp.fap und45 rfl siz2 rfl rfl rfl) ?_
   refine zL (r := i64 a1) rfl rfl rfl (LOp.load1 agg2 rfl rfl) ?_
   refine zL (r := ptr [i64 a4, sl a5.length (a5.map f32)]) rfl rfl rfl (LOp.fap und45 rfl siz2 rfl rfl rfl) ?_
   refine zL (r := i64 a4) rfl rfl rfl (LOp.load1 agg2 rfl rfl) ?_
   refine zL (r := b true) rfl rfl rfl (LOp.eqb (LOp.neq rfl rfl rfl) hc2) ?_
   refine zN ?_
   refine RunC.cond_true rfl rfl ?_
   refine zQ ?_
   refine zA (r := b false) rfl rfl rfl rfl rfl ?_
   refine zN ?_
   refine RunC.ret ?_
   have hq := Option.some.inj h
   subst q0
   exact bodyQ.pure (.inr rfl) rfl (Res.one rfl (RV.tmp rfl))
  ·refine RunC.regionW ?_
   refine zL (r := ptr [i64 a1, sl a2.length (a2.map f32)]) rfl rfl rfl (LOp.fap und45 rfl siz2 rfl rfl rfl) ?_
   refine zL (r := i64 a1) rfl rfl rfl (LOp.load1 agg2 rfl rfl) ?_
   refine zL (r := ptr [i64 a4, sl a5.length (a5.map f32)]) rfl rfl rfl (LOp.fap und45 rfl siz2 rfl rfl rfl) ?_
   refine zL (r := i64 a4) rfl rfl rfl (LOp.load1 agg2 rfl rfl) ?_
   refine zL (r := b false) rfl rfl rfl (LOp.eqb (LOp.neq rfl rfl rfl) hc2) ?_
   refine zN ?_
   refine RunC.cond_false rfl rfl ?_
   refine RunC.skip ?_
   refine RunC.wl (τ' := [(2, ptr [i64 a0, i64 a1, sl a2.length (a2.map f32)]), (3, ptr [i64 a3, i64 a4, sl a5.length (a5.map f32)])]) (Γ' := []) ⟨aR, aR, trivial⟩ trivial ?_
   refine RunC.seq ?_
   refine RunC.seq ?_
   obtain ⟨r1, hf3, h⟩ := obind_some h
   rcases bsel_some h with ⟨hc4, h⟩ | ⟨hc4, h⟩
   ·refine RunC.regionW ?_
    refine zL (r := ptr [sl a2.length (a2.map f32)]) rfl rfl rfl (LOp.fap und45 rfl siz23 rfl rfl rfl) ?_
    refine zL (r := sl a2.length (a2.map f32)) rfl rfl rfl (LOp.load1 agg23 rfl rfl) ?_
    refine zL (r := ptr [sl a5.length (a5.map f32)]) rfl rfl rfl (LOp.fap und45 rfl siz23 rfl rfl rfl) ?_
    refine zL (r := sl a5.length (a5.map f32)) rfl rfl rfl (LOp.load1 agg23 rfl rfl) ?_
    refine ROps.d (r := b true) (fs := []) (Γ' := []) rfl rfl rfl (TOp.eqb (TOp.callB (CallAs.func ent12 rfl rfl) (Bors.cons (Bor.sl (fun _ => rfl)) (Bors.cons (Bor.sl (fun _ => rfl)) Bors.nil)) rfl rfl (w_eqFloat32S_ok a2 a5 r1 hf3)) hc4) rfl ?_
    refine zL (r := b false) rfl rfl rfl (LOp.eqb (LOp.not rfl rfl) rfl) ?_
    refine zN ?_
    refine RunC.cond_false rfl rfl ?_
    refine RunC.skip ?_
    refine zQ ?_
    refine zA (r := b true) rfl rfl rfl rfl rfl ?_
    refine zN ?_
    refine RunC.ret ?_
    have hq := Option.some.inj h
    subst q0
    exact bodyQ.pure (.inr rfl) rfl (Res.one rfl (RV.tmp rfl))
   ·refine RunC.regionW ?_
    refine zL (r := ptr [sl a2.length (a2.map f32)]) rfl rfl rfl (LOp.fap und45 rfl siz23 rfl rfl rfl) ?_
    refine zL (r := sl a2.length (a2.map f32)) rfl rfl rfl (LOp.load1 agg23 rfl rfl) ?_
    refine zL (r := ptr [sl a5.length (a5.map f32)]) rfl rfl rfl (LOp.fap und45 rfl siz23 rfl rfl rfl) ?_
    refine zL (r := sl a5.length (a5.map f32)) rfl rfl rfl (LOp.load1 agg23 rfl rfl) ?_
    refine ROps.d (r := b false) (fs := []) (Γ' := []) rfl rfl rfl (TOp.eqb (TOp.callB (CallAs.func ent12 rfl rfl) (Bors.cons (Bor.sl (fun _ => rfl)) (Bors.cons (Bor.sl (fun _ => rfl)) Bors.nil)) rfl rfl (w_eqFloat32S_ok a2 a5 r1 hf3)) hc4) rfl ?_
    refine zL (r := b true) rfl rfl rfl (LOp.eqb (LOp.not rfl rfl) rfl) ?_
    refine zN ?_
    refine RunC.cond_true rfl rfl ?_
    refine zQ ?_
    refine zA (r := b false) rfl rfl rfl rfl rfl ?_
    refine zN ?_
    refine RunC.ret ?_
    have hq := Option.some.inj h
    subst q0
    exact bodyQ.pure (.inr rfl) rfl (Res.one rfl (RV.tmp rfl))
noncomputable def w_markFloat32S_0o_b1 (a1 : List F) (L1 : List F) (v3 : Int) (v4 : Int) : Option (LR ((List F) × Int × Int) ((List F) × Int) (Int × (List F))) :=
 bsel (decide (v4 < ((a1.length : Nat) : Int))) (
  olet (fint .f32 v3) fun (x5 : F) =>
  obind (setAt? L1 v4 x5) fun (L6 : List F) =>
  olet (IntKind.i64.wrap (v3 + 1)) fun (x7 : Int) =>
  olet (IntKind.i64.wrap (v4 + 1)) fun (x8 : Int) =>
  some (LR.next (L6, x7, x8))) (
  some (LR.out (L1, v3)))
noncomputable def w_markFloat32S_0o_s1 (a1 : List F) : ((List F) × Int × Int) → Option (LR ((List F) × Int × Int) ((List F) × Int) (Int × (List F))) := fun s => w_markFloat32S_0o_b1 a1 s.1 s.2.1 s.2.2
noncomputable def w_markFloat32S_0o_k1 (L9 : List F) (v11 : Int) : Option (Int × (List F)) :=
 some (v11, L9)
noncomputable def w_markFloat32S_0o (a0 : Int) (a1 : List F) : Option (Int × (List F)) :=
 obind (loopM (w_markFloat32S_0o_s1 a1) (a1, a0, 0)) fun z => osum z (fun e => w_markFloat32S_0o_k1 e.1 e.2) (fun r => some r)
theorem w_markFloat32S_0o_ok (a0 : Int) (a1 : List F) (q0 : Int) (q1 : List F) (h : w_markFloat32S_0o a0 a1 = some (q0, q1)) : Ev Try.prog 15 [oref 0 0 0 a1.length, i64 a0] [⟨0, some (a1.map f32)⟩] (i64 q0) [⟨0, some (q1.map f32)⟩] := by
 refine Ev.start Try.func15 rfl rfl 0 (τ := [(0, oref 0 0 0 a1.length), (1, i64 a0)]) rfl (Γ' := [⟨0, some (a1.map f32)⟩]) rfl (n := 40) rfl (g := 1) rfl (by decide) ?_
 unfold w_markFloat32S_0o at h
 refine zQ ?_
 refine zA (r := i64 0) rfl rfl rfl rfl rfl ?_
 refine zN ?_
 refine RunC.seq ?_
 refine zQ ?_
 refine zA (r := i64 0) rfl rfl rfl rfl rfl ?_
 refine zN ?_
 obtain ⟨z2, hz_2, h⟩ := obind_some h
 refine RunC.cutN (fun τ Γ => ∃ (L9 : List F) (v11 : Int), L9.length = a1.length ∧ WeakLe τ [(1, i64 v11)] ∧ DeadLe Γ [⟨0, some (L9.map f32)⟩] ∧ z2 = .inl (L9, v11)) ?_ ?_
 ·refine RunC.block (RunC.loop (RunL.loopM (x := z2) (w_markFloat32S_0o_s1 a1) (fun (s : (List F) × Int × Int) τ Γ => s.1.length = a1.length ∧ WeakLe τ [(0, oref 0 0 0 a1.length), (1, i64 s.2.1), (5, i64 s.2.2)] ∧ DeadLe Γ [⟨0, some (s.1.map f32)⟩]) ?_ _ _ _ hz_2 ⟨rfl, ⟨aR, aR, aR, trivial⟩, ⟨⟨rfl, .inr rfl⟩, trivial⟩⟩))
  rintro ⟨L1, v3, v4⟩ τ2 Γ2 y2_ ⟨hl2, hw2, hd2⟩ h2_ ho2 hr2
  refine RunC.wl (τ' := [(0, oref 0 0 0 a1.length), (1, i64 v3), (5, i64 v4)]) (Γ' := [⟨0, some (L1.map f32)⟩]) hw2 hd2 ?_
  replace hl2 : L1.length = a1.length := hl2
  replace h2_ : w_markFloat32S_0o_b1 a1 L1 v3 v4 = some y2_ := h2_
  unfold w_markFloat32S_0o_b1 at h2_
  refine RunC.seq ?_
  refine RunC.seq ?_
  rcases bsel_some h2_ with ⟨hc1, h2_⟩ | ⟨hc1, h2_⟩
  ·refine RunC.regionW ?_
   refine zM (r := i64 v4) rfl rfl rfl rfl rfl ?_
   refine zM (r := oref 0 0 0 a1.length) rfl rfl rfl rfl rfl ?_
   refine zL (r := i64 ((a1.length : Nat) : Int)) rfl rfl rfl (LOp.len_oref und23 rfl rfl) ?_
   refine zL (r := b true) rfl rfl rfl (LOp.eqb (LOp.lss rfl rfl rfl) hc1) ?_
   refine zN ?_
   refine RunC.cond_true rfl rfl ?_
   refine RunC.skip ?_
   refine RunC.seq ?_
   refine RunC.block ?_
   refine RunC.seq ?_
   obtain ⟨x5, hx2, h2_⟩ := olet_some h2_
   obtain ⟨L6, he3, h2_⟩ := obind_some h2_
   refine RunC.regionW ?_
   refine zM (r := oref 0 0 0 a1.length) rfl rfl rfl rfl rfl ?_
   refine zM (r := i64 v4) rfl rfl rfl rfl rfl ?_
   refine zM (r := i64 v3) rfl rfl rfl rfl rfl ?_
   refine zL (r := f32 x5) rfl rfl rfl (LOp.eqr (LOp.i2f (src := 3) (dst := 26) ⟨_, pun3⟩ pun26 rfl rfl) (congrArg (f .f32) hx2)) ?_
   refine ROps.d (r := optr 0 0 v4.toNat) (fs := []) (Γ' := [⟨0, some (L1.map f32)⟩]) rfl rfl rfl (TOp.ixo und23 siz26 rfl rfl rfl (set_in he3 hl2) rfl) rfl ?_
   refine ROps.st (f := f32) (i := v4) (Γ' := [⟨0, some (L6.map f32)⟩]) rfl siz26 rfl rfl rfl aR rfl rfl rfl he3 rfl ?_
   refine zN ?_
   obtain ⟨x7, hx4, h2_⟩ := olet_some h2_
   refine RunC.regionW ?_
   refine zM (r := i64 v3) rfl rfl rfl rfl rfl ?_
   refine zL (r := i64 x7) rfl rfl rfl (LOp.eqr (LOp.add rfl rfl rfl) (congrArg (ik .i64) hx4)) ?_
   refine zA (r := i64 x7) rfl rfl rfl rfl rfl ?_
   refine zN ?_
   obtain ⟨x8, hx5, h2_⟩ := olet_some h2_
   refine RunC.regionW ?_
   refine zM (r := i64 v4) rfl rfl rfl rfl rfl ?_
   refine zL (r := i64 x8) rfl rfl rfl (LOp.eqr (LOp.add rfl rfl rfl) (congrArg (ik .i64) hx5)) ?_
   refine zA (r := i64 x8) rfl rfl rfl rfl rfl ?_
   refine zN ?_
   cases Option.some.inj h2_
   exact ⟨_, rfl, ((setAt?_len he3).trans hl2), ⟨aR, aR, aR, trivial⟩, ⟨⟨rfl, .inr rfl⟩, trivial⟩⟩
  ·refine RunC.regionW ?_
   refine zM (r := i64 v4) rfl rfl rfl rfl rfl ?_
   refine zM (r := oref 0 0 0 a1.length) rfl rfl rfl rfl rfl ?_
   refine zL (r := i64 ((a1.length : Nat) : Int)) rfl rfl rfl (LOp.len_oref und23 rfl rfl) ?_
   refine zL (r := b false) rfl rfl rfl (LOp.eqb (LOp.lss rfl rfl rfl) hc1) ?_
   refine zN ?_
   refine RunC.cond_false rfl rfl ?_
   refine RunC.exit ?_
   cases Option.some.inj h2_
   have hx := ho2 _ rfl
   exact ⟨L1, v3, hl2, ⟨aR, trivial⟩, ⟨⟨rfl, .inr rfl⟩, trivial⟩, hx⟩
 ·rintro τ3 Γ3 ⟨L9, v11, hl10, hw3, hd3, rfl⟩
  refine RunC.wl hw3 hd3 ?_
  replace h : w_markFloat32S_0o_k1 L9 v11 = some (q0, q1) := h
  unfold w_markFloat32S_0o_k1 at h
  refine zQ ?_
  refine zM (r := i64 v11) rfl rfl rfl rfl rfl ?_
  refine zA (r := i64 v11) rfl rfl rfl rfl rfl ?_
  refine zN ?_
  refine RunC.ret ?_
  have hq := Option.some.inj h
  obtain ⟨hq0, hq⟩ := Prod.mk.inj hq
  subst q0
  subst q1
  exact bodyQ.mk (r' := i64 v11) [(0, 0)] (.inr rfl) rfl (show List.Nodup [0] from by decide) rfl rfl (Res.one rfl (RV.tmp rfl)) (SelL.arr (f := f32) (fun _ => rfl) rfl trivial)
noncomputable def w_markMatrix_02o (a0 : Int) (a1 : Int) (a2 : Int) (a3 : List F) : Option (Int × (List F)) :=
 obind2 (w_markFloat32S_0o a2 a3) fun (r1 : Int) (r2 : List F) =>
 need (decide (r2.length = a3.length)) <|
 some (r1, r2)
theorem w_markMatrix_02o_ok (a0 : Int) (a1 : Int) (a2 : Int) (a3 : List F) (q0 : Int) (q1 : List F) (h : w_markMatrix_02o a0 a1 a2 a3 = some (q0, q1)) : Ev Try.prog 24 [agg [i64 a0, i64 a1, oref 0 0 0 a3.length], i64 a2] [⟨0, some (a3.map f32)⟩] (i64 q0) [⟨0, some (q1.map f32)⟩] := by
 refine Ev.start Try.func24 rfl rfl 0 (τ := [(0, agg [i64 a0, i64 a1, oref 0 0 0 a3.length]), (1, i64 a2)]) rfl (Γ' := [⟨0, some (a3.map f32)⟩]) rfl (n := 20) rfl (g := 1) rfl (by decide) ?_
 unfold w_markMatrix_02o at h
 refine zQ ?_
 refine ROps.d (r := ptr [i64 a0, i64 a1, oref 0 0 0 a3.length]) (fs := []) (Γ' := [⟨0, some (a3.map f32)⟩]) rfl rfl rfl (TOp.box_s rfl rfl rfl) rfl ?_
 refine zA (r := i64 0) rfl rfl rfl rfl rfl ?_
 refine zN ?_
 refine RunC.seq ?_
 obtain ⟨r1, r2, hf1, h⟩ := obind2_some h
 obtain ⟨hn2, h⟩ := need_some h
 refine RunC.regionW ?_
 refine zL (r := ptr [oref 0 0 0 a3.length]) rfl rfl rfl (LOp.fap und45 rfl siz23 rfl rfl rfl) ?_
 refine zL (r := oref 0 0 0 a3.length) rfl rfl rfl (LOp.load1 agg23 rfl rfl) ?_
 refine zM (r := i64 a2) rfl rfl rfl rfl rfl ?_
 refine ROps.callO (A := [oref 0 0 0 a3.length, i64 a2]) (args := [oref 0 0 0 a3.length, i64 a2]) (Γc := [⟨0, some (a3.map f32)⟩]) (Γc' := [⟨0, some (r2.map f32)⟩]) (r' := i64 r1) (Γ' := [⟨0, some (r2.map f32)⟩]) [(0, 0)] [] rfl (CallAs.func ent15 rfl rfl) rfl rfl (SelOk.of (show List.Nodup [0] from by decide) (SelL.arr0 (f := f32) (fun _ => rfl) rfl trivial)) (live_of ⟨⟨_, _, rfl⟩, trivial⟩) (by simp [ren, rens, sigma, rens_f32, rens_f64, rens_i64, rens_ik, rens_str, rens_cp]) rfl (w_markFloat32S_0o_ok a2 a3 r1 r2 hf1) rfl (news_of trivial) (show List.Nodup [0] from by decide) (by simp [ren, rens, sigma, of_decide_eq_true hn2]) (by simp [backOb, sigma, ren, rens, rens_f32, rens_f64, rens_i64, rens_ik, rens_str, rens_cp]) ?_
 refine zA (r := i64 r1) rfl rfl rfl rfl rfl ?_
 refine zN ?_
 refine zQ ?_
 refine zM (r := i64 r1) rfl rfl rfl rfl rfl ?_
 refine zA (r := i64 r1) rfl rfl rfl rfl rfl ?_
 refine zN ?_
 refine RunC.ret ?_
 have hq := Option.some.inj h
 obtain ⟨hq0, hq⟩ := Prod.mk.inj hq
 subst q0
 subst q1
 exact bodyQ.mk (r' := i64 r1) [(0, 0)] (.inr rfl) rfl (show List.Nodup [0] from by decide) rfl rfl (Res.one rfl (RV.tmp rfl)) (SelL.arr (f := f32) (fun _ => rfl) rfl trivial)
noncomputable def w_heldFloat32S_b1 (a0 : List F) (v1 : Int) (v2 : Int) : Option (LR (Int × Int) (Int) (Int)) :=
 bsel (decide (v2 < (a0.length : Int))) (
  obind (at? a0 v2) fun (e3 : F) =>
  olet (fint .f32 v1) fun (x4 : F) =>
  bsel (!feq .f32 e3 x4) (
   some (LR.ret (-1))) (
   olet (IntKind.i64.wrap (v1 + 1)) fun (x5 : Int) =>
   olet (IntKind.i64.wrap (v2 + 1)) fun (x6 : Int) =>
   some (LR.next (x5, x6)))) (
  some (LR.out v1))
noncomputable def w_heldFloat32S_s1 (a0 : List F) : (Int × Int) → Option (LR (Int × Int) (Int) (Int)) := fun s => w_heldFloat32S_b1 a0 s.1 s.2
noncomputable def w_heldFloat32S_k1 (v7 : Int) : Option (Int) :=
 some v7
noncomputable def w_heldFloat32S (a0 : List F) (a1 : Int) : Option (Int) :=
 obind (loopM (w_heldFloat32S_s1 a0) (a1, 0)) fun z => osum z (fun e => w_heldFloat32S_k1 e) (fun r => some r)
theorem w_heldFloat32S_ok (a0 : List F) (a1 : Int) (q0 : Int) (h : w_heldFloat32S a0 a1 = some q0) : Ev Try.prog 16 [sl a0.length (a0.map f32), i64 a1] [] (i64 q0) [] := by
 refine Ev.start Try.func16 rfl rfl 0 (τ := [(0, sl a0.length (a0.map f32)), (1, i64 a1)]) rfl (Γ' := []) rfl (n := 45) rfl (g := 0) rfl (fun _ => rfl) ?_
 unfold w_heldFloat32S at h
 refine zQ ?_
 refine zA (r := i64 0) rfl rfl rfl rfl rfl ?_
 refine zN ?_
 refine RunC.seq ?_
 refine zQ ?_
 refine zA (r := i64 0) rfl rfl rfl rfl rfl ?_
 refine zN ?_
 obtain ⟨z2, hz_2, h⟩ := obind_some h
 refine RunC.cutN (fun τ Γ => ∃ (v7 : Int), WeakLe τ [(1, i64 v7)] ∧ DeadLe Γ [] ∧ z2 = .inl v7) ?_ ?_
 ·refine RunC.block (RunC.loop (RunL.loopM (x := z2) (w_heldFloat32S_s1 a0) (fun (s : Int × Int) τ Γ => WeakLe τ [(0, sl a0.length (a0.map f32)), (1, i64 s.1), (5, i64 s.2)] ∧ DeadLe Γ []) ?_ _ _ _ hz_2 ⟨⟨aR, aR, aR, trivial⟩, trivial⟩))
  rintro ⟨v1, v2⟩ τ2 Γ2 y2_ ⟨hw2, hd2⟩ h2_ ho2 hr2
  refine RunC.wl (τ' := [(0, sl a0.length (a0.map f32)), (1, i64 v1), (5, i64 v2)]) (Γ' := []) hw2 hd2 ?_
  replace h2_ : w_heldFloat32S_b1 a0 v1 v2 = some y2_ := h2_
  unfold w_heldFloat32S_b1 at h2_
  refine RunC.seq ?_
  refine RunC.seq ?_
  rcases bsel_some h2_ with ⟨hc1, h2_⟩ | ⟨hc1, h2_⟩
  ·refine RunC.regionW ?_
   refine zM (r := i64 v2) rfl rfl rfl rfl rfl ?_
   refine zM (r := sl a0.length (a0.map f32)) rfl rfl rfl rfl rfl ?_
   refine zL (r := i64 (a0.length : Int)) rfl rfl rfl (LOp.len_sl und23 rfl rfl) ?_
   refine zL (r := b true) rfl rfl rfl (LOp.eqb (LOp.lss rfl rfl rfl) hc1) ?_
   refine zN ?_
   refine RunC.cond_true rfl rfl ?_
   refine RunC.skip ?_
   refine RunC.seq ?_
   refine RunC.block ?_
   refine RunC.seq ?_
   refine RunC.seq ?_
   obtain ⟨e3, he2, h2_⟩ := obind_some h2_
   obtain ⟨x4, hx3, h2_⟩ := olet_some h2_
   rcases bsel_some h2_ with ⟨hc4, h2_⟩ | ⟨hc4, h2_⟩
   ·refine RunC.regionW ?_
    refine zM (r := sl a0.length (a0.map f32)) rfl rfl rfl rfl rfl ?_
    refine zM (r := i64 v2) rfl rfl rfl rfl rfl ?_
    refine zL (r := ptr [f32 e3]) rfl rfl rfl (LOp.le (LOp.ix (f := f32) und23 siz26 rfl rfl rfl rfl he2) ALe.ptr) ?_
    refine zL (r := f32 e3) rfl rfl rfl (LOp.load1 agg26 rfl rfl) ?_
    refine zM (r := i64 v1) rfl rfl rfl rfl rfl ?_
    refine zL (r := f32 x4) rfl rfl rfl (LOp.eqr (LOp.i2f (src := 3) (dst := 26) ⟨_, pun3⟩ pun26 rfl rfl) (congrArg (f .f32) hx3)) ?_
    refine zL (r := b true) rfl rfl rfl (LOp.eqb (LOp.fne rfl (OpF.tmp rfl) (OpF.tmp rfl)) hc4) ?_
    refine zN ?_
    refine RunC.cond_true rfl rfl ?_
    refine zQ ?_
    refine zA (r := i64 (-1)) rfl rfl rfl rfl rfl ?_
    refine zN ?_
    refine RunC.ret ?_
    cases Option.some.inj h2_
    have hx3_ := hr2 _ rfl
    subst hx3_
    have hq := Option.some.inj h
    subst q0
    exact bodyQ.pure (.inr rfl) rfl (Res.one rfl (RV.tmp rfl))
   ·refine RunC.regionW ?_
    refine zM (r := sl a0.length (a0.map f32)) rfl rfl rfl rfl rfl ?_
    refine zM (r := i64 v2) rfl rfl rfl rfl rfl ?_
    refine zL (r := ptr [f32 e3]) rfl rfl rfl (LOp.le (LOp.ix (f := f32) und23 siz26 rfl rfl rfl rfl he2) ALe.ptr) ?_
    refine zL (r := f32 e3) rfl rfl rfl (LOp.load1 agg26 rfl rfl) ?_
    refine zM (r := i64 v1) rfl rfl rfl rfl rfl ?_
    refine zL (r := f32 x4) rfl rfl rfl (LOp.eqr (LOp.i2f (src := 3) (dst := 26) ⟨_, pun3⟩ pun26 rfl rfl) (congrArg (f .f32) hx3)) ?_
    refine zL (r := b false) rfl rfl rfl (LOp.eqb (LOp.fne rfl (OpF.tmp rfl) (OpF.tmp rfl)) hc4) ?_
    refine zN ?_
    refine RunC.cond_false rfl rfl ?_
    refine RunC.skip ?_
    obtain ⟨x5, hx5, h2_⟩ := olet_some h2_
    refine RunC.regionW ?_
    refine zM (r := i64 v1) rfl rfl rfl rfl rfl ?_
    refine zL (r := i64 x5) rfl rfl rfl (LOp.eqr (LOp.add rfl rfl rfl) (congrArg (ik .i64) hx5)) ?_
    refine zA (r := i64 x5) rfl rfl rfl rfl rfl ?_
    refine zN ?_
    refine RunC.wl (τ' := [(0, sl a0.length (a0.map f32)), (1, i64 x5), (5, i64 v2)]) (Γ' := []) ⟨aR, aR, aR, trivial⟩ trivial ?_
    obtain ⟨x6, hx6, h2_⟩ := olet_some h2_
    refine RunC.regionW ?_
    refine zM (r := i64 v2) rfl rfl rfl rfl rfl ?_
    refine zL (r := i64 x6) rfl rfl rfl (LOp.eqr (LOp.add rfl rfl rfl) (congrArg (ik .i64) hx6)) ?_
    refine zA (r := i64 x6) rfl rfl rfl rfl rfl ?_
    refine zN ?_
    cases Option.some.inj h2_
    exact ⟨_, rfl, ⟨aR, aR, aR, trivial⟩, trivial⟩
  ·refine RunC.regionW ?_
   refine zM (r := i64 v2) rfl rfl rfl rfl rfl ?_
   refine zM (r := sl a0.length (a0.map f32)) rfl rfl rfl rfl rfl ?_
   refine zL (r := i64 (a0.length : Int)) rfl rfl rfl (LOp.len_sl und23 rfl rfl) ?_
   refine zL (r := b false) rfl rfl rfl (LOp.eqb (LOp.lss rfl rfl rfl) hc1) ?_
   refine zN ?_
   refine RunC.cond_false rfl rfl ?_
   refine RunC.exit ?_
   cases Option.some.inj h2_
   have hx := ho2 _ rfl
   exact ⟨v1, ⟨aR, trivial⟩, trivial, hx⟩
 ·rintro τ4 Γ4 ⟨v7, hw4, hd4, rfl⟩
  refine RunC.wl hw4 hd4 ?_
  replace h : w_heldFloat32S_k1 v7 = some q0 := h
  unfold w_heldFloat32S_k1 at h
  refine zQ ?_
  refine zM (r := i64 v7) rfl rfl rfl rfl rfl ?_
  refine zA (r := i64 v7) rfl rfl rfl rfl rfl ?_
  refine zN ?_
  refine RunC.ret ?_
  have hq := Option.some.inj h
  subst q0
  exact bodyQ.pure (.inr rfl) rfl (Res.one rfl (RV.tmp rfl))
noncomputable def w_FnExactSingularOf (a0 : Int) (a1 : Int) (a2 : List F) (a3 : Int) : Option (Bool) :=
 obind (w_szMatrix a0 a1 a2 1048576) fun (r1 : Int) =>
 bsel (decide (r1 < 0)) (
  some true) (
  obind3 (w_toMatrix a0 a1 a2) fun (r2 : Int) (r3 : Int) (r4 : List F) =>
  obind2 (s_SingularOf r2 r3 r4 a3) fun (r5 : Bool) (r6 : List F) =>
  obind3 (w_toMatrix a0 a1 a2) fun (r7 : Int) (r8 : Int) (r9 : List F) =>
  obind2 (i_SingularOf r7 r8 r9 a3) fun (r10 : Bool) (r11 : List F) =>
  obind (w_eqFloat32S r11 r6) fun (r12 : Bool) =>
  bsel r12 (
   bsel (!(r10 == r5)) (
    some false) (
    obind3 (w_toMatrix a0 a1 a2) fun (r13 : Int) (r14 : Int) (r15 : List F) =>
    obind (w_eqMatrix r7 r8 r9 r13 r14 r15) fun (r16 : Bool) =>
    bsel r16 (
     obind2 (w_markMatrix_02o r7 r8 1 r9) fun (r17 : Int) (r18 : List F) =>
     need (decide (r18.length = r9.length)) <|
     bsel (decide (r17 < 0)) (
      some false) (
      obind (w_eqFloat32S r11 r6) fun (r19 : Bool) =>
      bsel r19 (
       obind2 (w_markFloat32S_0o 1 r11) fun (r20 : Int) (r21 : List F) =>
       need (decide (r21.length = r11.length)) <|
       obind (w_heldFloat32S r21 1) fun (r22 : Int) =>
       bsel (decide (r22 < 0)) (
        some false) (
        bsel (!decide (r22 = r20)) (
         some false) (
         obind3 (w_toMatrix a0 a1 a2) fun (r23 : Int) (r24 : Int) (r25 : List F) =>
         obind2 (i_SingularOf r23 r24 r25 a3) fun (r26 : Bool) (r27 : List F) =>
         obind (w_eqFloat32S r27 r6) fun (r28 : Bool) =>
         bsel r28 (
          bsel (!(r26 == r5)) (
           some false) (
           obind (w_heldFloat32S r21 1) fun (r29 : Int) =>
           bsel (decide (r29 < 0)) (
            some false) (
            bsel (!decide (r29 = r20)) (
             some false) (
             some true)))) (
          some false)))) (
       some false))) (
     some false))) (
   some false))
theorem w_FnExactSingularOf_ok (a0 : Int) (a1 : Int) (a2 : List F) (a3 : Int) (q0 : Bool) (h : w_FnExactSingularOf a0 a1 a2 a3 = some q0) : Ev Try.prog 5 [agg [i64 a0, i64 a1, sl a2.length (a2.map f32)], i64 a3] [] (b q0) [] := by
 refine Ev.start Try.func5 rfl rfl 4 (τ := [(0, agg [i64 a0, i64 a1, sl a2.length (a2.map f32)]), (1, i64 a3)]) rfl (Γ' := [⟨0, none⟩, ⟨0, none⟩, ⟨0, none⟩, ⟨0, none⟩]) rfl (n := 203) rfl (g := 0) rfl (fun _ => rfl) ?_
 unfold w_FnExactSingularOf at h
 refine zQ ?_
 refine ROps.d (r := ptr [i64 a0, i64 a1, sl a2.length (a2.map f32)]) (fs := []) (Γ' := [⟨0, none⟩, ⟨0, none⟩, ⟨0, none⟩, ⟨0, none⟩]) rfl rfl rfl (TOp.box_s rfl rfl rfl) rfl ?_
 refine zA (r := b false) rfl rfl rfl rfl rfl ?_
 refine zN ?_
 refine zQ ?_
 refine zA (r := i64 1048576) rfl rfl rfl rfl rfl ?_
 refine zN ?_
 refine RunC.seq ?_
 obtain ⟨r1, hf1, h⟩ := obind_some h
 refine RunC.regionW ?_
 refine zL (r := agg [i64 a0, i64 a1, sl a2.length (a2.map f32)]) rfl rfl rfl (LOp.loadAgg agg41 siz41 rfl rfl rfl rfl) ?_
 refine zM (r := i64 1048576) rfl rfl rfl rfl rfl ?_
 refine ROps.d (r := i64 r1) (fs := []) (Γ' := [⟨0, none⟩, ⟨0, none⟩, ⟨0, none⟩, ⟨0, none⟩]) rfl rfl rfl (TOp.callB (CallAs.func ent19 rfl rfl) (Bors.cons (Bor.agg (Bors.cons (Bor.pure rfl) (Bors.cons (Bor.pure rfl) (Bors.cons (Bor.sl (fun _ => rfl)) Bors.nil)))) (Bors.cons (Bor.pure rfl) Bors.nil)) rfl rfl (w_szMatrix_ok a0 a1 a2 1048576 r1 hf1)) rfl ?_
 refine zA (r := i64 r1) rfl rfl rfl rfl rfl ?_
 refine zN ?_
 refine RunC.seq ?_
 refine RunC.seq ?_
 rcases bsel_some h with ⟨hc2, h⟩ | ⟨hc2, h⟩
 ·refine RunC.regionW ?_
  refine zM (r := i64 r1) rfl rfl rfl rfl rfl ?_
  refine zL (r := b true) rfl rfl rfl (LOp.eqb (LOp.lss rfl rfl rfl) hc2) ?_
  refine zN ?_
  refine RunC.cond_true rfl rfl ?_
  refine zQ ?_
  refine zA (r := b true) rfl rfl rfl rfl rfl ?_
  refine zN ?_
  refine RunC.ret ?_
  have hq := Option.some.inj h
  subst q0
  exact bodyQ.pure (.inr rfl) rfl (Res.one rfl (RV.tmp rfl))
 ·refine RunC.regionW ?_
  refine zM (r := i64 r1) rfl rfl rfl rfl rfl ?_
  refine zL (r := b false) rfl rfl rfl (LOp.eqb (LOp.lss rfl rfl rfl) hc2) ?_
  refine zN ?_
  refine RunC.cond_false rfl rfl ?_
  refine RunC.skip ?_
  refine RunC.seq ?_
  obtain ⟨r2, r3, r4, hf3, h⟩ := obind3_some h
  obtain ⟨r5, r6, hf4, h⟩ := obind2_some h
  refine RunC.regionW ?_
  refine zL (r := agg [i64 a0, i64 a1, sl a2.length (a2.map f32)]) rfl rfl rfl (LOp.loadAgg agg41 siz41 rfl rfl rfl rfl) ?_
  refine ROps.d (r := agg [i64 r2, i64 r3, oref 0 1 0 r4.length]) (fs := [(0, (r4.map f32))]) (Γ' := [⟨1, some (r4.map f32)⟩, ⟨0, none⟩, ⟨0, none⟩, ⟨0, none⟩]) rfl rfl rfl (TOp.callBN (ls := [(r4.map f32)]) [0] (CallAs.func ent21 rfl rfl) (Bors.cons (Bor.agg (Bors.cons (Bor.pure rfl) (Bors.cons (Bor.pure rfl) (Bors.cons (Bor.sl (fun _ => rfl)) Bors.nil)))) Bors.nil) rfl (w_toMatrix_ok a0 a1 a2 r2 r3 r4 hf3) (and_all (lts0_map (f := f32) (fun _ => rfl) _) rfl) (and_all (noss_map (f := f32) (fun _ => rfl) _) rfl) rfl (by decide) (ns_of ⟨⟨_, rfl⟩, trivial⟩)) rfl ?_
  refine zM (r := i64 a3) rfl rfl rfl rfl rfl ?_
  refine ROps.d (r := tup [oref 1 1 0 r6.length, b r5]) (fs := [(1, (r6.map f32))]) (Γ' := [⟨1, some (r4.map f32)⟩, ⟨1, some (r6.map f32)⟩, ⟨0, none⟩, ⟨0, none⟩]) rfl rfl rfl (TOp.callBN (ls := [(r6.map f32)]) [1] (CallAs.func ent20 rfl rfl) (Bors.cons (Bor.agg (Bors.cons (Bor.pure rfl) (Bors.cons (Bor.pure rfl) (Bors.cons (Bor.own (f := f32) (fun _ => rfl) rfl rfl) Bors.nil)))) (Bors.cons (Bor.pure rfl) Bors.nil)) rfl (s_SingularOf_ok r2 r3 r4 a3 r5 r6 hf4) (and_all (lts0_map (f := f32) (fun _ => rfl) _) rfl) (and_all (noss_map (f := f32) (fun _ => rfl) _) rfl) rfl (by decide) (ns_of ⟨⟨_, rfl⟩, trivial⟩)) rfl ?_
  refine zM (r := tup [oref 1 1 0 r6.length, b r5]) rfl rfl rfl rfl rfl ?_
  refine zL (r := oref 1 1 0 r6.length) rfl rfl rfl (LOp.extract rfl rfl rfl) ?_
  refine zL (r := b r5) rfl rfl rfl (LOp.extract rfl rfl rfl) ?_
  refine zA (r := oref 1 1 0 r6.length) rfl rfl rfl rfl rfl ?_
  refine zA (r := b r5) rfl rfl rfl rfl rfl ?_
  refine zN ?_
  refine RunC.wl (τ' := [(1, i64 a3), (2, ptr [i64 a0, i64 a1, sl a2.length (a2.map f32)]), (6, oref 1 1 0 r6.length), (7, b r5)]) (Γ' := [⟨1, none⟩, ⟨1, some (r6.map f32)⟩, ⟨0, none⟩, ⟨0, none⟩]) ⟨aR, aR, aR, aR, trivial⟩ ⟨⟨rfl, .inl rfl⟩, ⟨rfl, .inr rfl⟩, ⟨rfl, .inr rfl⟩, ⟨rfl, .inr rfl⟩, trivial⟩ ?_
  refine RunC.seq ?_
  obtain ⟨r7, r8, r9, hf5, h⟩ := obind3_some h
  refine RunC.regionW ?_
  refine zL (r := agg [i64 a0, i64 a1, sl a2.length (a2.map f32)]) rfl rfl rfl (LOp.loadAgg agg41 siz41 rfl rfl rfl rfl) ?_
  refine ROps.d (r := agg [i64 r7, i64 r8, oref 0 2 0 r9.length]) (fs := [(0, (r9.map f32))]) (Γ' := [⟨2, some (r9.map f32)⟩, ⟨1, some (r6.map f32)⟩, ⟨0, none⟩, ⟨0, none⟩]) rfl rfl rfl (TOp.callBN (ls := [(r9.map f32)]) [0] (CallAs.func ent21 rfl rfl) (Bors.cons (Bor.agg (Bors.cons (Bor.pure rfl) (Bors.cons (Bor.pure rfl) (Bors.cons (Bor.sl (fun _ => rfl)) Bors.nil)))) Bors.nil) rfl (w_toMatrix_ok a0 a1 a2 r7 r8 r9 hf5) (and_all (lts0_map (f := f32) (fun _ => rfl) _) rfl) (and_all (noss_map (f := f32) (fun _ => rfl) _) rfl) rfl (by decide) (ns_of ⟨⟨_, rfl⟩, trivial⟩)) rfl ?_
  refine ROps.d (r := optr 2 1 0) (fs := [(2, [i64 0, i64 0, nilsl])]) (Γ' := [⟨2, some (r9.map f32)⟩, ⟨1, some (r6.map f32)⟩, ⟨1, some [i64 0, i64 0, nilsl]⟩, ⟨0, none⟩]) rfl rfl rfl (TOp.alloc_o (g := ⟨0, none⟩) 2 rfl zer45 zok45 rfl) rfl ?_
  refine ROps.store_le (r := agg [i64 r7, i64 r8, oref 0 2 0 r9.length]) (l' := [i64 r7, i64 r8, oref 0 2 0 r9.length]) (Γ' := [⟨2, some (r9.map f32)⟩, ⟨1, some (r6.map f32)⟩, ⟨1, some [i64 r7, i64 r8, oref 0 2 0 r9.length]⟩, ⟨0, none⟩]) rfl siz45 rfl rfl rfl aR rfl rfl rfl rfl (Nat.le_of_ble_eq_true rfl) rfl rfl ?_
  refine zN ?_
  refine RunC.seq ?_
  obtain ⟨r10, r11, hf6, h⟩ := obind2_some h
  refine RunC.regionW ?_
  refine ROps.d (r := agg [i64 r7, i64 r8, oref 0 2 0 r9.length]) (fs := []) (Γ' := [⟨2, some (r9.map f32)⟩, ⟨1, some (r6.map f32)⟩, ⟨1, some [i64 r7, i64 r8, oref 0 2 0 r9.length]⟩, ⟨0, none⟩]) rfl rfl rfl (TOp.loadAgg_o rfl agg45 siz45 rfl rfl rfl rfl) rfl ?_
  refine zM (r := i64 a3) rfl rfl rfl rfl rfl ?_
  refine ROps.d (r := tup [oref 3 1 0 r11.length, b r10]) (fs := [(3, (r11.map f32))]) (Γ' := [⟨2, some (r9.map f32)⟩, ⟨1, some (r6.map f32)⟩, ⟨1, some [i64 r7, i64 r8, oref 0 2 0 r9.length]⟩, ⟨1, some (r11.map f32)⟩]) rfl rfl rfl (TOp.callBN (ls := [(r11.map f32)]) [3] (CallAs.func ent22 rfl rfl) (Bors.cons (Bor.agg (Bors.cons (Bor.pure rfl) (Bors.cons (Bor.pure rfl) (Bors.cons (Bor.own (f := f32) (fun _ => rfl) rfl rfl) Bors.nil)))) (Bors.cons (Bor.pure rfl) Bors.nil)) rfl (i_SingularOf_ok r7 r8 r9 a3 r10 r11 hf6) (and_all (lts0_map (f := f32) (fun _ => rfl) _) rfl) (and_all (noss_map (f := f32) (fun _ => rfl) _) rfl) rfl (by decide) (ns_of ⟨⟨_, rfl⟩, trivial⟩)) rfl ?_
  refine zM (r := tup [oref 3 1 0 r11.length, b r10]) rfl rfl rfl rfl rfl ?_
  refine zL (r := oref 3 1 0 r11.length) rfl rfl rfl (LOp.extract rfl rfl rfl) ?_
  refine zL (r := b r10) rfl rfl rfl (LOp.extract rfl rfl rfl) ?_
  refine zA (r := oref 3 1 0 r11.length) rfl rfl rfl rfl rfl ?_
  refine zA (r := b r10) rfl rfl rfl rfl rfl ?_
  refine zN ?_
  refine RunC.seq ?_
  refine RunC.seq ?_
  obtain ⟨r12, hf7, h⟩ := obind_some h
  rcases bsel_some h with ⟨hc8, h⟩ | ⟨hc8, h⟩
  ·rcases bsel_some h with ⟨hc9, h⟩ | ⟨hc9, h⟩
   ·refine RunC.regionW ?_
    refine zM (r := oref 3 1 0 r11.length) rfl rfl rfl rfl rfl ?_
    refine zM (r := oref 1 1 0 r6.length) rfl rfl rfl rfl rfl ?_
    refine ROps.d (r := b true) (fs := []) (Γ' := [⟨2, some (r9.map f32)⟩, ⟨1, some (r6.map f32)⟩, ⟨1, some [i64 r7, i64 r8, oref 0 2 0 r9.length]⟩, ⟨1, some (r11.map f32)⟩]) rfl rfl rfl (TOp.eqb (TOp.callB (CallAs.func ent12 rfl rfl) (Bors.cons (Bor.own (f := f32) (fun _ => rfl) rfl rfl) (Bors.cons (Bor.own (f := f32) (fun _ => rfl) rfl rfl) Bors.nil)) rfl rfl (w_eqFloat32S_ok r11 r6 r12 hf7)) hc8) rfl ?_
    refine zL (r := b false) rfl rfl rfl (LOp.eqb (LOp.not rfl rfl) rfl) ?_
    refine zM (r := b false) rfl rfl rfl rfl rfl ?_
    refine zM (r := b r10) rfl rfl rfl rfl rfl ?_
    refine zM (r := b r5) rfl rfl rfl rfl rfl ?_
    refine zL (r := b true) rfl rfl rfl (LOp.eqb (LOp.neqb pun4 rfl rfl rfl) hc9) ?_
    refine zL (r := b true) rfl rfl rfl (LOp.pick_false rfl rfl rfl) ?_
    refine zN ?_
    refine RunC.cond_true rfl rfl ?_
    refine zQ ?_
    refine zA (r := b false) rfl rfl rfl rfl rfl ?_
    refine zN ?_
    refine RunC.ret ?_
    have hq := Option.some.inj h
    subst q0
    exact bodyQ.pure (.inr rfl) rfl (Res.one rfl (RV.tmp rfl))
   ·refine RunC.regionW ?_
    refine zM (r := oref 3 1 0 r11.length) rfl rfl rfl rfl rfl ?_
    refine zM (r := oref 1 1 0 r6.length) rfl rfl rfl rfl rfl ?_
    refine ROps.d (r := b true) (fs := []) (Γ' := [⟨2, some (r9.map f32)⟩, ⟨1, some (r6.map f32)⟩, ⟨1, some [i64 r7, i64 r8, oref 0 2 0 r9.length]⟩, ⟨1, some (r11.map f32)⟩]) rfl rfl rfl (TOp.eqb (TOp.callB (CallAs.func ent12 rfl rfl) (Bors.cons (Bor.own (f := f32) (fun _ => rfl) rfl rfl) (Bors.cons (Bor.own (f := f32) (fun _ => rfl) rfl rfl) Bors.nil)) rfl rfl (w_eqFloat32S_ok r11 r6 r12 hf7)) hc8) rfl ?_
    refine zL (r := b false) rfl rfl rfl (LOp.eqb (LOp.not rfl rfl) rfl) ?_
    refine zM (r := b false) rfl rfl rfl rfl rfl ?_
    refine zM (r := b r10) rfl rfl rfl rfl rfl ?_
    refine zM (r := b r5) rfl rfl rfl rfl rfl ?_
    refine zL (r := b false) rfl rfl rfl (LOp.eqb (LOp.neqb pun4 rfl rfl rfl) hc9) ?_
    refine zL (r := b false) rfl rfl rfl (LOp.pick_false rfl rfl rfl) ?_
    refine zN ?_
    refine RunC.cond_false rfl rfl ?_
    refine RunC.skip ?_
    refine RunC.seq ?_
    refine RunC.seq ?_
    obtain ⟨r13, r14, r15, hf10, h⟩ := obind3_some h
    obtain ⟨r16, hf11, h⟩ := obind_some h
    rcases bsel_some h with ⟨hc12, h⟩ | ⟨hc12, h⟩
    ·refine RunC.region_draw (Γ' := [⟨2, some (r9.map f32)⟩, ⟨1, some (r6.map f32)⟩, ⟨1, some [i64 r7, i64 r8, oref 0 2 0 r9.length]⟩, ⟨1, some (r11.map f32)⟩]) 5 mixed 
      (TR.d (r := agg [i64 r7, i64 r8, oref 0 2 0 r9.length]) (fs := []) rfl rfl (TOp.loadAgg_o rfl agg45 siz45 rfl rfl rfl rfl) <|
      (TR.l (r := agg [i64 a0, i64 a1, sl a2.length (a2.map f32)]) rfl rfl (LOp.loadAgg agg41 siz41 rfl rfl rfl rfl) <|
      (TR.d (r := agg [i64 r13, i64 r14, sl r15.length (r15.map f32)]) (fs := []) rfl rfl (TOp.callS (CallAs.func ent21 rfl rfl) (ALes.cons aR ALes.nil) (lts_cons (lt_agg (lts_cons rfl (lts_cons rfl (lts_cons (lt_sl (fun _ => rfl)) lts_nil)))) lts_nil) (lt_agg (lts_cons rfl (lts_cons rfl (lts_cons (lt_sl (fun _ => rfl)) lts_nil)))) (w_toMatrix_ok a0 a1 a2 r13 r14 r15 hf10) (Bor.agg (Bors.cons (Bor.pure rfl) (Bors.cons (Bor.pure rfl) (Bors.cons (Bor.own (f := f32) (fun _ => rfl) rfl rfl) Bors.nil))))) <|
      (TR.d (r := b true) (fs := []) rfl rfl (TOp.eqb (TOp.callB (CallAs.func ent23 rfl rfl) (Bors.cons (Bor.agg (Bors.cons (Bor.pure rfl) (Bors.cons (Bor.pure rfl) (Bors.cons (Bor.own (f := f32) (fun _ => rfl) rfl rfl) Bors.nil)))) (Bors.cons (Bor.agg (Bors.cons (Bor.pure rfl) (Bors.cons (Bor.pure rfl) (Bors.cons (Bor.sl (fun _ => rfl)) Bors.nil)))) Bors.nil)) rfl rfl (w_eqMatrix_ok r7 r8 r9 r13 r14 r15 r16 hf11)) hc12) <|
      (TR.l (r := b false) rfl rfl (LOp.eqb (LOp.not rfl rfl) rfl) <|
      TR.nil))))) rfl (by kernel_rfl) rfl fills_nil rfl ?_
     iterate 5 refine ROps.dropS ?_
     refine ROps.drop0 ?_
     refine zN ?_
     refine RunC.cond_false rfl rfl ?_
     refine RunC.skip ?_
     refine zQ ?_
     refine zA (r := i64 1) rfl rfl rfl rfl rfl ?_
     refine zN ?_
     refine RunC.seq ?_
     obtain ⟨r17, r18, hf13, h⟩ := obind2_some h
     obtain ⟨hn14, h⟩ := need_some h
     refine RunC.regionW ?_
     refine ROps.d (r := agg [i64 r7, i64 r8, oref 0 2 0 r9.length]) (fs := []) (Γ' := [⟨2, some (r9.map f32)⟩, ⟨1, some (r6.map f32)⟩, ⟨1, some [i64 r7, i64 r8, oref 0 2 0 r9.length]⟩, ⟨1, some (r11.map f32)⟩]) rfl rfl rfl (TOp.loadAgg_o rfl agg45 siz45 rfl rfl rfl rfl) rfl ?_
     refine zM (r := i64 1) rfl rfl rfl rfl rfl ?_
     refine ROps.callO (A := [agg [i64 r7, i64 r8, oref 0 2 0 r9.length], i64 1]) (args := [agg [i64 r7, i64 r8, oref 0 0 0 r9.length], i64 1]) (Γc := [⟨0, some (r9.map f32)⟩]) (Γc' := [⟨0, some (r18.map f32)⟩]) (r' := i64 r17) (Γ' := [⟨2, some (r18.map f32)⟩, ⟨1, some (r6.map f32)⟩, ⟨1, some [i64 r7, i64 r8, oref 0 2 0 r9.length]⟩, ⟨1, some (r11.map f32)⟩]) [(0, 2)] [] rfl (CallAs.func ent24 rfl rfl) rfl rfl (SelOk.of (show List.Nodup [0] from by decide) (SelL.arr0 (f := f32) (fun _ => rfl) rfl trivial)) (live_of ⟨⟨_, _, rfl⟩, trivial⟩) (by simp [ren, rens, sigma, rens_f32, rens_f64, rens_i64, rens_ik, rens_str, rens_cp]) rfl (w_markMatrix_02o_ok r7 r8 1 r9 r17 r18 hf13) rfl (news_of trivial) (show List.Nodup [0] from by decide) (by simp [ren, rens, sigma, of_decide_eq_true hn14]) (by simp [backOb, sigma, ren, rens, rens_f32, rens_f64, rens_i64, rens_ik, rens_str, rens_cp]) ?_
     refine zA (r := i64 r17) rfl rfl rfl rfl rfl ?_
     refine zN ?_
     refine RunC.wl (τ' := [(1, i64 a3), (2, ptr [i64 a0, i64 a1, sl a2.length (a2.map f32)]), (6, oref 1 1 0 r6.length), (7, b r5), (9, oref 3 1 0 r11.length), (10, b r10), (11, i64 r17)]) (Γ' := [⟨2, none⟩, ⟨1, some (r6.map f32)⟩, ⟨1, none⟩, ⟨1, some (r11.map f32)⟩]) ⟨aR, aR, aR, aR, aR, aR, aR, trivial⟩ ⟨⟨rfl, .inl rfl⟩, ⟨rfl, .inr rfl⟩, ⟨rfl, .inl rfl⟩, ⟨rfl, .inr rfl⟩, trivial⟩ ?_
     refine RunC.seq ?_
     refine RunC.seq ?_
     rcases bsel_some h with ⟨hc15, h⟩ | ⟨hc15, h⟩
     ·refine RunC.regionW ?_
      refine zM (r := i64 r17) rfl rfl rfl rfl rfl ?_
      refine zL (r := b true) rfl rfl rfl (LOp.eqb (LOp.lss rfl rfl rfl) hc15) ?_
      refine zM (r := b true) rfl rfl rfl rfl rfl ?_
      refine ROps.s rfl rfl rfl ?_
      refine ROps.s rfl rfl rfl ?_
      refine ROps.s rfl rfl rfl ?_
      refine ROps.s rfl rfl rfl ?_
      refine zL (r := b true) rfl rfl rfl (LOp.pick_true rfl rfl rfl) ?_
      refine zM (r := b true) rfl rfl rfl rfl rfl ?_
      refine ROps.s rfl rfl rfl ?_
      refine ROps.s rfl rfl rfl ?_
      refine ROps.s rfl rfl rfl ?_
      refine zL (r := b true) rfl rfl rfl (LOp.pick_true rfl rfl rfl) ?_
      refine zN ?_
      refine RunC.cond_true rfl rfl ?_
      refine zQ ?_
      refine zA (r := b false) rfl rfl rfl rfl rfl ?_
      refine zN ?_
      refine RunC.ret ?_
      have hq := Option.some.inj h
      subst q0
      exact bodyQ.pure (.inr rfl) rfl (Res.one rfl (RV.tmp rfl))
     ·obtain ⟨r19, hf16, h⟩ := obind_some h
      rcases bsel_some h with ⟨hc17, h⟩ | ⟨hc17, h⟩
      ·refine RunC.regionW ?_
       refine zM (r := i64 r17) rfl rfl rfl rfl rfl ?_
       refine zL (r := b false) rfl rfl rfl (LOp.eqb (LOp.lss rfl rfl rfl) hc15) ?_
       refine zM (r := b false) rfl rfl rfl rfl rfl ?_
       refine zM (r := oref 3 1 0 r11.length) rfl rfl rfl rfl rfl ?_
       refine zM (r := oref 1 1 0 r6.length) rfl rfl rfl rfl rfl ?_
       refine ROps.d (r := b true) (fs := []) (Γ' := [⟨2, none⟩, ⟨1, some (r6.map f32)⟩, ⟨1, none⟩, ⟨1, some (r11.map f32)⟩]) rfl rfl rfl (TOp.eqb (TOp.callB (CallAs.func ent12 rfl rfl) (Bors.cons (Bor.own (f := f32) (fun _ => rfl) rfl rfl) (Bors.cons (Bor.own (f := f32) (fun _ => rfl) rfl rfl) Bors.nil)) rfl rfl (w_eqFloat32S_ok r11 r6 r19 hf16)) hc17) rfl ?_
       refine zL (r := b false) rfl rfl rfl (LOp.eqb (LOp.not rfl rfl) rfl) ?_
       refine zL (r := b false) rfl rfl rfl (LOp.pick_false rfl rfl rfl) ?_
       refine zM (r := b false) rfl rfl rfl rfl rfl ?_
       refine zM (r := b r10) rfl rfl rfl rfl rfl ?_
       refine zM (r := b r5) rfl rfl rfl rfl rfl ?_
       refine zL (r := b false) rfl rfl rfl (LOp.eqb (LOp.neqb pun4 rfl rfl rfl) hc9) ?_
       refine zL (r := b false) rfl rfl rfl (LOp.pick_false rfl rfl rfl) ?_
       refine zN ?_
       refine RunC.cond_false rfl rfl ?_
       refine RunC.skip ?_
       refine zQ ?_
       refine zA (r := i64 1) rfl rfl rfl rfl rfl ?_
       refine zN ?_
       refine RunC.seq ?_
       obtain ⟨r20, r21, hf18, h⟩ := obind2_some h
       obtain ⟨hn19, h⟩ := need_some h
       refine RunC.regionW ?_
       refine zM (r := oref 3 1 0 r11.length) rfl rfl rfl rfl rfl ?_
       refine zM (r := i64 1) rfl rfl rfl rfl rfl ?_
       refine ROps.callO (A := [oref 3 1 0 r11.length, i64 1]) (args := [oref 0 0 0 r11.length, i64 1]) (Γc := [⟨0, some (r11.map f32)⟩]) (Γc' := [⟨0, some (r21.map f32)⟩]) (r' := i64 r20) (Γ' := [⟨2, none⟩, ⟨1, some (r6.map f32)⟩, ⟨1, none⟩, ⟨1, some (r21.map f32)⟩]) [(3, 1)] [] rfl (CallAs.func ent15 rfl rfl) rfl rfl (SelOk.of (show List.Nodup [3] from by decide) (SelL.arr0 (f := f32) (fun _ => rfl) rfl trivial)) (live_of ⟨⟨_, _, rfl⟩, trivial⟩) (by simp [ren, rens, sigma, rens_f32, rens_f64, rens_i64, rens_ik, rens_str, rens_cp]) rfl (w_markFloat32S_0o_ok 1 r11 r20 r21 hf18) rfl (news_of trivial) (show List.Nodup [3] from by decide) (by simp [ren, rens, sigma, of_decide_eq_true hn19]) (by simp [backOb, sigma, ren, rens, rens_f32, rens_f64, rens_i64, rens_ik, rens_str, rens_cp]) ?_
       refine zA (r := i64 r20) rfl rfl rfl rfl rfl ?_
       refine zN ?_
       refine RunC.wl (τ' := [(1, i64 a3), (2, ptr [i64 a0, i64 a1, sl a2.length (a2.map f32)]), (6, oref 1 1 0 r6.length), (7, b r5), (9, oref 3 1 0 r11.length), (12, i64 r20)]) (Γ' := [⟨2, none⟩, ⟨1, some (r6.map f32)⟩, ⟨1, none⟩, ⟨1, some (r21.map f32)⟩]) ⟨aR, aR, aR, aR, aR, aR, trivial⟩ ⟨⟨rfl, .inl rfl⟩, ⟨rfl, .inr rfl⟩, ⟨rfl, .inl rfl⟩, ⟨rfl, .inr rfl⟩, trivial⟩ ?_
       refine zQ ?_
       refine zA (r := i64 1) rfl rfl rfl rfl rfl ?_
       refine zN ?_
       refine RunC.seq ?_
       obtain ⟨r22, hf20, h⟩ := obind_some h
       refine RunC.regionW ?_
       refine zM (r := oref 3 1 0 r11.length) rfl rfl rfl rfl rfl ?_
       refine zM (r := i64 1) rfl rfl rfl rfl rfl ?_
       refine ROps.d (r := i64 r22) (fs := []) (Γ' := [⟨2, none⟩, ⟨1, some (r6.map f32)⟩, ⟨1, none⟩, ⟨1, some (r21.map f32)⟩]) rfl rfl rfl (TOp.callB (CallAs.func ent16 rfl rfl) (Bors.cons (Bor.own (f := f32) (fun _ => rfl) rfl (of_decide_eq_true hn19)) (Bors.cons (Bor.pure rfl) Bors.nil)) rfl rfl (w_heldFloat32S_ok r21 1 r22 hf20)) rfl ?_
       refine zA (r := i64 r22) rfl rfl rfl rfl rfl ?_
       refine zN ?_
       refine RunC.seq ?_
       refine RunC.seq ?_
       rcases bsel_some h with ⟨hc21, h⟩ | ⟨hc21, h⟩
       ·refine RunC.regionW ?_
        refine zM (r := i64 r22) rfl rfl rfl rfl rfl ?_
        refine zL (r := b true) rfl rfl rfl (LOp.eqb (LOp.lss rfl rfl rfl) hc21) ?_
        refine zN ?_
        refine RunC.cond_true rfl rfl ?_
        refine zQ ?_
        refine zA (r := b false) rfl rfl rfl rfl rfl ?_
        refine zN ?_
        refine RunC.ret ?_
        have hq := Option.some.inj h
        subst q0
        exact bodyQ.pure (.inr rfl) rfl (Res.one rfl (RV.tmp rfl))
       ·refine RunC.regionW ?_
        refine zM (r := i64 r22) rfl rfl rfl rfl rfl ?_
        refine zL (r := b false) rfl rfl rfl (LOp.eqb (LOp.lss rfl rfl rfl) hc21) ?_
        refine zN ?_
        refine RunC.cond_false rfl rfl ?_
        refine RunC.skip ?_
        refine RunC.seq ?_
        refine RunC.seq ?_
        rcases bsel_some h with ⟨hc22, h⟩ | ⟨hc22, h⟩
        ·refine RunC.regionW ?_
         refine zM (r := i64 r22) rfl rfl rfl rfl rfl ?_
         refine zM (r := i64 r20) rfl rfl rfl rfl rfl ?_
         refine zL (r := b true) rfl rfl rfl (LOp.eqb (LOp.neq rfl rfl rfl) hc22) ?_
         refine zN ?_
         refine RunC.cond_true rfl rfl ?_
         refine zQ ?_
         refine zA (r := b false) rfl rfl rfl rfl rfl ?_
         refine zN ?_
         refine RunC.ret ?_
         have hq := Option.some.inj h
         subst q0
         exact bodyQ.pure (.inr rfl) rfl (Res.one rfl (RV.tmp rfl))
        ·refine RunC.regionW ?_
         refine zM (r := i64 r22) rfl rfl rfl rfl rfl ?_
         refine zM (r := i64 r20) rfl rfl rfl rfl rfl ?_
         refine zL (r := b false) rfl rfl rfl (LOp.eqb (LOp.neq rfl rfl rfl) hc22) ?_
         refine zN ?_
         refine RunC.cond_false rfl rfl ?_
         refine RunC.skip ?_
         refine RunC.seq ?_
         obtain ⟨r23, r24, r25, hf23, h⟩ := obind3_some h
         obtain ⟨r26, r27, hf24, h⟩ := obind2_some h
         refine RunC.regionW ?_
         refine zL (r := agg [i64 a0, i64 a1, sl a2.length (a2.map f32)]) rfl rfl rfl (LOp.loadAgg agg41 siz41 rfl rfl rfl rfl) ?_
         refine ROps.d (r := agg [i64 r23, i64 r24, oref 0 3 0 r25.length]) (fs := [(0, (r25.map f32))]) (Γ' := [⟨3, some (r25.map f32)⟩, ⟨1, some (r6.map f32)⟩, ⟨1, none⟩, ⟨1, some (r21.map f32)⟩]) rfl rfl rfl (TOp.callBN (ls := [(r25.map f32)]) [0] (CallAs.func ent21 rfl rfl) (Bors.cons (Bor.agg (Bors.cons (Bor.pure rfl) (Bors.cons (Bor.pure rfl) (Bors.cons (Bor.sl (fun _ => rfl)) Bors.nil)))) Bors.nil) rfl (w_toMatrix_ok a0 a1 a2 r23 r24 r25 hf23) (and_all (lts0_map (f := f32) (fun _ => rfl) _) rfl) (and_all (noss_map (f := f32) (fun _ => rfl) _) rfl) rfl (by decide) (ns_of ⟨⟨_, rfl⟩, trivial⟩)) rfl ?_
         refine zM (r := i64 a3) rfl rfl rfl rfl rfl ?_
         refine ROps.d (r := tup [oref 2 2 0 r27.length, b r26]) (fs := [(2, (r27.map f32))]) (Γ' := [⟨3, some (r25.map f32)⟩, ⟨1, some (r6.map f32)⟩, ⟨2, some (r27.map f32)⟩, ⟨1, some (r21.map f32)⟩]) rfl rfl rfl (TOp.callBN (ls := [(r27.map f32)]) [2] (CallAs.func ent22 rfl rfl) (Bors.cons (Bor.agg (Bors.cons (Bor.pure rfl) (Bors.cons (Bor.pure rfl) (Bors.cons (Bor.own (f := f32) (fun _ => rfl) rfl rfl) Bors.nil)))) (Bors.cons (Bor.pure rfl) Bors.nil)) rfl (i_SingularOf_ok r23 r24 r25 a3 r26 r27 hf24) (and_all (lts0_map (f := f32) (fun _ => rfl) _) rfl) (and_all (noss_map (f := f32) (fun _ => rfl) _) rfl) rfl (by decide) (ns_of ⟨⟨_, rfl⟩, trivial⟩)) rfl ?_
         refine zM (r := tup [oref 2 2 0 r27.length, b r26]) rfl rfl rfl rfl rfl ?_
         refine zL (r := oref 2 2 0 r27.length) rfl rfl rfl (LOp.extract rfl rfl rfl) ?_
         refine zL (r := b r26) rfl rfl rfl (LOp.extract rfl rfl rfl) ?_
         refine zA (r := oref 2 2 0 r27.length) rfl rfl rfl rfl rfl ?_
         refine zA (r := b r26) rfl rfl rfl rfl rfl ?_
         refine zN ?_
         refine RunC.wl (τ' := [(6, oref 1 1 0 r6.length), (7, b r5), (9, oref 3 1 0 r11.length), (12, i64 r20), (14, oref 2 2 0 r27.length), (15, b r26)]) (Γ' := [⟨3, none⟩, ⟨1, some (r6.map f32)⟩, ⟨2, some (r27.map f32)⟩, ⟨1, some (r21.map f32)⟩]) ⟨aR, aR, aR, aR, aR, aR, trivial⟩ ⟨⟨rfl, .inl rfl⟩, ⟨rfl, .inr rfl⟩, ⟨rfl, .inr rfl⟩, ⟨rfl, .inr rfl⟩, trivial⟩ ?_
         refine RunC.seq ?_
         refine RunC.seq ?_
         obtain ⟨r28, hf25, h⟩ := obind_some h
         rcases bsel_some h with ⟨hc26, h⟩ | ⟨hc26, h⟩
         ·rcases bsel_some h with ⟨hc27, h⟩ | ⟨hc27, h⟩
          ·refine RunC.regionW ?_
           refine zM (r := oref 2 2 0 r27.length) rfl rfl rfl rfl rfl ?_
           refine zM (r := oref 1 1 0 r6.length) rfl rfl rfl rfl rfl ?_
           refine ROps.d (r := b true) (fs := []) (Γ' := [⟨3, none⟩, ⟨1, some (r6.map f32)⟩, ⟨2, some (r27.map f32)⟩, ⟨1, some (r21.map f32)⟩]) rfl rfl rfl (TOp.eqb (TOp.callB (CallAs.func ent12 rfl rfl) (Bors.cons (Bor.own (f := f32) (fun _ => rfl) rfl rfl) (Bors.cons (Bor.own (f := f32) (fun _ => rfl) rfl rfl) Bors.nil)) rfl rfl (w_eqFloat32S_ok r27 r6 r28 hf25)) hc26) rfl ?_
           refine zL (r := b false) rfl rfl rfl (LOp.eqb (LOp.not rfl rfl) rfl) ?_
           refine zM (r := b false) rfl rfl rfl rfl rfl ?_
           refine zM (r := b r26) rfl rfl rfl rfl rfl ?_
           refine zM (r := b r5) rfl rfl rfl rfl rfl ?_
           refine zL (r := b true) rfl rfl rfl (LOp.eqb (LOp.neqb pun4 rfl rfl rfl) hc27) ?_
           refine zL (r := b true) rfl rfl rfl (LOp.pick_false rfl rfl rfl) ?_
           refine zN ?_
           refine RunC.wl (τ' := [(9, oref 3 1 0 r11.length), (12, i64 r20), (92, b true)]) (Γ' := [⟨3, none⟩, ⟨1, none⟩, ⟨2, none⟩, ⟨1, some (r21.map f32)⟩]) ⟨aR, aR, aR, trivial⟩ ⟨⟨rfl, .inl rfl⟩, ⟨rfl, .inl rfl⟩, ⟨rfl, .inl rfl⟩, ⟨rfl, .inr rfl⟩, trivial⟩ ?_
           refine RunC.cond_true rfl rfl ?_
           refine zQ ?_
           refine zA (r := b false) rfl rfl rfl rfl rfl ?_
           refine zN ?_
           refine RunC.ret ?_
           have hq := Option.some.inj h
           subst q0
           exact bodyQ.pure (.inr rfl) rfl (Res.one rfl (RV.tmp rfl))
          ·refine RunC.regionW ?_
           refine zM (r := oref 2 2 0 r27.length) rfl rfl rfl rfl rfl ?_
           refine zM (r := oref 1 1 0 r6.length) rfl rfl rfl rfl rfl ?_
           refine ROps.d (r := b true) (fs := []) (Γ' := [⟨3, none⟩, ⟨1, some (r6.map f32)⟩, ⟨2, some (r27.map f32)⟩, ⟨1, some (r21.map f32)⟩]) rfl rfl rfl (TOp.eqb (TOp.callB (CallAs.func ent12 rfl rfl) (Bors.cons (Bor.own (f := f32) (fun _ => rfl) rfl rfl) (Bors.cons (Bor.own (f := f32) (fun _ => rfl) rfl rfl) Bors.nil)) rfl rfl (w_eqFloat32S_ok r27 r6 r28 hf25)) hc26) rfl ?_
           refine zL (r := b false) rfl rfl rfl (LOp.eqb (LOp.not rfl rfl) rfl) ?_
           refine zM (r := b false) rfl rfl rfl rfl rfl ?_
           refine zM (r := b r26) rfl rfl rfl rfl rfl ?_
           refine zM (r := b r5) rfl rfl rfl rfl rfl ?_
           refine zL (r := b false) rfl rfl rfl (LOp.eqb (LOp.neqb pun4 rfl rfl rfl) hc27) ?_
           refine zL (r := b false) rfl rfl rfl (LOp.pick_false rfl rfl rfl) ?_
           refine zN ?_
           refine RunC.wl (τ' := [(9, oref 3 1 0 r11.length), (12, i64 r20), (92, b false)]) (Γ' := [⟨3, none⟩, ⟨1, none⟩, ⟨2, none⟩, ⟨1, some (r21.map f32)⟩]) ⟨aR, aR, aR, trivial⟩ ⟨⟨rfl, .inl rfl⟩, ⟨rfl, .inl rfl⟩, ⟨rfl, .inl rfl⟩, ⟨rfl, .inr rfl⟩, trivial⟩ ?_
           refine RunC.cond_false rfl rfl ?_
           refine RunC.skip ?_
           refine zQ ?_
           refine zA (r := i64 1) rfl rfl rfl rfl rfl ?_
           refine zN ?_
           refine RunC.seq ?_
           obtain ⟨r29, hf28, h⟩ := obind_some h
           refine RunC.regionW ?_
           refine zM (r := oref 3 1 0 r11.length) rfl rfl rfl rfl rfl ?_
           refine zM (r := i64 1) rfl rfl rfl rfl rfl ?_
           refine ROps.d (r := i64 r29) (fs := []) (Γ' := [⟨3, none⟩, ⟨1, none⟩, ⟨2, none⟩, ⟨1, some (r21.map f32)⟩]) rfl rfl rfl (TOp.callB (CallAs.func ent16 rfl rfl) (Bors.cons (Bor.own (f := f32) (fun _ => rfl) rfl (of_decide_eq_true hn19)) (Bors.cons (Bor.pure rfl) Bors.nil)) rfl rfl (w_heldFloat32S_ok r21 1 r29 hf28)) rfl ?_
           refine zA (r := i64 r29) rfl rfl rfl rfl rfl ?_
           refine zN ?_
           refine RunC.wl (τ' := [(12, i64 r20), (13, i64 r29)]) (Γ' := [⟨3, none⟩, ⟨1, none⟩, ⟨2, none⟩, ⟨1, none⟩]) ⟨aR, aR, trivial⟩ ⟨⟨rfl, .inl rfl⟩, ⟨rfl, .inl rfl⟩, ⟨rfl, .inl rfl⟩, ⟨rfl, .inl rfl⟩, trivial⟩ ?_
           refine RunC.seq ?_
           refine RunC.seq ?_
           rcases bsel_some h with ⟨hc29, h⟩ | ⟨hc29, h⟩
           ·refine RunC.regionW ?_
            refine zM (r := i64 r29) rfl rfl rfl rfl rfl ?_
            refine zL (r := b true) rfl rfl rfl (LOp.eqb (LOp.lss rfl rfl rfl) hc29) ?_
            refine zN ?_
            refine RunC.cond_true rfl rfl ?_
            refine zQ ?_
            refine zA (r := b false) rfl rfl rfl rfl rfl ?_
            refine zN ?_
            refine RunC.ret ?_
            have hq := Option.some.inj h
            subst q0
            exact bodyQ.pure (.inr rfl) rfl (Res.one rfl (RV.tmp rfl))
           ·refine RunC.regionW ?_
            refine zM (r := i64 r29) rfl rfl rfl rfl rfl ?_
            refine zL (r := b false) rfl rfl rfl (LOp.eqb (LOp.lss rfl rfl rfl) hc29) ?_
            refine zN ?_
            refine RunC.cond_false rfl rfl ?_
            refine RunC.skip ?_
            refine RunC.seq ?_
            refine RunC.seq ?_
            rcases bsel_some h with ⟨hc30, h⟩ | ⟨hc30, h⟩
            ·refine RunC.regionW ?_
             refine zM (r := i64 r29) rfl rfl rfl rfl rfl ?_
             refine zM (r := i64 r20) rfl rfl rfl rfl rfl ?_
             refine zL (r := b true) rfl rfl rfl (LOp.eqb (LOp.neq rfl rfl rfl) hc30) ?_
             refine zN ?_
             refine RunC.cond_true rfl rfl ?_
             refine zQ ?_
             refine zA (r := b false) rfl rfl rfl rfl rfl ?_
             refine zN ?_
             refine RunC.ret ?_
             have hq := Option.some.inj h
             subst q0
             exact bodyQ.pure (.inr rfl) rfl (Res.one rfl (RV.tmp rfl))
            ·refine RunC.regionW ?_
             refine zM (r := i64 r29) rfl rfl rfl rfl rfl ?_
             refine zM (r := i64 r20) rfl rfl rfl rfl rfl ?_
             refine zL (r := b false) rfl rfl rfl (LOp.eqb (LOp.neq rfl rfl rfl) hc30) ?_
             refine zN ?_
             refine RunC.cond_false rfl rfl ?_
             refine RunC.skip ?_
             refine zQ ?_
             refine zA (r := b true) rfl rfl rfl rfl rfl ?_
             refine zN ?_
             refine RunC.ret ?_
             have hq := Option.some.inj h
             subst q0
             exact bodyQ.pure (.inr rfl) rfl (Res.one rfl (RV.tmp rfl))
         ·refine RunC.regionW ?_
          refine zM (r := oref 2 2 0 r27.length) rfl rfl rfl rfl rfl ?_
          refine zM (r := oref 1 1 0 r6.length) rfl rfl rfl rfl rfl ?_
          refine ROps.d (r := b false) (fs := []) (Γ' := [⟨3, none⟩, ⟨1, some (r6.map f32)⟩, ⟨2, some (r27.map f32)⟩, ⟨1, some (r21.map f32)⟩]) rfl rfl rfl (TOp.eqb (TOp.callB (CallAs.func ent12 rfl rfl) (Bors.cons (Bor.own (f := f32) (fun _ => rfl) rfl rfl) (Bors.cons (Bor.own (f := f32) (fun _ => rfl) rfl rfl) Bors.nil)) rfl rfl (w_eqFloat32S_ok r27 r6 r28 hf25)) hc26) rfl ?_
          refine zL (r := b true) rfl rfl rfl (LOp.eqb (LOp.not rfl rfl) rfl) ?_
          refine zM (r := b true) rfl rfl rfl rfl rfl ?_
          refine ROps.s rfl rfl rfl ?_
          refine ROps.s rfl rfl rfl ?_
          refine ROps.s rfl rfl rfl ?_
          refine zL (r := b true) rfl rfl rfl (LOp.pick_true rfl rfl rfl) ?_
          refine zN ?_
          refine RunC.wl (τ' := [(9, oref 3 1 0 r11.length), (12, i64 r20), (92, b true)]) (Γ' := [⟨3, none⟩, ⟨1, none⟩, ⟨2, none⟩, ⟨1, some (r21.map f32)⟩]) ⟨aR, aR, aR, trivial⟩ ⟨⟨rfl, .inl rfl⟩, ⟨rfl, .inl rfl⟩, ⟨rfl, .inl rfl⟩, ⟨rfl, .inr rfl⟩, trivial⟩ ?_
          refine RunC.cond_true rfl rfl ?_
          refine zQ ?_
          refine zA (r := b false) rfl rfl rfl rfl rfl ?_
          refine zN ?_
          refine RunC.ret ?_
          have hq := Option.some.inj h
          subst q0
          exact bodyQ.pure (.inr rfl) rfl (Res.one rfl (RV.tmp rfl))
      ·refine RunC.regionW ?_
       refine zM (r := i64 r17) rfl rfl rfl rfl rfl ?_
       refine zL (r := b false) rfl rfl rfl (LOp.eqb (LOp.lss rfl rfl rfl) hc15) ?_
       refine zM (r := b false) rfl rfl rfl rfl rfl ?_
       refine zM (r := oref 3 1 0 r11.length) rfl rfl rfl rfl rfl ?_
       refine zM (r := oref 1 1 0 r6.length) rfl rfl rfl rfl rfl ?_
       refine ROps.d (r := b false) (fs := []) (Γ' := [⟨2, none⟩, ⟨1, some (r6.map f32)⟩, ⟨1, none⟩, ⟨1, some (r11.map f32)⟩]) rfl rfl rfl (TOp.eqb (TOp.callB (CallAs.func ent12 rfl rfl) (Bors.cons (Bor.own (f := f32) (fun _ => rfl) rfl rfl) (Bors.cons (Bor.own (f := f32) (fun _ => rfl) rfl rfl) Bors.nil)) rfl rfl (w_eqFloat32S_ok r11 r6 r19 hf16)) hc17) rfl ?_
       refine zL (r := b true) rfl rfl rfl (LOp.eqb (LOp.not rfl rfl) rfl) ?_
       refine zL (r := b true) rfl rfl rfl (LOp.pick_false rfl rfl rfl) ?_
       refine zM (r := b true) rfl rfl rfl rfl rfl ?_
       refine ROps.s rfl rfl rfl ?_
       refine ROps.s rfl rfl rfl ?_
       refine ROps.s rfl rfl rfl ?_
       refine zL (r := b true) rfl rfl rfl (LOp.pick_true rfl rfl rfl) ?_
       refine zN ?_
       refine RunC.cond_true rfl rfl ?_
       refine zQ ?_
       refine zA (r := b false) rfl rfl rfl rfl rfl ?_
       refine zN ?_
       refine RunC.ret ?_
       have hq := Option.some.inj h
       subst q0
       exact bodyQ.pure (.inr rfl) rfl (Res.one rfl (RV.tmp rfl))
    ·refine RunC.region_draw (Γ' := [⟨2, some (r9.map f32)⟩, ⟨1, some (r6.map f32)⟩, ⟨1, some [i64 r7, i64 r8, oref 0 2 0 r9.length]⟩, ⟨1, some (r11.map f32)⟩]) 5 mixed 
      (TR.d (r := agg [i64 r7, i64 r8, oref 0 2 0 r9.length]) (fs := []) rfl rfl (TOp.loadAgg_o rfl agg45 siz45 rfl rfl rfl rfl) <|
      (TR.l (r := agg [i64 a0, i64 a1, sl a2.length (a2.map f32)]) rfl rfl (LOp.loadAgg agg41 siz41 rfl rfl rfl rfl) <|
      (TR.d (r := agg [i64 r13, i64 r14, sl r15.length (r15.map f32)]) (fs := []) rfl rfl (TOp.callS (CallAs.func ent21 rfl rfl) (ALes.cons aR ALes.nil) (lts_cons (lt_agg (lts_cons rfl (lts_cons rfl (lts_cons (lt_sl (fun _ => rfl)) lts_nil)))) lts_nil) (lt_agg (lts_cons rfl (lts_cons rfl (lts_cons (lt_sl (fun _ => rfl)) lts_nil)))) (w_toMatrix_ok a0 a1 a2 r13 r14 r15 hf10) (Bor.agg (Bors.cons (Bor.pure rfl) (Bors.cons (Bor.pure rfl) (Bors.cons (Bor.own (f := f32) (fun _ => rfl) rfl rfl) Bors.nil))))) <|
      (TR.d (r := b false) (fs := []) rfl rfl (TOp.eqb (TOp.callB (CallAs.func ent23 rfl rfl) (Bors.cons (Bor.agg (Bors.cons (Bor.pure rfl) (Bors.cons (Bor.pure rfl) (Bors.cons (Bor.own (f := f32) (fun _ => rfl) rfl rfl) Bors.nil)))) (Bors.cons (Bor.agg (Bors.cons (Bor.pure rfl) (Bors.cons (Bor.pure rfl) (Bors.cons (Bor.sl (fun _ => rfl)) Bors.nil)))) Bors.nil)) rfl rfl (w_eqMatrix_ok r7 r8 r9 r13 r14 r15 r16 hf11)) hc12) <|
      (TR.l (r := b true) rfl rfl (LOp.eqb (LOp.not rfl rfl) rfl) <|
      TR.nil))))) rfl (by kernel_rfl) rfl fills_nil rfl ?_
     iterate 5 refine ROps.dropS ?_
     refine ROps.drop0 ?_
     refine zN ?_
     refine RunC.cond_true rfl rfl ?_
     refine zQ ?_
     refine zA (r := b false) rfl rfl rfl rfl rfl ?_
     refine zN ?_
     refine RunC.ret ?_
     have hq := Option.some.inj h
     subst q0
     exact bodyQ.pure (.inr rfl) rfl (Res.one rfl (RV.tmp rfl))
  ·refine RunC.regionW ?_
   refine zM (r := oref 3 1 0 r11.length) rfl rfl rfl rfl rfl ?_
   refine zM (r := oref 1 1 0 r6.length) rfl rfl rfl rfl rfl ?_
   refine ROps.d (r := b false) (fs := []) (Γ' := [⟨2, some (r9.map f32)⟩, ⟨1, some (r6.map f32)⟩, ⟨1, some [i64 r7, i64 r8, oref 0 2 0 r9.length]⟩, ⟨1, some (r11.map f32)⟩]) rfl rfl rfl (TOp.eqb (TOp.callB (CallAs.func ent12 rfl rfl) (Bors.cons (Bor.own (f := f32) (fun _ => rfl) rfl rfl) (Bors.cons (Bor.own (f := f32) (fun _ => rfl) rfl rfl) Bors.nil)) rfl rfl (w_eqFloat32S_ok r11 r6 r12 hf7)) hc8) rfl ?_
   refine zL (r := b true) rfl rfl rfl (LOp.eqb (LOp.not rfl rfl) rfl) ?_
   refine zM (r := b true) rfl rfl rfl rfl rfl ?_
   refine ROps.s rfl rfl rfl ?_
   refine ROps.s rfl rfl rfl ?_
   refine ROps.s rfl rfl rfl ?_
   refine zL (r := b true) rfl rfl rfl (LOp.pick_true rfl rfl rfl) ?_
   refine zN ?_
   refine RunC.cond_true rfl rfl ?_
   refine zQ ?_
   refine zA (r := b false) rfl rfl rfl rfl rfl ?_
   refine zN ?_
   refine RunC.ret ?_
   have hq := Option.some.inj h
   subst q0
   exact bodyQ.pure (.inr rfl) rfl (Res.one rfl (RV.tmp rfl))
end Go.Proofs.Ytcoookgeialmnaa
