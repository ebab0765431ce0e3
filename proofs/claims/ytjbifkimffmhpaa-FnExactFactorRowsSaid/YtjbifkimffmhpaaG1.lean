/- Generated. -/
import Derived.Test.YtjbifkimffmhpaaG0
namespace Go.Proofs.Ytjbifkimffmhpaa
open Go Go.AM
set_option maxRecDepth 20000
set_option maxHeartbeats 4000000
set_option linter.unusedVariables false
set_option linter.unusedSimpArgs false
noncomputable def i_Matrix_eliminate_02o_b2 (a0 : Int) (a1 : Int) (a2 : Int) (a3 : List F) (v4 : Int) (x7 : F) (L10 : List F) (v12 : Int) : Option (LR ((List F) × Int) ((List F)) ((List F))) :=
  bsel (decide (v12 < a1)) (
    obind (i_Matrix_at a0 a1 L10 v4 v12) fun (r17 : F) =>
    obind (i_Matrix_at a0 a1 L10 a2 v12) fun (r18 : F) =>
    obind (i_mul x7 r18) fun (r19 : F) =>
    olet (fop .sub .f32 r17 r19) fun (x20 : F) =>
    obind (i_Matrix_set_02o a0 a1 v4 v12 x20 L10) fun (r21 : List F) =>
    need (decide (r21.length = a3.length)) <|
    olet (IntKind.i64.wrap (v12 + 1)) fun (x22 : Int) =>
    some (LR.next (r21, x22))) (
    some (LR.out L10))
noncomputable def i_Matrix_eliminate_02o_s2 (a0 : Int) (a1 : Int) (a2 : Int) (a3 : List F) (v4 : Int) (x7 : F) : ((List F) × Int) → Option (LR ((List F) × Int) ((List F)) ((List F))) := fun s => i_Matrix_eliminate_02o_b2 a0 a1 a2 a3 v4 x7 s.1 s.2
noncomputable def i_Matrix_eliminate_02o_k2 (v4 : Int) (L23 : List F) : Option (LR ((List F) × Int) ((List F)) ((List F))) :=
  olet (IntKind.i64.wrap (v4 + 1)) fun (x25 : Int) =>
  some (LR.next (L23, x25))
noncomputable def i_Matrix_eliminate_02o_b3 (a0 : Int) (a1 : Int) (a2 : Int) (a3 : List F) (L2 : List F) (v4 : Int) : Option (LR ((List F) × Int) ((List F)) ((List F))) :=
  bsel (decide (v4 < a0)) (
    obind (i_Matrix_at a0 a1 L2 v4 a2) fun (r5 : F) =>
    obind (i_Matrix_at a0 a1 L2 a2 a2) fun (r6 : F) =>
    olet (fop .quo .f32 r5 r6) fun (x7 : F) =>
    obind (i_Matrix_set_02o a0 a1 v4 a2 x7 L2) fun (r8 : List F) =>
    need (decide (r8.length = a3.length)) <|
    olet (IntKind.i64.wrap (a2 + 1)) fun (x9 : Int) =>
    obind (loopM (i_Matrix_eliminate_02o_s2 a0 a1 a2 a3 v4 x7) (r8, x9)) fun z => osum z (fun e => i_Matrix_eliminate_02o_k2 v4 e) (fun r => some (LR.ret r))) (
    some (LR.out L2))
noncomputable def i_Matrix_eliminate_02o_s3 (a0 : Int) (a1 : Int) (a2 : Int) (a3 : List F) : ((List F) × Int) → Option (LR ((List F) × Int) ((List F)) ((List F))) := fun s => i_Matrix_eliminate_02o_b3 a0 a1 a2 a3 s.1 s.2
noncomputable def i_Matrix_eliminate_02o_k3 (L26 : List F) : Option ((List F)) :=
  some L26
noncomputable def i_Matrix_eliminate_02o (a0 : Int) (a1 : Int) (a2 : Int) (a3 : List F) : Option ((List F)) :=
  olet (IntKind.i64.wrap (a2 + 1)) fun (x1 : Int) =>
  obind (loopM (i_Matrix_eliminate_02o_s3 a0 a1 a2 a3) (a3, x1)) fun z => osum z (fun e => i_Matrix_eliminate_02o_k3 e) (fun r => some r)
theorem i_Matrix_eliminate_02o_ok (a0 : Int) (a1 : Int) (a2 : Int) (a3 : List F) (q0 : List F) (h : i_Matrix_eliminate_02o a0 a1 a2 a3 = some q0) : Ev Try.prog 76 [AV.agg [AV.i64 a0, AV.i64 a1, AV.oref 0 0 0 a3.length], AV.i64 a2] [⟨0, some (a3.map AV.f32)⟩] (AV.tup []) [⟨0, some (q0.map AV.f32)⟩] := by
  refine Ev.start Try.func76 rfl rfl 0 (τ := [(0, AV.agg [AV.i64 a0, AV.i64 a1, AV.oref 0 0 0 a3.length]), (1, AV.i64 a2)]) rfl (Γ' := [⟨0, some (a3.map AV.f32)⟩]) rfl (n := 52) rfl (g := 1) rfl ?_
  unfold i_Matrix_eliminate_02o at h
  refine RunC.seq ?_
  refine RunC.regionW ?_
  refine ROps.d (r := AV.ptr [AV.i64 a0, AV.i64 a1, AV.oref 0 0 0 a3.length]) (fs := []) (Γ' := [⟨0, some (a3.map AV.f32)⟩]) rfl rfl rfl (TOp.box_s rfl rfl rfl) rfl ?_
  refine ROps.nil ?_
  refine RunC.seq ?_
  obtain ⟨x1, hx1, h⟩ := olet_some h
  refine RunC.regionW ?_
  refine ROps.l (r := AV.i64 a2) rfl rfl rfl (LOp.move rfl rfl) ?_
  refine ROps.l (r := AV.i64 x1) rfl rfl rfl (LOp.eqr (LOp.add rfl rfl rfl) (congrArg (AV.ik .i64) hx1)) ?_
  refine ROps.l (r := AV.i64 x1) rfl rfl rfl (LOp.assign rfl rfl) ?_
  refine ROps.nil ?_
  obtain ⟨z4, hz_4, h⟩ := obind_some h
  refine RunC.cutN (fun τ Γ => ∃ (L26 : List F), L26.length = a3.length ∧ WeakLe τ [] ∧ DeadLe Γ [⟨0, some (L26.map AV.f32)⟩] ∧ z4 = .inl L26) ?_ ?_
  · refine RunC.block (RunC.loop (RunL.loopM (x := z4) (i_Matrix_eliminate_02o_s3 a0 a1 a2 a3) (fun (s : (List F) × Int) τ Γ => s.1.length = a3.length ∧ WeakLe τ [(1, AV.i64 a2), (2, AV.ptr [AV.i64 a0, AV.i64 a1, AV.oref 0 0 0 a3.length]), (4, AV.i64 s.2)] ∧ DeadLe Γ [⟨0, some (s.1.map AV.f32)⟩]) ?_ _ _ _ hz_4 ⟨rfl, ⟨(ALe.refl _), (ALe.refl _), (ALe.refl _), trivial⟩, ⟨⟨rfl, .inr rfl⟩, trivial⟩⟩))
    rintro ⟨L2, v4⟩ τ4 Γ4 y4_ ⟨hl3, hw4, hd4⟩ h4_ ho4 hr4
    refine RunC.wl (τ' := [(1, AV.i64 a2), (2, AV.ptr [AV.i64 a0, AV.i64 a1, AV.oref 0 0 0 a3.length]), (4, AV.i64 v4)]) (Γ' := [⟨0, some (L2.map AV.f32)⟩]) hw4 hd4 ?_
    replace hl3 : L2.length = a3.length := hl3
    replace h4_ : i_Matrix_eliminate_02o_b3 a0 a1 a2 a3 L2 v4 = some y4_ := h4_
    unfold i_Matrix_eliminate_02o_b3 at h4_
    refine RunC.seq ?_
    refine RunC.seq ?_
    rcases bsel_some h4_ with ⟨hc2, h4_⟩ | ⟨hc2, h4_⟩
    · refine RunC.regionW ?_
      refine ROps.l (r := AV.i64 v4) rfl rfl rfl (LOp.move rfl rfl) ?_
      refine ROps.l (r := AV.ptr [AV.i64 a0, AV.i64 a1, AV.oref 0 0 0 a3.length]) rfl rfl rfl (LOp.fap und27 rfl siz2 rfl rfl rfl) ?_
      refine ROps.l (r := AV.i64 a0) rfl rfl rfl (LOp.load1 agg2 rfl rfl) ?_
      refine ROps.l (r := AV.b true) rfl rfl rfl (LOp.eqb (LOp.lss rfl rfl rfl) hc2) ?_
      refine ROps.nil ?_
      refine RunC.cond_true rfl rfl ?_
      refine RunC.skip ?_
      refine RunC.seq ?_
      refine RunC.block ?_
      refine RunC.seq ?_
      obtain ⟨r5, hf3, h4_⟩ := obind_some h4_
      obtain ⟨r6, hf4, h4_⟩ := obind_some h4_
      obtain ⟨x7, hx5, h4_⟩ := olet_some h4_
      refine RunC.region_draw (Γ' := [⟨0, some (L2.map AV.f32)⟩]) 10 mixed 
        (TR.l (r := AV.agg [AV.i64 a0, AV.i64 a1, AV.oref 0 0 0 a3.length]) rfl rfl (LOp.loadAgg agg27 siz27 rfl rfl rfl rfl) <|
        (TR.l (r := AV.i64 v4) rfl rfl (LOp.move rfl rfl) <|
        (TR.l (r := AV.i64 a2) rfl rfl (LOp.move rfl rfl) <|
        (TR.d (r := AV.f32 r5) (fs := []) rfl rfl (TOp.callB (CallAs.func ent51 rfl rfl) (Bors.cons (Bor.agg (Bors.cons (Bor.pure rfl) (Bors.cons (Bor.pure rfl) (Bors.cons (Bor.own (f := AV.f32) (fun _ => rfl) rfl hl3) Bors.nil)))) (Bors.cons (Bor.pure rfl) (Bors.cons (Bor.pure rfl) Bors.nil))) rfl rfl (i_Matrix_at_ok a0 a1 L2 v4 a2 r5 hf3)) <|
        (TR.l (r := AV.agg [AV.i64 a0, AV.i64 a1, AV.oref 0 0 0 a3.length]) rfl rfl (LOp.loadAgg agg27 siz27 rfl rfl rfl rfl) <|
        (TR.l (r := AV.i64 a2) rfl rfl (LOp.move rfl rfl) <|
        (TR.l (r := AV.i64 a2) rfl rfl (LOp.move rfl rfl) <|
        (TR.d (r := AV.f32 r6) (fs := []) rfl rfl (TOp.callB (CallAs.func ent51 rfl rfl) (Bors.cons (Bor.agg (Bors.cons (Bor.pure rfl) (Bors.cons (Bor.pure rfl) (Bors.cons (Bor.own (f := AV.f32) (fun _ => rfl) rfl hl3) Bors.nil)))) (Bors.cons (Bor.pure rfl) (Bors.cons (Bor.pure rfl) Bors.nil))) rfl rfl (i_Matrix_at_ok a0 a1 L2 a2 a2 r6 hf4)) <|
        (TR.d (r := AV.f32 x7) (fs := []) rfl rfl (TOp.eqr (TOp.fop (.inr (.inr (.inr rfl))) rfl (OpF.tmp rfl) (OpF.tmp rfl)) (congrArg (AV.f .f32) hx5)) <|
        (TR.l (r := AV.f32 x7) rfl rfl (LOp.assign rfl rfl) <|
        TR.nil)))))))))) rfl (by kernel_rfl) rfl fills_nil rfl ?_
      iterate 10 refine ROps.dropS ?_
      refine ROps.drop0 ?_
      refine ROps.nil ?_
      refine RunC.wl (τ' := [(1, AV.i64 a2), (2, AV.ptr [AV.i64 a0, AV.i64 a1, AV.oref 0 0 0 a3.length]), (4, AV.i64 v4), (5, AV.f32 x7)]) (Γ' := [⟨0, some (L2.map AV.f32)⟩]) ⟨(ALe.refl _), (ALe.refl _), (ALe.refl _), (ALe.refl _), trivial⟩ ⟨⟨rfl, .inr rfl⟩, trivial⟩ ?_
      refine RunC.seq ?_
      obtain ⟨r8, hf6, h4_⟩ := obind_some h4_
      obtain ⟨hn7, h4_⟩ := need_some h4_
      refine RunC.regionW ?_
      refine ROps.l (r := AV.agg [AV.i64 a0, AV.i64 a1, AV.oref 0 0 0 a3.length]) rfl rfl rfl (LOp.loadAgg agg27 siz27 rfl rfl rfl rfl) ?_
      refine ROps.l (r := AV.i64 v4) rfl rfl rfl (LOp.move rfl rfl) ?_
      refine ROps.l (r := AV.i64 a2) rfl rfl rfl (LOp.move rfl rfl) ?_
      refine ROps.l (r := AV.f32 x7) rfl rfl rfl (LOp.move rfl rfl) ?_
      refine ROps.callO (A := [AV.agg [AV.i64 a0, AV.i64 a1, AV.oref 0 0 0 a3.length], AV.i64 v4, AV.i64 a2, AV.f32 x7]) (args := [AV.agg [AV.i64 a0, AV.i64 a1, AV.oref 0 0 0 L2.length], AV.i64 v4, AV.i64 a2, AV.f32 x7]) (Γc := [⟨0, some (L2.map AV.f32)⟩]) (Γc' := [⟨0, some (r8.map AV.f32)⟩]) (r' := AV.tup []) (Γ' := [⟨0, some (r8.map AV.f32)⟩]) [(0, 0)] [] rfl (CallAs.func ent60 rfl rfl) rfl rfl (SelOk.of (show List.Nodup [0] from by decide) (SelL.arr0 (f := AV.f32) (fun _ => rfl) rfl trivial)) (live_of ⟨⟨_, _, rfl⟩, trivial⟩) (by simp [AV.ren, AV.rens, sigma, rens_f32, rens_f64, rens_i64, rens_ik, rens_str, rens_cp, hl3]) rfl (i_Matrix_set_02o_ok a0 a1 v4 a2 x7 L2 r8 hf6) rfl (news_of trivial) (show List.Nodup [0] from by decide) (by simp [AV.ren, AV.rens, sigma, of_decide_eq_true hn7]) (by simp [backOb, sigma, AV.ren, AV.rens, rens_f32, rens_f64, rens_i64, rens_ik, rens_str, rens_cp]) ?_
      refine ROps.nil ?_
      refine RunC.seq ?_
      obtain ⟨x9, hx8, h4_⟩ := olet_some h4_
      refine RunC.regionW ?_
      refine ROps.l (r := AV.i64 a2) rfl rfl rfl (LOp.move rfl rfl) ?_
      refine ROps.l (r := AV.i64 x9) rfl rfl rfl (LOp.eqr (LOp.add rfl rfl rfl) (congrArg (AV.ik .i64) hx8)) ?_
      refine ROps.l (r := AV.i64 x9) rfl rfl rfl (LOp.assign rfl rfl) ?_
      refine ROps.nil ?_
      obtain ⟨z5, hz_5, h4_⟩ := obind_some h4_
      refine RunC.cutN (fun τ Γ => ∃ (L23 : List F), L23.length = a3.length ∧ WeakLe τ [(1, AV.i64 a2), (2, AV.ptr [AV.i64 a0, AV.i64 a1, AV.oref 0 0 0 a3.length]), (4, AV.i64 v4)] ∧ DeadLe Γ [⟨0, some (L23.map AV.f32)⟩] ∧ z5 = .inl L23) ?_ ?_
      · refine RunC.block (RunC.loop (RunL.loopM (x := z5) (i_Matrix_eliminate_02o_s2 a0 a1 a2 a3 v4 x7) (fun (s : (List F) × Int) τ Γ => s.1.length = a3.length ∧ WeakLe τ [(1, AV.i64 a2), (2, AV.ptr [AV.i64 a0, AV.i64 a1, AV.oref 0 0 0 a3.length]), (4, AV.i64 v4), (5, AV.f32 x7), (6, AV.i64 s.2)] ∧ DeadLe Γ [⟨0, some (s.1.map AV.f32)⟩]) ?_ _ _ _ hz_5 ⟨(of_decide_eq_true hn7), ⟨(ALe.refl _), (ALe.refl _), (ALe.refl _), (ALe.refl _), (ALe.refl _), trivial⟩, ⟨⟨rfl, .inr rfl⟩, trivial⟩⟩))
        rintro ⟨L10, v12⟩ τ5 Γ5 y5_ ⟨hl11, hw5, hd5⟩ h5_ ho5 hr5
        refine RunC.wl (τ' := [(1, AV.i64 a2), (2, AV.ptr [AV.i64 a0, AV.i64 a1, AV.oref 0 0 0 a3.length]), (4, AV.i64 v4), (5, AV.f32 x7), (6, AV.i64 v12)]) (Γ' := [⟨0, some (L10.map AV.f32)⟩]) hw5 hd5 ?_
        replace hl11 : L10.length = a3.length := hl11
        replace h5_ : i_Matrix_eliminate_02o_b2 a0 a1 a2 a3 v4 x7 L10 v12 = some y5_ := h5_
        unfold i_Matrix_eliminate_02o_b2 at h5_
        refine RunC.seq ?_
        refine RunC.seq ?_
        rcases bsel_some h5_ with ⟨hc9, h5_⟩ | ⟨hc9, h5_⟩
        · refine RunC.regionW ?_
          refine ROps.l (r := AV.i64 v12) rfl rfl rfl (LOp.move rfl rfl) ?_
          refine ROps.l (r := AV.ptr [AV.i64 a1, AV.oref 0 0 0 a3.length]) rfl rfl rfl (LOp.fap und27 rfl siz2 rfl rfl rfl) ?_
          refine ROps.l (r := AV.i64 a1) rfl rfl rfl (LOp.load1 agg2 rfl rfl) ?_
          refine ROps.l (r := AV.b true) rfl rfl rfl (LOp.eqb (LOp.lss rfl rfl rfl) hc9) ?_
          refine ROps.nil ?_
          refine RunC.cond_true rfl rfl ?_
          refine RunC.skip ?_
          refine RunC.seq ?_
          refine RunC.block ?_
          obtain ⟨r17, hf14, h5_⟩ := obind_some h5_
          obtain ⟨r18, hf15, h5_⟩ := obind_some h5_
          obtain ⟨r19, hf16, h5_⟩ := obind_some h5_
          obtain ⟨x20, hx17, h5_⟩ := olet_some h5_
          obtain ⟨r21, hf18, h5_⟩ := obind_some h5_
          obtain ⟨hn19, h5_⟩ := need_some h5_
          refine RunC.region_draw (Γ' := [⟨0, some (L10.map AV.f32)⟩]) 14 mixed 
            (TR.l (r := AV.agg [AV.i64 a0, AV.i64 a1, AV.oref 0 0 0 a3.length]) rfl rfl (LOp.loadAgg agg27 siz27 rfl rfl rfl rfl) <|
            (TR.l (r := AV.i64 v4) rfl rfl (LOp.move rfl rfl) <|
            (TR.l (r := AV.i64 v12) rfl rfl (LOp.move rfl rfl) <|
            (TR.l (r := AV.agg [AV.i64 a0, AV.i64 a1, AV.oref 0 0 0 a3.length]) rfl rfl (LOp.loadAgg agg27 siz27 rfl rfl rfl rfl) <|
            (TR.l (r := AV.i64 v4) rfl rfl (LOp.move rfl rfl) <|
            (TR.l (r := AV.i64 v12) rfl rfl (LOp.move rfl rfl) <|
            (TR.d (r := AV.f32 r17) (fs := []) rfl rfl (TOp.callB (CallAs.func ent51 rfl rfl) (Bors.cons (Bor.agg (Bors.cons (Bor.pure rfl) (Bors.cons (Bor.pure rfl) (Bors.cons (Bor.own (f := AV.f32) (fun _ => rfl) rfl hl11) Bors.nil)))) (Bors.cons (Bor.pure rfl) (Bors.cons (Bor.pure rfl) Bors.nil))) rfl rfl (i_Matrix_at_ok a0 a1 L10 v4 v12 r17 hf14)) <|
            (TR.l (r := AV.f32 x7) rfl rfl (LOp.move rfl rfl) <|
            (TR.l (r := AV.agg [AV.i64 a0, AV.i64 a1, AV.oref 0 0 0 a3.length]) rfl rfl (LOp.loadAgg agg27 siz27 rfl rfl rfl rfl) <|
            (TR.l (r := AV.i64 a2) rfl rfl (LOp.move rfl rfl) <|
            (TR.l (r := AV.i64 v12) rfl rfl (LOp.move rfl rfl) <|
            (TR.d (r := AV.f32 r18) (fs := []) rfl rfl (TOp.callB (CallAs.func ent51 rfl rfl) (Bors.cons (Bor.agg (Bors.cons (Bor.pure rfl) (Bors.cons (Bor.pure rfl) (Bors.cons (Bor.own (f := AV.f32) (fun _ => rfl) rfl hl11) Bors.nil)))) (Bors.cons (Bor.pure rfl) (Bors.cons (Bor.pure rfl) Bors.nil))) rfl rfl (i_Matrix_at_ok a0 a1 L10 a2 v12 r18 hf15)) <|
            (TR.d (r := AV.f32 r19) (fs := []) rfl rfl (TOp.callB (CallAs.func ent54 rfl rfl) (Bors.cons (Bor.pure rfl) (Bors.cons (Bor.pure rfl) Bors.nil)) rfl rfl (i_mul_ok x7 r18 r19 hf16)) <|
            (TR.d (r := AV.f32 x20) (fs := []) rfl rfl (TOp.eqr (TOp.fop (.inr (.inl rfl)) rfl (OpF.tmp rfl) (OpF.tmp rfl)) (congrArg (AV.f .f32) hx17)) <|
            TR.nil)))))))))))))) rfl (by kernel_rfl) rfl fills_nil rfl ?_
          iterate 14 refine ROps.dropS ?_
          refine ROps.drop0 ?_
          refine ROps.callO (A := [AV.agg [AV.i64 a0, AV.i64 a1, AV.oref 0 0 0 a3.length], AV.i64 v4, AV.i64 v12, AV.f32 x20]) (args := [AV.agg [AV.i64 a0, AV.i64 a1, AV.oref 0 0 0 L10.length], AV.i64 v4, AV.i64 v12, AV.f32 x20]) (Γc := [⟨0, some (L10.map AV.f32)⟩]) (Γc' := [⟨0, some (r21.map AV.f32)⟩]) (r' := AV.tup []) (Γ' := [⟨0, some (r21.map AV.f32)⟩]) [(0, 0)] [] rfl (CallAs.func ent60 rfl rfl) rfl rfl (SelOk.of (show List.Nodup [0] from by decide) (SelL.arr0 (f := AV.f32) (fun _ => rfl) rfl trivial)) (live_of ⟨⟨_, _, rfl⟩, trivial⟩) (by simp [AV.ren, AV.rens, sigma, rens_f32, rens_f64, rens_i64, rens_ik, rens_str, rens_cp, hl11]) rfl (i_Matrix_set_02o_ok a0 a1 v4 v12 x20 L10 r21 hf18) rfl (news_of trivial) (show List.Nodup [0] from by decide) (by simp [AV.ren, AV.rens, sigma, of_decide_eq_true hn19]) (by simp [backOb, sigma, AV.ren, AV.rens, rens_f32, rens_f64, rens_i64, rens_ik, rens_str, rens_cp]) ?_
          refine ROps.nil ?_
          refine RunC.wl (τ' := [(1, AV.i64 a2), (2, AV.ptr [AV.i64 a0, AV.i64 a1, AV.oref 0 0 0 a3.length]), (4, AV.i64 v4), (5, AV.f32 x7), (6, AV.i64 v12)]) (Γ' := [⟨0, some (r21.map AV.f32)⟩]) ⟨(ALe.refl _), (ALe.refl _), (ALe.refl _), (ALe.refl _), (ALe.refl _), trivial⟩ ⟨⟨rfl, .inr rfl⟩, trivial⟩ ?_
          obtain ⟨x22, hx20, h5_⟩ := olet_some h5_
          refine RunC.regionW ?_
          refine ROps.l (r := AV.i64 v12) rfl rfl rfl (LOp.move rfl rfl) ?_
          refine ROps.l (r := AV.i64 x22) rfl rfl rfl (LOp.eqr (LOp.add rfl rfl rfl) (congrArg (AV.ik .i64) hx20)) ?_
          refine ROps.l (r := AV.i64 x22) rfl rfl rfl (LOp.assign rfl rfl) ?_
          refine ROps.nil ?_
          cases Option.some.inj h5_
          exact ⟨_, rfl, (of_decide_eq_true hn19), ⟨(ALe.refl _), (ALe.refl _), (ALe.refl _), (ALe.refl _), (ALe.refl _), trivial⟩, ⟨⟨rfl, .inr rfl⟩, trivial⟩⟩
        · refine RunC.regionW ?_
          refine ROps.l (r := AV.i64 v12) rfl rfl rfl (LOp.move rfl rfl) ?_
          refine ROps.l (r := AV.ptr [AV.i64 a1, AV.oref 0 0 0 a3.length]) rfl rfl rfl (LOp.fap und27 rfl siz2 rfl rfl rfl) ?_
          refine ROps.l (r := AV.i64 a1) rfl rfl rfl (LOp.load1 agg2 rfl rfl) ?_
          refine ROps.l (r := AV.b false) rfl rfl rfl (LOp.eqb (LOp.lss rfl rfl rfl) hc9) ?_
          refine ROps.nil ?_
          refine RunC.cond_false rfl rfl ?_
          refine RunC.exit ?_
          cases Option.some.inj h5_
          have hx := ho5 _ rfl
          exact ⟨L10, hl11, ⟨(ALe.refl _), (ALe.refl _), (ALe.refl _), trivial⟩, ⟨⟨rfl, .inr rfl⟩, trivial⟩, hx⟩
      · rintro τ6 Γ6 ⟨L23, hl24, hw6, hd6, rfl⟩
        refine RunC.wl (τ' := [(1, AV.i64 a2), (2, AV.ptr [AV.i64 a0, AV.i64 a1, AV.oref 0 0 0 a3.length]), (4, AV.i64 v4)]) (Γ' := [⟨0, some (L23.map AV.f32)⟩]) hw6 hd6 ?_
        replace h4_ : i_Matrix_eliminate_02o_k2 v4 L23 = some y4_ := h4_
        unfold i_Matrix_eliminate_02o_k2 at h4_
        obtain ⟨x25, hx21, h4_⟩ := olet_some h4_
        refine RunC.regionW ?_
        refine ROps.l (r := AV.i64 v4) rfl rfl rfl (LOp.move rfl rfl) ?_
        refine ROps.l (r := AV.i64 x25) rfl rfl rfl (LOp.eqr (LOp.add rfl rfl rfl) (congrArg (AV.ik .i64) hx21)) ?_
        refine ROps.l (r := AV.i64 x25) rfl rfl rfl (LOp.assign rfl rfl) ?_
        refine ROps.nil ?_
        cases Option.some.inj h4_
        exact ⟨_, rfl, hl24, ⟨(ALe.refl _), (ALe.refl _), (ALe.refl _), trivial⟩, ⟨⟨rfl, .inr rfl⟩, trivial⟩⟩
    · refine RunC.regionW ?_
      refine ROps.l (r := AV.i64 v4) rfl rfl rfl (LOp.move rfl rfl) ?_
      refine ROps.l (r := AV.ptr [AV.i64 a0, AV.i64 a1, AV.oref 0 0 0 a3.length]) rfl rfl rfl (LOp.fap und27 rfl siz2 rfl rfl rfl) ?_
      refine ROps.l (r := AV.i64 a0) rfl rfl rfl (LOp.load1 agg2 rfl rfl) ?_
      refine ROps.l (r := AV.b false) rfl rfl rfl (LOp.eqb (LOp.lss rfl rfl rfl) hc2) ?_
      refine ROps.nil ?_
      refine RunC.cond_false rfl rfl ?_
      refine RunC.exit ?_
      cases Option.some.inj h4_
      have hx := ho4 _ rfl
      exact ⟨L2, hl3, trivial, ⟨⟨rfl, .inr rfl⟩, trivial⟩, hx⟩
  · rintro τ7 Γ7 ⟨L26, hl27, hw7, hd7, rfl⟩
    replace h : i_Matrix_eliminate_02o_k3 L26 = some q0 := h
    unfold i_Matrix_eliminate_02o_k3 at h
    refine bodyQ.wl hw7 hd7 ?_
    have hq := Option.some.inj h
    subst q0
    exact bodyQ.mk (r' := AV.tup []) [(0, 0)] (.inl rfl) rfl (show List.Nodup [0] from by decide) rfl rfl (Res.zero rfl) (SelL.arr (f := AV.f32) (fun _ => rfl) rfl trivial)
noncomputable def i_FactorRows_k7 (v12 : Int) (v17 : Int) : Option (LR (Int × Int) (Int) (Int × Int × Bool × (List F) × (List Int))) :=
  olet (IntKind.i64.wrap (v12 + 1)) fun (x20 : Int) =>
  some (LR.next (v17, x20))
noncomputable def i_FactorRows_b8 (a0 : Int) (r2 : Int) (r3 : Int) (L6 : List F) (v10 : Int) (v11 : Int) (v12 : Int) : Option (LR (Int × Int) (Int) (Int × Int × Bool × (List F) × (List Int))) :=
  bsel (decide (v12 < a0)) (
    obind (i_Matrix_at r2 r3 L6 v12 v10) fun (r13 : F) =>
    obind (i_absolute r13) fun (r14 : F) =>
    obind (i_Matrix_at r2 r3 L6 v11 v10) fun (r15 : F) =>
    obind (i_absolute r15) fun (r16 : F) =>
    bsel (flt .f32 r16 r14) (
      i_FactorRows_k7 v12 v12) (
      i_FactorRows_k7 v12 v11)) (
    some (LR.out v11))
noncomputable def i_FactorRows_s8 (a0 : Int) (r2 : Int) (r3 : Int) (L6 : List F) (v10 : Int) : (Int × Int) → Option (LR (Int × Int) (Int) (Int × Int × Bool × (List F) × (List Int))) := fun s => i_FactorRows_b8 a0 r2 r3 L6 v10 s.1 s.2
noncomputable def i_FactorRows_k8 (r2 : Int) (r3 : Int) (r4 : List F) (r5 : List Int) (L6 : List F) (L8 : List Int) (v10 : Int) (v23 : Int) : Option (LR ((List F) × (List Int) × Int) ((List F) × (List Int)) (Int × Int × Bool × (List F) × (List Int))) :=
  obind (i_Matrix_at r2 r3 L6 v23 v10) fun (r24 : F) =>
  bsel (feq .f32 r24 (some 0)) (
    some (LR.ret (0, 0, false, ([] : List F), ([] : List Int)))) (
    obind (i_Matrix_swapRows_02o r2 r3 v23 v10 L6) fun (r25 : List F) =>
    need (decide (r25.length = r4.length)) <|
    obind (i_swap_0o v23 v10 L8) fun (r26 : List Int) =>
    need (decide (r26.length = r5.length)) <|
    obind (i_Matrix_eliminate_02o r2 r3 v10 r25) fun (r27 : List F) =>
    need (decide (r27.length = r4.length)) <|
    obind (i_ValidMatrix r2 r3 r27) fun (r28 : Bool) =>
    bsel r28 (
      olet (IntKind.i64.wrap (v10 + 1)) fun (x29 : Int) =>
      some (LR.next (r27, r26, x29))) (
      some (LR.ret (0, 0, false, ([] : List F), ([] : List Int)))))
noncomputable def i_FactorRows_b9 (a0 : Int) (r2 : Int) (r3 : Int) (r4 : List F) (r5 : List Int) (L6 : List F) (L8 : List Int) (v10 : Int) : Option (LR ((List F) × (List Int) × Int) ((List F) × (List Int)) (Int × Int × Bool × (List F) × (List Int))) :=
  bsel (decide (v10 < a0)) (
    obind (loopM (i_FactorRows_s8 a0 r2 r3 L6 v10) (v10, v10)) fun z => osum z (fun e => i_FactorRows_k8 r2 r3 r4 r5 L6 L8 v10 e) (fun r => some (LR.ret r))) (
    some (LR.out (L6, L8)))
noncomputable def i_FactorRows_s9 (a0 : Int) (r2 : Int) (r3 : Int) (r4 : List F) (r5 : List Int) : ((List F) × (List Int) × Int) → Option (LR ((List F) × (List Int) × Int) ((List F) × (List Int)) (Int × Int × Bool × (List F) × (List Int))) := fun s => i_FactorRows_b9 a0 r2 r3 r4 r5 s.1 s.2.1 s.2.2
noncomputable def i_FactorRows_k9 (r2 : Int) (r3 : Int) (L30 : List F) (L32 : List Int) : Option (Int × Int × Bool × (List F) × (List Int)) :=
  some (r2, r3, true, L30, L32)
noncomputable def i_FactorRows (a0 : Int) (a1 : Int) (a2 : List F) : Option (Int × Int × Bool × (List F) × (List Int)) :=
  obind (i_isSquare a0 a1 a2) fun (r1 : Bool) =>
  bsel r1 (
    obind3 (i_Matrix_clone a0 a1 a2) fun (r2 : Int) (r3 : Int) (r4 : List F) =>
    obind (i_ascending a0) fun (r5 : List Int) =>
    obind (loopM (i_FactorRows_s9 a0 r2 r3 r4 r5) (r4, r5, 0)) fun z => osum z (fun e => i_FactorRows_k9 r2 r3 e.1 e.2) (fun r => some r)) (
    some (0, 0, false, ([] : List F), ([] : List Int)))
theorem i_FactorRows_ok (a0 : Int) (a1 : Int) (a2 : List F) (q0 : Int) (q1 : Int) (q2 : Bool) (q3 : List F) (q4 : List Int) (h : i_FactorRows a0 a1 a2 = some (q0, q1, q2, q3, q4)) : Ev Try.prog 28 [AV.agg [AV.i64 a0, AV.i64 a1, AV.sl a2.length (a2.map AV.f32)]] [] (AV.tup [AV.agg [AV.i64 q0, AV.i64 q1, AV.oref 0 0 0 q3.length, AV.oref 1 0 0 q4.length], AV.b q2]) [⟨0, some (q3.map AV.f32)⟩, ⟨0, some (q4.map AV.i64)⟩] := by
  refine Ev.start Try.func28 rfl rfl 6 (τ := [(0, AV.agg [AV.i64 a0, AV.i64 a1, AV.sl a2.length (a2.map AV.f32)])]) rfl (Γ' := [⟨0, none⟩, ⟨0, none⟩, ⟨0, none⟩, ⟨0, none⟩, ⟨0, none⟩, ⟨0, none⟩]) rfl (n := 73) rfl (g := 0) rfl ?_
  unfold i_FactorRows at h
  refine RunC.seq ?_
  refine RunC.regionW ?_
  refine ROps.d (r := AV.ptr [AV.i64 a0, AV.i64 a1, AV.sl a2.length (a2.map AV.f32)]) (fs := []) (Γ' := [⟨0, none⟩, ⟨0, none⟩, ⟨0, none⟩, ⟨0, none⟩, ⟨0, none⟩, ⟨0, none⟩]) rfl rfl rfl (TOp.box_s rfl rfl rfl) rfl ?_
  refine ROps.d (r := AV.optr 0 1 0) (fs := [(0, [AV.i64 0, AV.i64 0, AV.nilsl, AV.nilsl])]) (Γ' := [⟨1, some [AV.i64 0, AV.i64 0, AV.nilsl, AV.nilsl]⟩, ⟨0, none⟩, ⟨0, none⟩, ⟨0, none⟩, ⟨0, none⟩, ⟨0, none⟩]) rfl rfl rfl (TOp.alloc_o (g := ⟨0, none⟩) 0 rfl zer48 zok48 rfl) rfl ?_
  refine ROps.l (r := AV.b false) rfl rfl rfl (LOp.assign rfl rfl) ?_
  refine ROps.nil ?_
  refine RunC.seq ?_
  refine RunC.seq ?_
  obtain ⟨r1, hf1, h⟩ := obind_some h
  rcases bsel_some h with ⟨hc2, h⟩ | ⟨hc2, h⟩
  · refine RunC.regionW ?_
    refine ROps.l (r := AV.agg [AV.i64 a0, AV.i64 a1, AV.sl a2.length (a2.map AV.f32)]) rfl rfl rfl (LOp.loadAgg agg27 siz27 rfl rfl rfl rfl) ?_
    refine ROps.d (r := AV.b true) (fs := []) (Γ' := [⟨1, some [AV.i64 0, AV.i64 0, AV.nilsl, AV.nilsl]⟩, ⟨0, none⟩, ⟨0, none⟩, ⟨0, none⟩, ⟨0, none⟩, ⟨0, none⟩]) rfl rfl rfl (TOp.eqb (TOp.callB (CallAs.func ent59 rfl rfl) (Bors.cons (Bor.agg (Bors.cons (Bor.pure rfl) (Bors.cons (Bor.pure rfl) (Bors.cons (Bor.sl (fun _ => rfl)) Bors.nil)))) Bors.nil) rfl rfl (i_isSquare_ok a0 a1 a2 r1 hf1)) hc2) rfl ?_
    refine ROps.l (r := AV.b false) rfl rfl rfl (LOp.eqb (LOp.not rfl rfl) rfl) ?_
    refine ROps.nil ?_
    refine RunC.cond_false rfl rfl ?_
    refine RunC.skip ?_
    refine RunC.seq ?_
    obtain ⟨r2, r3, r4, hf3, h⟩ := obind3_some h
    obtain ⟨r5, hf4, h⟩ := obind_some h
    refine RunC.region_draw (Γ' := [⟨1, some [AV.i64 0, AV.i64 0, AV.nilsl, AV.nilsl]⟩, ⟨1, some (r4.map AV.f32)⟩, ⟨1, some (r5.map AV.i64)⟩, ⟨1, some [AV.i64 0, AV.i64 0, AV.nilsl, AV.nilsl]⟩, ⟨0, none⟩, ⟨0, none⟩]) 7 mixed 
      (TR.l (r := AV.agg [AV.i64 a0, AV.i64 a1, AV.sl a2.length (a2.map AV.f32)]) rfl rfl (LOp.loadAgg agg27 siz27 rfl rfl rfl rfl) <|
      (TR.d (r := AV.agg [AV.i64 r2, AV.i64 r3, AV.oref 1 1 0 r4.length]) (fs := [(1, (r4.map AV.f32))]) rfl rfl (TOp.callBN (ls := [(r4.map AV.f32)]) [1] (CallAs.func ent48 rfl rfl) (Bors.cons (Bor.agg (Bors.cons (Bor.pure rfl) (Bors.cons (Bor.pure rfl) (Bors.cons (Bor.sl (fun _ => rfl)) Bors.nil)))) Bors.nil) rfl (i_Matrix_clone_ok a0 a1 a2 r2 r3 r4 hf3) (and_all (lts0_map (f := AV.f32) (fun _ => rfl) _) rfl) (and_all (noss_map (f := AV.f32) (fun _ => rfl) _) rfl) rfl (by decide) (ns_of ⟨⟨_, rfl⟩, trivial⟩)) <|
      (TR.l (r := AV.ptr [AV.i64 a0, AV.i64 a1, AV.sl a2.length (a2.map AV.f32)]) rfl rfl (LOp.fap und27 rfl siz2 rfl rfl rfl) <|
      (TR.l (r := AV.i64 a0) rfl rfl (LOp.load1 agg2 rfl rfl) <|
      (TR.d (r := AV.oref 2 1 0 r5.length) (fs := [(2, (r5.map AV.i64))]) rfl rfl (TOp.callBN (ls := [(r5.map AV.i64)]) [2] (CallAs.func ent73 rfl rfl) (Bors.cons (Bor.pure rfl) Bors.nil) rfl (i_ascending_ok a0 r5 hf4) (and_all (lts0_map (f := AV.i64) (fun _ => rfl) _) rfl) (and_all (noss_map (f := AV.i64) (fun _ => rfl) _) rfl) rfl (by decide) (ns_of ⟨⟨_, rfl⟩, trivial⟩)) <|
      (TR.l (r := AV.agg [AV.i64 r2, AV.i64 r3, AV.oref 1 1 0 r4.length, AV.oref 2 1 0 r5.length]) rfl rfl (LOp.build (qs := [(0, [AV.i64 r2, AV.i64 r3, AV.oref 1 1 0 r4.length]), (1, [AV.oref 2 1 0 r5.length])]) zer48 zok48 und48 plc48 rfl ⟨rfl, ⟨_, ALe.refl _, rfl⟩, ⟨rfl, ⟨_, ALe.refl _, rfl⟩, trivial⟩⟩ rfl) <|
      (TR.d (r := AV.optr 3 1 0) (fs := [(3, [AV.i64 0, AV.i64 0, AV.nilsl, AV.nilsl])]) rfl rfl (TOp.alloc_o (g := ⟨0, none⟩) 3 rfl zer48 zok48 rfl) <|
      TR.nil))))))) rfl (by kernel_rfl) rfl (fills_of (by show List.Nodup [1, 2, 3]; decide) ⟨⟨_, rfl⟩, ⟨_, rfl⟩, ⟨_, rfl⟩, trivial⟩) rfl ?_
    iterate 7 refine ROps.dropS ?_
    refine ROps.drop0 ?_
    refine ROps.store_le (r := AV.agg [AV.i64 r2, AV.i64 r3, AV.oref 1 1 0 r4.length, AV.oref 2 1 0 r5.length]) (l' := [AV.i64 r2, AV.i64 r3, AV.oref 1 1 0 r4.length, AV.oref 2 1 0 r5.length]) (Γ' := [⟨1, some [AV.i64 0, AV.i64 0, AV.nilsl, AV.nilsl]⟩, ⟨1, some (r4.map AV.f32)⟩, ⟨1, some (r5.map AV.i64)⟩, ⟨1, some [AV.i64 r2, AV.i64 r3, AV.oref 1 1 0 r4.length, AV.oref 2 1 0 r5.length]⟩, ⟨0, none⟩, ⟨0, none⟩]) rfl siz48 rfl rfl rfl (ALe.refl _) rfl rfl rfl rfl (Nat.le_of_ble_eq_true rfl) rfl rfl ?_
    refine ROps.nil ?_
    refine RunC.seq ?_
    refine RunC.seq ?_
    refine RunC.regionW ?_
    refine ROps.l (r := AV.ptr [AV.i64 a0, AV.i64 a1, AV.sl a2.length (a2.map AV.f32)]) rfl rfl rfl (LOp.fap und27 rfl siz2 rfl rfl rfl) ?_
    refine ROps.l (r := AV.i64 a0) rfl rfl rfl (LOp.load1 agg2 rfl rfl) ?_
    refine ROps.l (r := AV.i64 0) rfl rfl rfl (LOp.move rfl rfl) ?_
    refine ROps.nil ?_
    obtain ⟨z10, hz_10, h⟩ := obind_some h
    refine RunC.cutN (fun τ Γ => ∃ (L30 : List F) (L32 : List Int), L30.length = r4.length ∧ L32.length = r5.length ∧ WeakLe τ [(2, AV.optr 0 1 0), (4, AV.optr 3 1 0)] ∧ DeadLe Γ [⟨1, some [AV.i64 0, AV.i64 0, AV.nilsl, AV.nilsl]⟩, ⟨1, some (L30.map AV.f32)⟩, ⟨1, some (L32.map AV.i64)⟩, ⟨1, some [AV.i64 r2, AV.i64 r3, AV.oref 1 1 0 r4.length, AV.oref 2 1 0 r5.length]⟩, ⟨0, none⟩, ⟨0, none⟩] ∧ z10 = .inl (L30, L32)) ?_ ?_
    · refine RunC.block (RunC.loop (RunL.loopM (x := z10) (i_FactorRows_s9 a0 r2 r3 r4 r5) (fun (s : (List F) × (List Int) × Int) τ Γ => s.1.length = r4.length ∧ s.2.1.length = r5.length ∧ WeakLe τ [(1, AV.ptr [AV.i64 a0, AV.i64 a1, AV.sl a2.length (a2.map AV.f32)]), (2, AV.optr 0 1 0), (4, AV.optr 3 1 0), (19, AV.i64 a0), (20, AV.i64 s.2.2)] ∧ DeadLe Γ [⟨1, some [AV.i64 0, AV.i64 0, AV.nilsl, AV.nilsl]⟩, ⟨1, some (s.1.map AV.f32)⟩, ⟨1, some (s.2.1.map AV.i64)⟩, ⟨1, some [AV.i64 r2, AV.i64 r3, AV.oref 1 1 0 r4.length, AV.oref 2 1 0 r5.length]⟩, ⟨0, none⟩, ⟨0, none⟩]) ?_ _ _ _ hz_10 ⟨rfl, rfl, ⟨(ALe.refl _), (ALe.refl _), (ALe.refl _), (ALe.refl _), (ALe.refl _), trivial⟩, ⟨⟨rfl, .inr rfl⟩, ⟨rfl, .inr rfl⟩, ⟨rfl, .inr rfl⟩, ⟨rfl, .inr rfl⟩, ⟨rfl, .inr rfl⟩, ⟨rfl, .inr rfl⟩, trivial⟩⟩))
      rintro ⟨L6, L8, v10⟩ τ10 Γ10 y10_ ⟨hl7, hl9, hw10, hd10⟩ h10_ ho10 hr10
      refine RunC.wl (τ' := [(1, AV.ptr [AV.i64 a0, AV.i64 a1, AV.sl a2.length (a2.map AV.f32)]), (2, AV.optr 0 1 0), (4, AV.optr 3 1 0), (19, AV.i64 a0), (20, AV.i64 v10)]) (Γ' := [⟨1, some [AV.i64 0, AV.i64 0, AV.nilsl, AV.nilsl]⟩, ⟨1, some (L6.map AV.f32)⟩, ⟨1, some (L8.map AV.i64)⟩, ⟨1, some [AV.i64 r2, AV.i64 r3, AV.oref 1 1 0 r4.length, AV.oref 2 1 0 r5.length]⟩, ⟨0, none⟩, ⟨0, none⟩]) hw10 hd10 ?_
      replace hl7 : L6.length = r4.length := hl7
      replace hl9 : L8.length = r5.length := hl9
      replace h10_ : i_FactorRows_b9 a0 r2 r3 r4 r5 L6 L8 v10 = some y10_ := h10_
      unfold i_FactorRows_b9 at h10_
      refine RunC.seq ?_
      rcases bsel_some h10_ with ⟨hc5, h10_⟩ | ⟨hc5, h10_⟩
      · refine RunC.regionW ?_
        refine ROps.l (r := AV.b true) rfl rfl rfl (LOp.eqb (LOp.lss rfl rfl rfl) hc5) ?_
        refine ROps.nil ?_
        refine RunC.seq ?_
        refine RunC.cond_true rfl rfl ?_
        refine RunC.skip ?_
        refine RunC.seq ?_
        refine RunC.block ?_
        refine RunC.seq ?_
        refine RunC.regionW ?_
        refine ROps.l (r := AV.i64 v10) rfl rfl rfl (LOp.move rfl rfl) ?_
        refine ROps.l (r := AV.i64 v10) rfl rfl rfl (LOp.assign rfl rfl) ?_
        refine ROps.nil ?_
        refine RunC.seq ?_
        refine RunC.regionW ?_
        refine ROps.l (r := AV.i64 v10) rfl rfl rfl (LOp.move rfl rfl) ?_
        refine ROps.l (r := AV.i64 v10) rfl rfl rfl (LOp.assign rfl rfl) ?_
        refine ROps.nil ?_
        refine RunC.seq ?_
        refine RunC.seq ?_
        refine RunC.regionW ?_
        refine ROps.l (r := AV.i64 v10) rfl rfl rfl (LOp.move rfl rfl) ?_
        refine ROps.l (r := AV.i64 v10) rfl rfl rfl (LOp.assign rfl rfl) ?_
        refine ROps.nil ?_
        obtain ⟨z11, hz_11, h10_⟩ := obind_some h10_
        refine RunC.cutN (fun τ Γ => ∃ (v23 : Int), L6.length = r4.length ∧ L8.length = r5.length ∧ WeakLe τ [(1, AV.ptr [AV.i64 a0, AV.i64 a1, AV.sl a2.length (a2.map AV.f32)]), (2, AV.optr 0 1 0), (4, AV.optr 3 1 0), (5, AV.i64 v10), (6, AV.i64 v23), (19, AV.i64 a0), (20, AV.i64 v10)] ∧ DeadLe Γ [⟨1, some [AV.i64 0, AV.i64 0, AV.nilsl, AV.nilsl]⟩, ⟨1, some (L6.map AV.f32)⟩, ⟨1, some (L8.map AV.i64)⟩, ⟨1, some [AV.i64 r2, AV.i64 r3, AV.oref 1 1 0 r4.length, AV.oref 2 1 0 r5.length]⟩, ⟨0, none⟩, ⟨0, none⟩] ∧ z11 = .inl v23) ?_ ?_
        · refine RunC.block (RunC.loop (RunL.loopM (x := z11) (i_FactorRows_s8 a0 r2 r3 L6 v10) (fun (s : Int × Int) τ Γ => WeakLe τ [(1, AV.ptr [AV.i64 a0, AV.i64 a1, AV.sl a2.length (a2.map AV.f32)]), (2, AV.optr 0 1 0), (4, AV.optr 3 1 0), (5, AV.i64 v10), (6, AV.i64 s.1), (7, AV.i64 s.2), (19, AV.i64 a0), (20, AV.i64 v10)] ∧ DeadLe Γ [⟨1, some [AV.i64 0, AV.i64 0, AV.nilsl, AV.nilsl]⟩, ⟨1, some (L6.map AV.f32)⟩, ⟨1, some (L8.map AV.i64)⟩, ⟨1, some [AV.i64 r2, AV.i64 r3, AV.oref 1 1 0 r4.length, AV.oref 2 1 0 r5.length]⟩, ⟨0, none⟩, ⟨0, none⟩]) ?_ _ _ _ hz_11 ⟨⟨(ALe.refl _), (ALe.refl _), (ALe.refl _), (ALe.refl _), (ALe.refl _), (ALe.refl _), (ALe.refl _), (ALe.refl _), trivial⟩, ⟨⟨rfl, .inr rfl⟩, ⟨rfl, .inr rfl⟩, ⟨rfl, .inr rfl⟩, ⟨rfl, .inr rfl⟩, ⟨rfl, .inr rfl⟩, ⟨rfl, .inr rfl⟩, trivial⟩⟩))
          rintro ⟨v11, v12⟩ τ11 Γ11 y11_ ⟨hw11, hd11⟩ h11_ ho11 hr11
          refine RunC.wl (τ' := [(1, AV.ptr [AV.i64 a0, AV.i64 a1, AV.sl a2.length (a2.map AV.f32)]), (2, AV.optr 0 1 0), (4, AV.optr 3 1 0), (5, AV.i64 v10), (6, AV.i64 v11), (7, AV.i64 v12), (19, AV.i64 a0), (20, AV.i64 v10)]) (Γ' := [⟨1, some [AV.i64 0, AV.i64 0, AV.nilsl, AV.nilsl]⟩, ⟨1, some (L6.map AV.f32)⟩, ⟨1, some (L8.map AV.i64)⟩, ⟨1, some [AV.i64 r2, AV.i64 r3, AV.oref 1 1 0 r4.length, AV.oref 2 1 0 r5.length]⟩, ⟨0, none⟩, ⟨0, none⟩]) hw11 hd11 ?_
          replace h11_ : i_FactorRows_b8 a0 r2 r3 L6 v10 v11 v12 = some y11_ := h11_
          unfold i_FactorRows_b8 at h11_
          refine RunC.seq ?_
          refine RunC.seq ?_
          rcases bsel_some h11_ with ⟨hc6, h11_⟩ | ⟨hc6, h11_⟩
          · refine RunC.regionW ?_
            refine ROps.l (r := AV.i64 v12) rfl rfl rfl (LOp.move rfl rfl) ?_
            refine ROps.l (r := AV.ptr [AV.i64 a0, AV.i64 a1, AV.sl a2.length (a2.map AV.f32)]) rfl rfl rfl (LOp.fap und27 rfl siz2 rfl rfl rfl) ?_
            refine ROps.l (r := AV.i64 a0) rfl rfl rfl (LOp.load1 agg2 rfl rfl) ?_
            refine ROps.l (r := AV.b true) rfl rfl rfl (LOp.eqb (LOp.lss rfl rfl rfl) hc6) ?_
            refine ROps.nil ?_
            refine RunC.cond_true rfl rfl ?_
            refine RunC.skip ?_
            refine RunC.seq ?_
            refine RunC.cutN (fun τ Γ => ∃ (v17 : Int), L6.length = r4.length ∧ L8.length = r5.length ∧ WeakLe τ [(1, AV.ptr [AV.i64 a0, AV.i64 a1, AV.sl a2.length (a2.map AV.f32)]), (2, AV.optr 0 1 0), (4, AV.optr 3 1 0), (5, AV.i64 v10), (6, AV.i64 v17), (7, AV.i64 v12), (19, AV.i64 a0), (20, AV.i64 v10)] ∧ DeadLe Γ [⟨1, some [AV.i64 0, AV.i64 0, AV.nilsl, AV.nilsl]⟩, ⟨1, some (L6.map AV.f32)⟩, ⟨1, some (L8.map AV.i64)⟩, ⟨1, some [AV.i64 r2, AV.i64 r3, AV.oref 1 1 0 r4.length, AV.oref 2 1 0 r5.length]⟩, ⟨0, none⟩, ⟨0, none⟩] ∧ i_FactorRows_k7 v12 v17 = some y11_) ?_ ?_
            · refine RunC.block ?_
              refine RunC.seq ?_
              obtain ⟨r13, hf7, h11_⟩ := obind_some h11_
              obtain ⟨r14, hf8, h11_⟩ := obind_some h11_
              obtain ⟨r15, hf9, h11_⟩ := obind_some h11_
              obtain ⟨r16, hf10, h11_⟩ := obind_some h11_
              rcases bsel_some h11_ with ⟨hc11, h11_⟩ | ⟨hc11, h11_⟩
              · refine RunC.region_draw (Γ' := [⟨1, some [AV.i64 0, AV.i64 0, AV.nilsl, AV.nilsl]⟩, ⟨1, some (L6.map AV.f32)⟩, ⟨1, some (L8.map AV.i64)⟩, ⟨1, some [AV.i64 r2, AV.i64 r3, AV.oref 1 1 0 r4.length, AV.oref 2 1 0 r5.length]⟩, ⟨0, none⟩, ⟨0, none⟩]) 13 mixed 
                  (TR.l (r := AV.optr 3 1 0) rfl rfl (LOp.fao und48 rfl siz27 rfl rfl rfl) <|
                  (TR.d (r := AV.agg [AV.i64 r2, AV.i64 r3, AV.oref 1 1 0 r4.length]) (fs := []) rfl rfl (TOp.loadAgg_o rfl agg27 siz27 rfl rfl rfl rfl) <|
                  (TR.l (r := AV.i64 v12) rfl rfl (LOp.move rfl rfl) <|
                  (TR.l (r := AV.i64 v10) rfl rfl (LOp.move rfl rfl) <|
                  (TR.d (r := AV.f32 r13) (fs := []) rfl rfl (TOp.callB (CallAs.func ent51 rfl rfl) (Bors.cons (Bor.agg (Bors.cons (Bor.pure rfl) (Bors.cons (Bor.pure rfl) (Bors.cons (Bor.own (f := AV.f32) (fun _ => rfl) rfl hl7) Bors.nil)))) (Bors.cons (Bor.pure rfl) (Bors.cons (Bor.pure rfl) Bors.nil))) rfl rfl (i_Matrix_at_ok r2 r3 L6 v12 v10 r13 hf7)) <|
                  (TR.d (r := AV.f32 r14) (fs := []) rfl rfl (TOp.callB (CallAs.func ent50 rfl rfl) (Bors.cons (Bor.pure rfl) Bors.nil) rfl rfl (i_absolute_ok r13 r14 hf8)) <|
                  (TR.l (r := AV.optr 3 1 0) rfl rfl (LOp.fao und48 rfl siz27 rfl rfl rfl) <|
                  (TR.d (r := AV.agg [AV.i64 r2, AV.i64 r3, AV.oref 1 1 0 r4.length]) (fs := []) rfl rfl (TOp.loadAgg_o rfl agg27 siz27 rfl rfl rfl rfl) <|
                  (TR.l (r := AV.i64 v11) rfl rfl (LOp.move rfl rfl) <|
                  (TR.l (r := AV.i64 v10) rfl rfl (LOp.move rfl rfl) <|
                  (TR.d (r := AV.f32 r15) (fs := []) rfl rfl (TOp.callB (CallAs.func ent51 rfl rfl) (Bors.cons (Bor.agg (Bors.cons (Bor.pure rfl) (Bors.cons (Bor.pure rfl) (Bors.cons (Bor.own (f := AV.f32) (fun _ => rfl) rfl hl7) Bors.nil)))) (Bors.cons (Bor.pure rfl) (Bors.cons (Bor.pure rfl) Bors.nil))) rfl rfl (i_Matrix_at_ok r2 r3 L6 v11 v10 r15 hf9)) <|
                  (TR.d (r := AV.f32 r16) (fs := []) rfl rfl (TOp.callB (CallAs.func ent50 rfl rfl) (Bors.cons (Bor.pure rfl) Bors.nil) rfl rfl (i_absolute_ok r15 r16 hf10)) <|
                  (TR.l (r := AV.b true) rfl rfl (LOp.eqb (LOp.fgt rfl (OpF.tmp rfl) (OpF.tmp rfl)) hc11) <|
                  TR.nil))))))))))))) rfl (by kernel_rfl) rfl fills_nil rfl ?_
                iterate 13 refine ROps.dropS ?_
                refine ROps.drop0 ?_
                refine ROps.nil ?_
                refine RunC.wl (τ' := [(1, AV.ptr [AV.i64 a0, AV.i64 a1, AV.sl a2.length (a2.map AV.f32)]), (2, AV.optr 0 1 0), (4, AV.optr 3 1 0), (5, AV.i64 v10), (6, AV.i64 v11), (7, AV.i64 v12), (19, AV.i64 a0), (20, AV.i64 v10), (43, AV.b true)]) (Γ' := [⟨1, some [AV.i64 0, AV.i64 0, AV.nilsl, AV.nilsl]⟩, ⟨1, some (L6.map AV.f32)⟩, ⟨1, some (L8.map AV.i64)⟩, ⟨1, some [AV.i64 r2, AV.i64 r3, AV.oref 1 1 0 r4.length, AV.oref 2 1 0 r5.length]⟩, ⟨0, none⟩, ⟨0, none⟩]) ⟨(ALe.refl _), (ALe.refl _), (ALe.refl _), (ALe.refl _), (ALe.refl _), (ALe.refl _), (ALe.refl _), (ALe.refl _), (ALe.refl _), trivial⟩ ⟨⟨rfl, .inr rfl⟩, ⟨rfl, .inr rfl⟩, ⟨rfl, .inr rfl⟩, ⟨rfl, .inr rfl⟩, ⟨rfl, .inr rfl⟩, ⟨rfl, .inr rfl⟩, trivial⟩ ?_
                refine RunC.cond_true rfl rfl ?_
                refine RunC.regionW ?_
                refine ROps.l (r := AV.i64 v12) rfl rfl rfl (LOp.move rfl rfl) ?_
                refine ROps.l (r := AV.i64 v12) rfl rfl rfl (LOp.assign rfl rfl) ?_
                refine ROps.nil ?_
                exact ⟨v12, hl7, hl9, ⟨(ALe.refl _), (ALe.refl _), (ALe.refl _), (ALe.refl _), (ALe.refl _), (ALe.refl _), (ALe.refl _), (ALe.refl _), trivial⟩, ⟨⟨rfl, .inr rfl⟩, ⟨rfl, .inr rfl⟩, ⟨rfl, .inr rfl⟩, ⟨rfl, .inr rfl⟩, ⟨rfl, .inr rfl⟩, ⟨rfl, .inr rfl⟩, trivial⟩, h11_⟩
              · refine RunC.region_draw (Γ' := [⟨1, some [AV.i64 0, AV.i64 0, AV.nilsl, AV.nilsl]⟩, ⟨1, some (L6.map AV.f32)⟩, ⟨1, some (L8.map AV.i64)⟩, ⟨1, some [AV.i64 r2, AV.i64 r3, AV.oref 1 1 0 r4.length, AV.oref 2 1 0 r5.length]⟩, ⟨0, none⟩, ⟨0, none⟩]) 13 mixed 
                  (TR.l (r := AV.optr 3 1 0) rfl rfl (LOp.fao und48 rfl siz27 rfl rfl rfl) <|
                  (TR.d (r := AV.agg [AV.i64 r2, AV.i64 r3, AV.oref 1 1 0 r4.length]) (fs := []) rfl rfl (TOp.loadAgg_o rfl agg27 siz27 rfl rfl rfl rfl) <|
                  (TR.l (r := AV.i64 v12) rfl rfl (LOp.move rfl rfl) <|
                  (TR.l (r := AV.i64 v10) rfl rfl (LOp.move rfl rfl) <|
                  (TR.d (r := AV.f32 r13) (fs := []) rfl rfl (TOp.callB (CallAs.func ent51 rfl rfl) (Bors.cons (Bor.agg (Bors.cons (Bor.pure rfl) (Bors.cons (Bor.pure rfl) (Bors.cons (Bor.own (f := AV.f32) (fun _ => rfl) rfl hl7) Bors.nil)))) (Bors.cons (Bor.pure rfl) (Bors.cons (Bor.pure rfl) Bors.nil))) rfl rfl (i_Matrix_at_ok r2 r3 L6 v12 v10 r13 hf7)) <|
                  (TR.d (r := AV.f32 r14) (fs := []) rfl rfl (TOp.callB (CallAs.func ent50 rfl rfl) (Bors.cons (Bor.pure rfl) Bors.nil) rfl rfl (i_absolute_ok r13 r14 hf8)) <|
                  (TR.l (r := AV.optr 3 1 0) rfl rfl (LOp.fao und48 rfl siz27 rfl rfl rfl) <|
                  (TR.d (r := AV.agg [AV.i64 r2, AV.i64 r3, AV.oref 1 1 0 r4.length]) (fs := []) rfl rfl (TOp.loadAgg_o rfl agg27 siz27 rfl rfl rfl rfl) <|
                  (TR.l (r := AV.i64 v11) rfl rfl (LOp.move rfl rfl) <|
                  (TR.l (r := AV.i64 v10) rfl rfl (LOp.move rfl rfl) <|
                  (TR.d (r := AV.f32 r15) (fs := []) rfl rfl (TOp.callB (CallAs.func ent51 rfl rfl) (Bors.cons (Bor.agg (Bors.cons (Bor.pure rfl) (Bors.cons (Bor.pure rfl) (Bors.cons (Bor.own (f := AV.f32) (fun _ => rfl) rfl hl7) Bors.nil)))) (Bors.cons (Bor.pure rfl) (Bors.cons (Bor.pure rfl) Bors.nil))) rfl rfl (i_Matrix_at_ok r2 r3 L6 v11 v10 r15 hf9)) <|
                  (TR.d (r := AV.f32 r16) (fs := []) rfl rfl (TOp.callB (CallAs.func ent50 rfl rfl) (Bors.cons (Bor.pure rfl) Bors.nil) rfl rfl (i_absolute_ok r15 r16 hf10)) <|
                  (TR.l (r := AV.b false) rfl rfl (LOp.eqb (LOp.fgt rfl (OpF.tmp rfl) (OpF.tmp rfl)) hc11) <|
                  TR.nil))))))))))))) rfl (by kernel_rfl) rfl fills_nil rfl ?_
                iterate 13 refine ROps.dropS ?_
                refine ROps.drop0 ?_
                refine ROps.nil ?_
                refine RunC.wl (τ' := [(1, AV.ptr [AV.i64 a0, AV.i64 a1, AV.sl a2.length (a2.map AV.f32)]), (2, AV.optr 0 1 0), (4, AV.optr 3 1 0), (5, AV.i64 v10), (6, AV.i64 v11), (7, AV.i64 v12), (19, AV.i64 a0), (20, AV.i64 v10), (43, AV.b false)]) (Γ' := [⟨1, some [AV.i64 0, AV.i64 0, AV.nilsl, AV.nilsl]⟩, ⟨1, some (L6.map AV.f32)⟩, ⟨1, some (L8.map AV.i64)⟩, ⟨1, some [AV.i64 r2, AV.i64 r3, AV.oref 1 1 0 r4.length, AV.oref 2 1 0 r5.length]⟩, ⟨0, none⟩, ⟨0, none⟩]) ⟨(ALe.refl _), (ALe.refl _), (ALe.refl _), (ALe.refl _), (ALe.refl _), (ALe.refl _), (ALe.refl _), (ALe.refl _), (ALe.refl _), trivial⟩ ⟨⟨rfl, .inr rfl⟩, ⟨rfl, .inr rfl⟩, ⟨rfl, .inr rfl⟩, ⟨rfl, .inr rfl⟩, ⟨rfl, .inr rfl⟩, ⟨rfl, .inr rfl⟩, trivial⟩ ?_
                refine RunC.cond_false rfl rfl ?_
                refine RunC.skip ?_
                exact ⟨v11, hl7, hl9, ⟨(ALe.refl _), (ALe.refl _), (ALe.refl _), (ALe.refl _), (ALe.refl _), (ALe.refl _), (ALe.refl _), (ALe.refl _), trivial⟩, ⟨⟨rfl, .inr rfl⟩, ⟨rfl, .inr rfl⟩, ⟨rfl, .inr rfl⟩, ⟨rfl, .inr rfl⟩, ⟨rfl, .inr rfl⟩, ⟨rfl, .inr rfl⟩, trivial⟩, h11_⟩
            · rintro τ12 Γ12 ⟨v17, hl18, hl19, hw12, hd12, h11_⟩
              refine RunC.wl (τ' := [(1, AV.ptr [AV.i64 a0, AV.i64 a1, AV.sl a2.length (a2.map AV.f32)]), (2, AV.optr 0 1 0), (4, AV.optr 3 1 0), (5, AV.i64 v10), (6, AV.i64 v17), (7, AV.i64 v12), (19, AV.i64 a0), (20, AV.i64 v10)]) (Γ' := [⟨1, some [AV.i64 0, AV.i64 0, AV.nilsl, AV.nilsl]⟩, ⟨1, some (L6.map AV.f32)⟩, ⟨1, some (L8.map AV.i64)⟩, ⟨1, some [AV.i64 r2, AV.i64 r3, AV.oref 1 1 0 r4.length, AV.oref 2 1 0 r5.length]⟩, ⟨0, none⟩, ⟨0, none⟩]) hw12 hd12 ?_
              unfold i_FactorRows_k7 at h11_
              obtain ⟨x20, hx12, h11_⟩ := olet_some h11_
              refine RunC.regionW ?_
              refine ROps.l (r := AV.i64 v12) rfl rfl rfl (LOp.move rfl rfl) ?_
              refine ROps.l (r := AV.i64 x20) rfl rfl rfl (LOp.eqr (LOp.add rfl rfl rfl) (congrArg (AV.ik .i64) hx12)) ?_
              refine ROps.l (r := AV.i64 x20) rfl rfl rfl (LOp.assign rfl rfl) ?_
              refine ROps.nil ?_
              cases Option.some.inj h11_
              exact ⟨_, rfl, ⟨(ALe.refl _), (ALe.refl _), (ALe.refl _), (ALe.refl _), (ALe.refl _), (ALe.refl _), (ALe.refl _), (ALe.refl _), trivial⟩, ⟨⟨rfl, .inr rfl⟩, ⟨rfl, .inr rfl⟩, ⟨rfl, .inr rfl⟩, ⟨rfl, .inr rfl⟩, ⟨rfl, .inr rfl⟩, ⟨rfl, .inr rfl⟩, trivial⟩⟩
          · refine RunC.regionW ?_
            refine ROps.l (r := AV.i64 v12) rfl rfl rfl (LOp.move rfl rfl) ?_
            refine ROps.l (r := AV.ptr [AV.i64 a0, AV.i64 a1, AV.sl a2.length (a2.map AV.f32)]) rfl rfl rfl (LOp.fap und27 rfl siz2 rfl rfl rfl) ?_
            refine ROps.l (r := AV.i64 a0) rfl rfl rfl (LOp.load1 agg2 rfl rfl) ?_
            refine ROps.l (r := AV.b false) rfl rfl rfl (LOp.eqb (LOp.lss rfl rfl rfl) hc6) ?_
            refine ROps.nil ?_
            refine RunC.cond_false rfl rfl ?_
            refine RunC.exit ?_
            cases Option.some.inj h11_
            have hx := ho11 _ rfl
            exact ⟨v11, hl7, hl9, ⟨(ALe.refl _), (ALe.refl _), (ALe.refl _), (ALe.refl _), (ALe.refl _), (ALe.refl _), (ALe.refl _), trivial⟩, ⟨⟨rfl, .inr rfl⟩, ⟨rfl, .inr rfl⟩, ⟨rfl, .inr rfl⟩, ⟨rfl, .inr rfl⟩, ⟨rfl, .inr rfl⟩, ⟨rfl, .inr rfl⟩, trivial⟩, hx⟩
        · rintro τ13 Γ13 ⟨v23, hl21, hl22, hw13, hd13, rfl⟩
          refine RunC.wl (τ' := [(1, AV.ptr [AV.i64 a0, AV.i64 a1, AV.sl a2.length (a2.map AV.f32)]), (2, AV.optr 0 1 0), (4, AV.optr 3 1 0), (5, AV.i64 v10), (6, AV.i64 v23), (19, AV.i64 a0), (20, AV.i64 v10)]) (Γ' := [⟨1, some [AV.i64 0, AV.i64 0, AV.nilsl, AV.nilsl]⟩, ⟨1, some (L6.map AV.f32)⟩, ⟨1, some (L8.map AV.i64)⟩, ⟨1, some [AV.i64 r2, AV.i64 r3, AV.oref 1 1 0 r4.length, AV.oref 2 1 0 r5.length]⟩, ⟨0, none⟩, ⟨0, none⟩]) hw13 hd13 ?_
          replace h10_ : i_FactorRows_k8 r2 r3 r4 r5 L6 L8 v10 v23 = some y10_ := h10_
          unfold i_FactorRows_k8 at h10_
          refine RunC.seq ?_
          refine RunC.seq ?_
          obtain ⟨r24, hf13, h10_⟩ := obind_some h10_
          rcases bsel_some h10_ with ⟨hc14, h10_⟩ | ⟨hc14, h10_⟩
          · refine RunC.regionW ?_
            refine ROps.l (r := AV.optr 3 1 0) rfl rfl rfl (LOp.fao und48 rfl siz27 rfl rfl rfl) ?_
            refine ROps.d (r := AV.agg [AV.i64 r2, AV.i64 r3, AV.oref 1 1 0 r4.length]) (fs := []) (Γ' := [⟨1, some [AV.i64 0, AV.i64 0, AV.nilsl, AV.nilsl]⟩, ⟨1, some (L6.map AV.f32)⟩, ⟨1, some (L8.map AV.i64)⟩, ⟨1, some [AV.i64 r2, AV.i64 r3, AV.oref 1 1 0 r4.length, AV.oref 2 1 0 r5.length]⟩, ⟨0, none⟩, ⟨0, none⟩]) rfl rfl rfl (TOp.loadAgg_o rfl agg27 siz27 rfl rfl rfl rfl) rfl ?_
            refine ROps.l (r := AV.i64 v23) rfl rfl rfl (LOp.move rfl rfl) ?_
            refine ROps.l (r := AV.i64 v10) rfl rfl rfl (LOp.move rfl rfl) ?_
            refine ROps.d (r := AV.f32 r24) (fs := []) (Γ' := [⟨1, some [AV.i64 0, AV.i64 0, AV.nilsl, AV.nilsl]⟩, ⟨1, some (L6.map AV.f32)⟩, ⟨1, some (L8.map AV.i64)⟩, ⟨1, some [AV.i64 r2, AV.i64 r3, AV.oref 1 1 0 r4.length, AV.oref 2 1 0 r5.length]⟩, ⟨0, none⟩, ⟨0, none⟩]) rfl rfl rfl (TOp.callB (CallAs.func ent51 rfl rfl) (Bors.cons (Bor.agg (Bors.cons (Bor.pure rfl) (Bors.cons (Bor.pure rfl) (Bors.cons (Bor.own (f := AV.f32) (fun _ => rfl) rfl hl21) Bors.nil)))) (Bors.cons (Bor.pure rfl) (Bors.cons (Bor.pure rfl) Bors.nil))) rfl rfl (i_Matrix_at_ok r2 r3 L6 v23 v10 r24 hf13)) rfl ?_
            refine ROps.l (r := AV.b true) rfl rfl rfl (LOp.eqb (LOp.feq rfl (OpF.tmp rfl) (OpF.const rfl (by kernel_rfl) (by kernel_rfl))) hc14) ?_
            refine ROps.nil ?_
            refine RunC.cond_true rfl rfl ?_
            refine RunC.seq ?_
            refine RunC.regionW ?_
            refine ROps.l (r := AV.agg [AV.i64 0, AV.i64 0, AV.nilsl, AV.nilsl]) rfl rfl rfl (LOp.build (qs := []) zer48 zok48 und48 plc48 rfl trivial rfl) ?_
            refine ROps.store_le (r := AV.agg [AV.i64 0, AV.i64 0, AV.nilsl, AV.nilsl]) (l' := [AV.i64 0, AV.i64 0, AV.nilsl, AV.nilsl]) (Γ' := [⟨1, some [AV.i64 0, AV.i64 0, AV.nilsl, AV.nilsl]⟩, ⟨1, some (L6.map AV.f32)⟩, ⟨1, some (L8.map AV.i64)⟩, ⟨1, some [AV.i64 r2, AV.i64 r3, AV.oref 1 1 0 r4.length, AV.oref 2 1 0 r5.length]⟩, ⟨0, none⟩, ⟨0, none⟩]) rfl siz48 rfl rfl rfl (ALe.refl _) rfl rfl rfl rfl (Nat.le_of_ble_eq_true rfl) rfl rfl ?_
            refine ROps.l (r := AV.b false) rfl rfl rfl (LOp.assign rfl rfl) ?_
            refine ROps.nil ?_
            refine RunC.nil_cell (l' := [AV.i64 0, AV.i64 0, AV.oref 4 1 0 0, AV.nilsl]) (Γ' := [⟨1, some [AV.i64 0, AV.i64 0, AV.oref 4 1 0 0, AV.nilsl]⟩, ⟨1, some (L6.map AV.f32)⟩, ⟨1, some (L8.map AV.i64)⟩, ⟨1, some [AV.i64 r2, AV.i64 r3, AV.oref 1 1 0 r4.length, AV.oref 2 1 0 r5.length]⟩, ⟨1, some (([] : List F).map AV.f32)⟩, ⟨0, none⟩]) 0 2 4 rfl rfl rfl rfl rfl ?_
            refine RunC.nil_cell (l' := [AV.i64 0, AV.i64 0, AV.oref 4 1 0 0, AV.oref 5 1 0 0]) (Γ' := [⟨1, some [AV.i64 0, AV.i64 0, AV.oref 4 1 0 0, AV.oref 5 1 0 0]⟩, ⟨1, some (L6.map AV.f32)⟩, ⟨1, some (L8.map AV.i64)⟩, ⟨1, some [AV.i64 r2, AV.i64 r3, AV.oref 1 1 0 r4.length, AV.oref 2 1 0 r5.length]⟩, ⟨1, some (([] : List F).map AV.f32)⟩, ⟨1, some (([] : List Int).map AV.i64)⟩]) 0 3 5 rfl rfl rfl rfl rfl ?_
            refine RunC.ret ?_
            cases Option.some.inj h10_
            have hx14_ := hr10 _ rfl
            subst hx14_
            have hq := Option.some.inj h
            obtain ⟨hq0, hq⟩ := Prod.mk.inj hq
            obtain ⟨hq1, hq⟩ := Prod.mk.inj hq
            obtain ⟨hq2, hq⟩ := Prod.mk.inj hq
            obtain ⟨hq3, hq⟩ := Prod.mk.inj hq
            subst q0
            subst q1
            subst q2
            subst q3
            subst q4
            exact bodyQ.mk (r' := AV.tup [AV.agg [AV.i64 0, AV.i64 0, AV.oref 4 1 0 (([] : List F).length), AV.oref 5 1 0 (([] : List Int).length)], AV.b false]) [(4, 1), (5, 1)] (.inr rfl) rfl (show List.Nodup [4, 5] from by decide) rfl rfl (Res.eq (Res.two rfl (RV.cell agg48 siz48 rfl rfl rfl rfl) (RV.tmp rfl)) (by rw [(show ([] : List F).length = 0 from rfl), (show ([] : List Int).length = 0 from rfl)] <;> rfl)) (SelL.arr0 (f := AV.f32) (fun _ => rfl) rfl (SelL.arr0 (f := AV.i64) (fun _ => rfl) rfl trivial))
          · refine RunC.regionW ?_
            refine ROps.l (r := AV.optr 3 1 0) rfl rfl rfl (LOp.fao und48 rfl siz27 rfl rfl rfl) ?_
            refine ROps.d (r := AV.agg [AV.i64 r2, AV.i64 r3, AV.oref 1 1 0 r4.length]) (fs := []) (Γ' := [⟨1, some [AV.i64 0, AV.i64 0, AV.nilsl, AV.nilsl]⟩, ⟨1, some (L6.map AV.f32)⟩, ⟨1, some (L8.map AV.i64)⟩, ⟨1, some [AV.i64 r2, AV.i64 r3, AV.oref 1 1 0 r4.length, AV.oref 2 1 0 r5.length]⟩, ⟨0, none⟩, ⟨0, none⟩]) rfl rfl rfl (TOp.loadAgg_o rfl agg27 siz27 rfl rfl rfl rfl) rfl ?_
            refine ROps.l (r := AV.i64 v23) rfl rfl rfl (LOp.move rfl rfl) ?_
            refine ROps.l (r := AV.i64 v10) rfl rfl rfl (LOp.move rfl rfl) ?_
            refine ROps.d (r := AV.f32 r24) (fs := []) (Γ' := [⟨1, some [AV.i64 0, AV.i64 0, AV.nilsl, AV.nilsl]⟩, ⟨1, some (L6.map AV.f32)⟩, ⟨1, some (L8.map AV.i64)⟩, ⟨1, some [AV.i64 r2, AV.i64 r3, AV.oref 1 1 0 r4.length, AV.oref 2 1 0 r5.length]⟩, ⟨0, none⟩, ⟨0, none⟩]) rfl rfl rfl (TOp.callB (CallAs.func ent51 rfl rfl) (Bors.cons (Bor.agg (Bors.cons (Bor.pure rfl) (Bors.cons (Bor.pure rfl) (Bors.cons (Bor.own (f := AV.f32) (fun _ => rfl) rfl hl21) Bors.nil)))) (Bors.cons (Bor.pure rfl) (Bors.cons (Bor.pure rfl) Bors.nil))) rfl rfl (i_Matrix_at_ok r2 r3 L6 v23 v10 r24 hf13)) rfl ?_
            refine ROps.l (r := AV.b false) rfl rfl rfl (LOp.eqb (LOp.feq rfl (OpF.tmp rfl) (OpF.const rfl (by kernel_rfl) (by kernel_rfl))) hc14) ?_
            refine ROps.nil ?_
            refine RunC.cond_false rfl rfl ?_
            refine RunC.skip ?_
            refine RunC.seq ?_
            obtain ⟨r25, hf15, h10_⟩ := obind_some h10_
            obtain ⟨hn16, h10_⟩ := need_some h10_
            refine RunC.regionW ?_
            refine ROps.l (r := AV.optr 3 1 0) rfl rfl rfl (LOp.fao und48 rfl siz27 rfl rfl rfl) ?_
            refine ROps.d (r := AV.agg [AV.i64 r2, AV.i64 r3, AV.oref 1 1 0 r4.length]) (fs := []) (Γ' := [⟨1, some [AV.i64 0, AV.i64 0, AV.nilsl, AV.nilsl]⟩, ⟨1, some (L6.map AV.f32)⟩, ⟨1, some (L8.map AV.i64)⟩, ⟨1, some [AV.i64 r2, AV.i64 r3, AV.oref 1 1 0 r4.length, AV.oref 2 1 0 r5.length]⟩, ⟨0, none⟩, ⟨0, none⟩]) rfl rfl rfl (TOp.loadAgg_o rfl agg27 siz27 rfl rfl rfl rfl) rfl ?_
            refine ROps.l (r := AV.i64 v23) rfl rfl rfl (LOp.move rfl rfl) ?_
            refine ROps.l (r := AV.i64 v10) rfl rfl rfl (LOp.move rfl rfl) ?_
            refine ROps.callO (A := [AV.agg [AV.i64 r2, AV.i64 r3, AV.oref 1 1 0 r4.length], AV.i64 v23, AV.i64 v10]) (args := [AV.agg [AV.i64 r2, AV.i64 r3, AV.oref 0 0 0 L6.length], AV.i64 v23, AV.i64 v10]) (Γc := [⟨0, some (L6.map AV.f32)⟩]) (Γc' := [⟨0, some (r25.map AV.f32)⟩]) (r' := AV.tup []) (Γ' := [⟨1, some [AV.i64 0, AV.i64 0, AV.nilsl, AV.nilsl]⟩, ⟨1, some (r25.map AV.f32)⟩, ⟨1, some (L8.map AV.i64)⟩, ⟨1, some [AV.i64 r2, AV.i64 r3, AV.oref 1 1 0 r4.length, AV.oref 2 1 0 r5.length]⟩, ⟨0, none⟩, ⟨0, none⟩]) [(1, 1)] [] rfl (CallAs.func ent74 rfl rfl) rfl rfl (SelOk.of (show List.Nodup [1] from by decide) (SelL.arr0 (f := AV.f32) (fun _ => rfl) rfl trivial)) (live_of ⟨⟨_, _, rfl⟩, trivial⟩) (by simp [AV.ren, AV.rens, sigma, rens_f32, rens_f64, rens_i64, rens_ik, rens_str, rens_cp, hl21]) rfl (i_Matrix_swapRows_02o_ok r2 r3 v23 v10 L6 r25 hf15) rfl (news_of trivial) (show List.Nodup [1] from by decide) (by simp [AV.ren, AV.rens, sigma, of_decide_eq_true hn16]) (by simp [backOb, sigma, AV.ren, AV.rens, rens_f32, rens_f64, rens_i64, rens_ik, rens_str, rens_cp]) ?_
            refine ROps.nil ?_
            refine RunC.seq ?_
            obtain ⟨r26, hf17, h10_⟩ := obind_some h10_
            obtain ⟨hn18, h10_⟩ := need_some h10_
            refine RunC.regionW ?_
            refine ROps.l (r := AV.optr 3 1 3) rfl rfl rfl (LOp.fao und48 rfl siz28 rfl rfl rfl) ?_
            refine ROps.d (r := AV.oref 2 1 0 r5.length) (fs := []) (Γ' := [⟨1, some [AV.i64 0, AV.i64 0, AV.nilsl, AV.nilsl]⟩, ⟨1, some (r25.map AV.f32)⟩, ⟨1, some (L8.map AV.i64)⟩, ⟨1, some [AV.i64 r2, AV.i64 r3, AV.oref 1 1 0 r4.length, AV.oref 2 1 0 r5.length]⟩, ⟨0, none⟩, ⟨0, none⟩]) rfl rfl rfl (TOp.load1_o rfl rfl agg28 rfl rfl) rfl ?_
            refine ROps.l (r := AV.i64 v23) rfl rfl rfl (LOp.move rfl rfl) ?_
            refine ROps.l (r := AV.i64 v10) rfl rfl rfl (LOp.move rfl rfl) ?_
            refine ROps.callO (A := [AV.oref 2 1 0 r5.length, AV.i64 v23, AV.i64 v10]) (args := [AV.oref 0 0 0 L8.length, AV.i64 v23, AV.i64 v10]) (Γc := [⟨0, some (L8.map AV.i64)⟩]) (Γc' := [⟨0, some (r26.map AV.i64)⟩]) (r' := AV.tup []) (Γ' := [⟨1, some [AV.i64 0, AV.i64 0, AV.nilsl, AV.nilsl]⟩, ⟨1, some (r25.map AV.f32)⟩, ⟨1, some (r26.map AV.i64)⟩, ⟨1, some [AV.i64 r2, AV.i64 r3, AV.oref 1 1 0 r4.length, AV.oref 2 1 0 r5.length]⟩, ⟨0, none⟩, ⟨0, none⟩]) [(2, 1)] [] rfl (CallAs.func ent75 rfl rfl) rfl rfl (SelOk.of (show List.Nodup [2] from by decide) (SelL.arr0 (f := AV.i64) (fun _ => rfl) rfl trivial)) (live_of ⟨⟨_, _, rfl⟩, trivial⟩) (by simp [AV.ren, AV.rens, sigma, rens_f32, rens_f64, rens_i64, rens_ik, rens_str, rens_cp, hl22]) rfl (i_swap_0o_ok v23 v10 L8 r26 hf17) rfl (news_of trivial) (show List.Nodup [2] from by decide) (by simp [AV.ren, AV.rens, sigma, of_decide_eq_true hn18]) (by simp [backOb, sigma, AV.ren, AV.rens, rens_f32, rens_f64, rens_i64, rens_ik, rens_str, rens_cp]) ?_
            refine ROps.nil ?_
            refine RunC.wl (τ' := [(1, AV.ptr [AV.i64 a0, AV.i64 a1, AV.sl a2.length (a2.map AV.f32)]), (2, AV.optr 0 1 0), (4, AV.optr 3 1 0), (5, AV.i64 v10), (19, AV.i64 a0), (20, AV.i64 v10)]) (Γ' := [⟨1, some [AV.i64 0, AV.i64 0, AV.nilsl, AV.nilsl]⟩, ⟨1, some (r25.map AV.f32)⟩, ⟨1, some (r26.map AV.i64)⟩, ⟨1, some [AV.i64 r2, AV.i64 r3, AV.oref 1 1 0 r4.length, AV.oref 2 1 0 r5.length]⟩, ⟨0, none⟩, ⟨0, none⟩]) ⟨(ALe.refl _), (ALe.refl _), (ALe.refl _), (ALe.refl _), (ALe.refl _), (ALe.refl _), trivial⟩ ⟨⟨rfl, .inr rfl⟩, ⟨rfl, .inr rfl⟩, ⟨rfl, .inr rfl⟩, ⟨rfl, .inr rfl⟩, ⟨rfl, .inr rfl⟩, ⟨rfl, .inr rfl⟩, trivial⟩ ?_
            refine RunC.seq ?_
            obtain ⟨r27, hf19, h10_⟩ := obind_some h10_
            obtain ⟨hn20, h10_⟩ := need_some h10_
            refine RunC.regionW ?_
            refine ROps.l (r := AV.optr 3 1 0) rfl rfl rfl (LOp.fao und48 rfl siz27 rfl rfl rfl) ?_
            refine ROps.d (r := AV.agg [AV.i64 r2, AV.i64 r3, AV.oref 1 1 0 r4.length]) (fs := []) (Γ' := [⟨1, some [AV.i64 0, AV.i64 0, AV.nilsl, AV.nilsl]⟩, ⟨1, some (r25.map AV.f32)⟩, ⟨1, some (r26.map AV.i64)⟩, ⟨1, some [AV.i64 r2, AV.i64 r3, AV.oref 1 1 0 r4.length, AV.oref 2 1 0 r5.length]⟩, ⟨0, none⟩, ⟨0, none⟩]) rfl rfl rfl (TOp.loadAgg_o rfl agg27 siz27 rfl rfl rfl rfl) rfl ?_
            refine ROps.l (r := AV.i64 v10) rfl rfl rfl (LOp.move rfl rfl) ?_
            refine ROps.callO (A := [AV.agg [AV.i64 r2, AV.i64 r3, AV.oref 1 1 0 r4.length], AV.i64 v10]) (args := [AV.agg [AV.i64 r2, AV.i64 r3, AV.oref 0 0 0 r25.length], AV.i64 v10]) (Γc := [⟨0, some (r25.map AV.f32)⟩]) (Γc' := [⟨0, some (r27.map AV.f32)⟩]) (r' := AV.tup []) (Γ' := [⟨1, some [AV.i64 0, AV.i64 0, AV.nilsl, AV.nilsl]⟩, ⟨1, some (r27.map AV.f32)⟩, ⟨1, some (r26.map AV.i64)⟩, ⟨1, some [AV.i64 r2, AV.i64 r3, AV.oref 1 1 0 r4.length, AV.oref 2 1 0 r5.length]⟩, ⟨0, none⟩, ⟨0, none⟩]) [(1, 1)] [] rfl (CallAs.func ent76 rfl rfl) rfl rfl (SelOk.of (show List.Nodup [1] from by decide) (SelL.arr0 (f := AV.f32) (fun _ => rfl) rfl trivial)) (live_of ⟨⟨_, _, rfl⟩, trivial⟩) (by simp [AV.ren, AV.rens, sigma, rens_f32, rens_f64, rens_i64, rens_ik, rens_str, rens_cp, (of_decide_eq_true hn16)]) rfl (i_Matrix_eliminate_02o_ok r2 r3 v10 r25 r27 hf19) rfl (news_of trivial) (show List.Nodup [1] from by decide) (by simp [AV.ren, AV.rens, sigma, of_decide_eq_true hn20]) (by simp [backOb, sigma, AV.ren, AV.rens, rens_f32, rens_f64, rens_i64, rens_ik, rens_str, rens_cp]) ?_
            refine ROps.nil ?_
            refine RunC.seq ?_
            obtain ⟨r28, hf21, h10_⟩ := obind_some h10_
            rcases bsel_some h10_ with ⟨hc22, h10_⟩ | ⟨hc22, h10_⟩
            · refine RunC.regionW ?_
              refine ROps.l (r := AV.optr 3 1 0) rfl rfl rfl (LOp.fao und48 rfl siz27 rfl rfl rfl) ?_
              refine ROps.d (r := AV.agg [AV.i64 r2, AV.i64 r3, AV.oref 1 1 0 r4.length]) (fs := []) (Γ' := [⟨1, some [AV.i64 0, AV.i64 0, AV.nilsl, AV.nilsl]⟩, ⟨1, some (r27.map AV.f32)⟩, ⟨1, some (r26.map AV.i64)⟩, ⟨1, some [AV.i64 r2, AV.i64 r3, AV.oref 1 1 0 r4.length, AV.oref 2 1 0 r5.length]⟩, ⟨0, none⟩, ⟨0, none⟩]) rfl rfl rfl (TOp.loadAgg_o rfl agg27 siz27 rfl rfl rfl rfl) rfl ?_
              refine ROps.d (r := AV.b true) (fs := []) (Γ' := [⟨1, some [AV.i64 0, AV.i64 0, AV.nilsl, AV.nilsl]⟩, ⟨1, some (r27.map AV.f32)⟩, ⟨1, some (r26.map AV.i64)⟩, ⟨1, some [AV.i64 r2, AV.i64 r3, AV.oref 1 1 0 r4.length, AV.oref 2 1 0 r5.length]⟩, ⟨0, none⟩, ⟨0, none⟩]) rfl rfl rfl (TOp.eqb (TOp.callB (CallAs.func ent45 rfl rfl) (Bors.cons (Bor.agg (Bors.cons (Bor.pure rfl) (Bors.cons (Bor.pure rfl) (Bors.cons (Bor.own (f := AV.f32) (fun _ => rfl) rfl (of_decide_eq_true hn20)) Bors.nil)))) Bors.nil) rfl rfl (i_ValidMatrix_ok r2 r3 r27 r28 hf21)) hc22) rfl ?_
              refine ROps.l (r := AV.b false) rfl rfl rfl (LOp.eqb (LOp.not rfl rfl) rfl) ?_
              refine ROps.nil ?_
              refine RunC.cond_false rfl rfl ?_
              refine RunC.skip ?_
              obtain ⟨x29, hx23, h10_⟩ := olet_some h10_
              refine RunC.regionW ?_
              refine ROps.l (r := AV.i64 x29) rfl rfl rfl (LOp.eqr (LOp.add rfl rfl rfl) (congrArg (AV.ik .i64) hx23)) ?_
              refine ROps.l (r := AV.i64 x29) rfl rfl rfl (LOp.move rfl rfl) ?_
              refine ROps.nil ?_
              cases Option.some.inj h10_
              exact ⟨_, rfl, (of_decide_eq_true hn20), (of_decide_eq_true hn18), ⟨(ALe.refl _), (ALe.refl _), (ALe.refl _), (ALe.refl _), (ALe.refl _), trivial⟩, ⟨⟨rfl, .inr rfl⟩, ⟨rfl, .inr rfl⟩, ⟨rfl, .inr rfl⟩, ⟨rfl, .inr rfl⟩, ⟨rfl, .inr rfl⟩, ⟨rfl, .inr rfl⟩, trivial⟩⟩
            · refine RunC.regionW ?_
              refine ROps.l (r := AV.optr 3 1 0) rfl rfl rfl (LOp.fao und48 rfl siz27 rfl rfl rfl) ?_
              refine ROps.d (r := AV.agg [AV.i64 r2, AV.i64 r3, AV.oref 1 1 0 r4.length]) (fs := []) (Γ' := [⟨1, some [AV.i64 0, AV.i64 0, AV.nilsl, AV.nilsl]⟩, ⟨1, some (r27.map AV.f32)⟩, ⟨1, some (r26.map AV.i64)⟩, ⟨1, some [AV.i64 r2, AV.i64 r3, AV.oref 1 1 0 r4.length, AV.oref 2 1 0 r5.length]⟩, ⟨0, none⟩, ⟨0, none⟩]) rfl rfl rfl (TOp.loadAgg_o rfl agg27 siz27 rfl rfl rfl rfl) rfl ?_
              refine ROps.d (r := AV.b false) (fs := []) (Γ' := [⟨1, some [AV.i64 0, AV.i64 0, AV.nilsl, AV.nilsl]⟩, ⟨1, some (r27.map AV.f32)⟩, ⟨1, some (r26.map AV.i64)⟩, ⟨1, some [AV.i64 r2, AV.i64 r3, AV.oref 1 1 0 r4.length, AV.oref 2 1 0 r5.length]⟩, ⟨0, none⟩, ⟨0, none⟩]) rfl rfl rfl (TOp.eqb (TOp.callB (CallAs.func ent45 rfl rfl) (Bors.cons (Bor.agg (Bors.cons (Bor.pure rfl) (Bors.cons (Bor.pure rfl) (Bors.cons (Bor.own (f := AV.f32) (fun _ => rfl) rfl (of_decide_eq_true hn20)) Bors.nil)))) Bors.nil) rfl rfl (i_ValidMatrix_ok r2 r3 r27 r28 hf21)) hc22) rfl ?_
              refine ROps.l (r := AV.b true) rfl rfl rfl (LOp.eqb (LOp.not rfl rfl) rfl) ?_
              refine ROps.nil ?_
              refine RunC.cond_true rfl rfl ?_
              refine RunC.seq ?_
              refine RunC.regionW ?_
              refine ROps.l (r := AV.agg [AV.i64 0, AV.i64 0, AV.nilsl, AV.nilsl]) rfl rfl rfl (LOp.build (qs := []) zer48 zok48 und48 plc48 rfl trivial rfl) ?_
              refine ROps.store_le (r := AV.agg [AV.i64 0, AV.i64 0, AV.nilsl, AV.nilsl]) (l' := [AV.i64 0, AV.i64 0, AV.nilsl, AV.nilsl]) (Γ' := [⟨1, some [AV.i64 0, AV.i64 0, AV.nilsl, AV.nilsl]⟩, ⟨1, some (r27.map AV.f32)⟩, ⟨1, some (r26.map AV.i64)⟩, ⟨1, some [AV.i64 r2, AV.i64 r3, AV.oref 1 1 0 r4.length, AV.oref 2 1 0 r5.length]⟩, ⟨0, none⟩, ⟨0, none⟩]) rfl siz48 rfl rfl rfl (ALe.refl _) rfl rfl rfl rfl (Nat.le_of_ble_eq_true rfl) rfl rfl ?_
              refine ROps.l (r := AV.b false) rfl rfl rfl (LOp.assign rfl rfl) ?_
              refine ROps.nil ?_
              refine RunC.nil_cell (l' := [AV.i64 0, AV.i64 0, AV.oref 4 1 0 0, AV.nilsl]) (Γ' := [⟨1, some [AV.i64 0, AV.i64 0, AV.oref 4 1 0 0, AV.nilsl]⟩, ⟨1, some (r27.map AV.f32)⟩, ⟨1, some (r26.map AV.i64)⟩, ⟨1, some [AV.i64 r2, AV.i64 r3, AV.oref 1 1 0 r4.length, AV.oref 2 1 0 r5.length]⟩, ⟨1, some (([] : List F).map AV.f32)⟩, ⟨0, none⟩]) 0 2 4 rfl rfl rfl rfl rfl ?_
              refine RunC.nil_cell (l' := [AV.i64 0, AV.i64 0, AV.oref 4 1 0 0, AV.oref 5 1 0 0]) (Γ' := [⟨1, some [AV.i64 0, AV.i64 0, AV.oref 4 1 0 0, AV.oref 5 1 0 0]⟩, ⟨1, some (r27.map AV.f32)⟩, ⟨1, some (r26.map AV.i64)⟩, ⟨1, some [AV.i64 r2, AV.i64 r3, AV.oref 1 1 0 r4.length, AV.oref 2 1 0 r5.length]⟩, ⟨1, some (([] : List F).map AV.f32)⟩, ⟨1, some (([] : List Int).map AV.i64)⟩]) 0 3 5 rfl rfl rfl rfl rfl ?_
              refine RunC.ret ?_
              cases Option.some.inj h10_
              have hx15_ := hr10 _ rfl
              subst hx15_
              have hq := Option.some.inj h
              obtain ⟨hq0, hq⟩ := Prod.mk.inj hq
              obtain ⟨hq1, hq⟩ := Prod.mk.inj hq
              obtain ⟨hq2, hq⟩ := Prod.mk.inj hq
              obtain ⟨hq3, hq⟩ := Prod.mk.inj hq
              subst q0
              subst q1
              subst q2
              subst q3
              subst q4
              exact bodyQ.mk (r' := AV.tup [AV.agg [AV.i64 0, AV.i64 0, AV.oref 4 1 0 (([] : List F).length), AV.oref 5 1 0 (([] : List Int).length)], AV.b false]) [(4, 1), (5, 1)] (.inr rfl) rfl (show List.Nodup [4, 5] from by decide) rfl rfl (Res.eq (Res.two rfl (RV.cell agg48 siz48 rfl rfl rfl rfl) (RV.tmp rfl)) (by rw [(show ([] : List F).length = 0 from rfl), (show ([] : List Int).length = 0 from rfl)] <;> rfl)) (SelL.arr0 (f := AV.f32) (fun _ => rfl) rfl (SelL.arr0 (f := AV.i64) (fun _ => rfl) rfl trivial))
      · refine RunC.regionW ?_
        refine ROps.l (r := AV.b false) rfl rfl rfl (LOp.eqb (LOp.lss rfl rfl rfl) hc5) ?_
        refine ROps.nil ?_
        refine RunC.seq ?_
        refine RunC.cond_false rfl rfl ?_
        refine RunC.exit ?_
        cases Option.some.inj h10_
        have hx := ho10 _ rfl
        exact ⟨L6, L8, hl7, hl9, ⟨(ALe.refl _), (ALe.refl _), trivial⟩, ⟨⟨rfl, .inr rfl⟩, ⟨rfl, .inr rfl⟩, ⟨rfl, .inr rfl⟩, ⟨rfl, .inr rfl⟩, ⟨rfl, .inr rfl⟩, ⟨rfl, .inr rfl⟩, trivial⟩, hx⟩
    · rintro τ16 Γ16 ⟨L30, L32, hl31, hl33, hw16, hd16, rfl⟩
      refine RunC.wl (τ' := [(2, AV.optr 0 1 0), (4, AV.optr 3 1 0)]) (Γ' := [⟨1, some [AV.i64 0, AV.i64 0, AV.nilsl, AV.nilsl]⟩, ⟨1, some (L30.map AV.f32)⟩, ⟨1, some (L32.map AV.i64)⟩, ⟨1, some [AV.i64 r2, AV.i64 r3, AV.oref 1 1 0 r4.length, AV.oref 2 1 0 r5.length]⟩, ⟨0, none⟩, ⟨0, none⟩]) hw16 hd16 ?_
      replace h : i_FactorRows_k9 r2 r3 L30 L32 = some (q0, q1, q2, q3, q4) := h
      unfold i_FactorRows_k9 at h
      refine RunC.seq ?_
      refine RunC.regionW ?_
      refine ROps.d (r := AV.agg [AV.i64 r2, AV.i64 r3, AV.oref 1 1 0 r4.length, AV.oref 2 1 0 r5.length]) (fs := []) (Γ' := [⟨1, some [AV.i64 0, AV.i64 0, AV.nilsl, AV.nilsl]⟩, ⟨1, some (L30.map AV.f32)⟩, ⟨1, some (L32.map AV.i64)⟩, ⟨1, some [AV.i64 r2, AV.i64 r3, AV.oref 1 1 0 r4.length, AV.oref 2 1 0 r5.length]⟩, ⟨0, none⟩, ⟨0, none⟩]) rfl rfl rfl (TOp.loadAgg_o rfl agg48 siz48 rfl rfl rfl rfl) rfl ?_
      refine ROps.store_le (r := AV.agg [AV.i64 r2, AV.i64 r3, AV.oref 1 1 0 r4.length, AV.oref 2 1 0 r5.length]) (l' := [AV.i64 r2, AV.i64 r3, AV.oref 1 1 0 r4.length, AV.oref 2 1 0 r5.length]) (Γ' := [⟨1, some [AV.i64 r2, AV.i64 r3, AV.oref 1 1 0 r4.length, AV.oref 2 1 0 r5.length]⟩, ⟨1, some (L30.map AV.f32)⟩, ⟨1, some (L32.map AV.i64)⟩, ⟨1, some [AV.i64 r2, AV.i64 r3, AV.oref 1 1 0 r4.length, AV.oref 2 1 0 r5.length]⟩, ⟨0, none⟩, ⟨0, none⟩]) rfl siz48 rfl rfl rfl (ALe.refl _) rfl rfl rfl rfl (Nat.le_of_ble_eq_true rfl) rfl rfl ?_
      refine ROps.l (r := AV.b true) rfl rfl rfl (LOp.assign rfl rfl) ?_
      refine ROps.nil ?_
      refine RunC.ret ?_
      have hq := Option.some.inj h
      obtain ⟨hq0, hq⟩ := Prod.mk.inj hq
      obtain ⟨hq1, hq⟩ := Prod.mk.inj hq
      obtain ⟨hq2, hq⟩ := Prod.mk.inj hq
      obtain ⟨hq3, hq⟩ := Prod.mk.inj hq
      subst q0
      subst q1
      subst q2
      subst q3
      subst q4
      exact bodyQ.mk (r' := AV.tup [AV.agg [AV.i64 r2, AV.i64 r3, AV.oref 1 1 0 L30.length, AV.oref 2 1 0 L32.length], AV.b true]) [(1, 1), (2, 1)] (.inr rfl) rfl (show List.Nodup [1, 2] from by decide) rfl rfl (Res.eq (Res.two rfl (RV.cell agg48 siz48 rfl rfl rfl rfl) (RV.tmp rfl)) (by rw [(show L30.length = r4.length from hl31), (show L32.length = r5.length from hl33)] <;> rfl)) (SelL.arr0 (f := AV.f32) (fun _ => rfl) rfl (SelL.arr0 (f := AV.i64) (fun _ => rfl) rfl trivial))
  · refine RunC.regionW ?_
    refine ROps.l (r := AV.agg [AV.i64 a0, AV.i64 a1, AV.sl a2.length (a2.map AV.f32)]) rfl rfl rfl (LOp.loadAgg agg27 siz27 rfl rfl rfl rfl) ?_
    refine ROps.d (r := AV.b false) (fs := []) (Γ' := [⟨1, some [AV.i64 0, AV.i64 0, AV.nilsl, AV.nilsl]⟩, ⟨0, none⟩, ⟨0, none⟩, ⟨0, none⟩, ⟨0, none⟩, ⟨0, none⟩]) rfl rfl rfl (TOp.eqb (TOp.callB (CallAs.func ent59 rfl rfl) (Bors.cons (Bor.agg (Bors.cons (Bor.pure rfl) (Bors.cons (Bor.pure rfl) (Bors.cons (Bor.sl (fun _ => rfl)) Bors.nil)))) Bors.nil) rfl rfl (i_isSquare_ok a0 a1 a2 r1 hf1)) hc2) rfl ?_
    refine ROps.l (r := AV.b true) rfl rfl rfl (LOp.eqb (LOp.not rfl rfl) rfl) ?_
    refine ROps.nil ?_
    refine RunC.cond_true rfl rfl ?_
    refine RunC.seq ?_
    refine RunC.regionW ?_
    refine ROps.l (r := AV.agg [AV.i64 0, AV.i64 0, AV.nilsl, AV.nilsl]) rfl rfl rfl (LOp.build (qs := []) zer48 zok48 und48 plc48 rfl trivial rfl) ?_
    refine ROps.store_le (r := AV.agg [AV.i64 0, AV.i64 0, AV.nilsl, AV.nilsl]) (l' := [AV.i64 0, AV.i64 0, AV.nilsl, AV.nilsl]) (Γ' := [⟨1, some [AV.i64 0, AV.i64 0, AV.nilsl, AV.nilsl]⟩, ⟨0, none⟩, ⟨0, none⟩, ⟨0, none⟩, ⟨0, none⟩, ⟨0, none⟩]) rfl siz48 rfl rfl rfl (ALe.refl _) rfl rfl rfl rfl (Nat.le_of_ble_eq_true rfl) rfl rfl ?_
    refine ROps.l (r := AV.b false) rfl rfl rfl (LOp.assign rfl rfl) ?_
    refine ROps.nil ?_
    refine RunC.nil_cell (l' := [AV.i64 0, AV.i64 0, AV.oref 1 1 0 0, AV.nilsl]) (Γ' := [⟨1, some [AV.i64 0, AV.i64 0, AV.oref 1 1 0 0, AV.nilsl]⟩, ⟨1, some (([] : List F).map AV.f32)⟩, ⟨0, none⟩, ⟨0, none⟩, ⟨0, none⟩, ⟨0, none⟩]) 0 2 1 rfl rfl rfl rfl rfl ?_
    refine RunC.nil_cell (l' := [AV.i64 0, AV.i64 0, AV.oref 1 1 0 0, AV.oref 2 1 0 0]) (Γ' := [⟨1, some [AV.i64 0, AV.i64 0, AV.oref 1 1 0 0, AV.oref 2 1 0 0]⟩, ⟨1, some (([] : List F).map AV.f32)⟩, ⟨1, some (([] : List Int).map AV.i64)⟩, ⟨0, none⟩, ⟨0, none⟩, ⟨0, none⟩]) 0 3 2 rfl rfl rfl rfl rfl ?_
    refine RunC.ret ?_
    have hq := Option.some.inj h
    obtain ⟨hq0, hq⟩ := Prod.mk.inj hq
    obtain ⟨hq1, hq⟩ := Prod.mk.inj hq
    obtain ⟨hq2, hq⟩ := Prod.mk.inj hq
    obtain ⟨hq3, hq⟩ := Prod.mk.inj hq
    subst q0
    subst q1
    subst q2
    subst q3
    subst q4
    exact bodyQ.mk (r' := AV.tup [AV.agg [AV.i64 0, AV.i64 0, AV.oref 1 1 0 (([] : List F).length), AV.oref 2 1 0 (([] : List Int).length)], AV.b false]) [(1, 1), (2, 1)] (.inr rfl) rfl (show List.Nodup [1, 2] from by decide) rfl rfl (Res.eq (Res.two rfl (RV.cell agg48 siz48 rfl rfl rfl rfl) (RV.tmp rfl)) (by rw [(show ([] : List F).length = 0 from rfl), (show ([] : List Int).length = 0 from rfl)] <;> rfl)) (SelL.arr0 (f := AV.f32) (fun _ => rfl) rfl (SelL.arr0 (f := AV.i64) (fun _ => rfl) rfl trivial))
noncomputable def w_sameFloat_k1 (a0 : F) (a1 : F) : Option (Bool) :=
  some (feq .f64 a0 a1)
noncomputable def w_sameFloat (a0 : F) (a1 : F) : Option (Bool) :=
  bsel (!feq .f64 a0 a0) (
    some (!feq .f64 a1 a1)) (
    bsel (!feq .f64 a1 a1) (
      some false) (
      bsel (feq .f64 a0 (some 0)) (
        bsel (feq .f64 a1 (some 0)) (
          olet (fop .quo .f64 (some 4607182418800017408) a0) fun (x1 : F) =>
          olet (fop .quo .f64 (some 4607182418800017408) a1) fun (x2 : F) =>
          some ((flt .f64 (some 0) x1) == (flt .f64 (some 0) x2))) (
          w_sameFloat_k1 a0 a1)) (
        w_sameFloat_k1 a0 a1)))
theorem w_sameFloat_ok (a0 : F) (a1 : F) (q0 : Bool) (h : w_sameFloat a0 a1 = some q0) : Ev Try.prog 21 [AV.f64 a0, AV.f64 a1] [] (AV.b q0) [] := by
  refine Ev.start Try.func21 rfl rfl 0 (τ := [(0, AV.f64 a0), (1, AV.f64 a1)]) rfl (Γ' := []) rfl (n := 37) rfl (g := 0) rfl ?_
  unfold w_sameFloat at h
  refine RunC.seq ?_
  refine RunC.regionW ?_
  refine ROps.l (r := AV.b false) rfl rfl rfl (LOp.assign rfl rfl) ?_
  refine ROps.nil ?_
  refine RunC.seq ?_
  refine RunC.seq ?_
  rcases bsel_some h with ⟨hc1, h⟩ | ⟨hc1, h⟩
  · refine RunC.regionW ?_
    refine ROps.l (r := AV.f64 a0) rfl rfl rfl (LOp.move rfl rfl) ?_
    refine ROps.l (r := AV.f64 a0) rfl rfl rfl (LOp.move rfl rfl) ?_
    refine ROps.l (r := AV.b true) rfl rfl rfl (LOp.eqb (LOp.fne rfl (OpF.tmp rfl) (OpF.tmp rfl)) hc1) ?_
    refine ROps.l (r := AV.b true) rfl rfl rfl (LOp.move rfl rfl) ?_
    refine ROps.s rfl rfl rfl ?_
    refine ROps.s rfl rfl rfl ?_
    refine ROps.s rfl rfl rfl ?_
    refine ROps.l (r := AV.b true) rfl rfl rfl (LOp.pick_true rfl rfl rfl) ?_
    refine ROps.nil ?_
    refine RunC.cond_true rfl rfl ?_
    refine RunC.seq ?_
    refine RunC.regionW ?_
    refine ROps.l (r := AV.f64 a0) rfl rfl rfl (LOp.move rfl rfl) ?_
    refine ROps.l (r := AV.f64 a0) rfl rfl rfl (LOp.move rfl rfl) ?_
    refine ROps.l (r := AV.b true) rfl rfl rfl (LOp.eqb (LOp.fne rfl (OpF.tmp rfl) (OpF.tmp rfl)) hc1) ?_
    refine ROps.l (r := AV.b true) rfl rfl rfl (LOp.move rfl rfl) ?_
    refine ROps.l (r := AV.f64 a1) rfl rfl rfl (LOp.move rfl rfl) ?_
    refine ROps.l (r := AV.f64 a1) rfl rfl rfl (LOp.move rfl rfl) ?_
    refine ROps.l (r := AV.b (!feq .f64 a1 a1)) rfl rfl rfl (LOp.fne rfl (OpF.tmp rfl) (OpF.tmp rfl)) ?_
    refine ROps.l (r := AV.b (!feq .f64 a1 a1)) rfl rfl rfl (LOp.pick_true rfl rfl rfl) ?_
    refine ROps.l (r := AV.b (!feq .f64 a1 a1)) rfl rfl rfl (LOp.assign rfl rfl) ?_
    refine ROps.nil ?_
    refine RunC.ret ?_
    have hq := Option.some.inj h
    subst q0
    exact bodyQ.pure (.inr rfl) rfl (Res.one rfl (RV.tmp rfl))
  · rcases bsel_some h with ⟨hc2, h⟩ | ⟨hc2, h⟩
    · refine RunC.regionW ?_
      refine ROps.l (r := AV.f64 a0) rfl rfl rfl (LOp.move rfl rfl) ?_
      refine ROps.l (r := AV.f64 a0) rfl rfl rfl (LOp.move rfl rfl) ?_
      refine ROps.l (r := AV.b false) rfl rfl rfl (LOp.eqb (LOp.fne rfl (OpF.tmp rfl) (OpF.tmp rfl)) hc1) ?_
      refine ROps.l (r := AV.b false) rfl rfl rfl (LOp.move rfl rfl) ?_
      refine ROps.l (r := AV.f64 a1) rfl rfl rfl (LOp.move rfl rfl) ?_
      refine ROps.l (r := AV.f64 a1) rfl rfl rfl (LOp.move rfl rfl) ?_
      refine ROps.l (r := AV.b true) rfl rfl rfl (LOp.eqb (LOp.fne rfl (OpF.tmp rfl) (OpF.tmp rfl)) hc2) ?_
      refine ROps.l (r := AV.b true) rfl rfl rfl (LOp.pick_false rfl rfl rfl) ?_
      refine ROps.nil ?_
      refine RunC.cond_true rfl rfl ?_
      refine RunC.seq ?_
      refine RunC.regionW ?_
      refine ROps.l (r := AV.f64 a0) rfl rfl rfl (LOp.move rfl rfl) ?_
      refine ROps.l (r := AV.f64 a0) rfl rfl rfl (LOp.move rfl rfl) ?_
      refine ROps.l (r := AV.b false) rfl rfl rfl (LOp.eqb (LOp.fne rfl (OpF.tmp rfl) (OpF.tmp rfl)) hc1) ?_
      refine ROps.l (r := AV.b false) rfl rfl rfl (LOp.move rfl rfl) ?_
      refine ROps.s rfl rfl rfl ?_
      refine ROps.s rfl rfl rfl ?_
      refine ROps.s rfl rfl rfl ?_
      refine ROps.l (r := AV.b false) rfl rfl rfl (LOp.pick_false rfl rfl rfl) ?_
      refine ROps.l (r := AV.b false) rfl rfl rfl (LOp.assign rfl rfl) ?_
      refine ROps.nil ?_
      refine RunC.ret ?_
      have hq := Option.some.inj h
      subst q0
      exact bodyQ.pure (.inr rfl) rfl (Res.one rfl (RV.tmp rfl))
    · refine RunC.regionW ?_
      refine ROps.l (r := AV.f64 a0) rfl rfl rfl (LOp.move rfl rfl) ?_
      refine ROps.l (r := AV.f64 a0) rfl rfl rfl (LOp.move rfl rfl) ?_
      refine ROps.l (r := AV.b false) rfl rfl rfl (LOp.eqb (LOp.fne rfl (OpF.tmp rfl) (OpF.tmp rfl)) hc1) ?_
      refine ROps.l (r := AV.b false) rfl rfl rfl (LOp.move rfl rfl) ?_
      refine ROps.l (r := AV.f64 a1) rfl rfl rfl (LOp.move rfl rfl) ?_
      refine ROps.l (r := AV.f64 a1) rfl rfl rfl (LOp.move rfl rfl) ?_
      refine ROps.l (r := AV.b false) rfl rfl rfl (LOp.eqb (LOp.fne rfl (OpF.tmp rfl) (OpF.tmp rfl)) hc2) ?_
      refine ROps.l (r := AV.b false) rfl rfl rfl (LOp.pick_false rfl rfl rfl) ?_
      refine ROps.nil ?_
      refine RunC.cond_false rfl rfl ?_
      refine RunC.skip ?_
      refine RunC.seq ?_
      refine RunC.cutN (fun τ Γ =>  WeakLe τ [(0, AV.f64 a0), (1, AV.f64 a1)] ∧ DeadLe Γ [] ∧ w_sameFloat_k1 a0 a1 = some q0) ?_ ?_
      · refine RunC.seq ?_
        rcases bsel_some h with ⟨hc3, h⟩ | ⟨hc3, h⟩
        · rcases bsel_some h with ⟨hc4, h⟩ | ⟨hc4, h⟩
          · refine RunC.regionW ?_
            refine ROps.l (r := AV.f64 a0) rfl rfl rfl (LOp.move rfl rfl) ?_
            refine ROps.l (r := AV.b true) rfl rfl rfl (LOp.eqb (LOp.feq rfl (OpF.tmp rfl) (OpF.const rfl (by kernel_rfl) (by kernel_rfl))) hc3) ?_
            refine ROps.l (r := AV.b true) rfl rfl rfl (LOp.move rfl rfl) ?_
            refine ROps.l (r := AV.f64 a1) rfl rfl rfl (LOp.move rfl rfl) ?_
            refine ROps.l (r := AV.b true) rfl rfl rfl (LOp.eqb (LOp.feq rfl (OpF.tmp rfl) (OpF.const rfl (by kernel_rfl) (by kernel_rfl))) hc4) ?_
            refine ROps.l (r := AV.b true) rfl rfl rfl (LOp.pick_true rfl rfl rfl) ?_
            refine ROps.nil ?_
            refine RunC.wl (τ' := [(0, AV.f64 a0), (1, AV.f64 a1), (26, AV.b true)]) (Γ' := []) ⟨(ALe.refl _), (ALe.refl _), (ALe.refl _), trivial⟩ trivial ?_
            refine RunC.cond_true rfl rfl ?_
            refine RunC.seq ?_
            obtain ⟨x1, hx5, h⟩ := olet_some h
            obtain ⟨x2, hx6, h⟩ := olet_some h
            refine RunC.regionW ?_
            refine ROps.l (r := AV.f64 a0) rfl rfl rfl (LOp.move rfl rfl) ?_
            refine ROps.d (r := AV.f64 x1) (fs := []) (Γ' := []) rfl rfl rfl (TOp.eqr (TOp.fop (.inr (.inr (.inr rfl))) rfl (OpF.const rfl (by kernel_rfl) (by kernel_rfl)) (OpF.tmp rfl)) (congrArg (AV.f .f64) hx5)) rfl ?_
            refine ROps.l (r := AV.b (flt .f64 (some 0) x1)) rfl rfl rfl (LOp.fgt rfl (OpF.tmp rfl) (OpF.const rfl (by kernel_rfl) (by kernel_rfl))) ?_
            refine ROps.l (r := AV.f64 a1) rfl rfl rfl (LOp.move rfl rfl) ?_
            refine ROps.d (r := AV.f64 x2) (fs := []) (Γ' := []) rfl rfl rfl (TOp.eqr (TOp.fop (.inr (.inr (.inr rfl))) rfl (OpF.const rfl (by kernel_rfl) (by kernel_rfl)) (OpF.tmp rfl)) (congrArg (AV.f .f64) hx6)) rfl ?_
            refine ROps.l (r := AV.b (flt .f64 (some 0) x2)) rfl rfl rfl (LOp.fgt rfl (OpF.tmp rfl) (OpF.const rfl (by kernel_rfl) (by kernel_rfl))) ?_
            refine ROps.l (r := AV.b ((flt .f64 (some 0) x1) == (flt .f64 (some 0) x2))) rfl rfl rfl (LOp.eqlb pun4 rfl rfl rfl) ?_
            refine ROps.l (r := AV.b ((flt .f64 (some 0) x1) == (flt .f64 (some 0) x2))) rfl rfl rfl (LOp.assign rfl rfl) ?_
            refine ROps.nil ?_
            refine RunC.ret ?_
            have hq := Option.some.inj h
            subst q0
            exact bodyQ.pure (.inr rfl) rfl (Res.one rfl (RV.tmp rfl))
          · refine RunC.regionW ?_
            refine ROps.l (r := AV.f64 a0) rfl rfl rfl (LOp.move rfl rfl) ?_
            refine ROps.l (r := AV.b true) rfl rfl rfl (LOp.eqb (LOp.feq rfl (OpF.tmp rfl) (OpF.const rfl (by kernel_rfl) (by kernel_rfl))) hc3) ?_
            refine ROps.l (r := AV.b true) rfl rfl rfl (LOp.move rfl rfl) ?_
            refine ROps.l (r := AV.f64 a1) rfl rfl rfl (LOp.move rfl rfl) ?_
            refine ROps.l (r := AV.b false) rfl rfl rfl (LOp.eqb (LOp.feq rfl (OpF.tmp rfl) (OpF.const rfl (by kernel_rfl) (by kernel_rfl))) hc4) ?_
            refine ROps.l (r := AV.b false) rfl rfl rfl (LOp.pick_true rfl rfl rfl) ?_
            refine ROps.nil ?_
            refine RunC.wl (τ' := [(0, AV.f64 a0), (1, AV.f64 a1), (26, AV.b false)]) (Γ' := []) ⟨(ALe.refl _), (ALe.refl _), (ALe.refl _), trivial⟩ trivial ?_
            refine RunC.cond_false rfl rfl ?_
            refine RunC.skip ?_
            exact ⟨⟨(ALe.refl _), (ALe.refl _), trivial⟩, trivial, h⟩
        · refine RunC.regionW ?_
          refine ROps.l (r := AV.f64 a0) rfl rfl rfl (LOp.move rfl rfl) ?_
          refine ROps.l (r := AV.b false) rfl rfl rfl (LOp.eqb (LOp.feq rfl (OpF.tmp rfl) (OpF.const rfl (by kernel_rfl) (by kernel_rfl))) hc3) ?_
          refine ROps.l (r := AV.b false) rfl rfl rfl (LOp.move rfl rfl) ?_
          refine ROps.s rfl rfl rfl ?_
          refine ROps.s rfl rfl rfl ?_
          refine ROps.l (r := AV.b false) rfl rfl rfl (LOp.pick_false rfl rfl rfl) ?_
          refine ROps.nil ?_
          refine RunC.wl (τ' := [(0, AV.f64 a0), (1, AV.f64 a1), (26, AV.b false)]) (Γ' := []) ⟨(ALe.refl _), (ALe.refl _), (ALe.refl _), trivial⟩ trivial ?_
          refine RunC.cond_false rfl rfl ?_
          refine RunC.skip ?_
          exact ⟨⟨(ALe.refl _), (ALe.refl _), trivial⟩, trivial, h⟩
      · rintro τ2 Γ2 ⟨hw2, hd2, h⟩
        refine RunC.wl (τ' := [(0, AV.f64 a0), (1, AV.f64 a1)]) (Γ' := []) hw2 hd2 ?_
        unfold w_sameFloat_k1 at h
        refine RunC.seq ?_
        refine RunC.regionW ?_
        refine ROps.l (r := AV.f64 a0) rfl rfl rfl (LOp.move rfl rfl) ?_
        refine ROps.l (r := AV.f64 a1) rfl rfl rfl (LOp.move rfl rfl) ?_
        refine ROps.l (r := AV.b (feq .f64 a0 a1)) rfl rfl rfl (LOp.feq rfl (OpF.tmp rfl) (OpF.tmp rfl)) ?_
        refine ROps.l (r := AV.b (feq .f64 a0 a1)) rfl rfl rfl (LOp.assign rfl rfl) ?_
        refine ROps.nil ?_
        refine RunC.ret ?_
        have hq := Option.some.inj h
        subst q0
        exact bodyQ.pure (.inr rfl) rfl (Res.one rfl (RV.tmp rfl))
noncomputable def w_eqFloat32S_b1 (a0 : List F) (a1 : List F) (v1 : Int) : Option (LR (Int) (Unit) (Bool)) :=
  bsel (decide (v1 < (a0.length : Int))) (
    obind (at? a0 v1) fun (e2 : F) =>
    olet (fwiden e2) fun (x3 : F) =>
    obind (at? a1 v1) fun (e4 : F) =>
    olet (fwiden e4) fun (x5 : F) =>
    obind (w_sameFloat x3 x5) fun (r6 : Bool) =>
    bsel r6 (
      olet (IntKind.i64.wrap (v1 + 1)) fun (x7 : Int) =>
      some (LR.next x7)) (
      some (LR.ret false))) (
    some (LR.out ()))
noncomputable def w_eqFloat32S_s1 (a0 : List F) (a1 : List F) : (Int) → Option (LR (Int) (Unit) (Bool)) := fun s => w_eqFloat32S_b1 a0 a1 s
noncomputable def w_eqFloat32S_k1  : Option (Bool) :=
  some true
noncomputable def w_eqFloat32S (a0 : List F) (a1 : List F) : Option (Bool) :=
  bsel (!decide ((a0.length : Int) = (a1.length : Int))) (
    some false) (
    obind (loopM (w_eqFloat32S_s1 a0 a1) 0) fun z => osum z (fun _ => w_eqFloat32S_k1) (fun r => some r))
theorem w_eqFloat32S_ok (a0 : List F) (a1 : List F) (q0 : Bool) (h : w_eqFloat32S a0 a1 = some q0) : Ev Try.prog 24 [AV.sl a0.length (a0.map AV.f32), AV.sl a1.length (a1.map AV.f32)] [] (AV.b q0) [] := by
  refine Ev.start Try.func24 rfl rfl 0 (τ := [(0, AV.sl a0.length (a0.map AV.f32)), (1, AV.sl a1.length (a1.map AV.f32))]) rfl (Γ' := []) rfl (n := 29) rfl (g := 0) rfl ?_
  unfold w_eqFloat32S at h
  refine RunC.seq ?_
  refine RunC.regionW ?_
  refine ROps.l (r := AV.b false) rfl rfl rfl (LOp.assign rfl rfl) ?_
  refine ROps.nil ?_
  refine RunC.seq ?_
  refine RunC.seq ?_
  rcases bsel_some h with ⟨hc1, h⟩ | ⟨hc1, h⟩
  · refine RunC.regionW ?_
    refine ROps.l (r := AV.sl a0.length (a0.map AV.f32)) rfl rfl rfl (LOp.move rfl rfl) ?_
    refine ROps.l (r := AV.i64 (a0.length : Int)) rfl rfl rfl (LOp.len_sl und22 rfl rfl) ?_
    refine ROps.l (r := AV.sl a1.length (a1.map AV.f32)) rfl rfl rfl (LOp.move rfl rfl) ?_
    refine ROps.l (r := AV.i64 (a1.length : Int)) rfl rfl rfl (LOp.len_sl und22 rfl rfl) ?_
    refine ROps.l (r := AV.b true) rfl rfl rfl (LOp.eqb (LOp.neq rfl rfl rfl) hc1) ?_
    refine ROps.nil ?_
    refine RunC.cond_true rfl rfl ?_
    refine RunC.seq ?_
    refine RunC.regionW ?_
    refine ROps.l (r := AV.b false) rfl rfl rfl (LOp.assign rfl rfl) ?_
    refine ROps.nil ?_
    refine RunC.ret ?_
    have hq := Option.some.inj h
    subst q0
    exact bodyQ.pure (.inr rfl) rfl (Res.one rfl (RV.tmp rfl))
  · refine RunC.regionW ?_
    refine ROps.l (r := AV.sl a0.length (a0.map AV.f32)) rfl rfl rfl (LOp.move rfl rfl) ?_
    refine ROps.l (r := AV.i64 (a0.length : Int)) rfl rfl rfl (LOp.len_sl und22 rfl rfl) ?_
    refine ROps.l (r := AV.sl a1.length (a1.map AV.f32)) rfl rfl rfl (LOp.move rfl rfl) ?_
    refine ROps.l (r := AV.i64 (a1.length : Int)) rfl rfl rfl (LOp.len_sl und22 rfl rfl) ?_
    refine ROps.l (r := AV.b false) rfl rfl rfl (LOp.eqb (LOp.neq rfl rfl rfl) hc1) ?_
    refine ROps.nil ?_
    refine RunC.cond_false rfl rfl ?_
    refine RunC.skip ?_
    refine RunC.seq ?_
    refine RunC.seq ?_
    refine RunC.regionW ?_
    refine ROps.l (r := AV.i64 0) rfl rfl rfl (LOp.assign rfl rfl) ?_
    refine ROps.nil ?_
    obtain ⟨z2, hz_2, h⟩ := obind_some h
    refine RunC.cutN (fun τ Γ => WeakLe τ [] ∧ DeadLe Γ [] ∧ z2 = .inl ()) ?_ ?_
    · refine RunC.block (RunC.loop (RunL.loopM (x := z2) (w_eqFloat32S_s1 a0 a1) (fun (s : Int) τ Γ => WeakLe τ [(0, AV.sl a0.length (a0.map AV.f32)), (1, AV.sl a1.length (a1.map AV.f32)), (5, AV.i64 s)] ∧ DeadLe Γ []) ?_ _ _ _ hz_2 ⟨⟨(ALe.refl _), (ALe.refl _), (ALe.refl _), trivial⟩, trivial⟩))
      rintro v1 τ2 Γ2 y2_ ⟨hw2, hd2⟩ h2_ ho2 hr2
      refine RunC.wl (τ' := [(0, AV.sl a0.length (a0.map AV.f32)), (1, AV.sl a1.length (a1.map AV.f32)), (5, AV.i64 v1)]) (Γ' := []) hw2 hd2 ?_
      replace h2_ : w_eqFloat32S_b1 a0 a1 v1 = some y2_ := h2_
      unfold w_eqFloat32S_b1 at h2_
      refine RunC.seq ?_
      refine RunC.seq ?_
      rcases bsel_some h2_ with ⟨hc2, h2_⟩ | ⟨hc2, h2_⟩
      · refine RunC.regionW ?_
        refine ROps.l (r := AV.i64 v1) rfl rfl rfl (LOp.move rfl rfl) ?_
        refine ROps.l (r := AV.sl a0.length (a0.map AV.f32)) rfl rfl rfl (LOp.move rfl rfl) ?_
        refine ROps.l (r := AV.i64 (a0.length : Int)) rfl rfl rfl (LOp.len_sl und22 rfl rfl) ?_
        refine ROps.l (r := AV.b true) rfl rfl rfl (LOp.eqb (LOp.lss rfl rfl rfl) hc2) ?_
        refine ROps.nil ?_
        refine RunC.cond_true rfl rfl ?_
        refine RunC.skip ?_
        refine RunC.seq ?_
        refine RunC.block ?_
        refine RunC.seq ?_
        obtain ⟨e2, he3, h2_⟩ := obind_some h2_
        obtain ⟨x3, hx4, h2_⟩ := olet_some h2_
        obtain ⟨e4, he5, h2_⟩ := obind_some h2_
        obtain ⟨x5, hx6, h2_⟩ := olet_some h2_
        obtain ⟨r6, hf7, h2_⟩ := obind_some h2_
        rcases bsel_some h2_ with ⟨hc8, h2_⟩ | ⟨hc8, h2_⟩
        · refine RunC.region_draw (Γ' := []) 12 mixed 
            (TR.l (r := AV.sl a0.length (a0.map AV.f32)) rfl rfl (LOp.move rfl rfl) <|
            (TR.l (r := AV.i64 v1) rfl rfl (LOp.move rfl rfl) <|
            (TR.l (r := AV.ptr [AV.f32 e2]) rfl rfl (LOp.le (LOp.ix (f := AV.f32) und22 siz25 rfl rfl rfl rfl he3) ALe.ptr) <|
            (TR.l (r := AV.f32 e2) rfl rfl (LOp.load1 agg25 rfl rfl) <|
            (TR.d (r := AV.f64 x3) (fs := []) rfl rfl (TOp.eqr (TOp.widen (src := 25) (dst := 40) ⟨_, pun25⟩ pun40 rfl (OpF.tmp rfl)) (congrArg (AV.f .f64) hx4)) <|
            (TR.l (r := AV.sl a1.length (a1.map AV.f32)) rfl rfl (LOp.move rfl rfl) <|
            (TR.l (r := AV.i64 v1) rfl rfl (LOp.move rfl rfl) <|
            (TR.l (r := AV.ptr [AV.f32 e4]) rfl rfl (LOp.le (LOp.ix (f := AV.f32) und22 siz25 rfl rfl rfl rfl he5) ALe.ptr) <|
            (TR.l (r := AV.f32 e4) rfl rfl (LOp.load1 agg25 rfl rfl) <|
            (TR.d (r := AV.f64 x5) (fs := []) rfl rfl (TOp.eqr (TOp.widen (src := 25) (dst := 40) ⟨_, pun25⟩ pun40 rfl (OpF.tmp rfl)) (congrArg (AV.f .f64) hx6)) <|
            (TR.d (r := AV.b true) (fs := []) rfl rfl (TOp.eqb (TOp.callB (CallAs.func ent21 rfl rfl) (Bors.cons (Bor.pure rfl) (Bors.cons (Bor.pure rfl) Bors.nil)) rfl rfl (w_sameFloat_ok x3 x5 r6 hf7)) hc8) <|
            (TR.l (r := AV.b false) rfl rfl (LOp.eqb (LOp.not rfl rfl) rfl) <|
            TR.nil)))))))))))) rfl (by kernel_rfl) rfl fills_nil rfl ?_
          iterate 12 refine ROps.dropS ?_
          refine ROps.drop0 ?_
          refine ROps.nil ?_
          refine RunC.wl (τ' := [(0, AV.sl a0.length (a0.map AV.f32)), (1, AV.sl a1.length (a1.map AV.f32)), (5, AV.i64 v1), (28, AV.b false)]) (Γ' := []) ⟨(ALe.refl _), (ALe.refl _), (ALe.refl _), (ALe.refl _), trivial⟩ trivial ?_
          refine RunC.cond_false rfl rfl ?_
          refine RunC.skip ?_
          obtain ⟨x7, hx9, h2_⟩ := olet_some h2_
          refine RunC.regionW ?_
          refine ROps.l (r := AV.i64 v1) rfl rfl rfl (LOp.move rfl rfl) ?_
          refine ROps.l (r := AV.i64 x7) rfl rfl rfl (LOp.eqr (LOp.add rfl rfl rfl) (congrArg (AV.ik .i64) hx9)) ?_
          refine ROps.l (r := AV.i64 x7) rfl rfl rfl (LOp.assign rfl rfl) ?_
          refine ROps.nil ?_
          cases Option.some.inj h2_
          exact ⟨_, rfl, ⟨(ALe.refl _), (ALe.refl _), (ALe.refl _), trivial⟩, trivial⟩
        · refine RunC.region_draw (Γ' := []) 12 mixed 
            (TR.l (r := AV.sl a0.length (a0.map AV.f32)) rfl rfl (LOp.move rfl rfl) <|
            (TR.l (r := AV.i64 v1) rfl rfl (LOp.move rfl rfl) <|
            (TR.l (r := AV.ptr [AV.f32 e2]) rfl rfl (LOp.le (LOp.ix (f := AV.f32) und22 siz25 rfl rfl rfl rfl he3) ALe.ptr) <|
            (TR.l (r := AV.f32 e2) rfl rfl (LOp.load1 agg25 rfl rfl) <|
            (TR.d (r := AV.f64 x3) (fs := []) rfl rfl (TOp.eqr (TOp.widen (src := 25) (dst := 40) ⟨_, pun25⟩ pun40 rfl (OpF.tmp rfl)) (congrArg (AV.f .f64) hx4)) <|
            (TR.l (r := AV.sl a1.length (a1.map AV.f32)) rfl rfl (LOp.move rfl rfl) <|
            (TR.l (r := AV.i64 v1) rfl rfl (LOp.move rfl rfl) <|
            (TR.l (r := AV.ptr [AV.f32 e4]) rfl rfl (LOp.le (LOp.ix (f := AV.f32) und22 siz25 rfl rfl rfl rfl he5) ALe.ptr) <|
            (TR.l (r := AV.f32 e4) rfl rfl (LOp.load1 agg25 rfl rfl) <|
            (TR.d (r := AV.f64 x5) (fs := []) rfl rfl (TOp.eqr (TOp.widen (src := 25) (dst := 40) ⟨_, pun25⟩ pun40 rfl (OpF.tmp rfl)) (congrArg (AV.f .f64) hx6)) <|
            (TR.d (r := AV.b false) (fs := []) rfl rfl (TOp.eqb (TOp.callB (CallAs.func ent21 rfl rfl) (Bors.cons (Bor.pure rfl) (Bors.cons (Bor.pure rfl) Bors.nil)) rfl rfl (w_sameFloat_ok x3 x5 r6 hf7)) hc8) <|
            (TR.l (r := AV.b true) rfl rfl (LOp.eqb (LOp.not rfl rfl) rfl) <|
            TR.nil)))))))))))) rfl (by kernel_rfl) rfl fills_nil rfl ?_
          iterate 12 refine ROps.dropS ?_
          refine ROps.drop0 ?_
          refine ROps.nil ?_
          refine RunC.wl (τ' := [(0, AV.sl a0.length (a0.map AV.f32)), (1, AV.sl a1.length (a1.map AV.f32)), (5, AV.i64 v1), (28, AV.b true)]) (Γ' := []) ⟨(ALe.refl _), (ALe.refl _), (ALe.refl _), (ALe.refl _), trivial⟩ trivial ?_
          refine RunC.cond_true rfl rfl ?_
          refine RunC.seq ?_
          refine RunC.regionW ?_
          refine ROps.l (r := AV.b false) rfl rfl rfl (LOp.assign rfl rfl) ?_
          refine ROps.nil ?_
          refine RunC.ret ?_
          cases Option.some.inj h2_
          have hx3_ := hr2 _ rfl
          subst hx3_
          have hq := Option.some.inj h
          subst q0
          exact bodyQ.pure (.inr rfl) rfl (Res.one rfl (RV.tmp rfl))
      · refine RunC.regionW ?_
        refine ROps.l (r := AV.i64 v1) rfl rfl rfl (LOp.move rfl rfl) ?_
        refine ROps.l (r := AV.sl a0.length (a0.map AV.f32)) rfl rfl rfl (LOp.move rfl rfl) ?_
        refine ROps.l (r := AV.i64 (a0.length : Int)) rfl rfl rfl (LOp.len_sl und22 rfl rfl) ?_
        refine ROps.l (r := AV.b false) rfl rfl rfl (LOp.eqb (LOp.lss rfl rfl rfl) hc2) ?_
        refine ROps.nil ?_
        refine RunC.cond_false rfl rfl ?_
        refine RunC.exit ?_
        cases Option.some.inj h2_
        have hx := ho2 _ rfl
        exact ⟨trivial, trivial, hx⟩
    · rintro τ4 Γ4 ⟨hw4, hd4, rfl⟩
      refine RunC.wl (τ' := []) (Γ' := []) hw4 hd4 ?_
      replace h : w_eqFloat32S_k1 = some q0 := h
      unfold w_eqFloat32S_k1 at h
      refine RunC.seq ?_
      refine RunC.regionW ?_
      refine ROps.l (r := AV.b true) rfl rfl rfl (LOp.assign rfl rfl) ?_
      refine ROps.nil ?_
      refine RunC.ret ?_
      have hq := Option.some.inj h
      subst q0
      exact bodyQ.pure (.inr rfl) rfl (Res.one rfl (RV.tmp rfl))
noncomputable def w_eqMatrix (a0 : Int) (a1 : Int) (a2 : List F) (a3 : Int) (a4 : Int) (a5 : List F) : Option (Bool) :=
  bsel (!decide (a0 = a3)) (
    some false) (
    bsel (!decide (a1 = a4)) (
      some false) (
      obind (w_eqFloat32S a2 a5) fun (r1 : Bool) =>
      bsel r1 (
        some true) (
        some false)))
theorem w_eqMatrix_ok (a0 : Int) (a1 : Int) (a2 : List F) (a3 : Int) (a4 : Int) (a5 : List F) (q0 : Bool) (h : w_eqMatrix a0 a1 a2 a3 a4 a5 = some q0) : Ev Try.prog 13 [AV.agg [AV.i64 a0, AV.i64 a1, AV.sl a2.length (a2.map AV.f32)], AV.agg [AV.i64 a3, AV.i64 a4, AV.sl a5.length (a5.map AV.f32)]] [] (AV.b q0) [] := by
  refine Ev.start Try.func13 rfl rfl 0 (τ := [(0, AV.agg [AV.i64 a0, AV.i64 a1, AV.sl a2.length (a2.map AV.f32)]), (1, AV.agg [AV.i64 a3, AV.i64 a4, AV.sl a5.length (a5.map AV.f32)])]) rfl (Γ' := []) rfl (n := 21) rfl (g := 0) rfl ?_
  unfold w_eqMatrix at h
  refine RunC.seq ?_
  refine RunC.regionW ?_
  refine ROps.d (r := AV.ptr [AV.i64 a0, AV.i64 a1, AV.sl a2.length (a2.map AV.f32)]) (fs := []) (Γ' := []) rfl rfl rfl (TOp.box_s rfl rfl rfl) rfl ?_
  refine ROps.d (r := AV.ptr [AV.i64 a3, AV.i64 a4, AV.sl a5.length (a5.map AV.f32)]) (fs := []) (Γ' := []) rfl rfl rfl (TOp.box_s rfl rfl rfl) rfl ?_
  refine ROps.l (r := AV.b false) rfl rfl rfl (LOp.assign rfl rfl) ?_
  refine ROps.nil ?_
  refine RunC.seq ?_
  refine RunC.seq ?_
  rcases bsel_some h with ⟨hc1, h⟩ | ⟨hc1, h⟩
  · refine RunC.regionW ?_
    refine ROps.l (r := AV.ptr [AV.i64 a0, AV.i64 a1, AV.sl a2.length (a2.map AV.f32)]) rfl rfl rfl (LOp.fap und27 rfl siz2 rfl rfl rfl) ?_
    refine ROps.l (r := AV.i64 a0) rfl rfl rfl (LOp.load1 agg2 rfl rfl) ?_
    refine ROps.l (r := AV.ptr [AV.i64 a3, AV.i64 a4, AV.sl a5.length (a5.map AV.f32)]) rfl rfl rfl (LOp.fap und27 rfl siz2 rfl rfl rfl) ?_
    refine ROps.l (r := AV.i64 a3) rfl rfl rfl (LOp.load1 agg2 rfl rfl) ?_
    refine ROps.l (r := AV.b true) rfl rfl rfl (LOp.eqb (LOp.neq rfl rfl rfl) hc1) ?_
    refine ROps.nil ?_
    refine RunC.cond_true rfl rfl ?_
    refine RunC.seq ?_
    refine RunC.regionW ?_
    refine ROps.l (r := AV.b false) rfl rfl rfl (LOp.assign rfl rfl) ?_
    refine ROps.nil ?_
    refine RunC.ret ?_
    have hq := Option.some.inj h
    subst q0
    exact bodyQ.pure (.inr rfl) rfl (Res.one rfl (RV.tmp rfl))
  · refine RunC.regionW ?_
    refine ROps.l (r := AV.ptr [AV.i64 a0, AV.i64 a1, AV.sl a2.length (a2.map AV.f32)]) rfl rfl rfl (LOp.fap und27 rfl siz2 rfl rfl rfl) ?_
    refine ROps.l (r := AV.i64 a0) rfl rfl rfl (LOp.load1 agg2 rfl rfl) ?_
    refine ROps.l (r := AV.ptr [AV.i64 a3, AV.i64 a4, AV.sl a5.length (a5.map AV.f32)]) rfl rfl rfl (LOp.fap und27 rfl siz2 rfl rfl rfl) ?_
    refine ROps.l (r := AV.i64 a3) rfl rfl rfl (LOp.load1 agg2 rfl rfl) ?_
    refine ROps.l (r := AV.b false) rfl rfl rfl (LOp.eqb (LOp.neq rfl rfl rfl) hc1) ?_
    refine ROps.nil ?_
    refine RunC.cond_false rfl rfl ?_
    refine RunC.skip ?_
    refine RunC.seq ?_
    refine RunC.seq ?_
    rcases bsel_some h with ⟨hc2, h⟩ | ⟨hc2, h⟩
    · refine RunC.regionW ?_
      refine ROps.l (r := AV.ptr [AV.i64 a1, AV.sl a2.length (a2.map AV.f32)]) rfl rfl rfl (LOp.fap und27 rfl siz2 rfl rfl rfl) ?_
      refine ROps.l (r := AV.i64 a1) rfl rfl rfl (LOp.load1 agg2 rfl rfl) ?_
      refine ROps.l (r := AV.ptr [AV.i64 a4, AV.sl a5.length (a5.map AV.f32)]) rfl rfl rfl (LOp.fap und27 rfl siz2 rfl rfl rfl) ?_
      refine ROps.l (r := AV.i64 a4) rfl rfl rfl (LOp.load1 agg2 rfl rfl) ?_
      refine ROps.l (r := AV.b true) rfl rfl rfl (LOp.eqb (LOp.neq rfl rfl rfl) hc2) ?_
      refine ROps.nil ?_
      refine RunC.cond_true rfl rfl ?_
      refine RunC.seq ?_
      refine RunC.regionW ?_
      refine ROps.l (r := AV.b false) rfl rfl rfl (LOp.assign rfl rfl) ?_
      refine ROps.nil ?_
      refine RunC.ret ?_
      have hq := Option.some.inj h
      subst q0
      exact bodyQ.pure (.inr rfl) rfl (Res.one rfl (RV.tmp rfl))
    · refine RunC.regionW ?_
      refine ROps.l (r := AV.ptr [AV.i64 a1, AV.sl a2.length (a2.map AV.f32)]) rfl rfl rfl (LOp.fap und27 rfl siz2 rfl rfl rfl) ?_
      refine ROps.l (r := AV.i64 a1) rfl rfl rfl (LOp.load1 agg2 rfl rfl) ?_
      refine ROps.l (r := AV.ptr [AV.i64 a4, AV.sl a5.length (a5.map AV.f32)]) rfl rfl rfl (LOp.fap und27 rfl siz2 rfl rfl rfl) ?_
      refine ROps.l (r := AV.i64 a4) rfl rfl rfl (LOp.load1 agg2 rfl rfl) ?_
      refine ROps.l (r := AV.b false) rfl rfl rfl (LOp.eqb (LOp.neq rfl rfl rfl) hc2) ?_
      refine ROps.nil ?_
      refine RunC.cond_false rfl rfl ?_
      refine RunC.skip ?_
      refine RunC.wl (τ' := [(2, AV.ptr [AV.i64 a0, AV.i64 a1, AV.sl a2.length (a2.map AV.f32)]), (3, AV.ptr [AV.i64 a3, AV.i64 a4, AV.sl a5.length (a5.map AV.f32)])]) (Γ' := []) ⟨(ALe.refl _), (ALe.refl _), trivial⟩ trivial ?_
      refine RunC.seq ?_
      refine RunC.seq ?_
      obtain ⟨r1, hf3, h⟩ := obind_some h
      rcases bsel_some h with ⟨hc4, h⟩ | ⟨hc4, h⟩
      · refine RunC.regionW ?_
        refine ROps.l (r := AV.ptr [AV.sl a2.length (a2.map AV.f32)]) rfl rfl rfl (LOp.fap und27 rfl siz22 rfl rfl rfl) ?_
        refine ROps.l (r := AV.sl a2.length (a2.map AV.f32)) rfl rfl rfl (LOp.load1 agg22 rfl rfl) ?_
        refine ROps.l (r := AV.ptr [AV.sl a5.length (a5.map AV.f32)]) rfl rfl rfl (LOp.fap und27 rfl siz22 rfl rfl rfl) ?_
        refine ROps.l (r := AV.sl a5.length (a5.map AV.f32)) rfl rfl rfl (LOp.load1 agg22 rfl rfl) ?_
        refine ROps.d (r := AV.b true) (fs := []) (Γ' := []) rfl rfl rfl (TOp.eqb (TOp.callB (CallAs.func ent24 rfl rfl) (Bors.cons (Bor.sl (fun _ => rfl)) (Bors.cons (Bor.sl (fun _ => rfl)) Bors.nil)) rfl rfl (w_eqFloat32S_ok a2 a5 r1 hf3)) hc4) rfl ?_
        refine ROps.l (r := AV.b false) rfl rfl rfl (LOp.eqb (LOp.not rfl rfl) rfl) ?_
        refine ROps.nil ?_
        refine RunC.cond_false rfl rfl ?_
        refine RunC.skip ?_
        refine RunC.seq ?_
        refine RunC.regionW ?_
        refine ROps.l (r := AV.b true) rfl rfl rfl (LOp.assign rfl rfl) ?_
        refine ROps.nil ?_
        refine RunC.ret ?_
        have hq := Option.some.inj h
        subst q0
        exact bodyQ.pure (.inr rfl) rfl (Res.one rfl (RV.tmp rfl))
      · refine RunC.regionW ?_
        refine ROps.l (r := AV.ptr [AV.sl a2.length (a2.map AV.f32)]) rfl rfl rfl (LOp.fap und27 rfl siz22 rfl rfl rfl) ?_
        refine ROps.l (r := AV.sl a2.length (a2.map AV.f32)) rfl rfl rfl (LOp.load1 agg22 rfl rfl) ?_
        refine ROps.l (r := AV.ptr [AV.sl a5.length (a5.map AV.f32)]) rfl rfl rfl (LOp.fap und27 rfl siz22 rfl rfl rfl) ?_
        refine ROps.l (r := AV.sl a5.length (a5.map AV.f32)) rfl rfl rfl (LOp.load1 agg22 rfl rfl) ?_
        refine ROps.d (r := AV.b false) (fs := []) (Γ' := []) rfl rfl rfl (TOp.eqb (TOp.callB (CallAs.func ent24 rfl rfl) (Bors.cons (Bor.sl (fun _ => rfl)) (Bors.cons (Bor.sl (fun _ => rfl)) Bors.nil)) rfl rfl (w_eqFloat32S_ok a2 a5 r1 hf3)) hc4) rfl ?_
        refine ROps.l (r := AV.b true) rfl rfl rfl (LOp.eqb (LOp.not rfl rfl) rfl) ?_
        refine ROps.nil ?_
        refine RunC.cond_true rfl rfl ?_
        refine RunC.seq ?_
        refine RunC.regionW ?_
        refine ROps.l (r := AV.b false) rfl rfl rfl (LOp.assign rfl rfl) ?_
        refine ROps.nil ?_
        refine RunC.ret ?_
        have hq := Option.some.inj h
        subst q0
        exact bodyQ.pure (.inr rfl) rfl (Res.one rfl (RV.tmp rfl))
noncomputable def w_eqInt64S_b1 (a0 : List Int) (a1 : List Int) (v1 : Int) : Option (LR (Int) (Unit) (Bool)) :=
  bsel (decide (v1 < (a0.length : Int))) (
    obind (at? a0 v1) fun (e2 : Int) =>
    obind (at? a1 v1) fun (e3 : Int) =>
    bsel (!decide (e2 = e3)) (
      some (LR.ret false)) (
      olet (IntKind.i64.wrap (v1 + 1)) fun (x4 : Int) =>
      some (LR.next x4))) (
    some (LR.out ()))
noncomputable def w_eqInt64S_s1 (a0 : List Int) (a1 : List Int) : (Int) → Option (LR (Int) (Unit) (Bool)) := fun s => w_eqInt64S_b1 a0 a1 s
noncomputable def w_eqInt64S_k1  : Option (Bool) :=
  some true
noncomputable def w_eqInt64S (a0 : List Int) (a1 : List Int) : Option (Bool) :=
  bsel (!decide ((a0.length : Int) = (a1.length : Int))) (
    some false) (
    obind (loopM (w_eqInt64S_s1 a0 a1) 0) fun z => osum z (fun _ => w_eqInt64S_k1) (fun r => some r))
theorem w_eqInt64S_ok (a0 : List Int) (a1 : List Int) (q0 : Bool) (h : w_eqInt64S a0 a1 = some q0) : Ev Try.prog 14 [AV.sl a0.length (a0.map AV.i64), AV.sl a1.length (a1.map AV.i64)] [] (AV.b q0) [] := by
  refine Ev.start Try.func14 rfl rfl 0 (τ := [(0, AV.sl a0.length (a0.map AV.i64)), (1, AV.sl a1.length (a1.map AV.i64))]) rfl (Γ' := []) rfl (n := 26) rfl (g := 0) rfl ?_
  unfold w_eqInt64S at h
  refine RunC.seq ?_
  refine RunC.regionW ?_
  refine ROps.l (r := AV.b false) rfl rfl rfl (LOp.assign rfl rfl) ?_
  refine ROps.nil ?_
  refine RunC.seq ?_
  refine RunC.seq ?_
  rcases bsel_some h with ⟨hc1, h⟩ | ⟨hc1, h⟩
  · refine RunC.regionW ?_
    refine ROps.l (r := AV.sl a0.length (a0.map AV.i64)) rfl rfl rfl (LOp.move rfl rfl) ?_
    refine ROps.l (r := AV.i64 (a0.length : Int)) rfl rfl rfl (LOp.len_sl und28 rfl rfl) ?_
    refine ROps.l (r := AV.sl a1.length (a1.map AV.i64)) rfl rfl rfl (LOp.move rfl rfl) ?_
    refine ROps.l (r := AV.i64 (a1.length : Int)) rfl rfl rfl (LOp.len_sl und28 rfl rfl) ?_
    refine ROps.l (r := AV.b true) rfl rfl rfl (LOp.eqb (LOp.neq rfl rfl rfl) hc1) ?_
    refine ROps.nil ?_
    refine RunC.cond_true rfl rfl ?_
    refine RunC.seq ?_
    refine RunC.regionW ?_
    refine ROps.l (r := AV.b false) rfl rfl rfl (LOp.assign rfl rfl) ?_
    refine ROps.nil ?_
    refine RunC.ret ?_
    have hq := Option.some.inj h
    subst q0
    exact bodyQ.pure (.inr rfl) rfl (Res.one rfl (RV.tmp rfl))
  · refine RunC.regionW ?_
    refine ROps.l (r := AV.sl a0.length (a0.map AV.i64)) rfl rfl rfl (LOp.move rfl rfl) ?_
    refine ROps.l (r := AV.i64 (a0.length : Int)) rfl rfl rfl (LOp.len_sl und28 rfl rfl) ?_
    refine ROps.l (r := AV.sl a1.length (a1.map AV.i64)) rfl rfl rfl (LOp.move rfl rfl) ?_
    refine ROps.l (r := AV.i64 (a1.length : Int)) rfl rfl rfl (LOp.len_sl und28 rfl rfl) ?_
    refine ROps.l (r := AV.b false) rfl rfl rfl (LOp.eqb (LOp.neq rfl rfl rfl) hc1) ?_
    refine ROps.nil ?_
    refine RunC.cond_false rfl rfl ?_
    refine RunC.skip ?_
    refine RunC.seq ?_
    refine RunC.seq ?_
    refine RunC.regionW ?_
    refine ROps.l (r := AV.i64 0) rfl rfl rfl (LOp.assign rfl rfl) ?_
    refine ROps.nil ?_
    obtain ⟨z2, hz_2, h⟩ := obind_some h
    refine RunC.cutN (fun τ Γ => WeakLe τ [] ∧ DeadLe Γ [] ∧ z2 = .inl ()) ?_ ?_
    · refine RunC.block (RunC.loop (RunL.loopM (x := z2) (w_eqInt64S_s1 a0 a1) (fun (s : Int) τ Γ => WeakLe τ [(0, AV.sl a0.length (a0.map AV.i64)), (1, AV.sl a1.length (a1.map AV.i64)), (5, AV.i64 s)] ∧ DeadLe Γ []) ?_ _ _ _ hz_2 ⟨⟨(ALe.refl _), (ALe.refl _), (ALe.refl _), trivial⟩, trivial⟩))
      rintro v1 τ2 Γ2 y2_ ⟨hw2, hd2⟩ h2_ ho2 hr2
      refine RunC.wl (τ' := [(0, AV.sl a0.length (a0.map AV.i64)), (1, AV.sl a1.length (a1.map AV.i64)), (5, AV.i64 v1)]) (Γ' := []) hw2 hd2 ?_
      replace h2_ : w_eqInt64S_b1 a0 a1 v1 = some y2_ := h2_
      unfold w_eqInt64S_b1 at h2_
      refine RunC.seq ?_
      refine RunC.seq ?_
      rcases bsel_some h2_ with ⟨hc2, h2_⟩ | ⟨hc2, h2_⟩
      · refine RunC.regionW ?_
        refine ROps.l (r := AV.i64 v1) rfl rfl rfl (LOp.move rfl rfl) ?_
        refine ROps.l (r := AV.sl a0.length (a0.map AV.i64)) rfl rfl rfl (LOp.move rfl rfl) ?_
        refine ROps.l (r := AV.i64 (a0.length : Int)) rfl rfl rfl (LOp.len_sl und28 rfl rfl) ?_
        refine ROps.l (r := AV.b true) rfl rfl rfl (LOp.eqb (LOp.lss rfl rfl rfl) hc2) ?_
        refine ROps.nil ?_
        refine RunC.cond_true rfl rfl ?_
        refine RunC.skip ?_
        refine RunC.seq ?_
        refine RunC.block ?_
        refine RunC.seq ?_
        obtain ⟨e2, he3, h2_⟩ := obind_some h2_
        obtain ⟨e3, he4, h2_⟩ := obind_some h2_
        rcases bsel_some h2_ with ⟨hc5, h2_⟩ | ⟨hc5, h2_⟩
        · refine RunC.region_draw (Γ' := []) 9 mixed 
            (TR.l (r := AV.sl a0.length (a0.map AV.i64)) rfl rfl (LOp.move rfl rfl) <|
            (TR.l (r := AV.i64 v1) rfl rfl (LOp.move rfl rfl) <|
            (TR.l (r := AV.ptr [AV.i64 e2]) rfl rfl (LOp.le (LOp.ix (f := AV.i64) und28 siz2 rfl rfl rfl rfl he3) ALe.ptr) <|
            (TR.l (r := AV.i64 e2) rfl rfl (LOp.load1 agg2 rfl rfl) <|
            (TR.l (r := AV.sl a1.length (a1.map AV.i64)) rfl rfl (LOp.move rfl rfl) <|
            (TR.l (r := AV.i64 v1) rfl rfl (LOp.move rfl rfl) <|
            (TR.l (r := AV.ptr [AV.i64 e3]) rfl rfl (LOp.le (LOp.ix (f := AV.i64) und28 siz2 rfl rfl rfl rfl he4) ALe.ptr) <|
            (TR.l (r := AV.i64 e3) rfl rfl (LOp.load1 agg2 rfl rfl) <|
            (TR.l (r := AV.b true) rfl rfl (LOp.eqb (LOp.neq rfl rfl rfl) hc5) <|
            TR.nil))))))))) rfl (by kernel_rfl) rfl fills_nil rfl ?_
          iterate 9 refine ROps.dropS ?_
          refine ROps.drop0 ?_
          refine ROps.nil ?_
          refine RunC.cond_true rfl rfl ?_
          refine RunC.seq ?_
          refine RunC.regionW ?_
          refine ROps.l (r := AV.b false) rfl rfl rfl (LOp.assign rfl rfl) ?_
          refine ROps.nil ?_
          refine RunC.ret ?_
          cases Option.some.inj h2_
          have hx3_ := hr2 _ rfl
          subst hx3_
          have hq := Option.some.inj h
          subst q0
          exact bodyQ.pure (.inr rfl) rfl (Res.one rfl (RV.tmp rfl))
        · refine RunC.region_draw (Γ' := []) 9 mixed 
            (TR.l (r := AV.sl a0.length (a0.map AV.i64)) rfl rfl (LOp.move rfl rfl) <|
            (TR.l (r := AV.i64 v1) rfl rfl (LOp.move rfl rfl) <|
            (TR.l (r := AV.ptr [AV.i64 e2]) rfl rfl (LOp.le (LOp.ix (f := AV.i64) und28 siz2 rfl rfl rfl rfl he3) ALe.ptr) <|
            (TR.l (r := AV.i64 e2) rfl rfl (LOp.load1 agg2 rfl rfl) <|
            (TR.l (r := AV.sl a1.length (a1.map AV.i64)) rfl rfl (LOp.move rfl rfl) <|
            (TR.l (r := AV.i64 v1) rfl rfl (LOp.move rfl rfl) <|
            (TR.l (r := AV.ptr [AV.i64 e3]) rfl rfl (LOp.le (LOp.ix (f := AV.i64) und28 siz2 rfl rfl rfl rfl he4) ALe.ptr) <|
            (TR.l (r := AV.i64 e3) rfl rfl (LOp.load1 agg2 rfl rfl) <|
            (TR.l (r := AV.b false) rfl rfl (LOp.eqb (LOp.neq rfl rfl rfl) hc5) <|
            TR.nil))))))))) rfl (by kernel_rfl) rfl fills_nil rfl ?_
          iterate 9 refine ROps.dropS ?_
          refine ROps.drop0 ?_
          refine ROps.nil ?_
          refine RunC.cond_false rfl rfl ?_
          refine RunC.skip ?_
          refine RunC.wl (τ' := [(0, AV.sl a0.length (a0.map AV.i64)), (1, AV.sl a1.length (a1.map AV.i64)), (5, AV.i64 v1)]) (Γ' := []) ⟨(ALe.refl _), (ALe.refl _), (ALe.refl _), trivial⟩ trivial ?_
          obtain ⟨x4, hx6, h2_⟩ := olet_some h2_
          refine RunC.regionW ?_
          refine ROps.l (r := AV.i64 v1) rfl rfl rfl (LOp.move rfl rfl) ?_
          refine ROps.l (r := AV.i64 x4) rfl rfl rfl (LOp.eqr (LOp.add rfl rfl rfl) (congrArg (AV.ik .i64) hx6)) ?_
          refine ROps.l (r := AV.i64 x4) rfl rfl rfl (LOp.assign rfl rfl) ?_
          refine ROps.nil ?_
          cases Option.some.inj h2_
          exact ⟨_, rfl, ⟨(ALe.refl _), (ALe.refl _), (ALe.refl _), trivial⟩, trivial⟩
      · refine RunC.regionW ?_
        refine ROps.l (r := AV.i64 v1) rfl rfl rfl (LOp.move rfl rfl) ?_
        refine ROps.l (r := AV.sl a0.length (a0.map AV.i64)) rfl rfl rfl (LOp.move rfl rfl) ?_
        refine ROps.l (r := AV.i64 (a0.length : Int)) rfl rfl rfl (LOp.len_sl und28 rfl rfl) ?_
        refine ROps.l (r := AV.b false) rfl rfl rfl (LOp.eqb (LOp.lss rfl rfl rfl) hc2) ?_
        refine ROps.nil ?_
        refine RunC.cond_false rfl rfl ?_
        refine RunC.exit ?_
        cases Option.some.inj h2_
        have hx := ho2 _ rfl
        exact ⟨trivial, trivial, hx⟩
    · rintro τ4 Γ4 ⟨hw4, hd4, rfl⟩
      refine RunC.wl (τ' := []) (Γ' := []) hw4 hd4 ?_
      replace h : w_eqInt64S_k1 = some q0 := h
      unfold w_eqInt64S_k1 at h
      refine RunC.seq ?_
      refine RunC.regionW ?_
      refine ROps.l (r := AV.b true) rfl rfl rfl (LOp.assign rfl rfl) ?_
      refine ROps.nil ?_
      refine RunC.ret ?_
      have hq := Option.some.inj h
      subst q0
      exact bodyQ.pure (.inr rfl) rfl (Res.one rfl (RV.tmp rfl))
noncomputable def w_eqFactor (a0 : Int) (a1 : Int) (a2 : List F) (a3 : List Int) (a4 : Int) (a5 : Int) (a6 : List F) (a7 : List Int) : Option (Bool) :=
  obind (w_eqMatrix a0 a1 a2 a4 a5 a6) fun (r1 : Bool) =>
  bsel r1 (
    obind (w_eqInt64S a3 a7) fun (r2 : Bool) =>
    bsel r2 (
      some true) (
      some false)) (
    some false)
theorem w_eqFactor_ok (a0 : Int) (a1 : Int) (a2 : List F) (a3 : List Int) (a4 : Int) (a5 : Int) (a6 : List F) (a7 : List Int) (q0 : Bool) (h : w_eqFactor a0 a1 a2 a3 a4 a5 a6 a7 = some q0) : Ev Try.prog 29 [AV.agg [AV.i64 a0, AV.i64 a1, AV.sl a2.length (a2.map AV.f32), AV.sl a3.length (a3.map AV.i64)], AV.agg [AV.i64 a4, AV.i64 a5, AV.sl a6.length (a6.map AV.f32), AV.sl a7.length (a7.map AV.i64)]] [] (AV.b q0) [] := by
  refine Ev.start Try.func29 rfl rfl 0 (τ := [(0, AV.agg [AV.i64 a0, AV.i64 a1, AV.sl a2.length (a2.map AV.f32), AV.sl a3.length (a3.map AV.i64)]), (1, AV.agg [AV.i64 a4, AV.i64 a5, AV.sl a6.length (a6.map AV.f32), AV.sl a7.length (a7.map AV.i64)])]) rfl (Γ' := []) rfl (n := 17) rfl (g := 0) rfl ?_
  unfold w_eqFactor at h
  refine RunC.seq ?_
  refine RunC.regionW ?_
  refine ROps.d (r := AV.ptr [AV.i64 a0, AV.i64 a1, AV.sl a2.length (a2.map AV.f32), AV.sl a3.length (a3.map AV.i64)]) (fs := []) (Γ' := []) rfl rfl rfl (TOp.box_s rfl rfl rfl) rfl ?_
  refine ROps.d (r := AV.ptr [AV.i64 a4, AV.i64 a5, AV.sl a6.length (a6.map AV.f32), AV.sl a7.length (a7.map AV.i64)]) (fs := []) (Γ' := []) rfl rfl rfl (TOp.box_s rfl rfl rfl) rfl ?_
  refine ROps.l (r := AV.b false) rfl rfl rfl (LOp.assign rfl rfl) ?_
  refine ROps.nil ?_
  refine RunC.seq ?_
  refine RunC.seq ?_
  obtain ⟨r1, hf1, h⟩ := obind_some h
  rcases bsel_some h with ⟨hc2, h⟩ | ⟨hc2, h⟩
  · refine RunC.regionW ?_
    refine ROps.l (r := AV.ptr [AV.i64 a0, AV.i64 a1, AV.sl a2.length (a2.map AV.f32), AV.sl a3.length (a3.map AV.i64)]) rfl rfl rfl (LOp.fap und48 rfl siz27 rfl rfl rfl) ?_
    refine ROps.l (r := AV.agg [AV.i64 a0, AV.i64 a1, AV.sl a2.length (a2.map AV.f32)]) rfl rfl rfl (LOp.loadAgg agg27 siz27 rfl rfl rfl rfl) ?_
    refine ROps.l (r := AV.ptr [AV.i64 a4, AV.i64 a5, AV.sl a6.length (a6.map AV.f32), AV.sl a7.length (a7.map AV.i64)]) rfl rfl rfl (LOp.fap und48 rfl siz27 rfl rfl rfl) ?_
    refine ROps.l (r := AV.agg [AV.i64 a4, AV.i64 a5, AV.sl a6.length (a6.map AV.f32)]) rfl rfl rfl (LOp.loadAgg agg27 siz27 rfl rfl rfl rfl) ?_
    refine ROps.d (r := AV.b true) (fs := []) (Γ' := []) rfl rfl rfl (TOp.eqb (TOp.callB (CallAs.func ent13 rfl rfl) (Bors.cons (Bor.agg (Bors.cons (Bor.pure rfl) (Bors.cons (Bor.pure rfl) (Bors.cons (Bor.sl (fun _ => rfl)) Bors.nil)))) (Bors.cons (Bor.agg (Bors.cons (Bor.pure rfl) (Bors.cons (Bor.pure rfl) (Bors.cons (Bor.sl (fun _ => rfl)) Bors.nil)))) Bors.nil)) rfl rfl (w_eqMatrix_ok a0 a1 a2 a4 a5 a6 r1 hf1)) hc2) rfl ?_
    refine ROps.l (r := AV.b false) rfl rfl rfl (LOp.eqb (LOp.not rfl rfl) rfl) ?_
    refine ROps.nil ?_
    refine RunC.cond_false rfl rfl ?_
    refine RunC.skip ?_
    refine RunC.seq ?_
    refine RunC.seq ?_
    obtain ⟨r2, hf3, h⟩ := obind_some h
    rcases bsel_some h with ⟨hc4, h⟩ | ⟨hc4, h⟩
    · refine RunC.regionW ?_
      refine ROps.l (r := AV.ptr [AV.sl a3.length (a3.map AV.i64)]) rfl rfl rfl (LOp.fap und48 rfl siz28 rfl rfl rfl) ?_
      refine ROps.l (r := AV.sl a3.length (a3.map AV.i64)) rfl rfl rfl (LOp.load1 agg28 rfl rfl) ?_
      refine ROps.l (r := AV.ptr [AV.sl a7.length (a7.map AV.i64)]) rfl rfl rfl (LOp.fap und48 rfl siz28 rfl rfl rfl) ?_
      refine ROps.l (r := AV.sl a7.length (a7.map AV.i64)) rfl rfl rfl (LOp.load1 agg28 rfl rfl) ?_
      refine ROps.d (r := AV.b true) (fs := []) (Γ' := []) rfl rfl rfl (TOp.eqb (TOp.callB (CallAs.func ent14 rfl rfl) (Bors.cons (Bor.sl (fun _ => rfl)) (Bors.cons (Bor.sl (fun _ => rfl)) Bors.nil)) rfl rfl (w_eqInt64S_ok a3 a7 r2 hf3)) hc4) rfl ?_
      refine ROps.l (r := AV.b false) rfl rfl rfl (LOp.eqb (LOp.not rfl rfl) rfl) ?_
      refine ROps.nil ?_
      refine RunC.wl (τ' := [(16, AV.b false)]) (Γ' := []) ⟨(ALe.refl _), trivial⟩ trivial ?_
      refine RunC.cond_false rfl rfl ?_
      refine RunC.skip ?_
      refine RunC.seq ?_
      refine RunC.regionW ?_
      refine ROps.l (r := AV.b true) rfl rfl rfl (LOp.assign rfl rfl) ?_
      refine ROps.nil ?_
      refine RunC.ret ?_
      have hq := Option.some.inj h
      subst q0
      exact bodyQ.pure (.inr rfl) rfl (Res.one rfl (RV.tmp rfl))
    · refine RunC.regionW ?_
      refine ROps.l (r := AV.ptr [AV.sl a3.length (a3.map AV.i64)]) rfl rfl rfl (LOp.fap und48 rfl siz28 rfl rfl rfl) ?_
      refine ROps.l (r := AV.sl a3.length (a3.map AV.i64)) rfl rfl rfl (LOp.load1 agg28 rfl rfl) ?_
      refine ROps.l (r := AV.ptr [AV.sl a7.length (a7.map AV.i64)]) rfl rfl rfl (LOp.fap und48 rfl siz28 rfl rfl rfl) ?_
      refine ROps.l (r := AV.sl a7.length (a7.map AV.i64)) rfl rfl rfl (LOp.load1 agg28 rfl rfl) ?_
      refine ROps.d (r := AV.b false) (fs := []) (Γ' := []) rfl rfl rfl (TOp.eqb (TOp.callB (CallAs.func ent14 rfl rfl) (Bors.cons (Bor.sl (fun _ => rfl)) (Bors.cons (Bor.sl (fun _ => rfl)) Bors.nil)) rfl rfl (w_eqInt64S_ok a3 a7 r2 hf3)) hc4) rfl ?_
      refine ROps.l (r := AV.b true) rfl rfl rfl (LOp.eqb (LOp.not rfl rfl) rfl) ?_
      refine ROps.nil ?_
      refine RunC.wl (τ' := [(16, AV.b true)]) (Γ' := []) ⟨(ALe.refl _), trivial⟩ trivial ?_
      refine RunC.cond_true rfl rfl ?_
      refine RunC.seq ?_
      refine RunC.regionW ?_
      refine ROps.l (r := AV.b false) rfl rfl rfl (LOp.assign rfl rfl) ?_
      refine ROps.nil ?_
      refine RunC.ret ?_
      have hq := Option.some.inj h
      subst q0
      exact bodyQ.pure (.inr rfl) rfl (Res.one rfl (RV.tmp rfl))
  · refine RunC.regionW ?_
    refine ROps.l (r := AV.ptr [AV.i64 a0, AV.i64 a1, AV.sl a2.length (a2.map AV.f32), AV.sl a3.length (a3.map AV.i64)]) rfl rfl rfl (LOp.fap und48 rfl siz27 rfl rfl rfl) ?_
    refine ROps.l (r := AV.agg [AV.i64 a0, AV.i64 a1, AV.sl a2.length (a2.map AV.f32)]) rfl rfl rfl (LOp.loadAgg agg27 siz27 rfl rfl rfl rfl) ?_
    refine ROps.l (r := AV.ptr [AV.i64 a4, AV.i64 a5, AV.sl a6.length (a6.map AV.f32), AV.sl a7.length (a7.map AV.i64)]) rfl rfl rfl (LOp.fap und48 rfl siz27 rfl rfl rfl) ?_
    refine ROps.l (r := AV.agg [AV.i64 a4, AV.i64 a5, AV.sl a6.length (a6.map AV.f32)]) rfl rfl rfl (LOp.loadAgg agg27 siz27 rfl rfl rfl rfl) ?_
    refine ROps.d (r := AV.b false) (fs := []) (Γ' := []) rfl rfl rfl (TOp.eqb (TOp.callB (CallAs.func ent13 rfl rfl) (Bors.cons (Bor.agg (Bors.cons (Bor.pure rfl) (Bors.cons (Bor.pure rfl) (Bors.cons (Bor.sl (fun _ => rfl)) Bors.nil)))) (Bors.cons (Bor.agg (Bors.cons (Bor.pure rfl) (Bors.cons (Bor.pure rfl) (Bors.cons (Bor.sl (fun _ => rfl)) Bors.nil)))) Bors.nil)) rfl rfl (w_eqMatrix_ok a0 a1 a2 a4 a5 a6 r1 hf1)) hc2) rfl ?_
    refine ROps.l (r := AV.b true) rfl rfl rfl (LOp.eqb (LOp.not rfl rfl) rfl) ?_
    refine ROps.nil ?_
    refine RunC.cond_true rfl rfl ?_
    refine RunC.seq ?_
    refine RunC.regionW ?_
    refine ROps.l (r := AV.b false) rfl rfl rfl (LOp.assign rfl rfl) ?_
    refine ROps.nil ?_
    refine RunC.ret ?_
    have hq := Option.some.inj h
    subst q0
    exact bodyQ.pure (.inr rfl) rfl (Res.one rfl (RV.tmp rfl))
noncomputable def w_markFloat32S_0o_b1 (a1 : List F) (L1 : List F) (v3 : Int) (v4 : Int) : Option (LR ((List F) × Int × Int) ((List F) × Int) (Int × (List F))) :=
  bsel (decide (v4 < ((a1.length : Nat) : Int))) (
    olet (fint .f32 v3) fun (x5 : F) =>
    obind (setAt? L1 v4 x5) fun (L6 : List F) =>
    olet (IntKind.i64.wrap (v3 + 1)) fun (x7 : Int) =>
    olet (IntKind.i64.wrap (v4 + 1)) fun (x8 : Int) =>
    some (LR.next (L6, x7, x8))) (
    some (LR.out (L1, v3)))
noncomputable def w_markFloat32S_0o_s1 (a1 : List F) : ((List F) × Int × Int) → Option (LR ((List F) × Int × Int) ((List F) × Int) (Int × (List F))) := fun s => w_markFloat32S_0o_b1 a1 s.1 s.2.1 s.2.2
noncomputable def w_markFloat32S_0o_k1 (L9 : List F) (v11 : Int) : Option (Int × (List F)) :=
  some (v11, L9)
noncomputable def w_markFloat32S_0o (a0 : Int) (a1 : List F) : Option (Int × (List F)) :=
  obind (loopM (w_markFloat32S_0o_s1 a1) (a1, a0, 0)) fun z => osum z (fun e => w_markFloat32S_0o_k1 e.1 e.2) (fun r => some r)
theorem w_markFloat32S_0o_ok (a0 : Int) (a1 : List F) (q0 : Int) (q1 : List F) (h : w_markFloat32S_0o a0 a1 = some (q0, q1)) : Ev Try.prog 25 [AV.oref 0 0 0 a1.length, AV.i64 a0] [⟨0, some (a1.map AV.f32)⟩] (AV.i64 q0) [⟨0, some (q1.map AV.f32)⟩] := by
  refine Ev.start Try.func25 rfl rfl 0 (τ := [(0, AV.oref 0 0 0 a1.length), (1, AV.i64 a0)]) rfl (Γ' := [⟨0, some (a1.map AV.f32)⟩]) rfl (n := 20) rfl (g := 1) rfl ?_
  unfold w_markFloat32S_0o at h
  refine RunC.seq ?_
  refine RunC.regionW ?_
  refine ROps.l (r := AV.i64 0) rfl rfl rfl (LOp.assign rfl rfl) ?_
  refine ROps.nil ?_
  refine RunC.seq ?_
  refine RunC.seq ?_
  refine RunC.regionW ?_
  refine ROps.l (r := AV.i64 0) rfl rfl rfl (LOp.assign rfl rfl) ?_
  refine ROps.nil ?_
  obtain ⟨z2, hz_2, h⟩ := obind_some h
  refine RunC.cutN (fun τ Γ => ∃ (L9 : List F) (v11 : Int), L9.length = a1.length ∧ WeakLe τ [(1, AV.i64 v11)] ∧ DeadLe Γ [⟨0, some (L9.map AV.f32)⟩] ∧ z2 = .inl (L9, v11)) ?_ ?_
  · refine RunC.block (RunC.loop (RunL.loopM (x := z2) (w_markFloat32S_0o_s1 a1) (fun (s : (List F) × Int × Int) τ Γ => s.1.length = a1.length ∧ WeakLe τ [(0, AV.oref 0 0 0 a1.length), (1, AV.i64 s.2.1), (5, AV.i64 s.2.2)] ∧ DeadLe Γ [⟨0, some (s.1.map AV.f32)⟩]) ?_ _ _ _ hz_2 ⟨rfl, ⟨(ALe.refl _), (ALe.refl _), (ALe.refl _), trivial⟩, ⟨⟨rfl, .inr rfl⟩, trivial⟩⟩))
    rintro ⟨L1, v3, v4⟩ τ2 Γ2 y2_ ⟨hl2, hw2, hd2⟩ h2_ ho2 hr2
    refine RunC.wl (τ' := [(0, AV.oref 0 0 0 a1.length), (1, AV.i64 v3), (5, AV.i64 v4)]) (Γ' := [⟨0, some (L1.map AV.f32)⟩]) hw2 hd2 ?_
    replace hl2 : L1.length = a1.length := hl2
    replace h2_ : w_markFloat32S_0o_b1 a1 L1 v3 v4 = some y2_ := h2_
    unfold w_markFloat32S_0o_b1 at h2_
    refine RunC.seq ?_
    refine RunC.seq ?_
    rcases bsel_some h2_ with ⟨hc1, h2_⟩ | ⟨hc1, h2_⟩
    · refine RunC.regionW ?_
      refine ROps.l (r := AV.i64 v4) rfl rfl rfl (LOp.move rfl rfl) ?_
      refine ROps.l (r := AV.oref 0 0 0 a1.length) rfl rfl rfl (LOp.move rfl rfl) ?_
      refine ROps.l (r := AV.i64 ((a1.length : Nat) : Int)) rfl rfl rfl (LOp.len_oref und22 rfl rfl) ?_
      refine ROps.l (r := AV.b true) rfl rfl rfl (LOp.eqb (LOp.lss rfl rfl rfl) hc1) ?_
      refine ROps.nil ?_
      refine RunC.cond_true rfl rfl ?_
      refine RunC.skip ?_
      refine RunC.seq ?_
      refine RunC.block ?_
      refine RunC.seq ?_
      obtain ⟨x5, hx2, h2_⟩ := olet_some h2_
      obtain ⟨L6, he3, h2_⟩ := obind_some h2_
      refine RunC.regionW ?_
      refine ROps.l (r := AV.oref 0 0 0 a1.length) rfl rfl rfl (LOp.move rfl rfl) ?_
      refine ROps.l (r := AV.i64 v4) rfl rfl rfl (LOp.move rfl rfl) ?_
      refine ROps.l (r := AV.i64 v3) rfl rfl rfl (LOp.move rfl rfl) ?_
      refine ROps.l (r := AV.f32 x5) rfl rfl rfl (LOp.eqr (LOp.i2f (src := 3) (dst := 25) ⟨_, pun3⟩ pun25 rfl rfl) (congrArg (AV.f .f32) hx2)) ?_
      refine ROps.d (r := AV.optr 0 0 v4.toNat) (fs := []) (Γ' := [⟨0, some (L1.map AV.f32)⟩]) rfl rfl rfl (TOp.ixo und22 siz25 rfl rfl rfl (set_in he3 hl2) rfl) rfl ?_
      refine ROps.st (f := AV.f32) (i := v4) (Γ' := [⟨0, some (L6.map AV.f32)⟩]) rfl siz25 rfl rfl rfl (ALe.refl _) rfl rfl rfl he3 rfl ?_
      refine ROps.nil ?_
      obtain ⟨x7, hx4, h2_⟩ := olet_some h2_
      refine RunC.regionW ?_
      refine ROps.l (r := AV.i64 v3) rfl rfl rfl (LOp.move rfl rfl) ?_
      refine ROps.l (r := AV.i64 x7) rfl rfl rfl (LOp.eqr (LOp.add rfl rfl rfl) (congrArg (AV.ik .i64) hx4)) ?_
      refine ROps.l (r := AV.i64 x7) rfl rfl rfl (LOp.assign rfl rfl) ?_
      refine ROps.nil ?_
      obtain ⟨x8, hx5, h2_⟩ := olet_some h2_
      refine RunC.regionW ?_
      refine ROps.l (r := AV.i64 v4) rfl rfl rfl (LOp.move rfl rfl) ?_
      refine ROps.l (r := AV.i64 x8) rfl rfl rfl (LOp.eqr (LOp.add rfl rfl rfl) (congrArg (AV.ik .i64) hx5)) ?_
      refine ROps.l (r := AV.i64 x8) rfl rfl rfl (LOp.assign rfl rfl) ?_
      refine ROps.nil ?_
      cases Option.some.inj h2_
      exact ⟨_, rfl, ((setAt?_len he3).trans hl2), ⟨(ALe.refl _), (ALe.refl _), (ALe.refl _), trivial⟩, ⟨⟨rfl, .inr rfl⟩, trivial⟩⟩
    · refine RunC.regionW ?_
      refine ROps.l (r := AV.i64 v4) rfl rfl rfl (LOp.move rfl rfl) ?_
      refine ROps.l (r := AV.oref 0 0 0 a1.length) rfl rfl rfl (LOp.move rfl rfl) ?_
      refine ROps.l (r := AV.i64 ((a1.length : Nat) : Int)) rfl rfl rfl (LOp.len_oref und22 rfl rfl) ?_
      refine ROps.l (r := AV.b false) rfl rfl rfl (LOp.eqb (LOp.lss rfl rfl rfl) hc1) ?_
      refine ROps.nil ?_
      refine RunC.cond_false rfl rfl ?_
      refine RunC.exit ?_
      cases Option.some.inj h2_
      have hx := ho2 _ rfl
      exact ⟨L1, v3, hl2, ⟨(ALe.refl _), trivial⟩, ⟨⟨rfl, .inr rfl⟩, trivial⟩, hx⟩
  · rintro τ3 Γ3 ⟨L9, v11, hl10, hw3, hd3, rfl⟩
    refine RunC.wl (τ' := [(1, AV.i64 v11)]) (Γ' := [⟨0, some (L9.map AV.f32)⟩]) hw3 hd3 ?_
    replace h : w_markFloat32S_0o_k1 L9 v11 = some (q0, q1) := h
    unfold w_markFloat32S_0o_k1 at h
    refine RunC.seq ?_
    refine RunC.regionW ?_
    refine ROps.l (r := AV.i64 v11) rfl rfl rfl (LOp.move rfl rfl) ?_
    refine ROps.l (r := AV.i64 v11) rfl rfl rfl (LOp.assign rfl rfl) ?_
    refine ROps.nil ?_
    refine RunC.ret ?_
    have hq := Option.some.inj h
    obtain ⟨hq0, hq⟩ := Prod.mk.inj hq
    subst q0
    subst q1
    exact bodyQ.mk (r' := AV.i64 v11) [(0, 0)] (.inr rfl) rfl (show List.Nodup [0] from by decide) rfl rfl (Res.one rfl (RV.tmp rfl)) (SelL.arr (f := AV.f32) (fun _ => rfl) rfl trivial)
noncomputable def w_markMatrix_02o (a0 : Int) (a1 : Int) (a2 : Int) (a3 : List F) : Option (Int × (List F)) :=
  obind2 (w_markFloat32S_0o a2 a3) fun (r1 : Int) (r2 : List F) =>
  need (decide (r2.length = a3.length)) <|
  some (r1, r2)
theorem w_markMatrix_02o_ok (a0 : Int) (a1 : Int) (a2 : Int) (a3 : List F) (q0 : Int) (q1 : List F) (h : w_markMatrix_02o a0 a1 a2 a3 = some (q0, q1)) : Ev Try.prog 15 [AV.agg [AV.i64 a0, AV.i64 a1, AV.oref 0 0 0 a3.length], AV.i64 a2] [⟨0, some (a3.map AV.f32)⟩] (AV.i64 q0) [⟨0, some (q1.map AV.f32)⟩] := by
  refine Ev.start Try.func15 rfl rfl 0 (τ := [(0, AV.agg [AV.i64 a0, AV.i64 a1, AV.oref 0 0 0 a3.length]), (1, AV.i64 a2)]) rfl (Γ' := [⟨0, some (a3.map AV.f32)⟩]) rfl (n := 10) rfl (g := 1) rfl ?_
  unfold w_markMatrix_02o at h
  refine RunC.seq ?_
  refine RunC.regionW ?_
  refine ROps.d (r := AV.ptr [AV.i64 a0, AV.i64 a1, AV.oref 0 0 0 a3.length]) (fs := []) (Γ' := [⟨0, some (a3.map AV.f32)⟩]) rfl rfl rfl (TOp.box_s rfl rfl rfl) rfl ?_
  refine ROps.l (r := AV.i64 0) rfl rfl rfl (LOp.assign rfl rfl) ?_
  refine ROps.nil ?_
  refine RunC.seq ?_
  obtain ⟨r1, r2, hf1, h⟩ := obind2_some h
  obtain ⟨hn2, h⟩ := need_some h
  refine RunC.regionW ?_
  refine ROps.l (r := AV.ptr [AV.oref 0 0 0 a3.length]) rfl rfl rfl (LOp.fap und27 rfl siz22 rfl rfl rfl) ?_
  refine ROps.l (r := AV.oref 0 0 0 a3.length) rfl rfl rfl (LOp.load1 agg22 rfl rfl) ?_
  refine ROps.l (r := AV.i64 a2) rfl rfl rfl (LOp.move rfl rfl) ?_
  refine ROps.callO (A := [AV.oref 0 0 0 a3.length, AV.i64 a2]) (args := [AV.oref 0 0 0 a3.length, AV.i64 a2]) (Γc := [⟨0, some (a3.map AV.f32)⟩]) (Γc' := [⟨0, some (r2.map AV.f32)⟩]) (r' := AV.i64 r1) (Γ' := [⟨0, some (r2.map AV.f32)⟩]) [(0, 0)] [] rfl (CallAs.func ent25 rfl rfl) rfl rfl (SelOk.of (show List.Nodup [0] from by decide) (SelL.arr0 (f := AV.f32) (fun _ => rfl) rfl trivial)) (live_of ⟨⟨_, _, rfl⟩, trivial⟩) (by simp [AV.ren, AV.rens, sigma, rens_f32, rens_f64, rens_i64, rens_ik, rens_str, rens_cp]) rfl (w_markFloat32S_0o_ok a2 a3 r1 r2 hf1) rfl (news_of trivial) (show List.Nodup [0] from by decide) (by simp [AV.ren, AV.rens, sigma, of_decide_eq_true hn2]) (by simp [backOb, sigma, AV.ren, AV.rens, rens_f32, rens_f64, rens_i64, rens_ik, rens_str, rens_cp]) ?_
  refine ROps.l (r := AV.i64 r1) rfl rfl rfl (LOp.assign rfl rfl) ?_
  refine ROps.nil ?_
  refine RunC.seq ?_
  refine RunC.regionW ?_
  refine ROps.l (r := AV.i64 r1) rfl rfl rfl (LOp.move rfl rfl) ?_
  refine ROps.l (r := AV.i64 r1) rfl rfl rfl (LOp.assign rfl rfl) ?_
  refine ROps.nil ?_
  refine RunC.ret ?_
  have hq := Option.some.inj h
  obtain ⟨hq0, hq⟩ := Prod.mk.inj hq
  subst q0
  subst q1
  exact bodyQ.mk (r' := AV.i64 r1) [(0, 0)] (.inr rfl) rfl (show List.Nodup [0] from by decide) rfl rfl (Res.one rfl (RV.tmp rfl)) (SelL.arr (f := AV.f32) (fun _ => rfl) rfl trivial)
noncomputable def w_markInt64S_0o_b1 (a1 : List Int) (L1 : List Int) (v3 : Int) (v4 : Int) : Option (LR ((List Int) × Int × Int) ((List Int) × Int) (Int × (List Int))) :=
  bsel (decide (v4 < ((a1.length : Nat) : Int))) (
    obind (setAt? L1 v4 v3) fun (L5 : List Int) =>
    olet (IntKind.i64.wrap (v3 + 1)) fun (x6 : Int) =>
    olet (IntKind.i64.wrap (v4 + 1)) fun (x7 : Int) =>
    some (LR.next (L5, x6, x7))) (
    some (LR.out (L1, v3)))
noncomputable def w_markInt64S_0o_s1 (a1 : List Int) : ((List Int) × Int × Int) → Option (LR ((List Int) × Int × Int) ((List Int) × Int) (Int × (List Int))) := fun s => w_markInt64S_0o_b1 a1 s.1 s.2.1 s.2.2
noncomputable def w_markInt64S_0o_k1 (L8 : List Int) (v10 : Int) : Option (Int × (List Int)) :=
  some (v10, L8)
noncomputable def w_markInt64S_0o (a0 : Int) (a1 : List Int) : Option (Int × (List Int)) :=
  obind (loopM (w_markInt64S_0o_s1 a1) (a1, a0, 0)) fun z => osum z (fun e => w_markInt64S_0o_k1 e.1 e.2) (fun r => some r)
theorem w_markInt64S_0o_ok (a0 : Int) (a1 : List Int) (q0 : Int) (q1 : List Int) (h : w_markInt64S_0o a0 a1 = some (q0, q1)) : Ev Try.prog 16 [AV.oref 0 0 0 a1.length, AV.i64 a0] [⟨0, some (a1.map AV.i64)⟩] (AV.i64 q0) [⟨0, some (q1.map AV.i64)⟩] := by
  refine Ev.start Try.func16 rfl rfl 0 (τ := [(0, AV.oref 0 0 0 a1.length), (1, AV.i64 a0)]) rfl (Γ' := [⟨0, some (a1.map AV.i64)⟩]) rfl (n := 19) rfl (g := 1) rfl ?_
  unfold w_markInt64S_0o at h
  refine RunC.seq ?_
  refine RunC.regionW ?_
  refine ROps.l (r := AV.i64 0) rfl rfl rfl (LOp.assign rfl rfl) ?_
  refine ROps.nil ?_
  refine RunC.seq ?_
  refine RunC.seq ?_
  refine RunC.regionW ?_
  refine ROps.l (r := AV.i64 0) rfl rfl rfl (LOp.assign rfl rfl) ?_
  refine ROps.nil ?_
  obtain ⟨z2, hz_2, h⟩ := obind_some h
  refine RunC.cutN (fun τ Γ => ∃ (L8 : List Int) (v10 : Int), L8.length = a1.length ∧ WeakLe τ [(1, AV.i64 v10)] ∧ DeadLe Γ [⟨0, some (L8.map AV.i64)⟩] ∧ z2 = .inl (L8, v10)) ?_ ?_
  · refine RunC.block (RunC.loop (RunL.loopM (x := z2) (w_markInt64S_0o_s1 a1) (fun (s : (List Int) × Int × Int) τ Γ => s.1.length = a1.length ∧ WeakLe τ [(0, AV.oref 0 0 0 a1.length), (1, AV.i64 s.2.1), (5, AV.i64 s.2.2)] ∧ DeadLe Γ [⟨0, some (s.1.map AV.i64)⟩]) ?_ _ _ _ hz_2 ⟨rfl, ⟨(ALe.refl _), (ALe.refl _), (ALe.refl _), trivial⟩, ⟨⟨rfl, .inr rfl⟩, trivial⟩⟩))
    rintro ⟨L1, v3, v4⟩ τ2 Γ2 y2_ ⟨hl2, hw2, hd2⟩ h2_ ho2 hr2
    refine RunC.wl (τ' := [(0, AV.oref 0 0 0 a1.length), (1, AV.i64 v3), (5, AV.i64 v4)]) (Γ' := [⟨0, some (L1.map AV.i64)⟩]) hw2 hd2 ?_
    replace hl2 : L1.length = a1.length := hl2
    replace h2_ : w_markInt64S_0o_b1 a1 L1 v3 v4 = some y2_ := h2_
    unfold w_markInt64S_0o_b1 at h2_
    refine RunC.seq ?_
    refine RunC.seq ?_
    rcases bsel_some h2_ with ⟨hc1, h2_⟩ | ⟨hc1, h2_⟩
    · refine RunC.regionW ?_
      refine ROps.l (r := AV.i64 v4) rfl rfl rfl (LOp.move rfl rfl) ?_
      refine ROps.l (r := AV.oref 0 0 0 a1.length) rfl rfl rfl (LOp.move rfl rfl) ?_
      refine ROps.l (r := AV.i64 ((a1.length : Nat) : Int)) rfl rfl rfl (LOp.len_oref und28 rfl rfl) ?_
      refine ROps.l (r := AV.b true) rfl rfl rfl (LOp.eqb (LOp.lss rfl rfl rfl) hc1) ?_
      refine ROps.nil ?_
      refine RunC.cond_true rfl rfl ?_
      refine RunC.skip ?_
      refine RunC.seq ?_
      refine RunC.block ?_
      refine RunC.seq ?_
      obtain ⟨L5, he2, h2_⟩ := obind_some h2_
      refine RunC.regionW ?_
      refine ROps.l (r := AV.oref 0 0 0 a1.length) rfl rfl rfl (LOp.move rfl rfl) ?_
      refine ROps.l (r := AV.i64 v4) rfl rfl rfl (LOp.move rfl rfl) ?_
      refine ROps.l (r := AV.i64 v3) rfl rfl rfl (LOp.move rfl rfl) ?_
      refine ROps.d (r := AV.optr 0 0 v4.toNat) (fs := []) (Γ' := [⟨0, some (L1.map AV.i64)⟩]) rfl rfl rfl (TOp.ixo und28 siz2 rfl rfl rfl (set_in he2 hl2) rfl) rfl ?_
      refine ROps.st (f := AV.i64) (i := v4) (Γ' := [⟨0, some (L5.map AV.i64)⟩]) rfl siz2 rfl rfl rfl (ALe.refl _) rfl rfl rfl he2 rfl ?_
      refine ROps.nil ?_
      obtain ⟨x6, hx3, h2_⟩ := olet_some h2_
      refine RunC.regionW ?_
      refine ROps.l (r := AV.i64 v3) rfl rfl rfl (LOp.move rfl rfl) ?_
      refine ROps.l (r := AV.i64 x6) rfl rfl rfl (LOp.eqr (LOp.add rfl rfl rfl) (congrArg (AV.ik .i64) hx3)) ?_
      refine ROps.l (r := AV.i64 x6) rfl rfl rfl (LOp.assign rfl rfl) ?_
      refine ROps.nil ?_
      obtain ⟨x7, hx4, h2_⟩ := olet_some h2_
      refine RunC.regionW ?_
      refine ROps.l (r := AV.i64 v4) rfl rfl rfl (LOp.move rfl rfl) ?_
      refine ROps.l (r := AV.i64 x7) rfl rfl rfl (LOp.eqr (LOp.add rfl rfl rfl) (congrArg (AV.ik .i64) hx4)) ?_
      refine ROps.l (r := AV.i64 x7) rfl rfl rfl (LOp.assign rfl rfl) ?_
      refine ROps.nil ?_
      cases Option.some.inj h2_
      exact ⟨_, rfl, ((setAt?_len he2).trans hl2), ⟨(ALe.refl _), (ALe.refl _), (ALe.refl _), trivial⟩, ⟨⟨rfl, .inr rfl⟩, trivial⟩⟩
    · refine RunC.regionW ?_
      refine ROps.l (r := AV.i64 v4) rfl rfl rfl (LOp.move rfl rfl) ?_
      refine ROps.l (r := AV.oref 0 0 0 a1.length) rfl rfl rfl (LOp.move rfl rfl) ?_
      refine ROps.l (r := AV.i64 ((a1.length : Nat) : Int)) rfl rfl rfl (LOp.len_oref und28 rfl rfl) ?_
      refine ROps.l (r := AV.b false) rfl rfl rfl (LOp.eqb (LOp.lss rfl rfl rfl) hc1) ?_
      refine ROps.nil ?_
      refine RunC.cond_false rfl rfl ?_
      refine RunC.exit ?_
      cases Option.some.inj h2_
      have hx := ho2 _ rfl
      exact ⟨L1, v3, hl2, ⟨(ALe.refl _), trivial⟩, ⟨⟨rfl, .inr rfl⟩, trivial⟩, hx⟩
  · rintro τ3 Γ3 ⟨L8, v10, hl9, hw3, hd3, rfl⟩
    refine RunC.wl (τ' := [(1, AV.i64 v10)]) (Γ' := [⟨0, some (L8.map AV.i64)⟩]) hw3 hd3 ?_
    replace h : w_markInt64S_0o_k1 L8 v10 = some (q0, q1) := h
    unfold w_markInt64S_0o_k1 at h
    refine RunC.seq ?_
    refine RunC.regionW ?_
    refine ROps.l (r := AV.i64 v10) rfl rfl rfl (LOp.move rfl rfl) ?_
    refine ROps.l (r := AV.i64 v10) rfl rfl rfl (LOp.assign rfl rfl) ?_
    refine ROps.nil ?_
    refine RunC.ret ?_
    have hq := Option.some.inj h
    obtain ⟨hq0, hq⟩ := Prod.mk.inj hq
    subst q0
    subst q1
    exact bodyQ.mk (r' := AV.i64 v10) [(0, 0)] (.inr rfl) rfl (show List.Nodup [0] from by decide) rfl rfl (Res.one rfl (RV.tmp rfl)) (SelL.arr (f := AV.i64) (fun _ => rfl) rfl trivial)
noncomputable def w_markFactor_02o_03o1 (a0 : Int) (a1 : Int) (a2 : Int) (a3 : List F) (a4 : List Int) : Option (Int × (List F) × (List Int)) :=
  obind2 (w_markMatrix_02o a0 a1 a2 a3) fun (r1 : Int) (r2 : List F) =>
  need (decide (r2.length = a3.length)) <|
  obind2 (w_markInt64S_0o r1 a4) fun (r3 : Int) (r4 : List Int) =>
  need (decide (r4.length = a4.length)) <|
  some (r3, r2, r4)
theorem w_markFactor_02o_03o1_ok (a0 : Int) (a1 : Int) (a2 : Int) (a3 : List F) (a4 : List Int) (q0 : Int) (q1 : List F) (q2 : List Int) (h : w_markFactor_02o_03o1 a0 a1 a2 a3 a4 = some (q0, q1, q2)) : Ev Try.prog 30 [AV.agg [AV.i64 a0, AV.i64 a1, AV.oref 0 0 0 a3.length, AV.oref 1 0 0 a4.length], AV.i64 a2] [⟨0, some (a3.map AV.f32)⟩, ⟨0, some (a4.map AV.i64)⟩] (AV.i64 q0) [⟨0, some (q1.map AV.f32)⟩, ⟨0, some (q2.map AV.i64)⟩] := by
  refine Ev.start Try.func30 rfl rfl 0 (τ := [(0, AV.agg [AV.i64 a0, AV.i64 a1, AV.oref 0 0 0 a3.length, AV.oref 1 0 0 a4.length]), (1, AV.i64 a2)]) rfl (Γ' := [⟨0, some (a3.map AV.f32)⟩, ⟨0, some (a4.map AV.i64)⟩]) rfl (n := 14) rfl (g := 2) rfl ?_
  unfold w_markFactor_02o_03o1 at h
  refine RunC.seq ?_
  refine RunC.regionW ?_
  refine ROps.d (r := AV.ptr [AV.i64 a0, AV.i64 a1, AV.oref 0 0 0 a3.length, AV.oref 1 0 0 a4.length]) (fs := []) (Γ' := [⟨0, some (a3.map AV.f32)⟩, ⟨0, some (a4.map AV.i64)⟩]) rfl rfl rfl (TOp.box_s rfl rfl rfl) rfl ?_
  refine ROps.l (r := AV.i64 0) rfl rfl rfl (LOp.assign rfl rfl) ?_
  refine ROps.nil ?_
  refine RunC.seq ?_
  obtain ⟨r1, r2, hf1, h⟩ := obind2_some h
  obtain ⟨hn2, h⟩ := need_some h
  refine RunC.regionW ?_
  refine ROps.l (r := AV.ptr [AV.i64 a0, AV.i64 a1, AV.oref 0 0 0 a3.length, AV.oref 1 0 0 a4.length]) rfl rfl rfl (LOp.fap und48 rfl siz27 rfl rfl rfl) ?_
  refine ROps.l (r := AV.agg [AV.i64 a0, AV.i64 a1, AV.oref 0 0 0 a3.length]) rfl rfl rfl (LOp.loadAgg agg27 siz27 rfl rfl rfl rfl) ?_
  refine ROps.l (r := AV.i64 a2) rfl rfl rfl (LOp.move rfl rfl) ?_
  refine ROps.callO (A := [AV.agg [AV.i64 a0, AV.i64 a1, AV.oref 0 0 0 a3.length], AV.i64 a2]) (args := [AV.agg [AV.i64 a0, AV.i64 a1, AV.oref 0 0 0 a3.length], AV.i64 a2]) (Γc := [⟨0, some (a3.map AV.f32)⟩]) (Γc' := [⟨0, some (r2.map AV.f32)⟩]) (r' := AV.i64 r1) (Γ' := [⟨0, some (r2.map AV.f32)⟩, ⟨0, some (a4.map AV.i64)⟩]) [(0, 0)] [] rfl (CallAs.func ent15 rfl rfl) rfl rfl (SelOk.of (show List.Nodup [0] from by decide) (SelL.arr0 (f := AV.f32) (fun _ => rfl) rfl trivial)) (live_of ⟨⟨_, _, rfl⟩, trivial⟩) (by simp [AV.ren, AV.rens, sigma, rens_f32, rens_f64, rens_i64, rens_ik, rens_str, rens_cp]) rfl (w_markMatrix_02o_ok a0 a1 a2 a3 r1 r2 hf1) rfl (news_of trivial) (show List.Nodup [0] from by decide) (by simp [AV.ren, AV.rens, sigma, of_decide_eq_true hn2]) (by simp [backOb, sigma, AV.ren, AV.rens, rens_f32, rens_f64, rens_i64, rens_ik, rens_str, rens_cp]) ?_
  refine ROps.l (r := AV.i64 r1) rfl rfl rfl (LOp.assign rfl rfl) ?_
  refine ROps.nil ?_
  refine RunC.seq ?_
  obtain ⟨r3, r4, hf3, h⟩ := obind2_some h
  obtain ⟨hn4, h⟩ := need_some h
  refine RunC.regionW ?_
  refine ROps.l (r := AV.ptr [AV.oref 1 0 0 a4.length]) rfl rfl rfl (LOp.fap und48 rfl siz28 rfl rfl rfl) ?_
  refine ROps.l (r := AV.oref 1 0 0 a4.length) rfl rfl rfl (LOp.load1 agg28 rfl rfl) ?_
  refine ROps.l (r := AV.i64 r1) rfl rfl rfl (LOp.move rfl rfl) ?_
  refine ROps.callO (A := [AV.oref 1 0 0 a4.length, AV.i64 r1]) (args := [AV.oref 0 0 0 a4.length, AV.i64 r1]) (Γc := [⟨0, some (a4.map AV.i64)⟩]) (Γc' := [⟨0, some (r4.map AV.i64)⟩]) (r' := AV.i64 r3) (Γ' := [⟨0, some (r2.map AV.f32)⟩, ⟨0, some (r4.map AV.i64)⟩]) [(1, 0)] [] rfl (CallAs.func ent16 rfl rfl) rfl rfl (SelOk.of (show List.Nodup [1] from by decide) (SelL.arr0 (f := AV.i64) (fun _ => rfl) rfl trivial)) (live_of ⟨⟨_, _, rfl⟩, trivial⟩) (by simp [AV.ren, AV.rens, sigma, rens_f32, rens_f64, rens_i64, rens_ik, rens_str, rens_cp]) rfl (w_markInt64S_0o_ok r1 a4 r3 r4 hf3) rfl (news_of trivial) (show List.Nodup [1] from by decide) (by simp [AV.ren, AV.rens, sigma, of_decide_eq_true hn4]) (by simp [backOb, sigma, AV.ren, AV.rens, rens_f32, rens_f64, rens_i64, rens_ik, rens_str, rens_cp]) ?_
  refine ROps.l (r := AV.i64 r3) rfl rfl rfl (LOp.assign rfl rfl) ?_
  refine ROps.nil ?_
  refine RunC.seq ?_
  refine RunC.regionW ?_
  refine ROps.l (r := AV.i64 r3) rfl rfl rfl (LOp.move rfl rfl) ?_
  refine ROps.l (r := AV.i64 r3) rfl rfl rfl (LOp.assign rfl rfl) ?_
  refine ROps.nil ?_
  refine RunC.ret ?_
  have hq := Option.some.inj h
  obtain ⟨hq0, hq⟩ := Prod.mk.inj hq
  obtain ⟨hq1, hq⟩ := Prod.mk.inj hq
  subst q0
  subst q1
  subst q2
  exact bodyQ.mk (r' := AV.i64 r3) [(0, 0), (1, 0)] (.inr rfl) rfl (show List.Nodup [0, 1] from by decide) rfl rfl (Res.one rfl (RV.tmp rfl)) (SelL.arr (f := AV.f32) (fun _ => rfl) rfl (SelL.arr (f := AV.i64) (fun _ => rfl) rfl trivial))
noncomputable def w_heldFloat32S_b1 (a0 : List F) (v1 : Int) (v2 : Int) : Option (LR (Int × Int) (Int) (Int)) :=
  bsel (decide (v2 < (a0.length : Int))) (
    obind (at? a0 v2) fun (e3 : F) =>
    olet (fint .f32 v1) fun (x4 : F) =>
    bsel (!feq .f32 e3 x4) (
      some (LR.ret (-1))) (
      olet (IntKind.i64.wrap (v1 + 1)) fun (x5 : Int) =>
      olet (IntKind.i64.wrap (v2 + 1)) fun (x6 : Int) =>
      some (LR.next (x5, x6)))) (
    some (LR.out v1))
noncomputable def w_heldFloat32S_s1 (a0 : List F) : (Int × Int) → Option (LR (Int × Int) (Int) (Int)) := fun s => w_heldFloat32S_b1 a0 s.1 s.2
noncomputable def w_heldFloat32S_k1 (v7 : Int) : Option (Int) :=
  some v7
noncomputable def w_heldFloat32S (a0 : List F) (a1 : Int) : Option (Int) :=
  obind (loopM (w_heldFloat32S_s1 a0) (a1, 0)) fun z => osum z (fun e => w_heldFloat32S_k1 e) (fun r => some r)
theorem w_heldFloat32S_ok (a0 : List F) (a1 : Int) (q0 : Int) (h : w_heldFloat32S a0 a1 = some q0) : Ev Try.prog 26 [AV.sl a0.length (a0.map AV.f32), AV.i64 a1] [] (AV.i64 q0) [] := by
  refine Ev.start Try.func26 rfl rfl 0 (τ := [(0, AV.sl a0.length (a0.map AV.f32)), (1, AV.i64 a1)]) rfl (Γ' := []) rfl (n := 22) rfl (g := 0) rfl ?_
  unfold w_heldFloat32S at h
  refine RunC.seq ?_
  refine RunC.regionW ?_
  refine ROps.l (r := AV.i64 0) rfl rfl rfl (LOp.assign rfl rfl) ?_
  refine ROps.nil ?_
  refine RunC.seq ?_
  refine RunC.seq ?_
  refine RunC.regionW ?_
  refine ROps.l (r := AV.i64 0) rfl rfl rfl (LOp.assign rfl rfl) ?_
  refine ROps.nil ?_
  obtain ⟨z2, hz_2, h⟩ := obind_some h
  refine RunC.cutN (fun τ Γ => ∃ (v7 : Int), WeakLe τ [(1, AV.i64 v7)] ∧ DeadLe Γ [] ∧ z2 = .inl v7) ?_ ?_
  · refine RunC.block (RunC.loop (RunL.loopM (x := z2) (w_heldFloat32S_s1 a0) (fun (s : Int × Int) τ Γ => WeakLe τ [(0, AV.sl a0.length (a0.map AV.f32)), (1, AV.i64 s.1), (5, AV.i64 s.2)] ∧ DeadLe Γ []) ?_ _ _ _ hz_2 ⟨⟨(ALe.refl _), (ALe.refl _), (ALe.refl _), trivial⟩, trivial⟩))
    rintro ⟨v1, v2⟩ τ2 Γ2 y2_ ⟨hw2, hd2⟩ h2_ ho2 hr2
    refine RunC.wl (τ' := [(0, AV.sl a0.length (a0.map AV.f32)), (1, AV.i64 v1), (5, AV.i64 v2)]) (Γ' := []) hw2 hd2 ?_
    replace h2_ : w_heldFloat32S_b1 a0 v1 v2 = some y2_ := h2_
    unfold w_heldFloat32S_b1 at h2_
    refine RunC.seq ?_
    refine RunC.seq ?_
    rcases bsel_some h2_ with ⟨hc1, h2_⟩ | ⟨hc1, h2_⟩
    · refine RunC.regionW ?_
      refine ROps.l (r := AV.i64 v2) rfl rfl rfl (LOp.move rfl rfl) ?_
      refine ROps.l (r := AV.sl a0.length (a0.map AV.f32)) rfl rfl rfl (LOp.move rfl rfl) ?_
      refine ROps.l (r := AV.i64 (a0.length : Int)) rfl rfl rfl (LOp.len_sl und22 rfl rfl) ?_
      refine ROps.l (r := AV.b true) rfl rfl rfl (LOp.eqb (LOp.lss rfl rfl rfl) hc1) ?_
      refine ROps.nil ?_
      refine RunC.cond_true rfl rfl ?_
      refine RunC.skip ?_
      refine RunC.seq ?_
      refine RunC.block ?_
      refine RunC.seq ?_
      refine RunC.seq ?_
      obtain ⟨e3, he2, h2_⟩ := obind_some h2_
      obtain ⟨x4, hx3, h2_⟩ := olet_some h2_
      rcases bsel_some h2_ with ⟨hc4, h2_⟩ | ⟨hc4, h2_⟩
      · refine RunC.regionW ?_
        refine ROps.l (r := AV.sl a0.length (a0.map AV.f32)) rfl rfl rfl (LOp.move rfl rfl) ?_
        refine ROps.l (r := AV.i64 v2) rfl rfl rfl (LOp.move rfl rfl) ?_
        refine ROps.l (r := AV.ptr [AV.f32 e3]) rfl rfl rfl (LOp.le (LOp.ix (f := AV.f32) und22 siz25 rfl rfl rfl rfl he2) ALe.ptr) ?_
        refine ROps.l (r := AV.f32 e3) rfl rfl rfl (LOp.load1 agg25 rfl rfl) ?_
        refine ROps.l (r := AV.i64 v1) rfl rfl rfl (LOp.move rfl rfl) ?_
        refine ROps.l (r := AV.f32 x4) rfl rfl rfl (LOp.eqr (LOp.i2f (src := 3) (dst := 25) ⟨_, pun3⟩ pun25 rfl rfl) (congrArg (AV.f .f32) hx3)) ?_
        refine ROps.l (r := AV.b true) rfl rfl rfl (LOp.eqb (LOp.fne rfl (OpF.tmp rfl) (OpF.tmp rfl)) hc4) ?_
        refine ROps.nil ?_
        refine RunC.cond_true rfl rfl ?_
        refine RunC.seq ?_
        refine RunC.regionW ?_
        refine ROps.l (r := AV.i64 (-1)) rfl rfl rfl (LOp.assign rfl rfl) ?_
        refine ROps.nil ?_
        refine RunC.ret ?_
        cases Option.some.inj h2_
        have hx3_ := hr2 _ rfl
        subst hx3_
        have hq := Option.some.inj h
        subst q0
        exact bodyQ.pure (.inr rfl) rfl (Res.one rfl (RV.tmp rfl))
      · refine RunC.regionW ?_
        refine ROps.l (r := AV.sl a0.length (a0.map AV.f32)) rfl rfl rfl (LOp.move rfl rfl) ?_
        refine ROps.l (r := AV.i64 v2) rfl rfl rfl (LOp.move rfl rfl) ?_
        refine ROps.l (r := AV.ptr [AV.f32 e3]) rfl rfl rfl (LOp.le (LOp.ix (f := AV.f32) und22 siz25 rfl rfl rfl rfl he2) ALe.ptr) ?_
        refine ROps.l (r := AV.f32 e3) rfl rfl rfl (LOp.load1 agg25 rfl rfl) ?_
        refine ROps.l (r := AV.i64 v1) rfl rfl rfl (LOp.move rfl rfl) ?_
        refine ROps.l (r := AV.f32 x4) rfl rfl rfl (LOp.eqr (LOp.i2f (src := 3) (dst := 25) ⟨_, pun3⟩ pun25 rfl rfl) (congrArg (AV.f .f32) hx3)) ?_
        refine ROps.l (r := AV.b false) rfl rfl rfl (LOp.eqb (LOp.fne rfl (OpF.tmp rfl) (OpF.tmp rfl)) hc4) ?_
        refine ROps.nil ?_
        refine RunC.cond_false rfl rfl ?_
        refine RunC.skip ?_
        obtain ⟨x5, hx5, h2_⟩ := olet_some h2_
        refine RunC.regionW ?_
        refine ROps.l (r := AV.i64 v1) rfl rfl rfl (LOp.move rfl rfl) ?_
        refine ROps.l (r := AV.i64 x5) rfl rfl rfl (LOp.eqr (LOp.add rfl rfl rfl) (congrArg (AV.ik .i64) hx5)) ?_
        refine ROps.l (r := AV.i64 x5) rfl rfl rfl (LOp.assign rfl rfl) ?_
        refine ROps.nil ?_
        refine RunC.wl (τ' := [(0, AV.sl a0.length (a0.map AV.f32)), (1, AV.i64 x5), (5, AV.i64 v2)]) (Γ' := []) ⟨(ALe.refl _), (ALe.refl _), (ALe.refl _), trivial⟩ trivial ?_
        obtain ⟨x6, hx6, h2_⟩ := olet_some h2_
        refine RunC.regionW ?_
        refine ROps.l (r := AV.i64 v2) rfl rfl rfl (LOp.move rfl rfl) ?_
        refine ROps.l (r := AV.i64 x6) rfl rfl rfl (LOp.eqr (LOp.add rfl rfl rfl) (congrArg (AV.ik .i64) hx6)) ?_
        refine ROps.l (r := AV.i64 x6) rfl rfl rfl (LOp.assign rfl rfl) ?_
        refine ROps.nil ?_
        cases Option.some.inj h2_
        exact ⟨_, rfl, ⟨(ALe.refl _), (ALe.refl _), (ALe.refl _), trivial⟩, trivial⟩
    · refine RunC.regionW ?_
      refine ROps.l (r := AV.i64 v2) rfl rfl rfl (LOp.move rfl rfl) ?_
      refine ROps.l (r := AV.sl a0.length (a0.map AV.f32)) rfl rfl rfl (LOp.move rfl rfl) ?_
      refine ROps.l (r := AV.i64 (a0.length : Int)) rfl rfl rfl (LOp.len_sl und22 rfl rfl) ?_
      refine ROps.l (r := AV.b false) rfl rfl rfl (LOp.eqb (LOp.lss rfl rfl rfl) hc1) ?_
      refine ROps.nil ?_
      refine RunC.cond_false rfl rfl ?_
      refine RunC.exit ?_
      cases Option.some.inj h2_
      have hx := ho2 _ rfl
      exact ⟨v1, ⟨(ALe.refl _), trivial⟩, trivial, hx⟩
  · rintro τ4 Γ4 ⟨v7, hw4, hd4, rfl⟩
    refine RunC.wl (τ' := [(1, AV.i64 v7)]) (Γ' := []) hw4 hd4 ?_
    replace h : w_heldFloat32S_k1 v7 = some q0 := h
    unfold w_heldFloat32S_k1 at h
    refine RunC.seq ?_
    refine RunC.regionW ?_
    refine ROps.l (r := AV.i64 v7) rfl rfl rfl (LOp.move rfl rfl) ?_
    refine ROps.l (r := AV.i64 v7) rfl rfl rfl (LOp.assign rfl rfl) ?_
    refine ROps.nil ?_
    refine RunC.ret ?_
    have hq := Option.some.inj h
    subst q0
    exact bodyQ.pure (.inr rfl) rfl (Res.one rfl (RV.tmp rfl))
noncomputable def w_heldMatrix (a0 : Int) (a1 : Int) (a2 : List F) (a3 : Int) : Option (Int) :=
  obind (w_heldFloat32S a2 a3) fun (r1 : Int) =>
  bsel (decide (r1 < 0)) (
    some (-1)) (
    some r1)
theorem w_heldMatrix_ok (a0 : Int) (a1 : Int) (a2 : List F) (a3 : Int) (q0 : Int) (h : w_heldMatrix a0 a1 a2 a3 = some q0) : Ev Try.prog 17 [AV.agg [AV.i64 a0, AV.i64 a1, AV.sl a2.length (a2.map AV.f32)], AV.i64 a3] [] (AV.i64 q0) [] := by
  refine Ev.start Try.func17 rfl rfl 0 (τ := [(0, AV.agg [AV.i64 a0, AV.i64 a1, AV.sl a2.length (a2.map AV.f32)]), (1, AV.i64 a3)]) rfl (Γ' := []) rfl (n := 12) rfl (g := 0) rfl ?_
  unfold w_heldMatrix at h
  refine RunC.seq ?_
  refine RunC.regionW ?_
  refine ROps.d (r := AV.ptr [AV.i64 a0, AV.i64 a1, AV.sl a2.length (a2.map AV.f32)]) (fs := []) (Γ' := []) rfl rfl rfl (TOp.box_s rfl rfl rfl) rfl ?_
  refine ROps.l (r := AV.i64 0) rfl rfl rfl (LOp.assign rfl rfl) ?_
  refine ROps.nil ?_
  refine RunC.seq ?_
  obtain ⟨r1, hf1, h⟩ := obind_some h
  refine RunC.regionW ?_
  refine ROps.l (r := AV.ptr [AV.sl a2.length (a2.map AV.f32)]) rfl rfl rfl (LOp.fap und27 rfl siz22 rfl rfl rfl) ?_
  refine ROps.l (r := AV.sl a2.length (a2.map AV.f32)) rfl rfl rfl (LOp.load1 agg22 rfl rfl) ?_
  refine ROps.l (r := AV.i64 a3) rfl rfl rfl (LOp.move rfl rfl) ?_
  refine ROps.d (r := AV.i64 r1) (fs := []) (Γ' := []) rfl rfl rfl (TOp.callB (CallAs.func ent26 rfl rfl) (Bors.cons (Bor.sl (fun _ => rfl)) (Bors.cons (Bor.pure rfl) Bors.nil)) rfl rfl (w_heldFloat32S_ok a2 a3 r1 hf1)) rfl ?_
  refine ROps.l (r := AV.i64 r1) rfl rfl rfl (LOp.assign rfl rfl) ?_
  refine ROps.nil ?_
  refine RunC.seq ?_
  refine RunC.seq ?_
  rcases bsel_some h with ⟨hc2, h⟩ | ⟨hc2, h⟩
  · refine RunC.regionW ?_
    refine ROps.l (r := AV.i64 r1) rfl rfl rfl (LOp.move rfl rfl) ?_
    refine ROps.l (r := AV.b true) rfl rfl rfl (LOp.eqb (LOp.lss rfl rfl rfl) hc2) ?_
    refine ROps.nil ?_
    refine RunC.cond_true rfl rfl ?_
    refine RunC.seq ?_
    refine RunC.regionW ?_
    refine ROps.l (r := AV.i64 (-1)) rfl rfl rfl (LOp.assign rfl rfl) ?_
    refine ROps.nil ?_
    refine RunC.ret ?_
    have hq := Option.some.inj h
    subst q0
    exact bodyQ.pure (.inr rfl) rfl (Res.one rfl (RV.tmp rfl))
  · refine RunC.regionW ?_
    refine ROps.l (r := AV.i64 r1) rfl rfl rfl (LOp.move rfl rfl) ?_
    refine ROps.l (r := AV.b false) rfl rfl rfl (LOp.eqb (LOp.lss rfl rfl rfl) hc2) ?_
    refine ROps.nil ?_
    refine RunC.cond_false rfl rfl ?_
    refine RunC.skip ?_
    refine RunC.seq ?_
    refine RunC.regionW ?_
    refine ROps.l (r := AV.i64 r1) rfl rfl rfl (LOp.move rfl rfl) ?_
    refine ROps.l (r := AV.i64 r1) rfl rfl rfl (LOp.assign rfl rfl) ?_
    refine ROps.nil ?_
    refine RunC.ret ?_
    have hq := Option.some.inj h
    subst q0
    exact bodyQ.pure (.inr rfl) rfl (Res.one rfl (RV.tmp rfl))
noncomputable def w_heldInt64S_b1 (a0 : List Int) (v1 : Int) (v2 : Int) : Option (LR (Int × Int) (Int) (Int)) :=
  bsel (decide (v2 < (a0.length : Int))) (
    obind (at? a0 v2) fun (e3 : Int) =>
    bsel (!decide (e3 = v1)) (
      some (LR.ret (-1))) (
      olet (IntKind.i64.wrap (v1 + 1)) fun (x4 : Int) =>
      olet (IntKind.i64.wrap (v2 + 1)) fun (x5 : Int) =>
      some (LR.next (x4, x5)))) (
    some (LR.out v1))
noncomputable def w_heldInt64S_s1 (a0 : List Int) : (Int × Int) → Option (LR (Int × Int) (Int) (Int)) := fun s => w_heldInt64S_b1 a0 s.1 s.2
noncomputable def w_heldInt64S_k1 (v6 : Int) : Option (Int) :=
  some v6
noncomputable def w_heldInt64S (a0 : List Int) (a1 : Int) : Option (Int) :=
  obind (loopM (w_heldInt64S_s1 a0) (a1, 0)) fun z => osum z (fun e => w_heldInt64S_k1 e) (fun r => some r)
theorem w_heldInt64S_ok (a0 : List Int) (a1 : Int) (q0 : Int) (h : w_heldInt64S a0 a1 = some q0) : Ev Try.prog 18 [AV.sl a0.length (a0.map AV.i64), AV.i64 a1] [] (AV.i64 q0) [] := by
  refine Ev.start Try.func18 rfl rfl 0 (τ := [(0, AV.sl a0.length (a0.map AV.i64)), (1, AV.i64 a1)]) rfl (Γ' := []) rfl (n := 21) rfl (g := 0) rfl ?_
  unfold w_heldInt64S at h
  refine RunC.seq ?_
  refine RunC.regionW ?_
  refine ROps.l (r := AV.i64 0) rfl rfl rfl (LOp.assign rfl rfl) ?_
  refine ROps.nil ?_
  refine RunC.seq ?_
  refine RunC.seq ?_
  refine RunC.regionW ?_
  refine ROps.l (r := AV.i64 0) rfl rfl rfl (LOp.assign rfl rfl) ?_
  refine ROps.nil ?_
  obtain ⟨z2, hz_2, h⟩ := obind_some h
  refine RunC.cutN (fun τ Γ => ∃ (v6 : Int), WeakLe τ [(1, AV.i64 v6)] ∧ DeadLe Γ [] ∧ z2 = .inl v6) ?_ ?_
  · refine RunC.block (RunC.loop (RunL.loopM (x := z2) (w_heldInt64S_s1 a0) (fun (s : Int × Int) τ Γ => WeakLe τ [(0, AV.sl a0.length (a0.map AV.i64)), (1, AV.i64 s.1), (5, AV.i64 s.2)] ∧ DeadLe Γ []) ?_ _ _ _ hz_2 ⟨⟨(ALe.refl _), (ALe.refl _), (ALe.refl _), trivial⟩, trivial⟩))
    rintro ⟨v1, v2⟩ τ2 Γ2 y2_ ⟨hw2, hd2⟩ h2_ ho2 hr2
    refine RunC.wl (τ' := [(0, AV.sl a0.length (a0.map AV.i64)), (1, AV.i64 v1), (5, AV.i64 v2)]) (Γ' := []) hw2 hd2 ?_
    replace h2_ : w_heldInt64S_b1 a0 v1 v2 = some y2_ := h2_
    unfold w_heldInt64S_b1 at h2_
    refine RunC.seq ?_
    refine RunC.seq ?_
    rcases bsel_some h2_ with ⟨hc1, h2_⟩ | ⟨hc1, h2_⟩
    · refine RunC.regionW ?_
      refine ROps.l (r := AV.i64 v2) rfl rfl rfl (LOp.move rfl rfl) ?_
      refine ROps.l (r := AV.sl a0.length (a0.map AV.i64)) rfl rfl rfl (LOp.move rfl rfl) ?_
      refine ROps.l (r := AV.i64 (a0.length : Int)) rfl rfl rfl (LOp.len_sl und28 rfl rfl) ?_
      refine ROps.l (r := AV.b true) rfl rfl rfl (LOp.eqb (LOp.lss rfl rfl rfl) hc1) ?_
      refine ROps.nil ?_
      refine RunC.cond_true rfl rfl ?_
      refine RunC.skip ?_
      refine RunC.seq ?_
      refine RunC.block ?_
      refine RunC.seq ?_
      refine RunC.seq ?_
      obtain ⟨e3, he2, h2_⟩ := obind_some h2_
      rcases bsel_some h2_ with ⟨hc3, h2_⟩ | ⟨hc3, h2_⟩
      · refine RunC.regionW ?_
        refine ROps.l (r := AV.sl a0.length (a0.map AV.i64)) rfl rfl rfl (LOp.move rfl rfl) ?_
        refine ROps.l (r := AV.i64 v2) rfl rfl rfl (LOp.move rfl rfl) ?_
        refine ROps.l (r := AV.ptr [AV.i64 e3]) rfl rfl rfl (LOp.le (LOp.ix (f := AV.i64) und28 siz2 rfl rfl rfl rfl he2) ALe.ptr) ?_
        refine ROps.l (r := AV.i64 e3) rfl rfl rfl (LOp.load1 agg2 rfl rfl) ?_
        refine ROps.l (r := AV.i64 v1) rfl rfl rfl (LOp.move rfl rfl) ?_
        refine ROps.l (r := AV.b true) rfl rfl rfl (LOp.eqb (LOp.neq rfl rfl rfl) hc3) ?_
        refine ROps.nil ?_
        refine RunC.cond_true rfl rfl ?_
        refine RunC.seq ?_
        refine RunC.regionW ?_
        refine ROps.l (r := AV.i64 (-1)) rfl rfl rfl (LOp.assign rfl rfl) ?_
        refine ROps.nil ?_
        refine RunC.ret ?_
        cases Option.some.inj h2_
        have hx3_ := hr2 _ rfl
        subst hx3_
        have hq := Option.some.inj h
        subst q0
        exact bodyQ.pure (.inr rfl) rfl (Res.one rfl (RV.tmp rfl))
      · refine RunC.regionW ?_
        refine ROps.l (r := AV.sl a0.length (a0.map AV.i64)) rfl rfl rfl (LOp.move rfl rfl) ?_
        refine ROps.l (r := AV.i64 v2) rfl rfl rfl (LOp.move rfl rfl) ?_
        refine ROps.l (r := AV.ptr [AV.i64 e3]) rfl rfl rfl (LOp.le (LOp.ix (f := AV.i64) und28 siz2 rfl rfl rfl rfl he2) ALe.ptr) ?_
        refine ROps.l (r := AV.i64 e3) rfl rfl rfl (LOp.load1 agg2 rfl rfl) ?_
        refine ROps.l (r := AV.i64 v1) rfl rfl rfl (LOp.move rfl rfl) ?_
        refine ROps.l (r := AV.b false) rfl rfl rfl (LOp.eqb (LOp.neq rfl rfl rfl) hc3) ?_
        refine ROps.nil ?_
        refine RunC.cond_false rfl rfl ?_
        refine RunC.skip ?_
        obtain ⟨x4, hx4, h2_⟩ := olet_some h2_
        refine RunC.regionW ?_
        refine ROps.l (r := AV.i64 v1) rfl rfl rfl (LOp.move rfl rfl) ?_
        refine ROps.l (r := AV.i64 x4) rfl rfl rfl (LOp.eqr (LOp.add rfl rfl rfl) (congrArg (AV.ik .i64) hx4)) ?_
        refine ROps.l (r := AV.i64 x4) rfl rfl rfl (LOp.assign rfl rfl) ?_
        refine ROps.nil ?_
        obtain ⟨x5, hx5, h2_⟩ := olet_some h2_
        refine RunC.regionW ?_
        refine ROps.l (r := AV.i64 v2) rfl rfl rfl (LOp.move rfl rfl) ?_
        refine ROps.l (r := AV.i64 x5) rfl rfl rfl (LOp.eqr (LOp.add rfl rfl rfl) (congrArg (AV.ik .i64) hx5)) ?_
        refine ROps.l (r := AV.i64 x5) rfl rfl rfl (LOp.assign rfl rfl) ?_
        refine ROps.nil ?_
        cases Option.some.inj h2_
        exact ⟨_, rfl, ⟨(ALe.refl _), (ALe.refl _), (ALe.refl _), trivial⟩, trivial⟩
    · refine RunC.regionW ?_
      refine ROps.l (r := AV.i64 v2) rfl rfl rfl (LOp.move rfl rfl) ?_
      refine ROps.l (r := AV.sl a0.length (a0.map AV.i64)) rfl rfl rfl (LOp.move rfl rfl) ?_
      refine ROps.l (r := AV.i64 (a0.length : Int)) rfl rfl rfl (LOp.len_sl und28 rfl rfl) ?_
      refine ROps.l (r := AV.b false) rfl rfl rfl (LOp.eqb (LOp.lss rfl rfl rfl) hc1) ?_
      refine ROps.nil ?_
      refine RunC.cond_false rfl rfl ?_
      refine RunC.exit ?_
      cases Option.some.inj h2_
      have hx := ho2 _ rfl
      exact ⟨v1, ⟨(ALe.refl _), trivial⟩, trivial, hx⟩
  · rintro τ4 Γ4 ⟨v6, hw4, hd4, rfl⟩
    refine RunC.wl (τ' := [(1, AV.i64 v6)]) (Γ' := []) hw4 hd4 ?_
    replace h : w_heldInt64S_k1 v6 = some q0 := h
    unfold w_heldInt64S_k1 at h
    refine RunC.seq ?_
    refine RunC.regionW ?_
    refine ROps.l (r := AV.i64 v6) rfl rfl rfl (LOp.move rfl rfl) ?_
    refine ROps.l (r := AV.i64 v6) rfl rfl rfl (LOp.assign rfl rfl) ?_
    refine ROps.nil ?_
    refine RunC.ret ?_
    have hq := Option.some.inj h
    subst q0
    exact bodyQ.pure (.inr rfl) rfl (Res.one rfl (RV.tmp rfl))
noncomputable def w_heldFactor (a0 : Int) (a1 : Int) (a2 : List F) (a3 : List Int) (a4 : Int) : Option (Int) :=
  obind (w_heldMatrix a0 a1 a2 a4) fun (r1 : Int) =>
  bsel (decide (r1 < 0)) (
    some (-1)) (
    obind (w_heldInt64S a3 r1) fun (r2 : Int) =>
    bsel (decide (r2 < 0)) (
      some (-1)) (
      some r2))
theorem w_heldFactor_ok (a0 : Int) (a1 : Int) (a2 : List F) (a3 : List Int) (a4 : Int) (q0 : Int) (h : w_heldFactor a0 a1 a2 a3 a4 = some q0) : Ev Try.prog 31 [AV.agg [AV.i64 a0, AV.i64 a1, AV.sl a2.length (a2.map AV.f32), AV.sl a3.length (a3.map AV.i64)], AV.i64 a4] [] (AV.i64 q0) [] := by
  refine Ev.start Try.func31 rfl rfl 0 (τ := [(0, AV.agg [AV.i64 a0, AV.i64 a1, AV.sl a2.length (a2.map AV.f32), AV.sl a3.length (a3.map AV.i64)]), (1, AV.i64 a4)]) rfl (Γ' := []) rfl (n := 18) rfl (g := 0) rfl ?_
  unfold w_heldFactor at h
  refine RunC.seq ?_
  refine RunC.regionW ?_
  refine ROps.d (r := AV.ptr [AV.i64 a0, AV.i64 a1, AV.sl a2.length (a2.map AV.f32), AV.sl a3.length (a3.map AV.i64)]) (fs := []) (Γ' := []) rfl rfl rfl (TOp.box_s rfl rfl rfl) rfl ?_
  refine ROps.l (r := AV.i64 0) rfl rfl rfl (LOp.assign rfl rfl) ?_
  refine ROps.nil ?_
  refine RunC.seq ?_
  obtain ⟨r1, hf1, h⟩ := obind_some h
  refine RunC.regionW ?_
  refine ROps.l (r := AV.ptr [AV.i64 a0, AV.i64 a1, AV.sl a2.length (a2.map AV.f32), AV.sl a3.length (a3.map AV.i64)]) rfl rfl rfl (LOp.fap und48 rfl siz27 rfl rfl rfl) ?_
  refine ROps.l (r := AV.agg [AV.i64 a0, AV.i64 a1, AV.sl a2.length (a2.map AV.f32)]) rfl rfl rfl (LOp.loadAgg agg27 siz27 rfl rfl rfl rfl) ?_
  refine ROps.l (r := AV.i64 a4) rfl rfl rfl (LOp.move rfl rfl) ?_
  refine ROps.d (r := AV.i64 r1) (fs := []) (Γ' := []) rfl rfl rfl (TOp.callB (CallAs.func ent17 rfl rfl) (Bors.cons (Bor.agg (Bors.cons (Bor.pure rfl) (Bors.cons (Bor.pure rfl) (Bors.cons (Bor.sl (fun _ => rfl)) Bors.nil)))) (Bors.cons (Bor.pure rfl) Bors.nil)) rfl rfl (w_heldMatrix_ok a0 a1 a2 a4 r1 hf1)) rfl ?_
  refine ROps.l (r := AV.i64 r1) rfl rfl rfl (LOp.assign rfl rfl) ?_
  refine ROps.nil ?_
  refine RunC.seq ?_
  refine RunC.seq ?_
  rcases bsel_some h with ⟨hc2, h⟩ | ⟨hc2, h⟩
  · refine RunC.regionW ?_
    refine ROps.l (r := AV.i64 r1) rfl rfl rfl (LOp.move rfl rfl) ?_
    refine ROps.l (r := AV.b true) rfl rfl rfl (LOp.eqb (LOp.lss rfl rfl rfl) hc2) ?_
    refine ROps.nil ?_
    refine RunC.cond_true rfl rfl ?_
    refine RunC.seq ?_
    refine RunC.regionW ?_
    refine ROps.l (r := AV.i64 (-1)) rfl rfl rfl (LOp.assign rfl rfl) ?_
    refine ROps.nil ?_
    refine RunC.ret ?_
    have hq := Option.some.inj h
    subst q0
    exact bodyQ.pure (.inr rfl) rfl (Res.one rfl (RV.tmp rfl))
  · refine RunC.regionW ?_
    refine ROps.l (r := AV.i64 r1) rfl rfl rfl (LOp.move rfl rfl) ?_
    refine ROps.l (r := AV.b false) rfl rfl rfl (LOp.eqb (LOp.lss rfl rfl rfl) hc2) ?_
    refine ROps.nil ?_
    refine RunC.cond_false rfl rfl ?_
    refine RunC.skip ?_
    refine RunC.seq ?_
    obtain ⟨r2, hf3, h⟩ := obind_some h
    refine RunC.regionW ?_
    refine ROps.l (r := AV.ptr [AV.sl a3.length (a3.map AV.i64)]) rfl rfl rfl (LOp.fap und48 rfl siz28 rfl rfl rfl) ?_
    refine ROps.l (r := AV.sl a3.length (a3.map AV.i64)) rfl rfl rfl (LOp.load1 agg28 rfl rfl) ?_
    refine ROps.l (r := AV.i64 r1) rfl rfl rfl (LOp.move rfl rfl) ?_
    refine ROps.d (r := AV.i64 r2) (fs := []) (Γ' := []) rfl rfl rfl (TOp.callB (CallAs.func ent18 rfl rfl) (Bors.cons (Bor.sl (fun _ => rfl)) (Bors.cons (Bor.pure rfl) Bors.nil)) rfl rfl (w_heldInt64S_ok a3 r1 r2 hf3)) rfl ?_
    refine ROps.l (r := AV.i64 r2) rfl rfl rfl (LOp.assign rfl rfl) ?_
    refine ROps.nil ?_
    refine RunC.wl (τ' := [(1, AV.i64 r2)]) (Γ' := []) ⟨(ALe.refl _), trivial⟩ trivial ?_
    refine RunC.seq ?_
    refine RunC.seq ?_
    rcases bsel_some h with ⟨hc4, h⟩ | ⟨hc4, h⟩
    · refine RunC.regionW ?_
      refine ROps.l (r := AV.i64 r2) rfl rfl rfl (LOp.move rfl rfl) ?_
      refine ROps.l (r := AV.b true) rfl rfl rfl (LOp.eqb (LOp.lss rfl rfl rfl) hc4) ?_
      refine ROps.nil ?_
      refine RunC.cond_true rfl rfl ?_
      refine RunC.seq ?_
      refine RunC.regionW ?_
      refine ROps.l (r := AV.i64 (-1)) rfl rfl rfl (LOp.assign rfl rfl) ?_
      refine ROps.nil ?_
      refine RunC.ret ?_
      have hq := Option.some.inj h
      subst q0
      exact bodyQ.pure (.inr rfl) rfl (Res.one rfl (RV.tmp rfl))
    · refine RunC.regionW ?_
      refine ROps.l (r := AV.i64 r2) rfl rfl rfl (LOp.move rfl rfl) ?_
      refine ROps.l (r := AV.b false) rfl rfl rfl (LOp.eqb (LOp.lss rfl rfl rfl) hc4) ?_
      refine ROps.nil ?_
      refine RunC.cond_false rfl rfl ?_
      refine RunC.skip ?_
      refine RunC.seq ?_
      refine RunC.regionW ?_
      refine ROps.l (r := AV.i64 r2) rfl rfl rfl (LOp.move rfl rfl) ?_
      refine ROps.l (r := AV.i64 r2) rfl rfl rfl (LOp.assign rfl rfl) ?_
      refine ROps.nil ?_
      refine RunC.ret ?_
      have hq := Option.some.inj h
      subst q0
      exact bodyQ.pure (.inr rfl) rfl (Res.one rfl (RV.tmp rfl))
noncomputable def w_FnExactFactorRows (a0 : Int) (a1 : Int) (a2 : List F) : Option (Bool) :=
  obind (w_szMatrix a0 a1 a2 1048576) fun (r1 : Int) =>
  bsel (decide (r1 < 0)) (
    some true) (
    obind3 (w_toMatrix a0 a1 a2) fun (r2 : Int) (r3 : Int) (r4 : List F) =>
    obind5 (s_FactorRows r2 r3 r4) fun (r5 : Int) (r6 : Int) (r7 : Bool) (r8 : List F) (r9 : List Int) =>
    obind3 (w_toMatrix a0 a1 a2) fun (r10 : Int) (r11 : Int) (r12 : List F) =>
    obind5 (i_FactorRows r10 r11 r12) fun (r13 : Int) (r14 : Int) (r15 : Bool) (r16 : List F) (r17 : List Int) =>
    obind (w_eqFactor r13 r14 r16 r17 r5 r6 r8 r9) fun (r18 : Bool) =>
    bsel r18 (
      bsel (!(r15 == r7)) (
        some false) (
        obind3 (w_toMatrix a0 a1 a2) fun (r19 : Int) (r20 : Int) (r21 : List F) =>
        obind (w_eqMatrix r10 r11 r12 r19 r20 r21) fun (r22 : Bool) =>
        bsel r22 (
          obind2 (w_markMatrix_02o r10 r11 1 r12) fun (r23 : Int) (r24 : List F) =>
          need (decide (r24.length = r12.length)) <|
          bsel (decide (r23 < 0)) (
            some false) (
            obind (w_eqFactor r13 r14 r16 r17 r5 r6 r8 r9) fun (r25 : Bool) =>
            bsel r25 (
              obind3 (w_markFactor_02o_03o1 r13 r14 1 r16 r17) fun (r26 : Int) (r27 : List F) (r28 : List Int) =>
              need (decide (r27.length = r16.length)) <|
              need (decide (r28.length = r17.length)) <|
              obind (w_heldFactor r13 r14 r27 r28 1) fun (r29 : Int) =>
              bsel (decide (r29 < 0)) (
                some false) (
                bsel (!decide (r29 = r26)) (
                  some false) (
                  obind3 (w_toMatrix a0 a1 a2) fun (r30 : Int) (r31 : Int) (r32 : List F) =>
                  obind5 (i_FactorRows r30 r31 r32) fun (r33 : Int) (r34 : Int) (r35 : Bool) (r36 : List F) (r37 : List Int) =>
                  obind (w_eqFactor r33 r34 r36 r37 r5 r6 r8 r9) fun (r38 : Bool) =>
                  bsel r38 (
                    bsel (!(r35 == r7)) (
                      some false) (
                      obind (w_heldFactor r13 r14 r27 r28 1) fun (r39 : Int) =>
                      bsel (decide (r39 < 0)) (
                        some false) (
                        bsel (!decide (r39 = r26)) (
                          some false) (
                          some true)))) (
                    some false)))) (
              some false))) (
          some false))) (
      some false))
theorem w_FnExactFactorRows_ok (a0 : Int) (a1 : Int) (a2 : List F) (q0 : Bool) (h : w_FnExactFactorRows a0 a1 a2 = some q0) : Ev Try.prog 6 [AV.agg [AV.i64 a0, AV.i64 a1, AV.sl a2.length (a2.map AV.f32)]] [] (AV.b q0) [] := by
  refine Ev.start Try.func6 rfl rfl 10 (τ := [(0, AV.agg [AV.i64 a0, AV.i64 a1, AV.sl a2.length (a2.map AV.f32)])]) rfl (Γ' := [⟨0, none⟩, ⟨0, none⟩, ⟨0, none⟩, ⟨0, none⟩, ⟨0, none⟩, ⟨0, none⟩, ⟨0, none⟩, ⟨0, none⟩, ⟨0, none⟩, ⟨0, none⟩]) rfl (n := 96) rfl (g := 0) rfl ?_
  unfold w_FnExactFactorRows at h
  refine RunC.seq ?_
  refine RunC.regionW ?_
  refine ROps.d (r := AV.ptr [AV.i64 a0, AV.i64 a1, AV.sl a2.length (a2.map AV.f32)]) (fs := []) (Γ' := [⟨0, none⟩, ⟨0, none⟩, ⟨0, none⟩, ⟨0, none⟩, ⟨0, none⟩, ⟨0, none⟩, ⟨0, none⟩, ⟨0, none⟩, ⟨0, none⟩, ⟨0, none⟩]) rfl rfl rfl (TOp.box_s rfl rfl rfl) rfl ?_
  refine ROps.l (r := AV.b false) rfl rfl rfl (LOp.assign rfl rfl) ?_
  refine ROps.nil ?_
  refine RunC.seq ?_
  refine RunC.regionW ?_
  refine ROps.l (r := AV.i64 1048576) rfl rfl rfl (LOp.assign rfl rfl) ?_
  refine ROps.nil ?_
  refine RunC.seq ?_
  obtain ⟨r1, hf1, h⟩ := obind_some h
  refine RunC.regionW ?_
  refine ROps.l (r := AV.agg [AV.i64 a0, AV.i64 a1, AV.sl a2.length (a2.map AV.f32)]) rfl rfl rfl (LOp.loadAgg agg24 siz24 rfl rfl rfl rfl) ?_
  refine ROps.l (r := AV.i64 1048576) rfl rfl rfl (LOp.move rfl rfl) ?_
  refine ROps.d (r := AV.i64 r1) (fs := []) (Γ' := [⟨0, none⟩, ⟨0, none⟩, ⟨0, none⟩, ⟨0, none⟩, ⟨0, none⟩, ⟨0, none⟩, ⟨0, none⟩, ⟨0, none⟩, ⟨0, none⟩, ⟨0, none⟩]) rfl rfl rfl (TOp.callB (CallAs.func ent9 rfl rfl) (Bors.cons (Bor.agg (Bors.cons (Bor.pure rfl) (Bors.cons (Bor.pure rfl) (Bors.cons (Bor.sl (fun _ => rfl)) Bors.nil)))) (Bors.cons (Bor.pure rfl) Bors.nil)) rfl rfl (w_szMatrix_ok a0 a1 a2 1048576 r1 hf1)) rfl ?_
  refine ROps.l (r := AV.i64 r1) rfl rfl rfl (LOp.assign rfl rfl) ?_
  refine ROps.nil ?_
  refine RunC.seq ?_
  refine RunC.seq ?_
  rcases bsel_some h with ⟨hc2, h⟩ | ⟨hc2, h⟩
  · refine RunC.regionW ?_
    refine ROps.l (r := AV.i64 r1) rfl rfl rfl (LOp.move rfl rfl) ?_
    refine ROps.l (r := AV.b true) rfl rfl rfl (LOp.eqb (LOp.lss rfl rfl rfl) hc2) ?_
    refine ROps.nil ?_
    refine RunC.cond_true rfl rfl ?_
    refine RunC.seq ?_
    refine RunC.regionW ?_
    refine ROps.l (r := AV.b true) rfl rfl rfl (LOp.assign rfl rfl) ?_
    refine ROps.nil ?_
    refine RunC.ret ?_
    have hq := Option.some.inj h
    subst q0
    exact bodyQ.pure (.inr rfl) rfl (Res.one rfl (RV.tmp rfl))
  · refine RunC.regionW ?_
    refine ROps.l (r := AV.i64 r1) rfl rfl rfl (LOp.move rfl rfl) ?_
    refine ROps.l (r := AV.b false) rfl rfl rfl (LOp.eqb (LOp.lss rfl rfl rfl) hc2) ?_
    refine ROps.nil ?_
    refine RunC.cond_false rfl rfl ?_
    refine RunC.skip ?_
    refine RunC.seq ?_
    obtain ⟨r2, r3, r4, hf3, h⟩ := obind3_some h
    obtain ⟨r5, r6, r7, r8, r9, hf4, h⟩ := obind5_some h
    refine RunC.regionW ?_
    refine ROps.l (r := AV.agg [AV.i64 a0, AV.i64 a1, AV.sl a2.length (a2.map AV.f32)]) rfl rfl rfl (LOp.loadAgg agg24 siz24 rfl rfl rfl rfl) ?_
    refine ROps.d (r := AV.agg [AV.i64 r2, AV.i64 r3, AV.oref 0 1 0 r4.length]) (fs := [(0, (r4.map AV.f32))]) (Γ' := [⟨1, some (r4.map AV.f32)⟩, ⟨0, none⟩, ⟨0, none⟩, ⟨0, none⟩, ⟨0, none⟩, ⟨0, none⟩, ⟨0, none⟩, ⟨0, none⟩, ⟨0, none⟩, ⟨0, none⟩]) rfl rfl rfl (TOp.callBN (ls := [(r4.map AV.f32)]) [0] (CallAs.func ent11 rfl rfl) (Bors.cons (Bor.agg (Bors.cons (Bor.pure rfl) (Bors.cons (Bor.pure rfl) (Bors.cons (Bor.sl (fun _ => rfl)) Bors.nil)))) Bors.nil) rfl (w_toMatrix_ok a0 a1 a2 r2 r3 r4 hf3) (and_all (lts0_map (f := AV.f32) (fun _ => rfl) _) rfl) (and_all (noss_map (f := AV.f32) (fun _ => rfl) _) rfl) rfl (by decide) (ns_of ⟨⟨_, rfl⟩, trivial⟩)) rfl ?_
    refine ROps.d (r := AV.tup [AV.agg [AV.i64 r5, AV.i64 r6, AV.oref 1 1 0 r8.length, AV.oref 2 1 0 r9.length], AV.b r7]) (fs := [(1, (r8.map AV.f32)), (2, (r9.map AV.i64))]) (Γ' := [⟨1, some (r4.map AV.f32)⟩, ⟨1, some (r8.map AV.f32)⟩, ⟨1, some (r9.map AV.i64)⟩, ⟨0, none⟩, ⟨0, none⟩, ⟨0, none⟩, ⟨0, none⟩, ⟨0, none⟩, ⟨0, none⟩, ⟨0, none⟩]) rfl rfl rfl (TOp.callBN (ls := [(r8.map AV.f32), (r9.map AV.i64)]) [1, 2] (CallAs.func ent27 rfl rfl) (Bors.cons (Bor.agg (Bors.cons (Bor.pure rfl) (Bors.cons (Bor.pure rfl) (Bors.cons (Bor.own (f := AV.f32) (fun _ => rfl) rfl rfl) Bors.nil)))) Bors.nil) rfl (s_FactorRows_ok r2 r3 r4 r5 r6 r7 r8 r9 hf4) (and_all (lts0_map (f := AV.f32) (fun _ => rfl) _) (and_all (lts0_map (f := AV.i64) (fun _ => rfl) _) rfl)) (and_all (noss_map (f := AV.f32) (fun _ => rfl) _) (and_all (noss_map (f := AV.i64) (fun _ => rfl) _) rfl)) rfl (by decide) (ns_of ⟨⟨_, rfl⟩, ⟨_, rfl⟩, trivial⟩)) rfl ?_
    refine ROps.l (r := AV.tup [AV.agg [AV.i64 r5, AV.i64 r6, AV.oref 1 1 0 r8.length, AV.oref 2 1 0 r9.length], AV.b r7]) rfl rfl rfl (LOp.move rfl rfl) ?_
    refine ROps.l (r := AV.agg [AV.i64 r5, AV.i64 r6, AV.oref 1 1 0 r8.length, AV.oref 2 1 0 r9.length]) rfl rfl rfl (LOp.extract rfl rfl rfl) ?_
    refine ROps.l (r := AV.b r7) rfl rfl rfl (LOp.extract rfl rfl rfl) ?_
    refine ROps.d (r := AV.optr 3 1 0) (fs := [(3, [AV.i64 0, AV.i64 0, AV.nilsl, AV.nilsl])]) (Γ' := [⟨1, some (r4.map AV.f32)⟩, ⟨1, some (r8.map AV.f32)⟩, ⟨1, some (r9.map AV.i64)⟩, ⟨1, some [AV.i64 0, AV.i64 0, AV.nilsl, AV.nilsl]⟩, ⟨0, none⟩, ⟨0, none⟩, ⟨0, none⟩, ⟨0, none⟩, ⟨0, none⟩, ⟨0, none⟩]) rfl rfl rfl (TOp.alloc_o (g := ⟨0, none⟩) 3 rfl zer48 zok48 rfl) rfl ?_
    refine ROps.store_le (r := AV.agg [AV.i64 r5, AV.i64 r6, AV.oref 1 1 0 r8.length, AV.oref 2 1 0 r9.length]) (l' := [AV.i64 r5, AV.i64 r6, AV.oref 1 1 0 r8.length, AV.oref 2 1 0 r9.length]) (Γ' := [⟨1, some (r4.map AV.f32)⟩, ⟨1, some (r8.map AV.f32)⟩, ⟨1, some (r9.map AV.i64)⟩, ⟨1, some [AV.i64 r5, AV.i64 r6, AV.oref 1 1 0 r8.length, AV.oref 2 1 0 r9.length]⟩, ⟨0, none⟩, ⟨0, none⟩, ⟨0, none⟩, ⟨0, none⟩, ⟨0, none⟩, ⟨0, none⟩]) rfl siz48 rfl rfl rfl (ALe.refl _) rfl rfl rfl rfl (Nat.le_of_ble_eq_true rfl) rfl rfl ?_
    refine ROps.l (r := AV.b r7) rfl rfl rfl (LOp.assign rfl rfl) ?_
    refine ROps.nil ?_
    refine RunC.wl (τ' := [(1, AV.ptr [AV.i64 a0, AV.i64 a1, AV.sl a2.length (a2.map AV.f32)]), (4, AV.optr 3 1 0), (5, AV.b r7)]) (Γ' := [⟨1, none⟩, ⟨1, some (r8.map AV.f32)⟩, ⟨1, some (r9.map AV.i64)⟩, ⟨1, some [AV.i64 r5, AV.i64 r6, AV.oref 1 1 0 r8.length, AV.oref 2 1 0 r9.length]⟩, ⟨0, none⟩, ⟨0, none⟩, ⟨0, none⟩, ⟨0, none⟩, ⟨0, none⟩, ⟨0, none⟩]) ⟨(ALe.refl _), (ALe.refl _), (ALe.refl _), trivial⟩ ⟨⟨rfl, .inl rfl⟩, ⟨rfl, .inr rfl⟩, ⟨rfl, .inr rfl⟩, ⟨rfl, .inr rfl⟩, ⟨rfl, .inr rfl⟩, ⟨rfl, .inr rfl⟩, ⟨rfl, .inr rfl⟩, ⟨rfl, .inr rfl⟩, ⟨rfl, .inr rfl⟩, ⟨rfl, .inr rfl⟩, trivial⟩ ?_
    refine RunC.seq ?_
    obtain ⟨r10, r11, r12, hf5, h⟩ := obind3_some h
    refine RunC.regionW ?_
    refine ROps.l (r := AV.agg [AV.i64 a0, AV.i64 a1, AV.sl a2.length (a2.map AV.f32)]) rfl rfl rfl (LOp.loadAgg agg24 siz24 rfl rfl rfl rfl) ?_
    refine ROps.d (r := AV.agg [AV.i64 r10, AV.i64 r11, AV.oref 0 2 0 r12.length]) (fs := [(0, (r12.map AV.f32))]) (Γ' := [⟨2, some (r12.map AV.f32)⟩, ⟨1, some (r8.map AV.f32)⟩, ⟨1, some (r9.map AV.i64)⟩, ⟨1, some [AV.i64 r5, AV.i64 r6, AV.oref 1 1 0 r8.length, AV.oref 2 1 0 r9.length]⟩, ⟨0, none⟩, ⟨0, none⟩, ⟨0, none⟩, ⟨0, none⟩, ⟨0, none⟩, ⟨0, none⟩]) rfl rfl rfl (TOp.callBN (ls := [(r12.map AV.f32)]) [0] (CallAs.func ent11 rfl rfl) (Bors.cons (Bor.agg (Bors.cons (Bor.pure rfl) (Bors.cons (Bor.pure rfl) (Bors.cons (Bor.sl (fun _ => rfl)) Bors.nil)))) Bors.nil) rfl (w_toMatrix_ok a0 a1 a2 r10 r11 r12 hf5) (and_all (lts0_map (f := AV.f32) (fun _ => rfl) _) rfl) (and_all (noss_map (f := AV.f32) (fun _ => rfl) _) rfl) rfl (by decide) (ns_of ⟨⟨_, rfl⟩, trivial⟩)) rfl ?_
    refine ROps.d (r := AV.optr 4 1 0) (fs := [(4, [AV.i64 0, AV.i64 0, AV.nilsl])]) (Γ' := [⟨2, some (r12.map AV.f32)⟩, ⟨1, some (r8.map AV.f32)⟩, ⟨1, some (r9.map AV.i64)⟩, ⟨1, some [AV.i64 r5, AV.i64 r6, AV.oref 1 1 0 r8.length, AV.oref 2 1 0 r9.length]⟩, ⟨1, some [AV.i64 0, AV.i64 0, AV.nilsl]⟩, ⟨0, none⟩, ⟨0, none⟩, ⟨0, none⟩, ⟨0, none⟩, ⟨0, none⟩]) rfl rfl rfl (TOp.alloc_o (g := ⟨0, none⟩) 4 rfl zer27 zok27 rfl) rfl ?_
    refine ROps.store_le (r := AV.agg [AV.i64 r10, AV.i64 r11, AV.oref 0 2 0 r12.length]) (l' := [AV.i64 r10, AV.i64 r11, AV.oref 0 2 0 r12.length]) (Γ' := [⟨2, some (r12.map AV.f32)⟩, ⟨1, some (r8.map AV.f32)⟩, ⟨1, some (r9.map AV.i64)⟩, ⟨1, some [AV.i64 r5, AV.i64 r6, AV.oref 1 1 0 r8.length, AV.oref 2 1 0 r9.length]⟩, ⟨1, some [AV.i64 r10, AV.i64 r11, AV.oref 0 2 0 r12.length]⟩, ⟨0, none⟩, ⟨0, none⟩, ⟨0, none⟩, ⟨0, none⟩, ⟨0, none⟩]) rfl siz27 rfl rfl rfl (ALe.refl _) rfl rfl rfl rfl (Nat.le_of_ble_eq_true rfl) rfl rfl ?_
    refine ROps.nil ?_
    refine RunC.seq ?_
    obtain ⟨r13, r14, r15, r16, r17, hf6, h⟩ := obind5_some h
    refine RunC.regionW ?_
    refine ROps.d (r := AV.agg [AV.i64 r10, AV.i64 r11, AV.oref 0 2 0 r12.length]) (fs := []) (Γ' := [⟨2, some (r12.map AV.f32)⟩, ⟨1, some (r8.map AV.f32)⟩, ⟨1, some (r9.map AV.i64)⟩, ⟨1, some [AV.i64 r5, AV.i64 r6, AV.oref 1 1 0 r8.length, AV.oref 2 1 0 r9.length]⟩, ⟨1, some [AV.i64 r10, AV.i64 r11, AV.oref 0 2 0 r12.length]⟩, ⟨0, none⟩, ⟨0, none⟩, ⟨0, none⟩, ⟨0, none⟩, ⟨0, none⟩]) rfl rfl rfl (TOp.loadAgg_o rfl agg27 siz27 rfl rfl rfl rfl) rfl ?_
    refine ROps.d (r := AV.tup [AV.agg [AV.i64 r13, AV.i64 r14, AV.oref 5 1 0 r16.length, AV.oref 6 1 0 r17.length], AV.b r15]) (fs := [(5, (r16.map AV.f32)), (6, (r17.map AV.i64))]) (Γ' := [⟨2, some (r12.map AV.f32)⟩, ⟨1, some (r8.map AV.f32)⟩, ⟨1, some (r9.map AV.i64)⟩, ⟨1, some [AV.i64 r5, AV.i64 r6, AV.oref 1 1 0 r8.length, AV.oref 2 1 0 r9.length]⟩, ⟨1, some [AV.i64 r10, AV.i64 r11, AV.oref 0 2 0 r12.length]⟩, ⟨1, some (r16.map AV.f32)⟩, ⟨1, some (r17.map AV.i64)⟩, ⟨0, none⟩, ⟨0, none⟩, ⟨0, none⟩]) rfl rfl rfl (TOp.callBN (ls := [(r16.map AV.f32), (r17.map AV.i64)]) [5, 6] (CallAs.func ent28 rfl rfl) (Bors.cons (Bor.agg (Bors.cons (Bor.pure rfl) (Bors.cons (Bor.pure rfl) (Bors.cons (Bor.own (f := AV.f32) (fun _ => rfl) rfl rfl) Bors.nil)))) Bors.nil) rfl (i_FactorRows_ok r10 r11 r12 r13 r14 r15 r16 r17 hf6) (and_all (lts0_map (f := AV.f32) (fun _ => rfl) _) (and_all (lts0_map (f := AV.i64) (fun _ => rfl) _) rfl)) (and_all (noss_map (f := AV.f32) (fun _ => rfl) _) (and_all (noss_map (f := AV.i64) (fun _ => rfl) _) rfl)) rfl (by decide) (ns_of ⟨⟨_, rfl⟩, ⟨_, rfl⟩, trivial⟩)) rfl ?_
    refine ROps.l (r := AV.tup [AV.agg [AV.i64 r13, AV.i64 r14, AV.oref 5 1 0 r16.length, AV.oref 6 1 0 r17.length], AV.b r15]) rfl rfl rfl (LOp.move rfl rfl) ?_
    refine ROps.l (r := AV.agg [AV.i64 r13, AV.i64 r14, AV.oref 5 1 0 r16.length, AV.oref 6 1 0 r17.length]) rfl rfl rfl (LOp.extract rfl rfl rfl) ?_
    refine ROps.l (r := AV.b r15) rfl rfl rfl (LOp.extract rfl rfl rfl) ?_
    refine ROps.d (r := AV.optr 7 1 0) (fs := [(7, [AV.i64 0, AV.i64 0, AV.nilsl, AV.nilsl])]) (Γ' := [⟨2, some (r12.map AV.f32)⟩, ⟨1, some (r8.map AV.f32)⟩, ⟨1, some (r9.map AV.i64)⟩, ⟨1, some [AV.i64 r5, AV.i64 r6, AV.oref 1 1 0 r8.length, AV.oref 2 1 0 r9.length]⟩, ⟨1, some [AV.i64 r10, AV.i64 r11, AV.oref 0 2 0 r12.length]⟩, ⟨1, some (r16.map AV.f32)⟩, ⟨1, some (r17.map AV.i64)⟩, ⟨1, some [AV.i64 0, AV.i64 0, AV.nilsl, AV.nilsl]⟩, ⟨0, none⟩, ⟨0, none⟩]) rfl rfl rfl (TOp.alloc_o (g := ⟨0, none⟩) 7 rfl zer48 zok48 rfl) rfl ?_
    refine ROps.store_le (r := AV.agg [AV.i64 r13, AV.i64 r14, AV.oref 5 1 0 r16.length, AV.oref 6 1 0 r17.length]) (l' := [AV.i64 r13, AV.i64 r14, AV.oref 5 1 0 r16.length, AV.oref 6 1 0 r17.length]) (Γ' := [⟨2, some (r12.map AV.f32)⟩, ⟨1, some (r8.map AV.f32)⟩, ⟨1, some (r9.map AV.i64)⟩, ⟨1, some [AV.i64 r5, AV.i64 r6, AV.oref 1 1 0 r8.length, AV.oref 2 1 0 r9.length]⟩, ⟨1, some [AV.i64 r10, AV.i64 r11, AV.oref 0 2 0 r12.length]⟩, ⟨1, some (r16.map AV.f32)⟩, ⟨1, some (r17.map AV.i64)⟩, ⟨1, some [AV.i64 r13, AV.i64 r14, AV.oref 5 1 0 r16.length, AV.oref 6 1 0 r17.length]⟩, ⟨0, none⟩, ⟨0, none⟩]) rfl siz48 rfl rfl rfl (ALe.refl _) rfl rfl rfl rfl (Nat.le_of_ble_eq_true rfl) rfl rfl ?_
    refine ROps.l (r := AV.b r15) rfl rfl rfl (LOp.assign rfl rfl) ?_
    refine ROps.nil ?_
    refine RunC.seq ?_
    refine RunC.seq ?_
    obtain ⟨r18, hf7, h⟩ := obind_some h
    rcases bsel_some h with ⟨hc8, h⟩ | ⟨hc8, h⟩
    · rcases bsel_some h with ⟨hc9, h⟩ | ⟨hc9, h⟩
      · refine RunC.regionW ?_
        refine ROps.d (r := AV.agg [AV.i64 r13, AV.i64 r14, AV.oref 5 1 0 r16.length, AV.oref 6 1 0 r17.length]) (fs := []) (Γ' := [⟨2, some (r12.map AV.f32)⟩, ⟨1, some (r8.map AV.f32)⟩, ⟨1, some (r9.map AV.i64)⟩, ⟨1, some [AV.i64 r5, AV.i64 r6, AV.oref 1 1 0 r8.length, AV.oref 2 1 0 r9.length]⟩, ⟨1, some [AV.i64 r10, AV.i64 r11, AV.oref 0 2 0 r12.length]⟩, ⟨1, some (r16.map AV.f32)⟩, ⟨1, some (r17.map AV.i64)⟩, ⟨1, some [AV.i64 r13, AV.i64 r14, AV.oref 5 1 0 r16.length, AV.oref 6 1 0 r17.length]⟩, ⟨0, none⟩, ⟨0, none⟩]) rfl rfl rfl (TOp.loadAgg_o rfl agg48 siz48 rfl rfl rfl rfl) rfl ?_
        refine ROps.d (r := AV.agg [AV.i64 r5, AV.i64 r6, AV.oref 1 1 0 r8.length, AV.oref 2 1 0 r9.length]) (fs := []) (Γ' := [⟨2, some (r12.map AV.f32)⟩, ⟨1, some (r8.map AV.f32)⟩, ⟨1, some (r9.map AV.i64)⟩, ⟨1, some [AV.i64 r5, AV.i64 r6, AV.oref 1 1 0 r8.length, AV.oref 2 1 0 r9.length]⟩, ⟨1, some [AV.i64 r10, AV.i64 r11, AV.oref 0 2 0 r12.length]⟩, ⟨1, some (r16.map AV.f32)⟩, ⟨1, some (r17.map AV.i64)⟩, ⟨1, some [AV.i64 r13, AV.i64 r14, AV.oref 5 1 0 r16.length, AV.oref 6 1 0 r17.length]⟩, ⟨0, none⟩, ⟨0, none⟩]) rfl rfl rfl (TOp.loadAgg_o rfl agg48 siz48 rfl rfl rfl rfl) rfl ?_
        refine ROps.d (r := AV.b true) (fs := []) (Γ' := [⟨2, some (r12.map AV.f32)⟩, ⟨1, some (r8.map AV.f32)⟩, ⟨1, some (r9.map AV.i64)⟩, ⟨1, some [AV.i64 r5, AV.i64 r6, AV.oref 1 1 0 r8.length, AV.oref 2 1 0 r9.length]⟩, ⟨1, some [AV.i64 r10, AV.i64 r11, AV.oref 0 2 0 r12.length]⟩, ⟨1, some (r16.map AV.f32)⟩, ⟨1, some (r17.map AV.i64)⟩, ⟨1, some [AV.i64 r13, AV.i64 r14, AV.oref 5 1 0 r16.length, AV.oref 6 1 0 r17.length]⟩, ⟨0, none⟩, ⟨0, none⟩]) rfl rfl rfl (TOp.eqb (TOp.callB (CallAs.func ent29 rfl rfl) (Bors.cons (Bor.agg (Bors.cons (Bor.pure rfl) (Bors.cons (Bor.pure rfl) (Bors.cons (Bor.own (f := AV.f32) (fun _ => rfl) rfl rfl) (Bors.cons (Bor.own (f := AV.i64) (fun _ => rfl) rfl rfl) Bors.nil))))) (Bors.cons (Bor.agg (Bors.cons (Bor.pure rfl) (Bors.cons (Bor.pure rfl) (Bors.cons (Bor.own (f := AV.f32) (fun _ => rfl) rfl rfl) (Bors.cons (Bor.own (f := AV.i64) (fun _ => rfl) rfl rfl) Bors.nil))))) Bors.nil)) rfl rfl (w_eqFactor_ok r13 r14 r16 r17 r5 r6 r8 r9 r18 hf7)) hc8) rfl ?_
        refine ROps.l (r := AV.b false) rfl rfl rfl (LOp.eqb (LOp.not rfl rfl) rfl) ?_
        refine ROps.l (r := AV.b false) rfl rfl rfl (LOp.move rfl rfl) ?_
        refine ROps.l (r := AV.b r15) rfl rfl rfl (LOp.move rfl rfl) ?_
        refine ROps.l (r := AV.b r7) rfl rfl rfl (LOp.move rfl rfl) ?_
        refine ROps.l (r := AV.b true) rfl rfl rfl (LOp.eqb (LOp.neqb pun4 rfl rfl rfl) hc9) ?_
        refine ROps.l (r := AV.b true) rfl rfl rfl (LOp.pick_false rfl rfl rfl) ?_
        refine ROps.nil ?_
        refine RunC.cond_true rfl rfl ?_
        refine RunC.seq ?_
        refine RunC.regionW ?_
        refine ROps.l (r := AV.b false) rfl rfl rfl (LOp.assign rfl rfl) ?_
        refine ROps.nil ?_
        refine RunC.ret ?_
        have hq := Option.some.inj h
        subst q0
        exact bodyQ.pure (.inr rfl) rfl (Res.one rfl (RV.tmp rfl))
      · refine RunC.regionW ?_
        refine ROps.d (r := AV.agg [AV.i64 r13, AV.i64 r14, AV.oref 5 1 0 r16.length, AV.oref 6 1 0 r17.length]) (fs := []) (Γ' := [⟨2, some (r12.map AV.f32)⟩, ⟨1, some (r8.map AV.f32)⟩, ⟨1, some (r9.map AV.i64)⟩, ⟨1, some [AV.i64 r5, AV.i64 r6, AV.oref 1 1 0 r8.length, AV.oref 2 1 0 r9.length]⟩, ⟨1, some [AV.i64 r10, AV.i64 r11, AV.oref 0 2 0 r12.length]⟩, ⟨1, some (r16.map AV.f32)⟩, ⟨1, some (r17.map AV.i64)⟩, ⟨1, some [AV.i64 r13, AV.i64 r14, AV.oref 5 1 0 r16.length, AV.oref 6 1 0 r17.length]⟩, ⟨0, none⟩, ⟨0, none⟩]) rfl rfl rfl (TOp.loadAgg_o rfl agg48 siz48 rfl rfl rfl rfl) rfl ?_
        refine ROps.d (r := AV.agg [AV.i64 r5, AV.i64 r6, AV.oref 1 1 0 r8.length, AV.oref 2 1 0 r9.length]) (fs := []) (Γ' := [⟨2, some (r12.map AV.f32)⟩, ⟨1, some (r8.map AV.f32)⟩, ⟨1, some (r9.map AV.i64)⟩, ⟨1, some [AV.i64 r5, AV.i64 r6, AV.oref 1 1 0 r8.length, AV.oref 2 1 0 r9.length]⟩, ⟨1, some [AV.i64 r10, AV.i64 r11, AV.oref 0 2 0 r12.length]⟩, ⟨1, some (r16.map AV.f32)⟩, ⟨1, some (r17.map AV.i64)⟩, ⟨1, some [AV.i64 r13, AV.i64 r14, AV.oref 5 1 0 r16.length, AV.oref 6 1 0 r17.length]⟩, ⟨0, none⟩, ⟨0, none⟩]) rfl rfl rfl (TOp.loadAgg_o rfl agg48 siz48 rfl rfl rfl rfl) rfl ?_
        refine ROps.d (r := AV.b true) (fs := []) (Γ' := [⟨2, some (r12.map AV.f32)⟩, ⟨1, some (r8.map AV.f32)⟩, ⟨1, some (r9.map AV.i64)⟩, ⟨1, some [AV.i64 r5, AV.i64 r6, AV.oref 1 1 0 r8.length, AV.oref 2 1 0 r9.length]⟩, ⟨1, some [AV.i64 r10, AV.i64 r11, AV.oref 0 2 0 r12.length]⟩, ⟨1, some (r16.map AV.f32)⟩, ⟨1, some (r17.map AV.i64)⟩, ⟨1, some [AV.i64 r13, AV.i64 r14, AV.oref 5 1 0 r16.length, AV.oref 6 1 0 r17.length]⟩, ⟨0, none⟩, ⟨0, none⟩]) rfl rfl rfl (TOp.eqb (TOp.callB (CallAs.func ent29 rfl rfl) (Bors.cons (Bor.agg (Bors.cons (Bor.pure rfl) (Bors.cons (Bor.pure rfl) (Bors.cons (Bor.own (f := AV.f32) (fun _ => rfl) rfl rfl) (Bors.cons (Bor.own (f := AV.i64) (fun _ => rfl) rfl rfl) Bors.nil))))) (Bors.cons (Bor.agg (Bors.cons (Bor.pure rfl) (Bors.cons (Bor.pure rfl) (Bors.cons (Bor.own (f := AV.f32) (fun _ => rfl) rfl rfl) (Bors.cons (Bor.own (f := AV.i64) (fun _ => rfl) rfl rfl) Bors.nil))))) Bors.nil)) rfl rfl (w_eqFactor_ok r13 r14 r16 r17 r5 r6 r8 r9 r18 hf7)) hc8) rfl ?_
        refine ROps.l (r := AV.b false) rfl rfl rfl (LOp.eqb (LOp.not rfl rfl) rfl) ?_
        refine ROps.l (r := AV.b false) rfl rfl rfl (LOp.move rfl rfl) ?_
        refine ROps.l (r := AV.b r15) rfl rfl rfl (LOp.move rfl rfl) ?_
        refine ROps.l (r := AV.b r7) rfl rfl rfl (LOp.move rfl rfl) ?_
        refine ROps.l (r := AV.b false) rfl rfl rfl (LOp.eqb (LOp.neqb pun4 rfl rfl rfl) hc9) ?_
        refine ROps.l (r := AV.b false) rfl rfl rfl (LOp.pick_false rfl rfl rfl) ?_
        refine ROps.nil ?_
        refine RunC.cond_false rfl rfl ?_
        refine RunC.skip ?_
        refine RunC.seq ?_
        refine RunC.seq ?_
        obtain ⟨r19, r20, r21, hf10, h⟩ := obind3_some h
        obtain ⟨r22, hf11, h⟩ := obind_some h
        rcases bsel_some h with ⟨hc12, h⟩ | ⟨hc12, h⟩
        · refine RunC.region_draw (Γ' := [⟨2, some (r12.map AV.f32)⟩, ⟨1, some (r8.map AV.f32)⟩, ⟨1, some (r9.map AV.i64)⟩, ⟨1, some [AV.i64 r5, AV.i64 r6, AV.oref 1 1 0 r8.length, AV.oref 2 1 0 r9.length]⟩, ⟨1, some [AV.i64 r10, AV.i64 r11, AV.oref 0 2 0 r12.length]⟩, ⟨1, some (r16.map AV.f32)⟩, ⟨1, some (r17.map AV.i64)⟩, ⟨1, some [AV.i64 r13, AV.i64 r14, AV.oref 5 1 0 r16.length, AV.oref 6 1 0 r17.length]⟩, ⟨0, none⟩, ⟨0, none⟩]) 5 mixed 
            (TR.d (r := AV.agg [AV.i64 r10, AV.i64 r11, AV.oref 0 2 0 r12.length]) (fs := []) rfl rfl (TOp.loadAgg_o rfl agg27 siz27 rfl rfl rfl rfl) <|
            (TR.l (r := AV.agg [AV.i64 a0, AV.i64 a1, AV.sl a2.length (a2.map AV.f32)]) rfl rfl (LOp.loadAgg agg24 siz24 rfl rfl rfl rfl) <|
            (TR.d (r := AV.agg [AV.i64 r19, AV.i64 r20, AV.sl r21.length (r21.map AV.f32)]) (fs := []) rfl rfl (TOp.callS (CallAs.func ent11 rfl rfl) (ALes.cons (ALe.refl _) ALes.nil) (lts_cons (lt_agg (lts_cons rfl (lts_cons rfl (lts_cons (lt_sl (fun _ => rfl)) lts_nil)))) lts_nil) (lt_agg (lts_cons rfl (lts_cons rfl (lts_cons (lt_sl (fun _ => rfl)) lts_nil)))) (w_toMatrix_ok a0 a1 a2 r19 r20 r21 hf10) (Bor.agg (Bors.cons (Bor.pure rfl) (Bors.cons (Bor.pure rfl) (Bors.cons (Bor.own (f := AV.f32) (fun _ => rfl) rfl rfl) Bors.nil))))) <|
            (TR.d (r := AV.b true) (fs := []) rfl rfl (TOp.eqb (TOp.callB (CallAs.func ent13 rfl rfl) (Bors.cons (Bor.agg (Bors.cons (Bor.pure rfl) (Bors.cons (Bor.pure rfl) (Bors.cons (Bor.own (f := AV.f32) (fun _ => rfl) rfl rfl) Bors.nil)))) (Bors.cons (Bor.agg (Bors.cons (Bor.pure rfl) (Bors.cons (Bor.pure rfl) (Bors.cons (Bor.sl (fun _ => rfl)) Bors.nil)))) Bors.nil)) rfl rfl (w_eqMatrix_ok r10 r11 r12 r19 r20 r21 r22 hf11)) hc12) <|
            (TR.l (r := AV.b false) rfl rfl (LOp.eqb (LOp.not rfl rfl) rfl) <|
            TR.nil))))) rfl (by kernel_rfl) rfl fills_nil rfl ?_
          iterate 5 refine ROps.dropS ?_
          refine ROps.drop0 ?_
          refine ROps.nil ?_
          refine RunC.cond_false rfl rfl ?_
          refine RunC.skip ?_
          refine RunC.seq ?_
          refine RunC.regionW ?_
          refine ROps.l (r := AV.i64 1) rfl rfl rfl (LOp.assign rfl rfl) ?_
          refine ROps.nil ?_
          refine RunC.seq ?_
          obtain ⟨r23, r24, hf13, h⟩ := obind2_some h
          obtain ⟨hn14, h⟩ := need_some h
          refine RunC.regionW ?_
          refine ROps.d (r := AV.agg [AV.i64 r10, AV.i64 r11, AV.oref 0 2 0 r12.length]) (fs := []) (Γ' := [⟨2, some (r12.map AV.f32)⟩, ⟨1, some (r8.map AV.f32)⟩, ⟨1, some (r9.map AV.i64)⟩, ⟨1, some [AV.i64 r5, AV.i64 r6, AV.oref 1 1 0 r8.length, AV.oref 2 1 0 r9.length]⟩, ⟨1, some [AV.i64 r10, AV.i64 r11, AV.oref 0 2 0 r12.length]⟩, ⟨1, some (r16.map AV.f32)⟩, ⟨1, some (r17.map AV.i64)⟩, ⟨1, some [AV.i64 r13, AV.i64 r14, AV.oref 5 1 0 r16.length, AV.oref 6 1 0 r17.length]⟩, ⟨0, none⟩, ⟨0, none⟩]) rfl rfl rfl (TOp.loadAgg_o rfl agg27 siz27 rfl rfl rfl rfl) rfl ?_
          refine ROps.l (r := AV.i64 1) rfl rfl rfl (LOp.move rfl rfl) ?_
          refine ROps.callO (A := [AV.agg [AV.i64 r10, AV.i64 r11, AV.oref 0 2 0 r12.length], AV.i64 1]) (args := [AV.agg [AV.i64 r10, AV.i64 r11, AV.oref 0 0 0 r12.length], AV.i64 1]) (Γc := [⟨0, some (r12.map AV.f32)⟩]) (Γc' := [⟨0, some (r24.map AV.f32)⟩]) (r' := AV.i64 r23) (Γ' := [⟨2, some (r24.map AV.f32)⟩, ⟨1, some (r8.map AV.f32)⟩, ⟨1, some (r9.map AV.i64)⟩, ⟨1, some [AV.i64 r5, AV.i64 r6, AV.oref 1 1 0 r8.length, AV.oref 2 1 0 r9.length]⟩, ⟨1, some [AV.i64 r10, AV.i64 r11, AV.oref 0 2 0 r12.length]⟩, ⟨1, some (r16.map AV.f32)⟩, ⟨1, some (r17.map AV.i64)⟩, ⟨1, some [AV.i64 r13, AV.i64 r14, AV.oref 5 1 0 r16.length, AV.oref 6 1 0 r17.length]⟩, ⟨0, none⟩, ⟨0, none⟩]) [(0, 2)] [] rfl (CallAs.func ent15 rfl rfl) rfl rfl (SelOk.of (show List.Nodup [0] from by decide) (SelL.arr0 (f := AV.f32) (fun _ => rfl) rfl trivial)) (live_of ⟨⟨_, _, rfl⟩, trivial⟩) (by simp [AV.ren, AV.rens, sigma, rens_f32, rens_f64, rens_i64, rens_ik, rens_str, rens_cp]) rfl (w_markMatrix_02o_ok r10 r11 1 r12 r23 r24 hf13) rfl (news_of trivial) (show List.Nodup [0] from by decide) (by simp [AV.ren, AV.rens, sigma, of_decide_eq_true hn14]) (by simp [backOb, sigma, AV.ren, AV.rens, rens_f32, rens_f64, rens_i64, rens_ik, rens_str, rens_cp]) ?_
          refine ROps.l (r := AV.i64 r23) rfl rfl rfl (LOp.assign rfl rfl) ?_
          refine ROps.nil ?_
          refine RunC.wl (τ' := [(1, AV.ptr [AV.i64 a0, AV.i64 a1, AV.sl a2.length (a2.map AV.f32)]), (4, AV.optr 3 1 0), (5, AV.b r7), (7, AV.optr 7 1 0), (8, AV.b r15), (9, AV.i64 r23)]) (Γ' := [⟨2, none⟩, ⟨1, some (r8.map AV.f32)⟩, ⟨1, some (r9.map AV.i64)⟩, ⟨1, some [AV.i64 r5, AV.i64 r6, AV.oref 1 1 0 r8.length, AV.oref 2 1 0 r9.length]⟩, ⟨1, none⟩, ⟨1, some (r16.map AV.f32)⟩, ⟨1, some (r17.map AV.i64)⟩, ⟨1, some [AV.i64 r13, AV.i64 r14, AV.oref 5 1 0 r16.length, AV.oref 6 1 0 r17.length]⟩, ⟨0, none⟩, ⟨0, none⟩]) ⟨(ALe.refl _), (ALe.refl _), (ALe.refl _), (ALe.refl _), (ALe.refl _), (ALe.refl _), trivial⟩ ⟨⟨rfl, .inl rfl⟩, ⟨rfl, .inr rfl⟩, ⟨rfl, .inr rfl⟩, ⟨rfl, .inr rfl⟩, ⟨rfl, .inl rfl⟩, ⟨rfl, .inr rfl⟩, ⟨rfl, .inr rfl⟩, ⟨rfl, .inr rfl⟩, ⟨rfl, .inr rfl⟩, ⟨rfl, .inr rfl⟩, trivial⟩ ?_
          refine RunC.seq ?_
          refine RunC.seq ?_
          rcases bsel_some h with ⟨hc15, h⟩ | ⟨hc15, h⟩
          · refine RunC.regionW ?_
            refine ROps.l (r := AV.i64 r23) rfl rfl rfl (LOp.move rfl rfl) ?_
            refine ROps.l (r := AV.b true) rfl rfl rfl (LOp.eqb (LOp.lss rfl rfl rfl) hc15) ?_
            refine ROps.l (r := AV.b true) rfl rfl rfl (LOp.move rfl rfl) ?_
            refine ROps.s rfl rfl rfl ?_
            refine ROps.s rfl rfl rfl ?_
            refine ROps.s rfl rfl rfl ?_
            refine ROps.s rfl rfl rfl ?_
            refine ROps.l (r := AV.b true) rfl rfl rfl (LOp.pick_true rfl rfl rfl) ?_
            refine ROps.l (r := AV.b true) rfl rfl rfl (LOp.move rfl rfl) ?_
            refine ROps.s rfl rfl rfl ?_
            refine ROps.s rfl rfl rfl ?_
            refine ROps.s rfl rfl rfl ?_
            refine ROps.l (r := AV.b true) rfl rfl rfl (LOp.pick_true rfl rfl rfl) ?_
            refine ROps.nil ?_
            refine RunC.cond_true rfl rfl ?_
            refine RunC.seq ?_
            refine RunC.regionW ?_
            refine ROps.l (r := AV.b false) rfl rfl rfl (LOp.assign rfl rfl) ?_
            refine ROps.nil ?_
            refine RunC.ret ?_
            have hq := Option.some.inj h
            subst q0
            exact bodyQ.pure (.inr rfl) rfl (Res.one rfl (RV.tmp rfl))
          · obtain ⟨r25, hf16, h⟩ := obind_some h
            rcases bsel_some h with ⟨hc17, h⟩ | ⟨hc17, h⟩
            · refine RunC.regionW ?_
              refine ROps.l (r := AV.i64 r23) rfl rfl rfl (LOp.move rfl rfl) ?_
              refine ROps.l (r := AV.b false) rfl rfl rfl (LOp.eqb (LOp.lss rfl rfl rfl) hc15) ?_
              refine ROps.l (r := AV.b false) rfl rfl rfl (LOp.move rfl rfl) ?_
              refine ROps.d (r := AV.agg [AV.i64 r13, AV.i64 r14, AV.oref 5 1 0 r16.length, AV.oref 6 1 0 r17.length]) (fs := []) (Γ' := [⟨2, none⟩, ⟨1, some (r8.map AV.f32)⟩, ⟨1, some (r9.map AV.i64)⟩, ⟨1, some [AV.i64 r5, AV.i64 r6, AV.oref 1 1 0 r8.length, AV.oref 2 1 0 r9.length]⟩, ⟨1, none⟩, ⟨1, some (r16.map AV.f32)⟩, ⟨1, some (r17.map AV.i64)⟩, ⟨1, some [AV.i64 r13, AV.i64 r14, AV.oref 5 1 0 r16.length, AV.oref 6 1 0 r17.length]⟩, ⟨0, none⟩, ⟨0, none⟩]) rfl rfl rfl (TOp.loadAgg_o rfl agg48 siz48 rfl rfl rfl rfl) rfl ?_
              refine ROps.d (r := AV.agg [AV.i64 r5, AV.i64 r6, AV.oref 1 1 0 r8.length, AV.oref 2 1 0 r9.length]) (fs := []) (Γ' := [⟨2, none⟩, ⟨1, some (r8.map AV.f32)⟩, ⟨1, some (r9.map AV.i64)⟩, ⟨1, some [AV.i64 r5, AV.i64 r6, AV.oref 1 1 0 r8.length, AV.oref 2 1 0 r9.length]⟩, ⟨1, none⟩, ⟨1, some (r16.map AV.f32)⟩, ⟨1, some (r17.map AV.i64)⟩, ⟨1, some [AV.i64 r13, AV.i64 r14, AV.oref 5 1 0 r16.length, AV.oref 6 1 0 r17.length]⟩, ⟨0, none⟩, ⟨0, none⟩]) rfl rfl rfl (TOp.loadAgg_o rfl agg48 siz48 rfl rfl rfl rfl) rfl ?_
              refine ROps.d (r := AV.b true) (fs := []) (Γ' := [⟨2, none⟩, ⟨1, some (r8.map AV.f32)⟩, ⟨1, some (r9.map AV.i64)⟩, ⟨1, some [AV.i64 r5, AV.i64 r6, AV.oref 1 1 0 r8.length, AV.oref 2 1 0 r9.length]⟩, ⟨1, none⟩, ⟨1, some (r16.map AV.f32)⟩, ⟨1, some (r17.map AV.i64)⟩, ⟨1, some [AV.i64 r13, AV.i64 r14, AV.oref 5 1 0 r16.length, AV.oref 6 1 0 r17.length]⟩, ⟨0, none⟩, ⟨0, none⟩]) rfl rfl rfl (TOp.eqb (TOp.callB (CallAs.func ent29 rfl rfl) (Bors.cons (Bor.agg (Bors.cons (Bor.pure rfl) (Bors.cons (Bor.pure rfl) (Bors.cons (Bor.own (f := AV.f32) (fun _ => rfl) rfl rfl) (Bors.cons (Bor.own (f := AV.i64) (fun _ => rfl) rfl rfl) Bors.nil))))) (Bors.cons (Bor.agg (Bors.cons (Bor.pure rfl) (Bors.cons (Bor.pure rfl) (Bors.cons (Bor.own (f := AV.f32) (fun _ => rfl) rfl rfl) (Bors.cons (Bor.own (f := AV.i64) (fun _ => rfl) rfl rfl) Bors.nil))))) Bors.nil)) rfl rfl (w_eqFactor_ok r13 r14 r16 r17 r5 r6 r8 r9 r25 hf16)) hc17) rfl ?_
              refine ROps.l (r := AV.b false) rfl rfl rfl (LOp.eqb (LOp.not rfl rfl) rfl) ?_
              refine ROps.l (r := AV.b false) rfl rfl rfl (LOp.pick_false rfl rfl rfl) ?_
              refine ROps.l (r := AV.b false) rfl rfl rfl (LOp.move rfl rfl) ?_
              refine ROps.l (r := AV.b r15) rfl rfl rfl (LOp.move rfl rfl) ?_
              refine ROps.l (r := AV.b r7) rfl rfl rfl (LOp.move rfl rfl) ?_
              refine ROps.l (r := AV.b false) rfl rfl rfl (LOp.eqb (LOp.neqb pun4 rfl rfl rfl) hc9) ?_
              refine ROps.l (r := AV.b false) rfl rfl rfl (LOp.pick_false rfl rfl rfl) ?_
              refine ROps.nil ?_
              refine RunC.cond_false rfl rfl ?_
              refine RunC.skip ?_
              refine RunC.seq ?_
              refine RunC.regionW ?_
              refine ROps.l (r := AV.i64 1) rfl rfl rfl (LOp.assign rfl rfl) ?_
              refine ROps.nil ?_
              refine RunC.seq ?_
              obtain ⟨r26, r27, r28, hf18, h⟩ := obind3_some h
              obtain ⟨hn19, h⟩ := need_some h
              obtain ⟨hn20, h⟩ := need_some h
              refine RunC.regionW ?_
              refine ROps.d (r := AV.agg [AV.i64 r13, AV.i64 r14, AV.oref 5 1 0 r16.length, AV.oref 6 1 0 r17.length]) (fs := []) (Γ' := [⟨2, none⟩, ⟨1, some (r8.map AV.f32)⟩, ⟨1, some (r9.map AV.i64)⟩, ⟨1, some [AV.i64 r5, AV.i64 r6, AV.oref 1 1 0 r8.length, AV.oref 2 1 0 r9.length]⟩, ⟨1, none⟩, ⟨1, some (r16.map AV.f32)⟩, ⟨1, some (r17.map AV.i64)⟩, ⟨1, some [AV.i64 r13, AV.i64 r14, AV.oref 5 1 0 r16.length, AV.oref 6 1 0 r17.length]⟩, ⟨0, none⟩, ⟨0, none⟩]) rfl rfl rfl (TOp.loadAgg_o rfl agg48 siz48 rfl rfl rfl rfl) rfl ?_
              refine ROps.l (r := AV.i64 1) rfl rfl rfl (LOp.move rfl rfl) ?_
              refine ROps.callO (A := [AV.agg [AV.i64 r13, AV.i64 r14, AV.oref 5 1 0 r16.length, AV.oref 6 1 0 r17.length], AV.i64 1]) (args := [AV.agg [AV.i64 r13, AV.i64 r14, AV.oref 0 0 0 r16.length, AV.oref 1 0 0 r17.length], AV.i64 1]) (Γc := [⟨0, some (r16.map AV.f32)⟩, ⟨0, some (r17.map AV.i64)⟩]) (Γc' := [⟨0, some (r27.map AV.f32)⟩, ⟨0, some (r28.map AV.i64)⟩]) (r' := AV.i64 r26) (Γ' := [⟨2, none⟩, ⟨1, some (r8.map AV.f32)⟩, ⟨1, some (r9.map AV.i64)⟩, ⟨1, some [AV.i64 r5, AV.i64 r6, AV.oref 1 1 0 r8.length, AV.oref 2 1 0 r9.length]⟩, ⟨1, none⟩, ⟨1, some (r27.map AV.f32)⟩, ⟨1, some (r28.map AV.i64)⟩, ⟨1, some [AV.i64 r13, AV.i64 r14, AV.oref 5 1 0 r16.length, AV.oref 6 1 0 r17.length]⟩, ⟨0, none⟩, ⟨0, none⟩]) [(5, 1), (6, 1)] [] rfl (CallAs.func ent30 rfl rfl) rfl rfl (SelOk.of (show List.Nodup [5, 6] from by decide) (SelL.arr0 (f := AV.f32) (fun _ => rfl) rfl (SelL.arr0 (f := AV.i64) (fun _ => rfl) rfl trivial))) (live_of ⟨⟨_, _, rfl⟩, ⟨_, _, rfl⟩, trivial⟩) (by simp [AV.ren, AV.rens, sigma, rens_f32, rens_f64, rens_i64, rens_ik, rens_str, rens_cp]) rfl (w_markFactor_02o_03o1_ok r13 r14 1 r16 r17 r26 r27 r28 hf18) rfl (news_of trivial) (show List.Nodup [5, 6] from by decide) (by simp [AV.ren, AV.rens, sigma, of_decide_eq_true hn19, of_decide_eq_true hn20]) (by simp [backOb, sigma, AV.ren, AV.rens, rens_f32, rens_f64, rens_i64, rens_ik, rens_str, rens_cp]) ?_
              refine ROps.l (r := AV.i64 r26) rfl rfl rfl (LOp.assign rfl rfl) ?_
              refine ROps.nil ?_
              refine RunC.wl (τ' := [(1, AV.ptr [AV.i64 a0, AV.i64 a1, AV.sl a2.length (a2.map AV.f32)]), (4, AV.optr 3 1 0), (5, AV.b r7), (7, AV.optr 7 1 0), (10, AV.i64 r26)]) (Γ' := [⟨2, none⟩, ⟨1, some (r8.map AV.f32)⟩, ⟨1, some (r9.map AV.i64)⟩, ⟨1, some [AV.i64 r5, AV.i64 r6, AV.oref 1 1 0 r8.length, AV.oref 2 1 0 r9.length]⟩, ⟨1, none⟩, ⟨1, some (r27.map AV.f32)⟩, ⟨1, some (r28.map AV.i64)⟩, ⟨1, some [AV.i64 r13, AV.i64 r14, AV.oref 5 1 0 r16.length, AV.oref 6 1 0 r17.length]⟩, ⟨0, none⟩, ⟨0, none⟩]) ⟨(ALe.refl _), (ALe.refl _), (ALe.refl _), (ALe.refl _), (ALe.refl _), trivial⟩ ⟨⟨rfl, .inl rfl⟩, ⟨rfl, .inr rfl⟩, ⟨rfl, .inr rfl⟩, ⟨rfl, .inr rfl⟩, ⟨rfl, .inl rfl⟩, ⟨rfl, .inr rfl⟩, ⟨rfl, .inr rfl⟩, ⟨rfl, .inr rfl⟩, ⟨rfl, .inr rfl⟩, ⟨rfl, .inr rfl⟩, trivial⟩ ?_
              refine RunC.seq ?_
              refine RunC.regionW ?_
              refine ROps.l (r := AV.i64 1) rfl rfl rfl (LOp.assign rfl rfl) ?_
              refine ROps.nil ?_
              refine RunC.seq ?_
              obtain ⟨r29, hf21, h⟩ := obind_some h
              refine RunC.regionW ?_
              refine ROps.d (r := AV.agg [AV.i64 r13, AV.i64 r14, AV.oref 5 1 0 r16.length, AV.oref 6 1 0 r17.length]) (fs := []) (Γ' := [⟨2, none⟩, ⟨1, some (r8.map AV.f32)⟩, ⟨1, some (r9.map AV.i64)⟩, ⟨1, some [AV.i64 r5, AV.i64 r6, AV.oref 1 1 0 r8.length, AV.oref 2 1 0 r9.length]⟩, ⟨1, none⟩, ⟨1, some (r27.map AV.f32)⟩, ⟨1, some (r28.map AV.i64)⟩, ⟨1, some [AV.i64 r13, AV.i64 r14, AV.oref 5 1 0 r16.length, AV.oref 6 1 0 r17.length]⟩, ⟨0, none⟩, ⟨0, none⟩]) rfl rfl rfl (TOp.loadAgg_o rfl agg48 siz48 rfl rfl rfl rfl) rfl ?_
              refine ROps.l (r := AV.i64 1) rfl rfl rfl (LOp.move rfl rfl) ?_
              refine ROps.d (r := AV.i64 r29) (fs := []) (Γ' := [⟨2, none⟩, ⟨1, some (r8.map AV.f32)⟩, ⟨1, some (r9.map AV.i64)⟩, ⟨1, some [AV.i64 r5, AV.i64 r6, AV.oref 1 1 0 r8.length, AV.oref 2 1 0 r9.length]⟩, ⟨1, none⟩, ⟨1, some (r27.map AV.f32)⟩, ⟨1, some (r28.map AV.i64)⟩, ⟨1, some [AV.i64 r13, AV.i64 r14, AV.oref 5 1 0 r16.length, AV.oref 6 1 0 r17.length]⟩, ⟨0, none⟩, ⟨0, none⟩]) rfl rfl rfl (TOp.callB (CallAs.func ent31 rfl rfl) (Bors.cons (Bor.agg (Bors.cons (Bor.pure rfl) (Bors.cons (Bor.pure rfl) (Bors.cons (Bor.own (f := AV.f32) (fun _ => rfl) rfl (of_decide_eq_true hn19)) (Bors.cons (Bor.own (f := AV.i64) (fun _ => rfl) rfl (of_decide_eq_true hn20)) Bors.nil))))) (Bors.cons (Bor.pure rfl) Bors.nil)) rfl rfl (w_heldFactor_ok r13 r14 r27 r28 1 r29 hf21)) rfl ?_
              refine ROps.l (r := AV.i64 r29) rfl rfl rfl (LOp.assign rfl rfl) ?_
              refine ROps.nil ?_
              refine RunC.seq ?_
              refine RunC.seq ?_
              rcases bsel_some h with ⟨hc22, h⟩ | ⟨hc22, h⟩
              · refine RunC.regionW ?_
                refine ROps.l (r := AV.i64 r29) rfl rfl rfl (LOp.move rfl rfl) ?_
                refine ROps.l (r := AV.b true) rfl rfl rfl (LOp.eqb (LOp.lss rfl rfl rfl) hc22) ?_
                refine ROps.nil ?_
                refine RunC.cond_true rfl rfl ?_
                refine RunC.seq ?_
                refine RunC.regionW ?_
                refine ROps.l (r := AV.b false) rfl rfl rfl (LOp.assign rfl rfl) ?_
                refine ROps.nil ?_
                refine RunC.ret ?_
                have hq := Option.some.inj h
                subst q0
                exact bodyQ.pure (.inr rfl) rfl (Res.one rfl (RV.tmp rfl))
              · refine RunC.regionW ?_
                refine ROps.l (r := AV.i64 r29) rfl rfl rfl (LOp.move rfl rfl) ?_
                refine ROps.l (r := AV.b false) rfl rfl rfl (LOp.eqb (LOp.lss rfl rfl rfl) hc22) ?_
                refine ROps.nil ?_
                refine RunC.cond_false rfl rfl ?_
                refine RunC.skip ?_
                refine RunC.seq ?_
                refine RunC.seq ?_
                rcases bsel_some h with ⟨hc23, h⟩ | ⟨hc23, h⟩
                · refine RunC.regionW ?_
                  refine ROps.l (r := AV.i64 r29) rfl rfl rfl (LOp.move rfl rfl) ?_
                  refine ROps.l (r := AV.i64 r26) rfl rfl rfl (LOp.move rfl rfl) ?_
                  refine ROps.l (r := AV.b true) rfl rfl rfl (LOp.eqb (LOp.neq rfl rfl rfl) hc23) ?_
                  refine ROps.nil ?_
                  refine RunC.cond_true rfl rfl ?_
                  refine RunC.seq ?_
                  refine RunC.regionW ?_
                  refine ROps.l (r := AV.b false) rfl rfl rfl (LOp.assign rfl rfl) ?_
                  refine ROps.nil ?_
                  refine RunC.ret ?_
                  have hq := Option.some.inj h
                  subst q0
                  exact bodyQ.pure (.inr rfl) rfl (Res.one rfl (RV.tmp rfl))
                · refine RunC.regionW ?_
                  refine ROps.l (r := AV.i64 r29) rfl rfl rfl (LOp.move rfl rfl) ?_
                  refine ROps.l (r := AV.i64 r26) rfl rfl rfl (LOp.move rfl rfl) ?_
                  refine ROps.l (r := AV.b false) rfl rfl rfl (LOp.eqb (LOp.neq rfl rfl rfl) hc23) ?_
                  refine ROps.nil ?_
                  refine RunC.cond_false rfl rfl ?_
                  refine RunC.skip ?_
                  refine RunC.seq ?_
                  obtain ⟨r30, r31, r32, hf24, h⟩ := obind3_some h
                  obtain ⟨r33, r34, r35, r36, r37, hf25, h⟩ := obind5_some h
                  refine RunC.regionW ?_
                  refine ROps.l (r := AV.agg [AV.i64 a0, AV.i64 a1, AV.sl a2.length (a2.map AV.f32)]) rfl rfl rfl (LOp.loadAgg agg24 siz24 rfl rfl rfl rfl) ?_
                  refine ROps.d (r := AV.agg [AV.i64 r30, AV.i64 r31, AV.oref 0 3 0 r32.length]) (fs := [(0, (r32.map AV.f32))]) (Γ' := [⟨3, some (r32.map AV.f32)⟩, ⟨1, some (r8.map AV.f32)⟩, ⟨1, some (r9.map AV.i64)⟩, ⟨1, some [AV.i64 r5, AV.i64 r6, AV.oref 1 1 0 r8.length, AV.oref 2 1 0 r9.length]⟩, ⟨1, none⟩, ⟨1, some (r27.map AV.f32)⟩, ⟨1, some (r28.map AV.i64)⟩, ⟨1, some [AV.i64 r13, AV.i64 r14, AV.oref 5 1 0 r16.length, AV.oref 6 1 0 r17.length]⟩, ⟨0, none⟩, ⟨0, none⟩]) rfl rfl rfl (TOp.callBN (ls := [(r32.map AV.f32)]) [0] (CallAs.func ent11 rfl rfl) (Bors.cons (Bor.agg (Bors.cons (Bor.pure rfl) (Bors.cons (Bor.pure rfl) (Bors.cons (Bor.sl (fun _ => rfl)) Bors.nil)))) Bors.nil) rfl (w_toMatrix_ok a0 a1 a2 r30 r31 r32 hf24) (and_all (lts0_map (f := AV.f32) (fun _ => rfl) _) rfl) (and_all (noss_map (f := AV.f32) (fun _ => rfl) _) rfl) rfl (by decide) (ns_of ⟨⟨_, rfl⟩, trivial⟩)) rfl ?_
                  refine ROps.d (r := AV.tup [AV.agg [AV.i64 r33, AV.i64 r34, AV.oref 4 2 0 r36.length, AV.oref 8 1 0 r37.length], AV.b r35]) (fs := [(4, (r36.map AV.f32)), (8, (r37.map AV.i64))]) (Γ' := [⟨3, some (r32.map AV.f32)⟩, ⟨1, some (r8.map AV.f32)⟩, ⟨1, some (r9.map AV.i64)⟩, ⟨1, some [AV.i64 r5, AV.i64 r6, AV.oref 1 1 0 r8.length, AV.oref 2 1 0 r9.length]⟩, ⟨2, some (r36.map AV.f32)⟩, ⟨1, some (r27.map AV.f32)⟩, ⟨1, some (r28.map AV.i64)⟩, ⟨1, some [AV.i64 r13, AV.i64 r14, AV.oref 5 1 0 r16.length, AV.oref 6 1 0 r17.length]⟩, ⟨1, some (r37.map AV.i64)⟩, ⟨0, none⟩]) rfl rfl rfl (TOp.callBN (ls := [(r36.map AV.f32), (r37.map AV.i64)]) [4, 8] (CallAs.func ent28 rfl rfl) (Bors.cons (Bor.agg (Bors.cons (Bor.pure rfl) (Bors.cons (Bor.pure rfl) (Bors.cons (Bor.own (f := AV.f32) (fun _ => rfl) rfl rfl) Bors.nil)))) Bors.nil) rfl (i_FactorRows_ok r30 r31 r32 r33 r34 r35 r36 r37 hf25) (and_all (lts0_map (f := AV.f32) (fun _ => rfl) _) (and_all (lts0_map (f := AV.i64) (fun _ => rfl) _) rfl)) (and_all (noss_map (f := AV.f32) (fun _ => rfl) _) (and_all (noss_map (f := AV.i64) (fun _ => rfl) _) rfl)) rfl (by decide) (ns_of ⟨⟨_, rfl⟩, ⟨_, rfl⟩, trivial⟩)) rfl ?_
                  refine ROps.l (r := AV.tup [AV.agg [AV.i64 r33, AV.i64 r34, AV.oref 4 2 0 r36.length, AV.oref 8 1 0 r37.length], AV.b r35]) rfl rfl rfl (LOp.move rfl rfl) ?_
                  refine ROps.l (r := AV.agg [AV.i64 r33, AV.i64 r34, AV.oref 4 2 0 r36.length, AV.oref 8 1 0 r37.length]) rfl rfl rfl (LOp.extract rfl rfl rfl) ?_
                  refine ROps.l (r := AV.b r35) rfl rfl rfl (LOp.extract rfl rfl rfl) ?_
                  refine ROps.d (r := AV.optr 9 1 0) (fs := [(9, [AV.i64 0, AV.i64 0, AV.nilsl, AV.nilsl])]) (Γ' := [⟨3, some (r32.map AV.f32)⟩, ⟨1, some (r8.map AV.f32)⟩, ⟨1, some (r9.map AV.i64)⟩, ⟨1, some [AV.i64 r5, AV.i64 r6, AV.oref 1 1 0 r8.length, AV.oref 2 1 0 r9.length]⟩, ⟨2, some (r36.map AV.f32)⟩, ⟨1, some (r27.map AV.f32)⟩, ⟨1, some (r28.map AV.i64)⟩, ⟨1, some [AV.i64 r13, AV.i64 r14, AV.oref 5 1 0 r16.length, AV.oref 6 1 0 r17.length]⟩, ⟨1, some (r37.map AV.i64)⟩, ⟨1, some [AV.i64 0, AV.i64 0, AV.nilsl, AV.nilsl]⟩]) rfl rfl rfl (TOp.alloc_o (g := ⟨0, none⟩) 9 rfl zer48 zok48 rfl) rfl ?_
                  refine ROps.store_le (r := AV.agg [AV.i64 r33, AV.i64 r34, AV.oref 4 2 0 r36.length, AV.oref 8 1 0 r37.length]) (l' := [AV.i64 r33, AV.i64 r34, AV.oref 4 2 0 r36.length, AV.oref 8 1 0 r37.length]) (Γ' := [⟨3, some (r32.map AV.f32)⟩, ⟨1, some (r8.map AV.f32)⟩, ⟨1, some (r9.map AV.i64)⟩, ⟨1, some [AV.i64 r5, AV.i64 r6, AV.oref 1 1 0 r8.length, AV.oref 2 1 0 r9.length]⟩, ⟨2, some (r36.map AV.f32)⟩, ⟨1, some (r27.map AV.f32)⟩, ⟨1, some (r28.map AV.i64)⟩, ⟨1, some [AV.i64 r13, AV.i64 r14, AV.oref 5 1 0 r16.length, AV.oref 6 1 0 r17.length]⟩, ⟨1, some (r37.map AV.i64)⟩, ⟨1, some [AV.i64 r33, AV.i64 r34, AV.oref 4 2 0 r36.length, AV.oref 8 1 0 r37.length]⟩]) rfl siz48 rfl rfl rfl (ALe.refl _) rfl rfl rfl rfl (Nat.le_of_ble_eq_true rfl) rfl rfl ?_
                  refine ROps.l (r := AV.b r35) rfl rfl rfl (LOp.assign rfl rfl) ?_
                  refine ROps.nil ?_
                  refine RunC.wl (τ' := [(4, AV.optr 3 1 0), (5, AV.b r7), (7, AV.optr 7 1 0), (10, AV.i64 r26), (12, AV.optr 9 1 0), (13, AV.b r35)]) (Γ' := [⟨3, none⟩, ⟨1, some (r8.map AV.f32)⟩, ⟨1, some (r9.map AV.i64)⟩, ⟨1, some [AV.i64 r5, AV.i64 r6, AV.oref 1 1 0 r8.length, AV.oref 2 1 0 r9.length]⟩, ⟨2, some (r36.map AV.f32)⟩, ⟨1, some (r27.map AV.f32)⟩, ⟨1, some (r28.map AV.i64)⟩, ⟨1, some [AV.i64 r13, AV.i64 r14, AV.oref 5 1 0 r16.length, AV.oref 6 1 0 r17.length]⟩, ⟨1, some (r37.map AV.i64)⟩, ⟨1, some [AV.i64 r33, AV.i64 r34, AV.oref 4 2 0 r36.length, AV.oref 8 1 0 r37.length]⟩]) ⟨(ALe.refl _), (ALe.refl _), (ALe.refl _), (ALe.refl _), (ALe.refl _), (ALe.refl _), trivial⟩ ⟨⟨rfl, .inl rfl⟩, ⟨rfl, .inr rfl⟩, ⟨rfl, .inr rfl⟩, ⟨rfl, .inr rfl⟩, ⟨rfl, .inr rfl⟩, ⟨rfl, .inr rfl⟩, ⟨rfl, .inr rfl⟩, ⟨rfl, .inr rfl⟩, ⟨rfl, .inr rfl⟩, ⟨rfl, .inr rfl⟩, trivial⟩ ?_
                  refine RunC.seq ?_
                  refine RunC.seq ?_
                  obtain ⟨r38, hf26, h⟩ := obind_some h
                  rcases bsel_some h with ⟨hc27, h⟩ | ⟨hc27, h⟩
                  · rcases bsel_some h with ⟨hc28, h⟩ | ⟨hc28, h⟩
                    · refine RunC.regionW ?_
                      refine ROps.d (r := AV.agg [AV.i64 r33, AV.i64 r34, AV.oref 4 2 0 r36.length, AV.oref 8 1 0 r37.length]) (fs := []) (Γ' := [⟨3, none⟩, ⟨1, some (r8.map AV.f32)⟩, ⟨1, some (r9.map AV.i64)⟩, ⟨1, some [AV.i64 r5, AV.i64 r6, AV.oref 1 1 0 r8.length, AV.oref 2 1 0 r9.length]⟩, ⟨2, some (r36.map AV.f32)⟩, ⟨1, some (r27.map AV.f32)⟩, ⟨1, some (r28.map AV.i64)⟩, ⟨1, some [AV.i64 r13, AV.i64 r14, AV.oref 5 1 0 r16.length, AV.oref 6 1 0 r17.length]⟩, ⟨1, some (r37.map AV.i64)⟩, ⟨1, some [AV.i64 r33, AV.i64 r34, AV.oref 4 2 0 r36.length, AV.oref 8 1 0 r37.length]⟩]) rfl rfl rfl (TOp.loadAgg_o rfl agg48 siz48 rfl rfl rfl rfl) rfl ?_
                      refine ROps.d (r := AV.agg [AV.i64 r5, AV.i64 r6, AV.oref 1 1 0 r8.length, AV.oref 2 1 0 r9.length]) (fs := []) (Γ' := [⟨3, none⟩, ⟨1, some (r8.map AV.f32)⟩, ⟨1, some (r9.map AV.i64)⟩, ⟨1, some [AV.i64 r5, AV.i64 r6, AV.oref 1 1 0 r8.length, AV.oref 2 1 0 r9.length]⟩, ⟨2, some (r36.map AV.f32)⟩, ⟨1, some (r27.map AV.f32)⟩, ⟨1, some (r28.map AV.i64)⟩, ⟨1, some [AV.i64 r13, AV.i64 r14, AV.oref 5 1 0 r16.length, AV.oref 6 1 0 r17.length]⟩, ⟨1, some (r37.map AV.i64)⟩, ⟨1, some [AV.i64 r33, AV.i64 r34, AV.oref 4 2 0 r36.length, AV.oref 8 1 0 r37.length]⟩]) rfl rfl rfl (TOp.loadAgg_o rfl agg48 siz48 rfl rfl rfl rfl) rfl ?_
                      refine ROps.d (r := AV.b true) (fs := []) (Γ' := [⟨3, none⟩, ⟨1, some (r8.map AV.f32)⟩, ⟨1, some (r9.map AV.i64)⟩, ⟨1, some [AV.i64 r5, AV.i64 r6, AV.oref 1 1 0 r8.length, AV.oref 2 1 0 r9.length]⟩, ⟨2, some (r36.map AV.f32)⟩, ⟨1, some (r27.map AV.f32)⟩, ⟨1, some (r28.map AV.i64)⟩, ⟨1, some [AV.i64 r13, AV.i64 r14, AV.oref 5 1 0 r16.length, AV.oref 6 1 0 r17.length]⟩, ⟨1, some (r37.map AV.i64)⟩, ⟨1, some [AV.i64 r33, AV.i64 r34, AV.oref 4 2 0 r36.length, AV.oref 8 1 0 r37.length]⟩]) rfl rfl rfl (TOp.eqb (TOp.callB (CallAs.func ent29 rfl rfl) (Bors.cons (Bor.agg (Bors.cons (Bor.pure rfl) (Bors.cons (Bor.pure rfl) (Bors.cons (Bor.own (f := AV.f32) (fun _ => rfl) rfl rfl) (Bors.cons (Bor.own (f := AV.i64) (fun _ => rfl) rfl rfl) Bors.nil))))) (Bors.cons (Bor.agg (Bors.cons (Bor.pure rfl) (Bors.cons (Bor.pure rfl) (Bors.cons (Bor.own (f := AV.f32) (fun _ => rfl) rfl rfl) (Bors.cons (Bor.own (f := AV.i64) (fun _ => rfl) rfl rfl) Bors.nil))))) Bors.nil)) rfl rfl (w_eqFactor_ok r33 r34 r36 r37 r5 r6 r8 r9 r38 hf26)) hc27) rfl ?_
                      refine ROps.l (r := AV.b false) rfl rfl rfl (LOp.eqb (LOp.not rfl rfl) rfl) ?_
                      refine ROps.l (r := AV.b false) rfl rfl rfl (LOp.move rfl rfl) ?_
                      refine ROps.l (r := AV.b r35) rfl rfl rfl (LOp.move rfl rfl) ?_
                      refine ROps.l (r := AV.b r7) rfl rfl rfl (LOp.move rfl rfl) ?_
                      refine ROps.l (r := AV.b true) rfl rfl rfl (LOp.eqb (LOp.neqb pun4 rfl rfl rfl) hc28) ?_
                      refine ROps.l (r := AV.b true) rfl rfl rfl (LOp.pick_false rfl rfl rfl) ?_
                      refine ROps.nil ?_
                      refine RunC.wl (τ' := [(7, AV.optr 7 1 0), (10, AV.i64 r26), (87, AV.b true)]) (Γ' := [⟨3, none⟩, ⟨1, none⟩, ⟨1, none⟩, ⟨1, none⟩, ⟨2, none⟩, ⟨1, some (r27.map AV.f32)⟩, ⟨1, some (r28.map AV.i64)⟩, ⟨1, some [AV.i64 r13, AV.i64 r14, AV.oref 5 1 0 r16.length, AV.oref 6 1 0 r17.length]⟩, ⟨1, none⟩, ⟨1, none⟩]) ⟨(ALe.refl _), (ALe.refl _), (ALe.refl _), trivial⟩ ⟨⟨rfl, .inl rfl⟩, ⟨rfl, .inl rfl⟩, ⟨rfl, .inl rfl⟩, ⟨rfl, .inl rfl⟩, ⟨rfl, .inl rfl⟩, ⟨rfl, .inr rfl⟩, ⟨rfl, .inr rfl⟩, ⟨rfl, .inr rfl⟩, ⟨rfl, .inl rfl⟩, ⟨rfl, .inl rfl⟩, trivial⟩ ?_
                      refine RunC.cond_true rfl rfl ?_
                      refine RunC.seq ?_
                      refine RunC.regionW ?_
                      refine ROps.l (r := AV.b false) rfl rfl rfl (LOp.assign rfl rfl) ?_
                      refine ROps.nil ?_
                      refine RunC.ret ?_
                      have hq := Option.some.inj h
                      subst q0
                      exact bodyQ.pure (.inr rfl) rfl (Res.one rfl (RV.tmp rfl))
                    · refine RunC.regionW ?_
                      refine ROps.d (r := AV.agg [AV.i64 r33, AV.i64 r34, AV.oref 4 2 0 r36.length, AV.oref 8 1 0 r37.length]) (fs := []) (Γ' := [⟨3, none⟩, ⟨1, some (r8.map AV.f32)⟩, ⟨1, some (r9.map AV.i64)⟩, ⟨1, some [AV.i64 r5, AV.i64 r6, AV.oref 1 1 0 r8.length, AV.oref 2 1 0 r9.length]⟩, ⟨2, some (r36.map AV.f32)⟩, ⟨1, some (r27.map AV.f32)⟩, ⟨1, some (r28.map AV.i64)⟩, ⟨1, some [AV.i64 r13, AV.i64 r14, AV.oref 5 1 0 r16.length, AV.oref 6 1 0 r17.length]⟩, ⟨1, some (r37.map AV.i64)⟩, ⟨1, some [AV.i64 r33, AV.i64 r34, AV.oref 4 2 0 r36.length, AV.oref 8 1 0 r37.length]⟩]) rfl rfl rfl (TOp.loadAgg_o rfl agg48 siz48 rfl rfl rfl rfl) rfl ?_
                      refine ROps.d (r := AV.agg [AV.i64 r5, AV.i64 r6, AV.oref 1 1 0 r8.length, AV.oref 2 1 0 r9.length]) (fs := []) (Γ' := [⟨3, none⟩, ⟨1, some (r8.map AV.f32)⟩, ⟨1, some (r9.map AV.i64)⟩, ⟨1, some [AV.i64 r5, AV.i64 r6, AV.oref 1 1 0 r8.length, AV.oref 2 1 0 r9.length]⟩, ⟨2, some (r36.map AV.f32)⟩, ⟨1, some (r27.map AV.f32)⟩, ⟨1, some (r28.map AV.i64)⟩, ⟨1, some [AV.i64 r13, AV.i64 r14, AV.oref 5 1 0 r16.length, AV.oref 6 1 0 r17.length]⟩, ⟨1, some (r37.map AV.i64)⟩, ⟨1, some [AV.i64 r33, AV.i64 r34, AV.oref 4 2 0 r36.length, AV.oref 8 1 0 r37.length]⟩]) rfl rfl rfl (TOp.loadAgg_o rfl agg48 siz48 rfl rfl rfl rfl) rfl ?_
                      refine ROps.d (r := AV.b true) (fs := []) (Γ' := [⟨3, none⟩, ⟨1, some (r8.map AV.f32)⟩, ⟨1, some (r9.map AV.i64)⟩, ⟨1, some [AV.i64 r5, AV.i64 r6, AV.oref 1 1 0 r8.length, AV.oref 2 1 0 r9.length]⟩, ⟨2, some (r36.map AV.f32)⟩, ⟨1, some (r27.map AV.f32)⟩, ⟨1, some (r28.map AV.i64)⟩, ⟨1, some [AV.i64 r13, AV.i64 r14, AV.oref 5 1 0 r16.length, AV.oref 6 1 0 r17.length]⟩, ⟨1, some (r37.map AV.i64)⟩, ⟨1, some [AV.i64 r33, AV.i64 r34, AV.oref 4 2 0 r36.length, AV.oref 8 1 0 r37.length]⟩]) rfl rfl rfl (TOp.eqb (TOp.callB (CallAs.func ent29 rfl rfl) (Bors.cons (Bor.agg (Bors.cons (Bor.pure rfl) (Bors.cons (Bor.pure rfl) (Bors.cons (Bor.own (f := AV.f32) (fun _ => rfl) rfl rfl) (Bors.cons (Bor.own (f := AV.i64) (fun _ => rfl) rfl rfl) Bors.nil))))) (Bors.cons (Bor.agg (Bors.cons (Bor.pure rfl) (Bors.cons (Bor.pure rfl) (Bors.cons (Bor.own (f := AV.f32) (fun _ => rfl) rfl rfl) (Bors.cons (Bor.own (f := AV.i64) (fun _ => rfl) rfl rfl) Bors.nil))))) Bors.nil)) rfl rfl (w_eqFactor_ok r33 r34 r36 r37 r5 r6 r8 r9 r38 hf26)) hc27) rfl ?_
                      refine ROps.l (r := AV.b false) rfl rfl rfl (LOp.eqb (LOp.not rfl rfl) rfl) ?_
                      refine ROps.l (r := AV.b false) rfl rfl rfl (LOp.move rfl rfl) ?_
                      refine ROps.l (r := AV.b r35) rfl rfl rfl (LOp.move rfl rfl) ?_
                      refine ROps.l (r := AV.b r7) rfl rfl rfl (LOp.move rfl rfl) ?_
                      refine ROps.l (r := AV.b false) rfl rfl rfl (LOp.eqb (LOp.neqb pun4 rfl rfl rfl) hc28) ?_
                      refine ROps.l (r := AV.b false) rfl rfl rfl (LOp.pick_false rfl rfl rfl) ?_
                      refine ROps.nil ?_
                      refine RunC.wl (τ' := [(7, AV.optr 7 1 0), (10, AV.i64 r26), (87, AV.b false)]) (Γ' := [⟨3, none⟩, ⟨1, none⟩, ⟨1, none⟩, ⟨1, none⟩, ⟨2, none⟩, ⟨1, some (r27.map AV.f32)⟩, ⟨1, some (r28.map AV.i64)⟩, ⟨1, some [AV.i64 r13, AV.i64 r14, AV.oref 5 1 0 r16.length, AV.oref 6 1 0 r17.length]⟩, ⟨1, none⟩, ⟨1, none⟩]) ⟨(ALe.refl _), (ALe.refl _), (ALe.refl _), trivial⟩ ⟨⟨rfl, .inl rfl⟩, ⟨rfl, .inl rfl⟩, ⟨rfl, .inl rfl⟩, ⟨rfl, .inl rfl⟩, ⟨rfl, .inl rfl⟩, ⟨rfl, .inr rfl⟩, ⟨rfl, .inr rfl⟩, ⟨rfl, .inr rfl⟩, ⟨rfl, .inl rfl⟩, ⟨rfl, .inl rfl⟩, trivial⟩ ?_
                      refine RunC.cond_false rfl rfl ?_
                      refine RunC.skip ?_
                      refine RunC.seq ?_
                      refine RunC.regionW ?_
                      refine ROps.l (r := AV.i64 1) rfl rfl rfl (LOp.assign rfl rfl) ?_
                      refine ROps.nil ?_
                      refine RunC.seq ?_
                      obtain ⟨r39, hf29, h⟩ := obind_some h
                      refine RunC.regionW ?_
                      refine ROps.d (r := AV.agg [AV.i64 r13, AV.i64 r14, AV.oref 5 1 0 r16.length, AV.oref 6 1 0 r17.length]) (fs := []) (Γ' := [⟨3, none⟩, ⟨1, none⟩, ⟨1, none⟩, ⟨1, none⟩, ⟨2, none⟩, ⟨1, some (r27.map AV.f32)⟩, ⟨1, some (r28.map AV.i64)⟩, ⟨1, some [AV.i64 r13, AV.i64 r14, AV.oref 5 1 0 r16.length, AV.oref 6 1 0 r17.length]⟩, ⟨1, none⟩, ⟨1, none⟩]) rfl rfl rfl (TOp.loadAgg_o rfl agg48 siz48 rfl rfl rfl rfl) rfl ?_
                      refine ROps.l (r := AV.i64 1) rfl rfl rfl (LOp.move rfl rfl) ?_
                      refine ROps.d (r := AV.i64 r39) (fs := []) (Γ' := [⟨3, none⟩, ⟨1, none⟩, ⟨1, none⟩, ⟨1, none⟩, ⟨2, none⟩, ⟨1, some (r27.map AV.f32)⟩, ⟨1, some (r28.map AV.i64)⟩, ⟨1, some [AV.i64 r13, AV.i64 r14, AV.oref 5 1 0 r16.length, AV.oref 6 1 0 r17.length]⟩, ⟨1, none⟩, ⟨1, none⟩]) rfl rfl rfl (TOp.callB (CallAs.func ent31 rfl rfl) (Bors.cons (Bor.agg (Bors.cons (Bor.pure rfl) (Bors.cons (Bor.pure rfl) (Bors.cons (Bor.own (f := AV.f32) (fun _ => rfl) rfl (of_decide_eq_true hn19)) (Bors.cons (Bor.own (f := AV.i64) (fun _ => rfl) rfl (of_decide_eq_true hn20)) Bors.nil))))) (Bors.cons (Bor.pure rfl) Bors.nil)) rfl rfl (w_heldFactor_ok r13 r14 r27 r28 1 r39 hf29)) rfl ?_
                      refine ROps.l (r := AV.i64 r39) rfl rfl rfl (LOp.assign rfl rfl) ?_
                      refine ROps.nil ?_
                      refine RunC.wl (τ' := [(10, AV.i64 r26), (11, AV.i64 r39)]) (Γ' := [⟨3, none⟩, ⟨1, none⟩, ⟨1, none⟩, ⟨1, none⟩, ⟨2, none⟩, ⟨1, none⟩, ⟨1, none⟩, ⟨1, none⟩, ⟨1, none⟩, ⟨1, none⟩]) ⟨(ALe.refl _), (ALe.refl _), trivial⟩ ⟨⟨rfl, .inl rfl⟩, ⟨rfl, .inl rfl⟩, ⟨rfl, .inl rfl⟩, ⟨rfl, .inl rfl⟩, ⟨rfl, .inl rfl⟩, ⟨rfl, .inl rfl⟩, ⟨rfl, .inl rfl⟩, ⟨rfl, .inl rfl⟩, ⟨rfl, .inl rfl⟩, ⟨rfl, .inl rfl⟩, trivial⟩ ?_
                      refine RunC.seq ?_
                      refine RunC.seq ?_
                      rcases bsel_some h with ⟨hc30, h⟩ | ⟨hc30, h⟩
                      · refine RunC.regionW ?_
                        refine ROps.l (r := AV.i64 r39) rfl rfl rfl (LOp.move rfl rfl) ?_
                        refine ROps.l (r := AV.b true) rfl rfl rfl (LOp.eqb (LOp.lss rfl rfl rfl) hc30) ?_
                        refine ROps.nil ?_
                        refine RunC.cond_true rfl rfl ?_
                        refine RunC.seq ?_
                        refine RunC.regionW ?_
                        refine ROps.l (r := AV.b false) rfl rfl rfl (LOp.assign rfl rfl) ?_
                        refine ROps.nil ?_
                        refine RunC.ret ?_
                        have hq := Option.some.inj h
                        subst q0
                        exact bodyQ.pure (.inr rfl) rfl (Res.one rfl (RV.tmp rfl))
                      · refine RunC.regionW ?_
                        refine ROps.l (r := AV.i64 r39) rfl rfl rfl (LOp.move rfl rfl) ?_
                        refine ROps.l (r := AV.b false) rfl rfl rfl (LOp.eqb (LOp.lss rfl rfl rfl) hc30) ?_
                        refine ROps.nil ?_
                        refine RunC.cond_false rfl rfl ?_
                        refine RunC.skip ?_
                        refine RunC.seq ?_
                        refine RunC.seq ?_
                        rcases bsel_some h with ⟨hc31, h⟩ | ⟨hc31, h⟩
                        · refine RunC.regionW ?_
                          refine ROps.l (r := AV.i64 r39) rfl rfl rfl (LOp.move rfl rfl) ?_
                          refine ROps.l (r := AV.i64 r26) rfl rfl rfl (LOp.move rfl rfl) ?_
                          refine ROps.l (r := AV.b true) rfl rfl rfl (LOp.eqb (LOp.neq rfl rfl rfl) hc31) ?_
                          refine ROps.nil ?_
                          refine RunC.cond_true rfl rfl ?_
                          refine RunC.seq ?_
                          refine RunC.regionW ?_
                          refine ROps.l (r := AV.b false) rfl rfl rfl (LOp.assign rfl rfl) ?_
                          refine ROps.nil ?_
                          refine RunC.ret ?_
                          have hq := Option.some.inj h
                          subst q0
                          exact bodyQ.pure (.inr rfl) rfl (Res.one rfl (RV.tmp rfl))
                        · refine RunC.regionW ?_
                          refine ROps.l (r := AV.i64 r39) rfl rfl rfl (LOp.move rfl rfl) ?_
                          refine ROps.l (r := AV.i64 r26) rfl rfl rfl (LOp.move rfl rfl) ?_
                          refine ROps.l (r := AV.b false) rfl rfl rfl (LOp.eqb (LOp.neq rfl rfl rfl) hc31) ?_
                          refine ROps.nil ?_
                          refine RunC.cond_false rfl rfl ?_
                          refine RunC.skip ?_
                          refine RunC.seq ?_
                          refine RunC.regionW ?_
                          refine ROps.l (r := AV.b true) rfl rfl rfl (LOp.assign rfl rfl) ?_
                          refine ROps.nil ?_
                          refine RunC.ret ?_
                          have hq := Option.some.inj h
                          subst q0
                          exact bodyQ.pure (.inr rfl) rfl (Res.one rfl (RV.tmp rfl))
                  · refine RunC.regionW ?_
                    refine ROps.d (r := AV.agg [AV.i64 r33, AV.i64 r34, AV.oref 4 2 0 r36.length, AV.oref 8 1 0 r37.length]) (fs := []) (Γ' := [⟨3, none⟩, ⟨1, some (r8.map AV.f32)⟩, ⟨1, some (r9.map AV.i64)⟩, ⟨1, some [AV.i64 r5, AV.i64 r6, AV.oref 1 1 0 r8.length, AV.oref 2 1 0 r9.length]⟩, ⟨2, some (r36.map AV.f32)⟩, ⟨1, some (r27.map AV.f32)⟩, ⟨1, some (r28.map AV.i64)⟩, ⟨1, some [AV.i64 r13, AV.i64 r14, AV.oref 5 1 0 r16.length, AV.oref 6 1 0 r17.length]⟩, ⟨1, some (r37.map AV.i64)⟩, ⟨1, some [AV.i64 r33, AV.i64 r34, AV.oref 4 2 0 r36.length, AV.oref 8 1 0 r37.length]⟩]) rfl rfl rfl (TOp.loadAgg_o rfl agg48 siz48 rfl rfl rfl rfl) rfl ?_
                    refine ROps.d (r := AV.agg [AV.i64 r5, AV.i64 r6, AV.oref 1 1 0 r8.length, AV.oref 2 1 0 r9.length]) (fs := []) (Γ' := [⟨3, none⟩, ⟨1, some (r8.map AV.f32)⟩, ⟨1, some (r9.map AV.i64)⟩, ⟨1, some [AV.i64 r5, AV.i64 r6, AV.oref 1 1 0 r8.length, AV.oref 2 1 0 r9.length]⟩, ⟨2, some (r36.map AV.f32)⟩, ⟨1, some (r27.map AV.f32)⟩, ⟨1, some (r28.map AV.i64)⟩, ⟨1, some [AV.i64 r13, AV.i64 r14, AV.oref 5 1 0 r16.length, AV.oref 6 1 0 r17.length]⟩, ⟨1, some (r37.map AV.i64)⟩, ⟨1, some [AV.i64 r33, AV.i64 r34, AV.oref 4 2 0 r36.length, AV.oref 8 1 0 r37.length]⟩]) rfl rfl rfl (TOp.loadAgg_o rfl agg48 siz48 rfl rfl rfl rfl) rfl ?_
                    refine ROps.d (r := AV.b false) (fs := []) (Γ' := [⟨3, none⟩, ⟨1, some (r8.map AV.f32)⟩, ⟨1, some (r9.map AV.i64)⟩, ⟨1, some [AV.i64 r5, AV.i64 r6, AV.oref 1 1 0 r8.length, AV.oref 2 1 0 r9.length]⟩, ⟨2, some (r36.map AV.f32)⟩, ⟨1, some (r27.map AV.f32)⟩, ⟨1, some (r28.map AV.i64)⟩, ⟨1, some [AV.i64 r13, AV.i64 r14, AV.oref 5 1 0 r16.length, AV.oref 6 1 0 r17.length]⟩, ⟨1, some (r37.map AV.i64)⟩, ⟨1, some [AV.i64 r33, AV.i64 r34, AV.oref 4 2 0 r36.length, AV.oref 8 1 0 r37.length]⟩]) rfl rfl rfl (TOp.eqb (TOp.callB (CallAs.func ent29 rfl rfl) (Bors.cons (Bor.agg (Bors.cons (Bor.pure rfl) (Bors.cons (Bor.pure rfl) (Bors.cons (Bor.own (f := AV.f32) (fun _ => rfl) rfl rfl) (Bors.cons (Bor.own (f := AV.i64) (fun _ => rfl) rfl rfl) Bors.nil))))) (Bors.cons (Bor.agg (Bors.cons (Bor.pure rfl) (Bors.cons (Bor.pure rfl) (Bors.cons (Bor.own (f := AV.f32) (fun _ => rfl) rfl rfl) (Bors.cons (Bor.own (f := AV.i64) (fun _ => rfl) rfl rfl) Bors.nil))))) Bors.nil)) rfl rfl (w_eqFactor_ok r33 r34 r36 r37 r5 r6 r8 r9 r38 hf26)) hc27) rfl ?_
                    refine ROps.l (r := AV.b true) rfl rfl rfl (LOp.eqb (LOp.not rfl rfl) rfl) ?_
                    refine ROps.l (r := AV.b true) rfl rfl rfl (LOp.move rfl rfl) ?_
                    refine ROps.s rfl rfl rfl ?_
                    refine ROps.s rfl rfl rfl ?_
                    refine ROps.s rfl rfl rfl ?_
                    refine ROps.l (r := AV.b true) rfl rfl rfl (LOp.pick_true rfl rfl rfl) ?_
                    refine ROps.nil ?_
                    refine RunC.wl (τ' := [(7, AV.optr 7 1 0), (10, AV.i64 r26), (87, AV.b true)]) (Γ' := [⟨3, none⟩, ⟨1, none⟩, ⟨1, none⟩, ⟨1, none⟩, ⟨2, none⟩, ⟨1, some (r27.map AV.f32)⟩, ⟨1, some (r28.map AV.i64)⟩, ⟨1, some [AV.i64 r13, AV.i64 r14, AV.oref 5 1 0 r16.length, AV.oref 6 1 0 r17.length]⟩, ⟨1, none⟩, ⟨1, none⟩]) ⟨(ALe.refl _), (ALe.refl _), (ALe.refl _), trivial⟩ ⟨⟨rfl, .inl rfl⟩, ⟨rfl, .inl rfl⟩, ⟨rfl, .inl rfl⟩, ⟨rfl, .inl rfl⟩, ⟨rfl, .inl rfl⟩, ⟨rfl, .inr rfl⟩, ⟨rfl, .inr rfl⟩, ⟨rfl, .inr rfl⟩, ⟨rfl, .inl rfl⟩, ⟨rfl, .inl rfl⟩, trivial⟩ ?_
                    refine RunC.cond_true rfl rfl ?_
                    refine RunC.seq ?_
                    refine RunC.regionW ?_
                    refine ROps.l (r := AV.b false) rfl rfl rfl (LOp.assign rfl rfl) ?_
                    refine ROps.nil ?_
                    refine RunC.ret ?_
                    have hq := Option.some.inj h
                    subst q0
                    exact bodyQ.pure (.inr rfl) rfl (Res.one rfl (RV.tmp rfl))
            · refine RunC.regionW ?_
              refine ROps.l (r := AV.i64 r23) rfl rfl rfl (LOp.move rfl rfl) ?_
              refine ROps.l (r := AV.b false) rfl rfl rfl (LOp.eqb (LOp.lss rfl rfl rfl) hc15) ?_
              refine ROps.l (r := AV.b false) rfl rfl rfl (LOp.move rfl rfl) ?_
              refine ROps.d (r := AV.agg [AV.i64 r13, AV.i64 r14, AV.oref 5 1 0 r16.length, AV.oref 6 1 0 r17.length]) (fs := []) (Γ' := [⟨2, none⟩, ⟨1, some (r8.map AV.f32)⟩, ⟨1, some (r9.map AV.i64)⟩, ⟨1, some [AV.i64 r5, AV.i64 r6, AV.oref 1 1 0 r8.length, AV.oref 2 1 0 r9.length]⟩, ⟨1, none⟩, ⟨1, some (r16.map AV.f32)⟩, ⟨1, some (r17.map AV.i64)⟩, ⟨1, some [AV.i64 r13, AV.i64 r14, AV.oref 5 1 0 r16.length, AV.oref 6 1 0 r17.length]⟩, ⟨0, none⟩, ⟨0, none⟩]) rfl rfl rfl (TOp.loadAgg_o rfl agg48 siz48 rfl rfl rfl rfl) rfl ?_
              refine ROps.d (r := AV.agg [AV.i64 r5, AV.i64 r6, AV.oref 1 1 0 r8.length, AV.oref 2 1 0 r9.length]) (fs := []) (Γ' := [⟨2, none⟩, ⟨1, some (r8.map AV.f32)⟩, ⟨1, some (r9.map AV.i64)⟩, ⟨1, some [AV.i64 r5, AV.i64 r6, AV.oref 1 1 0 r8.length, AV.oref 2 1 0 r9.length]⟩, ⟨1, none⟩, ⟨1, some (r16.map AV.f32)⟩, ⟨1, some (r17.map AV.i64)⟩, ⟨1, some [AV.i64 r13, AV.i64 r14, AV.oref 5 1 0 r16.length, AV.oref 6 1 0 r17.length]⟩, ⟨0, none⟩, ⟨0, none⟩]) rfl rfl rfl (TOp.loadAgg_o rfl agg48 siz48 rfl rfl rfl rfl) rfl ?_
              refine ROps.d (r := AV.b false) (fs := []) (Γ' := [⟨2, none⟩, ⟨1, some (r8.map AV.f32)⟩, ⟨1, some (r9.map AV.i64)⟩, ⟨1, some [AV.i64 r5, AV.i64 r6, AV.oref 1 1 0 r8.length, AV.oref 2 1 0 r9.length]⟩, ⟨1, none⟩, ⟨1, some (r16.map AV.f32)⟩, ⟨1, some (r17.map AV.i64)⟩, ⟨1, some [AV.i64 r13, AV.i64 r14, AV.oref 5 1 0 r16.length, AV.oref 6 1 0 r17.length]⟩, ⟨0, none⟩, ⟨0, none⟩]) rfl rfl rfl (TOp.eqb (TOp.callB (CallAs.func ent29 rfl rfl) (Bors.cons (Bor.agg (Bors.cons (Bor.pure rfl) (Bors.cons (Bor.pure rfl) (Bors.cons (Bor.own (f := AV.f32) (fun _ => rfl) rfl rfl) (Bors.cons (Bor.own (f := AV.i64) (fun _ => rfl) rfl rfl) Bors.nil))))) (Bors.cons (Bor.agg (Bors.cons (Bor.pure rfl) (Bors.cons (Bor.pure rfl) (Bors.cons (Bor.own (f := AV.f32) (fun _ => rfl) rfl rfl) (Bors.cons (Bor.own (f := AV.i64) (fun _ => rfl) rfl rfl) Bors.nil))))) Bors.nil)) rfl rfl (w_eqFactor_ok r13 r14 r16 r17 r5 r6 r8 r9 r25 hf16)) hc17) rfl ?_
              refine ROps.l (r := AV.b true) rfl rfl rfl (LOp.eqb (LOp.not rfl rfl) rfl) ?_
              refine ROps.l (r := AV.b true) rfl rfl rfl (LOp.pick_false rfl rfl rfl) ?_
              refine ROps.l (r := AV.b true) rfl rfl rfl (LOp.move rfl rfl) ?_
              refine ROps.s rfl rfl rfl ?_
              refine ROps.s rfl rfl rfl ?_
              refine ROps.s rfl rfl rfl ?_
              refine ROps.l (r := AV.b true) rfl rfl rfl (LOp.pick_true rfl rfl rfl) ?_
              refine ROps.nil ?_
              refine RunC.cond_true rfl rfl ?_
              refine RunC.seq ?_
              refine RunC.regionW ?_
              refine ROps.l (r := AV.b false) rfl rfl rfl (LOp.assign rfl rfl) ?_
              refine ROps.nil ?_
              refine RunC.ret ?_
              have hq := Option.some.inj h
              subst q0
              exact bodyQ.pure (.inr rfl) rfl (Res.one rfl (RV.tmp rfl))
        · refine RunC.region_draw (Γ' := [⟨2, some (r12.map AV.f32)⟩, ⟨1, some (r8.map AV.f32)⟩, ⟨1, some (r9.map AV.i64)⟩, ⟨1, some [AV.i64 r5, AV.i64 r6, AV.oref 1 1 0 r8.length, AV.oref 2 1 0 r9.length]⟩, ⟨1, some [AV.i64 r10, AV.i64 r11, AV.oref 0 2 0 r12.length]⟩, ⟨1, some (r16.map AV.f32)⟩, ⟨1, some (r17.map AV.i64)⟩, ⟨1, some [AV.i64 r13, AV.i64 r14, AV.oref 5 1 0 r16.length, AV.oref 6 1 0 r17.length]⟩, ⟨0, none⟩, ⟨0, none⟩]) 5 mixed 
            (TR.d (r := AV.agg [AV.i64 r10, AV.i64 r11, AV.oref 0 2 0 r12.length]) (fs := []) rfl rfl (TOp.loadAgg_o rfl agg27 siz27 rfl rfl rfl rfl) <|
            (TR.l (r := AV.agg [AV.i64 a0, AV.i64 a1, AV.sl a2.length (a2.map AV.f32)]) rfl rfl (LOp.loadAgg agg24 siz24 rfl rfl rfl rfl) <|
            (TR.d (r := AV.agg [AV.i64 r19, AV.i64 r20, AV.sl r21.length (r21.map AV.f32)]) (fs := []) rfl rfl (TOp.callS (CallAs.func ent11 rfl rfl) (ALes.cons (ALe.refl _) ALes.nil) (lts_cons (lt_agg (lts_cons rfl (lts_cons rfl (lts_cons (lt_sl (fun _ => rfl)) lts_nil)))) lts_nil) (lt_agg (lts_cons rfl (lts_cons rfl (lts_cons (lt_sl (fun _ => rfl)) lts_nil)))) (w_toMatrix_ok a0 a1 a2 r19 r20 r21 hf10) (Bor.agg (Bors.cons (Bor.pure rfl) (Bors.cons (Bor.pure rfl) (Bors.cons (Bor.own (f := AV.f32) (fun _ => rfl) rfl rfl) Bors.nil))))) <|
            (TR.d (r := AV.b false) (fs := []) rfl rfl (TOp.eqb (TOp.callB (CallAs.func ent13 rfl rfl) (Bors.cons (Bor.agg (Bors.cons (Bor.pure rfl) (Bors.cons (Bor.pure rfl) (Bors.cons (Bor.own (f := AV.f32) (fun _ => rfl) rfl rfl) Bors.nil)))) (Bors.cons (Bor.agg (Bors.cons (Bor.pure rfl) (Bors.cons (Bor.pure rfl) (Bors.cons (Bor.sl (fun _ => rfl)) Bors.nil)))) Bors.nil)) rfl rfl (w_eqMatrix_ok r10 r11 r12 r19 r20 r21 r22 hf11)) hc12) <|
            (TR.l (r := AV.b true) rfl rfl (LOp.eqb (LOp.not rfl rfl) rfl) <|
            TR.nil))))) rfl (by kernel_rfl) rfl fills_nil rfl ?_
          iterate 5 refine ROps.dropS ?_
          refine ROps.drop0 ?_
          refine ROps.nil ?_
          refine RunC.cond_true rfl rfl ?_
          refine RunC.seq ?_
          refine RunC.regionW ?_
          refine ROps.l (r := AV.b false) rfl rfl rfl (LOp.assign rfl rfl) ?_
          refine ROps.nil ?_
          refine RunC.ret ?_
          have hq := Option.some.inj h
          subst q0
          exact bodyQ.pure (.inr rfl) rfl (Res.one rfl (RV.tmp rfl))
    · refine RunC.regionW ?_
      refine ROps.d (r := AV.agg [AV.i64 r13, AV.i64 r14, AV.oref 5 1 0 r16.length, AV.oref 6 1 0 r17.length]) (fs := []) (Γ' := [⟨2, some (r12.map AV.f32)⟩, ⟨1, some (r8.map AV.f32)⟩, ⟨1, some (r9.map AV.i64)⟩, ⟨1, some [AV.i64 r5, AV.i64 r6, AV.oref 1 1 0 r8.length, AV.oref 2 1 0 r9.length]⟩, ⟨1, some [AV.i64 r10, AV.i64 r11, AV.oref 0 2 0 r12.length]⟩, ⟨1, some (r16.map AV.f32)⟩, ⟨1, some (r17.map AV.i64)⟩, ⟨1, some [AV.i64 r13, AV.i64 r14, AV.oref 5 1 0 r16.length, AV.oref 6 1 0 r17.length]⟩, ⟨0, none⟩, ⟨0, none⟩]) rfl rfl rfl (TOp.loadAgg_o rfl agg48 siz48 rfl rfl rfl rfl) rfl ?_
      refine ROps.d (r := AV.agg [AV.i64 r5, AV.i64 r6, AV.oref 1 1 0 r8.length, AV.oref 2 1 0 r9.length]) (fs := []) (Γ' := [⟨2, some (r12.map AV.f32)⟩, ⟨1, some (r8.map AV.f32)⟩, ⟨1, some (r9.map AV.i64)⟩, ⟨1, some [AV.i64 r5, AV.i64 r6, AV.oref 1 1 0 r8.length, AV.oref 2 1 0 r9.length]⟩, ⟨1, some [AV.i64 r10, AV.i64 r11, AV.oref 0 2 0 r12.length]⟩, ⟨1, some (r16.map AV.f32)⟩, ⟨1, some (r17.map AV.i64)⟩, ⟨1, some [AV.i64 r13, AV.i64 r14, AV.oref 5 1 0 r16.length, AV.oref 6 1 0 r17.length]⟩, ⟨0, none⟩, ⟨0, none⟩]) rfl rfl rfl (TOp.loadAgg_o rfl agg48 siz48 rfl rfl rfl rfl) rfl ?_
      refine ROps.d (r := AV.b false) (fs := []) (Γ' := [⟨2, some (r12.map AV.f32)⟩, ⟨1, some (r8.map AV.f32)⟩, ⟨1, some (r9.map AV.i64)⟩, ⟨1, some [AV.i64 r5, AV.i64 r6, AV.oref 1 1 0 r8.length, AV.oref 2 1 0 r9.length]⟩, ⟨1, some [AV.i64 r10, AV.i64 r11, AV.oref 0 2 0 r12.length]⟩, ⟨1, some (r16.map AV.f32)⟩, ⟨1, some (r17.map AV.i64)⟩, ⟨1, some [AV.i64 r13, AV.i64 r14, AV.oref 5 1 0 r16.length, AV.oref 6 1 0 r17.length]⟩, ⟨0, none⟩, ⟨0, none⟩]) rfl rfl rfl (TOp.eqb (TOp.callB (CallAs.func ent29 rfl rfl) (Bors.cons (Bor.agg (Bors.cons (Bor.pure rfl) (Bors.cons (Bor.pure rfl) (Bors.cons (Bor.own (f := AV.f32) (fun _ => rfl) rfl rfl) (Bors.cons (Bor.own (f := AV.i64) (fun _ => rfl) rfl rfl) Bors.nil))))) (Bors.cons (Bor.agg (Bors.cons (Bor.pure rfl) (Bors.cons (Bor.pure rfl) (Bors.cons (Bor.own (f := AV.f32) (fun _ => rfl) rfl rfl) (Bors.cons (Bor.own (f := AV.i64) (fun _ => rfl) rfl rfl) Bors.nil))))) Bors.nil)) rfl rfl (w_eqFactor_ok r13 r14 r16 r17 r5 r6 r8 r9 r18 hf7)) hc8) rfl ?_
      refine ROps.l (r := AV.b true) rfl rfl rfl (LOp.eqb (LOp.not rfl rfl) rfl) ?_
      refine ROps.l (r := AV.b true) rfl rfl rfl (LOp.move rfl rfl) ?_
      refine ROps.s rfl rfl rfl ?_
      refine ROps.s rfl rfl rfl ?_
      refine ROps.s rfl rfl rfl ?_
      refine ROps.l (r := AV.b true) rfl rfl rfl (LOp.pick_true rfl rfl rfl) ?_
      refine ROps.nil ?_
      refine RunC.cond_true rfl rfl ?_
      refine RunC.seq ?_
      refine RunC.regionW ?_
      refine ROps.l (r := AV.b false) rfl rfl rfl (LOp.assign rfl rfl) ?_
      refine ROps.nil ?_
      refine RunC.ret ?_
      have hq := Option.some.inj h
      subst q0
      exact bodyQ.pure (.inr rfl) rfl (Res.one rfl (RV.tmp rfl))
end Go.Proofs.Ytjbifkimffmhpaa
