/- Generated. -/
import Derived.Test.YtjbifkimffmhpaaG0
namespace Go.Proofs.Ytjbifkimffmhpaa
open Go Go.AM
set_option maxRecDepth 20000
set_option maxHeartbeats 4000000
set_option linter.unusedVariables false
set_option linter.unusedSimpArgs false
noncomputable def i_Matrix_column_b1 (a0 : Int) (a1 : Int) (a2 : List F) (a3 : Int) (L3 : List F) (v4 : Int) : Option (LR ((List F) × Int) ((List F)) ((List F))) :=
  bsel (decide (v4 < a0)) (
    obind (i_Matrix_at a0 a1 a2 v4 a3) fun (r5 : F) =>
    need (apok 4 L3.length 1) <|
    olet (IntKind.i64.wrap (v4 + 1)) fun (x6 : Int) =>
    some (LR.next ((L3 ++ ([r5] : List F)), x6))) (
    some (LR.out L3))
noncomputable def i_Matrix_column_s1 (a0 : Int) (a1 : Int) (a2 : List F) (a3 : Int) : ((List F) × Int) → Option (LR ((List F) × Int) ((List F)) ((List F))) := fun s => i_Matrix_column_b1 a0 a1 a2 a3 s.1 s.2
noncomputable def i_Matrix_column_k1 (L9 : List F) : Option ((List F)) :=
  some L9
noncomputable def i_Matrix_column (a0 : Int) (a1 : Int) (a2 : List F) (a3 : Int) : Option ((List F)) :=
  obind (loopM (i_Matrix_column_s1 a0 a1 a2 a3) (([] : List F), 0)) fun z => osum z (fun e => i_Matrix_column_k1 e) (fun r => some r)
theorem i_Matrix_column_ok (a0 : Int) (a1 : Int) (a2 : List F) (a3 : Int) (q0 : List F) (h : i_Matrix_column a0 a1 a2 a3 = some q0) : Ev Try.prog 53 [AV.agg [AV.i64 a0, AV.i64 a1, AV.sl a2.length (a2.map AV.f32)], AV.i64 a3] [] (AV.oref 0 0 0 q0.length) [⟨0, some (q0.map AV.f32)⟩] := by
  refine Ev.start Try.func53 rfl rfl 2 (τ := [(0, AV.agg [AV.i64 a0, AV.i64 a1, AV.sl a2.length (a2.map AV.f32)]), (1, AV.i64 a3)]) rfl (Γ' := [⟨0, none⟩, ⟨0, none⟩]) rfl (n := 45) rfl (g := 0) rfl (fun _ => rfl) ?_
  unfold i_Matrix_column at h
  refine RunC.seq ?_
  refine RunC.regionW ?_
  refine ROps.d (r := AV.ptr [AV.i64 a0, AV.i64 a1, AV.sl a2.length (a2.map AV.f32)]) (fs := []) (Γ' := [⟨0, none⟩, ⟨0, none⟩]) rfl rfl rfl (TOp.box_s rfl rfl rfl) rfl ?_
  refine ROps.l (r := AV.nilsl) rfl rfl rfl (LOp.assign rfl rfl) ?_
  refine ROps.nil ?_
  refine RunC.seq ?_
  refine RunC.regionW ?_
  refine ROps.d (r := AV.oref 0 1 0 0) (fs := [(0, (([] : List F).map AV.f32))]) (Γ' := [⟨1, some (([] : List F).map AV.f32)⟩, ⟨0, none⟩]) rfl rfl rfl (TOp.buildSlice_o (g := ⟨0, none⟩) (za := AV.f32 (some 0)) (qs := []) 0 rfl und22 siz25 zer25 rfl zel25 rfl rfl trivial rfl) rfl ?_
  refine ROps.l (r := AV.oref 0 1 0 0) rfl rfl rfl (LOp.assign rfl rfl) ?_
  refine ROps.nil ?_
  refine RunC.seq ?_
  refine RunC.seq ?_
  refine RunC.regionW ?_
  refine ROps.l (r := AV.ptr [AV.i64 a0, AV.i64 a1, AV.sl a2.length (a2.map AV.f32)]) rfl rfl rfl (LOp.fap und27 rfl siz2 rfl rfl rfl) ?_
  refine ROps.l (r := AV.i64 a0) rfl rfl rfl (LOp.load1 agg2 rfl rfl) ?_
  refine ROps.l (r := AV.i64 0) rfl rfl rfl (LOp.move rfl rfl) ?_
  refine ROps.nil ?_
  obtain ⟨z2, hz_2, h⟩ := obind_some h
  refine RunC.cutN (fun τ Γ => ∃ (L9 : List F) (u7 : Nat) (u8 : Nat), WeakLe τ [(5, AV.oref 0 u7 0 L9.length)] ∧ DeadLe Γ [⟨u7, some (L9.map AV.f32)⟩, ⟨u8, none⟩] ∧ z2 = .inl L9) ?_ ?_
  · refine RunC.block (RunC.loop (RunL.loopM (x := z2) (i_Matrix_column_s1 a0 a1 a2 a3) (fun (s : (List F) × Int) τ Γ => ∃ (u1 : Nat) (u2 : Nat), WeakLe τ [(1, AV.i64 a3), (2, AV.ptr [AV.i64 a0, AV.i64 a1, AV.sl a2.length (a2.map AV.f32)]), (5, AV.oref 0 u1 0 s.1.length), (9, AV.i64 a0), (10, AV.i64 s.2)] ∧ DeadLe Γ [⟨u1, some (s.1.map AV.f32)⟩, ⟨u2, none⟩]) ?_ _ _ _ hz_2 ⟨1, 0, ⟨(ALe.refl _), (ALe.refl _), (ALe.refl _), (ALe.refl _), (ALe.refl _), trivial⟩, ⟨⟨rfl, .inr rfl⟩, ⟨rfl, .inl rfl⟩, trivial⟩⟩))
    rintro ⟨L3, v4⟩ τ2 Γ2 y2_ ⟨u1, u2, hw2, hd2⟩ h2_ ho2 hr2
    refine RunC.wl (τ' := [(1, AV.i64 a3), (2, AV.ptr [AV.i64 a0, AV.i64 a1, AV.sl a2.length (a2.map AV.f32)]), (5, AV.oref 0 u1 0 L3.length), (9, AV.i64 a0), (10, AV.i64 v4)]) (Γ' := [⟨u1, some (L3.map AV.f32)⟩, ⟨u2, none⟩]) hw2 hd2 ?_
    replace h2_ : i_Matrix_column_b1 a0 a1 a2 a3 L3 v4 = some y2_ := h2_
    unfold i_Matrix_column_b1 at h2_
    refine RunC.seq ?_
    rcases bsel_some h2_ with ⟨hc1, h2_⟩ | ⟨hc1, h2_⟩
    · refine RunC.regionW ?_
      refine ROps.l (r := AV.b true) rfl rfl rfl (LOp.eqb (LOp.lss rfl rfl rfl) hc1) ?_
      refine ROps.nil ?_
      refine RunC.seq ?_
      refine RunC.cond_true rfl rfl ?_
      refine RunC.skip ?_
      refine RunC.seq ?_
      refine RunC.block ?_
      refine RunC.seq ?_
      refine RunC.regionW ?_
      refine ROps.l (r := AV.i64 v4) rfl rfl rfl (LOp.move rfl rfl) ?_
      refine ROps.l (r := AV.i64 v4) rfl rfl rfl (LOp.assign rfl rfl) ?_
      refine ROps.nil ?_
      obtain ⟨r5, hf2, h2_⟩ := obind_some h2_
      obtain ⟨hm3, h2_⟩ := need_some h2_
      refine RunC.regionW ?_
      refine ROps.l (r := AV.oref 0 u1 0 L3.length) rfl rfl rfl (LOp.move rfl rfl) ?_
      refine ROps.l (r := AV.agg [AV.i64 a0, AV.i64 a1, AV.sl a2.length (a2.map AV.f32)]) rfl rfl rfl (LOp.loadAgg agg27 siz27 rfl rfl rfl rfl) ?_
      refine ROps.l (r := AV.i64 v4) rfl rfl rfl (LOp.move rfl rfl) ?_
      refine ROps.l (r := AV.i64 a3) rfl rfl rfl (LOp.move rfl rfl) ?_
      refine ROps.d (r := AV.f32 r5) (fs := []) (Γ' := [⟨u1, some (L3.map AV.f32)⟩, ⟨u2, none⟩]) rfl rfl rfl (TOp.callB (CallAs.func ent51 rfl rfl) (Bors.cons (Bor.agg (Bors.cons (Bor.pure rfl) (Bors.cons (Bor.pure rfl) (Bors.cons (Bor.sl (fun _ => rfl)) Bors.nil)))) (Bors.cons (Bor.pure rfl) (Bors.cons (Bor.pure rfl) Bors.nil))) rfl rfl (i_Matrix_at_ok a0 a1 a2 v4 a3 r5 hf2)) rfl ?_
      refine ROps.d (r := AV.oref 1 (u2 + 1) 0 1) (fs := [(1, (([r5] : List F).map AV.f32))]) (Γ' := [⟨u1, some (L3.map AV.f32)⟩, ⟨(u2 + 1), some (([r5] : List F).map AV.f32)⟩]) rfl rfl rfl (TOp.buildSlice_o (g := ⟨u2, none⟩) (za := AV.f32 (some 0)) (qs := [(0, [AV.f32 r5])]) 1 rfl und22 siz25 zer25 rfl zel25 rfl rfl ⟨rfl, ⟨_, ALe.refl _, rfl⟩, trivial⟩ rfl) rfl ?_
      refine ROps.app (f := AV.f32) (xs := L3) (ys := ([r5] : List F)) (Γ' := [⟨(u1 + 1), some ((L3 ++ ([r5] : List F)).map AV.f32)⟩, ⟨(u2 + 1), some (([r5] : List F).map AV.f32)⟩]) rfl pun22 inf25 rfl rfl rfl rfl rfl rfl rfl rfl rfl (by simp) (ReadAs.own rfl (by simp)) (ones_map (fun _ => rfl)) (ap_by hm3) (ap_mx hm3) rfl ?_
      refine ROps.l (r := AV.oref 0 (u1 + 1) 0 (L3.length + 1)) rfl rfl rfl (LOp.assign rfl rfl) ?_
      refine ROps.nil ?_
      refine RunC.wl (τ' := [(1, AV.i64 a3), (2, AV.ptr [AV.i64 a0, AV.i64 a1, AV.sl a2.length (a2.map AV.f32)]), (5, AV.oref 0 (u1 + 1) 0 (L3.length + 1)), (9, AV.i64 a0), (10, AV.i64 v4)]) (Γ' := [⟨(u1 + 1), some ((L3 ++ ([r5] : List F)).map AV.f32)⟩, ⟨(u2 + 1), none⟩]) ⟨(ALe.refl _), (ALe.refl _), (ALe.refl _), (ALe.refl _), (ALe.refl _), trivial⟩ ⟨⟨rfl, .inr rfl⟩, ⟨rfl, .inl rfl⟩, trivial⟩ ?_
      obtain ⟨x6, hx4, h2_⟩ := olet_some h2_
      refine RunC.regionW ?_
      refine ROps.l (r := AV.i64 x6) rfl rfl rfl (LOp.eqr (LOp.add rfl rfl rfl) (congrArg (AV.ik .i64) hx4)) ?_
      refine ROps.l (r := AV.i64 x6) rfl rfl rfl (LOp.move rfl rfl) ?_
      refine ROps.nil ?_
      cases Option.some.inj h2_
      exact ⟨_, rfl, (u1 + 1), (u2 + 1), ⟨(ALe.refl _), (ALe.refl _), (ALe.eq (by rw [(app_len rfl rfl)] <;> rfl)), (ALe.refl _), (ALe.refl _), trivial⟩, ⟨⟨rfl, .inr rfl⟩, ⟨rfl, .inl rfl⟩, trivial⟩⟩
    · refine RunC.regionW ?_
      refine ROps.l (r := AV.b false) rfl rfl rfl (LOp.eqb (LOp.lss rfl rfl rfl) hc1) ?_
      refine ROps.nil ?_
      refine RunC.seq ?_
      refine RunC.cond_false rfl rfl ?_
      refine RunC.exit ?_
      cases Option.some.inj h2_
      have hx := ho2 _ rfl
      exact ⟨L3, u1, u2, ⟨(ALe.refl _), trivial⟩, ⟨⟨rfl, .inr rfl⟩, ⟨rfl, .inl rfl⟩, trivial⟩, hx⟩
  · rintro τ3 Γ3 ⟨L9, u7, u8, hw3, hd3, rfl⟩
    refine RunC.wl (τ' := [(5, AV.oref 0 u7 0 L9.length)]) (Γ' := [⟨u7, some (L9.map AV.f32)⟩, ⟨u8, none⟩]) hw3 hd3 ?_
    replace h : i_Matrix_column_k1 L9 = some q0 := h
    unfold i_Matrix_column_k1 at h
    refine RunC.seq ?_
    refine RunC.regionW ?_
    refine ROps.l (r := AV.oref 0 u7 0 L9.length) rfl rfl rfl (LOp.move rfl rfl) ?_
    refine ROps.l (r := AV.oref 0 u7 0 L9.length) rfl rfl rfl (LOp.assign rfl rfl) ?_
    refine ROps.nil ?_
    refine RunC.ret ?_
    have hq := Option.some.inj h
    subst q0
    exact bodyQ.mk (r' := AV.oref 0 u7 0 L9.length) [(0, u7)] (.inr rfl) rfl (show List.Nodup [0] from by decide) (by simp [AV.ren, AV.rens, sigma]) rfl (Res.one rfl (RV.tmp rfl)) (SelL.arr0 (f := AV.f32) (fun _ => rfl) rfl trivial)
noncomputable def i_mul (a0 : F) (a1 : F) : Option (F) :=
  olet (fop .mul .f32 a0 a1) fun (x1 : F) =>
  some x1
theorem i_mul_ok (a0 : F) (a1 : F) (q0 : F) (h : i_mul a0 a1 = some q0) : Ev Try.prog 54 [AV.f32 a0, AV.f32 a1] [] (AV.f32 q0) [] := by
  refine Ev.start Try.func54 rfl rfl 0 (τ := [(0, AV.f32 a0), (1, AV.f32 a1)]) rfl (Γ' := []) rfl (n := 17) rfl (g := 0) rfl (fun _ => rfl) ?_
  unfold i_mul at h
  refine RunC.seq ?_
  refine RunC.regionW ?_
  refine ROps.l (r := AV.f32 (some 0)) rfl rfl rfl (LOp.le (LOp.assign rfl rfl) (ALe.fl (by kernel_rfl) (by kernel_rfl))) ?_
  refine ROps.nil ?_
  refine RunC.seq ?_
  obtain ⟨x1, hx1, h⟩ := olet_some h
  refine RunC.regionW ?_
  refine ROps.l (r := AV.f32 a0) rfl rfl rfl (LOp.move rfl rfl) ?_
  refine ROps.l (r := AV.f32 a1) rfl rfl rfl (LOp.move rfl rfl) ?_
  refine ROps.d (r := AV.f32 x1) (fs := []) (Γ' := []) rfl rfl rfl (TOp.eqr (TOp.fop (.inr (.inr (.inl rfl))) rfl (OpF.tmp rfl) (OpF.tmp rfl)) (congrArg (AV.f .f32) hx1)) rfl ?_
  refine ROps.l (r := AV.f32 x1) rfl rfl rfl (LOp.assign rfl rfl) ?_
  refine ROps.nil ?_
  refine RunC.ret ?_
  have hq := Option.some.inj h
  subst q0
  exact bodyQ.pure (.inr rfl) rfl (Res.one rfl (RV.tmp rfl))
noncomputable def i_dot_b1 (a0 : List F) (a1 : List F) (y1 : F) (v2 : Int) : Option (LR (F × Int) (F) (F)) :=
  bsel (decide (v2 < (a0.length : Int))) (
    obind (at? a0 v2) fun (e3 : F) =>
    obind (at? a1 v2) fun (e4 : F) =>
    obind (i_mul e3 e4) fun (r5 : F) =>
    olet (fop .add .f32 y1 r5) fun (x6 : F) =>
    olet (IntKind.i64.wrap (v2 + 1)) fun (x7 : Int) =>
    some (LR.next (x6, x7))) (
    some (LR.out y1))
noncomputable def i_dot_s1 (a0 : List F) (a1 : List F) : (F × Int) → Option (LR (F × Int) (F) (F)) := fun s => i_dot_b1 a0 a1 s.1 s.2
noncomputable def i_dot_k1 (y8 : F) : Option (F) :=
  some y8
noncomputable def i_dot (a0 : List F) (a1 : List F) : Option (F) :=
  obind (loopM (i_dot_s1 a0 a1) (some 0, 0)) fun z => osum z (fun e => i_dot_k1 e) (fun r => some r)
theorem i_dot_ok (a0 : List F) (a1 : List F) (q0 : F) (h : i_dot a0 a1 = some q0) : Ev Try.prog 83 [AV.sl a0.length (a0.map AV.f32), AV.sl a1.length (a1.map AV.f32)] [] (AV.f32 q0) [] := by
  refine Ev.start Try.func83 rfl rfl 0 (τ := [(0, AV.sl a0.length (a0.map AV.f32)), (1, AV.sl a1.length (a1.map AV.f32))]) rfl (Γ' := []) rfl (n := 51) rfl (g := 0) rfl (fun _ => rfl) ?_
  unfold i_dot at h
  refine RunC.seq ?_
  refine RunC.regionW ?_
  refine ROps.l (r := AV.f32 (some 0)) rfl rfl rfl (LOp.le (LOp.assign rfl rfl) (ALe.fl (by kernel_rfl) (by kernel_rfl))) ?_
  refine ROps.nil ?_
  refine RunC.seq ?_
  refine RunC.regionW ?_
  refine ROps.l (r := AV.f32 (some 0)) rfl rfl rfl (LOp.le (LOp.assign rfl rfl) (ALe.fl (by kernel_rfl) (by kernel_rfl))) ?_
  refine ROps.nil ?_
  refine RunC.seq ?_
  refine RunC.seq ?_
  refine RunC.regionW ?_
  refine ROps.l (r := AV.sl a0.length (a0.map AV.f32)) rfl rfl rfl (LOp.move rfl rfl) ?_
  refine ROps.l (r := AV.i64 (a0.length : Int)) rfl rfl rfl (LOp.len_sl und22 rfl rfl) ?_
  refine ROps.l (r := AV.i64 0) rfl rfl rfl (LOp.move rfl rfl) ?_
  refine ROps.nil ?_
  obtain ⟨z2, hz_2, h⟩ := obind_some h
  refine RunC.cutN (fun τ Γ => ∃ (y8 : F), WeakLe τ [(5, AV.f32 y8)] ∧ DeadLe Γ [] ∧ z2 = .inl y8) ?_ ?_
  · refine RunC.block (RunC.loop (RunL.loopM (x := z2) (i_dot_s1 a0 a1) (fun (s : F × Int) τ Γ => WeakLe τ [(1, AV.sl a1.length (a1.map AV.f32)), (5, AV.f32 s.1), (8, AV.sl a0.length (a0.map AV.f32)), (9, AV.i64 (a0.length : Int)), (10, AV.i64 s.2)] ∧ DeadLe Γ []) ?_ _ _ _ hz_2 ⟨⟨(ALe.refl _), (ALe.refl _), (ALe.refl _), (ALe.refl _), (ALe.refl _), trivial⟩, trivial⟩))
    rintro ⟨y1, v2⟩ τ2 Γ2 y2_ ⟨hw2, hd2⟩ h2_ ho2 hr2
    refine RunC.wl (τ' := [(1, AV.sl a1.length (a1.map AV.f32)), (5, AV.f32 y1), (8, AV.sl a0.length (a0.map AV.f32)), (9, AV.i64 (a0.length : Int)), (10, AV.i64 v2)]) (Γ' := []) hw2 hd2 ?_
    replace h2_ : i_dot_b1 a0 a1 y1 v2 = some y2_ := h2_
    unfold i_dot_b1 at h2_
    refine RunC.seq ?_
    rcases bsel_some h2_ with ⟨hc1, h2_⟩ | ⟨hc1, h2_⟩
    · refine RunC.regionW ?_
      refine ROps.l (r := AV.b true) rfl rfl rfl (LOp.eqb (LOp.lss rfl rfl rfl) hc1) ?_
      refine ROps.nil ?_
      refine RunC.seq ?_
      refine RunC.cond_true rfl rfl ?_
      refine RunC.skip ?_
      refine RunC.seq ?_
      refine RunC.block ?_
      refine RunC.seq ?_
      obtain ⟨e3, he2, h2_⟩ := obind_some h2_
      refine RunC.regionW ?_
      refine ROps.l (r := AV.i64 v2) rfl rfl rfl (LOp.move rfl rfl) ?_
      refine ROps.l (r := AV.ptr [AV.f32 e3]) rfl rfl rfl (LOp.le (LOp.ix (f := AV.f32) und22 siz25 rfl rfl rfl rfl he2) ALe.ptr) ?_
      refine ROps.l (r := AV.f32 e3) rfl rfl rfl (LOp.load1 agg25 rfl rfl) ?_
      refine ROps.l (r := AV.i64 v2) rfl rfl rfl (LOp.assign rfl rfl) ?_
      refine ROps.l (r := AV.f32 e3) rfl rfl rfl (LOp.assign rfl rfl) ?_
      refine ROps.nil ?_
      obtain ⟨e4, he3, h2_⟩ := obind_some h2_
      obtain ⟨r5, hf4, h2_⟩ := obind_some h2_
      obtain ⟨x6, hx5, h2_⟩ := olet_some h2_
      refine RunC.regionW ?_
      refine ROps.l (r := AV.f32 y1) rfl rfl rfl (LOp.move rfl rfl) ?_
      refine ROps.l (r := AV.f32 e3) rfl rfl rfl (LOp.move rfl rfl) ?_
      refine ROps.l (r := AV.sl a1.length (a1.map AV.f32)) rfl rfl rfl (LOp.move rfl rfl) ?_
      refine ROps.l (r := AV.i64 v2) rfl rfl rfl (LOp.move rfl rfl) ?_
      refine ROps.l (r := AV.ptr [AV.f32 e4]) rfl rfl rfl (LOp.le (LOp.ix (f := AV.f32) und22 siz25 rfl rfl rfl rfl he3) ALe.ptr) ?_
      refine ROps.l (r := AV.f32 e4) rfl rfl rfl (LOp.load1 agg25 rfl rfl) ?_
      refine ROps.d (r := AV.f32 r5) (fs := []) (Γ' := []) rfl rfl rfl (TOp.callB (CallAs.func ent54 rfl rfl) (Bors.cons (Bor.pure rfl) (Bors.cons (Bor.pure rfl) Bors.nil)) rfl rfl (i_mul_ok e3 e4 r5 hf4)) rfl ?_
      refine ROps.d (r := AV.f32 x6) (fs := []) (Γ' := []) rfl rfl rfl (TOp.eqr (TOp.fop (.inl rfl) rfl (OpF.tmp rfl) (OpF.tmp rfl)) (congrArg (AV.f .f32) hx5)) rfl ?_
      refine ROps.l (r := AV.f32 x6) rfl rfl rfl (LOp.assign rfl rfl) ?_
      refine ROps.nil ?_
      refine RunC.wl (τ' := [(1, AV.sl a1.length (a1.map AV.f32)), (5, AV.f32 x6), (8, AV.sl a0.length (a0.map AV.f32)), (9, AV.i64 (a0.length : Int)), (10, AV.i64 v2)]) (Γ' := []) ⟨(ALe.refl _), (ALe.refl _), (ALe.refl _), (ALe.refl _), (ALe.refl _), trivial⟩ trivial ?_
      obtain ⟨x7, hx6, h2_⟩ := olet_some h2_
      refine RunC.regionW ?_
      refine ROps.l (r := AV.i64 x7) rfl rfl rfl (LOp.eqr (LOp.add rfl rfl rfl) (congrArg (AV.ik .i64) hx6)) ?_
      refine ROps.l (r := AV.i64 x7) rfl rfl rfl (LOp.move rfl rfl) ?_
      refine ROps.nil ?_
      cases Option.some.inj h2_
      exact ⟨_, rfl, ⟨(ALe.refl _), (ALe.refl _), (ALe.refl _), (ALe.refl _), (ALe.refl _), trivial⟩, trivial⟩
    · refine RunC.regionW ?_
      refine ROps.l (r := AV.b false) rfl rfl rfl (LOp.eqb (LOp.lss rfl rfl rfl) hc1) ?_
      refine ROps.nil ?_
      refine RunC.seq ?_
      refine RunC.cond_false rfl rfl ?_
      refine RunC.exit ?_
      cases Option.some.inj h2_
      have hx := ho2 _ rfl
      exact ⟨y1, ⟨(ALe.refl _), trivial⟩, trivial, hx⟩
  · rintro τ3 Γ3 ⟨y8, hw3, hd3, rfl⟩
    refine RunC.wl (τ' := [(5, AV.f32 y8)]) (Γ' := []) hw3 hd3 ?_
    replace h : i_dot_k1 y8 = some q0 := h
    unfold i_dot_k1 at h
    refine RunC.seq ?_
    refine RunC.regionW ?_
    refine ROps.l (r := AV.f32 y8) rfl rfl rfl (LOp.move rfl rfl) ?_
    refine ROps.l (r := AV.f32 y8) rfl rfl rfl (LOp.assign rfl rfl) ?_
    refine ROps.nil ?_
    refine RunC.ret ?_
    have hq := Option.some.inj h
    subst q0
    exact bodyQ.pure (.inr rfl) rfl (Res.one rfl (RV.tmp rfl))
noncomputable def i_product_1 (a0 : Int) (a1 : Int) (a2 : Int) (a3 : Int) (a4 : List F) (a5 : Int) (a6 : Int) (a7 : List F) : Option (F) :=
  obind (i_Matrix_row a2 a3 a4 a0) fun (r1 : List F) =>
  obind (i_Matrix_column a5 a6 a7 a1) fun (r2 : List F) =>
  obind (i_dot r1 r2) fun (r3 : F) =>
  some r3
theorem i_product_1_ok (a0 : Int) (a1 : Int) (a2 : Int) (a3 : Int) (a4 : List F) (a5 : Int) (a6 : Int) (a7 : List F) (q0 : F) (h : i_product_1 a0 a1 a2 a3 a4 a5 a6 a7 = some q0) : Ev Try.prog 121 [AV.i64 a0, AV.i64 a1, AV.ptr [AV.i64 a2, AV.i64 a3, AV.sl a4.length (a4.map AV.f32)], AV.ptr [AV.i64 a5, AV.i64 a6, AV.sl a7.length (a7.map AV.f32)]] [] (AV.f32 q0) [] := by
  refine Ev.start Try.func121 rfl rfl 0 (τ := [(0, AV.i64 a0), (1, AV.i64 a1), (2, AV.ptr [AV.i64 a2, AV.i64 a3, AV.sl a4.length (a4.map AV.f32)]), (3, AV.ptr [AV.i64 a5, AV.i64 a6, AV.sl a7.length (a7.map AV.f32)])]) rfl (Γ' := []) rfl (n := 29) rfl (g := 0) rfl (fun _ => rfl) ?_
  unfold i_product_1 at h
  refine RunC.seq ?_
  refine RunC.regionW ?_
  refine ROps.l (r := AV.f32 (some 0)) rfl rfl rfl (LOp.le (LOp.assign rfl rfl) (ALe.fl (by kernel_rfl) (by kernel_rfl))) ?_
  refine ROps.nil ?_
  refine RunC.seq ?_
  obtain ⟨r1, hf1, h⟩ := obind_some h
  obtain ⟨r2, hf2, h⟩ := obind_some h
  obtain ⟨r3, hf3, h⟩ := obind_some h
  refine RunC.region_draw (Γ' := []) 8 mixed 
    (TR.l (r := AV.agg [AV.i64 a2, AV.i64 a3, AV.sl a4.length (a4.map AV.f32)]) rfl rfl (LOp.loadAgg agg27 siz27 rfl rfl rfl rfl) <|
    (TR.l (r := AV.i64 a0) rfl rfl (LOp.move rfl rfl) <|
    (TR.d (r := AV.sl r1.length (r1.map AV.f32)) (fs := []) rfl rfl (TOp.callS (CallAs.func ent52 rfl rfl) (ALes.cons (ALe.refl _) (ALes.cons (ALe.refl _) ALes.nil)) (lts_cons (lt_agg (lts_cons rfl (lts_cons rfl (lts_cons (lt_sl (fun _ => rfl)) lts_nil)))) (lts_cons rfl lts_nil)) (lt_sl (fun _ => rfl)) (i_Matrix_row_ok a2 a3 a4 a0 r1 hf1) (Bor.own (f := AV.f32) (fun _ => rfl) rfl rfl)) <|
    (TR.l (r := AV.agg [AV.i64 a5, AV.i64 a6, AV.sl a7.length (a7.map AV.f32)]) rfl rfl (LOp.loadAgg agg27 siz27 rfl rfl rfl rfl) <|
    (TR.l (r := AV.i64 a1) rfl rfl (LOp.move rfl rfl) <|
    (TR.d (r := AV.sl r2.length (r2.map AV.f32)) (fs := []) rfl rfl (TOp.callS (CallAs.func ent53 rfl rfl) (ALes.cons (ALe.refl _) (ALes.cons (ALe.refl _) ALes.nil)) (lts_cons (lt_agg (lts_cons rfl (lts_cons rfl (lts_cons (lt_sl (fun _ => rfl)) lts_nil)))) (lts_cons rfl lts_nil)) (lt_sl (fun _ => rfl)) (i_Matrix_column_ok a5 a6 a7 a1 r2 hf2) (Bor.own (f := AV.f32) (fun _ => rfl) rfl rfl)) <|
    (TR.d (r := AV.f32 r3) (fs := []) rfl rfl (TOp.callB (CallAs.func ent83 rfl rfl) (Bors.cons (Bor.sl (fun _ => rfl)) (Bors.cons (Bor.sl (fun _ => rfl)) Bors.nil)) rfl rfl (i_dot_ok r1 r2 r3 hf3)) <|
    (TR.l (r := AV.f32 r3) rfl rfl (LOp.assign rfl rfl) <|
    TR.nil)))))))) rfl (by kernel_rfl) rfl fills_nil rfl ?_
  iterate 8 refine ROps.dropS ?_
  refine ROps.drop0 ?_
  refine ROps.nil ?_
  refine RunC.ret ?_
  have hq := Option.some.inj h
  subst q0
  exact bodyQ.pure (.inr rfl) rfl (Res.one rfl (RV.tmp rfl))
noncomputable def i_made_2Fi_product_1_b2 (a1 : Int) (a2 : Int) (a3 : Int) (a4 : List F) (a5 : Int) (a6 : Int) (a7 : List F) (r1 : Int) (r2 : Int) (r3 : List F) (v6 : Int) (L7 : List F) (v9 : Int) : Option (LR ((List F) × Int) ((List F)) (Int × Int × (List F))) :=
  bsel (decide (v9 < a1)) (
    obind (i_product_1 v6 v9 a2 a3 a4 a5 a6 a7) fun (r11 : F) =>
    obind (i_Matrix_set_02o r1 r2 v6 v9 r11 L7) fun (r12 : List F) =>
    need (decide (r12.length = r3.length)) <|
    olet (IntKind.i64.wrap (v9 + 1)) fun (x13 : Int) =>
    some (LR.next (r12, x13))) (
    some (LR.out L7))
noncomputable def i_made_2Fi_product_1_s2 (a1 : Int) (a2 : Int) (a3 : Int) (a4 : List F) (a5 : Int) (a6 : Int) (a7 : List F) (r1 : Int) (r2 : Int) (r3 : List F) (v6 : Int) : ((List F) × Int) → Option (LR ((List F) × Int) ((List F)) (Int × Int × (List F))) := fun s => i_made_2Fi_product_1_b2 a1 a2 a3 a4 a5 a6 a7 r1 r2 r3 v6 s.1 s.2
noncomputable def i_made_2Fi_product_1_k2 (v6 : Int) (L14 : List F) : Option (LR ((List F) × Int) ((List F)) (Int × Int × (List F))) :=
  olet (IntKind.i64.wrap (v6 + 1)) fun (x16 : Int) =>
  some (LR.next (L14, x16))
noncomputable def i_made_2Fi_product_1_b3 (a0 : Int) (a1 : Int) (a2 : Int) (a3 : Int) (a4 : List F) (a5 : Int) (a6 : Int) (a7 : List F) (r1 : Int) (r2 : Int) (r3 : List F) (L4 : List F) (v6 : Int) : Option (LR ((List F) × Int) ((List F)) (Int × Int × (List F))) :=
  bsel (decide (v6 < a0)) (
    obind (loopM (i_made_2Fi_product_1_s2 a1 a2 a3 a4 a5 a6 a7 r1 r2 r3 v6) (L4, 0)) fun z => osum z (fun e => i_made_2Fi_product_1_k2 v6 e) (fun r => some (LR.ret r))) (
    some (LR.out L4))
noncomputable def i_made_2Fi_product_1_s3 (a0 : Int) (a1 : Int) (a2 : Int) (a3 : Int) (a4 : List F) (a5 : Int) (a6 : Int) (a7 : List F) (r1 : Int) (r2 : Int) (r3 : List F) : ((List F) × Int) → Option (LR ((List F) × Int) ((List F)) (Int × Int × (List F))) := fun s => i_made_2Fi_product_1_b3 a0 a1 a2 a3 a4 a5 a6 a7 r1 r2 r3 s.1 s.2
noncomputable def i_made_2Fi_product_1_k3 (r1 : Int) (r2 : Int) (L17 : List F) : Option (Int × Int × (List F)) :=
  some (r1, r2, L17)
noncomputable def i_made_2Fi_product_1 (a0 : Int) (a1 : Int) (a2 : Int) (a3 : Int) (a4 : List F) (a5 : Int) (a6 : Int) (a7 : List F) : Option (Int × Int × (List F)) :=
  obind3 (i_newMatrix a0 a1) fun (r1 : Int) (r2 : Int) (r3 : List F) =>
  obind (loopM (i_made_2Fi_product_1_s3 a0 a1 a2 a3 a4 a5 a6 a7 r1 r2 r3) (r3, 0)) fun z => osum z (fun e => i_made_2Fi_product_1_k3 r1 r2 e) (fun r => some r)
theorem i_made_2Fi_product_1_ok (a0 : Int) (a1 : Int) (a2 : Int) (a3 : Int) (a4 : List F) (a5 : Int) (a6 : Int) (a7 : List F) (q0 : Int) (q1 : Int) (q2 : List F) (h : i_made_2Fi_product_1 a0 a1 a2 a3 a4 a5 a6 a7 = some (q0, q1, q2)) : Ev Try.prog 110 [AV.i64 a0, AV.i64 a1, AV.fn (.func 121) [] [AV.ptr [AV.i64 a2, AV.i64 a3, AV.sl a4.length (a4.map AV.f32)], AV.ptr [AV.i64 a5, AV.i64 a6, AV.sl a7.length (a7.map AV.f32)]]] [] (AV.agg [AV.i64 q0, AV.i64 q1, AV.oref 0 0 0 q2.length]) [⟨0, some (q2.map AV.f32)⟩] := by
  refine Ev.start Try.func110 rfl rfl 3 (τ := [(0, AV.i64 a0), (1, AV.i64 a1), (2, AV.fn (.func 121) [] [AV.ptr [AV.i64 a2, AV.i64 a3, AV.sl a4.length (a4.map AV.f32)], AV.ptr [AV.i64 a5, AV.i64 a6, AV.sl a7.length (a7.map AV.f32)]])]) rfl (Γ' := [⟨0, none⟩, ⟨0, none⟩, ⟨0, none⟩]) rfl (n := 65) rfl (g := 0) rfl (fun _ => rfl) ?_
  unfold i_made_2Fi_product_1 at h
  refine RunC.seq ?_
  refine RunC.regionW ?_
  refine ROps.d (r := AV.optr 0 1 0) (fs := [(0, [AV.i64 0, AV.i64 0, AV.nilsl])]) (Γ' := [⟨1, some [AV.i64 0, AV.i64 0, AV.nilsl]⟩, ⟨0, none⟩, ⟨0, none⟩]) rfl rfl rfl (TOp.alloc_o (g := ⟨0, none⟩) 0 rfl zer27 zok27 rfl) rfl ?_
  refine ROps.nil ?_
  refine RunC.seq ?_
  obtain ⟨r1, r2, r3, hf1, h⟩ := obind3_some h
  refine RunC.regionW ?_
  refine ROps.l (r := AV.i64 a0) rfl rfl rfl (LOp.move rfl rfl) ?_
  refine ROps.l (r := AV.i64 a1) rfl rfl rfl (LOp.move rfl rfl) ?_
  refine ROps.d (r := AV.agg [AV.i64 r1, AV.i64 r2, AV.oref 1 1 0 r3.length]) (fs := [(1, (r3.map AV.f32))]) (Γ' := [⟨1, some [AV.i64 0, AV.i64 0, AV.nilsl]⟩, ⟨1, some (r3.map AV.f32)⟩, ⟨0, none⟩]) rfl rfl rfl (TOp.callBN (ls := [(r3.map AV.f32)]) [1] (CallAs.func ent49 rfl rfl) (Bors.cons (Bor.pure rfl) (Bors.cons (Bor.pure rfl) Bors.nil)) rfl (i_newMatrix_ok a0 a1 r1 r2 r3 hf1) (and_all (lts0_map (f := AV.f32) (fun _ => rfl) _) rfl) (and_all (noss_map (f := AV.f32) (fun _ => rfl) _) rfl) rfl (by decide) (ns_of ⟨⟨_, rfl⟩, trivial⟩)) rfl ?_
  refine ROps.d (r := AV.optr 2 1 0) (fs := [(2, [AV.i64 0, AV.i64 0, AV.nilsl])]) (Γ' := [⟨1, some [AV.i64 0, AV.i64 0, AV.nilsl]⟩, ⟨1, some (r3.map AV.f32)⟩, ⟨1, some [AV.i64 0, AV.i64 0, AV.nilsl]⟩]) rfl rfl rfl (TOp.alloc_o (g := ⟨0, none⟩) 2 rfl zer27 zok27 rfl) rfl ?_
  refine ROps.store_le (r := AV.agg [AV.i64 r1, AV.i64 r2, AV.oref 1 1 0 r3.length]) (l' := [AV.i64 r1, AV.i64 r2, AV.oref 1 1 0 r3.length]) (Γ' := [⟨1, some [AV.i64 0, AV.i64 0, AV.nilsl]⟩, ⟨1, some (r3.map AV.f32)⟩, ⟨1, some [AV.i64 r1, AV.i64 r2, AV.oref 1 1 0 r3.length]⟩]) rfl siz27 rfl rfl rfl (ALe.refl _) rfl rfl rfl rfl (Nat.le_of_ble_eq_true rfl) rfl rfl ?_
  refine ROps.nil ?_
  refine RunC.seq ?_
  refine RunC.seq ?_
  refine RunC.regionW ?_
  refine ROps.l (r := AV.i64 a0) rfl rfl rfl (LOp.move rfl rfl) ?_
  refine ROps.l (r := AV.i64 0) rfl rfl rfl (LOp.move rfl rfl) ?_
  refine ROps.nil ?_
  obtain ⟨z4, hz_4, h⟩ := obind_some h
  refine RunC.cutN (fun τ Γ => ∃ (L17 : List F), L17.length = r3.length ∧ WeakLe τ [(6, AV.optr 0 1 0), (7, AV.optr 2 1 0)] ∧ DeadLe Γ [⟨1, some [AV.i64 0, AV.i64 0, AV.nilsl]⟩, ⟨1, some (L17.map AV.f32)⟩, ⟨1, some [AV.i64 r1, AV.i64 r2, AV.oref 1 1 0 r3.length]⟩] ∧ z4 = .inl L17) ?_ ?_
  · refine RunC.block (RunC.loop (RunL.loopM (x := z4) (i_made_2Fi_product_1_s3 a0 a1 a2 a3 a4 a5 a6 a7 r1 r2 r3) (fun (s : (List F) × Int) τ Γ => s.1.length = r3.length ∧ WeakLe τ [(1, AV.i64 a1), (2, AV.fn (.func 121) [] [AV.ptr [AV.i64 a2, AV.i64 a3, AV.sl a4.length (a4.map AV.f32)], AV.ptr [AV.i64 a5, AV.i64 a6, AV.sl a7.length (a7.map AV.f32)]]), (6, AV.optr 0 1 0), (7, AV.optr 2 1 0), (13, AV.i64 a0), (14, AV.i64 s.2)] ∧ DeadLe Γ [⟨1, some [AV.i64 0, AV.i64 0, AV.nilsl]⟩, ⟨1, some (s.1.map AV.f32)⟩, ⟨1, some [AV.i64 r1, AV.i64 r2, AV.oref 1 1 0 r3.length]⟩]) ?_ _ _ _ hz_4 ⟨rfl, ⟨(ALe.refl _), (ALe.refl _), (ALe.refl _), (ALe.refl _), (ALe.refl _), (ALe.refl _), trivial⟩, ⟨⟨rfl, .inr rfl⟩, ⟨rfl, .inr rfl⟩, ⟨rfl, .inr rfl⟩, trivial⟩⟩))
    rintro ⟨L4, v6⟩ τ4 Γ4 y4_ ⟨hl5, hw4, hd4⟩ h4_ ho4 hr4
    refine RunC.wl (τ' := [(1, AV.i64 a1), (2, AV.fn (.func 121) [] [AV.ptr [AV.i64 a2, AV.i64 a3, AV.sl a4.length (a4.map AV.f32)], AV.ptr [AV.i64 a5, AV.i64 a6, AV.sl a7.length (a7.map AV.f32)]]), (6, AV.optr 0 1 0), (7, AV.optr 2 1 0), (13, AV.i64 a0), (14, AV.i64 v6)]) (Γ' := [⟨1, some [AV.i64 0, AV.i64 0, AV.nilsl]⟩, ⟨1, some (L4.map AV.f32)⟩, ⟨1, some [AV.i64 r1, AV.i64 r2, AV.oref 1 1 0 r3.length]⟩]) hw4 hd4 ?_
    replace hl5 : L4.length = r3.length := hl5
    replace h4_ : i_made_2Fi_product_1_b3 a0 a1 a2 a3 a4 a5 a6 a7 r1 r2 r3 L4 v6 = some y4_ := h4_
    unfold i_made_2Fi_product_1_b3 at h4_
    refine RunC.seq ?_
    rcases bsel_some h4_ with ⟨hc2, h4_⟩ | ⟨hc2, h4_⟩
    · refine RunC.regionW ?_
      refine ROps.l (r := AV.b true) rfl rfl rfl (LOp.eqb (LOp.lss rfl rfl rfl) hc2) ?_
      refine ROps.nil ?_
      refine RunC.seq ?_
      refine RunC.cond_true rfl rfl ?_
      refine RunC.skip ?_
      refine RunC.seq ?_
      refine RunC.block ?_
      refine RunC.seq ?_
      refine RunC.regionW ?_
      refine ROps.l (r := AV.i64 v6) rfl rfl rfl (LOp.move rfl rfl) ?_
      refine ROps.l (r := AV.i64 v6) rfl rfl rfl (LOp.assign rfl rfl) ?_
      refine ROps.nil ?_
      refine RunC.seq ?_
      refine RunC.regionW ?_
      refine ROps.l (r := AV.i64 a1) rfl rfl rfl (LOp.move rfl rfl) ?_
      refine ROps.l (r := AV.i64 0) rfl rfl rfl (LOp.move rfl rfl) ?_
      refine ROps.nil ?_
      obtain ⟨z5, hz_5, h4_⟩ := obind_some h4_
      refine RunC.cutN (fun τ Γ => ∃ (L14 : List F), L14.length = r3.length ∧ WeakLe τ [(1, AV.i64 a1), (2, AV.fn (.func 121) [] [AV.ptr [AV.i64 a2, AV.i64 a3, AV.sl a4.length (a4.map AV.f32)], AV.ptr [AV.i64 a5, AV.i64 a6, AV.sl a7.length (a7.map AV.f32)]]), (6, AV.optr 0 1 0), (7, AV.optr 2 1 0), (13, AV.i64 a0), (14, AV.i64 v6)] ∧ DeadLe Γ [⟨1, some [AV.i64 0, AV.i64 0, AV.nilsl]⟩, ⟨1, some (L14.map AV.f32)⟩, ⟨1, some [AV.i64 r1, AV.i64 r2, AV.oref 1 1 0 r3.length]⟩] ∧ z5 = .inl L14) ?_ ?_
      · refine RunC.block (RunC.loop (RunL.loopM (x := z5) (i_made_2Fi_product_1_s2 a1 a2 a3 a4 a5 a6 a7 r1 r2 r3 v6) (fun (s : (List F) × Int) τ Γ => s.1.length = r3.length ∧ WeakLe τ [(1, AV.i64 a1), (2, AV.fn (.func 121) [] [AV.ptr [AV.i64 a2, AV.i64 a3, AV.sl a4.length (a4.map AV.f32)], AV.ptr [AV.i64 a5, AV.i64 a6, AV.sl a7.length (a7.map AV.f32)]]), (6, AV.optr 0 1 0), (7, AV.optr 2 1 0), (8, AV.i64 v6), (13, AV.i64 a0), (14, AV.i64 v6), (17, AV.i64 a1), (18, AV.i64 s.2)] ∧ DeadLe Γ [⟨1, some [AV.i64 0, AV.i64 0, AV.nilsl]⟩, ⟨1, some (s.1.map AV.f32)⟩, ⟨1, some [AV.i64 r1, AV.i64 r2, AV.oref 1 1 0 r3.length]⟩]) ?_ _ _ _ hz_5 ⟨hl5, ⟨(ALe.refl _), (ALe.refl _), (ALe.refl _), (ALe.refl _), (ALe.refl _), (ALe.refl _), (ALe.refl _), (ALe.refl _), (ALe.refl _), trivial⟩, ⟨⟨rfl, .inr rfl⟩, ⟨rfl, .inr rfl⟩, ⟨rfl, .inr rfl⟩, trivial⟩⟩))
        rintro ⟨L7, v9⟩ τ5 Γ5 y5_ ⟨hl8, hw5, hd5⟩ h5_ ho5 hr5
        refine RunC.wl (τ' := [(1, AV.i64 a1), (2, AV.fn (.func 121) [] [AV.ptr [AV.i64 a2, AV.i64 a3, AV.sl a4.length (a4.map AV.f32)], AV.ptr [AV.i64 a5, AV.i64 a6, AV.sl a7.length (a7.map AV.f32)]]), (6, AV.optr 0 1 0), (7, AV.optr 2 1 0), (8, AV.i64 v6), (13, AV.i64 a0), (14, AV.i64 v6), (17, AV.i64 a1), (18, AV.i64 v9)]) (Γ' := [⟨1, some [AV.i64 0, AV.i64 0, AV.nilsl]⟩, ⟨1, some (L7.map AV.f32)⟩, ⟨1, some [AV.i64 r1, AV.i64 r2, AV.oref 1 1 0 r3.length]⟩]) hw5 hd5 ?_
        replace hl8 : L7.length = r3.length := hl8
        replace h5_ : i_made_2Fi_product_1_b2 a1 a2 a3 a4 a5 a6 a7 r1 r2 r3 v6 L7 v9 = some y5_ := h5_
        unfold i_made_2Fi_product_1_b2 at h5_
        refine RunC.seq ?_
        rcases bsel_some h5_ with ⟨hc3, h5_⟩ | ⟨hc3, h5_⟩
        · refine RunC.regionW ?_
          refine ROps.l (r := AV.b true) rfl rfl rfl (LOp.eqb (LOp.lss rfl rfl rfl) hc3) ?_
          refine ROps.nil ?_
          refine RunC.seq ?_
          refine RunC.cond_true rfl rfl ?_
          refine RunC.skip ?_
          refine RunC.seq ?_
          refine RunC.block ?_
          refine RunC.seq ?_
          refine RunC.regionW ?_
          refine ROps.l (r := AV.i64 v9) rfl rfl rfl (LOp.move rfl rfl) ?_
          refine ROps.l (r := AV.i64 v9) rfl rfl rfl (LOp.assign rfl rfl) ?_
          refine ROps.nil ?_
          obtain ⟨r11, hf5, h5_⟩ := obind_some h5_
          obtain ⟨r12, hf6, h5_⟩ := obind_some h5_
          obtain ⟨hn7, h5_⟩ := need_some h5_
          refine RunC.region_draw (Γ' := [⟨1, some [AV.i64 0, AV.i64 0, AV.nilsl]⟩, ⟨1, some (L7.map AV.f32)⟩, ⟨1, some [AV.i64 r1, AV.i64 r2, AV.oref 1 1 0 r3.length]⟩]) 7 mixed 
            (TR.d (r := AV.agg [AV.i64 r1, AV.i64 r2, AV.oref 1 1 0 r3.length]) (fs := []) rfl rfl (TOp.loadAgg_o rfl agg27 siz27 rfl rfl rfl rfl) <|
            (TR.l (r := AV.i64 v6) rfl rfl (LOp.move rfl rfl) <|
            (TR.l (r := AV.i64 v9) rfl rfl (LOp.move rfl rfl) <|
            (TR.l (r := AV.fn (.func 121) [] [AV.ptr [AV.i64 a2, AV.i64 a3, AV.sl a4.length (a4.map AV.f32)], AV.ptr [AV.i64 a5, AV.i64 a6, AV.sl a7.length (a7.map AV.f32)]]) rfl rfl (LOp.move rfl rfl) <|
            (TR.l (r := AV.i64 v6) rfl rfl (LOp.move rfl rfl) <|
            (TR.l (r := AV.i64 v9) rfl rfl (LOp.move rfl rfl) <|
            (TR.d (r := AV.f32 r11) (fs := []) rfl rfl (TOp.callB (CallAs.fn ent121 rfl rfl rfl rfl) (Bors.cons (Bor.pure rfl) (Bors.cons (Bor.pure rfl) (Bors.cons (Bor.ptr (Bors.cons (Bor.pure rfl) (Bors.cons (Bor.pure rfl) (Bors.cons (Bor.sl (fun _ => rfl)) Bors.nil)))) (Bors.cons (Bor.ptr (Bors.cons (Bor.pure rfl) (Bors.cons (Bor.pure rfl) (Bors.cons (Bor.sl (fun _ => rfl)) Bors.nil)))) Bors.nil)))) rfl rfl (i_product_1_ok v6 v9 a2 a3 a4 a5 a6 a7 r11 hf5)) <|
            TR.nil))))))) rfl (by kernel_rfl) rfl fills_nil rfl ?_
          iterate 7 refine ROps.dropS ?_
          refine ROps.drop0 ?_
          refine ROps.callO (A := [AV.agg [AV.i64 r1, AV.i64 r2, AV.oref 1 1 0 r3.length], AV.i64 v6, AV.i64 v9, AV.f32 r11]) (args := [AV.agg [AV.i64 r1, AV.i64 r2, AV.oref 0 0 0 L7.length], AV.i64 v6, AV.i64 v9, AV.f32 r11]) (Γc := [⟨0, some (L7.map AV.f32)⟩]) (Γc' := [⟨0, some (r12.map AV.f32)⟩]) (r' := AV.tup []) (Γ' := [⟨1, some [AV.i64 0, AV.i64 0, AV.nilsl]⟩, ⟨1, some (r12.map AV.f32)⟩, ⟨1, some [AV.i64 r1, AV.i64 r2, AV.oref 1 1 0 r3.length]⟩]) [(1, 1)] [] rfl (CallAs.func ent60 rfl rfl) rfl rfl (SelOk.of (show List.Nodup [1] from by decide) (SelL.arr0 (f := AV.f32) (fun _ => rfl) rfl trivial)) (live_of ⟨⟨_, _, rfl⟩, trivial⟩) (by simp [AV.ren, AV.rens, sigma, rens_f32, rens_f64, rens_i64, rens_ik, rens_str, rens_cp, hl8]) rfl (i_Matrix_set_02o_ok r1 r2 v6 v9 r11 L7 r12 hf6) rfl (news_of trivial) (show List.Nodup [1] from by decide) (by simp [AV.ren, AV.rens, sigma, of_decide_eq_true hn7]) (by simp [backOb, sigma, AV.ren, AV.rens, rens_f32, rens_f64, rens_i64, rens_ik, rens_str, rens_cp]) ?_
          refine ROps.nil ?_
          obtain ⟨x13, hx8, h5_⟩ := olet_some h5_
          refine RunC.regionW ?_
          refine ROps.l (r := AV.i64 x13) rfl rfl rfl (LOp.eqr (LOp.add rfl rfl rfl) (congrArg (AV.ik .i64) hx8)) ?_
          refine ROps.l (r := AV.i64 x13) rfl rfl rfl (LOp.move rfl rfl) ?_
          refine ROps.nil ?_
          cases Option.some.inj h5_
          exact ⟨_, rfl, (of_decide_eq_true hn7), ⟨(ALe.refl _), (ALe.refl _), (ALe.refl _), (ALe.refl _), (ALe.refl _), (ALe.refl _), (ALe.refl _), (ALe.refl _), (ALe.refl _), trivial⟩, ⟨⟨rfl, .inr rfl⟩, ⟨rfl, .inr rfl⟩, ⟨rfl, .inr rfl⟩, trivial⟩⟩
        · refine RunC.regionW ?_
          refine ROps.l (r := AV.b false) rfl rfl rfl (LOp.eqb (LOp.lss rfl rfl rfl) hc3) ?_
          refine ROps.nil ?_
          refine RunC.seq ?_
          refine RunC.cond_false rfl rfl ?_
          refine RunC.exit ?_
          cases Option.some.inj h5_
          have hx := ho5 _ rfl
          exact ⟨L7, hl8, ⟨(ALe.refl _), (ALe.refl _), (ALe.refl _), (ALe.refl _), (ALe.refl _), (ALe.refl _), trivial⟩, ⟨⟨rfl, .inr rfl⟩, ⟨rfl, .inr rfl⟩, ⟨rfl, .inr rfl⟩, trivial⟩, hx⟩
      · rintro τ6 Γ6 ⟨L14, hl15, hw6, hd6, rfl⟩
        refine RunC.wl (τ' := [(1, AV.i64 a1), (2, AV.fn (.func 121) [] [AV.ptr [AV.i64 a2, AV.i64 a3, AV.sl a4.length (a4.map AV.f32)], AV.ptr [AV.i64 a5, AV.i64 a6, AV.sl a7.length (a7.map AV.f32)]]), (6, AV.optr 0 1 0), (7, AV.optr 2 1 0), (13, AV.i64 a0), (14, AV.i64 v6)]) (Γ' := [⟨1, some [AV.i64 0, AV.i64 0, AV.nilsl]⟩, ⟨1, some (L14.map AV.f32)⟩, ⟨1, some [AV.i64 r1, AV.i64 r2, AV.oref 1 1 0 r3.length]⟩]) hw6 hd6 ?_
        replace h4_ : i_made_2Fi_product_1_k2 v6 L14 = some y4_ := h4_
        unfold i_made_2Fi_product_1_k2 at h4_
        obtain ⟨x16, hx9, h4_⟩ := olet_some h4_
        refine RunC.regionW ?_
        refine ROps.l (r := AV.i64 x16) rfl rfl rfl (LOp.eqr (LOp.add rfl rfl rfl) (congrArg (AV.ik .i64) hx9)) ?_
        refine ROps.l (r := AV.i64 x16) rfl rfl rfl (LOp.move rfl rfl) ?_
        refine ROps.nil ?_
        cases Option.some.inj h4_
        exact ⟨_, rfl, hl15, ⟨(ALe.refl _), (ALe.refl _), (ALe.refl _), (ALe.refl _), (ALe.refl _), (ALe.refl _), trivial⟩, ⟨⟨rfl, .inr rfl⟩, ⟨rfl, .inr rfl⟩, ⟨rfl, .inr rfl⟩, trivial⟩⟩
    · refine RunC.regionW ?_
      refine ROps.l (r := AV.b false) rfl rfl rfl (LOp.eqb (LOp.lss rfl rfl rfl) hc2) ?_
      refine ROps.nil ?_
      refine RunC.seq ?_
      refine RunC.cond_false rfl rfl ?_
      refine RunC.exit ?_
      cases Option.some.inj h4_
      have hx := ho4 _ rfl
      exact ⟨L4, hl5, ⟨(ALe.refl _), (ALe.refl _), trivial⟩, ⟨⟨rfl, .inr rfl⟩, ⟨rfl, .inr rfl⟩, ⟨rfl, .inr rfl⟩, trivial⟩, hx⟩
  · rintro τ7 Γ7 ⟨L17, hl18, hw7, hd7, rfl⟩
    refine RunC.wl (τ' := [(6, AV.optr 0 1 0), (7, AV.optr 2 1 0)]) (Γ' := [⟨1, some [AV.i64 0, AV.i64 0, AV.nilsl]⟩, ⟨1, some (L17.map AV.f32)⟩, ⟨1, some [AV.i64 r1, AV.i64 r2, AV.oref 1 1 0 r3.length]⟩]) hw7 hd7 ?_
    replace h : i_made_2Fi_product_1_k3 r1 r2 L17 = some (q0, q1, q2) := h
    unfold i_made_2Fi_product_1_k3 at h
    refine RunC.seq ?_
    refine RunC.regionW ?_
    refine ROps.d (r := AV.agg [AV.i64 r1, AV.i64 r2, AV.oref 1 1 0 r3.length]) (fs := []) (Γ' := [⟨1, some [AV.i64 0, AV.i64 0, AV.nilsl]⟩, ⟨1, some (L17.map AV.f32)⟩, ⟨1, some [AV.i64 r1, AV.i64 r2, AV.oref 1 1 0 r3.length]⟩]) rfl rfl rfl (TOp.loadAgg_o rfl agg27 siz27 rfl rfl rfl rfl) rfl ?_
    refine ROps.store_le (r := AV.agg [AV.i64 r1, AV.i64 r2, AV.oref 1 1 0 r3.length]) (l' := [AV.i64 r1, AV.i64 r2, AV.oref 1 1 0 r3.length]) (Γ' := [⟨1, some [AV.i64 r1, AV.i64 r2, AV.oref 1 1 0 r3.length]⟩, ⟨1, some (L17.map AV.f32)⟩, ⟨1, some [AV.i64 r1, AV.i64 r2, AV.oref 1 1 0 r3.length]⟩]) rfl siz27 rfl rfl rfl (ALe.refl _) rfl rfl rfl rfl (Nat.le_of_ble_eq_true rfl) rfl rfl ?_
    refine ROps.nil ?_
    refine RunC.ret ?_
    have hq := Option.some.inj h
    obtain ⟨hq0, hq⟩ := Prod.mk.inj hq
    obtain ⟨hq1, hq⟩ := Prod.mk.inj hq
    subst q0
    subst q1
    subst q2
    exact bodyQ.mk (r' := AV.agg [AV.i64 r1, AV.i64 r2, AV.oref 1 1 0 L17.length]) [(1, 1)] (.inr rfl) rfl (show List.Nodup [1] from by decide) rfl rfl (Res.eq (Res.one rfl (RV.cell agg27 siz27 rfl rfl rfl rfl)) (by rw [(show L17.length = r3.length from hl18)] <;> rfl)) (SelL.arr0 (f := AV.f32) (fun _ => rfl) rfl trivial)
noncomputable def i_product (a0 : Int) (a1 : Int) (a2 : List F) (a3 : Int) (a4 : Int) (a5 : List F) : Option (Int × Int × (List F)) :=
  obind3 (i_made_2Fi_product_1 a0 a4 a0 a1 a2 a3 a4 a5) fun (r1 : Int) (r2 : Int) (r3 : List F) =>
  some (r1, r2, r3)
theorem i_product_ok (a0 : Int) (a1 : Int) (a2 : List F) (a3 : Int) (a4 : Int) (a5 : List F) (q0 : Int) (q1 : Int) (q2 : List F) (h : i_product a0 a1 a2 a3 a4 a5 = some (q0, q1, q2)) : Ev Try.prog 102 [AV.agg [AV.i64 a0, AV.i64 a1, AV.sl a2.length (a2.map AV.f32)], AV.agg [AV.i64 a3, AV.i64 a4, AV.sl a5.length (a5.map AV.f32)]] [] (AV.agg [AV.i64 q0, AV.i64 q1, AV.oref 0 0 0 q2.length]) [⟨0, some (q2.map AV.f32)⟩] := by
  refine Ev.start Try.func102 rfl rfl 2 (τ := [(0, AV.agg [AV.i64 a0, AV.i64 a1, AV.sl a2.length (a2.map AV.f32)]), (1, AV.agg [AV.i64 a3, AV.i64 a4, AV.sl a5.length (a5.map AV.f32)])]) rfl (Γ' := [⟨0, none⟩, ⟨0, none⟩]) rfl (n := 23) rfl (g := 0) rfl (fun _ => rfl) ?_
  unfold i_product at h
  refine RunC.seq ?_
  refine RunC.regionW ?_
  refine ROps.d (r := AV.ptr [AV.i64 a0, AV.i64 a1, AV.sl a2.length (a2.map AV.f32)]) (fs := []) (Γ' := [⟨0, none⟩, ⟨0, none⟩]) rfl rfl rfl (TOp.box_s rfl rfl rfl) rfl ?_
  refine ROps.d (r := AV.ptr [AV.i64 a3, AV.i64 a4, AV.sl a5.length (a5.map AV.f32)]) (fs := []) (Γ' := [⟨0, none⟩, ⟨0, none⟩]) rfl rfl rfl (TOp.box_s rfl rfl rfl) rfl ?_
  refine ROps.d (r := AV.optr 0 1 0) (fs := [(0, [AV.i64 0, AV.i64 0, AV.nilsl])]) (Γ' := [⟨1, some [AV.i64 0, AV.i64 0, AV.nilsl]⟩, ⟨0, none⟩]) rfl rfl rfl (TOp.alloc_o (g := ⟨0, none⟩) 0 rfl zer27 zok27 rfl) rfl ?_
  refine ROps.nil ?_
  refine RunC.seq ?_
  obtain ⟨r1, r2, r3, hf1, h⟩ := obind3_some h
  refine RunC.regionW ?_
  refine ROps.l (r := AV.ptr [AV.i64 a0, AV.i64 a1, AV.sl a2.length (a2.map AV.f32)]) rfl rfl rfl (LOp.fap und27 rfl siz2 rfl rfl rfl) ?_
  refine ROps.l (r := AV.i64 a0) rfl rfl rfl (LOp.load1 agg2 rfl rfl) ?_
  refine ROps.l (r := AV.ptr [AV.i64 a4, AV.sl a5.length (a5.map AV.f32)]) rfl rfl rfl (LOp.fap und27 rfl siz2 rfl rfl rfl) ?_
  refine ROps.l (r := AV.i64 a4) rfl rfl rfl (LOp.load1 agg2 rfl rfl) ?_
  refine ROps.l (r := AV.fn (.func 121) [] [AV.ptr [AV.i64 a0, AV.i64 a1, AV.sl a2.length (a2.map AV.f32)], AV.ptr [AV.i64 a3, AV.i64 a4, AV.sl a5.length (a5.map AV.f32)]]) rfl rfl rfl (LOp.makeFunc rfl rfl) ?_
  refine ROps.d (r := AV.agg [AV.i64 r1, AV.i64 r2, AV.oref 1 1 0 r3.length]) (fs := [(1, (r3.map AV.f32))]) (Γ' := [⟨1, some [AV.i64 0, AV.i64 0, AV.nilsl]⟩, ⟨1, some (r3.map AV.f32)⟩]) rfl rfl rfl (TOp.callBN (ls := [(r3.map AV.f32)]) [1] (CallAs.func ent110 rfl rfl) (Bors.cons (Bor.pure rfl) (Bors.cons (Bor.pure rfl) (Bors.cons (Bor.fn Bors.nil (Bors.cons (Bor.ptr (Bors.cons (Bor.pure rfl) (Bors.cons (Bor.pure rfl) (Bors.cons (Bor.sl (fun _ => rfl)) Bors.nil)))) (Bors.cons (Bor.ptr (Bors.cons (Bor.pure rfl) (Bors.cons (Bor.pure rfl) (Bors.cons (Bor.sl (fun _ => rfl)) Bors.nil)))) Bors.nil))) Bors.nil))) rfl (i_made_2Fi_product_1_ok a0 a4 a0 a1 a2 a3 a4 a5 r1 r2 r3 hf1) (and_all (lts0_map (f := AV.f32) (fun _ => rfl) _) rfl) (and_all (noss_map (f := AV.f32) (fun _ => rfl) _) rfl) rfl (by decide) (ns_of ⟨⟨_, rfl⟩, trivial⟩)) rfl ?_
  refine ROps.store_le (r := AV.agg [AV.i64 r1, AV.i64 r2, AV.oref 1 1 0 r3.length]) (l' := [AV.i64 r1, AV.i64 r2, AV.oref 1 1 0 r3.length]) (Γ' := [⟨1, some [AV.i64 r1, AV.i64 r2, AV.oref 1 1 0 r3.length]⟩, ⟨1, some (r3.map AV.f32)⟩]) rfl siz27 rfl rfl rfl (ALe.refl _) rfl rfl rfl rfl (Nat.le_of_ble_eq_true rfl) rfl rfl ?_
  refine ROps.nil ?_
  refine RunC.ret ?_
  have hq := Option.some.inj h
  obtain ⟨hq0, hq⟩ := Prod.mk.inj hq
  obtain ⟨hq1, hq⟩ := Prod.mk.inj hq
  subst q0
  subst q1
  subst q2
  exact bodyQ.mk (r' := AV.agg [AV.i64 r1, AV.i64 r2, AV.oref 1 1 0 r3.length]) [(1, 1)] (.inr rfl) rfl (show List.Nodup [1] from by decide) rfl rfl (Res.one rfl (RV.cell agg27 siz27 rfl rfl rfl rfl)) (SelL.arr0 (f := AV.f32) (fun _ => rfl) rfl trivial)
noncomputable def i_Matrix_valid_02o (a0 : Int) (a1 : Int) (a2 : List F) : Option ((Int × Int × Bool × (List F)) ⊕ (Int × Int × Bool × (List F) × (List F))) :=
  obind (i_ValidMatrix a0 a1 a2) fun (r1 : Bool) =>
  bsel r1 (
    some (Sum.inl (a0, a1, true, a2))) (
    some (Sum.inr (0, 0, false, a2, ([] : List F))))
theorem i_Matrix_valid_02o_ok0 (a0 : Int) (a1 : Int) (a2 : List F) (q0 : Int) (q1 : Int) (q2 : Bool) (q3 : List F) (h : i_Matrix_valid_02o a0 a1 a2 = some (Sum.inl (q0, q1, q2, q3))) : Ev Try.prog 97 [AV.agg [AV.i64 a0, AV.i64 a1, AV.oref 0 0 0 a2.length]] [⟨0, some (a2.map AV.f32)⟩] (AV.tup [AV.agg [AV.i64 q0, AV.i64 q1, AV.oref 0 0 0 q3.length], AV.b q2]) [⟨0, some (q3.map AV.f32)⟩] := by
  refine Ev.start Try.func97 rfl rfl 2 (τ := [(0, AV.agg [AV.i64 a0, AV.i64 a1, AV.oref 0 0 0 a2.length])]) rfl (Γ' := [⟨0, some (a2.map AV.f32)⟩, ⟨0, none⟩, ⟨0, none⟩]) rfl (n := 18) rfl (g := 1) rfl (by decide) ?_
  unfold i_Matrix_valid_02o at h
  refine RunC.seq ?_
  refine RunC.regionW ?_
  refine ROps.d (r := AV.ptr [AV.i64 a0, AV.i64 a1, AV.oref 0 0 0 a2.length]) (fs := []) (Γ' := [⟨0, some (a2.map AV.f32)⟩, ⟨0, none⟩, ⟨0, none⟩]) rfl rfl rfl (TOp.box_s rfl rfl rfl) rfl ?_
  refine ROps.d (r := AV.optr 1 1 0) (fs := [(1, [AV.i64 0, AV.i64 0, AV.nilsl])]) (Γ' := [⟨0, some (a2.map AV.f32)⟩, ⟨1, some [AV.i64 0, AV.i64 0, AV.nilsl]⟩, ⟨0, none⟩]) rfl rfl rfl (TOp.alloc_o (g := ⟨0, none⟩) 1 rfl zer27 zok27 rfl) rfl ?_
  refine ROps.l (r := AV.b false) rfl rfl rfl (LOp.assign rfl rfl) ?_
  refine ROps.nil ?_
  refine RunC.seq ?_
  refine RunC.seq ?_
  obtain ⟨r1, hf1, h⟩ := obind_some h
  rcases bsel_some h with ⟨hc2, h⟩ | ⟨hc2, h⟩
  · refine RunC.regionW ?_
    refine ROps.l (r := AV.agg [AV.i64 a0, AV.i64 a1, AV.oref 0 0 0 a2.length]) rfl rfl rfl (LOp.loadAgg agg27 siz27 rfl rfl rfl rfl) ?_
    refine ROps.d (r := AV.b true) (fs := []) (Γ' := [⟨0, some (a2.map AV.f32)⟩, ⟨1, some [AV.i64 0, AV.i64 0, AV.nilsl]⟩, ⟨0, none⟩]) rfl rfl rfl (TOp.eqb (TOp.callB (CallAs.func ent45 rfl rfl) (Bors.cons (Bor.agg (Bors.cons (Bor.pure rfl) (Bors.cons (Bor.pure rfl) (Bors.cons (Bor.own (f := AV.f32) (fun _ => rfl) rfl rfl) Bors.nil)))) Bors.nil) rfl rfl (i_ValidMatrix_ok a0 a1 a2 r1 hf1)) hc2) rfl ?_
    refine ROps.l (r := AV.b false) rfl rfl rfl (LOp.eqb (LOp.not rfl rfl) rfl) ?_
    refine ROps.nil ?_
    refine RunC.cond_false rfl rfl ?_
    refine RunC.skip ?_
    refine RunC.seq ?_
    refine RunC.regionW ?_
    refine ROps.l (r := AV.agg [AV.i64 a0, AV.i64 a1, AV.oref 0 0 0 a2.length]) rfl rfl rfl (LOp.loadAgg agg27 siz27 rfl rfl rfl rfl) ?_
    refine ROps.store_le (r := AV.agg [AV.i64 a0, AV.i64 a1, AV.oref 0 0 0 a2.length]) (l' := [AV.i64 a0, AV.i64 a1, AV.oref 0 0 0 a2.length]) (Γ' := [⟨0, some (a2.map AV.f32)⟩, ⟨1, some [AV.i64 a0, AV.i64 a1, AV.oref 0 0 0 a2.length]⟩, ⟨0, none⟩]) rfl siz27 rfl rfl rfl (ALe.refl _) rfl rfl rfl rfl (Nat.le_of_ble_eq_true rfl) rfl rfl ?_
    refine ROps.l (r := AV.b true) rfl rfl rfl (LOp.assign rfl rfl) ?_
    refine ROps.nil ?_
    refine RunC.ret ?_
    have hq := Option.some.inj h
    have hq := Sum.inl.inj hq
    obtain ⟨hq0, hq⟩ := Prod.mk.inj hq
    obtain ⟨hq1, hq⟩ := Prod.mk.inj hq
    obtain ⟨hq2, hq⟩ := Prod.mk.inj hq
    subst q0
    subst q1
    subst q2
    subst q3
    exact bodyQ.mk (r' := AV.tup [AV.agg [AV.i64 a0, AV.i64 a1, AV.oref 0 0 0 a2.length], AV.b true]) [(0, 0)] (.inr rfl) rfl (show List.Nodup [0] from by decide) rfl rfl (Res.two rfl (RV.cell agg27 siz27 rfl rfl rfl rfl) (RV.tmp rfl)) (SelL.arr (f := AV.f32) (fun _ => rfl) rfl trivial)
  · refine RunC.regionW ?_
    refine ROps.l (r := AV.agg [AV.i64 a0, AV.i64 a1, AV.oref 0 0 0 a2.length]) rfl rfl rfl (LOp.loadAgg agg27 siz27 rfl rfl rfl rfl) ?_
    refine ROps.d (r := AV.b false) (fs := []) (Γ' := [⟨0, some (a2.map AV.f32)⟩, ⟨1, some [AV.i64 0, AV.i64 0, AV.nilsl]⟩, ⟨0, none⟩]) rfl rfl rfl (TOp.eqb (TOp.callB (CallAs.func ent45 rfl rfl) (Bors.cons (Bor.agg (Bors.cons (Bor.pure rfl) (Bors.cons (Bor.pure rfl) (Bors.cons (Bor.own (f := AV.f32) (fun _ => rfl) rfl rfl) Bors.nil)))) Bors.nil) rfl rfl (i_ValidMatrix_ok a0 a1 a2 r1 hf1)) hc2) rfl ?_
    refine ROps.l (r := AV.b true) rfl rfl rfl (LOp.eqb (LOp.not rfl rfl) rfl) ?_
    refine ROps.nil ?_
    refine RunC.cond_true rfl rfl ?_
    refine RunC.seq ?_
    refine RunC.regionW ?_
    refine ROps.l (r := AV.agg [AV.i64 0, AV.i64 0, AV.nilsl]) rfl rfl rfl (LOp.build (qs := []) zer27 zok27 und27 plc27 rfl trivial rfl) ?_
    refine ROps.store_le (r := AV.agg [AV.i64 0, AV.i64 0, AV.nilsl]) (l' := [AV.i64 0, AV.i64 0, AV.nilsl]) (Γ' := [⟨0, some (a2.map AV.f32)⟩, ⟨1, some [AV.i64 0, AV.i64 0, AV.nilsl]⟩, ⟨0, none⟩]) rfl siz27 rfl rfl rfl (ALe.refl _) rfl rfl rfl rfl (Nat.le_of_ble_eq_true rfl) rfl rfl ?_
    refine ROps.l (r := AV.b false) rfl rfl rfl (LOp.assign rfl rfl) ?_
    refine ROps.nil ?_
    cases Option.some.inj h
theorem i_Matrix_valid_02o_ok1 (a0 : Int) (a1 : Int) (a2 : List F) (q0 : Int) (q1 : Int) (q2 : Bool) (q3 : List F) (q4 : List F) (h : i_Matrix_valid_02o a0 a1 a2 = some (Sum.inr (q0, q1, q2, q3, q4))) : Ev Try.prog 97 [AV.agg [AV.i64 a0, AV.i64 a1, AV.oref 0 0 0 a2.length]] [⟨0, some (a2.map AV.f32)⟩] (AV.tup [AV.agg [AV.i64 q0, AV.i64 q1, AV.oref 1 0 0 q4.length], AV.b q2]) [⟨0, some (q3.map AV.f32)⟩, ⟨0, some (q4.map AV.f32)⟩] := by
  refine Ev.start Try.func97 rfl rfl 2 (τ := [(0, AV.agg [AV.i64 a0, AV.i64 a1, AV.oref 0 0 0 a2.length])]) rfl (Γ' := [⟨0, some (a2.map AV.f32)⟩, ⟨0, none⟩, ⟨0, none⟩]) rfl (n := 18) rfl (g := 1) rfl (by decide) ?_
  unfold i_Matrix_valid_02o at h
  refine RunC.seq ?_
  refine RunC.regionW ?_
  refine ROps.d (r := AV.ptr [AV.i64 a0, AV.i64 a1, AV.oref 0 0 0 a2.length]) (fs := []) (Γ' := [⟨0, some (a2.map AV.f32)⟩, ⟨0, none⟩, ⟨0, none⟩]) rfl rfl rfl (TOp.box_s rfl rfl rfl) rfl ?_
  refine ROps.d (r := AV.optr 1 1 0) (fs := [(1, [AV.i64 0, AV.i64 0, AV.nilsl])]) (Γ' := [⟨0, some (a2.map AV.f32)⟩, ⟨1, some [AV.i64 0, AV.i64 0, AV.nilsl]⟩, ⟨0, none⟩]) rfl rfl rfl (TOp.alloc_o (g := ⟨0, none⟩) 1 rfl zer27 zok27 rfl) rfl ?_
  refine ROps.l (r := AV.b false) rfl rfl rfl (LOp.assign rfl rfl) ?_
  refine ROps.nil ?_
  refine RunC.seq ?_
  refine RunC.seq ?_
  obtain ⟨r1, hf1, h⟩ := obind_some h
  rcases bsel_some h with ⟨hc2, h⟩ | ⟨hc2, h⟩
  · refine RunC.regionW ?_
    refine ROps.l (r := AV.agg [AV.i64 a0, AV.i64 a1, AV.oref 0 0 0 a2.length]) rfl rfl rfl (LOp.loadAgg agg27 siz27 rfl rfl rfl rfl) ?_
    refine ROps.d (r := AV.b true) (fs := []) (Γ' := [⟨0, some (a2.map AV.f32)⟩, ⟨1, some [AV.i64 0, AV.i64 0, AV.nilsl]⟩, ⟨0, none⟩]) rfl rfl rfl (TOp.eqb (TOp.callB (CallAs.func ent45 rfl rfl) (Bors.cons (Bor.agg (Bors.cons (Bor.pure rfl) (Bors.cons (Bor.pure rfl) (Bors.cons (Bor.own (f := AV.f32) (fun _ => rfl) rfl rfl) Bors.nil)))) Bors.nil) rfl rfl (i_ValidMatrix_ok a0 a1 a2 r1 hf1)) hc2) rfl ?_
    refine ROps.l (r := AV.b false) rfl rfl rfl (LOp.eqb (LOp.not rfl rfl) rfl) ?_
    refine ROps.nil ?_
    refine RunC.cond_false rfl rfl ?_
    refine RunC.skip ?_
    refine RunC.seq ?_
    refine RunC.regionW ?_
    refine ROps.l (r := AV.agg [AV.i64 a0, AV.i64 a1, AV.oref 0 0 0 a2.length]) rfl rfl rfl (LOp.loadAgg agg27 siz27 rfl rfl rfl rfl) ?_
    refine ROps.store_le (r := AV.agg [AV.i64 a0, AV.i64 a1, AV.oref 0 0 0 a2.length]) (l' := [AV.i64 a0, AV.i64 a1, AV.oref 0 0 0 a2.length]) (Γ' := [⟨0, some (a2.map AV.f32)⟩, ⟨1, some [AV.i64 a0, AV.i64 a1, AV.oref 0 0 0 a2.length]⟩, ⟨0, none⟩]) rfl siz27 rfl rfl rfl (ALe.refl _) rfl rfl rfl rfl (Nat.le_of_ble_eq_true rfl) rfl rfl ?_
    refine ROps.l (r := AV.b true) rfl rfl rfl (LOp.assign rfl rfl) ?_
    refine ROps.nil ?_
    cases Option.some.inj h
  · refine RunC.regionW ?_
    refine ROps.l (r := AV.agg [AV.i64 a0, AV.i64 a1, AV.oref 0 0 0 a2.length]) rfl rfl rfl (LOp.loadAgg agg27 siz27 rfl rfl rfl rfl) ?_
    refine ROps.d (r := AV.b false) (fs := []) (Γ' := [⟨0, some (a2.map AV.f32)⟩, ⟨1, some [AV.i64 0, AV.i64 0, AV.nilsl]⟩, ⟨0, none⟩]) rfl rfl rfl (TOp.eqb (TOp.callB (CallAs.func ent45 rfl rfl) (Bors.cons (Bor.agg (Bors.cons (Bor.pure rfl) (Bors.cons (Bor.pure rfl) (Bors.cons (Bor.own (f := AV.f32) (fun _ => rfl) rfl rfl) Bors.nil)))) Bors.nil) rfl rfl (i_ValidMatrix_ok a0 a1 a2 r1 hf1)) hc2) rfl ?_
    refine ROps.l (r := AV.b true) rfl rfl rfl (LOp.eqb (LOp.not rfl rfl) rfl) ?_
    refine ROps.nil ?_
    refine RunC.cond_true rfl rfl ?_
    refine RunC.seq ?_
    refine RunC.regionW ?_
    refine ROps.l (r := AV.agg [AV.i64 0, AV.i64 0, AV.nilsl]) rfl rfl rfl (LOp.build (qs := []) zer27 zok27 und27 plc27 rfl trivial rfl) ?_
    refine ROps.store_le (r := AV.agg [AV.i64 0, AV.i64 0, AV.nilsl]) (l' := [AV.i64 0, AV.i64 0, AV.nilsl]) (Γ' := [⟨0, some (a2.map AV.f32)⟩, ⟨1, some [AV.i64 0, AV.i64 0, AV.nilsl]⟩, ⟨0, none⟩]) rfl siz27 rfl rfl rfl (ALe.refl _) rfl rfl rfl rfl (Nat.le_of_ble_eq_true rfl) rfl rfl ?_
    refine ROps.l (r := AV.b false) rfl rfl rfl (LOp.assign rfl rfl) ?_
    refine ROps.nil ?_
    refine RunC.nil_cell (l' := [AV.i64 0, AV.i64 0, AV.oref 2 1 0 0]) (Γ' := [⟨0, some (a2.map AV.f32)⟩, ⟨1, some [AV.i64 0, AV.i64 0, AV.oref 2 1 0 0]⟩, ⟨1, some (([] : List F).map AV.f32)⟩]) 1 2 2 rfl rfl rfl rfl rfl ?_
    refine RunC.ret ?_
    have hq := Option.some.inj h
    have hq := Sum.inr.inj hq
    obtain ⟨hq0, hq⟩ := Prod.mk.inj hq
    obtain ⟨hq1, hq⟩ := Prod.mk.inj hq
    obtain ⟨hq2, hq⟩ := Prod.mk.inj hq
    obtain ⟨hq3, hq⟩ := Prod.mk.inj hq
    subst q0
    subst q1
    subst q2
    subst q3
    subst q4
    exact bodyQ.mk (r' := AV.tup [AV.agg [AV.i64 0, AV.i64 0, AV.oref 2 1 0 (([] : List F).length)], AV.b false]) [(0, 0), (2, 1)] (.inr rfl) rfl (show List.Nodup [0, 2] from by decide) rfl rfl (Res.eq (Res.two rfl (RV.cell agg27 siz27 rfl rfl rfl rfl) (RV.tmp rfl)) (by rw [(show ([] : List F).length = 0 from rfl)] <;> rfl)) (SelL.arr (f := AV.f32) (fun _ => rfl) rfl (SelL.arr0 (f := AV.f32) (fun _ => rfl) rfl trivial))
noncomputable def i_MulMatrices (a0 : Int) (a1 : Int) (a2 : List F) (a3 : Int) (a4 : Int) (a5 : List F) : Option (Int × Int × Bool × (List F)) :=
  obind (i_areFactors a0 a1 a2 a3 a4 a5) fun (r1 : Bool) =>
  bsel r1 (
    obind3 (i_product a0 a1 a2 a3 a4 a5) fun (r2 : Int) (r3 : Int) (r4 : List F) =>
    obind (i_Matrix_valid_02o r2 r3 r4) (fun z => osum z (fun y => obind4 (some y) fun (r5 : Int) (r6 : Int) (r7 : Bool) (r8 : List F) =>
      need (decide (r8.length = r4.length)) <|
      some (r5, r6, r7, r8)) (fun y => obind5 (some y) fun (r9 : Int) (r10 : Int) (r11 : Bool) (r12 : List F) (r13 : List F) =>
      need (decide (r12.length = r4.length)) <|
      some (r9, r10, r11, r13)))) (
    some (0, 0, false, ([] : List F)))
theorem i_MulMatrices_ok (a0 : Int) (a1 : Int) (a2 : List F) (a3 : Int) (a4 : Int) (a5 : List F) (q0 : Int) (q1 : Int) (q2 : Bool) (q3 : List F) (h : i_MulMatrices a0 a1 a2 a3 a4 a5 = some (q0, q1, q2, q3)) : Ev Try.prog 65 [AV.agg [AV.i64 a0, AV.i64 a1, AV.sl a2.length (a2.map AV.f32)], AV.agg [AV.i64 a3, AV.i64 a4, AV.sl a5.length (a5.map AV.f32)]] [] (AV.tup [AV.agg [AV.i64 q0, AV.i64 q1, AV.oref 0 0 0 q3.length], AV.b q2]) [⟨0, some (q3.map AV.f32)⟩] := by
  refine Ev.start Try.func65 rfl rfl 3 (τ := [(0, AV.agg [AV.i64 a0, AV.i64 a1, AV.sl a2.length (a2.map AV.f32)]), (1, AV.agg [AV.i64 a3, AV.i64 a4, AV.sl a5.length (a5.map AV.f32)])]) rfl (Γ' := [⟨0, none⟩, ⟨0, none⟩, ⟨0, none⟩]) rfl (n := 35) rfl (g := 0) rfl (fun _ => rfl) ?_
  unfold i_MulMatrices at h
  refine RunC.seq ?_
  refine RunC.regionW ?_
  refine ROps.d (r := AV.ptr [AV.i64 a0, AV.i64 a1, AV.sl a2.length (a2.map AV.f32)]) (fs := []) (Γ' := [⟨0, none⟩, ⟨0, none⟩, ⟨0, none⟩]) rfl rfl rfl (TOp.box_s rfl rfl rfl) rfl ?_
  refine ROps.d (r := AV.ptr [AV.i64 a3, AV.i64 a4, AV.sl a5.length (a5.map AV.f32)]) (fs := []) (Γ' := [⟨0, none⟩, ⟨0, none⟩, ⟨0, none⟩]) rfl rfl rfl (TOp.box_s rfl rfl rfl) rfl ?_
  refine ROps.d (r := AV.optr 0 1 0) (fs := [(0, [AV.i64 0, AV.i64 0, AV.nilsl])]) (Γ' := [⟨1, some [AV.i64 0, AV.i64 0, AV.nilsl]⟩, ⟨0, none⟩, ⟨0, none⟩]) rfl rfl rfl (TOp.alloc_o (g := ⟨0, none⟩) 0 rfl zer27 zok27 rfl) rfl ?_
  refine ROps.l (r := AV.b false) rfl rfl rfl (LOp.assign rfl rfl) ?_
  refine ROps.nil ?_
  refine RunC.seq ?_
  refine RunC.seq ?_
  obtain ⟨r1, hf1, h⟩ := obind_some h
  rcases bsel_some h with ⟨hc2, h⟩ | ⟨hc2, h⟩
  · refine RunC.regionW ?_
    refine ROps.l (r := AV.agg [AV.i64 a0, AV.i64 a1, AV.sl a2.length (a2.map AV.f32)]) rfl rfl rfl (LOp.loadAgg agg27 siz27 rfl rfl rfl rfl) ?_
    refine ROps.l (r := AV.agg [AV.i64 a3, AV.i64 a4, AV.sl a5.length (a5.map AV.f32)]) rfl rfl rfl (LOp.loadAgg agg27 siz27 rfl rfl rfl rfl) ?_
    refine ROps.d (r := AV.b true) (fs := []) (Γ' := [⟨1, some [AV.i64 0, AV.i64 0, AV.nilsl]⟩, ⟨0, none⟩, ⟨0, none⟩]) rfl rfl rfl (TOp.eqb (TOp.callB (CallAs.func ent101 rfl rfl) (Bors.cons (Bor.agg (Bors.cons (Bor.pure rfl) (Bors.cons (Bor.pure rfl) (Bors.cons (Bor.sl (fun _ => rfl)) Bors.nil)))) (Bors.cons (Bor.agg (Bors.cons (Bor.pure rfl) (Bors.cons (Bor.pure rfl) (Bors.cons (Bor.sl (fun _ => rfl)) Bors.nil)))) Bors.nil)) rfl rfl (i_areFactors_ok a0 a1 a2 a3 a4 a5 r1 hf1)) hc2) rfl ?_
    refine ROps.l (r := AV.b false) rfl rfl rfl (LOp.eqb (LOp.not rfl rfl) rfl) ?_
    refine ROps.nil ?_
    refine RunC.cond_false rfl rfl ?_
    refine RunC.skip ?_
    refine RunC.seq ?_
    obtain ⟨r2, r3, r4, hf3, h⟩ := obind3_some h
    obtain ⟨z1, hf4, h⟩ := obind_some h
    rcases z1 with z1 | z1
    · replace h := (osum_inl _ _ _).symm.trans h
      obtain ⟨r5, r6, r7, r8, hz2, h⟩ := obind4_some h
      cases hz2
      obtain ⟨hn5, h⟩ := need_some h
      refine RunC.regionW ?_
      refine ROps.l (r := AV.agg [AV.i64 a0, AV.i64 a1, AV.sl a2.length (a2.map AV.f32)]) rfl rfl rfl (LOp.loadAgg agg27 siz27 rfl rfl rfl rfl) ?_
      refine ROps.l (r := AV.agg [AV.i64 a3, AV.i64 a4, AV.sl a5.length (a5.map AV.f32)]) rfl rfl rfl (LOp.loadAgg agg27 siz27 rfl rfl rfl rfl) ?_
      refine ROps.d (r := AV.agg [AV.i64 r2, AV.i64 r3, AV.oref 1 1 0 r4.length]) (fs := [(1, (r4.map AV.f32))]) (Γ' := [⟨1, some [AV.i64 0, AV.i64 0, AV.nilsl]⟩, ⟨1, some (r4.map AV.f32)⟩, ⟨0, none⟩]) rfl rfl rfl (TOp.callBN (ls := [(r4.map AV.f32)]) [1] (CallAs.func ent102 rfl rfl) (Bors.cons (Bor.agg (Bors.cons (Bor.pure rfl) (Bors.cons (Bor.pure rfl) (Bors.cons (Bor.sl (fun _ => rfl)) Bors.nil)))) (Bors.cons (Bor.agg (Bors.cons (Bor.pure rfl) (Bors.cons (Bor.pure rfl) (Bors.cons (Bor.sl (fun _ => rfl)) Bors.nil)))) Bors.nil)) rfl (i_product_ok a0 a1 a2 a3 a4 a5 r2 r3 r4 hf3) (and_all (lts0_map (f := AV.f32) (fun _ => rfl) _) rfl) (and_all (noss_map (f := AV.f32) (fun _ => rfl) _) rfl) rfl (by decide) (ns_of ⟨⟨_, rfl⟩, trivial⟩)) rfl ?_
      refine ROps.callO (A := [AV.agg [AV.i64 r2, AV.i64 r3, AV.oref 1 1 0 r4.length]]) (args := [AV.agg [AV.i64 r2, AV.i64 r3, AV.oref 0 0 0 r4.length]]) (Γc := [⟨0, some (r4.map AV.f32)⟩]) (Γc' := [⟨0, some (r8.map AV.f32)⟩]) (r' := AV.tup [AV.agg [AV.i64 r5, AV.i64 r6, AV.oref 1 1 0 r4.length], AV.b r7]) (Γ' := [⟨1, some [AV.i64 0, AV.i64 0, AV.nilsl]⟩, ⟨1, some (r8.map AV.f32)⟩, ⟨0, none⟩]) [(1, 1)] [] rfl (CallAs.func ent97 rfl rfl) rfl rfl (SelOk.of (show List.Nodup [1] from by decide) (SelL.arr0 (f := AV.f32) (fun _ => rfl) rfl trivial)) (live_of ⟨⟨_, _, rfl⟩, trivial⟩) (by simp [AV.ren, AV.rens, sigma, rens_f32, rens_f64, rens_i64, rens_ik, rens_str, rens_cp]) rfl (i_Matrix_valid_02o_ok0 r2 r3 r4 r5 r6 r7 r8 hf4) rfl (news_of trivial) (show List.Nodup [1] from by decide) (by simp [AV.ren, AV.rens, sigma, of_decide_eq_true hn5]) (by simp [backOb, sigma, AV.ren, AV.rens, rens_f32, rens_f64, rens_i64, rens_ik, rens_str, rens_cp]) ?_
      refine ROps.l (r := AV.agg [AV.i64 r5, AV.i64 r6, AV.oref 1 1 0 r4.length]) rfl rfl rfl (LOp.extract rfl rfl rfl) ?_
      refine ROps.l (r := AV.b r7) rfl rfl rfl (LOp.extract rfl rfl rfl) ?_
      refine ROps.store_le (r := AV.agg [AV.i64 r5, AV.i64 r6, AV.oref 1 1 0 r4.length]) (l' := [AV.i64 r5, AV.i64 r6, AV.oref 1 1 0 r4.length]) (Γ' := [⟨1, some [AV.i64 r5, AV.i64 r6, AV.oref 1 1 0 r4.length]⟩, ⟨1, some (r8.map AV.f32)⟩, ⟨0, none⟩]) rfl siz27 rfl rfl rfl (ALe.refl _) rfl rfl rfl rfl (Nat.le_of_ble_eq_true rfl) rfl rfl ?_
      refine ROps.l (r := AV.b r7) rfl rfl rfl (LOp.assign rfl rfl) ?_
      refine ROps.nil ?_
      refine RunC.ret ?_
      have hq := Option.some.inj h
      obtain ⟨hq0, hq⟩ := Prod.mk.inj hq
      obtain ⟨hq1, hq⟩ := Prod.mk.inj hq
      obtain ⟨hq2, hq⟩ := Prod.mk.inj hq
      subst q0
      subst q1
      subst q2
      subst q3
      exact bodyQ.mk (r' := AV.tup [AV.agg [AV.i64 r5, AV.i64 r6, AV.oref 1 1 0 r8.length], AV.b r7]) [(1, 1)] (.inr rfl) rfl (show List.Nodup [1] from by decide) rfl rfl (Res.eq (Res.two rfl (RV.cell agg27 siz27 rfl rfl rfl rfl) (RV.tmp rfl)) (by rw [(show r8.length = r4.length from (of_decide_eq_true hn5))] <;> rfl)) (SelL.arr0 (f := AV.f32) (fun _ => rfl) rfl trivial)
    · replace h := (osum_inr _ _ _).symm.trans h
      obtain ⟨r9, r10, r11, r12, r13, hz3, h⟩ := obind5_some h
      cases hz3
      obtain ⟨hn6, h⟩ := need_some h
      refine RunC.regionW ?_
      refine ROps.l (r := AV.agg [AV.i64 a0, AV.i64 a1, AV.sl a2.length (a2.map AV.f32)]) rfl rfl rfl (LOp.loadAgg agg27 siz27 rfl rfl rfl rfl) ?_
      refine ROps.l (r := AV.agg [AV.i64 a3, AV.i64 a4, AV.sl a5.length (a5.map AV.f32)]) rfl rfl rfl (LOp.loadAgg agg27 siz27 rfl rfl rfl rfl) ?_
      refine ROps.d (r := AV.agg [AV.i64 r2, AV.i64 r3, AV.oref 1 1 0 r4.length]) (fs := [(1, (r4.map AV.f32))]) (Γ' := [⟨1, some [AV.i64 0, AV.i64 0, AV.nilsl]⟩, ⟨1, some (r4.map AV.f32)⟩, ⟨0, none⟩]) rfl rfl rfl (TOp.callBN (ls := [(r4.map AV.f32)]) [1] (CallAs.func ent102 rfl rfl) (Bors.cons (Bor.agg (Bors.cons (Bor.pure rfl) (Bors.cons (Bor.pure rfl) (Bors.cons (Bor.sl (fun _ => rfl)) Bors.nil)))) (Bors.cons (Bor.agg (Bors.cons (Bor.pure rfl) (Bors.cons (Bor.pure rfl) (Bors.cons (Bor.sl (fun _ => rfl)) Bors.nil)))) Bors.nil)) rfl (i_product_ok a0 a1 a2 a3 a4 a5 r2 r3 r4 hf3) (and_all (lts0_map (f := AV.f32) (fun _ => rfl) _) rfl) (and_all (noss_map (f := AV.f32) (fun _ => rfl) _) rfl) rfl (by decide) (ns_of ⟨⟨_, rfl⟩, trivial⟩)) rfl ?_
      refine ROps.callO (A := [AV.agg [AV.i64 r2, AV.i64 r3, AV.oref 1 1 0 r4.length]]) (args := [AV.agg [AV.i64 r2, AV.i64 r3, AV.oref 0 0 0 r4.length]]) (Γc := [⟨0, some (r4.map AV.f32)⟩]) (Γc' := [⟨0, some (r12.map AV.f32)⟩, ⟨0, some (r13.map AV.f32)⟩]) (r' := AV.tup [AV.agg [AV.i64 r9, AV.i64 r10, AV.oref 2 1 0 r13.length], AV.b r11]) (Γ' := [⟨1, some [AV.i64 0, AV.i64 0, AV.nilsl]⟩, ⟨1, some (r12.map AV.f32)⟩, ⟨1, some (r13.map AV.f32)⟩]) [(1, 1)] [(2, 1)] rfl (CallAs.func ent97 rfl rfl) rfl rfl (SelOk.of (show List.Nodup [1] from by decide) (SelL.arr0 (f := AV.f32) (fun _ => rfl) rfl trivial)) (live_of ⟨⟨_, _, rfl⟩, trivial⟩) (by simp [AV.ren, AV.rens, sigma, rens_f32, rens_f64, rens_i64, rens_ik, rens_str, rens_cp]) rfl (i_Matrix_valid_02o_ok1 r2 r3 r4 r9 r10 r11 r12 r13 hf4) rfl (news_of ⟨⟨_, rfl, rfl⟩, trivial⟩) (show List.Nodup [1, 2] from by decide) (by simp [AV.ren, AV.rens, sigma, of_decide_eq_true hn6]) (by simp [backOb, sigma, AV.ren, AV.rens, rens_f32, rens_f64, rens_i64, rens_ik, rens_str, rens_cp]) ?_
      refine ROps.l (r := AV.agg [AV.i64 r9, AV.i64 r10, AV.oref 2 1 0 r13.length]) rfl rfl rfl (LOp.extract rfl rfl rfl) ?_
      refine ROps.l (r := AV.b r11) rfl rfl rfl (LOp.extract rfl rfl rfl) ?_
      refine ROps.store_le (r := AV.agg [AV.i64 r9, AV.i64 r10, AV.oref 2 1 0 r13.length]) (l' := [AV.i64 r9, AV.i64 r10, AV.oref 2 1 0 r13.length]) (Γ' := [⟨1, some [AV.i64 r9, AV.i64 r10, AV.oref 2 1 0 r13.length]⟩, ⟨1, some (r12.map AV.f32)⟩, ⟨1, some (r13.map AV.f32)⟩]) rfl siz27 rfl rfl rfl (ALe.refl _) rfl rfl rfl rfl (Nat.le_of_ble_eq_true rfl) rfl rfl ?_
      refine ROps.l (r := AV.b r11) rfl rfl rfl (LOp.assign rfl rfl) ?_
      refine ROps.nil ?_
      refine RunC.ret ?_
      have hq := Option.some.inj h
      obtain ⟨hq0, hq⟩ := Prod.mk.inj hq
      obtain ⟨hq1, hq⟩ := Prod.mk.inj hq
      obtain ⟨hq2, hq⟩ := Prod.mk.inj hq
      subst q0
      subst q1
      subst q2
      subst q3
      exact bodyQ.mk (r' := AV.tup [AV.agg [AV.i64 r9, AV.i64 r10, AV.oref 2 1 0 r13.length], AV.b r11]) [(2, 1)] (.inr rfl) rfl (show List.Nodup [2] from by decide) rfl rfl (Res.two rfl (RV.cell agg27 siz27 rfl rfl rfl rfl) (RV.tmp rfl)) (SelL.arr0 (f := AV.f32) (fun _ => rfl) rfl trivial)
  · refine RunC.regionW ?_
    refine ROps.l (r := AV.agg [AV.i64 a0, AV.i64 a1, AV.sl a2.length (a2.map AV.f32)]) rfl rfl rfl (LOp.loadAgg agg27 siz27 rfl rfl rfl rfl) ?_
    refine ROps.l (r := AV.agg [AV.i64 a3, AV.i64 a4, AV.sl a5.length (a5.map AV.f32)]) rfl rfl rfl (LOp.loadAgg agg27 siz27 rfl rfl rfl rfl) ?_
    refine ROps.d (r := AV.b false) (fs := []) (Γ' := [⟨1, some [AV.i64 0, AV.i64 0, AV.nilsl]⟩, ⟨0, none⟩, ⟨0, none⟩]) rfl rfl rfl (TOp.eqb (TOp.callB (CallAs.func ent101 rfl rfl) (Bors.cons (Bor.agg (Bors.cons (Bor.pure rfl) (Bors.cons (Bor.pure rfl) (Bors.cons (Bor.sl (fun _ => rfl)) Bors.nil)))) (Bors.cons (Bor.agg (Bors.cons (Bor.pure rfl) (Bors.cons (Bor.pure rfl) (Bors.cons (Bor.sl (fun _ => rfl)) Bors.nil)))) Bors.nil)) rfl rfl (i_areFactors_ok a0 a1 a2 a3 a4 a5 r1 hf1)) hc2) rfl ?_
    refine ROps.l (r := AV.b true) rfl rfl rfl (LOp.eqb (LOp.not rfl rfl) rfl) ?_
    refine ROps.nil ?_
    refine RunC.cond_true rfl rfl ?_
    refine RunC.seq ?_
    refine RunC.regionW ?_
    refine ROps.l (r := AV.agg [AV.i64 0, AV.i64 0, AV.nilsl]) rfl rfl rfl (LOp.build (qs := []) zer27 zok27 und27 plc27 rfl trivial rfl) ?_
    refine ROps.store_le (r := AV.agg [AV.i64 0, AV.i64 0, AV.nilsl]) (l' := [AV.i64 0, AV.i64 0, AV.nilsl]) (Γ' := [⟨1, some [AV.i64 0, AV.i64 0, AV.nilsl]⟩, ⟨0, none⟩, ⟨0, none⟩]) rfl siz27 rfl rfl rfl (ALe.refl _) rfl rfl rfl rfl (Nat.le_of_ble_eq_true rfl) rfl rfl ?_
    refine ROps.l (r := AV.b false) rfl rfl rfl (LOp.assign rfl rfl) ?_
    refine ROps.nil ?_
    refine RunC.nil_cell (l' := [AV.i64 0, AV.i64 0, AV.oref 1 1 0 0]) (Γ' := [⟨1, some [AV.i64 0, AV.i64 0, AV.oref 1 1 0 0]⟩, ⟨1, some (([] : List F).map AV.f32)⟩, ⟨0, none⟩]) 0 2 1 rfl rfl rfl rfl rfl ?_
    refine RunC.ret ?_
    have hq := Option.some.inj h
    obtain ⟨hq0, hq⟩ := Prod.mk.inj hq
    obtain ⟨hq1, hq⟩ := Prod.mk.inj hq
    obtain ⟨hq2, hq⟩ := Prod.mk.inj hq
    subst q0
    subst q1
    subst q2
    subst q3
    exact bodyQ.mk (r' := AV.tup [AV.agg [AV.i64 0, AV.i64 0, AV.oref 1 1 0 (([] : List F).length)], AV.b false]) [(1, 1)] (.inr rfl) rfl (show List.Nodup [1] from by decide) rfl rfl (Res.eq (Res.two rfl (RV.cell agg27 siz27 rfl rfl rfl rfl) (RV.tmp rfl)) (by rw [(show ([] : List F).length = 0 from rfl)] <;> rfl)) (SelL.arr0 (f := AV.f32) (fun _ => rfl) rfl trivial)
noncomputable def i_Matrix_trace_b1 (a0 : Int) (a1 : Int) (a2 : List F) (y1 : F) (v2 : Int) : Option (LR (F × Int) (F) (F)) :=
  bsel (decide (v2 < a0)) (
    obind (i_Matrix_at a0 a1 a2 v2 v2) fun (r3 : F) =>
    olet (fop .add .f32 y1 r3) fun (x4 : F) =>
    olet (IntKind.i64.wrap (v2 + 1)) fun (x5 : Int) =>
    some (LR.next (x4, x5))) (
    some (LR.out y1))
noncomputable def i_Matrix_trace_s1 (a0 : Int) (a1 : Int) (a2 : List F) : (F × Int) → Option (LR (F × Int) (F) (F)) := fun s => i_Matrix_trace_b1 a0 a1 a2 s.1 s.2
noncomputable def i_Matrix_trace_k1 (y6 : F) : Option (F) :=
  some y6
noncomputable def i_Matrix_trace (a0 : Int) (a1 : Int) (a2 : List F) : Option (F) :=
  obind (loopM (i_Matrix_trace_s1 a0 a1 a2) (some 0, 0)) fun z => osum z (fun e => i_Matrix_trace_k1 e) (fun r => some r)
theorem i_Matrix_trace_ok (a0 : Int) (a1 : Int) (a2 : List F) (q0 : F) (h : i_Matrix_trace a0 a1 a2 = some q0) : Ev Try.prog 104 [AV.agg [AV.i64 a0, AV.i64 a1, AV.sl a2.length (a2.map AV.f32)]] [] (AV.f32 q0) [] := by
  refine Ev.start Try.func104 rfl rfl 0 (τ := [(0, AV.agg [AV.i64 a0, AV.i64 a1, AV.sl a2.length (a2.map AV.f32)])]) rfl (Γ' := []) rfl (n := 37) rfl (g := 0) rfl (fun _ => rfl) ?_
  unfold i_Matrix_trace at h
  refine RunC.seq ?_
  refine RunC.regionW ?_
  refine ROps.d (r := AV.ptr [AV.i64 a0, AV.i64 a1, AV.sl a2.length (a2.map AV.f32)]) (fs := []) (Γ' := []) rfl rfl rfl (TOp.box_s rfl rfl rfl) rfl ?_
  refine ROps.l (r := AV.f32 (some 0)) rfl rfl rfl (LOp.le (LOp.assign rfl rfl) (ALe.fl (by kernel_rfl) (by kernel_rfl))) ?_
  refine ROps.nil ?_
  refine RunC.seq ?_
  refine RunC.regionW ?_
  refine ROps.l (r := AV.f32 (some 0)) rfl rfl rfl (LOp.le (LOp.assign rfl rfl) (ALe.fl (by kernel_rfl) (by kernel_rfl))) ?_
  refine ROps.nil ?_
  refine RunC.seq ?_
  refine RunC.seq ?_
  refine RunC.regionW ?_
  refine ROps.l (r := AV.ptr [AV.i64 a0, AV.i64 a1, AV.sl a2.length (a2.map AV.f32)]) rfl rfl rfl (LOp.fap und27 rfl siz2 rfl rfl rfl) ?_
  refine ROps.l (r := AV.i64 a0) rfl rfl rfl (LOp.load1 agg2 rfl rfl) ?_
  refine ROps.l (r := AV.i64 0) rfl rfl rfl (LOp.move rfl rfl) ?_
  refine ROps.nil ?_
  obtain ⟨z2, hz_2, h⟩ := obind_some h
  refine RunC.cutN (fun τ Γ => ∃ (y6 : F), WeakLe τ [(3, AV.f32 y6)] ∧ DeadLe Γ [] ∧ z2 = .inl y6) ?_ ?_
  · refine RunC.block (RunC.loop (RunL.loopM (x := z2) (i_Matrix_trace_s1 a0 a1 a2) (fun (s : F × Int) τ Γ => WeakLe τ [(1, AV.ptr [AV.i64 a0, AV.i64 a1, AV.sl a2.length (a2.map AV.f32)]), (3, AV.f32 s.1), (6, AV.i64 a0), (7, AV.i64 s.2)] ∧ DeadLe Γ []) ?_ _ _ _ hz_2 ⟨⟨(ALe.refl _), (ALe.refl _), (ALe.refl _), (ALe.refl _), trivial⟩, trivial⟩))
    rintro ⟨y1, v2⟩ τ2 Γ2 y2_ ⟨hw2, hd2⟩ h2_ ho2 hr2
    refine RunC.wl (τ' := [(1, AV.ptr [AV.i64 a0, AV.i64 a1, AV.sl a2.length (a2.map AV.f32)]), (3, AV.f32 y1), (6, AV.i64 a0), (7, AV.i64 v2)]) (Γ' := []) hw2 hd2 ?_
    replace h2_ : i_Matrix_trace_b1 a0 a1 a2 y1 v2 = some y2_ := h2_
    unfold i_Matrix_trace_b1 at h2_
    refine RunC.seq ?_
    rcases bsel_some h2_ with ⟨hc1, h2_⟩ | ⟨hc1, h2_⟩
    · refine RunC.regionW ?_
      refine ROps.l (r := AV.b true) rfl rfl rfl (LOp.eqb (LOp.lss rfl rfl rfl) hc1) ?_
      refine ROps.nil ?_
      refine RunC.seq ?_
      refine RunC.cond_true rfl rfl ?_
      refine RunC.skip ?_
      refine RunC.seq ?_
      refine RunC.block ?_
      refine RunC.seq ?_
      refine RunC.regionW ?_
      refine ROps.l (r := AV.i64 v2) rfl rfl rfl (LOp.move rfl rfl) ?_
      refine ROps.l (r := AV.i64 v2) rfl rfl rfl (LOp.assign rfl rfl) ?_
      refine ROps.nil ?_
      obtain ⟨r3, hf2, h2_⟩ := obind_some h2_
      obtain ⟨x4, hx3, h2_⟩ := olet_some h2_
      refine RunC.regionW ?_
      refine ROps.l (r := AV.f32 y1) rfl rfl rfl (LOp.move rfl rfl) ?_
      refine ROps.l (r := AV.agg [AV.i64 a0, AV.i64 a1, AV.sl a2.length (a2.map AV.f32)]) rfl rfl rfl (LOp.loadAgg agg27 siz27 rfl rfl rfl rfl) ?_
      refine ROps.l (r := AV.i64 v2) rfl rfl rfl (LOp.move rfl rfl) ?_
      refine ROps.l (r := AV.i64 v2) rfl rfl rfl (LOp.move rfl rfl) ?_
      refine ROps.d (r := AV.f32 r3) (fs := []) (Γ' := []) rfl rfl rfl (TOp.callB (CallAs.func ent51 rfl rfl) (Bors.cons (Bor.agg (Bors.cons (Bor.pure rfl) (Bors.cons (Bor.pure rfl) (Bors.cons (Bor.sl (fun _ => rfl)) Bors.nil)))) (Bors.cons (Bor.pure rfl) (Bors.cons (Bor.pure rfl) Bors.nil))) rfl rfl (i_Matrix_at_ok a0 a1 a2 v2 v2 r3 hf2)) rfl ?_
      refine ROps.d (r := AV.f32 x4) (fs := []) (Γ' := []) rfl rfl rfl (TOp.eqr (TOp.fop (.inl rfl) rfl (OpF.tmp rfl) (OpF.tmp rfl)) (congrArg (AV.f .f32) hx3)) rfl ?_
      refine ROps.l (r := AV.f32 x4) rfl rfl rfl (LOp.assign rfl rfl) ?_
      refine ROps.nil ?_
      obtain ⟨x5, hx4, h2_⟩ := olet_some h2_
      refine RunC.regionW ?_
      refine ROps.l (r := AV.i64 x5) rfl rfl rfl (LOp.eqr (LOp.add rfl rfl rfl) (congrArg (AV.ik .i64) hx4)) ?_
      refine ROps.l (r := AV.i64 x5) rfl rfl rfl (LOp.move rfl rfl) ?_
      refine ROps.nil ?_
      cases Option.some.inj h2_
      exact ⟨_, rfl, ⟨(ALe.refl _), (ALe.refl _), (ALe.refl _), (ALe.refl _), trivial⟩, trivial⟩
    · refine RunC.regionW ?_
      refine ROps.l (r := AV.b false) rfl rfl rfl (LOp.eqb (LOp.lss rfl rfl rfl) hc1) ?_
      refine ROps.nil ?_
      refine RunC.seq ?_
      refine RunC.cond_false rfl rfl ?_
      refine RunC.exit ?_
      cases Option.some.inj h2_
      have hx := ho2 _ rfl
      exact ⟨y1, ⟨(ALe.refl _), trivial⟩, trivial, hx⟩
  · rintro τ3 Γ3 ⟨y6, hw3, hd3, rfl⟩
    refine RunC.wl (τ' := [(3, AV.f32 y6)]) (Γ' := []) hw3 hd3 ?_
    replace h : i_Matrix_trace_k1 y6 = some q0 := h
    unfold i_Matrix_trace_k1 at h
    refine RunC.seq ?_
    refine RunC.regionW ?_
    refine ROps.l (r := AV.f32 y6) rfl rfl rfl (LOp.move rfl rfl) ?_
    refine ROps.l (r := AV.f32 y6) rfl rfl rfl (LOp.assign rfl rfl) ?_
    refine ROps.nil ?_
    refine RunC.ret ?_
    have hq := Option.some.inj h
    subst q0
    exact bodyQ.pure (.inr rfl) rfl (Res.one rfl (RV.tmp rfl))
noncomputable def i_finite (a0 : F) : Option (F × Bool) :=
  obind (i_IsFinite a0) fun (r1 : Bool) =>
  bsel r1 (
    some (a0, true)) (
    some (some 0, false))
theorem i_finite_ok (a0 : F) (q0 : F) (q1 : Bool) (h : i_finite a0 = some (q0, q1)) : Ev Try.prog 103 [AV.f32 a0] [] (AV.tup [AV.f32 q0, AV.b q1]) [] := by
  refine Ev.start Try.func103 rfl rfl 0 (τ := [(0, AV.f32 a0)]) rfl (Γ' := []) rfl (n := 17) rfl (g := 0) rfl (fun _ => rfl) ?_
  unfold i_finite at h
  refine RunC.seq ?_
  refine RunC.regionW ?_
  refine ROps.l (r := AV.f32 (some 0)) rfl rfl rfl (LOp.le (LOp.assign rfl rfl) (ALe.fl (by kernel_rfl) (by kernel_rfl))) ?_
  refine ROps.l (r := AV.b false) rfl rfl rfl (LOp.assign rfl rfl) ?_
  refine ROps.nil ?_
  refine RunC.seq ?_
  refine RunC.seq ?_
  obtain ⟨r1, hf1, h⟩ := obind_some h
  rcases bsel_some h with ⟨hc2, h⟩ | ⟨hc2, h⟩
  · refine RunC.regionW ?_
    refine ROps.l (r := AV.f32 a0) rfl rfl rfl (LOp.move rfl rfl) ?_
    refine ROps.d (r := AV.b true) (fs := []) (Γ' := []) rfl rfl rfl (TOp.eqb (TOp.callB (CallAs.func ent46 rfl rfl) (Bors.cons (Bor.pure rfl) Bors.nil) rfl rfl (i_IsFinite_ok a0 r1 hf1)) hc2) rfl ?_
    refine ROps.l (r := AV.b false) rfl rfl rfl (LOp.eqb (LOp.not rfl rfl) rfl) ?_
    refine ROps.nil ?_
    refine RunC.cond_false rfl rfl ?_
    refine RunC.skip ?_
    refine RunC.seq ?_
    refine RunC.regionW ?_
    refine ROps.l (r := AV.f32 a0) rfl rfl rfl (LOp.move rfl rfl) ?_
    refine ROps.l (r := AV.f32 a0) rfl rfl rfl (LOp.assign rfl rfl) ?_
    refine ROps.l (r := AV.b true) rfl rfl rfl (LOp.assign rfl rfl) ?_
    refine ROps.nil ?_
    refine RunC.ret ?_
    have hq := Option.some.inj h
    obtain ⟨hq0, hq⟩ := Prod.mk.inj hq
    subst q0
    subst q1
    exact bodyQ.pure (.inr rfl) rfl (Res.two rfl (RV.tmp rfl) (RV.tmp rfl))
  · refine RunC.regionW ?_
    refine ROps.l (r := AV.f32 a0) rfl rfl rfl (LOp.move rfl rfl) ?_
    refine ROps.d (r := AV.b false) (fs := []) (Γ' := []) rfl rfl rfl (TOp.eqb (TOp.callB (CallAs.func ent46 rfl rfl) (Bors.cons (Bor.pure rfl) Bors.nil) rfl rfl (i_IsFinite_ok a0 r1 hf1)) hc2) rfl ?_
    refine ROps.l (r := AV.b true) rfl rfl rfl (LOp.eqb (LOp.not rfl rfl) rfl) ?_
    refine ROps.nil ?_
    refine RunC.cond_true rfl rfl ?_
    refine RunC.seq ?_
    refine RunC.regionW ?_
    refine ROps.l (r := AV.f32 (some 0)) rfl rfl rfl (LOp.le (LOp.assign rfl rfl) (ALe.fl (by kernel_rfl) (by kernel_rfl))) ?_
    refine ROps.l (r := AV.b false) rfl rfl rfl (LOp.assign rfl rfl) ?_
    refine ROps.nil ?_
    refine RunC.ret ?_
    have hq := Option.some.inj h
    obtain ⟨hq0, hq⟩ := Prod.mk.inj hq
    subst q0
    subst q1
    exact bodyQ.pure (.inr rfl) rfl (Res.two rfl (RV.tmp rfl) (RV.tmp rfl))
noncomputable def i_TraceOf (a0 : Int) (a1 : Int) (a2 : List F) : Option (F × Bool) :=
  obind (i_isSquare a0 a1 a2) fun (r1 : Bool) =>
  bsel r1 (
    obind (i_Matrix_trace a0 a1 a2) fun (r2 : F) =>
    obind2 (i_finite r2) fun (r3 : F) (r4 : Bool) =>
    some (r3, r4)) (
    some (some 0, false))
theorem i_TraceOf_ok (a0 : Int) (a1 : Int) (a2 : List F) (q0 : F) (q1 : Bool) (h : i_TraceOf a0 a1 a2 = some (q0, q1)) : Ev Try.prog 66 [AV.agg [AV.i64 a0, AV.i64 a1, AV.sl a2.length (a2.map AV.f32)]] [] (AV.tup [AV.f32 q0, AV.b q1]) [] := by
  refine Ev.start Try.func66 rfl rfl 0 (τ := [(0, AV.agg [AV.i64 a0, AV.i64 a1, AV.sl a2.length (a2.map AV.f32)])]) rfl (Γ' := []) rfl (n := 25) rfl (g := 0) rfl (fun _ => rfl) ?_
  unfold i_TraceOf at h
  refine RunC.seq ?_
  refine RunC.regionW ?_
  refine ROps.d (r := AV.ptr [AV.i64 a0, AV.i64 a1, AV.sl a2.length (a2.map AV.f32)]) (fs := []) (Γ' := []) rfl rfl rfl (TOp.box_s rfl rfl rfl) rfl ?_
  refine ROps.l (r := AV.f32 (some 0)) rfl rfl rfl (LOp.le (LOp.assign rfl rfl) (ALe.fl (by kernel_rfl) (by kernel_rfl))) ?_
  refine ROps.l (r := AV.b false) rfl rfl rfl (LOp.assign rfl rfl) ?_
  refine ROps.nil ?_
  refine RunC.seq ?_
  refine RunC.seq ?_
  obtain ⟨r1, hf1, h⟩ := obind_some h
  rcases bsel_some h with ⟨hc2, h⟩ | ⟨hc2, h⟩
  · refine RunC.regionW ?_
    refine ROps.l (r := AV.agg [AV.i64 a0, AV.i64 a1, AV.sl a2.length (a2.map AV.f32)]) rfl rfl rfl (LOp.loadAgg agg27 siz27 rfl rfl rfl rfl) ?_
    refine ROps.d (r := AV.b true) (fs := []) (Γ' := []) rfl rfl rfl (TOp.eqb (TOp.callB (CallAs.func ent59 rfl rfl) (Bors.cons (Bor.agg (Bors.cons (Bor.pure rfl) (Bors.cons (Bor.pure rfl) (Bors.cons (Bor.sl (fun _ => rfl)) Bors.nil)))) Bors.nil) rfl rfl (i_isSquare_ok a0 a1 a2 r1 hf1)) hc2) rfl ?_
    refine ROps.l (r := AV.b false) rfl rfl rfl (LOp.eqb (LOp.not rfl rfl) rfl) ?_
    refine ROps.nil ?_
    refine RunC.cond_false rfl rfl ?_
    refine RunC.skip ?_
    refine RunC.seq ?_
    obtain ⟨r2, hf3, h⟩ := obind_some h
    obtain ⟨r3, r4, hf4, h⟩ := obind2_some h
    refine RunC.regionW ?_
    refine ROps.l (r := AV.agg [AV.i64 a0, AV.i64 a1, AV.sl a2.length (a2.map AV.f32)]) rfl rfl rfl (LOp.loadAgg agg27 siz27 rfl rfl rfl rfl) ?_
    refine ROps.d (r := AV.f32 r2) (fs := []) (Γ' := []) rfl rfl rfl (TOp.callB (CallAs.func ent104 rfl rfl) (Bors.cons (Bor.agg (Bors.cons (Bor.pure rfl) (Bors.cons (Bor.pure rfl) (Bors.cons (Bor.sl (fun _ => rfl)) Bors.nil)))) Bors.nil) rfl rfl (i_Matrix_trace_ok a0 a1 a2 r2 hf3)) rfl ?_
    refine ROps.d (r := AV.tup [AV.f32 r3, AV.b r4]) (fs := []) (Γ' := []) rfl rfl rfl (TOp.callB (CallAs.func ent103 rfl rfl) (Bors.cons (Bor.pure rfl) Bors.nil) rfl rfl (i_finite_ok r2 r3 r4 hf4)) rfl ?_
    refine ROps.l (r := AV.f32 r3) rfl rfl rfl (LOp.extract rfl rfl rfl) ?_
    refine ROps.l (r := AV.b r4) rfl rfl rfl (LOp.extract rfl rfl rfl) ?_
    refine ROps.l (r := AV.f32 r3) rfl rfl rfl (LOp.assign rfl rfl) ?_
    refine ROps.l (r := AV.b r4) rfl rfl rfl (LOp.assign rfl rfl) ?_
    refine ROps.nil ?_
    refine RunC.ret ?_
    have hq := Option.some.inj h
    obtain ⟨hq0, hq⟩ := Prod.mk.inj hq
    subst q0
    subst q1
    exact bodyQ.pure (.inr rfl) rfl (Res.two rfl (RV.tmp rfl) (RV.tmp rfl))
  · refine RunC.regionW ?_
    refine ROps.l (r := AV.agg [AV.i64 a0, AV.i64 a1, AV.sl a2.length (a2.map AV.f32)]) rfl rfl rfl (LOp.loadAgg agg27 siz27 rfl rfl rfl rfl) ?_
    refine ROps.d (r := AV.b false) (fs := []) (Γ' := []) rfl rfl rfl (TOp.eqb (TOp.callB (CallAs.func ent59 rfl rfl) (Bors.cons (Bor.agg (Bors.cons (Bor.pure rfl) (Bors.cons (Bor.pure rfl) (Bors.cons (Bor.sl (fun _ => rfl)) Bors.nil)))) Bors.nil) rfl rfl (i_isSquare_ok a0 a1 a2 r1 hf1)) hc2) rfl ?_
    refine ROps.l (r := AV.b true) rfl rfl rfl (LOp.eqb (LOp.not rfl rfl) rfl) ?_
    refine ROps.nil ?_
    refine RunC.cond_true rfl rfl ?_
    refine RunC.seq ?_
    refine RunC.regionW ?_
    refine ROps.l (r := AV.f32 (some 0)) rfl rfl rfl (LOp.le (LOp.assign rfl rfl) (ALe.fl (by kernel_rfl) (by kernel_rfl))) ?_
    refine ROps.l (r := AV.b false) rfl rfl rfl (LOp.assign rfl rfl) ?_
    refine ROps.nil ?_
    refine RunC.ret ?_
    have hq := Option.some.inj h
    obtain ⟨hq0, hq⟩ := Prod.mk.inj hq
    subst q0
    subst q1
    exact bodyQ.pure (.inr rfl) rfl (Res.two rfl (RV.tmp rfl) (RV.tmp rfl))
noncomputable def i_allFinite_0o (a0 : List F) : Option ((Bool × (List F)) ⊕ (Bool × (List F) × (List F))) :=
  obind (i_areFinite a0) fun (r1 : Bool) =>
  bsel r1 (
    some (Sum.inl (true, a0))) (
    some (Sum.inr (false, a0, ([] : List F))))
theorem i_allFinite_0o_ok0 (a0 : List F) (q0 : Bool) (q1 : List F) (h : i_allFinite_0o a0 = some (Sum.inl (q0, q1))) : Ev Try.prog 67 [AV.oref 0 0 0 a0.length] [⟨0, some (a0.map AV.f32)⟩] (AV.tup [AV.oref 0 0 0 q1.length, AV.b q0]) [⟨0, some (q1.map AV.f32)⟩] := by
  refine Ev.start Try.func67 rfl rfl 1 (τ := [(0, AV.oref 0 0 0 a0.length)]) rfl (Γ' := [⟨0, some (a0.map AV.f32)⟩, ⟨0, none⟩]) rfl (n := 16) rfl (g := 1) rfl (by decide) ?_
  unfold i_allFinite_0o at h
  refine RunC.seq ?_
  refine RunC.regionW ?_
  refine ROps.l (r := AV.nilsl) rfl rfl rfl (LOp.assign rfl rfl) ?_
  refine ROps.l (r := AV.b false) rfl rfl rfl (LOp.assign rfl rfl) ?_
  refine ROps.nil ?_
  refine RunC.seq ?_
  refine RunC.seq ?_
  obtain ⟨r1, hf1, h⟩ := obind_some h
  rcases bsel_some h with ⟨hc2, h⟩ | ⟨hc2, h⟩
  · refine RunC.regionW ?_
    refine ROps.l (r := AV.oref 0 0 0 a0.length) rfl rfl rfl (LOp.move rfl rfl) ?_
    refine ROps.d (r := AV.b true) (fs := []) (Γ' := [⟨0, some (a0.map AV.f32)⟩, ⟨0, none⟩]) rfl rfl rfl (TOp.eqb (TOp.callB (CallAs.func ent84 rfl rfl) (Bors.cons (Bor.own (f := AV.f32) (fun _ => rfl) rfl rfl) Bors.nil) rfl rfl (i_areFinite_ok a0 r1 hf1)) hc2) rfl ?_
    refine ROps.l (r := AV.b false) rfl rfl rfl (LOp.eqb (LOp.not rfl rfl) rfl) ?_
    refine ROps.nil ?_
    refine RunC.cond_false rfl rfl ?_
    refine RunC.skip ?_
    refine RunC.seq ?_
    refine RunC.regionW ?_
    refine ROps.l (r := AV.oref 0 0 0 a0.length) rfl rfl rfl (LOp.move rfl rfl) ?_
    refine ROps.l (r := AV.oref 0 0 0 a0.length) rfl rfl rfl (LOp.assign rfl rfl) ?_
    refine ROps.l (r := AV.b true) rfl rfl rfl (LOp.assign rfl rfl) ?_
    refine ROps.nil ?_
    refine RunC.ret ?_
    have hq := Option.some.inj h
    have hq := Sum.inl.inj hq
    obtain ⟨hq0, hq⟩ := Prod.mk.inj hq
    subst q0
    subst q1
    exact bodyQ.mk (r' := AV.tup [AV.oref 0 0 0 a0.length, AV.b true]) [(0, 0)] (.inr rfl) rfl (show List.Nodup [0] from by decide) rfl rfl (Res.two rfl (RV.tmp rfl) (RV.tmp rfl)) (SelL.arr (f := AV.f32) (fun _ => rfl) rfl trivial)
  · refine RunC.regionW ?_
    refine ROps.l (r := AV.oref 0 0 0 a0.length) rfl rfl rfl (LOp.move rfl rfl) ?_
    refine ROps.d (r := AV.b false) (fs := []) (Γ' := [⟨0, some (a0.map AV.f32)⟩, ⟨0, none⟩]) rfl rfl rfl (TOp.eqb (TOp.callB (CallAs.func ent84 rfl rfl) (Bors.cons (Bor.own (f := AV.f32) (fun _ => rfl) rfl rfl) Bors.nil) rfl rfl (i_areFinite_ok a0 r1 hf1)) hc2) rfl ?_
    refine ROps.l (r := AV.b true) rfl rfl rfl (LOp.eqb (LOp.not rfl rfl) rfl) ?_
    refine ROps.nil ?_
    refine RunC.cond_true rfl rfl ?_
    refine RunC.seq ?_
    refine RunC.regionW ?_
    refine ROps.l (r := AV.nilsl) rfl rfl rfl (LOp.assign rfl rfl) ?_
    refine ROps.l (r := AV.b false) rfl rfl rfl (LOp.assign rfl rfl) ?_
    refine ROps.nil ?_
    cases Option.some.inj h
theorem i_allFinite_0o_ok1 (a0 : List F) (q0 : Bool) (q1 : List F) (q2 : List F) (h : i_allFinite_0o a0 = some (Sum.inr (q0, q1, q2))) : Ev Try.prog 67 [AV.oref 0 0 0 a0.length] [⟨0, some (a0.map AV.f32)⟩] (AV.tup [AV.oref 1 0 0 q2.length, AV.b q0]) [⟨0, some (q1.map AV.f32)⟩, ⟨0, some (q2.map AV.f32)⟩] := by
  refine Ev.start Try.func67 rfl rfl 1 (τ := [(0, AV.oref 0 0 0 a0.length)]) rfl (Γ' := [⟨0, some (a0.map AV.f32)⟩, ⟨0, none⟩]) rfl (n := 16) rfl (g := 1) rfl (by decide) ?_
  unfold i_allFinite_0o at h
  refine RunC.seq ?_
  refine RunC.regionW ?_
  refine ROps.l (r := AV.nilsl) rfl rfl rfl (LOp.assign rfl rfl) ?_
  refine ROps.l (r := AV.b false) rfl rfl rfl (LOp.assign rfl rfl) ?_
  refine ROps.nil ?_
  refine RunC.seq ?_
  refine RunC.seq ?_
  obtain ⟨r1, hf1, h⟩ := obind_some h
  rcases bsel_some h with ⟨hc2, h⟩ | ⟨hc2, h⟩
  · refine RunC.regionW ?_
    refine ROps.l (r := AV.oref 0 0 0 a0.length) rfl rfl rfl (LOp.move rfl rfl) ?_
    refine ROps.d (r := AV.b true) (fs := []) (Γ' := [⟨0, some (a0.map AV.f32)⟩, ⟨0, none⟩]) rfl rfl rfl (TOp.eqb (TOp.callB (CallAs.func ent84 rfl rfl) (Bors.cons (Bor.own (f := AV.f32) (fun _ => rfl) rfl rfl) Bors.nil) rfl rfl (i_areFinite_ok a0 r1 hf1)) hc2) rfl ?_
    refine ROps.l (r := AV.b false) rfl rfl rfl (LOp.eqb (LOp.not rfl rfl) rfl) ?_
    refine ROps.nil ?_
    refine RunC.cond_false rfl rfl ?_
    refine RunC.skip ?_
    refine RunC.seq ?_
    refine RunC.regionW ?_
    refine ROps.l (r := AV.oref 0 0 0 a0.length) rfl rfl rfl (LOp.move rfl rfl) ?_
    refine ROps.l (r := AV.oref 0 0 0 a0.length) rfl rfl rfl (LOp.assign rfl rfl) ?_
    refine ROps.l (r := AV.b true) rfl rfl rfl (LOp.assign rfl rfl) ?_
    refine ROps.nil ?_
    cases Option.some.inj h
  · refine RunC.regionW ?_
    refine ROps.l (r := AV.oref 0 0 0 a0.length) rfl rfl rfl (LOp.move rfl rfl) ?_
    refine ROps.d (r := AV.b false) (fs := []) (Γ' := [⟨0, some (a0.map AV.f32)⟩, ⟨0, none⟩]) rfl rfl rfl (TOp.eqb (TOp.callB (CallAs.func ent84 rfl rfl) (Bors.cons (Bor.own (f := AV.f32) (fun _ => rfl) rfl rfl) Bors.nil) rfl rfl (i_areFinite_ok a0 r1 hf1)) hc2) rfl ?_
    refine ROps.l (r := AV.b true) rfl rfl rfl (LOp.eqb (LOp.not rfl rfl) rfl) ?_
    refine ROps.nil ?_
    refine RunC.cond_true rfl rfl ?_
    refine RunC.seq ?_
    refine RunC.regionW ?_
    refine ROps.l (r := AV.nilsl) rfl rfl rfl (LOp.assign rfl rfl) ?_
    refine ROps.l (r := AV.b false) rfl rfl rfl (LOp.assign rfl rfl) ?_
    refine ROps.nil ?_
    refine RunC.nil_slot (Γ' := [⟨0, some (a0.map AV.f32)⟩, ⟨1, some (([] : List F).map AV.f32)⟩]) 2 1 rfl rfl rfl ?_
    refine RunC.ret ?_
    have hq := Option.some.inj h
    have hq := Sum.inr.inj hq
    obtain ⟨hq0, hq⟩ := Prod.mk.inj hq
    obtain ⟨hq1, hq⟩ := Prod.mk.inj hq
    subst q0
    subst q1
    subst q2
    exact bodyQ.mk (r' := AV.tup [AV.oref 1 1 0 (([] : List F).length), AV.b false]) [(0, 0), (1, 1)] (.inr rfl) rfl (show List.Nodup [0, 1] from by decide) rfl rfl (Res.eq (Res.two rfl (RV.tmp rfl) (RV.tmp rfl)) (by rw [(show ([] : List F).length = 0 from rfl)] <;> rfl)) (SelL.arr (f := AV.f32) (fun _ => rfl) rfl (SelL.arr0 (f := AV.f32) (fun _ => rfl) rfl trivial))
noncomputable def i_SignsOf_k6 (v14 : Int) (L48 : List F) (L55 : List F) (v56 : Int) (v57 : Int) : Option (LR ((List F) × (List F) × Int × Int × Int) ((List F)) (Bool × (List F))) :=
  olet (IntKind.i64.wrap (v14 + 1)) fun (x58 : Int) =>
  some (LR.next (L55, L48, v56, v57, x58))
noncomputable def i_SignsOf_k5 (L11 : List F) (v14 : Int) (L39 : List F) (v40 : Int) (v41 : Int) : Option (LR ((List F) × (List F) × Int × Int × Int) ((List F)) (Bool × (List F))) :=
  obind2 (i_TraceOf v40 v41 L39) fun (r42 : F) (r43 : Bool) =>
  bsel r43 (
    bsel (decide (v14 = 1)) (
      olet (fneg .f32 r42) fun (x44 : F) =>
      need (apok 4 L11.length 1) <|
      i_SignsOf_k6 v14 (L11 ++ ([x44] : List F)) L39 v40 v41) (
      olet (fneg .f32 r42) fun (x45 : F) =>
      olet (fint .f32 v14) fun (x46 : F) =>
      olet (fop .quo .f32 x45 x46) fun (x47 : F) =>
      need (apok 4 L11.length 1) <|
      i_SignsOf_k6 v14 (L11 ++ ([x47] : List F)) L39 v40 v41)) (
    some (LR.ret (false, ([] : List F))))
noncomputable def i_SignsOf_b4 (a0 : Int) (L10 : List F) (L11 : List F) (v12 : Int) (v13 : Int) (v14 : Int) (L15 : List F) (v17 : Int) : Option (LR ((List F) × Int) ((List F)) (Bool × (List F))) :=
  bsel (decide (v17 < a0)) (
    obind (i_Matrix_at v12 v13 L15 v17 v17) fun (r22 : F) =>
    olet (IntKind.i64.wrap (v14 - 2)) fun (x23 : Int) =>
    obind (at? L11 x23) fun (e24 : F) =>
    olet (fop .add .f32 r22 e24) fun (x25 : F) =>
    obind (i_Matrix_set_02o v12 v13 v17 v17 x25 L15) fun (r26 : List F) =>
    need (decide (r26.length = L10.length)) <|
    olet (IntKind.i64.wrap (v17 + 1)) fun (x27 : Int) =>
    some (LR.next (r26, x27))) (
    some (LR.out L15))
noncomputable def i_SignsOf_s4 (a0 : Int) (L10 : List F) (L11 : List F) (v12 : Int) (v13 : Int) (v14 : Int) : ((List F) × Int) → Option (LR ((List F) × Int) ((List F)) (Bool × (List F))) := fun s => i_SignsOf_b4 a0 L10 L11 v12 v13 v14 s.1 s.2
noncomputable def i_SignsOf_k4 (a0 : Int) (a1 : Int) (a2 : List F) (L11 : List F) (v12 : Int) (v13 : Int) (v14 : Int) (L28 : List F) : Option (LR ((List F) × (List F) × Int × Int × Int) ((List F)) (Bool × (List F))) :=
  obind4 (i_MulMatrices a0 a1 a2 v12 v13 L28) fun (r30 : Int) (r31 : Int) (r32 : Bool) (r33 : List F) =>
  bsel r32 (
    i_SignsOf_k5 L11 v14 r33 r30 r31) (
    some (LR.ret (false, ([] : List F))))
noncomputable def i_SignsOf_b7 (a0 : Int) (a1 : Int) (a2 : List F) (L10 : List F) (L11 : List F) (v12 : Int) (v13 : Int) (v14 : Int) : Option (LR ((List F) × (List F) × Int × Int × Int) ((List F)) (Bool × (List F))) :=
  bsel (decide (v14 ≤ a0)) (
    bsel (decide (1 < v14)) (
      obind (loopM (i_SignsOf_s4 a0 L10 L11 v12 v13 v14) (L10, 0)) fun z => osum z (fun e => i_SignsOf_k4 a0 a1 a2 L11 v12 v13 v14 e) (fun r => some (LR.ret r))) (
      i_SignsOf_k5 L11 v14 L10 v12 v13)) (
    some (LR.out L11))
noncomputable def i_SignsOf_s7 (a0 : Int) (a1 : Int) (a2 : List F) : ((List F) × (List F) × Int × Int × Int) → Option (LR ((List F) × (List F) × Int × Int × Int) ((List F)) (Bool × (List F))) := fun s => i_SignsOf_b7 a0 a1 a2 s.1 s.2.1 s.2.2.1 s.2.2.2.1 s.2.2.2.2
noncomputable def i_SignsOf_k7 (L64 : List F) : Option (Bool × (List F)) :=
  obind (i_allFinite_0o L64) (fun z => osum z (fun y => obind2 (some y) fun (r65 : Bool) (r66 : List F) =>
    need (decide (r66.length = L64.length)) <|
    some (r65, r66)) (fun y => obind3 (some y) fun (r67 : Bool) (r68 : List F) (r69 : List F) =>
    need (decide (r68.length = L64.length)) <|
    some (r67, r69)))
noncomputable def i_SignsOf (a0 : Int) (a1 : Int) (a2 : List F) : Option (Bool × (List F)) :=
  obind (i_isSquare a0 a1 a2) fun (r1 : Bool) =>
  bsel r1 (
    obind3 (i_Matrix_clone a0 a1 a2) fun (r2 : Int) (r3 : Int) (r4 : List F) =>
    obind (loopM (i_SignsOf_s7 a0 a1 a2) (r4, ([] : List F), r2, r3, 1)) fun z => osum z (fun e => i_SignsOf_k7 e) (fun r => some r)) (
    some (false, ([] : List F)))
theorem i_SignsOf_ok (a0 : Int) (a1 : Int) (a2 : List F) (q0 : Bool) (q1 : List F) (h : i_SignsOf a0 a1 a2 = some (q0, q1)) : Ev Try.prog 23 [AV.agg [AV.i64 a0, AV.i64 a1, AV.sl a2.length (a2.map AV.f32)]] [] (AV.tup [AV.oref 0 0 0 q1.length, AV.b q0]) [⟨0, some (q1.map AV.f32)⟩] := by
  refine Ev.start Try.func23 rfl rfl 6 (τ := [(0, AV.agg [AV.i64 a0, AV.i64 a1, AV.sl a2.length (a2.map AV.f32)])]) rfl (Γ' := [⟨0, none⟩, ⟨0, none⟩, ⟨0, none⟩, ⟨0, none⟩, ⟨0, none⟩, ⟨0, none⟩]) rfl (n := 163) rfl (g := 0) rfl (fun _ => rfl) ?_
  unfold i_SignsOf at h
  refine RunC.seq ?_
  refine RunC.regionW ?_
  refine ROps.d (r := AV.ptr [AV.i64 a0, AV.i64 a1, AV.sl a2.length (a2.map AV.f32)]) (fs := []) (Γ' := [⟨0, none⟩, ⟨0, none⟩, ⟨0, none⟩, ⟨0, none⟩, ⟨0, none⟩, ⟨0, none⟩]) rfl rfl rfl (TOp.box_s rfl rfl rfl) rfl ?_
  refine ROps.l (r := AV.nilsl) rfl rfl rfl (LOp.assign rfl rfl) ?_
  refine ROps.l (r := AV.b false) rfl rfl rfl (LOp.assign rfl rfl) ?_
  refine ROps.nil ?_
  refine RunC.seq ?_
  refine RunC.seq ?_
  obtain ⟨r1, hf1, h⟩ := obind_some h
  rcases bsel_some h with ⟨hc2, h⟩ | ⟨hc2, h⟩
  · refine RunC.regionW ?_
    refine ROps.l (r := AV.agg [AV.i64 a0, AV.i64 a1, AV.sl a2.length (a2.map AV.f32)]) rfl rfl rfl (LOp.loadAgg agg27 siz27 rfl rfl rfl rfl) ?_
    refine ROps.d (r := AV.b true) (fs := []) (Γ' := [⟨0, none⟩, ⟨0, none⟩, ⟨0, none⟩, ⟨0, none⟩, ⟨0, none⟩, ⟨0, none⟩]) rfl rfl rfl (TOp.eqb (TOp.callB (CallAs.func ent59 rfl rfl) (Bors.cons (Bor.agg (Bors.cons (Bor.pure rfl) (Bors.cons (Bor.pure rfl) (Bors.cons (Bor.sl (fun _ => rfl)) Bors.nil)))) Bors.nil) rfl rfl (i_isSquare_ok a0 a1 a2 r1 hf1)) hc2) rfl ?_
    refine ROps.l (r := AV.b false) rfl rfl rfl (LOp.eqb (LOp.not rfl rfl) rfl) ?_
    refine ROps.nil ?_
    refine RunC.cond_false rfl rfl ?_
    refine RunC.skip ?_
    refine RunC.seq ?_
    obtain ⟨r2, r3, r4, hf3, h⟩ := obind3_some h
    refine RunC.regionW ?_
    refine ROps.l (r := AV.agg [AV.i64 a0, AV.i64 a1, AV.sl a2.length (a2.map AV.f32)]) rfl rfl rfl (LOp.loadAgg agg27 siz27 rfl rfl rfl rfl) ?_
    refine ROps.d (r := AV.agg [AV.i64 r2, AV.i64 r3, AV.oref 0 1 0 r4.length]) (fs := [(0, (r4.map AV.f32))]) (Γ' := [⟨1, some (r4.map AV.f32)⟩, ⟨0, none⟩, ⟨0, none⟩, ⟨0, none⟩, ⟨0, none⟩, ⟨0, none⟩]) rfl rfl rfl (TOp.callBN (ls := [(r4.map AV.f32)]) [0] (CallAs.func ent48 rfl rfl) (Bors.cons (Bor.agg (Bors.cons (Bor.pure rfl) (Bors.cons (Bor.pure rfl) (Bors.cons (Bor.sl (fun _ => rfl)) Bors.nil)))) Bors.nil) rfl (i_Matrix_clone_ok a0 a1 a2 r2 r3 r4 hf3) (and_all (lts0_map (f := AV.f32) (fun _ => rfl) _) rfl) (and_all (noss_map (f := AV.f32) (fun _ => rfl) _) rfl) rfl (by decide) (ns_of ⟨⟨_, rfl⟩, trivial⟩)) rfl ?_
    refine ROps.d (r := AV.oref 1 1 0 0) (fs := [(1, (([] : List F).map AV.f32))]) (Γ' := [⟨1, some (r4.map AV.f32)⟩, ⟨1, some (([] : List F).map AV.f32)⟩, ⟨0, none⟩, ⟨0, none⟩, ⟨0, none⟩, ⟨0, none⟩]) rfl rfl rfl (TOp.buildSlice_o (g := ⟨0, none⟩) (za := AV.f32 (some 0)) (qs := []) 1 rfl und22 siz25 zer25 rfl zel25 rfl rfl trivial rfl) rfl ?_
    refine ROps.d (r := AV.optr 2 1 0) (fs := [(2, [AV.i64 0, AV.i64 0, AV.nilsl])]) (Γ' := [⟨1, some (r4.map AV.f32)⟩, ⟨1, some (([] : List F).map AV.f32)⟩, ⟨1, some [AV.i64 0, AV.i64 0, AV.nilsl]⟩, ⟨0, none⟩, ⟨0, none⟩, ⟨0, none⟩]) rfl rfl rfl (TOp.alloc_o (g := ⟨0, none⟩) 2 rfl zer27 zok27 rfl) rfl ?_
    refine ROps.store_le (r := AV.agg [AV.i64 r2, AV.i64 r3, AV.oref 0 1 0 r4.length]) (l' := [AV.i64 r2, AV.i64 r3, AV.oref 0 1 0 r4.length]) (Γ' := [⟨1, some (r4.map AV.f32)⟩, ⟨1, some (([] : List F).map AV.f32)⟩, ⟨1, some [AV.i64 r2, AV.i64 r3, AV.oref 0 1 0 r4.length]⟩, ⟨0, none⟩, ⟨0, none⟩, ⟨0, none⟩]) rfl siz27 rfl rfl rfl (ALe.refl _) rfl rfl rfl rfl (Nat.le_of_ble_eq_true rfl) rfl rfl ?_
    refine ROps.l (r := AV.oref 1 1 0 0) rfl rfl rfl (LOp.assign rfl rfl) ?_
    refine ROps.nil ?_
    refine RunC.seq ?_
    refine RunC.seq ?_
    refine RunC.regionW ?_
    refine ROps.l (r := AV.i64 1) rfl rfl rfl (LOp.assign rfl rfl) ?_
    refine ROps.nil ?_
    obtain ⟨z8, hz_8, h⟩ := obind_some h
    refine RunC.cutN (fun τ Γ => ∃ (L64 : List F) (u59 : Nat) (u60 : Nat) (u61 : Nat) (u62 : Nat) (u63 : Nat), Le 163 τ Γ [(5, AV.oref 1 u60 0 L64.length)] [⟨u59, none⟩, ⟨u60, some (L64.map AV.f32)⟩, ⟨u61, none⟩, ⟨u62, none⟩, ⟨u63, none⟩, ⟨0, none⟩] ∧ z8 = .inl L64) ?_ ?_
    · refine RunC.block (RunC.loop (RunL.loopM (x := z8) (i_SignsOf_s7 a0 a1 a2) (fun (s : (List F) × (List F) × Int × Int × Int) τ Γ => ∃ (u5 : Nat) (u6 : Nat) (u7 : Nat) (u8 : Nat) (u9 : Nat), Le 163 τ Γ [(1, AV.ptr [AV.i64 a0, AV.i64 a1, AV.sl a2.length (a2.map AV.f32)]), (4, AV.optr 2 u7 0), (5, AV.oref 1 u6 0 s.2.1.length), (6, AV.i64 s.2.2.2.2)] [⟨u5, some (s.1.map AV.f32)⟩, ⟨u6, some (s.2.1.map AV.f32)⟩, ⟨u7, some [AV.i64 s.2.2.1, AV.i64 s.2.2.2.1, AV.oref 0 u5 0 s.1.length]⟩, ⟨u8, none⟩, ⟨u9, none⟩, ⟨0, none⟩]) ?_ _ _ _ hz_8 ⟨1, 1, 1, 0, 0, (Le.of ⟨(ALe.refl _), (ALe.refl _), (ALe.refl _), (ALe.refl _), trivial⟩ ⟨⟨rfl, .inr rfl⟩, ⟨rfl, .inr rfl⟩, ⟨rfl, .inr (by first | rfl | simp)⟩, ⟨rfl, .inl rfl⟩, ⟨rfl, .inl rfl⟩, ⟨rfl, .inr rfl⟩, trivial⟩)⟩))
      rintro ⟨L10, L11, v12, v13, v14⟩ τ8 Γ8 y8_ ⟨u5, u6, u7, u8, u9, hw8⟩ h8_ ho8 hr8
      refine RunC.le (τ' := [(1, AV.ptr [AV.i64 a0, AV.i64 a1, AV.sl a2.length (a2.map AV.f32)]), (4, AV.optr 2 u7 0), (5, AV.oref 1 u6 0 L11.length), (6, AV.i64 v14)]) (Γ' := [⟨u5, some (L10.map AV.f32)⟩, ⟨u6, some (L11.map AV.f32)⟩, ⟨u7, some [AV.i64 v12, AV.i64 v13, AV.oref 0 u5 0 L10.length]⟩, ⟨u8, none⟩, ⟨u9, none⟩, ⟨0, none⟩]) hw8 ?_
      replace h8_ : i_SignsOf_b7 a0 a1 a2 L10 L11 v12 v13 v14 = some y8_ := h8_
      unfold i_SignsOf_b7 at h8_
      refine RunC.seq ?_
      refine RunC.seq ?_
      rcases bsel_some h8_ with ⟨hc4, h8_⟩ | ⟨hc4, h8_⟩
      · refine RunC.regionW ?_
        refine ROps.l (r := AV.i64 v14) rfl rfl rfl (LOp.move rfl rfl) ?_
        refine ROps.l (r := AV.ptr [AV.i64 a0, AV.i64 a1, AV.sl a2.length (a2.map AV.f32)]) rfl rfl rfl (LOp.fap und27 rfl siz2 rfl rfl rfl) ?_
        refine ROps.l (r := AV.i64 a0) rfl rfl rfl (LOp.load1 agg2 rfl rfl) ?_
        refine ROps.l (r := AV.b true) rfl rfl rfl (LOp.eqb (LOp.leq rfl rfl rfl) hc4) ?_
        refine ROps.nil ?_
        refine RunC.cond_true rfl rfl ?_
        refine RunC.skip ?_
        refine RunC.seq ?_
        refine RunC.cutN (fun τ Γ => ∃ (L48 : List F) (L55 : List F) (v56 : Int) (v57 : Int) (u50 : Nat) (u51 : Nat) (u52 : Nat) (u53 : Nat) (u54 : Nat), L48.length = (L11.length + 1) ∧ Le 163 τ Γ [(1, AV.ptr [AV.i64 a0, AV.i64 a1, AV.sl a2.length (a2.map AV.f32)]), (4, AV.optr 2 u52 0), (5, AV.oref 1 u51 0 (L11.length + 1)), (6, AV.i64 v14)] [⟨u50, none⟩, ⟨u51, some (L48.map AV.f32)⟩, ⟨u52, some [AV.i64 v56, AV.i64 v57, AV.oref 3 u53 0 L55.length]⟩, ⟨u53, some (L55.map AV.f32)⟩, ⟨u54, none⟩, ⟨0, none⟩] ∧ i_SignsOf_k6 v14 L48 L55 v56 v57 = some y8_) ?_ ?_
        · refine RunC.block ?_
          refine RunC.seq ?_
          refine RunC.cutN (fun τ Γ => ∃ (L39 : List F) (v40 : Int) (v41 : Int) (u34 : Nat) (u35 : Nat) (u36 : Nat) (u37 : Nat) (u38 : Nat), Le 163 τ Γ [(1, AV.ptr [AV.i64 a0, AV.i64 a1, AV.sl a2.length (a2.map AV.f32)]), (4, AV.optr 2 u36 0), (5, AV.oref 1 u35 0 L11.length), (6, AV.i64 v14)] [⟨u34, none⟩, ⟨u35, some (L11.map AV.f32)⟩, ⟨u36, some [AV.i64 v40, AV.i64 v41, AV.oref 3 u37 0 L39.length]⟩, ⟨u37, some (L39.map AV.f32)⟩, ⟨u38, none⟩, ⟨0, none⟩] ∧ i_SignsOf_k5 L11 v14 L39 v40 v41 = some y8_) ?_ ?_
          · refine RunC.seq ?_
            rcases bsel_some h8_ with ⟨hc5, h8_⟩ | ⟨hc5, h8_⟩
            · refine RunC.regionW ?_
              refine ROps.l (r := AV.i64 v14) rfl rfl rfl (LOp.move rfl rfl) ?_
              refine ROps.l (r := AV.b true) rfl rfl rfl (LOp.eqb (LOp.gtr rfl rfl rfl) hc5) ?_
              refine ROps.nil ?_
              refine RunC.cond_true rfl rfl ?_
              refine RunC.seq ?_
              refine RunC.seq ?_
              refine RunC.regionW ?_
              refine ROps.l (r := AV.ptr [AV.i64 a0, AV.i64 a1, AV.sl a2.length (a2.map AV.f32)]) rfl rfl rfl (LOp.fap und27 rfl siz2 rfl rfl rfl) ?_
              refine ROps.l (r := AV.i64 a0) rfl rfl rfl (LOp.load1 agg2 rfl rfl) ?_
              refine ROps.l (r := AV.i64 0) rfl rfl rfl (LOp.move rfl rfl) ?_
              refine ROps.nil ?_
              obtain ⟨z9, hz_9, h8_⟩ := obind_some h8_
              refine RunC.cutN (fun τ Γ => ∃ (L28 : List F), L28.length = L10.length ∧ Le 163 τ Γ [(1, AV.ptr [AV.i64 a0, AV.i64 a1, AV.sl a2.length (a2.map AV.f32)]), (4, AV.optr 2 u7 0), (5, AV.oref 1 u6 0 L11.length), (6, AV.i64 v14)] [⟨u5, some (L28.map AV.f32)⟩, ⟨u6, some (L11.map AV.f32)⟩, ⟨u7, some [AV.i64 v12, AV.i64 v13, AV.oref 0 u5 0 L10.length]⟩, ⟨u8, none⟩, ⟨u9, none⟩, ⟨0, none⟩] ∧ z9 = .inl L28) ?_ ?_
              · refine RunC.block (RunC.loop (RunL.loopM (x := z9) (i_SignsOf_s4 a0 L10 L11 v12 v13 v14) (fun (s : (List F) × Int) τ Γ => s.1.length = L10.length ∧ Le 163 τ Γ [(1, AV.ptr [AV.i64 a0, AV.i64 a1, AV.sl a2.length (a2.map AV.f32)]), (4, AV.optr 2 u7 0), (5, AV.oref 1 u6 0 L11.length), (6, AV.i64 v14), (27, AV.i64 a0), (28, AV.i64 s.2)] [⟨u5, some (s.1.map AV.f32)⟩, ⟨u6, some (L11.map AV.f32)⟩, ⟨u7, some [AV.i64 v12, AV.i64 v13, AV.oref 0 u5 0 L10.length]⟩, ⟨u8, none⟩, ⟨u9, none⟩, ⟨0, none⟩]) ?_ _ _ _ hz_9 ⟨rfl, (Le.of ⟨(ALe.refl _), (ALe.refl _), (ALe.refl _), (ALe.refl _), (ALe.refl _), (ALe.refl _), trivial⟩ ⟨⟨rfl, .inr rfl⟩, ⟨rfl, .inr rfl⟩, ⟨rfl, .inr rfl⟩, ⟨rfl, .inl rfl⟩, ⟨rfl, .inl rfl⟩, ⟨rfl, .inr rfl⟩, trivial⟩)⟩))
                rintro ⟨L15, v17⟩ τ9 Γ9 y9_ ⟨hl16, hw9⟩ h9_ ho9 hr9
                refine RunC.le (τ' := [(1, AV.ptr [AV.i64 a0, AV.i64 a1, AV.sl a2.length (a2.map AV.f32)]), (4, AV.optr 2 u7 0), (5, AV.oref 1 u6 0 L11.length), (6, AV.i64 v14), (27, AV.i64 a0), (28, AV.i64 v17)]) (Γ' := [⟨u5, some (L15.map AV.f32)⟩, ⟨u6, some (L11.map AV.f32)⟩, ⟨u7, some [AV.i64 v12, AV.i64 v13, AV.oref 0 u5 0 L10.length]⟩, ⟨u8, none⟩, ⟨u9, none⟩, ⟨0, none⟩]) hw9 ?_
                replace hl16 : L15.length = L10.length := hl16
                replace h9_ : i_SignsOf_b4 a0 L10 L11 v12 v13 v14 L15 v17 = some y9_ := h9_
                unfold i_SignsOf_b4 at h9_
                refine RunC.seq ?_
                rcases bsel_some h9_ with ⟨hc6, h9_⟩ | ⟨hc6, h9_⟩
                · refine RunC.regionW ?_
                  refine ROps.l (r := AV.b true) rfl rfl rfl (LOp.eqb (LOp.lss rfl rfl rfl) hc6) ?_
                  refine ROps.nil ?_
                  refine RunC.seq ?_
                  refine RunC.cond_true rfl rfl ?_
                  refine RunC.skip ?_
                  refine RunC.seq ?_
                  refine RunC.block ?_
                  refine RunC.seq ?_
                  refine RunC.regionW ?_
                  refine ROps.l (r := AV.i64 v17) rfl rfl rfl (LOp.move rfl rfl) ?_
                  refine ROps.l (r := AV.i64 v17) rfl rfl rfl (LOp.assign rfl rfl) ?_
                  refine ROps.nil ?_
                  obtain ⟨r22, hf11, h9_⟩ := obind_some h9_
                  obtain ⟨x23, hx12, h9_⟩ := olet_some h9_
                  obtain ⟨e24, he13, h9_⟩ := obind_some h9_
                  obtain ⟨x25, hx14, h9_⟩ := olet_some h9_
                  obtain ⟨r26, hf15, h9_⟩ := obind_some h9_
                  obtain ⟨hn16, h9_⟩ := need_some h9_
                  refine RunC.region_draw (Γ' := [⟨u5, some (L15.map AV.f32)⟩, ⟨u6, some (L11.map AV.f32)⟩, ⟨u7, some [AV.i64 v12, AV.i64 v13, AV.oref 0 u5 0 L10.length]⟩, ⟨u8, none⟩, ⟨u9, none⟩, ⟨0, none⟩]) 13 mixed 
                    (TR.d (r := AV.agg [AV.i64 v12, AV.i64 v13, AV.oref 0 u5 0 L10.length]) (fs := []) rfl rfl (TOp.loadAgg_o rfl agg27 siz27 rfl rfl rfl rfl) <|
                    (TR.l (r := AV.i64 v17) rfl rfl (LOp.move rfl rfl) <|
                    (TR.l (r := AV.i64 v17) rfl rfl (LOp.move rfl rfl) <|
                    (TR.d (r := AV.agg [AV.i64 v12, AV.i64 v13, AV.oref 0 u5 0 L10.length]) (fs := []) rfl rfl (TOp.loadAgg_o rfl agg27 siz27 rfl rfl rfl rfl) <|
                    (TR.l (r := AV.i64 v17) rfl rfl (LOp.move rfl rfl) <|
                    (TR.l (r := AV.i64 v17) rfl rfl (LOp.move rfl rfl) <|
                    (TR.d (r := AV.f32 r22) (fs := []) rfl rfl (TOp.callB (CallAs.func ent51 rfl rfl) (Bors.cons (Bor.agg (Bors.cons (Bor.pure rfl) (Bors.cons (Bor.pure rfl) (Bors.cons (Bor.own (f := AV.f32) (fun _ => rfl) rfl hl16) Bors.nil)))) (Bors.cons (Bor.pure rfl) (Bors.cons (Bor.pure rfl) Bors.nil))) rfl rfl (i_Matrix_at_ok v12 v13 L15 v17 v17 r22 hf11)) <|
                    (TR.l (r := AV.oref 1 u6 0 L11.length) rfl rfl (LOp.move rfl rfl) <|
                    (TR.l (r := AV.i64 v14) rfl rfl (LOp.move rfl rfl) <|
                    (TR.l (r := AV.i64 x23) rfl rfl (LOp.eqr (LOp.sub rfl rfl rfl) (congrArg (AV.ik .i64) hx12)) <|
                    (TR.d (r := AV.optr 1 u6 x23.toNat) (fs := []) rfl rfl (TOp.ixo und22 siz25 rfl rfl rfl (at_in he13 rfl) rfl) <|
                    (TR.d (r := AV.f32 e24) (fs := []) rfl rfl (TOp.load1_o rfl (at_cell he13) agg25 rfl rfl) <|
                    (TR.d (r := AV.f32 x25) (fs := []) rfl rfl (TOp.eqr (TOp.fop (.inl rfl) rfl (OpF.tmp rfl) (OpF.tmp rfl)) (congrArg (AV.f .f32) hx14)) <|
                    TR.nil))))))))))))) rfl (by kernel_rfl) rfl fills_nil rfl ?_
                  iterate 13 refine ROps.dropS ?_
                  refine ROps.drop0 ?_
                  refine ROps.callO (A := [AV.agg [AV.i64 v12, AV.i64 v13, AV.oref 0 u5 0 L10.length], AV.i64 v17, AV.i64 v17, AV.f32 x25]) (args := [AV.agg [AV.i64 v12, AV.i64 v13, AV.oref 0 0 0 L15.length], AV.i64 v17, AV.i64 v17, AV.f32 x25]) (Γc := [⟨0, some (L15.map AV.f32)⟩]) (Γc' := [⟨0, some (r26.map AV.f32)⟩]) (r' := AV.tup []) (Γ' := [⟨u5, some (r26.map AV.f32)⟩, ⟨u6, some (L11.map AV.f32)⟩, ⟨u7, some [AV.i64 v12, AV.i64 v13, AV.oref 0 u5 0 L10.length]⟩, ⟨u8, none⟩, ⟨u9, none⟩, ⟨0, none⟩]) [(0, u5)] [] rfl (CallAs.func ent60 rfl rfl) rfl rfl (SelOk.of (show List.Nodup [0] from by decide) (SelL.arr0 (f := AV.f32) (fun _ => rfl) rfl trivial)) (live_of ⟨⟨_, _, rfl⟩, trivial⟩) (by simp [AV.ren, AV.rens, sigma, rens_f32, rens_f64, rens_i64, rens_ik, rens_str, rens_cp, hl16]) rfl (i_Matrix_set_02o_ok v12 v13 v17 v17 x25 L15 r26 hf15) rfl (news_of trivial) (show List.Nodup [0] from by decide) (by simp [AV.ren, AV.rens, sigma, of_decide_eq_true hn16]) (by simp [backOb, sigma, AV.ren, AV.rens, rens_f32, rens_f64, rens_i64, rens_ik, rens_str, rens_cp]) ?_
                  refine ROps.nil ?_
                  refine RunC.wl (τ' := [(1, AV.ptr [AV.i64 a0, AV.i64 a1, AV.sl a2.length (a2.map AV.f32)]), (4, AV.optr 2 u7 0), (5, AV.oref 1 u6 0 L11.length), (6, AV.i64 v14), (27, AV.i64 a0), (28, AV.i64 v17)]) (Γ' := [⟨u5, some (r26.map AV.f32)⟩, ⟨u6, some (L11.map AV.f32)⟩, ⟨u7, some [AV.i64 v12, AV.i64 v13, AV.oref 0 u5 0 L10.length]⟩, ⟨u8, none⟩, ⟨u9, none⟩, ⟨0, none⟩]) ⟨(ALe.refl _), (ALe.refl _), (ALe.refl _), (ALe.refl _), (ALe.refl _), (ALe.refl _), trivial⟩ ⟨⟨rfl, .inr rfl⟩, ⟨rfl, .inr rfl⟩, ⟨rfl, .inr rfl⟩, ⟨rfl, .inl rfl⟩, ⟨rfl, .inl rfl⟩, ⟨rfl, .inr rfl⟩, trivial⟩ ?_
                  obtain ⟨x27, hx17, h9_⟩ := olet_some h9_
                  refine RunC.regionW ?_
                  refine ROps.l (r := AV.i64 x27) rfl rfl rfl (LOp.eqr (LOp.add rfl rfl rfl) (congrArg (AV.ik .i64) hx17)) ?_
                  refine ROps.l (r := AV.i64 x27) rfl rfl rfl (LOp.move rfl rfl) ?_
                  refine ROps.nil ?_
                  cases Option.some.inj h9_
                  exact ⟨_, rfl, (of_decide_eq_true hn16), (Le.of ⟨(ALe.refl _), (ALe.refl _), (ALe.refl _), (ALe.refl _), (ALe.refl _), (ALe.refl _), trivial⟩ ⟨⟨rfl, .inr rfl⟩, ⟨rfl, .inr rfl⟩, ⟨rfl, .inr rfl⟩, ⟨rfl, .inl rfl⟩, ⟨rfl, .inl rfl⟩, ⟨rfl, .inr rfl⟩, trivial⟩)⟩
                · refine RunC.regionW ?_
                  refine ROps.l (r := AV.b false) rfl rfl rfl (LOp.eqb (LOp.lss rfl rfl rfl) hc6) ?_
                  refine ROps.nil ?_
                  refine RunC.seq ?_
                  refine RunC.cond_false rfl rfl ?_
                  refine RunC.exit ?_
                  cases Option.some.inj h9_
                  have hx := ho9 _ rfl
                  exact ⟨L15, hl16, (Le.of ⟨(ALe.refl _), (ALe.refl _), (ALe.refl _), (ALe.refl _), trivial⟩ ⟨⟨rfl, .inr rfl⟩, ⟨rfl, .inr rfl⟩, ⟨rfl, .inr rfl⟩, ⟨rfl, .inl rfl⟩, ⟨rfl, .inl rfl⟩, ⟨rfl, .inr rfl⟩, trivial⟩), hx⟩
              · rintro τ10 Γ10 ⟨L28, hl29, hw10, rfl⟩
                refine RunC.le (τ' := [(1, AV.ptr [AV.i64 a0, AV.i64 a1, AV.sl a2.length (a2.map AV.f32)]), (4, AV.optr 2 u7 0), (5, AV.oref 1 u6 0 L11.length), (6, AV.i64 v14)]) (Γ' := [⟨u5, some (L28.map AV.f32)⟩, ⟨u6, some (L11.map AV.f32)⟩, ⟨u7, some [AV.i64 v12, AV.i64 v13, AV.oref 0 u5 0 L10.length]⟩, ⟨u8, none⟩, ⟨u9, none⟩, ⟨0, none⟩]) hw10 ?_
                replace h8_ : i_SignsOf_k4 a0 a1 a2 L11 v12 v13 v14 L28 = some y8_ := h8_
                unfold i_SignsOf_k4 at h8_
                refine RunC.seq ?_
                obtain ⟨r30, r31, r32, r33, hf18, h8_⟩ := obind4_some h8_
                rcases bsel_some h8_ with ⟨hc19, h8_⟩ | ⟨hc19, h8_⟩
                · refine RunC.regionW ?_
                  refine ROps.l (r := AV.agg [AV.i64 a0, AV.i64 a1, AV.sl a2.length (a2.map AV.f32)]) rfl rfl rfl (LOp.loadAgg agg27 siz27 rfl rfl rfl rfl) ?_
                  refine ROps.d (r := AV.agg [AV.i64 v12, AV.i64 v13, AV.oref 0 u5 0 L10.length]) (fs := []) (Γ' := [⟨u5, some (L28.map AV.f32)⟩, ⟨u6, some (L11.map AV.f32)⟩, ⟨u7, some [AV.i64 v12, AV.i64 v13, AV.oref 0 u5 0 L10.length]⟩, ⟨u8, none⟩, ⟨u9, none⟩, ⟨0, none⟩]) rfl rfl rfl (TOp.loadAgg_o rfl agg27 siz27 rfl rfl rfl rfl) rfl ?_
                  refine ROps.d (r := AV.tup [AV.agg [AV.i64 r30, AV.i64 r31, AV.oref 3 (u8 + 1) 0 r33.length], AV.b r32]) (fs := [(3, (r33.map AV.f32))]) (Γ' := [⟨u5, some (L28.map AV.f32)⟩, ⟨u6, some (L11.map AV.f32)⟩, ⟨u7, some [AV.i64 v12, AV.i64 v13, AV.oref 0 u5 0 L10.length]⟩, ⟨(u8 + 1), some (r33.map AV.f32)⟩, ⟨u9, none⟩, ⟨0, none⟩]) rfl rfl rfl (TOp.eqr (TOp.callBN (ls := [(r33.map AV.f32)]) [3] (CallAs.func ent65 rfl rfl) (Bors.cons (Bor.agg (Bors.cons (Bor.pure rfl) (Bors.cons (Bor.pure rfl) (Bors.cons (Bor.sl (fun _ => rfl)) Bors.nil)))) (Bors.cons (Bor.agg (Bors.cons (Bor.pure rfl) (Bors.cons (Bor.pure rfl) (Bors.cons (Bor.own (f := AV.f32) (fun _ => rfl) rfl hl29) Bors.nil)))) Bors.nil)) rfl (i_MulMatrices_ok a0 a1 a2 v12 v13 L28 r30 r31 r32 r33 hf18) (and_all (lts0_map (f := AV.f32) (fun _ => rfl) _) rfl) (and_all (noss_map (f := AV.f32) (fun _ => rfl) _) rfl) rfl (by decide) (ns_of ⟨⟨_, rfl⟩, trivial⟩)) (by simp [AV.ren, AV.rens, sigma, newNames])) rfl ?_
                  refine ROps.l (r := AV.tup [AV.agg [AV.i64 r30, AV.i64 r31, AV.oref 3 (u8 + 1) 0 r33.length], AV.b r32]) rfl rfl rfl (LOp.move rfl rfl) ?_
                  refine ROps.l (r := AV.agg [AV.i64 r30, AV.i64 r31, AV.oref 3 (u8 + 1) 0 r33.length]) rfl rfl rfl (LOp.extract rfl rfl rfl) ?_
                  refine ROps.l (r := AV.b true) rfl rfl rfl (LOp.eqb (LOp.extract rfl rfl rfl) hc19) ?_
                  refine ROps.d (r := AV.optr 4 (u9 + 1) 0) (fs := [(4, [AV.i64 0, AV.i64 0, AV.nilsl])]) (Γ' := [⟨u5, some (L28.map AV.f32)⟩, ⟨u6, some (L11.map AV.f32)⟩, ⟨u7, some [AV.i64 v12, AV.i64 v13, AV.oref 0 u5 0 L10.length]⟩, ⟨(u8 + 1), some (r33.map AV.f32)⟩, ⟨(u9 + 1), some [AV.i64 0, AV.i64 0, AV.nilsl]⟩, ⟨0, none⟩]) rfl rfl rfl (TOp.alloc_o (g := ⟨u9, none⟩) 4 rfl zer27 zok27 rfl) rfl ?_
                  refine ROps.store_le (r := AV.agg [AV.i64 r30, AV.i64 r31, AV.oref 3 (u8 + 1) 0 r33.length]) (l' := [AV.i64 r30, AV.i64 r31, AV.oref 3 (u8 + 1) 0 r33.length]) (Γ' := [⟨u5, some (L28.map AV.f32)⟩, ⟨u6, some (L11.map AV.f32)⟩, ⟨u7, some [AV.i64 v12, AV.i64 v13, AV.oref 0 u5 0 L10.length]⟩, ⟨(u8 + 1), some (r33.map AV.f32)⟩, ⟨(u9 + 1), some [AV.i64 r30, AV.i64 r31, AV.oref 3 (u8 + 1) 0 r33.length]⟩, ⟨0, none⟩]) rfl siz27 rfl rfl rfl (ALe.refl _) rfl rfl rfl rfl (Nat.le_of_ble_eq_true rfl) rfl rfl ?_
                  refine ROps.l (r := AV.b true) rfl rfl rfl (LOp.assign rfl rfl) ?_
                  refine ROps.nil ?_
                  refine RunC.seq ?_
                  refine RunC.seq ?_
                  refine RunC.regionW ?_
                  refine ROps.l (r := AV.b true) rfl rfl rfl (LOp.move rfl rfl) ?_
                  refine ROps.l (r := AV.b false) rfl rfl rfl (LOp.eqb (LOp.not rfl rfl) rfl) ?_
                  refine ROps.nil ?_
                  refine RunC.cond_false rfl rfl ?_
                  refine RunC.skip ?_
                  refine RunC.regionW ?_
                  refine ROps.d (r := AV.agg [AV.i64 r30, AV.i64 r31, AV.oref 3 (u8 + 1) 0 r33.length]) (fs := []) (Γ' := [⟨u5, some (L28.map AV.f32)⟩, ⟨u6, some (L11.map AV.f32)⟩, ⟨u7, some [AV.i64 v12, AV.i64 v13, AV.oref 0 u5 0 L10.length]⟩, ⟨(u8 + 1), some (r33.map AV.f32)⟩, ⟨(u9 + 1), some [AV.i64 r30, AV.i64 r31, AV.oref 3 (u8 + 1) 0 r33.length]⟩, ⟨0, none⟩]) rfl rfl rfl (TOp.loadAgg_o rfl agg27 siz27 rfl rfl rfl rfl) rfl ?_
                  refine ROps.store_le (r := AV.agg [AV.i64 r30, AV.i64 r31, AV.oref 3 (u8 + 1) 0 r33.length]) (l' := [AV.i64 r30, AV.i64 r31, AV.oref 3 (u8 + 1) 0 r33.length]) (Γ' := [⟨u5, some (L28.map AV.f32)⟩, ⟨u6, some (L11.map AV.f32)⟩, ⟨u7, some [AV.i64 r30, AV.i64 r31, AV.oref 3 (u8 + 1) 0 r33.length]⟩, ⟨(u8 + 1), some (r33.map AV.f32)⟩, ⟨(u9 + 1), some [AV.i64 r30, AV.i64 r31, AV.oref 3 (u8 + 1) 0 r33.length]⟩, ⟨0, none⟩]) rfl siz27 rfl rfl rfl (ALe.refl _) rfl rfl rfl rfl (Nat.le_of_ble_eq_true rfl) rfl rfl ?_
                  refine ROps.nil ?_
                  exact ⟨r33, r30, r31, u5, u6, u7, (u8 + 1), (u9 + 1), (Le.of ⟨(ALe.refl _), (ALe.refl _), (ALe.refl _), (ALe.refl _), trivial⟩ ⟨⟨rfl, .inl rfl⟩, ⟨rfl, .inr rfl⟩, ⟨rfl, .inr (by first | rfl | simp)⟩, ⟨rfl, .inr rfl⟩, ⟨rfl, .inl rfl⟩, ⟨rfl, .inr rfl⟩, trivial⟩), h8_⟩
                · refine RunC.regionW ?_
                  refine ROps.l (r := AV.agg [AV.i64 a0, AV.i64 a1, AV.sl a2.length (a2.map AV.f32)]) rfl rfl rfl (LOp.loadAgg agg27 siz27 rfl rfl rfl rfl) ?_
                  refine ROps.d (r := AV.agg [AV.i64 v12, AV.i64 v13, AV.oref 0 u5 0 L10.length]) (fs := []) (Γ' := [⟨u5, some (L28.map AV.f32)⟩, ⟨u6, some (L11.map AV.f32)⟩, ⟨u7, some [AV.i64 v12, AV.i64 v13, AV.oref 0 u5 0 L10.length]⟩, ⟨u8, none⟩, ⟨u9, none⟩, ⟨0, none⟩]) rfl rfl rfl (TOp.loadAgg_o rfl agg27 siz27 rfl rfl rfl rfl) rfl ?_
                  refine ROps.d (r := AV.tup [AV.agg [AV.i64 r30, AV.i64 r31, AV.oref 3 (u8 + 1) 0 r33.length], AV.b r32]) (fs := [(3, (r33.map AV.f32))]) (Γ' := [⟨u5, some (L28.map AV.f32)⟩, ⟨u6, some (L11.map AV.f32)⟩, ⟨u7, some [AV.i64 v12, AV.i64 v13, AV.oref 0 u5 0 L10.length]⟩, ⟨(u8 + 1), some (r33.map AV.f32)⟩, ⟨u9, none⟩, ⟨0, none⟩]) rfl rfl rfl (TOp.eqr (TOp.callBN (ls := [(r33.map AV.f32)]) [3] (CallAs.func ent65 rfl rfl) (Bors.cons (Bor.agg (Bors.cons (Bor.pure rfl) (Bors.cons (Bor.pure rfl) (Bors.cons (Bor.sl (fun _ => rfl)) Bors.nil)))) (Bors.cons (Bor.agg (Bors.cons (Bor.pure rfl) (Bors.cons (Bor.pure rfl) (Bors.cons (Bor.own (f := AV.f32) (fun _ => rfl) rfl hl29) Bors.nil)))) Bors.nil)) rfl (i_MulMatrices_ok a0 a1 a2 v12 v13 L28 r30 r31 r32 r33 hf18) (and_all (lts0_map (f := AV.f32) (fun _ => rfl) _) rfl) (and_all (noss_map (f := AV.f32) (fun _ => rfl) _) rfl) rfl (by decide) (ns_of ⟨⟨_, rfl⟩, trivial⟩)) (by simp [AV.ren, AV.rens, sigma, newNames])) rfl ?_
                  refine ROps.l (r := AV.tup [AV.agg [AV.i64 r30, AV.i64 r31, AV.oref 3 (u8 + 1) 0 r33.length], AV.b r32]) rfl rfl rfl (LOp.move rfl rfl) ?_
                  refine ROps.l (r := AV.agg [AV.i64 r30, AV.i64 r31, AV.oref 3 (u8 + 1) 0 r33.length]) rfl rfl rfl (LOp.extract rfl rfl rfl) ?_
                  refine ROps.l (r := AV.b false) rfl rfl rfl (LOp.eqb (LOp.extract rfl rfl rfl) hc19) ?_
                  refine ROps.d (r := AV.optr 4 (u9 + 1) 0) (fs := [(4, [AV.i64 0, AV.i64 0, AV.nilsl])]) (Γ' := [⟨u5, some (L28.map AV.f32)⟩, ⟨u6, some (L11.map AV.f32)⟩, ⟨u7, some [AV.i64 v12, AV.i64 v13, AV.oref 0 u5 0 L10.length]⟩, ⟨(u8 + 1), some (r33.map AV.f32)⟩, ⟨(u9 + 1), some [AV.i64 0, AV.i64 0, AV.nilsl]⟩, ⟨0, none⟩]) rfl rfl rfl (TOp.alloc_o (g := ⟨u9, none⟩) 4 rfl zer27 zok27 rfl) rfl ?_
                  refine ROps.store_le (r := AV.agg [AV.i64 r30, AV.i64 r31, AV.oref 3 (u8 + 1) 0 r33.length]) (l' := [AV.i64 r30, AV.i64 r31, AV.oref 3 (u8 + 1) 0 r33.length]) (Γ' := [⟨u5, some (L28.map AV.f32)⟩, ⟨u6, some (L11.map AV.f32)⟩, ⟨u7, some [AV.i64 v12, AV.i64 v13, AV.oref 0 u5 0 L10.length]⟩, ⟨(u8 + 1), some (r33.map AV.f32)⟩, ⟨(u9 + 1), some [AV.i64 r30, AV.i64 r31, AV.oref 3 (u8 + 1) 0 r33.length]⟩, ⟨0, none⟩]) rfl siz27 rfl rfl rfl (ALe.refl _) rfl rfl rfl rfl (Nat.le_of_ble_eq_true rfl) rfl rfl ?_
                  refine ROps.l (r := AV.b false) rfl rfl rfl (LOp.assign rfl rfl) ?_
                  refine ROps.nil ?_
                  refine RunC.seq ?_
                  refine RunC.seq ?_
                  refine RunC.regionW ?_
                  refine ROps.l (r := AV.b false) rfl rfl rfl (LOp.move rfl rfl) ?_
                  refine ROps.l (r := AV.b true) rfl rfl rfl (LOp.eqb (LOp.not rfl rfl) rfl) ?_
                  refine ROps.nil ?_
                  refine RunC.cond_true rfl rfl ?_
                  refine RunC.seq ?_
                  refine RunC.regionW ?_
                  refine ROps.l (r := AV.nilsl) rfl rfl rfl (LOp.assign rfl rfl) ?_
                  refine ROps.l (r := AV.b false) rfl rfl rfl (LOp.assign rfl rfl) ?_
                  refine ROps.nil ?_
                  refine RunC.nil_slot (Γ' := [⟨u5, some (L28.map AV.f32)⟩, ⟨u6, some (L11.map AV.f32)⟩, ⟨u7, some [AV.i64 v12, AV.i64 v13, AV.oref 0 u5 0 L10.length]⟩, ⟨(u8 + 1), some (r33.map AV.f32)⟩, ⟨(u9 + 1), some [AV.i64 r30, AV.i64 r31, AV.oref 3 (u8 + 1) 0 r33.length]⟩, ⟨1, some (([] : List F).map AV.f32)⟩]) 2 5 rfl rfl rfl ?_
                  refine RunC.ret ?_
                  cases Option.some.inj h8_
                  have hx11_ := hr8 _ rfl
                  subst hx11_
                  have hq := Option.some.inj h
                  obtain ⟨hq0, hq⟩ := Prod.mk.inj hq
                  subst q0
                  subst q1
                  exact bodyQ.mk (r' := AV.tup [AV.oref 5 1 0 (([] : List F).length), AV.b false]) [(5, 1)] (.inr rfl) rfl (show List.Nodup [5] from by decide) rfl rfl (Res.eq (Res.two rfl (RV.tmp rfl) (RV.tmp rfl)) (by rw [(show ([] : List F).length = 0 from rfl)] <;> rfl)) (SelL.arr0 (f := AV.f32) (fun _ => rfl) rfl trivial)
            · refine RunC.regionW ?_
              refine ROps.l (r := AV.i64 v14) rfl rfl rfl (LOp.move rfl rfl) ?_
              refine ROps.l (r := AV.b false) rfl rfl rfl (LOp.eqb (LOp.gtr rfl rfl rfl) hc5) ?_
              refine ROps.nil ?_
              refine RunC.cond_false rfl rfl ?_
              refine RunC.skip ?_
              exact ⟨L10, v12, v13, u8, 0, 0, 0, u9, (Le.trans (Le.sel [(3, 0), (1, u6), (2, u7), (0, u5), (4, 0), (5, 0)] [(1, AV.ptr [AV.i64 a0, AV.i64 a1, AV.sl a2.length (a2.map AV.f32)]), (4, AV.optr 2 0 0), (5, AV.oref 1 0 0 L11.length), (6, AV.i64 v14)] [⟨u8, none⟩, ⟨0, some (L11.map AV.f32)⟩, ⟨0, some [AV.i64 v12, AV.i64 v13, AV.oref 3 0 0 L10.length]⟩, ⟨0, some (L10.map AV.f32)⟩, ⟨u9, none⟩, ⟨0, none⟩] rfl (SelOk.of (show List.Nodup [3, 1, 2, 0, 4, 5] from by decide) ⟨⟨_, rfl⟩, (SelL.arr0 (f := AV.f32) (fun _ => rfl) rfl (SelL.cells0 rfl (by simp [AV.ren, AV.rens, sigma, rens_f32, rens_f64, rens_i64, rens_ik, rens_str, rens_cp]) rfl (SelL.arr0 (f := AV.f32) (fun _ => rfl) rfl ⟨⟨_, rfl⟩, ⟨⟨_, rfl⟩, trivial⟩⟩)))⟩) ⟨⟨_, rfl, .inl ⟨rfl, (lt_ptr (lts_cons rfl (lts_cons rfl (lts_cons (lt_sl (fun _ => rfl)) lts_nil))))⟩⟩, ⟨AV.optr 2 u7 0, rfl, .inr ⟨by first | rfl | simp [AV.ren, AV.rens, sigma, rens_f32, rens_f64, rens_i64, rens_ik, rens_str, rens_cp], rfl⟩⟩, ⟨AV.oref 1 u6 0 L11.length, rfl, .inr ⟨by first | rfl | simp [AV.ren, AV.rens, sigma, rens_f32, rens_f64, rens_i64, rens_ik, rens_str, rens_cp], rfl⟩⟩, ⟨_, rfl, .inl ⟨rfl, rfl⟩⟩, trivial⟩) (Le.of ⟨(ALe.refl _), (ALe.refl _), (ALe.refl _), (ALe.refl _), trivial⟩ ⟨⟨rfl, .inl rfl⟩, ⟨rfl, .inr rfl⟩, ⟨rfl, .inr (by first | rfl | simp)⟩, ⟨rfl, .inr rfl⟩, ⟨rfl, .inl rfl⟩, ⟨rfl, .inr rfl⟩, trivial⟩)), h8_⟩
          · rintro τ12 Γ12 ⟨L39, v40, v41, u34, u35, u36, u37, u38, hw12, h8_⟩
            refine RunC.le (τ' := [(1, AV.ptr [AV.i64 a0, AV.i64 a1, AV.sl a2.length (a2.map AV.f32)]), (4, AV.optr 2 u36 0), (5, AV.oref 1 u35 0 L11.length), (6, AV.i64 v14)]) (Γ' := [⟨u34, none⟩, ⟨u35, some (L11.map AV.f32)⟩, ⟨u36, some [AV.i64 v40, AV.i64 v41, AV.oref 3 u37 0 L39.length]⟩, ⟨u37, some (L39.map AV.f32)⟩, ⟨u38, none⟩, ⟨0, none⟩]) hw12 ?_
            unfold i_SignsOf_k5 at h8_
            refine RunC.seq ?_
            obtain ⟨r42, r43, hf20, h8_⟩ := obind2_some h8_
            rcases bsel_some h8_ with ⟨hc21, h8_⟩ | ⟨hc21, h8_⟩
            · refine RunC.regionW ?_
              refine ROps.d (r := AV.agg [AV.i64 v40, AV.i64 v41, AV.oref 3 u37 0 L39.length]) (fs := []) (Γ' := [⟨u34, none⟩, ⟨u35, some (L11.map AV.f32)⟩, ⟨u36, some [AV.i64 v40, AV.i64 v41, AV.oref 3 u37 0 L39.length]⟩, ⟨u37, some (L39.map AV.f32)⟩, ⟨u38, none⟩, ⟨0, none⟩]) rfl rfl rfl (TOp.loadAgg_o rfl agg27 siz27 rfl rfl rfl rfl) rfl ?_
              refine ROps.d (r := AV.tup [AV.f32 r42, AV.b r43]) (fs := []) (Γ' := [⟨u34, none⟩, ⟨u35, some (L11.map AV.f32)⟩, ⟨u36, some [AV.i64 v40, AV.i64 v41, AV.oref 3 u37 0 L39.length]⟩, ⟨u37, some (L39.map AV.f32)⟩, ⟨u38, none⟩, ⟨0, none⟩]) rfl rfl rfl (TOp.callB (CallAs.func ent66 rfl rfl) (Bors.cons (Bor.agg (Bors.cons (Bor.pure rfl) (Bors.cons (Bor.pure rfl) (Bors.cons (Bor.own (f := AV.f32) (fun _ => rfl) rfl rfl) Bors.nil)))) Bors.nil) rfl rfl (i_TraceOf_ok v40 v41 L39 r42 r43 hf20)) rfl ?_
              refine ROps.l (r := AV.tup [AV.f32 r42, AV.b r43]) rfl rfl rfl (LOp.move rfl rfl) ?_
              refine ROps.l (r := AV.f32 r42) rfl rfl rfl (LOp.extract rfl rfl rfl) ?_
              refine ROps.l (r := AV.b true) rfl rfl rfl (LOp.eqb (LOp.extract rfl rfl rfl) hc21) ?_
              refine ROps.l (r := AV.f32 r42) rfl rfl rfl (LOp.assign rfl rfl) ?_
              refine ROps.l (r := AV.b true) rfl rfl rfl (LOp.assign rfl rfl) ?_
              refine ROps.nil ?_
              refine RunC.seq ?_
              refine RunC.seq ?_
              refine RunC.regionW ?_
              refine ROps.l (r := AV.b true) rfl rfl rfl (LOp.move rfl rfl) ?_
              refine ROps.l (r := AV.b false) rfl rfl rfl (LOp.eqb (LOp.not rfl rfl) rfl) ?_
              refine ROps.nil ?_
              refine RunC.cond_false rfl rfl ?_
              refine RunC.skip ?_
              refine RunC.seq ?_
              rcases bsel_some h8_ with ⟨hc22, h8_⟩ | ⟨hc22, h8_⟩
              · refine RunC.regionW ?_
                refine ROps.l (r := AV.i64 v14) rfl rfl rfl (LOp.move rfl rfl) ?_
                refine ROps.l (r := AV.b true) rfl rfl rfl (LOp.eqb (LOp.eql rfl rfl rfl) hc22) ?_
                refine ROps.nil ?_
                refine RunC.cond_true rfl rfl ?_
                obtain ⟨x44, hx23, h8_⟩ := olet_some h8_
                obtain ⟨hm24, h8_⟩ := need_some h8_
                refine RunC.regionW ?_
                refine ROps.l (r := AV.oref 1 u35 0 L11.length) rfl rfl rfl (LOp.move rfl rfl) ?_
                refine ROps.l (r := AV.f32 r42) rfl rfl rfl (LOp.move rfl rfl) ?_
                refine ROps.l (r := AV.f32 x44) rfl rfl rfl (LOp.eqr (LOp.fneg rfl (OpF.tmp rfl)) (congrArg (AV.f .f32) hx23)) ?_
                refine ROps.d (r := AV.oref 0 (u34 + 1) 0 1) (fs := [(0, (([x44] : List F).map AV.f32))]) (Γ' := [⟨(u34 + 1), some (([x44] : List F).map AV.f32)⟩, ⟨u35, some (L11.map AV.f32)⟩, ⟨u36, some [AV.i64 v40, AV.i64 v41, AV.oref 3 u37 0 L39.length]⟩, ⟨u37, some (L39.map AV.f32)⟩, ⟨u38, none⟩, ⟨0, none⟩]) rfl rfl rfl (TOp.buildSlice_o (g := ⟨u34, none⟩) (za := AV.f32 (some 0)) (qs := [(0, [AV.f32 x44])]) 0 rfl und22 siz25 zer25 rfl zel25 rfl rfl ⟨rfl, ⟨_, ALe.refl _, rfl⟩, trivial⟩ rfl) rfl ?_
                refine ROps.app (f := AV.f32) (xs := L11) (ys := ([x44] : List F)) (Γ' := [⟨(u34 + 1), some (([x44] : List F).map AV.f32)⟩, ⟨(u35 + 1), some ((L11 ++ ([x44] : List F)).map AV.f32)⟩, ⟨u36, some [AV.i64 v40, AV.i64 v41, AV.oref 3 u37 0 L39.length]⟩, ⟨u37, some (L39.map AV.f32)⟩, ⟨u38, none⟩, ⟨0, none⟩]) rfl pun22 inf25 rfl rfl rfl rfl rfl rfl rfl rfl rfl (by simp) (ReadAs.own rfl (by simp)) (ones_map (fun _ => rfl)) (ap_by hm24) (ap_mx hm24) rfl ?_
                refine ROps.l (r := AV.oref 1 (u35 + 1) 0 (L11.length + 1)) rfl rfl rfl (LOp.assign rfl rfl) ?_
                refine ROps.nil ?_
                exact ⟨(L11 ++ ([x44] : List F)), L39, v40, v41, (u34 + 1), (u35 + 1), u36, u37, u38, (app_len rfl rfl), (Le.of ⟨(ALe.refl _), (ALe.refl _), (by first | exact ALe.refl _ | exact ALe.eq (by rw [(app_len rfl rfl)] <;> rfl) | exact ALe.eq (by simp)), (ALe.refl _), trivial⟩ ⟨⟨rfl, .inl rfl⟩, ⟨rfl, .inr rfl⟩, ⟨rfl, .inr (by first | rfl | simp)⟩, ⟨rfl, .inr rfl⟩, ⟨rfl, .inl rfl⟩, ⟨rfl, .inr rfl⟩, trivial⟩), h8_⟩
              · refine RunC.regionW ?_
                refine ROps.l (r := AV.i64 v14) rfl rfl rfl (LOp.move rfl rfl) ?_
                refine ROps.l (r := AV.b false) rfl rfl rfl (LOp.eqb (LOp.eql rfl rfl rfl) hc22) ?_
                refine ROps.nil ?_
                refine RunC.cond_false rfl rfl ?_
                obtain ⟨x45, hx25, h8_⟩ := olet_some h8_
                obtain ⟨x46, hx26, h8_⟩ := olet_some h8_
                obtain ⟨x47, hx27, h8_⟩ := olet_some h8_
                obtain ⟨hm28, h8_⟩ := need_some h8_
                refine RunC.regionW ?_
                refine ROps.l (r := AV.oref 1 u35 0 L11.length) rfl rfl rfl (LOp.move rfl rfl) ?_
                refine ROps.l (r := AV.f32 r42) rfl rfl rfl (LOp.move rfl rfl) ?_
                refine ROps.l (r := AV.f32 x45) rfl rfl rfl (LOp.eqr (LOp.fneg rfl (OpF.tmp rfl)) (congrArg (AV.f .f32) hx25)) ?_
                refine ROps.l (r := AV.i64 v14) rfl rfl rfl (LOp.move rfl rfl) ?_
                refine ROps.l (r := AV.f32 x46) rfl rfl rfl (LOp.eqr (LOp.i2f (src := 2) (dst := 25) ⟨_, pun2⟩ pun25 rfl rfl) (congrArg (AV.f .f32) hx26)) ?_
                refine ROps.d (r := AV.f32 x47) (fs := []) (Γ' := [⟨u34, none⟩, ⟨u35, some (L11.map AV.f32)⟩, ⟨u36, some [AV.i64 v40, AV.i64 v41, AV.oref 3 u37 0 L39.length]⟩, ⟨u37, some (L39.map AV.f32)⟩, ⟨u38, none⟩, ⟨0, none⟩]) rfl rfl rfl (TOp.eqr (TOp.fop (.inr (.inr (.inr rfl))) rfl (OpF.tmp rfl) (OpF.tmp rfl)) (congrArg (AV.f .f32) hx27)) rfl ?_
                refine ROps.d (r := AV.oref 0 (u34 + 1) 0 1) (fs := [(0, (([x47] : List F).map AV.f32))]) (Γ' := [⟨(u34 + 1), some (([x47] : List F).map AV.f32)⟩, ⟨u35, some (L11.map AV.f32)⟩, ⟨u36, some [AV.i64 v40, AV.i64 v41, AV.oref 3 u37 0 L39.length]⟩, ⟨u37, some (L39.map AV.f32)⟩, ⟨u38, none⟩, ⟨0, none⟩]) rfl rfl rfl (TOp.buildSlice_o (g := ⟨u34, none⟩) (za := AV.f32 (some 0)) (qs := [(0, [AV.f32 x47])]) 0 rfl und22 siz25 zer25 rfl zel25 rfl rfl ⟨rfl, ⟨_, ALe.refl _, rfl⟩, trivial⟩ rfl) rfl ?_
                refine ROps.app (f := AV.f32) (xs := L11) (ys := ([x47] : List F)) (Γ' := [⟨(u34 + 1), some (([x47] : List F).map AV.f32)⟩, ⟨(u35 + 1), some ((L11 ++ ([x47] : List F)).map AV.f32)⟩, ⟨u36, some [AV.i64 v40, AV.i64 v41, AV.oref 3 u37 0 L39.length]⟩, ⟨u37, some (L39.map AV.f32)⟩, ⟨u38, none⟩, ⟨0, none⟩]) rfl pun22 inf25 rfl rfl rfl rfl rfl rfl rfl rfl rfl (by simp) (ReadAs.own rfl (by simp)) (ones_map (fun _ => rfl)) (ap_by hm28) (ap_mx hm28) rfl ?_
                refine ROps.l (r := AV.oref 1 (u35 + 1) 0 (L11.length + 1)) rfl rfl rfl (LOp.assign rfl rfl) ?_
                refine ROps.nil ?_
                exact ⟨(L11 ++ ([x47] : List F)), L39, v40, v41, (u34 + 1), (u35 + 1), u36, u37, u38, (app_len rfl rfl), (Le.of ⟨(ALe.refl _), (ALe.refl _), (by first | exact ALe.refl _ | exact ALe.eq (by rw [(app_len rfl rfl)] <;> rfl) | exact ALe.eq (by simp)), (ALe.refl _), trivial⟩ ⟨⟨rfl, .inl rfl⟩, ⟨rfl, .inr rfl⟩, ⟨rfl, .inr (by first | rfl | simp)⟩, ⟨rfl, .inr rfl⟩, ⟨rfl, .inl rfl⟩, ⟨rfl, .inr rfl⟩, trivial⟩), h8_⟩
            · refine RunC.regionW ?_
              refine ROps.d (r := AV.agg [AV.i64 v40, AV.i64 v41, AV.oref 3 u37 0 L39.length]) (fs := []) (Γ' := [⟨u34, none⟩, ⟨u35, some (L11.map AV.f32)⟩, ⟨u36, some [AV.i64 v40, AV.i64 v41, AV.oref 3 u37 0 L39.length]⟩, ⟨u37, some (L39.map AV.f32)⟩, ⟨u38, none⟩, ⟨0, none⟩]) rfl rfl rfl (TOp.loadAgg_o rfl agg27 siz27 rfl rfl rfl rfl) rfl ?_
              refine ROps.d (r := AV.tup [AV.f32 r42, AV.b r43]) (fs := []) (Γ' := [⟨u34, none⟩, ⟨u35, some (L11.map AV.f32)⟩, ⟨u36, some [AV.i64 v40, AV.i64 v41, AV.oref 3 u37 0 L39.length]⟩, ⟨u37, some (L39.map AV.f32)⟩, ⟨u38, none⟩, ⟨0, none⟩]) rfl rfl rfl (TOp.callB (CallAs.func ent66 rfl rfl) (Bors.cons (Bor.agg (Bors.cons (Bor.pure rfl) (Bors.cons (Bor.pure rfl) (Bors.cons (Bor.own (f := AV.f32) (fun _ => rfl) rfl rfl) Bors.nil)))) Bors.nil) rfl rfl (i_TraceOf_ok v40 v41 L39 r42 r43 hf20)) rfl ?_
              refine ROps.l (r := AV.tup [AV.f32 r42, AV.b r43]) rfl rfl rfl (LOp.move rfl rfl) ?_
              refine ROps.l (r := AV.f32 r42) rfl rfl rfl (LOp.extract rfl rfl rfl) ?_
              refine ROps.l (r := AV.b false) rfl rfl rfl (LOp.eqb (LOp.extract rfl rfl rfl) hc21) ?_
              refine ROps.l (r := AV.f32 r42) rfl rfl rfl (LOp.assign rfl rfl) ?_
              refine ROps.l (r := AV.b false) rfl rfl rfl (LOp.assign rfl rfl) ?_
              refine ROps.nil ?_
              refine RunC.seq ?_
              refine RunC.seq ?_
              refine RunC.regionW ?_
              refine ROps.l (r := AV.b false) rfl rfl rfl (LOp.move rfl rfl) ?_
              refine ROps.l (r := AV.b true) rfl rfl rfl (LOp.eqb (LOp.not rfl rfl) rfl) ?_
              refine ROps.nil ?_
              refine RunC.cond_true rfl rfl ?_
              refine RunC.seq ?_
              refine RunC.regionW ?_
              refine ROps.l (r := AV.nilsl) rfl rfl rfl (LOp.assign rfl rfl) ?_
              refine ROps.l (r := AV.b false) rfl rfl rfl (LOp.assign rfl rfl) ?_
              refine ROps.nil ?_
              refine RunC.nil_slot (Γ' := [⟨(u34 + 1), some (([] : List F).map AV.f32)⟩, ⟨u35, some (L11.map AV.f32)⟩, ⟨u36, some [AV.i64 v40, AV.i64 v41, AV.oref 3 u37 0 L39.length]⟩, ⟨u37, some (L39.map AV.f32)⟩, ⟨u38, none⟩, ⟨0, none⟩]) 2 0 rfl rfl rfl ?_
              refine RunC.ret ?_
              cases Option.some.inj h8_
              have hx13_ := hr8 _ rfl
              subst hx13_
              have hq := Option.some.inj h
              obtain ⟨hq0, hq⟩ := Prod.mk.inj hq
              subst q0
              subst q1
              exact bodyQ.mk (r' := AV.tup [AV.oref 0 (u34 + 1) 0 (([] : List F).length), AV.b false]) [(0, (u34 + 1))] (.inr rfl) rfl (show List.Nodup [0] from by decide) (by simp [AV.ren, AV.rens, sigma]) rfl (Res.eq (Res.two rfl (RV.tmp rfl) (RV.tmp rfl)) (by rw [(show ([] : List F).length = 0 from rfl)] <;> rfl)) (SelL.arr0 (f := AV.f32) (fun _ => rfl) rfl trivial)
        · rintro τ14 Γ14 ⟨L48, L55, v56, v57, u50, u51, u52, u53, u54, hl49, hw14, h8_⟩
          refine RunC.le (τ' := [(1, AV.ptr [AV.i64 a0, AV.i64 a1, AV.sl a2.length (a2.map AV.f32)]), (4, AV.optr 2 u52 0), (5, AV.oref 1 u51 0 (L11.length + 1)), (6, AV.i64 v14)]) (Γ' := [⟨u50, none⟩, ⟨u51, some (L48.map AV.f32)⟩, ⟨u52, some [AV.i64 v56, AV.i64 v57, AV.oref 3 u53 0 L55.length]⟩, ⟨u53, some (L55.map AV.f32)⟩, ⟨u54, none⟩, ⟨0, none⟩]) hw14 ?_
          unfold i_SignsOf_k6 at h8_
          obtain ⟨x58, hx29, h8_⟩ := olet_some h8_
          refine RunC.regionW ?_
          refine ROps.l (r := AV.i64 v14) rfl rfl rfl (LOp.move rfl rfl) ?_
          refine ROps.l (r := AV.i64 x58) rfl rfl rfl (LOp.eqr (LOp.add rfl rfl rfl) (congrArg (AV.ik .i64) hx29)) ?_
          refine ROps.l (r := AV.i64 x58) rfl rfl rfl (LOp.assign rfl rfl) ?_
          refine ROps.nil ?_
          cases Option.some.inj h8_
          exact ⟨_, rfl, 0, 0, 0, u50, u54, (Le.trans (Le.sel [(3, u53), (1, u51), (2, u52), (0, 0), (4, 0), (5, 0)] [(1, AV.ptr [AV.i64 a0, AV.i64 a1, AV.sl a2.length (a2.map AV.f32)]), (4, AV.optr 2 0 0), (5, AV.oref 1 0 0 (L11.length + 1)), (6, AV.i64 x58)] [⟨0, some (L55.map AV.f32)⟩, ⟨0, some (L48.map AV.f32)⟩, ⟨0, some [AV.i64 v56, AV.i64 v57, AV.oref 0 0 0 L55.length]⟩, ⟨u50, none⟩, ⟨u54, none⟩, ⟨0, none⟩] rfl (SelOk.of (show List.Nodup [3, 1, 2, 0, 4, 5] from by decide) (SelL.arr0 (f := AV.f32) (fun _ => rfl) rfl (SelL.arr0 (f := AV.f32) (fun _ => rfl) rfl (SelL.cells0 rfl (by simp [AV.ren, AV.rens, sigma, rens_f32, rens_f64, rens_i64, rens_ik, rens_str, rens_cp]) rfl ⟨⟨_, rfl⟩, ⟨⟨_, rfl⟩, ⟨⟨_, rfl⟩, trivial⟩⟩⟩)))) ⟨⟨_, rfl, .inl ⟨rfl, (lt_ptr (lts_cons rfl (lts_cons rfl (lts_cons (lt_sl (fun _ => rfl)) lts_nil))))⟩⟩, ⟨AV.optr 2 u52 0, rfl, .inr ⟨by first | rfl | simp [AV.ren, AV.rens, sigma, rens_f32, rens_f64, rens_i64, rens_ik, rens_str, rens_cp], rfl⟩⟩, ⟨AV.oref 1 u51 0 (L11.length + 1), rfl, .inr ⟨by first | rfl | simp [AV.ren, AV.rens, sigma, rens_f32, rens_f64, rens_i64, rens_ik, rens_str, rens_cp], rfl⟩⟩, ⟨_, rfl, .inl ⟨rfl, rfl⟩⟩, trivial⟩) (Le.of ⟨(ALe.refl _), (ALe.refl _), (by first | exact ALe.refl _ | exact ALe.eq (by rw [hl49] <;> rfl) | exact ALe.eq (by simp)), (ALe.refl _), trivial⟩ ⟨⟨rfl, .inr rfl⟩, ⟨rfl, .inr rfl⟩, ⟨rfl, .inr (by first | rfl | simp)⟩, ⟨rfl, .inl rfl⟩, ⟨rfl, .inl rfl⟩, ⟨rfl, .inr rfl⟩, trivial⟩))⟩
      · refine RunC.regionW ?_
        refine ROps.l (r := AV.i64 v14) rfl rfl rfl (LOp.move rfl rfl) ?_
        refine ROps.l (r := AV.ptr [AV.i64 a0, AV.i64 a1, AV.sl a2.length (a2.map AV.f32)]) rfl rfl rfl (LOp.fap und27 rfl siz2 rfl rfl rfl) ?_
        refine ROps.l (r := AV.i64 a0) rfl rfl rfl (LOp.load1 agg2 rfl rfl) ?_
        refine ROps.l (r := AV.b false) rfl rfl rfl (LOp.eqb (LOp.leq rfl rfl rfl) hc4) ?_
        refine ROps.nil ?_
        refine RunC.cond_false rfl rfl ?_
        refine RunC.exit ?_
        cases Option.some.inj h8_
        have hx := ho8 _ rfl
        exact ⟨L11, u5, u6, u7, u8, u9, (Le.of ⟨(ALe.refl _), trivial⟩ ⟨⟨rfl, .inl rfl⟩, ⟨rfl, .inr rfl⟩, ⟨rfl, .inl rfl⟩, ⟨rfl, .inl rfl⟩, ⟨rfl, .inl rfl⟩, ⟨rfl, .inr rfl⟩, trivial⟩), hx⟩
    · rintro τ15 Γ15 ⟨L64, u59, u60, u61, u62, u63, hw15, rfl⟩
      refine RunC.le (τ' := [(5, AV.oref 1 u60 0 L64.length)]) (Γ' := [⟨u59, none⟩, ⟨u60, some (L64.map AV.f32)⟩, ⟨u61, none⟩, ⟨u62, none⟩, ⟨u63, none⟩, ⟨0, none⟩]) hw15 ?_
      replace h : i_SignsOf_k7 L64 = some (q0, q1) := h
      unfold i_SignsOf_k7 at h
      refine RunC.seq ?_
      obtain ⟨z16, hf30, h⟩ := obind_some h
      rcases z16 with z16 | z16
      · replace h := (osum_inl _ _ _).symm.trans h
        obtain ⟨r65, r66, hz17, h⟩ := obind2_some h
        cases hz17
        obtain ⟨hn31, h⟩ := need_some h
        refine RunC.regionW ?_
        refine ROps.l (r := AV.oref 1 u60 0 L64.length) rfl rfl rfl (LOp.move rfl rfl) ?_
        refine ROps.callO (A := [AV.oref 1 u60 0 L64.length]) (args := [AV.oref 0 0 0 L64.length]) (Γc := [⟨0, some (L64.map AV.f32)⟩]) (Γc' := [⟨0, some (r66.map AV.f32)⟩]) (r' := AV.tup [AV.oref 1 u60 0 L64.length, AV.b r65]) (Γ' := [⟨u59, none⟩, ⟨u60, some (r66.map AV.f32)⟩, ⟨u61, none⟩, ⟨u62, none⟩, ⟨u63, none⟩, ⟨0, none⟩]) [(1, u60)] [] rfl (CallAs.func ent67 rfl rfl) rfl rfl (SelOk.of (show List.Nodup [1] from by decide) (SelL.arr0 (f := AV.f32) (fun _ => rfl) rfl trivial)) (live_of ⟨⟨_, _, rfl⟩, trivial⟩) (by simp [AV.ren, AV.rens, sigma, rens_f32, rens_f64, rens_i64, rens_ik, rens_str, rens_cp]) rfl (i_allFinite_0o_ok0 L64 r65 r66 hf30) rfl (news_of trivial) (show List.Nodup [1] from by decide) (by simp [AV.ren, AV.rens, sigma, of_decide_eq_true hn31]) (by simp [backOb, sigma, AV.ren, AV.rens, rens_f32, rens_f64, rens_i64, rens_ik, rens_str, rens_cp]) ?_
        refine ROps.l (r := AV.oref 1 u60 0 L64.length) rfl rfl rfl (LOp.extract rfl rfl rfl) ?_
        refine ROps.l (r := AV.b r65) rfl rfl rfl (LOp.extract rfl rfl rfl) ?_
        refine ROps.l (r := AV.oref 1 u60 0 L64.length) rfl rfl rfl (LOp.assign rfl rfl) ?_
        refine ROps.l (r := AV.b r65) rfl rfl rfl (LOp.assign rfl rfl) ?_
        refine ROps.nil ?_
        refine RunC.ret ?_
        have hq := Option.some.inj h
        obtain ⟨hq0, hq⟩ := Prod.mk.inj hq
        subst q0
        subst q1
        exact bodyQ.mk (r' := AV.tup [AV.oref 1 u60 0 r66.length, AV.b r65]) [(1, u60)] (.inr rfl) rfl (show List.Nodup [1] from by decide) (by simp [AV.ren, AV.rens, sigma]) rfl (Res.eq (Res.two rfl (RV.tmp rfl) (RV.tmp rfl)) (by rw [(show r66.length = L64.length from (of_decide_eq_true hn31))] <;> rfl)) (SelL.arr0 (f := AV.f32) (fun _ => rfl) rfl trivial)
      · replace h := (osum_inr _ _ _).symm.trans h
        obtain ⟨r67, r68, r69, hz18, h⟩ := obind3_some h
        cases hz18
        obtain ⟨hn32, h⟩ := need_some h
        refine RunC.regionW ?_
        refine ROps.l (r := AV.oref 1 u60 0 L64.length) rfl rfl rfl (LOp.move rfl rfl) ?_
        refine ROps.callO (A := [AV.oref 1 u60 0 L64.length]) (args := [AV.oref 0 0 0 L64.length]) (Γc := [⟨0, some (L64.map AV.f32)⟩]) (Γc' := [⟨0, some (r68.map AV.f32)⟩, ⟨0, some (r69.map AV.f32)⟩]) (r' := AV.tup [AV.oref 0 (u59 + 1) 0 r69.length, AV.b r67]) (Γ' := [⟨(u59 + 1), some (r69.map AV.f32)⟩, ⟨u60, some (r68.map AV.f32)⟩, ⟨u61, none⟩, ⟨u62, none⟩, ⟨u63, none⟩, ⟨0, none⟩]) [(1, u60)] [(0, (u59 + 1))] rfl (CallAs.func ent67 rfl rfl) rfl rfl (SelOk.of (show List.Nodup [1] from by decide) (SelL.arr0 (f := AV.f32) (fun _ => rfl) rfl trivial)) (live_of ⟨⟨_, _, rfl⟩, trivial⟩) (by simp [AV.ren, AV.rens, sigma, rens_f32, rens_f64, rens_i64, rens_ik, rens_str, rens_cp]) rfl (i_allFinite_0o_ok1 L64 r67 r68 r69 hf30) rfl (news_of ⟨⟨_, rfl, rfl⟩, trivial⟩) (show List.Nodup [1, 0] from by decide) (by simp [AV.ren, AV.rens, sigma, of_decide_eq_true hn32]) (by simp [backOb, sigma, AV.ren, AV.rens, rens_f32, rens_f64, rens_i64, rens_ik, rens_str, rens_cp]) ?_
        refine ROps.l (r := AV.oref 0 (u59 + 1) 0 r69.length) rfl rfl rfl (LOp.extract rfl rfl rfl) ?_
        refine ROps.l (r := AV.b r67) rfl rfl rfl (LOp.extract rfl rfl rfl) ?_
        refine ROps.l (r := AV.oref 0 (u59 + 1) 0 r69.length) rfl rfl rfl (LOp.assign rfl rfl) ?_
        refine ROps.l (r := AV.b r67) rfl rfl rfl (LOp.assign rfl rfl) ?_
        refine ROps.nil ?_
        refine RunC.ret ?_
        have hq := Option.some.inj h
        obtain ⟨hq0, hq⟩ := Prod.mk.inj hq
        subst q0
        subst q1
        exact bodyQ.mk (r' := AV.tup [AV.oref 0 (u59 + 1) 0 r69.length, AV.b r67]) [(0, (u59 + 1))] (.inr rfl) rfl (show List.Nodup [0] from by decide) (by simp [AV.ren, AV.rens, sigma]) rfl (Res.two rfl (RV.tmp rfl) (RV.tmp rfl)) (SelL.arr0 (f := AV.f32) (fun _ => rfl) rfl trivial)
  · refine RunC.regionW ?_
    refine ROps.l (r := AV.agg [AV.i64 a0, AV.i64 a1, AV.sl a2.length (a2.map AV.f32)]) rfl rfl rfl (LOp.loadAgg agg27 siz27 rfl rfl rfl rfl) ?_
    refine ROps.d (r := AV.b false) (fs := []) (Γ' := [⟨0, none⟩, ⟨0, none⟩, ⟨0, none⟩, ⟨0, none⟩, ⟨0, none⟩, ⟨0, none⟩]) rfl rfl rfl (TOp.eqb (TOp.callB (CallAs.func ent59 rfl rfl) (Bors.cons (Bor.agg (Bors.cons (Bor.pure rfl) (Bors.cons (Bor.pure rfl) (Bors.cons (Bor.sl (fun _ => rfl)) Bors.nil)))) Bors.nil) rfl rfl (i_isSquare_ok a0 a1 a2 r1 hf1)) hc2) rfl ?_
    refine ROps.l (r := AV.b true) rfl rfl rfl (LOp.eqb (LOp.not rfl rfl) rfl) ?_
    refine ROps.nil ?_
    refine RunC.cond_true rfl rfl ?_
    refine RunC.seq ?_
    refine RunC.regionW ?_
    refine ROps.l (r := AV.nilsl) rfl rfl rfl (LOp.assign rfl rfl) ?_
    refine ROps.l (r := AV.b false) rfl rfl rfl (LOp.assign rfl rfl) ?_
    refine ROps.nil ?_
    refine RunC.nil_slot (Γ' := [⟨1, some (([] : List F).map AV.f32)⟩, ⟨0, none⟩, ⟨0, none⟩, ⟨0, none⟩, ⟨0, none⟩, ⟨0, none⟩]) 2 0 rfl rfl rfl ?_
    refine RunC.ret ?_
    have hq := Option.some.inj h
    obtain ⟨hq0, hq⟩ := Prod.mk.inj hq
    subst q0
    subst q1
    exact bodyQ.mk (r' := AV.tup [AV.oref 0 1 0 (([] : List F).length), AV.b false]) [(0, 1)] (.inr rfl) rfl (show List.Nodup [0] from by decide) rfl rfl (Res.eq (Res.two rfl (RV.tmp rfl) (RV.tmp rfl)) (by rw [(show ([] : List F).length = 0 from rfl)] <;> rfl)) (SelL.arr0 (f := AV.f32) (fun _ => rfl) rfl trivial)
noncomputable def w_sameFloat_k1 (a0 : F) (a1 : F) : Option (Bool) :=
  some (feq .f64 a0 a1)
noncomputable def w_sameFloat (a0 : F) (a1 : F) : Option (Bool) :=
  bsel (!feq .f64 a0 a0) (
    some (!feq .f64 a1 a1)) (
    bsel (!feq .f64 a1 a1) (
      some false) (
      bsel (feq .f64 a0 (some 0)) (
        bsel (feq .f64 a1 (some 0)) (
          olet (fop .quo .f64 (some 4607182418800017408) a0) fun (x1 : F) =>
          olet (fop .quo .f64 (some 4607182418800017408) a1) fun (x2 : F) =>
          some ((flt .f64 (some 0) x1) == (flt .f64 (some 0) x2))) (
          w_sameFloat_k1 a0 a1)) (
        w_sameFloat_k1 a0 a1)))
theorem w_sameFloat_ok (a0 : F) (a1 : F) (q0 : Bool) (h : w_sameFloat a0 a1 = some q0) : Ev Try.prog 21 [AV.f64 a0, AV.f64 a1] [] (AV.b q0) [] := by
  refine Ev.start Try.func21 rfl rfl 0 (τ := [(0, AV.f64 a0), (1, AV.f64 a1)]) rfl (Γ' := []) rfl (n := 75) rfl (g := 0) rfl (fun _ => rfl) ?_
  unfold w_sameFloat at h
  refine RunC.seq ?_
  refine RunC.regionW ?_
  refine ROps.l (r := AV.b false) rfl rfl rfl (LOp.assign rfl rfl) ?_
  refine ROps.nil ?_
  refine RunC.seq ?_
  refine RunC.seq ?_
  rcases bsel_some h with ⟨hc1, h⟩ | ⟨hc1, h⟩
  · refine RunC.regionW ?_
    refine ROps.l (r := AV.f64 a0) rfl rfl rfl (LOp.move rfl rfl) ?_
    refine ROps.l (r := AV.f64 a0) rfl rfl rfl (LOp.move rfl rfl) ?_
    refine ROps.l (r := AV.b true) rfl rfl rfl (LOp.eqb (LOp.fne rfl (OpF.tmp rfl) (OpF.tmp rfl)) hc1) ?_
    refine ROps.l (r := AV.b true) rfl rfl rfl (LOp.move rfl rfl) ?_
    refine ROps.s rfl rfl rfl ?_
    refine ROps.s rfl rfl rfl ?_
    refine ROps.s rfl rfl rfl ?_
    refine ROps.l (r := AV.b true) rfl rfl rfl (LOp.pick_true rfl rfl rfl) ?_
    refine ROps.nil ?_
    refine RunC.cond_true rfl rfl ?_
    refine RunC.seq ?_
    refine RunC.regionW ?_
    refine ROps.l (r := AV.f64 a0) rfl rfl rfl (LOp.move rfl rfl) ?_
    refine ROps.l (r := AV.f64 a0) rfl rfl rfl (LOp.move rfl rfl) ?_
    refine ROps.l (r := AV.b true) rfl rfl rfl (LOp.eqb (LOp.fne rfl (OpF.tmp rfl) (OpF.tmp rfl)) hc1) ?_
    refine ROps.l (r := AV.b true) rfl rfl rfl (LOp.move rfl rfl) ?_
    refine ROps.l (r := AV.f64 a1) rfl rfl rfl (LOp.move rfl rfl) ?_
    refine ROps.l (r := AV.f64 a1) rfl rfl rfl (LOp.move rfl rfl) ?_
    refine ROps.l (r := AV.b (!feq .f64 a1 a1)) rfl rfl rfl (LOp.fne rfl (OpF.tmp rfl) (OpF.tmp rfl)) ?_
    refine ROps.l (r := AV.b (!feq .f64 a1 a1)) rfl rfl rfl (LOp.pick_true rfl rfl rfl) ?_
    refine ROps.l (r := AV.b (!feq .f64 a1 a1)) rfl rfl rfl (LOp.assign rfl rfl) ?_
    refine ROps.nil ?_
    refine RunC.ret ?_
    have hq := Option.some.inj h
    subst q0
    exact bodyQ.pure (.inr rfl) rfl (Res.one rfl (RV.tmp rfl))
  · rcases bsel_some h with ⟨hc2, h⟩ | ⟨hc2, h⟩
    · refine RunC.regionW ?_
      refine ROps.l (r := AV.f64 a0) rfl rfl rfl (LOp.move rfl rfl) ?_
      refine ROps.l (r := AV.f64 a0) rfl rfl rfl (LOp.move rfl rfl) ?_
      refine ROps.l (r := AV.b false) rfl rfl rfl (LOp.eqb (LOp.fne rfl (OpF.tmp rfl) (OpF.tmp rfl)) hc1) ?_
      refine ROps.l (r := AV.b false) rfl rfl rfl (LOp.move rfl rfl) ?_
      refine ROps.l (r := AV.f64 a1) rfl rfl rfl (LOp.move rfl rfl) ?_
      refine ROps.l (r := AV.f64 a1) rfl rfl rfl (LOp.move rfl rfl) ?_
      refine ROps.l (r := AV.b true) rfl rfl rfl (LOp.eqb (LOp.fne rfl (OpF.tmp rfl) (OpF.tmp rfl)) hc2) ?_
      refine ROps.l (r := AV.b true) rfl rfl rfl (LOp.pick_false rfl rfl rfl) ?_
      refine ROps.nil ?_
      refine RunC.cond_true rfl rfl ?_
      refine RunC.seq ?_
      refine RunC.regionW ?_
      refine ROps.l (r := AV.f64 a0) rfl rfl rfl (LOp.move rfl rfl) ?_
      refine ROps.l (r := AV.f64 a0) rfl rfl rfl (LOp.move rfl rfl) ?_
      refine ROps.l (r := AV.b false) rfl rfl rfl (LOp.eqb (LOp.fne rfl (OpF.tmp rfl) (OpF.tmp rfl)) hc1) ?_
      refine ROps.l (r := AV.b false) rfl rfl rfl (LOp.move rfl rfl) ?_
      refine ROps.s rfl rfl rfl ?_
      refine ROps.s rfl rfl rfl ?_
      refine ROps.s rfl rfl rfl ?_
      refine ROps.l (r := AV.b false) rfl rfl rfl (LOp.pick_false rfl rfl rfl) ?_
      refine ROps.l (r := AV.b false) rfl rfl rfl (LOp.assign rfl rfl) ?_
      refine ROps.nil ?_
      refine RunC.ret ?_
      have hq := Option.some.inj h
      subst q0
      exact bodyQ.pure (.inr rfl) rfl (Res.one rfl (RV.tmp rfl))
    · refine RunC.regionW ?_
      refine ROps.l (r := AV.f64 a0) rfl rfl rfl (LOp.move rfl rfl) ?_
      refine ROps.l (r := AV.f64 a0) rfl rfl rfl (LOp.move rfl rfl) ?_
      refine ROps.l (r := AV.b false) rfl rfl rfl (LOp.eqb (LOp.fne rfl (OpF.tmp rfl) (OpF.tmp rfl)) hc1) ?_
      refine ROps.l (r := AV.b false) rfl rfl rfl (LOp.move rfl rfl) ?_
      refine ROps.l (r := AV.f64 a1) rfl rfl rfl (LOp.move rfl rfl) ?_
      refine ROps.l (r := AV.f64 a1) rfl rfl rfl (LOp.move rfl rfl) ?_
      refine ROps.l (r := AV.b false) rfl rfl rfl (LOp.eqb (LOp.fne rfl (OpF.tmp rfl) (OpF.tmp rfl)) hc2) ?_
      refine ROps.l (r := AV.b false) rfl rfl rfl (LOp.pick_false rfl rfl rfl) ?_
      refine ROps.nil ?_
      refine RunC.cond_false rfl rfl ?_
      refine RunC.skip ?_
      refine RunC.seq ?_
      refine RunC.cutN (fun τ Γ =>  WeakLe τ [(0, AV.f64 a0), (1, AV.f64 a1)] ∧ DeadLe Γ [] ∧ w_sameFloat_k1 a0 a1 = some q0) ?_ ?_
      · refine RunC.seq ?_
        rcases bsel_some h with ⟨hc3, h⟩ | ⟨hc3, h⟩
        · rcases bsel_some h with ⟨hc4, h⟩ | ⟨hc4, h⟩
          · refine RunC.regionW ?_
            refine ROps.l (r := AV.f64 a0) rfl rfl rfl (LOp.move rfl rfl) ?_
            refine ROps.l (r := AV.b true) rfl rfl rfl (LOp.eqb (LOp.feq rfl (OpF.tmp rfl) (OpF.const rfl (by kernel_rfl) (by kernel_rfl))) hc3) ?_
            refine ROps.l (r := AV.b true) rfl rfl rfl (LOp.move rfl rfl) ?_
            refine ROps.l (r := AV.f64 a1) rfl rfl rfl (LOp.move rfl rfl) ?_
            refine ROps.l (r := AV.b true) rfl rfl rfl (LOp.eqb (LOp.feq rfl (OpF.tmp rfl) (OpF.const rfl (by kernel_rfl) (by kernel_rfl))) hc4) ?_
            refine ROps.l (r := AV.b true) rfl rfl rfl (LOp.pick_true rfl rfl rfl) ?_
            refine ROps.nil ?_
            refine RunC.wl (τ' := [(0, AV.f64 a0), (1, AV.f64 a1), (26, AV.b true)]) (Γ' := []) ⟨(ALe.refl _), (ALe.refl _), (ALe.refl _), trivial⟩ trivial ?_
            refine RunC.cond_true rfl rfl ?_
            refine RunC.seq ?_
            obtain ⟨x1, hx5, h⟩ := olet_some h
            obtain ⟨x2, hx6, h⟩ := olet_some h
            refine RunC.regionW ?_
            refine ROps.l (r := AV.f64 a0) rfl rfl rfl (LOp.move rfl rfl) ?_
            refine ROps.d (r := AV.f64 x1) (fs := []) (Γ' := []) rfl rfl rfl (TOp.eqr (TOp.fop (.inr (.inr (.inr rfl))) rfl (OpF.const rfl (by kernel_rfl) (by kernel_rfl)) (OpF.tmp rfl)) (congrArg (AV.f .f64) hx5)) rfl ?_
            refine ROps.l (r := AV.b (flt .f64 (some 0) x1)) rfl rfl rfl (LOp.fgt rfl (OpF.tmp rfl) (OpF.const rfl (by kernel_rfl) (by kernel_rfl))) ?_
            refine ROps.l (r := AV.f64 a1) rfl rfl rfl (LOp.move rfl rfl) ?_
            refine ROps.d (r := AV.f64 x2) (fs := []) (Γ' := []) rfl rfl rfl (TOp.eqr (TOp.fop (.inr (.inr (.inr rfl))) rfl (OpF.const rfl (by kernel_rfl) (by kernel_rfl)) (OpF.tmp rfl)) (congrArg (AV.f .f64) hx6)) rfl ?_
            refine ROps.l (r := AV.b (flt .f64 (some 0) x2)) rfl rfl rfl (LOp.fgt rfl (OpF.tmp rfl) (OpF.const rfl (by kernel_rfl) (by kernel_rfl))) ?_
            refine ROps.l (r := AV.b ((flt .f64 (some 0) x1) == (flt .f64 (some 0) x2))) rfl rfl rfl (LOp.eqlb pun4 rfl rfl rfl) ?_
            refine ROps.l (r := AV.b ((flt .f64 (some 0) x1) == (flt .f64 (some 0) x2))) rfl rfl rfl (LOp.assign rfl rfl) ?_
            refine ROps.nil ?_
            refine RunC.ret ?_
            have hq := Option.some.inj h
            subst q0
            exact bodyQ.pure (.inr rfl) rfl (Res.one rfl (RV.tmp rfl))
          · refine RunC.regionW ?_
            refine ROps.l (r := AV.f64 a0) rfl rfl rfl (LOp.move rfl rfl) ?_
            refine ROps.l (r := AV.b true) rfl rfl rfl (LOp.eqb (LOp.feq rfl (OpF.tmp rfl) (OpF.const rfl (by kernel_rfl) (by kernel_rfl))) hc3) ?_
            refine ROps.l (r := AV.b true) rfl rfl rfl (LOp.move rfl rfl) ?_
            refine ROps.l (r := AV.f64 a1) rfl rfl rfl (LOp.move rfl rfl) ?_
            refine ROps.l (r := AV.b false) rfl rfl rfl (LOp.eqb (LOp.feq rfl (OpF.tmp rfl) (OpF.const rfl (by kernel_rfl) (by kernel_rfl))) hc4) ?_
            refine ROps.l (r := AV.b false) rfl rfl rfl (LOp.pick_true rfl rfl rfl) ?_
            refine ROps.nil ?_
            refine RunC.wl (τ' := [(0, AV.f64 a0), (1, AV.f64 a1), (26, AV.b false)]) (Γ' := []) ⟨(ALe.refl _), (ALe.refl _), (ALe.refl _), trivial⟩ trivial ?_
            refine RunC.cond_false rfl rfl ?_
            refine RunC.skip ?_
            exact ⟨⟨(ALe.refl _), (ALe.refl _), trivial⟩, trivial, h⟩
        · refine RunC.regionW ?_
          refine ROps.l (r := AV.f64 a0) rfl rfl rfl (LOp.move rfl rfl) ?_
          refine ROps.l (r := AV.b false) rfl rfl rfl (LOp.eqb (LOp.feq rfl (OpF.tmp rfl) (OpF.const rfl (by kernel_rfl) (by kernel_rfl))) hc3) ?_
          refine ROps.l (r := AV.b false) rfl rfl rfl (LOp.move rfl rfl) ?_
          refine ROps.s rfl rfl rfl ?_
          refine ROps.s rfl rfl rfl ?_
          refine ROps.l (r := AV.b false) rfl rfl rfl (LOp.pick_false rfl rfl rfl) ?_
          refine ROps.nil ?_
          refine RunC.wl (τ' := [(0, AV.f64 a0), (1, AV.f64 a1), (26, AV.b false)]) (Γ' := []) ⟨(ALe.refl _), (ALe.refl _), (ALe.refl _), trivial⟩ trivial ?_
          refine RunC.cond_false rfl rfl ?_
          refine RunC.skip ?_
          exact ⟨⟨(ALe.refl _), (ALe.refl _), trivial⟩, trivial, h⟩
      · rintro τ2 Γ2 ⟨hw2, hd2, h⟩
        refine RunC.wl (τ' := [(0, AV.f64 a0), (1, AV.f64 a1)]) (Γ' := []) hw2 hd2 ?_
        unfold w_sameFloat_k1 at h
        refine RunC.seq ?_
        refine RunC.regionW ?_
        refine ROps.l (r := AV.f64 a0) rfl rfl rfl (LOp.move rfl rfl) ?_
        refine ROps.l (r := AV.f64 a1) rfl rfl rfl (LOp.move rfl rfl) ?_
        refine ROps.l (r := AV.b (feq .f64 a0 a1)) rfl rfl rfl (LOp.feq rfl (OpF.tmp rfl) (OpF.tmp rfl)) ?_
        refine ROps.l (r := AV.b (feq .f64 a0 a1)) rfl rfl rfl (LOp.assign rfl rfl) ?_
        refine ROps.nil ?_
        refine RunC.ret ?_
        have hq := Option.some.inj h
        subst q0
        exact bodyQ.pure (.inr rfl) rfl (Res.one rfl (RV.tmp rfl))
noncomputable def w_eqFloat32S_b1 (a0 : List F) (a1 : List F) (v1 : Int) : Option (LR (Int) (Unit) (Bool)) :=
  bsel (decide (v1 < (a0.length : Int))) (
    obind (at? a0 v1) fun (e2 : F) =>
    olet (fwiden e2) fun (x3 : F) =>
    obind (at? a1 v1) fun (e4 : F) =>
    olet (fwiden e4) fun (x5 : F) =>
    obind (w_sameFloat x3 x5) fun (r6 : Bool) =>
    bsel r6 (
      olet (IntKind.i64.wrap (v1 + 1)) fun (x7 : Int) =>
      some (LR.next x7)) (
      some (LR.ret false))) (
    some (LR.out ()))
noncomputable def w_eqFloat32S_s1 (a0 : List F) (a1 : List F) : (Int) → Option (LR (Int) (Unit) (Bool)) := fun s => w_eqFloat32S_b1 a0 a1 s
noncomputable def w_eqFloat32S_k1  : Option (Bool) :=
  some true
noncomputable def w_eqFloat32S (a0 : List F) (a1 : List F) : Option (Bool) :=
  bsel (!decide ((a0.length : Int) = (a1.length : Int))) (
    some false) (
    obind (loopM (w_eqFloat32S_s1 a0 a1) 0) fun z => osum z (fun _ => w_eqFloat32S_k1) (fun r => some r))
theorem w_eqFloat32S_ok (a0 : List F) (a1 : List F) (q0 : Bool) (h : w_eqFloat32S a0 a1 = some q0) : Ev Try.prog 24 [AV.sl a0.length (a0.map AV.f32), AV.sl a1.length (a1.map AV.f32)] [] (AV.b q0) [] := by
  refine Ev.start Try.func24 rfl rfl 0 (τ := [(0, AV.sl a0.length (a0.map AV.f32)), (1, AV.sl a1.length (a1.map AV.f32))]) rfl (Γ' := []) rfl (n := 59) rfl (g := 0) rfl (fun _ => rfl) ?_
  unfold w_eqFloat32S at h
  refine RunC.seq ?_
  refine RunC.regionW ?_
  refine ROps.l (r := AV.b false) rfl rfl rfl (LOp.assign rfl rfl) ?_
  refine ROps.nil ?_
  refine RunC.seq ?_
  refine RunC.seq ?_
  rcases bsel_some h with ⟨hc1, h⟩ | ⟨hc1, h⟩
  · refine RunC.regionW ?_
    refine ROps.l (r := AV.sl a0.length (a0.map AV.f32)) rfl rfl rfl (LOp.move rfl rfl) ?_
    refine ROps.l (r := AV.i64 (a0.length : Int)) rfl rfl rfl (LOp.len_sl und22 rfl rfl) ?_
    refine ROps.l (r := AV.sl a1.length (a1.map AV.f32)) rfl rfl rfl (LOp.move rfl rfl) ?_
    refine ROps.l (r := AV.i64 (a1.length : Int)) rfl rfl rfl (LOp.len_sl und22 rfl rfl) ?_
    refine ROps.l (r := AV.b true) rfl rfl rfl (LOp.eqb (LOp.neq rfl rfl rfl) hc1) ?_
    refine ROps.nil ?_
    refine RunC.cond_true rfl rfl ?_
    refine RunC.seq ?_
    refine RunC.regionW ?_
    refine ROps.l (r := AV.b false) rfl rfl rfl (LOp.assign rfl rfl) ?_
    refine ROps.nil ?_
    refine RunC.ret ?_
    have hq := Option.some.inj h
    subst q0
    exact bodyQ.pure (.inr rfl) rfl (Res.one rfl (RV.tmp rfl))
  · refine RunC.regionW ?_
    refine ROps.l (r := AV.sl a0.length (a0.map AV.f32)) rfl rfl rfl (LOp.move rfl rfl) ?_
    refine ROps.l (r := AV.i64 (a0.length : Int)) rfl rfl rfl (LOp.len_sl und22 rfl rfl) ?_
    refine ROps.l (r := AV.sl a1.length (a1.map AV.f32)) rfl rfl rfl (LOp.move rfl rfl) ?_
    refine ROps.l (r := AV.i64 (a1.length : Int)) rfl rfl rfl (LOp.len_sl und22 rfl rfl) ?_
    refine ROps.l (r := AV.b false) rfl rfl rfl (LOp.eqb (LOp.neq rfl rfl rfl) hc1) ?_
    refine ROps.nil ?_
    refine RunC.cond_false rfl rfl ?_
    refine RunC.skip ?_
    refine RunC.seq ?_
    refine RunC.seq ?_
    refine RunC.regionW ?_
    refine ROps.l (r := AV.i64 0) rfl rfl rfl (LOp.assign rfl rfl) ?_
    refine ROps.nil ?_
    obtain ⟨z2, hz_2, h⟩ := obind_some h
    refine RunC.cutN (fun τ Γ => WeakLe τ [] ∧ DeadLe Γ [] ∧ z2 = .inl ()) ?_ ?_
    · refine RunC.block (RunC.loop (RunL.loopM (x := z2) (w_eqFloat32S_s1 a0 a1) (fun (s : Int) τ Γ => WeakLe τ [(0, AV.sl a0.length (a0.map AV.f32)), (1, AV.sl a1.length (a1.map AV.f32)), (5, AV.i64 s)] ∧ DeadLe Γ []) ?_ _ _ _ hz_2 ⟨⟨(ALe.refl _), (ALe.refl _), (ALe.refl _), trivial⟩, trivial⟩))
      rintro v1 τ2 Γ2 y2_ ⟨hw2, hd2⟩ h2_ ho2 hr2
      refine RunC.wl (τ' := [(0, AV.sl a0.length (a0.map AV.f32)), (1, AV.sl a1.length (a1.map AV.f32)), (5, AV.i64 v1)]) (Γ' := []) hw2 hd2 ?_
      replace h2_ : w_eqFloat32S_b1 a0 a1 v1 = some y2_ := h2_
      unfold w_eqFloat32S_b1 at h2_
      refine RunC.seq ?_
      refine RunC.seq ?_
      rcases bsel_some h2_ with ⟨hc2, h2_⟩ | ⟨hc2, h2_⟩
      · refine RunC.regionW ?_
        refine ROps.l (r := AV.i64 v1) rfl rfl rfl (LOp.move rfl rfl) ?_
        refine ROps.l (r := AV.sl a0.length (a0.map AV.f32)) rfl rfl rfl (LOp.move rfl rfl) ?_
        refine ROps.l (r := AV.i64 (a0.length : Int)) rfl rfl rfl (LOp.len_sl und22 rfl rfl) ?_
        refine ROps.l (r := AV.b true) rfl rfl rfl (LOp.eqb (LOp.lss rfl rfl rfl) hc2) ?_
        refine ROps.nil ?_
        refine RunC.cond_true rfl rfl ?_
        refine RunC.skip ?_
        refine RunC.seq ?_
        refine RunC.block ?_
        refine RunC.seq ?_
        obtain ⟨e2, he3, h2_⟩ := obind_some h2_
        obtain ⟨x3, hx4, h2_⟩ := olet_some h2_
        obtain ⟨e4, he5, h2_⟩ := obind_some h2_
        obtain ⟨x5, hx6, h2_⟩ := olet_some h2_
        obtain ⟨r6, hf7, h2_⟩ := obind_some h2_
        rcases bsel_some h2_ with ⟨hc8, h2_⟩ | ⟨hc8, h2_⟩
        · refine RunC.region_draw (Γ' := []) 12 mixed 
            (TR.l (r := AV.sl a0.length (a0.map AV.f32)) rfl rfl (LOp.move rfl rfl) <|
            (TR.l (r := AV.i64 v1) rfl rfl (LOp.move rfl rfl) <|
            (TR.l (r := AV.ptr [AV.f32 e2]) rfl rfl (LOp.le (LOp.ix (f := AV.f32) und22 siz25 rfl rfl rfl rfl he3) ALe.ptr) <|
            (TR.l (r := AV.f32 e2) rfl rfl (LOp.load1 agg25 rfl rfl) <|
            (TR.d (r := AV.f64 x3) (fs := []) rfl rfl (TOp.eqr (TOp.widen (src := 25) (dst := 40) ⟨_, pun25⟩ pun40 rfl (OpF.tmp rfl)) (congrArg (AV.f .f64) hx4)) <|
            (TR.l (r := AV.sl a1.length (a1.map AV.f32)) rfl rfl (LOp.move rfl rfl) <|
            (TR.l (r := AV.i64 v1) rfl rfl (LOp.move rfl rfl) <|
            (TR.l (r := AV.ptr [AV.f32 e4]) rfl rfl (LOp.le (LOp.ix (f := AV.f32) und22 siz25 rfl rfl rfl rfl he5) ALe.ptr) <|
            (TR.l (r := AV.f32 e4) rfl rfl (LOp.load1 agg25 rfl rfl) <|
            (TR.d (r := AV.f64 x5) (fs := []) rfl rfl (TOp.eqr (TOp.widen (src := 25) (dst := 40) ⟨_, pun25⟩ pun40 rfl (OpF.tmp rfl)) (congrArg (AV.f .f64) hx6)) <|
            (TR.d (r := AV.b true) (fs := []) rfl rfl (TOp.eqb (TOp.callB (CallAs.func ent21 rfl rfl) (Bors.cons (Bor.pure rfl) (Bors.cons (Bor.pure rfl) Bors.nil)) rfl rfl (w_sameFloat_ok x3 x5 r6 hf7)) hc8) <|
            (TR.l (r := AV.b false) rfl rfl (LOp.eqb (LOp.not rfl rfl) rfl) <|
            TR.nil)))))))))))) rfl (by kernel_rfl) rfl fills_nil rfl ?_
          iterate 12 refine ROps.dropS ?_
          refine ROps.drop0 ?_
          refine ROps.nil ?_
          refine RunC.wl (τ' := [(0, AV.sl a0.length (a0.map AV.f32)), (1, AV.sl a1.length (a1.map AV.f32)), (5, AV.i64 v1), (28, AV.b false)]) (Γ' := []) ⟨(ALe.refl _), (ALe.refl _), (ALe.refl _), (ALe.refl _), trivial⟩ trivial ?_
          refine RunC.cond_false rfl rfl ?_
          refine RunC.skip ?_
          obtain ⟨x7, hx9, h2_⟩ := olet_some h2_
          refine RunC.regionW ?_
          refine ROps.l (r := AV.i64 v1) rfl rfl rfl (LOp.move rfl rfl) ?_
          refine ROps.l (r := AV.i64 x7) rfl rfl rfl (LOp.eqr (LOp.add rfl rfl rfl) (congrArg (AV.ik .i64) hx9)) ?_
          refine ROps.l (r := AV.i64 x7) rfl rfl rfl (LOp.assign rfl rfl) ?_
          refine ROps.nil ?_
          cases Option.some.inj h2_
          exact ⟨_, rfl, ⟨(ALe.refl _), (ALe.refl _), (ALe.refl _), trivial⟩, trivial⟩
        · refine RunC.region_draw (Γ' := []) 12 mixed 
            (TR.l (r := AV.sl a0.length (a0.map AV.f32)) rfl rfl (LOp.move rfl rfl) <|
            (TR.l (r := AV.i64 v1) rfl rfl (LOp.move rfl rfl) <|
            (TR.l (r := AV.ptr [AV.f32 e2]) rfl rfl (LOp.le (LOp.ix (f := AV.f32) und22 siz25 rfl rfl rfl rfl he3) ALe.ptr) <|
            (TR.l (r := AV.f32 e2) rfl rfl (LOp.load1 agg25 rfl rfl) <|
            (TR.d (r := AV.f64 x3) (fs := []) rfl rfl (TOp.eqr (TOp.widen (src := 25) (dst := 40) ⟨_, pun25⟩ pun40 rfl (OpF.tmp rfl)) (congrArg (AV.f .f64) hx4)) <|
            (TR.l (r := AV.sl a1.length (a1.map AV.f32)) rfl rfl (LOp.move rfl rfl) <|
            (TR.l (r := AV.i64 v1) rfl rfl (LOp.move rfl rfl) <|
            (TR.l (r := AV.ptr [AV.f32 e4]) rfl rfl (LOp.le (LOp.ix (f := AV.f32) und22 siz25 rfl rfl rfl rfl he5) ALe.ptr) <|
            (TR.l (r := AV.f32 e4) rfl rfl (LOp.load1 agg25 rfl rfl) <|
            (TR.d (r := AV.f64 x5) (fs := []) rfl rfl (TOp.eqr (TOp.widen (src := 25) (dst := 40) ⟨_, pun25⟩ pun40 rfl (OpF.tmp rfl)) (congrArg (AV.f .f64) hx6)) <|
            (TR.d (r := AV.b false) (fs := []) rfl rfl (TOp.eqb (TOp.callB (CallAs.func ent21 rfl rfl) (Bors.cons (Bor.pure rfl) (Bors.cons (Bor.pure rfl) Bors.nil)) rfl rfl (w_sameFloat_ok x3 x5 r6 hf7)) hc8) <|
            (TR.l (r := AV.b true) rfl rfl (LOp.eqb (LOp.not rfl rfl) rfl) <|
            TR.nil)))))))))))) rfl (by kernel_rfl) rfl fills_nil rfl ?_
          iterate 12 refine ROps.dropS ?_
          refine ROps.drop0 ?_
          refine ROps.nil ?_
          refine RunC.wl (τ' := [(0, AV.sl a0.length (a0.map AV.f32)), (1, AV.sl a1.length (a1.map AV.f32)), (5, AV.i64 v1), (28, AV.b true)]) (Γ' := []) ⟨(ALe.refl _), (ALe.refl _), (ALe.refl _), (ALe.refl _), trivial⟩ trivial ?_
          refine RunC.cond_true rfl rfl ?_
          refine RunC.seq ?_
          refine RunC.regionW ?_
          refine ROps.l (r := AV.b false) rfl rfl rfl (LOp.assign rfl rfl) ?_
          refine ROps.nil ?_
          refine RunC.ret ?_
          cases Option.some.inj h2_
          have hx3_ := hr2 _ rfl
          subst hx3_
          have hq := Option.some.inj h
          subst q0
          exact bodyQ.pure (.inr rfl) rfl (Res.one rfl (RV.tmp rfl))
      · refine RunC.regionW ?_
        refine ROps.l (r := AV.i64 v1) rfl rfl rfl (LOp.move rfl rfl) ?_
        refine ROps.l (r := AV.sl a0.length (a0.map AV.f32)) rfl rfl rfl (LOp.move rfl rfl) ?_
        refine ROps.l (r := AV.i64 (a0.length : Int)) rfl rfl rfl (LOp.len_sl und22 rfl rfl) ?_
        refine ROps.l (r := AV.b false) rfl rfl rfl (LOp.eqb (LOp.lss rfl rfl rfl) hc2) ?_
        refine ROps.nil ?_
        refine RunC.cond_false rfl rfl ?_
        refine RunC.exit ?_
        cases Option.some.inj h2_
        have hx := ho2 _ rfl
        exact ⟨trivial, trivial, hx⟩
    · rintro τ4 Γ4 ⟨hw4, hd4, rfl⟩
      refine RunC.wl (τ' := []) (Γ' := []) hw4 hd4 ?_
      replace h : w_eqFloat32S_k1 = some q0 := h
      unfold w_eqFloat32S_k1 at h
      refine RunC.seq ?_
      refine RunC.regionW ?_
      refine ROps.l (r := AV.b true) rfl rfl rfl (LOp.assign rfl rfl) ?_
      refine ROps.nil ?_
      refine RunC.ret ?_
      have hq := Option.some.inj h
      subst q0
      exact bodyQ.pure (.inr rfl) rfl (Res.one rfl (RV.tmp rfl))
noncomputable def w_eqMatrix (a0 : Int) (a1 : Int) (a2 : List F) (a3 : Int) (a4 : Int) (a5 : List F) : Option (Bool) :=
  bsel (!decide (a0 = a3)) (
    some false) (
    bsel (!decide (a1 = a4)) (
      some false) (
      obind (w_eqFloat32S a2 a5) fun (r1 : Bool) =>
      bsel r1 (
        some true) (
        some false)))
theorem w_eqMatrix_ok (a0 : Int) (a1 : Int) (a2 : List F) (a3 : Int) (a4 : Int) (a5 : List F) (q0 : Bool) (h : w_eqMatrix a0 a1 a2 a3 a4 a5 = some q0) : Ev Try.prog 13 [AV.agg [AV.i64 a0, AV.i64 a1, AV.sl a2.length (a2.map AV.f32)], AV.agg [AV.i64 a3, AV.i64 a4, AV.sl a5.length (a5.map AV.f32)]] [] (AV.b q0) [] := by
  refine Ev.start Try.func13 rfl rfl 0 (τ := [(0, AV.agg [AV.i64 a0, AV.i64 a1, AV.sl a2.length (a2.map AV.f32)]), (1, AV.agg [AV.i64 a3, AV.i64 a4, AV.sl a5.length (a5.map AV.f32)])]) rfl (Γ' := []) rfl (n := 43) rfl (g := 0) rfl (fun _ => rfl) ?_
  unfold w_eqMatrix at h
  refine RunC.seq ?_
  refine RunC.regionW ?_
  refine ROps.d (r := AV.ptr [AV.i64 a0, AV.i64 a1, AV.sl a2.length (a2.map AV.f32)]) (fs := []) (Γ' := []) rfl rfl rfl (TOp.box_s rfl rfl rfl) rfl ?_
  refine ROps.d (r := AV.ptr [AV.i64 a3, AV.i64 a4, AV.sl a5.length (a5.map AV.f32)]) (fs := []) (Γ' := []) rfl rfl rfl (TOp.box_s rfl rfl rfl) rfl ?_
  refine ROps.l (r := AV.b false) rfl rfl rfl (LOp.assign rfl rfl) ?_
  refine ROps.nil ?_
  refine RunC.seq ?_
  refine RunC.seq ?_
  rcases bsel_some h with ⟨hc1, h⟩ | ⟨hc1, h⟩
  · refine RunC.regionW ?_
    refine ROps.l (r := AV.ptr [AV.i64 a0, AV.i64 a1, AV.sl a2.length (a2.map AV.f32)]) rfl rfl rfl (LOp.fap und27 rfl siz2 rfl rfl rfl) ?_
    refine ROps.l (r := AV.i64 a0) rfl rfl rfl (LOp.load1 agg2 rfl rfl) ?_
    refine ROps.l (r := AV.ptr [AV.i64 a3, AV.i64 a4, AV.sl a5.length (a5.map AV.f32)]) rfl rfl rfl (LOp.fap und27 rfl siz2 rfl rfl rfl) ?_
    refine ROps.l (r := AV.i64 a3) rfl rfl rfl (LOp.load1 agg2 rfl rfl) ?_
    refine ROps.l (r := AV.b true) rfl rfl rfl (LOp.eqb (LOp.neq rfl rfl rfl) hc1) ?_
    refine ROps.nil ?_
    refine RunC.cond_true rfl rfl ?_
    refine RunC.seq ?_
    refine RunC.regionW ?_
    refine ROps.l (r := AV.b false) rfl rfl rfl (LOp.assign rfl rfl) ?_
    refine ROps.nil ?_
    refine RunC.ret ?_
    have hq := Option.some.inj h
    subst q0
    exact bodyQ.pure (.inr rfl) rfl (Res.one rfl (RV.tmp rfl))
  · refine RunC.regionW ?_
    refine ROps.l (r := AV.ptr [AV.i64 a0, AV.i64 a1, AV.sl a2.length (a2.map AV.f32)]) rfl rfl rfl (LOp.fap und27 rfl siz2 rfl rfl rfl) ?_
    refine ROps.l (r := AV.i64 a0) rfl rfl rfl (LOp.load1 agg2 rfl rfl) ?_
    refine ROps.l (r := AV.ptr [AV.i64 a3, AV.i64 a4, AV.sl a5.length (a5.map AV.f32)]) rfl rfl rfl (LOp.fap und27 rfl siz2 rfl rfl rfl) ?_
    refine ROps.l (r := AV.i64 a3) rfl rfl rfl (LOp.load1 agg2 rfl rfl) ?_
    refine ROps.l (r := AV.b false) rfl rfl rfl (LOp.eqb (LOp.neq rfl rfl rfl) hc1) ?_
    refine ROps.nil ?_
    refine RunC.cond_false rfl rfl ?_
    refine RunC.skip ?_
    refine RunC.seq ?_
    refine RunC.seq ?_
    rcases bsel_some h with ⟨hc2, h⟩ | ⟨hc2, h⟩
    · refine RunC.regionW ?_
      refine ROps.l (r := AV.ptr [AV.i64 a1, AV.sl a2.length (a2.map AV.f32)]) rfl rfl rfl (LOp.fap und27 rfl siz2 rfl rfl rfl) ?_
      refine ROps.l (r := AV.i64 a1) rfl rfl rfl (LOp.load1 agg2 rfl rfl) ?_
      refine ROps.l (r := AV.ptr [AV.i64 a4, AV.sl a5.length (a5.map AV.f32)]) rfl rfl rfl (LOp.fap und27 rfl siz2 rfl rfl rfl) ?_
      refine ROps.l (r := AV.i64 a4) rfl rfl rfl (LOp.load1 agg2 rfl rfl) ?_
      refine ROps.l (r := AV.b true) rfl rfl rfl (LOp.eqb (LOp.neq rfl rfl rfl) hc2) ?_
      refine ROps.nil ?_
      refine RunC.cond_true rfl rfl ?_
      refine RunC.seq ?_
      refine RunC.regionW ?_
      refine ROps.l (r := AV.b false) rfl rfl rfl (LOp.assign rfl rfl) ?_
      refine ROps.nil ?_
      refine RunC.ret ?_
      have hq := Option.some.inj h
      subst q0
      exact bodyQ.pure (.inr rfl) rfl (Res.one rfl (RV.tmp rfl))
    · refine RunC.regionW ?_
      refine ROps.l (r := AV.ptr [AV.i64 a1, AV.sl a2.length (a2.map AV.f32)]) rfl rfl rfl (LOp.fap und27 rfl siz2 rfl rfl rfl) ?_
      refine ROps.l (r := AV.i64 a1) rfl rfl rfl (LOp.load1 agg2 rfl rfl) ?_
      refine ROps.l (r := AV.ptr [AV.i64 a4, AV.sl a5.length (a5.map AV.f32)]) rfl rfl rfl (LOp.fap und27 rfl siz2 rfl rfl rfl) ?_
      refine ROps.l (r := AV.i64 a4) rfl rfl rfl (LOp.load1 agg2 rfl rfl) ?_
      refine ROps.l (r := AV.b false) rfl rfl rfl (LOp.eqb (LOp.neq rfl rfl rfl) hc2) ?_
      refine ROps.nil ?_
      refine RunC.cond_false rfl rfl ?_
      refine RunC.skip ?_
      refine RunC.wl (τ' := [(2, AV.ptr [AV.i64 a0, AV.i64 a1, AV.sl a2.length (a2.map AV.f32)]), (3, AV.ptr [AV.i64 a3, AV.i64 a4, AV.sl a5.length (a5.map AV.f32)])]) (Γ' := []) ⟨(ALe.refl _), (ALe.refl _), trivial⟩ trivial ?_
      refine RunC.seq ?_
      refine RunC.seq ?_
      obtain ⟨r1, hf3, h⟩ := obind_some h
      rcases bsel_some h with ⟨hc4, h⟩ | ⟨hc4, h⟩
      · refine RunC.regionW ?_
        refine ROps.l (r := AV.ptr [AV.sl a2.length (a2.map AV.f32)]) rfl rfl rfl (LOp.fap und27 rfl siz22 rfl rfl rfl) ?_
        refine ROps.l (r := AV.sl a2.length (a2.map AV.f32)) rfl rfl rfl (LOp.load1 agg22 rfl rfl) ?_
        refine ROps.l (r := AV.ptr [AV.sl a5.length (a5.map AV.f32)]) rfl rfl rfl (LOp.fap und27 rfl siz22 rfl rfl rfl) ?_
        refine ROps.l (r := AV.sl a5.length (a5.map AV.f32)) rfl rfl rfl (LOp.load1 agg22 rfl rfl) ?_
        refine ROps.d (r := AV.b true) (fs := []) (Γ' := []) rfl rfl rfl (TOp.eqb (TOp.callB (CallAs.func ent24 rfl rfl) (Bors.cons (Bor.sl (fun _ => rfl)) (Bors.cons (Bor.sl (fun _ => rfl)) Bors.nil)) rfl rfl (w_eqFloat32S_ok a2 a5 r1 hf3)) hc4) rfl ?_
        refine ROps.l (r := AV.b false) rfl rfl rfl (LOp.eqb (LOp.not rfl rfl) rfl) ?_
        refine ROps.nil ?_
        refine RunC.cond_false rfl rfl ?_
        refine RunC.skip ?_
        refine RunC.seq ?_
        refine RunC.regionW ?_
        refine ROps.l (r := AV.b true) rfl rfl rfl (LOp.assign rfl rfl) ?_
        refine ROps.nil ?_
        refine RunC.ret ?_
        have hq := Option.some.inj h
        subst q0
        exact bodyQ.pure (.inr rfl) rfl (Res.one rfl (RV.tmp rfl))
      · refine RunC.regionW ?_
        refine ROps.l (r := AV.ptr [AV.sl a2.length (a2.map AV.f32)]) rfl rfl rfl (LOp.fap und27 rfl siz22 rfl rfl rfl) ?_
        refine ROps.l (r := AV.sl a2.length (a2.map AV.f32)) rfl rfl rfl (LOp.load1 agg22 rfl rfl) ?_
        refine ROps.l (r := AV.ptr [AV.sl a5.length (a5.map AV.f32)]) rfl rfl rfl (LOp.fap und27 rfl siz22 rfl rfl rfl) ?_
        refine ROps.l (r := AV.sl a5.length (a5.map AV.f32)) rfl rfl rfl (LOp.load1 agg22 rfl rfl) ?_
        refine ROps.d (r := AV.b false) (fs := []) (Γ' := []) rfl rfl rfl (TOp.eqb (TOp.callB (CallAs.func ent24 rfl rfl) (Bors.cons (Bor.sl (fun _ => rfl)) (Bors.cons (Bor.sl (fun _ => rfl)) Bors.nil)) rfl rfl (w_eqFloat32S_ok a2 a5 r1 hf3)) hc4) rfl ?_
        refine ROps.l (r := AV.b true) rfl rfl rfl (LOp.eqb (LOp.not rfl rfl) rfl) ?_
        refine ROps.nil ?_
        refine RunC.cond_true rfl rfl ?_
        refine RunC.seq ?_
        refine RunC.regionW ?_
        refine ROps.l (r := AV.b false) rfl rfl rfl (LOp.assign rfl rfl) ?_
        refine ROps.nil ?_
        refine RunC.ret ?_
        have hq := Option.some.inj h
        subst q0
        exact bodyQ.pure (.inr rfl) rfl (Res.one rfl (RV.tmp rfl))
noncomputable def w_markFloat32S_0o_b1 (a1 : List F) (L1 : List F) (v3 : Int) (v4 : Int) : Option (LR ((List F) × Int × Int) ((List F) × Int) (Int × (List F))) :=
  bsel (decide (v4 < ((a1.length : Nat) : Int))) (
    olet (fint .f32 v3) fun (x5 : F) =>
    obind (setAt? L1 v4 x5) fun (L6 : List F) =>
    olet (IntKind.i64.wrap (v3 + 1)) fun (x7 : Int) =>
    olet (IntKind.i64.wrap (v4 + 1)) fun (x8 : Int) =>
    some (LR.next (L6, x7, x8))) (
    some (LR.out (L1, v3)))
noncomputable def w_markFloat32S_0o_s1 (a1 : List F) : ((List F) × Int × Int) → Option (LR ((List F) × Int × Int) ((List F) × Int) (Int × (List F))) := fun s => w_markFloat32S_0o_b1 a1 s.1 s.2.1 s.2.2
noncomputable def w_markFloat32S_0o_k1 (L9 : List F) (v11 : Int) : Option (Int × (List F)) :=
  some (v11, L9)
noncomputable def w_markFloat32S_0o (a0 : Int) (a1 : List F) : Option (Int × (List F)) :=
  obind (loopM (w_markFloat32S_0o_s1 a1) (a1, a0, 0)) fun z => osum z (fun e => w_markFloat32S_0o_k1 e.1 e.2) (fun r => some r)
theorem w_markFloat32S_0o_ok (a0 : Int) (a1 : List F) (q0 : Int) (q1 : List F) (h : w_markFloat32S_0o a0 a1 = some (q0, q1)) : Ev Try.prog 25 [AV.oref 0 0 0 a1.length, AV.i64 a0] [⟨0, some (a1.map AV.f32)⟩] (AV.i64 q0) [⟨0, some (q1.map AV.f32)⟩] := by
  refine Ev.start Try.func25 rfl rfl 0 (τ := [(0, AV.oref 0 0 0 a1.length), (1, AV.i64 a0)]) rfl (Γ' := [⟨0, some (a1.map AV.f32)⟩]) rfl (n := 40) rfl (g := 1) rfl (by decide) ?_
  unfold w_markFloat32S_0o at h
  refine RunC.seq ?_
  refine RunC.regionW ?_
  refine ROps.l (r := AV.i64 0) rfl rfl rfl (LOp.assign rfl rfl) ?_
  refine ROps.nil ?_
  refine RunC.seq ?_
  refine RunC.seq ?_
  refine RunC.regionW ?_
  refine ROps.l (r := AV.i64 0) rfl rfl rfl (LOp.assign rfl rfl) ?_
  refine ROps.nil ?_
  obtain ⟨z2, hz_2, h⟩ := obind_some h
  refine RunC.cutN (fun τ Γ => ∃ (L9 : List F) (v11 : Int), L9.length = a1.length ∧ WeakLe τ [(1, AV.i64 v11)] ∧ DeadLe Γ [⟨0, some (L9.map AV.f32)⟩] ∧ z2 = .inl (L9, v11)) ?_ ?_
  · refine RunC.block (RunC.loop (RunL.loopM (x := z2) (w_markFloat32S_0o_s1 a1) (fun (s : (List F) × Int × Int) τ Γ => s.1.length = a1.length ∧ WeakLe τ [(0, AV.oref 0 0 0 a1.length), (1, AV.i64 s.2.1), (5, AV.i64 s.2.2)] ∧ DeadLe Γ [⟨0, some (s.1.map AV.f32)⟩]) ?_ _ _ _ hz_2 ⟨rfl, ⟨(ALe.refl _), (ALe.refl _), (ALe.refl _), trivial⟩, ⟨⟨rfl, .inr rfl⟩, trivial⟩⟩))
    rintro ⟨L1, v3, v4⟩ τ2 Γ2 y2_ ⟨hl2, hw2, hd2⟩ h2_ ho2 hr2
    refine RunC.wl (τ' := [(0, AV.oref 0 0 0 a1.length), (1, AV.i64 v3), (5, AV.i64 v4)]) (Γ' := [⟨0, some (L1.map AV.f32)⟩]) hw2 hd2 ?_
    replace hl2 : L1.length = a1.length := hl2
    replace h2_ : w_markFloat32S_0o_b1 a1 L1 v3 v4 = some y2_ := h2_
    unfold w_markFloat32S_0o_b1 at h2_
    refine RunC.seq ?_
    refine RunC.seq ?_
    rcases bsel_some h2_ with ⟨hc1, h2_⟩ | ⟨hc1, h2_⟩
    · refine RunC.regionW ?_
      refine ROps.l (r := AV.i64 v4) rfl rfl rfl (LOp.move rfl rfl) ?_
      refine ROps.l (r := AV.oref 0 0 0 a1.length) rfl rfl rfl (LOp.move rfl rfl) ?_
      refine ROps.l (r := AV.i64 ((a1.length : Nat) : Int)) rfl rfl rfl (LOp.len_oref und22 rfl rfl) ?_
      refine ROps.l (r := AV.b true) rfl rfl rfl (LOp.eqb (LOp.lss rfl rfl rfl) hc1) ?_
      refine ROps.nil ?_
      refine RunC.cond_true rfl rfl ?_
      refine RunC.skip ?_
      refine RunC.seq ?_
      refine RunC.block ?_
      refine RunC.seq ?_
      obtain ⟨x5, hx2, h2_⟩ := olet_some h2_
      obtain ⟨L6, he3, h2_⟩ := obind_some h2_
      refine RunC.regionW ?_
      refine ROps.l (r := AV.oref 0 0 0 a1.length) rfl rfl rfl (LOp.move rfl rfl) ?_
      refine ROps.l (r := AV.i64 v4) rfl rfl rfl (LOp.move rfl rfl) ?_
      refine ROps.l (r := AV.i64 v3) rfl rfl rfl (LOp.move rfl rfl) ?_
      refine ROps.l (r := AV.f32 x5) rfl rfl rfl (LOp.eqr (LOp.i2f (src := 3) (dst := 25) ⟨_, pun3⟩ pun25 rfl rfl) (congrArg (AV.f .f32) hx2)) ?_
      refine ROps.d (r := AV.optr 0 0 v4.toNat) (fs := []) (Γ' := [⟨0, some (L1.map AV.f32)⟩]) rfl rfl rfl (TOp.ixo und22 siz25 rfl rfl rfl (set_in he3 hl2) rfl) rfl ?_
      refine ROps.st (f := AV.f32) (i := v4) (Γ' := [⟨0, some (L6.map AV.f32)⟩]) rfl siz25 rfl rfl rfl (ALe.refl _) rfl rfl rfl he3 rfl ?_
      refine ROps.nil ?_
      obtain ⟨x7, hx4, h2_⟩ := olet_some h2_
      refine RunC.regionW ?_
      refine ROps.l (r := AV.i64 v3) rfl rfl rfl (LOp.move rfl rfl) ?_
      refine ROps.l (r := AV.i64 x7) rfl rfl rfl (LOp.eqr (LOp.add rfl rfl rfl) (congrArg (AV.ik .i64) hx4)) ?_
      refine ROps.l (r := AV.i64 x7) rfl rfl rfl (LOp.assign rfl rfl) ?_
      refine ROps.nil ?_
      obtain ⟨x8, hx5, h2_⟩ := olet_some h2_
      refine RunC.regionW ?_
      refine ROps.l (r := AV.i64 v4) rfl rfl rfl (LOp.move rfl rfl) ?_
      refine ROps.l (r := AV.i64 x8) rfl rfl rfl (LOp.eqr (LOp.add rfl rfl rfl) (congrArg (AV.ik .i64) hx5)) ?_
      refine ROps.l (r := AV.i64 x8) rfl rfl rfl (LOp.assign rfl rfl) ?_
      refine ROps.nil ?_
      cases Option.some.inj h2_
      exact ⟨_, rfl, ((setAt?_len he3).trans hl2), ⟨(ALe.refl _), (ALe.refl _), (ALe.refl _), trivial⟩, ⟨⟨rfl, .inr rfl⟩, trivial⟩⟩
    · refine RunC.regionW ?_
      refine ROps.l (r := AV.i64 v4) rfl rfl rfl (LOp.move rfl rfl) ?_
      refine ROps.l (r := AV.oref 0 0 0 a1.length) rfl rfl rfl (LOp.move rfl rfl) ?_
      refine ROps.l (r := AV.i64 ((a1.length : Nat) : Int)) rfl rfl rfl (LOp.len_oref und22 rfl rfl) ?_
      refine ROps.l (r := AV.b false) rfl rfl rfl (LOp.eqb (LOp.lss rfl rfl rfl) hc1) ?_
      refine ROps.nil ?_
      refine RunC.cond_false rfl rfl ?_
      refine RunC.exit ?_
      cases Option.some.inj h2_
      have hx := ho2 _ rfl
      exact ⟨L1, v3, hl2, ⟨(ALe.refl _), trivial⟩, ⟨⟨rfl, .inr rfl⟩, trivial⟩, hx⟩
  · rintro τ3 Γ3 ⟨L9, v11, hl10, hw3, hd3, rfl⟩
    refine RunC.wl (τ' := [(1, AV.i64 v11)]) (Γ' := [⟨0, some (L9.map AV.f32)⟩]) hw3 hd3 ?_
    replace h : w_markFloat32S_0o_k1 L9 v11 = some (q0, q1) := h
    unfold w_markFloat32S_0o_k1 at h
    refine RunC.seq ?_
    refine RunC.regionW ?_
    refine ROps.l (r := AV.i64 v11) rfl rfl rfl (LOp.move rfl rfl) ?_
    refine ROps.l (r := AV.i64 v11) rfl rfl rfl (LOp.assign rfl rfl) ?_
    refine ROps.nil ?_
    refine RunC.ret ?_
    have hq := Option.some.inj h
    obtain ⟨hq0, hq⟩ := Prod.mk.inj hq
    subst q0
    subst q1
    exact bodyQ.mk (r' := AV.i64 v11) [(0, 0)] (.inr rfl) rfl (show List.Nodup [0] from by decide) rfl rfl (Res.one rfl (RV.tmp rfl)) (SelL.arr (f := AV.f32) (fun _ => rfl) rfl trivial)
noncomputable def w_markMatrix_02o (a0 : Int) (a1 : Int) (a2 : Int) (a3 : List F) : Option (Int × (List F)) :=
  obind2 (w_markFloat32S_0o a2 a3) fun (r1 : Int) (r2 : List F) =>
  need (decide (r2.length = a3.length)) <|
  some (r1, r2)
theorem w_markMatrix_02o_ok (a0 : Int) (a1 : Int) (a2 : Int) (a3 : List F) (q0 : Int) (q1 : List F) (h : w_markMatrix_02o a0 a1 a2 a3 = some (q0, q1)) : Ev Try.prog 15 [AV.agg [AV.i64 a0, AV.i64 a1, AV.oref 0 0 0 a3.length], AV.i64 a2] [⟨0, some (a3.map AV.f32)⟩] (AV.i64 q0) [⟨0, some (q1.map AV.f32)⟩] := by
  refine Ev.start Try.func15 rfl rfl 0 (τ := [(0, AV.agg [AV.i64 a0, AV.i64 a1, AV.oref 0 0 0 a3.length]), (1, AV.i64 a2)]) rfl (Γ' := [⟨0, some (a3.map AV.f32)⟩]) rfl (n := 20) rfl (g := 1) rfl (by decide) ?_
  unfold w_markMatrix_02o at h
  refine RunC.seq ?_
  refine RunC.regionW ?_
  refine ROps.d (r := AV.ptr [AV.i64 a0, AV.i64 a1, AV.oref 0 0 0 a3.length]) (fs := []) (Γ' := [⟨0, some (a3.map AV.f32)⟩]) rfl rfl rfl (TOp.box_s rfl rfl rfl) rfl ?_
  refine ROps.l (r := AV.i64 0) rfl rfl rfl (LOp.assign rfl rfl) ?_
  refine ROps.nil ?_
  refine RunC.seq ?_
  obtain ⟨r1, r2, hf1, h⟩ := obind2_some h
  obtain ⟨hn2, h⟩ := need_some h
  refine RunC.regionW ?_
  refine ROps.l (r := AV.ptr [AV.oref 0 0 0 a3.length]) rfl rfl rfl (LOp.fap und27 rfl siz22 rfl rfl rfl) ?_
  refine ROps.l (r := AV.oref 0 0 0 a3.length) rfl rfl rfl (LOp.load1 agg22 rfl rfl) ?_
  refine ROps.l (r := AV.i64 a2) rfl rfl rfl (LOp.move rfl rfl) ?_
  refine ROps.callO (A := [AV.oref 0 0 0 a3.length, AV.i64 a2]) (args := [AV.oref 0 0 0 a3.length, AV.i64 a2]) (Γc := [⟨0, some (a3.map AV.f32)⟩]) (Γc' := [⟨0, some (r2.map AV.f32)⟩]) (r' := AV.i64 r1) (Γ' := [⟨0, some (r2.map AV.f32)⟩]) [(0, 0)] [] rfl (CallAs.func ent25 rfl rfl) rfl rfl (SelOk.of (show List.Nodup [0] from by decide) (SelL.arr0 (f := AV.f32) (fun _ => rfl) rfl trivial)) (live_of ⟨⟨_, _, rfl⟩, trivial⟩) (by simp [AV.ren, AV.rens, sigma, rens_f32, rens_f64, rens_i64, rens_ik, rens_str, rens_cp]) rfl (w_markFloat32S_0o_ok a2 a3 r1 r2 hf1) rfl (news_of trivial) (show List.Nodup [0] from by decide) (by simp [AV.ren, AV.rens, sigma, of_decide_eq_true hn2]) (by simp [backOb, sigma, AV.ren, AV.rens, rens_f32, rens_f64, rens_i64, rens_ik, rens_str, rens_cp]) ?_
  refine ROps.l (r := AV.i64 r1) rfl rfl rfl (LOp.assign rfl rfl) ?_
  refine ROps.nil ?_
  refine RunC.seq ?_
  refine RunC.regionW ?_
  refine ROps.l (r := AV.i64 r1) rfl rfl rfl (LOp.move rfl rfl) ?_
  refine ROps.l (r := AV.i64 r1) rfl rfl rfl (LOp.assign rfl rfl) ?_
  refine ROps.nil ?_
  refine RunC.ret ?_
  have hq := Option.some.inj h
  obtain ⟨hq0, hq⟩ := Prod.mk.inj hq
  subst q0
  subst q1
  exact bodyQ.mk (r' := AV.i64 r1) [(0, 0)] (.inr rfl) rfl (show List.Nodup [0] from by decide) rfl rfl (Res.one rfl (RV.tmp rfl)) (SelL.arr (f := AV.f32) (fun _ => rfl) rfl trivial)
noncomputable def w_heldFloat32S_b1 (a0 : List F) (v1 : Int) (v2 : Int) : Option (LR (Int × Int) (Int) (Int)) :=
  bsel (decide (v2 < (a0.length : Int))) (
    obind (at? a0 v2) fun (e3 : F) =>
    olet (fint .f32 v1) fun (x4 : F) =>
    bsel (!feq .f32 e3 x4) (
      some (LR.ret (-1))) (
      olet (IntKind.i64.wrap (v1 + 1)) fun (x5 : Int) =>
      olet (IntKind.i64.wrap (v2 + 1)) fun (x6 : Int) =>
      some (LR.next (x5, x6)))) (
    some (LR.out v1))
noncomputable def w_heldFloat32S_s1 (a0 : List F) : (Int × Int) → Option (LR (Int × Int) (Int) (Int)) := fun s => w_heldFloat32S_b1 a0 s.1 s.2
noncomputable def w_heldFloat32S_k1 (v7 : Int) : Option (Int) :=
  some v7
noncomputable def w_heldFloat32S (a0 : List F) (a1 : Int) : Option (Int) :=
  obind (loopM (w_heldFloat32S_s1 a0) (a1, 0)) fun z => osum z (fun e => w_heldFloat32S_k1 e) (fun r => some r)
theorem w_heldFloat32S_ok (a0 : List F) (a1 : Int) (q0 : Int) (h : w_heldFloat32S a0 a1 = some q0) : Ev Try.prog 26 [AV.sl a0.length (a0.map AV.f32), AV.i64 a1] [] (AV.i64 q0) [] := by
  refine Ev.start Try.func26 rfl rfl 0 (τ := [(0, AV.sl a0.length (a0.map AV.f32)), (1, AV.i64 a1)]) rfl (Γ' := []) rfl (n := 45) rfl (g := 0) rfl (fun _ => rfl) ?_
  unfold w_heldFloat32S at h
  refine RunC.seq ?_
  refine RunC.regionW ?_
  refine ROps.l (r := AV.i64 0) rfl rfl rfl (LOp.assign rfl rfl) ?_
  refine ROps.nil ?_
  refine RunC.seq ?_
  refine RunC.seq ?_
  refine RunC.regionW ?_
  refine ROps.l (r := AV.i64 0) rfl rfl rfl (LOp.assign rfl rfl) ?_
  refine ROps.nil ?_
  obtain ⟨z2, hz_2, h⟩ := obind_some h
  refine RunC.cutN (fun τ Γ => ∃ (v7 : Int), WeakLe τ [(1, AV.i64 v7)] ∧ DeadLe Γ [] ∧ z2 = .inl v7) ?_ ?_
  · refine RunC.block (RunC.loop (RunL.loopM (x := z2) (w_heldFloat32S_s1 a0) (fun (s : Int × Int) τ Γ => WeakLe τ [(0, AV.sl a0.length (a0.map AV.f32)), (1, AV.i64 s.1), (5, AV.i64 s.2)] ∧ DeadLe Γ []) ?_ _ _ _ hz_2 ⟨⟨(ALe.refl _), (ALe.refl _), (ALe.refl _), trivial⟩, trivial⟩))
    rintro ⟨v1, v2⟩ τ2 Γ2 y2_ ⟨hw2, hd2⟩ h2_ ho2 hr2
    refine RunC.wl (τ' := [(0, AV.sl a0.length (a0.map AV.f32)), (1, AV.i64 v1), (5, AV.i64 v2)]) (Γ' := []) hw2 hd2 ?_
    replace h2_ : w_heldFloat32S_b1 a0 v1 v2 = some y2_ := h2_
    unfold w_heldFloat32S_b1 at h2_
    refine RunC.seq ?_
    refine RunC.seq ?_
    rcases bsel_some h2_ with ⟨hc1, h2_⟩ | ⟨hc1, h2_⟩
    · refine RunC.regionW ?_
      refine ROps.l (r := AV.i64 v2) rfl rfl rfl (LOp.move rfl rfl) ?_
      refine ROps.l (r := AV.sl a0.length (a0.map AV.f32)) rfl rfl rfl (LOp.move rfl rfl) ?_
      refine ROps.l (r := AV.i64 (a0.length : Int)) rfl rfl rfl (LOp.len_sl und22 rfl rfl) ?_
      refine ROps.l (r := AV.b true) rfl rfl rfl (LOp.eqb (LOp.lss rfl rfl rfl) hc1) ?_
      refine ROps.nil ?_
      refine RunC.cond_true rfl rfl ?_
      refine RunC.skip ?_
      refine RunC.seq ?_
      refine RunC.block ?_
      refine RunC.seq ?_
      refine RunC.seq ?_
      obtain ⟨e3, he2, h2_⟩ := obind_some h2_
      obtain ⟨x4, hx3, h2_⟩ := olet_some h2_
      rcases bsel_some h2_ with ⟨hc4, h2_⟩ | ⟨hc4, h2_⟩
      · refine RunC.regionW ?_
        refine ROps.l (r := AV.sl a0.length (a0.map AV.f32)) rfl rfl rfl (LOp.move rfl rfl) ?_
        refine ROps.l (r := AV.i64 v2) rfl rfl rfl (LOp.move rfl rfl) ?_
        refine ROps.l (r := AV.ptr [AV.f32 e3]) rfl rfl rfl (LOp.le (LOp.ix (f := AV.f32) und22 siz25 rfl rfl rfl rfl he2) ALe.ptr) ?_
        refine ROps.l (r := AV.f32 e3) rfl rfl rfl (LOp.load1 agg25 rfl rfl) ?_
        refine ROps.l (r := AV.i64 v1) rfl rfl rfl (LOp.move rfl rfl) ?_
        refine ROps.l (r := AV.f32 x4) rfl rfl rfl (LOp.eqr (LOp.i2f (src := 3) (dst := 25) ⟨_, pun3⟩ pun25 rfl rfl) (congrArg (AV.f .f32) hx3)) ?_
        refine ROps.l (r := AV.b true) rfl rfl rfl (LOp.eqb (LOp.fne rfl (OpF.tmp rfl) (OpF.tmp rfl)) hc4) ?_
        refine ROps.nil ?_
        refine RunC.cond_true rfl rfl ?_
        refine RunC.seq ?_
        refine RunC.regionW ?_
        refine ROps.l (r := AV.i64 (-1)) rfl rfl rfl (LOp.assign rfl rfl) ?_
        refine ROps.nil ?_
        refine RunC.ret ?_
        cases Option.some.inj h2_
        have hx3_ := hr2 _ rfl
        subst hx3_
        have hq := Option.some.inj h
        subst q0
        exact bodyQ.pure (.inr rfl) rfl (Res.one rfl (RV.tmp rfl))
      · refine RunC.regionW ?_
        refine ROps.l (r := AV.sl a0.length (a0.map AV.f32)) rfl rfl rfl (LOp.move rfl rfl) ?_
        refine ROps.l (r := AV.i64 v2) rfl rfl rfl (LOp.move rfl rfl) ?_
        refine ROps.l (r := AV.ptr [AV.f32 e3]) rfl rfl rfl (LOp.le (LOp.ix (f := AV.f32) und22 siz25 rfl rfl rfl rfl he2) ALe.ptr) ?_
        refine ROps.l (r := AV.f32 e3) rfl rfl rfl (LOp.load1 agg25 rfl rfl) ?_
        refine ROps.l (r := AV.i64 v1) rfl rfl rfl (LOp.move rfl rfl) ?_
        refine ROps.l (r := AV.f32 x4) rfl rfl rfl (LOp.eqr (LOp.i2f (src := 3) (dst := 25) ⟨_, pun3⟩ pun25 rfl rfl) (congrArg (AV.f .f32) hx3)) ?_
        refine ROps.l (r := AV.b false) rfl rfl rfl (LOp.eqb (LOp.fne rfl (OpF.tmp rfl) (OpF.tmp rfl)) hc4) ?_
        refine ROps.nil ?_
        refine RunC.cond_false rfl rfl ?_
        refine RunC.skip ?_
        obtain ⟨x5, hx5, h2_⟩ := olet_some h2_
        refine RunC.regionW ?_
        refine ROps.l (r := AV.i64 v1) rfl rfl rfl (LOp.move rfl rfl) ?_
        refine ROps.l (r := AV.i64 x5) rfl rfl rfl (LOp.eqr (LOp.add rfl rfl rfl) (congrArg (AV.ik .i64) hx5)) ?_
        refine ROps.l (r := AV.i64 x5) rfl rfl rfl (LOp.assign rfl rfl) ?_
        refine ROps.nil ?_
        refine RunC.wl (τ' := [(0, AV.sl a0.length (a0.map AV.f32)), (1, AV.i64 x5), (5, AV.i64 v2)]) (Γ' := []) ⟨(ALe.refl _), (ALe.refl _), (ALe.refl _), trivial⟩ trivial ?_
        obtain ⟨x6, hx6, h2_⟩ := olet_some h2_
        refine RunC.regionW ?_
        refine ROps.l (r := AV.i64 v2) rfl rfl rfl (LOp.move rfl rfl) ?_
        refine ROps.l (r := AV.i64 x6) rfl rfl rfl (LOp.eqr (LOp.add rfl rfl rfl) (congrArg (AV.ik .i64) hx6)) ?_
        refine ROps.l (r := AV.i64 x6) rfl rfl rfl (LOp.assign rfl rfl) ?_
        refine ROps.nil ?_
        cases Option.some.inj h2_
        exact ⟨_, rfl, ⟨(ALe.refl _), (ALe.refl _), (ALe.refl _), trivial⟩, trivial⟩
    · refine RunC.regionW ?_
      refine ROps.l (r := AV.i64 v2) rfl rfl rfl (LOp.move rfl rfl) ?_
      refine ROps.l (r := AV.sl a0.length (a0.map AV.f32)) rfl rfl rfl (LOp.move rfl rfl) ?_
      refine ROps.l (r := AV.i64 (a0.length : Int)) rfl rfl rfl (LOp.len_sl und22 rfl rfl) ?_
      refine ROps.l (r := AV.b false) rfl rfl rfl (LOp.eqb (LOp.lss rfl rfl rfl) hc1) ?_
      refine ROps.nil ?_
      refine RunC.cond_false rfl rfl ?_
      refine RunC.exit ?_
      cases Option.some.inj h2_
      have hx := ho2 _ rfl
      exact ⟨v1, ⟨(ALe.refl _), trivial⟩, trivial, hx⟩
  · rintro τ4 Γ4 ⟨v7, hw4, hd4, rfl⟩
    refine RunC.wl (τ' := [(1, AV.i64 v7)]) (Γ' := []) hw4 hd4 ?_
    replace h : w_heldFloat32S_k1 v7 = some q0 := h
    unfold w_heldFloat32S_k1 at h
    refine RunC.seq ?_
    refine RunC.regionW ?_
    refine ROps.l (r := AV.i64 v7) rfl rfl rfl (LOp.move rfl rfl) ?_
    refine ROps.l (r := AV.i64 v7) rfl rfl rfl (LOp.assign rfl rfl) ?_
    refine ROps.nil ?_
    refine RunC.ret ?_
    have hq := Option.some.inj h
    subst q0
    exact bodyQ.pure (.inr rfl) rfl (Res.one rfl (RV.tmp rfl))
noncomputable def w_FnExactSignsOf (a0 : Int) (a1 : Int) (a2 : List F) : Option (Bool) :=
  obind (w_szMatrix a0 a1 a2 1048576) fun (r1 : Int) =>
  bsel (decide (r1 < 0)) (
    some true) (
    obind3 (w_toMatrix a0 a1 a2) fun (r2 : Int) (r3 : Int) (r4 : List F) =>
    obind2 (s_SignsOf r2 r3 r4) fun (r5 : Bool) (r6 : List F) =>
    obind3 (w_toMatrix a0 a1 a2) fun (r7 : Int) (r8 : Int) (r9 : List F) =>
    obind2 (i_SignsOf r7 r8 r9) fun (r10 : Bool) (r11 : List F) =>
    obind (w_eqFloat32S r11 r6) fun (r12 : Bool) =>
    bsel r12 (
      bsel (!(r10 == r5)) (
        some false) (
        obind3 (w_toMatrix a0 a1 a2) fun (r13 : Int) (r14 : Int) (r15 : List F) =>
        obind (w_eqMatrix r7 r8 r9 r13 r14 r15) fun (r16 : Bool) =>
        bsel r16 (
          obind2 (w_markMatrix_02o r7 r8 1 r9) fun (r17 : Int) (r18 : List F) =>
          need (decide (r18.length = r9.length)) <|
          bsel (decide (r17 < 0)) (
            some false) (
            obind (w_eqFloat32S r11 r6) fun (r19 : Bool) =>
            bsel r19 (
              obind2 (w_markFloat32S_0o 1 r11) fun (r20 : Int) (r21 : List F) =>
              need (decide (r21.length = r11.length)) <|
              obind (w_heldFloat32S r21 1) fun (r22 : Int) =>
              bsel (decide (r22 < 0)) (
                some false) (
                bsel (!decide (r22 = r20)) (
                  some false) (
                  obind3 (w_toMatrix a0 a1 a2) fun (r23 : Int) (r24 : Int) (r25 : List F) =>
                  obind2 (i_SignsOf r23 r24 r25) fun (r26 : Bool) (r27 : List F) =>
                  obind (w_eqFloat32S r27 r6) fun (r28 : Bool) =>
                  bsel r28 (
                    bsel (!(r26 == r5)) (
                      some false) (
                      obind (w_heldFloat32S r21 1) fun (r29 : Int) =>
                      bsel (decide (r29 < 0)) (
                        some false) (
                        bsel (!decide (r29 = r20)) (
                          some false) (
                          some true)))) (
                    some false)))) (
              some false))) (
          some false))) (
      some false))
theorem w_FnExactSignsOf_ok (a0 : Int) (a1 : Int) (a2 : List F) (q0 : Bool) (h : w_FnExactSignsOf a0 a1 a2 = some q0) : Ev Try.prog 5 [AV.agg [AV.i64 a0, AV.i64 a1, AV.sl a2.length (a2.map AV.f32)]] [] (AV.b q0) [] := by
  refine Ev.start Try.func5 rfl rfl 4 (τ := [(0, AV.agg [AV.i64 a0, AV.i64 a1, AV.sl a2.length (a2.map AV.f32)])]) rfl (Γ' := [⟨0, none⟩, ⟨0, none⟩, ⟨0, none⟩, ⟨0, none⟩]) rfl (n := 193) rfl (g := 0) rfl (fun _ => rfl) ?_
  unfold w_FnExactSignsOf at h
  refine RunC.seq ?_
  refine RunC.regionW ?_
  refine ROps.d (r := AV.ptr [AV.i64 a0, AV.i64 a1, AV.sl a2.length (a2.map AV.f32)]) (fs := []) (Γ' := [⟨0, none⟩, ⟨0, none⟩, ⟨0, none⟩, ⟨0, none⟩]) rfl rfl rfl (TOp.box_s rfl rfl rfl) rfl ?_
  refine ROps.l (r := AV.b false) rfl rfl rfl (LOp.assign rfl rfl) ?_
  refine ROps.nil ?_
  refine RunC.seq ?_
  refine RunC.regionW ?_
  refine ROps.l (r := AV.i64 1048576) rfl rfl rfl (LOp.assign rfl rfl) ?_
  refine ROps.nil ?_
  refine RunC.seq ?_
  obtain ⟨r1, hf1, h⟩ := obind_some h
  refine RunC.regionW ?_
  refine ROps.l (r := AV.agg [AV.i64 a0, AV.i64 a1, AV.sl a2.length (a2.map AV.f32)]) rfl rfl rfl (LOp.loadAgg agg24 siz24 rfl rfl rfl rfl) ?_
  refine ROps.l (r := AV.i64 1048576) rfl rfl rfl (LOp.move rfl rfl) ?_
  refine ROps.d (r := AV.i64 r1) (fs := []) (Γ' := [⟨0, none⟩, ⟨0, none⟩, ⟨0, none⟩, ⟨0, none⟩]) rfl rfl rfl (TOp.callB (CallAs.func ent9 rfl rfl) (Bors.cons (Bor.agg (Bors.cons (Bor.pure rfl) (Bors.cons (Bor.pure rfl) (Bors.cons (Bor.sl (fun _ => rfl)) Bors.nil)))) (Bors.cons (Bor.pure rfl) Bors.nil)) rfl rfl (w_szMatrix_ok a0 a1 a2 1048576 r1 hf1)) rfl ?_
  refine ROps.l (r := AV.i64 r1) rfl rfl rfl (LOp.assign rfl rfl) ?_
  refine ROps.nil ?_
  refine RunC.seq ?_
  refine RunC.seq ?_
  rcases bsel_some h with ⟨hc2, h⟩ | ⟨hc2, h⟩
  · refine RunC.regionW ?_
    refine ROps.l (r := AV.i64 r1) rfl rfl rfl (LOp.move rfl rfl) ?_
    refine ROps.l (r := AV.b true) rfl rfl rfl (LOp.eqb (LOp.lss rfl rfl rfl) hc2) ?_
    refine ROps.nil ?_
    refine RunC.cond_true rfl rfl ?_
    refine RunC.seq ?_
    refine RunC.regionW ?_
    refine ROps.l (r := AV.b true) rfl rfl rfl (LOp.assign rfl rfl) ?_
    refine ROps.nil ?_
    refine RunC.ret ?_
    have hq := Option.some.inj h
    subst q0
    exact bodyQ.pure (.inr rfl) rfl (Res.one rfl (RV.tmp rfl))
  · refine RunC.regionW ?_
    refine ROps.l (r := AV.i64 r1) rfl rfl rfl (LOp.move rfl rfl) ?_
    refine ROps.l (r := AV.b false) rfl rfl rfl (LOp.eqb (LOp.lss rfl rfl rfl) hc2) ?_
    refine ROps.nil ?_
    refine RunC.cond_false rfl rfl ?_
    refine RunC.skip ?_
    refine RunC.seq ?_
    obtain ⟨r2, r3, r4, hf3, h⟩ := obind3_some h
    obtain ⟨r5, r6, hf4, h⟩ := obind2_some h
    refine RunC.regionW ?_
    refine ROps.l (r := AV.agg [AV.i64 a0, AV.i64 a1, AV.sl a2.length (a2.map AV.f32)]) rfl rfl rfl (LOp.loadAgg agg24 siz24 rfl rfl rfl rfl) ?_
    refine ROps.d (r := AV.agg [AV.i64 r2, AV.i64 r3, AV.oref 0 1 0 r4.length]) (fs := [(0, (r4.map AV.f32))]) (Γ' := [⟨1, some (r4.map AV.f32)⟩, ⟨0, none⟩, ⟨0, none⟩, ⟨0, none⟩]) rfl rfl rfl (TOp.callBN (ls := [(r4.map AV.f32)]) [0] (CallAs.func ent11 rfl rfl) (Bors.cons (Bor.agg (Bors.cons (Bor.pure rfl) (Bors.cons (Bor.pure rfl) (Bors.cons (Bor.sl (fun _ => rfl)) Bors.nil)))) Bors.nil) rfl (w_toMatrix_ok a0 a1 a2 r2 r3 r4 hf3) (and_all (lts0_map (f := AV.f32) (fun _ => rfl) _) rfl) (and_all (noss_map (f := AV.f32) (fun _ => rfl) _) rfl) rfl (by decide) (ns_of ⟨⟨_, rfl⟩, trivial⟩)) rfl ?_
    refine ROps.d (r := AV.tup [AV.oref 1 1 0 r6.length, AV.b r5]) (fs := [(1, (r6.map AV.f32))]) (Γ' := [⟨1, some (r4.map AV.f32)⟩, ⟨1, some (r6.map AV.f32)⟩, ⟨0, none⟩, ⟨0, none⟩]) rfl rfl rfl (TOp.callBN (ls := [(r6.map AV.f32)]) [1] (CallAs.func ent22 rfl rfl) (Bors.cons (Bor.agg (Bors.cons (Bor.pure rfl) (Bors.cons (Bor.pure rfl) (Bors.cons (Bor.own (f := AV.f32) (fun _ => rfl) rfl rfl) Bors.nil)))) Bors.nil) rfl (s_SignsOf_ok r2 r3 r4 r5 r6 hf4) (and_all (lts0_map (f := AV.f32) (fun _ => rfl) _) rfl) (and_all (noss_map (f := AV.f32) (fun _ => rfl) _) rfl) rfl (by decide) (ns_of ⟨⟨_, rfl⟩, trivial⟩)) rfl ?_
    refine ROps.l (r := AV.tup [AV.oref 1 1 0 r6.length, AV.b r5]) rfl rfl rfl (LOp.move rfl rfl) ?_
    refine ROps.l (r := AV.oref 1 1 0 r6.length) rfl rfl rfl (LOp.extract rfl rfl rfl) ?_
    refine ROps.l (r := AV.b r5) rfl rfl rfl (LOp.extract rfl rfl rfl) ?_
    refine ROps.l (r := AV.oref 1 1 0 r6.length) rfl rfl rfl (LOp.assign rfl rfl) ?_
    refine ROps.l (r := AV.b r5) rfl rfl rfl (LOp.assign rfl rfl) ?_
    refine ROps.nil ?_
    refine RunC.wl (τ' := [(1, AV.ptr [AV.i64 a0, AV.i64 a1, AV.sl a2.length (a2.map AV.f32)]), (4, AV.oref 1 1 0 r6.length), (5, AV.b r5)]) (Γ' := [⟨1, none⟩, ⟨1, some (r6.map AV.f32)⟩, ⟨0, none⟩, ⟨0, none⟩]) ⟨(ALe.refl _), (ALe.refl _), (ALe.refl _), trivial⟩ ⟨⟨rfl, .inl rfl⟩, ⟨rfl, .inr rfl⟩, ⟨rfl, .inr rfl⟩, ⟨rfl, .inr rfl⟩, trivial⟩ ?_
    refine RunC.seq ?_
    obtain ⟨r7, r8, r9, hf5, h⟩ := obind3_some h
    refine RunC.regionW ?_
    refine ROps.l (r := AV.agg [AV.i64 a0, AV.i64 a1, AV.sl a2.length (a2.map AV.f32)]) rfl rfl rfl (LOp.loadAgg agg24 siz24 rfl rfl rfl rfl) ?_
    refine ROps.d (r := AV.agg [AV.i64 r7, AV.i64 r8, AV.oref 0 2 0 r9.length]) (fs := [(0, (r9.map AV.f32))]) (Γ' := [⟨2, some (r9.map AV.f32)⟩, ⟨1, some (r6.map AV.f32)⟩, ⟨0, none⟩, ⟨0, none⟩]) rfl rfl rfl (TOp.callBN (ls := [(r9.map AV.f32)]) [0] (CallAs.func ent11 rfl rfl) (Bors.cons (Bor.agg (Bors.cons (Bor.pure rfl) (Bors.cons (Bor.pure rfl) (Bors.cons (Bor.sl (fun _ => rfl)) Bors.nil)))) Bors.nil) rfl (w_toMatrix_ok a0 a1 a2 r7 r8 r9 hf5) (and_all (lts0_map (f := AV.f32) (fun _ => rfl) _) rfl) (and_all (noss_map (f := AV.f32) (fun _ => rfl) _) rfl) rfl (by decide) (ns_of ⟨⟨_, rfl⟩, trivial⟩)) rfl ?_
    refine ROps.d (r := AV.optr 2 1 0) (fs := [(2, [AV.i64 0, AV.i64 0, AV.nilsl])]) (Γ' := [⟨2, some (r9.map AV.f32)⟩, ⟨1, some (r6.map AV.f32)⟩, ⟨1, some [AV.i64 0, AV.i64 0, AV.nilsl]⟩, ⟨0, none⟩]) rfl rfl rfl (TOp.alloc_o (g := ⟨0, none⟩) 2 rfl zer27 zok27 rfl) rfl ?_
    refine ROps.store_le (r := AV.agg [AV.i64 r7, AV.i64 r8, AV.oref 0 2 0 r9.length]) (l' := [AV.i64 r7, AV.i64 r8, AV.oref 0 2 0 r9.length]) (Γ' := [⟨2, some (r9.map AV.f32)⟩, ⟨1, some (r6.map AV.f32)⟩, ⟨1, some [AV.i64 r7, AV.i64 r8, AV.oref 0 2 0 r9.length]⟩, ⟨0, none⟩]) rfl siz27 rfl rfl rfl (ALe.refl _) rfl rfl rfl rfl (Nat.le_of_ble_eq_true rfl) rfl rfl ?_
    refine ROps.nil ?_
    refine RunC.seq ?_
    obtain ⟨r10, r11, hf6, h⟩ := obind2_some h
    refine RunC.regionW ?_
    refine ROps.d (r := AV.agg [AV.i64 r7, AV.i64 r8, AV.oref 0 2 0 r9.length]) (fs := []) (Γ' := [⟨2, some (r9.map AV.f32)⟩, ⟨1, some (r6.map AV.f32)⟩, ⟨1, some [AV.i64 r7, AV.i64 r8, AV.oref 0 2 0 r9.length]⟩, ⟨0, none⟩]) rfl rfl rfl (TOp.loadAgg_o rfl agg27 siz27 rfl rfl rfl rfl) rfl ?_
    refine ROps.d (r := AV.tup [AV.oref 3 1 0 r11.length, AV.b r10]) (fs := [(3, (r11.map AV.f32))]) (Γ' := [⟨2, some (r9.map AV.f32)⟩, ⟨1, some (r6.map AV.f32)⟩, ⟨1, some [AV.i64 r7, AV.i64 r8, AV.oref 0 2 0 r9.length]⟩, ⟨1, some (r11.map AV.f32)⟩]) rfl rfl rfl (TOp.callBN (ls := [(r11.map AV.f32)]) [3] (CallAs.func ent23 rfl rfl) (Bors.cons (Bor.agg (Bors.cons (Bor.pure rfl) (Bors.cons (Bor.pure rfl) (Bors.cons (Bor.own (f := AV.f32) (fun _ => rfl) rfl rfl) Bors.nil)))) Bors.nil) rfl (i_SignsOf_ok r7 r8 r9 r10 r11 hf6) (and_all (lts0_map (f := AV.f32) (fun _ => rfl) _) rfl) (and_all (noss_map (f := AV.f32) (fun _ => rfl) _) rfl) rfl (by decide) (ns_of ⟨⟨_, rfl⟩, trivial⟩)) rfl ?_
    refine ROps.l (r := AV.tup [AV.oref 3 1 0 r11.length, AV.b r10]) rfl rfl rfl (LOp.move rfl rfl) ?_
    refine ROps.l (r := AV.oref 3 1 0 r11.length) rfl rfl rfl (LOp.extract rfl rfl rfl) ?_
    refine ROps.l (r := AV.b r10) rfl rfl rfl (LOp.extract rfl rfl rfl) ?_
    refine ROps.l (r := AV.oref 3 1 0 r11.length) rfl rfl rfl (LOp.assign rfl rfl) ?_
    refine ROps.l (r := AV.b r10) rfl rfl rfl (LOp.assign rfl rfl) ?_
    refine ROps.nil ?_
    refine RunC.seq ?_
    refine RunC.seq ?_
    obtain ⟨r12, hf7, h⟩ := obind_some h
    rcases bsel_some h with ⟨hc8, h⟩ | ⟨hc8, h⟩
    · rcases bsel_some h with ⟨hc9, h⟩ | ⟨hc9, h⟩
      · refine RunC.regionW ?_
        refine ROps.l (r := AV.oref 3 1 0 r11.length) rfl rfl rfl (LOp.move rfl rfl) ?_
        refine ROps.l (r := AV.oref 1 1 0 r6.length) rfl rfl rfl (LOp.move rfl rfl) ?_
        refine ROps.d (r := AV.b true) (fs := []) (Γ' := [⟨2, some (r9.map AV.f32)⟩, ⟨1, some (r6.map AV.f32)⟩, ⟨1, some [AV.i64 r7, AV.i64 r8, AV.oref 0 2 0 r9.length]⟩, ⟨1, some (r11.map AV.f32)⟩]) rfl rfl rfl (TOp.eqb (TOp.callB (CallAs.func ent24 rfl rfl) (Bors.cons (Bor.own (f := AV.f32) (fun _ => rfl) rfl rfl) (Bors.cons (Bor.own (f := AV.f32) (fun _ => rfl) rfl rfl) Bors.nil)) rfl rfl (w_eqFloat32S_ok r11 r6 r12 hf7)) hc8) rfl ?_
        refine ROps.l (r := AV.b false) rfl rfl rfl (LOp.eqb (LOp.not rfl rfl) rfl) ?_
        refine ROps.l (r := AV.b false) rfl rfl rfl (LOp.move rfl rfl) ?_
        refine ROps.l (r := AV.b r10) rfl rfl rfl (LOp.move rfl rfl) ?_
        refine ROps.l (r := AV.b r5) rfl rfl rfl (LOp.move rfl rfl) ?_
        refine ROps.l (r := AV.b true) rfl rfl rfl (LOp.eqb (LOp.neqb pun4 rfl rfl rfl) hc9) ?_
        refine ROps.l (r := AV.b true) rfl rfl rfl (LOp.pick_false rfl rfl rfl) ?_
        refine ROps.nil ?_
        refine RunC.cond_true rfl rfl ?_
        refine RunC.seq ?_
        refine RunC.regionW ?_
        refine ROps.l (r := AV.b false) rfl rfl rfl (LOp.assign rfl rfl) ?_
        refine ROps.nil ?_
        refine RunC.ret ?_
        have hq := Option.some.inj h
        subst q0
        exact bodyQ.pure (.inr rfl) rfl (Res.one rfl (RV.tmp rfl))
      · refine RunC.regionW ?_
        refine ROps.l (r := AV.oref 3 1 0 r11.length) rfl rfl rfl (LOp.move rfl rfl) ?_
        refine ROps.l (r := AV.oref 1 1 0 r6.length) rfl rfl rfl (LOp.move rfl rfl) ?_
        refine ROps.d (r := AV.b true) (fs := []) (Γ' := [⟨2, some (r9.map AV.f32)⟩, ⟨1, some (r6.map AV.f32)⟩, ⟨1, some [AV.i64 r7, AV.i64 r8, AV.oref 0 2 0 r9.length]⟩, ⟨1, some (r11.map AV.f32)⟩]) rfl rfl rfl (TOp.eqb (TOp.callB (CallAs.func ent24 rfl rfl) (Bors.cons (Bor.own (f := AV.f32) (fun _ => rfl) rfl rfl) (Bors.cons (Bor.own (f := AV.f32) (fun _ => rfl) rfl rfl) Bors.nil)) rfl rfl (w_eqFloat32S_ok r11 r6 r12 hf7)) hc8) rfl ?_
        refine ROps.l (r := AV.b false) rfl rfl rfl (LOp.eqb (LOp.not rfl rfl) rfl) ?_
        refine ROps.l (r := AV.b false) rfl rfl rfl (LOp.move rfl rfl) ?_
        refine ROps.l (r := AV.b r10) rfl rfl rfl (LOp.move rfl rfl) ?_
        refine ROps.l (r := AV.b r5) rfl rfl rfl (LOp.move rfl rfl) ?_
        refine ROps.l (r := AV.b false) rfl rfl rfl (LOp.eqb (LOp.neqb pun4 rfl rfl rfl) hc9) ?_
        refine ROps.l (r := AV.b false) rfl rfl rfl (LOp.pick_false rfl rfl rfl) ?_
        refine ROps.nil ?_
        refine RunC.cond_false rfl rfl ?_
        refine RunC.skip ?_
        refine RunC.seq ?_
        refine RunC.seq ?_
        obtain ⟨r13, r14, r15, hf10, h⟩ := obind3_some h
        obtain ⟨r16, hf11, h⟩ := obind_some h
        rcases bsel_some h with ⟨hc12, h⟩ | ⟨hc12, h⟩
        · refine RunC.region_draw (Γ' := [⟨2, some (r9.map AV.f32)⟩, ⟨1, some (r6.map AV.f32)⟩, ⟨1, some [AV.i64 r7, AV.i64 r8, AV.oref 0 2 0 r9.length]⟩, ⟨1, some (r11.map AV.f32)⟩]) 5 mixed 
            (TR.d (r := AV.agg [AV.i64 r7, AV.i64 r8, AV.oref 0 2 0 r9.length]) (fs := []) rfl rfl (TOp.loadAgg_o rfl agg27 siz27 rfl rfl rfl rfl) <|
            (TR.l (r := AV.agg [AV.i64 a0, AV.i64 a1, AV.sl a2.length (a2.map AV.f32)]) rfl rfl (LOp.loadAgg agg24 siz24 rfl rfl rfl rfl) <|
            (TR.d (r := AV.agg [AV.i64 r13, AV.i64 r14, AV.sl r15.length (r15.map AV.f32)]) (fs := []) rfl rfl (TOp.callS (CallAs.func ent11 rfl rfl) (ALes.cons (ALe.refl _) ALes.nil) (lts_cons (lt_agg (lts_cons rfl (lts_cons rfl (lts_cons (lt_sl (fun _ => rfl)) lts_nil)))) lts_nil) (lt_agg (lts_cons rfl (lts_cons rfl (lts_cons (lt_sl (fun _ => rfl)) lts_nil)))) (w_toMatrix_ok a0 a1 a2 r13 r14 r15 hf10) (Bor.agg (Bors.cons (Bor.pure rfl) (Bors.cons (Bor.pure rfl) (Bors.cons (Bor.own (f := AV.f32) (fun _ => rfl) rfl rfl) Bors.nil))))) <|
            (TR.d (r := AV.b true) (fs := []) rfl rfl (TOp.eqb (TOp.callB (CallAs.func ent13 rfl rfl) (Bors.cons (Bor.agg (Bors.cons (Bor.pure rfl) (Bors.cons (Bor.pure rfl) (Bors.cons (Bor.own (f := AV.f32) (fun _ => rfl) rfl rfl) Bors.nil)))) (Bors.cons (Bor.agg (Bors.cons (Bor.pure rfl) (Bors.cons (Bor.pure rfl) (Bors.cons (Bor.sl (fun _ => rfl)) Bors.nil)))) Bors.nil)) rfl rfl (w_eqMatrix_ok r7 r8 r9 r13 r14 r15 r16 hf11)) hc12) <|
            (TR.l (r := AV.b false) rfl rfl (LOp.eqb (LOp.not rfl rfl) rfl) <|
            TR.nil))))) rfl (by kernel_rfl) rfl fills_nil rfl ?_
          iterate 5 refine ROps.dropS ?_
          refine ROps.drop0 ?_
          refine ROps.nil ?_
          refine RunC.cond_false rfl rfl ?_
          refine RunC.skip ?_
          refine RunC.seq ?_
          refine RunC.regionW ?_
          refine ROps.l (r := AV.i64 1) rfl rfl rfl (LOp.assign rfl rfl) ?_
          refine ROps.nil ?_
          refine RunC.seq ?_
          obtain ⟨r17, r18, hf13, h⟩ := obind2_some h
          obtain ⟨hn14, h⟩ := need_some h
          refine RunC.regionW ?_
          refine ROps.d (r := AV.agg [AV.i64 r7, AV.i64 r8, AV.oref 0 2 0 r9.length]) (fs := []) (Γ' := [⟨2, some (r9.map AV.f32)⟩, ⟨1, some (r6.map AV.f32)⟩, ⟨1, some [AV.i64 r7, AV.i64 r8, AV.oref 0 2 0 r9.length]⟩, ⟨1, some (r11.map AV.f32)⟩]) rfl rfl rfl (TOp.loadAgg_o rfl agg27 siz27 rfl rfl rfl rfl) rfl ?_
          refine ROps.l (r := AV.i64 1) rfl rfl rfl (LOp.move rfl rfl) ?_
          refine ROps.callO (A := [AV.agg [AV.i64 r7, AV.i64 r8, AV.oref 0 2 0 r9.length], AV.i64 1]) (args := [AV.agg [AV.i64 r7, AV.i64 r8, AV.oref 0 0 0 r9.length], AV.i64 1]) (Γc := [⟨0, some (r9.map AV.f32)⟩]) (Γc' := [⟨0, some (r18.map AV.f32)⟩]) (r' := AV.i64 r17) (Γ' := [⟨2, some (r18.map AV.f32)⟩, ⟨1, some (r6.map AV.f32)⟩, ⟨1, some [AV.i64 r7, AV.i64 r8, AV.oref 0 2 0 r9.length]⟩, ⟨1, some (r11.map AV.f32)⟩]) [(0, 2)] [] rfl (CallAs.func ent15 rfl rfl) rfl rfl (SelOk.of (show List.Nodup [0] from by decide) (SelL.arr0 (f := AV.f32) (fun _ => rfl) rfl trivial)) (live_of ⟨⟨_, _, rfl⟩, trivial⟩) (by simp [AV.ren, AV.rens, sigma, rens_f32, rens_f64, rens_i64, rens_ik, rens_str, rens_cp]) rfl (w_markMatrix_02o_ok r7 r8 1 r9 r17 r18 hf13) rfl (news_of trivial) (show List.Nodup [0] from by decide) (by simp [AV.ren, AV.rens, sigma, of_decide_eq_true hn14]) (by simp [backOb, sigma, AV.ren, AV.rens, rens_f32, rens_f64, rens_i64, rens_ik, rens_str, rens_cp]) ?_
          refine ROps.l (r := AV.i64 r17) rfl rfl rfl (LOp.assign rfl rfl) ?_
          refine ROps.nil ?_
          refine RunC.wl (τ' := [(1, AV.ptr [AV.i64 a0, AV.i64 a1, AV.sl a2.length (a2.map AV.f32)]), (4, AV.oref 1 1 0 r6.length), (5, AV.b r5), (7, AV.oref 3 1 0 r11.length), (8, AV.b r10), (9, AV.i64 r17)]) (Γ' := [⟨2, none⟩, ⟨1, some (r6.map AV.f32)⟩, ⟨1, none⟩, ⟨1, some (r11.map AV.f32)⟩]) ⟨(ALe.refl _), (ALe.refl _), (ALe.refl _), (ALe.refl _), (ALe.refl _), (ALe.refl _), trivial⟩ ⟨⟨rfl, .inl rfl⟩, ⟨rfl, .inr rfl⟩, ⟨rfl, .inl rfl⟩, ⟨rfl, .inr rfl⟩, trivial⟩ ?_
          refine RunC.seq ?_
          refine RunC.seq ?_
          rcases bsel_some h with ⟨hc15, h⟩ | ⟨hc15, h⟩
          · refine RunC.regionW ?_
            refine ROps.l (r := AV.i64 r17) rfl rfl rfl (LOp.move rfl rfl) ?_
            refine ROps.l (r := AV.b true) rfl rfl rfl (LOp.eqb (LOp.lss rfl rfl rfl) hc15) ?_
            refine ROps.l (r := AV.b true) rfl rfl rfl (LOp.move rfl rfl) ?_
            refine ROps.s rfl rfl rfl ?_
            refine ROps.s rfl rfl rfl ?_
            refine ROps.s rfl rfl rfl ?_
            refine ROps.s rfl rfl rfl ?_
            refine ROps.l (r := AV.b true) rfl rfl rfl (LOp.pick_true rfl rfl rfl) ?_
            refine ROps.l (r := AV.b true) rfl rfl rfl (LOp.move rfl rfl) ?_
            refine ROps.s rfl rfl rfl ?_
            refine ROps.s rfl rfl rfl ?_
            refine ROps.s rfl rfl rfl ?_
            refine ROps.l (r := AV.b true) rfl rfl rfl (LOp.pick_true rfl rfl rfl) ?_
            refine ROps.nil ?_
            refine RunC.cond_true rfl rfl ?_
            refine RunC.seq ?_
            refine RunC.regionW ?_
            refine ROps.l (r := AV.b false) rfl rfl rfl (LOp.assign rfl rfl) ?_
            refine ROps.nil ?_
            refine RunC.ret ?_
            have hq := Option.some.inj h
            subst q0
            exact bodyQ.pure (.inr rfl) rfl (Res.one rfl (RV.tmp rfl))
          · obtain ⟨r19, hf16, h⟩ := obind_some h
            rcases bsel_some h with ⟨hc17, h⟩ | ⟨hc17, h⟩
            · refine RunC.regionW ?_
              refine ROps.l (r := AV.i64 r17) rfl rfl rfl (LOp.move rfl rfl) ?_
              refine ROps.l (r := AV.b false) rfl rfl rfl (LOp.eqb (LOp.lss rfl rfl rfl) hc15) ?_
              refine ROps.l (r := AV.b false) rfl rfl rfl (LOp.move rfl rfl) ?_
              refine ROps.l (r := AV.oref 3 1 0 r11.length) rfl rfl rfl (LOp.move rfl rfl) ?_
              refine ROps.l (r := AV.oref 1 1 0 r6.length) rfl rfl rfl (LOp.move rfl rfl) ?_
              refine ROps.d (r := AV.b true) (fs := []) (Γ' := [⟨2, none⟩, ⟨1, some (r6.map AV.f32)⟩, ⟨1, none⟩, ⟨1, some (r11.map AV.f32)⟩]) rfl rfl rfl (TOp.eqb (TOp.callB (CallAs.func ent24 rfl rfl) (Bors.cons (Bor.own (f := AV.f32) (fun _ => rfl) rfl rfl) (Bors.cons (Bor.own (f := AV.f32) (fun _ => rfl) rfl rfl) Bors.nil)) rfl rfl (w_eqFloat32S_ok r11 r6 r19 hf16)) hc17) rfl ?_
              refine ROps.l (r := AV.b false) rfl rfl rfl (LOp.eqb (LOp.not rfl rfl) rfl) ?_
              refine ROps.l (r := AV.b false) rfl rfl rfl (LOp.pick_false rfl rfl rfl) ?_
              refine ROps.l (r := AV.b false) rfl rfl rfl (LOp.move rfl rfl) ?_
              refine ROps.l (r := AV.b r10) rfl rfl rfl (LOp.move rfl rfl) ?_
              refine ROps.l (r := AV.b r5) rfl rfl rfl (LOp.move rfl rfl) ?_
              refine ROps.l (r := AV.b false) rfl rfl rfl (LOp.eqb (LOp.neqb pun4 rfl rfl rfl) hc9) ?_
              refine ROps.l (r := AV.b false) rfl rfl rfl (LOp.pick_false rfl rfl rfl) ?_
              refine ROps.nil ?_
              refine RunC.cond_false rfl rfl ?_
              refine RunC.skip ?_
              refine RunC.seq ?_
              refine RunC.regionW ?_
              refine ROps.l (r := AV.i64 1) rfl rfl rfl (LOp.assign rfl rfl) ?_
              refine ROps.nil ?_
              refine RunC.seq ?_
              obtain ⟨r20, r21, hf18, h⟩ := obind2_some h
              obtain ⟨hn19, h⟩ := need_some h
              refine RunC.regionW ?_
              refine ROps.l (r := AV.oref 3 1 0 r11.length) rfl rfl rfl (LOp.move rfl rfl) ?_
              refine ROps.l (r := AV.i64 1) rfl rfl rfl (LOp.move rfl rfl) ?_
              refine ROps.callO (A := [AV.oref 3 1 0 r11.length, AV.i64 1]) (args := [AV.oref 0 0 0 r11.length, AV.i64 1]) (Γc := [⟨0, some (r11.map AV.f32)⟩]) (Γc' := [⟨0, some (r21.map AV.f32)⟩]) (r' := AV.i64 r20) (Γ' := [⟨2, none⟩, ⟨1, some (r6.map AV.f32)⟩, ⟨1, none⟩, ⟨1, some (r21.map AV.f32)⟩]) [(3, 1)] [] rfl (CallAs.func ent25 rfl rfl) rfl rfl (SelOk.of (show List.Nodup [3] from by decide) (SelL.arr0 (f := AV.f32) (fun _ => rfl) rfl trivial)) (live_of ⟨⟨_, _, rfl⟩, trivial⟩) (by simp [AV.ren, AV.rens, sigma, rens_f32, rens_f64, rens_i64, rens_ik, rens_str, rens_cp]) rfl (w_markFloat32S_0o_ok 1 r11 r20 r21 hf18) rfl (news_of trivial) (show List.Nodup [3] from by decide) (by simp [AV.ren, AV.rens, sigma, of_decide_eq_true hn19]) (by simp [backOb, sigma, AV.ren, AV.rens, rens_f32, rens_f64, rens_i64, rens_ik, rens_str, rens_cp]) ?_
              refine ROps.l (r := AV.i64 r20) rfl rfl rfl (LOp.assign rfl rfl) ?_
              refine ROps.nil ?_
              refine RunC.wl (τ' := [(1, AV.ptr [AV.i64 a0, AV.i64 a1, AV.sl a2.length (a2.map AV.f32)]), (4, AV.oref 1 1 0 r6.length), (5, AV.b r5), (7, AV.oref 3 1 0 r11.length), (10, AV.i64 r20)]) (Γ' := [⟨2, none⟩, ⟨1, some (r6.map AV.f32)⟩, ⟨1, none⟩, ⟨1, some (r21.map AV.f32)⟩]) ⟨(ALe.refl _), (ALe.refl _), (ALe.refl _), (ALe.refl _), (ALe.refl _), trivial⟩ ⟨⟨rfl, .inl rfl⟩, ⟨rfl, .inr rfl⟩, ⟨rfl, .inl rfl⟩, ⟨rfl, .inr rfl⟩, trivial⟩ ?_
              refine RunC.seq ?_
              refine RunC.regionW ?_
              refine ROps.l (r := AV.i64 1) rfl rfl rfl (LOp.assign rfl rfl) ?_
              refine ROps.nil ?_
              refine RunC.seq ?_
              obtain ⟨r22, hf20, h⟩ := obind_some h
              refine RunC.regionW ?_
              refine ROps.l (r := AV.oref 3 1 0 r11.length) rfl rfl rfl (LOp.move rfl rfl) ?_
              refine ROps.l (r := AV.i64 1) rfl rfl rfl (LOp.move rfl rfl) ?_
              refine ROps.d (r := AV.i64 r22) (fs := []) (Γ' := [⟨2, none⟩, ⟨1, some (r6.map AV.f32)⟩, ⟨1, none⟩, ⟨1, some (r21.map AV.f32)⟩]) rfl rfl rfl (TOp.callB (CallAs.func ent26 rfl rfl) (Bors.cons (Bor.own (f := AV.f32) (fun _ => rfl) rfl (of_decide_eq_true hn19)) (Bors.cons (Bor.pure rfl) Bors.nil)) rfl rfl (w_heldFloat32S_ok r21 1 r22 hf20)) rfl ?_
              refine ROps.l (r := AV.i64 r22) rfl rfl rfl (LOp.assign rfl rfl) ?_
              refine ROps.nil ?_
              refine RunC.seq ?_
              refine RunC.seq ?_
              rcases bsel_some h with ⟨hc21, h⟩ | ⟨hc21, h⟩
              · refine RunC.regionW ?_
                refine ROps.l (r := AV.i64 r22) rfl rfl rfl (LOp.move rfl rfl) ?_
                refine ROps.l (r := AV.b true) rfl rfl rfl (LOp.eqb (LOp.lss rfl rfl rfl) hc21) ?_
                refine ROps.nil ?_
                refine RunC.cond_true rfl rfl ?_
                refine RunC.seq ?_
                refine RunC.regionW ?_
                refine ROps.l (r := AV.b false) rfl rfl rfl (LOp.assign rfl rfl) ?_
                refine ROps.nil ?_
                refine RunC.ret ?_
                have hq := Option.some.inj h
                subst q0
                exact bodyQ.pure (.inr rfl) rfl (Res.one rfl (RV.tmp rfl))
              · refine RunC.regionW ?_
                refine ROps.l (r := AV.i64 r22) rfl rfl rfl (LOp.move rfl rfl) ?_
                refine ROps.l (r := AV.b false) rfl rfl rfl (LOp.eqb (LOp.lss rfl rfl rfl) hc21) ?_
                refine ROps.nil ?_
                refine RunC.cond_false rfl rfl ?_
                refine RunC.skip ?_
                refine RunC.seq ?_
                refine RunC.seq ?_
                rcases bsel_some h with ⟨hc22, h⟩ | ⟨hc22, h⟩
                · refine RunC.regionW ?_
                  refine ROps.l (r := AV.i64 r22) rfl rfl rfl (LOp.move rfl rfl) ?_
                  refine ROps.l (r := AV.i64 r20) rfl rfl rfl (LOp.move rfl rfl) ?_
                  refine ROps.l (r := AV.b true) rfl rfl rfl (LOp.eqb (LOp.neq rfl rfl rfl) hc22) ?_
                  refine ROps.nil ?_
                  refine RunC.cond_true rfl rfl ?_
                  refine RunC.seq ?_
                  refine RunC.regionW ?_
                  refine ROps.l (r := AV.b false) rfl rfl rfl (LOp.assign rfl rfl) ?_
                  refine ROps.nil ?_
                  refine RunC.ret ?_
                  have hq := Option.some.inj h
                  subst q0
                  exact bodyQ.pure (.inr rfl) rfl (Res.one rfl (RV.tmp rfl))
                · refine RunC.regionW ?_
                  refine ROps.l (r := AV.i64 r22) rfl rfl rfl (LOp.move rfl rfl) ?_
                  refine ROps.l (r := AV.i64 r20) rfl rfl rfl (LOp.move rfl rfl) ?_
                  refine ROps.l (r := AV.b false) rfl rfl rfl (LOp.eqb (LOp.neq rfl rfl rfl) hc22) ?_
                  refine ROps.nil ?_
                  refine RunC.cond_false rfl rfl ?_
                  refine RunC.skip ?_
                  refine RunC.seq ?_
                  obtain ⟨r23, r24, r25, hf23, h⟩ := obind3_some h
                  obtain ⟨r26, r27, hf24, h⟩ := obind2_some h
                  refine RunC.regionW ?_
                  refine ROps.l (r := AV.agg [AV.i64 a0, AV.i64 a1, AV.sl a2.length (a2.map AV.f32)]) rfl rfl rfl (LOp.loadAgg agg24 siz24 rfl rfl rfl rfl) ?_
                  refine ROps.d (r := AV.agg [AV.i64 r23, AV.i64 r24, AV.oref 0 3 0 r25.length]) (fs := [(0, (r25.map AV.f32))]) (Γ' := [⟨3, some (r25.map AV.f32)⟩, ⟨1, some (r6.map AV.f32)⟩, ⟨1, none⟩, ⟨1, some (r21.map AV.f32)⟩]) rfl rfl rfl (TOp.callBN (ls := [(r25.map AV.f32)]) [0] (CallAs.func ent11 rfl rfl) (Bors.cons (Bor.agg (Bors.cons (Bor.pure rfl) (Bors.cons (Bor.pure rfl) (Bors.cons (Bor.sl (fun _ => rfl)) Bors.nil)))) Bors.nil) rfl (w_toMatrix_ok a0 a1 a2 r23 r24 r25 hf23) (and_all (lts0_map (f := AV.f32) (fun _ => rfl) _) rfl) (and_all (noss_map (f := AV.f32) (fun _ => rfl) _) rfl) rfl (by decide) (ns_of ⟨⟨_, rfl⟩, trivial⟩)) rfl ?_
                  refine ROps.d (r := AV.tup [AV.oref 2 2 0 r27.length, AV.b r26]) (fs := [(2, (r27.map AV.f32))]) (Γ' := [⟨3, some (r25.map AV.f32)⟩, ⟨1, some (r6.map AV.f32)⟩, ⟨2, some (r27.map AV.f32)⟩, ⟨1, some (r21.map AV.f32)⟩]) rfl rfl rfl (TOp.callBN (ls := [(r27.map AV.f32)]) [2] (CallAs.func ent23 rfl rfl) (Bors.cons (Bor.agg (Bors.cons (Bor.pure rfl) (Bors.cons (Bor.pure rfl) (Bors.cons (Bor.own (f := AV.f32) (fun _ => rfl) rfl rfl) Bors.nil)))) Bors.nil) rfl (i_SignsOf_ok r23 r24 r25 r26 r27 hf24) (and_all (lts0_map (f := AV.f32) (fun _ => rfl) _) rfl) (and_all (noss_map (f := AV.f32) (fun _ => rfl) _) rfl) rfl (by decide) (ns_of ⟨⟨_, rfl⟩, trivial⟩)) rfl ?_
                  refine ROps.l (r := AV.tup [AV.oref 2 2 0 r27.length, AV.b r26]) rfl rfl rfl (LOp.move rfl rfl) ?_
                  refine ROps.l (r := AV.oref 2 2 0 r27.length) rfl rfl rfl (LOp.extract rfl rfl rfl) ?_
                  refine ROps.l (r := AV.b r26) rfl rfl rfl (LOp.extract rfl rfl rfl) ?_
                  refine ROps.l (r := AV.oref 2 2 0 r27.length) rfl rfl rfl (LOp.assign rfl rfl) ?_
                  refine ROps.l (r := AV.b r26) rfl rfl rfl (LOp.assign rfl rfl) ?_
                  refine ROps.nil ?_
                  refine RunC.wl (τ' := [(4, AV.oref 1 1 0 r6.length), (5, AV.b r5), (7, AV.oref 3 1 0 r11.length), (10, AV.i64 r20), (12, AV.oref 2 2 0 r27.length), (13, AV.b r26)]) (Γ' := [⟨3, none⟩, ⟨1, some (r6.map AV.f32)⟩, ⟨2, some (r27.map AV.f32)⟩, ⟨1, some (r21.map AV.f32)⟩]) ⟨(ALe.refl _), (ALe.refl _), (ALe.refl _), (ALe.refl _), (ALe.refl _), (ALe.refl _), trivial⟩ ⟨⟨rfl, .inl rfl⟩, ⟨rfl, .inr rfl⟩, ⟨rfl, .inr rfl⟩, ⟨rfl, .inr rfl⟩, trivial⟩ ?_
                  refine RunC.seq ?_
                  refine RunC.seq ?_
                  obtain ⟨r28, hf25, h⟩ := obind_some h
                  rcases bsel_some h with ⟨hc26, h⟩ | ⟨hc26, h⟩
                  · rcases bsel_some h with ⟨hc27, h⟩ | ⟨hc27, h⟩
                    · refine RunC.regionW ?_
                      refine ROps.l (r := AV.oref 2 2 0 r27.length) rfl rfl rfl (LOp.move rfl rfl) ?_
                      refine ROps.l (r := AV.oref 1 1 0 r6.length) rfl rfl rfl (LOp.move rfl rfl) ?_
                      refine ROps.d (r := AV.b true) (fs := []) (Γ' := [⟨3, none⟩, ⟨1, some (r6.map AV.f32)⟩, ⟨2, some (r27.map AV.f32)⟩, ⟨1, some (r21.map AV.f32)⟩]) rfl rfl rfl (TOp.eqb (TOp.callB (CallAs.func ent24 rfl rfl) (Bors.cons (Bor.own (f := AV.f32) (fun _ => rfl) rfl rfl) (Bors.cons (Bor.own (f := AV.f32) (fun _ => rfl) rfl rfl) Bors.nil)) rfl rfl (w_eqFloat32S_ok r27 r6 r28 hf25)) hc26) rfl ?_
                      refine ROps.l (r := AV.b false) rfl rfl rfl (LOp.eqb (LOp.not rfl rfl) rfl) ?_
                      refine ROps.l (r := AV.b false) rfl rfl rfl (LOp.move rfl rfl) ?_
                      refine ROps.l (r := AV.b r26) rfl rfl rfl (LOp.move rfl rfl) ?_
                      refine ROps.l (r := AV.b r5) rfl rfl rfl (LOp.move rfl rfl) ?_
                      refine ROps.l (r := AV.b true) rfl rfl rfl (LOp.eqb (LOp.neqb pun4 rfl rfl rfl) hc27) ?_
                      refine ROps.l (r := AV.b true) rfl rfl rfl (LOp.pick_false rfl rfl rfl) ?_
                      refine ROps.nil ?_
                      refine RunC.wl (τ' := [(7, AV.oref 3 1 0 r11.length), (10, AV.i64 r20), (87, AV.b true)]) (Γ' := [⟨3, none⟩, ⟨1, none⟩, ⟨2, none⟩, ⟨1, some (r21.map AV.f32)⟩]) ⟨(ALe.refl _), (ALe.refl _), (ALe.refl _), trivial⟩ ⟨⟨rfl, .inl rfl⟩, ⟨rfl, .inl rfl⟩, ⟨rfl, .inl rfl⟩, ⟨rfl, .inr rfl⟩, trivial⟩ ?_
                      refine RunC.cond_true rfl rfl ?_
                      refine RunC.seq ?_
                      refine RunC.regionW ?_
                      refine ROps.l (r := AV.b false) rfl rfl rfl (LOp.assign rfl rfl) ?_
                      refine ROps.nil ?_
                      refine RunC.ret ?_
                      have hq := Option.some.inj h
                      subst q0
                      exact bodyQ.pure (.inr rfl) rfl (Res.one rfl (RV.tmp rfl))
                    · refine RunC.regionW ?_
                      refine ROps.l (r := AV.oref 2 2 0 r27.length) rfl rfl rfl (LOp.move rfl rfl) ?_
                      refine ROps.l (r := AV.oref 1 1 0 r6.length) rfl rfl rfl (LOp.move rfl rfl) ?_
                      refine ROps.d (r := AV.b true) (fs := []) (Γ' := [⟨3, none⟩, ⟨1, some (r6.map AV.f32)⟩, ⟨2, some (r27.map AV.f32)⟩, ⟨1, some (r21.map AV.f32)⟩]) rfl rfl rfl (TOp.eqb (TOp.callB (CallAs.func ent24 rfl rfl) (Bors.cons (Bor.own (f := AV.f32) (fun _ => rfl) rfl rfl) (Bors.cons (Bor.own (f := AV.f32) (fun _ => rfl) rfl rfl) Bors.nil)) rfl rfl (w_eqFloat32S_ok r27 r6 r28 hf25)) hc26) rfl ?_
                      refine ROps.l (r := AV.b false) rfl rfl rfl (LOp.eqb (LOp.not rfl rfl) rfl) ?_
                      refine ROps.l (r := AV.b false) rfl rfl rfl (LOp.move rfl rfl) ?_
                      refine ROps.l (r := AV.b r26) rfl rfl rfl (LOp.move rfl rfl) ?_
                      refine ROps.l (r := AV.b r5) rfl rfl rfl (LOp.move rfl rfl) ?_
                      refine ROps.l (r := AV.b false) rfl rfl rfl (LOp.eqb (LOp.neqb pun4 rfl rfl rfl) hc27) ?_
                      refine ROps.l (r := AV.b false) rfl rfl rfl (LOp.pick_false rfl rfl rfl) ?_
                      refine ROps.nil ?_
                      refine RunC.wl (τ' := [(7, AV.oref 3 1 0 r11.length), (10, AV.i64 r20), (87, AV.b false)]) (Γ' := [⟨3, none⟩, ⟨1, none⟩, ⟨2, none⟩, ⟨1, some (r21.map AV.f32)⟩]) ⟨(ALe.refl _), (ALe.refl _), (ALe.refl _), trivial⟩ ⟨⟨rfl, .inl rfl⟩, ⟨rfl, .inl rfl⟩, ⟨rfl, .inl rfl⟩, ⟨rfl, .inr rfl⟩, trivial⟩ ?_
                      refine RunC.cond_false rfl rfl ?_
                      refine RunC.skip ?_
                      refine RunC.seq ?_
                      refine RunC.regionW ?_
                      refine ROps.l (r := AV.i64 1) rfl rfl rfl (LOp.assign rfl rfl) ?_
                      refine ROps.nil ?_
                      refine RunC.seq ?_
                      obtain ⟨r29, hf28, h⟩ := obind_some h
                      refine RunC.regionW ?_
                      refine ROps.l (r := AV.oref 3 1 0 r11.length) rfl rfl rfl (LOp.move rfl rfl) ?_
                      refine ROps.l (r := AV.i64 1) rfl rfl rfl (LOp.move rfl rfl) ?_
                      refine ROps.d (r := AV.i64 r29) (fs := []) (Γ' := [⟨3, none⟩, ⟨1, none⟩, ⟨2, none⟩, ⟨1, some (r21.map AV.f32)⟩]) rfl rfl rfl (TOp.callB (CallAs.func ent26 rfl rfl) (Bors.cons (Bor.own (f := AV.f32) (fun _ => rfl) rfl (of_decide_eq_true hn19)) (Bors.cons (Bor.pure rfl) Bors.nil)) rfl rfl (w_heldFloat32S_ok r21 1 r29 hf28)) rfl ?_
                      refine ROps.l (r := AV.i64 r29) rfl rfl rfl (LOp.assign rfl rfl) ?_
                      refine ROps.nil ?_
                      refine RunC.wl (τ' := [(10, AV.i64 r20), (11, AV.i64 r29)]) (Γ' := [⟨3, none⟩, ⟨1, none⟩, ⟨2, none⟩, ⟨1, none⟩]) ⟨(ALe.refl _), (ALe.refl _), trivial⟩ ⟨⟨rfl, .inl rfl⟩, ⟨rfl, .inl rfl⟩, ⟨rfl, .inl rfl⟩, ⟨rfl, .inl rfl⟩, trivial⟩ ?_
                      refine RunC.seq ?_
                      refine RunC.seq ?_
                      rcases bsel_some h with ⟨hc29, h⟩ | ⟨hc29, h⟩
                      · refine RunC.regionW ?_
                        refine ROps.l (r := AV.i64 r29) rfl rfl rfl (LOp.move rfl rfl) ?_
                        refine ROps.l (r := AV.b true) rfl rfl rfl (LOp.eqb (LOp.lss rfl rfl rfl) hc29) ?_
                        refine ROps.nil ?_
                        refine RunC.cond_true rfl rfl ?_
                        refine RunC.seq ?_
                        refine RunC.regionW ?_
                        refine ROps.l (r := AV.b false) rfl rfl rfl (LOp.assign rfl rfl) ?_
                        refine ROps.nil ?_
                        refine RunC.ret ?_
                        have hq := Option.some.inj h
                        subst q0
                        exact bodyQ.pure (.inr rfl) rfl (Res.one rfl (RV.tmp rfl))
                      · refine RunC.regionW ?_
                        refine ROps.l (r := AV.i64 r29) rfl rfl rfl (LOp.move rfl rfl) ?_
                        refine ROps.l (r := AV.b false) rfl rfl rfl (LOp.eqb (LOp.lss rfl rfl rfl) hc29) ?_
                        refine ROps.nil ?_
                        refine RunC.cond_false rfl rfl ?_
                        refine RunC.skip ?_
                        refine RunC.seq ?_
                        refine RunC.seq ?_
                        rcases bsel_some h with ⟨hc30, h⟩ | ⟨hc30, h⟩
                        · refine RunC.regionW ?_
                          refine ROps.l (r := AV.i64 r29) rfl rfl rfl (LOp.move rfl rfl) ?_
                          refine ROps.l (r := AV.i64 r20) rfl rfl rfl (LOp.move rfl rfl) ?_
                          refine ROps.l (r := AV.b true) rfl rfl rfl (LOp.eqb (LOp.neq rfl rfl rfl) hc30) ?_
                          refine ROps.nil ?_
                          refine RunC.cond_true rfl rfl ?_
                          refine RunC.seq ?_
                          refine RunC.regionW ?_
                          refine ROps.l (r := AV.b false) rfl rfl rfl (LOp.assign rfl rfl) ?_
                          refine ROps.nil ?_
                          refine RunC.ret ?_
                          have hq := Option.some.inj h
                          subst q0
                          exact bodyQ.pure (.inr rfl) rfl (Res.one rfl (RV.tmp rfl))
                        · refine RunC.regionW ?_
                          refine ROps.l (r := AV.i64 r29) rfl rfl rfl (LOp.move rfl rfl) ?_
                          refine ROps.l (r := AV.i64 r20) rfl rfl rfl (LOp.move rfl rfl) ?_
                          refine ROps.l (r := AV.b false) rfl rfl rfl (LOp.eqb (LOp.neq rfl rfl rfl) hc30) ?_
                          refine ROps.nil ?_
                          refine RunC.cond_false rfl rfl ?_
                          refine RunC.skip ?_
                          refine RunC.seq ?_
                          refine RunC.regionW ?_
                          refine ROps.l (r := AV.b true) rfl rfl rfl (LOp.assign rfl rfl) ?_
                          refine ROps.nil ?_
                          refine RunC.ret ?_
                          have hq := Option.some.inj h
                          subst q0
                          exact bodyQ.pure (.inr rfl) rfl (Res.one rfl (RV.tmp rfl))
                  · refine RunC.regionW ?_
                    refine ROps.l (r := AV.oref 2 2 0 r27.length) rfl rfl rfl (LOp.move rfl rfl) ?_
                    refine ROps.l (r := AV.oref 1 1 0 r6.length) rfl rfl rfl (LOp.move rfl rfl) ?_
                    refine ROps.d (r := AV.b false) (fs := []) (Γ' := [⟨3, none⟩, ⟨1, some (r6.map AV.f32)⟩, ⟨2, some (r27.map AV.f32)⟩, ⟨1, some (r21.map AV.f32)⟩]) rfl rfl rfl (TOp.eqb (TOp.callB (CallAs.func ent24 rfl rfl) (Bors.cons (Bor.own (f := AV.f32) (fun _ => rfl) rfl rfl) (Bors.cons (Bor.own (f := AV.f32) (fun _ => rfl) rfl rfl) Bors.nil)) rfl rfl (w_eqFloat32S_ok r27 r6 r28 hf25)) hc26) rfl ?_
                    refine ROps.l (r := AV.b true) rfl rfl rfl (LOp.eqb (LOp.not rfl rfl) rfl) ?_
                    refine ROps.l (r := AV.b true) rfl rfl rfl (LOp.move rfl rfl) ?_
                    refine ROps.s rfl rfl rfl ?_
                    refine ROps.s rfl rfl rfl ?_
                    refine ROps.s rfl rfl rfl ?_
                    refine ROps.l (r := AV.b true) rfl rfl rfl (LOp.pick_true rfl rfl rfl) ?_
                    refine ROps.nil ?_
                    refine RunC.wl (τ' := [(7, AV.oref 3 1 0 r11.length), (10, AV.i64 r20), (87, AV.b true)]) (Γ' := [⟨3, none⟩, ⟨1, none⟩, ⟨2, none⟩, ⟨1, some (r21.map AV.f32)⟩]) ⟨(ALe.refl _), (ALe.refl _), (ALe.refl _), trivial⟩ ⟨⟨rfl, .inl rfl⟩, ⟨rfl, .inl rfl⟩, ⟨rfl, .inl rfl⟩, ⟨rfl, .inr rfl⟩, trivial⟩ ?_
                    refine RunC.cond_true rfl rfl ?_
                    refine RunC.seq ?_
                    refine RunC.regionW ?_
                    refine ROps.l (r := AV.b false) rfl rfl rfl (LOp.assign rfl rfl) ?_
                    refine ROps.nil ?_
                    refine RunC.ret ?_
                    have hq := Option.some.inj h
                    subst q0
                    exact bodyQ.pure (.inr rfl) rfl (Res.one rfl (RV.tmp rfl))
            · refine RunC.regionW ?_
              refine ROps.l (r := AV.i64 r17) rfl rfl rfl (LOp.move rfl rfl) ?_
              refine ROps.l (r := AV.b false) rfl rfl rfl (LOp.eqb (LOp.lss rfl rfl rfl) hc15) ?_
              refine ROps.l (r := AV.b false) rfl rfl rfl (LOp.move rfl rfl) ?_
              refine ROps.l (r := AV.oref 3 1 0 r11.length) rfl rfl rfl (LOp.move rfl rfl) ?_
              refine ROps.l (r := AV.oref 1 1 0 r6.length) rfl rfl rfl (LOp.move rfl rfl) ?_
              refine ROps.d (r := AV.b false) (fs := []) (Γ' := [⟨2, none⟩, ⟨1, some (r6.map AV.f32)⟩, ⟨1, none⟩, ⟨1, some (r11.map AV.f32)⟩]) rfl rfl rfl (TOp.eqb (TOp.callB (CallAs.func ent24 rfl rfl) (Bors.cons (Bor.own (f := AV.f32) (fun _ => rfl) rfl rfl) (Bors.cons (Bor.own (f := AV.f32) (fun _ => rfl) rfl rfl) Bors.nil)) rfl rfl (w_eqFloat32S_ok r11 r6 r19 hf16)) hc17) rfl ?_
              refine ROps.l (r := AV.b true) rfl rfl rfl (LOp.eqb (LOp.not rfl rfl) rfl) ?_
              refine ROps.l (r := AV.b true) rfl rfl rfl (LOp.pick_false rfl rfl rfl) ?_
              refine ROps.l (r := AV.b true) rfl rfl rfl (LOp.move rfl rfl) ?_
              refine ROps.s rfl rfl rfl ?_
              refine ROps.s rfl rfl rfl ?_
              refine ROps.s rfl rfl rfl ?_
              refine ROps.l (r := AV.b true) rfl rfl rfl (LOp.pick_true rfl rfl rfl) ?_
              refine ROps.nil ?_
              refine RunC.cond_true rfl rfl ?_
              refine RunC.seq ?_
              refine RunC.regionW ?_
              refine ROps.l (r := AV.b false) rfl rfl rfl (LOp.assign rfl rfl) ?_
              refine ROps.nil ?_
              refine RunC.ret ?_
              have hq := Option.some.inj h
              subst q0
              exact bodyQ.pure (.inr rfl) rfl (Res.one rfl (RV.tmp rfl))
        · refine RunC.region_draw (Γ' := [⟨2, some (r9.map AV.f32)⟩, ⟨1, some (r6.map AV.f32)⟩, ⟨1, some [AV.i64 r7, AV.i64 r8, AV.oref 0 2 0 r9.length]⟩, ⟨1, some (r11.map AV.f32)⟩]) 5 mixed 
            (TR.d (r := AV.agg [AV.i64 r7, AV.i64 r8, AV.oref 0 2 0 r9.length]) (fs := []) rfl rfl (TOp.loadAgg_o rfl agg27 siz27 rfl rfl rfl rfl) <|
            (TR.l (r := AV.agg [AV.i64 a0, AV.i64 a1, AV.sl a2.length (a2.map AV.f32)]) rfl rfl (LOp.loadAgg agg24 siz24 rfl rfl rfl rfl) <|
            (TR.d (r := AV.agg [AV.i64 r13, AV.i64 r14, AV.sl r15.length (r15.map AV.f32)]) (fs := []) rfl rfl (TOp.callS (CallAs.func ent11 rfl rfl) (ALes.cons (ALe.refl _) ALes.nil) (lts_cons (lt_agg (lts_cons rfl (lts_cons rfl (lts_cons (lt_sl (fun _ => rfl)) lts_nil)))) lts_nil) (lt_agg (lts_cons rfl (lts_cons rfl (lts_cons (lt_sl (fun _ => rfl)) lts_nil)))) (w_toMatrix_ok a0 a1 a2 r13 r14 r15 hf10) (Bor.agg (Bors.cons (Bor.pure rfl) (Bors.cons (Bor.pure rfl) (Bors.cons (Bor.own (f := AV.f32) (fun _ => rfl) rfl rfl) Bors.nil))))) <|
            (TR.d (r := AV.b false) (fs := []) rfl rfl (TOp.eqb (TOp.callB (CallAs.func ent13 rfl rfl) (Bors.cons (Bor.agg (Bors.cons (Bor.pure rfl) (Bors.cons (Bor.pure rfl) (Bors.cons (Bor.own (f := AV.f32) (fun _ => rfl) rfl rfl) Bors.nil)))) (Bors.cons (Bor.agg (Bors.cons (Bor.pure rfl) (Bors.cons (Bor.pure rfl) (Bors.cons (Bor.sl (fun _ => rfl)) Bors.nil)))) Bors.nil)) rfl rfl (w_eqMatrix_ok r7 r8 r9 r13 r14 r15 r16 hf11)) hc12) <|
            (TR.l (r := AV.b true) rfl rfl (LOp.eqb (LOp.not rfl rfl) rfl) <|
            TR.nil))))) rfl (by kernel_rfl) rfl fills_nil rfl ?_
          iterate 5 refine ROps.dropS ?_
          refine ROps.drop0 ?_
          refine ROps.nil ?_
          refine RunC.cond_true rfl rfl ?_
          refine RunC.seq ?_
          refine RunC.regionW ?_
          refine ROps.l (r := AV.b false) rfl rfl rfl (LOp.assign rfl rfl) ?_
          refine ROps.nil ?_
          refine RunC.ret ?_
          have hq := Option.some.inj h
          subst q0
          exact bodyQ.pure (.inr rfl) rfl (Res.one rfl (RV.tmp rfl))
    · refine RunC.regionW ?_
      refine ROps.l (r := AV.oref 3 1 0 r11.length) rfl rfl rfl (LOp.move rfl rfl) ?_
      refine ROps.l (r := AV.oref 1 1 0 r6.length) rfl rfl rfl (LOp.move rfl rfl) ?_
      refine ROps.d (r := AV.b false) (fs := []) (Γ' := [⟨2, some (r9.map AV.f32)⟩, ⟨1, some (r6.map AV.f32)⟩, ⟨1, some [AV.i64 r7, AV.i64 r8, AV.oref 0 2 0 r9.length]⟩, ⟨1, some (r11.map AV.f32)⟩]) rfl rfl rfl (TOp.eqb (TOp.callB (CallAs.func ent24 rfl rfl) (Bors.cons (Bor.own (f := AV.f32) (fun _ => rfl) rfl rfl) (Bors.cons (Bor.own (f := AV.f32) (fun _ => rfl) rfl rfl) Bors.nil)) rfl rfl (w_eqFloat32S_ok r11 r6 r12 hf7)) hc8) rfl ?_
      refine ROps.l (r := AV.b true) rfl rfl rfl (LOp.eqb (LOp.not rfl rfl) rfl) ?_
      refine ROps.l (r := AV.b true) rfl rfl rfl (LOp.move rfl rfl) ?_
      refine ROps.s rfl rfl rfl ?_
      refine ROps.s rfl rfl rfl ?_
      refine ROps.s rfl rfl rfl ?_
      refine ROps.l (r := AV.b true) rfl rfl rfl (LOp.pick_true rfl rfl rfl) ?_
      refine ROps.nil ?_
      refine RunC.cond_true rfl rfl ?_
      refine RunC.seq ?_
      refine RunC.regionW ?_
      refine ROps.l (r := AV.b false) rfl rfl rfl (LOp.assign rfl rfl) ?_
      refine ROps.nil ?_
      refine RunC.ret ?_
      have hq := Option.some.inj h
      subst q0
      exact bodyQ.pure (.inr rfl) rfl (Res.one rfl (RV.tmp rfl))
end Go.Proofs.Ytjbifkimffmhpaa
