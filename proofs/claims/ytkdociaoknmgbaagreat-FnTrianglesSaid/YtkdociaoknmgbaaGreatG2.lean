/- Generated. -/
import Derived.Test.YtkdociaoknmgbaaGreatG1
namespace Go.Proofs.YtkdociaoknmgbaaGreat
open Go Go.AM Go.AM.AV
set_option maxRecDepth 20000
set_option maxHeartbeats 4000000
set_option linter.unusedVariables false
set_option linter.unusedSimpArgs false
noncomputable section
def s_l02Vector (a0 : List F) : Option (Bool) :=
 bsel (decide (1 ≤ (a0.length : Int))) (
  bsel (decide ((a0.length : Int) ≤ 256)) (
   obind (s_l02Finite a0) fun (r1 : Bool) =>
   some r1) (
   some false)) (
  some false)
theorem s_l02Vector_ok (a0 : List F) (q0 : Bool) (h : s_l02Vector a0 = some q0) : Ev Tryz.prog 73 [(sFc a0)] [] (b q0) [] := by
 refine yE Tryz.func73 0 31 0 [(0, (sFc a0))] [] rfl ?_
 unfold s_l02Vector at h
 refine zQ<|ya rfl (b false)<|zN ?_
 refine yS ?_
 rcases oB h with ⟨hc1, h⟩ | ⟨hc1, h⟩
 ·rcases oB h with ⟨hc2, h⟩ | ⟨hc2, h⟩
  ·obtain ⟨r1, hf3, h⟩ := oS h
   refine yW<|ym rfl (sFc a0)<|yl rfl (i64 (a0.length : Int)) (LOp.len_sl und25 rfl rfl)<|yl rfl (b true) (LOp.eqb (LOp.geq rfl rfl rfl) hc1)<|ym rfl (b true)<|ym rfl (sFc a0)<|yl rfl (i64 (a0.length : Int)) (LOp.len_sl und25 rfl rfl)<|yl rfl (b true) (LOp.eqb (LOp.leq rfl rfl rfl) hc2)<|yl rfl (b true) yq<|ym rfl (b true)<|ym rfl (sFc a0)<|yd rfl (b r1) (yc ent105 rfl rfl (bS bN) (s_l02Finite_ok a0 r1 hf3))<|yl rfl (b r1) yq<|ya rfl (b r1)<|zN ?_
   refine RunC.ret ?_
   have hq := oI h
   subst q0
   exact bodyQ.pure (.inr rfl) rfl (Res.one rfl (RV.tmp rfl))
  ·refine yW<|ym rfl (sFc a0)<|yl rfl (i64 (a0.length : Int)) (LOp.len_sl und25 rfl rfl)<|yl rfl (b true) (LOp.eqb (LOp.geq rfl rfl rfl) hc1)<|ym rfl (b true)<|ym rfl (sFc a0)<|yl rfl (i64 (a0.length : Int)) (LOp.len_sl und25 rfl rfl)<|yl rfl (b false) (LOp.eqb (LOp.leq rfl rfl rfl) hc2)<|yl rfl (b false) yq<|ym rfl (b false)<|ROps.s rfl rfl rfl<|ROps.s rfl rfl rfl<|yl rfl (b false) yp<|ya rfl (b false)<|zN ?_
   refine RunC.ret ?_
   have hq := oI h
   subst q0
   exact bodyQ.pure (.inr rfl) rfl (Res.one rfl (RV.tmp rfl))
 ·refine yW<|ym rfl (sFc a0)<|yl rfl (i64 (a0.length : Int)) (LOp.len_sl und25 rfl rfl)<|yl rfl (b false) (LOp.eqb (LOp.geq rfl rfl rfl) hc1)<|ym rfl (b false)<|ROps.s rfl rfl rfl<|ROps.s rfl rfl rfl<|ROps.s rfl rfl rfl<|yl rfl (b false) yp<|ym rfl (b false)<|ROps.s rfl rfl rfl<|ROps.s rfl rfl rfl<|yl rfl (b false) yp<|ya rfl (b false)<|zN ?_
  refine RunC.ret ?_
  have hq := oI h
  subst q0
  exact bodyQ.pure (.inr rfl) rfl (Res.one rfl (RV.tmp rfl))
def s_l02Dot_b1 (a0 : List F) (a1 : List F) (y1 : F) (v2 : Int) : Option (LR (F × Int) (F) (F)) :=
 bsel (decide (v2 < (a0.length : Int))) (
  obind (at? a0 v2) fun (e3 : F) =>
  obind (at? a1 v2) fun (e4 : F) =>
  olet (fop .mul .f32 e3 e4) fun (x5 : F) =>
  olet (fop .add .f32 y1 x5) fun (x6 : F) =>
  olet (IntKind.i64.wrap (v2 + 1)) fun (x7 : Int) =>
  some (LR.next (x6, x7))) (
  some (LR.out y1))
def s_l02Dot_s1 (a0 : List F) (a1 : List F) : (F × Int) → Option (LR (F × Int) (F) (F)) := fun s => s_l02Dot_b1 a0 a1 s.1 s.2
def s_l02Dot_k1 (y8 : F) : Option (F) :=
 some y8
def s_l02Dot (a0 : List F) (a1 : List F) : Option (F) :=
 obind (loopM (s_l02Dot_s1 a0 a1) (some 0, 0)) fun z => osum z (fun e => s_l02Dot_k1 e) (fun r => some r)
theorem s_l02Dot_ok (a0 : List F) (a1 : List F) (q0 : F) (h : s_l02Dot a0 a1 = some q0) : Ev Tryz.prog 110 [(sFc a0), (sFc a1)] [] (f32 q0) [] := by
 refine yE Tryz.func110 0 51 0 [(0, (sFc a0)), (1, (sFc a1))] [] rfl ?_
 unfold s_l02Dot at h
 refine zQ<|yl rfl (f32 (some 0)) (LOp.le (LOp.assign rfl rfl) (ALe.fl (by kernel_rfl) (by kernel_rfl)))<|zN ?_
 refine zQ<|yl rfl (f32 (some 0)) (LOp.le (LOp.assign rfl rfl) (ALe.fl (by kernel_rfl) (by kernel_rfl)))<|zN ?_
 refine yS<|zQ<|ya rfl (i64 0)<|zN ?_
 obtain ⟨z2, hz_2, h⟩ := oS h
 refine RunC.cutN (fun τ Γ => ∃ (y8 : F), WeakLe τ [(5, f32 y8)] ∧ DeadLe Γ [] ∧ z2 = .inl y8) ?_ ?_
 ·refine RunC.block (RunC.loop (RunL.loopM (x := z2) (s_l02Dot_s1 a0 a1) (fun (s : F × Int) τ Γ => WeakLe τ [(0, (sFc a0)), (1, (sFc a1)), (5, f32 s.1), (6, i64 s.2)] ∧ DeadLe Γ []) ?_ _ _ _ hz_2 ⟨⟨aR, aR, aR, aR, trivial⟩, trivial⟩))
  rintro ⟨y1, v2⟩ τ2 Γ2 y2_ ⟨hw2, hd2⟩ h2_ ho2 hr2
  refine RunC.wl (τ' := [(0, (sFc a0)), (1, (sFc a1)), (5, f32 y1), (6, i64 v2)]) (Γ' := []) hw2 hd2 ?_
  replace h2_ : s_l02Dot_b1 a0 a1 y1 v2 = some y2_ := h2_
  unfold s_l02Dot_b1 at h2_
  refine yS<|yS ?_
  rcases oB h2_ with ⟨hc1, h2_⟩ | ⟨hc1, h2_⟩
  ·refine yW<|ym rfl (i64 v2)<|ym rfl (sFc a0)<|yl rfl (i64 (a0.length : Int)) (LOp.len_sl und25 rfl rfl)<|yl rfl (b true) (LOp.eqb (LOp.lss rfl rfl rfl) hc1)<|zN ?_
   refine yT<|RunC.skip<|yS<|RunC.block ?_
   obtain ⟨e3, he2, h2_⟩ := oS h2_
   obtain ⟨e4, he3, h2_⟩ := oS h2_
   obtain ⟨x5, hx4, h2_⟩ := oL h2_
   obtain ⟨x6, hx5, h2_⟩ := oL h2_
   refine RunC.region_draw (Γ' := []) 12 mixed 
    (tm rfl (f32 y1) <|
    (tm rfl (sFc a0) <|
    (tm rfl (i64 v2) <|
    (tl rfl (ptr [f32 e3]) (LOp.le (LOp.ix (f := f32) und25 siz41 rfl rfl rfl rfl he2) ALe.ptr) <|
    (tl rfl (f32 e3) (y2 agg41) <|
    (tm rfl (sFc a1) <|
    (tm rfl (i64 v2) <|
    (tl rfl (ptr [f32 e4]) (LOp.le (LOp.ix (f := f32) und25 siz41 rfl rfl rfl rfl he3) ALe.ptr) <|
    (tl rfl (f32 e4) (y2 agg41) <|
    (TR.d (r := f32 x5) (fs := []) rfl rfl (TOp.eqr (TOp.fop (.inr (.inr (.inl rfl))) rfl (OpF.tmp rfl) (OpF.tmp rfl)) (congrArg (f .f32) hx4)) <|
    (TR.d (r := f32 x6) (fs := []) rfl rfl (TOp.eqr (TOp.fop (.inl rfl) rfl (OpF.tmp rfl) (OpF.tmp rfl)) (congrArg (f .f32) hx5)) <|
    (tl rfl (f32 x6) (LOp.assign rfl rfl) <|
    TR.nil)))))))))))) rfl (by kernel_rfl) rfl fills_nil rfl ?_
   iterate 12 refine ROps.dropS ?_
   refine ROps.drop0<|zN ?_
   refine RunC.wl (τ' := [(0, (sFc a0)), (1, (sFc a1)), (5, f32 x6), (6, i64 v2)]) (Γ' := []) ⟨aR, aR, aR, aR, trivial⟩ trivial ?_
   obtain ⟨x7, hx6, h2_⟩ := oL h2_
   refine yW<|ym rfl (i64 v2)<|yl rfl (i64 x7) (LOp.eqr (LOp.add rfl rfl rfl) (congrArg (ik .i64) hx6))<|ya rfl (i64 x7)<|zN ?_
   cases oI h2_
   exact ⟨_, rfl, ⟨aR, aR, aR, aR, trivial⟩, trivial⟩
  ·refine yW<|ym rfl (i64 v2)<|ym rfl (sFc a0)<|yl rfl (i64 (a0.length : Int)) (LOp.len_sl und25 rfl rfl)<|yl rfl (b false) (LOp.eqb (LOp.lss rfl rfl rfl) hc1)<|zN ?_
   refine yF<|RunC.exit ?_
   cases oI h2_
   have hx := ho2 _ rfl
   exact ⟨y1, ⟨aR, trivial⟩, trivial, hx⟩
 ·rintro τ3 Γ3 ⟨y8, hw3, hd3, rfl⟩
  refine RunC.wl hw3 hd3 ?_
  replace h : s_l02Dot_k1 y8 = some q0 := h
  unfold s_l02Dot_k1 at h
  refine zQ<|ym rfl (f32 y8)<|ya rfl (f32 y8)<|zN ?_
  refine RunC.ret ?_
  have hq := oI h
  subst q0
  exact bodyQ.pure (.inr rfl) rfl (Res.one rfl (RV.tmp rfl))
def s_l02Times_b1 (a0 : Int) (a1 : Int) (a2 : List F) (a3 : List F) (L3 : List F) (v4 : Int) : Option (LR ((List F) × Int) ((List F)) ((List F))) :=
 bsel (decide (v4 < a0)) (
  olet (IntKind.i64.wrap (v4 * a1)) fun (x5 : Int) =>
  olet (IntKind.i64.wrap (v4 + 1)) fun (x6 : Int) =>
  olet (IntKind.i64.wrap (x6 * a1)) fun (x7 : Int) =>
  obind (sub? a2 x5 x7) fun (l8 : List F) =>
  obind (s_l02Dot l8 a3) fun (r9 : F) =>
  need (apok 4 L3.length 1) <|
  olet (IntKind.i64.wrap (v4 + 1)) fun (x10 : Int) =>
  some (LR.next ((L3 ++ ([r9] : List F)), x10))) (
  some (LR.out L3))
def s_l02Times_s1 (a0 : Int) (a1 : Int) (a2 : List F) (a3 : List F) : ((List F) × Int) → Option (LR ((List F) × Int) ((List F)) ((List F))) := fun s => s_l02Times_b1 a0 a1 a2 a3 s.1 s.2
def s_l02Times_k1 (L13 : List F) : Option ((List F)) :=
 some L13
def s_l02Times (a0 : Int) (a1 : Int) (a2 : List F) (a3 : List F) : Option ((List F)) :=
 obind (loopM (s_l02Times_s1 a0 a1 a2 a3) (([] : List F), 0)) fun z => osum z (fun e => s_l02Times_k1 e) (fun r => some r)
theorem s_l02Times_ok (a0 : Int) (a1 : Int) (a2 : List F) (a3 : List F) (q0 : List F) (h : s_l02Times a0 a1 a2 a3 = some q0) : Ev Tryz.prog 75 [ptr (mXc a0 a1 a2), (sFc a3)] [] (oref 0 0 0 q0.length) [⟨0, some (q0.map f32)⟩] := by
 refine yE Tryz.func75 2 81 0 [(0, ptr (mXc a0 a1 a2)), (1, (sFc a3))] [⟨0, none⟩, ⟨0, none⟩] rfl ?_
 unfold s_l02Times at h
 refine zQ<|ya rfl nilsl<|zN ?_
 refine zQ<|ye rfl (oref 0 1 0 0) ([⟨1, some (([] : List F).map f32)⟩, ⟨0, none⟩]) (TOp.buildSlice_o (g := ⟨0, none⟩) (za := f32 (some 0)) (qs := []) 0 rfl und25 siz41 zer41 rfl zel41 rfl rfl trivial rfl)<|ya rfl (oref 0 1 0 0)<|zN ?_
 refine yS<|zQ<|ya rfl (i64 0)<|zN ?_
 obtain ⟨z2, hz_2, h⟩ := oS h
 refine RunC.cutN (fun τ Γ => ∃ (L13 : List F) (u11 : Nat) (u12 : Nat), WeakLe τ [(5, oref 0 u11 0 L13.length)] ∧ DeadLe Γ [⟨u11, some (L13.map f32)⟩, ⟨u12, none⟩] ∧ z2 = .inl L13) ?_ ?_
 ·refine RunC.block (RunC.loop (RunL.loopM (x := z2) (s_l02Times_s1 a0 a1 a2 a3) (fun (s : (List F) × Int) τ Γ => ∃ (u1 : Nat) (u2 : Nat), WeakLe τ [(0, ptr (mXc a0 a1 a2)), (1, (sFc a3)), (5, oref 0 u1 0 s.1.length), (6, i64 s.2)] ∧ DeadLe Γ [⟨u1, some (s.1.map f32)⟩, ⟨u2, none⟩]) ?_ _ _ _ hz_2 ⟨1, 0, ⟨aR, aR, aR, aR, trivial⟩, ⟨⟨rfl, .inr rfl⟩, ⟨rfl, .inl rfl⟩, trivial⟩⟩))
  rintro ⟨L3, v4⟩ τ2 Γ2 y2_ ⟨u1, u2, hw2, hd2⟩ h2_ ho2 hr2
  refine RunC.wl (τ' := [(0, ptr (mXc a0 a1 a2)), (1, (sFc a3)), (5, oref 0 u1 0 L3.length), (6, i64 v4)]) (Γ' := [⟨u1, some (L3.map f32)⟩, ⟨u2, none⟩]) hw2 hd2 ?_
  replace h2_ : s_l02Times_b1 a0 a1 a2 a3 L3 v4 = some y2_ := h2_
  unfold s_l02Times_b1 at h2_
  refine yS<|yS ?_
  rcases oB h2_ with ⟨hc1, h2_⟩ | ⟨hc1, h2_⟩
  ·refine yW<|ym rfl (i64 v4)<|ym rfl (ptr (mXc a0 a1 a2))<|yl rfl (ptr (mXc a0 a1 a2)) (LOp.nilCheck_ptr rfl rfl)<|yl rfl (ptr (mXc a0 a1 a2)) (LOp.fap und27 rfl siz2 rfl rfl rfl)<|yl rfl (i64 a0) (y2 agg2)<|yl rfl (b true) (LOp.eqb (LOp.lss rfl rfl rfl) hc1)<|zN ?_
   refine yT<|RunC.skip<|yS<|RunC.block ?_
   obtain ⟨x5, hx2, h2_⟩ := oL h2_
   obtain ⟨x6, hx3, h2_⟩ := oL h2_
   obtain ⟨x7, hx4, h2_⟩ := oL h2_
   obtain ⟨l8, hs5, h2_⟩ := oS h2_
   obtain ⟨r9, hf6, h2_⟩ := oS h2_
   obtain ⟨hm7, h2_⟩ := need_some h2_
   refine RunC.region_draw (Γ' := [⟨u1, some (L3.map f32)⟩, ⟨(u2 + 1), some (([r9] : List F).map f32)⟩]) 22 mixed 
    (tm rfl (oref 0 u1 0 L3.length) <|
    (tm rfl (ptr (mXc a0 a1 a2)) <|
    (tl rfl (ptr (mXc a0 a1 a2)) (LOp.nilCheck_ptr rfl rfl) <|
    (tl rfl (ptr [(sFc a2)]) (LOp.fap und27 rfl siz25 rfl rfl rfl) <|
    (tl rfl (sFc a2) (y2 agg25) <|
    (tm rfl (i64 v4) <|
    (tm rfl (ptr (mXc a0 a1 a2)) <|
    (tl rfl (ptr (mXc a0 a1 a2)) (LOp.nilCheck_ptr rfl rfl) <|
    (tl rfl (ptr [i64 a1, (sFc a2)]) (LOp.fap und27 rfl siz2 rfl rfl rfl) <|
    (tl rfl (i64 a1) (y2 agg2) <|
    (tl rfl (i64 x5) (LOp.eqr (LOp.mul rfl rfl rfl) (congrArg (ik .i64) hx2)) <|
    (tm rfl (i64 v4) <|
    (tl rfl (i64 x6) (LOp.eqr (LOp.add rfl rfl rfl) (congrArg (ik .i64) hx3)) <|
    (tm rfl (ptr (mXc a0 a1 a2)) <|
    (tl rfl (ptr (mXc a0 a1 a2)) (LOp.nilCheck_ptr rfl rfl) <|
    (tl rfl (ptr [i64 a1, (sFc a2)]) (LOp.fap und27 rfl siz2 rfl rfl rfl) <|
    (tl rfl (i64 a1) (y2 agg2) <|
    (tl rfl (i64 x7) (LOp.eqr (LOp.mul rfl rfl rfl) (congrArg (ik .i64) hx4)) <|
    (tl rfl (sFc l8) (LOp.slice_sl (f := f32) und25 siz41 rfl rfl rfl rfl rfl hs5) <|
    (tm rfl (sFc a3) <|
    (TR.d (r := f32 r9) (fs := []) rfl rfl (yc ent110 rfl rfl (bS (bS bN)) (s_l02Dot_ok l8 a3 r9 hf6)) <|
    (TR.d (r := oref 1 (u2 + 1) 0 1) (fs := [(1, (([r9] : List F).map f32))]) rfl rfl (TOp.buildSlice_o (g := ⟨u2, none⟩) (za := f32 (some 0)) (qs := [(0, [f32 r9])]) 1 rfl und25 siz41 zer41 rfl zel41 rfl rfl ⟨rfl, ⟨_, ALe.refl _, rfl⟩, trivial⟩ rfl) <|
    TR.nil)))))))))))))))))))))) rfl (by kernel_rfl) rfl (fills_of (by show List.Nodup [1]; decide) ⟨⟨_, rfl⟩, trivial⟩) rfl ?_
   iterate 22 refine ROps.dropS ?_
   refine ROps.drop0<|ROps.app (f := f32) (xs := L3) (ys := ([r9] : List F)) (Γ' := [⟨(u1 + 1), some ((L3 ++ ([r9] : List F)).map f32)⟩, ⟨(u2 + 1), some (([r9] : List F).map f32)⟩]) rfl pun25 inf41 rfl rfl rfl rfl rfl rfl rfl rfl rfl (by simp) (ReadAs.own rfl (by simp)) (ones_map (fun _ => rfl)) (ap_by hm7) (ap_mx hm7) rfl<|ya rfl (oref 0 (u1 + 1) 0 (L3.length + 1))<|zN ?_
   refine RunC.wl (τ' := [(0, ptr (mXc a0 a1 a2)), (1, (sFc a3)), (5, oref 0 (u1 + 1) 0 (L3.length + 1)), (6, i64 v4)]) (Γ' := [⟨(u1 + 1), some ((L3 ++ ([r9] : List F)).map f32)⟩, ⟨(u2 + 1), none⟩]) ⟨aR, aR, aR, aR, trivial⟩ ⟨⟨rfl, .inr rfl⟩, ⟨rfl, .inl rfl⟩, trivial⟩ ?_
   obtain ⟨x10, hx8, h2_⟩ := oL h2_
   refine yW<|ym rfl (i64 v4)<|yl rfl (i64 x10) (LOp.eqr (LOp.add rfl rfl rfl) (congrArg (ik .i64) hx8))<|ya rfl (i64 x10)<|zN ?_
   cases oI h2_
   exact ⟨_, rfl, (u1 + 1), (u2 + 1), ⟨aR, aR, (ALe.eq (by rw [(app_len rfl rfl)] <;> rfl)), aR, trivial⟩, ⟨⟨rfl, .inr rfl⟩, ⟨rfl, .inl rfl⟩, trivial⟩⟩
  ·refine yW<|ym rfl (i64 v4)<|ym rfl (ptr (mXc a0 a1 a2))<|yl rfl (ptr (mXc a0 a1 a2)) (LOp.nilCheck_ptr rfl rfl)<|yl rfl (ptr (mXc a0 a1 a2)) (LOp.fap und27 rfl siz2 rfl rfl rfl)<|yl rfl (i64 a0) (y2 agg2)<|yl rfl (b false) (LOp.eqb (LOp.lss rfl rfl rfl) hc1)<|zN ?_
   refine yF<|RunC.exit ?_
   cases oI h2_
   have hx := ho2 _ rfl
   exact ⟨L3, u1, u2, ⟨aR, trivial⟩, ⟨⟨rfl, .inr rfl⟩, ⟨rfl, .inl rfl⟩, trivial⟩, hx⟩
 ·rintro τ3 Γ3 ⟨L13, u11, u12, hw3, hd3, rfl⟩
  refine RunC.wl hw3 hd3 ?_
  replace h : s_l02Times_k1 L13 = some q0 := h
  unfold s_l02Times_k1 at h
  refine zQ<|ym rfl (oref 0 u11 0 L13.length)<|ya rfl (oref 0 u11 0 L13.length)<|zN ?_
  refine RunC.ret ?_
  have hq := oI h
  subst q0
  exact bodyQ.mk (r' := oref 0 u11 0 L13.length) [(0, u11)] (.inr rfl) rfl (ndB_ok rfl) (by simp [ren, rens, sigma]) rfl (Res.one rfl (RV.tmp rfl)) (SelL.arr0 (f := f32) (fun _ => rfl) rfl trivial)
def s_l02List_0o (a0 : List F) : Option ((Bool × (List F)) ⊕ (Bool × (List F) × (List F))) :=
 obind (s_l02Finite a0) fun (r1 : Bool) =>
 bsel r1 (
  some (Sum.inl (true, a0))) (
  some (Sum.inr (false, a0, ([] : List F))))
theorem s_l02List_0o_ok0 (a0 : List F) (q0 : Bool) (q1 : List F) (h : s_l02List_0o a0 = some (Sum.inl (q0, q1))) : Ev Tryz.prog 74 [oref 0 0 0 a0.length] [⟨0, some (a0.map f32)⟩] (tup [oref 0 0 0 q1.length, b q0]) [⟨0, some (q1.map f32)⟩] := by
 refine Ev.start Tryz.func74 rfl rfl 1 (τ := [(0, oref 0 0 0 a0.length)]) rfl (Γ' := [⟨0, some (a0.map f32)⟩, ⟨0, none⟩]) rfl (n := 16) rfl (g := 1) rfl (by decide) ?_
 unfold s_l02List_0o at h
 refine zQ<|ya rfl nilsl<|ya rfl (b false)<|zN ?_
 refine yS<|yS ?_
 obtain ⟨r1, hf1, h⟩ := oS h
 rcases oB h with ⟨hc2, h⟩ | ⟨hc2, h⟩
 ·refine yW<|ym rfl (oref 0 0 0 a0.length)<|yd rfl (b true) (TOp.eqb (yc ent105 rfl rfl (Bors.cons (Bor.own (f := f32) (fun _ => rfl) rfl rfl) bN) (s_l02Finite_ok a0 r1 hf1)) hc2)<|yl rfl (b false) y1<|zN ?_
  refine yF<|RunC.skip<|zQ<|ym rfl (oref 0 0 0 a0.length)<|ya rfl (oref 0 0 0 a0.length)<|ya rfl (b true)<|zN ?_
  refine RunC.ret ?_
  have hq := oI h
  have hq := Sum.inl.inj hq
  obtain ⟨hq0, hq⟩ := Prod.mk.inj hq
  subst q0
  subst q1
  exact yB (tup [oref 0 0 0 a0.length, b true]) [(0, 0)] (Res.two rfl (RV.tmp rfl) (RV.tmp rfl)) (SelL.arr (f := f32) (fun _ => rfl) rfl trivial)
 ·refine yW<|ym rfl (oref 0 0 0 a0.length)<|yd rfl (b false) (TOp.eqb (yc ent105 rfl rfl (Bors.cons (Bor.own (f := f32) (fun _ => rfl) rfl rfl) bN) (s_l02Finite_ok a0 r1 hf1)) hc2)<|yl rfl (b true) y0<|zN ?_
  refine yT<|zQ<|ya rfl nilsl<|ya rfl (b false)<|zN ?_
  cases oI h
theorem s_l02List_0o_ok1 (a0 : List F) (q0 : Bool) (q1 : List F) (q2 : List F) (h : s_l02List_0o a0 = some (Sum.inr (q0, q1, q2))) : Ev Tryz.prog 74 [oref 0 0 0 a0.length] [⟨0, some (a0.map f32)⟩] (tup [oref 1 0 0 q2.length, b q0]) [⟨0, some (q1.map f32)⟩, ⟨0, some (q2.map f32)⟩] := by
 refine Ev.start Tryz.func74 rfl rfl 1 (τ := [(0, oref 0 0 0 a0.length)]) rfl (Γ' := [⟨0, some (a0.map f32)⟩, ⟨0, none⟩]) rfl (n := 16) rfl (g := 1) rfl (by decide) ?_
 unfold s_l02List_0o at h
 refine zQ<|ya rfl nilsl<|ya rfl (b false)<|zN ?_
 refine yS<|yS ?_
 obtain ⟨r1, hf1, h⟩ := oS h
 rcases oB h with ⟨hc2, h⟩ | ⟨hc2, h⟩
 ·refine yW<|ym rfl (oref 0 0 0 a0.length)<|yd rfl (b true) (TOp.eqb (yc ent105 rfl rfl (Bors.cons (Bor.own (f := f32) (fun _ => rfl) rfl rfl) bN) (s_l02Finite_ok a0 r1 hf1)) hc2)<|yl rfl (b false) y1<|zN ?_
  refine yF<|RunC.skip<|zQ<|ym rfl (oref 0 0 0 a0.length)<|ya rfl (oref 0 0 0 a0.length)<|ya rfl (b true)<|zN ?_
  cases oI h
 ·refine yW<|ym rfl (oref 0 0 0 a0.length)<|yd rfl (b false) (TOp.eqb (yc ent105 rfl rfl (Bors.cons (Bor.own (f := f32) (fun _ => rfl) rfl rfl) bN) (s_l02Finite_ok a0 r1 hf1)) hc2)<|yl rfl (b true) y0<|zN ?_
  refine yT<|zQ<|ya rfl nilsl<|ya rfl (b false)<|zN ?_
  refine RunC.nil_slot (Γ' := [⟨0, some (a0.map f32)⟩, ⟨1, some (([] : List F).map f32)⟩]) 2 1 rfl rfl rfl<|RunC.ret ?_
  have hq := oI h
  have hq := Sum.inr.inj hq
  obtain ⟨hq0, hq⟩ := Prod.mk.inj hq
  obtain ⟨hq1, hq⟩ := Prod.mk.inj hq
  subst q0
  subst q1
  subst q2
  exact yB (tup [oref 1 1 0 (([] : List F).length), b false]) [(0, 0), (1, 1)] (Res.eq (Res.two rfl (RV.tmp rfl) (RV.tmp rfl)) (by rw [(show ([] : List F).length = 0 from rfl)] <;> rfl)) (SelL.arr (f := f32) (fun _ => rfl) rfl (SelL.arr0 (f := f32) (fun _ => rfl) rfl trivial))
def s_TimesVector (a0 : Int) (a1 : Int) (a2 : List F) (a3 : List F) : Option (Bool × (List F)) :=
 obind (s_l02Is a0 a1 a2) fun (r1 : Bool) =>
 bsel r1 (
  obind (s_l02Vector a3) fun (r2 : Bool) =>
  bsel r2 (
   bsel (!decide ((a3.length : Int) = a1)) (
    some (false, ([] : List F))) (
    obind (s_l02Times a0 a1 a2 a3) fun (r3 : List F) =>
    obind (s_l02List_0o r3) (fun z => osum z (fun y => obind2 (some y) fun (r4 : Bool) (r5 : List F) =>
     need (decide (r5.length = r3.length)) <|
     some (r4, r5)) (fun y => obind3 (some y) fun (r6 : Bool) (r7 : List F) (r8 : List F) =>
     need (decide (r7.length = r3.length)) <|
     some (r6, r8))))) (
   some (false, ([] : List F)))) (
  some (false, ([] : List F)))
theorem s_TimesVector_ok (a0 : Int) (a1 : Int) (a2 : List F) (a3 : List F) (q0 : Bool) (q1 : List F) (h : s_TimesVector a0 a1 a2 a3 = some (q0, q1)) : Ev Tryz.prog 23 [agg (mXc a0 a1 a2), (sFc a3)] [] (tup [oref 0 0 0 q1.length, b q0]) [⟨0, some (q1.map f32)⟩] := by
 refine yE Tryz.func23 2 51 0 [(0, agg (mXc a0 a1 a2)), (1, (sFc a3))] [⟨0, none⟩, ⟨0, none⟩] rfl ?_
 unfold s_TimesVector at h
 refine zQ<|yd rfl (ptr (mXc a0 a1 a2)) (TOp.box_s rfl rfl rfl)<|ya rfl nilsl<|ya rfl (b false)<|zN ?_
 refine yS<|yS ?_
 obtain ⟨r1, hf1, h⟩ := oS h
 rcases oB h with ⟨hc2, h⟩ | ⟨hc2, h⟩
 ·obtain ⟨r2, hf3, h⟩ := oS h
  rcases oB h with ⟨hc4, h⟩ | ⟨hc4, h⟩
  ·rcases oB h with ⟨hc5, h⟩ | ⟨hc5, h⟩
   ·refine yW<|yd rfl (b true) (TOp.eqb (TOp.callB (CallAs.func ent59 rfl rfl) (Bors.cons (Bor.ptr (bP (bP (bS bN)))) bN) rfl rfl (s_l02Is_ok a0 a1 a2 r1 hf1)) hc2)<|yl rfl (b false) y1<|ym rfl (b false)<|ym rfl (sFc a3)<|yd rfl (b true) (TOp.eqb (yc ent73 rfl rfl (bS bN) (s_l02Vector_ok a3 r2 hf3)) hc4)<|yl rfl (b false) y1<|yl rfl (b false) yp<|ym rfl (b false)<|ym rfl (sFc a3)<|yl rfl (i64 (a3.length : Int)) (LOp.len_sl und25 rfl rfl)<|yl rfl (ptr [i64 a1, (sFc a2)]) (LOp.fap und27 rfl siz2 rfl rfl rfl)<|yl rfl (i64 a1) (y2 agg2)<|yl rfl (b true) (LOp.eqb (LOp.neq rfl rfl rfl) hc5)<|yl rfl (b true) yp<|zN ?_
    refine RunC.wl (τ' := [(1, (sFc a3)), (2, ptr (mXc a0 a1 a2)), (19, b true)]) (Γ' := [⟨0, none⟩, ⟨0, none⟩]) ⟨aR, aR, aR, trivial⟩ ⟨⟨rfl, .inr rfl⟩, ⟨rfl, .inr rfl⟩, trivial⟩<|yT<|zQ<|ya rfl nilsl<|ya rfl (b false)<|zN ?_
    refine RunC.nil_slot (Γ' := [⟨1, some (([] : List F).map f32)⟩, ⟨0, none⟩]) 4 0 rfl rfl rfl<|RunC.ret ?_
    have hq := oI h
    obtain ⟨hq0, hq⟩ := Prod.mk.inj hq
    subst q0
    subst q1
    exact yB (tup [oref 0 1 0 (([] : List F).length), b false]) [(0, 1)] (Res.eq (Res.two rfl (RV.tmp rfl) (RV.tmp rfl)) (by rw [(show ([] : List F).length = 0 from rfl)] <;> rfl)) (SelL.arr0 (f := f32) (fun _ => rfl) rfl trivial)
   ·refine yW<|yd rfl (b true) (TOp.eqb (TOp.callB (CallAs.func ent59 rfl rfl) (Bors.cons (Bor.ptr (bP (bP (bS bN)))) bN) rfl rfl (s_l02Is_ok a0 a1 a2 r1 hf1)) hc2)<|yl rfl (b false) y1<|ym rfl (b false)<|ym rfl (sFc a3)<|yd rfl (b true) (TOp.eqb (yc ent73 rfl rfl (bS bN) (s_l02Vector_ok a3 r2 hf3)) hc4)<|yl rfl (b false) y1<|yl rfl (b false) yp<|ym rfl (b false)<|ym rfl (sFc a3)<|yl rfl (i64 (a3.length : Int)) (LOp.len_sl und25 rfl rfl)<|yl rfl (ptr [i64 a1, (sFc a2)]) (LOp.fap und27 rfl siz2 rfl rfl rfl)<|yl rfl (i64 a1) (y2 agg2)<|yl rfl (b false) (LOp.eqb (LOp.neq rfl rfl rfl) hc5)<|yl rfl (b false) yp<|zN ?_
    refine RunC.wl (τ' := [(1, (sFc a3)), (2, ptr (mXc a0 a1 a2)), (19, b false)]) (Γ' := [⟨0, none⟩, ⟨0, none⟩]) ⟨aR, aR, aR, trivial⟩ ⟨⟨rfl, .inr rfl⟩, ⟨rfl, .inr rfl⟩, trivial⟩<|yF<|RunC.skip<|yS ?_
    obtain ⟨r3, hf6, h⟩ := oS h
    obtain ⟨z1, hf7, h⟩ := oS h
    rcases z1 with z1 | z1
    ·replace h := (osum_inl _ _ _).symm.trans h
     obtain ⟨r4, r5, hz2, h⟩ := obind2_some h
     cases hz2
     obtain ⟨hn8, h⟩ := need_some h
     refine yW<|ym rfl (sFc a3)<|ye rfl (oref 0 1 0 r3.length) [⟨1, some (r3.map f32)⟩, ⟨0, none⟩] (TOp.callBN (ls := [(r3.map f32)]) [0] (CallAs.func ent75 rfl rfl) (Bors.cons (Bor.ptr (bP (bP (bS bN)))) (bS bN)) rfl (s_l02Times_ok a0 a1 a2 a3 r3 hf6) (and_all (lts0_map (f := f32) (fun _ => rfl) _) rfl) (and_all (noss_map (f := f32) (fun _ => rfl) _) rfl) rfl (by decide) (ns_of ⟨⟨_, rfl⟩, trivial⟩))<|ROps.callO (A := [oref 0 1 0 r3.length]) (args := [oref 0 0 0 r3.length]) (Γc := [⟨0, some (r3.map f32)⟩]) (Γc' := [⟨0, some (r5.map f32)⟩]) (r' := tup [oref 0 1 0 r3.length, b r4]) (Γ' := [⟨1, some (r5.map f32)⟩, ⟨0, none⟩]) [(0, 1)] [] rfl (CallAs.func ent74 rfl rfl) rfl rfl (SelOk.of (ndB_ok rfl) (SelL.arr0 (f := f32) (fun _ => rfl) rfl trivial)) (live_of ⟨⟨_, _, rfl⟩, trivial⟩) (by simp [ren, rens, sigma, rens_f32, rens_f64, rens_i64, rens_ik, rens_str, rens_cp]) rfl (s_l02List_0o_ok0 r3 r4 r5 hf7) rfl (news_of trivial) (ndB_ok rfl) (by simp [ren, rens, sigma, of_decide_eq_true hn8]) (by simp [backOb, sigma, ren, rens, rens_f32, rens_f64, rens_i64, rens_ik, rens_str, rens_cp])<|yl rfl (oref 0 1 0 r3.length) y3<|yl rfl (b r4) y3<|ya rfl (oref 0 1 0 r3.length)<|ya rfl (b r4)<|zN ?_
     refine RunC.ret ?_
     have hq := oI h
     obtain ⟨hq0, hq⟩ := Prod.mk.inj hq
     subst q0
     subst q1
     exact yB (tup [oref 0 1 0 r5.length, b r4]) [(0, 1)] (Res.eq (Res.two rfl (RV.tmp rfl) (RV.tmp rfl)) (by rw [(show r5.length = r3.length from (of_decide_eq_true hn8))] <;> rfl)) (SelL.arr0 (f := f32) (fun _ => rfl) rfl trivial)
    ·replace h := (osum_inr _ _ _).symm.trans h
     obtain ⟨r6, r7, r8, hz3, h⟩ := obind3_some h
     cases hz3
     obtain ⟨hn9, h⟩ := need_some h
     refine yW<|ym rfl (sFc a3)<|ye rfl (oref 0 1 0 r3.length) [⟨1, some (r3.map f32)⟩, ⟨0, none⟩] (TOp.callBN (ls := [(r3.map f32)]) [0] (CallAs.func ent75 rfl rfl) (Bors.cons (Bor.ptr (bP (bP (bS bN)))) (bS bN)) rfl (s_l02Times_ok a0 a1 a2 a3 r3 hf6) (and_all (lts0_map (f := f32) (fun _ => rfl) _) rfl) (and_all (noss_map (f := f32) (fun _ => rfl) _) rfl) rfl (by decide) (ns_of ⟨⟨_, rfl⟩, trivial⟩))<|ROps.callO (A := [oref 0 1 0 r3.length]) (args := [oref 0 0 0 r3.length]) (Γc := [⟨0, some (r3.map f32)⟩]) (Γc' := [⟨0, some (r7.map f32)⟩, ⟨0, some (r8.map f32)⟩]) (r' := tup [oref 1 1 0 r8.length, b r6]) (Γ' := [⟨1, some (r7.map f32)⟩, ⟨1, some (r8.map f32)⟩]) [(0, 1)] [(1, 1)] rfl (CallAs.func ent74 rfl rfl) rfl rfl (SelOk.of (ndB_ok rfl) (SelL.arr0 (f := f32) (fun _ => rfl) rfl trivial)) (live_of ⟨⟨_, _, rfl⟩, trivial⟩) (by simp [ren, rens, sigma, rens_f32, rens_f64, rens_i64, rens_ik, rens_str, rens_cp]) rfl (s_l02List_0o_ok1 r3 r6 r7 r8 hf7) rfl (news_of ⟨⟨_, rfl, rfl⟩, trivial⟩) (show List.Nodup [0, 1] from by decide) (by simp [ren, rens, sigma, of_decide_eq_true hn9]) (by simp [backOb, sigma, ren, rens, rens_f32, rens_f64, rens_i64, rens_ik, rens_str, rens_cp])<|yl rfl (oref 1 1 0 r8.length) y3<|yl rfl (b r6) y3<|ya rfl (oref 1 1 0 r8.length)<|ya rfl (b r6)<|zN ?_
     refine RunC.ret ?_
     have hq := oI h
     obtain ⟨hq0, hq⟩ := Prod.mk.inj hq
     subst q0
     subst q1
     exact yB (tup [oref 1 1 0 r8.length, b r6]) [(1, 1)] (Res.two rfl (RV.tmp rfl) (RV.tmp rfl)) (SelL.arr0 (f := f32) (fun _ => rfl) rfl trivial)
  ·refine yW<|yd rfl (b true) (TOp.eqb (TOp.callB (CallAs.func ent59 rfl rfl) (Bors.cons (Bor.ptr (bP (bP (bS bN)))) bN) rfl rfl (s_l02Is_ok a0 a1 a2 r1 hf1)) hc2)<|yl rfl (b false) y1<|ym rfl (b false)<|ym rfl (sFc a3)<|yd rfl (b false) (TOp.eqb (yc ent73 rfl rfl (bS bN) (s_l02Vector_ok a3 r2 hf3)) hc4)<|yl rfl (b true) y0<|yl rfl (b true) yp<|ym rfl (b true)<|ROps.s rfl rfl rfl<|ROps.s rfl rfl rfl<|ROps.s rfl rfl rfl<|ROps.s rfl rfl rfl<|ROps.s rfl rfl rfl<|yl rfl (b true) yq<|zN ?_
   refine RunC.wl (τ' := [(1, (sFc a3)), (2, ptr (mXc a0 a1 a2)), (19, b true)]) (Γ' := [⟨0, none⟩, ⟨0, none⟩]) ⟨aR, aR, aR, trivial⟩ ⟨⟨rfl, .inr rfl⟩, ⟨rfl, .inr rfl⟩, trivial⟩<|yT<|zQ<|ya rfl nilsl<|ya rfl (b false)<|zN ?_
   refine RunC.nil_slot (Γ' := [⟨1, some (([] : List F).map f32)⟩, ⟨0, none⟩]) 4 0 rfl rfl rfl<|RunC.ret ?_
   have hq := oI h
   obtain ⟨hq0, hq⟩ := Prod.mk.inj hq
   subst q0
   subst q1
   exact yB (tup [oref 0 1 0 (([] : List F).length), b false]) [(0, 1)] (Res.eq (Res.two rfl (RV.tmp rfl) (RV.tmp rfl)) (by rw [(show ([] : List F).length = 0 from rfl)] <;> rfl)) (SelL.arr0 (f := f32) (fun _ => rfl) rfl trivial)
 ·refine yW<|yd rfl (b false) (TOp.eqb (TOp.callB (CallAs.func ent59 rfl rfl) (Bors.cons (Bor.ptr (bP (bP (bS bN)))) bN) rfl rfl (s_l02Is_ok a0 a1 a2 r1 hf1)) hc2)<|yl rfl (b true) y0<|ym rfl (b true)<|ROps.s rfl rfl rfl<|ROps.s rfl rfl rfl<|ROps.s rfl rfl rfl<|yl rfl (b true) yq<|ym rfl (b true)<|ROps.s rfl rfl rfl<|ROps.s rfl rfl rfl<|ROps.s rfl rfl rfl<|ROps.s rfl rfl rfl<|ROps.s rfl rfl rfl<|yl rfl (b true) yq<|zN ?_
  refine RunC.wl (τ' := [(1, (sFc a3)), (2, ptr (mXc a0 a1 a2)), (19, b true)]) (Γ' := [⟨0, none⟩, ⟨0, none⟩]) ⟨aR, aR, aR, trivial⟩ ⟨⟨rfl, .inr rfl⟩, ⟨rfl, .inr rfl⟩, trivial⟩<|yT<|zQ<|ya rfl nilsl<|ya rfl (b false)<|zN ?_
  refine RunC.nil_slot (Γ' := [⟨1, some (([] : List F).map f32)⟩, ⟨0, none⟩]) 4 0 rfl rfl rfl<|RunC.ret ?_
  have hq := oI h
  obtain ⟨hq0, hq⟩ := Prod.mk.inj hq
  subst q0
  subst q1
  exact yB (tup [oref 0 1 0 (([] : List F).length), b false]) [(0, 1)] (Res.eq (Res.two rfl (RV.tmp rfl) (RV.tmp rfl)) (by rw [(show ([] : List F).length = 0 from rfl)] <;> rfl)) (SelL.arr0 (f := f32) (fun _ => rfl) rfl trivial)
def s_l02Flip_b1 (a0 : Int) (a1 : Int) (a2 : List F) (L6 : List F) (v7 : Int) : Option (LR ((List F) × Int) ((List F)) (Int × Int × (List F))) :=
 olet (IntKind.i64.wrap (a0 * a1)) fun (x8 : Int) =>
 bsel (decide (v7 < x8)) (
  need (!decide (a0 = 0)) <|
  olet (v7.tmod a0) fun (x9 : Int) =>
  need (!decide (a0 = 0)) <|
  olet (IntKind.i64.wrap (v7.tdiv a0)) fun (x10 : Int) =>
  obind (s_l02At a0 a1 a2 x9 x10) fun (r11 : F) =>
  need (apok 4 L6.length 1) <|
  olet (IntKind.i64.wrap (v7 + 1)) fun (x12 : Int) =>
  some (LR.next ((L6 ++ ([r11] : List F)), x12))) (
  some (LR.out L6))
def s_l02Flip_s1 (a0 : Int) (a1 : Int) (a2 : List F) : ((List F) × Int) → Option (LR ((List F) × Int) ((List F)) (Int × Int × (List F))) := fun s => s_l02Flip_b1 a0 a1 a2 s.1 s.2
def s_l02Flip_k1 (r1 : Int) (r2 : Int) (L15 : List F) : Option (Int × Int × (List F)) :=
 some (r1, r2, L15)
def s_l02Flip (a0 : Int) (a1 : Int) (a2 : List F) : Option (Int × Int × (List F)) :=
 obind3 (s_l02Blank a1 a0) fun (r1 : Int) (r2 : Int) (r3 : List F) =>
 obind (loopM (s_l02Flip_s1 a0 a1 a2) (r3, 0)) fun z => osum z (fun e => s_l02Flip_k1 r1 r2 e) (fun r => some r)
theorem s_l02Flip_ok (a0 : Int) (a1 : Int) (a2 : List F) (q0 : Int) (q1 : Int) (q2 : List F) (h : s_l02Flip a0 a1 a2 = some (q0, q1, q2)) : Ev Tryz.prog 76 [ptr (mXc a0 a1 a2)] [] (agg (oXc q0 q1 0 0 q2.length)) [⟨0, some (q2.map f32)⟩] := by
 refine yE Tryz.func76 4 95 0 [(0, ptr (mXc a0 a1 a2))] [⟨0, none⟩, ⟨0, none⟩, ⟨0, none⟩, ⟨0, none⟩] rfl ?_
 unfold s_l02Flip at h
 refine zQ<|ye rfl (optr 0 1 0) [⟨1, some zMx⟩, ⟨0, none⟩, ⟨0, none⟩, ⟨0, none⟩] (TOp.alloc_o (g := ⟨0, none⟩) 0 rfl zer27 zok27 rfl)<|zN ?_
 refine yS ?_
 obtain ⟨r1, r2, r3, hf1, h⟩ := obind3_some h
 refine RunC.region_draw (Γ' := [⟨1, some zMx⟩, ⟨1, some (r3.map f32)⟩, ⟨1, some zMx⟩, ⟨0, none⟩]) 10 mixed 
  (tm rfl (ptr (mXc a0 a1 a2)) <|
  (tl rfl (ptr (mXc a0 a1 a2)) (LOp.nilCheck_ptr rfl rfl) <|
  (tl rfl (ptr [i64 a1, (sFc a2)]) (LOp.fap und27 rfl siz2 rfl rfl rfl) <|
  (tl rfl (i64 a1) (y2 agg2) <|
  (tm rfl (ptr (mXc a0 a1 a2)) <|
  (tl rfl (ptr (mXc a0 a1 a2)) (LOp.nilCheck_ptr rfl rfl) <|
  (tl rfl (ptr (mXc a0 a1 a2)) (LOp.fap und27 rfl siz2 rfl rfl rfl) <|
  (tl rfl (i64 a0) (y2 agg2) <|
  (TR.d (r := agg (oXc r1 r2 1 1 r3.length)) (fs := [(1, (r3.map f32))]) rfl rfl (TOp.callBN (ls := [(r3.map f32)]) [1] (CallAs.func ent35 rfl rfl) (bP bN0) rfl (s_l02Blank_ok a1 a0 r1 r2 r3 hf1) (and_all (lts0_map (f := f32) (fun _ => rfl) _) rfl) (and_all (noss_map (f := f32) (fun _ => rfl) _) rfl) rfl (by decide) (ns_of ⟨⟨_, rfl⟩, trivial⟩)) <|
  (TR.d (r := optr 2 1 0) (fs := [(2, zMx)]) rfl rfl (TOp.alloc_o (g := ⟨0, none⟩) 2 rfl zer27 zok27 rfl) <|
  TR.nil)))))))))) rfl (by kernel_rfl) rfl (fills_of (by show List.Nodup [1, 2]; decide) ⟨⟨_, rfl⟩, ⟨_, rfl⟩, trivial⟩) rfl ?_
 iterate 10 refine ROps.dropS ?_
 refine ROps.drop0<|ys (agg (oXc r1 r2 1 1 r3.length)) (oXc r1 r2 1 1 r3.length) [⟨1, some zMx⟩, ⟨1, some (r3.map f32)⟩, ⟨1, some (oXc r1 r2 1 1 r3.length)⟩, ⟨0, none⟩] siz27<|zN ?_
 refine yS<|zQ<|ya rfl (i64 0)<|zN ?_
 obtain ⟨z2, hz_2, h⟩ := oS h
 refine RunC.cutN (fun τ Γ => ∃ (L15 : List F) (u13 : Nat) (u14 : Nat), WeakLe τ [(2, optr 0 1 0), (3, optr 2 1 0)] ∧ DeadLe Γ [⟨1, some zMx⟩, ⟨u13, some (L15.map f32)⟩, ⟨1, some (oXc r1 r2 1 u13 L15.length)⟩, ⟨u14, none⟩] ∧ z2 = .inl L15) ?_ ?_
 ·refine RunC.block (RunC.loop (RunL.loopM (x := z2) (s_l02Flip_s1 a0 a1 a2) (fun (s : (List F) × Int) τ Γ => ∃ (u4 : Nat) (u5 : Nat), WeakLe τ [(0, ptr (mXc a0 a1 a2)), (2, optr 0 1 0), (3, optr 2 1 0), (4, i64 s.2)] ∧ DeadLe Γ [⟨1, some zMx⟩, ⟨u4, some (s.1.map f32)⟩, ⟨1, some [i64 r1, i64 r2, oref 1 u4 0 s.1.length]⟩, ⟨u5, none⟩]) ?_ _ _ _ hz_2 ⟨1, 0, ⟨aR, aR, aR, aR, trivial⟩, ⟨⟨rfl, .inr rfl⟩, ⟨rfl, .inr rfl⟩, ⟨rfl, .inr (by first | rfl | simp)⟩, ⟨rfl, .inl rfl⟩, trivial⟩⟩))
  rintro ⟨L6, v7⟩ τ2 Γ2 y2_ ⟨u4, u5, hw2, hd2⟩ h2_ ho2 hr2
  refine RunC.wl (τ' := [(0, ptr (mXc a0 a1 a2)), (2, optr 0 1 0), (3, optr 2 1 0), (4, i64 v7)]) (Γ' := [⟨1, some zMx⟩, ⟨u4, some (L6.map f32)⟩, ⟨1, some (oXc r1 r2 1 u4 L6.length)⟩, ⟨u5, none⟩]) hw2 hd2 ?_
  replace h2_ : s_l02Flip_b1 a0 a1 a2 L6 v7 = some y2_ := h2_
  unfold s_l02Flip_b1 at h2_
  refine yS<|yS ?_
  obtain ⟨x8, hx2, h2_⟩ := oL h2_
  rcases oB h2_ with ⟨hc3, h2_⟩ | ⟨hc3, h2_⟩
  ·refine RunC.region_draw (Γ' := [⟨1, some zMx⟩, ⟨u4, some (L6.map f32)⟩, ⟨1, some (oXc r1 r2 1 u4 L6.length)⟩, ⟨u5, none⟩]) 11 mixed 
    (tm rfl (i64 v7) <|
    (tm rfl (ptr (mXc a0 a1 a2)) <|
    (tl rfl (ptr (mXc a0 a1 a2)) (LOp.nilCheck_ptr rfl rfl) <|
    (tl rfl (ptr (mXc a0 a1 a2)) (LOp.fap und27 rfl siz2 rfl rfl rfl) <|
    (tl rfl (i64 a0) (y2 agg2) <|
    (tm rfl (ptr (mXc a0 a1 a2)) <|
    (tl rfl (ptr (mXc a0 a1 a2)) (LOp.nilCheck_ptr rfl rfl) <|
    (tl rfl (ptr [i64 a1, (sFc a2)]) (LOp.fap und27 rfl siz2 rfl rfl rfl) <|
    (tl rfl (i64 a1) (y2 agg2) <|
    (tl rfl (i64 x8) (LOp.eqr (LOp.mul rfl rfl rfl) (congrArg (ik .i64) hx2)) <|
    (tl rfl (b true) (LOp.eqb (LOp.lss rfl rfl rfl) hc3) <|
    TR.nil))))))))))) rfl (by kernel_rfl) rfl fills_nil rfl ?_
   iterate 11 refine ROps.dropS ?_
   refine ROps.drop0<|zN ?_
   refine yT<|RunC.skip<|yS<|RunC.block ?_
   obtain ⟨hz4, h2_⟩ := need_some h2_
   obtain ⟨x9, hx5, h2_⟩ := oL h2_
   obtain ⟨hz6, h2_⟩ := need_some h2_
   obtain ⟨x10, hx7, h2_⟩ := oL h2_
   obtain ⟨r11, hf8, h2_⟩ := oS h2_
   obtain ⟨hm9, h2_⟩ := need_some h2_
   refine RunC.region_draw (Γ' := [⟨1, some zMx⟩, ⟨u4, some (L6.map f32)⟩, ⟨1, some (oXc r1 r2 1 u4 L6.length)⟩, ⟨(u5 + 1), some (([r11] : List F).map f32)⟩]) 17 mixed 
    (tl rfl (optr 2 1 2) (LOp.fao und27 rfl siz25 rfl rfl rfl) <|
    (TR.d (r := oref 1 u4 0 L6.length) (fs := []) rfl rfl (TOp.load1_o rfl rfl agg25 rfl rfl) <|
    (tm rfl (ptr (mXc a0 a1 a2)) <|
    (tm rfl (i64 v7) <|
    (tm rfl (ptr (mXc a0 a1 a2)) <|
    (tl rfl (ptr (mXc a0 a1 a2)) (LOp.nilCheck_ptr rfl rfl) <|
    (tl rfl (ptr (mXc a0 a1 a2)) (LOp.fap und27 rfl siz2 rfl rfl rfl) <|
    (tl rfl (i64 a0) (y2 agg2) <|
    (tl rfl (i64 x9) (LOp.eqr (LOp.rem rfl rfl rfl (nz hz4)) (congrArg (ik .i64) hx5)) <|
    (tm rfl (i64 v7) <|
    (tm rfl (ptr (mXc a0 a1 a2)) <|
    (tl rfl (ptr (mXc a0 a1 a2)) (LOp.nilCheck_ptr rfl rfl) <|
    (tl rfl (ptr (mXc a0 a1 a2)) (LOp.fap und27 rfl siz2 rfl rfl rfl) <|
    (tl rfl (i64 a0) (y2 agg2) <|
    (tl rfl (i64 x10) (LOp.eqr (LOp.quo rfl rfl rfl (nz hz6)) (congrArg (ik .i64) hx7)) <|
    (TR.d (r := f32 r11) (fs := []) rfl rfl (TOp.callB (CallAs.func ent87 rfl rfl) (Bors.cons (Bor.ptr (bP (bP (bS bN)))) (bP bN0)) rfl rfl (s_l02At_ok a0 a1 a2 x9 x10 r11 hf8)) <|
    (TR.d (r := oref 3 (u5 + 1) 0 1) (fs := [(3, (([r11] : List F).map f32))]) rfl rfl (TOp.buildSlice_o (g := ⟨u5, none⟩) (za := f32 (some 0)) (qs := [(0, [f32 r11])]) 3 rfl und25 siz41 zer41 rfl zel41 rfl rfl ⟨rfl, ⟨_, ALe.refl _, rfl⟩, trivial⟩ rfl) <|
    TR.nil))))))))))))))))) rfl (by kernel_rfl) rfl (fills_of (by show List.Nodup [3]; decide) ⟨⟨_, rfl⟩, trivial⟩) rfl ?_
   iterate 17 refine ROps.dropS ?_
   refine ROps.drop0<|ROps.app (f := f32) (xs := L6) (ys := ([r11] : List F)) (Γ' := [⟨1, some zMx⟩, ⟨(u4 + 1), some ((L6 ++ ([r11] : List F)).map f32)⟩, ⟨1, some (oXc r1 r2 1 u4 L6.length)⟩, ⟨(u5 + 1), some (([r11] : List F).map f32)⟩]) rfl pun25 inf41 rfl rfl rfl rfl rfl rfl rfl rfl rfl (by simp) (ReadAs.own rfl (by simp)) (ones_map (fun _ => rfl)) (ap_by hm9) (ap_mx hm9) rfl<|yl rfl (optr 2 1 2) (LOp.fao und27 rfl siz25 rfl rfl rfl)<|ys (oref 1 (u4 + 1) 0 (L6.length + 1)) [i64 r1, i64 r2, oref 1 (u4 + 1) 0 (L6.length + 1)] ([⟨1, some zMx⟩, ⟨(u4 + 1), some ((L6 ++ ([r11] : List F)).map f32)⟩, ⟨1, some [i64 r1, i64 r2, oref 1 (u4 + 1) 0 (L6.length + 1)]⟩, ⟨(u5 + 1), some (([r11] : List F).map f32)⟩]) siz25<|zN ?_
   refine RunC.wl (τ' := [(0, ptr (mXc a0 a1 a2)), (2, optr 0 1 0), (3, optr 2 1 0), (4, i64 v7)]) (Γ' := [⟨1, some zMx⟩, ⟨(u4 + 1), some ((L6 ++ ([r11] : List F)).map f32)⟩, ⟨1, some [i64 r1, i64 r2, oref 1 (u4 + 1) 0 (L6.length + 1)]⟩, ⟨(u5 + 1), none⟩]) ⟨aR, aR, aR, aR, trivial⟩ ⟨⟨rfl, .inr rfl⟩, ⟨rfl, .inr rfl⟩, ⟨rfl, .inr rfl⟩, ⟨rfl, .inl rfl⟩, trivial⟩ ?_
   obtain ⟨x12, hx10, h2_⟩ := oL h2_
   refine yW<|ym rfl (i64 v7)<|yl rfl (i64 x12) (LOp.eqr (LOp.add rfl rfl rfl) (congrArg (ik .i64) hx10))<|ya rfl (i64 x12)<|zN ?_
   cases oI h2_
   exact ⟨_, rfl, (u4 + 1), (u5 + 1), ⟨aR, aR, aR, aR, trivial⟩, ⟨⟨rfl, .inr rfl⟩, ⟨rfl, .inr rfl⟩, ⟨rfl, .inr (by first | rfl | simp)⟩, ⟨rfl, .inl rfl⟩, trivial⟩⟩
  ·refine RunC.region_draw (Γ' := [⟨1, some zMx⟩, ⟨u4, some (L6.map f32)⟩, ⟨1, some (oXc r1 r2 1 u4 L6.length)⟩, ⟨u5, none⟩]) 11 mixed 
    (tm rfl (i64 v7) <|
    (tm rfl (ptr (mXc a0 a1 a2)) <|
    (tl rfl (ptr (mXc a0 a1 a2)) (LOp.nilCheck_ptr rfl rfl) <|
    (tl rfl (ptr (mXc a0 a1 a2)) (LOp.fap und27 rfl siz2 rfl rfl rfl) <|
    (tl rfl (i64 a0) (y2 agg2) <|
    (tm rfl (ptr (mXc a0 a1 a2)) <|
    (tl rfl (ptr (mXc a0 a1 a2)) (LOp.nilCheck_ptr rfl rfl) <|
    (tl rfl (ptr [i64 a1, (sFc a2)]) (LOp.fap und27 rfl siz2 rfl rfl rfl) <|
    (tl rfl (i64 a1) (y2 agg2) <|
    (tl rfl (i64 x8) (LOp.eqr (LOp.mul rfl rfl rfl) (congrArg (ik .i64) hx2)) <|
    (tl rfl (b false) (LOp.eqb (LOp.lss rfl rfl rfl) hc3) <|
    TR.nil))))))))))) rfl (by kernel_rfl) rfl fills_nil rfl ?_
   iterate 11 refine ROps.dropS ?_
   refine ROps.drop0<|zN ?_
   refine yF<|RunC.exit ?_
   cases oI h2_
   have hx := ho2 _ rfl
   exact ⟨L6, u4, u5, ⟨aR, aR, trivial⟩, ⟨⟨rfl, .inr rfl⟩, ⟨rfl, .inr rfl⟩, ⟨rfl, .inr (by first | rfl | simp)⟩, ⟨rfl, .inl rfl⟩, trivial⟩, hx⟩
 ·rintro τ3 Γ3 ⟨L15, u13, u14, hw3, hd3, rfl⟩
  refine RunC.wl hw3 hd3 ?_
  replace h : s_l02Flip_k1 r1 r2 L15 = some (q0, q1, q2) := h
  unfold s_l02Flip_k1 at h
  refine zQ<|yd rfl (agg (oXc r1 r2 1 u13 L15.length)) (TOp.loadAgg_o rfl agg27 siz27 rfl rfl rfl rfl)<|ys (agg (oXc r1 r2 1 u13 L15.length)) (oXc r1 r2 1 u13 L15.length) [⟨1, some (oXc r1 r2 1 u13 L15.length)⟩, ⟨u13, some (L15.map f32)⟩, ⟨1, some (oXc r1 r2 1 u13 L15.length)⟩, ⟨u14, none⟩] siz27<|zN ?_
  refine RunC.ret ?_
  have hq := oI h
  obtain ⟨hq0, hq⟩ := Prod.mk.inj hq
  obtain ⟨hq1, hq⟩ := Prod.mk.inj hq
  subst q0
  subst q1
  subst q2
  exact bodyQ.mk (r' := agg (oXc r1 r2 1 u13 L15.length)) [(1, u13)] (.inr rfl) rfl (ndB_ok rfl) (by simp [ren, rens, sigma]) rfl (Res.one rfl (RV.cell agg27 siz27 rfl rfl rfl rfl)) (SelL.arr0 (f := f32) (fun _ => rfl) rfl trivial)
def s_FlipMatrix (a0 : Int) (a1 : Int) (a2 : List F) : Option (Int × Int × Bool × (List F)) :=
 obind (s_l02Is a0 a1 a2) fun (r1 : Bool) =>
 bsel r1 (
  obind3 (s_l02Flip a0 a1 a2) fun (r2 : Int) (r3 : Int) (r4 : List F) =>
  some (r2, r3, true, r4)) (
  some (0, 0, false, ([] : List F)))
theorem s_FlipMatrix_ok (a0 : Int) (a1 : Int) (a2 : List F) (q0 : Int) (q1 : Int) (q2 : Bool) (q3 : List F) (h : s_FlipMatrix a0 a1 a2 = some (q0, q1, q2, q3)) : Ev Tryz.prog 24 [agg (mXc a0 a1 a2)] [] (tup [agg (oXc q0 q1 0 0 q3.length), b q2]) [⟨0, some (q3.map f32)⟩] := by
 refine yE Tryz.func24 2 17 0 [(0, agg (mXc a0 a1 a2))] [⟨0, none⟩, ⟨0, none⟩] rfl ?_
 unfold s_FlipMatrix at h
 refine zQ<|yd rfl (ptr (mXc a0 a1 a2)) (TOp.box_s rfl rfl rfl)<|ye rfl (optr 0 1 0) [⟨1, some zMx⟩, ⟨0, none⟩] (TOp.alloc_o (g := ⟨0, none⟩) 0 rfl zer27 zok27 rfl)<|ya rfl (b false)<|zN ?_
 refine yS<|yS ?_
 obtain ⟨r1, hf1, h⟩ := oS h
 rcases oB h with ⟨hc2, h⟩ | ⟨hc2, h⟩
 ·refine yW<|yd rfl (b true) (TOp.eqb (TOp.callB (CallAs.func ent59 rfl rfl) (Bors.cons (Bor.ptr (bP (bP (bS bN)))) bN) rfl rfl (s_l02Is_ok a0 a1 a2 r1 hf1)) hc2)<|yl rfl (b false) y1<|zN ?_
  refine yF<|RunC.skip<|yS ?_
  obtain ⟨r2, r3, r4, hf3, h⟩ := obind3_some h
  refine yW<|ye rfl (agg (oXc r2 r3 1 1 r4.length)) [⟨1, some zMx⟩, ⟨1, some (r4.map f32)⟩] (TOp.callBN (ls := [(r4.map f32)]) [1] (CallAs.func ent76 rfl rfl) (Bors.cons (Bor.ptr (bP (bP (bS bN)))) bN) rfl (s_l02Flip_ok a0 a1 a2 r2 r3 r4 hf3) (and_all (lts0_map (f := f32) (fun _ => rfl) _) rfl) (and_all (noss_map (f := f32) (fun _ => rfl) _) rfl) rfl (by decide) (ns_of ⟨⟨_, rfl⟩, trivial⟩))<|ys (agg (oXc r2 r3 1 1 r4.length)) (oXc r2 r3 1 1 r4.length) [⟨1, some (oXc r2 r3 1 1 r4.length)⟩, ⟨1, some (r4.map f32)⟩] siz27<|ya rfl (b true)<|zN ?_
  refine RunC.ret ?_
  have hq := oI h
  obtain ⟨hq0, hq⟩ := Prod.mk.inj hq
  obtain ⟨hq1, hq⟩ := Prod.mk.inj hq
  obtain ⟨hq2, hq⟩ := Prod.mk.inj hq
  subst q0
  subst q1
  subst q2
  subst q3
  exact yB (tup [agg (oXc r2 r3 1 1 r4.length), b true]) [(1, 1)] (Res.two rfl (RV.cell agg27 siz27 rfl rfl rfl rfl) (RV.tmp rfl)) (SelL.arr0 (f := f32) (fun _ => rfl) rfl trivial)
 ·refine yW<|yd rfl (b false) (TOp.eqb (TOp.callB (CallAs.func ent59 rfl rfl) (Bors.cons (Bor.ptr (bP (bP (bS bN)))) bN) rfl rfl (s_l02Is_ok a0 a1 a2 r1 hf1)) hc2)<|yl rfl (b true) y0<|zN ?_
  refine yT<|zQ<|yl rfl (agg zMx) (LOp.build (qs := []) zer27 zok27 und27 plc27 rfl trivial rfl)<|ys (agg zMx) zMx [⟨1, some zMx⟩, ⟨0, none⟩] siz27<|ya rfl (b false)<|zN ?_
  refine RunC.nil_cell (l' := [i64 0, i64 0, oref 1 1 0 0]) (Γ' := [⟨1, some [i64 0, i64 0, oref 1 1 0 0]⟩, ⟨1, some (([] : List F).map f32)⟩]) 0 2 1 rfl rfl rfl rfl rfl<|RunC.ret ?_
  have hq := oI h
  obtain ⟨hq0, hq⟩ := Prod.mk.inj hq
  obtain ⟨hq1, hq⟩ := Prod.mk.inj hq
  obtain ⟨hq2, hq⟩ := Prod.mk.inj hq
  subst q0
  subst q1
  subst q2
  subst q3
  exact yB (tup [agg [i64 0, i64 0, oref 1 1 0 (([] : List F).length)], b false]) [(1, 1)] (Res.eq (Res.two rfl (RV.cell agg27 siz27 rfl rfl rfl rfl) (RV.tmp rfl)) (by rw [(show ([] : List F).length = 0 from rfl)] <;> rfl)) (SelL.arr0 (f := f32) (fun _ => rfl) rfl trivial)
def s_l02Zero (a0 : Int) (a1 : Int) : Option (Int × Int × (List F)) :=
 olet (IntKind.i64.wrap (a0 * a1)) fun (x1 : Int) =>
 need (mkok 4 x1) <|
 some (a0, a1, (List.replicate x1.toNat (some 0)))
theorem s_l02Zero_ok (a0 : Int) (a1 : Int) (q0 : Int) (q1 : Int) (q2 : List F) (h : s_l02Zero a0 a1 = some (q0, q1, q2)) : Ev Tryz.prog 111 [i64 a0, i64 a1] [] (agg (oXc q0 q1 0 0 q2.length)) [⟨0, some (q2.map f32)⟩] := by
 refine yE Tryz.func111 2 25 0 [(0, i64 a0), (1, i64 a1)] [⟨0, none⟩, ⟨0, none⟩] rfl ?_
 unfold s_l02Zero at h
 refine zQ<|ye rfl (optr 0 1 0) [⟨1, some zMx⟩, ⟨0, none⟩] (TOp.alloc_o (g := ⟨0, none⟩) 0 rfl zer27 zok27 rfl)<|zN ?_
 refine yS ?_
 obtain ⟨x1, hx1, h⟩ := oL h
 obtain ⟨hm2, h⟩ := need_some h
 refine yW<|ym rfl (i64 a0)<|ym rfl (i64 a1)<|ym rfl (i64 a0)<|ym rfl (i64 a1)<|yl rfl (i64 x1) (LOp.eqr (LOp.mul rfl rfl rfl) (congrArg (ik .i64) hx1))<|ye rfl (oref 1 1 0 x1.toNat) [⟨1, some zMx⟩, ⟨1, some ((List.replicate x1.toNat (some 0)).map f32)⟩] (TOp.mkS (g := ⟨0, none⟩) (t := 25) (e := 41) (by_ := 4) (f := f32) (zv := some 0) 1 rfl und25 tin41 rfl siz41 zer41 rfl zel41 rfl rfl rfl hm2)<|yl rfl (agg [i64 a0, i64 a1, oref 1 1 0 x1.toNat]) (LOp.build (qs := [(0, [i64 a0]), (1, [i64 a1]), (2, [oref 1 1 0 x1.toNat])]) zer27 zok27 und27 plc27 rfl ⟨rfl, ⟨_, ALe.refl _, rfl⟩, ⟨rfl, ⟨_, ALe.refl _, rfl⟩, ⟨rfl, ⟨_, ALe.refl _, rfl⟩, trivial⟩⟩⟩ rfl)<|ys (agg [i64 a0, i64 a1, oref 1 1 0 x1.toNat]) [i64 a0, i64 a1, oref 1 1 0 x1.toNat] ([⟨1, some [i64 a0, i64 a1, oref 1 1 0 x1.toNat]⟩, ⟨1, some ((List.replicate x1.toNat (some 0)).map f32)⟩]) siz27<|zN ?_
 refine RunC.ret ?_
 have hq := oI h
 obtain ⟨hq0, hq⟩ := Prod.mk.inj hq
 obtain ⟨hq1, hq⟩ := Prod.mk.inj hq
 subst q0
 subst q1
 subst q2
 exact yB (agg [i64 a0, i64 a1, oref 1 1 0 ((List.replicate x1.toNat (some 0)).length)]) [(1, 1)] (Res.eq (Res.one rfl (RV.cell agg27 siz27 rfl rfl rfl rfl)) (by rw [(show (List.replicate x1.toNat (some 0)).length = x1.toNat from by simp)] <;> rfl)) (SelL.arr0 (f := f32) (fun _ => rfl) rfl trivial)
def s_l02Unit_b1 (a0 : Int) (L4 : List F) (v6 : Int) : Option (LR ((List F) × Int) ((List F)) (Int × Int × (List F))) :=
 bsel (decide (v6 < a0)) (
  olet (IntKind.i64.wrap (v6 * a0)) fun (x7 : Int) =>
  olet (IntKind.i64.wrap (x7 + v6)) fun (x8 : Int) =>
  obind (setAt? L4 x8 (some 1065353216)) fun (L9 : List F) =>
  olet (IntKind.i64.wrap (v6 + 1)) fun (x10 : Int) =>
  some (LR.next (L9, x10))) (
  some (LR.out L4))
def s_l02Unit_s1 (a0 : Int) : ((List F) × Int) → Option (LR ((List F) × Int) ((List F)) (Int × Int × (List F))) := fun s => s_l02Unit_b1 a0 s.1 s.2
def s_l02Unit_k1 (r1 : Int) (r2 : Int) (L11 : List F) : Option (Int × Int × (List F)) :=
 some (r1, r2, L11)
def s_l02Unit (a0 : Int) : Option (Int × Int × (List F)) :=
 obind3 (s_l02Zero a0 a0) fun (r1 : Int) (r2 : Int) (r3 : List F) =>
 obind (loopM (s_l02Unit_s1 a0) (r3, 0)) fun z => osum z (fun e => s_l02Unit_k1 r1 r2 e) (fun r => some r)
theorem s_l02Unit_ok (a0 : Int) (q0 : Int) (q1 : Int) (q2 : List F) (h : s_l02Unit a0 = some (q0, q1, q2)) : Ev Tryz.prog 78 [i64 a0] [] (agg (oXc q0 q1 0 0 q2.length)) [⟨0, some (q2.map f32)⟩] := by
 refine yE Tryz.func78 3 45 0 [(0, i64 a0)] [⟨0, none⟩, ⟨0, none⟩, ⟨0, none⟩] rfl ?_
 unfold s_l02Unit at h
 refine zQ<|ye rfl (optr 0 1 0) [⟨1, some zMx⟩, ⟨0, none⟩, ⟨0, none⟩] (TOp.alloc_o (g := ⟨0, none⟩) 0 rfl zer27 zok27 rfl)<|zN ?_
 refine yS ?_
 obtain ⟨r1, r2, r3, hf1, h⟩ := obind3_some h
 refine yW<|ym rfl (i64 a0)<|ym rfl (i64 a0)<|ye rfl (agg (oXc r1 r2 1 1 r3.length)) [⟨1, some zMx⟩, ⟨1, some (r3.map f32)⟩, ⟨0, none⟩] (TOp.callBN (ls := [(r3.map f32)]) [1] (CallAs.func ent111 rfl rfl) (bP bN0) rfl (s_l02Zero_ok a0 a0 r1 r2 r3 hf1) (and_all (lts0_map (f := f32) (fun _ => rfl) _) rfl) (and_all (noss_map (f := f32) (fun _ => rfl) _) rfl) rfl (by decide) (ns_of ⟨⟨_, rfl⟩, trivial⟩))<|ye rfl (optr 2 1 0) [⟨1, some zMx⟩, ⟨1, some (r3.map f32)⟩, ⟨1, some zMx⟩] (TOp.alloc_o (g := ⟨0, none⟩) 2 rfl zer27 zok27 rfl)<|ys (agg (oXc r1 r2 1 1 r3.length)) (oXc r1 r2 1 1 r3.length) [⟨1, some zMx⟩, ⟨1, some (r3.map f32)⟩, ⟨1, some (oXc r1 r2 1 1 r3.length)⟩] siz27<|zN ?_
 refine yS<|zQ<|ya rfl (i64 0)<|zN ?_
 obtain ⟨z2, hz_2, h⟩ := oS h
 refine RunC.cutN (fun τ Γ => ∃ (L11 : List F), L11.length = r3.length ∧ WeakLe τ [(2, optr 0 1 0), (3, optr 2 1 0)] ∧ DeadLe Γ [⟨1, some zMx⟩, ⟨1, some (L11.map f32)⟩, ⟨1, some (oXc r1 r2 1 1 r3.length)⟩] ∧ z2 = .inl L11) ?_ ?_
 ·refine RunC.block (RunC.loop (RunL.loopM (x := z2) (s_l02Unit_s1 a0) (fun (s : (List F) × Int) τ Γ => s.1.length = r3.length ∧ WeakLe τ [(0, i64 a0), (2, optr 0 1 0), (3, optr 2 1 0), (4, i64 s.2)] ∧ DeadLe Γ [⟨1, some zMx⟩, ⟨1, some (s.1.map f32)⟩, ⟨1, some (oXc r1 r2 1 1 r3.length)⟩]) ?_ _ _ _ hz_2 ⟨rfl, ⟨aR, aR, aR, aR, trivial⟩, ⟨⟨rfl, .inr rfl⟩, ⟨rfl, .inr rfl⟩, ⟨rfl, .inr rfl⟩, trivial⟩⟩))
  rintro ⟨L4, v6⟩ τ2 Γ2 y2_ ⟨hl5, hw2, hd2⟩ h2_ ho2 hr2
  refine RunC.wl (τ' := [(0, i64 a0), (2, optr 0 1 0), (3, optr 2 1 0), (4, i64 v6)]) (Γ' := [⟨1, some zMx⟩, ⟨1, some (L4.map f32)⟩, ⟨1, some (oXc r1 r2 1 1 r3.length)⟩]) hw2 hd2 ?_
  replace hl5 : L4.length = r3.length := hl5
  replace h2_ : s_l02Unit_b1 a0 L4 v6 = some y2_ := h2_
  unfold s_l02Unit_b1 at h2_
  refine yS<|yS ?_
  rcases oB h2_ with ⟨hc2, h2_⟩ | ⟨hc2, h2_⟩
  ·refine yW<|ym rfl (i64 v6)<|ym rfl (i64 a0)<|yl rfl (b true) (LOp.eqb (LOp.lss rfl rfl rfl) hc2)<|zN ?_
   refine yT<|RunC.skip<|yS<|RunC.block ?_
   obtain ⟨x7, hx3, h2_⟩ := oL h2_
   obtain ⟨x8, hx4, h2_⟩ := oL h2_
   obtain ⟨L9, he5, h2_⟩ := oS h2_
   refine yW<|yl rfl (optr 2 1 2) (LOp.fao und27 rfl siz25 rfl rfl rfl)<|yd rfl (oref 1 1 0 r3.length) (TOp.load1_o rfl rfl agg25 rfl rfl)<|ym rfl (i64 v6)<|ym rfl (i64 a0)<|yl rfl (i64 x7) (LOp.eqr (LOp.mul rfl rfl rfl) (congrArg (ik .i64) hx3))<|ym rfl (i64 v6)<|yl rfl (i64 x8) (LOp.eqr (LOp.add rfl rfl rfl) (congrArg (ik .i64) hx4))<|yd rfl (optr 1 1 x8.toNat) (TOp.ixo und25 siz41 rfl rfl rfl (set_in he5 hl5) rfl)<|ROps.st (f := f32) (i := x8) (Γ' := [⟨1, some zMx⟩, ⟨1, some (L9.map f32)⟩, ⟨1, some (oXc r1 r2 1 1 r3.length)⟩]) rfl siz41 rfl rfl rfl (ALe.fl (by kernel_rfl) (by kernel_rfl)) rfl rfl rfl he5 rfl<|zN ?_
   obtain ⟨x10, hx6, h2_⟩ := oL h2_
   refine yW<|ym rfl (i64 v6)<|yl rfl (i64 x10) (LOp.eqr (LOp.add rfl rfl rfl) (congrArg (ik .i64) hx6))<|ya rfl (i64 x10)<|zN ?_
   cases oI h2_
   exact ⟨_, rfl, ((setAt?_len he5).trans hl5), ⟨aR, aR, aR, aR, trivial⟩, ⟨⟨rfl, .inr rfl⟩, ⟨rfl, .inr rfl⟩, ⟨rfl, .inr rfl⟩, trivial⟩⟩
  ·refine yW<|ym rfl (i64 v6)<|ym rfl (i64 a0)<|yl rfl (b false) (LOp.eqb (LOp.lss rfl rfl rfl) hc2)<|zN ?_
   refine yF<|RunC.exit ?_
   cases oI h2_
   have hx := ho2 _ rfl
   exact ⟨L4, hl5, ⟨aR, aR, trivial⟩, ⟨⟨rfl, .inr rfl⟩, ⟨rfl, .inr rfl⟩, ⟨rfl, .inr rfl⟩, trivial⟩, hx⟩
 ·rintro τ3 Γ3 ⟨L11, hl12, hw3, hd3, rfl⟩
  refine RunC.wl hw3 hd3 ?_
  replace h : s_l02Unit_k1 r1 r2 L11 = some (q0, q1, q2) := h
  unfold s_l02Unit_k1 at h
  refine zQ<|yd rfl (agg (oXc r1 r2 1 1 r3.length)) (TOp.loadAgg_o rfl agg27 siz27 rfl rfl rfl rfl)<|ys (agg (oXc r1 r2 1 1 r3.length)) (oXc r1 r2 1 1 r3.length) [⟨1, some (oXc r1 r2 1 1 r3.length)⟩, ⟨1, some (L11.map f32)⟩, ⟨1, some (oXc r1 r2 1 1 r3.length)⟩] siz27<|zN ?_
  refine RunC.ret ?_
  have hq := oI h
  obtain ⟨hq0, hq⟩ := Prod.mk.inj hq
  obtain ⟨hq1, hq⟩ := Prod.mk.inj hq
  subst q0
  subst q1
  subst q2
  exact yB (agg (oXc r1 r2 1 1 L11.length)) [(1, 1)] (Res.eq (Res.one rfl (RV.cell agg27 siz27 rfl rfl rfl rfl)) (by rw [(show L11.length = r3.length from hl12)] <;> rfl)) (SelL.arr0 (f := f32) (fun _ => rfl) rfl trivial)
def s_UnitMatrix (a0 : Int) : Option (Int × Int × Bool × (List F)) :=
 obind (s_l00In a0 1 12) fun (r1 : Bool) =>
 bsel r1 (
  obind3 (s_l02Unit a0) fun (r2 : Int) (r3 : Int) (r4 : List F) =>
  some (r2, r3, true, r4)) (
  some (0, 0, false, ([] : List F)))
theorem s_UnitMatrix_ok (a0 : Int) (q0 : Int) (q1 : Int) (q2 : Bool) (q3 : List F) (h : s_UnitMatrix a0 = some (q0, q1, q2, q3)) : Ev Tryz.prog 26 [i64 a0] [] (tup [agg (oXc q0 q1 0 0 q3.length), b q2]) [⟨0, some (q3.map f32)⟩] := by
 refine yE Tryz.func26 2 21 0 [(0, i64 a0)] [⟨0, none⟩, ⟨0, none⟩] rfl ?_
 unfold s_UnitMatrix at h
 refine zQ<|ye rfl (optr 0 1 0) [⟨1, some zMx⟩, ⟨0, none⟩] (TOp.alloc_o (g := ⟨0, none⟩) 0 rfl zer27 zok27 rfl)<|ya rfl (b false)<|zN ?_
 refine yS<|yS ?_
 obtain ⟨r1, hf1, h⟩ := oS h
 rcases oB h with ⟨hc2, h⟩ | ⟨hc2, h⟩
 ·refine yW<|ym rfl (i64 a0)<|yd rfl (b true) (TOp.eqb (yc ent77 rfl rfl (bP (bP bN0)) (s_l00In_ok a0 1 12 r1 hf1)) hc2)<|yl rfl (b false) y1<|zN ?_
  refine yF<|RunC.skip<|yS ?_
  obtain ⟨r2, r3, r4, hf3, h⟩ := obind3_some h
  refine yW<|ym rfl (i64 a0)<|ye rfl (agg (oXc r2 r3 1 1 r4.length)) [⟨1, some zMx⟩, ⟨1, some (r4.map f32)⟩] (TOp.callBN (ls := [(r4.map f32)]) [1] (CallAs.func ent78 rfl rfl) bN0 rfl (s_l02Unit_ok a0 r2 r3 r4 hf3) (and_all (lts0_map (f := f32) (fun _ => rfl) _) rfl) (and_all (noss_map (f := f32) (fun _ => rfl) _) rfl) rfl (by decide) (ns_of ⟨⟨_, rfl⟩, trivial⟩))<|ys (agg (oXc r2 r3 1 1 r4.length)) (oXc r2 r3 1 1 r4.length) [⟨1, some (oXc r2 r3 1 1 r4.length)⟩, ⟨1, some (r4.map f32)⟩] siz27<|ya rfl (b true)<|zN ?_
  refine RunC.ret ?_
  have hq := oI h
  obtain ⟨hq0, hq⟩ := Prod.mk.inj hq
  obtain ⟨hq1, hq⟩ := Prod.mk.inj hq
  obtain ⟨hq2, hq⟩ := Prod.mk.inj hq
  subst q0
  subst q1
  subst q2
  subst q3
  exact yB (tup [agg (oXc r2 r3 1 1 r4.length), b true]) [(1, 1)] (Res.two rfl (RV.cell agg27 siz27 rfl rfl rfl rfl) (RV.tmp rfl)) (SelL.arr0 (f := f32) (fun _ => rfl) rfl trivial)
 ·refine yW<|ym rfl (i64 a0)<|yd rfl (b false) (TOp.eqb (yc ent77 rfl rfl (bP (bP bN0)) (s_l00In_ok a0 1 12 r1 hf1)) hc2)<|yl rfl (b true) y0<|zN ?_
  refine yT<|zQ<|yl rfl (agg zMx) (LOp.build (qs := []) zer27 zok27 und27 plc27 rfl trivial rfl)<|ys (agg zMx) zMx [⟨1, some zMx⟩, ⟨0, none⟩] siz27<|ya rfl (b false)<|zN ?_
  refine RunC.nil_cell (l' := [i64 0, i64 0, oref 1 1 0 0]) (Γ' := [⟨1, some [i64 0, i64 0, oref 1 1 0 0]⟩, ⟨1, some (([] : List F).map f32)⟩]) 0 2 1 rfl rfl rfl rfl rfl<|RunC.ret ?_
  have hq := oI h
  obtain ⟨hq0, hq⟩ := Prod.mk.inj hq
  obtain ⟨hq1, hq⟩ := Prod.mk.inj hq
  obtain ⟨hq2, hq⟩ := Prod.mk.inj hq
  subst q0
  subst q1
  subst q2
  subst q3
  exact yB (tup [agg [i64 0, i64 0, oref 1 1 0 (([] : List F).length)], b false]) [(1, 1)] (Res.eq (Res.two rfl (RV.cell agg27 siz27 rfl rfl rfl rfl) (RV.tmp rfl)) (by rw [(show ([] : List F).length = 0 from rfl)] <;> rfl)) (SelL.arr0 (f := f32) (fun _ => rfl) rfl trivial)
def i_orderSign_k5 (v7 : Int) (v10 : Int) : Option (LR (Int × Int) (Int) (Int)) :=
 olet (IntKind.i64.wrap (v7 + 1)) fun (x11 : Int) =>
 some (LR.next (v10, x11))
def i_orderSign_b6 (e3 : Int) (l5 : List Int) (v6 : Int) (v7 : Int) : Option (LR (Int × Int) (Int) (Int)) :=
 bsel (decide (v7 < (l5.length : Int))) (
  obind (at? l5 v7) fun (e8 : Int) =>
  bsel (decide (e8 < e3)) (
   olet (IntKind.i64.wrap (0 - v6)) fun (x9 : Int) =>
   i_orderSign_k5 v7 x9) (
   i_orderSign_k5 v7 v6)) (
  some (LR.out v6))
def i_orderSign_s6 (e3 : Int) (l5 : List Int) : (Int × Int) → Option (LR (Int × Int) (Int) (Int)) := fun s => i_orderSign_b6 e3 l5 s.1 s.2
def i_orderSign_k6 (v2 : Int) (v12 : Int) : Option (LR (Int × Int) (Int) (Int)) :=
 olet (IntKind.i64.wrap (v2 + 1)) fun (x13 : Int) =>
 some (LR.next (v12, x13))
def i_orderSign_b7 (a0 : List Int) (v1 : Int) (v2 : Int) : Option (LR (Int × Int) (Int) (Int)) :=
 bsel (decide (v2 < (a0.length : Int))) (
  obind (at? a0 v2) fun (e3 : Int) =>
  olet (IntKind.i64.wrap (v2 + 1)) fun (x4 : Int) =>
  obind (sub? a0 x4 (a0.length : Int)) fun (l5 : List Int) =>
  obind (loopM (i_orderSign_s6 e3 l5) (v1, 0)) fun z => osum z (fun e => i_orderSign_k6 v2 e) (fun r => some (LR.ret r))) (
  some (LR.out v1))
def i_orderSign_s7 (a0 : List Int) : (Int × Int) → Option (LR (Int × Int) (Int) (Int)) := fun s => i_orderSign_b7 a0 s.1 s.2
def i_orderSign_k7 (v14 : Int) : Option (Int) :=
 some v14
def i_orderSign (a0 : List Int) : Option (Int) :=
 obind (loopM (i_orderSign_s7 a0) (1, 0)) fun z => osum z (fun e => i_orderSign_k7 e) (fun r => some r)
theorem i_orderSign_ok (a0 : List Int) (q0 : Int) (h : i_orderSign a0 = some q0) : Ev Tryz.prog 79 [sl a0.length (a0.map i64)] [] (i64 q0) [] := by
 refine yE Tryz.func79 0 65 0 [(0, sl a0.length (a0.map i64))] [] rfl ?_
 unfold i_orderSign at h
 refine zQ<|ya rfl (i64 0)<|zN ?_
 refine zQ<|ya rfl (i64 1)<|zN ?_
 refine yS<|zQ<|ym rfl (sl a0.length (a0.map i64))<|yl rfl (i64 (a0.length : Int)) (LOp.len_sl und30 rfl rfl)<|ym rfl (i64 0)<|zN ?_
 obtain ⟨z8, hz_8, h⟩ := oS h
 refine RunC.cutN (fun τ Γ => ∃ (v14 : Int), WeakLe τ [(3, i64 v14)] ∧ DeadLe Γ [] ∧ z8 = .inl v14) ?_ ?_
 ·refine RunC.block (RunC.loop (RunL.loopM (x := z8) (i_orderSign_s7 a0) (fun (s : Int × Int) τ Γ => WeakLe τ [(0, sl a0.length (a0.map i64)), (3, i64 s.1), (8, sl a0.length (a0.map i64)), (9, i64 (a0.length : Int)), (10, i64 s.2)] ∧ DeadLe Γ []) ?_ _ _ _ hz_8 ⟨⟨aR, aR, aR, aR, aR, trivial⟩, trivial⟩))
  rintro ⟨v1, v2⟩ τ8 Γ8 y8_ ⟨hw8, hd8⟩ h8_ ho8 hr8
  refine RunC.wl (τ' := [(0, sl a0.length (a0.map i64)), (3, i64 v1), (8, sl a0.length (a0.map i64)), (9, i64 (a0.length : Int)), (10, i64 v2)]) (Γ' := []) hw8 hd8 ?_
  replace h8_ : i_orderSign_b7 a0 v1 v2 = some y8_ := h8_
  unfold i_orderSign_b7 at h8_
  refine yS ?_
  rcases oB h8_ with ⟨hc1, h8_⟩ | ⟨hc1, h8_⟩
  ·refine yW<|yl rfl (b true) (LOp.eqb (LOp.lss rfl rfl rfl) hc1)<|zN ?_
   refine yS<|yT<|RunC.skip<|yS<|RunC.block<|yS ?_
   obtain ⟨e3, he2, h8_⟩ := oS h8_
   refine yW<|ym rfl (i64 v2)<|yl rfl (ptr [i64 e3]) (LOp.le (LOp.ix (f := i64) und30 siz2 rfl rfl rfl rfl he2) ALe.ptr)<|yl rfl (i64 e3) (y2 agg2)<|ya rfl (i64 v2)<|ya rfl (i64 e3)<|zN ?_
   refine yS ?_
   obtain ⟨x4, hx3, h8_⟩ := oL h8_
   obtain ⟨l5, hs4, h8_⟩ := oS h8_
   refine yW<|ym rfl (sl a0.length (a0.map i64))<|ym rfl (i64 v2)<|yl rfl (i64 x4) (LOp.eqr (LOp.add rfl rfl rfl) (congrArg (ik .i64) hx3))<|yl rfl (sl l5.length (l5.map i64)) (LOp.slice_lo (f := i64) und30 siz2 rfl rfl rfl rfl hs4)<|yl rfl (i64 (l5.length : Int)) (LOp.len_sl und30 rfl rfl)<|ym rfl (i64 0)<|zN ?_
   obtain ⟨z9, hz_9, h8_⟩ := oS h8_
   refine RunC.cutN (fun τ Γ => ∃ (v12 : Int), WeakLe τ [(0, sl a0.length (a0.map i64)), (3, i64 v12), (8, sl a0.length (a0.map i64)), (9, i64 (a0.length : Int)), (10, i64 v2)] ∧ DeadLe Γ [] ∧ z9 = .inl v12) ?_ ?_
   ·refine RunC.block (RunC.loop (RunL.loopM (x := z9) (i_orderSign_s6 e3 l5) (fun (s : Int × Int) τ Γ => WeakLe τ [(0, sl a0.length (a0.map i64)), (3, i64 s.1), (5, i64 e3), (8, sl a0.length (a0.map i64)), (9, i64 (a0.length : Int)), (10, i64 v2), (18, sl l5.length (l5.map i64)), (19, i64 (l5.length : Int)), (20, i64 s.2)] ∧ DeadLe Γ []) ?_ _ _ _ hz_9 ⟨⟨aR, aR, aR, aR, aR, aR, aR, aR, aR, trivial⟩, trivial⟩))
    rintro ⟨v6, v7⟩ τ9 Γ9 y9_ ⟨hw9, hd9⟩ h9_ ho9 hr9
    refine RunC.wl (τ' := [(0, sl a0.length (a0.map i64)), (3, i64 v6), (5, i64 e3), (8, sl a0.length (a0.map i64)), (9, i64 (a0.length : Int)), (10, i64 v2), (18, sl l5.length (l5.map i64)), (19, i64 (l5.length : Int)), (20, i64 v7)]) (Γ' := []) hw9 hd9 ?_
    replace h9_ : i_orderSign_b6 e3 l5 v6 v7 = some y9_ := h9_
    unfold i_orderSign_b6 at h9_
    refine yS ?_
    rcases oB h9_ with ⟨hc5, h9_⟩ | ⟨hc5, h9_⟩
    ·refine yW<|yl rfl (b true) (LOp.eqb (LOp.lss rfl rfl rfl) hc5)<|zN ?_
     refine yS<|yT<|RunC.skip<|yS<|RunC.cutN (fun τ Γ => ∃ (v10 : Int), WeakLe τ [(0, sl a0.length (a0.map i64)), (3, i64 v10), (5, i64 e3), (8, sl a0.length (a0.map i64)), (9, i64 (a0.length : Int)), (10, i64 v2), (18, sl l5.length (l5.map i64)), (19, i64 (l5.length : Int)), (20, i64 v7)] ∧ DeadLe Γ [] ∧ i_orderSign_k5 v7 v10 = some y9_) ?_ ?_
     ·refine RunC.block<|yS ?_
      obtain ⟨e8, he6, h9_⟩ := oS h9_
      refine yW<|yl rfl (ptr [i64 e8]) (LOp.le (LOp.ix (f := i64) und30 siz2 rfl rfl rfl rfl he6) ALe.ptr)<|yl rfl (i64 e8) (y2 agg2)<|ya rfl (i64 e8)<|zN ?_
      refine yS ?_
      rcases oB h9_ with ⟨hc7, h9_⟩ | ⟨hc7, h9_⟩
      ·refine yW<|ym rfl (i64 e3)<|ym rfl (i64 e8)<|yl rfl (b true) (LOp.eqb (LOp.gtr rfl rfl rfl) hc7)<|zN ?_
       refine yT ?_
       obtain ⟨x9, hx8, h9_⟩ := oL h9_
       refine yW<|ym rfl (i64 v6)<|yl rfl (i64 x9) (LOp.eqr (LOp.neg_int rfl rfl) (congrArg (ik .i64) hx8))<|ya rfl (i64 x9)<|zN ?_
       exact ⟨x9, ⟨aR, aR, aR, aR, aR, aR, aR, aR, aR, trivial⟩, trivial, h9_⟩
      ·refine yW<|ym rfl (i64 e3)<|ym rfl (i64 e8)<|yl rfl (b false) (LOp.eqb (LOp.gtr rfl rfl rfl) hc7)<|zN ?_
       refine yF<|RunC.skip ?_
       exact ⟨v6, ⟨aR, aR, aR, aR, aR, aR, aR, aR, aR, trivial⟩, trivial, h9_⟩
     ·rintro τ10 Γ10 ⟨v10, hw10, hd10, h9_⟩
      refine RunC.wl hw10 hd10 ?_
      unfold i_orderSign_k5 at h9_
      obtain ⟨x11, hx9, h9_⟩ := oL h9_
      refine yW<|yl rfl (i64 x11) (LOp.eqr (LOp.add rfl rfl rfl) (congrArg (ik .i64) hx9))<|ym rfl (i64 x11)<|zN ?_
      cases oI h9_
      exact ⟨_, rfl, ⟨aR, aR, aR, aR, aR, aR, aR, aR, aR, trivial⟩, trivial⟩
    ·refine yW<|yl rfl (b false) (LOp.eqb (LOp.lss rfl rfl rfl) hc5)<|zN ?_
     refine yS<|yF<|RunC.exit ?_
     cases oI h9_
     have hx := ho9 _ rfl
     exact ⟨v6, ⟨aR, aR, aR, aR, aR, trivial⟩, trivial, hx⟩
   ·rintro τ11 Γ11 ⟨v12, hw11, hd11, rfl⟩
    refine RunC.wl hw11 hd11 ?_
    replace h8_ : i_orderSign_k6 v2 v12 = some y8_ := h8_
    unfold i_orderSign_k6 at h8_
    obtain ⟨x13, hx10, h8_⟩ := oL h8_
    refine yW<|yl rfl (i64 x13) (LOp.eqr (LOp.add rfl rfl rfl) (congrArg (ik .i64) hx10))<|ym rfl (i64 x13)<|zN ?_
    cases oI h8_
    exact ⟨_, rfl, ⟨aR, aR, aR, aR, aR, trivial⟩, trivial⟩
  ·refine yW<|yl rfl (b false) (LOp.eqb (LOp.lss rfl rfl rfl) hc1)<|zN ?_
   refine yS<|yF<|RunC.exit ?_
   cases oI h8_
   have hx := ho8 _ rfl
   exact ⟨v1, ⟨aR, trivial⟩, trivial, hx⟩
 ·rintro τ12 Γ12 ⟨v14, hw12, hd12, rfl⟩
  refine RunC.wl hw12 hd12 ?_
  replace h : i_orderSign_k7 v14 = some q0 := h
  unfold i_orderSign_k7 at h
  refine zQ<|ym rfl (i64 v14)<|ya rfl (i64 v14)<|zN ?_
  refine RunC.ret ?_
  have hq := oI h
  subst q0
  exact bodyQ.pure (.inr rfl) rfl (Res.one rfl (RV.tmp rfl))
def i_FactorDet_b1 (r4 : List F) (y5 : F) (v6 : Int) : Option (LR (F × Int) (F) (F × Bool)) :=
 bsel (decide (v6 < ((r4.length : Nat) : Int))) (
  obind (at? r4 v6) fun (e7 : F) =>
  obind (i_mul y5 e7) fun (r8 : F) =>
  olet (IntKind.i64.wrap (v6 + 1)) fun (x9 : Int) =>
  some (LR.next (r8, x9))) (
  some (LR.out y5))
def i_FactorDet_s1 (r4 : List F) : (F × Int) → Option (LR (F × Int) (F) (F × Bool)) := fun s => i_FactorDet_b1 r4 s.1 s.2
def i_FactorDet_k1 (y10 : F) : Option (F × Bool) :=
 obind2 (i_finite y10) fun (r11 : F) (r12 : Bool) =>
 some (r11, r12)
def i_FactorDet (a0 : Int) (a1 : Int) (a2 : List F) (a3 : List Int) : Option (F × Bool) :=
 obind (i_ValidFactor a0 a1 a2 a3) fun (r1 : Bool) =>
 bsel r1 (
  obind (i_orderSign a3) fun (r2 : Int) =>
  olet (fint .f32 r2) fun (x3 : F) =>
  obind (i_Matrix_middle a0 a1 a2) fun (r4 : List F) =>
  obind (loopM (i_FactorDet_s1 r4) (x3, 0)) fun z => osum z (fun e => i_FactorDet_k1 e) (fun r => some r)) (
  some (some 0, false))
theorem i_FactorDet_ok (a0 : Int) (a1 : Int) (a2 : List F) (a3 : List Int) (q0 : F) (q1 : Bool) (h : i_FactorDet a0 a1 a2 a3 = some (q0, q1)) : Ev Tryz.prog 27 [agg [i64 a0, i64 a1, (sFc a2), sl a3.length (a3.map i64)]] [] (tup [f32 q0, b q1]) [] := by
 refine yE Tryz.func27 1 61 0 ([(0, agg [i64 a0, i64 a1, (sFc a2), sl a3.length (a3.map i64)])]) [⟨0, none⟩] rfl ?_
 unfold i_FactorDet at h
 refine zQ<|yd rfl (ptr [i64 a0, i64 a1, (sFc a2), sl a3.length (a3.map i64)]) (TOp.box_s rfl rfl rfl)<|yl rfl (f32 (some 0)) (LOp.le (LOp.assign rfl rfl) (ALe.fl (by kernel_rfl) (by kernel_rfl)))<|ya rfl (b false)<|zN ?_
 refine yS<|yS ?_
 obtain ⟨r1, hf1, h⟩ := oS h
 rcases oB h with ⟨hc2, h⟩ | ⟨hc2, h⟩
 ·refine yW<|yl rfl (agg [i64 a0, i64 a1, (sFc a2), sl a3.length (a3.map i64)]) (yL agg32 siz32)<|yd rfl (b true) (TOp.eqb (TOp.callB (CallAs.func ent10 rfl rfl) (Bors.cons (Bor.agg (bP (bP (bS (bS bN))))) bN) rfl rfl (i_ValidFactor_ok a0 a1 a2 a3 r1 hf1)) hc2)<|yl rfl (b false) y1<|zN ?_
  refine yF<|RunC.skip<|yS ?_
  obtain ⟨r2, hf3, h⟩ := oS h
  obtain ⟨x3, hx4, h⟩ := oL h
  refine yW<|yl rfl (ptr [sl a3.length (a3.map i64)]) (LOp.fap und32 rfl siz30 rfl rfl rfl)<|yl rfl (sl a3.length (a3.map i64)) (y2 agg30)<|yd rfl (i64 r2) (yc ent79 rfl rfl (bS bN) (i_orderSign_ok a3 r2 hf3))<|yl rfl (f32 x3) (LOp.eqr (LOp.i2f (src := 2) (dst := 41) ⟨_, pun2⟩ pun41 rfl rfl) (congrArg (f .f32) hx4))<|ya rfl (f32 x3)<|zN ?_
  refine yS<|yS ?_
  obtain ⟨r4, hf5, h⟩ := oS h
  refine yW<|yl rfl (ptr [i64 a0, i64 a1, (sFc a2), sl a3.length (a3.map i64)]) (LOp.fap und32 rfl siz27 rfl rfl rfl)<|yl rfl (agg (mXc a0 a1 a2)) (yL agg27 siz27)<|ye rfl (oref 0 1 0 r4.length) [⟨1, some (r4.map f32)⟩] (TOp.callBN (ls := [(r4.map f32)]) [0] (CallAs.func ent47 rfl rfl) (Bors.cons (Bor.agg (bP (bP (bS bN)))) bN) rfl (i_Matrix_middle_ok a0 a1 a2 r4 hf5) (and_all (lts0_map (f := f32) (fun _ => rfl) _) rfl) (and_all (noss_map (f := f32) (fun _ => rfl) _) rfl) rfl (by decide) (ns_of ⟨⟨_, rfl⟩, trivial⟩))<|yl rfl (i64 ((r4.length : Nat) : Int)) (LOp.len_oref und25 rfl rfl)<|ym rfl (i64 0)<|zN ?_
  refine RunC.wl (τ' := [(4, f32 x3), (16, oref 0 1 0 r4.length), (17, i64 ((r4.length : Nat) : Int)), (18, i64 0)]) (Γ' := [⟨1, some (r4.map f32)⟩]) ⟨aR, aR, aR, aR, trivial⟩ ⟨⟨rfl, .inr rfl⟩, trivial⟩ ?_
  obtain ⟨z2, hz_2, h⟩ := oS h
  refine RunC.cutN (fun τ Γ => ∃ (y10 : F), WeakLe τ [(4, f32 y10)] ∧ DeadLe Γ [⟨1, none⟩] ∧ z2 = .inl y10) ?_ ?_
  ·refine RunC.block (RunC.loop (RunL.loopM (x := z2) (i_FactorDet_s1 r4) (fun (s : F × Int) τ Γ => WeakLe τ [(4, f32 s.1), (16, oref 0 1 0 r4.length), (17, i64 ((r4.length : Nat) : Int)), (18, i64 s.2)] ∧ DeadLe Γ [⟨1, some (r4.map f32)⟩]) ?_ _ _ _ hz_2 ⟨⟨aR, aR, aR, aR, trivial⟩, ⟨⟨rfl, .inr rfl⟩, trivial⟩⟩))
   rintro ⟨y5, v6⟩ τ2 Γ2 y2_ ⟨hw2, hd2⟩ h2_ ho2 hr2
   refine RunC.wl (τ' := [(4, f32 y5), (16, oref 0 1 0 r4.length), (17, i64 ((r4.length : Nat) : Int)), (18, i64 v6)]) (Γ' := [⟨1, some (r4.map f32)⟩]) hw2 hd2 ?_
   replace h2_ : i_FactorDet_b1 r4 y5 v6 = some y2_ := h2_
   unfold i_FactorDet_b1 at h2_
   refine yS ?_
   rcases oB h2_ with ⟨hc6, h2_⟩ | ⟨hc6, h2_⟩
   ·refine yW<|yl rfl (b true) (LOp.eqb (LOp.lss rfl rfl rfl) hc6)<|zN ?_
    refine yS<|yT<|RunC.skip<|yS<|RunC.block<|yS ?_
    obtain ⟨e7, he7, h2_⟩ := oS h2_
    refine yW<|yd rfl (optr 0 1 v6.toNat) (TOp.ixo und25 siz41 rfl rfl rfl (at_in he7 rfl) rfl)<|yd rfl (f32 e7) (TOp.load1_o rfl (at_cell he7) agg41 rfl rfl)<|ya rfl (f32 e7)<|zN ?_
    obtain ⟨r8, hf8, h2_⟩ := oS h2_
    refine yW<|ym rfl (f32 y5)<|ym rfl (f32 e7)<|yd rfl (f32 r8) (yc ent80 rfl rfl (bP bN0) (i_mul_ok y5 e7 r8 hf8))<|ya rfl (f32 r8)<|zN ?_
    obtain ⟨x9, hx9, h2_⟩ := oL h2_
    refine yW<|yl rfl (i64 x9) (LOp.eqr (LOp.add rfl rfl rfl) (congrArg (ik .i64) hx9))<|ym rfl (i64 x9)<|zN ?_
    cases oI h2_
    exact ⟨_, rfl, ⟨aR, aR, aR, aR, trivial⟩, ⟨⟨rfl, .inr rfl⟩, trivial⟩⟩
   ·refine yW<|yl rfl (b false) (LOp.eqb (LOp.lss rfl rfl rfl) hc6)<|zN ?_
    refine yS<|yF<|RunC.exit ?_
    cases oI h2_
    have hx := ho2 _ rfl
    exact ⟨y5, ⟨aR, trivial⟩, ⟨⟨rfl, .inl rfl⟩, trivial⟩, hx⟩
  ·rintro τ3 Γ3 ⟨y10, hw3, hd3, rfl⟩
   refine RunC.wl hw3 hd3 ?_
   replace h : i_FactorDet_k1 y10 = some (q0, q1) := h
   unfold i_FactorDet_k1 at h
   refine yS ?_
   obtain ⟨r11, r12, hf10, h⟩ := obind2_some h
   refine yW<|ym rfl (f32 y10)<|yd rfl (tup [f32 r11, b r12]) (yc ent62 rfl rfl bN0 (i_finite_ok y10 r11 r12 hf10))<|yl rfl (f32 r11) y3<|yl rfl (b r12) y3<|ya rfl (f32 r11)<|ya rfl (b r12)<|zN ?_
   refine RunC.ret ?_
   have hq := oI h
   obtain ⟨hq0, hq⟩ := Prod.mk.inj hq
   subst q0
   subst q1
   exact bodyQ.pure (.inr rfl) rfl (Res.two rfl (RV.tmp rfl) (RV.tmp rfl))
 ·refine yW<|yl rfl (agg [i64 a0, i64 a1, (sFc a2), sl a3.length (a3.map i64)]) (yL agg32 siz32)<|yd rfl (b false) (TOp.eqb (TOp.callB (CallAs.func ent10 rfl rfl) (Bors.cons (Bor.agg (bP (bP (bS (bS bN))))) bN) rfl rfl (i_ValidFactor_ok a0 a1 a2 a3 r1 hf1)) hc2)<|yl rfl (b true) y0<|zN ?_
  refine yT<|zQ<|yl rfl (f32 (some 0)) (LOp.le (LOp.assign rfl rfl) (ALe.fl (by kernel_rfl) (by kernel_rfl)))<|ya rfl (b false)<|zN ?_
  refine RunC.ret ?_
  have hq := oI h
  obtain ⟨hq0, hq⟩ := Prod.mk.inj hq
  subst q0
  subst q1
  exact bodyQ.pure (.inr rfl) rfl (Res.two rfl (RV.tmp rfl) (RV.tmp rfl))
def w_FnTriangles_k2  : Option (Bool) :=
 some false
def w_FnTriangles_k6  : Option (Bool) :=
 some false
def w_FnTriangles_k10  : Option (Bool) :=
 some false
def w_FnTriangles_k14  : Option (Bool) :=
 some false
def w_FnTriangles_b17 (x3 : Int) (r23 : List F) (y65 : F) (v66 : Int) : Option (LR (F × Int) (F) (Bool)) :=
 bsel (decide (v66 < x3)) (
  olet (IntKind.i64.wrap (v66 * x3)) fun (x67 : Int) =>
  olet (IntKind.i64.wrap (x67 + v66)) fun (x68 : Int) =>
  obind (at? r23 x68) fun (e69 : F) =>
  olet (fwiden e69) fun (x70 : F) =>
  olet (fop .mul .f64 y65 x70) fun (x71 : F) =>
  olet (IntKind.i64.wrap (v66 + 1)) fun (x72 : Int) =>
  some (LR.next (x71, x72))) (
  some (LR.out y65))
def w_FnTriangles_s17 (x3 : Int) (r23 : List F) : (F × Int) → Option (LR (F × Int) (F) (Bool)) := fun s => w_FnTriangles_b17 x3 r23 s.1 s.2
def w_FnTriangles_k17 (r61 : F) (y73 : F) : Option (Bool) :=
 olet (fwiden r61) fun (x74 : F) =>
 obind (w_b10Gap x74 (some 0)) fun (r75 : F) =>
 obind (w_b10Gap y73 (some 0)) fun (r76 : F) =>
 olet (fop .mul .f64 (some 4602678819172646912) r76) fun (x77 : F) =>
 bsel (flt .f64 x77 r75) (
  olet (fwiden r61) fun (x78 : F) =>
  obind (w_b10Gap x78 (some 0)) fun (r79 : F) =>
  obind (w_b10Gap y73 (some 0)) fun (r80 : F) =>
  obind (w_b10Gap r79 r80) fun (r81 : F) =>
  obind (w_b10Gap y73 (some 0)) fun (r82 : F) =>
  olet (fop .add .f64 (some 4607182418800017408) r82) fun (x83 : F) =>
  olet (fop .mul .f64 (some 4562254508917369340) x83) fun (x84 : F) =>
  some (flt .f64 r81 x84)) (
  some false)
def w_FnTriangles_k16 (x3 : Int) (r23 : List F) (r61 : F) : Option (Bool) :=
 obind (loopM (w_FnTriangles_s17 x3 r23) (some 4607182418800017408, 0)) fun z => osum z (fun e => w_FnTriangles_k17 r61 e) (fun r => some r)
def w_FnTriangles_k12 (x3 : Int) (r4 : Int) (r5 : Int) (r6 : List F) (r7 : List F) (r8 : Int) (r9 : Int) (r11 : List F) (r12 : List Int) (r23 : List F) (r37 : List F) (r38 : Int) (r39 : Int) (r41 : List F) (r46 : Int) (r47 : Int) (r49 : List F) : Option (Bool) :=
 obind2 (s_TimesVector r46 r47 r49 r37) fun (r51 : Bool) (r52 : List F) =>
 obind4 (s_MulMatrices r4 r5 r6 r38 r39 r41) fun (r53 : Int) (r54 : Int) (r55 : Bool) (r56 : List F) =>
 obind4 (s_UnitMatrix x3) fun (r57 : Int) (r58 : Int) (r59 : Bool) (r60 : List F) =>
 obind2 (i_FactorDet r8 r9 r11 r12) fun (r61 : F) (r62 : Bool) =>
 bsel r51 (
  bsel r55 (
   bsel r59 (
    bsel r62 (
     obind (w_b10Far r52 r7 (some 4562254508917369340)) fun (r63 : Bool) =>
     bsel r63 (
      w_FnTriangles_k14) (
      obind (w_b10FarMatrix r53 r54 r56 r57 r58 r60 (some 4562254508917369340)) fun (r64 : Bool) =>
      bsel r64 (
       w_FnTriangles_k14) (
       w_FnTriangles_k16 x3 r23 r61))) (
     w_FnTriangles_k14)) (
    w_FnTriangles_k14)) (
   w_FnTriangles_k14)) (
  w_FnTriangles_k14)
def w_FnTriangles_k8 (x3 : Int) (r4 : Int) (r5 : Int) (r6 : List F) (r7 : List F) (r8 : Int) (r9 : Int) (r11 : List F) (r12 : List Int) (r23 : List F) (r35 : List F) (r37 : List F) (r38 : Int) (r39 : Int) (r41 : List F) : Option (Bool) :=
 obind2 (s_TimesVector r4 r5 r6 r35) fun (r44 : Bool) (r45 : List F) =>
 obind4 (s_FlipMatrix r4 r5 r6) fun (r46 : Int) (r47 : Int) (r48 : Bool) (r49 : List F) =>
 bsel r44 (
  bsel r48 (
   obind (w_b10Far r45 r7 (some 4562254508917369340)) fun (r50 : Bool) =>
   bsel r50 (
    w_FnTriangles_k10) (
    w_FnTriangles_k12 x3 r4 r5 r6 r7 r8 r9 r11 r12 r23 r37 r38 r39 r41 r46 r47 r49)) (
   w_FnTriangles_k10)) (
  w_FnTriangles_k10)
def w_FnTriangles_k4 (x3 : Int) (r4 : Int) (r5 : Int) (r6 : List F) (r7 : List F) (r8 : Int) (r9 : Int) (r11 : List F) (r12 : List Int) : Option (Bool) :=
 obind4 (i_LowerOf r8 r9 r11 r12) fun (r16 : Int) (r17 : Int) (r18 : Bool) (r19 : List F) =>
 obind4 (i_UpperOf r8 r9 r11 r12) fun (r20 : Int) (r21 : Int) (r22 : Bool) (r23 : List F) =>
 obind4 (s_MulMatrices r16 r17 r19 r20 r21 r23) fun (r24 : Int) (r25 : Int) (r26 : Bool) (r27 : List F) =>
 obind4 (s_OrderRows r4 r5 r6 r12) fun (r28 : Int) (r29 : Int) (r30 : Bool) (r31 : List F) =>
 obind2 (i_FactorGrowth r4 r5 r6 r8 r9 r11 r12) fun (r32 : F) (r33 : Bool) =>
 obind2 (i_FactorSolve r8 r9 r11 r12 r7) fun (r34 : Bool) (r35 : List F) =>
 obind2 (i_FactorSolveFlipped r8 r9 r11 r12 r7) fun (r36 : Bool) (r37 : List F) =>
 obind4 (i_FactorInverse r8 r9 r11 r12) fun (r38 : Int) (r39 : Int) (r40 : Bool) (r41 : List F) =>
 bsel r18 (
  bsel r22 (
   bsel r26 (
    bsel r30 (
     bsel r33 (
      bsel r34 (
       bsel r36 (
        bsel r40 (
         obind (s_ValidMatrix r20 r21 r23) fun (r42 : Bool) =>
         bsel r42 (
          bsel (!decide (r20 = x3)) (
           w_FnTriangles_k6) (
           bsel (!decide (r21 = x3)) (
            w_FnTriangles_k6) (
            obind (w_b10FarMatrix r24 r25 r27 r28 r29 r31 (some 4562254508917369340)) fun (r43 : Bool) =>
            bsel r43 (
             w_FnTriangles_k6) (
             bsel (fle .f32 r32 (some 0)) (
              w_FnTriangles_k6) (
              w_FnTriangles_k8 x3 r4 r5 r6 r7 r8 r9 r11 r12 r23 r35 r37 r38 r39 r41))))) (
          w_FnTriangles_k6)) (
         w_FnTriangles_k6)) (
        w_FnTriangles_k6)) (
       w_FnTriangles_k6)) (
      w_FnTriangles_k6)) (
     w_FnTriangles_k6)) (
    w_FnTriangles_k6)) (
   w_FnTriangles_k6)) (
  w_FnTriangles_k6)
def w_FnTriangles (a0 : List Int) (a1 : List Int) : Option (Bool) :=
 obind (w_b10Long a0 a1) fun (r1 : Bool) =>
 bsel r1 (
  some true) (
  obind (w_b10At a1 0 5) fun (r2 : Int) =>
  olet (IntKind.i64.wrap (1 + r2)) fun (x3 : Int) =>
  obind3 (s_B10Square a0 x3) fun (r4 : Int) (r5 : Int) (r6 : List F) =>
  obind (s_B10Vector a1 x3) fun (r7 : List F) =>
  obind5 (i_FactorRows r4 r5 r6) fun (r8 : Int) (r9 : Int) (r10 : Bool) (r11 : List F) (r12 : List Int) =>
  bsel r10 (
   obind (i_ValidFactor r8 r9 r11 r12) fun (r13 : Bool) =>
   bsel r13 (
    obind (i_SameFactor r8 r9 r11 r12 r8 r9 r11 r12) fun (r14 : Bool) =>
    bsel r14 (
     obind (s_ValidFactor r8 r9 r11 r12) fun (r15 : Bool) =>
     bsel r15 (
      w_FnTriangles_k4 x3 r4 r5 r6 r7 r8 r9 r11 r12) (
      w_FnTriangles_k2)) (
     w_FnTriangles_k2)) (
    w_FnTriangles_k2)) (
   w_FnTriangles_k2))
theorem w_FnTriangles_ok (a0 : List Int) (a1 : List Int) (q0 : Bool) (h : w_FnTriangles a0 a1 = some q0) : Ev Tryz.prog 3 [sl a0.length (a0.map (ik .u8)), sl a1.length (a1.map (ik .u8))] [] (b q0) [] := by
 refine yE Tryz.func3 6 565 0 [(0, sl a0.length (a0.map (ik .u8))), (1, sl a1.length (a1.map (ik .u8)))] [⟨0, none⟩, ⟨0, none⟩, ⟨0, none⟩, ⟨0, none⟩, ⟨0, none⟩, ⟨0, none⟩] rfl ?_
 unfold w_FnTriangles at h
 refine zQ<|ya rfl (b false)<|zN ?_
 refine yS<|yS ?_
 obtain ⟨r1, hf1, h⟩ := oS h
 rcases oB h with ⟨hc2, h⟩ | ⟨hc2, h⟩
 ·refine yW<|ym rfl (sl a0.length (a0.map (ik .u8)))<|ym rfl (sl a1.length (a1.map (ik .u8)))<|yd rfl (b true) (TOp.eqb (yc ent5 rfl rfl (bS (bS bN)) (w_b10Long_ok a0 a1 r1 hf1)) hc2)<|zN ?_
  refine yT<|zQ<|ya rfl (b true)<|zN ?_
  refine RunC.ret ?_
  have hq := oI h
  subst q0
  exact bodyQ.pure (.inr rfl) rfl (Res.one rfl (RV.tmp rfl))
 ·refine yW<|ym rfl (sl a0.length (a0.map (ik .u8)))<|ym rfl (sl a1.length (a1.map (ik .u8)))<|yd rfl (b false) (TOp.eqb (yc ent5 rfl rfl (bS (bS bN)) (w_b10Long_ok a0 a1 r1 hf1)) hc2)<|zN ?_
  refine yF<|RunC.skip<|yS ?_
  obtain ⟨r2, hf3, h⟩ := oS h
  obtain ⟨x3, hx4, h⟩ := oL h
  refine yW<|ym rfl (sl a1.length (a1.map (ik .u8)))<|yd rfl (i64 r2) (yc ent6 rfl rfl (bS (bP bN0)) (w_b10At_ok a1 0 5 r2 hf3))<|yl rfl (i64 x3) (LOp.eqr (LOp.add rfl rfl rfl) (congrArg (ik .i64) hx4))<|ya rfl (i64 x3)<|zN ?_
  refine yS ?_
  obtain ⟨r4, r5, r6, hf5, h⟩ := obind3_some h
  refine yW<|ym rfl (sl a0.length (a0.map (ik .u8)))<|ym rfl (i64 x3)<|yd rfl (agg (mXc r4 r5 r6)) (TOp.callS (CallAs.func ent7 rfl rfl) (ALes.cons aR (ALes.cons aR ALes.nil)) (lts_cons (lt_sl (fun _ => rfl)) (lts_cons rfl lts_nil)) (lt_agg (lts_cons rfl (lts_cons rfl (lts_cons (lt_sl (fun _ => rfl)) lts_nil)))) (s_B10Square_ok a0 x3 r4 r5 r6 hf5) (Bor.agg (bP (bP (Bors.cons (Bor.own (f := f32) (fun _ => rfl) rfl rfl) bN)))))<|ye rfl (optr 0 1 0) [⟨1, some zMx⟩, ⟨0, none⟩, ⟨0, none⟩, ⟨0, none⟩, ⟨0, none⟩, ⟨0, none⟩] (TOp.alloc_o (g := ⟨0, none⟩) 0 rfl zer27 zok27 rfl)<|ys (agg (mXc r4 r5 r6)) (mXc r4 r5 r6) [⟨1, some (mXc r4 r5 r6)⟩, ⟨0, none⟩, ⟨0, none⟩, ⟨0, none⟩, ⟨0, none⟩, ⟨0, none⟩] siz27<|zN ?_
  refine yS ?_
  obtain ⟨r7, hf6, h⟩ := oS h
  refine yW<|ym rfl (sl a1.length (a1.map (ik .u8)))<|ym rfl (i64 x3)<|yd rfl (sFc r7) (TOp.callS (CallAs.func ent8 rfl rfl) (ALes.cons aR (ALes.cons aR ALes.nil)) (lts_cons (lt_sl (fun _ => rfl)) (lts_cons rfl lts_nil)) (lt_sl (fun _ => rfl)) (s_B10Vector_ok a1 x3 r7 hf6) (Bor.own (f := f32) (fun _ => rfl) rfl rfl))<|ya rfl (sFc r7)<|zN ?_
  refine yS ?_
  obtain ⟨r8, r9, r10, r11, r12, hf7, h⟩ := obind5_some h
  refine yW<|yd rfl (agg (mXc r4 r5 r6)) (TOp.loadAgg_o rfl agg27 siz27 rfl rfl rfl rfl)<|yd rfl (tup [agg [i64 r8, i64 r9, (sFc r11), sl r12.length (r12.map i64)], b r10]) (TOp.callS (CallAs.func ent9 rfl rfl) (ALes.cons aR ALes.nil) (lts_cons (lt_agg (lts_cons rfl (lts_cons rfl (lts_cons (lt_sl (fun _ => rfl)) lts_nil)))) lts_nil) (lt_tup (lts_cons (lt_agg (lts_cons rfl (lts_cons rfl (lts_cons (lt_sl (fun _ => rfl)) (lts_cons (lt_sl (fun _ => rfl)) lts_nil))))) (lts_cons rfl lts_nil))) (i_FactorRows_ok r4 r5 r6 r8 r9 r10 r11 r12 hf7) (Bor.tup (Bors.cons (Bor.agg (bP (bP (Bors.cons (Bor.own (f := f32) (fun _ => rfl) rfl rfl) (Bors.cons (Bor.own (f := i64) (fun _ => rfl) rfl rfl) bN))))) bN0)))<|ym rfl (tup [agg [i64 r8, i64 r9, (sFc r11), sl r12.length (r12.map i64)], b r10])<|yl rfl (agg [i64 r8, i64 r9, (sFc r11), sl r12.length (r12.map i64)]) y3<|yl rfl (b r10) y3<|ye rfl (optr 1 1 0) ([⟨1, some (mXc r4 r5 r6)⟩, ⟨1, some [i64 0, i64 0, nilsl, nilsl]⟩, ⟨0, none⟩, ⟨0, none⟩, ⟨0, none⟩, ⟨0, none⟩]) (TOp.alloc_o (g := ⟨0, none⟩) 1 rfl zer32 zok32 rfl)<|ys (agg [i64 r8, i64 r9, (sFc r11), sl r12.length (r12.map i64)]) [i64 r8, i64 r9, (sFc r11), sl r12.length (r12.map i64)] ([⟨1, some (mXc r4 r5 r6)⟩, ⟨1, some [i64 r8, i64 r9, (sFc r11), sl r12.length (r12.map i64)]⟩, ⟨0, none⟩, ⟨0, none⟩, ⟨0, none⟩, ⟨0, none⟩]) siz32<|ya rfl (b r10)<|zN ?_
  refine yS<|yS<|RunC.cutN (fun τ Γ => ( Le 565 τ Γ [(5, i64 x3), (6, optr 0 1 0), (7, (sFc r7)), (8, optr 1 1 0), (74, b true)] [⟨1, some (mXc r4 r5 r6)⟩, ⟨1, some [i64 r8, i64 r9, (sFc r11), sl r12.length (r12.map i64)]⟩, ⟨0, none⟩, ⟨0, none⟩, ⟨0, none⟩, ⟨0, none⟩] ∧ w_FnTriangles_k2 = some q0) ∨ ( Le 565 τ Γ [(5, i64 x3), (6, optr 0 1 0), (7, (sFc r7)), (8, optr 1 1 0), (74, b false)] [⟨1, some (mXc r4 r5 r6)⟩, ⟨1, some [i64 r8, i64 r9, (sFc r11), sl r12.length (r12.map i64)]⟩, ⟨0, none⟩, ⟨0, none⟩, ⟨0, none⟩, ⟨0, none⟩] ∧ w_FnTriangles_k4 x3 r4 r5 r6 r7 r8 r9 r11 r12 = some q0)) ?_ ?_
  ·rcases oB h with ⟨hc8, h⟩ | ⟨hc8, h⟩
   ·obtain ⟨r13, hf9, h⟩ := oS h
    rcases oB h with ⟨hc10, h⟩ | ⟨hc10, h⟩
    ·obtain ⟨r14, hf11, h⟩ := oS h
     rcases oB h with ⟨hc12, h⟩ | ⟨hc12, h⟩
     ·obtain ⟨r15, hf13, h⟩ := oS h
      rcases oB h with ⟨hc14, h⟩ | ⟨hc14, h⟩
      ·refine yW<|yl rfl (b true) (yv hc8)<|yl rfl (b false) y1<|ym rfl (b false)<|yd rfl (agg [i64 r8, i64 r9, (sFc r11), sl r12.length (r12.map i64)]) (TOp.loadAgg_o rfl agg32 siz32 rfl rfl rfl rfl)<|yd rfl (b true) (TOp.eqb (TOp.callB (CallAs.func ent10 rfl rfl) (Bors.cons (Bor.agg (bP (bP (bS (bS bN))))) bN) rfl rfl (i_ValidFactor_ok r8 r9 r11 r12 r13 hf9)) hc10)<|yl rfl (b false) y1<|yl rfl (b false) yp<|ym rfl (b false)<|yd rfl (agg [i64 r8, i64 r9, (sFc r11), sl r12.length (r12.map i64)]) (TOp.loadAgg_o rfl agg32 siz32 rfl rfl rfl rfl)<|yd rfl (agg [i64 r8, i64 r9, (sFc r11), sl r12.length (r12.map i64)]) (TOp.loadAgg_o rfl agg32 siz32 rfl rfl rfl rfl)<|yd rfl (b true) (TOp.eqb (TOp.callB (CallAs.func ent11 rfl rfl) (Bors.cons (Bor.agg (bP (bP (bS (bS bN))))) (Bors.cons (Bor.agg (bP (bP (bS (bS bN))))) bN)) rfl rfl (i_SameFactor_ok r8 r9 r11 r12 r8 r9 r11 r12 r14 hf11)) hc12)<|yl rfl (b false) y1<|yl rfl (b false) yp<|ym rfl (b false)<|yd rfl (agg [i64 r8, i64 r9, (sFc r11), sl r12.length (r12.map i64)]) (TOp.loadAgg_o rfl agg32 siz32 rfl rfl rfl rfl)<|yd rfl (b true) (TOp.eqb (TOp.callB (CallAs.func ent12 rfl rfl) (Bors.cons (Bor.agg (bP (bP (bS (bS bN))))) bN) rfl rfl (s_ValidFactor_ok r8 r9 r11 r12 r15 hf13)) hc14)<|yl rfl (b false) y1<|yl rfl (b false) yp<|zN ?_
       exact .inr (⟨(Le.of ⟨aR, aR, aR, aR, aR, trivial⟩ ⟨⟨rfl, .inr rfl⟩, ⟨rfl, .inr rfl⟩, ⟨rfl, .inr rfl⟩, ⟨rfl, .inr rfl⟩, ⟨rfl, .inr rfl⟩, ⟨rfl, .inr rfl⟩, trivial⟩), h⟩)
      ·refine yW<|yl rfl (b true) (yv hc8)<|yl rfl (b false) y1<|ym rfl (b false)<|yd rfl (agg [i64 r8, i64 r9, (sFc r11), sl r12.length (r12.map i64)]) (TOp.loadAgg_o rfl agg32 siz32 rfl rfl rfl rfl)<|yd rfl (b true) (TOp.eqb (TOp.callB (CallAs.func ent10 rfl rfl) (Bors.cons (Bor.agg (bP (bP (bS (bS bN))))) bN) rfl rfl (i_ValidFactor_ok r8 r9 r11 r12 r13 hf9)) hc10)<|yl rfl (b false) y1<|yl rfl (b false) yp<|ym rfl (b false)<|yd rfl (agg [i64 r8, i64 r9, (sFc r11), sl r12.length (r12.map i64)]) (TOp.loadAgg_o rfl agg32 siz32 rfl rfl rfl rfl)<|yd rfl (agg [i64 r8, i64 r9, (sFc r11), sl r12.length (r12.map i64)]) (TOp.loadAgg_o rfl agg32 siz32 rfl rfl rfl rfl)<|yd rfl (b true) (TOp.eqb (TOp.callB (CallAs.func ent11 rfl rfl) (Bors.cons (Bor.agg (bP (bP (bS (bS bN))))) (Bors.cons (Bor.agg (bP (bP (bS (bS bN))))) bN)) rfl rfl (i_SameFactor_ok r8 r9 r11 r12 r8 r9 r11 r12 r14 hf11)) hc12)<|yl rfl (b false) y1<|yl rfl (b false) yp<|ym rfl (b false)<|yd rfl (agg [i64 r8, i64 r9, (sFc r11), sl r12.length (r12.map i64)]) (TOp.loadAgg_o rfl agg32 siz32 rfl rfl rfl rfl)<|yd rfl (b false) (TOp.eqb (TOp.callB (CallAs.func ent12 rfl rfl) (Bors.cons (Bor.agg (bP (bP (bS (bS bN))))) bN) rfl rfl (s_ValidFactor_ok r8 r9 r11 r12 r15 hf13)) hc14)<|yl rfl (b true) y0<|yl rfl (b true) yp<|zN ?_
       exact .inl ⟨(Le.of ⟨aR, aR, aR, aR, aR, trivial⟩ ⟨⟨rfl, .inr rfl⟩, ⟨rfl, .inr rfl⟩, ⟨rfl, .inr rfl⟩, ⟨rfl, .inr rfl⟩, ⟨rfl, .inr rfl⟩, ⟨rfl, .inr rfl⟩, trivial⟩), h⟩
     ·refine yW<|yl rfl (b true) (yv hc8)<|yl rfl (b false) y1<|ym rfl (b false)<|yd rfl (agg [i64 r8, i64 r9, (sFc r11), sl r12.length (r12.map i64)]) (TOp.loadAgg_o rfl agg32 siz32 rfl rfl rfl rfl)<|yd rfl (b true) (TOp.eqb (TOp.callB (CallAs.func ent10 rfl rfl) (Bors.cons (Bor.agg (bP (bP (bS (bS bN))))) bN) rfl rfl (i_ValidFactor_ok r8 r9 r11 r12 r13 hf9)) hc10)<|yl rfl (b false) y1<|yl rfl (b false) yp<|ym rfl (b false)<|yd rfl (agg [i64 r8, i64 r9, (sFc r11), sl r12.length (r12.map i64)]) (TOp.loadAgg_o rfl agg32 siz32 rfl rfl rfl rfl)<|yd rfl (agg [i64 r8, i64 r9, (sFc r11), sl r12.length (r12.map i64)]) (TOp.loadAgg_o rfl agg32 siz32 rfl rfl rfl rfl)<|yd rfl (b false) (TOp.eqb (TOp.callB (CallAs.func ent11 rfl rfl) (Bors.cons (Bor.agg (bP (bP (bS (bS bN))))) (Bors.cons (Bor.agg (bP (bP (bS (bS bN))))) bN)) rfl rfl (i_SameFactor_ok r8 r9 r11 r12 r8 r9 r11 r12 r14 hf11)) hc12)<|yl rfl (b true) y0<|yl rfl (b true) yp<|ym rfl (b true)<|ROps.s rfl rfl rfl<|ROps.s rfl rfl rfl<|ROps.s rfl rfl rfl<|yl rfl (b true) yq<|zN ?_
      exact .inl ⟨(Le.of ⟨aR, aR, aR, aR, aR, trivial⟩ ⟨⟨rfl, .inr rfl⟩, ⟨rfl, .inr rfl⟩, ⟨rfl, .inr rfl⟩, ⟨rfl, .inr rfl⟩, ⟨rfl, .inr rfl⟩, ⟨rfl, .inr rfl⟩, trivial⟩), h⟩
    ·refine yW<|yl rfl (b true) (yv hc8)<|yl rfl (b false) y1<|ym rfl (b false)<|yd rfl (agg [i64 r8, i64 r9, (sFc r11), sl r12.length (r12.map i64)]) (TOp.loadAgg_o rfl agg32 siz32 rfl rfl rfl rfl)<|yd rfl (b false) (TOp.eqb (TOp.callB (CallAs.func ent10 rfl rfl) (Bors.cons (Bor.agg (bP (bP (bS (bS bN))))) bN) rfl rfl (i_ValidFactor_ok r8 r9 r11 r12 r13 hf9)) hc10)<|yl rfl (b true) y0<|yl rfl (b true) yp<|ym rfl (b true)<|ROps.s rfl rfl rfl<|ROps.s rfl rfl rfl<|ROps.s rfl rfl rfl<|ROps.s rfl rfl rfl<|yl rfl (b true) yq<|ym rfl (b true)<|ROps.s rfl rfl rfl<|ROps.s rfl rfl rfl<|ROps.s rfl rfl rfl<|yl rfl (b true) yq<|zN ?_
     exact .inl ⟨(Le.of ⟨aR, aR, aR, aR, aR, trivial⟩ ⟨⟨rfl, .inr rfl⟩, ⟨rfl, .inr rfl⟩, ⟨rfl, .inr rfl⟩, ⟨rfl, .inr rfl⟩, ⟨rfl, .inr rfl⟩, ⟨rfl, .inr rfl⟩, trivial⟩), h⟩
   ·refine yW<|yl rfl (b false) (yv hc8)<|yl rfl (b true) y0<|ym rfl (b true)<|ROps.s rfl rfl rfl<|ROps.s rfl rfl rfl<|ROps.s rfl rfl rfl<|yl rfl (b true) yq<|ym rfl (b true)<|ROps.s rfl rfl rfl<|ROps.s rfl rfl rfl<|ROps.s rfl rfl rfl<|ROps.s rfl rfl rfl<|yl rfl (b true) yq<|ym rfl (b true)<|ROps.s rfl rfl rfl<|ROps.s rfl rfl rfl<|ROps.s rfl rfl rfl<|yl rfl (b true) yq<|zN ?_
    exact .inl ⟨(Le.of ⟨aR, aR, aR, aR, aR, trivial⟩ ⟨⟨rfl, .inr rfl⟩, ⟨rfl, .inr rfl⟩, ⟨rfl, .inr rfl⟩, ⟨rfl, .inr rfl⟩, ⟨rfl, .inr rfl⟩, ⟨rfl, .inr rfl⟩, trivial⟩), h⟩
  ·rintro τ18 Γ18 (⟨hw18, h⟩ | ⟨hw18, h⟩)
   ·refine RunC.le (τ' := [(5, i64 x3), (6, optr 0 1 0), (7, (sFc r7)), (8, optr 1 1 0), (74, b true)]) (Γ' := [⟨1, some (mXc r4 r5 r6)⟩, ⟨1, some [i64 r8, i64 r9, (sFc r11), sl r12.length (r12.map i64)]⟩, ⟨0, none⟩, ⟨0, none⟩, ⟨0, none⟩, ⟨0, none⟩]) hw18 ?_
    unfold w_FnTriangles_k2 at h
    refine yT<|zQ<|ya rfl (b false)<|zN ?_
    refine RunC.ret ?_
    have hq := oI h
    subst q0
    exact bodyQ.pure (.inr rfl) rfl (Res.one rfl (RV.tmp rfl))
   ·refine RunC.le (τ' := [(5, i64 x3), (6, optr 0 1 0), (7, (sFc r7)), (8, optr 1 1 0), (74, b false)]) (Γ' := [⟨1, some (mXc r4 r5 r6)⟩, ⟨1, some [i64 r8, i64 r9, (sFc r11), sl r12.length (r12.map i64)]⟩, ⟨0, none⟩, ⟨0, none⟩, ⟨0, none⟩, ⟨0, none⟩]) hw18 ?_
    unfold w_FnTriangles_k4 at h
    refine yF<|RunC.skip<|yS ?_
    obtain ⟨r16, r17, r18, r19, hf15, h⟩ := obind4_some h
    refine yW<|yd rfl (agg [i64 r8, i64 r9, (sFc r11), sl r12.length (r12.map i64)]) (TOp.loadAgg_o rfl agg32 siz32 rfl rfl rfl rfl)<|yd rfl (tup [agg (mXc r16 r17 r19), b r18]) (TOp.callS (CallAs.func ent13 rfl rfl) (ALes.cons aR ALes.nil) (lts_cons (lt_agg (lts_cons rfl (lts_cons rfl (lts_cons (lt_sl (fun _ => rfl)) (lts_cons (lt_sl (fun _ => rfl)) lts_nil))))) lts_nil) (lt_tup (lts_cons (lt_agg (lts_cons rfl (lts_cons rfl (lts_cons (lt_sl (fun _ => rfl)) lts_nil)))) (lts_cons rfl lts_nil))) (i_LowerOf_ok r8 r9 r11 r12 r16 r17 r18 r19 hf15) (Bor.tup (Bors.cons (Bor.agg (bP (bP (Bors.cons (Bor.own (f := f32) (fun _ => rfl) rfl rfl) bN)))) bN0)))<|ym rfl (tup [agg (mXc r16 r17 r19), b r18])<|yl rfl (agg (mXc r16 r17 r19)) y3<|yl rfl (b r18) y3<|ye rfl (optr 2 1 0) ([⟨1, some (mXc r4 r5 r6)⟩, ⟨1, some [i64 r8, i64 r9, (sFc r11), sl r12.length (r12.map i64)]⟩, ⟨1, some zMx⟩, ⟨0, none⟩, ⟨0, none⟩, ⟨0, none⟩]) (TOp.alloc_o (g := ⟨0, none⟩) 2 rfl zer27 zok27 rfl)<|ys (agg (mXc r16 r17 r19)) (mXc r16 r17 r19) ([⟨1, some (mXc r4 r5 r6)⟩, ⟨1, some [i64 r8, i64 r9, (sFc r11), sl r12.length (r12.map i64)]⟩, ⟨1, some (mXc r16 r17 r19)⟩, ⟨0, none⟩, ⟨0, none⟩, ⟨0, none⟩]) siz27<|ya rfl (b r18)<|zN ?_
    refine yS ?_
    obtain ⟨r20, r21, r22, r23, hf16, h⟩ := obind4_some h
    refine yW<|yd rfl (agg [i64 r8, i64 r9, (sFc r11), sl r12.length (r12.map i64)]) (TOp.loadAgg_o rfl agg32 siz32 rfl rfl rfl rfl)<|yd rfl (tup [agg (mXc r20 r21 r23), b r22]) (TOp.callS (CallAs.func ent14 rfl rfl) (ALes.cons aR ALes.nil) (lts_cons (lt_agg (lts_cons rfl (lts_cons rfl (lts_cons (lt_sl (fun _ => rfl)) (lts_cons (lt_sl (fun _ => rfl)) lts_nil))))) lts_nil) (lt_tup (lts_cons (lt_agg (lts_cons rfl (lts_cons rfl (lts_cons (lt_sl (fun _ => rfl)) lts_nil)))) (lts_cons rfl lts_nil))) (i_UpperOf_ok r8 r9 r11 r12 r20 r21 r22 r23 hf16) (Bor.tup (Bors.cons (Bor.agg (bP (bP (Bors.cons (Bor.own (f := f32) (fun _ => rfl) rfl rfl) bN)))) bN0)))<|ym rfl (tup [agg (mXc r20 r21 r23), b r22])<|yl rfl (agg (mXc r20 r21 r23)) y3<|yl rfl (b r22) y3<|ye rfl (optr 3 1 0) ([⟨1, some (mXc r4 r5 r6)⟩, ⟨1, some [i64 r8, i64 r9, (sFc r11), sl r12.length (r12.map i64)]⟩, ⟨1, some (mXc r16 r17 r19)⟩, ⟨1, some zMx⟩, ⟨0, none⟩, ⟨0, none⟩]) (TOp.alloc_o (g := ⟨0, none⟩) 3 rfl zer27 zok27 rfl)<|ys (agg (mXc r20 r21 r23)) (mXc r20 r21 r23) ([⟨1, some (mXc r4 r5 r6)⟩, ⟨1, some [i64 r8, i64 r9, (sFc r11), sl r12.length (r12.map i64)]⟩, ⟨1, some (mXc r16 r17 r19)⟩, ⟨1, some (mXc r20 r21 r23)⟩, ⟨0, none⟩, ⟨0, none⟩]) siz27<|ya rfl (b r22)<|zN ?_
    refine yS ?_
    obtain ⟨r24, r25, r26, r27, hf17, h⟩ := obind4_some h
    refine yW<|yd rfl (agg (mXc r16 r17 r19)) (TOp.loadAgg_o rfl agg27 siz27 rfl rfl rfl rfl)<|yd rfl (agg (mXc r20 r21 r23)) (TOp.loadAgg_o rfl agg27 siz27 rfl rfl rfl rfl)<|yd rfl (tup [agg (mXc r24 r25 r27), b r26]) (TOp.callS (CallAs.func ent15 rfl rfl) (ALes.cons aR (ALes.cons aR ALes.nil)) (lts_cons (lt_agg (lts_cons rfl (lts_cons rfl (lts_cons (lt_sl (fun _ => rfl)) lts_nil)))) (lts_cons (lt_agg (lts_cons rfl (lts_cons rfl (lts_cons (lt_sl (fun _ => rfl)) lts_nil)))) lts_nil)) (lt_tup (lts_cons (lt_agg (lts_cons rfl (lts_cons rfl (lts_cons (lt_sl (fun _ => rfl)) lts_nil)))) (lts_cons rfl lts_nil))) (s_MulMatrices_ok r16 r17 r19 r20 r21 r23 r24 r25 r26 r27 hf17) (Bor.tup (Bors.cons (Bor.agg (bP (bP (Bors.cons (Bor.own (f := f32) (fun _ => rfl) rfl rfl) bN)))) bN0)))<|ym rfl (tup [agg (mXc r24 r25 r27), b r26])<|yl rfl (agg (mXc r24 r25 r27)) y3<|yl rfl (b r26) y3<|ye rfl (optr 4 1 0) ([⟨1, some (mXc r4 r5 r6)⟩, ⟨1, some [i64 r8, i64 r9, (sFc r11), sl r12.length (r12.map i64)]⟩, ⟨1, some (mXc r16 r17 r19)⟩, ⟨1, some (mXc r20 r21 r23)⟩, ⟨1, some zMx⟩, ⟨0, none⟩]) (TOp.alloc_o (g := ⟨0, none⟩) 4 rfl zer27 zok27 rfl)<|ys (agg (mXc r24 r25 r27)) (mXc r24 r25 r27) ([⟨1, some (mXc r4 r5 r6)⟩, ⟨1, some [i64 r8, i64 r9, (sFc r11), sl r12.length (r12.map i64)]⟩, ⟨1, some (mXc r16 r17 r19)⟩, ⟨1, some (mXc r20 r21 r23)⟩, ⟨1, some (mXc r24 r25 r27)⟩, ⟨0, none⟩]) siz27<|ya rfl (b r26)<|zN ?_
    refine RunC.wl (τ' := [(5, i64 x3), (6, optr 0 1 0), (7, (sFc r7)), (8, optr 1 1 0), (11, b r18), (12, optr 3 1 0), (13, b r22), (14, optr 4 1 0), (15, b r26)]) (Γ' := [⟨1, some (mXc r4 r5 r6)⟩, ⟨1, some [i64 r8, i64 r9, (sFc r11), sl r12.length (r12.map i64)]⟩, ⟨1, none⟩, ⟨1, some (mXc r20 r21 r23)⟩, ⟨1, some (mXc r24 r25 r27)⟩, ⟨0, none⟩]) ⟨aR, aR, aR, aR, aR, aR, aR, aR, aR, trivial⟩ ⟨⟨rfl, .inr rfl⟩, ⟨rfl, .inr rfl⟩, ⟨rfl, .inl rfl⟩, ⟨rfl, .inr rfl⟩, ⟨rfl, .inr rfl⟩, ⟨rfl, .inr rfl⟩, trivial⟩<|yS ?_
    obtain ⟨r28, r29, r30, r31, hf18, h⟩ := obind4_some h
    refine yW<|yd rfl (agg (mXc r4 r5 r6)) (TOp.loadAgg_o rfl agg27 siz27 rfl rfl rfl rfl)<|yl rfl (optr 1 1 3) (LOp.fao und32 rfl siz30 rfl rfl rfl)<|yd rfl (sl r12.length (r12.map i64)) (TOp.load1_o rfl rfl agg30 rfl rfl)<|yd rfl (tup [agg (mXc r28 r29 r31), b r30]) (TOp.callS (CallAs.func ent16 rfl rfl) (ALes.cons aR (ALes.cons aR ALes.nil)) (lts_cons (lt_agg (lts_cons rfl (lts_cons rfl (lts_cons (lt_sl (fun _ => rfl)) lts_nil)))) (lts_cons (lt_sl (fun _ => rfl)) lts_nil)) (lt_tup (lts_cons (lt_agg (lts_cons rfl (lts_cons rfl (lts_cons (lt_sl (fun _ => rfl)) lts_nil)))) (lts_cons rfl lts_nil))) (s_OrderRows_ok r4 r5 r6 r12 r28 r29 r30 r31 hf18) (Bor.tup (Bors.cons (Bor.agg (bP (bP (Bors.cons (Bor.own (f := f32) (fun _ => rfl) rfl rfl) bN)))) bN0)))<|ym rfl (tup [agg (mXc r28 r29 r31), b r30])<|yl rfl (agg (mXc r28 r29 r31)) y3<|yl rfl (b r30) y3<|ye rfl (optr 2 2 0) ([⟨1, some (mXc r4 r5 r6)⟩, ⟨1, some [i64 r8, i64 r9, (sFc r11), sl r12.length (r12.map i64)]⟩, ⟨2, some zMx⟩, ⟨1, some (mXc r20 r21 r23)⟩, ⟨1, some (mXc r24 r25 r27)⟩, ⟨0, none⟩]) (TOp.alloc_o (g := ⟨1, none⟩) 2 rfl zer27 zok27 rfl)<|ys (agg (mXc r28 r29 r31)) (mXc r28 r29 r31) ([⟨1, some (mXc r4 r5 r6)⟩, ⟨1, some [i64 r8, i64 r9, (sFc r11), sl r12.length (r12.map i64)]⟩, ⟨2, some (mXc r28 r29 r31)⟩, ⟨1, some (mXc r20 r21 r23)⟩, ⟨1, some (mXc r24 r25 r27)⟩, ⟨0, none⟩]) siz27<|ya rfl (b r30)<|zN ?_
    refine yS ?_
    obtain ⟨r32, r33, hf19, h⟩ := obind2_some h
    refine yW<|yd rfl (agg (mXc r4 r5 r6)) (TOp.loadAgg_o rfl agg27 siz27 rfl rfl rfl rfl)<|yd rfl (agg [i64 r8, i64 r9, (sFc r11), sl r12.length (r12.map i64)]) (TOp.loadAgg_o rfl agg32 siz32 rfl rfl rfl rfl)<|yd rfl (tup [f32 r32, b r33]) (TOp.callB (CallAs.func ent17 rfl rfl) (Bors.cons (Bor.agg (bP (bP (bS bN)))) (Bors.cons (Bor.agg (bP (bP (bS (bS bN))))) bN)) rfl rfl (i_FactorGrowth_ok r4 r5 r6 r8 r9 r11 r12 r32 r33 hf19))<|ym rfl (tup [f32 r32, b r33])<|yl rfl (f32 r32) y3<|yl rfl (b r33) y3<|ya rfl (f32 r32)<|ya rfl (b r33)<|zN ?_
    refine yS ?_
    obtain ⟨r34, r35, hf20, h⟩ := obind2_some h
    refine yW<|yd rfl (agg [i64 r8, i64 r9, (sFc r11), sl r12.length (r12.map i64)]) (TOp.loadAgg_o rfl agg32 siz32 rfl rfl rfl rfl)<|ym rfl (sFc r7)<|yd rfl (tup [(sFc r35), b r34]) (TOp.callS (CallAs.func ent18 rfl rfl) (ALes.cons aR (ALes.cons aR ALes.nil)) (lts_cons (lt_agg (lts_cons rfl (lts_cons rfl (lts_cons (lt_sl (fun _ => rfl)) (lts_cons (lt_sl (fun _ => rfl)) lts_nil))))) (lts_cons (lt_sl (fun _ => rfl)) lts_nil)) (lt_tup (lts_cons (lt_sl (fun _ => rfl)) (lts_cons rfl lts_nil))) (i_FactorSolve_ok r8 r9 r11 r12 r7 r34 r35 hf20) (Bor.tup (Bors.cons (Bor.own (f := f32) (fun _ => rfl) rfl rfl) bN0)))<|ym rfl (tup [(sFc r35), b r34])<|yl rfl (sFc r35) y3<|yl rfl (b r34) y3<|ya rfl (sFc r35)<|ya rfl (b r34)<|zN ?_
    refine yS ?_
    obtain ⟨r36, r37, hf21, h⟩ := obind2_some h
    refine yW<|yd rfl (agg [i64 r8, i64 r9, (sFc r11), sl r12.length (r12.map i64)]) (TOp.loadAgg_o rfl agg32 siz32 rfl rfl rfl rfl)<|ym rfl (sFc r7)<|yd rfl (tup [(sFc r37), b r36]) (TOp.callS (CallAs.func ent19 rfl rfl) (ALes.cons aR (ALes.cons aR ALes.nil)) (lts_cons (lt_agg (lts_cons rfl (lts_cons rfl (lts_cons (lt_sl (fun _ => rfl)) (lts_cons (lt_sl (fun _ => rfl)) lts_nil))))) (lts_cons (lt_sl (fun _ => rfl)) lts_nil)) (lt_tup (lts_cons (lt_sl (fun _ => rfl)) (lts_cons rfl lts_nil))) (i_FactorSolveFlipped_ok r8 r9 r11 r12 r7 r36 r37 hf21) (Bor.tup (Bors.cons (Bor.own (f := f32) (fun _ => rfl) rfl rfl) bN0)))<|ym rfl (tup [(sFc r37), b r36])<|yl rfl (sFc r37) y3<|yl rfl (b r36) y3<|ya rfl (sFc r37)<|ya rfl (b r36)<|zN ?_
    refine yS ?_
    obtain ⟨r38, r39, r40, r41, hf22, h⟩ := obind4_some h
    refine yW<|yd rfl (agg [i64 r8, i64 r9, (sFc r11), sl r12.length (r12.map i64)]) (TOp.loadAgg_o rfl agg32 siz32 rfl rfl rfl rfl)<|yd rfl (tup [agg (mXc r38 r39 r41), b r40]) (TOp.callS (CallAs.func ent20 rfl rfl) (ALes.cons aR ALes.nil) (lts_cons (lt_agg (lts_cons rfl (lts_cons rfl (lts_cons (lt_sl (fun _ => rfl)) (lts_cons (lt_sl (fun _ => rfl)) lts_nil))))) lts_nil) (lt_tup (lts_cons (lt_agg (lts_cons rfl (lts_cons rfl (lts_cons (lt_sl (fun _ => rfl)) lts_nil)))) (lts_cons rfl lts_nil))) (i_FactorInverse_ok r8 r9 r11 r12 r38 r39 r40 r41 hf22) (Bor.tup (Bors.cons (Bor.agg (bP (bP (Bors.cons (Bor.own (f := f32) (fun _ => rfl) rfl rfl) bN)))) bN0)))<|ym rfl (tup [agg (mXc r38 r39 r41), b r40])<|yl rfl (agg (mXc r38 r39 r41)) y3<|yl rfl (b r40) y3<|ye rfl (optr 5 1 0) ([⟨1, some (mXc r4 r5 r6)⟩, ⟨1, some [i64 r8, i64 r9, (sFc r11), sl r12.length (r12.map i64)]⟩, ⟨2, some (mXc r28 r29 r31)⟩, ⟨1, some (mXc r20 r21 r23)⟩, ⟨1, some (mXc r24 r25 r27)⟩, ⟨1, some zMx⟩]) (TOp.alloc_o (g := ⟨0, none⟩) 5 rfl zer27 zok27 rfl)<|ys (agg (mXc r38 r39 r41)) (mXc r38 r39 r41) ([⟨1, some (mXc r4 r5 r6)⟩, ⟨1, some [i64 r8, i64 r9, (sFc r11), sl r12.length (r12.map i64)]⟩, ⟨2, some (mXc r28 r29 r31)⟩, ⟨1, some (mXc r20 r21 r23)⟩, ⟨1, some (mXc r24 r25 r27)⟩, ⟨1, some (mXc r38 r39 r41)⟩]) siz27<|ya rfl (b r40)<|zN ?_
    refine yS<|yS<|RunC.cutN (fun τ Γ => ( Le 565 τ Γ [(5, i64 x3), (6, optr 0 1 0), (7, (sFc r7)), (8, optr 1 1 0), (12, optr 3 1 0), (20, (sFc r35)), (22, (sFc r37)), (24, optr 5 1 0), (176, b true)] [⟨1, some (mXc r4 r5 r6)⟩, ⟨1, some [i64 r8, i64 r9, (sFc r11), sl r12.length (r12.map i64)]⟩, ⟨2, none⟩, ⟨1, some (mXc r20 r21 r23)⟩, ⟨1, none⟩, ⟨1, some (mXc r38 r39 r41)⟩] ∧ w_FnTriangles_k6 = some q0) ∨ ( Le 565 τ Γ [(5, i64 x3), (6, optr 0 1 0), (7, (sFc r7)), (8, optr 1 1 0), (12, optr 3 1 0), (20, (sFc r35)), (22, (sFc r37)), (24, optr 5 1 0), (176, b false)] [⟨1, some (mXc r4 r5 r6)⟩, ⟨1, some [i64 r8, i64 r9, (sFc r11), sl r12.length (r12.map i64)]⟩, ⟨2, none⟩, ⟨1, some (mXc r20 r21 r23)⟩, ⟨1, none⟩, ⟨1, some (mXc r38 r39 r41)⟩] ∧ w_FnTriangles_k8 x3 r4 r5 r6 r7 r8 r9 r11 r12 r23 r35 r37 r38 r39 r41 = some q0)) ?_ ?_
    ·rcases oB h with ⟨hc23, h⟩ | ⟨hc23, h⟩
     ·rcases oB h with ⟨hc24, h⟩ | ⟨hc24, h⟩
      ·rcases oB h with ⟨hc25, h⟩ | ⟨hc25, h⟩
       ·rcases oB h with ⟨hc26, h⟩ | ⟨hc26, h⟩
        ·rcases oB h with ⟨hc27, h⟩ | ⟨hc27, h⟩
         ·rcases oB h with ⟨hc28, h⟩ | ⟨hc28, h⟩
          ·rcases oB h with ⟨hc29, h⟩ | ⟨hc29, h⟩
           ·rcases oB h with ⟨hc30, h⟩ | ⟨hc30, h⟩
            ·obtain ⟨r42, hf31, h⟩ := oS h
             rcases oB h with ⟨hc32, h⟩ | ⟨hc32, h⟩
             ·rcases oB h with ⟨hc33, h⟩ | ⟨hc33, h⟩
              ·refine yW<|yl rfl (b true) (yv hc23)<|yl rfl (b false) y1<|ym rfl (b false)<|yl rfl (b true) (yv hc24)<|yl rfl (b false) y1<|yl rfl (b false) yp<|ym rfl (b false)<|yl rfl (b true) (yv hc25)<|yl rfl (b false) y1<|yl rfl (b false) yp<|ym rfl (b false)<|yl rfl (b true) (yv hc26)<|yl rfl (b false) y1<|yl rfl (b false) yp<|ym rfl (b false)<|yl rfl (b true) (yv hc27)<|yl rfl (b false) y1<|yl rfl (b false) yp<|ym rfl (b false)<|yl rfl (b true) (yv hc28)<|yl rfl (b false) y1<|yl rfl (b false) yp<|ym rfl (b false)<|yl rfl (b true) (yv hc29)<|yl rfl (b false) y1<|yl rfl (b false) yp<|ym rfl (b false)<|yl rfl (b true) (yv hc30)<|yl rfl (b false) y1<|yl rfl (b false) yp<|ym rfl (b false)<|yd rfl (agg (mXc r20 r21 r23)) (TOp.loadAgg_o rfl agg27 siz27 rfl rfl rfl rfl)<|yd rfl (b true) (TOp.eqb (TOp.callB (CallAs.func ent21 rfl rfl) (Bors.cons (Bor.agg (bP (bP (bS bN)))) bN) rfl rfl (s_ValidMatrix_ok r20 r21 r23 r42 hf31)) hc32)<|yl rfl (b false) y1<|yl rfl (b false) yp<|ym rfl (b false)<|yl rfl (optr 3 1 0) (LOp.fao und27 rfl siz2 rfl rfl rfl)<|yd rfl (i64 r20) (TOp.load1_o rfl rfl agg2 rfl rfl)<|ym rfl (i64 x3)<|yl rfl (b true) (LOp.eqb (LOp.neq rfl rfl rfl) hc33)<|yl rfl (b true) yp<|ym rfl (b true)<|ROps.s rfl rfl rfl<|ROps.s rfl rfl rfl<|ROps.s rfl rfl rfl<|ROps.s rfl rfl rfl<|yl rfl (b true) yq<|ym rfl (b true)<|ROps.s rfl rfl rfl<|ROps.s rfl rfl rfl<|ROps.s rfl rfl rfl<|yl rfl (b true) yq<|ym rfl (b true)<|ROps.s rfl rfl rfl<|ROps.s rfl rfl rfl<|yl rfl (b true) yq<|zN ?_
               exact .inl ⟨(Le.of ⟨aR, aR, aR, aR, aR, aR, aR, aR, aR, trivial⟩ ⟨⟨rfl, .inr rfl⟩, ⟨rfl, .inr rfl⟩, ⟨rfl, .inl rfl⟩, ⟨rfl, .inr rfl⟩, ⟨rfl, .inl rfl⟩, ⟨rfl, .inr rfl⟩, trivial⟩), h⟩
              ·rcases oB h with ⟨hc34, h⟩ | ⟨hc34, h⟩
               ·refine yW<|yl rfl (b true) (yv hc23)<|yl rfl (b false) y1<|ym rfl (b false)<|yl rfl (b true) (yv hc24)<|yl rfl (b false) y1<|yl rfl (b false) yp<|ym rfl (b false)<|yl rfl (b true) (yv hc25)<|yl rfl (b false) y1<|yl rfl (b false) yp<|ym rfl (b false)<|yl rfl (b true) (yv hc26)<|yl rfl (b false) y1<|yl rfl (b false) yp<|ym rfl (b false)<|yl rfl (b true) (yv hc27)<|yl rfl (b false) y1<|yl rfl (b false) yp<|ym rfl (b false)<|yl rfl (b true) (yv hc28)<|yl rfl (b false) y1<|yl rfl (b false) yp<|ym rfl (b false)<|yl rfl (b true) (yv hc29)<|yl rfl (b false) y1<|yl rfl (b false) yp<|ym rfl (b false)<|yl rfl (b true) (yv hc30)<|yl rfl (b false) y1<|yl rfl (b false) yp<|ym rfl (b false)<|yd rfl (agg (mXc r20 r21 r23)) (TOp.loadAgg_o rfl agg27 siz27 rfl rfl rfl rfl)<|yd rfl (b true) (TOp.eqb (TOp.callB (CallAs.func ent21 rfl rfl) (Bors.cons (Bor.agg (bP (bP (bS bN)))) bN) rfl rfl (s_ValidMatrix_ok r20 r21 r23 r42 hf31)) hc32)<|yl rfl (b false) y1<|yl rfl (b false) yp<|ym rfl (b false)<|yl rfl (optr 3 1 0) (LOp.fao und27 rfl siz2 rfl rfl rfl)<|yd rfl (i64 r20) (TOp.load1_o rfl rfl agg2 rfl rfl)<|ym rfl (i64 x3)<|yl rfl (b false) (LOp.eqb (LOp.neq rfl rfl rfl) hc33)<|yl rfl (b false) yp<|ym rfl (b false)<|yl rfl (optr 3 1 1) (LOp.fao und27 rfl siz2 rfl rfl rfl)<|yd rfl (i64 r21) (TOp.load1_o rfl rfl agg2 rfl rfl)<|ym rfl (i64 x3)<|yl rfl (b true) (LOp.eqb (LOp.neq rfl rfl rfl) hc34)<|yl rfl (b true) yp<|ym rfl (b true)<|ROps.s rfl rfl rfl<|ROps.s rfl rfl rfl<|ROps.s rfl rfl rfl<|yl rfl (b true) yq<|ym rfl (b true)<|ROps.s rfl rfl rfl<|ROps.s rfl rfl rfl<|yl rfl (b true) yq<|zN ?_
                exact .inl ⟨(Le.of ⟨aR, aR, aR, aR, aR, aR, aR, aR, aR, trivial⟩ ⟨⟨rfl, .inr rfl⟩, ⟨rfl, .inr rfl⟩, ⟨rfl, .inl rfl⟩, ⟨rfl, .inr rfl⟩, ⟨rfl, .inl rfl⟩, ⟨rfl, .inr rfl⟩, trivial⟩), h⟩
               ·obtain ⟨r43, hf35, h⟩ := oS h
                rcases oB h with ⟨hc36, h⟩ | ⟨hc36, h⟩
                ·refine yW<|yl rfl (b true) (yv hc23)<|yl rfl (b false) y1<|ym rfl (b false)<|yl rfl (b true) (yv hc24)<|yl rfl (b false) y1<|yl rfl (b false) yp<|ym rfl (b false)<|yl rfl (b true) (yv hc25)<|yl rfl (b false) y1<|yl rfl (b false) yp<|ym rfl (b false)<|yl rfl (b true) (yv hc26)<|yl rfl (b false) y1<|yl rfl (b false) yp<|ym rfl (b false)<|yl rfl (b true) (yv hc27)<|yl rfl (b false) y1<|yl rfl (b false) yp<|ym rfl (b false)<|yl rfl (b true) (yv hc28)<|yl rfl (b false) y1<|yl rfl (b false) yp<|ym rfl (b false)<|yl rfl (b true) (yv hc29)<|yl rfl (b false) y1<|yl rfl (b false) yp<|ym rfl (b false)<|yl rfl (b true) (yv hc30)<|yl rfl (b false) y1<|yl rfl (b false) yp<|ym rfl (b false)<|yd rfl (agg (mXc r20 r21 r23)) (TOp.loadAgg_o rfl agg27 siz27 rfl rfl rfl rfl)<|yd rfl (b true) (TOp.eqb (TOp.callB (CallAs.func ent21 rfl rfl) (Bors.cons (Bor.agg (bP (bP (bS bN)))) bN) rfl rfl (s_ValidMatrix_ok r20 r21 r23 r42 hf31)) hc32)<|yl rfl (b false) y1<|yl rfl (b false) yp<|ym rfl (b false)<|yl rfl (optr 3 1 0) (LOp.fao und27 rfl siz2 rfl rfl rfl)<|yd rfl (i64 r20) (TOp.load1_o rfl rfl agg2 rfl rfl)<|ym rfl (i64 x3)<|yl rfl (b false) (LOp.eqb (LOp.neq rfl rfl rfl) hc33)<|yl rfl (b false) yp<|ym rfl (b false)<|yl rfl (optr 3 1 1) (LOp.fao und27 rfl siz2 rfl rfl rfl)<|yd rfl (i64 r21) (TOp.load1_o rfl rfl agg2 rfl rfl)<|ym rfl (i64 x3)<|yl rfl (b false) (LOp.eqb (LOp.neq rfl rfl rfl) hc34)<|yl rfl (b false) yp<|ym rfl (b false)<|yd rfl (agg (mXc r24 r25 r27)) (TOp.loadAgg_o rfl agg27 siz27 rfl rfl rfl rfl)<|yd rfl (agg (mXc r28 r29 r31)) (TOp.loadAgg_o rfl agg27 siz27 rfl rfl rfl rfl)<|yd rfl (b true) (TOp.eqb (TOp.callB (CallAs.func ent22 rfl rfl) (Bors.cons (Bor.agg (bP (bP (bS bN)))) (Bors.cons (Bor.agg (bP (bP (bS bN)))) (Bors.cons (Bor.le (ALe.fl (by kernel_rfl) (by kernel_rfl)) (Bor.pure rfl)) bN))) rfl rfl (w_b10FarMatrix_ok r24 r25 r27 r28 r29 r31 (some 4562254508917369340) r43 hf35)) hc36)<|yl rfl (b true) yp<|ym rfl (b true)<|ROps.s rfl rfl rfl<|ROps.s rfl rfl rfl<|yl rfl (b true) yq<|zN ?_
                 exact .inl ⟨(Le.of ⟨aR, aR, aR, aR, aR, aR, aR, aR, aR, trivial⟩ ⟨⟨rfl, .inr rfl⟩, ⟨rfl, .inr rfl⟩, ⟨rfl, .inl rfl⟩, ⟨rfl, .inr rfl⟩, ⟨rfl, .inl rfl⟩, ⟨rfl, .inr rfl⟩, trivial⟩), h⟩
                ·rcases oB h with ⟨hc37, h⟩ | ⟨hc37, h⟩
                 ·refine yW<|yl rfl (b true) (yv hc23)<|yl rfl (b false) y1<|ym rfl (b false)<|yl rfl (b true) (yv hc24)<|yl rfl (b false) y1<|yl rfl (b false) yp<|ym rfl (b false)<|yl rfl (b true) (yv hc25)<|yl rfl (b false) y1<|yl rfl (b false) yp<|ym rfl (b false)<|yl rfl (b true) (yv hc26)<|yl rfl (b false) y1<|yl rfl (b false) yp<|ym rfl (b false)<|yl rfl (b true) (yv hc27)<|yl rfl (b false) y1<|yl rfl (b false) yp<|ym rfl (b false)<|yl rfl (b true) (yv hc28)<|yl rfl (b false) y1<|yl rfl (b false) yp<|ym rfl (b false)<|yl rfl (b true) (yv hc29)<|yl rfl (b false) y1<|yl rfl (b false) yp<|ym rfl (b false)<|yl rfl (b true) (yv hc30)<|yl rfl (b false) y1<|yl rfl (b false) yp<|ym rfl (b false)<|yd rfl (agg (mXc r20 r21 r23)) (TOp.loadAgg_o rfl agg27 siz27 rfl rfl rfl rfl)<|yd rfl (b true) (TOp.eqb (TOp.callB (CallAs.func ent21 rfl rfl) (Bors.cons (Bor.agg (bP (bP (bS bN)))) bN) rfl rfl (s_ValidMatrix_ok r20 r21 r23 r42 hf31)) hc32)<|yl rfl (b false) y1<|yl rfl (b false) yp<|ym rfl (b false)<|yl rfl (optr 3 1 0) (LOp.fao und27 rfl siz2 rfl rfl rfl)<|yd rfl (i64 r20) (TOp.load1_o rfl rfl agg2 rfl rfl)<|ym rfl (i64 x3)<|yl rfl (b false) (LOp.eqb (LOp.neq rfl rfl rfl) hc33)<|yl rfl (b false) yp<|ym rfl (b false)<|yl rfl (optr 3 1 1) (LOp.fao und27 rfl siz2 rfl rfl rfl)<|yd rfl (i64 r21) (TOp.load1_o rfl rfl agg2 rfl rfl)<|ym rfl (i64 x3)<|yl rfl (b false) (LOp.eqb (LOp.neq rfl rfl rfl) hc34)<|yl rfl (b false) yp<|ym rfl (b false)<|yd rfl (agg (mXc r24 r25 r27)) (TOp.loadAgg_o rfl agg27 siz27 rfl rfl rfl rfl)<|yd rfl (agg (mXc r28 r29 r31)) (TOp.loadAgg_o rfl agg27 siz27 rfl rfl rfl rfl)<|yd rfl (b false) (TOp.eqb (TOp.callB (CallAs.func ent22 rfl rfl) (Bors.cons (Bor.agg (bP (bP (bS bN)))) (Bors.cons (Bor.agg (bP (bP (bS bN)))) (Bors.cons (Bor.le (ALe.fl (by kernel_rfl) (by kernel_rfl)) (Bor.pure rfl)) bN))) rfl rfl (w_b10FarMatrix_ok r24 r25 r27 r28 r29 r31 (some 4562254508917369340) r43 hf35)) hc36)<|yl rfl (b false) yp<|ym rfl (b false)<|ym rfl (f32 r32)<|yl rfl (b true) (LOp.eqb (LOp.fle rfl (OpF.tmp rfl) (OpF.const rfl (by kernel_rfl) (by kernel_rfl))) hc37)<|yl rfl (b true) yp<|zN ?_
                  exact .inl ⟨(Le.of ⟨aR, aR, aR, aR, aR, aR, aR, aR, aR, trivial⟩ ⟨⟨rfl, .inr rfl⟩, ⟨rfl, .inr rfl⟩, ⟨rfl, .inl rfl⟩, ⟨rfl, .inr rfl⟩, ⟨rfl, .inl rfl⟩, ⟨rfl, .inr rfl⟩, trivial⟩), h⟩
                 ·refine yW<|yl rfl (b true) (yv hc23)<|yl rfl (b false) y1<|ym rfl (b false)<|yl rfl (b true) (yv hc24)<|yl rfl (b false) y1<|yl rfl (b false) yp<|ym rfl (b false)<|yl rfl (b true) (yv hc25)<|yl rfl (b false) y1<|yl rfl (b false) yp<|ym rfl (b false)<|yl rfl (b true) (yv hc26)<|yl rfl (b false) y1<|yl rfl (b false) yp<|ym rfl (b false)<|yl rfl (b true) (yv hc27)<|yl rfl (b false) y1<|yl rfl (b false) yp<|ym rfl (b false)<|yl rfl (b true) (yv hc28)<|yl rfl (b false) y1<|yl rfl (b false) yp<|ym rfl (b false)<|yl rfl (b true) (yv hc29)<|yl rfl (b false) y1<|yl rfl (b false) yp<|ym rfl (b false)<|yl rfl (b true) (yv hc30)<|yl rfl (b false) y1<|yl rfl (b false) yp<|ym rfl (b false)<|yd rfl (agg (mXc r20 r21 r23)) (TOp.loadAgg_o rfl agg27 siz27 rfl rfl rfl rfl)<|yd rfl (b true) (TOp.eqb (TOp.callB (CallAs.func ent21 rfl rfl) (Bors.cons (Bor.agg (bP (bP (bS bN)))) bN) rfl rfl (s_ValidMatrix_ok r20 r21 r23 r42 hf31)) hc32)<|yl rfl (b false) y1<|yl rfl (b false) yp<|ym rfl (b false)<|yl rfl (optr 3 1 0) (LOp.fao und27 rfl siz2 rfl rfl rfl)<|yd rfl (i64 r20) (TOp.load1_o rfl rfl agg2 rfl rfl)<|ym rfl (i64 x3)<|yl rfl (b false) (LOp.eqb (LOp.neq rfl rfl rfl) hc33)<|yl rfl (b false) yp<|ym rfl (b false)<|yl rfl (optr 3 1 1) (LOp.fao und27 rfl siz2 rfl rfl rfl)<|yd rfl (i64 r21) (TOp.load1_o rfl rfl agg2 rfl rfl)<|ym rfl (i64 x3)<|yl rfl (b false) (LOp.eqb (LOp.neq rfl rfl rfl) hc34)<|yl rfl (b false) yp<|ym rfl (b false)<|yd rfl (agg (mXc r24 r25 r27)) (TOp.loadAgg_o rfl agg27 siz27 rfl rfl rfl rfl)<|yd rfl (agg (mXc r28 r29 r31)) (TOp.loadAgg_o rfl agg27 siz27 rfl rfl rfl rfl)<|yd rfl (b false) (TOp.eqb (TOp.callB (CallAs.func ent22 rfl rfl) (Bors.cons (Bor.agg (bP (bP (bS bN)))) (Bors.cons (Bor.agg (bP (bP (bS bN)))) (Bors.cons (Bor.le (ALe.fl (by kernel_rfl) (by kernel_rfl)) (Bor.pure rfl)) bN))) rfl rfl (w_b10FarMatrix_ok r24 r25 r27 r28 r29 r31 (some 4562254508917369340) r43 hf35)) hc36)<|yl rfl (b false) yp<|ym rfl (b false)<|ym rfl (f32 r32)<|yl rfl (b false) (LOp.eqb (LOp.fle rfl (OpF.tmp rfl) (OpF.const rfl (by kernel_rfl) (by kernel_rfl))) hc37)<|yl rfl (b false) yp<|zN ?_
                  exact .inr (⟨(Le.of ⟨aR, aR, aR, aR, aR, aR, aR, aR, aR, trivial⟩ ⟨⟨rfl, .inr rfl⟩, ⟨rfl, .inr rfl⟩, ⟨rfl, .inl rfl⟩, ⟨rfl, .inr rfl⟩, ⟨rfl, .inl rfl⟩, ⟨rfl, .inr rfl⟩, trivial⟩), h⟩)
             ·refine yW<|yl rfl (b true) (yv hc23)<|yl rfl (b false) y1<|ym rfl (b false)<|yl rfl (b true) (yv hc24)<|yl rfl (b false) y1<|yl rfl (b false) yp<|ym rfl (b false)<|yl rfl (b true) (yv hc25)<|yl rfl (b false) y1<|yl rfl (b false) yp<|ym rfl (b false)<|yl rfl (b true) (yv hc26)<|yl rfl (b false) y1<|yl rfl (b false) yp<|ym rfl (b false)<|yl rfl (b true) (yv hc27)<|yl rfl (b false) y1<|yl rfl (b false) yp<|ym rfl (b false)<|yl rfl (b true) (yv hc28)<|yl rfl (b false) y1<|yl rfl (b false) yp<|ym rfl (b false)<|yl rfl (b true) (yv hc29)<|yl rfl (b false) y1<|yl rfl (b false) yp<|ym rfl (b false)<|yl rfl (b true) (yv hc30)<|yl rfl (b false) y1<|yl rfl (b false) yp<|ym rfl (b false)<|yd rfl (agg (mXc r20 r21 r23)) (TOp.loadAgg_o rfl agg27 siz27 rfl rfl rfl rfl)<|yd rfl (b false) (TOp.eqb (TOp.callB (CallAs.func ent21 rfl rfl) (Bors.cons (Bor.agg (bP (bP (bS bN)))) bN) rfl rfl (s_ValidMatrix_ok r20 r21 r23 r42 hf31)) hc32)<|yl rfl (b true) y0<|yl rfl (b true) yp<|ym rfl (b true)<|ROps.s rfl rfl rfl<|ROps.s rfl rfl rfl<|ROps.s rfl rfl rfl<|ROps.s rfl rfl rfl<|yl rfl (b true) yq<|ym rfl (b true)<|ROps.s rfl rfl rfl<|ROps.s rfl rfl rfl<|ROps.s rfl rfl rfl<|ROps.s rfl rfl rfl<|yl rfl (b true) yq<|ym rfl (b true)<|ROps.s rfl rfl rfl<|ROps.s rfl rfl rfl<|ROps.s rfl rfl rfl<|yl rfl (b true) yq<|ym rfl (b true)<|ROps.s rfl rfl rfl<|ROps.s rfl rfl rfl<|yl rfl (b true) yq<|zN ?_
              exact .inl ⟨(Le.of ⟨aR, aR, aR, aR, aR, aR, aR, aR, aR, trivial⟩ ⟨⟨rfl, .inr rfl⟩, ⟨rfl, .inr rfl⟩, ⟨rfl, .inl rfl⟩, ⟨rfl, .inr rfl⟩, ⟨rfl, .inl rfl⟩, ⟨rfl, .inr rfl⟩, trivial⟩), h⟩
            ·refine yW<|yl rfl (b true) (yv hc23)<|yl rfl (b false) y1<|ym rfl (b false)<|yl rfl (b true) (yv hc24)<|yl rfl (b false) y1<|yl rfl (b false) yp<|ym rfl (b false)<|yl rfl (b true) (yv hc25)<|yl rfl (b false) y1<|yl rfl (b false) yp<|ym rfl (b false)<|yl rfl (b true) (yv hc26)<|yl rfl (b false) y1<|yl rfl (b false) yp<|ym rfl (b false)<|yl rfl (b true) (yv hc27)<|yl rfl (b false) y1<|yl rfl (b false) yp<|ym rfl (b false)<|yl rfl (b true) (yv hc28)<|yl rfl (b false) y1<|yl rfl (b false) yp<|ym rfl (b false)<|yl rfl (b true) (yv hc29)<|yl rfl (b false) y1<|yl rfl (b false) yp<|ym rfl (b false)<|yl rfl (b false) (yv hc30)<|yl rfl (b true) y0<|yl rfl (b true) yp<|ym rfl (b true)<|ROps.s rfl rfl rfl<|ROps.s rfl rfl rfl<|ROps.s rfl rfl rfl<|yl rfl (b true) yq<|ym rfl (b true)<|ROps.s rfl rfl rfl<|ROps.s rfl rfl rfl<|ROps.s rfl rfl rfl<|ROps.s rfl rfl rfl<|yl rfl (b true) yq<|ym rfl (b true)<|ROps.s rfl rfl rfl<|ROps.s rfl rfl rfl<|ROps.s rfl rfl rfl<|ROps.s rfl rfl rfl<|yl rfl (b true) yq<|ym rfl (b true)<|ROps.s rfl rfl rfl<|ROps.s rfl rfl rfl<|ROps.s rfl rfl rfl<|yl rfl (b true) yq<|ym rfl (b true)<|ROps.s rfl rfl rfl<|ROps.s rfl rfl rfl<|yl rfl (b true) yq<|zN ?_
             exact .inl ⟨(Le.of ⟨aR, aR, aR, aR, aR, aR, aR, aR, aR, trivial⟩ ⟨⟨rfl, .inr rfl⟩, ⟨rfl, .inr rfl⟩, ⟨rfl, .inl rfl⟩, ⟨rfl, .inr rfl⟩, ⟨rfl, .inl rfl⟩, ⟨rfl, .inr rfl⟩, trivial⟩), h⟩
           ·refine yW<|yl rfl (b true) (yv hc23)<|yl rfl (b false) y1<|ym rfl (b false)<|yl rfl (b true) (yv hc24)<|yl rfl (b false) y1<|yl rfl (b false) yp<|ym rfl (b false)<|yl rfl (b true) (yv hc25)<|yl rfl (b false) y1<|yl rfl (b false) yp<|ym rfl (b false)<|yl rfl (b true) (yv hc26)<|yl rfl (b false) y1<|yl rfl (b false) yp<|ym rfl (b false)<|yl rfl (b true) (yv hc27)<|yl rfl (b false) y1<|yl rfl (b false) yp<|ym rfl (b false)<|yl rfl (b true) (yv hc28)<|yl rfl (b false) y1<|yl rfl (b false) yp<|ym rfl (b false)<|yl rfl (b false) (yv hc29)<|yl rfl (b true) y0<|yl rfl (b true) yp<|ym rfl (b true)<|ROps.s rfl rfl rfl<|ROps.s rfl rfl rfl<|yl rfl (b true) yq<|ym rfl (b true)<|ROps.s rfl rfl rfl<|ROps.s rfl rfl rfl<|ROps.s rfl rfl rfl<|yl rfl (b true) yq<|ym rfl (b true)<|ROps.s rfl rfl rfl<|ROps.s rfl rfl rfl<|ROps.s rfl rfl rfl<|ROps.s rfl rfl rfl<|yl rfl (b true) yq<|ym rfl (b true)<|ROps.s rfl rfl rfl<|ROps.s rfl rfl rfl<|ROps.s rfl rfl rfl<|ROps.s rfl rfl rfl<|yl rfl (b true) yq<|ym rfl (b true)<|ROps.s rfl rfl rfl<|ROps.s rfl rfl rfl<|ROps.s rfl rfl rfl<|yl rfl (b true) yq<|ym rfl (b true)<|ROps.s rfl rfl rfl<|ROps.s rfl rfl rfl<|yl rfl (b true) yq<|zN ?_
            exact .inl ⟨(Le.of ⟨aR, aR, aR, aR, aR, aR, aR, aR, aR, trivial⟩ ⟨⟨rfl, .inr rfl⟩, ⟨rfl, .inr rfl⟩, ⟨rfl, .inl rfl⟩, ⟨rfl, .inr rfl⟩, ⟨rfl, .inl rfl⟩, ⟨rfl, .inr rfl⟩, trivial⟩), h⟩
          ·refine yW<|yl rfl (b true) (yv hc23)<|yl rfl (b false) y1<|ym rfl (b false)<|yl rfl (b true) (yv hc24)<|yl rfl (b false) y1<|yl rfl (b false) yp<|ym rfl (b false)<|yl rfl (b true) (yv hc25)<|yl rfl (b false) y1<|yl rfl (b false) yp<|ym rfl (b false)<|yl rfl (b true) (yv hc26)<|yl rfl (b false) y1<|yl rfl (b false) yp<|ym rfl (b false)<|yl rfl (b true) (yv hc27)<|yl rfl (b false) y1<|yl rfl (b false) yp<|ym rfl (b false)<|yl rfl (b false) (yv hc28)<|yl rfl (b true) y0<|yl rfl (b true) yp<|ym rfl (b true)<|ROps.s rfl rfl rfl<|ROps.s rfl rfl rfl<|yl rfl (b true) yq<|ym rfl (b true)<|ROps.s rfl rfl rfl<|ROps.s rfl rfl rfl<|yl rfl (b true) yq<|ym rfl (b true)<|ROps.s rfl rfl rfl<|ROps.s rfl rfl rfl<|ROps.s rfl rfl rfl<|yl rfl (b true) yq<|ym rfl (b true)<|ROps.s rfl rfl rfl<|ROps.s rfl rfl rfl<|ROps.s rfl rfl rfl<|ROps.s rfl rfl rfl<|yl rfl (b true) yq<|ym rfl (b true)<|ROps.s rfl rfl rfl<|ROps.s rfl rfl rfl<|ROps.s rfl rfl rfl<|ROps.s rfl rfl rfl<|yl rfl (b true) yq<|ym rfl (b true)<|ROps.s rfl rfl rfl<|ROps.s rfl rfl rfl<|ROps.s rfl rfl rfl<|yl rfl (b true) yq<|ym rfl (b true)<|ROps.s rfl rfl rfl<|ROps.s rfl rfl rfl<|yl rfl (b true) yq<|zN ?_
           exact .inl ⟨(Le.of ⟨aR, aR, aR, aR, aR, aR, aR, aR, aR, trivial⟩ ⟨⟨rfl, .inr rfl⟩, ⟨rfl, .inr rfl⟩, ⟨rfl, .inl rfl⟩, ⟨rfl, .inr rfl⟩, ⟨rfl, .inl rfl⟩, ⟨rfl, .inr rfl⟩, trivial⟩), h⟩
         ·refine yW<|yl rfl (b true) (yv hc23)<|yl rfl (b false) y1<|ym rfl (b false)<|yl rfl (b true) (yv hc24)<|yl rfl (b false) y1<|yl rfl (b false) yp<|ym rfl (b false)<|yl rfl (b true) (yv hc25)<|yl rfl (b false) y1<|yl rfl (b false) yp<|ym rfl (b false)<|yl rfl (b true) (yv hc26)<|yl rfl (b false) y1<|yl rfl (b false) yp<|ym rfl (b false)<|yl rfl (b false) (yv hc27)<|yl rfl (b true) y0<|yl rfl (b true) yp<|ym rfl (b true)<|ROps.s rfl rfl rfl<|ROps.s rfl rfl rfl<|yl rfl (b true) yq<|ym rfl (b true)<|ROps.s rfl rfl rfl<|ROps.s rfl rfl rfl<|yl rfl (b true) yq<|ym rfl (b true)<|ROps.s rfl rfl rfl<|ROps.s rfl rfl rfl<|yl rfl (b true) yq<|ym rfl (b true)<|ROps.s rfl rfl rfl<|ROps.s rfl rfl rfl<|ROps.s rfl rfl rfl<|yl rfl (b true) yq<|ym rfl (b true)<|ROps.s rfl rfl rfl<|ROps.s rfl rfl rfl<|ROps.s rfl rfl rfl<|ROps.s rfl rfl rfl<|yl rfl (b true) yq<|ym rfl (b true)<|ROps.s rfl rfl rfl<|ROps.s rfl rfl rfl<|ROps.s rfl rfl rfl<|ROps.s rfl rfl rfl<|yl rfl (b true) yq<|ym rfl (b true)<|ROps.s rfl rfl rfl<|ROps.s rfl rfl rfl<|ROps.s rfl rfl rfl<|yl rfl (b true) yq<|ym rfl (b true)<|ROps.s rfl rfl rfl<|ROps.s rfl rfl rfl<|yl rfl (b true) yq<|zN ?_
          exact .inl ⟨(Le.of ⟨aR, aR, aR, aR, aR, aR, aR, aR, aR, trivial⟩ ⟨⟨rfl, .inr rfl⟩, ⟨rfl, .inr rfl⟩, ⟨rfl, .inl rfl⟩, ⟨rfl, .inr rfl⟩, ⟨rfl, .inl rfl⟩, ⟨rfl, .inr rfl⟩, trivial⟩), h⟩
        ·refine yW<|yl rfl (b true) (yv hc23)<|yl rfl (b false) y1<|ym rfl (b false)<|yl rfl (b true) (yv hc24)<|yl rfl (b false) y1<|yl rfl (b false) yp<|ym rfl (b false)<|yl rfl (b true) (yv hc25)<|yl rfl (b false) y1<|yl rfl (b false) yp<|ym rfl (b false)<|yl rfl (b false) (yv hc26)<|yl rfl (b true) y0<|yl rfl (b true) yp<|ym rfl (b true)<|ROps.s rfl rfl rfl<|ROps.s rfl rfl rfl<|yl rfl (b true) yq<|ym rfl (b true)<|ROps.s rfl rfl rfl<|ROps.s rfl rfl rfl<|yl rfl (b true) yq<|ym rfl (b true)<|ROps.s rfl rfl rfl<|ROps.s rfl rfl rfl<|yl rfl (b true) yq<|ym rfl (b true)<|ROps.s rfl rfl rfl<|ROps.s rfl rfl rfl<|yl rfl (b true) yq<|ym rfl (b true)<|ROps.s rfl rfl rfl<|ROps.s rfl rfl rfl<|ROps.s rfl rfl rfl<|yl rfl (b true) yq<|ym rfl (b true)<|ROps.s rfl rfl rfl<|ROps.s rfl rfl rfl<|ROps.s rfl rfl rfl<|ROps.s rfl rfl rfl<|yl rfl (b true) yq<|ym rfl (b true)<|ROps.s rfl rfl rfl<|ROps.s rfl rfl rfl<|ROps.s rfl rfl rfl<|ROps.s rfl rfl rfl<|yl rfl (b true) yq<|ym rfl (b true)<|ROps.s rfl rfl rfl<|ROps.s rfl rfl rfl<|ROps.s rfl rfl rfl<|yl rfl (b true) yq<|ym rfl (b true)<|ROps.s rfl rfl rfl<|ROps.s rfl rfl rfl<|yl rfl (b true) yq<|zN ?_
         exact .inl ⟨(Le.of ⟨aR, aR, aR, aR, aR, aR, aR, aR, aR, trivial⟩ ⟨⟨rfl, .inr rfl⟩, ⟨rfl, .inr rfl⟩, ⟨rfl, .inl rfl⟩, ⟨rfl, .inr rfl⟩, ⟨rfl, .inl rfl⟩, ⟨rfl, .inr rfl⟩, trivial⟩), h⟩
       ·refine yW<|yl rfl (b true) (yv hc23)<|yl rfl (b false) y1<|ym rfl (b false)<|yl rfl (b true) (yv hc24)<|yl rfl (b false) y1<|yl rfl (b false) yp<|ym rfl (b false)<|yl rfl (b false) (yv hc25)<|yl rfl (b true) y0<|yl rfl (b true) yp<|ym rfl (b true)<|ROps.s rfl rfl rfl<|ROps.s rfl rfl rfl<|yl rfl (b true) yq<|ym rfl (b true)<|ROps.s rfl rfl rfl<|ROps.s rfl rfl rfl<|yl rfl (b true) yq<|ym rfl (b true)<|ROps.s rfl rfl rfl<|ROps.s rfl rfl rfl<|yl rfl (b true) yq<|ym rfl (b true)<|ROps.s rfl rfl rfl<|ROps.s rfl rfl rfl<|yl rfl (b true) yq<|ym rfl (b true)<|ROps.s rfl rfl rfl<|ROps.s rfl rfl rfl<|yl rfl (b true) yq<|ym rfl (b true)<|ROps.s rfl rfl rfl<|ROps.s rfl rfl rfl<|ROps.s rfl rfl rfl<|yl rfl (b true) yq<|ym rfl (b true)<|ROps.s rfl rfl rfl<|ROps.s rfl rfl rfl<|ROps.s rfl rfl rfl<|ROps.s rfl rfl rfl<|yl rfl (b true) yq<|ym rfl (b true)<|ROps.s rfl rfl rfl<|ROps.s rfl rfl rfl<|ROps.s rfl rfl rfl<|ROps.s rfl rfl rfl<|yl rfl (b true) yq<|ym rfl (b true)<|ROps.s rfl rfl rfl<|ROps.s rfl rfl rfl<|ROps.s rfl rfl rfl<|yl rfl (b true) yq<|ym rfl (b true)<|ROps.s rfl rfl rfl<|ROps.s rfl rfl rfl<|yl rfl (b true) yq<|zN ?_
        exact .inl ⟨(Le.of ⟨aR, aR, aR, aR, aR, aR, aR, aR, aR, trivial⟩ ⟨⟨rfl, .inr rfl⟩, ⟨rfl, .inr rfl⟩, ⟨rfl, .inl rfl⟩, ⟨rfl, .inr rfl⟩, ⟨rfl, .inl rfl⟩, ⟨rfl, .inr rfl⟩, trivial⟩), h⟩
      ·refine yW<|yl rfl (b true) (yv hc23)<|yl rfl (b false) y1<|ym rfl (b false)<|yl rfl (b false) (yv hc24)<|yl rfl (b true) y0<|yl rfl (b true) yp<|ym rfl (b true)<|ROps.s rfl rfl rfl<|ROps.s rfl rfl rfl<|yl rfl (b true) yq<|ym rfl (b true)<|ROps.s rfl rfl rfl<|ROps.s rfl rfl rfl<|yl rfl (b true) yq<|ym rfl (b true)<|ROps.s rfl rfl rfl<|ROps.s rfl rfl rfl<|yl rfl (b true) yq<|ym rfl (b true)<|ROps.s rfl rfl rfl<|ROps.s rfl rfl rfl<|yl rfl (b true) yq<|ym rfl (b true)<|ROps.s rfl rfl rfl<|ROps.s rfl rfl rfl<|yl rfl (b true) yq<|ym rfl (b true)<|ROps.s rfl rfl rfl<|ROps.s rfl rfl rfl<|yl rfl (b true) yq<|ym rfl (b true)<|ROps.s rfl rfl rfl<|ROps.s rfl rfl rfl<|ROps.s rfl rfl rfl<|yl rfl (b true) yq<|ym rfl (b true)<|ROps.s rfl rfl rfl<|ROps.s rfl rfl rfl<|ROps.s rfl rfl rfl<|ROps.s rfl rfl rfl<|yl rfl (b true) yq<|ym rfl (b true)<|ROps.s rfl rfl rfl<|ROps.s rfl rfl rfl<|ROps.s rfl rfl rfl<|ROps.s rfl rfl rfl<|yl rfl (b true) yq<|ym rfl (b true)<|ROps.s rfl rfl rfl<|ROps.s rfl rfl rfl<|ROps.s rfl rfl rfl<|yl rfl (b true) yq<|ym rfl (b true)<|ROps.s rfl rfl rfl<|ROps.s rfl rfl rfl<|yl rfl (b true) yq<|zN ?_
       exact .inl ⟨(Le.of ⟨aR, aR, aR, aR, aR, aR, aR, aR, aR, trivial⟩ ⟨⟨rfl, .inr rfl⟩, ⟨rfl, .inr rfl⟩, ⟨rfl, .inl rfl⟩, ⟨rfl, .inr rfl⟩, ⟨rfl, .inl rfl⟩, ⟨rfl, .inr rfl⟩, trivial⟩), h⟩
     ·refine yW<|yl rfl (b false) (yv hc23)<|yl rfl (b true) y0<|ym rfl (b true)<|ROps.s rfl rfl rfl<|ROps.s rfl rfl rfl<|yl rfl (b true) yq<|ym rfl (b true)<|ROps.s rfl rfl rfl<|ROps.s rfl rfl rfl<|yl rfl (b true) yq<|ym rfl (b true)<|ROps.s rfl rfl rfl<|ROps.s rfl rfl rfl<|yl rfl (b true) yq<|ym rfl (b true)<|ROps.s rfl rfl rfl<|ROps.s rfl rfl rfl<|yl rfl (b true) yq<|ym rfl (b true)<|ROps.s rfl rfl rfl<|ROps.s rfl rfl rfl<|yl rfl (b true) yq<|ym rfl (b true)<|ROps.s rfl rfl rfl<|ROps.s rfl rfl rfl<|yl rfl (b true) yq<|ym rfl (b true)<|ROps.s rfl rfl rfl<|ROps.s rfl rfl rfl<|yl rfl (b true) yq<|ym rfl (b true)<|ROps.s rfl rfl rfl<|ROps.s rfl rfl rfl<|ROps.s rfl rfl rfl<|yl rfl (b true) yq<|ym rfl (b true)<|ROps.s rfl rfl rfl<|ROps.s rfl rfl rfl<|ROps.s rfl rfl rfl<|ROps.s rfl rfl rfl<|yl rfl (b true) yq<|ym rfl (b true)<|ROps.s rfl rfl rfl<|ROps.s rfl rfl rfl<|ROps.s rfl rfl rfl<|ROps.s rfl rfl rfl<|yl rfl (b true) yq<|ym rfl (b true)<|ROps.s rfl rfl rfl<|ROps.s rfl rfl rfl<|ROps.s rfl rfl rfl<|yl rfl (b true) yq<|ym rfl (b true)<|ROps.s rfl rfl rfl<|ROps.s rfl rfl rfl<|yl rfl (b true) yq<|zN ?_
      exact .inl ⟨(Le.of ⟨aR, aR, aR, aR, aR, aR, aR, aR, aR, trivial⟩ ⟨⟨rfl, .inr rfl⟩, ⟨rfl, .inr rfl⟩, ⟨rfl, .inl rfl⟩, ⟨rfl, .inr rfl⟩, ⟨rfl, .inl rfl⟩, ⟨rfl, .inr rfl⟩, trivial⟩), h⟩
    ·rintro τ19 Γ19 (⟨hw19, h⟩ | ⟨hw19, h⟩)
     ·refine RunC.le (τ' := [(5, i64 x3), (6, optr 0 1 0), (7, (sFc r7)), (8, optr 1 1 0), (12, optr 3 1 0), (20, (sFc r35)), (22, (sFc r37)), (24, optr 5 1 0), (176, b true)]) (Γ' := [⟨1, some (mXc r4 r5 r6)⟩, ⟨1, some [i64 r8, i64 r9, (sFc r11), sl r12.length (r12.map i64)]⟩, ⟨2, none⟩, ⟨1, some (mXc r20 r21 r23)⟩, ⟨1, none⟩, ⟨1, some (mXc r38 r39 r41)⟩]) hw19 ?_
      unfold w_FnTriangles_k6 at h
      refine yT<|zQ<|ya rfl (b false)<|zN ?_
      refine RunC.ret ?_
      have hq := oI h
      subst q0
      exact bodyQ.pure (.inr rfl) rfl (Res.one rfl (RV.tmp rfl))
     ·refine RunC.le (τ' := [(5, i64 x3), (6, optr 0 1 0), (7, (sFc r7)), (8, optr 1 1 0), (12, optr 3 1 0), (20, (sFc r35)), (22, (sFc r37)), (24, optr 5 1 0), (176, b false)]) (Γ' := [⟨1, some (mXc r4 r5 r6)⟩, ⟨1, some [i64 r8, i64 r9, (sFc r11), sl r12.length (r12.map i64)]⟩, ⟨2, none⟩, ⟨1, some (mXc r20 r21 r23)⟩, ⟨1, none⟩, ⟨1, some (mXc r38 r39 r41)⟩]) hw19 ?_
      unfold w_FnTriangles_k8 at h
      refine yF<|RunC.skip<|yS ?_
      obtain ⟨r44, r45, hf38, h⟩ := obind2_some h
      refine yW<|yd rfl (agg (mXc r4 r5 r6)) (TOp.loadAgg_o rfl agg27 siz27 rfl rfl rfl rfl)<|ym rfl (sFc r35)<|yd rfl (tup [(sFc r45), b r44]) (TOp.callS (CallAs.func ent23 rfl rfl) (ALes.cons aR (ALes.cons aR ALes.nil)) (lts_cons (lt_agg (lts_cons rfl (lts_cons rfl (lts_cons (lt_sl (fun _ => rfl)) lts_nil)))) (lts_cons (lt_sl (fun _ => rfl)) lts_nil)) (lt_tup (lts_cons (lt_sl (fun _ => rfl)) (lts_cons rfl lts_nil))) (s_TimesVector_ok r4 r5 r6 r35 r44 r45 hf38) (Bor.tup (Bors.cons (Bor.own (f := f32) (fun _ => rfl) rfl rfl) bN0)))<|ym rfl (tup [(sFc r45), b r44])<|yl rfl (sFc r45) y3<|yl rfl (b r44) y3<|ya rfl (sFc r45)<|ya rfl (b r44)<|zN ?_
      refine yS ?_
      obtain ⟨r46, r47, r48, r49, hf39, h⟩ := obind4_some h
      refine yW<|yd rfl (agg (mXc r4 r5 r6)) (TOp.loadAgg_o rfl agg27 siz27 rfl rfl rfl rfl)<|yd rfl (tup [agg (mXc r46 r47 r49), b r48]) (TOp.callS (CallAs.func ent24 rfl rfl) (ALes.cons aR ALes.nil) (lts_cons (lt_agg (lts_cons rfl (lts_cons rfl (lts_cons (lt_sl (fun _ => rfl)) lts_nil)))) lts_nil) (lt_tup (lts_cons (lt_agg (lts_cons rfl (lts_cons rfl (lts_cons (lt_sl (fun _ => rfl)) lts_nil)))) (lts_cons rfl lts_nil))) (s_FlipMatrix_ok r4 r5 r6 r46 r47 r48 r49 hf39) (Bor.tup (Bors.cons (Bor.agg (bP (bP (Bors.cons (Bor.own (f := f32) (fun _ => rfl) rfl rfl) bN)))) bN0)))<|ym rfl (tup [agg (mXc r46 r47 r49), b r48])<|yl rfl (agg (mXc r46 r47 r49)) y3<|yl rfl (b r48) y3<|ye rfl (optr 2 3 0) ([⟨1, some (mXc r4 r5 r6)⟩, ⟨1, some [i64 r8, i64 r9, (sFc r11), sl r12.length (r12.map i64)]⟩, ⟨3, some zMx⟩, ⟨1, some (mXc r20 r21 r23)⟩, ⟨1, none⟩, ⟨1, some (mXc r38 r39 r41)⟩]) (TOp.alloc_o (g := ⟨2, none⟩) 2 rfl zer27 zok27 rfl)<|ys (agg (mXc r46 r47 r49)) (mXc r46 r47 r49) ([⟨1, some (mXc r4 r5 r6)⟩, ⟨1, some [i64 r8, i64 r9, (sFc r11), sl r12.length (r12.map i64)]⟩, ⟨3, some (mXc r46 r47 r49)⟩, ⟨1, some (mXc r20 r21 r23)⟩, ⟨1, none⟩, ⟨1, some (mXc r38 r39 r41)⟩]) siz27<|ya rfl (b r48)<|zN ?_
      refine yS<|yS<|RunC.cutN (fun τ Γ => ( Le 565 τ Γ [(5, i64 x3), (6, optr 0 1 0), (7, (sFc r7)), (8, optr 1 1 0), (12, optr 3 1 0), (22, (sFc r37)), (24, optr 5 1 0), (28, optr 2 3 0), (198, b true)] [⟨1, some (mXc r4 r5 r6)⟩, ⟨1, some [i64 r8, i64 r9, (sFc r11), sl r12.length (r12.map i64)]⟩, ⟨3, some (mXc r46 r47 r49)⟩, ⟨1, some (mXc r20 r21 r23)⟩, ⟨1, none⟩, ⟨1, some (mXc r38 r39 r41)⟩] ∧ w_FnTriangles_k10 = some q0) ∨ ( Le 565 τ Γ [(5, i64 x3), (6, optr 0 1 0), (7, (sFc r7)), (8, optr 1 1 0), (12, optr 3 1 0), (22, (sFc r37)), (24, optr 5 1 0), (28, optr 2 3 0), (198, b false)] [⟨1, some (mXc r4 r5 r6)⟩, ⟨1, some [i64 r8, i64 r9, (sFc r11), sl r12.length (r12.map i64)]⟩, ⟨3, some (mXc r46 r47 r49)⟩, ⟨1, some (mXc r20 r21 r23)⟩, ⟨1, none⟩, ⟨1, some (mXc r38 r39 r41)⟩] ∧ w_FnTriangles_k12 x3 r4 r5 r6 r7 r8 r9 r11 r12 r23 r37 r38 r39 r41 r46 r47 r49 = some q0)) ?_ ?_
      ·rcases oB h with ⟨hc40, h⟩ | ⟨hc40, h⟩
       ·rcases oB h with ⟨hc41, h⟩ | ⟨hc41, h⟩
        ·obtain ⟨r50, hf42, h⟩ := oS h
         rcases oB h with ⟨hc43, h⟩ | ⟨hc43, h⟩
         ·refine yW<|yl rfl (b true) (yv hc40)<|yl rfl (b false) y1<|ym rfl (b false)<|yl rfl (b true) (yv hc41)<|yl rfl (b false) y1<|yl rfl (b false) yp<|ym rfl (b false)<|ym rfl (sFc r45)<|ym rfl (sFc r7)<|yd rfl (b true) (TOp.eqb (yc ent25 rfl rfl (bS (bS (Bors.cons (Bor.le (ALe.fl (by kernel_rfl) (by kernel_rfl)) (Bor.pure rfl)) bN))) (w_b10Far_ok r45 r7 (some 4562254508917369340) r50 hf42)) hc43)<|yl rfl (b true) yp<|zN ?_
          exact .inl ⟨(Le.of ⟨aR, aR, aR, aR, aR, aR, aR, aR, aR, trivial⟩ ⟨⟨rfl, .inr rfl⟩, ⟨rfl, .inr rfl⟩, ⟨rfl, .inr rfl⟩, ⟨rfl, .inr rfl⟩, ⟨rfl, .inl rfl⟩, ⟨rfl, .inr rfl⟩, trivial⟩), h⟩
         ·refine yW<|yl rfl (b true) (yv hc40)<|yl rfl (b false) y1<|ym rfl (b false)<|yl rfl (b true) (yv hc41)<|yl rfl (b false) y1<|yl rfl (b false) yp<|ym rfl (b false)<|ym rfl (sFc r45)<|ym rfl (sFc r7)<|yd rfl (b false) (TOp.eqb (yc ent25 rfl rfl (bS (bS (Bors.cons (Bor.le (ALe.fl (by kernel_rfl) (by kernel_rfl)) (Bor.pure rfl)) bN))) (w_b10Far_ok r45 r7 (some 4562254508917369340) r50 hf42)) hc43)<|yl rfl (b false) yp<|zN ?_
          exact .inr (⟨(Le.of ⟨aR, aR, aR, aR, aR, aR, aR, aR, aR, trivial⟩ ⟨⟨rfl, .inr rfl⟩, ⟨rfl, .inr rfl⟩, ⟨rfl, .inr rfl⟩, ⟨rfl, .inr rfl⟩, ⟨rfl, .inl rfl⟩, ⟨rfl, .inr rfl⟩, trivial⟩), h⟩)
        ·refine yW<|yl rfl (b true) (yv hc40)<|yl rfl (b false) y1<|ym rfl (b false)<|yl rfl (b false) (yv hc41)<|yl rfl (b true) y0<|yl rfl (b true) yp<|ym rfl (b true)<|ROps.s rfl rfl rfl<|ROps.s rfl rfl rfl<|ROps.s rfl rfl rfl<|yl rfl (b true) yq<|zN ?_
         exact .inl ⟨(Le.of ⟨aR, aR, aR, aR, aR, aR, aR, aR, aR, trivial⟩ ⟨⟨rfl, .inr rfl⟩, ⟨rfl, .inr rfl⟩, ⟨rfl, .inr rfl⟩, ⟨rfl, .inr rfl⟩, ⟨rfl, .inl rfl⟩, ⟨rfl, .inr rfl⟩, trivial⟩), h⟩
       ·refine yW<|yl rfl (b false) (yv hc40)<|yl rfl (b true) y0<|ym rfl (b true)<|ROps.s rfl rfl rfl<|ROps.s rfl rfl rfl<|yl rfl (b true) yq<|ym rfl (b true)<|ROps.s rfl rfl rfl<|ROps.s rfl rfl rfl<|ROps.s rfl rfl rfl<|yl rfl (b true) yq<|zN ?_
        exact .inl ⟨(Le.of ⟨aR, aR, aR, aR, aR, aR, aR, aR, aR, trivial⟩ ⟨⟨rfl, .inr rfl⟩, ⟨rfl, .inr rfl⟩, ⟨rfl, .inr rfl⟩, ⟨rfl, .inr rfl⟩, ⟨rfl, .inl rfl⟩, ⟨rfl, .inr rfl⟩, trivial⟩), h⟩
      ·rintro τ20 Γ20 (⟨hw20, h⟩ | ⟨hw20, h⟩)
       ·refine RunC.le (τ' := [(5, i64 x3), (6, optr 0 1 0), (7, (sFc r7)), (8, optr 1 1 0), (12, optr 3 1 0), (22, (sFc r37)), (24, optr 5 1 0), (28, optr 2 3 0), (198, b true)]) (Γ' := [⟨1, some (mXc r4 r5 r6)⟩, ⟨1, some [i64 r8, i64 r9, (sFc r11), sl r12.length (r12.map i64)]⟩, ⟨3, some (mXc r46 r47 r49)⟩, ⟨1, some (mXc r20 r21 r23)⟩, ⟨1, none⟩, ⟨1, some (mXc r38 r39 r41)⟩]) hw20 ?_
        unfold w_FnTriangles_k10 at h
        refine yT<|zQ<|ya rfl (b false)<|zN ?_
        refine RunC.ret ?_
        have hq := oI h
        subst q0
        exact bodyQ.pure (.inr rfl) rfl (Res.one rfl (RV.tmp rfl))
       ·refine RunC.le (τ' := [(5, i64 x3), (6, optr 0 1 0), (7, (sFc r7)), (8, optr 1 1 0), (12, optr 3 1 0), (22, (sFc r37)), (24, optr 5 1 0), (28, optr 2 3 0), (198, b false)]) (Γ' := [⟨1, some (mXc r4 r5 r6)⟩, ⟨1, some [i64 r8, i64 r9, (sFc r11), sl r12.length (r12.map i64)]⟩, ⟨3, some (mXc r46 r47 r49)⟩, ⟨1, some (mXc r20 r21 r23)⟩, ⟨1, none⟩, ⟨1, some (mXc r38 r39 r41)⟩]) hw20 ?_
        unfold w_FnTriangles_k12 at h
        refine yF<|RunC.skip<|yS ?_
        obtain ⟨r51, r52, hf44, h⟩ := obind2_some h
        refine yW<|yd rfl (agg (mXc r46 r47 r49)) (TOp.loadAgg_o rfl agg27 siz27 rfl rfl rfl rfl)<|ym rfl (sFc r37)<|yd rfl (tup [(sFc r52), b r51]) (TOp.callS (CallAs.func ent23 rfl rfl) (ALes.cons aR (ALes.cons aR ALes.nil)) (lts_cons (lt_agg (lts_cons rfl (lts_cons rfl (lts_cons (lt_sl (fun _ => rfl)) lts_nil)))) (lts_cons (lt_sl (fun _ => rfl)) lts_nil)) (lt_tup (lts_cons (lt_sl (fun _ => rfl)) (lts_cons rfl lts_nil))) (s_TimesVector_ok r46 r47 r49 r37 r51 r52 hf44) (Bor.tup (Bors.cons (Bor.own (f := f32) (fun _ => rfl) rfl rfl) bN0)))<|ym rfl (tup [(sFc r52), b r51])<|yl rfl (sFc r52) y3<|yl rfl (b r51) y3<|ya rfl (sFc r52)<|ya rfl (b r51)<|zN ?_
        refine RunC.wl (τ' := [(5, i64 x3), (6, optr 0 1 0), (7, (sFc r7)), (8, optr 1 1 0), (12, optr 3 1 0), (24, optr 5 1 0), (30, (sFc r52)), (31, b r51)]) (Γ' := [⟨1, some (mXc r4 r5 r6)⟩, ⟨1, some [i64 r8, i64 r9, (sFc r11), sl r12.length (r12.map i64)]⟩, ⟨3, none⟩, ⟨1, some (mXc r20 r21 r23)⟩, ⟨1, none⟩, ⟨1, some (mXc r38 r39 r41)⟩]) ⟨aR, aR, aR, aR, aR, aR, aR, aR, trivial⟩ ⟨⟨rfl, .inr rfl⟩, ⟨rfl, .inr rfl⟩, ⟨rfl, .inl rfl⟩, ⟨rfl, .inr rfl⟩, ⟨rfl, .inl rfl⟩, ⟨rfl, .inr rfl⟩, trivial⟩<|yS ?_
        obtain ⟨r53, r54, r55, r56, hf45, h⟩ := obind4_some h
        refine yW<|yd rfl (agg (mXc r4 r5 r6)) (TOp.loadAgg_o rfl agg27 siz27 rfl rfl rfl rfl)<|yd rfl (agg (mXc r38 r39 r41)) (TOp.loadAgg_o rfl agg27 siz27 rfl rfl rfl rfl)<|yd rfl (tup [agg (mXc r53 r54 r56), b r55]) (TOp.callS (CallAs.func ent15 rfl rfl) (ALes.cons aR (ALes.cons aR ALes.nil)) (lts_cons (lt_agg (lts_cons rfl (lts_cons rfl (lts_cons (lt_sl (fun _ => rfl)) lts_nil)))) (lts_cons (lt_agg (lts_cons rfl (lts_cons rfl (lts_cons (lt_sl (fun _ => rfl)) lts_nil)))) lts_nil)) (lt_tup (lts_cons (lt_agg (lts_cons rfl (lts_cons rfl (lts_cons (lt_sl (fun _ => rfl)) lts_nil)))) (lts_cons rfl lts_nil))) (s_MulMatrices_ok r4 r5 r6 r38 r39 r41 r53 r54 r55 r56 hf45) (Bor.tup (Bors.cons (Bor.agg (bP (bP (Bors.cons (Bor.own (f := f32) (fun _ => rfl) rfl rfl) bN)))) bN0)))<|ym rfl (tup [agg (mXc r53 r54 r56), b r55])<|yl rfl (agg (mXc r53 r54 r56)) y3<|yl rfl (b r55) y3<|ye rfl (optr 2 4 0) ([⟨1, some (mXc r4 r5 r6)⟩, ⟨1, some [i64 r8, i64 r9, (sFc r11), sl r12.length (r12.map i64)]⟩, ⟨4, some zMx⟩, ⟨1, some (mXc r20 r21 r23)⟩, ⟨1, none⟩, ⟨1, some (mXc r38 r39 r41)⟩]) (TOp.alloc_o (g := ⟨3, none⟩) 2 rfl zer27 zok27 rfl)<|ys (agg (mXc r53 r54 r56)) (mXc r53 r54 r56) ([⟨1, some (mXc r4 r5 r6)⟩, ⟨1, some [i64 r8, i64 r9, (sFc r11), sl r12.length (r12.map i64)]⟩, ⟨4, some (mXc r53 r54 r56)⟩, ⟨1, some (mXc r20 r21 r23)⟩, ⟨1, none⟩, ⟨1, some (mXc r38 r39 r41)⟩]) siz27<|ya rfl (b r55)<|zN ?_
        refine RunC.wl (τ' := [(5, i64 x3), (7, (sFc r7)), (8, optr 1 1 0), (12, optr 3 1 0), (30, (sFc r52)), (31, b r51), (32, optr 2 4 0), (33, b r55)]) (Γ' := [⟨1, none⟩, ⟨1, some [i64 r8, i64 r9, (sFc r11), sl r12.length (r12.map i64)]⟩, ⟨4, some (mXc r53 r54 r56)⟩, ⟨1, some (mXc r20 r21 r23)⟩, ⟨1, none⟩, ⟨1, none⟩]) ⟨aR, aR, aR, aR, aR, aR, aR, aR, trivial⟩ ⟨⟨rfl, .inl rfl⟩, ⟨rfl, .inr rfl⟩, ⟨rfl, .inr rfl⟩, ⟨rfl, .inr rfl⟩, ⟨rfl, .inl rfl⟩, ⟨rfl, .inl rfl⟩, trivial⟩<|yS ?_
        obtain ⟨r57, r58, r59, r60, hf46, h⟩ := obind4_some h
        refine yW<|ym rfl (i64 x3)<|yd rfl (tup [agg (mXc r57 r58 r60), b r59]) (TOp.callS (CallAs.func ent26 rfl rfl) (ALes.cons aR ALes.nil) (lts_cons rfl lts_nil) (lt_tup (lts_cons (lt_agg (lts_cons rfl (lts_cons rfl (lts_cons (lt_sl (fun _ => rfl)) lts_nil)))) (lts_cons rfl lts_nil))) (s_UnitMatrix_ok x3 r57 r58 r59 r60 hf46) (Bor.tup (Bors.cons (Bor.agg (bP (bP (Bors.cons (Bor.own (f := f32) (fun _ => rfl) rfl rfl) bN)))) bN0)))<|ym rfl (tup [agg (mXc r57 r58 r60), b r59])<|yl rfl (agg (mXc r57 r58 r60)) y3<|yl rfl (b r59) y3<|ye rfl (optr 0 2 0) ([⟨2, some zMx⟩, ⟨1, some [i64 r8, i64 r9, (sFc r11), sl r12.length (r12.map i64)]⟩, ⟨4, some (mXc r53 r54 r56)⟩, ⟨1, some (mXc r20 r21 r23)⟩, ⟨1, none⟩, ⟨1, none⟩]) (TOp.alloc_o (g := ⟨1, none⟩) 0 rfl zer27 zok27 rfl)<|ys (agg (mXc r57 r58 r60)) (mXc r57 r58 r60) ([⟨2, some (mXc r57 r58 r60)⟩, ⟨1, some [i64 r8, i64 r9, (sFc r11), sl r12.length (r12.map i64)]⟩, ⟨4, some (mXc r53 r54 r56)⟩, ⟨1, some (mXc r20 r21 r23)⟩, ⟨1, none⟩, ⟨1, none⟩]) siz27<|ya rfl (b r59)<|zN ?_
        refine yS ?_
        obtain ⟨r61, r62, hf47, h⟩ := obind2_some h
        refine yW<|yd rfl (agg [i64 r8, i64 r9, (sFc r11), sl r12.length (r12.map i64)]) (TOp.loadAgg_o rfl agg32 siz32 rfl rfl rfl rfl)<|yd rfl (tup [f32 r61, b r62]) (TOp.callB (CallAs.func ent27 rfl rfl) (Bors.cons (Bor.agg (bP (bP (bS (bS bN))))) bN) rfl rfl (i_FactorDet_ok r8 r9 r11 r12 r61 r62 hf47))<|ym rfl (tup [f32 r61, b r62])<|yl rfl (f32 r61) y3<|yl rfl (b r62) y3<|ya rfl (f32 r61)<|ya rfl (b r62)<|zN ?_
        refine RunC.wl (τ' := [(5, i64 x3), (7, (sFc r7)), (12, optr 3 1 0), (30, (sFc r52)), (31, b r51), (32, optr 2 4 0), (33, b r55), (34, optr 0 2 0), (35, b r59), (36, f32 r61), (37, b r62)]) (Γ' := [⟨2, some (mXc r57 r58 r60)⟩, ⟨1, none⟩, ⟨4, some (mXc r53 r54 r56)⟩, ⟨1, some (mXc r20 r21 r23)⟩, ⟨1, none⟩, ⟨1, none⟩]) ⟨aR, aR, aR, aR, aR, aR, aR, aR, aR, aR, aR, trivial⟩ ⟨⟨rfl, .inr rfl⟩, ⟨rfl, .inl rfl⟩, ⟨rfl, .inr rfl⟩, ⟨rfl, .inr rfl⟩, ⟨rfl, .inl rfl⟩, ⟨rfl, .inl rfl⟩, trivial⟩<|yS<|yS<|RunC.cutN (fun τ Γ => ( Le 565 τ Γ [(5, i64 x3), (12, optr 3 1 0), (36, f32 r61), (244, b true)] [⟨2, none⟩, ⟨1, none⟩, ⟨4, none⟩, ⟨1, some (mXc r20 r21 r23)⟩, ⟨1, none⟩, ⟨1, none⟩] ∧ w_FnTriangles_k14 = some q0) ∨ ( Le 565 τ Γ [(5, i64 x3), (12, optr 3 1 0), (36, f32 r61), (244, b false)] [⟨2, none⟩, ⟨1, none⟩, ⟨4, none⟩, ⟨1, some (mXc r20 r21 r23)⟩, ⟨1, none⟩, ⟨1, none⟩] ∧ w_FnTriangles_k16 x3 r23 r61 = some q0)) ?_ ?_
        ·rcases oB h with ⟨hc48, h⟩ | ⟨hc48, h⟩
         ·rcases oB h with ⟨hc49, h⟩ | ⟨hc49, h⟩
          ·rcases oB h with ⟨hc50, h⟩ | ⟨hc50, h⟩
           ·rcases oB h with ⟨hc51, h⟩ | ⟨hc51, h⟩
            ·obtain ⟨r63, hf52, h⟩ := oS h
             rcases oB h with ⟨hc53, h⟩ | ⟨hc53, h⟩
             ·refine yW<|yl rfl (b true) (yv hc48)<|yl rfl (b false) y1<|ym rfl (b false)<|yl rfl (b true) (yv hc49)<|yl rfl (b false) y1<|yl rfl (b false) yp<|ym rfl (b false)<|yl rfl (b true) (yv hc50)<|yl rfl (b false) y1<|yl rfl (b false) yp<|ym rfl (b false)<|yl rfl (b true) (yv hc51)<|yl rfl (b false) y1<|yl rfl (b false) yp<|ym rfl (b false)<|ym rfl (sFc r52)<|ym rfl (sFc r7)<|yd rfl (b true) (TOp.eqb (yc ent25 rfl rfl (bS (bS (Bors.cons (Bor.le (ALe.fl (by kernel_rfl) (by kernel_rfl)) (Bor.pure rfl)) bN))) (w_b10Far_ok r52 r7 (some 4562254508917369340) r63 hf52)) hc53)<|yl rfl (b true) yp<|ym rfl (b true)<|ROps.s rfl rfl rfl<|ROps.s rfl rfl rfl<|ROps.s rfl rfl rfl<|yl rfl (b true) yq<|zN ?_
              exact .inl ⟨(Le.of ⟨aR, aR, aR, aR, trivial⟩ ⟨⟨rfl, .inl rfl⟩, ⟨rfl, .inl rfl⟩, ⟨rfl, .inl rfl⟩, ⟨rfl, .inr rfl⟩, ⟨rfl, .inl rfl⟩, ⟨rfl, .inl rfl⟩, trivial⟩), h⟩
             ·obtain ⟨r64, hf54, h⟩ := oS h
              rcases oB h with ⟨hc55, h⟩ | ⟨hc55, h⟩
              ·refine yW<|yl rfl (b true) (yv hc48)<|yl rfl (b false) y1<|ym rfl (b false)<|yl rfl (b true) (yv hc49)<|yl rfl (b false) y1<|yl rfl (b false) yp<|ym rfl (b false)<|yl rfl (b true) (yv hc50)<|yl rfl (b false) y1<|yl rfl (b false) yp<|ym rfl (b false)<|yl rfl (b true) (yv hc51)<|yl rfl (b false) y1<|yl rfl (b false) yp<|ym rfl (b false)<|ym rfl (sFc r52)<|ym rfl (sFc r7)<|yd rfl (b false) (TOp.eqb (yc ent25 rfl rfl (bS (bS (Bors.cons (Bor.le (ALe.fl (by kernel_rfl) (by kernel_rfl)) (Bor.pure rfl)) bN))) (w_b10Far_ok r52 r7 (some 4562254508917369340) r63 hf52)) hc53)<|yl rfl (b false) yp<|ym rfl (b false)<|yd rfl (agg (mXc r53 r54 r56)) (TOp.loadAgg_o rfl agg27 siz27 rfl rfl rfl rfl)<|yd rfl (agg (mXc r57 r58 r60)) (TOp.loadAgg_o rfl agg27 siz27 rfl rfl rfl rfl)<|yd rfl (b true) (TOp.eqb (TOp.callB (CallAs.func ent22 rfl rfl) (Bors.cons (Bor.agg (bP (bP (bS bN)))) (Bors.cons (Bor.agg (bP (bP (bS bN)))) (Bors.cons (Bor.le (ALe.fl (by kernel_rfl) (by kernel_rfl)) (Bor.pure rfl)) bN))) rfl rfl (w_b10FarMatrix_ok r53 r54 r56 r57 r58 r60 (some 4562254508917369340) r64 hf54)) hc55)<|yl rfl (b true) yp<|zN ?_
               exact .inl ⟨(Le.of ⟨aR, aR, aR, aR, trivial⟩ ⟨⟨rfl, .inl rfl⟩, ⟨rfl, .inl rfl⟩, ⟨rfl, .inl rfl⟩, ⟨rfl, .inr rfl⟩, ⟨rfl, .inl rfl⟩, ⟨rfl, .inl rfl⟩, trivial⟩), h⟩
              ·refine yW<|yl rfl (b true) (yv hc48)<|yl rfl (b false) y1<|ym rfl (b false)<|yl rfl (b true) (yv hc49)<|yl rfl (b false) y1<|yl rfl (b false) yp<|ym rfl (b false)<|yl rfl (b true) (yv hc50)<|yl rfl (b false) y1<|yl rfl (b false) yp<|ym rfl (b false)<|yl rfl (b true) (yv hc51)<|yl rfl (b false) y1<|yl rfl (b false) yp<|ym rfl (b false)<|ym rfl (sFc r52)<|ym rfl (sFc r7)<|yd rfl (b false) (TOp.eqb (yc ent25 rfl rfl (bS (bS (Bors.cons (Bor.le (ALe.fl (by kernel_rfl) (by kernel_rfl)) (Bor.pure rfl)) bN))) (w_b10Far_ok r52 r7 (some 4562254508917369340) r63 hf52)) hc53)<|yl rfl (b false) yp<|ym rfl (b false)<|yd rfl (agg (mXc r53 r54 r56)) (TOp.loadAgg_o rfl agg27 siz27 rfl rfl rfl rfl)<|yd rfl (agg (mXc r57 r58 r60)) (TOp.loadAgg_o rfl agg27 siz27 rfl rfl rfl rfl)<|yd rfl (b false) (TOp.eqb (TOp.callB (CallAs.func ent22 rfl rfl) (Bors.cons (Bor.agg (bP (bP (bS bN)))) (Bors.cons (Bor.agg (bP (bP (bS bN)))) (Bors.cons (Bor.le (ALe.fl (by kernel_rfl) (by kernel_rfl)) (Bor.pure rfl)) bN))) rfl rfl (w_b10FarMatrix_ok r53 r54 r56 r57 r58 r60 (some 4562254508917369340) r64 hf54)) hc55)<|yl rfl (b false) yp<|zN ?_
               exact .inr (⟨(Le.of ⟨aR, aR, aR, aR, trivial⟩ ⟨⟨rfl, .inl rfl⟩, ⟨rfl, .inl rfl⟩, ⟨rfl, .inl rfl⟩, ⟨rfl, .inr rfl⟩, ⟨rfl, .inl rfl⟩, ⟨rfl, .inl rfl⟩, trivial⟩), h⟩)
            ·refine yW<|yl rfl (b true) (yv hc48)<|yl rfl (b false) y1<|ym rfl (b false)<|yl rfl (b true) (yv hc49)<|yl rfl (b false) y1<|yl rfl (b false) yp<|ym rfl (b false)<|yl rfl (b true) (yv hc50)<|yl rfl (b false) y1<|yl rfl (b false) yp<|ym rfl (b false)<|yl rfl (b false) (yv hc51)<|yl rfl (b true) y0<|yl rfl (b true) yp<|ym rfl (b true)<|ROps.s rfl rfl rfl<|ROps.s rfl rfl rfl<|ROps.s rfl rfl rfl<|yl rfl (b true) yq<|ym rfl (b true)<|ROps.s rfl rfl rfl<|ROps.s rfl rfl rfl<|ROps.s rfl rfl rfl<|yl rfl (b true) yq<|zN ?_
             exact .inl ⟨(Le.of ⟨aR, aR, aR, aR, trivial⟩ ⟨⟨rfl, .inl rfl⟩, ⟨rfl, .inl rfl⟩, ⟨rfl, .inl rfl⟩, ⟨rfl, .inr rfl⟩, ⟨rfl, .inl rfl⟩, ⟨rfl, .inl rfl⟩, trivial⟩), h⟩
           ·refine yW<|yl rfl (b true) (yv hc48)<|yl rfl (b false) y1<|ym rfl (b false)<|yl rfl (b true) (yv hc49)<|yl rfl (b false) y1<|yl rfl (b false) yp<|ym rfl (b false)<|yl rfl (b false) (yv hc50)<|yl rfl (b true) y0<|yl rfl (b true) yp<|ym rfl (b true)<|ROps.s rfl rfl rfl<|ROps.s rfl rfl rfl<|yl rfl (b true) yq<|ym rfl (b true)<|ROps.s rfl rfl rfl<|ROps.s rfl rfl rfl<|ROps.s rfl rfl rfl<|yl rfl (b true) yq<|ym rfl (b true)<|ROps.s rfl rfl rfl<|ROps.s rfl rfl rfl<|ROps.s rfl rfl rfl<|yl rfl (b true) yq<|zN ?_
            exact .inl ⟨(Le.of ⟨aR, aR, aR, aR, trivial⟩ ⟨⟨rfl, .inl rfl⟩, ⟨rfl, .inl rfl⟩, ⟨rfl, .inl rfl⟩, ⟨rfl, .inr rfl⟩, ⟨rfl, .inl rfl⟩, ⟨rfl, .inl rfl⟩, trivial⟩), h⟩
          ·refine yW<|yl rfl (b true) (yv hc48)<|yl rfl (b false) y1<|ym rfl (b false)<|yl rfl (b false) (yv hc49)<|yl rfl (b true) y0<|yl rfl (b true) yp<|ym rfl (b true)<|ROps.s rfl rfl rfl<|ROps.s rfl rfl rfl<|yl rfl (b true) yq<|ym rfl (b true)<|ROps.s rfl rfl rfl<|ROps.s rfl rfl rfl<|yl rfl (b true) yq<|ym rfl (b true)<|ROps.s rfl rfl rfl<|ROps.s rfl rfl rfl<|ROps.s rfl rfl rfl<|yl rfl (b true) yq<|ym rfl (b true)<|ROps.s rfl rfl rfl<|ROps.s rfl rfl rfl<|ROps.s rfl rfl rfl<|yl rfl (b true) yq<|zN ?_
           exact .inl ⟨(Le.of ⟨aR, aR, aR, aR, trivial⟩ ⟨⟨rfl, .inl rfl⟩, ⟨rfl, .inl rfl⟩, ⟨rfl, .inl rfl⟩, ⟨rfl, .inr rfl⟩, ⟨rfl, .inl rfl⟩, ⟨rfl, .inl rfl⟩, trivial⟩), h⟩
         ·refine yW<|yl rfl (b false) (yv hc48)<|yl rfl (b true) y0<|ym rfl (b true)<|ROps.s rfl rfl rfl<|ROps.s rfl rfl rfl<|yl rfl (b true) yq<|ym rfl (b true)<|ROps.s rfl rfl rfl<|ROps.s rfl rfl rfl<|yl rfl (b true) yq<|ym rfl (b true)<|ROps.s rfl rfl rfl<|ROps.s rfl rfl rfl<|yl rfl (b true) yq<|ym rfl (b true)<|ROps.s rfl rfl rfl<|ROps.s rfl rfl rfl<|ROps.s rfl rfl rfl<|yl rfl (b true) yq<|ym rfl (b true)<|ROps.s rfl rfl rfl<|ROps.s rfl rfl rfl<|ROps.s rfl rfl rfl<|yl rfl (b true) yq<|zN ?_
          exact .inl ⟨(Le.of ⟨aR, aR, aR, aR, trivial⟩ ⟨⟨rfl, .inl rfl⟩, ⟨rfl, .inl rfl⟩, ⟨rfl, .inl rfl⟩, ⟨rfl, .inr rfl⟩, ⟨rfl, .inl rfl⟩, ⟨rfl, .inl rfl⟩, trivial⟩), h⟩
        ·rintro τ21 Γ21 (⟨hw21, h⟩ | ⟨hw21, h⟩)
         ·refine RunC.le (τ' := [(5, i64 x3), (12, optr 3 1 0), (36, f32 r61), (244, b true)]) (Γ' := [⟨2, none⟩, ⟨1, none⟩, ⟨4, none⟩, ⟨1, some (mXc r20 r21 r23)⟩, ⟨1, none⟩, ⟨1, none⟩]) hw21 ?_
          unfold w_FnTriangles_k14 at h
          refine yT<|zQ<|ya rfl (b false)<|zN ?_
          refine RunC.ret ?_
          have hq := oI h
          subst q0
          exact bodyQ.pure (.inr rfl) rfl (Res.one rfl (RV.tmp rfl))
         ·refine RunC.le (τ' := [(5, i64 x3), (12, optr 3 1 0), (36, f32 r61), (244, b false)]) (Γ' := [⟨2, none⟩, ⟨1, none⟩, ⟨4, none⟩, ⟨1, some (mXc r20 r21 r23)⟩, ⟨1, none⟩, ⟨1, none⟩]) hw21 ?_
          unfold w_FnTriangles_k16 at h
          refine yF<|RunC.skip<|zQ<|yl rfl (f64 (some 4607182418800017408)) (LOp.le (LOp.assign rfl rfl) (ALe.fl (by kernel_rfl) (by kernel_rfl)))<|zN ?_
          refine yS<|zQ<|ya rfl (i64 0)<|zN ?_
          obtain ⟨z22, hz_22, h⟩ := oS h
          refine RunC.cutN (fun τ Γ => ∃ (y73 : F), Le 565 τ Γ [(36, f32 r61), (38, f64 y73)] [⟨2, none⟩, ⟨1, none⟩, ⟨4, none⟩, ⟨1, none⟩, ⟨1, none⟩, ⟨1, none⟩] ∧ z22 = .inl y73) ?_ ?_
          ·refine RunC.block (RunC.loop (RunL.loopM (x := z22) (w_FnTriangles_s17 x3 r23) (fun (s : F × Int) τ Γ => Le 565 τ Γ [(5, i64 x3), (12, optr 3 1 0), (36, f32 r61), (38, f64 s.1), (39, i64 s.2)] [⟨2, none⟩, ⟨1, none⟩, ⟨4, none⟩, ⟨1, some (mXc r20 r21 r23)⟩, ⟨1, none⟩, ⟨1, none⟩]) ?_ _ _ _ hz_22 (Le.of ⟨aR, aR, aR, aR, aR, trivial⟩ ⟨⟨rfl, .inl rfl⟩, ⟨rfl, .inl rfl⟩, ⟨rfl, .inl rfl⟩, ⟨rfl, .inr rfl⟩, ⟨rfl, .inl rfl⟩, ⟨rfl, .inl rfl⟩, trivial⟩)))
           rintro ⟨y65, v66⟩ τ22 Γ22 y22_ hw22 h22_ ho22 hr22
           refine RunC.le (τ' := [(5, i64 x3), (12, optr 3 1 0), (36, f32 r61), (38, f64 y65), (39, i64 v66)]) (Γ' := [⟨2, none⟩, ⟨1, none⟩, ⟨4, none⟩, ⟨1, some (mXc r20 r21 r23)⟩, ⟨1, none⟩, ⟨1, none⟩]) hw22 ?_
           replace h22_ : w_FnTriangles_b17 x3 r23 y65 v66 = some y22_ := h22_
           unfold w_FnTriangles_b17 at h22_
           refine yS<|yS ?_
           rcases oB h22_ with ⟨hc56, h22_⟩ | ⟨hc56, h22_⟩
           ·refine yW<|ym rfl (i64 v66)<|ym rfl (i64 x3)<|yl rfl (b true) (LOp.eqb (LOp.lss rfl rfl rfl) hc56)<|zN ?_
            refine yT<|RunC.skip<|yS<|RunC.block ?_
            obtain ⟨x67, hx57, h22_⟩ := oL h22_
            obtain ⟨x68, hx58, h22_⟩ := oL h22_
            obtain ⟨e69, he59, h22_⟩ := oS h22_
            obtain ⟨x70, hx60, h22_⟩ := oL h22_
            obtain ⟨x71, hx61, h22_⟩ := oL h22_
            refine yW<|ym rfl (f64 y65)<|yl rfl (optr 3 1 2) (LOp.fao und27 rfl siz25 rfl rfl rfl)<|yd rfl (sFc r23) (TOp.load1_o rfl rfl agg25 rfl rfl)<|ym rfl (i64 v66)<|ym rfl (i64 x3)<|yl rfl (i64 x67) (LOp.eqr (LOp.mul rfl rfl rfl) (congrArg (ik .i64) hx57))<|ym rfl (i64 v66)<|yl rfl (i64 x68) (LOp.eqr (LOp.add rfl rfl rfl) (congrArg (ik .i64) hx58))<|yl rfl (ptr [f32 e69]) (LOp.le (LOp.ix (f := f32) und25 siz41 rfl rfl rfl rfl he59) ALe.ptr)<|yl rfl (f32 e69) (y2 agg41)<|yd rfl (f64 x70) (TOp.eqr (TOp.widen (src := 41) (dst := 48) ⟨_, pun41⟩ pun48 rfl (OpF.tmp rfl)) (congrArg (f .f64) hx60))<|yd rfl (f64 x71) (TOp.eqr (TOp.fop (.inr (.inr (.inl rfl))) rfl (OpF.tmp rfl) (OpF.tmp rfl)) (congrArg (f .f64) hx61))<|ya rfl (f64 x71)<|zN ?_
            obtain ⟨x72, hx62, h22_⟩ := oL h22_
            refine yW<|ym rfl (i64 v66)<|yl rfl (i64 x72) (LOp.eqr (LOp.add rfl rfl rfl) (congrArg (ik .i64) hx62))<|ya rfl (i64 x72)<|zN ?_
            cases oI h22_
            exact ⟨_, rfl, (Le.of ⟨aR, aR, aR, aR, aR, trivial⟩ ⟨⟨rfl, .inl rfl⟩, ⟨rfl, .inl rfl⟩, ⟨rfl, .inl rfl⟩, ⟨rfl, .inr rfl⟩, ⟨rfl, .inl rfl⟩, ⟨rfl, .inl rfl⟩, trivial⟩)⟩
           ·refine yW<|ym rfl (i64 v66)<|ym rfl (i64 x3)<|yl rfl (b false) (LOp.eqb (LOp.lss rfl rfl rfl) hc56)<|zN ?_
            refine yF<|RunC.exit ?_
            cases oI h22_
            have hx := ho22 _ rfl
            exact ⟨y65, (Le.of ⟨aR, aR, trivial⟩ ⟨⟨rfl, .inl rfl⟩, ⟨rfl, .inl rfl⟩, ⟨rfl, .inl rfl⟩, ⟨rfl, .inl rfl⟩, ⟨rfl, .inl rfl⟩, ⟨rfl, .inl rfl⟩, trivial⟩), hx⟩
          ·rintro τ23 Γ23 ⟨y73, hw23, rfl⟩
           refine RunC.le hw23 ?_
           replace h : w_FnTriangles_k17 r61 y73 = some q0 := h
           unfold w_FnTriangles_k17 at h
           refine yS ?_
           obtain ⟨x74, hx63, h⟩ := oL h
           obtain ⟨r75, hf64, h⟩ := oS h
           obtain ⟨r76, hf65, h⟩ := oS h
           obtain ⟨x77, hx66, h⟩ := oL h
           rcases oB h with ⟨hc67, h⟩ | ⟨hc67, h⟩
           ·obtain ⟨x78, hx68, h⟩ := oL h
            obtain ⟨r79, hf69, h⟩ := oS h
            obtain ⟨r80, hf70, h⟩ := oS h
            obtain ⟨r81, hf71, h⟩ := oS h
            obtain ⟨r82, hf72, h⟩ := oS h
            obtain ⟨x83, hx73, h⟩ := oL h
            obtain ⟨x84, hx74, h⟩ := oL h
            refine yW<|ym rfl (f32 r61)<|yd rfl (f64 x74) (TOp.eqr (TOp.widen (src := 41) (dst := 48) ⟨_, pun41⟩ pun48 rfl (OpF.tmp rfl)) (congrArg (f .f64) hx63))<|yd rfl (f64 r75) (yc ent28 rfl rfl (bP (Bors.cons (Bor.le (ALe.fl (by kernel_rfl) (by kernel_rfl)) (Bor.pure rfl)) bN)) (w_b10Gap_ok x74 (some 0) r75 hf64))<|ym rfl (f64 y73)<|yd rfl (f64 r76) (yc ent28 rfl rfl (bP (Bors.cons (Bor.le (ALe.fl (by kernel_rfl) (by kernel_rfl)) (Bor.pure rfl)) bN)) (w_b10Gap_ok y73 (some 0) r76 hf65))<|yd rfl (f64 x77) (TOp.eqr (TOp.fop (.inr (.inr (.inl rfl))) rfl (OpF.const rfl (by kernel_rfl) (by kernel_rfl)) (OpF.tmp rfl)) (congrArg (f .f64) hx66))<|yl rfl (b true) (LOp.eqb (LOp.fgt rfl (OpF.tmp rfl) (OpF.tmp rfl)) hc67)<|ym rfl (b true)<|ym rfl (f32 r61)<|yd rfl (f64 x78) (TOp.eqr (TOp.widen (src := 41) (dst := 48) ⟨_, pun41⟩ pun48 rfl (OpF.tmp rfl)) (congrArg (f .f64) hx68))<|yd rfl (f64 r79) (yc ent28 rfl rfl (bP (Bors.cons (Bor.le (ALe.fl (by kernel_rfl) (by kernel_rfl)) (Bor.pure rfl)) bN)) (w_b10Gap_ok x78 (some 0) r79 hf69))<|ym rfl (f64 y73)<|yd rfl (f64 r80) (yc ent28 rfl rfl (bP (Bors.cons (Bor.le (ALe.fl (by kernel_rfl) (by kernel_rfl)) (Bor.pure rfl)) bN)) (w_b10Gap_ok y73 (some 0) r80 hf70))<|yd rfl (f64 r81) (yc ent28 rfl rfl (bP bN0) (w_b10Gap_ok r79 r80 r81 hf71))<|ym rfl (f64 y73)<|yd rfl (f64 r82) (yc ent28 rfl rfl (bP (Bors.cons (Bor.le (ALe.fl (by kernel_rfl) (by kernel_rfl)) (Bor.pure rfl)) bN)) (w_b10Gap_ok y73 (some 0) r82 hf72))<|yd rfl (f64 x83) (TOp.eqr (TOp.fop (.inl rfl) rfl (OpF.const rfl (by kernel_rfl) (by kernel_rfl)) (OpF.tmp rfl)) (congrArg (f .f64) hx73))<|yd rfl (f64 x84) (TOp.eqr (TOp.fop (.inr (.inr (.inl rfl))) rfl (OpF.const rfl (by kernel_rfl) (by kernel_rfl)) (OpF.tmp rfl)) (congrArg (f .f64) hx74))<|yl rfl (b (flt .f64 r81 x84)) (LOp.flt rfl (OpF.tmp rfl) (OpF.tmp rfl))<|yl rfl (b (flt .f64 r81 x84)) yq<|ya rfl (b (flt .f64 r81 x84))<|zN ?_
            refine RunC.ret ?_
            have hq := oI h
            subst q0
            exact bodyQ.pure (.inr rfl) rfl (Res.one rfl (RV.tmp rfl))
           ·refine yW<|ym rfl (f32 r61)<|yd rfl (f64 x74) (TOp.eqr (TOp.widen (src := 41) (dst := 48) ⟨_, pun41⟩ pun48 rfl (OpF.tmp rfl)) (congrArg (f .f64) hx63))<|yd rfl (f64 r75) (yc ent28 rfl rfl (bP (Bors.cons (Bor.le (ALe.fl (by kernel_rfl) (by kernel_rfl)) (Bor.pure rfl)) bN)) (w_b10Gap_ok x74 (some 0) r75 hf64))<|ym rfl (f64 y73)<|yd rfl (f64 r76) (yc ent28 rfl rfl (bP (Bors.cons (Bor.le (ALe.fl (by kernel_rfl) (by kernel_rfl)) (Bor.pure rfl)) bN)) (w_b10Gap_ok y73 (some 0) r76 hf65))<|yd rfl (f64 x77) (TOp.eqr (TOp.fop (.inr (.inr (.inl rfl))) rfl (OpF.const rfl (by kernel_rfl) (by kernel_rfl)) (OpF.tmp rfl)) (congrArg (f .f64) hx66))<|yl rfl (b false) (LOp.eqb (LOp.fgt rfl (OpF.tmp rfl) (OpF.tmp rfl)) hc67)<|ym rfl (b false)<|ROps.s rfl rfl rfl<|ROps.s rfl rfl rfl<|ROps.s rfl rfl rfl<|ROps.s rfl rfl rfl<|ROps.s rfl rfl rfl<|ROps.s rfl rfl rfl<|ROps.s rfl rfl rfl<|ROps.s rfl rfl rfl<|ROps.s rfl rfl rfl<|ROps.s rfl rfl rfl<|ROps.s rfl rfl rfl<|yl rfl (b false) yp<|ya rfl (b false)<|zN ?_
            refine RunC.ret ?_
            have hq := oI h
            subst q0
            exact bodyQ.pure (.inr rfl) rfl (Res.one rfl (RV.tmp rfl))
end
end Go.Proofs.YtkdociaoknmgbaaGreat
