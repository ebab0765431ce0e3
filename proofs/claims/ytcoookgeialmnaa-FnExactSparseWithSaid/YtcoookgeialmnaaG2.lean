/- Generated. -/
import Derived.Test.YtcoookgeialmnaaG1
namespace Go.Proofs.Ytcoookgeialmnaa
open Go Go.AM Go.AM.AV
set_option maxRecDepth 20000
set_option maxHeartbeats 4000000
set_option linter.unusedVariables false
set_option linter.unusedSimpArgs false
noncomputable def i_Sparse_each_2Fi_SparseRootSolve_2_2c0p0_2c1p1_C0_C10o2_b1 (a1 : List Int) (a2 : List Int) (a3 : List F) (a4 : Int) (a5 : Int) (a6 : List F) (L2 : List F) (v4 : Int) : Option (LR ((List F) × Int) ((List F)) ((List F))) :=
 olet (IntKind.i64.wrap (a4 + 1)) fun (x5 : Int) =>
 obind (at? a1 x5) fun (e6 : Int) =>
 bsel (decide (v4 < e6)) (
  obind (at? a2 v4) fun (e9 : Int) =>
  obind (at? a3 v4) fun (e10 : F) =>
  obind (i_SparseRootSolve_2_2p0_3p1_C0_C10o2 e9 e10 a5 L2) fun (r11 : List F) =>
  need (decide (r11.length = a6.length)) <|
  olet (IntKind.i64.wrap (v4 + 1)) fun (x12 : Int) =>
  some (LR.next (r11, x12))) (
  some (LR.out L2))
noncomputable def i_Sparse_each_2Fi_SparseRootSolve_2_2c0p0_2c1p1_C0_C10o2_s1 (a1 : List Int) (a2 : List Int) (a3 : List F) (a4 : Int) (a5 : Int) (a6 : List F) : ((List F) × Int) → Option (LR ((List F) × Int) ((List F)) ((List F))) := fun s => i_Sparse_each_2Fi_SparseRootSolve_2_2c0p0_2c1p1_C0_C10o2_b1 a1 a2 a3 a4 a5 a6 s.1 s.2
noncomputable def i_Sparse_each_2Fi_SparseRootSolve_2_2c0p0_2c1p1_C0_C10o2_k1 (L13 : List F) : Option ((List F)) :=
 some L13
noncomputable def i_Sparse_each_2Fi_SparseRootSolve_2_2c0p0_2c1p1_C0_C10o2 (a0 : Int) (a1 : List Int) (a2 : List Int) (a3 : List F) (a4 : Int) (a5 : Int) (a6 : List F) : Option ((List F)) :=
 obind (at? a1 a4) fun (e1 : Int) =>
 obind (loopM (i_Sparse_each_2Fi_SparseRootSolve_2_2c0p0_2c1p1_C0_C10o2_s1 a1 a2 a3 a4 a5 a6) (a6, e1)) fun z => osum z (fun e => i_Sparse_each_2Fi_SparseRootSolve_2_2c0p0_2c1p1_C0_C10o2_k1 e) (fun r => some r)
theorem i_Sparse_each_2Fi_SparseRootSolve_2_2c0p0_2c1p1_C0_C10o2_ok (a0 : Int) (a1 : List Int) (a2 : List Int) (a3 : List F) (a4 : Int) (a5 : Int) (a6 : List F) (q0 : List F) (h : i_Sparse_each_2Fi_SparseRootSolve_2_2c0p0_2c1p1_C0_C10o2 a0 a1 a2 a3 a4 a5 a6 = some q0) : Ev Try.prog 95 [agg [i64 a0, sl a1.length (a1.map i64), sl a2.length (a2.map i64), sl a3.length (a3.map f32)], i64 a4, fn (.func 96) [] [optr 0 0 0, optr 1 0 0]] [⟨0, some [i64 a5]⟩, ⟨0, some [oref 2 0 0 a6.length]⟩, ⟨0, some (a6.map f32)⟩] (tup []) [⟨0, some [i64 a5]⟩, ⟨0, some [oref 2 0 0 a6.length]⟩, ⟨0, some (q0.map f32)⟩] := by
 refine Ev.start Try.func95 rfl rfl 0 (τ := [(0, agg [i64 a0, sl a1.length (a1.map i64), sl a2.length (a2.map i64), sl a3.length (a3.map f32)]), (1, i64 a4), (2, fn (.func 96) [] [optr 0 0 0, optr 1 0 0])]) rfl (Γ' := [⟨0, some [i64 a5]⟩, ⟨0, some [oref 2 0 0 a6.length]⟩, ⟨0, some (a6.map f32)⟩]) rfl (n := 68) rfl (g := 3) rfl (by decide) ?_
 unfold i_Sparse_each_2Fi_SparseRootSolve_2_2c0p0_2c1p1_C0_C10o2 at h
 refine zQ ?_
 refine ROps.d (r := ptr [i64 a0, sl a1.length (a1.map i64), sl a2.length (a2.map i64), sl a3.length (a3.map f32)]) (fs := []) (Γ' := [⟨0, some [i64 a5]⟩, ⟨0, some [oref 2 0 0 a6.length]⟩, ⟨0, some (a6.map f32)⟩]) rfl rfl rfl (TOp.box_s rfl rfl rfl) rfl ?_
 refine zN ?_
 refine RunC.seq ?_
 obtain ⟨e1, he1, h⟩ := obind_some h
 refine RunC.regionW ?_
 refine zL (r := ptr [sl a1.length (a1.map i64), sl a2.length (a2.map i64), sl a3.length (a3.map f32)]) rfl rfl rfl (LOp.fap und30 rfl siz22 rfl rfl rfl) ?_
 refine zL (r := sl a1.length (a1.map i64)) rfl rfl rfl (LOp.load1 agg22 rfl rfl) ?_
 refine zM (r := i64 a4) rfl rfl rfl rfl rfl ?_
 refine zL (r := ptr [i64 e1]) rfl rfl rfl (LOp.le (LOp.ix (f := i64) und22 siz2 rfl rfl rfl rfl he1) ALe.ptr) ?_
 refine zL (r := i64 e1) rfl rfl rfl (LOp.load1 agg2 rfl rfl) ?_
 refine zA (r := i64 e1) rfl rfl rfl rfl rfl ?_
 refine zN ?_
 obtain ⟨z2, hz_2, h⟩ := obind_some h
 refine RunC.cutN (fun τ Γ => ∃ (L13 : List F), L13.length = a6.length ∧ WeakLe τ [] ∧ DeadLe Γ [⟨0, some [i64 a5]⟩, ⟨0, some [oref 2 0 0 a6.length]⟩, ⟨0, some (L13.map f32)⟩] ∧ z2 = .inl L13) ?_ ?_
 ·refine RunC.block (RunC.loop (RunL.loopM (x := z2) (i_Sparse_each_2Fi_SparseRootSolve_2_2c0p0_2c1p1_C0_C10o2_s1 a1 a2 a3 a4 a5 a6) (fun (s : (List F) × Int) τ Γ => s.1.length = a6.length ∧ WeakLe τ [(1, i64 a4), (2, fn (.func 96) [] [optr 0 0 0, optr 1 0 0]), (3, ptr [i64 a0, sl a1.length (a1.map i64), sl a2.length (a2.map i64), sl a3.length (a3.map f32)]), (6, i64 s.2)] ∧ DeadLe Γ [⟨0, some [i64 a5]⟩, ⟨0, some [oref 2 0 0 a6.length]⟩, ⟨0, some (s.1.map f32)⟩]) ?_ _ _ _ hz_2 ⟨rfl, ⟨aR, aR, aR, aR, trivial⟩, ⟨⟨rfl, .inr rfl⟩, ⟨rfl, .inr rfl⟩, ⟨rfl, .inr rfl⟩, trivial⟩⟩))
  rintro ⟨L2, v4⟩ τ2 Γ2 y2_ ⟨hl3, hw2, hd2⟩ h2_ ho2 hr2
  refine RunC.wl (τ' := [(1, i64 a4), (2, fn (.func 96) [] [optr 0 0 0, optr 1 0 0]), (3, ptr [i64 a0, sl a1.length (a1.map i64), sl a2.length (a2.map i64), sl a3.length (a3.map f32)]), (6, i64 v4)]) (Γ' := [⟨0, some [i64 a5]⟩, ⟨0, some [oref 2 0 0 a6.length]⟩, ⟨0, some (L2.map f32)⟩]) hw2 hd2 ?_
  replace hl3 : L2.length = a6.length := hl3
  replace h2_ : i_Sparse_each_2Fi_SparseRootSolve_2_2c0p0_2c1p1_C0_C10o2_b1 a1 a2 a3 a4 a5 a6 L2 v4 = some y2_ := h2_
  unfold i_Sparse_each_2Fi_SparseRootSolve_2_2c0p0_2c1p1_C0_C10o2_b1 at h2_
  refine RunC.seq ?_
  refine RunC.seq ?_
  obtain ⟨x5, hx2, h2_⟩ := olet_some h2_
  obtain ⟨e6, he3, h2_⟩ := obind_some h2_
  rcases bsel_some h2_ with ⟨hc4, h2_⟩ | ⟨hc4, h2_⟩
  ·refine RunC.regionW ?_
   refine zM (r := i64 v4) rfl rfl rfl rfl rfl ?_
   refine zL (r := ptr [sl a1.length (a1.map i64), sl a2.length (a2.map i64), sl a3.length (a3.map f32)]) rfl rfl rfl (LOp.fap und30 rfl siz22 rfl rfl rfl) ?_
   refine zL (r := sl a1.length (a1.map i64)) rfl rfl rfl (LOp.load1 agg22 rfl rfl) ?_
   refine zM (r := i64 a4) rfl rfl rfl rfl rfl ?_
   refine zL (r := i64 x5) rfl rfl rfl (LOp.eqr (LOp.add rfl rfl rfl) (congrArg (ik .i64) hx2)) ?_
   refine zL (r := ptr [i64 e6]) rfl rfl rfl (LOp.le (LOp.ix (f := i64) und22 siz2 rfl rfl rfl rfl he3) ALe.ptr) ?_
   refine zL (r := i64 e6) rfl rfl rfl (LOp.load1 agg2 rfl rfl) ?_
   refine zL (r := b true) rfl rfl rfl (LOp.eqb (LOp.lss rfl rfl rfl) hc4) ?_
   refine zN ?_
   refine RunC.cond_true rfl rfl ?_
   refine RunC.skip ?_
   refine RunC.seq ?_
   refine RunC.block ?_
   obtain ⟨e9, he7, h2_⟩ := obind_some h2_
   obtain ⟨e10, he8, h2_⟩ := obind_some h2_
   obtain ⟨r11, hf9, h2_⟩ := obind_some h2_
   obtain ⟨hn10, h2_⟩ := need_some h2_
   refine RunC.region_draw (Γ' := [⟨0, some [i64 a5]⟩, ⟨0, some [oref 2 0 0 a6.length]⟩, ⟨0, some (L2.map f32)⟩]) 11 mixed 
    (TR.l (r := fn (.func 96) [] [optr 0 0 0, optr 1 0 0]) rfl rfl (LOp.move rfl rfl) <|
    (TR.l (r := ptr [sl a2.length (a2.map i64), sl a3.length (a3.map f32)]) rfl rfl (LOp.fap und30 rfl siz22 rfl rfl rfl) <|
    (TR.l (r := sl a2.length (a2.map i64)) rfl rfl (LOp.load1 agg22 rfl rfl) <|
    (TR.l (r := i64 v4) rfl rfl (LOp.move rfl rfl) <|
    (TR.l (r := ptr [i64 e9]) rfl rfl (LOp.le (LOp.ix (f := i64) und22 siz2 rfl rfl rfl rfl he7) ALe.ptr) <|
    (TR.l (r := i64 e9) rfl rfl (LOp.load1 agg2 rfl rfl) <|
    (TR.l (r := ptr [sl a3.length (a3.map f32)]) rfl rfl (LOp.fap und30 rfl siz23 rfl rfl rfl) <|
    (TR.l (r := sl a3.length (a3.map f32)) rfl rfl (LOp.load1 agg23 rfl rfl) <|
    (TR.l (r := i64 v4) rfl rfl (LOp.move rfl rfl) <|
    (TR.l (r := ptr [f32 e10]) rfl rfl (LOp.le (LOp.ix (f := f32) und23 siz26 rfl rfl rfl rfl he8) ALe.ptr) <|
    (TR.l (r := f32 e10) rfl rfl (LOp.load1 agg26 rfl rfl) <|
    TR.nil))))))))))) rfl (by kernel_rfl) rfl fills_nil rfl ?_
   iterate 11 refine ROps.dropS ?_
   refine ROps.drop0 ?_
   refine ROps.callO (A := [i64 e9, f32 e10, optr 0 0 0, optr 1 0 0]) (args := [i64 e9, f32 e10, optr 0 0 0, optr 1 0 0]) (Γc := [⟨0, some [i64 a5]⟩, ⟨0, some [oref 2 0 0 L2.length]⟩, ⟨0, some (L2.map f32)⟩]) (Γc' := [⟨0, some [i64 a5]⟩, ⟨0, some [oref 2 0 0 L2.length]⟩, ⟨0, some (r11.map f32)⟩]) (r' := tup []) (Γ' := [⟨0, some [i64 a5]⟩, ⟨0, some [oref 2 0 0 a6.length]⟩, ⟨0, some (r11.map f32)⟩]) [(0, 0), (1, 0), (2, 0)] [] rfl (CallAs.fn ent96 rfl rfl rfl rfl) rfl rfl (SelOk.of (show List.Nodup [0, 1, 2] from by decide) (SelL.cells0 rfl (by simp [ren, rens, sigma, rens_f32, rens_f64, rens_i64, rens_ik, rens_str, rens_cp, hl3]) rfl (SelL.cells0 rfl (by simp [ren, rens, sigma, rens_f32, rens_f64, rens_i64, rens_ik, rens_str, rens_cp, hl3]) rfl (SelL.arr0 (f := f32) (fun _ => rfl) rfl trivial)))) (live_of ⟨⟨_, _, rfl⟩, ⟨_, _, rfl⟩, ⟨_, _, rfl⟩, trivial⟩) (by simp [ren, rens, sigma, rens_f32, rens_f64, rens_i64, rens_ik, rens_str, rens_cp, hl3]) rfl (i_SparseRootSolve_2_2p0_3p1_C0_C10o2_ok e9 e10 a5 L2 r11 hf9) rfl (news_of trivial) (show List.Nodup [0, 1, 2] from by decide) (by simp [ren, rens, sigma, of_decide_eq_true hn10]) (by simp [backOb, sigma, ren, rens, rens_f32, rens_f64, rens_i64, rens_ik, rens_str, rens_cp, hl3, of_decide_eq_true hn10]) ?_
   refine zN ?_
   refine RunC.wl (τ' := [(1, i64 a4), (2, fn (.func 96) [] [optr 0 0 0, optr 1 0 0]), (3, ptr [i64 a0, sl a1.length (a1.map i64), sl a2.length (a2.map i64), sl a3.length (a3.map f32)]), (6, i64 v4)]) (Γ' := [⟨0, some [i64 a5]⟩, ⟨0, some [oref 2 0 0 a6.length]⟩, ⟨0, some (r11.map f32)⟩]) ⟨aR, aR, aR, aR, trivial⟩ ⟨⟨rfl, .inr rfl⟩, ⟨rfl, .inr rfl⟩, ⟨rfl, .inr rfl⟩, trivial⟩ ?_
   obtain ⟨x12, hx11, h2_⟩ := olet_some h2_
   refine RunC.regionW ?_
   refine zM (r := i64 v4) rfl rfl rfl rfl rfl ?_
   refine zL (r := i64 x12) rfl rfl rfl (LOp.eqr (LOp.add rfl rfl rfl) (congrArg (ik .i64) hx11)) ?_
   refine zA (r := i64 x12) rfl rfl rfl rfl rfl ?_
   refine zN ?_
   cases Option.some.inj h2_
   exact ⟨_, rfl, (of_decide_eq_true hn10), ⟨aR, aR, aR, aR, trivial⟩, ⟨⟨rfl, .inr rfl⟩, ⟨rfl, .inr rfl⟩, ⟨rfl, .inr rfl⟩, trivial⟩⟩
  ·refine RunC.regionW ?_
   refine zM (r := i64 v4) rfl rfl rfl rfl rfl ?_
   refine zL (r := ptr [sl a1.length (a1.map i64), sl a2.length (a2.map i64), sl a3.length (a3.map f32)]) rfl rfl rfl (LOp.fap und30 rfl siz22 rfl rfl rfl) ?_
   refine zL (r := sl a1.length (a1.map i64)) rfl rfl rfl (LOp.load1 agg22 rfl rfl) ?_
   refine zM (r := i64 a4) rfl rfl rfl rfl rfl ?_
   refine zL (r := i64 x5) rfl rfl rfl (LOp.eqr (LOp.add rfl rfl rfl) (congrArg (ik .i64) hx2)) ?_
   refine zL (r := ptr [i64 e6]) rfl rfl rfl (LOp.le (LOp.ix (f := i64) und22 siz2 rfl rfl rfl rfl he3) ALe.ptr) ?_
   refine zL (r := i64 e6) rfl rfl rfl (LOp.load1 agg2 rfl rfl) ?_
   refine zL (r := b false) rfl rfl rfl (LOp.eqb (LOp.lss rfl rfl rfl) hc4) ?_
   refine zN ?_
   refine RunC.cond_false rfl rfl ?_
   refine RunC.exit ?_
   cases Option.some.inj h2_
   have hx := ho2 _ rfl
   exact ⟨L2, hl3, trivial, ⟨⟨rfl, .inr rfl⟩, ⟨rfl, .inr rfl⟩, ⟨rfl, .inr rfl⟩, trivial⟩, hx⟩
 ·rintro τ3 Γ3 ⟨L13, hl14, hw3, hd3, rfl⟩
  replace h : i_Sparse_each_2Fi_SparseRootSolve_2_2c0p0_2c1p1_C0_C10o2_k1 L13 = some q0 := h
  unfold i_Sparse_each_2Fi_SparseRootSolve_2_2c0p0_2c1p1_C0_C10o2_k1 at h
  refine bodyQ.wl hw3 hd3 ?_
  have hq := Option.some.inj h
  subst q0
  exact bodyQ.mk (r' := tup []) [(0, 0), (1, 0), (2, 0)] (.inl rfl) rfl (show List.Nodup [0, 1, 2] from by decide) rfl rfl (Res.zero rfl) (SelL.cells rfl (by first | rfl | simp [ren, rens, sigma, rens_f32, rens_f64, rens_i64, rens_ik, rens_str, rens_cp]) rfl (SelL.cells rfl (by first | rfl | simp [ren, rens, sigma, rens_f32, rens_f64, rens_i64, rens_ik, rens_str, rens_cp]) rfl (SelL.arr (f := f32) (fun _ => rfl) rfl trivial)))
noncomputable def i_SparseRootSolve_1 (a0 : Int) (a1 : Int) (a2 : List Int) (a3 : List Int) (a4 : List F) : Option (F) :=
 olet (IntKind.i64.wrap (a0 + 1)) fun (x1 : Int) =>
 obind (at? a2 x1) fun (e2 : Int) =>
 olet (IntKind.i64.wrap (e2 - 1)) fun (x3 : Int) =>
 obind (at? a4 x3) fun (e4 : F) =>
 some e4
theorem i_SparseRootSolve_1_ok (a0 : Int) (a1 : Int) (a2 : List Int) (a3 : List Int) (a4 : List F) (q0 : F) (h : i_SparseRootSolve_1 a0 a1 a2 a3 a4 = some q0) : Ev Try.prog 94 [i64 a0, ptr [i64 a1, sl a2.length (a2.map i64), sl a3.length (a3.map i64), sl a4.length (a4.map f32)]] [] (f32 q0) [] := by
 refine Ev.start Try.func94 rfl rfl 0 (τ := [(0, i64 a0), (1, ptr [i64 a1, sl a2.length (a2.map i64), sl a3.length (a3.map i64), sl a4.length (a4.map f32)])]) rfl (Γ' := []) rfl (n := 31) rfl (g := 0) rfl (fun _ => rfl) ?_
 unfold i_SparseRootSolve_1 at h
 refine zQ ?_
 refine zL (r := f32 (some 0)) rfl rfl rfl (LOp.le (LOp.assign rfl rfl) (ALe.fl (by kernel_rfl) (by kernel_rfl))) ?_
 refine zN ?_
 refine RunC.seq ?_
 obtain ⟨x1, hx1, h⟩ := olet_some h
 obtain ⟨e2, he2, h⟩ := obind_some h
 obtain ⟨x3, hx3, h⟩ := olet_some h
 obtain ⟨e4, he4, h⟩ := obind_some h
 refine RunC.region_draw (Γ' := []) 12 mixed 
  (TR.l (r := ptr [sl a4.length (a4.map f32)]) rfl rfl (LOp.fap und30 rfl siz23 rfl rfl rfl) <|
  (TR.l (r := sl a4.length (a4.map f32)) rfl rfl (LOp.load1 agg23 rfl rfl) <|
  (TR.l (r := ptr [sl a2.length (a2.map i64), sl a3.length (a3.map i64), sl a4.length (a4.map f32)]) rfl rfl (LOp.fap und30 rfl siz22 rfl rfl rfl) <|
  (TR.l (r := sl a2.length (a2.map i64)) rfl rfl (LOp.load1 agg22 rfl rfl) <|
  (TR.l (r := i64 a0) rfl rfl (LOp.move rfl rfl) <|
  (TR.l (r := i64 x1) rfl rfl (LOp.eqr (LOp.add rfl rfl rfl) (congrArg (ik .i64) hx1)) <|
  (TR.l (r := ptr [i64 e2]) rfl rfl (LOp.le (LOp.ix (f := i64) und22 siz2 rfl rfl rfl rfl he2) ALe.ptr) <|
  (TR.l (r := i64 e2) rfl rfl (LOp.load1 agg2 rfl rfl) <|
  (TR.l (r := i64 x3) rfl rfl (LOp.eqr (LOp.sub rfl rfl rfl) (congrArg (ik .i64) hx3)) <|
  (TR.l (r := ptr [f32 e4]) rfl rfl (LOp.le (LOp.ix (f := f32) und23 siz26 rfl rfl rfl rfl he4) ALe.ptr) <|
  (TR.l (r := f32 e4) rfl rfl (LOp.load1 agg26 rfl rfl) <|
  (TR.l (r := f32 e4) rfl rfl (LOp.assign rfl rfl) <|
  TR.nil)))))))))))) rfl (by kernel_rfl) rfl fills_nil rfl ?_
 iterate 12 refine ROps.dropS ?_
 refine ROps.drop0 ?_
 refine zN ?_
 refine RunC.ret ?_
 have hq := Option.some.inj h
 subst q0
 exact bodyQ.pure (.inr rfl) rfl (Res.one rfl (RV.tmp rfl))
noncomputable def i_SparseRootSolve_3_2p0_3p1_C0_C10o2 (a0 : Int) (a1 : F) (a2 : Int) (a3 : List F) : Option ((List F)) :=
 bsel (decide (a0 < a2)) (
  obind (at? a3 a0) fun (e1 : F) =>
  obind (at? a3 a2) fun (e2 : F) =>
  obind (i_mul a1 e2) fun (r3 : F) =>
  olet (fop .sub .f32 e1 r3) fun (x4 : F) =>
  obind (setAt? a3 a0 x4) fun (L5 : List F) =>
  some L5) (
  some a3)
theorem i_SparseRootSolve_3_2p0_3p1_C0_C10o2_ok (a0 : Int) (a1 : F) (a2 : Int) (a3 : List F) (q0 : List F) (h : i_SparseRootSolve_3_2p0_3p1_C0_C10o2 a0 a1 a2 a3 = some q0) : Ev Try.prog 97 [i64 a0, f32 a1, optr 0 0 0, optr 1 0 0] [⟨0, some [i64 a2]⟩, ⟨0, some [oref 2 0 0 a3.length]⟩, ⟨0, some (a3.map f32)⟩] (tup []) [⟨0, some [i64 a2]⟩, ⟨0, some [oref 2 0 0 a3.length]⟩, ⟨0, some (q0.map f32)⟩] := by
 refine Ev.start Try.func97 rfl rfl 0 (τ := [(0, i64 a0), (1, f32 a1), (2, optr 0 0 0), (3, optr 1 0 0)]) rfl (Γ' := [⟨0, some [i64 a2]⟩, ⟨0, some [oref 2 0 0 a3.length]⟩, ⟨0, some (a3.map f32)⟩]) rfl (n := 42) rfl (g := 3) rfl (by decide) ?_
 unfold i_SparseRootSolve_3_2p0_3p1_C0_C10o2 at h
 refine RunC.seq ?_
 rcases bsel_some h with ⟨hc1, h⟩ | ⟨hc1, h⟩
 ·refine RunC.regionW ?_
  refine zM (r := i64 a0) rfl rfl rfl rfl rfl ?_
  refine ROps.d (r := i64 a2) (fs := []) (Γ' := [⟨0, some [i64 a2]⟩, ⟨0, some [oref 2 0 0 a3.length]⟩, ⟨0, some (a3.map f32)⟩]) rfl rfl rfl (TOp.load1_o rfl rfl agg2 rfl rfl) rfl ?_
  refine zL (r := b true) rfl rfl rfl (LOp.eqb (LOp.lss rfl rfl rfl) hc1) ?_
  refine zN ?_
  refine RunC.cond_true rfl rfl ?_
  obtain ⟨e1, he2, h⟩ := obind_some h
  obtain ⟨e2, he3, h⟩ := obind_some h
  obtain ⟨r3, hf4, h⟩ := obind_some h
  obtain ⟨x4, hx5, h⟩ := olet_some h
  obtain ⟨L5, he6, h⟩ := obind_some h
  refine RunC.region_draw (Γ' := [⟨0, some [i64 a2]⟩, ⟨0, some [oref 2 0 0 a3.length]⟩, ⟨0, some (a3.map f32)⟩]) 12 mixed 
   (TR.d (r := oref 2 0 0 a3.length) (fs := []) rfl rfl (TOp.load1_o rfl rfl agg23 rfl rfl) <|
   (TR.l (r := i64 a0) rfl rfl (LOp.move rfl rfl) <|
   (TR.d (r := optr 2 0 a0.toNat) (fs := []) rfl rfl (TOp.ixo und23 siz26 rfl rfl rfl (at_in he2 rfl) rfl) <|
   (TR.d (r := f32 e1) (fs := []) rfl rfl (TOp.load1_o rfl (at_cell he2) agg26 rfl rfl) <|
   (TR.l (r := f32 a1) rfl rfl (LOp.move rfl rfl) <|
   (TR.d (r := oref 2 0 0 a3.length) (fs := []) rfl rfl (TOp.load1_o rfl rfl agg23 rfl rfl) <|
   (TR.d (r := i64 a2) (fs := []) rfl rfl (TOp.load1_o rfl rfl agg2 rfl rfl) <|
   (TR.d (r := optr 2 0 a2.toNat) (fs := []) rfl rfl (TOp.ixo und23 siz26 rfl rfl rfl (at_in he3 rfl) rfl) <|
   (TR.d (r := f32 e2) (fs := []) rfl rfl (TOp.load1_o rfl (at_cell he3) agg26 rfl rfl) <|
   (TR.d (r := f32 r3) (fs := []) rfl rfl (TOp.callB (CallAs.func ent92 rfl rfl) (Bors.cons (Bor.pure rfl) (Bors.cons (Bor.pure rfl) Bors.nil)) rfl rfl (i_mul_ok a1 e2 r3 hf4)) <|
   (TR.d (r := f32 x4) (fs := []) rfl rfl (TOp.eqr (TOp.fop (.inr (.inl rfl)) rfl (OpF.tmp rfl) (OpF.tmp rfl)) (congrArg (f .f32) hx5)) <|
   (TR.d (r := optr 2 0 a0.toNat) (fs := []) rfl rfl (TOp.ixo und23 siz26 rfl rfl rfl (set_in he6 rfl) rfl) <|
   TR.nil)))))))))))) rfl (by kernel_rfl) rfl fills_nil rfl ?_
  iterate 12 refine ROps.dropS ?_
  refine ROps.drop0 ?_
  refine ROps.st (f := f32) (i := a0) (Γ' := [⟨0, some [i64 a2]⟩, ⟨0, some [oref 2 0 0 a3.length]⟩, ⟨0, some (L5.map f32)⟩]) rfl siz26 rfl rfl rfl aR rfl rfl rfl he6 rfl ?_
  refine zN ?_
  have hq := Option.some.inj h
  subst q0
  exact bodyQ.mk (r' := tup []) [(0, 0), (1, 0), (2, 0)] (.inl rfl) rfl (show List.Nodup [0, 1, 2] from by decide) rfl rfl (Res.zero rfl) (SelL.cells rfl (by first | rfl | simp [ren, rens, sigma, rens_f32, rens_f64, rens_i64, rens_ik, rens_str, rens_cp]) rfl (SelL.cells rfl (by first | rfl | simp [ren, rens, sigma, rens_f32, rens_f64, rens_i64, rens_ik, rens_str, rens_cp]) rfl (SelL.arr (f := f32) (fun _ => rfl) rfl trivial)))
 ·refine RunC.regionW ?_
  refine zM (r := i64 a0) rfl rfl rfl rfl rfl ?_
  refine ROps.d (r := i64 a2) (fs := []) (Γ' := [⟨0, some [i64 a2]⟩, ⟨0, some [oref 2 0 0 a3.length]⟩, ⟨0, some (a3.map f32)⟩]) rfl rfl rfl (TOp.load1_o rfl rfl agg2 rfl rfl) rfl ?_
  refine zL (r := b false) rfl rfl rfl (LOp.eqb (LOp.lss rfl rfl rfl) hc1) ?_
  refine zN ?_
  refine RunC.cond_false rfl rfl ?_
  refine RunC.skip ?_
  have hq := Option.some.inj h
  subst q0
  exact bodyQ.mk (r' := tup []) [(0, 0), (1, 0), (2, 0)] (.inl rfl) rfl (show List.Nodup [0, 1, 2] from by decide) rfl rfl (Res.zero rfl) (SelL.cells rfl (by first | rfl | simp [ren, rens, sigma, rens_f32, rens_f64, rens_i64, rens_ik, rens_str, rens_cp]) rfl (SelL.cells rfl (by first | rfl | simp [ren, rens, sigma, rens_f32, rens_f64, rens_i64, rens_ik, rens_str, rens_cp]) rfl (SelL.arr (f := f32) (fun _ => rfl) rfl trivial)))
noncomputable def i_Sparse_each_2Fi_SparseRootSolve_3_2c0p0_2c1p1_C0_C10o2_b1 (a1 : List Int) (a2 : List Int) (a3 : List F) (a4 : Int) (a5 : Int) (a6 : List F) (L2 : List F) (v4 : Int) : Option (LR ((List F) × Int) ((List F)) ((List F))) :=
 olet (IntKind.i64.wrap (a4 + 1)) fun (x5 : Int) =>
 obind (at? a1 x5) fun (e6 : Int) =>
 bsel (decide (v4 < e6)) (
  obind (at? a2 v4) fun (e9 : Int) =>
  obind (at? a3 v4) fun (e10 : F) =>
  obind (i_SparseRootSolve_3_2p0_3p1_C0_C10o2 e9 e10 a5 L2) fun (r11 : List F) =>
  need (decide (r11.length = a6.length)) <|
  olet (IntKind.i64.wrap (v4 + 1)) fun (x12 : Int) =>
  some (LR.next (r11, x12))) (
  some (LR.out L2))
noncomputable def i_Sparse_each_2Fi_SparseRootSolve_3_2c0p0_2c1p1_C0_C10o2_s1 (a1 : List Int) (a2 : List Int) (a3 : List F) (a4 : Int) (a5 : Int) (a6 : List F) : ((List F) × Int) → Option (LR ((List F) × Int) ((List F)) ((List F))) := fun s => i_Sparse_each_2Fi_SparseRootSolve_3_2c0p0_2c1p1_C0_C10o2_b1 a1 a2 a3 a4 a5 a6 s.1 s.2
noncomputable def i_Sparse_each_2Fi_SparseRootSolve_3_2c0p0_2c1p1_C0_C10o2_k1 (L13 : List F) : Option ((List F)) :=
 some L13
noncomputable def i_Sparse_each_2Fi_SparseRootSolve_3_2c0p0_2c1p1_C0_C10o2 (a0 : Int) (a1 : List Int) (a2 : List Int) (a3 : List F) (a4 : Int) (a5 : Int) (a6 : List F) : Option ((List F)) :=
 obind (at? a1 a4) fun (e1 : Int) =>
 obind (loopM (i_Sparse_each_2Fi_SparseRootSolve_3_2c0p0_2c1p1_C0_C10o2_s1 a1 a2 a3 a4 a5 a6) (a6, e1)) fun z => osum z (fun e => i_Sparse_each_2Fi_SparseRootSolve_3_2c0p0_2c1p1_C0_C10o2_k1 e) (fun r => some r)
theorem i_Sparse_each_2Fi_SparseRootSolve_3_2c0p0_2c1p1_C0_C10o2_ok (a0 : Int) (a1 : List Int) (a2 : List Int) (a3 : List F) (a4 : Int) (a5 : Int) (a6 : List F) (q0 : List F) (h : i_Sparse_each_2Fi_SparseRootSolve_3_2c0p0_2c1p1_C0_C10o2 a0 a1 a2 a3 a4 a5 a6 = some q0) : Ev Try.prog 95 [agg [i64 a0, sl a1.length (a1.map i64), sl a2.length (a2.map i64), sl a3.length (a3.map f32)], i64 a4, fn (.func 97) [] [optr 0 0 0, optr 1 0 0]] [⟨0, some [i64 a5]⟩, ⟨0, some [oref 2 0 0 a6.length]⟩, ⟨0, some (a6.map f32)⟩] (tup []) [⟨0, some [i64 a5]⟩, ⟨0, some [oref 2 0 0 a6.length]⟩, ⟨0, some (q0.map f32)⟩] := by
 refine Ev.start Try.func95 rfl rfl 0 (τ := [(0, agg [i64 a0, sl a1.length (a1.map i64), sl a2.length (a2.map i64), sl a3.length (a3.map f32)]), (1, i64 a4), (2, fn (.func 97) [] [optr 0 0 0, optr 1 0 0])]) rfl (Γ' := [⟨0, some [i64 a5]⟩, ⟨0, some [oref 2 0 0 a6.length]⟩, ⟨0, some (a6.map f32)⟩]) rfl (n := 68) rfl (g := 3) rfl (by decide) ?_
 unfold i_Sparse_each_2Fi_SparseRootSolve_3_2c0p0_2c1p1_C0_C10o2 at h
 refine zQ ?_
 refine ROps.d (r := ptr [i64 a0, sl a1.length (a1.map i64), sl a2.length (a2.map i64), sl a3.length (a3.map f32)]) (fs := []) (Γ' := [⟨0, some [i64 a5]⟩, ⟨0, some [oref 2 0 0 a6.length]⟩, ⟨0, some (a6.map f32)⟩]) rfl rfl rfl (TOp.box_s rfl rfl rfl) rfl ?_
 refine zN ?_
 refine RunC.seq ?_
 obtain ⟨e1, he1, h⟩ := obind_some h
 refine RunC.regionW ?_
 refine zL (r := ptr [sl a1.length (a1.map i64), sl a2.length (a2.map i64), sl a3.length (a3.map f32)]) rfl rfl rfl (LOp.fap und30 rfl siz22 rfl rfl rfl) ?_
 refine zL (r := sl a1.length (a1.map i64)) rfl rfl rfl (LOp.load1 agg22 rfl rfl) ?_
 refine zM (r := i64 a4) rfl rfl rfl rfl rfl ?_
 refine zL (r := ptr [i64 e1]) rfl rfl rfl (LOp.le (LOp.ix (f := i64) und22 siz2 rfl rfl rfl rfl he1) ALe.ptr) ?_
 refine zL (r := i64 e1) rfl rfl rfl (LOp.load1 agg2 rfl rfl) ?_
 refine zA (r := i64 e1) rfl rfl rfl rfl rfl ?_
 refine zN ?_
 obtain ⟨z2, hz_2, h⟩ := obind_some h
 refine RunC.cutN (fun τ Γ => ∃ (L13 : List F), L13.length = a6.length ∧ WeakLe τ [] ∧ DeadLe Γ [⟨0, some [i64 a5]⟩, ⟨0, some [oref 2 0 0 a6.length]⟩, ⟨0, some (L13.map f32)⟩] ∧ z2 = .inl L13) ?_ ?_
 ·refine RunC.block (RunC.loop (RunL.loopM (x := z2) (i_Sparse_each_2Fi_SparseRootSolve_3_2c0p0_2c1p1_C0_C10o2_s1 a1 a2 a3 a4 a5 a6) (fun (s : (List F) × Int) τ Γ => s.1.length = a6.length ∧ WeakLe τ [(1, i64 a4), (2, fn (.func 97) [] [optr 0 0 0, optr 1 0 0]), (3, ptr [i64 a0, sl a1.length (a1.map i64), sl a2.length (a2.map i64), sl a3.length (a3.map f32)]), (6, i64 s.2)] ∧ DeadLe Γ [⟨0, some [i64 a5]⟩, ⟨0, some [oref 2 0 0 a6.length]⟩, ⟨0, some (s.1.map f32)⟩]) ?_ _ _ _ hz_2 ⟨rfl, ⟨aR, aR, aR, aR, trivial⟩, ⟨⟨rfl, .inr rfl⟩, ⟨rfl, .inr rfl⟩, ⟨rfl, .inr rfl⟩, trivial⟩⟩))
  rintro ⟨L2, v4⟩ τ2 Γ2 y2_ ⟨hl3, hw2, hd2⟩ h2_ ho2 hr2
  refine RunC.wl (τ' := [(1, i64 a4), (2, fn (.func 97) [] [optr 0 0 0, optr 1 0 0]), (3, ptr [i64 a0, sl a1.length (a1.map i64), sl a2.length (a2.map i64), sl a3.length (a3.map f32)]), (6, i64 v4)]) (Γ' := [⟨0, some [i64 a5]⟩, ⟨0, some [oref 2 0 0 a6.length]⟩, ⟨0, some (L2.map f32)⟩]) hw2 hd2 ?_
  replace hl3 : L2.length = a6.length := hl3
  replace h2_ : i_Sparse_each_2Fi_SparseRootSolve_3_2c0p0_2c1p1_C0_C10o2_b1 a1 a2 a3 a4 a5 a6 L2 v4 = some y2_ := h2_
  unfold i_Sparse_each_2Fi_SparseRootSolve_3_2c0p0_2c1p1_C0_C10o2_b1 at h2_
  refine RunC.seq ?_
  refine RunC.seq ?_
  obtain ⟨x5, hx2, h2_⟩ := olet_some h2_
  obtain ⟨e6, he3, h2_⟩ := obind_some h2_
  rcases bsel_some h2_ with ⟨hc4, h2_⟩ | ⟨hc4, h2_⟩
  ·refine RunC.regionW ?_
   refine zM (r := i64 v4) rfl rfl rfl rfl rfl ?_
   refine zL (r := ptr [sl a1.length (a1.map i64), sl a2.length (a2.map i64), sl a3.length (a3.map f32)]) rfl rfl rfl (LOp.fap und30 rfl siz22 rfl rfl rfl) ?_
   refine zL (r := sl a1.length (a1.map i64)) rfl rfl rfl (LOp.load1 agg22 rfl rfl) ?_
   refine zM (r := i64 a4) rfl rfl rfl rfl rfl ?_
   refine zL (r := i64 x5) rfl rfl rfl (LOp.eqr (LOp.add rfl rfl rfl) (congrArg (ik .i64) hx2)) ?_
   refine zL (r := ptr [i64 e6]) rfl rfl rfl (LOp.le (LOp.ix (f := i64) und22 siz2 rfl rfl rfl rfl he3) ALe.ptr) ?_
   refine zL (r := i64 e6) rfl rfl rfl (LOp.load1 agg2 rfl rfl) ?_
   refine zL (r := b true) rfl rfl rfl (LOp.eqb (LOp.lss rfl rfl rfl) hc4) ?_
   refine zN ?_
   refine RunC.cond_true rfl rfl ?_
   refine RunC.skip ?_
   refine RunC.seq ?_
   refine RunC.block ?_
   obtain ⟨e9, he7, h2_⟩ := obind_some h2_
   obtain ⟨e10, he8, h2_⟩ := obind_some h2_
   obtain ⟨r11, hf9, h2_⟩ := obind_some h2_
   obtain ⟨hn10, h2_⟩ := need_some h2_
   refine RunC.region_draw (Γ' := [⟨0, some [i64 a5]⟩, ⟨0, some [oref 2 0 0 a6.length]⟩, ⟨0, some (L2.map f32)⟩]) 11 mixed 
    (TR.l (r := fn (.func 97) [] [optr 0 0 0, optr 1 0 0]) rfl rfl (LOp.move rfl rfl) <|
    (TR.l (r := ptr [sl a2.length (a2.map i64), sl a3.length (a3.map f32)]) rfl rfl (LOp.fap und30 rfl siz22 rfl rfl rfl) <|
    (TR.l (r := sl a2.length (a2.map i64)) rfl rfl (LOp.load1 agg22 rfl rfl) <|
    (TR.l (r := i64 v4) rfl rfl (LOp.move rfl rfl) <|
    (TR.l (r := ptr [i64 e9]) rfl rfl (LOp.le (LOp.ix (f := i64) und22 siz2 rfl rfl rfl rfl he7) ALe.ptr) <|
    (TR.l (r := i64 e9) rfl rfl (LOp.load1 agg2 rfl rfl) <|
    (TR.l (r := ptr [sl a3.length (a3.map f32)]) rfl rfl (LOp.fap und30 rfl siz23 rfl rfl rfl) <|
    (TR.l (r := sl a3.length (a3.map f32)) rfl rfl (LOp.load1 agg23 rfl rfl) <|
    (TR.l (r := i64 v4) rfl rfl (LOp.move rfl rfl) <|
    (TR.l (r := ptr [f32 e10]) rfl rfl (LOp.le (LOp.ix (f := f32) und23 siz26 rfl rfl rfl rfl he8) ALe.ptr) <|
    (TR.l (r := f32 e10) rfl rfl (LOp.load1 agg26 rfl rfl) <|
    TR.nil))))))))))) rfl (by kernel_rfl) rfl fills_nil rfl ?_
   iterate 11 refine ROps.dropS ?_
   refine ROps.drop0 ?_
   refine ROps.callO (A := [i64 e9, f32 e10, optr 0 0 0, optr 1 0 0]) (args := [i64 e9, f32 e10, optr 0 0 0, optr 1 0 0]) (Γc := [⟨0, some [i64 a5]⟩, ⟨0, some [oref 2 0 0 L2.length]⟩, ⟨0, some (L2.map f32)⟩]) (Γc' := [⟨0, some [i64 a5]⟩, ⟨0, some [oref 2 0 0 L2.length]⟩, ⟨0, some (r11.map f32)⟩]) (r' := tup []) (Γ' := [⟨0, some [i64 a5]⟩, ⟨0, some [oref 2 0 0 a6.length]⟩, ⟨0, some (r11.map f32)⟩]) [(0, 0), (1, 0), (2, 0)] [] rfl (CallAs.fn ent97 rfl rfl rfl rfl) rfl rfl (SelOk.of (show List.Nodup [0, 1, 2] from by decide) (SelL.cells0 rfl (by simp [ren, rens, sigma, rens_f32, rens_f64, rens_i64, rens_ik, rens_str, rens_cp, hl3]) rfl (SelL.cells0 rfl (by simp [ren, rens, sigma, rens_f32, rens_f64, rens_i64, rens_ik, rens_str, rens_cp, hl3]) rfl (SelL.arr0 (f := f32) (fun _ => rfl) rfl trivial)))) (live_of ⟨⟨_, _, rfl⟩, ⟨_, _, rfl⟩, ⟨_, _, rfl⟩, trivial⟩) (by simp [ren, rens, sigma, rens_f32, rens_f64, rens_i64, rens_ik, rens_str, rens_cp, hl3]) rfl (i_SparseRootSolve_3_2p0_3p1_C0_C10o2_ok e9 e10 a5 L2 r11 hf9) rfl (news_of trivial) (show List.Nodup [0, 1, 2] from by decide) (by simp [ren, rens, sigma, of_decide_eq_true hn10]) (by simp [backOb, sigma, ren, rens, rens_f32, rens_f64, rens_i64, rens_ik, rens_str, rens_cp, hl3, of_decide_eq_true hn10]) ?_
   refine zN ?_
   refine RunC.wl (τ' := [(1, i64 a4), (2, fn (.func 97) [] [optr 0 0 0, optr 1 0 0]), (3, ptr [i64 a0, sl a1.length (a1.map i64), sl a2.length (a2.map i64), sl a3.length (a3.map f32)]), (6, i64 v4)]) (Γ' := [⟨0, some [i64 a5]⟩, ⟨0, some [oref 2 0 0 a6.length]⟩, ⟨0, some (r11.map f32)⟩]) ⟨aR, aR, aR, aR, trivial⟩ ⟨⟨rfl, .inr rfl⟩, ⟨rfl, .inr rfl⟩, ⟨rfl, .inr rfl⟩, trivial⟩ ?_
   obtain ⟨x12, hx11, h2_⟩ := olet_some h2_
   refine RunC.regionW ?_
   refine zM (r := i64 v4) rfl rfl rfl rfl rfl ?_
   refine zL (r := i64 x12) rfl rfl rfl (LOp.eqr (LOp.add rfl rfl rfl) (congrArg (ik .i64) hx11)) ?_
   refine zA (r := i64 x12) rfl rfl rfl rfl rfl ?_
   refine zN ?_
   cases Option.some.inj h2_
   exact ⟨_, rfl, (of_decide_eq_true hn10), ⟨aR, aR, aR, aR, trivial⟩, ⟨⟨rfl, .inr rfl⟩, ⟨rfl, .inr rfl⟩, ⟨rfl, .inr rfl⟩, trivial⟩⟩
  ·refine RunC.regionW ?_
   refine zM (r := i64 v4) rfl rfl rfl rfl rfl ?_
   refine zL (r := ptr [sl a1.length (a1.map i64), sl a2.length (a2.map i64), sl a3.length (a3.map f32)]) rfl rfl rfl (LOp.fap und30 rfl siz22 rfl rfl rfl) ?_
   refine zL (r := sl a1.length (a1.map i64)) rfl rfl rfl (LOp.load1 agg22 rfl rfl) ?_
   refine zM (r := i64 a4) rfl rfl rfl rfl rfl ?_
   refine zL (r := i64 x5) rfl rfl rfl (LOp.eqr (LOp.add rfl rfl rfl) (congrArg (ik .i64) hx2)) ?_
   refine zL (r := ptr [i64 e6]) rfl rfl rfl (LOp.le (LOp.ix (f := i64) und22 siz2 rfl rfl rfl rfl he3) ALe.ptr) ?_
   refine zL (r := i64 e6) rfl rfl rfl (LOp.load1 agg2 rfl rfl) ?_
   refine zL (r := b false) rfl rfl rfl (LOp.eqb (LOp.lss rfl rfl rfl) hc4) ?_
   refine zN ?_
   refine RunC.cond_false rfl rfl ?_
   refine RunC.exit ?_
   cases Option.some.inj h2_
   have hx := ho2 _ rfl
   exact ⟨L2, hl3, trivial, ⟨⟨rfl, .inr rfl⟩, ⟨rfl, .inr rfl⟩, ⟨rfl, .inr rfl⟩, trivial⟩, hx⟩
 ·rintro τ3 Γ3 ⟨L13, hl14, hw3, hd3, rfl⟩
  replace h : i_Sparse_each_2Fi_SparseRootSolve_3_2c0p0_2c1p1_C0_C10o2_k1 L13 = some q0 := h
  unfold i_Sparse_each_2Fi_SparseRootSolve_3_2c0p0_2c1p1_C0_C10o2_k1 at h
  refine bodyQ.wl hw3 hd3 ?_
  have hq := Option.some.inj h
  subst q0
  exact bodyQ.mk (r' := tup []) [(0, 0), (1, 0), (2, 0)] (.inl rfl) rfl (show List.Nodup [0, 1, 2] from by decide) rfl rfl (Res.zero rfl) (SelL.cells rfl (by first | rfl | simp [ren, rens, sigma, rens_f32, rens_f64, rens_i64, rens_ik, rens_str, rens_cp]) rfl (SelL.cells rfl (by first | rfl | simp [ren, rens, sigma, rens_f32, rens_f64, rens_i64, rens_ik, rens_str, rens_cp]) rfl (SelL.arr (f := f32) (fun _ => rfl) rfl trivial)))
noncomputable def i_allFinite_0o (a0 : List F) : Option ((Bool × (List F)) ⊕ (Bool × (List F) × (List F))) :=
 obind (i_areFinite a0) fun (r1 : Bool) =>
 bsel r1 (
  some (Sum.inl (true, a0))) (
  some (Sum.inr (false, a0, ([] : List F))))
theorem i_allFinite_0o_ok0 (a0 : List F) (q0 : Bool) (q1 : List F) (h : i_allFinite_0o a0 = some (Sum.inl (q0, q1))) : Ev Try.prog 56 [oref 0 0 0 a0.length] [⟨0, some (a0.map f32)⟩] (tup [oref 0 0 0 q1.length, b q0]) [⟨0, some (q1.map f32)⟩] := by
 refine Ev.start Try.func56 rfl rfl 1 (τ := [(0, oref 0 0 0 a0.length)]) rfl (Γ' := [⟨0, some (a0.map f32)⟩, ⟨0, none⟩]) rfl (n := 16) rfl (g := 1) rfl (by decide) ?_
 unfold i_allFinite_0o at h
 refine zQ ?_
 refine zA (r := nilsl) rfl rfl rfl rfl rfl ?_
 refine zA (r := b false) rfl rfl rfl rfl rfl ?_
 refine zN ?_
 refine RunC.seq ?_
 refine RunC.seq ?_
 obtain ⟨r1, hf1, h⟩ := obind_some h
 rcases bsel_some h with ⟨hc2, h⟩ | ⟨hc2, h⟩
 ·refine RunC.regionW ?_
  refine zM (r := oref 0 0 0 a0.length) rfl rfl rfl rfl rfl ?_
  refine ROps.d (r := b true) (fs := []) (Γ' := [⟨0, some (a0.map f32)⟩, ⟨0, none⟩]) rfl rfl rfl (TOp.eqb (TOp.callB (CallAs.func ent90 rfl rfl) (Bors.cons (Bor.own (f := f32) (fun _ => rfl) rfl rfl) Bors.nil) rfl rfl (i_areFinite_ok a0 r1 hf1)) hc2) rfl ?_
  refine zL (r := b false) rfl rfl rfl (LOp.eqb (LOp.not rfl rfl) rfl) ?_
  refine zN ?_
  refine RunC.cond_false rfl rfl ?_
  refine RunC.skip ?_
  refine zQ ?_
  refine zM (r := oref 0 0 0 a0.length) rfl rfl rfl rfl rfl ?_
  refine zA (r := oref 0 0 0 a0.length) rfl rfl rfl rfl rfl ?_
  refine zA (r := b true) rfl rfl rfl rfl rfl ?_
  refine zN ?_
  refine RunC.ret ?_
  have hq := Option.some.inj h
  have hq := Sum.inl.inj hq
  obtain ⟨hq0, hq⟩ := Prod.mk.inj hq
  subst q0
  subst q1
  exact bodyQ.mk (r' := tup [oref 0 0 0 a0.length, b true]) [(0, 0)] (.inr rfl) rfl (show List.Nodup [0] from by decide) rfl rfl (Res.two rfl (RV.tmp rfl) (RV.tmp rfl)) (SelL.arr (f := f32) (fun _ => rfl) rfl trivial)
 ·refine RunC.regionW ?_
  refine zM (r := oref 0 0 0 a0.length) rfl rfl rfl rfl rfl ?_
  refine ROps.d (r := b false) (fs := []) (Γ' := [⟨0, some (a0.map f32)⟩, ⟨0, none⟩]) rfl rfl rfl (TOp.eqb (TOp.callB (CallAs.func ent90 rfl rfl) (Bors.cons (Bor.own (f := f32) (fun _ => rfl) rfl rfl) Bors.nil) rfl rfl (i_areFinite_ok a0 r1 hf1)) hc2) rfl ?_
  refine zL (r := b true) rfl rfl rfl (LOp.eqb (LOp.not rfl rfl) rfl) ?_
  refine zN ?_
  refine RunC.cond_true rfl rfl ?_
  refine zQ ?_
  refine zA (r := nilsl) rfl rfl rfl rfl rfl ?_
  refine zA (r := b false) rfl rfl rfl rfl rfl ?_
  refine zN ?_
  cases Option.some.inj h
theorem i_allFinite_0o_ok1 (a0 : List F) (q0 : Bool) (q1 : List F) (q2 : List F) (h : i_allFinite_0o a0 = some (Sum.inr (q0, q1, q2))) : Ev Try.prog 56 [oref 0 0 0 a0.length] [⟨0, some (a0.map f32)⟩] (tup [oref 1 0 0 q2.length, b q0]) [⟨0, some (q1.map f32)⟩, ⟨0, some (q2.map f32)⟩] := by
 refine Ev.start Try.func56 rfl rfl 1 (τ := [(0, oref 0 0 0 a0.length)]) rfl (Γ' := [⟨0, some (a0.map f32)⟩, ⟨0, none⟩]) rfl (n := 16) rfl (g := 1) rfl (by decide) ?_
 unfold i_allFinite_0o at h
 refine zQ ?_
 refine zA (r := nilsl) rfl rfl rfl rfl rfl ?_
 refine zA (r := b false) rfl rfl rfl rfl rfl ?_
 refine zN ?_
 refine RunC.seq ?_
 refine RunC.seq ?_
 obtain ⟨r1, hf1, h⟩ := obind_some h
 rcases bsel_some h with ⟨hc2, h⟩ | ⟨hc2, h⟩
 ·refine RunC.regionW ?_
  refine zM (r := oref 0 0 0 a0.length) rfl rfl rfl rfl rfl ?_
  refine ROps.d (r := b true) (fs := []) (Γ' := [⟨0, some (a0.map f32)⟩, ⟨0, none⟩]) rfl rfl rfl (TOp.eqb (TOp.callB (CallAs.func ent90 rfl rfl) (Bors.cons (Bor.own (f := f32) (fun _ => rfl) rfl rfl) Bors.nil) rfl rfl (i_areFinite_ok a0 r1 hf1)) hc2) rfl ?_
  refine zL (r := b false) rfl rfl rfl (LOp.eqb (LOp.not rfl rfl) rfl) ?_
  refine zN ?_
  refine RunC.cond_false rfl rfl ?_
  refine RunC.skip ?_
  refine zQ ?_
  refine zM (r := oref 0 0 0 a0.length) rfl rfl rfl rfl rfl ?_
  refine zA (r := oref 0 0 0 a0.length) rfl rfl rfl rfl rfl ?_
  refine zA (r := b true) rfl rfl rfl rfl rfl ?_
  refine zN ?_
  cases Option.some.inj h
 ·refine RunC.regionW ?_
  refine zM (r := oref 0 0 0 a0.length) rfl rfl rfl rfl rfl ?_
  refine ROps.d (r := b false) (fs := []) (Γ' := [⟨0, some (a0.map f32)⟩, ⟨0, none⟩]) rfl rfl rfl (TOp.eqb (TOp.callB (CallAs.func ent90 rfl rfl) (Bors.cons (Bor.own (f := f32) (fun _ => rfl) rfl rfl) Bors.nil) rfl rfl (i_areFinite_ok a0 r1 hf1)) hc2) rfl ?_
  refine zL (r := b true) rfl rfl rfl (LOp.eqb (LOp.not rfl rfl) rfl) ?_
  refine zN ?_
  refine RunC.cond_true rfl rfl ?_
  refine zQ ?_
  refine zA (r := nilsl) rfl rfl rfl rfl rfl ?_
  refine zA (r := b false) rfl rfl rfl rfl rfl ?_
  refine zN ?_
  refine RunC.nil_slot (Γ' := [⟨0, some (a0.map f32)⟩, ⟨1, some (([] : List F).map f32)⟩]) 2 1 rfl rfl rfl ?_
  refine RunC.ret ?_
  have hq := Option.some.inj h
  have hq := Sum.inr.inj hq
  obtain ⟨hq0, hq⟩ := Prod.mk.inj hq
  obtain ⟨hq1, hq⟩ := Prod.mk.inj hq
  subst q0
  subst q1
  subst q2
  exact bodyQ.mk (r' := tup [oref 1 1 0 (([] : List F).length), b false]) [(0, 0), (1, 1)] (.inr rfl) rfl (show List.Nodup [0, 1] from by decide) rfl rfl (Res.eq (Res.two rfl (RV.tmp rfl) (RV.tmp rfl)) (by rw [(show ([] : List F).length = 0 from rfl)] <;> rfl)) (SelL.arr (f := f32) (fun _ => rfl) rfl (SelL.arr0 (f := f32) (fun _ => rfl) rfl trivial))
noncomputable def i_SparseRootSolve_b1 (a0 : Int) (a1 : List Int) (a2 : List Int) (a3 : List F) (r3 : List F) (L5 : List F) (v7 : Int) : Option (LR ((List F) × Int) ((List F)) (Bool × (List F))) :=
 bsel (decide (v7 < a0)) (
  obind (i_Sparse_each_2Fi_SparseRootSolve_2_2c0p0_2c1p1_C0_C10o2 a0 a1 a2 a3 v7 v7 L5) fun (r8 : List F) =>
  need (decide (r8.length = r3.length)) <|
  obind (at? r8 v7) fun (e9 : F) =>
  obind (i_SparseRootSolve_1 v7 a0 a1 a2 a3) fun (r10 : F) =>
  olet (fop .quo .f32 e9 r10) fun (x11 : F) =>
  obind (setAt? r8 v7 x11) fun (L12 : List F) =>
  olet (IntKind.i64.wrap (v7 + 1)) fun (x13 : Int) =>
  some (LR.next (L12, x13))) (
  some (LR.out L5))
noncomputable def i_SparseRootSolve_s1 (a0 : Int) (a1 : List Int) (a2 : List Int) (a3 : List F) (r3 : List F) : ((List F) × Int) → Option (LR ((List F) × Int) ((List F)) (Bool × (List F))) := fun s => i_SparseRootSolve_b1 a0 a1 a2 a3 r3 s.1 s.2
noncomputable def i_SparseRootSolve_b2 (a0 : Int) (a1 : List Int) (a2 : List Int) (a3 : List F) (r3 : List F) (L19 : List F) (v21 : Int) : Option (LR ((List F) × Int) ((List F)) (Bool × (List F))) :=
 bsel (decide (0 ≤ v21)) (
  obind (at? L19 v21) fun (e22 : F) =>
  obind (i_SparseRootSolve_1 v21 a0 a1 a2 a3) fun (r23 : F) =>
  olet (fop .quo .f32 e22 r23) fun (x24 : F) =>
  obind (setAt? L19 v21 x24) fun (L25 : List F) =>
  obind (i_Sparse_each_2Fi_SparseRootSolve_3_2c0p0_2c1p1_C0_C10o2 a0 a1 a2 a3 v21 v21 L25) fun (r26 : List F) =>
  need (decide (r26.length = r3.length)) <|
  olet (IntKind.i64.wrap (v21 - 1)) fun (x27 : Int) =>
  some (LR.next (r26, x27))) (
  some (LR.out L19))
noncomputable def i_SparseRootSolve_s2 (a0 : Int) (a1 : List Int) (a2 : List Int) (a3 : List F) (r3 : List F) : ((List F) × Int) → Option (LR ((List F) × Int) ((List F)) (Bool × (List F))) := fun s => i_SparseRootSolve_b2 a0 a1 a2 a3 r3 s.1 s.2
noncomputable def i_SparseRootSolve_k2 (r3 : List F) (L29 : List F) : Option (Bool × (List F)) :=
 obind (i_allFinite_0o L29) (fun z => osum z (fun y => obind2 (some y) fun (r31 : Bool) (r32 : List F) =>
  need (decide (r32.length = r3.length)) <|
  some (r31, r32)) (fun y => obind3 (some y) fun (r33 : Bool) (r34 : List F) (r35 : List F) =>
  need (decide (r34.length = r3.length)) <|
  some (r33, r35)))
noncomputable def i_SparseRootSolve_k1 (a0 : Int) (a1 : List Int) (a2 : List Int) (a3 : List F) (r3 : List F) (L15 : List F) : Option (Bool × (List F)) :=
 olet (IntKind.i64.wrap (a0 - 1)) fun (x17 : Int) =>
 obind (loopM (i_SparseRootSolve_s2 a0 a1 a2 a3 r3) (L15, x17)) fun z => osum z (fun e => i_SparseRootSolve_k2 r3 e) (fun r => some r)
noncomputable def i_SparseRootSolve (a0 : Int) (a1 : List Int) (a2 : List Int) (a3 : List F) (a4 : List F) : Option (Bool × (List F)) :=
 obind (i_isLowerRoot a0 a1 a2 a3) fun (r1 : Bool) =>
 bsel r1 (
  obind (i_Sparse_takes a0 a1 a2 a3 a4) fun (r2 : Bool) =>
  bsel r2 (
   obind (x_slices_Clone_float32_float32 a4) fun (r3 : List F) =>
   obind (loopM (i_SparseRootSolve_s1 a0 a1 a2 a3 r3) (r3, 0)) fun z => osum z (fun e => i_SparseRootSolve_k1 a0 a1 a2 a3 r3 e) (fun r => some r)) (
   some (false, ([] : List F)))) (
  some (false, ([] : List F)))
theorem i_SparseRootSolve_ok (a0 : Int) (a1 : List Int) (a2 : List Int) (a3 : List F) (a4 : List F) (q0 : Bool) (q1 : List F) (h : i_SparseRootSolve a0 a1 a2 a3 a4 = some (q0, q1)) : Ev Try.prog 43 [agg [i64 a0, sl a1.length (a1.map i64), sl a2.length (a2.map i64), sl a3.length (a3.map f32)], sl a4.length (a4.map f32)] [] (tup [oref 0 0 0 q1.length, b q0]) [⟨0, some (q1.map f32)⟩] := by
 refine Ev.start Try.func43 rfl rfl 3 (τ := [(0, agg [i64 a0, sl a1.length (a1.map i64), sl a2.length (a2.map i64), sl a3.length (a3.map f32)]), (1, sl a4.length (a4.map f32))]) rfl (Γ' := [⟨0, none⟩, ⟨0, none⟩, ⟨0, none⟩]) rfl (n := 133) rfl (g := 0) rfl (fun _ => rfl) ?_
 unfold i_SparseRootSolve at h
 refine zQ ?_
 refine ROps.d (r := ptr [i64 a0, sl a1.length (a1.map i64), sl a2.length (a2.map i64), sl a3.length (a3.map f32)]) (fs := []) (Γ' := [⟨0, none⟩, ⟨0, none⟩, ⟨0, none⟩]) rfl rfl rfl (TOp.box_s rfl rfl rfl) rfl ?_
 refine zA (r := nilsl) rfl rfl rfl rfl rfl ?_
 refine zA (r := b false) rfl rfl rfl rfl rfl ?_
 refine zN ?_
 refine RunC.seq ?_
 refine RunC.seq ?_
 obtain ⟨r1, hf1, h⟩ := obind_some h
 rcases bsel_some h with ⟨hc2, h⟩ | ⟨hc2, h⟩
 ·obtain ⟨r2, hf3, h⟩ := obind_some h
  rcases bsel_some h with ⟨hc4, h⟩ | ⟨hc4, h⟩
  ·refine RunC.regionW ?_
   refine zL (r := agg [i64 a0, sl a1.length (a1.map i64), sl a2.length (a2.map i64), sl a3.length (a3.map f32)]) rfl rfl rfl (LOp.loadAgg agg30 siz30 rfl rfl rfl rfl) ?_
   refine ROps.d (r := b true) (fs := []) (Γ' := [⟨0, none⟩, ⟨0, none⟩, ⟨0, none⟩]) rfl rfl rfl (TOp.eqb (TOp.callB (CallAs.func ent93 rfl rfl) (Bors.cons (Bor.agg (Bors.cons (Bor.pure rfl) (Bors.cons (Bor.sl (fun _ => rfl)) (Bors.cons (Bor.sl (fun _ => rfl)) (Bors.cons (Bor.sl (fun _ => rfl)) Bors.nil))))) Bors.nil) rfl rfl (i_isLowerRoot_ok a0 a1 a2 a3 r1 hf1)) hc2) rfl ?_
   refine zL (r := b false) rfl rfl rfl (LOp.eqb (LOp.not rfl rfl) rfl) ?_
   refine zM (r := b false) rfl rfl rfl rfl rfl ?_
   refine zL (r := agg [i64 a0, sl a1.length (a1.map i64), sl a2.length (a2.map i64), sl a3.length (a3.map f32)]) rfl rfl rfl (LOp.loadAgg agg30 siz30 rfl rfl rfl rfl) ?_
   refine zM (r := sl a4.length (a4.map f32)) rfl rfl rfl rfl rfl ?_
   refine ROps.d (r := b true) (fs := []) (Γ' := [⟨0, none⟩, ⟨0, none⟩, ⟨0, none⟩]) rfl rfl rfl (TOp.eqb (TOp.callB (CallAs.func ent84 rfl rfl) (Bors.cons (Bor.agg (Bors.cons (Bor.pure rfl) (Bors.cons (Bor.sl (fun _ => rfl)) (Bors.cons (Bor.sl (fun _ => rfl)) (Bors.cons (Bor.sl (fun _ => rfl)) Bors.nil))))) (Bors.cons (Bor.sl (fun _ => rfl)) Bors.nil)) rfl rfl (i_Sparse_takes_ok a0 a1 a2 a3 a4 r2 hf3)) hc4) rfl ?_
   refine zL (r := b false) rfl rfl rfl (LOp.eqb (LOp.not rfl rfl) rfl) ?_
   refine zL (r := b false) rfl rfl rfl (LOp.pick_false rfl rfl rfl) ?_
   refine zN ?_
   refine RunC.cond_false rfl rfl ?_
   refine RunC.skip ?_
   refine RunC.seq ?_
   obtain ⟨r3, hf5, h⟩ := obind_some h
   refine RunC.regionW ?_
   refine zM (r := sl a4.length (a4.map f32)) rfl rfl rfl rfl rfl ?_
   refine ROps.d (r := oref 0 1 0 r3.length) (fs := [(0, (r3.map f32))]) (Γ' := [⟨1, some (r3.map f32)⟩, ⟨0, none⟩, ⟨0, none⟩]) rfl rfl rfl (TOp.callBN (ls := [(r3.map f32)]) [0] (CallAs.func ent37 rfl rfl) (Bors.cons (Bor.sl (fun _ => rfl)) Bors.nil) rfl (x_slices_Clone_float32_float32_ok a4 r3 hf5) (and_all (lts0_map (f := f32) (fun _ => rfl) _) rfl) (and_all (noss_map (f := f32) (fun _ => rfl) _) rfl) rfl (by decide) (ns_of ⟨⟨_, rfl⟩, trivial⟩)) rfl ?_
   refine zL (r := fn (.func 94) [] [ptr [i64 a0, sl a1.length (a1.map i64), sl a2.length (a2.map i64), sl a3.length (a3.map f32)]]) rfl rfl rfl (LOp.makeFunc rfl rfl) ?_
   refine ROps.d (r := optr 1 1 0) (fs := [(1, [nilsl])]) (Γ' := [⟨1, some (r3.map f32)⟩, ⟨1, some [nilsl]⟩, ⟨0, none⟩]) rfl rfl rfl (TOp.alloc_o (g := ⟨0, none⟩) 1 rfl zer23 zok23 rfl) rfl ?_
   refine ROps.store_le (r := oref 0 1 0 r3.length) (l' := [oref 0 1 0 r3.length]) (Γ' := [⟨1, some (r3.map f32)⟩, ⟨1, some [oref 0 1 0 r3.length]⟩, ⟨0, none⟩]) rfl siz23 rfl rfl rfl aR rfl rfl rfl rfl (Nat.le_of_ble_eq_true rfl) rfl rfl ?_
   refine zA (r := fn (.func 94) [] [ptr [i64 a0, sl a1.length (a1.map i64), sl a2.length (a2.map i64), sl a3.length (a3.map f32)]]) rfl rfl rfl rfl rfl ?_
   refine zN ?_
   refine RunC.wl (τ' := [(2, ptr [i64 a0, sl a1.length (a1.map i64), sl a2.length (a2.map i64), sl a3.length (a3.map f32)]), (6, optr 1 1 0), (7, fn (.func 94) [] [ptr [i64 a0, sl a1.length (a1.map i64), sl a2.length (a2.map i64), sl a3.length (a3.map f32)]])]) (Γ' := [⟨1, some (r3.map f32)⟩, ⟨1, some [oref 0 1 0 r3.length]⟩, ⟨0, none⟩]) ⟨aR, aR, aR, trivial⟩ ⟨⟨rfl, .inr rfl⟩, ⟨rfl, .inr rfl⟩, ⟨rfl, .inr rfl⟩, trivial⟩ ?_
   refine RunC.seq ?_
   refine zQ ?_
   refine zL (r := ptr [i64 a0, sl a1.length (a1.map i64), sl a2.length (a2.map i64), sl a3.length (a3.map f32)]) rfl rfl rfl (LOp.fap und30 rfl siz2 rfl rfl rfl) ?_
   refine zL (r := i64 a0) rfl rfl rfl (LOp.load1 agg2 rfl rfl) ?_
   refine zM (r := i64 0) rfl rfl rfl rfl rfl ?_
   refine zN ?_
   obtain ⟨z3, hz_3, h⟩ := obind_some h
   refine RunC.cutN (fun τ Γ => ∃ (L15 : List F) (u14 : Nat), L15.length = r3.length ∧ WeakLe τ [(2, ptr [i64 a0, sl a1.length (a1.map i64), sl a2.length (a2.map i64), sl a3.length (a3.map f32)]), (6, optr 1 1 0), (7, fn (.func 94) [] [ptr [i64 a0, sl a1.length (a1.map i64), sl a2.length (a2.map i64), sl a3.length (a3.map f32)]])] ∧ DeadLe Γ [⟨1, some (L15.map f32)⟩, ⟨1, some [oref 0 1 0 r3.length]⟩, ⟨u14, none⟩] ∧ z3 = .inl L15) ?_ ?_
   ·refine RunC.block (RunC.loop (RunL.loopM (x := z3) (i_SparseRootSolve_s1 a0 a1 a2 a3 r3) (fun (s : (List F) × Int) τ Γ => ∃ (u4 : Nat), s.1.length = r3.length ∧ WeakLe τ [(2, ptr [i64 a0, sl a1.length (a1.map i64), sl a2.length (a2.map i64), sl a3.length (a3.map f32)]), (6, optr 1 1 0), (7, fn (.func 94) [] [ptr [i64 a0, sl a1.length (a1.map i64), sl a2.length (a2.map i64), sl a3.length (a3.map f32)]]), (23, i64 a0), (24, i64 s.2)] ∧ DeadLe Γ [⟨1, some (s.1.map f32)⟩, ⟨1, some [oref 0 1 0 r3.length]⟩, ⟨u4, none⟩]) ?_ _ _ _ hz_3 ⟨0, rfl, ⟨aR, aR, aR, aR, aR, trivial⟩, ⟨⟨rfl, .inr rfl⟩, ⟨rfl, .inr rfl⟩, ⟨rfl, .inl rfl⟩, trivial⟩⟩))
    rintro ⟨L5, v7⟩ τ3 Γ3 y3_ ⟨u4, hl6, hw3, hd3⟩ h3_ ho3 hr3
    refine RunC.wl (τ' := [(2, ptr [i64 a0, sl a1.length (a1.map i64), sl a2.length (a2.map i64), sl a3.length (a3.map f32)]), (6, optr 1 1 0), (7, fn (.func 94) [] [ptr [i64 a0, sl a1.length (a1.map i64), sl a2.length (a2.map i64), sl a3.length (a3.map f32)]]), (23, i64 a0), (24, i64 v7)]) (Γ' := [⟨1, some (L5.map f32)⟩, ⟨1, some [oref 0 1 0 r3.length]⟩, ⟨u4, none⟩]) hw3 hd3 ?_
    replace hl6 : L5.length = r3.length := hl6
    replace h3_ : i_SparseRootSolve_b1 a0 a1 a2 a3 r3 L5 v7 = some y3_ := h3_
    unfold i_SparseRootSolve_b1 at h3_
    refine RunC.seq ?_
    rcases bsel_some h3_ with ⟨hc6, h3_⟩ | ⟨hc6, h3_⟩
    ·refine RunC.regionW ?_
     refine zL (r := b true) rfl rfl rfl (LOp.eqb (LOp.lss rfl rfl rfl) hc6) ?_
     refine zN ?_
     refine RunC.seq ?_
     refine RunC.cond_true rfl rfl ?_
     refine RunC.skip ?_
     refine RunC.seq ?_
     refine RunC.block ?_
     refine zQ ?_
     refine zM (r := i64 v7) rfl rfl rfl rfl rfl ?_
     refine ROps.d (r := optr 2 (u4 + 1) 0) (fs := [(2, [i64 0])]) (Γ' := [⟨1, some (L5.map f32)⟩, ⟨1, some [oref 0 1 0 r3.length]⟩, ⟨(u4 + 1), some [i64 0]⟩]) rfl rfl rfl (TOp.alloc_o (g := ⟨u4, none⟩) 2 rfl zer2 zok2 rfl) rfl ?_
     refine ROps.store_le (r := i64 v7) (l' := [i64 v7]) (Γ' := [⟨1, some (L5.map f32)⟩, ⟨1, some [oref 0 1 0 r3.length]⟩, ⟨(u4 + 1), some [i64 v7]⟩]) rfl siz2 rfl rfl rfl aR rfl rfl rfl rfl (Nat.le_of_ble_eq_true rfl) rfl rfl ?_
     refine zN ?_
     refine RunC.seq ?_
     obtain ⟨r8, hf7, h3_⟩ := obind_some h3_
     obtain ⟨hn8, h3_⟩ := need_some h3_
     refine RunC.regionW ?_
     refine zL (r := agg [i64 a0, sl a1.length (a1.map i64), sl a2.length (a2.map i64), sl a3.length (a3.map f32)]) rfl rfl rfl (LOp.loadAgg agg30 siz30 rfl rfl rfl rfl) ?_
     refine ROps.d (r := i64 v7) (fs := []) (Γ' := [⟨1, some (L5.map f32)⟩, ⟨1, some [oref 0 1 0 r3.length]⟩, ⟨(u4 + 1), some [i64 v7]⟩]) rfl rfl rfl (TOp.load1_o rfl rfl agg2 rfl rfl) rfl ?_
     refine zL (r := fn (.func 96) [] [optr 2 (u4 + 1) 0, optr 1 1 0]) rfl rfl rfl (LOp.makeFunc rfl rfl) ?_
     refine ROps.callO (A := [agg [i64 a0, sl a1.length (a1.map i64), sl a2.length (a2.map i64), sl a3.length (a3.map f32)], i64 v7, fn (.func 96) [] [optr 2 (u4 + 1) 0, optr 1 1 0]]) (args := [agg [i64 a0, sl a1.length (a1.map i64), sl a2.length (a2.map i64), sl a3.length (a3.map f32)], i64 v7, fn (.func 96) [] [optr 0 0 0, optr 1 0 0]]) (Γc := [⟨0, some [i64 v7]⟩, ⟨0, some [oref 2 0 0 L5.length]⟩, ⟨0, some (L5.map f32)⟩]) (Γc' := [⟨0, some [i64 v7]⟩, ⟨0, some [oref 2 0 0 L5.length]⟩, ⟨0, some (r8.map f32)⟩]) (r' := tup []) (Γ' := [⟨1, some (r8.map f32)⟩, ⟨1, some [oref 0 1 0 r3.length]⟩, ⟨(u4 + 1), some [i64 v7]⟩]) [(2, (u4 + 1)), (1, 1), (0, 1)] [] rfl (CallAs.func ent95 rfl rfl) rfl rfl (SelOk.of (show List.Nodup [2, 1, 0] from by decide) (SelL.cells0 rfl (by simp [ren, rens, sigma, rens_f32, rens_f64, rens_i64, rens_ik, rens_str, rens_cp, hl6]) rfl (SelL.cells0 rfl (by simp [ren, rens, sigma, rens_f32, rens_f64, rens_i64, rens_ik, rens_str, rens_cp, hl6]) rfl (SelL.arr0 (f := f32) (fun _ => rfl) rfl trivial)))) (live_of ⟨⟨_, _, rfl⟩, ⟨_, _, rfl⟩, ⟨_, _, rfl⟩, trivial⟩) (by simp [ren, rens, sigma, rens_f32, rens_f64, rens_i64, rens_ik, rens_str, rens_cp, hl6]) (lts_cons (lt_agg (lts_cons rfl (lts_cons (lt_slk (fun _ => rfl)) (lts_cons (lt_slk (fun _ => rfl)) (lts_cons (lt_slk (fun _ => rfl)) lts_nil))))) (lts_cons rfl (lts_cons rfl lts_nil))) (i_Sparse_each_2Fi_SparseRootSolve_2_2c0p0_2c1p1_C0_C10o2_ok a0 a1 a2 a3 v7 v7 L5 r8 hf7) rfl (news_of trivial) (show List.Nodup [2, 1, 0] from by decide) (by simp [ren, rens, sigma, of_decide_eq_true hn8]) (by simp [backOb, sigma, ren, rens, rens_f32, rens_f64, rens_i64, rens_ik, rens_str, rens_cp, hl6, of_decide_eq_true hn8]) ?_
     refine zN ?_
     obtain ⟨e9, he9, h3_⟩ := obind_some h3_
     obtain ⟨r10, hf10, h3_⟩ := obind_some h3_
     obtain ⟨x11, hx11, h3_⟩ := olet_some h3_
     obtain ⟨L12, he12, h3_⟩ := obind_some h3_
     refine RunC.region_draw (Γ' := [⟨1, some (r8.map f32)⟩, ⟨1, some [oref 0 1 0 r3.length]⟩, ⟨(u4 + 1), some [i64 v7]⟩]) 9 mixed 
      (TR.d (r := oref 0 1 0 r3.length) (fs := []) rfl rfl (TOp.load1_o rfl rfl agg23 rfl rfl) <|
      (TR.d (r := i64 v7) (fs := []) rfl rfl (TOp.load1_o rfl rfl agg2 rfl rfl) <|
      (TR.d (r := optr 0 1 v7.toNat) (fs := []) rfl rfl (TOp.ixo und23 siz26 rfl rfl rfl (at_in he9 (of_decide_eq_true hn8)) rfl) <|
      (TR.d (r := f32 e9) (fs := []) rfl rfl (TOp.load1_o rfl (at_cell he9) agg26 rfl rfl) <|
      (TR.l (r := fn (.func 94) [] [ptr [i64 a0, sl a1.length (a1.map i64), sl a2.length (a2.map i64), sl a3.length (a3.map f32)]]) rfl rfl (LOp.move rfl rfl) <|
      (TR.d (r := i64 v7) (fs := []) rfl rfl (TOp.load1_o rfl rfl agg2 rfl rfl) <|
      (TR.d (r := f32 r10) (fs := []) rfl rfl (TOp.callB (CallAs.fn ent94 rfl rfl rfl rfl) (Bors.cons (Bor.pure rfl) (Bors.cons (Bor.ptr (Bors.cons (Bor.pure rfl) (Bors.cons (Bor.sl (fun _ => rfl)) (Bors.cons (Bor.sl (fun _ => rfl)) (Bors.cons (Bor.sl (fun _ => rfl)) Bors.nil))))) Bors.nil)) rfl rfl (i_SparseRootSolve_1_ok v7 a0 a1 a2 a3 r10 hf10)) <|
      (TR.d (r := f32 x11) (fs := []) rfl rfl (TOp.eqr (TOp.fop (.inr (.inr (.inr rfl))) rfl (OpF.tmp rfl) (OpF.tmp rfl)) (congrArg (f .f32) hx11)) <|
      (TR.d (r := optr 0 1 v7.toNat) (fs := []) rfl rfl (TOp.ixo und23 siz26 rfl rfl rfl (set_in he12 (of_decide_eq_true hn8)) rfl) <|
      TR.nil))))))))) rfl (by kernel_rfl) rfl fills_nil rfl ?_
     iterate 9 refine ROps.dropS ?_
     refine ROps.drop0 ?_
     refine ROps.st (f := f32) (i := v7) (Γ' := [⟨1, some (L12.map f32)⟩, ⟨1, some [oref 0 1 0 r3.length]⟩, ⟨(u4 + 1), some [i64 v7]⟩]) rfl siz26 rfl rfl rfl aR rfl rfl rfl he12 rfl ?_
     refine zN ?_
     refine RunC.wl (τ' := [(2, ptr [i64 a0, sl a1.length (a1.map i64), sl a2.length (a2.map i64), sl a3.length (a3.map f32)]), (6, optr 1 1 0), (7, fn (.func 94) [] [ptr [i64 a0, sl a1.length (a1.map i64), sl a2.length (a2.map i64), sl a3.length (a3.map f32)]]), (23, i64 a0), (24, i64 v7)]) (Γ' := [⟨1, some (L12.map f32)⟩, ⟨1, some [oref 0 1 0 r3.length]⟩, ⟨(u4 + 1), none⟩]) ⟨aR, aR, aR, aR, aR, trivial⟩ ⟨⟨rfl, .inr rfl⟩, ⟨rfl, .inr rfl⟩, ⟨rfl, .inl rfl⟩, trivial⟩ ?_
     obtain ⟨x13, hx13, h3_⟩ := olet_some h3_
     refine RunC.regionW ?_
     refine zL (r := i64 x13) rfl rfl rfl (LOp.eqr (LOp.add rfl rfl rfl) (congrArg (ik .i64) hx13)) ?_
     refine zM (r := i64 x13) rfl rfl rfl rfl rfl ?_
     refine zN ?_
     cases Option.some.inj h3_
     exact ⟨_, rfl, (u4 + 1), ((setAt?_len he12).trans (of_decide_eq_true hn8)), ⟨aR, aR, aR, aR, aR, trivial⟩, ⟨⟨rfl, .inr rfl⟩, ⟨rfl, .inr rfl⟩, ⟨rfl, .inl rfl⟩, trivial⟩⟩
    ·refine RunC.regionW ?_
     refine zL (r := b false) rfl rfl rfl (LOp.eqb (LOp.lss rfl rfl rfl) hc6) ?_
     refine zN ?_
     refine RunC.seq ?_
     refine RunC.cond_false rfl rfl ?_
     refine RunC.exit ?_
     cases Option.some.inj h3_
     have hx := ho3 _ rfl
     exact ⟨L5, u4, hl6, ⟨aR, aR, aR, trivial⟩, ⟨⟨rfl, .inr rfl⟩, ⟨rfl, .inr rfl⟩, ⟨rfl, .inl rfl⟩, trivial⟩, hx⟩
   ·rintro τ4 Γ4 ⟨L15, u14, hl16, hw4, hd4, rfl⟩
    refine RunC.wl hw4 hd4 ?_
    replace h : i_SparseRootSolve_k1 a0 a1 a2 a3 r3 L15 = some (q0, q1) := h
    unfold i_SparseRootSolve_k1 at h
    refine RunC.seq ?_
    refine RunC.seq ?_
    obtain ⟨x17, hx14, h⟩ := olet_some h
    refine RunC.regionW ?_
    refine zL (r := ptr [i64 a0, sl a1.length (a1.map i64), sl a2.length (a2.map i64), sl a3.length (a3.map f32)]) rfl rfl rfl (LOp.fap und30 rfl siz2 rfl rfl rfl) ?_
    refine zL (r := i64 a0) rfl rfl rfl (LOp.load1 agg2 rfl rfl) ?_
    refine zL (r := i64 x17) rfl rfl rfl (LOp.eqr (LOp.sub rfl rfl rfl) (congrArg (ik .i64) hx14)) ?_
    refine ROps.d (r := optr 2 (u14 + 1) 0) (fs := [(2, [i64 0])]) (Γ' := [⟨1, some (L15.map f32)⟩, ⟨1, some [oref 0 1 0 r3.length]⟩, ⟨(u14 + 1), some [i64 0]⟩]) rfl rfl rfl (TOp.alloc_o (g := ⟨u14, none⟩) 2 rfl zer2 zok2 rfl) rfl ?_
    refine ROps.store_le (r := i64 x17) (l' := [i64 x17]) (Γ' := [⟨1, some (L15.map f32)⟩, ⟨1, some [oref 0 1 0 r3.length]⟩, ⟨(u14 + 1), some [i64 x17]⟩]) rfl siz2 rfl rfl rfl aR rfl rfl rfl rfl (Nat.le_of_ble_eq_true rfl) rfl rfl ?_
    refine zN ?_
    obtain ⟨z5, hz_5, h⟩ := obind_some h
    refine RunC.cutN (fun τ Γ => ∃ (L29 : List F) (u28 : Nat), L29.length = r3.length ∧ WeakLe τ [(6, optr 1 1 0)] ∧ DeadLe Γ [⟨1, some (L29.map f32)⟩, ⟨1, some [oref 0 1 0 r3.length]⟩, ⟨u28, none⟩] ∧ z5 = .inl L29) ?_ ?_
    ·refine RunC.block (RunC.loop (RunL.loopM (x := z5) (i_SparseRootSolve_s2 a0 a1 a2 a3 r3) (fun (s : (List F) × Int) τ Γ => ∃ (u18 : Nat), s.1.length = r3.length ∧ WeakLe τ [(2, ptr [i64 a0, sl a1.length (a1.map i64), sl a2.length (a2.map i64), sl a3.length (a3.map f32)]), (6, optr 1 1 0), (7, fn (.func 94) [] [ptr [i64 a0, sl a1.length (a1.map i64), sl a2.length (a2.map i64), sl a3.length (a3.map f32)]]), (9, optr 2 u18 0)] ∧ DeadLe Γ [⟨1, some (s.1.map f32)⟩, ⟨1, some [oref 0 1 0 r3.length]⟩, ⟨u18, some [i64 s.2]⟩]) ?_ _ _ _ hz_5 ⟨(u14 + 1), hl16, ⟨aR, aR, aR, aR, trivial⟩, ⟨⟨rfl, .inr rfl⟩, ⟨rfl, .inr rfl⟩, ⟨rfl, .inr rfl⟩, trivial⟩⟩))
     rintro ⟨L19, v21⟩ τ5 Γ5 y5_ ⟨u18, hl20, hw5, hd5⟩ h5_ ho5 hr5
     refine RunC.wl (τ' := [(2, ptr [i64 a0, sl a1.length (a1.map i64), sl a2.length (a2.map i64), sl a3.length (a3.map f32)]), (6, optr 1 1 0), (7, fn (.func 94) [] [ptr [i64 a0, sl a1.length (a1.map i64), sl a2.length (a2.map i64), sl a3.length (a3.map f32)]]), (9, optr 2 u18 0)]) (Γ' := [⟨1, some (L19.map f32)⟩, ⟨1, some [oref 0 1 0 r3.length]⟩, ⟨u18, some [i64 v21]⟩]) hw5 hd5 ?_
     replace hl20 : L19.length = r3.length := hl20
     replace h5_ : i_SparseRootSolve_b2 a0 a1 a2 a3 r3 L19 v21 = some y5_ := h5_
     unfold i_SparseRootSolve_b2 at h5_
     refine RunC.seq ?_
     refine RunC.seq ?_
     rcases bsel_some h5_ with ⟨hc15, h5_⟩ | ⟨hc15, h5_⟩
     ·refine RunC.regionW ?_
      refine ROps.d (r := i64 v21) (fs := []) (Γ' := [⟨1, some (L19.map f32)⟩, ⟨1, some [oref 0 1 0 r3.length]⟩, ⟨u18, some [i64 v21]⟩]) rfl rfl rfl (TOp.load1_o rfl rfl agg2 rfl rfl) rfl ?_
      refine zL (r := b true) rfl rfl rfl (LOp.eqb (LOp.geq rfl rfl rfl) hc15) ?_
      refine zN ?_
      refine RunC.cond_true rfl rfl ?_
      refine RunC.skip ?_
      refine RunC.seq ?_
      refine RunC.block ?_
      refine RunC.seq ?_
      obtain ⟨e22, he16, h5_⟩ := obind_some h5_
      obtain ⟨r23, hf17, h5_⟩ := obind_some h5_
      obtain ⟨x24, hx18, h5_⟩ := olet_some h5_
      obtain ⟨L25, he19, h5_⟩ := obind_some h5_
      refine RunC.region_draw (Γ' := [⟨1, some (L19.map f32)⟩, ⟨1, some [oref 0 1 0 r3.length]⟩, ⟨u18, some [i64 v21]⟩]) 9 mixed 
       (TR.d (r := oref 0 1 0 r3.length) (fs := []) rfl rfl (TOp.load1_o rfl rfl agg23 rfl rfl) <|
       (TR.d (r := i64 v21) (fs := []) rfl rfl (TOp.load1_o rfl rfl agg2 rfl rfl) <|
       (TR.d (r := optr 0 1 v21.toNat) (fs := []) rfl rfl (TOp.ixo und23 siz26 rfl rfl rfl (at_in he16 hl20) rfl) <|
       (TR.d (r := f32 e22) (fs := []) rfl rfl (TOp.load1_o rfl (at_cell he16) agg26 rfl rfl) <|
       (TR.l (r := fn (.func 94) [] [ptr [i64 a0, sl a1.length (a1.map i64), sl a2.length (a2.map i64), sl a3.length (a3.map f32)]]) rfl rfl (LOp.move rfl rfl) <|
       (TR.d (r := i64 v21) (fs := []) rfl rfl (TOp.load1_o rfl rfl agg2 rfl rfl) <|
       (TR.d (r := f32 r23) (fs := []) rfl rfl (TOp.callB (CallAs.fn ent94 rfl rfl rfl rfl) (Bors.cons (Bor.pure rfl) (Bors.cons (Bor.ptr (Bors.cons (Bor.pure rfl) (Bors.cons (Bor.sl (fun _ => rfl)) (Bors.cons (Bor.sl (fun _ => rfl)) (Bors.cons (Bor.sl (fun _ => rfl)) Bors.nil))))) Bors.nil)) rfl rfl (i_SparseRootSolve_1_ok v21 a0 a1 a2 a3 r23 hf17)) <|
       (TR.d (r := f32 x24) (fs := []) rfl rfl (TOp.eqr (TOp.fop (.inr (.inr (.inr rfl))) rfl (OpF.tmp rfl) (OpF.tmp rfl)) (congrArg (f .f32) hx18)) <|
       (TR.d (r := optr 0 1 v21.toNat) (fs := []) rfl rfl (TOp.ixo und23 siz26 rfl rfl rfl (set_in he19 hl20) rfl) <|
       TR.nil))))))))) rfl (by kernel_rfl) rfl fills_nil rfl ?_
      iterate 9 refine ROps.dropS ?_
      refine ROps.drop0 ?_
      refine ROps.st (f := f32) (i := v21) (Γ' := [⟨1, some (L25.map f32)⟩, ⟨1, some [oref 0 1 0 r3.length]⟩, ⟨u18, some [i64 v21]⟩]) rfl siz26 rfl rfl rfl aR rfl rfl rfl he19 rfl ?_
      refine zN ?_
      obtain ⟨r26, hf20, h5_⟩ := obind_some h5_
      obtain ⟨hn21, h5_⟩ := need_some h5_
      refine RunC.regionW ?_
      refine zL (r := agg [i64 a0, sl a1.length (a1.map i64), sl a2.length (a2.map i64), sl a3.length (a3.map f32)]) rfl rfl rfl (LOp.loadAgg agg30 siz30 rfl rfl rfl rfl) ?_
      refine ROps.d (r := i64 v21) (fs := []) (Γ' := [⟨1, some (L25.map f32)⟩, ⟨1, some [oref 0 1 0 r3.length]⟩, ⟨u18, some [i64 v21]⟩]) rfl rfl rfl (TOp.load1_o rfl rfl agg2 rfl rfl) rfl ?_
      refine zL (r := fn (.func 97) [] [optr 2 u18 0, optr 1 1 0]) rfl rfl rfl (LOp.makeFunc rfl rfl) ?_
      refine ROps.callO (A := [agg [i64 a0, sl a1.length (a1.map i64), sl a2.length (a2.map i64), sl a3.length (a3.map f32)], i64 v21, fn (.func 97) [] [optr 2 u18 0, optr 1 1 0]]) (args := [agg [i64 a0, sl a1.length (a1.map i64), sl a2.length (a2.map i64), sl a3.length (a3.map f32)], i64 v21, fn (.func 97) [] [optr 0 0 0, optr 1 0 0]]) (Γc := [⟨0, some [i64 v21]⟩, ⟨0, some [oref 2 0 0 L25.length]⟩, ⟨0, some (L25.map f32)⟩]) (Γc' := [⟨0, some [i64 v21]⟩, ⟨0, some [oref 2 0 0 L25.length]⟩, ⟨0, some (r26.map f32)⟩]) (r' := tup []) (Γ' := [⟨1, some (r26.map f32)⟩, ⟨1, some [oref 0 1 0 r3.length]⟩, ⟨u18, some [i64 v21]⟩]) [(2, u18), (1, 1), (0, 1)] [] rfl (CallAs.func ent95 rfl rfl) rfl rfl (SelOk.of (show List.Nodup [2, 1, 0] from by decide) (SelL.cells0 rfl (by simp [ren, rens, sigma, rens_f32, rens_f64, rens_i64, rens_ik, rens_str, rens_cp, ((setAt?_len he19).trans hl20)]) rfl (SelL.cells0 rfl (by simp [ren, rens, sigma, rens_f32, rens_f64, rens_i64, rens_ik, rens_str, rens_cp, ((setAt?_len he19).trans hl20)]) rfl (SelL.arr0 (f := f32) (fun _ => rfl) rfl trivial)))) (live_of ⟨⟨_, _, rfl⟩, ⟨_, _, rfl⟩, ⟨_, _, rfl⟩, trivial⟩) (by simp [ren, rens, sigma, rens_f32, rens_f64, rens_i64, rens_ik, rens_str, rens_cp, ((setAt?_len he19).trans hl20)]) (lts_cons (lt_agg (lts_cons rfl (lts_cons (lt_slk (fun _ => rfl)) (lts_cons (lt_slk (fun _ => rfl)) (lts_cons (lt_slk (fun _ => rfl)) lts_nil))))) (lts_cons rfl (lts_cons rfl lts_nil))) (i_Sparse_each_2Fi_SparseRootSolve_3_2c0p0_2c1p1_C0_C10o2_ok a0 a1 a2 a3 v21 v21 L25 r26 hf20) rfl (news_of trivial) (show List.Nodup [2, 1, 0] from by decide) (by simp [ren, rens, sigma, of_decide_eq_true hn21]) (by simp [backOb, sigma, ren, rens, rens_f32, rens_f64, rens_i64, rens_ik, rens_str, rens_cp, ((setAt?_len he19).trans hl20), of_decide_eq_true hn21]) ?_
      refine zN ?_
      refine RunC.wl (τ' := [(2, ptr [i64 a0, sl a1.length (a1.map i64), sl a2.length (a2.map i64), sl a3.length (a3.map f32)]), (6, optr 1 1 0), (7, fn (.func 94) [] [ptr [i64 a0, sl a1.length (a1.map i64), sl a2.length (a2.map i64), sl a3.length (a3.map f32)]]), (9, optr 2 u18 0)]) (Γ' := [⟨1, some (r26.map f32)⟩, ⟨1, some [oref 0 1 0 r3.length]⟩, ⟨u18, some [i64 v21]⟩]) ⟨aR, aR, aR, aR, trivial⟩ ⟨⟨rfl, .inr rfl⟩, ⟨rfl, .inr rfl⟩, ⟨rfl, .inr rfl⟩, trivial⟩ ?_
      refine RunC.seq ?_
      refine zQ ?_
      refine ROps.d (r := i64 v21) (fs := []) (Γ' := [⟨1, some (r26.map f32)⟩, ⟨1, some [oref 0 1 0 r3.length]⟩, ⟨u18, some [i64 v21]⟩]) rfl rfl rfl (TOp.load1_o rfl rfl agg2 rfl rfl) rfl ?_
      refine zN ?_
      refine RunC.wl (τ' := [(2, ptr [i64 a0, sl a1.length (a1.map i64), sl a2.length (a2.map i64), sl a3.length (a3.map f32)]), (6, optr 1 1 0), (7, fn (.func 94) [] [ptr [i64 a0, sl a1.length (a1.map i64), sl a2.length (a2.map i64), sl a3.length (a3.map f32)]]), (61, i64 v21)]) (Γ' := [⟨1, some (r26.map f32)⟩, ⟨1, some [oref 0 1 0 r3.length]⟩, ⟨u18, none⟩]) ⟨aR, aR, aR, aR, trivial⟩ ⟨⟨rfl, .inr rfl⟩, ⟨rfl, .inr rfl⟩, ⟨rfl, .inl rfl⟩, trivial⟩ ?_
      refine RunC.regionW ?_
      refine ROps.d (r := optr 2 (u18 + 1) 0) (fs := [(2, [i64 0])]) (Γ' := [⟨1, some (r26.map f32)⟩, ⟨1, some [oref 0 1 0 r3.length]⟩, ⟨(u18 + 1), some [i64 0]⟩]) rfl rfl rfl (TOp.alloc_o (g := ⟨u18, none⟩) 2 rfl zer2 zok2 rfl) rfl ?_
      refine ROps.store_le (r := i64 v21) (l' := [i64 v21]) (Γ' := [⟨1, some (r26.map f32)⟩, ⟨1, some [oref 0 1 0 r3.length]⟩, ⟨(u18 + 1), some [i64 v21]⟩]) rfl siz2 rfl rfl rfl aR rfl rfl rfl rfl (Nat.le_of_ble_eq_true rfl) rfl rfl ?_
      refine zN ?_
      obtain ⟨x27, hx22, h5_⟩ := olet_some h5_
      refine RunC.regionW ?_
      refine ROps.d (r := i64 v21) (fs := []) (Γ' := [⟨1, some (r26.map f32)⟩, ⟨1, some [oref 0 1 0 r3.length]⟩, ⟨(u18 + 1), some [i64 v21]⟩]) rfl rfl rfl (TOp.load1_o rfl rfl agg2 rfl rfl) rfl ?_
      refine zL (r := i64 x27) rfl rfl rfl (LOp.eqr (LOp.sub rfl rfl rfl) (congrArg (ik .i64) hx22)) ?_
      refine ROps.store_le (r := i64 x27) (l' := [i64 x27]) (Γ' := [⟨1, some (r26.map f32)⟩, ⟨1, some [oref 0 1 0 r3.length]⟩, ⟨(u18 + 1), some [i64 x27]⟩]) rfl siz2 rfl rfl rfl aR rfl rfl rfl rfl (Nat.le_of_ble_eq_true rfl) rfl rfl ?_
      refine zN ?_
      cases Option.some.inj h5_
      exact ⟨_, rfl, (u18 + 1), (of_decide_eq_true hn21), ⟨aR, aR, aR, aR, trivial⟩, ⟨⟨rfl, .inr rfl⟩, ⟨rfl, .inr rfl⟩, ⟨rfl, .inr rfl⟩, trivial⟩⟩
     ·refine RunC.regionW ?_
      refine ROps.d (r := i64 v21) (fs := []) (Γ' := [⟨1, some (L19.map f32)⟩, ⟨1, some [oref 0 1 0 r3.length]⟩, ⟨u18, some [i64 v21]⟩]) rfl rfl rfl (TOp.load1_o rfl rfl agg2 rfl rfl) rfl ?_
      refine zL (r := b false) rfl rfl rfl (LOp.eqb (LOp.geq rfl rfl rfl) hc15) ?_
      refine zN ?_
      refine RunC.cond_false rfl rfl ?_
      refine RunC.exit ?_
      cases Option.some.inj h5_
      have hx := ho5 _ rfl
      exact ⟨L19, u18, hl20, ⟨aR, trivial⟩, ⟨⟨rfl, .inr rfl⟩, ⟨rfl, .inr rfl⟩, ⟨rfl, .inl rfl⟩, trivial⟩, hx⟩
    ·rintro τ6 Γ6 ⟨L29, u28, hl30, hw6, hd6, rfl⟩
     refine RunC.wl hw6 hd6 ?_
     replace h : i_SparseRootSolve_k2 r3 L29 = some (q0, q1) := h
     unfold i_SparseRootSolve_k2 at h
     refine RunC.seq ?_
     obtain ⟨z7, hf23, h⟩ := obind_some h
     rcases z7 with z7 | z7
     ·replace h := (osum_inl _ _ _).symm.trans h
      obtain ⟨r31, r32, hz8, h⟩ := obind2_some h
      cases hz8
      obtain ⟨hn24, h⟩ := need_some h
      refine RunC.regionW ?_
      refine ROps.d (r := oref 0 1 0 r3.length) (fs := []) (Γ' := [⟨1, some (L29.map f32)⟩, ⟨1, some [oref 0 1 0 r3.length]⟩, ⟨u28, none⟩]) rfl rfl rfl (TOp.load1_o rfl rfl agg23 rfl rfl) rfl ?_
      refine ROps.callO (A := [oref 0 1 0 r3.length]) (args := [oref 0 0 0 L29.length]) (Γc := [⟨0, some (L29.map f32)⟩]) (Γc' := [⟨0, some (r32.map f32)⟩]) (r' := tup [oref 0 1 0 r3.length, b r31]) (Γ' := [⟨1, some (r32.map f32)⟩, ⟨1, some [oref 0 1 0 r3.length]⟩, ⟨u28, none⟩]) [(0, 1)] [] rfl (CallAs.func ent56 rfl rfl) rfl rfl (SelOk.of (show List.Nodup [0] from by decide) (SelL.arr0 (f := f32) (fun _ => rfl) rfl trivial)) (live_of ⟨⟨_, _, rfl⟩, trivial⟩) (by simp [ren, rens, sigma, rens_f32, rens_f64, rens_i64, rens_ik, rens_str, rens_cp, hl30]) rfl (i_allFinite_0o_ok0 L29 r31 r32 hf23) rfl (news_of trivial) (show List.Nodup [0] from by decide) (by simp [ren, rens, sigma, of_decide_eq_true hn24]) (by simp [backOb, sigma, ren, rens, rens_f32, rens_f64, rens_i64, rens_ik, rens_str, rens_cp]) ?_
      refine zL (r := oref 0 1 0 r3.length) rfl rfl rfl (LOp.extract rfl rfl rfl) ?_
      refine zL (r := b r31) rfl rfl rfl (LOp.extract rfl rfl rfl) ?_
      refine zA (r := oref 0 1 0 r3.length) rfl rfl rfl rfl rfl ?_
      refine zA (r := b r31) rfl rfl rfl rfl rfl ?_
      refine zN ?_
      refine RunC.ret ?_
      have hq := Option.some.inj h
      obtain ⟨hq0, hq⟩ := Prod.mk.inj hq
      subst q0
      subst q1
      exact bodyQ.mk (r' := tup [oref 0 1 0 r32.length, b r31]) [(0, 1)] (.inr rfl) rfl (show List.Nodup [0] from by decide) rfl rfl (Res.eq (Res.two rfl (RV.tmp rfl) (RV.tmp rfl)) (by rw [(show r32.length = r3.length from (of_decide_eq_true hn24))] <;> rfl)) (SelL.arr0 (f := f32) (fun _ => rfl) rfl trivial)
     ·replace h := (osum_inr _ _ _).symm.trans h
      obtain ⟨r33, r34, r35, hz9, h⟩ := obind3_some h
      cases hz9
      obtain ⟨hn25, h⟩ := need_some h
      refine RunC.regionW ?_
      refine ROps.d (r := oref 0 1 0 r3.length) (fs := []) (Γ' := [⟨1, some (L29.map f32)⟩, ⟨1, some [oref 0 1 0 r3.length]⟩, ⟨u28, none⟩]) rfl rfl rfl (TOp.load1_o rfl rfl agg23 rfl rfl) rfl ?_
      refine ROps.callO (A := [oref 0 1 0 r3.length]) (args := [oref 0 0 0 L29.length]) (Γc := [⟨0, some (L29.map f32)⟩]) (Γc' := [⟨0, some (r34.map f32)⟩, ⟨0, some (r35.map f32)⟩]) (r' := tup [oref 2 (u28 + 1) 0 r35.length, b r33]) (Γ' := [⟨1, some (r34.map f32)⟩, ⟨1, some [oref 0 1 0 r3.length]⟩, ⟨(u28 + 1), some (r35.map f32)⟩]) [(0, 1)] [(2, (u28 + 1))] rfl (CallAs.func ent56 rfl rfl) rfl rfl (SelOk.of (show List.Nodup [0] from by decide) (SelL.arr0 (f := f32) (fun _ => rfl) rfl trivial)) (live_of ⟨⟨_, _, rfl⟩, trivial⟩) (by simp [ren, rens, sigma, rens_f32, rens_f64, rens_i64, rens_ik, rens_str, rens_cp, hl30]) rfl (i_allFinite_0o_ok1 L29 r33 r34 r35 hf23) rfl (news_of ⟨⟨_, rfl, rfl⟩, trivial⟩) (show List.Nodup [0, 2] from by decide) (by simp [ren, rens, sigma, of_decide_eq_true hn25]) (by simp [backOb, sigma, ren, rens, rens_f32, rens_f64, rens_i64, rens_ik, rens_str, rens_cp]) ?_
      refine zL (r := oref 2 (u28 + 1) 0 r35.length) rfl rfl rfl (LOp.extract rfl rfl rfl) ?_
      refine zL (r := b r33) rfl rfl rfl (LOp.extract rfl rfl rfl) ?_
      refine zA (r := oref 2 (u28 + 1) 0 r35.length) rfl rfl rfl rfl rfl ?_
      refine zA (r := b r33) rfl rfl rfl rfl rfl ?_
      refine zN ?_
      refine RunC.ret ?_
      have hq := Option.some.inj h
      obtain ⟨hq0, hq⟩ := Prod.mk.inj hq
      subst q0
      subst q1
      exact bodyQ.mk (r' := tup [oref 2 (u28 + 1) 0 r35.length, b r33]) [(2, (u28 + 1))] (.inr rfl) rfl (show List.Nodup [2] from by decide) (by simp [ren, rens, sigma]) rfl (Res.two rfl (RV.tmp rfl) (RV.tmp rfl)) (SelL.arr0 (f := f32) (fun _ => rfl) rfl trivial)
  ·refine RunC.regionW ?_
   refine zL (r := agg [i64 a0, sl a1.length (a1.map i64), sl a2.length (a2.map i64), sl a3.length (a3.map f32)]) rfl rfl rfl (LOp.loadAgg agg30 siz30 rfl rfl rfl rfl) ?_
   refine ROps.d (r := b true) (fs := []) (Γ' := [⟨0, none⟩, ⟨0, none⟩, ⟨0, none⟩]) rfl rfl rfl (TOp.eqb (TOp.callB (CallAs.func ent93 rfl rfl) (Bors.cons (Bor.agg (Bors.cons (Bor.pure rfl) (Bors.cons (Bor.sl (fun _ => rfl)) (Bors.cons (Bor.sl (fun _ => rfl)) (Bors.cons (Bor.sl (fun _ => rfl)) Bors.nil))))) Bors.nil) rfl rfl (i_isLowerRoot_ok a0 a1 a2 a3 r1 hf1)) hc2) rfl ?_
   refine zL (r := b false) rfl rfl rfl (LOp.eqb (LOp.not rfl rfl) rfl) ?_
   refine zM (r := b false) rfl rfl rfl rfl rfl ?_
   refine zL (r := agg [i64 a0, sl a1.length (a1.map i64), sl a2.length (a2.map i64), sl a3.length (a3.map f32)]) rfl rfl rfl (LOp.loadAgg agg30 siz30 rfl rfl rfl rfl) ?_
   refine zM (r := sl a4.length (a4.map f32)) rfl rfl rfl rfl rfl ?_
   refine ROps.d (r := b false) (fs := []) (Γ' := [⟨0, none⟩, ⟨0, none⟩, ⟨0, none⟩]) rfl rfl rfl (TOp.eqb (TOp.callB (CallAs.func ent84 rfl rfl) (Bors.cons (Bor.agg (Bors.cons (Bor.pure rfl) (Bors.cons (Bor.sl (fun _ => rfl)) (Bors.cons (Bor.sl (fun _ => rfl)) (Bors.cons (Bor.sl (fun _ => rfl)) Bors.nil))))) (Bors.cons (Bor.sl (fun _ => rfl)) Bors.nil)) rfl rfl (i_Sparse_takes_ok a0 a1 a2 a3 a4 r2 hf3)) hc4) rfl ?_
   refine zL (r := b true) rfl rfl rfl (LOp.eqb (LOp.not rfl rfl) rfl) ?_
   refine zL (r := b true) rfl rfl rfl (LOp.pick_false rfl rfl rfl) ?_
   refine zN ?_
   refine RunC.cond_true rfl rfl ?_
   refine zQ ?_
   refine zA (r := nilsl) rfl rfl rfl rfl rfl ?_
   refine zA (r := b false) rfl rfl rfl rfl rfl ?_
   refine zN ?_
   refine RunC.nil_slot (Γ' := [⟨1, some (([] : List F).map f32)⟩, ⟨0, none⟩, ⟨0, none⟩]) 4 0 rfl rfl rfl ?_
   refine RunC.ret ?_
   have hq := Option.some.inj h
   obtain ⟨hq0, hq⟩ := Prod.mk.inj hq
   subst q0
   subst q1
   exact bodyQ.mk (r' := tup [oref 0 1 0 (([] : List F).length), b false]) [(0, 1)] (.inr rfl) rfl (show List.Nodup [0] from by decide) rfl rfl (Res.eq (Res.two rfl (RV.tmp rfl) (RV.tmp rfl)) (by rw [(show ([] : List F).length = 0 from rfl)] <;> rfl)) (SelL.arr0 (f := f32) (fun _ => rfl) rfl trivial)
 ·refine RunC.regionW ?_
  refine zL (r := agg [i64 a0, sl a1.length (a1.map i64), sl a2.length (a2.map i64), sl a3.length (a3.map f32)]) rfl rfl rfl (LOp.loadAgg agg30 siz30 rfl rfl rfl rfl) ?_
  refine ROps.d (r := b false) (fs := []) (Γ' := [⟨0, none⟩, ⟨0, none⟩, ⟨0, none⟩]) rfl rfl rfl (TOp.eqb (TOp.callB (CallAs.func ent93 rfl rfl) (Bors.cons (Bor.agg (Bors.cons (Bor.pure rfl) (Bors.cons (Bor.sl (fun _ => rfl)) (Bors.cons (Bor.sl (fun _ => rfl)) (Bors.cons (Bor.sl (fun _ => rfl)) Bors.nil))))) Bors.nil) rfl rfl (i_isLowerRoot_ok a0 a1 a2 a3 r1 hf1)) hc2) rfl ?_
  refine zL (r := b true) rfl rfl rfl (LOp.eqb (LOp.not rfl rfl) rfl) ?_
  refine zM (r := b true) rfl rfl rfl rfl rfl ?_
  refine ROps.s rfl rfl rfl ?_
  refine ROps.s rfl rfl rfl ?_
  refine ROps.s rfl rfl rfl ?_
  refine ROps.s rfl rfl rfl ?_
  refine zL (r := b true) rfl rfl rfl (LOp.pick_true rfl rfl rfl) ?_
  refine zN ?_
  refine RunC.cond_true rfl rfl ?_
  refine zQ ?_
  refine zA (r := nilsl) rfl rfl rfl rfl rfl ?_
  refine zA (r := b false) rfl rfl rfl rfl rfl ?_
  refine zN ?_
  refine RunC.nil_slot (Γ' := [⟨1, some (([] : List F).map f32)⟩, ⟨0, none⟩, ⟨0, none⟩]) 4 0 rfl rfl rfl ?_
  refine RunC.ret ?_
  have hq := Option.some.inj h
  obtain ⟨hq0, hq⟩ := Prod.mk.inj hq
  subst q0
  subst q1
  exact bodyQ.mk (r' := tup [oref 0 1 0 (([] : List F).length), b false]) [(0, 1)] (.inr rfl) rfl (show List.Nodup [0] from by decide) rfl rfl (Res.eq (Res.two rfl (RV.tmp rfl) (RV.tmp rfl)) (by rw [(show ([] : List F).length = 0 from rfl)] <;> rfl)) (SelL.arr0 (f := f32) (fun _ => rfl) rfl trivial)
noncomputable def i_SparseWith_1 (a0 : List F) (a1 : Int) (a2 : List Int) (a3 : List Int) (a4 : List F) : Option (Bool × (List F)) :=
 obind2 (i_SparseRootSolve a1 a2 a3 a4 a0) fun (r1 : Bool) (r2 : List F) =>
 some (r1, r2)
theorem i_SparseWith_1_ok (a0 : List F) (a1 : Int) (a2 : List Int) (a3 : List Int) (a4 : List F) (q0 : Bool) (q1 : List F) (h : i_SparseWith_1 a0 a1 a2 a3 a4 = some (q0, q1)) : Ev Try.prog 42 [sl a0.length (a0.map f32), ptr [i64 a1, sl a2.length (a2.map i64), sl a3.length (a3.map i64), sl a4.length (a4.map f32)]] [] (tup [oref 0 0 0 q1.length, b q0]) [⟨0, some (q1.map f32)⟩] := by
 refine Ev.start Try.func42 rfl rfl 1 (τ := [(0, sl a0.length (a0.map f32)), (1, ptr [i64 a1, sl a2.length (a2.map i64), sl a3.length (a3.map i64), sl a4.length (a4.map f32)])]) rfl (Γ' := [⟨0, none⟩]) rfl (n := 21) rfl (g := 0) rfl (fun _ => rfl) ?_
 unfold i_SparseWith_1 at h
 refine zQ ?_
 refine zA (r := nilsl) rfl rfl rfl rfl rfl ?_
 refine zA (r := b false) rfl rfl rfl rfl rfl ?_
 refine zN ?_
 refine RunC.seq ?_
 obtain ⟨r1, r2, hf1, h⟩ := obind2_some h
 refine RunC.regionW ?_
 refine zL (r := agg [i64 a1, sl a2.length (a2.map i64), sl a3.length (a3.map i64), sl a4.length (a4.map f32)]) rfl rfl rfl (LOp.loadAgg agg30 siz30 rfl rfl rfl rfl) ?_
 refine zM (r := sl a0.length (a0.map f32)) rfl rfl rfl rfl rfl ?_
 refine ROps.d (r := tup [oref 0 1 0 r2.length, b r1]) (fs := [(0, (r2.map f32))]) (Γ' := [⟨1, some (r2.map f32)⟩]) rfl rfl rfl (TOp.callBN (ls := [(r2.map f32)]) [0] (CallAs.func ent43 rfl rfl) (Bors.cons (Bor.agg (Bors.cons (Bor.pure rfl) (Bors.cons (Bor.sl (fun _ => rfl)) (Bors.cons (Bor.sl (fun _ => rfl)) (Bors.cons (Bor.sl (fun _ => rfl)) Bors.nil))))) (Bors.cons (Bor.sl (fun _ => rfl)) Bors.nil)) rfl (i_SparseRootSolve_ok a1 a2 a3 a4 a0 r1 r2 hf1) (and_all (lts0_map (f := f32) (fun _ => rfl) _) rfl) (and_all (noss_map (f := f32) (fun _ => rfl) _) rfl) rfl (by decide) (ns_of ⟨⟨_, rfl⟩, trivial⟩)) rfl ?_
 refine zL (r := oref 0 1 0 r2.length) rfl rfl rfl (LOp.extract rfl rfl rfl) ?_
 refine zL (r := b r1) rfl rfl rfl (LOp.extract rfl rfl rfl) ?_
 refine zA (r := oref 0 1 0 r2.length) rfl rfl rfl rfl rfl ?_
 refine zA (r := b r1) rfl rfl rfl rfl rfl ?_
 refine zN ?_
 refine RunC.ret ?_
 have hq := Option.some.inj h
 obtain ⟨hq0, hq⟩ := Prod.mk.inj hq
 subst q0
 subst q1
 exact bodyQ.mk (r' := tup [oref 0 1 0 r2.length, b r1]) [(0, 1)] (.inr rfl) rfl (show List.Nodup [0] from by decide) rfl rfl (Res.two rfl (RV.tmp rfl) (RV.tmp rfl)) (SelL.arr0 (f := f32) (fun _ => rfl) rfl trivial)
noncomputable def i_dot_b1 (a0 : List F) (a1 : List F) (y1 : F) (v2 : Int) : Option (LR (F × Int) (F) (F)) :=
 bsel (decide (v2 < (a0.length : Int))) (
  obind (at? a0 v2) fun (e3 : F) =>
  obind (at? a1 v2) fun (e4 : F) =>
  obind (i_mul e3 e4) fun (r5 : F) =>
  olet (fop .add .f32 y1 r5) fun (x6 : F) =>
  olet (IntKind.i64.wrap (v2 + 1)) fun (x7 : Int) =>
  some (LR.next (x6, x7))) (
  some (LR.out y1))
noncomputable def i_dot_s1 (a0 : List F) (a1 : List F) : (F × Int) → Option (LR (F × Int) (F) (F)) := fun s => i_dot_b1 a0 a1 s.1 s.2
noncomputable def i_dot_k1 (y8 : F) : Option (F) :=
 some y8
noncomputable def i_dot (a0 : List F) (a1 : List F) : Option (F) :=
 obind (loopM (i_dot_s1 a0 a1) (some 0, 0)) fun z => osum z (fun e => i_dot_k1 e) (fun r => some r)
theorem i_dot_ok (a0 : List F) (a1 : List F) (q0 : F) (h : i_dot a0 a1 = some q0) : Ev Try.prog 87 [sl a0.length (a0.map f32), sl a1.length (a1.map f32)] [] (f32 q0) [] := by
 refine Ev.start Try.func87 rfl rfl 0 (τ := [(0, sl a0.length (a0.map f32)), (1, sl a1.length (a1.map f32))]) rfl (Γ' := []) rfl (n := 51) rfl (g := 0) rfl (fun _ => rfl) ?_
 unfold i_dot at h
 refine zQ ?_
 refine zL (r := f32 (some 0)) rfl rfl rfl (LOp.le (LOp.assign rfl rfl) (ALe.fl (by kernel_rfl) (by kernel_rfl))) ?_
 refine zN ?_
 refine zQ ?_
 refine zL (r := f32 (some 0)) rfl rfl rfl (LOp.le (LOp.assign rfl rfl) (ALe.fl (by kernel_rfl) (by kernel_rfl))) ?_
 refine zN ?_
 refine RunC.seq ?_
 refine zQ ?_
 refine zM (r := sl a0.length (a0.map f32)) rfl rfl rfl rfl rfl ?_
 refine zL (r := i64 (a0.length : Int)) rfl rfl rfl (LOp.len_sl und23 rfl rfl) ?_
 refine zM (r := i64 0) rfl rfl rfl rfl rfl ?_
 refine zN ?_
 obtain ⟨z2, hz_2, h⟩ := obind_some h
 refine RunC.cutN (fun τ Γ => ∃ (y8 : F), WeakLe τ [(5, f32 y8)] ∧ DeadLe Γ [] ∧ z2 = .inl y8) ?_ ?_
 ·refine RunC.block (RunC.loop (RunL.loopM (x := z2) (i_dot_s1 a0 a1) (fun (s : F × Int) τ Γ => WeakLe τ [(1, sl a1.length (a1.map f32)), (5, f32 s.1), (8, sl a0.length (a0.map f32)), (9, i64 (a0.length : Int)), (10, i64 s.2)] ∧ DeadLe Γ []) ?_ _ _ _ hz_2 ⟨⟨aR, aR, aR, aR, aR, trivial⟩, trivial⟩))
  rintro ⟨y1, v2⟩ τ2 Γ2 y2_ ⟨hw2, hd2⟩ h2_ ho2 hr2
  refine RunC.wl (τ' := [(1, sl a1.length (a1.map f32)), (5, f32 y1), (8, sl a0.length (a0.map f32)), (9, i64 (a0.length : Int)), (10, i64 v2)]) (Γ' := []) hw2 hd2 ?_
  replace h2_ : i_dot_b1 a0 a1 y1 v2 = some y2_ := h2_
  unfold i_dot_b1 at h2_
  refine RunC.seq ?_
  rcases bsel_some h2_ with ⟨hc1, h2_⟩ | ⟨hc1, h2_⟩
  ·refine RunC.regionW ?_
   refine zL (r := b true) rfl rfl rfl (LOp.eqb (LOp.lss rfl rfl rfl) hc1) ?_
   refine zN ?_
   refine RunC.seq ?_
   refine RunC.cond_true rfl rfl ?_
   refine RunC.skip ?_
   refine RunC.seq ?_
   refine RunC.block ?_
   refine RunC.seq ?_
   obtain ⟨e3, he2, h2_⟩ := obind_some h2_
   refine RunC.regionW ?_
   refine zM (r := i64 v2) rfl rfl rfl rfl rfl ?_
   refine zL (r := ptr [f32 e3]) rfl rfl rfl (LOp.le (LOp.ix (f := f32) und23 siz26 rfl rfl rfl rfl he2) ALe.ptr) ?_
   refine zL (r := f32 e3) rfl rfl rfl (LOp.load1 agg26 rfl rfl) ?_
   refine zA (r := i64 v2) rfl rfl rfl rfl rfl ?_
   refine zA (r := f32 e3) rfl rfl rfl rfl rfl ?_
   refine zN ?_
   obtain ⟨e4, he3, h2_⟩ := obind_some h2_
   obtain ⟨r5, hf4, h2_⟩ := obind_some h2_
   obtain ⟨x6, hx5, h2_⟩ := olet_some h2_
   refine RunC.regionW ?_
   refine zM (r := f32 y1) rfl rfl rfl rfl rfl ?_
   refine zM (r := f32 e3) rfl rfl rfl rfl rfl ?_
   refine zM (r := sl a1.length (a1.map f32)) rfl rfl rfl rfl rfl ?_
   refine zM (r := i64 v2) rfl rfl rfl rfl rfl ?_
   refine zL (r := ptr [f32 e4]) rfl rfl rfl (LOp.le (LOp.ix (f := f32) und23 siz26 rfl rfl rfl rfl he3) ALe.ptr) ?_
   refine zL (r := f32 e4) rfl rfl rfl (LOp.load1 agg26 rfl rfl) ?_
   refine ROps.d (r := f32 r5) (fs := []) (Γ' := []) rfl rfl rfl (TOp.callB (CallAs.func ent92 rfl rfl) (Bors.cons (Bor.pure rfl) (Bors.cons (Bor.pure rfl) Bors.nil)) rfl rfl (i_mul_ok e3 e4 r5 hf4)) rfl ?_
   refine ROps.d (r := f32 x6) (fs := []) (Γ' := []) rfl rfl rfl (TOp.eqr (TOp.fop (.inl rfl) rfl (OpF.tmp rfl) (OpF.tmp rfl)) (congrArg (f .f32) hx5)) rfl ?_
   refine zA (r := f32 x6) rfl rfl rfl rfl rfl ?_
   refine zN ?_
   refine RunC.wl (τ' := [(1, sl a1.length (a1.map f32)), (5, f32 x6), (8, sl a0.length (a0.map f32)), (9, i64 (a0.length : Int)), (10, i64 v2)]) (Γ' := []) ⟨aR, aR, aR, aR, aR, trivial⟩ trivial ?_
   obtain ⟨x7, hx6, h2_⟩ := olet_some h2_
   refine RunC.regionW ?_
   refine zL (r := i64 x7) rfl rfl rfl (LOp.eqr (LOp.add rfl rfl rfl) (congrArg (ik .i64) hx6)) ?_
   refine zM (r := i64 x7) rfl rfl rfl rfl rfl ?_
   refine zN ?_
   cases Option.some.inj h2_
   exact ⟨_, rfl, ⟨aR, aR, aR, aR, aR, trivial⟩, trivial⟩
  ·refine RunC.regionW ?_
   refine zL (r := b false) rfl rfl rfl (LOp.eqb (LOp.lss rfl rfl rfl) hc1) ?_
   refine zN ?_
   refine RunC.seq ?_
   refine RunC.cond_false rfl rfl ?_
   refine RunC.exit ?_
   cases Option.some.inj h2_
   have hx := ho2 _ rfl
   exact ⟨y1, ⟨aR, trivial⟩, trivial, hx⟩
 ·rintro τ3 Γ3 ⟨y8, hw3, hd3, rfl⟩
  refine RunC.wl hw3 hd3 ?_
  replace h : i_dot_k1 y8 = some q0 := h
  unfold i_dot_k1 at h
  refine zQ ?_
  refine zM (r := f32 y8) rfl rfl rfl rfl rfl ?_
  refine zA (r := f32 y8) rfl rfl rfl rfl rfl ?_
  refine zN ?_
  refine RunC.ret ?_
  have hq := Option.some.inj h
  subst q0
  exact bodyQ.pure (.inr rfl) rfl (Res.one rfl (RV.tmp rfl))
noncomputable def i_RootNumber (a0 : F) : Option (F) :=
 olet (fwiden a0) fun (x1 : F) =>
 obind (x_math_Sqrt x1) fun (r2 : F) =>
 obind (fnarrow r2) fun (y3 : F) =>
 some y3
theorem i_RootNumber_ok (a0 : F) (q0 : F) (h : i_RootNumber a0 = some q0) : Ev Try.prog 52 [f32 a0] [] (f32 q0) [] := by
 refine Ev.start Try.func52 rfl rfl 0 (τ := [(0, f32 a0)]) rfl (Γ' := []) rfl (n := 15) rfl (g := 0) rfl (fun _ => rfl) ?_
 unfold i_RootNumber at h
 refine zQ ?_
 refine zL (r := f32 (some 0)) rfl rfl rfl (LOp.le (LOp.assign rfl rfl) (ALe.fl (by kernel_rfl) (by kernel_rfl))) ?_
 refine zN ?_
 refine RunC.seq ?_
 obtain ⟨x1, hx1, h⟩ := olet_some h
 obtain ⟨r2, hf2, h⟩ := obind_some h
 obtain ⟨y3, hy3, h⟩ := obind_some h
 refine RunC.regionW ?_
 refine zM (r := f32 a0) rfl rfl rfl rfl rfl ?_
 refine ROps.d (r := f64 x1) (fs := []) (Γ' := []) rfl rfl rfl (TOp.eqr (TOp.widen (src := 26) (dst := 62) ⟨_, pun26⟩ pun62 rfl (OpF.tmp rfl)) (congrArg (f .f64) hx1)) rfl ?_
 refine ROps.d (r := f64 r2) (fs := []) (Γ' := []) rfl rfl rfl (TOp.callB (CallAs.func ent101 rfl rfl) (Bors.cons (Bor.pure rfl) Bors.nil) rfl rfl (x_math_Sqrt_ok x1 r2 hf2)) rfl ?_
 refine ROps.d (r := f32 y3) (fs := []) (Γ' := []) rfl rfl rfl (TOp.narrow (src := 62) (dst := 26) ⟨_, pun62⟩ pun26 rfl (OpF.tmp rfl) hy3) rfl ?_
 refine zA (r := f32 y3) rfl rfl rfl rfl rfl ?_
 refine zN ?_
 refine RunC.ret ?_
 have hq := Option.some.inj h
 subst q0
 exact bodyQ.pure (.inr rfl) rfl (Res.one rfl (RV.tmp rfl))
noncomputable def i_norm (a0 : List F) : Option (F) :=
 obind (i_dot a0 a0) fun (r1 : F) =>
 obind (i_RootNumber r1) fun (r2 : F) =>
 some r2
theorem i_norm_ok (a0 : List F) (q0 : F) (h : i_norm a0 = some q0) : Ev Try.prog 88 [sl a0.length (a0.map f32)] [] (f32 q0) [] := by
 refine Ev.start Try.func88 rfl rfl 0 (τ := [(0, sl a0.length (a0.map f32))]) rfl (Γ' := []) rfl (n := 15) rfl (g := 0) rfl (fun _ => rfl) ?_
 unfold i_norm at h
 refine zQ ?_
 refine zL (r := f32 (some 0)) rfl rfl rfl (LOp.le (LOp.assign rfl rfl) (ALe.fl (by kernel_rfl) (by kernel_rfl))) ?_
 refine zN ?_
 refine RunC.seq ?_
 obtain ⟨r1, hf1, h⟩ := obind_some h
 obtain ⟨r2, hf2, h⟩ := obind_some h
 refine RunC.regionW ?_
 refine zM (r := sl a0.length (a0.map f32)) rfl rfl rfl rfl rfl ?_
 refine zM (r := sl a0.length (a0.map f32)) rfl rfl rfl rfl rfl ?_
 refine ROps.d (r := f32 r1) (fs := []) (Γ' := []) rfl rfl rfl (TOp.callB (CallAs.func ent87 rfl rfl) (Bors.cons (Bor.sl (fun _ => rfl)) (Bors.cons (Bor.sl (fun _ => rfl)) Bors.nil)) rfl rfl (i_dot_ok a0 a0 r1 hf1)) rfl ?_
 refine ROps.d (r := f32 r2) (fs := []) (Γ' := []) rfl rfl rfl (TOp.callB (CallAs.func ent52 rfl rfl) (Bors.cons (Bor.pure rfl) Bors.nil) rfl rfl (i_RootNumber_ok r1 r2 hf2)) rfl ?_
 refine zA (r := f32 r2) rfl rfl rfl rfl rfl ?_
 refine zN ?_
 refine RunC.ret ?_
 have hq := Option.some.inj h
 subst q0
 exact bodyQ.pure (.inr rfl) rfl (Res.one rfl (RV.tmp rfl))
noncomputable def i_Sparse_times_1_2p0_C0 (a0 : Int) (a1 : F) (a2 : List F) (a3 : F) : Option (F) :=
 obind (at? a2 a0) fun (e1 : F) =>
 obind (i_mul a1 e1) fun (r2 : F) =>
 olet (fop .add .f32 a3 r2) fun (x3 : F) =>
 some x3
theorem i_Sparse_times_1_2p0_C0_ok (a0 : Int) (a1 : F) (a2 : List F) (a3 : F) (q0 : F) (h : i_Sparse_times_1_2p0_C0 a0 a1 a2 a3 = some q0) : Ev Try.prog 124 [i64 a0, f32 a1, optr 0 0 0, ptr [sl a2.length (a2.map f32)]] [⟨0, some [f32 a3]⟩] (tup []) [⟨0, some [f32 q0]⟩] := by
 refine Ev.start Try.func124 rfl rfl 0 (τ := [(0, i64 a0), (1, f32 a1), (2, optr 0 0 0), (3, ptr [sl a2.length (a2.map f32)])]) rfl (Γ' := [⟨0, some [f32 a3]⟩]) rfl (n := 28) rfl (g := 1) rfl (by decide) ?_
 unfold i_Sparse_times_1_2p0_C0 at h
 obtain ⟨e1, he1, h⟩ := obind_some h
 obtain ⟨r2, hf2, h⟩ := obind_some h
 obtain ⟨x3, hx3, h⟩ := olet_some h
 refine RunC.region_draw (Γ' := [⟨0, some [f32 a3]⟩]) 8 mixed 
  (TR.d (r := f32 a3) (fs := []) rfl rfl (TOp.load1_o rfl rfl agg26 rfl rfl) <|
  (TR.l (r := f32 a1) rfl rfl (LOp.move rfl rfl) <|
  (TR.l (r := sl a2.length (a2.map f32)) rfl rfl (LOp.load1 agg23 rfl rfl) <|
  (TR.l (r := i64 a0) rfl rfl (LOp.move rfl rfl) <|
  (TR.l (r := ptr [f32 e1]) rfl rfl (LOp.le (LOp.ix (f := f32) und23 siz26 rfl rfl rfl rfl he1) ALe.ptr) <|
  (TR.l (r := f32 e1) rfl rfl (LOp.load1 agg26 rfl rfl) <|
  (TR.d (r := f32 r2) (fs := []) rfl rfl (TOp.callB (CallAs.func ent92 rfl rfl) (Bors.cons (Bor.pure rfl) (Bors.cons (Bor.pure rfl) Bors.nil)) rfl rfl (i_mul_ok a1 e1 r2 hf2)) <|
  (TR.d (r := f32 x3) (fs := []) rfl rfl (TOp.eqr (TOp.fop (.inl rfl) rfl (OpF.tmp rfl) (OpF.tmp rfl)) (congrArg (f .f32) hx3)) <|
  TR.nil)))))))) rfl (by kernel_rfl) rfl fills_nil rfl ?_
 iterate 8 refine ROps.dropS ?_
 refine ROps.drop0 ?_
 refine ROps.store_le (r := f32 x3) (l' := [f32 x3]) (Γ' := [⟨0, some [f32 x3]⟩]) rfl siz26 rfl rfl rfl aR rfl rfl rfl rfl (Nat.le_of_ble_eq_true rfl) rfl rfl ?_
 refine zN ?_
 have hq := Option.some.inj h
 subst q0
 exact bodyQ.mk (r' := tup []) [(0, 0)] (.inl rfl) rfl (show List.Nodup [0] from by decide) rfl rfl (Res.zero rfl) (SelL.cells rfl (by first | rfl | simp [ren, rens, sigma, rens_f32, rens_f64, rens_i64, rens_ik, rens_str, rens_cp]) rfl trivial)
noncomputable def i_Sparse_each_2Fi_Sparse_times_1_2c0p0_C0_b1 (a1 : List Int) (a2 : List Int) (a3 : List F) (a4 : Int) (a5 : List F) (y2 : F) (v3 : Int) : Option (LR (F × Int) (F) (F)) :=
 olet (IntKind.i64.wrap (a4 + 1)) fun (x4 : Int) =>
 obind (at? a1 x4) fun (e5 : Int) =>
 bsel (decide (v3 < e5)) (
  obind (at? a2 v3) fun (e8 : Int) =>
  obind (at? a3 v3) fun (e9 : F) =>
  obind (i_Sparse_times_1_2p0_C0 e8 e9 a5 y2) fun (r10 : F) =>
  olet (IntKind.i64.wrap (v3 + 1)) fun (x11 : Int) =>
  some (LR.next (r10, x11))) (
  some (LR.out y2))
noncomputable def i_Sparse_each_2Fi_Sparse_times_1_2c0p0_C0_s1 (a1 : List Int) (a2 : List Int) (a3 : List F) (a4 : Int) (a5 : List F) : (F × Int) → Option (LR (F × Int) (F) (F)) := fun s => i_Sparse_each_2Fi_Sparse_times_1_2c0p0_C0_b1 a1 a2 a3 a4 a5 s.1 s.2
noncomputable def i_Sparse_each_2Fi_Sparse_times_1_2c0p0_C0_k1 (y12 : F) : Option (F) :=
 some y12
noncomputable def i_Sparse_each_2Fi_Sparse_times_1_2c0p0_C0 (a0 : Int) (a1 : List Int) (a2 : List Int) (a3 : List F) (a4 : Int) (a5 : List F) (a6 : F) : Option (F) :=
 obind (at? a1 a4) fun (e1 : Int) =>
 obind (loopM (i_Sparse_each_2Fi_Sparse_times_1_2c0p0_C0_s1 a1 a2 a3 a4 a5) (a6, e1)) fun z => osum z (fun e => i_Sparse_each_2Fi_Sparse_times_1_2c0p0_C0_k1 e) (fun r => some r)
theorem i_Sparse_each_2Fi_Sparse_times_1_2c0p0_C0_ok (a0 : Int) (a1 : List Int) (a2 : List Int) (a3 : List F) (a4 : Int) (a5 : List F) (a6 : F) (q0 : F) (h : i_Sparse_each_2Fi_Sparse_times_1_2c0p0_C0 a0 a1 a2 a3 a4 a5 a6 = some q0) : Ev Try.prog 95 [agg [i64 a0, sl a1.length (a1.map i64), sl a2.length (a2.map i64), sl a3.length (a3.map f32)], i64 a4, fn (.func 124) [] [optr 0 0 0, ptr [sl a5.length (a5.map f32)]]] [⟨0, some [f32 a6]⟩] (tup []) [⟨0, some [f32 q0]⟩] := by
 refine Ev.start Try.func95 rfl rfl 0 (τ := [(0, agg [i64 a0, sl a1.length (a1.map i64), sl a2.length (a2.map i64), sl a3.length (a3.map f32)]), (1, i64 a4), (2, fn (.func 124) [] [optr 0 0 0, ptr [sl a5.length (a5.map f32)]])]) rfl (Γ' := [⟨0, some [f32 a6]⟩]) rfl (n := 68) rfl (g := 1) rfl (by decide) ?_
 unfold i_Sparse_each_2Fi_Sparse_times_1_2c0p0_C0 at h
 refine zQ ?_
 refine ROps.d (r := ptr [i64 a0, sl a1.length (a1.map i64), sl a2.length (a2.map i64), sl a3.length (a3.map f32)]) (fs := []) (Γ' := [⟨0, some [f32 a6]⟩]) rfl rfl rfl (TOp.box_s rfl rfl rfl) rfl ?_
 refine zN ?_
 refine RunC.seq ?_
 obtain ⟨e1, he1, h⟩ := obind_some h
 refine RunC.regionW ?_
 refine zL (r := ptr [sl a1.length (a1.map i64), sl a2.length (a2.map i64), sl a3.length (a3.map f32)]) rfl rfl rfl (LOp.fap und30 rfl siz22 rfl rfl rfl) ?_
 refine zL (r := sl a1.length (a1.map i64)) rfl rfl rfl (LOp.load1 agg22 rfl rfl) ?_
 refine zM (r := i64 a4) rfl rfl rfl rfl rfl ?_
 refine zL (r := ptr [i64 e1]) rfl rfl rfl (LOp.le (LOp.ix (f := i64) und22 siz2 rfl rfl rfl rfl he1) ALe.ptr) ?_
 refine zL (r := i64 e1) rfl rfl rfl (LOp.load1 agg2 rfl rfl) ?_
 refine zA (r := i64 e1) rfl rfl rfl rfl rfl ?_
 refine zN ?_
 obtain ⟨z2, hz_2, h⟩ := obind_some h
 refine RunC.cutN (fun τ Γ => ∃ (y12 : F), WeakLe τ [] ∧ DeadLe Γ [⟨0, some [f32 y12]⟩] ∧ z2 = .inl y12) ?_ ?_
 ·refine RunC.block (RunC.loop (RunL.loopM (x := z2) (i_Sparse_each_2Fi_Sparse_times_1_2c0p0_C0_s1 a1 a2 a3 a4 a5) (fun (s : F × Int) τ Γ => WeakLe τ [(1, i64 a4), (2, fn (.func 124) [] [optr 0 0 0, ptr [sl a5.length (a5.map f32)]]), (3, ptr [i64 a0, sl a1.length (a1.map i64), sl a2.length (a2.map i64), sl a3.length (a3.map f32)]), (6, i64 s.2)] ∧ DeadLe Γ [⟨0, some [f32 s.1]⟩]) ?_ _ _ _ hz_2 ⟨⟨aR, aR, aR, aR, trivial⟩, ⟨⟨rfl, .inr rfl⟩, trivial⟩⟩))
  rintro ⟨y2, v3⟩ τ2 Γ2 y2_ ⟨hw2, hd2⟩ h2_ ho2 hr2
  refine RunC.wl (τ' := [(1, i64 a4), (2, fn (.func 124) [] [optr 0 0 0, ptr [sl a5.length (a5.map f32)]]), (3, ptr [i64 a0, sl a1.length (a1.map i64), sl a2.length (a2.map i64), sl a3.length (a3.map f32)]), (6, i64 v3)]) (Γ' := [⟨0, some [f32 y2]⟩]) hw2 hd2 ?_
  replace h2_ : i_Sparse_each_2Fi_Sparse_times_1_2c0p0_C0_b1 a1 a2 a3 a4 a5 y2 v3 = some y2_ := h2_
  unfold i_Sparse_each_2Fi_Sparse_times_1_2c0p0_C0_b1 at h2_
  refine RunC.seq ?_
  refine RunC.seq ?_
  obtain ⟨x4, hx2, h2_⟩ := olet_some h2_
  obtain ⟨e5, he3, h2_⟩ := obind_some h2_
  rcases bsel_some h2_ with ⟨hc4, h2_⟩ | ⟨hc4, h2_⟩
  ·refine RunC.regionW ?_
   refine zM (r := i64 v3) rfl rfl rfl rfl rfl ?_
   refine zL (r := ptr [sl a1.length (a1.map i64), sl a2.length (a2.map i64), sl a3.length (a3.map f32)]) rfl rfl rfl (LOp.fap und30 rfl siz22 rfl rfl rfl) ?_
   refine zL (r := sl a1.length (a1.map i64)) rfl rfl rfl (LOp.load1 agg22 rfl rfl) ?_
   refine zM (r := i64 a4) rfl rfl rfl rfl rfl ?_
   refine zL (r := i64 x4) rfl rfl rfl (LOp.eqr (LOp.add rfl rfl rfl) (congrArg (ik .i64) hx2)) ?_
   refine zL (r := ptr [i64 e5]) rfl rfl rfl (LOp.le (LOp.ix (f := i64) und22 siz2 rfl rfl rfl rfl he3) ALe.ptr) ?_
   refine zL (r := i64 e5) rfl rfl rfl (LOp.load1 agg2 rfl rfl) ?_
   refine zL (r := b true) rfl rfl rfl (LOp.eqb (LOp.lss rfl rfl rfl) hc4) ?_
   refine zN ?_
   refine RunC.cond_true rfl rfl ?_
   refine RunC.skip ?_
   refine RunC.seq ?_
   refine RunC.block ?_
   obtain ⟨e8, he7, h2_⟩ := obind_some h2_
   obtain ⟨e9, he8, h2_⟩ := obind_some h2_
   obtain ⟨r10, hf9, h2_⟩ := obind_some h2_
   refine RunC.region_draw (Γ' := [⟨0, some [f32 y2]⟩]) 11 mixed 
    (TR.l (r := fn (.func 124) [] [optr 0 0 0, ptr [sl a5.length (a5.map f32)]]) rfl rfl (LOp.move rfl rfl) <|
    (TR.l (r := ptr [sl a2.length (a2.map i64), sl a3.length (a3.map f32)]) rfl rfl (LOp.fap und30 rfl siz22 rfl rfl rfl) <|
    (TR.l (r := sl a2.length (a2.map i64)) rfl rfl (LOp.load1 agg22 rfl rfl) <|
    (TR.l (r := i64 v3) rfl rfl (LOp.move rfl rfl) <|
    (TR.l (r := ptr [i64 e8]) rfl rfl (LOp.le (LOp.ix (f := i64) und22 siz2 rfl rfl rfl rfl he7) ALe.ptr) <|
    (TR.l (r := i64 e8) rfl rfl (LOp.load1 agg2 rfl rfl) <|
    (TR.l (r := ptr [sl a3.length (a3.map f32)]) rfl rfl (LOp.fap und30 rfl siz23 rfl rfl rfl) <|
    (TR.l (r := sl a3.length (a3.map f32)) rfl rfl (LOp.load1 agg23 rfl rfl) <|
    (TR.l (r := i64 v3) rfl rfl (LOp.move rfl rfl) <|
    (TR.l (r := ptr [f32 e9]) rfl rfl (LOp.le (LOp.ix (f := f32) und23 siz26 rfl rfl rfl rfl he8) ALe.ptr) <|
    (TR.l (r := f32 e9) rfl rfl (LOp.load1 agg26 rfl rfl) <|
    TR.nil))))))))))) rfl (by kernel_rfl) rfl fills_nil rfl ?_
   iterate 11 refine ROps.dropS ?_
   refine ROps.drop0 ?_
   refine ROps.callO (A := [i64 e8, f32 e9, optr 0 0 0, ptr [sl a5.length (a5.map f32)]]) (args := [i64 e8, f32 e9, optr 0 0 0, ptr [sl a5.length (a5.map f32)]]) (Γc := [⟨0, some [f32 y2]⟩]) (Γc' := [⟨0, some [f32 r10]⟩]) (r' := tup []) (Γ' := [⟨0, some [f32 r10]⟩]) [(0, 0)] [] rfl (CallAs.fn ent124 rfl rfl rfl rfl) rfl rfl (SelOk.of (show List.Nodup [0] from by decide) (SelL.cells0 rfl (by simp [ren, rens, sigma, rens_f32, rens_f64, rens_i64, rens_ik, rens_str, rens_cp]) rfl trivial)) (live_of ⟨⟨_, _, rfl⟩, trivial⟩) (by simp [ren, rens, sigma, rens_f32, rens_f64, rens_i64, rens_ik, rens_str, rens_cp]) (lts_cons rfl (lts_cons rfl (lts_cons rfl (lts_cons (lt_ptr (lts_cons (lt_slk (fun _ => rfl)) lts_nil)) lts_nil)))) (i_Sparse_times_1_2p0_C0_ok e8 e9 a5 y2 r10 hf9) rfl (news_of trivial) (show List.Nodup [0] from by decide) (by simp [ren, rens, sigma]) (by simp [backOb, sigma, ren, rens, rens_f32, rens_f64, rens_i64, rens_ik, rens_str, rens_cp]) ?_
   refine zN ?_
   refine RunC.wl (τ' := [(1, i64 a4), (2, fn (.func 124) [] [optr 0 0 0, ptr [sl a5.length (a5.map f32)]]), (3, ptr [i64 a0, sl a1.length (a1.map i64), sl a2.length (a2.map i64), sl a3.length (a3.map f32)]), (6, i64 v3)]) (Γ' := [⟨0, some [f32 r10]⟩]) ⟨aR, aR, aR, aR, trivial⟩ ⟨⟨rfl, .inr rfl⟩, trivial⟩ ?_
   obtain ⟨x11, hx10, h2_⟩ := olet_some h2_
   refine RunC.regionW ?_
   refine zM (r := i64 v3) rfl rfl rfl rfl rfl ?_
   refine zL (r := i64 x11) rfl rfl rfl (LOp.eqr (LOp.add rfl rfl rfl) (congrArg (ik .i64) hx10)) ?_
   refine zA (r := i64 x11) rfl rfl rfl rfl rfl ?_
   refine zN ?_
   cases Option.some.inj h2_
   exact ⟨_, rfl, ⟨aR, aR, aR, aR, trivial⟩, ⟨⟨rfl, .inr rfl⟩, trivial⟩⟩
  ·refine RunC.regionW ?_
   refine zM (r := i64 v3) rfl rfl rfl rfl rfl ?_
   refine zL (r := ptr [sl a1.length (a1.map i64), sl a2.length (a2.map i64), sl a3.length (a3.map f32)]) rfl rfl rfl (LOp.fap und30 rfl siz22 rfl rfl rfl) ?_
   refine zL (r := sl a1.length (a1.map i64)) rfl rfl rfl (LOp.load1 agg22 rfl rfl) ?_
   refine zM (r := i64 a4) rfl rfl rfl rfl rfl ?_
   refine zL (r := i64 x4) rfl rfl rfl (LOp.eqr (LOp.add rfl rfl rfl) (congrArg (ik .i64) hx2)) ?_
   refine zL (r := ptr [i64 e5]) rfl rfl rfl (LOp.le (LOp.ix (f := i64) und22 siz2 rfl rfl rfl rfl he3) ALe.ptr) ?_
   refine zL (r := i64 e5) rfl rfl rfl (LOp.load1 agg2 rfl rfl) ?_
   refine zL (r := b false) rfl rfl rfl (LOp.eqb (LOp.lss rfl rfl rfl) hc4) ?_
   refine zN ?_
   refine RunC.cond_false rfl rfl ?_
   refine RunC.exit ?_
   cases Option.some.inj h2_
   have hx := ho2 _ rfl
   exact ⟨y2, trivial, ⟨⟨rfl, .inr rfl⟩, trivial⟩, hx⟩
 ·rintro τ3 Γ3 ⟨y12, hw3, hd3, rfl⟩
  replace h : i_Sparse_each_2Fi_Sparse_times_1_2c0p0_C0_k1 y12 = some q0 := h
  unfold i_Sparse_each_2Fi_Sparse_times_1_2c0p0_C0_k1 at h
  refine bodyQ.wl hw3 hd3 ?_
  have hq := Option.some.inj h
  subst q0
  exact bodyQ.mk (r' := tup []) [(0, 0)] (.inl rfl) rfl (show List.Nodup [0] from by decide) rfl rfl (Res.zero rfl) (SelL.cells rfl (by first | rfl | simp [ren, rens, sigma, rens_f32, rens_f64, rens_i64, rens_ik, rens_str, rens_cp]) rfl trivial)
noncomputable def i_Sparse_times_b1 (a0 : Int) (a1 : List Int) (a2 : List Int) (a3 : List F) (a4 : List F) (L4 : List F) (v5 : Int) : Option (LR ((List F) × Int) ((List F)) ((List F))) :=
 bsel (decide (v5 < a0)) (
  obind (i_Sparse_each_2Fi_Sparse_times_1_2c0p0_C0 a0 a1 a2 a3 v5 a4 (some 0)) fun (r6 : F) =>
  need (apok 4 L4.length 1) <|
  olet (IntKind.i64.wrap (v5 + 1)) fun (x7 : Int) =>
  some (LR.next ((L4 ++ ([r6] : List F)), x7))) (
  some (LR.out L4))
noncomputable def i_Sparse_times_s1 (a0 : Int) (a1 : List Int) (a2 : List Int) (a3 : List F) (a4 : List F) : ((List F) × Int) → Option (LR ((List F) × Int) ((List F)) ((List F))) := fun s => i_Sparse_times_b1 a0 a1 a2 a3 a4 s.1 s.2
noncomputable def i_Sparse_times_k1 (L11 : List F) : Option ((List F)) :=
 some L11
noncomputable def i_Sparse_times (a0 : Int) (a1 : List Int) (a2 : List Int) (a3 : List F) (a4 : List F) : Option ((List F)) :=
 obind (loopM (i_Sparse_times_s1 a0 a1 a2 a3 a4) (([] : List F), 0)) fun z => osum z (fun e => i_Sparse_times_k1 e) (fun r => some r)
theorem i_Sparse_times_ok (a0 : Int) (a1 : List Int) (a2 : List Int) (a3 : List F) (a4 : List F) (q0 : List F) (h : i_Sparse_times a0 a1 a2 a3 a4 = some q0) : Ev Try.prog 89 [agg [i64 a0, sl a1.length (a1.map i64), sl a2.length (a2.map i64), sl a3.length (a3.map f32)], sl a4.length (a4.map f32)] [] (oref 0 0 0 q0.length) [⟨0, some (q0.map f32)⟩] := by
 refine Ev.start Try.func89 rfl rfl 3 (τ := [(0, agg [i64 a0, sl a1.length (a1.map i64), sl a2.length (a2.map i64), sl a3.length (a3.map f32)]), (1, sl a4.length (a4.map f32))]) rfl (Γ' := [⟨0, none⟩, ⟨0, none⟩, ⟨0, none⟩]) rfl (n := 49) rfl (g := 0) rfl (fun _ => rfl) ?_
 unfold i_Sparse_times at h
 refine zQ ?_
 refine ROps.d (r := ptr [i64 a0, sl a1.length (a1.map i64), sl a2.length (a2.map i64), sl a3.length (a3.map f32)]) (fs := []) (Γ' := [⟨0, none⟩, ⟨0, none⟩, ⟨0, none⟩]) rfl rfl rfl (TOp.box_s rfl rfl rfl) rfl ?_
 refine ROps.d (r := ptr [sl a4.length (a4.map f32)]) (fs := []) (Γ' := [⟨0, none⟩, ⟨0, none⟩, ⟨0, none⟩]) rfl rfl rfl (TOp.box_s rfl rfl rfl) rfl ?_
 refine zA (r := nilsl) rfl rfl rfl rfl rfl ?_
 refine zN ?_
 refine zQ ?_
 refine ROps.d (r := oref 0 1 0 0) (fs := [(0, (([] : List F).map f32))]) (Γ' := [⟨1, some (([] : List F).map f32)⟩, ⟨0, none⟩, ⟨0, none⟩]) rfl rfl rfl (TOp.buildSlice_o (g := ⟨0, none⟩) (za := f32 (some 0)) (qs := []) 0 rfl und23 siz26 zer26 rfl zel26 rfl rfl trivial rfl) rfl ?_
 refine zA (r := oref 0 1 0 0) rfl rfl rfl rfl rfl ?_
 refine zN ?_
 refine RunC.seq ?_
 refine zQ ?_
 refine zL (r := ptr [i64 a0, sl a1.length (a1.map i64), sl a2.length (a2.map i64), sl a3.length (a3.map f32)]) rfl rfl rfl (LOp.fap und30 rfl siz2 rfl rfl rfl) ?_
 refine zL (r := i64 a0) rfl rfl rfl (LOp.load1 agg2 rfl rfl) ?_
 refine zM (r := i64 0) rfl rfl rfl rfl rfl ?_
 refine zN ?_
 obtain ⟨z2, hz_2, h⟩ := obind_some h
 refine RunC.cutN (fun τ Γ => ∃ (L11 : List F) (u8 : Nat) (u9 : Nat) (u10 : Nat), WeakLe τ [(5, oref 0 u8 0 L11.length)] ∧ DeadLe Γ [⟨u8, some (L11.map f32)⟩, ⟨u9, none⟩, ⟨u10, none⟩] ∧ z2 = .inl L11) ?_ ?_
 ·refine RunC.block (RunC.loop (RunL.loopM (x := z2) (i_Sparse_times_s1 a0 a1 a2 a3 a4) (fun (s : (List F) × Int) τ Γ => ∃ (u1 : Nat) (u2 : Nat) (u3 : Nat), WeakLe τ [(2, ptr [i64 a0, sl a1.length (a1.map i64), sl a2.length (a2.map i64), sl a3.length (a3.map f32)]), (3, ptr [sl a4.length (a4.map f32)]), (5, oref 0 u1 0 s.1.length), (10, i64 a0), (11, i64 s.2)] ∧ DeadLe Γ [⟨u1, some (s.1.map f32)⟩, ⟨u2, none⟩, ⟨u3, none⟩]) ?_ _ _ _ hz_2 ⟨1, 0, 0, ⟨aR, aR, aR, aR, aR, trivial⟩, ⟨⟨rfl, .inr rfl⟩, ⟨rfl, .inl rfl⟩, ⟨rfl, .inl rfl⟩, trivial⟩⟩))
  rintro ⟨L4, v5⟩ τ2 Γ2 y2_ ⟨u1, u2, u3, hw2, hd2⟩ h2_ ho2 hr2
  refine RunC.wl (τ' := [(2, ptr [i64 a0, sl a1.length (a1.map i64), sl a2.length (a2.map i64), sl a3.length (a3.map f32)]), (3, ptr [sl a4.length (a4.map f32)]), (5, oref 0 u1 0 L4.length), (10, i64 a0), (11, i64 v5)]) (Γ' := [⟨u1, some (L4.map f32)⟩, ⟨u2, none⟩, ⟨u3, none⟩]) hw2 hd2 ?_
  replace h2_ : i_Sparse_times_b1 a0 a1 a2 a3 a4 L4 v5 = some y2_ := h2_
  unfold i_Sparse_times_b1 at h2_
  refine RunC.seq ?_
  rcases bsel_some h2_ with ⟨hc1, h2_⟩ | ⟨hc1, h2_⟩
  ·refine RunC.regionW ?_
   refine zL (r := b true) rfl rfl rfl (LOp.eqb (LOp.lss rfl rfl rfl) hc1) ?_
   refine zN ?_
   refine RunC.seq ?_
   refine RunC.cond_true rfl rfl ?_
   refine RunC.skip ?_
   refine RunC.seq ?_
   refine RunC.block ?_
   refine zQ ?_
   refine zM (r := i64 v5) rfl rfl rfl rfl rfl ?_
   refine zA (r := i64 v5) rfl rfl rfl rfl rfl ?_
   refine zN ?_
   refine zQ ?_
   refine ROps.d (r := optr 1 (u2 + 1) 0) (fs := [(1, [f32 (some 0)])]) (Γ' := [⟨u1, some (L4.map f32)⟩, ⟨(u2 + 1), some [f32 (some 0)]⟩, ⟨u3, none⟩]) rfl rfl rfl (TOp.alloc_o (g := ⟨u2, none⟩) 1 rfl zer26 zok26 rfl) rfl ?_
   refine ROps.store_le (r := f32 (some 0)) (l' := [f32 (some 0)]) (Γ' := [⟨u1, some (L4.map f32)⟩, ⟨(u2 + 1), some [f32 (some 0)]⟩, ⟨u3, none⟩]) rfl siz26 rfl rfl rfl (ALe.fl (by kernel_rfl) (by kernel_rfl)) rfl rfl rfl rfl (Nat.le_of_ble_eq_true rfl) rfl rfl ?_
   refine zN ?_
   refine RunC.seq ?_
   obtain ⟨r6, hf2, h2_⟩ := obind_some h2_
   refine RunC.regionW ?_
   refine zL (r := agg [i64 a0, sl a1.length (a1.map i64), sl a2.length (a2.map i64), sl a3.length (a3.map f32)]) rfl rfl rfl (LOp.loadAgg agg30 siz30 rfl rfl rfl rfl) ?_
   refine zM (r := i64 v5) rfl rfl rfl rfl rfl ?_
   refine zL (r := fn (.func 124) [] [optr 1 (u2 + 1) 0, ptr [sl a4.length (a4.map f32)]]) rfl rfl rfl (LOp.makeFunc rfl rfl) ?_
   refine ROps.callO (A := [agg [i64 a0, sl a1.length (a1.map i64), sl a2.length (a2.map i64), sl a3.length (a3.map f32)], i64 v5, fn (.func 124) [] [optr 1 (u2 + 1) 0, ptr [sl a4.length (a4.map f32)]]]) (args := [agg [i64 a0, sl a1.length (a1.map i64), sl a2.length (a2.map i64), sl a3.length (a3.map f32)], i64 v5, fn (.func 124) [] [optr 0 0 0, ptr [sl a4.length (a4.map f32)]]]) (Γc := [⟨0, some [f32 (some 0)]⟩]) (Γc' := [⟨0, some [f32 r6]⟩]) (r' := tup []) (Γ' := [⟨u1, some (L4.map f32)⟩, ⟨(u2 + 1), some [f32 r6]⟩, ⟨u3, none⟩]) [(1, (u2 + 1))] [] rfl (CallAs.func ent95 rfl rfl) rfl rfl (SelOk.of (show List.Nodup [1] from by decide) (SelL.cells0 rfl (by simp [ren, rens, sigma, rens_f32, rens_f64, rens_i64, rens_ik, rens_str, rens_cp]) rfl trivial)) (live_of ⟨⟨_, _, rfl⟩, trivial⟩) (by simp [ren, rens, sigma, rens_f32, rens_f64, rens_i64, rens_ik, rens_str, rens_cp]) (lts_cons (lt_agg (lts_cons rfl (lts_cons (lt_slk (fun _ => rfl)) (lts_cons (lt_slk (fun _ => rfl)) (lts_cons (lt_slk (fun _ => rfl)) lts_nil))))) (lts_cons rfl (lts_cons (lt_fn rfl (lts_cons rfl (lts_cons (lt_ptr (lts_cons (lt_slk (fun _ => rfl)) lts_nil)) lts_nil))) lts_nil))) (i_Sparse_each_2Fi_Sparse_times_1_2c0p0_C0_ok a0 a1 a2 a3 v5 a4 (some 0) r6 hf2) rfl (news_of trivial) (show List.Nodup [1] from by decide) (by simp [ren, rens, sigma]) (by simp [backOb, sigma, ren, rens, rens_f32, rens_f64, rens_i64, rens_ik, rens_str, rens_cp]) ?_
   refine zN ?_
   obtain ⟨hm3, h2_⟩ := need_some h2_
   refine RunC.regionW ?_
   refine zM (r := oref 0 u1 0 L4.length) rfl rfl rfl rfl rfl ?_
   refine ROps.d (r := f32 r6) (fs := []) (Γ' := [⟨u1, some (L4.map f32)⟩, ⟨(u2 + 1), some [f32 r6]⟩, ⟨u3, none⟩]) rfl rfl rfl (TOp.load1_o rfl rfl agg26 rfl rfl) rfl ?_
   refine ROps.d (r := oref 2 (u3 + 1) 0 1) (fs := [(2, (([r6] : List F).map f32))]) (Γ' := [⟨u1, some (L4.map f32)⟩, ⟨(u2 + 1), some [f32 r6]⟩, ⟨(u3 + 1), some (([r6] : List F).map f32)⟩]) rfl rfl rfl (TOp.buildSlice_o (g := ⟨u3, none⟩) (za := f32 (some 0)) (qs := [(0, [f32 r6])]) 2 rfl und23 siz26 zer26 rfl zel26 rfl rfl ⟨rfl, ⟨_, ALe.refl _, rfl⟩, trivial⟩ rfl) rfl ?_
   refine ROps.app (f := f32) (xs := L4) (ys := ([r6] : List F)) (Γ' := [⟨(u1 + 1), some ((L4 ++ ([r6] : List F)).map f32)⟩, ⟨(u2 + 1), some [f32 r6]⟩, ⟨(u3 + 1), some (([r6] : List F).map f32)⟩]) rfl pun23 inf26 rfl rfl rfl rfl rfl rfl rfl rfl rfl (by simp) (ReadAs.own rfl (by simp)) (ones_map (fun _ => rfl)) (ap_by hm3) (ap_mx hm3) rfl ?_
   refine zA (r := oref 0 (u1 + 1) 0 (L4.length + 1)) rfl rfl rfl rfl rfl ?_
   refine zN ?_
   refine RunC.wl (τ' := [(2, ptr [i64 a0, sl a1.length (a1.map i64), sl a2.length (a2.map i64), sl a3.length (a3.map f32)]), (3, ptr [sl a4.length (a4.map f32)]), (5, oref 0 (u1 + 1) 0 (L4.length + 1)), (10, i64 a0), (11, i64 v5)]) (Γ' := [⟨(u1 + 1), some ((L4 ++ ([r6] : List F)).map f32)⟩, ⟨(u2 + 1), none⟩, ⟨(u3 + 1), none⟩]) ⟨aR, aR, aR, aR, aR, trivial⟩ ⟨⟨rfl, .inr rfl⟩, ⟨rfl, .inl rfl⟩, ⟨rfl, .inl rfl⟩, trivial⟩ ?_
   obtain ⟨x7, hx4, h2_⟩ := olet_some h2_
   refine RunC.regionW ?_
   refine zL (r := i64 x7) rfl rfl rfl (LOp.eqr (LOp.add rfl rfl rfl) (congrArg (ik .i64) hx4)) ?_
   refine zM (r := i64 x7) rfl rfl rfl rfl rfl ?_
   refine zN ?_
   cases Option.some.inj h2_
   exact ⟨_, rfl, (u1 + 1), (u2 + 1), (u3 + 1), ⟨aR, aR, (ALe.eq (by rw [(app_len rfl rfl)] <;> rfl)), aR, aR, trivial⟩, ⟨⟨rfl, .inr rfl⟩, ⟨rfl, .inl rfl⟩, ⟨rfl, .inl rfl⟩, trivial⟩⟩
  ·refine RunC.regionW ?_
   refine zL (r := b false) rfl rfl rfl (LOp.eqb (LOp.lss rfl rfl rfl) hc1) ?_
   refine zN ?_
   refine RunC.seq ?_
   refine RunC.cond_false rfl rfl ?_
   refine RunC.exit ?_
   cases Option.some.inj h2_
   have hx := ho2 _ rfl
   exact ⟨L4, u1, u2, u3, ⟨aR, trivial⟩, ⟨⟨rfl, .inr rfl⟩, ⟨rfl, .inl rfl⟩, ⟨rfl, .inl rfl⟩, trivial⟩, hx⟩
 ·rintro τ3 Γ3 ⟨L11, u8, u9, u10, hw3, hd3, rfl⟩
  refine RunC.wl hw3 hd3 ?_
  replace h : i_Sparse_times_k1 L11 = some q0 := h
  unfold i_Sparse_times_k1 at h
  refine zQ ?_
  refine zM (r := oref 0 u8 0 L11.length) rfl rfl rfl rfl rfl ?_
  refine zA (r := oref 0 u8 0 L11.length) rfl rfl rfl rfl rfl ?_
  refine zN ?_
  refine RunC.ret ?_
  have hq := Option.some.inj h
  subst q0
  exact bodyQ.mk (r' := oref 0 u8 0 L11.length) [(0, u8)] (.inr rfl) rfl (show List.Nodup [0] from by decide) (by simp [ren, rens, sigma]) rfl (Res.one rfl (RV.tmp rfl)) (SelL.arr0 (f := f32) (fun _ => rfl) rfl trivial)
noncomputable def i_plusTimes_b1 (a0 : List F) (a1 : F) (a2 : List F) (L3 : List F) (v4 : Int) : Option (LR ((List F) × Int) ((List F)) ((List F))) :=
 bsel (decide (v4 < (a0.length : Int))) (
  obind (at? a0 v4) fun (e5 : F) =>
  obind (at? a2 v4) fun (e6 : F) =>
  obind (i_mul a1 e6) fun (r7 : F) =>
  olet (fop .add .f32 e5 r7) fun (x8 : F) =>
  need (apok 4 L3.length 1) <|
  olet (IntKind.i64.wrap (v4 + 1)) fun (x9 : Int) =>
  some (LR.next ((L3 ++ ([x8] : List F)), x9))) (
  some (LR.out L3))
noncomputable def i_plusTimes_s1 (a0 : List F) (a1 : F) (a2 : List F) : ((List F) × Int) → Option (LR ((List F) × Int) ((List F)) ((List F))) := fun s => i_plusTimes_b1 a0 a1 a2 s.1 s.2
noncomputable def i_plusTimes_k1 (L12 : List F) : Option ((List F)) :=
 some L12
noncomputable def i_plusTimes (a0 : List F) (a1 : F) (a2 : List F) : Option ((List F)) :=
 obind (loopM (i_plusTimes_s1 a0 a1 a2) (([] : List F), 0)) fun z => osum z (fun e => i_plusTimes_k1 e) (fun r => some r)
theorem i_plusTimes_ok (a0 : List F) (a1 : F) (a2 : List F) (q0 : List F) (h : i_plusTimes a0 a1 a2 = some q0) : Ev Try.prog 91 [sl a0.length (a0.map f32), f32 a1, sl a2.length (a2.map f32)] [] (oref 0 0 0 q0.length) [⟨0, some (q0.map f32)⟩] := by
 refine Ev.start Try.func91 rfl rfl 2 (τ := [(0, sl a0.length (a0.map f32)), (1, f32 a1), (2, sl a2.length (a2.map f32))]) rfl (Γ' := [⟨0, none⟩, ⟨0, none⟩]) rfl (n := 63) rfl (g := 0) rfl (fun _ => rfl) ?_
 unfold i_plusTimes at h
 refine zQ ?_
 refine zA (r := nilsl) rfl rfl rfl rfl rfl ?_
 refine zN ?_
 refine zQ ?_
 refine ROps.d (r := oref 0 1 0 0) (fs := [(0, (([] : List F).map f32))]) (Γ' := [⟨1, some (([] : List F).map f32)⟩, ⟨0, none⟩]) rfl rfl rfl (TOp.buildSlice_o (g := ⟨0, none⟩) (za := f32 (some 0)) (qs := []) 0 rfl und23 siz26 zer26 rfl zel26 rfl rfl trivial rfl) rfl ?_
 refine zA (r := oref 0 1 0 0) rfl rfl rfl rfl rfl ?_
 refine zN ?_
 refine RunC.seq ?_
 refine zQ ?_
 refine zM (r := sl a0.length (a0.map f32)) rfl rfl rfl rfl rfl ?_
 refine zL (r := i64 (a0.length : Int)) rfl rfl rfl (LOp.len_sl und23 rfl rfl) ?_
 refine zM (r := i64 0) rfl rfl rfl rfl rfl ?_
 refine zN ?_
 obtain ⟨z2, hz_2, h⟩ := obind_some h
 refine RunC.cutN (fun τ Γ => ∃ (L12 : List F) (u10 : Nat) (u11 : Nat), WeakLe τ [(7, oref 0 u10 0 L12.length)] ∧ DeadLe Γ [⟨u10, some (L12.map f32)⟩, ⟨u11, none⟩] ∧ z2 = .inl L12) ?_ ?_
 ·refine RunC.block (RunC.loop (RunL.loopM (x := z2) (i_plusTimes_s1 a0 a1 a2) (fun (s : (List F) × Int) τ Γ => ∃ (u1 : Nat) (u2 : Nat), WeakLe τ [(1, f32 a1), (2, sl a2.length (a2.map f32)), (7, oref 0 u1 0 s.1.length), (11, sl a0.length (a0.map f32)), (12, i64 (a0.length : Int)), (13, i64 s.2)] ∧ DeadLe Γ [⟨u1, some (s.1.map f32)⟩, ⟨u2, none⟩]) ?_ _ _ _ hz_2 ⟨1, 0, ⟨aR, aR, aR, aR, aR, aR, trivial⟩, ⟨⟨rfl, .inr rfl⟩, ⟨rfl, .inl rfl⟩, trivial⟩⟩))
  rintro ⟨L3, v4⟩ τ2 Γ2 y2_ ⟨u1, u2, hw2, hd2⟩ h2_ ho2 hr2
  refine RunC.wl (τ' := [(1, f32 a1), (2, sl a2.length (a2.map f32)), (7, oref 0 u1 0 L3.length), (11, sl a0.length (a0.map f32)), (12, i64 (a0.length : Int)), (13, i64 v4)]) (Γ' := [⟨u1, some (L3.map f32)⟩, ⟨u2, none⟩]) hw2 hd2 ?_
  replace h2_ : i_plusTimes_b1 a0 a1 a2 L3 v4 = some y2_ := h2_
  unfold i_plusTimes_b1 at h2_
  refine RunC.seq ?_
  rcases bsel_some h2_ with ⟨hc1, h2_⟩ | ⟨hc1, h2_⟩
  ·refine RunC.regionW ?_
   refine zL (r := b true) rfl rfl rfl (LOp.eqb (LOp.lss rfl rfl rfl) hc1) ?_
   refine zN ?_
   refine RunC.seq ?_
   refine RunC.cond_true rfl rfl ?_
   refine RunC.skip ?_
   refine RunC.seq ?_
   refine RunC.block ?_
   refine RunC.seq ?_
   obtain ⟨e5, he2, h2_⟩ := obind_some h2_
   refine RunC.regionW ?_
   refine zM (r := i64 v4) rfl rfl rfl rfl rfl ?_
   refine zL (r := ptr [f32 e5]) rfl rfl rfl (LOp.le (LOp.ix (f := f32) und23 siz26 rfl rfl rfl rfl he2) ALe.ptr) ?_
   refine zL (r := f32 e5) rfl rfl rfl (LOp.load1 agg26 rfl rfl) ?_
   refine zA (r := i64 v4) rfl rfl rfl rfl rfl ?_
   refine zA (r := f32 e5) rfl rfl rfl rfl rfl ?_
   refine zN ?_
   obtain ⟨e6, he3, h2_⟩ := obind_some h2_
   obtain ⟨r7, hf4, h2_⟩ := obind_some h2_
   obtain ⟨x8, hx5, h2_⟩ := olet_some h2_
   obtain ⟨hm6, h2_⟩ := need_some h2_
   refine RunC.regionW ?_
   refine zM (r := oref 0 u1 0 L3.length) rfl rfl rfl rfl rfl ?_
   refine zM (r := f32 e5) rfl rfl rfl rfl rfl ?_
   refine zM (r := f32 a1) rfl rfl rfl rfl rfl ?_
   refine zM (r := sl a2.length (a2.map f32)) rfl rfl rfl rfl rfl ?_
   refine zM (r := i64 v4) rfl rfl rfl rfl rfl ?_
   refine zL (r := ptr [f32 e6]) rfl rfl rfl (LOp.le (LOp.ix (f := f32) und23 siz26 rfl rfl rfl rfl he3) ALe.ptr) ?_
   refine zL (r := f32 e6) rfl rfl rfl (LOp.load1 agg26 rfl rfl) ?_
   refine ROps.d (r := f32 r7) (fs := []) (Γ' := [⟨u1, some (L3.map f32)⟩, ⟨u2, none⟩]) rfl rfl rfl (TOp.callB (CallAs.func ent92 rfl rfl) (Bors.cons (Bor.pure rfl) (Bors.cons (Bor.pure rfl) Bors.nil)) rfl rfl (i_mul_ok a1 e6 r7 hf4)) rfl ?_
   refine ROps.d (r := f32 x8) (fs := []) (Γ' := [⟨u1, some (L3.map f32)⟩, ⟨u2, none⟩]) rfl rfl rfl (TOp.eqr (TOp.fop (.inl rfl) rfl (OpF.tmp rfl) (OpF.tmp rfl)) (congrArg (f .f32) hx5)) rfl ?_
   refine ROps.d (r := oref 1 (u2 + 1) 0 1) (fs := [(1, (([x8] : List F).map f32))]) (Γ' := [⟨u1, some (L3.map f32)⟩, ⟨(u2 + 1), some (([x8] : List F).map f32)⟩]) rfl rfl rfl (TOp.buildSlice_o (g := ⟨u2, none⟩) (za := f32 (some 0)) (qs := [(0, [f32 x8])]) 1 rfl und23 siz26 zer26 rfl zel26 rfl rfl ⟨rfl, ⟨_, ALe.refl _, rfl⟩, trivial⟩ rfl) rfl ?_
   refine ROps.app (f := f32) (xs := L3) (ys := ([x8] : List F)) (Γ' := [⟨(u1 + 1), some ((L3 ++ ([x8] : List F)).map f32)⟩, ⟨(u2 + 1), some (([x8] : List F).map f32)⟩]) rfl pun23 inf26 rfl rfl rfl rfl rfl rfl rfl rfl rfl (by simp) (ReadAs.own rfl (by simp)) (ones_map (fun _ => rfl)) (ap_by hm6) (ap_mx hm6) rfl ?_
   refine zA (r := oref 0 (u1 + 1) 0 (L3.length + 1)) rfl rfl rfl rfl rfl ?_
   refine zN ?_
   refine RunC.wl (τ' := [(1, f32 a1), (2, sl a2.length (a2.map f32)), (7, oref 0 (u1 + 1) 0 (L3.length + 1)), (11, sl a0.length (a0.map f32)), (12, i64 (a0.length : Int)), (13, i64 v4)]) (Γ' := [⟨(u1 + 1), some ((L3 ++ ([x8] : List F)).map f32)⟩, ⟨(u2 + 1), none⟩]) ⟨aR, aR, aR, aR, aR, aR, trivial⟩ ⟨⟨rfl, .inr rfl⟩, ⟨rfl, .inl rfl⟩, trivial⟩ ?_
   obtain ⟨x9, hx7, h2_⟩ := olet_some h2_
   refine RunC.regionW ?_
   refine zL (r := i64 x9) rfl rfl rfl (LOp.eqr (LOp.add rfl rfl rfl) (congrArg (ik .i64) hx7)) ?_
   refine zM (r := i64 x9) rfl rfl rfl rfl rfl ?_
   refine zN ?_
   cases Option.some.inj h2_
   exact ⟨_, rfl, (u1 + 1), (u2 + 1), ⟨aR, aR, (ALe.eq (by rw [(app_len rfl rfl)] <;> rfl)), aR, aR, aR, trivial⟩, ⟨⟨rfl, .inr rfl⟩, ⟨rfl, .inl rfl⟩, trivial⟩⟩
  ·refine RunC.regionW ?_
   refine zL (r := b false) rfl rfl rfl (LOp.eqb (LOp.lss rfl rfl rfl) hc1) ?_
   refine zN ?_
   refine RunC.seq ?_
   refine RunC.cond_false rfl rfl ?_
   refine RunC.exit ?_
   cases Option.some.inj h2_
   have hx := ho2 _ rfl
   exact ⟨L3, u1, u2, ⟨aR, trivial⟩, ⟨⟨rfl, .inr rfl⟩, ⟨rfl, .inl rfl⟩, trivial⟩, hx⟩
 ·rintro τ3 Γ3 ⟨L12, u10, u11, hw3, hd3, rfl⟩
  refine RunC.wl hw3 hd3 ?_
  replace h : i_plusTimes_k1 L12 = some q0 := h
  unfold i_plusTimes_k1 at h
  refine zQ ?_
  refine zM (r := oref 0 u10 0 L12.length) rfl rfl rfl rfl rfl ?_
  refine zA (r := oref 0 u10 0 L12.length) rfl rfl rfl rfl rfl ?_
  refine zN ?_
  refine RunC.ret ?_
  have hq := Option.some.inj h
  subst q0
  exact bodyQ.mk (r' := oref 0 u10 0 L12.length) [(0, u10)] (.inr rfl) rfl (show List.Nodup [0] from by decide) (by simp [ren, rens, sigma]) rfl (Res.one rfl (RV.tmp rfl)) (SelL.arr0 (f := f32) (fun _ => rfl) rfl trivial)
noncomputable def i_gradients_4Fi_SparseWith_1_b2 (r4 : List F) (r20 : List F) (x23 : F) (L25 : List F) (v27 : Int) : Option (LR ((List F) × Int) ((List F)) (Int × Bool × (List F))) :=
 bsel (decide (v27 < ((r4.length : Nat) : Int))) (
  obind (at? L25 v27) fun (e28 : F) =>
  obind (at? r20 v27) fun (e29 : F) =>
  obind (i_mul x23 e29) fun (r30 : F) =>
  olet (fop .sub .f32 e28 r30) fun (x31 : F) =>
  obind (setAt? L25 v27 x31) fun (L32 : List F) =>
  olet (IntKind.i64.wrap (v27 + 1)) fun (x33 : Int) =>
  some (LR.next (L32, x33))) (
  some (LR.out L25))
noncomputable def i_gradients_4Fi_SparseWith_1_s2 (r4 : List F) (r20 : List F) (x23 : F) : ((List F) × Int) → Option (LR ((List F) × Int) ((List F)) (Int × Bool × (List F))) := fun s => i_gradients_4Fi_SparseWith_1_b2 r4 r20 x23 s.1 s.2
noncomputable def i_gradients_4Fi_SparseWith_1_k2 (a7 : Int) (a8 : List Int) (a9 : List Int) (a10 : List F) (L16 : List F) (y17 : F) (v18 : Int) (r24 : List F) (L34 : List F) : Option (LR ((List F) × (List F) × (List F) × F × Int) ((List F) × (List F) × Int) (Int × Bool × (List F))) :=
 obind2 (i_SparseWith_1 L34 a7 a8 a9 a10) fun (r37 : Bool) (r38 : List F) =>
 bsel r37 (
  obind (i_dot L34 r38) fun (r39 : F) =>
  olet (fop .quo .f32 r39 y17) fun (x40 : F) =>
  obind (i_plusTimes r38 x40 L16) fun (r41 : List F) =>
  olet (IntKind.i64.wrap (v18 + 1)) fun (x42 : Int) =>
  some (LR.next (r24, L34, r41, r39, x42))) (
  some (LR.ret (0, false, ([] : List F))))
noncomputable def i_gradients_4Fi_SparseWith_1_b3 (a0 : Int) (a1 : List Int) (a2 : List Int) (a3 : List F) (a5 : F) (a6 : Int) (a7 : Int) (a8 : List Int) (a9 : List Int) (a10 : List F) (r4 : List F) (L13 : List F) (L14 : List F) (L16 : List F) (y17 : F) (v18 : Int) : Option (LR ((List F) × (List F) × (List F) × F × Int) ((List F) × (List F) × Int) (Int × Bool × (List F))) :=
 bsel (decide (v18 < a6)) (
  obind (i_norm L14) fun (r19 : F) =>
  bsel (flt .f32 a5 r19) (
   obind (i_Sparse_times a0 a1 a2 a3 L16) fun (r20 : List F) =>
   obind (i_dot L16 r20) fun (r21 : F) =>
   bsel (flt .f32 (some 0) r21) (
    obind (i_areFinite ([r21, y17] : List F)) fun (r22 : Bool) =>
    bsel r22 (
     olet (fop .quo .f32 y17 r21) fun (x23 : F) =>
     obind (i_plusTimes L13 x23 L16) fun (r24 : List F) =>
     obind (loopM (i_gradients_4Fi_SparseWith_1_s2 r4 r20 x23) (L14, 0)) fun z => osum z (fun e => i_gradients_4Fi_SparseWith_1_k2 a7 a8 a9 a10 L16 y17 v18 r24 e) (fun r => some (LR.ret r))) (
     some (LR.ret (0, false, ([] : List F))))) (
    some (LR.ret (0, false, ([] : List F))))) (
   some (LR.out (L13, L14, v18)))) (
  some (LR.out (L13, L14, v18)))
noncomputable def i_gradients_4Fi_SparseWith_1_s3 (a0 : Int) (a1 : List Int) (a2 : List Int) (a3 : List F) (a5 : F) (a6 : Int) (a7 : Int) (a8 : List Int) (a9 : List Int) (a10 : List F) (r4 : List F) : ((List F) × (List F) × (List F) × F × Int) → Option (LR ((List F) × (List F) × (List F) × F × Int) ((List F) × (List F) × Int) (Int × Bool × (List F))) := fun s => i_gradients_4Fi_SparseWith_1_b3 a0 a1 a2 a3 a5 a6 a7 a8 a9 a10 r4 s.1 s.2.1 s.2.2.1 s.2.2.2.1 s.2.2.2.2
noncomputable def i_gradients_4Fi_SparseWith_1_k3 (a5 : F) (L48 : List F) (L49 : List F) (v51 : Int) : Option (Int × Bool × (List F)) :=
 obind (i_norm L49) fun (r52 : F) =>
 bsel (fle .f32 r52 a5) (
  obind (i_areFinite L48) fun (r53 : Bool) =>
  bsel r53 (
   some (v51, true, L48)) (
   some (0, false, ([] : List F)))) (
  some (0, false, ([] : List F)))
noncomputable def i_gradients_4Fi_SparseWith_1 (a0 : Int) (a1 : List Int) (a2 : List Int) (a3 : List F) (a4 : List F) (a5 : F) (a6 : Int) (a7 : Int) (a8 : List Int) (a9 : List Int) (a10 : List F) : Option (Int × Bool × (List F)) :=
 obind (i_Sparse_takes a0 a1 a2 a3 a4) fun (r1 : Bool) =>
 bsel r1 (
  obind (i_IsFinite a5) fun (r2 : Bool) =>
  bsel r2 (
   obind (i_inRange a6 0 128) fun (r3 : Bool) =>
   bsel r3 (
    need (mkok 4 a0) <|
    obind (x_slices_Clone_float32_float32 a4) fun (r4 : List F) =>
    obind2 (i_SparseWith_1 r4 a7 a8 a9 a10) fun (r5 : Bool) (r6 : List F) =>
    bsel r5 (
     obind (i_dot r4 r6) fun (r7 : F) =>
     obind (loopM (i_gradients_4Fi_SparseWith_1_s3 a0 a1 a2 a3 a5 a6 a7 a8 a9 a10 r4) ((List.replicate a0.toNat (some 0)), r4, r6, r7, 0)) fun z => osum z (fun e => i_gradients_4Fi_SparseWith_1_k3 a5 e.1 e.2.1 e.2.2) (fun r => some r)) (
     some (0, false, ([] : List F)))) (
    some (0, false, ([] : List F)))) (
   some (0, false, ([] : List F)))) (
  some (0, false, ([] : List F)))
theorem i_gradients_4Fi_SparseWith_1_ok (a0 : Int) (a1 : List Int) (a2 : List Int) (a3 : List F) (a4 : List F) (a5 : F) (a6 : Int) (a7 : Int) (a8 : List Int) (a9 : List Int) (a10 : List F) (q0 : Int) (q1 : Bool) (q2 : List F) (h : i_gradients_4Fi_SparseWith_1 a0 a1 a2 a3 a4 a5 a6 a7 a8 a9 a10 = some (q0, q1, q2)) : Ev Try.prog 35 [agg [i64 a0, sl a1.length (a1.map i64), sl a2.length (a2.map i64), sl a3.length (a3.map f32)], sl a4.length (a4.map f32), f32 a5, i64 a6, fn (.func 42) [] [ptr [i64 a7, sl a8.length (a8.map i64), sl a9.length (a9.map i64), sl a10.length (a10.map f32)]]] [] (tup [oref 0 0 0 q2.length, i64 q0, b q1]) [⟨0, some (q2.map f32)⟩] := by
 refine Ev.start Try.func35 rfl rfl 6 (τ := [(0, agg [i64 a0, sl a1.length (a1.map i64), sl a2.length (a2.map i64), sl a3.length (a3.map f32)]), (1, sl a4.length (a4.map f32)), (2, f32 a5), (3, i64 a6), (4, fn (.func 42) [] [ptr [i64 a7, sl a8.length (a8.map i64), sl a9.length (a9.map i64), sl a10.length (a10.map f32)]])]) rfl (Γ' := [⟨0, none⟩, ⟨0, none⟩, ⟨0, none⟩, ⟨0, none⟩, ⟨0, none⟩, ⟨0, none⟩]) rfl (n := 277) rfl (g := 0) rfl (fun _ => rfl) ?_
 unfold i_gradients_4Fi_SparseWith_1 at h
 refine zQ ?_
 refine ROps.d (r := ptr [i64 a0, sl a1.length (a1.map i64), sl a2.length (a2.map i64), sl a3.length (a3.map f32)]) (fs := []) (Γ' := [⟨0, none⟩, ⟨0, none⟩, ⟨0, none⟩, ⟨0, none⟩, ⟨0, none⟩, ⟨0, none⟩]) rfl rfl rfl (TOp.box_s rfl rfl rfl) rfl ?_
 refine zA (r := nilsl) rfl rfl rfl rfl rfl ?_
 refine zA (r := i64 0) rfl rfl rfl rfl rfl ?_
 refine zA (r := b false) rfl rfl rfl rfl rfl ?_
 refine zN ?_
 refine RunC.seq ?_
 refine RunC.seq ?_
 obtain ⟨r1, hf1, h⟩ := obind_some h
 rcases bsel_some h with ⟨hc2, h⟩ | ⟨hc2, h⟩
 ·obtain ⟨r2, hf3, h⟩ := obind_some h
  rcases bsel_some h with ⟨hc4, h⟩ | ⟨hc4, h⟩
  ·obtain ⟨r3, hf5, h⟩ := obind_some h
   rcases bsel_some h with ⟨hc6, h⟩ | ⟨hc6, h⟩
   ·refine RunC.regionW ?_
    refine zL (r := agg [i64 a0, sl a1.length (a1.map i64), sl a2.length (a2.map i64), sl a3.length (a3.map f32)]) rfl rfl rfl (LOp.loadAgg agg30 siz30 rfl rfl rfl rfl) ?_
    refine zM (r := sl a4.length (a4.map f32)) rfl rfl rfl rfl rfl ?_
    refine ROps.d (r := b true) (fs := []) (Γ' := [⟨0, none⟩, ⟨0, none⟩, ⟨0, none⟩, ⟨0, none⟩, ⟨0, none⟩, ⟨0, none⟩]) rfl rfl rfl (TOp.eqb (TOp.callB (CallAs.func ent84 rfl rfl) (Bors.cons (Bor.agg (Bors.cons (Bor.pure rfl) (Bors.cons (Bor.sl (fun _ => rfl)) (Bors.cons (Bor.sl (fun _ => rfl)) (Bors.cons (Bor.sl (fun _ => rfl)) Bors.nil))))) (Bors.cons (Bor.sl (fun _ => rfl)) Bors.nil)) rfl rfl (i_Sparse_takes_ok a0 a1 a2 a3 a4 r1 hf1)) hc2) rfl ?_
    refine zL (r := b false) rfl rfl rfl (LOp.eqb (LOp.not rfl rfl) rfl) ?_
    refine zM (r := b false) rfl rfl rfl rfl rfl ?_
    refine zM (r := f32 a5) rfl rfl rfl rfl rfl ?_
    refine ROps.d (r := b true) (fs := []) (Γ' := [⟨0, none⟩, ⟨0, none⟩, ⟨0, none⟩, ⟨0, none⟩, ⟨0, none⟩, ⟨0, none⟩]) rfl rfl rfl (TOp.eqb (TOp.callB (CallAs.func ent85 rfl rfl) (Bors.cons (Bor.pure rfl) Bors.nil) rfl rfl (i_IsFinite_ok a5 r2 hf3)) hc4) rfl ?_
    refine zL (r := b false) rfl rfl rfl (LOp.eqb (LOp.not rfl rfl) rfl) ?_
    refine zL (r := b false) rfl rfl rfl (LOp.pick_false rfl rfl rfl) ?_
    refine zM (r := b false) rfl rfl rfl rfl rfl ?_
    refine zM (r := i64 a6) rfl rfl rfl rfl rfl ?_
    refine ROps.d (r := b true) (fs := []) (Γ' := [⟨0, none⟩, ⟨0, none⟩, ⟨0, none⟩, ⟨0, none⟩, ⟨0, none⟩, ⟨0, none⟩]) rfl rfl rfl (TOp.eqb (TOp.callB (CallAs.func ent86 rfl rfl) (Bors.cons (Bor.pure rfl) (Bors.cons (Bor.pure rfl) (Bors.cons (Bor.pure rfl) Bors.nil))) rfl rfl (i_inRange_ok a6 0 128 r3 hf5)) hc6) rfl ?_
    refine zL (r := b false) rfl rfl rfl (LOp.eqb (LOp.not rfl rfl) rfl) ?_
    refine zL (r := b false) rfl rfl rfl (LOp.pick_false rfl rfl rfl) ?_
    refine zN ?_
    refine RunC.cond_false rfl rfl ?_
    refine RunC.skip ?_
    refine RunC.seq ?_
    obtain ⟨hm7, h⟩ := need_some h
    obtain ⟨r4, hf8, h⟩ := obind_some h
    refine RunC.region_draw (Γ' := [⟨1, some ((List.replicate a0.toNat (some 0)).map f32)⟩, ⟨1, some (r4.map f32)⟩, ⟨0, none⟩, ⟨0, none⟩, ⟨0, none⟩, ⟨0, none⟩]) 7 mixed 
     (TR.l (r := ptr [i64 a0, sl a1.length (a1.map i64), sl a2.length (a2.map i64), sl a3.length (a3.map f32)]) rfl rfl (LOp.fap und30 rfl siz2 rfl rfl rfl) <|
     (TR.l (r := i64 a0) rfl rfl (LOp.load1 agg2 rfl rfl) <|
     (TR.d (r := oref 0 1 0 a0.toNat) (fs := [(0, ((List.replicate a0.toNat (some 0)).map f32))]) rfl rfl (TOp.mkS (g := ⟨0, none⟩) (t := 23) (e := 26) (by_ := 4) (f := f32) (zv := some 0) 0 rfl und23 tin26 rfl siz26 zer26 rfl zel26 rfl rfl rfl hm7) <|
     (TR.l (r := sl a4.length (a4.map f32)) rfl rfl (LOp.move rfl rfl) <|
     (TR.d (r := oref 1 1 0 r4.length) (fs := [(1, (r4.map f32))]) rfl rfl (TOp.callBN (ls := [(r4.map f32)]) [1] (CallAs.func ent37 rfl rfl) (Bors.cons (Bor.sl (fun _ => rfl)) Bors.nil) rfl (x_slices_Clone_float32_float32_ok a4 r4 hf8) (and_all (lts0_map (f := f32) (fun _ => rfl) _) rfl) (and_all (noss_map (f := f32) (fun _ => rfl) _) rfl) rfl (by decide) (ns_of ⟨⟨_, rfl⟩, trivial⟩)) <|
     (TR.l (r := oref 0 1 0 a0.toNat) rfl rfl (LOp.assign rfl rfl) <|
     (TR.l (r := oref 1 1 0 r4.length) rfl rfl (LOp.assign rfl rfl) <|
     TR.nil))))))) rfl (by kernel_rfl) rfl (fills_of (by show List.Nodup [0, 1]; decide) ⟨⟨_, rfl⟩, ⟨_, rfl⟩, trivial⟩) rfl ?_
    iterate 7 refine ROps.dropS ?_
    refine ROps.drop0 ?_
    refine zN ?_
    refine RunC.seq ?_
    obtain ⟨r5, r6, hf9, h⟩ := obind2_some h
    rcases bsel_some h with ⟨hc10, h⟩ | ⟨hc10, h⟩
    ·refine RunC.regionW ?_
     refine zM (r := fn (.func 42) [] [ptr [i64 a7, sl a8.length (a8.map i64), sl a9.length (a9.map i64), sl a10.length (a10.map f32)]]) rfl rfl rfl rfl rfl ?_
     refine zM (r := oref 1 1 0 r4.length) rfl rfl rfl rfl rfl ?_
     refine ROps.d (r := tup [oref 2 1 0 r6.length, b r5]) (fs := [(2, (r6.map f32))]) (Γ' := [⟨1, some ((List.replicate a0.toNat (some 0)).map f32)⟩, ⟨1, some (r4.map f32)⟩, ⟨1, some (r6.map f32)⟩, ⟨0, none⟩, ⟨0, none⟩, ⟨0, none⟩]) rfl rfl rfl (TOp.callBN (ls := [(r6.map f32)]) [2] (CallAs.fn ent42 rfl rfl rfl rfl) (Bors.cons (Bor.own (f := f32) (fun _ => rfl) rfl rfl) (Bors.cons (Bor.ptr (Bors.cons (Bor.pure rfl) (Bors.cons (Bor.sl (fun _ => rfl)) (Bors.cons (Bor.sl (fun _ => rfl)) (Bors.cons (Bor.sl (fun _ => rfl)) Bors.nil))))) Bors.nil)) rfl (i_SparseWith_1_ok r4 a7 a8 a9 a10 r5 r6 hf9) (and_all (lts0_map (f := f32) (fun _ => rfl) _) rfl) (and_all (noss_map (f := f32) (fun _ => rfl) _) rfl) rfl (by decide) (ns_of ⟨⟨_, rfl⟩, trivial⟩)) rfl ?_
     refine zM (r := tup [oref 2 1 0 r6.length, b r5]) rfl rfl rfl rfl rfl ?_
     refine zL (r := oref 2 1 0 r6.length) rfl rfl rfl (LOp.extract rfl rfl rfl) ?_
     refine zL (r := b true) rfl rfl rfl (LOp.eqb (LOp.extract rfl rfl rfl) hc10) ?_
     refine zA (r := oref 2 1 0 r6.length) rfl rfl rfl rfl rfl ?_
     refine zA (r := b true) rfl rfl rfl rfl rfl ?_
     refine zN ?_
     refine RunC.wl (τ' := [(2, f32 a5), (3, i64 a6), (4, fn (.func 42) [] [ptr [i64 a7, sl a8.length (a8.map i64), sl a9.length (a9.map i64), sl a10.length (a10.map f32)]]), (5, ptr [i64 a0, sl a1.length (a1.map i64), sl a2.length (a2.map i64), sl a3.length (a3.map f32)]), (13, oref 0 1 0 a0.toNat), (14, oref 1 1 0 r4.length), (15, oref 2 1 0 r6.length), (16, b true)]) (Γ' := [⟨1, some ((List.replicate a0.toNat (some 0)).map f32)⟩, ⟨1, some (r4.map f32)⟩, ⟨1, some (r6.map f32)⟩, ⟨0, none⟩, ⟨0, none⟩, ⟨0, none⟩]) ⟨aR, aR, aR, aR, aR, aR, aR, aR, trivial⟩ ⟨⟨rfl, .inr rfl⟩, ⟨rfl, .inr rfl⟩, ⟨rfl, .inr rfl⟩, ⟨rfl, .inr rfl⟩, ⟨rfl, .inr rfl⟩, ⟨rfl, .inr rfl⟩, trivial⟩ ?_
     refine RunC.seq ?_
     refine zQ ?_
     refine zM (r := b true) rfl rfl rfl rfl rfl ?_
     refine zL (r := b false) rfl rfl rfl (LOp.eqb (LOp.not rfl rfl) rfl) ?_
     refine zN ?_
     refine RunC.cond_false rfl rfl ?_
     refine RunC.skip ?_
     refine RunC.seq ?_
     obtain ⟨r7, hf11, h⟩ := obind_some h
     refine RunC.regionW ?_
     refine zM (r := oref 2 1 0 r6.length) rfl rfl rfl rfl rfl ?_
     refine zM (r := oref 1 1 0 r4.length) rfl rfl rfl rfl rfl ?_
     refine zM (r := oref 2 1 0 r6.length) rfl rfl rfl rfl rfl ?_
     refine ROps.d (r := f32 r7) (fs := []) (Γ' := [⟨1, some ((List.replicate a0.toNat (some 0)).map f32)⟩, ⟨1, some (r4.map f32)⟩, ⟨1, some (r6.map f32)⟩, ⟨0, none⟩, ⟨0, none⟩, ⟨0, none⟩]) rfl rfl rfl (TOp.callB (CallAs.func ent87 rfl rfl) (Bors.cons (Bor.own (f := f32) (fun _ => rfl) rfl rfl) (Bors.cons (Bor.own (f := f32) (fun _ => rfl) rfl rfl) Bors.nil)) rfl rfl (i_dot_ok r4 r6 r7 hf11)) rfl ?_
     refine zA (r := oref 2 1 0 r6.length) rfl rfl rfl rfl rfl ?_
     refine zA (r := f32 r7) rfl rfl rfl rfl rfl ?_
     refine zA (r := i64 0) rfl rfl rfl rfl rfl ?_
     refine zN ?_
     refine RunC.seq ?_
     obtain ⟨z4, hz_4, h⟩ := obind_some h
     refine RunC.cutN (fun τ Γ => ∃ (L48 : List F) (L49 : List F) (v51 : Int) (u43 : Nat) (u44 : Nat) (u45 : Nat) (u46 : Nat) (u47 : Nat), L49.length = r4.length ∧ Le 277 τ Γ [(2, f32 a5), (13, oref 0 u43 0 L48.length), (14, oref 1 u44 0 r4.length), (19, i64 v51)] [⟨u43, some (L48.map f32)⟩, ⟨u44, some (L49.map f32)⟩, ⟨u45, none⟩, ⟨u46, none⟩, ⟨0, none⟩, ⟨u47, none⟩] ∧ z4 = .inl (L48, L49, v51)) ?_ ?_
     ·refine RunC.block (RunC.loop (RunL.loopM (x := z4) (i_gradients_4Fi_SparseWith_1_s3 a0 a1 a2 a3 a5 a6 a7 a8 a9 a10 r4) (fun (s : (List F) × (List F) × (List F) × F × Int) τ Γ => ∃ (u8 : Nat) (u9 : Nat) (u10 : Nat) (u11 : Nat) (u12 : Nat), s.2.1.length = r4.length ∧ Le 277 τ Γ [(2, f32 a5), (3, i64 a6), (4, fn (.func 42) [] [ptr [i64 a7, sl a8.length (a8.map i64), sl a9.length (a9.map i64), sl a10.length (a10.map f32)]]), (5, ptr [i64 a0, sl a1.length (a1.map i64), sl a2.length (a2.map i64), sl a3.length (a3.map f32)]), (13, oref 0 u8 0 s.1.length), (14, oref 1 u9 0 r4.length), (17, oref 2 u10 0 s.2.2.1.length), (18, f32 s.2.2.2.1), (19, i64 s.2.2.2.2)] [⟨u8, some (s.1.map f32)⟩, ⟨u9, some (s.2.1.map f32)⟩, ⟨u10, some (s.2.2.1.map f32)⟩, ⟨u11, none⟩, ⟨0, none⟩, ⟨u12, none⟩]) ?_ _ _ _ hz_4 ⟨1, 1, 1, 0, 0, rfl, (Le.of ⟨aR, aR, aR, aR, (by first | exact ALe.refl _ | exact ALe.eq (by rw [List.length_replicate] <;> rfl) | exact ALe.eq (by simp)), aR, aR, aR, aR, trivial⟩ ⟨⟨rfl, .inr rfl⟩, ⟨rfl, .inr rfl⟩, ⟨rfl, .inr rfl⟩, ⟨rfl, .inl rfl⟩, ⟨rfl, .inl rfl⟩, ⟨rfl, .inl rfl⟩, trivial⟩)⟩))
      rintro ⟨L13, L14, L16, y17, v18⟩ τ4 Γ4 y4_ ⟨u8, u9, u10, u11, u12, hl15, hw4⟩ h4_ ho4 hr4
      refine RunC.le (τ' := [(2, f32 a5), (3, i64 a6), (4, fn (.func 42) [] [ptr [i64 a7, sl a8.length (a8.map i64), sl a9.length (a9.map i64), sl a10.length (a10.map f32)]]), (5, ptr [i64 a0, sl a1.length (a1.map i64), sl a2.length (a2.map i64), sl a3.length (a3.map f32)]), (13, oref 0 u8 0 L13.length), (14, oref 1 u9 0 r4.length), (17, oref 2 u10 0 L16.length), (18, f32 y17), (19, i64 v18)]) (Γ' := [⟨u8, some (L13.map f32)⟩, ⟨u9, some (L14.map f32)⟩, ⟨u10, some (L16.map f32)⟩, ⟨u11, none⟩, ⟨0, none⟩, ⟨u12, none⟩]) hw4 ?_
      replace hl15 : L14.length = r4.length := hl15
      replace h4_ : i_gradients_4Fi_SparseWith_1_b3 a0 a1 a2 a3 a5 a6 a7 a8 a9 a10 r4 L13 L14 L16 y17 v18 = some y4_ := h4_
      unfold i_gradients_4Fi_SparseWith_1_b3 at h4_
      refine RunC.seq ?_
      refine RunC.seq ?_
      rcases bsel_some h4_ with ⟨hc12, h4_⟩ | ⟨hc12, h4_⟩
      ·obtain ⟨r19, hf13, h4_⟩ := obind_some h4_
       rcases bsel_some h4_ with ⟨hc14, h4_⟩ | ⟨hc14, h4_⟩
       ·refine RunC.regionW ?_
        refine zM (r := i64 v18) rfl rfl rfl rfl rfl ?_
        refine zM (r := i64 a6) rfl rfl rfl rfl rfl ?_
        refine zL (r := b true) rfl rfl rfl (LOp.eqb (LOp.lss rfl rfl rfl) hc12) ?_
        refine zM (r := b true) rfl rfl rfl rfl rfl ?_
        refine zM (r := oref 1 u9 0 r4.length) rfl rfl rfl rfl rfl ?_
        refine ROps.d (r := f32 r19) (fs := []) (Γ' := [⟨u8, some (L13.map f32)⟩, ⟨u9, some (L14.map f32)⟩, ⟨u10, some (L16.map f32)⟩, ⟨u11, none⟩, ⟨0, none⟩, ⟨u12, none⟩]) rfl rfl rfl (TOp.callB (CallAs.func ent88 rfl rfl) (Bors.cons (Bor.own (f := f32) (fun _ => rfl) rfl hl15) Bors.nil) rfl rfl (i_norm_ok L14 r19 hf13)) rfl ?_
        refine zM (r := f32 a5) rfl rfl rfl rfl rfl ?_
        refine zL (r := b true) rfl rfl rfl (LOp.eqb (LOp.fgt rfl (OpF.tmp rfl) (OpF.tmp rfl)) hc14) ?_
        refine zL (r := b true) rfl rfl rfl (LOp.pick_true rfl rfl rfl) ?_
        refine zN ?_
        refine RunC.cond_true rfl rfl ?_
        refine RunC.skip ?_
        refine RunC.seq ?_
        refine RunC.block ?_
        refine RunC.seq ?_
        obtain ⟨r20, hf15, h4_⟩ := obind_some h4_
        refine RunC.regionW ?_
        refine zL (r := agg [i64 a0, sl a1.length (a1.map i64), sl a2.length (a2.map i64), sl a3.length (a3.map f32)]) rfl rfl rfl (LOp.loadAgg agg30 siz30 rfl rfl rfl rfl) ?_
        refine zM (r := oref 2 u10 0 L16.length) rfl rfl rfl rfl rfl ?_
        refine ROps.d (r := oref 3 (u11 + 1) 0 r20.length) (fs := [(3, (r20.map f32))]) (Γ' := [⟨u8, some (L13.map f32)⟩, ⟨u9, some (L14.map f32)⟩, ⟨u10, some (L16.map f32)⟩, ⟨(u11 + 1), some (r20.map f32)⟩, ⟨0, none⟩, ⟨u12, none⟩]) rfl rfl rfl (TOp.eqr (TOp.callBN (ls := [(r20.map f32)]) [3] (CallAs.func ent89 rfl rfl) (Bors.cons (Bor.agg (Bors.cons (Bor.pure rfl) (Bors.cons (Bor.sl (fun _ => rfl)) (Bors.cons (Bor.sl (fun _ => rfl)) (Bors.cons (Bor.sl (fun _ => rfl)) Bors.nil))))) (Bors.cons (Bor.own (f := f32) (fun _ => rfl) rfl rfl) Bors.nil)) rfl (i_Sparse_times_ok a0 a1 a2 a3 L16 r20 hf15) (and_all (lts0_map (f := f32) (fun _ => rfl) _) rfl) (and_all (noss_map (f := f32) (fun _ => rfl) _) rfl) rfl (by decide) (ns_of ⟨⟨_, rfl⟩, trivial⟩)) (by simp [ren, rens, sigma, newNames])) rfl ?_
        refine zA (r := oref 3 (u11 + 1) 0 r20.length) rfl rfl rfl rfl rfl ?_
        refine zN ?_
        refine RunC.seq ?_
        obtain ⟨r21, hf16, h4_⟩ := obind_some h4_
        refine RunC.regionW ?_
        refine zM (r := oref 2 u10 0 L16.length) rfl rfl rfl rfl rfl ?_
        refine zM (r := oref 3 (u11 + 1) 0 r20.length) rfl rfl rfl rfl rfl ?_
        refine ROps.d (r := f32 r21) (fs := []) (Γ' := [⟨u8, some (L13.map f32)⟩, ⟨u9, some (L14.map f32)⟩, ⟨u10, some (L16.map f32)⟩, ⟨(u11 + 1), some (r20.map f32)⟩, ⟨0, none⟩, ⟨u12, none⟩]) rfl rfl rfl (TOp.callB (CallAs.func ent87 rfl rfl) (Bors.cons (Bor.own (f := f32) (fun _ => rfl) rfl rfl) (Bors.cons (Bor.own (f := f32) (fun _ => rfl) rfl rfl) Bors.nil)) rfl rfl (i_dot_ok L16 r20 r21 hf16)) rfl ?_
        refine zA (r := f32 r21) rfl rfl rfl rfl rfl ?_
        refine zN ?_
        refine RunC.seq ?_
        refine RunC.seq ?_
        rcases bsel_some h4_ with ⟨hc17, h4_⟩ | ⟨hc17, h4_⟩
        ·obtain ⟨r22, hf18, h4_⟩ := obind_some h4_
         rcases bsel_some h4_ with ⟨hc19, h4_⟩ | ⟨hc19, h4_⟩
         ·refine RunC.regionW ?_
          refine zM (r := f32 r21) rfl rfl rfl rfl rfl ?_
          refine zL (r := b true) rfl rfl rfl (LOp.eqb (LOp.fgt rfl (OpF.tmp rfl) (OpF.const rfl (by kernel_rfl) (by kernel_rfl))) hc17) ?_
          refine zL (r := b false) rfl rfl rfl (LOp.eqb (LOp.not rfl rfl) rfl) ?_
          refine zM (r := b false) rfl rfl rfl rfl rfl ?_
          refine zM (r := f32 r21) rfl rfl rfl rfl rfl ?_
          refine zM (r := f32 y17) rfl rfl rfl rfl rfl ?_
          refine ROps.d (r := oref 4 1 0 2) (fs := [(4, (([r21, y17] : List F).map f32))]) (Γ' := [⟨u8, some (L13.map f32)⟩, ⟨u9, some (L14.map f32)⟩, ⟨u10, some (L16.map f32)⟩, ⟨(u11 + 1), some (r20.map f32)⟩, ⟨1, some (([r21, y17] : List F).map f32)⟩, ⟨u12, none⟩]) rfl rfl rfl (TOp.buildSlice_o (g := ⟨0, none⟩) (za := f32 (some 0)) (qs := [(0, [f32 r21]), (1, [f32 y17])]) 4 rfl und23 siz26 zer26 rfl zel26 rfl rfl ⟨rfl, ⟨_, ALe.refl _, rfl⟩, ⟨rfl, ⟨_, ALe.refl _, rfl⟩, trivial⟩⟩ rfl) rfl ?_
          refine ROps.d (r := b true) (fs := []) (Γ' := [⟨u8, some (L13.map f32)⟩, ⟨u9, some (L14.map f32)⟩, ⟨u10, some (L16.map f32)⟩, ⟨(u11 + 1), some (r20.map f32)⟩, ⟨1, some (([r21, y17] : List F).map f32)⟩, ⟨u12, none⟩]) rfl rfl rfl (TOp.eqb (TOp.callB (CallAs.func ent90 rfl rfl) (Bors.cons (Bor.own (f := f32) (fun _ => rfl) rfl rfl) Bors.nil) rfl rfl (i_areFinite_ok ([r21, y17] : List F) r22 hf18)) hc19) rfl ?_
          refine zL (r := b false) rfl rfl rfl (LOp.eqb (LOp.not rfl rfl) rfl) ?_
          refine zL (r := b false) rfl rfl rfl (LOp.pick_false rfl rfl rfl) ?_
          refine zN ?_
          refine RunC.cond_false rfl rfl ?_
          refine RunC.skip ?_
          refine RunC.wl (τ' := [(2, f32 a5), (3, i64 a6), (4, fn (.func 42) [] [ptr [i64 a7, sl a8.length (a8.map i64), sl a9.length (a9.map i64), sl a10.length (a10.map f32)]]), (5, ptr [i64 a0, sl a1.length (a1.map i64), sl a2.length (a2.map i64), sl a3.length (a3.map f32)]), (13, oref 0 u8 0 L13.length), (14, oref 1 u9 0 r4.length), (17, oref 2 u10 0 L16.length), (18, f32 y17), (19, i64 v18), (20, oref 3 (u11 + 1) 0 r20.length), (21, f32 r21), (60, oref 1 u9 0 r4.length), (61, f32 r19), (62, f32 a5), (63, b true), (77, f32 r21), (78, f32 y17), (79, oref 4 1 0 2), (80, b true), (81, b false)]) (Γ' := [⟨u8, some (L13.map f32)⟩, ⟨u9, some (L14.map f32)⟩, ⟨u10, some (L16.map f32)⟩, ⟨(u11 + 1), some (r20.map f32)⟩, ⟨1, some (([r21, y17] : List F).map f32)⟩, ⟨u12, none⟩]) ⟨aR, aR, aR, aR, aR, aR, aR, aR, aR, aR, aR, aR, aR, aR, aR, aR, aR, aR, aR, aR, trivial⟩ ⟨⟨rfl, .inr rfl⟩, ⟨rfl, .inr rfl⟩, ⟨rfl, .inr rfl⟩, ⟨rfl, .inr rfl⟩, ⟨rfl, .inr rfl⟩, ⟨rfl, .inl rfl⟩, trivial⟩ ?_
          refine RunC.seq ?_
          obtain ⟨x23, hx20, h4_⟩ := olet_some h4_
          refine RunC.regionW ?_
          refine zM (r := f32 y17) rfl rfl rfl rfl rfl ?_
          refine zM (r := f32 r21) rfl rfl rfl rfl rfl ?_
          refine ROps.d (r := f32 x23) (fs := []) (Γ' := [⟨u8, some (L13.map f32)⟩, ⟨u9, some (L14.map f32)⟩, ⟨u10, some (L16.map f32)⟩, ⟨(u11 + 1), some (r20.map f32)⟩, ⟨1, some (([r21, y17] : List F).map f32)⟩, ⟨u12, none⟩]) rfl rfl rfl (TOp.eqr (TOp.fop (.inr (.inr (.inr rfl))) rfl (OpF.tmp rfl) (OpF.tmp rfl)) (congrArg (f .f32) hx20)) rfl ?_
          refine zA (r := f32 x23) rfl rfl rfl rfl rfl ?_
          refine zN ?_
          refine RunC.seq ?_
          obtain ⟨r24, hf21, h4_⟩ := obind_some h4_
          refine RunC.regionW ?_
          refine zM (r := oref 0 u8 0 L13.length) rfl rfl rfl rfl rfl ?_
          refine zM (r := f32 x23) rfl rfl rfl rfl rfl ?_
          refine zM (r := oref 2 u10 0 L16.length) rfl rfl rfl rfl rfl ?_
          refine ROps.d (r := oref 5 (u12 + 1) 0 r24.length) (fs := [(5, (r24.map f32))]) (Γ' := [⟨u8, some (L13.map f32)⟩, ⟨u9, some (L14.map f32)⟩, ⟨u10, some (L16.map f32)⟩, ⟨(u11 + 1), some (r20.map f32)⟩, ⟨1, some (([r21, y17] : List F).map f32)⟩, ⟨(u12 + 1), some (r24.map f32)⟩]) rfl rfl rfl (TOp.eqr (TOp.callBN (ls := [(r24.map f32)]) [5] (CallAs.func ent91 rfl rfl) (Bors.cons (Bor.own (f := f32) (fun _ => rfl) rfl rfl) (Bors.cons (Bor.pure rfl) (Bors.cons (Bor.own (f := f32) (fun _ => rfl) rfl rfl) Bors.nil))) rfl (i_plusTimes_ok L13 x23 L16 r24 hf21) (and_all (lts0_map (f := f32) (fun _ => rfl) _) rfl) (and_all (noss_map (f := f32) (fun _ => rfl) _) rfl) rfl (by decide) (ns_of ⟨⟨_, rfl⟩, trivial⟩)) (by simp [ren, rens, sigma, newNames])) rfl ?_
          refine zA (r := oref 5 (u12 + 1) 0 r24.length) rfl rfl rfl rfl rfl ?_
          refine zN ?_
          refine RunC.wl (τ' := [(2, f32 a5), (3, i64 a6), (4, fn (.func 42) [] [ptr [i64 a7, sl a8.length (a8.map i64), sl a9.length (a9.map i64), sl a10.length (a10.map f32)]]), (5, ptr [i64 a0, sl a1.length (a1.map i64), sl a2.length (a2.map i64), sl a3.length (a3.map f32)]), (13, oref 5 (u12 + 1) 0 r24.length), (14, oref 1 u9 0 r4.length), (17, oref 2 u10 0 L16.length), (18, f32 y17), (19, i64 v18), (20, oref 3 (u11 + 1) 0 r20.length), (22, f32 x23), (60, oref 1 u9 0 r4.length), (61, f32 r19), (62, f32 a5), (63, b true), (77, f32 r21), (78, f32 y17), (79, oref 4 1 0 2), (80, b true), (81, b false)]) (Γ' := [⟨u8, none⟩, ⟨u9, some (L14.map f32)⟩, ⟨u10, some (L16.map f32)⟩, ⟨(u11 + 1), some (r20.map f32)⟩, ⟨1, some (([r21, y17] : List F).map f32)⟩, ⟨(u12 + 1), some (r24.map f32)⟩]) ⟨aR, aR, aR, aR, aR, aR, aR, aR, aR, aR, aR, aR, aR, aR, aR, aR, aR, aR, aR, aR, trivial⟩ ⟨⟨rfl, .inl rfl⟩, ⟨rfl, .inr rfl⟩, ⟨rfl, .inr rfl⟩, ⟨rfl, .inr rfl⟩, ⟨rfl, .inr rfl⟩, ⟨rfl, .inr rfl⟩, trivial⟩ ?_
          refine RunC.seq ?_
          refine zQ ?_
          refine zM (r := oref 1 u9 0 r4.length) rfl rfl rfl rfl rfl ?_
          refine zL (r := i64 ((r4.length : Nat) : Int)) rfl rfl rfl (LOp.len_oref und23 rfl rfl) ?_
          refine zM (r := i64 0) rfl rfl rfl rfl rfl ?_
          refine zN ?_
          obtain ⟨z5, hz_5, h4_⟩ := obind_some h4_
          refine RunC.cutN (fun τ Γ => ∃ (L34 : List F), L34.length = r4.length ∧ ([r21, y17] : List F).length = 2 ∧ Le 277 τ Γ [(2, f32 a5), (3, i64 a6), (4, fn (.func 42) [] [ptr [i64 a7, sl a8.length (a8.map i64), sl a9.length (a9.map i64), sl a10.length (a10.map f32)]]), (5, ptr [i64 a0, sl a1.length (a1.map i64), sl a2.length (a2.map i64), sl a3.length (a3.map f32)]), (13, oref 5 (u12 + 1) 0 r24.length), (14, oref 1 u9 0 r4.length), (17, oref 2 u10 0 L16.length), (18, f32 y17), (19, i64 v18), (60, oref 1 u9 0 r4.length), (61, f32 r19), (62, f32 a5), (63, b true), (77, f32 r21), (78, f32 y17), (79, oref 4 1 0 2), (80, b true), (81, b false)] [⟨u8, none⟩, ⟨u9, some (L34.map f32)⟩, ⟨u10, some (L16.map f32)⟩, ⟨(u11 + 1), none⟩, ⟨1, some (([r21, y17] : List F).map f32)⟩, ⟨(u12 + 1), some (r24.map f32)⟩] ∧ z5 = .inl L34) ?_ ?_
          ·refine RunC.block (RunC.loop (RunL.loopM (x := z5) (i_gradients_4Fi_SparseWith_1_s2 r4 r20 x23) (fun (s : (List F) × Int) τ Γ => s.1.length = r4.length ∧ Le 277 τ Γ [(2, f32 a5), (3, i64 a6), (4, fn (.func 42) [] [ptr [i64 a7, sl a8.length (a8.map i64), sl a9.length (a9.map i64), sl a10.length (a10.map f32)]]), (5, ptr [i64 a0, sl a1.length (a1.map i64), sl a2.length (a2.map i64), sl a3.length (a3.map f32)]), (13, oref 5 (u12 + 1) 0 r24.length), (14, oref 1 u9 0 r4.length), (17, oref 2 u10 0 L16.length), (18, f32 y17), (19, i64 v18), (20, oref 3 (u11 + 1) 0 r20.length), (22, f32 x23), (60, oref 1 u9 0 r4.length), (61, f32 r19), (62, f32 a5), (63, b true), (77, f32 r21), (78, f32 y17), (79, oref 4 1 0 2), (80, b true), (81, b false), (91, i64 ((r4.length : Nat) : Int)), (92, i64 s.2)] [⟨u8, none⟩, ⟨u9, some (s.1.map f32)⟩, ⟨u10, some (L16.map f32)⟩, ⟨(u11 + 1), some (r20.map f32)⟩, ⟨1, some (([r21, y17] : List F).map f32)⟩, ⟨(u12 + 1), some (r24.map f32)⟩]) ?_ _ _ _ hz_5 ⟨hl15, (Le.of ⟨aR, aR, aR, aR, aR, aR, aR, aR, aR, aR, aR, aR, aR, aR, aR, aR, aR, aR, aR, aR, aR, aR, trivial⟩ ⟨⟨rfl, .inl rfl⟩, ⟨rfl, .inr rfl⟩, ⟨rfl, .inr rfl⟩, ⟨rfl, .inr rfl⟩, ⟨rfl, .inr rfl⟩, ⟨rfl, .inr rfl⟩, trivial⟩)⟩))
           rintro ⟨L25, v27⟩ τ5 Γ5 y5_ ⟨hl26, hw5⟩ h5_ ho5 hr5
           refine RunC.le (τ' := [(2, f32 a5), (3, i64 a6), (4, fn (.func 42) [] [ptr [i64 a7, sl a8.length (a8.map i64), sl a9.length (a9.map i64), sl a10.length (a10.map f32)]]), (5, ptr [i64 a0, sl a1.length (a1.map i64), sl a2.length (a2.map i64), sl a3.length (a3.map f32)]), (13, oref 5 (u12 + 1) 0 r24.length), (14, oref 1 u9 0 r4.length), (17, oref 2 u10 0 L16.length), (18, f32 y17), (19, i64 v18), (20, oref 3 (u11 + 1) 0 r20.length), (22, f32 x23), (60, oref 1 u9 0 r4.length), (61, f32 r19), (62, f32 a5), (63, b true), (77, f32 r21), (78, f32 y17), (79, oref 4 1 0 2), (80, b true), (81, b false), (91, i64 ((r4.length : Nat) : Int)), (92, i64 v27)]) (Γ' := [⟨u8, none⟩, ⟨u9, some (L25.map f32)⟩, ⟨u10, some (L16.map f32)⟩, ⟨(u11 + 1), some (r20.map f32)⟩, ⟨1, some (([r21, y17] : List F).map f32)⟩, ⟨(u12 + 1), some (r24.map f32)⟩]) hw5 ?_
           replace hl26 : L25.length = r4.length := hl26
           replace h5_ : i_gradients_4Fi_SparseWith_1_b2 r4 r20 x23 L25 v27 = some y5_ := h5_
           unfold i_gradients_4Fi_SparseWith_1_b2 at h5_
           refine RunC.seq ?_
           rcases bsel_some h5_ with ⟨hc22, h5_⟩ | ⟨hc22, h5_⟩
           ·refine RunC.regionW ?_
            refine zL (r := b true) rfl rfl rfl (LOp.eqb (LOp.lss rfl rfl rfl) hc22) ?_
            refine zN ?_
            refine RunC.seq ?_
            refine RunC.cond_true rfl rfl ?_
            refine RunC.skip ?_
            refine RunC.seq ?_
            refine RunC.block ?_
            refine zQ ?_
            refine zM (r := i64 v27) rfl rfl rfl rfl rfl ?_
            refine zA (r := i64 v27) rfl rfl rfl rfl rfl ?_
            refine zN ?_
            obtain ⟨e28, he23, h5_⟩ := obind_some h5_
            obtain ⟨e29, he24, h5_⟩ := obind_some h5_
            obtain ⟨r30, hf25, h5_⟩ := obind_some h5_
            obtain ⟨x31, hx26, h5_⟩ := olet_some h5_
            obtain ⟨L32, he27, h5_⟩ := obind_some h5_
            refine RunC.region_draw (Γ' := [⟨u8, none⟩, ⟨u9, some (L25.map f32)⟩, ⟨u10, some (L16.map f32)⟩, ⟨(u11 + 1), some (r20.map f32)⟩, ⟨1, some (([r21, y17] : List F).map f32)⟩, ⟨(u12 + 1), some (r24.map f32)⟩]) 12 mixed 
             (TR.l (r := oref 1 u9 0 r4.length) rfl rfl (LOp.move rfl rfl) <|
             (TR.l (r := i64 v27) rfl rfl (LOp.move rfl rfl) <|
             (TR.d (r := optr 1 u9 v27.toNat) (fs := []) rfl rfl (TOp.ixo und23 siz26 rfl rfl rfl (at_in he23 hl26) rfl) <|
             (TR.d (r := f32 e28) (fs := []) rfl rfl (TOp.load1_o rfl (at_cell he23) agg26 rfl rfl) <|
             (TR.l (r := f32 x23) rfl rfl (LOp.move rfl rfl) <|
             (TR.l (r := oref 3 (u11 + 1) 0 r20.length) rfl rfl (LOp.move rfl rfl) <|
             (TR.l (r := i64 v27) rfl rfl (LOp.move rfl rfl) <|
             (TR.d (r := optr 3 (u11 + 1) v27.toNat) (fs := []) rfl rfl (TOp.ixo und23 siz26 rfl rfl rfl (at_in he24 rfl) rfl) <|
             (TR.d (r := f32 e29) (fs := []) rfl rfl (TOp.load1_o rfl (at_cell he24) agg26 rfl rfl) <|
             (TR.d (r := f32 r30) (fs := []) rfl rfl (TOp.callB (CallAs.func ent92 rfl rfl) (Bors.cons (Bor.pure rfl) (Bors.cons (Bor.pure rfl) Bors.nil)) rfl rfl (i_mul_ok x23 e29 r30 hf25)) <|
             (TR.d (r := f32 x31) (fs := []) rfl rfl (TOp.eqr (TOp.fop (.inr (.inl rfl)) rfl (OpF.tmp rfl) (OpF.tmp rfl)) (congrArg (f .f32) hx26)) <|
             (TR.d (r := optr 1 u9 v27.toNat) (fs := []) rfl rfl (TOp.ixo und23 siz26 rfl rfl rfl (set_in he27 hl26) rfl) <|
             TR.nil)))))))))))) rfl (by kernel_rfl) rfl fills_nil rfl ?_
            iterate 12 refine ROps.dropS ?_
            refine ROps.drop0 ?_
            refine ROps.st (f := f32) (i := v27) (Γ' := [⟨u8, none⟩, ⟨u9, some (L32.map f32)⟩, ⟨u10, some (L16.map f32)⟩, ⟨(u11 + 1), some (r20.map f32)⟩, ⟨1, some (([r21, y17] : List F).map f32)⟩, ⟨(u12 + 1), some (r24.map f32)⟩]) rfl siz26 rfl rfl rfl aR rfl rfl rfl he27 rfl ?_
            refine zN ?_
            obtain ⟨x33, hx28, h5_⟩ := olet_some h5_
            refine RunC.regionW ?_
            refine zL (r := i64 x33) rfl rfl rfl (LOp.eqr (LOp.add rfl rfl rfl) (congrArg (ik .i64) hx28)) ?_
            refine zM (r := i64 x33) rfl rfl rfl rfl rfl ?_
            refine zN ?_
            cases Option.some.inj h5_
            exact ⟨_, rfl, ((setAt?_len he27).trans hl26), (Le.of ⟨aR, aR, aR, aR, aR, aR, aR, aR, aR, aR, aR, aR, aR, aR, aR, aR, aR, aR, aR, aR, aR, aR, trivial⟩ ⟨⟨rfl, .inl rfl⟩, ⟨rfl, .inr rfl⟩, ⟨rfl, .inr rfl⟩, ⟨rfl, .inr rfl⟩, ⟨rfl, .inr rfl⟩, ⟨rfl, .inr rfl⟩, trivial⟩)⟩
           ·refine RunC.regionW ?_
            refine zL (r := b false) rfl rfl rfl (LOp.eqb (LOp.lss rfl rfl rfl) hc22) ?_
            refine zN ?_
            refine RunC.seq ?_
            refine RunC.cond_false rfl rfl ?_
            refine RunC.exit ?_
            cases Option.some.inj h5_
            have hx := ho5 _ rfl
            exact ⟨L25, hl26, rfl, (Le.of ⟨aR, aR, aR, aR, aR, aR, aR, aR, aR, aR, aR, aR, aR, aR, aR, aR, aR, aR, trivial⟩ ⟨⟨rfl, .inl rfl⟩, ⟨rfl, .inr rfl⟩, ⟨rfl, .inr rfl⟩, ⟨rfl, .inl rfl⟩, ⟨rfl, .inr rfl⟩, ⟨rfl, .inr rfl⟩, trivial⟩), hx⟩
          ·rintro τ6 Γ6 ⟨L34, hl35, hl36, hw6, rfl⟩
           refine RunC.le hw6 ?_
           replace h4_ : i_gradients_4Fi_SparseWith_1_k2 a7 a8 a9 a10 L16 y17 v18 r24 L34 = some y4_ := h4_
           unfold i_gradients_4Fi_SparseWith_1_k2 at h4_
           refine RunC.seq ?_
           refine RunC.seq ?_
           obtain ⟨r37, r38, hf29, h4_⟩ := obind2_some h4_
           rcases bsel_some h4_ with ⟨hc30, h4_⟩ | ⟨hc30, h4_⟩
           ·refine RunC.regionW ?_
            refine zM (r := fn (.func 42) [] [ptr [i64 a7, sl a8.length (a8.map i64), sl a9.length (a9.map i64), sl a10.length (a10.map f32)]]) rfl rfl rfl rfl rfl ?_
            refine zM (r := oref 1 u9 0 r4.length) rfl rfl rfl rfl rfl ?_
            refine ROps.d (r := tup [oref 0 (u8 + 1) 0 r38.length, b r37]) (fs := [(0, (r38.map f32))]) (Γ' := [⟨(u8 + 1), some (r38.map f32)⟩, ⟨u9, some (L34.map f32)⟩, ⟨u10, some (L16.map f32)⟩, ⟨(u11 + 1), none⟩, ⟨1, some (([r21, y17] : List F).map f32)⟩, ⟨(u12 + 1), some (r24.map f32)⟩]) rfl rfl rfl (TOp.eqr (TOp.callBN (ls := [(r38.map f32)]) [0] (CallAs.fn ent42 rfl rfl rfl rfl) (Bors.cons (Bor.own (f := f32) (fun _ => rfl) rfl hl35) (Bors.cons (Bor.ptr (Bors.cons (Bor.pure rfl) (Bors.cons (Bor.sl (fun _ => rfl)) (Bors.cons (Bor.sl (fun _ => rfl)) (Bors.cons (Bor.sl (fun _ => rfl)) Bors.nil))))) Bors.nil)) rfl (i_SparseWith_1_ok L34 a7 a8 a9 a10 r37 r38 hf29) (and_all (lts0_map (f := f32) (fun _ => rfl) _) rfl) (and_all (noss_map (f := f32) (fun _ => rfl) _) rfl) rfl (by decide) (ns_of ⟨⟨_, rfl⟩, trivial⟩)) (by simp [ren, rens, sigma, newNames])) rfl ?_
            refine zM (r := tup [oref 0 (u8 + 1) 0 r38.length, b r37]) rfl rfl rfl rfl rfl ?_
            refine zL (r := oref 0 (u8 + 1) 0 r38.length) rfl rfl rfl (LOp.extract rfl rfl rfl) ?_
            refine zL (r := b true) rfl rfl rfl (LOp.eqb (LOp.extract rfl rfl rfl) hc30) ?_
            refine zA (r := oref 0 (u8 + 1) 0 r38.length) rfl rfl rfl rfl rfl ?_
            refine zA (r := b true) rfl rfl rfl rfl rfl ?_
            refine zN ?_
            refine zQ ?_
            refine zM (r := b true) rfl rfl rfl rfl rfl ?_
            refine zL (r := b false) rfl rfl rfl (LOp.eqb (LOp.not rfl rfl) rfl) ?_
            refine zN ?_
            refine RunC.cond_false rfl rfl ?_
            refine RunC.skip ?_
            refine RunC.seq ?_
            obtain ⟨r39, hf31, h4_⟩ := obind_some h4_
            refine RunC.regionW ?_
            refine zM (r := oref 1 u9 0 r4.length) rfl rfl rfl rfl rfl ?_
            refine zM (r := oref 0 (u8 + 1) 0 r38.length) rfl rfl rfl rfl rfl ?_
            refine ROps.d (r := f32 r39) (fs := []) (Γ' := [⟨(u8 + 1), some (r38.map f32)⟩, ⟨u9, some (L34.map f32)⟩, ⟨u10, some (L16.map f32)⟩, ⟨(u11 + 1), none⟩, ⟨1, some (([r21, y17] : List F).map f32)⟩, ⟨(u12 + 1), some (r24.map f32)⟩]) rfl rfl rfl (TOp.callB (CallAs.func ent87 rfl rfl) (Bors.cons (Bor.own (f := f32) (fun _ => rfl) rfl hl35) (Bors.cons (Bor.own (f := f32) (fun _ => rfl) rfl rfl) Bors.nil)) rfl rfl (i_dot_ok L34 r38 r39 hf31)) rfl ?_
            refine zA (r := f32 r39) rfl rfl rfl rfl rfl ?_
            refine zN ?_
            refine RunC.seq ?_
            obtain ⟨x40, hx32, h4_⟩ := olet_some h4_
            obtain ⟨r41, hf33, h4_⟩ := obind_some h4_
            refine RunC.regionW ?_
            refine zM (r := oref 0 (u8 + 1) 0 r38.length) rfl rfl rfl rfl rfl ?_
            refine zM (r := f32 r39) rfl rfl rfl rfl rfl ?_
            refine zM (r := f32 y17) rfl rfl rfl rfl rfl ?_
            refine ROps.d (r := f32 x40) (fs := []) (Γ' := [⟨(u8 + 1), some (r38.map f32)⟩, ⟨u9, some (L34.map f32)⟩, ⟨u10, some (L16.map f32)⟩, ⟨(u11 + 1), none⟩, ⟨1, some (([r21, y17] : List F).map f32)⟩, ⟨(u12 + 1), some (r24.map f32)⟩]) rfl rfl rfl (TOp.eqr (TOp.fop (.inr (.inr (.inr rfl))) rfl (OpF.tmp rfl) (OpF.tmp rfl)) (congrArg (f .f32) hx32)) rfl ?_
            refine zM (r := oref 2 u10 0 L16.length) rfl rfl rfl rfl rfl ?_
            refine ROps.d (r := oref 3 (u11 + 2) 0 r41.length) (fs := [(3, (r41.map f32))]) (Γ' := [⟨(u8 + 1), some (r38.map f32)⟩, ⟨u9, some (L34.map f32)⟩, ⟨u10, some (L16.map f32)⟩, ⟨(u11 + 2), some (r41.map f32)⟩, ⟨1, some (([r21, y17] : List F).map f32)⟩, ⟨(u12 + 1), some (r24.map f32)⟩]) rfl rfl rfl (TOp.eqr (TOp.callBN (ls := [(r41.map f32)]) [3] (CallAs.func ent91 rfl rfl) (Bors.cons (Bor.own (f := f32) (fun _ => rfl) rfl rfl) (Bors.cons (Bor.pure rfl) (Bors.cons (Bor.own (f := f32) (fun _ => rfl) rfl rfl) Bors.nil))) rfl (i_plusTimes_ok r38 x40 L16 r41 hf33) (and_all (lts0_map (f := f32) (fun _ => rfl) _) rfl) (and_all (noss_map (f := f32) (fun _ => rfl) _) rfl) rfl (by decide) (ns_of ⟨⟨_, rfl⟩, trivial⟩)) (by simp [ren, rens, sigma, newNames])) rfl ?_
            refine zA (r := oref 3 (u11 + 2) 0 r41.length) rfl rfl rfl rfl rfl ?_
            refine zN ?_
            refine RunC.wl (τ' := [(2, f32 a5), (3, i64 a6), (4, fn (.func 42) [] [ptr [i64 a7, sl a8.length (a8.map i64), sl a9.length (a9.map i64), sl a10.length (a10.map f32)]]), (5, ptr [i64 a0, sl a1.length (a1.map i64), sl a2.length (a2.map i64), sl a3.length (a3.map f32)]), (13, oref 5 (u12 + 1) 0 r24.length), (14, oref 1 u9 0 r4.length), (17, oref 3 (u11 + 2) 0 r41.length), (19, i64 v18), (24, f32 r39), (60, oref 1 u9 0 r4.length), (61, f32 r19), (62, f32 a5), (63, b true), (77, f32 r21), (78, f32 y17), (79, oref 4 1 0 2), (80, b true), (81, b false)]) (Γ' := [⟨(u8 + 1), none⟩, ⟨u9, some (L34.map f32)⟩, ⟨u10, none⟩, ⟨(u11 + 2), some (r41.map f32)⟩, ⟨1, some (([r21, y17] : List F).map f32)⟩, ⟨(u12 + 1), some (r24.map f32)⟩]) ⟨aR, aR, aR, aR, aR, aR, aR, aR, aR, aR, aR, aR, aR, aR, aR, aR, aR, aR, trivial⟩ ⟨⟨rfl, .inl rfl⟩, ⟨rfl, .inr rfl⟩, ⟨rfl, .inl rfl⟩, ⟨rfl, .inr rfl⟩, ⟨rfl, .inr rfl⟩, ⟨rfl, .inr rfl⟩, trivial⟩ ?_
            refine RunC.regionW ?_
            refine zM (r := f32 r39) rfl rfl rfl rfl rfl ?_
            refine zA (r := f32 r39) rfl rfl rfl rfl rfl ?_
            refine zN ?_
            obtain ⟨x42, hx34, h4_⟩ := olet_some h4_
            refine RunC.regionW ?_
            refine zM (r := i64 v18) rfl rfl rfl rfl rfl ?_
            refine zL (r := i64 x42) rfl rfl rfl (LOp.eqr (LOp.add rfl rfl rfl) (congrArg (ik .i64) hx34)) ?_
            refine zA (r := i64 x42) rfl rfl rfl rfl rfl ?_
            refine zN ?_
            cases Option.some.inj h4_
            exact ⟨_, rfl, 0, 0, 0, (u8 + 1), u10, hl35, (Le.trans (Le.sel [(5, (u12 + 1)), (1, u9), (3, (u11 + 2)), (0, 0), (4, 1), (2, 0)] [(2, f32 a5), (3, i64 a6), (4, fn (.func 42) [] [ptr [i64 a7, sl a8.length (a8.map i64), sl a9.length (a9.map i64), sl a10.length (a10.map f32)]]), (5, ptr [i64 a0, sl a1.length (a1.map i64), sl a2.length (a2.map i64), sl a3.length (a3.map f32)]), (13, oref 0 0 0 r24.length), (14, oref 1 0 0 r4.length), (17, oref 2 0 0 r41.length), (18, f32 r39), (19, i64 x42)] [⟨0, some (r24.map f32)⟩, ⟨0, some (L34.map f32)⟩, ⟨0, some (r41.map f32)⟩, ⟨(u8 + 1), none⟩, ⟨0, some (([r21, y17] : List F).map f32)⟩, ⟨u10, none⟩] rfl (SelOk.of (show List.Nodup [5, 1, 3, 0, 4, 2] from by decide) (SelL.arr0 (f := f32) (fun _ => rfl) rfl (SelL.arr0 (f := f32) (fun _ => rfl) rfl (SelL.arr0 (f := f32) (fun _ => rfl) rfl ⟨⟨_, rfl⟩, (SelL.arr0 (f := f32) (fun _ => rfl) rfl ⟨⟨_, rfl⟩, trivial⟩)⟩)))) ⟨⟨_, rfl, .inl ⟨rfl, rfl⟩⟩, ⟨_, rfl, .inl ⟨rfl, rfl⟩⟩, ⟨_, rfl, .inl ⟨rfl, (lt_fn lts_nil (lts_cons (lt_ptr (lts_cons rfl (lts_cons (lt_sl (fun _ => rfl)) (lts_cons (lt_sl (fun _ => rfl)) (lts_cons (lt_sl (fun _ => rfl)) lts_nil))))) lts_nil))⟩⟩, ⟨_, rfl, .inl ⟨rfl, (lt_ptr (lts_cons rfl (lts_cons (lt_sl (fun _ => rfl)) (lts_cons (lt_sl (fun _ => rfl)) (lts_cons (lt_sl (fun _ => rfl)) lts_nil)))))⟩⟩, ⟨oref 5 (u12 + 1) 0 r24.length, rfl, .inr ⟨by first | rfl | simp [ren, rens, sigma, rens_f32, rens_f64, rens_i64, rens_ik, rens_str, rens_cp], rfl⟩⟩, ⟨oref 1 u9 0 r4.length, rfl, .inr ⟨by first | rfl | simp [ren, rens, sigma, rens_f32, rens_f64, rens_i64, rens_ik, rens_str, rens_cp], rfl⟩⟩, ⟨oref 3 (u11 + 2) 0 r41.length, rfl, .inr ⟨by first | rfl | simp [ren, rens, sigma, rens_f32, rens_f64, rens_i64, rens_ik, rens_str, rens_cp], rfl⟩⟩, ⟨_, rfl, .inl ⟨rfl, rfl⟩⟩, ⟨_, rfl, .inl ⟨rfl, rfl⟩⟩, trivial⟩) (Le.of ⟨aR, aR, aR, aR, aR, (by first | exact ALe.refl _ | exact ALe.eq (by rw [hl35] <;> rfl) | exact ALe.eq (by simp)), aR, aR, aR, trivial⟩ ⟨⟨rfl, .inr rfl⟩, ⟨rfl, .inr rfl⟩, ⟨rfl, .inr rfl⟩, ⟨rfl, .inl rfl⟩, ⟨rfl, .inl rfl⟩, ⟨rfl, .inl rfl⟩, trivial⟩))⟩
           ·refine RunC.regionW ?_
            refine zM (r := fn (.func 42) [] [ptr [i64 a7, sl a8.length (a8.map i64), sl a9.length (a9.map i64), sl a10.length (a10.map f32)]]) rfl rfl rfl rfl rfl ?_
            refine zM (r := oref 1 u9 0 r4.length) rfl rfl rfl rfl rfl ?_
            refine ROps.d (r := tup [oref 0 (u8 + 1) 0 r38.length, b r37]) (fs := [(0, (r38.map f32))]) (Γ' := [⟨(u8 + 1), some (r38.map f32)⟩, ⟨u9, some (L34.map f32)⟩, ⟨u10, some (L16.map f32)⟩, ⟨(u11 + 1), none⟩, ⟨1, some (([r21, y17] : List F).map f32)⟩, ⟨(u12 + 1), some (r24.map f32)⟩]) rfl rfl rfl (TOp.eqr (TOp.callBN (ls := [(r38.map f32)]) [0] (CallAs.fn ent42 rfl rfl rfl rfl) (Bors.cons (Bor.own (f := f32) (fun _ => rfl) rfl hl35) (Bors.cons (Bor.ptr (Bors.cons (Bor.pure rfl) (Bors.cons (Bor.sl (fun _ => rfl)) (Bors.cons (Bor.sl (fun _ => rfl)) (Bors.cons (Bor.sl (fun _ => rfl)) Bors.nil))))) Bors.nil)) rfl (i_SparseWith_1_ok L34 a7 a8 a9 a10 r37 r38 hf29) (and_all (lts0_map (f := f32) (fun _ => rfl) _) rfl) (and_all (noss_map (f := f32) (fun _ => rfl) _) rfl) rfl (by decide) (ns_of ⟨⟨_, rfl⟩, trivial⟩)) (by simp [ren, rens, sigma, newNames])) rfl ?_
            refine zM (r := tup [oref 0 (u8 + 1) 0 r38.length, b r37]) rfl rfl rfl rfl rfl ?_
            refine zL (r := oref 0 (u8 + 1) 0 r38.length) rfl rfl rfl (LOp.extract rfl rfl rfl) ?_
            refine zL (r := b false) rfl rfl rfl (LOp.eqb (LOp.extract rfl rfl rfl) hc30) ?_
            refine zA (r := oref 0 (u8 + 1) 0 r38.length) rfl rfl rfl rfl rfl ?_
            refine zA (r := b false) rfl rfl rfl rfl rfl ?_
            refine zN ?_
            refine zQ ?_
            refine zM (r := b false) rfl rfl rfl rfl rfl ?_
            refine zL (r := b true) rfl rfl rfl (LOp.eqb (LOp.not rfl rfl) rfl) ?_
            refine zN ?_
            refine RunC.cond_true rfl rfl ?_
            refine zQ ?_
            refine zA (r := nilsl) rfl rfl rfl rfl rfl ?_
            refine zA (r := i64 0) rfl rfl rfl rfl rfl ?_
            refine zA (r := b false) rfl rfl rfl rfl rfl ?_
            refine zN ?_
            refine RunC.nil_slot (Γ' := [⟨(u8 + 1), some (r38.map f32)⟩, ⟨u9, some (L34.map f32)⟩, ⟨u10, some (L16.map f32)⟩, ⟨(u11 + 2), some (([] : List F).map f32)⟩, ⟨1, some (([r21, y17] : List F).map f32)⟩, ⟨(u12 + 1), some (r24.map f32)⟩]) 10 3 rfl rfl rfl ?_
            refine RunC.ret ?_
            cases Option.some.inj h4_
            have hx7_ := hr4 _ rfl
            subst hx7_
            have hq := Option.some.inj h
            obtain ⟨hq0, hq⟩ := Prod.mk.inj hq
            obtain ⟨hq1, hq⟩ := Prod.mk.inj hq
            subst q0
            subst q1
            subst q2
            exact bodyQ.mk (r' := tup [oref 3 (u11 + 2) 0 (([] : List F).length), i64 0, b false]) [(3, (u11 + 2))] (.inr rfl) rfl (show List.Nodup [3] from by decide) (by simp [ren, rens, sigma]) rfl (Res.eq (Res.three rfl (RV.tmp rfl) (RV.tmp rfl) (RV.tmp rfl)) (by rw [(show ([] : List F).length = 0 from rfl)] <;> rfl)) (SelL.arr0 (f := f32) (fun _ => rfl) rfl trivial)
         ·refine RunC.regionW ?_
          refine zM (r := f32 r21) rfl rfl rfl rfl rfl ?_
          refine zL (r := b true) rfl rfl rfl (LOp.eqb (LOp.fgt rfl (OpF.tmp rfl) (OpF.const rfl (by kernel_rfl) (by kernel_rfl))) hc17) ?_
          refine zL (r := b false) rfl rfl rfl (LOp.eqb (LOp.not rfl rfl) rfl) ?_
          refine zM (r := b false) rfl rfl rfl rfl rfl ?_
          refine zM (r := f32 r21) rfl rfl rfl rfl rfl ?_
          refine zM (r := f32 y17) rfl rfl rfl rfl rfl ?_
          refine ROps.d (r := oref 4 1 0 2) (fs := [(4, (([r21, y17] : List F).map f32))]) (Γ' := [⟨u8, some (L13.map f32)⟩, ⟨u9, some (L14.map f32)⟩, ⟨u10, some (L16.map f32)⟩, ⟨(u11 + 1), some (r20.map f32)⟩, ⟨1, some (([r21, y17] : List F).map f32)⟩, ⟨u12, none⟩]) rfl rfl rfl (TOp.buildSlice_o (g := ⟨0, none⟩) (za := f32 (some 0)) (qs := [(0, [f32 r21]), (1, [f32 y17])]) 4 rfl und23 siz26 zer26 rfl zel26 rfl rfl ⟨rfl, ⟨_, ALe.refl _, rfl⟩, ⟨rfl, ⟨_, ALe.refl _, rfl⟩, trivial⟩⟩ rfl) rfl ?_
          refine ROps.d (r := b false) (fs := []) (Γ' := [⟨u8, some (L13.map f32)⟩, ⟨u9, some (L14.map f32)⟩, ⟨u10, some (L16.map f32)⟩, ⟨(u11 + 1), some (r20.map f32)⟩, ⟨1, some (([r21, y17] : List F).map f32)⟩, ⟨u12, none⟩]) rfl rfl rfl (TOp.eqb (TOp.callB (CallAs.func ent90 rfl rfl) (Bors.cons (Bor.own (f := f32) (fun _ => rfl) rfl rfl) Bors.nil) rfl rfl (i_areFinite_ok ([r21, y17] : List F) r22 hf18)) hc19) rfl ?_
          refine zL (r := b true) rfl rfl rfl (LOp.eqb (LOp.not rfl rfl) rfl) ?_
          refine zL (r := b true) rfl rfl rfl (LOp.pick_false rfl rfl rfl) ?_
          refine zN ?_
          refine RunC.cond_true rfl rfl ?_
          refine zQ ?_
          refine zA (r := nilsl) rfl rfl rfl rfl rfl ?_
          refine zA (r := i64 0) rfl rfl rfl rfl rfl ?_
          refine zA (r := b false) rfl rfl rfl rfl rfl ?_
          refine zN ?_
          refine RunC.nil_slot (Γ' := [⟨u8, some (L13.map f32)⟩, ⟨u9, some (L14.map f32)⟩, ⟨u10, some (L16.map f32)⟩, ⟨(u11 + 1), some (r20.map f32)⟩, ⟨1, some (([r21, y17] : List F).map f32)⟩, ⟨(u12 + 1), some (([] : List F).map f32)⟩]) 10 5 rfl rfl rfl ?_
          refine RunC.ret ?_
          cases Option.some.inj h4_
          have hx8_ := hr4 _ rfl
          subst hx8_
          have hq := Option.some.inj h
          obtain ⟨hq0, hq⟩ := Prod.mk.inj hq
          obtain ⟨hq1, hq⟩ := Prod.mk.inj hq
          subst q0
          subst q1
          subst q2
          exact bodyQ.mk (r' := tup [oref 5 (u12 + 1) 0 (([] : List F).length), i64 0, b false]) [(5, (u12 + 1))] (.inr rfl) rfl (show List.Nodup [5] from by decide) (by simp [ren, rens, sigma]) rfl (Res.eq (Res.three rfl (RV.tmp rfl) (RV.tmp rfl) (RV.tmp rfl)) (by rw [(show ([] : List F).length = 0 from rfl)] <;> rfl)) (SelL.arr0 (f := f32) (fun _ => rfl) rfl trivial)
        ·refine RunC.regionW ?_
         refine zM (r := f32 r21) rfl rfl rfl rfl rfl ?_
         refine zL (r := b false) rfl rfl rfl (LOp.eqb (LOp.fgt rfl (OpF.tmp rfl) (OpF.const rfl (by kernel_rfl) (by kernel_rfl))) hc17) ?_
         refine zL (r := b true) rfl rfl rfl (LOp.eqb (LOp.not rfl rfl) rfl) ?_
         refine zM (r := b true) rfl rfl rfl rfl rfl ?_
         refine ROps.s rfl rfl rfl ?_
         refine ROps.s rfl rfl rfl ?_
         refine ROps.s rfl rfl rfl ?_
         refine ROps.s rfl rfl rfl ?_
         refine ROps.s rfl rfl rfl ?_
         refine zL (r := b true) rfl rfl rfl (LOp.pick_true rfl rfl rfl) ?_
         refine zN ?_
         refine RunC.cond_true rfl rfl ?_
         refine zQ ?_
         refine zA (r := nilsl) rfl rfl rfl rfl rfl ?_
         refine zA (r := i64 0) rfl rfl rfl rfl rfl ?_
         refine zA (r := b false) rfl rfl rfl rfl rfl ?_
         refine zN ?_
         refine RunC.nil_slot (Γ' := [⟨u8, some (L13.map f32)⟩, ⟨u9, some (L14.map f32)⟩, ⟨u10, some (L16.map f32)⟩, ⟨(u11 + 1), some (r20.map f32)⟩, ⟨1, some (([] : List F).map f32)⟩, ⟨u12, none⟩]) 10 4 rfl rfl rfl ?_
         refine RunC.ret ?_
         cases Option.some.inj h4_
         have hx9_ := hr4 _ rfl
         subst hx9_
         have hq := Option.some.inj h
         obtain ⟨hq0, hq⟩ := Prod.mk.inj hq
         obtain ⟨hq1, hq⟩ := Prod.mk.inj hq
         subst q0
         subst q1
         subst q2
         exact bodyQ.mk (r' := tup [oref 4 1 0 (([] : List F).length), i64 0, b false]) [(4, 1)] (.inr rfl) rfl (show List.Nodup [4] from by decide) rfl rfl (Res.eq (Res.three rfl (RV.tmp rfl) (RV.tmp rfl) (RV.tmp rfl)) (by rw [(show ([] : List F).length = 0 from rfl)] <;> rfl)) (SelL.arr0 (f := f32) (fun _ => rfl) rfl trivial)
       ·refine RunC.regionW ?_
        refine zM (r := i64 v18) rfl rfl rfl rfl rfl ?_
        refine zM (r := i64 a6) rfl rfl rfl rfl rfl ?_
        refine zL (r := b true) rfl rfl rfl (LOp.eqb (LOp.lss rfl rfl rfl) hc12) ?_
        refine zM (r := b true) rfl rfl rfl rfl rfl ?_
        refine zM (r := oref 1 u9 0 r4.length) rfl rfl rfl rfl rfl ?_
        refine ROps.d (r := f32 r19) (fs := []) (Γ' := [⟨u8, some (L13.map f32)⟩, ⟨u9, some (L14.map f32)⟩, ⟨u10, some (L16.map f32)⟩, ⟨u11, none⟩, ⟨0, none⟩, ⟨u12, none⟩]) rfl rfl rfl (TOp.callB (CallAs.func ent88 rfl rfl) (Bors.cons (Bor.own (f := f32) (fun _ => rfl) rfl hl15) Bors.nil) rfl rfl (i_norm_ok L14 r19 hf13)) rfl ?_
        refine zM (r := f32 a5) rfl rfl rfl rfl rfl ?_
        refine zL (r := b false) rfl rfl rfl (LOp.eqb (LOp.fgt rfl (OpF.tmp rfl) (OpF.tmp rfl)) hc14) ?_
        refine zL (r := b false) rfl rfl rfl (LOp.pick_true rfl rfl rfl) ?_
        refine zN ?_
        refine RunC.cond_false rfl rfl ?_
        refine RunC.exit ?_
        cases Option.some.inj h4_
        have hx := ho4 _ rfl
        exact ⟨L13, L14, v18, u8, u9, u10, u11, u12, hl15, (Le.of ⟨aR, aR, (by first | exact ALe.refl _ | exact ALe.eq (by rw [hl15] <;> rfl) | exact ALe.eq (by simp)), aR, trivial⟩ ⟨⟨rfl, .inr rfl⟩, ⟨rfl, .inr rfl⟩, ⟨rfl, .inl rfl⟩, ⟨rfl, .inl rfl⟩, ⟨rfl, .inl rfl⟩, ⟨rfl, .inl rfl⟩, trivial⟩), hx⟩
      ·refine RunC.regionW ?_
       refine zM (r := i64 v18) rfl rfl rfl rfl rfl ?_
       refine zM (r := i64 a6) rfl rfl rfl rfl rfl ?_
       refine zL (r := b false) rfl rfl rfl (LOp.eqb (LOp.lss rfl rfl rfl) hc12) ?_
       refine zM (r := b false) rfl rfl rfl rfl rfl ?_
       refine ROps.s rfl rfl rfl ?_
       refine ROps.s rfl rfl rfl ?_
       refine ROps.s rfl rfl rfl ?_
       refine ROps.s rfl rfl rfl ?_
       refine zL (r := b false) rfl rfl rfl (LOp.pick_false rfl rfl rfl) ?_
       refine zN ?_
       refine RunC.cond_false rfl rfl ?_
       refine RunC.exit ?_
       cases Option.some.inj h4_
       have hx := ho4 _ rfl
       exact ⟨L13, L14, v18, u8, u9, u10, u11, u12, hl15, (Le.of ⟨aR, aR, (by first | exact ALe.refl _ | exact ALe.eq (by rw [hl15] <;> rfl) | exact ALe.eq (by simp)), aR, trivial⟩ ⟨⟨rfl, .inr rfl⟩, ⟨rfl, .inr rfl⟩, ⟨rfl, .inl rfl⟩, ⟨rfl, .inl rfl⟩, ⟨rfl, .inl rfl⟩, ⟨rfl, .inl rfl⟩, trivial⟩), hx⟩
     ·rintro τ10 Γ10 ⟨L48, L49, v51, u43, u44, u45, u46, u47, hl50, hw10, rfl⟩
      refine RunC.le hw10 ?_
      replace h : i_gradients_4Fi_SparseWith_1_k3 a5 L48 L49 v51 = some (q0, q1, q2) := h
      unfold i_gradients_4Fi_SparseWith_1_k3 at h
      refine RunC.seq ?_
      refine RunC.seq ?_
      obtain ⟨r52, hf35, h⟩ := obind_some h
      rcases bsel_some h with ⟨hc36, h⟩ | ⟨hc36, h⟩
      ·obtain ⟨r53, hf37, h⟩ := obind_some h
       rcases bsel_some h with ⟨hc38, h⟩ | ⟨hc38, h⟩
       ·refine RunC.regionW ?_
        refine zM (r := oref 1 u44 0 r4.length) rfl rfl rfl rfl rfl ?_
        refine ROps.d (r := f32 r52) (fs := []) (Γ' := [⟨u43, some (L48.map f32)⟩, ⟨u44, some (L49.map f32)⟩, ⟨u45, none⟩, ⟨u46, none⟩, ⟨0, none⟩, ⟨u47, none⟩]) rfl rfl rfl (TOp.callB (CallAs.func ent88 rfl rfl) (Bors.cons (Bor.own (f := f32) (fun _ => rfl) rfl hl50) Bors.nil) rfl rfl (i_norm_ok L49 r52 hf35)) rfl ?_
        refine zM (r := f32 a5) rfl rfl rfl rfl rfl ?_
        refine zL (r := b true) rfl rfl rfl (LOp.eqb (LOp.fle rfl (OpF.tmp rfl) (OpF.tmp rfl)) hc36) ?_
        refine zL (r := b false) rfl rfl rfl (LOp.eqb (LOp.not rfl rfl) rfl) ?_
        refine zM (r := b false) rfl rfl rfl rfl rfl ?_
        refine zM (r := oref 0 u43 0 L48.length) rfl rfl rfl rfl rfl ?_
        refine ROps.d (r := b true) (fs := []) (Γ' := [⟨u43, some (L48.map f32)⟩, ⟨u44, some (L49.map f32)⟩, ⟨u45, none⟩, ⟨u46, none⟩, ⟨0, none⟩, ⟨u47, none⟩]) rfl rfl rfl (TOp.eqb (TOp.callB (CallAs.func ent90 rfl rfl) (Bors.cons (Bor.own (f := f32) (fun _ => rfl) rfl rfl) Bors.nil) rfl rfl (i_areFinite_ok L48 r53 hf37)) hc38) rfl ?_
        refine zL (r := b false) rfl rfl rfl (LOp.eqb (LOp.not rfl rfl) rfl) ?_
        refine zL (r := b false) rfl rfl rfl (LOp.pick_false rfl rfl rfl) ?_
        refine zN ?_
        refine RunC.wl (τ' := [(13, oref 0 u43 0 L48.length), (19, i64 v51), (135, b false)]) (Γ' := [⟨u43, some (L48.map f32)⟩, ⟨u44, none⟩, ⟨u45, none⟩, ⟨u46, none⟩, ⟨0, none⟩, ⟨u47, none⟩]) ⟨aR, aR, aR, trivial⟩ ⟨⟨rfl, .inr rfl⟩, ⟨rfl, .inl rfl⟩, ⟨rfl, .inl rfl⟩, ⟨rfl, .inl rfl⟩, ⟨rfl, .inl rfl⟩, ⟨rfl, .inl rfl⟩, trivial⟩ ?_
        refine RunC.cond_false rfl rfl ?_
        refine RunC.skip ?_
        refine zQ ?_
        refine zM (r := oref 0 u43 0 L48.length) rfl rfl rfl rfl rfl ?_
        refine zM (r := i64 v51) rfl rfl rfl rfl rfl ?_
        refine zA (r := oref 0 u43 0 L48.length) rfl rfl rfl rfl rfl ?_
        refine zA (r := i64 v51) rfl rfl rfl rfl rfl ?_
        refine zA (r := b true) rfl rfl rfl rfl rfl ?_
        refine zN ?_
        refine RunC.ret ?_
        have hq := Option.some.inj h
        obtain ⟨hq0, hq⟩ := Prod.mk.inj hq
        obtain ⟨hq1, hq⟩ := Prod.mk.inj hq
        subst q0
        subst q1
        subst q2
        exact bodyQ.mk (r' := tup [oref 0 u43 0 L48.length, i64 v51, b true]) [(0, u43)] (.inr rfl) rfl (show List.Nodup [0] from by decide) (by simp [ren, rens, sigma]) rfl (Res.three rfl (RV.tmp rfl) (RV.tmp rfl) (RV.tmp rfl)) (SelL.arr0 (f := f32) (fun _ => rfl) rfl trivial)
       ·refine RunC.regionW ?_
        refine zM (r := oref 1 u44 0 r4.length) rfl rfl rfl rfl rfl ?_
        refine ROps.d (r := f32 r52) (fs := []) (Γ' := [⟨u43, some (L48.map f32)⟩, ⟨u44, some (L49.map f32)⟩, ⟨u45, none⟩, ⟨u46, none⟩, ⟨0, none⟩, ⟨u47, none⟩]) rfl rfl rfl (TOp.callB (CallAs.func ent88 rfl rfl) (Bors.cons (Bor.own (f := f32) (fun _ => rfl) rfl hl50) Bors.nil) rfl rfl (i_norm_ok L49 r52 hf35)) rfl ?_
        refine zM (r := f32 a5) rfl rfl rfl rfl rfl ?_
        refine zL (r := b true) rfl rfl rfl (LOp.eqb (LOp.fle rfl (OpF.tmp rfl) (OpF.tmp rfl)) hc36) ?_
        refine zL (r := b false) rfl rfl rfl (LOp.eqb (LOp.not rfl rfl) rfl) ?_
        refine zM (r := b false) rfl rfl rfl rfl rfl ?_
        refine zM (r := oref 0 u43 0 L48.length) rfl rfl rfl rfl rfl ?_
        refine ROps.d (r := b false) (fs := []) (Γ' := [⟨u43, some (L48.map f32)⟩, ⟨u44, some (L49.map f32)⟩, ⟨u45, none⟩, ⟨u46, none⟩, ⟨0, none⟩, ⟨u47, none⟩]) rfl rfl rfl (TOp.eqb (TOp.callB (CallAs.func ent90 rfl rfl) (Bors.cons (Bor.own (f := f32) (fun _ => rfl) rfl rfl) Bors.nil) rfl rfl (i_areFinite_ok L48 r53 hf37)) hc38) rfl ?_
        refine zL (r := b true) rfl rfl rfl (LOp.eqb (LOp.not rfl rfl) rfl) ?_
        refine zL (r := b true) rfl rfl rfl (LOp.pick_false rfl rfl rfl) ?_
        refine zN ?_
        refine RunC.wl (τ' := [(13, oref 0 u43 0 L48.length), (19, i64 v51), (135, b true)]) (Γ' := [⟨u43, some (L48.map f32)⟩, ⟨u44, none⟩, ⟨u45, none⟩, ⟨u46, none⟩, ⟨0, none⟩, ⟨u47, none⟩]) ⟨aR, aR, aR, trivial⟩ ⟨⟨rfl, .inr rfl⟩, ⟨rfl, .inl rfl⟩, ⟨rfl, .inl rfl⟩, ⟨rfl, .inl rfl⟩, ⟨rfl, .inl rfl⟩, ⟨rfl, .inl rfl⟩, trivial⟩ ?_
        refine RunC.cond_true rfl rfl ?_
        refine zQ ?_
        refine zA (r := nilsl) rfl rfl rfl rfl rfl ?_
        refine zA (r := i64 0) rfl rfl rfl rfl rfl ?_
        refine zA (r := b false) rfl rfl rfl rfl rfl ?_
        refine zN ?_
        refine RunC.nil_slot (Γ' := [⟨u43, some (L48.map f32)⟩, ⟨(u44 + 1), some (([] : List F).map f32)⟩, ⟨u45, none⟩, ⟨u46, none⟩, ⟨0, none⟩, ⟨u47, none⟩]) 10 1 rfl rfl rfl ?_
        refine RunC.ret ?_
        have hq := Option.some.inj h
        obtain ⟨hq0, hq⟩ := Prod.mk.inj hq
        obtain ⟨hq1, hq⟩ := Prod.mk.inj hq
        subst q0
        subst q1
        subst q2
        exact bodyQ.mk (r' := tup [oref 1 (u44 + 1) 0 (([] : List F).length), i64 0, b false]) [(1, (u44 + 1))] (.inr rfl) rfl (show List.Nodup [1] from by decide) (by simp [ren, rens, sigma]) rfl (Res.eq (Res.three rfl (RV.tmp rfl) (RV.tmp rfl) (RV.tmp rfl)) (by rw [(show ([] : List F).length = 0 from rfl)] <;> rfl)) (SelL.arr0 (f := f32) (fun _ => rfl) rfl trivial)
      ·refine RunC.regionW ?_
       refine zM (r := oref 1 u44 0 r4.length) rfl rfl rfl rfl rfl ?_
       refine ROps.d (r := f32 r52) (fs := []) (Γ' := [⟨u43, some (L48.map f32)⟩, ⟨u44, some (L49.map f32)⟩, ⟨u45, none⟩, ⟨u46, none⟩, ⟨0, none⟩, ⟨u47, none⟩]) rfl rfl rfl (TOp.callB (CallAs.func ent88 rfl rfl) (Bors.cons (Bor.own (f := f32) (fun _ => rfl) rfl hl50) Bors.nil) rfl rfl (i_norm_ok L49 r52 hf35)) rfl ?_
       refine zM (r := f32 a5) rfl rfl rfl rfl rfl ?_
       refine zL (r := b false) rfl rfl rfl (LOp.eqb (LOp.fle rfl (OpF.tmp rfl) (OpF.tmp rfl)) hc36) ?_
       refine zL (r := b true) rfl rfl rfl (LOp.eqb (LOp.not rfl rfl) rfl) ?_
       refine zM (r := b true) rfl rfl rfl rfl rfl ?_
       refine ROps.s rfl rfl rfl ?_
       refine ROps.s rfl rfl rfl ?_
       refine ROps.s rfl rfl rfl ?_
       refine zL (r := b true) rfl rfl rfl (LOp.pick_true rfl rfl rfl) ?_
       refine zN ?_
       refine RunC.wl (τ' := [(13, oref 0 u43 0 L48.length), (19, i64 v51), (135, b true)]) (Γ' := [⟨u43, some (L48.map f32)⟩, ⟨u44, none⟩, ⟨u45, none⟩, ⟨u46, none⟩, ⟨0, none⟩, ⟨u47, none⟩]) ⟨aR, aR, aR, trivial⟩ ⟨⟨rfl, .inr rfl⟩, ⟨rfl, .inl rfl⟩, ⟨rfl, .inl rfl⟩, ⟨rfl, .inl rfl⟩, ⟨rfl, .inl rfl⟩, ⟨rfl, .inl rfl⟩, trivial⟩ ?_
       refine RunC.cond_true rfl rfl ?_
       refine zQ ?_
       refine zA (r := nilsl) rfl rfl rfl rfl rfl ?_
       refine zA (r := i64 0) rfl rfl rfl rfl rfl ?_
       refine zA (r := b false) rfl rfl rfl rfl rfl ?_
       refine zN ?_
       refine RunC.nil_slot (Γ' := [⟨u43, some (L48.map f32)⟩, ⟨(u44 + 1), some (([] : List F).map f32)⟩, ⟨u45, none⟩, ⟨u46, none⟩, ⟨0, none⟩, ⟨u47, none⟩]) 10 1 rfl rfl rfl ?_
       refine RunC.ret ?_
       have hq := Option.some.inj h
       obtain ⟨hq0, hq⟩ := Prod.mk.inj hq
       obtain ⟨hq1, hq⟩ := Prod.mk.inj hq
       subst q0
       subst q1
       subst q2
       exact bodyQ.mk (r' := tup [oref 1 (u44 + 1) 0 (([] : List F).length), i64 0, b false]) [(1, (u44 + 1))] (.inr rfl) rfl (show List.Nodup [1] from by decide) (by simp [ren, rens, sigma]) rfl (Res.eq (Res.three rfl (RV.tmp rfl) (RV.tmp rfl) (RV.tmp rfl)) (by rw [(show ([] : List F).length = 0 from rfl)] <;> rfl)) (SelL.arr0 (f := f32) (fun _ => rfl) rfl trivial)
    ·refine RunC.regionW ?_
     refine zM (r := fn (.func 42) [] [ptr [i64 a7, sl a8.length (a8.map i64), sl a9.length (a9.map i64), sl a10.length (a10.map f32)]]) rfl rfl rfl rfl rfl ?_
     refine zM (r := oref 1 1 0 r4.length) rfl rfl rfl rfl rfl ?_
     refine ROps.d (r := tup [oref 2 1 0 r6.length, b r5]) (fs := [(2, (r6.map f32))]) (Γ' := [⟨1, some ((List.replicate a0.toNat (some 0)).map f32)⟩, ⟨1, some (r4.map f32)⟩, ⟨1, some (r6.map f32)⟩, ⟨0, none⟩, ⟨0, none⟩, ⟨0, none⟩]) rfl rfl rfl (TOp.callBN (ls := [(r6.map f32)]) [2] (CallAs.fn ent42 rfl rfl rfl rfl) (Bors.cons (Bor.own (f := f32) (fun _ => rfl) rfl rfl) (Bors.cons (Bor.ptr (Bors.cons (Bor.pure rfl) (Bors.cons (Bor.sl (fun _ => rfl)) (Bors.cons (Bor.sl (fun _ => rfl)) (Bors.cons (Bor.sl (fun _ => rfl)) Bors.nil))))) Bors.nil)) rfl (i_SparseWith_1_ok r4 a7 a8 a9 a10 r5 r6 hf9) (and_all (lts0_map (f := f32) (fun _ => rfl) _) rfl) (and_all (noss_map (f := f32) (fun _ => rfl) _) rfl) rfl (by decide) (ns_of ⟨⟨_, rfl⟩, trivial⟩)) rfl ?_
     refine zM (r := tup [oref 2 1 0 r6.length, b r5]) rfl rfl rfl rfl rfl ?_
     refine zL (r := oref 2 1 0 r6.length) rfl rfl rfl (LOp.extract rfl rfl rfl) ?_
     refine zL (r := b false) rfl rfl rfl (LOp.eqb (LOp.extract rfl rfl rfl) hc10) ?_
     refine zA (r := oref 2 1 0 r6.length) rfl rfl rfl rfl rfl ?_
     refine zA (r := b false) rfl rfl rfl rfl rfl ?_
     refine zN ?_
     refine RunC.wl (τ' := [(2, f32 a5), (3, i64 a6), (4, fn (.func 42) [] [ptr [i64 a7, sl a8.length (a8.map i64), sl a9.length (a9.map i64), sl a10.length (a10.map f32)]]), (5, ptr [i64 a0, sl a1.length (a1.map i64), sl a2.length (a2.map i64), sl a3.length (a3.map f32)]), (13, oref 0 1 0 a0.toNat), (14, oref 1 1 0 r4.length), (15, oref 2 1 0 r6.length), (16, b false)]) (Γ' := [⟨1, some ((List.replicate a0.toNat (some 0)).map f32)⟩, ⟨1, some (r4.map f32)⟩, ⟨1, some (r6.map f32)⟩, ⟨0, none⟩, ⟨0, none⟩, ⟨0, none⟩]) ⟨aR, aR, aR, aR, aR, aR, aR, aR, trivial⟩ ⟨⟨rfl, .inr rfl⟩, ⟨rfl, .inr rfl⟩, ⟨rfl, .inr rfl⟩, ⟨rfl, .inr rfl⟩, ⟨rfl, .inr rfl⟩, ⟨rfl, .inr rfl⟩, trivial⟩ ?_
     refine RunC.seq ?_
     refine zQ ?_
     refine zM (r := b false) rfl rfl rfl rfl rfl ?_
     refine zL (r := b true) rfl rfl rfl (LOp.eqb (LOp.not rfl rfl) rfl) ?_
     refine zN ?_
     refine RunC.cond_true rfl rfl ?_
     refine zQ ?_
     refine zA (r := nilsl) rfl rfl rfl rfl rfl ?_
     refine zA (r := i64 0) rfl rfl rfl rfl rfl ?_
     refine zA (r := b false) rfl rfl rfl rfl rfl ?_
     refine zN ?_
     refine RunC.nil_slot (Γ' := [⟨1, some ((List.replicate a0.toNat (some 0)).map f32)⟩, ⟨1, some (r4.map f32)⟩, ⟨1, some (r6.map f32)⟩, ⟨1, some (([] : List F).map f32)⟩, ⟨0, none⟩, ⟨0, none⟩]) 10 3 rfl rfl rfl ?_
     refine RunC.ret ?_
     have hq := Option.some.inj h
     obtain ⟨hq0, hq⟩ := Prod.mk.inj hq
     obtain ⟨hq1, hq⟩ := Prod.mk.inj hq
     subst q0
     subst q1
     subst q2
     exact bodyQ.mk (r' := tup [oref 3 1 0 (([] : List F).length), i64 0, b false]) [(3, 1)] (.inr rfl) rfl (show List.Nodup [3] from by decide) rfl rfl (Res.eq (Res.three rfl (RV.tmp rfl) (RV.tmp rfl) (RV.tmp rfl)) (by rw [(show ([] : List F).length = 0 from rfl)] <;> rfl)) (SelL.arr0 (f := f32) (fun _ => rfl) rfl trivial)
   ·refine RunC.regionW ?_
    refine zL (r := agg [i64 a0, sl a1.length (a1.map i64), sl a2.length (a2.map i64), sl a3.length (a3.map f32)]) rfl rfl rfl (LOp.loadAgg agg30 siz30 rfl rfl rfl rfl) ?_
    refine zM (r := sl a4.length (a4.map f32)) rfl rfl rfl rfl rfl ?_
    refine ROps.d (r := b true) (fs := []) (Γ' := [⟨0, none⟩, ⟨0, none⟩, ⟨0, none⟩, ⟨0, none⟩, ⟨0, none⟩, ⟨0, none⟩]) rfl rfl rfl (TOp.eqb (TOp.callB (CallAs.func ent84 rfl rfl) (Bors.cons (Bor.agg (Bors.cons (Bor.pure rfl) (Bors.cons (Bor.sl (fun _ => rfl)) (Bors.cons (Bor.sl (fun _ => rfl)) (Bors.cons (Bor.sl (fun _ => rfl)) Bors.nil))))) (Bors.cons (Bor.sl (fun _ => rfl)) Bors.nil)) rfl rfl (i_Sparse_takes_ok a0 a1 a2 a3 a4 r1 hf1)) hc2) rfl ?_
    refine zL (r := b false) rfl rfl rfl (LOp.eqb (LOp.not rfl rfl) rfl) ?_
    refine zM (r := b false) rfl rfl rfl rfl rfl ?_
    refine zM (r := f32 a5) rfl rfl rfl rfl rfl ?_
    refine ROps.d (r := b true) (fs := []) (Γ' := [⟨0, none⟩, ⟨0, none⟩, ⟨0, none⟩, ⟨0, none⟩, ⟨0, none⟩, ⟨0, none⟩]) rfl rfl rfl (TOp.eqb (TOp.callB (CallAs.func ent85 rfl rfl) (Bors.cons (Bor.pure rfl) Bors.nil) rfl rfl (i_IsFinite_ok a5 r2 hf3)) hc4) rfl ?_
    refine zL (r := b false) rfl rfl rfl (LOp.eqb (LOp.not rfl rfl) rfl) ?_
    refine zL (r := b false) rfl rfl rfl (LOp.pick_false rfl rfl rfl) ?_
    refine zM (r := b false) rfl rfl rfl rfl rfl ?_
    refine zM (r := i64 a6) rfl rfl rfl rfl rfl ?_
    refine ROps.d (r := b false) (fs := []) (Γ' := [⟨0, none⟩, ⟨0, none⟩, ⟨0, none⟩, ⟨0, none⟩, ⟨0, none⟩, ⟨0, none⟩]) rfl rfl rfl (TOp.eqb (TOp.callB (CallAs.func ent86 rfl rfl) (Bors.cons (Bor.pure rfl) (Bors.cons (Bor.pure rfl) (Bors.cons (Bor.pure rfl) Bors.nil))) rfl rfl (i_inRange_ok a6 0 128 r3 hf5)) hc6) rfl ?_
    refine zL (r := b true) rfl rfl rfl (LOp.eqb (LOp.not rfl rfl) rfl) ?_
    refine zL (r := b true) rfl rfl rfl (LOp.pick_false rfl rfl rfl) ?_
    refine zN ?_
    refine RunC.cond_true rfl rfl ?_
    refine zQ ?_
    refine zA (r := nilsl) rfl rfl rfl rfl rfl ?_
    refine zA (r := i64 0) rfl rfl rfl rfl rfl ?_
    refine zA (r := b false) rfl rfl rfl rfl rfl ?_
    refine zN ?_
    refine RunC.nil_slot (Γ' := [⟨1, some (([] : List F).map f32)⟩, ⟨0, none⟩, ⟨0, none⟩, ⟨0, none⟩, ⟨0, none⟩, ⟨0, none⟩]) 10 0 rfl rfl rfl ?_
    refine RunC.ret ?_
    have hq := Option.some.inj h
    obtain ⟨hq0, hq⟩ := Prod.mk.inj hq
    obtain ⟨hq1, hq⟩ := Prod.mk.inj hq
    subst q0
    subst q1
    subst q2
    exact bodyQ.mk (r' := tup [oref 0 1 0 (([] : List F).length), i64 0, b false]) [(0, 1)] (.inr rfl) rfl (show List.Nodup [0] from by decide) rfl rfl (Res.eq (Res.three rfl (RV.tmp rfl) (RV.tmp rfl) (RV.tmp rfl)) (by rw [(show ([] : List F).length = 0 from rfl)] <;> rfl)) (SelL.arr0 (f := f32) (fun _ => rfl) rfl trivial)
  ·refine RunC.regionW ?_
   refine zL (r := agg [i64 a0, sl a1.length (a1.map i64), sl a2.length (a2.map i64), sl a3.length (a3.map f32)]) rfl rfl rfl (LOp.loadAgg agg30 siz30 rfl rfl rfl rfl) ?_
   refine zM (r := sl a4.length (a4.map f32)) rfl rfl rfl rfl rfl ?_
   refine ROps.d (r := b true) (fs := []) (Γ' := [⟨0, none⟩, ⟨0, none⟩, ⟨0, none⟩, ⟨0, none⟩, ⟨0, none⟩, ⟨0, none⟩]) rfl rfl rfl (TOp.eqb (TOp.callB (CallAs.func ent84 rfl rfl) (Bors.cons (Bor.agg (Bors.cons (Bor.pure rfl) (Bors.cons (Bor.sl (fun _ => rfl)) (Bors.cons (Bor.sl (fun _ => rfl)) (Bors.cons (Bor.sl (fun _ => rfl)) Bors.nil))))) (Bors.cons (Bor.sl (fun _ => rfl)) Bors.nil)) rfl rfl (i_Sparse_takes_ok a0 a1 a2 a3 a4 r1 hf1)) hc2) rfl ?_
   refine zL (r := b false) rfl rfl rfl (LOp.eqb (LOp.not rfl rfl) rfl) ?_
   refine zM (r := b false) rfl rfl rfl rfl rfl ?_
   refine zM (r := f32 a5) rfl rfl rfl rfl rfl ?_
   refine ROps.d (r := b false) (fs := []) (Γ' := [⟨0, none⟩, ⟨0, none⟩, ⟨0, none⟩, ⟨0, none⟩, ⟨0, none⟩, ⟨0, none⟩]) rfl rfl rfl (TOp.eqb (TOp.callB (CallAs.func ent85 rfl rfl) (Bors.cons (Bor.pure rfl) Bors.nil) rfl rfl (i_IsFinite_ok a5 r2 hf3)) hc4) rfl ?_
   refine zL (r := b true) rfl rfl rfl (LOp.eqb (LOp.not rfl rfl) rfl) ?_
   refine zL (r := b true) rfl rfl rfl (LOp.pick_false rfl rfl rfl) ?_
   refine zM (r := b true) rfl rfl rfl rfl rfl ?_
   refine ROps.s rfl rfl rfl ?_
   refine ROps.s rfl rfl rfl ?_
   refine ROps.s rfl rfl rfl ?_
   refine zL (r := b true) rfl rfl rfl (LOp.pick_true rfl rfl rfl) ?_
   refine zN ?_
   refine RunC.cond_true rfl rfl ?_
   refine zQ ?_
   refine zA (r := nilsl) rfl rfl rfl rfl rfl ?_
   refine zA (r := i64 0) rfl rfl rfl rfl rfl ?_
   refine zA (r := b false) rfl rfl rfl rfl rfl ?_
   refine zN ?_
   refine RunC.nil_slot (Γ' := [⟨1, some (([] : List F).map f32)⟩, ⟨0, none⟩, ⟨0, none⟩, ⟨0, none⟩, ⟨0, none⟩, ⟨0, none⟩]) 10 0 rfl rfl rfl ?_
   refine RunC.ret ?_
   have hq := Option.some.inj h
   obtain ⟨hq0, hq⟩ := Prod.mk.inj hq
   obtain ⟨hq1, hq⟩ := Prod.mk.inj hq
   subst q0
   subst q1
   subst q2
   exact bodyQ.mk (r' := tup [oref 0 1 0 (([] : List F).length), i64 0, b false]) [(0, 1)] (.inr rfl) rfl (show List.Nodup [0] from by decide) rfl rfl (Res.eq (Res.three rfl (RV.tmp rfl) (RV.tmp rfl) (RV.tmp rfl)) (by rw [(show ([] : List F).length = 0 from rfl)] <;> rfl)) (SelL.arr0 (f := f32) (fun _ => rfl) rfl trivial)
 ·refine RunC.regionW ?_
  refine zL (r := agg [i64 a0, sl a1.length (a1.map i64), sl a2.length (a2.map i64), sl a3.length (a3.map f32)]) rfl rfl rfl (LOp.loadAgg agg30 siz30 rfl rfl rfl rfl) ?_
  refine zM (r := sl a4.length (a4.map f32)) rfl rfl rfl rfl rfl ?_
  refine ROps.d (r := b false) (fs := []) (Γ' := [⟨0, none⟩, ⟨0, none⟩, ⟨0, none⟩, ⟨0, none⟩, ⟨0, none⟩, ⟨0, none⟩]) rfl rfl rfl (TOp.eqb (TOp.callB (CallAs.func ent84 rfl rfl) (Bors.cons (Bor.agg (Bors.cons (Bor.pure rfl) (Bors.cons (Bor.sl (fun _ => rfl)) (Bors.cons (Bor.sl (fun _ => rfl)) (Bors.cons (Bor.sl (fun _ => rfl)) Bors.nil))))) (Bors.cons (Bor.sl (fun _ => rfl)) Bors.nil)) rfl rfl (i_Sparse_takes_ok a0 a1 a2 a3 a4 r1 hf1)) hc2) rfl ?_
  refine zL (r := b true) rfl rfl rfl (LOp.eqb (LOp.not rfl rfl) rfl) ?_
  refine zM (r := b true) rfl rfl rfl rfl rfl ?_
  refine ROps.s rfl rfl rfl ?_
  refine ROps.s rfl rfl rfl ?_
  refine ROps.s rfl rfl rfl ?_
  refine zL (r := b true) rfl rfl rfl (LOp.pick_true rfl rfl rfl) ?_
  refine zM (r := b true) rfl rfl rfl rfl rfl ?_
  refine ROps.s rfl rfl rfl ?_
  refine ROps.s rfl rfl rfl ?_
  refine ROps.s rfl rfl rfl ?_
  refine zL (r := b true) rfl rfl rfl (LOp.pick_true rfl rfl rfl) ?_
  refine zN ?_
  refine RunC.cond_true rfl rfl ?_
  refine zQ ?_
  refine zA (r := nilsl) rfl rfl rfl rfl rfl ?_
  refine zA (r := i64 0) rfl rfl rfl rfl rfl ?_
  refine zA (r := b false) rfl rfl rfl rfl rfl ?_
  refine zN ?_
  refine RunC.nil_slot (Γ' := [⟨1, some (([] : List F).map f32)⟩, ⟨0, none⟩, ⟨0, none⟩, ⟨0, none⟩, ⟨0, none⟩, ⟨0, none⟩]) 10 0 rfl rfl rfl ?_
  refine RunC.ret ?_
  have hq := Option.some.inj h
  obtain ⟨hq0, hq⟩ := Prod.mk.inj hq
  obtain ⟨hq1, hq⟩ := Prod.mk.inj hq
  subst q0
  subst q1
  subst q2
  exact bodyQ.mk (r' := tup [oref 0 1 0 (([] : List F).length), i64 0, b false]) [(0, 1)] (.inr rfl) rfl (show List.Nodup [0] from by decide) rfl rfl (Res.eq (Res.three rfl (RV.tmp rfl) (RV.tmp rfl) (RV.tmp rfl)) (by rw [(show ([] : List F).length = 0 from rfl)] <;> rfl)) (SelL.arr0 (f := f32) (fun _ => rfl) rfl trivial)
noncomputable def i_SparseWith (a0 : Int) (a1 : List Int) (a2 : List Int) (a3 : List F) (a4 : Int) (a5 : List Int) (a6 : List Int) (a7 : List F) (a8 : List F) (a9 : F) (a10 : Int) : Option (Int × Bool × (List F)) :=
 bsel (!decide (a4 = a0)) (
  some (0, false, ([] : List F))) (
  obind3 (i_gradients_4Fi_SparseWith_1 a0 a1 a2 a3 a8 a9 a10 a4 a5 a6 a7) fun (r1 : Int) (r2 : Bool) (r3 : List F) =>
  some (r1, r2, r3))
theorem i_SparseWith_ok (a0 : Int) (a1 : List Int) (a2 : List Int) (a3 : List F) (a4 : Int) (a5 : List Int) (a6 : List Int) (a7 : List F) (a8 : List F) (a9 : F) (a10 : Int) (q0 : Int) (q1 : Bool) (q2 : List F) (h : i_SparseWith a0 a1 a2 a3 a4 a5 a6 a7 a8 a9 a10 = some (q0, q1, q2)) : Ev Try.prog 18 [agg [i64 a0, sl a1.length (a1.map i64), sl a2.length (a2.map i64), sl a3.length (a3.map f32)], agg [i64 a4, sl a5.length (a5.map i64), sl a6.length (a6.map i64), sl a7.length (a7.map f32)], sl a8.length (a8.map f32), f32 a9, i64 a10] [] (tup [oref 0 0 0 q2.length, i64 q0, b q1]) [⟨0, some (q2.map f32)⟩] := by
 refine Ev.start Try.func18 rfl rfl 1 (τ := [(0, agg [i64 a0, sl a1.length (a1.map i64), sl a2.length (a2.map i64), sl a3.length (a3.map f32)]), (1, agg [i64 a4, sl a5.length (a5.map i64), sl a6.length (a6.map i64), sl a7.length (a7.map f32)]), (2, sl a8.length (a8.map f32)), (3, f32 a9), (4, i64 a10)]) rfl (Γ' := [⟨0, none⟩]) rfl (n := 55) rfl (g := 0) rfl (fun _ => rfl) ?_
 unfold i_SparseWith at h
 refine zQ ?_
 refine ROps.d (r := ptr [i64 a0, sl a1.length (a1.map i64), sl a2.length (a2.map i64), sl a3.length (a3.map f32)]) (fs := []) (Γ' := [⟨0, none⟩]) rfl rfl rfl (TOp.box_s rfl rfl rfl) rfl ?_
 refine ROps.d (r := ptr [i64 a4, sl a5.length (a5.map i64), sl a6.length (a6.map i64), sl a7.length (a7.map f32)]) (fs := []) (Γ' := [⟨0, none⟩]) rfl rfl rfl (TOp.box_s rfl rfl rfl) rfl ?_
 refine zA (r := nilsl) rfl rfl rfl rfl rfl ?_
 refine zA (r := i64 0) rfl rfl rfl rfl rfl ?_
 refine zA (r := b false) rfl rfl rfl rfl rfl ?_
 refine zN ?_
 refine RunC.seq ?_
 refine RunC.seq ?_
 rcases bsel_some h with ⟨hc1, h⟩ | ⟨hc1, h⟩
 ·refine RunC.regionW ?_
  refine zL (r := ptr [i64 a4, sl a5.length (a5.map i64), sl a6.length (a6.map i64), sl a7.length (a7.map f32)]) rfl rfl rfl (LOp.fap und30 rfl siz2 rfl rfl rfl) ?_
  refine zL (r := i64 a4) rfl rfl rfl (LOp.load1 agg2 rfl rfl) ?_
  refine zL (r := ptr [i64 a0, sl a1.length (a1.map i64), sl a2.length (a2.map i64), sl a3.length (a3.map f32)]) rfl rfl rfl (LOp.fap und30 rfl siz2 rfl rfl rfl) ?_
  refine zL (r := i64 a0) rfl rfl rfl (LOp.load1 agg2 rfl rfl) ?_
  refine zL (r := b true) rfl rfl rfl (LOp.eqb (LOp.neq rfl rfl rfl) hc1) ?_
  refine zN ?_
  refine RunC.cond_true rfl rfl ?_
  refine zQ ?_
  refine zA (r := nilsl) rfl rfl rfl rfl rfl ?_
  refine zA (r := i64 0) rfl rfl rfl rfl rfl ?_
  refine zA (r := b false) rfl rfl rfl rfl rfl ?_
  refine zN ?_
  refine RunC.nil_slot (Γ' := [⟨1, some (([] : List F).map f32)⟩]) 10 0 rfl rfl rfl ?_
  refine RunC.ret ?_
  have hq := Option.some.inj h
  obtain ⟨hq0, hq⟩ := Prod.mk.inj hq
  obtain ⟨hq1, hq⟩ := Prod.mk.inj hq
  subst q0
  subst q1
  subst q2
  exact bodyQ.mk (r' := tup [oref 0 1 0 (([] : List F).length), i64 0, b false]) [(0, 1)] (.inr rfl) rfl (show List.Nodup [0] from by decide) rfl rfl (Res.eq (Res.three rfl (RV.tmp rfl) (RV.tmp rfl) (RV.tmp rfl)) (by rw [(show ([] : List F).length = 0 from rfl)] <;> rfl)) (SelL.arr0 (f := f32) (fun _ => rfl) rfl trivial)
 ·refine RunC.regionW ?_
  refine zL (r := ptr [i64 a4, sl a5.length (a5.map i64), sl a6.length (a6.map i64), sl a7.length (a7.map f32)]) rfl rfl rfl (LOp.fap und30 rfl siz2 rfl rfl rfl) ?_
  refine zL (r := i64 a4) rfl rfl rfl (LOp.load1 agg2 rfl rfl) ?_
  refine zL (r := ptr [i64 a0, sl a1.length (a1.map i64), sl a2.length (a2.map i64), sl a3.length (a3.map f32)]) rfl rfl rfl (LOp.fap und30 rfl siz2 rfl rfl rfl) ?_
  refine zL (r := i64 a0) rfl rfl rfl (LOp.load1 agg2 rfl rfl) ?_
  refine zL (r := b false) rfl rfl rfl (LOp.eqb (LOp.neq rfl rfl rfl) hc1) ?_
  refine zN ?_
  refine RunC.cond_false rfl rfl ?_
  refine RunC.skip ?_
  refine RunC.seq ?_
  obtain ⟨r1, r2, r3, hf2, h⟩ := obind3_some h
  refine RunC.regionW ?_
  refine zL (r := agg [i64 a0, sl a1.length (a1.map i64), sl a2.length (a2.map i64), sl a3.length (a3.map f32)]) rfl rfl rfl (LOp.loadAgg agg30 siz30 rfl rfl rfl rfl) ?_
  refine zM (r := sl a8.length (a8.map f32)) rfl rfl rfl rfl rfl ?_
  refine zM (r := f32 a9) rfl rfl rfl rfl rfl ?_
  refine zM (r := i64 a10) rfl rfl rfl rfl rfl ?_
  refine zL (r := fn (.func 42) [] [ptr [i64 a4, sl a5.length (a5.map i64), sl a6.length (a6.map i64), sl a7.length (a7.map f32)]]) rfl rfl rfl (LOp.makeFunc rfl rfl) ?_
  refine ROps.d (r := tup [oref 0 1 0 r3.length, i64 r1, b r2]) (fs := [(0, (r3.map f32))]) (Γ' := [⟨1, some (r3.map f32)⟩]) rfl rfl rfl (TOp.callBN (ls := [(r3.map f32)]) [0] (CallAs.func ent35 rfl rfl) (Bors.cons (Bor.agg (Bors.cons (Bor.pure rfl) (Bors.cons (Bor.sl (fun _ => rfl)) (Bors.cons (Bor.sl (fun _ => rfl)) (Bors.cons (Bor.sl (fun _ => rfl)) Bors.nil))))) (Bors.cons (Bor.sl (fun _ => rfl)) (Bors.cons (Bor.pure rfl) (Bors.cons (Bor.pure rfl) (Bors.cons (Bor.fn Bors.nil (Bors.cons (Bor.ptr (Bors.cons (Bor.pure rfl) (Bors.cons (Bor.sl (fun _ => rfl)) (Bors.cons (Bor.sl (fun _ => rfl)) (Bors.cons (Bor.sl (fun _ => rfl)) Bors.nil))))) Bors.nil)) Bors.nil))))) rfl (i_gradients_4Fi_SparseWith_1_ok a0 a1 a2 a3 a8 a9 a10 a4 a5 a6 a7 r1 r2 r3 hf2) (and_all (lts0_map (f := f32) (fun _ => rfl) _) rfl) (and_all (noss_map (f := f32) (fun _ => rfl) _) rfl) rfl (by decide) (ns_of ⟨⟨_, rfl⟩, trivial⟩)) rfl ?_
  refine zL (r := oref 0 1 0 r3.length) rfl rfl rfl (LOp.extract rfl rfl rfl) ?_
  refine zL (r := i64 r1) rfl rfl rfl (LOp.extract rfl rfl rfl) ?_
  refine zL (r := b r2) rfl rfl rfl (LOp.extract rfl rfl rfl) ?_
  refine zA (r := oref 0 1 0 r3.length) rfl rfl rfl rfl rfl ?_
  refine zA (r := i64 r1) rfl rfl rfl rfl rfl ?_
  refine zA (r := b r2) rfl rfl rfl rfl rfl ?_
  refine zN ?_
  refine RunC.ret ?_
  have hq := Option.some.inj h
  obtain ⟨hq0, hq⟩ := Prod.mk.inj hq
  obtain ⟨hq1, hq⟩ := Prod.mk.inj hq
  subst q0
  subst q1
  subst q2
  exact bodyQ.mk (r' := tup [oref 0 1 0 r3.length, i64 r1, b r2]) [(0, 1)] (.inr rfl) rfl (show List.Nodup [0] from by decide) rfl rfl (Res.three rfl (RV.tmp rfl) (RV.tmp rfl) (RV.tmp rfl)) (SelL.arr0 (f := f32) (fun _ => rfl) rfl trivial)
noncomputable def w_sameFloat_k1 (a0 : F) (a1 : F) : Option (Bool) :=
 some (feq .f64 a0 a1)
noncomputable def w_sameFloat (a0 : F) (a1 : F) : Option (Bool) :=
 bsel (!feq .f64 a0 a0) (
  some (!feq .f64 a1 a1)) (
  bsel (!feq .f64 a1 a1) (
   some false) (
   bsel (feq .f64 a0 (some 0)) (
    bsel (feq .f64 a1 (some 0)) (
     olet (fop .quo .f64 (some 4607182418800017408) a0) fun (x1 : F) =>
     olet (fop .quo .f64 (some 4607182418800017408) a1) fun (x2 : F) =>
     some ((flt .f64 (some 0) x1) == (flt .f64 (some 0) x2))) (
     w_sameFloat_k1 a0 a1)) (
    w_sameFloat_k1 a0 a1)))
theorem w_sameFloat_ok (a0 : F) (a1 : F) (q0 : Bool) (h : w_sameFloat a0 a1 = some q0) : Ev Try.prog 38 [f64 a0, f64 a1] [] (b q0) [] := by
 refine Ev.start Try.func38 rfl rfl 0 (τ := [(0, f64 a0), (1, f64 a1)]) rfl (Γ' := []) rfl (n := 75) rfl (g := 0) rfl (fun _ => rfl) ?_
 unfold w_sameFloat at h
 refine zQ ?_
 refine zA (r := b false) rfl rfl rfl rfl rfl ?_
 refine zN ?_
 refine RunC.seq ?_
 refine RunC.seq ?_
 rcases bsel_some h with ⟨hc1, h⟩ | ⟨hc1, h⟩
 ·refine RunC.regionW ?_
  refine zM (r := f64 a0) rfl rfl rfl rfl rfl ?_
  refine zM (r := f64 a0) rfl rfl rfl rfl rfl ?_
  refine zL (r := b true) rfl rfl rfl (LOp.eqb (LOp.fne rfl (OpF.tmp rfl) (OpF.tmp rfl)) hc1) ?_
  refine zM (r := b true) rfl rfl rfl rfl rfl ?_
  refine ROps.s rfl rfl rfl ?_
  refine ROps.s rfl rfl rfl ?_
  refine ROps.s rfl rfl rfl ?_
  refine zL (r := b true) rfl rfl rfl (LOp.pick_true rfl rfl rfl) ?_
  refine zN ?_
  refine RunC.cond_true rfl rfl ?_
  refine zQ ?_
  refine zM (r := f64 a0) rfl rfl rfl rfl rfl ?_
  refine zM (r := f64 a0) rfl rfl rfl rfl rfl ?_
  refine zL (r := b true) rfl rfl rfl (LOp.eqb (LOp.fne rfl (OpF.tmp rfl) (OpF.tmp rfl)) hc1) ?_
  refine zM (r := b true) rfl rfl rfl rfl rfl ?_
  refine zM (r := f64 a1) rfl rfl rfl rfl rfl ?_
  refine zM (r := f64 a1) rfl rfl rfl rfl rfl ?_
  refine zL (r := b (!feq .f64 a1 a1)) rfl rfl rfl (LOp.fne rfl (OpF.tmp rfl) (OpF.tmp rfl)) ?_
  refine zL (r := b (!feq .f64 a1 a1)) rfl rfl rfl (LOp.pick_true rfl rfl rfl) ?_
  refine zA (r := b (!feq .f64 a1 a1)) rfl rfl rfl rfl rfl ?_
  refine zN ?_
  refine RunC.ret ?_
  have hq := Option.some.inj h
  subst q0
  exact bodyQ.pure (.inr rfl) rfl (Res.one rfl (RV.tmp rfl))
 ·rcases bsel_some h with ⟨hc2, h⟩ | ⟨hc2, h⟩
  ·refine RunC.regionW ?_
   refine zM (r := f64 a0) rfl rfl rfl rfl rfl ?_
   refine zM (r := f64 a0) rfl rfl rfl rfl rfl ?_
   refine zL (r := b false) rfl rfl rfl (LOp.eqb (LOp.fne rfl (OpF.tmp rfl) (OpF.tmp rfl)) hc1) ?_
   refine zM (r := b false) rfl rfl rfl rfl rfl ?_
   refine zM (r := f64 a1) rfl rfl rfl rfl rfl ?_
   refine zM (r := f64 a1) rfl rfl rfl rfl rfl ?_
   refine zL (r := b true) rfl rfl rfl (LOp.eqb (LOp.fne rfl (OpF.tmp rfl) (OpF.tmp rfl)) hc2) ?_
   refine zL (r := b true) rfl rfl rfl (LOp.pick_false rfl rfl rfl) ?_
   refine zN ?_
   refine RunC.cond_true rfl rfl ?_
   refine zQ ?_
   refine zM (r := f64 a0) rfl rfl rfl rfl rfl ?_
   refine zM (r := f64 a0) rfl rfl rfl rfl rfl ?_
   refine zL (r := b false) rfl rfl rfl (LOp.eqb (LOp.fne rfl (OpF.tmp rfl) (OpF.tmp rfl)) hc1) ?_
   refine zM (r := b false) rfl rfl rfl rfl rfl ?_
   refine ROps.s rfl rfl rfl ?_
   refine ROps.s rfl rfl rfl ?_
   refine ROps.s rfl rfl rfl ?_
   refine zL (r := b false) rfl rfl rfl (LOp.pick_false rfl rfl rfl) ?_
   refine zA (r := b false) rfl rfl rfl rfl rfl ?_
   refine zN ?_
   refine RunC.ret ?_
   have hq := Option.some.inj h
   subst q0
   exact bodyQ.pure (.inr rfl) rfl (Res.one rfl (RV.tmp rfl))
  ·refine RunC.regionW ?_
   refine zM (r := f64 a0) rfl rfl rfl rfl rfl ?_
   refine zM (r := f64 a0) rfl rfl rfl rfl rfl ?_
   refine zL (r := b false) rfl rfl rfl (LOp.eqb (LOp.fne rfl (OpF.tmp rfl) (OpF.tmp rfl)) hc1) ?_
   refine zM (r := b false) rfl rfl rfl rfl rfl ?_
   refine zM (r := f64 a1) rfl rfl rfl rfl rfl ?_
   refine zM (r := f64 a1) rfl rfl rfl rfl rfl ?_
   refine zL (r := b false) rfl rfl rfl (LOp.eqb (LOp.fne rfl (OpF.tmp rfl) (OpF.tmp rfl)) hc2) ?_
   refine zL (r := b false) rfl rfl rfl (LOp.pick_false rfl rfl rfl) ?_
   refine zN ?_
   refine RunC.cond_false rfl rfl ?_
   refine RunC.skip ?_
   refine RunC.seq ?_
   refine RunC.cutN (fun τ Γ =>  WeakLe τ [(0, f64 a0), (1, f64 a1)] ∧ DeadLe Γ [] ∧ w_sameFloat_k1 a0 a1 = some q0) ?_ ?_
   ·refine RunC.seq ?_
    rcases bsel_some h with ⟨hc3, h⟩ | ⟨hc3, h⟩
    ·rcases bsel_some h with ⟨hc4, h⟩ | ⟨hc4, h⟩
     ·refine RunC.regionW ?_
      refine zM (r := f64 a0) rfl rfl rfl rfl rfl ?_
      refine zL (r := b true) rfl rfl rfl (LOp.eqb (LOp.feq rfl (OpF.tmp rfl) (OpF.const rfl (by kernel_rfl) (by kernel_rfl))) hc3) ?_
      refine zM (r := b true) rfl rfl rfl rfl rfl ?_
      refine zM (r := f64 a1) rfl rfl rfl rfl rfl ?_
      refine zL (r := b true) rfl rfl rfl (LOp.eqb (LOp.feq rfl (OpF.tmp rfl) (OpF.const rfl (by kernel_rfl) (by kernel_rfl))) hc4) ?_
      refine zL (r := b true) rfl rfl rfl (LOp.pick_true rfl rfl rfl) ?_
      refine zN ?_
      refine RunC.wl (τ' := [(0, f64 a0), (1, f64 a1), (26, b true)]) (Γ' := []) ⟨aR, aR, aR, trivial⟩ trivial ?_
      refine RunC.cond_true rfl rfl ?_
      refine RunC.seq ?_
      obtain ⟨x1, hx5, h⟩ := olet_some h
      obtain ⟨x2, hx6, h⟩ := olet_some h
      refine RunC.regionW ?_
      refine zM (r := f64 a0) rfl rfl rfl rfl rfl ?_
      refine ROps.d (r := f64 x1) (fs := []) (Γ' := []) rfl rfl rfl (TOp.eqr (TOp.fop (.inr (.inr (.inr rfl))) rfl (OpF.const rfl (by kernel_rfl) (by kernel_rfl)) (OpF.tmp rfl)) (congrArg (f .f64) hx5)) rfl ?_
      refine zL (r := b (flt .f64 (some 0) x1)) rfl rfl rfl (LOp.fgt rfl (OpF.tmp rfl) (OpF.const rfl (by kernel_rfl) (by kernel_rfl))) ?_
      refine zM (r := f64 a1) rfl rfl rfl rfl rfl ?_
      refine ROps.d (r := f64 x2) (fs := []) (Γ' := []) rfl rfl rfl (TOp.eqr (TOp.fop (.inr (.inr (.inr rfl))) rfl (OpF.const rfl (by kernel_rfl) (by kernel_rfl)) (OpF.tmp rfl)) (congrArg (f .f64) hx6)) rfl ?_
      refine zL (r := b (flt .f64 (some 0) x2)) rfl rfl rfl (LOp.fgt rfl (OpF.tmp rfl) (OpF.const rfl (by kernel_rfl) (by kernel_rfl))) ?_
      refine zL (r := b ((flt .f64 (some 0) x1) == (flt .f64 (some 0) x2))) rfl rfl rfl (LOp.eqlb pun4 rfl rfl rfl) ?_
      refine zA (r := b ((flt .f64 (some 0) x1) == (flt .f64 (some 0) x2))) rfl rfl rfl rfl rfl ?_
      refine zN ?_
      refine RunC.ret ?_
      have hq := Option.some.inj h
      subst q0
      exact bodyQ.pure (.inr rfl) rfl (Res.one rfl (RV.tmp rfl))
     ·refine RunC.regionW ?_
      refine zM (r := f64 a0) rfl rfl rfl rfl rfl ?_
      refine zL (r := b true) rfl rfl rfl (LOp.eqb (LOp.feq rfl (OpF.tmp rfl) (OpF.const rfl (by kernel_rfl) (by kernel_rfl))) hc3) ?_
      refine zM (r := b true) rfl rfl rfl rfl rfl ?_
      refine zM (r := f64 a1) rfl rfl rfl rfl rfl ?_
      refine zL (r := b false) rfl rfl rfl (LOp.eqb (LOp.feq rfl (OpF.tmp rfl) (OpF.const rfl (by kernel_rfl) (by kernel_rfl))) hc4) ?_
      refine zL (r := b false) rfl rfl rfl (LOp.pick_true rfl rfl rfl) ?_
      refine zN ?_
      refine RunC.wl (τ' := [(0, f64 a0), (1, f64 a1), (26, b false)]) (Γ' := []) ⟨aR, aR, aR, trivial⟩ trivial ?_
      refine RunC.cond_false rfl rfl ?_
      refine RunC.skip ?_
      exact ⟨⟨aR, aR, trivial⟩, trivial, h⟩
    ·refine RunC.regionW ?_
     refine zM (r := f64 a0) rfl rfl rfl rfl rfl ?_
     refine zL (r := b false) rfl rfl rfl (LOp.eqb (LOp.feq rfl (OpF.tmp rfl) (OpF.const rfl (by kernel_rfl) (by kernel_rfl))) hc3) ?_
     refine zM (r := b false) rfl rfl rfl rfl rfl ?_
     refine ROps.s rfl rfl rfl ?_
     refine ROps.s rfl rfl rfl ?_
     refine zL (r := b false) rfl rfl rfl (LOp.pick_false rfl rfl rfl) ?_
     refine zN ?_
     refine RunC.wl (τ' := [(0, f64 a0), (1, f64 a1), (26, b false)]) (Γ' := []) ⟨aR, aR, aR, trivial⟩ trivial ?_
     refine RunC.cond_false rfl rfl ?_
     refine RunC.skip ?_
     exact ⟨⟨aR, aR, trivial⟩, trivial, h⟩
   ·rintro τ2 Γ2 ⟨hw2, hd2, h⟩
    refine RunC.wl hw2 hd2 ?_
    unfold w_sameFloat_k1 at h
    refine zQ ?_
    refine zM (r := f64 a0) rfl rfl rfl rfl rfl ?_
    refine zM (r := f64 a1) rfl rfl rfl rfl rfl ?_
    refine zL (r := b (feq .f64 a0 a1)) rfl rfl rfl (LOp.feq rfl (OpF.tmp rfl) (OpF.tmp rfl)) ?_
    refine zA (r := b (feq .f64 a0 a1)) rfl rfl rfl rfl rfl ?_
    refine zN ?_
    refine RunC.ret ?_
    have hq := Option.some.inj h
    subst q0
    exact bodyQ.pure (.inr rfl) rfl (Res.one rfl (RV.tmp rfl))
noncomputable def w_eqFloat32S_b1 (a0 : List F) (a1 : List F) (v1 : Int) : Option (LR (Int) (Unit) (Bool)) :=
 bsel (decide (v1 < (a0.length : Int))) (
  obind (at? a0 v1) fun (e2 : F) =>
  olet (fwiden e2) fun (x3 : F) =>
  obind (at? a1 v1) fun (e4 : F) =>
  olet (fwiden e4) fun (x5 : F) =>
  obind (w_sameFloat x3 x5) fun (r6 : Bool) =>
  bsel r6 (
   olet (IntKind.i64.wrap (v1 + 1)) fun (x7 : Int) =>
   some (LR.next x7)) (
   some (LR.ret false))) (
  some (LR.out ()))
noncomputable def w_eqFloat32S_s1 (a0 : List F) (a1 : List F) : (Int) → Option (LR (Int) (Unit) (Bool)) := fun s => w_eqFloat32S_b1 a0 a1 s
noncomputable def w_eqFloat32S_k1  : Option (Bool) :=
 some true
noncomputable def w_eqFloat32S (a0 : List F) (a1 : List F) : Option (Bool) :=
 bsel (!decide ((a0.length : Int) = (a1.length : Int))) (
  some false) (
  obind (loopM (w_eqFloat32S_s1 a0 a1) 0) fun z => osum z (fun _ => w_eqFloat32S_k1) (fun r => some r))
theorem w_eqFloat32S_ok (a0 : List F) (a1 : List F) (q0 : Bool) (h : w_eqFloat32S a0 a1 = some q0) : Ev Try.prog 12 [sl a0.length (a0.map f32), sl a1.length (a1.map f32)] [] (b q0) [] := by
 refine Ev.start Try.func12 rfl rfl 0 (τ := [(0, sl a0.length (a0.map f32)), (1, sl a1.length (a1.map f32))]) rfl (Γ' := []) rfl (n := 59) rfl (g := 0) rfl (fun _ => rfl) ?_
 unfold w_eqFloat32S at h
 refine zQ ?_
 refine zA (r := b false) rfl rfl rfl rfl rfl ?_
 refine zN ?_
 refine RunC.seq ?_
 refine RunC.seq ?_
 rcases bsel_some h with ⟨hc1, h⟩ | ⟨hc1, h⟩
 ·refine RunC.regionW ?_
  refine zM (r := sl a0.length (a0.map f32)) rfl rfl rfl rfl rfl ?_
  refine zL (r := i64 (a0.length : Int)) rfl rfl rfl (LOp.len_sl und23 rfl rfl) ?_
  refine zM (r := sl a1.length (a1.map f32)) rfl rfl rfl rfl rfl ?_
  refine zL (r := i64 (a1.length : Int)) rfl rfl rfl (LOp.len_sl und23 rfl rfl) ?_
  refine zL (r := b true) rfl rfl rfl (LOp.eqb (LOp.neq rfl rfl rfl) hc1) ?_
  refine zN ?_
  refine RunC.cond_true rfl rfl ?_
  refine zQ ?_
  refine zA (r := b false) rfl rfl rfl rfl rfl ?_
  refine zN ?_
  refine RunC.ret ?_
  have hq := Option.some.inj h
  subst q0
  exact bodyQ.pure (.inr rfl) rfl (Res.one rfl (RV.tmp rfl))
 ·refine RunC.regionW ?_
  refine zM (r := sl a0.length (a0.map f32)) rfl rfl rfl rfl rfl ?_
  refine zL (r := i64 (a0.length : Int)) rfl rfl rfl (LOp.len_sl und23 rfl rfl) ?_
  refine zM (r := sl a1.length (a1.map f32)) rfl rfl rfl rfl rfl ?_
  refine zL (r := i64 (a1.length : Int)) rfl rfl rfl (LOp.len_sl und23 rfl rfl) ?_
  refine zL (r := b false) rfl rfl rfl (LOp.eqb (LOp.neq rfl rfl rfl) hc1) ?_
  refine zN ?_
  refine RunC.cond_false rfl rfl ?_
  refine RunC.skip ?_
  refine RunC.seq ?_
  refine zQ ?_
  refine zA (r := i64 0) rfl rfl rfl rfl rfl ?_
  refine zN ?_
  obtain ⟨z2, hz_2, h⟩ := obind_some h
  refine RunC.cutN (fun τ Γ => WeakLe τ [] ∧ DeadLe Γ [] ∧ z2 = .inl ()) ?_ ?_
  ·refine RunC.block (RunC.loop (RunL.loopM (x := z2) (w_eqFloat32S_s1 a0 a1) (fun (s : Int) τ Γ => WeakLe τ [(0, sl a0.length (a0.map f32)), (1, sl a1.length (a1.map f32)), (5, i64 s)] ∧ DeadLe Γ []) ?_ _ _ _ hz_2 ⟨⟨aR, aR, aR, trivial⟩, trivial⟩))
   rintro v1 τ2 Γ2 y2_ ⟨hw2, hd2⟩ h2_ ho2 hr2
   refine RunC.wl (τ' := [(0, sl a0.length (a0.map f32)), (1, sl a1.length (a1.map f32)), (5, i64 v1)]) (Γ' := []) hw2 hd2 ?_
   replace h2_ : w_eqFloat32S_b1 a0 a1 v1 = some y2_ := h2_
   unfold w_eqFloat32S_b1 at h2_
   refine RunC.seq ?_
   refine RunC.seq ?_
   rcases bsel_some h2_ with ⟨hc2, h2_⟩ | ⟨hc2, h2_⟩
   ·refine RunC.regionW ?_
    refine zM (r := i64 v1) rfl rfl rfl rfl rfl ?_
    refine zM (r := sl a0.length (a0.map f32)) rfl rfl rfl rfl rfl ?_
    refine zL (r := i64 (a0.length : Int)) rfl rfl rfl (LOp.len_sl und23 rfl rfl) ?_
    refine zL (r := b true) rfl rfl rfl (LOp.eqb (LOp.lss rfl rfl rfl) hc2) ?_
    refine zN ?_
    refine RunC.cond_true rfl rfl ?_
    refine RunC.skip ?_
    refine RunC.seq ?_
    refine RunC.block ?_
    refine RunC.seq ?_
    obtain ⟨e2, he3, h2_⟩ := obind_some h2_
    obtain ⟨x3, hx4, h2_⟩ := olet_some h2_
    obtain ⟨e4, he5, h2_⟩ := obind_some h2_
    obtain ⟨x5, hx6, h2_⟩ := olet_some h2_
    obtain ⟨r6, hf7, h2_⟩ := obind_some h2_
    rcases bsel_some h2_ with ⟨hc8, h2_⟩ | ⟨hc8, h2_⟩
    ·refine RunC.region_draw (Γ' := []) 12 mixed 
      (TR.l (r := sl a0.length (a0.map f32)) rfl rfl (LOp.move rfl rfl) <|
      (TR.l (r := i64 v1) rfl rfl (LOp.move rfl rfl) <|
      (TR.l (r := ptr [f32 e2]) rfl rfl (LOp.le (LOp.ix (f := f32) und23 siz26 rfl rfl rfl rfl he3) ALe.ptr) <|
      (TR.l (r := f32 e2) rfl rfl (LOp.load1 agg26 rfl rfl) <|
      (TR.d (r := f64 x3) (fs := []) rfl rfl (TOp.eqr (TOp.widen (src := 26) (dst := 62) ⟨_, pun26⟩ pun62 rfl (OpF.tmp rfl)) (congrArg (f .f64) hx4)) <|
      (TR.l (r := sl a1.length (a1.map f32)) rfl rfl (LOp.move rfl rfl) <|
      (TR.l (r := i64 v1) rfl rfl (LOp.move rfl rfl) <|
      (TR.l (r := ptr [f32 e4]) rfl rfl (LOp.le (LOp.ix (f := f32) und23 siz26 rfl rfl rfl rfl he5) ALe.ptr) <|
      (TR.l (r := f32 e4) rfl rfl (LOp.load1 agg26 rfl rfl) <|
      (TR.d (r := f64 x5) (fs := []) rfl rfl (TOp.eqr (TOp.widen (src := 26) (dst := 62) ⟨_, pun26⟩ pun62 rfl (OpF.tmp rfl)) (congrArg (f .f64) hx6)) <|
      (TR.d (r := b true) (fs := []) rfl rfl (TOp.eqb (TOp.callB (CallAs.func ent38 rfl rfl) (Bors.cons (Bor.pure rfl) (Bors.cons (Bor.pure rfl) Bors.nil)) rfl rfl (w_sameFloat_ok x3 x5 r6 hf7)) hc8) <|
      (TR.l (r := b false) rfl rfl (LOp.eqb (LOp.not rfl rfl) rfl) <|
      TR.nil)))))))))))) rfl (by kernel_rfl) rfl fills_nil rfl ?_
     iterate 12 refine ROps.dropS ?_
     refine ROps.drop0 ?_
     refine zN ?_
     refine RunC.wl (τ' := [(0, sl a0.length (a0.map f32)), (1, sl a1.length (a1.map f32)), (5, i64 v1), (28, b false)]) (Γ' := []) ⟨aR, aR, aR, aR, trivial⟩ trivial ?_
     refine RunC.cond_false rfl rfl ?_
     refine RunC.skip ?_
     obtain ⟨x7, hx9, h2_⟩ := olet_some h2_
     refine RunC.regionW ?_
     refine zM (r := i64 v1) rfl rfl rfl rfl rfl ?_
     refine zL (r := i64 x7) rfl rfl rfl (LOp.eqr (LOp.add rfl rfl rfl) (congrArg (ik .i64) hx9)) ?_
     refine zA (r := i64 x7) rfl rfl rfl rfl rfl ?_
     refine zN ?_
     cases Option.some.inj h2_
     exact ⟨_, rfl, ⟨aR, aR, aR, trivial⟩, trivial⟩
    ·refine RunC.region_draw (Γ' := []) 12 mixed 
      (TR.l (r := sl a0.length (a0.map f32)) rfl rfl (LOp.move rfl rfl) <|
      (TR.l (r := i64 v1) rfl rfl (LOp.move rfl rfl) <|
      (TR.l (r := ptr [f32 e2]) rfl rfl (LOp.le (LOp.ix (f := f32) und23 siz26 rfl rfl rfl rfl he3) ALe.ptr) <|
      (TR.l (r := f32 e2) rfl rfl (LOp.load1 agg26 rfl rfl) <|
      (TR.d (r := f64 x3) (fs := []) rfl rfl (TOp.eqr (TOp.widen (src := 26) (dst := 62) ⟨_, pun26⟩ pun62 rfl (OpF.tmp rfl)) (congrArg (f .f64) hx4)) <|
      (TR.l (r := sl a1.length (a1.map f32)) rfl rfl (LOp.move rfl rfl) <|
      (TR.l (r := i64 v1) rfl rfl (LOp.move rfl rfl) <|
      (TR.l (r := ptr [f32 e4]) rfl rfl (LOp.le (LOp.ix (f := f32) und23 siz26 rfl rfl rfl rfl he5) ALe.ptr) <|
      (TR.l (r := f32 e4) rfl rfl (LOp.load1 agg26 rfl rfl) <|
      (TR.d (r := f64 x5) (fs := []) rfl rfl (TOp.eqr (TOp.widen (src := 26) (dst := 62) ⟨_, pun26⟩ pun62 rfl (OpF.tmp rfl)) (congrArg (f .f64) hx6)) <|
      (TR.d (r := b false) (fs := []) rfl rfl (TOp.eqb (TOp.callB (CallAs.func ent38 rfl rfl) (Bors.cons (Bor.pure rfl) (Bors.cons (Bor.pure rfl) Bors.nil)) rfl rfl (w_sameFloat_ok x3 x5 r6 hf7)) hc8) <|
      (TR.l (r := b true) rfl rfl (LOp.eqb (LOp.not rfl rfl) rfl) <|
      TR.nil)))))))))))) rfl (by kernel_rfl) rfl fills_nil rfl ?_
     iterate 12 refine ROps.dropS ?_
     refine ROps.drop0 ?_
     refine zN ?_
     refine RunC.wl (τ' := [(0, sl a0.length (a0.map f32)), (1, sl a1.length (a1.map f32)), (5, i64 v1), (28, b true)]) (Γ' := []) ⟨aR, aR, aR, aR, trivial⟩ trivial ?_
     refine RunC.cond_true rfl rfl ?_
     refine zQ ?_
     refine zA (r := b false) rfl rfl rfl rfl rfl ?_
     refine zN ?_
     refine RunC.ret ?_
     cases Option.some.inj h2_
     have hx3_ := hr2 _ rfl
     subst hx3_
     have hq := Option.some.inj h
     subst q0
     exact bodyQ.pure (.inr rfl) rfl (Res.one rfl (RV.tmp rfl))
   ·refine RunC.regionW ?_
    refine zM (r := i64 v1) rfl rfl rfl rfl rfl ?_
    refine zM (r := sl a0.length (a0.map f32)) rfl rfl rfl rfl rfl ?_
    refine zL (r := i64 (a0.length : Int)) rfl rfl rfl (LOp.len_sl und23 rfl rfl) ?_
    refine zL (r := b false) rfl rfl rfl (LOp.eqb (LOp.lss rfl rfl rfl) hc2) ?_
    refine zN ?_
    refine RunC.cond_false rfl rfl ?_
    refine RunC.exit ?_
    cases Option.some.inj h2_
    have hx := ho2 _ rfl
    exact ⟨trivial, trivial, hx⟩
  ·rintro τ4 Γ4 ⟨hw4, hd4, rfl⟩
   refine RunC.wl hw4 hd4 ?_
   replace h : w_eqFloat32S_k1 = some q0 := h
   unfold w_eqFloat32S_k1 at h
   refine zQ ?_
   refine zA (r := b true) rfl rfl rfl rfl rfl ?_
   refine zN ?_
   refine RunC.ret ?_
   have hq := Option.some.inj h
   subst q0
   exact bodyQ.pure (.inr rfl) rfl (Res.one rfl (RV.tmp rfl))
noncomputable def w_eqInt64S_b1 (a0 : List Int) (a1 : List Int) (v1 : Int) : Option (LR (Int) (Unit) (Bool)) :=
 bsel (decide (v1 < (a0.length : Int))) (
  obind (at? a0 v1) fun (e2 : Int) =>
  obind (at? a1 v1) fun (e3 : Int) =>
  bsel (!decide (e2 = e3)) (
   some (LR.ret false)) (
   olet (IntKind.i64.wrap (v1 + 1)) fun (x4 : Int) =>
   some (LR.next x4))) (
  some (LR.out ()))
noncomputable def w_eqInt64S_s1 (a0 : List Int) (a1 : List Int) : (Int) → Option (LR (Int) (Unit) (Bool)) := fun s => w_eqInt64S_b1 a0 a1 s
noncomputable def w_eqInt64S_k1  : Option (Bool) :=
 some true
noncomputable def w_eqInt64S (a0 : List Int) (a1 : List Int) : Option (Bool) :=
 bsel (!decide ((a0.length : Int) = (a1.length : Int))) (
  some false) (
  obind (loopM (w_eqInt64S_s1 a0 a1) 0) fun z => osum z (fun _ => w_eqInt64S_k1) (fun r => some r))
theorem w_eqInt64S_ok (a0 : List Int) (a1 : List Int) (q0 : Bool) (h : w_eqInt64S a0 a1 = some q0) : Ev Try.prog 39 [sl a0.length (a0.map i64), sl a1.length (a1.map i64)] [] (b q0) [] := by
 refine Ev.start Try.func39 rfl rfl 0 (τ := [(0, sl a0.length (a0.map i64)), (1, sl a1.length (a1.map i64))]) rfl (Γ' := []) rfl (n := 53) rfl (g := 0) rfl (fun _ => rfl) ?_
 unfold w_eqInt64S at h
 refine zQ ?_
 refine zA (r := b false) rfl rfl rfl rfl rfl ?_
 refine zN ?_
 refine RunC.seq ?_
 refine RunC.seq ?_
 rcases bsel_some h with ⟨hc1, h⟩ | ⟨hc1, h⟩
 ·refine RunC.regionW ?_
  refine zM (r := sl a0.length (a0.map i64)) rfl rfl rfl rfl rfl ?_
  refine zL (r := i64 (a0.length : Int)) rfl rfl rfl (LOp.len_sl und22 rfl rfl) ?_
  refine zM (r := sl a1.length (a1.map i64)) rfl rfl rfl rfl rfl ?_
  refine zL (r := i64 (a1.length : Int)) rfl rfl rfl (LOp.len_sl und22 rfl rfl) ?_
  refine zL (r := b true) rfl rfl rfl (LOp.eqb (LOp.neq rfl rfl rfl) hc1) ?_
  refine zN ?_
  refine RunC.cond_true rfl rfl ?_
  refine zQ ?_
  refine zA (r := b false) rfl rfl rfl rfl rfl ?_
  refine zN ?_
  refine RunC.ret ?_
  have hq := Option.some.inj h
  subst q0
  exact bodyQ.pure (.inr rfl) rfl (Res.one rfl (RV.tmp rfl))
 ·refine RunC.regionW ?_
  refine zM (r := sl a0.length (a0.map i64)) rfl rfl rfl rfl rfl ?_
  refine zL (r := i64 (a0.length : Int)) rfl rfl rfl (LOp.len_sl und22 rfl rfl) ?_
  refine zM (r := sl a1.length (a1.map i64)) rfl rfl rfl rfl rfl ?_
  refine zL (r := i64 (a1.length : Int)) rfl rfl rfl (LOp.len_sl und22 rfl rfl) ?_
  refine zL (r := b false) rfl rfl rfl (LOp.eqb (LOp.neq rfl rfl rfl) hc1) ?_
  refine zN ?_
  refine RunC.cond_false rfl rfl ?_
  refine RunC.skip ?_
  refine RunC.seq ?_
  refine zQ ?_
  refine zA (r := i64 0) rfl rfl rfl rfl rfl ?_
  refine zN ?_
  obtain ⟨z2, hz_2, h⟩ := obind_some h
  refine RunC.cutN (fun τ Γ => WeakLe τ [] ∧ DeadLe Γ [] ∧ z2 = .inl ()) ?_ ?_
  ·refine RunC.block (RunC.loop (RunL.loopM (x := z2) (w_eqInt64S_s1 a0 a1) (fun (s : Int) τ Γ => WeakLe τ [(0, sl a0.length (a0.map i64)), (1, sl a1.length (a1.map i64)), (5, i64 s)] ∧ DeadLe Γ []) ?_ _ _ _ hz_2 ⟨⟨aR, aR, aR, trivial⟩, trivial⟩))
   rintro v1 τ2 Γ2 y2_ ⟨hw2, hd2⟩ h2_ ho2 hr2
   refine RunC.wl (τ' := [(0, sl a0.length (a0.map i64)), (1, sl a1.length (a1.map i64)), (5, i64 v1)]) (Γ' := []) hw2 hd2 ?_
   replace h2_ : w_eqInt64S_b1 a0 a1 v1 = some y2_ := h2_
   unfold w_eqInt64S_b1 at h2_
   refine RunC.seq ?_
   refine RunC.seq ?_
   rcases bsel_some h2_ with ⟨hc2, h2_⟩ | ⟨hc2, h2_⟩
   ·refine RunC.regionW ?_
    refine zM (r := i64 v1) rfl rfl rfl rfl rfl ?_
    refine zM (r := sl a0.length (a0.map i64)) rfl rfl rfl rfl rfl ?_
    refine zL (r := i64 (a0.length : Int)) rfl rfl rfl (LOp.len_sl und22 rfl rfl) ?_
    refine zL (r := b true) rfl rfl rfl (LOp.eqb (LOp.lss rfl rfl rfl) hc2) ?_
    refine zN ?_
    refine RunC.cond_true rfl rfl ?_
    refine RunC.skip ?_
    refine RunC.seq ?_
    refine RunC.block ?_
    refine RunC.seq ?_
    obtain ⟨e2, he3, h2_⟩ := obind_some h2_
    obtain ⟨e3, he4, h2_⟩ := obind_some h2_
    rcases bsel_some h2_ with ⟨hc5, h2_⟩ | ⟨hc5, h2_⟩
    ·refine RunC.region_draw (Γ' := []) 9 mixed 
      (TR.l (r := sl a0.length (a0.map i64)) rfl rfl (LOp.move rfl rfl) <|
      (TR.l (r := i64 v1) rfl rfl (LOp.move rfl rfl) <|
      (TR.l (r := ptr [i64 e2]) rfl rfl (LOp.le (LOp.ix (f := i64) und22 siz2 rfl rfl rfl rfl he3) ALe.ptr) <|
      (TR.l (r := i64 e2) rfl rfl (LOp.load1 agg2 rfl rfl) <|
      (TR.l (r := sl a1.length (a1.map i64)) rfl rfl (LOp.move rfl rfl) <|
      (TR.l (r := i64 v1) rfl rfl (LOp.move rfl rfl) <|
      (TR.l (r := ptr [i64 e3]) rfl rfl (LOp.le (LOp.ix (f := i64) und22 siz2 rfl rfl rfl rfl he4) ALe.ptr) <|
      (TR.l (r := i64 e3) rfl rfl (LOp.load1 agg2 rfl rfl) <|
      (TR.l (r := b true) rfl rfl (LOp.eqb (LOp.neq rfl rfl rfl) hc5) <|
      TR.nil))))))))) rfl (by kernel_rfl) rfl fills_nil rfl ?_
     iterate 9 refine ROps.dropS ?_
     refine ROps.drop0 ?_
     refine zN ?_
     refine RunC.cond_true rfl rfl ?_
     refine zQ ?_
     refine zA (r := b false) rfl rfl rfl rfl rfl ?_
     refine zN ?_
     refine RunC.ret ?_
     cases Option.some.inj h2_
     have hx3_ := hr2 _ rfl
     subst hx3_
     have hq := Option.some.inj h
     subst q0
     exact bodyQ.pure (.inr rfl) rfl (Res.one rfl (RV.tmp rfl))
    ·refine RunC.region_draw (Γ' := []) 9 mixed 
      (TR.l (r := sl a0.length (a0.map i64)) rfl rfl (LOp.move rfl rfl) <|
      (TR.l (r := i64 v1) rfl rfl (LOp.move rfl rfl) <|
      (TR.l (r := ptr [i64 e2]) rfl rfl (LOp.le (LOp.ix (f := i64) und22 siz2 rfl rfl rfl rfl he3) ALe.ptr) <|
      (TR.l (r := i64 e2) rfl rfl (LOp.load1 agg2 rfl rfl) <|
      (TR.l (r := sl a1.length (a1.map i64)) rfl rfl (LOp.move rfl rfl) <|
      (TR.l (r := i64 v1) rfl rfl (LOp.move rfl rfl) <|
      (TR.l (r := ptr [i64 e3]) rfl rfl (LOp.le (LOp.ix (f := i64) und22 siz2 rfl rfl rfl rfl he4) ALe.ptr) <|
      (TR.l (r := i64 e3) rfl rfl (LOp.load1 agg2 rfl rfl) <|
      (TR.l (r := b false) rfl rfl (LOp.eqb (LOp.neq rfl rfl rfl) hc5) <|
      TR.nil))))))))) rfl (by kernel_rfl) rfl fills_nil rfl ?_
     iterate 9 refine ROps.dropS ?_
     refine ROps.drop0 ?_
     refine zN ?_
     refine RunC.cond_false rfl rfl ?_
     refine RunC.skip ?_
     refine RunC.wl (τ' := [(0, sl a0.length (a0.map i64)), (1, sl a1.length (a1.map i64)), (5, i64 v1)]) (Γ' := []) ⟨aR, aR, aR, trivial⟩ trivial ?_
     obtain ⟨x4, hx6, h2_⟩ := olet_some h2_
     refine RunC.regionW ?_
     refine zM (r := i64 v1) rfl rfl rfl rfl rfl ?_
     refine zL (r := i64 x4) rfl rfl rfl (LOp.eqr (LOp.add rfl rfl rfl) (congrArg (ik .i64) hx6)) ?_
     refine zA (r := i64 x4) rfl rfl rfl rfl rfl ?_
     refine zN ?_
     cases Option.some.inj h2_
     exact ⟨_, rfl, ⟨aR, aR, aR, trivial⟩, trivial⟩
   ·refine RunC.regionW ?_
    refine zM (r := i64 v1) rfl rfl rfl rfl rfl ?_
    refine zM (r := sl a0.length (a0.map i64)) rfl rfl rfl rfl rfl ?_
    refine zL (r := i64 (a0.length : Int)) rfl rfl rfl (LOp.len_sl und22 rfl rfl) ?_
    refine zL (r := b false) rfl rfl rfl (LOp.eqb (LOp.lss rfl rfl rfl) hc2) ?_
    refine zN ?_
    refine RunC.cond_false rfl rfl ?_
    refine RunC.exit ?_
    cases Option.some.inj h2_
    have hx := ho2 _ rfl
    exact ⟨trivial, trivial, hx⟩
  ·rintro τ4 Γ4 ⟨hw4, hd4, rfl⟩
   refine RunC.wl hw4 hd4 ?_
   replace h : w_eqInt64S_k1 = some q0 := h
   unfold w_eqInt64S_k1 at h
   refine zQ ?_
   refine zA (r := b true) rfl rfl rfl rfl rfl ?_
   refine zN ?_
   refine RunC.ret ?_
   have hq := Option.some.inj h
   subst q0
   exact bodyQ.pure (.inr rfl) rfl (Res.one rfl (RV.tmp rfl))
noncomputable def w_eqSparse (a0 : Int) (a1 : List Int) (a2 : List Int) (a3 : List F) (a4 : Int) (a5 : List Int) (a6 : List Int) (a7 : List F) : Option (Bool) :=
 bsel (!decide (a0 = a4)) (
  some false) (
  obind (w_eqInt64S a1 a5) fun (r1 : Bool) =>
  bsel r1 (
   obind (w_eqInt64S a2 a6) fun (r2 : Bool) =>
   bsel r2 (
    obind (w_eqFloat32S a3 a7) fun (r3 : Bool) =>
    bsel r3 (
     some true) (
     some false)) (
    some false)) (
   some false))
theorem w_eqSparse_ok (a0 : Int) (a1 : List Int) (a2 : List Int) (a3 : List F) (a4 : Int) (a5 : List Int) (a6 : List Int) (a7 : List F) (q0 : Bool) (h : w_eqSparse a0 a1 a2 a3 a4 a5 a6 a7 = some q0) : Ev Try.prog 13 [agg [i64 a0, sl a1.length (a1.map i64), sl a2.length (a2.map i64), sl a3.length (a3.map f32)], agg [i64 a4, sl a5.length (a5.map i64), sl a6.length (a6.map i64), sl a7.length (a7.map f32)]] [] (b q0) [] := by
 refine Ev.start Try.func13 rfl rfl 0 (τ := [(0, agg [i64 a0, sl a1.length (a1.map i64), sl a2.length (a2.map i64), sl a3.length (a3.map f32)]), (1, agg [i64 a4, sl a5.length (a5.map i64), sl a6.length (a6.map i64), sl a7.length (a7.map f32)])]) rfl (Γ' := []) rfl (n := 57) rfl (g := 0) rfl (fun _ => rfl) ?_
 unfold w_eqSparse at h
 refine zQ ?_
 refine ROps.d (r := ptr [i64 a0, sl a1.length (a1.map i64), sl a2.length (a2.map i64), sl a3.length (a3.map f32)]) (fs := []) (Γ' := []) rfl rfl rfl (TOp.box_s rfl rfl rfl) rfl ?_
 refine ROps.d (r := ptr [i64 a4, sl a5.length (a5.map i64), sl a6.length (a6.map i64), sl a7.length (a7.map f32)]) (fs := []) (Γ' := []) rfl rfl rfl (TOp.box_s rfl rfl rfl) rfl ?_
 refine zA (r := b false) rfl rfl rfl rfl rfl ?_
 refine zN ?_
 refine RunC.seq ?_
 refine RunC.seq ?_
 rcases bsel_some h with ⟨hc1, h⟩ | ⟨hc1, h⟩
 ·refine RunC.regionW ?_
  refine zL (r := ptr [i64 a0, sl a1.length (a1.map i64), sl a2.length (a2.map i64), sl a3.length (a3.map f32)]) rfl rfl rfl (LOp.fap und30 rfl siz2 rfl rfl rfl) ?_
  refine zL (r := i64 a0) rfl rfl rfl (LOp.load1 agg2 rfl rfl) ?_
  refine zL (r := ptr [i64 a4, sl a5.length (a5.map i64), sl a6.length (a6.map i64), sl a7.length (a7.map f32)]) rfl rfl rfl (LOp.fap und30 rfl siz2 rfl rfl rfl) ?_
  refine zL (r := i64 a4) rfl rfl rfl (LOp.load1 agg2 rfl rfl) ?_
  refine zL (r := b true) rfl rfl rfl (LOp.eqb (LOp.neq rfl rfl rfl) hc1) ?_
  refine zN ?_
  refine RunC.cond_true rfl rfl ?_
  refine zQ ?_
  refine zA (r := b false) rfl rfl rfl rfl rfl ?_
  refine zN ?_
  refine RunC.ret ?_
  have hq := Option.some.inj h
  subst q0
  exact bodyQ.pure (.inr rfl) rfl (Res.one rfl (RV.tmp rfl))
 ·refine RunC.regionW ?_
  refine zL (r := ptr [i64 a0, sl a1.length (a1.map i64), sl a2.length (a2.map i64), sl a3.length (a3.map f32)]) rfl rfl rfl (LOp.fap und30 rfl siz2 rfl rfl rfl) ?_
  refine zL (r := i64 a0) rfl rfl rfl (LOp.load1 agg2 rfl rfl) ?_
  refine zL (r := ptr [i64 a4, sl a5.length (a5.map i64), sl a6.length (a6.map i64), sl a7.length (a7.map f32)]) rfl rfl rfl (LOp.fap und30 rfl siz2 rfl rfl rfl) ?_
  refine zL (r := i64 a4) rfl rfl rfl (LOp.load1 agg2 rfl rfl) ?_
  refine zL (r := b false) rfl rfl rfl (LOp.eqb (LOp.neq rfl rfl rfl) hc1) ?_
  refine zN ?_
  refine RunC.cond_false rfl rfl ?_
  refine RunC.skip ?_
  refine RunC.seq ?_
  refine RunC.seq ?_
  obtain ⟨r1, hf2, h⟩ := obind_some h
  rcases bsel_some h with ⟨hc3, h⟩ | ⟨hc3, h⟩
  ·refine RunC.regionW ?_
   refine zL (r := ptr [sl a1.length (a1.map i64), sl a2.length (a2.map i64), sl a3.length (a3.map f32)]) rfl rfl rfl (LOp.fap und30 rfl siz22 rfl rfl rfl) ?_
   refine zL (r := sl a1.length (a1.map i64)) rfl rfl rfl (LOp.load1 agg22 rfl rfl) ?_
   refine zL (r := ptr [sl a5.length (a5.map i64), sl a6.length (a6.map i64), sl a7.length (a7.map f32)]) rfl rfl rfl (LOp.fap und30 rfl siz22 rfl rfl rfl) ?_
   refine zL (r := sl a5.length (a5.map i64)) rfl rfl rfl (LOp.load1 agg22 rfl rfl) ?_
   refine ROps.d (r := b true) (fs := []) (Γ' := []) rfl rfl rfl (TOp.eqb (TOp.callB (CallAs.func ent39 rfl rfl) (Bors.cons (Bor.sl (fun _ => rfl)) (Bors.cons (Bor.sl (fun _ => rfl)) Bors.nil)) rfl rfl (w_eqInt64S_ok a1 a5 r1 hf2)) hc3) rfl ?_
   refine zL (r := b false) rfl rfl rfl (LOp.eqb (LOp.not rfl rfl) rfl) ?_
   refine zN ?_
   refine RunC.wl (τ' := [(2, ptr [i64 a0, sl a1.length (a1.map i64), sl a2.length (a2.map i64), sl a3.length (a3.map f32)]), (3, ptr [i64 a4, sl a5.length (a5.map i64), sl a6.length (a6.map i64), sl a7.length (a7.map f32)]), (15, b false)]) (Γ' := []) ⟨aR, aR, aR, trivial⟩ trivial ?_
   refine RunC.cond_false rfl rfl ?_
   refine RunC.skip ?_
   refine RunC.seq ?_
   refine RunC.seq ?_
   obtain ⟨r2, hf4, h⟩ := obind_some h
   rcases bsel_some h with ⟨hc5, h⟩ | ⟨hc5, h⟩
   ·refine RunC.regionW ?_
    refine zL (r := ptr [sl a2.length (a2.map i64), sl a3.length (a3.map f32)]) rfl rfl rfl (LOp.fap und30 rfl siz22 rfl rfl rfl) ?_
    refine zL (r := sl a2.length (a2.map i64)) rfl rfl rfl (LOp.load1 agg22 rfl rfl) ?_
    refine zL (r := ptr [sl a6.length (a6.map i64), sl a7.length (a7.map f32)]) rfl rfl rfl (LOp.fap und30 rfl siz22 rfl rfl rfl) ?_
    refine zL (r := sl a6.length (a6.map i64)) rfl rfl rfl (LOp.load1 agg22 rfl rfl) ?_
    refine ROps.d (r := b true) (fs := []) (Γ' := []) rfl rfl rfl (TOp.eqb (TOp.callB (CallAs.func ent39 rfl rfl) (Bors.cons (Bor.sl (fun _ => rfl)) (Bors.cons (Bor.sl (fun _ => rfl)) Bors.nil)) rfl rfl (w_eqInt64S_ok a2 a6 r2 hf4)) hc5) rfl ?_
    refine zL (r := b false) rfl rfl rfl (LOp.eqb (LOp.not rfl rfl) rfl) ?_
    refine zN ?_
    refine RunC.cond_false rfl rfl ?_
    refine RunC.skip ?_
    refine RunC.seq ?_
    refine RunC.seq ?_
    obtain ⟨r3, hf6, h⟩ := obind_some h
    rcases bsel_some h with ⟨hc7, h⟩ | ⟨hc7, h⟩
    ·refine RunC.regionW ?_
     refine zL (r := ptr [sl a3.length (a3.map f32)]) rfl rfl rfl (LOp.fap und30 rfl siz23 rfl rfl rfl) ?_
     refine zL (r := sl a3.length (a3.map f32)) rfl rfl rfl (LOp.load1 agg23 rfl rfl) ?_
     refine zL (r := ptr [sl a7.length (a7.map f32)]) rfl rfl rfl (LOp.fap und30 rfl siz23 rfl rfl rfl) ?_
     refine zL (r := sl a7.length (a7.map f32)) rfl rfl rfl (LOp.load1 agg23 rfl rfl) ?_
     refine ROps.d (r := b true) (fs := []) (Γ' := []) rfl rfl rfl (TOp.eqb (TOp.callB (CallAs.func ent12 rfl rfl) (Bors.cons (Bor.sl (fun _ => rfl)) (Bors.cons (Bor.sl (fun _ => rfl)) Bors.nil)) rfl rfl (w_eqFloat32S_ok a3 a7 r3 hf6)) hc7) rfl ?_
     refine zL (r := b false) rfl rfl rfl (LOp.eqb (LOp.not rfl rfl) rfl) ?_
     refine zN ?_
     refine RunC.wl (τ' := [(27, b false)]) (Γ' := []) ⟨aR, trivial⟩ trivial ?_
     refine RunC.cond_false rfl rfl ?_
     refine RunC.skip ?_
     refine zQ ?_
     refine zA (r := b true) rfl rfl rfl rfl rfl ?_
     refine zN ?_
     refine RunC.ret ?_
     have hq := Option.some.inj h
     subst q0
     exact bodyQ.pure (.inr rfl) rfl (Res.one rfl (RV.tmp rfl))
    ·refine RunC.regionW ?_
     refine zL (r := ptr [sl a3.length (a3.map f32)]) rfl rfl rfl (LOp.fap und30 rfl siz23 rfl rfl rfl) ?_
     refine zL (r := sl a3.length (a3.map f32)) rfl rfl rfl (LOp.load1 agg23 rfl rfl) ?_
     refine zL (r := ptr [sl a7.length (a7.map f32)]) rfl rfl rfl (LOp.fap und30 rfl siz23 rfl rfl rfl) ?_
     refine zL (r := sl a7.length (a7.map f32)) rfl rfl rfl (LOp.load1 agg23 rfl rfl) ?_
     refine ROps.d (r := b false) (fs := []) (Γ' := []) rfl rfl rfl (TOp.eqb (TOp.callB (CallAs.func ent12 rfl rfl) (Bors.cons (Bor.sl (fun _ => rfl)) (Bors.cons (Bor.sl (fun _ => rfl)) Bors.nil)) rfl rfl (w_eqFloat32S_ok a3 a7 r3 hf6)) hc7) rfl ?_
     refine zL (r := b true) rfl rfl rfl (LOp.eqb (LOp.not rfl rfl) rfl) ?_
     refine zN ?_
     refine RunC.wl (τ' := [(27, b true)]) (Γ' := []) ⟨aR, trivial⟩ trivial ?_
     refine RunC.cond_true rfl rfl ?_
     refine zQ ?_
     refine zA (r := b false) rfl rfl rfl rfl rfl ?_
     refine zN ?_
     refine RunC.ret ?_
     have hq := Option.some.inj h
     subst q0
     exact bodyQ.pure (.inr rfl) rfl (Res.one rfl (RV.tmp rfl))
   ·refine RunC.regionW ?_
    refine zL (r := ptr [sl a2.length (a2.map i64), sl a3.length (a3.map f32)]) rfl rfl rfl (LOp.fap und30 rfl siz22 rfl rfl rfl) ?_
    refine zL (r := sl a2.length (a2.map i64)) rfl rfl rfl (LOp.load1 agg22 rfl rfl) ?_
    refine zL (r := ptr [sl a6.length (a6.map i64), sl a7.length (a7.map f32)]) rfl rfl rfl (LOp.fap und30 rfl siz22 rfl rfl rfl) ?_
    refine zL (r := sl a6.length (a6.map i64)) rfl rfl rfl (LOp.load1 agg22 rfl rfl) ?_
    refine ROps.d (r := b false) (fs := []) (Γ' := []) rfl rfl rfl (TOp.eqb (TOp.callB (CallAs.func ent39 rfl rfl) (Bors.cons (Bor.sl (fun _ => rfl)) (Bors.cons (Bor.sl (fun _ => rfl)) Bors.nil)) rfl rfl (w_eqInt64S_ok a2 a6 r2 hf4)) hc5) rfl ?_
    refine zL (r := b true) rfl rfl rfl (LOp.eqb (LOp.not rfl rfl) rfl) ?_
    refine zN ?_
    refine RunC.cond_true rfl rfl ?_
    refine zQ ?_
    refine zA (r := b false) rfl rfl rfl rfl rfl ?_
    refine zN ?_
    refine RunC.ret ?_
    have hq := Option.some.inj h
    subst q0
    exact bodyQ.pure (.inr rfl) rfl (Res.one rfl (RV.tmp rfl))
  ·refine RunC.regionW ?_
   refine zL (r := ptr [sl a1.length (a1.map i64), sl a2.length (a2.map i64), sl a3.length (a3.map f32)]) rfl rfl rfl (LOp.fap und30 rfl siz22 rfl rfl rfl) ?_
   refine zL (r := sl a1.length (a1.map i64)) rfl rfl rfl (LOp.load1 agg22 rfl rfl) ?_
   refine zL (r := ptr [sl a5.length (a5.map i64), sl a6.length (a6.map i64), sl a7.length (a7.map f32)]) rfl rfl rfl (LOp.fap und30 rfl siz22 rfl rfl rfl) ?_
   refine zL (r := sl a5.length (a5.map i64)) rfl rfl rfl (LOp.load1 agg22 rfl rfl) ?_
   refine ROps.d (r := b false) (fs := []) (Γ' := []) rfl rfl rfl (TOp.eqb (TOp.callB (CallAs.func ent39 rfl rfl) (Bors.cons (Bor.sl (fun _ => rfl)) (Bors.cons (Bor.sl (fun _ => rfl)) Bors.nil)) rfl rfl (w_eqInt64S_ok a1 a5 r1 hf2)) hc3) rfl ?_
   refine zL (r := b true) rfl rfl rfl (LOp.eqb (LOp.not rfl rfl) rfl) ?_
   refine zN ?_
   refine RunC.wl (τ' := [(2, ptr [i64 a0, sl a1.length (a1.map i64), sl a2.length (a2.map i64), sl a3.length (a3.map f32)]), (3, ptr [i64 a4, sl a5.length (a5.map i64), sl a6.length (a6.map i64), sl a7.length (a7.map f32)]), (15, b true)]) (Γ' := []) ⟨aR, aR, aR, trivial⟩ trivial ?_
   refine RunC.cond_true rfl rfl ?_
   refine zQ ?_
   refine zA (r := b false) rfl rfl rfl rfl rfl ?_
   refine zN ?_
   refine RunC.ret ?_
   have hq := Option.some.inj h
   subst q0
   exact bodyQ.pure (.inr rfl) rfl (Res.one rfl (RV.tmp rfl))
noncomputable def w_markInt64S_0o_b1 (a1 : List Int) (L1 : List Int) (v3 : Int) (v4 : Int) : Option (LR ((List Int) × Int × Int) ((List Int) × Int) (Int × (List Int))) :=
 bsel (decide (v4 < ((a1.length : Nat) : Int))) (
  obind (setAt? L1 v4 v3) fun (L5 : List Int) =>
  olet (IntKind.i64.wrap (v3 + 1)) fun (x6 : Int) =>
  olet (IntKind.i64.wrap (v4 + 1)) fun (x7 : Int) =>
  some (LR.next (L5, x6, x7))) (
  some (LR.out (L1, v3)))
noncomputable def w_markInt64S_0o_s1 (a1 : List Int) : ((List Int) × Int × Int) → Option (LR ((List Int) × Int × Int) ((List Int) × Int) (Int × (List Int))) := fun s => w_markInt64S_0o_b1 a1 s.1 s.2.1 s.2.2
noncomputable def w_markInt64S_0o_k1 (L8 : List Int) (v10 : Int) : Option (Int × (List Int)) :=
 some (v10, L8)
noncomputable def w_markInt64S_0o (a0 : Int) (a1 : List Int) : Option (Int × (List Int)) :=
 obind (loopM (w_markInt64S_0o_s1 a1) (a1, a0, 0)) fun z => osum z (fun e => w_markInt64S_0o_k1 e.1 e.2) (fun r => some r)
theorem w_markInt64S_0o_ok (a0 : Int) (a1 : List Int) (q0 : Int) (q1 : List Int) (h : w_markInt64S_0o a0 a1 = some (q0, q1)) : Ev Try.prog 40 [oref 0 0 0 a1.length, i64 a0] [⟨0, some (a1.map i64)⟩] (i64 q0) [⟨0, some (q1.map i64)⟩] := by
 refine Ev.start Try.func40 rfl rfl 0 (τ := [(0, oref 0 0 0 a1.length), (1, i64 a0)]) rfl (Γ' := [⟨0, some (a1.map i64)⟩]) rfl (n := 38) rfl (g := 1) rfl (by decide) ?_
 unfold w_markInt64S_0o at h
 refine zQ ?_
 refine zA (r := i64 0) rfl rfl rfl rfl rfl ?_
 refine zN ?_
 refine RunC.seq ?_
 refine zQ ?_
 refine zA (r := i64 0) rfl rfl rfl rfl rfl ?_
 refine zN ?_
 obtain ⟨z2, hz_2, h⟩ := obind_some h
 refine RunC.cutN (fun τ Γ => ∃ (L8 : List Int) (v10 : Int), L8.length = a1.length ∧ WeakLe τ [(1, i64 v10)] ∧ DeadLe Γ [⟨0, some (L8.map i64)⟩] ∧ z2 = .inl (L8, v10)) ?_ ?_
 ·refine RunC.block (RunC.loop (RunL.loopM (x := z2) (w_markInt64S_0o_s1 a1) (fun (s : (List Int) × Int × Int) τ Γ => s.1.length = a1.length ∧ WeakLe τ [(0, oref 0 0 0 a1.length), (1, i64 s.2.1), (5, i64 s.2.2)] ∧ DeadLe Γ [⟨0, some (s.1.map i64)⟩]) ?_ _ _ _ hz_2 ⟨rfl, ⟨aR, aR, aR, trivial⟩, ⟨⟨rfl, .inr rfl⟩, trivial⟩⟩))
  rintro ⟨L1, v3, v4⟩ τ2 Γ2 y2_ ⟨hl2, hw2, hd2⟩ h2_ ho2 hr2
  refine RunC.wl (τ' := [(0, oref 0 0 0 a1.length), (1, i64 v3), (5, i64 v4)]) (Γ' := [⟨0, some (L1.map i64)⟩]) hw2 hd2 ?_
  replace hl2 : L1.length = a1.length := hl2
  replace h2_ : w_markInt64S_0o_b1 a1 L1 v3 v4 = some y2_ := h2_
  unfold w_markInt64S_0o_b1 at h2_
  refine RunC.seq ?_
  refine RunC.seq ?_
  rcases bsel_some h2_ with ⟨hc1, h2_⟩ | ⟨hc1, h2_⟩
  ·refine RunC.regionW ?_
   refine zM (r := i64 v4) rfl rfl rfl rfl rfl ?_
   refine zM (r := oref 0 0 0 a1.length) rfl rfl rfl rfl rfl ?_
   refine zL (r := i64 ((a1.length : Nat) : Int)) rfl rfl rfl (LOp.len_oref und22 rfl rfl) ?_
   refine zL (r := b true) rfl rfl rfl (LOp.eqb (LOp.lss rfl rfl rfl) hc1) ?_
   refine zN ?_
   refine RunC.cond_true rfl rfl ?_
   refine RunC.skip ?_
   refine RunC.seq ?_
   refine RunC.block ?_
   refine RunC.seq ?_
   obtain ⟨L5, he2, h2_⟩ := obind_some h2_
   refine RunC.regionW ?_
   refine zM (r := oref 0 0 0 a1.length) rfl rfl rfl rfl rfl ?_
   refine zM (r := i64 v4) rfl rfl rfl rfl rfl ?_
   refine zM (r := i64 v3) rfl rfl rfl rfl rfl ?_
   refine ROps.d (r := optr 0 0 v4.toNat) (fs := []) (Γ' := [⟨0, some (L1.map i64)⟩]) rfl rfl rfl (TOp.ixo und22 siz2 rfl rfl rfl (set_in he2 hl2) rfl) rfl ?_
   refine ROps.st (f := i64) (i := v4) (Γ' := [⟨0, some (L5.map i64)⟩]) rfl siz2 rfl rfl rfl aR rfl rfl rfl he2 rfl ?_
   refine zN ?_
   obtain ⟨x6, hx3, h2_⟩ := olet_some h2_
   refine RunC.regionW ?_
   refine zM (r := i64 v3) rfl rfl rfl rfl rfl ?_
   refine zL (r := i64 x6) rfl rfl rfl (LOp.eqr (LOp.add rfl rfl rfl) (congrArg (ik .i64) hx3)) ?_
   refine zA (r := i64 x6) rfl rfl rfl rfl rfl ?_
   refine zN ?_
   obtain ⟨x7, hx4, h2_⟩ := olet_some h2_
   refine RunC.regionW ?_
   refine zM (r := i64 v4) rfl rfl rfl rfl rfl ?_
   refine zL (r := i64 x7) rfl rfl rfl (LOp.eqr (LOp.add rfl rfl rfl) (congrArg (ik .i64) hx4)) ?_
   refine zA (r := i64 x7) rfl rfl rfl rfl rfl ?_
   refine zN ?_
   cases Option.some.inj h2_
   exact ⟨_, rfl, ((setAt?_len he2).trans hl2), ⟨aR, aR, aR, trivial⟩, ⟨⟨rfl, .inr rfl⟩, trivial⟩⟩
  ·refine RunC.regionW ?_
   refine zM (r := i64 v4) rfl rfl rfl rfl rfl ?_
   refine zM (r := oref 0 0 0 a1.length) rfl rfl rfl rfl rfl ?_
   refine zL (r := i64 ((a1.length : Nat) : Int)) rfl rfl rfl (LOp.len_oref und22 rfl rfl) ?_
   refine zL (r := b false) rfl rfl rfl (LOp.eqb (LOp.lss rfl rfl rfl) hc1) ?_
   refine zN ?_
   refine RunC.cond_false rfl rfl ?_
   refine RunC.exit ?_
   cases Option.some.inj h2_
   have hx := ho2 _ rfl
   exact ⟨L1, v3, hl2, ⟨aR, trivial⟩, ⟨⟨rfl, .inr rfl⟩, trivial⟩, hx⟩
 ·rintro τ3 Γ3 ⟨L8, v10, hl9, hw3, hd3, rfl⟩
  refine RunC.wl hw3 hd3 ?_
  replace h : w_markInt64S_0o_k1 L8 v10 = some (q0, q1) := h
  unfold w_markInt64S_0o_k1 at h
  refine zQ ?_
  refine zM (r := i64 v10) rfl rfl rfl rfl rfl ?_
  refine zA (r := i64 v10) rfl rfl rfl rfl rfl ?_
  refine zN ?_
  refine RunC.ret ?_
  have hq := Option.some.inj h
  obtain ⟨hq0, hq⟩ := Prod.mk.inj hq
  subst q0
  subst q1
  exact bodyQ.mk (r' := i64 v10) [(0, 0)] (.inr rfl) rfl (show List.Nodup [0] from by decide) rfl rfl (Res.one rfl (RV.tmp rfl)) (SelL.arr (f := i64) (fun _ => rfl) rfl trivial)
noncomputable def w_markFloat32S_0o_b1 (a1 : List F) (L1 : List F) (v3 : Int) (v4 : Int) : Option (LR ((List F) × Int × Int) ((List F) × Int) (Int × (List F))) :=
 bsel (decide (v4 < ((a1.length : Nat) : Int))) (
  olet (fint .f32 v3) fun (x5 : F) =>
  obind (setAt? L1 v4 x5) fun (L6 : List F) =>
  olet (IntKind.i64.wrap (v3 + 1)) fun (x7 : Int) =>
  olet (IntKind.i64.wrap (v4 + 1)) fun (x8 : Int) =>
  some (LR.next (L6, x7, x8))) (
  some (LR.out (L1, v3)))
noncomputable def w_markFloat32S_0o_s1 (a1 : List F) : ((List F) × Int × Int) → Option (LR ((List F) × Int × Int) ((List F) × Int) (Int × (List F))) := fun s => w_markFloat32S_0o_b1 a1 s.1 s.2.1 s.2.2
noncomputable def w_markFloat32S_0o_k1 (L9 : List F) (v11 : Int) : Option (Int × (List F)) :=
 some (v11, L9)
noncomputable def w_markFloat32S_0o (a0 : Int) (a1 : List F) : Option (Int × (List F)) :=
 obind (loopM (w_markFloat32S_0o_s1 a1) (a1, a0, 0)) fun z => osum z (fun e => w_markFloat32S_0o_k1 e.1 e.2) (fun r => some r)
theorem w_markFloat32S_0o_ok (a0 : Int) (a1 : List F) (q0 : Int) (q1 : List F) (h : w_markFloat32S_0o a0 a1 = some (q0, q1)) : Ev Try.prog 15 [oref 0 0 0 a1.length, i64 a0] [⟨0, some (a1.map f32)⟩] (i64 q0) [⟨0, some (q1.map f32)⟩] := by
 refine Ev.start Try.func15 rfl rfl 0 (τ := [(0, oref 0 0 0 a1.length), (1, i64 a0)]) rfl (Γ' := [⟨0, some (a1.map f32)⟩]) rfl (n := 40) rfl (g := 1) rfl (by decide) ?_
 unfold w_markFloat32S_0o at h
 refine zQ ?_
 refine zA (r := i64 0) rfl rfl rfl rfl rfl ?_
 refine zN ?_
 refine RunC.seq ?_
 refine zQ ?_
 refine zA (r := i64 0) rfl rfl rfl rfl rfl ?_
 refine zN ?_
 obtain ⟨z2, hz_2, h⟩ := obind_some h
 refine RunC.cutN (fun τ Γ => ∃ (L9 : List F) (v11 : Int), L9.length = a1.length ∧ WeakLe τ [(1, i64 v11)] ∧ DeadLe Γ [⟨0, some (L9.map f32)⟩] ∧ z2 = .inl (L9, v11)) ?_ ?_
 ·refine RunC.block (RunC.loop (RunL.loopM (x := z2) (w_markFloat32S_0o_s1 a1) (fun (s : (List F) × Int × Int) τ Γ => s.1.length = a1.length ∧ WeakLe τ [(0, oref 0 0 0 a1.length), (1, i64 s.2.1), (5, i64 s.2.2)] ∧ DeadLe Γ [⟨0, some (s.1.map f32)⟩]) ?_ _ _ _ hz_2 ⟨rfl, ⟨aR, aR, aR, trivial⟩, ⟨⟨rfl, .inr rfl⟩, trivial⟩⟩))
  rintro ⟨L1, v3, v4⟩ τ2 Γ2 y2_ ⟨hl2, hw2, hd2⟩ h2_ ho2 hr2
  refine RunC.wl (τ' := [(0, oref 0 0 0 a1.length), (1, i64 v3), (5, i64 v4)]) (Γ' := [⟨0, some (L1.map f32)⟩]) hw2 hd2 ?_
  replace hl2 : L1.length = a1.length := hl2
  replace h2_ : w_markFloat32S_0o_b1 a1 L1 v3 v4 = some y2_ := h2_
  unfold w_markFloat32S_0o_b1 at h2_
  refine RunC.seq ?_
  refine RunC.seq ?_
  rcases bsel_some h2_ with ⟨hc1, h2_⟩ | ⟨hc1, h2_⟩
  ·refine RunC.regionW ?_
   refine zM (r := i64 v4) rfl rfl rfl rfl rfl ?_
   refine zM (r := oref 0 0 0 a1.length) rfl rfl rfl rfl rfl ?_
   refine zL (r := i64 ((a1.length : Nat) : Int)) rfl rfl rfl (LOp.len_oref und23 rfl rfl) ?_
   refine zL (r := b true) rfl rfl rfl (LOp.eqb (LOp.lss rfl rfl rfl) hc1) ?_
   refine zN ?_
   refine RunC.cond_true rfl rfl ?_
   refine RunC.skip ?_
   refine RunC.seq ?_
   refine RunC.block ?_
   refine RunC.seq ?_
   obtain ⟨x5, hx2, h2_⟩ := olet_some h2_
   obtain ⟨L6, he3, h2_⟩ := obind_some h2_
   refine RunC.regionW ?_
   refine zM (r := oref 0 0 0 a1.length) rfl rfl rfl rfl rfl ?_
   refine zM (r := i64 v4) rfl rfl rfl rfl rfl ?_
   refine zM (r := i64 v3) rfl rfl rfl rfl rfl ?_
   refine zL (r := f32 x5) rfl rfl rfl (LOp.eqr (LOp.i2f (src := 3) (dst := 26) ⟨_, pun3⟩ pun26 rfl rfl) (congrArg (f .f32) hx2)) ?_
   refine ROps.d (r := optr 0 0 v4.toNat) (fs := []) (Γ' := [⟨0, some (L1.map f32)⟩]) rfl rfl rfl (TOp.ixo und23 siz26 rfl rfl rfl (set_in he3 hl2) rfl) rfl ?_
   refine ROps.st (f := f32) (i := v4) (Γ' := [⟨0, some (L6.map f32)⟩]) rfl siz26 rfl rfl rfl aR rfl rfl rfl he3 rfl ?_
   refine zN ?_
   obtain ⟨x7, hx4, h2_⟩ := olet_some h2_
   refine RunC.regionW ?_
   refine zM (r := i64 v3) rfl rfl rfl rfl rfl ?_
   refine zL (r := i64 x7) rfl rfl rfl (LOp.eqr (LOp.add rfl rfl rfl) (congrArg (ik .i64) hx4)) ?_
   refine zA (r := i64 x7) rfl rfl rfl rfl rfl ?_
   refine zN ?_
   obtain ⟨x8, hx5, h2_⟩ := olet_some h2_
   refine RunC.regionW ?_
   refine zM (r := i64 v4) rfl rfl rfl rfl rfl ?_
   refine zL (r := i64 x8) rfl rfl rfl (LOp.eqr (LOp.add rfl rfl rfl) (congrArg (ik .i64) hx5)) ?_
   refine zA (r := i64 x8) rfl rfl rfl rfl rfl ?_
   refine zN ?_
   cases Option.some.inj h2_
   exact ⟨_, rfl, ((setAt?_len he3).trans hl2), ⟨aR, aR, aR, trivial⟩, ⟨⟨rfl, .inr rfl⟩, trivial⟩⟩
  ·refine RunC.regionW ?_
   refine zM (r := i64 v4) rfl rfl rfl rfl rfl ?_
   refine zM (r := oref 0 0 0 a1.length) rfl rfl rfl rfl rfl ?_
   refine zL (r := i64 ((a1.length : Nat) : Int)) rfl rfl rfl (LOp.len_oref und23 rfl rfl) ?_
   refine zL (r := b false) rfl rfl rfl (LOp.eqb (LOp.lss rfl rfl rfl) hc1) ?_
   refine zN ?_
   refine RunC.cond_false rfl rfl ?_
   refine RunC.exit ?_
   cases Option.some.inj h2_
   have hx := ho2 _ rfl
   exact ⟨L1, v3, hl2, ⟨aR, trivial⟩, ⟨⟨rfl, .inr rfl⟩, trivial⟩, hx⟩
 ·rintro τ3 Γ3 ⟨L9, v11, hl10, hw3, hd3, rfl⟩
  refine RunC.wl hw3 hd3 ?_
  replace h : w_markFloat32S_0o_k1 L9 v11 = some (q0, q1) := h
  unfold w_markFloat32S_0o_k1 at h
  refine zQ ?_
  refine zM (r := i64 v11) rfl rfl rfl rfl rfl ?_
  refine zA (r := i64 v11) rfl rfl rfl rfl rfl ?_
  refine zN ?_
  refine RunC.ret ?_
  have hq := Option.some.inj h
  obtain ⟨hq0, hq⟩ := Prod.mk.inj hq
  subst q0
  subst q1
  exact bodyQ.mk (r' := i64 v11) [(0, 0)] (.inr rfl) rfl (show List.Nodup [0] from by decide) rfl rfl (Res.one rfl (RV.tmp rfl)) (SelL.arr (f := f32) (fun _ => rfl) rfl trivial)
noncomputable def w_markSparse_01o_02o1_03o2 (a0 : Int) (a1 : Int) (a2 : List Int) (a3 : List Int) (a4 : List F) : Option (Int × (List Int) × (List Int) × (List F)) :=
 obind2 (w_markInt64S_0o a1 a2) fun (r1 : Int) (r2 : List Int) =>
 need (decide (r2.length = a2.length)) <|
 obind2 (w_markInt64S_0o r1 a3) fun (r3 : Int) (r4 : List Int) =>
 need (decide (r4.length = a3.length)) <|
 obind2 (w_markFloat32S_0o r3 a4) fun (r5 : Int) (r6 : List F) =>
 need (decide (r6.length = a4.length)) <|
 some (r5, r2, r4, r6)
theorem w_markSparse_01o_02o1_03o2_ok (a0 : Int) (a1 : Int) (a2 : List Int) (a3 : List Int) (a4 : List F) (q0 : Int) (q1 : List Int) (q2 : List Int) (q3 : List F) (h : w_markSparse_01o_02o1_03o2 a0 a1 a2 a3 a4 = some (q0, q1, q2, q3)) : Ev Try.prog 14 [agg [i64 a0, oref 0 0 0 a2.length, oref 1 0 0 a3.length, oref 2 0 0 a4.length], i64 a1] [⟨0, some (a2.map i64)⟩, ⟨0, some (a3.map i64)⟩, ⟨0, some (a4.map f32)⟩] (i64 q0) [⟨0, some (q1.map i64)⟩, ⟨0, some (q2.map i64)⟩, ⟨0, some (q3.map f32)⟩] := by
 refine Ev.start Try.func14 rfl rfl 0 (τ := [(0, agg [i64 a0, oref 0 0 0 a2.length, oref 1 0 0 a3.length, oref 2 0 0 a4.length]), (1, i64 a1)]) rfl (Γ' := [⟨0, some (a2.map i64)⟩, ⟨0, some (a3.map i64)⟩, ⟨0, some (a4.map f32)⟩]) rfl (n := 36) rfl (g := 3) rfl (by decide) ?_
 unfold w_markSparse_01o_02o1_03o2 at h
 refine zQ ?_
 refine ROps.d (r := ptr [i64 a0, oref 0 0 0 a2.length, oref 1 0 0 a3.length, oref 2 0 0 a4.length]) (fs := []) (Γ' := [⟨0, some (a2.map i64)⟩, ⟨0, some (a3.map i64)⟩, ⟨0, some (a4.map f32)⟩]) rfl rfl rfl (TOp.box_s rfl rfl rfl) rfl ?_
 refine zA (r := i64 0) rfl rfl rfl rfl rfl ?_
 refine zN ?_
 refine RunC.seq ?_
 obtain ⟨r1, r2, hf1, h⟩ := obind2_some h
 obtain ⟨hn2, h⟩ := need_some h
 refine RunC.regionW ?_
 refine zL (r := ptr [oref 0 0 0 a2.length, oref 1 0 0 a3.length, oref 2 0 0 a4.length]) rfl rfl rfl (LOp.fap und30 rfl siz22 rfl rfl rfl) ?_
 refine zL (r := oref 0 0 0 a2.length) rfl rfl rfl (LOp.load1 agg22 rfl rfl) ?_
 refine zM (r := i64 a1) rfl rfl rfl rfl rfl ?_
 refine ROps.callO (A := [oref 0 0 0 a2.length, i64 a1]) (args := [oref 0 0 0 a2.length, i64 a1]) (Γc := [⟨0, some (a2.map i64)⟩]) (Γc' := [⟨0, some (r2.map i64)⟩]) (r' := i64 r1) (Γ' := [⟨0, some (r2.map i64)⟩, ⟨0, some (a3.map i64)⟩, ⟨0, some (a4.map f32)⟩]) [(0, 0)] [] rfl (CallAs.func ent40 rfl rfl) rfl rfl (SelOk.of (show List.Nodup [0] from by decide) (SelL.arr0 (f := i64) (fun _ => rfl) rfl trivial)) (live_of ⟨⟨_, _, rfl⟩, trivial⟩) (by simp [ren, rens, sigma, rens_f32, rens_f64, rens_i64, rens_ik, rens_str, rens_cp]) rfl (w_markInt64S_0o_ok a1 a2 r1 r2 hf1) rfl (news_of trivial) (show List.Nodup [0] from by decide) (by simp [ren, rens, sigma, of_decide_eq_true hn2]) (by simp [backOb, sigma, ren, rens, rens_f32, rens_f64, rens_i64, rens_ik, rens_str, rens_cp]) ?_
 refine zA (r := i64 r1) rfl rfl rfl rfl rfl ?_
 refine zN ?_
 refine RunC.seq ?_
 obtain ⟨r3, r4, hf3, h⟩ := obind2_some h
 obtain ⟨hn4, h⟩ := need_some h
 refine RunC.regionW ?_
 refine zL (r := ptr [oref 1 0 0 a3.length, oref 2 0 0 a4.length]) rfl rfl rfl (LOp.fap und30 rfl siz22 rfl rfl rfl) ?_
 refine zL (r := oref 1 0 0 a3.length) rfl rfl rfl (LOp.load1 agg22 rfl rfl) ?_
 refine zM (r := i64 r1) rfl rfl rfl rfl rfl ?_
 refine ROps.callO (A := [oref 1 0 0 a3.length, i64 r1]) (args := [oref 0 0 0 a3.length, i64 r1]) (Γc := [⟨0, some (a3.map i64)⟩]) (Γc' := [⟨0, some (r4.map i64)⟩]) (r' := i64 r3) (Γ' := [⟨0, some (r2.map i64)⟩, ⟨0, some (r4.map i64)⟩, ⟨0, some (a4.map f32)⟩]) [(1, 0)] [] rfl (CallAs.func ent40 rfl rfl) rfl rfl (SelOk.of (show List.Nodup [1] from by decide) (SelL.arr0 (f := i64) (fun _ => rfl) rfl trivial)) (live_of ⟨⟨_, _, rfl⟩, trivial⟩) (by simp [ren, rens, sigma, rens_f32, rens_f64, rens_i64, rens_ik, rens_str, rens_cp]) rfl (w_markInt64S_0o_ok r1 a3 r3 r4 hf3) rfl (news_of trivial) (show List.Nodup [1] from by decide) (by simp [ren, rens, sigma, of_decide_eq_true hn4]) (by simp [backOb, sigma, ren, rens, rens_f32, rens_f64, rens_i64, rens_ik, rens_str, rens_cp]) ?_
 refine zA (r := i64 r3) rfl rfl rfl rfl rfl ?_
 refine zN ?_
 refine RunC.seq ?_
 obtain ⟨r5, r6, hf5, h⟩ := obind2_some h
 obtain ⟨hn6, h⟩ := need_some h
 refine RunC.regionW ?_
 refine zL (r := ptr [oref 2 0 0 a4.length]) rfl rfl rfl (LOp.fap und30 rfl siz23 rfl rfl rfl) ?_
 refine zL (r := oref 2 0 0 a4.length) rfl rfl rfl (LOp.load1 agg23 rfl rfl) ?_
 refine zM (r := i64 r3) rfl rfl rfl rfl rfl ?_
 refine ROps.callO (A := [oref 2 0 0 a4.length, i64 r3]) (args := [oref 0 0 0 a4.length, i64 r3]) (Γc := [⟨0, some (a4.map f32)⟩]) (Γc' := [⟨0, some (r6.map f32)⟩]) (r' := i64 r5) (Γ' := [⟨0, some (r2.map i64)⟩, ⟨0, some (r4.map i64)⟩, ⟨0, some (r6.map f32)⟩]) [(2, 0)] [] rfl (CallAs.func ent15 rfl rfl) rfl rfl (SelOk.of (show List.Nodup [2] from by decide) (SelL.arr0 (f := f32) (fun _ => rfl) rfl trivial)) (live_of ⟨⟨_, _, rfl⟩, trivial⟩) (by simp [ren, rens, sigma, rens_f32, rens_f64, rens_i64, rens_ik, rens_str, rens_cp]) rfl (w_markFloat32S_0o_ok r3 a4 r5 r6 hf5) rfl (news_of trivial) (show List.Nodup [2] from by decide) (by simp [ren, rens, sigma, of_decide_eq_true hn6]) (by simp [backOb, sigma, ren, rens, rens_f32, rens_f64, rens_i64, rens_ik, rens_str, rens_cp]) ?_
 refine zA (r := i64 r5) rfl rfl rfl rfl rfl ?_
 refine zN ?_
 refine RunC.wl (τ' := [(1, i64 r5)]) (Γ' := [⟨0, some (r2.map i64)⟩, ⟨0, some (r4.map i64)⟩, ⟨0, some (r6.map f32)⟩]) ⟨aR, trivial⟩ ⟨⟨rfl, .inr rfl⟩, ⟨rfl, .inr rfl⟩, ⟨rfl, .inr rfl⟩, trivial⟩ ?_
 refine zQ ?_
 refine zM (r := i64 r5) rfl rfl rfl rfl rfl ?_
 refine zA (r := i64 r5) rfl rfl rfl rfl rfl ?_
 refine zN ?_
 refine RunC.ret ?_
 have hq := Option.some.inj h
 obtain ⟨hq0, hq⟩ := Prod.mk.inj hq
 obtain ⟨hq1, hq⟩ := Prod.mk.inj hq
 obtain ⟨hq2, hq⟩ := Prod.mk.inj hq
 subst q0
 subst q1
 subst q2
 subst q3
 exact bodyQ.mk (r' := i64 r5) [(0, 0), (1, 0), (2, 0)] (.inr rfl) rfl (show List.Nodup [0, 1, 2] from by decide) rfl rfl (Res.one rfl (RV.tmp rfl)) (SelL.arr (f := i64) (fun _ => rfl) rfl (SelL.arr (f := i64) (fun _ => rfl) rfl (SelL.arr (f := f32) (fun _ => rfl) rfl trivial)))
noncomputable def w_heldFloat32S_b1 (a0 : List F) (v1 : Int) (v2 : Int) : Option (LR (Int × Int) (Int) (Int)) :=
 bsel (decide (v2 < (a0.length : Int))) (
  obind (at? a0 v2) fun (e3 : F) =>
  olet (fint .f32 v1) fun (x4 : F) =>
  bsel (!feq .f32 e3 x4) (
   some (LR.ret (-1))) (
   olet (IntKind.i64.wrap (v1 + 1)) fun (x5 : Int) =>
   olet (IntKind.i64.wrap (v2 + 1)) fun (x6 : Int) =>
   some (LR.next (x5, x6)))) (
  some (LR.out v1))
noncomputable def w_heldFloat32S_s1 (a0 : List F) : (Int × Int) → Option (LR (Int × Int) (Int) (Int)) := fun s => w_heldFloat32S_b1 a0 s.1 s.2
noncomputable def w_heldFloat32S_k1 (v7 : Int) : Option (Int) :=
 some v7
noncomputable def w_heldFloat32S (a0 : List F) (a1 : Int) : Option (Int) :=
 obind (loopM (w_heldFloat32S_s1 a0) (a1, 0)) fun z => osum z (fun e => w_heldFloat32S_k1 e) (fun r => some r)
theorem w_heldFloat32S_ok (a0 : List F) (a1 : Int) (q0 : Int) (h : w_heldFloat32S a0 a1 = some q0) : Ev Try.prog 16 [sl a0.length (a0.map f32), i64 a1] [] (i64 q0) [] := by
 refine Ev.start Try.func16 rfl rfl 0 (τ := [(0, sl a0.length (a0.map f32)), (1, i64 a1)]) rfl (Γ' := []) rfl (n := 45) rfl (g := 0) rfl (fun _ => rfl) ?_
 unfold w_heldFloat32S at h
 refine zQ ?_
 refine zA (r := i64 0) rfl rfl rfl rfl rfl ?_
 refine zN ?_
 refine RunC.seq ?_
 refine zQ ?_
 refine zA (r := i64 0) rfl rfl rfl rfl rfl ?_
 refine zN ?_
 obtain ⟨z2, hz_2, h⟩ := obind_some h
 refine RunC.cutN (fun τ Γ => ∃ (v7 : Int), WeakLe τ [(1, i64 v7)] ∧ DeadLe Γ [] ∧ z2 = .inl v7) ?_ ?_
 ·refine RunC.block (RunC.loop (RunL.loopM (x := z2) (w_heldFloat32S_s1 a0) (fun (s : Int × Int) τ Γ => WeakLe τ [(0, sl a0.length (a0.map f32)), (1, i64 s.1), (5, i64 s.2)] ∧ DeadLe Γ []) ?_ _ _ _ hz_2 ⟨⟨aR, aR, aR, trivial⟩, trivial⟩))
  rintro ⟨v1, v2⟩ τ2 Γ2 y2_ ⟨hw2, hd2⟩ h2_ ho2 hr2
  refine RunC.wl (τ' := [(0, sl a0.length (a0.map f32)), (1, i64 v1), (5, i64 v2)]) (Γ' := []) hw2 hd2 ?_
  replace h2_ : w_heldFloat32S_b1 a0 v1 v2 = some y2_ := h2_
  unfold w_heldFloat32S_b1 at h2_
  refine RunC.seq ?_
  refine RunC.seq ?_
  rcases bsel_some h2_ with ⟨hc1, h2_⟩ | ⟨hc1, h2_⟩
  ·refine RunC.regionW ?_
   refine zM (r := i64 v2) rfl rfl rfl rfl rfl ?_
   refine zM (r := sl a0.length (a0.map f32)) rfl rfl rfl rfl rfl ?_
   refine zL (r := i64 (a0.length : Int)) rfl rfl rfl (LOp.len_sl und23 rfl rfl) ?_
   refine zL (r := b true) rfl rfl rfl (LOp.eqb (LOp.lss rfl rfl rfl) hc1) ?_
   refine zN ?_
   refine RunC.cond_true rfl rfl ?_
   refine RunC.skip ?_
   refine RunC.seq ?_
   refine RunC.block ?_
   refine RunC.seq ?_
   refine RunC.seq ?_
   obtain ⟨e3, he2, h2_⟩ := obind_some h2_
   obtain ⟨x4, hx3, h2_⟩ := olet_some h2_
   rcases bsel_some h2_ with ⟨hc4, h2_⟩ | ⟨hc4, h2_⟩
   ·refine RunC.regionW ?_
    refine zM (r := sl a0.length (a0.map f32)) rfl rfl rfl rfl rfl ?_
    refine zM (r := i64 v2) rfl rfl rfl rfl rfl ?_
    refine zL (r := ptr [f32 e3]) rfl rfl rfl (LOp.le (LOp.ix (f := f32) und23 siz26 rfl rfl rfl rfl he2) ALe.ptr) ?_
    refine zL (r := f32 e3) rfl rfl rfl (LOp.load1 agg26 rfl rfl) ?_
    refine zM (r := i64 v1) rfl rfl rfl rfl rfl ?_
    refine zL (r := f32 x4) rfl rfl rfl (LOp.eqr (LOp.i2f (src := 3) (dst := 26) ⟨_, pun3⟩ pun26 rfl rfl) (congrArg (f .f32) hx3)) ?_
    refine zL (r := b true) rfl rfl rfl (LOp.eqb (LOp.fne rfl (OpF.tmp rfl) (OpF.tmp rfl)) hc4) ?_
    refine zN ?_
    refine RunC.cond_true rfl rfl ?_
    refine zQ ?_
    refine zA (r := i64 (-1)) rfl rfl rfl rfl rfl ?_
    refine zN ?_
    refine RunC.ret ?_
    cases Option.some.inj h2_
    have hx3_ := hr2 _ rfl
    subst hx3_
    have hq := Option.some.inj h
    subst q0
    exact bodyQ.pure (.inr rfl) rfl (Res.one rfl (RV.tmp rfl))
   ·refine RunC.regionW ?_
    refine zM (r := sl a0.length (a0.map f32)) rfl rfl rfl rfl rfl ?_
    refine zM (r := i64 v2) rfl rfl rfl rfl rfl ?_
    refine zL (r := ptr [f32 e3]) rfl rfl rfl (LOp.le (LOp.ix (f := f32) und23 siz26 rfl rfl rfl rfl he2) ALe.ptr) ?_
    refine zL (r := f32 e3) rfl rfl rfl (LOp.load1 agg26 rfl rfl) ?_
    refine zM (r := i64 v1) rfl rfl rfl rfl rfl ?_
    refine zL (r := f32 x4) rfl rfl rfl (LOp.eqr (LOp.i2f (src := 3) (dst := 26) ⟨_, pun3⟩ pun26 rfl rfl) (congrArg (f .f32) hx3)) ?_
    refine zL (r := b false) rfl rfl rfl (LOp.eqb (LOp.fne rfl (OpF.tmp rfl) (OpF.tmp rfl)) hc4) ?_
    refine zN ?_
    refine RunC.cond_false rfl rfl ?_
    refine RunC.skip ?_
    obtain ⟨x5, hx5, h2_⟩ := olet_some h2_
    refine RunC.regionW ?_
    refine zM (r := i64 v1) rfl rfl rfl rfl rfl ?_
    refine zL (r := i64 x5) rfl rfl rfl (LOp.eqr (LOp.add rfl rfl rfl) (congrArg (ik .i64) hx5)) ?_
    refine zA (r := i64 x5) rfl rfl rfl rfl rfl ?_
    refine zN ?_
    refine RunC.wl (τ' := [(0, sl a0.length (a0.map f32)), (1, i64 x5), (5, i64 v2)]) (Γ' := []) ⟨aR, aR, aR, trivial⟩ trivial ?_
    obtain ⟨x6, hx6, h2_⟩ := olet_some h2_
    refine RunC.regionW ?_
    refine zM (r := i64 v2) rfl rfl rfl rfl rfl ?_
    refine zL (r := i64 x6) rfl rfl rfl (LOp.eqr (LOp.add rfl rfl rfl) (congrArg (ik .i64) hx6)) ?_
    refine zA (r := i64 x6) rfl rfl rfl rfl rfl ?_
    refine zN ?_
    cases Option.some.inj h2_
    exact ⟨_, rfl, ⟨aR, aR, aR, trivial⟩, trivial⟩
  ·refine RunC.regionW ?_
   refine zM (r := i64 v2) rfl rfl rfl rfl rfl ?_
   refine zM (r := sl a0.length (a0.map f32)) rfl rfl rfl rfl rfl ?_
   refine zL (r := i64 (a0.length : Int)) rfl rfl rfl (LOp.len_sl und23 rfl rfl) ?_
   refine zL (r := b false) rfl rfl rfl (LOp.eqb (LOp.lss rfl rfl rfl) hc1) ?_
   refine zN ?_
   refine RunC.cond_false rfl rfl ?_
   refine RunC.exit ?_
   cases Option.some.inj h2_
   have hx := ho2 _ rfl
   exact ⟨v1, ⟨aR, trivial⟩, trivial, hx⟩
 ·rintro τ4 Γ4 ⟨v7, hw4, hd4, rfl⟩
  refine RunC.wl hw4 hd4 ?_
  replace h : w_heldFloat32S_k1 v7 = some q0 := h
  unfold w_heldFloat32S_k1 at h
  refine zQ ?_
  refine zM (r := i64 v7) rfl rfl rfl rfl rfl ?_
  refine zA (r := i64 v7) rfl rfl rfl rfl rfl ?_
  refine zN ?_
  refine RunC.ret ?_
  have hq := Option.some.inj h
  subst q0
  exact bodyQ.pure (.inr rfl) rfl (Res.one rfl (RV.tmp rfl))
end Go.Proofs.Ytcoookgeialmnaa
