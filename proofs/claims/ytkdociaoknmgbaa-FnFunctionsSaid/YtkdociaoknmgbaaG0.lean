/- Generated. -/
import Derived.Test.YtkdociaoknmgbaaTys
namespace Go.Proofs.Ytkdociaoknmgbaa
open Go Go.AM Go.AM.AV
set_option maxRecDepth 20000
set_option maxHeartbeats 4000000
set_option linter.unusedVariables false
set_option linter.unusedSimpArgs false
noncomputable section
def w_r8Long (a0 : List Int) (a1 : List Int) : Option (Bool) :=
 bsel (decide (48 < (a0.length : Int))) (
  some true) (
  some (decide (48 < (a1.length : Int))))
theorem w_r8Long_ok (a0 : List Int) (a1 : List Int) (q0 : Bool) (h : w_r8Long a0 a1 = some q0) : Ev Try.prog 31 [sl a0.length (a0.map (ik .u8)), sl a1.length (a1.map (ik .u8))] [] (b q0) [] := by
 refine yE Try.func31 0 27 0 [(0, sl a0.length (a0.map (ik .u8))), (1, sl a1.length (a1.map (ik .u8)))] [] rfl ?_
 unfold w_r8Long at h
 refine zQ<|ya rfl (b false)<|zN ?_
 refine yS ?_
 rcases oB h with ⟨hc1, h⟩ | ⟨hc1, h⟩
 ·refine yW<|ym rfl (sl a0.length (a0.map (ik .u8)))<|yl rfl (i64 (a0.length : Int)) (LOp.len_sl und22 rfl rfl)<|yl rfl (b true) (LOp.eqb (LOp.gtr rfl rfl rfl) hc1)<|ym rfl (b true)<|ROps.s rfl rfl rfl<|ROps.s rfl rfl rfl<|ROps.s rfl rfl rfl<|yl rfl (b true) yq<|ya rfl (b true)<|zN ?_
  refine RunC.ret ?_
  have hq := oI h
  subst q0
  exact bodyQ.pure (.inr rfl) rfl (Res.one rfl (RV.tmp rfl))
 ·refine yW<|ym rfl (sl a0.length (a0.map (ik .u8)))<|yl rfl (i64 (a0.length : Int)) (LOp.len_sl und22 rfl rfl)<|yl rfl (b false) (LOp.eqb (LOp.gtr rfl rfl rfl) hc1)<|ym rfl (b false)<|ym rfl (sl a1.length (a1.map (ik .u8)))<|yl rfl (i64 (a1.length : Int)) (LOp.len_sl und22 rfl rfl)<|yl rfl (b (decide (48 < (a1.length : Int)))) (LOp.gtr rfl rfl rfl)<|yl rfl (b (decide (48 < (a1.length : Int)))) yp<|ya rfl (b (decide (48 < (a1.length : Int))))<|zN ?_
  refine RunC.ret ?_
  have hq := oI h
  subst q0
  exact bodyQ.pure (.inr rfl) rfl (Res.one rfl (RV.tmp rfl))
def w_r8At (a0 : List Int) (a1 : Int) (a2 : Int) : Option (Int) :=
 bsel (decide (a2 ≤ 1)) (
  some 0) (
  bsel (decide ((a0.length : Int) ≤ a1)) (
   some 0) (
   obind (at? a0 a1) fun (e1 : Int) =>
   olet (IntKind.i64.wrap e1) fun (x2 : Int) =>
   need (!decide (a2 = 0)) <|
   olet (x2.tmod a2) fun (x3 : Int) =>
   some x3))
theorem w_r8At_ok (a0 : List Int) (a1 : Int) (a2 : Int) (q0 : Int) (h : w_r8At a0 a1 a2 = some q0) : Ev Try.prog 32 [sl a0.length (a0.map (ik .u8)), i64 a1, i64 a2] [] (i64 q0) [] := by
 refine yE Try.func32 0 45 0 [(0, sl a0.length (a0.map (ik .u8))), (1, i64 a1), (2, i64 a2)] [] rfl ?_
 unfold w_r8At at h
 refine zQ<|ya rfl (i64 0)<|zN ?_
 refine yS<|yS ?_
 rcases oB h with ⟨hc1, h⟩ | ⟨hc1, h⟩
 ·refine yW<|ym rfl (i64 a2)<|yl rfl (b true) (LOp.eqb (LOp.leq rfl rfl rfl) hc1)<|ym rfl (b true)<|ROps.s rfl rfl rfl<|ROps.s rfl rfl rfl<|ROps.s rfl rfl rfl<|ROps.s rfl rfl rfl<|yl rfl (b true) yq<|zN ?_
  refine yT<|zQ<|ya rfl (i64 0)<|zN ?_
  refine RunC.ret ?_
  have hq := oI h
  subst q0
  exact bodyQ.pure (.inr rfl) rfl (Res.one rfl (RV.tmp rfl))
 ·rcases oB h with ⟨hc2, h⟩ | ⟨hc2, h⟩
  ·refine yW<|ym rfl (i64 a2)<|yl rfl (b false) (LOp.eqb (LOp.leq rfl rfl rfl) hc1)<|ym rfl (b false)<|ym rfl (i64 a1)<|ym rfl (sl a0.length (a0.map (ik .u8)))<|yl rfl (i64 (a0.length : Int)) (LOp.len_sl und22 rfl rfl)<|yl rfl (b true) (LOp.eqb (LOp.geq rfl rfl rfl) hc2)<|yl rfl (b true) yp<|zN ?_
   refine yT<|zQ<|ya rfl (i64 0)<|zN ?_
   refine RunC.ret ?_
   have hq := oI h
   subst q0
   exact bodyQ.pure (.inr rfl) rfl (Res.one rfl (RV.tmp rfl))
  ·refine yW<|ym rfl (i64 a2)<|yl rfl (b false) (LOp.eqb (LOp.leq rfl rfl rfl) hc1)<|ym rfl (b false)<|ym rfl (i64 a1)<|ym rfl (sl a0.length (a0.map (ik .u8)))<|yl rfl (i64 (a0.length : Int)) (LOp.len_sl und22 rfl rfl)<|yl rfl (b false) (LOp.eqb (LOp.geq rfl rfl rfl) hc2)<|yl rfl (b false) yp<|zN ?_
   refine yF<|RunC.skip<|yS ?_
   obtain ⟨e1, he3, h⟩ := oS h
   obtain ⟨x2, hx4, h⟩ := oL h
   obtain ⟨hz5, h⟩ := need_some h
   obtain ⟨x3, hx6, h⟩ := oL h
   refine yW<|ym rfl (sl a0.length (a0.map (ik .u8)))<|ym rfl (i64 a1)<|yl rfl (ptr [ik .u8 e1]) (LOp.le (LOp.ix (f := (ik .u8)) und22 siz5 rfl rfl rfl rfl he3) ALe.ptr)<|yl rfl (ik .u8 e1) (y2 agg5)<|yl rfl (i64 x2) (LOp.eqr (LOp.i2i (src := 5) (dst := 2) ⟨_, pun5⟩ pun2 rfl rfl) (congrArg (ik .i64) hx4))<|ym rfl (i64 a2)<|yl rfl (i64 x3) (LOp.eqr (LOp.rem rfl rfl rfl (nz hz5)) (congrArg (ik .i64) hx6))<|ya rfl (i64 x3)<|zN ?_
   refine RunC.ret ?_
   have hq := oI h
   subst q0
   exact bodyQ.pure (.inr rfl) rfl (Res.one rfl (RV.tmp rfl))
def s_l00From (a0 : List Int) : Option ((List Int) × Int × Int) :=
 some (a0, 0, 0)
theorem s_l00From_ok (a0 : List Int) (q0 : List Int) (q1 : Int) (q2 : Int) (h : s_l00From a0 = some (q0, q1, q2)) : Ev Try.prog 71 [sl a0.length (a0.map (ik .u8))] [] (optr 0 0 0) [⟨0, some [sl q0.length (q0.map (ik .u8)), i64 q1, ik .u64 q2]⟩] := by
 refine yE Try.func71 1 13 0 [(0, sl a0.length (a0.map (ik .u8)))] [⟨0, none⟩] rfl ?_
 unfold s_l00From at h
 refine zQ<|ya rfl (x (.pointer none))<|zN ?_
 refine zQ<|ym rfl (sl a0.length (a0.map (ik .u8)))<|yl rfl (agg [sl a0.length (a0.map (ik .u8)), i64 0, ik .u64 0]) (LOp.build (qs := [(0, [sl a0.length (a0.map (ik .u8))])]) zer136 zok136 und136 plc136 rfl ⟨rfl, ⟨_, ALe.refl _, rfl⟩, trivial⟩ rfl)<|ye rfl (optr 0 1 0) ([⟨1, some [sl a0.length (a0.map (ik .u8)), i64 0, ik .u64 0]⟩]) (TOp.box_o (g := ⟨0, none⟩) 0 rfl rfl rfl rfl)<|ya rfl (optr 0 1 0)<|zN ?_
 refine RunC.ret ?_
 have hq := oI h
 obtain ⟨hq0, hq⟩ := Prod.mk.inj hq
 obtain ⟨hq1, hq⟩ := Prod.mk.inj hq
 subst q0
 subst q1
 subst q2
 exact yB (optr 0 1 0) [(0, 1)] (Res.one rfl (RV.tmp rfl)) (SelL.cells0 rfl (by first | rfl | simp [ren, rens, sigma, rens_f32, rens_f64, rens_i64, rens_ik, rens_str, rens_cp]) (lts_cons (lt_slk (fun _ => rfl)) (lts_cons rfl (lts_cons rfl lts_nil))) trivial)
def s_l00Src_next_0p0_C0_k1 (a0 : List Int) (a1 : Int) (a2 : Int) (v3 : Int) : Option (Int × Int × Int) :=
 olet (IntKind.i64.wrap (a1 + 1)) fun (x4 : Int) =>
 olet (IntKind.u64.wrap (a2 * 6364136223846793005)) fun (x5 : Int) =>
 olet (IntKind.u64.wrap v3) fun (x6 : Int) =>
 olet (IntKind.u64.wrap (x5 + x6)) fun (x7 : Int) =>
 olet (IntKind.u64.wrap (x7 + 1442695040888963407)) fun (x8 : Int) =>
 bsel (decide (x4 ≤ (a0.length : Int))) (
  some (v3, x4, x8)) (
  need (decide ((0 : Int) ≤ 40)) <|
  olet (ishr .u64 x8 40) fun (x9 : Int) =>
  olet (iand .u64 x9 255) fun (x10 : Int) =>
  olet (IntKind.i64.wrap x10) fun (x11 : Int) =>
  some (x11, x4, x8))
def s_l00Src_next_0p0_C0 (a0 : List Int) (a1 : Int) (a2 : Int) : Option (Int × Int × Int) :=
 bsel (decide (a1 < (a0.length : Int))) (
  obind (at? a0 a1) fun (e1 : Int) =>
  olet (IntKind.i64.wrap e1) fun (x2 : Int) =>
  s_l00Src_next_0p0_C0_k1 a0 a1 a2 x2) (
  s_l00Src_next_0p0_C0_k1 a0 a1 a2 0)
theorem s_l00Src_next_0p0_C0_ok (a0 : List Int) (a1 : Int) (a2 : Int) (q0 : Int) (q1 : Int) (q2 : Int) (h : s_l00Src_next_0p0_C0 a0 a1 a2 = some (q0, q1, q2)) : Ev Try.prog 140 [optr 0 0 0] [⟨0, some [sl a0.length (a0.map (ik .u8)), i64 a1, ik .u64 a2]⟩] (i64 q0) [⟨0, some [sl a0.length (a0.map (ik .u8)), i64 q1, ik .u64 q2]⟩] := by
 refine Ev.start Try.func140 rfl rfl 0 (τ := [(0, optr 0 0 0)]) rfl (Γ' := [⟨0, some [sl a0.length (a0.map (ik .u8)), i64 a1, ik .u64 a2]⟩]) rfl (n := 124) rfl (g := 1) rfl (by decide) ?_
 unfold s_l00Src_next_0p0_C0 at h
 refine zQ<|ya rfl (i64 0)<|zN ?_
 refine zQ<|ya rfl (i64 0)<|zN ?_
 refine yS<|RunC.cutN (fun τ Γ => ∃ (v3 : Int), WeakLe τ [(0, optr 0 0 0), (3, i64 v3)] ∧ DeadLe Γ [⟨0, some [sl a0.length (a0.map (ik .u8)), i64 a1, ik .u64 a2]⟩] ∧ s_l00Src_next_0p0_C0_k1 a0 a1 a2 v3 = some (q0, q1, q2)) ?_ ?_
 ·refine yS ?_
  rcases oB h with ⟨hc1, h⟩ | ⟨hc1, h⟩
  ·refine RunC.region_draw (Γ' := [⟨0, some [sl a0.length (a0.map (ik .u8)), i64 a1, ik .u64 a2]⟩]) 10 mixed 
    (tm rfl (optr 0 0 0) <|
    (tl rfl (optr 0 0 0) (LOp.nilCheck_optr rfl rfl) <|
    (tl rfl (optr 0 0 1) (LOp.fao und136 rfl siz3 rfl rfl rfl) <|
    (TR.d (r := i64 a1) (fs := []) rfl rfl (TOp.load1_o rfl rfl agg3 rfl rfl) <|
    (tm rfl (optr 0 0 0) <|
    (tl rfl (optr 0 0 0) (LOp.nilCheck_optr rfl rfl) <|
    (tl rfl (optr 0 0 0) (LOp.fao und136 rfl siz22 rfl rfl rfl) <|
    (TR.d (r := sl a0.length (a0.map (ik .u8))) (fs := []) rfl rfl (TOp.load1_o rfl rfl agg22 rfl rfl) <|
    (tl rfl (i64 (a0.length : Int)) (LOp.len_sl und22 rfl rfl) <|
    (tl rfl (b true) (LOp.eqb (LOp.lss rfl rfl rfl) hc1) <|
    TR.nil)))))))))) rfl (by kernel_rfl) rfl fills_nil rfl ?_
   iterate 10 refine ROps.dropS ?_
   refine ROps.drop0<|zN ?_
   refine yT ?_
   obtain ⟨e1, he2, h⟩ := oS h
   obtain ⟨x2, hx3, h⟩ := oL h
   refine RunC.region_draw (Γ' := [⟨0, some [sl a0.length (a0.map (ik .u8)), i64 a1, ik .u64 a2]⟩]) 12 mixed 
    (tm rfl (optr 0 0 0) <|
    (tl rfl (optr 0 0 0) (LOp.nilCheck_optr rfl rfl) <|
    (tl rfl (optr 0 0 0) (LOp.fao und136 rfl siz22 rfl rfl rfl) <|
    (TR.d (r := sl a0.length (a0.map (ik .u8))) (fs := []) rfl rfl (TOp.load1_o rfl rfl agg22 rfl rfl) <|
    (tm rfl (optr 0 0 0) <|
    (tl rfl (optr 0 0 0) (LOp.nilCheck_optr rfl rfl) <|
    (tl rfl (optr 0 0 1) (LOp.fao und136 rfl siz3 rfl rfl rfl) <|
    (TR.d (r := i64 a1) (fs := []) rfl rfl (TOp.load1_o rfl rfl agg3 rfl rfl) <|
    (tl rfl (ptr [ik .u8 e1]) (LOp.le (LOp.ix (f := (ik .u8)) und22 siz5 rfl rfl rfl rfl he2) ALe.ptr) <|
    (tl rfl (ik .u8 e1) (y2 agg5) <|
    (tl rfl (i64 x2) (LOp.eqr (LOp.i2i (src := 5) (dst := 3) ⟨_, pun5⟩ pun3 rfl rfl) (congrArg (ik .i64) hx3)) <|
    (tl rfl (i64 x2) (LOp.assign rfl rfl) <|
    TR.nil)))))))))))) rfl (by kernel_rfl) rfl fills_nil rfl ?_
   iterate 12 refine ROps.dropS ?_
   refine ROps.drop0<|zN ?_
   exact ⟨x2, ⟨aR, aR, trivial⟩, ⟨⟨rfl, .inr rfl⟩, trivial⟩, h⟩
  ·refine RunC.region_draw (Γ' := [⟨0, some [sl a0.length (a0.map (ik .u8)), i64 a1, ik .u64 a2]⟩]) 10 mixed 
    (tm rfl (optr 0 0 0) <|
    (tl rfl (optr 0 0 0) (LOp.nilCheck_optr rfl rfl) <|
    (tl rfl (optr 0 0 1) (LOp.fao und136 rfl siz3 rfl rfl rfl) <|
    (TR.d (r := i64 a1) (fs := []) rfl rfl (TOp.load1_o rfl rfl agg3 rfl rfl) <|
    (tm rfl (optr 0 0 0) <|
    (tl rfl (optr 0 0 0) (LOp.nilCheck_optr rfl rfl) <|
    (tl rfl (optr 0 0 0) (LOp.fao und136 rfl siz22 rfl rfl rfl) <|
    (TR.d (r := sl a0.length (a0.map (ik .u8))) (fs := []) rfl rfl (TOp.load1_o rfl rfl agg22 rfl rfl) <|
    (tl rfl (i64 (a0.length : Int)) (LOp.len_sl und22 rfl rfl) <|
    (tl rfl (b false) (LOp.eqb (LOp.lss rfl rfl rfl) hc1) <|
    TR.nil)))))))))) rfl (by kernel_rfl) rfl fills_nil rfl ?_
   iterate 10 refine ROps.dropS ?_
   refine ROps.drop0<|zN ?_
   refine yF<|RunC.skip ?_
   exact ⟨0, ⟨aR, aR, trivial⟩, ⟨⟨rfl, .inr rfl⟩, trivial⟩, h⟩
 ·rintro τ2 Γ2 ⟨v3, hw2, hd2, h⟩
  refine RunC.wl hw2 hd2 ?_
  unfold s_l00Src_next_0p0_C0_k1 at h
  refine yS ?_
  obtain ⟨x4, hx4, h⟩ := oL h
  refine yW<|ym rfl (optr 0 0 0)<|yl rfl (optr 0 0 0) (LOp.nilCheck_optr rfl rfl)<|yl rfl (optr 0 0 1) (LOp.fao und136 rfl siz3 rfl rfl rfl)<|yd rfl (i64 a1) (TOp.load1_o rfl rfl agg3 rfl rfl)<|yl rfl (i64 x4) (LOp.eqr (LOp.add rfl rfl rfl) (congrArg (ik .i64) hx4))<|yl rfl (optr 0 0 0) (LOp.nilCheck_optr rfl rfl)<|yl rfl (optr 0 0 1) (LOp.fao und136 rfl siz3 rfl rfl rfl)<|ys (i64 x4) [sl a0.length (a0.map (ik .u8)), i64 x4, ik .u64 a2] ([⟨0, some [sl a0.length (a0.map (ik .u8)), i64 x4, ik .u64 a2]⟩]) siz3<|zN ?_
  refine yS ?_
  obtain ⟨x5, hx5, h⟩ := oL h
  obtain ⟨x6, hx6, h⟩ := oL h
  obtain ⟨x7, hx7, h⟩ := oL h
  obtain ⟨x8, hx8, h⟩ := oL h
  refine yW<|ym rfl (optr 0 0 0)<|ym rfl (optr 0 0 0)<|yl rfl (optr 0 0 0) (LOp.nilCheck_optr rfl rfl)<|yl rfl (optr 0 0 2) (LOp.fao und136 rfl siz134 rfl rfl rfl)<|yd rfl (ik .u64 a2) (TOp.load1_o rfl rfl agg134 rfl rfl)<|yl rfl (ik .u64 x5) (LOp.eqr (LOp.mul rfl rfl rfl) (congrArg (ik .u64) hx5))<|ym rfl (i64 v3)<|yl rfl (ik .u64 x6) (LOp.eqr (LOp.i2i (src := 3) (dst := 134) ⟨_, pun3⟩ pun134 rfl rfl) (congrArg (ik .u64) hx6))<|yl rfl (ik .u64 x7) (LOp.eqr (LOp.add rfl rfl rfl) (congrArg (ik .u64) hx7))<|yl rfl (ik .u64 x8) (LOp.eqr (LOp.add rfl rfl rfl) (congrArg (ik .u64) hx8))<|yl rfl (optr 0 0 0) (LOp.nilCheck_optr rfl rfl)<|yl rfl (optr 0 0 2) (LOp.fao und136 rfl siz134 rfl rfl rfl)<|ys (ik .u64 x8) [sl a0.length (a0.map (ik .u8)), i64 x4, ik .u64 x8] ([⟨0, some [sl a0.length (a0.map (ik .u8)), i64 x4, ik .u64 x8]⟩]) siz134<|zN ?_
  refine RunC.wl (τ' := [(0, optr 0 0 0), (3, i64 v3)]) (Γ' := [⟨0, some [sl a0.length (a0.map (ik .u8)), i64 x4, ik .u64 x8]⟩]) ⟨aR, aR, trivial⟩ ⟨⟨rfl, .inr rfl⟩, trivial⟩<|yS<|yS ?_
  rcases oB h with ⟨hc9, h⟩ | ⟨hc9, h⟩
  ·refine RunC.region_draw (Γ' := [⟨0, some [sl a0.length (a0.map (ik .u8)), i64 x4, ik .u64 x8]⟩]) 10 mixed 
    (tm rfl (optr 0 0 0) <|
    (tl rfl (optr 0 0 0) (LOp.nilCheck_optr rfl rfl) <|
    (tl rfl (optr 0 0 1) (LOp.fao und136 rfl siz3 rfl rfl rfl) <|
    (TR.d (r := i64 x4) (fs := []) rfl rfl (TOp.load1_o rfl rfl agg3 rfl rfl) <|
    (tm rfl (optr 0 0 0) <|
    (tl rfl (optr 0 0 0) (LOp.nilCheck_optr rfl rfl) <|
    (tl rfl (optr 0 0 0) (LOp.fao und136 rfl siz22 rfl rfl rfl) <|
    (TR.d (r := sl a0.length (a0.map (ik .u8))) (fs := []) rfl rfl (TOp.load1_o rfl rfl agg22 rfl rfl) <|
    (tl rfl (i64 (a0.length : Int)) (LOp.len_sl und22 rfl rfl) <|
    (tl rfl (b true) (LOp.eqb (LOp.leq rfl rfl rfl) hc9) <|
    TR.nil)))))))))) rfl (by kernel_rfl) rfl fills_nil rfl ?_
   iterate 10 refine ROps.dropS ?_
   refine ROps.drop0<|zN ?_
   refine yT<|zQ<|ym rfl (i64 v3)<|ya rfl (i64 v3)<|zN ?_
   refine RunC.ret ?_
   have hq := oI h
   obtain ⟨hq0, hq⟩ := Prod.mk.inj hq
   obtain ⟨hq1, hq⟩ := Prod.mk.inj hq
   subst q0
   subst q1
   subst q2
   exact yB (i64 v3) [(0, 0)] (Res.one rfl (RV.tmp rfl)) (SelL.cells rfl (by first | rfl | simp [ren, rens, sigma, rens_f32, rens_f64, rens_i64, rens_ik, rens_str, rens_cp]) (lts_cons (lt_slk (fun _ => rfl)) (lts_cons rfl (lts_cons rfl lts_nil))) trivial)
  ·refine RunC.region_draw (Γ' := [⟨0, some [sl a0.length (a0.map (ik .u8)), i64 x4, ik .u64 x8]⟩]) 10 mixed 
    (tm rfl (optr 0 0 0) <|
    (tl rfl (optr 0 0 0) (LOp.nilCheck_optr rfl rfl) <|
    (tl rfl (optr 0 0 1) (LOp.fao und136 rfl siz3 rfl rfl rfl) <|
    (TR.d (r := i64 x4) (fs := []) rfl rfl (TOp.load1_o rfl rfl agg3 rfl rfl) <|
    (tm rfl (optr 0 0 0) <|
    (tl rfl (optr 0 0 0) (LOp.nilCheck_optr rfl rfl) <|
    (tl rfl (optr 0 0 0) (LOp.fao und136 rfl siz22 rfl rfl rfl) <|
    (TR.d (r := sl a0.length (a0.map (ik .u8))) (fs := []) rfl rfl (TOp.load1_o rfl rfl agg22 rfl rfl) <|
    (tl rfl (i64 (a0.length : Int)) (LOp.len_sl und22 rfl rfl) <|
    (tl rfl (b false) (LOp.eqb (LOp.leq rfl rfl rfl) hc9) <|
    TR.nil)))))))))) rfl (by kernel_rfl) rfl fills_nil rfl ?_
   iterate 10 refine ROps.dropS ?_
   refine ROps.drop0<|zN ?_
   refine yF<|RunC.skip<|yS ?_
   obtain ⟨hz10, h⟩ := need_some h
   obtain ⟨x9, hx11, h⟩ := oL h
   obtain ⟨x10, hx12, h⟩ := oL h
   obtain ⟨x11, hx13, h⟩ := oL h
   refine yW<|ym rfl (optr 0 0 0)<|yl rfl (optr 0 0 0) (LOp.nilCheck_optr rfl rfl)<|yl rfl (optr 0 0 2) (LOp.fao und136 rfl siz134 rfl rfl rfl)<|yd rfl (ik .u64 x8) (TOp.load1_o rfl rfl agg134 rfl rfl)<|yl rfl (ik .u64 x9) (LOp.eqr (LOp.shr rfl rfl rfl (of_decide_eq_true hz10)) (congrArg (ik .u64) hx11))<|yl rfl (ik .u64 x10) (LOp.eqr (LOp.iand rfl rfl rfl) (congrArg (ik .u64) hx12))<|yl rfl (i64 x11) (LOp.eqr (LOp.i2i (src := 134) (dst := 2) ⟨_, pun134⟩ pun2 rfl rfl) (congrArg (ik .i64) hx13))<|ya rfl (i64 x11)<|zN ?_
   refine RunC.ret ?_
   have hq := oI h
   obtain ⟨hq0, hq⟩ := Prod.mk.inj hq
   obtain ⟨hq1, hq⟩ := Prod.mk.inj hq
   subst q0
   subst q1
   subst q2
   exact yB (i64 x11) [(0, 0)] (Res.one rfl (RV.tmp rfl)) (SelL.cells rfl (by first | rfl | simp [ren, rens, sigma, rens_f32, rens_f64, rens_i64, rens_ik, rens_str, rens_cp]) (lts_cons (lt_slk (fun _ => rfl)) (lts_cons rfl (lts_cons rfl lts_nil))) trivial)
def s_l00Src_pick_0p0_C0_k1 (a0 : Int) (v9 : Int) (v10 : Int) (v11 : Int) : Option (Int × Int × Int) :=
 need (!decide (a0 = 0)) <|
 olet (v11.tmod a0) fun (x12 : Int) =>
 some (x12, v9, v10)
def s_l00Src_pick_0p0_C0 (a0 : Int) (a1 : List Int) (a2 : Int) (a3 : Int) : Option (Int × Int × Int) :=
 bsel (decide (a0 ≤ 1)) (
  some (0, a2, a3)) (
  obind3 (s_l00Src_next_0p0_C0 a1 a2 a3) fun (r1 : Int) (r2 : Int) (r3 : Int) =>
  bsel (decide (200 < a0)) (
   olet (IntKind.i64.wrap (r1 * 256)) fun (x4 : Int) =>
   obind3 (s_l00Src_next_0p0_C0 a1 r2 r3) fun (r5 : Int) (r6 : Int) (r7 : Int) =>
   olet (IntKind.i64.wrap (x4 + r5)) fun (x8 : Int) =>
   s_l00Src_pick_0p0_C0_k1 a0 r6 r7 x8) (
   s_l00Src_pick_0p0_C0_k1 a0 r2 r3 r1))
theorem s_l00Src_pick_0p0_C0_ok (a0 : Int) (a1 : List Int) (a2 : Int) (a3 : Int) (q0 : Int) (q1 : Int) (q2 : Int) (h : s_l00Src_pick_0p0_C0 a0 a1 a2 a3 = some (q0, q1, q2)) : Ev Try.prog 72 [optr 0 0 0, i64 a0] [⟨0, some [sl a1.length (a1.map (ik .u8)), i64 a2, ik .u64 a3]⟩] (i64 q0) [⟨0, some [sl a1.length (a1.map (ik .u8)), i64 q1, ik .u64 q2]⟩] := by
 refine Ev.start Try.func72 rfl rfl 0 (τ := [(0, optr 0 0 0), (1, i64 a0)]) rfl (Γ' := [⟨0, some [sl a1.length (a1.map (ik .u8)), i64 a2, ik .u64 a3]⟩]) rfl (n := 40) rfl (g := 1) rfl (by decide) ?_
 unfold s_l00Src_pick_0p0_C0 at h
 refine zQ<|ya rfl (i64 0)<|zN ?_
 refine yS<|yS ?_
 rcases oB h with ⟨hc1, h⟩ | ⟨hc1, h⟩
 ·refine yW<|ym rfl (i64 a0)<|yl rfl (b true) (LOp.eqb (LOp.leq rfl rfl rfl) hc1)<|zN ?_
  refine yT<|zQ<|ya rfl (i64 0)<|zN ?_
  refine RunC.ret ?_
  have hq := oI h
  obtain ⟨hq0, hq⟩ := Prod.mk.inj hq
  obtain ⟨hq1, hq⟩ := Prod.mk.inj hq
  subst q0
  subst q1
  subst q2
  exact yB (i64 0) [(0, 0)] (Res.one rfl (RV.tmp rfl)) (SelL.cells rfl (by first | rfl | simp [ren, rens, sigma, rens_f32, rens_f64, rens_i64, rens_ik, rens_str, rens_cp]) (lts_cons (lt_slk (fun _ => rfl)) (lts_cons rfl (lts_cons rfl lts_nil))) trivial)
 ·refine yW<|ym rfl (i64 a0)<|yl rfl (b false) (LOp.eqb (LOp.leq rfl rfl rfl) hc1)<|zN ?_
  refine yF<|RunC.skip<|yS ?_
  obtain ⟨r1, r2, r3, hf2, h⟩ := obind3_some h
  refine yW<|ym rfl (optr 0 0 0)<|ROps.callO (A := [optr 0 0 0]) (args := [optr 0 0 0]) (Γc := [⟨0, some [sl a1.length (a1.map (ik .u8)), i64 a2, ik .u64 a3]⟩]) (Γc' := [⟨0, some [sl a1.length (a1.map (ik .u8)), i64 r2, ik .u64 r3]⟩]) (r' := i64 r1) (Γ' := [⟨0, some [sl a1.length (a1.map (ik .u8)), i64 r2, ik .u64 r3]⟩]) [(0, 0)] [] rfl (CallAs.func ent140 rfl rfl) rfl rfl (SelOk.of (ndB_ok rfl) (SelL.cells0 rfl (by simp [ren, rens, sigma, rens_f32, rens_f64, rens_i64, rens_ik, rens_str, rens_cp]) (lts_cons (lt_slk (fun _ => rfl)) (lts_cons rfl (lts_cons rfl lts_nil))) trivial)) (live_of ⟨⟨_, _, rfl⟩, trivial⟩) (by simp [ren, rens, sigma, rens_f32, rens_f64, rens_i64, rens_ik, rens_str, rens_cp]) rfl (s_l00Src_next_0p0_C0_ok a1 a2 a3 r1 r2 r3 hf2) rfl (news_of trivial) (ndB_ok rfl) (by simp [ren, rens, sigma]) (by simp [backOb, sigma, ren, rens, rens_f32, rens_f64, rens_i64, rens_ik, rens_str, rens_cp])<|ya rfl (i64 r1)<|zN ?_
  refine yS<|RunC.cutN (fun τ Γ => ∃ (v9 : Int) (v10 : Int) (v11 : Int), WeakLe τ [(1, i64 a0), (5, i64 v11)] ∧ DeadLe Γ [⟨0, some [sl a1.length (a1.map (ik .u8)), i64 v9, ik .u64 v10]⟩] ∧ s_l00Src_pick_0p0_C0_k1 a0 v9 v10 v11 = some (q0, q1, q2)) ?_ ?_
  ·refine yS ?_
   rcases oB h with ⟨hc3, h⟩ | ⟨hc3, h⟩
   ·refine yW<|ym rfl (i64 a0)<|yl rfl (b true) (LOp.eqb (LOp.gtr rfl rfl rfl) hc3)<|zN ?_
    refine yT ?_
    obtain ⟨x4, hx4, h⟩ := oL h
    obtain ⟨r5, r6, r7, hf5, h⟩ := obind3_some h
    obtain ⟨x8, hx6, h⟩ := oL h
    refine yW<|ym rfl (i64 r1)<|yl rfl (i64 x4) (LOp.eqr (LOp.mul rfl rfl rfl) (congrArg (ik .i64) hx4))<|ym rfl (optr 0 0 0)<|ROps.callO (A := [optr 0 0 0]) (args := [optr 0 0 0]) (Γc := [⟨0, some [sl a1.length (a1.map (ik .u8)), i64 r2, ik .u64 r3]⟩]) (Γc' := [⟨0, some [sl a1.length (a1.map (ik .u8)), i64 r6, ik .u64 r7]⟩]) (r' := i64 r5) (Γ' := [⟨0, some [sl a1.length (a1.map (ik .u8)), i64 r6, ik .u64 r7]⟩]) [(0, 0)] [] rfl (CallAs.func ent140 rfl rfl) rfl rfl (SelOk.of (ndB_ok rfl) (SelL.cells0 rfl (by simp [ren, rens, sigma, rens_f32, rens_f64, rens_i64, rens_ik, rens_str, rens_cp]) (lts_cons (lt_slk (fun _ => rfl)) (lts_cons rfl (lts_cons rfl lts_nil))) trivial)) (live_of ⟨⟨_, _, rfl⟩, trivial⟩) (by simp [ren, rens, sigma, rens_f32, rens_f64, rens_i64, rens_ik, rens_str, rens_cp]) rfl (s_l00Src_next_0p0_C0_ok a1 r2 r3 r5 r6 r7 hf5) rfl (news_of trivial) (ndB_ok rfl) (by simp [ren, rens, sigma]) (by simp [backOb, sigma, ren, rens, rens_f32, rens_f64, rens_i64, rens_ik, rens_str, rens_cp])<|yl rfl (i64 x8) (LOp.eqr (LOp.add rfl rfl rfl) (congrArg (ik .i64) hx6))<|ya rfl (i64 x8)<|zN ?_
    exact ⟨r6, r7, x8, ⟨aR, aR, trivial⟩, ⟨⟨rfl, .inr rfl⟩, trivial⟩, h⟩
   ·refine yW<|ym rfl (i64 a0)<|yl rfl (b false) (LOp.eqb (LOp.gtr rfl rfl rfl) hc3)<|zN ?_
    refine yF<|RunC.skip ?_
    exact ⟨r2, r3, r1, ⟨aR, aR, trivial⟩, ⟨⟨rfl, .inr rfl⟩, trivial⟩, h⟩
  ·rintro τ2 Γ2 ⟨v9, v10, v11, hw2, hd2, h⟩
   refine RunC.wl hw2 hd2 ?_
   unfold s_l00Src_pick_0p0_C0_k1 at h
   refine yS ?_
   obtain ⟨hz7, h⟩ := need_some h
   obtain ⟨x12, hx8, h⟩ := oL h
   refine yW<|ym rfl (i64 v11)<|ym rfl (i64 a0)<|yl rfl (i64 x12) (LOp.eqr (LOp.rem rfl rfl rfl (nz hz7)) (congrArg (ik .i64) hx8))<|ya rfl (i64 x12)<|zN ?_
   refine RunC.ret ?_
   have hq := oI h
   obtain ⟨hq0, hq⟩ := Prod.mk.inj hq
   obtain ⟨hq1, hq⟩ := Prod.mk.inj hq
   subst q0
   subst q1
   subst q2
   exact yB (i64 x12) [(0, 0)] (Res.one rfl (RV.tmp rfl)) (SelL.cells rfl (by first | rfl | simp [ren, rens, sigma, rens_f32, rens_f64, rens_i64, rens_ik, rens_str, rens_cp]) (lts_cons (lt_slk (fun _ => rfl)) (lts_cons rfl (lts_cons rfl lts_nil))) trivial)
def s_l08DrawVector_0p0_C0_b1 (a1 : List Int) (L3 : List F) (v4 : Int) (v5 : Int) (v6 : Int) : Option (LR ((List F) × Int × Int × Int) ((List F) × Int × Int) (Int × Int × (List F))) :=
 bsel (decide (0 < v6)) (
  obind3 (s_l00Src_pick_0p0_C0 33 a1 v4 v5) fun (r7 : Int) (r8 : Int) (r9 : Int) =>
  olet (IntKind.i64.wrap (r7 - 16)) fun (x10 : Int) =>
  olet (fint .f32 x10) fun (x11 : F) =>
  olet (fop .quo .f32 x11 (some 1082130432)) fun (x12 : F) =>
  need (apok 4 L3.length 1) <|
  olet (IntKind.i64.wrap (v6 - 1)) fun (x13 : Int) =>
  some (LR.next ((L3 ++ ([x12] : List F)), r8, r9, x13))) (
  some (LR.out (L3, v4, v5)))
def s_l08DrawVector_0p0_C0_s1 (a1 : List Int) : ((List F) × Int × Int × Int) → Option (LR ((List F) × Int × Int × Int) ((List F) × Int × Int) (Int × Int × (List F))) := fun s => s_l08DrawVector_0p0_C0_b1 a1 s.1 s.2.1 s.2.2.1 s.2.2.2
def s_l08DrawVector_0p0_C0_k1 (L16 : List F) (v17 : Int) (v18 : Int) : Option (Int × Int × (List F)) :=
 some (v17, v18, L16)
def s_l08DrawVector_0p0_C0 (a0 : Int) (a1 : List Int) (a2 : Int) (a3 : Int) : Option (Int × Int × (List F)) :=
 obind (loopM (s_l08DrawVector_0p0_C0_s1 a1) (([] : List F), a2, a3, a0)) fun z => osum z (fun e => s_l08DrawVector_0p0_C0_k1 e.1 e.2.1 e.2.2) (fun r => some r)
theorem s_l08DrawVector_0p0_C0_ok (a0 : Int) (a1 : List Int) (a2 : Int) (a3 : Int) (q0 : Int) (q1 : Int) (q2 : List F) (h : s_l08DrawVector_0p0_C0 a0 a1 a2 a3 = some (q0, q1, q2)) : Ev Try.prog 88 [optr 0 0 0, i64 a0] [⟨0, some [sl a1.length (a1.map (ik .u8)), i64 a2, ik .u64 a3]⟩] (oref 1 0 0 q2.length) [⟨0, some [sl a1.length (a1.map (ik .u8)), i64 q0, ik .u64 q1]⟩, ⟨0, some (q2.map f32)⟩] := by
 refine Ev.start Try.func88 rfl rfl 2 (τ := [(0, optr 0 0 0), (1, i64 a0)]) rfl (Γ' := [⟨0, some [sl a1.length (a1.map (ik .u8)), i64 a2, ik .u64 a3]⟩, ⟨0, none⟩, ⟨0, none⟩]) rfl (n := 40) rfl (g := 1) rfl (by decide) ?_
 unfold s_l08DrawVector_0p0_C0 at h
 refine zQ<|ya rfl nilsl<|zN ?_
 refine zQ<|ye rfl (oref 1 1 0 0) ([⟨0, some [sl a1.length (a1.map (ik .u8)), i64 a2, ik .u64 a3]⟩, ⟨1, some (([] : List F).map f32)⟩, ⟨0, none⟩]) (TOp.buildSlice_o (g := ⟨0, none⟩) (za := f32 (some 0)) (qs := []) 1 rfl und26 siz28 zer28 rfl zel28 rfl rfl trivial rfl)<|ya rfl (oref 1 1 0 0)<|zN ?_
 refine yS ?_
 obtain ⟨z2, hz_2, h⟩ := oS h
 refine RunC.cutN (fun τ Γ => ∃ (L16 : List F) (v17 : Int) (v18 : Int) (u14 : Nat) (u15 : Nat), WeakLe τ [(5, oref 1 u14 0 L16.length)] ∧ DeadLe Γ [⟨0, some [sl a1.length (a1.map (ik .u8)), i64 v17, ik .u64 v18]⟩, ⟨u14, some (L16.map f32)⟩, ⟨u15, none⟩] ∧ z2 = .inl (L16, v17, v18)) ?_ ?_
 ·refine RunC.block (RunC.loop (RunL.loopM (x := z2) (s_l08DrawVector_0p0_C0_s1 a1) (fun (s : (List F) × Int × Int × Int) τ Γ => ∃ (u1 : Nat) (u2 : Nat), WeakLe τ [(0, optr 0 0 0), (1, i64 s.2.2.2), (5, oref 1 u1 0 s.1.length)] ∧ DeadLe Γ [⟨0, some [sl a1.length (a1.map (ik .u8)), i64 s.2.1, ik .u64 s.2.2.1]⟩, ⟨u1, some (s.1.map f32)⟩, ⟨u2, none⟩]) ?_ _ _ _ hz_2 ⟨1, 0, ⟨aR, aR, aR, trivial⟩, ⟨⟨rfl, .inr rfl⟩, ⟨rfl, .inr rfl⟩, ⟨rfl, .inl rfl⟩, trivial⟩⟩))
  rintro ⟨L3, v4, v5, v6⟩ τ2 Γ2 y2_ ⟨u1, u2, hw2, hd2⟩ h2_ ho2 hr2
  refine RunC.wl (τ' := [(0, optr 0 0 0), (1, i64 v6), (5, oref 1 u1 0 L3.length)]) (Γ' := [⟨0, some [sl a1.length (a1.map (ik .u8)), i64 v4, ik .u64 v5]⟩, ⟨u1, some (L3.map f32)⟩, ⟨u2, none⟩]) hw2 hd2 ?_
  replace h2_ : s_l08DrawVector_0p0_C0_b1 a1 L3 v4 v5 v6 = some y2_ := h2_
  unfold s_l08DrawVector_0p0_C0_b1 at h2_
  refine yS<|yS ?_
  rcases oB h2_ with ⟨hc1, h2_⟩ | ⟨hc1, h2_⟩
  ·refine yW<|ym rfl (i64 v6)<|yl rfl (b true) (LOp.eqb (LOp.gtr rfl rfl rfl) hc1)<|zN ?_
   refine yT<|RunC.skip<|yS<|RunC.block ?_
   obtain ⟨r7, r8, r9, hf2, h2_⟩ := obind3_some h2_
   obtain ⟨x10, hx3, h2_⟩ := oL h2_
   obtain ⟨x11, hx4, h2_⟩ := oL h2_
   obtain ⟨x12, hx5, h2_⟩ := oL h2_
   obtain ⟨hm6, h2_⟩ := need_some h2_
   refine yW<|ym rfl (oref 1 u1 0 L3.length)<|ym rfl (optr 0 0 0)<|ROps.callO (A := [optr 0 0 0, i64 33]) (args := [optr 0 0 0, i64 33]) (Γc := [⟨0, some [sl a1.length (a1.map (ik .u8)), i64 v4, ik .u64 v5]⟩]) (Γc' := [⟨0, some [sl a1.length (a1.map (ik .u8)), i64 r8, ik .u64 r9]⟩]) (r' := i64 r7) (Γ' := [⟨0, some [sl a1.length (a1.map (ik .u8)), i64 r8, ik .u64 r9]⟩, ⟨u1, some (L3.map f32)⟩, ⟨u2, none⟩]) [(0, 0)] [] rfl (CallAs.func ent72 rfl rfl) rfl rfl (SelOk.of (ndB_ok rfl) (SelL.cells0 rfl (by simp [ren, rens, sigma, rens_f32, rens_f64, rens_i64, rens_ik, rens_str, rens_cp]) (lts_cons (lt_slk (fun _ => rfl)) (lts_cons rfl (lts_cons rfl lts_nil))) trivial)) (live_of ⟨⟨_, _, rfl⟩, trivial⟩) (by simp [ren, rens, sigma, rens_f32, rens_f64, rens_i64, rens_ik, rens_str, rens_cp]) rfl (s_l00Src_pick_0p0_C0_ok 33 a1 v4 v5 r7 r8 r9 hf2) rfl (news_of trivial) (ndB_ok rfl) (by simp [ren, rens, sigma]) (by simp [backOb, sigma, ren, rens, rens_f32, rens_f64, rens_i64, rens_ik, rens_str, rens_cp])<|yl rfl (i64 x10) (LOp.eqr (LOp.sub rfl rfl rfl) (congrArg (ik .i64) hx3))<|yl rfl (f32 x11) (LOp.eqr (LOp.i2f (src := 2) (dst := 28) ⟨_, pun2⟩ pun28 rfl rfl) (congrArg (f .f32) hx4))<|yd rfl (f32 x12) (TOp.eqr (TOp.fop (.inr (.inr (.inr rfl))) rfl (OpF.tmp rfl) (OpF.const rfl (by kernel_rfl) (by kernel_rfl))) (congrArg (f .f32) hx5))<|ye rfl (oref 2 (u2 + 1) 0 1) ([⟨0, some [sl a1.length (a1.map (ik .u8)), i64 r8, ik .u64 r9]⟩, ⟨u1, some (L3.map f32)⟩, ⟨(u2 + 1), some (([x12] : List F).map f32)⟩]) (TOp.buildSlice_o (g := ⟨u2, none⟩) (za := f32 (some 0)) (qs := [(0, [f32 x12])]) 2 rfl und26 siz28 zer28 rfl zel28 rfl rfl ⟨rfl, ⟨_, ALe.refl _, rfl⟩, trivial⟩ rfl)<|ROps.app (f := f32) (xs := L3) (ys := ([x12] : List F)) (Γ' := [⟨0, some [sl a1.length (a1.map (ik .u8)), i64 r8, ik .u64 r9]⟩, ⟨(u1 + 1), some ((L3 ++ ([x12] : List F)).map f32)⟩, ⟨(u2 + 1), some (([x12] : List F).map f32)⟩]) rfl pun26 inf28 rfl rfl rfl rfl rfl rfl rfl rfl rfl (by simp) (ReadAs.own rfl (by simp)) (ones_map (fun _ => rfl)) (ap_by hm6) (ap_mx hm6) rfl<|ya rfl (oref 1 (u1 + 1) 0 (L3.length + 1))<|zN ?_
   refine RunC.wl (τ' := [(0, optr 0 0 0), (1, i64 v6), (5, oref 1 (u1 + 1) 0 (L3.length + 1))]) (Γ' := [⟨0, some [sl a1.length (a1.map (ik .u8)), i64 r8, ik .u64 r9]⟩, ⟨(u1 + 1), some ((L3 ++ ([x12] : List F)).map f32)⟩, ⟨(u2 + 1), none⟩]) ⟨aR, aR, aR, trivial⟩ ⟨⟨rfl, .inr rfl⟩, ⟨rfl, .inr rfl⟩, ⟨rfl, .inl rfl⟩, trivial⟩ ?_
   obtain ⟨x13, hx7, h2_⟩ := oL h2_
   refine yW<|ym rfl (i64 v6)<|yl rfl (i64 x13) (LOp.eqr (LOp.sub rfl rfl rfl) (congrArg (ik .i64) hx7))<|ya rfl (i64 x13)<|zN ?_
   cases oI h2_
   exact ⟨_, rfl, (u1 + 1), (u2 + 1), ⟨aR, aR, (ALe.eq (by rw [(app_len rfl rfl)] <;> rfl)), trivial⟩, ⟨⟨rfl, .inr rfl⟩, ⟨rfl, .inr rfl⟩, ⟨rfl, .inl rfl⟩, trivial⟩⟩
  ·refine yW<|ym rfl (i64 v6)<|yl rfl (b false) (LOp.eqb (LOp.gtr rfl rfl rfl) hc1)<|zN ?_
   refine yF<|RunC.exit ?_
   cases oI h2_
   have hx := ho2 _ rfl
   exact ⟨L3, v4, v5, u1, u2, ⟨aR, trivial⟩, ⟨⟨rfl, .inr rfl⟩, ⟨rfl, .inr rfl⟩, ⟨rfl, .inl rfl⟩, trivial⟩, hx⟩
 ·rintro τ3 Γ3 ⟨L16, v17, v18, u14, u15, hw3, hd3, rfl⟩
  refine RunC.wl hw3 hd3 ?_
  replace h : s_l08DrawVector_0p0_C0_k1 L16 v17 v18 = some (q0, q1, q2) := h
  unfold s_l08DrawVector_0p0_C0_k1 at h
  refine zQ<|ym rfl (oref 1 u14 0 L16.length)<|ya rfl (oref 1 u14 0 L16.length)<|zN ?_
  refine RunC.ret ?_
  have hq := oI h
  obtain ⟨hq0, hq⟩ := Prod.mk.inj hq
  obtain ⟨hq1, hq⟩ := Prod.mk.inj hq
  subst q0
  subst q1
  subst q2
  exact bodyQ.mk (r' := oref 1 u14 0 L16.length) [(0, 0), (1, u14)] (.inr rfl) rfl (show List.Nodup [0, 1] from by decide) (by simp [ren, rens, sigma]) rfl (Res.one rfl (RV.tmp rfl)) (SelL.cells rfl (by first | rfl | simp [ren, rens, sigma, rens_f32, rens_f64, rens_i64, rens_ik, rens_str, rens_cp]) (lts_cons (lt_slk (fun _ => rfl)) (lts_cons rfl (lts_cons rfl lts_nil))) (SelL.arr0 (f := f32) (fun _ => rfl) rfl trivial))
def s_R8Vector (a0 : List Int) (a1 : Int) : Option ((List F)) :=
 obind3 (s_l00From a0) fun (r1 : List Int) (r2 : Int) (r3 : Int) =>
 obind3 (s_l08DrawVector_0p0_C0 a1 r1 r2 r3) fun (r4 : Int) (r5 : Int) (r6 : List F) =>
 some r6
theorem s_R8Vector_ok (a0 : List Int) (a1 : Int) (q0 : List F) (h : s_R8Vector a0 a1 = some q0) : Ev Try.prog 33 [sl a0.length (a0.map (ik .u8)), i64 a1] [] (oref 0 0 0 q0.length) [⟨0, some (q0.map f32)⟩] := by
 refine yE Try.func33 2 23 0 [(0, sl a0.length (a0.map (ik .u8))), (1, i64 a1)] [⟨0, none⟩, ⟨0, none⟩] rfl ?_
 unfold s_R8Vector at h
 refine zQ<|ya rfl nilsl<|zN ?_
 refine yS ?_
 obtain ⟨r1, r2, r3, hf1, h⟩ := obind3_some h
 refine yW<|ym rfl (sl a0.length (a0.map (ik .u8)))<|ye rfl (optr 0 1 0) ([⟨1, some [sl r1.length (r1.map (ik .u8)), i64 r2, ik .u64 r3]⟩, ⟨0, none⟩]) (TOp.callN (A := [sl a0.length (a0.map (ik .u8))]) (ls := [[sl r1.length (r1.map (ik .u8)), i64 r2, ik .u64 r3]]) [0] (by exact (CallAs.func ent71 rfl rfl)) (lts_cons (lt_sl (fun _ => rfl)) lts_nil) (s_l00From_ok a0 r1 r2 r3 hf1) (and_all (lts_cons (lt_sl (fun _ => rfl)) (lts_cons rfl (lts_cons rfl lts_nil))) rfl) rfl (by decide) (ns_of ⟨⟨_, rfl⟩, trivial⟩))<|ya rfl (optr 0 1 0)<|zN ?_
 refine yS ?_
 obtain ⟨r4, r5, r6, hf2, h⟩ := obind3_some h
 refine yW<|ym rfl (optr 0 1 0)<|ym rfl (i64 a1)<|ROps.callO (A := [optr 0 1 0, i64 a1]) (args := [optr 0 0 0, i64 a1]) (Γc := [⟨0, some [sl r1.length (r1.map (ik .u8)), i64 r2, ik .u64 r3]⟩]) (Γc' := [⟨0, some [sl r1.length (r1.map (ik .u8)), i64 r4, ik .u64 r5]⟩, ⟨0, some (r6.map f32)⟩]) (r' := oref 1 1 0 r6.length) (Γ' := [⟨1, some [sl r1.length (r1.map (ik .u8)), i64 r4, ik .u64 r5]⟩, ⟨1, some (r6.map f32)⟩]) [(0, 1)] [(1, 1)] rfl (CallAs.func ent88 rfl rfl) rfl rfl (SelOk.of (ndB_ok rfl) (SelL.cells0 rfl (by simp [ren, rens, sigma, rens_f32, rens_f64, rens_i64, rens_ik, rens_str, rens_cp]) (lts_cons (lt_slk (fun _ => rfl)) (lts_cons rfl (lts_cons rfl lts_nil))) trivial)) (live_of ⟨⟨_, _, rfl⟩, trivial⟩) (by simp [ren, rens, sigma, rens_f32, rens_f64, rens_i64, rens_ik, rens_str, rens_cp]) rfl (s_l08DrawVector_0p0_C0_ok a1 r1 r2 r3 r4 r5 r6 hf2) rfl (news_of ⟨⟨_, rfl, rfl⟩, trivial⟩) (show List.Nodup [0, 1] from by decide) (by simp [ren, rens, sigma]) (by simp [backOb, sigma, ren, rens, rens_f32, rens_f64, rens_i64, rens_ik, rens_str, rens_cp])<|ya rfl (oref 1 1 0 r6.length)<|zN ?_
 refine RunC.ret ?_
 have hq := oI h
 subst q0
 exact yB (oref 1 1 0 r6.length) [(1, 1)] (Res.one rfl (RV.tmp rfl)) (SelL.arr0 (f := f32) (fun _ => rfl) rfl trivial)
def i_length_float32 (a0 : List F) : Option (Int) :=
 some (a0.length : Int)
theorem i_length_float32_ok (a0 : List F) (q0 : Int) (h : i_length_float32 a0 = some q0) : Ev Try.prog 62 [(sFc a0)] [] (i64 q0) [] := by
 refine yE Try.func62 0 11 0 [(0, (sFc a0))] [] rfl ?_
 unfold i_length_float32 at h
 refine zQ<|ya rfl (i64 0)<|zN ?_
 refine zQ<|ym rfl (sFc a0)<|yl rfl (i64 (a0.length : Int)) (LOp.len_sl und26 rfl rfl)<|ya rfl (i64 (a0.length : Int))<|zN ?_
 refine RunC.ret ?_
 have hq := oI h
 subst q0
 exact bodyQ.pure (.inr rfl) rfl (Res.one rfl (RV.tmp rfl))
def i_inRange (a0 : Int) (a1 : Int) (a2 : Int) : Option (Bool) :=
 bsel (decide (a1 ≤ a0)) (
  some (decide (a0 ≤ a2))) (
  some false)
theorem i_inRange_ok (a0 : Int) (a1 : Int) (a2 : Int) (q0 : Bool) (h : i_inRange a0 a1 a2 = some q0) : Ev Try.prog 85 [i64 a0, i64 a1, i64 a2] [] (b q0) [] := by
 refine yE Try.func85 0 31 0 [(0, i64 a0), (1, i64 a1), (2, i64 a2)] [] rfl ?_
 unfold i_inRange at h
 refine zQ<|ya rfl (b false)<|zN ?_
 refine yS ?_
 rcases oB h with ⟨hc1, h⟩ | ⟨hc1, h⟩
 ·refine yW<|ym rfl (i64 a1)<|ym rfl (i64 a0)<|yl rfl (b true) (LOp.eqb (LOp.leq rfl rfl rfl) hc1)<|ym rfl (b true)<|ym rfl (i64 a0)<|ym rfl (i64 a2)<|yl rfl (b (decide (a0 ≤ a2))) (LOp.leq rfl rfl rfl)<|yl rfl (b (decide (a0 ≤ a2))) yq<|ya rfl (b (decide (a0 ≤ a2)))<|zN ?_
  refine RunC.ret ?_
  have hq := oI h
  subst q0
  exact bodyQ.pure (.inr rfl) rfl (Res.one rfl (RV.tmp rfl))
 ·refine yW<|ym rfl (i64 a1)<|ym rfl (i64 a0)<|yl rfl (b false) (LOp.eqb (LOp.leq rfl rfl rfl) hc1)<|ym rfl (b false)<|ROps.s rfl rfl rfl<|ROps.s rfl rfl rfl<|ROps.s rfl rfl rfl<|yl rfl (b false) yp<|ya rfl (b false)<|zN ?_
  refine RunC.ret ?_
  have hq := oI h
  subst q0
  exact bodyQ.pure (.inr rfl) rfl (Res.one rfl (RV.tmp rfl))
def i_isSide (a0 : Int) : Option (Bool) :=
 obind (i_inRange a0 1 12) fun (r1 : Bool) =>
 some r1
theorem i_isSide_ok (a0 : Int) (q0 : Bool) (h : i_isSide a0 = some q0) : Ev Try.prog 89 [i64 a0] [] (b q0) [] := by
 refine yE Try.func89 0 11 0 [(0, i64 a0)] [] rfl ?_
 unfold i_isSide at h
 refine zQ<|ya rfl (b false)<|zN ?_
 refine yS ?_
 obtain ⟨r1, hf1, h⟩ := oS h
 refine yW<|ym rfl (i64 a0)<|yd rfl (b r1) (yc ent85 rfl rfl (bP (bP bN0)) (i_inRange_ok a0 1 12 r1 hf1))<|ya rfl (b r1)<|zN ?_
 refine RunC.ret ?_
 have hq := oI h
 subst q0
 exact bodyQ.pure (.inr rfl) rfl (Res.one rfl (RV.tmp rfl))
def x_math_IsNaN (a0 : F) : Option (Bool) :=
 some (!feq .f64 a0 a0)
theorem x_math_IsNaN_ok (a0 : F) (q0 : Bool) (h : x_math_IsNaN a0 = some q0) : Ev Try.prog 173 [f64 a0] [] (b q0) [] := by
 refine yE Try.func173 0 13 0 [(0, f64 a0)] [] rfl ?_
 unfold x_math_IsNaN at h
 refine zQ<|ya rfl (b false)<|zN ?_
 refine zQ<|ym rfl (f64 a0)<|ym rfl (f64 a0)<|yl rfl (b (!feq .f64 a0 a0)) (LOp.fne rfl (OpF.tmp rfl) (OpF.tmp rfl))<|ya rfl (b (!feq .f64 a0 a0))<|zN ?_
 refine RunC.ret ?_
 have hq := oI h
 subst q0
 exact bodyQ.pure (.inr rfl) rfl (Res.one rfl (RV.tmp rfl))
def x_math_Abs (a0 : F) : Option (F) :=
 olet (fabs a0) fun (x1 : F) =>
 some x1
theorem x_math_Abs_ok (a0 : F) (q0 : F) (h : x_math_Abs a0 = some q0) : Ev Try.prog 180 [f64 a0] [] (f64 q0) [] := by
 refine yE Try.func180 0 15 0 [(0, f64 a0)] [] rfl ?_
 unfold x_math_Abs at h
 refine zQ<|yl rfl (f64 (some 0)) (LOp.le (LOp.assign rfl rfl) (ALe.fl (by kernel_rfl) (by kernel_rfl)))<|zN ?_
 refine yS ?_
 obtain ⟨x1, hx1, h⟩ := oL h
 refine yW<|ym rfl (f64 a0)<|yl rfl (bt .f64 .u64 a0) (LOp.fbits ext183 rfl (OpF.tmp rfl))<|yl rfl (bt .f64 .u64 x1) (LOp.eqr (LOp.andNot_bt rfl rfl rfl) (congrArg (bt .f64 .u64) hx1))<|yl rfl (f64 x1) (LOp.ffrom ext157 rfl rfl)<|ya rfl (f64 x1)<|zN ?_
 refine RunC.ret ?_
 have hq := oI h
 subst q0
 exact bodyQ.pure (.inr rfl) rfl (Res.one rfl (RV.tmp rfl))
def x_math_IsInf_k1 (y3 : F) : Option (Bool) :=
 some (flt .f64 (some 9218868437227405311) y3)
def x_math_IsInf (a0 : F) (a1 : Int) : Option (Bool) :=
 bsel (decide (a1 = 0)) (
  obind (x_math_Abs a0) fun (r1 : F) =>
  x_math_IsInf_k1 r1) (
  bsel (decide (a1 < 0)) (
   olet (fneg .f64 a0) fun (x2 : F) =>
   x_math_IsInf_k1 x2) (
   x_math_IsInf_k1 a0))
theorem x_math_IsInf_ok (a0 : F) (a1 : Int) (q0 : Bool) (h : x_math_IsInf a0 a1 = some q0) : Ev Try.prog 174 [f64 a0, i64 a1] [] (b q0) [] := by
 refine yE Try.func174 0 31 0 [(0, f64 a0), (1, i64 a1)] [] rfl ?_
 unfold x_math_IsInf at h
 refine zQ<|ya rfl (b false)<|zN ?_
 refine yS<|RunC.cutN (fun τ Γ => ∃ (y3 : F), WeakLe τ [(0, f64 y3)] ∧ DeadLe Γ [] ∧ x_math_IsInf_k1 y3 = some q0) ?_ ?_
 ·refine yS ?_
  rcases oB h with ⟨hc1, h⟩ | ⟨hc1, h⟩
  ·refine yW<|ym rfl (i64 a1)<|yl rfl (b true) (LOp.eqb (LOp.eql rfl rfl rfl) hc1)<|zN ?_
   refine yT ?_
   obtain ⟨r1, hf2, h⟩ := oS h
   refine yW<|ym rfl (f64 a0)<|yd rfl (f64 r1) (yc ent180 rfl rfl bN0 (x_math_Abs_ok a0 r1 hf2))<|ya rfl (f64 r1)<|zN ?_
   exact ⟨r1, ⟨aR, trivial⟩, trivial, h⟩
  ·refine yW<|ym rfl (i64 a1)<|yl rfl (b false) (LOp.eqb (LOp.eql rfl rfl rfl) hc1)<|zN ?_
   refine yF<|yS ?_
   rcases oB h with ⟨hc3, h⟩ | ⟨hc3, h⟩
   ·refine yW<|ym rfl (i64 a1)<|yl rfl (b true) (LOp.eqb (LOp.lss rfl rfl rfl) hc3)<|zN ?_
    refine yT ?_
    obtain ⟨x2, hx4, h⟩ := oL h
    refine yW<|ym rfl (f64 a0)<|yl rfl (f64 x2) (LOp.eqr (LOp.fneg rfl (OpF.tmp rfl)) (congrArg (f .f64) hx4))<|ya rfl (f64 x2)<|zN ?_
    exact ⟨x2, ⟨aR, trivial⟩, trivial, h⟩
   ·refine yW<|ym rfl (i64 a1)<|yl rfl (b false) (LOp.eqb (LOp.lss rfl rfl rfl) hc3)<|zN ?_
    refine yF<|RunC.skip ?_
    exact ⟨a0, ⟨aR, trivial⟩, trivial, h⟩
 ·rintro τ2 Γ2 ⟨y3, hw2, hd2, h⟩
  refine RunC.wl hw2 hd2 ?_
  unfold x_math_IsInf_k1 at h
  refine zQ<|ym rfl (f64 y3)<|yl rfl (b (flt .f64 (some 9218868437227405311) y3)) (LOp.fgt rfl (OpF.tmp rfl) (OpF.const rfl (by kernel_rfl) (by kernel_rfl)))<|ya rfl (b (flt .f64 (some 9218868437227405311) y3))<|zN ?_
  refine RunC.ret ?_
  have hq := oI h
  subst q0
  exact bodyQ.pure (.inr rfl) rfl (Res.one rfl (RV.tmp rfl))
def i_isFinite64 (a0 : F) : Option (Bool) :=
 obind (x_math_IsNaN a0) fun (r1 : Bool) =>
 bsel r1 (
  some false) (
  obind (x_math_IsInf a0 0) fun (r2 : Bool) =>
  some (!r2))
theorem i_isFinite64_ok (a0 : F) (q0 : Bool) (h : i_isFinite64 a0 = some q0) : Ev Try.prog 145 [f64 a0] [] (b q0) [] := by
 refine yE Try.func145 0 23 0 [(0, f64 a0)] [] rfl ?_
 unfold i_isFinite64 at h
 refine zQ<|ya rfl (b false)<|zN ?_
 refine yS ?_
 obtain ⟨r1, hf1, h⟩ := oS h
 rcases oB h with ⟨hc2, h⟩ | ⟨hc2, h⟩
 ·refine yW<|ym rfl (f64 a0)<|yd rfl (b true) (TOp.eqb (yc ent173 rfl rfl bN0 (x_math_IsNaN_ok a0 r1 hf1)) hc2)<|yl rfl (b false) y1<|ym rfl (b false)<|ROps.s rfl rfl rfl<|ROps.s rfl rfl rfl<|ROps.s rfl rfl rfl<|yl rfl (b false) yp<|ya rfl (b false)<|zN ?_
  refine RunC.ret ?_
  have hq := oI h
  subst q0
  exact bodyQ.pure (.inr rfl) rfl (Res.one rfl (RV.tmp rfl))
 ·obtain ⟨r2, hf3, h⟩ := oS h
  refine yW<|ym rfl (f64 a0)<|yd rfl (b false) (TOp.eqb (yc ent173 rfl rfl bN0 (x_math_IsNaN_ok a0 r1 hf1)) hc2)<|yl rfl (b true) y0<|ym rfl (b true)<|ym rfl (f64 a0)<|yd rfl (b r2) (yc ent174 rfl rfl (bP bN0) (x_math_IsInf_ok a0 0 r2 hf3))<|yl rfl (b (!r2)) (LOp.not rfl rfl)<|yl rfl (b (!r2)) yq<|ya rfl (b (!r2))<|zN ?_
  refine RunC.ret ?_
  have hq := oI h
  subst q0
  exact bodyQ.pure (.inr rfl) rfl (Res.one rfl (RV.tmp rfl))
def i_IsFinite (a0 : F) : Option (Bool) :=
 olet (fwiden a0) fun (x1 : F) =>
 obind (i_isFinite64 x1) fun (r2 : Bool) =>
 some r2
theorem i_IsFinite_ok (a0 : F) (q0 : Bool) (h : i_IsFinite a0 = some q0) : Ev Try.prog 80 [f32 a0] [] (b q0) [] := by
 refine yE Try.func80 0 13 0 [(0, f32 a0)] [] rfl ?_
 unfold i_IsFinite at h
 refine zQ<|ya rfl (b false)<|zN ?_
 refine yS ?_
 obtain ⟨x1, hx1, h⟩ := oL h
 obtain ⟨r2, hf2, h⟩ := oS h
 refine yW<|ym rfl (f32 a0)<|yd rfl (f64 x1) (TOp.eqr (TOp.widen (src := 28) (dst := 40) ⟨_, pun28⟩ pun40 rfl (OpF.tmp rfl)) (congrArg (f .f64) hx1))<|yd rfl (b r2) (yc ent145 rfl rfl bN0 (i_isFinite64_ok x1 r2 hf2))<|ya rfl (b r2)<|zN ?_
 refine RunC.ret ?_
 have hq := oI h
 subst q0
 exact bodyQ.pure (.inr rfl) rfl (Res.one rfl (RV.tmp rfl))
def i_areFinite_1 (a0 : F) : Option (Bool) :=
 obind (i_IsFinite a0) fun (r1 : Bool) =>
 some (!r1)
theorem i_areFinite_1_ok (a0 : F) (q0 : Bool) (h : i_areFinite_1 a0 = some q0) : Ev Try.prog 141 [f32 a0] [] (b q0) [] := by
 refine yE Try.func141 0 13 0 [(0, f32 a0)] [] rfl ?_
 unfold i_areFinite_1 at h
 refine zQ<|ya rfl (b false)<|zN ?_
 refine yS ?_
 obtain ⟨r1, hf1, h⟩ := oS h
 refine yW<|ym rfl (f32 a0)<|yd rfl (b r1) (yc ent80 rfl rfl bN0 (i_IsFinite_ok a0 r1 hf1))<|yl rfl (b (!r1)) (LOp.not rfl rfl)<|ya rfl (b (!r1))<|zN ?_
 refine RunC.ret ?_
 have hq := oI h
 subst q0
 exact bodyQ.pure (.inr rfl) rfl (Res.one rfl (RV.tmp rfl))
def x_slices_IndexFunc_float32_float32_1Fi_areFinite_1_b1 (a0 : List F) (v1 : Int) : Option (LR (Int) (Unit) (Int)) :=
 bsel (decide (v1 < (a0.length : Int))) (
  obind (at? a0 v1) fun (e2 : F) =>
  obind (i_areFinite_1 e2) fun (r3 : Bool) =>
  bsel r3 (
   some (LR.ret v1)) (
   olet (IntKind.i64.wrap (v1 + 1)) fun (x4 : Int) =>
   some (LR.next x4))) (
  some (LR.out ()))
def x_slices_IndexFunc_float32_float32_1Fi_areFinite_1_s1 (a0 : List F) : (Int) → Option (LR (Int) (Unit) (Int)) := fun s => x_slices_IndexFunc_float32_float32_1Fi_areFinite_1_b1 a0 s
def x_slices_IndexFunc_float32_float32_1Fi_areFinite_1_k1  : Option (Int) :=
 some (-1)
def x_slices_IndexFunc_float32_float32_1Fi_areFinite_1 (a0 : List F) : Option (Int) :=
 obind (loopM (x_slices_IndexFunc_float32_float32_1Fi_areFinite_1_s1 a0) 0) fun z => osum z (fun _ => x_slices_IndexFunc_float32_float32_1Fi_areFinite_1_k1) (fun r => some r)
theorem x_slices_IndexFunc_float32_float32_1Fi_areFinite_1_ok (a0 : List F) (q0 : Int) (h : x_slices_IndexFunc_float32_float32_1Fi_areFinite_1 a0 = some q0) : Ev Try.prog 164 [(sFc a0), fn (.func 141) [] []] [] (i64 q0) [] := by
 refine yE Try.func164 0 39 0 ([(0, (sFc a0)), (1, fn (.func 141) [] [])]) [] rfl ?_
 unfold x_slices_IndexFunc_float32_float32_1Fi_areFinite_1 at h
 refine zQ<|ya rfl (i64 0)<|zN ?_
 refine yS<|zQ<|ym rfl (sFc a0)<|yl rfl (i64 (a0.length : Int)) (LOp.len_sl und26 rfl rfl)<|ym rfl (i64 0)<|zN ?_
 obtain ⟨z2, hz_2, h⟩ := oS h
 refine RunC.cutN (fun τ Γ => WeakLe τ [] ∧ DeadLe Γ [] ∧ z2 = .inl ()) ?_ ?_
 ·refine RunC.block (RunC.loop (RunL.loopM (x := z2) (x_slices_IndexFunc_float32_float32_1Fi_areFinite_1_s1 a0) (fun (s : Int) τ Γ => WeakLe τ [(0, (sFc a0)), (1, fn (.func 141) [] []), (7, i64 (a0.length : Int)), (8, i64 s)] ∧ DeadLe Γ []) ?_ _ _ _ hz_2 ⟨⟨aR, aR, aR, aR, trivial⟩, trivial⟩))
  rintro v1 τ2 Γ2 y2_ ⟨hw2, hd2⟩ h2_ ho2 hr2
  refine RunC.wl (τ' := [(0, (sFc a0)), (1, fn (.func 141) [] []), (7, i64 (a0.length : Int)), (8, i64 v1)]) (Γ' := []) hw2 hd2 ?_
  replace h2_ : x_slices_IndexFunc_float32_float32_1Fi_areFinite_1_b1 a0 v1 = some y2_ := h2_
  unfold x_slices_IndexFunc_float32_float32_1Fi_areFinite_1_b1 at h2_
  refine yS ?_
  rcases oB h2_ with ⟨hc1, h2_⟩ | ⟨hc1, h2_⟩
  ·refine yW<|yl rfl (b true) (LOp.eqb (LOp.lss rfl rfl rfl) hc1)<|zN ?_
   refine yS<|yT<|RunC.skip<|yS<|RunC.block<|zQ<|ym rfl (i64 v1)<|ya rfl (i64 v1)<|zN ?_
   refine yS ?_
   obtain ⟨e2, he2, h2_⟩ := oS h2_
   obtain ⟨r3, hf3, h2_⟩ := oS h2_
   rcases oB h2_ with ⟨hc4, h2_⟩ | ⟨hc4, h2_⟩
   ·refine yW<|ym rfl (fn (.func 141) [] [])<|ym rfl (sFc a0)<|ym rfl (i64 v1)<|yl rfl (ptr [f32 e2]) (LOp.le (LOp.ix (f := f32) und26 siz28 rfl rfl rfl rfl he2) ALe.ptr)<|yl rfl (f32 e2) (y2 agg28)<|yd rfl (b true) (TOp.eqb (TOp.callB (CallAs.fn ent141 rfl rfl rfl rfl) bN0 rfl rfl (i_areFinite_1_ok e2 r3 hf3)) hc4)<|zN ?_
    refine yT<|zQ<|ym rfl (i64 v1)<|ya rfl (i64 v1)<|zN ?_
    refine RunC.ret ?_
    cases oI h2_
    have hx3_ := hr2 _ rfl
    subst hx3_
    have hq := oI h
    subst q0
    exact bodyQ.pure (.inr rfl) rfl (Res.one rfl (RV.tmp rfl))
   ·refine yW<|ym rfl (fn (.func 141) [] [])<|ym rfl (sFc a0)<|ym rfl (i64 v1)<|yl rfl (ptr [f32 e2]) (LOp.le (LOp.ix (f := f32) und26 siz28 rfl rfl rfl rfl he2) ALe.ptr)<|yl rfl (f32 e2) (y2 agg28)<|yd rfl (b false) (TOp.eqb (TOp.callB (CallAs.fn ent141 rfl rfl rfl rfl) bN0 rfl rfl (i_areFinite_1_ok e2 r3 hf3)) hc4)<|zN ?_
    refine yF<|RunC.skip ?_
    obtain ⟨x4, hx5, h2_⟩ := oL h2_
    refine yW<|yl rfl (i64 x4) (LOp.eqr (LOp.add rfl rfl rfl) (congrArg (ik .i64) hx5))<|ym rfl (i64 x4)<|zN ?_
    cases oI h2_
    exact ⟨_, rfl, ⟨aR, aR, aR, aR, trivial⟩, trivial⟩
  ·refine yW<|yl rfl (b false) (LOp.eqb (LOp.lss rfl rfl rfl) hc1)<|zN ?_
   refine yS<|yF<|RunC.exit ?_
   cases oI h2_
   have hx := ho2 _ rfl
   exact ⟨trivial, trivial, hx⟩
 ·rintro τ4 Γ4 ⟨hw4, hd4, rfl⟩
  refine RunC.wl hw4 hd4 ?_
  replace h : x_slices_IndexFunc_float32_float32_1Fi_areFinite_1_k1 = some q0 := h
  unfold x_slices_IndexFunc_float32_float32_1Fi_areFinite_1_k1 at h
  refine zQ<|ya rfl (i64 (-1))<|zN ?_
  refine RunC.ret ?_
  have hq := oI h
  subst q0
  exact bodyQ.pure (.inr rfl) rfl (Res.one rfl (RV.tmp rfl))
def x_slices_ContainsFunc_float32_float32_1Fi_areFinite_1 (a0 : List F) : Option (Bool) :=
 obind (x_slices_IndexFunc_float32_float32_1Fi_areFinite_1 a0) fun (r1 : Int) =>
 some (decide (0 ≤ r1))
theorem x_slices_ContainsFunc_float32_float32_1Fi_areFinite_1_ok (a0 : List F) (q0 : Bool) (h : x_slices_ContainsFunc_float32_float32_1Fi_areFinite_1 a0 = some q0) : Ev Try.prog 121 [(sFc a0), fn (.func 141) [] []] [] (b q0) [] := by
 refine yE Try.func121 0 19 0 ([(0, (sFc a0)), (1, fn (.func 141) [] [])]) [] rfl ?_
 unfold x_slices_ContainsFunc_float32_float32_1Fi_areFinite_1 at h
 refine zQ<|ya rfl (b false)<|zN ?_
 refine yS ?_
 obtain ⟨r1, hf1, h⟩ := oS h
 refine yW<|ym rfl (sFc a0)<|ym rfl (fn (.func 141) [] [])<|yd rfl (i64 r1) (yc ent164 rfl rfl (bS (Bors.cons (Bor.fn bN bN) bN)) (x_slices_IndexFunc_float32_float32_1Fi_areFinite_1_ok a0 r1 hf1))<|yl rfl (b (decide (0 ≤ r1))) (LOp.geq rfl rfl rfl)<|ya rfl (b (decide (0 ≤ r1)))<|zN ?_
 refine RunC.ret ?_
 have hq := oI h
 subst q0
 exact bodyQ.pure (.inr rfl) rfl (Res.one rfl (RV.tmp rfl))
def i_areFinite (a0 : List F) : Option (Bool) :=
 obind (x_slices_ContainsFunc_float32_float32_1Fi_areFinite_1 a0) fun (r1 : Bool) =>
 some (!r1)
theorem i_areFinite_ok (a0 : List F) (q0 : Bool) (h : i_areFinite a0 = some q0) : Ev Try.prog 74 [(sFc a0)] [] (b q0) [] := by
 refine yE Try.func74 0 13 0 [(0, (sFc a0))] [] rfl ?_
 unfold i_areFinite at h
 refine zQ<|ya rfl (b false)<|zN ?_
 refine yS ?_
 obtain ⟨r1, hf1, h⟩ := oS h
 refine yW<|ym rfl (sFc a0)<|yd rfl (b r1) (yc ent121 rfl rfl (bS (Bors.cons (Bor.fn bN bN) bN)) (x_slices_ContainsFunc_float32_float32_1Fi_areFinite_1_ok a0 r1 hf1))<|yl rfl (b (!r1)) (LOp.not rfl rfl)<|ya rfl (b (!r1))<|zN ?_
 refine RunC.ret ?_
 have hq := oI h
 subst q0
 exact bodyQ.pure (.inr rfl) rfl (Res.one rfl (RV.tmp rfl))
def i_newMatrix (a0 : Int) (a1 : Int) : Option (Int × Int × (List F)) :=
 olet (IntKind.i64.wrap (a0 * a1)) fun (x1 : Int) =>
 need (mkok 4 x1) <|
 some (a0, a1, (List.replicate x1.toNat (some 0)))
theorem i_newMatrix_ok (a0 : Int) (a1 : Int) (q0 : Int) (q1 : Int) (q2 : List F) (h : i_newMatrix a0 a1 = some (q0, q1, q2)) : Ev Try.prog 113 [i64 a0, i64 a1] [] (agg (oXc q0 q1 0 0 q2.length)) [⟨0, some (q2.map f32)⟩] := by
 refine yE Try.func113 2 25 0 [(0, i64 a0), (1, i64 a1)] [⟨0, none⟩, ⟨0, none⟩] rfl ?_
 unfold i_newMatrix at h
 refine zQ<|ye rfl (optr 0 1 0) [⟨1, some zMx⟩, ⟨0, none⟩] (TOp.alloc_o (g := ⟨0, none⟩) 0 rfl zer33 zok33 rfl)<|zN ?_
 refine yS ?_
 obtain ⟨x1, hx1, h⟩ := oL h
 obtain ⟨hm2, h⟩ := need_some h
 refine yW<|ym rfl (i64 a0)<|ym rfl (i64 a1)<|ym rfl (i64 a0)<|ym rfl (i64 a1)<|yl rfl (i64 x1) (LOp.eqr (LOp.mul rfl rfl rfl) (congrArg (ik .i64) hx1))<|ye rfl (oref 1 1 0 x1.toNat) [⟨1, some zMx⟩, ⟨1, some ((List.replicate x1.toNat (some 0)).map f32)⟩] (TOp.mkS (g := ⟨0, none⟩) (t := 26) (e := 28) (by_ := 4) (f := f32) (zv := some 0) 1 rfl und26 tin28 rfl siz28 zer28 rfl zel28 rfl rfl rfl hm2)<|yl rfl (agg [i64 a0, i64 a1, oref 1 1 0 x1.toNat]) (LOp.build (qs := [(0, [i64 a0]), (1, [i64 a1]), (2, [oref 1 1 0 x1.toNat])]) zer33 zok33 und33 plc33 rfl ⟨rfl, ⟨_, ALe.refl _, rfl⟩, ⟨rfl, ⟨_, ALe.refl _, rfl⟩, ⟨rfl, ⟨_, ALe.refl _, rfl⟩, trivial⟩⟩⟩ rfl)<|ys (agg [i64 a0, i64 a1, oref 1 1 0 x1.toNat]) [i64 a0, i64 a1, oref 1 1 0 x1.toNat] ([⟨1, some [i64 a0, i64 a1, oref 1 1 0 x1.toNat]⟩, ⟨1, some ((List.replicate x1.toNat (some 0)).map f32)⟩]) siz33<|zN ?_
 refine RunC.ret ?_
 have hq := oI h
 obtain ⟨hq0, hq⟩ := Prod.mk.inj hq
 obtain ⟨hq1, hq⟩ := Prod.mk.inj hq
 subst q0
 subst q1
 subst q2
 exact yB (agg [i64 a0, i64 a1, oref 1 1 0 ((List.replicate x1.toNat (some 0)).length)]) [(1, 1)] (Res.eq (Res.one rfl (RV.cell agg33 siz33 rfl rfl rfl rfl)) (by rw [(show (List.replicate x1.toNat (some 0)).length = x1.toNat from by simp)] <;> rfl)) (SelL.arr0 (f := f32) (fun _ => rfl) rfl trivial)
def i_CompanionMatrix_1 (a0 : Int) (a1 : Int) (a2 : List F) : Option (F) :=
 bsel (decide (a0 = 0)) (
  obind (at? a2 a1) fun (e1 : F) =>
  olet (fneg .f32 e1) fun (x2 : F) =>
  some x2) (
  olet (IntKind.i64.wrap (a1 + 1)) fun (x3 : Int) =>
  bsel (decide (a0 = x3)) (
   some (some 1065353216)) (
   some (some 0)))
theorem i_CompanionMatrix_1_ok (a0 : Int) (a1 : Int) (a2 : List F) (q0 : F) (h : i_CompanionMatrix_1 a0 a1 a2 = some q0) : Ev Try.prog 90 [i64 a0, i64 a1, ptr [(sFc a2)]] [] (f32 q0) [] := by
 refine yE Try.func90 0 39 0 ([(0, i64 a0), (1, i64 a1), (2, ptr [(sFc a2)])]) [] rfl ?_
 unfold i_CompanionMatrix_1 at h
 refine zQ<|yl rfl (f32 (some 0)) (LOp.le (LOp.assign rfl rfl) (ALe.fl (by kernel_rfl) (by kernel_rfl)))<|zN ?_
 refine yS<|RunC.block<|yS ?_
 rcases oB h with ⟨hc1, h⟩ | ⟨hc1, h⟩
 ·refine yW<|ym rfl (i64 a0)<|yl rfl (b true) (LOp.eqb (LOp.eql rfl rfl rfl) hc1)<|ya rfl (b true)<|zN ?_
  refine yT<|yS ?_
  obtain ⟨e1, he2, h⟩ := oS h
  obtain ⟨x2, hx3, h⟩ := oL h
  refine yW<|yl rfl (sFc a2) (y2 agg26)<|ym rfl (i64 a1)<|yl rfl (ptr [f32 e1]) (LOp.le (LOp.ix (f := f32) und26 siz28 rfl rfl rfl rfl he2) ALe.ptr)<|yl rfl (f32 e1) (y2 agg28)<|yl rfl (f32 x2) (LOp.eqr (LOp.fneg rfl (OpF.tmp rfl)) (congrArg (f .f32) hx3))<|ya rfl (f32 x2)<|zN ?_
  refine RunC.ret ?_
  have hq := oI h
  subst q0
  exact bodyQ.pure (.inr rfl) rfl (Res.one rfl (RV.tmp rfl))
 ·refine yW<|ym rfl (i64 a0)<|yl rfl (b false) (LOp.eqb (LOp.eql rfl rfl rfl) hc1)<|ya rfl (b false)<|zN ?_
  refine yF<|yS ?_
  obtain ⟨x3, hx4, h⟩ := oL h
  rcases oB h with ⟨hc5, h⟩ | ⟨hc5, h⟩
  ·refine yW<|ym rfl (i64 a0)<|ym rfl (i64 a1)<|yl rfl (i64 x3) (LOp.eqr (LOp.add rfl rfl rfl) (congrArg (ik .i64) hx4))<|yl rfl (b true) (LOp.eqb (LOp.eql rfl rfl rfl) hc5)<|ya rfl (b true)<|zN ?_
   refine yT<|zQ<|yl rfl (f32 (some 1065353216)) (LOp.le (LOp.assign rfl rfl) (ALe.fl (by kernel_rfl) (by kernel_rfl)))<|zN ?_
   refine RunC.ret ?_
   have hq := oI h
   subst q0
   exact bodyQ.pure (.inr rfl) rfl (Res.one rfl (RV.tmp rfl))
  ·refine yW<|ym rfl (i64 a0)<|ym rfl (i64 a1)<|yl rfl (i64 x3) (LOp.eqr (LOp.add rfl rfl rfl) (congrArg (ik .i64) hx4))<|yl rfl (b false) (LOp.eqb (LOp.eql rfl rfl rfl) hc5)<|ya rfl (b false)<|zN ?_
   refine yF<|RunC.skip<|zQ<|yl rfl (f32 (some 0)) (LOp.le (LOp.assign rfl rfl) (ALe.fl (by kernel_rfl) (by kernel_rfl)))<|zN ?_
   refine RunC.ret ?_
   have hq := oI h
   subst q0
   exact bodyQ.pure (.inr rfl) rfl (Res.one rfl (RV.tmp rfl))
def i_Matrix_set_02o (a0 : Int) (a1 : Int) (a2 : Int) (a3 : Int) (a4 : F) (a5 : List F) : Option ((List F)) :=
 olet (IntKind.i64.wrap (a2 * a1)) fun (x1 : Int) =>
 olet (IntKind.i64.wrap (x1 + a3)) fun (x2 : Int) =>
 obind (setAt? a5 x2 a4) fun (L3 : List F) =>
 some L3
theorem i_Matrix_set_02o_ok (a0 : Int) (a1 : Int) (a2 : Int) (a3 : Int) (a4 : F) (a5 : List F) (q0 : List F) (h : i_Matrix_set_02o a0 a1 a2 a3 a4 a5 = some q0) : Ev Try.prog 93 [agg (oXc a0 a1 0 0 a5.length), i64 a2, i64 a3, f32 a4] [⟨0, some (a5.map f32)⟩] (tup []) [⟨0, some (q0.map f32)⟩] := by
 refine Ev.start Try.func93 rfl rfl 0 (τ := [(0, agg (oXc a0 a1 0 0 a5.length)), (1, i64 a2), (2, i64 a3), (3, f32 a4)]) rfl (Γ' := [⟨0, some (a5.map f32)⟩]) rfl (n := 36) rfl (g := 1) rfl (by decide) ?_
 unfold i_Matrix_set_02o at h
 refine zQ<|yd rfl (ptr (oXc a0 a1 0 0 a5.length)) (TOp.box_s rfl rfl rfl)<|zN ?_
 obtain ⟨x1, hx1, h⟩ := oL h
 obtain ⟨x2, hx2, h⟩ := oL h
 obtain ⟨L3, he3, h⟩ := oS h
 refine yW<|yl rfl (ptr [oref 0 0 0 a5.length]) (LOp.fap und33 rfl siz26 rfl rfl rfl)<|yl rfl (oref 0 0 0 a5.length) (y2 agg26)<|ym rfl (i64 a2)<|yl rfl (ptr [i64 a1, oref 0 0 0 a5.length]) (LOp.fap und33 rfl siz2 rfl rfl rfl)<|yl rfl (i64 a1) (y2 agg2)<|yl rfl (i64 x1) (LOp.eqr (LOp.mul rfl rfl rfl) (congrArg (ik .i64) hx1))<|ym rfl (i64 a3)<|yl rfl (i64 x2) (LOp.eqr (LOp.add rfl rfl rfl) (congrArg (ik .i64) hx2))<|ym rfl (f32 a4)<|yd rfl (optr 0 0 x2.toNat) (TOp.ixo und26 siz28 rfl rfl rfl (set_in he3 rfl) rfl)<|ROps.st (f := f32) (i := x2) (Γ' := [⟨0, some (L3.map f32)⟩]) rfl siz28 rfl rfl rfl aR rfl rfl rfl he3 rfl<|zN ?_
 have hq := oI h
 subst q0
 exact yB (tup []) [(0, 0)] (Res.zero rfl) (SelL.arr (f := f32) (fun _ => rfl) rfl trivial)
def i_made_2Fi_CompanionMatrix_1_b2 (a1 : Int) (a2 : List F) (r1 : Int) (r2 : Int) (r3 : List F) (v6 : Int) (L7 : List F) (v9 : Int) : Option (LR ((List F) × Int) ((List F)) (Int × Int × (List F))) :=
 bsel (decide (v9 < a1)) (
  obind (i_CompanionMatrix_1 v6 v9 a2) fun (r11 : F) =>
  obind (i_Matrix_set_02o r1 r2 v6 v9 r11 L7) fun (r12 : List F) =>
  need (decide (r12.length = r3.length)) <|
  olet (IntKind.i64.wrap (v9 + 1)) fun (x13 : Int) =>
  some (LR.next (r12, x13))) (
  some (LR.out L7))
def i_made_2Fi_CompanionMatrix_1_s2 (a1 : Int) (a2 : List F) (r1 : Int) (r2 : Int) (r3 : List F) (v6 : Int) : ((List F) × Int) → Option (LR ((List F) × Int) ((List F)) (Int × Int × (List F))) := fun s => i_made_2Fi_CompanionMatrix_1_b2 a1 a2 r1 r2 r3 v6 s.1 s.2
def i_made_2Fi_CompanionMatrix_1_k2 (v6 : Int) (L14 : List F) : Option (LR ((List F) × Int) ((List F)) (Int × Int × (List F))) :=
 olet (IntKind.i64.wrap (v6 + 1)) fun (x16 : Int) =>
 some (LR.next (L14, x16))
def i_made_2Fi_CompanionMatrix_1_b3 (a0 : Int) (a1 : Int) (a2 : List F) (r1 : Int) (r2 : Int) (r3 : List F) (L4 : List F) (v6 : Int) : Option (LR ((List F) × Int) ((List F)) (Int × Int × (List F))) :=
 bsel (decide (v6 < a0)) (
  obind (loopM (i_made_2Fi_CompanionMatrix_1_s2 a1 a2 r1 r2 r3 v6) (L4, 0)) fun z => osum z (fun e => i_made_2Fi_CompanionMatrix_1_k2 v6 e) (fun r => some (LR.ret r))) (
  some (LR.out L4))
def i_made_2Fi_CompanionMatrix_1_s3 (a0 : Int) (a1 : Int) (a2 : List F) (r1 : Int) (r2 : Int) (r3 : List F) : ((List F) × Int) → Option (LR ((List F) × Int) ((List F)) (Int × Int × (List F))) := fun s => i_made_2Fi_CompanionMatrix_1_b3 a0 a1 a2 r1 r2 r3 s.1 s.2
def i_made_2Fi_CompanionMatrix_1_k3 (r1 : Int) (r2 : Int) (L17 : List F) : Option (Int × Int × (List F)) :=
 some (r1, r2, L17)
def i_made_2Fi_CompanionMatrix_1 (a0 : Int) (a1 : Int) (a2 : List F) : Option (Int × Int × (List F)) :=
 obind3 (i_newMatrix a0 a1) fun (r1 : Int) (r2 : Int) (r3 : List F) =>
 obind (loopM (i_made_2Fi_CompanionMatrix_1_s3 a0 a1 a2 r1 r2 r3) (r3, 0)) fun z => osum z (fun e => i_made_2Fi_CompanionMatrix_1_k3 r1 r2 e) (fun r => some r)
theorem i_made_2Fi_CompanionMatrix_1_ok (a0 : Int) (a1 : Int) (a2 : List F) (q0 : Int) (q1 : Int) (q2 : List F) (h : i_made_2Fi_CompanionMatrix_1 a0 a1 a2 = some (q0, q1, q2)) : Ev Try.prog 64 [i64 a0, i64 a1, fn (.func 90) [] [ptr [(sFc a2)]]] [] (agg (oXc q0 q1 0 0 q2.length)) [⟨0, some (q2.map f32)⟩] := by
 refine yE Try.func64 3 65 0 ([(0, i64 a0), (1, i64 a1), (2, fn (.func 90) [] [ptr [(sFc a2)]])]) [⟨0, none⟩, ⟨0, none⟩, ⟨0, none⟩] rfl ?_
 unfold i_made_2Fi_CompanionMatrix_1 at h
 refine zQ<|ye rfl (optr 0 1 0) [⟨1, some zMx⟩, ⟨0, none⟩, ⟨0, none⟩] (TOp.alloc_o (g := ⟨0, none⟩) 0 rfl zer33 zok33 rfl)<|zN ?_
 refine yS ?_
 obtain ⟨r1, r2, r3, hf1, h⟩ := obind3_some h
 refine yW<|ym rfl (i64 a0)<|ym rfl (i64 a1)<|ye rfl (agg (oXc r1 r2 1 1 r3.length)) [⟨1, some zMx⟩, ⟨1, some (r3.map f32)⟩, ⟨0, none⟩] (TOp.callBN (ls := [(r3.map f32)]) [1] (CallAs.func ent113 rfl rfl) (bP bN0) rfl (i_newMatrix_ok a0 a1 r1 r2 r3 hf1) (and_all (lts0_map (f := f32) (fun _ => rfl) _) rfl) (and_all (noss_map (f := f32) (fun _ => rfl) _) rfl) rfl (by decide) (ns_of ⟨⟨_, rfl⟩, trivial⟩))<|ye rfl (optr 2 1 0) [⟨1, some zMx⟩, ⟨1, some (r3.map f32)⟩, ⟨1, some zMx⟩] (TOp.alloc_o (g := ⟨0, none⟩) 2 rfl zer33 zok33 rfl)<|ys (agg (oXc r1 r2 1 1 r3.length)) (oXc r1 r2 1 1 r3.length) [⟨1, some zMx⟩, ⟨1, some (r3.map f32)⟩, ⟨1, some (oXc r1 r2 1 1 r3.length)⟩] siz33<|zN ?_
 refine yS<|zQ<|ym rfl (i64 a0)<|ym rfl (i64 0)<|zN ?_
 obtain ⟨z4, hz_4, h⟩ := oS h
 refine RunC.cutN (fun τ Γ => ∃ (L17 : List F), L17.length = r3.length ∧ WeakLe τ [(6, optr 0 1 0), (7, optr 2 1 0)] ∧ DeadLe Γ [⟨1, some zMx⟩, ⟨1, some (L17.map f32)⟩, ⟨1, some (oXc r1 r2 1 1 r3.length)⟩] ∧ z4 = .inl L17) ?_ ?_
 ·refine RunC.block (RunC.loop (RunL.loopM (x := z4) (i_made_2Fi_CompanionMatrix_1_s3 a0 a1 a2 r1 r2 r3) (fun (s : (List F) × Int) τ Γ => s.1.length = r3.length ∧ WeakLe τ [(1, i64 a1), (2, fn (.func 90) [] [ptr [(sFc a2)]]), (6, optr 0 1 0), (7, optr 2 1 0), (13, i64 a0), (14, i64 s.2)] ∧ DeadLe Γ [⟨1, some zMx⟩, ⟨1, some (s.1.map f32)⟩, ⟨1, some (oXc r1 r2 1 1 r3.length)⟩]) ?_ _ _ _ hz_4 ⟨rfl, ⟨aR, aR, aR, aR, aR, aR, trivial⟩, ⟨⟨rfl, .inr rfl⟩, ⟨rfl, .inr rfl⟩, ⟨rfl, .inr rfl⟩, trivial⟩⟩))
  rintro ⟨L4, v6⟩ τ4 Γ4 y4_ ⟨hl5, hw4, hd4⟩ h4_ ho4 hr4
  refine RunC.wl (τ' := [(1, i64 a1), (2, fn (.func 90) [] [ptr [(sFc a2)]]), (6, optr 0 1 0), (7, optr 2 1 0), (13, i64 a0), (14, i64 v6)]) (Γ' := [⟨1, some zMx⟩, ⟨1, some (L4.map f32)⟩, ⟨1, some (oXc r1 r2 1 1 r3.length)⟩]) hw4 hd4 ?_
  replace hl5 : L4.length = r3.length := hl5
  replace h4_ : i_made_2Fi_CompanionMatrix_1_b3 a0 a1 a2 r1 r2 r3 L4 v6 = some y4_ := h4_
  unfold i_made_2Fi_CompanionMatrix_1_b3 at h4_
  refine yS ?_
  rcases oB h4_ with ⟨hc2, h4_⟩ | ⟨hc2, h4_⟩
  ·refine yW<|yl rfl (b true) (LOp.eqb (LOp.lss rfl rfl rfl) hc2)<|zN ?_
   refine yS<|yT<|RunC.skip<|yS<|RunC.block<|zQ<|ym rfl (i64 v6)<|ya rfl (i64 v6)<|zN ?_
   refine zQ<|ym rfl (i64 a1)<|ym rfl (i64 0)<|zN ?_
   obtain ⟨z5, hz_5, h4_⟩ := oS h4_
   refine RunC.cutN (fun τ Γ => ∃ (L14 : List F), L14.length = r3.length ∧ WeakLe τ [(1, i64 a1), (2, fn (.func 90) [] [ptr [(sFc a2)]]), (6, optr 0 1 0), (7, optr 2 1 0), (13, i64 a0), (14, i64 v6)] ∧ DeadLe Γ [⟨1, some zMx⟩, ⟨1, some (L14.map f32)⟩, ⟨1, some (oXc r1 r2 1 1 r3.length)⟩] ∧ z5 = .inl L14) ?_ ?_
   ·refine RunC.block (RunC.loop (RunL.loopM (x := z5) (i_made_2Fi_CompanionMatrix_1_s2 a1 a2 r1 r2 r3 v6) (fun (s : (List F) × Int) τ Γ => s.1.length = r3.length ∧ WeakLe τ [(1, i64 a1), (2, fn (.func 90) [] [ptr [(sFc a2)]]), (6, optr 0 1 0), (7, optr 2 1 0), (8, i64 v6), (13, i64 a0), (14, i64 v6), (17, i64 a1), (18, i64 s.2)] ∧ DeadLe Γ [⟨1, some zMx⟩, ⟨1, some (s.1.map f32)⟩, ⟨1, some (oXc r1 r2 1 1 r3.length)⟩]) ?_ _ _ _ hz_5 ⟨hl5, ⟨aR, aR, aR, aR, aR, aR, aR, aR, aR, trivial⟩, ⟨⟨rfl, .inr rfl⟩, ⟨rfl, .inr rfl⟩, ⟨rfl, .inr rfl⟩, trivial⟩⟩))
    rintro ⟨L7, v9⟩ τ5 Γ5 y5_ ⟨hl8, hw5, hd5⟩ h5_ ho5 hr5
    refine RunC.wl (τ' := [(1, i64 a1), (2, fn (.func 90) [] [ptr [(sFc a2)]]), (6, optr 0 1 0), (7, optr 2 1 0), (8, i64 v6), (13, i64 a0), (14, i64 v6), (17, i64 a1), (18, i64 v9)]) (Γ' := [⟨1, some zMx⟩, ⟨1, some (L7.map f32)⟩, ⟨1, some (oXc r1 r2 1 1 r3.length)⟩]) hw5 hd5 ?_
    replace hl8 : L7.length = r3.length := hl8
    replace h5_ : i_made_2Fi_CompanionMatrix_1_b2 a1 a2 r1 r2 r3 v6 L7 v9 = some y5_ := h5_
    unfold i_made_2Fi_CompanionMatrix_1_b2 at h5_
    refine yS ?_
    rcases oB h5_ with ⟨hc3, h5_⟩ | ⟨hc3, h5_⟩
    ·refine yW<|yl rfl (b true) (LOp.eqb (LOp.lss rfl rfl rfl) hc3)<|zN ?_
     refine yS<|yT<|RunC.skip<|yS<|RunC.block<|zQ<|ym rfl (i64 v9)<|ya rfl (i64 v9)<|zN ?_
     obtain ⟨r11, hf5, h5_⟩ := oS h5_
     obtain ⟨r12, hf6, h5_⟩ := oS h5_
     obtain ⟨hn7, h5_⟩ := need_some h5_
     refine RunC.region_draw (Γ' := [⟨1, some zMx⟩, ⟨1, some (L7.map f32)⟩, ⟨1, some (oXc r1 r2 1 1 r3.length)⟩]) 7 mixed 
      (TR.d (r := agg (oXc r1 r2 1 1 r3.length)) (fs := []) rfl rfl (TOp.loadAgg_o rfl agg33 siz33 rfl rfl rfl rfl) <|
      (tm rfl (i64 v6) <|
      (tm rfl (i64 v9) <|
      (tm rfl (fn (.func 90) [] [ptr [(sFc a2)]]) <|
      (tm rfl (i64 v6) <|
      (tm rfl (i64 v9) <|
      (TR.d (r := f32 r11) (fs := []) rfl rfl (TOp.callB (CallAs.fn ent90 rfl rfl rfl rfl) (bP (bP (Bors.cons (Bor.ptr (bS bN)) bN))) rfl rfl (i_CompanionMatrix_1_ok v6 v9 a2 r11 hf5)) <|
      TR.nil))))))) rfl (by kernel_rfl) rfl fills_nil rfl ?_
     iterate 7 refine ROps.dropS ?_
     refine ROps.drop0<|ROps.callO (A := [agg (oXc r1 r2 1 1 r3.length), i64 v6, i64 v9, f32 r11]) (args := [agg (oXc r1 r2 0 0 L7.length), i64 v6, i64 v9, f32 r11]) (Γc := [⟨0, some (L7.map f32)⟩]) (Γc' := [⟨0, some (r12.map f32)⟩]) (r' := tup []) (Γ' := [⟨1, some zMx⟩, ⟨1, some (r12.map f32)⟩, ⟨1, some (oXc r1 r2 1 1 r3.length)⟩]) [(1, 1)] [] rfl (CallAs.func ent93 rfl rfl) rfl rfl (SelOk.of (ndB_ok rfl) (SelL.arr0 (f := f32) (fun _ => rfl) rfl trivial)) (live_of ⟨⟨_, _, rfl⟩, trivial⟩) (by simp [ren, rens, sigma, rens_f32, rens_f64, rens_i64, rens_ik, rens_str, rens_cp, hl8]) rfl (i_Matrix_set_02o_ok r1 r2 v6 v9 r11 L7 r12 hf6) rfl (news_of trivial) (ndB_ok rfl) (by simp [ren, rens, sigma, of_decide_eq_true hn7]) (by simp [backOb, sigma, ren, rens, rens_f32, rens_f64, rens_i64, rens_ik, rens_str, rens_cp])<|zN ?_
     obtain ⟨x13, hx8, h5_⟩ := oL h5_
     refine yW<|yl rfl (i64 x13) (LOp.eqr (LOp.add rfl rfl rfl) (congrArg (ik .i64) hx8))<|ym rfl (i64 x13)<|zN ?_
     cases oI h5_
     exact ⟨_, rfl, (of_decide_eq_true hn7), ⟨aR, aR, aR, aR, aR, aR, aR, aR, aR, trivial⟩, ⟨⟨rfl, .inr rfl⟩, ⟨rfl, .inr rfl⟩, ⟨rfl, .inr rfl⟩, trivial⟩⟩
    ·refine yW<|yl rfl (b false) (LOp.eqb (LOp.lss rfl rfl rfl) hc3)<|zN ?_
     refine yS<|yF<|RunC.exit ?_
     cases oI h5_
     have hx := ho5 _ rfl
     exact ⟨L7, hl8, ⟨aR, aR, aR, aR, aR, aR, trivial⟩, ⟨⟨rfl, .inr rfl⟩, ⟨rfl, .inr rfl⟩, ⟨rfl, .inr rfl⟩, trivial⟩, hx⟩
   ·rintro τ6 Γ6 ⟨L14, hl15, hw6, hd6, rfl⟩
    refine RunC.wl hw6 hd6 ?_
    replace h4_ : i_made_2Fi_CompanionMatrix_1_k2 v6 L14 = some y4_ := h4_
    unfold i_made_2Fi_CompanionMatrix_1_k2 at h4_
    obtain ⟨x16, hx9, h4_⟩ := oL h4_
    refine yW<|yl rfl (i64 x16) (LOp.eqr (LOp.add rfl rfl rfl) (congrArg (ik .i64) hx9))<|ym rfl (i64 x16)<|zN ?_
    cases oI h4_
    exact ⟨_, rfl, hl15, ⟨aR, aR, aR, aR, aR, aR, trivial⟩, ⟨⟨rfl, .inr rfl⟩, ⟨rfl, .inr rfl⟩, ⟨rfl, .inr rfl⟩, trivial⟩⟩
  ·refine yW<|yl rfl (b false) (LOp.eqb (LOp.lss rfl rfl rfl) hc2)<|zN ?_
   refine yS<|yF<|RunC.exit ?_
   cases oI h4_
   have hx := ho4 _ rfl
   exact ⟨L4, hl5, ⟨aR, aR, trivial⟩, ⟨⟨rfl, .inr rfl⟩, ⟨rfl, .inr rfl⟩, ⟨rfl, .inr rfl⟩, trivial⟩, hx⟩
 ·rintro τ7 Γ7 ⟨L17, hl18, hw7, hd7, rfl⟩
  refine RunC.wl hw7 hd7 ?_
  replace h : i_made_2Fi_CompanionMatrix_1_k3 r1 r2 L17 = some (q0, q1, q2) := h
  unfold i_made_2Fi_CompanionMatrix_1_k3 at h
  refine zQ<|yd rfl (agg (oXc r1 r2 1 1 r3.length)) (TOp.loadAgg_o rfl agg33 siz33 rfl rfl rfl rfl)<|ys (agg (oXc r1 r2 1 1 r3.length)) (oXc r1 r2 1 1 r3.length) [⟨1, some (oXc r1 r2 1 1 r3.length)⟩, ⟨1, some (L17.map f32)⟩, ⟨1, some (oXc r1 r2 1 1 r3.length)⟩] siz33<|zN ?_
  refine RunC.ret ?_
  have hq := oI h
  obtain ⟨hq0, hq⟩ := Prod.mk.inj hq
  obtain ⟨hq1, hq⟩ := Prod.mk.inj hq
  subst q0
  subst q1
  subst q2
  exact yB (agg (oXc r1 r2 1 1 L17.length)) [(1, 1)] (Res.eq (Res.one rfl (RV.cell agg33 siz33 rfl rfl rfl rfl)) (by rw [(show L17.length = r3.length from hl18)] <;> rfl)) (SelL.arr0 (f := f32) (fun _ => rfl) rfl trivial)
def i_CompanionMatrix (a0 : List F) : Option (Int × Int × Bool × (List F)) :=
 obind (i_length_float32 a0) fun (r1 : Int) =>
 obind (i_isSide r1) fun (r2 : Bool) =>
 bsel r2 (
  obind (i_areFinite a0) fun (r3 : Bool) =>
  bsel r3 (
   obind3 (i_made_2Fi_CompanionMatrix_1 r1 r1 a0) fun (r4 : Int) (r5 : Int) (r6 : List F) =>
   some (r4, r5, true, r6)) (
   some (0, 0, false, ([] : List F)))) (
  some (0, 0, false, ([] : List F)))
theorem i_CompanionMatrix_ok (a0 : List F) (q0 : Int) (q1 : Int) (q2 : Bool) (q3 : List F) (h : i_CompanionMatrix a0 = some (q0, q1, q2, q3)) : Ev Try.prog 34 [(sFc a0)] [] (tup [agg (oXc q0 q1 0 0 q3.length), b q2]) [⟨0, some (q3.map f32)⟩] := by
 refine yE Try.func34 2 41 0 [(0, (sFc a0))] [⟨0, none⟩, ⟨0, none⟩] rfl ?_
 unfold i_CompanionMatrix at h
 refine zQ<|yd rfl (ptr [(sFc a0)]) (TOp.box_s rfl rfl rfl)<|ye rfl (optr 0 1 0) [⟨1, some zMx⟩, ⟨0, none⟩] (TOp.alloc_o (g := ⟨0, none⟩) 0 rfl zer33 zok33 rfl)<|ya rfl (b false)<|zN ?_
 refine yS ?_
 obtain ⟨r1, hf1, h⟩ := oS h
 refine yW<|yl rfl (sFc a0) (y2 agg26)<|yd rfl (i64 r1) (yc ent62 rfl rfl (bS bN) (i_length_float32_ok a0 r1 hf1))<|ya rfl (i64 r1)<|zN ?_
 refine yS<|yS ?_
 obtain ⟨r2, hf2, h⟩ := oS h
 rcases oB h with ⟨hc3, h⟩ | ⟨hc3, h⟩
 ·obtain ⟨r3, hf4, h⟩ := oS h
  rcases oB h with ⟨hc5, h⟩ | ⟨hc5, h⟩
  ·refine yW<|ym rfl (i64 r1)<|yd rfl (b true) (TOp.eqb (yc ent89 rfl rfl bN0 (i_isSide_ok r1 r2 hf2)) hc3)<|yl rfl (b false) y1<|ym rfl (b false)<|yl rfl (sFc a0) (y2 agg26)<|yd rfl (b true) (TOp.eqb (yc ent74 rfl rfl (bS bN) (i_areFinite_ok a0 r3 hf4)) hc5)<|yl rfl (b false) y1<|yl rfl (b false) yp<|zN ?_
   refine yF<|RunC.skip<|yS ?_
   obtain ⟨r4, r5, r6, hf6, h⟩ := obind3_some h
   refine yW<|ym rfl (i64 r1)<|ym rfl (i64 r1)<|yl rfl (fn (.func 90) [] [ptr [(sFc a0)]]) (LOp.makeFunc rfl rfl)<|ye rfl (agg (oXc r4 r5 1 1 r6.length)) [⟨1, some zMx⟩, ⟨1, some (r6.map f32)⟩] (TOp.callBN (ls := [(r6.map f32)]) [1] (CallAs.func ent64 rfl rfl) (bP (bP (Bors.cons (Bor.fn bN (Bors.cons (Bor.ptr (bS bN)) bN)) bN))) rfl (i_made_2Fi_CompanionMatrix_1_ok r1 r1 a0 r4 r5 r6 hf6) (and_all (lts0_map (f := f32) (fun _ => rfl) _) rfl) (and_all (noss_map (f := f32) (fun _ => rfl) _) rfl) rfl (by decide) (ns_of ⟨⟨_, rfl⟩, trivial⟩))<|ys (agg (oXc r4 r5 1 1 r6.length)) (oXc r4 r5 1 1 r6.length) [⟨1, some (oXc r4 r5 1 1 r6.length)⟩, ⟨1, some (r6.map f32)⟩] siz33<|ya rfl (b true)<|zN ?_
   refine RunC.ret ?_
   have hq := oI h
   obtain ⟨hq0, hq⟩ := Prod.mk.inj hq
   obtain ⟨hq1, hq⟩ := Prod.mk.inj hq
   obtain ⟨hq2, hq⟩ := Prod.mk.inj hq
   subst q0
   subst q1
   subst q2
   subst q3
   exact yB (tup [agg (oXc r4 r5 1 1 r6.length), b true]) [(1, 1)] (Res.two rfl (RV.cell agg33 siz33 rfl rfl rfl rfl) (RV.tmp rfl)) (SelL.arr0 (f := f32) (fun _ => rfl) rfl trivial)
  ·refine yW<|ym rfl (i64 r1)<|yd rfl (b true) (TOp.eqb (yc ent89 rfl rfl bN0 (i_isSide_ok r1 r2 hf2)) hc3)<|yl rfl (b false) y1<|ym rfl (b false)<|yl rfl (sFc a0) (y2 agg26)<|yd rfl (b false) (TOp.eqb (yc ent74 rfl rfl (bS bN) (i_areFinite_ok a0 r3 hf4)) hc5)<|yl rfl (b true) y0<|yl rfl (b true) yp<|zN ?_
   refine yT<|zQ<|yl rfl (agg zMx) (LOp.build (qs := []) zer33 zok33 und33 plc33 rfl trivial rfl)<|ys (agg zMx) zMx [⟨1, some zMx⟩, ⟨0, none⟩] siz33<|ya rfl (b false)<|zN ?_
   refine RunC.nil_cell (l' := [i64 0, i64 0, oref 1 1 0 0]) (Γ' := [⟨1, some [i64 0, i64 0, oref 1 1 0 0]⟩, ⟨1, some (([] : List F).map f32)⟩]) 0 2 1 rfl rfl rfl rfl rfl<|RunC.ret ?_
   have hq := oI h
   obtain ⟨hq0, hq⟩ := Prod.mk.inj hq
   obtain ⟨hq1, hq⟩ := Prod.mk.inj hq
   obtain ⟨hq2, hq⟩ := Prod.mk.inj hq
   subst q0
   subst q1
   subst q2
   subst q3
   exact yB (tup [agg [i64 0, i64 0, oref 1 1 0 (([] : List F).length)], b false]) [(1, 1)] (Res.eq (Res.two rfl (RV.cell agg33 siz33 rfl rfl rfl rfl) (RV.tmp rfl)) (by rw [(show ([] : List F).length = 0 from rfl)] <;> rfl)) (SelL.arr0 (f := f32) (fun _ => rfl) rfl trivial)
 ·refine yW<|ym rfl (i64 r1)<|yd rfl (b false) (TOp.eqb (yc ent89 rfl rfl bN0 (i_isSide_ok r1 r2 hf2)) hc3)<|yl rfl (b true) y0<|ym rfl (b true)<|ROps.s rfl rfl rfl<|ROps.s rfl rfl rfl<|ROps.s rfl rfl rfl<|yl rfl (b true) yq<|zN ?_
  refine yT<|zQ<|yl rfl (agg zMx) (LOp.build (qs := []) zer33 zok33 und33 plc33 rfl trivial rfl)<|ys (agg zMx) zMx [⟨1, some zMx⟩, ⟨0, none⟩] siz33<|ya rfl (b false)<|zN ?_
  refine RunC.nil_cell (l' := [i64 0, i64 0, oref 1 1 0 0]) (Γ' := [⟨1, some [i64 0, i64 0, oref 1 1 0 0]⟩, ⟨1, some (([] : List F).map f32)⟩]) 0 2 1 rfl rfl rfl rfl rfl<|RunC.ret ?_
  have hq := oI h
  obtain ⟨hq0, hq⟩ := Prod.mk.inj hq
  obtain ⟨hq1, hq⟩ := Prod.mk.inj hq
  obtain ⟨hq2, hq⟩ := Prod.mk.inj hq
  subst q0
  subst q1
  subst q2
  subst q3
  exact yB (tup [agg [i64 0, i64 0, oref 1 1 0 (([] : List F).length)], b false]) [(1, 1)] (Res.eq (Res.two rfl (RV.cell agg33 siz33 rfl rfl rfl rfl) (RV.tmp rfl)) (by rw [(show ([] : List F).length = 0 from rfl)] <;> rfl)) (SelL.arr0 (f := f32) (fun _ => rfl) rfl trivial)
def i_ValidMatrix (a0 : Int) (a1 : Int) (a2 : List F) : Option (Bool) :=
 obind (i_isSide a0) fun (r1 : Bool) =>
 bsel r1 (
  obind (i_isSide a1) fun (r2 : Bool) =>
  bsel r2 (
   obind (i_length_float32 a2) fun (r3 : Int) =>
   olet (IntKind.i64.wrap (a0 * a1)) fun (x4 : Int) =>
   bsel (decide (r3 = x4)) (
    obind (i_areFinite a2) fun (r5 : Bool) =>
    some r5) (
    some false)) (
   some false)) (
  some false)
theorem i_ValidMatrix_ok (a0 : Int) (a1 : Int) (a2 : List F) (q0 : Bool) (h : i_ValidMatrix a0 a1 a2 = some q0) : Ev Try.prog 102 [agg (mXc a0 a1 a2)] [] (b q0) [] := by
 refine yE Try.func102 0 55 0 [(0, agg (mXc a0 a1 a2))] [] rfl ?_
 unfold i_ValidMatrix at h
 refine zQ<|yd rfl (ptr (mXc a0 a1 a2)) (TOp.box_s rfl rfl rfl)<|ya rfl (b false)<|zN ?_
 refine yS ?_
 obtain ⟨r1, hf1, h⟩ := oS h
 rcases oB h with ⟨hc2, h⟩ | ⟨hc2, h⟩
 ·obtain ⟨r2, hf3, h⟩ := oS h
  rcases oB h with ⟨hc4, h⟩ | ⟨hc4, h⟩
  ·obtain ⟨r3, hf5, h⟩ := oS h
   obtain ⟨x4, hx6, h⟩ := oL h
   rcases oB h with ⟨hc7, h⟩ | ⟨hc7, h⟩
   ·obtain ⟨r5, hf8, h⟩ := oS h
    refine RunC.region_draw (Γ' := []) 25 mixed 
     (tl rfl (ptr (mXc a0 a1 a2)) (LOp.fap und33 rfl siz2 rfl rfl rfl) <|
     (tl rfl (i64 a0) (y2 agg2) <|
     (TR.d (r := b true) (fs := []) rfl rfl (TOp.eqb (yc ent89 rfl rfl bN0 (i_isSide_ok a0 r1 hf1)) hc2) <|
     (tm rfl (b true) <|
     (tl rfl (ptr [i64 a1, (sFc a2)]) (LOp.fap und33 rfl siz2 rfl rfl rfl) <|
     (tl rfl (i64 a1) (y2 agg2) <|
     (TR.d (r := b true) (fs := []) rfl rfl (TOp.eqb (yc ent89 rfl rfl bN0 (i_isSide_ok a1 r2 hf3)) hc4) <|
     (tl rfl (b true) yq <|
     (tm rfl (b true) <|
     (tl rfl (ptr [(sFc a2)]) (LOp.fap und33 rfl siz26 rfl rfl rfl) <|
     (tl rfl (sFc a2) (y2 agg26) <|
     (TR.d (r := i64 r3) (fs := []) rfl rfl (yc ent62 rfl rfl (bS bN) (i_length_float32_ok a2 r3 hf5)) <|
     (tl rfl (ptr (mXc a0 a1 a2)) (LOp.fap und33 rfl siz2 rfl rfl rfl) <|
     (tl rfl (i64 a0) (y2 agg2) <|
     (tl rfl (ptr [i64 a1, (sFc a2)]) (LOp.fap und33 rfl siz2 rfl rfl rfl) <|
     (tl rfl (i64 a1) (y2 agg2) <|
     (tl rfl (i64 x4) (LOp.eqr (LOp.mul rfl rfl rfl) (congrArg (ik .i64) hx6)) <|
     (tl rfl (b true) (LOp.eqb (LOp.eql rfl rfl rfl) hc7) <|
     (tl rfl (b true) yq <|
     (tm rfl (b true) <|
     (tl rfl (ptr [(sFc a2)]) (LOp.fap und33 rfl siz26 rfl rfl rfl) <|
     (tl rfl (sFc a2) (y2 agg26) <|
     (TR.d (r := b r5) (fs := []) rfl rfl (yc ent74 rfl rfl (bS bN) (i_areFinite_ok a2 r5 hf8)) <|
     (tl rfl (b r5) yq <|
     (tl rfl (b r5) (LOp.assign rfl rfl) <|
     TR.nil))))))))))))))))))))))))) rfl (by kernel_rfl) rfl fills_nil rfl ?_
    iterate 25 refine ROps.dropS ?_
    refine ROps.drop0<|zN ?_
    refine RunC.ret ?_
    have hq := oI h
    subst q0
    exact bodyQ.pure (.inr rfl) rfl (Res.one rfl (RV.tmp rfl))
   ·refine RunC.region_draw (Γ' := []) 25 mixed 
     (tl rfl (ptr (mXc a0 a1 a2)) (LOp.fap und33 rfl siz2 rfl rfl rfl) <|
     (tl rfl (i64 a0) (y2 agg2) <|
     (TR.d (r := b true) (fs := []) rfl rfl (TOp.eqb (yc ent89 rfl rfl bN0 (i_isSide_ok a0 r1 hf1)) hc2) <|
     (tm rfl (b true) <|
     (tl rfl (ptr [i64 a1, (sFc a2)]) (LOp.fap und33 rfl siz2 rfl rfl rfl) <|
     (tl rfl (i64 a1) (y2 agg2) <|
     (TR.d (r := b true) (fs := []) rfl rfl (TOp.eqb (yc ent89 rfl rfl bN0 (i_isSide_ok a1 r2 hf3)) hc4) <|
     (tl rfl (b true) yq <|
     (tm rfl (b true) <|
     (tl rfl (ptr [(sFc a2)]) (LOp.fap und33 rfl siz26 rfl rfl rfl) <|
     (tl rfl (sFc a2) (y2 agg26) <|
     (TR.d (r := i64 r3) (fs := []) rfl rfl (yc ent62 rfl rfl (bS bN) (i_length_float32_ok a2 r3 hf5)) <|
     (tl rfl (ptr (mXc a0 a1 a2)) (LOp.fap und33 rfl siz2 rfl rfl rfl) <|
     (tl rfl (i64 a0) (y2 agg2) <|
     (tl rfl (ptr [i64 a1, (sFc a2)]) (LOp.fap und33 rfl siz2 rfl rfl rfl) <|
     (tl rfl (i64 a1) (y2 agg2) <|
     (tl rfl (i64 x4) (LOp.eqr (LOp.mul rfl rfl rfl) (congrArg (ik .i64) hx6)) <|
     (tl rfl (b false) (LOp.eqb (LOp.eql rfl rfl rfl) hc7) <|
     (tl rfl (b false) yq <|
     (tm rfl (b false) <|
     (ts rfl <|
     (ts rfl <|
     (ts rfl <|
     (tl rfl (b false) yp <|
     (tl rfl (b false) (LOp.assign rfl rfl) <|
     TR.nil))))))))))))))))))))))))) rfl (by kernel_rfl) rfl fills_nil rfl ?_
    iterate 25 refine ROps.dropS ?_
    refine ROps.drop0<|zN ?_
    refine RunC.ret ?_
    have hq := oI h
    subst q0
    exact bodyQ.pure (.inr rfl) rfl (Res.one rfl (RV.tmp rfl))
  ·refine RunC.region_draw (Γ' := []) 25 mixed 
    (tl rfl (ptr (mXc a0 a1 a2)) (LOp.fap und33 rfl siz2 rfl rfl rfl) <|
    (tl rfl (i64 a0) (y2 agg2) <|
    (TR.d (r := b true) (fs := []) rfl rfl (TOp.eqb (yc ent89 rfl rfl bN0 (i_isSide_ok a0 r1 hf1)) hc2) <|
    (tm rfl (b true) <|
    (tl rfl (ptr [i64 a1, (sFc a2)]) (LOp.fap und33 rfl siz2 rfl rfl rfl) <|
    (tl rfl (i64 a1) (y2 agg2) <|
    (TR.d (r := b false) (fs := []) rfl rfl (TOp.eqb (yc ent89 rfl rfl bN0 (i_isSide_ok a1 r2 hf3)) hc4) <|
    (tl rfl (b false) yq <|
    (tm rfl (b false) <|
    (ts rfl <|
    (ts rfl <|
    (ts rfl <|
    (ts rfl <|
    (ts rfl <|
    (ts rfl <|
    (ts rfl <|
    (ts rfl <|
    (ts rfl <|
    (tl rfl (b false) yp <|
    (tm rfl (b false) <|
    (ts rfl <|
    (ts rfl <|
    (ts rfl <|
    (tl rfl (b false) yp <|
    (tl rfl (b false) (LOp.assign rfl rfl) <|
    TR.nil))))))))))))))))))))))))) rfl (by kernel_rfl) rfl fills_nil rfl ?_
   iterate 25 refine ROps.dropS ?_
   refine ROps.drop0<|zN ?_
   refine RunC.ret ?_
   have hq := oI h
   subst q0
   exact bodyQ.pure (.inr rfl) rfl (Res.one rfl (RV.tmp rfl))
 ·refine RunC.region_draw (Γ' := []) 25 mixed 
   (tl rfl (ptr (mXc a0 a1 a2)) (LOp.fap und33 rfl siz2 rfl rfl rfl) <|
   (tl rfl (i64 a0) (y2 agg2) <|
   (TR.d (r := b false) (fs := []) rfl rfl (TOp.eqb (yc ent89 rfl rfl bN0 (i_isSide_ok a0 r1 hf1)) hc2) <|
   (tm rfl (b false) <|
   (ts rfl <|
   (ts rfl <|
   (ts rfl <|
   (tl rfl (b false) yp <|
   (tm rfl (b false) <|
   (ts rfl <|
   (ts rfl <|
   (ts rfl <|
   (ts rfl <|
   (ts rfl <|
   (ts rfl <|
   (ts rfl <|
   (ts rfl <|
   (ts rfl <|
   (tl rfl (b false) yp <|
   (tm rfl (b false) <|
   (ts rfl <|
   (ts rfl <|
   (ts rfl <|
   (tl rfl (b false) yp <|
   (tl rfl (b false) (LOp.assign rfl rfl) <|
   TR.nil))))))))))))))))))))))))) rfl (by kernel_rfl) rfl fills_nil rfl ?_
  iterate 25 refine ROps.dropS ?_
  refine ROps.drop0<|zN ?_
  refine RunC.ret ?_
  have hq := oI h
  subst q0
  exact bodyQ.pure (.inr rfl) rfl (Res.one rfl (RV.tmp rfl))
def i_isSquare (a0 : Int) (a1 : Int) (a2 : List F) : Option (Bool) :=
 obind (i_ValidMatrix a0 a1 a2) fun (r1 : Bool) =>
 bsel r1 (
  some (decide (a0 = a1))) (
  some false)
theorem i_isSquare_ok (a0 : Int) (a1 : Int) (a2 : List F) (q0 : Bool) (h : i_isSquare a0 a1 a2 = some q0) : Ev Try.prog 91 [agg (mXc a0 a1 a2)] [] (b q0) [] := by
 refine yE Try.func91 0 25 0 [(0, agg (mXc a0 a1 a2))] [] rfl ?_
 unfold i_isSquare at h
 refine zQ<|yd rfl (ptr (mXc a0 a1 a2)) (TOp.box_s rfl rfl rfl)<|ya rfl (b false)<|zN ?_
 refine yS ?_
 obtain ⟨r1, hf1, h⟩ := oS h
 rcases oB h with ⟨hc2, h⟩ | ⟨hc2, h⟩
 ·refine yW<|yl rfl (agg (mXc a0 a1 a2)) (yL agg33 siz33)<|yd rfl (b true) (TOp.eqb (TOp.callB (CallAs.func ent102 rfl rfl) (Bors.cons (Bor.agg (bP (bP (bS bN)))) bN) rfl rfl (i_ValidMatrix_ok a0 a1 a2 r1 hf1)) hc2)<|ym rfl (b true)<|yl rfl (ptr (mXc a0 a1 a2)) (LOp.fap und33 rfl siz2 rfl rfl rfl)<|yl rfl (i64 a0) (y2 agg2)<|yl rfl (ptr [i64 a1, (sFc a2)]) (LOp.fap und33 rfl siz2 rfl rfl rfl)<|yl rfl (i64 a1) (y2 agg2)<|yl rfl (b (decide (a0 = a1))) (LOp.eql rfl rfl rfl)<|yl rfl (b (decide (a0 = a1))) yq<|ya rfl (b (decide (a0 = a1)))<|zN ?_
  refine RunC.ret ?_
  have hq := oI h
  subst q0
  exact bodyQ.pure (.inr rfl) rfl (Res.one rfl (RV.tmp rfl))
 ·refine yW<|yl rfl (agg (mXc a0 a1 a2)) (yL agg33 siz33)<|yd rfl (b false) (TOp.eqb (TOp.callB (CallAs.func ent102 rfl rfl) (Bors.cons (Bor.agg (bP (bP (bS bN)))) bN) rfl rfl (i_ValidMatrix_ok a0 a1 a2 r1 hf1)) hc2)<|ym rfl (b false)<|ROps.s rfl rfl rfl<|ROps.s rfl rfl rfl<|ROps.s rfl rfl rfl<|ROps.s rfl rfl rfl<|ROps.s rfl rfl rfl<|yl rfl (b false) yp<|ya rfl (b false)<|zN ?_
  refine RunC.ret ?_
  have hq := oI h
  subst q0
  exact bodyQ.pure (.inr rfl) rfl (Res.one rfl (RV.tmp rfl))
def x_slices_Clone_float32_float32 (a0 : List F) : Option ((List F)) :=
 need (apok 4 0 a0.length) <|
 some (([] : List F) ++ a0)
theorem x_slices_Clone_float32_float32_ok (a0 : List F) (q0 : List F) (h : x_slices_Clone_float32_float32 a0 = some q0) : Ev Try.prog 82 [(sFc a0)] [] (oref 0 0 0 q0.length) [⟨0, some (q0.map f32)⟩] := by
 refine yE Try.func82 1 17 0 [(0, (sFc a0))] [⟨0, none⟩] rfl ?_
 unfold x_slices_Clone_float32_float32 at h
 refine zQ<|ya rfl nilsl<|zN ?_
 refine yS<|zQ<|ym rfl (sFc a0)<|ROps.eqnil rfl pun26 rfl rfl rfl rfl rfl ?_ ?_
 ·intro hnil1
  refine zN ?_
  refine yT<|zQ<|ya rfl nilsl<|zN ?_
  refine RunC.nil_slot (Γ' := [⟨1, some (([] : List F).map f32)⟩]) 2 0 rfl rfl rfl<|RunC.ret ?_
  have hnl := List.map_eq_nil_iff.1 hnil1
  have hq : some ([] : List F) = some q0 := by
   rw [← h]; subst hnl; simp [need, apok]
  have hq := oI hq
  subst q0
  exact yB (oref 0 1 0 (([] : List F).length)) [(0, 1)] (Res.eq (Res.one rfl (RV.tmp rfl)) (by rw [(show ([] : List F).length = 0 from rfl)] <;> rfl)) (SelL.arr0 (f := f32) (fun _ => rfl) rfl trivial)
 ·refine zN ?_
  refine yF<|RunC.skip<|yS ?_
  obtain ⟨hm2, h⟩ := need_some h
  refine yW<|ye rfl (oref 0 1 0 0) ([⟨1, some (([] : List F).map f32)⟩]) (TOp.buildSlice_o (g := ⟨0, none⟩) (za := f32 (some 0)) (qs := []) 0 rfl und26 siz28 zer28 rfl zel28 rfl rfl trivial rfl)<|ym rfl (sFc a0)<|ROps.app (f := f32) (xs := ([] : List F)) (ys := a0) (Γ' := [⟨2, some ((([] : List F) ++ a0).map f32)⟩]) rfl pun26 inf28 rfl rfl rfl rfl rfl rfl rfl rfl rfl (by simp) (ReadAs.sl (by simp)) (ones_map (fun _ => rfl)) (ap_by hm2) (ap_mx hm2) rfl<|ya rfl (oref 0 2 0 (0 + a0.length))<|zN ?_
  refine RunC.ret ?_
  have hq := oI h
  subst q0
  exact yB (oref 0 2 0 ((([] : List F) ++ a0).length)) [(0, 2)] (Res.eq (Res.one rfl (RV.tmp rfl)) (by rw [(show (([] : List F) ++ a0).length = (0 + a0.length) from (app_len rfl rfl))] <;> rfl)) (SelL.arr0 (f := f32) (fun _ => rfl) rfl trivial)
def i_Matrix_clone (a0 : Int) (a1 : Int) (a2 : List F) : Option (Int × Int × (List F)) :=
 obind (x_slices_Clone_float32_float32 a2) fun (r1 : List F) =>
 some (a0, a1, r1)
theorem i_Matrix_clone_ok (a0 : Int) (a1 : Int) (a2 : List F) (q0 : Int) (q1 : Int) (q2 : List F) (h : i_Matrix_clone a0 a1 a2 = some (q0, q1, q2)) : Ev Try.prog 92 [agg (mXc a0 a1 a2)] [] (agg (oXc q0 q1 0 0 q2.length)) [⟨0, some (q2.map f32)⟩] := by
 refine yE Try.func92 2 23 0 [(0, agg (mXc a0 a1 a2))] [⟨0, none⟩, ⟨0, none⟩] rfl ?_
 unfold i_Matrix_clone at h
 refine zQ<|yd rfl (ptr (mXc a0 a1 a2)) (TOp.box_s rfl rfl rfl)<|ye rfl (optr 0 1 0) [⟨1, some zMx⟩, ⟨0, none⟩] (TOp.alloc_o (g := ⟨0, none⟩) 0 rfl zer33 zok33 rfl)<|zN ?_
 refine yS ?_
 obtain ⟨r1, hf1, h⟩ := oS h
 refine RunC.region_draw (Γ' := [⟨1, some zMx⟩, ⟨1, some (r1.map f32)⟩]) 8 mixed 
  (tl rfl (ptr (mXc a0 a1 a2)) (LOp.fap und33 rfl siz2 rfl rfl rfl) <|
  (tl rfl (i64 a0) (y2 agg2) <|
  (tl rfl (ptr [i64 a1, (sFc a2)]) (LOp.fap und33 rfl siz2 rfl rfl rfl) <|
  (tl rfl (i64 a1) (y2 agg2) <|
  (tl rfl (ptr [(sFc a2)]) (LOp.fap und33 rfl siz26 rfl rfl rfl) <|
  (tl rfl (sFc a2) (y2 agg26) <|
  (TR.d (r := oref 1 1 0 r1.length) (fs := [(1, (r1.map f32))]) rfl rfl (TOp.callBN (ls := [(r1.map f32)]) [1] (CallAs.func ent82 rfl rfl) (bS bN) rfl (x_slices_Clone_float32_float32_ok a2 r1 hf1) (and_all (lts0_map (f := f32) (fun _ => rfl) _) rfl) (and_all (noss_map (f := f32) (fun _ => rfl) _) rfl) rfl (by decide) (ns_of ⟨⟨_, rfl⟩, trivial⟩)) <|
  (tl rfl (agg (oXc a0 a1 1 1 r1.length)) (LOp.build (qs := [(0, [i64 a0]), (1, [i64 a1]), (2, [oref 1 1 0 r1.length])]) zer33 zok33 und33 plc33 rfl ⟨rfl, ⟨_, ALe.refl _, rfl⟩, ⟨rfl, ⟨_, ALe.refl _, rfl⟩, ⟨rfl, ⟨_, ALe.refl _, rfl⟩, trivial⟩⟩⟩ rfl) <|
  TR.nil)))))))) rfl (by kernel_rfl) rfl (fills_of (by show List.Nodup [1]; decide) ⟨⟨_, rfl⟩, trivial⟩) rfl ?_
 iterate 8 refine ROps.dropS ?_
 refine ROps.drop0<|ys (agg (oXc a0 a1 1 1 r1.length)) (oXc a0 a1 1 1 r1.length) [⟨1, some (oXc a0 a1 1 1 r1.length)⟩, ⟨1, some (r1.map f32)⟩] siz33<|zN ?_
 refine RunC.ret ?_
 have hq := oI h
 obtain ⟨hq0, hq⟩ := Prod.mk.inj hq
 obtain ⟨hq1, hq⟩ := Prod.mk.inj hq
 subst q0
 subst q1
 subst q2
 exact yB (agg (oXc a0 a1 1 1 r1.length)) [(1, 1)] (Res.one rfl (RV.cell agg33 siz33 rfl rfl rfl rfl)) (SelL.arr0 (f := f32) (fun _ => rfl) rfl trivial)
def i_Matrix_at (a0 : Int) (a1 : Int) (a2 : List F) (a3 : Int) (a4 : Int) : Option (F) :=
 olet (IntKind.i64.wrap (a3 * a1)) fun (x1 : Int) =>
 olet (IntKind.i64.wrap (x1 + a4)) fun (x2 : Int) =>
 obind (at? a2 x2) fun (e3 : F) =>
 some e3
theorem i_Matrix_at_ok (a0 : Int) (a1 : Int) (a2 : List F) (a3 : Int) (a4 : Int) (q0 : F) (h : i_Matrix_at a0 a1 a2 a3 a4 = some q0) : Ev Try.prog 94 [agg (mXc a0 a1 a2), i64 a3, i64 a4] [] (f32 q0) [] := by
 refine yE Try.func94 0 35 0 [(0, agg (mXc a0 a1 a2)), (1, i64 a3), (2, i64 a4)] [] rfl ?_
 unfold i_Matrix_at at h
 refine zQ<|yd rfl (ptr (mXc a0 a1 a2)) (TOp.box_s rfl rfl rfl)<|yl rfl (f32 (some 0)) (LOp.le (LOp.assign rfl rfl) (ALe.fl (by kernel_rfl) (by kernel_rfl)))<|zN ?_
 refine yS ?_
 obtain ⟨x1, hx1, h⟩ := oL h
 obtain ⟨x2, hx2, h⟩ := oL h
 obtain ⟨e3, he3, h⟩ := oS h
 refine yW<|yl rfl (ptr [(sFc a2)]) (LOp.fap und33 rfl siz26 rfl rfl rfl)<|yl rfl (sFc a2) (y2 agg26)<|ym rfl (i64 a3)<|yl rfl (ptr [i64 a1, (sFc a2)]) (LOp.fap und33 rfl siz2 rfl rfl rfl)<|yl rfl (i64 a1) (y2 agg2)<|yl rfl (i64 x1) (LOp.eqr (LOp.mul rfl rfl rfl) (congrArg (ik .i64) hx1))<|ym rfl (i64 a4)<|yl rfl (i64 x2) (LOp.eqr (LOp.add rfl rfl rfl) (congrArg (ik .i64) hx2))<|yl rfl (ptr [f32 e3]) (LOp.le (LOp.ix (f := f32) und26 siz28 rfl rfl rfl rfl he3) ALe.ptr)<|yl rfl (f32 e3) (y2 agg28)<|ya rfl (f32 e3)<|zN ?_
 refine RunC.ret ?_
 have hq := oI h
 subst q0
 exact bodyQ.pure (.inr rfl) rfl (Res.one rfl (RV.tmp rfl))
def i_areFactors (a0 : Int) (a1 : Int) (a2 : List F) (a3 : Int) (a4 : Int) (a5 : List F) : Option (Bool) :=
 obind (i_ValidMatrix a0 a1 a2) fun (r1 : Bool) =>
 bsel r1 (
  obind (i_ValidMatrix a3 a4 a5) fun (r2 : Bool) =>
  bsel r2 (
   some (decide (a1 = a3))) (
   some false)) (
  some false)
theorem i_areFactors_ok (a0 : Int) (a1 : Int) (a2 : List F) (a3 : Int) (a4 : Int) (a5 : List F) (q0 : Bool) (h : i_areFactors a0 a1 a2 a3 a4 a5 = some q0) : Ev Try.prog 149 [agg (mXc a0 a1 a2), agg (mXc a3 a4 a5)] [] (b q0) [] := by
 refine yE Try.func149 0 37 0 [(0, agg (mXc a0 a1 a2)), (1, agg (mXc a3 a4 a5))] [] rfl ?_
 unfold i_areFactors at h
 refine zQ<|yd rfl (ptr (mXc a0 a1 a2)) (TOp.box_s rfl rfl rfl)<|yd rfl (ptr (mXc a3 a4 a5)) (TOp.box_s rfl rfl rfl)<|ya rfl (b false)<|zN ?_
 refine yS ?_
 obtain ⟨r1, hf1, h⟩ := oS h
 rcases oB h with ⟨hc2, h⟩ | ⟨hc2, h⟩
 ·obtain ⟨r2, hf3, h⟩ := oS h
  rcases oB h with ⟨hc4, h⟩ | ⟨hc4, h⟩
  ·refine yW<|yl rfl (agg (mXc a0 a1 a2)) (yL agg33 siz33)<|yd rfl (b true) (TOp.eqb (TOp.callB (CallAs.func ent102 rfl rfl) (Bors.cons (Bor.agg (bP (bP (bS bN)))) bN) rfl rfl (i_ValidMatrix_ok a0 a1 a2 r1 hf1)) hc2)<|ym rfl (b true)<|yl rfl (agg (mXc a3 a4 a5)) (yL agg33 siz33)<|yd rfl (b true) (TOp.eqb (TOp.callB (CallAs.func ent102 rfl rfl) (Bors.cons (Bor.agg (bP (bP (bS bN)))) bN) rfl rfl (i_ValidMatrix_ok a3 a4 a5 r2 hf3)) hc4)<|yl rfl (b true) yq<|ym rfl (b true)<|yl rfl (ptr [i64 a1, (sFc a2)]) (LOp.fap und33 rfl siz2 rfl rfl rfl)<|yl rfl (i64 a1) (y2 agg2)<|yl rfl (ptr (mXc a3 a4 a5)) (LOp.fap und33 rfl siz2 rfl rfl rfl)<|yl rfl (i64 a3) (y2 agg2)<|yl rfl (b (decide (a1 = a3))) (LOp.eql rfl rfl rfl)<|yl rfl (b (decide (a1 = a3))) yq<|ya rfl (b (decide (a1 = a3)))<|zN ?_
   refine RunC.ret ?_
   have hq := oI h
   subst q0
   exact bodyQ.pure (.inr rfl) rfl (Res.one rfl (RV.tmp rfl))
  ·refine yW<|yl rfl (agg (mXc a0 a1 a2)) (yL agg33 siz33)<|yd rfl (b true) (TOp.eqb (TOp.callB (CallAs.func ent102 rfl rfl) (Bors.cons (Bor.agg (bP (bP (bS bN)))) bN) rfl rfl (i_ValidMatrix_ok a0 a1 a2 r1 hf1)) hc2)<|ym rfl (b true)<|yl rfl (agg (mXc a3 a4 a5)) (yL agg33 siz33)<|yd rfl (b false) (TOp.eqb (TOp.callB (CallAs.func ent102 rfl rfl) (Bors.cons (Bor.agg (bP (bP (bS bN)))) bN) rfl rfl (i_ValidMatrix_ok a3 a4 a5 r2 hf3)) hc4)<|yl rfl (b false) yq<|ym rfl (b false)<|ROps.s rfl rfl rfl<|ROps.s rfl rfl rfl<|ROps.s rfl rfl rfl<|ROps.s rfl rfl rfl<|ROps.s rfl rfl rfl<|yl rfl (b false) yp<|ya rfl (b false)<|zN ?_
   refine RunC.ret ?_
   have hq := oI h
   subst q0
   exact bodyQ.pure (.inr rfl) rfl (Res.one rfl (RV.tmp rfl))
 ·refine yW<|yl rfl (agg (mXc a0 a1 a2)) (yL agg33 siz33)<|yd rfl (b false) (TOp.eqb (TOp.callB (CallAs.func ent102 rfl rfl) (Bors.cons (Bor.agg (bP (bP (bS bN)))) bN) rfl rfl (i_ValidMatrix_ok a0 a1 a2 r1 hf1)) hc2)<|ym rfl (b false)<|ROps.s rfl rfl rfl<|ROps.s rfl rfl rfl<|yl rfl (b false) yp<|ym rfl (b false)<|ROps.s rfl rfl rfl<|ROps.s rfl rfl rfl<|ROps.s rfl rfl rfl<|ROps.s rfl rfl rfl<|ROps.s rfl rfl rfl<|yl rfl (b false) yp<|ya rfl (b false)<|zN ?_
  refine RunC.ret ?_
  have hq := oI h
  subst q0
  exact bodyQ.pure (.inr rfl) rfl (Res.one rfl (RV.tmp rfl))
def i_Matrix_row (a0 : Int) (a1 : Int) (a2 : List F) (a3 : Int) : Option ((List F)) :=
 olet (IntKind.i64.wrap (a3 * a1)) fun (x1 : Int) =>
 olet (IntKind.i64.wrap (a3 + 1)) fun (x2 : Int) =>
 olet (IntKind.i64.wrap (x2 * a1)) fun (x3 : Int) =>
 obind (sub? a2 x1 x3) fun (l4 : List F) =>
 obind (x_slices_Clone_float32_float32 l4) fun (r5 : List F) =>
 some r5
theorem i_Matrix_row_ok (a0 : Int) (a1 : Int) (a2 : List F) (a3 : Int) (q0 : List F) (h : i_Matrix_row a0 a1 a2 a3 = some q0) : Ev Try.prog 144 [agg (mXc a0 a1 a2), i64 a3] [] (oref 0 0 0 q0.length) [⟨0, some (q0.map f32)⟩] := by
 refine yE Try.func144 1 37 0 [(0, agg (mXc a0 a1 a2)), (1, i64 a3)] [⟨0, none⟩] rfl ?_
 unfold i_Matrix_row at h
 refine zQ<|yd rfl (ptr (mXc a0 a1 a2)) (TOp.box_s rfl rfl rfl)<|ya rfl nilsl<|zN ?_
 refine yS ?_
 obtain ⟨x1, hx1, h⟩ := oL h
 obtain ⟨x2, hx2, h⟩ := oL h
 obtain ⟨x3, hx3, h⟩ := oL h
 obtain ⟨l4, hs4, h⟩ := oS h
 obtain ⟨r5, hf5, h⟩ := oS h
 refine yW<|yl rfl (ptr [(sFc a2)]) (LOp.fap und33 rfl siz26 rfl rfl rfl)<|yl rfl (sFc a2) (y2 agg26)<|ym rfl (i64 a3)<|yl rfl (ptr [i64 a1, (sFc a2)]) (LOp.fap und33 rfl siz2 rfl rfl rfl)<|yl rfl (i64 a1) (y2 agg2)<|yl rfl (i64 x1) (LOp.eqr (LOp.mul rfl rfl rfl) (congrArg (ik .i64) hx1))<|ym rfl (i64 a3)<|yl rfl (i64 x2) (LOp.eqr (LOp.add rfl rfl rfl) (congrArg (ik .i64) hx2))<|yl rfl (ptr [i64 a1, (sFc a2)]) (LOp.fap und33 rfl siz2 rfl rfl rfl)<|yl rfl (i64 a1) (y2 agg2)<|yl rfl (i64 x3) (LOp.eqr (LOp.mul rfl rfl rfl) (congrArg (ik .i64) hx3))<|yl rfl (sFc l4) (LOp.slice_sl (f := f32) und26 siz28 rfl rfl rfl rfl rfl hs4)<|ye rfl (oref 0 1 0 r5.length) [⟨1, some (r5.map f32)⟩] (TOp.callBN (ls := [(r5.map f32)]) [0] (CallAs.func ent82 rfl rfl) (bS bN) rfl (x_slices_Clone_float32_float32_ok l4 r5 hf5) (and_all (lts0_map (f := f32) (fun _ => rfl) _) rfl) (and_all (noss_map (f := f32) (fun _ => rfl) _) rfl) rfl (by decide) (ns_of ⟨⟨_, rfl⟩, trivial⟩))<|ya rfl (oref 0 1 0 r5.length)<|zN ?_
 refine RunC.ret ?_
 have hq := oI h
 subst q0
 exact yB (oref 0 1 0 r5.length) [(0, 1)] (Res.one rfl (RV.tmp rfl)) (SelL.arr0 (f := f32) (fun _ => rfl) rfl trivial)
def i_Matrix_column_b1 (a0 : Int) (a1 : Int) (a2 : List F) (a3 : Int) (L3 : List F) (v4 : Int) : Option (LR ((List F) × Int) ((List F)) ((List F))) :=
 bsel (decide (v4 < a0)) (
  obind (i_Matrix_at a0 a1 a2 v4 a3) fun (r5 : F) =>
  need (apok 4 L3.length 1) <|
  olet (IntKind.i64.wrap (v4 + 1)) fun (x6 : Int) =>
  some (LR.next ((L3 ++ ([r5] : List F)), x6))) (
  some (LR.out L3))
def i_Matrix_column_s1 (a0 : Int) (a1 : Int) (a2 : List F) (a3 : Int) : ((List F) × Int) → Option (LR ((List F) × Int) ((List F)) ((List F))) := fun s => i_Matrix_column_b1 a0 a1 a2 a3 s.1 s.2
def i_Matrix_column_k1 (L9 : List F) : Option ((List F)) :=
 some L9
def i_Matrix_column (a0 : Int) (a1 : Int) (a2 : List F) (a3 : Int) : Option ((List F)) :=
 obind (loopM (i_Matrix_column_s1 a0 a1 a2 a3) (([] : List F), 0)) fun z => osum z (fun e => i_Matrix_column_k1 e) (fun r => some r)
theorem i_Matrix_column_ok (a0 : Int) (a1 : Int) (a2 : List F) (a3 : Int) (q0 : List F) (h : i_Matrix_column a0 a1 a2 a3 = some q0) : Ev Try.prog 177 [agg (mXc a0 a1 a2), i64 a3] [] (oref 0 0 0 q0.length) [⟨0, some (q0.map f32)⟩] := by
 refine yE Try.func177 2 45 0 [(0, agg (mXc a0 a1 a2)), (1, i64 a3)] [⟨0, none⟩, ⟨0, none⟩] rfl ?_
 unfold i_Matrix_column at h
 refine zQ<|yd rfl (ptr (mXc a0 a1 a2)) (TOp.box_s rfl rfl rfl)<|ya rfl nilsl<|zN ?_
 refine zQ<|ye rfl (oref 0 1 0 0) ([⟨1, some (([] : List F).map f32)⟩, ⟨0, none⟩]) (TOp.buildSlice_o (g := ⟨0, none⟩) (za := f32 (some 0)) (qs := []) 0 rfl und26 siz28 zer28 rfl zel28 rfl rfl trivial rfl)<|ya rfl (oref 0 1 0 0)<|zN ?_
 refine yS<|zQ<|yl rfl (ptr (mXc a0 a1 a2)) (LOp.fap und33 rfl siz2 rfl rfl rfl)<|yl rfl (i64 a0) (y2 agg2)<|ym rfl (i64 0)<|zN ?_
 obtain ⟨z2, hz_2, h⟩ := oS h
 refine RunC.cutN (fun τ Γ => ∃ (L9 : List F) (u7 : Nat) (u8 : Nat), WeakLe τ [(5, oref 0 u7 0 L9.length)] ∧ DeadLe Γ [⟨u7, some (L9.map f32)⟩, ⟨u8, none⟩] ∧ z2 = .inl L9) ?_ ?_
 ·refine RunC.block (RunC.loop (RunL.loopM (x := z2) (i_Matrix_column_s1 a0 a1 a2 a3) (fun (s : (List F) × Int) τ Γ => ∃ (u1 : Nat) (u2 : Nat), WeakLe τ [(1, i64 a3), (2, ptr (mXc a0 a1 a2)), (5, oref 0 u1 0 s.1.length), (9, i64 a0), (10, i64 s.2)] ∧ DeadLe Γ [⟨u1, some (s.1.map f32)⟩, ⟨u2, none⟩]) ?_ _ _ _ hz_2 ⟨1, 0, ⟨aR, aR, aR, aR, aR, trivial⟩, ⟨⟨rfl, .inr rfl⟩, ⟨rfl, .inl rfl⟩, trivial⟩⟩))
  rintro ⟨L3, v4⟩ τ2 Γ2 y2_ ⟨u1, u2, hw2, hd2⟩ h2_ ho2 hr2
  refine RunC.wl (τ' := [(1, i64 a3), (2, ptr (mXc a0 a1 a2)), (5, oref 0 u1 0 L3.length), (9, i64 a0), (10, i64 v4)]) (Γ' := [⟨u1, some (L3.map f32)⟩, ⟨u2, none⟩]) hw2 hd2 ?_
  replace h2_ : i_Matrix_column_b1 a0 a1 a2 a3 L3 v4 = some y2_ := h2_
  unfold i_Matrix_column_b1 at h2_
  refine yS ?_
  rcases oB h2_ with ⟨hc1, h2_⟩ | ⟨hc1, h2_⟩
  ·refine yW<|yl rfl (b true) (LOp.eqb (LOp.lss rfl rfl rfl) hc1)<|zN ?_
   refine yS<|yT<|RunC.skip<|yS<|RunC.block<|zQ<|ym rfl (i64 v4)<|ya rfl (i64 v4)<|zN ?_
   obtain ⟨r5, hf2, h2_⟩ := oS h2_
   obtain ⟨hm3, h2_⟩ := need_some h2_
   refine yW<|ym rfl (oref 0 u1 0 L3.length)<|yl rfl (agg (mXc a0 a1 a2)) (yL agg33 siz33)<|ym rfl (i64 v4)<|ym rfl (i64 a3)<|yd rfl (f32 r5) (TOp.callB (CallAs.func ent94 rfl rfl) (Bors.cons (Bor.agg (bP (bP (bS bN)))) (bP bN0)) rfl rfl (i_Matrix_at_ok a0 a1 a2 v4 a3 r5 hf2))<|ye rfl (oref 1 (u2 + 1) 0 1) ([⟨u1, some (L3.map f32)⟩, ⟨(u2 + 1), some (([r5] : List F).map f32)⟩]) (TOp.buildSlice_o (g := ⟨u2, none⟩) (za := f32 (some 0)) (qs := [(0, [f32 r5])]) 1 rfl und26 siz28 zer28 rfl zel28 rfl rfl ⟨rfl, ⟨_, ALe.refl _, rfl⟩, trivial⟩ rfl)<|ROps.app (f := f32) (xs := L3) (ys := ([r5] : List F)) (Γ' := [⟨(u1 + 1), some ((L3 ++ ([r5] : List F)).map f32)⟩, ⟨(u2 + 1), some (([r5] : List F).map f32)⟩]) rfl pun26 inf28 rfl rfl rfl rfl rfl rfl rfl rfl rfl (by simp) (ReadAs.own rfl (by simp)) (ones_map (fun _ => rfl)) (ap_by hm3) (ap_mx hm3) rfl<|ya rfl (oref 0 (u1 + 1) 0 (L3.length + 1))<|zN ?_
   refine RunC.wl (τ' := [(1, i64 a3), (2, ptr (mXc a0 a1 a2)), (5, oref 0 (u1 + 1) 0 (L3.length + 1)), (9, i64 a0), (10, i64 v4)]) (Γ' := [⟨(u1 + 1), some ((L3 ++ ([r5] : List F)).map f32)⟩, ⟨(u2 + 1), none⟩]) ⟨aR, aR, aR, aR, aR, trivial⟩ ⟨⟨rfl, .inr rfl⟩, ⟨rfl, .inl rfl⟩, trivial⟩ ?_
   obtain ⟨x6, hx4, h2_⟩ := oL h2_
   refine yW<|yl rfl (i64 x6) (LOp.eqr (LOp.add rfl rfl rfl) (congrArg (ik .i64) hx4))<|ym rfl (i64 x6)<|zN ?_
   cases oI h2_
   exact ⟨_, rfl, (u1 + 1), (u2 + 1), ⟨aR, aR, (ALe.eq (by rw [(app_len rfl rfl)] <;> rfl)), aR, aR, trivial⟩, ⟨⟨rfl, .inr rfl⟩, ⟨rfl, .inl rfl⟩, trivial⟩⟩
  ·refine yW<|yl rfl (b false) (LOp.eqb (LOp.lss rfl rfl rfl) hc1)<|zN ?_
   refine yS<|yF<|RunC.exit ?_
   cases oI h2_
   have hx := ho2 _ rfl
   exact ⟨L3, u1, u2, ⟨aR, trivial⟩, ⟨⟨rfl, .inr rfl⟩, ⟨rfl, .inl rfl⟩, trivial⟩, hx⟩
 ·rintro τ3 Γ3 ⟨L9, u7, u8, hw3, hd3, rfl⟩
  refine RunC.wl hw3 hd3 ?_
  replace h : i_Matrix_column_k1 L9 = some q0 := h
  unfold i_Matrix_column_k1 at h
  refine zQ<|ym rfl (oref 0 u7 0 L9.length)<|ya rfl (oref 0 u7 0 L9.length)<|zN ?_
  refine RunC.ret ?_
  have hq := oI h
  subst q0
  exact bodyQ.mk (r' := oref 0 u7 0 L9.length) [(0, u7)] (.inr rfl) rfl (ndB_ok rfl) (by simp [ren, rens, sigma]) rfl (Res.one rfl (RV.tmp rfl)) (SelL.arr0 (f := f32) (fun _ => rfl) rfl trivial)
def i_mul (a0 : F) (a1 : F) : Option (F) :=
 olet (fop .mul .f32 a0 a1) fun (x1 : F) =>
 some x1
theorem i_mul_ok (a0 : F) (a1 : F) (q0 : F) (h : i_mul a0 a1 = some q0) : Ev Try.prog 76 [f32 a0, f32 a1] [] (f32 q0) [] := by
 refine yE Try.func76 0 17 0 [(0, f32 a0), (1, f32 a1)] [] rfl ?_
 unfold i_mul at h
 refine zQ<|yl rfl (f32 (some 0)) (LOp.le (LOp.assign rfl rfl) (ALe.fl (by kernel_rfl) (by kernel_rfl)))<|zN ?_
 refine yS ?_
 obtain ⟨x1, hx1, h⟩ := oL h
 refine yW<|ym rfl (f32 a0)<|ym rfl (f32 a1)<|yd rfl (f32 x1) (TOp.eqr (TOp.fop (.inr (.inr (.inl rfl))) rfl (OpF.tmp rfl) (OpF.tmp rfl)) (congrArg (f .f32) hx1))<|ya rfl (f32 x1)<|zN ?_
 refine RunC.ret ?_
 have hq := oI h
 subst q0
 exact bodyQ.pure (.inr rfl) rfl (Res.one rfl (RV.tmp rfl))
def i_dot_b1 (a0 : List F) (a1 : List F) (y1 : F) (v2 : Int) : Option (LR (F × Int) (F) (F)) :=
 bsel (decide (v2 < (a0.length : Int))) (
  obind (at? a0 v2) fun (e3 : F) =>
  obind (at? a1 v2) fun (e4 : F) =>
  obind (i_mul e3 e4) fun (r5 : F) =>
  olet (fop .add .f32 y1 r5) fun (x6 : F) =>
  olet (IntKind.i64.wrap (v2 + 1)) fun (x7 : Int) =>
  some (LR.next (x6, x7))) (
  some (LR.out y1))
def i_dot_s1 (a0 : List F) (a1 : List F) : (F × Int) → Option (LR (F × Int) (F) (F)) := fun s => i_dot_b1 a0 a1 s.1 s.2
def i_dot_k1 (y8 : F) : Option (F) :=
 some y8
def i_dot (a0 : List F) (a1 : List F) : Option (F) :=
 obind (loopM (i_dot_s1 a0 a1) (some 0, 0)) fun z => osum z (fun e => i_dot_k1 e) (fun r => some r)
theorem i_dot_ok (a0 : List F) (a1 : List F) (q0 : F) (h : i_dot a0 a1 = some q0) : Ev Try.prog 143 [(sFc a0), (sFc a1)] [] (f32 q0) [] := by
 refine yE Try.func143 0 51 0 [(0, (sFc a0)), (1, (sFc a1))] [] rfl ?_
 unfold i_dot at h
 refine zQ<|yl rfl (f32 (some 0)) (LOp.le (LOp.assign rfl rfl) (ALe.fl (by kernel_rfl) (by kernel_rfl)))<|zN ?_
 refine zQ<|yl rfl (f32 (some 0)) (LOp.le (LOp.assign rfl rfl) (ALe.fl (by kernel_rfl) (by kernel_rfl)))<|zN ?_
 refine yS<|zQ<|ym rfl (sFc a0)<|yl rfl (i64 (a0.length : Int)) (LOp.len_sl und26 rfl rfl)<|ym rfl (i64 0)<|zN ?_
 obtain ⟨z2, hz_2, h⟩ := oS h
 refine RunC.cutN (fun τ Γ => ∃ (y8 : F), WeakLe τ [(5, f32 y8)] ∧ DeadLe Γ [] ∧ z2 = .inl y8) ?_ ?_
 ·refine RunC.block (RunC.loop (RunL.loopM (x := z2) (i_dot_s1 a0 a1) (fun (s : F × Int) τ Γ => WeakLe τ [(1, (sFc a1)), (5, f32 s.1), (8, (sFc a0)), (9, i64 (a0.length : Int)), (10, i64 s.2)] ∧ DeadLe Γ []) ?_ _ _ _ hz_2 ⟨⟨aR, aR, aR, aR, aR, trivial⟩, trivial⟩))
  rintro ⟨y1, v2⟩ τ2 Γ2 y2_ ⟨hw2, hd2⟩ h2_ ho2 hr2
  refine RunC.wl (τ' := [(1, (sFc a1)), (5, f32 y1), (8, (sFc a0)), (9, i64 (a0.length : Int)), (10, i64 v2)]) (Γ' := []) hw2 hd2 ?_
  replace h2_ : i_dot_b1 a0 a1 y1 v2 = some y2_ := h2_
  unfold i_dot_b1 at h2_
  refine yS ?_
  rcases oB h2_ with ⟨hc1, h2_⟩ | ⟨hc1, h2_⟩
  ·refine yW<|yl rfl (b true) (LOp.eqb (LOp.lss rfl rfl rfl) hc1)<|zN ?_
   refine yS<|yT<|RunC.skip<|yS<|RunC.block<|yS ?_
   obtain ⟨e3, he2, h2_⟩ := oS h2_
   refine yW<|ym rfl (i64 v2)<|yl rfl (ptr [f32 e3]) (LOp.le (LOp.ix (f := f32) und26 siz28 rfl rfl rfl rfl he2) ALe.ptr)<|yl rfl (f32 e3) (y2 agg28)<|ya rfl (i64 v2)<|ya rfl (f32 e3)<|zN ?_
   obtain ⟨e4, he3, h2_⟩ := oS h2_
   obtain ⟨r5, hf4, h2_⟩ := oS h2_
   obtain ⟨x6, hx5, h2_⟩ := oL h2_
   refine yW<|ym rfl (f32 y1)<|ym rfl (f32 e3)<|ym rfl (sFc a1)<|ym rfl (i64 v2)<|yl rfl (ptr [f32 e4]) (LOp.le (LOp.ix (f := f32) und26 siz28 rfl rfl rfl rfl he3) ALe.ptr)<|yl rfl (f32 e4) (y2 agg28)<|yd rfl (f32 r5) (yc ent76 rfl rfl (bP bN0) (i_mul_ok e3 e4 r5 hf4))<|yd rfl (f32 x6) (TOp.eqr (TOp.fop (.inl rfl) rfl (OpF.tmp rfl) (OpF.tmp rfl)) (congrArg (f .f32) hx5))<|ya rfl (f32 x6)<|zN ?_
   refine RunC.wl (τ' := [(1, (sFc a1)), (5, f32 x6), (8, (sFc a0)), (9, i64 (a0.length : Int)), (10, i64 v2)]) (Γ' := []) ⟨aR, aR, aR, aR, aR, trivial⟩ trivial ?_
   obtain ⟨x7, hx6, h2_⟩ := oL h2_
   refine yW<|yl rfl (i64 x7) (LOp.eqr (LOp.add rfl rfl rfl) (congrArg (ik .i64) hx6))<|ym rfl (i64 x7)<|zN ?_
   cases oI h2_
   exact ⟨_, rfl, ⟨aR, aR, aR, aR, aR, trivial⟩, trivial⟩
  ·refine yW<|yl rfl (b false) (LOp.eqb (LOp.lss rfl rfl rfl) hc1)<|zN ?_
   refine yS<|yF<|RunC.exit ?_
   cases oI h2_
   have hx := ho2 _ rfl
   exact ⟨y1, ⟨aR, trivial⟩, trivial, hx⟩
 ·rintro τ3 Γ3 ⟨y8, hw3, hd3, rfl⟩
  refine RunC.wl hw3 hd3 ?_
  replace h : i_dot_k1 y8 = some q0 := h
  unfold i_dot_k1 at h
  refine zQ<|ym rfl (f32 y8)<|ya rfl (f32 y8)<|zN ?_
  refine RunC.ret ?_
  have hq := oI h
  subst q0
  exact bodyQ.pure (.inr rfl) rfl (Res.one rfl (RV.tmp rfl))
def i_product_1 (a0 : Int) (a1 : Int) (a2 : Int) (a3 : Int) (a4 : List F) (a5 : Int) (a6 : Int) (a7 : List F) : Option (F) :=
 obind (i_Matrix_row a2 a3 a4 a0) fun (r1 : List F) =>
 obind (i_Matrix_column a5 a6 a7 a1) fun (r2 : List F) =>
 obind (i_dot r1 r2) fun (r3 : F) =>
 some r3
theorem i_product_1_ok (a0 : Int) (a1 : Int) (a2 : Int) (a3 : Int) (a4 : List F) (a5 : Int) (a6 : Int) (a7 : List F) (q0 : F) (h : i_product_1 a0 a1 a2 a3 a4 a5 a6 a7 = some q0) : Ev Try.prog 176 [i64 a0, i64 a1, ptr (mXc a2 a3 a4), ptr (mXc a5 a6 a7)] [] (f32 q0) [] := by
 refine yE Try.func176 0 29 0 [(0, i64 a0), (1, i64 a1), (2, ptr (mXc a2 a3 a4)), (3, ptr (mXc a5 a6 a7))] [] rfl ?_
 unfold i_product_1 at h
 refine zQ<|yl rfl (f32 (some 0)) (LOp.le (LOp.assign rfl rfl) (ALe.fl (by kernel_rfl) (by kernel_rfl)))<|zN ?_
 refine yS ?_
 obtain ⟨r1, hf1, h⟩ := oS h
 obtain ⟨r2, hf2, h⟩ := oS h
 obtain ⟨r3, hf3, h⟩ := oS h
 refine RunC.region_draw (Γ' := []) 8 mixed 
  (tl rfl (agg (mXc a2 a3 a4)) (yL agg33 siz33) <|
  (tm rfl (i64 a0) <|
  (TR.d (r := (sFc r1)) (fs := []) rfl rfl (TOp.callS (CallAs.func ent144 rfl rfl) (ALes.cons aR (ALes.cons aR ALes.nil)) (lts_cons (lt_agg (lts_cons rfl (lts_cons rfl (lts_cons (lt_sl (fun _ => rfl)) lts_nil)))) (lts_cons rfl lts_nil)) (lt_sl (fun _ => rfl)) (i_Matrix_row_ok a2 a3 a4 a0 r1 hf1) (Bor.own (f := f32) (fun _ => rfl) rfl rfl)) <|
  (tl rfl (agg (mXc a5 a6 a7)) (yL agg33 siz33) <|
  (tm rfl (i64 a1) <|
  (TR.d (r := (sFc r2)) (fs := []) rfl rfl (TOp.callS (CallAs.func ent177 rfl rfl) (ALes.cons aR (ALes.cons aR ALes.nil)) (lts_cons (lt_agg (lts_cons rfl (lts_cons rfl (lts_cons (lt_sl (fun _ => rfl)) lts_nil)))) (lts_cons rfl lts_nil)) (lt_sl (fun _ => rfl)) (i_Matrix_column_ok a5 a6 a7 a1 r2 hf2) (Bor.own (f := f32) (fun _ => rfl) rfl rfl)) <|
  (TR.d (r := f32 r3) (fs := []) rfl rfl (yc ent143 rfl rfl (bS (bS bN)) (i_dot_ok r1 r2 r3 hf3)) <|
  (tl rfl (f32 r3) (LOp.assign rfl rfl) <|
  TR.nil)))))))) rfl (by kernel_rfl) rfl fills_nil rfl ?_
 iterate 8 refine ROps.dropS ?_
 refine ROps.drop0<|zN ?_
 refine RunC.ret ?_
 have hq := oI h
 subst q0
 exact bodyQ.pure (.inr rfl) rfl (Res.one rfl (RV.tmp rfl))
def i_made_2Fi_product_1_b2 (a1 : Int) (a2 : Int) (a3 : Int) (a4 : List F) (a5 : Int) (a6 : Int) (a7 : List F) (r1 : Int) (r2 : Int) (r3 : List F) (v6 : Int) (L7 : List F) (v9 : Int) : Option (LR ((List F) × Int) ((List F)) (Int × Int × (List F))) :=
 bsel (decide (v9 < a1)) (
  obind (i_product_1 v6 v9 a2 a3 a4 a5 a6 a7) fun (r11 : F) =>
  obind (i_Matrix_set_02o r1 r2 v6 v9 r11 L7) fun (r12 : List F) =>
  need (decide (r12.length = r3.length)) <|
  olet (IntKind.i64.wrap (v9 + 1)) fun (x13 : Int) =>
  some (LR.next (r12, x13))) (
  some (LR.out L7))
def i_made_2Fi_product_1_s2 (a1 : Int) (a2 : Int) (a3 : Int) (a4 : List F) (a5 : Int) (a6 : Int) (a7 : List F) (r1 : Int) (r2 : Int) (r3 : List F) (v6 : Int) : ((List F) × Int) → Option (LR ((List F) × Int) ((List F)) (Int × Int × (List F))) := fun s => i_made_2Fi_product_1_b2 a1 a2 a3 a4 a5 a6 a7 r1 r2 r3 v6 s.1 s.2
def i_made_2Fi_product_1_k2 (v6 : Int) (L14 : List F) : Option (LR ((List F) × Int) ((List F)) (Int × Int × (List F))) :=
 olet (IntKind.i64.wrap (v6 + 1)) fun (x16 : Int) =>
 some (LR.next (L14, x16))
def i_made_2Fi_product_1_b3 (a0 : Int) (a1 : Int) (a2 : Int) (a3 : Int) (a4 : List F) (a5 : Int) (a6 : Int) (a7 : List F) (r1 : Int) (r2 : Int) (r3 : List F) (L4 : List F) (v6 : Int) : Option (LR ((List F) × Int) ((List F)) (Int × Int × (List F))) :=
 bsel (decide (v6 < a0)) (
  obind (loopM (i_made_2Fi_product_1_s2 a1 a2 a3 a4 a5 a6 a7 r1 r2 r3 v6) (L4, 0)) fun z => osum z (fun e => i_made_2Fi_product_1_k2 v6 e) (fun r => some (LR.ret r))) (
  some (LR.out L4))
def i_made_2Fi_product_1_s3 (a0 : Int) (a1 : Int) (a2 : Int) (a3 : Int) (a4 : List F) (a5 : Int) (a6 : Int) (a7 : List F) (r1 : Int) (r2 : Int) (r3 : List F) : ((List F) × Int) → Option (LR ((List F) × Int) ((List F)) (Int × Int × (List F))) := fun s => i_made_2Fi_product_1_b3 a0 a1 a2 a3 a4 a5 a6 a7 r1 r2 r3 s.1 s.2
def i_made_2Fi_product_1_k3 (r1 : Int) (r2 : Int) (L17 : List F) : Option (Int × Int × (List F)) :=
 some (r1, r2, L17)
def i_made_2Fi_product_1 (a0 : Int) (a1 : Int) (a2 : Int) (a3 : Int) (a4 : List F) (a5 : Int) (a6 : Int) (a7 : List F) : Option (Int × Int × (List F)) :=
 obind3 (i_newMatrix a0 a1) fun (r1 : Int) (r2 : Int) (r3 : List F) =>
 obind (loopM (i_made_2Fi_product_1_s3 a0 a1 a2 a3 a4 a5 a6 a7 r1 r2 r3) (r3, 0)) fun z => osum z (fun e => i_made_2Fi_product_1_k3 r1 r2 e) (fun r => some r)
theorem i_made_2Fi_product_1_ok (a0 : Int) (a1 : Int) (a2 : Int) (a3 : Int) (a4 : List F) (a5 : Int) (a6 : Int) (a7 : List F) (q0 : Int) (q1 : Int) (q2 : List F) (h : i_made_2Fi_product_1 a0 a1 a2 a3 a4 a5 a6 a7 = some (q0, q1, q2)) : Ev Try.prog 64 [i64 a0, i64 a1, fn (.func 176) [] [ptr (mXc a2 a3 a4), ptr (mXc a5 a6 a7)]] [] (agg (oXc q0 q1 0 0 q2.length)) [⟨0, some (q2.map f32)⟩] := by
 refine yE Try.func64 3 65 0 ([(0, i64 a0), (1, i64 a1), (2, fn (.func 176) [] [ptr (mXc a2 a3 a4), ptr (mXc a5 a6 a7)])]) [⟨0, none⟩, ⟨0, none⟩, ⟨0, none⟩] rfl ?_
 unfold i_made_2Fi_product_1 at h
 refine zQ<|ye rfl (optr 0 1 0) [⟨1, some zMx⟩, ⟨0, none⟩, ⟨0, none⟩] (TOp.alloc_o (g := ⟨0, none⟩) 0 rfl zer33 zok33 rfl)<|zN ?_
 refine yS ?_
 obtain ⟨r1, r2, r3, hf1, h⟩ := obind3_some h
 refine yW<|ym rfl (i64 a0)<|ym rfl (i64 a1)<|ye rfl (agg (oXc r1 r2 1 1 r3.length)) [⟨1, some zMx⟩, ⟨1, some (r3.map f32)⟩, ⟨0, none⟩] (TOp.callBN (ls := [(r3.map f32)]) [1] (CallAs.func ent113 rfl rfl) (bP bN0) rfl (i_newMatrix_ok a0 a1 r1 r2 r3 hf1) (and_all (lts0_map (f := f32) (fun _ => rfl) _) rfl) (and_all (noss_map (f := f32) (fun _ => rfl) _) rfl) rfl (by decide) (ns_of ⟨⟨_, rfl⟩, trivial⟩))<|ye rfl (optr 2 1 0) [⟨1, some zMx⟩, ⟨1, some (r3.map f32)⟩, ⟨1, some zMx⟩] (TOp.alloc_o (g := ⟨0, none⟩) 2 rfl zer33 zok33 rfl)<|ys (agg (oXc r1 r2 1 1 r3.length)) (oXc r1 r2 1 1 r3.length) [⟨1, some zMx⟩, ⟨1, some (r3.map f32)⟩, ⟨1, some (oXc r1 r2 1 1 r3.length)⟩] siz33<|zN ?_
 refine yS<|zQ<|ym rfl (i64 a0)<|ym rfl (i64 0)<|zN ?_
 obtain ⟨z4, hz_4, h⟩ := oS h
 refine RunC.cutN (fun τ Γ => ∃ (L17 : List F), L17.length = r3.length ∧ WeakLe τ [(6, optr 0 1 0), (7, optr 2 1 0)] ∧ DeadLe Γ [⟨1, some zMx⟩, ⟨1, some (L17.map f32)⟩, ⟨1, some (oXc r1 r2 1 1 r3.length)⟩] ∧ z4 = .inl L17) ?_ ?_
 ·refine RunC.block (RunC.loop (RunL.loopM (x := z4) (i_made_2Fi_product_1_s3 a0 a1 a2 a3 a4 a5 a6 a7 r1 r2 r3) (fun (s : (List F) × Int) τ Γ => s.1.length = r3.length ∧ WeakLe τ [(1, i64 a1), (2, fn (.func 176) [] [ptr (mXc a2 a3 a4), ptr (mXc a5 a6 a7)]), (6, optr 0 1 0), (7, optr 2 1 0), (13, i64 a0), (14, i64 s.2)] ∧ DeadLe Γ [⟨1, some zMx⟩, ⟨1, some (s.1.map f32)⟩, ⟨1, some (oXc r1 r2 1 1 r3.length)⟩]) ?_ _ _ _ hz_4 ⟨rfl, ⟨aR, aR, aR, aR, aR, aR, trivial⟩, ⟨⟨rfl, .inr rfl⟩, ⟨rfl, .inr rfl⟩, ⟨rfl, .inr rfl⟩, trivial⟩⟩))
  rintro ⟨L4, v6⟩ τ4 Γ4 y4_ ⟨hl5, hw4, hd4⟩ h4_ ho4 hr4
  refine RunC.wl (τ' := [(1, i64 a1), (2, fn (.func 176) [] [ptr (mXc a2 a3 a4), ptr (mXc a5 a6 a7)]), (6, optr 0 1 0), (7, optr 2 1 0), (13, i64 a0), (14, i64 v6)]) (Γ' := [⟨1, some zMx⟩, ⟨1, some (L4.map f32)⟩, ⟨1, some (oXc r1 r2 1 1 r3.length)⟩]) hw4 hd4 ?_
  replace hl5 : L4.length = r3.length := hl5
  replace h4_ : i_made_2Fi_product_1_b3 a0 a1 a2 a3 a4 a5 a6 a7 r1 r2 r3 L4 v6 = some y4_ := h4_
  unfold i_made_2Fi_product_1_b3 at h4_
  refine yS ?_
  rcases oB h4_ with ⟨hc2, h4_⟩ | ⟨hc2, h4_⟩
  ·refine yW<|yl rfl (b true) (LOp.eqb (LOp.lss rfl rfl rfl) hc2)<|zN ?_
   refine yS<|yT<|RunC.skip<|yS<|RunC.block<|zQ<|ym rfl (i64 v6)<|ya rfl (i64 v6)<|zN ?_
   refine zQ<|ym rfl (i64 a1)<|ym rfl (i64 0)<|zN ?_
   obtain ⟨z5, hz_5, h4_⟩ := oS h4_
   refine RunC.cutN (fun τ Γ => ∃ (L14 : List F), L14.length = r3.length ∧ WeakLe τ [(1, i64 a1), (2, fn (.func 176) [] [ptr (mXc a2 a3 a4), ptr (mXc a5 a6 a7)]), (6, optr 0 1 0), (7, optr 2 1 0), (13, i64 a0), (14, i64 v6)] ∧ DeadLe Γ [⟨1, some zMx⟩, ⟨1, some (L14.map f32)⟩, ⟨1, some (oXc r1 r2 1 1 r3.length)⟩] ∧ z5 = .inl L14) ?_ ?_
   ·refine RunC.block (RunC.loop (RunL.loopM (x := z5) (i_made_2Fi_product_1_s2 a1 a2 a3 a4 a5 a6 a7 r1 r2 r3 v6) (fun (s : (List F) × Int) τ Γ => s.1.length = r3.length ∧ WeakLe τ [(1, i64 a1), (2, fn (.func 176) [] [ptr (mXc a2 a3 a4), ptr (mXc a5 a6 a7)]), (6, optr 0 1 0), (7, optr 2 1 0), (8, i64 v6), (13, i64 a0), (14, i64 v6), (17, i64 a1), (18, i64 s.2)] ∧ DeadLe Γ [⟨1, some zMx⟩, ⟨1, some (s.1.map f32)⟩, ⟨1, some (oXc r1 r2 1 1 r3.length)⟩]) ?_ _ _ _ hz_5 ⟨hl5, ⟨aR, aR, aR, aR, aR, aR, aR, aR, aR, trivial⟩, ⟨⟨rfl, .inr rfl⟩, ⟨rfl, .inr rfl⟩, ⟨rfl, .inr rfl⟩, trivial⟩⟩))
    rintro ⟨L7, v9⟩ τ5 Γ5 y5_ ⟨hl8, hw5, hd5⟩ h5_ ho5 hr5
    refine RunC.wl (τ' := [(1, i64 a1), (2, fn (.func 176) [] [ptr (mXc a2 a3 a4), ptr (mXc a5 a6 a7)]), (6, optr 0 1 0), (7, optr 2 1 0), (8, i64 v6), (13, i64 a0), (14, i64 v6), (17, i64 a1), (18, i64 v9)]) (Γ' := [⟨1, some zMx⟩, ⟨1, some (L7.map f32)⟩, ⟨1, some (oXc r1 r2 1 1 r3.length)⟩]) hw5 hd5 ?_
    replace hl8 : L7.length = r3.length := hl8
    replace h5_ : i_made_2Fi_product_1_b2 a1 a2 a3 a4 a5 a6 a7 r1 r2 r3 v6 L7 v9 = some y5_ := h5_
    unfold i_made_2Fi_product_1_b2 at h5_
    refine yS ?_
    rcases oB h5_ with ⟨hc3, h5_⟩ | ⟨hc3, h5_⟩
    ·refine yW<|yl rfl (b true) (LOp.eqb (LOp.lss rfl rfl rfl) hc3)<|zN ?_
     refine yS<|yT<|RunC.skip<|yS<|RunC.block<|zQ<|ym rfl (i64 v9)<|ya rfl (i64 v9)<|zN ?_
     obtain ⟨r11, hf5, h5_⟩ := oS h5_
     obtain ⟨r12, hf6, h5_⟩ := oS h5_
     obtain ⟨hn7, h5_⟩ := need_some h5_
     refine RunC.region_draw (Γ' := [⟨1, some zMx⟩, ⟨1, some (L7.map f32)⟩, ⟨1, some (oXc r1 r2 1 1 r3.length)⟩]) 7 mixed 
      (TR.d (r := agg (oXc r1 r2 1 1 r3.length)) (fs := []) rfl rfl (TOp.loadAgg_o rfl agg33 siz33 rfl rfl rfl rfl) <|
      (tm rfl (i64 v6) <|
      (tm rfl (i64 v9) <|
      (tm rfl (fn (.func 176) [] [ptr (mXc a2 a3 a4), ptr (mXc a5 a6 a7)]) <|
      (tm rfl (i64 v6) <|
      (tm rfl (i64 v9) <|
      (TR.d (r := f32 r11) (fs := []) rfl rfl (TOp.callB (CallAs.fn ent176 rfl rfl rfl rfl) (bP (bP (Bors.cons (Bor.ptr (bP (bP (bS bN)))) (Bors.cons (Bor.ptr (bP (bP (bS bN)))) bN)))) rfl rfl (i_product_1_ok v6 v9 a2 a3 a4 a5 a6 a7 r11 hf5)) <|
      TR.nil))))))) rfl (by kernel_rfl) rfl fills_nil rfl ?_
     iterate 7 refine ROps.dropS ?_
     refine ROps.drop0<|ROps.callO (A := [agg (oXc r1 r2 1 1 r3.length), i64 v6, i64 v9, f32 r11]) (args := [agg (oXc r1 r2 0 0 L7.length), i64 v6, i64 v9, f32 r11]) (Γc := [⟨0, some (L7.map f32)⟩]) (Γc' := [⟨0, some (r12.map f32)⟩]) (r' := tup []) (Γ' := [⟨1, some zMx⟩, ⟨1, some (r12.map f32)⟩, ⟨1, some (oXc r1 r2 1 1 r3.length)⟩]) [(1, 1)] [] rfl (CallAs.func ent93 rfl rfl) rfl rfl (SelOk.of (ndB_ok rfl) (SelL.arr0 (f := f32) (fun _ => rfl) rfl trivial)) (live_of ⟨⟨_, _, rfl⟩, trivial⟩) (by simp [ren, rens, sigma, rens_f32, rens_f64, rens_i64, rens_ik, rens_str, rens_cp, hl8]) rfl (i_Matrix_set_02o_ok r1 r2 v6 v9 r11 L7 r12 hf6) rfl (news_of trivial) (ndB_ok rfl) (by simp [ren, rens, sigma, of_decide_eq_true hn7]) (by simp [backOb, sigma, ren, rens, rens_f32, rens_f64, rens_i64, rens_ik, rens_str, rens_cp])<|zN ?_
     obtain ⟨x13, hx8, h5_⟩ := oL h5_
     refine yW<|yl rfl (i64 x13) (LOp.eqr (LOp.add rfl rfl rfl) (congrArg (ik .i64) hx8))<|ym rfl (i64 x13)<|zN ?_
     cases oI h5_
     exact ⟨_, rfl, (of_decide_eq_true hn7), ⟨aR, aR, aR, aR, aR, aR, aR, aR, aR, trivial⟩, ⟨⟨rfl, .inr rfl⟩, ⟨rfl, .inr rfl⟩, ⟨rfl, .inr rfl⟩, trivial⟩⟩
    ·refine yW<|yl rfl (b false) (LOp.eqb (LOp.lss rfl rfl rfl) hc3)<|zN ?_
     refine yS<|yF<|RunC.exit ?_
     cases oI h5_
     have hx := ho5 _ rfl
     exact ⟨L7, hl8, ⟨aR, aR, aR, aR, aR, aR, trivial⟩, ⟨⟨rfl, .inr rfl⟩, ⟨rfl, .inr rfl⟩, ⟨rfl, .inr rfl⟩, trivial⟩, hx⟩
   ·rintro τ6 Γ6 ⟨L14, hl15, hw6, hd6, rfl⟩
    refine RunC.wl hw6 hd6 ?_
    replace h4_ : i_made_2Fi_product_1_k2 v6 L14 = some y4_ := h4_
    unfold i_made_2Fi_product_1_k2 at h4_
    obtain ⟨x16, hx9, h4_⟩ := oL h4_
    refine yW<|yl rfl (i64 x16) (LOp.eqr (LOp.add rfl rfl rfl) (congrArg (ik .i64) hx9))<|ym rfl (i64 x16)<|zN ?_
    cases oI h4_
    exact ⟨_, rfl, hl15, ⟨aR, aR, aR, aR, aR, aR, trivial⟩, ⟨⟨rfl, .inr rfl⟩, ⟨rfl, .inr rfl⟩, ⟨rfl, .inr rfl⟩, trivial⟩⟩
  ·refine yW<|yl rfl (b false) (LOp.eqb (LOp.lss rfl rfl rfl) hc2)<|zN ?_
   refine yS<|yF<|RunC.exit ?_
   cases oI h4_
   have hx := ho4 _ rfl
   exact ⟨L4, hl5, ⟨aR, aR, trivial⟩, ⟨⟨rfl, .inr rfl⟩, ⟨rfl, .inr rfl⟩, ⟨rfl, .inr rfl⟩, trivial⟩, hx⟩
 ·rintro τ7 Γ7 ⟨L17, hl18, hw7, hd7, rfl⟩
  refine RunC.wl hw7 hd7 ?_
  replace h : i_made_2Fi_product_1_k3 r1 r2 L17 = some (q0, q1, q2) := h
  unfold i_made_2Fi_product_1_k3 at h
  refine zQ<|yd rfl (agg (oXc r1 r2 1 1 r3.length)) (TOp.loadAgg_o rfl agg33 siz33 rfl rfl rfl rfl)<|ys (agg (oXc r1 r2 1 1 r3.length)) (oXc r1 r2 1 1 r3.length) [⟨1, some (oXc r1 r2 1 1 r3.length)⟩, ⟨1, some (L17.map f32)⟩, ⟨1, some (oXc r1 r2 1 1 r3.length)⟩] siz33<|zN ?_
  refine RunC.ret ?_
  have hq := oI h
  obtain ⟨hq0, hq⟩ := Prod.mk.inj hq
  obtain ⟨hq1, hq⟩ := Prod.mk.inj hq
  subst q0
  subst q1
  subst q2
  exact yB (agg (oXc r1 r2 1 1 L17.length)) [(1, 1)] (Res.eq (Res.one rfl (RV.cell agg33 siz33 rfl rfl rfl rfl)) (by rw [(show L17.length = r3.length from hl18)] <;> rfl)) (SelL.arr0 (f := f32) (fun _ => rfl) rfl trivial)
def i_product (a0 : Int) (a1 : Int) (a2 : List F) (a3 : Int) (a4 : Int) (a5 : List F) : Option (Int × Int × (List F)) :=
 obind3 (i_made_2Fi_product_1 a0 a4 a0 a1 a2 a3 a4 a5) fun (r1 : Int) (r2 : Int) (r3 : List F) =>
 some (r1, r2, r3)
theorem i_product_ok (a0 : Int) (a1 : Int) (a2 : List F) (a3 : Int) (a4 : Int) (a5 : List F) (q0 : Int) (q1 : Int) (q2 : List F) (h : i_product a0 a1 a2 a3 a4 a5 = some (q0, q1, q2)) : Ev Try.prog 150 [agg (mXc a0 a1 a2), agg (mXc a3 a4 a5)] [] (agg (oXc q0 q1 0 0 q2.length)) [⟨0, some (q2.map f32)⟩] := by
 refine yE Try.func150 2 23 0 [(0, agg (mXc a0 a1 a2)), (1, agg (mXc a3 a4 a5))] [⟨0, none⟩, ⟨0, none⟩] rfl ?_
 unfold i_product at h
 refine zQ<|yd rfl (ptr (mXc a0 a1 a2)) (TOp.box_s rfl rfl rfl)<|yd rfl (ptr (mXc a3 a4 a5)) (TOp.box_s rfl rfl rfl)<|ye rfl (optr 0 1 0) [⟨1, some zMx⟩, ⟨0, none⟩] (TOp.alloc_o (g := ⟨0, none⟩) 0 rfl zer33 zok33 rfl)<|zN ?_
 refine yS ?_
 obtain ⟨r1, r2, r3, hf1, h⟩ := obind3_some h
 refine yW<|yl rfl (ptr (mXc a0 a1 a2)) (LOp.fap und33 rfl siz2 rfl rfl rfl)<|yl rfl (i64 a0) (y2 agg2)<|yl rfl (ptr [i64 a4, (sFc a5)]) (LOp.fap und33 rfl siz2 rfl rfl rfl)<|yl rfl (i64 a4) (y2 agg2)<|yl rfl (fn (.func 176) [] [ptr (mXc a0 a1 a2), ptr (mXc a3 a4 a5)]) (LOp.makeFunc rfl rfl)<|ye rfl (agg (oXc r1 r2 1 1 r3.length)) [⟨1, some zMx⟩, ⟨1, some (r3.map f32)⟩] (TOp.callBN (ls := [(r3.map f32)]) [1] (CallAs.func ent64 rfl rfl) (bP (bP (Bors.cons (Bor.fn bN (Bors.cons (Bor.ptr (bP (bP (bS bN)))) (Bors.cons (Bor.ptr (bP (bP (bS bN)))) bN))) bN))) rfl (i_made_2Fi_product_1_ok a0 a4 a0 a1 a2 a3 a4 a5 r1 r2 r3 hf1) (and_all (lts0_map (f := f32) (fun _ => rfl) _) rfl) (and_all (noss_map (f := f32) (fun _ => rfl) _) rfl) rfl (by decide) (ns_of ⟨⟨_, rfl⟩, trivial⟩))<|ys (agg (oXc r1 r2 1 1 r3.length)) (oXc r1 r2 1 1 r3.length) [⟨1, some (oXc r1 r2 1 1 r3.length)⟩, ⟨1, some (r3.map f32)⟩] siz33<|zN ?_
 refine RunC.ret ?_
 have hq := oI h
 obtain ⟨hq0, hq⟩ := Prod.mk.inj hq
 obtain ⟨hq1, hq⟩ := Prod.mk.inj hq
 subst q0
 subst q1
 subst q2
 exact yB (agg (oXc r1 r2 1 1 r3.length)) [(1, 1)] (Res.one rfl (RV.cell agg33 siz33 rfl rfl rfl rfl)) (SelL.arr0 (f := f32) (fun _ => rfl) rfl trivial)
def i_Matrix_valid_02o (a0 : Int) (a1 : Int) (a2 : List F) : Option ((Int × Int × Bool × (List F)) ⊕ (Int × Int × Bool × (List F) × (List F))) :=
 obind (i_ValidMatrix a0 a1 a2) fun (r1 : Bool) =>
 bsel r1 (
  some (Sum.inl (a0, a1, true, a2))) (
  some (Sum.inr (0, 0, false, a2, ([] : List F))))
theorem i_Matrix_valid_02o_ok0 (a0 : Int) (a1 : Int) (a2 : List F) (q0 : Int) (q1 : Int) (q2 : Bool) (q3 : List F) (h : i_Matrix_valid_02o a0 a1 a2 = some (Sum.inl (q0, q1, q2, q3))) : Ev Try.prog 107 [agg (oXc a0 a1 0 0 a2.length)] [⟨0, some (a2.map f32)⟩] (tup [agg (oXc q0 q1 0 0 q3.length), b q2]) [⟨0, some (q3.map f32)⟩] := by
 refine Ev.start Try.func107 rfl rfl 2 (τ := [(0, agg (oXc a0 a1 0 0 a2.length))]) rfl (Γ' := [⟨0, some (a2.map f32)⟩, ⟨0, none⟩, ⟨0, none⟩]) rfl (n := 18) rfl (g := 1) rfl (by decide) ?_
 unfold i_Matrix_valid_02o at h
 refine zQ<|yd rfl (ptr (oXc a0 a1 0 0 a2.length)) (TOp.box_s rfl rfl rfl)<|ye rfl (optr 1 1 0) [⟨0, some (a2.map f32)⟩, ⟨1, some zMx⟩, ⟨0, none⟩] (TOp.alloc_o (g := ⟨0, none⟩) 1 rfl zer33 zok33 rfl)<|ya rfl (b false)<|zN ?_
 refine yS<|yS ?_
 obtain ⟨r1, hf1, h⟩ := oS h
 rcases oB h with ⟨hc2, h⟩ | ⟨hc2, h⟩
 ·refine yW<|yl rfl (agg (oXc a0 a1 0 0 a2.length)) (yL agg33 siz33)<|yd rfl (b true) (TOp.eqb (TOp.callB (CallAs.func ent102 rfl rfl) (Bors.cons (Bor.agg (bP (bP (Bors.cons (Bor.own (f := f32) (fun _ => rfl) rfl rfl) bN)))) bN) rfl rfl (i_ValidMatrix_ok a0 a1 a2 r1 hf1)) hc2)<|yl rfl (b false) y1<|zN ?_
  refine yF<|RunC.skip<|zQ<|yl rfl (agg (oXc a0 a1 0 0 a2.length)) (yL agg33 siz33)<|ys (agg (oXc a0 a1 0 0 a2.length)) (oXc a0 a1 0 0 a2.length) [⟨0, some (a2.map f32)⟩, ⟨1, some (oXc a0 a1 0 0 a2.length)⟩, ⟨0, none⟩] siz33<|ya rfl (b true)<|zN ?_
  refine RunC.ret ?_
  have hq := oI h
  have hq := Sum.inl.inj hq
  obtain ⟨hq0, hq⟩ := Prod.mk.inj hq
  obtain ⟨hq1, hq⟩ := Prod.mk.inj hq
  obtain ⟨hq2, hq⟩ := Prod.mk.inj hq
  subst q0
  subst q1
  subst q2
  subst q3
  exact yB (tup [agg (oXc a0 a1 0 0 a2.length), b true]) [(0, 0)] (Res.two rfl (RV.cell agg33 siz33 rfl rfl rfl rfl) (RV.tmp rfl)) (SelL.arr (f := f32) (fun _ => rfl) rfl trivial)
 ·refine yW<|yl rfl (agg (oXc a0 a1 0 0 a2.length)) (yL agg33 siz33)<|yd rfl (b false) (TOp.eqb (TOp.callB (CallAs.func ent102 rfl rfl) (Bors.cons (Bor.agg (bP (bP (Bors.cons (Bor.own (f := f32) (fun _ => rfl) rfl rfl) bN)))) bN) rfl rfl (i_ValidMatrix_ok a0 a1 a2 r1 hf1)) hc2)<|yl rfl (b true) y0<|zN ?_
  refine yT<|zQ<|yl rfl (agg zMx) (LOp.build (qs := []) zer33 zok33 und33 plc33 rfl trivial rfl)<|ys (agg zMx) zMx [⟨0, some (a2.map f32)⟩, ⟨1, some zMx⟩, ⟨0, none⟩] siz33<|ya rfl (b false)<|zN ?_
  cases oI h
theorem i_Matrix_valid_02o_ok1 (a0 : Int) (a1 : Int) (a2 : List F) (q0 : Int) (q1 : Int) (q2 : Bool) (q3 : List F) (q4 : List F) (h : i_Matrix_valid_02o a0 a1 a2 = some (Sum.inr (q0, q1, q2, q3, q4))) : Ev Try.prog 107 [agg (oXc a0 a1 0 0 a2.length)] [⟨0, some (a2.map f32)⟩] (tup [agg (oXc q0 q1 1 0 q4.length), b q2]) [⟨0, some (q3.map f32)⟩, ⟨0, some (q4.map f32)⟩] := by
 refine Ev.start Try.func107 rfl rfl 2 (τ := [(0, agg (oXc a0 a1 0 0 a2.length))]) rfl (Γ' := [⟨0, some (a2.map f32)⟩, ⟨0, none⟩, ⟨0, none⟩]) rfl (n := 18) rfl (g := 1) rfl (by decide) ?_
 unfold i_Matrix_valid_02o at h
 refine zQ<|yd rfl (ptr (oXc a0 a1 0 0 a2.length)) (TOp.box_s rfl rfl rfl)<|ye rfl (optr 1 1 0) [⟨0, some (a2.map f32)⟩, ⟨1, some zMx⟩, ⟨0, none⟩] (TOp.alloc_o (g := ⟨0, none⟩) 1 rfl zer33 zok33 rfl)<|ya rfl (b false)<|zN ?_
 refine yS<|yS ?_
 obtain ⟨r1, hf1, h⟩ := oS h
 rcases oB h with ⟨hc2, h⟩ | ⟨hc2, h⟩
 ·refine yW<|yl rfl (agg (oXc a0 a1 0 0 a2.length)) (yL agg33 siz33)<|yd rfl (b true) (TOp.eqb (TOp.callB (CallAs.func ent102 rfl rfl) (Bors.cons (Bor.agg (bP (bP (Bors.cons (Bor.own (f := f32) (fun _ => rfl) rfl rfl) bN)))) bN) rfl rfl (i_ValidMatrix_ok a0 a1 a2 r1 hf1)) hc2)<|yl rfl (b false) y1<|zN ?_
  refine yF<|RunC.skip<|zQ<|yl rfl (agg (oXc a0 a1 0 0 a2.length)) (yL agg33 siz33)<|ys (agg (oXc a0 a1 0 0 a2.length)) (oXc a0 a1 0 0 a2.length) [⟨0, some (a2.map f32)⟩, ⟨1, some (oXc a0 a1 0 0 a2.length)⟩, ⟨0, none⟩] siz33<|ya rfl (b true)<|zN ?_
  cases oI h
 ·refine yW<|yl rfl (agg (oXc a0 a1 0 0 a2.length)) (yL agg33 siz33)<|yd rfl (b false) (TOp.eqb (TOp.callB (CallAs.func ent102 rfl rfl) (Bors.cons (Bor.agg (bP (bP (Bors.cons (Bor.own (f := f32) (fun _ => rfl) rfl rfl) bN)))) bN) rfl rfl (i_ValidMatrix_ok a0 a1 a2 r1 hf1)) hc2)<|yl rfl (b true) y0<|zN ?_
  refine yT<|zQ<|yl rfl (agg zMx) (LOp.build (qs := []) zer33 zok33 und33 plc33 rfl trivial rfl)<|ys (agg zMx) zMx [⟨0, some (a2.map f32)⟩, ⟨1, some zMx⟩, ⟨0, none⟩] siz33<|ya rfl (b false)<|zN ?_
  refine RunC.nil_cell (l' := [i64 0, i64 0, oref 2 1 0 0]) (Γ' := [⟨0, some (a2.map f32)⟩, ⟨1, some [i64 0, i64 0, oref 2 1 0 0]⟩, ⟨1, some (([] : List F).map f32)⟩]) 1 2 2 rfl rfl rfl rfl rfl<|RunC.ret ?_
  have hq := oI h
  have hq := Sum.inr.inj hq
  obtain ⟨hq0, hq⟩ := Prod.mk.inj hq
  obtain ⟨hq1, hq⟩ := Prod.mk.inj hq
  obtain ⟨hq2, hq⟩ := Prod.mk.inj hq
  obtain ⟨hq3, hq⟩ := Prod.mk.inj hq
  subst q0
  subst q1
  subst q2
  subst q3
  subst q4
  exact yB (tup [agg [i64 0, i64 0, oref 2 1 0 (([] : List F).length)], b false]) [(0, 0), (2, 1)] (Res.eq (Res.two rfl (RV.cell agg33 siz33 rfl rfl rfl rfl) (RV.tmp rfl)) (by rw [(show ([] : List F).length = 0 from rfl)] <;> rfl)) (SelL.arr (f := f32) (fun _ => rfl) rfl (SelL.arr0 (f := f32) (fun _ => rfl) rfl trivial))
def i_MulMatrices (a0 : Int) (a1 : Int) (a2 : List F) (a3 : Int) (a4 : Int) (a5 : List F) : Option (Int × Int × Bool × (List F)) :=
 obind (i_areFactors a0 a1 a2 a3 a4 a5) fun (r1 : Bool) =>
 bsel r1 (
  obind3 (i_product a0 a1 a2 a3 a4 a5) fun (r2 : Int) (r3 : Int) (r4 : List F) =>
  obind (i_Matrix_valid_02o r2 r3 r4) (fun z => osum z (fun y => obind4 (some y) fun (r5 : Int) (r6 : Int) (r7 : Bool) (r8 : List F) =>
   need (decide (r8.length = r4.length)) <|
   some (r5, r6, r7, r8)) (fun y => obind5 (some y) fun (r9 : Int) (r10 : Int) (r11 : Bool) (r12 : List F) (r13 : List F) =>
   need (decide (r12.length = r4.length)) <|
   some (r9, r10, r11, r13)))) (
  some (0, 0, false, ([] : List F)))
theorem i_MulMatrices_ok (a0 : Int) (a1 : Int) (a2 : List F) (a3 : Int) (a4 : Int) (a5 : List F) (q0 : Int) (q1 : Int) (q2 : Bool) (q3 : List F) (h : i_MulMatrices a0 a1 a2 a3 a4 a5 = some (q0, q1, q2, q3)) : Ev Try.prog 95 [agg (mXc a0 a1 a2), agg (mXc a3 a4 a5)] [] (tup [agg (oXc q0 q1 0 0 q3.length), b q2]) [⟨0, some (q3.map f32)⟩] := by
 refine yE Try.func95 3 35 0 [(0, agg (mXc a0 a1 a2)), (1, agg (mXc a3 a4 a5))] [⟨0, none⟩, ⟨0, none⟩, ⟨0, none⟩] rfl ?_
 unfold i_MulMatrices at h
 refine zQ<|yd rfl (ptr (mXc a0 a1 a2)) (TOp.box_s rfl rfl rfl)<|yd rfl (ptr (mXc a3 a4 a5)) (TOp.box_s rfl rfl rfl)<|ye rfl (optr 0 1 0) [⟨1, some zMx⟩, ⟨0, none⟩, ⟨0, none⟩] (TOp.alloc_o (g := ⟨0, none⟩) 0 rfl zer33 zok33 rfl)<|ya rfl (b false)<|zN ?_
 refine yS<|yS ?_
 obtain ⟨r1, hf1, h⟩ := oS h
 rcases oB h with ⟨hc2, h⟩ | ⟨hc2, h⟩
 ·refine yW<|yl rfl (agg (mXc a0 a1 a2)) (yL agg33 siz33)<|yl rfl (agg (mXc a3 a4 a5)) (yL agg33 siz33)<|yd rfl (b true) (TOp.eqb (TOp.callB (CallAs.func ent149 rfl rfl) (Bors.cons (Bor.agg (bP (bP (bS bN)))) (Bors.cons (Bor.agg (bP (bP (bS bN)))) bN)) rfl rfl (i_areFactors_ok a0 a1 a2 a3 a4 a5 r1 hf1)) hc2)<|yl rfl (b false) y1<|zN ?_
  refine yF<|RunC.skip<|yS ?_
  obtain ⟨r2, r3, r4, hf3, h⟩ := obind3_some h
  obtain ⟨z1, hf4, h⟩ := oS h
  rcases z1 with z1 | z1
  ·replace h := (osum_inl _ _ _).symm.trans h
   obtain ⟨r5, r6, r7, r8, hz2, h⟩ := obind4_some h
   cases hz2
   obtain ⟨hn5, h⟩ := need_some h
   refine yW<|yl rfl (agg (mXc a0 a1 a2)) (yL agg33 siz33)<|yl rfl (agg (mXc a3 a4 a5)) (yL agg33 siz33)<|ye rfl (agg (oXc r2 r3 1 1 r4.length)) [⟨1, some zMx⟩, ⟨1, some (r4.map f32)⟩, ⟨0, none⟩] (TOp.callBN (ls := [(r4.map f32)]) [1] (CallAs.func ent150 rfl rfl) (Bors.cons (Bor.agg (bP (bP (bS bN)))) (Bors.cons (Bor.agg (bP (bP (bS bN)))) bN)) rfl (i_product_ok a0 a1 a2 a3 a4 a5 r2 r3 r4 hf3) (and_all (lts0_map (f := f32) (fun _ => rfl) _) rfl) (and_all (noss_map (f := f32) (fun _ => rfl) _) rfl) rfl (by decide) (ns_of ⟨⟨_, rfl⟩, trivial⟩))<|ROps.callO (A := [agg (oXc r2 r3 1 1 r4.length)]) (args := [agg (oXc r2 r3 0 0 r4.length)]) (Γc := [⟨0, some (r4.map f32)⟩]) (Γc' := [⟨0, some (r8.map f32)⟩]) (r' := tup [agg (oXc r5 r6 1 1 r4.length), b r7]) (Γ' := [⟨1, some zMx⟩, ⟨1, some (r8.map f32)⟩, ⟨0, none⟩]) [(1, 1)] [] rfl (CallAs.func ent107 rfl rfl) rfl rfl (SelOk.of (ndB_ok rfl) (SelL.arr0 (f := f32) (fun _ => rfl) rfl trivial)) (live_of ⟨⟨_, _, rfl⟩, trivial⟩) (by simp [ren, rens, sigma, rens_f32, rens_f64, rens_i64, rens_ik, rens_str, rens_cp]) rfl (i_Matrix_valid_02o_ok0 r2 r3 r4 r5 r6 r7 r8 hf4) rfl (news_of trivial) (ndB_ok rfl) (by simp [ren, rens, sigma, of_decide_eq_true hn5]) (by simp [backOb, sigma, ren, rens, rens_f32, rens_f64, rens_i64, rens_ik, rens_str, rens_cp])<|yl rfl (agg (oXc r5 r6 1 1 r4.length)) y3<|yl rfl (b r7) y3<|ys (agg (oXc r5 r6 1 1 r4.length)) (oXc r5 r6 1 1 r4.length) [⟨1, some (oXc r5 r6 1 1 r4.length)⟩, ⟨1, some (r8.map f32)⟩, ⟨0, none⟩] siz33<|ya rfl (b r7)<|zN ?_
   refine RunC.ret ?_
   have hq := oI h
   obtain ⟨hq0, hq⟩ := Prod.mk.inj hq
   obtain ⟨hq1, hq⟩ := Prod.mk.inj hq
   obtain ⟨hq2, hq⟩ := Prod.mk.inj hq
   subst q0
   subst q1
   subst q2
   subst q3
   exact yB (tup [agg (oXc r5 r6 1 1 r8.length), b r7]) [(1, 1)] (Res.eq (Res.two rfl (RV.cell agg33 siz33 rfl rfl rfl rfl) (RV.tmp rfl)) (by rw [(show r8.length = r4.length from (of_decide_eq_true hn5))] <;> rfl)) (SelL.arr0 (f := f32) (fun _ => rfl) rfl trivial)
  ·replace h := (osum_inr _ _ _).symm.trans h
   obtain ⟨r9, r10, r11, r12, r13, hz3, h⟩ := obind5_some h
   cases hz3
   obtain ⟨hn6, h⟩ := need_some h
   refine yW<|yl rfl (agg (mXc a0 a1 a2)) (yL agg33 siz33)<|yl rfl (agg (mXc a3 a4 a5)) (yL agg33 siz33)<|ye rfl (agg (oXc r2 r3 1 1 r4.length)) [⟨1, some zMx⟩, ⟨1, some (r4.map f32)⟩, ⟨0, none⟩] (TOp.callBN (ls := [(r4.map f32)]) [1] (CallAs.func ent150 rfl rfl) (Bors.cons (Bor.agg (bP (bP (bS bN)))) (Bors.cons (Bor.agg (bP (bP (bS bN)))) bN)) rfl (i_product_ok a0 a1 a2 a3 a4 a5 r2 r3 r4 hf3) (and_all (lts0_map (f := f32) (fun _ => rfl) _) rfl) (and_all (noss_map (f := f32) (fun _ => rfl) _) rfl) rfl (by decide) (ns_of ⟨⟨_, rfl⟩, trivial⟩))<|ROps.callO (A := [agg (oXc r2 r3 1 1 r4.length)]) (args := [agg (oXc r2 r3 0 0 r4.length)]) (Γc := [⟨0, some (r4.map f32)⟩]) (Γc' := [⟨0, some (r12.map f32)⟩, ⟨0, some (r13.map f32)⟩]) (r' := tup [agg (oXc r9 r10 2 1 r13.length), b r11]) (Γ' := [⟨1, some zMx⟩, ⟨1, some (r12.map f32)⟩, ⟨1, some (r13.map f32)⟩]) [(1, 1)] [(2, 1)] rfl (CallAs.func ent107 rfl rfl) rfl rfl (SelOk.of (ndB_ok rfl) (SelL.arr0 (f := f32) (fun _ => rfl) rfl trivial)) (live_of ⟨⟨_, _, rfl⟩, trivial⟩) (by simp [ren, rens, sigma, rens_f32, rens_f64, rens_i64, rens_ik, rens_str, rens_cp]) rfl (i_Matrix_valid_02o_ok1 r2 r3 r4 r9 r10 r11 r12 r13 hf4) rfl (news_of ⟨⟨_, rfl, rfl⟩, trivial⟩) (show List.Nodup [1, 2] from by decide) (by simp [ren, rens, sigma, of_decide_eq_true hn6]) (by simp [backOb, sigma, ren, rens, rens_f32, rens_f64, rens_i64, rens_ik, rens_str, rens_cp])<|yl rfl (agg (oXc r9 r10 2 1 r13.length)) y3<|yl rfl (b r11) y3<|ys (agg (oXc r9 r10 2 1 r13.length)) (oXc r9 r10 2 1 r13.length) [⟨1, some (oXc r9 r10 2 1 r13.length)⟩, ⟨1, some (r12.map f32)⟩, ⟨1, some (r13.map f32)⟩] siz33<|ya rfl (b r11)<|zN ?_
   refine RunC.ret ?_
   have hq := oI h
   obtain ⟨hq0, hq⟩ := Prod.mk.inj hq
   obtain ⟨hq1, hq⟩ := Prod.mk.inj hq
   obtain ⟨hq2, hq⟩ := Prod.mk.inj hq
   subst q0
   subst q1
   subst q2
   subst q3
   exact yB (tup [agg (oXc r9 r10 2 1 r13.length), b r11]) [(2, 1)] (Res.two rfl (RV.cell agg33 siz33 rfl rfl rfl rfl) (RV.tmp rfl)) (SelL.arr0 (f := f32) (fun _ => rfl) rfl trivial)
 ·refine yW<|yl rfl (agg (mXc a0 a1 a2)) (yL agg33 siz33)<|yl rfl (agg (mXc a3 a4 a5)) (yL agg33 siz33)<|yd rfl (b false) (TOp.eqb (TOp.callB (CallAs.func ent149 rfl rfl) (Bors.cons (Bor.agg (bP (bP (bS bN)))) (Bors.cons (Bor.agg (bP (bP (bS bN)))) bN)) rfl rfl (i_areFactors_ok a0 a1 a2 a3 a4 a5 r1 hf1)) hc2)<|yl rfl (b true) y0<|zN ?_
  refine yT<|zQ<|yl rfl (agg zMx) (LOp.build (qs := []) zer33 zok33 und33 plc33 rfl trivial rfl)<|ys (agg zMx) zMx [⟨1, some zMx⟩, ⟨0, none⟩, ⟨0, none⟩] siz33<|ya rfl (b false)<|zN ?_
  refine RunC.nil_cell (l' := [i64 0, i64 0, oref 1 1 0 0]) (Γ' := [⟨1, some [i64 0, i64 0, oref 1 1 0 0]⟩, ⟨1, some (([] : List F).map f32)⟩, ⟨0, none⟩]) 0 2 1 rfl rfl rfl rfl rfl<|RunC.ret ?_
  have hq := oI h
  obtain ⟨hq0, hq⟩ := Prod.mk.inj hq
  obtain ⟨hq1, hq⟩ := Prod.mk.inj hq
  obtain ⟨hq2, hq⟩ := Prod.mk.inj hq
  subst q0
  subst q1
  subst q2
  subst q3
  exact yB (tup [agg [i64 0, i64 0, oref 1 1 0 (([] : List F).length)], b false]) [(1, 1)] (Res.eq (Res.two rfl (RV.cell agg33 siz33 rfl rfl rfl rfl) (RV.tmp rfl)) (by rw [(show ([] : List F).length = 0 from rfl)] <;> rfl)) (SelL.arr0 (f := f32) (fun _ => rfl) rfl trivial)
def i_Matrix_trace_b1 (a0 : Int) (a1 : Int) (a2 : List F) (y1 : F) (v2 : Int) : Option (LR (F × Int) (F) (F)) :=
 bsel (decide (v2 < a0)) (
  obind (i_Matrix_at a0 a1 a2 v2 v2) fun (r3 : F) =>
  olet (fop .add .f32 y1 r3) fun (x4 : F) =>
  olet (IntKind.i64.wrap (v2 + 1)) fun (x5 : Int) =>
  some (LR.next (x4, x5))) (
  some (LR.out y1))
def i_Matrix_trace_s1 (a0 : Int) (a1 : Int) (a2 : List F) : (F × Int) → Option (LR (F × Int) (F) (F)) := fun s => i_Matrix_trace_b1 a0 a1 a2 s.1 s.2
def i_Matrix_trace_k1 (y6 : F) : Option (F) :=
 some y6
def i_Matrix_trace (a0 : Int) (a1 : Int) (a2 : List F) : Option (F) :=
 obind (loopM (i_Matrix_trace_s1 a0 a1 a2) (some 0, 0)) fun z => osum z (fun e => i_Matrix_trace_k1 e) (fun r => some r)
theorem i_Matrix_trace_ok (a0 : Int) (a1 : Int) (a2 : List F) (q0 : F) (h : i_Matrix_trace a0 a1 a2 = some q0) : Ev Try.prog 152 [agg (mXc a0 a1 a2)] [] (f32 q0) [] := by
 refine yE Try.func152 0 37 0 [(0, agg (mXc a0 a1 a2))] [] rfl ?_
 unfold i_Matrix_trace at h
 refine zQ<|yd rfl (ptr (mXc a0 a1 a2)) (TOp.box_s rfl rfl rfl)<|yl rfl (f32 (some 0)) (LOp.le (LOp.assign rfl rfl) (ALe.fl (by kernel_rfl) (by kernel_rfl)))<|zN ?_
 refine zQ<|yl rfl (f32 (some 0)) (LOp.le (LOp.assign rfl rfl) (ALe.fl (by kernel_rfl) (by kernel_rfl)))<|zN ?_
 refine yS<|zQ<|yl rfl (ptr (mXc a0 a1 a2)) (LOp.fap und33 rfl siz2 rfl rfl rfl)<|yl rfl (i64 a0) (y2 agg2)<|ym rfl (i64 0)<|zN ?_
 obtain ⟨z2, hz_2, h⟩ := oS h
 refine RunC.cutN (fun τ Γ => ∃ (y6 : F), WeakLe τ [(3, f32 y6)] ∧ DeadLe Γ [] ∧ z2 = .inl y6) ?_ ?_
 ·refine RunC.block (RunC.loop (RunL.loopM (x := z2) (i_Matrix_trace_s1 a0 a1 a2) (fun (s : F × Int) τ Γ => WeakLe τ [(1, ptr (mXc a0 a1 a2)), (3, f32 s.1), (6, i64 a0), (7, i64 s.2)] ∧ DeadLe Γ []) ?_ _ _ _ hz_2 ⟨⟨aR, aR, aR, aR, trivial⟩, trivial⟩))
  rintro ⟨y1, v2⟩ τ2 Γ2 y2_ ⟨hw2, hd2⟩ h2_ ho2 hr2
  refine RunC.wl (τ' := [(1, ptr (mXc a0 a1 a2)), (3, f32 y1), (6, i64 a0), (7, i64 v2)]) (Γ' := []) hw2 hd2 ?_
  replace h2_ : i_Matrix_trace_b1 a0 a1 a2 y1 v2 = some y2_ := h2_
  unfold i_Matrix_trace_b1 at h2_
  refine yS ?_
  rcases oB h2_ with ⟨hc1, h2_⟩ | ⟨hc1, h2_⟩
  ·refine yW<|yl rfl (b true) (LOp.eqb (LOp.lss rfl rfl rfl) hc1)<|zN ?_
   refine yS<|yT<|RunC.skip<|yS<|RunC.block<|zQ<|ym rfl (i64 v2)<|ya rfl (i64 v2)<|zN ?_
   obtain ⟨r3, hf2, h2_⟩ := oS h2_
   obtain ⟨x4, hx3, h2_⟩ := oL h2_
   refine yW<|ym rfl (f32 y1)<|yl rfl (agg (mXc a0 a1 a2)) (yL agg33 siz33)<|ym rfl (i64 v2)<|ym rfl (i64 v2)<|yd rfl (f32 r3) (TOp.callB (CallAs.func ent94 rfl rfl) (Bors.cons (Bor.agg (bP (bP (bS bN)))) (bP bN0)) rfl rfl (i_Matrix_at_ok a0 a1 a2 v2 v2 r3 hf2))<|yd rfl (f32 x4) (TOp.eqr (TOp.fop (.inl rfl) rfl (OpF.tmp rfl) (OpF.tmp rfl)) (congrArg (f .f32) hx3))<|ya rfl (f32 x4)<|zN ?_
   obtain ⟨x5, hx4, h2_⟩ := oL h2_
   refine yW<|yl rfl (i64 x5) (LOp.eqr (LOp.add rfl rfl rfl) (congrArg (ik .i64) hx4))<|ym rfl (i64 x5)<|zN ?_
   cases oI h2_
   exact ⟨_, rfl, ⟨aR, aR, aR, aR, trivial⟩, trivial⟩
  ·refine yW<|yl rfl (b false) (LOp.eqb (LOp.lss rfl rfl rfl) hc1)<|zN ?_
   refine yS<|yF<|RunC.exit ?_
   cases oI h2_
   have hx := ho2 _ rfl
   exact ⟨y1, ⟨aR, trivial⟩, trivial, hx⟩
 ·rintro τ3 Γ3 ⟨y6, hw3, hd3, rfl⟩
  refine RunC.wl hw3 hd3 ?_
  replace h : i_Matrix_trace_k1 y6 = some q0 := h
  unfold i_Matrix_trace_k1 at h
  refine zQ<|ym rfl (f32 y6)<|ya rfl (f32 y6)<|zN ?_
  refine RunC.ret ?_
  have hq := oI h
  subst q0
  exact bodyQ.pure (.inr rfl) rfl (Res.one rfl (RV.tmp rfl))
def i_finite (a0 : F) : Option (F × Bool) :=
 obind (i_IsFinite a0) fun (r1 : Bool) =>
 bsel r1 (
  some (a0, true)) (
  some (some 0, false))
theorem i_finite_ok (a0 : F) (q0 : F) (q1 : Bool) (h : i_finite a0 = some (q0, q1)) : Ev Try.prog 151 [f32 a0] [] (tup [f32 q0, b q1]) [] := by
 refine yE Try.func151 0 17 0 [(0, f32 a0)] [] rfl ?_
 unfold i_finite at h
 refine zQ<|yl rfl (f32 (some 0)) (LOp.le (LOp.assign rfl rfl) (ALe.fl (by kernel_rfl) (by kernel_rfl)))<|ya rfl (b false)<|zN ?_
 refine yS<|yS ?_
 obtain ⟨r1, hf1, h⟩ := oS h
 rcases oB h with ⟨hc2, h⟩ | ⟨hc2, h⟩
 ·refine yW<|ym rfl (f32 a0)<|yd rfl (b true) (TOp.eqb (yc ent80 rfl rfl bN0 (i_IsFinite_ok a0 r1 hf1)) hc2)<|yl rfl (b false) y1<|zN ?_
  refine yF<|RunC.skip<|zQ<|ym rfl (f32 a0)<|ya rfl (f32 a0)<|ya rfl (b true)<|zN ?_
  refine RunC.ret ?_
  have hq := oI h
  obtain ⟨hq0, hq⟩ := Prod.mk.inj hq
  subst q0
  subst q1
  exact bodyQ.pure (.inr rfl) rfl (Res.two rfl (RV.tmp rfl) (RV.tmp rfl))
 ·refine yW<|ym rfl (f32 a0)<|yd rfl (b false) (TOp.eqb (yc ent80 rfl rfl bN0 (i_IsFinite_ok a0 r1 hf1)) hc2)<|yl rfl (b true) y0<|zN ?_
  refine yT<|zQ<|yl rfl (f32 (some 0)) (LOp.le (LOp.assign rfl rfl) (ALe.fl (by kernel_rfl) (by kernel_rfl)))<|ya rfl (b false)<|zN ?_
  refine RunC.ret ?_
  have hq := oI h
  obtain ⟨hq0, hq⟩ := Prod.mk.inj hq
  subst q0
  subst q1
  exact bodyQ.pure (.inr rfl) rfl (Res.two rfl (RV.tmp rfl) (RV.tmp rfl))
def i_TraceOf (a0 : Int) (a1 : Int) (a2 : List F) : Option (F × Bool) :=
 obind (i_isSquare a0 a1 a2) fun (r1 : Bool) =>
 bsel r1 (
  obind (i_Matrix_trace a0 a1 a2) fun (r2 : F) =>
  obind2 (i_finite r2) fun (r3 : F) (r4 : Bool) =>
  some (r3, r4)) (
  some (some 0, false))
theorem i_TraceOf_ok (a0 : Int) (a1 : Int) (a2 : List F) (q0 : F) (q1 : Bool) (h : i_TraceOf a0 a1 a2 = some (q0, q1)) : Ev Try.prog 96 [agg (mXc a0 a1 a2)] [] (tup [f32 q0, b q1]) [] := by
 refine yE Try.func96 0 25 0 [(0, agg (mXc a0 a1 a2))] [] rfl ?_
 unfold i_TraceOf at h
 refine zQ<|yd rfl (ptr (mXc a0 a1 a2)) (TOp.box_s rfl rfl rfl)<|yl rfl (f32 (some 0)) (LOp.le (LOp.assign rfl rfl) (ALe.fl (by kernel_rfl) (by kernel_rfl)))<|ya rfl (b false)<|zN ?_
 refine yS<|yS ?_
 obtain ⟨r1, hf1, h⟩ := oS h
 rcases oB h with ⟨hc2, h⟩ | ⟨hc2, h⟩
 ·refine yW<|yl rfl (agg (mXc a0 a1 a2)) (yL agg33 siz33)<|yd rfl (b true) (TOp.eqb (TOp.callB (CallAs.func ent91 rfl rfl) (Bors.cons (Bor.agg (bP (bP (bS bN)))) bN) rfl rfl (i_isSquare_ok a0 a1 a2 r1 hf1)) hc2)<|yl rfl (b false) y1<|zN ?_
  refine yF<|RunC.skip<|yS ?_
  obtain ⟨r2, hf3, h⟩ := oS h
  obtain ⟨r3, r4, hf4, h⟩ := obind2_some h
  refine yW<|yl rfl (agg (mXc a0 a1 a2)) (yL agg33 siz33)<|yd rfl (f32 r2) (TOp.callB (CallAs.func ent152 rfl rfl) (Bors.cons (Bor.agg (bP (bP (bS bN)))) bN) rfl rfl (i_Matrix_trace_ok a0 a1 a2 r2 hf3))<|yd rfl (tup [f32 r3, b r4]) (yc ent151 rfl rfl bN0 (i_finite_ok r2 r3 r4 hf4))<|yl rfl (f32 r3) y3<|yl rfl (b r4) y3<|ya rfl (f32 r3)<|ya rfl (b r4)<|zN ?_
  refine RunC.ret ?_
  have hq := oI h
  obtain ⟨hq0, hq⟩ := Prod.mk.inj hq
  subst q0
  subst q1
  exact bodyQ.pure (.inr rfl) rfl (Res.two rfl (RV.tmp rfl) (RV.tmp rfl))
 ·refine yW<|yl rfl (agg (mXc a0 a1 a2)) (yL agg33 siz33)<|yd rfl (b false) (TOp.eqb (TOp.callB (CallAs.func ent91 rfl rfl) (Bors.cons (Bor.agg (bP (bP (bS bN)))) bN) rfl rfl (i_isSquare_ok a0 a1 a2 r1 hf1)) hc2)<|yl rfl (b true) y0<|zN ?_
  refine yT<|zQ<|yl rfl (f32 (some 0)) (LOp.le (LOp.assign rfl rfl) (ALe.fl (by kernel_rfl) (by kernel_rfl)))<|ya rfl (b false)<|zN ?_
  refine RunC.ret ?_
  have hq := oI h
  obtain ⟨hq0, hq⟩ := Prod.mk.inj hq
  subst q0
  subst q1
  exact bodyQ.pure (.inr rfl) rfl (Res.two rfl (RV.tmp rfl) (RV.tmp rfl))
def i_allFinite_0o (a0 : List F) : Option ((Bool × (List F)) ⊕ (Bool × (List F) × (List F))) :=
 obind (i_areFinite a0) fun (r1 : Bool) =>
 bsel r1 (
  some (Sum.inl (true, a0))) (
  some (Sum.inr (false, a0, ([] : List F))))
theorem i_allFinite_0o_ok0 (a0 : List F) (q0 : Bool) (q1 : List F) (h : i_allFinite_0o a0 = some (Sum.inl (q0, q1))) : Ev Try.prog 77 [oref 0 0 0 a0.length] [⟨0, some (a0.map f32)⟩] (tup [oref 0 0 0 q1.length, b q0]) [⟨0, some (q1.map f32)⟩] := by
 refine Ev.start Try.func77 rfl rfl 1 (τ := [(0, oref 0 0 0 a0.length)]) rfl (Γ' := [⟨0, some (a0.map f32)⟩, ⟨0, none⟩]) rfl (n := 16) rfl (g := 1) rfl (by decide) ?_
 unfold i_allFinite_0o at h
 refine zQ<|ya rfl nilsl<|ya rfl (b false)<|zN ?_
 refine yS<|yS ?_
 obtain ⟨r1, hf1, h⟩ := oS h
 rcases oB h with ⟨hc2, h⟩ | ⟨hc2, h⟩
 ·refine yW<|ym rfl (oref 0 0 0 a0.length)<|yd rfl (b true) (TOp.eqb (yc ent74 rfl rfl (Bors.cons (Bor.own (f := f32) (fun _ => rfl) rfl rfl) bN) (i_areFinite_ok a0 r1 hf1)) hc2)<|yl rfl (b false) y1<|zN ?_
  refine yF<|RunC.skip<|zQ<|ym rfl (oref 0 0 0 a0.length)<|ya rfl (oref 0 0 0 a0.length)<|ya rfl (b true)<|zN ?_
  refine RunC.ret ?_
  have hq := oI h
  have hq := Sum.inl.inj hq
  obtain ⟨hq0, hq⟩ := Prod.mk.inj hq
  subst q0
  subst q1
  exact yB (tup [oref 0 0 0 a0.length, b true]) [(0, 0)] (Res.two rfl (RV.tmp rfl) (RV.tmp rfl)) (SelL.arr (f := f32) (fun _ => rfl) rfl trivial)
 ·refine yW<|ym rfl (oref 0 0 0 a0.length)<|yd rfl (b false) (TOp.eqb (yc ent74 rfl rfl (Bors.cons (Bor.own (f := f32) (fun _ => rfl) rfl rfl) bN) (i_areFinite_ok a0 r1 hf1)) hc2)<|yl rfl (b true) y0<|zN ?_
  refine yT<|zQ<|ya rfl nilsl<|ya rfl (b false)<|zN ?_
  cases oI h
theorem i_allFinite_0o_ok1 (a0 : List F) (q0 : Bool) (q1 : List F) (q2 : List F) (h : i_allFinite_0o a0 = some (Sum.inr (q0, q1, q2))) : Ev Try.prog 77 [oref 0 0 0 a0.length] [⟨0, some (a0.map f32)⟩] (tup [oref 1 0 0 q2.length, b q0]) [⟨0, some (q1.map f32)⟩, ⟨0, some (q2.map f32)⟩] := by
 refine Ev.start Try.func77 rfl rfl 1 (τ := [(0, oref 0 0 0 a0.length)]) rfl (Γ' := [⟨0, some (a0.map f32)⟩, ⟨0, none⟩]) rfl (n := 16) rfl (g := 1) rfl (by decide) ?_
 unfold i_allFinite_0o at h
 refine zQ<|ya rfl nilsl<|ya rfl (b false)<|zN ?_
 refine yS<|yS ?_
 obtain ⟨r1, hf1, h⟩ := oS h
 rcases oB h with ⟨hc2, h⟩ | ⟨hc2, h⟩
 ·refine yW<|ym rfl (oref 0 0 0 a0.length)<|yd rfl (b true) (TOp.eqb (yc ent74 rfl rfl (Bors.cons (Bor.own (f := f32) (fun _ => rfl) rfl rfl) bN) (i_areFinite_ok a0 r1 hf1)) hc2)<|yl rfl (b false) y1<|zN ?_
  refine yF<|RunC.skip<|zQ<|ym rfl (oref 0 0 0 a0.length)<|ya rfl (oref 0 0 0 a0.length)<|ya rfl (b true)<|zN ?_
  cases oI h
 ·refine yW<|ym rfl (oref 0 0 0 a0.length)<|yd rfl (b false) (TOp.eqb (yc ent74 rfl rfl (Bors.cons (Bor.own (f := f32) (fun _ => rfl) rfl rfl) bN) (i_areFinite_ok a0 r1 hf1)) hc2)<|yl rfl (b true) y0<|zN ?_
  refine yT<|zQ<|ya rfl nilsl<|ya rfl (b false)<|zN ?_
  refine RunC.nil_slot (Γ' := [⟨0, some (a0.map f32)⟩, ⟨1, some (([] : List F).map f32)⟩]) 2 1 rfl rfl rfl<|RunC.ret ?_
  have hq := oI h
  have hq := Sum.inr.inj hq
  obtain ⟨hq0, hq⟩ := Prod.mk.inj hq
  obtain ⟨hq1, hq⟩ := Prod.mk.inj hq
  subst q0
  subst q1
  subst q2
  exact yB (tup [oref 1 1 0 (([] : List F).length), b false]) [(0, 0), (1, 1)] (Res.eq (Res.two rfl (RV.tmp rfl) (RV.tmp rfl)) (by rw [(show ([] : List F).length = 0 from rfl)] <;> rfl)) (SelL.arr (f := f32) (fun _ => rfl) rfl (SelL.arr0 (f := f32) (fun _ => rfl) rfl trivial))
def i_SignsOf_k6 (v14 : Int) (L48 : List F) (L55 : List F) (v56 : Int) (v57 : Int) : Option (LR ((List F) × (List F) × Int × Int × Int) ((List F)) (Bool × (List F))) :=
 olet (IntKind.i64.wrap (v14 + 1)) fun (x58 : Int) =>
 some (LR.next (L55, L48, v56, v57, x58))
def i_SignsOf_k5 (L11 : List F) (v14 : Int) (L39 : List F) (v40 : Int) (v41 : Int) : Option (LR ((List F) × (List F) × Int × Int × Int) ((List F)) (Bool × (List F))) :=
 obind2 (i_TraceOf v40 v41 L39) fun (r42 : F) (r43 : Bool) =>
 bsel r43 (
  bsel (decide (v14 = 1)) (
   olet (fneg .f32 r42) fun (x44 : F) =>
   need (apok 4 L11.length 1) <|
   i_SignsOf_k6 v14 (L11 ++ ([x44] : List F)) L39 v40 v41) (
   olet (fneg .f32 r42) fun (x45 : F) =>
   olet (fint .f32 v14) fun (x46 : F) =>
   olet (fop .quo .f32 x45 x46) fun (x47 : F) =>
   need (apok 4 L11.length 1) <|
   i_SignsOf_k6 v14 (L11 ++ ([x47] : List F)) L39 v40 v41)) (
  some (LR.ret (false, ([] : List F))))
def i_SignsOf_b4 (a0 : Int) (L10 : List F) (L11 : List F) (v12 : Int) (v13 : Int) (v14 : Int) (L15 : List F) (v17 : Int) : Option (LR ((List F) × Int) ((List F)) (Bool × (List F))) :=
 bsel (decide (v17 < a0)) (
  obind (i_Matrix_at v12 v13 L15 v17 v17) fun (r22 : F) =>
  olet (IntKind.i64.wrap (v14 - 2)) fun (x23 : Int) =>
  obind (at? L11 x23) fun (e24 : F) =>
  olet (fop .add .f32 r22 e24) fun (x25 : F) =>
  obind (i_Matrix_set_02o v12 v13 v17 v17 x25 L15) fun (r26 : List F) =>
  need (decide (r26.length = L10.length)) <|
  olet (IntKind.i64.wrap (v17 + 1)) fun (x27 : Int) =>
  some (LR.next (r26, x27))) (
  some (LR.out L15))
def i_SignsOf_s4 (a0 : Int) (L10 : List F) (L11 : List F) (v12 : Int) (v13 : Int) (v14 : Int) : ((List F) × Int) → Option (LR ((List F) × Int) ((List F)) (Bool × (List F))) := fun s => i_SignsOf_b4 a0 L10 L11 v12 v13 v14 s.1 s.2
def i_SignsOf_k4 (a0 : Int) (a1 : Int) (a2 : List F) (L11 : List F) (v12 : Int) (v13 : Int) (v14 : Int) (L28 : List F) : Option (LR ((List F) × (List F) × Int × Int × Int) ((List F)) (Bool × (List F))) :=
 obind4 (i_MulMatrices a0 a1 a2 v12 v13 L28) fun (r30 : Int) (r31 : Int) (r32 : Bool) (r33 : List F) =>
 bsel r32 (
  i_SignsOf_k5 L11 v14 r33 r30 r31) (
  some (LR.ret (false, ([] : List F))))
def i_SignsOf_b7 (a0 : Int) (a1 : Int) (a2 : List F) (L10 : List F) (L11 : List F) (v12 : Int) (v13 : Int) (v14 : Int) : Option (LR ((List F) × (List F) × Int × Int × Int) ((List F)) (Bool × (List F))) :=
 bsel (decide (v14 ≤ a0)) (
  bsel (decide (1 < v14)) (
   obind (loopM (i_SignsOf_s4 a0 L10 L11 v12 v13 v14) (L10, 0)) fun z => osum z (fun e => i_SignsOf_k4 a0 a1 a2 L11 v12 v13 v14 e) (fun r => some (LR.ret r))) (
   i_SignsOf_k5 L11 v14 L10 v12 v13)) (
  some (LR.out L11))
def i_SignsOf_s7 (a0 : Int) (a1 : Int) (a2 : List F) : ((List F) × (List F) × Int × Int × Int) → Option (LR ((List F) × (List F) × Int × Int × Int) ((List F)) (Bool × (List F))) := fun s => i_SignsOf_b7 a0 a1 a2 s.1 s.2.1 s.2.2.1 s.2.2.2.1 s.2.2.2.2
def i_SignsOf_k7 (L64 : List F) : Option (Bool × (List F)) :=
 obind (i_allFinite_0o L64) (fun z => osum z (fun y => obind2 (some y) fun (r65 : Bool) (r66 : List F) =>
  need (decide (r66.length = L64.length)) <|
  some (r65, r66)) (fun y => obind3 (some y) fun (r67 : Bool) (r68 : List F) (r69 : List F) =>
  need (decide (r68.length = L64.length)) <|
  some (r67, r69)))
def i_SignsOf (a0 : Int) (a1 : Int) (a2 : List F) : Option (Bool × (List F)) :=
 obind (i_isSquare a0 a1 a2) fun (r1 : Bool) =>
 bsel r1 (
  obind3 (i_Matrix_clone a0 a1 a2) fun (r2 : Int) (r3 : Int) (r4 : List F) =>
  obind (loopM (i_SignsOf_s7 a0 a1 a2) (r4, ([] : List F), r2, r3, 1)) fun z => osum z (fun e => i_SignsOf_k7 e) (fun r => some r)) (
  some (false, ([] : List F)))
theorem i_SignsOf_ok (a0 : Int) (a1 : Int) (a2 : List F) (q0 : Bool) (q1 : List F) (h : i_SignsOf a0 a1 a2 = some (q0, q1)) : Ev Try.prog 35 [agg (mXc a0 a1 a2)] [] (tup [oref 0 0 0 q1.length, b q0]) [⟨0, some (q1.map f32)⟩] := by
 refine yE Try.func35 6 163 0 [(0, agg (mXc a0 a1 a2))] [⟨0, none⟩, ⟨0, none⟩, ⟨0, none⟩, ⟨0, none⟩, ⟨0, none⟩, ⟨0, none⟩] rfl ?_
 unfold i_SignsOf at h
 refine zQ<|yd rfl (ptr (mXc a0 a1 a2)) (TOp.box_s rfl rfl rfl)<|ya rfl nilsl<|ya rfl (b false)<|zN ?_
 refine yS<|yS ?_
 obtain ⟨r1, hf1, h⟩ := oS h
 rcases oB h with ⟨hc2, h⟩ | ⟨hc2, h⟩
 ·refine yW<|yl rfl (agg (mXc a0 a1 a2)) (yL agg33 siz33)<|yd rfl (b true) (TOp.eqb (TOp.callB (CallAs.func ent91 rfl rfl) (Bors.cons (Bor.agg (bP (bP (bS bN)))) bN) rfl rfl (i_isSquare_ok a0 a1 a2 r1 hf1)) hc2)<|yl rfl (b false) y1<|zN ?_
  refine yF<|RunC.skip<|yS ?_
  obtain ⟨r2, r3, r4, hf3, h⟩ := obind3_some h
  refine yW<|yl rfl (agg (mXc a0 a1 a2)) (yL agg33 siz33)<|ye rfl (agg (oXc r2 r3 0 1 r4.length)) [⟨1, some (r4.map f32)⟩, ⟨0, none⟩, ⟨0, none⟩, ⟨0, none⟩, ⟨0, none⟩, ⟨0, none⟩] (TOp.callBN (ls := [(r4.map f32)]) [0] (CallAs.func ent92 rfl rfl) (Bors.cons (Bor.agg (bP (bP (bS bN)))) bN) rfl (i_Matrix_clone_ok a0 a1 a2 r2 r3 r4 hf3) (and_all (lts0_map (f := f32) (fun _ => rfl) _) rfl) (and_all (noss_map (f := f32) (fun _ => rfl) _) rfl) rfl (by decide) (ns_of ⟨⟨_, rfl⟩, trivial⟩))<|ye rfl (oref 1 1 0 0) ([⟨1, some (r4.map f32)⟩, ⟨1, some (([] : List F).map f32)⟩, ⟨0, none⟩, ⟨0, none⟩, ⟨0, none⟩, ⟨0, none⟩]) (TOp.buildSlice_o (g := ⟨0, none⟩) (za := f32 (some 0)) (qs := []) 1 rfl und26 siz28 zer28 rfl zel28 rfl rfl trivial rfl)<|ye rfl (optr 2 1 0) ([⟨1, some (r4.map f32)⟩, ⟨1, some (([] : List F).map f32)⟩, ⟨1, some zMx⟩, ⟨0, none⟩, ⟨0, none⟩, ⟨0, none⟩]) (TOp.alloc_o (g := ⟨0, none⟩) 2 rfl zer33 zok33 rfl)<|ys (agg (oXc r2 r3 0 1 r4.length)) (oXc r2 r3 0 1 r4.length) ([⟨1, some (r4.map f32)⟩, ⟨1, some (([] : List F).map f32)⟩, ⟨1, some (oXc r2 r3 0 1 r4.length)⟩, ⟨0, none⟩, ⟨0, none⟩, ⟨0, none⟩]) siz33<|ya rfl (oref 1 1 0 0)<|zN ?_
  refine yS<|zQ<|ya rfl (i64 1)<|zN ?_
  obtain ⟨z8, hz_8, h⟩ := oS h
  refine RunC.cutN (fun τ Γ => ∃ (L64 : List F) (u59 : Nat) (u60 : Nat) (u61 : Nat) (u62 : Nat) (u63 : Nat), Le 163 τ Γ [(5, oref 1 u60 0 L64.length)] [⟨u59, none⟩, ⟨u60, some (L64.map f32)⟩, ⟨u61, none⟩, ⟨u62, none⟩, ⟨u63, none⟩, ⟨0, none⟩] ∧ z8 = .inl L64) ?_ ?_
  ·refine RunC.block (RunC.loop (RunL.loopM (x := z8) (i_SignsOf_s7 a0 a1 a2) (fun (s : (List F) × (List F) × Int × Int × Int) τ Γ => ∃ (u5 : Nat) (u6 : Nat) (u7 : Nat) (u8 : Nat) (u9 : Nat), Le 163 τ Γ [(1, ptr (mXc a0 a1 a2)), (4, optr 2 u7 0), (5, oref 1 u6 0 s.2.1.length), (6, i64 s.2.2.2.2)] [⟨u5, some (s.1.map f32)⟩, ⟨u6, some (s.2.1.map f32)⟩, ⟨u7, some [i64 s.2.2.1, i64 s.2.2.2.1, oref 0 u5 0 s.1.length]⟩, ⟨u8, none⟩, ⟨u9, none⟩, ⟨0, none⟩]) ?_ _ _ _ hz_8 ⟨1, 1, 1, 0, 0, (Le.of ⟨aR, aR, aR, aR, trivial⟩ ⟨⟨rfl, .inr rfl⟩, ⟨rfl, .inr rfl⟩, ⟨rfl, .inr (by first | rfl | simp)⟩, ⟨rfl, .inl rfl⟩, ⟨rfl, .inl rfl⟩, ⟨rfl, .inr rfl⟩, trivial⟩)⟩))
   rintro ⟨L10, L11, v12, v13, v14⟩ τ8 Γ8 y8_ ⟨u5, u6, u7, u8, u9, hw8⟩ h8_ ho8 hr8
   refine RunC.le (τ' := [(1, ptr (mXc a0 a1 a2)), (4, optr 2 u7 0), (5, oref 1 u6 0 L11.length), (6, i64 v14)]) (Γ' := [⟨u5, some (L10.map f32)⟩, ⟨u6, some (L11.map f32)⟩, ⟨u7, some (oXc v12 v13 0 u5 L10.length)⟩, ⟨u8, none⟩, ⟨u9, none⟩, ⟨0, none⟩]) hw8 ?_
   replace h8_ : i_SignsOf_b7 a0 a1 a2 L10 L11 v12 v13 v14 = some y8_ := h8_
   unfold i_SignsOf_b7 at h8_
   refine yS<|yS ?_
   rcases oB h8_ with ⟨hc4, h8_⟩ | ⟨hc4, h8_⟩
   ·refine yW<|ym rfl (i64 v14)<|yl rfl (ptr (mXc a0 a1 a2)) (LOp.fap und33 rfl siz2 rfl rfl rfl)<|yl rfl (i64 a0) (y2 agg2)<|yl rfl (b true) (LOp.eqb (LOp.leq rfl rfl rfl) hc4)<|zN ?_
    refine yT<|RunC.skip<|yS<|RunC.cutN (fun τ Γ => ∃ (L48 : List F) (L55 : List F) (v56 : Int) (v57 : Int) (u50 : Nat) (u51 : Nat) (u52 : Nat) (u53 : Nat) (u54 : Nat), L48.length = (L11.length + 1) ∧ Le 163 τ Γ [(1, ptr (mXc a0 a1 a2)), (4, optr 2 u52 0), (5, oref 1 u51 0 (L11.length + 1)), (6, i64 v14)] [⟨u50, none⟩, ⟨u51, some (L48.map f32)⟩, ⟨u52, some (oXc v56 v57 3 u53 L55.length)⟩, ⟨u53, some (L55.map f32)⟩, ⟨u54, none⟩, ⟨0, none⟩] ∧ i_SignsOf_k6 v14 L48 L55 v56 v57 = some y8_) ?_ ?_
    ·refine RunC.block<|yS<|RunC.cutN (fun τ Γ => ∃ (L39 : List F) (v40 : Int) (v41 : Int) (u34 : Nat) (u35 : Nat) (u36 : Nat) (u37 : Nat) (u38 : Nat), Le 163 τ Γ [(1, ptr (mXc a0 a1 a2)), (4, optr 2 u36 0), (5, oref 1 u35 0 L11.length), (6, i64 v14)] [⟨u34, none⟩, ⟨u35, some (L11.map f32)⟩, ⟨u36, some (oXc v40 v41 3 u37 L39.length)⟩, ⟨u37, some (L39.map f32)⟩, ⟨u38, none⟩, ⟨0, none⟩] ∧ i_SignsOf_k5 L11 v14 L39 v40 v41 = some y8_) ?_ ?_
     ·refine yS ?_
      rcases oB h8_ with ⟨hc5, h8_⟩ | ⟨hc5, h8_⟩
      ·refine yW<|ym rfl (i64 v14)<|yl rfl (b true) (LOp.eqb (LOp.gtr rfl rfl rfl) hc5)<|zN ?_
       refine yT<|yS<|zQ<|yl rfl (ptr (mXc a0 a1 a2)) (LOp.fap und33 rfl siz2 rfl rfl rfl)<|yl rfl (i64 a0) (y2 agg2)<|ym rfl (i64 0)<|zN ?_
       obtain ⟨z9, hz_9, h8_⟩ := oS h8_
       refine RunC.cutN (fun τ Γ => ∃ (L28 : List F), L28.length = L10.length ∧ Le 163 τ Γ [(1, ptr (mXc a0 a1 a2)), (4, optr 2 u7 0), (5, oref 1 u6 0 L11.length), (6, i64 v14)] [⟨u5, some (L28.map f32)⟩, ⟨u6, some (L11.map f32)⟩, ⟨u7, some (oXc v12 v13 0 u5 L10.length)⟩, ⟨u8, none⟩, ⟨u9, none⟩, ⟨0, none⟩] ∧ z9 = .inl L28) ?_ ?_
       ·refine RunC.block (RunC.loop (RunL.loopM (x := z9) (i_SignsOf_s4 a0 L10 L11 v12 v13 v14) (fun (s : (List F) × Int) τ Γ => s.1.length = L10.length ∧ Le 163 τ Γ [(1, ptr (mXc a0 a1 a2)), (4, optr 2 u7 0), (5, oref 1 u6 0 L11.length), (6, i64 v14), (27, i64 a0), (28, i64 s.2)] [⟨u5, some (s.1.map f32)⟩, ⟨u6, some (L11.map f32)⟩, ⟨u7, some (oXc v12 v13 0 u5 L10.length)⟩, ⟨u8, none⟩, ⟨u9, none⟩, ⟨0, none⟩]) ?_ _ _ _ hz_9 ⟨rfl, (Le.of ⟨aR, aR, aR, aR, aR, aR, trivial⟩ ⟨⟨rfl, .inr rfl⟩, ⟨rfl, .inr rfl⟩, ⟨rfl, .inr rfl⟩, ⟨rfl, .inl rfl⟩, ⟨rfl, .inl rfl⟩, ⟨rfl, .inr rfl⟩, trivial⟩)⟩))
        rintro ⟨L15, v17⟩ τ9 Γ9 y9_ ⟨hl16, hw9⟩ h9_ ho9 hr9
        refine RunC.le (τ' := [(1, ptr (mXc a0 a1 a2)), (4, optr 2 u7 0), (5, oref 1 u6 0 L11.length), (6, i64 v14), (27, i64 a0), (28, i64 v17)]) (Γ' := [⟨u5, some (L15.map f32)⟩, ⟨u6, some (L11.map f32)⟩, ⟨u7, some (oXc v12 v13 0 u5 L10.length)⟩, ⟨u8, none⟩, ⟨u9, none⟩, ⟨0, none⟩]) hw9 ?_
        replace hl16 : L15.length = L10.length := hl16
        replace h9_ : i_SignsOf_b4 a0 L10 L11 v12 v13 v14 L15 v17 = some y9_ := h9_
        unfold i_SignsOf_b4 at h9_
        refine yS ?_
        rcases oB h9_ with ⟨hc6, h9_⟩ | ⟨hc6, h9_⟩
        ·refine yW<|yl rfl (b true) (LOp.eqb (LOp.lss rfl rfl rfl) hc6)<|zN ?_
         refine yS<|yT<|RunC.skip<|yS<|RunC.block<|zQ<|ym rfl (i64 v17)<|ya rfl (i64 v17)<|zN ?_
         obtain ⟨r22, hf11, h9_⟩ := oS h9_
         obtain ⟨x23, hx12, h9_⟩ := oL h9_
         obtain ⟨e24, he13, h9_⟩ := oS h9_
         obtain ⟨x25, hx14, h9_⟩ := oL h9_
         obtain ⟨r26, hf15, h9_⟩ := oS h9_
         obtain ⟨hn16, h9_⟩ := need_some h9_
         refine RunC.region_draw (Γ' := [⟨u5, some (L15.map f32)⟩, ⟨u6, some (L11.map f32)⟩, ⟨u7, some (oXc v12 v13 0 u5 L10.length)⟩, ⟨u8, none⟩, ⟨u9, none⟩, ⟨0, none⟩]) 13 mixed 
          (TR.d (r := agg (oXc v12 v13 0 u5 L10.length)) (fs := []) rfl rfl (TOp.loadAgg_o rfl agg33 siz33 rfl rfl rfl rfl) <|
          (tm rfl (i64 v17) <|
          (tm rfl (i64 v17) <|
          (TR.d (r := agg (oXc v12 v13 0 u5 L10.length)) (fs := []) rfl rfl (TOp.loadAgg_o rfl agg33 siz33 rfl rfl rfl rfl) <|
          (tm rfl (i64 v17) <|
          (tm rfl (i64 v17) <|
          (TR.d (r := f32 r22) (fs := []) rfl rfl (TOp.callB (CallAs.func ent94 rfl rfl) (Bors.cons (Bor.agg (bP (bP (Bors.cons (Bor.own (f := f32) (fun _ => rfl) rfl hl16) bN)))) (bP bN0)) rfl rfl (i_Matrix_at_ok v12 v13 L15 v17 v17 r22 hf11)) <|
          (tm rfl (oref 1 u6 0 L11.length) <|
          (tm rfl (i64 v14) <|
          (tl rfl (i64 x23) (LOp.eqr (LOp.sub rfl rfl rfl) (congrArg (ik .i64) hx12)) <|
          (TR.d (r := optr 1 u6 x23.toNat) (fs := []) rfl rfl (TOp.ixo und26 siz28 rfl rfl rfl (at_in he13 rfl) rfl) <|
          (TR.d (r := f32 e24) (fs := []) rfl rfl (TOp.load1_o rfl (at_cell he13) agg28 rfl rfl) <|
          (TR.d (r := f32 x25) (fs := []) rfl rfl (TOp.eqr (TOp.fop (.inl rfl) rfl (OpF.tmp rfl) (OpF.tmp rfl)) (congrArg (f .f32) hx14)) <|
          TR.nil))))))))))))) rfl (by kernel_rfl) rfl fills_nil rfl ?_
         iterate 13 refine ROps.dropS ?_
         refine ROps.drop0<|ROps.callO (A := [agg (oXc v12 v13 0 u5 L10.length), i64 v17, i64 v17, f32 x25]) (args := [agg (oXc v12 v13 0 0 L15.length), i64 v17, i64 v17, f32 x25]) (Γc := [⟨0, some (L15.map f32)⟩]) (Γc' := [⟨0, some (r26.map f32)⟩]) (r' := tup []) (Γ' := [⟨u5, some (r26.map f32)⟩, ⟨u6, some (L11.map f32)⟩, ⟨u7, some (oXc v12 v13 0 u5 L10.length)⟩, ⟨u8, none⟩, ⟨u9, none⟩, ⟨0, none⟩]) [(0, u5)] [] rfl (CallAs.func ent93 rfl rfl) rfl rfl (SelOk.of (ndB_ok rfl) (SelL.arr0 (f := f32) (fun _ => rfl) rfl trivial)) (live_of ⟨⟨_, _, rfl⟩, trivial⟩) (by simp [ren, rens, sigma, rens_f32, rens_f64, rens_i64, rens_ik, rens_str, rens_cp, hl16]) rfl (i_Matrix_set_02o_ok v12 v13 v17 v17 x25 L15 r26 hf15) rfl (news_of trivial) (ndB_ok rfl) (by simp [ren, rens, sigma, of_decide_eq_true hn16]) (by simp [backOb, sigma, ren, rens, rens_f32, rens_f64, rens_i64, rens_ik, rens_str, rens_cp])<|zN ?_
         refine RunC.wl (τ' := [(1, ptr (mXc a0 a1 a2)), (4, optr 2 u7 0), (5, oref 1 u6 0 L11.length), (6, i64 v14), (27, i64 a0), (28, i64 v17)]) (Γ' := [⟨u5, some (r26.map f32)⟩, ⟨u6, some (L11.map f32)⟩, ⟨u7, some (oXc v12 v13 0 u5 L10.length)⟩, ⟨u8, none⟩, ⟨u9, none⟩, ⟨0, none⟩]) ⟨aR, aR, aR, aR, aR, aR, trivial⟩ ⟨⟨rfl, .inr rfl⟩, ⟨rfl, .inr rfl⟩, ⟨rfl, .inr rfl⟩, ⟨rfl, .inl rfl⟩, ⟨rfl, .inl rfl⟩, ⟨rfl, .inr rfl⟩, trivial⟩ ?_
         obtain ⟨x27, hx17, h9_⟩ := oL h9_
         refine yW<|yl rfl (i64 x27) (LOp.eqr (LOp.add rfl rfl rfl) (congrArg (ik .i64) hx17))<|ym rfl (i64 x27)<|zN ?_
         cases oI h9_
         exact ⟨_, rfl, (of_decide_eq_true hn16), (Le.of ⟨aR, aR, aR, aR, aR, aR, trivial⟩ ⟨⟨rfl, .inr rfl⟩, ⟨rfl, .inr rfl⟩, ⟨rfl, .inr rfl⟩, ⟨rfl, .inl rfl⟩, ⟨rfl, .inl rfl⟩, ⟨rfl, .inr rfl⟩, trivial⟩)⟩
        ·refine yW<|yl rfl (b false) (LOp.eqb (LOp.lss rfl rfl rfl) hc6)<|zN ?_
         refine yS<|yF<|RunC.exit ?_
         cases oI h9_
         have hx := ho9 _ rfl
         exact ⟨L15, hl16, (Le.of ⟨aR, aR, aR, aR, trivial⟩ ⟨⟨rfl, .inr rfl⟩, ⟨rfl, .inr rfl⟩, ⟨rfl, .inr rfl⟩, ⟨rfl, .inl rfl⟩, ⟨rfl, .inl rfl⟩, ⟨rfl, .inr rfl⟩, trivial⟩), hx⟩
       ·rintro τ10 Γ10 ⟨L28, hl29, hw10, rfl⟩
        refine RunC.le hw10 ?_
        replace h8_ : i_SignsOf_k4 a0 a1 a2 L11 v12 v13 v14 L28 = some y8_ := h8_
        unfold i_SignsOf_k4 at h8_
        refine yS ?_
        obtain ⟨r30, r31, r32, r33, hf18, h8_⟩ := obind4_some h8_
        rcases oB h8_ with ⟨hc19, h8_⟩ | ⟨hc19, h8_⟩
        ·refine yW<|yl rfl (agg (mXc a0 a1 a2)) (yL agg33 siz33)<|yd rfl (agg (oXc v12 v13 0 u5 L10.length)) (TOp.loadAgg_o rfl agg33 siz33 rfl rfl rfl rfl)<|ye rfl (tup [agg [i64 r30, i64 r31, oref 3 (u8 + 1) 0 r33.length], b r32]) [⟨u5, some (L28.map f32)⟩, ⟨u6, some (L11.map f32)⟩, ⟨u7, some (oXc v12 v13 0 u5 L10.length)⟩, ⟨(u8 + 1), some (r33.map f32)⟩, ⟨u9, none⟩, ⟨0, none⟩] (TOp.eqr (TOp.callBN (ls := [(r33.map f32)]) [3] (CallAs.func ent95 rfl rfl) (Bors.cons (Bor.agg (bP (bP (bS bN)))) (Bors.cons (Bor.agg (bP (bP (Bors.cons (Bor.own (f := f32) (fun _ => rfl) rfl hl29) bN)))) bN)) rfl (i_MulMatrices_ok a0 a1 a2 v12 v13 L28 r30 r31 r32 r33 hf18) (and_all (lts0_map (f := f32) (fun _ => rfl) _) rfl) (and_all (noss_map (f := f32) (fun _ => rfl) _) rfl) rfl (by decide) (ns_of ⟨⟨_, rfl⟩, trivial⟩)) (by simp [ren, rens, sigma, newNames]))<|ym rfl (tup [agg [i64 r30, i64 r31, oref 3 (u8 + 1) 0 r33.length], b r32])<|yl rfl (agg [i64 r30, i64 r31, oref 3 (u8 + 1) 0 r33.length]) y3<|yl rfl (b true) (LOp.eqb y3 hc19)<|ye rfl (optr 4 (u9 + 1) 0) [⟨u5, some (L28.map f32)⟩, ⟨u6, some (L11.map f32)⟩, ⟨u7, some (oXc v12 v13 0 u5 L10.length)⟩, ⟨(u8 + 1), some (r33.map f32)⟩, ⟨(u9 + 1), some zMx⟩, ⟨0, none⟩] (TOp.alloc_o (g := ⟨u9, none⟩) 4 rfl zer33 zok33 rfl)<|ys (agg [i64 r30, i64 r31, oref 3 (u8 + 1) 0 r33.length]) [i64 r30, i64 r31, oref 3 (u8 + 1) 0 r33.length] ([⟨u5, some (L28.map f32)⟩, ⟨u6, some (L11.map f32)⟩, ⟨u7, some (oXc v12 v13 0 u5 L10.length)⟩, ⟨(u8 + 1), some (r33.map f32)⟩, ⟨(u9 + 1), some [i64 r30, i64 r31, oref 3 (u8 + 1) 0 r33.length]⟩, ⟨0, none⟩]) siz33<|ya rfl (b true)<|zN ?_
         refine yS<|zQ<|ym rfl (b true)<|yl rfl (b false) y1<|zN ?_
         refine yF<|RunC.skip<|yW<|yd rfl (agg [i64 r30, i64 r31, oref 3 (u8 + 1) 0 r33.length]) (TOp.loadAgg_o rfl agg33 siz33 rfl rfl rfl rfl)<|ys (agg [i64 r30, i64 r31, oref 3 (u8 + 1) 0 r33.length]) [i64 r30, i64 r31, oref 3 (u8 + 1) 0 r33.length] ([⟨u5, some (L28.map f32)⟩, ⟨u6, some (L11.map f32)⟩, ⟨u7, some [i64 r30, i64 r31, oref 3 (u8 + 1) 0 r33.length]⟩, ⟨(u8 + 1), some (r33.map f32)⟩, ⟨(u9 + 1), some [i64 r30, i64 r31, oref 3 (u8 + 1) 0 r33.length]⟩, ⟨0, none⟩]) siz33<|zN ?_
         exact ⟨r33, r30, r31, u5, u6, u7, (u8 + 1), (u9 + 1), (Le.of ⟨aR, aR, aR, aR, trivial⟩ ⟨⟨rfl, .inl rfl⟩, ⟨rfl, .inr rfl⟩, ⟨rfl, .inr (by first | rfl | simp)⟩, ⟨rfl, .inr rfl⟩, ⟨rfl, .inl rfl⟩, ⟨rfl, .inr rfl⟩, trivial⟩), h8_⟩
        ·refine yW<|yl rfl (agg (mXc a0 a1 a2)) (yL agg33 siz33)<|yd rfl (agg (oXc v12 v13 0 u5 L10.length)) (TOp.loadAgg_o rfl agg33 siz33 rfl rfl rfl rfl)<|ye rfl (tup [agg [i64 r30, i64 r31, oref 3 (u8 + 1) 0 r33.length], b r32]) [⟨u5, some (L28.map f32)⟩, ⟨u6, some (L11.map f32)⟩, ⟨u7, some (oXc v12 v13 0 u5 L10.length)⟩, ⟨(u8 + 1), some (r33.map f32)⟩, ⟨u9, none⟩, ⟨0, none⟩] (TOp.eqr (TOp.callBN (ls := [(r33.map f32)]) [3] (CallAs.func ent95 rfl rfl) (Bors.cons (Bor.agg (bP (bP (bS bN)))) (Bors.cons (Bor.agg (bP (bP (Bors.cons (Bor.own (f := f32) (fun _ => rfl) rfl hl29) bN)))) bN)) rfl (i_MulMatrices_ok a0 a1 a2 v12 v13 L28 r30 r31 r32 r33 hf18) (and_all (lts0_map (f := f32) (fun _ => rfl) _) rfl) (and_all (noss_map (f := f32) (fun _ => rfl) _) rfl) rfl (by decide) (ns_of ⟨⟨_, rfl⟩, trivial⟩)) (by simp [ren, rens, sigma, newNames]))<|ym rfl (tup [agg [i64 r30, i64 r31, oref 3 (u8 + 1) 0 r33.length], b r32])<|yl rfl (agg [i64 r30, i64 r31, oref 3 (u8 + 1) 0 r33.length]) y3<|yl rfl (b false) (LOp.eqb y3 hc19)<|ye rfl (optr 4 (u9 + 1) 0) [⟨u5, some (L28.map f32)⟩, ⟨u6, some (L11.map f32)⟩, ⟨u7, some (oXc v12 v13 0 u5 L10.length)⟩, ⟨(u8 + 1), some (r33.map f32)⟩, ⟨(u9 + 1), some zMx⟩, ⟨0, none⟩] (TOp.alloc_o (g := ⟨u9, none⟩) 4 rfl zer33 zok33 rfl)<|ys (agg [i64 r30, i64 r31, oref 3 (u8 + 1) 0 r33.length]) [i64 r30, i64 r31, oref 3 (u8 + 1) 0 r33.length] ([⟨u5, some (L28.map f32)⟩, ⟨u6, some (L11.map f32)⟩, ⟨u7, some (oXc v12 v13 0 u5 L10.length)⟩, ⟨(u8 + 1), some (r33.map f32)⟩, ⟨(u9 + 1), some [i64 r30, i64 r31, oref 3 (u8 + 1) 0 r33.length]⟩, ⟨0, none⟩]) siz33<|ya rfl (b false)<|zN ?_
         refine yS<|zQ<|ym rfl (b false)<|yl rfl (b true) y0<|zN ?_
         refine yT<|zQ<|ya rfl nilsl<|ya rfl (b false)<|zN ?_
         refine RunC.nil_slot (Γ' := [⟨u5, some (L28.map f32)⟩, ⟨u6, some (L11.map f32)⟩, ⟨u7, some (oXc v12 v13 0 u5 L10.length)⟩, ⟨(u8 + 1), some (r33.map f32)⟩, ⟨(u9 + 1), some [i64 r30, i64 r31, oref 3 (u8 + 1) 0 r33.length]⟩, ⟨1, some (([] : List F).map f32)⟩]) 2 5 rfl rfl rfl<|RunC.ret ?_
         cases oI h8_
         have hx11_ := hr8 _ rfl
         subst hx11_
         have hq := oI h
         obtain ⟨hq0, hq⟩ := Prod.mk.inj hq
         subst q0
         subst q1
         exact yB (tup [oref 5 1 0 (([] : List F).length), b false]) [(5, 1)] (Res.eq (Res.two rfl (RV.tmp rfl) (RV.tmp rfl)) (by rw [(show ([] : List F).length = 0 from rfl)] <;> rfl)) (SelL.arr0 (f := f32) (fun _ => rfl) rfl trivial)
      ·refine yW<|ym rfl (i64 v14)<|yl rfl (b false) (LOp.eqb (LOp.gtr rfl rfl rfl) hc5)<|zN ?_
       refine yF<|RunC.skip ?_
       exact ⟨L10, v12, v13, u8, 0, 0, 0, u9, (Le.trans (Le.sel [(3, 0), (1, u6), (2, u7), (0, u5), (4, 0), (5, 0)] [(1, ptr (mXc a0 a1 a2)), (4, optr 2 0 0), (5, oref 1 0 0 L11.length), (6, i64 v14)] [⟨u8, none⟩, ⟨0, some (L11.map f32)⟩, ⟨0, some (oXc v12 v13 3 0 L10.length)⟩, ⟨0, some (L10.map f32)⟩, ⟨u9, none⟩, ⟨0, none⟩] rfl (SelOk.of (show List.Nodup [3, 1, 2, 0, 4, 5] from by decide) ⟨⟨_, rfl⟩, (SelL.arr0 (f := f32) (fun _ => rfl) rfl (SelL.cells0 rfl (by simp [ren, rens, sigma, rens_f32, rens_f64, rens_i64, rens_ik, rens_str, rens_cp]) rfl (SelL.arr0 (f := f32) (fun _ => rfl) rfl ⟨⟨_, rfl⟩, ⟨⟨_, rfl⟩, trivial⟩⟩)))⟩) ⟨⟨_, rfl, .inl ⟨rfl, (lt_ptr (lts_cons rfl (lts_cons rfl (lts_cons (lt_sl (fun _ => rfl)) lts_nil))))⟩⟩, ⟨optr 2 u7 0, rfl, .inr ⟨by first | rfl | simp [ren, rens, sigma, rens_f32, rens_f64, rens_i64, rens_ik, rens_str, rens_cp], rfl⟩⟩, ⟨oref 1 u6 0 L11.length, rfl, .inr ⟨by first | rfl | simp [ren, rens, sigma, rens_f32, rens_f64, rens_i64, rens_ik, rens_str, rens_cp], rfl⟩⟩, ⟨_, rfl, .inl ⟨rfl, rfl⟩⟩, trivial⟩) (Le.of ⟨aR, aR, aR, aR, trivial⟩ ⟨⟨rfl, .inl rfl⟩, ⟨rfl, .inr rfl⟩, ⟨rfl, .inr (by first | rfl | simp)⟩, ⟨rfl, .inr rfl⟩, ⟨rfl, .inl rfl⟩, ⟨rfl, .inr rfl⟩, trivial⟩)), h8_⟩
     ·rintro τ12 Γ12 ⟨L39, v40, v41, u34, u35, u36, u37, u38, hw12, h8_⟩
      refine RunC.le hw12 ?_
      unfold i_SignsOf_k5 at h8_
      refine yS ?_
      obtain ⟨r42, r43, hf20, h8_⟩ := obind2_some h8_
      rcases oB h8_ with ⟨hc21, h8_⟩ | ⟨hc21, h8_⟩
      ·refine yW<|yd rfl (agg (oXc v40 v41 3 u37 L39.length)) (TOp.loadAgg_o rfl agg33 siz33 rfl rfl rfl rfl)<|yd rfl (tup [f32 r42, b r43]) (TOp.callB (CallAs.func ent96 rfl rfl) (Bors.cons (Bor.agg (bP (bP (Bors.cons (Bor.own (f := f32) (fun _ => rfl) rfl rfl) bN)))) bN) rfl rfl (i_TraceOf_ok v40 v41 L39 r42 r43 hf20))<|ym rfl (tup [f32 r42, b r43])<|yl rfl (f32 r42) y3<|yl rfl (b true) (LOp.eqb y3 hc21)<|ya rfl (f32 r42)<|ya rfl (b true)<|zN ?_
       refine yS<|zQ<|ym rfl (b true)<|yl rfl (b false) y1<|zN ?_
       refine yF<|RunC.skip<|yS ?_
       rcases oB h8_ with ⟨hc22, h8_⟩ | ⟨hc22, h8_⟩
       ·refine yW<|ym rfl (i64 v14)<|yl rfl (b true) (LOp.eqb (LOp.eql rfl rfl rfl) hc22)<|zN ?_
        refine yT ?_
        obtain ⟨x44, hx23, h8_⟩ := oL h8_
        obtain ⟨hm24, h8_⟩ := need_some h8_
        refine yW<|ym rfl (oref 1 u35 0 L11.length)<|ym rfl (f32 r42)<|yl rfl (f32 x44) (LOp.eqr (LOp.fneg rfl (OpF.tmp rfl)) (congrArg (f .f32) hx23))<|ye rfl (oref 0 (u34 + 1) 0 1) ([⟨(u34 + 1), some (([x44] : List F).map f32)⟩, ⟨u35, some (L11.map f32)⟩, ⟨u36, some (oXc v40 v41 3 u37 L39.length)⟩, ⟨u37, some (L39.map f32)⟩, ⟨u38, none⟩, ⟨0, none⟩]) (TOp.buildSlice_o (g := ⟨u34, none⟩) (za := f32 (some 0)) (qs := [(0, [f32 x44])]) 0 rfl und26 siz28 zer28 rfl zel28 rfl rfl ⟨rfl, ⟨_, ALe.refl _, rfl⟩, trivial⟩ rfl)<|ROps.app (f := f32) (xs := L11) (ys := ([x44] : List F)) (Γ' := [⟨(u34 + 1), some (([x44] : List F).map f32)⟩, ⟨(u35 + 1), some ((L11 ++ ([x44] : List F)).map f32)⟩, ⟨u36, some (oXc v40 v41 3 u37 L39.length)⟩, ⟨u37, some (L39.map f32)⟩, ⟨u38, none⟩, ⟨0, none⟩]) rfl pun26 inf28 rfl rfl rfl rfl rfl rfl rfl rfl rfl (by simp) (ReadAs.own rfl (by simp)) (ones_map (fun _ => rfl)) (ap_by hm24) (ap_mx hm24) rfl<|ya rfl (oref 1 (u35 + 1) 0 (L11.length + 1))<|zN ?_
        exact ⟨(L11 ++ ([x44] : List F)), L39, v40, v41, (u34 + 1), (u35 + 1), u36, u37, u38, (app_len rfl rfl), (Le.of ⟨aR, aR, (by first | exact ALe.refl _ | exact ALe.eq (by rw [(app_len rfl rfl)] <;> rfl) | exact ALe.eq (by simp)), aR, trivial⟩ ⟨⟨rfl, .inl rfl⟩, ⟨rfl, .inr rfl⟩, ⟨rfl, .inr (by first | rfl | simp)⟩, ⟨rfl, .inr rfl⟩, ⟨rfl, .inl rfl⟩, ⟨rfl, .inr rfl⟩, trivial⟩), h8_⟩
       ·refine yW<|ym rfl (i64 v14)<|yl rfl (b false) (LOp.eqb (LOp.eql rfl rfl rfl) hc22)<|zN ?_
        refine yF ?_
        obtain ⟨x45, hx25, h8_⟩ := oL h8_
        obtain ⟨x46, hx26, h8_⟩ := oL h8_
        obtain ⟨x47, hx27, h8_⟩ := oL h8_
        obtain ⟨hm28, h8_⟩ := need_some h8_
        refine yW<|ym rfl (oref 1 u35 0 L11.length)<|ym rfl (f32 r42)<|yl rfl (f32 x45) (LOp.eqr (LOp.fneg rfl (OpF.tmp rfl)) (congrArg (f .f32) hx25))<|ym rfl (i64 v14)<|yl rfl (f32 x46) (LOp.eqr (LOp.i2f (src := 2) (dst := 28) ⟨_, pun2⟩ pun28 rfl rfl) (congrArg (f .f32) hx26))<|yd rfl (f32 x47) (TOp.eqr (TOp.fop (.inr (.inr (.inr rfl))) rfl (OpF.tmp rfl) (OpF.tmp rfl)) (congrArg (f .f32) hx27))<|ye rfl (oref 0 (u34 + 1) 0 1) ([⟨(u34 + 1), some (([x47] : List F).map f32)⟩, ⟨u35, some (L11.map f32)⟩, ⟨u36, some (oXc v40 v41 3 u37 L39.length)⟩, ⟨u37, some (L39.map f32)⟩, ⟨u38, none⟩, ⟨0, none⟩]) (TOp.buildSlice_o (g := ⟨u34, none⟩) (za := f32 (some 0)) (qs := [(0, [f32 x47])]) 0 rfl und26 siz28 zer28 rfl zel28 rfl rfl ⟨rfl, ⟨_, ALe.refl _, rfl⟩, trivial⟩ rfl)<|ROps.app (f := f32) (xs := L11) (ys := ([x47] : List F)) (Γ' := [⟨(u34 + 1), some (([x47] : List F).map f32)⟩, ⟨(u35 + 1), some ((L11 ++ ([x47] : List F)).map f32)⟩, ⟨u36, some (oXc v40 v41 3 u37 L39.length)⟩, ⟨u37, some (L39.map f32)⟩, ⟨u38, none⟩, ⟨0, none⟩]) rfl pun26 inf28 rfl rfl rfl rfl rfl rfl rfl rfl rfl (by simp) (ReadAs.own rfl (by simp)) (ones_map (fun _ => rfl)) (ap_by hm28) (ap_mx hm28) rfl<|ya rfl (oref 1 (u35 + 1) 0 (L11.length + 1))<|zN ?_
        exact ⟨(L11 ++ ([x47] : List F)), L39, v40, v41, (u34 + 1), (u35 + 1), u36, u37, u38, (app_len rfl rfl), (Le.of ⟨aR, aR, (by first | exact ALe.refl _ | exact ALe.eq (by rw [(app_len rfl rfl)] <;> rfl) | exact ALe.eq (by simp)), aR, trivial⟩ ⟨⟨rfl, .inl rfl⟩, ⟨rfl, .inr rfl⟩, ⟨rfl, .inr (by first | rfl | simp)⟩, ⟨rfl, .inr rfl⟩, ⟨rfl, .inl rfl⟩, ⟨rfl, .inr rfl⟩, trivial⟩), h8_⟩
      ·refine yW<|yd rfl (agg (oXc v40 v41 3 u37 L39.length)) (TOp.loadAgg_o rfl agg33 siz33 rfl rfl rfl rfl)<|yd rfl (tup [f32 r42, b r43]) (TOp.callB (CallAs.func ent96 rfl rfl) (Bors.cons (Bor.agg (bP (bP (Bors.cons (Bor.own (f := f32) (fun _ => rfl) rfl rfl) bN)))) bN) rfl rfl (i_TraceOf_ok v40 v41 L39 r42 r43 hf20))<|ym rfl (tup [f32 r42, b r43])<|yl rfl (f32 r42) y3<|yl rfl (b false) (LOp.eqb y3 hc21)<|ya rfl (f32 r42)<|ya rfl (b false)<|zN ?_
       refine yS<|zQ<|ym rfl (b false)<|yl rfl (b true) y0<|zN ?_
       refine yT<|zQ<|ya rfl nilsl<|ya rfl (b false)<|zN ?_
       refine RunC.nil_slot (Γ' := [⟨(u34 + 1), some (([] : List F).map f32)⟩, ⟨u35, some (L11.map f32)⟩, ⟨u36, some (oXc v40 v41 3 u37 L39.length)⟩, ⟨u37, some (L39.map f32)⟩, ⟨u38, none⟩, ⟨0, none⟩]) 2 0 rfl rfl rfl<|RunC.ret ?_
       cases oI h8_
       have hx13_ := hr8 _ rfl
       subst hx13_
       have hq := oI h
       obtain ⟨hq0, hq⟩ := Prod.mk.inj hq
       subst q0
       subst q1
       exact bodyQ.mk (r' := tup [oref 0 (u34 + 1) 0 (([] : List F).length), b false]) [(0, (u34 + 1))] (.inr rfl) rfl (ndB_ok rfl) (by simp [ren, rens, sigma]) rfl (Res.eq (Res.two rfl (RV.tmp rfl) (RV.tmp rfl)) (by rw [(show ([] : List F).length = 0 from rfl)] <;> rfl)) (SelL.arr0 (f := f32) (fun _ => rfl) rfl trivial)
    ·rintro τ14 Γ14 ⟨L48, L55, v56, v57, u50, u51, u52, u53, u54, hl49, hw14, h8_⟩
     refine RunC.le hw14 ?_
     unfold i_SignsOf_k6 at h8_
     obtain ⟨x58, hx29, h8_⟩ := oL h8_
     refine yW<|ym rfl (i64 v14)<|yl rfl (i64 x58) (LOp.eqr (LOp.add rfl rfl rfl) (congrArg (ik .i64) hx29))<|ya rfl (i64 x58)<|zN ?_
     cases oI h8_
     exact ⟨_, rfl, 0, 0, 0, u50, u54, (Le.trans (Le.sel [(3, u53), (1, u51), (2, u52), (0, 0), (4, 0), (5, 0)] [(1, ptr (mXc a0 a1 a2)), (4, optr 2 0 0), (5, oref 1 0 0 (L11.length + 1)), (6, i64 x58)] [⟨0, some (L55.map f32)⟩, ⟨0, some (L48.map f32)⟩, ⟨0, some (oXc v56 v57 0 0 L55.length)⟩, ⟨u50, none⟩, ⟨u54, none⟩, ⟨0, none⟩] rfl (SelOk.of (show List.Nodup [3, 1, 2, 0, 4, 5] from by decide) (SelL.arr0 (f := f32) (fun _ => rfl) rfl (SelL.arr0 (f := f32) (fun _ => rfl) rfl (SelL.cells0 rfl (by simp [ren, rens, sigma, rens_f32, rens_f64, rens_i64, rens_ik, rens_str, rens_cp]) rfl ⟨⟨_, rfl⟩, ⟨⟨_, rfl⟩, ⟨⟨_, rfl⟩, trivial⟩⟩⟩)))) ⟨⟨_, rfl, .inl ⟨rfl, (lt_ptr (lts_cons rfl (lts_cons rfl (lts_cons (lt_sl (fun _ => rfl)) lts_nil))))⟩⟩, ⟨optr 2 u52 0, rfl, .inr ⟨by first | rfl | simp [ren, rens, sigma, rens_f32, rens_f64, rens_i64, rens_ik, rens_str, rens_cp], rfl⟩⟩, ⟨oref 1 u51 0 (L11.length + 1), rfl, .inr ⟨by first | rfl | simp [ren, rens, sigma, rens_f32, rens_f64, rens_i64, rens_ik, rens_str, rens_cp], rfl⟩⟩, ⟨_, rfl, .inl ⟨rfl, rfl⟩⟩, trivial⟩) (Le.of ⟨aR, aR, (by first | exact ALe.refl _ | exact ALe.eq (by rw [hl49] <;> rfl) | exact ALe.eq (by simp)), aR, trivial⟩ ⟨⟨rfl, .inr rfl⟩, ⟨rfl, .inr rfl⟩, ⟨rfl, .inr (by first | rfl | simp)⟩, ⟨rfl, .inl rfl⟩, ⟨rfl, .inl rfl⟩, ⟨rfl, .inr rfl⟩, trivial⟩))⟩
   ·refine yW<|ym rfl (i64 v14)<|yl rfl (ptr (mXc a0 a1 a2)) (LOp.fap und33 rfl siz2 rfl rfl rfl)<|yl rfl (i64 a0) (y2 agg2)<|yl rfl (b false) (LOp.eqb (LOp.leq rfl rfl rfl) hc4)<|zN ?_
    refine yF<|RunC.exit ?_
    cases oI h8_
    have hx := ho8 _ rfl
    exact ⟨L11, u5, u6, u7, u8, u9, (Le.of ⟨aR, trivial⟩ ⟨⟨rfl, .inl rfl⟩, ⟨rfl, .inr rfl⟩, ⟨rfl, .inl rfl⟩, ⟨rfl, .inl rfl⟩, ⟨rfl, .inl rfl⟩, ⟨rfl, .inr rfl⟩, trivial⟩), hx⟩
  ·rintro τ15 Γ15 ⟨L64, u59, u60, u61, u62, u63, hw15, rfl⟩
   refine RunC.le hw15 ?_
   replace h : i_SignsOf_k7 L64 = some (q0, q1) := h
   unfold i_SignsOf_k7 at h
   refine yS ?_
   obtain ⟨z16, hf30, h⟩ := oS h
   rcases z16 with z16 | z16
   ·replace h := (osum_inl _ _ _).symm.trans h
    obtain ⟨r65, r66, hz17, h⟩ := obind2_some h
    cases hz17
    obtain ⟨hn31, h⟩ := need_some h
    refine yW<|ym rfl (oref 1 u60 0 L64.length)<|ROps.callO (A := [oref 1 u60 0 L64.length]) (args := [oref 0 0 0 L64.length]) (Γc := [⟨0, some (L64.map f32)⟩]) (Γc' := [⟨0, some (r66.map f32)⟩]) (r' := tup [oref 1 u60 0 L64.length, b r65]) (Γ' := [⟨u59, none⟩, ⟨u60, some (r66.map f32)⟩, ⟨u61, none⟩, ⟨u62, none⟩, ⟨u63, none⟩, ⟨0, none⟩]) [(1, u60)] [] rfl (CallAs.func ent77 rfl rfl) rfl rfl (SelOk.of (ndB_ok rfl) (SelL.arr0 (f := f32) (fun _ => rfl) rfl trivial)) (live_of ⟨⟨_, _, rfl⟩, trivial⟩) (by simp [ren, rens, sigma, rens_f32, rens_f64, rens_i64, rens_ik, rens_str, rens_cp]) rfl (i_allFinite_0o_ok0 L64 r65 r66 hf30) rfl (news_of trivial) (ndB_ok rfl) (by simp [ren, rens, sigma, of_decide_eq_true hn31]) (by simp [backOb, sigma, ren, rens, rens_f32, rens_f64, rens_i64, rens_ik, rens_str, rens_cp])<|yl rfl (oref 1 u60 0 L64.length) y3<|yl rfl (b r65) y3<|ya rfl (oref 1 u60 0 L64.length)<|ya rfl (b r65)<|zN ?_
    refine RunC.ret ?_
    have hq := oI h
    obtain ⟨hq0, hq⟩ := Prod.mk.inj hq
    subst q0
    subst q1
    exact bodyQ.mk (r' := tup [oref 1 u60 0 r66.length, b r65]) [(1, u60)] (.inr rfl) rfl (ndB_ok rfl) (by simp [ren, rens, sigma]) rfl (Res.eq (Res.two rfl (RV.tmp rfl) (RV.tmp rfl)) (by rw [(show r66.length = L64.length from (of_decide_eq_true hn31))] <;> rfl)) (SelL.arr0 (f := f32) (fun _ => rfl) rfl trivial)
   ·replace h := (osum_inr _ _ _).symm.trans h
    obtain ⟨r67, r68, r69, hz18, h⟩ := obind3_some h
    cases hz18
    obtain ⟨hn32, h⟩ := need_some h
    refine yW<|ym rfl (oref 1 u60 0 L64.length)<|ROps.callO (A := [oref 1 u60 0 L64.length]) (args := [oref 0 0 0 L64.length]) (Γc := [⟨0, some (L64.map f32)⟩]) (Γc' := [⟨0, some (r68.map f32)⟩, ⟨0, some (r69.map f32)⟩]) (r' := tup [oref 0 (u59 + 1) 0 r69.length, b r67]) (Γ' := [⟨(u59 + 1), some (r69.map f32)⟩, ⟨u60, some (r68.map f32)⟩, ⟨u61, none⟩, ⟨u62, none⟩, ⟨u63, none⟩, ⟨0, none⟩]) [(1, u60)] [(0, (u59 + 1))] rfl (CallAs.func ent77 rfl rfl) rfl rfl (SelOk.of (ndB_ok rfl) (SelL.arr0 (f := f32) (fun _ => rfl) rfl trivial)) (live_of ⟨⟨_, _, rfl⟩, trivial⟩) (by simp [ren, rens, sigma, rens_f32, rens_f64, rens_i64, rens_ik, rens_str, rens_cp]) rfl (i_allFinite_0o_ok1 L64 r67 r68 r69 hf30) rfl (news_of ⟨⟨_, rfl, rfl⟩, trivial⟩) (show List.Nodup [1, 0] from by decide) (by simp [ren, rens, sigma, of_decide_eq_true hn32]) (by simp [backOb, sigma, ren, rens, rens_f32, rens_f64, rens_i64, rens_ik, rens_str, rens_cp])<|yl rfl (oref 0 (u59 + 1) 0 r69.length) y3<|yl rfl (b r67) y3<|ya rfl (oref 0 (u59 + 1) 0 r69.length)<|ya rfl (b r67)<|zN ?_
    refine RunC.ret ?_
    have hq := oI h
    obtain ⟨hq0, hq⟩ := Prod.mk.inj hq
    subst q0
    subst q1
    exact bodyQ.mk (r' := tup [oref 0 (u59 + 1) 0 r69.length, b r67]) [(0, (u59 + 1))] (.inr rfl) rfl (ndB_ok rfl) (by simp [ren, rens, sigma]) rfl (Res.two rfl (RV.tmp rfl) (RV.tmp rfl)) (SelL.arr0 (f := f32) (fun _ => rfl) rfl trivial)
 ·refine yW<|yl rfl (agg (mXc a0 a1 a2)) (yL agg33 siz33)<|yd rfl (b false) (TOp.eqb (TOp.callB (CallAs.func ent91 rfl rfl) (Bors.cons (Bor.agg (bP (bP (bS bN)))) bN) rfl rfl (i_isSquare_ok a0 a1 a2 r1 hf1)) hc2)<|yl rfl (b true) y0<|zN ?_
  refine yT<|zQ<|ya rfl nilsl<|ya rfl (b false)<|zN ?_
  refine RunC.nil_slot (Γ' := [⟨1, some (([] : List F).map f32)⟩, ⟨0, none⟩, ⟨0, none⟩, ⟨0, none⟩, ⟨0, none⟩, ⟨0, none⟩]) 2 0 rfl rfl rfl<|RunC.ret ?_
  have hq := oI h
  obtain ⟨hq0, hq⟩ := Prod.mk.inj hq
  subst q0
  subst q1
  exact yB (tup [oref 0 1 0 (([] : List F).length), b false]) [(0, 1)] (Res.eq (Res.two rfl (RV.tmp rfl) (RV.tmp rfl)) (by rw [(show ([] : List F).length = 0 from rfl)] <;> rfl)) (SelL.arr0 (f := f32) (fun _ => rfl) rfl trivial)
def w_r8Gap (a0 : F) (a1 : F) : Option (F) :=
 olet (fop .sub .f64 a0 a1) fun (x1 : F) =>
 olet (fop .sub .f64 a1 a0) fun (x2 : F) =>
 obind (fmaxN .f64 x1 x2) fun (y3 : F) =>
 some y3
theorem w_r8Gap_ok (a0 : F) (a1 : F) (q0 : F) (h : w_r8Gap a0 a1 = some q0) : Ev Try.prog 36 [f64 a0, f64 a1] [] (f64 q0) [] := by
 refine yE Try.func36 0 25 0 [(0, f64 a0), (1, f64 a1)] [] rfl ?_
 unfold w_r8Gap at h
 refine zQ<|yl rfl (f64 (some 0)) (LOp.le (LOp.assign rfl rfl) (ALe.fl (by kernel_rfl) (by kernel_rfl)))<|zN ?_
 refine yS ?_
 obtain ⟨x1, hx1, h⟩ := oL h
 obtain ⟨x2, hx2, h⟩ := oL h
 obtain ⟨y3, hy3, h⟩ := oS h
 refine yW<|ym rfl (f64 a0)<|ym rfl (f64 a1)<|yd rfl (f64 x1) (TOp.eqr (TOp.fop (.inr (.inl rfl)) rfl (OpF.tmp rfl) (OpF.tmp rfl)) (congrArg (f .f64) hx1))<|ym rfl (f64 a1)<|ym rfl (f64 a0)<|yd rfl (f64 x2) (TOp.eqr (TOp.fop (.inr (.inl rfl)) rfl (OpF.tmp rfl) (OpF.tmp rfl)) (congrArg (f .f64) hx2))<|yl rfl (f64 y3) (LOp.max2f rfl (OpF.tmp rfl) (OpF.tmp rfl) hy3)<|ya rfl (f64 y3)<|zN ?_
 refine RunC.ret ?_
 have hq := oI h
 subst q0
 exact bodyQ.pure (.inr rfl) rfl (Res.one rfl (RV.tmp rfl))
def i_absolute (a0 : F) : Option (F) :=
 olet (fwiden a0) fun (x1 : F) =>
 obind (x_math_Abs x1) fun (r2 : F) =>
 obind (fnarrow r2) fun (y3 : F) =>
 some y3
theorem i_absolute_ok (a0 : F) (q0 : F) (h : i_absolute a0 = some q0) : Ev Try.prog 178 [f32 a0] [] (f32 q0) [] := by
 refine yE Try.func178 0 15 0 [(0, f32 a0)] [] rfl ?_
 unfold i_absolute at h
 refine zQ<|yl rfl (f32 (some 0)) (LOp.le (LOp.assign rfl rfl) (ALe.fl (by kernel_rfl) (by kernel_rfl)))<|zN ?_
 refine yS ?_
 obtain ⟨x1, hx1, h⟩ := oL h
 obtain ⟨r2, hf2, h⟩ := oS h
 obtain ⟨y3, hy3, h⟩ := oS h
 refine yW<|ym rfl (f32 a0)<|yd rfl (f64 x1) (TOp.eqr (TOp.widen (src := 28) (dst := 40) ⟨_, pun28⟩ pun40 rfl (OpF.tmp rfl)) (congrArg (f .f64) hx1))<|yd rfl (f64 r2) (yc ent180 rfl rfl bN0 (x_math_Abs_ok x1 r2 hf2))<|yd rfl (f32 y3) (TOp.narrow (src := 40) (dst := 28) ⟨_, pun40⟩ pun28 rfl (OpF.tmp rfl) hy3)<|ya rfl (f32 y3)<|zN ?_
 refine RunC.ret ?_
 have hq := oI h
 subst q0
 exact bodyQ.pure (.inr rfl) rfl (Res.one rfl (RV.tmp rfl))
def i_Matrix_rowNorm_b2 (a0 : Int) (a1 : Int) (a2 : List F) (v2 : Int) (y3 : F) (v4 : Int) : Option (LR (F × Int) (F) (F)) :=
 bsel (decide (v4 < a1)) (
  obind (i_Matrix_at a0 a1 a2 v2 v4) fun (r5 : F) =>
  obind (i_absolute r5) fun (r6 : F) =>
  olet (fop .add .f32 y3 r6) fun (x7 : F) =>
  olet (IntKind.i64.wrap (v4 + 1)) fun (x8 : Int) =>
  some (LR.next (x7, x8))) (
  some (LR.out y3))
def i_Matrix_rowNorm_s2 (a0 : Int) (a1 : Int) (a2 : List F) (v2 : Int) : (F × Int) → Option (LR (F × Int) (F) (F)) := fun s => i_Matrix_rowNorm_b2 a0 a1 a2 v2 s.1 s.2
def i_Matrix_rowNorm_k2 (y1 : F) (v2 : Int) (y9 : F) : Option (LR (F × Int) (F) (F)) :=
 obind (fmaxN .f32 y1 y9) fun (y10 : F) =>
 olet (IntKind.i64.wrap (v2 + 1)) fun (x11 : Int) =>
 some (LR.next (y10, x11))
def i_Matrix_rowNorm_b3 (a0 : Int) (a1 : Int) (a2 : List F) (y1 : F) (v2 : Int) : Option (LR (F × Int) (F) (F)) :=
 bsel (decide (v2 < a0)) (
  obind (loopM (i_Matrix_rowNorm_s2 a0 a1 a2 v2) (some 0, 0)) fun z => osum z (fun e => i_Matrix_rowNorm_k2 y1 v2 e) (fun r => some (LR.ret r))) (
  some (LR.out y1))
def i_Matrix_rowNorm_s3 (a0 : Int) (a1 : Int) (a2 : List F) : (F × Int) → Option (LR (F × Int) (F) (F)) := fun s => i_Matrix_rowNorm_b3 a0 a1 a2 s.1 s.2
def i_Matrix_rowNorm_k3 (y12 : F) : Option (F) :=
 some y12
def i_Matrix_rowNorm (a0 : Int) (a1 : Int) (a2 : List F) : Option (F) :=
 obind (loopM (i_Matrix_rowNorm_s3 a0 a1 a2) (some 0, 0)) fun z => osum z (fun e => i_Matrix_rowNorm_k3 e) (fun r => some r)
theorem i_Matrix_rowNorm_ok (a0 : Int) (a1 : Int) (a2 : List F) (q0 : F) (h : i_Matrix_rowNorm a0 a1 a2 = some q0) : Ev Try.prog 153 [agg (mXc a0 a1 a2)] [] (f32 q0) [] := by
 refine yE Try.func153 0 61 0 [(0, agg (mXc a0 a1 a2))] [] rfl ?_
 unfold i_Matrix_rowNorm at h
 refine zQ<|yd rfl (ptr (mXc a0 a1 a2)) (TOp.box_s rfl rfl rfl)<|yl rfl (f32 (some 0)) (LOp.le (LOp.assign rfl rfl) (ALe.fl (by kernel_rfl) (by kernel_rfl)))<|zN ?_
 refine zQ<|yl rfl (f32 (some 0)) (LOp.le (LOp.assign rfl rfl) (ALe.fl (by kernel_rfl) (by kernel_rfl)))<|zN ?_
 refine yS<|zQ<|yl rfl (ptr (mXc a0 a1 a2)) (LOp.fap und33 rfl siz2 rfl rfl rfl)<|yl rfl (i64 a0) (y2 agg2)<|ym rfl (i64 0)<|zN ?_
 obtain ⟨z4, hz_4, h⟩ := oS h
 refine RunC.cutN (fun τ Γ => ∃ (y12 : F), WeakLe τ [(3, f32 y12)] ∧ DeadLe Γ [] ∧ z4 = .inl y12) ?_ ?_
 ·refine RunC.block (RunC.loop (RunL.loopM (x := z4) (i_Matrix_rowNorm_s3 a0 a1 a2) (fun (s : F × Int) τ Γ => WeakLe τ [(1, ptr (mXc a0 a1 a2)), (3, f32 s.1), (8, i64 a0), (9, i64 s.2)] ∧ DeadLe Γ []) ?_ _ _ _ hz_4 ⟨⟨aR, aR, aR, aR, trivial⟩, trivial⟩))
  rintro ⟨y1, v2⟩ τ4 Γ4 y4_ ⟨hw4, hd4⟩ h4_ ho4 hr4
  refine RunC.wl (τ' := [(1, ptr (mXc a0 a1 a2)), (3, f32 y1), (8, i64 a0), (9, i64 v2)]) (Γ' := []) hw4 hd4 ?_
  replace h4_ : i_Matrix_rowNorm_b3 a0 a1 a2 y1 v2 = some y4_ := h4_
  unfold i_Matrix_rowNorm_b3 at h4_
  refine yS ?_
  rcases oB h4_ with ⟨hc1, h4_⟩ | ⟨hc1, h4_⟩
  ·refine yW<|yl rfl (b true) (LOp.eqb (LOp.lss rfl rfl rfl) hc1)<|zN ?_
   refine yS<|yT<|RunC.skip<|yS<|RunC.block<|zQ<|ym rfl (i64 v2)<|ya rfl (i64 v2)<|zN ?_
   refine zQ<|yl rfl (f32 (some 0)) (LOp.le (LOp.assign rfl rfl) (ALe.fl (by kernel_rfl) (by kernel_rfl)))<|zN ?_
   refine yS<|zQ<|yl rfl (ptr [i64 a1, (sFc a2)]) (LOp.fap und33 rfl siz2 rfl rfl rfl)<|yl rfl (i64 a1) (y2 agg2)<|ym rfl (i64 0)<|zN ?_
   obtain ⟨z5, hz_5, h4_⟩ := oS h4_
   refine RunC.cutN (fun τ Γ => ∃ (y9 : F), WeakLe τ [(1, ptr (mXc a0 a1 a2)), (3, f32 y1), (5, f32 y9), (8, i64 a0), (9, i64 v2)] ∧ DeadLe Γ [] ∧ z5 = .inl y9) ?_ ?_
   ·refine RunC.block (RunC.loop (RunL.loopM (x := z5) (i_Matrix_rowNorm_s2 a0 a1 a2 v2) (fun (s : F × Int) τ Γ => WeakLe τ [(1, ptr (mXc a0 a1 a2)), (3, f32 y1), (4, i64 v2), (5, f32 s.1), (8, i64 a0), (9, i64 v2), (13, i64 a1), (14, i64 s.2)] ∧ DeadLe Γ []) ?_ _ _ _ hz_5 ⟨⟨aR, aR, aR, aR, aR, aR, aR, aR, trivial⟩, trivial⟩))
    rintro ⟨y3, v4⟩ τ5 Γ5 y5_ ⟨hw5, hd5⟩ h5_ ho5 hr5
    refine RunC.wl (τ' := [(1, ptr (mXc a0 a1 a2)), (3, f32 y1), (4, i64 v2), (5, f32 y3), (8, i64 a0), (9, i64 v2), (13, i64 a1), (14, i64 v4)]) (Γ' := []) hw5 hd5 ?_
    replace h5_ : i_Matrix_rowNorm_b2 a0 a1 a2 v2 y3 v4 = some y5_ := h5_
    unfold i_Matrix_rowNorm_b2 at h5_
    refine yS ?_
    rcases oB h5_ with ⟨hc2, h5_⟩ | ⟨hc2, h5_⟩
    ·refine yW<|yl rfl (b true) (LOp.eqb (LOp.lss rfl rfl rfl) hc2)<|zN ?_
     refine yS<|yT<|RunC.skip<|yS<|RunC.block<|zQ<|ym rfl (i64 v4)<|ya rfl (i64 v4)<|zN ?_
     obtain ⟨r5, hf3, h5_⟩ := oS h5_
     obtain ⟨r6, hf4, h5_⟩ := oS h5_
     obtain ⟨x7, hx5, h5_⟩ := oL h5_
     refine yW<|ym rfl (f32 y3)<|yl rfl (agg (mXc a0 a1 a2)) (yL agg33 siz33)<|ym rfl (i64 v2)<|ym rfl (i64 v4)<|yd rfl (f32 r5) (TOp.callB (CallAs.func ent94 rfl rfl) (Bors.cons (Bor.agg (bP (bP (bS bN)))) (bP bN0)) rfl rfl (i_Matrix_at_ok a0 a1 a2 v2 v4 r5 hf3))<|yd rfl (f32 r6) (yc ent178 rfl rfl bN0 (i_absolute_ok r5 r6 hf4))<|yd rfl (f32 x7) (TOp.eqr (TOp.fop (.inl rfl) rfl (OpF.tmp rfl) (OpF.tmp rfl)) (congrArg (f .f32) hx5))<|ya rfl (f32 x7)<|zN ?_
     obtain ⟨x8, hx6, h5_⟩ := oL h5_
     refine yW<|yl rfl (i64 x8) (LOp.eqr (LOp.add rfl rfl rfl) (congrArg (ik .i64) hx6))<|ym rfl (i64 x8)<|zN ?_
     cases oI h5_
     exact ⟨_, rfl, ⟨aR, aR, aR, aR, aR, aR, aR, aR, trivial⟩, trivial⟩
    ·refine yW<|yl rfl (b false) (LOp.eqb (LOp.lss rfl rfl rfl) hc2)<|zN ?_
     refine yS<|yF<|RunC.exit ?_
     cases oI h5_
     have hx := ho5 _ rfl
     exact ⟨y3, ⟨aR, aR, aR, aR, aR, trivial⟩, trivial, hx⟩
   ·rintro τ6 Γ6 ⟨y9, hw6, hd6, rfl⟩
    refine RunC.wl hw6 hd6 ?_
    replace h4_ : i_Matrix_rowNorm_k2 y1 v2 y9 = some y4_ := h4_
    unfold i_Matrix_rowNorm_k2 at h4_
    obtain ⟨y10, hy7, h4_⟩ := oS h4_
    refine yW<|ym rfl (f32 y1)<|ym rfl (f32 y9)<|yl rfl (f32 y10) (LOp.max2f rfl (OpF.tmp rfl) (OpF.tmp rfl) hy7)<|ya rfl (f32 y10)<|zN ?_
    obtain ⟨x11, hx8, h4_⟩ := oL h4_
    refine yW<|yl rfl (i64 x11) (LOp.eqr (LOp.add rfl rfl rfl) (congrArg (ik .i64) hx8))<|ym rfl (i64 x11)<|zN ?_
    cases oI h4_
    exact ⟨_, rfl, ⟨aR, aR, aR, aR, trivial⟩, trivial⟩
  ·refine yW<|yl rfl (b false) (LOp.eqb (LOp.lss rfl rfl rfl) hc1)<|zN ?_
   refine yS<|yF<|RunC.exit ?_
   cases oI h4_
   have hx := ho4 _ rfl
   exact ⟨y1, ⟨aR, trivial⟩, trivial, hx⟩
 ·rintro τ7 Γ7 ⟨y12, hw7, hd7, rfl⟩
  refine RunC.wl hw7 hd7 ?_
  replace h : i_Matrix_rowNorm_k3 y12 = some q0 := h
  unfold i_Matrix_rowNorm_k3 at h
  refine zQ<|ym rfl (f32 y12)<|ya rfl (f32 y12)<|zN ?_
  refine RunC.ret ?_
  have hq := oI h
  subst q0
  exact bodyQ.pure (.inr rfl) rfl (Res.one rfl (RV.tmp rfl))
def i_RowNorm (a0 : Int) (a1 : Int) (a2 : List F) : Option (F × Bool) :=
 obind (i_ValidMatrix a0 a1 a2) fun (r1 : Bool) =>
 bsel r1 (
  obind (i_Matrix_rowNorm a0 a1 a2) fun (r2 : F) =>
  obind2 (i_finite r2) fun (r3 : F) (r4 : Bool) =>
  some (r3, r4)) (
  some (some 0, false))
theorem i_RowNorm_ok (a0 : Int) (a1 : Int) (a2 : List F) (q0 : F) (q1 : Bool) (h : i_RowNorm a0 a1 a2 = some (q0, q1)) : Ev Try.prog 97 [agg (mXc a0 a1 a2)] [] (tup [f32 q0, b q1]) [] := by
 refine yE Try.func97 0 25 0 [(0, agg (mXc a0 a1 a2))] [] rfl ?_
 unfold i_RowNorm at h
 refine zQ<|yd rfl (ptr (mXc a0 a1 a2)) (TOp.box_s rfl rfl rfl)<|yl rfl (f32 (some 0)) (LOp.le (LOp.assign rfl rfl) (ALe.fl (by kernel_rfl) (by kernel_rfl)))<|ya rfl (b false)<|zN ?_
 refine yS<|yS ?_
 obtain ⟨r1, hf1, h⟩ := oS h
 rcases oB h with ⟨hc2, h⟩ | ⟨hc2, h⟩
 ·refine yW<|yl rfl (agg (mXc a0 a1 a2)) (yL agg33 siz33)<|yd rfl (b true) (TOp.eqb (TOp.callB (CallAs.func ent102 rfl rfl) (Bors.cons (Bor.agg (bP (bP (bS bN)))) bN) rfl rfl (i_ValidMatrix_ok a0 a1 a2 r1 hf1)) hc2)<|yl rfl (b false) y1<|zN ?_
  refine yF<|RunC.skip<|yS ?_
  obtain ⟨r2, hf3, h⟩ := oS h
  obtain ⟨r3, r4, hf4, h⟩ := obind2_some h
  refine yW<|yl rfl (agg (mXc a0 a1 a2)) (yL agg33 siz33)<|yd rfl (f32 r2) (TOp.callB (CallAs.func ent153 rfl rfl) (Bors.cons (Bor.agg (bP (bP (bS bN)))) bN) rfl rfl (i_Matrix_rowNorm_ok a0 a1 a2 r2 hf3))<|yd rfl (tup [f32 r3, b r4]) (yc ent151 rfl rfl bN0 (i_finite_ok r2 r3 r4 hf4))<|yl rfl (f32 r3) y3<|yl rfl (b r4) y3<|ya rfl (f32 r3)<|ya rfl (b r4)<|zN ?_
  refine RunC.ret ?_
  have hq := oI h
  obtain ⟨hq0, hq⟩ := Prod.mk.inj hq
  subst q0
  subst q1
  exact bodyQ.pure (.inr rfl) rfl (Res.two rfl (RV.tmp rfl) (RV.tmp rfl))
 ·refine yW<|yl rfl (agg (mXc a0 a1 a2)) (yL agg33 siz33)<|yd rfl (b false) (TOp.eqb (TOp.callB (CallAs.func ent102 rfl rfl) (Bors.cons (Bor.agg (bP (bP (bS bN)))) bN) rfl rfl (i_ValidMatrix_ok a0 a1 a2 r1 hf1)) hc2)<|yl rfl (b true) y0<|zN ?_
  refine yT<|zQ<|yl rfl (f32 (some 0)) (LOp.le (LOp.assign rfl rfl) (ALe.fl (by kernel_rfl) (by kernel_rfl)))<|ya rfl (b false)<|zN ?_
  refine RunC.ret ?_
  have hq := oI h
  obtain ⟨hq0, hq⟩ := Prod.mk.inj hq
  subst q0
  subst q1
  exact bodyQ.pure (.inr rfl) rfl (Res.two rfl (RV.tmp rfl) (RV.tmp rfl))
def i_ExpMatrix_1 (a0 : Int) (a1 : Int) (a2 : Int) (a3 : Int) (a4 : List F) : Option (F) :=
 obind (i_Matrix_at a2 a3 a4 a0 a1) fun (r1 : F) =>
 obind (i_mul (some 1056964608) r1) fun (r2 : F) =>
 some r2
theorem i_ExpMatrix_1_ok (a0 : Int) (a1 : Int) (a2 : Int) (a3 : Int) (a4 : List F) (q0 : F) (h : i_ExpMatrix_1 a0 a1 a2 a3 a4 = some q0) : Ev Try.prog 98 [i64 a0, i64 a1, ptr (mXc a2 a3 a4)] [] (f32 q0) [] := by
 refine yE Try.func98 0 23 0 [(0, i64 a0), (1, i64 a1), (2, ptr (mXc a2 a3 a4))] [] rfl ?_
 unfold i_ExpMatrix_1 at h
 refine zQ<|yl rfl (f32 (some 0)) (LOp.le (LOp.assign rfl rfl) (ALe.fl (by kernel_rfl) (by kernel_rfl)))<|zN ?_
 refine yS ?_
 obtain ⟨r1, hf1, h⟩ := oS h
 obtain ⟨r2, hf2, h⟩ := oS h
 refine yW<|yl rfl (agg (mXc a2 a3 a4)) (yL agg33 siz33)<|ym rfl (i64 a0)<|ym rfl (i64 a1)<|yd rfl (f32 r1) (TOp.callB (CallAs.func ent94 rfl rfl) (Bors.cons (Bor.agg (bP (bP (bS bN)))) (bP bN0)) rfl rfl (i_Matrix_at_ok a2 a3 a4 a0 a1 r1 hf1))<|yd rfl (f32 r2) (yc ent76 rfl rfl (Bors.cons (Bor.le (ALe.fl (by kernel_rfl) (by kernel_rfl)) (Bor.pure rfl)) bN0) (i_mul_ok (some 1056964608) r1 r2 hf2))<|ya rfl (f32 r2)<|zN ?_
 refine RunC.ret ?_
 have hq := oI h
 subst q0
 exact bodyQ.pure (.inr rfl) rfl (Res.one rfl (RV.tmp rfl))
def i_made_2Fi_ExpMatrix_1_b2 (a1 : Int) (a2 : Int) (a3 : Int) (a4 : List F) (r1 : Int) (r2 : Int) (r3 : List F) (v6 : Int) (L7 : List F) (v9 : Int) : Option (LR ((List F) × Int) ((List F)) (Int × Int × (List F))) :=
 bsel (decide (v9 < a1)) (
  obind (i_ExpMatrix_1 v6 v9 a2 a3 a4) fun (r11 : F) =>
  obind (i_Matrix_set_02o r1 r2 v6 v9 r11 L7) fun (r12 : List F) =>
  need (decide (r12.length = r3.length)) <|
  olet (IntKind.i64.wrap (v9 + 1)) fun (x13 : Int) =>
  some (LR.next (r12, x13))) (
  some (LR.out L7))
def i_made_2Fi_ExpMatrix_1_s2 (a1 : Int) (a2 : Int) (a3 : Int) (a4 : List F) (r1 : Int) (r2 : Int) (r3 : List F) (v6 : Int) : ((List F) × Int) → Option (LR ((List F) × Int) ((List F)) (Int × Int × (List F))) := fun s => i_made_2Fi_ExpMatrix_1_b2 a1 a2 a3 a4 r1 r2 r3 v6 s.1 s.2
def i_made_2Fi_ExpMatrix_1_k2 (v6 : Int) (L14 : List F) : Option (LR ((List F) × Int) ((List F)) (Int × Int × (List F))) :=
 olet (IntKind.i64.wrap (v6 + 1)) fun (x16 : Int) =>
 some (LR.next (L14, x16))
def i_made_2Fi_ExpMatrix_1_b3 (a0 : Int) (a1 : Int) (a2 : Int) (a3 : Int) (a4 : List F) (r1 : Int) (r2 : Int) (r3 : List F) (L4 : List F) (v6 : Int) : Option (LR ((List F) × Int) ((List F)) (Int × Int × (List F))) :=
 bsel (decide (v6 < a0)) (
  obind (loopM (i_made_2Fi_ExpMatrix_1_s2 a1 a2 a3 a4 r1 r2 r3 v6) (L4, 0)) fun z => osum z (fun e => i_made_2Fi_ExpMatrix_1_k2 v6 e) (fun r => some (LR.ret r))) (
  some (LR.out L4))
def i_made_2Fi_ExpMatrix_1_s3 (a0 : Int) (a1 : Int) (a2 : Int) (a3 : Int) (a4 : List F) (r1 : Int) (r2 : Int) (r3 : List F) : ((List F) × Int) → Option (LR ((List F) × Int) ((List F)) (Int × Int × (List F))) := fun s => i_made_2Fi_ExpMatrix_1_b3 a0 a1 a2 a3 a4 r1 r2 r3 s.1 s.2
def i_made_2Fi_ExpMatrix_1_k3 (r1 : Int) (r2 : Int) (L17 : List F) : Option (Int × Int × (List F)) :=
 some (r1, r2, L17)
def i_made_2Fi_ExpMatrix_1 (a0 : Int) (a1 : Int) (a2 : Int) (a3 : Int) (a4 : List F) : Option (Int × Int × (List F)) :=
 obind3 (i_newMatrix a0 a1) fun (r1 : Int) (r2 : Int) (r3 : List F) =>
 obind (loopM (i_made_2Fi_ExpMatrix_1_s3 a0 a1 a2 a3 a4 r1 r2 r3) (r3, 0)) fun z => osum z (fun e => i_made_2Fi_ExpMatrix_1_k3 r1 r2 e) (fun r => some r)
theorem i_made_2Fi_ExpMatrix_1_ok (a0 : Int) (a1 : Int) (a2 : Int) (a3 : Int) (a4 : List F) (q0 : Int) (q1 : Int) (q2 : List F) (h : i_made_2Fi_ExpMatrix_1 a0 a1 a2 a3 a4 = some (q0, q1, q2)) : Ev Try.prog 64 [i64 a0, i64 a1, fn (.func 98) [] [ptr (mXc a2 a3 a4)]] [] (agg (oXc q0 q1 0 0 q2.length)) [⟨0, some (q2.map f32)⟩] := by
 refine yE Try.func64 3 65 0 ([(0, i64 a0), (1, i64 a1), (2, fn (.func 98) [] [ptr (mXc a2 a3 a4)])]) [⟨0, none⟩, ⟨0, none⟩, ⟨0, none⟩] rfl ?_
 unfold i_made_2Fi_ExpMatrix_1 at h
 refine zQ<|ye rfl (optr 0 1 0) [⟨1, some zMx⟩, ⟨0, none⟩, ⟨0, none⟩] (TOp.alloc_o (g := ⟨0, none⟩) 0 rfl zer33 zok33 rfl)<|zN ?_
 refine yS ?_
 obtain ⟨r1, r2, r3, hf1, h⟩ := obind3_some h
 refine yW<|ym rfl (i64 a0)<|ym rfl (i64 a1)<|ye rfl (agg (oXc r1 r2 1 1 r3.length)) [⟨1, some zMx⟩, ⟨1, some (r3.map f32)⟩, ⟨0, none⟩] (TOp.callBN (ls := [(r3.map f32)]) [1] (CallAs.func ent113 rfl rfl) (bP bN0) rfl (i_newMatrix_ok a0 a1 r1 r2 r3 hf1) (and_all (lts0_map (f := f32) (fun _ => rfl) _) rfl) (and_all (noss_map (f := f32) (fun _ => rfl) _) rfl) rfl (by decide) (ns_of ⟨⟨_, rfl⟩, trivial⟩))<|ye rfl (optr 2 1 0) [⟨1, some zMx⟩, ⟨1, some (r3.map f32)⟩, ⟨1, some zMx⟩] (TOp.alloc_o (g := ⟨0, none⟩) 2 rfl zer33 zok33 rfl)<|ys (agg (oXc r1 r2 1 1 r3.length)) (oXc r1 r2 1 1 r3.length) [⟨1, some zMx⟩, ⟨1, some (r3.map f32)⟩, ⟨1, some (oXc r1 r2 1 1 r3.length)⟩] siz33<|zN ?_
 refine yS<|zQ<|ym rfl (i64 a0)<|ym rfl (i64 0)<|zN ?_
 obtain ⟨z4, hz_4, h⟩ := oS h
 refine RunC.cutN (fun τ Γ => ∃ (L17 : List F), L17.length = r3.length ∧ WeakLe τ [(6, optr 0 1 0), (7, optr 2 1 0)] ∧ DeadLe Γ [⟨1, some zMx⟩, ⟨1, some (L17.map f32)⟩, ⟨1, some (oXc r1 r2 1 1 r3.length)⟩] ∧ z4 = .inl L17) ?_ ?_
 ·refine RunC.block (RunC.loop (RunL.loopM (x := z4) (i_made_2Fi_ExpMatrix_1_s3 a0 a1 a2 a3 a4 r1 r2 r3) (fun (s : (List F) × Int) τ Γ => s.1.length = r3.length ∧ WeakLe τ [(1, i64 a1), (2, fn (.func 98) [] [ptr (mXc a2 a3 a4)]), (6, optr 0 1 0), (7, optr 2 1 0), (13, i64 a0), (14, i64 s.2)] ∧ DeadLe Γ [⟨1, some zMx⟩, ⟨1, some (s.1.map f32)⟩, ⟨1, some (oXc r1 r2 1 1 r3.length)⟩]) ?_ _ _ _ hz_4 ⟨rfl, ⟨aR, aR, aR, aR, aR, aR, trivial⟩, ⟨⟨rfl, .inr rfl⟩, ⟨rfl, .inr rfl⟩, ⟨rfl, .inr rfl⟩, trivial⟩⟩))
  rintro ⟨L4, v6⟩ τ4 Γ4 y4_ ⟨hl5, hw4, hd4⟩ h4_ ho4 hr4
  refine RunC.wl (τ' := [(1, i64 a1), (2, fn (.func 98) [] [ptr (mXc a2 a3 a4)]), (6, optr 0 1 0), (7, optr 2 1 0), (13, i64 a0), (14, i64 v6)]) (Γ' := [⟨1, some zMx⟩, ⟨1, some (L4.map f32)⟩, ⟨1, some (oXc r1 r2 1 1 r3.length)⟩]) hw4 hd4 ?_
  replace hl5 : L4.length = r3.length := hl5
  replace h4_ : i_made_2Fi_ExpMatrix_1_b3 a0 a1 a2 a3 a4 r1 r2 r3 L4 v6 = some y4_ := h4_
  unfold i_made_2Fi_ExpMatrix_1_b3 at h4_
  refine yS ?_
  rcases oB h4_ with ⟨hc2, h4_⟩ | ⟨hc2, h4_⟩
  ·refine yW<|yl rfl (b true) (LOp.eqb (LOp.lss rfl rfl rfl) hc2)<|zN ?_
   refine yS<|yT<|RunC.skip<|yS<|RunC.block<|zQ<|ym rfl (i64 v6)<|ya rfl (i64 v6)<|zN ?_
   refine zQ<|ym rfl (i64 a1)<|ym rfl (i64 0)<|zN ?_
   obtain ⟨z5, hz_5, h4_⟩ := oS h4_
   refine RunC.cutN (fun τ Γ => ∃ (L14 : List F), L14.length = r3.length ∧ WeakLe τ [(1, i64 a1), (2, fn (.func 98) [] [ptr (mXc a2 a3 a4)]), (6, optr 0 1 0), (7, optr 2 1 0), (13, i64 a0), (14, i64 v6)] ∧ DeadLe Γ [⟨1, some zMx⟩, ⟨1, some (L14.map f32)⟩, ⟨1, some (oXc r1 r2 1 1 r3.length)⟩] ∧ z5 = .inl L14) ?_ ?_
   ·refine RunC.block (RunC.loop (RunL.loopM (x := z5) (i_made_2Fi_ExpMatrix_1_s2 a1 a2 a3 a4 r1 r2 r3 v6) (fun (s : (List F) × Int) τ Γ => s.1.length = r3.length ∧ WeakLe τ [(1, i64 a1), (2, fn (.func 98) [] [ptr (mXc a2 a3 a4)]), (6, optr 0 1 0), (7, optr 2 1 0), (8, i64 v6), (13, i64 a0), (14, i64 v6), (17, i64 a1), (18, i64 s.2)] ∧ DeadLe Γ [⟨1, some zMx⟩, ⟨1, some (s.1.map f32)⟩, ⟨1, some (oXc r1 r2 1 1 r3.length)⟩]) ?_ _ _ _ hz_5 ⟨hl5, ⟨aR, aR, aR, aR, aR, aR, aR, aR, aR, trivial⟩, ⟨⟨rfl, .inr rfl⟩, ⟨rfl, .inr rfl⟩, ⟨rfl, .inr rfl⟩, trivial⟩⟩))
    rintro ⟨L7, v9⟩ τ5 Γ5 y5_ ⟨hl8, hw5, hd5⟩ h5_ ho5 hr5
    refine RunC.wl (τ' := [(1, i64 a1), (2, fn (.func 98) [] [ptr (mXc a2 a3 a4)]), (6, optr 0 1 0), (7, optr 2 1 0), (8, i64 v6), (13, i64 a0), (14, i64 v6), (17, i64 a1), (18, i64 v9)]) (Γ' := [⟨1, some zMx⟩, ⟨1, some (L7.map f32)⟩, ⟨1, some (oXc r1 r2 1 1 r3.length)⟩]) hw5 hd5 ?_
    replace hl8 : L7.length = r3.length := hl8
    replace h5_ : i_made_2Fi_ExpMatrix_1_b2 a1 a2 a3 a4 r1 r2 r3 v6 L7 v9 = some y5_ := h5_
    unfold i_made_2Fi_ExpMatrix_1_b2 at h5_
    refine yS ?_
    rcases oB h5_ with ⟨hc3, h5_⟩ | ⟨hc3, h5_⟩
    ·refine yW<|yl rfl (b true) (LOp.eqb (LOp.lss rfl rfl rfl) hc3)<|zN ?_
     refine yS<|yT<|RunC.skip<|yS<|RunC.block<|zQ<|ym rfl (i64 v9)<|ya rfl (i64 v9)<|zN ?_
     obtain ⟨r11, hf5, h5_⟩ := oS h5_
     obtain ⟨r12, hf6, h5_⟩ := oS h5_
     obtain ⟨hn7, h5_⟩ := need_some h5_
     refine RunC.region_draw (Γ' := [⟨1, some zMx⟩, ⟨1, some (L7.map f32)⟩, ⟨1, some (oXc r1 r2 1 1 r3.length)⟩]) 7 mixed 
      (TR.d (r := agg (oXc r1 r2 1 1 r3.length)) (fs := []) rfl rfl (TOp.loadAgg_o rfl agg33 siz33 rfl rfl rfl rfl) <|
      (tm rfl (i64 v6) <|
      (tm rfl (i64 v9) <|
      (tm rfl (fn (.func 98) [] [ptr (mXc a2 a3 a4)]) <|
      (tm rfl (i64 v6) <|
      (tm rfl (i64 v9) <|
      (TR.d (r := f32 r11) (fs := []) rfl rfl (TOp.callB (CallAs.fn ent98 rfl rfl rfl rfl) (bP (bP (Bors.cons (Bor.ptr (bP (bP (bS bN)))) bN))) rfl rfl (i_ExpMatrix_1_ok v6 v9 a2 a3 a4 r11 hf5)) <|
      TR.nil))))))) rfl (by kernel_rfl) rfl fills_nil rfl ?_
     iterate 7 refine ROps.dropS ?_
     refine ROps.drop0<|ROps.callO (A := [agg (oXc r1 r2 1 1 r3.length), i64 v6, i64 v9, f32 r11]) (args := [agg (oXc r1 r2 0 0 L7.length), i64 v6, i64 v9, f32 r11]) (Γc := [⟨0, some (L7.map f32)⟩]) (Γc' := [⟨0, some (r12.map f32)⟩]) (r' := tup []) (Γ' := [⟨1, some zMx⟩, ⟨1, some (r12.map f32)⟩, ⟨1, some (oXc r1 r2 1 1 r3.length)⟩]) [(1, 1)] [] rfl (CallAs.func ent93 rfl rfl) rfl rfl (SelOk.of (ndB_ok rfl) (SelL.arr0 (f := f32) (fun _ => rfl) rfl trivial)) (live_of ⟨⟨_, _, rfl⟩, trivial⟩) (by simp [ren, rens, sigma, rens_f32, rens_f64, rens_i64, rens_ik, rens_str, rens_cp, hl8]) rfl (i_Matrix_set_02o_ok r1 r2 v6 v9 r11 L7 r12 hf6) rfl (news_of trivial) (ndB_ok rfl) (by simp [ren, rens, sigma, of_decide_eq_true hn7]) (by simp [backOb, sigma, ren, rens, rens_f32, rens_f64, rens_i64, rens_ik, rens_str, rens_cp])<|zN ?_
     obtain ⟨x13, hx8, h5_⟩ := oL h5_
     refine yW<|yl rfl (i64 x13) (LOp.eqr (LOp.add rfl rfl rfl) (congrArg (ik .i64) hx8))<|ym rfl (i64 x13)<|zN ?_
     cases oI h5_
     exact ⟨_, rfl, (of_decide_eq_true hn7), ⟨aR, aR, aR, aR, aR, aR, aR, aR, aR, trivial⟩, ⟨⟨rfl, .inr rfl⟩, ⟨rfl, .inr rfl⟩, ⟨rfl, .inr rfl⟩, trivial⟩⟩
    ·refine yW<|yl rfl (b false) (LOp.eqb (LOp.lss rfl rfl rfl) hc3)<|zN ?_
     refine yS<|yF<|RunC.exit ?_
     cases oI h5_
     have hx := ho5 _ rfl
     exact ⟨L7, hl8, ⟨aR, aR, aR, aR, aR, aR, trivial⟩, ⟨⟨rfl, .inr rfl⟩, ⟨rfl, .inr rfl⟩, ⟨rfl, .inr rfl⟩, trivial⟩, hx⟩
   ·rintro τ6 Γ6 ⟨L14, hl15, hw6, hd6, rfl⟩
    refine RunC.wl hw6 hd6 ?_
    replace h4_ : i_made_2Fi_ExpMatrix_1_k2 v6 L14 = some y4_ := h4_
    unfold i_made_2Fi_ExpMatrix_1_k2 at h4_
    obtain ⟨x16, hx9, h4_⟩ := oL h4_
    refine yW<|yl rfl (i64 x16) (LOp.eqr (LOp.add rfl rfl rfl) (congrArg (ik .i64) hx9))<|ym rfl (i64 x16)<|zN ?_
    cases oI h4_
    exact ⟨_, rfl, hl15, ⟨aR, aR, aR, aR, aR, aR, trivial⟩, ⟨⟨rfl, .inr rfl⟩, ⟨rfl, .inr rfl⟩, ⟨rfl, .inr rfl⟩, trivial⟩⟩
  ·refine yW<|yl rfl (b false) (LOp.eqb (LOp.lss rfl rfl rfl) hc2)<|zN ?_
   refine yS<|yF<|RunC.exit ?_
   cases oI h4_
   have hx := ho4 _ rfl
   exact ⟨L4, hl5, ⟨aR, aR, trivial⟩, ⟨⟨rfl, .inr rfl⟩, ⟨rfl, .inr rfl⟩, ⟨rfl, .inr rfl⟩, trivial⟩, hx⟩
 ·rintro τ7 Γ7 ⟨L17, hl18, hw7, hd7, rfl⟩
  refine RunC.wl hw7 hd7 ?_
  replace h : i_made_2Fi_ExpMatrix_1_k3 r1 r2 L17 = some (q0, q1, q2) := h
  unfold i_made_2Fi_ExpMatrix_1_k3 at h
  refine zQ<|yd rfl (agg (oXc r1 r2 1 1 r3.length)) (TOp.loadAgg_o rfl agg33 siz33 rfl rfl rfl rfl)<|ys (agg (oXc r1 r2 1 1 r3.length)) (oXc r1 r2 1 1 r3.length) [⟨1, some (oXc r1 r2 1 1 r3.length)⟩, ⟨1, some (L17.map f32)⟩, ⟨1, some (oXc r1 r2 1 1 r3.length)⟩] siz33<|zN ?_
  refine RunC.ret ?_
  have hq := oI h
  obtain ⟨hq0, hq⟩ := Prod.mk.inj hq
  obtain ⟨hq1, hq⟩ := Prod.mk.inj hq
  subst q0
  subst q1
  subst q2
  exact yB (agg (oXc r1 r2 1 1 L17.length)) [(1, 1)] (Res.eq (Res.one rfl (RV.cell agg33 siz33 rfl rfl rfl rfl)) (by rw [(show L17.length = r3.length from hl18)] <;> rfl)) (SelL.arr0 (f := f32) (fun _ => rfl) rfl trivial)
def i_unit_1 (a0 : Int) (a1 : Int) : Option (F) :=
 bsel (decide (a0 = a1)) (
  some (some 1065353216)) (
  some (some 0))
theorem i_unit_1_ok (a0 : Int) (a1 : Int) (q0 : F) (h : i_unit_1 a0 a1 = some q0) : Ev Try.prog 154 [i64 a0, i64 a1] [] (f32 q0) [] := by
 refine yE Try.func154 0 17 0 [(0, i64 a0), (1, i64 a1)] [] rfl ?_
 unfold i_unit_1 at h
 refine zQ<|yl rfl (f32 (some 0)) (LOp.le (LOp.assign rfl rfl) (ALe.fl (by kernel_rfl) (by kernel_rfl)))<|zN ?_
 refine yS<|yS ?_
 rcases oB h with ⟨hc1, h⟩ | ⟨hc1, h⟩
 ·refine yW<|ym rfl (i64 a0)<|ym rfl (i64 a1)<|yl rfl (b true) (LOp.eqb (LOp.eql rfl rfl rfl) hc1)<|zN ?_
  refine yT<|zQ<|yl rfl (f32 (some 1065353216)) (LOp.le (LOp.assign rfl rfl) (ALe.fl (by kernel_rfl) (by kernel_rfl)))<|zN ?_
  refine RunC.ret ?_
  have hq := oI h
  subst q0
  exact bodyQ.pure (.inr rfl) rfl (Res.one rfl (RV.tmp rfl))
 ·refine yW<|ym rfl (i64 a0)<|ym rfl (i64 a1)<|yl rfl (b false) (LOp.eqb (LOp.eql rfl rfl rfl) hc1)<|zN ?_
  refine yF<|RunC.skip<|zQ<|yl rfl (f32 (some 0)) (LOp.le (LOp.assign rfl rfl) (ALe.fl (by kernel_rfl) (by kernel_rfl)))<|zN ?_
  refine RunC.ret ?_
  have hq := oI h
  subst q0
  exact bodyQ.pure (.inr rfl) rfl (Res.one rfl (RV.tmp rfl))
def i_made_2Fi_unit_1_b2 (a1 : Int) (r1 : Int) (r2 : Int) (r3 : List F) (v6 : Int) (L7 : List F) (v9 : Int) : Option (LR ((List F) × Int) ((List F)) (Int × Int × (List F))) :=
 bsel (decide (v9 < a1)) (
  obind (i_unit_1 v6 v9) fun (r11 : F) =>
  obind (i_Matrix_set_02o r1 r2 v6 v9 r11 L7) fun (r12 : List F) =>
  need (decide (r12.length = r3.length)) <|
  olet (IntKind.i64.wrap (v9 + 1)) fun (x13 : Int) =>
  some (LR.next (r12, x13))) (
  some (LR.out L7))
def i_made_2Fi_unit_1_s2 (a1 : Int) (r1 : Int) (r2 : Int) (r3 : List F) (v6 : Int) : ((List F) × Int) → Option (LR ((List F) × Int) ((List F)) (Int × Int × (List F))) := fun s => i_made_2Fi_unit_1_b2 a1 r1 r2 r3 v6 s.1 s.2
def i_made_2Fi_unit_1_k2 (v6 : Int) (L14 : List F) : Option (LR ((List F) × Int) ((List F)) (Int × Int × (List F))) :=
 olet (IntKind.i64.wrap (v6 + 1)) fun (x16 : Int) =>
 some (LR.next (L14, x16))
def i_made_2Fi_unit_1_b3 (a0 : Int) (a1 : Int) (r1 : Int) (r2 : Int) (r3 : List F) (L4 : List F) (v6 : Int) : Option (LR ((List F) × Int) ((List F)) (Int × Int × (List F))) :=
 bsel (decide (v6 < a0)) (
  obind (loopM (i_made_2Fi_unit_1_s2 a1 r1 r2 r3 v6) (L4, 0)) fun z => osum z (fun e => i_made_2Fi_unit_1_k2 v6 e) (fun r => some (LR.ret r))) (
  some (LR.out L4))
def i_made_2Fi_unit_1_s3 (a0 : Int) (a1 : Int) (r1 : Int) (r2 : Int) (r3 : List F) : ((List F) × Int) → Option (LR ((List F) × Int) ((List F)) (Int × Int × (List F))) := fun s => i_made_2Fi_unit_1_b3 a0 a1 r1 r2 r3 s.1 s.2
def i_made_2Fi_unit_1_k3 (r1 : Int) (r2 : Int) (L17 : List F) : Option (Int × Int × (List F)) :=
 some (r1, r2, L17)
def i_made_2Fi_unit_1 (a0 : Int) (a1 : Int) : Option (Int × Int × (List F)) :=
 obind3 (i_newMatrix a0 a1) fun (r1 : Int) (r2 : Int) (r3 : List F) =>
 obind (loopM (i_made_2Fi_unit_1_s3 a0 a1 r1 r2 r3) (r3, 0)) fun z => osum z (fun e => i_made_2Fi_unit_1_k3 r1 r2 e) (fun r => some r)
theorem i_made_2Fi_unit_1_ok (a0 : Int) (a1 : Int) (q0 : Int) (q1 : Int) (q2 : List F) (h : i_made_2Fi_unit_1 a0 a1 = some (q0, q1, q2)) : Ev Try.prog 64 [i64 a0, i64 a1, fn (.func 154) [] []] [] (agg (oXc q0 q1 0 0 q2.length)) [⟨0, some (q2.map f32)⟩] := by
 refine yE Try.func64 3 65 0 ([(0, i64 a0), (1, i64 a1), (2, fn (.func 154) [] [])]) [⟨0, none⟩, ⟨0, none⟩, ⟨0, none⟩] rfl ?_
 unfold i_made_2Fi_unit_1 at h
 refine zQ<|ye rfl (optr 0 1 0) [⟨1, some zMx⟩, ⟨0, none⟩, ⟨0, none⟩] (TOp.alloc_o (g := ⟨0, none⟩) 0 rfl zer33 zok33 rfl)<|zN ?_
 refine yS ?_
 obtain ⟨r1, r2, r3, hf1, h⟩ := obind3_some h
 refine yW<|ym rfl (i64 a0)<|ym rfl (i64 a1)<|ye rfl (agg (oXc r1 r2 1 1 r3.length)) [⟨1, some zMx⟩, ⟨1, some (r3.map f32)⟩, ⟨0, none⟩] (TOp.callBN (ls := [(r3.map f32)]) [1] (CallAs.func ent113 rfl rfl) (bP bN0) rfl (i_newMatrix_ok a0 a1 r1 r2 r3 hf1) (and_all (lts0_map (f := f32) (fun _ => rfl) _) rfl) (and_all (noss_map (f := f32) (fun _ => rfl) _) rfl) rfl (by decide) (ns_of ⟨⟨_, rfl⟩, trivial⟩))<|ye rfl (optr 2 1 0) [⟨1, some zMx⟩, ⟨1, some (r3.map f32)⟩, ⟨1, some zMx⟩] (TOp.alloc_o (g := ⟨0, none⟩) 2 rfl zer33 zok33 rfl)<|ys (agg (oXc r1 r2 1 1 r3.length)) (oXc r1 r2 1 1 r3.length) [⟨1, some zMx⟩, ⟨1, some (r3.map f32)⟩, ⟨1, some (oXc r1 r2 1 1 r3.length)⟩] siz33<|zN ?_
 refine yS<|zQ<|ym rfl (i64 a0)<|ym rfl (i64 0)<|zN ?_
 obtain ⟨z4, hz_4, h⟩ := oS h
 refine RunC.cutN (fun τ Γ => ∃ (L17 : List F), L17.length = r3.length ∧ WeakLe τ [(6, optr 0 1 0), (7, optr 2 1 0)] ∧ DeadLe Γ [⟨1, some zMx⟩, ⟨1, some (L17.map f32)⟩, ⟨1, some (oXc r1 r2 1 1 r3.length)⟩] ∧ z4 = .inl L17) ?_ ?_
 ·refine RunC.block (RunC.loop (RunL.loopM (x := z4) (i_made_2Fi_unit_1_s3 a0 a1 r1 r2 r3) (fun (s : (List F) × Int) τ Γ => s.1.length = r3.length ∧ WeakLe τ [(1, i64 a1), (2, fn (.func 154) [] []), (6, optr 0 1 0), (7, optr 2 1 0), (13, i64 a0), (14, i64 s.2)] ∧ DeadLe Γ [⟨1, some zMx⟩, ⟨1, some (s.1.map f32)⟩, ⟨1, some (oXc r1 r2 1 1 r3.length)⟩]) ?_ _ _ _ hz_4 ⟨rfl, ⟨aR, aR, aR, aR, aR, aR, trivial⟩, ⟨⟨rfl, .inr rfl⟩, ⟨rfl, .inr rfl⟩, ⟨rfl, .inr rfl⟩, trivial⟩⟩))
  rintro ⟨L4, v6⟩ τ4 Γ4 y4_ ⟨hl5, hw4, hd4⟩ h4_ ho4 hr4
  refine RunC.wl (τ' := [(1, i64 a1), (2, fn (.func 154) [] []), (6, optr 0 1 0), (7, optr 2 1 0), (13, i64 a0), (14, i64 v6)]) (Γ' := [⟨1, some zMx⟩, ⟨1, some (L4.map f32)⟩, ⟨1, some (oXc r1 r2 1 1 r3.length)⟩]) hw4 hd4 ?_
  replace hl5 : L4.length = r3.length := hl5
  replace h4_ : i_made_2Fi_unit_1_b3 a0 a1 r1 r2 r3 L4 v6 = some y4_ := h4_
  unfold i_made_2Fi_unit_1_b3 at h4_
  refine yS ?_
  rcases oB h4_ with ⟨hc2, h4_⟩ | ⟨hc2, h4_⟩
  ·refine yW<|yl rfl (b true) (LOp.eqb (LOp.lss rfl rfl rfl) hc2)<|zN ?_
   refine yS<|yT<|RunC.skip<|yS<|RunC.block<|zQ<|ym rfl (i64 v6)<|ya rfl (i64 v6)<|zN ?_
   refine zQ<|ym rfl (i64 a1)<|ym rfl (i64 0)<|zN ?_
   obtain ⟨z5, hz_5, h4_⟩ := oS h4_
   refine RunC.cutN (fun τ Γ => ∃ (L14 : List F), L14.length = r3.length ∧ WeakLe τ [(1, i64 a1), (2, fn (.func 154) [] []), (6, optr 0 1 0), (7, optr 2 1 0), (13, i64 a0), (14, i64 v6)] ∧ DeadLe Γ [⟨1, some zMx⟩, ⟨1, some (L14.map f32)⟩, ⟨1, some (oXc r1 r2 1 1 r3.length)⟩] ∧ z5 = .inl L14) ?_ ?_
   ·refine RunC.block (RunC.loop (RunL.loopM (x := z5) (i_made_2Fi_unit_1_s2 a1 r1 r2 r3 v6) (fun (s : (List F) × Int) τ Γ => s.1.length = r3.length ∧ WeakLe τ [(1, i64 a1), (2, fn (.func 154) [] []), (6, optr 0 1 0), (7, optr 2 1 0), (8, i64 v6), (13, i64 a0), (14, i64 v6), (17, i64 a1), (18, i64 s.2)] ∧ DeadLe Γ [⟨1, some zMx⟩, ⟨1, some (s.1.map f32)⟩, ⟨1, some (oXc r1 r2 1 1 r3.length)⟩]) ?_ _ _ _ hz_5 ⟨hl5, ⟨aR, aR, aR, aR, aR, aR, aR, aR, aR, trivial⟩, ⟨⟨rfl, .inr rfl⟩, ⟨rfl, .inr rfl⟩, ⟨rfl, .inr rfl⟩, trivial⟩⟩))
    rintro ⟨L7, v9⟩ τ5 Γ5 y5_ ⟨hl8, hw5, hd5⟩ h5_ ho5 hr5
    refine RunC.wl (τ' := [(1, i64 a1), (2, fn (.func 154) [] []), (6, optr 0 1 0), (7, optr 2 1 0), (8, i64 v6), (13, i64 a0), (14, i64 v6), (17, i64 a1), (18, i64 v9)]) (Γ' := [⟨1, some zMx⟩, ⟨1, some (L7.map f32)⟩, ⟨1, some (oXc r1 r2 1 1 r3.length)⟩]) hw5 hd5 ?_
    replace hl8 : L7.length = r3.length := hl8
    replace h5_ : i_made_2Fi_unit_1_b2 a1 r1 r2 r3 v6 L7 v9 = some y5_ := h5_
    unfold i_made_2Fi_unit_1_b2 at h5_
    refine yS ?_
    rcases oB h5_ with ⟨hc3, h5_⟩ | ⟨hc3, h5_⟩
    ·refine yW<|yl rfl (b true) (LOp.eqb (LOp.lss rfl rfl rfl) hc3)<|zN ?_
     refine yS<|yT<|RunC.skip<|yS<|RunC.block<|zQ<|ym rfl (i64 v9)<|ya rfl (i64 v9)<|zN ?_
     obtain ⟨r11, hf5, h5_⟩ := oS h5_
     obtain ⟨r12, hf6, h5_⟩ := oS h5_
     obtain ⟨hn7, h5_⟩ := need_some h5_
     refine RunC.region_draw (Γ' := [⟨1, some zMx⟩, ⟨1, some (L7.map f32)⟩, ⟨1, some (oXc r1 r2 1 1 r3.length)⟩]) 7 mixed 
      (TR.d (r := agg (oXc r1 r2 1 1 r3.length)) (fs := []) rfl rfl (TOp.loadAgg_o rfl agg33 siz33 rfl rfl rfl rfl) <|
      (tm rfl (i64 v6) <|
      (tm rfl (i64 v9) <|
      (tm rfl (fn (.func 154) [] []) <|
      (tm rfl (i64 v6) <|
      (tm rfl (i64 v9) <|
      (TR.d (r := f32 r11) (fs := []) rfl rfl (TOp.callB (CallAs.fn ent154 rfl rfl rfl rfl) (bP bN0) rfl rfl (i_unit_1_ok v6 v9 r11 hf5)) <|
      TR.nil))))))) rfl (by kernel_rfl) rfl fills_nil rfl ?_
     iterate 7 refine ROps.dropS ?_
     refine ROps.drop0<|ROps.callO (A := [agg (oXc r1 r2 1 1 r3.length), i64 v6, i64 v9, f32 r11]) (args := [agg (oXc r1 r2 0 0 L7.length), i64 v6, i64 v9, f32 r11]) (Γc := [⟨0, some (L7.map f32)⟩]) (Γc' := [⟨0, some (r12.map f32)⟩]) (r' := tup []) (Γ' := [⟨1, some zMx⟩, ⟨1, some (r12.map f32)⟩, ⟨1, some (oXc r1 r2 1 1 r3.length)⟩]) [(1, 1)] [] rfl (CallAs.func ent93 rfl rfl) rfl rfl (SelOk.of (ndB_ok rfl) (SelL.arr0 (f := f32) (fun _ => rfl) rfl trivial)) (live_of ⟨⟨_, _, rfl⟩, trivial⟩) (by simp [ren, rens, sigma, rens_f32, rens_f64, rens_i64, rens_ik, rens_str, rens_cp, hl8]) rfl (i_Matrix_set_02o_ok r1 r2 v6 v9 r11 L7 r12 hf6) rfl (news_of trivial) (ndB_ok rfl) (by simp [ren, rens, sigma, of_decide_eq_true hn7]) (by simp [backOb, sigma, ren, rens, rens_f32, rens_f64, rens_i64, rens_ik, rens_str, rens_cp])<|zN ?_
     obtain ⟨x13, hx8, h5_⟩ := oL h5_
     refine yW<|yl rfl (i64 x13) (LOp.eqr (LOp.add rfl rfl rfl) (congrArg (ik .i64) hx8))<|ym rfl (i64 x13)<|zN ?_
     cases oI h5_
     exact ⟨_, rfl, (of_decide_eq_true hn7), ⟨aR, aR, aR, aR, aR, aR, aR, aR, aR, trivial⟩, ⟨⟨rfl, .inr rfl⟩, ⟨rfl, .inr rfl⟩, ⟨rfl, .inr rfl⟩, trivial⟩⟩
    ·refine yW<|yl rfl (b false) (LOp.eqb (LOp.lss rfl rfl rfl) hc3)<|zN ?_
     refine yS<|yF<|RunC.exit ?_
     cases oI h5_
     have hx := ho5 _ rfl
     exact ⟨L7, hl8, ⟨aR, aR, aR, aR, aR, aR, trivial⟩, ⟨⟨rfl, .inr rfl⟩, ⟨rfl, .inr rfl⟩, ⟨rfl, .inr rfl⟩, trivial⟩, hx⟩
   ·rintro τ6 Γ6 ⟨L14, hl15, hw6, hd6, rfl⟩
    refine RunC.wl hw6 hd6 ?_
    replace h4_ : i_made_2Fi_unit_1_k2 v6 L14 = some y4_ := h4_
    unfold i_made_2Fi_unit_1_k2 at h4_
    obtain ⟨x16, hx9, h4_⟩ := oL h4_
    refine yW<|yl rfl (i64 x16) (LOp.eqr (LOp.add rfl rfl rfl) (congrArg (ik .i64) hx9))<|ym rfl (i64 x16)<|zN ?_
    cases oI h4_
    exact ⟨_, rfl, hl15, ⟨aR, aR, aR, aR, aR, aR, trivial⟩, ⟨⟨rfl, .inr rfl⟩, ⟨rfl, .inr rfl⟩, ⟨rfl, .inr rfl⟩, trivial⟩⟩
  ·refine yW<|yl rfl (b false) (LOp.eqb (LOp.lss rfl rfl rfl) hc2)<|zN ?_
   refine yS<|yF<|RunC.exit ?_
   cases oI h4_
   have hx := ho4 _ rfl
   exact ⟨L4, hl5, ⟨aR, aR, trivial⟩, ⟨⟨rfl, .inr rfl⟩, ⟨rfl, .inr rfl⟩, ⟨rfl, .inr rfl⟩, trivial⟩, hx⟩
 ·rintro τ7 Γ7 ⟨L17, hl18, hw7, hd7, rfl⟩
  refine RunC.wl hw7 hd7 ?_
  replace h : i_made_2Fi_unit_1_k3 r1 r2 L17 = some (q0, q1, q2) := h
  unfold i_made_2Fi_unit_1_k3 at h
  refine zQ<|yd rfl (agg (oXc r1 r2 1 1 r3.length)) (TOp.loadAgg_o rfl agg33 siz33 rfl rfl rfl rfl)<|ys (agg (oXc r1 r2 1 1 r3.length)) (oXc r1 r2 1 1 r3.length) [⟨1, some (oXc r1 r2 1 1 r3.length)⟩, ⟨1, some (L17.map f32)⟩, ⟨1, some (oXc r1 r2 1 1 r3.length)⟩] siz33<|zN ?_
  refine RunC.ret ?_
  have hq := oI h
  obtain ⟨hq0, hq⟩ := Prod.mk.inj hq
  obtain ⟨hq1, hq⟩ := Prod.mk.inj hq
  subst q0
  subst q1
  subst q2
  exact yB (agg (oXc r1 r2 1 1 L17.length)) [(1, 1)] (Res.eq (Res.one rfl (RV.cell agg33 siz33 rfl rfl rfl rfl)) (by rw [(show L17.length = r3.length from hl18)] <;> rfl)) (SelL.arr0 (f := f32) (fun _ => rfl) rfl trivial)
def i_unit (a0 : Int) : Option (Int × Int × (List F)) :=
 obind3 (i_made_2Fi_unit_1 a0 a0) fun (r1 : Int) (r2 : Int) (r3 : List F) =>
 some (r1, r2, r3)
theorem i_unit_ok (a0 : Int) (q0 : Int) (q1 : Int) (q2 : List F) (h : i_unit a0 = some (q0, q1, q2)) : Ev Try.prog 99 [i64 a0] [] (agg (oXc q0 q1 0 0 q2.length)) [⟨0, some (q2.map f32)⟩] := by
 refine yE Try.func99 2 13 0 [(0, i64 a0)] [⟨0, none⟩, ⟨0, none⟩] rfl ?_
 unfold i_unit at h
 refine zQ<|ye rfl (optr 0 1 0) [⟨1, some zMx⟩, ⟨0, none⟩] (TOp.alloc_o (g := ⟨0, none⟩) 0 rfl zer33 zok33 rfl)<|zN ?_
 refine yS ?_
 obtain ⟨r1, r2, r3, hf1, h⟩ := obind3_some h
 refine yW<|ym rfl (i64 a0)<|ym rfl (i64 a0)<|ye rfl (agg (oXc r1 r2 1 1 r3.length)) [⟨1, some zMx⟩, ⟨1, some (r3.map f32)⟩] (TOp.callBN (ls := [(r3.map f32)]) [1] (CallAs.func ent64 rfl rfl) (bP (bP (Bors.cons (Bor.fn bN bN) bN))) rfl (i_made_2Fi_unit_1_ok a0 a0 r1 r2 r3 hf1) (and_all (lts0_map (f := f32) (fun _ => rfl) _) rfl) (and_all (noss_map (f := f32) (fun _ => rfl) _) rfl) rfl (by decide) (ns_of ⟨⟨_, rfl⟩, trivial⟩))<|ys (agg (oXc r1 r2 1 1 r3.length)) (oXc r1 r2 1 1 r3.length) [⟨1, some (oXc r1 r2 1 1 r3.length)⟩, ⟨1, some (r3.map f32)⟩] siz33<|zN ?_
 refine RunC.ret ?_
 have hq := oI h
 obtain ⟨hq0, hq⟩ := Prod.mk.inj hq
 obtain ⟨hq1, hq⟩ := Prod.mk.inj hq
 subst q0
 subst q1
 subst q2
 exact yB (agg (oXc r1 r2 1 1 r3.length)) [(1, 1)] (Res.one rfl (RV.cell agg33 siz33 rfl rfl rfl rfl)) (SelL.arr0 (f := f32) (fun _ => rfl) rfl trivial)
def i_ExpMatrix_2 (a0 : Int) (a1 : Int) (a2 : Int) (a3 : Int) (a4 : List F) (a5 : Int) : Option (F) :=
 obind (i_Matrix_at a2 a3 a4 a0 a1) fun (r1 : F) =>
 olet (fint .f32 a5) fun (x2 : F) =>
 olet (fop .quo .f32 r1 x2) fun (x3 : F) =>
 some x3
theorem i_ExpMatrix_2_ok (a0 : Int) (a1 : Int) (a2 : Int) (a3 : Int) (a4 : List F) (a5 : Int) (q0 : F) (h : i_ExpMatrix_2 a0 a1 a2 a3 a4 a5 = some q0) : Ev Try.prog 100 [i64 a0, i64 a1, ptr (mXc a2 a3 a4), ptr [i64 a5]] [] (f32 q0) [] := by
 refine yE Try.func100 0 29 0 ([(0, i64 a0), (1, i64 a1), (2, ptr (mXc a2 a3 a4)), (3, ptr [i64 a5])]) [] rfl ?_
 unfold i_ExpMatrix_2 at h
 refine zQ<|yl rfl (f32 (some 0)) (LOp.le (LOp.assign rfl rfl) (ALe.fl (by kernel_rfl) (by kernel_rfl)))<|zN ?_
 refine yS ?_
 obtain ⟨r1, hf1, h⟩ := oS h
 obtain ⟨x2, hx2, h⟩ := oL h
 obtain ⟨x3, hx3, h⟩ := oL h
 refine RunC.region_draw (Γ' := []) 8 mixed 
  (tl rfl (agg (mXc a2 a3 a4)) (yL agg33 siz33) <|
  (tm rfl (i64 a0) <|
  (tm rfl (i64 a1) <|
  (TR.d (r := f32 r1) (fs := []) rfl rfl (TOp.callB (CallAs.func ent94 rfl rfl) (Bors.cons (Bor.agg (bP (bP (bS bN)))) (bP bN0)) rfl rfl (i_Matrix_at_ok a2 a3 a4 a0 a1 r1 hf1)) <|
  (tl rfl (i64 a5) (y2 agg2) <|
  (tl rfl (f32 x2) (LOp.eqr (LOp.i2f (src := 2) (dst := 28) ⟨_, pun2⟩ pun28 rfl rfl) (congrArg (f .f32) hx2)) <|
  (TR.d (r := f32 x3) (fs := []) rfl rfl (TOp.eqr (TOp.fop (.inr (.inr (.inr rfl))) rfl (OpF.tmp rfl) (OpF.tmp rfl)) (congrArg (f .f32) hx3)) <|
  (tl rfl (f32 x3) (LOp.assign rfl rfl) <|
  TR.nil)))))))) rfl (by kernel_rfl) rfl fills_nil rfl ?_
 iterate 8 refine ROps.dropS ?_
 refine ROps.drop0<|zN ?_
 refine RunC.ret ?_
 have hq := oI h
 subst q0
 exact bodyQ.pure (.inr rfl) rfl (Res.one rfl (RV.tmp rfl))
def i_made_2Fi_ExpMatrix_2_b2 (a1 : Int) (a2 : Int) (a3 : Int) (a4 : List F) (a5 : Int) (r1 : Int) (r2 : Int) (r3 : List F) (v6 : Int) (L7 : List F) (v9 : Int) : Option (LR ((List F) × Int) ((List F)) (Int × Int × (List F))) :=
 bsel (decide (v9 < a1)) (
  obind (i_ExpMatrix_2 v6 v9 a2 a3 a4 a5) fun (r11 : F) =>
  obind (i_Matrix_set_02o r1 r2 v6 v9 r11 L7) fun (r12 : List F) =>
  need (decide (r12.length = r3.length)) <|
  olet (IntKind.i64.wrap (v9 + 1)) fun (x13 : Int) =>
  some (LR.next (r12, x13))) (
  some (LR.out L7))
def i_made_2Fi_ExpMatrix_2_s2 (a1 : Int) (a2 : Int) (a3 : Int) (a4 : List F) (a5 : Int) (r1 : Int) (r2 : Int) (r3 : List F) (v6 : Int) : ((List F) × Int) → Option (LR ((List F) × Int) ((List F)) (Int × Int × (List F))) := fun s => i_made_2Fi_ExpMatrix_2_b2 a1 a2 a3 a4 a5 r1 r2 r3 v6 s.1 s.2
def i_made_2Fi_ExpMatrix_2_k2 (v6 : Int) (L14 : List F) : Option (LR ((List F) × Int) ((List F)) (Int × Int × (List F))) :=
 olet (IntKind.i64.wrap (v6 + 1)) fun (x16 : Int) =>
 some (LR.next (L14, x16))
def i_made_2Fi_ExpMatrix_2_b3 (a0 : Int) (a1 : Int) (a2 : Int) (a3 : Int) (a4 : List F) (a5 : Int) (r1 : Int) (r2 : Int) (r3 : List F) (L4 : List F) (v6 : Int) : Option (LR ((List F) × Int) ((List F)) (Int × Int × (List F))) :=
 bsel (decide (v6 < a0)) (
  obind (loopM (i_made_2Fi_ExpMatrix_2_s2 a1 a2 a3 a4 a5 r1 r2 r3 v6) (L4, 0)) fun z => osum z (fun e => i_made_2Fi_ExpMatrix_2_k2 v6 e) (fun r => some (LR.ret r))) (
  some (LR.out L4))
def i_made_2Fi_ExpMatrix_2_s3 (a0 : Int) (a1 : Int) (a2 : Int) (a3 : Int) (a4 : List F) (a5 : Int) (r1 : Int) (r2 : Int) (r3 : List F) : ((List F) × Int) → Option (LR ((List F) × Int) ((List F)) (Int × Int × (List F))) := fun s => i_made_2Fi_ExpMatrix_2_b3 a0 a1 a2 a3 a4 a5 r1 r2 r3 s.1 s.2
def i_made_2Fi_ExpMatrix_2_k3 (r1 : Int) (r2 : Int) (L17 : List F) : Option (Int × Int × (List F)) :=
 some (r1, r2, L17)
def i_made_2Fi_ExpMatrix_2 (a0 : Int) (a1 : Int) (a2 : Int) (a3 : Int) (a4 : List F) (a5 : Int) : Option (Int × Int × (List F)) :=
 obind3 (i_newMatrix a0 a1) fun (r1 : Int) (r2 : Int) (r3 : List F) =>
 obind (loopM (i_made_2Fi_ExpMatrix_2_s3 a0 a1 a2 a3 a4 a5 r1 r2 r3) (r3, 0)) fun z => osum z (fun e => i_made_2Fi_ExpMatrix_2_k3 r1 r2 e) (fun r => some r)
theorem i_made_2Fi_ExpMatrix_2_ok (a0 : Int) (a1 : Int) (a2 : Int) (a3 : Int) (a4 : List F) (a5 : Int) (q0 : Int) (q1 : Int) (q2 : List F) (h : i_made_2Fi_ExpMatrix_2 a0 a1 a2 a3 a4 a5 = some (q0, q1, q2)) : Ev Try.prog 64 [i64 a0, i64 a1, fn (.func 100) [] [ptr (mXc a2 a3 a4), ptr [i64 a5]]] [] (agg (oXc q0 q1 0 0 q2.length)) [⟨0, some (q2.map f32)⟩] := by
 refine yE Try.func64 3 65 0 ([(0, i64 a0), (1, i64 a1), (2, fn (.func 100) [] [ptr (mXc a2 a3 a4), ptr [i64 a5]])]) [⟨0, none⟩, ⟨0, none⟩, ⟨0, none⟩] rfl ?_
 unfold i_made_2Fi_ExpMatrix_2 at h
 refine zQ<|ye rfl (optr 0 1 0) [⟨1, some zMx⟩, ⟨0, none⟩, ⟨0, none⟩] (TOp.alloc_o (g := ⟨0, none⟩) 0 rfl zer33 zok33 rfl)<|zN ?_
 refine yS ?_
 obtain ⟨r1, r2, r3, hf1, h⟩ := obind3_some h
 refine yW<|ym rfl (i64 a0)<|ym rfl (i64 a1)<|ye rfl (agg (oXc r1 r2 1 1 r3.length)) [⟨1, some zMx⟩, ⟨1, some (r3.map f32)⟩, ⟨0, none⟩] (TOp.callBN (ls := [(r3.map f32)]) [1] (CallAs.func ent113 rfl rfl) (bP bN0) rfl (i_newMatrix_ok a0 a1 r1 r2 r3 hf1) (and_all (lts0_map (f := f32) (fun _ => rfl) _) rfl) (and_all (noss_map (f := f32) (fun _ => rfl) _) rfl) rfl (by decide) (ns_of ⟨⟨_, rfl⟩, trivial⟩))<|ye rfl (optr 2 1 0) [⟨1, some zMx⟩, ⟨1, some (r3.map f32)⟩, ⟨1, some zMx⟩] (TOp.alloc_o (g := ⟨0, none⟩) 2 rfl zer33 zok33 rfl)<|ys (agg (oXc r1 r2 1 1 r3.length)) (oXc r1 r2 1 1 r3.length) [⟨1, some zMx⟩, ⟨1, some (r3.map f32)⟩, ⟨1, some (oXc r1 r2 1 1 r3.length)⟩] siz33<|zN ?_
 refine yS<|zQ<|ym rfl (i64 a0)<|ym rfl (i64 0)<|zN ?_
 obtain ⟨z4, hz_4, h⟩ := oS h
 refine RunC.cutN (fun τ Γ => ∃ (L17 : List F), L17.length = r3.length ∧ WeakLe τ [(6, optr 0 1 0), (7, optr 2 1 0)] ∧ DeadLe Γ [⟨1, some zMx⟩, ⟨1, some (L17.map f32)⟩, ⟨1, some (oXc r1 r2 1 1 r3.length)⟩] ∧ z4 = .inl L17) ?_ ?_
 ·refine RunC.block (RunC.loop (RunL.loopM (x := z4) (i_made_2Fi_ExpMatrix_2_s3 a0 a1 a2 a3 a4 a5 r1 r2 r3) (fun (s : (List F) × Int) τ Γ => s.1.length = r3.length ∧ WeakLe τ [(1, i64 a1), (2, fn (.func 100) [] [ptr (mXc a2 a3 a4), ptr [i64 a5]]), (6, optr 0 1 0), (7, optr 2 1 0), (13, i64 a0), (14, i64 s.2)] ∧ DeadLe Γ [⟨1, some zMx⟩, ⟨1, some (s.1.map f32)⟩, ⟨1, some (oXc r1 r2 1 1 r3.length)⟩]) ?_ _ _ _ hz_4 ⟨rfl, ⟨aR, aR, aR, aR, aR, aR, trivial⟩, ⟨⟨rfl, .inr rfl⟩, ⟨rfl, .inr rfl⟩, ⟨rfl, .inr rfl⟩, trivial⟩⟩))
  rintro ⟨L4, v6⟩ τ4 Γ4 y4_ ⟨hl5, hw4, hd4⟩ h4_ ho4 hr4
  refine RunC.wl (τ' := [(1, i64 a1), (2, fn (.func 100) [] [ptr (mXc a2 a3 a4), ptr [i64 a5]]), (6, optr 0 1 0), (7, optr 2 1 0), (13, i64 a0), (14, i64 v6)]) (Γ' := [⟨1, some zMx⟩, ⟨1, some (L4.map f32)⟩, ⟨1, some (oXc r1 r2 1 1 r3.length)⟩]) hw4 hd4 ?_
  replace hl5 : L4.length = r3.length := hl5
  replace h4_ : i_made_2Fi_ExpMatrix_2_b3 a0 a1 a2 a3 a4 a5 r1 r2 r3 L4 v6 = some y4_ := h4_
  unfold i_made_2Fi_ExpMatrix_2_b3 at h4_
  refine yS ?_
  rcases oB h4_ with ⟨hc2, h4_⟩ | ⟨hc2, h4_⟩
  ·refine yW<|yl rfl (b true) (LOp.eqb (LOp.lss rfl rfl rfl) hc2)<|zN ?_
   refine yS<|yT<|RunC.skip<|yS<|RunC.block<|zQ<|ym rfl (i64 v6)<|ya rfl (i64 v6)<|zN ?_
   refine zQ<|ym rfl (i64 a1)<|ym rfl (i64 0)<|zN ?_
   obtain ⟨z5, hz_5, h4_⟩ := oS h4_
   refine RunC.cutN (fun τ Γ => ∃ (L14 : List F), L14.length = r3.length ∧ WeakLe τ [(1, i64 a1), (2, fn (.func 100) [] [ptr (mXc a2 a3 a4), ptr [i64 a5]]), (6, optr 0 1 0), (7, optr 2 1 0), (13, i64 a0), (14, i64 v6)] ∧ DeadLe Γ [⟨1, some zMx⟩, ⟨1, some (L14.map f32)⟩, ⟨1, some (oXc r1 r2 1 1 r3.length)⟩] ∧ z5 = .inl L14) ?_ ?_
   ·refine RunC.block (RunC.loop (RunL.loopM (x := z5) (i_made_2Fi_ExpMatrix_2_s2 a1 a2 a3 a4 a5 r1 r2 r3 v6) (fun (s : (List F) × Int) τ Γ => s.1.length = r3.length ∧ WeakLe τ [(1, i64 a1), (2, fn (.func 100) [] [ptr (mXc a2 a3 a4), ptr [i64 a5]]), (6, optr 0 1 0), (7, optr 2 1 0), (8, i64 v6), (13, i64 a0), (14, i64 v6), (17, i64 a1), (18, i64 s.2)] ∧ DeadLe Γ [⟨1, some zMx⟩, ⟨1, some (s.1.map f32)⟩, ⟨1, some (oXc r1 r2 1 1 r3.length)⟩]) ?_ _ _ _ hz_5 ⟨hl5, ⟨aR, aR, aR, aR, aR, aR, aR, aR, aR, trivial⟩, ⟨⟨rfl, .inr rfl⟩, ⟨rfl, .inr rfl⟩, ⟨rfl, .inr rfl⟩, trivial⟩⟩))
    rintro ⟨L7, v9⟩ τ5 Γ5 y5_ ⟨hl8, hw5, hd5⟩ h5_ ho5 hr5
    refine RunC.wl (τ' := [(1, i64 a1), (2, fn (.func 100) [] [ptr (mXc a2 a3 a4), ptr [i64 a5]]), (6, optr 0 1 0), (7, optr 2 1 0), (8, i64 v6), (13, i64 a0), (14, i64 v6), (17, i64 a1), (18, i64 v9)]) (Γ' := [⟨1, some zMx⟩, ⟨1, some (L7.map f32)⟩, ⟨1, some (oXc r1 r2 1 1 r3.length)⟩]) hw5 hd5 ?_
    replace hl8 : L7.length = r3.length := hl8
    replace h5_ : i_made_2Fi_ExpMatrix_2_b2 a1 a2 a3 a4 a5 r1 r2 r3 v6 L7 v9 = some y5_ := h5_
    unfold i_made_2Fi_ExpMatrix_2_b2 at h5_
    refine yS ?_
    rcases oB h5_ with ⟨hc3, h5_⟩ | ⟨hc3, h5_⟩
    ·refine yW<|yl rfl (b true) (LOp.eqb (LOp.lss rfl rfl rfl) hc3)<|zN ?_
     refine yS<|yT<|RunC.skip<|yS<|RunC.block<|zQ<|ym rfl (i64 v9)<|ya rfl (i64 v9)<|zN ?_
     obtain ⟨r11, hf5, h5_⟩ := oS h5_
     obtain ⟨r12, hf6, h5_⟩ := oS h5_
     obtain ⟨hn7, h5_⟩ := need_some h5_
     refine RunC.region_draw (Γ' := [⟨1, some zMx⟩, ⟨1, some (L7.map f32)⟩, ⟨1, some (oXc r1 r2 1 1 r3.length)⟩]) 7 mixed 
      (TR.d (r := agg (oXc r1 r2 1 1 r3.length)) (fs := []) rfl rfl (TOp.loadAgg_o rfl agg33 siz33 rfl rfl rfl rfl) <|
      (tm rfl (i64 v6) <|
      (tm rfl (i64 v9) <|
      (tm rfl (fn (.func 100) [] [ptr (mXc a2 a3 a4), ptr [i64 a5]]) <|
      (tm rfl (i64 v6) <|
      (tm rfl (i64 v9) <|
      (TR.d (r := f32 r11) (fs := []) rfl rfl (TOp.callB (CallAs.fn ent100 rfl rfl rfl rfl) (bP (bP (Bors.cons (Bor.ptr (bP (bP (bS bN)))) (Bors.cons (Bor.ptr bN0) bN)))) rfl rfl (i_ExpMatrix_2_ok v6 v9 a2 a3 a4 a5 r11 hf5)) <|
      TR.nil))))))) rfl (by kernel_rfl) rfl fills_nil rfl ?_
     iterate 7 refine ROps.dropS ?_
     refine ROps.drop0<|ROps.callO (A := [agg (oXc r1 r2 1 1 r3.length), i64 v6, i64 v9, f32 r11]) (args := [agg (oXc r1 r2 0 0 L7.length), i64 v6, i64 v9, f32 r11]) (Γc := [⟨0, some (L7.map f32)⟩]) (Γc' := [⟨0, some (r12.map f32)⟩]) (r' := tup []) (Γ' := [⟨1, some zMx⟩, ⟨1, some (r12.map f32)⟩, ⟨1, some (oXc r1 r2 1 1 r3.length)⟩]) [(1, 1)] [] rfl (CallAs.func ent93 rfl rfl) rfl rfl (SelOk.of (ndB_ok rfl) (SelL.arr0 (f := f32) (fun _ => rfl) rfl trivial)) (live_of ⟨⟨_, _, rfl⟩, trivial⟩) (by simp [ren, rens, sigma, rens_f32, rens_f64, rens_i64, rens_ik, rens_str, rens_cp, hl8]) rfl (i_Matrix_set_02o_ok r1 r2 v6 v9 r11 L7 r12 hf6) rfl (news_of trivial) (ndB_ok rfl) (by simp [ren, rens, sigma, of_decide_eq_true hn7]) (by simp [backOb, sigma, ren, rens, rens_f32, rens_f64, rens_i64, rens_ik, rens_str, rens_cp])<|zN ?_
     obtain ⟨x13, hx8, h5_⟩ := oL h5_
     refine yW<|yl rfl (i64 x13) (LOp.eqr (LOp.add rfl rfl rfl) (congrArg (ik .i64) hx8))<|ym rfl (i64 x13)<|zN ?_
     cases oI h5_
     exact ⟨_, rfl, (of_decide_eq_true hn7), ⟨aR, aR, aR, aR, aR, aR, aR, aR, aR, trivial⟩, ⟨⟨rfl, .inr rfl⟩, ⟨rfl, .inr rfl⟩, ⟨rfl, .inr rfl⟩, trivial⟩⟩
    ·refine yW<|yl rfl (b false) (LOp.eqb (LOp.lss rfl rfl rfl) hc3)<|zN ?_
     refine yS<|yF<|RunC.exit ?_
     cases oI h5_
     have hx := ho5 _ rfl
     exact ⟨L7, hl8, ⟨aR, aR, aR, aR, aR, aR, trivial⟩, ⟨⟨rfl, .inr rfl⟩, ⟨rfl, .inr rfl⟩, ⟨rfl, .inr rfl⟩, trivial⟩, hx⟩
   ·rintro τ6 Γ6 ⟨L14, hl15, hw6, hd6, rfl⟩
    refine RunC.wl hw6 hd6 ?_
    replace h4_ : i_made_2Fi_ExpMatrix_2_k2 v6 L14 = some y4_ := h4_
    unfold i_made_2Fi_ExpMatrix_2_k2 at h4_
    obtain ⟨x16, hx9, h4_⟩ := oL h4_
    refine yW<|yl rfl (i64 x16) (LOp.eqr (LOp.add rfl rfl rfl) (congrArg (ik .i64) hx9))<|ym rfl (i64 x16)<|zN ?_
    cases oI h4_
    exact ⟨_, rfl, hl15, ⟨aR, aR, aR, aR, aR, aR, trivial⟩, ⟨⟨rfl, .inr rfl⟩, ⟨rfl, .inr rfl⟩, ⟨rfl, .inr rfl⟩, trivial⟩⟩
  ·refine yW<|yl rfl (b false) (LOp.eqb (LOp.lss rfl rfl rfl) hc2)<|zN ?_
   refine yS<|yF<|RunC.exit ?_
   cases oI h4_
   have hx := ho4 _ rfl
   exact ⟨L4, hl5, ⟨aR, aR, trivial⟩, ⟨⟨rfl, .inr rfl⟩, ⟨rfl, .inr rfl⟩, ⟨rfl, .inr rfl⟩, trivial⟩, hx⟩
 ·rintro τ7 Γ7 ⟨L17, hl18, hw7, hd7, rfl⟩
  refine RunC.wl hw7 hd7 ?_
  replace h : i_made_2Fi_ExpMatrix_2_k3 r1 r2 L17 = some (q0, q1, q2) := h
  unfold i_made_2Fi_ExpMatrix_2_k3 at h
  refine zQ<|yd rfl (agg (oXc r1 r2 1 1 r3.length)) (TOp.loadAgg_o rfl agg33 siz33 rfl rfl rfl rfl)<|ys (agg (oXc r1 r2 1 1 r3.length)) (oXc r1 r2 1 1 r3.length) [⟨1, some (oXc r1 r2 1 1 r3.length)⟩, ⟨1, some (L17.map f32)⟩, ⟨1, some (oXc r1 r2 1 1 r3.length)⟩] siz33<|zN ?_
  refine RunC.ret ?_
  have hq := oI h
  obtain ⟨hq0, hq⟩ := Prod.mk.inj hq
  obtain ⟨hq1, hq⟩ := Prod.mk.inj hq
  subst q0
  subst q1
  subst q2
  exact yB (agg (oXc r1 r2 1 1 L17.length)) [(1, 1)] (Res.eq (Res.one rfl (RV.cell agg33 siz33 rfl rfl rfl rfl)) (by rw [(show L17.length = r3.length from hl18)] <;> rfl)) (SelL.arr0 (f := f32) (fun _ => rfl) rfl trivial)
def i_ExpMatrix_3 (a0 : Int) (a1 : Int) (a2 : Int) (a3 : Int) (a4 : List F) (a5 : Int) (a6 : Int) (a7 : List F) : Option (F) :=
 obind (i_Matrix_at a2 a3 a4 a0 a1) fun (r1 : F) =>
 obind (i_Matrix_at a5 a6 a7 a0 a1) fun (r2 : F) =>
 olet (fop .add .f32 r1 r2) fun (x3 : F) =>
 some x3
theorem i_ExpMatrix_3_ok (a0 : Int) (a1 : Int) (a2 : Int) (a3 : Int) (a4 : List F) (a5 : Int) (a6 : Int) (a7 : List F) (q0 : F) (h : i_ExpMatrix_3 a0 a1 a2 a3 a4 a5 a6 a7 = some q0) : Ev Try.prog 101 [i64 a0, i64 a1, ptr (mXc a2 a3 a4), ptr (mXc a5 a6 a7)] [] (f32 q0) [] := by
 refine yE Try.func101 0 33 0 [(0, i64 a0), (1, i64 a1), (2, ptr (mXc a2 a3 a4)), (3, ptr (mXc a5 a6 a7))] [] rfl ?_
 unfold i_ExpMatrix_3 at h
 refine zQ<|yl rfl (f32 (some 0)) (LOp.le (LOp.assign rfl rfl) (ALe.fl (by kernel_rfl) (by kernel_rfl)))<|zN ?_
 refine yS ?_
 obtain ⟨r1, hf1, h⟩ := oS h
 obtain ⟨r2, hf2, h⟩ := oS h
 obtain ⟨x3, hx3, h⟩ := oL h
 refine RunC.region_draw (Γ' := []) 10 mixed 
  (tl rfl (agg (mXc a2 a3 a4)) (yL agg33 siz33) <|
  (tm rfl (i64 a0) <|
  (tm rfl (i64 a1) <|
  (TR.d (r := f32 r1) (fs := []) rfl rfl (TOp.callB (CallAs.func ent94 rfl rfl) (Bors.cons (Bor.agg (bP (bP (bS bN)))) (bP bN0)) rfl rfl (i_Matrix_at_ok a2 a3 a4 a0 a1 r1 hf1)) <|
  (tl rfl (agg (mXc a5 a6 a7)) (yL agg33 siz33) <|
  (tm rfl (i64 a0) <|
  (tm rfl (i64 a1) <|
  (TR.d (r := f32 r2) (fs := []) rfl rfl (TOp.callB (CallAs.func ent94 rfl rfl) (Bors.cons (Bor.agg (bP (bP (bS bN)))) (bP bN0)) rfl rfl (i_Matrix_at_ok a5 a6 a7 a0 a1 r2 hf2)) <|
  (TR.d (r := f32 x3) (fs := []) rfl rfl (TOp.eqr (TOp.fop (.inl rfl) rfl (OpF.tmp rfl) (OpF.tmp rfl)) (congrArg (f .f32) hx3)) <|
  (tl rfl (f32 x3) (LOp.assign rfl rfl) <|
  TR.nil)))))))))) rfl (by kernel_rfl) rfl fills_nil rfl ?_
 iterate 10 refine ROps.dropS ?_
 refine ROps.drop0<|zN ?_
 refine RunC.ret ?_
 have hq := oI h
 subst q0
 exact bodyQ.pure (.inr rfl) rfl (Res.one rfl (RV.tmp rfl))
def i_made_2Fi_ExpMatrix_3_b2 (a1 : Int) (a2 : Int) (a3 : Int) (a4 : List F) (a5 : Int) (a6 : Int) (a7 : List F) (r1 : Int) (r2 : Int) (r3 : List F) (v6 : Int) (L7 : List F) (v9 : Int) : Option (LR ((List F) × Int) ((List F)) (Int × Int × (List F))) :=
 bsel (decide (v9 < a1)) (
  obind (i_ExpMatrix_3 v6 v9 a2 a3 a4 a5 a6 a7) fun (r11 : F) =>
  obind (i_Matrix_set_02o r1 r2 v6 v9 r11 L7) fun (r12 : List F) =>
  need (decide (r12.length = r3.length)) <|
  olet (IntKind.i64.wrap (v9 + 1)) fun (x13 : Int) =>
  some (LR.next (r12, x13))) (
  some (LR.out L7))
def i_made_2Fi_ExpMatrix_3_s2 (a1 : Int) (a2 : Int) (a3 : Int) (a4 : List F) (a5 : Int) (a6 : Int) (a7 : List F) (r1 : Int) (r2 : Int) (r3 : List F) (v6 : Int) : ((List F) × Int) → Option (LR ((List F) × Int) ((List F)) (Int × Int × (List F))) := fun s => i_made_2Fi_ExpMatrix_3_b2 a1 a2 a3 a4 a5 a6 a7 r1 r2 r3 v6 s.1 s.2
def i_made_2Fi_ExpMatrix_3_k2 (v6 : Int) (L14 : List F) : Option (LR ((List F) × Int) ((List F)) (Int × Int × (List F))) :=
 olet (IntKind.i64.wrap (v6 + 1)) fun (x16 : Int) =>
 some (LR.next (L14, x16))
def i_made_2Fi_ExpMatrix_3_b3 (a0 : Int) (a1 : Int) (a2 : Int) (a3 : Int) (a4 : List F) (a5 : Int) (a6 : Int) (a7 : List F) (r1 : Int) (r2 : Int) (r3 : List F) (L4 : List F) (v6 : Int) : Option (LR ((List F) × Int) ((List F)) (Int × Int × (List F))) :=
 bsel (decide (v6 < a0)) (
  obind (loopM (i_made_2Fi_ExpMatrix_3_s2 a1 a2 a3 a4 a5 a6 a7 r1 r2 r3 v6) (L4, 0)) fun z => osum z (fun e => i_made_2Fi_ExpMatrix_3_k2 v6 e) (fun r => some (LR.ret r))) (
  some (LR.out L4))
def i_made_2Fi_ExpMatrix_3_s3 (a0 : Int) (a1 : Int) (a2 : Int) (a3 : Int) (a4 : List F) (a5 : Int) (a6 : Int) (a7 : List F) (r1 : Int) (r2 : Int) (r3 : List F) : ((List F) × Int) → Option (LR ((List F) × Int) ((List F)) (Int × Int × (List F))) := fun s => i_made_2Fi_ExpMatrix_3_b3 a0 a1 a2 a3 a4 a5 a6 a7 r1 r2 r3 s.1 s.2
def i_made_2Fi_ExpMatrix_3_k3 (r1 : Int) (r2 : Int) (L17 : List F) : Option (Int × Int × (List F)) :=
 some (r1, r2, L17)
def i_made_2Fi_ExpMatrix_3 (a0 : Int) (a1 : Int) (a2 : Int) (a3 : Int) (a4 : List F) (a5 : Int) (a6 : Int) (a7 : List F) : Option (Int × Int × (List F)) :=
 obind3 (i_newMatrix a0 a1) fun (r1 : Int) (r2 : Int) (r3 : List F) =>
 obind (loopM (i_made_2Fi_ExpMatrix_3_s3 a0 a1 a2 a3 a4 a5 a6 a7 r1 r2 r3) (r3, 0)) fun z => osum z (fun e => i_made_2Fi_ExpMatrix_3_k3 r1 r2 e) (fun r => some r)
theorem i_made_2Fi_ExpMatrix_3_ok (a0 : Int) (a1 : Int) (a2 : Int) (a3 : Int) (a4 : List F) (a5 : Int) (a6 : Int) (a7 : List F) (q0 : Int) (q1 : Int) (q2 : List F) (h : i_made_2Fi_ExpMatrix_3 a0 a1 a2 a3 a4 a5 a6 a7 = some (q0, q1, q2)) : Ev Try.prog 64 [i64 a0, i64 a1, fn (.func 101) [] [ptr (mXc a2 a3 a4), ptr (mXc a5 a6 a7)]] [] (agg (oXc q0 q1 0 0 q2.length)) [⟨0, some (q2.map f32)⟩] := by
 refine yE Try.func64 3 65 0 ([(0, i64 a0), (1, i64 a1), (2, fn (.func 101) [] [ptr (mXc a2 a3 a4), ptr (mXc a5 a6 a7)])]) [⟨0, none⟩, ⟨0, none⟩, ⟨0, none⟩] rfl ?_
 unfold i_made_2Fi_ExpMatrix_3 at h
 refine zQ<|ye rfl (optr 0 1 0) [⟨1, some zMx⟩, ⟨0, none⟩, ⟨0, none⟩] (TOp.alloc_o (g := ⟨0, none⟩) 0 rfl zer33 zok33 rfl)<|zN ?_
 refine yS ?_
 obtain ⟨r1, r2, r3, hf1, h⟩ := obind3_some h
 refine yW<|ym rfl (i64 a0)<|ym rfl (i64 a1)<|ye rfl (agg (oXc r1 r2 1 1 r3.length)) [⟨1, some zMx⟩, ⟨1, some (r3.map f32)⟩, ⟨0, none⟩] (TOp.callBN (ls := [(r3.map f32)]) [1] (CallAs.func ent113 rfl rfl) (bP bN0) rfl (i_newMatrix_ok a0 a1 r1 r2 r3 hf1) (and_all (lts0_map (f := f32) (fun _ => rfl) _) rfl) (and_all (noss_map (f := f32) (fun _ => rfl) _) rfl) rfl (by decide) (ns_of ⟨⟨_, rfl⟩, trivial⟩))<|ye rfl (optr 2 1 0) [⟨1, some zMx⟩, ⟨1, some (r3.map f32)⟩, ⟨1, some zMx⟩] (TOp.alloc_o (g := ⟨0, none⟩) 2 rfl zer33 zok33 rfl)<|ys (agg (oXc r1 r2 1 1 r3.length)) (oXc r1 r2 1 1 r3.length) [⟨1, some zMx⟩, ⟨1, some (r3.map f32)⟩, ⟨1, some (oXc r1 r2 1 1 r3.length)⟩] siz33<|zN ?_
 refine yS<|zQ<|ym rfl (i64 a0)<|ym rfl (i64 0)<|zN ?_
 obtain ⟨z4, hz_4, h⟩ := oS h
 refine RunC.cutN (fun τ Γ => ∃ (L17 : List F), L17.length = r3.length ∧ WeakLe τ [(6, optr 0 1 0), (7, optr 2 1 0)] ∧ DeadLe Γ [⟨1, some zMx⟩, ⟨1, some (L17.map f32)⟩, ⟨1, some (oXc r1 r2 1 1 r3.length)⟩] ∧ z4 = .inl L17) ?_ ?_
 ·refine RunC.block (RunC.loop (RunL.loopM (x := z4) (i_made_2Fi_ExpMatrix_3_s3 a0 a1 a2 a3 a4 a5 a6 a7 r1 r2 r3) (fun (s : (List F) × Int) τ Γ => s.1.length = r3.length ∧ WeakLe τ [(1, i64 a1), (2, fn (.func 101) [] [ptr (mXc a2 a3 a4), ptr (mXc a5 a6 a7)]), (6, optr 0 1 0), (7, optr 2 1 0), (13, i64 a0), (14, i64 s.2)] ∧ DeadLe Γ [⟨1, some zMx⟩, ⟨1, some (s.1.map f32)⟩, ⟨1, some (oXc r1 r2 1 1 r3.length)⟩]) ?_ _ _ _ hz_4 ⟨rfl, ⟨aR, aR, aR, aR, aR, aR, trivial⟩, ⟨⟨rfl, .inr rfl⟩, ⟨rfl, .inr rfl⟩, ⟨rfl, .inr rfl⟩, trivial⟩⟩))
  rintro ⟨L4, v6⟩ τ4 Γ4 y4_ ⟨hl5, hw4, hd4⟩ h4_ ho4 hr4
  refine RunC.wl (τ' := [(1, i64 a1), (2, fn (.func 101) [] [ptr (mXc a2 a3 a4), ptr (mXc a5 a6 a7)]), (6, optr 0 1 0), (7, optr 2 1 0), (13, i64 a0), (14, i64 v6)]) (Γ' := [⟨1, some zMx⟩, ⟨1, some (L4.map f32)⟩, ⟨1, some (oXc r1 r2 1 1 r3.length)⟩]) hw4 hd4 ?_
  replace hl5 : L4.length = r3.length := hl5
  replace h4_ : i_made_2Fi_ExpMatrix_3_b3 a0 a1 a2 a3 a4 a5 a6 a7 r1 r2 r3 L4 v6 = some y4_ := h4_
  unfold i_made_2Fi_ExpMatrix_3_b3 at h4_
  refine yS ?_
  rcases oB h4_ with ⟨hc2, h4_⟩ | ⟨hc2, h4_⟩
  ·refine yW<|yl rfl (b true) (LOp.eqb (LOp.lss rfl rfl rfl) hc2)<|zN ?_
   refine yS<|yT<|RunC.skip<|yS<|RunC.block<|zQ<|ym rfl (i64 v6)<|ya rfl (i64 v6)<|zN ?_
   refine zQ<|ym rfl (i64 a1)<|ym rfl (i64 0)<|zN ?_
   obtain ⟨z5, hz_5, h4_⟩ := oS h4_
   refine RunC.cutN (fun τ Γ => ∃ (L14 : List F), L14.length = r3.length ∧ WeakLe τ [(1, i64 a1), (2, fn (.func 101) [] [ptr (mXc a2 a3 a4), ptr (mXc a5 a6 a7)]), (6, optr 0 1 0), (7, optr 2 1 0), (13, i64 a0), (14, i64 v6)] ∧ DeadLe Γ [⟨1, some zMx⟩, ⟨1, some (L14.map f32)⟩, ⟨1, some (oXc r1 r2 1 1 r3.length)⟩] ∧ z5 = .inl L14) ?_ ?_
   ·refine RunC.block (RunC.loop (RunL.loopM (x := z5) (i_made_2Fi_ExpMatrix_3_s2 a1 a2 a3 a4 a5 a6 a7 r1 r2 r3 v6) (fun (s : (List F) × Int) τ Γ => s.1.length = r3.length ∧ WeakLe τ [(1, i64 a1), (2, fn (.func 101) [] [ptr (mXc a2 a3 a4), ptr (mXc a5 a6 a7)]), (6, optr 0 1 0), (7, optr 2 1 0), (8, i64 v6), (13, i64 a0), (14, i64 v6), (17, i64 a1), (18, i64 s.2)] ∧ DeadLe Γ [⟨1, some zMx⟩, ⟨1, some (s.1.map f32)⟩, ⟨1, some (oXc r1 r2 1 1 r3.length)⟩]) ?_ _ _ _ hz_5 ⟨hl5, ⟨aR, aR, aR, aR, aR, aR, aR, aR, aR, trivial⟩, ⟨⟨rfl, .inr rfl⟩, ⟨rfl, .inr rfl⟩, ⟨rfl, .inr rfl⟩, trivial⟩⟩))
    rintro ⟨L7, v9⟩ τ5 Γ5 y5_ ⟨hl8, hw5, hd5⟩ h5_ ho5 hr5
    refine RunC.wl (τ' := [(1, i64 a1), (2, fn (.func 101) [] [ptr (mXc a2 a3 a4), ptr (mXc a5 a6 a7)]), (6, optr 0 1 0), (7, optr 2 1 0), (8, i64 v6), (13, i64 a0), (14, i64 v6), (17, i64 a1), (18, i64 v9)]) (Γ' := [⟨1, some zMx⟩, ⟨1, some (L7.map f32)⟩, ⟨1, some (oXc r1 r2 1 1 r3.length)⟩]) hw5 hd5 ?_
    replace hl8 : L7.length = r3.length := hl8
    replace h5_ : i_made_2Fi_ExpMatrix_3_b2 a1 a2 a3 a4 a5 a6 a7 r1 r2 r3 v6 L7 v9 = some y5_ := h5_
    unfold i_made_2Fi_ExpMatrix_3_b2 at h5_
    refine yS ?_
    rcases oB h5_ with ⟨hc3, h5_⟩ | ⟨hc3, h5_⟩
    ·refine yW<|yl rfl (b true) (LOp.eqb (LOp.lss rfl rfl rfl) hc3)<|zN ?_
     refine yS<|yT<|RunC.skip<|yS<|RunC.block<|zQ<|ym rfl (i64 v9)<|ya rfl (i64 v9)<|zN ?_
     obtain ⟨r11, hf5, h5_⟩ := oS h5_
     obtain ⟨r12, hf6, h5_⟩ := oS h5_
     obtain ⟨hn7, h5_⟩ := need_some h5_
     refine RunC.region_draw (Γ' := [⟨1, some zMx⟩, ⟨1, some (L7.map f32)⟩, ⟨1, some (oXc r1 r2 1 1 r3.length)⟩]) 7 mixed 
      (TR.d (r := agg (oXc r1 r2 1 1 r3.length)) (fs := []) rfl rfl (TOp.loadAgg_o rfl agg33 siz33 rfl rfl rfl rfl) <|
      (tm rfl (i64 v6) <|
      (tm rfl (i64 v9) <|
      (tm rfl (fn (.func 101) [] [ptr (mXc a2 a3 a4), ptr (mXc a5 a6 a7)]) <|
      (tm rfl (i64 v6) <|
      (tm rfl (i64 v9) <|
      (TR.d (r := f32 r11) (fs := []) rfl rfl (TOp.callB (CallAs.fn ent101 rfl rfl rfl rfl) (bP (bP (Bors.cons (Bor.ptr (bP (bP (bS bN)))) (Bors.cons (Bor.ptr (bP (bP (bS bN)))) bN)))) rfl rfl (i_ExpMatrix_3_ok v6 v9 a2 a3 a4 a5 a6 a7 r11 hf5)) <|
      TR.nil))))))) rfl (by kernel_rfl) rfl fills_nil rfl ?_
     iterate 7 refine ROps.dropS ?_
     refine ROps.drop0<|ROps.callO (A := [agg (oXc r1 r2 1 1 r3.length), i64 v6, i64 v9, f32 r11]) (args := [agg (oXc r1 r2 0 0 L7.length), i64 v6, i64 v9, f32 r11]) (Γc := [⟨0, some (L7.map f32)⟩]) (Γc' := [⟨0, some (r12.map f32)⟩]) (r' := tup []) (Γ' := [⟨1, some zMx⟩, ⟨1, some (r12.map f32)⟩, ⟨1, some (oXc r1 r2 1 1 r3.length)⟩]) [(1, 1)] [] rfl (CallAs.func ent93 rfl rfl) rfl rfl (SelOk.of (ndB_ok rfl) (SelL.arr0 (f := f32) (fun _ => rfl) rfl trivial)) (live_of ⟨⟨_, _, rfl⟩, trivial⟩) (by simp [ren, rens, sigma, rens_f32, rens_f64, rens_i64, rens_ik, rens_str, rens_cp, hl8]) rfl (i_Matrix_set_02o_ok r1 r2 v6 v9 r11 L7 r12 hf6) rfl (news_of trivial) (ndB_ok rfl) (by simp [ren, rens, sigma, of_decide_eq_true hn7]) (by simp [backOb, sigma, ren, rens, rens_f32, rens_f64, rens_i64, rens_ik, rens_str, rens_cp])<|zN ?_
     obtain ⟨x13, hx8, h5_⟩ := oL h5_
     refine yW<|yl rfl (i64 x13) (LOp.eqr (LOp.add rfl rfl rfl) (congrArg (ik .i64) hx8))<|ym rfl (i64 x13)<|zN ?_
     cases oI h5_
     exact ⟨_, rfl, (of_decide_eq_true hn7), ⟨aR, aR, aR, aR, aR, aR, aR, aR, aR, trivial⟩, ⟨⟨rfl, .inr rfl⟩, ⟨rfl, .inr rfl⟩, ⟨rfl, .inr rfl⟩, trivial⟩⟩
    ·refine yW<|yl rfl (b false) (LOp.eqb (LOp.lss rfl rfl rfl) hc3)<|zN ?_
     refine yS<|yF<|RunC.exit ?_
     cases oI h5_
     have hx := ho5 _ rfl
     exact ⟨L7, hl8, ⟨aR, aR, aR, aR, aR, aR, trivial⟩, ⟨⟨rfl, .inr rfl⟩, ⟨rfl, .inr rfl⟩, ⟨rfl, .inr rfl⟩, trivial⟩, hx⟩
   ·rintro τ6 Γ6 ⟨L14, hl15, hw6, hd6, rfl⟩
    refine RunC.wl hw6 hd6 ?_
    replace h4_ : i_made_2Fi_ExpMatrix_3_k2 v6 L14 = some y4_ := h4_
    unfold i_made_2Fi_ExpMatrix_3_k2 at h4_
    obtain ⟨x16, hx9, h4_⟩ := oL h4_
    refine yW<|yl rfl (i64 x16) (LOp.eqr (LOp.add rfl rfl rfl) (congrArg (ik .i64) hx9))<|ym rfl (i64 x16)<|zN ?_
    cases oI h4_
    exact ⟨_, rfl, hl15, ⟨aR, aR, aR, aR, aR, aR, trivial⟩, ⟨⟨rfl, .inr rfl⟩, ⟨rfl, .inr rfl⟩, ⟨rfl, .inr rfl⟩, trivial⟩⟩
  ·refine yW<|yl rfl (b false) (LOp.eqb (LOp.lss rfl rfl rfl) hc2)<|zN ?_
   refine yS<|yF<|RunC.exit ?_
   cases oI h4_
   have hx := ho4 _ rfl
   exact ⟨L4, hl5, ⟨aR, aR, trivial⟩, ⟨⟨rfl, .inr rfl⟩, ⟨rfl, .inr rfl⟩, ⟨rfl, .inr rfl⟩, trivial⟩, hx⟩
 ·rintro τ7 Γ7 ⟨L17, hl18, hw7, hd7, rfl⟩
  refine RunC.wl hw7 hd7 ?_
  replace h : i_made_2Fi_ExpMatrix_3_k3 r1 r2 L17 = some (q0, q1, q2) := h
  unfold i_made_2Fi_ExpMatrix_3_k3 at h
  refine zQ<|yd rfl (agg (oXc r1 r2 1 1 r3.length)) (TOp.loadAgg_o rfl agg33 siz33 rfl rfl rfl rfl)<|ys (agg (oXc r1 r2 1 1 r3.length)) (oXc r1 r2 1 1 r3.length) [⟨1, some (oXc r1 r2 1 1 r3.length)⟩, ⟨1, some (L17.map f32)⟩, ⟨1, some (oXc r1 r2 1 1 r3.length)⟩] siz33<|zN ?_
  refine RunC.ret ?_
  have hq := oI h
  obtain ⟨hq0, hq⟩ := Prod.mk.inj hq
  obtain ⟨hq1, hq⟩ := Prod.mk.inj hq
  subst q0
  subst q1
  subst q2
  exact yB (agg (oXc r1 r2 1 1 L17.length)) [(1, 1)] (Res.eq (Res.one rfl (RV.cell agg33 siz33 rfl rfl rfl rfl)) (by rw [(show L17.length = r3.length from hl18)] <;> rfl)) (SelL.arr0 (f := f32) (fun _ => rfl) rfl trivial)
end
end Go.Proofs.Ytkdociaoknmgbaa
