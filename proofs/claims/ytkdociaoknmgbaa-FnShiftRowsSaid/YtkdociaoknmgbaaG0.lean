/- Generated. -/
import Derived.Test.YtkdociaoknmgbaaTys
namespace Go.Proofs.Ytkdociaoknmgbaa
open Go Go.AM Go.AM.AV
set_option maxRecDepth 20000
set_option maxHeartbeats 4000000
set_option linter.unusedVariables false
set_option linter.unusedSimpArgs false
noncomputable section
def w_b10Long (a0 : List Int) (a1 : List Int) : Option (Bool) :=
 bsel (decide (1048576 < (a0.length : Int))) (
  some true) (
  some (decide (1048576 < (a1.length : Int))))
theorem w_b10Long_ok (a0 : List Int) (a1 : List Int) (q0 : Bool) (h : w_b10Long a0 a1 = some q0) : Ev Try.prog 7 [sl a0.length (a0.map (ik .u8)), sl a1.length (a1.map (ik .u8))] [] (b q0) [] := by
 refine yE Try.func7 0 27 0 [(0, sl a0.length (a0.map (ik .u8))), (1, sl a1.length (a1.map (ik .u8)))] [] rfl ?_
 unfold w_b10Long at h
 refine zQ<|ya rfl (b false)<|zN ?_
 refine yS ?_
 rcases oB h with ⟨hc1, h⟩ | ⟨hc1, h⟩
 ·refine yW<|ym rfl (sl a0.length (a0.map (ik .u8)))<|yl rfl (i64 (a0.length : Int)) (LOp.len_sl und22 rfl rfl)<|yl rfl (b true) (LOp.eqb (LOp.gtr rfl rfl rfl) hc1)<|ym rfl (b true)<|ROps.s rfl rfl rfl<|ROps.s rfl rfl rfl<|ROps.s rfl rfl rfl<|yl rfl (b true) yq<|ya rfl (b true)<|zN ?_
  refine RunC.ret ?_
  have hq := oI h
  subst q0
  exact bodyQ.pure (.inr rfl) rfl (Res.one rfl (RV.tmp rfl))
 ·refine yW<|ym rfl (sl a0.length (a0.map (ik .u8)))<|yl rfl (i64 (a0.length : Int)) (LOp.len_sl und22 rfl rfl)<|yl rfl (b false) (LOp.eqb (LOp.gtr rfl rfl rfl) hc1)<|ym rfl (b false)<|ym rfl (sl a1.length (a1.map (ik .u8)))<|yl rfl (i64 (a1.length : Int)) (LOp.len_sl und22 rfl rfl)<|yl rfl (b (decide (1048576 < (a1.length : Int)))) (LOp.gtr rfl rfl rfl)<|yl rfl (b (decide (1048576 < (a1.length : Int)))) yp<|ya rfl (b (decide (1048576 < (a1.length : Int))))<|zN ?_
  refine RunC.ret ?_
  have hq := oI h
  subst q0
  exact bodyQ.pure (.inr rfl) rfl (Res.one rfl (RV.tmp rfl))
def w_b10At (a0 : List Int) (a1 : Int) (a2 : Int) : Option (Int) :=
 bsel (decide (a2 ≤ 1)) (
  some 0) (
  bsel (decide (a1 < (a0.length : Int))) (
   obind (at? a0 a1) fun (e1 : Int) =>
   olet (IntKind.i64.wrap e1) fun (x2 : Int) =>
   need (!decide (a2 = 0)) <|
   olet (x2.tmod a2) fun (x3 : Int) =>
   some x3) (
   olet (IntKind.i64.wrap (a1 * 37)) fun (x4 : Int) =>
   olet (IntKind.i64.wrap (x4 + 11)) fun (x5 : Int) =>
   need (!decide (a2 = 0)) <|
   olet (x5.tmod a2) fun (x6 : Int) =>
   some x6))
theorem w_b10At_ok (a0 : List Int) (a1 : Int) (a2 : Int) (q0 : Int) (h : w_b10At a0 a1 a2 = some q0) : Ev Try.prog 8 [sl a0.length (a0.map (ik .u8)), i64 a1, i64 a2] [] (i64 q0) [] := by
 refine yE Try.func8 0 51 0 [(0, sl a0.length (a0.map (ik .u8))), (1, i64 a1), (2, i64 a2)] [] rfl ?_
 unfold w_b10At at h
 refine zQ<|ya rfl (i64 0)<|zN ?_
 refine yS<|yS ?_
 rcases oB h with ⟨hc1, h⟩ | ⟨hc1, h⟩
 ·refine yW<|ym rfl (i64 a2)<|yl rfl (b true) (LOp.eqb (LOp.leq rfl rfl rfl) hc1)<|zN ?_
  refine yT<|zQ<|ya rfl (i64 0)<|zN ?_
  refine RunC.ret ?_
  have hq := oI h
  subst q0
  exact bodyQ.pure (.inr rfl) rfl (Res.one rfl (RV.tmp rfl))
 ·refine yW<|ym rfl (i64 a2)<|yl rfl (b false) (LOp.eqb (LOp.leq rfl rfl rfl) hc1)<|zN ?_
  refine yF<|RunC.skip<|yS<|yS ?_
  rcases oB h with ⟨hc2, h⟩ | ⟨hc2, h⟩
  ·refine yW<|ym rfl (i64 a1)<|ym rfl (sl a0.length (a0.map (ik .u8)))<|yl rfl (i64 (a0.length : Int)) (LOp.len_sl und22 rfl rfl)<|yl rfl (b true) (LOp.eqb (LOp.lss rfl rfl rfl) hc2)<|zN ?_
   refine yT<|yS ?_
   obtain ⟨e1, he3, h⟩ := oS h
   obtain ⟨x2, hx4, h⟩ := oL h
   obtain ⟨hz5, h⟩ := need_some h
   obtain ⟨x3, hx6, h⟩ := oL h
   refine yW<|ym rfl (sl a0.length (a0.map (ik .u8)))<|ym rfl (i64 a1)<|yl rfl (ptr [ik .u8 e1]) (LOp.le (LOp.ix (f := (ik .u8)) und22 siz5 rfl rfl rfl rfl he3) ALe.ptr)<|yl rfl (ik .u8 e1) (y2 agg5)<|yl rfl (i64 x2) (LOp.eqr (LOp.i2i (src := 5) (dst := 2) ⟨_, pun5⟩ pun2 rfl rfl) (congrArg (ik .i64) hx4))<|ym rfl (i64 a2)<|yl rfl (i64 x3) (LOp.eqr (LOp.rem rfl rfl rfl (nz hz5)) (congrArg (ik .i64) hx6))<|ya rfl (i64 x3)<|zN ?_
   refine RunC.ret ?_
   have hq := oI h
   subst q0
   exact bodyQ.pure (.inr rfl) rfl (Res.one rfl (RV.tmp rfl))
  ·refine yW<|ym rfl (i64 a1)<|ym rfl (sl a0.length (a0.map (ik .u8)))<|yl rfl (i64 (a0.length : Int)) (LOp.len_sl und22 rfl rfl)<|yl rfl (b false) (LOp.eqb (LOp.lss rfl rfl rfl) hc2)<|zN ?_
   refine yF<|RunC.skip<|yS ?_
   obtain ⟨x4, hx7, h⟩ := oL h
   obtain ⟨x5, hx8, h⟩ := oL h
   obtain ⟨hz9, h⟩ := need_some h
   obtain ⟨x6, hx10, h⟩ := oL h
   refine yW<|ym rfl (i64 a1)<|yl rfl (i64 x4) (LOp.eqr (LOp.mul rfl rfl rfl) (congrArg (ik .i64) hx7))<|yl rfl (i64 x5) (LOp.eqr (LOp.add rfl rfl rfl) (congrArg (ik .i64) hx8))<|ym rfl (i64 a2)<|yl rfl (i64 x6) (LOp.eqr (LOp.rem rfl rfl rfl (nz hz9)) (congrArg (ik .i64) hx10))<|ya rfl (i64 x6)<|zN ?_
   refine RunC.ret ?_
   have hq := oI h
   subst q0
   exact bodyQ.pure (.inr rfl) rfl (Res.one rfl (RV.tmp rfl))
def s_l00From (a0 : List Int) : Option ((List Int) × Int × Int) :=
 some (a0, 0, 0)
theorem s_l00From_ok (a0 : List Int) (q0 : List Int) (q1 : Int) (q2 : Int) (h : s_l00From a0 = some (q0, q1, q2)) : Ev Try.prog 71 [sl a0.length (a0.map (ik .u8))] [] (optr 0 0 0) [⟨0, some [sl q0.length (q0.map (ik .u8)), i64 q1, ik .u64 q2]⟩] := by
 refine yE Try.func71 1 13 0 [(0, sl a0.length (a0.map (ik .u8)))] [⟨0, none⟩] rfl ?_
 unfold s_l00From at h
 refine zQ<|ya rfl (x (.pointer none))<|zN ?_
 refine zQ<|ym rfl (sl a0.length (a0.map (ik .u8)))<|yl rfl (agg [sl a0.length (a0.map (ik .u8)), i64 0, ik .u64 0]) (LOp.build (qs := [(0, [sl a0.length (a0.map (ik .u8))])]) zer136 zok136 und136 plc136 rfl ⟨rfl, ⟨_, ALe.refl _, rfl⟩, trivial⟩ rfl)<|ye rfl (optr 0 1 0) ([⟨1, some [sl a0.length (a0.map (ik .u8)), i64 0, ik .u64 0]⟩]) (TOp.box_o (g := ⟨0, none⟩) 0 rfl rfl rfl rfl)<|ya rfl (optr 0 1 0)<|zN ?_
 refine RunC.ret ?_
 have hq := oI h
 obtain ⟨hq0, hq⟩ := Prod.mk.inj hq
 obtain ⟨hq1, hq⟩ := Prod.mk.inj hq
 subst q0
 subst q1
 subst q2
 exact yB (optr 0 1 0) [(0, 1)] (Res.one rfl (RV.tmp rfl)) (SelL.cells0 rfl (by first | rfl | simp [ren, rens, sigma, rens_f32, rens_f64, rens_i64, rens_ik, rens_str, rens_cp]) (lts_cons (lt_slk (fun _ => rfl)) (lts_cons rfl (lts_cons rfl lts_nil))) trivial)
def s_l00Src_next_0p0_C0_k1 (a0 : List Int) (a1 : Int) (a2 : Int) (v3 : Int) : Option (Int × Int × Int) :=
 olet (IntKind.i64.wrap (a1 + 1)) fun (x4 : Int) =>
 olet (IntKind.u64.wrap (a2 * 6364136223846793005)) fun (x5 : Int) =>
 olet (IntKind.u64.wrap v3) fun (x6 : Int) =>
 olet (IntKind.u64.wrap (x5 + x6)) fun (x7 : Int) =>
 olet (IntKind.u64.wrap (x7 + 1442695040888963407)) fun (x8 : Int) =>
 bsel (decide (x4 ≤ (a0.length : Int))) (
  some (v3, x4, x8)) (
  need (decide ((0 : Int) ≤ 40)) <|
  olet (ishr .u64 x8 40) fun (x9 : Int) =>
  olet (iand .u64 x9 255) fun (x10 : Int) =>
  olet (IntKind.i64.wrap x10) fun (x11 : Int) =>
  some (x11, x4, x8))
def s_l00Src_next_0p0_C0 (a0 : List Int) (a1 : Int) (a2 : Int) : Option (Int × Int × Int) :=
 bsel (decide (a1 < (a0.length : Int))) (
  obind (at? a0 a1) fun (e1 : Int) =>
  olet (IntKind.i64.wrap e1) fun (x2 : Int) =>
  s_l00Src_next_0p0_C0_k1 a0 a1 a2 x2) (
  s_l00Src_next_0p0_C0_k1 a0 a1 a2 0)
theorem s_l00Src_next_0p0_C0_ok (a0 : List Int) (a1 : Int) (a2 : Int) (q0 : Int) (q1 : Int) (q2 : Int) (h : s_l00Src_next_0p0_C0 a0 a1 a2 = some (q0, q1, q2)) : Ev Try.prog 140 [optr 0 0 0] [⟨0, some [sl a0.length (a0.map (ik .u8)), i64 a1, ik .u64 a2]⟩] (i64 q0) [⟨0, some [sl a0.length (a0.map (ik .u8)), i64 q1, ik .u64 q2]⟩] := by
 refine Ev.start Try.func140 rfl rfl 0 (τ := [(0, optr 0 0 0)]) rfl (Γ' := [⟨0, some [sl a0.length (a0.map (ik .u8)), i64 a1, ik .u64 a2]⟩]) rfl (n := 124) rfl (g := 1) rfl (by decide) ?_
 unfold s_l00Src_next_0p0_C0 at h
 refine zQ<|ya rfl (i64 0)<|zN ?_
 refine zQ<|ya rfl (i64 0)<|zN ?_
 refine yS<|RunC.cutN (fun τ Γ => ∃ (v3 : Int), WeakLe τ [(0, optr 0 0 0), (3, i64 v3)] ∧ DeadLe Γ [⟨0, some [sl a0.length (a0.map (ik .u8)), i64 a1, ik .u64 a2]⟩] ∧ s_l00Src_next_0p0_C0_k1 a0 a1 a2 v3 = some (q0, q1, q2)) ?_ ?_
 ·refine yS ?_
  rcases oB h with ⟨hc1, h⟩ | ⟨hc1, h⟩
  ·refine RunC.region_draw (Γ' := [⟨0, some [sl a0.length (a0.map (ik .u8)), i64 a1, ik .u64 a2]⟩]) 10 mixed 
    (tm rfl (optr 0 0 0) <|
    (tl rfl (optr 0 0 0) (LOp.nilCheck_optr rfl rfl) <|
    (tl rfl (optr 0 0 1) (LOp.fao und136 rfl siz3 rfl rfl rfl) <|
    (TR.d (r := i64 a1) (fs := []) rfl rfl (TOp.load1_o rfl rfl agg3 rfl rfl) <|
    (tm rfl (optr 0 0 0) <|
    (tl rfl (optr 0 0 0) (LOp.nilCheck_optr rfl rfl) <|
    (tl rfl (optr 0 0 0) (LOp.fao und136 rfl siz22 rfl rfl rfl) <|
    (TR.d (r := sl a0.length (a0.map (ik .u8))) (fs := []) rfl rfl (TOp.load1_o rfl rfl agg22 rfl rfl) <|
    (tl rfl (i64 (a0.length : Int)) (LOp.len_sl und22 rfl rfl) <|
    (tl rfl (b true) (LOp.eqb (LOp.lss rfl rfl rfl) hc1) <|
    TR.nil)))))))))) rfl (by kernel_rfl) rfl fills_nil rfl ?_
   iterate 10 refine ROps.dropS ?_
   refine ROps.drop0<|zN ?_
   refine yT ?_
   obtain ⟨e1, he2, h⟩ := oS h
   obtain ⟨x2, hx3, h⟩ := oL h
   refine RunC.region_draw (Γ' := [⟨0, some [sl a0.length (a0.map (ik .u8)), i64 a1, ik .u64 a2]⟩]) 12 mixed 
    (tm rfl (optr 0 0 0) <|
    (tl rfl (optr 0 0 0) (LOp.nilCheck_optr rfl rfl) <|
    (tl rfl (optr 0 0 0) (LOp.fao und136 rfl siz22 rfl rfl rfl) <|
    (TR.d (r := sl a0.length (a0.map (ik .u8))) (fs := []) rfl rfl (TOp.load1_o rfl rfl agg22 rfl rfl) <|
    (tm rfl (optr 0 0 0) <|
    (tl rfl (optr 0 0 0) (LOp.nilCheck_optr rfl rfl) <|
    (tl rfl (optr 0 0 1) (LOp.fao und136 rfl siz3 rfl rfl rfl) <|
    (TR.d (r := i64 a1) (fs := []) rfl rfl (TOp.load1_o rfl rfl agg3 rfl rfl) <|
    (tl rfl (ptr [ik .u8 e1]) (LOp.le (LOp.ix (f := (ik .u8)) und22 siz5 rfl rfl rfl rfl he2) ALe.ptr) <|
    (tl rfl (ik .u8 e1) (y2 agg5) <|
    (tl rfl (i64 x2) (LOp.eqr (LOp.i2i (src := 5) (dst := 3) ⟨_, pun5⟩ pun3 rfl rfl) (congrArg (ik .i64) hx3)) <|
    (tl rfl (i64 x2) (LOp.assign rfl rfl) <|
    TR.nil)))))))))))) rfl (by kernel_rfl) rfl fills_nil rfl ?_
   iterate 12 refine ROps.dropS ?_
   refine ROps.drop0<|zN ?_
   exact ⟨x2, ⟨aR, aR, trivial⟩, ⟨⟨rfl, .inr rfl⟩, trivial⟩, h⟩
  ·refine RunC.region_draw (Γ' := [⟨0, some [sl a0.length (a0.map (ik .u8)), i64 a1, ik .u64 a2]⟩]) 10 mixed 
    (tm rfl (optr 0 0 0) <|
    (tl rfl (optr 0 0 0) (LOp.nilCheck_optr rfl rfl) <|
    (tl rfl (optr 0 0 1) (LOp.fao und136 rfl siz3 rfl rfl rfl) <|
    (TR.d (r := i64 a1) (fs := []) rfl rfl (TOp.load1_o rfl rfl agg3 rfl rfl) <|
    (tm rfl (optr 0 0 0) <|
    (tl rfl (optr 0 0 0) (LOp.nilCheck_optr rfl rfl) <|
    (tl rfl (optr 0 0 0) (LOp.fao und136 rfl siz22 rfl rfl rfl) <|
    (TR.d (r := sl a0.length (a0.map (ik .u8))) (fs := []) rfl rfl (TOp.load1_o rfl rfl agg22 rfl rfl) <|
    (tl rfl (i64 (a0.length : Int)) (LOp.len_sl und22 rfl rfl) <|
    (tl rfl (b false) (LOp.eqb (LOp.lss rfl rfl rfl) hc1) <|
    TR.nil)))))))))) rfl (by kernel_rfl) rfl fills_nil rfl ?_
   iterate 10 refine ROps.dropS ?_
   refine ROps.drop0<|zN ?_
   refine yF<|RunC.skip ?_
   exact ⟨0, ⟨aR, aR, trivial⟩, ⟨⟨rfl, .inr rfl⟩, trivial⟩, h⟩
 ·rintro τ2 Γ2 ⟨v3, hw2, hd2, h⟩
  refine RunC.wl hw2 hd2 ?_
  unfold s_l00Src_next_0p0_C0_k1 at h
  refine yS ?_
  obtain ⟨x4, hx4, h⟩ := oL h
  refine yW<|ym rfl (optr 0 0 0)<|yl rfl (optr 0 0 0) (LOp.nilCheck_optr rfl rfl)<|yl rfl (optr 0 0 1) (LOp.fao und136 rfl siz3 rfl rfl rfl)<|yd rfl (i64 a1) (TOp.load1_o rfl rfl agg3 rfl rfl)<|yl rfl (i64 x4) (LOp.eqr (LOp.add rfl rfl rfl) (congrArg (ik .i64) hx4))<|yl rfl (optr 0 0 0) (LOp.nilCheck_optr rfl rfl)<|yl rfl (optr 0 0 1) (LOp.fao und136 rfl siz3 rfl rfl rfl)<|ys (i64 x4) [sl a0.length (a0.map (ik .u8)), i64 x4, ik .u64 a2] ([⟨0, some [sl a0.length (a0.map (ik .u8)), i64 x4, ik .u64 a2]⟩]) siz3<|zN ?_
  refine yS ?_
  obtain ⟨x5, hx5, h⟩ := oL h
  obtain ⟨x6, hx6, h⟩ := oL h
  obtain ⟨x7, hx7, h⟩ := oL h
  obtain ⟨x8, hx8, h⟩ := oL h
  refine yW<|ym rfl (optr 0 0 0)<|ym rfl (optr 0 0 0)<|yl rfl (optr 0 0 0) (LOp.nilCheck_optr rfl rfl)<|yl rfl (optr 0 0 2) (LOp.fao und136 rfl siz134 rfl rfl rfl)<|yd rfl (ik .u64 a2) (TOp.load1_o rfl rfl agg134 rfl rfl)<|yl rfl (ik .u64 x5) (LOp.eqr (LOp.mul rfl rfl rfl) (congrArg (ik .u64) hx5))<|ym rfl (i64 v3)<|yl rfl (ik .u64 x6) (LOp.eqr (LOp.i2i (src := 3) (dst := 134) ⟨_, pun3⟩ pun134 rfl rfl) (congrArg (ik .u64) hx6))<|yl rfl (ik .u64 x7) (LOp.eqr (LOp.add rfl rfl rfl) (congrArg (ik .u64) hx7))<|yl rfl (ik .u64 x8) (LOp.eqr (LOp.add rfl rfl rfl) (congrArg (ik .u64) hx8))<|yl rfl (optr 0 0 0) (LOp.nilCheck_optr rfl rfl)<|yl rfl (optr 0 0 2) (LOp.fao und136 rfl siz134 rfl rfl rfl)<|ys (ik .u64 x8) [sl a0.length (a0.map (ik .u8)), i64 x4, ik .u64 x8] ([⟨0, some [sl a0.length (a0.map (ik .u8)), i64 x4, ik .u64 x8]⟩]) siz134<|zN ?_
  refine RunC.wl (τ' := [(0, optr 0 0 0), (3, i64 v3)]) (Γ' := [⟨0, some [sl a0.length (a0.map (ik .u8)), i64 x4, ik .u64 x8]⟩]) ⟨aR, aR, trivial⟩ ⟨⟨rfl, .inr rfl⟩, trivial⟩<|yS<|yS ?_
  rcases oB h with ⟨hc9, h⟩ | ⟨hc9, h⟩
  ·refine RunC.region_draw (Γ' := [⟨0, some [sl a0.length (a0.map (ik .u8)), i64 x4, ik .u64 x8]⟩]) 10 mixed 
    (tm rfl (optr 0 0 0) <|
    (tl rfl (optr 0 0 0) (LOp.nilCheck_optr rfl rfl) <|
    (tl rfl (optr 0 0 1) (LOp.fao und136 rfl siz3 rfl rfl rfl) <|
    (TR.d (r := i64 x4) (fs := []) rfl rfl (TOp.load1_o rfl rfl agg3 rfl rfl) <|
    (tm rfl (optr 0 0 0) <|
    (tl rfl (optr 0 0 0) (LOp.nilCheck_optr rfl rfl) <|
    (tl rfl (optr 0 0 0) (LOp.fao und136 rfl siz22 rfl rfl rfl) <|
    (TR.d (r := sl a0.length (a0.map (ik .u8))) (fs := []) rfl rfl (TOp.load1_o rfl rfl agg22 rfl rfl) <|
    (tl rfl (i64 (a0.length : Int)) (LOp.len_sl und22 rfl rfl) <|
    (tl rfl (b true) (LOp.eqb (LOp.leq rfl rfl rfl) hc9) <|
    TR.nil)))))))))) rfl (by kernel_rfl) rfl fills_nil rfl ?_
   iterate 10 refine ROps.dropS ?_
   refine ROps.drop0<|zN ?_
   refine yT<|zQ<|ym rfl (i64 v3)<|ya rfl (i64 v3)<|zN ?_
   refine RunC.ret ?_
   have hq := oI h
   obtain ⟨hq0, hq⟩ := Prod.mk.inj hq
   obtain ⟨hq1, hq⟩ := Prod.mk.inj hq
   subst q0
   subst q1
   subst q2
   exact yB (i64 v3) [(0, 0)] (Res.one rfl (RV.tmp rfl)) (SelL.cells rfl (by first | rfl | simp [ren, rens, sigma, rens_f32, rens_f64, rens_i64, rens_ik, rens_str, rens_cp]) (lts_cons (lt_slk (fun _ => rfl)) (lts_cons rfl (lts_cons rfl lts_nil))) trivial)
  ·refine RunC.region_draw (Γ' := [⟨0, some [sl a0.length (a0.map (ik .u8)), i64 x4, ik .u64 x8]⟩]) 10 mixed 
    (tm rfl (optr 0 0 0) <|
    (tl rfl (optr 0 0 0) (LOp.nilCheck_optr rfl rfl) <|
    (tl rfl (optr 0 0 1) (LOp.fao und136 rfl siz3 rfl rfl rfl) <|
    (TR.d (r := i64 x4) (fs := []) rfl rfl (TOp.load1_o rfl rfl agg3 rfl rfl) <|
    (tm rfl (optr 0 0 0) <|
    (tl rfl (optr 0 0 0) (LOp.nilCheck_optr rfl rfl) <|
    (tl rfl (optr 0 0 0) (LOp.fao und136 rfl siz22 rfl rfl rfl) <|
    (TR.d (r := sl a0.length (a0.map (ik .u8))) (fs := []) rfl rfl (TOp.load1_o rfl rfl agg22 rfl rfl) <|
    (tl rfl (i64 (a0.length : Int)) (LOp.len_sl und22 rfl rfl) <|
    (tl rfl (b false) (LOp.eqb (LOp.leq rfl rfl rfl) hc9) <|
    TR.nil)))))))))) rfl (by kernel_rfl) rfl fills_nil rfl ?_
   iterate 10 refine ROps.dropS ?_
   refine ROps.drop0<|zN ?_
   refine yF<|RunC.skip<|yS ?_
   obtain ⟨hz10, h⟩ := need_some h
   obtain ⟨x9, hx11, h⟩ := oL h
   obtain ⟨x10, hx12, h⟩ := oL h
   obtain ⟨x11, hx13, h⟩ := oL h
   refine yW<|ym rfl (optr 0 0 0)<|yl rfl (optr 0 0 0) (LOp.nilCheck_optr rfl rfl)<|yl rfl (optr 0 0 2) (LOp.fao und136 rfl siz134 rfl rfl rfl)<|yd rfl (ik .u64 x8) (TOp.load1_o rfl rfl agg134 rfl rfl)<|yl rfl (ik .u64 x9) (LOp.eqr (LOp.shr rfl rfl rfl (of_decide_eq_true hz10)) (congrArg (ik .u64) hx11))<|yl rfl (ik .u64 x10) (LOp.eqr (LOp.iand rfl rfl rfl) (congrArg (ik .u64) hx12))<|yl rfl (i64 x11) (LOp.eqr (LOp.i2i (src := 134) (dst := 2) ⟨_, pun134⟩ pun2 rfl rfl) (congrArg (ik .i64) hx13))<|ya rfl (i64 x11)<|zN ?_
   refine RunC.ret ?_
   have hq := oI h
   obtain ⟨hq0, hq⟩ := Prod.mk.inj hq
   obtain ⟨hq1, hq⟩ := Prod.mk.inj hq
   subst q0
   subst q1
   subst q2
   exact yB (i64 x11) [(0, 0)] (Res.one rfl (RV.tmp rfl)) (SelL.cells rfl (by first | rfl | simp [ren, rens, sigma, rens_f32, rens_f64, rens_i64, rens_ik, rens_str, rens_cp]) (lts_cons (lt_slk (fun _ => rfl)) (lts_cons rfl (lts_cons rfl lts_nil))) trivial)
def s_l00Src_pick_0p0_C0_k1 (a0 : Int) (v9 : Int) (v10 : Int) (v11 : Int) : Option (Int × Int × Int) :=
 need (!decide (a0 = 0)) <|
 olet (v11.tmod a0) fun (x12 : Int) =>
 some (x12, v9, v10)
def s_l00Src_pick_0p0_C0 (a0 : Int) (a1 : List Int) (a2 : Int) (a3 : Int) : Option (Int × Int × Int) :=
 bsel (decide (a0 ≤ 1)) (
  some (0, a2, a3)) (
  obind3 (s_l00Src_next_0p0_C0 a1 a2 a3) fun (r1 : Int) (r2 : Int) (r3 : Int) =>
  bsel (decide (200 < a0)) (
   olet (IntKind.i64.wrap (r1 * 256)) fun (x4 : Int) =>
   obind3 (s_l00Src_next_0p0_C0 a1 r2 r3) fun (r5 : Int) (r6 : Int) (r7 : Int) =>
   olet (IntKind.i64.wrap (x4 + r5)) fun (x8 : Int) =>
   s_l00Src_pick_0p0_C0_k1 a0 r6 r7 x8) (
   s_l00Src_pick_0p0_C0_k1 a0 r2 r3 r1))
theorem s_l00Src_pick_0p0_C0_ok (a0 : Int) (a1 : List Int) (a2 : Int) (a3 : Int) (q0 : Int) (q1 : Int) (q2 : Int) (h : s_l00Src_pick_0p0_C0 a0 a1 a2 a3 = some (q0, q1, q2)) : Ev Try.prog 72 [optr 0 0 0, i64 a0] [⟨0, some [sl a1.length (a1.map (ik .u8)), i64 a2, ik .u64 a3]⟩] (i64 q0) [⟨0, some [sl a1.length (a1.map (ik .u8)), i64 q1, ik .u64 q2]⟩] := by
 refine Ev.start Try.func72 rfl rfl 0 (τ := [(0, optr 0 0 0), (1, i64 a0)]) rfl (Γ' := [⟨0, some [sl a1.length (a1.map (ik .u8)), i64 a2, ik .u64 a3]⟩]) rfl (n := 40) rfl (g := 1) rfl (by decide) ?_
 unfold s_l00Src_pick_0p0_C0 at h
 refine zQ<|ya rfl (i64 0)<|zN ?_
 refine yS<|yS ?_
 rcases oB h with ⟨hc1, h⟩ | ⟨hc1, h⟩
 ·refine yW<|ym rfl (i64 a0)<|yl rfl (b true) (LOp.eqb (LOp.leq rfl rfl rfl) hc1)<|zN ?_
  refine yT<|zQ<|ya rfl (i64 0)<|zN ?_
  refine RunC.ret ?_
  have hq := oI h
  obtain ⟨hq0, hq⟩ := Prod.mk.inj hq
  obtain ⟨hq1, hq⟩ := Prod.mk.inj hq
  subst q0
  subst q1
  subst q2
  exact yB (i64 0) [(0, 0)] (Res.one rfl (RV.tmp rfl)) (SelL.cells rfl (by first | rfl | simp [ren, rens, sigma, rens_f32, rens_f64, rens_i64, rens_ik, rens_str, rens_cp]) (lts_cons (lt_slk (fun _ => rfl)) (lts_cons rfl (lts_cons rfl lts_nil))) trivial)
 ·refine yW<|ym rfl (i64 a0)<|yl rfl (b false) (LOp.eqb (LOp.leq rfl rfl rfl) hc1)<|zN ?_
  refine yF<|RunC.skip<|yS ?_
  obtain ⟨r1, r2, r3, hf2, h⟩ := obind3_some h
  refine yW<|ym rfl (optr 0 0 0)<|ROps.callO (A := [optr 0 0 0]) (args := [optr 0 0 0]) (Γc := [⟨0, some [sl a1.length (a1.map (ik .u8)), i64 a2, ik .u64 a3]⟩]) (Γc' := [⟨0, some [sl a1.length (a1.map (ik .u8)), i64 r2, ik .u64 r3]⟩]) (r' := i64 r1) (Γ' := [⟨0, some [sl a1.length (a1.map (ik .u8)), i64 r2, ik .u64 r3]⟩]) [(0, 0)] [] rfl (CallAs.func ent140 rfl rfl) rfl rfl (SelOk.of (ndB_ok rfl) (SelL.cells0 rfl (by simp [ren, rens, sigma, rens_f32, rens_f64, rens_i64, rens_ik, rens_str, rens_cp]) (lts_cons (lt_slk (fun _ => rfl)) (lts_cons rfl (lts_cons rfl lts_nil))) trivial)) (live_of ⟨⟨_, _, rfl⟩, trivial⟩) (by simp [ren, rens, sigma, rens_f32, rens_f64, rens_i64, rens_ik, rens_str, rens_cp]) rfl (s_l00Src_next_0p0_C0_ok a1 a2 a3 r1 r2 r3 hf2) rfl (news_of trivial) (ndB_ok rfl) (by simp [ren, rens, sigma]) (by simp [backOb, sigma, ren, rens, rens_f32, rens_f64, rens_i64, rens_ik, rens_str, rens_cp] <;> omega)<|ya rfl (i64 r1)<|zN ?_
  refine yS<|RunC.cutN (fun τ Γ => ∃ (v9 : Int) (v10 : Int) (v11 : Int), WeakLe τ [(1, i64 a0), (5, i64 v11)] ∧ DeadLe Γ [⟨0, some [sl a1.length (a1.map (ik .u8)), i64 v9, ik .u64 v10]⟩] ∧ s_l00Src_pick_0p0_C0_k1 a0 v9 v10 v11 = some (q0, q1, q2)) ?_ ?_
  ·refine yS ?_
   rcases oB h with ⟨hc3, h⟩ | ⟨hc3, h⟩
   ·refine yW<|ym rfl (i64 a0)<|yl rfl (b true) (LOp.eqb (LOp.gtr rfl rfl rfl) hc3)<|zN ?_
    refine yT ?_
    obtain ⟨x4, hx4, h⟩ := oL h
    obtain ⟨r5, r6, r7, hf5, h⟩ := obind3_some h
    obtain ⟨x8, hx6, h⟩ := oL h
    refine yW<|ym rfl (i64 r1)<|yl rfl (i64 x4) (LOp.eqr (LOp.mul rfl rfl rfl) (congrArg (ik .i64) hx4))<|ym rfl (optr 0 0 0)<|ROps.callO (A := [optr 0 0 0]) (args := [optr 0 0 0]) (Γc := [⟨0, some [sl a1.length (a1.map (ik .u8)), i64 r2, ik .u64 r3]⟩]) (Γc' := [⟨0, some [sl a1.length (a1.map (ik .u8)), i64 r6, ik .u64 r7]⟩]) (r' := i64 r5) (Γ' := [⟨0, some [sl a1.length (a1.map (ik .u8)), i64 r6, ik .u64 r7]⟩]) [(0, 0)] [] rfl (CallAs.func ent140 rfl rfl) rfl rfl (SelOk.of (ndB_ok rfl) (SelL.cells0 rfl (by simp [ren, rens, sigma, rens_f32, rens_f64, rens_i64, rens_ik, rens_str, rens_cp]) (lts_cons (lt_slk (fun _ => rfl)) (lts_cons rfl (lts_cons rfl lts_nil))) trivial)) (live_of ⟨⟨_, _, rfl⟩, trivial⟩) (by simp [ren, rens, sigma, rens_f32, rens_f64, rens_i64, rens_ik, rens_str, rens_cp]) rfl (s_l00Src_next_0p0_C0_ok a1 r2 r3 r5 r6 r7 hf5) rfl (news_of trivial) (ndB_ok rfl) (by simp [ren, rens, sigma]) (by simp [backOb, sigma, ren, rens, rens_f32, rens_f64, rens_i64, rens_ik, rens_str, rens_cp] <;> omega)<|yl rfl (i64 x8) (LOp.eqr (LOp.add rfl rfl rfl) (congrArg (ik .i64) hx6))<|ya rfl (i64 x8)<|zN ?_
    exact ⟨r6, r7, x8, ⟨aR, aR, trivial⟩, ⟨⟨rfl, .inr rfl⟩, trivial⟩, h⟩
   ·refine yW<|ym rfl (i64 a0)<|yl rfl (b false) (LOp.eqb (LOp.gtr rfl rfl rfl) hc3)<|zN ?_
    refine yF<|RunC.skip ?_
    exact ⟨r2, r3, r1, ⟨aR, aR, trivial⟩, ⟨⟨rfl, .inr rfl⟩, trivial⟩, h⟩
  ·rintro τ2 Γ2 ⟨v9, v10, v11, hw2, hd2, h⟩
   refine RunC.wl hw2 hd2 ?_
   unfold s_l00Src_pick_0p0_C0_k1 at h
   refine yS ?_
   obtain ⟨hz7, h⟩ := need_some h
   obtain ⟨x12, hx8, h⟩ := oL h
   refine yW<|ym rfl (i64 v11)<|ym rfl (i64 a0)<|yl rfl (i64 x12) (LOp.eqr (LOp.rem rfl rfl rfl (nz hz7)) (congrArg (ik .i64) hx8))<|ya rfl (i64 x12)<|zN ?_
   refine RunC.ret ?_
   have hq := oI h
   obtain ⟨hq0, hq⟩ := Prod.mk.inj hq
   obtain ⟨hq1, hq⟩ := Prod.mk.inj hq
   subst q0
   subst q1
   subst q2
   exact yB (i64 x12) [(0, 0)] (Res.one rfl (RV.tmp rfl)) (SelL.cells rfl (by first | rfl | simp [ren, rens, sigma, rens_f32, rens_f64, rens_i64, rens_ik, rens_str, rens_cp]) (lts_cons (lt_slk (fun _ => rfl)) (lts_cons rfl (lts_cons rfl lts_nil))) trivial)
def s_B10Vector_b1 (r1 : List Int) (L6 : List F) (v7 : Int) (v8 : Int) (v9 : Int) : Option (LR ((List F) × Int × Int × Int) ((List F)) ((List F))) :=
 bsel (decide (0 < v9)) (
  obind3 (s_l00Src_pick_0p0_C0 33 r1 v7 v8) fun (r10 : Int) (r11 : Int) (r12 : Int) =>
  olet (IntKind.i64.wrap (r10 - 16)) fun (x13 : Int) =>
  olet (fint .f32 x13) fun (x14 : F) =>
  olet (fop .quo .f32 x14 (some 1082130432)) fun (x15 : F) =>
  need (apok 4 L6.length 1) <|
  olet (IntKind.i64.wrap (v9 - 1)) fun (x16 : Int) =>
  some (LR.next ((L6 ++ ([x15] : List F)), r11, r12, x16))) (
  some (LR.out L6))
def s_B10Vector_s1 (r1 : List Int) : ((List F) × Int × Int × Int) → Option (LR ((List F) × Int × Int × Int) ((List F)) ((List F))) := fun s => s_B10Vector_b1 r1 s.1 s.2.1 s.2.2.1 s.2.2.2
def s_B10Vector_k1 (L19 : List F) : Option ((List F)) :=
 some L19
def s_B10Vector (a0 : List Int) (a1 : Int) : Option ((List F)) :=
 obind3 (s_l00From a0) fun (r1 : List Int) (r2 : Int) (r3 : Int) =>
 obind (loopM (s_B10Vector_s1 r1) (([] : List F), r2, r3, a1)) fun z => osum z (fun e => s_B10Vector_k1 e) (fun r => some r)
theorem s_B10Vector_ok (a0 : List Int) (a1 : Int) (q0 : List F) (h : s_B10Vector a0 a1 = some q0) : Ev Try.prog 18 [sl a0.length (a0.map (ik .u8)), i64 a1] [] (oref 0 0 0 q0.length) [⟨0, some (q0.map f32)⟩] := by
 refine yE Try.func18 3 47 0 [(0, sl a0.length (a0.map (ik .u8))), (1, i64 a1)] [⟨0, none⟩, ⟨0, none⟩, ⟨0, none⟩] rfl ?_
 unfold s_B10Vector at h
 refine zQ<|ya rfl nilsl<|zN ?_
 refine yS ?_
 obtain ⟨r1, r2, r3, hf1, h⟩ := obind3_some h
 refine yW<|ym rfl (sl a0.length (a0.map (ik .u8)))<|ye rfl (optr 0 1 0) ([⟨1, some [sl r1.length (r1.map (ik .u8)), i64 r2, ik .u64 r3]⟩, ⟨0, none⟩, ⟨0, none⟩]) (TOp.callN (A := [sl a0.length (a0.map (ik .u8))]) (ls := [[sl r1.length (r1.map (ik .u8)), i64 r2, ik .u64 r3]]) [0] (by exact (CallAs.func ent71 rfl rfl)) (lts_cons (lt_sl (fun _ => rfl)) lts_nil) (s_l00From_ok a0 r1 r2 r3 hf1) (and_all (lts_cons (lt_sl (fun _ => rfl)) (lts_cons rfl (lts_cons rfl lts_nil))) rfl) rfl (by decide) (ns_of ⟨⟨_, rfl⟩, trivial⟩))<|ya rfl (optr 0 1 0)<|zN ?_
 refine zQ<|ye rfl (oref 1 1 0 0) ([⟨1, some [sl r1.length (r1.map (ik .u8)), i64 r2, ik .u64 r3]⟩, ⟨1, some (([] : List F).map f32)⟩, ⟨0, none⟩]) (TOp.buildSlice_o (g := ⟨0, none⟩) (za := f32 (some 0)) (qs := []) 1 rfl und26 siz28 zer28 rfl zel28 rfl rfl trivial rfl)<|ya rfl (oref 1 1 0 0)<|zN ?_
 refine yS ?_
 obtain ⟨z2, hz_2, h⟩ := oS h
 refine RunC.cutN (fun τ Γ => ∃ (L19 : List F) (u17 : Nat) (u18 : Nat), WeakLe τ [(6, oref 1 u17 0 L19.length)] ∧ DeadLe Γ [⟨1, none⟩, ⟨u17, some (L19.map f32)⟩, ⟨u18, none⟩] ∧ z2 = .inl L19) ?_ ?_
 ·refine RunC.block (RunC.loop (RunL.loopM (x := z2) (s_B10Vector_s1 r1) (fun (s : (List F) × Int × Int × Int) τ Γ => ∃ (u4 : Nat) (u5 : Nat), WeakLe τ [(1, i64 s.2.2.2), (5, optr 0 1 0), (6, oref 1 u4 0 s.1.length)] ∧ DeadLe Γ [⟨1, some [sl r1.length (r1.map (ik .u8)), i64 s.2.1, ik .u64 s.2.2.1]⟩, ⟨u4, some (s.1.map f32)⟩, ⟨u5, none⟩]) ?_ _ _ _ hz_2 ⟨1, 0, ⟨aR, aR, aR, trivial⟩, ⟨⟨rfl, .inr rfl⟩, ⟨rfl, .inr rfl⟩, ⟨rfl, .inl rfl⟩, trivial⟩⟩))
  rintro ⟨L6, v7, v8, v9⟩ τ2 Γ2 y2_ ⟨u4, u5, hw2, hd2⟩ h2_ ho2 hr2
  refine RunC.wl (τ' := [(1, i64 v9), (5, optr 0 1 0), (6, oref 1 u4 0 L6.length)]) (Γ' := [⟨1, some [sl r1.length (r1.map (ik .u8)), i64 v7, ik .u64 v8]⟩, ⟨u4, some (L6.map f32)⟩, ⟨u5, none⟩]) hw2 hd2 ?_
  replace h2_ : s_B10Vector_b1 r1 L6 v7 v8 v9 = some y2_ := h2_
  unfold s_B10Vector_b1 at h2_
  refine yS<|yS ?_
  rcases oB h2_ with ⟨hc2, h2_⟩ | ⟨hc2, h2_⟩
  ·refine yW<|ym rfl (i64 v9)<|yl rfl (b true) (LOp.eqb (LOp.gtr rfl rfl rfl) hc2)<|zN ?_
   refine yT<|RunC.skip<|yS<|RunC.block ?_
   obtain ⟨r10, r11, r12, hf3, h2_⟩ := obind3_some h2_
   obtain ⟨x13, hx4, h2_⟩ := oL h2_
   obtain ⟨x14, hx5, h2_⟩ := oL h2_
   obtain ⟨x15, hx6, h2_⟩ := oL h2_
   obtain ⟨hm7, h2_⟩ := need_some h2_
   refine yW<|ym rfl (oref 1 u4 0 L6.length)<|ym rfl (optr 0 1 0)<|ROps.callO (A := [optr 0 1 0, i64 33]) (args := [optr 0 0 0, i64 33]) (Γc := [⟨0, some [sl r1.length (r1.map (ik .u8)), i64 v7, ik .u64 v8]⟩]) (Γc' := [⟨0, some [sl r1.length (r1.map (ik .u8)), i64 r11, ik .u64 r12]⟩]) (r' := i64 r10) (Γ' := [⟨1, some [sl r1.length (r1.map (ik .u8)), i64 r11, ik .u64 r12]⟩, ⟨u4, some (L6.map f32)⟩, ⟨u5, none⟩]) [(0, 1)] [] rfl (CallAs.func ent72 rfl rfl) rfl rfl (SelOk.of (ndB_ok rfl) (SelL.cells0 rfl (by simp [ren, rens, sigma, rens_f32, rens_f64, rens_i64, rens_ik, rens_str, rens_cp]) (lts_cons (lt_slk (fun _ => rfl)) (lts_cons rfl (lts_cons rfl lts_nil))) trivial)) (live_of ⟨⟨_, _, rfl⟩, trivial⟩) (by simp [ren, rens, sigma, rens_f32, rens_f64, rens_i64, rens_ik, rens_str, rens_cp]) rfl (s_l00Src_pick_0p0_C0_ok 33 r1 v7 v8 r10 r11 r12 hf3) rfl (news_of trivial) (ndB_ok rfl) (by simp [ren, rens, sigma]) (by simp [backOb, sigma, ren, rens, rens_f32, rens_f64, rens_i64, rens_ik, rens_str, rens_cp] <;> omega)<|yl rfl (i64 x13) (LOp.eqr (LOp.sub rfl rfl rfl) (congrArg (ik .i64) hx4))<|yl rfl (f32 x14) (LOp.eqr (LOp.i2f (src := 2) (dst := 28) ⟨_, pun2⟩ pun28 rfl rfl) (congrArg (f .f32) hx5))<|yd rfl (f32 x15) (TOp.eqr (TOp.fop (.inr (.inr (.inr rfl))) rfl (OpF.tmp rfl) (OpF.const rfl (by kernel_rfl) (by kernel_rfl))) (congrArg (f .f32) hx6))<|ye rfl (oref 2 (u5 + 1) 0 1) ([⟨1, some [sl r1.length (r1.map (ik .u8)), i64 r11, ik .u64 r12]⟩, ⟨u4, some (L6.map f32)⟩, ⟨(u5 + 1), some (([x15] : List F).map f32)⟩]) (TOp.buildSlice_o (g := ⟨u5, none⟩) (za := f32 (some 0)) (qs := [(0, [f32 x15])]) 2 rfl und26 siz28 zer28 rfl zel28 rfl rfl ⟨rfl, ⟨_, ALe.refl _, rfl⟩, trivial⟩ rfl)<|ROps.app (f := f32) (xs := L6) (ys := ([x15] : List F)) (Γ' := [⟨1, some [sl r1.length (r1.map (ik .u8)), i64 r11, ik .u64 r12]⟩, ⟨(u4 + 1), some ((L6 ++ ([x15] : List F)).map f32)⟩, ⟨(u5 + 1), some (([x15] : List F).map f32)⟩]) rfl pun26 inf28 rfl rfl rfl rfl rfl rfl rfl rfl rfl (by simp) (ReadAs.own rfl (by simp)) (ones_map (fun _ => rfl)) (ap_by hm7) (ap_mx hm7) rfl<|ya rfl (oref 1 (u4 + 1) 0 (L6.length + 1))<|zN ?_
   refine RunC.wl (τ' := [(1, i64 v9), (5, optr 0 1 0), (6, oref 1 (u4 + 1) 0 (L6.length + 1))]) (Γ' := [⟨1, some [sl r1.length (r1.map (ik .u8)), i64 r11, ik .u64 r12]⟩, ⟨(u4 + 1), some ((L6 ++ ([x15] : List F)).map f32)⟩, ⟨(u5 + 1), none⟩]) ⟨aR, aR, aR, trivial⟩ ⟨⟨rfl, .inr rfl⟩, ⟨rfl, .inr rfl⟩, ⟨rfl, .inl rfl⟩, trivial⟩ ?_
   obtain ⟨x16, hx8, h2_⟩ := oL h2_
   refine yW<|ym rfl (i64 v9)<|yl rfl (i64 x16) (LOp.eqr (LOp.sub rfl rfl rfl) (congrArg (ik .i64) hx8))<|ya rfl (i64 x16)<|zN ?_
   cases oI h2_
   exact ⟨_, rfl, (u4 + 1), (u5 + 1), ⟨aR, aR, (ALe.eq (by rw [(app_len rfl rfl)] <;> rfl)), trivial⟩, ⟨⟨rfl, .inr rfl⟩, ⟨rfl, .inr rfl⟩, ⟨rfl, .inl rfl⟩, trivial⟩⟩
  ·refine yW<|ym rfl (i64 v9)<|yl rfl (b false) (LOp.eqb (LOp.gtr rfl rfl rfl) hc2)<|zN ?_
   refine yF<|RunC.exit ?_
   cases oI h2_
   have hx := ho2 _ rfl
   exact ⟨L6, u4, u5, ⟨aR, trivial⟩, ⟨⟨rfl, .inl rfl⟩, ⟨rfl, .inr rfl⟩, ⟨rfl, .inl rfl⟩, trivial⟩, hx⟩
 ·rintro τ3 Γ3 ⟨L19, u17, u18, hw3, hd3, rfl⟩
  refine RunC.wl hw3 hd3 ?_
  replace h : s_B10Vector_k1 L19 = some q0 := h
  unfold s_B10Vector_k1 at h
  refine zQ<|ym rfl (oref 1 u17 0 L19.length)<|ya rfl (oref 1 u17 0 L19.length)<|zN ?_
  refine RunC.ret ?_
  have hq := oI h
  subst q0
  exact bodyQ.mk (r' := oref 1 u17 0 L19.length) [(1, u17)] (.inr rfl) rfl (ndB_ok rfl) (by simp [ren, rens, sigma]) rfl (Res.one rfl (RV.tmp rfl)) (SelL.arr0 (f := f32) (fun _ => rfl) rfl trivial)
def i_length_float32 (a0 : List F) : Option (Int) :=
 some (a0.length : Int)
theorem i_length_float32_ok (a0 : List F) (q0 : Int) (h : i_length_float32 a0 = some q0) : Ev Try.prog 62 [(sFc a0)] [] (i64 q0) [] := by
 refine yE Try.func62 0 11 0 [(0, (sFc a0))] [] rfl ?_
 unfold i_length_float32 at h
 refine zQ<|ya rfl (i64 0)<|zN ?_
 refine zQ<|ym rfl (sFc a0)<|yl rfl (i64 (a0.length : Int)) (LOp.len_sl und26 rfl rfl)<|ya rfl (i64 (a0.length : Int))<|zN ?_
 refine RunC.ret ?_
 have hq := oI h
 subst q0
 exact bodyQ.pure (.inr rfl) rfl (Res.one rfl (RV.tmp rfl))
def i_inRange (a0 : Int) (a1 : Int) (a2 : Int) : Option (Bool) :=
 bsel (decide (a1 ≤ a0)) (
  some (decide (a0 ≤ a2))) (
  some false)
theorem i_inRange_ok (a0 : Int) (a1 : Int) (a2 : Int) (q0 : Bool) (h : i_inRange a0 a1 a2 = some q0) : Ev Try.prog 85 [i64 a0, i64 a1, i64 a2] [] (b q0) [] := by
 refine yE Try.func85 0 31 0 [(0, i64 a0), (1, i64 a1), (2, i64 a2)] [] rfl ?_
 unfold i_inRange at h
 refine zQ<|ya rfl (b false)<|zN ?_
 refine yS ?_
 rcases oB h with ⟨hc1, h⟩ | ⟨hc1, h⟩
 ·refine yW<|ym rfl (i64 a1)<|ym rfl (i64 a0)<|yl rfl (b true) (LOp.eqb (LOp.leq rfl rfl rfl) hc1)<|ym rfl (b true)<|ym rfl (i64 a0)<|ym rfl (i64 a2)<|yl rfl (b (decide (a0 ≤ a2))) (LOp.leq rfl rfl rfl)<|yl rfl (b (decide (a0 ≤ a2))) yq<|ya rfl (b (decide (a0 ≤ a2)))<|zN ?_
  refine RunC.ret ?_
  have hq := oI h
  subst q0
  exact bodyQ.pure (.inr rfl) rfl (Res.one rfl (RV.tmp rfl))
 ·refine yW<|ym rfl (i64 a1)<|ym rfl (i64 a0)<|yl rfl (b false) (LOp.eqb (LOp.leq rfl rfl rfl) hc1)<|ym rfl (b false)<|ROps.s rfl rfl rfl<|ROps.s rfl rfl rfl<|ROps.s rfl rfl rfl<|yl rfl (b false) yp<|ya rfl (b false)<|zN ?_
  refine RunC.ret ?_
  have hq := oI h
  subst q0
  exact bodyQ.pure (.inr rfl) rfl (Res.one rfl (RV.tmp rfl))
def x_math_IsNaN (a0 : F) : Option (Bool) :=
 some (!feq .f64 a0 a0)
theorem x_math_IsNaN_ok (a0 : F) (q0 : Bool) (h : x_math_IsNaN a0 = some q0) : Ev Try.prog 173 [f64 a0] [] (b q0) [] := by
 refine yE Try.func173 0 13 0 [(0, f64 a0)] [] rfl ?_
 unfold x_math_IsNaN at h
 refine zQ<|ya rfl (b false)<|zN ?_
 refine zQ<|ym rfl (f64 a0)<|ym rfl (f64 a0)<|yl rfl (b (!feq .f64 a0 a0)) (LOp.fne rfl (OpF.tmp rfl) (OpF.tmp rfl))<|ya rfl (b (!feq .f64 a0 a0))<|zN ?_
 refine RunC.ret ?_
 have hq := oI h
 subst q0
 exact bodyQ.pure (.inr rfl) rfl (Res.one rfl (RV.tmp rfl))
def x_math_Abs (a0 : F) : Option (F) :=
 olet (fabs a0) fun (x1 : F) =>
 some x1
theorem x_math_Abs_ok (a0 : F) (q0 : F) (h : x_math_Abs a0 = some q0) : Ev Try.prog 180 [f64 a0] [] (f64 q0) [] := by
 refine yE Try.func180 0 15 0 [(0, f64 a0)] [] rfl ?_
 unfold x_math_Abs at h
 refine zQ<|yl rfl (f64 (some 0)) (LOp.le (LOp.assign rfl rfl) (ALe.fl (by kernel_rfl) (by kernel_rfl)))<|zN ?_
 refine yS ?_
 obtain ⟨x1, hx1, h⟩ := oL h
 refine yW<|ym rfl (f64 a0)<|yl rfl (bt .f64 .u64 a0) (LOp.fbits ext183 rfl (OpF.tmp rfl))<|yl rfl (bt .f64 .u64 x1) (LOp.eqr (LOp.andNot_bt rfl rfl rfl) (congrArg (bt .f64 .u64) hx1))<|yl rfl (f64 x1) (LOp.ffrom ext157 rfl rfl)<|ya rfl (f64 x1)<|zN ?_
 refine RunC.ret ?_
 have hq := oI h
 subst q0
 exact bodyQ.pure (.inr rfl) rfl (Res.one rfl (RV.tmp rfl))
def x_math_IsInf_k1 (y3 : F) : Option (Bool) :=
 some (flt .f64 (some 9218868437227405311) y3)
def x_math_IsInf (a0 : F) (a1 : Int) : Option (Bool) :=
 bsel (decide (a1 = 0)) (
  obind (x_math_Abs a0) fun (r1 : F) =>
  x_math_IsInf_k1 r1) (
  bsel (decide (a1 < 0)) (
   olet (fneg .f64 a0) fun (x2 : F) =>
   x_math_IsInf_k1 x2) (
   x_math_IsInf_k1 a0))
theorem x_math_IsInf_ok (a0 : F) (a1 : Int) (q0 : Bool) (h : x_math_IsInf a0 a1 = some q0) : Ev Try.prog 174 [f64 a0, i64 a1] [] (b q0) [] := by
 refine yE Try.func174 0 31 0 [(0, f64 a0), (1, i64 a1)] [] rfl ?_
 unfold x_math_IsInf at h
 refine zQ<|ya rfl (b false)<|zN ?_
 refine yS<|RunC.cutN (fun τ Γ => ∃ (y3 : F), WeakLe τ [(0, f64 y3)] ∧ DeadLe Γ [] ∧ x_math_IsInf_k1 y3 = some q0) ?_ ?_
 ·refine yS ?_
  rcases oB h with ⟨hc1, h⟩ | ⟨hc1, h⟩
  ·refine yW<|ym rfl (i64 a1)<|yl rfl (b true) (LOp.eqb (LOp.eql rfl rfl rfl) hc1)<|zN ?_
   refine yT ?_
   obtain ⟨r1, hf2, h⟩ := oS h
   refine yW<|ym rfl (f64 a0)<|yd rfl (f64 r1) (yc ent180 rfl rfl bN0 (x_math_Abs_ok a0 r1 hf2))<|ya rfl (f64 r1)<|zN ?_
   exact ⟨r1, ⟨aR, trivial⟩, trivial, h⟩
  ·refine yW<|ym rfl (i64 a1)<|yl rfl (b false) (LOp.eqb (LOp.eql rfl rfl rfl) hc1)<|zN ?_
   refine yF<|yS ?_
   rcases oB h with ⟨hc3, h⟩ | ⟨hc3, h⟩
   ·refine yW<|ym rfl (i64 a1)<|yl rfl (b true) (LOp.eqb (LOp.lss rfl rfl rfl) hc3)<|zN ?_
    refine yT ?_
    obtain ⟨x2, hx4, h⟩ := oL h
    refine yW<|ym rfl (f64 a0)<|yl rfl (f64 x2) (LOp.eqr (LOp.fneg rfl (OpF.tmp rfl)) (congrArg (f .f64) hx4))<|ya rfl (f64 x2)<|zN ?_
    exact ⟨x2, ⟨aR, trivial⟩, trivial, h⟩
   ·refine yW<|ym rfl (i64 a1)<|yl rfl (b false) (LOp.eqb (LOp.lss rfl rfl rfl) hc3)<|zN ?_
    refine yF<|RunC.skip ?_
    exact ⟨a0, ⟨aR, trivial⟩, trivial, h⟩
 ·rintro τ2 Γ2 ⟨y3, hw2, hd2, h⟩
  refine RunC.wl hw2 hd2 ?_
  unfold x_math_IsInf_k1 at h
  refine zQ<|ym rfl (f64 y3)<|yl rfl (b (flt .f64 (some 9218868437227405311) y3)) (LOp.fgt rfl (OpF.tmp rfl) (OpF.const rfl (by kernel_rfl) (by kernel_rfl)))<|ya rfl (b (flt .f64 (some 9218868437227405311) y3))<|zN ?_
  refine RunC.ret ?_
  have hq := oI h
  subst q0
  exact bodyQ.pure (.inr rfl) rfl (Res.one rfl (RV.tmp rfl))
def i_isFinite64 (a0 : F) : Option (Bool) :=
 obind (x_math_IsNaN a0) fun (r1 : Bool) =>
 bsel r1 (
  some false) (
  obind (x_math_IsInf a0 0) fun (r2 : Bool) =>
  some (!r2))
theorem i_isFinite64_ok (a0 : F) (q0 : Bool) (h : i_isFinite64 a0 = some q0) : Ev Try.prog 145 [f64 a0] [] (b q0) [] := by
 refine yE Try.func145 0 23 0 [(0, f64 a0)] [] rfl ?_
 unfold i_isFinite64 at h
 refine zQ<|ya rfl (b false)<|zN ?_
 refine yS ?_
 obtain ⟨r1, hf1, h⟩ := oS h
 rcases oB h with ⟨hc2, h⟩ | ⟨hc2, h⟩
 ·refine yW<|ym rfl (f64 a0)<|yd rfl (b true) (TOp.eqb (yc ent173 rfl rfl bN0 (x_math_IsNaN_ok a0 r1 hf1)) hc2)<|yl rfl (b false) y1<|ym rfl (b false)<|ROps.s rfl rfl rfl<|ROps.s rfl rfl rfl<|ROps.s rfl rfl rfl<|yl rfl (b false) yp<|ya rfl (b false)<|zN ?_
  refine RunC.ret ?_
  have hq := oI h
  subst q0
  exact bodyQ.pure (.inr rfl) rfl (Res.one rfl (RV.tmp rfl))
 ·obtain ⟨r2, hf3, h⟩ := oS h
  refine yW<|ym rfl (f64 a0)<|yd rfl (b false) (TOp.eqb (yc ent173 rfl rfl bN0 (x_math_IsNaN_ok a0 r1 hf1)) hc2)<|yl rfl (b true) y0<|ym rfl (b true)<|ym rfl (f64 a0)<|yd rfl (b r2) (yc ent174 rfl rfl (bP bN0) (x_math_IsInf_ok a0 0 r2 hf3))<|yl rfl (b (!r2)) (LOp.not rfl rfl)<|yl rfl (b (!r2)) yq<|ya rfl (b (!r2))<|zN ?_
  refine RunC.ret ?_
  have hq := oI h
  subst q0
  exact bodyQ.pure (.inr rfl) rfl (Res.one rfl (RV.tmp rfl))
def i_IsFinite (a0 : F) : Option (Bool) :=
 olet (fwiden a0) fun (x1 : F) =>
 obind (i_isFinite64 x1) fun (r2 : Bool) =>
 some r2
theorem i_IsFinite_ok (a0 : F) (q0 : Bool) (h : i_IsFinite a0 = some q0) : Ev Try.prog 80 [f32 a0] [] (b q0) [] := by
 refine yE Try.func80 0 13 0 [(0, f32 a0)] [] rfl ?_
 unfold i_IsFinite at h
 refine zQ<|ya rfl (b false)<|zN ?_
 refine yS ?_
 obtain ⟨x1, hx1, h⟩ := oL h
 obtain ⟨r2, hf2, h⟩ := oS h
 refine yW<|ym rfl (f32 a0)<|yd rfl (f64 x1) (TOp.eqr (TOp.widen (src := 28) (dst := 40) ⟨_, pun28⟩ pun40 rfl (OpF.tmp rfl)) (congrArg (f .f64) hx1))<|yd rfl (b r2) (yc ent145 rfl rfl bN0 (i_isFinite64_ok x1 r2 hf2))<|ya rfl (b r2)<|zN ?_
 refine RunC.ret ?_
 have hq := oI h
 subst q0
 exact bodyQ.pure (.inr rfl) rfl (Res.one rfl (RV.tmp rfl))
def i_areFinite_1 (a0 : F) : Option (Bool) :=
 obind (i_IsFinite a0) fun (r1 : Bool) =>
 some (!r1)
theorem i_areFinite_1_ok (a0 : F) (q0 : Bool) (h : i_areFinite_1 a0 = some q0) : Ev Try.prog 141 [f32 a0] [] (b q0) [] := by
 refine yE Try.func141 0 13 0 [(0, f32 a0)] [] rfl ?_
 unfold i_areFinite_1 at h
 refine zQ<|ya rfl (b false)<|zN ?_
 refine yS ?_
 obtain ⟨r1, hf1, h⟩ := oS h
 refine yW<|ym rfl (f32 a0)<|yd rfl (b r1) (yc ent80 rfl rfl bN0 (i_IsFinite_ok a0 r1 hf1))<|yl rfl (b (!r1)) (LOp.not rfl rfl)<|ya rfl (b (!r1))<|zN ?_
 refine RunC.ret ?_
 have hq := oI h
 subst q0
 exact bodyQ.pure (.inr rfl) rfl (Res.one rfl (RV.tmp rfl))
def x_slices_IndexFunc_float32_float32_1Fi_areFinite_1_b1 (a0 : List F) (v1 : Int) : Option (LR (Int) (Unit) (Int)) :=
 bsel (decide (v1 < (a0.length : Int))) (
  obind (at? a0 v1) fun (e2 : F) =>
  obind (i_areFinite_1 e2) fun (r3 : Bool) =>
  bsel r3 (
   some (LR.ret v1)) (
   olet (IntKind.i64.wrap (v1 + 1)) fun (x4 : Int) =>
   some (LR.next x4))) (
  some (LR.out ()))
def x_slices_IndexFunc_float32_float32_1Fi_areFinite_1_s1 (a0 : List F) : (Int) → Option (LR (Int) (Unit) (Int)) := fun s => x_slices_IndexFunc_float32_float32_1Fi_areFinite_1_b1 a0 s
def x_slices_IndexFunc_float32_float32_1Fi_areFinite_1_k1  : Option (Int) :=
 some (-1)
def x_slices_IndexFunc_float32_float32_1Fi_areFinite_1 (a0 : List F) : Option (Int) :=
 obind (loopM (x_slices_IndexFunc_float32_float32_1Fi_areFinite_1_s1 a0) 0) fun z => osum z (fun _ => x_slices_IndexFunc_float32_float32_1Fi_areFinite_1_k1) (fun r => some r)
theorem x_slices_IndexFunc_float32_float32_1Fi_areFinite_1_ok (a0 : List F) (q0 : Int) (h : x_slices_IndexFunc_float32_float32_1Fi_areFinite_1 a0 = some q0) : Ev Try.prog 164 [(sFc a0), fn (.func 141) [] []] [] (i64 q0) [] := by
 refine yE Try.func164 0 39 0 ([(0, (sFc a0)), (1, fn (.func 141) [] [])]) [] rfl ?_
 unfold x_slices_IndexFunc_float32_float32_1Fi_areFinite_1 at h
 refine zQ<|ya rfl (i64 0)<|zN ?_
 refine yS<|zQ<|ym rfl (sFc a0)<|yl rfl (i64 (a0.length : Int)) (LOp.len_sl und26 rfl rfl)<|ym rfl (i64 0)<|zN ?_
 obtain ⟨z2, hz_2, h⟩ := oS h
 refine RunC.cutN (fun τ Γ => WeakLe τ [] ∧ DeadLe Γ [] ∧ z2 = .inl ()) ?_ ?_
 ·refine RunC.block (RunC.loop (RunL.loopM (x := z2) (x_slices_IndexFunc_float32_float32_1Fi_areFinite_1_s1 a0) (fun (s : Int) τ Γ => WeakLe τ [(0, (sFc a0)), (1, fn (.func 141) [] []), (7, i64 (a0.length : Int)), (8, i64 s)] ∧ DeadLe Γ []) ?_ _ _ _ hz_2 ⟨⟨aR, aR, aR, aR, trivial⟩, trivial⟩))
  rintro v1 τ2 Γ2 y2_ ⟨hw2, hd2⟩ h2_ ho2 hr2
  refine RunC.wl (τ' := [(0, (sFc a0)), (1, fn (.func 141) [] []), (7, i64 (a0.length : Int)), (8, i64 v1)]) (Γ' := []) hw2 hd2 ?_
  replace h2_ : x_slices_IndexFunc_float32_float32_1Fi_areFinite_1_b1 a0 v1 = some y2_ := h2_
  unfold x_slices_IndexFunc_float32_float32_1Fi_areFinite_1_b1 at h2_
  refine yS ?_
  rcases oB h2_ with ⟨hc1, h2_⟩ | ⟨hc1, h2_⟩
  ·refine yW<|yl rfl (b true) (LOp.eqb (LOp.lss rfl rfl rfl) hc1)<|zN ?_
   refine yS<|yT<|RunC.skip<|yS<|RunC.block<|zQ<|ym rfl (i64 v1)<|ya rfl (i64 v1)<|zN ?_
   refine yS ?_
   obtain ⟨e2, he2, h2_⟩ := oS h2_
   obtain ⟨r3, hf3, h2_⟩ := oS h2_
   rcases oB h2_ with ⟨hc4, h2_⟩ | ⟨hc4, h2_⟩
   ·refine yW<|ym rfl (fn (.func 141) [] [])<|ym rfl (sFc a0)<|ym rfl (i64 v1)<|yl rfl (ptr [f32 e2]) (LOp.le (LOp.ix (f := f32) und26 siz28 rfl rfl rfl rfl he2) ALe.ptr)<|yl rfl (f32 e2) (y2 agg28)<|yd rfl (b true) (TOp.eqb (TOp.callB (CallAs.fn ent141 rfl rfl rfl rfl) bN0 rfl rfl (i_areFinite_1_ok e2 r3 hf3)) hc4)<|zN ?_
    refine yT<|zQ<|ym rfl (i64 v1)<|ya rfl (i64 v1)<|zN ?_
    refine RunC.ret ?_
    cases oI h2_
    have hx3_ := hr2 _ rfl
    subst hx3_
    have hq := oI h
    subst q0
    exact bodyQ.pure (.inr rfl) rfl (Res.one rfl (RV.tmp rfl))
   ·refine yW<|ym rfl (fn (.func 141) [] [])<|ym rfl (sFc a0)<|ym rfl (i64 v1)<|yl rfl (ptr [f32 e2]) (LOp.le (LOp.ix (f := f32) und26 siz28 rfl rfl rfl rfl he2) ALe.ptr)<|yl rfl (f32 e2) (y2 agg28)<|yd rfl (b false) (TOp.eqb (TOp.callB (CallAs.fn ent141 rfl rfl rfl rfl) bN0 rfl rfl (i_areFinite_1_ok e2 r3 hf3)) hc4)<|zN ?_
    refine yF<|RunC.skip ?_
    obtain ⟨x4, hx5, h2_⟩ := oL h2_
    refine yW<|yl rfl (i64 x4) (LOp.eqr (LOp.add rfl rfl rfl) (congrArg (ik .i64) hx5))<|ym rfl (i64 x4)<|zN ?_
    cases oI h2_
    exact ⟨_, rfl, ⟨aR, aR, aR, aR, trivial⟩, trivial⟩
  ·refine yW<|yl rfl (b false) (LOp.eqb (LOp.lss rfl rfl rfl) hc1)<|zN ?_
   refine yS<|yF<|RunC.exit ?_
   cases oI h2_
   have hx := ho2 _ rfl
   exact ⟨trivial, trivial, hx⟩
 ·rintro τ4 Γ4 ⟨hw4, hd4, rfl⟩
  refine RunC.wl hw4 hd4 ?_
  replace h : x_slices_IndexFunc_float32_float32_1Fi_areFinite_1_k1 = some q0 := h
  unfold x_slices_IndexFunc_float32_float32_1Fi_areFinite_1_k1 at h
  refine zQ<|ya rfl (i64 (-1))<|zN ?_
  refine RunC.ret ?_
  have hq := oI h
  subst q0
  exact bodyQ.pure (.inr rfl) rfl (Res.one rfl (RV.tmp rfl))
def x_slices_ContainsFunc_float32_float32_1Fi_areFinite_1 (a0 : List F) : Option (Bool) :=
 obind (x_slices_IndexFunc_float32_float32_1Fi_areFinite_1 a0) fun (r1 : Int) =>
 some (decide (0 ≤ r1))
theorem x_slices_ContainsFunc_float32_float32_1Fi_areFinite_1_ok (a0 : List F) (q0 : Bool) (h : x_slices_ContainsFunc_float32_float32_1Fi_areFinite_1 a0 = some q0) : Ev Try.prog 121 [(sFc a0), fn (.func 141) [] []] [] (b q0) [] := by
 refine yE Try.func121 0 19 0 ([(0, (sFc a0)), (1, fn (.func 141) [] [])]) [] rfl ?_
 unfold x_slices_ContainsFunc_float32_float32_1Fi_areFinite_1 at h
 refine zQ<|ya rfl (b false)<|zN ?_
 refine yS ?_
 obtain ⟨r1, hf1, h⟩ := oS h
 refine yW<|ym rfl (sFc a0)<|ym rfl (fn (.func 141) [] [])<|yd rfl (i64 r1) (yc ent164 rfl rfl (bS (Bors.cons (Bor.fn bN bN) bN)) (x_slices_IndexFunc_float32_float32_1Fi_areFinite_1_ok a0 r1 hf1))<|yl rfl (b (decide (0 ≤ r1))) (LOp.geq rfl rfl rfl)<|ya rfl (b (decide (0 ≤ r1)))<|zN ?_
 refine RunC.ret ?_
 have hq := oI h
 subst q0
 exact bodyQ.pure (.inr rfl) rfl (Res.one rfl (RV.tmp rfl))
def i_areFinite (a0 : List F) : Option (Bool) :=
 obind (x_slices_ContainsFunc_float32_float32_1Fi_areFinite_1 a0) fun (r1 : Bool) =>
 some (!r1)
theorem i_areFinite_ok (a0 : List F) (q0 : Bool) (h : i_areFinite a0 = some q0) : Ev Try.prog 74 [(sFc a0)] [] (b q0) [] := by
 refine yE Try.func74 0 13 0 [(0, (sFc a0))] [] rfl ?_
 unfold i_areFinite at h
 refine zQ<|ya rfl (b false)<|zN ?_
 refine yS ?_
 obtain ⟨r1, hf1, h⟩ := oS h
 refine yW<|ym rfl (sFc a0)<|yd rfl (b r1) (yc ent121 rfl rfl (bS (Bors.cons (Bor.fn bN bN) bN)) (x_slices_ContainsFunc_float32_float32_1Fi_areFinite_1_ok a0 r1 hf1))<|yl rfl (b (!r1)) (LOp.not rfl rfl)<|ya rfl (b (!r1))<|zN ?_
 refine RunC.ret ?_
 have hq := oI h
 subst q0
 exact bodyQ.pure (.inr rfl) rfl (Res.one rfl (RV.tmp rfl))
def i_isList (a0 : List F) (a1 : Int) : Option (Bool) :=
 obind (i_length_float32 a0) fun (r1 : Int) =>
 obind (i_inRange r1 1 a1) fun (r2 : Bool) =>
 bsel r2 (
  obind (i_areFinite a0) fun (r3 : Bool) =>
  some r3) (
  some false)
theorem i_isList_ok (a0 : List F) (a1 : Int) (q0 : Bool) (h : i_isList a0 a1 = some q0) : Ev Try.prog 63 [(sFc a0), i64 a1] [] (b q0) [] := by
 refine yE Try.func63 0 27 0 [(0, (sFc a0)), (1, i64 a1)] [] rfl ?_
 unfold i_isList at h
 refine zQ<|ya rfl (b false)<|zN ?_
 refine yS ?_
 obtain ⟨r1, hf1, h⟩ := oS h
 obtain ⟨r2, hf2, h⟩ := oS h
 rcases oB h with ⟨hc3, h⟩ | ⟨hc3, h⟩
 ·obtain ⟨r3, hf4, h⟩ := oS h
  refine yW<|ym rfl (sFc a0)<|yd rfl (i64 r1) (yc ent62 rfl rfl (bS bN) (i_length_float32_ok a0 r1 hf1))<|ym rfl (i64 a1)<|yd rfl (b true) (TOp.eqb (yc ent85 rfl rfl (bP (bP bN0)) (i_inRange_ok r1 1 a1 r2 hf2)) hc3)<|ym rfl (b true)<|ym rfl (sFc a0)<|yd rfl (b r3) (yc ent74 rfl rfl (bS bN) (i_areFinite_ok a0 r3 hf4))<|yl rfl (b r3) yq<|ya rfl (b r3)<|zN ?_
  refine RunC.ret ?_
  have hq := oI h
  subst q0
  exact bodyQ.pure (.inr rfl) rfl (Res.one rfl (RV.tmp rfl))
 ·refine yW<|ym rfl (sFc a0)<|yd rfl (i64 r1) (yc ent62 rfl rfl (bS bN) (i_length_float32_ok a0 r1 hf1))<|ym rfl (i64 a1)<|yd rfl (b false) (TOp.eqb (yc ent85 rfl rfl (bP (bP bN0)) (i_inRange_ok r1 1 a1 r2 hf2)) hc3)<|ym rfl (b false)<|ROps.s rfl rfl rfl<|ROps.s rfl rfl rfl<|yl rfl (b false) yp<|ya rfl (b false)<|zN ?_
  refine RunC.ret ?_
  have hq := oI h
  subst q0
  exact bodyQ.pure (.inr rfl) rfl (Res.one rfl (RV.tmp rfl))
def i_isShiftList (a0 : List F) : Option (Bool) :=
 obind (i_isList a0 12) fun (r1 : Bool) =>
 bsel r1 (
  obind (at? a0 0) fun (e2 : F) =>
  some (flt .f32 (some 0) e2)) (
  some false)
theorem i_isShiftList_ok (a0 : List F) (q0 : Bool) (h : i_isShiftList a0 = some q0) : Ev Try.prog 73 [(sFc a0)] [] (b q0) [] := by
 refine yE Try.func73 0 23 0 [(0, (sFc a0))] [] rfl ?_
 unfold i_isShiftList at h
 refine zQ<|ya rfl (b false)<|zN ?_
 refine yS ?_
 obtain ⟨r1, hf1, h⟩ := oS h
 rcases oB h with ⟨hc2, h⟩ | ⟨hc2, h⟩
 ·obtain ⟨e2, he3, h⟩ := oS h
  refine yW<|ym rfl (sFc a0)<|yd rfl (b true) (TOp.eqb (yc ent63 rfl rfl (bS bN0) (i_isList_ok a0 12 r1 hf1)) hc2)<|ym rfl (b true)<|ym rfl (sFc a0)<|yl rfl (ptr [f32 e2]) (LOp.le (LOp.ix (f := f32) und26 siz28 rfl rfl rfl rfl he3) ALe.ptr)<|yl rfl (f32 e2) (y2 agg28)<|yl rfl (b (flt .f32 (some 0) e2)) (LOp.fgt rfl (OpF.tmp rfl) (OpF.const rfl (by kernel_rfl) (by kernel_rfl)))<|yl rfl (b (flt .f32 (some 0) e2)) yq<|ya rfl (b (flt .f32 (some 0) e2))<|zN ?_
  refine RunC.ret ?_
  have hq := oI h
  subst q0
  exact bodyQ.pure (.inr rfl) rfl (Res.one rfl (RV.tmp rfl))
 ·refine yW<|ym rfl (sFc a0)<|yd rfl (b false) (TOp.eqb (yc ent63 rfl rfl (bS bN0) (i_isList_ok a0 12 r1 hf1)) hc2)<|ym rfl (b false)<|ROps.s rfl rfl rfl<|ROps.s rfl rfl rfl<|ROps.s rfl rfl rfl<|ROps.s rfl rfl rfl<|yl rfl (b false) yp<|ya rfl (b false)<|zN ?_
  refine RunC.ret ?_
  have hq := oI h
  subst q0
  exact bodyQ.pure (.inr rfl) rfl (Res.one rfl (RV.tmp rfl))
def i_mul (a0 : F) (a1 : F) : Option (F) :=
 olet (fop .mul .f32 a0 a1) fun (x1 : F) =>
 some x1
theorem i_mul_ok (a0 : F) (a1 : F) (q0 : F) (h : i_mul a0 a1 = some q0) : Ev Try.prog 76 [f32 a0, f32 a1] [] (f32 q0) [] := by
 refine yE Try.func76 0 17 0 [(0, f32 a0), (1, f32 a1)] [] rfl ?_
 unfold i_mul at h
 refine zQ<|yl rfl (f32 (some 0)) (LOp.le (LOp.assign rfl rfl) (ALe.fl (by kernel_rfl) (by kernel_rfl)))<|zN ?_
 refine yS ?_
 obtain ⟨x1, hx1, h⟩ := oL h
 refine yW<|ym rfl (f32 a0)<|ym rfl (f32 a1)<|yd rfl (f32 x1) (TOp.eqr (TOp.fop (.inr (.inr (.inl rfl))) rfl (OpF.tmp rfl) (OpF.tmp rfl)) (congrArg (f .f32) hx1))<|ya rfl (f32 x1)<|zN ?_
 refine RunC.ret ?_
 have hq := oI h
 subst q0
 exact bodyQ.pure (.inr rfl) rfl (Res.one rfl (RV.tmp rfl))
def x_slices_Clone_float32_float32 (a0 : List F) : Option ((List F)) :=
 need (apok 4 0 a0.length) <|
 some (([] : List F) ++ a0)
theorem x_slices_Clone_float32_float32_ok (a0 : List F) (q0 : List F) (h : x_slices_Clone_float32_float32 a0 = some q0) : Ev Try.prog 82 [(sFc a0)] [] (oref 0 0 0 q0.length) [⟨0, some (q0.map f32)⟩] := by
 refine yE Try.func82 1 17 0 [(0, (sFc a0))] [⟨0, none⟩] rfl ?_
 unfold x_slices_Clone_float32_float32 at h
 refine zQ<|ya rfl nilsl<|zN ?_
 refine yS<|zQ<|ym rfl (sFc a0)<|ROps.eqnil rfl pun26 rfl rfl rfl rfl rfl ?_ ?_
 ·intro hnil1
  refine zN ?_
  refine yT<|zQ<|ya rfl nilsl<|zN ?_
  refine RunC.nil_slot (Γ' := [⟨1, some (([] : List F).map f32)⟩]) 2 0 rfl rfl rfl<|RunC.ret ?_
  have hnl := List.map_eq_nil_iff.1 hnil1
  have hq : some ([] : List F) = some q0 := by
   rw [← h]; subst hnl; simp [need, apok]
  have hq := oI hq
  subst q0
  exact yB (oref 0 1 0 (([] : List F).length)) [(0, 1)] (Res.eq (Res.one rfl (RV.tmp rfl)) (by first | rfl | (rw [(show ([] : List F).length = 0 from rfl)] <;> rfl))) (SelL.arr0 (f := f32) (fun _ => rfl) rfl trivial)
 ·refine zN ?_
  refine yF<|RunC.skip<|yS ?_
  obtain ⟨hm2, h⟩ := need_some h
  refine yW<|ye rfl (oref 0 1 0 0) ([⟨1, some (([] : List F).map f32)⟩]) (TOp.buildSlice_o (g := ⟨0, none⟩) (za := f32 (some 0)) (qs := []) 0 rfl und26 siz28 zer28 rfl zel28 rfl rfl trivial rfl)<|ym rfl (sFc a0)<|ROps.app (f := f32) (xs := ([] : List F)) (ys := a0) (Γ' := [⟨2, some ((([] : List F) ++ a0).map f32)⟩]) rfl pun26 inf28 rfl rfl rfl rfl rfl rfl rfl rfl rfl (by simp) (ReadAs.sl (by simp)) (ones_map (fun _ => rfl)) (ap_by hm2) (ap_mx hm2) rfl<|ya rfl (oref 0 2 0 (0 + a0.length))<|zN ?_
  refine RunC.ret ?_
  have hq := oI h
  subst q0
  exact yB (oref 0 2 0 ((([] : List F) ++ a0).length)) [(0, 2)] (Res.eq (Res.one rfl (RV.tmp rfl)) (by first | rfl | (rw [(show (([] : List F) ++ a0).length = (0 + a0.length) from (app_len rfl rfl))] <;> rfl))) (SelL.arr0 (f := f32) (fun _ => rfl) rfl trivial)
def i_reflections_next_0p0_C00o1_1o2_b1 (a0 : List F) (a1 : Int) (a3 : List F) (y1 : F) (v2 : Int) : Option (LR (F × Int) (F) (Bool × F × (List F) × (List F))) :=
 bsel (decide (v2 < ((a3.length : Nat) : Int))) (
  obind (at? a3 v2) fun (e3 : F) =>
  olet (IntKind.i64.wrap (a1 - 1)) fun (x4 : Int) =>
  olet (IntKind.i64.wrap (x4 - v2)) fun (x5 : Int) =>
  obind (at? a0 x5) fun (e6 : F) =>
  obind (i_mul e3 e6) fun (r7 : F) =>
  olet (fop .add .f32 y1 r7) fun (x8 : F) =>
  olet (IntKind.i64.wrap (v2 + 1)) fun (x9 : Int) =>
  some (LR.next (x8, x9))) (
  some (LR.out y1))
def i_reflections_next_0p0_C00o1_1o2_s1 (a0 : List F) (a1 : Int) (a3 : List F) : (F × Int) → Option (LR (F × Int) (F) (Bool × F × (List F) × (List F))) := fun s => i_reflections_next_0p0_C00o1_1o2_b1 a0 a1 a3 s.1 s.2
def i_reflections_next_0p0_C00o1_1o2_b2 (a1 : Int) (a3 : List F) (x13 : F) (r14 : List F) (L15 : List F) (v17 : Int) : Option (LR ((List F) × Int) ((List F)) (Bool × F × (List F) × (List F))) :=
 bsel (decide (v17 < ((a3.length : Nat) : Int))) (
  obind (at? L15 v17) fun (e18 : F) =>
  olet (IntKind.i64.wrap (a1 - 2)) fun (x19 : Int) =>
  olet (IntKind.i64.wrap (x19 - v17)) fun (x20 : Int) =>
  obind (at? r14 x20) fun (e21 : F) =>
  obind (i_mul x13 e21) fun (r22 : F) =>
  olet (fop .sub .f32 e18 r22) fun (x23 : F) =>
  obind (setAt? L15 v17 x23) fun (L24 : List F) =>
  olet (IntKind.i64.wrap (v17 + 1)) fun (x25 : Int) =>
  some (LR.next (L24, x25))) (
  some (LR.out L15))
def i_reflections_next_0p0_C00o1_1o2_s2 (a1 : Int) (a3 : List F) (x13 : F) (r14 : List F) : ((List F) × Int) → Option (LR ((List F) × Int) ((List F)) (Bool × F × (List F) × (List F))) := fun s => i_reflections_next_0p0_C00o1_1o2_b2 a1 a3 x13 r14 s.1 s.2
def i_reflections_next_0p0_C00o1_1o2_k2 (a2 : F) (a3 : List F) (a4 : List F) (x13 : F) (L26 : List F) : Option (Bool × F × (List F) × (List F)) :=
 need (apok 4 a3.length 1) <|
 need (apok 4 a4.length 1) <|
 obind (i_mul x13 x13) fun (r28 : F) =>
 olet (fop .sub .f32 (some 1065353216) r28) fun (x29 : F) =>
 obind (i_mul a2 x29) fun (r30 : F) =>
 some ((flt .f32 (some 0) r30), r30, (L26 ++ ([x13] : List F)), (a4 ++ ([x13] : List F)))
def i_reflections_next_0p0_C00o1_1o2_k1 (a0 : List F) (a1 : Int) (a2 : F) (a3 : List F) (a4 : List F) (y10 : F) : Option (Bool × F × (List F) × (List F)) :=
 obind (at? a0 a1) fun (e11 : F) =>
 olet (fop .sub .f32 e11 y10) fun (x12 : F) =>
 olet (fop .quo .f32 x12 a2) fun (x13 : F) =>
 obind (x_slices_Clone_float32_float32 a3) fun (r14 : List F) =>
 obind (loopM (i_reflections_next_0p0_C00o1_1o2_s2 a1 a3 x13 r14) (a3, 0)) fun z => osum z (fun e => i_reflections_next_0p0_C00o1_1o2_k2 a2 a3 a4 x13 e) (fun r => some r)
def i_reflections_next_0p0_C00o1_1o2 (a0 : List F) (a1 : Int) (a2 : F) (a3 : List F) (a4 : List F) : Option (Bool × F × (List F) × (List F)) :=
 obind (loopM (i_reflections_next_0p0_C00o1_1o2_s1 a0 a1 a3) (some 0, 0)) fun z => osum z (fun e => i_reflections_next_0p0_C00o1_1o2_k1 a0 a1 a2 a3 a4 e) (fun r => some r)
theorem i_reflections_next_0p0_C00o1_1o2_ok (a0 : List F) (a1 : Int) (a2 : F) (a3 : List F) (a4 : List F) (q0 : Bool) (q1 : F) (q2 : List F) (q3 : List F) (h : i_reflections_next_0p0_C00o1_1o2 a0 a1 a2 a3 a4 = some (q0, q1, q2, q3)) : Ev Try.prog 75 [optr 0 0 0, (sFc a0), i64 a1] [⟨0, some [oref 1 0 0 a3.length, oref 2 0 0 a4.length, f32 a2]⟩, ⟨0, some (a3.map f32)⟩, ⟨0, some (a4.map f32)⟩] (b q0) [⟨0, some [oref 1 1 0 q2.length, oref 2 1 0 q3.length, f32 q1]⟩, ⟨1, some (q2.map f32)⟩, ⟨1, some (q3.map f32)⟩] := by
 refine Ev.start Try.func75 rfl rfl 2 (τ := [(0, optr 0 0 0), (1, (sFc a0)), (2, i64 a1)]) rfl (Γ' := [⟨0, some [oref 1 0 0 a3.length, oref 2 0 0 a4.length, f32 a2]⟩, ⟨0, some (a3.map f32)⟩, ⟨0, some (a4.map f32)⟩, ⟨0, none⟩, ⟨0, none⟩]) rfl (n := 230) rfl (g := 3) rfl (by decide) ?_
 unfold i_reflections_next_0p0_C00o1_1o2 at h
 refine zQ<|ya rfl (b false)<|zN ?_
 refine zQ<|yl rfl (f32 (some 0)) (LOp.le (LOp.assign rfl rfl) (ALe.fl (by kernel_rfl) (by kernel_rfl)))<|zN ?_
 refine yS<|zQ<|ym rfl (optr 0 0 0)<|yl rfl (optr 0 0 0) (LOp.nilCheck_optr rfl rfl)<|yl rfl (optr 0 0 0) (LOp.fao und93 rfl siz26 rfl rfl rfl)<|yd rfl (oref 1 0 0 a3.length) (TOp.load1_o rfl rfl agg26 rfl rfl)<|yl rfl (i64 ((a3.length : Nat) : Int)) (LOp.len_oref und26 rfl rfl)<|ym rfl (i64 0)<|zN ?_
 obtain ⟨z3, hz_3, h⟩ := oS h
 refine RunC.cutN (fun τ Γ => ∃ (y10 : F), WeakLe τ [(0, optr 0 0 0), (1, (sFc a0)), (2, i64 a1), (7, f32 y10)] ∧ DeadLe Γ [⟨0, some [oref 1 0 0 a3.length, oref 2 0 0 a4.length, f32 a2]⟩, ⟨0, some (a3.map f32)⟩, ⟨0, some (a4.map f32)⟩, ⟨0, none⟩, ⟨0, none⟩] ∧ z3 = .inl y10) ?_ ?_
 ·refine RunC.block (RunC.loop (RunL.loopM (x := z3) (i_reflections_next_0p0_C00o1_1o2_s1 a0 a1 a3) (fun (s : F × Int) τ Γ => WeakLe τ [(0, optr 0 0 0), (1, (sFc a0)), (2, i64 a1), (7, f32 s.1), (16, oref 1 0 0 a3.length), (17, i64 ((a3.length : Nat) : Int)), (18, i64 s.2)] ∧ DeadLe Γ [⟨0, some [oref 1 0 0 a3.length, oref 2 0 0 a4.length, f32 a2]⟩, ⟨0, some (a3.map f32)⟩, ⟨0, some (a4.map f32)⟩, ⟨0, none⟩, ⟨0, none⟩]) ?_ _ _ _ hz_3 ⟨⟨aR, aR, aR, aR, aR, aR, aR, trivial⟩, ⟨⟨rfl, .inr rfl⟩, ⟨rfl, .inr rfl⟩, ⟨rfl, .inr rfl⟩, ⟨rfl, .inr rfl⟩, ⟨rfl, .inr rfl⟩, trivial⟩⟩))
  rintro ⟨y1, v2⟩ τ3 Γ3 y3_ ⟨hw3, hd3⟩ h3_ ho3 hr3
  refine RunC.wl (τ' := [(0, optr 0 0 0), (1, (sFc a0)), (2, i64 a1), (7, f32 y1), (16, oref 1 0 0 a3.length), (17, i64 ((a3.length : Nat) : Int)), (18, i64 v2)]) (Γ' := [⟨0, some [oref 1 0 0 a3.length, oref 2 0 0 a4.length, f32 a2]⟩, ⟨0, some (a3.map f32)⟩, ⟨0, some (a4.map f32)⟩, ⟨0, none⟩, ⟨0, none⟩]) hw3 hd3 ?_
  replace h3_ : i_reflections_next_0p0_C00o1_1o2_b1 a0 a1 a3 y1 v2 = some y3_ := h3_
  unfold i_reflections_next_0p0_C00o1_1o2_b1 at h3_
  refine yS ?_
  rcases oB h3_ with ⟨hc1, h3_⟩ | ⟨hc1, h3_⟩
  ·refine yW<|yl rfl (b true) (LOp.eqb (LOp.lss rfl rfl rfl) hc1)<|zN ?_
   refine yS<|yT<|RunC.skip<|yS<|RunC.block<|yS ?_
   obtain ⟨e3, he2, h3_⟩ := oS h3_
   refine yW<|ym rfl (i64 v2)<|yd rfl (optr 1 0 v2.toNat) (TOp.ixo und26 siz28 rfl rfl rfl (at_in he2 rfl) rfl)<|yd rfl (f32 e3) (TOp.load1_o rfl (at_cell he2) agg28 rfl rfl)<|ya rfl (i64 v2)<|ya rfl (f32 e3)<|zN ?_
   obtain ⟨x4, hx3, h3_⟩ := oL h3_
   obtain ⟨x5, hx4, h3_⟩ := oL h3_
   obtain ⟨e6, he5, h3_⟩ := oS h3_
   obtain ⟨r7, hf6, h3_⟩ := oS h3_
   obtain ⟨x8, hx7, h3_⟩ := oL h3_
   refine yW<|ym rfl (f32 y1)<|ym rfl (f32 e3)<|ym rfl (sFc a0)<|ym rfl (i64 a1)<|yl rfl (i64 x4) (LOp.eqr (LOp.sub rfl rfl rfl) (congrArg (ik .i64) hx3))<|ym rfl (i64 v2)<|yl rfl (i64 x5) (LOp.eqr (LOp.sub rfl rfl rfl) (congrArg (ik .i64) hx4))<|yl rfl (ptr [f32 e6]) (LOp.le (LOp.ix (f := f32) und26 siz28 rfl rfl rfl rfl he5) ALe.ptr)<|yl rfl (f32 e6) (y2 agg28)<|yd rfl (f32 r7) (yc ent76 rfl rfl (bP bN0) (i_mul_ok e3 e6 r7 hf6))<|yd rfl (f32 x8) (TOp.eqr (TOp.fop (.inl rfl) rfl (OpF.tmp rfl) (OpF.tmp rfl)) (congrArg (f .f32) hx7))<|ya rfl (f32 x8)<|zN ?_
   refine RunC.wl (τ' := [(0, optr 0 0 0), (1, (sFc a0)), (2, i64 a1), (7, f32 x8), (16, oref 1 0 0 a3.length), (17, i64 ((a3.length : Nat) : Int)), (18, i64 v2)]) (Γ' := [⟨0, some [oref 1 0 0 a3.length, oref 2 0 0 a4.length, f32 a2]⟩, ⟨0, some (a3.map f32)⟩, ⟨0, some (a4.map f32)⟩, ⟨0, none⟩, ⟨0, none⟩]) ⟨aR, aR, aR, aR, aR, aR, aR, trivial⟩ ⟨⟨rfl, .inr rfl⟩, ⟨rfl, .inr rfl⟩, ⟨rfl, .inr rfl⟩, ⟨rfl, .inr rfl⟩, ⟨rfl, .inr rfl⟩, trivial⟩ ?_
   obtain ⟨x9, hx8, h3_⟩ := oL h3_
   refine yW<|yl rfl (i64 x9) (LOp.eqr (LOp.add rfl rfl rfl) (congrArg (ik .i64) hx8))<|ym rfl (i64 x9)<|zN ?_
   cases oI h3_
   exact ⟨_, rfl, ⟨aR, aR, aR, aR, aR, aR, aR, trivial⟩, ⟨⟨rfl, .inr rfl⟩, ⟨rfl, .inr rfl⟩, ⟨rfl, .inr rfl⟩, ⟨rfl, .inr rfl⟩, ⟨rfl, .inr rfl⟩, trivial⟩⟩
  ·refine yW<|yl rfl (b false) (LOp.eqb (LOp.lss rfl rfl rfl) hc1)<|zN ?_
   refine yS<|yF<|RunC.exit ?_
   cases oI h3_
   have hx := ho3 _ rfl
   exact ⟨y1, ⟨aR, aR, aR, aR, trivial⟩, ⟨⟨rfl, .inr rfl⟩, ⟨rfl, .inr rfl⟩, ⟨rfl, .inr rfl⟩, ⟨rfl, .inr rfl⟩, ⟨rfl, .inr rfl⟩, trivial⟩, hx⟩
 ·rintro τ4 Γ4 ⟨y10, hw4, hd4, rfl⟩
  refine RunC.wl hw4 hd4 ?_
  replace h : i_reflections_next_0p0_C00o1_1o2_k1 a0 a1 a2 a3 a4 y10 = some (q0, q1, q2, q3) := h
  unfold i_reflections_next_0p0_C00o1_1o2_k1 at h
  refine yS ?_
  obtain ⟨e11, he9, h⟩ := oS h
  obtain ⟨x12, hx10, h⟩ := oL h
  obtain ⟨x13, hx11, h⟩ := oL h
  refine RunC.region_draw (Γ' := [⟨0, some [oref 1 0 0 a3.length, oref 2 0 0 a4.length, f32 a2]⟩, ⟨0, some (a3.map f32)⟩, ⟨0, some (a4.map f32)⟩, ⟨0, none⟩, ⟨0, none⟩]) 12 mixed 
   (tm rfl (sFc a0) <|
   (tm rfl (i64 a1) <|
   (tl rfl (ptr [f32 e11]) (LOp.le (LOp.ix (f := f32) und26 siz28 rfl rfl rfl rfl he9) ALe.ptr) <|
   (tl rfl (f32 e11) (y2 agg28) <|
   (tm rfl (f32 y10) <|
   (TR.d (r := f32 x12) (fs := []) rfl rfl (TOp.eqr (TOp.fop (.inr (.inl rfl)) rfl (OpF.tmp rfl) (OpF.tmp rfl)) (congrArg (f .f32) hx10)) <|
   (tm rfl (optr 0 0 0) <|
   (tl rfl (optr 0 0 0) (LOp.nilCheck_optr rfl rfl) <|
   (tl rfl (optr 0 0 2) (LOp.fao und93 rfl siz28 rfl rfl rfl) <|
   (TR.d (r := f32 a2) (fs := []) rfl rfl (TOp.load1_o rfl rfl agg28 rfl rfl) <|
   (TR.d (r := f32 x13) (fs := []) rfl rfl (TOp.eqr (TOp.fop (.inr (.inr (.inr rfl))) rfl (OpF.tmp rfl) (OpF.tmp rfl)) (congrArg (f .f32) hx11)) <|
   (tl rfl (f32 x13) (LOp.assign rfl rfl) <|
   TR.nil)))))))))))) rfl (by kernel_rfl) rfl fills_nil rfl ?_
  iterate 12 refine ROps.dropS ?_
  refine ROps.drop0<|zN ?_
  refine RunC.wl (τ' := [(0, optr 0 0 0), (2, i64 a1), (10, f32 x13)]) (Γ' := [⟨0, some [oref 1 0 0 a3.length, oref 2 0 0 a4.length, f32 a2]⟩, ⟨0, some (a3.map f32)⟩, ⟨0, some (a4.map f32)⟩, ⟨0, none⟩, ⟨0, none⟩]) ⟨aR, aR, aR, trivial⟩ ⟨⟨rfl, .inr rfl⟩, ⟨rfl, .inr rfl⟩, ⟨rfl, .inr rfl⟩, ⟨rfl, .inr rfl⟩, ⟨rfl, .inr rfl⟩, trivial⟩<|yS ?_
  obtain ⟨r14, hf12, h⟩ := oS h
  refine yW<|ym rfl (optr 0 0 0)<|yl rfl (optr 0 0 0) (LOp.nilCheck_optr rfl rfl)<|yl rfl (optr 0 0 0) (LOp.fao und93 rfl siz26 rfl rfl rfl)<|yd rfl (oref 1 0 0 a3.length) (TOp.load1_o rfl rfl agg26 rfl rfl)<|ye rfl (oref 3 1 0 r14.length) ([⟨0, some [oref 1 0 0 a3.length, oref 2 0 0 a4.length, f32 a2]⟩, ⟨0, some (a3.map f32)⟩, ⟨0, some (a4.map f32)⟩, ⟨1, some (r14.map f32)⟩, ⟨0, none⟩]) (TOp.callBN (ls := [(r14.map f32)]) [3] (CallAs.func ent82 rfl rfl) (Bors.cons (Bor.own (f := f32) (fun _ => rfl) rfl rfl) bN) rfl (x_slices_Clone_float32_float32_ok a3 r14 hf12) (and_all (lts0_map (f := f32) (fun _ => rfl) _) rfl) (and_all (noss_map (f := f32) (fun _ => rfl) _) rfl) rfl (by decide) (ns_of ⟨⟨_, rfl⟩, trivial⟩))<|ya rfl (oref 3 1 0 r14.length)<|zN ?_
  refine yS<|zQ<|ym rfl (optr 0 0 0)<|yl rfl (optr 0 0 0) (LOp.nilCheck_optr rfl rfl)<|yl rfl (optr 0 0 0) (LOp.fao und93 rfl siz26 rfl rfl rfl)<|yd rfl (oref 1 0 0 a3.length) (TOp.load1_o rfl rfl agg26 rfl rfl)<|yl rfl (i64 ((a3.length : Nat) : Int)) (LOp.len_oref und26 rfl rfl)<|ym rfl (i64 0)<|zN ?_
  obtain ⟨z5, hz_5, h⟩ := oS h
  refine RunC.cutN (fun τ Γ => ∃ (L26 : List F), L26.length = a3.length ∧ WeakLe τ [(0, optr 0 0 0), (10, f32 x13)] ∧ DeadLe Γ [⟨0, some [oref 1 0 0 a3.length, oref 2 0 0 a4.length, f32 a2]⟩, ⟨0, some (L26.map f32)⟩, ⟨0, some (a4.map f32)⟩, ⟨1, none⟩, ⟨0, none⟩] ∧ z5 = .inl L26) ?_ ?_
  ·refine RunC.block (RunC.loop (RunL.loopM (x := z5) (i_reflections_next_0p0_C00o1_1o2_s2 a1 a3 x13 r14) (fun (s : (List F) × Int) τ Γ => s.1.length = a3.length ∧ WeakLe τ [(0, optr 0 0 0), (2, i64 a1), (10, f32 x13), (11, oref 3 1 0 r14.length), (55, i64 ((a3.length : Nat) : Int)), (56, i64 s.2)] ∧ DeadLe Γ [⟨0, some [oref 1 0 0 a3.length, oref 2 0 0 a4.length, f32 a2]⟩, ⟨0, some (s.1.map f32)⟩, ⟨0, some (a4.map f32)⟩, ⟨1, some (r14.map f32)⟩, ⟨0, none⟩]) ?_ _ _ _ hz_5 ⟨rfl, ⟨aR, aR, aR, aR, aR, aR, trivial⟩, ⟨⟨rfl, .inr rfl⟩, ⟨rfl, .inr rfl⟩, ⟨rfl, .inr rfl⟩, ⟨rfl, .inr rfl⟩, ⟨rfl, .inr rfl⟩, trivial⟩⟩))
   rintro ⟨L15, v17⟩ τ5 Γ5 y5_ ⟨hl16, hw5, hd5⟩ h5_ ho5 hr5
   refine RunC.wl (τ' := [(0, optr 0 0 0), (2, i64 a1), (10, f32 x13), (11, oref 3 1 0 r14.length), (55, i64 ((a3.length : Nat) : Int)), (56, i64 v17)]) (Γ' := [⟨0, some [oref 1 0 0 a3.length, oref 2 0 0 a4.length, f32 a2]⟩, ⟨0, some (L15.map f32)⟩, ⟨0, some (a4.map f32)⟩, ⟨1, some (r14.map f32)⟩, ⟨0, none⟩]) hw5 hd5 ?_
   replace hl16 : L15.length = a3.length := hl16
   replace h5_ : i_reflections_next_0p0_C00o1_1o2_b2 a1 a3 x13 r14 L15 v17 = some y5_ := h5_
   unfold i_reflections_next_0p0_C00o1_1o2_b2 at h5_
   refine yS ?_
   rcases oB h5_ with ⟨hc13, h5_⟩ | ⟨hc13, h5_⟩
   ·refine yW<|yl rfl (b true) (LOp.eqb (LOp.lss rfl rfl rfl) hc13)<|zN ?_
    refine yS<|yT<|RunC.skip<|yS<|RunC.block<|zQ<|ym rfl (i64 v17)<|ya rfl (i64 v17)<|zN ?_
    obtain ⟨e18, he14, h5_⟩ := oS h5_
    obtain ⟨x19, hx15, h5_⟩ := oL h5_
    obtain ⟨x20, hx16, h5_⟩ := oL h5_
    obtain ⟨e21, he17, h5_⟩ := oS h5_
    obtain ⟨r22, hf18, h5_⟩ := oS h5_
    obtain ⟨x23, hx19, h5_⟩ := oL h5_
    obtain ⟨L24, he20, h5_⟩ := oS h5_
    refine RunC.region_draw (Γ' := [⟨0, some [oref 1 0 0 a3.length, oref 2 0 0 a4.length, f32 a2]⟩, ⟨0, some (L15.map f32)⟩, ⟨0, some (a4.map f32)⟩, ⟨1, some (r14.map f32)⟩, ⟨0, none⟩]) 18 mixed 
     (tm rfl (optr 0 0 0) <|
     (tl rfl (optr 0 0 0) (LOp.nilCheck_optr rfl rfl) <|
     (tl rfl (optr 0 0 0) (LOp.fao und93 rfl siz26 rfl rfl rfl) <|
     (TR.d (r := oref 1 0 0 a3.length) (fs := []) rfl rfl (TOp.load1_o rfl rfl agg26 rfl rfl) <|
     (tm rfl (i64 v17) <|
     (TR.d (r := optr 1 0 v17.toNat) (fs := []) rfl rfl (TOp.ixo und26 siz28 rfl rfl rfl (at_in he14 hl16) rfl) <|
     (TR.d (r := f32 e18) (fs := []) rfl rfl (TOp.load1_o rfl (at_cell he14) agg28 rfl rfl) <|
     (tm rfl (f32 x13) <|
     (tm rfl (oref 3 1 0 r14.length) <|
     (tm rfl (i64 a1) <|
     (tl rfl (i64 x19) (LOp.eqr (LOp.sub rfl rfl rfl) (congrArg (ik .i64) hx15)) <|
     (tm rfl (i64 v17) <|
     (tl rfl (i64 x20) (LOp.eqr (LOp.sub rfl rfl rfl) (congrArg (ik .i64) hx16)) <|
     (TR.d (r := optr 3 1 x20.toNat) (fs := []) rfl rfl (TOp.ixo und26 siz28 rfl rfl rfl (at_in he17 rfl) rfl) <|
     (TR.d (r := f32 e21) (fs := []) rfl rfl (TOp.load1_o rfl (at_cell he17) agg28 rfl rfl) <|
     (TR.d (r := f32 r22) (fs := []) rfl rfl (yc ent76 rfl rfl (bP bN0) (i_mul_ok x13 e21 r22 hf18)) <|
     (TR.d (r := f32 x23) (fs := []) rfl rfl (TOp.eqr (TOp.fop (.inr (.inl rfl)) rfl (OpF.tmp rfl) (OpF.tmp rfl)) (congrArg (f .f32) hx19)) <|
     (TR.d (r := optr 1 0 v17.toNat) (fs := []) rfl rfl (TOp.ixo und26 siz28 rfl rfl rfl (set_in he20 hl16) rfl) <|
     TR.nil)))))))))))))))))) rfl (by kernel_rfl) rfl fills_nil rfl ?_
    iterate 18 refine ROps.dropS ?_
    refine ROps.drop0<|ROps.st (f := f32) (i := v17) (Γ' := [⟨0, some [oref 1 0 0 a3.length, oref 2 0 0 a4.length, f32 a2]⟩, ⟨0, some (L24.map f32)⟩, ⟨0, some (a4.map f32)⟩, ⟨1, some (r14.map f32)⟩, ⟨0, none⟩]) rfl siz28 rfl rfl rfl aR rfl rfl rfl he20 rfl<|zN ?_
    refine RunC.wl (τ' := [(0, optr 0 0 0), (2, i64 a1), (10, f32 x13), (11, oref 3 1 0 r14.length), (55, i64 ((a3.length : Nat) : Int)), (56, i64 v17)]) (Γ' := [⟨0, some [oref 1 0 0 a3.length, oref 2 0 0 a4.length, f32 a2]⟩, ⟨0, some (L24.map f32)⟩, ⟨0, some (a4.map f32)⟩, ⟨1, some (r14.map f32)⟩, ⟨0, none⟩]) ⟨aR, aR, aR, aR, aR, aR, trivial⟩ ⟨⟨rfl, .inr rfl⟩, ⟨rfl, .inr rfl⟩, ⟨rfl, .inr rfl⟩, ⟨rfl, .inr rfl⟩, ⟨rfl, .inr rfl⟩, trivial⟩ ?_
    obtain ⟨x25, hx21, h5_⟩ := oL h5_
    refine yW<|yl rfl (i64 x25) (LOp.eqr (LOp.add rfl rfl rfl) (congrArg (ik .i64) hx21))<|ym rfl (i64 x25)<|zN ?_
    cases oI h5_
    exact ⟨_, rfl, ((setAt?_len he20).trans hl16), ⟨aR, aR, aR, aR, aR, aR, trivial⟩, ⟨⟨rfl, .inr rfl⟩, ⟨rfl, .inr rfl⟩, ⟨rfl, .inr rfl⟩, ⟨rfl, .inr rfl⟩, ⟨rfl, .inr rfl⟩, trivial⟩⟩
   ·refine yW<|yl rfl (b false) (LOp.eqb (LOp.lss rfl rfl rfl) hc13)<|zN ?_
    refine yS<|yF<|RunC.exit ?_
    cases oI h5_
    have hx := ho5 _ rfl
    exact ⟨L15, hl16, ⟨aR, aR, trivial⟩, ⟨⟨rfl, .inr rfl⟩, ⟨rfl, .inr rfl⟩, ⟨rfl, .inr rfl⟩, ⟨rfl, .inl rfl⟩, ⟨rfl, .inr rfl⟩, trivial⟩, hx⟩
  ·rintro τ6 Γ6 ⟨L26, hl27, hw6, hd6, rfl⟩
   refine RunC.wl hw6 hd6 ?_
   replace h : i_reflections_next_0p0_C00o1_1o2_k2 a2 a3 a4 x13 L26 = some (q0, q1, q2, q3) := h
   unfold i_reflections_next_0p0_C00o1_1o2_k2 at h
   refine yS ?_
   obtain ⟨hm22, h⟩ := need_some h
   obtain ⟨hm23, h⟩ := need_some h
   refine RunC.cutN (fun τ Γ => WeakLe τ [(0, optr 0 0 0), (10, f32 x13), (78, optr 0 0 0), (79, optr 0 0 0), (80, optr 0 0 0), (81, optr 0 0 0), (82, optr 0 0 0), (83, oref 1 0 0 a3.length), (84, f32 x13), (85, oref 3 2 0 1), (86, oref 1 1 0 (a3.length + 1)), (87, optr 0 0 0), (88, optr 0 0 0), (89, optr 0 0 1), (90, oref 2 0 0 a4.length), (91, f32 x13), (92, oref 4 1 0 1), (93, oref 2 1 0 (a4.length + 1)), (94, optr 0 0 0), (95, optr 0 0 0), (96, optr 0 0 0), (97, optr 0 0 1)] ∧ DeadLe Γ [⟨0, some [oref 1 1 0 (a3.length + 1), oref 2 1 0 (a4.length + 1), f32 a2]⟩, ⟨1, some ((L26 ++ ([x13] : List F)).map f32)⟩, ⟨1, some ((a4 ++ ([x13] : List F)).map f32)⟩, ⟨2, some (([x13] : List F).map f32)⟩, ⟨1, some (([x13] : List F).map f32)⟩]) ?_ ?_
   ·refine RunC.any (n := 22) rfl mixed<|RAny.take 0 (r := optr 0 0 0) rfl (by kernel_rfl) (by kernel_rfl) (by kernel_rfl) rfl rfl (POp.move rfl rfl)<|RAny.take 1 (r := optr 0 0 0) rfl (by kernel_rfl) (by kernel_rfl) (by kernel_rfl) rfl rfl (POp.move rfl rfl)<|RAny.take 2 (r := optr 0 0 0) rfl (by kernel_rfl) (by kernel_rfl) (by kernel_rfl) rfl rfl (POp.move rfl rfl)<|RAny.take 3 (r := optr 0 0 0) rfl (by kernel_rfl) (by kernel_rfl) (by kernel_rfl) rfl rfl (POp.nilCheck_optr rfl rfl)<|RAny.take 4 (r := optr 0 0 0) rfl (by kernel_rfl) (by kernel_rfl) (by kernel_rfl) rfl rfl (POp.fao und93 rfl siz26 rfl rfl rfl)<|RAny.take 6 (r := f32 x13) rfl (by kernel_rfl) (by kernel_rfl) (by kernel_rfl) rfl rfl (POp.move rfl rfl)<|RAny.take 9 (r := optr 0 0 0) rfl (by kernel_rfl) (by kernel_rfl) (by kernel_rfl) rfl rfl (POp.move rfl rfl)<|RAny.take 10 (r := optr 0 0 0) rfl (by kernel_rfl) (by kernel_rfl) (by kernel_rfl) rfl rfl (POp.nilCheck_optr rfl rfl)<|RAny.take 11 (r := optr 0 0 1) rfl (by kernel_rfl) (by kernel_rfl) (by kernel_rfl) rfl rfl (POp.fao und93 rfl siz26 rfl rfl rfl)<|RAny.take 13 (r := f32 x13) rfl (by kernel_rfl) (by kernel_rfl) (by kernel_rfl) rfl rfl (POp.move rfl rfl) ?_
    refine RAny.more (i0 := 5) (l := [7, 12, 14]) (by kernel_rfl) (RAnys.cons rfl ?_ (RAnys.cons rfl ?_ (RAnys.cons rfl ?_ (RAnys.cons rfl ?_ RAnys.nil))))
    ·refine yd rfl (oref 1 0 0 a3.length) (TOp.load1_o rfl rfl agg26 rfl rfl)<|zN ?_
     refine RAny.more (i0 := 7) (l := [12, 14]) (by kernel_rfl) (RAnys.cons rfl ?_ (RAnys.cons rfl ?_ (RAnys.cons rfl ?_ RAnys.nil)))
     ·refine ye rfl (oref 3 2 0 1) ([⟨0, some [oref 1 0 0 a3.length, oref 2 0 0 a4.length, f32 a2]⟩, ⟨0, some (L26.map f32)⟩, ⟨0, some (a4.map f32)⟩, ⟨2, some (([x13] : List F).map f32)⟩, ⟨0, none⟩]) (TOp.buildSlice_o (g := ⟨1, none⟩) (za := f32 (some 0)) (qs := [(0, [f32 x13])]) 3 rfl und26 siz28 zer28 rfl zel28 rfl rfl ⟨rfl, ⟨_, ALe.refl _, rfl⟩, trivial⟩ rfl)<|zN ?_
      refine RAny.more (i0 := 8) (l := [12, 14]) (by kernel_rfl) (RAnys.cons rfl ?_ (RAnys.cons rfl ?_ (RAnys.cons rfl ?_ RAnys.nil)))
      ·refine ROps.app (f := f32) (xs := L26) (ys := ([x13] : List F)) (Γ' := [⟨0, some [oref 1 0 0 a3.length, oref 2 0 0 a4.length, f32 a2]⟩, ⟨1, some ((L26 ++ ([x13] : List F)).map f32)⟩, ⟨0, some (a4.map f32)⟩, ⟨2, some (([x13] : List F).map f32)⟩, ⟨0, none⟩]) rfl pun26 inf28 rfl rfl rfl rfl rfl rfl rfl rfl rfl (by simp [hl27]) (ReadAs.own rfl (by simp)) (ones_map (fun _ => rfl)) (ap_by hm22) (ap_mx hm22) rfl<|zN ?_
       refine RAny.more (i0 := 12) (l := [14]) (by kernel_rfl) (RAnys.cons rfl ?_ (RAnys.cons rfl ?_ RAnys.nil))
       ·refine yd rfl (oref 2 0 0 a4.length) (TOp.load1_o rfl rfl agg26 rfl rfl)<|zN ?_
        refine RAny.more (i0 := 14) (l := []) (by kernel_rfl) (RAnys.cons rfl ?_ RAnys.nil)
        refine ye rfl (oref 4 1 0 1) ([⟨0, some [oref 1 0 0 a3.length, oref 2 0 0 a4.length, f32 a2]⟩, ⟨1, some ((L26 ++ ([x13] : List F)).map f32)⟩, ⟨0, some (a4.map f32)⟩, ⟨2, some (([x13] : List F).map f32)⟩, ⟨1, some (([x13] : List F).map f32)⟩]) (TOp.buildSlice_o (g := ⟨0, none⟩) (za := f32 (some 0)) (qs := [(0, [f32 x13])]) 4 rfl und26 siz28 zer28 rfl zel28 rfl rfl ⟨rfl, ⟨_, ALe.refl _, rfl⟩, trivial⟩ rfl)<|zN ?_
        refine RAny.more (i0 := 15) (l := []) (by kernel_rfl) (RAnys.cons rfl ?_ RAnys.nil)
        refine ROps.app (f := f32) (xs := a4) (ys := ([x13] : List F)) (Γ' := [⟨0, some [oref 1 0 0 a3.length, oref 2 0 0 a4.length, f32 a2]⟩, ⟨1, some ((L26 ++ ([x13] : List F)).map f32)⟩, ⟨1, some ((a4 ++ ([x13] : List F)).map f32)⟩, ⟨2, some (([x13] : List F).map f32)⟩, ⟨1, some (([x13] : List F).map f32)⟩]) rfl pun26 inf28 rfl rfl rfl rfl rfl rfl rfl rfl rfl (by simp) (ReadAs.own rfl (by simp)) (ones_map (fun _ => rfl)) (ap_by hm23) (ap_mx hm23) rfl<|zN ?_
        refine RAny.take 16 (r := optr 0 0 0) rfl (by kernel_rfl) (by kernel_rfl) (by kernel_rfl) rfl rfl (POp.nilCheck_optr rfl rfl)<|RAny.take 17 (r := optr 0 0 0) rfl (by kernel_rfl) (by kernel_rfl) (by kernel_rfl) rfl rfl (POp.fao und93 rfl siz26 rfl rfl rfl) ?_
        refine RAny.more (i0 := 18) (l := []) (by kernel_rfl) (RAnys.cons rfl ?_ RAnys.nil)
        refine ys (oref 1 1 0 (a3.length + 1)) [oref 1 1 0 (a3.length + 1), oref 2 0 0 a4.length, f32 a2] ([⟨0, some [oref 1 1 0 (a3.length + 1), oref 2 0 0 a4.length, f32 a2]⟩, ⟨1, some ((L26 ++ ([x13] : List F)).map f32)⟩, ⟨1, some ((a4 ++ ([x13] : List F)).map f32)⟩, ⟨2, some (([x13] : List F).map f32)⟩, ⟨1, some (([x13] : List F).map f32)⟩]) siz26<|zN ?_
        refine RAny.take 19 (r := optr 0 0 0) rfl (by kernel_rfl) (by kernel_rfl) (by kernel_rfl) rfl rfl (POp.nilCheck_optr rfl rfl)<|RAny.take 20 (r := optr 0 0 1) rfl (by kernel_rfl) (by kernel_rfl) (by kernel_rfl) rfl rfl (POp.fao und93 rfl siz26 rfl rfl rfl) ?_
        refine RAny.more (i0 := 21) (l := []) (by kernel_rfl) (RAnys.cons rfl ?_ RAnys.nil)
        refine ys (oref 2 1 0 (a4.length + 1)) [oref 1 1 0 (a3.length + 1), oref 2 1 0 (a4.length + 1), f32 a2] ([⟨0, some [oref 1 1 0 (a3.length + 1), oref 2 1 0 (a4.length + 1), f32 a2]⟩, ⟨1, some ((L26 ++ ([x13] : List F)).map f32)⟩, ⟨1, some ((a4 ++ ([x13] : List F)).map f32)⟩, ⟨2, some (([x13] : List F).map f32)⟩, ⟨1, some (([x13] : List F).map f32)⟩]) siz26<|zN ?_
        refine RAny.done (by kernel_rfl) ?_
        exact ⟨⟨aR, aR, aR, aR, aR, aR, aR, aR, aR, aR, aR, aR, aR, aR, aR, aR, aR, aR, aR, aR, aR, aR, trivial⟩, ⟨⟨rfl, .inr rfl⟩, ⟨rfl, .inr rfl⟩, ⟨rfl, .inr rfl⟩, ⟨rfl, .inr rfl⟩, ⟨rfl, .inr rfl⟩, trivial⟩⟩
       ·refine ye rfl (oref 4 1 0 1) ([⟨0, some [oref 1 0 0 a3.length, oref 2 0 0 a4.length, f32 a2]⟩, ⟨1, some ((L26 ++ ([x13] : List F)).map f32)⟩, ⟨0, some (a4.map f32)⟩, ⟨2, some (([x13] : List F).map f32)⟩, ⟨1, some (([x13] : List F).map f32)⟩]) (TOp.buildSlice_o (g := ⟨0, none⟩) (za := f32 (some 0)) (qs := [(0, [f32 x13])]) 4 rfl und26 siz28 zer28 rfl zel28 rfl rfl ⟨rfl, ⟨_, ALe.refl _, rfl⟩, trivial⟩ rfl)<|zN ?_
        refine RAny.more (i0 := 12) (l := []) (by kernel_rfl) (RAnys.cons rfl ?_ RAnys.nil)
        refine yd rfl (oref 2 0 0 a4.length) (TOp.load1_o rfl rfl agg26 rfl rfl)<|zN ?_
        refine RAny.more (i0 := 15) (l := []) (by kernel_rfl) (RAnys.cons rfl ?_ RAnys.nil)
        refine ROps.app (f := f32) (xs := a4) (ys := ([x13] : List F)) (Γ' := [⟨0, some [oref 1 0 0 a3.length, oref 2 0 0 a4.length, f32 a2]⟩, ⟨1, some ((L26 ++ ([x13] : List F)).map f32)⟩, ⟨1, some ((a4 ++ ([x13] : List F)).map f32)⟩, ⟨2, some (([x13] : List F).map f32)⟩, ⟨1, some (([x13] : List F).map f32)⟩]) rfl pun26 inf28 rfl rfl rfl rfl rfl rfl rfl rfl rfl (by simp) (ReadAs.own rfl (by simp)) (ones_map (fun _ => rfl)) (ap_by hm23) (ap_mx hm23) rfl<|zN ?_
        refine RAny.take 16 (r := optr 0 0 0) rfl (by kernel_rfl) (by kernel_rfl) (by kernel_rfl) rfl rfl (POp.nilCheck_optr rfl rfl)<|RAny.take 17 (r := optr 0 0 0) rfl (by kernel_rfl) (by kernel_rfl) (by kernel_rfl) rfl rfl (POp.fao und93 rfl siz26 rfl rfl rfl) ?_
        refine RAny.more (i0 := 18) (l := []) (by kernel_rfl) (RAnys.cons rfl ?_ RAnys.nil)
        refine ys (oref 1 1 0 (a3.length + 1)) [oref 1 1 0 (a3.length + 1), oref 2 0 0 a4.length, f32 a2] ([⟨0, some [oref 1 1 0 (a3.length + 1), oref 2 0 0 a4.length, f32 a2]⟩, ⟨1, some ((L26 ++ ([x13] : List F)).map f32)⟩, ⟨1, some ((a4 ++ ([x13] : List F)).map f32)⟩, ⟨2, some (([x13] : List F).map f32)⟩, ⟨1, some (([x13] : List F).map f32)⟩]) siz26<|zN ?_
        refine RAny.take 19 (r := optr 0 0 0) rfl (by kernel_rfl) (by kernel_rfl) (by kernel_rfl) rfl rfl (POp.nilCheck_optr rfl rfl)<|RAny.take 20 (r := optr 0 0 1) rfl (by kernel_rfl) (by kernel_rfl) (by kernel_rfl) rfl rfl (POp.fao und93 rfl siz26 rfl rfl rfl) ?_
        refine RAny.more (i0 := 21) (l := []) (by kernel_rfl) (RAnys.cons rfl ?_ RAnys.nil)
        refine ys (oref 2 1 0 (a4.length + 1)) [oref 1 1 0 (a3.length + 1), oref 2 1 0 (a4.length + 1), f32 a2] ([⟨0, some [oref 1 1 0 (a3.length + 1), oref 2 1 0 (a4.length + 1), f32 a2]⟩, ⟨1, some ((L26 ++ ([x13] : List F)).map f32)⟩, ⟨1, some ((a4 ++ ([x13] : List F)).map f32)⟩, ⟨2, some (([x13] : List F).map f32)⟩, ⟨1, some (([x13] : List F).map f32)⟩]) siz26<|zN ?_
        refine RAny.done (by kernel_rfl) ?_
        exact ⟨⟨aR, aR, aR, aR, aR, aR, aR, aR, aR, aR, aR, aR, aR, aR, aR, aR, aR, aR, aR, aR, aR, aR, trivial⟩, ⟨⟨rfl, .inr rfl⟩, ⟨rfl, .inr rfl⟩, ⟨rfl, .inr rfl⟩, ⟨rfl, .inr rfl⟩, ⟨rfl, .inr rfl⟩, trivial⟩⟩
      ·refine yd rfl (oref 2 0 0 a4.length) (TOp.load1_o rfl rfl agg26 rfl rfl)<|zN ?_
       refine RAny.more (i0 := 8) (l := [14]) (by kernel_rfl) (RAnys.cons rfl ?_ (RAnys.cons rfl ?_ RAnys.nil))
       ·refine ROps.app (f := f32) (xs := L26) (ys := ([x13] : List F)) (Γ' := [⟨0, some [oref 1 0 0 a3.length, oref 2 0 0 a4.length, f32 a2]⟩, ⟨1, some ((L26 ++ ([x13] : List F)).map f32)⟩, ⟨0, some (a4.map f32)⟩, ⟨2, some (([x13] : List F).map f32)⟩, ⟨0, none⟩]) rfl pun26 inf28 rfl rfl rfl rfl rfl rfl rfl rfl rfl (by simp [hl27]) (ReadAs.own rfl (by simp)) (ones_map (fun _ => rfl)) (ap_by hm22) (ap_mx hm22) rfl<|zN ?_
        refine RAny.more (i0 := 14) (l := []) (by kernel_rfl) (RAnys.cons rfl ?_ RAnys.nil)
        refine ye rfl (oref 4 1 0 1) ([⟨0, some [oref 1 0 0 a3.length, oref 2 0 0 a4.length, f32 a2]⟩, ⟨1, some ((L26 ++ ([x13] : List F)).map f32)⟩, ⟨0, some (a4.map f32)⟩, ⟨2, some (([x13] : List F).map f32)⟩, ⟨1, some (([x13] : List F).map f32)⟩]) (TOp.buildSlice_o (g := ⟨0, none⟩) (za := f32 (some 0)) (qs := [(0, [f32 x13])]) 4 rfl und26 siz28 zer28 rfl zel28 rfl rfl ⟨rfl, ⟨_, ALe.refl _, rfl⟩, trivial⟩ rfl)<|zN ?_
        refine RAny.more (i0 := 15) (l := []) (by kernel_rfl) (RAnys.cons rfl ?_ RAnys.nil)
        refine ROps.app (f := f32) (xs := a4) (ys := ([x13] : List F)) (Γ' := [⟨0, some [oref 1 0 0 a3.length, oref 2 0 0 a4.length, f32 a2]⟩, ⟨1, some ((L26 ++ ([x13] : List F)).map f32)⟩, ⟨1, some ((a4 ++ ([x13] : List F)).map f32)⟩, ⟨2, some (([x13] : List F).map f32)⟩, ⟨1, some (([x13] : List F).map f32)⟩]) rfl pun26 inf28 rfl rfl rfl rfl rfl rfl rfl rfl rfl (by simp) (ReadAs.own rfl (by simp)) (ones_map (fun _ => rfl)) (ap_by hm23) (ap_mx hm23) rfl<|zN ?_
        refine RAny.take 16 (r := optr 0 0 0) rfl (by kernel_rfl) (by kernel_rfl) (by kernel_rfl) rfl rfl (POp.nilCheck_optr rfl rfl)<|RAny.take 17 (r := optr 0 0 0) rfl (by kernel_rfl) (by kernel_rfl) (by kernel_rfl) rfl rfl (POp.fao und93 rfl siz26 rfl rfl rfl) ?_
        refine RAny.more (i0 := 18) (l := []) (by kernel_rfl) (RAnys.cons rfl ?_ RAnys.nil)
        refine ys (oref 1 1 0 (a3.length + 1)) [oref 1 1 0 (a3.length + 1), oref 2 0 0 a4.length, f32 a2] ([⟨0, some [oref 1 1 0 (a3.length + 1), oref 2 0 0 a4.length, f32 a2]⟩, ⟨1, some ((L26 ++ ([x13] : List F)).map f32)⟩, ⟨1, some ((a4 ++ ([x13] : List F)).map f32)⟩, ⟨2, some (([x13] : List F).map f32)⟩, ⟨1, some (([x13] : List F).map f32)⟩]) siz26<|zN ?_
        refine RAny.take 19 (r := optr 0 0 0) rfl (by kernel_rfl) (by kernel_rfl) (by kernel_rfl) rfl rfl (POp.nilCheck_optr rfl rfl)<|RAny.take 20 (r := optr 0 0 1) rfl (by kernel_rfl) (by kernel_rfl) (by kernel_rfl) rfl rfl (POp.fao und93 rfl siz26 rfl rfl rfl) ?_
        refine RAny.more (i0 := 21) (l := []) (by kernel_rfl) (RAnys.cons rfl ?_ RAnys.nil)
        refine ys (oref 2 1 0 (a4.length + 1)) [oref 1 1 0 (a3.length + 1), oref 2 1 0 (a4.length + 1), f32 a2] ([⟨0, some [oref 1 1 0 (a3.length + 1), oref 2 1 0 (a4.length + 1), f32 a2]⟩, ⟨1, some ((L26 ++ ([x13] : List F)).map f32)⟩, ⟨1, some ((a4 ++ ([x13] : List F)).map f32)⟩, ⟨2, some (([x13] : List F).map f32)⟩, ⟨1, some (([x13] : List F).map f32)⟩]) siz26<|zN ?_
        refine RAny.done (by kernel_rfl) ?_
        exact ⟨⟨aR, aR, aR, aR, aR, aR, aR, aR, aR, aR, aR, aR, aR, aR, aR, aR, aR, aR, aR, aR, aR, aR, trivial⟩, ⟨⟨rfl, .inr rfl⟩, ⟨rfl, .inr rfl⟩, ⟨rfl, .inr rfl⟩, ⟨rfl, .inr rfl⟩, ⟨rfl, .inr rfl⟩, trivial⟩⟩
       ·refine ye rfl (oref 4 1 0 1) ([⟨0, some [oref 1 0 0 a3.length, oref 2 0 0 a4.length, f32 a2]⟩, ⟨0, some (L26.map f32)⟩, ⟨0, some (a4.map f32)⟩, ⟨2, some (([x13] : List F).map f32)⟩, ⟨1, some (([x13] : List F).map f32)⟩]) (TOp.buildSlice_o (g := ⟨0, none⟩) (za := f32 (some 0)) (qs := [(0, [f32 x13])]) 4 rfl und26 siz28 zer28 rfl zel28 rfl rfl ⟨rfl, ⟨_, ALe.refl _, rfl⟩, trivial⟩ rfl)<|zN ?_
        refine RAny.more (i0 := 8) (l := []) (by kernel_rfl) (RAnys.cons rfl ?_ RAnys.nil)
        refine ROps.app (f := f32) (xs := L26) (ys := ([x13] : List F)) (Γ' := [⟨0, some [oref 1 0 0 a3.length, oref 2 0 0 a4.length, f32 a2]⟩, ⟨1, some ((L26 ++ ([x13] : List F)).map f32)⟩, ⟨0, some (a4.map f32)⟩, ⟨2, some (([x13] : List F).map f32)⟩, ⟨1, some (([x13] : List F).map f32)⟩]) rfl pun26 inf28 rfl rfl rfl rfl rfl rfl rfl rfl rfl (by simp [hl27]) (ReadAs.own rfl (by simp)) (ones_map (fun _ => rfl)) (ap_by hm22) (ap_mx hm22) rfl<|zN ?_
        refine RAny.more (i0 := 15) (l := []) (by kernel_rfl) (RAnys.cons rfl ?_ RAnys.nil)
        refine ROps.app (f := f32) (xs := a4) (ys := ([x13] : List F)) (Γ' := [⟨0, some [oref 1 0 0 a3.length, oref 2 0 0 a4.length, f32 a2]⟩, ⟨1, some ((L26 ++ ([x13] : List F)).map f32)⟩, ⟨1, some ((a4 ++ ([x13] : List F)).map f32)⟩, ⟨2, some (([x13] : List F).map f32)⟩, ⟨1, some (([x13] : List F).map f32)⟩]) rfl pun26 inf28 rfl rfl rfl rfl rfl rfl rfl rfl rfl (by simp) (ReadAs.own rfl (by simp)) (ones_map (fun _ => rfl)) (ap_by hm23) (ap_mx hm23) rfl<|zN ?_
        refine RAny.take 16 (r := optr 0 0 0) rfl (by kernel_rfl) (by kernel_rfl) (by kernel_rfl) rfl rfl (POp.nilCheck_optr rfl rfl)<|RAny.take 17 (r := optr 0 0 0) rfl (by kernel_rfl) (by kernel_rfl) (by kernel_rfl) rfl rfl (POp.fao und93 rfl siz26 rfl rfl rfl) ?_
        refine RAny.more (i0 := 18) (l := []) (by kernel_rfl) (RAnys.cons rfl ?_ RAnys.nil)
        refine ys (oref 1 1 0 (a3.length + 1)) [oref 1 1 0 (a3.length + 1), oref 2 0 0 a4.length, f32 a2] ([⟨0, some [oref 1 1 0 (a3.length + 1), oref 2 0 0 a4.length, f32 a2]⟩, ⟨1, some ((L26 ++ ([x13] : List F)).map f32)⟩, ⟨1, some ((a4 ++ ([x13] : List F)).map f32)⟩, ⟨2, some (([x13] : List F).map f32)⟩, ⟨1, some (([x13] : List F).map f32)⟩]) siz26<|zN ?_
        refine RAny.take 19 (r := optr 0 0 0) rfl (by kernel_rfl) (by kernel_rfl) (by kernel_rfl) rfl rfl (POp.nilCheck_optr rfl rfl)<|RAny.take 20 (r := optr 0 0 1) rfl (by kernel_rfl) (by kernel_rfl) (by kernel_rfl) rfl rfl (POp.fao und93 rfl siz26 rfl rfl rfl) ?_
        refine RAny.more (i0 := 21) (l := []) (by kernel_rfl) (RAnys.cons rfl ?_ RAnys.nil)
        refine ys (oref 2 1 0 (a4.length + 1)) [oref 1 1 0 (a3.length + 1), oref 2 1 0 (a4.length + 1), f32 a2] ([⟨0, some [oref 1 1 0 (a3.length + 1), oref 2 1 0 (a4.length + 1), f32 a2]⟩, ⟨1, some ((L26 ++ ([x13] : List F)).map f32)⟩, ⟨1, some ((a4 ++ ([x13] : List F)).map f32)⟩, ⟨2, some (([x13] : List F).map f32)⟩, ⟨1, some (([x13] : List F).map f32)⟩]) siz26<|zN ?_
        refine RAny.done (by kernel_rfl) ?_
        exact ⟨⟨aR, aR, aR, aR, aR, aR, aR, aR, aR, aR, aR, aR, aR, aR, aR, aR, aR, aR, aR, aR, aR, aR, trivial⟩, ⟨⟨rfl, .inr rfl⟩, ⟨rfl, .inr rfl⟩, ⟨rfl, .inr rfl⟩, ⟨rfl, .inr rfl⟩, ⟨rfl, .inr rfl⟩, trivial⟩⟩
      ·refine ye rfl (oref 4 1 0 1) ([⟨0, some [oref 1 0 0 a3.length, oref 2 0 0 a4.length, f32 a2]⟩, ⟨0, some (L26.map f32)⟩, ⟨0, some (a4.map f32)⟩, ⟨2, some (([x13] : List F).map f32)⟩, ⟨1, some (([x13] : List F).map f32)⟩]) (TOp.buildSlice_o (g := ⟨0, none⟩) (za := f32 (some 0)) (qs := [(0, [f32 x13])]) 4 rfl und26 siz28 zer28 rfl zel28 rfl rfl ⟨rfl, ⟨_, ALe.refl _, rfl⟩, trivial⟩ rfl)<|zN ?_
       refine RAny.more (i0 := 8) (l := [12]) (by kernel_rfl) (RAnys.cons rfl ?_ (RAnys.cons rfl ?_ RAnys.nil))
       ·refine ROps.app (f := f32) (xs := L26) (ys := ([x13] : List F)) (Γ' := [⟨0, some [oref 1 0 0 a3.length, oref 2 0 0 a4.length, f32 a2]⟩, ⟨1, some ((L26 ++ ([x13] : List F)).map f32)⟩, ⟨0, some (a4.map f32)⟩, ⟨2, some (([x13] : List F).map f32)⟩, ⟨1, some (([x13] : List F).map f32)⟩]) rfl pun26 inf28 rfl rfl rfl rfl rfl rfl rfl rfl rfl (by simp [hl27]) (ReadAs.own rfl (by simp)) (ones_map (fun _ => rfl)) (ap_by hm22) (ap_mx hm22) rfl<|zN ?_
        refine RAny.more (i0 := 12) (l := []) (by kernel_rfl) (RAnys.cons rfl ?_ RAnys.nil)
        refine yd rfl (oref 2 0 0 a4.length) (TOp.load1_o rfl rfl agg26 rfl rfl)<|zN ?_
        refine RAny.more (i0 := 15) (l := []) (by kernel_rfl) (RAnys.cons rfl ?_ RAnys.nil)
        refine ROps.app (f := f32) (xs := a4) (ys := ([x13] : List F)) (Γ' := [⟨0, some [oref 1 0 0 a3.length, oref 2 0 0 a4.length, f32 a2]⟩, ⟨1, some ((L26 ++ ([x13] : List F)).map f32)⟩, ⟨1, some ((a4 ++ ([x13] : List F)).map f32)⟩, ⟨2, some (([x13] : List F).map f32)⟩, ⟨1, some (([x13] : List F).map f32)⟩]) rfl pun26 inf28 rfl rfl rfl rfl rfl rfl rfl rfl rfl (by simp) (ReadAs.own rfl (by simp)) (ones_map (fun _ => rfl)) (ap_by hm23) (ap_mx hm23) rfl<|zN ?_
        refine RAny.take 16 (r := optr 0 0 0) rfl (by kernel_rfl) (by kernel_rfl) (by kernel_rfl) rfl rfl (POp.nilCheck_optr rfl rfl)<|RAny.take 17 (r := optr 0 0 0) rfl (by kernel_rfl) (by kernel_rfl) (by kernel_rfl) rfl rfl (POp.fao und93 rfl siz26 rfl rfl rfl) ?_
        refine RAny.more (i0 := 18) (l := []) (by kernel_rfl) (RAnys.cons rfl ?_ RAnys.nil)
        refine ys (oref 1 1 0 (a3.length + 1)) [oref 1 1 0 (a3.length + 1), oref 2 0 0 a4.length, f32 a2] ([⟨0, some [oref 1 1 0 (a3.length + 1), oref 2 0 0 a4.length, f32 a2]⟩, ⟨1, some ((L26 ++ ([x13] : List F)).map f32)⟩, ⟨1, some ((a4 ++ ([x13] : List F)).map f32)⟩, ⟨2, some (([x13] : List F).map f32)⟩, ⟨1, some (([x13] : List F).map f32)⟩]) siz26<|zN ?_
        refine RAny.take 19 (r := optr 0 0 0) rfl (by kernel_rfl) (by kernel_rfl) (by kernel_rfl) rfl rfl (POp.nilCheck_optr rfl rfl)<|RAny.take 20 (r := optr 0 0 1) rfl (by kernel_rfl) (by kernel_rfl) (by kernel_rfl) rfl rfl (POp.fao und93 rfl siz26 rfl rfl rfl) ?_
        refine RAny.more (i0 := 21) (l := []) (by kernel_rfl) (RAnys.cons rfl ?_ RAnys.nil)
        refine ys (oref 2 1 0 (a4.length + 1)) [oref 1 1 0 (a3.length + 1), oref 2 1 0 (a4.length + 1), f32 a2] ([⟨0, some [oref 1 1 0 (a3.length + 1), oref 2 1 0 (a4.length + 1), f32 a2]⟩, ⟨1, some ((L26 ++ ([x13] : List F)).map f32)⟩, ⟨1, some ((a4 ++ ([x13] : List F)).map f32)⟩, ⟨2, some (([x13] : List F).map f32)⟩, ⟨1, some (([x13] : List F).map f32)⟩]) siz26<|zN ?_
        refine RAny.done (by kernel_rfl) ?_
        exact ⟨⟨aR, aR, aR, aR, aR, aR, aR, aR, aR, aR, aR, aR, aR, aR, aR, aR, aR, aR, aR, aR, aR, aR, trivial⟩, ⟨⟨rfl, .inr rfl⟩, ⟨rfl, .inr rfl⟩, ⟨rfl, .inr rfl⟩, ⟨rfl, .inr rfl⟩, ⟨rfl, .inr rfl⟩, trivial⟩⟩
       ·refine yd rfl (oref 2 0 0 a4.length) (TOp.load1_o rfl rfl agg26 rfl rfl)<|zN ?_
        refine RAny.more (i0 := 8) (l := []) (by kernel_rfl) (RAnys.cons rfl ?_ RAnys.nil)
        refine ROps.app (f := f32) (xs := L26) (ys := ([x13] : List F)) (Γ' := [⟨0, some [oref 1 0 0 a3.length, oref 2 0 0 a4.length, f32 a2]⟩, ⟨1, some ((L26 ++ ([x13] : List F)).map f32)⟩, ⟨0, some (a4.map f32)⟩, ⟨2, some (([x13] : List F).map f32)⟩, ⟨1, some (([x13] : List F).map f32)⟩]) rfl pun26 inf28 rfl rfl rfl rfl rfl rfl rfl rfl rfl (by simp [hl27]) (ReadAs.own rfl (by simp)) (ones_map (fun _ => rfl)) (ap_by hm22) (ap_mx hm22) rfl<|zN ?_
        refine RAny.more (i0 := 15) (l := []) (by kernel_rfl) (RAnys.cons rfl ?_ RAnys.nil)
        refine ROps.app (f := f32) (xs := a4) (ys := ([x13] : List F)) (Γ' := [⟨0, some [oref 1 0 0 a3.length, oref 2 0 0 a4.length, f32 a2]⟩, ⟨1, some ((L26 ++ ([x13] : List F)).map f32)⟩, ⟨1, some ((a4 ++ ([x13] : List F)).map f32)⟩, ⟨2, some (([x13] : List F).map f32)⟩, ⟨1, some (([x13] : List F).map f32)⟩]) rfl pun26 inf28 rfl rfl rfl rfl rfl rfl rfl rfl rfl (by simp) (ReadAs.own rfl (by simp)) (ones_map (fun _ => rfl)) (ap_by hm23) (ap_mx hm23) rfl<|zN ?_
        refine RAny.take 16 (r := optr 0 0 0) rfl (by kernel_rfl) (by kernel_rfl) (by kernel_rfl) rfl rfl (POp.nilCheck_optr rfl rfl)<|RAny.take 17 (r := optr 0 0 0) rfl (by kernel_rfl) (by kernel_rfl) (by kernel_rfl) rfl rfl (POp.fao und93 rfl siz26 rfl rfl rfl) ?_
        refine RAny.more (i0 := 18) (l := []) (by kernel_rfl) (RAnys.cons rfl ?_ RAnys.nil)
        refine ys (oref 1 1 0 (a3.length + 1)) [oref 1 1 0 (a3.length + 1), oref 2 0 0 a4.length, f32 a2] ([⟨0, some [oref 1 1 0 (a3.length + 1), oref 2 0 0 a4.length, f32 a2]⟩, ⟨1, some ((L26 ++ ([x13] : List F)).map f32)⟩, ⟨1, some ((a4 ++ ([x13] : List F)).map f32)⟩, ⟨2, some (([x13] : List F).map f32)⟩, ⟨1, some (([x13] : List F).map f32)⟩]) siz26<|zN ?_
        refine RAny.take 19 (r := optr 0 0 0) rfl (by kernel_rfl) (by kernel_rfl) (by kernel_rfl) rfl rfl (POp.nilCheck_optr rfl rfl)<|RAny.take 20 (r := optr 0 0 1) rfl (by kernel_rfl) (by kernel_rfl) (by kernel_rfl) rfl rfl (POp.fao und93 rfl siz26 rfl rfl rfl) ?_
        refine RAny.more (i0 := 21) (l := []) (by kernel_rfl) (RAnys.cons rfl ?_ RAnys.nil)
        refine ys (oref 2 1 0 (a4.length + 1)) [oref 1 1 0 (a3.length + 1), oref 2 1 0 (a4.length + 1), f32 a2] ([⟨0, some [oref 1 1 0 (a3.length + 1), oref 2 1 0 (a4.length + 1), f32 a2]⟩, ⟨1, some ((L26 ++ ([x13] : List F)).map f32)⟩, ⟨1, some ((a4 ++ ([x13] : List F)).map f32)⟩, ⟨2, some (([x13] : List F).map f32)⟩, ⟨1, some (([x13] : List F).map f32)⟩]) siz26<|zN ?_
        refine RAny.done (by kernel_rfl) ?_
        exact ⟨⟨aR, aR, aR, aR, aR, aR, aR, aR, aR, aR, aR, aR, aR, aR, aR, aR, aR, aR, aR, aR, aR, aR, trivial⟩, ⟨⟨rfl, .inr rfl⟩, ⟨rfl, .inr rfl⟩, ⟨rfl, .inr rfl⟩, ⟨rfl, .inr rfl⟩, ⟨rfl, .inr rfl⟩, trivial⟩⟩
     ·refine yd rfl (oref 2 0 0 a4.length) (TOp.load1_o rfl rfl agg26 rfl rfl)<|zN ?_
      refine RAny.more (i0 := 7) (l := [14]) (by kernel_rfl) (RAnys.cons rfl ?_ (RAnys.cons rfl ?_ RAnys.nil))
      ·refine ye rfl (oref 3 2 0 1) ([⟨0, some [oref 1 0 0 a3.length, oref 2 0 0 a4.length, f32 a2]⟩, ⟨0, some (L26.map f32)⟩, ⟨0, some (a4.map f32)⟩, ⟨2, some (([x13] : List F).map f32)⟩, ⟨0, none⟩]) (TOp.buildSlice_o (g := ⟨1, none⟩) (za := f32 (some 0)) (qs := [(0, [f32 x13])]) 3 rfl und26 siz28 zer28 rfl zel28 rfl rfl ⟨rfl, ⟨_, ALe.refl _, rfl⟩, trivial⟩ rfl)<|zN ?_
       refine RAny.more (i0 := 8) (l := [14]) (by kernel_rfl) (RAnys.cons rfl ?_ (RAnys.cons rfl ?_ RAnys.nil))
       ·refine ROps.app (f := f32) (xs := L26) (ys := ([x13] : List F)) (Γ' := [⟨0, some [oref 1 0 0 a3.length, oref 2 0 0 a4.length, f32 a2]⟩, ⟨1, some ((L26 ++ ([x13] : List F)).map f32)⟩, ⟨0, some (a4.map f32)⟩, ⟨2, some (([x13] : List F).map f32)⟩, ⟨0, none⟩]) rfl pun26 inf28 rfl rfl rfl rfl rfl rfl rfl rfl rfl (by simp [hl27]) (ReadAs.own rfl (by simp)) (ones_map (fun _ => rfl)) (ap_by hm22) (ap_mx hm22) rfl<|zN ?_
        refine RAny.more (i0 := 14) (l := []) (by kernel_rfl) (RAnys.cons rfl ?_ RAnys.nil)
        refine ye rfl (oref 4 1 0 1) ([⟨0, some [oref 1 0 0 a3.length, oref 2 0 0 a4.length, f32 a2]⟩, ⟨1, some ((L26 ++ ([x13] : List F)).map f32)⟩, ⟨0, some (a4.map f32)⟩, ⟨2, some (([x13] : List F).map f32)⟩, ⟨1, some (([x13] : List F).map f32)⟩]) (TOp.buildSlice_o (g := ⟨0, none⟩) (za := f32 (some 0)) (qs := [(0, [f32 x13])]) 4 rfl und26 siz28 zer28 rfl zel28 rfl rfl ⟨rfl, ⟨_, ALe.refl _, rfl⟩, trivial⟩ rfl)<|zN ?_
        refine RAny.more (i0 := 15) (l := []) (by kernel_rfl) (RAnys.cons rfl ?_ RAnys.nil)
        refine ROps.app (f := f32) (xs := a4) (ys := ([x13] : List F)) (Γ' := [⟨0, some [oref 1 0 0 a3.length, oref 2 0 0 a4.length, f32 a2]⟩, ⟨1, some ((L26 ++ ([x13] : List F)).map f32)⟩, ⟨1, some ((a4 ++ ([x13] : List F)).map f32)⟩, ⟨2, some (([x13] : List F).map f32)⟩, ⟨1, some (([x13] : List F).map f32)⟩]) rfl pun26 inf28 rfl rfl rfl rfl rfl rfl rfl rfl rfl (by simp) (ReadAs.own rfl (by simp)) (ones_map (fun _ => rfl)) (ap_by hm23) (ap_mx hm23) rfl<|zN ?_
        refine RAny.take 16 (r := optr 0 0 0) rfl (by kernel_rfl) (by kernel_rfl) (by kernel_rfl) rfl rfl (POp.nilCheck_optr rfl rfl)<|RAny.take 17 (r := optr 0 0 0) rfl (by kernel_rfl) (by kernel_rfl) (by kernel_rfl) rfl rfl (POp.fao und93 rfl siz26 rfl rfl rfl) ?_
        refine RAny.more (i0 := 18) (l := []) (by kernel_rfl) (RAnys.cons rfl ?_ RAnys.nil)
        refine ys (oref 1 1 0 (a3.length + 1)) [oref 1 1 0 (a3.length + 1), oref 2 0 0 a4.length, f32 a2] ([⟨0, some [oref 1 1 0 (a3.length + 1), oref 2 0 0 a4.length, f32 a2]⟩, ⟨1, some ((L26 ++ ([x13] : List F)).map f32)⟩, ⟨1, some ((a4 ++ ([x13] : List F)).map f32)⟩, ⟨2, some (([x13] : List F).map f32)⟩, ⟨1, some (([x13] : List F).map f32)⟩]) siz26<|zN ?_
        refine RAny.take 19 (r := optr 0 0 0) rfl (by kernel_rfl) (by kernel_rfl) (by kernel_rfl) rfl rfl (POp.nilCheck_optr rfl rfl)<|RAny.take 20 (r := optr 0 0 1) rfl (by kernel_rfl) (by kernel_rfl) (by kernel_rfl) rfl rfl (POp.fao und93 rfl siz26 rfl rfl rfl) ?_
        refine RAny.more (i0 := 21) (l := []) (by kernel_rfl) (RAnys.cons rfl ?_ RAnys.nil)
        refine ys (oref 2 1 0 (a4.length + 1)) [oref 1 1 0 (a3.length + 1), oref 2 1 0 (a4.length + 1), f32 a2] ([⟨0, some [oref 1 1 0 (a3.length + 1), oref 2 1 0 (a4.length + 1), f32 a2]⟩, ⟨1, some ((L26 ++ ([x13] : List F)).map f32)⟩, ⟨1, some ((a4 ++ ([x13] : List F)).map f32)⟩, ⟨2, some (([x13] : List F).map f32)⟩, ⟨1, some (([x13] : List F).map f32)⟩]) siz26<|zN ?_
        refine RAny.done (by kernel_rfl) ?_
        exact ⟨⟨aR, aR, aR, aR, aR, aR, aR, aR, aR, aR, aR, aR, aR, aR, aR, aR, aR, aR, aR, aR, aR, aR, trivial⟩, ⟨⟨rfl, .inr rfl⟩, ⟨rfl, .inr rfl⟩, ⟨rfl, .inr rfl⟩, ⟨rfl, .inr rfl⟩, ⟨rfl, .inr rfl⟩, trivial⟩⟩
       ·refine ye rfl (oref 4 1 0 1) ([⟨0, some [oref 1 0 0 a3.length, oref 2 0 0 a4.length, f32 a2]⟩, ⟨0, some (L26.map f32)⟩, ⟨0, some (a4.map f32)⟩, ⟨2, some (([x13] : List F).map f32)⟩, ⟨1, some (([x13] : List F).map f32)⟩]) (TOp.buildSlice_o (g := ⟨0, none⟩) (za := f32 (some 0)) (qs := [(0, [f32 x13])]) 4 rfl und26 siz28 zer28 rfl zel28 rfl rfl ⟨rfl, ⟨_, ALe.refl _, rfl⟩, trivial⟩ rfl)<|zN ?_
        refine RAny.more (i0 := 8) (l := []) (by kernel_rfl) (RAnys.cons rfl ?_ RAnys.nil)
        refine ROps.app (f := f32) (xs := L26) (ys := ([x13] : List F)) (Γ' := [⟨0, some [oref 1 0 0 a3.length, oref 2 0 0 a4.length, f32 a2]⟩, ⟨1, some ((L26 ++ ([x13] : List F)).map f32)⟩, ⟨0, some (a4.map f32)⟩, ⟨2, some (([x13] : List F).map f32)⟩, ⟨1, some (([x13] : List F).map f32)⟩]) rfl pun26 inf28 rfl rfl rfl rfl rfl rfl rfl rfl rfl (by simp [hl27]) (ReadAs.own rfl (by simp)) (ones_map (fun _ => rfl)) (ap_by hm22) (ap_mx hm22) rfl<|zN ?_
        refine RAny.more (i0 := 15) (l := []) (by kernel_rfl) (RAnys.cons rfl ?_ RAnys.nil)
        refine ROps.app (f := f32) (xs := a4) (ys := ([x13] : List F)) (Γ' := [⟨0, some [oref 1 0 0 a3.length, oref 2 0 0 a4.length, f32 a2]⟩, ⟨1, some ((L26 ++ ([x13] : List F)).map f32)⟩, ⟨1, some ((a4 ++ ([x13] : List F)).map f32)⟩, ⟨2, some (([x13] : List F).map f32)⟩, ⟨1, some (([x13] : List F).map f32)⟩]) rfl pun26 inf28 rfl rfl rfl rfl rfl rfl rfl rfl rfl (by simp) (ReadAs.own rfl (by simp)) (ones_map (fun _ => rfl)) (ap_by hm23) (ap_mx hm23) rfl<|zN ?_
        refine RAny.take 16 (r := optr 0 0 0) rfl (by kernel_rfl) (by kernel_rfl) (by kernel_rfl) rfl rfl (POp.nilCheck_optr rfl rfl)<|RAny.take 17 (r := optr 0 0 0) rfl (by kernel_rfl) (by kernel_rfl) (by kernel_rfl) rfl rfl (POp.fao und93 rfl siz26 rfl rfl rfl) ?_
        refine RAny.more (i0 := 18) (l := []) (by kernel_rfl) (RAnys.cons rfl ?_ RAnys.nil)
        refine ys (oref 1 1 0 (a3.length + 1)) [oref 1 1 0 (a3.length + 1), oref 2 0 0 a4.length, f32 a2] ([⟨0, some [oref 1 1 0 (a3.length + 1), oref 2 0 0 a4.length, f32 a2]⟩, ⟨1, some ((L26 ++ ([x13] : List F)).map f32)⟩, ⟨1, some ((a4 ++ ([x13] : List F)).map f32)⟩, ⟨2, some (([x13] : List F).map f32)⟩, ⟨1, some (([x13] : List F).map f32)⟩]) siz26<|zN ?_
        refine RAny.take 19 (r := optr 0 0 0) rfl (by kernel_rfl) (by kernel_rfl) (by kernel_rfl) rfl rfl (POp.nilCheck_optr rfl rfl)<|RAny.take 20 (r := optr 0 0 1) rfl (by kernel_rfl) (by kernel_rfl) (by kernel_rfl) rfl rfl (POp.fao und93 rfl siz26 rfl rfl rfl) ?_
        refine RAny.more (i0 := 21) (l := []) (by kernel_rfl) (RAnys.cons rfl ?_ RAnys.nil)
        refine ys (oref 2 1 0 (a4.length + 1)) [oref 1 1 0 (a3.length + 1), oref 2 1 0 (a4.length + 1), f32 a2] ([⟨0, some [oref 1 1 0 (a3.length + 1), oref 2 1 0 (a4.length + 1), f32 a2]⟩, ⟨1, some ((L26 ++ ([x13] : List F)).map f32)⟩, ⟨1, some ((a4 ++ ([x13] : List F)).map f32)⟩, ⟨2, some (([x13] : List F).map f32)⟩, ⟨1, some (([x13] : List F).map f32)⟩]) siz26<|zN ?_
        refine RAny.done (by kernel_rfl) ?_
        exact ⟨⟨aR, aR, aR, aR, aR, aR, aR, aR, aR, aR, aR, aR, aR, aR, aR, aR, aR, aR, aR, aR, aR, aR, trivial⟩, ⟨⟨rfl, .inr rfl⟩, ⟨rfl, .inr rfl⟩, ⟨rfl, .inr rfl⟩, ⟨rfl, .inr rfl⟩, ⟨rfl, .inr rfl⟩, trivial⟩⟩
      ·refine ye rfl (oref 4 1 0 1) ([⟨0, some [oref 1 0 0 a3.length, oref 2 0 0 a4.length, f32 a2]⟩, ⟨0, some (L26.map f32)⟩, ⟨0, some (a4.map f32)⟩, ⟨1, none⟩, ⟨1, some (([x13] : List F).map f32)⟩]) (TOp.buildSlice_o (g := ⟨0, none⟩) (za := f32 (some 0)) (qs := [(0, [f32 x13])]) 4 rfl und26 siz28 zer28 rfl zel28 rfl rfl ⟨rfl, ⟨_, ALe.refl _, rfl⟩, trivial⟩ rfl)<|zN ?_
       refine RAny.more (i0 := 7) (l := []) (by kernel_rfl) (RAnys.cons rfl ?_ RAnys.nil)
       refine ye rfl (oref 3 2 0 1) ([⟨0, some [oref 1 0 0 a3.length, oref 2 0 0 a4.length, f32 a2]⟩, ⟨0, some (L26.map f32)⟩, ⟨0, some (a4.map f32)⟩, ⟨2, some (([x13] : List F).map f32)⟩, ⟨1, some (([x13] : List F).map f32)⟩]) (TOp.buildSlice_o (g := ⟨1, none⟩) (za := f32 (some 0)) (qs := [(0, [f32 x13])]) 3 rfl und26 siz28 zer28 rfl zel28 rfl rfl ⟨rfl, ⟨_, ALe.refl _, rfl⟩, trivial⟩ rfl)<|zN ?_
       refine RAny.more (i0 := 8) (l := []) (by kernel_rfl) (RAnys.cons rfl ?_ RAnys.nil)
       refine ROps.app (f := f32) (xs := L26) (ys := ([x13] : List F)) (Γ' := [⟨0, some [oref 1 0 0 a3.length, oref 2 0 0 a4.length, f32 a2]⟩, ⟨1, some ((L26 ++ ([x13] : List F)).map f32)⟩, ⟨0, some (a4.map f32)⟩, ⟨2, some (([x13] : List F).map f32)⟩, ⟨1, some (([x13] : List F).map f32)⟩]) rfl pun26 inf28 rfl rfl rfl rfl rfl rfl rfl rfl rfl (by simp [hl27]) (ReadAs.own rfl (by simp)) (ones_map (fun _ => rfl)) (ap_by hm22) (ap_mx hm22) rfl<|zN ?_
       refine RAny.more (i0 := 15) (l := []) (by kernel_rfl) (RAnys.cons rfl ?_ RAnys.nil)
       refine ROps.app (f := f32) (xs := a4) (ys := ([x13] : List F)) (Γ' := [⟨0, some [oref 1 0 0 a3.length, oref 2 0 0 a4.length, f32 a2]⟩, ⟨1, some ((L26 ++ ([x13] : List F)).map f32)⟩, ⟨1, some ((a4 ++ ([x13] : List F)).map f32)⟩, ⟨2, some (([x13] : List F).map f32)⟩, ⟨1, some (([x13] : List F).map f32)⟩]) rfl pun26 inf28 rfl rfl rfl rfl rfl rfl rfl rfl rfl (by simp) (ReadAs.own rfl (by simp)) (ones_map (fun _ => rfl)) (ap_by hm23) (ap_mx hm23) rfl<|zN ?_
       refine RAny.take 16 (r := optr 0 0 0) rfl (by kernel_rfl) (by kernel_rfl) (by kernel_rfl) rfl rfl (POp.nilCheck_optr rfl rfl)<|RAny.take 17 (r := optr 0 0 0) rfl (by kernel_rfl) (by kernel_rfl) (by kernel_rfl) rfl rfl (POp.fao und93 rfl siz26 rfl rfl rfl) ?_
       refine RAny.more (i0 := 18) (l := []) (by kernel_rfl) (RAnys.cons rfl ?_ RAnys.nil)
       refine ys (oref 1 1 0 (a3.length + 1)) [oref 1 1 0 (a3.length + 1), oref 2 0 0 a4.length, f32 a2] ([⟨0, some [oref 1 1 0 (a3.length + 1), oref 2 0 0 a4.length, f32 a2]⟩, ⟨1, some ((L26 ++ ([x13] : List F)).map f32)⟩, ⟨1, some ((a4 ++ ([x13] : List F)).map f32)⟩, ⟨2, some (([x13] : List F).map f32)⟩, ⟨1, some (([x13] : List F).map f32)⟩]) siz26<|zN ?_
       refine RAny.take 19 (r := optr 0 0 0) rfl (by kernel_rfl) (by kernel_rfl) (by kernel_rfl) rfl rfl (POp.nilCheck_optr rfl rfl)<|RAny.take 20 (r := optr 0 0 1) rfl (by kernel_rfl) (by kernel_rfl) (by kernel_rfl) rfl rfl (POp.fao und93 rfl siz26 rfl rfl rfl) ?_
       refine RAny.more (i0 := 21) (l := []) (by kernel_rfl) (RAnys.cons rfl ?_ RAnys.nil)
       refine ys (oref 2 1 0 (a4.length + 1)) [oref 1 1 0 (a3.length + 1), oref 2 1 0 (a4.length + 1), f32 a2] ([⟨0, some [oref 1 1 0 (a3.length + 1), oref 2 1 0 (a4.length + 1), f32 a2]⟩, ⟨1, some ((L26 ++ ([x13] : List F)).map f32)⟩, ⟨1, some ((a4 ++ ([x13] : List F)).map f32)⟩, ⟨2, some (([x13] : List F).map f32)⟩, ⟨1, some (([x13] : List F).map f32)⟩]) siz26<|zN ?_
       refine RAny.done (by kernel_rfl) ?_
       exact ⟨⟨aR, aR, aR, aR, aR, aR, aR, aR, aR, aR, aR, aR, aR, aR, aR, aR, aR, aR, aR, aR, aR, aR, trivial⟩, ⟨⟨rfl, .inr rfl⟩, ⟨rfl, .inr rfl⟩, ⟨rfl, .inr rfl⟩, ⟨rfl, .inr rfl⟩, ⟨rfl, .inr rfl⟩, trivial⟩⟩
     ·refine ye rfl (oref 4 1 0 1) ([⟨0, some [oref 1 0 0 a3.length, oref 2 0 0 a4.length, f32 a2]⟩, ⟨0, some (L26.map f32)⟩, ⟨0, some (a4.map f32)⟩, ⟨1, none⟩, ⟨1, some (([x13] : List F).map f32)⟩]) (TOp.buildSlice_o (g := ⟨0, none⟩) (za := f32 (some 0)) (qs := [(0, [f32 x13])]) 4 rfl und26 siz28 zer28 rfl zel28 rfl rfl ⟨rfl, ⟨_, ALe.refl _, rfl⟩, trivial⟩ rfl)<|zN ?_
      refine RAny.more (i0 := 7) (l := [12]) (by kernel_rfl) (RAnys.cons rfl ?_ (RAnys.cons rfl ?_ RAnys.nil))
      ·refine ye rfl (oref 3 2 0 1) ([⟨0, some [oref 1 0 0 a3.length, oref 2 0 0 a4.length, f32 a2]⟩, ⟨0, some (L26.map f32)⟩, ⟨0, some (a4.map f32)⟩, ⟨2, some (([x13] : List F).map f32)⟩, ⟨1, some (([x13] : List F).map f32)⟩]) (TOp.buildSlice_o (g := ⟨1, none⟩) (za := f32 (some 0)) (qs := [(0, [f32 x13])]) 3 rfl und26 siz28 zer28 rfl zel28 rfl rfl ⟨rfl, ⟨_, ALe.refl _, rfl⟩, trivial⟩ rfl)<|zN ?_
       refine RAny.more (i0 := 8) (l := [12]) (by kernel_rfl) (RAnys.cons rfl ?_ (RAnys.cons rfl ?_ RAnys.nil))
       ·refine ROps.app (f := f32) (xs := L26) (ys := ([x13] : List F)) (Γ' := [⟨0, some [oref 1 0 0 a3.length, oref 2 0 0 a4.length, f32 a2]⟩, ⟨1, some ((L26 ++ ([x13] : List F)).map f32)⟩, ⟨0, some (a4.map f32)⟩, ⟨2, some (([x13] : List F).map f32)⟩, ⟨1, some (([x13] : List F).map f32)⟩]) rfl pun26 inf28 rfl rfl rfl rfl rfl rfl rfl rfl rfl (by simp [hl27]) (ReadAs.own rfl (by simp)) (ones_map (fun _ => rfl)) (ap_by hm22) (ap_mx hm22) rfl<|zN ?_
        refine RAny.more (i0 := 12) (l := []) (by kernel_rfl) (RAnys.cons rfl ?_ RAnys.nil)
        refine yd rfl (oref 2 0 0 a4.length) (TOp.load1_o rfl rfl agg26 rfl rfl)<|zN ?_
        refine RAny.more (i0 := 15) (l := []) (by kernel_rfl) (RAnys.cons rfl ?_ RAnys.nil)
        refine ROps.app (f := f32) (xs := a4) (ys := ([x13] : List F)) (Γ' := [⟨0, some [oref 1 0 0 a3.length, oref 2 0 0 a4.length, f32 a2]⟩, ⟨1, some ((L26 ++ ([x13] : List F)).map f32)⟩, ⟨1, some ((a4 ++ ([x13] : List F)).map f32)⟩, ⟨2, some (([x13] : List F).map f32)⟩, ⟨1, some (([x13] : List F).map f32)⟩]) rfl pun26 inf28 rfl rfl rfl rfl rfl rfl rfl rfl rfl (by simp) (ReadAs.own rfl (by simp)) (ones_map (fun _ => rfl)) (ap_by hm23) (ap_mx hm23) rfl<|zN ?_
        refine RAny.take 16 (r := optr 0 0 0) rfl (by kernel_rfl) (by kernel_rfl) (by kernel_rfl) rfl rfl (POp.nilCheck_optr rfl rfl)<|RAny.take 17 (r := optr 0 0 0) rfl (by kernel_rfl) (by kernel_rfl) (by kernel_rfl) rfl rfl (POp.fao und93 rfl siz26 rfl rfl rfl) ?_
        refine RAny.more (i0 := 18) (l := []) (by kernel_rfl) (RAnys.cons rfl ?_ RAnys.nil)
        refine ys (oref 1 1 0 (a3.length + 1)) [oref 1 1 0 (a3.length + 1), oref 2 0 0 a4.length, f32 a2] ([⟨0, some [oref 1 1 0 (a3.length + 1), oref 2 0 0 a4.length, f32 a2]⟩, ⟨1, some ((L26 ++ ([x13] : List F)).map f32)⟩, ⟨1, some ((a4 ++ ([x13] : List F)).map f32)⟩, ⟨2, some (([x13] : List F).map f32)⟩, ⟨1, some (([x13] : List F).map f32)⟩]) siz26<|zN ?_
        refine RAny.take 19 (r := optr 0 0 0) rfl (by kernel_rfl) (by kernel_rfl) (by kernel_rfl) rfl rfl (POp.nilCheck_optr rfl rfl)<|RAny.take 20 (r := optr 0 0 1) rfl (by kernel_rfl) (by kernel_rfl) (by kernel_rfl) rfl rfl (POp.fao und93 rfl siz26 rfl rfl rfl) ?_
        refine RAny.more (i0 := 21) (l := []) (by kernel_rfl) (RAnys.cons rfl ?_ RAnys.nil)
        refine ys (oref 2 1 0 (a4.length + 1)) [oref 1 1 0 (a3.length + 1), oref 2 1 0 (a4.length + 1), f32 a2] ([⟨0, some [oref 1 1 0 (a3.length + 1), oref 2 1 0 (a4.length + 1), f32 a2]⟩, ⟨1, some ((L26 ++ ([x13] : List F)).map f32)⟩, ⟨1, some ((a4 ++ ([x13] : List F)).map f32)⟩, ⟨2, some (([x13] : List F).map f32)⟩, ⟨1, some (([x13] : List F).map f32)⟩]) siz26<|zN ?_
        refine RAny.done (by kernel_rfl) ?_
        exact ⟨⟨aR, aR, aR, aR, aR, aR, aR, aR, aR, aR, aR, aR, aR, aR, aR, aR, aR, aR, aR, aR, aR, aR, trivial⟩, ⟨⟨rfl, .inr rfl⟩, ⟨rfl, .inr rfl⟩, ⟨rfl, .inr rfl⟩, ⟨rfl, .inr rfl⟩, ⟨rfl, .inr rfl⟩, trivial⟩⟩
       ·refine yd rfl (oref 2 0 0 a4.length) (TOp.load1_o rfl rfl agg26 rfl rfl)<|zN ?_
        refine RAny.more (i0 := 8) (l := []) (by kernel_rfl) (RAnys.cons rfl ?_ RAnys.nil)
        refine ROps.app (f := f32) (xs := L26) (ys := ([x13] : List F)) (Γ' := [⟨0, some [oref 1 0 0 a3.length, oref 2 0 0 a4.length, f32 a2]⟩, ⟨1, some ((L26 ++ ([x13] : List F)).map f32)⟩, ⟨0, some (a4.map f32)⟩, ⟨2, some (([x13] : List F).map f32)⟩, ⟨1, some (([x13] : List F).map f32)⟩]) rfl pun26 inf28 rfl rfl rfl rfl rfl rfl rfl rfl rfl (by simp [hl27]) (ReadAs.own rfl (by simp)) (ones_map (fun _ => rfl)) (ap_by hm22) (ap_mx hm22) rfl<|zN ?_
        refine RAny.more (i0 := 15) (l := []) (by kernel_rfl) (RAnys.cons rfl ?_ RAnys.nil)
        refine ROps.app (f := f32) (xs := a4) (ys := ([x13] : List F)) (Γ' := [⟨0, some [oref 1 0 0 a3.length, oref 2 0 0 a4.length, f32 a2]⟩, ⟨1, some ((L26 ++ ([x13] : List F)).map f32)⟩, ⟨1, some ((a4 ++ ([x13] : List F)).map f32)⟩, ⟨2, some (([x13] : List F).map f32)⟩, ⟨1, some (([x13] : List F).map f32)⟩]) rfl pun26 inf28 rfl rfl rfl rfl rfl rfl rfl rfl rfl (by simp) (ReadAs.own rfl (by simp)) (ones_map (fun _ => rfl)) (ap_by hm23) (ap_mx hm23) rfl<|zN ?_
        refine RAny.take 16 (r := optr 0 0 0) rfl (by kernel_rfl) (by kernel_rfl) (by kernel_rfl) rfl rfl (POp.nilCheck_optr rfl rfl)<|RAny.take 17 (r := optr 0 0 0) rfl (by kernel_rfl) (by kernel_rfl) (by kernel_rfl) rfl rfl (POp.fao und93 rfl siz26 rfl rfl rfl) ?_
        refine RAny.more (i0 := 18) (l := []) (by kernel_rfl) (RAnys.cons rfl ?_ RAnys.nil)
        refine ys (oref 1 1 0 (a3.length + 1)) [oref 1 1 0 (a3.length + 1), oref 2 0 0 a4.length, f32 a2] ([⟨0, some [oref 1 1 0 (a3.length + 1), oref 2 0 0 a4.length, f32 a2]⟩, ⟨1, some ((L26 ++ ([x13] : List F)).map f32)⟩, ⟨1, some ((a4 ++ ([x13] : List F)).map f32)⟩, ⟨2, some (([x13] : List F).map f32)⟩, ⟨1, some (([x13] : List F).map f32)⟩]) siz26<|zN ?_
        refine RAny.take 19 (r := optr 0 0 0) rfl (by kernel_rfl) (by kernel_rfl) (by kernel_rfl) rfl rfl (POp.nilCheck_optr rfl rfl)<|RAny.take 20 (r := optr 0 0 1) rfl (by kernel_rfl) (by kernel_rfl) (by kernel_rfl) rfl rfl (POp.fao und93 rfl siz26 rfl rfl rfl) ?_
        refine RAny.more (i0 := 21) (l := []) (by kernel_rfl) (RAnys.cons rfl ?_ RAnys.nil)
        refine ys (oref 2 1 0 (a4.length + 1)) [oref 1 1 0 (a3.length + 1), oref 2 1 0 (a4.length + 1), f32 a2] ([⟨0, some [oref 1 1 0 (a3.length + 1), oref 2 1 0 (a4.length + 1), f32 a2]⟩, ⟨1, some ((L26 ++ ([x13] : List F)).map f32)⟩, ⟨1, some ((a4 ++ ([x13] : List F)).map f32)⟩, ⟨2, some (([x13] : List F).map f32)⟩, ⟨1, some (([x13] : List F).map f32)⟩]) siz26<|zN ?_
        refine RAny.done (by kernel_rfl) ?_
        exact ⟨⟨aR, aR, aR, aR, aR, aR, aR, aR, aR, aR, aR, aR, aR, aR, aR, aR, aR, aR, aR, aR, aR, aR, trivial⟩, ⟨⟨rfl, .inr rfl⟩, ⟨rfl, .inr rfl⟩, ⟨rfl, .inr rfl⟩, ⟨rfl, .inr rfl⟩, ⟨rfl, .inr rfl⟩, trivial⟩⟩
      ·refine yd rfl (oref 2 0 0 a4.length) (TOp.load1_o rfl rfl agg26 rfl rfl)<|zN ?_
       refine RAny.more (i0 := 7) (l := []) (by kernel_rfl) (RAnys.cons rfl ?_ RAnys.nil)
       refine ye rfl (oref 3 2 0 1) ([⟨0, some [oref 1 0 0 a3.length, oref 2 0 0 a4.length, f32 a2]⟩, ⟨0, some (L26.map f32)⟩, ⟨0, some (a4.map f32)⟩, ⟨2, some (([x13] : List F).map f32)⟩, ⟨1, some (([x13] : List F).map f32)⟩]) (TOp.buildSlice_o (g := ⟨1, none⟩) (za := f32 (some 0)) (qs := [(0, [f32 x13])]) 3 rfl und26 siz28 zer28 rfl zel28 rfl rfl ⟨rfl, ⟨_, ALe.refl _, rfl⟩, trivial⟩ rfl)<|zN ?_
       refine RAny.more (i0 := 8) (l := []) (by kernel_rfl) (RAnys.cons rfl ?_ RAnys.nil)
       refine ROps.app (f := f32) (xs := L26) (ys := ([x13] : List F)) (Γ' := [⟨0, some [oref 1 0 0 a3.length, oref 2 0 0 a4.length, f32 a2]⟩, ⟨1, some ((L26 ++ ([x13] : List F)).map f32)⟩, ⟨0, some (a4.map f32)⟩, ⟨2, some (([x13] : List F).map f32)⟩, ⟨1, some (([x13] : List F).map f32)⟩]) rfl pun26 inf28 rfl rfl rfl rfl rfl rfl rfl rfl rfl (by simp [hl27]) (ReadAs.own rfl (by simp)) (ones_map (fun _ => rfl)) (ap_by hm22) (ap_mx hm22) rfl<|zN ?_
       refine RAny.more (i0 := 15) (l := []) (by kernel_rfl) (RAnys.cons rfl ?_ RAnys.nil)
       refine ROps.app (f := f32) (xs := a4) (ys := ([x13] : List F)) (Γ' := [⟨0, some [oref 1 0 0 a3.length, oref 2 0 0 a4.length, f32 a2]⟩, ⟨1, some ((L26 ++ ([x13] : List F)).map f32)⟩, ⟨1, some ((a4 ++ ([x13] : List F)).map f32)⟩, ⟨2, some (([x13] : List F).map f32)⟩, ⟨1, some (([x13] : List F).map f32)⟩]) rfl pun26 inf28 rfl rfl rfl rfl rfl rfl rfl rfl rfl (by simp) (ReadAs.own rfl (by simp)) (ones_map (fun _ => rfl)) (ap_by hm23) (ap_mx hm23) rfl<|zN ?_
       refine RAny.take 16 (r := optr 0 0 0) rfl (by kernel_rfl) (by kernel_rfl) (by kernel_rfl) rfl rfl (POp.nilCheck_optr rfl rfl)<|RAny.take 17 (r := optr 0 0 0) rfl (by kernel_rfl) (by kernel_rfl) (by kernel_rfl) rfl rfl (POp.fao und93 rfl siz26 rfl rfl rfl) ?_
       refine RAny.more (i0 := 18) (l := []) (by kernel_rfl) (RAnys.cons rfl ?_ RAnys.nil)
       refine ys (oref 1 1 0 (a3.length + 1)) [oref 1 1 0 (a3.length + 1), oref 2 0 0 a4.length, f32 a2] ([⟨0, some [oref 1 1 0 (a3.length + 1), oref 2 0 0 a4.length, f32 a2]⟩, ⟨1, some ((L26 ++ ([x13] : List F)).map f32)⟩, ⟨1, some ((a4 ++ ([x13] : List F)).map f32)⟩, ⟨2, some (([x13] : List F).map f32)⟩, ⟨1, some (([x13] : List F).map f32)⟩]) siz26<|zN ?_
       refine RAny.take 19 (r := optr 0 0 0) rfl (by kernel_rfl) (by kernel_rfl) (by kernel_rfl) rfl rfl (POp.nilCheck_optr rfl rfl)<|RAny.take 20 (r := optr 0 0 1) rfl (by kernel_rfl) (by kernel_rfl) (by kernel_rfl) rfl rfl (POp.fao und93 rfl siz26 rfl rfl rfl) ?_
       refine RAny.more (i0 := 21) (l := []) (by kernel_rfl) (RAnys.cons rfl ?_ RAnys.nil)
       refine ys (oref 2 1 0 (a4.length + 1)) [oref 1 1 0 (a3.length + 1), oref 2 1 0 (a4.length + 1), f32 a2] ([⟨0, some [oref 1 1 0 (a3.length + 1), oref 2 1 0 (a4.length + 1), f32 a2]⟩, ⟨1, some ((L26 ++ ([x13] : List F)).map f32)⟩, ⟨1, some ((a4 ++ ([x13] : List F)).map f32)⟩, ⟨2, some (([x13] : List F).map f32)⟩, ⟨1, some (([x13] : List F).map f32)⟩]) siz26<|zN ?_
       refine RAny.done (by kernel_rfl) ?_
       exact ⟨⟨aR, aR, aR, aR, aR, aR, aR, aR, aR, aR, aR, aR, aR, aR, aR, aR, aR, aR, aR, aR, aR, aR, trivial⟩, ⟨⟨rfl, .inr rfl⟩, ⟨rfl, .inr rfl⟩, ⟨rfl, .inr rfl⟩, ⟨rfl, .inr rfl⟩, ⟨rfl, .inr rfl⟩, trivial⟩⟩
    ·refine ye rfl (oref 3 2 0 1) ([⟨0, some [oref 1 0 0 a3.length, oref 2 0 0 a4.length, f32 a2]⟩, ⟨0, some (L26.map f32)⟩, ⟨0, some (a4.map f32)⟩, ⟨2, some (([x13] : List F).map f32)⟩, ⟨0, none⟩]) (TOp.buildSlice_o (g := ⟨1, none⟩) (za := f32 (some 0)) (qs := [(0, [f32 x13])]) 3 rfl und26 siz28 zer28 rfl zel28 rfl rfl ⟨rfl, ⟨_, ALe.refl _, rfl⟩, trivial⟩ rfl)<|zN ?_
     refine RAny.more (i0 := 5) (l := [12, 14]) (by kernel_rfl) (RAnys.cons rfl ?_ (RAnys.cons rfl ?_ (RAnys.cons rfl ?_ RAnys.nil)))
     ·refine yd rfl (oref 1 0 0 a3.length) (TOp.load1_o rfl rfl agg26 rfl rfl)<|zN ?_
      refine RAny.more (i0 := 8) (l := [12, 14]) (by kernel_rfl) (RAnys.cons rfl ?_ (RAnys.cons rfl ?_ (RAnys.cons rfl ?_ RAnys.nil)))
      ·refine ROps.app (f := f32) (xs := L26) (ys := ([x13] : List F)) (Γ' := [⟨0, some [oref 1 0 0 a3.length, oref 2 0 0 a4.length, f32 a2]⟩, ⟨1, some ((L26 ++ ([x13] : List F)).map f32)⟩, ⟨0, some (a4.map f32)⟩, ⟨2, some (([x13] : List F).map f32)⟩, ⟨0, none⟩]) rfl pun26 inf28 rfl rfl rfl rfl rfl rfl rfl rfl rfl (by simp [hl27]) (ReadAs.own rfl (by simp)) (ones_map (fun _ => rfl)) (ap_by hm22) (ap_mx hm22) rfl<|zN ?_
       refine RAny.more (i0 := 12) (l := [14]) (by kernel_rfl) (RAnys.cons rfl ?_ (RAnys.cons rfl ?_ RAnys.nil))
       ·refine yd rfl (oref 2 0 0 a4.length) (TOp.load1_o rfl rfl agg26 rfl rfl)<|zN ?_
        refine RAny.more (i0 := 14) (l := []) (by kernel_rfl) (RAnys.cons rfl ?_ RAnys.nil)
        refine ye rfl (oref 4 1 0 1) ([⟨0, some [oref 1 0 0 a3.length, oref 2 0 0 a4.length, f32 a2]⟩, ⟨1, some ((L26 ++ ([x13] : List F)).map f32)⟩, ⟨0, some (a4.map f32)⟩, ⟨2, some (([x13] : List F).map f32)⟩, ⟨1, some (([x13] : List F).map f32)⟩]) (TOp.buildSlice_o (g := ⟨0, none⟩) (za := f32 (some 0)) (qs := [(0, [f32 x13])]) 4 rfl und26 siz28 zer28 rfl zel28 rfl rfl ⟨rfl, ⟨_, ALe.refl _, rfl⟩, trivial⟩ rfl)<|zN ?_
        refine RAny.more (i0 := 15) (l := []) (by kernel_rfl) (RAnys.cons rfl ?_ RAnys.nil)
        refine ROps.app (f := f32) (xs := a4) (ys := ([x13] : List F)) (Γ' := [⟨0, some [oref 1 0 0 a3.length, oref 2 0 0 a4.length, f32 a2]⟩, ⟨1, some ((L26 ++ ([x13] : List F)).map f32)⟩, ⟨1, some ((a4 ++ ([x13] : List F)).map f32)⟩, ⟨2, some (([x13] : List F).map f32)⟩, ⟨1, some (([x13] : List F).map f32)⟩]) rfl pun26 inf28 rfl rfl rfl rfl rfl rfl rfl rfl rfl (by simp) (ReadAs.own rfl (by simp)) (ones_map (fun _ => rfl)) (ap_by hm23) (ap_mx hm23) rfl<|zN ?_
        refine RAny.take 16 (r := optr 0 0 0) rfl (by kernel_rfl) (by kernel_rfl) (by kernel_rfl) rfl rfl (POp.nilCheck_optr rfl rfl)<|RAny.take 17 (r := optr 0 0 0) rfl (by kernel_rfl) (by kernel_rfl) (by kernel_rfl) rfl rfl (POp.fao und93 rfl siz26 rfl rfl rfl) ?_
        refine RAny.more (i0 := 18) (l := []) (by kernel_rfl) (RAnys.cons rfl ?_ RAnys.nil)
        refine ys (oref 1 1 0 (a3.length + 1)) [oref 1 1 0 (a3.length + 1), oref 2 0 0 a4.length, f32 a2] ([⟨0, some [oref 1 1 0 (a3.length + 1), oref 2 0 0 a4.length, f32 a2]⟩, ⟨1, some ((L26 ++ ([x13] : List F)).map f32)⟩, ⟨1, some ((a4 ++ ([x13] : List F)).map f32)⟩, ⟨2, some (([x13] : List F).map f32)⟩, ⟨1, some (([x13] : List F).map f32)⟩]) siz26<|zN ?_
        refine RAny.take 19 (r := optr 0 0 0) rfl (by kernel_rfl) (by kernel_rfl) (by kernel_rfl) rfl rfl (POp.nilCheck_optr rfl rfl)<|RAny.take 20 (r := optr 0 0 1) rfl (by kernel_rfl) (by kernel_rfl) (by kernel_rfl) rfl rfl (POp.fao und93 rfl siz26 rfl rfl rfl) ?_
        refine RAny.more (i0 := 21) (l := []) (by kernel_rfl) (RAnys.cons rfl ?_ RAnys.nil)
        refine ys (oref 2 1 0 (a4.length + 1)) [oref 1 1 0 (a3.length + 1), oref 2 1 0 (a4.length + 1), f32 a2] ([⟨0, some [oref 1 1 0 (a3.length + 1), oref 2 1 0 (a4.length + 1), f32 a2]⟩, ⟨1, some ((L26 ++ ([x13] : List F)).map f32)⟩, ⟨1, some ((a4 ++ ([x13] : List F)).map f32)⟩, ⟨2, some (([x13] : List F).map f32)⟩, ⟨1, some (([x13] : List F).map f32)⟩]) siz26<|zN ?_
        refine RAny.done (by kernel_rfl) ?_
        exact ⟨⟨aR, aR, aR, aR, aR, aR, aR, aR, aR, aR, aR, aR, aR, aR, aR, aR, aR, aR, aR, aR, aR, aR, trivial⟩, ⟨⟨rfl, .inr rfl⟩, ⟨rfl, .inr rfl⟩, ⟨rfl, .inr rfl⟩, ⟨rfl, .inr rfl⟩, ⟨rfl, .inr rfl⟩, trivial⟩⟩
       ·refine ye rfl (oref 4 1 0 1) ([⟨0, some [oref 1 0 0 a3.length, oref 2 0 0 a4.length, f32 a2]⟩, ⟨1, some ((L26 ++ ([x13] : List F)).map f32)⟩, ⟨0, some (a4.map f32)⟩, ⟨2, some (([x13] : List F).map f32)⟩, ⟨1, some (([x13] : List F).map f32)⟩]) (TOp.buildSlice_o (g := ⟨0, none⟩) (za := f32 (some 0)) (qs := [(0, [f32 x13])]) 4 rfl und26 siz28 zer28 rfl zel28 rfl rfl ⟨rfl, ⟨_, ALe.refl _, rfl⟩, trivial⟩ rfl)<|zN ?_
        refine RAny.more (i0 := 12) (l := []) (by kernel_rfl) (RAnys.cons rfl ?_ RAnys.nil)
        refine yd rfl (oref 2 0 0 a4.length) (TOp.load1_o rfl rfl agg26 rfl rfl)<|zN ?_
        refine RAny.more (i0 := 15) (l := []) (by kernel_rfl) (RAnys.cons rfl ?_ RAnys.nil)
        refine ROps.app (f := f32) (xs := a4) (ys := ([x13] : List F)) (Γ' := [⟨0, some [oref 1 0 0 a3.length, oref 2 0 0 a4.length, f32 a2]⟩, ⟨1, some ((L26 ++ ([x13] : List F)).map f32)⟩, ⟨1, some ((a4 ++ ([x13] : List F)).map f32)⟩, ⟨2, some (([x13] : List F).map f32)⟩, ⟨1, some (([x13] : List F).map f32)⟩]) rfl pun26 inf28 rfl rfl rfl rfl rfl rfl rfl rfl rfl (by simp) (ReadAs.own rfl (by simp)) (ones_map (fun _ => rfl)) (ap_by hm23) (ap_mx hm23) rfl<|zN ?_
        refine RAny.take 16 (r := optr 0 0 0) rfl (by kernel_rfl) (by kernel_rfl) (by kernel_rfl) rfl rfl (POp.nilCheck_optr rfl rfl)<|RAny.take 17 (r := optr 0 0 0) rfl (by kernel_rfl) (by kernel_rfl) (by kernel_rfl) rfl rfl (POp.fao und93 rfl siz26 rfl rfl rfl) ?_
        refine RAny.more (i0 := 18) (l := []) (by kernel_rfl) (RAnys.cons rfl ?_ RAnys.nil)
        refine ys (oref 1 1 0 (a3.length + 1)) [oref 1 1 0 (a3.length + 1), oref 2 0 0 a4.length, f32 a2] ([⟨0, some [oref 1 1 0 (a3.length + 1), oref 2 0 0 a4.length, f32 a2]⟩, ⟨1, some ((L26 ++ ([x13] : List F)).map f32)⟩, ⟨1, some ((a4 ++ ([x13] : List F)).map f32)⟩, ⟨2, some (([x13] : List F).map f32)⟩, ⟨1, some (([x13] : List F).map f32)⟩]) siz26<|zN ?_
        refine RAny.take 19 (r := optr 0 0 0) rfl (by kernel_rfl) (by kernel_rfl) (by kernel_rfl) rfl rfl (POp.nilCheck_optr rfl rfl)<|RAny.take 20 (r := optr 0 0 1) rfl (by kernel_rfl) (by kernel_rfl) (by kernel_rfl) rfl rfl (POp.fao und93 rfl siz26 rfl rfl rfl) ?_
        refine RAny.more (i0 := 21) (l := []) (by kernel_rfl) (RAnys.cons rfl ?_ RAnys.nil)
        refine ys (oref 2 1 0 (a4.length + 1)) [oref 1 1 0 (a3.length + 1), oref 2 1 0 (a4.length + 1), f32 a2] ([⟨0, some [oref 1 1 0 (a3.length + 1), oref 2 1 0 (a4.length + 1), f32 a2]⟩, ⟨1, some ((L26 ++ ([x13] : List F)).map f32)⟩, ⟨1, some ((a4 ++ ([x13] : List F)).map f32)⟩, ⟨2, some (([x13] : List F).map f32)⟩, ⟨1, some (([x13] : List F).map f32)⟩]) siz26<|zN ?_
        refine RAny.done (by kernel_rfl) ?_
        exact ⟨⟨aR, aR, aR, aR, aR, aR, aR, aR, aR, aR, aR, aR, aR, aR, aR, aR, aR, aR, aR, aR, aR, aR, trivial⟩, ⟨⟨rfl, .inr rfl⟩, ⟨rfl, .inr rfl⟩, ⟨rfl, .inr rfl⟩, ⟨rfl, .inr rfl⟩, ⟨rfl, .inr rfl⟩, trivial⟩⟩
      ·refine yd rfl (oref 2 0 0 a4.length) (TOp.load1_o rfl rfl agg26 rfl rfl)<|zN ?_
       refine RAny.more (i0 := 8) (l := [14]) (by kernel_rfl) (RAnys.cons rfl ?_ (RAnys.cons rfl ?_ RAnys.nil))
       ·refine ROps.app (f := f32) (xs := L26) (ys := ([x13] : List F)) (Γ' := [⟨0, some [oref 1 0 0 a3.length, oref 2 0 0 a4.length, f32 a2]⟩, ⟨1, some ((L26 ++ ([x13] : List F)).map f32)⟩, ⟨0, some (a4.map f32)⟩, ⟨2, some (([x13] : List F).map f32)⟩, ⟨0, none⟩]) rfl pun26 inf28 rfl rfl rfl rfl rfl rfl rfl rfl rfl (by simp [hl27]) (ReadAs.own rfl (by simp)) (ones_map (fun _ => rfl)) (ap_by hm22) (ap_mx hm22) rfl<|zN ?_
        refine RAny.more (i0 := 14) (l := []) (by kernel_rfl) (RAnys.cons rfl ?_ RAnys.nil)
        refine ye rfl (oref 4 1 0 1) ([⟨0, some [oref 1 0 0 a3.length, oref 2 0 0 a4.length, f32 a2]⟩, ⟨1, some ((L26 ++ ([x13] : List F)).map f32)⟩, ⟨0, some (a4.map f32)⟩, ⟨2, some (([x13] : List F).map f32)⟩, ⟨1, some (([x13] : List F).map f32)⟩]) (TOp.buildSlice_o (g := ⟨0, none⟩) (za := f32 (some 0)) (qs := [(0, [f32 x13])]) 4 rfl und26 siz28 zer28 rfl zel28 rfl rfl ⟨rfl, ⟨_, ALe.refl _, rfl⟩, trivial⟩ rfl)<|zN ?_
        refine RAny.more (i0 := 15) (l := []) (by kernel_rfl) (RAnys.cons rfl ?_ RAnys.nil)
        refine ROps.app (f := f32) (xs := a4) (ys := ([x13] : List F)) (Γ' := [⟨0, some [oref 1 0 0 a3.length, oref 2 0 0 a4.length, f32 a2]⟩, ⟨1, some ((L26 ++ ([x13] : List F)).map f32)⟩, ⟨1, some ((a4 ++ ([x13] : List F)).map f32)⟩, ⟨2, some (([x13] : List F).map f32)⟩, ⟨1, some (([x13] : List F).map f32)⟩]) rfl pun26 inf28 rfl rfl rfl rfl rfl rfl rfl rfl rfl (by simp) (ReadAs.own rfl (by simp)) (ones_map (fun _ => rfl)) (ap_by hm23) (ap_mx hm23) rfl<|zN ?_
        refine RAny.take 16 (r := optr 0 0 0) rfl (by kernel_rfl) (by kernel_rfl) (by kernel_rfl) rfl rfl (POp.nilCheck_optr rfl rfl)<|RAny.take 17 (r := optr 0 0 0) rfl (by kernel_rfl) (by kernel_rfl) (by kernel_rfl) rfl rfl (POp.fao und93 rfl siz26 rfl rfl rfl) ?_
        refine RAny.more (i0 := 18) (l := []) (by kernel_rfl) (RAnys.cons rfl ?_ RAnys.nil)
        refine ys (oref 1 1 0 (a3.length + 1)) [oref 1 1 0 (a3.length + 1), oref 2 0 0 a4.length, f32 a2] ([⟨0, some [oref 1 1 0 (a3.length + 1), oref 2 0 0 a4.length, f32 a2]⟩, ⟨1, some ((L26 ++ ([x13] : List F)).map f32)⟩, ⟨1, some ((a4 ++ ([x13] : List F)).map f32)⟩, ⟨2, some (([x13] : List F).map f32)⟩, ⟨1, some (([x13] : List F).map f32)⟩]) siz26<|zN ?_
        refine RAny.take 19 (r := optr 0 0 0) rfl (by kernel_rfl) (by kernel_rfl) (by kernel_rfl) rfl rfl (POp.nilCheck_optr rfl rfl)<|RAny.take 20 (r := optr 0 0 1) rfl (by kernel_rfl) (by kernel_rfl) (by kernel_rfl) rfl rfl (POp.fao und93 rfl siz26 rfl rfl rfl) ?_
        refine RAny.more (i0 := 21) (l := []) (by kernel_rfl) (RAnys.cons rfl ?_ RAnys.nil)
        refine ys (oref 2 1 0 (a4.length + 1)) [oref 1 1 0 (a3.length + 1), oref 2 1 0 (a4.length + 1), f32 a2] ([⟨0, some [oref 1 1 0 (a3.length + 1), oref 2 1 0 (a4.length + 1), f32 a2]⟩, ⟨1, some ((L26 ++ ([x13] : List F)).map f32)⟩, ⟨1, some ((a4 ++ ([x13] : List F)).map f32)⟩, ⟨2, some (([x13] : List F).map f32)⟩, ⟨1, some (([x13] : List F).map f32)⟩]) siz26<|zN ?_
        refine RAny.done (by kernel_rfl) ?_
        exact ⟨⟨aR, aR, aR, aR, aR, aR, aR, aR, aR, aR, aR, aR, aR, aR, aR, aR, aR, aR, aR, aR, aR, aR, trivial⟩, ⟨⟨rfl, .inr rfl⟩, ⟨rfl, .inr rfl⟩, ⟨rfl, .inr rfl⟩, ⟨rfl, .inr rfl⟩, ⟨rfl, .inr rfl⟩, trivial⟩⟩
       ·refine ye rfl (oref 4 1 0 1) ([⟨0, some [oref 1 0 0 a3.length, oref 2 0 0 a4.length, f32 a2]⟩, ⟨0, some (L26.map f32)⟩, ⟨0, some (a4.map f32)⟩, ⟨2, some (([x13] : List F).map f32)⟩, ⟨1, some (([x13] : List F).map f32)⟩]) (TOp.buildSlice_o (g := ⟨0, none⟩) (za := f32 (some 0)) (qs := [(0, [f32 x13])]) 4 rfl und26 siz28 zer28 rfl zel28 rfl rfl ⟨rfl, ⟨_, ALe.refl _, rfl⟩, trivial⟩ rfl)<|zN ?_
        refine RAny.more (i0 := 8) (l := []) (by kernel_rfl) (RAnys.cons rfl ?_ RAnys.nil)
        refine ROps.app (f := f32) (xs := L26) (ys := ([x13] : List F)) (Γ' := [⟨0, some [oref 1 0 0 a3.length, oref 2 0 0 a4.length, f32 a2]⟩, ⟨1, some ((L26 ++ ([x13] : List F)).map f32)⟩, ⟨0, some (a4.map f32)⟩, ⟨2, some (([x13] : List F).map f32)⟩, ⟨1, some (([x13] : List F).map f32)⟩]) rfl pun26 inf28 rfl rfl rfl rfl rfl rfl rfl rfl rfl (by simp [hl27]) (ReadAs.own rfl (by simp)) (ones_map (fun _ => rfl)) (ap_by hm22) (ap_mx hm22) rfl<|zN ?_
        refine RAny.more (i0 := 15) (l := []) (by kernel_rfl) (RAnys.cons rfl ?_ RAnys.nil)
        refine ROps.app (f := f32) (xs := a4) (ys := ([x13] : List F)) (Γ' := [⟨0, some [oref 1 0 0 a3.length, oref 2 0 0 a4.length, f32 a2]⟩, ⟨1, some ((L26 ++ ([x13] : List F)).map f32)⟩, ⟨1, some ((a4 ++ ([x13] : List F)).map f32)⟩, ⟨2, some (([x13] : List F).map f32)⟩, ⟨1, some (([x13] : List F).map f32)⟩]) rfl pun26 inf28 rfl rfl rfl rfl rfl rfl rfl rfl rfl (by simp) (ReadAs.own rfl (by simp)) (ones_map (fun _ => rfl)) (ap_by hm23) (ap_mx hm23) rfl<|zN ?_
        refine RAny.take 16 (r := optr 0 0 0) rfl (by kernel_rfl) (by kernel_rfl) (by kernel_rfl) rfl rfl (POp.nilCheck_optr rfl rfl)<|RAny.take 17 (r := optr 0 0 0) rfl (by kernel_rfl) (by kernel_rfl) (by kernel_rfl) rfl rfl (POp.fao und93 rfl siz26 rfl rfl rfl) ?_
        refine RAny.more (i0 := 18) (l := []) (by kernel_rfl) (RAnys.cons rfl ?_ RAnys.nil)
        refine ys (oref 1 1 0 (a3.length + 1)) [oref 1 1 0 (a3.length + 1), oref 2 0 0 a4.length, f32 a2] ([⟨0, some [oref 1 1 0 (a3.length + 1), oref 2 0 0 a4.length, f32 a2]⟩, ⟨1, some ((L26 ++ ([x13] : List F)).map f32)⟩, ⟨1, some ((a4 ++ ([x13] : List F)).map f32)⟩, ⟨2, some (([x13] : List F).map f32)⟩, ⟨1, some (([x13] : List F).map f32)⟩]) siz26<|zN ?_
        refine RAny.take 19 (r := optr 0 0 0) rfl (by kernel_rfl) (by kernel_rfl) (by kernel_rfl) rfl rfl (POp.nilCheck_optr rfl rfl)<|RAny.take 20 (r := optr 0 0 1) rfl (by kernel_rfl) (by kernel_rfl) (by kernel_rfl) rfl rfl (POp.fao und93 rfl siz26 rfl rfl rfl) ?_
        refine RAny.more (i0 := 21) (l := []) (by kernel_rfl) (RAnys.cons rfl ?_ RAnys.nil)
        refine ys (oref 2 1 0 (a4.length + 1)) [oref 1 1 0 (a3.length + 1), oref 2 1 0 (a4.length + 1), f32 a2] ([⟨0, some [oref 1 1 0 (a3.length + 1), oref 2 1 0 (a4.length + 1), f32 a2]⟩, ⟨1, some ((L26 ++ ([x13] : List F)).map f32)⟩, ⟨1, some ((a4 ++ ([x13] : List F)).map f32)⟩, ⟨2, some (([x13] : List F).map f32)⟩, ⟨1, some (([x13] : List F).map f32)⟩]) siz26<|zN ?_
        refine RAny.done (by kernel_rfl) ?_
        exact ⟨⟨aR, aR, aR, aR, aR, aR, aR, aR, aR, aR, aR, aR, aR, aR, aR, aR, aR, aR, aR, aR, aR, aR, trivial⟩, ⟨⟨rfl, .inr rfl⟩, ⟨rfl, .inr rfl⟩, ⟨rfl, .inr rfl⟩, ⟨rfl, .inr rfl⟩, ⟨rfl, .inr rfl⟩, trivial⟩⟩
      ·refine ye rfl (oref 4 1 0 1) ([⟨0, some [oref 1 0 0 a3.length, oref 2 0 0 a4.length, f32 a2]⟩, ⟨0, some (L26.map f32)⟩, ⟨0, some (a4.map f32)⟩, ⟨2, some (([x13] : List F).map f32)⟩, ⟨1, some (([x13] : List F).map f32)⟩]) (TOp.buildSlice_o (g := ⟨0, none⟩) (za := f32 (some 0)) (qs := [(0, [f32 x13])]) 4 rfl und26 siz28 zer28 rfl zel28 rfl rfl ⟨rfl, ⟨_, ALe.refl _, rfl⟩, trivial⟩ rfl)<|zN ?_
       refine RAny.more (i0 := 8) (l := [12]) (by kernel_rfl) (RAnys.cons rfl ?_ (RAnys.cons rfl ?_ RAnys.nil))
       ·refine ROps.app (f := f32) (xs := L26) (ys := ([x13] : List F)) (Γ' := [⟨0, some [oref 1 0 0 a3.length, oref 2 0 0 a4.length, f32 a2]⟩, ⟨1, some ((L26 ++ ([x13] : List F)).map f32)⟩, ⟨0, some (a4.map f32)⟩, ⟨2, some (([x13] : List F).map f32)⟩, ⟨1, some (([x13] : List F).map f32)⟩]) rfl pun26 inf28 rfl rfl rfl rfl rfl rfl rfl rfl rfl (by simp [hl27]) (ReadAs.own rfl (by simp)) (ones_map (fun _ => rfl)) (ap_by hm22) (ap_mx hm22) rfl<|zN ?_
        refine RAny.more (i0 := 12) (l := []) (by kernel_rfl) (RAnys.cons rfl ?_ RAnys.nil)
        refine yd rfl (oref 2 0 0 a4.length) (TOp.load1_o rfl rfl agg26 rfl rfl)<|zN ?_
        refine RAny.more (i0 := 15) (l := []) (by kernel_rfl) (RAnys.cons rfl ?_ RAnys.nil)
        refine ROps.app (f := f32) (xs := a4) (ys := ([x13] : List F)) (Γ' := [⟨0, some [oref 1 0 0 a3.length, oref 2 0 0 a4.length, f32 a2]⟩, ⟨1, some ((L26 ++ ([x13] : List F)).map f32)⟩, ⟨1, some ((a4 ++ ([x13] : List F)).map f32)⟩, ⟨2, some (([x13] : List F).map f32)⟩, ⟨1, some (([x13] : List F).map f32)⟩]) rfl pun26 inf28 rfl rfl rfl rfl rfl rfl rfl rfl rfl (by simp) (ReadAs.own rfl (by simp)) (ones_map (fun _ => rfl)) (ap_by hm23) (ap_mx hm23) rfl<|zN ?_
        refine RAny.take 16 (r := optr 0 0 0) rfl (by kernel_rfl) (by kernel_rfl) (by kernel_rfl) rfl rfl (POp.nilCheck_optr rfl rfl)<|RAny.take 17 (r := optr 0 0 0) rfl (by kernel_rfl) (by kernel_rfl) (by kernel_rfl) rfl rfl (POp.fao und93 rfl siz26 rfl rfl rfl) ?_
        refine RAny.more (i0 := 18) (l := []) (by kernel_rfl) (RAnys.cons rfl ?_ RAnys.nil)
        refine ys (oref 1 1 0 (a3.length + 1)) [oref 1 1 0 (a3.length + 1), oref 2 0 0 a4.length, f32 a2] ([⟨0, some [oref 1 1 0 (a3.length + 1), oref 2 0 0 a4.length, f32 a2]⟩, ⟨1, some ((L26 ++ ([x13] : List F)).map f32)⟩, ⟨1, some ((a4 ++ ([x13] : List F)).map f32)⟩, ⟨2, some (([x13] : List F).map f32)⟩, ⟨1, some (([x13] : List F).map f32)⟩]) siz26<|zN ?_
        refine RAny.take 19 (r := optr 0 0 0) rfl (by kernel_rfl) (by kernel_rfl) (by kernel_rfl) rfl rfl (POp.nilCheck_optr rfl rfl)<|RAny.take 20 (r := optr 0 0 1) rfl (by kernel_rfl) (by kernel_rfl) (by kernel_rfl) rfl rfl (POp.fao und93 rfl siz26 rfl rfl rfl) ?_
        refine RAny.more (i0 := 21) (l := []) (by kernel_rfl) (RAnys.cons rfl ?_ RAnys.nil)
        refine ys (oref 2 1 0 (a4.length + 1)) [oref 1 1 0 (a3.length + 1), oref 2 1 0 (a4.length + 1), f32 a2] ([⟨0, some [oref 1 1 0 (a3.length + 1), oref 2 1 0 (a4.length + 1), f32 a2]⟩, ⟨1, some ((L26 ++ ([x13] : List F)).map f32)⟩, ⟨1, some ((a4 ++ ([x13] : List F)).map f32)⟩, ⟨2, some (([x13] : List F).map f32)⟩, ⟨1, some (([x13] : List F).map f32)⟩]) siz26<|zN ?_
        refine RAny.done (by kernel_rfl) ?_
        exact ⟨⟨aR, aR, aR, aR, aR, aR, aR, aR, aR, aR, aR, aR, aR, aR, aR, aR, aR, aR, aR, aR, aR, aR, trivial⟩, ⟨⟨rfl, .inr rfl⟩, ⟨rfl, .inr rfl⟩, ⟨rfl, .inr rfl⟩, ⟨rfl, .inr rfl⟩, ⟨rfl, .inr rfl⟩, trivial⟩⟩
       ·refine yd rfl (oref 2 0 0 a4.length) (TOp.load1_o rfl rfl agg26 rfl rfl)<|zN ?_
        refine RAny.more (i0 := 8) (l := []) (by kernel_rfl) (RAnys.cons rfl ?_ RAnys.nil)
        refine ROps.app (f := f32) (xs := L26) (ys := ([x13] : List F)) (Γ' := [⟨0, some [oref 1 0 0 a3.length, oref 2 0 0 a4.length, f32 a2]⟩, ⟨1, some ((L26 ++ ([x13] : List F)).map f32)⟩, ⟨0, some (a4.map f32)⟩, ⟨2, some (([x13] : List F).map f32)⟩, ⟨1, some (([x13] : List F).map f32)⟩]) rfl pun26 inf28 rfl rfl rfl rfl rfl rfl rfl rfl rfl (by simp [hl27]) (ReadAs.own rfl (by simp)) (ones_map (fun _ => rfl)) (ap_by hm22) (ap_mx hm22) rfl<|zN ?_
        refine RAny.more (i0 := 15) (l := []) (by kernel_rfl) (RAnys.cons rfl ?_ RAnys.nil)
        refine ROps.app (f := f32) (xs := a4) (ys := ([x13] : List F)) (Γ' := [⟨0, some [oref 1 0 0 a3.length, oref 2 0 0 a4.length, f32 a2]⟩, ⟨1, some ((L26 ++ ([x13] : List F)).map f32)⟩, ⟨1, some ((a4 ++ ([x13] : List F)).map f32)⟩, ⟨2, some (([x13] : List F).map f32)⟩, ⟨1, some (([x13] : List F).map f32)⟩]) rfl pun26 inf28 rfl rfl rfl rfl rfl rfl rfl rfl rfl (by simp) (ReadAs.own rfl (by simp)) (ones_map (fun _ => rfl)) (ap_by hm23) (ap_mx hm23) rfl<|zN ?_
        refine RAny.take 16 (r := optr 0 0 0) rfl (by kernel_rfl) (by kernel_rfl) (by kernel_rfl) rfl rfl (POp.nilCheck_optr rfl rfl)<|RAny.take 17 (r := optr 0 0 0) rfl (by kernel_rfl) (by kernel_rfl) (by kernel_rfl) rfl rfl (POp.fao und93 rfl siz26 rfl rfl rfl) ?_
        refine RAny.more (i0 := 18) (l := []) (by kernel_rfl) (RAnys.cons rfl ?_ RAnys.nil)
        refine ys (oref 1 1 0 (a3.length + 1)) [oref 1 1 0 (a3.length + 1), oref 2 0 0 a4.length, f32 a2] ([⟨0, some [oref 1 1 0 (a3.length + 1), oref 2 0 0 a4.length, f32 a2]⟩, ⟨1, some ((L26 ++ ([x13] : List F)).map f32)⟩, ⟨1, some ((a4 ++ ([x13] : List F)).map f32)⟩, ⟨2, some (([x13] : List F).map f32)⟩, ⟨1, some (([x13] : List F).map f32)⟩]) siz26<|zN ?_
        refine RAny.take 19 (r := optr 0 0 0) rfl (by kernel_rfl) (by kernel_rfl) (by kernel_rfl) rfl rfl (POp.nilCheck_optr rfl rfl)<|RAny.take 20 (r := optr 0 0 1) rfl (by kernel_rfl) (by kernel_rfl) (by kernel_rfl) rfl rfl (POp.fao und93 rfl siz26 rfl rfl rfl) ?_
        refine RAny.more (i0 := 21) (l := []) (by kernel_rfl) (RAnys.cons rfl ?_ RAnys.nil)
        refine ys (oref 2 1 0 (a4.length + 1)) [oref 1 1 0 (a3.length + 1), oref 2 1 0 (a4.length + 1), f32 a2] ([⟨0, some [oref 1 1 0 (a3.length + 1), oref 2 1 0 (a4.length + 1), f32 a2]⟩, ⟨1, some ((L26 ++ ([x13] : List F)).map f32)⟩, ⟨1, some ((a4 ++ ([x13] : List F)).map f32)⟩, ⟨2, some (([x13] : List F).map f32)⟩, ⟨1, some (([x13] : List F).map f32)⟩]) siz26<|zN ?_
        refine RAny.done (by kernel_rfl) ?_
        exact ⟨⟨aR, aR, aR, aR, aR, aR, aR, aR, aR, aR, aR, aR, aR, aR, aR, aR, aR, aR, aR, aR, aR, aR, trivial⟩, ⟨⟨rfl, .inr rfl⟩, ⟨rfl, .inr rfl⟩, ⟨rfl, .inr rfl⟩, ⟨rfl, .inr rfl⟩, ⟨rfl, .inr rfl⟩, trivial⟩⟩
     ·refine yd rfl (oref 2 0 0 a4.length) (TOp.load1_o rfl rfl agg26 rfl rfl)<|zN ?_
      refine RAny.more (i0 := 5) (l := [14]) (by kernel_rfl) (RAnys.cons rfl ?_ (RAnys.cons rfl ?_ RAnys.nil))
      ·refine yd rfl (oref 1 0 0 a3.length) (TOp.load1_o rfl rfl agg26 rfl rfl)<|zN ?_
       refine RAny.more (i0 := 8) (l := [14]) (by kernel_rfl) (RAnys.cons rfl ?_ (RAnys.cons rfl ?_ RAnys.nil))
       ·refine ROps.app (f := f32) (xs := L26) (ys := ([x13] : List F)) (Γ' := [⟨0, some [oref 1 0 0 a3.length, oref 2 0 0 a4.length, f32 a2]⟩, ⟨1, some ((L26 ++ ([x13] : List F)).map f32)⟩, ⟨0, some (a4.map f32)⟩, ⟨2, some (([x13] : List F).map f32)⟩, ⟨0, none⟩]) rfl pun26 inf28 rfl rfl rfl rfl rfl rfl rfl rfl rfl (by simp [hl27]) (ReadAs.own rfl (by simp)) (ones_map (fun _ => rfl)) (ap_by hm22) (ap_mx hm22) rfl<|zN ?_
        refine RAny.more (i0 := 14) (l := []) (by kernel_rfl) (RAnys.cons rfl ?_ RAnys.nil)
        refine ye rfl (oref 4 1 0 1) ([⟨0, some [oref 1 0 0 a3.length, oref 2 0 0 a4.length, f32 a2]⟩, ⟨1, some ((L26 ++ ([x13] : List F)).map f32)⟩, ⟨0, some (a4.map f32)⟩, ⟨2, some (([x13] : List F).map f32)⟩, ⟨1, some (([x13] : List F).map f32)⟩]) (TOp.buildSlice_o (g := ⟨0, none⟩) (za := f32 (some 0)) (qs := [(0, [f32 x13])]) 4 rfl und26 siz28 zer28 rfl zel28 rfl rfl ⟨rfl, ⟨_, ALe.refl _, rfl⟩, trivial⟩ rfl)<|zN ?_
        refine RAny.more (i0 := 15) (l := []) (by kernel_rfl) (RAnys.cons rfl ?_ RAnys.nil)
        refine ROps.app (f := f32) (xs := a4) (ys := ([x13] : List F)) (Γ' := [⟨0, some [oref 1 0 0 a3.length, oref 2 0 0 a4.length, f32 a2]⟩, ⟨1, some ((L26 ++ ([x13] : List F)).map f32)⟩, ⟨1, some ((a4 ++ ([x13] : List F)).map f32)⟩, ⟨2, some (([x13] : List F).map f32)⟩, ⟨1, some (([x13] : List F).map f32)⟩]) rfl pun26 inf28 rfl rfl rfl rfl rfl rfl rfl rfl rfl (by simp) (ReadAs.own rfl (by simp)) (ones_map (fun _ => rfl)) (ap_by hm23) (ap_mx hm23) rfl<|zN ?_
        refine RAny.take 16 (r := optr 0 0 0) rfl (by kernel_rfl) (by kernel_rfl) (by kernel_rfl) rfl rfl (POp.nilCheck_optr rfl rfl)<|RAny.take 17 (r := optr 0 0 0) rfl (by kernel_rfl) (by kernel_rfl) (by kernel_rfl) rfl rfl (POp.fao und93 rfl siz26 rfl rfl rfl) ?_
        refine RAny.more (i0 := 18) (l := []) (by kernel_rfl) (RAnys.cons rfl ?_ RAnys.nil)
        refine ys (oref 1 1 0 (a3.length + 1)) [oref 1 1 0 (a3.length + 1), oref 2 0 0 a4.length, f32 a2] ([⟨0, some [oref 1 1 0 (a3.length + 1), oref 2 0 0 a4.length, f32 a2]⟩, ⟨1, some ((L26 ++ ([x13] : List F)).map f32)⟩, ⟨1, some ((a4 ++ ([x13] : List F)).map f32)⟩, ⟨2, some (([x13] : List F).map f32)⟩, ⟨1, some (([x13] : List F).map f32)⟩]) siz26<|zN ?_
        refine RAny.take 19 (r := optr 0 0 0) rfl (by kernel_rfl) (by kernel_rfl) (by kernel_rfl) rfl rfl (POp.nilCheck_optr rfl rfl)<|RAny.take 20 (r := optr 0 0 1) rfl (by kernel_rfl) (by kernel_rfl) (by kernel_rfl) rfl rfl (POp.fao und93 rfl siz26 rfl rfl rfl) ?_
        refine RAny.more (i0 := 21) (l := []) (by kernel_rfl) (RAnys.cons rfl ?_ RAnys.nil)
        refine ys (oref 2 1 0 (a4.length + 1)) [oref 1 1 0 (a3.length + 1), oref 2 1 0 (a4.length + 1), f32 a2] ([⟨0, some [oref 1 1 0 (a3.length + 1), oref 2 1 0 (a4.length + 1), f32 a2]⟩, ⟨1, some ((L26 ++ ([x13] : List F)).map f32)⟩, ⟨1, some ((a4 ++ ([x13] : List F)).map f32)⟩, ⟨2, some (([x13] : List F).map f32)⟩, ⟨1, some (([x13] : List F).map f32)⟩]) siz26<|zN ?_
        refine RAny.done (by kernel_rfl) ?_
        exact ⟨⟨aR, aR, aR, aR, aR, aR, aR, aR, aR, aR, aR, aR, aR, aR, aR, aR, aR, aR, aR, aR, aR, aR, trivial⟩, ⟨⟨rfl, .inr rfl⟩, ⟨rfl, .inr rfl⟩, ⟨rfl, .inr rfl⟩, ⟨rfl, .inr rfl⟩, ⟨rfl, .inr rfl⟩, trivial⟩⟩
       ·refine ye rfl (oref 4 1 0 1) ([⟨0, some [oref 1 0 0 a3.length, oref 2 0 0 a4.length, f32 a2]⟩, ⟨0, some (L26.map f32)⟩, ⟨0, some (a4.map f32)⟩, ⟨2, some (([x13] : List F).map f32)⟩, ⟨1, some (([x13] : List F).map f32)⟩]) (TOp.buildSlice_o (g := ⟨0, none⟩) (za := f32 (some 0)) (qs := [(0, [f32 x13])]) 4 rfl und26 siz28 zer28 rfl zel28 rfl rfl ⟨rfl, ⟨_, ALe.refl _, rfl⟩, trivial⟩ rfl)<|zN ?_
        refine RAny.more (i0 := 8) (l := []) (by kernel_rfl) (RAnys.cons rfl ?_ RAnys.nil)
        refine ROps.app (f := f32) (xs := L26) (ys := ([x13] : List F)) (Γ' := [⟨0, some [oref 1 0 0 a3.length, oref 2 0 0 a4.length, f32 a2]⟩, ⟨1, some ((L26 ++ ([x13] : List F)).map f32)⟩, ⟨0, some (a4.map f32)⟩, ⟨2, some (([x13] : List F).map f32)⟩, ⟨1, some (([x13] : List F).map f32)⟩]) rfl pun26 inf28 rfl rfl rfl rfl rfl rfl rfl rfl rfl (by simp [hl27]) (ReadAs.own rfl (by simp)) (ones_map (fun _ => rfl)) (ap_by hm22) (ap_mx hm22) rfl<|zN ?_
        refine RAny.more (i0 := 15) (l := []) (by kernel_rfl) (RAnys.cons rfl ?_ RAnys.nil)
        refine ROps.app (f := f32) (xs := a4) (ys := ([x13] : List F)) (Γ' := [⟨0, some [oref 1 0 0 a3.length, oref 2 0 0 a4.length, f32 a2]⟩, ⟨1, some ((L26 ++ ([x13] : List F)).map f32)⟩, ⟨1, some ((a4 ++ ([x13] : List F)).map f32)⟩, ⟨2, some (([x13] : List F).map f32)⟩, ⟨1, some (([x13] : List F).map f32)⟩]) rfl pun26 inf28 rfl rfl rfl rfl rfl rfl rfl rfl rfl (by simp) (ReadAs.own rfl (by simp)) (ones_map (fun _ => rfl)) (ap_by hm23) (ap_mx hm23) rfl<|zN ?_
        refine RAny.take 16 (r := optr 0 0 0) rfl (by kernel_rfl) (by kernel_rfl) (by kernel_rfl) rfl rfl (POp.nilCheck_optr rfl rfl)<|RAny.take 17 (r := optr 0 0 0) rfl (by kernel_rfl) (by kernel_rfl) (by kernel_rfl) rfl rfl (POp.fao und93 rfl siz26 rfl rfl rfl) ?_
        refine RAny.more (i0 := 18) (l := []) (by kernel_rfl) (RAnys.cons rfl ?_ RAnys.nil)
        refine ys (oref 1 1 0 (a3.length + 1)) [oref 1 1 0 (a3.length + 1), oref 2 0 0 a4.length, f32 a2] ([⟨0, some [oref 1 1 0 (a3.length + 1), oref 2 0 0 a4.length, f32 a2]⟩, ⟨1, some ((L26 ++ ([x13] : List F)).map f32)⟩, ⟨1, some ((a4 ++ ([x13] : List F)).map f32)⟩, ⟨2, some (([x13] : List F).map f32)⟩, ⟨1, some (([x13] : List F).map f32)⟩]) siz26<|zN ?_
        refine RAny.take 19 (r := optr 0 0 0) rfl (by kernel_rfl) (by kernel_rfl) (by kernel_rfl) rfl rfl (POp.nilCheck_optr rfl rfl)<|RAny.take 20 (r := optr 0 0 1) rfl (by kernel_rfl) (by kernel_rfl) (by kernel_rfl) rfl rfl (POp.fao und93 rfl siz26 rfl rfl rfl) ?_
        refine RAny.more (i0 := 21) (l := []) (by kernel_rfl) (RAnys.cons rfl ?_ RAnys.nil)
        refine ys (oref 2 1 0 (a4.length + 1)) [oref 1 1 0 (a3.length + 1), oref 2 1 0 (a4.length + 1), f32 a2] ([⟨0, some [oref 1 1 0 (a3.length + 1), oref 2 1 0 (a4.length + 1), f32 a2]⟩, ⟨1, some ((L26 ++ ([x13] : List F)).map f32)⟩, ⟨1, some ((a4 ++ ([x13] : List F)).map f32)⟩, ⟨2, some (([x13] : List F).map f32)⟩, ⟨1, some (([x13] : List F).map f32)⟩]) siz26<|zN ?_
        refine RAny.done (by kernel_rfl) ?_
        exact ⟨⟨aR, aR, aR, aR, aR, aR, aR, aR, aR, aR, aR, aR, aR, aR, aR, aR, aR, aR, aR, aR, aR, aR, trivial⟩, ⟨⟨rfl, .inr rfl⟩, ⟨rfl, .inr rfl⟩, ⟨rfl, .inr rfl⟩, ⟨rfl, .inr rfl⟩, ⟨rfl, .inr rfl⟩, trivial⟩⟩
      ·refine ye rfl (oref 4 1 0 1) ([⟨0, some [oref 1 0 0 a3.length, oref 2 0 0 a4.length, f32 a2]⟩, ⟨0, some (L26.map f32)⟩, ⟨0, some (a4.map f32)⟩, ⟨2, some (([x13] : List F).map f32)⟩, ⟨1, some (([x13] : List F).map f32)⟩]) (TOp.buildSlice_o (g := ⟨0, none⟩) (za := f32 (some 0)) (qs := [(0, [f32 x13])]) 4 rfl und26 siz28 zer28 rfl zel28 rfl rfl ⟨rfl, ⟨_, ALe.refl _, rfl⟩, trivial⟩ rfl)<|zN ?_
       refine RAny.more (i0 := 5) (l := []) (by kernel_rfl) (RAnys.cons rfl ?_ RAnys.nil)
       refine yd rfl (oref 1 0 0 a3.length) (TOp.load1_o rfl rfl agg26 rfl rfl)<|zN ?_
       refine RAny.more (i0 := 8) (l := []) (by kernel_rfl) (RAnys.cons rfl ?_ RAnys.nil)
       refine ROps.app (f := f32) (xs := L26) (ys := ([x13] : List F)) (Γ' := [⟨0, some [oref 1 0 0 a3.length, oref 2 0 0 a4.length, f32 a2]⟩, ⟨1, some ((L26 ++ ([x13] : List F)).map f32)⟩, ⟨0, some (a4.map f32)⟩, ⟨2, some (([x13] : List F).map f32)⟩, ⟨1, some (([x13] : List F).map f32)⟩]) rfl pun26 inf28 rfl rfl rfl rfl rfl rfl rfl rfl rfl (by simp [hl27]) (ReadAs.own rfl (by simp)) (ones_map (fun _ => rfl)) (ap_by hm22) (ap_mx hm22) rfl<|zN ?_
       refine RAny.more (i0 := 15) (l := []) (by kernel_rfl) (RAnys.cons rfl ?_ RAnys.nil)
       refine ROps.app (f := f32) (xs := a4) (ys := ([x13] : List F)) (Γ' := [⟨0, some [oref 1 0 0 a3.length, oref 2 0 0 a4.length, f32 a2]⟩, ⟨1, some ((L26 ++ ([x13] : List F)).map f32)⟩, ⟨1, some ((a4 ++ ([x13] : List F)).map f32)⟩, ⟨2, some (([x13] : List F).map f32)⟩, ⟨1, some (([x13] : List F).map f32)⟩]) rfl pun26 inf28 rfl rfl rfl rfl rfl rfl rfl rfl rfl (by simp) (ReadAs.own rfl (by simp)) (ones_map (fun _ => rfl)) (ap_by hm23) (ap_mx hm23) rfl<|zN ?_
       refine RAny.take 16 (r := optr 0 0 0) rfl (by kernel_rfl) (by kernel_rfl) (by kernel_rfl) rfl rfl (POp.nilCheck_optr rfl rfl)<|RAny.take 17 (r := optr 0 0 0) rfl (by kernel_rfl) (by kernel_rfl) (by kernel_rfl) rfl rfl (POp.fao und93 rfl siz26 rfl rfl rfl) ?_
       refine RAny.more (i0 := 18) (l := []) (by kernel_rfl) (RAnys.cons rfl ?_ RAnys.nil)
       refine ys (oref 1 1 0 (a3.length + 1)) [oref 1 1 0 (a3.length + 1), oref 2 0 0 a4.length, f32 a2] ([⟨0, some [oref 1 1 0 (a3.length + 1), oref 2 0 0 a4.length, f32 a2]⟩, ⟨1, some ((L26 ++ ([x13] : List F)).map f32)⟩, ⟨1, some ((a4 ++ ([x13] : List F)).map f32)⟩, ⟨2, some (([x13] : List F).map f32)⟩, ⟨1, some (([x13] : List F).map f32)⟩]) siz26<|zN ?_
       refine RAny.take 19 (r := optr 0 0 0) rfl (by kernel_rfl) (by kernel_rfl) (by kernel_rfl) rfl rfl (POp.nilCheck_optr rfl rfl)<|RAny.take 20 (r := optr 0 0 1) rfl (by kernel_rfl) (by kernel_rfl) (by kernel_rfl) rfl rfl (POp.fao und93 rfl siz26 rfl rfl rfl) ?_
       refine RAny.more (i0 := 21) (l := []) (by kernel_rfl) (RAnys.cons rfl ?_ RAnys.nil)
       refine ys (oref 2 1 0 (a4.length + 1)) [oref 1 1 0 (a3.length + 1), oref 2 1 0 (a4.length + 1), f32 a2] ([⟨0, some [oref 1 1 0 (a3.length + 1), oref 2 1 0 (a4.length + 1), f32 a2]⟩, ⟨1, some ((L26 ++ ([x13] : List F)).map f32)⟩, ⟨1, some ((a4 ++ ([x13] : List F)).map f32)⟩, ⟨2, some (([x13] : List F).map f32)⟩, ⟨1, some (([x13] : List F).map f32)⟩]) siz26<|zN ?_
       refine RAny.done (by kernel_rfl) ?_
       exact ⟨⟨aR, aR, aR, aR, aR, aR, aR, aR, aR, aR, aR, aR, aR, aR, aR, aR, aR, aR, aR, aR, aR, aR, trivial⟩, ⟨⟨rfl, .inr rfl⟩, ⟨rfl, .inr rfl⟩, ⟨rfl, .inr rfl⟩, ⟨rfl, .inr rfl⟩, ⟨rfl, .inr rfl⟩, trivial⟩⟩
     ·refine ye rfl (oref 4 1 0 1) ([⟨0, some [oref 1 0 0 a3.length, oref 2 0 0 a4.length, f32 a2]⟩, ⟨0, some (L26.map f32)⟩, ⟨0, some (a4.map f32)⟩, ⟨2, some (([x13] : List F).map f32)⟩, ⟨1, some (([x13] : List F).map f32)⟩]) (TOp.buildSlice_o (g := ⟨0, none⟩) (za := f32 (some 0)) (qs := [(0, [f32 x13])]) 4 rfl und26 siz28 zer28 rfl zel28 rfl rfl ⟨rfl, ⟨_, ALe.refl _, rfl⟩, trivial⟩ rfl)<|zN ?_
      refine RAny.more (i0 := 5) (l := [12]) (by kernel_rfl) (RAnys.cons rfl ?_ (RAnys.cons rfl ?_ RAnys.nil))
      ·refine yd rfl (oref 1 0 0 a3.length) (TOp.load1_o rfl rfl agg26 rfl rfl)<|zN ?_
       refine RAny.more (i0 := 8) (l := [12]) (by kernel_rfl) (RAnys.cons rfl ?_ (RAnys.cons rfl ?_ RAnys.nil))
       ·refine ROps.app (f := f32) (xs := L26) (ys := ([x13] : List F)) (Γ' := [⟨0, some [oref 1 0 0 a3.length, oref 2 0 0 a4.length, f32 a2]⟩, ⟨1, some ((L26 ++ ([x13] : List F)).map f32)⟩, ⟨0, some (a4.map f32)⟩, ⟨2, some (([x13] : List F).map f32)⟩, ⟨1, some (([x13] : List F).map f32)⟩]) rfl pun26 inf28 rfl rfl rfl rfl rfl rfl rfl rfl rfl (by simp [hl27]) (ReadAs.own rfl (by simp)) (ones_map (fun _ => rfl)) (ap_by hm22) (ap_mx hm22) rfl<|zN ?_
        refine RAny.more (i0 := 12) (l := []) (by kernel_rfl) (RAnys.cons rfl ?_ RAnys.nil)
        refine yd rfl (oref 2 0 0 a4.length) (TOp.load1_o rfl rfl agg26 rfl rfl)<|zN ?_
        refine RAny.more (i0 := 15) (l := []) (by kernel_rfl) (RAnys.cons rfl ?_ RAnys.nil)
        refine ROps.app (f := f32) (xs := a4) (ys := ([x13] : List F)) (Γ' := [⟨0, some [oref 1 0 0 a3.length, oref 2 0 0 a4.length, f32 a2]⟩, ⟨1, some ((L26 ++ ([x13] : List F)).map f32)⟩, ⟨1, some ((a4 ++ ([x13] : List F)).map f32)⟩, ⟨2, some (([x13] : List F).map f32)⟩, ⟨1, some (([x13] : List F).map f32)⟩]) rfl pun26 inf28 rfl rfl rfl rfl rfl rfl rfl rfl rfl (by simp) (ReadAs.own rfl (by simp)) (ones_map (fun _ => rfl)) (ap_by hm23) (ap_mx hm23) rfl<|zN ?_
        refine RAny.take 16 (r := optr 0 0 0) rfl (by kernel_rfl) (by kernel_rfl) (by kernel_rfl) rfl rfl (POp.nilCheck_optr rfl rfl)<|RAny.take 17 (r := optr 0 0 0) rfl (by kernel_rfl) (by kernel_rfl) (by kernel_rfl) rfl rfl (POp.fao und93 rfl siz26 rfl rfl rfl) ?_
        refine RAny.more (i0 := 18) (l := []) (by kernel_rfl) (RAnys.cons rfl ?_ RAnys.nil)
        refine ys (oref 1 1 0 (a3.length + 1)) [oref 1 1 0 (a3.length + 1), oref 2 0 0 a4.length, f32 a2] ([⟨0, some [oref 1 1 0 (a3.length + 1), oref 2 0 0 a4.length, f32 a2]⟩, ⟨1, some ((L26 ++ ([x13] : List F)).map f32)⟩, ⟨1, some ((a4 ++ ([x13] : List F)).map f32)⟩, ⟨2, some (([x13] : List F).map f32)⟩, ⟨1, some (([x13] : List F).map f32)⟩]) siz26<|zN ?_
        refine RAny.take 19 (r := optr 0 0 0) rfl (by kernel_rfl) (by kernel_rfl) (by kernel_rfl) rfl rfl (POp.nilCheck_optr rfl rfl)<|RAny.take 20 (r := optr 0 0 1) rfl (by kernel_rfl) (by kernel_rfl) (by kernel_rfl) rfl rfl (POp.fao und93 rfl siz26 rfl rfl rfl) ?_
        refine RAny.more (i0 := 21) (l := []) (by kernel_rfl) (RAnys.cons rfl ?_ RAnys.nil)
        refine ys (oref 2 1 0 (a4.length + 1)) [oref 1 1 0 (a3.length + 1), oref 2 1 0 (a4.length + 1), f32 a2] ([⟨0, some [oref 1 1 0 (a3.length + 1), oref 2 1 0 (a4.length + 1), f32 a2]⟩, ⟨1, some ((L26 ++ ([x13] : List F)).map f32)⟩, ⟨1, some ((a4 ++ ([x13] : List F)).map f32)⟩, ⟨2, some (([x13] : List F).map f32)⟩, ⟨1, some (([x13] : List F).map f32)⟩]) siz26<|zN ?_
        refine RAny.done (by kernel_rfl) ?_
        exact ⟨⟨aR, aR, aR, aR, aR, aR, aR, aR, aR, aR, aR, aR, aR, aR, aR, aR, aR, aR, aR, aR, aR, aR, trivial⟩, ⟨⟨rfl, .inr rfl⟩, ⟨rfl, .inr rfl⟩, ⟨rfl, .inr rfl⟩, ⟨rfl, .inr rfl⟩, ⟨rfl, .inr rfl⟩, trivial⟩⟩
       ·refine yd rfl (oref 2 0 0 a4.length) (TOp.load1_o rfl rfl agg26 rfl rfl)<|zN ?_
        refine RAny.more (i0 := 8) (l := []) (by kernel_rfl) (RAnys.cons rfl ?_ RAnys.nil)
        refine ROps.app (f := f32) (xs := L26) (ys := ([x13] : List F)) (Γ' := [⟨0, some [oref 1 0 0 a3.length, oref 2 0 0 a4.length, f32 a2]⟩, ⟨1, some ((L26 ++ ([x13] : List F)).map f32)⟩, ⟨0, some (a4.map f32)⟩, ⟨2, some (([x13] : List F).map f32)⟩, ⟨1, some (([x13] : List F).map f32)⟩]) rfl pun26 inf28 rfl rfl rfl rfl rfl rfl rfl rfl rfl (by simp [hl27]) (ReadAs.own rfl (by simp)) (ones_map (fun _ => rfl)) (ap_by hm22) (ap_mx hm22) rfl<|zN ?_
        refine RAny.more (i0 := 15) (l := []) (by kernel_rfl) (RAnys.cons rfl ?_ RAnys.nil)
        refine ROps.app (f := f32) (xs := a4) (ys := ([x13] : List F)) (Γ' := [⟨0, some [oref 1 0 0 a3.length, oref 2 0 0 a4.length, f32 a2]⟩, ⟨1, some ((L26 ++ ([x13] : List F)).map f32)⟩, ⟨1, some ((a4 ++ ([x13] : List F)).map f32)⟩, ⟨2, some (([x13] : List F).map f32)⟩, ⟨1, some (([x13] : List F).map f32)⟩]) rfl pun26 inf28 rfl rfl rfl rfl rfl rfl rfl rfl rfl (by simp) (ReadAs.own rfl (by simp)) (ones_map (fun _ => rfl)) (ap_by hm23) (ap_mx hm23) rfl<|zN ?_
        refine RAny.take 16 (r := optr 0 0 0) rfl (by kernel_rfl) (by kernel_rfl) (by kernel_rfl) rfl rfl (POp.nilCheck_optr rfl rfl)<|RAny.take 17 (r := optr 0 0 0) rfl (by kernel_rfl) (by kernel_rfl) (by kernel_rfl) rfl rfl (POp.fao und93 rfl siz26 rfl rfl rfl) ?_
        refine RAny.more (i0 := 18) (l := []) (by kernel_rfl) (RAnys.cons rfl ?_ RAnys.nil)
        refine ys (oref 1 1 0 (a3.length + 1)) [oref 1 1 0 (a3.length + 1), oref 2 0 0 a4.length, f32 a2] ([⟨0, some [oref 1 1 0 (a3.length + 1), oref 2 0 0 a4.length, f32 a2]⟩, ⟨1, some ((L26 ++ ([x13] : List F)).map f32)⟩, ⟨1, some ((a4 ++ ([x13] : List F)).map f32)⟩, ⟨2, some (([x13] : List F).map f32)⟩, ⟨1, some (([x13] : List F).map f32)⟩]) siz26<|zN ?_
        refine RAny.take 19 (r := optr 0 0 0) rfl (by kernel_rfl) (by kernel_rfl) (by kernel_rfl) rfl rfl (POp.nilCheck_optr rfl rfl)<|RAny.take 20 (r := optr 0 0 1) rfl (by kernel_rfl) (by kernel_rfl) (by kernel_rfl) rfl rfl (POp.fao und93 rfl siz26 rfl rfl rfl) ?_
        refine RAny.more (i0 := 21) (l := []) (by kernel_rfl) (RAnys.cons rfl ?_ RAnys.nil)
        refine ys (oref 2 1 0 (a4.length + 1)) [oref 1 1 0 (a3.length + 1), oref 2 1 0 (a4.length + 1), f32 a2] ([⟨0, some [oref 1 1 0 (a3.length + 1), oref 2 1 0 (a4.length + 1), f32 a2]⟩, ⟨1, some ((L26 ++ ([x13] : List F)).map f32)⟩, ⟨1, some ((a4 ++ ([x13] : List F)).map f32)⟩, ⟨2, some (([x13] : List F).map f32)⟩, ⟨1, some (([x13] : List F).map f32)⟩]) siz26<|zN ?_
        refine RAny.done (by kernel_rfl) ?_
        exact ⟨⟨aR, aR, aR, aR, aR, aR, aR, aR, aR, aR, aR, aR, aR, aR, aR, aR, aR, aR, aR, aR, aR, aR, trivial⟩, ⟨⟨rfl, .inr rfl⟩, ⟨rfl, .inr rfl⟩, ⟨rfl, .inr rfl⟩, ⟨rfl, .inr rfl⟩, ⟨rfl, .inr rfl⟩, trivial⟩⟩
      ·refine yd rfl (oref 2 0 0 a4.length) (TOp.load1_o rfl rfl agg26 rfl rfl)<|zN ?_
       refine RAny.more (i0 := 5) (l := []) (by kernel_rfl) (RAnys.cons rfl ?_ RAnys.nil)
       refine yd rfl (oref 1 0 0 a3.length) (TOp.load1_o rfl rfl agg26 rfl rfl)<|zN ?_
       refine RAny.more (i0 := 8) (l := []) (by kernel_rfl) (RAnys.cons rfl ?_ RAnys.nil)
       refine ROps.app (f := f32) (xs := L26) (ys := ([x13] : List F)) (Γ' := [⟨0, some [oref 1 0 0 a3.length, oref 2 0 0 a4.length, f32 a2]⟩, ⟨1, some ((L26 ++ ([x13] : List F)).map f32)⟩, ⟨0, some (a4.map f32)⟩, ⟨2, some (([x13] : List F).map f32)⟩, ⟨1, some (([x13] : List F).map f32)⟩]) rfl pun26 inf28 rfl rfl rfl rfl rfl rfl rfl rfl rfl (by simp [hl27]) (ReadAs.own rfl (by simp)) (ones_map (fun _ => rfl)) (ap_by hm22) (ap_mx hm22) rfl<|zN ?_
       refine RAny.more (i0 := 15) (l := []) (by kernel_rfl) (RAnys.cons rfl ?_ RAnys.nil)
       refine ROps.app (f := f32) (xs := a4) (ys := ([x13] : List F)) (Γ' := [⟨0, some [oref 1 0 0 a3.length, oref 2 0 0 a4.length, f32 a2]⟩, ⟨1, some ((L26 ++ ([x13] : List F)).map f32)⟩, ⟨1, some ((a4 ++ ([x13] : List F)).map f32)⟩, ⟨2, some (([x13] : List F).map f32)⟩, ⟨1, some (([x13] : List F).map f32)⟩]) rfl pun26 inf28 rfl rfl rfl rfl rfl rfl rfl rfl rfl (by simp) (ReadAs.own rfl (by simp)) (ones_map (fun _ => rfl)) (ap_by hm23) (ap_mx hm23) rfl<|zN ?_
       refine RAny.take 16 (r := optr 0 0 0) rfl (by kernel_rfl) (by kernel_rfl) (by kernel_rfl) rfl rfl (POp.nilCheck_optr rfl rfl)<|RAny.take 17 (r := optr 0 0 0) rfl (by kernel_rfl) (by kernel_rfl) (by kernel_rfl) rfl rfl (POp.fao und93 rfl siz26 rfl rfl rfl) ?_
       refine RAny.more (i0 := 18) (l := []) (by kernel_rfl) (RAnys.cons rfl ?_ RAnys.nil)
       refine ys (oref 1 1 0 (a3.length + 1)) [oref 1 1 0 (a3.length + 1), oref 2 0 0 a4.length, f32 a2] ([⟨0, some [oref 1 1 0 (a3.length + 1), oref 2 0 0 a4.length, f32 a2]⟩, ⟨1, some ((L26 ++ ([x13] : List F)).map f32)⟩, ⟨1, some ((a4 ++ ([x13] : List F)).map f32)⟩, ⟨2, some (([x13] : List F).map f32)⟩, ⟨1, some (([x13] : List F).map f32)⟩]) siz26<|zN ?_
       refine RAny.take 19 (r := optr 0 0 0) rfl (by kernel_rfl) (by kernel_rfl) (by kernel_rfl) rfl rfl (POp.nilCheck_optr rfl rfl)<|RAny.take 20 (r := optr 0 0 1) rfl (by kernel_rfl) (by kernel_rfl) (by kernel_rfl) rfl rfl (POp.fao und93 rfl siz26 rfl rfl rfl) ?_
       refine RAny.more (i0 := 21) (l := []) (by kernel_rfl) (RAnys.cons rfl ?_ RAnys.nil)
       refine ys (oref 2 1 0 (a4.length + 1)) [oref 1 1 0 (a3.length + 1), oref 2 1 0 (a4.length + 1), f32 a2] ([⟨0, some [oref 1 1 0 (a3.length + 1), oref 2 1 0 (a4.length + 1), f32 a2]⟩, ⟨1, some ((L26 ++ ([x13] : List F)).map f32)⟩, ⟨1, some ((a4 ++ ([x13] : List F)).map f32)⟩, ⟨2, some (([x13] : List F).map f32)⟩, ⟨1, some (([x13] : List F).map f32)⟩]) siz26<|zN ?_
       refine RAny.done (by kernel_rfl) ?_
       exact ⟨⟨aR, aR, aR, aR, aR, aR, aR, aR, aR, aR, aR, aR, aR, aR, aR, aR, aR, aR, aR, aR, aR, aR, trivial⟩, ⟨⟨rfl, .inr rfl⟩, ⟨rfl, .inr rfl⟩, ⟨rfl, .inr rfl⟩, ⟨rfl, .inr rfl⟩, ⟨rfl, .inr rfl⟩, trivial⟩⟩
    ·refine yd rfl (oref 2 0 0 a4.length) (TOp.load1_o rfl rfl agg26 rfl rfl)<|zN ?_
     refine RAny.more (i0 := 5) (l := [7, 14]) (by kernel_rfl) (RAnys.cons rfl ?_ (RAnys.cons rfl ?_ (RAnys.cons rfl ?_ RAnys.nil)))
     ·refine yd rfl (oref 1 0 0 a3.length) (TOp.load1_o rfl rfl agg26 rfl rfl)<|zN ?_
      refine RAny.more (i0 := 7) (l := [14]) (by kernel_rfl) (RAnys.cons rfl ?_ (RAnys.cons rfl ?_ RAnys.nil))
      ·refine ye rfl (oref 3 2 0 1) ([⟨0, some [oref 1 0 0 a3.length, oref 2 0 0 a4.length, f32 a2]⟩, ⟨0, some (L26.map f32)⟩, ⟨0, some (a4.map f32)⟩, ⟨2, some (([x13] : List F).map f32)⟩, ⟨0, none⟩]) (TOp.buildSlice_o (g := ⟨1, none⟩) (za := f32 (some 0)) (qs := [(0, [f32 x13])]) 3 rfl und26 siz28 zer28 rfl zel28 rfl rfl ⟨rfl, ⟨_, ALe.refl _, rfl⟩, trivial⟩ rfl)<|zN ?_
       refine RAny.more (i0 := 8) (l := [14]) (by kernel_rfl) (RAnys.cons rfl ?_ (RAnys.cons rfl ?_ RAnys.nil))
       ·refine ROps.app (f := f32) (xs := L26) (ys := ([x13] : List F)) (Γ' := [⟨0, some [oref 1 0 0 a3.length, oref 2 0 0 a4.length, f32 a2]⟩, ⟨1, some ((L26 ++ ([x13] : List F)).map f32)⟩, ⟨0, some (a4.map f32)⟩, ⟨2, some (([x13] : List F).map f32)⟩, ⟨0, none⟩]) rfl pun26 inf28 rfl rfl rfl rfl rfl rfl rfl rfl rfl (by simp [hl27]) (ReadAs.own rfl (by simp)) (ones_map (fun _ => rfl)) (ap_by hm22) (ap_mx hm22) rfl<|zN ?_
        refine RAny.more (i0 := 14) (l := []) (by kernel_rfl) (RAnys.cons rfl ?_ RAnys.nil)
        refine ye rfl (oref 4 1 0 1) ([⟨0, some [oref 1 0 0 a3.length, oref 2 0 0 a4.length, f32 a2]⟩, ⟨1, some ((L26 ++ ([x13] : List F)).map f32)⟩, ⟨0, some (a4.map f32)⟩, ⟨2, some (([x13] : List F).map f32)⟩, ⟨1, some (([x13] : List F).map f32)⟩]) (TOp.buildSlice_o (g := ⟨0, none⟩) (za := f32 (some 0)) (qs := [(0, [f32 x13])]) 4 rfl und26 siz28 zer28 rfl zel28 rfl rfl ⟨rfl, ⟨_, ALe.refl _, rfl⟩, trivial⟩ rfl)<|zN ?_
        refine RAny.more (i0 := 15) (l := []) (by kernel_rfl) (RAnys.cons rfl ?_ RAnys.nil)
        refine ROps.app (f := f32) (xs := a4) (ys := ([x13] : List F)) (Γ' := [⟨0, some [oref 1 0 0 a3.length, oref 2 0 0 a4.length, f32 a2]⟩, ⟨1, some ((L26 ++ ([x13] : List F)).map f32)⟩, ⟨1, some ((a4 ++ ([x13] : List F)).map f32)⟩, ⟨2, some (([x13] : List F).map f32)⟩, ⟨1, some (([x13] : List F).map f32)⟩]) rfl pun26 inf28 rfl rfl rfl rfl rfl rfl rfl rfl rfl (by simp) (ReadAs.own rfl (by simp)) (ones_map (fun _ => rfl)) (ap_by hm23) (ap_mx hm23) rfl<|zN ?_
        refine RAny.take 16 (r := optr 0 0 0) rfl (by kernel_rfl) (by kernel_rfl) (by kernel_rfl) rfl rfl (POp.nilCheck_optr rfl rfl)<|RAny.take 17 (r := optr 0 0 0) rfl (by kernel_rfl) (by kernel_rfl) (by kernel_rfl) rfl rfl (POp.fao und93 rfl siz26 rfl rfl rfl) ?_
        refine RAny.more (i0 := 18) (l := []) (by kernel_rfl) (RAnys.cons rfl ?_ RAnys.nil)
        refine ys (oref 1 1 0 (a3.length + 1)) [oref 1 1 0 (a3.length + 1), oref 2 0 0 a4.length, f32 a2] ([⟨0, some [oref 1 1 0 (a3.length + 1), oref 2 0 0 a4.length, f32 a2]⟩, ⟨1, some ((L26 ++ ([x13] : List F)).map f32)⟩, ⟨1, some ((a4 ++ ([x13] : List F)).map f32)⟩, ⟨2, some (([x13] : List F).map f32)⟩, ⟨1, some (([x13] : List F).map f32)⟩]) siz26<|zN ?_
        refine RAny.take 19 (r := optr 0 0 0) rfl (by kernel_rfl) (by kernel_rfl) (by kernel_rfl) rfl rfl (POp.nilCheck_optr rfl rfl)<|RAny.take 20 (r := optr 0 0 1) rfl (by kernel_rfl) (by kernel_rfl) (by kernel_rfl) rfl rfl (POp.fao und93 rfl siz26 rfl rfl rfl) ?_
        refine RAny.more (i0 := 21) (l := []) (by kernel_rfl) (RAnys.cons rfl ?_ RAnys.nil)
        refine ys (oref 2 1 0 (a4.length + 1)) [oref 1 1 0 (a3.length + 1), oref 2 1 0 (a4.length + 1), f32 a2] ([⟨0, some [oref 1 1 0 (a3.length + 1), oref 2 1 0 (a4.length + 1), f32 a2]⟩, ⟨1, some ((L26 ++ ([x13] : List F)).map f32)⟩, ⟨1, some ((a4 ++ ([x13] : List F)).map f32)⟩, ⟨2, some (([x13] : List F).map f32)⟩, ⟨1, some (([x13] : List F).map f32)⟩]) siz26<|zN ?_
        refine RAny.done (by kernel_rfl) ?_
        exact ⟨⟨aR, aR, aR, aR, aR, aR, aR, aR, aR, aR, aR, aR, aR, aR, aR, aR, aR, aR, aR, aR, aR, aR, trivial⟩, ⟨⟨rfl, .inr rfl⟩, ⟨rfl, .inr rfl⟩, ⟨rfl, .inr rfl⟩, ⟨rfl, .inr rfl⟩, ⟨rfl, .inr rfl⟩, trivial⟩⟩
       ·refine ye rfl (oref 4 1 0 1) ([⟨0, some [oref 1 0 0 a3.length, oref 2 0 0 a4.length, f32 a2]⟩, ⟨0, some (L26.map f32)⟩, ⟨0, some (a4.map f32)⟩, ⟨2, some (([x13] : List F).map f32)⟩, ⟨1, some (([x13] : List F).map f32)⟩]) (TOp.buildSlice_o (g := ⟨0, none⟩) (za := f32 (some 0)) (qs := [(0, [f32 x13])]) 4 rfl und26 siz28 zer28 rfl zel28 rfl rfl ⟨rfl, ⟨_, ALe.refl _, rfl⟩, trivial⟩ rfl)<|zN ?_
        refine RAny.more (i0 := 8) (l := []) (by kernel_rfl) (RAnys.cons rfl ?_ RAnys.nil)
        refine ROps.app (f := f32) (xs := L26) (ys := ([x13] : List F)) (Γ' := [⟨0, some [oref 1 0 0 a3.length, oref 2 0 0 a4.length, f32 a2]⟩, ⟨1, some ((L26 ++ ([x13] : List F)).map f32)⟩, ⟨0, some (a4.map f32)⟩, ⟨2, some (([x13] : List F).map f32)⟩, ⟨1, some (([x13] : List F).map f32)⟩]) rfl pun26 inf28 rfl rfl rfl rfl rfl rfl rfl rfl rfl (by simp [hl27]) (ReadAs.own rfl (by simp)) (ones_map (fun _ => rfl)) (ap_by hm22) (ap_mx hm22) rfl<|zN ?_
        refine RAny.more (i0 := 15) (l := []) (by kernel_rfl) (RAnys.cons rfl ?_ RAnys.nil)
        refine ROps.app (f := f32) (xs := a4) (ys := ([x13] : List F)) (Γ' := [⟨0, some [oref 1 0 0 a3.length, oref 2 0 0 a4.length, f32 a2]⟩, ⟨1, some ((L26 ++ ([x13] : List F)).map f32)⟩, ⟨1, some ((a4 ++ ([x13] : List F)).map f32)⟩, ⟨2, some (([x13] : List F).map f32)⟩, ⟨1, some (([x13] : List F).map f32)⟩]) rfl pun26 inf28 rfl rfl rfl rfl rfl rfl rfl rfl rfl (by simp) (ReadAs.own rfl (by simp)) (ones_map (fun _ => rfl)) (ap_by hm23) (ap_mx hm23) rfl<|zN ?_
        refine RAny.take 16 (r := optr 0 0 0) rfl (by kernel_rfl) (by kernel_rfl) (by kernel_rfl) rfl rfl (POp.nilCheck_optr rfl rfl)<|RAny.take 17 (r := optr 0 0 0) rfl (by kernel_rfl) (by kernel_rfl) (by kernel_rfl) rfl rfl (POp.fao und93 rfl siz26 rfl rfl rfl) ?_
        refine RAny.more (i0 := 18) (l := []) (by kernel_rfl) (RAnys.cons rfl ?_ RAnys.nil)
        refine ys (oref 1 1 0 (a3.length + 1)) [oref 1 1 0 (a3.length + 1), oref 2 0 0 a4.length, f32 a2] ([⟨0, some [oref 1 1 0 (a3.length + 1), oref 2 0 0 a4.length, f32 a2]⟩, ⟨1, some ((L26 ++ ([x13] : List F)).map f32)⟩, ⟨1, some ((a4 ++ ([x13] : List F)).map f32)⟩, ⟨2, some (([x13] : List F).map f32)⟩, ⟨1, some (([x13] : List F).map f32)⟩]) siz26<|zN ?_
        refine RAny.take 19 (r := optr 0 0 0) rfl (by kernel_rfl) (by kernel_rfl) (by kernel_rfl) rfl rfl (POp.nilCheck_optr rfl rfl)<|RAny.take 20 (r := optr 0 0 1) rfl (by kernel_rfl) (by kernel_rfl) (by kernel_rfl) rfl rfl (POp.fao und93 rfl siz26 rfl rfl rfl) ?_
        refine RAny.more (i0 := 21) (l := []) (by kernel_rfl) (RAnys.cons rfl ?_ RAnys.nil)
        refine ys (oref 2 1 0 (a4.length + 1)) [oref 1 1 0 (a3.length + 1), oref 2 1 0 (a4.length + 1), f32 a2] ([⟨0, some [oref 1 1 0 (a3.length + 1), oref 2 1 0 (a4.length + 1), f32 a2]⟩, ⟨1, some ((L26 ++ ([x13] : List F)).map f32)⟩, ⟨1, some ((a4 ++ ([x13] : List F)).map f32)⟩, ⟨2, some (([x13] : List F).map f32)⟩, ⟨1, some (([x13] : List F).map f32)⟩]) siz26<|zN ?_
        refine RAny.done (by kernel_rfl) ?_
        exact ⟨⟨aR, aR, aR, aR, aR, aR, aR, aR, aR, aR, aR, aR, aR, aR, aR, aR, aR, aR, aR, aR, aR, aR, trivial⟩, ⟨⟨rfl, .inr rfl⟩, ⟨rfl, .inr rfl⟩, ⟨rfl, .inr rfl⟩, ⟨rfl, .inr rfl⟩, ⟨rfl, .inr rfl⟩, trivial⟩⟩
      ·refine ye rfl (oref 4 1 0 1) ([⟨0, some [oref 1 0 0 a3.length, oref 2 0 0 a4.length, f32 a2]⟩, ⟨0, some (L26.map f32)⟩, ⟨0, some (a4.map f32)⟩, ⟨1, none⟩, ⟨1, some (([x13] : List F).map f32)⟩]) (TOp.buildSlice_o (g := ⟨0, none⟩) (za := f32 (some 0)) (qs := [(0, [f32 x13])]) 4 rfl und26 siz28 zer28 rfl zel28 rfl rfl ⟨rfl, ⟨_, ALe.refl _, rfl⟩, trivial⟩ rfl)<|zN ?_
       refine RAny.more (i0 := 7) (l := []) (by kernel_rfl) (RAnys.cons rfl ?_ RAnys.nil)
       refine ye rfl (oref 3 2 0 1) ([⟨0, some [oref 1 0 0 a3.length, oref 2 0 0 a4.length, f32 a2]⟩, ⟨0, some (L26.map f32)⟩, ⟨0, some (a4.map f32)⟩, ⟨2, some (([x13] : List F).map f32)⟩, ⟨1, some (([x13] : List F).map f32)⟩]) (TOp.buildSlice_o (g := ⟨1, none⟩) (za := f32 (some 0)) (qs := [(0, [f32 x13])]) 3 rfl und26 siz28 zer28 rfl zel28 rfl rfl ⟨rfl, ⟨_, ALe.refl _, rfl⟩, trivial⟩ rfl)<|zN ?_
       refine RAny.more (i0 := 8) (l := []) (by kernel_rfl) (RAnys.cons rfl ?_ RAnys.nil)
       refine ROps.app (f := f32) (xs := L26) (ys := ([x13] : List F)) (Γ' := [⟨0, some [oref 1 0 0 a3.length, oref 2 0 0 a4.length, f32 a2]⟩, ⟨1, some ((L26 ++ ([x13] : List F)).map f32)⟩, ⟨0, some (a4.map f32)⟩, ⟨2, some (([x13] : List F).map f32)⟩, ⟨1, some (([x13] : List F).map f32)⟩]) rfl pun26 inf28 rfl rfl rfl rfl rfl rfl rfl rfl rfl (by simp [hl27]) (ReadAs.own rfl (by simp)) (ones_map (fun _ => rfl)) (ap_by hm22) (ap_mx hm22) rfl<|zN ?_
       refine RAny.more (i0 := 15) (l := []) (by kernel_rfl) (RAnys.cons rfl ?_ RAnys.nil)
       refine ROps.app (f := f32) (xs := a4) (ys := ([x13] : List F)) (Γ' := [⟨0, some [oref 1 0 0 a3.length, oref 2 0 0 a4.length, f32 a2]⟩, ⟨1, some ((L26 ++ ([x13] : List F)).map f32)⟩, ⟨1, some ((a4 ++ ([x13] : List F)).map f32)⟩, ⟨2, some (([x13] : List F).map f32)⟩, ⟨1, some (([x13] : List F).map f32)⟩]) rfl pun26 inf28 rfl rfl rfl rfl rfl rfl rfl rfl rfl (by simp) (ReadAs.own rfl (by simp)) (ones_map (fun _ => rfl)) (ap_by hm23) (ap_mx hm23) rfl<|zN ?_
       refine RAny.take 16 (r := optr 0 0 0) rfl (by kernel_rfl) (by kernel_rfl) (by kernel_rfl) rfl rfl (POp.nilCheck_optr rfl rfl)<|RAny.take 17 (r := optr 0 0 0) rfl (by kernel_rfl) (by kernel_rfl) (by kernel_rfl) rfl rfl (POp.fao und93 rfl siz26 rfl rfl rfl) ?_
       refine RAny.more (i0 := 18) (l := []) (by kernel_rfl) (RAnys.cons rfl ?_ RAnys.nil)
       refine ys (oref 1 1 0 (a3.length + 1)) [oref 1 1 0 (a3.length + 1), oref 2 0 0 a4.length, f32 a2] ([⟨0, some [oref 1 1 0 (a3.length + 1), oref 2 0 0 a4.length, f32 a2]⟩, ⟨1, some ((L26 ++ ([x13] : List F)).map f32)⟩, ⟨1, some ((a4 ++ ([x13] : List F)).map f32)⟩, ⟨2, some (([x13] : List F).map f32)⟩, ⟨1, some (([x13] : List F).map f32)⟩]) siz26<|zN ?_
       refine RAny.take 19 (r := optr 0 0 0) rfl (by kernel_rfl) (by kernel_rfl) (by kernel_rfl) rfl rfl (POp.nilCheck_optr rfl rfl)<|RAny.take 20 (r := optr 0 0 1) rfl (by kernel_rfl) (by kernel_rfl) (by kernel_rfl) rfl rfl (POp.fao und93 rfl siz26 rfl rfl rfl) ?_
       refine RAny.more (i0 := 21) (l := []) (by kernel_rfl) (RAnys.cons rfl ?_ RAnys.nil)
       refine ys (oref 2 1 0 (a4.length + 1)) [oref 1 1 0 (a3.length + 1), oref 2 1 0 (a4.length + 1), f32 a2] ([⟨0, some [oref 1 1 0 (a3.length + 1), oref 2 1 0 (a4.length + 1), f32 a2]⟩, ⟨1, some ((L26 ++ ([x13] : List F)).map f32)⟩, ⟨1, some ((a4 ++ ([x13] : List F)).map f32)⟩, ⟨2, some (([x13] : List F).map f32)⟩, ⟨1, some (([x13] : List F).map f32)⟩]) siz26<|zN ?_
       refine RAny.done (by kernel_rfl) ?_
       exact ⟨⟨aR, aR, aR, aR, aR, aR, aR, aR, aR, aR, aR, aR, aR, aR, aR, aR, aR, aR, aR, aR, aR, aR, trivial⟩, ⟨⟨rfl, .inr rfl⟩, ⟨rfl, .inr rfl⟩, ⟨rfl, .inr rfl⟩, ⟨rfl, .inr rfl⟩, ⟨rfl, .inr rfl⟩, trivial⟩⟩
     ·refine ye rfl (oref 3 2 0 1) ([⟨0, some [oref 1 0 0 a3.length, oref 2 0 0 a4.length, f32 a2]⟩, ⟨0, some (L26.map f32)⟩, ⟨0, some (a4.map f32)⟩, ⟨2, some (([x13] : List F).map f32)⟩, ⟨0, none⟩]) (TOp.buildSlice_o (g := ⟨1, none⟩) (za := f32 (some 0)) (qs := [(0, [f32 x13])]) 3 rfl und26 siz28 zer28 rfl zel28 rfl rfl ⟨rfl, ⟨_, ALe.refl _, rfl⟩, trivial⟩ rfl)<|zN ?_
      refine RAny.more (i0 := 5) (l := [14]) (by kernel_rfl) (RAnys.cons rfl ?_ (RAnys.cons rfl ?_ RAnys.nil))
      ·refine yd rfl (oref 1 0 0 a3.length) (TOp.load1_o rfl rfl agg26 rfl rfl)<|zN ?_
       refine RAny.more (i0 := 8) (l := [14]) (by kernel_rfl) (RAnys.cons rfl ?_ (RAnys.cons rfl ?_ RAnys.nil))
       ·refine ROps.app (f := f32) (xs := L26) (ys := ([x13] : List F)) (Γ' := [⟨0, some [oref 1 0 0 a3.length, oref 2 0 0 a4.length, f32 a2]⟩, ⟨1, some ((L26 ++ ([x13] : List F)).map f32)⟩, ⟨0, some (a4.map f32)⟩, ⟨2, some (([x13] : List F).map f32)⟩, ⟨0, none⟩]) rfl pun26 inf28 rfl rfl rfl rfl rfl rfl rfl rfl rfl (by simp [hl27]) (ReadAs.own rfl (by simp)) (ones_map (fun _ => rfl)) (ap_by hm22) (ap_mx hm22) rfl<|zN ?_
        refine RAny.more (i0 := 14) (l := []) (by kernel_rfl) (RAnys.cons rfl ?_ RAnys.nil)
        refine ye rfl (oref 4 1 0 1) ([⟨0, some [oref 1 0 0 a3.length, oref 2 0 0 a4.length, f32 a2]⟩, ⟨1, some ((L26 ++ ([x13] : List F)).map f32)⟩, ⟨0, some (a4.map f32)⟩, ⟨2, some (([x13] : List F).map f32)⟩, ⟨1, some (([x13] : List F).map f32)⟩]) (TOp.buildSlice_o (g := ⟨0, none⟩) (za := f32 (some 0)) (qs := [(0, [f32 x13])]) 4 rfl und26 siz28 zer28 rfl zel28 rfl rfl ⟨rfl, ⟨_, ALe.refl _, rfl⟩, trivial⟩ rfl)<|zN ?_
        refine RAny.more (i0 := 15) (l := []) (by kernel_rfl) (RAnys.cons rfl ?_ RAnys.nil)
        refine ROps.app (f := f32) (xs := a4) (ys := ([x13] : List F)) (Γ' := [⟨0, some [oref 1 0 0 a3.length, oref 2 0 0 a4.length, f32 a2]⟩, ⟨1, some ((L26 ++ ([x13] : List F)).map f32)⟩, ⟨1, some ((a4 ++ ([x13] : List F)).map f32)⟩, ⟨2, some (([x13] : List F).map f32)⟩, ⟨1, some (([x13] : List F).map f32)⟩]) rfl pun26 inf28 rfl rfl rfl rfl rfl rfl rfl rfl rfl (by simp) (ReadAs.own rfl (by simp)) (ones_map (fun _ => rfl)) (ap_by hm23) (ap_mx hm23) rfl<|zN ?_
        refine RAny.take 16 (r := optr 0 0 0) rfl (by kernel_rfl) (by kernel_rfl) (by kernel_rfl) rfl rfl (POp.nilCheck_optr rfl rfl)<|RAny.take 17 (r := optr 0 0 0) rfl (by kernel_rfl) (by kernel_rfl) (by kernel_rfl) rfl rfl (POp.fao und93 rfl siz26 rfl rfl rfl) ?_
        refine RAny.more (i0 := 18) (l := []) (by kernel_rfl) (RAnys.cons rfl ?_ RAnys.nil)
        refine ys (oref 1 1 0 (a3.length + 1)) [oref 1 1 0 (a3.length + 1), oref 2 0 0 a4.length, f32 a2] ([⟨0, some [oref 1 1 0 (a3.length + 1), oref 2 0 0 a4.length, f32 a2]⟩, ⟨1, some ((L26 ++ ([x13] : List F)).map f32)⟩, ⟨1, some ((a4 ++ ([x13] : List F)).map f32)⟩, ⟨2, some (([x13] : List F).map f32)⟩, ⟨1, some (([x13] : List F).map f32)⟩]) siz26<|zN ?_
        refine RAny.take 19 (r := optr 0 0 0) rfl (by kernel_rfl) (by kernel_rfl) (by kernel_rfl) rfl rfl (POp.nilCheck_optr rfl rfl)<|RAny.take 20 (r := optr 0 0 1) rfl (by kernel_rfl) (by kernel_rfl) (by kernel_rfl) rfl rfl (POp.fao und93 rfl siz26 rfl rfl rfl) ?_
        refine RAny.more (i0 := 21) (l := []) (by kernel_rfl) (RAnys.cons rfl ?_ RAnys.nil)
        refine ys (oref 2 1 0 (a4.length + 1)) [oref 1 1 0 (a3.length + 1), oref 2 1 0 (a4.length + 1), f32 a2] ([⟨0, some [oref 1 1 0 (a3.length + 1), oref 2 1 0 (a4.length + 1), f32 a2]⟩, ⟨1, some ((L26 ++ ([x13] : List F)).map f32)⟩, ⟨1, some ((a4 ++ ([x13] : List F)).map f32)⟩, ⟨2, some (([x13] : List F).map f32)⟩, ⟨1, some (([x13] : List F).map f32)⟩]) siz26<|zN ?_
        refine RAny.done (by kernel_rfl) ?_
        exact ⟨⟨aR, aR, aR, aR, aR, aR, aR, aR, aR, aR, aR, aR, aR, aR, aR, aR, aR, aR, aR, aR, aR, aR, trivial⟩, ⟨⟨rfl, .inr rfl⟩, ⟨rfl, .inr rfl⟩, ⟨rfl, .inr rfl⟩, ⟨rfl, .inr rfl⟩, ⟨rfl, .inr rfl⟩, trivial⟩⟩
       ·refine ye rfl (oref 4 1 0 1) ([⟨0, some [oref 1 0 0 a3.length, oref 2 0 0 a4.length, f32 a2]⟩, ⟨0, some (L26.map f32)⟩, ⟨0, some (a4.map f32)⟩, ⟨2, some (([x13] : List F).map f32)⟩, ⟨1, some (([x13] : List F).map f32)⟩]) (TOp.buildSlice_o (g := ⟨0, none⟩) (za := f32 (some 0)) (qs := [(0, [f32 x13])]) 4 rfl und26 siz28 zer28 rfl zel28 rfl rfl ⟨rfl, ⟨_, ALe.refl _, rfl⟩, trivial⟩ rfl)<|zN ?_
        refine RAny.more (i0 := 8) (l := []) (by kernel_rfl) (RAnys.cons rfl ?_ RAnys.nil)
        refine ROps.app (f := f32) (xs := L26) (ys := ([x13] : List F)) (Γ' := [⟨0, some [oref 1 0 0 a3.length, oref 2 0 0 a4.length, f32 a2]⟩, ⟨1, some ((L26 ++ ([x13] : List F)).map f32)⟩, ⟨0, some (a4.map f32)⟩, ⟨2, some (([x13] : List F).map f32)⟩, ⟨1, some (([x13] : List F).map f32)⟩]) rfl pun26 inf28 rfl rfl rfl rfl rfl rfl rfl rfl rfl (by simp [hl27]) (ReadAs.own rfl (by simp)) (ones_map (fun _ => rfl)) (ap_by hm22) (ap_mx hm22) rfl<|zN ?_
        refine RAny.more (i0 := 15) (l := []) (by kernel_rfl) (RAnys.cons rfl ?_ RAnys.nil)
        refine ROps.app (f := f32) (xs := a4) (ys := ([x13] : List F)) (Γ' := [⟨0, some [oref 1 0 0 a3.length, oref 2 0 0 a4.length, f32 a2]⟩, ⟨1, some ((L26 ++ ([x13] : List F)).map f32)⟩, ⟨1, some ((a4 ++ ([x13] : List F)).map f32)⟩, ⟨2, some (([x13] : List F).map f32)⟩, ⟨1, some (([x13] : List F).map f32)⟩]) rfl pun26 inf28 rfl rfl rfl rfl rfl rfl rfl rfl rfl (by simp) (ReadAs.own rfl (by simp)) (ones_map (fun _ => rfl)) (ap_by hm23) (ap_mx hm23) rfl<|zN ?_
        refine RAny.take 16 (r := optr 0 0 0) rfl (by kernel_rfl) (by kernel_rfl) (by kernel_rfl) rfl rfl (POp.nilCheck_optr rfl rfl)<|RAny.take 17 (r := optr 0 0 0) rfl (by kernel_rfl) (by kernel_rfl) (by kernel_rfl) rfl rfl (POp.fao und93 rfl siz26 rfl rfl rfl) ?_
        refine RAny.more (i0 := 18) (l := []) (by kernel_rfl) (RAnys.cons rfl ?_ RAnys.nil)
        refine ys (oref 1 1 0 (a3.length + 1)) [oref 1 1 0 (a3.length + 1), oref 2 0 0 a4.length, f32 a2] ([⟨0, some [oref 1 1 0 (a3.length + 1), oref 2 0 0 a4.length, f32 a2]⟩, ⟨1, some ((L26 ++ ([x13] : List F)).map f32)⟩, ⟨1, some ((a4 ++ ([x13] : List F)).map f32)⟩, ⟨2, some (([x13] : List F).map f32)⟩, ⟨1, some (([x13] : List F).map f32)⟩]) siz26<|zN ?_
        refine RAny.take 19 (r := optr 0 0 0) rfl (by kernel_rfl) (by kernel_rfl) (by kernel_rfl) rfl rfl (POp.nilCheck_optr rfl rfl)<|RAny.take 20 (r := optr 0 0 1) rfl (by kernel_rfl) (by kernel_rfl) (by kernel_rfl) rfl rfl (POp.fao und93 rfl siz26 rfl rfl rfl) ?_
        refine RAny.more (i0 := 21) (l := []) (by kernel_rfl) (RAnys.cons rfl ?_ RAnys.nil)
        refine ys (oref 2 1 0 (a4.length + 1)) [oref 1 1 0 (a3.length + 1), oref 2 1 0 (a4.length + 1), f32 a2] ([⟨0, some [oref 1 1 0 (a3.length + 1), oref 2 1 0 (a4.length + 1), f32 a2]⟩, ⟨1, some ((L26 ++ ([x13] : List F)).map f32)⟩, ⟨1, some ((a4 ++ ([x13] : List F)).map f32)⟩, ⟨2, some (([x13] : List F).map f32)⟩, ⟨1, some (([x13] : List F).map f32)⟩]) siz26<|zN ?_
        refine RAny.done (by kernel_rfl) ?_
        exact ⟨⟨aR, aR, aR, aR, aR, aR, aR, aR, aR, aR, aR, aR, aR, aR, aR, aR, aR, aR, aR, aR, aR, aR, trivial⟩, ⟨⟨rfl, .inr rfl⟩, ⟨rfl, .inr rfl⟩, ⟨rfl, .inr rfl⟩, ⟨rfl, .inr rfl⟩, ⟨rfl, .inr rfl⟩, trivial⟩⟩
      ·refine ye rfl (oref 4 1 0 1) ([⟨0, some [oref 1 0 0 a3.length, oref 2 0 0 a4.length, f32 a2]⟩, ⟨0, some (L26.map f32)⟩, ⟨0, some (a4.map f32)⟩, ⟨2, some (([x13] : List F).map f32)⟩, ⟨1, some (([x13] : List F).map f32)⟩]) (TOp.buildSlice_o (g := ⟨0, none⟩) (za := f32 (some 0)) (qs := [(0, [f32 x13])]) 4 rfl und26 siz28 zer28 rfl zel28 rfl rfl ⟨rfl, ⟨_, ALe.refl _, rfl⟩, trivial⟩ rfl)<|zN ?_
       refine RAny.more (i0 := 5) (l := []) (by kernel_rfl) (RAnys.cons rfl ?_ RAnys.nil)
       refine yd rfl (oref 1 0 0 a3.length) (TOp.load1_o rfl rfl agg26 rfl rfl)<|zN ?_
       refine RAny.more (i0 := 8) (l := []) (by kernel_rfl) (RAnys.cons rfl ?_ RAnys.nil)
       refine ROps.app (f := f32) (xs := L26) (ys := ([x13] : List F)) (Γ' := [⟨0, some [oref 1 0 0 a3.length, oref 2 0 0 a4.length, f32 a2]⟩, ⟨1, some ((L26 ++ ([x13] : List F)).map f32)⟩, ⟨0, some (a4.map f32)⟩, ⟨2, some (([x13] : List F).map f32)⟩, ⟨1, some (([x13] : List F).map f32)⟩]) rfl pun26 inf28 rfl rfl rfl rfl rfl rfl rfl rfl rfl (by simp [hl27]) (ReadAs.own rfl (by simp)) (ones_map (fun _ => rfl)) (ap_by hm22) (ap_mx hm22) rfl<|zN ?_
       refine RAny.more (i0 := 15) (l := []) (by kernel_rfl) (RAnys.cons rfl ?_ RAnys.nil)
       refine ROps.app (f := f32) (xs := a4) (ys := ([x13] : List F)) (Γ' := [⟨0, some [oref 1 0 0 a3.length, oref 2 0 0 a4.length, f32 a2]⟩, ⟨1, some ((L26 ++ ([x13] : List F)).map f32)⟩, ⟨1, some ((a4 ++ ([x13] : List F)).map f32)⟩, ⟨2, some (([x13] : List F).map f32)⟩, ⟨1, some (([x13] : List F).map f32)⟩]) rfl pun26 inf28 rfl rfl rfl rfl rfl rfl rfl rfl rfl (by simp) (ReadAs.own rfl (by simp)) (ones_map (fun _ => rfl)) (ap_by hm23) (ap_mx hm23) rfl<|zN ?_
       refine RAny.take 16 (r := optr 0 0 0) rfl (by kernel_rfl) (by kernel_rfl) (by kernel_rfl) rfl rfl (POp.nilCheck_optr rfl rfl)<|RAny.take 17 (r := optr 0 0 0) rfl (by kernel_rfl) (by kernel_rfl) (by kernel_rfl) rfl rfl (POp.fao und93 rfl siz26 rfl rfl rfl) ?_
       refine RAny.more (i0 := 18) (l := []) (by kernel_rfl) (RAnys.cons rfl ?_ RAnys.nil)
       refine ys (oref 1 1 0 (a3.length + 1)) [oref 1 1 0 (a3.length + 1), oref 2 0 0 a4.length, f32 a2] ([⟨0, some [oref 1 1 0 (a3.length + 1), oref 2 0 0 a4.length, f32 a2]⟩, ⟨1, some ((L26 ++ ([x13] : List F)).map f32)⟩, ⟨1, some ((a4 ++ ([x13] : List F)).map f32)⟩, ⟨2, some (([x13] : List F).map f32)⟩, ⟨1, some (([x13] : List F).map f32)⟩]) siz26<|zN ?_
       refine RAny.take 19 (r := optr 0 0 0) rfl (by kernel_rfl) (by kernel_rfl) (by kernel_rfl) rfl rfl (POp.nilCheck_optr rfl rfl)<|RAny.take 20 (r := optr 0 0 1) rfl (by kernel_rfl) (by kernel_rfl) (by kernel_rfl) rfl rfl (POp.fao und93 rfl siz26 rfl rfl rfl) ?_
       refine RAny.more (i0 := 21) (l := []) (by kernel_rfl) (RAnys.cons rfl ?_ RAnys.nil)
       refine ys (oref 2 1 0 (a4.length + 1)) [oref 1 1 0 (a3.length + 1), oref 2 1 0 (a4.length + 1), f32 a2] ([⟨0, some [oref 1 1 0 (a3.length + 1), oref 2 1 0 (a4.length + 1), f32 a2]⟩, ⟨1, some ((L26 ++ ([x13] : List F)).map f32)⟩, ⟨1, some ((a4 ++ ([x13] : List F)).map f32)⟩, ⟨2, some (([x13] : List F).map f32)⟩, ⟨1, some (([x13] : List F).map f32)⟩]) siz26<|zN ?_
       refine RAny.done (by kernel_rfl) ?_
       exact ⟨⟨aR, aR, aR, aR, aR, aR, aR, aR, aR, aR, aR, aR, aR, aR, aR, aR, aR, aR, aR, aR, aR, aR, trivial⟩, ⟨⟨rfl, .inr rfl⟩, ⟨rfl, .inr rfl⟩, ⟨rfl, .inr rfl⟩, ⟨rfl, .inr rfl⟩, ⟨rfl, .inr rfl⟩, trivial⟩⟩
     ·refine ye rfl (oref 4 1 0 1) ([⟨0, some [oref 1 0 0 a3.length, oref 2 0 0 a4.length, f32 a2]⟩, ⟨0, some (L26.map f32)⟩, ⟨0, some (a4.map f32)⟩, ⟨1, none⟩, ⟨1, some (([x13] : List F).map f32)⟩]) (TOp.buildSlice_o (g := ⟨0, none⟩) (za := f32 (some 0)) (qs := [(0, [f32 x13])]) 4 rfl und26 siz28 zer28 rfl zel28 rfl rfl ⟨rfl, ⟨_, ALe.refl _, rfl⟩, trivial⟩ rfl)<|zN ?_
      refine RAny.more (i0 := 5) (l := [7]) (by kernel_rfl) (RAnys.cons rfl ?_ (RAnys.cons rfl ?_ RAnys.nil))
      ·refine yd rfl (oref 1 0 0 a3.length) (TOp.load1_o rfl rfl agg26 rfl rfl)<|zN ?_
       refine RAny.more (i0 := 7) (l := []) (by kernel_rfl) (RAnys.cons rfl ?_ RAnys.nil)
       refine ye rfl (oref 3 2 0 1) ([⟨0, some [oref 1 0 0 a3.length, oref 2 0 0 a4.length, f32 a2]⟩, ⟨0, some (L26.map f32)⟩, ⟨0, some (a4.map f32)⟩, ⟨2, some (([x13] : List F).map f32)⟩, ⟨1, some (([x13] : List F).map f32)⟩]) (TOp.buildSlice_o (g := ⟨1, none⟩) (za := f32 (some 0)) (qs := [(0, [f32 x13])]) 3 rfl und26 siz28 zer28 rfl zel28 rfl rfl ⟨rfl, ⟨_, ALe.refl _, rfl⟩, trivial⟩ rfl)<|zN ?_
       refine RAny.more (i0 := 8) (l := []) (by kernel_rfl) (RAnys.cons rfl ?_ RAnys.nil)
       refine ROps.app (f := f32) (xs := L26) (ys := ([x13] : List F)) (Γ' := [⟨0, some [oref 1 0 0 a3.length, oref 2 0 0 a4.length, f32 a2]⟩, ⟨1, some ((L26 ++ ([x13] : List F)).map f32)⟩, ⟨0, some (a4.map f32)⟩, ⟨2, some (([x13] : List F).map f32)⟩, ⟨1, some (([x13] : List F).map f32)⟩]) rfl pun26 inf28 rfl rfl rfl rfl rfl rfl rfl rfl rfl (by simp [hl27]) (ReadAs.own rfl (by simp)) (ones_map (fun _ => rfl)) (ap_by hm22) (ap_mx hm22) rfl<|zN ?_
       refine RAny.more (i0 := 15) (l := []) (by kernel_rfl) (RAnys.cons rfl ?_ RAnys.nil)
       refine ROps.app (f := f32) (xs := a4) (ys := ([x13] : List F)) (Γ' := [⟨0, some [oref 1 0 0 a3.length, oref 2 0 0 a4.length, f32 a2]⟩, ⟨1, some ((L26 ++ ([x13] : List F)).map f32)⟩, ⟨1, some ((a4 ++ ([x13] : List F)).map f32)⟩, ⟨2, some (([x13] : List F).map f32)⟩, ⟨1, some (([x13] : List F).map f32)⟩]) rfl pun26 inf28 rfl rfl rfl rfl rfl rfl rfl rfl rfl (by simp) (ReadAs.own rfl (by simp)) (ones_map (fun _ => rfl)) (ap_by hm23) (ap_mx hm23) rfl<|zN ?_
       refine RAny.take 16 (r := optr 0 0 0) rfl (by kernel_rfl) (by kernel_rfl) (by kernel_rfl) rfl rfl (POp.nilCheck_optr rfl rfl)<|RAny.take 17 (r := optr 0 0 0) rfl (by kernel_rfl) (by kernel_rfl) (by kernel_rfl) rfl rfl (POp.fao und93 rfl siz26 rfl rfl rfl) ?_
       refine RAny.more (i0 := 18) (l := []) (by kernel_rfl) (RAnys.cons rfl ?_ RAnys.nil)
       refine ys (oref 1 1 0 (a3.length + 1)) [oref 1 1 0 (a3.length + 1), oref 2 0 0 a4.length, f32 a2] ([⟨0, some [oref 1 1 0 (a3.length + 1), oref 2 0 0 a4.length, f32 a2]⟩, ⟨1, some ((L26 ++ ([x13] : List F)).map f32)⟩, ⟨1, some ((a4 ++ ([x13] : List F)).map f32)⟩, ⟨2, some (([x13] : List F).map f32)⟩, ⟨1, some (([x13] : List F).map f32)⟩]) siz26<|zN ?_
       refine RAny.take 19 (r := optr 0 0 0) rfl (by kernel_rfl) (by kernel_rfl) (by kernel_rfl) rfl rfl (POp.nilCheck_optr rfl rfl)<|RAny.take 20 (r := optr 0 0 1) rfl (by kernel_rfl) (by kernel_rfl) (by kernel_rfl) rfl rfl (POp.fao und93 rfl siz26 rfl rfl rfl) ?_
       refine RAny.more (i0 := 21) (l := []) (by kernel_rfl) (RAnys.cons rfl ?_ RAnys.nil)
       refine ys (oref 2 1 0 (a4.length + 1)) [oref 1 1 0 (a3.length + 1), oref 2 1 0 (a4.length + 1), f32 a2] ([⟨0, some [oref 1 1 0 (a3.length + 1), oref 2 1 0 (a4.length + 1), f32 a2]⟩, ⟨1, some ((L26 ++ ([x13] : List F)).map f32)⟩, ⟨1, some ((a4 ++ ([x13] : List F)).map f32)⟩, ⟨2, some (([x13] : List F).map f32)⟩, ⟨1, some (([x13] : List F).map f32)⟩]) siz26<|zN ?_
       refine RAny.done (by kernel_rfl) ?_
       exact ⟨⟨aR, aR, aR, aR, aR, aR, aR, aR, aR, aR, aR, aR, aR, aR, aR, aR, aR, aR, aR, aR, aR, aR, trivial⟩, ⟨⟨rfl, .inr rfl⟩, ⟨rfl, .inr rfl⟩, ⟨rfl, .inr rfl⟩, ⟨rfl, .inr rfl⟩, ⟨rfl, .inr rfl⟩, trivial⟩⟩
      ·refine ye rfl (oref 3 2 0 1) ([⟨0, some [oref 1 0 0 a3.length, oref 2 0 0 a4.length, f32 a2]⟩, ⟨0, some (L26.map f32)⟩, ⟨0, some (a4.map f32)⟩, ⟨2, some (([x13] : List F).map f32)⟩, ⟨1, some (([x13] : List F).map f32)⟩]) (TOp.buildSlice_o (g := ⟨1, none⟩) (za := f32 (some 0)) (qs := [(0, [f32 x13])]) 3 rfl und26 siz28 zer28 rfl zel28 rfl rfl ⟨rfl, ⟨_, ALe.refl _, rfl⟩, trivial⟩ rfl)<|zN ?_
       refine RAny.more (i0 := 5) (l := []) (by kernel_rfl) (RAnys.cons rfl ?_ RAnys.nil)
       refine yd rfl (oref 1 0 0 a3.length) (TOp.load1_o rfl rfl agg26 rfl rfl)<|zN ?_
       refine RAny.more (i0 := 8) (l := []) (by kernel_rfl) (RAnys.cons rfl ?_ RAnys.nil)
       refine ROps.app (f := f32) (xs := L26) (ys := ([x13] : List F)) (Γ' := [⟨0, some [oref 1 0 0 a3.length, oref 2 0 0 a4.length, f32 a2]⟩, ⟨1, some ((L26 ++ ([x13] : List F)).map f32)⟩, ⟨0, some (a4.map f32)⟩, ⟨2, some (([x13] : List F).map f32)⟩, ⟨1, some (([x13] : List F).map f32)⟩]) rfl pun26 inf28 rfl rfl rfl rfl rfl rfl rfl rfl rfl (by simp [hl27]) (ReadAs.own rfl (by simp)) (ones_map (fun _ => rfl)) (ap_by hm22) (ap_mx hm22) rfl<|zN ?_
       refine RAny.more (i0 := 15) (l := []) (by kernel_rfl) (RAnys.cons rfl ?_ RAnys.nil)
       refine ROps.app (f := f32) (xs := a4) (ys := ([x13] : List F)) (Γ' := [⟨0, some [oref 1 0 0 a3.length, oref 2 0 0 a4.length, f32 a2]⟩, ⟨1, some ((L26 ++ ([x13] : List F)).map f32)⟩, ⟨1, some ((a4 ++ ([x13] : List F)).map f32)⟩, ⟨2, some (([x13] : List F).map f32)⟩, ⟨1, some (([x13] : List F).map f32)⟩]) rfl pun26 inf28 rfl rfl rfl rfl rfl rfl rfl rfl rfl (by simp) (ReadAs.own rfl (by simp)) (ones_map (fun _ => rfl)) (ap_by hm23) (ap_mx hm23) rfl<|zN ?_
       refine RAny.take 16 (r := optr 0 0 0) rfl (by kernel_rfl) (by kernel_rfl) (by kernel_rfl) rfl rfl (POp.nilCheck_optr rfl rfl)<|RAny.take 17 (r := optr 0 0 0) rfl (by kernel_rfl) (by kernel_rfl) (by kernel_rfl) rfl rfl (POp.fao und93 rfl siz26 rfl rfl rfl) ?_
       refine RAny.more (i0 := 18) (l := []) (by kernel_rfl) (RAnys.cons rfl ?_ RAnys.nil)
       refine ys (oref 1 1 0 (a3.length + 1)) [oref 1 1 0 (a3.length + 1), oref 2 0 0 a4.length, f32 a2] ([⟨0, some [oref 1 1 0 (a3.length + 1), oref 2 0 0 a4.length, f32 a2]⟩, ⟨1, some ((L26 ++ ([x13] : List F)).map f32)⟩, ⟨1, some ((a4 ++ ([x13] : List F)).map f32)⟩, ⟨2, some (([x13] : List F).map f32)⟩, ⟨1, some (([x13] : List F).map f32)⟩]) siz26<|zN ?_
       refine RAny.take 19 (r := optr 0 0 0) rfl (by kernel_rfl) (by kernel_rfl) (by kernel_rfl) rfl rfl (POp.nilCheck_optr rfl rfl)<|RAny.take 20 (r := optr 0 0 1) rfl (by kernel_rfl) (by kernel_rfl) (by kernel_rfl) rfl rfl (POp.fao und93 rfl siz26 rfl rfl rfl) ?_
       refine RAny.more (i0 := 21) (l := []) (by kernel_rfl) (RAnys.cons rfl ?_ RAnys.nil)
       refine ys (oref 2 1 0 (a4.length + 1)) [oref 1 1 0 (a3.length + 1), oref 2 1 0 (a4.length + 1), f32 a2] ([⟨0, some [oref 1 1 0 (a3.length + 1), oref 2 1 0 (a4.length + 1), f32 a2]⟩, ⟨1, some ((L26 ++ ([x13] : List F)).map f32)⟩, ⟨1, some ((a4 ++ ([x13] : List F)).map f32)⟩, ⟨2, some (([x13] : List F).map f32)⟩, ⟨1, some (([x13] : List F).map f32)⟩]) siz26<|zN ?_
       refine RAny.done (by kernel_rfl) ?_
       exact ⟨⟨aR, aR, aR, aR, aR, aR, aR, aR, aR, aR, aR, aR, aR, aR, aR, aR, aR, aR, aR, aR, aR, aR, trivial⟩, ⟨⟨rfl, .inr rfl⟩, ⟨rfl, .inr rfl⟩, ⟨rfl, .inr rfl⟩, ⟨rfl, .inr rfl⟩, ⟨rfl, .inr rfl⟩, trivial⟩⟩
    ·refine ye rfl (oref 4 1 0 1) ([⟨0, some [oref 1 0 0 a3.length, oref 2 0 0 a4.length, f32 a2]⟩, ⟨0, some (L26.map f32)⟩, ⟨0, some (a4.map f32)⟩, ⟨1, none⟩, ⟨1, some (([x13] : List F).map f32)⟩]) (TOp.buildSlice_o (g := ⟨0, none⟩) (za := f32 (some 0)) (qs := [(0, [f32 x13])]) 4 rfl und26 siz28 zer28 rfl zel28 rfl rfl ⟨rfl, ⟨_, ALe.refl _, rfl⟩, trivial⟩ rfl)<|zN ?_
     refine RAny.more (i0 := 5) (l := [7, 12]) (by kernel_rfl) (RAnys.cons rfl ?_ (RAnys.cons rfl ?_ (RAnys.cons rfl ?_ RAnys.nil)))
     ·refine yd rfl (oref 1 0 0 a3.length) (TOp.load1_o rfl rfl agg26 rfl rfl)<|zN ?_
      refine RAny.more (i0 := 7) (l := [12]) (by kernel_rfl) (RAnys.cons rfl ?_ (RAnys.cons rfl ?_ RAnys.nil))
      ·refine ye rfl (oref 3 2 0 1) ([⟨0, some [oref 1 0 0 a3.length, oref 2 0 0 a4.length, f32 a2]⟩, ⟨0, some (L26.map f32)⟩, ⟨0, some (a4.map f32)⟩, ⟨2, some (([x13] : List F).map f32)⟩, ⟨1, some (([x13] : List F).map f32)⟩]) (TOp.buildSlice_o (g := ⟨1, none⟩) (za := f32 (some 0)) (qs := [(0, [f32 x13])]) 3 rfl und26 siz28 zer28 rfl zel28 rfl rfl ⟨rfl, ⟨_, ALe.refl _, rfl⟩, trivial⟩ rfl)<|zN ?_
       refine RAny.more (i0 := 8) (l := [12]) (by kernel_rfl) (RAnys.cons rfl ?_ (RAnys.cons rfl ?_ RAnys.nil))
       ·refine ROps.app (f := f32) (xs := L26) (ys := ([x13] : List F)) (Γ' := [⟨0, some [oref 1 0 0 a3.length, oref 2 0 0 a4.length, f32 a2]⟩, ⟨1, some ((L26 ++ ([x13] : List F)).map f32)⟩, ⟨0, some (a4.map f32)⟩, ⟨2, some (([x13] : List F).map f32)⟩, ⟨1, some (([x13] : List F).map f32)⟩]) rfl pun26 inf28 rfl rfl rfl rfl rfl rfl rfl rfl rfl (by simp [hl27]) (ReadAs.own rfl (by simp)) (ones_map (fun _ => rfl)) (ap_by hm22) (ap_mx hm22) rfl<|zN ?_
        refine RAny.more (i0 := 12) (l := []) (by kernel_rfl) (RAnys.cons rfl ?_ RAnys.nil)
        refine yd rfl (oref 2 0 0 a4.length) (TOp.load1_o rfl rfl agg26 rfl rfl)<|zN ?_
        refine RAny.more (i0 := 15) (l := []) (by kernel_rfl) (RAnys.cons rfl ?_ RAnys.nil)
        refine ROps.app (f := f32) (xs := a4) (ys := ([x13] : List F)) (Γ' := [⟨0, some [oref 1 0 0 a3.length, oref 2 0 0 a4.length, f32 a2]⟩, ⟨1, some ((L26 ++ ([x13] : List F)).map f32)⟩, ⟨1, some ((a4 ++ ([x13] : List F)).map f32)⟩, ⟨2, some (([x13] : List F).map f32)⟩, ⟨1, some (([x13] : List F).map f32)⟩]) rfl pun26 inf28 rfl rfl rfl rfl rfl rfl rfl rfl rfl (by simp) (ReadAs.own rfl (by simp)) (ones_map (fun _ => rfl)) (ap_by hm23) (ap_mx hm23) rfl<|zN ?_
        refine RAny.take 16 (r := optr 0 0 0) rfl (by kernel_rfl) (by kernel_rfl) (by kernel_rfl) rfl rfl (POp.nilCheck_optr rfl rfl)<|RAny.take 17 (r := optr 0 0 0) rfl (by kernel_rfl) (by kernel_rfl) (by kernel_rfl) rfl rfl (POp.fao und93 rfl siz26 rfl rfl rfl) ?_
        refine RAny.more (i0 := 18) (l := []) (by kernel_rfl) (RAnys.cons rfl ?_ RAnys.nil)
        refine ys (oref 1 1 0 (a3.length + 1)) [oref 1 1 0 (a3.length + 1), oref 2 0 0 a4.length, f32 a2] ([⟨0, some [oref 1 1 0 (a3.length + 1), oref 2 0 0 a4.length, f32 a2]⟩, ⟨1, some ((L26 ++ ([x13] : List F)).map f32)⟩, ⟨1, some ((a4 ++ ([x13] : List F)).map f32)⟩, ⟨2, some (([x13] : List F).map f32)⟩, ⟨1, some (([x13] : List F).map f32)⟩]) siz26<|zN ?_
        refine RAny.take 19 (r := optr 0 0 0) rfl (by kernel_rfl) (by kernel_rfl) (by kernel_rfl) rfl rfl (POp.nilCheck_optr rfl rfl)<|RAny.take 20 (r := optr 0 0 1) rfl (by kernel_rfl) (by kernel_rfl) (by kernel_rfl) rfl rfl (POp.fao und93 rfl siz26 rfl rfl rfl) ?_
        refine RAny.more (i0 := 21) (l := []) (by kernel_rfl) (RAnys.cons rfl ?_ RAnys.nil)
        refine ys (oref 2 1 0 (a4.length + 1)) [oref 1 1 0 (a3.length + 1), oref 2 1 0 (a4.length + 1), f32 a2] ([⟨0, some [oref 1 1 0 (a3.length + 1), oref 2 1 0 (a4.length + 1), f32 a2]⟩, ⟨1, some ((L26 ++ ([x13] : List F)).map f32)⟩, ⟨1, some ((a4 ++ ([x13] : List F)).map f32)⟩, ⟨2, some (([x13] : List F).map f32)⟩, ⟨1, some (([x13] : List F).map f32)⟩]) siz26<|zN ?_
        refine RAny.done (by kernel_rfl) ?_
        exact ⟨⟨aR, aR, aR, aR, aR, aR, aR, aR, aR, aR, aR, aR, aR, aR, aR, aR, aR, aR, aR, aR, aR, aR, trivial⟩, ⟨⟨rfl, .inr rfl⟩, ⟨rfl, .inr rfl⟩, ⟨rfl, .inr rfl⟩, ⟨rfl, .inr rfl⟩, ⟨rfl, .inr rfl⟩, trivial⟩⟩
       ·refine yd rfl (oref 2 0 0 a4.length) (TOp.load1_o rfl rfl agg26 rfl rfl)<|zN ?_
        refine RAny.more (i0 := 8) (l := []) (by kernel_rfl) (RAnys.cons rfl ?_ RAnys.nil)
        refine ROps.app (f := f32) (xs := L26) (ys := ([x13] : List F)) (Γ' := [⟨0, some [oref 1 0 0 a3.length, oref 2 0 0 a4.length, f32 a2]⟩, ⟨1, some ((L26 ++ ([x13] : List F)).map f32)⟩, ⟨0, some (a4.map f32)⟩, ⟨2, some (([x13] : List F).map f32)⟩, ⟨1, some (([x13] : List F).map f32)⟩]) rfl pun26 inf28 rfl rfl rfl rfl rfl rfl rfl rfl rfl (by simp [hl27]) (ReadAs.own rfl (by simp)) (ones_map (fun _ => rfl)) (ap_by hm22) (ap_mx hm22) rfl<|zN ?_
        refine RAny.more (i0 := 15) (l := []) (by kernel_rfl) (RAnys.cons rfl ?_ RAnys.nil)
        refine ROps.app (f := f32) (xs := a4) (ys := ([x13] : List F)) (Γ' := [⟨0, some [oref 1 0 0 a3.length, oref 2 0 0 a4.length, f32 a2]⟩, ⟨1, some ((L26 ++ ([x13] : List F)).map f32)⟩, ⟨1, some ((a4 ++ ([x13] : List F)).map f32)⟩, ⟨2, some (([x13] : List F).map f32)⟩, ⟨1, some (([x13] : List F).map f32)⟩]) rfl pun26 inf28 rfl rfl rfl rfl rfl rfl rfl rfl rfl (by simp) (ReadAs.own rfl (by simp)) (ones_map (fun _ => rfl)) (ap_by hm23) (ap_mx hm23) rfl<|zN ?_
        refine RAny.take 16 (r := optr 0 0 0) rfl (by kernel_rfl) (by kernel_rfl) (by kernel_rfl) rfl rfl (POp.nilCheck_optr rfl rfl)<|RAny.take 17 (r := optr 0 0 0) rfl (by kernel_rfl) (by kernel_rfl) (by kernel_rfl) rfl rfl (POp.fao und93 rfl siz26 rfl rfl rfl) ?_
        refine RAny.more (i0 := 18) (l := []) (by kernel_rfl) (RAnys.cons rfl ?_ RAnys.nil)
        refine ys (oref 1 1 0 (a3.length + 1)) [oref 1 1 0 (a3.length + 1), oref 2 0 0 a4.length, f32 a2] ([⟨0, some [oref 1 1 0 (a3.length + 1), oref 2 0 0 a4.length, f32 a2]⟩, ⟨1, some ((L26 ++ ([x13] : List F)).map f32)⟩, ⟨1, some ((a4 ++ ([x13] : List F)).map f32)⟩, ⟨2, some (([x13] : List F).map f32)⟩, ⟨1, some (([x13] : List F).map f32)⟩]) siz26<|zN ?_
        refine RAny.take 19 (r := optr 0 0 0) rfl (by kernel_rfl) (by kernel_rfl) (by kernel_rfl) rfl rfl (POp.nilCheck_optr rfl rfl)<|RAny.take 20 (r := optr 0 0 1) rfl (by kernel_rfl) (by kernel_rfl) (by kernel_rfl) rfl rfl (POp.fao und93 rfl siz26 rfl rfl rfl) ?_
        refine RAny.more (i0 := 21) (l := []) (by kernel_rfl) (RAnys.cons rfl ?_ RAnys.nil)
        refine ys (oref 2 1 0 (a4.length + 1)) [oref 1 1 0 (a3.length + 1), oref 2 1 0 (a4.length + 1), f32 a2] ([⟨0, some [oref 1 1 0 (a3.length + 1), oref 2 1 0 (a4.length + 1), f32 a2]⟩, ⟨1, some ((L26 ++ ([x13] : List F)).map f32)⟩, ⟨1, some ((a4 ++ ([x13] : List F)).map f32)⟩, ⟨2, some (([x13] : List F).map f32)⟩, ⟨1, some (([x13] : List F).map f32)⟩]) siz26<|zN ?_
        refine RAny.done (by kernel_rfl) ?_
        exact ⟨⟨aR, aR, aR, aR, aR, aR, aR, aR, aR, aR, aR, aR, aR, aR, aR, aR, aR, aR, aR, aR, aR, aR, trivial⟩, ⟨⟨rfl, .inr rfl⟩, ⟨rfl, .inr rfl⟩, ⟨rfl, .inr rfl⟩, ⟨rfl, .inr rfl⟩, ⟨rfl, .inr rfl⟩, trivial⟩⟩
      ·refine yd rfl (oref 2 0 0 a4.length) (TOp.load1_o rfl rfl agg26 rfl rfl)<|zN ?_
       refine RAny.more (i0 := 7) (l := []) (by kernel_rfl) (RAnys.cons rfl ?_ RAnys.nil)
       refine ye rfl (oref 3 2 0 1) ([⟨0, some [oref 1 0 0 a3.length, oref 2 0 0 a4.length, f32 a2]⟩, ⟨0, some (L26.map f32)⟩, ⟨0, some (a4.map f32)⟩, ⟨2, some (([x13] : List F).map f32)⟩, ⟨1, some (([x13] : List F).map f32)⟩]) (TOp.buildSlice_o (g := ⟨1, none⟩) (za := f32 (some 0)) (qs := [(0, [f32 x13])]) 3 rfl und26 siz28 zer28 rfl zel28 rfl rfl ⟨rfl, ⟨_, ALe.refl _, rfl⟩, trivial⟩ rfl)<|zN ?_
       refine RAny.more (i0 := 8) (l := []) (by kernel_rfl) (RAnys.cons rfl ?_ RAnys.nil)
       refine ROps.app (f := f32) (xs := L26) (ys := ([x13] : List F)) (Γ' := [⟨0, some [oref 1 0 0 a3.length, oref 2 0 0 a4.length, f32 a2]⟩, ⟨1, some ((L26 ++ ([x13] : List F)).map f32)⟩, ⟨0, some (a4.map f32)⟩, ⟨2, some (([x13] : List F).map f32)⟩, ⟨1, some (([x13] : List F).map f32)⟩]) rfl pun26 inf28 rfl rfl rfl rfl rfl rfl rfl rfl rfl (by simp [hl27]) (ReadAs.own rfl (by simp)) (ones_map (fun _ => rfl)) (ap_by hm22) (ap_mx hm22) rfl<|zN ?_
       refine RAny.more (i0 := 15) (l := []) (by kernel_rfl) (RAnys.cons rfl ?_ RAnys.nil)
       refine ROps.app (f := f32) (xs := a4) (ys := ([x13] : List F)) (Γ' := [⟨0, some [oref 1 0 0 a3.length, oref 2 0 0 a4.length, f32 a2]⟩, ⟨1, some ((L26 ++ ([x13] : List F)).map f32)⟩, ⟨1, some ((a4 ++ ([x13] : List F)).map f32)⟩, ⟨2, some (([x13] : List F).map f32)⟩, ⟨1, some (([x13] : List F).map f32)⟩]) rfl pun26 inf28 rfl rfl rfl rfl rfl rfl rfl rfl rfl (by simp) (ReadAs.own rfl (by simp)) (ones_map (fun _ => rfl)) (ap_by hm23) (ap_mx hm23) rfl<|zN ?_
       refine RAny.take 16 (r := optr 0 0 0) rfl (by kernel_rfl) (by kernel_rfl) (by kernel_rfl) rfl rfl (POp.nilCheck_optr rfl rfl)<|RAny.take 17 (r := optr 0 0 0) rfl (by kernel_rfl) (by kernel_rfl) (by kernel_rfl) rfl rfl (POp.fao und93 rfl siz26 rfl rfl rfl) ?_
       refine RAny.more (i0 := 18) (l := []) (by kernel_rfl) (RAnys.cons rfl ?_ RAnys.nil)
       refine ys (oref 1 1 0 (a3.length + 1)) [oref 1 1 0 (a3.length + 1), oref 2 0 0 a4.length, f32 a2] ([⟨0, some [oref 1 1 0 (a3.length + 1), oref 2 0 0 a4.length, f32 a2]⟩, ⟨1, some ((L26 ++ ([x13] : List F)).map f32)⟩, ⟨1, some ((a4 ++ ([x13] : List F)).map f32)⟩, ⟨2, some (([x13] : List F).map f32)⟩, ⟨1, some (([x13] : List F).map f32)⟩]) siz26<|zN ?_
       refine RAny.take 19 (r := optr 0 0 0) rfl (by kernel_rfl) (by kernel_rfl) (by kernel_rfl) rfl rfl (POp.nilCheck_optr rfl rfl)<|RAny.take 20 (r := optr 0 0 1) rfl (by kernel_rfl) (by kernel_rfl) (by kernel_rfl) rfl rfl (POp.fao und93 rfl siz26 rfl rfl rfl) ?_
       refine RAny.more (i0 := 21) (l := []) (by kernel_rfl) (RAnys.cons rfl ?_ RAnys.nil)
       refine ys (oref 2 1 0 (a4.length + 1)) [oref 1 1 0 (a3.length + 1), oref 2 1 0 (a4.length + 1), f32 a2] ([⟨0, some [oref 1 1 0 (a3.length + 1), oref 2 1 0 (a4.length + 1), f32 a2]⟩, ⟨1, some ((L26 ++ ([x13] : List F)).map f32)⟩, ⟨1, some ((a4 ++ ([x13] : List F)).map f32)⟩, ⟨2, some (([x13] : List F).map f32)⟩, ⟨1, some (([x13] : List F).map f32)⟩]) siz26<|zN ?_
       refine RAny.done (by kernel_rfl) ?_
       exact ⟨⟨aR, aR, aR, aR, aR, aR, aR, aR, aR, aR, aR, aR, aR, aR, aR, aR, aR, aR, aR, aR, aR, aR, trivial⟩, ⟨⟨rfl, .inr rfl⟩, ⟨rfl, .inr rfl⟩, ⟨rfl, .inr rfl⟩, ⟨rfl, .inr rfl⟩, ⟨rfl, .inr rfl⟩, trivial⟩⟩
     ·refine ye rfl (oref 3 2 0 1) ([⟨0, some [oref 1 0 0 a3.length, oref 2 0 0 a4.length, f32 a2]⟩, ⟨0, some (L26.map f32)⟩, ⟨0, some (a4.map f32)⟩, ⟨2, some (([x13] : List F).map f32)⟩, ⟨1, some (([x13] : List F).map f32)⟩]) (TOp.buildSlice_o (g := ⟨1, none⟩) (za := f32 (some 0)) (qs := [(0, [f32 x13])]) 3 rfl und26 siz28 zer28 rfl zel28 rfl rfl ⟨rfl, ⟨_, ALe.refl _, rfl⟩, trivial⟩ rfl)<|zN ?_
      refine RAny.more (i0 := 5) (l := [12]) (by kernel_rfl) (RAnys.cons rfl ?_ (RAnys.cons rfl ?_ RAnys.nil))
      ·refine yd rfl (oref 1 0 0 a3.length) (TOp.load1_o rfl rfl agg26 rfl rfl)<|zN ?_
       refine RAny.more (i0 := 8) (l := [12]) (by kernel_rfl) (RAnys.cons rfl ?_ (RAnys.cons rfl ?_ RAnys.nil))
       ·refine ROps.app (f := f32) (xs := L26) (ys := ([x13] : List F)) (Γ' := [⟨0, some [oref 1 0 0 a3.length, oref 2 0 0 a4.length, f32 a2]⟩, ⟨1, some ((L26 ++ ([x13] : List F)).map f32)⟩, ⟨0, some (a4.map f32)⟩, ⟨2, some (([x13] : List F).map f32)⟩, ⟨1, some (([x13] : List F).map f32)⟩]) rfl pun26 inf28 rfl rfl rfl rfl rfl rfl rfl rfl rfl (by simp [hl27]) (ReadAs.own rfl (by simp)) (ones_map (fun _ => rfl)) (ap_by hm22) (ap_mx hm22) rfl<|zN ?_
        refine RAny.more (i0 := 12) (l := []) (by kernel_rfl) (RAnys.cons rfl ?_ RAnys.nil)
        refine yd rfl (oref 2 0 0 a4.length) (TOp.load1_o rfl rfl agg26 rfl rfl)<|zN ?_
        refine RAny.more (i0 := 15) (l := []) (by kernel_rfl) (RAnys.cons rfl ?_ RAnys.nil)
        refine ROps.app (f := f32) (xs := a4) (ys := ([x13] : List F)) (Γ' := [⟨0, some [oref 1 0 0 a3.length, oref 2 0 0 a4.length, f32 a2]⟩, ⟨1, some ((L26 ++ ([x13] : List F)).map f32)⟩, ⟨1, some ((a4 ++ ([x13] : List F)).map f32)⟩, ⟨2, some (([x13] : List F).map f32)⟩, ⟨1, some (([x13] : List F).map f32)⟩]) rfl pun26 inf28 rfl rfl rfl rfl rfl rfl rfl rfl rfl (by simp) (ReadAs.own rfl (by simp)) (ones_map (fun _ => rfl)) (ap_by hm23) (ap_mx hm23) rfl<|zN ?_
        refine RAny.take 16 (r := optr 0 0 0) rfl (by kernel_rfl) (by kernel_rfl) (by kernel_rfl) rfl rfl (POp.nilCheck_optr rfl rfl)<|RAny.take 17 (r := optr 0 0 0) rfl (by kernel_rfl) (by kernel_rfl) (by kernel_rfl) rfl rfl (POp.fao und93 rfl siz26 rfl rfl rfl) ?_
        refine RAny.more (i0 := 18) (l := []) (by kernel_rfl) (RAnys.cons rfl ?_ RAnys.nil)
        refine ys (oref 1 1 0 (a3.length + 1)) [oref 1 1 0 (a3.length + 1), oref 2 0 0 a4.length, f32 a2] ([⟨0, some [oref 1 1 0 (a3.length + 1), oref 2 0 0 a4.length, f32 a2]⟩, ⟨1, some ((L26 ++ ([x13] : List F)).map f32)⟩, ⟨1, some ((a4 ++ ([x13] : List F)).map f32)⟩, ⟨2, some (([x13] : List F).map f32)⟩, ⟨1, some (([x13] : List F).map f32)⟩]) siz26<|zN ?_
        refine RAny.take 19 (r := optr 0 0 0) rfl (by kernel_rfl) (by kernel_rfl) (by kernel_rfl) rfl rfl (POp.nilCheck_optr rfl rfl)<|RAny.take 20 (r := optr 0 0 1) rfl (by kernel_rfl) (by kernel_rfl) (by kernel_rfl) rfl rfl (POp.fao und93 rfl siz26 rfl rfl rfl) ?_
        refine RAny.more (i0 := 21) (l := []) (by kernel_rfl) (RAnys.cons rfl ?_ RAnys.nil)
        refine ys (oref 2 1 0 (a4.length + 1)) [oref 1 1 0 (a3.length + 1), oref 2 1 0 (a4.length + 1), f32 a2] ([⟨0, some [oref 1 1 0 (a3.length + 1), oref 2 1 0 (a4.length + 1), f32 a2]⟩, ⟨1, some ((L26 ++ ([x13] : List F)).map f32)⟩, ⟨1, some ((a4 ++ ([x13] : List F)).map f32)⟩, ⟨2, some (([x13] : List F).map f32)⟩, ⟨1, some (([x13] : List F).map f32)⟩]) siz26<|zN ?_
        refine RAny.done (by kernel_rfl) ?_
        exact ⟨⟨aR, aR, aR, aR, aR, aR, aR, aR, aR, aR, aR, aR, aR, aR, aR, aR, aR, aR, aR, aR, aR, aR, trivial⟩, ⟨⟨rfl, .inr rfl⟩, ⟨rfl, .inr rfl⟩, ⟨rfl, .inr rfl⟩, ⟨rfl, .inr rfl⟩, ⟨rfl, .inr rfl⟩, trivial⟩⟩
       ·refine yd rfl (oref 2 0 0 a4.length) (TOp.load1_o rfl rfl agg26 rfl rfl)<|zN ?_
        refine RAny.more (i0 := 8) (l := []) (by kernel_rfl) (RAnys.cons rfl ?_ RAnys.nil)
        refine ROps.app (f := f32) (xs := L26) (ys := ([x13] : List F)) (Γ' := [⟨0, some [oref 1 0 0 a3.length, oref 2 0 0 a4.length, f32 a2]⟩, ⟨1, some ((L26 ++ ([x13] : List F)).map f32)⟩, ⟨0, some (a4.map f32)⟩, ⟨2, some (([x13] : List F).map f32)⟩, ⟨1, some (([x13] : List F).map f32)⟩]) rfl pun26 inf28 rfl rfl rfl rfl rfl rfl rfl rfl rfl (by simp [hl27]) (ReadAs.own rfl (by simp)) (ones_map (fun _ => rfl)) (ap_by hm22) (ap_mx hm22) rfl<|zN ?_
        refine RAny.more (i0 := 15) (l := []) (by kernel_rfl) (RAnys.cons rfl ?_ RAnys.nil)
        refine ROps.app (f := f32) (xs := a4) (ys := ([x13] : List F)) (Γ' := [⟨0, some [oref 1 0 0 a3.length, oref 2 0 0 a4.length, f32 a2]⟩, ⟨1, some ((L26 ++ ([x13] : List F)).map f32)⟩, ⟨1, some ((a4 ++ ([x13] : List F)).map f32)⟩, ⟨2, some (([x13] : List F).map f32)⟩, ⟨1, some (([x13] : List F).map f32)⟩]) rfl pun26 inf28 rfl rfl rfl rfl rfl rfl rfl rfl rfl (by simp) (ReadAs.own rfl (by simp)) (ones_map (fun _ => rfl)) (ap_by hm23) (ap_mx hm23) rfl<|zN ?_
        refine RAny.take 16 (r := optr 0 0 0) rfl (by kernel_rfl) (by kernel_rfl) (by kernel_rfl) rfl rfl (POp.nilCheck_optr rfl rfl)<|RAny.take 17 (r := optr 0 0 0) rfl (by kernel_rfl) (by kernel_rfl) (by kernel_rfl) rfl rfl (POp.fao und93 rfl siz26 rfl rfl rfl) ?_
        refine RAny.more (i0 := 18) (l := []) (by kernel_rfl) (RAnys.cons rfl ?_ RAnys.nil)
        refine ys (oref 1 1 0 (a3.length + 1)) [oref 1 1 0 (a3.length + 1), oref 2 0 0 a4.length, f32 a2] ([⟨0, some [oref 1 1 0 (a3.length + 1), oref 2 0 0 a4.length, f32 a2]⟩, ⟨1, some ((L26 ++ ([x13] : List F)).map f32)⟩, ⟨1, some ((a4 ++ ([x13] : List F)).map f32)⟩, ⟨2, some (([x13] : List F).map f32)⟩, ⟨1, some (([x13] : List F).map f32)⟩]) siz26<|zN ?_
        refine RAny.take 19 (r := optr 0 0 0) rfl (by kernel_rfl) (by kernel_rfl) (by kernel_rfl) rfl rfl (POp.nilCheck_optr rfl rfl)<|RAny.take 20 (r := optr 0 0 1) rfl (by kernel_rfl) (by kernel_rfl) (by kernel_rfl) rfl rfl (POp.fao und93 rfl siz26 rfl rfl rfl) ?_
        refine RAny.more (i0 := 21) (l := []) (by kernel_rfl) (RAnys.cons rfl ?_ RAnys.nil)
        refine ys (oref 2 1 0 (a4.length + 1)) [oref 1 1 0 (a3.length + 1), oref 2 1 0 (a4.length + 1), f32 a2] ([⟨0, some [oref 1 1 0 (a3.length + 1), oref 2 1 0 (a4.length + 1), f32 a2]⟩, ⟨1, some ((L26 ++ ([x13] : List F)).map f32)⟩, ⟨1, some ((a4 ++ ([x13] : List F)).map f32)⟩, ⟨2, some (([x13] : List F).map f32)⟩, ⟨1, some (([x13] : List F).map f32)⟩]) siz26<|zN ?_
        refine RAny.done (by kernel_rfl) ?_
        exact ⟨⟨aR, aR, aR, aR, aR, aR, aR, aR, aR, aR, aR, aR, aR, aR, aR, aR, aR, aR, aR, aR, aR, aR, trivial⟩, ⟨⟨rfl, .inr rfl⟩, ⟨rfl, .inr rfl⟩, ⟨rfl, .inr rfl⟩, ⟨rfl, .inr rfl⟩, ⟨rfl, .inr rfl⟩, trivial⟩⟩
      ·refine yd rfl (oref 2 0 0 a4.length) (TOp.load1_o rfl rfl agg26 rfl rfl)<|zN ?_
       refine RAny.more (i0 := 5) (l := []) (by kernel_rfl) (RAnys.cons rfl ?_ RAnys.nil)
       refine yd rfl (oref 1 0 0 a3.length) (TOp.load1_o rfl rfl agg26 rfl rfl)<|zN ?_
       refine RAny.more (i0 := 8) (l := []) (by kernel_rfl) (RAnys.cons rfl ?_ RAnys.nil)
       refine ROps.app (f := f32) (xs := L26) (ys := ([x13] : List F)) (Γ' := [⟨0, some [oref 1 0 0 a3.length, oref 2 0 0 a4.length, f32 a2]⟩, ⟨1, some ((L26 ++ ([x13] : List F)).map f32)⟩, ⟨0, some (a4.map f32)⟩, ⟨2, some (([x13] : List F).map f32)⟩, ⟨1, some (([x13] : List F).map f32)⟩]) rfl pun26 inf28 rfl rfl rfl rfl rfl rfl rfl rfl rfl (by simp [hl27]) (ReadAs.own rfl (by simp)) (ones_map (fun _ => rfl)) (ap_by hm22) (ap_mx hm22) rfl<|zN ?_
       refine RAny.more (i0 := 15) (l := []) (by kernel_rfl) (RAnys.cons rfl ?_ RAnys.nil)
       refine ROps.app (f := f32) (xs := a4) (ys := ([x13] : List F)) (Γ' := [⟨0, some [oref 1 0 0 a3.length, oref 2 0 0 a4.length, f32 a2]⟩, ⟨1, some ((L26 ++ ([x13] : List F)).map f32)⟩, ⟨1, some ((a4 ++ ([x13] : List F)).map f32)⟩, ⟨2, some (([x13] : List F).map f32)⟩, ⟨1, some (([x13] : List F).map f32)⟩]) rfl pun26 inf28 rfl rfl rfl rfl rfl rfl rfl rfl rfl (by simp) (ReadAs.own rfl (by simp)) (ones_map (fun _ => rfl)) (ap_by hm23) (ap_mx hm23) rfl<|zN ?_
       refine RAny.take 16 (r := optr 0 0 0) rfl (by kernel_rfl) (by kernel_rfl) (by kernel_rfl) rfl rfl (POp.nilCheck_optr rfl rfl)<|RAny.take 17 (r := optr 0 0 0) rfl (by kernel_rfl) (by kernel_rfl) (by kernel_rfl) rfl rfl (POp.fao und93 rfl siz26 rfl rfl rfl) ?_
       refine RAny.more (i0 := 18) (l := []) (by kernel_rfl) (RAnys.cons rfl ?_ RAnys.nil)
       refine ys (oref 1 1 0 (a3.length + 1)) [oref 1 1 0 (a3.length + 1), oref 2 0 0 a4.length, f32 a2] ([⟨0, some [oref 1 1 0 (a3.length + 1), oref 2 0 0 a4.length, f32 a2]⟩, ⟨1, some ((L26 ++ ([x13] : List F)).map f32)⟩, ⟨1, some ((a4 ++ ([x13] : List F)).map f32)⟩, ⟨2, some (([x13] : List F).map f32)⟩, ⟨1, some (([x13] : List F).map f32)⟩]) siz26<|zN ?_
       refine RAny.take 19 (r := optr 0 0 0) rfl (by kernel_rfl) (by kernel_rfl) (by kernel_rfl) rfl rfl (POp.nilCheck_optr rfl rfl)<|RAny.take 20 (r := optr 0 0 1) rfl (by kernel_rfl) (by kernel_rfl) (by kernel_rfl) rfl rfl (POp.fao und93 rfl siz26 rfl rfl rfl) ?_
       refine RAny.more (i0 := 21) (l := []) (by kernel_rfl) (RAnys.cons rfl ?_ RAnys.nil)
       refine ys (oref 2 1 0 (a4.length + 1)) [oref 1 1 0 (a3.length + 1), oref 2 1 0 (a4.length + 1), f32 a2] ([⟨0, some [oref 1 1 0 (a3.length + 1), oref 2 1 0 (a4.length + 1), f32 a2]⟩, ⟨1, some ((L26 ++ ([x13] : List F)).map f32)⟩, ⟨1, some ((a4 ++ ([x13] : List F)).map f32)⟩, ⟨2, some (([x13] : List F).map f32)⟩, ⟨1, some (([x13] : List F).map f32)⟩]) siz26<|zN ?_
       refine RAny.done (by kernel_rfl) ?_
       exact ⟨⟨aR, aR, aR, aR, aR, aR, aR, aR, aR, aR, aR, aR, aR, aR, aR, aR, aR, aR, aR, aR, aR, aR, trivial⟩, ⟨⟨rfl, .inr rfl⟩, ⟨rfl, .inr rfl⟩, ⟨rfl, .inr rfl⟩, ⟨rfl, .inr rfl⟩, ⟨rfl, .inr rfl⟩, trivial⟩⟩
     ·refine yd rfl (oref 2 0 0 a4.length) (TOp.load1_o rfl rfl agg26 rfl rfl)<|zN ?_
      refine RAny.more (i0 := 5) (l := [7]) (by kernel_rfl) (RAnys.cons rfl ?_ (RAnys.cons rfl ?_ RAnys.nil))
      ·refine yd rfl (oref 1 0 0 a3.length) (TOp.load1_o rfl rfl agg26 rfl rfl)<|zN ?_
       refine RAny.more (i0 := 7) (l := []) (by kernel_rfl) (RAnys.cons rfl ?_ RAnys.nil)
       refine ye rfl (oref 3 2 0 1) ([⟨0, some [oref 1 0 0 a3.length, oref 2 0 0 a4.length, f32 a2]⟩, ⟨0, some (L26.map f32)⟩, ⟨0, some (a4.map f32)⟩, ⟨2, some (([x13] : List F).map f32)⟩, ⟨1, some (([x13] : List F).map f32)⟩]) (TOp.buildSlice_o (g := ⟨1, none⟩) (za := f32 (some 0)) (qs := [(0, [f32 x13])]) 3 rfl und26 siz28 zer28 rfl zel28 rfl rfl ⟨rfl, ⟨_, ALe.refl _, rfl⟩, trivial⟩ rfl)<|zN ?_
       refine RAny.more (i0 := 8) (l := []) (by kernel_rfl) (RAnys.cons rfl ?_ RAnys.nil)
       refine ROps.app (f := f32) (xs := L26) (ys := ([x13] : List F)) (Γ' := [⟨0, some [oref 1 0 0 a3.length, oref 2 0 0 a4.length, f32 a2]⟩, ⟨1, some ((L26 ++ ([x13] : List F)).map f32)⟩, ⟨0, some (a4.map f32)⟩, ⟨2, some (([x13] : List F).map f32)⟩, ⟨1, some (([x13] : List F).map f32)⟩]) rfl pun26 inf28 rfl rfl rfl rfl rfl rfl rfl rfl rfl (by simp [hl27]) (ReadAs.own rfl (by simp)) (ones_map (fun _ => rfl)) (ap_by hm22) (ap_mx hm22) rfl<|zN ?_
       refine RAny.more (i0 := 15) (l := []) (by kernel_rfl) (RAnys.cons rfl ?_ RAnys.nil)
       refine ROps.app (f := f32) (xs := a4) (ys := ([x13] : List F)) (Γ' := [⟨0, some [oref 1 0 0 a3.length, oref 2 0 0 a4.length, f32 a2]⟩, ⟨1, some ((L26 ++ ([x13] : List F)).map f32)⟩, ⟨1, some ((a4 ++ ([x13] : List F)).map f32)⟩, ⟨2, some (([x13] : List F).map f32)⟩, ⟨1, some (([x13] : List F).map f32)⟩]) rfl pun26 inf28 rfl rfl rfl rfl rfl rfl rfl rfl rfl (by simp) (ReadAs.own rfl (by simp)) (ones_map (fun _ => rfl)) (ap_by hm23) (ap_mx hm23) rfl<|zN ?_
       refine RAny.take 16 (r := optr 0 0 0) rfl (by kernel_rfl) (by kernel_rfl) (by kernel_rfl) rfl rfl (POp.nilCheck_optr rfl rfl)<|RAny.take 17 (r := optr 0 0 0) rfl (by kernel_rfl) (by kernel_rfl) (by kernel_rfl) rfl rfl (POp.fao und93 rfl siz26 rfl rfl rfl) ?_
       refine RAny.more (i0 := 18) (l := []) (by kernel_rfl) (RAnys.cons rfl ?_ RAnys.nil)
       refine ys (oref 1 1 0 (a3.length + 1)) [oref 1 1 0 (a3.length + 1), oref 2 0 0 a4.length, f32 a2] ([⟨0, some [oref 1 1 0 (a3.length + 1), oref 2 0 0 a4.length, f32 a2]⟩, ⟨1, some ((L26 ++ ([x13] : List F)).map f32)⟩, ⟨1, some ((a4 ++ ([x13] : List F)).map f32)⟩, ⟨2, some (([x13] : List F).map f32)⟩, ⟨1, some (([x13] : List F).map f32)⟩]) siz26<|zN ?_
       refine RAny.take 19 (r := optr 0 0 0) rfl (by kernel_rfl) (by kernel_rfl) (by kernel_rfl) rfl rfl (POp.nilCheck_optr rfl rfl)<|RAny.take 20 (r := optr 0 0 1) rfl (by kernel_rfl) (by kernel_rfl) (by kernel_rfl) rfl rfl (POp.fao und93 rfl siz26 rfl rfl rfl) ?_
       refine RAny.more (i0 := 21) (l := []) (by kernel_rfl) (RAnys.cons rfl ?_ RAnys.nil)
       refine ys (oref 2 1 0 (a4.length + 1)) [oref 1 1 0 (a3.length + 1), oref 2 1 0 (a4.length + 1), f32 a2] ([⟨0, some [oref 1 1 0 (a3.length + 1), oref 2 1 0 (a4.length + 1), f32 a2]⟩, ⟨1, some ((L26 ++ ([x13] : List F)).map f32)⟩, ⟨1, some ((a4 ++ ([x13] : List F)).map f32)⟩, ⟨2, some (([x13] : List F).map f32)⟩, ⟨1, some (([x13] : List F).map f32)⟩]) siz26<|zN ?_
       refine RAny.done (by kernel_rfl) ?_
       exact ⟨⟨aR, aR, aR, aR, aR, aR, aR, aR, aR, aR, aR, aR, aR, aR, aR, aR, aR, aR, aR, aR, aR, aR, trivial⟩, ⟨⟨rfl, .inr rfl⟩, ⟨rfl, .inr rfl⟩, ⟨rfl, .inr rfl⟩, ⟨rfl, .inr rfl⟩, ⟨rfl, .inr rfl⟩, trivial⟩⟩
      ·refine ye rfl (oref 3 2 0 1) ([⟨0, some [oref 1 0 0 a3.length, oref 2 0 0 a4.length, f32 a2]⟩, ⟨0, some (L26.map f32)⟩, ⟨0, some (a4.map f32)⟩, ⟨2, some (([x13] : List F).map f32)⟩, ⟨1, some (([x13] : List F).map f32)⟩]) (TOp.buildSlice_o (g := ⟨1, none⟩) (za := f32 (some 0)) (qs := [(0, [f32 x13])]) 3 rfl und26 siz28 zer28 rfl zel28 rfl rfl ⟨rfl, ⟨_, ALe.refl _, rfl⟩, trivial⟩ rfl)<|zN ?_
       refine RAny.more (i0 := 5) (l := []) (by kernel_rfl) (RAnys.cons rfl ?_ RAnys.nil)
       refine yd rfl (oref 1 0 0 a3.length) (TOp.load1_o rfl rfl agg26 rfl rfl)<|zN ?_
       refine RAny.more (i0 := 8) (l := []) (by kernel_rfl) (RAnys.cons rfl ?_ RAnys.nil)
       refine ROps.app (f := f32) (xs := L26) (ys := ([x13] : List F)) (Γ' := [⟨0, some [oref 1 0 0 a3.length, oref 2 0 0 a4.length, f32 a2]⟩, ⟨1, some ((L26 ++ ([x13] : List F)).map f32)⟩, ⟨0, some (a4.map f32)⟩, ⟨2, some (([x13] : List F).map f32)⟩, ⟨1, some (([x13] : List F).map f32)⟩]) rfl pun26 inf28 rfl rfl rfl rfl rfl rfl rfl rfl rfl (by simp [hl27]) (ReadAs.own rfl (by simp)) (ones_map (fun _ => rfl)) (ap_by hm22) (ap_mx hm22) rfl<|zN ?_
       refine RAny.more (i0 := 15) (l := []) (by kernel_rfl) (RAnys.cons rfl ?_ RAnys.nil)
       refine ROps.app (f := f32) (xs := a4) (ys := ([x13] : List F)) (Γ' := [⟨0, some [oref 1 0 0 a3.length, oref 2 0 0 a4.length, f32 a2]⟩, ⟨1, some ((L26 ++ ([x13] : List F)).map f32)⟩, ⟨1, some ((a4 ++ ([x13] : List F)).map f32)⟩, ⟨2, some (([x13] : List F).map f32)⟩, ⟨1, some (([x13] : List F).map f32)⟩]) rfl pun26 inf28 rfl rfl rfl rfl rfl rfl rfl rfl rfl (by simp) (ReadAs.own rfl (by simp)) (ones_map (fun _ => rfl)) (ap_by hm23) (ap_mx hm23) rfl<|zN ?_
       refine RAny.take 16 (r := optr 0 0 0) rfl (by kernel_rfl) (by kernel_rfl) (by kernel_rfl) rfl rfl (POp.nilCheck_optr rfl rfl)<|RAny.take 17 (r := optr 0 0 0) rfl (by kernel_rfl) (by kernel_rfl) (by kernel_rfl) rfl rfl (POp.fao und93 rfl siz26 rfl rfl rfl) ?_
       refine RAny.more (i0 := 18) (l := []) (by kernel_rfl) (RAnys.cons rfl ?_ RAnys.nil)
       refine ys (oref 1 1 0 (a3.length + 1)) [oref 1 1 0 (a3.length + 1), oref 2 0 0 a4.length, f32 a2] ([⟨0, some [oref 1 1 0 (a3.length + 1), oref 2 0 0 a4.length, f32 a2]⟩, ⟨1, some ((L26 ++ ([x13] : List F)).map f32)⟩, ⟨1, some ((a4 ++ ([x13] : List F)).map f32)⟩, ⟨2, some (([x13] : List F).map f32)⟩, ⟨1, some (([x13] : List F).map f32)⟩]) siz26<|zN ?_
       refine RAny.take 19 (r := optr 0 0 0) rfl (by kernel_rfl) (by kernel_rfl) (by kernel_rfl) rfl rfl (POp.nilCheck_optr rfl rfl)<|RAny.take 20 (r := optr 0 0 1) rfl (by kernel_rfl) (by kernel_rfl) (by kernel_rfl) rfl rfl (POp.fao und93 rfl siz26 rfl rfl rfl) ?_
       refine RAny.more (i0 := 21) (l := []) (by kernel_rfl) (RAnys.cons rfl ?_ RAnys.nil)
       refine ys (oref 2 1 0 (a4.length + 1)) [oref 1 1 0 (a3.length + 1), oref 2 1 0 (a4.length + 1), f32 a2] ([⟨0, some [oref 1 1 0 (a3.length + 1), oref 2 1 0 (a4.length + 1), f32 a2]⟩, ⟨1, some ((L26 ++ ([x13] : List F)).map f32)⟩, ⟨1, some ((a4 ++ ([x13] : List F)).map f32)⟩, ⟨2, some (([x13] : List F).map f32)⟩, ⟨1, some (([x13] : List F).map f32)⟩]) siz26<|zN ?_
       refine RAny.done (by kernel_rfl) ?_
       exact ⟨⟨aR, aR, aR, aR, aR, aR, aR, aR, aR, aR, aR, aR, aR, aR, aR, aR, aR, aR, aR, aR, aR, aR, trivial⟩, ⟨⟨rfl, .inr rfl⟩, ⟨rfl, .inr rfl⟩, ⟨rfl, .inr rfl⟩, ⟨rfl, .inr rfl⟩, ⟨rfl, .inr rfl⟩, trivial⟩⟩
   ·rintro τ7 Γ7 ⟨hw7, hd7⟩
    refine RunC.wl hw7 hd7<|RunC.wl (τ' := [(0, optr 0 0 0), (10, f32 x13)]) (Γ' := [⟨0, some [oref 1 1 0 (a3.length + 1), oref 2 1 0 (a4.length + 1), f32 a2]⟩, ⟨1, some ((L26 ++ ([x13] : List F)).map f32)⟩, ⟨1, some ((a4 ++ ([x13] : List F)).map f32)⟩, ⟨2, none⟩, ⟨1, none⟩]) ⟨aR, aR, trivial⟩ ⟨⟨rfl, .inr rfl⟩, ⟨rfl, .inr rfl⟩, ⟨rfl, .inr rfl⟩, ⟨rfl, .inl rfl⟩, ⟨rfl, .inl rfl⟩, trivial⟩<|yS ?_
    obtain ⟨r28, hf24, h⟩ := oS h
    obtain ⟨x29, hx25, h⟩ := oL h
    obtain ⟨r30, hf26, h⟩ := oS h
    refine RunC.region_draw (Γ' := [⟨0, some [oref 1 1 0 (a3.length + 1), oref 2 1 0 (a4.length + 1), f32 a2]⟩, ⟨1, some ((L26 ++ ([x13] : List F)).map f32)⟩, ⟨1, some ((a4 ++ ([x13] : List F)).map f32)⟩, ⟨2, none⟩, ⟨1, none⟩]) 12 mixed 
     (tm rfl (optr 0 0 0) <|
     (tm rfl (optr 0 0 0) <|
     (tl rfl (optr 0 0 0) (LOp.nilCheck_optr rfl rfl) <|
     (tl rfl (optr 0 0 2) (LOp.fao und93 rfl siz28 rfl rfl rfl) <|
     (TR.d (r := f32 a2) (fs := []) rfl rfl (TOp.load1_o rfl rfl agg28 rfl rfl) <|
     (tm rfl (f32 x13) <|
     (tm rfl (f32 x13) <|
     (TR.d (r := f32 r28) (fs := []) rfl rfl (yc ent76 rfl rfl (bP bN0) (i_mul_ok x13 x13 r28 hf24)) <|
     (TR.d (r := f32 x29) (fs := []) rfl rfl (TOp.eqr (TOp.fop (.inr (.inl rfl)) rfl (OpF.const rfl (by kernel_rfl) (by kernel_rfl)) (OpF.tmp rfl)) (congrArg (f .f32) hx25)) <|
     (TR.d (r := f32 r30) (fs := []) rfl rfl (yc ent76 rfl rfl (bP bN0) (i_mul_ok a2 x29 r30 hf26)) <|
     (tl rfl (optr 0 0 0) (LOp.nilCheck_optr rfl rfl) <|
     (tl rfl (optr 0 0 2) (LOp.fao und93 rfl siz28 rfl rfl rfl) <|
     TR.nil)))))))))))) rfl (by kernel_rfl) rfl fills_nil rfl ?_
    iterate 12 refine ROps.dropS ?_
    refine ROps.drop0<|ys (f32 r30) [oref 1 1 0 (a3.length + 1), oref 2 1 0 (a4.length + 1), f32 r30] ([⟨0, some [oref 1 1 0 (a3.length + 1), oref 2 1 0 (a4.length + 1), f32 r30]⟩, ⟨1, some ((L26 ++ ([x13] : List F)).map f32)⟩, ⟨1, some ((a4 ++ ([x13] : List F)).map f32)⟩, ⟨2, none⟩, ⟨1, none⟩]) siz28<|zN ?_
    refine RunC.wl (τ' := [(0, optr 0 0 0)]) (Γ' := [⟨0, some [oref 1 1 0 (a3.length + 1), oref 2 1 0 (a4.length + 1), f32 r30]⟩, ⟨1, some ((L26 ++ ([x13] : List F)).map f32)⟩, ⟨1, some ((a4 ++ ([x13] : List F)).map f32)⟩, ⟨2, none⟩, ⟨1, none⟩]) ⟨aR, trivial⟩ ⟨⟨rfl, .inr rfl⟩, ⟨rfl, .inr rfl⟩, ⟨rfl, .inr rfl⟩, ⟨rfl, .inl rfl⟩, ⟨rfl, .inl rfl⟩, trivial⟩<|zQ<|ym rfl (optr 0 0 0)<|yl rfl (optr 0 0 0) (LOp.nilCheck_optr rfl rfl)<|yl rfl (optr 0 0 2) (LOp.fao und93 rfl siz28 rfl rfl rfl)<|yd rfl (f32 r30) (TOp.load1_o rfl rfl agg28 rfl rfl)<|yl rfl (b (flt .f32 (some 0) r30)) (LOp.fgt rfl (OpF.tmp rfl) (OpF.const rfl (by kernel_rfl) (by kernel_rfl)))<|ya rfl (b (flt .f32 (some 0) r30))<|zN ?_
    refine RunC.ret ?_
    have hq := oI h
    obtain ⟨hq0, hq⟩ := Prod.mk.inj hq
    obtain ⟨hq1, hq⟩ := Prod.mk.inj hq
    obtain ⟨hq2, hq⟩ := Prod.mk.inj hq
    subst q0
    subst q1
    subst q2
    subst q3
    exact yB (b (flt .f32 (some 0) r30)) [(0, 0), (1, 0), (2, 0)] (Res.eq (Res.one rfl (RV.tmp rfl)) (by first | rfl | (rw [(show (L26 ++ ([x13] : List F)).length = (a3.length + 1) from (app_len hl27 rfl)), (show (a4 ++ ([x13] : List F)).length = (a4.length + 1) from (app_len rfl rfl))] <;> rfl))) (SelL.cells rfl (by first | rfl | simp [ren, rens, sigma, rens_f32, rens_f64, rens_i64, rens_ik, rens_str, rens_cp, hl27]) rfl (SelL.arr (f := f32) (fun _ => rfl) rfl (SelL.arr (f := f32) (fun _ => rfl) rfl trivial)))
def i_allFinite_0o (a0 : List F) : Option ((Bool × (List F)) ⊕ (Bool × (List F) × (List F))) :=
 obind (i_areFinite a0) fun (r1 : Bool) =>
 bsel r1 (
  some (Sum.inl (true, a0))) (
  some (Sum.inr (false, a0, ([] : List F))))
theorem i_allFinite_0o_ok0 (a0 : List F) (q0 : Bool) (q1 : List F) (h : i_allFinite_0o a0 = some (Sum.inl (q0, q1))) : Ev Try.prog 77 [oref 0 0 0 a0.length] [⟨0, some (a0.map f32)⟩] (tup [oref 0 0 0 q1.length, b q0]) [⟨0, some (q1.map f32)⟩] := by
 refine Ev.start Try.func77 rfl rfl 1 (τ := [(0, oref 0 0 0 a0.length)]) rfl (Γ' := [⟨0, some (a0.map f32)⟩, ⟨0, none⟩]) rfl (n := 16) rfl (g := 1) rfl (by decide) ?_
 unfold i_allFinite_0o at h
 refine zQ<|ya rfl nilsl<|ya rfl (b false)<|zN ?_
 refine yS<|yS ?_
 obtain ⟨r1, hf1, h⟩ := oS h
 rcases oB h with ⟨hc2, h⟩ | ⟨hc2, h⟩
 ·refine yW<|ym rfl (oref 0 0 0 a0.length)<|yd rfl (b true) (TOp.eqb (yc ent74 rfl rfl (Bors.cons (Bor.own (f := f32) (fun _ => rfl) rfl rfl) bN) (i_areFinite_ok a0 r1 hf1)) hc2)<|yl rfl (b false) y1<|zN ?_
  refine yF<|RunC.skip<|zQ<|ym rfl (oref 0 0 0 a0.length)<|ya rfl (oref 0 0 0 a0.length)<|ya rfl (b true)<|zN ?_
  refine RunC.ret ?_
  have hq := oI h
  have hq := Sum.inl.inj hq
  obtain ⟨hq0, hq⟩ := Prod.mk.inj hq
  subst q0
  subst q1
  exact yB (tup [oref 0 0 0 a0.length, b true]) [(0, 0)] (Res.two rfl (RV.tmp rfl) (RV.tmp rfl)) (SelL.arr (f := f32) (fun _ => rfl) rfl trivial)
 ·refine yW<|ym rfl (oref 0 0 0 a0.length)<|yd rfl (b false) (TOp.eqb (yc ent74 rfl rfl (Bors.cons (Bor.own (f := f32) (fun _ => rfl) rfl rfl) bN) (i_areFinite_ok a0 r1 hf1)) hc2)<|yl rfl (b true) y0<|zN ?_
  refine yT<|zQ<|ya rfl nilsl<|ya rfl (b false)<|zN ?_
  cases oI h
theorem i_allFinite_0o_ok1 (a0 : List F) (q0 : Bool) (q1 : List F) (q2 : List F) (h : i_allFinite_0o a0 = some (Sum.inr (q0, q1, q2))) : Ev Try.prog 77 [oref 0 0 0 a0.length] [⟨0, some (a0.map f32)⟩] (tup [oref 1 0 0 q2.length, b q0]) [⟨0, some (q1.map f32)⟩, ⟨0, some (q2.map f32)⟩] := by
 refine Ev.start Try.func77 rfl rfl 1 (τ := [(0, oref 0 0 0 a0.length)]) rfl (Γ' := [⟨0, some (a0.map f32)⟩, ⟨0, none⟩]) rfl (n := 16) rfl (g := 1) rfl (by decide) ?_
 unfold i_allFinite_0o at h
 refine zQ<|ya rfl nilsl<|ya rfl (b false)<|zN ?_
 refine yS<|yS ?_
 obtain ⟨r1, hf1, h⟩ := oS h
 rcases oB h with ⟨hc2, h⟩ | ⟨hc2, h⟩
 ·refine yW<|ym rfl (oref 0 0 0 a0.length)<|yd rfl (b true) (TOp.eqb (yc ent74 rfl rfl (Bors.cons (Bor.own (f := f32) (fun _ => rfl) rfl rfl) bN) (i_areFinite_ok a0 r1 hf1)) hc2)<|yl rfl (b false) y1<|zN ?_
  refine yF<|RunC.skip<|zQ<|ym rfl (oref 0 0 0 a0.length)<|ya rfl (oref 0 0 0 a0.length)<|ya rfl (b true)<|zN ?_
  cases oI h
 ·refine yW<|ym rfl (oref 0 0 0 a0.length)<|yd rfl (b false) (TOp.eqb (yc ent74 rfl rfl (Bors.cons (Bor.own (f := f32) (fun _ => rfl) rfl rfl) bN) (i_areFinite_ok a0 r1 hf1)) hc2)<|yl rfl (b true) y0<|zN ?_
  refine yT<|zQ<|ya rfl nilsl<|ya rfl (b false)<|zN ?_
  refine RunC.nil_slot (Γ' := [⟨0, some (a0.map f32)⟩, ⟨1, some (([] : List F).map f32)⟩]) 2 1 rfl rfl rfl<|RunC.ret ?_
  have hq := oI h
  have hq := Sum.inr.inj hq
  obtain ⟨hq0, hq⟩ := Prod.mk.inj hq
  obtain ⟨hq1, hq⟩ := Prod.mk.inj hq
  subst q0
  subst q1
  subst q2
  exact yB (tup [oref 1 1 0 (([] : List F).length), b false]) [(0, 0), (1, 1)] (Res.eq (Res.two rfl (RV.tmp rfl) (RV.tmp rfl)) (by first | rfl | (rw [(show ([] : List F).length = 0 from rfl)] <;> rfl))) (SelL.arr (f := f32) (fun _ => rfl) rfl (SelL.arr0 (f := f32) (fun _ => rfl) rfl trivial))
end
end Go.Proofs.Ytkdociaoknmgbaa
