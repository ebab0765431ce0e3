/- Generated. -/
import Derived.Test.YtkdociaoknmgbaaGreatTys
namespace Go.Proofs.YtkdociaoknmgbaaGreat
open Go Go.AM Go.AM.AV
set_option maxRecDepth 20000
set_option maxHeartbeats 4000000
set_option linter.unusedVariables false
set_option linter.unusedSimpArgs false
noncomputable section
def w_b10Long (a0 : List Int) (a1 : List Int) : Option (Bool) :=
 bsel (decide (1048576 < (a0.length : Int))) (
  some true) (
  some (decide (1048576 < (a1.length : Int))))
theorem w_b10Long_ok (a0 : List Int) (a1 : List Int) (q0 : Bool) (h : w_b10Long a0 a1 = some q0) : Ev Tryz.prog 5 [sl a0.length (a0.map (ik .u8)), sl a1.length (a1.map (ik .u8))] [] (b q0) [] := by
 refine yE Tryz.func5 0 27 0 [(0, sl a0.length (a0.map (ik .u8))), (1, sl a1.length (a1.map (ik .u8)))] [] rfl ?_
 unfold w_b10Long at h
 refine zQ<|ya rfl (b false)<|zN ?_
 refine yS ?_
 rcases oB h with ⟨hc1, h⟩ | ⟨hc1, h⟩
 ·refine yW<|ym rfl (sl a0.length (a0.map (ik .u8)))<|yl rfl (i64 (a0.length : Int)) (LOp.len_sl und22 rfl rfl)<|yl rfl (b true) (LOp.eqb (LOp.gtr rfl rfl rfl) hc1)<|ym rfl (b true)<|ROps.s rfl rfl rfl<|ROps.s rfl rfl rfl<|ROps.s rfl rfl rfl<|yl rfl (b true) yq<|ya rfl (b true)<|zN ?_
  refine RunC.ret ?_
  have hq := oI h
  subst q0
  exact bodyQ.pure (.inr rfl) rfl (Res.one rfl (RV.tmp rfl))
 ·refine yW<|ym rfl (sl a0.length (a0.map (ik .u8)))<|yl rfl (i64 (a0.length : Int)) (LOp.len_sl und22 rfl rfl)<|yl rfl (b false) (LOp.eqb (LOp.gtr rfl rfl rfl) hc1)<|ym rfl (b false)<|ym rfl (sl a1.length (a1.map (ik .u8)))<|yl rfl (i64 (a1.length : Int)) (LOp.len_sl und22 rfl rfl)<|yl rfl (b (decide (1048576 < (a1.length : Int)))) (LOp.gtr rfl rfl rfl)<|yl rfl (b (decide (1048576 < (a1.length : Int)))) yp<|ya rfl (b (decide (1048576 < (a1.length : Int))))<|zN ?_
  refine RunC.ret ?_
  have hq := oI h
  subst q0
  exact bodyQ.pure (.inr rfl) rfl (Res.one rfl (RV.tmp rfl))
def w_b10At (a0 : List Int) (a1 : Int) (a2 : Int) : Option (Int) :=
 bsel (decide (a2 ≤ 1)) (
  some 0) (
  bsel (decide (a1 < (a0.length : Int))) (
   obind (at? a0 a1) fun (e1 : Int) =>
   olet (IntKind.i64.wrap e1) fun (x2 : Int) =>
   need (!decide (a2 = 0)) <|
   olet (x2.tmod a2) fun (x3 : Int) =>
   some x3) (
   olet (IntKind.i64.wrap (a1 * 37)) fun (x4 : Int) =>
   olet (IntKind.i64.wrap (x4 + 11)) fun (x5 : Int) =>
   need (!decide (a2 = 0)) <|
   olet (x5.tmod a2) fun (x6 : Int) =>
   some x6))
theorem w_b10At_ok (a0 : List Int) (a1 : Int) (a2 : Int) (q0 : Int) (h : w_b10At a0 a1 a2 = some q0) : Ev Tryz.prog 6 [sl a0.length (a0.map (ik .u8)), i64 a1, i64 a2] [] (i64 q0) [] := by
 refine yE Tryz.func6 0 51 0 [(0, sl a0.length (a0.map (ik .u8))), (1, i64 a1), (2, i64 a2)] [] rfl ?_
 unfold w_b10At at h
 refine zQ<|ya rfl (i64 0)<|zN ?_
 refine yS<|yS ?_
 rcases oB h with ⟨hc1, h⟩ | ⟨hc1, h⟩
 ·refine yW<|ym rfl (i64 a2)<|yl rfl (b true) (LOp.eqb (LOp.leq rfl rfl rfl) hc1)<|zN ?_
  refine yT<|zQ<|ya rfl (i64 0)<|zN ?_
  refine RunC.ret ?_
  have hq := oI h
  subst q0
  exact bodyQ.pure (.inr rfl) rfl (Res.one rfl (RV.tmp rfl))
 ·refine yW<|ym rfl (i64 a2)<|yl rfl (b false) (LOp.eqb (LOp.leq rfl rfl rfl) hc1)<|zN ?_
  refine yF<|RunC.skip<|yS<|yS ?_
  rcases oB h with ⟨hc2, h⟩ | ⟨hc2, h⟩
  ·refine yW<|ym rfl (i64 a1)<|ym rfl (sl a0.length (a0.map (ik .u8)))<|yl rfl (i64 (a0.length : Int)) (LOp.len_sl und22 rfl rfl)<|yl rfl (b true) (LOp.eqb (LOp.lss rfl rfl rfl) hc2)<|zN ?_
   refine yT<|yS ?_
   obtain ⟨e1, he3, h⟩ := oS h
   obtain ⟨x2, hx4, h⟩ := oL h
   obtain ⟨hz5, h⟩ := need_some h
   obtain ⟨x3, hx6, h⟩ := oL h
   refine yW<|ym rfl (sl a0.length (a0.map (ik .u8)))<|ym rfl (i64 a1)<|yl rfl (ptr [ik .u8 e1]) (LOp.le (LOp.ix (f := (ik .u8)) und22 siz5 rfl rfl rfl rfl he3) ALe.ptr)<|yl rfl (ik .u8 e1) (y2 agg5)<|yl rfl (i64 x2) (LOp.eqr (LOp.i2i (src := 5) (dst := 2) ⟨_, pun5⟩ pun2 rfl rfl) (congrArg (ik .i64) hx4))<|ym rfl (i64 a2)<|yl rfl (i64 x3) (LOp.eqr (LOp.rem rfl rfl rfl (nz hz5)) (congrArg (ik .i64) hx6))<|ya rfl (i64 x3)<|zN ?_
   refine RunC.ret ?_
   have hq := oI h
   subst q0
   exact bodyQ.pure (.inr rfl) rfl (Res.one rfl (RV.tmp rfl))
  ·refine yW<|ym rfl (i64 a1)<|ym rfl (sl a0.length (a0.map (ik .u8)))<|yl rfl (i64 (a0.length : Int)) (LOp.len_sl und22 rfl rfl)<|yl rfl (b false) (LOp.eqb (LOp.lss rfl rfl rfl) hc2)<|zN ?_
   refine yF<|RunC.skip<|yS ?_
   obtain ⟨x4, hx7, h⟩ := oL h
   obtain ⟨x5, hx8, h⟩ := oL h
   obtain ⟨hz9, h⟩ := need_some h
   obtain ⟨x6, hx10, h⟩ := oL h
   refine yW<|ym rfl (i64 a1)<|yl rfl (i64 x4) (LOp.eqr (LOp.mul rfl rfl rfl) (congrArg (ik .i64) hx7))<|yl rfl (i64 x5) (LOp.eqr (LOp.add rfl rfl rfl) (congrArg (ik .i64) hx8))<|ym rfl (i64 a2)<|yl rfl (i64 x6) (LOp.eqr (LOp.rem rfl rfl rfl (nz hz9)) (congrArg (ik .i64) hx10))<|ya rfl (i64 x6)<|zN ?_
   refine RunC.ret ?_
   have hq := oI h
   subst q0
   exact bodyQ.pure (.inr rfl) rfl (Res.one rfl (RV.tmp rfl))
def s_l00From (a0 : List Int) : Option ((List Int) × Int × Int) :=
 some (a0, 0, 0)
theorem s_l00From_ok (a0 : List Int) (q0 : List Int) (q1 : Int) (q2 : Int) (h : s_l00From a0 = some (q0, q1, q2)) : Ev Tryz.prog 34 [sl a0.length (a0.map (ik .u8))] [] (optr 0 0 0) [⟨0, some [sl q0.length (q0.map (ik .u8)), i64 q1, ik .u64 q2]⟩] := by
 refine yE Tryz.func34 1 13 0 [(0, sl a0.length (a0.map (ik .u8)))] [⟨0, none⟩] rfl ?_
 unfold s_l00From at h
 refine zQ<|ya rfl (x (.pointer none))<|zN ?_
 refine zQ<|ym rfl (sl a0.length (a0.map (ik .u8)))<|yl rfl (agg [sl a0.length (a0.map (ik .u8)), i64 0, ik .u64 0]) (LOp.build (qs := [(0, [sl a0.length (a0.map (ik .u8))])]) zer109 zok109 und109 plc109 rfl ⟨rfl, ⟨_, ALe.refl _, rfl⟩, trivial⟩ rfl)<|ye rfl (optr 0 1 0) ([⟨1, some [sl a0.length (a0.map (ik .u8)), i64 0, ik .u64 0]⟩]) (TOp.box_o (g := ⟨0, none⟩) 0 rfl rfl rfl rfl)<|ya rfl (optr 0 1 0)<|zN ?_
 refine RunC.ret ?_
 have hq := oI h
 obtain ⟨hq0, hq⟩ := Prod.mk.inj hq
 obtain ⟨hq1, hq⟩ := Prod.mk.inj hq
 subst q0
 subst q1
 subst q2
 exact yB (optr 0 1 0) [(0, 1)] (Res.one rfl (RV.tmp rfl)) (SelL.cells0 rfl (by first | rfl | simp [ren, rens, sigma, rens_f32, rens_f64, rens_i64, rens_ik, rens_str, rens_cp]) (lts_cons (lt_slk (fun _ => rfl)) (lts_cons rfl (lts_cons rfl lts_nil))) trivial)
def s_l00Src_next_0p0_C0_k1 (a0 : List Int) (a1 : Int) (a2 : Int) (v3 : Int) : Option (Int × Int × Int) :=
 olet (IntKind.i64.wrap (a1 + 1)) fun (x4 : Int) =>
 olet (IntKind.u64.wrap (a2 * 6364136223846793005)) fun (x5 : Int) =>
 olet (IntKind.u64.wrap v3) fun (x6 : Int) =>
 olet (IntKind.u64.wrap (x5 + x6)) fun (x7 : Int) =>
 olet (IntKind.u64.wrap (x7 + 1442695040888963407)) fun (x8 : Int) =>
 bsel (decide (x4 ≤ (a0.length : Int))) (
  some (v3, x4, x8)) (
  need (decide ((0 : Int) ≤ 40)) <|
  olet (ishr .u64 x8 40) fun (x9 : Int) =>
  olet (iand .u64 x9 255) fun (x10 : Int) =>
  olet (IntKind.i64.wrap x10) fun (x11 : Int) =>
  some (x11, x4, x8))
def s_l00Src_next_0p0_C0 (a0 : List Int) (a1 : Int) (a2 : Int) : Option (Int × Int × Int) :=
 bsel (decide (a1 < (a0.length : Int))) (
  obind (at? a0 a1) fun (e1 : Int) =>
  olet (IntKind.i64.wrap e1) fun (x2 : Int) =>
  s_l00Src_next_0p0_C0_k1 a0 a1 a2 x2) (
  s_l00Src_next_0p0_C0_k1 a0 a1 a2 0)
theorem s_l00Src_next_0p0_C0_ok (a0 : List Int) (a1 : Int) (a2 : Int) (q0 : Int) (q1 : Int) (q2 : Int) (h : s_l00Src_next_0p0_C0 a0 a1 a2 = some (q0, q1, q2)) : Ev Tryz.prog 95 [optr 0 0 0] [⟨0, some [sl a0.length (a0.map (ik .u8)), i64 a1, ik .u64 a2]⟩] (i64 q0) [⟨0, some [sl a0.length (a0.map (ik .u8)), i64 q1, ik .u64 q2]⟩] := by
 refine Ev.start Tryz.func95 rfl rfl 0 (τ := [(0, optr 0 0 0)]) rfl (Γ' := [⟨0, some [sl a0.length (a0.map (ik .u8)), i64 a1, ik .u64 a2]⟩]) rfl (n := 124) rfl (g := 1) rfl (by decide) ?_
 unfold s_l00Src_next_0p0_C0 at h
 refine zQ<|ya rfl (i64 0)<|zN ?_
 refine zQ<|ya rfl (i64 0)<|zN ?_
 refine yS<|RunC.cutN (fun τ Γ => ∃ (v3 : Int), WeakLe τ [(0, optr 0 0 0), (3, i64 v3)] ∧ DeadLe Γ [⟨0, some [sl a0.length (a0.map (ik .u8)), i64 a1, ik .u64 a2]⟩] ∧ s_l00Src_next_0p0_C0_k1 a0 a1 a2 v3 = some (q0, q1, q2)) ?_ ?_
 ·refine yS ?_
  rcases oB h with ⟨hc1, h⟩ | ⟨hc1, h⟩
  ·refine RunC.region_draw (Γ' := [⟨0, some [sl a0.length (a0.map (ik .u8)), i64 a1, ik .u64 a2]⟩]) 10 mixed 
    (tm rfl (optr 0 0 0) <|
    (tl rfl (optr 0 0 0) (LOp.nilCheck_optr rfl rfl) <|
    (tl rfl (optr 0 0 1) (LOp.fao und109 rfl siz3 rfl rfl rfl) <|
    (TR.d (r := i64 a1) (fs := []) rfl rfl (TOp.load1_o rfl rfl agg3 rfl rfl) <|
    (tm rfl (optr 0 0 0) <|
    (tl rfl (optr 0 0 0) (LOp.nilCheck_optr rfl rfl) <|
    (tl rfl (optr 0 0 0) (LOp.fao und109 rfl siz22 rfl rfl rfl) <|
    (TR.d (r := sl a0.length (a0.map (ik .u8))) (fs := []) rfl rfl (TOp.load1_o rfl rfl agg22 rfl rfl) <|
    (tl rfl (i64 (a0.length : Int)) (LOp.len_sl und22 rfl rfl) <|
    (tl rfl (b true) (LOp.eqb (LOp.lss rfl rfl rfl) hc1) <|
    TR.nil)))))))))) rfl (by kernel_rfl) rfl fills_nil rfl ?_
   iterate 10 refine ROps.dropS ?_
   refine ROps.drop0<|zN ?_
   refine yT ?_
   obtain ⟨e1, he2, h⟩ := oS h
   obtain ⟨x2, hx3, h⟩ := oL h
   refine RunC.region_draw (Γ' := [⟨0, some [sl a0.length (a0.map (ik .u8)), i64 a1, ik .u64 a2]⟩]) 12 mixed 
    (tm rfl (optr 0 0 0) <|
    (tl rfl (optr 0 0 0) (LOp.nilCheck_optr rfl rfl) <|
    (tl rfl (optr 0 0 0) (LOp.fao und109 rfl siz22 rfl rfl rfl) <|
    (TR.d (r := sl a0.length (a0.map (ik .u8))) (fs := []) rfl rfl (TOp.load1_o rfl rfl agg22 rfl rfl) <|
    (tm rfl (optr 0 0 0) <|
    (tl rfl (optr 0 0 0) (LOp.nilCheck_optr rfl rfl) <|
    (tl rfl (optr 0 0 1) (LOp.fao und109 rfl siz3 rfl rfl rfl) <|
    (TR.d (r := i64 a1) (fs := []) rfl rfl (TOp.load1_o rfl rfl agg3 rfl rfl) <|
    (tl rfl (ptr [ik .u8 e1]) (LOp.le (LOp.ix (f := (ik .u8)) und22 siz5 rfl rfl rfl rfl he2) ALe.ptr) <|
    (tl rfl (ik .u8 e1) (y2 agg5) <|
    (tl rfl (i64 x2) (LOp.eqr (LOp.i2i (src := 5) (dst := 3) ⟨_, pun5⟩ pun3 rfl rfl) (congrArg (ik .i64) hx3)) <|
    (tl rfl (i64 x2) (LOp.assign rfl rfl) <|
    TR.nil)))))))))))) rfl (by kernel_rfl) rfl fills_nil rfl ?_
   iterate 12 refine ROps.dropS ?_
   refine ROps.drop0<|zN ?_
   exact ⟨x2, ⟨aR, aR, trivial⟩, ⟨⟨rfl, .inr rfl⟩, trivial⟩, h⟩
  ·refine RunC.region_draw (Γ' := [⟨0, some [sl a0.length (a0.map (ik .u8)), i64 a1, ik .u64 a2]⟩]) 10 mixed 
    (tm rfl (optr 0 0 0) <|
    (tl rfl (optr 0 0 0) (LOp.nilCheck_optr rfl rfl) <|
    (tl rfl (optr 0 0 1) (LOp.fao und109 rfl siz3 rfl rfl rfl) <|
    (TR.d (r := i64 a1) (fs := []) rfl rfl (TOp.load1_o rfl rfl agg3 rfl rfl) <|
    (tm rfl (optr 0 0 0) <|
    (tl rfl (optr 0 0 0) (LOp.nilCheck_optr rfl rfl) <|
    (tl rfl (optr 0 0 0) (LOp.fao und109 rfl siz22 rfl rfl rfl) <|
    (TR.d (r := sl a0.length (a0.map (ik .u8))) (fs := []) rfl rfl (TOp.load1_o rfl rfl agg22 rfl rfl) <|
    (tl rfl (i64 (a0.length : Int)) (LOp.len_sl und22 rfl rfl) <|
    (tl rfl (b false) (LOp.eqb (LOp.lss rfl rfl rfl) hc1) <|
    TR.nil)))))))))) rfl (by kernel_rfl) rfl fills_nil rfl ?_
   iterate 10 refine ROps.dropS ?_
   refine ROps.drop0<|zN ?_
   refine yF<|RunC.skip ?_
   exact ⟨0, ⟨aR, aR, trivial⟩, ⟨⟨rfl, .inr rfl⟩, trivial⟩, h⟩
 ·rintro τ2 Γ2 ⟨v3, hw2, hd2, h⟩
  refine RunC.wl hw2 hd2 ?_
  unfold s_l00Src_next_0p0_C0_k1 at h
  refine yS ?_
  obtain ⟨x4, hx4, h⟩ := oL h
  refine yW<|ym rfl (optr 0 0 0)<|yl rfl (optr 0 0 0) (LOp.nilCheck_optr rfl rfl)<|yl rfl (optr 0 0 1) (LOp.fao und109 rfl siz3 rfl rfl rfl)<|yd rfl (i64 a1) (TOp.load1_o rfl rfl agg3 rfl rfl)<|yl rfl (i64 x4) (LOp.eqr (LOp.add rfl rfl rfl) (congrArg (ik .i64) hx4))<|yl rfl (optr 0 0 0) (LOp.nilCheck_optr rfl rfl)<|yl rfl (optr 0 0 1) (LOp.fao und109 rfl siz3 rfl rfl rfl)<|ys (i64 x4) [sl a0.length (a0.map (ik .u8)), i64 x4, ik .u64 a2] ([⟨0, some [sl a0.length (a0.map (ik .u8)), i64 x4, ik .u64 a2]⟩]) siz3<|zN ?_
  refine yS ?_
  obtain ⟨x5, hx5, h⟩ := oL h
  obtain ⟨x6, hx6, h⟩ := oL h
  obtain ⟨x7, hx7, h⟩ := oL h
  obtain ⟨x8, hx8, h⟩ := oL h
  refine yW<|ym rfl (optr 0 0 0)<|ym rfl (optr 0 0 0)<|yl rfl (optr 0 0 0) (LOp.nilCheck_optr rfl rfl)<|yl rfl (optr 0 0 2) (LOp.fao und109 rfl siz107 rfl rfl rfl)<|yd rfl (ik .u64 a2) (TOp.load1_o rfl rfl agg107 rfl rfl)<|yl rfl (ik .u64 x5) (LOp.eqr (LOp.mul rfl rfl rfl) (congrArg (ik .u64) hx5))<|ym rfl (i64 v3)<|yl rfl (ik .u64 x6) (LOp.eqr (LOp.i2i (src := 3) (dst := 107) ⟨_, pun3⟩ pun107 rfl rfl) (congrArg (ik .u64) hx6))<|yl rfl (ik .u64 x7) (LOp.eqr (LOp.add rfl rfl rfl) (congrArg (ik .u64) hx7))<|yl rfl (ik .u64 x8) (LOp.eqr (LOp.add rfl rfl rfl) (congrArg (ik .u64) hx8))<|yl rfl (optr 0 0 0) (LOp.nilCheck_optr rfl rfl)<|yl rfl (optr 0 0 2) (LOp.fao und109 rfl siz107 rfl rfl rfl)<|ys (ik .u64 x8) [sl a0.length (a0.map (ik .u8)), i64 x4, ik .u64 x8] ([⟨0, some [sl a0.length (a0.map (ik .u8)), i64 x4, ik .u64 x8]⟩]) siz107<|zN ?_
  refine RunC.wl (τ' := [(0, optr 0 0 0), (3, i64 v3)]) (Γ' := [⟨0, some [sl a0.length (a0.map (ik .u8)), i64 x4, ik .u64 x8]⟩]) ⟨aR, aR, trivial⟩ ⟨⟨rfl, .inr rfl⟩, trivial⟩<|yS<|yS ?_
  rcases oB h with ⟨hc9, h⟩ | ⟨hc9, h⟩
  ·refine RunC.region_draw (Γ' := [⟨0, some [sl a0.length (a0.map (ik .u8)), i64 x4, ik .u64 x8]⟩]) 10 mixed 
    (tm rfl (optr 0 0 0) <|
    (tl rfl (optr 0 0 0) (LOp.nilCheck_optr rfl rfl) <|
    (tl rfl (optr 0 0 1) (LOp.fao und109 rfl siz3 rfl rfl rfl) <|
    (TR.d (r := i64 x4) (fs := []) rfl rfl (TOp.load1_o rfl rfl agg3 rfl rfl) <|
    (tm rfl (optr 0 0 0) <|
    (tl rfl (optr 0 0 0) (LOp.nilCheck_optr rfl rfl) <|
    (tl rfl (optr 0 0 0) (LOp.fao und109 rfl siz22 rfl rfl rfl) <|
    (TR.d (r := sl a0.length (a0.map (ik .u8))) (fs := []) rfl rfl (TOp.load1_o rfl rfl agg22 rfl rfl) <|
    (tl rfl (i64 (a0.length : Int)) (LOp.len_sl und22 rfl rfl) <|
    (tl rfl (b true) (LOp.eqb (LOp.leq rfl rfl rfl) hc9) <|
    TR.nil)))))))))) rfl (by kernel_rfl) rfl fills_nil rfl ?_
   iterate 10 refine ROps.dropS ?_
   refine ROps.drop0<|zN ?_
   refine yT<|zQ<|ym rfl (i64 v3)<|ya rfl (i64 v3)<|zN ?_
   refine RunC.ret ?_
   have hq := oI h
   obtain ⟨hq0, hq⟩ := Prod.mk.inj hq
   obtain ⟨hq1, hq⟩ := Prod.mk.inj hq
   subst q0
   subst q1
   subst q2
   exact yB (i64 v3) [(0, 0)] (Res.one rfl (RV.tmp rfl)) (SelL.cells rfl (by first | rfl | simp [ren, rens, sigma, rens_f32, rens_f64, rens_i64, rens_ik, rens_str, rens_cp]) (lts_cons (lt_slk (fun _ => rfl)) (lts_cons rfl (lts_cons rfl lts_nil))) trivial)
  ·refine RunC.region_draw (Γ' := [⟨0, some [sl a0.length (a0.map (ik .u8)), i64 x4, ik .u64 x8]⟩]) 10 mixed 
    (tm rfl (optr 0 0 0) <|
    (tl rfl (optr 0 0 0) (LOp.nilCheck_optr rfl rfl) <|
    (tl rfl (optr 0 0 1) (LOp.fao und109 rfl siz3 rfl rfl rfl) <|
    (TR.d (r := i64 x4) (fs := []) rfl rfl (TOp.load1_o rfl rfl agg3 rfl rfl) <|
    (tm rfl (optr 0 0 0) <|
    (tl rfl (optr 0 0 0) (LOp.nilCheck_optr rfl rfl) <|
    (tl rfl (optr 0 0 0) (LOp.fao und109 rfl siz22 rfl rfl rfl) <|
    (TR.d (r := sl a0.length (a0.map (ik .u8))) (fs := []) rfl rfl (TOp.load1_o rfl rfl agg22 rfl rfl) <|
    (tl rfl (i64 (a0.length : Int)) (LOp.len_sl und22 rfl rfl) <|
    (tl rfl (b false) (LOp.eqb (LOp.leq rfl rfl rfl) hc9) <|
    TR.nil)))))))))) rfl (by kernel_rfl) rfl fills_nil rfl ?_
   iterate 10 refine ROps.dropS ?_
   refine ROps.drop0<|zN ?_
   refine yF<|RunC.skip<|yS ?_
   obtain ⟨hz10, h⟩ := need_some h
   obtain ⟨x9, hx11, h⟩ := oL h
   obtain ⟨x10, hx12, h⟩ := oL h
   obtain ⟨x11, hx13, h⟩ := oL h
   refine yW<|ym rfl (optr 0 0 0)<|yl rfl (optr 0 0 0) (LOp.nilCheck_optr rfl rfl)<|yl rfl (optr 0 0 2) (LOp.fao und109 rfl siz107 rfl rfl rfl)<|yd rfl (ik .u64 x8) (TOp.load1_o rfl rfl agg107 rfl rfl)<|yl rfl (ik .u64 x9) (LOp.eqr (LOp.shr rfl rfl rfl (of_decide_eq_true hz10)) (congrArg (ik .u64) hx11))<|yl rfl (ik .u64 x10) (LOp.eqr (LOp.iand rfl rfl rfl) (congrArg (ik .u64) hx12))<|yl rfl (i64 x11) (LOp.eqr (LOp.i2i (src := 107) (dst := 2) ⟨_, pun107⟩ pun2 rfl rfl) (congrArg (ik .i64) hx13))<|ya rfl (i64 x11)<|zN ?_
   refine RunC.ret ?_
   have hq := oI h
   obtain ⟨hq0, hq⟩ := Prod.mk.inj hq
   obtain ⟨hq1, hq⟩ := Prod.mk.inj hq
   subst q0
   subst q1
   subst q2
   exact yB (i64 x11) [(0, 0)] (Res.one rfl (RV.tmp rfl)) (SelL.cells rfl (by first | rfl | simp [ren, rens, sigma, rens_f32, rens_f64, rens_i64, rens_ik, rens_str, rens_cp]) (lts_cons (lt_slk (fun _ => rfl)) (lts_cons rfl (lts_cons rfl lts_nil))) trivial)
def s_l00Src_pick_0p0_C0_k1 (a0 : Int) (v9 : Int) (v10 : Int) (v11 : Int) : Option (Int × Int × Int) :=
 need (!decide (a0 = 0)) <|
 olet (v11.tmod a0) fun (x12 : Int) =>
 some (x12, v9, v10)
def s_l00Src_pick_0p0_C0 (a0 : Int) (a1 : List Int) (a2 : Int) (a3 : Int) : Option (Int × Int × Int) :=
 bsel (decide (a0 ≤ 1)) (
  some (0, a2, a3)) (
  obind3 (s_l00Src_next_0p0_C0 a1 a2 a3) fun (r1 : Int) (r2 : Int) (r3 : Int) =>
  bsel (decide (200 < a0)) (
   olet (IntKind.i64.wrap (r1 * 256)) fun (x4 : Int) =>
   obind3 (s_l00Src_next_0p0_C0 a1 r2 r3) fun (r5 : Int) (r6 : Int) (r7 : Int) =>
   olet (IntKind.i64.wrap (x4 + r5)) fun (x8 : Int) =>
   s_l00Src_pick_0p0_C0_k1 a0 r6 r7 x8) (
   s_l00Src_pick_0p0_C0_k1 a0 r2 r3 r1))
theorem s_l00Src_pick_0p0_C0_ok (a0 : Int) (a1 : List Int) (a2 : Int) (a3 : Int) (q0 : Int) (q1 : Int) (q2 : Int) (h : s_l00Src_pick_0p0_C0 a0 a1 a2 a3 = some (q0, q1, q2)) : Ev Tryz.prog 36 [optr 0 0 0, i64 a0] [⟨0, some [sl a1.length (a1.map (ik .u8)), i64 a2, ik .u64 a3]⟩] (i64 q0) [⟨0, some [sl a1.length (a1.map (ik .u8)), i64 q1, ik .u64 q2]⟩] := by
 refine Ev.start Tryz.func36 rfl rfl 0 (τ := [(0, optr 0 0 0), (1, i64 a0)]) rfl (Γ' := [⟨0, some [sl a1.length (a1.map (ik .u8)), i64 a2, ik .u64 a3]⟩]) rfl (n := 40) rfl (g := 1) rfl (by decide) ?_
 unfold s_l00Src_pick_0p0_C0 at h
 refine zQ<|ya rfl (i64 0)<|zN ?_
 refine yS<|yS ?_
 rcases oB h with ⟨hc1, h⟩ | ⟨hc1, h⟩
 ·refine yW<|ym rfl (i64 a0)<|yl rfl (b true) (LOp.eqb (LOp.leq rfl rfl rfl) hc1)<|zN ?_
  refine yT<|zQ<|ya rfl (i64 0)<|zN ?_
  refine RunC.ret ?_
  have hq := oI h
  obtain ⟨hq0, hq⟩ := Prod.mk.inj hq
  obtain ⟨hq1, hq⟩ := Prod.mk.inj hq
  subst q0
  subst q1
  subst q2
  exact yB (i64 0) [(0, 0)] (Res.one rfl (RV.tmp rfl)) (SelL.cells rfl (by first | rfl | simp [ren, rens, sigma, rens_f32, rens_f64, rens_i64, rens_ik, rens_str, rens_cp]) (lts_cons (lt_slk (fun _ => rfl)) (lts_cons rfl (lts_cons rfl lts_nil))) trivial)
 ·refine yW<|ym rfl (i64 a0)<|yl rfl (b false) (LOp.eqb (LOp.leq rfl rfl rfl) hc1)<|zN ?_
  refine yF<|RunC.skip<|yS ?_
  obtain ⟨r1, r2, r3, hf2, h⟩ := obind3_some h
  refine yW<|ym rfl (optr 0 0 0)<|ROps.callO (A := [optr 0 0 0]) (args := [optr 0 0 0]) (Γc := [⟨0, some [sl a1.length (a1.map (ik .u8)), i64 a2, ik .u64 a3]⟩]) (Γc' := [⟨0, some [sl a1.length (a1.map (ik .u8)), i64 r2, ik .u64 r3]⟩]) (r' := i64 r1) (Γ' := [⟨0, some [sl a1.length (a1.map (ik .u8)), i64 r2, ik .u64 r3]⟩]) [(0, 0)] [] rfl (CallAs.func ent95 rfl rfl) rfl rfl (SelOk.of (ndB_ok rfl) (SelL.cells0 rfl (by simp [ren, rens, sigma, rens_f32, rens_f64, rens_i64, rens_ik, rens_str, rens_cp]) (lts_cons (lt_slk (fun _ => rfl)) (lts_cons rfl (lts_cons rfl lts_nil))) trivial)) (live_of ⟨⟨_, _, rfl⟩, trivial⟩) (by simp [ren, rens, sigma, rens_f32, rens_f64, rens_i64, rens_ik, rens_str, rens_cp]) rfl (s_l00Src_next_0p0_C0_ok a1 a2 a3 r1 r2 r3 hf2) rfl (news_of trivial) (ndB_ok rfl) (by simp [ren, rens, sigma]) (by simp [backOb, sigma, ren, rens, rens_f32, rens_f64, rens_i64, rens_ik, rens_str, rens_cp])<|ya rfl (i64 r1)<|zN ?_
  refine yS<|RunC.cutN (fun τ Γ => ∃ (v9 : Int) (v10 : Int) (v11 : Int), WeakLe τ [(1, i64 a0), (5, i64 v11)] ∧ DeadLe Γ [⟨0, some [sl a1.length (a1.map (ik .u8)), i64 v9, ik .u64 v10]⟩] ∧ s_l00Src_pick_0p0_C0_k1 a0 v9 v10 v11 = some (q0, q1, q2)) ?_ ?_
  ·refine yS ?_
   rcases oB h with ⟨hc3, h⟩ | ⟨hc3, h⟩
   ·refine yW<|ym rfl (i64 a0)<|yl rfl (b true) (LOp.eqb (LOp.gtr rfl rfl rfl) hc3)<|zN ?_
    refine yT ?_
    obtain ⟨x4, hx4, h⟩ := oL h
    obtain ⟨r5, r6, r7, hf5, h⟩ := obind3_some h
    obtain ⟨x8, hx6, h⟩ := oL h
    refine yW<|ym rfl (i64 r1)<|yl rfl (i64 x4) (LOp.eqr (LOp.mul rfl rfl rfl) (congrArg (ik .i64) hx4))<|ym rfl (optr 0 0 0)<|ROps.callO (A := [optr 0 0 0]) (args := [optr 0 0 0]) (Γc := [⟨0, some [sl a1.length (a1.map (ik .u8)), i64 r2, ik .u64 r3]⟩]) (Γc' := [⟨0, some [sl a1.length (a1.map (ik .u8)), i64 r6, ik .u64 r7]⟩]) (r' := i64 r5) (Γ' := [⟨0, some [sl a1.length (a1.map (ik .u8)), i64 r6, ik .u64 r7]⟩]) [(0, 0)] [] rfl (CallAs.func ent95 rfl rfl) rfl rfl (SelOk.of (ndB_ok rfl) (SelL.cells0 rfl (by simp [ren, rens, sigma, rens_f32, rens_f64, rens_i64, rens_ik, rens_str, rens_cp]) (lts_cons (lt_slk (fun _ => rfl)) (lts_cons rfl (lts_cons rfl lts_nil))) trivial)) (live_of ⟨⟨_, _, rfl⟩, trivial⟩) (by simp [ren, rens, sigma, rens_f32, rens_f64, rens_i64, rens_ik, rens_str, rens_cp]) rfl (s_l00Src_next_0p0_C0_ok a1 r2 r3 r5 r6 r7 hf5) rfl (news_of trivial) (ndB_ok rfl) (by simp [ren, rens, sigma]) (by simp [backOb, sigma, ren, rens, rens_f32, rens_f64, rens_i64, rens_ik, rens_str, rens_cp])<|yl rfl (i64 x8) (LOp.eqr (LOp.add rfl rfl rfl) (congrArg (ik .i64) hx6))<|ya rfl (i64 x8)<|zN ?_
    exact ⟨r6, r7, x8, ⟨aR, aR, trivial⟩, ⟨⟨rfl, .inr rfl⟩, trivial⟩, h⟩
   ·refine yW<|ym rfl (i64 a0)<|yl rfl (b false) (LOp.eqb (LOp.gtr rfl rfl rfl) hc3)<|zN ?_
    refine yF<|RunC.skip ?_
    exact ⟨r2, r3, r1, ⟨aR, aR, trivial⟩, ⟨⟨rfl, .inr rfl⟩, trivial⟩, h⟩
  ·rintro τ2 Γ2 ⟨v9, v10, v11, hw2, hd2, h⟩
   refine RunC.wl hw2 hd2 ?_
   unfold s_l00Src_pick_0p0_C0_k1 at h
   refine yS ?_
   obtain ⟨hz7, h⟩ := need_some h
   obtain ⟨x12, hx8, h⟩ := oL h
   refine yW<|ym rfl (i64 v11)<|ym rfl (i64 a0)<|yl rfl (i64 x12) (LOp.eqr (LOp.rem rfl rfl rfl (nz hz7)) (congrArg (ik .i64) hx8))<|ya rfl (i64 x12)<|zN ?_
   refine RunC.ret ?_
   have hq := oI h
   obtain ⟨hq0, hq⟩ := Prod.mk.inj hq
   obtain ⟨hq1, hq⟩ := Prod.mk.inj hq
   subst q0
   subst q1
   subst q2
   exact yB (i64 x12) [(0, 0)] (Res.one rfl (RV.tmp rfl)) (SelL.cells rfl (by first | rfl | simp [ren, rens, sigma, rens_f32, rens_f64, rens_i64, rens_ik, rens_str, rens_cp]) (lts_cons (lt_slk (fun _ => rfl)) (lts_cons rfl (lts_cons rfl lts_nil))) trivial)
def s_B10Vector_b1 (r1 : List Int) (L6 : List F) (v7 : Int) (v8 : Int) (v9 : Int) : Option (LR ((List F) × Int × Int × Int) ((List F)) ((List F))) :=
 bsel (decide (0 < v9)) (
  obind3 (s_l00Src_pick_0p0_C0 33 r1 v7 v8) fun (r10 : Int) (r11 : Int) (r12 : Int) =>
  olet (IntKind.i64.wrap (r10 - 16)) fun (x13 : Int) =>
  olet (fint .f32 x13) fun (x14 : F) =>
  olet (fop .quo .f32 x14 (some 1082130432)) fun (x15 : F) =>
  need (apok 4 L6.length 1) <|
  olet (IntKind.i64.wrap (v9 - 1)) fun (x16 : Int) =>
  some (LR.next ((L6 ++ ([x15] : List F)), r11, r12, x16))) (
  some (LR.out L6))
def s_B10Vector_s1 (r1 : List Int) : ((List F) × Int × Int × Int) → Option (LR ((List F) × Int × Int × Int) ((List F)) ((List F))) := fun s => s_B10Vector_b1 r1 s.1 s.2.1 s.2.2.1 s.2.2.2
def s_B10Vector_k1 (L19 : List F) : Option ((List F)) :=
 some L19
def s_B10Vector (a0 : List Int) (a1 : Int) : Option ((List F)) :=
 obind3 (s_l00From a0) fun (r1 : List Int) (r2 : Int) (r3 : Int) =>
 obind (loopM (s_B10Vector_s1 r1) (([] : List F), r2, r3, a1)) fun z => osum z (fun e => s_B10Vector_k1 e) (fun r => some r)
theorem s_B10Vector_ok (a0 : List Int) (a1 : Int) (q0 : List F) (h : s_B10Vector a0 a1 = some q0) : Ev Tryz.prog 8 [sl a0.length (a0.map (ik .u8)), i64 a1] [] (oref 0 0 0 q0.length) [⟨0, some (q0.map f32)⟩] := by
 refine yE Tryz.func8 3 47 0 [(0, sl a0.length (a0.map (ik .u8))), (1, i64 a1)] [⟨0, none⟩, ⟨0, none⟩, ⟨0, none⟩] rfl ?_
 unfold s_B10Vector at h
 refine zQ<|ya rfl nilsl<|zN ?_
 refine yS ?_
 obtain ⟨r1, r2, r3, hf1, h⟩ := obind3_some h
 refine yW<|ym rfl (sl a0.length (a0.map (ik .u8)))<|ye rfl (optr 0 1 0) ([⟨1, some [sl r1.length (r1.map (ik .u8)), i64 r2, ik .u64 r3]⟩, ⟨0, none⟩, ⟨0, none⟩]) (TOp.callN (A := [sl a0.length (a0.map (ik .u8))]) (ls := [[sl r1.length (r1.map (ik .u8)), i64 r2, ik .u64 r3]]) [0] (by exact (CallAs.func ent34 rfl rfl)) (lts_cons (lt_sl (fun _ => rfl)) lts_nil) (s_l00From_ok a0 r1 r2 r3 hf1) (and_all (lts_cons (lt_sl (fun _ => rfl)) (lts_cons rfl (lts_cons rfl lts_nil))) rfl) rfl (by decide) (ns_of ⟨⟨_, rfl⟩, trivial⟩))<|ya rfl (optr 0 1 0)<|zN ?_
 refine zQ<|ye rfl (oref 1 1 0 0) ([⟨1, some [sl r1.length (r1.map (ik .u8)), i64 r2, ik .u64 r3]⟩, ⟨1, some (([] : List F).map f32)⟩, ⟨0, none⟩]) (TOp.buildSlice_o (g := ⟨0, none⟩) (za := f32 (some 0)) (qs := []) 1 rfl und25 siz41 zer41 rfl zel41 rfl rfl trivial rfl)<|ya rfl (oref 1 1 0 0)<|zN ?_
 refine yS ?_
 obtain ⟨z2, hz_2, h⟩ := oS h
 refine RunC.cutN (fun τ Γ => ∃ (L19 : List F) (u17 : Nat) (u18 : Nat), WeakLe τ [(6, oref 1 u17 0 L19.length)] ∧ DeadLe Γ [⟨1, none⟩, ⟨u17, some (L19.map f32)⟩, ⟨u18, none⟩] ∧ z2 = .inl L19) ?_ ?_
 ·refine RunC.block (RunC.loop (RunL.loopM (x := z2) (s_B10Vector_s1 r1) (fun (s : (List F) × Int × Int × Int) τ Γ => ∃ (u4 : Nat) (u5 : Nat), WeakLe τ [(1, i64 s.2.2.2), (5, optr 0 1 0), (6, oref 1 u4 0 s.1.length)] ∧ DeadLe Γ [⟨1, some [sl r1.length (r1.map (ik .u8)), i64 s.2.1, ik .u64 s.2.2.1]⟩, ⟨u4, some (s.1.map f32)⟩, ⟨u5, none⟩]) ?_ _ _ _ hz_2 ⟨1, 0, ⟨aR, aR, aR, trivial⟩, ⟨⟨rfl, .inr rfl⟩, ⟨rfl, .inr rfl⟩, ⟨rfl, .inl rfl⟩, trivial⟩⟩))
  rintro ⟨L6, v7, v8, v9⟩ τ2 Γ2 y2_ ⟨u4, u5, hw2, hd2⟩ h2_ ho2 hr2
  refine RunC.wl (τ' := [(1, i64 v9), (5, optr 0 1 0), (6, oref 1 u4 0 L6.length)]) (Γ' := [⟨1, some [sl r1.length (r1.map (ik .u8)), i64 v7, ik .u64 v8]⟩, ⟨u4, some (L6.map f32)⟩, ⟨u5, none⟩]) hw2 hd2 ?_
  replace h2_ : s_B10Vector_b1 r1 L6 v7 v8 v9 = some y2_ := h2_
  unfold s_B10Vector_b1 at h2_
  refine yS<|yS ?_
  rcases oB h2_ with ⟨hc2, h2_⟩ | ⟨hc2, h2_⟩
  ·refine yW<|ym rfl (i64 v9)<|yl rfl (b true) (LOp.eqb (LOp.gtr rfl rfl rfl) hc2)<|zN ?_
   refine yT<|RunC.skip<|yS<|RunC.block ?_
   obtain ⟨r10, r11, r12, hf3, h2_⟩ := obind3_some h2_
   obtain ⟨x13, hx4, h2_⟩ := oL h2_
   obtain ⟨x14, hx5, h2_⟩ := oL h2_
   obtain ⟨x15, hx6, h2_⟩ := oL h2_
   obtain ⟨hm7, h2_⟩ := need_some h2_
   refine yW<|ym rfl (oref 1 u4 0 L6.length)<|ym rfl (optr 0 1 0)<|ROps.callO (A := [optr 0 1 0, i64 33]) (args := [optr 0 0 0, i64 33]) (Γc := [⟨0, some [sl r1.length (r1.map (ik .u8)), i64 v7, ik .u64 v8]⟩]) (Γc' := [⟨0, some [sl r1.length (r1.map (ik .u8)), i64 r11, ik .u64 r12]⟩]) (r' := i64 r10) (Γ' := [⟨1, some [sl r1.length (r1.map (ik .u8)), i64 r11, ik .u64 r12]⟩, ⟨u4, some (L6.map f32)⟩, ⟨u5, none⟩]) [(0, 1)] [] rfl (CallAs.func ent36 rfl rfl) rfl rfl (SelOk.of (ndB_ok rfl) (SelL.cells0 rfl (by simp [ren, rens, sigma, rens_f32, rens_f64, rens_i64, rens_ik, rens_str, rens_cp]) (lts_cons (lt_slk (fun _ => rfl)) (lts_cons rfl (lts_cons rfl lts_nil))) trivial)) (live_of ⟨⟨_, _, rfl⟩, trivial⟩) (by simp [ren, rens, sigma, rens_f32, rens_f64, rens_i64, rens_ik, rens_str, rens_cp]) rfl (s_l00Src_pick_0p0_C0_ok 33 r1 v7 v8 r10 r11 r12 hf3) rfl (news_of trivial) (ndB_ok rfl) (by simp [ren, rens, sigma]) (by simp [backOb, sigma, ren, rens, rens_f32, rens_f64, rens_i64, rens_ik, rens_str, rens_cp])<|yl rfl (i64 x13) (LOp.eqr (LOp.sub rfl rfl rfl) (congrArg (ik .i64) hx4))<|yl rfl (f32 x14) (LOp.eqr (LOp.i2f (src := 2) (dst := 41) ⟨_, pun2⟩ pun41 rfl rfl) (congrArg (f .f32) hx5))<|yd rfl (f32 x15) (TOp.eqr (TOp.fop (.inr (.inr (.inr rfl))) rfl (OpF.tmp rfl) (OpF.const rfl (by kernel_rfl) (by kernel_rfl))) (congrArg (f .f32) hx6))<|ye rfl (oref 2 (u5 + 1) 0 1) ([⟨1, some [sl r1.length (r1.map (ik .u8)), i64 r11, ik .u64 r12]⟩, ⟨u4, some (L6.map f32)⟩, ⟨(u5 + 1), some (([x15] : List F).map f32)⟩]) (TOp.buildSlice_o (g := ⟨u5, none⟩) (za := f32 (some 0)) (qs := [(0, [f32 x15])]) 2 rfl und25 siz41 zer41 rfl zel41 rfl rfl ⟨rfl, ⟨_, ALe.refl _, rfl⟩, trivial⟩ rfl)<|ROps.app (f := f32) (xs := L6) (ys := ([x15] : List F)) (Γ' := [⟨1, some [sl r1.length (r1.map (ik .u8)), i64 r11, ik .u64 r12]⟩, ⟨(u4 + 1), some ((L6 ++ ([x15] : List F)).map f32)⟩, ⟨(u5 + 1), some (([x15] : List F).map f32)⟩]) rfl pun25 inf41 rfl rfl rfl rfl rfl rfl rfl rfl rfl (by simp) (ReadAs.own rfl (by simp)) (ones_map (fun _ => rfl)) (ap_by hm7) (ap_mx hm7) rfl<|ya rfl (oref 1 (u4 + 1) 0 (L6.length + 1))<|zN ?_
   refine RunC.wl (τ' := [(1, i64 v9), (5, optr 0 1 0), (6, oref 1 (u4 + 1) 0 (L6.length + 1))]) (Γ' := [⟨1, some [sl r1.length (r1.map (ik .u8)), i64 r11, ik .u64 r12]⟩, ⟨(u4 + 1), some ((L6 ++ ([x15] : List F)).map f32)⟩, ⟨(u5 + 1), none⟩]) ⟨aR, aR, aR, trivial⟩ ⟨⟨rfl, .inr rfl⟩, ⟨rfl, .inr rfl⟩, ⟨rfl, .inl rfl⟩, trivial⟩ ?_
   obtain ⟨x16, hx8, h2_⟩ := oL h2_
   refine yW<|ym rfl (i64 v9)<|yl rfl (i64 x16) (LOp.eqr (LOp.sub rfl rfl rfl) (congrArg (ik .i64) hx8))<|ya rfl (i64 x16)<|zN ?_
   cases oI h2_
   exact ⟨_, rfl, (u4 + 1), (u5 + 1), ⟨aR, aR, (ALe.eq (by rw [(app_len rfl rfl)] <;> rfl)), trivial⟩, ⟨⟨rfl, .inr rfl⟩, ⟨rfl, .inr rfl⟩, ⟨rfl, .inl rfl⟩, trivial⟩⟩
  ·refine yW<|ym rfl (i64 v9)<|yl rfl (b false) (LOp.eqb (LOp.gtr rfl rfl rfl) hc2)<|zN ?_
   refine yF<|RunC.exit ?_
   cases oI h2_
   have hx := ho2 _ rfl
   exact ⟨L6, u4, u5, ⟨aR, trivial⟩, ⟨⟨rfl, .inl rfl⟩, ⟨rfl, .inr rfl⟩, ⟨rfl, .inl rfl⟩, trivial⟩, hx⟩
 ·rintro τ3 Γ3 ⟨L19, u17, u18, hw3, hd3, rfl⟩
  refine RunC.wl hw3 hd3 ?_
  replace h : s_B10Vector_k1 L19 = some q0 := h
  unfold s_B10Vector_k1 at h
  refine zQ<|ym rfl (oref 1 u17 0 L19.length)<|ya rfl (oref 1 u17 0 L19.length)<|zN ?_
  refine RunC.ret ?_
  have hq := oI h
  subst q0
  exact bodyQ.mk (r' := oref 1 u17 0 L19.length) [(1, u17)] (.inr rfl) rfl (ndB_ok rfl) (by simp [ren, rens, sigma]) rfl (Res.one rfl (RV.tmp rfl)) (SelL.arr0 (f := f32) (fun _ => rfl) rfl trivial)
def i_length_float32 (a0 : List F) : Option (Int) :=
 some (a0.length : Int)
theorem i_length_float32_ok (a0 : List F) (q0 : Int) (h : i_length_float32 a0 = some q0) : Ev Tryz.prog 98 [(sFc a0)] [] (i64 q0) [] := by
 refine yE Tryz.func98 0 11 0 [(0, (sFc a0))] [] rfl ?_
 unfold i_length_float32 at h
 refine zQ<|ya rfl (i64 0)<|zN ?_
 refine zQ<|ym rfl (sFc a0)<|yl rfl (i64 (a0.length : Int)) (LOp.len_sl und25 rfl rfl)<|ya rfl (i64 (a0.length : Int))<|zN ?_
 refine RunC.ret ?_
 have hq := oI h
 subst q0
 exact bodyQ.pure (.inr rfl) rfl (Res.one rfl (RV.tmp rfl))
def i_inRange (a0 : Int) (a1 : Int) (a2 : Int) : Option (Bool) :=
 bsel (decide (a1 ≤ a0)) (
  some (decide (a0 ≤ a2))) (
  some false)
theorem i_inRange_ok (a0 : Int) (a1 : Int) (a2 : Int) (q0 : Bool) (h : i_inRange a0 a1 a2 = some q0) : Ev Tryz.prog 112 [i64 a0, i64 a1, i64 a2] [] (b q0) [] := by
 refine yE Tryz.func112 0 31 0 [(0, i64 a0), (1, i64 a1), (2, i64 a2)] [] rfl ?_
 unfold i_inRange at h
 refine zQ<|ya rfl (b false)<|zN ?_
 refine yS ?_
 rcases oB h with ⟨hc1, h⟩ | ⟨hc1, h⟩
 ·refine yW<|ym rfl (i64 a1)<|ym rfl (i64 a0)<|yl rfl (b true) (LOp.eqb (LOp.leq rfl rfl rfl) hc1)<|ym rfl (b true)<|ym rfl (i64 a0)<|ym rfl (i64 a2)<|yl rfl (b (decide (a0 ≤ a2))) (LOp.leq rfl rfl rfl)<|yl rfl (b (decide (a0 ≤ a2))) yq<|ya rfl (b (decide (a0 ≤ a2)))<|zN ?_
  refine RunC.ret ?_
  have hq := oI h
  subst q0
  exact bodyQ.pure (.inr rfl) rfl (Res.one rfl (RV.tmp rfl))
 ·refine yW<|ym rfl (i64 a1)<|ym rfl (i64 a0)<|yl rfl (b false) (LOp.eqb (LOp.leq rfl rfl rfl) hc1)<|ym rfl (b false)<|ROps.s rfl rfl rfl<|ROps.s rfl rfl rfl<|ROps.s rfl rfl rfl<|yl rfl (b false) yp<|ya rfl (b false)<|zN ?_
  refine RunC.ret ?_
  have hq := oI h
  subst q0
  exact bodyQ.pure (.inr rfl) rfl (Res.one rfl (RV.tmp rfl))
def x_math_IsNaN (a0 : F) : Option (Bool) :=
 some (!feq .f64 a0 a0)
theorem x_math_IsNaN_ok (a0 : F) (q0 : Bool) (h : x_math_IsNaN a0 = some q0) : Ev Tryz.prog 126 [f64 a0] [] (b q0) [] := by
 refine yE Tryz.func126 0 13 0 [(0, f64 a0)] [] rfl ?_
 unfold x_math_IsNaN at h
 refine zQ<|ya rfl (b false)<|zN ?_
 refine zQ<|ym rfl (f64 a0)<|ym rfl (f64 a0)<|yl rfl (b (!feq .f64 a0 a0)) (LOp.fne rfl (OpF.tmp rfl) (OpF.tmp rfl))<|ya rfl (b (!feq .f64 a0 a0))<|zN ?_
 refine RunC.ret ?_
 have hq := oI h
 subst q0
 exact bodyQ.pure (.inr rfl) rfl (Res.one rfl (RV.tmp rfl))
def x_math_Abs (a0 : F) : Option (F) :=
 olet (fabs a0) fun (x1 : F) =>
 some x1
theorem x_math_Abs_ok (a0 : F) (q0 : F) (h : x_math_Abs a0 = some q0) : Ev Tryz.prog 96 [f64 a0] [] (f64 q0) [] := by
 refine yE Tryz.func96 0 15 0 [(0, f64 a0)] [] rfl ?_
 unfold x_math_Abs at h
 refine zQ<|yl rfl (f64 (some 0)) (LOp.le (LOp.assign rfl rfl) (ALe.fl (by kernel_rfl) (by kernel_rfl)))<|zN ?_
 refine yS ?_
 obtain ⟨x1, hx1, h⟩ := oL h
 refine yW<|ym rfl (f64 a0)<|yl rfl (bt .f64 .u64 a0) (LOp.fbits ext119 rfl (OpF.tmp rfl))<|yl rfl (bt .f64 .u64 x1) (LOp.eqr (LOp.andNot_bt rfl rfl rfl) (congrArg (bt .f64 .u64) hx1))<|yl rfl (f64 x1) (LOp.ffrom ext118 rfl rfl)<|ya rfl (f64 x1)<|zN ?_
 refine RunC.ret ?_
 have hq := oI h
 subst q0
 exact bodyQ.pure (.inr rfl) rfl (Res.one rfl (RV.tmp rfl))
def x_math_IsInf_k1 (y3 : F) : Option (Bool) :=
 some (flt .f64 (some 9218868437227405311) y3)
def x_math_IsInf (a0 : F) (a1 : Int) : Option (Bool) :=
 bsel (decide (a1 = 0)) (
  obind (x_math_Abs a0) fun (r1 : F) =>
  x_math_IsInf_k1 r1) (
  bsel (decide (a1 < 0)) (
   olet (fneg .f64 a0) fun (x2 : F) =>
   x_math_IsInf_k1 x2) (
   x_math_IsInf_k1 a0))
theorem x_math_IsInf_ok (a0 : F) (a1 : Int) (q0 : Bool) (h : x_math_IsInf a0 a1 = some q0) : Ev Tryz.prog 127 [f64 a0, i64 a1] [] (b q0) [] := by
 refine yE Tryz.func127 0 31 0 [(0, f64 a0), (1, i64 a1)] [] rfl ?_
 unfold x_math_IsInf at h
 refine zQ<|ya rfl (b false)<|zN ?_
 refine yS<|RunC.cutN (fun τ Γ => ∃ (y3 : F), WeakLe τ [(0, f64 y3)] ∧ DeadLe Γ [] ∧ x_math_IsInf_k1 y3 = some q0) ?_ ?_
 ·refine yS ?_
  rcases oB h with ⟨hc1, h⟩ | ⟨hc1, h⟩
  ·refine yW<|ym rfl (i64 a1)<|yl rfl (b true) (LOp.eqb (LOp.eql rfl rfl rfl) hc1)<|zN ?_
   refine yT ?_
   obtain ⟨r1, hf2, h⟩ := oS h
   refine yW<|ym rfl (f64 a0)<|yd rfl (f64 r1) (yc ent96 rfl rfl bN0 (x_math_Abs_ok a0 r1 hf2))<|ya rfl (f64 r1)<|zN ?_
   exact ⟨r1, ⟨aR, trivial⟩, trivial, h⟩
  ·refine yW<|ym rfl (i64 a1)<|yl rfl (b false) (LOp.eqb (LOp.eql rfl rfl rfl) hc1)<|zN ?_
   refine yF<|yS ?_
   rcases oB h with ⟨hc3, h⟩ | ⟨hc3, h⟩
   ·refine yW<|ym rfl (i64 a1)<|yl rfl (b true) (LOp.eqb (LOp.lss rfl rfl rfl) hc3)<|zN ?_
    refine yT ?_
    obtain ⟨x2, hx4, h⟩ := oL h
    refine yW<|ym rfl (f64 a0)<|yl rfl (f64 x2) (LOp.eqr (LOp.fneg rfl (OpF.tmp rfl)) (congrArg (f .f64) hx4))<|ya rfl (f64 x2)<|zN ?_
    exact ⟨x2, ⟨aR, trivial⟩, trivial, h⟩
   ·refine yW<|ym rfl (i64 a1)<|yl rfl (b false) (LOp.eqb (LOp.lss rfl rfl rfl) hc3)<|zN ?_
    refine yF<|RunC.skip ?_
    exact ⟨a0, ⟨aR, trivial⟩, trivial, h⟩
 ·rintro τ2 Γ2 ⟨y3, hw2, hd2, h⟩
  refine RunC.wl hw2 hd2 ?_
  unfold x_math_IsInf_k1 at h
  refine zQ<|ym rfl (f64 y3)<|yl rfl (b (flt .f64 (some 9218868437227405311) y3)) (LOp.fgt rfl (OpF.tmp rfl) (OpF.const rfl (by kernel_rfl) (by kernel_rfl)))<|ya rfl (b (flt .f64 (some 9218868437227405311) y3))<|zN ?_
  refine RunC.ret ?_
  have hq := oI h
  subst q0
  exact bodyQ.pure (.inr rfl) rfl (Res.one rfl (RV.tmp rfl))
def i_isFinite64 (a0 : F) : Option (Bool) :=
 obind (x_math_IsNaN a0) fun (r1 : Bool) =>
 bsel r1 (
  some false) (
  obind (x_math_IsInf a0 0) fun (r2 : Bool) =>
  some (!r2))
theorem i_isFinite64_ok (a0 : F) (q0 : Bool) (h : i_isFinite64 a0 = some q0) : Ev Tryz.prog 113 [f64 a0] [] (b q0) [] := by
 refine yE Tryz.func113 0 23 0 [(0, f64 a0)] [] rfl ?_
 unfold i_isFinite64 at h
 refine zQ<|ya rfl (b false)<|zN ?_
 refine yS ?_
 obtain ⟨r1, hf1, h⟩ := oS h
 rcases oB h with ⟨hc2, h⟩ | ⟨hc2, h⟩
 ·refine yW<|ym rfl (f64 a0)<|yd rfl (b true) (TOp.eqb (yc ent126 rfl rfl bN0 (x_math_IsNaN_ok a0 r1 hf1)) hc2)<|yl rfl (b false) y1<|ym rfl (b false)<|ROps.s rfl rfl rfl<|ROps.s rfl rfl rfl<|ROps.s rfl rfl rfl<|yl rfl (b false) yp<|ya rfl (b false)<|zN ?_
  refine RunC.ret ?_
  have hq := oI h
  subst q0
  exact bodyQ.pure (.inr rfl) rfl (Res.one rfl (RV.tmp rfl))
 ·obtain ⟨r2, hf3, h⟩ := oS h
  refine yW<|ym rfl (f64 a0)<|yd rfl (b false) (TOp.eqb (yc ent126 rfl rfl bN0 (x_math_IsNaN_ok a0 r1 hf1)) hc2)<|yl rfl (b true) y0<|ym rfl (b true)<|ym rfl (f64 a0)<|yd rfl (b r2) (yc ent127 rfl rfl (bP bN0) (x_math_IsInf_ok a0 0 r2 hf3))<|yl rfl (b (!r2)) (LOp.not rfl rfl)<|yl rfl (b (!r2)) yq<|ya rfl (b (!r2))<|zN ?_
  refine RunC.ret ?_
  have hq := oI h
  subst q0
  exact bodyQ.pure (.inr rfl) rfl (Res.one rfl (RV.tmp rfl))
def i_IsFinite (a0 : F) : Option (Bool) :=
 olet (fwiden a0) fun (x1 : F) =>
 obind (i_isFinite64 x1) fun (r2 : Bool) =>
 some r2
theorem i_IsFinite_ok (a0 : F) (q0 : Bool) (h : i_IsFinite a0 = some q0) : Ev Tryz.prog 82 [f32 a0] [] (b q0) [] := by
 refine yE Tryz.func82 0 13 0 [(0, f32 a0)] [] rfl ?_
 unfold i_IsFinite at h
 refine zQ<|ya rfl (b false)<|zN ?_
 refine yS ?_
 obtain ⟨x1, hx1, h⟩ := oL h
 obtain ⟨r2, hf2, h⟩ := oS h
 refine yW<|ym rfl (f32 a0)<|yd rfl (f64 x1) (TOp.eqr (TOp.widen (src := 41) (dst := 48) ⟨_, pun41⟩ pun48 rfl (OpF.tmp rfl)) (congrArg (f .f64) hx1))<|yd rfl (b r2) (yc ent113 rfl rfl bN0 (i_isFinite64_ok x1 r2 hf2))<|ya rfl (b r2)<|zN ?_
 refine RunC.ret ?_
 have hq := oI h
 subst q0
 exact bodyQ.pure (.inr rfl) rfl (Res.one rfl (RV.tmp rfl))
def i_areFinite_1 (a0 : F) : Option (Bool) :=
 obind (i_IsFinite a0) fun (r1 : Bool) =>
 some (!r1)
theorem i_areFinite_1_ok (a0 : F) (q0 : Bool) (h : i_areFinite_1 a0 = some q0) : Ev Tryz.prog 121 [f32 a0] [] (b q0) [] := by
 refine yE Tryz.func121 0 13 0 [(0, f32 a0)] [] rfl ?_
 unfold i_areFinite_1 at h
 refine zQ<|ya rfl (b false)<|zN ?_
 refine yS ?_
 obtain ⟨r1, hf1, h⟩ := oS h
 refine yW<|ym rfl (f32 a0)<|yd rfl (b r1) (yc ent82 rfl rfl bN0 (i_IsFinite_ok a0 r1 hf1))<|yl rfl (b (!r1)) (LOp.not rfl rfl)<|ya rfl (b (!r1))<|zN ?_
 refine RunC.ret ?_
 have hq := oI h
 subst q0
 exact bodyQ.pure (.inr rfl) rfl (Res.one rfl (RV.tmp rfl))
def x_slices_IndexFunc_float32_float32_1Fi_areFinite_1_b1 (a0 : List F) (v1 : Int) : Option (LR (Int) (Unit) (Int)) :=
 bsel (decide (v1 < (a0.length : Int))) (
  obind (at? a0 v1) fun (e2 : F) =>
  obind (i_areFinite_1 e2) fun (r3 : Bool) =>
  bsel r3 (
   some (LR.ret v1)) (
   olet (IntKind.i64.wrap (v1 + 1)) fun (x4 : Int) =>
   some (LR.next x4))) (
  some (LR.out ()))
def x_slices_IndexFunc_float32_float32_1Fi_areFinite_1_s1 (a0 : List F) : (Int) → Option (LR (Int) (Unit) (Int)) := fun s => x_slices_IndexFunc_float32_float32_1Fi_areFinite_1_b1 a0 s
def x_slices_IndexFunc_float32_float32_1Fi_areFinite_1_k1  : Option (Int) :=
 some (-1)
def x_slices_IndexFunc_float32_float32_1Fi_areFinite_1 (a0 : List F) : Option (Int) :=
 obind (loopM (x_slices_IndexFunc_float32_float32_1Fi_areFinite_1_s1 a0) 0) fun z => osum z (fun _ => x_slices_IndexFunc_float32_float32_1Fi_areFinite_1_k1) (fun r => some r)
theorem x_slices_IndexFunc_float32_float32_1Fi_areFinite_1_ok (a0 : List F) (q0 : Int) (h : x_slices_IndexFunc_float32_float32_1Fi_areFinite_1 a0 = some q0) : Ev Tryz.prog 128 [(sFc a0), fn (.func 121) [] []] [] (i64 q0) [] := by
 refine yE Tryz.func128 0 39 0 ([(0, (sFc a0)), (1, fn (.func 121) [] [])]) [] rfl ?_
 unfold x_slices_IndexFunc_float32_float32_1Fi_areFinite_1 at h
 refine zQ<|ya rfl (i64 0)<|zN ?_
 refine yS<|zQ<|ym rfl (sFc a0)<|yl rfl (i64 (a0.length : Int)) (LOp.len_sl und25 rfl rfl)<|ym rfl (i64 0)<|zN ?_
 obtain ⟨z2, hz_2, h⟩ := oS h
 refine RunC.cutN (fun τ Γ => WeakLe τ [] ∧ DeadLe Γ [] ∧ z2 = .inl ()) ?_ ?_
 ·refine RunC.block (RunC.loop (RunL.loopM (x := z2) (x_slices_IndexFunc_float32_float32_1Fi_areFinite_1_s1 a0) (fun (s : Int) τ Γ => WeakLe τ [(0, (sFc a0)), (1, fn (.func 121) [] []), (7, i64 (a0.length : Int)), (8, i64 s)] ∧ DeadLe Γ []) ?_ _ _ _ hz_2 ⟨⟨aR, aR, aR, aR, trivial⟩, trivial⟩))
  rintro v1 τ2 Γ2 y2_ ⟨hw2, hd2⟩ h2_ ho2 hr2
  refine RunC.wl (τ' := [(0, (sFc a0)), (1, fn (.func 121) [] []), (7, i64 (a0.length : Int)), (8, i64 v1)]) (Γ' := []) hw2 hd2 ?_
  replace h2_ : x_slices_IndexFunc_float32_float32_1Fi_areFinite_1_b1 a0 v1 = some y2_ := h2_
  unfold x_slices_IndexFunc_float32_float32_1Fi_areFinite_1_b1 at h2_
  refine yS ?_
  rcases oB h2_ with ⟨hc1, h2_⟩ | ⟨hc1, h2_⟩
  ·refine yW<|yl rfl (b true) (LOp.eqb (LOp.lss rfl rfl rfl) hc1)<|zN ?_
   refine yS<|yT<|RunC.skip<|yS<|RunC.block<|zQ<|ym rfl (i64 v1)<|ya rfl (i64 v1)<|zN ?_
   refine yS ?_
   obtain ⟨e2, he2, h2_⟩ := oS h2_
   obtain ⟨r3, hf3, h2_⟩ := oS h2_
   rcases oB h2_ with ⟨hc4, h2_⟩ | ⟨hc4, h2_⟩
   ·refine yW<|ym rfl (fn (.func 121) [] [])<|ym rfl (sFc a0)<|ym rfl (i64 v1)<|yl rfl (ptr [f32 e2]) (LOp.le (LOp.ix (f := f32) und25 siz41 rfl rfl rfl rfl he2) ALe.ptr)<|yl rfl (f32 e2) (y2 agg41)<|yd rfl (b true) (TOp.eqb (TOp.callB (CallAs.fn ent121 rfl rfl rfl rfl) bN0 rfl rfl (i_areFinite_1_ok e2 r3 hf3)) hc4)<|zN ?_
    refine yT<|zQ<|ym rfl (i64 v1)<|ya rfl (i64 v1)<|zN ?_
    refine RunC.ret ?_
    cases oI h2_
    have hx3_ := hr2 _ rfl
    subst hx3_
    have hq := oI h
    subst q0
    exact bodyQ.pure (.inr rfl) rfl (Res.one rfl (RV.tmp rfl))
   ·refine yW<|ym rfl (fn (.func 121) [] [])<|ym rfl (sFc a0)<|ym rfl (i64 v1)<|yl rfl (ptr [f32 e2]) (LOp.le (LOp.ix (f := f32) und25 siz41 rfl rfl rfl rfl he2) ALe.ptr)<|yl rfl (f32 e2) (y2 agg41)<|yd rfl (b false) (TOp.eqb (TOp.callB (CallAs.fn ent121 rfl rfl rfl rfl) bN0 rfl rfl (i_areFinite_1_ok e2 r3 hf3)) hc4)<|zN ?_
    refine yF<|RunC.skip ?_
    obtain ⟨x4, hx5, h2_⟩ := oL h2_
    refine yW<|yl rfl (i64 x4) (LOp.eqr (LOp.add rfl rfl rfl) (congrArg (ik .i64) hx5))<|ym rfl (i64 x4)<|zN ?_
    cases oI h2_
    exact ⟨_, rfl, ⟨aR, aR, aR, aR, trivial⟩, trivial⟩
  ·refine yW<|yl rfl (b false) (LOp.eqb (LOp.lss rfl rfl rfl) hc1)<|zN ?_
   refine yS<|yF<|RunC.exit ?_
   cases oI h2_
   have hx := ho2 _ rfl
   exact ⟨trivial, trivial, hx⟩
 ·rintro τ4 Γ4 ⟨hw4, hd4, rfl⟩
  refine RunC.wl hw4 hd4 ?_
  replace h : x_slices_IndexFunc_float32_float32_1Fi_areFinite_1_k1 = some q0 := h
  unfold x_slices_IndexFunc_float32_float32_1Fi_areFinite_1_k1 at h
  refine zQ<|ya rfl (i64 (-1))<|zN ?_
  refine RunC.ret ?_
  have hq := oI h
  subst q0
  exact bodyQ.pure (.inr rfl) rfl (Res.one rfl (RV.tmp rfl))
def x_slices_ContainsFunc_float32_float32_1Fi_areFinite_1 (a0 : List F) : Option (Bool) :=
 obind (x_slices_IndexFunc_float32_float32_1Fi_areFinite_1 a0) fun (r1 : Int) =>
 some (decide (0 ≤ r1))
theorem x_slices_ContainsFunc_float32_float32_1Fi_areFinite_1_ok (a0 : List F) (q0 : Bool) (h : x_slices_ContainsFunc_float32_float32_1Fi_areFinite_1 a0 = some q0) : Ev Tryz.prog 120 [(sFc a0), fn (.func 121) [] []] [] (b q0) [] := by
 refine yE Tryz.func120 0 19 0 ([(0, (sFc a0)), (1, fn (.func 121) [] [])]) [] rfl ?_
 unfold x_slices_ContainsFunc_float32_float32_1Fi_areFinite_1 at h
 refine zQ<|ya rfl (b false)<|zN ?_
 refine yS ?_
 obtain ⟨r1, hf1, h⟩ := oS h
 refine yW<|ym rfl (sFc a0)<|ym rfl (fn (.func 121) [] [])<|yd rfl (i64 r1) (yc ent128 rfl rfl (bS (Bors.cons (Bor.fn bN bN) bN)) (x_slices_IndexFunc_float32_float32_1Fi_areFinite_1_ok a0 r1 hf1))<|yl rfl (b (decide (0 ≤ r1))) (LOp.geq rfl rfl rfl)<|ya rfl (b (decide (0 ≤ r1)))<|zN ?_
 refine RunC.ret ?_
 have hq := oI h
 subst q0
 exact bodyQ.pure (.inr rfl) rfl (Res.one rfl (RV.tmp rfl))
def i_areFinite (a0 : List F) : Option (Bool) :=
 obind (x_slices_ContainsFunc_float32_float32_1Fi_areFinite_1 a0) fun (r1 : Bool) =>
 some (!r1)
theorem i_areFinite_ok (a0 : List F) (q0 : Bool) (h : i_areFinite a0 = some q0) : Ev Tryz.prog 99 [(sFc a0)] [] (b q0) [] := by
 refine yE Tryz.func99 0 13 0 [(0, (sFc a0))] [] rfl ?_
 unfold i_areFinite at h
 refine zQ<|ya rfl (b false)<|zN ?_
 refine yS ?_
 obtain ⟨r1, hf1, h⟩ := oS h
 refine yW<|ym rfl (sFc a0)<|yd rfl (b r1) (yc ent120 rfl rfl (bS (Bors.cons (Bor.fn bN bN) bN)) (x_slices_ContainsFunc_float32_float32_1Fi_areFinite_1_ok a0 r1 hf1))<|yl rfl (b (!r1)) (LOp.not rfl rfl)<|ya rfl (b (!r1))<|zN ?_
 refine RunC.ret ?_
 have hq := oI h
 subst q0
 exact bodyQ.pure (.inr rfl) rfl (Res.one rfl (RV.tmp rfl))
def i_isList (a0 : List F) (a1 : Int) : Option (Bool) :=
 obind (i_length_float32 a0) fun (r1 : Int) =>
 obind (i_inRange r1 1 a1) fun (r2 : Bool) =>
 bsel r2 (
  obind (i_areFinite a0) fun (r3 : Bool) =>
  some r3) (
  some false)
theorem i_isList_ok (a0 : List F) (a1 : Int) (q0 : Bool) (h : i_isList a0 a1 = some q0) : Ev Tryz.prog 81 [(sFc a0), i64 a1] [] (b q0) [] := by
 refine yE Tryz.func81 0 27 0 [(0, (sFc a0)), (1, i64 a1)] [] rfl ?_
 unfold i_isList at h
 refine zQ<|ya rfl (b false)<|zN ?_
 refine yS ?_
 obtain ⟨r1, hf1, h⟩ := oS h
 obtain ⟨r2, hf2, h⟩ := oS h
 rcases oB h with ⟨hc3, h⟩ | ⟨hc3, h⟩
 ·obtain ⟨r3, hf4, h⟩ := oS h
  refine yW<|ym rfl (sFc a0)<|yd rfl (i64 r1) (yc ent98 rfl rfl (bS bN) (i_length_float32_ok a0 r1 hf1))<|ym rfl (i64 a1)<|yd rfl (b true) (TOp.eqb (yc ent112 rfl rfl (bP (bP bN0)) (i_inRange_ok r1 1 a1 r2 hf2)) hc3)<|ym rfl (b true)<|ym rfl (sFc a0)<|yd rfl (b r3) (yc ent99 rfl rfl (bS bN) (i_areFinite_ok a0 r3 hf4))<|yl rfl (b r3) yq<|ya rfl (b r3)<|zN ?_
  refine RunC.ret ?_
  have hq := oI h
  subst q0
  exact bodyQ.pure (.inr rfl) rfl (Res.one rfl (RV.tmp rfl))
 ·refine yW<|ym rfl (sFc a0)<|yd rfl (i64 r1) (yc ent98 rfl rfl (bS bN) (i_length_float32_ok a0 r1 hf1))<|ym rfl (i64 a1)<|yd rfl (b false) (TOp.eqb (yc ent112 rfl rfl (bP (bP bN0)) (i_inRange_ok r1 1 a1 r2 hf2)) hc3)<|ym rfl (b false)<|ROps.s rfl rfl rfl<|ROps.s rfl rfl rfl<|yl rfl (b false) yp<|ya rfl (b false)<|zN ?_
  refine RunC.ret ?_
  have hq := oI h
  subst q0
  exact bodyQ.pure (.inr rfl) rfl (Res.one rfl (RV.tmp rfl))
def x_slices_Index_float32_float32_b1 (a0 : List F) (a1 : F) (v1 : Int) : Option (LR (Int) (Unit) (Int)) :=
 bsel (decide (v1 < (a0.length : Int))) (
  obind (at? a0 v1) fun (e2 : F) =>
  bsel (feq .f32 a1 e2) (
   some (LR.ret v1)) (
   olet (IntKind.i64.wrap (v1 + 1)) fun (x3 : Int) =>
   some (LR.next x3))) (
  some (LR.out ()))
def x_slices_Index_float32_float32_s1 (a0 : List F) (a1 : F) : (Int) → Option (LR (Int) (Unit) (Int)) := fun s => x_slices_Index_float32_float32_b1 a0 a1 s
def x_slices_Index_float32_float32_k1  : Option (Int) :=
 some (-1)
def x_slices_Index_float32_float32 (a0 : List F) (a1 : F) : Option (Int) :=
 obind (loopM (x_slices_Index_float32_float32_s1 a0 a1) 0) fun z => osum z (fun _ => x_slices_Index_float32_float32_k1) (fun r => some r)
theorem x_slices_Index_float32_float32_ok (a0 : List F) (a1 : F) (q0 : Int) (h : x_slices_Index_float32_float32 a0 a1 = some q0) : Ev Tryz.prog 100 [(sFc a0), f32 a1] [] (i64 q0) [] := by
 refine yE Tryz.func100 0 39 0 [(0, (sFc a0)), (1, f32 a1)] [] rfl ?_
 unfold x_slices_Index_float32_float32 at h
 refine zQ<|ya rfl (i64 0)<|zN ?_
 refine yS<|zQ<|ym rfl (sFc a0)<|yl rfl (i64 (a0.length : Int)) (LOp.len_sl und25 rfl rfl)<|ym rfl (i64 0)<|zN ?_
 obtain ⟨z2, hz_2, h⟩ := oS h
 refine RunC.cutN (fun τ Γ => WeakLe τ [] ∧ DeadLe Γ [] ∧ z2 = .inl ()) ?_ ?_
 ·refine RunC.block (RunC.loop (RunL.loopM (x := z2) (x_slices_Index_float32_float32_s1 a0 a1) (fun (s : Int) τ Γ => WeakLe τ [(0, (sFc a0)), (1, f32 a1), (7, i64 (a0.length : Int)), (8, i64 s)] ∧ DeadLe Γ []) ?_ _ _ _ hz_2 ⟨⟨aR, aR, aR, aR, trivial⟩, trivial⟩))
  rintro v1 τ2 Γ2 y2_ ⟨hw2, hd2⟩ h2_ ho2 hr2
  refine RunC.wl (τ' := [(0, (sFc a0)), (1, f32 a1), (7, i64 (a0.length : Int)), (8, i64 v1)]) (Γ' := []) hw2 hd2 ?_
  replace h2_ : x_slices_Index_float32_float32_b1 a0 a1 v1 = some y2_ := h2_
  unfold x_slices_Index_float32_float32_b1 at h2_
  refine yS ?_
  rcases oB h2_ with ⟨hc1, h2_⟩ | ⟨hc1, h2_⟩
  ·refine yW<|yl rfl (b true) (LOp.eqb (LOp.lss rfl rfl rfl) hc1)<|zN ?_
   refine yS<|yT<|RunC.skip<|yS<|RunC.block<|zQ<|ym rfl (i64 v1)<|ya rfl (i64 v1)<|zN ?_
   refine yS ?_
   obtain ⟨e2, he2, h2_⟩ := oS h2_
   rcases oB h2_ with ⟨hc3, h2_⟩ | ⟨hc3, h2_⟩
   ·refine yW<|ym rfl (f32 a1)<|ym rfl (sFc a0)<|ym rfl (i64 v1)<|yl rfl (ptr [f32 e2]) (LOp.le (LOp.ix (f := f32) und25 siz41 rfl rfl rfl rfl he2) ALe.ptr)<|yl rfl (f32 e2) (y2 agg41)<|yl rfl (b true) (LOp.eqb (LOp.feq rfl (OpF.tmp rfl) (OpF.tmp rfl)) hc3)<|zN ?_
    refine yT<|zQ<|ym rfl (i64 v1)<|ya rfl (i64 v1)<|zN ?_
    refine RunC.ret ?_
    cases oI h2_
    have hx3_ := hr2 _ rfl
    subst hx3_
    have hq := oI h
    subst q0
    exact bodyQ.pure (.inr rfl) rfl (Res.one rfl (RV.tmp rfl))
   ·refine yW<|ym rfl (f32 a1)<|ym rfl (sFc a0)<|ym rfl (i64 v1)<|yl rfl (ptr [f32 e2]) (LOp.le (LOp.ix (f := f32) und25 siz41 rfl rfl rfl rfl he2) ALe.ptr)<|yl rfl (f32 e2) (y2 agg41)<|yl rfl (b false) (LOp.eqb (LOp.feq rfl (OpF.tmp rfl) (OpF.tmp rfl)) hc3)<|zN ?_
    refine yF<|RunC.skip ?_
    obtain ⟨x3, hx4, h2_⟩ := oL h2_
    refine yW<|yl rfl (i64 x3) (LOp.eqr (LOp.add rfl rfl rfl) (congrArg (ik .i64) hx4))<|ym rfl (i64 x3)<|zN ?_
    cases oI h2_
    exact ⟨_, rfl, ⟨aR, aR, aR, aR, trivial⟩, trivial⟩
  ·refine yW<|yl rfl (b false) (LOp.eqb (LOp.lss rfl rfl rfl) hc1)<|zN ?_
   refine yS<|yF<|RunC.exit ?_
   cases oI h2_
   have hx := ho2 _ rfl
   exact ⟨trivial, trivial, hx⟩
 ·rintro τ4 Γ4 ⟨hw4, hd4, rfl⟩
  refine RunC.wl hw4 hd4 ?_
  replace h : x_slices_Index_float32_float32_k1 = some q0 := h
  unfold x_slices_Index_float32_float32_k1 at h
  refine zQ<|ya rfl (i64 (-1))<|zN ?_
  refine RunC.ret ?_
  have hq := oI h
  subst q0
  exact bodyQ.pure (.inr rfl) rfl (Res.one rfl (RV.tmp rfl))
def x_slices_Contains_float32_float32 (a0 : List F) (a1 : F) : Option (Bool) :=
 obind (x_slices_Index_float32_float32 a0 a1) fun (r1 : Int) =>
 some (decide (0 ≤ r1))
theorem x_slices_Contains_float32_float32_ok (a0 : List F) (a1 : F) (q0 : Bool) (h : x_slices_Contains_float32_float32 a0 a1 = some q0) : Ev Tryz.prog 46 [(sFc a0), f32 a1] [] (b q0) [] := by
 refine yE Tryz.func46 0 19 0 [(0, (sFc a0)), (1, f32 a1)] [] rfl ?_
 unfold x_slices_Contains_float32_float32 at h
 refine zQ<|ya rfl (b false)<|zN ?_
 refine yS ?_
 obtain ⟨r1, hf1, h⟩ := oS h
 refine yW<|ym rfl (sFc a0)<|ym rfl (f32 a1)<|yd rfl (i64 r1) (yc ent100 rfl rfl (bS bN0) (x_slices_Index_float32_float32_ok a0 a1 r1 hf1))<|yl rfl (b (decide (0 ≤ r1))) (LOp.geq rfl rfl rfl)<|ya rfl (b (decide (0 ≤ r1)))<|zN ?_
 refine RunC.ret ?_
 have hq := oI h
 subst q0
 exact bodyQ.pure (.inr rfl) rfl (Res.one rfl (RV.tmp rfl))
def x_slices_Clone_float32_float32 (a0 : List F) : Option ((List F)) :=
 need (apok 4 0 a0.length) <|
 some (([] : List F) ++ a0)
theorem x_slices_Clone_float32_float32_ok (a0 : List F) (q0 : List F) (h : x_slices_Clone_float32_float32 a0 = some q0) : Ev Tryz.prog 66 [(sFc a0)] [] (oref 0 0 0 q0.length) [⟨0, some (q0.map f32)⟩] := by
 refine yE Tryz.func66 1 17 0 [(0, (sFc a0))] [⟨0, none⟩] rfl ?_
 unfold x_slices_Clone_float32_float32 at h
 refine zQ<|ya rfl nilsl<|zN ?_
 refine yS<|zQ<|ym rfl (sFc a0)<|ROps.eqnil rfl pun25 rfl rfl rfl rfl rfl ?_ ?_
 ·intro hnil1
  refine zN ?_
  refine yT<|zQ<|ya rfl nilsl<|zN ?_
  refine RunC.nil_slot (Γ' := [⟨1, some (([] : List F).map f32)⟩]) 2 0 rfl rfl rfl<|RunC.ret ?_
  have hnl := List.map_eq_nil_iff.1 hnil1
  have hq : some ([] : List F) = some q0 := by
   rw [← h]; subst hnl; simp [need, apok]
  have hq := oI hq
  subst q0
  exact yB (oref 0 1 0 (([] : List F).length)) [(0, 1)] (Res.eq (Res.one rfl (RV.tmp rfl)) (by rw [(show ([] : List F).length = 0 from rfl)] <;> rfl)) (SelL.arr0 (f := f32) (fun _ => rfl) rfl trivial)
 ·refine zN ?_
  refine yF<|RunC.skip<|yS ?_
  obtain ⟨hm2, h⟩ := need_some h
  refine yW<|ye rfl (oref 0 1 0 0) ([⟨1, some (([] : List F).map f32)⟩]) (TOp.buildSlice_o (g := ⟨0, none⟩) (za := f32 (some 0)) (qs := []) 0 rfl und25 siz41 zer41 rfl zel41 rfl rfl trivial rfl)<|ym rfl (sFc a0)<|ROps.app (f := f32) (xs := ([] : List F)) (ys := a0) (Γ' := [⟨2, some ((([] : List F) ++ a0).map f32)⟩]) rfl pun25 inf41 rfl rfl rfl rfl rfl rfl rfl rfl rfl (by simp) (ReadAs.sl (by simp)) (ones_map (fun _ => rfl)) (ap_by hm2) (ap_mx hm2) rfl<|ya rfl (oref 0 2 0 (0 + a0.length))<|zN ?_
  refine RunC.ret ?_
  have hq := oI h
  subst q0
  exact yB (oref 0 2 0 ((([] : List F) ++ a0).length)) [(0, 2)] (Res.eq (Res.one rfl (RV.tmp rfl)) (by rw [(show (([] : List F) ++ a0).length = (0 + a0.length) from (app_len rfl rfl))] <;> rfl)) (SelL.arr0 (f := f32) (fun _ => rfl) rfl trivial)
def i_allFinite_0o (a0 : List F) : Option ((Bool × (List F)) ⊕ (Bool × (List F) × (List F))) :=
 obind (i_areFinite a0) fun (r1 : Bool) =>
 bsel r1 (
  some (Sum.inl (true, a0))) (
  some (Sum.inr (false, a0, ([] : List F))))
theorem i_allFinite_0o_ok0 (a0 : List F) (q0 : Bool) (q1 : List F) (h : i_allFinite_0o a0 = some (Sum.inl (q0, q1))) : Ev Tryz.prog 64 [oref 0 0 0 a0.length] [⟨0, some (a0.map f32)⟩] (tup [oref 0 0 0 q1.length, b q0]) [⟨0, some (q1.map f32)⟩] := by
 refine Ev.start Tryz.func64 rfl rfl 1 (τ := [(0, oref 0 0 0 a0.length)]) rfl (Γ' := [⟨0, some (a0.map f32)⟩, ⟨0, none⟩]) rfl (n := 16) rfl (g := 1) rfl (by decide) ?_
 unfold i_allFinite_0o at h
 refine zQ<|ya rfl nilsl<|ya rfl (b false)<|zN ?_
 refine yS<|yS ?_
 obtain ⟨r1, hf1, h⟩ := oS h
 rcases oB h with ⟨hc2, h⟩ | ⟨hc2, h⟩
 ·refine yW<|ym rfl (oref 0 0 0 a0.length)<|yd rfl (b true) (TOp.eqb (yc ent99 rfl rfl (Bors.cons (Bor.own (f := f32) (fun _ => rfl) rfl rfl) bN) (i_areFinite_ok a0 r1 hf1)) hc2)<|yl rfl (b false) y1<|zN ?_
  refine yF<|RunC.skip<|zQ<|ym rfl (oref 0 0 0 a0.length)<|ya rfl (oref 0 0 0 a0.length)<|ya rfl (b true)<|zN ?_
  refine RunC.ret ?_
  have hq := oI h
  have hq := Sum.inl.inj hq
  obtain ⟨hq0, hq⟩ := Prod.mk.inj hq
  subst q0
  subst q1
  exact yB (tup [oref 0 0 0 a0.length, b true]) [(0, 0)] (Res.two rfl (RV.tmp rfl) (RV.tmp rfl)) (SelL.arr (f := f32) (fun _ => rfl) rfl trivial)
 ·refine yW<|ym rfl (oref 0 0 0 a0.length)<|yd rfl (b false) (TOp.eqb (yc ent99 rfl rfl (Bors.cons (Bor.own (f := f32) (fun _ => rfl) rfl rfl) bN) (i_areFinite_ok a0 r1 hf1)) hc2)<|yl rfl (b true) y0<|zN ?_
  refine yT<|zQ<|ya rfl nilsl<|ya rfl (b false)<|zN ?_
  cases oI h
theorem i_allFinite_0o_ok1 (a0 : List F) (q0 : Bool) (q1 : List F) (q2 : List F) (h : i_allFinite_0o a0 = some (Sum.inr (q0, q1, q2))) : Ev Tryz.prog 64 [oref 0 0 0 a0.length] [⟨0, some (a0.map f32)⟩] (tup [oref 1 0 0 q2.length, b q0]) [⟨0, some (q1.map f32)⟩, ⟨0, some (q2.map f32)⟩] := by
 refine Ev.start Tryz.func64 rfl rfl 1 (τ := [(0, oref 0 0 0 a0.length)]) rfl (Γ' := [⟨0, some (a0.map f32)⟩, ⟨0, none⟩]) rfl (n := 16) rfl (g := 1) rfl (by decide) ?_
 unfold i_allFinite_0o at h
 refine zQ<|ya rfl nilsl<|ya rfl (b false)<|zN ?_
 refine yS<|yS ?_
 obtain ⟨r1, hf1, h⟩ := oS h
 rcases oB h with ⟨hc2, h⟩ | ⟨hc2, h⟩
 ·refine yW<|ym rfl (oref 0 0 0 a0.length)<|yd rfl (b true) (TOp.eqb (yc ent99 rfl rfl (Bors.cons (Bor.own (f := f32) (fun _ => rfl) rfl rfl) bN) (i_areFinite_ok a0 r1 hf1)) hc2)<|yl rfl (b false) y1<|zN ?_
  refine yF<|RunC.skip<|zQ<|ym rfl (oref 0 0 0 a0.length)<|ya rfl (oref 0 0 0 a0.length)<|ya rfl (b true)<|zN ?_
  cases oI h
 ·refine yW<|ym rfl (oref 0 0 0 a0.length)<|yd rfl (b false) (TOp.eqb (yc ent99 rfl rfl (Bors.cons (Bor.own (f := f32) (fun _ => rfl) rfl rfl) bN) (i_areFinite_ok a0 r1 hf1)) hc2)<|yl rfl (b true) y0<|zN ?_
  refine yT<|zQ<|ya rfl nilsl<|ya rfl (b false)<|zN ?_
  refine RunC.nil_slot (Γ' := [⟨0, some (a0.map f32)⟩, ⟨1, some (([] : List F).map f32)⟩]) 2 1 rfl rfl rfl<|RunC.ret ?_
  have hq := oI h
  have hq := Sum.inr.inj hq
  obtain ⟨hq0, hq⟩ := Prod.mk.inj hq
  obtain ⟨hq1, hq⟩ := Prod.mk.inj hq
  subst q0
  subst q1
  subst q2
  exact yB (tup [oref 1 1 0 (([] : List F).length), b false]) [(0, 0), (1, 1)] (Res.eq (Res.two rfl (RV.tmp rfl) (RV.tmp rfl)) (by rw [(show ([] : List F).length = 0 from rfl)] <;> rfl)) (SelL.arr (f := f32) (fun _ => rfl) rfl (SelL.arr0 (f := f32) (fun _ => rfl) rfl trivial))
def i_DividedOf_b1 (a0 : List F) (v3 : Int) : Option (LR (Int) (Unit) (Bool × (List F))) :=
 bsel (decide (v3 < (a0.length : Int))) (
  obind (at? a0 v3) fun (e4 : F) =>
  obind (sub? a0 0 v3) fun (l5 : List F) =>
  obind (x_slices_Contains_float32_float32 l5 e4) fun (r6 : Bool) =>
  bsel r6 (
   some (LR.ret (false, ([] : List F)))) (
   olet (IntKind.i64.wrap (v3 + 1)) fun (x7 : Int) =>
   some (LR.next x7))) (
  some (LR.out ()))
def i_DividedOf_s1 (a0 : List F) : (Int) → Option (LR (Int) (Unit) (Bool × (List F))) := fun s => i_DividedOf_b1 a0 s
def i_DividedOf_b3 (a0 : List F) (v11 : Int) (L13 : List F) (v15 : Int) : Option (LR ((List F) × Int) ((List F)) (Bool × (List F))) :=
 bsel (decide (v11 ≤ v15)) (
  obind (at? L13 v15) fun (e16 : F) =>
  olet (IntKind.i64.wrap (v15 - 1)) fun (x17 : Int) =>
  obind (at? L13 x17) fun (e18 : F) =>
  olet (fop .sub .f32 e16 e18) fun (x19 : F) =>
  obind (at? a0 v15) fun (e20 : F) =>
  olet (IntKind.i64.wrap (v15 - v11)) fun (x21 : Int) =>
  obind (at? a0 x21) fun (e22 : F) =>
  olet (fop .sub .f32 e20 e22) fun (x23 : F) =>
  olet (fop .quo .f32 x19 x23) fun (x24 : F) =>
  obind (setAt? L13 v15 x24) fun (L25 : List F) =>
  olet (IntKind.i64.wrap (v15 - 1)) fun (x26 : Int) =>
  some (LR.next (L25, x26))) (
  some (LR.out L13))
def i_DividedOf_s3 (a0 : List F) (v11 : Int) : ((List F) × Int) → Option (LR ((List F) × Int) ((List F)) (Bool × (List F))) := fun s => i_DividedOf_b3 a0 v11 s.1 s.2
def i_DividedOf_k3 (v11 : Int) (L27 : List F) : Option (LR ((List F) × Int) ((List F)) (Bool × (List F))) :=
 olet (IntKind.i64.wrap (v11 + 1)) fun (x29 : Int) =>
 some (LR.next (L27, x29))
def i_DividedOf_b4 (a0 : List F) (r8 : List F) (L9 : List F) (v11 : Int) : Option (LR ((List F) × Int) ((List F)) (Bool × (List F))) :=
 bsel (decide (v11 < ((r8.length : Nat) : Int))) (
  olet (IntKind.i64.wrap (((r8.length : Nat) : Int) - 1)) fun (x12 : Int) =>
  obind (loopM (i_DividedOf_s3 a0 v11) (L9, x12)) fun z => osum z (fun e => i_DividedOf_k3 v11 e) (fun r => some (LR.ret r))) (
  some (LR.out L9))
def i_DividedOf_s4 (a0 : List F) (r8 : List F) : ((List F) × Int) → Option (LR ((List F) × Int) ((List F)) (Bool × (List F))) := fun s => i_DividedOf_b4 a0 r8 s.1 s.2
def i_DividedOf_k4 (r8 : List F) (L30 : List F) : Option (Bool × (List F)) :=
 obind (i_allFinite_0o L30) (fun z => osum z (fun y => obind2 (some y) fun (r32 : Bool) (r33 : List F) =>
  need (decide (r33.length = r8.length)) <|
  some (r32, r33)) (fun y => obind3 (some y) fun (r34 : Bool) (r35 : List F) (r36 : List F) =>
  need (decide (r35.length = r8.length)) <|
  some (r34, r36)))
def i_DividedOf_k1 (a0 : List F) (a1 : List F) : Option (Bool × (List F)) :=
 obind (x_slices_Clone_float32_float32 a1) fun (r8 : List F) =>
 obind (loopM (i_DividedOf_s4 a0 r8) (r8, 1)) fun z => osum z (fun e => i_DividedOf_k4 r8 e) (fun r => some r)
def i_DividedOf (a0 : List F) (a1 : List F) : Option (Bool × (List F)) :=
 obind (i_isList a0 32) fun (r1 : Bool) =>
 bsel r1 (
  obind (i_isList a1 32) fun (r2 : Bool) =>
  bsel r2 (
   bsel (!decide ((a0.length : Int) = (a1.length : Int))) (
    some (false, ([] : List F))) (
    obind (loopM (i_DividedOf_s1 a0) 0) fun z => osum z (fun e => i_DividedOf_k1 a0 a1) (fun r => some r))) (
   some (false, ([] : List F)))) (
  some (false, ([] : List F)))
theorem i_DividedOf_ok (a0 : List F) (a1 : List F) (q0 : Bool) (q1 : List F) (h : i_DividedOf a0 a1 = some (q0, q1)) : Ev Tryz.prog 29 [(sFc a0), (sFc a1)] [] (tup [oref 0 0 0 q1.length, b q0]) [⟨0, some (q1.map f32)⟩] := by
 refine yE Tryz.func29 2 169 0 [(0, (sFc a0)), (1, (sFc a1))] [⟨0, none⟩, ⟨0, none⟩] rfl ?_
 unfold i_DividedOf at h
 refine zQ<|ya rfl nilsl<|ya rfl (b false)<|zN ?_
 refine yS<|yS ?_
 obtain ⟨r1, hf1, h⟩ := oS h
 rcases oB h with ⟨hc2, h⟩ | ⟨hc2, h⟩
 ·obtain ⟨r2, hf3, h⟩ := oS h
  rcases oB h with ⟨hc4, h⟩ | ⟨hc4, h⟩
  ·rcases oB h with ⟨hc5, h⟩ | ⟨hc5, h⟩
   ·refine yW<|ym rfl (sFc a0)<|yd rfl (b true) (TOp.eqb (yc ent81 rfl rfl (bS bN0) (i_isList_ok a0 32 r1 hf1)) hc2)<|yl rfl (b false) y1<|ym rfl (b false)<|ym rfl (sFc a1)<|yd rfl (b true) (TOp.eqb (yc ent81 rfl rfl (bS bN0) (i_isList_ok a1 32 r2 hf3)) hc4)<|yl rfl (b false) y1<|yl rfl (b false) yp<|ym rfl (b false)<|ym rfl (sFc a0)<|yl rfl (i64 (a0.length : Int)) (LOp.len_sl und25 rfl rfl)<|ym rfl (sFc a1)<|yl rfl (i64 (a1.length : Int)) (LOp.len_sl und25 rfl rfl)<|yl rfl (b true) (LOp.eqb (LOp.neq rfl rfl rfl) hc5)<|yl rfl (b true) yp<|zN ?_
    refine RunC.wl (τ' := [(0, (sFc a0)), (1, (sFc a1)), (25, b true)]) (Γ' := [⟨0, none⟩, ⟨0, none⟩]) ⟨aR, aR, aR, trivial⟩ ⟨⟨rfl, .inr rfl⟩, ⟨rfl, .inr rfl⟩, trivial⟩<|yT<|zQ<|ya rfl nilsl<|ya rfl (b false)<|zN ?_
    refine RunC.nil_slot (Γ' := [⟨1, some (([] : List F).map f32)⟩, ⟨0, none⟩]) 4 0 rfl rfl rfl<|RunC.ret ?_
    have hq := oI h
    obtain ⟨hq0, hq⟩ := Prod.mk.inj hq
    subst q0
    subst q1
    exact yB (tup [oref 0 1 0 (([] : List F).length), b false]) [(0, 1)] (Res.eq (Res.two rfl (RV.tmp rfl) (RV.tmp rfl)) (by rw [(show ([] : List F).length = 0 from rfl)] <;> rfl)) (SelL.arr0 (f := f32) (fun _ => rfl) rfl trivial)
   ·refine yW<|ym rfl (sFc a0)<|yd rfl (b true) (TOp.eqb (yc ent81 rfl rfl (bS bN0) (i_isList_ok a0 32 r1 hf1)) hc2)<|yl rfl (b false) y1<|ym rfl (b false)<|ym rfl (sFc a1)<|yd rfl (b true) (TOp.eqb (yc ent81 rfl rfl (bS bN0) (i_isList_ok a1 32 r2 hf3)) hc4)<|yl rfl (b false) y1<|yl rfl (b false) yp<|ym rfl (b false)<|ym rfl (sFc a0)<|yl rfl (i64 (a0.length : Int)) (LOp.len_sl und25 rfl rfl)<|ym rfl (sFc a1)<|yl rfl (i64 (a1.length : Int)) (LOp.len_sl und25 rfl rfl)<|yl rfl (b false) (LOp.eqb (LOp.neq rfl rfl rfl) hc5)<|yl rfl (b false) yp<|zN ?_
    refine RunC.wl (τ' := [(0, (sFc a0)), (1, (sFc a1)), (25, b false)]) (Γ' := [⟨0, none⟩, ⟨0, none⟩]) ⟨aR, aR, aR, trivial⟩ ⟨⟨rfl, .inr rfl⟩, ⟨rfl, .inr rfl⟩, trivial⟩<|yF<|RunC.skip<|yS<|zQ<|ym rfl (sFc a0)<|yl rfl (i64 (a0.length : Int)) (LOp.len_sl und25 rfl rfl)<|ym rfl (i64 0)<|zN ?_
    obtain ⟨z5, hz_5, h⟩ := oS h
    refine RunC.cutN (fun τ Γ => WeakLe τ [(0, (sFc a0)), (1, (sFc a1))] ∧ DeadLe Γ [⟨0, none⟩, ⟨0, none⟩] ∧ z5 = .inl ()) ?_ ?_
    ·refine RunC.block (RunC.loop (RunL.loopM (x := z5) (i_DividedOf_s1 a0) (fun (s : Int) τ Γ => WeakLe τ [(0, (sFc a0)), (1, (sFc a1)), (26, (sFc a0)), (27, i64 (a0.length : Int)), (28, i64 s)] ∧ DeadLe Γ [⟨0, none⟩, ⟨0, none⟩]) ?_ _ _ _ hz_5 ⟨⟨aR, aR, aR, aR, aR, trivial⟩, ⟨⟨rfl, .inr rfl⟩, ⟨rfl, .inr rfl⟩, trivial⟩⟩))
     rintro v3 τ5 Γ5 y5_ ⟨hw5, hd5⟩ h5_ ho5 hr5
     refine RunC.wl (τ' := [(0, (sFc a0)), (1, (sFc a1)), (26, (sFc a0)), (27, i64 (a0.length : Int)), (28, i64 v3)]) (Γ' := [⟨0, none⟩, ⟨0, none⟩]) hw5 hd5 ?_
     replace h5_ : i_DividedOf_b1 a0 v3 = some y5_ := h5_
     unfold i_DividedOf_b1 at h5_
     refine yS ?_
     rcases oB h5_ with ⟨hc6, h5_⟩ | ⟨hc6, h5_⟩
     ·refine yW<|yl rfl (b true) (LOp.eqb (LOp.lss rfl rfl rfl) hc6)<|zN ?_
      refine yS<|yT<|RunC.skip<|yS<|RunC.block<|yS ?_
      obtain ⟨e4, he7, h5_⟩ := oS h5_
      refine yW<|ym rfl (i64 v3)<|yl rfl (ptr [f32 e4]) (LOp.le (LOp.ix (f := f32) und25 siz41 rfl rfl rfl rfl he7) ALe.ptr)<|yl rfl (f32 e4) (y2 agg41)<|ya rfl (i64 v3)<|ya rfl (f32 e4)<|zN ?_
      refine yS ?_
      obtain ⟨l5, hs8, h5_⟩ := oS h5_
      obtain ⟨r6, hf9, h5_⟩ := oS h5_
      rcases oB h5_ with ⟨hc10, h5_⟩ | ⟨hc10, h5_⟩
      ·refine yW<|ym rfl (sFc a0)<|ym rfl (i64 v3)<|yl rfl (sFc l5) (LOp.slice_hi (f := f32) und25 siz41 rfl rfl rfl rfl hs8)<|ym rfl (f32 e4)<|yd rfl (b true) (TOp.eqb (yc ent46 rfl rfl (bS bN0) (x_slices_Contains_float32_float32_ok l5 e4 r6 hf9)) hc10)<|zN ?_
       refine yT<|zQ<|ya rfl nilsl<|ya rfl (b false)<|zN ?_
       refine RunC.nil_slot (Γ' := [⟨1, some (([] : List F).map f32)⟩, ⟨0, none⟩]) 4 0 rfl rfl rfl<|RunC.ret ?_
       cases oI h5_
       have hx6_ := hr5 _ rfl
       subst hx6_
       have hq := oI h
       obtain ⟨hq0, hq⟩ := Prod.mk.inj hq
       subst q0
       subst q1
       exact yB (tup [oref 0 1 0 (([] : List F).length), b false]) [(0, 1)] (Res.eq (Res.two rfl (RV.tmp rfl) (RV.tmp rfl)) (by rw [(show ([] : List F).length = 0 from rfl)] <;> rfl)) (SelL.arr0 (f := f32) (fun _ => rfl) rfl trivial)
      ·refine yW<|ym rfl (sFc a0)<|ym rfl (i64 v3)<|yl rfl (sFc l5) (LOp.slice_hi (f := f32) und25 siz41 rfl rfl rfl rfl hs8)<|ym rfl (f32 e4)<|yd rfl (b false) (TOp.eqb (yc ent46 rfl rfl (bS bN0) (x_slices_Contains_float32_float32_ok l5 e4 r6 hf9)) hc10)<|zN ?_
       refine yF<|RunC.skip ?_
       obtain ⟨x7, hx11, h5_⟩ := oL h5_
       refine yW<|yl rfl (i64 x7) (LOp.eqr (LOp.add rfl rfl rfl) (congrArg (ik .i64) hx11))<|ym rfl (i64 x7)<|zN ?_
       cases oI h5_
       exact ⟨_, rfl, ⟨aR, aR, aR, aR, aR, trivial⟩, ⟨⟨rfl, .inr rfl⟩, ⟨rfl, .inr rfl⟩, trivial⟩⟩
     ·refine yW<|yl rfl (b false) (LOp.eqb (LOp.lss rfl rfl rfl) hc6)<|zN ?_
      refine yS<|yF<|RunC.exit ?_
      cases oI h5_
      have hx := ho5 _ rfl
      exact ⟨⟨aR, aR, trivial⟩, ⟨⟨rfl, .inr rfl⟩, ⟨rfl, .inr rfl⟩, trivial⟩, hx⟩
    ·rintro τ7 Γ7 ⟨hw7, hd7, rfl⟩
     refine RunC.wl hw7 hd7 ?_
     replace h : i_DividedOf_k1 a0 a1 = some (q0, q1) := h
     unfold i_DividedOf_k1 at h
     refine yS ?_
     obtain ⟨r8, hf12, h⟩ := oS h
     refine yW<|ym rfl (sFc a1)<|ye rfl (oref 0 1 0 r8.length) [⟨1, some (r8.map f32)⟩, ⟨0, none⟩] (TOp.callBN (ls := [(r8.map f32)]) [0] (CallAs.func ent66 rfl rfl) (bS bN) rfl (x_slices_Clone_float32_float32_ok a1 r8 hf12) (and_all (lts0_map (f := f32) (fun _ => rfl) _) rfl) (and_all (noss_map (f := f32) (fun _ => rfl) _) rfl) rfl (by decide) (ns_of ⟨⟨_, rfl⟩, trivial⟩))<|ya rfl (oref 0 1 0 r8.length)<|zN ?_
     refine yS<|zQ<|ya rfl (i64 1)<|zN ?_
     obtain ⟨z8, hz_8, h⟩ := oS h
     refine RunC.cutN (fun τ Γ => ∃ (L30 : List F), L30.length = r8.length ∧ WeakLe τ [(8, oref 0 1 0 r8.length)] ∧ DeadLe Γ [⟨1, some (L30.map f32)⟩, ⟨0, none⟩] ∧ z8 = .inl L30) ?_ ?_
     ·refine RunC.block (RunC.loop (RunL.loopM (x := z8) (i_DividedOf_s4 a0 r8) (fun (s : (List F) × Int) τ Γ => s.1.length = r8.length ∧ WeakLe τ [(0, (sFc a0)), (8, oref 0 1 0 r8.length), (9, i64 s.2)] ∧ DeadLe Γ [⟨1, some (s.1.map f32)⟩, ⟨0, none⟩]) ?_ _ _ _ hz_8 ⟨rfl, ⟨aR, aR, aR, trivial⟩, ⟨⟨rfl, .inr rfl⟩, ⟨rfl, .inr rfl⟩, trivial⟩⟩))
      rintro ⟨L9, v11⟩ τ8 Γ8 y8_ ⟨hl10, hw8, hd8⟩ h8_ ho8 hr8
      refine RunC.wl (τ' := [(0, (sFc a0)), (8, oref 0 1 0 r8.length), (9, i64 v11)]) (Γ' := [⟨1, some (L9.map f32)⟩, ⟨0, none⟩]) hw8 hd8 ?_
      replace hl10 : L9.length = r8.length := hl10
      replace h8_ : i_DividedOf_b4 a0 r8 L9 v11 = some y8_ := h8_
      unfold i_DividedOf_b4 at h8_
      refine yS<|yS ?_
      rcases oB h8_ with ⟨hc13, h8_⟩ | ⟨hc13, h8_⟩
      ·refine yW<|ym rfl (i64 v11)<|ym rfl (oref 0 1 0 r8.length)<|yl rfl (i64 ((r8.length : Nat) : Int)) (LOp.len_oref und25 rfl rfl)<|yl rfl (b true) (LOp.eqb (LOp.lss rfl rfl rfl) hc13)<|zN ?_
       refine yT<|RunC.skip<|yS<|RunC.block<|yS ?_
       obtain ⟨x12, hx14, h8_⟩ := oL h8_
       refine yW<|ym rfl (oref 0 1 0 r8.length)<|yl rfl (i64 ((r8.length : Nat) : Int)) (LOp.len_oref und25 rfl rfl)<|yl rfl (i64 x12) (LOp.eqr (LOp.sub rfl rfl rfl) (congrArg (ik .i64) hx14))<|ya rfl (i64 x12)<|zN ?_
       obtain ⟨z9, hz_9, h8_⟩ := oS h8_
       refine RunC.cutN (fun τ Γ => ∃ (L27 : List F), L27.length = r8.length ∧ WeakLe τ [(0, (sFc a0)), (8, oref 0 1 0 r8.length), (9, i64 v11)] ∧ DeadLe Γ [⟨1, some (L27.map f32)⟩, ⟨0, none⟩] ∧ z9 = .inl L27) ?_ ?_
       ·refine RunC.block (RunC.loop (RunL.loopM (x := z9) (i_DividedOf_s3 a0 v11) (fun (s : (List F) × Int) τ Γ => s.1.length = r8.length ∧ WeakLe τ [(0, (sFc a0)), (8, oref 0 1 0 r8.length), (9, i64 v11), (10, i64 s.2)] ∧ DeadLe Γ [⟨1, some (s.1.map f32)⟩, ⟨0, none⟩]) ?_ _ _ _ hz_9 ⟨hl10, ⟨aR, aR, aR, aR, trivial⟩, ⟨⟨rfl, .inr rfl⟩, ⟨rfl, .inr rfl⟩, trivial⟩⟩))
        rintro ⟨L13, v15⟩ τ9 Γ9 y9_ ⟨hl14, hw9, hd9⟩ h9_ ho9 hr9
        refine RunC.wl (τ' := [(0, (sFc a0)), (8, oref 0 1 0 r8.length), (9, i64 v11), (10, i64 v15)]) (Γ' := [⟨1, some (L13.map f32)⟩, ⟨0, none⟩]) hw9 hd9 ?_
        replace hl14 : L13.length = r8.length := hl14
        replace h9_ : i_DividedOf_b3 a0 v11 L13 v15 = some y9_ := h9_
        unfold i_DividedOf_b3 at h9_
        refine yS<|yS ?_
        rcases oB h9_ with ⟨hc15, h9_⟩ | ⟨hc15, h9_⟩
        ·refine yW<|ym rfl (i64 v15)<|ym rfl (i64 v11)<|yl rfl (b true) (LOp.eqb (LOp.geq rfl rfl rfl) hc15)<|zN ?_
         refine yT<|RunC.skip<|yS<|RunC.block ?_
         obtain ⟨e16, he16, h9_⟩ := oS h9_
         obtain ⟨x17, hx17, h9_⟩ := oL h9_
         obtain ⟨e18, he18, h9_⟩ := oS h9_
         obtain ⟨x19, hx19, h9_⟩ := oL h9_
         obtain ⟨e20, he20, h9_⟩ := oS h9_
         obtain ⟨x21, hx21, h9_⟩ := oL h9_
         obtain ⟨e22, he22, h9_⟩ := oS h9_
         obtain ⟨x23, hx23, h9_⟩ := oL h9_
         obtain ⟨x24, hx24, h9_⟩ := oL h9_
         obtain ⟨L25, he25, h9_⟩ := oS h9_
         refine RunC.region_draw (Γ' := [⟨1, some (L13.map f32)⟩, ⟨0, none⟩]) 25 mixed 
          (tm rfl (oref 0 1 0 r8.length) <|
          (tm rfl (i64 v15) <|
          (tm rfl (oref 0 1 0 r8.length) <|
          (tm rfl (i64 v15) <|
          (TR.d (r := optr 0 1 v15.toNat) (fs := []) rfl rfl (TOp.ixo und25 siz41 rfl rfl rfl (at_in he16 hl14) rfl) <|
          (TR.d (r := f32 e16) (fs := []) rfl rfl (TOp.load1_o rfl (at_cell he16) agg41 rfl rfl) <|
          (tm rfl (oref 0 1 0 r8.length) <|
          (tm rfl (i64 v15) <|
          (tl rfl (i64 x17) (LOp.eqr (LOp.sub rfl rfl rfl) (congrArg (ik .i64) hx17)) <|
          (TR.d (r := optr 0 1 x17.toNat) (fs := []) rfl rfl (TOp.ixo und25 siz41 rfl rfl rfl (at_in he18 hl14) rfl) <|
          (TR.d (r := f32 e18) (fs := []) rfl rfl (TOp.load1_o rfl (at_cell he18) agg41 rfl rfl) <|
          (TR.d (r := f32 x19) (fs := []) rfl rfl (TOp.eqr (TOp.fop (.inr (.inl rfl)) rfl (OpF.tmp rfl) (OpF.tmp rfl)) (congrArg (f .f32) hx19)) <|
          (tm rfl (sFc a0) <|
          (tm rfl (i64 v15) <|
          (tl rfl (ptr [f32 e20]) (LOp.le (LOp.ix (f := f32) und25 siz41 rfl rfl rfl rfl he20) ALe.ptr) <|
          (tl rfl (f32 e20) (y2 agg41) <|
          (tm rfl (sFc a0) <|
          (tm rfl (i64 v15) <|
          (tm rfl (i64 v11) <|
          (tl rfl (i64 x21) (LOp.eqr (LOp.sub rfl rfl rfl) (congrArg (ik .i64) hx21)) <|
          (tl rfl (ptr [f32 e22]) (LOp.le (LOp.ix (f := f32) und25 siz41 rfl rfl rfl rfl he22) ALe.ptr) <|
          (tl rfl (f32 e22) (y2 agg41) <|
          (TR.d (r := f32 x23) (fs := []) rfl rfl (TOp.eqr (TOp.fop (.inr (.inl rfl)) rfl (OpF.tmp rfl) (OpF.tmp rfl)) (congrArg (f .f32) hx23)) <|
          (TR.d (r := f32 x24) (fs := []) rfl rfl (TOp.eqr (TOp.fop (.inr (.inr (.inr rfl))) rfl (OpF.tmp rfl) (OpF.tmp rfl)) (congrArg (f .f32) hx24)) <|
          (TR.d (r := optr 0 1 v15.toNat) (fs := []) rfl rfl (TOp.ixo und25 siz41 rfl rfl rfl (set_in he25 hl14) rfl) <|
          TR.nil))))))))))))))))))))))))) rfl (by kernel_rfl) rfl fills_nil rfl ?_
         iterate 25 refine ROps.dropS ?_
         refine ROps.drop0<|ROps.st (f := f32) (i := v15) (Γ' := [⟨1, some (L25.map f32)⟩, ⟨0, none⟩]) rfl siz41 rfl rfl rfl aR rfl rfl rfl he25 rfl<|zN ?_
         refine RunC.wl (τ' := [(0, (sFc a0)), (8, oref 0 1 0 r8.length), (9, i64 v11), (10, i64 v15)]) (Γ' := [⟨1, some (L25.map f32)⟩, ⟨0, none⟩]) ⟨aR, aR, aR, aR, trivial⟩ ⟨⟨rfl, .inr rfl⟩, ⟨rfl, .inr rfl⟩, trivial⟩ ?_
         obtain ⟨x26, hx26, h9_⟩ := oL h9_
         refine yW<|ym rfl (i64 v15)<|yl rfl (i64 x26) (LOp.eqr (LOp.sub rfl rfl rfl) (congrArg (ik .i64) hx26))<|ya rfl (i64 x26)<|zN ?_
         cases oI h9_
         exact ⟨_, rfl, ((setAt?_len he25).trans hl14), ⟨aR, aR, aR, aR, trivial⟩, ⟨⟨rfl, .inr rfl⟩, ⟨rfl, .inr rfl⟩, trivial⟩⟩
        ·refine yW<|ym rfl (i64 v15)<|ym rfl (i64 v11)<|yl rfl (b false) (LOp.eqb (LOp.geq rfl rfl rfl) hc15)<|zN ?_
         refine yF<|RunC.exit ?_
         cases oI h9_
         have hx := ho9 _ rfl
         exact ⟨L13, hl14, ⟨aR, aR, aR, trivial⟩, ⟨⟨rfl, .inr rfl⟩, ⟨rfl, .inr rfl⟩, trivial⟩, hx⟩
       ·rintro τ10 Γ10 ⟨L27, hl28, hw10, hd10, rfl⟩
        refine RunC.wl hw10 hd10 ?_
        replace h8_ : i_DividedOf_k3 v11 L27 = some y8_ := h8_
        unfold i_DividedOf_k3 at h8_
        obtain ⟨x29, hx27, h8_⟩ := oL h8_
        refine yW<|ym rfl (i64 v11)<|yl rfl (i64 x29) (LOp.eqr (LOp.add rfl rfl rfl) (congrArg (ik .i64) hx27))<|ya rfl (i64 x29)<|zN ?_
        cases oI h8_
        exact ⟨_, rfl, hl28, ⟨aR, aR, aR, trivial⟩, ⟨⟨rfl, .inr rfl⟩, ⟨rfl, .inr rfl⟩, trivial⟩⟩
      ·refine yW<|ym rfl (i64 v11)<|ym rfl (oref 0 1 0 r8.length)<|yl rfl (i64 ((r8.length : Nat) : Int)) (LOp.len_oref und25 rfl rfl)<|yl rfl (b false) (LOp.eqb (LOp.lss rfl rfl rfl) hc13)<|zN ?_
       refine yF<|RunC.exit ?_
       cases oI h8_
       have hx := ho8 _ rfl
       exact ⟨L9, hl10, ⟨aR, trivial⟩, ⟨⟨rfl, .inr rfl⟩, ⟨rfl, .inr rfl⟩, trivial⟩, hx⟩
     ·rintro τ11 Γ11 ⟨L30, hl31, hw11, hd11, rfl⟩
      refine RunC.wl hw11 hd11 ?_
      replace h : i_DividedOf_k4 r8 L30 = some (q0, q1) := h
      unfold i_DividedOf_k4 at h
      refine yS ?_
      obtain ⟨z12, hf28, h⟩ := oS h
      rcases z12 with z12 | z12
      ·replace h := (osum_inl _ _ _).symm.trans h
       obtain ⟨r32, r33, hz13, h⟩ := obind2_some h
       cases hz13
       obtain ⟨hn29, h⟩ := need_some h
       refine yW<|ym rfl (oref 0 1 0 r8.length)<|ROps.callO (A := [oref 0 1 0 r8.length]) (args := [oref 0 0 0 L30.length]) (Γc := [⟨0, some (L30.map f32)⟩]) (Γc' := [⟨0, some (r33.map f32)⟩]) (r' := tup [oref 0 1 0 r8.length, b r32]) (Γ' := [⟨1, some (r33.map f32)⟩, ⟨0, none⟩]) [(0, 1)] [] rfl (CallAs.func ent64 rfl rfl) rfl rfl (SelOk.of (ndB_ok rfl) (SelL.arr0 (f := f32) (fun _ => rfl) rfl trivial)) (live_of ⟨⟨_, _, rfl⟩, trivial⟩) (by simp [ren, rens, sigma, rens_f32, rens_f64, rens_i64, rens_ik, rens_str, rens_cp, hl31]) rfl (i_allFinite_0o_ok0 L30 r32 r33 hf28) rfl (news_of trivial) (ndB_ok rfl) (by simp [ren, rens, sigma, of_decide_eq_true hn29]) (by simp [backOb, sigma, ren, rens, rens_f32, rens_f64, rens_i64, rens_ik, rens_str, rens_cp])<|yl rfl (oref 0 1 0 r8.length) y3<|yl rfl (b r32) y3<|ya rfl (oref 0 1 0 r8.length)<|ya rfl (b r32)<|zN ?_
       refine RunC.ret ?_
       have hq := oI h
       obtain ⟨hq0, hq⟩ := Prod.mk.inj hq
       subst q0
       subst q1
       exact yB (tup [oref 0 1 0 r33.length, b r32]) [(0, 1)] (Res.eq (Res.two rfl (RV.tmp rfl) (RV.tmp rfl)) (by rw [(show r33.length = r8.length from (of_decide_eq_true hn29))] <;> rfl)) (SelL.arr0 (f := f32) (fun _ => rfl) rfl trivial)
      ·replace h := (osum_inr _ _ _).symm.trans h
       obtain ⟨r34, r35, r36, hz14, h⟩ := obind3_some h
       cases hz14
       obtain ⟨hn30, h⟩ := need_some h
       refine yW<|ym rfl (oref 0 1 0 r8.length)<|ROps.callO (A := [oref 0 1 0 r8.length]) (args := [oref 0 0 0 L30.length]) (Γc := [⟨0, some (L30.map f32)⟩]) (Γc' := [⟨0, some (r35.map f32)⟩, ⟨0, some (r36.map f32)⟩]) (r' := tup [oref 1 1 0 r36.length, b r34]) (Γ' := [⟨1, some (r35.map f32)⟩, ⟨1, some (r36.map f32)⟩]) [(0, 1)] [(1, 1)] rfl (CallAs.func ent64 rfl rfl) rfl rfl (SelOk.of (ndB_ok rfl) (SelL.arr0 (f := f32) (fun _ => rfl) rfl trivial)) (live_of ⟨⟨_, _, rfl⟩, trivial⟩) (by simp [ren, rens, sigma, rens_f32, rens_f64, rens_i64, rens_ik, rens_str, rens_cp, hl31]) rfl (i_allFinite_0o_ok1 L30 r34 r35 r36 hf28) rfl (news_of ⟨⟨_, rfl, rfl⟩, trivial⟩) (show List.Nodup [0, 1] from by decide) (by simp [ren, rens, sigma, of_decide_eq_true hn30]) (by simp [backOb, sigma, ren, rens, rens_f32, rens_f64, rens_i64, rens_ik, rens_str, rens_cp])<|yl rfl (oref 1 1 0 r36.length) y3<|yl rfl (b r34) y3<|ya rfl (oref 1 1 0 r36.length)<|ya rfl (b r34)<|zN ?_
       refine RunC.ret ?_
       have hq := oI h
       obtain ⟨hq0, hq⟩ := Prod.mk.inj hq
       subst q0
       subst q1
       exact yB (tup [oref 1 1 0 r36.length, b r34]) [(1, 1)] (Res.two rfl (RV.tmp rfl) (RV.tmp rfl)) (SelL.arr0 (f := f32) (fun _ => rfl) rfl trivial)
  ·refine yW<|ym rfl (sFc a0)<|yd rfl (b true) (TOp.eqb (yc ent81 rfl rfl (bS bN0) (i_isList_ok a0 32 r1 hf1)) hc2)<|yl rfl (b false) y1<|ym rfl (b false)<|ym rfl (sFc a1)<|yd rfl (b false) (TOp.eqb (yc ent81 rfl rfl (bS bN0) (i_isList_ok a1 32 r2 hf3)) hc4)<|yl rfl (b true) y0<|yl rfl (b true) yp<|ym rfl (b true)<|ROps.s rfl rfl rfl<|ROps.s rfl rfl rfl<|ROps.s rfl rfl rfl<|ROps.s rfl rfl rfl<|ROps.s rfl rfl rfl<|yl rfl (b true) yq<|zN ?_
   refine RunC.wl (τ' := [(0, (sFc a0)), (1, (sFc a1)), (25, b true)]) (Γ' := [⟨0, none⟩, ⟨0, none⟩]) ⟨aR, aR, aR, trivial⟩ ⟨⟨rfl, .inr rfl⟩, ⟨rfl, .inr rfl⟩, trivial⟩<|yT<|zQ<|ya rfl nilsl<|ya rfl (b false)<|zN ?_
   refine RunC.nil_slot (Γ' := [⟨1, some (([] : List F).map f32)⟩, ⟨0, none⟩]) 4 0 rfl rfl rfl<|RunC.ret ?_
   have hq := oI h
   obtain ⟨hq0, hq⟩ := Prod.mk.inj hq
   subst q0
   subst q1
   exact yB (tup [oref 0 1 0 (([] : List F).length), b false]) [(0, 1)] (Res.eq (Res.two rfl (RV.tmp rfl) (RV.tmp rfl)) (by rw [(show ([] : List F).length = 0 from rfl)] <;> rfl)) (SelL.arr0 (f := f32) (fun _ => rfl) rfl trivial)
 ·refine yW<|ym rfl (sFc a0)<|yd rfl (b false) (TOp.eqb (yc ent81 rfl rfl (bS bN0) (i_isList_ok a0 32 r1 hf1)) hc2)<|yl rfl (b true) y0<|ym rfl (b true)<|ROps.s rfl rfl rfl<|ROps.s rfl rfl rfl<|ROps.s rfl rfl rfl<|yl rfl (b true) yq<|ym rfl (b true)<|ROps.s rfl rfl rfl<|ROps.s rfl rfl rfl<|ROps.s rfl rfl rfl<|ROps.s rfl rfl rfl<|ROps.s rfl rfl rfl<|yl rfl (b true) yq<|zN ?_
  refine RunC.wl (τ' := [(0, (sFc a0)), (1, (sFc a1)), (25, b true)]) (Γ' := [⟨0, none⟩, ⟨0, none⟩]) ⟨aR, aR, aR, trivial⟩ ⟨⟨rfl, .inr rfl⟩, ⟨rfl, .inr rfl⟩, trivial⟩<|yT<|zQ<|ya rfl nilsl<|ya rfl (b false)<|zN ?_
  refine RunC.nil_slot (Γ' := [⟨1, some (([] : List F).map f32)⟩, ⟨0, none⟩]) 4 0 rfl rfl rfl<|RunC.ret ?_
  have hq := oI h
  obtain ⟨hq0, hq⟩ := Prod.mk.inj hq
  subst q0
  subst q1
  exact yB (tup [oref 0 1 0 (([] : List F).length), b false]) [(0, 1)] (Res.eq (Res.two rfl (RV.tmp rfl) (RV.tmp rfl)) (by rw [(show ([] : List F).length = 0 from rfl)] <;> rfl)) (SelL.arr0 (f := f32) (fun _ => rfl) rfl trivial)
def i_mul (a0 : F) (a1 : F) : Option (F) :=
 olet (fop .mul .f32 a0 a1) fun (x1 : F) =>
 some x1
theorem i_mul_ok (a0 : F) (a1 : F) (q0 : F) (h : i_mul a0 a1 = some q0) : Ev Tryz.prog 80 [f32 a0, f32 a1] [] (f32 q0) [] := by
 refine yE Tryz.func80 0 17 0 [(0, f32 a0), (1, f32 a1)] [] rfl ?_
 unfold i_mul at h
 refine zQ<|yl rfl (f32 (some 0)) (LOp.le (LOp.assign rfl rfl) (ALe.fl (by kernel_rfl) (by kernel_rfl)))<|zN ?_
 refine yS ?_
 obtain ⟨x1, hx1, h⟩ := oL h
 refine yW<|ym rfl (f32 a0)<|ym rfl (f32 a1)<|yd rfl (f32 x1) (TOp.eqr (TOp.fop (.inr (.inr (.inl rfl))) rfl (OpF.tmp rfl) (OpF.tmp rfl)) (congrArg (f .f32) hx1))<|ya rfl (f32 x1)<|zN ?_
 refine RunC.ret ?_
 have hq := oI h
 subst q0
 exact bodyQ.pure (.inr rfl) rfl (Res.one rfl (RV.tmp rfl))
def i_finite (a0 : F) : Option (F × Bool) :=
 obind (i_IsFinite a0) fun (r1 : Bool) =>
 bsel r1 (
  some (a0, true)) (
  some (some 0, false))
theorem i_finite_ok (a0 : F) (q0 : F) (q1 : Bool) (h : i_finite a0 = some (q0, q1)) : Ev Tryz.prog 62 [f32 a0] [] (tup [f32 q0, b q1]) [] := by
 refine yE Tryz.func62 0 17 0 [(0, f32 a0)] [] rfl ?_
 unfold i_finite at h
 refine zQ<|yl rfl (f32 (some 0)) (LOp.le (LOp.assign rfl rfl) (ALe.fl (by kernel_rfl) (by kernel_rfl)))<|ya rfl (b false)<|zN ?_
 refine yS<|yS ?_
 obtain ⟨r1, hf1, h⟩ := oS h
 rcases oB h with ⟨hc2, h⟩ | ⟨hc2, h⟩
 ·refine yW<|ym rfl (f32 a0)<|yd rfl (b true) (TOp.eqb (yc ent82 rfl rfl bN0 (i_IsFinite_ok a0 r1 hf1)) hc2)<|yl rfl (b false) y1<|zN ?_
  refine yF<|RunC.skip<|zQ<|ym rfl (f32 a0)<|ya rfl (f32 a0)<|ya rfl (b true)<|zN ?_
  refine RunC.ret ?_
  have hq := oI h
  obtain ⟨hq0, hq⟩ := Prod.mk.inj hq
  subst q0
  subst q1
  exact bodyQ.pure (.inr rfl) rfl (Res.two rfl (RV.tmp rfl) (RV.tmp rfl))
 ·refine yW<|ym rfl (f32 a0)<|yd rfl (b false) (TOp.eqb (yc ent82 rfl rfl bN0 (i_IsFinite_ok a0 r1 hf1)) hc2)<|yl rfl (b true) y0<|zN ?_
  refine yT<|zQ<|yl rfl (f32 (some 0)) (LOp.le (LOp.assign rfl rfl) (ALe.fl (by kernel_rfl) (by kernel_rfl)))<|ya rfl (b false)<|zN ?_
  refine RunC.ret ?_
  have hq := oI h
  obtain ⟨hq0, hq⟩ := Prod.mk.inj hq
  subst q0
  subst q1
  exact bodyQ.pure (.inr rfl) rfl (Res.two rfl (RV.tmp rfl) (RV.tmp rfl))
def i_NewtonAt_b1 (a0 : List F) (a1 : List F) (a2 : F) (y7 : F) (v8 : Int) : Option (LR (F × Int) (F) (F × Bool)) :=
 bsel (decide (0 ≤ v8)) (
  obind (at? a0 v8) fun (e9 : F) =>
  olet (fop .sub .f32 a2 e9) fun (x10 : F) =>
  obind (i_mul y7 x10) fun (r11 : F) =>
  obind (at? a1 v8) fun (e12 : F) =>
  olet (fop .add .f32 r11 e12) fun (x13 : F) =>
  olet (IntKind.i64.wrap (v8 - 1)) fun (x14 : Int) =>
  some (LR.next (x13, x14))) (
  some (LR.out y7))
def i_NewtonAt_s1 (a0 : List F) (a1 : List F) (a2 : F) : (F × Int) → Option (LR (F × Int) (F) (F × Bool)) := fun s => i_NewtonAt_b1 a0 a1 a2 s.1 s.2
def i_NewtonAt_k1 (y15 : F) : Option (F × Bool) :=
 obind2 (i_finite y15) fun (r16 : F) (r17 : Bool) =>
 some (r16, r17)
def i_NewtonAt (a0 : List F) (a1 : List F) (a2 : F) : Option (F × Bool) :=
 obind (i_isList a0 32) fun (r1 : Bool) =>
 bsel r1 (
  obind (i_isList a1 32) fun (r2 : Bool) =>
  bsel r2 (
   bsel (!decide ((a0.length : Int) = (a1.length : Int))) (
    some (some 0, false)) (
    obind (i_IsFinite a2) fun (r3 : Bool) =>
    bsel r3 (
     olet (IntKind.i64.wrap ((a1.length : Int) - 1)) fun (x4 : Int) =>
     obind (at? a1 x4) fun (e5 : F) =>
     olet (IntKind.i64.wrap ((a1.length : Int) - 2)) fun (x6 : Int) =>
     obind (loopM (i_NewtonAt_s1 a0 a1 a2) (e5, x6)) fun z => osum z (fun e => i_NewtonAt_k1 e) (fun r => some r)) (
     some (some 0, false)))) (
   some (some 0, false))) (
  some (some 0, false))
theorem i_NewtonAt_ok (a0 : List F) (a1 : List F) (a2 : F) (q0 : F) (q1 : Bool) (h : i_NewtonAt a0 a1 a2 = some (q0, q1)) : Ev Tryz.prog 30 [(sFc a0), (sFc a1), f32 a2] [] (tup [f32 q0, b q1]) [] := by
 refine yE Tryz.func30 0 121 0 [(0, (sFc a0)), (1, (sFc a1)), (2, f32 a2)] [] rfl ?_
 unfold i_NewtonAt at h
 refine zQ<|yl rfl (f32 (some 0)) (LOp.le (LOp.assign rfl rfl) (ALe.fl (by kernel_rfl) (by kernel_rfl)))<|ya rfl (b false)<|zN ?_
 refine yS<|yS ?_
 obtain ⟨r1, hf1, h⟩ := oS h
 rcases oB h with ⟨hc2, h⟩ | ⟨hc2, h⟩
 ·obtain ⟨r2, hf3, h⟩ := oS h
  rcases oB h with ⟨hc4, h⟩ | ⟨hc4, h⟩
  ·rcases oB h with ⟨hc5, h⟩ | ⟨hc5, h⟩
   ·refine yW<|ym rfl (sFc a0)<|yd rfl (b true) (TOp.eqb (yc ent81 rfl rfl (bS bN0) (i_isList_ok a0 32 r1 hf1)) hc2)<|yl rfl (b false) y1<|ym rfl (b false)<|ym rfl (sFc a1)<|yd rfl (b true) (TOp.eqb (yc ent81 rfl rfl (bS bN0) (i_isList_ok a1 32 r2 hf3)) hc4)<|yl rfl (b false) y1<|yl rfl (b false) yp<|ym rfl (b false)<|ym rfl (sFc a0)<|yl rfl (i64 (a0.length : Int)) (LOp.len_sl und25 rfl rfl)<|ym rfl (sFc a1)<|yl rfl (i64 (a1.length : Int)) (LOp.len_sl und25 rfl rfl)<|yl rfl (b true) (LOp.eqb (LOp.neq rfl rfl rfl) hc5)<|yl rfl (b true) yp<|ym rfl (b true)<|ROps.s rfl rfl rfl<|ROps.s rfl rfl rfl<|ROps.s rfl rfl rfl<|yl rfl (b true) yq<|zN ?_
    refine RunC.wl (τ' := [(0, (sFc a0)), (1, (sFc a1)), (2, f32 a2), (29, b true)]) (Γ' := []) ⟨aR, aR, aR, aR, trivial⟩ trivial<|yT<|zQ<|yl rfl (f32 (some 0)) (LOp.le (LOp.assign rfl rfl) (ALe.fl (by kernel_rfl) (by kernel_rfl)))<|ya rfl (b false)<|zN ?_
    refine RunC.ret ?_
    have hq := oI h
    obtain ⟨hq0, hq⟩ := Prod.mk.inj hq
    subst q0
    subst q1
    exact bodyQ.pure (.inr rfl) rfl (Res.two rfl (RV.tmp rfl) (RV.tmp rfl))
   ·obtain ⟨r3, hf6, h⟩ := oS h
    rcases oB h with ⟨hc7, h⟩ | ⟨hc7, h⟩
    ·refine yW<|ym rfl (sFc a0)<|yd rfl (b true) (TOp.eqb (yc ent81 rfl rfl (bS bN0) (i_isList_ok a0 32 r1 hf1)) hc2)<|yl rfl (b false) y1<|ym rfl (b false)<|ym rfl (sFc a1)<|yd rfl (b true) (TOp.eqb (yc ent81 rfl rfl (bS bN0) (i_isList_ok a1 32 r2 hf3)) hc4)<|yl rfl (b false) y1<|yl rfl (b false) yp<|ym rfl (b false)<|ym rfl (sFc a0)<|yl rfl (i64 (a0.length : Int)) (LOp.len_sl und25 rfl rfl)<|ym rfl (sFc a1)<|yl rfl (i64 (a1.length : Int)) (LOp.len_sl und25 rfl rfl)<|yl rfl (b false) (LOp.eqb (LOp.neq rfl rfl rfl) hc5)<|yl rfl (b false) yp<|ym rfl (b false)<|ym rfl (f32 a2)<|yd rfl (b true) (TOp.eqb (yc ent82 rfl rfl bN0 (i_IsFinite_ok a2 r3 hf6)) hc7)<|yl rfl (b false) y1<|yl rfl (b false) yp<|zN ?_
     refine RunC.wl (τ' := [(0, (sFc a0)), (1, (sFc a1)), (2, f32 a2), (29, b false)]) (Γ' := []) ⟨aR, aR, aR, aR, trivial⟩ trivial<|yF<|RunC.skip<|yS ?_
     obtain ⟨x4, hx8, h⟩ := oL h
     obtain ⟨e5, he9, h⟩ := oS h
     refine yW<|ym rfl (sFc a1)<|ym rfl (sFc a1)<|yl rfl (i64 (a1.length : Int)) (LOp.len_sl und25 rfl rfl)<|yl rfl (i64 x4) (LOp.eqr (LOp.sub rfl rfl rfl) (congrArg (ik .i64) hx8))<|yl rfl (ptr [f32 e5]) (LOp.le (LOp.ix (f := f32) und25 siz41 rfl rfl rfl rfl he9) ALe.ptr)<|yl rfl (f32 e5) (y2 agg41)<|ya rfl (f32 e5)<|zN ?_
     refine yS<|yS ?_
     obtain ⟨x6, hx10, h⟩ := oL h
     refine yW<|ym rfl (sFc a1)<|yl rfl (i64 (a1.length : Int)) (LOp.len_sl und25 rfl rfl)<|yl rfl (i64 x6) (LOp.eqr (LOp.sub rfl rfl rfl) (congrArg (ik .i64) hx10))<|ya rfl (i64 x6)<|zN ?_
     obtain ⟨z2, hz_2, h⟩ := oS h
     refine RunC.cutN (fun τ Γ => ∃ (y15 : F), WeakLe τ [(8, f32 y15)] ∧ DeadLe Γ [] ∧ z2 = .inl y15) ?_ ?_
     ·refine RunC.block (RunC.loop (RunL.loopM (x := z2) (i_NewtonAt_s1 a0 a1 a2) (fun (s : F × Int) τ Γ => WeakLe τ [(0, (sFc a0)), (1, (sFc a1)), (2, f32 a2), (8, f32 s.1), (9, i64 s.2)] ∧ DeadLe Γ []) ?_ _ _ _ hz_2 ⟨⟨aR, aR, aR, aR, aR, trivial⟩, trivial⟩))
      rintro ⟨y7, v8⟩ τ2 Γ2 y2_ ⟨hw2, hd2⟩ h2_ ho2 hr2
      refine RunC.wl (τ' := [(0, (sFc a0)), (1, (sFc a1)), (2, f32 a2), (8, f32 y7), (9, i64 v8)]) (Γ' := []) hw2 hd2 ?_
      replace h2_ : i_NewtonAt_b1 a0 a1 a2 y7 v8 = some y2_ := h2_
      unfold i_NewtonAt_b1 at h2_
      refine yS<|yS ?_
      rcases oB h2_ with ⟨hc11, h2_⟩ | ⟨hc11, h2_⟩
      ·refine yW<|ym rfl (i64 v8)<|yl rfl (b true) (LOp.eqb (LOp.geq rfl rfl rfl) hc11)<|zN ?_
       refine yT<|RunC.skip<|yS<|RunC.block ?_
       obtain ⟨e9, he12, h2_⟩ := oS h2_
       obtain ⟨x10, hx13, h2_⟩ := oL h2_
       obtain ⟨r11, hf14, h2_⟩ := oS h2_
       obtain ⟨e12, he15, h2_⟩ := oS h2_
       obtain ⟨x13, hx16, h2_⟩ := oL h2_
       refine RunC.region_draw (Γ' := []) 14 mixed 
        (tm rfl (f32 y7) <|
        (tm rfl (f32 a2) <|
        (tm rfl (sFc a0) <|
        (tm rfl (i64 v8) <|
        (tl rfl (ptr [f32 e9]) (LOp.le (LOp.ix (f := f32) und25 siz41 rfl rfl rfl rfl he12) ALe.ptr) <|
        (tl rfl (f32 e9) (y2 agg41) <|
        (TR.d (r := f32 x10) (fs := []) rfl rfl (TOp.eqr (TOp.fop (.inr (.inl rfl)) rfl (OpF.tmp rfl) (OpF.tmp rfl)) (congrArg (f .f32) hx13)) <|
        (TR.d (r := f32 r11) (fs := []) rfl rfl (yc ent80 rfl rfl (bP bN0) (i_mul_ok y7 x10 r11 hf14)) <|
        (tm rfl (sFc a1) <|
        (tm rfl (i64 v8) <|
        (tl rfl (ptr [f32 e12]) (LOp.le (LOp.ix (f := f32) und25 siz41 rfl rfl rfl rfl he15) ALe.ptr) <|
        (tl rfl (f32 e12) (y2 agg41) <|
        (TR.d (r := f32 x13) (fs := []) rfl rfl (TOp.eqr (TOp.fop (.inl rfl) rfl (OpF.tmp rfl) (OpF.tmp rfl)) (congrArg (f .f32) hx16)) <|
        (tl rfl (f32 x13) (LOp.assign rfl rfl) <|
        TR.nil)))))))))))))) rfl (by kernel_rfl) rfl fills_nil rfl ?_
       iterate 14 refine ROps.dropS ?_
       refine ROps.drop0<|zN ?_
       refine RunC.wl (τ' := [(0, (sFc a0)), (1, (sFc a1)), (2, f32 a2), (8, f32 x13), (9, i64 v8)]) (Γ' := []) ⟨aR, aR, aR, aR, aR, trivial⟩ trivial ?_
       obtain ⟨x14, hx17, h2_⟩ := oL h2_
       refine yW<|ym rfl (i64 v8)<|yl rfl (i64 x14) (LOp.eqr (LOp.sub rfl rfl rfl) (congrArg (ik .i64) hx17))<|ya rfl (i64 x14)<|zN ?_
       cases oI h2_
       exact ⟨_, rfl, ⟨aR, aR, aR, aR, aR, trivial⟩, trivial⟩
      ·refine yW<|ym rfl (i64 v8)<|yl rfl (b false) (LOp.eqb (LOp.geq rfl rfl rfl) hc11)<|zN ?_
       refine yF<|RunC.exit ?_
       cases oI h2_
       have hx := ho2 _ rfl
       exact ⟨y7, ⟨aR, trivial⟩, trivial, hx⟩
     ·rintro τ3 Γ3 ⟨y15, hw3, hd3, rfl⟩
      refine RunC.wl hw3 hd3 ?_
      replace h : i_NewtonAt_k1 y15 = some (q0, q1) := h
      unfold i_NewtonAt_k1 at h
      refine yS ?_
      obtain ⟨r16, r17, hf18, h⟩ := obind2_some h
      refine yW<|ym rfl (f32 y15)<|yd rfl (tup [f32 r16, b r17]) (yc ent62 rfl rfl bN0 (i_finite_ok y15 r16 r17 hf18))<|yl rfl (f32 r16) y3<|yl rfl (b r17) y3<|ya rfl (f32 r16)<|ya rfl (b r17)<|zN ?_
      refine RunC.ret ?_
      have hq := oI h
      obtain ⟨hq0, hq⟩ := Prod.mk.inj hq
      subst q0
      subst q1
      exact bodyQ.pure (.inr rfl) rfl (Res.two rfl (RV.tmp rfl) (RV.tmp rfl))
    ·refine yW<|ym rfl (sFc a0)<|yd rfl (b true) (TOp.eqb (yc ent81 rfl rfl (bS bN0) (i_isList_ok a0 32 r1 hf1)) hc2)<|yl rfl (b false) y1<|ym rfl (b false)<|ym rfl (sFc a1)<|yd rfl (b true) (TOp.eqb (yc ent81 rfl rfl (bS bN0) (i_isList_ok a1 32 r2 hf3)) hc4)<|yl rfl (b false) y1<|yl rfl (b false) yp<|ym rfl (b false)<|ym rfl (sFc a0)<|yl rfl (i64 (a0.length : Int)) (LOp.len_sl und25 rfl rfl)<|ym rfl (sFc a1)<|yl rfl (i64 (a1.length : Int)) (LOp.len_sl und25 rfl rfl)<|yl rfl (b false) (LOp.eqb (LOp.neq rfl rfl rfl) hc5)<|yl rfl (b false) yp<|ym rfl (b false)<|ym rfl (f32 a2)<|yd rfl (b false) (TOp.eqb (yc ent82 rfl rfl bN0 (i_IsFinite_ok a2 r3 hf6)) hc7)<|yl rfl (b true) y0<|yl rfl (b true) yp<|zN ?_
     refine RunC.wl (τ' := [(0, (sFc a0)), (1, (sFc a1)), (2, f32 a2), (29, b true)]) (Γ' := []) ⟨aR, aR, aR, aR, trivial⟩ trivial<|yT<|zQ<|yl rfl (f32 (some 0)) (LOp.le (LOp.assign rfl rfl) (ALe.fl (by kernel_rfl) (by kernel_rfl)))<|ya rfl (b false)<|zN ?_
     refine RunC.ret ?_
     have hq := oI h
     obtain ⟨hq0, hq⟩ := Prod.mk.inj hq
     subst q0
     subst q1
     exact bodyQ.pure (.inr rfl) rfl (Res.two rfl (RV.tmp rfl) (RV.tmp rfl))
  ·refine yW<|ym rfl (sFc a0)<|yd rfl (b true) (TOp.eqb (yc ent81 rfl rfl (bS bN0) (i_isList_ok a0 32 r1 hf1)) hc2)<|yl rfl (b false) y1<|ym rfl (b false)<|ym rfl (sFc a1)<|yd rfl (b false) (TOp.eqb (yc ent81 rfl rfl (bS bN0) (i_isList_ok a1 32 r2 hf3)) hc4)<|yl rfl (b true) y0<|yl rfl (b true) yp<|ym rfl (b true)<|ROps.s rfl rfl rfl<|ROps.s rfl rfl rfl<|ROps.s rfl rfl rfl<|ROps.s rfl rfl rfl<|ROps.s rfl rfl rfl<|yl rfl (b true) yq<|ym rfl (b true)<|ROps.s rfl rfl rfl<|ROps.s rfl rfl rfl<|ROps.s rfl rfl rfl<|yl rfl (b true) yq<|zN ?_
   refine RunC.wl (τ' := [(0, (sFc a0)), (1, (sFc a1)), (2, f32 a2), (29, b true)]) (Γ' := []) ⟨aR, aR, aR, aR, trivial⟩ trivial<|yT<|zQ<|yl rfl (f32 (some 0)) (LOp.le (LOp.assign rfl rfl) (ALe.fl (by kernel_rfl) (by kernel_rfl)))<|ya rfl (b false)<|zN ?_
   refine RunC.ret ?_
   have hq := oI h
   obtain ⟨hq0, hq⟩ := Prod.mk.inj hq
   subst q0
   subst q1
   exact bodyQ.pure (.inr rfl) rfl (Res.two rfl (RV.tmp rfl) (RV.tmp rfl))
 ·refine yW<|ym rfl (sFc a0)<|yd rfl (b false) (TOp.eqb (yc ent81 rfl rfl (bS bN0) (i_isList_ok a0 32 r1 hf1)) hc2)<|yl rfl (b true) y0<|ym rfl (b true)<|ROps.s rfl rfl rfl<|ROps.s rfl rfl rfl<|ROps.s rfl rfl rfl<|yl rfl (b true) yq<|ym rfl (b true)<|ROps.s rfl rfl rfl<|ROps.s rfl rfl rfl<|ROps.s rfl rfl rfl<|ROps.s rfl rfl rfl<|ROps.s rfl rfl rfl<|yl rfl (b true) yq<|ym rfl (b true)<|ROps.s rfl rfl rfl<|ROps.s rfl rfl rfl<|ROps.s rfl rfl rfl<|yl rfl (b true) yq<|zN ?_
  refine RunC.wl (τ' := [(0, (sFc a0)), (1, (sFc a1)), (2, f32 a2), (29, b true)]) (Γ' := []) ⟨aR, aR, aR, aR, trivial⟩ trivial<|yT<|zQ<|yl rfl (f32 (some 0)) (LOp.le (LOp.assign rfl rfl) (ALe.fl (by kernel_rfl) (by kernel_rfl)))<|ya rfl (b false)<|zN ?_
  refine RunC.ret ?_
  have hq := oI h
  obtain ⟨hq0, hq⟩ := Prod.mk.inj hq
  subst q0
  subst q1
  exact bodyQ.pure (.inr rfl) rfl (Res.two rfl (RV.tmp rfl) (RV.tmp rfl))
def w_b10Gap (a0 : F) (a1 : F) : Option (F) :=
 bsel (flt .f64 a0 a1) (
  olet (fop .sub .f64 a1 a0) fun (x1 : F) =>
  some x1) (
  olet (fop .sub .f64 a0 a1) fun (x2 : F) =>
  some x2)
theorem w_b10Gap_ok (a0 : F) (a1 : F) (q0 : F) (h : w_b10Gap a0 a1 = some q0) : Ev Tryz.prog 28 [f64 a0, f64 a1] [] (f64 q0) [] := by
 refine yE Tryz.func28 0 29 0 [(0, f64 a0), (1, f64 a1)] [] rfl ?_
 unfold w_b10Gap at h
 refine zQ<|yl rfl (f64 (some 0)) (LOp.le (LOp.assign rfl rfl) (ALe.fl (by kernel_rfl) (by kernel_rfl)))<|zN ?_
 refine yS<|yS ?_
 rcases oB h with ⟨hc1, h⟩ | ⟨hc1, h⟩
 ·refine yW<|ym rfl (f64 a0)<|ym rfl (f64 a1)<|yl rfl (b true) (LOp.eqb (LOp.flt rfl (OpF.tmp rfl) (OpF.tmp rfl)) hc1)<|zN ?_
  refine yT<|yS ?_
  obtain ⟨x1, hx2, h⟩ := oL h
  refine yW<|ym rfl (f64 a1)<|ym rfl (f64 a0)<|yd rfl (f64 x1) (TOp.eqr (TOp.fop (.inr (.inl rfl)) rfl (OpF.tmp rfl) (OpF.tmp rfl)) (congrArg (f .f64) hx2))<|ya rfl (f64 x1)<|zN ?_
  refine RunC.ret ?_
  have hq := oI h
  subst q0
  exact bodyQ.pure (.inr rfl) rfl (Res.one rfl (RV.tmp rfl))
 ·refine yW<|ym rfl (f64 a0)<|ym rfl (f64 a1)<|yl rfl (b false) (LOp.eqb (LOp.flt rfl (OpF.tmp rfl) (OpF.tmp rfl)) hc1)<|zN ?_
  refine yF<|RunC.skip<|yS ?_
  obtain ⟨x2, hx3, h⟩ := oL h
  refine yW<|ym rfl (f64 a0)<|ym rfl (f64 a1)<|yd rfl (f64 x2) (TOp.eqr (TOp.fop (.inr (.inl rfl)) rfl (OpF.tmp rfl) (OpF.tmp rfl)) (congrArg (f .f64) hx3))<|ya rfl (f64 x2)<|zN ?_
  refine RunC.ret ?_
  have hq := oI h
  subst q0
  exact bodyQ.pure (.inr rfl) rfl (Res.one rfl (RV.tmp rfl))
def s_l02Blank (a0 : Int) (a1 : Int) : Option (Int × Int × (List F)) :=
 some (a0, a1, ([] : List F))
theorem s_l02Blank_ok (a0 : Int) (a1 : Int) (q0 : Int) (q1 : Int) (q2 : List F) (h : s_l02Blank a0 a1 = some (q0, q1, q2)) : Ev Tryz.prog 35 [i64 a0, i64 a1] [] (agg (oXc q0 q1 0 0 q2.length)) [⟨0, some (q2.map f32)⟩] := by
 refine yE Tryz.func35 2 19 0 [(0, i64 a0), (1, i64 a1)] [⟨0, none⟩, ⟨0, none⟩] rfl ?_
 unfold s_l02Blank at h
 refine zQ<|ye rfl (optr 0 1 0) [⟨1, some zMx⟩, ⟨0, none⟩] (TOp.alloc_o (g := ⟨0, none⟩) 0 rfl zer27 zok27 rfl)<|zN ?_
 refine zQ<|ym rfl (i64 a0)<|ym rfl (i64 a1)<|ye rfl (oref 1 1 0 0) ([⟨1, some zMx⟩, ⟨1, some (([] : List F).map f32)⟩]) (TOp.buildSlice_o (g := ⟨0, none⟩) (za := f32 (some 0)) (qs := []) 1 rfl und25 siz41 zer41 rfl zel41 rfl rfl trivial rfl)<|yl rfl (agg [i64 a0, i64 a1, oref 1 1 0 0]) (LOp.build (qs := [(0, [i64 a0]), (1, [i64 a1]), (2, [oref 1 1 0 0])]) zer27 zok27 und27 plc27 rfl ⟨rfl, ⟨_, ALe.refl _, rfl⟩, ⟨rfl, ⟨_, ALe.refl _, rfl⟩, ⟨rfl, ⟨_, ALe.refl _, rfl⟩, trivial⟩⟩⟩ rfl)<|ys (agg [i64 a0, i64 a1, oref 1 1 0 0]) [i64 a0, i64 a1, oref 1 1 0 0] ([⟨1, some [i64 a0, i64 a1, oref 1 1 0 0]⟩, ⟨1, some (([] : List F).map f32)⟩]) siz27<|zN ?_
 refine RunC.ret ?_
 have hq := oI h
 obtain ⟨hq0, hq⟩ := Prod.mk.inj hq
 obtain ⟨hq1, hq⟩ := Prod.mk.inj hq
 subst q0
 subst q1
 subst q2
 exact yB (agg [i64 a0, i64 a1, oref 1 1 0 (([] : List F).length)]) [(1, 1)] (Res.eq (Res.one rfl (RV.cell agg27 siz27 rfl rfl rfl rfl)) (by rw [(show ([] : List F).length = 0 from rfl)] <;> rfl)) (SelL.arr0 (f := f32) (fun _ => rfl) rfl trivial)
def s_B10Square_k5 (L15 : List F) (v18 : Int) (v31 : Int) (v32 : Int) (y33 : F) : Option (LR ((List F) × Int × Int × Int) ((List F) × Int × Int) (Int × Int × (List F))) :=
 need (apok 4 L15.length 1) <|
 olet (IntKind.i64.wrap (v18 + 1)) fun (x34 : Int) =>
 some (LR.next ((L15 ++ ([y33] : List F)), v31, v32, x34))
def s_B10Square_b6 (a1 : Int) (r1 : List Int) (v12 : Int) (L15 : List F) (v16 : Int) (v17 : Int) (v18 : Int) : Option (LR ((List F) × Int × Int × Int) ((List F) × Int × Int) (Int × Int × (List F))) :=
 bsel (decide (v18 < a1)) (
  obind3 (s_l00Src_pick_0p0_C0 9 r1 v16 v17) fun (r19 : Int) (r20 : Int) (r21 : Int) =>
  olet (IntKind.i64.wrap (r19 - 4)) fun (x22 : Int) =>
  olet (fint .f32 x22) fun (x23 : F) =>
  olet (fop .quo .f32 x23 (some 1082130432)) fun (x24 : F) =>
  bsel (decide (v12 = v18)) (
   obind3 (s_l00Src_pick_0p0_C0 9 r1 r20 r21) fun (r25 : Int) (r26 : Int) (r27 : Int) =>
   olet (IntKind.i64.wrap (24 + r25)) fun (x28 : Int) =>
   olet (fint .f32 x28) fun (x29 : F) =>
   olet (fop .quo .f32 x29 (some 1082130432)) fun (x30 : F) =>
   s_B10Square_k5 L15 v18 r26 r27 x30) (
   s_B10Square_k5 L15 v18 r20 r21 x24)) (
  some (LR.out (L15, v16, v17)))
def s_B10Square_s6 (a1 : Int) (r1 : List Int) (v12 : Int) : ((List F) × Int × Int × Int) → Option (LR ((List F) × Int × Int × Int) ((List F) × Int × Int) (Int × Int × (List F))) := fun s => s_B10Square_b6 a1 r1 v12 s.1 s.2.1 s.2.2.1 s.2.2.2
def s_B10Square_k6 (v12 : Int) (L37 : List F) (v38 : Int) (v39 : Int) : Option (LR ((List F) × Int × Int × Int) ((List F)) (Int × Int × (List F))) :=
 olet (IntKind.i64.wrap (v12 + 1)) fun (x40 : Int) =>
 some (LR.next (L37, v38, v39, x40))
def s_B10Square_b7 (a1 : Int) (r1 : List Int) (L9 : List F) (v10 : Int) (v11 : Int) (v12 : Int) : Option (LR ((List F) × Int × Int × Int) ((List F)) (Int × Int × (List F))) :=
 bsel (decide (v12 < a1)) (
  obind (loopM (s_B10Square_s6 a1 r1 v12) (L9, v10, v11, 0)) fun z => osum z (fun e => s_B10Square_k6 v12 e.1 e.2.1 e.2.2) (fun r => some (LR.ret r))) (
  some (LR.out L9))
def s_B10Square_s7 (a1 : Int) (r1 : List Int) : ((List F) × Int × Int × Int) → Option (LR ((List F) × Int × Int × Int) ((List F)) (Int × Int × (List F))) := fun s => s_B10Square_b7 a1 r1 s.1 s.2.1 s.2.2.1 s.2.2.2
def s_B10Square_k7 (r4 : Int) (r5 : Int) (L43 : List F) : Option (Int × Int × (List F)) :=
 some (r4, r5, L43)
def s_B10Square (a0 : List Int) (a1 : Int) : Option (Int × Int × (List F)) :=
 obind3 (s_l00From a0) fun (r1 : List Int) (r2 : Int) (r3 : Int) =>
 obind3 (s_l02Blank a1 a1) fun (r4 : Int) (r5 : Int) (r6 : List F) =>
 obind (loopM (s_B10Square_s7 a1 r1) (r6, r2, r3, 0)) fun z => osum z (fun e => s_B10Square_k7 r4 r5 e) (fun r => some r)
theorem s_B10Square_ok (a0 : List Int) (a1 : Int) (q0 : Int) (q1 : Int) (q2 : List F) (h : s_B10Square a0 a1 = some (q0, q1, q2)) : Ev Tryz.prog 7 [sl a0.length (a0.map (ik .u8)), i64 a1] [] (agg (oXc q0 q1 0 0 q2.length)) [⟨0, some (q2.map f32)⟩] := by
 refine yE Tryz.func7 5 91 0 [(0, sl a0.length (a0.map (ik .u8))), (1, i64 a1)] [⟨0, none⟩, ⟨0, none⟩, ⟨0, none⟩, ⟨0, none⟩, ⟨0, none⟩] rfl ?_
 unfold s_B10Square at h
 refine zQ<|ye rfl (optr 0 1 0) [⟨1, some zMx⟩, ⟨0, none⟩, ⟨0, none⟩, ⟨0, none⟩, ⟨0, none⟩] (TOp.alloc_o (g := ⟨0, none⟩) 0 rfl zer27 zok27 rfl)<|zN ?_
 refine yS ?_
 obtain ⟨r1, r2, r3, hf1, h⟩ := obind3_some h
 refine yW<|ym rfl (sl a0.length (a0.map (ik .u8)))<|ye rfl (optr 1 1 0) ([⟨1, some zMx⟩, ⟨1, some [sl r1.length (r1.map (ik .u8)), i64 r2, ik .u64 r3]⟩, ⟨0, none⟩, ⟨0, none⟩, ⟨0, none⟩]) (TOp.callN (A := [sl a0.length (a0.map (ik .u8))]) (ls := [[sl r1.length (r1.map (ik .u8)), i64 r2, ik .u64 r3]]) [1] (by exact (CallAs.func ent34 rfl rfl)) (lts_cons (lt_sl (fun _ => rfl)) lts_nil) (s_l00From_ok a0 r1 r2 r3 hf1) (and_all (lts_cons (lt_sl (fun _ => rfl)) (lts_cons rfl (lts_cons rfl lts_nil))) rfl) rfl (by decide) (ns_of ⟨⟨_, rfl⟩, trivial⟩))<|ya rfl (optr 1 1 0)<|zN ?_
 refine yS ?_
 obtain ⟨r4, r5, r6, hf2, h⟩ := obind3_some h
 refine yW<|ym rfl (i64 a1)<|ym rfl (i64 a1)<|ye rfl (agg (oXc r4 r5 2 1 r6.length)) ([⟨1, some zMx⟩, ⟨1, some [sl r1.length (r1.map (ik .u8)), i64 r2, ik .u64 r3]⟩, ⟨1, some (r6.map f32)⟩, ⟨0, none⟩, ⟨0, none⟩]) (TOp.callBN (ls := [(r6.map f32)]) [2] (CallAs.func ent35 rfl rfl) (bP bN0) rfl (s_l02Blank_ok a1 a1 r4 r5 r6 hf2) (and_all (lts0_map (f := f32) (fun _ => rfl) _) rfl) (and_all (noss_map (f := f32) (fun _ => rfl) _) rfl) rfl (by decide) (ns_of ⟨⟨_, rfl⟩, trivial⟩))<|ye rfl (optr 3 1 0) ([⟨1, some zMx⟩, ⟨1, some [sl r1.length (r1.map (ik .u8)), i64 r2, ik .u64 r3]⟩, ⟨1, some (r6.map f32)⟩, ⟨1, some zMx⟩, ⟨0, none⟩]) (TOp.alloc_o (g := ⟨0, none⟩) 3 rfl zer27 zok27 rfl)<|ys (agg (oXc r4 r5 2 1 r6.length)) (oXc r4 r5 2 1 r6.length) ([⟨1, some zMx⟩, ⟨1, some [sl r1.length (r1.map (ik .u8)), i64 r2, ik .u64 r3]⟩, ⟨1, some (r6.map f32)⟩, ⟨1, some (oXc r4 r5 2 1 r6.length)⟩, ⟨0, none⟩]) siz27<|zN ?_
 refine yS<|zQ<|ya rfl (i64 0)<|zN ?_
 obtain ⟨z8, hz_8, h⟩ := oS h
 refine RunC.cutN (fun τ Γ => ∃ (L43 : List F) (u41 : Nat) (u42 : Nat), WeakLe τ [(4, optr 0 1 0), (6, optr 3 1 0)] ∧ DeadLe Γ [⟨1, some zMx⟩, ⟨1, none⟩, ⟨u41, some (L43.map f32)⟩, ⟨1, some (oXc r4 r5 2 u41 L43.length)⟩, ⟨u42, none⟩] ∧ z8 = .inl L43) ?_ ?_
 ·refine RunC.block (RunC.loop (RunL.loopM (x := z8) (s_B10Square_s7 a1 r1) (fun (s : (List F) × Int × Int × Int) τ Γ => ∃ (u7 : Nat) (u8 : Nat), WeakLe τ [(1, i64 a1), (4, optr 0 1 0), (5, optr 1 1 0), (6, optr 3 1 0), (7, i64 s.2.2.2)] ∧ DeadLe Γ [⟨1, some zMx⟩, ⟨1, some [sl r1.length (r1.map (ik .u8)), i64 s.2.1, ik .u64 s.2.2.1]⟩, ⟨u7, some (s.1.map f32)⟩, ⟨1, some [i64 r4, i64 r5, oref 2 u7 0 s.1.length]⟩, ⟨u8, none⟩]) ?_ _ _ _ hz_8 ⟨1, 0, ⟨aR, aR, aR, aR, aR, trivial⟩, ⟨⟨rfl, .inr rfl⟩, ⟨rfl, .inr rfl⟩, ⟨rfl, .inr rfl⟩, ⟨rfl, .inr (by first | rfl | simp)⟩, ⟨rfl, .inl rfl⟩, trivial⟩⟩))
  rintro ⟨L9, v10, v11, v12⟩ τ8 Γ8 y8_ ⟨u7, u8, hw8, hd8⟩ h8_ ho8 hr8
  refine RunC.wl (τ' := [(1, i64 a1), (4, optr 0 1 0), (5, optr 1 1 0), (6, optr 3 1 0), (7, i64 v12)]) (Γ' := [⟨1, some zMx⟩, ⟨1, some [sl r1.length (r1.map (ik .u8)), i64 v10, ik .u64 v11]⟩, ⟨u7, some (L9.map f32)⟩, ⟨1, some (oXc r4 r5 2 u7 L9.length)⟩, ⟨u8, none⟩]) hw8 hd8 ?_
  replace h8_ : s_B10Square_b7 a1 r1 L9 v10 v11 v12 = some y8_ := h8_
  unfold s_B10Square_b7 at h8_
  refine yS<|yS ?_
  rcases oB h8_ with ⟨hc3, h8_⟩ | ⟨hc3, h8_⟩
  ·refine yW<|ym rfl (i64 v12)<|ym rfl (i64 a1)<|yl rfl (b true) (LOp.eqb (LOp.lss rfl rfl rfl) hc3)<|zN ?_
   refine yT<|RunC.skip<|yS<|RunC.block<|zQ<|ya rfl (i64 0)<|zN ?_
   obtain ⟨z9, hz_9, h8_⟩ := oS h8_
   refine RunC.cutN (fun τ Γ => ∃ (L37 : List F) (v38 : Int) (v39 : Int) (u35 : Nat) (u36 : Nat), WeakLe τ [(1, i64 a1), (4, optr 0 1 0), (5, optr 1 1 0), (6, optr 3 1 0), (7, i64 v12)] ∧ DeadLe Γ [⟨1, some zMx⟩, ⟨1, some [sl r1.length (r1.map (ik .u8)), i64 v38, ik .u64 v39]⟩, ⟨u35, some (L37.map f32)⟩, ⟨1, some (oXc r4 r5 2 u35 L37.length)⟩, ⟨u36, none⟩] ∧ z9 = .inl (L37, v38, v39)) ?_ ?_
   ·refine RunC.block (RunC.loop (RunL.loopM (x := z9) (s_B10Square_s6 a1 r1 v12) (fun (s : (List F) × Int × Int × Int) τ Γ => ∃ (u13 : Nat) (u14 : Nat), WeakLe τ [(1, i64 a1), (4, optr 0 1 0), (5, optr 1 1 0), (6, optr 3 1 0), (7, i64 v12), (8, i64 s.2.2.2)] ∧ DeadLe Γ [⟨1, some zMx⟩, ⟨1, some [sl r1.length (r1.map (ik .u8)), i64 s.2.1, ik .u64 s.2.2.1]⟩, ⟨u13, some (s.1.map f32)⟩, ⟨1, some [i64 r4, i64 r5, oref 2 u13 0 s.1.length]⟩, ⟨u14, none⟩]) ?_ _ _ _ hz_9 ⟨u7, u8, ⟨aR, aR, aR, aR, aR, aR, trivial⟩, ⟨⟨rfl, .inr rfl⟩, ⟨rfl, .inr rfl⟩, ⟨rfl, .inr rfl⟩, ⟨rfl, .inr (by first | rfl | simp)⟩, ⟨rfl, .inl rfl⟩, trivial⟩⟩))
    rintro ⟨L15, v16, v17, v18⟩ τ9 Γ9 y9_ ⟨u13, u14, hw9, hd9⟩ h9_ ho9 hr9
    refine RunC.wl (τ' := [(1, i64 a1), (4, optr 0 1 0), (5, optr 1 1 0), (6, optr 3 1 0), (7, i64 v12), (8, i64 v18)]) (Γ' := [⟨1, some zMx⟩, ⟨1, some [sl r1.length (r1.map (ik .u8)), i64 v16, ik .u64 v17]⟩, ⟨u13, some (L15.map f32)⟩, ⟨1, some (oXc r4 r5 2 u13 L15.length)⟩, ⟨u14, none⟩]) hw9 hd9 ?_
    replace h9_ : s_B10Square_b6 a1 r1 v12 L15 v16 v17 v18 = some y9_ := h9_
    unfold s_B10Square_b6 at h9_
    refine yS<|yS ?_
    rcases oB h9_ with ⟨hc4, h9_⟩ | ⟨hc4, h9_⟩
    ·refine yW<|ym rfl (i64 v18)<|ym rfl (i64 a1)<|yl rfl (b true) (LOp.eqb (LOp.lss rfl rfl rfl) hc4)<|zN ?_
     refine yT<|RunC.skip<|yS<|RunC.block<|yS ?_
     obtain ⟨r19, r20, r21, hf5, h9_⟩ := obind3_some h9_
     obtain ⟨x22, hx6, h9_⟩ := oL h9_
     obtain ⟨x23, hx7, h9_⟩ := oL h9_
     obtain ⟨x24, hx8, h9_⟩ := oL h9_
     refine yW<|ym rfl (optr 1 1 0)<|ROps.callO (A := [optr 1 1 0, i64 9]) (args := [optr 0 0 0, i64 9]) (Γc := [⟨0, some [sl r1.length (r1.map (ik .u8)), i64 v16, ik .u64 v17]⟩]) (Γc' := [⟨0, some [sl r1.length (r1.map (ik .u8)), i64 r20, ik .u64 r21]⟩]) (r' := i64 r19) (Γ' := [⟨1, some zMx⟩, ⟨1, some [sl r1.length (r1.map (ik .u8)), i64 r20, ik .u64 r21]⟩, ⟨u13, some (L15.map f32)⟩, ⟨1, some (oXc r4 r5 2 u13 L15.length)⟩, ⟨u14, none⟩]) [(1, 1)] [] rfl (CallAs.func ent36 rfl rfl) rfl rfl (SelOk.of (ndB_ok rfl) (SelL.cells0 rfl (by simp [ren, rens, sigma, rens_f32, rens_f64, rens_i64, rens_ik, rens_str, rens_cp]) (lts_cons (lt_slk (fun _ => rfl)) (lts_cons rfl (lts_cons rfl lts_nil))) trivial)) (live_of ⟨⟨_, _, rfl⟩, trivial⟩) (by simp [ren, rens, sigma, rens_f32, rens_f64, rens_i64, rens_ik, rens_str, rens_cp]) rfl (s_l00Src_pick_0p0_C0_ok 9 r1 v16 v17 r19 r20 r21 hf5) rfl (news_of trivial) (ndB_ok rfl) (by simp [ren, rens, sigma]) (by simp [backOb, sigma, ren, rens, rens_f32, rens_f64, rens_i64, rens_ik, rens_str, rens_cp])<|yl rfl (i64 x22) (LOp.eqr (LOp.sub rfl rfl rfl) (congrArg (ik .i64) hx6))<|yl rfl (f32 x23) (LOp.eqr (LOp.i2f (src := 2) (dst := 41) ⟨_, pun2⟩ pun41 rfl rfl) (congrArg (f .f32) hx7))<|yd rfl (f32 x24) (TOp.eqr (TOp.fop (.inr (.inr (.inr rfl))) rfl (OpF.tmp rfl) (OpF.const rfl (by kernel_rfl) (by kernel_rfl))) (congrArg (f .f32) hx8))<|ya rfl (f32 x24)<|zN ?_
     refine yS<|RunC.cutN (fun τ Γ => ∃ (v31 : Int) (v32 : Int) (y33 : F), WeakLe τ [(1, i64 a1), (4, optr 0 1 0), (5, optr 1 1 0), (6, optr 3 1 0), (7, i64 v12), (8, i64 v18), (9, f32 y33)] ∧ DeadLe Γ [⟨1, some zMx⟩, ⟨1, some [sl r1.length (r1.map (ik .u8)), i64 v31, ik .u64 v32]⟩, ⟨u13, some (L15.map f32)⟩, ⟨1, some (oXc r4 r5 2 u13 L15.length)⟩, ⟨u14, none⟩] ∧ s_B10Square_k5 L15 v18 v31 v32 y33 = some y9_) ?_ ?_
     ·refine yS ?_
      rcases oB h9_ with ⟨hc9, h9_⟩ | ⟨hc9, h9_⟩
      ·refine yW<|ym rfl (i64 v12)<|ym rfl (i64 v18)<|yl rfl (b true) (LOp.eqb (LOp.eql rfl rfl rfl) hc9)<|zN ?_
       refine yT ?_
       obtain ⟨r25, r26, r27, hf10, h9_⟩ := obind3_some h9_
       obtain ⟨x28, hx11, h9_⟩ := oL h9_
       obtain ⟨x29, hx12, h9_⟩ := oL h9_
       obtain ⟨x30, hx13, h9_⟩ := oL h9_
       refine yW<|ym rfl (optr 1 1 0)<|ROps.callO (A := [optr 1 1 0, i64 9]) (args := [optr 0 0 0, i64 9]) (Γc := [⟨0, some [sl r1.length (r1.map (ik .u8)), i64 r20, ik .u64 r21]⟩]) (Γc' := [⟨0, some [sl r1.length (r1.map (ik .u8)), i64 r26, ik .u64 r27]⟩]) (r' := i64 r25) (Γ' := [⟨1, some zMx⟩, ⟨1, some [sl r1.length (r1.map (ik .u8)), i64 r26, ik .u64 r27]⟩, ⟨u13, some (L15.map f32)⟩, ⟨1, some (oXc r4 r5 2 u13 L15.length)⟩, ⟨u14, none⟩]) [(1, 1)] [] rfl (CallAs.func ent36 rfl rfl) rfl rfl (SelOk.of (ndB_ok rfl) (SelL.cells0 rfl (by simp [ren, rens, sigma, rens_f32, rens_f64, rens_i64, rens_ik, rens_str, rens_cp]) (lts_cons (lt_slk (fun _ => rfl)) (lts_cons rfl (lts_cons rfl lts_nil))) trivial)) (live_of ⟨⟨_, _, rfl⟩, trivial⟩) (by simp [ren, rens, sigma, rens_f32, rens_f64, rens_i64, rens_ik, rens_str, rens_cp]) rfl (s_l00Src_pick_0p0_C0_ok 9 r1 r20 r21 r25 r26 r27 hf10) rfl (news_of trivial) (ndB_ok rfl) (by simp [ren, rens, sigma]) (by simp [backOb, sigma, ren, rens, rens_f32, rens_f64, rens_i64, rens_ik, rens_str, rens_cp])<|yl rfl (i64 x28) (LOp.eqr (LOp.add rfl rfl rfl) (congrArg (ik .i64) hx11))<|yl rfl (f32 x29) (LOp.eqr (LOp.i2f (src := 2) (dst := 41) ⟨_, pun2⟩ pun41 rfl rfl) (congrArg (f .f32) hx12))<|yd rfl (f32 x30) (TOp.eqr (TOp.fop (.inr (.inr (.inr rfl))) rfl (OpF.tmp rfl) (OpF.const rfl (by kernel_rfl) (by kernel_rfl))) (congrArg (f .f32) hx13))<|ya rfl (f32 x30)<|zN ?_
       exact ⟨r26, r27, x30, ⟨aR, aR, aR, aR, aR, aR, aR, trivial⟩, ⟨⟨rfl, .inr rfl⟩, ⟨rfl, .inr rfl⟩, ⟨rfl, .inr rfl⟩, ⟨rfl, .inr rfl⟩, ⟨rfl, .inl rfl⟩, trivial⟩, h9_⟩
      ·refine yW<|ym rfl (i64 v12)<|ym rfl (i64 v18)<|yl rfl (b false) (LOp.eqb (LOp.eql rfl rfl rfl) hc9)<|zN ?_
       refine yF<|RunC.skip ?_
       exact ⟨r20, r21, x24, ⟨aR, aR, aR, aR, aR, aR, aR, trivial⟩, ⟨⟨rfl, .inr rfl⟩, ⟨rfl, .inr rfl⟩, ⟨rfl, .inr rfl⟩, ⟨rfl, .inr rfl⟩, ⟨rfl, .inl rfl⟩, trivial⟩, h9_⟩
     ·rintro τ10 Γ10 ⟨v31, v32, y33, hw10, hd10, h9_⟩
      refine RunC.wl hw10 hd10 ?_
      unfold s_B10Square_k5 at h9_
      obtain ⟨hm14, h9_⟩ := need_some h9_
      refine yW<|yl rfl (optr 3 1 2) (LOp.fao und27 rfl siz25 rfl rfl rfl)<|yd rfl (oref 2 u13 0 L15.length) (TOp.load1_o rfl rfl agg25 rfl rfl)<|ym rfl (f32 y33)<|ye rfl (oref 4 (u14 + 1) 0 1) ([⟨1, some zMx⟩, ⟨1, some [sl r1.length (r1.map (ik .u8)), i64 v31, ik .u64 v32]⟩, ⟨u13, some (L15.map f32)⟩, ⟨1, some (oXc r4 r5 2 u13 L15.length)⟩, ⟨(u14 + 1), some (([y33] : List F).map f32)⟩]) (TOp.buildSlice_o (g := ⟨u14, none⟩) (za := f32 (some 0)) (qs := [(0, [f32 y33])]) 4 rfl und25 siz41 zer41 rfl zel41 rfl rfl ⟨rfl, ⟨_, ALe.refl _, rfl⟩, trivial⟩ rfl)<|ROps.app (f := f32) (xs := L15) (ys := ([y33] : List F)) (Γ' := [⟨1, some zMx⟩, ⟨1, some [sl r1.length (r1.map (ik .u8)), i64 v31, ik .u64 v32]⟩, ⟨(u13 + 1), some ((L15 ++ ([y33] : List F)).map f32)⟩, ⟨1, some (oXc r4 r5 2 u13 L15.length)⟩, ⟨(u14 + 1), some (([y33] : List F).map f32)⟩]) rfl pun25 inf41 rfl rfl rfl rfl rfl rfl rfl rfl rfl (by simp) (ReadAs.own rfl (by simp)) (ones_map (fun _ => rfl)) (ap_by hm14) (ap_mx hm14) rfl<|yl rfl (optr 3 1 2) (LOp.fao und27 rfl siz25 rfl rfl rfl)<|ys (oref 2 (u13 + 1) 0 (L15.length + 1)) [i64 r4, i64 r5, oref 2 (u13 + 1) 0 (L15.length + 1)] ([⟨1, some zMx⟩, ⟨1, some [sl r1.length (r1.map (ik .u8)), i64 v31, ik .u64 v32]⟩, ⟨(u13 + 1), some ((L15 ++ ([y33] : List F)).map f32)⟩, ⟨1, some [i64 r4, i64 r5, oref 2 (u13 + 1) 0 (L15.length + 1)]⟩, ⟨(u14 + 1), some (([y33] : List F).map f32)⟩]) siz25<|zN ?_
      refine RunC.wl (τ' := [(1, i64 a1), (4, optr 0 1 0), (5, optr 1 1 0), (6, optr 3 1 0), (7, i64 v12), (8, i64 v18)]) (Γ' := [⟨1, some zMx⟩, ⟨1, some [sl r1.length (r1.map (ik .u8)), i64 v31, ik .u64 v32]⟩, ⟨(u13 + 1), some ((L15 ++ ([y33] : List F)).map f32)⟩, ⟨1, some [i64 r4, i64 r5, oref 2 (u13 + 1) 0 (L15.length + 1)]⟩, ⟨(u14 + 1), none⟩]) ⟨aR, aR, aR, aR, aR, aR, trivial⟩ ⟨⟨rfl, .inr rfl⟩, ⟨rfl, .inr rfl⟩, ⟨rfl, .inr rfl⟩, ⟨rfl, .inr rfl⟩, ⟨rfl, .inl rfl⟩, trivial⟩ ?_
      obtain ⟨x34, hx15, h9_⟩ := oL h9_
      refine yW<|ym rfl (i64 v18)<|yl rfl (i64 x34) (LOp.eqr (LOp.add rfl rfl rfl) (congrArg (ik .i64) hx15))<|ya rfl (i64 x34)<|zN ?_
      cases oI h9_
      exact ⟨_, rfl, (u13 + 1), (u14 + 1), ⟨aR, aR, aR, aR, aR, aR, trivial⟩, ⟨⟨rfl, .inr rfl⟩, ⟨rfl, .inr rfl⟩, ⟨rfl, .inr rfl⟩, ⟨rfl, .inr (by first | rfl | simp)⟩, ⟨rfl, .inl rfl⟩, trivial⟩⟩
    ·refine yW<|ym rfl (i64 v18)<|ym rfl (i64 a1)<|yl rfl (b false) (LOp.eqb (LOp.lss rfl rfl rfl) hc4)<|zN ?_
     refine yF<|RunC.exit ?_
     cases oI h9_
     have hx := ho9 _ rfl
     exact ⟨L15, v16, v17, u13, u14, ⟨aR, aR, aR, aR, aR, trivial⟩, ⟨⟨rfl, .inr rfl⟩, ⟨rfl, .inr rfl⟩, ⟨rfl, .inr rfl⟩, ⟨rfl, .inr (by first | rfl | simp)⟩, ⟨rfl, .inl rfl⟩, trivial⟩, hx⟩
   ·rintro τ11 Γ11 ⟨L37, v38, v39, u35, u36, hw11, hd11, rfl⟩
    refine RunC.wl hw11 hd11 ?_
    replace h8_ : s_B10Square_k6 v12 L37 v38 v39 = some y8_ := h8_
    unfold s_B10Square_k6 at h8_
    obtain ⟨x40, hx16, h8_⟩ := oL h8_
    refine yW<|ym rfl (i64 v12)<|yl rfl (i64 x40) (LOp.eqr (LOp.add rfl rfl rfl) (congrArg (ik .i64) hx16))<|ya rfl (i64 x40)<|zN ?_
    cases oI h8_
    exact ⟨_, rfl, u35, u36, ⟨aR, aR, aR, aR, aR, trivial⟩, ⟨⟨rfl, .inr rfl⟩, ⟨rfl, .inr rfl⟩, ⟨rfl, .inr rfl⟩, ⟨rfl, .inr (by first | rfl | simp)⟩, ⟨rfl, .inl rfl⟩, trivial⟩⟩
  ·refine yW<|ym rfl (i64 v12)<|ym rfl (i64 a1)<|yl rfl (b false) (LOp.eqb (LOp.lss rfl rfl rfl) hc3)<|zN ?_
   refine yF<|RunC.exit ?_
   cases oI h8_
   have hx := ho8 _ rfl
   exact ⟨L9, u7, u8, ⟨aR, aR, trivial⟩, ⟨⟨rfl, .inr rfl⟩, ⟨rfl, .inl rfl⟩, ⟨rfl, .inr rfl⟩, ⟨rfl, .inr (by first | rfl | simp)⟩, ⟨rfl, .inl rfl⟩, trivial⟩, hx⟩
 ·rintro τ12 Γ12 ⟨L43, u41, u42, hw12, hd12, rfl⟩
  refine RunC.wl hw12 hd12 ?_
  replace h : s_B10Square_k7 r4 r5 L43 = some (q0, q1, q2) := h
  unfold s_B10Square_k7 at h
  refine zQ<|yd rfl (agg (oXc r4 r5 2 u41 L43.length)) (TOp.loadAgg_o rfl agg27 siz27 rfl rfl rfl rfl)<|ys (agg (oXc r4 r5 2 u41 L43.length)) (oXc r4 r5 2 u41 L43.length) [⟨1, some (oXc r4 r5 2 u41 L43.length)⟩, ⟨1, none⟩, ⟨u41, some (L43.map f32)⟩, ⟨1, some (oXc r4 r5 2 u41 L43.length)⟩, ⟨u42, none⟩] siz27<|zN ?_
  refine RunC.ret ?_
  have hq := oI h
  obtain ⟨hq0, hq⟩ := Prod.mk.inj hq
  obtain ⟨hq1, hq⟩ := Prod.mk.inj hq
  subst q0
  subst q1
  subst q2
  exact bodyQ.mk (r' := agg (oXc r4 r5 2 u41 L43.length)) [(2, u41)] (.inr rfl) rfl (show List.Nodup [2] from by decide) (by simp [ren, rens, sigma]) rfl (Res.one rfl (RV.cell agg27 siz27 rfl rfl rfl rfl)) (SelL.arr0 (f := f32) (fun _ => rfl) rfl trivial)
def s_l00In (a0 : Int) (a1 : Int) (a2 : Int) : Option (Bool) :=
 bsel (decide (a1 ≤ a0)) (
  some (decide (a0 ≤ a2))) (
  some false)
theorem s_l00In_ok (a0 : Int) (a1 : Int) (a2 : Int) (q0 : Bool) (h : s_l00In a0 a1 a2 = some q0) : Ev Tryz.prog 77 [i64 a0, i64 a1, i64 a2] [] (b q0) [] := by
 refine yE Tryz.func77 0 31 0 [(0, i64 a0), (1, i64 a1), (2, i64 a2)] [] rfl ?_
 unfold s_l00In at h
 refine zQ<|ya rfl (b false)<|zN ?_
 refine yS ?_
 rcases oB h with ⟨hc1, h⟩ | ⟨hc1, h⟩
 ·refine yW<|ym rfl (i64 a0)<|ym rfl (i64 a1)<|yl rfl (b true) (LOp.eqb (LOp.geq rfl rfl rfl) hc1)<|ym rfl (b true)<|ym rfl (i64 a0)<|ym rfl (i64 a2)<|yl rfl (b (decide (a0 ≤ a2))) (LOp.leq rfl rfl rfl)<|yl rfl (b (decide (a0 ≤ a2))) yq<|ya rfl (b (decide (a0 ≤ a2)))<|zN ?_
  refine RunC.ret ?_
  have hq := oI h
  subst q0
  exact bodyQ.pure (.inr rfl) rfl (Res.one rfl (RV.tmp rfl))
 ·refine yW<|ym rfl (i64 a0)<|ym rfl (i64 a1)<|yl rfl (b false) (LOp.eqb (LOp.geq rfl rfl rfl) hc1)<|ym rfl (b false)<|ROps.s rfl rfl rfl<|ROps.s rfl rfl rfl<|ROps.s rfl rfl rfl<|yl rfl (b false) yp<|ya rfl (b false)<|zN ?_
  refine RunC.ret ?_
  have hq := oI h
  subst q0
  exact bodyQ.pure (.inr rfl) rfl (Res.one rfl (RV.tmp rfl))
def s_l02Sides (a0 : Int) (a1 : Int) : Option (Bool) :=
 obind (s_l00In a0 1 12) fun (r1 : Bool) =>
 bsel r1 (
  obind (s_l00In a1 1 12) fun (r2 : Bool) =>
  some r2) (
  some false)
theorem s_l02Sides_ok (a0 : Int) (a1 : Int) (q0 : Bool) (h : s_l02Sides a0 a1 = some q0) : Ev Tryz.prog 104 [i64 a0, i64 a1] [] (b q0) [] := by
 refine yE Tryz.func104 0 23 0 [(0, i64 a0), (1, i64 a1)] [] rfl ?_
 unfold s_l02Sides at h
 refine zQ<|ya rfl (b false)<|zN ?_
 refine yS ?_
 obtain ⟨r1, hf1, h⟩ := oS h
 rcases oB h with ⟨hc2, h⟩ | ⟨hc2, h⟩
 ·obtain ⟨r2, hf3, h⟩ := oS h
  refine yW<|ym rfl (i64 a0)<|yd rfl (b true) (TOp.eqb (yc ent77 rfl rfl (bP (bP bN0)) (s_l00In_ok a0 1 12 r1 hf1)) hc2)<|ym rfl (b true)<|ym rfl (i64 a1)<|yd rfl (b r2) (yc ent77 rfl rfl (bP (bP bN0)) (s_l00In_ok a1 1 12 r2 hf3))<|yl rfl (b r2) yq<|ya rfl (b r2)<|zN ?_
  refine RunC.ret ?_
  have hq := oI h
  subst q0
  exact bodyQ.pure (.inr rfl) rfl (Res.one rfl (RV.tmp rfl))
 ·refine yW<|ym rfl (i64 a0)<|yd rfl (b false) (TOp.eqb (yc ent77 rfl rfl (bP (bP bN0)) (s_l00In_ok a0 1 12 r1 hf1)) hc2)<|ym rfl (b false)<|ROps.s rfl rfl rfl<|ROps.s rfl rfl rfl<|yl rfl (b false) yp<|ya rfl (b false)<|zN ?_
  refine RunC.ret ?_
  have hq := oI h
  subst q0
  exact bodyQ.pure (.inr rfl) rfl (Res.one rfl (RV.tmp rfl))
def s_l01Finite (a0 : F) : Option (Bool) :=
 olet (fop .sub .f32 a0 a0) fun (x1 : F) =>
 some (feq .f32 x1 (some 0))
theorem s_l01Finite_ok (a0 : F) (q0 : Bool) (h : s_l01Finite a0 = some q0) : Ev Tryz.prog 115 [f32 a0] [] (b q0) [] := by
 refine yE Tryz.func115 0 15 0 [(0, f32 a0)] [] rfl ?_
 unfold s_l01Finite at h
 refine zQ<|ya rfl (b false)<|zN ?_
 refine yS ?_
 obtain ⟨x1, hx1, h⟩ := oL h
 refine yW<|ym rfl (f32 a0)<|ym rfl (f32 a0)<|yd rfl (f32 x1) (TOp.eqr (TOp.fop (.inr (.inl rfl)) rfl (OpF.tmp rfl) (OpF.tmp rfl)) (congrArg (f .f32) hx1))<|yl rfl (b (feq .f32 x1 (some 0))) (LOp.feq rfl (OpF.tmp rfl) (OpF.const rfl (by kernel_rfl) (by kernel_rfl)))<|ya rfl (b (feq .f32 x1 (some 0)))<|zN ?_
 refine RunC.ret ?_
 have hq := oI h
 subst q0
 exact bodyQ.pure (.inr rfl) rfl (Res.one rfl (RV.tmp rfl))
def s_l02Finite_b1 (a0 : List F) (v1 : Int) : Option (LR (Int) (Unit) (Bool)) :=
 bsel (decide (v1 < (a0.length : Int))) (
  obind (at? a0 v1) fun (e2 : F) =>
  obind (s_l01Finite e2) fun (r3 : Bool) =>
  bsel r3 (
   olet (IntKind.i64.wrap (v1 + 1)) fun (x4 : Int) =>
   some (LR.next x4)) (
   some (LR.ret false))) (
  some (LR.out ()))
def s_l02Finite_s1 (a0 : List F) : (Int) → Option (LR (Int) (Unit) (Bool)) := fun s => s_l02Finite_b1 a0 s
def s_l02Finite_k1  : Option (Bool) :=
 some true
def s_l02Finite (a0 : List F) : Option (Bool) :=
 obind (loopM (s_l02Finite_s1 a0) 0) fun z => osum z (fun _ => s_l02Finite_k1) (fun r => some r)
theorem s_l02Finite_ok (a0 : List F) (q0 : Bool) (h : s_l02Finite a0 = some q0) : Ev Tryz.prog 105 [(sFc a0)] [] (b q0) [] := by
 refine yE Tryz.func105 0 33 0 [(0, (sFc a0))] [] rfl ?_
 unfold s_l02Finite at h
 refine zQ<|ya rfl (b false)<|zN ?_
 refine yS<|zQ<|ya rfl (i64 0)<|zN ?_
 obtain ⟨z2, hz_2, h⟩ := oS h
 refine RunC.cutN (fun τ Γ => WeakLe τ [] ∧ DeadLe Γ [] ∧ z2 = .inl ()) ?_ ?_
 ·refine RunC.block (RunC.loop (RunL.loopM (x := z2) (s_l02Finite_s1 a0) (fun (s : Int) τ Γ => WeakLe τ [(0, (sFc a0)), (3, i64 s)] ∧ DeadLe Γ []) ?_ _ _ _ hz_2 ⟨⟨aR, aR, trivial⟩, trivial⟩))
  rintro v1 τ2 Γ2 y2_ ⟨hw2, hd2⟩ h2_ ho2 hr2
  refine RunC.wl (τ' := [(0, (sFc a0)), (3, i64 v1)]) (Γ' := []) hw2 hd2 ?_
  replace h2_ : s_l02Finite_b1 a0 v1 = some y2_ := h2_
  unfold s_l02Finite_b1 at h2_
  refine yS<|yS ?_
  rcases oB h2_ with ⟨hc1, h2_⟩ | ⟨hc1, h2_⟩
  ·refine yW<|ym rfl (i64 v1)<|ym rfl (sFc a0)<|yl rfl (i64 (a0.length : Int)) (LOp.len_sl und25 rfl rfl)<|yl rfl (b true) (LOp.eqb (LOp.lss rfl rfl rfl) hc1)<|zN ?_
   refine yT<|RunC.skip<|yS<|RunC.block<|yS ?_
   obtain ⟨e2, he2, h2_⟩ := oS h2_
   obtain ⟨r3, hf3, h2_⟩ := oS h2_
   rcases oB h2_ with ⟨hc4, h2_⟩ | ⟨hc4, h2_⟩
   ·refine yW<|ym rfl (sFc a0)<|ym rfl (i64 v1)<|yl rfl (ptr [f32 e2]) (LOp.le (LOp.ix (f := f32) und25 siz41 rfl rfl rfl rfl he2) ALe.ptr)<|yl rfl (f32 e2) (y2 agg41)<|yd rfl (b true) (TOp.eqb (yc ent115 rfl rfl bN0 (s_l01Finite_ok e2 r3 hf3)) hc4)<|yl rfl (b false) y1<|zN ?_
    refine yF<|RunC.skip ?_
    obtain ⟨x4, hx5, h2_⟩ := oL h2_
    refine yW<|ym rfl (i64 v1)<|yl rfl (i64 x4) (LOp.eqr (LOp.add rfl rfl rfl) (congrArg (ik .i64) hx5))<|ya rfl (i64 x4)<|zN ?_
    cases oI h2_
    exact ⟨_, rfl, ⟨aR, aR, trivial⟩, trivial⟩
   ·refine yW<|ym rfl (sFc a0)<|ym rfl (i64 v1)<|yl rfl (ptr [f32 e2]) (LOp.le (LOp.ix (f := f32) und25 siz41 rfl rfl rfl rfl he2) ALe.ptr)<|yl rfl (f32 e2) (y2 agg41)<|yd rfl (b false) (TOp.eqb (yc ent115 rfl rfl bN0 (s_l01Finite_ok e2 r3 hf3)) hc4)<|yl rfl (b true) y0<|zN ?_
    refine yT<|zQ<|ya rfl (b false)<|zN ?_
    refine RunC.ret ?_
    cases oI h2_
    have hx3_ := hr2 _ rfl
    subst hx3_
    have hq := oI h
    subst q0
    exact bodyQ.pure (.inr rfl) rfl (Res.one rfl (RV.tmp rfl))
  ·refine yW<|ym rfl (i64 v1)<|ym rfl (sFc a0)<|yl rfl (i64 (a0.length : Int)) (LOp.len_sl und25 rfl rfl)<|yl rfl (b false) (LOp.eqb (LOp.lss rfl rfl rfl) hc1)<|zN ?_
   refine yF<|RunC.exit ?_
   cases oI h2_
   have hx := ho2 _ rfl
   exact ⟨trivial, trivial, hx⟩
 ·rintro τ4 Γ4 ⟨hw4, hd4, rfl⟩
  refine RunC.wl hw4 hd4 ?_
  replace h : s_l02Finite_k1 = some q0 := h
  unfold s_l02Finite_k1 at h
  refine zQ<|ya rfl (b true)<|zN ?_
  refine RunC.ret ?_
  have hq := oI h
  subst q0
  exact bodyQ.pure (.inr rfl) rfl (Res.one rfl (RV.tmp rfl))
def s_l02Is (a0 : Int) (a1 : Int) (a2 : List F) : Option (Bool) :=
 obind (s_l02Sides a0 a1) fun (r1 : Bool) =>
 bsel r1 (
  olet (IntKind.i64.wrap (a0 * a1)) fun (x2 : Int) =>
  bsel (decide ((a2.length : Int) = x2)) (
   obind (s_l02Finite a2) fun (r3 : Bool) =>
   some r3) (
   some false)) (
  some false)
theorem s_l02Is_ok (a0 : Int) (a1 : Int) (a2 : List F) (q0 : Bool) (h : s_l02Is a0 a1 a2 = some q0) : Ev Tryz.prog 59 [ptr (mXc a0 a1 a2)] [] (b q0) [] := by
 refine yE Tryz.func59 0 73 0 [(0, ptr (mXc a0 a1 a2))] [] rfl ?_
 unfold s_l02Is at h
 refine zQ<|ya rfl (b false)<|zN ?_
 refine yS ?_
 obtain ⟨r1, hf1, h⟩ := oS h
 rcases oB h with ⟨hc2, h⟩ | ⟨hc2, h⟩
 ·obtain ⟨x2, hx3, h⟩ := oL h
  rcases oB h with ⟨hc4, h⟩ | ⟨hc4, h⟩
  ·obtain ⟨r3, hf5, h⟩ := oS h
   refine RunC.region_draw (Γ' := []) 34 mixed 
    (tm rfl (ptr (mXc a0 a1 a2)) <|
    (tl rfl (ptr (mXc a0 a1 a2)) (LOp.nilCheck_ptr rfl rfl) <|
    (tl rfl (ptr (mXc a0 a1 a2)) (LOp.fap und27 rfl siz2 rfl rfl rfl) <|
    (tl rfl (i64 a0) (y2 agg2) <|
    (tm rfl (ptr (mXc a0 a1 a2)) <|
    (tl rfl (ptr (mXc a0 a1 a2)) (LOp.nilCheck_ptr rfl rfl) <|
    (tl rfl (ptr [i64 a1, (sFc a2)]) (LOp.fap und27 rfl siz2 rfl rfl rfl) <|
    (tl rfl (i64 a1) (y2 agg2) <|
    (TR.d (r := b true) (fs := []) rfl rfl (TOp.eqb (yc ent104 rfl rfl (bP bN0) (s_l02Sides_ok a0 a1 r1 hf1)) hc2) <|
    (tm rfl (b true) <|
    (tm rfl (ptr (mXc a0 a1 a2)) <|
    (tl rfl (ptr (mXc a0 a1 a2)) (LOp.nilCheck_ptr rfl rfl) <|
    (tl rfl (ptr [(sFc a2)]) (LOp.fap und27 rfl siz25 rfl rfl rfl) <|
    (tl rfl (sFc a2) (y2 agg25) <|
    (tl rfl (i64 (a2.length : Int)) (LOp.len_sl und25 rfl rfl) <|
    (tm rfl (ptr (mXc a0 a1 a2)) <|
    (tl rfl (ptr (mXc a0 a1 a2)) (LOp.nilCheck_ptr rfl rfl) <|
    (tl rfl (ptr (mXc a0 a1 a2)) (LOp.fap und27 rfl siz2 rfl rfl rfl) <|
    (tl rfl (i64 a0) (y2 agg2) <|
    (tm rfl (ptr (mXc a0 a1 a2)) <|
    (tl rfl (ptr (mXc a0 a1 a2)) (LOp.nilCheck_ptr rfl rfl) <|
    (tl rfl (ptr [i64 a1, (sFc a2)]) (LOp.fap und27 rfl siz2 rfl rfl rfl) <|
    (tl rfl (i64 a1) (y2 agg2) <|
    (tl rfl (i64 x2) (LOp.eqr (LOp.mul rfl rfl rfl) (congrArg (ik .i64) hx3)) <|
    (tl rfl (b true) (LOp.eqb (LOp.eql rfl rfl rfl) hc4) <|
    (tl rfl (b true) yq <|
    (tm rfl (b true) <|
    (tm rfl (ptr (mXc a0 a1 a2)) <|
    (tl rfl (ptr (mXc a0 a1 a2)) (LOp.nilCheck_ptr rfl rfl) <|
    (tl rfl (ptr [(sFc a2)]) (LOp.fap und27 rfl siz25 rfl rfl rfl) <|
    (tl rfl (sFc a2) (y2 agg25) <|
    (TR.d (r := b r3) (fs := []) rfl rfl (yc ent105 rfl rfl (bS bN) (s_l02Finite_ok a2 r3 hf5)) <|
    (tl rfl (b r3) yq <|
    (tl rfl (b r3) (LOp.assign rfl rfl) <|
    TR.nil)))))))))))))))))))))))))))))))))) rfl (by kernel_rfl) rfl fills_nil rfl ?_
   iterate 34 refine ROps.dropS ?_
   refine ROps.drop0<|zN ?_
   refine RunC.ret ?_
   have hq := oI h
   subst q0
   exact bodyQ.pure (.inr rfl) rfl (Res.one rfl (RV.tmp rfl))
  ·refine RunC.region_draw (Γ' := []) 34 mixed 
    (tm rfl (ptr (mXc a0 a1 a2)) <|
    (tl rfl (ptr (mXc a0 a1 a2)) (LOp.nilCheck_ptr rfl rfl) <|
    (tl rfl (ptr (mXc a0 a1 a2)) (LOp.fap und27 rfl siz2 rfl rfl rfl) <|
    (tl rfl (i64 a0) (y2 agg2) <|
    (tm rfl (ptr (mXc a0 a1 a2)) <|
    (tl rfl (ptr (mXc a0 a1 a2)) (LOp.nilCheck_ptr rfl rfl) <|
    (tl rfl (ptr [i64 a1, (sFc a2)]) (LOp.fap und27 rfl siz2 rfl rfl rfl) <|
    (tl rfl (i64 a1) (y2 agg2) <|
    (TR.d (r := b true) (fs := []) rfl rfl (TOp.eqb (yc ent104 rfl rfl (bP bN0) (s_l02Sides_ok a0 a1 r1 hf1)) hc2) <|
    (tm rfl (b true) <|
    (tm rfl (ptr (mXc a0 a1 a2)) <|
    (tl rfl (ptr (mXc a0 a1 a2)) (LOp.nilCheck_ptr rfl rfl) <|
    (tl rfl (ptr [(sFc a2)]) (LOp.fap und27 rfl siz25 rfl rfl rfl) <|
    (tl rfl (sFc a2) (y2 agg25) <|
    (tl rfl (i64 (a2.length : Int)) (LOp.len_sl und25 rfl rfl) <|
    (tm rfl (ptr (mXc a0 a1 a2)) <|
    (tl rfl (ptr (mXc a0 a1 a2)) (LOp.nilCheck_ptr rfl rfl) <|
    (tl rfl (ptr (mXc a0 a1 a2)) (LOp.fap und27 rfl siz2 rfl rfl rfl) <|
    (tl rfl (i64 a0) (y2 agg2) <|
    (tm rfl (ptr (mXc a0 a1 a2)) <|
    (tl rfl (ptr (mXc a0 a1 a2)) (LOp.nilCheck_ptr rfl rfl) <|
    (tl rfl (ptr [i64 a1, (sFc a2)]) (LOp.fap und27 rfl siz2 rfl rfl rfl) <|
    (tl rfl (i64 a1) (y2 agg2) <|
    (tl rfl (i64 x2) (LOp.eqr (LOp.mul rfl rfl rfl) (congrArg (ik .i64) hx3)) <|
    (tl rfl (b false) (LOp.eqb (LOp.eql rfl rfl rfl) hc4) <|
    (tl rfl (b false) yq <|
    (tm rfl (b false) <|
    (ts rfl <|
    (ts rfl <|
    (ts rfl <|
    (ts rfl <|
    (ts rfl <|
    (tl rfl (b false) yp <|
    (tl rfl (b false) (LOp.assign rfl rfl) <|
    TR.nil)))))))))))))))))))))))))))))))))) rfl (by kernel_rfl) rfl fills_nil rfl ?_
   iterate 34 refine ROps.dropS ?_
   refine ROps.drop0<|zN ?_
   refine RunC.ret ?_
   have hq := oI h
   subst q0
   exact bodyQ.pure (.inr rfl) rfl (Res.one rfl (RV.tmp rfl))
 ·refine RunC.region_draw (Γ' := []) 34 mixed 
   (tm rfl (ptr (mXc a0 a1 a2)) <|
   (tl rfl (ptr (mXc a0 a1 a2)) (LOp.nilCheck_ptr rfl rfl) <|
   (tl rfl (ptr (mXc a0 a1 a2)) (LOp.fap und27 rfl siz2 rfl rfl rfl) <|
   (tl rfl (i64 a0) (y2 agg2) <|
   (tm rfl (ptr (mXc a0 a1 a2)) <|
   (tl rfl (ptr (mXc a0 a1 a2)) (LOp.nilCheck_ptr rfl rfl) <|
   (tl rfl (ptr [i64 a1, (sFc a2)]) (LOp.fap und27 rfl siz2 rfl rfl rfl) <|
   (tl rfl (i64 a1) (y2 agg2) <|
   (TR.d (r := b false) (fs := []) rfl rfl (TOp.eqb (yc ent104 rfl rfl (bP bN0) (s_l02Sides_ok a0 a1 r1 hf1)) hc2) <|
   (tm rfl (b false) <|
   (ts rfl <|
   (ts rfl <|
   (ts rfl <|
   (ts rfl <|
   (ts rfl <|
   (ts rfl <|
   (ts rfl <|
   (ts rfl <|
   (ts rfl <|
   (ts rfl <|
   (ts rfl <|
   (ts rfl <|
   (ts rfl <|
   (ts rfl <|
   (ts rfl <|
   (tl rfl (b false) yp <|
   (tm rfl (b false) <|
   (ts rfl <|
   (ts rfl <|
   (ts rfl <|
   (ts rfl <|
   (ts rfl <|
   (tl rfl (b false) yp <|
   (tl rfl (b false) (LOp.assign rfl rfl) <|
   TR.nil)))))))))))))))))))))))))))))))))) rfl (by kernel_rfl) rfl fills_nil rfl ?_
  iterate 34 refine ROps.dropS ?_
  refine ROps.drop0<|zN ?_
  refine RunC.ret ?_
  have hq := oI h
  subst q0
  exact bodyQ.pure (.inr rfl) rfl (Res.one rfl (RV.tmp rfl))
def s_l02Square (a0 : Int) (a1 : Int) (a2 : List F) : Option (Bool) :=
 obind (s_l02Is a0 a1 a2) fun (r1 : Bool) =>
 bsel r1 (
  some (decide (a0 = a1))) (
  some false)
theorem s_l02Square_ok (a0 : Int) (a1 : Int) (a2 : List F) (q0 : Bool) (h : s_l02Square a0 a1 a2 = some q0) : Ev Tryz.prog 83 [ptr (mXc a0 a1 a2)] [] (b q0) [] := by
 refine yE Tryz.func83 0 33 0 [(0, ptr (mXc a0 a1 a2))] [] rfl ?_
 unfold s_l02Square at h
 refine zQ<|ya rfl (b false)<|zN ?_
 refine yS ?_
 obtain ⟨r1, hf1, h⟩ := oS h
 rcases oB h with ⟨hc2, h⟩ | ⟨hc2, h⟩
 ·refine RunC.region_draw (Γ' := []) 14 mixed 
   (tm rfl (ptr (mXc a0 a1 a2)) <|
   (TR.d (r := b true) (fs := []) rfl rfl (TOp.eqb (TOp.callB (CallAs.func ent59 rfl rfl) (Bors.cons (Bor.ptr (bP (bP (bS bN)))) bN) rfl rfl (s_l02Is_ok a0 a1 a2 r1 hf1)) hc2) <|
   (tm rfl (b true) <|
   (tm rfl (ptr (mXc a0 a1 a2)) <|
   (tl rfl (ptr (mXc a0 a1 a2)) (LOp.nilCheck_ptr rfl rfl) <|
   (tl rfl (ptr (mXc a0 a1 a2)) (LOp.fap und27 rfl siz2 rfl rfl rfl) <|
   (tl rfl (i64 a0) (y2 agg2) <|
   (tm rfl (ptr (mXc a0 a1 a2)) <|
   (tl rfl (ptr (mXc a0 a1 a2)) (LOp.nilCheck_ptr rfl rfl) <|
   (tl rfl (ptr [i64 a1, (sFc a2)]) (LOp.fap und27 rfl siz2 rfl rfl rfl) <|
   (tl rfl (i64 a1) (y2 agg2) <|
   (tl rfl (b (decide (a0 = a1))) (LOp.eql rfl rfl rfl) <|
   (tl rfl (b (decide (a0 = a1))) yq <|
   (tl rfl (b (decide (a0 = a1))) (LOp.assign rfl rfl) <|
   TR.nil)))))))))))))) rfl (by kernel_rfl) rfl fills_nil rfl ?_
  iterate 14 refine ROps.dropS ?_
  refine ROps.drop0<|zN ?_
  refine RunC.ret ?_
  have hq := oI h
  subst q0
  exact bodyQ.pure (.inr rfl) rfl (Res.one rfl (RV.tmp rfl))
 ·refine RunC.region_draw (Γ' := []) 14 mixed 
   (tm rfl (ptr (mXc a0 a1 a2)) <|
   (TR.d (r := b false) (fs := []) rfl rfl (TOp.eqb (TOp.callB (CallAs.func ent59 rfl rfl) (Bors.cons (Bor.ptr (bP (bP (bS bN)))) bN) rfl rfl (s_l02Is_ok a0 a1 a2 r1 hf1)) hc2) <|
   (tm rfl (b false) <|
   (ts rfl <|
   (ts rfl <|
   (ts rfl <|
   (ts rfl <|
   (ts rfl <|
   (ts rfl <|
   (ts rfl <|
   (ts rfl <|
   (ts rfl <|
   (tl rfl (b false) yp <|
   (tl rfl (b false) (LOp.assign rfl rfl) <|
   TR.nil)))))))))))))) rfl (by kernel_rfl) rfl fills_nil rfl ?_
  iterate 14 refine ROps.dropS ?_
  refine ROps.drop0<|zN ?_
  refine RunC.ret ?_
  have hq := oI h
  subst q0
  exact bodyQ.pure (.inr rfl) rfl (Res.one rfl (RV.tmp rfl))
def s_l02Own (a0 : Int) (a1 : Int) (a2 : List F) : Option (Int × Int × (List F)) :=
 need (apok 4 0 a2.length) <|
 some (a0, a1, (([] : List F) ++ a2))
theorem s_l02Own_ok (a0 : Int) (a1 : Int) (a2 : List F) (q0 : Int) (q1 : Int) (q2 : List F) (h : s_l02Own a0 a1 a2 = some (q0, q1, q2)) : Ev Tryz.prog 84 [ptr (mXc a0 a1 a2)] [] (agg (oXc q0 q1 0 0 q2.length)) [⟨0, some (q2.map f32)⟩] := by
 refine yE Tryz.func84 2 37 0 [(0, ptr (mXc a0 a1 a2))] [⟨0, none⟩, ⟨0, none⟩] rfl ?_
 unfold s_l02Own at h
 refine zQ<|ye rfl (optr 0 1 0) [⟨1, some zMx⟩, ⟨0, none⟩] (TOp.alloc_o (g := ⟨0, none⟩) 0 rfl zer27 zok27 rfl)<|zN ?_
 refine yS ?_
 obtain ⟨hm1, h⟩ := need_some h
 refine RunC.region_draw (Γ' := [⟨1, some zMx⟩, ⟨1, some (([] : List F).map f32)⟩]) 13 mixed 
  (TR.loose (r := ptr (mXc a0 a1 a2)) rfl rfl (LOp.move rfl rfl) <|
  (TR.loose (r := ptr (mXc a0 a1 a2)) rfl rfl (LOp.nilCheck_ptr rfl rfl) <|
  (TR.loose (r := ptr (mXc a0 a1 a2)) rfl rfl (LOp.fap und27 rfl siz2 rfl rfl rfl) <|
  (TR.loose (r := i64 a0) rfl rfl (y2 agg2) <|
  (TR.loose (r := ptr (mXc a0 a1 a2)) rfl rfl (LOp.move rfl rfl) <|
  (TR.loose (r := ptr (mXc a0 a1 a2)) rfl rfl (LOp.nilCheck_ptr rfl rfl) <|
  (TR.loose (r := ptr [i64 a1, (sFc a2)]) rfl rfl (LOp.fap und27 rfl siz2 rfl rfl rfl) <|
  (TR.loose (r := i64 a1) rfl rfl (y2 agg2) <|
  (TR.d (r := oref 1 1 0 0) (fs := [(1, (([] : List F).map f32))]) rfl rfl (TOp.buildSlice_o (g := ⟨0, none⟩) (za := f32 (some 0)) (qs := []) 1 rfl und25 siz41 zer41 rfl zel41 rfl rfl trivial rfl) <|
  (tm rfl (ptr (mXc a0 a1 a2)) <|
  (tl rfl (ptr (mXc a0 a1 a2)) (LOp.nilCheck_ptr rfl rfl) <|
  (tl rfl (ptr [(sFc a2)]) (LOp.fap und27 rfl siz25 rfl rfl rfl) <|
  (tl rfl (sFc a2) (y2 agg25) <|
  TR.nil))))))))))))) rfl (by kernel_rfl) rfl (fills_of (by show List.Nodup [1]; decide) ⟨⟨_, rfl⟩, trivial⟩) rfl ?_
 iterate 13 refine ROps.dropS ?_
 refine ROps.drop0<|ROps.app (f := f32) (xs := ([] : List F)) (ys := a2) (Γ' := [⟨1, some zMx⟩, ⟨2, some ((([] : List F) ++ a2).map f32)⟩]) rfl pun25 inf41 rfl rfl rfl rfl rfl rfl rfl rfl rfl (by simp) (ReadAs.sl (by simp)) (ones_map (fun _ => rfl)) (ap_by hm1) (ap_mx hm1) rfl<|yl rfl (agg [i64 a0, i64 a1, oref 1 2 0 (0 + a2.length)]) (LOp.build (qs := [(0, [i64 a0]), (1, [i64 a1]), (2, [oref 1 2 0 (0 + a2.length)])]) zer27 zok27 und27 plc27 rfl ⟨rfl, ⟨_, ALe.refl _, rfl⟩, ⟨rfl, ⟨_, ALe.refl _, rfl⟩, ⟨rfl, ⟨_, ALe.refl _, rfl⟩, trivial⟩⟩⟩ rfl)<|ys (agg [i64 a0, i64 a1, oref 1 2 0 (0 + a2.length)]) [i64 a0, i64 a1, oref 1 2 0 (0 + a2.length)] ([⟨1, some [i64 a0, i64 a1, oref 1 2 0 (0 + a2.length)]⟩, ⟨2, some ((([] : List F) ++ a2).map f32)⟩]) siz27<|zN ?_
 refine RunC.ret ?_
 have hq := oI h
 obtain ⟨hq0, hq⟩ := Prod.mk.inj hq
 obtain ⟨hq1, hq⟩ := Prod.mk.inj hq
 subst q0
 subst q1
 subst q2
 exact yB (agg [i64 a0, i64 a1, oref 1 2 0 ((([] : List F) ++ a2).length)]) [(1, 2)] (Res.eq (Res.one rfl (RV.cell agg27 siz27 rfl rfl rfl rfl)) (by rw [(show (([] : List F) ++ a2).length = (0 + a2.length) from (app_len rfl rfl))] <;> rfl)) (SelL.arr0 (f := f32) (fun _ => rfl) rfl trivial)
def s_l03Count_b1 (a0 : Int) (L3 : List Int) (v4 : Int) : Option (LR ((List Int) × Int) ((List Int)) ((List Int))) :=
 bsel (decide (v4 < a0)) (
  need (apok 8 L3.length 1) <|
  olet (IntKind.i64.wrap (v4 + 1)) fun (x5 : Int) =>
  some (LR.next ((L3 ++ ([v4] : List Int)), x5))) (
  some (LR.out L3))
def s_l03Count_s1 (a0 : Int) : ((List Int) × Int) → Option (LR ((List Int) × Int) ((List Int)) ((List Int))) := fun s => s_l03Count_b1 a0 s.1 s.2
def s_l03Count_k1 (L8 : List Int) : Option ((List Int)) :=
 some L8
def s_l03Count (a0 : Int) : Option ((List Int)) :=
 obind (loopM (s_l03Count_s1 a0) (([] : List Int), 0)) fun z => osum z (fun e => s_l03Count_k1 e) (fun r => some r)
theorem s_l03Count_ok (a0 : Int) (q0 : List Int) (h : s_l03Count a0 = some q0) : Ev Tryz.prog 85 [i64 a0] [] (oref 0 0 0 q0.length) [⟨0, some (q0.map i64)⟩] := by
 refine yE Tryz.func85 2 33 0 [(0, i64 a0)] [⟨0, none⟩, ⟨0, none⟩] rfl ?_
 unfold s_l03Count at h
 refine zQ<|ya rfl nilsl<|zN ?_
 refine zQ<|ye rfl (oref 0 1 0 0) ([⟨1, some (([] : List Int).map i64)⟩, ⟨0, none⟩]) (TOp.buildSlice_o (g := ⟨0, none⟩) (za := i64 0) (qs := []) 0 rfl und30 siz2 zer2 rfl zel2 rfl rfl trivial rfl)<|ya rfl (oref 0 1 0 0)<|zN ?_
 refine yS<|zQ<|ya rfl (i64 0)<|zN ?_
 obtain ⟨z2, hz_2, h⟩ := oS h
 refine RunC.cutN (fun τ Γ => ∃ (L8 : List Int) (u6 : Nat) (u7 : Nat), WeakLe τ [(3, oref 0 u6 0 L8.length)] ∧ DeadLe Γ [⟨u6, some (L8.map i64)⟩, ⟨u7, none⟩] ∧ z2 = .inl L8) ?_ ?_
 ·refine RunC.block (RunC.loop (RunL.loopM (x := z2) (s_l03Count_s1 a0) (fun (s : (List Int) × Int) τ Γ => ∃ (u1 : Nat) (u2 : Nat), WeakLe τ [(0, i64 a0), (3, oref 0 u1 0 s.1.length), (4, i64 s.2)] ∧ DeadLe Γ [⟨u1, some (s.1.map i64)⟩, ⟨u2, none⟩]) ?_ _ _ _ hz_2 ⟨1, 0, ⟨aR, aR, aR, trivial⟩, ⟨⟨rfl, .inr rfl⟩, ⟨rfl, .inl rfl⟩, trivial⟩⟩))
  rintro ⟨L3, v4⟩ τ2 Γ2 y2_ ⟨u1, u2, hw2, hd2⟩ h2_ ho2 hr2
  refine RunC.wl (τ' := [(0, i64 a0), (3, oref 0 u1 0 L3.length), (4, i64 v4)]) (Γ' := [⟨u1, some (L3.map i64)⟩, ⟨u2, none⟩]) hw2 hd2 ?_
  replace h2_ : s_l03Count_b1 a0 L3 v4 = some y2_ := h2_
  unfold s_l03Count_b1 at h2_
  refine yS<|yS ?_
  rcases oB h2_ with ⟨hc1, h2_⟩ | ⟨hc1, h2_⟩
  ·refine yW<|ym rfl (i64 v4)<|ym rfl (i64 a0)<|yl rfl (b true) (LOp.eqb (LOp.lss rfl rfl rfl) hc1)<|zN ?_
   refine yT<|RunC.skip<|yS<|RunC.block ?_
   obtain ⟨hm2, h2_⟩ := need_some h2_
   refine yW<|ym rfl (oref 0 u1 0 L3.length)<|ym rfl (i64 v4)<|ye rfl (oref 1 (u2 + 1) 0 1) ([⟨u1, some (L3.map i64)⟩, ⟨(u2 + 1), some (([v4] : List Int).map i64)⟩]) (TOp.buildSlice_o (g := ⟨u2, none⟩) (za := i64 0) (qs := [(0, [i64 v4])]) 1 rfl und30 siz2 zer2 rfl zel2 rfl rfl ⟨rfl, ⟨_, ALe.refl _, rfl⟩, trivial⟩ rfl)<|ROps.app (f := i64) (xs := L3) (ys := ([v4] : List Int)) (Γ' := [⟨(u1 + 1), some ((L3 ++ ([v4] : List Int)).map i64)⟩, ⟨(u2 + 1), some (([v4] : List Int).map i64)⟩]) rfl pun30 inf2 rfl rfl rfl rfl rfl rfl rfl rfl rfl (by simp) (ReadAs.own rfl (by simp)) (ones_map (fun _ => rfl)) (ap_by hm2) (ap_mx hm2) rfl<|ya rfl (oref 0 (u1 + 1) 0 (L3.length + 1))<|zN ?_
   refine RunC.wl (τ' := [(0, i64 a0), (3, oref 0 (u1 + 1) 0 (L3.length + 1)), (4, i64 v4)]) (Γ' := [⟨(u1 + 1), some ((L3 ++ ([v4] : List Int)).map i64)⟩, ⟨(u2 + 1), none⟩]) ⟨aR, aR, aR, trivial⟩ ⟨⟨rfl, .inr rfl⟩, ⟨rfl, .inl rfl⟩, trivial⟩ ?_
   obtain ⟨x5, hx3, h2_⟩ := oL h2_
   refine yW<|ym rfl (i64 v4)<|yl rfl (i64 x5) (LOp.eqr (LOp.add rfl rfl rfl) (congrArg (ik .i64) hx3))<|ya rfl (i64 x5)<|zN ?_
   cases oI h2_
   exact ⟨_, rfl, (u1 + 1), (u2 + 1), ⟨aR, (ALe.eq (by rw [(app_len rfl rfl)] <;> rfl)), aR, trivial⟩, ⟨⟨rfl, .inr rfl⟩, ⟨rfl, .inl rfl⟩, trivial⟩⟩
  ·refine yW<|ym rfl (i64 v4)<|ym rfl (i64 a0)<|yl rfl (b false) (LOp.eqb (LOp.lss rfl rfl rfl) hc1)<|zN ?_
   refine yF<|RunC.exit ?_
   cases oI h2_
   have hx := ho2 _ rfl
   exact ⟨L3, u1, u2, ⟨aR, trivial⟩, ⟨⟨rfl, .inr rfl⟩, ⟨rfl, .inl rfl⟩, trivial⟩, hx⟩
 ·rintro τ3 Γ3 ⟨L8, u6, u7, hw3, hd3, rfl⟩
  refine RunC.wl hw3 hd3 ?_
  replace h : s_l03Count_k1 L8 = some q0 := h
  unfold s_l03Count_k1 at h
  refine zQ<|ym rfl (oref 0 u6 0 L8.length)<|ya rfl (oref 0 u6 0 L8.length)<|zN ?_
  refine RunC.ret ?_
  have hq := oI h
  subst q0
  exact bodyQ.mk (r' := oref 0 u6 0 L8.length) [(0, u6)] (.inr rfl) rfl (ndB_ok rfl) (by simp [ren, rens, sigma]) rfl (Res.one rfl (RV.tmp rfl)) (SelL.arr0 (f := i64) (fun _ => rfl) rfl trivial)
def s_l02At (a0 : Int) (a1 : Int) (a2 : List F) (a3 : Int) (a4 : Int) : Option (F) :=
 olet (IntKind.i64.wrap (a3 * a1)) fun (x1 : Int) =>
 olet (IntKind.i64.wrap (x1 + a4)) fun (x2 : Int) =>
 obind (at? a2 x2) fun (e3 : F) =>
 some e3
theorem s_l02At_ok (a0 : Int) (a1 : Int) (a2 : List F) (a3 : Int) (a4 : Int) (q0 : F) (h : s_l02At a0 a1 a2 a3 a4 = some q0) : Ev Tryz.prog 87 [ptr (mXc a0 a1 a2), i64 a3, i64 a4] [] (f32 q0) [] := by
 refine yE Tryz.func87 0 43 0 [(0, ptr (mXc a0 a1 a2)), (1, i64 a3), (2, i64 a4)] [] rfl ?_
 unfold s_l02At at h
 refine zQ<|yl rfl (f32 (some 0)) (LOp.le (LOp.assign rfl rfl) (ALe.fl (by kernel_rfl) (by kernel_rfl)))<|zN ?_
 refine yS ?_
 obtain ⟨x1, hx1, h⟩ := oL h
 obtain ⟨x2, hx2, h⟩ := oL h
 obtain ⟨e3, he3, h⟩ := oS h
 refine RunC.region_draw (Γ' := []) 15 mixed 
  (tm rfl (ptr (mXc a0 a1 a2)) <|
  (tl rfl (ptr (mXc a0 a1 a2)) (LOp.nilCheck_ptr rfl rfl) <|
  (tl rfl (ptr [(sFc a2)]) (LOp.fap und27 rfl siz25 rfl rfl rfl) <|
  (tl rfl (sFc a2) (y2 agg25) <|
  (tm rfl (i64 a3) <|
  (tm rfl (ptr (mXc a0 a1 a2)) <|
  (tl rfl (ptr (mXc a0 a1 a2)) (LOp.nilCheck_ptr rfl rfl) <|
  (tl rfl (ptr [i64 a1, (sFc a2)]) (LOp.fap und27 rfl siz2 rfl rfl rfl) <|
  (tl rfl (i64 a1) (y2 agg2) <|
  (tl rfl (i64 x1) (LOp.eqr (LOp.mul rfl rfl rfl) (congrArg (ik .i64) hx1)) <|
  (tm rfl (i64 a4) <|
  (tl rfl (i64 x2) (LOp.eqr (LOp.add rfl rfl rfl) (congrArg (ik .i64) hx2)) <|
  (tl rfl (ptr [f32 e3]) (LOp.le (LOp.ix (f := f32) und25 siz41 rfl rfl rfl rfl he3) ALe.ptr) <|
  (tl rfl (f32 e3) (y2 agg41) <|
  (tl rfl (f32 e3) (LOp.assign rfl rfl) <|
  TR.nil))))))))))))))) rfl (by kernel_rfl) rfl fills_nil rfl ?_
 iterate 15 refine ROps.dropS ?_
 refine ROps.drop0<|zN ?_
 refine RunC.ret ?_
 have hq := oI h
 subst q0
 exact bodyQ.pure (.inr rfl) rfl (Res.one rfl (RV.tmp rfl))
def s_l02Size (a0 : F) : Option (F) :=
 bsel (fle .f32 a0 (some 0)) (
  olet (fop .sub .f32 (some 0) a0) fun (x1 : F) =>
  some x1) (
  some a0)
theorem s_l02Size_ok (a0 : F) (q0 : F) (h : s_l02Size a0 = some q0) : Ev Tryz.prog 114 [f32 a0] [] (f32 q0) [] := by
 refine yE Tryz.func114 0 17 0 [(0, f32 a0)] [] rfl ?_
 unfold s_l02Size at h
 refine zQ<|yl rfl (f32 (some 0)) (LOp.le (LOp.assign rfl rfl) (ALe.fl (by kernel_rfl) (by kernel_rfl)))<|zN ?_
 refine yS<|yS ?_
 rcases oB h with ⟨hc1, h⟩ | ⟨hc1, h⟩
 ·refine yW<|ym rfl (f32 a0)<|yl rfl (b true) (LOp.eqb (LOp.fle rfl (OpF.tmp rfl) (OpF.const rfl (by kernel_rfl) (by kernel_rfl))) hc1)<|zN ?_
  refine yT<|yS ?_
  obtain ⟨x1, hx2, h⟩ := oL h
  refine yW<|ym rfl (f32 a0)<|yd rfl (f32 x1) (TOp.eqr (TOp.fop (.inr (.inl rfl)) rfl (OpF.const rfl (by kernel_rfl) (by kernel_rfl)) (OpF.tmp rfl)) (congrArg (f .f32) hx2))<|ya rfl (f32 x1)<|zN ?_
  refine RunC.ret ?_
  have hq := oI h
  subst q0
  exact bodyQ.pure (.inr rfl) rfl (Res.one rfl (RV.tmp rfl))
 ·refine yW<|ym rfl (f32 a0)<|yl rfl (b false) (LOp.eqb (LOp.fle rfl (OpF.tmp rfl) (OpF.const rfl (by kernel_rfl) (by kernel_rfl))) hc1)<|zN ?_
  refine yF<|RunC.skip<|zQ<|ym rfl (f32 a0)<|ya rfl (f32 a0)<|zN ?_
  refine RunC.ret ?_
  have hq := oI h
  subst q0
  exact bodyQ.pure (.inr rfl) rfl (Res.one rfl (RV.tmp rfl))
def s_l03Find_k2 (v3 : Int) (v8 : Int) : Option (LR (Int × Int) (Int) (Int)) :=
 olet (IntKind.i64.wrap (v3 + 1)) fun (x9 : Int) =>
 some (LR.next (v8, x9))
def s_l03Find_b3 (a0 : Int) (a1 : Int) (a2 : List F) (a3 : Int) (v2 : Int) (v3 : Int) : Option (LR (Int × Int) (Int) (Int)) :=
 bsel (decide (v3 < a0)) (
  obind (s_l02At a0 a1 a2 v3 a3) fun (r4 : F) =>
  obind (s_l02Size r4) fun (r5 : F) =>
  obind (s_l02At a0 a1 a2 v2 a3) fun (r6 : F) =>
  obind (s_l02Size r6) fun (r7 : F) =>
  bsel (flt .f32 r7 r5) (
   s_l03Find_k2 v3 v3) (
   s_l03Find_k2 v3 v2)) (
  some (LR.out v2))
def s_l03Find_s3 (a0 : Int) (a1 : Int) (a2 : List F) (a3 : Int) : (Int × Int) → Option (LR (Int × Int) (Int) (Int)) := fun s => s_l03Find_b3 a0 a1 a2 a3 s.1 s.2
def s_l03Find_k3 (v10 : Int) : Option (Int) :=
 some v10
def s_l03Find (a0 : Int) (a1 : Int) (a2 : List F) (a3 : Int) : Option (Int) :=
 olet (IntKind.i64.wrap (a3 + 1)) fun (x1 : Int) =>
 obind (loopM (s_l03Find_s3 a0 a1 a2 a3) (a3, x1)) fun z => osum z (fun e => s_l03Find_k3 e) (fun r => some r)
theorem s_l03Find_ok (a0 : Int) (a1 : Int) (a2 : List F) (a3 : Int) (q0 : Int) (h : s_l03Find a0 a1 a2 a3 = some q0) : Ev Tryz.prog 86 [ptr (mXc a0 a1 a2), i64 a3] [] (i64 q0) [] := by
 refine yE Tryz.func86 0 63 0 [(0, ptr (mXc a0 a1 a2)), (1, i64 a3)] [] rfl ?_
 unfold s_l03Find at h
 refine zQ<|ya rfl (i64 0)<|zN ?_
 refine zQ<|ym rfl (i64 a3)<|ya rfl (i64 a3)<|zN ?_
 refine yS<|yS ?_
 obtain ⟨x1, hx1, h⟩ := oL h
 refine yW<|ym rfl (i64 a3)<|yl rfl (i64 x1) (LOp.eqr (LOp.add rfl rfl rfl) (congrArg (ik .i64) hx1))<|ya rfl (i64 x1)<|zN ?_
 obtain ⟨z4, hz_4, h⟩ := oS h
 refine RunC.cutN (fun τ Γ => ∃ (v10 : Int), WeakLe τ [(5, i64 v10)] ∧ DeadLe Γ [] ∧ z4 = .inl v10) ?_ ?_
 ·refine RunC.block (RunC.loop (RunL.loopM (x := z4) (s_l03Find_s3 a0 a1 a2 a3) (fun (s : Int × Int) τ Γ => WeakLe τ [(0, ptr (mXc a0 a1 a2)), (1, i64 a3), (5, i64 s.1), (6, i64 s.2)] ∧ DeadLe Γ []) ?_ _ _ _ hz_4 ⟨⟨aR, aR, aR, aR, trivial⟩, trivial⟩))
  rintro ⟨v2, v3⟩ τ4 Γ4 y4_ ⟨hw4, hd4⟩ h4_ ho4 hr4
  refine RunC.wl (τ' := [(0, ptr (mXc a0 a1 a2)), (1, i64 a3), (5, i64 v2), (6, i64 v3)]) (Γ' := []) hw4 hd4 ?_
  replace h4_ : s_l03Find_b3 a0 a1 a2 a3 v2 v3 = some y4_ := h4_
  unfold s_l03Find_b3 at h4_
  refine yS<|yS ?_
  rcases oB h4_ with ⟨hc2, h4_⟩ | ⟨hc2, h4_⟩
  ·refine yW<|ym rfl (i64 v3)<|ym rfl (ptr (mXc a0 a1 a2))<|yl rfl (ptr (mXc a0 a1 a2)) (LOp.nilCheck_ptr rfl rfl)<|yl rfl (ptr (mXc a0 a1 a2)) (LOp.fap und27 rfl siz2 rfl rfl rfl)<|yl rfl (i64 a0) (y2 agg2)<|yl rfl (b true) (LOp.eqb (LOp.lss rfl rfl rfl) hc2)<|zN ?_
   refine yT<|RunC.skip<|yS<|RunC.cutN (fun τ Γ => ∃ (v8 : Int), WeakLe τ [(0, ptr (mXc a0 a1 a2)), (1, i64 a3), (5, i64 v8), (6, i64 v3)] ∧ DeadLe Γ [] ∧ s_l03Find_k2 v3 v8 = some y4_) ?_ ?_
   ·refine RunC.block<|yS ?_
    obtain ⟨r4, hf3, h4_⟩ := oS h4_
    obtain ⟨r5, hf4, h4_⟩ := oS h4_
    obtain ⟨r6, hf5, h4_⟩ := oS h4_
    obtain ⟨r7, hf6, h4_⟩ := oS h4_
    rcases oB h4_ with ⟨hc7, h4_⟩ | ⟨hc7, h4_⟩
    ·refine yW<|ym rfl (ptr (mXc a0 a1 a2))<|ym rfl (i64 v3)<|ym rfl (i64 a3)<|yd rfl (f32 r4) (TOp.callB (CallAs.func ent87 rfl rfl) (Bors.cons (Bor.ptr (bP (bP (bS bN)))) (bP bN0)) rfl rfl (s_l02At_ok a0 a1 a2 v3 a3 r4 hf3))<|yd rfl (f32 r5) (yc ent114 rfl rfl bN0 (s_l02Size_ok r4 r5 hf4))<|ym rfl (ptr (mXc a0 a1 a2))<|ym rfl (i64 v2)<|ym rfl (i64 a3)<|yd rfl (f32 r6) (TOp.callB (CallAs.func ent87 rfl rfl) (Bors.cons (Bor.ptr (bP (bP (bS bN)))) (bP bN0)) rfl rfl (s_l02At_ok a0 a1 a2 v2 a3 r6 hf5))<|yd rfl (f32 r7) (yc ent114 rfl rfl bN0 (s_l02Size_ok r6 r7 hf6))<|yl rfl (b true) (LOp.eqb (LOp.fgt rfl (OpF.tmp rfl) (OpF.tmp rfl)) hc7)<|zN ?_
     refine RunC.wl (τ' := [(0, ptr (mXc a0 a1 a2)), (1, i64 a3), (5, i64 v2), (6, i64 v3), (28, b true)]) (Γ' := []) ⟨aR, aR, aR, aR, aR, trivial⟩ trivial<|yT<|yW<|ym rfl (i64 v3)<|ya rfl (i64 v3)<|zN ?_
     exact ⟨v3, ⟨aR, aR, aR, aR, trivial⟩, trivial, h4_⟩
    ·refine yW<|ym rfl (ptr (mXc a0 a1 a2))<|ym rfl (i64 v3)<|ym rfl (i64 a3)<|yd rfl (f32 r4) (TOp.callB (CallAs.func ent87 rfl rfl) (Bors.cons (Bor.ptr (bP (bP (bS bN)))) (bP bN0)) rfl rfl (s_l02At_ok a0 a1 a2 v3 a3 r4 hf3))<|yd rfl (f32 r5) (yc ent114 rfl rfl bN0 (s_l02Size_ok r4 r5 hf4))<|ym rfl (ptr (mXc a0 a1 a2))<|ym rfl (i64 v2)<|ym rfl (i64 a3)<|yd rfl (f32 r6) (TOp.callB (CallAs.func ent87 rfl rfl) (Bors.cons (Bor.ptr (bP (bP (bS bN)))) (bP bN0)) rfl rfl (s_l02At_ok a0 a1 a2 v2 a3 r6 hf5))<|yd rfl (f32 r7) (yc ent114 rfl rfl bN0 (s_l02Size_ok r6 r7 hf6))<|yl rfl (b false) (LOp.eqb (LOp.fgt rfl (OpF.tmp rfl) (OpF.tmp rfl)) hc7)<|zN ?_
     refine RunC.wl (τ' := [(0, ptr (mXc a0 a1 a2)), (1, i64 a3), (5, i64 v2), (6, i64 v3), (28, b false)]) (Γ' := []) ⟨aR, aR, aR, aR, aR, trivial⟩ trivial<|yF<|RunC.skip ?_
     exact ⟨v2, ⟨aR, aR, aR, aR, trivial⟩, trivial, h4_⟩
   ·rintro τ5 Γ5 ⟨v8, hw5, hd5, h4_⟩
    refine RunC.wl hw5 hd5 ?_
    unfold s_l03Find_k2 at h4_
    obtain ⟨x9, hx8, h4_⟩ := oL h4_
    refine yW<|ym rfl (i64 v3)<|yl rfl (i64 x9) (LOp.eqr (LOp.add rfl rfl rfl) (congrArg (ik .i64) hx8))<|ya rfl (i64 x9)<|zN ?_
    cases oI h4_
    exact ⟨_, rfl, ⟨aR, aR, aR, aR, trivial⟩, trivial⟩
  ·refine yW<|ym rfl (i64 v3)<|ym rfl (ptr (mXc a0 a1 a2))<|yl rfl (ptr (mXc a0 a1 a2)) (LOp.nilCheck_ptr rfl rfl)<|yl rfl (ptr (mXc a0 a1 a2)) (LOp.fap und27 rfl siz2 rfl rfl rfl)<|yl rfl (i64 a0) (y2 agg2)<|yl rfl (b false) (LOp.eqb (LOp.lss rfl rfl rfl) hc2)<|zN ?_
   refine yF<|RunC.exit ?_
   cases oI h4_
   have hx := ho4 _ rfl
   exact ⟨v2, ⟨aR, trivial⟩, trivial, hx⟩
 ·rintro τ6 Γ6 ⟨v10, hw6, hd6, rfl⟩
  refine RunC.wl hw6 hd6 ?_
  replace h : s_l03Find_k3 v10 = some q0 := h
  unfold s_l03Find_k3 at h
  refine zQ<|ym rfl (i64 v10)<|ya rfl (i64 v10)<|zN ?_
  refine RunC.ret ?_
  have hq := oI h
  subst q0
  exact bodyQ.pure (.inr rfl) rfl (Res.one rfl (RV.tmp rfl))
def s_l03Swap_0p0_C02o1_3o2_b1 (a0 : Int) (a1 : Int) (a3 : Int) (L1 : List F) (v3 : Int) : Option (LR ((List F) × Int) ((List F)) ((List F) × (List Int))) :=
 bsel (decide (v3 < a3)) (
  olet (IntKind.i64.wrap (a0 * a3)) fun (x4 : Int) =>
  olet (IntKind.i64.wrap (x4 + v3)) fun (x5 : Int) =>
  obind (at? L1 x5) fun (e6 : F) =>
  olet (IntKind.i64.wrap (a0 * a3)) fun (x7 : Int) =>
  olet (IntKind.i64.wrap (x7 + v3)) fun (x8 : Int) =>
  olet (IntKind.i64.wrap (a1 * a3)) fun (x9 : Int) =>
  olet (IntKind.i64.wrap (x9 + v3)) fun (x10 : Int) =>
  obind (at? L1 x10) fun (e11 : F) =>
  obind (setAt? L1 x8 e11) fun (L12 : List F) =>
  olet (IntKind.i64.wrap (a1 * a3)) fun (x13 : Int) =>
  olet (IntKind.i64.wrap (x13 + v3)) fun (x14 : Int) =>
  obind (setAt? L12 x14 e6) fun (L15 : List F) =>
  olet (IntKind.i64.wrap (v3 + 1)) fun (x16 : Int) =>
  some (LR.next (L15, x16))) (
  some (LR.out L1))
def s_l03Swap_0p0_C02o1_3o2_s1 (a0 : Int) (a1 : Int) (a3 : Int) : ((List F) × Int) → Option (LR ((List F) × Int) ((List F)) ((List F) × (List Int))) := fun s => s_l03Swap_0p0_C02o1_3o2_b1 a0 a1 a3 s.1 s.2
def s_l03Swap_0p0_C02o1_3o2_k1 (a5 : List Int) (L17 : List F) : Option ((List F) × (List Int)) :=
 some (L17, a5)
def s_l03Swap_0p0_C02o1_3o2 (a0 : Int) (a1 : Int) (a2 : Int) (a3 : Int) (a4 : List F) (a5 : List Int) : Option ((List F) × (List Int)) :=
 obind (loopM (s_l03Swap_0p0_C02o1_3o2_s1 a0 a1 a3) (a4, 0)) fun z => osum z (fun e => s_l03Swap_0p0_C02o1_3o2_k1 a5 e) (fun r => some r)
theorem s_l03Swap_0p0_C02o1_3o2_ok (a0 : Int) (a1 : Int) (a2 : Int) (a3 : Int) (a4 : List F) (a5 : List Int) (q0 : List F) (q1 : List Int) (h : s_l03Swap_0p0_C02o1_3o2 a0 a1 a2 a3 a4 a5 = some (q0, q1)) : Ev Tryz.prog 88 [optr 0 0 0, i64 a0, i64 a1] [⟨0, some [i64 a2, i64 a3, oref 1 0 0 a4.length, oref 2 0 0 a5.length]⟩, ⟨0, some (a4.map f32)⟩, ⟨0, some (a5.map i64)⟩] (tup []) [⟨0, some [i64 a2, i64 a3, oref 1 0 0 a4.length, oref 2 0 0 a5.length]⟩, ⟨0, some (q0.map f32)⟩, ⟨0, some (q1.map i64)⟩] := by
 refine Ev.start Tryz.func88 rfl rfl 0 (τ := [(0, optr 0 0 0), (1, i64 a0), (2, i64 a1)]) rfl (Γ' := [⟨0, some [i64 a2, i64 a3, oref 1 0 0 a4.length, oref 2 0 0 a5.length]⟩, ⟨0, some (a4.map f32)⟩, ⟨0, some (a5.map i64)⟩]) rfl (n := 142) rfl (g := 3) rfl (by decide) ?_
 unfold s_l03Swap_0p0_C02o1_3o2 at h
 refine zQ<|ya rfl (i64 0)<|zN ?_
 obtain ⟨z2, hz_2, h⟩ := oS h
 refine RunC.cutN (fun τ Γ => ∃ (L17 : List F), L17.length = a4.length ∧ WeakLe τ [] ∧ DeadLe Γ [⟨0, some [i64 a2, i64 a3, oref 1 0 0 a4.length, oref 2 0 0 a5.length]⟩, ⟨0, some (L17.map f32)⟩, ⟨0, some (a5.map i64)⟩] ∧ z2 = .inl L17) ?_ ?_
 ·refine RunC.block (RunC.loop (RunL.loopM (x := z2) (s_l03Swap_0p0_C02o1_3o2_s1 a0 a1 a3) (fun (s : (List F) × Int) τ Γ => s.1.length = a4.length ∧ WeakLe τ [(0, optr 0 0 0), (1, i64 a0), (2, i64 a1), (6, i64 s.2)] ∧ DeadLe Γ [⟨0, some [i64 a2, i64 a3, oref 1 0 0 a4.length, oref 2 0 0 a5.length]⟩, ⟨0, some (s.1.map f32)⟩, ⟨0, some (a5.map i64)⟩]) ?_ _ _ _ hz_2 ⟨rfl, ⟨aR, aR, aR, aR, trivial⟩, ⟨⟨rfl, .inr rfl⟩, ⟨rfl, .inr rfl⟩, ⟨rfl, .inr rfl⟩, trivial⟩⟩))
  rintro ⟨L1, v3⟩ τ2 Γ2 y2_ ⟨hl2, hw2, hd2⟩ h2_ ho2 hr2
  refine RunC.wl (τ' := [(0, optr 0 0 0), (1, i64 a0), (2, i64 a1), (6, i64 v3)]) (Γ' := [⟨0, some [i64 a2, i64 a3, oref 1 0 0 a4.length, oref 2 0 0 a5.length]⟩, ⟨0, some (L1.map f32)⟩, ⟨0, some (a5.map i64)⟩]) hw2 hd2 ?_
  replace hl2 : L1.length = a4.length := hl2
  replace h2_ : s_l03Swap_0p0_C02o1_3o2_b1 a0 a1 a3 L1 v3 = some y2_ := h2_
  unfold s_l03Swap_0p0_C02o1_3o2_b1 at h2_
  refine yS<|yS ?_
  rcases oB h2_ with ⟨hc1, h2_⟩ | ⟨hc1, h2_⟩
  ·refine yW<|ym rfl (i64 v3)<|ym rfl (optr 0 0 0)<|yl rfl (optr 0 0 0) (LOp.nilCheck_optr rfl rfl)<|yl rfl (optr 0 0 1) (LOp.fao und27 rfl siz2 rfl rfl rfl)<|yd rfl (i64 a3) (TOp.load1_o rfl rfl agg2 rfl rfl)<|yl rfl (b true) (LOp.eqb (LOp.lss rfl rfl rfl) hc1)<|zN ?_
   refine yT<|RunC.skip<|yS<|RunC.block<|yS ?_
   obtain ⟨x4, hx2, h2_⟩ := oL h2_
   obtain ⟨x5, hx3, h2_⟩ := oL h2_
   obtain ⟨e6, he4, h2_⟩ := oS h2_
   refine RunC.region_draw (Γ' := [⟨0, some [i64 a2, i64 a3, oref 1 0 0 a4.length, oref 2 0 0 a5.length]⟩, ⟨0, some (L1.map f32)⟩, ⟨0, some (a5.map i64)⟩]) 15 mixed 
    (tm rfl (optr 0 0 0) <|
    (tl rfl (optr 0 0 0) (LOp.nilCheck_optr rfl rfl) <|
    (tl rfl (optr 0 0 2) (LOp.fao und27 rfl siz25 rfl rfl rfl) <|
    (TR.d (r := oref 1 0 0 a4.length) (fs := []) rfl rfl (TOp.load1_o rfl rfl agg25 rfl rfl) <|
    (tm rfl (i64 a0) <|
    (tm rfl (optr 0 0 0) <|
    (tl rfl (optr 0 0 0) (LOp.nilCheck_optr rfl rfl) <|
    (tl rfl (optr 0 0 1) (LOp.fao und27 rfl siz2 rfl rfl rfl) <|
    (TR.d (r := i64 a3) (fs := []) rfl rfl (TOp.load1_o rfl rfl agg2 rfl rfl) <|
    (tl rfl (i64 x4) (LOp.eqr (LOp.mul rfl rfl rfl) (congrArg (ik .i64) hx2)) <|
    (tm rfl (i64 v3) <|
    (tl rfl (i64 x5) (LOp.eqr (LOp.add rfl rfl rfl) (congrArg (ik .i64) hx3)) <|
    (TR.d (r := optr 1 0 x5.toNat) (fs := []) rfl rfl (TOp.ixo und25 siz41 rfl rfl rfl (at_in he4 hl2) rfl) <|
    (TR.d (r := f32 e6) (fs := []) rfl rfl (TOp.load1_o rfl (at_cell he4) agg41 rfl rfl) <|
    (tl rfl (f32 e6) (LOp.assign rfl rfl) <|
    TR.nil))))))))))))))) rfl (by kernel_rfl) rfl fills_nil rfl ?_
   iterate 15 refine ROps.dropS ?_
   refine ROps.drop0<|zN ?_
   refine RunC.wl (τ' := [(0, optr 0 0 0), (1, i64 a0), (2, i64 a1), (6, i64 v3), (7, f32 e6)]) (Γ' := [⟨0, some [i64 a2, i64 a3, oref 1 0 0 a4.length, oref 2 0 0 a5.length]⟩, ⟨0, some (L1.map f32)⟩, ⟨0, some (a5.map i64)⟩]) ⟨aR, aR, aR, aR, aR, trivial⟩ ⟨⟨rfl, .inr rfl⟩, ⟨rfl, .inr rfl⟩, ⟨rfl, .inr rfl⟩, trivial⟩<|yS ?_
   obtain ⟨x7, hx5, h2_⟩ := oL h2_
   obtain ⟨x8, hx6, h2_⟩ := oL h2_
   obtain ⟨x9, hx7, h2_⟩ := oL h2_
   obtain ⟨x10, hx8, h2_⟩ := oL h2_
   obtain ⟨e11, he9, h2_⟩ := oS h2_
   obtain ⟨L12, he10, h2_⟩ := oS h2_
   refine RunC.region_draw (Γ' := [⟨0, some [i64 a2, i64 a3, oref 1 0 0 a4.length, oref 2 0 0 a5.length]⟩, ⟨0, some (L1.map f32)⟩, ⟨0, some (a5.map i64)⟩]) 27 mixed 
    (tm rfl (optr 0 0 0) <|
    (tl rfl (optr 0 0 0) (LOp.nilCheck_optr rfl rfl) <|
    (tl rfl (optr 0 0 2) (LOp.fao und27 rfl siz25 rfl rfl rfl) <|
    (TR.d (r := oref 1 0 0 a4.length) (fs := []) rfl rfl (TOp.load1_o rfl rfl agg25 rfl rfl) <|
    (tm rfl (i64 a0) <|
    (tm rfl (optr 0 0 0) <|
    (tl rfl (optr 0 0 0) (LOp.nilCheck_optr rfl rfl) <|
    (tl rfl (optr 0 0 1) (LOp.fao und27 rfl siz2 rfl rfl rfl) <|
    (TR.d (r := i64 a3) (fs := []) rfl rfl (TOp.load1_o rfl rfl agg2 rfl rfl) <|
    (tl rfl (i64 x7) (LOp.eqr (LOp.mul rfl rfl rfl) (congrArg (ik .i64) hx5)) <|
    (tm rfl (i64 v3) <|
    (tl rfl (i64 x8) (LOp.eqr (LOp.add rfl rfl rfl) (congrArg (ik .i64) hx6)) <|
    (tm rfl (optr 0 0 0) <|
    (tl rfl (optr 0 0 0) (LOp.nilCheck_optr rfl rfl) <|
    (tl rfl (optr 0 0 2) (LOp.fao und27 rfl siz25 rfl rfl rfl) <|
    (TR.d (r := oref 1 0 0 a4.length) (fs := []) rfl rfl (TOp.load1_o rfl rfl agg25 rfl rfl) <|
    (tm rfl (i64 a1) <|
    (tm rfl (optr 0 0 0) <|
    (tl rfl (optr 0 0 0) (LOp.nilCheck_optr rfl rfl) <|
    (tl rfl (optr 0 0 1) (LOp.fao und27 rfl siz2 rfl rfl rfl) <|
    (TR.d (r := i64 a3) (fs := []) rfl rfl (TOp.load1_o rfl rfl agg2 rfl rfl) <|
    (tl rfl (i64 x9) (LOp.eqr (LOp.mul rfl rfl rfl) (congrArg (ik .i64) hx7)) <|
    (tm rfl (i64 v3) <|
    (tl rfl (i64 x10) (LOp.eqr (LOp.add rfl rfl rfl) (congrArg (ik .i64) hx8)) <|
    (TR.d (r := optr 1 0 x10.toNat) (fs := []) rfl rfl (TOp.ixo und25 siz41 rfl rfl rfl (at_in he9 hl2) rfl) <|
    (TR.d (r := f32 e11) (fs := []) rfl rfl (TOp.load1_o rfl (at_cell he9) agg41 rfl rfl) <|
    (TR.d (r := optr 1 0 x8.toNat) (fs := []) rfl rfl (TOp.ixo und25 siz41 rfl rfl rfl (set_in he10 hl2) rfl) <|
    TR.nil))))))))))))))))))))))))))) rfl (by kernel_rfl) rfl fills_nil rfl ?_
   iterate 27 refine ROps.dropS ?_
   refine ROps.drop0<|ROps.st (f := f32) (i := x8) (Γ' := [⟨0, some [i64 a2, i64 a3, oref 1 0 0 a4.length, oref 2 0 0 a5.length]⟩, ⟨0, some (L12.map f32)⟩, ⟨0, some (a5.map i64)⟩]) rfl siz41 rfl rfl rfl aR rfl rfl rfl he10 rfl<|zN ?_
   refine RunC.wl (τ' := [(0, optr 0 0 0), (1, i64 a0), (2, i64 a1), (6, i64 v3), (7, f32 e6)]) (Γ' := [⟨0, some [i64 a2, i64 a3, oref 1 0 0 a4.length, oref 2 0 0 a5.length]⟩, ⟨0, some (L12.map f32)⟩, ⟨0, some (a5.map i64)⟩]) ⟨aR, aR, aR, aR, aR, trivial⟩ ⟨⟨rfl, .inr rfl⟩, ⟨rfl, .inr rfl⟩, ⟨rfl, .inr rfl⟩, trivial⟩ ?_
   obtain ⟨x13, hx11, h2_⟩ := oL h2_
   obtain ⟨x14, hx12, h2_⟩ := oL h2_
   obtain ⟨L15, he13, h2_⟩ := oS h2_
   refine RunC.region_draw (Γ' := [⟨0, some [i64 a2, i64 a3, oref 1 0 0 a4.length, oref 2 0 0 a5.length]⟩, ⟨0, some (L12.map f32)⟩, ⟨0, some (a5.map i64)⟩]) 14 mixed 
    (tm rfl (optr 0 0 0) <|
    (tl rfl (optr 0 0 0) (LOp.nilCheck_optr rfl rfl) <|
    (tl rfl (optr 0 0 2) (LOp.fao und27 rfl siz25 rfl rfl rfl) <|
    (TR.d (r := oref 1 0 0 a4.length) (fs := []) rfl rfl (TOp.load1_o rfl rfl agg25 rfl rfl) <|
    (tm rfl (i64 a1) <|
    (tm rfl (optr 0 0 0) <|
    (tl rfl (optr 0 0 0) (LOp.nilCheck_optr rfl rfl) <|
    (tl rfl (optr 0 0 1) (LOp.fao und27 rfl siz2 rfl rfl rfl) <|
    (TR.d (r := i64 a3) (fs := []) rfl rfl (TOp.load1_o rfl rfl agg2 rfl rfl) <|
    (tl rfl (i64 x13) (LOp.eqr (LOp.mul rfl rfl rfl) (congrArg (ik .i64) hx11)) <|
    (tm rfl (i64 v3) <|
    (tl rfl (i64 x14) (LOp.eqr (LOp.add rfl rfl rfl) (congrArg (ik .i64) hx12)) <|
    (tm rfl (f32 e6) <|
    (TR.d (r := optr 1 0 x14.toNat) (fs := []) rfl rfl (TOp.ixo und25 siz41 rfl rfl rfl (set_in he13 ((setAt?_len he10).trans hl2)) rfl) <|
    TR.nil)))))))))))))) rfl (by kernel_rfl) rfl fills_nil rfl ?_
   iterate 14 refine ROps.dropS ?_
   refine ROps.drop0<|ROps.st (f := f32) (i := x14) (Γ' := [⟨0, some [i64 a2, i64 a3, oref 1 0 0 a4.length, oref 2 0 0 a5.length]⟩, ⟨0, some (L15.map f32)⟩, ⟨0, some (a5.map i64)⟩]) rfl siz41 rfl rfl rfl aR rfl rfl rfl he13 rfl<|zN ?_
   refine RunC.wl (τ' := [(0, optr 0 0 0), (1, i64 a0), (2, i64 a1), (6, i64 v3)]) (Γ' := [⟨0, some [i64 a2, i64 a3, oref 1 0 0 a4.length, oref 2 0 0 a5.length]⟩, ⟨0, some (L15.map f32)⟩, ⟨0, some (a5.map i64)⟩]) ⟨aR, aR, aR, aR, trivial⟩ ⟨⟨rfl, .inr rfl⟩, ⟨rfl, .inr rfl⟩, ⟨rfl, .inr rfl⟩, trivial⟩ ?_
   obtain ⟨x16, hx14, h2_⟩ := oL h2_
   refine yW<|ym rfl (i64 v3)<|yl rfl (i64 x16) (LOp.eqr (LOp.add rfl rfl rfl) (congrArg (ik .i64) hx14))<|ya rfl (i64 x16)<|zN ?_
   cases oI h2_
   exact ⟨_, rfl, ((setAt?_len he13).trans ((setAt?_len he10).trans hl2)), ⟨aR, aR, aR, aR, trivial⟩, ⟨⟨rfl, .inr rfl⟩, ⟨rfl, .inr rfl⟩, ⟨rfl, .inr rfl⟩, trivial⟩⟩
  ·refine yW<|ym rfl (i64 v3)<|ym rfl (optr 0 0 0)<|yl rfl (optr 0 0 0) (LOp.nilCheck_optr rfl rfl)<|yl rfl (optr 0 0 1) (LOp.fao und27 rfl siz2 rfl rfl rfl)<|yd rfl (i64 a3) (TOp.load1_o rfl rfl agg2 rfl rfl)<|yl rfl (b false) (LOp.eqb (LOp.lss rfl rfl rfl) hc1)<|zN ?_
   refine yF<|RunC.exit ?_
   cases oI h2_
   have hx := ho2 _ rfl
   exact ⟨L1, hl2, trivial, ⟨⟨rfl, .inr rfl⟩, ⟨rfl, .inr rfl⟩, ⟨rfl, .inr rfl⟩, trivial⟩, hx⟩
 ·rintro τ3 Γ3 ⟨L17, hl18, hw3, hd3, rfl⟩
  replace h : s_l03Swap_0p0_C02o1_3o2_k1 a5 L17 = some (q0, q1) := h
  unfold s_l03Swap_0p0_C02o1_3o2_k1 at h
  refine bodyQ.wl hw3 hd3 ?_
  have hq := oI h
  obtain ⟨hq0, hq⟩ := Prod.mk.inj hq
  subst q0
  subst q1
  exact yB (tup []) [(0, 0), (1, 0), (2, 0)] (Res.zero rfl) (SelL.cells rfl (by first | rfl | simp [ren, rens, sigma, rens_f32, rens_f64, rens_i64, rens_ik, rens_str, rens_cp]) rfl (SelL.arr (f := f32) (fun _ => rfl) rfl (SelL.arr (f := i64) (fun _ => rfl) rfl trivial)))
def s_l03Trade_0o (a0 : Int) (a1 : Int) (a2 : List Int) : Option ((List Int)) :=
 obind (at? a2 a0) fun (e1 : Int) =>
 obind (at? a2 a1) fun (e2 : Int) =>
 obind (setAt? a2 a0 e2) fun (L3 : List Int) =>
 obind (setAt? L3 a1 e1) fun (L4 : List Int) =>
 some L4
theorem s_l03Trade_0o_ok (a0 : Int) (a1 : Int) (a2 : List Int) (q0 : List Int) (h : s_l03Trade_0o a0 a1 a2 = some q0) : Ev Tryz.prog 89 [oref 0 0 0 a2.length, i64 a0, i64 a1] [⟨0, some (a2.map i64)⟩] (tup []) [⟨0, some (q0.map i64)⟩] := by
 refine Ev.start Tryz.func89 rfl rfl 0 (τ := [(0, oref 0 0 0 a2.length), (1, i64 a0), (2, i64 a1)]) rfl (Γ' := [⟨0, some (a2.map i64)⟩]) rfl (n := 44) rfl (g := 1) rfl (by decide) ?_
 unfold s_l03Trade_0o at h
 refine yS ?_
 obtain ⟨e1, he1, h⟩ := oS h
 refine yW<|ym rfl (oref 0 0 0 a2.length)<|ym rfl (i64 a0)<|yd rfl (optr 0 0 a0.toNat) (TOp.ixo und30 siz2 rfl rfl rfl (at_in he1 rfl) rfl)<|yd rfl (i64 e1) (TOp.load1_o rfl (at_cell he1) agg2 rfl rfl)<|ya rfl (i64 e1)<|zN ?_
 refine yS ?_
 obtain ⟨e2, he2, h⟩ := oS h
 obtain ⟨L3, he3, h⟩ := oS h
 refine yW<|ym rfl (oref 0 0 0 a2.length)<|ym rfl (i64 a0)<|ym rfl (oref 0 0 0 a2.length)<|ym rfl (i64 a1)<|yd rfl (optr 0 0 a1.toNat) (TOp.ixo und30 siz2 rfl rfl rfl (at_in he2 rfl) rfl)<|yd rfl (i64 e2) (TOp.load1_o rfl (at_cell he2) agg2 rfl rfl)<|yd rfl (optr 0 0 a0.toNat) (TOp.ixo und30 siz2 rfl rfl rfl (set_in he3 rfl) rfl)<|ROps.st (f := i64) (i := a0) (Γ' := [⟨0, some (L3.map i64)⟩]) rfl siz2 rfl rfl rfl aR rfl rfl rfl he3 rfl<|zN ?_
 obtain ⟨L4, he4, h⟩ := oS h
 refine yW<|ym rfl (oref 0 0 0 a2.length)<|ym rfl (i64 a1)<|ym rfl (i64 e1)<|yd rfl (optr 0 0 a1.toNat) (TOp.ixo und30 siz2 rfl rfl rfl (set_in he4 (setAt?_len he3)) rfl)<|ROps.st (f := i64) (i := a1) (Γ' := [⟨0, some (L4.map i64)⟩]) rfl siz2 rfl rfl rfl aR rfl rfl rfl he4 rfl<|zN ?_
 have hq := oI h
 subst q0
 exact yB (tup []) [(0, 0)] (Res.zero rfl) (SelL.arr (f := i64) (fun _ => rfl) rfl trivial)
def s_l03Clear_0p0_C02o1_3o2_b2 (a0 : Int) (a2 : Int) (a4 : List Int) (v4 : Int) (x11 : F) (L17 : List F) (v19 : Int) : Option (LR ((List F) × Int) ((List F)) (Bool × (List F) × (List Int))) :=
 bsel (decide (v19 < a2)) (
  olet (IntKind.i64.wrap (v4 * a2)) fun (x20 : Int) =>
  olet (IntKind.i64.wrap (x20 + v19)) fun (x21 : Int) =>
  obind (at? L17 x21) fun (e22 : F) =>
  olet (IntKind.i64.wrap (a0 * a2)) fun (x23 : Int) =>
  olet (IntKind.i64.wrap (x23 + v19)) fun (x24 : Int) =>
  obind (at? L17 x24) fun (e25 : F) =>
  olet (fop .mul .f32 x11 e25) fun (x26 : F) =>
  olet (fop .sub .f32 e22 x26) fun (x27 : F) =>
  olet (IntKind.i64.wrap (v4 * a2)) fun (x28 : Int) =>
  olet (IntKind.i64.wrap (x28 + v19)) fun (x29 : Int) =>
  obind (setAt? L17 x29 x27) fun (L30 : List F) =>
  obind (s_l01Finite x27) fun (r31 : Bool) =>
  bsel r31 (
   olet (IntKind.i64.wrap (v19 + 1)) fun (x32 : Int) =>
   some (LR.next (L30, x32))) (
   some (LR.ret (false, L30, a4)))) (
  some (LR.out L17))
def s_l03Clear_0p0_C02o1_3o2_s2 (a0 : Int) (a2 : Int) (a4 : List Int) (v4 : Int) (x11 : F) : ((List F) × Int) → Option (LR ((List F) × Int) ((List F)) (Bool × (List F) × (List Int))) := fun s => s_l03Clear_0p0_C02o1_3o2_b2 a0 a2 a4 v4 x11 s.1 s.2
def s_l03Clear_0p0_C02o1_3o2_k2 (v4 : Int) (L33 : List F) : Option (LR ((List F) × Int) ((List F)) (Bool × (List F) × (List Int))) :=
 olet (IntKind.i64.wrap (v4 + 1)) fun (x35 : Int) =>
 some (LR.next (L33, x35))
def s_l03Clear_0p0_C02o1_3o2_b3 (a0 : Int) (a1 : Int) (a2 : Int) (a4 : List Int) (L2 : List F) (v4 : Int) : Option (LR ((List F) × Int) ((List F)) (Bool × (List F) × (List Int))) :=
 bsel (decide (v4 < a1)) (
  olet (IntKind.i64.wrap (v4 * a2)) fun (x5 : Int) =>
  olet (IntKind.i64.wrap (x5 + a0)) fun (x6 : Int) =>
  obind (at? L2 x6) fun (e7 : F) =>
  olet (IntKind.i64.wrap (a0 * a2)) fun (x8 : Int) =>
  olet (IntKind.i64.wrap (x8 + a0)) fun (x9 : Int) =>
  obind (at? L2 x9) fun (e10 : F) =>
  olet (fop .quo .f32 e7 e10) fun (x11 : F) =>
  olet (IntKind.i64.wrap (v4 * a2)) fun (x12 : Int) =>
  olet (IntKind.i64.wrap (x12 + a0)) fun (x13 : Int) =>
  obind (setAt? L2 x13 x11) fun (L14 : List F) =>
  obind (s_l01Finite x11) fun (r15 : Bool) =>
  bsel r15 (
   olet (IntKind.i64.wrap (a0 + 1)) fun (x16 : Int) =>
   obind (loopM (s_l03Clear_0p0_C02o1_3o2_s2 a0 a2 a4 v4 x11) (L14, x16)) fun z => osum z (fun e => s_l03Clear_0p0_C02o1_3o2_k2 v4 e) (fun r => some (LR.ret r))) (
   some (LR.ret (false, L14, a4)))) (
  some (LR.out L2))
def s_l03Clear_0p0_C02o1_3o2_s3 (a0 : Int) (a1 : Int) (a2 : Int) (a4 : List Int) : ((List F) × Int) → Option (LR ((List F) × Int) ((List F)) (Bool × (List F) × (List Int))) := fun s => s_l03Clear_0p0_C02o1_3o2_b3 a0 a1 a2 a4 s.1 s.2
def s_l03Clear_0p0_C02o1_3o2_k3 (a4 : List Int) (L36 : List F) : Option (Bool × (List F) × (List Int)) :=
 some (true, L36, a4)
def s_l03Clear_0p0_C02o1_3o2 (a0 : Int) (a1 : Int) (a2 : Int) (a3 : List F) (a4 : List Int) : Option (Bool × (List F) × (List Int)) :=
 olet (IntKind.i64.wrap (a0 + 1)) fun (x1 : Int) =>
 obind (loopM (s_l03Clear_0p0_C02o1_3o2_s3 a0 a1 a2 a4) (a3, x1)) fun z => osum z (fun e => s_l03Clear_0p0_C02o1_3o2_k3 a4 e) (fun r => some r)
theorem s_l03Clear_0p0_C02o1_3o2_ok (a0 : Int) (a1 : Int) (a2 : Int) (a3 : List F) (a4 : List Int) (q0 : Bool) (q1 : List F) (q2 : List Int) (h : s_l03Clear_0p0_C02o1_3o2 a0 a1 a2 a3 a4 = some (q0, q1, q2)) : Ev Tryz.prog 90 [optr 0 0 0, i64 a0] [⟨0, some [i64 a1, i64 a2, oref 1 0 0 a3.length, oref 2 0 0 a4.length]⟩, ⟨0, some (a3.map f32)⟩, ⟨0, some (a4.map i64)⟩] (b q0) [⟨0, some [i64 a1, i64 a2, oref 1 0 0 a3.length, oref 2 0 0 a4.length]⟩, ⟨0, some (q1.map f32)⟩, ⟨0, some (q2.map i64)⟩] := by
 refine Ev.start Tryz.func90 rfl rfl 0 (τ := [(0, optr 0 0 0), (1, i64 a0)]) rfl (Γ' := [⟨0, some [i64 a1, i64 a2, oref 1 0 0 a3.length, oref 2 0 0 a4.length]⟩, ⟨0, some (a3.map f32)⟩, ⟨0, some (a4.map i64)⟩]) rfl (n := 214) rfl (g := 3) rfl (by decide) ?_
 unfold s_l03Clear_0p0_C02o1_3o2 at h
 refine zQ<|ya rfl (b false)<|zN ?_
 refine zQ<|ym rfl (optr 0 0 0)<|yl rfl (optr 0 0 0) (LOp.nilCheck_optr rfl rfl)<|yl rfl (optr 0 0 1) (LOp.fao und27 rfl siz2 rfl rfl rfl)<|yd rfl (i64 a2) (TOp.load1_o rfl rfl agg2 rfl rfl)<|ya rfl (i64 a2)<|zN ?_
 refine yS<|yS ?_
 obtain ⟨x1, hx1, h⟩ := oL h
 refine yW<|ym rfl (i64 a0)<|yl rfl (i64 x1) (LOp.eqr (LOp.add rfl rfl rfl) (congrArg (ik .i64) hx1))<|ya rfl (i64 x1)<|zN ?_
 obtain ⟨z4, hz_4, h⟩ := oS h
 refine RunC.cutN (fun τ Γ => ∃ (L36 : List F), L36.length = a3.length ∧ WeakLe τ [] ∧ DeadLe Γ [⟨0, some [i64 a1, i64 a2, oref 1 0 0 a3.length, oref 2 0 0 a4.length]⟩, ⟨0, some (L36.map f32)⟩, ⟨0, some (a4.map i64)⟩] ∧ z4 = .inl L36) ?_ ?_
 ·refine RunC.block (RunC.loop (RunL.loopM (x := z4) (s_l03Clear_0p0_C02o1_3o2_s3 a0 a1 a2 a4) (fun (s : (List F) × Int) τ Γ => s.1.length = a3.length ∧ WeakLe τ [(0, optr 0 0 0), (1, i64 a0), (5, i64 a2), (6, i64 s.2)] ∧ DeadLe Γ [⟨0, some [i64 a1, i64 a2, oref 1 0 0 a3.length, oref 2 0 0 a4.length]⟩, ⟨0, some (s.1.map f32)⟩, ⟨0, some (a4.map i64)⟩]) ?_ _ _ _ hz_4 ⟨rfl, ⟨aR, aR, aR, aR, trivial⟩, ⟨⟨rfl, .inr rfl⟩, ⟨rfl, .inr rfl⟩, ⟨rfl, .inr rfl⟩, trivial⟩⟩))
  rintro ⟨L2, v4⟩ τ4 Γ4 y4_ ⟨hl3, hw4, hd4⟩ h4_ ho4 hr4
  refine RunC.wl (τ' := [(0, optr 0 0 0), (1, i64 a0), (5, i64 a2), (6, i64 v4)]) (Γ' := [⟨0, some [i64 a1, i64 a2, oref 1 0 0 a3.length, oref 2 0 0 a4.length]⟩, ⟨0, some (L2.map f32)⟩, ⟨0, some (a4.map i64)⟩]) hw4 hd4 ?_
  replace hl3 : L2.length = a3.length := hl3
  replace h4_ : s_l03Clear_0p0_C02o1_3o2_b3 a0 a1 a2 a4 L2 v4 = some y4_ := h4_
  unfold s_l03Clear_0p0_C02o1_3o2_b3 at h4_
  refine yS<|yS ?_
  rcases oB h4_ with ⟨hc2, h4_⟩ | ⟨hc2, h4_⟩
  ·refine yW<|ym rfl (i64 v4)<|ym rfl (optr 0 0 0)<|yl rfl (optr 0 0 0) (LOp.nilCheck_optr rfl rfl)<|yl rfl (optr 0 0 0) (LOp.fao und27 rfl siz2 rfl rfl rfl)<|yd rfl (i64 a1) (TOp.load1_o rfl rfl agg2 rfl rfl)<|yl rfl (b true) (LOp.eqb (LOp.lss rfl rfl rfl) hc2)<|zN ?_
   refine yT<|RunC.skip<|yS<|RunC.block<|yS ?_
   obtain ⟨x5, hx3, h4_⟩ := oL h4_
   obtain ⟨x6, hx4, h4_⟩ := oL h4_
   obtain ⟨e7, he5, h4_⟩ := oS h4_
   obtain ⟨x8, hx6, h4_⟩ := oL h4_
   obtain ⟨x9, hx7, h4_⟩ := oL h4_
   obtain ⟨e10, he8, h4_⟩ := oS h4_
   obtain ⟨x11, hx9, h4_⟩ := oL h4_
   refine RunC.region_draw (Γ' := [⟨0, some [i64 a1, i64 a2, oref 1 0 0 a3.length, oref 2 0 0 a4.length]⟩, ⟨0, some (L2.map f32)⟩, ⟨0, some (a4.map i64)⟩]) 24 mixed 
    (tm rfl (optr 0 0 0) <|
    (tl rfl (optr 0 0 0) (LOp.nilCheck_optr rfl rfl) <|
    (tl rfl (optr 0 0 2) (LOp.fao und27 rfl siz25 rfl rfl rfl) <|
    (TR.d (r := oref 1 0 0 a3.length) (fs := []) rfl rfl (TOp.load1_o rfl rfl agg25 rfl rfl) <|
    (tm rfl (i64 v4) <|
    (tm rfl (i64 a2) <|
    (tl rfl (i64 x5) (LOp.eqr (LOp.mul rfl rfl rfl) (congrArg (ik .i64) hx3)) <|
    (tm rfl (i64 a0) <|
    (tl rfl (i64 x6) (LOp.eqr (LOp.add rfl rfl rfl) (congrArg (ik .i64) hx4)) <|
    (TR.d (r := optr 1 0 x6.toNat) (fs := []) rfl rfl (TOp.ixo und25 siz41 rfl rfl rfl (at_in he5 hl3) rfl) <|
    (TR.d (r := f32 e7) (fs := []) rfl rfl (TOp.load1_o rfl (at_cell he5) agg41 rfl rfl) <|
    (tm rfl (optr 0 0 0) <|
    (tl rfl (optr 0 0 0) (LOp.nilCheck_optr rfl rfl) <|
    (tl rfl (optr 0 0 2) (LOp.fao und27 rfl siz25 rfl rfl rfl) <|
    (TR.d (r := oref 1 0 0 a3.length) (fs := []) rfl rfl (TOp.load1_o rfl rfl agg25 rfl rfl) <|
    (tm rfl (i64 a0) <|
    (tm rfl (i64 a2) <|
    (tl rfl (i64 x8) (LOp.eqr (LOp.mul rfl rfl rfl) (congrArg (ik .i64) hx6)) <|
    (tm rfl (i64 a0) <|
    (tl rfl (i64 x9) (LOp.eqr (LOp.add rfl rfl rfl) (congrArg (ik .i64) hx7)) <|
    (TR.d (r := optr 1 0 x9.toNat) (fs := []) rfl rfl (TOp.ixo und25 siz41 rfl rfl rfl (at_in he8 hl3) rfl) <|
    (TR.d (r := f32 e10) (fs := []) rfl rfl (TOp.load1_o rfl (at_cell he8) agg41 rfl rfl) <|
    (TR.d (r := f32 x11) (fs := []) rfl rfl (TOp.eqr (TOp.fop (.inr (.inr (.inr rfl))) rfl (OpF.tmp rfl) (OpF.tmp rfl)) (congrArg (f .f32) hx9)) <|
    (tl rfl (f32 x11) (LOp.assign rfl rfl) <|
    TR.nil)))))))))))))))))))))))) rfl (by kernel_rfl) rfl fills_nil rfl ?_
   iterate 24 refine ROps.dropS ?_
   refine ROps.drop0<|zN ?_
   refine RunC.wl (τ' := [(0, optr 0 0 0), (1, i64 a0), (5, i64 a2), (6, i64 v4), (7, f32 x11)]) (Γ' := [⟨0, some [i64 a1, i64 a2, oref 1 0 0 a3.length, oref 2 0 0 a4.length]⟩, ⟨0, some (L2.map f32)⟩, ⟨0, some (a4.map i64)⟩]) ⟨aR, aR, aR, aR, aR, trivial⟩ ⟨⟨rfl, .inr rfl⟩, ⟨rfl, .inr rfl⟩, ⟨rfl, .inr rfl⟩, trivial⟩<|yS ?_
   obtain ⟨x12, hx10, h4_⟩ := oL h4_
   obtain ⟨x13, hx11, h4_⟩ := oL h4_
   obtain ⟨L14, he12, h4_⟩ := oS h4_
   refine yW<|ym rfl (optr 0 0 0)<|yl rfl (optr 0 0 0) (LOp.nilCheck_optr rfl rfl)<|yl rfl (optr 0 0 2) (LOp.fao und27 rfl siz25 rfl rfl rfl)<|yd rfl (oref 1 0 0 a3.length) (TOp.load1_o rfl rfl agg25 rfl rfl)<|ym rfl (i64 v4)<|ym rfl (i64 a2)<|yl rfl (i64 x12) (LOp.eqr (LOp.mul rfl rfl rfl) (congrArg (ik .i64) hx10))<|ym rfl (i64 a0)<|yl rfl (i64 x13) (LOp.eqr (LOp.add rfl rfl rfl) (congrArg (ik .i64) hx11))<|ym rfl (f32 x11)<|yd rfl (optr 1 0 x13.toNat) (TOp.ixo und25 siz41 rfl rfl rfl (set_in he12 hl3) rfl)<|ROps.st (f := f32) (i := x13) (Γ' := [⟨0, some [i64 a1, i64 a2, oref 1 0 0 a3.length, oref 2 0 0 a4.length]⟩, ⟨0, some (L14.map f32)⟩, ⟨0, some (a4.map i64)⟩]) rfl siz41 rfl rfl rfl aR rfl rfl rfl he12 rfl<|zN ?_
   refine yS<|yS ?_
   obtain ⟨r15, hf13, h4_⟩ := oS h4_
   rcases oB h4_ with ⟨hc14, h4_⟩ | ⟨hc14, h4_⟩
   ·refine yW<|ym rfl (f32 x11)<|yd rfl (b true) (TOp.eqb (yc ent115 rfl rfl bN0 (s_l01Finite_ok x11 r15 hf13)) hc14)<|yl rfl (b false) y1<|zN ?_
    refine RunC.wl (τ' := [(0, optr 0 0 0), (1, i64 a0), (5, i64 a2), (6, i64 v4), (7, f32 x11), (60, b false)]) (Γ' := [⟨0, some [i64 a1, i64 a2, oref 1 0 0 a3.length, oref 2 0 0 a4.length]⟩, ⟨0, some (L14.map f32)⟩, ⟨0, some (a4.map i64)⟩]) ⟨aR, aR, aR, aR, aR, aR, trivial⟩ ⟨⟨rfl, .inr rfl⟩, ⟨rfl, .inr rfl⟩, ⟨rfl, .inr rfl⟩, trivial⟩<|yF<|RunC.skip<|yS ?_
    obtain ⟨x16, hx15, h4_⟩ := oL h4_
    refine yW<|ym rfl (i64 a0)<|yl rfl (i64 x16) (LOp.eqr (LOp.add rfl rfl rfl) (congrArg (ik .i64) hx15))<|ya rfl (i64 x16)<|zN ?_
    obtain ⟨z5, hz_5, h4_⟩ := oS h4_
    refine RunC.cutN (fun τ Γ => ∃ (L33 : List F), L33.length = a3.length ∧ WeakLe τ [(0, optr 0 0 0), (1, i64 a0), (5, i64 a2), (6, i64 v4)] ∧ DeadLe Γ [⟨0, some [i64 a1, i64 a2, oref 1 0 0 a3.length, oref 2 0 0 a4.length]⟩, ⟨0, some (L33.map f32)⟩, ⟨0, some (a4.map i64)⟩] ∧ z5 = .inl L33) ?_ ?_
    ·refine RunC.block (RunC.loop (RunL.loopM (x := z5) (s_l03Clear_0p0_C02o1_3o2_s2 a0 a2 a4 v4 x11) (fun (s : (List F) × Int) τ Γ => s.1.length = a3.length ∧ WeakLe τ [(0, optr 0 0 0), (1, i64 a0), (5, i64 a2), (6, i64 v4), (7, f32 x11), (8, i64 s.2)] ∧ DeadLe Γ [⟨0, some [i64 a1, i64 a2, oref 1 0 0 a3.length, oref 2 0 0 a4.length]⟩, ⟨0, some (s.1.map f32)⟩, ⟨0, some (a4.map i64)⟩]) ?_ _ _ _ hz_5 ⟨((setAt?_len he12).trans hl3), ⟨aR, aR, aR, aR, aR, aR, trivial⟩, ⟨⟨rfl, .inr rfl⟩, ⟨rfl, .inr rfl⟩, ⟨rfl, .inr rfl⟩, trivial⟩⟩))
     rintro ⟨L17, v19⟩ τ5 Γ5 y5_ ⟨hl18, hw5, hd5⟩ h5_ ho5 hr5
     refine RunC.wl (τ' := [(0, optr 0 0 0), (1, i64 a0), (5, i64 a2), (6, i64 v4), (7, f32 x11), (8, i64 v19)]) (Γ' := [⟨0, some [i64 a1, i64 a2, oref 1 0 0 a3.length, oref 2 0 0 a4.length]⟩, ⟨0, some (L17.map f32)⟩, ⟨0, some (a4.map i64)⟩]) hw5 hd5 ?_
     replace hl18 : L17.length = a3.length := hl18
     replace h5_ : s_l03Clear_0p0_C02o1_3o2_b2 a0 a2 a4 v4 x11 L17 v19 = some y5_ := h5_
     unfold s_l03Clear_0p0_C02o1_3o2_b2 at h5_
     refine yS<|yS ?_
     rcases oB h5_ with ⟨hc16, h5_⟩ | ⟨hc16, h5_⟩
     ·refine yW<|ym rfl (i64 v19)<|ym rfl (i64 a2)<|yl rfl (b true) (LOp.eqb (LOp.lss rfl rfl rfl) hc16)<|zN ?_
      refine yT<|RunC.skip<|yS<|RunC.block<|yS ?_
      obtain ⟨x20, hx17, h5_⟩ := oL h5_
      obtain ⟨x21, hx18, h5_⟩ := oL h5_
      obtain ⟨e22, he19, h5_⟩ := oS h5_
      obtain ⟨x23, hx20, h5_⟩ := oL h5_
      obtain ⟨x24, hx21, h5_⟩ := oL h5_
      obtain ⟨e25, he22, h5_⟩ := oS h5_
      obtain ⟨x26, hx23, h5_⟩ := oL h5_
      obtain ⟨x27, hx24, h5_⟩ := oL h5_
      refine RunC.region_draw (Γ' := [⟨0, some [i64 a1, i64 a2, oref 1 0 0 a3.length, oref 2 0 0 a4.length]⟩, ⟨0, some (L17.map f32)⟩, ⟨0, some (a4.map i64)⟩]) 26 mixed 
       (tm rfl (optr 0 0 0) <|
       (tl rfl (optr 0 0 0) (LOp.nilCheck_optr rfl rfl) <|
       (tl rfl (optr 0 0 2) (LOp.fao und27 rfl siz25 rfl rfl rfl) <|
       (TR.d (r := oref 1 0 0 a3.length) (fs := []) rfl rfl (TOp.load1_o rfl rfl agg25 rfl rfl) <|
       (tm rfl (i64 v4) <|
       (tm rfl (i64 a2) <|
       (tl rfl (i64 x20) (LOp.eqr (LOp.mul rfl rfl rfl) (congrArg (ik .i64) hx17)) <|
       (tm rfl (i64 v19) <|
       (tl rfl (i64 x21) (LOp.eqr (LOp.add rfl rfl rfl) (congrArg (ik .i64) hx18)) <|
       (TR.d (r := optr 1 0 x21.toNat) (fs := []) rfl rfl (TOp.ixo und25 siz41 rfl rfl rfl (at_in he19 hl18) rfl) <|
       (TR.d (r := f32 e22) (fs := []) rfl rfl (TOp.load1_o rfl (at_cell he19) agg41 rfl rfl) <|
       (tm rfl (f32 x11) <|
       (tm rfl (optr 0 0 0) <|
       (tl rfl (optr 0 0 0) (LOp.nilCheck_optr rfl rfl) <|
       (tl rfl (optr 0 0 2) (LOp.fao und27 rfl siz25 rfl rfl rfl) <|
       (TR.d (r := oref 1 0 0 a3.length) (fs := []) rfl rfl (TOp.load1_o rfl rfl agg25 rfl rfl) <|
       (tm rfl (i64 a0) <|
       (tm rfl (i64 a2) <|
       (tl rfl (i64 x23) (LOp.eqr (LOp.mul rfl rfl rfl) (congrArg (ik .i64) hx20)) <|
       (tm rfl (i64 v19) <|
       (tl rfl (i64 x24) (LOp.eqr (LOp.add rfl rfl rfl) (congrArg (ik .i64) hx21)) <|
       (TR.d (r := optr 1 0 x24.toNat) (fs := []) rfl rfl (TOp.ixo und25 siz41 rfl rfl rfl (at_in he22 hl18) rfl) <|
       (TR.d (r := f32 e25) (fs := []) rfl rfl (TOp.load1_o rfl (at_cell he22) agg41 rfl rfl) <|
       (TR.d (r := f32 x26) (fs := []) rfl rfl (TOp.eqr (TOp.fop (.inr (.inr (.inl rfl))) rfl (OpF.tmp rfl) (OpF.tmp rfl)) (congrArg (f .f32) hx23)) <|
       (TR.d (r := f32 x27) (fs := []) rfl rfl (TOp.eqr (TOp.fop (.inr (.inl rfl)) rfl (OpF.tmp rfl) (OpF.tmp rfl)) (congrArg (f .f32) hx24)) <|
       (tl rfl (f32 x27) (LOp.assign rfl rfl) <|
       TR.nil)))))))))))))))))))))))))) rfl (by kernel_rfl) rfl fills_nil rfl ?_
      iterate 26 refine ROps.dropS ?_
      refine ROps.drop0<|zN ?_
      refine RunC.wl (τ' := [(0, optr 0 0 0), (1, i64 a0), (5, i64 a2), (6, i64 v4), (7, f32 x11), (8, i64 v19), (9, f32 x27)]) (Γ' := [⟨0, some [i64 a1, i64 a2, oref 1 0 0 a3.length, oref 2 0 0 a4.length]⟩, ⟨0, some (L17.map f32)⟩, ⟨0, some (a4.map i64)⟩]) ⟨aR, aR, aR, aR, aR, aR, aR, trivial⟩ ⟨⟨rfl, .inr rfl⟩, ⟨rfl, .inr rfl⟩, ⟨rfl, .inr rfl⟩, trivial⟩<|yS ?_
      obtain ⟨x28, hx25, h5_⟩ := oL h5_
      obtain ⟨x29, hx26, h5_⟩ := oL h5_
      obtain ⟨L30, he27, h5_⟩ := oS h5_
      refine yW<|ym rfl (optr 0 0 0)<|yl rfl (optr 0 0 0) (LOp.nilCheck_optr rfl rfl)<|yl rfl (optr 0 0 2) (LOp.fao und27 rfl siz25 rfl rfl rfl)<|yd rfl (oref 1 0 0 a3.length) (TOp.load1_o rfl rfl agg25 rfl rfl)<|ym rfl (i64 v4)<|ym rfl (i64 a2)<|yl rfl (i64 x28) (LOp.eqr (LOp.mul rfl rfl rfl) (congrArg (ik .i64) hx25))<|ym rfl (i64 v19)<|yl rfl (i64 x29) (LOp.eqr (LOp.add rfl rfl rfl) (congrArg (ik .i64) hx26))<|ym rfl (f32 x27)<|yd rfl (optr 1 0 x29.toNat) (TOp.ixo und25 siz41 rfl rfl rfl (set_in he27 hl18) rfl)<|ROps.st (f := f32) (i := x29) (Γ' := [⟨0, some [i64 a1, i64 a2, oref 1 0 0 a3.length, oref 2 0 0 a4.length]⟩, ⟨0, some (L30.map f32)⟩, ⟨0, some (a4.map i64)⟩]) rfl siz41 rfl rfl rfl aR rfl rfl rfl he27 rfl<|zN ?_
      refine yS ?_
      obtain ⟨r31, hf28, h5_⟩ := oS h5_
      rcases oB h5_ with ⟨hc29, h5_⟩ | ⟨hc29, h5_⟩
      ·refine yW<|ym rfl (f32 x27)<|yd rfl (b true) (TOp.eqb (yc ent115 rfl rfl bN0 (s_l01Finite_ok x27 r31 hf28)) hc29)<|yl rfl (b false) y1<|zN ?_
       refine RunC.wl (τ' := [(0, optr 0 0 0), (1, i64 a0), (5, i64 a2), (6, i64 v4), (7, f32 x11), (8, i64 v19), (106, b false)]) (Γ' := [⟨0, some [i64 a1, i64 a2, oref 1 0 0 a3.length, oref 2 0 0 a4.length]⟩, ⟨0, some (L30.map f32)⟩, ⟨0, some (a4.map i64)⟩]) ⟨aR, aR, aR, aR, aR, aR, aR, trivial⟩ ⟨⟨rfl, .inr rfl⟩, ⟨rfl, .inr rfl⟩, ⟨rfl, .inr rfl⟩, trivial⟩<|yF<|RunC.skip ?_
       obtain ⟨x32, hx30, h5_⟩ := oL h5_
       refine yW<|ym rfl (i64 v19)<|yl rfl (i64 x32) (LOp.eqr (LOp.add rfl rfl rfl) (congrArg (ik .i64) hx30))<|ya rfl (i64 x32)<|zN ?_
       cases oI h5_
       exact ⟨_, rfl, ((setAt?_len he27).trans hl18), ⟨aR, aR, aR, aR, aR, aR, trivial⟩, ⟨⟨rfl, .inr rfl⟩, ⟨rfl, .inr rfl⟩, ⟨rfl, .inr rfl⟩, trivial⟩⟩
      ·refine yW<|ym rfl (f32 x27)<|yd rfl (b false) (TOp.eqb (yc ent115 rfl rfl bN0 (s_l01Finite_ok x27 r31 hf28)) hc29)<|yl rfl (b true) y0<|zN ?_
       refine RunC.wl (τ' := [(0, optr 0 0 0), (1, i64 a0), (5, i64 a2), (6, i64 v4), (7, f32 x11), (8, i64 v19), (106, b true)]) (Γ' := [⟨0, some [i64 a1, i64 a2, oref 1 0 0 a3.length, oref 2 0 0 a4.length]⟩, ⟨0, some (L30.map f32)⟩, ⟨0, some (a4.map i64)⟩]) ⟨aR, aR, aR, aR, aR, aR, aR, trivial⟩ ⟨⟨rfl, .inr rfl⟩, ⟨rfl, .inr rfl⟩, ⟨rfl, .inr rfl⟩, trivial⟩<|yT<|zQ<|ya rfl (b false)<|zN ?_
       refine RunC.ret ?_
       cases oI h5_
       have hx6_ := hr5 _ rfl
       subst hx6_
       cases oI h4_
       have hx7_ := hr4 _ rfl
       subst hx7_
       have hq := oI h
       obtain ⟨hq0, hq⟩ := Prod.mk.inj hq
       obtain ⟨hq1, hq⟩ := Prod.mk.inj hq
       subst q0
       subst q1
       subst q2
       exact yB (b false) [(0, 0), (1, 0), (2, 0)] (Res.one rfl (RV.tmp rfl)) (SelL.cells rfl (by first | rfl | simp [ren, rens, sigma, rens_f32, rens_f64, rens_i64, rens_ik, rens_str, rens_cp]) rfl (SelL.arr (f := f32) (fun _ => rfl) rfl (SelL.arr (f := i64) (fun _ => rfl) rfl trivial)))
     ·refine yW<|ym rfl (i64 v19)<|ym rfl (i64 a2)<|yl rfl (b false) (LOp.eqb (LOp.lss rfl rfl rfl) hc16)<|zN ?_
      refine yF<|RunC.exit ?_
      cases oI h5_
      have hx := ho5 _ rfl
      exact ⟨L17, hl18, ⟨aR, aR, aR, aR, trivial⟩, ⟨⟨rfl, .inr rfl⟩, ⟨rfl, .inr rfl⟩, ⟨rfl, .inr rfl⟩, trivial⟩, hx⟩
    ·rintro τ8 Γ8 ⟨L33, hl34, hw8, hd8, rfl⟩
     refine RunC.wl hw8 hd8 ?_
     replace h4_ : s_l03Clear_0p0_C02o1_3o2_k2 v4 L33 = some y4_ := h4_
     unfold s_l03Clear_0p0_C02o1_3o2_k2 at h4_
     obtain ⟨x35, hx31, h4_⟩ := oL h4_
     refine yW<|ym rfl (i64 v4)<|yl rfl (i64 x35) (LOp.eqr (LOp.add rfl rfl rfl) (congrArg (ik .i64) hx31))<|ya rfl (i64 x35)<|zN ?_
     cases oI h4_
     exact ⟨_, rfl, hl34, ⟨aR, aR, aR, aR, trivial⟩, ⟨⟨rfl, .inr rfl⟩, ⟨rfl, .inr rfl⟩, ⟨rfl, .inr rfl⟩, trivial⟩⟩
   ·refine yW<|ym rfl (f32 x11)<|yd rfl (b false) (TOp.eqb (yc ent115 rfl rfl bN0 (s_l01Finite_ok x11 r15 hf13)) hc14)<|yl rfl (b true) y0<|zN ?_
    refine RunC.wl (τ' := [(0, optr 0 0 0), (1, i64 a0), (5, i64 a2), (6, i64 v4), (7, f32 x11), (60, b true)]) (Γ' := [⟨0, some [i64 a1, i64 a2, oref 1 0 0 a3.length, oref 2 0 0 a4.length]⟩, ⟨0, some (L14.map f32)⟩, ⟨0, some (a4.map i64)⟩]) ⟨aR, aR, aR, aR, aR, aR, trivial⟩ ⟨⟨rfl, .inr rfl⟩, ⟨rfl, .inr rfl⟩, ⟨rfl, .inr rfl⟩, trivial⟩<|yT<|zQ<|ya rfl (b false)<|zN ?_
    refine RunC.ret ?_
    cases oI h4_
    have hx9_ := hr4 _ rfl
    subst hx9_
    have hq := oI h
    obtain ⟨hq0, hq⟩ := Prod.mk.inj hq
    obtain ⟨hq1, hq⟩ := Prod.mk.inj hq
    subst q0
    subst q1
    subst q2
    exact yB (b false) [(0, 0), (1, 0), (2, 0)] (Res.one rfl (RV.tmp rfl)) (SelL.cells rfl (by first | rfl | simp [ren, rens, sigma, rens_f32, rens_f64, rens_i64, rens_ik, rens_str, rens_cp]) rfl (SelL.arr (f := f32) (fun _ => rfl) rfl (SelL.arr (f := i64) (fun _ => rfl) rfl trivial)))
  ·refine yW<|ym rfl (i64 v4)<|ym rfl (optr 0 0 0)<|yl rfl (optr 0 0 0) (LOp.nilCheck_optr rfl rfl)<|yl rfl (optr 0 0 0) (LOp.fao und27 rfl siz2 rfl rfl rfl)<|yd rfl (i64 a1) (TOp.load1_o rfl rfl agg2 rfl rfl)<|yl rfl (b false) (LOp.eqb (LOp.lss rfl rfl rfl) hc2)<|zN ?_
   refine yF<|RunC.exit ?_
   cases oI h4_
   have hx := ho4 _ rfl
   exact ⟨L2, hl3, trivial, ⟨⟨rfl, .inr rfl⟩, ⟨rfl, .inr rfl⟩, ⟨rfl, .inr rfl⟩, trivial⟩, hx⟩
 ·rintro τ10 Γ10 ⟨L36, hl37, hw10, hd10, rfl⟩
  refine RunC.wl hw10 hd10 ?_
  replace h : s_l03Clear_0p0_C02o1_3o2_k3 a4 L36 = some (q0, q1, q2) := h
  unfold s_l03Clear_0p0_C02o1_3o2_k3 at h
  refine zQ<|ya rfl (b true)<|zN ?_
  refine RunC.ret ?_
  have hq := oI h
  obtain ⟨hq0, hq⟩ := Prod.mk.inj hq
  obtain ⟨hq1, hq⟩ := Prod.mk.inj hq
  subst q0
  subst q1
  subst q2
  exact yB (b true) [(0, 0), (1, 0), (2, 0)] (Res.one rfl (RV.tmp rfl)) (SelL.cells rfl (by first | rfl | simp [ren, rens, sigma, rens_f32, rens_f64, rens_i64, rens_ik, rens_str, rens_cp]) rfl (SelL.arr (f := f32) (fun _ => rfl) rfl (SelL.arr (f := i64) (fun _ => rfl) rfl trivial)))
def s_FactorRows_b1 (a0 : Int) (r2 : Int) (r3 : Int) (r4 : List F) (r5 : List Int) (L6 : List F) (L8 : List Int) (v10 : Int) : Option (LR ((List F) × (List Int) × Int) ((List F) × (List Int)) (Int × Int × Bool × (List F) × (List Int))) :=
 bsel (decide (v10 < a0)) (
  obind (s_l03Find r2 r3 L6 v10) fun (r11 : Int) =>
  obind (s_l02At r2 r3 L6 r11 v10) fun (r12 : F) =>
  bsel (feq .f32 r12 (some 0)) (
   some (LR.ret (0, 0, false, ([] : List F), ([] : List Int)))) (
   obind2 (s_l03Swap_0p0_C02o1_3o2 v10 r11 r2 r3 L6 L8) fun (r13 : List F) (r14 : List Int) =>
   need (decide (r13.length = r4.length)) <|
   need (decide (r14.length = r5.length)) <|
   obind (s_l03Trade_0o v10 r11 r14) fun (r15 : List Int) =>
   need (decide (r15.length = r5.length)) <|
   obind3 (s_l03Clear_0p0_C02o1_3o2 v10 r2 r3 r13 r15) fun (r16 : Bool) (r17 : List F) (r18 : List Int) =>
   need (decide (r17.length = r4.length)) <|
   need (decide (r18.length = r5.length)) <|
   bsel (!r16) (
    some (LR.ret (0, 0, false, ([] : List F), ([] : List Int)))) (
    olet (IntKind.i64.wrap (v10 + 1)) fun (x19 : Int) =>
    some (LR.next (r17, r18, x19))))) (
  some (LR.out (L6, L8)))
def s_FactorRows_s1 (a0 : Int) (r2 : Int) (r3 : Int) (r4 : List F) (r5 : List Int) : ((List F) × (List Int) × Int) → Option (LR ((List F) × (List Int) × Int) ((List F) × (List Int)) (Int × Int × Bool × (List F) × (List Int))) := fun s => s_FactorRows_b1 a0 r2 r3 r4 r5 s.1 s.2.1 s.2.2
def s_FactorRows_k1 (r2 : Int) (r3 : Int) (L20 : List F) (L22 : List Int) : Option (Int × Int × Bool × (List F) × (List Int)) :=
 some (r2, r3, true, L20, L22)
def s_FactorRows (a0 : Int) (a1 : Int) (a2 : List F) : Option (Int × Int × Bool × (List F) × (List Int)) :=
 obind (s_l02Square a0 a1 a2) fun (r1 : Bool) =>
 bsel r1 (
  obind3 (s_l02Own a0 a1 a2) fun (r2 : Int) (r3 : Int) (r4 : List F) =>
  obind (s_l03Count a0) fun (r5 : List Int) =>
  obind (loopM (s_FactorRows_s1 a0 r2 r3 r4 r5) (r4, r5, 0)) fun z => osum z (fun e => s_FactorRows_k1 r2 r3 e.1 e.2) (fun r => some r)) (
  some (0, 0, false, ([] : List F), ([] : List Int)))
theorem s_FactorRows_ok (a0 : Int) (a1 : Int) (a2 : List F) (q0 : Int) (q1 : Int) (q2 : Bool) (q3 : List F) (q4 : List Int) (h : s_FactorRows a0 a1 a2 = some (q0, q1, q2, q3, q4)) : Ev Tryz.prog 31 [agg (mXc a0 a1 a2)] [] (tup [agg [i64 q0, i64 q1, oref 0 0 0 q3.length, oref 1 0 0 q4.length], b q2]) [⟨0, some (q3.map f32)⟩, ⟨0, some (q4.map i64)⟩] := by
 refine yE Tryz.func31 6 91 0 [(0, agg (mXc a0 a1 a2))] [⟨0, none⟩, ⟨0, none⟩, ⟨0, none⟩, ⟨0, none⟩, ⟨0, none⟩, ⟨0, none⟩] rfl ?_
 unfold s_FactorRows at h
 refine zQ<|yd rfl (ptr (mXc a0 a1 a2)) (TOp.box_s rfl rfl rfl)<|ye rfl (optr 0 1 0) ([⟨1, some [i64 0, i64 0, nilsl, nilsl]⟩, ⟨0, none⟩, ⟨0, none⟩, ⟨0, none⟩, ⟨0, none⟩, ⟨0, none⟩]) (TOp.alloc_o (g := ⟨0, none⟩) 0 rfl zer32 zok32 rfl)<|ya rfl (b false)<|zN ?_
 refine yS<|yS ?_
 obtain ⟨r1, hf1, h⟩ := oS h
 rcases oB h with ⟨hc2, h⟩ | ⟨hc2, h⟩
 ·refine yW<|yd rfl (b true) (TOp.eqb (TOp.callB (CallAs.func ent83 rfl rfl) (Bors.cons (Bor.ptr (bP (bP (bS bN)))) bN) rfl rfl (s_l02Square_ok a0 a1 a2 r1 hf1)) hc2)<|yl rfl (b false) y1<|zN ?_
  refine yF<|RunC.skip<|yS ?_
  obtain ⟨r2, r3, r4, hf3, h⟩ := obind3_some h
  obtain ⟨r5, hf4, h⟩ := oS h
  refine RunC.region_draw (Γ' := [⟨1, some [i64 0, i64 0, nilsl, nilsl]⟩, ⟨1, some (r4.map f32)⟩, ⟨1, some (r5.map i64)⟩, ⟨1, some [i64 0, i64 0, nilsl, nilsl]⟩, ⟨0, none⟩, ⟨0, none⟩]) 6 mixed 
   (TR.d (r := agg (oXc r2 r3 1 1 r4.length)) (fs := [(1, (r4.map f32))]) rfl rfl (TOp.callBN (ls := [(r4.map f32)]) [1] (CallAs.func ent84 rfl rfl) (Bors.cons (Bor.ptr (bP (bP (bS bN)))) bN) rfl (s_l02Own_ok a0 a1 a2 r2 r3 r4 hf3) (and_all (lts0_map (f := f32) (fun _ => rfl) _) rfl) (and_all (noss_map (f := f32) (fun _ => rfl) _) rfl) rfl (by decide) (ns_of ⟨⟨_, rfl⟩, trivial⟩)) <|
   (tl rfl (ptr (mXc a0 a1 a2)) (LOp.fap und27 rfl siz2 rfl rfl rfl) <|
   (tl rfl (i64 a0) (y2 agg2) <|
   (TR.d (r := oref 2 1 0 r5.length) (fs := [(2, (r5.map i64))]) rfl rfl (TOp.callBN (ls := [(r5.map i64)]) [2] (CallAs.func ent85 rfl rfl) bN0 rfl (s_l03Count_ok a0 r5 hf4) (and_all (lts0_map (f := i64) (fun _ => rfl) _) rfl) (and_all (noss_map (f := i64) (fun _ => rfl) _) rfl) rfl (by decide) (ns_of ⟨⟨_, rfl⟩, trivial⟩)) <|
   (tl rfl (agg [i64 r2, i64 r3, oref 1 1 0 r4.length, oref 2 1 0 r5.length]) (LOp.build (qs := [(0, (oXc r2 r3 1 1 r4.length)), (1, [oref 2 1 0 r5.length])]) zer32 zok32 und32 plc32 rfl ⟨rfl, ⟨_, ALe.refl _, rfl⟩, ⟨rfl, ⟨_, ALe.refl _, rfl⟩, trivial⟩⟩ rfl) <|
   (TR.d (r := optr 3 1 0) (fs := [(3, [i64 0, i64 0, nilsl, nilsl])]) rfl rfl (TOp.alloc_o (g := ⟨0, none⟩) 3 rfl zer32 zok32 rfl) <|
   TR.nil)))))) rfl (by kernel_rfl) rfl (fills_of (by show List.Nodup [1, 2, 3]; decide) ⟨⟨_, rfl⟩, ⟨_, rfl⟩, ⟨_, rfl⟩, trivial⟩) rfl ?_
  iterate 6 refine ROps.dropS ?_
  refine ROps.drop0<|ys (agg [i64 r2, i64 r3, oref 1 1 0 r4.length, oref 2 1 0 r5.length]) [i64 r2, i64 r3, oref 1 1 0 r4.length, oref 2 1 0 r5.length] ([⟨1, some [i64 0, i64 0, nilsl, nilsl]⟩, ⟨1, some (r4.map f32)⟩, ⟨1, some (r5.map i64)⟩, ⟨1, some [i64 r2, i64 r3, oref 1 1 0 r4.length, oref 2 1 0 r5.length]⟩, ⟨0, none⟩, ⟨0, none⟩]) siz32<|zN ?_
  refine yS<|zQ<|ya rfl (i64 0)<|zN ?_
  obtain ⟨z2, hz_2, h⟩ := oS h
  refine RunC.cutN (fun τ Γ => ∃ (L20 : List F) (L22 : List Int), L20.length = r4.length ∧ L22.length = r5.length ∧ WeakLe τ [(2, optr 0 1 0), (4, optr 3 1 0)] ∧ DeadLe Γ [⟨1, some [i64 0, i64 0, nilsl, nilsl]⟩, ⟨1, some (L20.map f32)⟩, ⟨1, some (L22.map i64)⟩, ⟨1, some [i64 r2, i64 r3, oref 1 1 0 r4.length, oref 2 1 0 r5.length]⟩, ⟨0, none⟩, ⟨0, none⟩] ∧ z2 = .inl (L20, L22)) ?_ ?_
  ·refine RunC.block (RunC.loop (RunL.loopM (x := z2) (s_FactorRows_s1 a0 r2 r3 r4 r5) (fun (s : (List F) × (List Int) × Int) τ Γ => s.1.length = r4.length ∧ s.2.1.length = r5.length ∧ WeakLe τ [(1, ptr (mXc a0 a1 a2)), (2, optr 0 1 0), (4, optr 3 1 0), (5, i64 s.2.2)] ∧ DeadLe Γ [⟨1, some [i64 0, i64 0, nilsl, nilsl]⟩, ⟨1, some (s.1.map f32)⟩, ⟨1, some (s.2.1.map i64)⟩, ⟨1, some [i64 r2, i64 r3, oref 1 1 0 r4.length, oref 2 1 0 r5.length]⟩, ⟨0, none⟩, ⟨0, none⟩]) ?_ _ _ _ hz_2 ⟨rfl, rfl, ⟨aR, aR, aR, aR, trivial⟩, ⟨⟨rfl, .inr rfl⟩, ⟨rfl, .inr rfl⟩, ⟨rfl, .inr rfl⟩, ⟨rfl, .inr rfl⟩, ⟨rfl, .inr rfl⟩, ⟨rfl, .inr rfl⟩, trivial⟩⟩))
   rintro ⟨L6, L8, v10⟩ τ2 Γ2 y2_ ⟨hl7, hl9, hw2, hd2⟩ h2_ ho2 hr2
   refine RunC.wl (τ' := [(1, ptr (mXc a0 a1 a2)), (2, optr 0 1 0), (4, optr 3 1 0), (5, i64 v10)]) (Γ' := [⟨1, some [i64 0, i64 0, nilsl, nilsl]⟩, ⟨1, some (L6.map f32)⟩, ⟨1, some (L8.map i64)⟩, ⟨1, some [i64 r2, i64 r3, oref 1 1 0 r4.length, oref 2 1 0 r5.length]⟩, ⟨0, none⟩, ⟨0, none⟩]) hw2 hd2 ?_
   replace hl7 : L6.length = r4.length := hl7
   replace hl9 : L8.length = r5.length := hl9
   replace h2_ : s_FactorRows_b1 a0 r2 r3 r4 r5 L6 L8 v10 = some y2_ := h2_
   unfold s_FactorRows_b1 at h2_
   refine yS<|yS ?_
   rcases oB h2_ with ⟨hc5, h2_⟩ | ⟨hc5, h2_⟩
   ·refine yW<|ym rfl (i64 v10)<|yl rfl (ptr (mXc a0 a1 a2)) (LOp.fap und27 rfl siz2 rfl rfl rfl)<|yl rfl (i64 a0) (y2 agg2)<|yl rfl (b true) (LOp.eqb (LOp.lss rfl rfl rfl) hc5)<|zN ?_
    refine yT<|RunC.skip<|yS<|RunC.block<|yS ?_
    obtain ⟨r11, hf6, h2_⟩ := oS h2_
    refine yW<|yl rfl (optr 3 1 0) (LOp.fao und32 rfl siz27 rfl rfl rfl)<|ym rfl (i64 v10)<|yd rfl (i64 r11) (TOp.callB (CallAs.func ent86 rfl rfl) (Bors.cons (Bor.optrT 3 rfl (Bors.p (bP (bP (Bors.cons (Bor.own (f := f32) (fun _ => rfl) rfl hl7) (Bors.cons (Bor.own (f := i64) (fun _ => rfl) rfl hl9) bN))))) rfl) bN0) rfl rfl (s_l03Find_ok r2 r3 L6 v10 r11 hf6))<|ya rfl (i64 r11)<|zN ?_
    refine yS<|yS ?_
    obtain ⟨r12, hf7, h2_⟩ := oS h2_
    rcases oB h2_ with ⟨hc8, h2_⟩ | ⟨hc8, h2_⟩
    ·refine yW<|yl rfl (optr 3 1 0) (LOp.fao und32 rfl siz27 rfl rfl rfl)<|ym rfl (i64 r11)<|ym rfl (i64 v10)<|yd rfl (f32 r12) (TOp.callB (CallAs.func ent87 rfl rfl) (Bors.cons (Bor.optrT 3 rfl (Bors.p (bP (bP (Bors.cons (Bor.own (f := f32) (fun _ => rfl) rfl hl7) (Bors.cons (Bor.own (f := i64) (fun _ => rfl) rfl hl9) bN))))) rfl) (bP bN0)) rfl rfl (s_l02At_ok r2 r3 L6 r11 v10 r12 hf7))<|yl rfl (b true) (LOp.eqb (LOp.feq rfl (OpF.tmp rfl) (OpF.const rfl (by kernel_rfl) (by kernel_rfl))) hc8)<|zN ?_
     refine yT<|zQ<|yl rfl (agg [i64 0, i64 0, nilsl, nilsl]) (LOp.build (qs := []) zer32 zok32 und32 plc32 rfl trivial rfl)<|ys (agg [i64 0, i64 0, nilsl, nilsl]) [i64 0, i64 0, nilsl, nilsl] ([⟨1, some [i64 0, i64 0, nilsl, nilsl]⟩, ⟨1, some (L6.map f32)⟩, ⟨1, some (L8.map i64)⟩, ⟨1, some [i64 r2, i64 r3, oref 1 1 0 r4.length, oref 2 1 0 r5.length]⟩, ⟨0, none⟩, ⟨0, none⟩]) siz32<|ya rfl (b false)<|zN ?_
     refine RunC.nil_cell (l' := [i64 0, i64 0, oref 4 1 0 0, nilsl]) (Γ' := [⟨1, some [i64 0, i64 0, oref 4 1 0 0, nilsl]⟩, ⟨1, some (L6.map f32)⟩, ⟨1, some (L8.map i64)⟩, ⟨1, some [i64 r2, i64 r3, oref 1 1 0 r4.length, oref 2 1 0 r5.length]⟩, ⟨1, some (([] : List F).map f32)⟩, ⟨0, none⟩]) 0 2 4 rfl rfl rfl rfl rfl<|RunC.nil_cell (l' := [i64 0, i64 0, oref 4 1 0 0, oref 5 1 0 0]) (Γ' := [⟨1, some [i64 0, i64 0, oref 4 1 0 0, oref 5 1 0 0]⟩, ⟨1, some (L6.map f32)⟩, ⟨1, some (L8.map i64)⟩, ⟨1, some [i64 r2, i64 r3, oref 1 1 0 r4.length, oref 2 1 0 r5.length]⟩, ⟨1, some (([] : List F).map f32)⟩, ⟨1, some (([] : List Int).map i64)⟩]) 0 3 5 rfl rfl rfl rfl rfl<|RunC.ret ?_
     cases oI h2_
     have hx3_ := hr2 _ rfl
     subst hx3_
     have hq := oI h
     obtain ⟨hq0, hq⟩ := Prod.mk.inj hq
     obtain ⟨hq1, hq⟩ := Prod.mk.inj hq
     obtain ⟨hq2, hq⟩ := Prod.mk.inj hq
     obtain ⟨hq3, hq⟩ := Prod.mk.inj hq
     subst q0
     subst q1
     subst q2
     subst q3
     subst q4
     exact yB (tup [agg [i64 0, i64 0, oref 4 1 0 (([] : List F).length), oref 5 1 0 (([] : List Int).length)], b false]) [(4, 1), (5, 1)] (Res.eq (Res.two rfl (RV.cell agg32 siz32 rfl rfl rfl rfl) (RV.tmp rfl)) (by rw [(show ([] : List F).length = 0 from rfl), (show ([] : List Int).length = 0 from rfl)] <;> rfl)) (SelL.arr0 (f := f32) (fun _ => rfl) rfl (SelL.arr0 (f := i64) (fun _ => rfl) rfl trivial))
    ·refine yW<|yl rfl (optr 3 1 0) (LOp.fao und32 rfl siz27 rfl rfl rfl)<|ym rfl (i64 r11)<|ym rfl (i64 v10)<|yd rfl (f32 r12) (TOp.callB (CallAs.func ent87 rfl rfl) (Bors.cons (Bor.optrT 3 rfl (Bors.p (bP (bP (Bors.cons (Bor.own (f := f32) (fun _ => rfl) rfl hl7) (Bors.cons (Bor.own (f := i64) (fun _ => rfl) rfl hl9) bN))))) rfl) (bP bN0)) rfl rfl (s_l02At_ok r2 r3 L6 r11 v10 r12 hf7))<|yl rfl (b false) (LOp.eqb (LOp.feq rfl (OpF.tmp rfl) (OpF.const rfl (by kernel_rfl) (by kernel_rfl))) hc8)<|zN ?_
     refine yF<|RunC.skip<|yS ?_
     obtain ⟨r13, r14, hf9, h2_⟩ := obind2_some h2_
     obtain ⟨hn10, h2_⟩ := need_some h2_
     obtain ⟨hn11, h2_⟩ := need_some h2_
     refine yW<|yl rfl (optr 3 1 0) (LOp.fao und32 rfl siz27 rfl rfl rfl)<|ym rfl (i64 v10)<|ym rfl (i64 r11)<|ROps.callO (A := [optr 3 1 0, i64 v10, i64 r11]) (args := [optr 0 0 0, i64 v10, i64 r11]) (Γc := [⟨0, some [i64 r2, i64 r3, oref 1 0 0 L6.length, oref 2 0 0 L8.length]⟩, ⟨0, some (L6.map f32)⟩, ⟨0, some (L8.map i64)⟩]) (Γc' := [⟨0, some [i64 r2, i64 r3, oref 1 0 0 L6.length, oref 2 0 0 L8.length]⟩, ⟨0, some (r13.map f32)⟩, ⟨0, some (r14.map i64)⟩]) (r' := tup []) (Γ' := [⟨1, some [i64 0, i64 0, nilsl, nilsl]⟩, ⟨1, some (r13.map f32)⟩, ⟨1, some (r14.map i64)⟩, ⟨1, some [i64 r2, i64 r3, oref 1 1 0 r4.length, oref 2 1 0 r5.length]⟩, ⟨0, none⟩, ⟨0, none⟩]) [(3, 1), (1, 1), (2, 1)] [] rfl (CallAs.func ent88 rfl rfl) rfl rfl (SelOk.of (show List.Nodup [3, 1, 2] from by decide) (SelL.cells0 rfl (by simp [ren, rens, sigma, rens_f32, rens_f64, rens_i64, rens_ik, rens_str, rens_cp, hl7, hl9]) rfl (SelL.arr0 (f := f32) (fun _ => rfl) rfl (SelL.arr0 (f := i64) (fun _ => rfl) rfl trivial)))) (live_of ⟨⟨_, _, rfl⟩, ⟨_, _, rfl⟩, ⟨_, _, rfl⟩, trivial⟩) (by simp [ren, rens, sigma, rens_f32, rens_f64, rens_i64, rens_ik, rens_str, rens_cp, hl7, hl9]) rfl (s_l03Swap_0p0_C02o1_3o2_ok v10 r11 r2 r3 L6 L8 r13 r14 hf9) rfl (news_of trivial) (show List.Nodup [3, 1, 2] from by decide) (by simp [ren, rens, sigma, of_decide_eq_true hn10, of_decide_eq_true hn11]) (by simp [backOb, sigma, ren, rens, rens_f32, rens_f64, rens_i64, rens_ik, rens_str, rens_cp, hl7, hl9, of_decide_eq_true hn10, of_decide_eq_true hn11])<|zN ?_
     refine RunC.wl (τ' := [(1, ptr (mXc a0 a1 a2)), (2, optr 0 1 0), (4, optr 3 1 0), (5, i64 v10), (6, i64 r11)]) (Γ' := [⟨1, some [i64 0, i64 0, nilsl, nilsl]⟩, ⟨1, some (r13.map f32)⟩, ⟨1, some (r14.map i64)⟩, ⟨1, some [i64 r2, i64 r3, oref 1 1 0 r4.length, oref 2 1 0 r5.length]⟩, ⟨0, none⟩, ⟨0, none⟩]) ⟨aR, aR, aR, aR, aR, trivial⟩ ⟨⟨rfl, .inr rfl⟩, ⟨rfl, .inr rfl⟩, ⟨rfl, .inr rfl⟩, ⟨rfl, .inr rfl⟩, ⟨rfl, .inr rfl⟩, ⟨rfl, .inr rfl⟩, trivial⟩<|yS ?_
     obtain ⟨r15, hf12, h2_⟩ := oS h2_
     obtain ⟨hn13, h2_⟩ := need_some h2_
     refine yW<|yl rfl (optr 3 1 3) (LOp.fao und32 rfl siz30 rfl rfl rfl)<|yd rfl (oref 2 1 0 r5.length) (TOp.load1_o rfl rfl agg30 rfl rfl)<|ym rfl (i64 v10)<|ym rfl (i64 r11)<|ROps.callO (A := [oref 2 1 0 r5.length, i64 v10, i64 r11]) (args := [oref 0 0 0 r14.length, i64 v10, i64 r11]) (Γc := [⟨0, some (r14.map i64)⟩]) (Γc' := [⟨0, some (r15.map i64)⟩]) (r' := tup []) (Γ' := [⟨1, some [i64 0, i64 0, nilsl, nilsl]⟩, ⟨1, some (r13.map f32)⟩, ⟨1, some (r15.map i64)⟩, ⟨1, some [i64 r2, i64 r3, oref 1 1 0 r4.length, oref 2 1 0 r5.length]⟩, ⟨0, none⟩, ⟨0, none⟩]) [(2, 1)] [] rfl (CallAs.func ent89 rfl rfl) rfl rfl (SelOk.of (show List.Nodup [2] from by decide) (SelL.arr0 (f := i64) (fun _ => rfl) rfl trivial)) (live_of ⟨⟨_, _, rfl⟩, trivial⟩) (by simp [ren, rens, sigma, rens_f32, rens_f64, rens_i64, rens_ik, rens_str, rens_cp, (of_decide_eq_true hn11)]) rfl (s_l03Trade_0o_ok v10 r11 r14 r15 hf12) rfl (news_of trivial) (show List.Nodup [2] from by decide) (by simp [ren, rens, sigma, of_decide_eq_true hn13]) (by simp [backOb, sigma, ren, rens, rens_f32, rens_f64, rens_i64, rens_ik, rens_str, rens_cp])<|zN ?_
     refine yS ?_
     obtain ⟨r16, r17, r18, hf14, h2_⟩ := obind3_some h2_
     obtain ⟨hn15, h2_⟩ := need_some h2_
     obtain ⟨hn16, h2_⟩ := need_some h2_
     rcases oB h2_ with ⟨hc17, h2_⟩ | ⟨hc17, h2_⟩
     ·refine yW<|yl rfl (optr 3 1 0) (LOp.fao und32 rfl siz27 rfl rfl rfl)<|ym rfl (i64 v10)<|ROps.callO (A := [optr 3 1 0, i64 v10]) (args := [optr 0 0 0, i64 v10]) (Γc := [⟨0, some [i64 r2, i64 r3, oref 1 0 0 r13.length, oref 2 0 0 r15.length]⟩, ⟨0, some (r13.map f32)⟩, ⟨0, some (r15.map i64)⟩]) (Γc' := [⟨0, some [i64 r2, i64 r3, oref 1 0 0 r13.length, oref 2 0 0 r15.length]⟩, ⟨0, some (r17.map f32)⟩, ⟨0, some (r18.map i64)⟩]) (r' := b r16) (Γ' := [⟨1, some [i64 0, i64 0, nilsl, nilsl]⟩, ⟨1, some (r17.map f32)⟩, ⟨1, some (r18.map i64)⟩, ⟨1, some [i64 r2, i64 r3, oref 1 1 0 r4.length, oref 2 1 0 r5.length]⟩, ⟨0, none⟩, ⟨0, none⟩]) [(3, 1), (1, 1), (2, 1)] [] rfl (CallAs.func ent90 rfl rfl) rfl rfl (SelOk.of (show List.Nodup [3, 1, 2] from by decide) (SelL.cells0 rfl (by simp [ren, rens, sigma, rens_f32, rens_f64, rens_i64, rens_ik, rens_str, rens_cp, (of_decide_eq_true hn10), (of_decide_eq_true hn13)]) rfl (SelL.arr0 (f := f32) (fun _ => rfl) rfl (SelL.arr0 (f := i64) (fun _ => rfl) rfl trivial)))) (live_of ⟨⟨_, _, rfl⟩, ⟨_, _, rfl⟩, ⟨_, _, rfl⟩, trivial⟩) (by simp [ren, rens, sigma, rens_f32, rens_f64, rens_i64, rens_ik, rens_str, rens_cp, (of_decide_eq_true hn10), (of_decide_eq_true hn13)]) rfl (s_l03Clear_0p0_C02o1_3o2_ok v10 r2 r3 r13 r15 r16 r17 r18 hf14) rfl (news_of trivial) (show List.Nodup [3, 1, 2] from by decide) (by simp [ren, rens, sigma, of_decide_eq_true hn15, of_decide_eq_true hn16]) (by simp [backOb, sigma, ren, rens, rens_f32, rens_f64, rens_i64, rens_ik, rens_str, rens_cp, (of_decide_eq_true hn10), (of_decide_eq_true hn13), of_decide_eq_true hn15, of_decide_eq_true hn16])<|yl rfl (b true) (LOp.eqb (LOp.not rfl rfl) hc17)<|zN ?_
      refine yT<|zQ<|yl rfl (agg [i64 0, i64 0, nilsl, nilsl]) (LOp.build (qs := []) zer32 zok32 und32 plc32 rfl trivial rfl)<|ys (agg [i64 0, i64 0, nilsl, nilsl]) [i64 0, i64 0, nilsl, nilsl] ([⟨1, some [i64 0, i64 0, nilsl, nilsl]⟩, ⟨1, some (r17.map f32)⟩, ⟨1, some (r18.map i64)⟩, ⟨1, some [i64 r2, i64 r3, oref 1 1 0 r4.length, oref 2 1 0 r5.length]⟩, ⟨0, none⟩, ⟨0, none⟩]) siz32<|ya rfl (b false)<|zN ?_
      refine RunC.nil_cell (l' := [i64 0, i64 0, oref 4 1 0 0, nilsl]) (Γ' := [⟨1, some [i64 0, i64 0, oref 4 1 0 0, nilsl]⟩, ⟨1, some (r17.map f32)⟩, ⟨1, some (r18.map i64)⟩, ⟨1, some [i64 r2, i64 r3, oref 1 1 0 r4.length, oref 2 1 0 r5.length]⟩, ⟨1, some (([] : List F).map f32)⟩, ⟨0, none⟩]) 0 2 4 rfl rfl rfl rfl rfl<|RunC.nil_cell (l' := [i64 0, i64 0, oref 4 1 0 0, oref 5 1 0 0]) (Γ' := [⟨1, some [i64 0, i64 0, oref 4 1 0 0, oref 5 1 0 0]⟩, ⟨1, some (r17.map f32)⟩, ⟨1, some (r18.map i64)⟩, ⟨1, some [i64 r2, i64 r3, oref 1 1 0 r4.length, oref 2 1 0 r5.length]⟩, ⟨1, some (([] : List F).map f32)⟩, ⟨1, some (([] : List Int).map i64)⟩]) 0 3 5 rfl rfl rfl rfl rfl<|RunC.ret ?_
      cases oI h2_
      have hx4_ := hr2 _ rfl
      subst hx4_
      have hq := oI h
      obtain ⟨hq0, hq⟩ := Prod.mk.inj hq
      obtain ⟨hq1, hq⟩ := Prod.mk.inj hq
      obtain ⟨hq2, hq⟩ := Prod.mk.inj hq
      obtain ⟨hq3, hq⟩ := Prod.mk.inj hq
      subst q0
      subst q1
      subst q2
      subst q3
      subst q4
      exact yB (tup [agg [i64 0, i64 0, oref 4 1 0 (([] : List F).length), oref 5 1 0 (([] : List Int).length)], b false]) [(4, 1), (5, 1)] (Res.eq (Res.two rfl (RV.cell agg32 siz32 rfl rfl rfl rfl) (RV.tmp rfl)) (by rw [(show ([] : List F).length = 0 from rfl), (show ([] : List Int).length = 0 from rfl)] <;> rfl)) (SelL.arr0 (f := f32) (fun _ => rfl) rfl (SelL.arr0 (f := i64) (fun _ => rfl) rfl trivial))
     ·refine yW<|yl rfl (optr 3 1 0) (LOp.fao und32 rfl siz27 rfl rfl rfl)<|ym rfl (i64 v10)<|ROps.callO (A := [optr 3 1 0, i64 v10]) (args := [optr 0 0 0, i64 v10]) (Γc := [⟨0, some [i64 r2, i64 r3, oref 1 0 0 r13.length, oref 2 0 0 r15.length]⟩, ⟨0, some (r13.map f32)⟩, ⟨0, some (r15.map i64)⟩]) (Γc' := [⟨0, some [i64 r2, i64 r3, oref 1 0 0 r13.length, oref 2 0 0 r15.length]⟩, ⟨0, some (r17.map f32)⟩, ⟨0, some (r18.map i64)⟩]) (r' := b r16) (Γ' := [⟨1, some [i64 0, i64 0, nilsl, nilsl]⟩, ⟨1, some (r17.map f32)⟩, ⟨1, some (r18.map i64)⟩, ⟨1, some [i64 r2, i64 r3, oref 1 1 0 r4.length, oref 2 1 0 r5.length]⟩, ⟨0, none⟩, ⟨0, none⟩]) [(3, 1), (1, 1), (2, 1)] [] rfl (CallAs.func ent90 rfl rfl) rfl rfl (SelOk.of (show List.Nodup [3, 1, 2] from by decide) (SelL.cells0 rfl (by simp [ren, rens, sigma, rens_f32, rens_f64, rens_i64, rens_ik, rens_str, rens_cp, (of_decide_eq_true hn10), (of_decide_eq_true hn13)]) rfl (SelL.arr0 (f := f32) (fun _ => rfl) rfl (SelL.arr0 (f := i64) (fun _ => rfl) rfl trivial)))) (live_of ⟨⟨_, _, rfl⟩, ⟨_, _, rfl⟩, ⟨_, _, rfl⟩, trivial⟩) (by simp [ren, rens, sigma, rens_f32, rens_f64, rens_i64, rens_ik, rens_str, rens_cp, (of_decide_eq_true hn10), (of_decide_eq_true hn13)]) rfl (s_l03Clear_0p0_C02o1_3o2_ok v10 r2 r3 r13 r15 r16 r17 r18 hf14) rfl (news_of trivial) (show List.Nodup [3, 1, 2] from by decide) (by simp [ren, rens, sigma, of_decide_eq_true hn15, of_decide_eq_true hn16]) (by simp [backOb, sigma, ren, rens, rens_f32, rens_f64, rens_i64, rens_ik, rens_str, rens_cp, (of_decide_eq_true hn10), (of_decide_eq_true hn13), of_decide_eq_true hn15, of_decide_eq_true hn16])<|yl rfl (b false) (LOp.eqb (LOp.not rfl rfl) hc17)<|zN ?_
      refine yF<|RunC.skip ?_
      obtain ⟨x19, hx18, h2_⟩ := oL h2_
      refine yW<|ym rfl (i64 v10)<|yl rfl (i64 x19) (LOp.eqr (LOp.add rfl rfl rfl) (congrArg (ik .i64) hx18))<|ya rfl (i64 x19)<|zN ?_
      cases oI h2_
      exact ⟨_, rfl, (of_decide_eq_true hn15), (of_decide_eq_true hn16), ⟨aR, aR, aR, aR, trivial⟩, ⟨⟨rfl, .inr rfl⟩, ⟨rfl, .inr rfl⟩, ⟨rfl, .inr rfl⟩, ⟨rfl, .inr rfl⟩, ⟨rfl, .inr rfl⟩, ⟨rfl, .inr rfl⟩, trivial⟩⟩
   ·refine yW<|ym rfl (i64 v10)<|yl rfl (ptr (mXc a0 a1 a2)) (LOp.fap und27 rfl siz2 rfl rfl rfl)<|yl rfl (i64 a0) (y2 agg2)<|yl rfl (b false) (LOp.eqb (LOp.lss rfl rfl rfl) hc5)<|zN ?_
    refine yF<|RunC.exit ?_
    cases oI h2_
    have hx := ho2 _ rfl
    exact ⟨L6, L8, hl7, hl9, ⟨aR, aR, trivial⟩, ⟨⟨rfl, .inr rfl⟩, ⟨rfl, .inr rfl⟩, ⟨rfl, .inr rfl⟩, ⟨rfl, .inr rfl⟩, ⟨rfl, .inr rfl⟩, ⟨rfl, .inr rfl⟩, trivial⟩, hx⟩
  ·rintro τ5 Γ5 ⟨L20, L22, hl21, hl23, hw5, hd5, rfl⟩
   refine RunC.wl hw5 hd5 ?_
   replace h : s_FactorRows_k1 r2 r3 L20 L22 = some (q0, q1, q2, q3, q4) := h
   unfold s_FactorRows_k1 at h
   refine zQ<|yd rfl (agg [i64 r2, i64 r3, oref 1 1 0 r4.length, oref 2 1 0 r5.length]) (TOp.loadAgg_o rfl agg32 siz32 rfl rfl rfl rfl)<|ys (agg [i64 r2, i64 r3, oref 1 1 0 r4.length, oref 2 1 0 r5.length]) [i64 r2, i64 r3, oref 1 1 0 r4.length, oref 2 1 0 r5.length] ([⟨1, some [i64 r2, i64 r3, oref 1 1 0 r4.length, oref 2 1 0 r5.length]⟩, ⟨1, some (L20.map f32)⟩, ⟨1, some (L22.map i64)⟩, ⟨1, some [i64 r2, i64 r3, oref 1 1 0 r4.length, oref 2 1 0 r5.length]⟩, ⟨0, none⟩, ⟨0, none⟩]) siz32<|ya rfl (b true)<|zN ?_
   refine RunC.ret ?_
   have hq := oI h
   obtain ⟨hq0, hq⟩ := Prod.mk.inj hq
   obtain ⟨hq1, hq⟩ := Prod.mk.inj hq
   obtain ⟨hq2, hq⟩ := Prod.mk.inj hq
   obtain ⟨hq3, hq⟩ := Prod.mk.inj hq
   subst q0
   subst q1
   subst q2
   subst q3
   subst q4
   exact yB (tup [agg [i64 r2, i64 r3, oref 1 1 0 L20.length, oref 2 1 0 L22.length], b true]) [(1, 1), (2, 1)] (Res.eq (Res.two rfl (RV.cell agg32 siz32 rfl rfl rfl rfl) (RV.tmp rfl)) (by rw [(show L20.length = r4.length from hl21), (show L22.length = r5.length from hl23)] <;> rfl)) (SelL.arr0 (f := f32) (fun _ => rfl) rfl (SelL.arr0 (f := i64) (fun _ => rfl) rfl trivial))
 ·refine yW<|yd rfl (b false) (TOp.eqb (TOp.callB (CallAs.func ent83 rfl rfl) (Bors.cons (Bor.ptr (bP (bP (bS bN)))) bN) rfl rfl (s_l02Square_ok a0 a1 a2 r1 hf1)) hc2)<|yl rfl (b true) y0<|zN ?_
  refine yT<|zQ<|yl rfl (agg [i64 0, i64 0, nilsl, nilsl]) (LOp.build (qs := []) zer32 zok32 und32 plc32 rfl trivial rfl)<|ys (agg [i64 0, i64 0, nilsl, nilsl]) [i64 0, i64 0, nilsl, nilsl] ([⟨1, some [i64 0, i64 0, nilsl, nilsl]⟩, ⟨0, none⟩, ⟨0, none⟩, ⟨0, none⟩, ⟨0, none⟩, ⟨0, none⟩]) siz32<|ya rfl (b false)<|zN ?_
  refine RunC.nil_cell (l' := [i64 0, i64 0, oref 1 1 0 0, nilsl]) (Γ' := [⟨1, some [i64 0, i64 0, oref 1 1 0 0, nilsl]⟩, ⟨1, some (([] : List F).map f32)⟩, ⟨0, none⟩, ⟨0, none⟩, ⟨0, none⟩, ⟨0, none⟩]) 0 2 1 rfl rfl rfl rfl rfl<|RunC.nil_cell (l' := [i64 0, i64 0, oref 1 1 0 0, oref 2 1 0 0]) (Γ' := [⟨1, some [i64 0, i64 0, oref 1 1 0 0, oref 2 1 0 0]⟩, ⟨1, some (([] : List F).map f32)⟩, ⟨1, some (([] : List Int).map i64)⟩, ⟨0, none⟩, ⟨0, none⟩, ⟨0, none⟩]) 0 3 2 rfl rfl rfl rfl rfl<|RunC.ret ?_
  have hq := oI h
  obtain ⟨hq0, hq⟩ := Prod.mk.inj hq
  obtain ⟨hq1, hq⟩ := Prod.mk.inj hq
  obtain ⟨hq2, hq⟩ := Prod.mk.inj hq
  obtain ⟨hq3, hq⟩ := Prod.mk.inj hq
  subst q0
  subst q1
  subst q2
  subst q3
  subst q4
  exact yB (tup [agg [i64 0, i64 0, oref 1 1 0 (([] : List F).length), oref 2 1 0 (([] : List Int).length)], b false]) [(1, 1), (2, 1)] (Res.eq (Res.two rfl (RV.cell agg32 siz32 rfl rfl rfl rfl) (RV.tmp rfl)) (by rw [(show ([] : List F).length = 0 from rfl), (show ([] : List Int).length = 0 from rfl)] <;> rfl)) (SelL.arr0 (f := f32) (fun _ => rfl) rfl (SelL.arr0 (f := i64) (fun _ => rfl) rfl trivial))
def i_isSide (a0 : Int) : Option (Bool) :=
 obind (i_inRange a0 1 12) fun (r1 : Bool) =>
 some r1
theorem i_isSide_ok (a0 : Int) (q0 : Bool) (h : i_isSide a0 = some q0) : Ev Tryz.prog 93 [i64 a0] [] (b q0) [] := by
 refine yE Tryz.func93 0 11 0 [(0, i64 a0)] [] rfl ?_
 unfold i_isSide at h
 refine zQ<|ya rfl (b false)<|zN ?_
 refine yS ?_
 obtain ⟨r1, hf1, h⟩ := oS h
 refine yW<|ym rfl (i64 a0)<|yd rfl (b r1) (yc ent112 rfl rfl (bP (bP bN0)) (i_inRange_ok a0 1 12 r1 hf1))<|ya rfl (b r1)<|zN ?_
 refine RunC.ret ?_
 have hq := oI h
 subst q0
 exact bodyQ.pure (.inr rfl) rfl (Res.one rfl (RV.tmp rfl))
def i_ValidMatrix (a0 : Int) (a1 : Int) (a2 : List F) : Option (Bool) :=
 obind (i_isSide a0) fun (r1 : Bool) =>
 bsel r1 (
  obind (i_isSide a1) fun (r2 : Bool) =>
  bsel r2 (
   obind (i_length_float32 a2) fun (r3 : Int) =>
   olet (IntKind.i64.wrap (a0 * a1)) fun (x4 : Int) =>
   bsel (decide (r3 = x4)) (
    obind (i_areFinite a2) fun (r5 : Bool) =>
    some r5) (
    some false)) (
   some false)) (
  some false)
theorem i_ValidMatrix_ok (a0 : Int) (a1 : Int) (a2 : List F) (q0 : Bool) (h : i_ValidMatrix a0 a1 a2 = some q0) : Ev Tryz.prog 45 [agg (mXc a0 a1 a2)] [] (b q0) [] := by
 refine yE Tryz.func45 0 55 0 [(0, agg (mXc a0 a1 a2))] [] rfl ?_
 unfold i_ValidMatrix at h
 refine zQ<|yd rfl (ptr (mXc a0 a1 a2)) (TOp.box_s rfl rfl rfl)<|ya rfl (b false)<|zN ?_
 refine yS ?_
 obtain ⟨r1, hf1, h⟩ := oS h
 rcases oB h with ⟨hc2, h⟩ | ⟨hc2, h⟩
 ·obtain ⟨r2, hf3, h⟩ := oS h
  rcases oB h with ⟨hc4, h⟩ | ⟨hc4, h⟩
  ·obtain ⟨r3, hf5, h⟩ := oS h
   obtain ⟨x4, hx6, h⟩ := oL h
   rcases oB h with ⟨hc7, h⟩ | ⟨hc7, h⟩
   ·obtain ⟨r5, hf8, h⟩ := oS h
    refine RunC.region_draw (Γ' := []) 25 mixed 
     (tl rfl (ptr (mXc a0 a1 a2)) (LOp.fap und27 rfl siz2 rfl rfl rfl) <|
     (tl rfl (i64 a0) (y2 agg2) <|
     (TR.d (r := b true) (fs := []) rfl rfl (TOp.eqb (yc ent93 rfl rfl bN0 (i_isSide_ok a0 r1 hf1)) hc2) <|
     (tm rfl (b true) <|
     (tl rfl (ptr [i64 a1, (sFc a2)]) (LOp.fap und27 rfl siz2 rfl rfl rfl) <|
     (tl rfl (i64 a1) (y2 agg2) <|
     (TR.d (r := b true) (fs := []) rfl rfl (TOp.eqb (yc ent93 rfl rfl bN0 (i_isSide_ok a1 r2 hf3)) hc4) <|
     (tl rfl (b true) yq <|
     (tm rfl (b true) <|
     (tl rfl (ptr [(sFc a2)]) (LOp.fap und27 rfl siz25 rfl rfl rfl) <|
     (tl rfl (sFc a2) (y2 agg25) <|
     (TR.d (r := i64 r3) (fs := []) rfl rfl (yc ent98 rfl rfl (bS bN) (i_length_float32_ok a2 r3 hf5)) <|
     (tl rfl (ptr (mXc a0 a1 a2)) (LOp.fap und27 rfl siz2 rfl rfl rfl) <|
     (tl rfl (i64 a0) (y2 agg2) <|
     (tl rfl (ptr [i64 a1, (sFc a2)]) (LOp.fap und27 rfl siz2 rfl rfl rfl) <|
     (tl rfl (i64 a1) (y2 agg2) <|
     (tl rfl (i64 x4) (LOp.eqr (LOp.mul rfl rfl rfl) (congrArg (ik .i64) hx6)) <|
     (tl rfl (b true) (LOp.eqb (LOp.eql rfl rfl rfl) hc7) <|
     (tl rfl (b true) yq <|
     (tm rfl (b true) <|
     (tl rfl (ptr [(sFc a2)]) (LOp.fap und27 rfl siz25 rfl rfl rfl) <|
     (tl rfl (sFc a2) (y2 agg25) <|
     (TR.d (r := b r5) (fs := []) rfl rfl (yc ent99 rfl rfl (bS bN) (i_areFinite_ok a2 r5 hf8)) <|
     (tl rfl (b r5) yq <|
     (tl rfl (b r5) (LOp.assign rfl rfl) <|
     TR.nil))))))))))))))))))))))))) rfl (by kernel_rfl) rfl fills_nil rfl ?_
    iterate 25 refine ROps.dropS ?_
    refine ROps.drop0<|zN ?_
    refine RunC.ret ?_
    have hq := oI h
    subst q0
    exact bodyQ.pure (.inr rfl) rfl (Res.one rfl (RV.tmp rfl))
   ·refine RunC.region_draw (Γ' := []) 25 mixed 
     (tl rfl (ptr (mXc a0 a1 a2)) (LOp.fap und27 rfl siz2 rfl rfl rfl) <|
     (tl rfl (i64 a0) (y2 agg2) <|
     (TR.d (r := b true) (fs := []) rfl rfl (TOp.eqb (yc ent93 rfl rfl bN0 (i_isSide_ok a0 r1 hf1)) hc2) <|
     (tm rfl (b true) <|
     (tl rfl (ptr [i64 a1, (sFc a2)]) (LOp.fap und27 rfl siz2 rfl rfl rfl) <|
     (tl rfl (i64 a1) (y2 agg2) <|
     (TR.d (r := b true) (fs := []) rfl rfl (TOp.eqb (yc ent93 rfl rfl bN0 (i_isSide_ok a1 r2 hf3)) hc4) <|
     (tl rfl (b true) yq <|
     (tm rfl (b true) <|
     (tl rfl (ptr [(sFc a2)]) (LOp.fap und27 rfl siz25 rfl rfl rfl) <|
     (tl rfl (sFc a2) (y2 agg25) <|
     (TR.d (r := i64 r3) (fs := []) rfl rfl (yc ent98 rfl rfl (bS bN) (i_length_float32_ok a2 r3 hf5)) <|
     (tl rfl (ptr (mXc a0 a1 a2)) (LOp.fap und27 rfl siz2 rfl rfl rfl) <|
     (tl rfl (i64 a0) (y2 agg2) <|
     (tl rfl (ptr [i64 a1, (sFc a2)]) (LOp.fap und27 rfl siz2 rfl rfl rfl) <|
     (tl rfl (i64 a1) (y2 agg2) <|
     (tl rfl (i64 x4) (LOp.eqr (LOp.mul rfl rfl rfl) (congrArg (ik .i64) hx6)) <|
     (tl rfl (b false) (LOp.eqb (LOp.eql rfl rfl rfl) hc7) <|
     (tl rfl (b false) yq <|
     (tm rfl (b false) <|
     (ts rfl <|
     (ts rfl <|
     (ts rfl <|
     (tl rfl (b false) yp <|
     (tl rfl (b false) (LOp.assign rfl rfl) <|
     TR.nil))))))))))))))))))))))))) rfl (by kernel_rfl) rfl fills_nil rfl ?_
    iterate 25 refine ROps.dropS ?_
    refine ROps.drop0<|zN ?_
    refine RunC.ret ?_
    have hq := oI h
    subst q0
    exact bodyQ.pure (.inr rfl) rfl (Res.one rfl (RV.tmp rfl))
  ·refine RunC.region_draw (Γ' := []) 25 mixed 
    (tl rfl (ptr (mXc a0 a1 a2)) (LOp.fap und27 rfl siz2 rfl rfl rfl) <|
    (tl rfl (i64 a0) (y2 agg2) <|
    (TR.d (r := b true) (fs := []) rfl rfl (TOp.eqb (yc ent93 rfl rfl bN0 (i_isSide_ok a0 r1 hf1)) hc2) <|
    (tm rfl (b true) <|
    (tl rfl (ptr [i64 a1, (sFc a2)]) (LOp.fap und27 rfl siz2 rfl rfl rfl) <|
    (tl rfl (i64 a1) (y2 agg2) <|
    (TR.d (r := b false) (fs := []) rfl rfl (TOp.eqb (yc ent93 rfl rfl bN0 (i_isSide_ok a1 r2 hf3)) hc4) <|
    (tl rfl (b false) yq <|
    (tm rfl (b false) <|
    (ts rfl <|
    (ts rfl <|
    (ts rfl <|
    (ts rfl <|
    (ts rfl <|
    (ts rfl <|
    (ts rfl <|
    (ts rfl <|
    (ts rfl <|
    (tl rfl (b false) yp <|
    (tm rfl (b false) <|
    (ts rfl <|
    (ts rfl <|
    (ts rfl <|
    (tl rfl (b false) yp <|
    (tl rfl (b false) (LOp.assign rfl rfl) <|
    TR.nil))))))))))))))))))))))))) rfl (by kernel_rfl) rfl fills_nil rfl ?_
   iterate 25 refine ROps.dropS ?_
   refine ROps.drop0<|zN ?_
   refine RunC.ret ?_
   have hq := oI h
   subst q0
   exact bodyQ.pure (.inr rfl) rfl (Res.one rfl (RV.tmp rfl))
 ·refine RunC.region_draw (Γ' := []) 25 mixed 
   (tl rfl (ptr (mXc a0 a1 a2)) (LOp.fap und27 rfl siz2 rfl rfl rfl) <|
   (tl rfl (i64 a0) (y2 agg2) <|
   (TR.d (r := b false) (fs := []) rfl rfl (TOp.eqb (yc ent93 rfl rfl bN0 (i_isSide_ok a0 r1 hf1)) hc2) <|
   (tm rfl (b false) <|
   (ts rfl <|
   (ts rfl <|
   (ts rfl <|
   (tl rfl (b false) yp <|
   (tm rfl (b false) <|
   (ts rfl <|
   (ts rfl <|
   (ts rfl <|
   (ts rfl <|
   (ts rfl <|
   (ts rfl <|
   (ts rfl <|
   (ts rfl <|
   (ts rfl <|
   (tl rfl (b false) yp <|
   (tm rfl (b false) <|
   (ts rfl <|
   (ts rfl <|
   (ts rfl <|
   (tl rfl (b false) yp <|
   (tl rfl (b false) (LOp.assign rfl rfl) <|
   TR.nil))))))))))))))))))))))))) rfl (by kernel_rfl) rfl fills_nil rfl ?_
  iterate 25 refine ROps.dropS ?_
  refine ROps.drop0<|zN ?_
  refine RunC.ret ?_
  have hq := oI h
  subst q0
  exact bodyQ.pure (.inr rfl) rfl (Res.one rfl (RV.tmp rfl))
def i_isSquare (a0 : Int) (a1 : Int) (a2 : List F) : Option (Bool) :=
 obind (i_ValidMatrix a0 a1 a2) fun (r1 : Bool) =>
 bsel r1 (
  some (decide (a0 = a1))) (
  some false)
theorem i_isSquare_ok (a0 : Int) (a1 : Int) (a2 : List F) (q0 : Bool) (h : i_isSquare a0 a1 a2 = some q0) : Ev Tryz.prog 37 [agg (mXc a0 a1 a2)] [] (b q0) [] := by
 refine yE Tryz.func37 0 25 0 [(0, agg (mXc a0 a1 a2))] [] rfl ?_
 unfold i_isSquare at h
 refine zQ<|yd rfl (ptr (mXc a0 a1 a2)) (TOp.box_s rfl rfl rfl)<|ya rfl (b false)<|zN ?_
 refine yS ?_
 obtain ⟨r1, hf1, h⟩ := oS h
 rcases oB h with ⟨hc2, h⟩ | ⟨hc2, h⟩
 ·refine yW<|yl rfl (agg (mXc a0 a1 a2)) (yL agg27 siz27)<|yd rfl (b true) (TOp.eqb (TOp.callB (CallAs.func ent45 rfl rfl) (Bors.cons (Bor.agg (bP (bP (bS bN)))) bN) rfl rfl (i_ValidMatrix_ok a0 a1 a2 r1 hf1)) hc2)<|ym rfl (b true)<|yl rfl (ptr (mXc a0 a1 a2)) (LOp.fap und27 rfl siz2 rfl rfl rfl)<|yl rfl (i64 a0) (y2 agg2)<|yl rfl (ptr [i64 a1, (sFc a2)]) (LOp.fap und27 rfl siz2 rfl rfl rfl)<|yl rfl (i64 a1) (y2 agg2)<|yl rfl (b (decide (a0 = a1))) (LOp.eql rfl rfl rfl)<|yl rfl (b (decide (a0 = a1))) yq<|ya rfl (b (decide (a0 = a1)))<|zN ?_
  refine RunC.ret ?_
  have hq := oI h
  subst q0
  exact bodyQ.pure (.inr rfl) rfl (Res.one rfl (RV.tmp rfl))
 ·refine yW<|yl rfl (agg (mXc a0 a1 a2)) (yL agg27 siz27)<|yd rfl (b false) (TOp.eqb (TOp.callB (CallAs.func ent45 rfl rfl) (Bors.cons (Bor.agg (bP (bP (bS bN)))) bN) rfl rfl (i_ValidMatrix_ok a0 a1 a2 r1 hf1)) hc2)<|ym rfl (b false)<|ROps.s rfl rfl rfl<|ROps.s rfl rfl rfl<|ROps.s rfl rfl rfl<|ROps.s rfl rfl rfl<|ROps.s rfl rfl rfl<|yl rfl (b false) yp<|ya rfl (b false)<|zN ?_
  refine RunC.ret ?_
  have hq := oI h
  subst q0
  exact bodyQ.pure (.inr rfl) rfl (Res.one rfl (RV.tmp rfl))
def i_Matrix_at (a0 : Int) (a1 : Int) (a2 : List F) (a3 : Int) (a4 : Int) : Option (F) :=
 olet (IntKind.i64.wrap (a3 * a1)) fun (x1 : Int) =>
 olet (IntKind.i64.wrap (x1 + a4)) fun (x2 : Int) =>
 obind (at? a2 x2) fun (e3 : F) =>
 some e3
theorem i_Matrix_at_ok (a0 : Int) (a1 : Int) (a2 : List F) (a3 : Int) (a4 : Int) (q0 : F) (h : i_Matrix_at a0 a1 a2 a3 a4 = some q0) : Ev Tryz.prog 41 [agg (mXc a0 a1 a2), i64 a3, i64 a4] [] (f32 q0) [] := by
 refine yE Tryz.func41 0 35 0 [(0, agg (mXc a0 a1 a2)), (1, i64 a3), (2, i64 a4)] [] rfl ?_
 unfold i_Matrix_at at h
 refine zQ<|yd rfl (ptr (mXc a0 a1 a2)) (TOp.box_s rfl rfl rfl)<|yl rfl (f32 (some 0)) (LOp.le (LOp.assign rfl rfl) (ALe.fl (by kernel_rfl) (by kernel_rfl)))<|zN ?_
 refine yS ?_
 obtain ⟨x1, hx1, h⟩ := oL h
 obtain ⟨x2, hx2, h⟩ := oL h
 obtain ⟨e3, he3, h⟩ := oS h
 refine yW<|yl rfl (ptr [(sFc a2)]) (LOp.fap und27 rfl siz25 rfl rfl rfl)<|yl rfl (sFc a2) (y2 agg25)<|ym rfl (i64 a3)<|yl rfl (ptr [i64 a1, (sFc a2)]) (LOp.fap und27 rfl siz2 rfl rfl rfl)<|yl rfl (i64 a1) (y2 agg2)<|yl rfl (i64 x1) (LOp.eqr (LOp.mul rfl rfl rfl) (congrArg (ik .i64) hx1))<|ym rfl (i64 a4)<|yl rfl (i64 x2) (LOp.eqr (LOp.add rfl rfl rfl) (congrArg (ik .i64) hx2))<|yl rfl (ptr [f32 e3]) (LOp.le (LOp.ix (f := f32) und25 siz41 rfl rfl rfl rfl he3) ALe.ptr)<|yl rfl (f32 e3) (y2 agg41)<|ya rfl (f32 e3)<|zN ?_
 refine RunC.ret ?_
 have hq := oI h
 subst q0
 exact bodyQ.pure (.inr rfl) rfl (Res.one rfl (RV.tmp rfl))
def i_Matrix_middle_b1 (a0 : Int) (a1 : Int) (a2 : List F) (L3 : List F) (v4 : Int) : Option (LR ((List F) × Int) ((List F)) ((List F))) :=
 bsel (decide (v4 < (imin a0 a1))) (
  obind (i_Matrix_at a0 a1 a2 v4 v4) fun (r5 : F) =>
  need (apok 4 L3.length 1) <|
  olet (IntKind.i64.wrap (v4 + 1)) fun (x6 : Int) =>
  some (LR.next ((L3 ++ ([r5] : List F)), x6))) (
  some (LR.out L3))
def i_Matrix_middle_s1 (a0 : Int) (a1 : Int) (a2 : List F) : ((List F) × Int) → Option (LR ((List F) × Int) ((List F)) ((List F))) := fun s => i_Matrix_middle_b1 a0 a1 a2 s.1 s.2
def i_Matrix_middle_k1 (L9 : List F) : Option ((List F)) :=
 some L9
def i_Matrix_middle (a0 : Int) (a1 : Int) (a2 : List F) : Option ((List F)) :=
 obind (loopM (i_Matrix_middle_s1 a0 a1 a2) (([] : List F), 0)) fun z => osum z (fun e => i_Matrix_middle_k1 e) (fun r => some r)
theorem i_Matrix_middle_ok (a0 : Int) (a1 : Int) (a2 : List F) (q0 : List F) (h : i_Matrix_middle a0 a1 a2 = some q0) : Ev Tryz.prog 47 [agg (mXc a0 a1 a2)] [] (oref 0 0 0 q0.length) [⟨0, some (q0.map f32)⟩] := by
 refine yE Tryz.func47 2 47 0 [(0, agg (mXc a0 a1 a2))] [⟨0, none⟩, ⟨0, none⟩] rfl ?_
 unfold i_Matrix_middle at h
 refine zQ<|yd rfl (ptr (mXc a0 a1 a2)) (TOp.box_s rfl rfl rfl)<|ya rfl nilsl<|zN ?_
 refine zQ<|ye rfl (oref 0 1 0 0) ([⟨1, some (([] : List F).map f32)⟩, ⟨0, none⟩]) (TOp.buildSlice_o (g := ⟨0, none⟩) (za := f32 (some 0)) (qs := []) 0 rfl und25 siz41 zer41 rfl zel41 rfl rfl trivial rfl)<|ya rfl (oref 0 1 0 0)<|zN ?_
 refine yS<|zQ<|yl rfl (ptr (mXc a0 a1 a2)) (LOp.fap und27 rfl siz2 rfl rfl rfl)<|yl rfl (i64 a0) (y2 agg2)<|yl rfl (ptr [i64 a1, (sFc a2)]) (LOp.fap und27 rfl siz2 rfl rfl rfl)<|yl rfl (i64 a1) (y2 agg2)<|yl rfl (i64 (imin a0 a1)) (LOp.min2 rfl rfl rfl)<|ym rfl (i64 0)<|zN ?_
 obtain ⟨z2, hz_2, h⟩ := oS h
 refine RunC.cutN (fun τ Γ => ∃ (L9 : List F) (u7 : Nat) (u8 : Nat), WeakLe τ [(3, oref 0 u7 0 L9.length)] ∧ DeadLe Γ [⟨u7, some (L9.map f32)⟩, ⟨u8, none⟩] ∧ z2 = .inl L9) ?_ ?_
 ·refine RunC.block (RunC.loop (RunL.loopM (x := z2) (i_Matrix_middle_s1 a0 a1 a2) (fun (s : (List F) × Int) τ Γ => ∃ (u1 : Nat) (u2 : Nat), WeakLe τ [(1, ptr (mXc a0 a1 a2)), (3, oref 0 u1 0 s.1.length), (10, i64 (imin a0 a1)), (11, i64 s.2)] ∧ DeadLe Γ [⟨u1, some (s.1.map f32)⟩, ⟨u2, none⟩]) ?_ _ _ _ hz_2 ⟨1, 0, ⟨aR, aR, aR, aR, trivial⟩, ⟨⟨rfl, .inr rfl⟩, ⟨rfl, .inl rfl⟩, trivial⟩⟩))
  rintro ⟨L3, v4⟩ τ2 Γ2 y2_ ⟨u1, u2, hw2, hd2⟩ h2_ ho2 hr2
  refine RunC.wl (τ' := [(1, ptr (mXc a0 a1 a2)), (3, oref 0 u1 0 L3.length), (10, i64 (imin a0 a1)), (11, i64 v4)]) (Γ' := [⟨u1, some (L3.map f32)⟩, ⟨u2, none⟩]) hw2 hd2 ?_
  replace h2_ : i_Matrix_middle_b1 a0 a1 a2 L3 v4 = some y2_ := h2_
  unfold i_Matrix_middle_b1 at h2_
  refine yS ?_
  rcases oB h2_ with ⟨hc1, h2_⟩ | ⟨hc1, h2_⟩
  ·refine yW<|yl rfl (b true) (LOp.eqb (LOp.lss rfl rfl rfl) hc1)<|zN ?_
   refine yS<|yT<|RunC.skip<|yS<|RunC.block<|zQ<|ym rfl (i64 v4)<|ya rfl (i64 v4)<|zN ?_
   obtain ⟨r5, hf2, h2_⟩ := oS h2_
   obtain ⟨hm3, h2_⟩ := need_some h2_
   refine yW<|ym rfl (oref 0 u1 0 L3.length)<|yl rfl (agg (mXc a0 a1 a2)) (yL agg27 siz27)<|ym rfl (i64 v4)<|ym rfl (i64 v4)<|yd rfl (f32 r5) (TOp.callB (CallAs.func ent41 rfl rfl) (Bors.cons (Bor.agg (bP (bP (bS bN)))) (bP bN0)) rfl rfl (i_Matrix_at_ok a0 a1 a2 v4 v4 r5 hf2))<|ye rfl (oref 1 (u2 + 1) 0 1) ([⟨u1, some (L3.map f32)⟩, ⟨(u2 + 1), some (([r5] : List F).map f32)⟩]) (TOp.buildSlice_o (g := ⟨u2, none⟩) (za := f32 (some 0)) (qs := [(0, [f32 r5])]) 1 rfl und25 siz41 zer41 rfl zel41 rfl rfl ⟨rfl, ⟨_, ALe.refl _, rfl⟩, trivial⟩ rfl)<|ROps.app (f := f32) (xs := L3) (ys := ([r5] : List F)) (Γ' := [⟨(u1 + 1), some ((L3 ++ ([r5] : List F)).map f32)⟩, ⟨(u2 + 1), some (([r5] : List F).map f32)⟩]) rfl pun25 inf41 rfl rfl rfl rfl rfl rfl rfl rfl rfl (by simp) (ReadAs.own rfl (by simp)) (ones_map (fun _ => rfl)) (ap_by hm3) (ap_mx hm3) rfl<|ya rfl (oref 0 (u1 + 1) 0 (L3.length + 1))<|zN ?_
   refine RunC.wl (τ' := [(1, ptr (mXc a0 a1 a2)), (3, oref 0 (u1 + 1) 0 (L3.length + 1)), (10, i64 (imin a0 a1)), (11, i64 v4)]) (Γ' := [⟨(u1 + 1), some ((L3 ++ ([r5] : List F)).map f32)⟩, ⟨(u2 + 1), none⟩]) ⟨aR, aR, aR, aR, trivial⟩ ⟨⟨rfl, .inr rfl⟩, ⟨rfl, .inl rfl⟩, trivial⟩ ?_
   obtain ⟨x6, hx4, h2_⟩ := oL h2_
   refine yW<|yl rfl (i64 x6) (LOp.eqr (LOp.add rfl rfl rfl) (congrArg (ik .i64) hx4))<|ym rfl (i64 x6)<|zN ?_
   cases oI h2_
   exact ⟨_, rfl, (u1 + 1), (u2 + 1), ⟨aR, (ALe.eq (by rw [(app_len rfl rfl)] <;> rfl)), aR, aR, trivial⟩, ⟨⟨rfl, .inr rfl⟩, ⟨rfl, .inl rfl⟩, trivial⟩⟩
  ·refine yW<|yl rfl (b false) (LOp.eqb (LOp.lss rfl rfl rfl) hc1)<|zN ?_
   refine yS<|yF<|RunC.exit ?_
   cases oI h2_
   have hx := ho2 _ rfl
   exact ⟨L3, u1, u2, ⟨aR, trivial⟩, ⟨⟨rfl, .inr rfl⟩, ⟨rfl, .inl rfl⟩, trivial⟩, hx⟩
 ·rintro τ3 Γ3 ⟨L9, u7, u8, hw3, hd3, rfl⟩
  refine RunC.wl hw3 hd3 ?_
  replace h : i_Matrix_middle_k1 L9 = some q0 := h
  unfold i_Matrix_middle_k1 at h
  refine zQ<|ym rfl (oref 0 u7 0 L9.length)<|ya rfl (oref 0 u7 0 L9.length)<|zN ?_
  refine RunC.ret ?_
  have hq := oI h
  subst q0
  exact bodyQ.mk (r' := oref 0 u7 0 L9.length) [(0, u7)] (.inr rfl) rfl (ndB_ok rfl) (by simp [ren, rens, sigma]) rfl (Res.one rfl (RV.tmp rfl)) (SelL.arr0 (f := f32) (fun _ => rfl) rfl trivial)
def i_length_int64 (a0 : List Int) : Option (Int) :=
 some (a0.length : Int)
theorem i_length_int64_ok (a0 : List Int) (q0 : Int) (h : i_length_int64 a0 = some q0) : Ev Tryz.prog 49 [sl a0.length (a0.map i64)] [] (i64 q0) [] := by
 refine yE Tryz.func49 0 11 0 [(0, sl a0.length (a0.map i64))] [] rfl ?_
 unfold i_length_int64 at h
 refine zQ<|ya rfl (i64 0)<|zN ?_
 refine zQ<|ym rfl (sl a0.length (a0.map i64))<|yl rfl (i64 (a0.length : Int)) (LOp.len_sl und30 rfl rfl)<|ya rfl (i64 (a0.length : Int))<|zN ?_
 refine RunC.ret ?_
 have hq := oI h
 subst q0
 exact bodyQ.pure (.inr rfl) rfl (Res.one rfl (RV.tmp rfl))
def x_slices_Values_int64_int64 (a0 : List Int) : Option ((List Int)) :=
 some a0
theorem x_slices_Values_int64_int64_ok (a0 : List Int) (q0 : List Int) (h : x_slices_Values_int64_int64 a0 = some q0) : Ev Tryz.prog 123 [sl a0.length (a0.map i64)] [] (fn (.func 131) [] [ptr [sl q0.length (q0.map i64)]]) [] := by
 refine yE Tryz.func123 0 9 0 [(0, sl a0.length (a0.map i64))] [] rfl ?_
 unfold x_slices_Values_int64_int64 at h
 refine zQ<|yd rfl (ptr [sl a0.length (a0.map i64)]) (TOp.box_s rfl rfl rfl)<|ya rfl (x .nilFunc)<|zN ?_
 refine zQ<|yl rfl (fn (.func 131) [] [ptr [sl a0.length (a0.map i64)]]) (LOp.makeFunc rfl rfl)<|ya rfl (fn (.func 131) [] [ptr [sl a0.length (a0.map i64)]])<|zN ?_
 refine RunC.ret ?_
 have hq := oI h
 subst q0
 exact bodyQ.pure (.inr rfl) (lt_fn lts_nil (lts_cons (lt_ptr (lts_cons (lt_sl (fun _ => rfl)) lts_nil)) lts_nil)) (Res.one rfl (RV.tmp rfl))
def x_slices_AppendSeq (a0 : List Int) : Option (List Int) :=
 need (decide ((a0.length : Int) * 8 ≤ 140737488351232)) <|
 some a0
section
open Go.RowKit Go.Shelf
attribute [local go_sem] Oper.semAt_some
set_option maxRecDepth 100000 in
set_option maxHeartbeats 2000000 in
theorem values1_in (F : Fence) (n : Nat) (h7 : F.fn 131) (hro : F.round = none) (hn : 1 ≤ n) (l Bs Bo n₀ b off len cap : Nat) (zs : List Int) (hreach : len * 8 ≤ 140737488351232) (hb : b < n₀) (J Jx : List Int → World → Prop)
  (hY : ∀ pre x W, J pre W → pre.length < len → YieldAt F (n - 1) Tryz.prog l #[.int .i64 x] W fun e W' =>
   (e = .returned (.bool true) ∧ J (pre ++ [x]) W' ∧ Below n₀ W W') ∨ (e = .returned (.bool false) ∧ Jx (pre ++ [x]) W'))
  (W : World) (hBs : W.cell? ⟨Bs, Bo, none⟩ = some (.slice (some ⟨b, off, none⟩) len cap)) (hc : ∀ j, j < len → W.cell? ⟨b, off + j, none⟩ = some (.int .i64 (zs[j]?.getD 0))) (h0 : J [] W) :
  CallsIn F n Tryz.prog 131 #[.func (.yield l) #[] #[], .pointer (some ⟨Bs, Bo, none⟩)] W fun e W' => (∃ v, e = .returned v) ∧
   ((∃ ys, ys = uptoF (fun j => zs[j]?.getD 0) len ∧ J ys W') ∨ (∃ pre, (∃ k, k ≤ len ∧ pre = uptoF (fun j => zs[j]?.getD 0) k) ∧ Jx pre W')) := by
 refine callsIn_of_wp Tryz.func131 rfl h7 ?_ hro
 simp only [Tryz.ntmps131, List.size_toArray, List.length_cons, List.length_nil, Nat.reduceAdd, Nat.reduceSub, Array.replicate_succ, Array.replicate_zero, List.push_toArray, List.append_toArray, List.nil_append, List.cons_append]
 gi_wp2
 gi_loopw [7] (fun i wr => ∃ k : Nat, k ≤ len ∧ i = .int .i64 k ∧ J (uptoF (fun j => zs[j]?.getD 0) k) wr ∧ Below n₀ W wr)
  (fun i _ => len - (intOf i).toNat)
 case atStart => exact ⟨0, Nat.zero_le _, rfl, h0, Below.refl _ _⟩
 case round =>
  obtain ⟨k, hk, rfl, hJs, hnx⟩ := hrel
  have hcx : k < len → wr.cell? ⟨b, off + k, none⟩ = some (.int .i64 (zs[k]?.getD 0)) := fun h => (hnx.cell (p := ⟨b, off + k, none⟩) hb).trans (hc k h)
  by_cases hlt : k < len
  ·obtain ⟨fn, tmps, assign, body, hy, hR⟩ := hY _ (zs[k]?.getD 0) wr hJs (by rw [uptoF_length]; exact hlt)
   have hcx' := hcx hlt
   gi_wp2
   refine hR.mono ?_
   rintro e W3 (⟨rfl, hJ3, hk3⟩ | ⟨rfl, hJx3⟩)
   ·gi_wp2
    go_roundw
    case rel => exact ⟨k + 1, by omega, by simp, by rw [uptoF_succ]; exact hJ3, hnx.trans hk3⟩
    case measure => simp [intOf]; omega
   ·gi_wp2
    refine bodyPost_ret (results_none rfl _ _ _) rfl ?_
    exact ⟨⟨_, rfl⟩, .inr ⟨_, ⟨k + 1, by omega, (uptoF_succ _ _).symm⟩, hJx3⟩⟩
  ·obtain rfl : k = len := by omega
   gi_wp2
   go_end0
   exact ⟨⟨_, rfl⟩, .inl ⟨_, rfl, hJs⟩⟩
set_option maxRecDepth 100000 in
set_option maxHeartbeats 1000000 in
theorem values1_nil_in (F : Fence) (n : Nat) (h7 : F.fn 131) (hro : F.round = none) (l Bs Bo : Nat) (a : Option Addr) (cap : Nat) (J : List Int → World → Prop) (W : World) (hBs : W.cell? ⟨Bs, Bo, none⟩ = some (.slice a 0 cap)) (h0 : J [] W) :
  CallsIn F n Tryz.prog 131 #[.func (.yield l) #[] #[], .pointer (some ⟨Bs, Bo, none⟩)] W fun e W' => (∃ v, e = .returned v) ∧ J [] W' := by
 refine callsIn_of_wp Tryz.func131 rfl h7 ?_ hro
 simp only [Tryz.ntmps131, List.size_toArray, List.length_cons, List.length_nil, Nat.reduceAdd, Nat.reduceSub, Array.replicate_succ, Array.replicate_zero, List.push_toArray, List.append_toArray, List.nil_append, List.cons_append]
 gi_wp2
 gi_loopw [7] (fun i wr => i = .int .i64 0 ∧ J [] wr) (fun _ _ => 0)
 case atStart => exact ⟨rfl, h0⟩
 case round =>
  obtain ⟨rfl, hJs⟩ := hrel
  gi_wp2
  go_end0
  exact ⟨⟨_, rfl⟩, hJs⟩
theorem values_stops (F : Fence) (n : Nat) (h7 : F.fn 131) (hro : F.round = none) (hn : 1 ≤ n) (Bs Bo n₀ : Nat) (sv : Value) (zs : List Int) (hreach : zs.length * 8 ≤ 140737488351232) (w : World) (hBs : Bs < w.heap.size) (hn₀ : n₀ ≤ w.heap.size)
  (hc : w.cell? ⟨Bs, Bo, none⟩ = some sv) (hI : IntsAt n₀ w sv zs) :
  SeqStopsK F n Tryz.prog 131 #[.pointer (some ⟨Bs, Bo, none⟩)] (fun x : Int => #[Value.int .i64 x]) (Below n₀) (fun ys => ys = zs) (fun pre => pre <+: zs) zs.length w := fun l J Jx W hW _ _ hY h0 => by
 have hc' := (hW.cell (p := ⟨Bs, Bo, none⟩) hBs).trans hc
 rcases hI.below (hW.mono hn₀) with ⟨a, cap, rfl, rfl⟩ | ⟨b, off, cap, rfl, hb, hcs⟩
 ·exact (values1_nil_in F n h7 hro l Bs Bo a cap J W hc' h0).mono fun e W' ⟨he, hj⟩ => ⟨he, .inl ⟨_, rfl, hj⟩⟩
 ·refine (values1_in F n h7 hro hn l Bs Bo n₀ b off zs.length cap zs hreach hb J Jx hY W hc' hcs h0).mono ?_
  rintro e W' ⟨he, ⟨ys, rfl, hj⟩ | ⟨pre, ⟨k, hk, rfl⟩, hj⟩⟩
  ·exact ⟨he, .inl ⟨_, uptoF_all zs, hj⟩⟩
  ·exact ⟨he, .inr ⟨_, by rw [uptoF_take zs hk]; exact List.take_prefix _ _, hj⟩⟩
/-- Between two rounds: the box holds a slice that owns what has come. -/
def SeqAt (w : World) (B : Nat) (pre : List Int) (W : World) : Prop :=
 (∃ v, Boxed W B 30 v ∧ W.ownsRow w.heap.size 2 1 v pre.length (pre.map (Value.int .i64)) ∧ True) ∧ Below w.heap.size w W
theorem seqAt_own (w : World) (B D : Nat) (hD : w.heap.size ≤ D) : OwnFrom D (SeqAt w B) :=
 OwnFrom.and (Own.from (holdsRow_own w.heap.size B 30 2 1 (fun s : List Int => s.length) (fun s => s.map (Value.int .i64)) (fun _ _ => True)) _) (ownFrom_below (Nat.le_refl _) hD)
theorem ty30 : Tryz.prog.underlying 30 = some (.slice 2) := by kernel_rfl
theorem info2 : (Tryz.prog.info? 2).map (fun i => (i.zero, i.size, i.bytes)) = some (some (.int .i64 0), 1, 8) := by kernel_rfl
set_option maxRecDepth 100000 in
set_option maxHeartbeats 2000000 in
theorem appendSeq_in (F : Fence) (n : Nat) (h3 : F.fn 133) (h7 : F.fn 131) (hro : F.round = none) (hn : 3 ≤ n) (w : World) (Bs Bo : Nat) (sv : Value) (zs : List Int) (hreach : zs.length * 8 ≤ 140737488351232) (hBs : Bs < w.heap.size)
  (hc : w.cell? ⟨Bs, Bo, none⟩ = some sv) (hI : IntsAt w.heap.size w sv zs) :
  CallsIn F n Tryz.prog 133 #[.slice none 0 0, .func (.func 131) #[] #[.pointer (some ⟨Bs, Bo, none⟩)]] w fun e W' => (∃ v, e = .returned v ∧ W'.ownsRow w.heap.size 2 1 v zs.length (zs.map (Value.int .i64))) ∧ Below w.heap.size w W' := by
 have h1 : 1 ≤ n := by omega
 obtain ⟨i0, hi, hz0, hz1, hz2⟩ := info_parts info2
 refine callsIn_of_wp_marks Tryz.func133 rfl h3 ?_ hro
 simp only [Tryz.ntmps133, List.size_toArray, List.length_cons, List.length_nil, Nat.reduceAdd, Nat.reduceSub, Array.replicate_succ, Array.replicate_zero, List.push_toArray, List.append_toArray, List.nil_append, List.cons_append]
 gi_wp2
 have bS := Boxed.new w 30 (.slice none 0 0)
 have hB0 : Below w.heap.size w (w.alloc (.cells #[.slice none 0 0] 30)) := (Below.refl _ w).alloc (Nat.le_refl _) _
 refine wpIn_rangeFunc_ownG hro h1 (gf := 131) (lb := #[.pointer (some ⟨Bs, Bo, none⟩)]) rfl h7 (enters_of Tryz.func131 (by kernel_rfl) rfl)
  (values_stops F (n - 1) h7 hro (by omega) Bs Bo w.heap.size sv zs hreach w hBs (Nat.le_refl _) hc hI) belowK_t (belowK_b (by simp)) hB0 (fun _ => rfl)
  (SeqAt w w.heap.size)
  (fun _ _ _ => False)
  (seqAt_own w _ _ (by simp))
  (fun _ _ _ _ _ hs _ _ => hs)
  ⟨⟨.slice none 0 0, bS, ⟨rfl, .inl ⟨rfl, rfl⟩⟩, trivial⟩, hB0⟩
  (fun x => { tmps := #[.slice none 0 0, .func (.func 131) #[] #[.pointer (some ⟨Bs, Bo, none⟩)], .pointer (some ⟨w.heap.size, 0, none⟩), undef, .slice none 0 0, .int .i64 x, .func (.func 131) #[] #[.pointer (some ⟨Bs, Bo, none⟩)], .int .i64 x, undef, undef, undef, undef, undef], defers := [] }) ?assign ?body ?done ?stop
 case assign =>
  intro l x W K hK
  gi_wp2
  exact hK
 case body =>
  rintro l pre x W ⟨⟨v, hv, hrow, _⟩, hB⟩ hlen
  have hc2 := hv.cell
  have hf2 := hv.frozen
  gi_wp2_with (first
   | (gi_at_builtin; refine wpListIn_append_own _ rfl _ _ 30 rfl w.heap.size 2 i0 (.int .i64 0) 1 8 ty30 hi hz0 hz1 hz2 rfl (by decide) _ _ _ rfl (hrow.alloc _) ⟨W.heap.size, 0, none⟩ 1 1 [.int .i64 x] rfl rfl ?c1 ?c2 ?c3 ?c4 ?c5 ?_)
   | gi_in)
  case c1 =>
   intro j u hj
   match j, hj with
   | 0, hj => simp at hj; subst hj; simp [Addr.add]
  case c2 => intro u hu; simp at hu; subst hu; rfl
  case c3 => unfold maxLen; omega
  case c4 => omega
  case c5 => have := hB.size; simp; omega
  ·intro v' w1 hown' hgrow _
   obtain ⟨g, cap, rfl⟩ := ownsRow_succ hown'
   obtain ⟨b1, b2, b3, b4, b5⟩ := hv.appended (by decide : (30 : Nat) ≠ 2) hrow hB.size (Nat.le_refl _) hown' hgrow
   have hc1 := b1.cell
   have hf1 := b1.frozen
   clear hgrow hown'
   gi_wp2
   exact ⟨b4.from _, b5, ⟨⟨_, b2, by simpa using b3, trivial⟩, hB.trans b5⟩⟩
 case done =>
  rintro D ys W hD rfl ⟨⟨v, hv, hrow, _⟩, hB⟩ hK
  have hc2 := hv.cell
  have hf2 := hv.frozen
  gi_wp2
  refine ⟨by simp, .inl ⟨_, _, rfl, run_takeDeferred hK, ?_⟩⟩
  exact ⟨_, results_tmp rfl _ _ _, ⟨v, rfl, ownsRow_putObj hrow _ hK rfl⟩, hB.trans (belowK_b (w := w) (Nat.le_refl _) W D _ _ (by simp at hD; omega) hK rfl rfl)⟩
 case stop =>
  rintro D c pre W _ _ h _
  exact h.elim
end
theorem x_slices_AppendSeq_ok (a0 : List Int) (q0 : List Int) (h : x_slices_AppendSeq a0 = some q0) : Ev Tryz.prog 133 [nilsl, fn (.func 131) [] [ptr [sl a0.length (a0.map i64)]]] [] (oref 0 0 0 q0.length) [⟨0, some (q0.map i64)⟩] := by
 unfold x_slices_AppendSeq at h
 cases hd : decide ((a0.length : Int) * 8 ≤ 140737488351232) with
 | false => rw [hd] at h; cases h
 | true =>
  rw [hd] at h
  cases h
  have hb := of_decide_eq_true hd
  refine Ev.ownsRow (t := 2) fun S w vs hw ha => ?_
  obtain ⟨b, off, sv, rfl, h1, h2, h3⟩ := seq_args hw ha
  exact callsIn_wide.1 (appendSeq_in Fence.wide 3 trivial trivial rfl (Nat.le_refl _) w b off sv a0 (by omega) h1 h2 h3)
def x_slices_Collect_int64_0Fx_slices_Values_int64_int64_1 (a0 : List Int) : Option ((List Int)) :=
 obind (x_slices_AppendSeq a0) fun (r1 : List Int) =>
 some r1
theorem x_slices_Collect_int64_0Fx_slices_Values_int64_int64_1_ok (a0 : List Int) (q0 : List Int) (h : x_slices_Collect_int64_0Fx_slices_Values_int64_int64_1 a0 = some q0) : Ev Tryz.prog 129 [fn (.func 131) [] [ptr [sl a0.length (a0.map i64)]]] [] (oref 0 0 0 q0.length) [⟨0, some (q0.map i64)⟩] := by
 refine yE Tryz.func129 1 11 0 ([(0, fn (.func 131) [] [ptr [sl a0.length (a0.map i64)]])]) [⟨0, none⟩] rfl ?_
 unfold x_slices_Collect_int64_0Fx_slices_Values_int64_int64_1 at h
 refine zQ<|ya rfl nilsl<|zN ?_
 refine yS ?_
 obtain ⟨r1, hf1, h⟩ := oS h
 refine yW<|ym rfl (fn (.func 131) [] [ptr [sl a0.length (a0.map i64)]])<|ye rfl (oref 0 1 0 r1.length) [⟨1, some (r1.map i64)⟩] (TOp.callBN (ls := [(r1.map i64)]) [0] (CallAs.func ent133 rfl rfl) (bP (Bors.cons (Bor.fn bN (Bors.cons (Bor.ptr (bS bN)) bN)) bN)) rfl (x_slices_AppendSeq_ok a0 r1 hf1) (and_all (lts0_map (f := i64) (fun _ => rfl) _) rfl) (and_all (noss_map (f := i64) (fun _ => rfl) _) rfl) rfl (by decide) (ns_of ⟨⟨_, rfl⟩, trivial⟩))<|ya rfl (oref 0 1 0 r1.length)<|zN ?_
 refine RunC.ret ?_
 have hq := oI h
 subst q0
 exact yB (oref 0 1 0 r1.length) [(0, 1)] (Res.one rfl (RV.tmp rfl)) (SelL.arr0 (f := i64) (fun _ => rfl) rfl trivial)
def x_math_bits_Len64 (a0 : Int) : Option (Int) :=
 bsel (decide (4294967296 ≤ a0)) (
  none) (
  bsel (decide (65536 ≤ a0)) (
   none) (
   bsel (decide (256 ≤ a0)) (
    none) (
    olet (IntKind.u8.wrap a0) fun (x1 : Int) =>
    obind (sat? lit_77d67bd0 x1) fun (e2 : Int) =>
    olet (IntKind.i64.wrap e2) fun (x3 : Int) =>
    olet (IntKind.i64.wrap (0 + x3)) fun (x4 : Int) =>
    some x4)))
theorem x_math_bits_Len64_ok (a0 : Int) (q0 : Int) (h : x_math_bits_Len64 a0 = some q0) : Ev Tryz.prog 146 [ik .u64 a0] [] (i64 q0) [] := by
 refine yE Tryz.func146 0 51 0 [(0, ik .u64 a0)] [] rfl ?_
 unfold x_math_bits_Len64 at h
 refine zQ<|ya rfl (i64 0)<|zN ?_
 refine yS<|yS ?_
 rcases oB h with ⟨hc1, h⟩ | ⟨hc1, h⟩
 ·refine yW<|ym rfl (ik .u64 a0)<|yl rfl (b true) (LOp.eqb (LOp.geq rfl rfl rfl) hc1)<|zN ?_
  refine yT<|yS ?_
  cases h
 ·refine yW<|ym rfl (ik .u64 a0)<|yl rfl (b false) (LOp.eqb (LOp.geq rfl rfl rfl) hc1)<|zN ?_
  refine yF<|RunC.skip<|yS<|yS ?_
  rcases oB h with ⟨hc2, h⟩ | ⟨hc2, h⟩
  ·refine yW<|ym rfl (ik .u64 a0)<|yl rfl (b true) (LOp.eqb (LOp.geq rfl rfl rfl) hc2)<|zN ?_
   refine yT<|yS ?_
   cases h
  ·refine yW<|ym rfl (ik .u64 a0)<|yl rfl (b false) (LOp.eqb (LOp.geq rfl rfl rfl) hc2)<|zN ?_
   refine yF<|RunC.skip<|yS<|yS ?_
   rcases oB h with ⟨hc3, h⟩ | ⟨hc3, h⟩
   ·refine yW<|ym rfl (ik .u64 a0)<|yl rfl (b true) (LOp.eqb (LOp.geq rfl rfl rfl) hc3)<|zN ?_
    refine yT<|yS ?_
    cases h
   ·refine yW<|ym rfl (ik .u64 a0)<|yl rfl (b false) (LOp.eqb (LOp.geq rfl rfl rfl) hc3)<|zN ?_
    refine yF<|RunC.skip<|yS ?_
    obtain ⟨x1, hx4, h⟩ := oL h
    obtain ⟨e2, he5, h⟩ := oS h
    obtain ⟨x3, hx6, h⟩ := oL h
    obtain ⟨x4, hx7, h⟩ := oL h
    refine yW<|ym rfl (i64 0)<|ym rfl (ik .u64 a0)<|yl rfl (ik .u8 x1) (LOp.eqr (LOp.i2i (src := 107) (dst := 5) ⟨_, pun107⟩ pun5 rfl rfl) (congrArg (ik .u8) hx4))<|yl rfl (ik .u8 e2) (LOp.index_str und9 rfl rfl rfl he5)<|yl rfl (i64 x3) (LOp.eqr (LOp.i2i (src := 5) (dst := 3) ⟨_, pun5⟩ pun3 rfl rfl) (congrArg (ik .i64) hx6))<|yl rfl (i64 x4) (LOp.eqr (LOp.add rfl rfl rfl) (congrArg (ik .i64) hx7))<|ya rfl (i64 x4)<|zN ?_
    refine RunC.ret ?_
    have hq := oI h
    subst q0
    exact bodyQ.pure (.inr rfl) rfl (Res.one rfl (RV.tmp rfl))
def x_math_bits_Len (a0 : Int) : Option (Int) :=
 obind (x_math_bits_Len64 a0) fun (r1 : Int) =>
 some r1
theorem x_math_bits_Len_ok (a0 : Int) (q0 : Int) (h : x_math_bits_Len a0 = some q0) : Ev Tryz.prog 135 [ik .u64 a0] [] (i64 q0) [] := by
 refine yE Tryz.func135 0 17 0 [(0, ik .u64 a0)] [] rfl ?_
 unfold x_math_bits_Len at h
 refine zQ<|ya rfl (i64 0)<|zN ?_
 refine yS<|yF<|RunC.skip<|yS ?_
 obtain ⟨r1, hf1, h⟩ := oS h
 refine yW<|ym rfl (ik .u64 a0)<|yd rfl (i64 r1) (yc ent146 rfl rfl bN0 (x_math_bits_Len64_ok a0 r1 hf1))<|ya rfl (i64 r1)<|zN ?_
 refine RunC.ret ?_
 have hq := oI h
 subst q0
 exact bodyQ.pure (.inr rfl) rfl (Res.one rfl (RV.tmp rfl))
def x_cmp_isNaN_int64 (a0 : Int) : Option (Bool) :=
 some (!decide (a0 = a0))
theorem x_cmp_isNaN_int64_ok (a0 : Int) (q0 : Bool) (h : x_cmp_isNaN_int64 a0 = some q0) : Ev Tryz.prog 152 [i64 a0] [] (b q0) [] := by
 refine yE Tryz.func152 0 13 0 [(0, i64 a0)] [] rfl ?_
 unfold x_cmp_isNaN_int64 at h
 refine zQ<|ya rfl (b false)<|zN ?_
 refine zQ<|ym rfl (i64 a0)<|ym rfl (i64 a0)<|yl rfl (b (!decide (a0 = a0))) (LOp.neq rfl rfl rfl)<|ya rfl (b (!decide (a0 = a0)))<|zN ?_
 refine RunC.ret ?_
 have hq := oI h
 subst q0
 exact bodyQ.pure (.inr rfl) rfl (Res.one rfl (RV.tmp rfl))
def x_cmp_Less_int64 (a0 : Int) (a1 : Int) : Option (Bool) :=
 obind (x_cmp_isNaN_int64 a0) fun (r1 : Bool) =>
 bsel r1 (
  obind (x_cmp_isNaN_int64 a1) fun (r2 : Bool) =>
  bsel r2 (
   some (decide (a0 < a1))) (
   some true)) (
  some (decide (a0 < a1)))
theorem x_cmp_Less_int64_ok (a0 : Int) (a1 : Int) (q0 : Bool) (h : x_cmp_Less_int64 a0 a1 = some q0) : Ev Tryz.prog 142 [i64 a0, i64 a1] [] (b q0) [] := by
 refine yE Tryz.func142 0 35 0 [(0, i64 a0), (1, i64 a1)] [] rfl ?_
 unfold x_cmp_Less_int64 at h
 refine zQ<|ya rfl (b false)<|zN ?_
 refine yS ?_
 obtain ⟨r1, hf1, h⟩ := oS h
 rcases oB h with ⟨hc2, h⟩ | ⟨hc2, h⟩
 ·obtain ⟨r2, hf3, h⟩ := oS h
  rcases oB h with ⟨hc4, h⟩ | ⟨hc4, h⟩
  ·refine yW<|ym rfl (i64 a0)<|yd rfl (b true) (TOp.eqb (yc ent152 rfl rfl bN0 (x_cmp_isNaN_int64_ok a0 r1 hf1)) hc2)<|ym rfl (b true)<|ym rfl (i64 a1)<|yd rfl (b true) (TOp.eqb (yc ent152 rfl rfl bN0 (x_cmp_isNaN_int64_ok a1 r2 hf3)) hc4)<|yl rfl (b false) y1<|yl rfl (b false) yq<|ym rfl (b false)<|ym rfl (i64 a0)<|ym rfl (i64 a1)<|yl rfl (b (decide (a0 < a1))) (LOp.lss rfl rfl rfl)<|yl rfl (b (decide (a0 < a1))) yp<|ya rfl (b (decide (a0 < a1)))<|zN ?_
   refine RunC.ret ?_
   have hq := oI h
   subst q0
   exact bodyQ.pure (.inr rfl) rfl (Res.one rfl (RV.tmp rfl))
  ·refine yW<|ym rfl (i64 a0)<|yd rfl (b true) (TOp.eqb (yc ent152 rfl rfl bN0 (x_cmp_isNaN_int64_ok a0 r1 hf1)) hc2)<|ym rfl (b true)<|ym rfl (i64 a1)<|yd rfl (b false) (TOp.eqb (yc ent152 rfl rfl bN0 (x_cmp_isNaN_int64_ok a1 r2 hf3)) hc4)<|yl rfl (b true) y0<|yl rfl (b true) yq<|ym rfl (b true)<|ROps.s rfl rfl rfl<|ROps.s rfl rfl rfl<|ROps.s rfl rfl rfl<|yl rfl (b true) yq<|ya rfl (b true)<|zN ?_
   refine RunC.ret ?_
   have hq := oI h
   subst q0
   exact bodyQ.pure (.inr rfl) rfl (Res.one rfl (RV.tmp rfl))
 ·refine yW<|ym rfl (i64 a0)<|yd rfl (b false) (TOp.eqb (yc ent152 rfl rfl bN0 (x_cmp_isNaN_int64_ok a0 r1 hf1)) hc2)<|ym rfl (b false)<|ROps.s rfl rfl rfl<|ROps.s rfl rfl rfl<|ROps.s rfl rfl rfl<|yl rfl (b false) yp<|ym rfl (b false)<|ym rfl (i64 a0)<|ym rfl (i64 a1)<|yl rfl (b (decide (a0 < a1))) (LOp.lss rfl rfl rfl)<|yl rfl (b (decide (a0 < a1))) yp<|ya rfl (b (decide (a0 < a1)))<|zN ?_
  refine RunC.ret ?_
  have hq := oI h
  subst q0
  exact bodyQ.pure (.inr rfl) rfl (Res.one rfl (RV.tmp rfl))
end
end Go.Proofs.YtkdociaoknmgbaaGreat
