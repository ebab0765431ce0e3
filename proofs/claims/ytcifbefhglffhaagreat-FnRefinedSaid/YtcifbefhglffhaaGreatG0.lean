/- Generated. -/
import Derived.Test.YtcifbefhglffhaaGreatTys
namespace Go.Proofs.YtcifbefhglffhaaGreat
open Go Go.AM Go.AM.AV
set_option maxRecDepth 20000
set_option maxHeartbeats 4000000
set_option linter.unusedVariables false
set_option linter.unusedSimpArgs false
noncomputable section
def K00 (a0 : List Int) (a1 : List Int) : Option (Bool) :=
 bsel (decide (1048576 < (a0.length : Int))) (
  some true) (
  some (decide (1048576 < (a1.length : Int))))
theorem K00_ok (a0 : List Int) (a1 : List Int) (q0 : Bool) (h : K00 a0 a1 = some q0) : Ev Tryz.prog 4 [sl a0.length (a0.map (ik .u8)), sl a1.length (a1.map (ik .u8))] [] (b q0) [] := by
 refine yE Tryz.func4 0 27 0 [(0, sl a0.length (a0.map (ik .u8))), (1, sl a1.length (a1.map (ik .u8)))] [] rfl ?_
 unfold K00 at h
 refine zQ<|ya rfl (b false)<|zN ?_
 refine yS ?_
 rcases oB h with ⟨hc1, h⟩ | ⟨hc1, h⟩
 ·refine yW<|ym rfl (sl a0.length (a0.map (ik .u8)))<|yl rfl (i64 (a0.length : Int)) (LOp.len_sl und22 rfl rfl)<|yl rfl (b true) (LOp.eqb (LOp.gtr rfl rfl rfl) hc1)<|ym rfl (b true)<|yR rfl<|yR rfl<|yR rfl<|yl rfl (b true) yq<|ya rfl (b true)<|zN ?_
  refine RunC.ret ?_
  have hq := oI h
  subst q0
  exact bR rfl
 ·refine yW<|ym rfl (sl a0.length (a0.map (ik .u8)))<|yl rfl (i64 (a0.length : Int)) (LOp.len_sl und22 rfl rfl)<|yl rfl (b false) (LOp.eqb (LOp.gtr rfl rfl rfl) hc1)<|ym rfl (b false)<|ym rfl (sl a1.length (a1.map (ik .u8)))<|yl rfl (i64 (a1.length : Int)) (LOp.len_sl und22 rfl rfl)<|yl rfl (b (decide (1048576 < (a1.length : Int)))) (LOp.gtr rfl rfl rfl)<|yl rfl (b (decide (1048576 < (a1.length : Int)))) yp<|ya rfl (b (decide (1048576 < (a1.length : Int))))<|zN ?_
  refine RunC.ret ?_
  have hq := oI h
  subst q0
  exact bR rfl
def K01 (a0 : List Int) (a1 : Int) (a2 : Int) : Option (Int) :=
 bsel (decide (a2 ≤ 1)) (
  some 0) (
  bsel (decide (a1 < (a0.length : Int))) (
   obind (at? a0 a1) fun (e1 : Int) =>
   olet (IntKind.i64.wrap e1) fun (x2 : Int) =>
   need (!decide (a2 = 0)) <|
   olet (x2.tmod a2) fun (x3 : Int) =>
   some x3) (
   olet (IntKind.i64.wrap (a1 * 37)) fun (x4 : Int) =>
   olet (IntKind.i64.wrap (x4 + 11)) fun (x5 : Int) =>
   need (!decide (a2 = 0)) <|
   olet (x5.tmod a2) fun (x6 : Int) =>
   some x6))
theorem K01_ok (a0 : List Int) (a1 : Int) (a2 : Int) (q0 : Int) (h : K01 a0 a1 a2 = some q0) : Ev Tryz.prog 5 [sl a0.length (a0.map (ik .u8)), i64 a1, i64 a2] [] (i64 q0) [] := by
 refine yE Tryz.func5 0 51 0 [(0, sl a0.length (a0.map (ik .u8))), (1, i64 a1), (2, i64 a2)] [] rfl ?_
 unfold K01 at h
 refine zQ<|ya rfl (i64 0)<|zN ?_
 refine yS<|yS ?_
 rcases oB h with ⟨hc1, h⟩ | ⟨hc1, h⟩
 ·refine yW<|ym rfl (i64 a2)<|yl rfl (b true) (LOp.eqb (LOp.leq rfl rfl rfl) hc1)<|zN ?_
  refine yT<|zQ<|ya rfl (i64 0)<|zN ?_
  refine RunC.ret ?_
  have hq := oI h
  subst q0
  exact bR rfl
 ·refine yW<|ym rfl (i64 a2)<|yl rfl (b false) (LOp.eqb (LOp.leq rfl rfl rfl) hc1)<|zN ?_
  refine yF<|RunC.skip<|yS<|yS ?_
  rcases oB h with ⟨hc2, h⟩ | ⟨hc2, h⟩
  ·refine yW<|ym rfl (i64 a1)<|ym rfl (sl a0.length (a0.map (ik .u8)))<|yl rfl (i64 (a0.length : Int)) (LOp.len_sl und22 rfl rfl)<|yl rfl (b true) (LOp.eqb (LOp.lss rfl rfl rfl) hc2)<|zN ?_
   refine yT<|yS ?_
   obtain ⟨e1, he3, h⟩ := oS h
   obtain ⟨x2, hx4, h⟩ := oL h
   obtain ⟨hz5, h⟩ := need_some h
   obtain ⟨x3, hx6, h⟩ := oL h
   refine yW<|ym rfl (sl a0.length (a0.map (ik .u8)))<|ym rfl (i64 a1)<|yl rfl (ptr [ik .u8 e1]) (LOp.le (LOp.ix (f := (ik .u8)) und22 siz5 rfl rfl rfl rfl he3) ALe.ptr)<|yl rfl (ik .u8 e1) (y2 agg5)<|yl rfl (i64 x2) (LOp.eqr (LOp.i2i (src := 5) (dst := 2) ⟨_, pun5⟩ pun2 rfl rfl) (congrArg (ik .i64) hx4))<|ym rfl (i64 a2)<|yl rfl (i64 x3) (LOp.eqr (LOp.rem rfl rfl rfl (nz hz5)) (congrArg (ik .i64) hx6))<|ya rfl (i64 x3)<|zN ?_
   refine RunC.ret ?_
   have hq := oI h
   subst q0
   exact bR rfl
  ·refine yW<|ym rfl (i64 a1)<|ym rfl (sl a0.length (a0.map (ik .u8)))<|yl rfl (i64 (a0.length : Int)) (LOp.len_sl und22 rfl rfl)<|yl rfl (b false) (LOp.eqb (LOp.lss rfl rfl rfl) hc2)<|zN ?_
   refine yF<|RunC.skip<|yS ?_
   obtain ⟨x4, hx7, h⟩ := oL h
   obtain ⟨x5, hx8, h⟩ := oL h
   obtain ⟨hz9, h⟩ := need_some h
   obtain ⟨x6, hx10, h⟩ := oL h
   refine yW<|ym rfl (i64 a1)<|yl rfl (i64 x4) (LOp.eqr (LOp.mul rfl rfl rfl) (congrArg (ik .i64) hx7))<|yl rfl (i64 x5) (LOp.eqr (LOp.add rfl rfl rfl) (congrArg (ik .i64) hx8))<|ym rfl (i64 a2)<|yl rfl (i64 x6) (LOp.eqr (LOp.rem rfl rfl rfl (nz hz9)) (congrArg (ik .i64) hx10))<|ya rfl (i64 x6)<|zN ?_
   refine RunC.ret ?_
   have hq := oI h
   subst q0
   exact bR rfl
def K02 (a0 : List Int) : Option ((List Int) × Int × Int) :=
 some (a0, 0, 0)
theorem K02_ok (a0 : List Int) (q0 : List Int) (q1 : Int) (q2 : Int) (h : K02 a0 = some (q0, q1, q2)) : Ev Tryz.prog 22 [sl a0.length (a0.map (ik .u8))] [] (optr 0 0 0) [⟨0, some [sl q0.length (q0.map (ik .u8)), i64 q1, ik .u64 q2]⟩] := by
 refine yE Tryz.func22 1 13 0 [(0, sl a0.length (a0.map (ik .u8)))] [o0] rfl ?_
 unfold K02 at h
 refine zQ<|ya rfl (x (.pointer none))<|zN ?_
 refine zQ<|ym rfl (sl a0.length (a0.map (ik .u8)))<|yl rfl (agg [sl a0.length (a0.map (ik .u8)), i64 0, ik .u64 0]) (LOp.build (qs := [(0, [sl a0.length (a0.map (ik .u8))])]) zer89 zok89 und89 plc89 rfl ⟨rfl, ⟨_, ALe.refl _, rfl⟩, trivial⟩ rfl)<|ye rfl (optr 0 1 0) ([⟨1, some [sl a0.length (a0.map (ik .u8)), i64 0, ik .u64 0]⟩]) (TOp.box_o (g := o0) 0 rfl rfl rfl rfl)<|ya rfl (optr 0 1 0)<|zN ?_
 refine RunC.ret ?_
 have hq := oI h
 obtain ⟨hq0, hq⟩ := Prod.mk.inj hq
 obtain ⟨hq1, hq⟩ := Prod.mk.inj hq
 subst q0
 subst q1
 subst q2
 exact yB (optr 0 1 0) [(0, 1)] (Res.one rfl (RV.tmp rfl)) (SelL.cells0 rfl (by first | rfl | simp [ren, rens, sigma, rens_f32, rens_f64, rens_i64, rens_ik, rens_str, rens_cp]) (lts_cons (lt_slk (fun _ => rfl)) (lts_cons rfl (lts_cons rfl lts_nil))) trivial)
def K03 (a0 : Int) (a1 : Int) : Option (Int × Int × (List F)) :=
 some (a0, a1, ([] : List F))
theorem K03_ok (a0 : Int) (a1 : Int) (q0 : Int) (q1 : Int) (q2 : List F) (h : K03 a0 a1 = some (q0, q1, q2)) : Ev Tryz.prog 23 [i64 a0, i64 a1] [] (agg (oXc q0 q1 0 0 q2.length)) [oF 0 q2] := by
 refine yE Tryz.func23 2 19 0 [(0, i64 a0), (1, i64 a1)] [o0, o0] rfl ?_
 unfold K03 at h
 refine zQ<|ye rfl (optr 0 1 0) [⟨1, some zMx⟩, o0] (TOp.alloc_o (g := o0) 0 rfl zer27 zok27 rfl)<|zN ?_
 refine zQ<|ym rfl (i64 a0)<|ym rfl (i64 a1)<|ye rfl (oref 1 1 0 0) ([⟨1, some zMx⟩, ⟨1, some (([] : List F).map f32)⟩]) (TOp.buildSlice_o (g := o0) (za := f32 (some 0)) (qs := []) 1 rfl und25 siz30 zer30 rfl zel30 rfl rfl trivial rfl)<|yl rfl (agg [i64 a0, i64 a1, oref 1 1 0 0]) (LOp.build (qs := [(0, [i64 a0]), (1, [i64 a1]), (2, [oref 1 1 0 0])]) zer27 zok27 und27 plc27 rfl ⟨rfl, ⟨_, ALe.refl _, rfl⟩, ⟨rfl, ⟨_, ALe.refl _, rfl⟩, ⟨rfl, ⟨_, ALe.refl _, rfl⟩, trivial⟩⟩⟩ rfl)<|ys (agg [i64 a0, i64 a1, oref 1 1 0 0]) [i64 a0, i64 a1, oref 1 1 0 0] ([⟨1, some [i64 a0, i64 a1, oref 1 1 0 0]⟩, ⟨1, some (([] : List F).map f32)⟩]) siz27<|zN ?_
 refine RunC.ret ?_
 have hq := oI h
 obtain ⟨hq0, hq⟩ := Prod.mk.inj hq
 obtain ⟨hq1, hq⟩ := Prod.mk.inj hq
 subst q0
 subst q1
 subst q2
 exact yB (agg [i64 a0, i64 a1, oref 1 1 0 (([] : List F).length)]) [(1, 1)] (Res.eq (Res.one rfl (RV.cell agg27 siz27 rfl rfl rfl rfl)) (by first | rfl | (rw [(show ([] : List F).length = 0 from rfl)] <;> rfl))) (sA rfl trivial)
def K04_k1 (a0 : List Int) (a1 : Int) (a2 : Int) (v3 : Int) : Option (Int × Int × Int) :=
 olet (IntKind.i64.wrap (a1 + 1)) fun (x4 : Int) =>
 olet (IntKind.u64.wrap (a2 * 6364136223846793005)) fun (x5 : Int) =>
 olet (IntKind.u64.wrap v3) fun (x6 : Int) =>
 olet (IntKind.u64.wrap (x5 + x6)) fun (x7 : Int) =>
 olet (IntKind.u64.wrap (x7 + 1442695040888963407)) fun (x8 : Int) =>
 bsel (decide (x4 ≤ (a0.length : Int))) (
  some (v3, x4, x8)) (
  need (decide ((0 : Int) ≤ 40)) <|
  olet (ishr .u64 x8 40) fun (x9 : Int) =>
  olet (iand .u64 x9 255) fun (x10 : Int) =>
  olet (IntKind.i64.wrap x10) fun (x11 : Int) =>
  some (x11, x4, x8))
def K04 (a0 : List Int) (a1 : Int) (a2 : Int) : Option (Int × Int × Int) :=
 bsel (decide (a1 < (a0.length : Int))) (
  obind (at? a0 a1) fun (e1 : Int) =>
  olet (IntKind.i64.wrap e1) fun (x2 : Int) =>
  K04_k1 a0 a1 a2 x2) (
  K04_k1 a0 a1 a2 0)
theorem K04_ok (a0 : List Int) (a1 : Int) (a2 : Int) (q0 : Int) (q1 : Int) (q2 : Int) (h : K04 a0 a1 a2 = some (q0, q1, q2)) : Ev Tryz.prog 63 [optr 0 0 0] [⟨0, some [sl a0.length (a0.map (ik .u8)), i64 a1, ik .u64 a2]⟩] (i64 q0) [⟨0, some [sl a0.length (a0.map (ik .u8)), i64 q1, ik .u64 q2]⟩] := by
 refine Ev.start Tryz.func63 rfl rfl 0 (τ := [(0, optr 0 0 0)]) rfl (Γ' := [⟨0, some [sl a0.length (a0.map (ik .u8)), i64 a1, ik .u64 a2]⟩]) rfl (n := 124) rfl (g := 1) rfl (by decide) ?_
 unfold K04 at h
 refine zQ<|ya rfl (i64 0)<|zN ?_
 refine zQ<|ya rfl (i64 0)<|zN ?_
 refine yS<|RunC.cutN (fun τ Γ => ∃ (v3 : Int), WeakLe τ [(0, optr 0 0 0), (3, i64 v3)] ∧ DeadLe Γ [⟨0, some [sl a0.length (a0.map (ik .u8)), i64 a1, ik .u64 a2]⟩] ∧ K04_k1 a0 a1 a2 v3 = some (q0, q1, q2)) ?_ ?_
 ·refine yS ?_
  rcases oB h with ⟨hc1, h⟩ | ⟨hc1, h⟩
  ·refine RunC.region_draw (Γ' := [⟨0, some [sl a0.length (a0.map (ik .u8)), i64 a1, ik .u64 a2]⟩]) 10 mixed 
    (tm rfl (optr 0 0 0) <|
    (tl rfl (optr 0 0 0) (LOp.nilCheck_optr rfl rfl) <|
    (tl rfl (optr 0 0 1) (LOp.fao und89 rfl siz3 rfl rfl rfl) <|
    (TR.d (r := i64 a1) (fs := []) rfl rfl (TOp.load1_o rfl rfl agg3 rfl rfl) <|
    (tm rfl (optr 0 0 0) <|
    (tl rfl (optr 0 0 0) (LOp.nilCheck_optr rfl rfl) <|
    (tl rfl (optr 0 0 0) (LOp.fao und89 rfl siz22 rfl rfl rfl) <|
    (TR.d (r := sl a0.length (a0.map (ik .u8))) (fs := []) rfl rfl (TOp.load1_o rfl rfl agg22 rfl rfl) <|
    (tl rfl (i64 (a0.length : Int)) (LOp.len_sl und22 rfl rfl) <|
    (tl rfl (b true) (LOp.eqb (LOp.lss rfl rfl rfl) hc1) <|
    TR.nil)))))))))) rfl (by kernel_rfl) rfl fills_nil rfl ?_
   iterate 10 refine ROps.dropS ?_
   refine ROps.drop0<|zN ?_
   refine yT ?_
   obtain ⟨e1, he2, h⟩ := oS h
   obtain ⟨x2, hx3, h⟩ := oL h
   refine RunC.region_draw (Γ' := [⟨0, some [sl a0.length (a0.map (ik .u8)), i64 a1, ik .u64 a2]⟩]) 12 mixed 
    (tm rfl (optr 0 0 0) <|
    (tl rfl (optr 0 0 0) (LOp.nilCheck_optr rfl rfl) <|
    (tl rfl (optr 0 0 0) (LOp.fao und89 rfl siz22 rfl rfl rfl) <|
    (TR.d (r := sl a0.length (a0.map (ik .u8))) (fs := []) rfl rfl (TOp.load1_o rfl rfl agg22 rfl rfl) <|
    (tm rfl (optr 0 0 0) <|
    (tl rfl (optr 0 0 0) (LOp.nilCheck_optr rfl rfl) <|
    (tl rfl (optr 0 0 1) (LOp.fao und89 rfl siz3 rfl rfl rfl) <|
    (TR.d (r := i64 a1) (fs := []) rfl rfl (TOp.load1_o rfl rfl agg3 rfl rfl) <|
    (tl rfl (ptr [ik .u8 e1]) (LOp.le (LOp.ix (f := (ik .u8)) und22 siz5 rfl rfl rfl rfl he2) ALe.ptr) <|
    (tl rfl (ik .u8 e1) (y2 agg5) <|
    (tl rfl (i64 x2) (LOp.eqr (LOp.i2i (src := 5) (dst := 3) ⟨_, pun5⟩ pun3 rfl rfl) (congrArg (ik .i64) hx3)) <|
    (tl rfl (i64 x2) (LOp.assign rfl rfl) <|
    TR.nil)))))))))))) rfl (by kernel_rfl) rfl fills_nil rfl ?_
   iterate 12 refine ROps.dropS ?_
   refine ROps.drop0<|zN ?_
   exact ⟨x2, ⟨aR, aR, trivial⟩, ⟨⟨rfl, .inr rfl⟩, trivial⟩, h⟩
  ·refine RunC.region_draw (Γ' := [⟨0, some [sl a0.length (a0.map (ik .u8)), i64 a1, ik .u64 a2]⟩]) 10 mixed 
    (tm rfl (optr 0 0 0) <|
    (tl rfl (optr 0 0 0) (LOp.nilCheck_optr rfl rfl) <|
    (tl rfl (optr 0 0 1) (LOp.fao und89 rfl siz3 rfl rfl rfl) <|
    (TR.d (r := i64 a1) (fs := []) rfl rfl (TOp.load1_o rfl rfl agg3 rfl rfl) <|
    (tm rfl (optr 0 0 0) <|
    (tl rfl (optr 0 0 0) (LOp.nilCheck_optr rfl rfl) <|
    (tl rfl (optr 0 0 0) (LOp.fao und89 rfl siz22 rfl rfl rfl) <|
    (TR.d (r := sl a0.length (a0.map (ik .u8))) (fs := []) rfl rfl (TOp.load1_o rfl rfl agg22 rfl rfl) <|
    (tl rfl (i64 (a0.length : Int)) (LOp.len_sl und22 rfl rfl) <|
    (tl rfl (b false) (LOp.eqb (LOp.lss rfl rfl rfl) hc1) <|
    TR.nil)))))))))) rfl (by kernel_rfl) rfl fills_nil rfl ?_
   iterate 10 refine ROps.dropS ?_
   refine ROps.drop0<|zN ?_
   refine yF<|RunC.skip ?_
   exact ⟨0, ⟨aR, aR, trivial⟩, ⟨⟨rfl, .inr rfl⟩, trivial⟩, h⟩
 ·rintro τ2 Γ2 ⟨v3, hw2, hd2, h⟩
  refine RunC.wl hw2 hd2 ?_
  unfold K04_k1 at h
  refine yS ?_
  obtain ⟨x4, hx4, h⟩ := oL h
  refine yW<|ym rfl (optr 0 0 0)<|yl rfl (optr 0 0 0) (LOp.nilCheck_optr rfl rfl)<|yl rfl (optr 0 0 1) (LOp.fao und89 rfl siz3 rfl rfl rfl)<|yd rfl (i64 a1) (TOp.load1_o rfl rfl agg3 rfl rfl)<|yl rfl (i64 x4) (LOp.eqr (LOp.add rfl rfl rfl) (congrArg (ik .i64) hx4))<|yl rfl (optr 0 0 0) (LOp.nilCheck_optr rfl rfl)<|yl rfl (optr 0 0 1) (LOp.fao und89 rfl siz3 rfl rfl rfl)<|ys (i64 x4) [sl a0.length (a0.map (ik .u8)), i64 x4, ik .u64 a2] ([⟨0, some [sl a0.length (a0.map (ik .u8)), i64 x4, ik .u64 a2]⟩]) siz3<|zN ?_
  refine yS ?_
  obtain ⟨x5, hx5, h⟩ := oL h
  obtain ⟨x6, hx6, h⟩ := oL h
  obtain ⟨x7, hx7, h⟩ := oL h
  obtain ⟨x8, hx8, h⟩ := oL h
  refine yW<|ym rfl (optr 0 0 0)<|ym rfl (optr 0 0 0)<|yl rfl (optr 0 0 0) (LOp.nilCheck_optr rfl rfl)<|yl rfl (optr 0 0 2) (LOp.fao und89 rfl siz87 rfl rfl rfl)<|yd rfl (ik .u64 a2) (TOp.load1_o rfl rfl agg87 rfl rfl)<|yl rfl (ik .u64 x5) (LOp.eqr (LOp.mul rfl rfl rfl) (congrArg (ik .u64) hx5))<|ym rfl (i64 v3)<|yl rfl (ik .u64 x6) (LOp.eqr (LOp.i2i (src := 3) (dst := 87) ⟨_, pun3⟩ pun87 rfl rfl) (congrArg (ik .u64) hx6))<|yl rfl (ik .u64 x7) (LOp.eqr (LOp.add rfl rfl rfl) (congrArg (ik .u64) hx7))<|yl rfl (ik .u64 x8) (LOp.eqr (LOp.add rfl rfl rfl) (congrArg (ik .u64) hx8))<|yl rfl (optr 0 0 0) (LOp.nilCheck_optr rfl rfl)<|yl rfl (optr 0 0 2) (LOp.fao und89 rfl siz87 rfl rfl rfl)<|ys (ik .u64 x8) [sl a0.length (a0.map (ik .u8)), i64 x4, ik .u64 x8] ([⟨0, some [sl a0.length (a0.map (ik .u8)), i64 x4, ik .u64 x8]⟩]) siz87<|zN ?_
  refine RunC.wl (τ' := [(0, optr 0 0 0), (3, i64 v3)]) (Γ' := [⟨0, some [sl a0.length (a0.map (ik .u8)), i64 x4, ik .u64 x8]⟩]) ⟨aR, aR, trivial⟩ ⟨⟨rfl, .inr rfl⟩, trivial⟩<|yS<|yS ?_
  rcases oB h with ⟨hc9, h⟩ | ⟨hc9, h⟩
  ·refine RunC.region_draw (Γ' := [⟨0, some [sl a0.length (a0.map (ik .u8)), i64 x4, ik .u64 x8]⟩]) 10 mixed 
    (tm rfl (optr 0 0 0) <|
    (tl rfl (optr 0 0 0) (LOp.nilCheck_optr rfl rfl) <|
    (tl rfl (optr 0 0 1) (LOp.fao und89 rfl siz3 rfl rfl rfl) <|
    (TR.d (r := i64 x4) (fs := []) rfl rfl (TOp.load1_o rfl rfl agg3 rfl rfl) <|
    (tm rfl (optr 0 0 0) <|
    (tl rfl (optr 0 0 0) (LOp.nilCheck_optr rfl rfl) <|
    (tl rfl (optr 0 0 0) (LOp.fao und89 rfl siz22 rfl rfl rfl) <|
    (TR.d (r := sl a0.length (a0.map (ik .u8))) (fs := []) rfl rfl (TOp.load1_o rfl rfl agg22 rfl rfl) <|
    (tl rfl (i64 (a0.length : Int)) (LOp.len_sl und22 rfl rfl) <|
    (tl rfl (b true) (LOp.eqb (LOp.leq rfl rfl rfl) hc9) <|
    TR.nil)))))))))) rfl (by kernel_rfl) rfl fills_nil rfl ?_
   iterate 10 refine ROps.dropS ?_
   refine ROps.drop0<|zN ?_
   refine yT<|zQ<|ym rfl (i64 v3)<|ya rfl (i64 v3)<|zN ?_
   refine RunC.ret ?_
   have hq := oI h
   obtain ⟨hq0, hq⟩ := Prod.mk.inj hq
   obtain ⟨hq1, hq⟩ := Prod.mk.inj hq
   subst q0
   subst q1
   subst q2
   exact yB (i64 v3) [(0, 0)] (Res.one rfl (RV.tmp rfl)) (SelL.cells rfl (by first | rfl | simp [ren, rens, sigma, rens_f32, rens_f64, rens_i64, rens_ik, rens_str, rens_cp]) (lts_cons (lt_slk (fun _ => rfl)) (lts_cons rfl (lts_cons rfl lts_nil))) trivial)
  ·refine RunC.region_draw (Γ' := [⟨0, some [sl a0.length (a0.map (ik .u8)), i64 x4, ik .u64 x8]⟩]) 10 mixed 
    (tm rfl (optr 0 0 0) <|
    (tl rfl (optr 0 0 0) (LOp.nilCheck_optr rfl rfl) <|
    (tl rfl (optr 0 0 1) (LOp.fao und89 rfl siz3 rfl rfl rfl) <|
    (TR.d (r := i64 x4) (fs := []) rfl rfl (TOp.load1_o rfl rfl agg3 rfl rfl) <|
    (tm rfl (optr 0 0 0) <|
    (tl rfl (optr 0 0 0) (LOp.nilCheck_optr rfl rfl) <|
    (tl rfl (optr 0 0 0) (LOp.fao und89 rfl siz22 rfl rfl rfl) <|
    (TR.d (r := sl a0.length (a0.map (ik .u8))) (fs := []) rfl rfl (TOp.load1_o rfl rfl agg22 rfl rfl) <|
    (tl rfl (i64 (a0.length : Int)) (LOp.len_sl und22 rfl rfl) <|
    (tl rfl (b false) (LOp.eqb (LOp.leq rfl rfl rfl) hc9) <|
    TR.nil)))))))))) rfl (by kernel_rfl) rfl fills_nil rfl ?_
   iterate 10 refine ROps.dropS ?_
   refine ROps.drop0<|zN ?_
   refine yF<|RunC.skip<|yS ?_
   obtain ⟨hz10, h⟩ := need_some h
   obtain ⟨x9, hx11, h⟩ := oL h
   obtain ⟨x10, hx12, h⟩ := oL h
   obtain ⟨x11, hx13, h⟩ := oL h
   refine yW<|ym rfl (optr 0 0 0)<|yl rfl (optr 0 0 0) (LOp.nilCheck_optr rfl rfl)<|yl rfl (optr 0 0 2) (LOp.fao und89 rfl siz87 rfl rfl rfl)<|yd rfl (ik .u64 x8) (TOp.load1_o rfl rfl agg87 rfl rfl)<|yl rfl (ik .u64 x9) (LOp.eqr (LOp.shr rfl rfl rfl (of_decide_eq_true hz10)) (congrArg (ik .u64) hx11))<|yl rfl (ik .u64 x10) (LOp.eqr (LOp.iand rfl rfl rfl) (congrArg (ik .u64) hx12))<|yl rfl (i64 x11) (LOp.eqr (LOp.i2i (src := 87) (dst := 2) ⟨_, pun87⟩ pun2 rfl rfl) (congrArg (ik .i64) hx13))<|ya rfl (i64 x11)<|zN ?_
   refine RunC.ret ?_
   have hq := oI h
   obtain ⟨hq0, hq⟩ := Prod.mk.inj hq
   obtain ⟨hq1, hq⟩ := Prod.mk.inj hq
   subst q0
   subst q1
   subst q2
   exact yB (i64 x11) [(0, 0)] (Res.one rfl (RV.tmp rfl)) (SelL.cells rfl (by first | rfl | simp [ren, rens, sigma, rens_f32, rens_f64, rens_i64, rens_ik, rens_str, rens_cp]) (lts_cons (lt_slk (fun _ => rfl)) (lts_cons rfl (lts_cons rfl lts_nil))) trivial)
def K05_k1 (a0 : Int) (v9 : Int) (v10 : Int) (v11 : Int) : Option (Int × Int × Int) :=
 need (!decide (a0 = 0)) <|
 olet (v11.tmod a0) fun (x12 : Int) =>
 some (x12, v9, v10)
def K05 (a0 : Int) (a1 : List Int) (a2 : Int) (a3 : Int) : Option (Int × Int × Int) :=
 bsel (decide (a0 ≤ 1)) (
  some (0, a2, a3)) (
  obind3 (K04 a1 a2 a3) fun (r1 : Int) (r2 : Int) (r3 : Int) =>
  bsel (decide (200 < a0)) (
   olet (IntKind.i64.wrap (r1 * 256)) fun (x4 : Int) =>
   obind3 (K04 a1 r2 r3) fun (r5 : Int) (r6 : Int) (r7 : Int) =>
   olet (IntKind.i64.wrap (x4 + r5)) fun (x8 : Int) =>
   K05_k1 a0 r6 r7 x8) (
   K05_k1 a0 r2 r3 r1))
theorem K05_ok (a0 : Int) (a1 : List Int) (a2 : Int) (a3 : Int) (q0 : Int) (q1 : Int) (q2 : Int) (h : K05 a0 a1 a2 a3 = some (q0, q1, q2)) : Ev Tryz.prog 24 [optr 0 0 0, i64 a0] [⟨0, some [sl a1.length (a1.map (ik .u8)), i64 a2, ik .u64 a3]⟩] (i64 q0) [⟨0, some [sl a1.length (a1.map (ik .u8)), i64 q1, ik .u64 q2]⟩] := by
 refine Ev.start Tryz.func24 rfl rfl 0 (τ := [(0, optr 0 0 0), (1, i64 a0)]) rfl (Γ' := [⟨0, some [sl a1.length (a1.map (ik .u8)), i64 a2, ik .u64 a3]⟩]) rfl (n := 40) rfl (g := 1) rfl (by decide) ?_
 unfold K05 at h
 refine zQ<|ya rfl (i64 0)<|zN ?_
 refine yS<|yS ?_
 rcases oB h with ⟨hc1, h⟩ | ⟨hc1, h⟩
 ·refine yW<|ym rfl (i64 a0)<|yl rfl (b true) (LOp.eqb (LOp.leq rfl rfl rfl) hc1)<|zN ?_
  refine yT<|zQ<|ya rfl (i64 0)<|zN ?_
  refine RunC.ret ?_
  have hq := oI h
  obtain ⟨hq0, hq⟩ := Prod.mk.inj hq
  obtain ⟨hq1, hq⟩ := Prod.mk.inj hq
  subst q0
  subst q1
  subst q2
  exact yB (i64 0) [(0, 0)] (Res.one rfl (RV.tmp rfl)) (SelL.cells rfl (by first | rfl | simp [ren, rens, sigma, rens_f32, rens_f64, rens_i64, rens_ik, rens_str, rens_cp]) (lts_cons (lt_slk (fun _ => rfl)) (lts_cons rfl (lts_cons rfl lts_nil))) trivial)
 ·refine yW<|ym rfl (i64 a0)<|yl rfl (b false) (LOp.eqb (LOp.leq rfl rfl rfl) hc1)<|zN ?_
  refine yF<|RunC.skip<|yS ?_
  obtain ⟨r1, r2, r3, hf2, h⟩ := obind3_some h
  refine yW<|ym rfl (optr 0 0 0)<|ROps.callO (A := [optr 0 0 0]) (args := [optr 0 0 0]) (Γc := [⟨0, some [sl a1.length (a1.map (ik .u8)), i64 a2, ik .u64 a3]⟩]) (Γc' := [⟨0, some [sl a1.length (a1.map (ik .u8)), i64 r2, ik .u64 r3]⟩]) (r' := i64 r1) (Γ' := [⟨0, some [sl a1.length (a1.map (ik .u8)), i64 r2, ik .u64 r3]⟩]) [(0, 0)] [] rfl (CallAs.func ent63 rfl rfl) rfl rfl (SelOk.of (ndB_ok rfl) (SelL.cells0 rfl (by simp [ren, rens, sigma, rens_f32, rens_f64, rens_i64, rens_ik, rens_str, rens_cp]) (lts_cons (lt_slk (fun _ => rfl)) (lts_cons rfl (lts_cons rfl lts_nil))) trivial)) (live_of ⟨⟨_, _, rfl⟩, trivial⟩) (by simp [ren, rens, sigma, rens_f32, rens_f64, rens_i64, rens_ik, rens_str, rens_cp]) rfl (K04_ok a1 a2 a3 r1 r2 r3 hf2) rfl (news_of trivial) (ndB_ok rfl) (by simp [ren, rens, sigma]) (by simp [backOb, sigma, ren, rens, rens_f32, rens_f64, rens_i64, rens_ik, rens_str, rens_cp] <;> omega)<|ya rfl (i64 r1)<|zN ?_
  refine yS<|RunC.cutN (fun τ Γ => ∃ (v9 : Int) (v10 : Int) (v11 : Int), WeakLe τ [(1, i64 a0), (5, i64 v11)] ∧ DeadLe Γ [⟨0, some [sl a1.length (a1.map (ik .u8)), i64 v9, ik .u64 v10]⟩] ∧ K05_k1 a0 v9 v10 v11 = some (q0, q1, q2)) ?_ ?_
  ·refine yS ?_
   rcases oB h with ⟨hc3, h⟩ | ⟨hc3, h⟩
   ·refine yW<|ym rfl (i64 a0)<|yl rfl (b true) (LOp.eqb (LOp.gtr rfl rfl rfl) hc3)<|zN ?_
    refine yT ?_
    obtain ⟨x4, hx4, h⟩ := oL h
    obtain ⟨r5, r6, r7, hf5, h⟩ := obind3_some h
    obtain ⟨x8, hx6, h⟩ := oL h
    refine yW<|ym rfl (i64 r1)<|yl rfl (i64 x4) (LOp.eqr (LOp.mul rfl rfl rfl) (congrArg (ik .i64) hx4))<|ym rfl (optr 0 0 0)<|ROps.callO (A := [optr 0 0 0]) (args := [optr 0 0 0]) (Γc := [⟨0, some [sl a1.length (a1.map (ik .u8)), i64 r2, ik .u64 r3]⟩]) (Γc' := [⟨0, some [sl a1.length (a1.map (ik .u8)), i64 r6, ik .u64 r7]⟩]) (r' := i64 r5) (Γ' := [⟨0, some [sl a1.length (a1.map (ik .u8)), i64 r6, ik .u64 r7]⟩]) [(0, 0)] [] rfl (CallAs.func ent63 rfl rfl) rfl rfl (SelOk.of (ndB_ok rfl) (SelL.cells0 rfl (by simp [ren, rens, sigma, rens_f32, rens_f64, rens_i64, rens_ik, rens_str, rens_cp]) (lts_cons (lt_slk (fun _ => rfl)) (lts_cons rfl (lts_cons rfl lts_nil))) trivial)) (live_of ⟨⟨_, _, rfl⟩, trivial⟩) (by simp [ren, rens, sigma, rens_f32, rens_f64, rens_i64, rens_ik, rens_str, rens_cp]) rfl (K04_ok a1 r2 r3 r5 r6 r7 hf5) rfl (news_of trivial) (ndB_ok rfl) (by simp [ren, rens, sigma]) (by simp [backOb, sigma, ren, rens, rens_f32, rens_f64, rens_i64, rens_ik, rens_str, rens_cp] <;> omega)<|yl rfl (i64 x8) (LOp.eqr (LOp.add rfl rfl rfl) (congrArg (ik .i64) hx6))<|ya rfl (i64 x8)<|zN ?_
    exact ⟨r6, r7, x8, ⟨aR, aR, trivial⟩, ⟨⟨rfl, .inr rfl⟩, trivial⟩, h⟩
   ·refine yW<|ym rfl (i64 a0)<|yl rfl (b false) (LOp.eqb (LOp.gtr rfl rfl rfl) hc3)<|zN ?_
    refine yF<|RunC.skip ?_
    exact ⟨r2, r3, r1, ⟨aR, aR, trivial⟩, ⟨⟨rfl, .inr rfl⟩, trivial⟩, h⟩
  ·rintro τ2 Γ2 ⟨v9, v10, v11, hw2, hd2, h⟩
   refine RunC.wl hw2 hd2 ?_
   unfold K05_k1 at h
   refine yS ?_
   obtain ⟨hz7, h⟩ := need_some h
   obtain ⟨x12, hx8, h⟩ := oL h
   refine yW<|ym rfl (i64 v11)<|ym rfl (i64 a0)<|yl rfl (i64 x12) (LOp.eqr (LOp.rem rfl rfl rfl (nz hz7)) (congrArg (ik .i64) hx8))<|ya rfl (i64 x12)<|zN ?_
   refine RunC.ret ?_
   have hq := oI h
   obtain ⟨hq0, hq⟩ := Prod.mk.inj hq
   obtain ⟨hq1, hq⟩ := Prod.mk.inj hq
   subst q0
   subst q1
   subst q2
   exact yB (i64 x12) [(0, 0)] (Res.one rfl (RV.tmp rfl)) (SelL.cells rfl (by first | rfl | simp [ren, rens, sigma, rens_f32, rens_f64, rens_i64, rens_ik, rens_str, rens_cp]) (lts_cons (lt_slk (fun _ => rfl)) (lts_cons rfl (lts_cons rfl lts_nil))) trivial)
def K06_k5 (L15 : List F) (v18 : Int) (v31 : Int) (v32 : Int) (y33 : F) : Option (LR ((List F) × Int × Int × Int) ((List F) × Int × Int) (Int × Int × (List F))) :=
 need (apok 4 L15.length 1) <|
 olet (IntKind.i64.wrap (v18 + 1)) fun (x34 : Int) =>
 some (LR.next ((L15 ++ ([y33] : List F)), v31, v32, x34))
def K06_b6 (a1 : Int) (r1 : List Int) (v12 : Int) (L15 : List F) (v16 : Int) (v17 : Int) (v18 : Int) : Option (LR ((List F) × Int × Int × Int) ((List F) × Int × Int) (Int × Int × (List F))) :=
 bsel (decide (v18 < a1)) (
  obind3 (K05 9 r1 v16 v17) fun (r19 : Int) (r20 : Int) (r21 : Int) =>
  olet (IntKind.i64.wrap (r19 - 4)) fun (x22 : Int) =>
  olet (fint .f32 x22) fun (x23 : F) =>
  olet (fop .quo .f32 x23 (some 1082130432)) fun (x24 : F) =>
  bsel (decide (v12 = v18)) (
   obind3 (K05 9 r1 r20 r21) fun (r25 : Int) (r26 : Int) (r27 : Int) =>
   olet (IntKind.i64.wrap (24 + r25)) fun (x28 : Int) =>
   olet (fint .f32 x28) fun (x29 : F) =>
   olet (fop .quo .f32 x29 (some 1082130432)) fun (x30 : F) =>
   K06_k5 L15 v18 r26 r27 x30) (
   K06_k5 L15 v18 r20 r21 x24)) (
  some (LR.out (L15, v16, v17)))
def K06_s6 (a1 : Int) (r1 : List Int) (v12 : Int) : ((List F) × Int × Int × Int) → Option (LR ((List F) × Int × Int × Int) ((List F) × Int × Int) (Int × Int × (List F))) := fun s => K06_b6 a1 r1 v12 s.1 s.2.1 s.2.2.1 s.2.2.2
def K06_k6 (v12 : Int) (L37 : List F) (v38 : Int) (v39 : Int) : Option (LR ((List F) × Int × Int × Int) ((List F)) (Int × Int × (List F))) :=
 olet (IntKind.i64.wrap (v12 + 1)) fun (x40 : Int) =>
 some (LR.next (L37, v38, v39, x40))
def K06_b7 (a1 : Int) (r1 : List Int) (L9 : List F) (v10 : Int) (v11 : Int) (v12 : Int) : Option (LR ((List F) × Int × Int × Int) ((List F)) (Int × Int × (List F))) :=
 bsel (decide (v12 < a1)) (
  obind (loopM (K06_s6 a1 r1 v12) (L9, v10, v11, 0)) fun z => osum z (fun e => K06_k6 v12 e.1 e.2.1 e.2.2) (fun r => some (LR.ret r))) (
  some (LR.out L9))
def K06_s7 (a1 : Int) (r1 : List Int) : ((List F) × Int × Int × Int) → Option (LR ((List F) × Int × Int × Int) ((List F)) (Int × Int × (List F))) := fun s => K06_b7 a1 r1 s.1 s.2.1 s.2.2.1 s.2.2.2
def K06_k7 (r4 : Int) (r5 : Int) (L43 : List F) : Option (Int × Int × (List F)) :=
 some (r4, r5, L43)
def K06 (a0 : List Int) (a1 : Int) : Option (Int × Int × (List F)) :=
 obind3 (K02 a0) fun (r1 : List Int) (r2 : Int) (r3 : Int) =>
 obind3 (K03 a1 a1) fun (r4 : Int) (r5 : Int) (r6 : List F) =>
 obind (loopM (K06_s7 a1 r1) (r6, r2, r3, 0)) fun z => osum z (fun e => K06_k7 r4 r5 e) (fun r => some r)
theorem K06_ok (a0 : List Int) (a1 : Int) (q0 : Int) (q1 : Int) (q2 : List F) (h : K06 a0 a1 = some (q0, q1, q2)) : Ev Tryz.prog 6 [sl a0.length (a0.map (ik .u8)), i64 a1] [] (agg (oXc q0 q1 0 0 q2.length)) [oF 0 q2] := by
 refine yE Tryz.func6 5 91 0 [(0, sl a0.length (a0.map (ik .u8))), (1, i64 a1)] [o0, o0, o0, o0, o0] rfl ?_
 unfold K06 at h
 refine zQ<|ye rfl (optr 0 1 0) [⟨1, some zMx⟩, o0, o0, o0, o0] (TOp.alloc_o (g := o0) 0 rfl zer27 zok27 rfl)<|zN ?_
 refine yS ?_
 obtain ⟨r1, r2, r3, hf1, h⟩ := obind3_some h
 refine yW<|ym rfl (sl a0.length (a0.map (ik .u8)))<|ye rfl (optr 1 1 0) ([⟨1, some zMx⟩, ⟨1, some [sl r1.length (r1.map (ik .u8)), i64 r2, ik .u64 r3]⟩, o0, o0, o0]) (TOp.callN (A := [sl a0.length (a0.map (ik .u8))]) (ls := [[sl r1.length (r1.map (ik .u8)), i64 r2, ik .u64 r3]]) [1] (by exact (CallAs.func ent22 rfl rfl)) (lts_cons (lt_sl (fun _ => rfl)) lts_nil) (K02_ok a0 r1 r2 r3 hf1) (and_all (lts_cons (lt_sl (fun _ => rfl)) (lts_cons rfl (lts_cons rfl lts_nil))) rfl) rfl (by decide) (ns_of ⟨⟨_, rfl⟩, trivial⟩))<|ya rfl (optr 1 1 0)<|zN ?_
 refine yS ?_
 obtain ⟨r4, r5, r6, hf2, h⟩ := obind3_some h
 refine yW<|ym rfl (i64 a1)<|ym rfl (i64 a1)<|ye rfl (agg (oXc r4 r5 2 1 r6.length)) ([⟨1, some zMx⟩, ⟨1, some [sl r1.length (r1.map (ik .u8)), i64 r2, ik .u64 r3]⟩, oF 1 r6, o0, o0]) (TOp.callBN (ls := [(r6.map f32)]) [2] (CallAs.func ent23 rfl rfl) (bP bN0) rfl (K03_ok a1 a1 r4 r5 r6 hf2) (and_all (lts0_map (f := f32) (fun _ => rfl) _) rfl) (and_all (noss_map (f := f32) (fun _ => rfl) _) rfl) rfl (by decide) (ns_of ⟨⟨_, rfl⟩, trivial⟩))<|ye rfl (optr 3 1 0) ([⟨1, some zMx⟩, ⟨1, some [sl r1.length (r1.map (ik .u8)), i64 r2, ik .u64 r3]⟩, oF 1 r6, ⟨1, some zMx⟩, o0]) (TOp.alloc_o (g := o0) 3 rfl zer27 zok27 rfl)<|ys (agg (oXc r4 r5 2 1 r6.length)) (oXc r4 r5 2 1 r6.length) ([⟨1, some zMx⟩, ⟨1, some [sl r1.length (r1.map (ik .u8)), i64 r2, ik .u64 r3]⟩, oF 1 r6, ⟨1, some (oXc r4 r5 2 1 r6.length)⟩, o0]) siz27<|zN ?_
 refine yS<|zQ<|ya rfl (i64 0)<|zN ?_
 obtain ⟨z8, hz_8, h⟩ := oS h
 refine RunC.cutN (fun τ Γ => ∃ (L43 : List F) (u41 : Nat) (u42 : Nat), WeakLe τ [(4, optr 0 1 0), (6, optr 3 1 0)] ∧ DeadLe Γ [⟨1, some zMx⟩, ⟨1, none⟩, ⟨u41, some (L43.map f32)⟩, ⟨1, some (oXc r4 r5 2 u41 L43.length)⟩, ⟨u42, none⟩] ∧ z8 = .inl L43) ?_ ?_
 ·refine RunC.block (RunC.loop (RunL.loopM (x := z8) (K06_s7 a1 r1) (fun (s : (List F) × Int × Int × Int) τ Γ => ∃ (u7 : Nat) (u8 : Nat), WeakLe τ [(1, i64 a1), (4, optr 0 1 0), (5, optr 1 1 0), (6, optr 3 1 0), (7, i64 s.2.2.2)] ∧ DeadLe Γ [⟨1, some zMx⟩, ⟨1, some [sl r1.length (r1.map (ik .u8)), i64 s.2.1, ik .u64 s.2.2.1]⟩, ⟨u7, some (s.1.map f32)⟩, ⟨1, some [i64 r4, i64 r5, oref 2 u7 0 s.1.length]⟩, ⟨u8, none⟩]) ?_ _ _ _ hz_8 ⟨1, 0, ⟨aR, aR, aR, aR, aR, trivial⟩, ⟨⟨rfl, .inr rfl⟩, ⟨rfl, .inr rfl⟩, ⟨rfl, .inr rfl⟩, ⟨rfl, .inr (by first | rfl | simp)⟩, ⟨rfl, .inl rfl⟩, trivial⟩⟩))
  rintro ⟨L9, v10, v11, v12⟩ τ8 Γ8 y8_ ⟨u7, u8, hw8, hd8⟩ h8_ ho8 hr8
  refine RunC.wl (τ' := [(1, i64 a1), (4, optr 0 1 0), (5, optr 1 1 0), (6, optr 3 1 0), (7, i64 v12)]) (Γ' := [⟨1, some zMx⟩, ⟨1, some [sl r1.length (r1.map (ik .u8)), i64 v10, ik .u64 v11]⟩, ⟨u7, some (L9.map f32)⟩, ⟨1, some (oXc r4 r5 2 u7 L9.length)⟩, ⟨u8, none⟩]) hw8 hd8 ?_
  replace h8_ : K06_b7 a1 r1 L9 v10 v11 v12 = some y8_ := h8_
  unfold K06_b7 at h8_
  refine yS<|yS ?_
  rcases oB h8_ with ⟨hc3, h8_⟩ | ⟨hc3, h8_⟩
  ·refine yW<|ym rfl (i64 v12)<|ym rfl (i64 a1)<|yl rfl (b true) (LOp.eqb (LOp.lss rfl rfl rfl) hc3)<|zN ?_
   refine yT<|RunC.skip<|yS<|RunC.block<|zQ<|ya rfl (i64 0)<|zN ?_
   obtain ⟨z9, hz_9, h8_⟩ := oS h8_
   refine RunC.cutN (fun τ Γ => ∃ (L37 : List F) (v38 : Int) (v39 : Int) (u35 : Nat) (u36 : Nat), WeakLe τ [(1, i64 a1), (4, optr 0 1 0), (5, optr 1 1 0), (6, optr 3 1 0), (7, i64 v12)] ∧ DeadLe Γ [⟨1, some zMx⟩, ⟨1, some [sl r1.length (r1.map (ik .u8)), i64 v38, ik .u64 v39]⟩, ⟨u35, some (L37.map f32)⟩, ⟨1, some (oXc r4 r5 2 u35 L37.length)⟩, ⟨u36, none⟩] ∧ z9 = .inl (L37, v38, v39)) ?_ ?_
   ·refine RunC.block (RunC.loop (RunL.loopM (x := z9) (K06_s6 a1 r1 v12) (fun (s : (List F) × Int × Int × Int) τ Γ => ∃ (u13 : Nat) (u14 : Nat), WeakLe τ [(1, i64 a1), (4, optr 0 1 0), (5, optr 1 1 0), (6, optr 3 1 0), (7, i64 v12), (8, i64 s.2.2.2)] ∧ DeadLe Γ [⟨1, some zMx⟩, ⟨1, some [sl r1.length (r1.map (ik .u8)), i64 s.2.1, ik .u64 s.2.2.1]⟩, ⟨u13, some (s.1.map f32)⟩, ⟨1, some [i64 r4, i64 r5, oref 2 u13 0 s.1.length]⟩, ⟨u14, none⟩]) ?_ _ _ _ hz_9 ⟨u7, u8, ⟨aR, aR, aR, aR, aR, aR, trivial⟩, ⟨⟨rfl, .inr rfl⟩, ⟨rfl, .inr rfl⟩, ⟨rfl, .inr rfl⟩, ⟨rfl, .inr (by first | rfl | simp)⟩, ⟨rfl, .inl rfl⟩, trivial⟩⟩))
    rintro ⟨L15, v16, v17, v18⟩ τ9 Γ9 y9_ ⟨u13, u14, hw9, hd9⟩ h9_ ho9 hr9
    refine RunC.wl (τ' := [(1, i64 a1), (4, optr 0 1 0), (5, optr 1 1 0), (6, optr 3 1 0), (7, i64 v12), (8, i64 v18)]) (Γ' := [⟨1, some zMx⟩, ⟨1, some [sl r1.length (r1.map (ik .u8)), i64 v16, ik .u64 v17]⟩, ⟨u13, some (L15.map f32)⟩, ⟨1, some (oXc r4 r5 2 u13 L15.length)⟩, ⟨u14, none⟩]) hw9 hd9 ?_
    replace h9_ : K06_b6 a1 r1 v12 L15 v16 v17 v18 = some y9_ := h9_
    unfold K06_b6 at h9_
    refine yS<|yS ?_
    rcases oB h9_ with ⟨hc4, h9_⟩ | ⟨hc4, h9_⟩
    ·refine yW<|ym rfl (i64 v18)<|ym rfl (i64 a1)<|yl rfl (b true) (LOp.eqb (LOp.lss rfl rfl rfl) hc4)<|zN ?_
     refine yT<|RunC.skip<|yS<|RunC.block<|yS ?_
     obtain ⟨r19, r20, r21, hf5, h9_⟩ := obind3_some h9_
     obtain ⟨x22, hx6, h9_⟩ := oL h9_
     obtain ⟨x23, hx7, h9_⟩ := oL h9_
     obtain ⟨x24, hx8, h9_⟩ := oL h9_
     refine yW<|ym rfl (optr 1 1 0)<|ROps.callO (A := [optr 1 1 0, i64 9]) (args := [optr 0 0 0, i64 9]) (Γc := [⟨0, some [sl r1.length (r1.map (ik .u8)), i64 v16, ik .u64 v17]⟩]) (Γc' := [⟨0, some [sl r1.length (r1.map (ik .u8)), i64 r20, ik .u64 r21]⟩]) (r' := i64 r19) (Γ' := [⟨1, some zMx⟩, ⟨1, some [sl r1.length (r1.map (ik .u8)), i64 r20, ik .u64 r21]⟩, ⟨u13, some (L15.map f32)⟩, ⟨1, some (oXc r4 r5 2 u13 L15.length)⟩, ⟨u14, none⟩]) [(1, 1)] [] rfl (CallAs.func ent24 rfl rfl) rfl rfl (SelOk.of (ndB_ok rfl) (SelL.cells0 rfl (by simp [ren, rens, sigma, rens_f32, rens_f64, rens_i64, rens_ik, rens_str, rens_cp]) (lts_cons (lt_slk (fun _ => rfl)) (lts_cons rfl (lts_cons rfl lts_nil))) trivial)) (live_of ⟨⟨_, _, rfl⟩, trivial⟩) (by simp [ren, rens, sigma, rens_f32, rens_f64, rens_i64, rens_ik, rens_str, rens_cp]) rfl (K05_ok 9 r1 v16 v17 r19 r20 r21 hf5) rfl (news_of trivial) (ndB_ok rfl) (by simp [ren, rens, sigma]) (by simp [backOb, sigma, ren, rens, rens_f32, rens_f64, rens_i64, rens_ik, rens_str, rens_cp] <;> omega)<|yl rfl (i64 x22) (LOp.eqr (LOp.sub rfl rfl rfl) (congrArg (ik .i64) hx6))<|yl rfl (f32 x23) (LOp.eqr (LOp.i2f (src := 2) (dst := 30) ⟨_, pun2⟩ pun30 rfl rfl) (congrArg (f .f32) hx7))<|yd rfl (f32 x24) (TOp.eqr (TOp.fop (.inr (.inr (.inr rfl))) rfl (OpF.tmp rfl) (OpF.const rfl (by kernel_rfl) (by kernel_rfl))) (congrArg (f .f32) hx8))<|ya rfl (f32 x24)<|zN ?_
     refine yS<|RunC.cutN (fun τ Γ => ∃ (v31 : Int) (v32 : Int) (y33 : F), WeakLe τ [(1, i64 a1), (4, optr 0 1 0), (5, optr 1 1 0), (6, optr 3 1 0), (7, i64 v12), (8, i64 v18), (9, f32 y33)] ∧ DeadLe Γ [⟨1, some zMx⟩, ⟨1, some [sl r1.length (r1.map (ik .u8)), i64 v31, ik .u64 v32]⟩, ⟨u13, some (L15.map f32)⟩, ⟨1, some (oXc r4 r5 2 u13 L15.length)⟩, ⟨u14, none⟩] ∧ K06_k5 L15 v18 v31 v32 y33 = some y9_) ?_ ?_
     ·refine yS ?_
      rcases oB h9_ with ⟨hc9, h9_⟩ | ⟨hc9, h9_⟩
      ·refine yW<|ym rfl (i64 v12)<|ym rfl (i64 v18)<|yl rfl (b true) (LOp.eqb (LOp.eql rfl rfl rfl) hc9)<|zN ?_
       refine yT ?_
       obtain ⟨r25, r26, r27, hf10, h9_⟩ := obind3_some h9_
       obtain ⟨x28, hx11, h9_⟩ := oL h9_
       obtain ⟨x29, hx12, h9_⟩ := oL h9_
       obtain ⟨x30, hx13, h9_⟩ := oL h9_
       refine yW<|ym rfl (optr 1 1 0)<|ROps.callO (A := [optr 1 1 0, i64 9]) (args := [optr 0 0 0, i64 9]) (Γc := [⟨0, some [sl r1.length (r1.map (ik .u8)), i64 r20, ik .u64 r21]⟩]) (Γc' := [⟨0, some [sl r1.length (r1.map (ik .u8)), i64 r26, ik .u64 r27]⟩]) (r' := i64 r25) (Γ' := [⟨1, some zMx⟩, ⟨1, some [sl r1.length (r1.map (ik .u8)), i64 r26, ik .u64 r27]⟩, ⟨u13, some (L15.map f32)⟩, ⟨1, some (oXc r4 r5 2 u13 L15.length)⟩, ⟨u14, none⟩]) [(1, 1)] [] rfl (CallAs.func ent24 rfl rfl) rfl rfl (SelOk.of (ndB_ok rfl) (SelL.cells0 rfl (by simp [ren, rens, sigma, rens_f32, rens_f64, rens_i64, rens_ik, rens_str, rens_cp]) (lts_cons (lt_slk (fun _ => rfl)) (lts_cons rfl (lts_cons rfl lts_nil))) trivial)) (live_of ⟨⟨_, _, rfl⟩, trivial⟩) (by simp [ren, rens, sigma, rens_f32, rens_f64, rens_i64, rens_ik, rens_str, rens_cp]) rfl (K05_ok 9 r1 r20 r21 r25 r26 r27 hf10) rfl (news_of trivial) (ndB_ok rfl) (by simp [ren, rens, sigma]) (by simp [backOb, sigma, ren, rens, rens_f32, rens_f64, rens_i64, rens_ik, rens_str, rens_cp] <;> omega)<|yl rfl (i64 x28) (LOp.eqr (LOp.add rfl rfl rfl) (congrArg (ik .i64) hx11))<|yl rfl (f32 x29) (LOp.eqr (LOp.i2f (src := 2) (dst := 30) ⟨_, pun2⟩ pun30 rfl rfl) (congrArg (f .f32) hx12))<|yd rfl (f32 x30) (TOp.eqr (TOp.fop (.inr (.inr (.inr rfl))) rfl (OpF.tmp rfl) (OpF.const rfl (by kernel_rfl) (by kernel_rfl))) (congrArg (f .f32) hx13))<|ya rfl (f32 x30)<|zN ?_
       exact ⟨r26, r27, x30, ⟨aR, aR, aR, aR, aR, aR, aR, trivial⟩, ⟨⟨rfl, .inr rfl⟩, ⟨rfl, .inr rfl⟩, ⟨rfl, .inr rfl⟩, ⟨rfl, .inr rfl⟩, ⟨rfl, .inl rfl⟩, trivial⟩, h9_⟩
      ·refine yW<|ym rfl (i64 v12)<|ym rfl (i64 v18)<|yl rfl (b false) (LOp.eqb (LOp.eql rfl rfl rfl) hc9)<|zN ?_
       refine yF<|RunC.skip ?_
       exact ⟨r20, r21, x24, ⟨aR, aR, aR, aR, aR, aR, aR, trivial⟩, ⟨⟨rfl, .inr rfl⟩, ⟨rfl, .inr rfl⟩, ⟨rfl, .inr rfl⟩, ⟨rfl, .inr rfl⟩, ⟨rfl, .inl rfl⟩, trivial⟩, h9_⟩
     ·rintro τ10 Γ10 ⟨v31, v32, y33, hw10, hd10, h9_⟩
      refine RunC.wl hw10 hd10 ?_
      unfold K06_k5 at h9_
      obtain ⟨hm14, h9_⟩ := need_some h9_
      refine yW<|yl rfl (optr 3 1 2) (LOp.fao und27 rfl siz25 rfl rfl rfl)<|yd rfl (oref 2 u13 0 L15.length) (TOp.load1_o rfl rfl agg25 rfl rfl)<|ym rfl (f32 y33)<|ye rfl (oref 4 (u14 + 1) 0 1) ([⟨1, some zMx⟩, ⟨1, some [sl r1.length (r1.map (ik .u8)), i64 v31, ik .u64 v32]⟩, ⟨u13, some (L15.map f32)⟩, ⟨1, some (oXc r4 r5 2 u13 L15.length)⟩, ⟨(u14 + 1), some (([y33] : List F).map f32)⟩]) (TOp.buildSlice_o (g := ⟨u14, none⟩) (za := f32 (some 0)) (qs := [(0, [f32 y33])]) 4 rfl und25 siz30 zer30 rfl zel30 rfl rfl ⟨rfl, ⟨_, ALe.refl _, rfl⟩, trivial⟩ rfl)<|ROps.app (f := f32) (xs := L15) (ys := ([y33] : List F)) (Γ' := [⟨1, some zMx⟩, ⟨1, some [sl r1.length (r1.map (ik .u8)), i64 v31, ik .u64 v32]⟩, ⟨(u13 + 1), some ((L15 ++ ([y33] : List F)).map f32)⟩, ⟨1, some (oXc r4 r5 2 u13 L15.length)⟩, ⟨(u14 + 1), some (([y33] : List F).map f32)⟩]) rfl pun25 inf30 rfl rfl rfl rfl rfl rfl rfl rfl rfl (by simp) (ReadAs.own rfl (by simp)) (ones_map (fun _ => rfl)) (ap_by hm14) (ap_mx hm14) rfl<|yl rfl (optr 3 1 2) (LOp.fao und27 rfl siz25 rfl rfl rfl)<|ys (oref 2 (u13 + 1) 0 (L15.length + 1)) [i64 r4, i64 r5, oref 2 (u13 + 1) 0 (L15.length + 1)] ([⟨1, some zMx⟩, ⟨1, some [sl r1.length (r1.map (ik .u8)), i64 v31, ik .u64 v32]⟩, ⟨(u13 + 1), some ((L15 ++ ([y33] : List F)).map f32)⟩, ⟨1, some [i64 r4, i64 r5, oref 2 (u13 + 1) 0 (L15.length + 1)]⟩, ⟨(u14 + 1), some (([y33] : List F).map f32)⟩]) siz25<|zN ?_
      refine RunC.wl (τ' := [(1, i64 a1), (4, optr 0 1 0), (5, optr 1 1 0), (6, optr 3 1 0), (7, i64 v12), (8, i64 v18)]) (Γ' := [⟨1, some zMx⟩, ⟨1, some [sl r1.length (r1.map (ik .u8)), i64 v31, ik .u64 v32]⟩, ⟨(u13 + 1), some ((L15 ++ ([y33] : List F)).map f32)⟩, ⟨1, some [i64 r4, i64 r5, oref 2 (u13 + 1) 0 (L15.length + 1)]⟩, ⟨(u14 + 1), none⟩]) ⟨aR, aR, aR, aR, aR, aR, trivial⟩ ⟨⟨rfl, .inr rfl⟩, ⟨rfl, .inr rfl⟩, ⟨rfl, .inr rfl⟩, ⟨rfl, .inr rfl⟩, ⟨rfl, .inl rfl⟩, trivial⟩ ?_
      obtain ⟨x34, hx15, h9_⟩ := oL h9_
      refine yW<|ym rfl (i64 v18)<|yl rfl (i64 x34) (LOp.eqr (LOp.add rfl rfl rfl) (congrArg (ik .i64) hx15))<|ya rfl (i64 x34)<|zN ?_
      cases oI h9_
      exact ⟨_, rfl, (u13 + 1), (u14 + 1), ⟨aR, aR, aR, aR, aR, aR, trivial⟩, ⟨⟨rfl, .inr rfl⟩, ⟨rfl, .inr rfl⟩, ⟨rfl, .inr rfl⟩, ⟨rfl, .inr (by first | rfl | simp)⟩, ⟨rfl, .inl rfl⟩, trivial⟩⟩
    ·refine yW<|ym rfl (i64 v18)<|ym rfl (i64 a1)<|yl rfl (b false) (LOp.eqb (LOp.lss rfl rfl rfl) hc4)<|zN ?_
     refine yF<|RunC.exit ?_
     cases oI h9_
     have hx := ho9 _ rfl
     exact ⟨L15, v16, v17, u13, u14, ⟨aR, aR, aR, aR, aR, trivial⟩, ⟨⟨rfl, .inr rfl⟩, ⟨rfl, .inr rfl⟩, ⟨rfl, .inr rfl⟩, ⟨rfl, .inr (by first | rfl | simp)⟩, ⟨rfl, .inl rfl⟩, trivial⟩, hx⟩
   ·rintro τ11 Γ11 ⟨L37, v38, v39, u35, u36, hw11, hd11, rfl⟩
    refine RunC.wl hw11 hd11 ?_
    replace h8_ : K06_k6 v12 L37 v38 v39 = some y8_ := h8_
    unfold K06_k6 at h8_
    obtain ⟨x40, hx16, h8_⟩ := oL h8_
    refine yW<|ym rfl (i64 v12)<|yl rfl (i64 x40) (LOp.eqr (LOp.add rfl rfl rfl) (congrArg (ik .i64) hx16))<|ya rfl (i64 x40)<|zN ?_
    cases oI h8_
    exact ⟨_, rfl, u35, u36, ⟨aR, aR, aR, aR, aR, trivial⟩, ⟨⟨rfl, .inr rfl⟩, ⟨rfl, .inr rfl⟩, ⟨rfl, .inr rfl⟩, ⟨rfl, .inr (by first | rfl | simp)⟩, ⟨rfl, .inl rfl⟩, trivial⟩⟩
  ·refine yW<|ym rfl (i64 v12)<|ym rfl (i64 a1)<|yl rfl (b false) (LOp.eqb (LOp.lss rfl rfl rfl) hc3)<|zN ?_
   refine yF<|RunC.exit ?_
   cases oI h8_
   have hx := ho8 _ rfl
   exact ⟨L9, u7, u8, ⟨aR, aR, trivial⟩, ⟨⟨rfl, .inr rfl⟩, ⟨rfl, .inl rfl⟩, ⟨rfl, .inr rfl⟩, ⟨rfl, .inr (by first | rfl | simp)⟩, ⟨rfl, .inl rfl⟩, trivial⟩, hx⟩
 ·rintro τ12 Γ12 ⟨L43, u41, u42, hw12, hd12, rfl⟩
  refine RunC.wl hw12 hd12 ?_
  replace h : K06_k7 r4 r5 L43 = some (q0, q1, q2) := h
  unfold K06_k7 at h
  refine zQ<|yd rfl (agg (oXc r4 r5 2 u41 L43.length)) (yA agg27 siz27)<|ys (agg (oXc r4 r5 2 u41 L43.length)) (oXc r4 r5 2 u41 L43.length) [⟨1, some (oXc r4 r5 2 u41 L43.length)⟩, ⟨1, none⟩, ⟨u41, some (L43.map f32)⟩, ⟨1, some (oXc r4 r5 2 u41 L43.length)⟩, ⟨u42, none⟩] siz27<|zN ?_
  refine RunC.ret ?_
  have hq := oI h
  obtain ⟨hq0, hq⟩ := Prod.mk.inj hq
  obtain ⟨hq1, hq⟩ := Prod.mk.inj hq
  subst q0
  subst q1
  subst q2
  exact bodyQ.mk (r' := agg (oXc r4 r5 2 u41 L43.length)) [(2, u41)] (.inr rfl) rfl (show List.Nodup [2] from by decide) (by simp [ren, rens, sigma]) rfl (Res.one rfl (RV.cell agg27 siz27 rfl rfl rfl rfl)) (sA rfl trivial)
def K07_b1 (r1 : List Int) (L6 : List F) (v7 : Int) (v8 : Int) (v9 : Int) : Option (LR ((List F) × Int × Int × Int) ((List F)) ((List F))) :=
 bsel (decide (0 < v9)) (
  obind3 (K05 33 r1 v7 v8) fun (r10 : Int) (r11 : Int) (r12 : Int) =>
  olet (IntKind.i64.wrap (r10 - 16)) fun (x13 : Int) =>
  olet (fint .f32 x13) fun (x14 : F) =>
  olet (fop .quo .f32 x14 (some 1082130432)) fun (x15 : F) =>
  need (apok 4 L6.length 1) <|
  olet (IntKind.i64.wrap (v9 - 1)) fun (x16 : Int) =>
  some (LR.next ((L6 ++ ([x15] : List F)), r11, r12, x16))) (
  some (LR.out L6))
def K07_s1 (r1 : List Int) : ((List F) × Int × Int × Int) → Option (LR ((List F) × Int × Int × Int) ((List F)) ((List F))) := fun s => K07_b1 r1 s.1 s.2.1 s.2.2.1 s.2.2.2
def K07_k1 (L19 : List F) : Option ((List F)) :=
 some L19
def K07 (a0 : List Int) (a1 : Int) : Option ((List F)) :=
 obind3 (K02 a0) fun (r1 : List Int) (r2 : Int) (r3 : Int) =>
 obind (loopM (K07_s1 r1) (([] : List F), r2, r3, a1)) fun z => osum z (fun e => K07_k1 e) (fun r => some r)
theorem K07_ok (a0 : List Int) (a1 : Int) (q0 : List F) (h : K07 a0 a1 = some q0) : Ev Tryz.prog 7 [sl a0.length (a0.map (ik .u8)), i64 a1] [] (oref 0 0 0 q0.length) [oF 0 q0] := by
 refine yE Tryz.func7 3 47 0 [(0, sl a0.length (a0.map (ik .u8))), (1, i64 a1)] [o0, o0, o0] rfl ?_
 unfold K07 at h
 refine zQ<|ya rfl nilsl<|zN ?_
 refine yS ?_
 obtain ⟨r1, r2, r3, hf1, h⟩ := obind3_some h
 refine yW<|ym rfl (sl a0.length (a0.map (ik .u8)))<|ye rfl (optr 0 1 0) ([⟨1, some [sl r1.length (r1.map (ik .u8)), i64 r2, ik .u64 r3]⟩, o0, o0]) (TOp.callN (A := [sl a0.length (a0.map (ik .u8))]) (ls := [[sl r1.length (r1.map (ik .u8)), i64 r2, ik .u64 r3]]) [0] (by exact (CallAs.func ent22 rfl rfl)) (lts_cons (lt_sl (fun _ => rfl)) lts_nil) (K02_ok a0 r1 r2 r3 hf1) (and_all (lts_cons (lt_sl (fun _ => rfl)) (lts_cons rfl (lts_cons rfl lts_nil))) rfl) rfl (by decide) (ns_of ⟨⟨_, rfl⟩, trivial⟩))<|ya rfl (optr 0 1 0)<|zN ?_
 refine zQ<|ye rfl (oref 1 1 0 0) ([⟨1, some [sl r1.length (r1.map (ik .u8)), i64 r2, ik .u64 r3]⟩, ⟨1, some (([] : List F).map f32)⟩, o0]) (TOp.buildSlice_o (g := o0) (za := f32 (some 0)) (qs := []) 1 rfl und25 siz30 zer30 rfl zel30 rfl rfl trivial rfl)<|ya rfl (oref 1 1 0 0)<|zN ?_
 refine yS ?_
 obtain ⟨z2, hz_2, h⟩ := oS h
 refine RunC.cutN (fun τ Γ => ∃ (L19 : List F) (u17 : Nat) (u18 : Nat), WeakLe τ [(6, oref 1 u17 0 L19.length)] ∧ DeadLe Γ [⟨1, none⟩, ⟨u17, some (L19.map f32)⟩, ⟨u18, none⟩] ∧ z2 = .inl L19) ?_ ?_
 ·refine RunC.block (RunC.loop (RunL.loopM (x := z2) (K07_s1 r1) (fun (s : (List F) × Int × Int × Int) τ Γ => ∃ (u4 : Nat) (u5 : Nat), WeakLe τ [(1, i64 s.2.2.2), (5, optr 0 1 0), (6, oref 1 u4 0 s.1.length)] ∧ DeadLe Γ [⟨1, some [sl r1.length (r1.map (ik .u8)), i64 s.2.1, ik .u64 s.2.2.1]⟩, ⟨u4, some (s.1.map f32)⟩, ⟨u5, none⟩]) ?_ _ _ _ hz_2 ⟨1, 0, ⟨aR, aR, aR, trivial⟩, ⟨⟨rfl, .inr rfl⟩, ⟨rfl, .inr rfl⟩, ⟨rfl, .inl rfl⟩, trivial⟩⟩))
  rintro ⟨L6, v7, v8, v9⟩ τ2 Γ2 y2_ ⟨u4, u5, hw2, hd2⟩ h2_ ho2 hr2
  refine RunC.wl (τ' := [(1, i64 v9), (5, optr 0 1 0), (6, oref 1 u4 0 L6.length)]) (Γ' := [⟨1, some [sl r1.length (r1.map (ik .u8)), i64 v7, ik .u64 v8]⟩, ⟨u4, some (L6.map f32)⟩, ⟨u5, none⟩]) hw2 hd2 ?_
  replace h2_ : K07_b1 r1 L6 v7 v8 v9 = some y2_ := h2_
  unfold K07_b1 at h2_
  refine yS<|yS ?_
  rcases oB h2_ with ⟨hc2, h2_⟩ | ⟨hc2, h2_⟩
  ·refine yW<|ym rfl (i64 v9)<|yl rfl (b true) (LOp.eqb (LOp.gtr rfl rfl rfl) hc2)<|zN ?_
   refine yT<|RunC.skip<|yS<|RunC.block ?_
   obtain ⟨r10, r11, r12, hf3, h2_⟩ := obind3_some h2_
   obtain ⟨x13, hx4, h2_⟩ := oL h2_
   obtain ⟨x14, hx5, h2_⟩ := oL h2_
   obtain ⟨x15, hx6, h2_⟩ := oL h2_
   obtain ⟨hm7, h2_⟩ := need_some h2_
   refine yW<|ym rfl (oref 1 u4 0 L6.length)<|ym rfl (optr 0 1 0)<|ROps.callO (A := [optr 0 1 0, i64 33]) (args := [optr 0 0 0, i64 33]) (Γc := [⟨0, some [sl r1.length (r1.map (ik .u8)), i64 v7, ik .u64 v8]⟩]) (Γc' := [⟨0, some [sl r1.length (r1.map (ik .u8)), i64 r11, ik .u64 r12]⟩]) (r' := i64 r10) (Γ' := [⟨1, some [sl r1.length (r1.map (ik .u8)), i64 r11, ik .u64 r12]⟩, ⟨u4, some (L6.map f32)⟩, ⟨u5, none⟩]) [(0, 1)] [] rfl (CallAs.func ent24 rfl rfl) rfl rfl (SelOk.of (ndB_ok rfl) (SelL.cells0 rfl (by simp [ren, rens, sigma, rens_f32, rens_f64, rens_i64, rens_ik, rens_str, rens_cp]) (lts_cons (lt_slk (fun _ => rfl)) (lts_cons rfl (lts_cons rfl lts_nil))) trivial)) (live_of ⟨⟨_, _, rfl⟩, trivial⟩) (by simp [ren, rens, sigma, rens_f32, rens_f64, rens_i64, rens_ik, rens_str, rens_cp]) rfl (K05_ok 33 r1 v7 v8 r10 r11 r12 hf3) rfl (news_of trivial) (ndB_ok rfl) (by simp [ren, rens, sigma]) (by simp [backOb, sigma, ren, rens, rens_f32, rens_f64, rens_i64, rens_ik, rens_str, rens_cp] <;> omega)<|yl rfl (i64 x13) (LOp.eqr (LOp.sub rfl rfl rfl) (congrArg (ik .i64) hx4))<|yl rfl (f32 x14) (LOp.eqr (LOp.i2f (src := 2) (dst := 30) ⟨_, pun2⟩ pun30 rfl rfl) (congrArg (f .f32) hx5))<|yd rfl (f32 x15) (TOp.eqr (TOp.fop (.inr (.inr (.inr rfl))) rfl (OpF.tmp rfl) (OpF.const rfl (by kernel_rfl) (by kernel_rfl))) (congrArg (f .f32) hx6))<|ye rfl (oref 2 (u5 + 1) 0 1) ([⟨1, some [sl r1.length (r1.map (ik .u8)), i64 r11, ik .u64 r12]⟩, ⟨u4, some (L6.map f32)⟩, ⟨(u5 + 1), some (([x15] : List F).map f32)⟩]) (TOp.buildSlice_o (g := ⟨u5, none⟩) (za := f32 (some 0)) (qs := [(0, [f32 x15])]) 2 rfl und25 siz30 zer30 rfl zel30 rfl rfl ⟨rfl, ⟨_, ALe.refl _, rfl⟩, trivial⟩ rfl)<|ROps.app (f := f32) (xs := L6) (ys := ([x15] : List F)) (Γ' := [⟨1, some [sl r1.length (r1.map (ik .u8)), i64 r11, ik .u64 r12]⟩, ⟨(u4 + 1), some ((L6 ++ ([x15] : List F)).map f32)⟩, ⟨(u5 + 1), some (([x15] : List F).map f32)⟩]) rfl pun25 inf30 rfl rfl rfl rfl rfl rfl rfl rfl rfl (by simp) (ReadAs.own rfl (by simp)) (ones_map (fun _ => rfl)) (ap_by hm7) (ap_mx hm7) rfl<|ya rfl (oref 1 (u4 + 1) 0 (L6.length + 1))<|zN ?_
   refine RunC.wl (τ' := [(1, i64 v9), (5, optr 0 1 0), (6, oref 1 (u4 + 1) 0 (L6.length + 1))]) (Γ' := [⟨1, some [sl r1.length (r1.map (ik .u8)), i64 r11, ik .u64 r12]⟩, ⟨(u4 + 1), some ((L6 ++ ([x15] : List F)).map f32)⟩, ⟨(u5 + 1), none⟩]) ⟨aR, aR, aR, trivial⟩ ⟨⟨rfl, .inr rfl⟩, ⟨rfl, .inr rfl⟩, ⟨rfl, .inl rfl⟩, trivial⟩ ?_
   obtain ⟨x16, hx8, h2_⟩ := oL h2_
   refine yW<|ym rfl (i64 v9)<|yl rfl (i64 x16) (LOp.eqr (LOp.sub rfl rfl rfl) (congrArg (ik .i64) hx8))<|ya rfl (i64 x16)<|zN ?_
   cases oI h2_
   exact ⟨_, rfl, (u4 + 1), (u5 + 1), ⟨aR, aR, (ALe.eq (by rw [(app_len rfl rfl)] <;> rfl)), trivial⟩, ⟨⟨rfl, .inr rfl⟩, ⟨rfl, .inr rfl⟩, ⟨rfl, .inl rfl⟩, trivial⟩⟩
  ·refine yW<|ym rfl (i64 v9)<|yl rfl (b false) (LOp.eqb (LOp.gtr rfl rfl rfl) hc2)<|zN ?_
   refine yF<|RunC.exit ?_
   cases oI h2_
   have hx := ho2 _ rfl
   exact ⟨L6, u4, u5, ⟨aR, trivial⟩, ⟨⟨rfl, .inl rfl⟩, ⟨rfl, .inr rfl⟩, ⟨rfl, .inl rfl⟩, trivial⟩, hx⟩
 ·rintro τ3 Γ3 ⟨L19, u17, u18, hw3, hd3, rfl⟩
  refine RunC.wl hw3 hd3 ?_
  replace h : K07_k1 L19 = some q0 := h
  unfold K07_k1 at h
  refine zQ<|ym rfl (oref 1 u17 0 L19.length)<|ya rfl (oref 1 u17 0 L19.length)<|zN ?_
  refine RunC.ret ?_
  have hq := oI h
  subst q0
  exact bodyQ.mk (r' := oref 1 u17 0 L19.length) [(1, u17)] (.inr rfl) rfl (ndB_ok rfl) (by simp [ren, rens, sigma]) rfl (Res.one rfl (RV.tmp rfl)) (sA rfl trivial)
def K08 (a0 : Int) (a1 : Int) (a2 : Int) : Option (Bool) :=
 bsel (decide (a1 ≤ a0)) (
  some (decide (a0 ≤ a2))) (
  some false)
theorem K08_ok (a0 : Int) (a1 : Int) (a2 : Int) (q0 : Bool) (h : K08 a0 a1 a2 = some q0) : Ev Tryz.prog 31 [i64 a0, i64 a1, i64 a2] [] (b q0) [] := by
 refine yE Tryz.func31 0 31 0 [(0, i64 a0), (1, i64 a1), (2, i64 a2)] [] rfl ?_
 unfold K08 at h
 refine zQ<|ya rfl (b false)<|zN ?_
 refine yS ?_
 rcases oB h with ⟨hc1, h⟩ | ⟨hc1, h⟩
 ·refine yW<|ym rfl (i64 a1)<|ym rfl (i64 a0)<|yl rfl (b true) (LOp.eqb (LOp.leq rfl rfl rfl) hc1)<|ym rfl (b true)<|ym rfl (i64 a0)<|ym rfl (i64 a2)<|yl rfl (b (decide (a0 ≤ a2))) (LOp.leq rfl rfl rfl)<|yl rfl (b (decide (a0 ≤ a2))) yq<|ya rfl (b (decide (a0 ≤ a2)))<|zN ?_
  refine RunC.ret ?_
  have hq := oI h
  subst q0
  exact bR rfl
 ·refine yW<|ym rfl (i64 a1)<|ym rfl (i64 a0)<|yl rfl (b false) (LOp.eqb (LOp.leq rfl rfl rfl) hc1)<|ym rfl (b false)<|yR rfl<|yR rfl<|yR rfl<|yl rfl (b false) yp<|ya rfl (b false)<|zN ?_
  refine RunC.ret ?_
  have hq := oI h
  subst q0
  exact bR rfl
def K09 (a0 : Int) : Option (Bool) :=
 obind (K08 a0 1 12) fun (r1 : Bool) =>
 some r1
theorem K09_ok (a0 : Int) (q0 : Bool) (h : K09 a0 = some q0) : Ev Tryz.prog 76 [i64 a0] [] (b q0) [] := by
 refine yE Tryz.func76 0 11 0 [(0, i64 a0)] [] rfl ?_
 unfold K09 at h
 refine zQ<|ya rfl (b false)<|zN ?_
 refine yS ?_
 obtain ⟨r1, hf1, h⟩ := oS h
 refine yW<|ym rfl (i64 a0)<|yd rfl (b r1) (yc ent31 rfl rfl (bP (bP bN0)) (K08_ok a0 1 12 r1 hf1))<|ya rfl (b r1)<|zN ?_
 refine RunC.ret ?_
 have hq := oI h
 subst q0
 exact bR rfl
def K0a (a0 : List F) : Option (Int) :=
 some (a0.length : Int)
theorem K0a_ok (a0 : List F) (q0 : Int) (h : K0a a0 = some q0) : Ev Tryz.prog 37 [(sFc a0)] [] (i64 q0) [] := by
 refine yE Tryz.func37 0 11 0 [(0, (sFc a0))] [] rfl ?_
 unfold K0a at h
 refine zQ<|ya rfl (i64 0)<|zN ?_
 refine zQ<|ym rfl (sFc a0)<|yl rfl (i64 (a0.length : Int)) (LOp.len_sl und25 rfl rfl)<|ya rfl (i64 (a0.length : Int))<|zN ?_
 refine RunC.ret ?_
 have hq := oI h
 subst q0
 exact bR rfl
def K0b (a0 : F) : Option (Bool) :=
 some (!feq .f64 a0 a0)
theorem K0b_ok (a0 : F) (q0 : Bool) (h : K0b a0 = some q0) : Ev Tryz.prog 99 [f64 a0] [] (b q0) [] := by
 refine yE Tryz.func99 0 13 0 [(0, f64 a0)] [] rfl ?_
 unfold K0b at h
 refine zQ<|ya rfl (b false)<|zN ?_
 refine zQ<|ym rfl (f64 a0)<|ym rfl (f64 a0)<|yl rfl (b (!feq .f64 a0 a0)) (LOp.fne rfl (OpF.tmp rfl) (OpF.tmp rfl))<|ya rfl (b (!feq .f64 a0 a0))<|zN ?_
 refine RunC.ret ?_
 have hq := oI h
 subst q0
 exact bR rfl
def K0c (a0 : F) : Option (F) :=
 olet (fabs a0) fun (x1 : F) =>
 some x1
theorem K0c_ok (a0 : F) (q0 : F) (h : K0c a0 = some q0) : Ev Tryz.prog 80 [f64 a0] [] (f64 q0) [] := by
 refine yE Tryz.func80 0 15 0 [(0, f64 a0)] [] rfl ?_
 unfold K0c at h
 refine zQ<|yl rfl (f64 (some 0)) (LOp.le (LOp.assign rfl rfl) (ALe.fl (by kernel_rfl) (by kernel_rfl)))<|zN ?_
 refine yS ?_
 obtain ⟨x1, hx1, h⟩ := oL h
 refine yW<|ym rfl (f64 a0)<|yl rfl (bt .f64 .u64 a0) (LOp.fbits ext102 rfl (OpF.tmp rfl))<|yl rfl (bt .f64 .u64 x1) (LOp.eqr (LOp.andNot_bt rfl rfl rfl) (congrArg (bt .f64 .u64) hx1))<|yl rfl (f64 x1) (LOp.ffrom ext101 rfl rfl)<|ya rfl (f64 x1)<|zN ?_
 refine RunC.ret ?_
 have hq := oI h
 subst q0
 exact bR rfl
def K0d_k1 (y3 : F) : Option (Bool) :=
 some (flt .f64 (some 9218868437227405311) y3)
def K0d (a0 : F) (a1 : Int) : Option (Bool) :=
 bsel (decide (a1 = 0)) (
  obind (K0c a0) fun (r1 : F) =>
  K0d_k1 r1) (
  bsel (decide (a1 < 0)) (
   olet (fneg .f64 a0) fun (x2 : F) =>
   K0d_k1 x2) (
   K0d_k1 a0))
theorem K0d_ok (a0 : F) (a1 : Int) (q0 : Bool) (h : K0d a0 a1 = some q0) : Ev Tryz.prog 100 [f64 a0, i64 a1] [] (b q0) [] := by
 refine yE Tryz.func100 0 31 0 [(0, f64 a0), (1, i64 a1)] [] rfl ?_
 unfold K0d at h
 refine zQ<|ya rfl (b false)<|zN ?_
 refine yS<|RunC.cutN (fun τ Γ => ∃ (y3 : F), WeakLe τ [(0, f64 y3)] ∧ DeadLe Γ [] ∧ K0d_k1 y3 = some q0) ?_ ?_
 ·refine yS ?_
  rcases oB h with ⟨hc1, h⟩ | ⟨hc1, h⟩
  ·refine yW<|ym rfl (i64 a1)<|yl rfl (b true) (LOp.eqb (LOp.eql rfl rfl rfl) hc1)<|zN ?_
   refine yT ?_
   obtain ⟨r1, hf2, h⟩ := oS h
   refine yW<|ym rfl (f64 a0)<|yd rfl (f64 r1) (yc ent80 rfl rfl bN0 (K0c_ok a0 r1 hf2))<|ya rfl (f64 r1)<|zN ?_
   exact ⟨r1, ⟨aR, trivial⟩, trivial, h⟩
  ·refine yW<|ym rfl (i64 a1)<|yl rfl (b false) (LOp.eqb (LOp.eql rfl rfl rfl) hc1)<|zN ?_
   refine yF<|yS ?_
   rcases oB h with ⟨hc3, h⟩ | ⟨hc3, h⟩
   ·refine yW<|ym rfl (i64 a1)<|yl rfl (b true) (LOp.eqb (LOp.lss rfl rfl rfl) hc3)<|zN ?_
    refine yT ?_
    obtain ⟨x2, hx4, h⟩ := oL h
    refine yW<|ym rfl (f64 a0)<|yl rfl (f64 x2) (LOp.eqr (LOp.fneg rfl (OpF.tmp rfl)) (congrArg (f .f64) hx4))<|ya rfl (f64 x2)<|zN ?_
    exact ⟨x2, ⟨aR, trivial⟩, trivial, h⟩
   ·refine yW<|ym rfl (i64 a1)<|yl rfl (b false) (LOp.eqb (LOp.lss rfl rfl rfl) hc3)<|zN ?_
    refine yF<|RunC.skip ?_
    exact ⟨a0, ⟨aR, trivial⟩, trivial, h⟩
 ·rintro τ2 Γ2 ⟨y3, hw2, hd2, h⟩
  refine RunC.wl hw2 hd2 ?_
  unfold K0d_k1 at h
  refine zQ<|ym rfl (f64 y3)<|yl rfl (b (flt .f64 (some 9218868437227405311) y3)) (LOp.fgt rfl (OpF.tmp rfl) (OpF.const rfl (by kernel_rfl) (by kernel_rfl)))<|ya rfl (b (flt .f64 (some 9218868437227405311) y3))<|zN ?_
  refine RunC.ret ?_
  have hq := oI h
  subst q0
  exact bR rfl
def K0e (a0 : F) : Option (Bool) :=
 obind (K0b a0) fun (r1 : Bool) =>
 bsel r1 (
  some false) (
  obind (K0d a0 0) fun (r2 : Bool) =>
  some (!r2))
theorem K0e_ok (a0 : F) (q0 : Bool) (h : K0e a0 = some q0) : Ev Tryz.prog 78 [f64 a0] [] (b q0) [] := by
 refine yE Tryz.func78 0 23 0 [(0, f64 a0)] [] rfl ?_
 unfold K0e at h
 refine zQ<|ya rfl (b false)<|zN ?_
 refine yS ?_
 obtain ⟨r1, hf1, h⟩ := oS h
 rcases oB h with ⟨hc2, h⟩ | ⟨hc2, h⟩
 ·refine yW<|ym rfl (f64 a0)<|yd rfl (b true) (TOp.eqb (yc ent99 rfl rfl bN0 (K0b_ok a0 r1 hf1)) hc2)<|yl rfl (b false) y1<|ym rfl (b false)<|yR rfl<|yR rfl<|yR rfl<|yl rfl (b false) yp<|ya rfl (b false)<|zN ?_
  refine RunC.ret ?_
  have hq := oI h
  subst q0
  exact bR rfl
 ·obtain ⟨r2, hf3, h⟩ := oS h
  refine yW<|ym rfl (f64 a0)<|yd rfl (b false) (TOp.eqb (yc ent99 rfl rfl bN0 (K0b_ok a0 r1 hf1)) hc2)<|yl rfl (b true) y0<|ym rfl (b true)<|ym rfl (f64 a0)<|yd rfl (b r2) (yc ent100 rfl rfl (bP bN0) (K0d_ok a0 0 r2 hf3))<|yl rfl (b (!r2)) (LOp.not rfl rfl)<|yl rfl (b (!r2)) yq<|ya rfl (b (!r2))<|zN ?_
  refine RunC.ret ?_
  have hq := oI h
  subst q0
  exact bR rfl
def K0f (a0 : F) : Option (Bool) :=
 olet (fwiden a0) fun (x1 : F) =>
 obind (K0e x1) fun (r2 : Bool) =>
 some r2
theorem K0f_ok (a0 : F) (q0 : Bool) (h : K0f a0 = some q0) : Ev Tryz.prog 42 [f32 a0] [] (b q0) [] := by
 refine yE Tryz.func42 0 13 0 [(0, f32 a0)] [] rfl ?_
 unfold K0f at h
 refine zQ<|ya rfl (b false)<|zN ?_
 refine yS ?_
 obtain ⟨x1, hx1, h⟩ := oL h
 obtain ⟨r2, hf2, h⟩ := oS h
 refine yW<|ym rfl (f32 a0)<|yd rfl (f64 x1) (TOp.eqr (TOp.widen (src := 30) (dst := 35) ⟨_, pun30⟩ pun35 rfl (OpF.tmp rfl)) (congrArg (f .f64) hx1))<|yd rfl (b r2) (yc ent78 rfl rfl bN0 (K0e_ok x1 r2 hf2))<|ya rfl (b r2)<|zN ?_
 refine RunC.ret ?_
 have hq := oI h
 subst q0
 exact bR rfl
def K0g (a0 : F) : Option (Bool) :=
 obind (K0f a0) fun (r1 : Bool) =>
 some (!r1)
theorem K0g_ok (a0 : F) (q0 : Bool) (h : K0g a0 = some q0) : Ev Tryz.prog 75 [f32 a0] [] (b q0) [] := by
 refine yE Tryz.func75 0 13 0 [(0, f32 a0)] [] rfl ?_
 unfold K0g at h
 refine zQ<|ya rfl (b false)<|zN ?_
 refine yS ?_
 obtain ⟨r1, hf1, h⟩ := oS h
 refine yW<|ym rfl (f32 a0)<|yd rfl (b r1) (yc ent42 rfl rfl bN0 (K0f_ok a0 r1 hf1))<|yl rfl (b (!r1)) (LOp.not rfl rfl)<|ya rfl (b (!r1))<|zN ?_
 refine RunC.ret ?_
 have hq := oI h
 subst q0
 exact bR rfl
def K0h_b1 (a0 : List F) (v1 : Int) : Option (LR (Int) (Unit) (Int)) :=
 bsel (decide (v1 < (a0.length : Int))) (
  obind (at? a0 v1) fun (e2 : F) =>
  obind (K0g e2) fun (r3 : Bool) =>
  bsel r3 (
   some (LR.ret v1)) (
   olet (IntKind.i64.wrap (v1 + 1)) fun (x4 : Int) =>
   some (LR.next x4))) (
  some (LR.out ()))
def K0h_s1 (a0 : List F) : (Int) → Option (LR (Int) (Unit) (Int)) := fun s => K0h_b1 a0 s
def K0h_k1  : Option (Int) :=
 some (-1)
def K0h (a0 : List F) : Option (Int) :=
 obind (loopM (K0h_s1 a0) 0) fun z => osum z (fun _ => K0h_k1) (fun r => some r)
theorem K0h_ok (a0 : List F) (q0 : Int) (h : K0h a0 = some q0) : Ev Tryz.prog 98 [(sFc a0), fn (.func 75) [] []] [] (i64 q0) [] := by
 refine yE Tryz.func98 0 39 0 ([(0, (sFc a0)), (1, fn (.func 75) [] [])]) [] rfl ?_
 unfold K0h at h
 refine zQ<|ya rfl (i64 0)<|zN ?_
 refine yS<|zQ<|ym rfl (sFc a0)<|yl rfl (i64 (a0.length : Int)) (LOp.len_sl und25 rfl rfl)<|ym rfl (i64 0)<|zN ?_
 obtain ⟨z2, hz_2, h⟩ := oS h
 refine RunC.cutN (fun τ Γ => WeakLe τ [] ∧ DeadLe Γ [] ∧ z2 = .inl ()) ?_ ?_
 ·refine RunC.block (RunC.loop (RunL.loopM (x := z2) (K0h_s1 a0) (fun (s : Int) τ Γ => WeakLe τ [(0, (sFc a0)), (1, fn (.func 75) [] []), (7, i64 (a0.length : Int)), (8, i64 s)] ∧ DeadLe Γ []) ?_ _ _ _ hz_2 ⟨⟨aR, aR, aR, aR, trivial⟩, trivial⟩))
  rintro v1 τ2 Γ2 y2_ ⟨hw2, hd2⟩ h2_ ho2 hr2
  refine RunC.wl (τ' := [(0, (sFc a0)), (1, fn (.func 75) [] []), (7, i64 (a0.length : Int)), (8, i64 v1)]) (Γ' := []) hw2 hd2 ?_
  replace h2_ : K0h_b1 a0 v1 = some y2_ := h2_
  unfold K0h_b1 at h2_
  refine yS ?_
  rcases oB h2_ with ⟨hc1, h2_⟩ | ⟨hc1, h2_⟩
  ·refine yW<|yl rfl (b true) (LOp.eqb (LOp.lss rfl rfl rfl) hc1)<|zN ?_
   refine yS<|yT<|RunC.skip<|yS<|RunC.block<|zQ<|ym rfl (i64 v1)<|ya rfl (i64 v1)<|zN ?_
   refine yS ?_
   obtain ⟨e2, he2, h2_⟩ := oS h2_
   obtain ⟨r3, hf3, h2_⟩ := oS h2_
   rcases oB h2_ with ⟨hc4, h2_⟩ | ⟨hc4, h2_⟩
   ·refine yW<|ym rfl (fn (.func 75) [] [])<|ym rfl (sFc a0)<|ym rfl (i64 v1)<|yl rfl (ptr [f32 e2]) (LOp.le (LOp.ix (f := f32) und25 siz30 rfl rfl rfl rfl he2) ALe.ptr)<|yl rfl (f32 e2) (y2 agg30)<|yd rfl (b true) (TOp.eqb (TOp.callB (CallAs.fn ent75 rfl rfl rfl rfl) bN0 rfl rfl (K0g_ok e2 r3 hf3)) hc4)<|zN ?_
    refine yT<|zQ<|ym rfl (i64 v1)<|ya rfl (i64 v1)<|zN ?_
    refine RunC.ret ?_
    cases oI h2_
    have hx3_ := hr2 _ rfl
    subst hx3_
    have hq := oI h
    subst q0
    exact bR rfl
   ·refine yW<|ym rfl (fn (.func 75) [] [])<|ym rfl (sFc a0)<|ym rfl (i64 v1)<|yl rfl (ptr [f32 e2]) (LOp.le (LOp.ix (f := f32) und25 siz30 rfl rfl rfl rfl he2) ALe.ptr)<|yl rfl (f32 e2) (y2 agg30)<|yd rfl (b false) (TOp.eqb (TOp.callB (CallAs.fn ent75 rfl rfl rfl rfl) bN0 rfl rfl (K0g_ok e2 r3 hf3)) hc4)<|zN ?_
    refine yF<|RunC.skip ?_
    obtain ⟨x4, hx5, h2_⟩ := oL h2_
    refine yW<|yl rfl (i64 x4) (LOp.eqr (LOp.add rfl rfl rfl) (congrArg (ik .i64) hx5))<|ym rfl (i64 x4)<|zN ?_
    cases oI h2_
    exact ⟨_, rfl, ⟨aR, aR, aR, aR, trivial⟩, trivial⟩
  ·refine yW<|yl rfl (b false) (LOp.eqb (LOp.lss rfl rfl rfl) hc1)<|zN ?_
   refine yS<|yF<|RunC.exit ?_
   cases oI h2_
   have hx := ho2 _ rfl
   exact ⟨trivial, trivial, hx⟩
 ·rintro τ4 Γ4 ⟨hw4, hd4, rfl⟩
  refine RunC.wl hw4 hd4 ?_
  replace h : K0h_k1 = some q0 := h
  unfold K0h_k1 at h
  refine zQ<|ya rfl (i64 (-1))<|zN ?_
  refine RunC.ret ?_
  have hq := oI h
  subst q0
  exact bR rfl
def K0i (a0 : List F) : Option (Bool) :=
 obind (K0h a0) fun (r1 : Int) =>
 some (decide (0 ≤ r1))
theorem K0i_ok (a0 : List F) (q0 : Bool) (h : K0i a0 = some q0) : Ev Tryz.prog 74 [(sFc a0), fn (.func 75) [] []] [] (b q0) [] := by
 refine yE Tryz.func74 0 19 0 ([(0, (sFc a0)), (1, fn (.func 75) [] [])]) [] rfl ?_
 unfold K0i at h
 refine zQ<|ya rfl (b false)<|zN ?_
 refine yS ?_
 obtain ⟨r1, hf1, h⟩ := oS h
 refine yW<|ym rfl (sFc a0)<|ym rfl (fn (.func 75) [] [])<|yd rfl (i64 r1) (yc ent98 rfl rfl (bS (Bors.cons (Bor.fn bN bN) bN)) (K0h_ok a0 r1 hf1))<|yl rfl (b (decide (0 ≤ r1))) (LOp.geq rfl rfl rfl)<|ya rfl (b (decide (0 ≤ r1)))<|zN ?_
 refine RunC.ret ?_
 have hq := oI h
 subst q0
 exact bR rfl
def K0j (a0 : List F) : Option (Bool) :=
 obind (K0i a0) fun (r1 : Bool) =>
 some (!r1)
theorem K0j_ok (a0 : List F) (q0 : Bool) (h : K0j a0 = some q0) : Ev Tryz.prog 34 [(sFc a0)] [] (b q0) [] := by
 refine yE Tryz.func34 0 13 0 [(0, (sFc a0))] [] rfl ?_
 unfold K0j at h
 refine zQ<|ya rfl (b false)<|zN ?_
 refine yS ?_
 obtain ⟨r1, hf1, h⟩ := oS h
 refine yW<|ym rfl (sFc a0)<|yd rfl (b r1) (yc ent74 rfl rfl (bS (Bors.cons (Bor.fn bN bN) bN)) (K0i_ok a0 r1 hf1))<|yl rfl (b (!r1)) (LOp.not rfl rfl)<|ya rfl (b (!r1))<|zN ?_
 refine RunC.ret ?_
 have hq := oI h
 subst q0
 exact bR rfl
def K0k (a0 : Int) (a1 : Int) (a2 : List F) : Option (Bool) :=
 obind (K09 a0) fun (r1 : Bool) =>
 bsel r1 (
  obind (K09 a1) fun (r2 : Bool) =>
  bsel r2 (
   obind (K0a a2) fun (r3 : Int) =>
   olet (IntKind.i64.wrap (a0 * a1)) fun (x4 : Int) =>
   bsel (decide (r3 = x4)) (
    obind (K0j a2) fun (r5 : Bool) =>
    some r5) (
    some false)) (
   some false)) (
  some false)
theorem K0k_ok (a0 : Int) (a1 : Int) (a2 : List F) (q0 : Bool) (h : K0k a0 a1 a2 = some q0) : Ev Tryz.prog 35 [agg (mXc a0 a1 a2)] [] (b q0) [] := by
 refine yE Tryz.func35 0 55 0 [(0, agg (mXc a0 a1 a2))] [] rfl ?_
 unfold K0k at h
 refine zQ<|yd rfl (ptr (mXc a0 a1 a2)) (TOp.box_s rfl rfl rfl)<|ya rfl (b false)<|zN ?_
 refine yS ?_
 obtain ⟨r1, hf1, h⟩ := oS h
 rcases oB h with ⟨hc2, h⟩ | ⟨hc2, h⟩
 ·obtain ⟨r2, hf3, h⟩ := oS h
  rcases oB h with ⟨hc4, h⟩ | ⟨hc4, h⟩
  ·obtain ⟨r3, hf5, h⟩ := oS h
   obtain ⟨x4, hx6, h⟩ := oL h
   rcases oB h with ⟨hc7, h⟩ | ⟨hc7, h⟩
   ·obtain ⟨r5, hf8, h⟩ := oS h
    refine RunC.region_draw (Γ' := []) 25 mixed 
     (tl rfl (ptr (mXc a0 a1 a2)) (LOp.fap und27 rfl siz2 rfl rfl rfl) <|
     (tl rfl (i64 a0) (y2 agg2) <|
     (TR.d (r := b true) (fs := []) rfl rfl (TOp.eqb (yc ent76 rfl rfl bN0 (K09_ok a0 r1 hf1)) hc2) <|
     (tm rfl (b true) <|
     (tl rfl (ptr [i64 a1, (sFc a2)]) (LOp.fap und27 rfl siz2 rfl rfl rfl) <|
     (tl rfl (i64 a1) (y2 agg2) <|
     (TR.d (r := b true) (fs := []) rfl rfl (TOp.eqb (yc ent76 rfl rfl bN0 (K09_ok a1 r2 hf3)) hc4) <|
     (tl rfl (b true) yq <|
     (tm rfl (b true) <|
     (tl rfl (ptr [(sFc a2)]) (LOp.fap und27 rfl siz25 rfl rfl rfl) <|
     (tl rfl (sFc a2) (y2 agg25) <|
     (TR.d (r := i64 r3) (fs := []) rfl rfl (yc ent37 rfl rfl (bS bN) (K0a_ok a2 r3 hf5)) <|
     (tl rfl (ptr (mXc a0 a1 a2)) (LOp.fap und27 rfl siz2 rfl rfl rfl) <|
     (tl rfl (i64 a0) (y2 agg2) <|
     (tl rfl (ptr [i64 a1, (sFc a2)]) (LOp.fap und27 rfl siz2 rfl rfl rfl) <|
     (tl rfl (i64 a1) (y2 agg2) <|
     (tl rfl (i64 x4) (LOp.eqr (LOp.mul rfl rfl rfl) (congrArg (ik .i64) hx6)) <|
     (tl rfl (b true) (LOp.eqb (LOp.eql rfl rfl rfl) hc7) <|
     (tl rfl (b true) yq <|
     (tm rfl (b true) <|
     (tl rfl (ptr [(sFc a2)]) (LOp.fap und27 rfl siz25 rfl rfl rfl) <|
     (tl rfl (sFc a2) (y2 agg25) <|
     (TR.d (r := b r5) (fs := []) rfl rfl (yc ent34 rfl rfl (bS bN) (K0j_ok a2 r5 hf8)) <|
     (tl rfl (b r5) yq <|
     (tl rfl (b r5) (LOp.assign rfl rfl) <|
     TR.nil))))))))))))))))))))))))) rfl (by kernel_rfl) rfl fills_nil rfl ?_
    iterate 25 refine ROps.dropS ?_
    refine ROps.drop0<|zN ?_
    refine RunC.ret ?_
    have hq := oI h
    subst q0
    exact bR rfl
   ·refine RunC.region_draw (Γ' := []) 25 mixed 
     (tl rfl (ptr (mXc a0 a1 a2)) (LOp.fap und27 rfl siz2 rfl rfl rfl) <|
     (tl rfl (i64 a0) (y2 agg2) <|
     (TR.d (r := b true) (fs := []) rfl rfl (TOp.eqb (yc ent76 rfl rfl bN0 (K09_ok a0 r1 hf1)) hc2) <|
     (tm rfl (b true) <|
     (tl rfl (ptr [i64 a1, (sFc a2)]) (LOp.fap und27 rfl siz2 rfl rfl rfl) <|
     (tl rfl (i64 a1) (y2 agg2) <|
     (TR.d (r := b true) (fs := []) rfl rfl (TOp.eqb (yc ent76 rfl rfl bN0 (K09_ok a1 r2 hf3)) hc4) <|
     (tl rfl (b true) yq <|
     (tm rfl (b true) <|
     (tl rfl (ptr [(sFc a2)]) (LOp.fap und27 rfl siz25 rfl rfl rfl) <|
     (tl rfl (sFc a2) (y2 agg25) <|
     (TR.d (r := i64 r3) (fs := []) rfl rfl (yc ent37 rfl rfl (bS bN) (K0a_ok a2 r3 hf5)) <|
     (tl rfl (ptr (mXc a0 a1 a2)) (LOp.fap und27 rfl siz2 rfl rfl rfl) <|
     (tl rfl (i64 a0) (y2 agg2) <|
     (tl rfl (ptr [i64 a1, (sFc a2)]) (LOp.fap und27 rfl siz2 rfl rfl rfl) <|
     (tl rfl (i64 a1) (y2 agg2) <|
     (tl rfl (i64 x4) (LOp.eqr (LOp.mul rfl rfl rfl) (congrArg (ik .i64) hx6)) <|
     (tl rfl (b false) (LOp.eqb (LOp.eql rfl rfl rfl) hc7) <|
     (tl rfl (b false) yq <|
     (tm rfl (b false) <|
     (ts rfl <|
     (ts rfl <|
     (ts rfl <|
     (tl rfl (b false) yp <|
     (tl rfl (b false) (LOp.assign rfl rfl) <|
     TR.nil))))))))))))))))))))))))) rfl (by kernel_rfl) rfl fills_nil rfl ?_
    iterate 25 refine ROps.dropS ?_
    refine ROps.drop0<|zN ?_
    refine RunC.ret ?_
    have hq := oI h
    subst q0
    exact bR rfl
  ·refine RunC.region_draw (Γ' := []) 25 mixed 
    (tl rfl (ptr (mXc a0 a1 a2)) (LOp.fap und27 rfl siz2 rfl rfl rfl) <|
    (tl rfl (i64 a0) (y2 agg2) <|
    (TR.d (r := b true) (fs := []) rfl rfl (TOp.eqb (yc ent76 rfl rfl bN0 (K09_ok a0 r1 hf1)) hc2) <|
    (tm rfl (b true) <|
    (tl rfl (ptr [i64 a1, (sFc a2)]) (LOp.fap und27 rfl siz2 rfl rfl rfl) <|
    (tl rfl (i64 a1) (y2 agg2) <|
    (TR.d (r := b false) (fs := []) rfl rfl (TOp.eqb (yc ent76 rfl rfl bN0 (K09_ok a1 r2 hf3)) hc4) <|
    (tl rfl (b false) yq <|
    (tm rfl (b false) <|
    (ts rfl <|
    (ts rfl <|
    (ts rfl <|
    (ts rfl <|
    (ts rfl <|
    (ts rfl <|
    (ts rfl <|
    (ts rfl <|
    (ts rfl <|
    (tl rfl (b false) yp <|
    (tm rfl (b false) <|
    (ts rfl <|
    (ts rfl <|
    (ts rfl <|
    (tl rfl (b false) yp <|
    (tl rfl (b false) (LOp.assign rfl rfl) <|
    TR.nil))))))))))))))))))))))))) rfl (by kernel_rfl) rfl fills_nil rfl ?_
   iterate 25 refine ROps.dropS ?_
   refine ROps.drop0<|zN ?_
   refine RunC.ret ?_
   have hq := oI h
   subst q0
   exact bR rfl
 ·refine RunC.region_draw (Γ' := []) 25 mixed 
   (tl rfl (ptr (mXc a0 a1 a2)) (LOp.fap und27 rfl siz2 rfl rfl rfl) <|
   (tl rfl (i64 a0) (y2 agg2) <|
   (TR.d (r := b false) (fs := []) rfl rfl (TOp.eqb (yc ent76 rfl rfl bN0 (K09_ok a0 r1 hf1)) hc2) <|
   (tm rfl (b false) <|
   (ts rfl <|
   (ts rfl <|
   (ts rfl <|
   (tl rfl (b false) yp <|
   (tm rfl (b false) <|
   (ts rfl <|
   (ts rfl <|
   (ts rfl <|
   (ts rfl <|
   (ts rfl <|
   (ts rfl <|
   (ts rfl <|
   (ts rfl <|
   (ts rfl <|
   (tl rfl (b false) yp <|
   (tm rfl (b false) <|
   (ts rfl <|
   (ts rfl <|
   (ts rfl <|
   (tl rfl (b false) yp <|
   (tl rfl (b false) (LOp.assign rfl rfl) <|
   TR.nil))))))))))))))))))))))))) rfl (by kernel_rfl) rfl fills_nil rfl ?_
  iterate 25 refine ROps.dropS ?_
  refine ROps.drop0<|zN ?_
  refine RunC.ret ?_
  have hq := oI h
  subst q0
  exact bR rfl
def K0l (a0 : Int) (a1 : Int) (a2 : List F) : Option (Bool) :=
 obind (K0k a0 a1 a2) fun (r1 : Bool) =>
 bsel r1 (
  some (decide (a0 = a1))) (
  some false)
theorem K0l_ok (a0 : Int) (a1 : Int) (a2 : List F) (q0 : Bool) (h : K0l a0 a1 a2 = some q0) : Ev Tryz.prog 41 [agg (mXc a0 a1 a2)] [] (b q0) [] := by
 refine yE Tryz.func41 0 25 0 [(0, agg (mXc a0 a1 a2))] [] rfl ?_
 unfold K0l at h
 refine zQ<|yd rfl (ptr (mXc a0 a1 a2)) (TOp.box_s rfl rfl rfl)<|ya rfl (b false)<|zN ?_
 refine yS ?_
 obtain ⟨r1, hf1, h⟩ := oS h
 rcases oB h with ⟨hc2, h⟩ | ⟨hc2, h⟩
 ·refine yW<|yl rfl (agg (mXc a0 a1 a2)) (yL agg27 siz27)<|yd rfl (b true) (TOp.eqb (TOp.callB (CallAs.func ent35 rfl rfl) (Bors.cons (Bor.agg (bP (bP (bS bN)))) bN) rfl rfl (K0k_ok a0 a1 a2 r1 hf1)) hc2)<|ym rfl (b true)<|yl rfl (ptr (mXc a0 a1 a2)) (LOp.fap und27 rfl siz2 rfl rfl rfl)<|yl rfl (i64 a0) (y2 agg2)<|yl rfl (ptr [i64 a1, (sFc a2)]) (LOp.fap und27 rfl siz2 rfl rfl rfl)<|yl rfl (i64 a1) (y2 agg2)<|yl rfl (b (decide (a0 = a1))) (LOp.eql rfl rfl rfl)<|yl rfl (b (decide (a0 = a1))) yq<|ya rfl (b (decide (a0 = a1)))<|zN ?_
  refine RunC.ret ?_
  have hq := oI h
  subst q0
  exact bR rfl
 ·refine yW<|yl rfl (agg (mXc a0 a1 a2)) (yL agg27 siz27)<|yd rfl (b false) (TOp.eqb (TOp.callB (CallAs.func ent35 rfl rfl) (Bors.cons (Bor.agg (bP (bP (bS bN)))) bN) rfl rfl (K0k_ok a0 a1 a2 r1 hf1)) hc2)<|ym rfl (b false)<|yR rfl<|yR rfl<|yR rfl<|yR rfl<|yR rfl<|yl rfl (b false) yp<|ya rfl (b false)<|zN ?_
  refine RunC.ret ?_
  have hq := oI h
  subst q0
  exact bR rfl
def K0m (a0 : List F) : Option ((List F)) :=
 need (apok 4 0 a0.length) <|
 some (([] : List F) ++ a0)
theorem K0m_ok (a0 : List F) (q0 : List F) (h : K0m a0 = some q0) : Ev Tryz.prog 79 [(sFc a0)] [] (oref 0 0 0 q0.length) [oF 0 q0] := by
 refine yE Tryz.func79 1 17 0 [(0, (sFc a0))] [o0] rfl ?_
 unfold K0m at h
 refine zQ<|ya rfl nilsl<|zN ?_
 refine yS<|zQ<|ym rfl (sFc a0)<|ROps.eqnil rfl pun25 rfl rfl rfl rfl rfl ?_ ?_
 ·intro hnil1
  refine zN ?_
  refine yT<|zQ<|ya rfl nilsl<|zN ?_
  refine RunC.nil_slot (Γ' := [⟨1, some (([] : List F).map f32)⟩]) 2 0 rfl rfl rfl<|RunC.ret ?_
  have hnl := List.map_eq_nil_iff.1 hnil1
  have hq : some ([] : List F) = some q0 := by
   rw [← h]; subst hnl; simp [need, apok]
  have hq := oI hq
  subst q0
  exact yB (oref 0 1 0 (([] : List F).length)) [(0, 1)] (Res.eq (Res.one rfl (RV.tmp rfl)) (by first | rfl | (rw [(show ([] : List F).length = 0 from rfl)] <;> rfl))) (sA rfl trivial)
 ·refine zN ?_
  refine yF<|RunC.skip<|yS ?_
  obtain ⟨hm2, h⟩ := need_some h
  refine yW<|ye rfl (oref 0 1 0 0) ([⟨1, some (([] : List F).map f32)⟩]) (TOp.buildSlice_o (g := o0) (za := f32 (some 0)) (qs := []) 0 rfl und25 siz30 zer30 rfl zel30 rfl rfl trivial rfl)<|ym rfl (sFc a0)<|ROps.app (f := f32) (xs := ([] : List F)) (ys := a0) (Γ' := [⟨2, some ((([] : List F) ++ a0).map f32)⟩]) rfl pun25 inf30 rfl rfl rfl rfl rfl rfl rfl rfl rfl (by simp) (ReadAs.sl (by simp)) (ones_map (fun _ => rfl)) (ap_by hm2) (ap_mx hm2) rfl<|ya rfl (oref 0 2 0 (0 + a0.length))<|zN ?_
  refine RunC.ret ?_
  have hq := oI h
  subst q0
  exact yB (oref 0 2 0 ((([] : List F) ++ a0).length)) [(0, 2)] (Res.eq (Res.one rfl (RV.tmp rfl)) (by first | rfl | (rw [(show (([] : List F) ++ a0).length = (0 + a0.length) from (app_len rfl rfl))] <;> rfl))) (sA rfl trivial)
def K0n (a0 : Int) (a1 : Int) (a2 : List F) : Option (Int × Int × (List F)) :=
 obind (K0m a2) fun (r1 : List F) =>
 some (a0, a1, r1)
theorem K0n_ok (a0 : Int) (a1 : Int) (a2 : List F) (q0 : Int) (q1 : Int) (q2 : List F) (h : K0n a0 a1 a2 = some (q0, q1, q2)) : Ev Tryz.prog 43 [agg (mXc a0 a1 a2)] [] (agg (oXc q0 q1 0 0 q2.length)) [oF 0 q2] := by
 refine yE Tryz.func43 2 23 0 [(0, agg (mXc a0 a1 a2))] [o0, o0] rfl ?_
 unfold K0n at h
 refine zQ<|yd rfl (ptr (mXc a0 a1 a2)) (TOp.box_s rfl rfl rfl)<|ye rfl (optr 0 1 0) [⟨1, some zMx⟩, o0] (TOp.alloc_o (g := o0) 0 rfl zer27 zok27 rfl)<|zN ?_
 refine yS ?_
 obtain ⟨r1, hf1, h⟩ := oS h
 refine RunC.region_draw (Γ' := [⟨1, some zMx⟩, oF 1 r1]) 8 mixed 
  (tl rfl (ptr (mXc a0 a1 a2)) (LOp.fap und27 rfl siz2 rfl rfl rfl) <|
  (tl rfl (i64 a0) (y2 agg2) <|
  (tl rfl (ptr [i64 a1, (sFc a2)]) (LOp.fap und27 rfl siz2 rfl rfl rfl) <|
  (tl rfl (i64 a1) (y2 agg2) <|
  (tl rfl (ptr [(sFc a2)]) (LOp.fap und27 rfl siz25 rfl rfl rfl) <|
  (tl rfl (sFc a2) (y2 agg25) <|
  (TR.d (r := oref 1 1 0 r1.length) (fs := [(1, (r1.map f32))]) rfl rfl (TOp.callBN (ls := [(r1.map f32)]) [1] (CallAs.func ent79 rfl rfl) (bS bN) rfl (K0m_ok a2 r1 hf1) (and_all (lts0_map (f := f32) (fun _ => rfl) _) rfl) (and_all (noss_map (f := f32) (fun _ => rfl) _) rfl) rfl (by decide) (ns_of ⟨⟨_, rfl⟩, trivial⟩)) <|
  (tl rfl (agg (oXc a0 a1 1 1 r1.length)) (LOp.build (qs := [(0, [i64 a0]), (1, [i64 a1]), (2, [oref 1 1 0 r1.length])]) zer27 zok27 und27 plc27 rfl ⟨rfl, ⟨_, ALe.refl _, rfl⟩, ⟨rfl, ⟨_, ALe.refl _, rfl⟩, ⟨rfl, ⟨_, ALe.refl _, rfl⟩, trivial⟩⟩⟩ rfl) <|
  TR.nil)))))))) rfl (by kernel_rfl) rfl (fills_of (by show List.Nodup [1]; decide) ⟨⟨_, rfl⟩, trivial⟩) rfl ?_
 iterate 8 refine ROps.dropS ?_
 refine ROps.drop0<|ys (agg (oXc a0 a1 1 1 r1.length)) (oXc a0 a1 1 1 r1.length) [⟨1, some (oXc a0 a1 1 1 r1.length)⟩, oF 1 r1] siz27<|zN ?_
 refine RunC.ret ?_
 have hq := oI h
 obtain ⟨hq0, hq⟩ := Prod.mk.inj hq
 obtain ⟨hq1, hq⟩ := Prod.mk.inj hq
 subst q0
 subst q1
 subst q2
 exact yB (agg (oXc a0 a1 1 1 r1.length)) [(1, 1)] (Res.one rfl (RV.cell agg27 siz27 rfl rfl rfl rfl)) (sA rfl trivial)
def K0o_b1 (a0 : Int) (L3 : List Int) (v4 : Int) : Option (LR ((List Int) × Int) ((List Int)) ((List Int))) :=
 bsel (decide (v4 < a0)) (
  need (apok 8 L3.length 1) <|
  olet (IntKind.i64.wrap (v4 + 1)) fun (x5 : Int) =>
  some (LR.next ((L3 ++ ([v4] : List Int)), x5))) (
  some (LR.out L3))
def K0o_s1 (a0 : Int) : ((List Int) × Int) → Option (LR ((List Int) × Int) ((List Int)) ((List Int))) := fun s => K0o_b1 a0 s.1 s.2
def K0o_k1 (L8 : List Int) : Option ((List Int)) :=
 some L8
def K0o (a0 : Int) : Option ((List Int)) :=
 obind (loopM (K0o_s1 a0) (([] : List Int), 0)) fun z => osum z (fun e => K0o_k1 e) (fun r => some r)
theorem K0o_ok (a0 : Int) (q0 : List Int) (h : K0o a0 = some q0) : Ev Tryz.prog 44 [i64 a0] [] (oref 0 0 0 q0.length) [oJ 0 q0] := by
 refine yE Tryz.func44 2 33 0 [(0, i64 a0)] [o0, o0] rfl ?_
 unfold K0o at h
 refine zQ<|ya rfl nilsl<|zN ?_
 refine zQ<|ye rfl (oref 0 1 0 0) ([⟨1, some (([] : List Int).map i64)⟩, o0]) (TOp.buildSlice_o (g := o0) (za := i64 0) (qs := []) 0 rfl und39 siz2 zer2 rfl zel2 rfl rfl trivial rfl)<|ya rfl (oref 0 1 0 0)<|zN ?_
 refine yS<|zQ<|ym rfl (i64 a0)<|ym rfl (i64 0)<|zN ?_
 obtain ⟨z2, hz_2, h⟩ := oS h
 refine RunC.cutN (fun τ Γ => ∃ (L8 : List Int) (u6 : Nat) (u7 : Nat), WeakLe τ [(3, oref 0 u6 0 L8.length)] ∧ DeadLe Γ [⟨u6, some (L8.map i64)⟩, ⟨u7, none⟩] ∧ z2 = .inl L8) ?_ ?_
 ·refine RunC.block (RunC.loop (RunL.loopM (x := z2) (K0o_s1 a0) (fun (s : (List Int) × Int) τ Γ => ∃ (u1 : Nat) (u2 : Nat), WeakLe τ [(3, oref 0 u1 0 s.1.length), (6, i64 a0), (7, i64 s.2)] ∧ DeadLe Γ [⟨u1, some (s.1.map i64)⟩, ⟨u2, none⟩]) ?_ _ _ _ hz_2 ⟨1, 0, ⟨aR, aR, aR, trivial⟩, ⟨⟨rfl, .inr rfl⟩, ⟨rfl, .inl rfl⟩, trivial⟩⟩))
  rintro ⟨L3, v4⟩ τ2 Γ2 y2_ ⟨u1, u2, hw2, hd2⟩ h2_ ho2 hr2
  refine RunC.wl (τ' := [(3, oref 0 u1 0 L3.length), (6, i64 a0), (7, i64 v4)]) (Γ' := [⟨u1, some (L3.map i64)⟩, ⟨u2, none⟩]) hw2 hd2 ?_
  replace h2_ : K0o_b1 a0 L3 v4 = some y2_ := h2_
  unfold K0o_b1 at h2_
  refine yS ?_
  rcases oB h2_ with ⟨hc1, h2_⟩ | ⟨hc1, h2_⟩
  ·refine yW<|yl rfl (b true) (LOp.eqb (LOp.lss rfl rfl rfl) hc1)<|zN ?_
   refine yS<|yT<|RunC.skip<|yS<|RunC.block<|zQ<|ym rfl (i64 v4)<|ya rfl (i64 v4)<|zN ?_
   obtain ⟨hm2, h2_⟩ := need_some h2_
   refine yW<|ym rfl (oref 0 u1 0 L3.length)<|ym rfl (i64 v4)<|ye rfl (oref 1 (u2 + 1) 0 1) ([⟨u1, some (L3.map i64)⟩, ⟨(u2 + 1), some (([v4] : List Int).map i64)⟩]) (TOp.buildSlice_o (g := ⟨u2, none⟩) (za := i64 0) (qs := [(0, [i64 v4])]) 1 rfl und39 siz2 zer2 rfl zel2 rfl rfl ⟨rfl, ⟨_, ALe.refl _, rfl⟩, trivial⟩ rfl)<|ROps.app (f := i64) (xs := L3) (ys := ([v4] : List Int)) (Γ' := [⟨(u1 + 1), some ((L3 ++ ([v4] : List Int)).map i64)⟩, ⟨(u2 + 1), some (([v4] : List Int).map i64)⟩]) rfl pun39 inf2 rfl rfl rfl rfl rfl rfl rfl rfl rfl (by simp) (ReadAs.own rfl (by simp)) (ones_map (fun _ => rfl)) (ap_by hm2) (ap_mx hm2) rfl<|ya rfl (oref 0 (u1 + 1) 0 (L3.length + 1))<|zN ?_
   refine RunC.wl (τ' := [(3, oref 0 (u1 + 1) 0 (L3.length + 1)), (6, i64 a0), (7, i64 v4)]) (Γ' := [⟨(u1 + 1), some ((L3 ++ ([v4] : List Int)).map i64)⟩, ⟨(u2 + 1), none⟩]) ⟨aR, aR, aR, trivial⟩ ⟨⟨rfl, .inr rfl⟩, ⟨rfl, .inl rfl⟩, trivial⟩ ?_
   obtain ⟨x5, hx3, h2_⟩ := oL h2_
   refine yW<|yl rfl (i64 x5) (LOp.eqr (LOp.add rfl rfl rfl) (congrArg (ik .i64) hx3))<|ym rfl (i64 x5)<|zN ?_
   cases oI h2_
   exact ⟨_, rfl, (u1 + 1), (u2 + 1), ⟨(ALe.eq (by rw [(app_len rfl rfl)] <;> rfl)), aR, aR, trivial⟩, ⟨⟨rfl, .inr rfl⟩, ⟨rfl, .inl rfl⟩, trivial⟩⟩
  ·refine yW<|yl rfl (b false) (LOp.eqb (LOp.lss rfl rfl rfl) hc1)<|zN ?_
   refine yS<|yF<|RunC.exit ?_
   cases oI h2_
   have hx := ho2 _ rfl
   exact ⟨L3, u1, u2, ⟨aR, trivial⟩, ⟨⟨rfl, .inr rfl⟩, ⟨rfl, .inl rfl⟩, trivial⟩, hx⟩
 ·rintro τ3 Γ3 ⟨L8, u6, u7, hw3, hd3, rfl⟩
  refine RunC.wl hw3 hd3 ?_
  replace h : K0o_k1 L8 = some q0 := h
  unfold K0o_k1 at h
  refine zQ<|ym rfl (oref 0 u6 0 L8.length)<|ya rfl (oref 0 u6 0 L8.length)<|zN ?_
  refine RunC.ret ?_
  have hq := oI h
  subst q0
  exact bodyQ.mk (r' := oref 0 u6 0 L8.length) [(0, u6)] (.inr rfl) rfl (ndB_ok rfl) (by simp [ren, rens, sigma]) rfl (Res.one rfl (RV.tmp rfl)) (SelL.arr0 (f := i64) (fun _ => rfl) rfl trivial)
def K0p (a0 : Int) (a1 : Int) (a2 : List F) (a3 : Int) (a4 : Int) : Option (F) :=
 olet (IntKind.i64.wrap (a3 * a1)) fun (x1 : Int) =>
 olet (IntKind.i64.wrap (x1 + a4)) fun (x2 : Int) =>
 obind (at? a2 x2) fun (e3 : F) =>
 some e3
theorem K0p_ok (a0 : Int) (a1 : Int) (a2 : List F) (a3 : Int) (a4 : Int) (q0 : F) (h : K0p a0 a1 a2 a3 a4 = some q0) : Ev Tryz.prog 46 [agg (mXc a0 a1 a2), i64 a3, i64 a4] [] (f32 q0) [] := by
 refine yE Tryz.func46 0 35 0 [(0, agg (mXc a0 a1 a2)), (1, i64 a3), (2, i64 a4)] [] rfl ?_
 unfold K0p at h
 refine zQ<|yd rfl (ptr (mXc a0 a1 a2)) (TOp.box_s rfl rfl rfl)<|yl rfl (f32 (some 0)) (LOp.le (LOp.assign rfl rfl) (ALe.fl (by kernel_rfl) (by kernel_rfl)))<|zN ?_
 refine yS ?_
 obtain ⟨x1, hx1, h⟩ := oL h
 obtain ⟨x2, hx2, h⟩ := oL h
 obtain ⟨e3, he3, h⟩ := oS h
 refine yW<|yl rfl (ptr [(sFc a2)]) (LOp.fap und27 rfl siz25 rfl rfl rfl)<|yl rfl (sFc a2) (y2 agg25)<|ym rfl (i64 a3)<|yl rfl (ptr [i64 a1, (sFc a2)]) (LOp.fap und27 rfl siz2 rfl rfl rfl)<|yl rfl (i64 a1) (y2 agg2)<|yl rfl (i64 x1) (LOp.eqr (LOp.mul rfl rfl rfl) (congrArg (ik .i64) hx1))<|ym rfl (i64 a4)<|yl rfl (i64 x2) (LOp.eqr (LOp.add rfl rfl rfl) (congrArg (ik .i64) hx2))<|yl rfl (ptr [f32 e3]) (LOp.le (LOp.ix (f := f32) und25 siz30 rfl rfl rfl rfl he3) ALe.ptr)<|yl rfl (f32 e3) (y2 agg30)<|ya rfl (f32 e3)<|zN ?_
 refine RunC.ret ?_
 have hq := oI h
 subst q0
 exact bR rfl
def K0q (a0 : F) : Option (F) :=
 olet (fwiden a0) fun (x1 : F) =>
 obind (K0c x1) fun (r2 : F) =>
 obind (fnarrow r2) fun (y3 : F) =>
 some y3
theorem K0q_ok (a0 : F) (q0 : F) (h : K0q a0 = some q0) : Ev Tryz.prog 45 [f32 a0] [] (f32 q0) [] := by
 refine yE Tryz.func45 0 15 0 [(0, f32 a0)] [] rfl ?_
 unfold K0q at h
 refine zQ<|yl rfl (f32 (some 0)) (LOp.le (LOp.assign rfl rfl) (ALe.fl (by kernel_rfl) (by kernel_rfl)))<|zN ?_
 refine yS ?_
 obtain ⟨x1, hx1, h⟩ := oL h
 obtain ⟨r2, hf2, h⟩ := oS h
 obtain ⟨y3, hy3, h⟩ := oS h
 refine yW<|ym rfl (f32 a0)<|yd rfl (f64 x1) (TOp.eqr (TOp.widen (src := 30) (dst := 35) ⟨_, pun30⟩ pun35 rfl (OpF.tmp rfl)) (congrArg (f .f64) hx1))<|yd rfl (f64 r2) (yc ent80 rfl rfl bN0 (K0c_ok x1 r2 hf2))<|yd rfl (f32 y3) (TOp.narrow (src := 35) (dst := 30) ⟨_, pun35⟩ pun30 rfl (OpF.tmp rfl) hy3)<|ya rfl (f32 y3)<|zN ?_
 refine RunC.ret ?_
 have hq := oI h
 subst q0
 exact bR rfl
def K0r (a0 : Int) (a1 : Int) (a2 : Int) (a3 : Int) (a4 : F) (a5 : List F) : Option ((List F)) :=
 olet (IntKind.i64.wrap (a2 * a1)) fun (x1 : Int) =>
 olet (IntKind.i64.wrap (x1 + a3)) fun (x2 : Int) =>
 obind (setAt? a5 x2 a4) fun (L3 : List F) =>
 some L3
theorem K0r_ok (a0 : Int) (a1 : Int) (a2 : Int) (a3 : Int) (a4 : F) (a5 : List F) (q0 : List F) (h : K0r a0 a1 a2 a3 a4 a5 = some q0) : Ev Tryz.prog 81 [agg (oXc a0 a1 0 0 a5.length), i64 a2, i64 a3, f32 a4] [oF 0 a5] (tup []) [oF 0 q0] := by
 refine Ev.start Tryz.func81 rfl rfl 0 (τ := [(0, agg (oXc a0 a1 0 0 a5.length)), (1, i64 a2), (2, i64 a3), (3, f32 a4)]) rfl (Γ' := [oF 0 a5]) rfl (n := 36) rfl (g := 1) rfl (by decide) ?_
 unfold K0r at h
 refine zQ<|yd rfl (ptr (oXc a0 a1 0 0 a5.length)) (TOp.box_s rfl rfl rfl)<|zN ?_
 obtain ⟨x1, hx1, h⟩ := oL h
 obtain ⟨x2, hx2, h⟩ := oL h
 obtain ⟨L3, he3, h⟩ := oS h
 refine yW<|yl rfl (ptr [oref 0 0 0 a5.length]) (LOp.fap und27 rfl siz25 rfl rfl rfl)<|yl rfl (oref 0 0 0 a5.length) (y2 agg25)<|ym rfl (i64 a2)<|yl rfl (ptr [i64 a1, oref 0 0 0 a5.length]) (LOp.fap und27 rfl siz2 rfl rfl rfl)<|yl rfl (i64 a1) (y2 agg2)<|yl rfl (i64 x1) (LOp.eqr (LOp.mul rfl rfl rfl) (congrArg (ik .i64) hx1))<|ym rfl (i64 a3)<|yl rfl (i64 x2) (LOp.eqr (LOp.add rfl rfl rfl) (congrArg (ik .i64) hx2))<|ym rfl (f32 a4)<|yd rfl (optr 0 0 x2.toNat) (TOp.ixo und25 siz30 rfl rfl rfl (set_in he3 rfl) rfl)<|ROps.st (f := f32) (i := x2) (Γ' := [oF 0 L3]) rfl siz30 rfl rfl rfl aR rfl rfl rfl he3 rfl<|zN ?_
 have hq := oI h
 subst q0
 exact yB (tup []) [(0, 0)] (Res.zero rfl) (SelL.arr (f := f32) (fun _ => rfl) rfl trivial)
def K0s_b1 (a0 : Int) (a1 : Int) (a2 : Int) (a3 : Int) (a4 : List F) (L1 : List F) (v3 : Int) : Option (LR ((List F) × Int) ((List F)) ((List F))) :=
 bsel (decide (v3 < a1)) (
  obind (K0p a0 a1 L1 a2 v3) fun (r4 : F) =>
  obind (K0p a0 a1 L1 a3 v3) fun (r6 : F) =>
  obind (K0r a0 a1 a2 v3 r6 L1) fun (r7 : List F) =>
  need (decide (r7.length = a4.length)) <|
  obind (K0r a0 a1 a3 v3 r4 r7) fun (r8 : List F) =>
  need (decide (r8.length = a4.length)) <|
  olet (IntKind.i64.wrap (v3 + 1)) fun (x9 : Int) =>
  some (LR.next (r8, x9))) (
  some (LR.out L1))
def K0s_s1 (a0 : Int) (a1 : Int) (a2 : Int) (a3 : Int) (a4 : List F) : ((List F) × Int) → Option (LR ((List F) × Int) ((List F)) ((List F))) := fun s => K0s_b1 a0 a1 a2 a3 a4 s.1 s.2
def K0s_k1 (L10 : List F) : Option ((List F)) :=
 some L10
def K0s (a0 : Int) (a1 : Int) (a2 : Int) (a3 : Int) (a4 : List F) : Option ((List F)) :=
 obind (loopM (K0s_s1 a0 a1 a2 a3 a4) (a4, 0)) fun z => osum z (fun e => K0s_k1 e) (fun r => some r)
theorem K0s_ok (a0 : Int) (a1 : Int) (a2 : Int) (a3 : Int) (a4 : List F) (q0 : List F) (h : K0s a0 a1 a2 a3 a4 = some q0) : Ev Tryz.prog 47 [agg (oXc a0 a1 0 0 a4.length), i64 a2, i64 a3] [oF 0 a4] (tup []) [oF 0 q0] := by
 refine Ev.start Tryz.func47 rfl rfl 0 (τ := [(0, agg (oXc a0 a1 0 0 a4.length)), (1, i64 a2), (2, i64 a3)]) rfl (Γ' := [oF 0 a4]) rfl (n := 62) rfl (g := 1) rfl (by decide) ?_
 unfold K0s at h
 refine zQ<|yd rfl (ptr (oXc a0 a1 0 0 a4.length)) (TOp.box_s rfl rfl rfl)<|zN ?_
 refine zQ<|yl rfl (ptr [i64 a1, oref 0 0 0 a4.length]) (LOp.fap und27 rfl siz2 rfl rfl rfl)<|yl rfl (i64 a1) (y2 agg2)<|ym rfl (i64 0)<|zN ?_
 obtain ⟨z2, hz_2, h⟩ := oS h
 refine RunC.cutN (fun τ Γ => ∃ (L10 : List F), L10.length = a4.length ∧ WeakLe τ [] ∧ DeadLe Γ [oF 0 L10] ∧ z2 = .inl L10) ?_ ?_
 ·refine RunC.block (RunC.loop (RunL.loopM (x := z2) (K0s_s1 a0 a1 a2 a3 a4) (fun (s : (List F) × Int) τ Γ => s.1.length = a4.length ∧ WeakLe τ [(1, i64 a2), (2, i64 a3), (3, ptr (oXc a0 a1 0 0 a4.length)), (9, i64 a1), (10, i64 s.2)] ∧ DeadLe Γ [⟨0, some (s.1.map f32)⟩]) ?_ _ _ _ hz_2 ⟨rfl, ⟨aR, aR, aR, aR, aR, trivial⟩, ⟨⟨rfl, .inr rfl⟩, trivial⟩⟩))
  rintro ⟨L1, v3⟩ τ2 Γ2 y2_ ⟨hl2, hw2, hd2⟩ h2_ ho2 hr2
  refine RunC.wl (τ' := [(1, i64 a2), (2, i64 a3), (3, ptr (oXc a0 a1 0 0 a4.length)), (9, i64 a1), (10, i64 v3)]) (Γ' := [oF 0 L1]) hw2 hd2 ?_
  replace hl2 : L1.length = a4.length := hl2
  replace h2_ : K0s_b1 a0 a1 a2 a3 a4 L1 v3 = some y2_ := h2_
  unfold K0s_b1 at h2_
  refine yS ?_
  rcases oB h2_ with ⟨hc1, h2_⟩ | ⟨hc1, h2_⟩
  ·refine yW<|yl rfl (b true) (LOp.eqb (LOp.lss rfl rfl rfl) hc1)<|zN ?_
   refine yS<|yT<|RunC.skip<|yS<|RunC.block<|zQ<|ym rfl (i64 v3)<|ya rfl (i64 v3)<|zN ?_
   refine yS ?_
   obtain ⟨r4, hf2, h2_⟩ := oS h2_
   refine yW<|yl rfl (agg (oXc a0 a1 0 0 a4.length)) (yL agg27 siz27)<|ym rfl (i64 a2)<|ym rfl (i64 v3)<|yd rfl (f32 r4) (TOp.callB (CallAs.func ent46 rfl rfl) (Bors.cons (Bor.agg (bP (bP (Bors.cons (Bor.own (f := f32) (fun _ => rfl) rfl hl2) bN)))) (bP bN0)) rfl rfl (K0p_ok a0 a1 L1 a2 v3 r4 hf2))<|ya rfl (f32 r4)<|zN ?_
   refine yS ?_
   obtain ⟨r6, hf4, h2_⟩ := oS h2_
   obtain ⟨r7, hf5, h2_⟩ := oS h2_
   obtain ⟨hn6, h2_⟩ := need_some h2_
   refine RunC.region_draw (Γ' := [oF 0 L1]) 7 mixed 
    (tl rfl (agg (oXc a0 a1 0 0 a4.length)) (yL agg27 siz27) <|
    (tm rfl (i64 a2) <|
    (tm rfl (i64 v3) <|
    (tl rfl (agg (oXc a0 a1 0 0 a4.length)) (yL agg27 siz27) <|
    (tm rfl (i64 a3) <|
    (tm rfl (i64 v3) <|
    (TR.d (r := f32 r6) (fs := []) rfl rfl (TOp.callB (CallAs.func ent46 rfl rfl) (Bors.cons (Bor.agg (bP (bP (Bors.cons (Bor.own (f := f32) (fun _ => rfl) rfl hl2) bN)))) (bP bN0)) rfl rfl (K0p_ok a0 a1 L1 a3 v3 r6 hf4)) <|
    TR.nil))))))) rfl (by kernel_rfl) rfl fills_nil rfl ?_
   iterate 7 refine ROps.dropS ?_
   refine ROps.drop0<|ROps.callO (A := [agg (oXc a0 a1 0 0 a4.length), i64 a2, i64 v3, f32 r6]) (args := [agg (oXc a0 a1 0 0 L1.length), i64 a2, i64 v3, f32 r6]) (Γc := [oF 0 L1]) (Γc' := [oF 0 r7]) (r' := tup []) (Γ' := [oF 0 r7]) [(0, 0)] [] rfl (CallAs.func ent81 rfl rfl) rfl rfl (SelOk.of (ndB_ok rfl) (sA rfl trivial)) (live_of ⟨⟨_, _, rfl⟩, trivial⟩) (by simp [ren, rens, sigma, rens_f32, rens_f64, rens_i64, rens_ik, rens_str, rens_cp, hl2]) rfl (K0r_ok a0 a1 a2 v3 r6 L1 r7 hf5) rfl (news_of trivial) (ndB_ok rfl) (by simp [ren, rens, sigma, of_decide_eq_true hn6]) (by simp [backOb, sigma, ren, rens, rens_f32, rens_f64, rens_i64, rens_ik, rens_str, rens_cp] <;> omega)<|zN ?_
   refine RunC.wl (τ' := [(1, i64 a2), (2, i64 a3), (3, ptr (oXc a0 a1 0 0 a4.length)), (6, i64 v3), (7, f32 r4), (9, i64 a1), (10, i64 v3)]) (Γ' := [oF 0 r7]) ⟨aR, aR, aR, aR, aR, aR, aR, trivial⟩ ⟨⟨rfl, .inr rfl⟩, trivial⟩ ?_
   obtain ⟨r8, hf7, h2_⟩ := oS h2_
   obtain ⟨hn8, h2_⟩ := need_some h2_
   refine yW<|yl rfl (agg (oXc a0 a1 0 0 a4.length)) (yL agg27 siz27)<|ym rfl (i64 a3)<|ym rfl (i64 v3)<|ym rfl (f32 r4)<|ROps.callO (A := [agg (oXc a0 a1 0 0 a4.length), i64 a3, i64 v3, f32 r4]) (args := [agg (oXc a0 a1 0 0 r7.length), i64 a3, i64 v3, f32 r4]) (Γc := [oF 0 r7]) (Γc' := [oF 0 r8]) (r' := tup []) (Γ' := [oF 0 r8]) [(0, 0)] [] rfl (CallAs.func ent81 rfl rfl) rfl rfl (SelOk.of (ndB_ok rfl) (sA rfl trivial)) (live_of ⟨⟨_, _, rfl⟩, trivial⟩) (by simp [ren, rens, sigma, rens_f32, rens_f64, rens_i64, rens_ik, rens_str, rens_cp, (of_decide_eq_true hn6)]) rfl (K0r_ok a0 a1 a3 v3 r4 r7 r8 hf7) rfl (news_of trivial) (ndB_ok rfl) (by simp [ren, rens, sigma, of_decide_eq_true hn8]) (by simp [backOb, sigma, ren, rens, rens_f32, rens_f64, rens_i64, rens_ik, rens_str, rens_cp] <;> omega)<|zN ?_
   obtain ⟨x9, hx9, h2_⟩ := oL h2_
   refine yW<|yl rfl (i64 x9) (LOp.eqr (LOp.add rfl rfl rfl) (congrArg (ik .i64) hx9))<|ym rfl (i64 x9)<|zN ?_
   cases oI h2_
   exact ⟨_, rfl, (of_decide_eq_true hn8), ⟨aR, aR, aR, aR, aR, trivial⟩, ⟨⟨rfl, .inr rfl⟩, trivial⟩⟩
  ·refine yW<|yl rfl (b false) (LOp.eqb (LOp.lss rfl rfl rfl) hc1)<|zN ?_
   refine yS<|yF<|RunC.exit ?_
   cases oI h2_
   have hx := ho2 _ rfl
   exact ⟨L1, hl2, trivial, ⟨⟨rfl, .inr rfl⟩, trivial⟩, hx⟩
 ·rintro τ3 Γ3 ⟨L10, hl11, hw3, hd3, rfl⟩
  replace h : K0s_k1 L10 = some q0 := h
  unfold K0s_k1 at h
  refine bodyQ.wl hw3 hd3 ?_
  have hq := oI h
  subst q0
  exact yB (tup []) [(0, 0)] (Res.zero rfl) (SelL.arr (f := f32) (fun _ => rfl) rfl trivial)
def K0t (a0 : Int) (a1 : Int) (a2 : List Int) : Option ((List Int)) :=
 obind (at? a2 a1) fun (e1 : Int) =>
 obind (at? a2 a0) fun (e2 : Int) =>
 obind (setAt? a2 a0 e1) fun (L3 : List Int) =>
 obind (setAt? L3 a1 e2) fun (L4 : List Int) =>
 some L4
theorem K0t_ok (a0 : Int) (a1 : Int) (a2 : List Int) (q0 : List Int) (h : K0t a0 a1 a2 = some q0) : Ev Tryz.prog 48 [oref 0 0 0 a2.length, i64 a0, i64 a1] [oJ 0 a2] (tup []) [oJ 0 q0] := by
 refine Ev.start Tryz.func48 rfl rfl 0 (τ := [(0, oref 0 0 0 a2.length), (1, i64 a0), (2, i64 a1)]) rfl (Γ' := [oJ 0 a2]) rfl (n := 40) rfl (g := 1) rfl (by decide) ?_
 unfold K0t at h
 obtain ⟨e1, he1, h⟩ := oS h
 obtain ⟨e2, he2, h⟩ := oS h
 obtain ⟨L3, he3, h⟩ := oS h
 obtain ⟨L4, he4, h⟩ := oS h
 refine RunC.region_draw (Γ' := [oJ 0 a2]) 13 mixed 
  (tm rfl (oref 0 0 0 a2.length) <|
  (tm rfl (i64 a0) <|
  (TR.loose (r := oref 0 0 0 a2.length) rfl rfl (LOp.move rfl rfl) <|
  (TR.loose (r := i64 a1) rfl rfl (LOp.move rfl rfl) <|
  (tm rfl (oref 0 0 0 a2.length) <|
  (tm rfl (i64 a1) <|
  (TR.d (r := optr 0 0 a1.toNat) (fs := []) rfl rfl (TOp.ixo und39 siz2 rfl rfl rfl (at_in he1 rfl) rfl) <|
  (TR.d (r := i64 e1) (fs := []) rfl rfl (TOp.load1_o rfl (at_cell he1) agg2 rfl rfl) <|
  (tm rfl (oref 0 0 0 a2.length) <|
  (tm rfl (i64 a0) <|
  (TR.d (r := optr 0 0 a0.toNat) (fs := []) rfl rfl (TOp.ixo und39 siz2 rfl rfl rfl (at_in he2 rfl) rfl) <|
  (TR.d (r := i64 e2) (fs := []) rfl rfl (TOp.load1_o rfl (at_cell he2) agg2 rfl rfl) <|
  (TR.d (r := optr 0 0 a0.toNat) (fs := []) rfl rfl (TOp.ixo und39 siz2 rfl rfl rfl (set_in he3 rfl) rfl) <|
  TR.nil))))))))))))) rfl (by kernel_rfl) rfl fills_nil rfl ?_
 iterate 13 refine ROps.dropS ?_
 refine ROps.drop0<|ROps.st (f := i64) (i := a0) (Γ' := [oJ 0 L3]) rfl siz2 rfl rfl rfl aR rfl rfl rfl he3 rfl<|yd rfl (optr 0 0 a1.toNat) (TOp.ixo und39 siz2 rfl rfl rfl (set_in he4 (setAt?_len he3)) rfl)<|ROps.st (f := i64) (i := a1) (Γ' := [oJ 0 L4]) rfl siz2 rfl rfl rfl aR rfl rfl rfl he4 rfl<|zN ?_
 have hq := oI h
 subst q0
 exact yB (tup []) [(0, 0)] (Res.zero rfl) (SelL.arr (f := i64) (fun _ => rfl) rfl trivial)
def K0u (a0 : F) (a1 : F) : Option (F) :=
 olet (fop .mul .f32 a0 a1) fun (x1 : F) =>
 some x1
theorem K0u_ok (a0 : F) (a1 : F) (q0 : F) (h : K0u a0 a1 = some q0) : Ev Tryz.prog 29 [f32 a0, f32 a1] [] (f32 q0) [] := by
 refine yE Tryz.func29 0 17 0 [(0, f32 a0), (1, f32 a1)] [] rfl ?_
 unfold K0u at h
 refine zQ<|yl rfl (f32 (some 0)) (LOp.le (LOp.assign rfl rfl) (ALe.fl (by kernel_rfl) (by kernel_rfl)))<|zN ?_
 refine yS ?_
 obtain ⟨x1, hx1, h⟩ := oL h
 refine yW<|ym rfl (f32 a0)<|ym rfl (f32 a1)<|yd rfl (f32 x1) (TOp.eqr (TOp.fop (.inr (.inr (.inl rfl))) rfl (OpF.tmp rfl) (OpF.tmp rfl)) (congrArg (f .f32) hx1))<|ya rfl (f32 x1)<|zN ?_
 refine RunC.ret ?_
 have hq := oI h
 subst q0
 exact bR rfl
def K0v_b2 (a0 : Int) (a1 : Int) (a2 : Int) (a3 : List F) (v4 : Int) (x7 : F) (L10 : List F) (v12 : Int) : Option (LR ((List F) × Int) ((List F)) ((List F))) :=
 bsel (decide (v12 < a1)) (
  obind (K0p a0 a1 L10 v4 v12) fun (r17 : F) =>
  obind (K0p a0 a1 L10 a2 v12) fun (r18 : F) =>
  obind (K0u x7 r18) fun (r19 : F) =>
  olet (fop .sub .f32 r17 r19) fun (x20 : F) =>
  obind (K0r a0 a1 v4 v12 x20 L10) fun (r21 : List F) =>
  need (decide (r21.length = a3.length)) <|
  olet (IntKind.i64.wrap (v12 + 1)) fun (x22 : Int) =>
  some (LR.next (r21, x22))) (
  some (LR.out L10))
def K0v_s2 (a0 : Int) (a1 : Int) (a2 : Int) (a3 : List F) (v4 : Int) (x7 : F) : ((List F) × Int) → Option (LR ((List F) × Int) ((List F)) ((List F))) := fun s => K0v_b2 a0 a1 a2 a3 v4 x7 s.1 s.2
def K0v_k2 (v4 : Int) (L23 : List F) : Option (LR ((List F) × Int) ((List F)) ((List F))) :=
 olet (IntKind.i64.wrap (v4 + 1)) fun (x25 : Int) =>
 some (LR.next (L23, x25))
def K0v_b3 (a0 : Int) (a1 : Int) (a2 : Int) (a3 : List F) (L2 : List F) (v4 : Int) : Option (LR ((List F) × Int) ((List F)) ((List F))) :=
 bsel (decide (v4 < a0)) (
  obind (K0p a0 a1 L2 v4 a2) fun (r5 : F) =>
  obind (K0p a0 a1 L2 a2 a2) fun (r6 : F) =>
  olet (fop .quo .f32 r5 r6) fun (x7 : F) =>
  obind (K0r a0 a1 v4 a2 x7 L2) fun (r8 : List F) =>
  need (decide (r8.length = a3.length)) <|
  olet (IntKind.i64.wrap (a2 + 1)) fun (x9 : Int) =>
  obind (loopM (K0v_s2 a0 a1 a2 a3 v4 x7) (r8, x9)) fun z => osum z (fun e => K0v_k2 v4 e) (fun r => some (LR.ret r))) (
  some (LR.out L2))
def K0v_s3 (a0 : Int) (a1 : Int) (a2 : Int) (a3 : List F) : ((List F) × Int) → Option (LR ((List F) × Int) ((List F)) ((List F))) := fun s => K0v_b3 a0 a1 a2 a3 s.1 s.2
def K0v_k3 (L26 : List F) : Option ((List F)) :=
 some L26
def K0v (a0 : Int) (a1 : Int) (a2 : Int) (a3 : List F) : Option ((List F)) :=
 olet (IntKind.i64.wrap (a2 + 1)) fun (x1 : Int) =>
 obind (loopM (K0v_s3 a0 a1 a2 a3) (a3, x1)) fun z => osum z (fun e => K0v_k3 e) (fun r => some r)
theorem K0v_ok (a0 : Int) (a1 : Int) (a2 : Int) (a3 : List F) (q0 : List F) (h : K0v a0 a1 a2 a3 = some q0) : Ev Tryz.prog 50 [agg (oXc a0 a1 0 0 a3.length), i64 a2] [oF 0 a3] (tup []) [oF 0 q0] := by
 refine Ev.start Tryz.func50 rfl rfl 0 (τ := [(0, agg (oXc a0 a1 0 0 a3.length)), (1, i64 a2)]) rfl (Γ' := [oF 0 a3]) rfl (n := 104) rfl (g := 1) rfl (by decide) ?_
 unfold K0v at h
 refine zQ<|yd rfl (ptr (oXc a0 a1 0 0 a3.length)) (TOp.box_s rfl rfl rfl)<|zN ?_
 refine yS ?_
 obtain ⟨x1, hx1, h⟩ := oL h
 refine yW<|ym rfl (i64 a2)<|yl rfl (i64 x1) (LOp.eqr (LOp.add rfl rfl rfl) (congrArg (ik .i64) hx1))<|ya rfl (i64 x1)<|zN ?_
 obtain ⟨z4, hz_4, h⟩ := oS h
 refine RunC.cutN (fun τ Γ => ∃ (L26 : List F), L26.length = a3.length ∧ WeakLe τ [] ∧ DeadLe Γ [oF 0 L26] ∧ z4 = .inl L26) ?_ ?_
 ·refine RunC.block (RunC.loop (RunL.loopM (x := z4) (K0v_s3 a0 a1 a2 a3) (fun (s : (List F) × Int) τ Γ => s.1.length = a3.length ∧ WeakLe τ [(1, i64 a2), (2, ptr (oXc a0 a1 0 0 a3.length)), (4, i64 s.2)] ∧ DeadLe Γ [⟨0, some (s.1.map f32)⟩]) ?_ _ _ _ hz_4 ⟨rfl, ⟨aR, aR, aR, trivial⟩, ⟨⟨rfl, .inr rfl⟩, trivial⟩⟩))
  rintro ⟨L2, v4⟩ τ4 Γ4 y4_ ⟨hl3, hw4, hd4⟩ h4_ ho4 hr4
  refine RunC.wl (τ' := [(1, i64 a2), (2, ptr (oXc a0 a1 0 0 a3.length)), (4, i64 v4)]) (Γ' := [oF 0 L2]) hw4 hd4 ?_
  replace hl3 : L2.length = a3.length := hl3
  replace h4_ : K0v_b3 a0 a1 a2 a3 L2 v4 = some y4_ := h4_
  unfold K0v_b3 at h4_
  refine yS<|yS ?_
  rcases oB h4_ with ⟨hc2, h4_⟩ | ⟨hc2, h4_⟩
  ·refine yW<|ym rfl (i64 v4)<|yl rfl (ptr (oXc a0 a1 0 0 a3.length)) (LOp.fap und27 rfl siz2 rfl rfl rfl)<|yl rfl (i64 a0) (y2 agg2)<|yl rfl (b true) (LOp.eqb (LOp.lss rfl rfl rfl) hc2)<|zN ?_
   refine yT<|RunC.skip<|yS<|RunC.block<|yS ?_
   obtain ⟨r5, hf3, h4_⟩ := oS h4_
   obtain ⟨r6, hf4, h4_⟩ := oS h4_
   obtain ⟨x7, hx5, h4_⟩ := oL h4_
   refine RunC.region_draw (Γ' := [oF 0 L2]) 10 mixed 
    (tl rfl (agg (oXc a0 a1 0 0 a3.length)) (yL agg27 siz27) <|
    (tm rfl (i64 v4) <|
    (tm rfl (i64 a2) <|
    (TR.d (r := f32 r5) (fs := []) rfl rfl (TOp.callB (CallAs.func ent46 rfl rfl) (Bors.cons (Bor.agg (bP (bP (Bors.cons (Bor.own (f := f32) (fun _ => rfl) rfl hl3) bN)))) (bP bN0)) rfl rfl (K0p_ok a0 a1 L2 v4 a2 r5 hf3)) <|
    (tl rfl (agg (oXc a0 a1 0 0 a3.length)) (yL agg27 siz27) <|
    (tm rfl (i64 a2) <|
    (tm rfl (i64 a2) <|
    (TR.d (r := f32 r6) (fs := []) rfl rfl (TOp.callB (CallAs.func ent46 rfl rfl) (Bors.cons (Bor.agg (bP (bP (Bors.cons (Bor.own (f := f32) (fun _ => rfl) rfl hl3) bN)))) (bP bN0)) rfl rfl (K0p_ok a0 a1 L2 a2 a2 r6 hf4)) <|
    (TR.d (r := f32 x7) (fs := []) rfl rfl (TOp.eqr (TOp.fop (.inr (.inr (.inr rfl))) rfl (OpF.tmp rfl) (OpF.tmp rfl)) (congrArg (f .f32) hx5)) <|
    (tl rfl (f32 x7) (LOp.assign rfl rfl) <|
    TR.nil)))))))))) rfl (by kernel_rfl) rfl fills_nil rfl ?_
   iterate 10 refine ROps.dropS ?_
   refine ROps.drop0<|zN ?_
   refine RunC.wl (τ' := [(1, i64 a2), (2, ptr (oXc a0 a1 0 0 a3.length)), (4, i64 v4), (5, f32 x7)]) (Γ' := [oF 0 L2]) ⟨aR, aR, aR, aR, trivial⟩ ⟨⟨rfl, .inr rfl⟩, trivial⟩<|yS ?_
   obtain ⟨r8, hf6, h4_⟩ := oS h4_
   obtain ⟨hn7, h4_⟩ := need_some h4_
   refine yW<|yl rfl (agg (oXc a0 a1 0 0 a3.length)) (yL agg27 siz27)<|ym rfl (i64 v4)<|ym rfl (i64 a2)<|ym rfl (f32 x7)<|ROps.callO (A := [agg (oXc a0 a1 0 0 a3.length), i64 v4, i64 a2, f32 x7]) (args := [agg (oXc a0 a1 0 0 L2.length), i64 v4, i64 a2, f32 x7]) (Γc := [oF 0 L2]) (Γc' := [oF 0 r8]) (r' := tup []) (Γ' := [oF 0 r8]) [(0, 0)] [] rfl (CallAs.func ent81 rfl rfl) rfl rfl (SelOk.of (ndB_ok rfl) (sA rfl trivial)) (live_of ⟨⟨_, _, rfl⟩, trivial⟩) (by simp [ren, rens, sigma, rens_f32, rens_f64, rens_i64, rens_ik, rens_str, rens_cp, hl3]) rfl (K0r_ok a0 a1 v4 a2 x7 L2 r8 hf6) rfl (news_of trivial) (ndB_ok rfl) (by simp [ren, rens, sigma, of_decide_eq_true hn7]) (by simp [backOb, sigma, ren, rens, rens_f32, rens_f64, rens_i64, rens_ik, rens_str, rens_cp] <;> omega)<|zN ?_
   refine yS ?_
   obtain ⟨x9, hx8, h4_⟩ := oL h4_
   refine yW<|ym rfl (i64 a2)<|yl rfl (i64 x9) (LOp.eqr (LOp.add rfl rfl rfl) (congrArg (ik .i64) hx8))<|ya rfl (i64 x9)<|zN ?_
   obtain ⟨z5, hz_5, h4_⟩ := oS h4_
   refine RunC.cutN (fun τ Γ => ∃ (L23 : List F), L23.length = a3.length ∧ WeakLe τ [(1, i64 a2), (2, ptr (oXc a0 a1 0 0 a3.length)), (4, i64 v4)] ∧ DeadLe Γ [oF 0 L23] ∧ z5 = .inl L23) ?_ ?_
   ·refine RunC.block (RunC.loop (RunL.loopM (x := z5) (K0v_s2 a0 a1 a2 a3 v4 x7) (fun (s : (List F) × Int) τ Γ => s.1.length = a3.length ∧ WeakLe τ [(1, i64 a2), (2, ptr (oXc a0 a1 0 0 a3.length)), (4, i64 v4), (5, f32 x7), (6, i64 s.2)] ∧ DeadLe Γ [⟨0, some (s.1.map f32)⟩]) ?_ _ _ _ hz_5 ⟨(of_decide_eq_true hn7), ⟨aR, aR, aR, aR, aR, trivial⟩, ⟨⟨rfl, .inr rfl⟩, trivial⟩⟩))
    rintro ⟨L10, v12⟩ τ5 Γ5 y5_ ⟨hl11, hw5, hd5⟩ h5_ ho5 hr5
    refine RunC.wl (τ' := [(1, i64 a2), (2, ptr (oXc a0 a1 0 0 a3.length)), (4, i64 v4), (5, f32 x7), (6, i64 v12)]) (Γ' := [oF 0 L10]) hw5 hd5 ?_
    replace hl11 : L10.length = a3.length := hl11
    replace h5_ : K0v_b2 a0 a1 a2 a3 v4 x7 L10 v12 = some y5_ := h5_
    unfold K0v_b2 at h5_
    refine yS<|yS ?_
    rcases oB h5_ with ⟨hc9, h5_⟩ | ⟨hc9, h5_⟩
    ·refine yW<|ym rfl (i64 v12)<|yl rfl (ptr [i64 a1, oref 0 0 0 a3.length]) (LOp.fap und27 rfl siz2 rfl rfl rfl)<|yl rfl (i64 a1) (y2 agg2)<|yl rfl (b true) (LOp.eqb (LOp.lss rfl rfl rfl) hc9)<|zN ?_
     refine yT<|RunC.skip<|yS<|RunC.block ?_
     obtain ⟨r17, hf14, h5_⟩ := oS h5_
     obtain ⟨r18, hf15, h5_⟩ := oS h5_
     obtain ⟨r19, hf16, h5_⟩ := oS h5_
     obtain ⟨x20, hx17, h5_⟩ := oL h5_
     obtain ⟨r21, hf18, h5_⟩ := oS h5_
     obtain ⟨hn19, h5_⟩ := need_some h5_
     refine RunC.region_draw (Γ' := [oF 0 L10]) 14 mixed 
      (tl rfl (agg (oXc a0 a1 0 0 a3.length)) (yL agg27 siz27) <|
      (tm rfl (i64 v4) <|
      (tm rfl (i64 v12) <|
      (tl rfl (agg (oXc a0 a1 0 0 a3.length)) (yL agg27 siz27) <|
      (tm rfl (i64 v4) <|
      (tm rfl (i64 v12) <|
      (TR.d (r := f32 r17) (fs := []) rfl rfl (TOp.callB (CallAs.func ent46 rfl rfl) (Bors.cons (Bor.agg (bP (bP (Bors.cons (Bor.own (f := f32) (fun _ => rfl) rfl hl11) bN)))) (bP bN0)) rfl rfl (K0p_ok a0 a1 L10 v4 v12 r17 hf14)) <|
      (tm rfl (f32 x7) <|
      (tl rfl (agg (oXc a0 a1 0 0 a3.length)) (yL agg27 siz27) <|
      (tm rfl (i64 a2) <|
      (tm rfl (i64 v12) <|
      (TR.d (r := f32 r18) (fs := []) rfl rfl (TOp.callB (CallAs.func ent46 rfl rfl) (Bors.cons (Bor.agg (bP (bP (Bors.cons (Bor.own (f := f32) (fun _ => rfl) rfl hl11) bN)))) (bP bN0)) rfl rfl (K0p_ok a0 a1 L10 a2 v12 r18 hf15)) <|
      (TR.d (r := f32 r19) (fs := []) rfl rfl (yc ent29 rfl rfl (bP bN0) (K0u_ok x7 r18 r19 hf16)) <|
      (TR.d (r := f32 x20) (fs := []) rfl rfl (TOp.eqr (TOp.fop (.inr (.inl rfl)) rfl (OpF.tmp rfl) (OpF.tmp rfl)) (congrArg (f .f32) hx17)) <|
      TR.nil)))))))))))))) rfl (by kernel_rfl) rfl fills_nil rfl ?_
     iterate 14 refine ROps.dropS ?_
     refine ROps.drop0<|ROps.callO (A := [agg (oXc a0 a1 0 0 a3.length), i64 v4, i64 v12, f32 x20]) (args := [agg (oXc a0 a1 0 0 L10.length), i64 v4, i64 v12, f32 x20]) (Γc := [oF 0 L10]) (Γc' := [oF 0 r21]) (r' := tup []) (Γ' := [oF 0 r21]) [(0, 0)] [] rfl (CallAs.func ent81 rfl rfl) rfl rfl (SelOk.of (ndB_ok rfl) (sA rfl trivial)) (live_of ⟨⟨_, _, rfl⟩, trivial⟩) (by simp [ren, rens, sigma, rens_f32, rens_f64, rens_i64, rens_ik, rens_str, rens_cp, hl11]) rfl (K0r_ok a0 a1 v4 v12 x20 L10 r21 hf18) rfl (news_of trivial) (ndB_ok rfl) (by simp [ren, rens, sigma, of_decide_eq_true hn19]) (by simp [backOb, sigma, ren, rens, rens_f32, rens_f64, rens_i64, rens_ik, rens_str, rens_cp] <;> omega)<|zN ?_
     refine RunC.wl (τ' := [(1, i64 a2), (2, ptr (oXc a0 a1 0 0 a3.length)), (4, i64 v4), (5, f32 x7), (6, i64 v12)]) (Γ' := [oF 0 r21]) ⟨aR, aR, aR, aR, aR, trivial⟩ ⟨⟨rfl, .inr rfl⟩, trivial⟩ ?_
     obtain ⟨x22, hx20, h5_⟩ := oL h5_
     refine yW<|ym rfl (i64 v12)<|yl rfl (i64 x22) (LOp.eqr (LOp.add rfl rfl rfl) (congrArg (ik .i64) hx20))<|ya rfl (i64 x22)<|zN ?_
     cases oI h5_
     exact ⟨_, rfl, (of_decide_eq_true hn19), ⟨aR, aR, aR, aR, aR, trivial⟩, ⟨⟨rfl, .inr rfl⟩, trivial⟩⟩
    ·refine yW<|ym rfl (i64 v12)<|yl rfl (ptr [i64 a1, oref 0 0 0 a3.length]) (LOp.fap und27 rfl siz2 rfl rfl rfl)<|yl rfl (i64 a1) (y2 agg2)<|yl rfl (b false) (LOp.eqb (LOp.lss rfl rfl rfl) hc9)<|zN ?_
     refine yF<|RunC.exit ?_
     cases oI h5_
     have hx := ho5 _ rfl
     exact ⟨L10, hl11, ⟨aR, aR, aR, trivial⟩, ⟨⟨rfl, .inr rfl⟩, trivial⟩, hx⟩
   ·rintro τ6 Γ6 ⟨L23, hl24, hw6, hd6, rfl⟩
    refine RunC.wl hw6 hd6 ?_
    replace h4_ : K0v_k2 v4 L23 = some y4_ := h4_
    unfold K0v_k2 at h4_
    obtain ⟨x25, hx21, h4_⟩ := oL h4_
    refine yW<|ym rfl (i64 v4)<|yl rfl (i64 x25) (LOp.eqr (LOp.add rfl rfl rfl) (congrArg (ik .i64) hx21))<|ya rfl (i64 x25)<|zN ?_
    cases oI h4_
    exact ⟨_, rfl, hl24, ⟨aR, aR, aR, trivial⟩, ⟨⟨rfl, .inr rfl⟩, trivial⟩⟩
  ·refine yW<|ym rfl (i64 v4)<|yl rfl (ptr (oXc a0 a1 0 0 a3.length)) (LOp.fap und27 rfl siz2 rfl rfl rfl)<|yl rfl (i64 a0) (y2 agg2)<|yl rfl (b false) (LOp.eqb (LOp.lss rfl rfl rfl) hc2)<|zN ?_
   refine yF<|RunC.exit ?_
   cases oI h4_
   have hx := ho4 _ rfl
   exact ⟨L2, hl3, trivial, ⟨⟨rfl, .inr rfl⟩, trivial⟩, hx⟩
 ·rintro τ7 Γ7 ⟨L26, hl27, hw7, hd7, rfl⟩
  replace h : K0v_k3 L26 = some q0 := h
  unfold K0v_k3 at h
  refine bodyQ.wl hw7 hd7 ?_
  have hq := oI h
  subst q0
  exact yB (tup []) [(0, 0)] (Res.zero rfl) (SelL.arr (f := f32) (fun _ => rfl) rfl trivial)
def K0w_k7 (v12 : Int) (v17 : Int) : Option (LR (Int × Int) (Int) (Int × Int × Bool × (List F) × (List Int))) :=
 olet (IntKind.i64.wrap (v12 + 1)) fun (x20 : Int) =>
 some (LR.next (v17, x20))
def K0w_b8 (a0 : Int) (r2 : Int) (r3 : Int) (L6 : List F) (v10 : Int) (v11 : Int) (v12 : Int) : Option (LR (Int × Int) (Int) (Int × Int × Bool × (List F) × (List Int))) :=
 bsel (decide (v12 < a0)) (
  obind (K0p r2 r3 L6 v12 v10) fun (r13 : F) =>
  obind (K0q r13) fun (r14 : F) =>
  obind (K0p r2 r3 L6 v11 v10) fun (r15 : F) =>
  obind (K0q r15) fun (r16 : F) =>
  bsel (flt .f32 r16 r14) (
   K0w_k7 v12 v12) (
   K0w_k7 v12 v11)) (
  some (LR.out v11))
def K0w_s8 (a0 : Int) (r2 : Int) (r3 : Int) (L6 : List F) (v10 : Int) : (Int × Int) → Option (LR (Int × Int) (Int) (Int × Int × Bool × (List F) × (List Int))) := fun s => K0w_b8 a0 r2 r3 L6 v10 s.1 s.2
def K0w_k8 (r2 : Int) (r3 : Int) (r4 : List F) (r5 : List Int) (L6 : List F) (L8 : List Int) (v10 : Int) (v23 : Int) : Option (LR ((List F) × (List Int) × Int) ((List F) × (List Int)) (Int × Int × Bool × (List F) × (List Int))) :=
 obind (K0p r2 r3 L6 v23 v10) fun (r24 : F) =>
 bsel (feq .f32 r24 (some 0)) (
  some (LR.ret (0, 0, false, ([] : List F), ([] : List Int)))) (
  obind (K0s r2 r3 v23 v10 L6) fun (r25 : List F) =>
  need (decide (r25.length = r4.length)) <|
  obind (K0t v23 v10 L8) fun (r26 : List Int) =>
  need (decide (r26.length = r5.length)) <|
  obind (K0v r2 r3 v10 r25) fun (r27 : List F) =>
  need (decide (r27.length = r4.length)) <|
  obind (K0k r2 r3 r27) fun (r28 : Bool) =>
  bsel r28 (
   olet (IntKind.i64.wrap (v10 + 1)) fun (x29 : Int) =>
   some (LR.next (r27, r26, x29))) (
   some (LR.ret (0, 0, false, ([] : List F), ([] : List Int)))))
def K0w_b9 (a0 : Int) (r2 : Int) (r3 : Int) (r4 : List F) (r5 : List Int) (L6 : List F) (L8 : List Int) (v10 : Int) : Option (LR ((List F) × (List Int) × Int) ((List F) × (List Int)) (Int × Int × Bool × (List F) × (List Int))) :=
 bsel (decide (v10 < a0)) (
  obind (loopM (K0w_s8 a0 r2 r3 L6 v10) (v10, v10)) fun z => osum z (fun e => K0w_k8 r2 r3 r4 r5 L6 L8 v10 e) (fun r => some (LR.ret r))) (
  some (LR.out (L6, L8)))
def K0w_s9 (a0 : Int) (r2 : Int) (r3 : Int) (r4 : List F) (r5 : List Int) : ((List F) × (List Int) × Int) → Option (LR ((List F) × (List Int) × Int) ((List F) × (List Int)) (Int × Int × Bool × (List F) × (List Int))) := fun s => K0w_b9 a0 r2 r3 r4 r5 s.1 s.2.1 s.2.2
def K0w_k9 (r2 : Int) (r3 : Int) (L30 : List F) (L32 : List Int) : Option (Int × Int × Bool × (List F) × (List Int)) :=
 some (r2, r3, true, L30, L32)
def K0w (a0 : Int) (a1 : Int) (a2 : List F) : Option (Int × Int × Bool × (List F) × (List Int)) :=
 obind (K0l a0 a1 a2) fun (r1 : Bool) =>
 bsel r1 (
  obind3 (K0n a0 a1 a2) fun (r2 : Int) (r3 : Int) (r4 : List F) =>
  obind (K0o a0) fun (r5 : List Int) =>
  obind (loopM (K0w_s9 a0 r2 r3 r4 r5) (r4, r5, 0)) fun z => osum z (fun e => K0w_k9 r2 r3 e.1 e.2) (fun r => some r)) (
  some (0, 0, false, ([] : List F), ([] : List Int)))
theorem K0w_ok (a0 : Int) (a1 : Int) (a2 : List F) (q0 : Int) (q1 : Int) (q2 : Bool) (q3 : List F) (q4 : List Int) (h : K0w a0 a1 a2 = some (q0, q1, q2, q3, q4)) : Ev Tryz.prog 25 [agg (mXc a0 a1 a2)] [] (tup [agg [i64 q0, i64 q1, oref 0 0 0 q3.length, oref 1 0 0 q4.length], b q2]) [oF 0 q3, oJ 0 q4] := by
 refine yE Tryz.func25 6 147 0 [(0, agg (mXc a0 a1 a2))] [o0, o0, o0, o0, o0, o0] rfl ?_
 unfold K0w at h
 refine zQ<|yd rfl (ptr (mXc a0 a1 a2)) (TOp.box_s rfl rfl rfl)<|ye rfl (optr 0 1 0) ([⟨1, some [i64 0, i64 0, nilsl, nilsl]⟩, o0, o0, o0, o0, o0]) (TOp.alloc_o (g := o0) 0 rfl zer41 zok41 rfl)<|ya rfl (b false)<|zN ?_
 refine yS<|yS ?_
 obtain ⟨r1, hf1, h⟩ := oS h
 rcases oB h with ⟨hc2, h⟩ | ⟨hc2, h⟩
 ·refine yW<|yl rfl (agg (mXc a0 a1 a2)) (yL agg27 siz27)<|yd rfl (b true) (TOp.eqb (TOp.callB (CallAs.func ent41 rfl rfl) (Bors.cons (Bor.agg (bP (bP (bS bN)))) bN) rfl rfl (K0l_ok a0 a1 a2 r1 hf1)) hc2)<|yl rfl (b false) y1<|zN ?_
  refine yF<|RunC.skip<|yS ?_
  obtain ⟨r2, r3, r4, hf3, h⟩ := obind3_some h
  obtain ⟨r5, hf4, h⟩ := oS h
  refine RunC.region_draw (Γ' := [⟨1, some [i64 0, i64 0, nilsl, nilsl]⟩, oF 1 r4, oJ 1 r5, ⟨1, some [i64 0, i64 0, nilsl, nilsl]⟩, o0, o0]) 7 mixed 
   (tl rfl (agg (mXc a0 a1 a2)) (yL agg27 siz27) <|
   (TR.d (r := agg (oXc r2 r3 1 1 r4.length)) (fs := [(1, (r4.map f32))]) rfl rfl (TOp.callBN (ls := [(r4.map f32)]) [1] (CallAs.func ent43 rfl rfl) (Bors.cons (Bor.agg (bP (bP (bS bN)))) bN) rfl (K0n_ok a0 a1 a2 r2 r3 r4 hf3) (and_all (lts0_map (f := f32) (fun _ => rfl) _) rfl) (and_all (noss_map (f := f32) (fun _ => rfl) _) rfl) rfl (by decide) (ns_of ⟨⟨_, rfl⟩, trivial⟩)) <|
   (tl rfl (ptr (mXc a0 a1 a2)) (LOp.fap und27 rfl siz2 rfl rfl rfl) <|
   (tl rfl (i64 a0) (y2 agg2) <|
   (TR.d (r := oref 2 1 0 r5.length) (fs := [(2, (r5.map i64))]) rfl rfl (TOp.callBN (ls := [(r5.map i64)]) [2] (CallAs.func ent44 rfl rfl) bN0 rfl (K0o_ok a0 r5 hf4) (and_all (lts0_map (f := i64) (fun _ => rfl) _) rfl) (and_all (noss_map (f := i64) (fun _ => rfl) _) rfl) rfl (by decide) (ns_of ⟨⟨_, rfl⟩, trivial⟩)) <|
   (tl rfl (agg [i64 r2, i64 r3, oref 1 1 0 r4.length, oref 2 1 0 r5.length]) (LOp.build (qs := [(0, (oXc r2 r3 1 1 r4.length)), (1, [oref 2 1 0 r5.length])]) zer41 zok41 und41 plc41 rfl ⟨rfl, ⟨_, ALe.refl _, rfl⟩, ⟨rfl, ⟨_, ALe.refl _, rfl⟩, trivial⟩⟩ rfl) <|
   (TR.d (r := optr 3 1 0) (fs := [(3, [i64 0, i64 0, nilsl, nilsl])]) rfl rfl (TOp.alloc_o (g := o0) 3 rfl zer41 zok41 rfl) <|
   TR.nil))))))) rfl (by kernel_rfl) rfl (fills_of (by show List.Nodup [1, 2, 3]; decide) ⟨⟨_, rfl⟩, ⟨_, rfl⟩, ⟨_, rfl⟩, trivial⟩) rfl ?_
  iterate 7 refine ROps.dropS ?_
  refine ROps.drop0<|ys (agg [i64 r2, i64 r3, oref 1 1 0 r4.length, oref 2 1 0 r5.length]) [i64 r2, i64 r3, oref 1 1 0 r4.length, oref 2 1 0 r5.length] ([⟨1, some [i64 0, i64 0, nilsl, nilsl]⟩, oF 1 r4, oJ 1 r5, ⟨1, some [i64 r2, i64 r3, oref 1 1 0 r4.length, oref 2 1 0 r5.length]⟩, o0, o0]) siz41<|zN ?_
  refine yS<|zQ<|yl rfl (ptr (mXc a0 a1 a2)) (LOp.fap und27 rfl siz2 rfl rfl rfl)<|yl rfl (i64 a0) (y2 agg2)<|ym rfl (i64 0)<|zN ?_
  obtain ⟨z10, hz_10, h⟩ := oS h
  refine RunC.cutN (fun τ Γ => ∃ (L30 : List F) (L32 : List Int), L30.length = r4.length ∧ L32.length = r5.length ∧ WeakLe τ [(2, optr 0 1 0), (4, optr 3 1 0)] ∧ DeadLe Γ [⟨1, some [i64 0, i64 0, nilsl, nilsl]⟩, oF 1 L30, oJ 1 L32, ⟨1, some [i64 r2, i64 r3, oref 1 1 0 r4.length, oref 2 1 0 r5.length]⟩, o0, o0] ∧ z10 = .inl (L30, L32)) ?_ ?_
  ·refine RunC.block (RunC.loop (RunL.loopM (x := z10) (K0w_s9 a0 r2 r3 r4 r5) (fun (s : (List F) × (List Int) × Int) τ Γ => s.1.length = r4.length ∧ s.2.1.length = r5.length ∧ WeakLe τ [(1, ptr (mXc a0 a1 a2)), (2, optr 0 1 0), (4, optr 3 1 0), (19, i64 a0), (20, i64 s.2.2)] ∧ DeadLe Γ [⟨1, some [i64 0, i64 0, nilsl, nilsl]⟩, ⟨1, some (s.1.map f32)⟩, ⟨1, some (s.2.1.map i64)⟩, ⟨1, some [i64 r2, i64 r3, oref 1 1 0 r4.length, oref 2 1 0 r5.length]⟩, o0, o0]) ?_ _ _ _ hz_10 ⟨rfl, rfl, ⟨aR, aR, aR, aR, aR, trivial⟩, ⟨⟨rfl, .inr rfl⟩, ⟨rfl, .inr rfl⟩, ⟨rfl, .inr rfl⟩, ⟨rfl, .inr rfl⟩, ⟨rfl, .inr rfl⟩, ⟨rfl, .inr rfl⟩, trivial⟩⟩))
   rintro ⟨L6, L8, v10⟩ τ10 Γ10 y10_ ⟨hl7, hl9, hw10, hd10⟩ h10_ ho10 hr10
   refine RunC.wl (τ' := [(1, ptr (mXc a0 a1 a2)), (2, optr 0 1 0), (4, optr 3 1 0), (19, i64 a0), (20, i64 v10)]) (Γ' := [⟨1, some [i64 0, i64 0, nilsl, nilsl]⟩, oF 1 L6, oJ 1 L8, ⟨1, some [i64 r2, i64 r3, oref 1 1 0 r4.length, oref 2 1 0 r5.length]⟩, o0, o0]) hw10 hd10 ?_
   replace hl7 : L6.length = r4.length := hl7
   replace hl9 : L8.length = r5.length := hl9
   replace h10_ : K0w_b9 a0 r2 r3 r4 r5 L6 L8 v10 = some y10_ := h10_
   unfold K0w_b9 at h10_
   refine yS ?_
   rcases oB h10_ with ⟨hc5, h10_⟩ | ⟨hc5, h10_⟩
   ·refine yW<|yl rfl (b true) (LOp.eqb (LOp.lss rfl rfl rfl) hc5)<|zN ?_
    refine yS<|yT<|RunC.skip<|yS<|RunC.block<|zQ<|ym rfl (i64 v10)<|ya rfl (i64 v10)<|zN ?_
    refine zQ<|ym rfl (i64 v10)<|ya rfl (i64 v10)<|zN ?_
    refine yS<|zQ<|ym rfl (i64 v10)<|ya rfl (i64 v10)<|zN ?_
    obtain ⟨z11, hz_11, h10_⟩ := oS h10_
    refine RunC.cutN (fun τ Γ => ∃ (v23 : Int), L6.length = r4.length ∧ L8.length = r5.length ∧ WeakLe τ [(1, ptr (mXc a0 a1 a2)), (2, optr 0 1 0), (4, optr 3 1 0), (5, i64 v10), (6, i64 v23), (19, i64 a0), (20, i64 v10)] ∧ DeadLe Γ [⟨1, some [i64 0, i64 0, nilsl, nilsl]⟩, oF 1 L6, oJ 1 L8, ⟨1, some [i64 r2, i64 r3, oref 1 1 0 r4.length, oref 2 1 0 r5.length]⟩, o0, o0] ∧ z11 = .inl v23) ?_ ?_
    ·refine RunC.block (RunC.loop (RunL.loopM (x := z11) (K0w_s8 a0 r2 r3 L6 v10) (fun (s : Int × Int) τ Γ => WeakLe τ [(1, ptr (mXc a0 a1 a2)), (2, optr 0 1 0), (4, optr 3 1 0), (5, i64 v10), (6, i64 s.1), (7, i64 s.2), (19, i64 a0), (20, i64 v10)] ∧ DeadLe Γ [⟨1, some [i64 0, i64 0, nilsl, nilsl]⟩, oF 1 L6, oJ 1 L8, ⟨1, some [i64 r2, i64 r3, oref 1 1 0 r4.length, oref 2 1 0 r5.length]⟩, o0, o0]) ?_ _ _ _ hz_11 ⟨⟨aR, aR, aR, aR, aR, aR, aR, aR, trivial⟩, ⟨⟨rfl, .inr rfl⟩, ⟨rfl, .inr rfl⟩, ⟨rfl, .inr rfl⟩, ⟨rfl, .inr rfl⟩, ⟨rfl, .inr rfl⟩, ⟨rfl, .inr rfl⟩, trivial⟩⟩))
     rintro ⟨v11, v12⟩ τ11 Γ11 y11_ ⟨hw11, hd11⟩ h11_ ho11 hr11
     refine RunC.wl (τ' := [(1, ptr (mXc a0 a1 a2)), (2, optr 0 1 0), (4, optr 3 1 0), (5, i64 v10), (6, i64 v11), (7, i64 v12), (19, i64 a0), (20, i64 v10)]) (Γ' := [⟨1, some [i64 0, i64 0, nilsl, nilsl]⟩, oF 1 L6, oJ 1 L8, ⟨1, some [i64 r2, i64 r3, oref 1 1 0 r4.length, oref 2 1 0 r5.length]⟩, o0, o0]) hw11 hd11 ?_
     replace h11_ : K0w_b8 a0 r2 r3 L6 v10 v11 v12 = some y11_ := h11_
     unfold K0w_b8 at h11_
     refine yS<|yS ?_
     rcases oB h11_ with ⟨hc6, h11_⟩ | ⟨hc6, h11_⟩
     ·refine yW<|ym rfl (i64 v12)<|yl rfl (ptr (mXc a0 a1 a2)) (LOp.fap und27 rfl siz2 rfl rfl rfl)<|yl rfl (i64 a0) (y2 agg2)<|yl rfl (b true) (LOp.eqb (LOp.lss rfl rfl rfl) hc6)<|zN ?_
      refine yT<|RunC.skip<|yS<|RunC.cutN (fun τ Γ => ∃ (v17 : Int), L6.length = r4.length ∧ L8.length = r5.length ∧ WeakLe τ [(1, ptr (mXc a0 a1 a2)), (2, optr 0 1 0), (4, optr 3 1 0), (5, i64 v10), (6, i64 v17), (7, i64 v12), (19, i64 a0), (20, i64 v10)] ∧ DeadLe Γ [⟨1, some [i64 0, i64 0, nilsl, nilsl]⟩, oF 1 L6, oJ 1 L8, ⟨1, some [i64 r2, i64 r3, oref 1 1 0 r4.length, oref 2 1 0 r5.length]⟩, o0, o0] ∧ K0w_k7 v12 v17 = some y11_) ?_ ?_
      ·refine RunC.block<|yS ?_
       obtain ⟨r13, hf7, h11_⟩ := oS h11_
       obtain ⟨r14, hf8, h11_⟩ := oS h11_
       obtain ⟨r15, hf9, h11_⟩ := oS h11_
       obtain ⟨r16, hf10, h11_⟩ := oS h11_
       rcases oB h11_ with ⟨hc11, h11_⟩ | ⟨hc11, h11_⟩
       ·refine RunC.region_draw (Γ' := [⟨1, some [i64 0, i64 0, nilsl, nilsl]⟩, oF 1 L6, oJ 1 L8, ⟨1, some [i64 r2, i64 r3, oref 1 1 0 r4.length, oref 2 1 0 r5.length]⟩, o0, o0]) 13 mixed 
         (tl rfl (optr 3 1 0) (LOp.fao und41 rfl siz27 rfl rfl rfl) <|
         (TR.d (r := agg (oXc r2 r3 1 1 r4.length)) (fs := []) rfl rfl (yA agg27 siz27) <|
         (tm rfl (i64 v12) <|
         (tm rfl (i64 v10) <|
         (TR.d (r := f32 r13) (fs := []) rfl rfl (TOp.callB (CallAs.func ent46 rfl rfl) (Bors.cons (Bor.agg (bP (bP (Bors.cons (Bor.own (f := f32) (fun _ => rfl) rfl hl7) bN)))) (bP bN0)) rfl rfl (K0p_ok r2 r3 L6 v12 v10 r13 hf7)) <|
         (TR.d (r := f32 r14) (fs := []) rfl rfl (yc ent45 rfl rfl bN0 (K0q_ok r13 r14 hf8)) <|
         (tl rfl (optr 3 1 0) (LOp.fao und41 rfl siz27 rfl rfl rfl) <|
         (TR.d (r := agg (oXc r2 r3 1 1 r4.length)) (fs := []) rfl rfl (yA agg27 siz27) <|
         (tm rfl (i64 v11) <|
         (tm rfl (i64 v10) <|
         (TR.d (r := f32 r15) (fs := []) rfl rfl (TOp.callB (CallAs.func ent46 rfl rfl) (Bors.cons (Bor.agg (bP (bP (Bors.cons (Bor.own (f := f32) (fun _ => rfl) rfl hl7) bN)))) (bP bN0)) rfl rfl (K0p_ok r2 r3 L6 v11 v10 r15 hf9)) <|
         (TR.d (r := f32 r16) (fs := []) rfl rfl (yc ent45 rfl rfl bN0 (K0q_ok r15 r16 hf10)) <|
         (tl rfl (b true) (LOp.eqb (LOp.fgt rfl (OpF.tmp rfl) (OpF.tmp rfl)) hc11) <|
         TR.nil))))))))))))) rfl (by kernel_rfl) rfl fills_nil rfl ?_
        iterate 13 refine ROps.dropS ?_
        refine ROps.drop0<|zN ?_
        refine RunC.wl (τ' := [(1, ptr (mXc a0 a1 a2)), (2, optr 0 1 0), (4, optr 3 1 0), (5, i64 v10), (6, i64 v11), (7, i64 v12), (19, i64 a0), (20, i64 v10), (43, b true)]) (Γ' := [⟨1, some [i64 0, i64 0, nilsl, nilsl]⟩, oF 1 L6, oJ 1 L8, ⟨1, some [i64 r2, i64 r3, oref 1 1 0 r4.length, oref 2 1 0 r5.length]⟩, o0, o0]) ⟨aR, aR, aR, aR, aR, aR, aR, aR, aR, trivial⟩ ⟨⟨rfl, .inr rfl⟩, ⟨rfl, .inr rfl⟩, ⟨rfl, .inr rfl⟩, ⟨rfl, .inr rfl⟩, ⟨rfl, .inr rfl⟩, ⟨rfl, .inr rfl⟩, trivial⟩<|yT<|yW<|ym rfl (i64 v12)<|ya rfl (i64 v12)<|zN ?_
        exact ⟨v12, hl7, hl9, ⟨aR, aR, aR, aR, aR, aR, aR, aR, trivial⟩, ⟨⟨rfl, .inr rfl⟩, ⟨rfl, .inr rfl⟩, ⟨rfl, .inr rfl⟩, ⟨rfl, .inr rfl⟩, ⟨rfl, .inr rfl⟩, ⟨rfl, .inr rfl⟩, trivial⟩, h11_⟩
       ·refine RunC.region_draw (Γ' := [⟨1, some [i64 0, i64 0, nilsl, nilsl]⟩, oF 1 L6, oJ 1 L8, ⟨1, some [i64 r2, i64 r3, oref 1 1 0 r4.length, oref 2 1 0 r5.length]⟩, o0, o0]) 13 mixed 
         (tl rfl (optr 3 1 0) (LOp.fao und41 rfl siz27 rfl rfl rfl) <|
         (TR.d (r := agg (oXc r2 r3 1 1 r4.length)) (fs := []) rfl rfl (yA agg27 siz27) <|
         (tm rfl (i64 v12) <|
         (tm rfl (i64 v10) <|
         (TR.d (r := f32 r13) (fs := []) rfl rfl (TOp.callB (CallAs.func ent46 rfl rfl) (Bors.cons (Bor.agg (bP (bP (Bors.cons (Bor.own (f := f32) (fun _ => rfl) rfl hl7) bN)))) (bP bN0)) rfl rfl (K0p_ok r2 r3 L6 v12 v10 r13 hf7)) <|
         (TR.d (r := f32 r14) (fs := []) rfl rfl (yc ent45 rfl rfl bN0 (K0q_ok r13 r14 hf8)) <|
         (tl rfl (optr 3 1 0) (LOp.fao und41 rfl siz27 rfl rfl rfl) <|
         (TR.d (r := agg (oXc r2 r3 1 1 r4.length)) (fs := []) rfl rfl (yA agg27 siz27) <|
         (tm rfl (i64 v11) <|
         (tm rfl (i64 v10) <|
         (TR.d (r := f32 r15) (fs := []) rfl rfl (TOp.callB (CallAs.func ent46 rfl rfl) (Bors.cons (Bor.agg (bP (bP (Bors.cons (Bor.own (f := f32) (fun _ => rfl) rfl hl7) bN)))) (bP bN0)) rfl rfl (K0p_ok r2 r3 L6 v11 v10 r15 hf9)) <|
         (TR.d (r := f32 r16) (fs := []) rfl rfl (yc ent45 rfl rfl bN0 (K0q_ok r15 r16 hf10)) <|
         (tl rfl (b false) (LOp.eqb (LOp.fgt rfl (OpF.tmp rfl) (OpF.tmp rfl)) hc11) <|
         TR.nil))))))))))))) rfl (by kernel_rfl) rfl fills_nil rfl ?_
        iterate 13 refine ROps.dropS ?_
        refine ROps.drop0<|zN ?_
        refine RunC.wl (τ' := [(1, ptr (mXc a0 a1 a2)), (2, optr 0 1 0), (4, optr 3 1 0), (5, i64 v10), (6, i64 v11), (7, i64 v12), (19, i64 a0), (20, i64 v10), (43, b false)]) (Γ' := [⟨1, some [i64 0, i64 0, nilsl, nilsl]⟩, oF 1 L6, oJ 1 L8, ⟨1, some [i64 r2, i64 r3, oref 1 1 0 r4.length, oref 2 1 0 r5.length]⟩, o0, o0]) ⟨aR, aR, aR, aR, aR, aR, aR, aR, aR, trivial⟩ ⟨⟨rfl, .inr rfl⟩, ⟨rfl, .inr rfl⟩, ⟨rfl, .inr rfl⟩, ⟨rfl, .inr rfl⟩, ⟨rfl, .inr rfl⟩, ⟨rfl, .inr rfl⟩, trivial⟩<|yF<|RunC.skip ?_
        exact ⟨v11, hl7, hl9, ⟨aR, aR, aR, aR, aR, aR, aR, aR, trivial⟩, ⟨⟨rfl, .inr rfl⟩, ⟨rfl, .inr rfl⟩, ⟨rfl, .inr rfl⟩, ⟨rfl, .inr rfl⟩, ⟨rfl, .inr rfl⟩, ⟨rfl, .inr rfl⟩, trivial⟩, h11_⟩
      ·rintro τ12 Γ12 ⟨v17, hl18, hl19, hw12, hd12, h11_⟩
       refine RunC.wl hw12 hd12 ?_
       unfold K0w_k7 at h11_
       obtain ⟨x20, hx12, h11_⟩ := oL h11_
       refine yW<|ym rfl (i64 v12)<|yl rfl (i64 x20) (LOp.eqr (LOp.add rfl rfl rfl) (congrArg (ik .i64) hx12))<|ya rfl (i64 x20)<|zN ?_
       cases oI h11_
       exact ⟨_, rfl, ⟨aR, aR, aR, aR, aR, aR, aR, aR, trivial⟩, ⟨⟨rfl, .inr rfl⟩, ⟨rfl, .inr rfl⟩, ⟨rfl, .inr rfl⟩, ⟨rfl, .inr rfl⟩, ⟨rfl, .inr rfl⟩, ⟨rfl, .inr rfl⟩, trivial⟩⟩
     ·refine yW<|ym rfl (i64 v12)<|yl rfl (ptr (mXc a0 a1 a2)) (LOp.fap und27 rfl siz2 rfl rfl rfl)<|yl rfl (i64 a0) (y2 agg2)<|yl rfl (b false) (LOp.eqb (LOp.lss rfl rfl rfl) hc6)<|zN ?_
      refine yF<|RunC.exit ?_
      cases oI h11_
      have hx := ho11 _ rfl
      exact ⟨v11, hl7, hl9, ⟨aR, aR, aR, aR, aR, aR, aR, trivial⟩, ⟨⟨rfl, .inr rfl⟩, ⟨rfl, .inr rfl⟩, ⟨rfl, .inr rfl⟩, ⟨rfl, .inr rfl⟩, ⟨rfl, .inr rfl⟩, ⟨rfl, .inr rfl⟩, trivial⟩, hx⟩
    ·rintro τ13 Γ13 ⟨v23, hl21, hl22, hw13, hd13, rfl⟩
     refine RunC.wl hw13 hd13 ?_
     replace h10_ : K0w_k8 r2 r3 r4 r5 L6 L8 v10 v23 = some y10_ := h10_
     unfold K0w_k8 at h10_
     refine yS<|yS ?_
     obtain ⟨r24, hf13, h10_⟩ := oS h10_
     rcases oB h10_ with ⟨hc14, h10_⟩ | ⟨hc14, h10_⟩
     ·refine yW<|yl rfl (optr 3 1 0) (LOp.fao und41 rfl siz27 rfl rfl rfl)<|yd rfl (agg (oXc r2 r3 1 1 r4.length)) (yA agg27 siz27)<|ym rfl (i64 v23)<|ym rfl (i64 v10)<|yd rfl (f32 r24) (TOp.callB (CallAs.func ent46 rfl rfl) (Bors.cons (Bor.agg (bP (bP (Bors.cons (Bor.own (f := f32) (fun _ => rfl) rfl hl21) bN)))) (bP bN0)) rfl rfl (K0p_ok r2 r3 L6 v23 v10 r24 hf13))<|yl rfl (b true) (LOp.eqb (LOp.feq rfl (OpF.tmp rfl) (OpF.const rfl (by kernel_rfl) (by kernel_rfl))) hc14)<|zN ?_
      refine yT<|zQ<|yl rfl (agg [i64 0, i64 0, nilsl, nilsl]) (LOp.build (qs := []) zer41 zok41 und41 plc41 rfl trivial rfl)<|ys (agg [i64 0, i64 0, nilsl, nilsl]) [i64 0, i64 0, nilsl, nilsl] ([⟨1, some [i64 0, i64 0, nilsl, nilsl]⟩, oF 1 L6, oJ 1 L8, ⟨1, some [i64 r2, i64 r3, oref 1 1 0 r4.length, oref 2 1 0 r5.length]⟩, o0, o0]) siz41<|ya rfl (b false)<|zN ?_
      refine RunC.nil_cell (l' := [i64 0, i64 0, oref 4 1 0 0, nilsl]) (Γ' := [⟨1, some [i64 0, i64 0, oref 4 1 0 0, nilsl]⟩, oF 1 L6, oJ 1 L8, ⟨1, some [i64 r2, i64 r3, oref 1 1 0 r4.length, oref 2 1 0 r5.length]⟩, ⟨1, some (([] : List F).map f32)⟩, o0]) 0 2 4 rfl rfl rfl rfl rfl<|RunC.nil_cell (l' := [i64 0, i64 0, oref 4 1 0 0, oref 5 1 0 0]) (Γ' := [⟨1, some [i64 0, i64 0, oref 4 1 0 0, oref 5 1 0 0]⟩, oF 1 L6, oJ 1 L8, ⟨1, some [i64 r2, i64 r3, oref 1 1 0 r4.length, oref 2 1 0 r5.length]⟩, ⟨1, some (([] : List F).map f32)⟩, ⟨1, some (([] : List Int).map i64)⟩]) 0 3 5 rfl rfl rfl rfl rfl<|RunC.ret ?_
      cases oI h10_
      have hx14_ := hr10 _ rfl
      subst hx14_
      have hq := oI h
      obtain ⟨hq0, hq⟩ := Prod.mk.inj hq
      obtain ⟨hq1, hq⟩ := Prod.mk.inj hq
      obtain ⟨hq2, hq⟩ := Prod.mk.inj hq
      obtain ⟨hq3, hq⟩ := Prod.mk.inj hq
      subst q0
      subst q1
      subst q2
      subst q3
      subst q4
      exact yB (tup [agg [i64 0, i64 0, oref 4 1 0 (([] : List F).length), oref 5 1 0 (([] : List Int).length)], b false]) [(4, 1), (5, 1)] (Res.eq (Res.two rfl (RV.cell agg41 siz41 rfl rfl rfl rfl) (RV.tmp rfl)) (by first | rfl | (rw [(show ([] : List F).length = 0 from rfl), (show ([] : List Int).length = 0 from rfl)] <;> rfl))) (sA rfl (SelL.arr0 (f := i64) (fun _ => rfl) rfl trivial))
     ·refine yW<|yl rfl (optr 3 1 0) (LOp.fao und41 rfl siz27 rfl rfl rfl)<|yd rfl (agg (oXc r2 r3 1 1 r4.length)) (yA agg27 siz27)<|ym rfl (i64 v23)<|ym rfl (i64 v10)<|yd rfl (f32 r24) (TOp.callB (CallAs.func ent46 rfl rfl) (Bors.cons (Bor.agg (bP (bP (Bors.cons (Bor.own (f := f32) (fun _ => rfl) rfl hl21) bN)))) (bP bN0)) rfl rfl (K0p_ok r2 r3 L6 v23 v10 r24 hf13))<|yl rfl (b false) (LOp.eqb (LOp.feq rfl (OpF.tmp rfl) (OpF.const rfl (by kernel_rfl) (by kernel_rfl))) hc14)<|zN ?_
      refine yF<|RunC.skip<|yS ?_
      obtain ⟨r25, hf15, h10_⟩ := oS h10_
      obtain ⟨hn16, h10_⟩ := need_some h10_
      refine yW<|yl rfl (optr 3 1 0) (LOp.fao und41 rfl siz27 rfl rfl rfl)<|yd rfl (agg (oXc r2 r3 1 1 r4.length)) (yA agg27 siz27)<|ym rfl (i64 v23)<|ym rfl (i64 v10)<|ROps.callO (A := [agg (oXc r2 r3 1 1 r4.length), i64 v23, i64 v10]) (args := [agg (oXc r2 r3 0 0 L6.length), i64 v23, i64 v10]) (Γc := [oF 0 L6]) (Γc' := [oF 0 r25]) (r' := tup []) (Γ' := [⟨1, some [i64 0, i64 0, nilsl, nilsl]⟩, oF 1 r25, oJ 1 L8, ⟨1, some [i64 r2, i64 r3, oref 1 1 0 r4.length, oref 2 1 0 r5.length]⟩, o0, o0]) [(1, 1)] [] rfl (CallAs.func ent47 rfl rfl) rfl rfl (SelOk.of (ndB_ok rfl) (sA rfl trivial)) (live_of ⟨⟨_, _, rfl⟩, trivial⟩) (by simp [ren, rens, sigma, rens_f32, rens_f64, rens_i64, rens_ik, rens_str, rens_cp, hl21]) rfl (K0s_ok r2 r3 v23 v10 L6 r25 hf15) rfl (news_of trivial) (ndB_ok rfl) (by simp [ren, rens, sigma, of_decide_eq_true hn16]) (by simp [backOb, sigma, ren, rens, rens_f32, rens_f64, rens_i64, rens_ik, rens_str, rens_cp] <;> omega)<|zN ?_
      refine yS ?_
      obtain ⟨r26, hf17, h10_⟩ := oS h10_
      obtain ⟨hn18, h10_⟩ := need_some h10_
      refine yW<|yl rfl (optr 3 1 3) (LOp.fao und41 rfl siz39 rfl rfl rfl)<|yd rfl (oref 2 1 0 r5.length) (TOp.load1_o rfl rfl agg39 rfl rfl)<|ym rfl (i64 v23)<|ym rfl (i64 v10)<|ROps.callO (A := [oref 2 1 0 r5.length, i64 v23, i64 v10]) (args := [oref 0 0 0 L8.length, i64 v23, i64 v10]) (Γc := [oJ 0 L8]) (Γc' := [oJ 0 r26]) (r' := tup []) (Γ' := [⟨1, some [i64 0, i64 0, nilsl, nilsl]⟩, oF 1 r25, oJ 1 r26, ⟨1, some [i64 r2, i64 r3, oref 1 1 0 r4.length, oref 2 1 0 r5.length]⟩, o0, o0]) [(2, 1)] [] rfl (CallAs.func ent48 rfl rfl) rfl rfl (SelOk.of (show List.Nodup [2] from by decide) (SelL.arr0 (f := i64) (fun _ => rfl) rfl trivial)) (live_of ⟨⟨_, _, rfl⟩, trivial⟩) (by simp [ren, rens, sigma, rens_f32, rens_f64, rens_i64, rens_ik, rens_str, rens_cp, hl22]) rfl (K0t_ok v23 v10 L8 r26 hf17) rfl (news_of trivial) (show List.Nodup [2] from by decide) (by simp [ren, rens, sigma, of_decide_eq_true hn18]) (by simp [backOb, sigma, ren, rens, rens_f32, rens_f64, rens_i64, rens_ik, rens_str, rens_cp] <;> omega)<|zN ?_
      refine RunC.wl (τ' := [(1, ptr (mXc a0 a1 a2)), (2, optr 0 1 0), (4, optr 3 1 0), (5, i64 v10), (19, i64 a0), (20, i64 v10)]) (Γ' := [⟨1, some [i64 0, i64 0, nilsl, nilsl]⟩, oF 1 r25, oJ 1 r26, ⟨1, some [i64 r2, i64 r3, oref 1 1 0 r4.length, oref 2 1 0 r5.length]⟩, o0, o0]) ⟨aR, aR, aR, aR, aR, aR, trivial⟩ ⟨⟨rfl, .inr rfl⟩, ⟨rfl, .inr rfl⟩, ⟨rfl, .inr rfl⟩, ⟨rfl, .inr rfl⟩, ⟨rfl, .inr rfl⟩, ⟨rfl, .inr rfl⟩, trivial⟩<|yS ?_
      obtain ⟨r27, hf19, h10_⟩ := oS h10_
      obtain ⟨hn20, h10_⟩ := need_some h10_
      refine yW<|yl rfl (optr 3 1 0) (LOp.fao und41 rfl siz27 rfl rfl rfl)<|yd rfl (agg (oXc r2 r3 1 1 r4.length)) (yA agg27 siz27)<|ym rfl (i64 v10)<|ROps.callO (A := [agg (oXc r2 r3 1 1 r4.length), i64 v10]) (args := [agg (oXc r2 r3 0 0 r25.length), i64 v10]) (Γc := [oF 0 r25]) (Γc' := [oF 0 r27]) (r' := tup []) (Γ' := [⟨1, some [i64 0, i64 0, nilsl, nilsl]⟩, oF 1 r27, oJ 1 r26, ⟨1, some [i64 r2, i64 r3, oref 1 1 0 r4.length, oref 2 1 0 r5.length]⟩, o0, o0]) [(1, 1)] [] rfl (CallAs.func ent50 rfl rfl) rfl rfl (SelOk.of (ndB_ok rfl) (sA rfl trivial)) (live_of ⟨⟨_, _, rfl⟩, trivial⟩) (by simp [ren, rens, sigma, rens_f32, rens_f64, rens_i64, rens_ik, rens_str, rens_cp, (of_decide_eq_true hn16)]) rfl (K0v_ok r2 r3 v10 r25 r27 hf19) rfl (news_of trivial) (ndB_ok rfl) (by simp [ren, rens, sigma, of_decide_eq_true hn20]) (by simp [backOb, sigma, ren, rens, rens_f32, rens_f64, rens_i64, rens_ik, rens_str, rens_cp] <;> omega)<|zN ?_
      refine yS ?_
      obtain ⟨r28, hf21, h10_⟩ := oS h10_
      rcases oB h10_ with ⟨hc22, h10_⟩ | ⟨hc22, h10_⟩
      ·refine yW<|yl rfl (optr 3 1 0) (LOp.fao und41 rfl siz27 rfl rfl rfl)<|yd rfl (agg (oXc r2 r3 1 1 r4.length)) (yA agg27 siz27)<|yd rfl (b true) (TOp.eqb (TOp.callB (CallAs.func ent35 rfl rfl) (Bors.cons (Bor.agg (bP (bP (Bors.cons (Bor.own (f := f32) (fun _ => rfl) rfl (of_decide_eq_true hn20)) bN)))) bN) rfl rfl (K0k_ok r2 r3 r27 r28 hf21)) hc22)<|yl rfl (b false) y1<|zN ?_
       refine yF<|RunC.skip ?_
       obtain ⟨x29, hx23, h10_⟩ := oL h10_
       refine yW<|yl rfl (i64 x29) (LOp.eqr (LOp.add rfl rfl rfl) (congrArg (ik .i64) hx23))<|ym rfl (i64 x29)<|zN ?_
       cases oI h10_
       exact ⟨_, rfl, (of_decide_eq_true hn20), (of_decide_eq_true hn18), ⟨aR, aR, aR, aR, aR, trivial⟩, ⟨⟨rfl, .inr rfl⟩, ⟨rfl, .inr rfl⟩, ⟨rfl, .inr rfl⟩, ⟨rfl, .inr rfl⟩, ⟨rfl, .inr rfl⟩, ⟨rfl, .inr rfl⟩, trivial⟩⟩
      ·refine yW<|yl rfl (optr 3 1 0) (LOp.fao und41 rfl siz27 rfl rfl rfl)<|yd rfl (agg (oXc r2 r3 1 1 r4.length)) (yA agg27 siz27)<|yd rfl (b false) (TOp.eqb (TOp.callB (CallAs.func ent35 rfl rfl) (Bors.cons (Bor.agg (bP (bP (Bors.cons (Bor.own (f := f32) (fun _ => rfl) rfl (of_decide_eq_true hn20)) bN)))) bN) rfl rfl (K0k_ok r2 r3 r27 r28 hf21)) hc22)<|yl rfl (b true) y0<|zN ?_
       refine yT<|zQ<|yl rfl (agg [i64 0, i64 0, nilsl, nilsl]) (LOp.build (qs := []) zer41 zok41 und41 plc41 rfl trivial rfl)<|ys (agg [i64 0, i64 0, nilsl, nilsl]) [i64 0, i64 0, nilsl, nilsl] ([⟨1, some [i64 0, i64 0, nilsl, nilsl]⟩, oF 1 r27, oJ 1 r26, ⟨1, some [i64 r2, i64 r3, oref 1 1 0 r4.length, oref 2 1 0 r5.length]⟩, o0, o0]) siz41<|ya rfl (b false)<|zN ?_
       refine RunC.nil_cell (l' := [i64 0, i64 0, oref 4 1 0 0, nilsl]) (Γ' := [⟨1, some [i64 0, i64 0, oref 4 1 0 0, nilsl]⟩, oF 1 r27, oJ 1 r26, ⟨1, some [i64 r2, i64 r3, oref 1 1 0 r4.length, oref 2 1 0 r5.length]⟩, ⟨1, some (([] : List F).map f32)⟩, o0]) 0 2 4 rfl rfl rfl rfl rfl<|RunC.nil_cell (l' := [i64 0, i64 0, oref 4 1 0 0, oref 5 1 0 0]) (Γ' := [⟨1, some [i64 0, i64 0, oref 4 1 0 0, oref 5 1 0 0]⟩, oF 1 r27, oJ 1 r26, ⟨1, some [i64 r2, i64 r3, oref 1 1 0 r4.length, oref 2 1 0 r5.length]⟩, ⟨1, some (([] : List F).map f32)⟩, ⟨1, some (([] : List Int).map i64)⟩]) 0 3 5 rfl rfl rfl rfl rfl<|RunC.ret ?_
       cases oI h10_
       have hx15_ := hr10 _ rfl
       subst hx15_
       have hq := oI h
       obtain ⟨hq0, hq⟩ := Prod.mk.inj hq
       obtain ⟨hq1, hq⟩ := Prod.mk.inj hq
       obtain ⟨hq2, hq⟩ := Prod.mk.inj hq
       obtain ⟨hq3, hq⟩ := Prod.mk.inj hq
       subst q0
       subst q1
       subst q2
       subst q3
       subst q4
       exact yB (tup [agg [i64 0, i64 0, oref 4 1 0 (([] : List F).length), oref 5 1 0 (([] : List Int).length)], b false]) [(4, 1), (5, 1)] (Res.eq (Res.two rfl (RV.cell agg41 siz41 rfl rfl rfl rfl) (RV.tmp rfl)) (by first | rfl | (rw [(show ([] : List F).length = 0 from rfl), (show ([] : List Int).length = 0 from rfl)] <;> rfl))) (sA rfl (SelL.arr0 (f := i64) (fun _ => rfl) rfl trivial))
   ·refine yW<|yl rfl (b false) (LOp.eqb (LOp.lss rfl rfl rfl) hc5)<|zN ?_
    refine yS<|yF<|RunC.exit ?_
    cases oI h10_
    have hx := ho10 _ rfl
    exact ⟨L6, L8, hl7, hl9, ⟨aR, aR, trivial⟩, ⟨⟨rfl, .inr rfl⟩, ⟨rfl, .inr rfl⟩, ⟨rfl, .inr rfl⟩, ⟨rfl, .inr rfl⟩, ⟨rfl, .inr rfl⟩, ⟨rfl, .inr rfl⟩, trivial⟩, hx⟩
  ·rintro τ16 Γ16 ⟨L30, L32, hl31, hl33, hw16, hd16, rfl⟩
   refine RunC.wl hw16 hd16 ?_
   replace h : K0w_k9 r2 r3 L30 L32 = some (q0, q1, q2, q3, q4) := h
   unfold K0w_k9 at h
   refine zQ<|yd rfl (agg [i64 r2, i64 r3, oref 1 1 0 r4.length, oref 2 1 0 r5.length]) (yA agg41 siz41)<|ys (agg [i64 r2, i64 r3, oref 1 1 0 r4.length, oref 2 1 0 r5.length]) [i64 r2, i64 r3, oref 1 1 0 r4.length, oref 2 1 0 r5.length] ([⟨1, some [i64 r2, i64 r3, oref 1 1 0 r4.length, oref 2 1 0 r5.length]⟩, oF 1 L30, oJ 1 L32, ⟨1, some [i64 r2, i64 r3, oref 1 1 0 r4.length, oref 2 1 0 r5.length]⟩, o0, o0]) siz41<|ya rfl (b true)<|zN ?_
   refine RunC.ret ?_
   have hq := oI h
   obtain ⟨hq0, hq⟩ := Prod.mk.inj hq
   obtain ⟨hq1, hq⟩ := Prod.mk.inj hq
   obtain ⟨hq2, hq⟩ := Prod.mk.inj hq
   obtain ⟨hq3, hq⟩ := Prod.mk.inj hq
   subst q0
   subst q1
   subst q2
   subst q3
   subst q4
   exact yB (tup [agg [i64 r2, i64 r3, oref 1 1 0 L30.length, oref 2 1 0 L32.length], b true]) [(1, 1), (2, 1)] (Res.eq (Res.two rfl (RV.cell agg41 siz41 rfl rfl rfl rfl) (RV.tmp rfl)) (by first | rfl | (rw [(show L30.length = r4.length from hl31), (show L32.length = r5.length from hl33)] <;> rfl))) (sA rfl (SelL.arr0 (f := i64) (fun _ => rfl) rfl trivial))
 ·refine yW<|yl rfl (agg (mXc a0 a1 a2)) (yL agg27 siz27)<|yd rfl (b false) (TOp.eqb (TOp.callB (CallAs.func ent41 rfl rfl) (Bors.cons (Bor.agg (bP (bP (bS bN)))) bN) rfl rfl (K0l_ok a0 a1 a2 r1 hf1)) hc2)<|yl rfl (b true) y0<|zN ?_
  refine yT<|zQ<|yl rfl (agg [i64 0, i64 0, nilsl, nilsl]) (LOp.build (qs := []) zer41 zok41 und41 plc41 rfl trivial rfl)<|ys (agg [i64 0, i64 0, nilsl, nilsl]) [i64 0, i64 0, nilsl, nilsl] ([⟨1, some [i64 0, i64 0, nilsl, nilsl]⟩, o0, o0, o0, o0, o0]) siz41<|ya rfl (b false)<|zN ?_
  refine RunC.nil_cell (l' := [i64 0, i64 0, oref 1 1 0 0, nilsl]) (Γ' := [⟨1, some [i64 0, i64 0, oref 1 1 0 0, nilsl]⟩, ⟨1, some (([] : List F).map f32)⟩, o0, o0, o0, o0]) 0 2 1 rfl rfl rfl rfl rfl<|RunC.nil_cell (l' := [i64 0, i64 0, oref 1 1 0 0, oref 2 1 0 0]) (Γ' := [⟨1, some [i64 0, i64 0, oref 1 1 0 0, oref 2 1 0 0]⟩, ⟨1, some (([] : List F).map f32)⟩, ⟨1, some (([] : List Int).map i64)⟩, o0, o0, o0]) 0 3 2 rfl rfl rfl rfl rfl<|RunC.ret ?_
  have hq := oI h
  obtain ⟨hq0, hq⟩ := Prod.mk.inj hq
  obtain ⟨hq1, hq⟩ := Prod.mk.inj hq
  obtain ⟨hq2, hq⟩ := Prod.mk.inj hq
  obtain ⟨hq3, hq⟩ := Prod.mk.inj hq
  subst q0
  subst q1
  subst q2
  subst q3
  subst q4
  exact yB (tup [agg [i64 0, i64 0, oref 1 1 0 (([] : List F).length), oref 2 1 0 (([] : List Int).length)], b false]) [(1, 1), (2, 1)] (Res.eq (Res.two rfl (RV.cell agg41 siz41 rfl rfl rfl rfl) (RV.tmp rfl)) (by first | rfl | (rw [(show ([] : List F).length = 0 from rfl), (show ([] : List Int).length = 0 from rfl)] <;> rfl))) (sA rfl (SelL.arr0 (f := i64) (fun _ => rfl) rfl trivial))
def K0x_b1 (a0 : Int) (a1 : Int) (a2 : List F) (L3 : List F) (v4 : Int) : Option (LR ((List F) × Int) ((List F)) ((List F))) :=
 bsel (decide (v4 < (imin a0 a1))) (
  obind (K0p a0 a1 a2 v4 v4) fun (r5 : F) =>
  need (apok 4 L3.length 1) <|
  olet (IntKind.i64.wrap (v4 + 1)) fun (x6 : Int) =>
  some (LR.next ((L3 ++ ([r5] : List F)), x6))) (
  some (LR.out L3))
def K0x_s1 (a0 : Int) (a1 : Int) (a2 : List F) : ((List F) × Int) → Option (LR ((List F) × Int) ((List F)) ((List F))) := fun s => K0x_b1 a0 a1 a2 s.1 s.2
def K0x_k1 (L9 : List F) : Option ((List F)) :=
 some L9
def K0x (a0 : Int) (a1 : Int) (a2 : List F) : Option ((List F)) :=
 obind (loopM (K0x_s1 a0 a1 a2) (([] : List F), 0)) fun z => osum z (fun e => K0x_k1 e) (fun r => some r)
theorem K0x_ok (a0 : Int) (a1 : Int) (a2 : List F) (q0 : List F) (h : K0x a0 a1 a2 = some q0) : Ev Tryz.prog 89 [agg (mXc a0 a1 a2)] [] (oref 0 0 0 q0.length) [oF 0 q0] := by
 refine yE Tryz.func89 2 47 0 [(0, agg (mXc a0 a1 a2))] [o0, o0] rfl ?_
 unfold K0x at h
 refine zQ<|yd rfl (ptr (mXc a0 a1 a2)) (TOp.box_s rfl rfl rfl)<|ya rfl nilsl<|zN ?_
 refine zQ<|ye rfl (oref 0 1 0 0) ([⟨1, some (([] : List F).map f32)⟩, o0]) (TOp.buildSlice_o (g := o0) (za := f32 (some 0)) (qs := []) 0 rfl und25 siz30 zer30 rfl zel30 rfl rfl trivial rfl)<|ya rfl (oref 0 1 0 0)<|zN ?_
 refine yS<|zQ<|yl rfl (ptr (mXc a0 a1 a2)) (LOp.fap und27 rfl siz2 rfl rfl rfl)<|yl rfl (i64 a0) (y2 agg2)<|yl rfl (ptr [i64 a1, (sFc a2)]) (LOp.fap und27 rfl siz2 rfl rfl rfl)<|yl rfl (i64 a1) (y2 agg2)<|yl rfl (i64 (imin a0 a1)) (LOp.min2 rfl rfl rfl)<|ym rfl (i64 0)<|zN ?_
 obtain ⟨z2, hz_2, h⟩ := oS h
 refine RunC.cutN (fun τ Γ => ∃ (L9 : List F) (u7 : Nat) (u8 : Nat), WeakLe τ [(3, oref 0 u7 0 L9.length)] ∧ DeadLe Γ [⟨u7, some (L9.map f32)⟩, ⟨u8, none⟩] ∧ z2 = .inl L9) ?_ ?_
 ·refine RunC.block (RunC.loop (RunL.loopM (x := z2) (K0x_s1 a0 a1 a2) (fun (s : (List F) × Int) τ Γ => ∃ (u1 : Nat) (u2 : Nat), WeakLe τ [(1, ptr (mXc a0 a1 a2)), (3, oref 0 u1 0 s.1.length), (10, i64 (imin a0 a1)), (11, i64 s.2)] ∧ DeadLe Γ [⟨u1, some (s.1.map f32)⟩, ⟨u2, none⟩]) ?_ _ _ _ hz_2 ⟨1, 0, ⟨aR, aR, aR, aR, trivial⟩, ⟨⟨rfl, .inr rfl⟩, ⟨rfl, .inl rfl⟩, trivial⟩⟩))
  rintro ⟨L3, v4⟩ τ2 Γ2 y2_ ⟨u1, u2, hw2, hd2⟩ h2_ ho2 hr2
  refine RunC.wl (τ' := [(1, ptr (mXc a0 a1 a2)), (3, oref 0 u1 0 L3.length), (10, i64 (imin a0 a1)), (11, i64 v4)]) (Γ' := [⟨u1, some (L3.map f32)⟩, ⟨u2, none⟩]) hw2 hd2 ?_
  replace h2_ : K0x_b1 a0 a1 a2 L3 v4 = some y2_ := h2_
  unfold K0x_b1 at h2_
  refine yS ?_
  rcases oB h2_ with ⟨hc1, h2_⟩ | ⟨hc1, h2_⟩
  ·refine yW<|yl rfl (b true) (LOp.eqb (LOp.lss rfl rfl rfl) hc1)<|zN ?_
   refine yS<|yT<|RunC.skip<|yS<|RunC.block<|zQ<|ym rfl (i64 v4)<|ya rfl (i64 v4)<|zN ?_
   obtain ⟨r5, hf2, h2_⟩ := oS h2_
   obtain ⟨hm3, h2_⟩ := need_some h2_
   refine yW<|ym rfl (oref 0 u1 0 L3.length)<|yl rfl (agg (mXc a0 a1 a2)) (yL agg27 siz27)<|ym rfl (i64 v4)<|ym rfl (i64 v4)<|yd rfl (f32 r5) (TOp.callB (CallAs.func ent46 rfl rfl) (Bors.cons (Bor.agg (bP (bP (bS bN)))) (bP bN0)) rfl rfl (K0p_ok a0 a1 a2 v4 v4 r5 hf2))<|ye rfl (oref 1 (u2 + 1) 0 1) ([⟨u1, some (L3.map f32)⟩, ⟨(u2 + 1), some (([r5] : List F).map f32)⟩]) (TOp.buildSlice_o (g := ⟨u2, none⟩) (za := f32 (some 0)) (qs := [(0, [f32 r5])]) 1 rfl und25 siz30 zer30 rfl zel30 rfl rfl ⟨rfl, ⟨_, ALe.refl _, rfl⟩, trivial⟩ rfl)<|ROps.app (f := f32) (xs := L3) (ys := ([r5] : List F)) (Γ' := [⟨(u1 + 1), some ((L3 ++ ([r5] : List F)).map f32)⟩, ⟨(u2 + 1), some (([r5] : List F).map f32)⟩]) rfl pun25 inf30 rfl rfl rfl rfl rfl rfl rfl rfl rfl (by simp) (ReadAs.own rfl (by simp)) (ones_map (fun _ => rfl)) (ap_by hm3) (ap_mx hm3) rfl<|ya rfl (oref 0 (u1 + 1) 0 (L3.length + 1))<|zN ?_
   refine RunC.wl (τ' := [(1, ptr (mXc a0 a1 a2)), (3, oref 0 (u1 + 1) 0 (L3.length + 1)), (10, i64 (imin a0 a1)), (11, i64 v4)]) (Γ' := [⟨(u1 + 1), some ((L3 ++ ([r5] : List F)).map f32)⟩, ⟨(u2 + 1), none⟩]) ⟨aR, aR, aR, aR, trivial⟩ ⟨⟨rfl, .inr rfl⟩, ⟨rfl, .inl rfl⟩, trivial⟩ ?_
   obtain ⟨x6, hx4, h2_⟩ := oL h2_
   refine yW<|yl rfl (i64 x6) (LOp.eqr (LOp.add rfl rfl rfl) (congrArg (ik .i64) hx4))<|ym rfl (i64 x6)<|zN ?_
   cases oI h2_
   exact ⟨_, rfl, (u1 + 1), (u2 + 1), ⟨aR, (ALe.eq (by rw [(app_len rfl rfl)] <;> rfl)), aR, aR, trivial⟩, ⟨⟨rfl, .inr rfl⟩, ⟨rfl, .inl rfl⟩, trivial⟩⟩
  ·refine yW<|yl rfl (b false) (LOp.eqb (LOp.lss rfl rfl rfl) hc1)<|zN ?_
   refine yS<|yF<|RunC.exit ?_
   cases oI h2_
   have hx := ho2 _ rfl
   exact ⟨L3, u1, u2, ⟨aR, trivial⟩, ⟨⟨rfl, .inr rfl⟩, ⟨rfl, .inl rfl⟩, trivial⟩, hx⟩
 ·rintro τ3 Γ3 ⟨L9, u7, u8, hw3, hd3, rfl⟩
  refine RunC.wl hw3 hd3 ?_
  replace h : K0x_k1 L9 = some q0 := h
  unfold K0x_k1 at h
  refine zQ<|ym rfl (oref 0 u7 0 L9.length)<|ya rfl (oref 0 u7 0 L9.length)<|zN ?_
  refine RunC.ret ?_
  have hq := oI h
  subst q0
  exact bodyQ.mk (r' := oref 0 u7 0 L9.length) [(0, u7)] (.inr rfl) rfl (ndB_ok rfl) (by simp [ren, rens, sigma]) rfl (Res.one rfl (RV.tmp rfl)) (sA rfl trivial)
def K0y_b1 (a0 : List F) (a1 : F) (v1 : Int) : Option (LR (Int) (Unit) (Int)) :=
 bsel (decide (v1 < (a0.length : Int))) (
  obind (at? a0 v1) fun (e2 : F) =>
  bsel (feq .f32 a1 e2) (
   some (LR.ret v1)) (
   olet (IntKind.i64.wrap (v1 + 1)) fun (x3 : Int) =>
   some (LR.next x3))) (
  some (LR.out ()))
def K0y_s1 (a0 : List F) (a1 : F) : (Int) → Option (LR (Int) (Unit) (Int)) := fun s => K0y_b1 a0 a1 s
def K0y_k1  : Option (Int) :=
 some (-1)
def K0y (a0 : List F) (a1 : F) : Option (Int) :=
 obind (loopM (K0y_s1 a0 a1) 0) fun z => osum z (fun _ => K0y_k1) (fun r => some r)
theorem K0y_ok (a0 : List F) (a1 : F) (q0 : Int) (h : K0y a0 a1 = some q0) : Ev Tryz.prog 105 [(sFc a0), f32 a1] [] (i64 q0) [] := by
 refine yE Tryz.func105 0 39 0 [(0, (sFc a0)), (1, f32 a1)] [] rfl ?_
 unfold K0y at h
 refine zQ<|ya rfl (i64 0)<|zN ?_
 refine yS<|zQ<|ym rfl (sFc a0)<|yl rfl (i64 (a0.length : Int)) (LOp.len_sl und25 rfl rfl)<|ym rfl (i64 0)<|zN ?_
 obtain ⟨z2, hz_2, h⟩ := oS h
 refine RunC.cutN (fun τ Γ => WeakLe τ [] ∧ DeadLe Γ [] ∧ z2 = .inl ()) ?_ ?_
 ·refine RunC.block (RunC.loop (RunL.loopM (x := z2) (K0y_s1 a0 a1) (fun (s : Int) τ Γ => WeakLe τ [(0, (sFc a0)), (1, f32 a1), (7, i64 (a0.length : Int)), (8, i64 s)] ∧ DeadLe Γ []) ?_ _ _ _ hz_2 ⟨⟨aR, aR, aR, aR, trivial⟩, trivial⟩))
  rintro v1 τ2 Γ2 y2_ ⟨hw2, hd2⟩ h2_ ho2 hr2
  refine RunC.wl (τ' := [(0, (sFc a0)), (1, f32 a1), (7, i64 (a0.length : Int)), (8, i64 v1)]) (Γ' := []) hw2 hd2 ?_
  replace h2_ : K0y_b1 a0 a1 v1 = some y2_ := h2_
  unfold K0y_b1 at h2_
  refine yS ?_
  rcases oB h2_ with ⟨hc1, h2_⟩ | ⟨hc1, h2_⟩
  ·refine yW<|yl rfl (b true) (LOp.eqb (LOp.lss rfl rfl rfl) hc1)<|zN ?_
   refine yS<|yT<|RunC.skip<|yS<|RunC.block<|zQ<|ym rfl (i64 v1)<|ya rfl (i64 v1)<|zN ?_
   refine yS ?_
   obtain ⟨e2, he2, h2_⟩ := oS h2_
   rcases oB h2_ with ⟨hc3, h2_⟩ | ⟨hc3, h2_⟩
   ·refine yW<|ym rfl (f32 a1)<|ym rfl (sFc a0)<|ym rfl (i64 v1)<|yl rfl (ptr [f32 e2]) (LOp.le (LOp.ix (f := f32) und25 siz30 rfl rfl rfl rfl he2) ALe.ptr)<|yl rfl (f32 e2) (y2 agg30)<|yl rfl (b true) (LOp.eqb (LOp.feq rfl (OpF.tmp rfl) (OpF.tmp rfl)) hc3)<|zN ?_
    refine yT<|zQ<|ym rfl (i64 v1)<|ya rfl (i64 v1)<|zN ?_
    refine RunC.ret ?_
    cases oI h2_
    have hx3_ := hr2 _ rfl
    subst hx3_
    have hq := oI h
    subst q0
    exact bR rfl
   ·refine yW<|ym rfl (f32 a1)<|ym rfl (sFc a0)<|ym rfl (i64 v1)<|yl rfl (ptr [f32 e2]) (LOp.le (LOp.ix (f := f32) und25 siz30 rfl rfl rfl rfl he2) ALe.ptr)<|yl rfl (f32 e2) (y2 agg30)<|yl rfl (b false) (LOp.eqb (LOp.feq rfl (OpF.tmp rfl) (OpF.tmp rfl)) hc3)<|zN ?_
    refine yF<|RunC.skip ?_
    obtain ⟨x3, hx4, h2_⟩ := oL h2_
    refine yW<|yl rfl (i64 x3) (LOp.eqr (LOp.add rfl rfl rfl) (congrArg (ik .i64) hx4))<|ym rfl (i64 x3)<|zN ?_
    cases oI h2_
    exact ⟨_, rfl, ⟨aR, aR, aR, aR, trivial⟩, trivial⟩
  ·refine yW<|yl rfl (b false) (LOp.eqb (LOp.lss rfl rfl rfl) hc1)<|zN ?_
   refine yS<|yF<|RunC.exit ?_
   cases oI h2_
   have hx := ho2 _ rfl
   exact ⟨trivial, trivial, hx⟩
 ·rintro τ4 Γ4 ⟨hw4, hd4, rfl⟩
  refine RunC.wl hw4 hd4 ?_
  replace h : K0y_k1 = some q0 := h
  unfold K0y_k1 at h
  refine zQ<|ya rfl (i64 (-1))<|zN ?_
  refine RunC.ret ?_
  have hq := oI h
  subst q0
  exact bR rfl
def K0z (a0 : List F) (a1 : F) : Option (Bool) :=
 obind (K0y a0 a1) fun (r1 : Int) =>
 some (decide (0 ≤ r1))
theorem K0z_ok (a0 : List F) (a1 : F) (q0 : Bool) (h : K0z a0 a1 = some q0) : Ev Tryz.prog 88 [(sFc a0), f32 a1] [] (b q0) [] := by
 refine yE Tryz.func88 0 19 0 [(0, (sFc a0)), (1, f32 a1)] [] rfl ?_
 unfold K0z at h
 refine zQ<|ya rfl (b false)<|zN ?_
 refine yS ?_
 obtain ⟨r1, hf1, h⟩ := oS h
 refine yW<|ym rfl (sFc a0)<|ym rfl (f32 a1)<|yd rfl (i64 r1) (yc ent105 rfl rfl (bS bN0) (K0y_ok a0 a1 r1 hf1))<|yl rfl (b (decide (0 ≤ r1))) (LOp.geq rfl rfl rfl)<|ya rfl (b (decide (0 ≤ r1)))<|zN ?_
 refine RunC.ret ?_
 have hq := oI h
 subst q0
 exact bR rfl
def K10 (a0 : List Int) : Option (Int) :=
 some (a0.length : Int)
theorem K10_ok (a0 : List Int) (q0 : Int) (h : K10 a0 = some q0) : Ev Tryz.prog 91 [sl a0.length (a0.map i64)] [] (i64 q0) [] := by
 refine yE Tryz.func91 0 11 0 [(0, sl a0.length (a0.map i64))] [] rfl ?_
 unfold K10 at h
 refine zQ<|ya rfl (i64 0)<|zN ?_
 refine zQ<|ym rfl (sl a0.length (a0.map i64))<|yl rfl (i64 (a0.length : Int)) (LOp.len_sl und39 rfl rfl)<|ya rfl (i64 (a0.length : Int))<|zN ?_
 refine RunC.ret ?_
 have hq := oI h
 subst q0
 exact bR rfl
def K11 (a0 : List Int) : Option ((List Int)) :=
 some a0
theorem K11_ok (a0 : List Int) (q0 : List Int) (h : K11 a0 = some q0) : Ev Tryz.prog 110 [sl a0.length (a0.map i64)] [] (fn (.func 114) [] [ptr [sl q0.length (q0.map i64)]]) [] := by
 refine yE Tryz.func110 0 9 0 [(0, sl a0.length (a0.map i64))] [] rfl ?_
 unfold K11 at h
 refine zQ<|yd rfl (ptr [sl a0.length (a0.map i64)]) (TOp.box_s rfl rfl rfl)<|ya rfl (x .nilFunc)<|zN ?_
 refine zQ<|yl rfl (fn (.func 114) [] [ptr [sl a0.length (a0.map i64)]]) (LOp.makeFunc rfl rfl)<|ya rfl (fn (.func 114) [] [ptr [sl a0.length (a0.map i64)]])<|zN ?_
 refine RunC.ret ?_
 have hq := oI h
 subst q0
 exact bodyQ.pure (.inr rfl) (lt_fn lts_nil (lts_cons (lt_ptr (lts_cons (lt_sl (fun _ => rfl)) lts_nil)) lts_nil)) (Res.one rfl (RV.tmp rfl))
def K12 (a0 : List Int) : Option (List Int) :=
 need (decide ((a0.length : Int) * 8 ≤ 140737488351232)) <|
 some a0
section
open Go.RowKit Go.Shelf
attribute [local go_sem] Oper.semAt_some
set_option maxRecDepth 100000 in
set_option maxHeartbeats 2000000 in
theorem values1_in (F : Fence) (n : Nat) (h7 : F.fn 114) (hro : F.round = none) (hn : 1 ≤ n) (l Bs Bo n₀ b off len cap : Nat) (zs : List Int) (hreach : len * 8 ≤ 140737488351232) (hb : b < n₀) (J Jx : List Int → World → Prop)
  (hY : ∀ pre x W, J pre W → pre.length < len → YieldAt F (n - 1) Tryz.prog l #[.int .i64 x] W fun e W' =>
   (e = .returned (.bool true) ∧ J (pre ++ [x]) W' ∧ Below n₀ W W') ∨ (e = .returned (.bool false) ∧ Jx (pre ++ [x]) W'))
  (W : World) (hBs : W.cell? ⟨Bs, Bo, none⟩ = some (.slice (some ⟨b, off, none⟩) len cap)) (hc : ∀ j, j < len → W.cell? ⟨b, off + j, none⟩ = some (.int .i64 (zs[j]?.getD 0))) (h0 : J [] W) :
  CallsIn F n Tryz.prog 114 #[.func (.yield l) #[] #[], .pointer (some ⟨Bs, Bo, none⟩)] W fun e W' => (∃ v, e = .returned v) ∧
   ((∃ ys, ys = uptoF (fun j => zs[j]?.getD 0) len ∧ J ys W') ∨ (∃ pre, (∃ k, k ≤ len ∧ pre = uptoF (fun j => zs[j]?.getD 0) k) ∧ Jx pre W')) := by
 refine callsIn_of_wp Tryz.func114 rfl h7 ?_ hro
 simp only [Tryz.ntmps114, List.size_toArray, List.length_cons, List.length_nil, Nat.reduceAdd, Nat.reduceSub, Array.replicate_succ, Array.replicate_zero, List.push_toArray, List.append_toArray, List.nil_append, List.cons_append]
 gi_wp2
 gi_loopw [7] (fun i wr => ∃ k : Nat, k ≤ len ∧ i = .int .i64 k ∧ J (uptoF (fun j => zs[j]?.getD 0) k) wr ∧ Below n₀ W wr)
  (fun i _ => len - (intOf i).toNat)
 case atStart => exact ⟨0, Nat.zero_le _, rfl, h0, Below.refl _ _⟩
 case round =>
  obtain ⟨k, hk, rfl, hJs, hnx⟩ := hrel
  have hcx : k < len → wr.cell? ⟨b, off + k, none⟩ = some (.int .i64 (zs[k]?.getD 0)) := fun h => (hnx.cell (p := ⟨b, off + k, none⟩) hb).trans (hc k h)
  by_cases hlt : k < len
  ·obtain ⟨fn, tmps, assign, body, hy, hR⟩ := hY _ (zs[k]?.getD 0) wr hJs (by rw [uptoF_length]; exact hlt)
   have hcx' := hcx hlt
   gi_wp2
   refine hR.mono ?_
   rintro e W3 (⟨rfl, hJ3, hk3⟩ | ⟨rfl, hJx3⟩)
   ·gi_wp2
    go_roundw
    case rel => exact ⟨k + 1, by omega, by simp, by rw [uptoF_succ]; exact hJ3, hnx.trans hk3⟩
    case measure => simp [intOf]; omega
   ·gi_wp2
    refine bodyPost_ret (results_none rfl _ _ _) rfl ?_
    exact ⟨⟨_, rfl⟩, .inr ⟨_, ⟨k + 1, by omega, (uptoF_succ _ _).symm⟩, hJx3⟩⟩
  ·obtain rfl : k = len := by omega
   gi_wp2
   go_end0
   exact ⟨⟨_, rfl⟩, .inl ⟨_, rfl, hJs⟩⟩
set_option maxRecDepth 100000 in
set_option maxHeartbeats 1000000 in
theorem values1_nil_in (F : Fence) (n : Nat) (h7 : F.fn 114) (hro : F.round = none) (l Bs Bo : Nat) (a : Option Addr) (cap : Nat) (J : List Int → World → Prop) (W : World) (hBs : W.cell? ⟨Bs, Bo, none⟩ = some (.slice a 0 cap)) (h0 : J [] W) :
  CallsIn F n Tryz.prog 114 #[.func (.yield l) #[] #[], .pointer (some ⟨Bs, Bo, none⟩)] W fun e W' => (∃ v, e = .returned v) ∧ J [] W' := by
 refine callsIn_of_wp Tryz.func114 rfl h7 ?_ hro
 simp only [Tryz.ntmps114, List.size_toArray, List.length_cons, List.length_nil, Nat.reduceAdd, Nat.reduceSub, Array.replicate_succ, Array.replicate_zero, List.push_toArray, List.append_toArray, List.nil_append, List.cons_append]
 gi_wp2
 gi_loopw [7] (fun i wr => i = .int .i64 0 ∧ J [] wr) (fun _ _ => 0)
 case atStart => exact ⟨rfl, h0⟩
 case round =>
  obtain ⟨rfl, hJs⟩ := hrel
  gi_wp2
  go_end0
  exact ⟨⟨_, rfl⟩, hJs⟩
theorem values_stops (F : Fence) (n : Nat) (h7 : F.fn 114) (hro : F.round = none) (hn : 1 ≤ n) (Bs Bo n₀ : Nat) (sv : Value) (zs : List Int) (hreach : zs.length * 8 ≤ 140737488351232) (w : World) (hBs : Bs < w.heap.size) (hn₀ : n₀ ≤ w.heap.size)
  (hc : w.cell? ⟨Bs, Bo, none⟩ = some sv) (hI : IntsAt n₀ w sv zs) :
  SeqStopsK F n Tryz.prog 114 #[.pointer (some ⟨Bs, Bo, none⟩)] (fun x : Int => #[Value.int .i64 x]) (Below n₀) (fun ys => ys = zs) (fun pre => pre <+: zs) zs.length w := fun l J Jx W hW _ _ hY h0 => by
 have hc' := (hW.cell (p := ⟨Bs, Bo, none⟩) hBs).trans hc
 rcases hI.below (hW.mono hn₀) with ⟨a, cap, rfl, rfl⟩ | ⟨b, off, cap, rfl, hb, hcs⟩
 ·exact (values1_nil_in F n h7 hro l Bs Bo a cap J W hc' h0).mono fun e W' ⟨he, hj⟩ => ⟨he, .inl ⟨_, rfl, hj⟩⟩
 ·refine (values1_in F n h7 hro hn l Bs Bo n₀ b off zs.length cap zs hreach hb J Jx hY W hc' hcs h0).mono ?_
  rintro e W' ⟨he, ⟨ys, rfl, hj⟩ | ⟨pre, ⟨k, hk, rfl⟩, hj⟩⟩
  ·exact ⟨he, .inl ⟨_, uptoF_all zs, hj⟩⟩
  ·exact ⟨he, .inr ⟨_, by rw [uptoF_take zs hk]; exact List.take_prefix _ _, hj⟩⟩
/-- Between two rounds: the box holds a slice that owns what has come. -/
def SeqAt (w : World) (B : Nat) (pre : List Int) (W : World) : Prop :=
 (∃ v, Boxed W B 39 v ∧ W.ownsRow w.heap.size 2 1 v pre.length (pre.map (Value.int .i64)) ∧ True) ∧ Below w.heap.size w W
theorem seqAt_own (w : World) (B D : Nat) (hD : w.heap.size ≤ D) : OwnFrom D (SeqAt w B) :=
 OwnFrom.and (Own.from (holdsRow_own w.heap.size B 39 2 1 (fun s : List Int => s.length) (fun s => s.map (Value.int .i64)) (fun _ _ => True)) _) (ownFrom_below (Nat.le_refl _) hD)
theorem ty39 : Tryz.prog.underlying 39 = some (.slice 2) := by kernel_rfl
theorem info2 : (Tryz.prog.info? 2).map (fun i => (i.zero, i.size, i.bytes)) = some (some (.int .i64 0), 1, 8) := by kernel_rfl
set_option maxRecDepth 100000 in
set_option maxHeartbeats 2000000 in
theorem appendSeq_in (F : Fence) (n : Nat) (h3 : F.fn 115) (h7 : F.fn 114) (hro : F.round = none) (hn : 3 ≤ n) (w : World) (Bs Bo : Nat) (sv : Value) (zs : List Int) (hreach : zs.length * 8 ≤ 140737488351232) (hBs : Bs < w.heap.size)
  (hc : w.cell? ⟨Bs, Bo, none⟩ = some sv) (hI : IntsAt w.heap.size w sv zs) :
  CallsIn F n Tryz.prog 115 #[.slice none 0 0, .func (.func 114) #[] #[.pointer (some ⟨Bs, Bo, none⟩)]] w fun e W' => (∃ v, e = .returned v ∧ W'.ownsRow w.heap.size 2 1 v zs.length (zs.map (Value.int .i64))) ∧ Below w.heap.size w W' := by
 have h1 : 1 ≤ n := by omega
 obtain ⟨i0, hi, hz0, hz1, hz2⟩ := info_parts info2
 refine callsIn_of_wp_marks Tryz.func115 rfl h3 ?_ hro
 simp only [Tryz.ntmps115, List.size_toArray, List.length_cons, List.length_nil, Nat.reduceAdd, Nat.reduceSub, Array.replicate_succ, Array.replicate_zero, List.push_toArray, List.append_toArray, List.nil_append, List.cons_append]
 gi_wp2
 have bS := Boxed.new w 39 (.slice none 0 0)
 have hB0 : Below w.heap.size w (w.alloc (.cells #[.slice none 0 0] 39)) := (Below.refl _ w).alloc (Nat.le_refl _) _
 refine wpIn_rangeFunc_ownG hro h1 (gf := 114) (lb := #[.pointer (some ⟨Bs, Bo, none⟩)]) rfl h7 (enters_of Tryz.func114 (by kernel_rfl) rfl)
  (values_stops F (n - 1) h7 hro (by omega) Bs Bo w.heap.size sv zs hreach w hBs (Nat.le_refl _) hc hI) belowK_t (belowK_b (by simp)) hB0 (fun _ => rfl)
  (SeqAt w w.heap.size)
  (fun _ _ _ => False)
  (seqAt_own w _ _ (by simp))
  (fun _ _ _ _ _ hs _ _ => hs)
  ⟨⟨.slice none 0 0, bS, ⟨rfl, .inl ⟨rfl, rfl⟩⟩, trivial⟩, hB0⟩
  (fun x => { tmps := #[.slice none 0 0, .func (.func 114) #[] #[.pointer (some ⟨Bs, Bo, none⟩)], .pointer (some ⟨w.heap.size, 0, none⟩), undef, .slice none 0 0, .int .i64 x, .func (.func 114) #[] #[.pointer (some ⟨Bs, Bo, none⟩)], .int .i64 x, undef, undef, undef, undef, undef], defers := [] }) ?assign ?body ?done ?stop
 case assign =>
  intro l x W K hK
  gi_wp2
  exact hK
 case body =>
  rintro l pre x W ⟨⟨v, hv, hrow, _⟩, hB⟩ hlen
  have hc2 := hv.cell
  have hf2 := hv.frozen
  gi_wp2_with (first
   | (gi_at_builtin; refine wpListIn_append_own _ rfl _ _ 39 rfl w.heap.size 2 i0 (.int .i64 0) 1 8 ty39 hi hz0 hz1 hz2 rfl (by decide) _ _ _ rfl (hrow.alloc _) ⟨W.heap.size, 0, none⟩ 1 1 [.int .i64 x] rfl rfl ?c1 ?c2 ?c3 ?c4 ?c5 ?_)
   | gi_in)
  case c1 =>
   intro j u hj
   match j, hj with
   | 0, hj => simp at hj; subst hj; simp [Addr.add]
  case c2 => intro u hu; simp at hu; subst hu; rfl
  case c3 => unfold maxLen; omega
  case c4 => omega
  case c5 => have := hB.size; simp; omega
  ·intro v' w1 hown' hgrow _
   obtain ⟨g, cap, rfl⟩ := ownsRow_succ hown'
   obtain ⟨b1, b2, b3, b4, b5⟩ := hv.appended (by decide : (39 : Nat) ≠ 2) hrow hB.size (Nat.le_refl _) hown' hgrow
   have hc1 := b1.cell
   have hf1 := b1.frozen
   clear hgrow hown'
   gi_wp2
   exact ⟨b4.from _, b5, ⟨⟨_, b2, by simpa using b3, trivial⟩, hB.trans b5⟩⟩
 case done =>
  rintro D ys W hD rfl ⟨⟨v, hv, hrow, _⟩, hB⟩ hK
  have hc2 := hv.cell
  have hf2 := hv.frozen
  gi_wp2
  refine ⟨by simp, .inl ⟨_, _, rfl, run_takeDeferred hK, ?_⟩⟩
  exact ⟨_, results_tmp rfl _ _ _, ⟨v, rfl, ownsRow_putObj hrow _ hK rfl⟩, hB.trans (belowK_b (w := w) (Nat.le_refl _) W D _ _ (by simp at hD; omega) hK rfl rfl)⟩
 case stop =>
  rintro D c pre W _ _ h _
  exact h.elim
end
theorem K12_ok (a0 : List Int) (q0 : List Int) (h : K12 a0 = some q0) : Ev Tryz.prog 115 [nilsl, fn (.func 114) [] [ptr [sl a0.length (a0.map i64)]]] [] (oref 0 0 0 q0.length) [oJ 0 q0] := by
 unfold K12 at h
 cases hd : decide ((a0.length : Int) * 8 ≤ 140737488351232) with
 | false => rw [hd] at h; cases h
 | true =>
  rw [hd] at h
  cases h
  have hb := of_decide_eq_true hd
  refine Ev.ownsRow (t := 2) fun S w vs hw ha => ?_
  obtain ⟨b, off, sv, rfl, h1, h2, h3⟩ := seq_args hw ha
  exact callsIn_wide.1 (appendSeq_in Fence.wide 3 trivial trivial rfl (Nat.le_refl _) w b off sv a0 (by omega) h1 h2 h3)
def K13 (a0 : List Int) : Option ((List Int)) :=
 obind (K12 a0) fun (r1 : List Int) =>
 some r1
theorem K13_ok (a0 : List Int) (q0 : List Int) (h : K13 a0 = some q0) : Ev Tryz.prog 112 [fn (.func 114) [] [ptr [sl a0.length (a0.map i64)]]] [] (oref 0 0 0 q0.length) [oJ 0 q0] := by
 refine yE Tryz.func112 1 11 0 ([(0, fn (.func 114) [] [ptr [sl a0.length (a0.map i64)]])]) [o0] rfl ?_
 unfold K13 at h
 refine zQ<|ya rfl nilsl<|zN ?_
 refine yS ?_
 obtain ⟨r1, hf1, h⟩ := oS h
 refine yW<|ym rfl (fn (.func 114) [] [ptr [sl a0.length (a0.map i64)]])<|ye rfl (oref 0 1 0 r1.length) [oJ 1 r1] (TOp.callBN (ls := [(r1.map i64)]) [0] (CallAs.func ent115 rfl rfl) (bP (Bors.cons (Bor.fn bN (Bors.cons (Bor.ptr (bS bN)) bN)) bN)) rfl (K12_ok a0 r1 hf1) (and_all (lts0_map (f := i64) (fun _ => rfl) _) rfl) (and_all (noss_map (f := i64) (fun _ => rfl) _) rfl) rfl (by decide) (ns_of ⟨⟨_, rfl⟩, trivial⟩))<|ya rfl (oref 0 1 0 r1.length)<|zN ?_
 refine RunC.ret ?_
 have hq := oI h
 subst q0
 exact yB (oref 0 1 0 r1.length) [(0, 1)] (Res.one rfl (RV.tmp rfl)) (SelL.arr0 (f := i64) (fun _ => rfl) rfl trivial)
def K14 (a0 : Int) : Option (Int) :=
 bsel (decide (4294967296 ≤ a0)) (
  none) (
  bsel (decide (65536 ≤ a0)) (
   none) (
   bsel (decide (256 ≤ a0)) (
    none) (
    olet (IntKind.u8.wrap a0) fun (x1 : Int) =>
    obind (sat? lit_77d67bd0 x1) fun (e2 : Int) =>
    olet (IntKind.i64.wrap e2) fun (x3 : Int) =>
    olet (IntKind.i64.wrap (0 + x3)) fun (x4 : Int) =>
    some x4)))
theorem K14_ok (a0 : Int) (q0 : Int) (h : K14 a0 = some q0) : Ev Tryz.prog 128 [ik .u64 a0] [] (i64 q0) [] := by
 refine yE Tryz.func128 0 51 0 [(0, ik .u64 a0)] [] rfl ?_
 unfold K14 at h
 refine zQ<|ya rfl (i64 0)<|zN ?_
 refine yS<|yS ?_
 rcases oB h with ⟨hc1, h⟩ | ⟨hc1, h⟩
 ·refine yW<|ym rfl (ik .u64 a0)<|yl rfl (b true) (LOp.eqb (LOp.geq rfl rfl rfl) hc1)<|zN ?_
  refine yT<|yS ?_
  cases h
 ·refine yW<|ym rfl (ik .u64 a0)<|yl rfl (b false) (LOp.eqb (LOp.geq rfl rfl rfl) hc1)<|zN ?_
  refine yF<|RunC.skip<|yS<|yS ?_
  rcases oB h with ⟨hc2, h⟩ | ⟨hc2, h⟩
  ·refine yW<|ym rfl (ik .u64 a0)<|yl rfl (b true) (LOp.eqb (LOp.geq rfl rfl rfl) hc2)<|zN ?_
   refine yT<|yS ?_
   cases h
  ·refine yW<|ym rfl (ik .u64 a0)<|yl rfl (b false) (LOp.eqb (LOp.geq rfl rfl rfl) hc2)<|zN ?_
   refine yF<|RunC.skip<|yS<|yS ?_
   rcases oB h with ⟨hc3, h⟩ | ⟨hc3, h⟩
   ·refine yW<|ym rfl (ik .u64 a0)<|yl rfl (b true) (LOp.eqb (LOp.geq rfl rfl rfl) hc3)<|zN ?_
    refine yT<|yS ?_
    cases h
   ·refine yW<|ym rfl (ik .u64 a0)<|yl rfl (b false) (LOp.eqb (LOp.geq rfl rfl rfl) hc3)<|zN ?_
    refine yF<|RunC.skip<|yS ?_
    obtain ⟨x1, hx4, h⟩ := oL h
    obtain ⟨e2, he5, h⟩ := oS h
    obtain ⟨x3, hx6, h⟩ := oL h
    obtain ⟨x4, hx7, h⟩ := oL h
    refine yW<|ym rfl (i64 0)<|ym rfl (ik .u64 a0)<|yl rfl (ik .u8 x1) (LOp.eqr (LOp.i2i (src := 87) (dst := 5) ⟨_, pun87⟩ pun5 rfl rfl) (congrArg (ik .u8) hx4))<|yl rfl (ik .u8 e2) (LOp.index_str und9 rfl rfl rfl he5)<|yl rfl (i64 x3) (LOp.eqr (LOp.i2i (src := 5) (dst := 3) ⟨_, pun5⟩ pun3 rfl rfl) (congrArg (ik .i64) hx6))<|yl rfl (i64 x4) (LOp.eqr (LOp.add rfl rfl rfl) (congrArg (ik .i64) hx7))<|ya rfl (i64 x4)<|zN ?_
    refine RunC.ret ?_
    have hq := oI h
    subst q0
    exact bR rfl
def K15 (a0 : Int) : Option (Int) :=
 obind (K14 a0) fun (r1 : Int) =>
 some r1
theorem K15_ok (a0 : Int) (q0 : Int) (h : K15 a0 = some q0) : Ev Tryz.prog 117 [ik .u64 a0] [] (i64 q0) [] := by
 refine yE Tryz.func117 0 17 0 [(0, ik .u64 a0)] [] rfl ?_
 unfold K15 at h
 refine zQ<|ya rfl (i64 0)<|zN ?_
 refine yS<|yF<|RunC.skip<|yS ?_
 obtain ⟨r1, hf1, h⟩ := oS h
 refine yW<|ym rfl (ik .u64 a0)<|yd rfl (i64 r1) (yc ent128 rfl rfl bN0 (K14_ok a0 r1 hf1))<|ya rfl (i64 r1)<|zN ?_
 refine RunC.ret ?_
 have hq := oI h
 subst q0
 exact bR rfl
def K16 (a0 : Int) : Option (Bool) :=
 some (!decide (a0 = a0))
theorem K16_ok (a0 : Int) (q0 : Bool) (h : K16 a0 = some q0) : Ev Tryz.prog 134 [i64 a0] [] (b q0) [] := by
 refine yE Tryz.func134 0 13 0 [(0, i64 a0)] [] rfl ?_
 unfold K16 at h
 refine zQ<|ya rfl (b false)<|zN ?_
 refine zQ<|ym rfl (i64 a0)<|ym rfl (i64 a0)<|yl rfl (b (!decide (a0 = a0))) (LOp.neq rfl rfl rfl)<|ya rfl (b (!decide (a0 = a0)))<|zN ?_
 refine RunC.ret ?_
 have hq := oI h
 subst q0
 exact bR rfl
def K17 (a0 : Int) (a1 : Int) : Option (Bool) :=
 obind (K16 a0) fun (r1 : Bool) =>
 bsel r1 (
  obind (K16 a1) fun (r2 : Bool) =>
  bsel r2 (
   some (decide (a0 < a1))) (
   some true)) (
  some (decide (a0 < a1)))
theorem K17_ok (a0 : Int) (a1 : Int) (q0 : Bool) (h : K17 a0 a1 = some q0) : Ev Tryz.prog 124 [i64 a0, i64 a1] [] (b q0) [] := by
 refine yE Tryz.func124 0 35 0 [(0, i64 a0), (1, i64 a1)] [] rfl ?_
 unfold K17 at h
 refine zQ<|ya rfl (b false)<|zN ?_
 refine yS ?_
 obtain ⟨r1, hf1, h⟩ := oS h
 rcases oB h with ⟨hc2, h⟩ | ⟨hc2, h⟩
 ·obtain ⟨r2, hf3, h⟩ := oS h
  rcases oB h with ⟨hc4, h⟩ | ⟨hc4, h⟩
  ·refine yW<|ym rfl (i64 a0)<|yd rfl (b true) (TOp.eqb (yc ent134 rfl rfl bN0 (K16_ok a0 r1 hf1)) hc2)<|ym rfl (b true)<|ym rfl (i64 a1)<|yd rfl (b true) (TOp.eqb (yc ent134 rfl rfl bN0 (K16_ok a1 r2 hf3)) hc4)<|yl rfl (b false) y1<|yl rfl (b false) yq<|ym rfl (b false)<|ym rfl (i64 a0)<|ym rfl (i64 a1)<|yl rfl (b (decide (a0 < a1))) (LOp.lss rfl rfl rfl)<|yl rfl (b (decide (a0 < a1))) yp<|ya rfl (b (decide (a0 < a1)))<|zN ?_
   refine RunC.ret ?_
   have hq := oI h
   subst q0
   exact bR rfl
  ·refine yW<|ym rfl (i64 a0)<|yd rfl (b true) (TOp.eqb (yc ent134 rfl rfl bN0 (K16_ok a0 r1 hf1)) hc2)<|ym rfl (b true)<|ym rfl (i64 a1)<|yd rfl (b false) (TOp.eqb (yc ent134 rfl rfl bN0 (K16_ok a1 r2 hf3)) hc4)<|yl rfl (b true) y0<|yl rfl (b true) yq<|ym rfl (b true)<|yR rfl<|yR rfl<|yR rfl<|yl rfl (b true) yq<|ya rfl (b true)<|zN ?_
   refine RunC.ret ?_
   have hq := oI h
   subst q0
   exact bR rfl
 ·refine yW<|ym rfl (i64 a0)<|yd rfl (b false) (TOp.eqb (yc ent134 rfl rfl bN0 (K16_ok a0 r1 hf1)) hc2)<|ym rfl (b false)<|yR rfl<|yR rfl<|yR rfl<|yl rfl (b false) yp<|ym rfl (b false)<|ym rfl (i64 a0)<|ym rfl (i64 a1)<|yl rfl (b (decide (a0 < a1))) (LOp.lss rfl rfl rfl)<|yl rfl (b (decide (a0 < a1))) yp<|ya rfl (b (decide (a0 < a1)))<|zN ?_
  refine RunC.ret ?_
  have hq := oI h
  subst q0
  exact bR rfl
def K18_b2 (a0 : Int) (L5 : List Int) (v7 : Int) : Option (LR ((List Int) × Int) ((List Int)) ((List Int))) :=
 bsel (decide (a0 < v7)) (
  obind (at? L5 v7) fun (e8 : Int) =>
  olet (IntKind.i64.wrap (v7 - 1)) fun (x9 : Int) =>
  obind (at? L5 x9) fun (e10 : Int) =>
  obind (K17 e8 e10) fun (r11 : Bool) =>
  bsel r11 (
   olet (IntKind.i64.wrap (v7 - 1)) fun (x12 : Int) =>
   olet (IntKind.i64.wrap (v7 - 1)) fun (x13 : Int) =>
   obind (at? L5 x13) fun (e14 : Int) =>
   obind (at? L5 v7) fun (e15 : Int) =>
   obind (setAt? L5 v7 e14) fun (L16 : List Int) =>
   obind (setAt? L16 x12 e15) fun (L17 : List Int) =>
   olet (IntKind.i64.wrap (v7 - 1)) fun (x18 : Int) =>
   some (LR.next (L17, x18))) (
   some (LR.out L5))) (
  some (LR.out L5))
def K18_s2 (a0 : Int) : ((List Int) × Int) → Option (LR ((List Int) × Int) ((List Int)) ((List Int))) := fun s => K18_b2 a0 s.1 s.2
def K18_k2 (v4 : Int) (L19 : List Int) : Option (LR ((List Int) × Int) ((List Int)) ((List Int))) :=
 olet (IntKind.i64.wrap (v4 + 1)) fun (x21 : Int) =>
 some (LR.next (L19, x21))
def K18_b3 (a0 : Int) (a1 : Int) (L2 : List Int) (v4 : Int) : Option (LR ((List Int) × Int) ((List Int)) ((List Int))) :=
 bsel (decide (v4 < a1)) (
  obind (loopM (K18_s2 a0) (L2, v4)) fun z => osum z (fun e => K18_k2 v4 e) (fun r => some (LR.ret r))) (
  some (LR.out L2))
def K18_s3 (a0 : Int) (a1 : Int) : ((List Int) × Int) → Option (LR ((List Int) × Int) ((List Int)) ((List Int))) := fun s => K18_b3 a0 a1 s.1 s.2
def K18_k3 (L22 : List Int) : Option ((List Int)) :=
 some L22
def K18 (a0 : Int) (a1 : Int) (a2 : List Int) : Option ((List Int)) :=
 olet (IntKind.i64.wrap (a0 + 1)) fun (x1 : Int) =>
 obind (loopM (K18_s3 a0 a1) (a2, x1)) fun z => osum z (fun e => K18_k3 e) (fun r => some r)
theorem K18_ok (a0 : Int) (a1 : Int) (a2 : List Int) (q0 : List Int) (h : K18 a0 a1 a2 = some q0) : Ev Tryz.prog 118 [oref 0 0 0 a2.length, i64 a0, i64 a1] [oJ 0 a2] (tup []) [oJ 0 q0] := by
 refine Ev.start Tryz.func118 rfl rfl 0 (τ := [(0, oref 0 0 0 a2.length), (1, i64 a0), (2, i64 a1)]) rfl (Γ' := [oJ 0 a2]) rfl (n := 98) rfl (g := 1) rfl (by decide) ?_
 unfold K18 at h
 refine yS ?_
 obtain ⟨x1, hx1, h⟩ := oL h
 refine yW<|ym rfl (i64 a0)<|yl rfl (i64 x1) (LOp.eqr (LOp.add rfl rfl rfl) (congrArg (ik .i64) hx1))<|ya rfl (i64 x1)<|zN ?_
 obtain ⟨z4, hz_4, h⟩ := oS h
 refine RunC.cutN (fun τ Γ => ∃ (L22 : List Int), L22.length = a2.length ∧ WeakLe τ [] ∧ DeadLe Γ [oJ 0 L22] ∧ z4 = .inl L22) ?_ ?_
 ·refine RunC.block (RunC.loop (RunL.loopM (x := z4) (K18_s3 a0 a1) (fun (s : (List Int) × Int) τ Γ => s.1.length = a2.length ∧ WeakLe τ [(0, oref 0 0 0 a2.length), (1, i64 a0), (2, i64 a1), (6, i64 s.2)] ∧ DeadLe Γ [⟨0, some (s.1.map i64)⟩]) ?_ _ _ _ hz_4 ⟨rfl, ⟨aR, aR, aR, aR, trivial⟩, ⟨⟨rfl, .inr rfl⟩, trivial⟩⟩))
  rintro ⟨L2, v4⟩ τ4 Γ4 y4_ ⟨hl3, hw4, hd4⟩ h4_ ho4 hr4
  refine RunC.wl (τ' := [(0, oref 0 0 0 a2.length), (1, i64 a0), (2, i64 a1), (6, i64 v4)]) (Γ' := [oJ 0 L2]) hw4 hd4 ?_
  replace hl3 : L2.length = a2.length := hl3
  replace h4_ : K18_b3 a0 a1 L2 v4 = some y4_ := h4_
  unfold K18_b3 at h4_
  refine yS<|yS ?_
  rcases oB h4_ with ⟨hc2, h4_⟩ | ⟨hc2, h4_⟩
  ·refine yW<|ym rfl (i64 v4)<|ym rfl (i64 a1)<|yl rfl (b true) (LOp.eqb (LOp.lss rfl rfl rfl) hc2)<|zN ?_
   refine yT<|RunC.skip<|yS<|RunC.block<|zQ<|ym rfl (i64 v4)<|ya rfl (i64 v4)<|zN ?_
   obtain ⟨z5, hz_5, h4_⟩ := oS h4_
   refine RunC.cutN (fun τ Γ => ∃ (L19 : List Int), L19.length = a2.length ∧ WeakLe τ [(0, oref 0 0 0 a2.length), (1, i64 a0), (2, i64 a1), (6, i64 v4)] ∧ DeadLe Γ [oJ 0 L19] ∧ z5 = .inl L19) ?_ ?_
   ·refine RunC.block (RunC.loop (RunL.loopM (x := z5) (K18_s2 a0) (fun (s : (List Int) × Int) τ Γ => s.1.length = a2.length ∧ WeakLe τ [(0, oref 0 0 0 a2.length), (1, i64 a0), (2, i64 a1), (6, i64 v4), (7, i64 s.2)] ∧ DeadLe Γ [⟨0, some (s.1.map i64)⟩]) ?_ _ _ _ hz_5 ⟨hl3, ⟨aR, aR, aR, aR, aR, trivial⟩, ⟨⟨rfl, .inr rfl⟩, trivial⟩⟩))
    rintro ⟨L5, v7⟩ τ5 Γ5 y5_ ⟨hl6, hw5, hd5⟩ h5_ ho5 hr5
    refine RunC.wl (τ' := [(0, oref 0 0 0 a2.length), (1, i64 a0), (2, i64 a1), (6, i64 v4), (7, i64 v7)]) (Γ' := [oJ 0 L5]) hw5 hd5 ?_
    replace hl6 : L5.length = a2.length := hl6
    replace h5_ : K18_b2 a0 L5 v7 = some y5_ := h5_
    unfold K18_b2 at h5_
    refine yS<|yS ?_
    rcases oB h5_ with ⟨hc3, h5_⟩ | ⟨hc3, h5_⟩
    ·obtain ⟨e8, he4, h5_⟩ := oS h5_
     obtain ⟨x9, hx5, h5_⟩ := oL h5_
     obtain ⟨e10, he6, h5_⟩ := oS h5_
     obtain ⟨r11, hf7, h5_⟩ := oS h5_
     rcases oB h5_ with ⟨hc8, h5_⟩ | ⟨hc8, h5_⟩
     ·refine RunC.region_draw (Γ' := [oJ 0 L5]) 15 mixed 
       (tm rfl (i64 v7) <|
       (tm rfl (i64 a0) <|
       (tl rfl (b true) (LOp.eqb (LOp.gtr rfl rfl rfl) hc3) <|
       (tm rfl (b true) <|
       (tm rfl (oref 0 0 0 a2.length) <|
       (tm rfl (i64 v7) <|
       (TR.d (r := optr 0 0 v7.toNat) (fs := []) rfl rfl (TOp.ixo und39 siz2 rfl rfl rfl (at_in he4 hl6) rfl) <|
       (TR.d (r := i64 e8) (fs := []) rfl rfl (TOp.load1_o rfl (at_cell he4) agg2 rfl rfl) <|
       (tm rfl (oref 0 0 0 a2.length) <|
       (tm rfl (i64 v7) <|
       (tl rfl (i64 x9) (LOp.eqr (LOp.sub rfl rfl rfl) (congrArg (ik .i64) hx5)) <|
       (TR.d (r := optr 0 0 x9.toNat) (fs := []) rfl rfl (TOp.ixo und39 siz2 rfl rfl rfl (at_in he6 hl6) rfl) <|
       (TR.d (r := i64 e10) (fs := []) rfl rfl (TOp.load1_o rfl (at_cell he6) agg2 rfl rfl) <|
       (TR.d (r := b true) (fs := []) rfl rfl (TOp.eqb (yc ent124 rfl rfl (bP bN0) (K17_ok e8 e10 r11 hf7)) hc8) <|
       (tl rfl (b true) yq <|
       TR.nil))))))))))))))) rfl (by kernel_rfl) rfl fills_nil rfl ?_
      iterate 15 refine ROps.dropS ?_
      refine ROps.drop0<|zN ?_
      refine yT<|RunC.skip<|yS<|RunC.block ?_
      obtain ⟨x12, hx9, h5_⟩ := oL h5_
      obtain ⟨x13, hx10, h5_⟩ := oL h5_
      obtain ⟨e14, he11, h5_⟩ := oS h5_
      obtain ⟨e15, he12, h5_⟩ := oS h5_
      obtain ⟨L16, he13, h5_⟩ := oS h5_
      obtain ⟨L17, he14, h5_⟩ := oS h5_
      refine RunC.region_draw (Γ' := [oJ 0 L5]) 15 mixed 
       (tm rfl (oref 0 0 0 a2.length) <|
       (tm rfl (i64 v7) <|
       (TR.loose (r := oref 0 0 0 a2.length) rfl rfl (LOp.move rfl rfl) <|
       (TR.loose (r := i64 v7) rfl rfl (LOp.move rfl rfl) <|
       (TR.loose (r := i64 x12) rfl rfl (LOp.eqr (LOp.sub rfl rfl rfl) (congrArg (ik .i64) hx9)) <|
       (tm rfl (oref 0 0 0 a2.length) <|
       (tm rfl (i64 v7) <|
       (tl rfl (i64 x13) (LOp.eqr (LOp.sub rfl rfl rfl) (congrArg (ik .i64) hx10)) <|
       (TR.d (r := optr 0 0 x13.toNat) (fs := []) rfl rfl (TOp.ixo und39 siz2 rfl rfl rfl (at_in he11 hl6) rfl) <|
       (TR.d (r := i64 e14) (fs := []) rfl rfl (TOp.load1_o rfl (at_cell he11) agg2 rfl rfl) <|
       (tm rfl (oref 0 0 0 a2.length) <|
       (tm rfl (i64 v7) <|
       (TR.d (r := optr 0 0 v7.toNat) (fs := []) rfl rfl (TOp.ixo und39 siz2 rfl rfl rfl (at_in he12 hl6) rfl) <|
       (TR.d (r := i64 e15) (fs := []) rfl rfl (TOp.load1_o rfl (at_cell he12) agg2 rfl rfl) <|
       (TR.d (r := optr 0 0 v7.toNat) (fs := []) rfl rfl (TOp.ixo und39 siz2 rfl rfl rfl (set_in he13 hl6) rfl) <|
       TR.nil))))))))))))))) rfl (by kernel_rfl) rfl fills_nil rfl ?_
      iterate 15 refine ROps.dropS ?_
      refine ROps.drop0<|ROps.st (f := i64) (i := v7) (Γ' := [oJ 0 L16]) rfl siz2 rfl rfl rfl aR rfl rfl rfl he13 rfl<|yd rfl (optr 0 0 x12.toNat) (TOp.ixo und39 siz2 rfl rfl rfl (set_in he14 ((setAt?_len he13).trans hl6)) rfl)<|ROps.st (f := i64) (i := x12) (Γ' := [oJ 0 L17]) rfl siz2 rfl rfl rfl aR rfl rfl rfl he14 rfl<|zN ?_
      refine RunC.wl (τ' := [(0, oref 0 0 0 a2.length), (1, i64 a0), (2, i64 a1), (6, i64 v4), (7, i64 v7), (20, oref 0 0 0 a2.length), (21, i64 v7), (22, optr 0 0 v7.toNat), (23, i64 e8), (24, oref 0 0 0 a2.length), (25, i64 v7), (26, i64 x9), (27, optr 0 0 x9.toNat), (28, i64 e10), (29, b true)]) (Γ' := [oJ 0 L17]) ⟨aR, aR, aR, aR, aR, aR, aR, aR, aR, aR, aR, aR, aR, aR, aR, trivial⟩ ⟨⟨rfl, .inr rfl⟩, trivial⟩ ?_
      obtain ⟨x18, hx15, h5_⟩ := oL h5_
      refine yW<|ym rfl (i64 v7)<|yl rfl (i64 x18) (LOp.eqr (LOp.sub rfl rfl rfl) (congrArg (ik .i64) hx15))<|ya rfl (i64 x18)<|zN ?_
      cases oI h5_
      exact ⟨_, rfl, ((setAt?_len he14).trans ((setAt?_len he13).trans hl6)), ⟨aR, aR, aR, aR, aR, trivial⟩, ⟨⟨rfl, .inr rfl⟩, trivial⟩⟩
     ·refine RunC.region_draw (Γ' := [oJ 0 L5]) 15 mixed 
       (tm rfl (i64 v7) <|
       (tm rfl (i64 a0) <|
       (tl rfl (b true) (LOp.eqb (LOp.gtr rfl rfl rfl) hc3) <|
       (tm rfl (b true) <|
       (tm rfl (oref 0 0 0 a2.length) <|
       (tm rfl (i64 v7) <|
       (TR.d (r := optr 0 0 v7.toNat) (fs := []) rfl rfl (TOp.ixo und39 siz2 rfl rfl rfl (at_in he4 hl6) rfl) <|
       (TR.d (r := i64 e8) (fs := []) rfl rfl (TOp.load1_o rfl (at_cell he4) agg2 rfl rfl) <|
       (tm rfl (oref 0 0 0 a2.length) <|
       (tm rfl (i64 v7) <|
       (tl rfl (i64 x9) (LOp.eqr (LOp.sub rfl rfl rfl) (congrArg (ik .i64) hx5)) <|
       (TR.d (r := optr 0 0 x9.toNat) (fs := []) rfl rfl (TOp.ixo und39 siz2 rfl rfl rfl (at_in he6 hl6) rfl) <|
       (TR.d (r := i64 e10) (fs := []) rfl rfl (TOp.load1_o rfl (at_cell he6) agg2 rfl rfl) <|
       (TR.d (r := b false) (fs := []) rfl rfl (TOp.eqb (yc ent124 rfl rfl (bP bN0) (K17_ok e8 e10 r11 hf7)) hc8) <|
       (tl rfl (b false) yq <|
       TR.nil))))))))))))))) rfl (by kernel_rfl) rfl fills_nil rfl ?_
      iterate 15 refine ROps.dropS ?_
      refine ROps.drop0<|zN ?_
      refine yF<|RunC.exit ?_
      cases oI h5_
      have hx := ho5 _ rfl
      exact ⟨L5, hl6, ⟨aR, aR, aR, aR, trivial⟩, ⟨⟨rfl, .inr rfl⟩, trivial⟩, hx⟩
    ·refine RunC.region_draw (Γ' := [oJ 0 L5]) 15 mixed 
      (tm rfl (i64 v7) <|
      (tm rfl (i64 a0) <|
      (tl rfl (b false) (LOp.eqb (LOp.gtr rfl rfl rfl) hc3) <|
      (tm rfl (b false) <|
      (ts rfl <|
      (ts rfl <|
      (ts rfl <|
      (ts rfl <|
      (ts rfl <|
      (ts rfl <|
      (ts rfl <|
      (ts rfl <|
      (ts rfl <|
      (ts rfl <|
      (tl rfl (b false) yp <|
      TR.nil))))))))))))))) rfl (by kernel_rfl) rfl fills_nil rfl ?_
     iterate 15 refine ROps.dropS ?_
     refine ROps.drop0<|zN ?_
     refine yF<|RunC.exit ?_
     cases oI h5_
     have hx := ho5 _ rfl
     exact ⟨L5, hl6, ⟨aR, aR, aR, aR, trivial⟩, ⟨⟨rfl, .inr rfl⟩, trivial⟩, hx⟩
   ·rintro τ6 Γ6 ⟨L19, hl20, hw6, hd6, rfl⟩
    refine RunC.wl hw6 hd6 ?_
    replace h4_ : K18_k2 v4 L19 = some y4_ := h4_
    unfold K18_k2 at h4_
    obtain ⟨x21, hx16, h4_⟩ := oL h4_
    refine yW<|ym rfl (i64 v4)<|yl rfl (i64 x21) (LOp.eqr (LOp.add rfl rfl rfl) (congrArg (ik .i64) hx16))<|ya rfl (i64 x21)<|zN ?_
    cases oI h4_
    exact ⟨_, rfl, hl20, ⟨aR, aR, aR, aR, trivial⟩, ⟨⟨rfl, .inr rfl⟩, trivial⟩⟩
  ·refine yW<|ym rfl (i64 v4)<|ym rfl (i64 a1)<|yl rfl (b false) (LOp.eqb (LOp.lss rfl rfl rfl) hc2)<|zN ?_
   refine yF<|RunC.exit ?_
   cases oI h4_
   have hx := ho4 _ rfl
   exact ⟨L2, hl3, trivial, ⟨⟨rfl, .inr rfl⟩, trivial⟩, hx⟩
 ·rintro τ7 Γ7 ⟨L22, hl23, hw7, hd7, rfl⟩
  replace h : K18_k3 L22 = some q0 := h
  unfold K18_k3 at h
  refine bodyQ.wl hw7 hd7 ?_
  have hq := oI h
  subst q0
  exact yB (tup []) [(0, 0)] (Res.zero rfl) (SelL.arr (f := i64) (fun _ => rfl) rfl trivial)
def K19_b1 (a0 : Int) (a1 : Int) (a2 : Int) (a3 : List Int) : Option (LR (Unit) (Unit) ((List Int))) :=
 olet (IntKind.i64.wrap (a1 - a0)) fun (x1 : Int) =>
 bsel (decide (x1 ≤ 12)) (
  obind (K18 a0 a1 a3) fun (r2 : List Int) =>
  need (decide (r2.length = a3.length)) <|
  some (LR.ret r2)) (
  bsel (decide (a2 = 0)) (
   none) (
   none))
def K19_s1 (a0 : Int) (a1 : Int) (a2 : Int) (a3 : List Int) : (Unit) → Option (LR (Unit) (Unit) ((List Int))) := fun s => K19_b1 a0 a1 a2 a3
def K19 (a0 : Int) (a1 : Int) (a2 : Int) (a3 : List Int) : Option ((List Int)) :=
 obind (loopM (K19_s1 a0 a1 a2 a3) ()) fun z => osum z (fun _ => none) (fun r => some r)
theorem K19_ok (a0 : Int) (a1 : Int) (a2 : Int) (a3 : List Int) (q0 : List Int) (h : K19 a0 a1 a2 a3 = some q0) : Ev Tryz.prog 116 [oref 0 0 0 a3.length, i64 a0, i64 a1, i64 a2] [oJ 0 a3] (tup []) [oJ 0 q0] := by
 refine Ev.start Tryz.func116 rfl rfl 0 (τ := [(0, oref 0 0 0 a3.length), (1, i64 a0), (2, i64 a1), (3, i64 a2)]) rfl (Γ' := [oJ 0 a3]) rfl (n := 268) rfl (g := 1) rfl (by decide) ?_
 unfold K19 at h
 refine zQ<|ya rfl (b true)<|zN ?_
 refine zQ<|ya rfl (b true)<|zN ?_
 obtain ⟨z2, hz_2, h⟩ := oS h
 refine RunC.block (RunC.loop (RunL.loopM (x := z2) (K19_s1 a0 a1 a2 a3) (fun (s : Unit) τ Γ => WeakLe τ [(0, oref 0 0 0 a3.length), (1, i64 a0), (2, i64 a1), (3, i64 a2), (8, b true), (9, b true)] ∧ DeadLe Γ [oJ 0 a3]) ?_ _ _ _ hz_2 ⟨⟨aR, aR, aR, aR, aR, aR, trivial⟩, ⟨⟨rfl, .inr rfl⟩, trivial⟩⟩))
 rintro ⟨⟩ τ2 Γ2 y2_ ⟨hw2, hd2⟩ h2_ ho2 hr2
 refine RunC.wl (τ' := [(0, oref 0 0 0 a3.length), (1, i64 a0), (2, i64 a1), (3, i64 a2), (8, b true), (9, b true)]) (Γ' := [oJ 0 a3]) hw2 hd2 ?_
 replace h2_ : K19_b1 a0 a1 a2 a3 = some y2_ := h2_
 unfold K19_b1 at h2_
 refine RunC.block<|yS ?_
 obtain ⟨x1, hx1, h2_⟩ := oL h2_
 refine yW<|ym rfl (i64 a1)<|ym rfl (i64 a0)<|yl rfl (i64 x1) (LOp.eqr (LOp.sub rfl rfl rfl) (congrArg (ik .i64) hx1))<|ya rfl (i64 x1)<|zN ?_
 refine yS<|yS ?_
 rcases oB h2_ with ⟨hc2, h2_⟩ | ⟨hc2, h2_⟩
 ·refine yW<|ym rfl (i64 x1)<|yl rfl (b true) (LOp.eqb (LOp.leq rfl rfl rfl) hc2)<|zN ?_
  refine yT<|yS ?_
  obtain ⟨r2, hf3, h2_⟩ := oS h2_
  obtain ⟨hn4, h2_⟩ := need_some h2_
  refine yW<|ym rfl (oref 0 0 0 a3.length)<|ym rfl (i64 a0)<|ym rfl (i64 a1)<|ROps.callO (A := [oref 0 0 0 a3.length, i64 a0, i64 a1]) (args := [oref 0 0 0 a3.length, i64 a0, i64 a1]) (Γc := [oJ 0 a3]) (Γc' := [oJ 0 r2]) (r' := tup []) (Γ' := [oJ 0 r2]) [(0, 0)] [] rfl (CallAs.func ent118 rfl rfl) rfl rfl (SelOk.of (ndB_ok rfl) (SelL.arr0 (f := i64) (fun _ => rfl) rfl trivial)) (live_of ⟨⟨_, _, rfl⟩, trivial⟩) (by simp [ren, rens, sigma, rens_f32, rens_f64, rens_i64, rens_ik, rens_str, rens_cp]) rfl (K18_ok a0 a1 a3 r2 hf3) rfl (news_of trivial) (ndB_ok rfl) (by simp [ren, rens, sigma, of_decide_eq_true hn4]) (by simp [backOb, sigma, ren, rens, rens_f32, rens_f64, rens_i64, rens_ik, rens_str, rens_cp] <;> omega)<|zN ?_
  refine RunC.ret ?_
  cases oI h2_
  have hx3_ := hr2 _ rfl
  subst hx3_
  have hq := oI h
  subst q0
  exact yB (tup []) [(0, 0)] (Res.zero rfl) (SelL.arr (f := i64) (fun _ => rfl) rfl trivial)
 ·refine yW<|ym rfl (i64 x1)<|yl rfl (b false) (LOp.eqb (LOp.leq rfl rfl rfl) hc2)<|zN ?_
  refine yF<|RunC.skip<|yS<|yS ?_
  rcases oB h2_ with ⟨hc5, h2_⟩ | ⟨hc5, h2_⟩
  ·refine yW<|ym rfl (i64 a2)<|yl rfl (b true) (LOp.eqb (LOp.eql rfl rfl rfl) hc5)<|zN ?_
   refine yT<|yS ?_
   cases h2_
  ·refine yW<|ym rfl (i64 a2)<|yl rfl (b false) (LOp.eqb (LOp.eql rfl rfl rfl) hc5)<|zN ?_
   refine yF<|RunC.skip<|yS<|zQ<|ym rfl (b true)<|yl rfl (b false) y1<|zN ?_
   refine yF<|RunC.skip<|yS ?_
   cases h2_
def K1a (a0 : List Int) : Option ((List Int)) :=
 olet (IntKind.u64.wrap ((a0.length : Nat) : Int)) fun (x1 : Int) =>
 obind (K15 x1) fun (r2 : Int) =>
 obind (K19 0 ((a0.length : Nat) : Int) r2 a0) fun (r3 : List Int) =>
 need (decide (r3.length = a0.length)) <|
 some r3
theorem K1a_ok (a0 : List Int) (q0 : List Int) (h : K1a a0 = some q0) : Ev Tryz.prog 113 [oref 0 0 0 a0.length] [oJ 0 a0] (tup []) [oJ 0 q0] := by
 refine Ev.start Tryz.func113 rfl rfl 0 (τ := [(0, oref 0 0 0 a0.length)]) rfl (Γ' := [oJ 0 a0]) rfl (n := 22) rfl (g := 1) rfl (by decide) ?_
 unfold K1a at h
 refine zQ<|ym rfl (oref 0 0 0 a0.length)<|yl rfl (i64 ((a0.length : Nat) : Int)) (LOp.len_oref und39 rfl rfl)<|ya rfl (i64 ((a0.length : Nat) : Int))<|zN ?_
 obtain ⟨x1, hx1, h⟩ := oL h
 obtain ⟨r2, hf2, h⟩ := oS h
 obtain ⟨r3, hf3, h⟩ := oS h
 obtain ⟨hn4, h⟩ := need_some h
 refine yW<|ym rfl (oref 0 0 0 a0.length)<|ym rfl (i64 ((a0.length : Nat) : Int))<|ym rfl (i64 ((a0.length : Nat) : Int))<|yl rfl (ik .u64 x1) (LOp.eqr (LOp.i2i (src := 3) (dst := 110) ⟨_, pun3⟩ pun110 rfl rfl) (congrArg (ik .u64) hx1))<|yd rfl (i64 r2) (yc ent117 rfl rfl bN0 (K15_ok x1 r2 hf2))<|ROps.callO (A := [oref 0 0 0 a0.length, i64 0, i64 ((a0.length : Nat) : Int), i64 r2]) (args := [oref 0 0 0 a0.length, i64 0, i64 ((a0.length : Nat) : Int), i64 r2]) (Γc := [oJ 0 a0]) (Γc' := [oJ 0 r3]) (r' := tup []) (Γ' := [oJ 0 r3]) [(0, 0)] [] rfl (CallAs.func ent116 rfl rfl) rfl rfl (SelOk.of (ndB_ok rfl) (SelL.arr0 (f := i64) (fun _ => rfl) rfl trivial)) (live_of ⟨⟨_, _, rfl⟩, trivial⟩) (by simp [ren, rens, sigma, rens_f32, rens_f64, rens_i64, rens_ik, rens_str, rens_cp]) rfl (K19_ok 0 ((a0.length : Nat) : Int) r2 a0 r3 hf3) rfl (news_of trivial) (ndB_ok rfl) (by simp [ren, rens, sigma, of_decide_eq_true hn4]) (by simp [backOb, sigma, ren, rens, rens_f32, rens_f64, rens_i64, rens_ik, rens_str, rens_cp] <;> omega)<|zN ?_
 have hq := oI h
 subst q0
 exact yB (tup []) [(0, 0)] (Res.zero rfl) (SelL.arr (f := i64) (fun _ => rfl) rfl trivial)
def K1b (a0 : List Int) : Option ((List Int)) :=
 obind (K13 a0) fun (r1 : List Int) =>
 obind (K1a r1) fun (r2 : List Int) =>
 need (decide (r2.length = r1.length)) <|
 some r2
theorem K1b_ok (a0 : List Int) (q0 : List Int) (h : K1b a0 = some q0) : Ev Tryz.prog 109 [fn (.func 114) [] [ptr [sl a0.length (a0.map i64)]]] [] (oref 0 0 0 q0.length) [oJ 0 q0] := by
 refine yE Tryz.func109 1 19 0 ([(0, fn (.func 114) [] [ptr [sl a0.length (a0.map i64)]])]) [o0] rfl ?_
 unfold K1b at h
 refine zQ<|ya rfl nilsl<|zN ?_
 refine yS ?_
 obtain ⟨r1, hf1, h⟩ := oS h
 refine yW<|ym rfl (fn (.func 114) [] [ptr [sl a0.length (a0.map i64)]])<|ye rfl (oref 0 1 0 r1.length) [oJ 1 r1] (TOp.callBN (ls := [(r1.map i64)]) [0] (CallAs.func ent112 rfl rfl) (Bors.cons (Bor.fn bN (Bors.cons (Bor.ptr (bS bN)) bN)) bN) rfl (K13_ok a0 r1 hf1) (and_all (lts0_map (f := i64) (fun _ => rfl) _) rfl) (and_all (noss_map (f := i64) (fun _ => rfl) _) rfl) rfl (by decide) (ns_of ⟨⟨_, rfl⟩, trivial⟩))<|ya rfl (oref 0 1 0 r1.length)<|zN ?_
 refine yS ?_
 obtain ⟨r2, hf2, h⟩ := oS h
 obtain ⟨hn3, h⟩ := need_some h
 refine yW<|ym rfl (oref 0 1 0 r1.length)<|ROps.callO (A := [oref 0 1 0 r1.length]) (args := [oref 0 0 0 r1.length]) (Γc := [oJ 0 r1]) (Γc' := [oJ 0 r2]) (r' := tup []) (Γ' := [oJ 1 r2]) [(0, 1)] [] rfl (CallAs.func ent113 rfl rfl) rfl rfl (SelOk.of (ndB_ok rfl) (SelL.arr0 (f := i64) (fun _ => rfl) rfl trivial)) (live_of ⟨⟨_, _, rfl⟩, trivial⟩) (by simp [ren, rens, sigma, rens_f32, rens_f64, rens_i64, rens_ik, rens_str, rens_cp]) rfl (K1a_ok r1 r2 hf2) rfl (news_of trivial) (ndB_ok rfl) (by simp [ren, rens, sigma, of_decide_eq_true hn3]) (by simp [backOb, sigma, ren, rens, rens_f32, rens_f64, rens_i64, rens_ik, rens_str, rens_cp] <;> omega)<|zN ?_
 refine zQ<|ym rfl (oref 0 1 0 r1.length)<|ya rfl (oref 0 1 0 r1.length)<|zN ?_
 refine RunC.ret ?_
 have hq := oI h
 subst q0
 exact yB (oref 0 1 0 r2.length) [(0, 1)] (Res.eq (Res.one rfl (RV.tmp rfl)) (by first | rfl | (rw [(show r2.length = r1.length from (of_decide_eq_true hn3))] <;> rfl))) (SelL.arr0 (f := i64) (fun _ => rfl) rfl trivial)
def K1c_b1 (r2 : List Int) (v3 : Int) : Option (LR (Int) (Unit) (Bool)) :=
 bsel (decide (v3 < ((r2.length : Nat) : Int))) (
  obind (at? r2 v3) fun (e4 : Int) =>
  bsel (!decide (e4 = v3)) (
   some (LR.ret false)) (
   olet (IntKind.i64.wrap (v3 + 1)) fun (x5 : Int) =>
   some (LR.next x5))) (
  some (LR.out ()))
def K1c_s1 (r2 : List Int) : (Int) → Option (LR (Int) (Unit) (Bool)) := fun s => K1c_b1 r2 s
def K1c_k1  : Option (Bool) :=
 some true
def K1c (a0 : List Int) : Option (Bool) :=
 obind (K11 a0) fun (r1 : List Int) =>
 obind (K1b r1) fun (r2 : List Int) =>
 obind (loopM (K1c_s1 r2) 0) fun z => osum z (fun _ => K1c_k1) (fun r => some r)
theorem K1c_ok (a0 : List Int) (q0 : Bool) (h : K1c a0 = some q0) : Ev Tryz.prog 106 [sl a0.length (a0.map i64)] [] (b q0) [] := by
 refine yE Tryz.func106 1 37 0 [(0, sl a0.length (a0.map i64))] [o0] rfl ?_
 unfold K1c at h
 refine zQ<|ya rfl (b false)<|zN ?_
 refine yS<|yS ?_
 obtain ⟨r1, hf1, h⟩ := oS h
 obtain ⟨r2, hf2, h⟩ := oS h
 refine yW<|ym rfl (sl a0.length (a0.map i64))<|yd rfl (fn (.func 114) [] [ptr [sl r1.length (r1.map i64)]]) (TOp.call (CallAs.func ent110 rfl rfl) (lts_cons (lt_sl (fun _ => rfl)) lts_nil) (lt_fn lts_nil (lts_cons (lt_ptr (lts_cons (lt_sl (fun _ => rfl)) lts_nil)) lts_nil)) (K11_ok a0 r1 hf1))<|ye rfl (oref 0 1 0 r2.length) [oJ 1 r2] (TOp.callBN (ls := [(r2.map i64)]) [0] (CallAs.func ent109 rfl rfl) (Bors.cons (Bor.fn bN (Bors.cons (Bor.ptr (bS bN)) bN)) bN) rfl (K1b_ok r1 r2 hf2) (and_all (lts0_map (f := i64) (fun _ => rfl) _) rfl) (and_all (noss_map (f := i64) (fun _ => rfl) _) rfl) rfl (by decide) (ns_of ⟨⟨_, rfl⟩, trivial⟩))<|yl rfl (i64 ((r2.length : Nat) : Int)) (LOp.len_oref und39 rfl rfl)<|ym rfl (i64 0)<|zN ?_
 obtain ⟨z2, hz_2, h⟩ := oS h
 refine RunC.cutN (fun τ Γ => WeakLe τ [] ∧ DeadLe Γ [⟨1, none⟩] ∧ z2 = .inl ()) ?_ ?_
 ·refine RunC.block (RunC.loop (RunL.loopM (x := z2) (K1c_s1 r2) (fun (s : Int) τ Γ => WeakLe τ [(7, oref 0 1 0 r2.length), (8, i64 ((r2.length : Nat) : Int)), (9, i64 s)] ∧ DeadLe Γ [oJ 1 r2]) ?_ _ _ _ hz_2 ⟨⟨aR, aR, aR, trivial⟩, ⟨⟨rfl, .inr rfl⟩, trivial⟩⟩))
  rintro v3 τ2 Γ2 y2_ ⟨hw2, hd2⟩ h2_ ho2 hr2
  refine RunC.wl (τ' := [(7, oref 0 1 0 r2.length), (8, i64 ((r2.length : Nat) : Int)), (9, i64 v3)]) (Γ' := [oJ 1 r2]) hw2 hd2 ?_
  replace h2_ : K1c_b1 r2 v3 = some y2_ := h2_
  unfold K1c_b1 at h2_
  refine yS ?_
  rcases oB h2_ with ⟨hc3, h2_⟩ | ⟨hc3, h2_⟩
  ·refine yW<|yl rfl (b true) (LOp.eqb (LOp.lss rfl rfl rfl) hc3)<|zN ?_
   refine yS<|yT<|RunC.skip<|yS<|RunC.block<|yS ?_
   obtain ⟨e4, he4, h2_⟩ := oS h2_
   refine yW<|ym rfl (i64 v3)<|yd rfl (optr 0 1 v3.toNat) (TOp.ixo und39 siz2 rfl rfl rfl (at_in he4 rfl) rfl)<|yd rfl (i64 e4) (TOp.load1_o rfl (at_cell he4) agg2 rfl rfl)<|ya rfl (i64 v3)<|ya rfl (i64 e4)<|zN ?_
   refine yS ?_
   rcases oB h2_ with ⟨hc5, h2_⟩ | ⟨hc5, h2_⟩
   ·refine yW<|ym rfl (i64 e4)<|ym rfl (i64 v3)<|yl rfl (b true) (LOp.eqb (LOp.neq rfl rfl rfl) hc5)<|zN ?_
    refine yT<|zQ<|ya rfl (b false)<|zN ?_
    refine RunC.ret ?_
    cases oI h2_
    have hx3_ := hr2 _ rfl
    subst hx3_
    have hq := oI h
    subst q0
    exact bR rfl
   ·refine yW<|ym rfl (i64 e4)<|ym rfl (i64 v3)<|yl rfl (b false) (LOp.eqb (LOp.neq rfl rfl rfl) hc5)<|zN ?_
    refine yF<|RunC.skip ?_
    obtain ⟨x5, hx6, h2_⟩ := oL h2_
    refine yW<|yl rfl (i64 x5) (LOp.eqr (LOp.add rfl rfl rfl) (congrArg (ik .i64) hx6))<|ym rfl (i64 x5)<|zN ?_
    cases oI h2_
    exact ⟨_, rfl, ⟨aR, aR, aR, trivial⟩, ⟨⟨rfl, .inr rfl⟩, trivial⟩⟩
  ·refine yW<|yl rfl (b false) (LOp.eqb (LOp.lss rfl rfl rfl) hc3)<|zN ?_
   refine yS<|yF<|RunC.exit ?_
   cases oI h2_
   have hx := ho2 _ rfl
   exact ⟨trivial, ⟨⟨rfl, .inl rfl⟩, trivial⟩, hx⟩
 ·rintro τ4 Γ4 ⟨hw4, hd4, rfl⟩
  refine RunC.wl hw4 hd4 ?_
  replace h : K1c_k1 = some q0 := h
  unfold K1c_k1 at h
  refine zQ<|ya rfl (b true)<|zN ?_
  refine RunC.ret ?_
  have hq := oI h
  subst q0
  exact bR rfl
def K1d (a0 : List Int) : Option (Bool) :=
 obind (K10 a0) fun (r1 : Int) =>
 obind (K09 r1) fun (r2 : Bool) =>
 bsel r2 (
  obind (K1c a0) fun (r3 : Bool) =>
  some r3) (
  some false)
theorem K1d_ok (a0 : List Int) (q0 : Bool) (h : K1d a0 = some q0) : Ev Tryz.prog 90 [sl a0.length (a0.map i64)] [] (b q0) [] := by
 refine yE Tryz.func90 0 21 0 [(0, sl a0.length (a0.map i64))] [] rfl ?_
 unfold K1d at h
 refine zQ<|ya rfl (b false)<|zN ?_
 refine yS ?_
 obtain ⟨r1, hf1, h⟩ := oS h
 obtain ⟨r2, hf2, h⟩ := oS h
 rcases oB h with ⟨hc3, h⟩ | ⟨hc3, h⟩
 ·obtain ⟨r3, hf4, h⟩ := oS h
  refine yW<|ym rfl (sl a0.length (a0.map i64))<|yd rfl (i64 r1) (yc ent91 rfl rfl (bS bN) (K10_ok a0 r1 hf1))<|yd rfl (b true) (TOp.eqb (yc ent76 rfl rfl bN0 (K09_ok r1 r2 hf2)) hc3)<|ym rfl (b true)<|ym rfl (sl a0.length (a0.map i64))<|yd rfl (b r3) (yc ent106 rfl rfl (bS bN) (K1c_ok a0 r3 hf4))<|yl rfl (b r3) yq<|ya rfl (b r3)<|zN ?_
  refine RunC.ret ?_
  have hq := oI h
  subst q0
  exact bR rfl
 ·refine yW<|ym rfl (sl a0.length (a0.map i64))<|yd rfl (i64 r1) (yc ent91 rfl rfl (bS bN) (K10_ok a0 r1 hf1))<|yd rfl (b false) (TOp.eqb (yc ent76 rfl rfl bN0 (K09_ok r1 r2 hf2)) hc3)<|ym rfl (b false)<|yR rfl<|yR rfl<|yl rfl (b false) yp<|ya rfl (b false)<|zN ?_
  refine RunC.ret ?_
  have hq := oI h
  subst q0
  exact bR rfl
def K1e (a0 : Int) (a1 : Int) (a2 : List F) (a3 : List Int) : Option (Bool) :=
 obind (K0l a0 a1 a2) fun (r1 : Bool) =>
 bsel r1 (
  obind (K0x a0 a1 a2) fun (r2 : List F) =>
  obind (K0z r2 (some 0)) fun (r3 : Bool) =>
  bsel r3 (
   some false) (
   obind (K1d a3) fun (r4 : Bool) =>
   bsel r4 (
    obind (K10 a3) fun (r5 : Int) =>
    some (decide (r5 = a0))) (
    some false))) (
  some false)
theorem K1e_ok (a0 : Int) (a1 : Int) (a2 : List F) (a3 : List Int) (q0 : Bool) (h : K1e a0 a1 a2 a3 = some q0) : Ev Tryz.prog 56 [agg [i64 a0, i64 a1, (sFc a2), sl a3.length (a3.map i64)]] [] (b q0) [] := by
 refine yE Tryz.func56 0 55 0 ([(0, agg [i64 a0, i64 a1, (sFc a2), sl a3.length (a3.map i64)])]) [] rfl ?_
 unfold K1e at h
 refine zQ<|yd rfl (ptr [i64 a0, i64 a1, (sFc a2), sl a3.length (a3.map i64)]) (TOp.box_s rfl rfl rfl)<|ya rfl (b false)<|zN ?_
 refine yS ?_
 obtain ⟨r1, hf1, h⟩ := oS h
 rcases oB h with ⟨hc2, h⟩ | ⟨hc2, h⟩
 ·obtain ⟨r2, hf3, h⟩ := oS h
  obtain ⟨r3, hf4, h⟩ := oS h
  rcases oB h with ⟨hc5, h⟩ | ⟨hc5, h⟩
  ·refine RunC.region_draw (Γ' := []) 25 mixed 
    (tl rfl (ptr [i64 a0, i64 a1, (sFc a2), sl a3.length (a3.map i64)]) (LOp.fap und41 rfl siz27 rfl rfl rfl) <|
    (tl rfl (agg (mXc a0 a1 a2)) (yL agg27 siz27) <|
    (TR.d (r := b true) (fs := []) rfl rfl (TOp.eqb (TOp.callB (CallAs.func ent41 rfl rfl) (Bors.cons (Bor.agg (bP (bP (bS bN)))) bN) rfl rfl (K0l_ok a0 a1 a2 r1 hf1)) hc2) <|
    (tm rfl (b true) <|
    (tl rfl (ptr [i64 a0, i64 a1, (sFc a2), sl a3.length (a3.map i64)]) (LOp.fap und41 rfl siz27 rfl rfl rfl) <|
    (tl rfl (agg (mXc a0 a1 a2)) (yL agg27 siz27) <|
    (TR.d (r := (sFc r2)) (fs := []) rfl rfl (TOp.callS (CallAs.func ent89 rfl rfl) (ALes.cons aR ALes.nil) (lts_cons (lt_agg (lts_cons rfl (lts_cons rfl (lts_cons (lt_sl (fun _ => rfl)) lts_nil)))) lts_nil) (lt_sl (fun _ => rfl)) (K0x_ok a0 a1 a2 r2 hf3) (Bor.own (f := f32) (fun _ => rfl) rfl rfl)) <|
    (TR.d (r := b true) (fs := []) rfl rfl (TOp.eqb (yc ent88 rfl rfl (bS (Bors.cons (Bor.le (ALe.fl (by kernel_rfl) (by kernel_rfl)) (Bor.pure rfl)) bN)) (K0z_ok r2 (some 0) r3 hf4)) hc5) <|
    (tl rfl (b false) (LOp.eqb (LOp.not rfl rfl) rfl) <|
    (tl rfl (b false) yq <|
    (tm rfl (b false) <|
    (ts rfl <|
    (ts rfl <|
    (ts rfl <|
    (tl rfl (b false) yp <|
    (tm rfl (b false) <|
    (ts rfl <|
    (ts rfl <|
    (ts rfl <|
    (ts rfl <|
    (ts rfl <|
    (ts rfl <|
    (ts rfl <|
    (tl rfl (b false) yp <|
    (tl rfl (b false) (LOp.assign rfl rfl) <|
    TR.nil))))))))))))))))))))))))) rfl (by kernel_rfl) rfl fills_nil rfl ?_
   iterate 25 refine ROps.dropS ?_
   refine ROps.drop0<|zN ?_
   refine RunC.ret ?_
   have hq := oI h
   subst q0
   exact bR rfl
  ·obtain ⟨r4, hf6, h⟩ := oS h
   rcases oB h with ⟨hc7, h⟩ | ⟨hc7, h⟩
   ·obtain ⟨r5, hf8, h⟩ := oS h
    refine RunC.region_draw (Γ' := []) 25 mixed 
     (tl rfl (ptr [i64 a0, i64 a1, (sFc a2), sl a3.length (a3.map i64)]) (LOp.fap und41 rfl siz27 rfl rfl rfl) <|
     (tl rfl (agg (mXc a0 a1 a2)) (yL agg27 siz27) <|
     (TR.d (r := b true) (fs := []) rfl rfl (TOp.eqb (TOp.callB (CallAs.func ent41 rfl rfl) (Bors.cons (Bor.agg (bP (bP (bS bN)))) bN) rfl rfl (K0l_ok a0 a1 a2 r1 hf1)) hc2) <|
     (tm rfl (b true) <|
     (tl rfl (ptr [i64 a0, i64 a1, (sFc a2), sl a3.length (a3.map i64)]) (LOp.fap und41 rfl siz27 rfl rfl rfl) <|
     (tl rfl (agg (mXc a0 a1 a2)) (yL agg27 siz27) <|
     (TR.d (r := (sFc r2)) (fs := []) rfl rfl (TOp.callS (CallAs.func ent89 rfl rfl) (ALes.cons aR ALes.nil) (lts_cons (lt_agg (lts_cons rfl (lts_cons rfl (lts_cons (lt_sl (fun _ => rfl)) lts_nil)))) lts_nil) (lt_sl (fun _ => rfl)) (K0x_ok a0 a1 a2 r2 hf3) (Bor.own (f := f32) (fun _ => rfl) rfl rfl)) <|
     (TR.d (r := b false) (fs := []) rfl rfl (TOp.eqb (yc ent88 rfl rfl (bS (Bors.cons (Bor.le (ALe.fl (by kernel_rfl) (by kernel_rfl)) (Bor.pure rfl)) bN)) (K0z_ok r2 (some 0) r3 hf4)) hc5) <|
     (tl rfl (b true) (LOp.eqb (LOp.not rfl rfl) rfl) <|
     (tl rfl (b true) yq <|
     (tm rfl (b true) <|
     (tl rfl (ptr [sl a3.length (a3.map i64)]) (LOp.fap und41 rfl siz39 rfl rfl rfl) <|
     (tl rfl (sl a3.length (a3.map i64)) (y2 agg39) <|
     (TR.d (r := b true) (fs := []) rfl rfl (TOp.eqb (yc ent90 rfl rfl (bS bN) (K1d_ok a3 r4 hf6)) hc7) <|
     (tl rfl (b true) yq <|
     (tm rfl (b true) <|
     (tl rfl (ptr [sl a3.length (a3.map i64)]) (LOp.fap und41 rfl siz39 rfl rfl rfl) <|
     (tl rfl (sl a3.length (a3.map i64)) (y2 agg39) <|
     (TR.d (r := i64 r5) (fs := []) rfl rfl (yc ent91 rfl rfl (bS bN) (K10_ok a3 r5 hf8)) <|
     (tl rfl (ptr [i64 a0, i64 a1, (sFc a2), sl a3.length (a3.map i64)]) (LOp.fap und41 rfl siz27 rfl rfl rfl) <|
     (tl rfl (ptr [i64 a0, i64 a1, (sFc a2), sl a3.length (a3.map i64)]) (LOp.fap und27 rfl siz2 rfl rfl rfl) <|
     (tl rfl (i64 a0) (y2 agg2) <|
     (tl rfl (b (decide (r5 = a0))) (LOp.eql rfl rfl rfl) <|
     (tl rfl (b (decide (r5 = a0))) yq <|
     (tl rfl (b (decide (r5 = a0))) (LOp.assign rfl rfl) <|
     TR.nil))))))))))))))))))))))))) rfl (by kernel_rfl) rfl fills_nil rfl ?_
    iterate 25 refine ROps.dropS ?_
    refine ROps.drop0<|zN ?_
    refine RunC.ret ?_
    have hq := oI h
    subst q0
    exact bR rfl
   ·refine RunC.region_draw (Γ' := []) 25 mixed 
     (tl rfl (ptr [i64 a0, i64 a1, (sFc a2), sl a3.length (a3.map i64)]) (LOp.fap und41 rfl siz27 rfl rfl rfl) <|
     (tl rfl (agg (mXc a0 a1 a2)) (yL agg27 siz27) <|
     (TR.d (r := b true) (fs := []) rfl rfl (TOp.eqb (TOp.callB (CallAs.func ent41 rfl rfl) (Bors.cons (Bor.agg (bP (bP (bS bN)))) bN) rfl rfl (K0l_ok a0 a1 a2 r1 hf1)) hc2) <|
     (tm rfl (b true) <|
     (tl rfl (ptr [i64 a0, i64 a1, (sFc a2), sl a3.length (a3.map i64)]) (LOp.fap und41 rfl siz27 rfl rfl rfl) <|
     (tl rfl (agg (mXc a0 a1 a2)) (yL agg27 siz27) <|
     (TR.d (r := (sFc r2)) (fs := []) rfl rfl (TOp.callS (CallAs.func ent89 rfl rfl) (ALes.cons aR ALes.nil) (lts_cons (lt_agg (lts_cons rfl (lts_cons rfl (lts_cons (lt_sl (fun _ => rfl)) lts_nil)))) lts_nil) (lt_sl (fun _ => rfl)) (K0x_ok a0 a1 a2 r2 hf3) (Bor.own (f := f32) (fun _ => rfl) rfl rfl)) <|
     (TR.d (r := b false) (fs := []) rfl rfl (TOp.eqb (yc ent88 rfl rfl (bS (Bors.cons (Bor.le (ALe.fl (by kernel_rfl) (by kernel_rfl)) (Bor.pure rfl)) bN)) (K0z_ok r2 (some 0) r3 hf4)) hc5) <|
     (tl rfl (b true) (LOp.eqb (LOp.not rfl rfl) rfl) <|
     (tl rfl (b true) yq <|
     (tm rfl (b true) <|
     (tl rfl (ptr [sl a3.length (a3.map i64)]) (LOp.fap und41 rfl siz39 rfl rfl rfl) <|
     (tl rfl (sl a3.length (a3.map i64)) (y2 agg39) <|
     (TR.d (r := b false) (fs := []) rfl rfl (TOp.eqb (yc ent90 rfl rfl (bS bN) (K1d_ok a3 r4 hf6)) hc7) <|
     (tl rfl (b false) yq <|
     (tm rfl (b false) <|
     (ts rfl <|
     (ts rfl <|
     (ts rfl <|
     (ts rfl <|
     (ts rfl <|
     (ts rfl <|
     (ts rfl <|
     (tl rfl (b false) yp <|
     (tl rfl (b false) (LOp.assign rfl rfl) <|
     TR.nil))))))))))))))))))))))))) rfl (by kernel_rfl) rfl fills_nil rfl ?_
    iterate 25 refine ROps.dropS ?_
    refine ROps.drop0<|zN ?_
    refine RunC.ret ?_
    have hq := oI h
    subst q0
    exact bR rfl
 ·refine RunC.region_draw (Γ' := []) 25 mixed 
   (tl rfl (ptr [i64 a0, i64 a1, (sFc a2), sl a3.length (a3.map i64)]) (LOp.fap und41 rfl siz27 rfl rfl rfl) <|
   (tl rfl (agg (mXc a0 a1 a2)) (yL agg27 siz27) <|
   (TR.d (r := b false) (fs := []) rfl rfl (TOp.eqb (TOp.callB (CallAs.func ent41 rfl rfl) (Bors.cons (Bor.agg (bP (bP (bS bN)))) bN) rfl rfl (K0l_ok a0 a1 a2 r1 hf1)) hc2) <|
   (tm rfl (b false) <|
   (ts rfl <|
   (ts rfl <|
   (ts rfl <|
   (ts rfl <|
   (ts rfl <|
   (tl rfl (b false) yp <|
   (tm rfl (b false) <|
   (ts rfl <|
   (ts rfl <|
   (ts rfl <|
   (tl rfl (b false) yp <|
   (tm rfl (b false) <|
   (ts rfl <|
   (ts rfl <|
   (ts rfl <|
   (ts rfl <|
   (ts rfl <|
   (ts rfl <|
   (ts rfl <|
   (tl rfl (b false) yp <|
   (tl rfl (b false) (LOp.assign rfl rfl) <|
   TR.nil))))))))))))))))))))))))) rfl (by kernel_rfl) rfl fills_nil rfl ?_
  iterate 25 refine ROps.dropS ?_
  refine ROps.drop0<|zN ?_
  refine RunC.ret ?_
  have hq := oI h
  subst q0
  exact bR rfl
def K1f (a0 : Int) (a1 : Int) : Option (Int × Int × (List F)) :=
 olet (IntKind.i64.wrap (a0 * a1)) fun (x1 : Int) =>
 need (mkok 4 x1) <|
 some (a0, a1, (List.replicate x1.toNat (some 0)))
theorem K1f_ok (a0 : Int) (a1 : Int) (q0 : Int) (q1 : Int) (q2 : List F) (h : K1f a0 a1 = some (q0, q1, q2)) : Ev Tryz.prog 64 [i64 a0, i64 a1] [] (agg (oXc q0 q1 0 0 q2.length)) [oF 0 q2] := by
 refine yE Tryz.func64 2 25 0 [(0, i64 a0), (1, i64 a1)] [o0, o0] rfl ?_
 unfold K1f at h
 refine zQ<|ye rfl (optr 0 1 0) [⟨1, some zMx⟩, o0] (TOp.alloc_o (g := o0) 0 rfl zer27 zok27 rfl)<|zN ?_
 refine yS ?_
 obtain ⟨x1, hx1, h⟩ := oL h
 obtain ⟨hm2, h⟩ := need_some h
 refine yW<|ym rfl (i64 a0)<|ym rfl (i64 a1)<|ym rfl (i64 a0)<|ym rfl (i64 a1)<|yl rfl (i64 x1) (LOp.eqr (LOp.mul rfl rfl rfl) (congrArg (ik .i64) hx1))<|ye rfl (oref 1 1 0 x1.toNat) [⟨1, some zMx⟩, ⟨1, some ((List.replicate x1.toNat (some 0)).map f32)⟩] (TOp.mkS (g := o0) (t := 25) (e := 30) (by_ := 4) (f := f32) (zv := some 0) 1 rfl und25 tin30 rfl siz30 zer30 rfl zel30 rfl rfl rfl hm2)<|yl rfl (agg [i64 a0, i64 a1, oref 1 1 0 x1.toNat]) (LOp.build (qs := [(0, [i64 a0]), (1, [i64 a1]), (2, [oref 1 1 0 x1.toNat])]) zer27 zok27 und27 plc27 rfl ⟨rfl, ⟨_, ALe.refl _, rfl⟩, ⟨rfl, ⟨_, ALe.refl _, rfl⟩, ⟨rfl, ⟨_, ALe.refl _, rfl⟩, trivial⟩⟩⟩ rfl)<|ys (agg [i64 a0, i64 a1, oref 1 1 0 x1.toNat]) [i64 a0, i64 a1, oref 1 1 0 x1.toNat] ([⟨1, some [i64 a0, i64 a1, oref 1 1 0 x1.toNat]⟩, ⟨1, some ((List.replicate x1.toNat (some 0)).map f32)⟩]) siz27<|zN ?_
 refine RunC.ret ?_
 have hq := oI h
 obtain ⟨hq0, hq⟩ := Prod.mk.inj hq
 obtain ⟨hq1, hq⟩ := Prod.mk.inj hq
 subst q0
 subst q1
 subst q2
 exact yB (agg [i64 a0, i64 a1, oref 1 1 0 ((List.replicate x1.toNat (some 0)).length)]) [(1, 1)] (Res.eq (Res.one rfl (RV.cell agg27 siz27 rfl rfl rfl rfl)) (by first | rfl | (rw [(show (List.replicate x1.toNat (some 0)).length = x1.toNat from by simp)] <;> rfl))) (sA rfl trivial)
def K1g (a0 : Int) (a1 : Int) : Option (F) :=
 bsel (decide (a0 = a1)) (
  some (some 1065353216)) (
  some (some 0))
theorem K1g_ok (a0 : Int) (a1 : Int) (q0 : F) (h : K1g a0 a1 = some q0) : Ev Tryz.prog 95 [i64 a0, i64 a1] [] (f32 q0) [] := by
 refine yE Tryz.func95 0 17 0 [(0, i64 a0), (1, i64 a1)] [] rfl ?_
 unfold K1g at h
 refine zQ<|yl rfl (f32 (some 0)) (LOp.le (LOp.assign rfl rfl) (ALe.fl (by kernel_rfl) (by kernel_rfl)))<|zN ?_
 refine yS<|yS ?_
 rcases oB h with ⟨hc1, h⟩ | ⟨hc1, h⟩
 ·refine yW<|ym rfl (i64 a0)<|ym rfl (i64 a1)<|yl rfl (b true) (LOp.eqb (LOp.eql rfl rfl rfl) hc1)<|zN ?_
  refine yT<|zQ<|yl rfl (f32 (some 1065353216)) (LOp.le (LOp.assign rfl rfl) (ALe.fl (by kernel_rfl) (by kernel_rfl)))<|zN ?_
  refine RunC.ret ?_
  have hq := oI h
  subst q0
  exact bR rfl
 ·refine yW<|ym rfl (i64 a0)<|ym rfl (i64 a1)<|yl rfl (b false) (LOp.eqb (LOp.eql rfl rfl rfl) hc1)<|zN ?_
  refine yF<|RunC.skip<|zQ<|yl rfl (f32 (some 0)) (LOp.le (LOp.assign rfl rfl) (ALe.fl (by kernel_rfl) (by kernel_rfl)))<|zN ?_
  refine RunC.ret ?_
  have hq := oI h
  subst q0
  exact bR rfl
def K1h_b2 (a1 : Int) (r1 : Int) (r2 : Int) (r3 : List F) (v6 : Int) (L7 : List F) (v9 : Int) : Option (LR ((List F) × Int) ((List F)) (Int × Int × (List F))) :=
 bsel (decide (v9 < a1)) (
  obind (K1g v6 v9) fun (r11 : F) =>
  obind (K0r r1 r2 v6 v9 r11 L7) fun (r12 : List F) =>
  need (decide (r12.length = r3.length)) <|
  olet (IntKind.i64.wrap (v9 + 1)) fun (x13 : Int) =>
  some (LR.next (r12, x13))) (
  some (LR.out L7))
def K1h_s2 (a1 : Int) (r1 : Int) (r2 : Int) (r3 : List F) (v6 : Int) : ((List F) × Int) → Option (LR ((List F) × Int) ((List F)) (Int × Int × (List F))) := fun s => K1h_b2 a1 r1 r2 r3 v6 s.1 s.2
def K1h_k2 (v6 : Int) (L14 : List F) : Option (LR ((List F) × Int) ((List F)) (Int × Int × (List F))) :=
 olet (IntKind.i64.wrap (v6 + 1)) fun (x16 : Int) =>
 some (LR.next (L14, x16))
def K1h_b3 (a0 : Int) (a1 : Int) (r1 : Int) (r2 : Int) (r3 : List F) (L4 : List F) (v6 : Int) : Option (LR ((List F) × Int) ((List F)) (Int × Int × (List F))) :=
 bsel (decide (v6 < a0)) (
  obind (loopM (K1h_s2 a1 r1 r2 r3 v6) (L4, 0)) fun z => osum z (fun e => K1h_k2 v6 e) (fun r => some (LR.ret r))) (
  some (LR.out L4))
def K1h_s3 (a0 : Int) (a1 : Int) (r1 : Int) (r2 : Int) (r3 : List F) : ((List F) × Int) → Option (LR ((List F) × Int) ((List F)) (Int × Int × (List F))) := fun s => K1h_b3 a0 a1 r1 r2 r3 s.1 s.2
def K1h_k3 (r1 : Int) (r2 : Int) (L17 : List F) : Option (Int × Int × (List F)) :=
 some (r1, r2, L17)
def K1h (a0 : Int) (a1 : Int) : Option (Int × Int × (List F)) :=
 obind3 (K1f a0 a1) fun (r1 : Int) (r2 : Int) (r3 : List F) =>
 obind (loopM (K1h_s3 a0 a1 r1 r2 r3) (r3, 0)) fun z => osum z (fun e => K1h_k3 r1 r2 e) (fun r => some r)
theorem K1h_ok (a0 : Int) (a1 : Int) (q0 : Int) (q1 : Int) (q2 : List F) (h : K1h a0 a1 = some (q0, q1, q2)) : Ev Tryz.prog 57 [i64 a0, i64 a1, fn (.func 95) [] []] [] (agg (oXc q0 q1 0 0 q2.length)) [oF 0 q2] := by
 refine yE Tryz.func57 3 65 0 ([(0, i64 a0), (1, i64 a1), (2, fn (.func 95) [] [])]) [o0, o0, o0] rfl ?_
 unfold K1h at h
 refine zQ<|ye rfl (optr 0 1 0) [⟨1, some zMx⟩, o0, o0] (TOp.alloc_o (g := o0) 0 rfl zer27 zok27 rfl)<|zN ?_
 refine yS ?_
 obtain ⟨r1, r2, r3, hf1, h⟩ := obind3_some h
 refine yW<|ym rfl (i64 a0)<|ym rfl (i64 a1)<|ye rfl (agg (oXc r1 r2 1 1 r3.length)) [⟨1, some zMx⟩, oF 1 r3, o0] (TOp.callBN (ls := [(r3.map f32)]) [1] (CallAs.func ent64 rfl rfl) (bP bN0) rfl (K1f_ok a0 a1 r1 r2 r3 hf1) (and_all (lts0_map (f := f32) (fun _ => rfl) _) rfl) (and_all (noss_map (f := f32) (fun _ => rfl) _) rfl) rfl (by decide) (ns_of ⟨⟨_, rfl⟩, trivial⟩))<|ye rfl (optr 2 1 0) [⟨1, some zMx⟩, oF 1 r3, ⟨1, some zMx⟩] (TOp.alloc_o (g := o0) 2 rfl zer27 zok27 rfl)<|ys (agg (oXc r1 r2 1 1 r3.length)) (oXc r1 r2 1 1 r3.length) [⟨1, some zMx⟩, oF 1 r3, ⟨1, some (oXc r1 r2 1 1 r3.length)⟩] siz27<|zN ?_
 refine yS<|zQ<|ym rfl (i64 a0)<|ym rfl (i64 0)<|zN ?_
 obtain ⟨z4, hz_4, h⟩ := oS h
 refine RunC.cutN (fun τ Γ => ∃ (L17 : List F), L17.length = r3.length ∧ WeakLe τ [(6, optr 0 1 0), (7, optr 2 1 0)] ∧ DeadLe Γ [⟨1, some zMx⟩, oF 1 L17, ⟨1, some (oXc r1 r2 1 1 r3.length)⟩] ∧ z4 = .inl L17) ?_ ?_
 ·refine RunC.block (RunC.loop (RunL.loopM (x := z4) (K1h_s3 a0 a1 r1 r2 r3) (fun (s : (List F) × Int) τ Γ => s.1.length = r3.length ∧ WeakLe τ [(1, i64 a1), (2, fn (.func 95) [] []), (6, optr 0 1 0), (7, optr 2 1 0), (13, i64 a0), (14, i64 s.2)] ∧ DeadLe Γ [⟨1, some zMx⟩, ⟨1, some (s.1.map f32)⟩, ⟨1, some (oXc r1 r2 1 1 r3.length)⟩]) ?_ _ _ _ hz_4 ⟨rfl, ⟨aR, aR, aR, aR, aR, aR, trivial⟩, ⟨⟨rfl, .inr rfl⟩, ⟨rfl, .inr rfl⟩, ⟨rfl, .inr rfl⟩, trivial⟩⟩))
  rintro ⟨L4, v6⟩ τ4 Γ4 y4_ ⟨hl5, hw4, hd4⟩ h4_ ho4 hr4
  refine RunC.wl (τ' := [(1, i64 a1), (2, fn (.func 95) [] []), (6, optr 0 1 0), (7, optr 2 1 0), (13, i64 a0), (14, i64 v6)]) (Γ' := [⟨1, some zMx⟩, oF 1 L4, ⟨1, some (oXc r1 r2 1 1 r3.length)⟩]) hw4 hd4 ?_
  replace hl5 : L4.length = r3.length := hl5
  replace h4_ : K1h_b3 a0 a1 r1 r2 r3 L4 v6 = some y4_ := h4_
  unfold K1h_b3 at h4_
  refine yS ?_
  rcases oB h4_ with ⟨hc2, h4_⟩ | ⟨hc2, h4_⟩
  ·refine yW<|yl rfl (b true) (LOp.eqb (LOp.lss rfl rfl rfl) hc2)<|zN ?_
   refine yS<|yT<|RunC.skip<|yS<|RunC.block<|zQ<|ym rfl (i64 v6)<|ya rfl (i64 v6)<|zN ?_
   refine zQ<|ym rfl (i64 a1)<|ym rfl (i64 0)<|zN ?_
   obtain ⟨z5, hz_5, h4_⟩ := oS h4_
   refine RunC.cutN (fun τ Γ => ∃ (L14 : List F), L14.length = r3.length ∧ WeakLe τ [(1, i64 a1), (2, fn (.func 95) [] []), (6, optr 0 1 0), (7, optr 2 1 0), (13, i64 a0), (14, i64 v6)] ∧ DeadLe Γ [⟨1, some zMx⟩, oF 1 L14, ⟨1, some (oXc r1 r2 1 1 r3.length)⟩] ∧ z5 = .inl L14) ?_ ?_
   ·refine RunC.block (RunC.loop (RunL.loopM (x := z5) (K1h_s2 a1 r1 r2 r3 v6) (fun (s : (List F) × Int) τ Γ => s.1.length = r3.length ∧ WeakLe τ [(1, i64 a1), (2, fn (.func 95) [] []), (6, optr 0 1 0), (7, optr 2 1 0), (8, i64 v6), (13, i64 a0), (14, i64 v6), (17, i64 a1), (18, i64 s.2)] ∧ DeadLe Γ [⟨1, some zMx⟩, ⟨1, some (s.1.map f32)⟩, ⟨1, some (oXc r1 r2 1 1 r3.length)⟩]) ?_ _ _ _ hz_5 ⟨hl5, ⟨aR, aR, aR, aR, aR, aR, aR, aR, aR, trivial⟩, ⟨⟨rfl, .inr rfl⟩, ⟨rfl, .inr rfl⟩, ⟨rfl, .inr rfl⟩, trivial⟩⟩))
    rintro ⟨L7, v9⟩ τ5 Γ5 y5_ ⟨hl8, hw5, hd5⟩ h5_ ho5 hr5
    refine RunC.wl (τ' := [(1, i64 a1), (2, fn (.func 95) [] []), (6, optr 0 1 0), (7, optr 2 1 0), (8, i64 v6), (13, i64 a0), (14, i64 v6), (17, i64 a1), (18, i64 v9)]) (Γ' := [⟨1, some zMx⟩, oF 1 L7, ⟨1, some (oXc r1 r2 1 1 r3.length)⟩]) hw5 hd5 ?_
    replace hl8 : L7.length = r3.length := hl8
    replace h5_ : K1h_b2 a1 r1 r2 r3 v6 L7 v9 = some y5_ := h5_
    unfold K1h_b2 at h5_
    refine yS ?_
    rcases oB h5_ with ⟨hc3, h5_⟩ | ⟨hc3, h5_⟩
    ·refine yW<|yl rfl (b true) (LOp.eqb (LOp.lss rfl rfl rfl) hc3)<|zN ?_
     refine yS<|yT<|RunC.skip<|yS<|RunC.block<|zQ<|ym rfl (i64 v9)<|ya rfl (i64 v9)<|zN ?_
     obtain ⟨r11, hf5, h5_⟩ := oS h5_
     obtain ⟨r12, hf6, h5_⟩ := oS h5_
     obtain ⟨hn7, h5_⟩ := need_some h5_
     refine RunC.region_draw (Γ' := [⟨1, some zMx⟩, oF 1 L7, ⟨1, some (oXc r1 r2 1 1 r3.length)⟩]) 7 mixed 
      (TR.d (r := agg (oXc r1 r2 1 1 r3.length)) (fs := []) rfl rfl (yA agg27 siz27) <|
      (tm rfl (i64 v6) <|
      (tm rfl (i64 v9) <|
      (tm rfl (fn (.func 95) [] []) <|
      (tm rfl (i64 v6) <|
      (tm rfl (i64 v9) <|
      (TR.d (r := f32 r11) (fs := []) rfl rfl (TOp.callB (CallAs.fn ent95 rfl rfl rfl rfl) (bP bN0) rfl rfl (K1g_ok v6 v9 r11 hf5)) <|
      TR.nil))))))) rfl (by kernel_rfl) rfl fills_nil rfl ?_
     iterate 7 refine ROps.dropS ?_
     refine ROps.drop0<|ROps.callO (A := [agg (oXc r1 r2 1 1 r3.length), i64 v6, i64 v9, f32 r11]) (args := [agg (oXc r1 r2 0 0 L7.length), i64 v6, i64 v9, f32 r11]) (Γc := [oF 0 L7]) (Γc' := [oF 0 r12]) (r' := tup []) (Γ' := [⟨1, some zMx⟩, oF 1 r12, ⟨1, some (oXc r1 r2 1 1 r3.length)⟩]) [(1, 1)] [] rfl (CallAs.func ent81 rfl rfl) rfl rfl (SelOk.of (ndB_ok rfl) (sA rfl trivial)) (live_of ⟨⟨_, _, rfl⟩, trivial⟩) (by simp [ren, rens, sigma, rens_f32, rens_f64, rens_i64, rens_ik, rens_str, rens_cp, hl8]) rfl (K0r_ok r1 r2 v6 v9 r11 L7 r12 hf6) rfl (news_of trivial) (ndB_ok rfl) (by simp [ren, rens, sigma, of_decide_eq_true hn7]) (by simp [backOb, sigma, ren, rens, rens_f32, rens_f64, rens_i64, rens_ik, rens_str, rens_cp] <;> omega)<|zN ?_
     obtain ⟨x13, hx8, h5_⟩ := oL h5_
     refine yW<|yl rfl (i64 x13) (LOp.eqr (LOp.add rfl rfl rfl) (congrArg (ik .i64) hx8))<|ym rfl (i64 x13)<|zN ?_
     cases oI h5_
     exact ⟨_, rfl, (of_decide_eq_true hn7), ⟨aR, aR, aR, aR, aR, aR, aR, aR, aR, trivial⟩, ⟨⟨rfl, .inr rfl⟩, ⟨rfl, .inr rfl⟩, ⟨rfl, .inr rfl⟩, trivial⟩⟩
    ·refine yW<|yl rfl (b false) (LOp.eqb (LOp.lss rfl rfl rfl) hc3)<|zN ?_
     refine yS<|yF<|RunC.exit ?_
     cases oI h5_
     have hx := ho5 _ rfl
     exact ⟨L7, hl8, ⟨aR, aR, aR, aR, aR, aR, trivial⟩, ⟨⟨rfl, .inr rfl⟩, ⟨rfl, .inr rfl⟩, ⟨rfl, .inr rfl⟩, trivial⟩, hx⟩
   ·rintro τ6 Γ6 ⟨L14, hl15, hw6, hd6, rfl⟩
    refine RunC.wl hw6 hd6 ?_
    replace h4_ : K1h_k2 v6 L14 = some y4_ := h4_
    unfold K1h_k2 at h4_
    obtain ⟨x16, hx9, h4_⟩ := oL h4_
    refine yW<|yl rfl (i64 x16) (LOp.eqr (LOp.add rfl rfl rfl) (congrArg (ik .i64) hx9))<|ym rfl (i64 x16)<|zN ?_
    cases oI h4_
    exact ⟨_, rfl, hl15, ⟨aR, aR, aR, aR, aR, aR, trivial⟩, ⟨⟨rfl, .inr rfl⟩, ⟨rfl, .inr rfl⟩, ⟨rfl, .inr rfl⟩, trivial⟩⟩
  ·refine yW<|yl rfl (b false) (LOp.eqb (LOp.lss rfl rfl rfl) hc2)<|zN ?_
   refine yS<|yF<|RunC.exit ?_
   cases oI h4_
   have hx := ho4 _ rfl
   exact ⟨L4, hl5, ⟨aR, aR, trivial⟩, ⟨⟨rfl, .inr rfl⟩, ⟨rfl, .inr rfl⟩, ⟨rfl, .inr rfl⟩, trivial⟩, hx⟩
 ·rintro τ7 Γ7 ⟨L17, hl18, hw7, hd7, rfl⟩
  refine RunC.wl hw7 hd7 ?_
  replace h : K1h_k3 r1 r2 L17 = some (q0, q1, q2) := h
  unfold K1h_k3 at h
  refine zQ<|yd rfl (agg (oXc r1 r2 1 1 r3.length)) (yA agg27 siz27)<|ys (agg (oXc r1 r2 1 1 r3.length)) (oXc r1 r2 1 1 r3.length) [⟨1, some (oXc r1 r2 1 1 r3.length)⟩, oF 1 L17, ⟨1, some (oXc r1 r2 1 1 r3.length)⟩] siz27<|zN ?_
  refine RunC.ret ?_
  have hq := oI h
  obtain ⟨hq0, hq⟩ := Prod.mk.inj hq
  obtain ⟨hq1, hq⟩ := Prod.mk.inj hq
  subst q0
  subst q1
  subst q2
  exact yB (agg (oXc r1 r2 1 1 L17.length)) [(1, 1)] (Res.eq (Res.one rfl (RV.cell agg27 siz27 rfl rfl rfl rfl)) (by first | rfl | (rw [(show L17.length = r3.length from hl18)] <;> rfl))) (sA rfl trivial)
def K1i (a0 : Int) : Option (Int × Int × (List F)) :=
 obind3 (K1h a0 a0) fun (r1 : Int) (r2 : Int) (r3 : List F) =>
 some (r1, r2, r3)
theorem K1i_ok (a0 : Int) (q0 : Int) (q1 : Int) (q2 : List F) (h : K1i a0 = some (q0, q1, q2)) : Ev Tryz.prog 67 [i64 a0] [] (agg (oXc q0 q1 0 0 q2.length)) [oF 0 q2] := by
 refine yE Tryz.func67 2 13 0 [(0, i64 a0)] [o0, o0] rfl ?_
 unfold K1i at h
 refine zQ<|ye rfl (optr 0 1 0) [⟨1, some zMx⟩, o0] (TOp.alloc_o (g := o0) 0 rfl zer27 zok27 rfl)<|zN ?_
 refine yS ?_
 obtain ⟨r1, r2, r3, hf1, h⟩ := obind3_some h
 refine yW<|ym rfl (i64 a0)<|ym rfl (i64 a0)<|ye rfl (agg (oXc r1 r2 1 1 r3.length)) [⟨1, some zMx⟩, oF 1 r3] (TOp.callBN (ls := [(r3.map f32)]) [1] (CallAs.func ent57 rfl rfl) (bP (bP (Bors.cons (Bor.fn bN bN) bN))) rfl (K1h_ok a0 a0 r1 r2 r3 hf1) (and_all (lts0_map (f := f32) (fun _ => rfl) _) rfl) (and_all (noss_map (f := f32) (fun _ => rfl) _) rfl) rfl (by decide) (ns_of ⟨⟨_, rfl⟩, trivial⟩))<|ys (agg (oXc r1 r2 1 1 r3.length)) (oXc r1 r2 1 1 r3.length) [⟨1, some (oXc r1 r2 1 1 r3.length)⟩, oF 1 r3] siz27<|zN ?_
 refine RunC.ret ?_
 have hq := oI h
 obtain ⟨hq0, hq⟩ := Prod.mk.inj hq
 obtain ⟨hq1, hq⟩ := Prod.mk.inj hq
 subst q0
 subst q1
 subst q2
 exact yB (agg (oXc r1 r2 1 1 r3.length)) [(1, 1)] (Res.one rfl (RV.cell agg27 siz27 rfl rfl rfl rfl)) (sA rfl trivial)
def K1j_b1 (a0 : Int) (a1 : Int) (a2 : List F) (a3 : Int) (L3 : List F) (v4 : Int) : Option (LR ((List F) × Int) ((List F)) ((List F))) :=
 bsel (decide (v4 < a0)) (
  obind (K0p a0 a1 a2 v4 a3) fun (r5 : F) =>
  need (apok 4 L3.length 1) <|
  olet (IntKind.i64.wrap (v4 + 1)) fun (x6 : Int) =>
  some (LR.next ((L3 ++ ([r5] : List F)), x6))) (
  some (LR.out L3))
def K1j_s1 (a0 : Int) (a1 : Int) (a2 : List F) (a3 : Int) : ((List F) × Int) → Option (LR ((List F) × Int) ((List F)) ((List F))) := fun s => K1j_b1 a0 a1 a2 a3 s.1 s.2
def K1j_k1 (L9 : List F) : Option ((List F)) :=
 some L9
def K1j (a0 : Int) (a1 : Int) (a2 : List F) (a3 : Int) : Option ((List F)) :=
 obind (loopM (K1j_s1 a0 a1 a2 a3) (([] : List F), 0)) fun z => osum z (fun e => K1j_k1 e) (fun r => some r)
theorem K1j_ok (a0 : Int) (a1 : Int) (a2 : List F) (a3 : Int) (q0 : List F) (h : K1j a0 a1 a2 a3 = some q0) : Ev Tryz.prog 68 [agg (mXc a0 a1 a2), i64 a3] [] (oref 0 0 0 q0.length) [oF 0 q0] := by
 refine yE Tryz.func68 2 45 0 [(0, agg (mXc a0 a1 a2)), (1, i64 a3)] [o0, o0] rfl ?_
 unfold K1j at h
 refine zQ<|yd rfl (ptr (mXc a0 a1 a2)) (TOp.box_s rfl rfl rfl)<|ya rfl nilsl<|zN ?_
 refine zQ<|ye rfl (oref 0 1 0 0) ([⟨1, some (([] : List F).map f32)⟩, o0]) (TOp.buildSlice_o (g := o0) (za := f32 (some 0)) (qs := []) 0 rfl und25 siz30 zer30 rfl zel30 rfl rfl trivial rfl)<|ya rfl (oref 0 1 0 0)<|zN ?_
 refine yS<|zQ<|yl rfl (ptr (mXc a0 a1 a2)) (LOp.fap und27 rfl siz2 rfl rfl rfl)<|yl rfl (i64 a0) (y2 agg2)<|ym rfl (i64 0)<|zN ?_
 obtain ⟨z2, hz_2, h⟩ := oS h
 refine RunC.cutN (fun τ Γ => ∃ (L9 : List F) (u7 : Nat) (u8 : Nat), WeakLe τ [(5, oref 0 u7 0 L9.length)] ∧ DeadLe Γ [⟨u7, some (L9.map f32)⟩, ⟨u8, none⟩] ∧ z2 = .inl L9) ?_ ?_
 ·refine RunC.block (RunC.loop (RunL.loopM (x := z2) (K1j_s1 a0 a1 a2 a3) (fun (s : (List F) × Int) τ Γ => ∃ (u1 : Nat) (u2 : Nat), WeakLe τ [(1, i64 a3), (2, ptr (mXc a0 a1 a2)), (5, oref 0 u1 0 s.1.length), (9, i64 a0), (10, i64 s.2)] ∧ DeadLe Γ [⟨u1, some (s.1.map f32)⟩, ⟨u2, none⟩]) ?_ _ _ _ hz_2 ⟨1, 0, ⟨aR, aR, aR, aR, aR, trivial⟩, ⟨⟨rfl, .inr rfl⟩, ⟨rfl, .inl rfl⟩, trivial⟩⟩))
  rintro ⟨L3, v4⟩ τ2 Γ2 y2_ ⟨u1, u2, hw2, hd2⟩ h2_ ho2 hr2
  refine RunC.wl (τ' := [(1, i64 a3), (2, ptr (mXc a0 a1 a2)), (5, oref 0 u1 0 L3.length), (9, i64 a0), (10, i64 v4)]) (Γ' := [⟨u1, some (L3.map f32)⟩, ⟨u2, none⟩]) hw2 hd2 ?_
  replace h2_ : K1j_b1 a0 a1 a2 a3 L3 v4 = some y2_ := h2_
  unfold K1j_b1 at h2_
  refine yS ?_
  rcases oB h2_ with ⟨hc1, h2_⟩ | ⟨hc1, h2_⟩
  ·refine yW<|yl rfl (b true) (LOp.eqb (LOp.lss rfl rfl rfl) hc1)<|zN ?_
   refine yS<|yT<|RunC.skip<|yS<|RunC.block<|zQ<|ym rfl (i64 v4)<|ya rfl (i64 v4)<|zN ?_
   obtain ⟨r5, hf2, h2_⟩ := oS h2_
   obtain ⟨hm3, h2_⟩ := need_some h2_
   refine yW<|ym rfl (oref 0 u1 0 L3.length)<|yl rfl (agg (mXc a0 a1 a2)) (yL agg27 siz27)<|ym rfl (i64 v4)<|ym rfl (i64 a3)<|yd rfl (f32 r5) (TOp.callB (CallAs.func ent46 rfl rfl) (Bors.cons (Bor.agg (bP (bP (bS bN)))) (bP bN0)) rfl rfl (K0p_ok a0 a1 a2 v4 a3 r5 hf2))<|ye rfl (oref 1 (u2 + 1) 0 1) ([⟨u1, some (L3.map f32)⟩, ⟨(u2 + 1), some (([r5] : List F).map f32)⟩]) (TOp.buildSlice_o (g := ⟨u2, none⟩) (za := f32 (some 0)) (qs := [(0, [f32 r5])]) 1 rfl und25 siz30 zer30 rfl zel30 rfl rfl ⟨rfl, ⟨_, ALe.refl _, rfl⟩, trivial⟩ rfl)<|ROps.app (f := f32) (xs := L3) (ys := ([r5] : List F)) (Γ' := [⟨(u1 + 1), some ((L3 ++ ([r5] : List F)).map f32)⟩, ⟨(u2 + 1), some (([r5] : List F).map f32)⟩]) rfl pun25 inf30 rfl rfl rfl rfl rfl rfl rfl rfl rfl (by simp) (ReadAs.own rfl (by simp)) (ones_map (fun _ => rfl)) (ap_by hm3) (ap_mx hm3) rfl<|ya rfl (oref 0 (u1 + 1) 0 (L3.length + 1))<|zN ?_
   refine RunC.wl (τ' := [(1, i64 a3), (2, ptr (mXc a0 a1 a2)), (5, oref 0 (u1 + 1) 0 (L3.length + 1)), (9, i64 a0), (10, i64 v4)]) (Γ' := [⟨(u1 + 1), some ((L3 ++ ([r5] : List F)).map f32)⟩, ⟨(u2 + 1), none⟩]) ⟨aR, aR, aR, aR, aR, trivial⟩ ⟨⟨rfl, .inr rfl⟩, ⟨rfl, .inl rfl⟩, trivial⟩ ?_
   obtain ⟨x6, hx4, h2_⟩ := oL h2_
   refine yW<|yl rfl (i64 x6) (LOp.eqr (LOp.add rfl rfl rfl) (congrArg (ik .i64) hx4))<|ym rfl (i64 x6)<|zN ?_
   cases oI h2_
   exact ⟨_, rfl, (u1 + 1), (u2 + 1), ⟨aR, aR, (ALe.eq (by rw [(app_len rfl rfl)] <;> rfl)), aR, aR, trivial⟩, ⟨⟨rfl, .inr rfl⟩, ⟨rfl, .inl rfl⟩, trivial⟩⟩
  ·refine yW<|yl rfl (b false) (LOp.eqb (LOp.lss rfl rfl rfl) hc1)<|zN ?_
   refine yS<|yF<|RunC.exit ?_
   cases oI h2_
   have hx := ho2 _ rfl
   exact ⟨L3, u1, u2, ⟨aR, trivial⟩, ⟨⟨rfl, .inr rfl⟩, ⟨rfl, .inl rfl⟩, trivial⟩, hx⟩
 ·rintro τ3 Γ3 ⟨L9, u7, u8, hw3, hd3, rfl⟩
  refine RunC.wl hw3 hd3 ?_
  replace h : K1j_k1 L9 = some q0 := h
  unfold K1j_k1 at h
  refine zQ<|ym rfl (oref 0 u7 0 L9.length)<|ya rfl (oref 0 u7 0 L9.length)<|zN ?_
  refine RunC.ret ?_
  have hq := oI h
  subst q0
  exact bodyQ.mk (r' := oref 0 u7 0 L9.length) [(0, u7)] (.inr rfl) rfl (ndB_ok rfl) (by simp [ren, rens, sigma]) rfl (Res.one rfl (RV.tmp rfl)) (sA rfl trivial)
def K1k_b1 (a0 : Int) (a1 : Int) (a2 : List F) (a4 : Int) (a6 : Int) (a7 : List F) (y1 : F) (v2 : Int) : Option (LR (F × Int) (F) (F)) :=
 bsel (decide (v2 < a6)) (
  obind (K0p a0 a1 a2 a4 v2) fun (r3 : F) =>
  obind (at? a7 v2) fun (e4 : F) =>
  obind (K0u r3 e4) fun (r5 : F) =>
  olet (fop .sub .f32 y1 r5) fun (x6 : F) =>
  olet (IntKind.i64.wrap (v2 + 1)) fun (x7 : Int) =>
  some (LR.next (x6, x7))) (
  some (LR.out y1))
def K1k_s1 (a0 : Int) (a1 : Int) (a2 : List F) (a4 : Int) (a6 : Int) (a7 : List F) : (F × Int) → Option (LR (F × Int) (F) (F)) := fun s => K1k_b1 a0 a1 a2 a4 a6 a7 s.1 s.2
def K1k_k1 (y8 : F) : Option (F) :=
 some y8
def K1k (a0 : Int) (a1 : Int) (a2 : List F) (a3 : F) (a4 : Int) (a5 : Int) (a6 : Int) (a7 : List F) : Option (F) :=
 obind (loopM (K1k_s1 a0 a1 a2 a4 a6 a7) (a3, a5)) fun z => osum z (fun e => K1k_k1 e) (fun r => some r)
theorem K1k_ok (a0 : Int) (a1 : Int) (a2 : List F) (a3 : F) (a4 : Int) (a5 : Int) (a6 : Int) (a7 : List F) (q0 : F) (h : K1k a0 a1 a2 a3 a4 a5 a6 a7 = some q0) : Ev Tryz.prog 93 [agg (mXc a0 a1 a2), f32 a3, i64 a4, i64 a5, i64 a6, (sFc a7)] [] (f32 q0) [] := by
 refine yE Tryz.func93 0 65 0 [(0, agg (mXc a0 a1 a2)), (1, f32 a3), (2, i64 a4), (3, i64 a5), (4, i64 a6), (5, (sFc a7))] [] rfl ?_
 unfold K1k at h
 refine zQ<|yd rfl (ptr (mXc a0 a1 a2)) (TOp.box_s rfl rfl rfl)<|yl rfl (f32 (some 0)) (LOp.le (LOp.assign rfl rfl) (ALe.fl (by kernel_rfl) (by kernel_rfl)))<|zN ?_
 refine yS<|zQ<|ym rfl (i64 a5)<|ya rfl (i64 a5)<|zN ?_
 obtain ⟨z2, hz_2, h⟩ := oS h
 refine RunC.cutN (fun τ Γ => ∃ (y8 : F), WeakLe τ [(1, f32 y8)] ∧ DeadLe Γ [] ∧ z2 = .inl y8) ?_ ?_
 ·refine RunC.block (RunC.loop (RunL.loopM (x := z2) (K1k_s1 a0 a1 a2 a4 a6 a7) (fun (s : F × Int) τ Γ => WeakLe τ [(1, f32 s.1), (2, i64 a4), (4, i64 a6), (5, (sFc a7)), (6, ptr (mXc a0 a1 a2)), (13, i64 s.2)] ∧ DeadLe Γ []) ?_ _ _ _ hz_2 ⟨⟨aR, aR, aR, aR, aR, aR, trivial⟩, trivial⟩))
  rintro ⟨y1, v2⟩ τ2 Γ2 y2_ ⟨hw2, hd2⟩ h2_ ho2 hr2
  refine RunC.wl (τ' := [(1, f32 y1), (2, i64 a4), (4, i64 a6), (5, (sFc a7)), (6, ptr (mXc a0 a1 a2)), (13, i64 v2)]) (Γ' := []) hw2 hd2 ?_
  replace h2_ : K1k_b1 a0 a1 a2 a4 a6 a7 y1 v2 = some y2_ := h2_
  unfold K1k_b1 at h2_
  refine yS<|yS ?_
  rcases oB h2_ with ⟨hc1, h2_⟩ | ⟨hc1, h2_⟩
  ·refine yW<|ym rfl (i64 v2)<|ym rfl (i64 a6)<|yl rfl (b true) (LOp.eqb (LOp.lss rfl rfl rfl) hc1)<|zN ?_
   refine yT<|RunC.skip<|yS<|RunC.block ?_
   obtain ⟨r3, hf2, h2_⟩ := oS h2_
   obtain ⟨e4, he3, h2_⟩ := oS h2_
   obtain ⟨r5, hf4, h2_⟩ := oS h2_
   obtain ⟨x6, hx5, h2_⟩ := oL h2_
   refine RunC.region_draw (Γ' := []) 12 mixed 
    (tm rfl (f32 y1) <|
    (tl rfl (agg (mXc a0 a1 a2)) (yL agg27 siz27) <|
    (tm rfl (i64 a4) <|
    (tm rfl (i64 v2) <|
    (TR.d (r := f32 r3) (fs := []) rfl rfl (TOp.callB (CallAs.func ent46 rfl rfl) (Bors.cons (Bor.agg (bP (bP (bS bN)))) (bP bN0)) rfl rfl (K0p_ok a0 a1 a2 a4 v2 r3 hf2)) <|
    (tm rfl (sFc a7) <|
    (tm rfl (i64 v2) <|
    (tl rfl (ptr [f32 e4]) (LOp.le (LOp.ix (f := f32) und25 siz30 rfl rfl rfl rfl he3) ALe.ptr) <|
    (tl rfl (f32 e4) (y2 agg30) <|
    (TR.d (r := f32 r5) (fs := []) rfl rfl (yc ent29 rfl rfl (bP bN0) (K0u_ok r3 e4 r5 hf4)) <|
    (TR.d (r := f32 x6) (fs := []) rfl rfl (TOp.eqr (TOp.fop (.inr (.inl rfl)) rfl (OpF.tmp rfl) (OpF.tmp rfl)) (congrArg (f .f32) hx5)) <|
    (tl rfl (f32 x6) (LOp.assign rfl rfl) <|
    TR.nil)))))))))))) rfl (by kernel_rfl) rfl fills_nil rfl ?_
   iterate 12 refine ROps.dropS ?_
   refine ROps.drop0<|zN ?_
   refine RunC.wl (τ' := [(1, f32 x6), (2, i64 a4), (4, i64 a6), (5, (sFc a7)), (6, ptr (mXc a0 a1 a2)), (13, i64 v2)]) (Γ' := []) ⟨aR, aR, aR, aR, aR, aR, trivial⟩ trivial ?_
   obtain ⟨x7, hx6, h2_⟩ := oL h2_
   refine yW<|ym rfl (i64 v2)<|yl rfl (i64 x7) (LOp.eqr (LOp.add rfl rfl rfl) (congrArg (ik .i64) hx6))<|ya rfl (i64 x7)<|zN ?_
   cases oI h2_
   exact ⟨_, rfl, ⟨aR, aR, aR, aR, aR, aR, trivial⟩, trivial⟩
  ·refine yW<|ym rfl (i64 v2)<|ym rfl (i64 a6)<|yl rfl (b false) (LOp.eqb (LOp.lss rfl rfl rfl) hc1)<|zN ?_
   refine yF<|RunC.exit ?_
   cases oI h2_
   have hx := ho2 _ rfl
   exact ⟨y1, ⟨aR, trivial⟩, trivial, hx⟩
 ·rintro τ3 Γ3 ⟨y8, hw3, hd3, rfl⟩
  refine RunC.wl hw3 hd3 ?_
  replace h : K1k_k1 y8 = some q0 := h
  unfold K1k_k1 at h
  refine zQ<|ym rfl (f32 y8)<|ya rfl (f32 y8)<|zN ?_
  refine RunC.ret ?_
  have hq := oI h
  subst q0
  exact bR rfl
def K1l_b1 (a0 : Int) (a1 : Int) (a2 : List F) (L3 : List F) (v5 : Int) : Option (LR ((List F) × Int) ((List F)) ((List F))) :=
 bsel (decide (0 ≤ v5)) (
  obind (at? L3 v5) fun (e6 : F) =>
  olet (IntKind.i64.wrap (v5 + 1)) fun (x7 : Int) =>
  obind (K1k a0 a1 a2 e6 v5 x7 a1 L3) fun (r8 : F) =>
  obind (K0p a0 a1 a2 v5 v5) fun (r9 : F) =>
  olet (fop .quo .f32 r8 r9) fun (x10 : F) =>
  obind (setAt? L3 v5 x10) fun (L11 : List F) =>
  olet (IntKind.i64.wrap (v5 - 1)) fun (x12 : Int) =>
  some (LR.next (L11, x12))) (
  some (LR.out L3))
def K1l_s1 (a0 : Int) (a1 : Int) (a2 : List F) : ((List F) × Int) → Option (LR ((List F) × Int) ((List F)) ((List F))) := fun s => K1l_b1 a0 a1 a2 s.1 s.2
def K1l_k1 (L13 : List F) : Option ((List F)) :=
 some L13
def K1l (a0 : Int) (a1 : Int) (a2 : List F) (a3 : List F) : Option ((List F)) :=
 obind (K0m a3) fun (r1 : List F) =>
 olet (IntKind.i64.wrap (a0 - 1)) fun (x2 : Int) =>
 obind (loopM (K1l_s1 a0 a1 a2) (r1, x2)) fun z => osum z (fun e => K1l_k1 e) (fun r => some r)
theorem K1l_ok (a0 : Int) (a1 : Int) (a2 : List F) (a3 : List F) (q0 : List F) (h : K1l a0 a1 a2 a3 = some q0) : Ev Tryz.prog 94 [agg (mXc a0 a1 a2), (sFc a3)] [] (oref 0 0 0 q0.length) [oF 0 q0] := by
 refine yE Tryz.func94 1 75 0 [(0, agg (mXc a0 a1 a2)), (1, (sFc a3))] [o0] rfl ?_
 unfold K1l at h
 refine zQ<|yd rfl (ptr (mXc a0 a1 a2)) (TOp.box_s rfl rfl rfl)<|ya rfl nilsl<|zN ?_
 refine yS ?_
 obtain ⟨r1, hf1, h⟩ := oS h
 refine yW<|ym rfl (sFc a3)<|ye rfl (oref 0 1 0 r1.length) [oF 1 r1] (TOp.callBN (ls := [(r1.map f32)]) [0] (CallAs.func ent79 rfl rfl) (bS bN) rfl (K0m_ok a3 r1 hf1) (and_all (lts0_map (f := f32) (fun _ => rfl) _) rfl) (and_all (noss_map (f := f32) (fun _ => rfl) _) rfl) rfl (by decide) (ns_of ⟨⟨_, rfl⟩, trivial⟩))<|ya rfl (oref 0 1 0 r1.length)<|zN ?_
 refine yS<|yS ?_
 obtain ⟨x2, hx2, h⟩ := oL h
 refine yW<|yl rfl (ptr (mXc a0 a1 a2)) (LOp.fap und27 rfl siz2 rfl rfl rfl)<|yl rfl (i64 a0) (y2 agg2)<|yl rfl (i64 x2) (LOp.eqr (LOp.sub rfl rfl rfl) (congrArg (ik .i64) hx2))<|ya rfl (i64 x2)<|zN ?_
 obtain ⟨z2, hz_2, h⟩ := oS h
 refine RunC.cutN (fun τ Γ => ∃ (L13 : List F), L13.length = r1.length ∧ WeakLe τ [(5, oref 0 1 0 r1.length)] ∧ DeadLe Γ [oF 1 L13] ∧ z2 = .inl L13) ?_ ?_
 ·refine RunC.block (RunC.loop (RunL.loopM (x := z2) (K1l_s1 a0 a1 a2) (fun (s : (List F) × Int) τ Γ => s.1.length = r1.length ∧ WeakLe τ [(2, ptr (mXc a0 a1 a2)), (5, oref 0 1 0 r1.length), (6, i64 s.2)] ∧ DeadLe Γ [⟨1, some (s.1.map f32)⟩]) ?_ _ _ _ hz_2 ⟨rfl, ⟨aR, aR, aR, trivial⟩, ⟨⟨rfl, .inr rfl⟩, trivial⟩⟩))
  rintro ⟨L3, v5⟩ τ2 Γ2 y2_ ⟨hl4, hw2, hd2⟩ h2_ ho2 hr2
  refine RunC.wl (τ' := [(2, ptr (mXc a0 a1 a2)), (5, oref 0 1 0 r1.length), (6, i64 v5)]) (Γ' := [oF 1 L3]) hw2 hd2 ?_
  replace hl4 : L3.length = r1.length := hl4
  replace h2_ : K1l_b1 a0 a1 a2 L3 v5 = some y2_ := h2_
  unfold K1l_b1 at h2_
  refine yS<|yS ?_
  rcases oB h2_ with ⟨hc3, h2_⟩ | ⟨hc3, h2_⟩
  ·refine yW<|ym rfl (i64 v5)<|yl rfl (b true) (LOp.eqb (LOp.geq rfl rfl rfl) hc3)<|zN ?_
   refine yT<|RunC.skip<|yS<|RunC.block ?_
   obtain ⟨e6, he4, h2_⟩ := oS h2_
   obtain ⟨x7, hx5, h2_⟩ := oL h2_
   obtain ⟨r8, hf6, h2_⟩ := oS h2_
   obtain ⟨r9, hf7, h2_⟩ := oS h2_
   obtain ⟨x10, hx8, h2_⟩ := oL h2_
   obtain ⟨L11, he9, h2_⟩ := oS h2_
   refine RunC.region_draw (Γ' := [oF 1 L3]) 20 mixed 
    (tm rfl (oref 0 1 0 r1.length) <|
    (tm rfl (i64 v5) <|
    (tl rfl (agg (mXc a0 a1 a2)) (yL agg27 siz27) <|
    (tm rfl (oref 0 1 0 r1.length) <|
    (tm rfl (i64 v5) <|
    (TR.d (r := optr 0 1 v5.toNat) (fs := []) rfl rfl (TOp.ixo und25 siz30 rfl rfl rfl (at_in he4 hl4) rfl) <|
    (TR.d (r := f32 e6) (fs := []) rfl rfl (TOp.load1_o rfl (at_cell he4) agg30 rfl rfl) <|
    (tm rfl (i64 v5) <|
    (tm rfl (i64 v5) <|
    (tl rfl (i64 x7) (LOp.eqr (LOp.add rfl rfl rfl) (congrArg (ik .i64) hx5)) <|
    (tl rfl (ptr [i64 a1, (sFc a2)]) (LOp.fap und27 rfl siz2 rfl rfl rfl) <|
    (tl rfl (i64 a1) (y2 agg2) <|
    (tm rfl (oref 0 1 0 r1.length) <|
    (TR.d (r := f32 r8) (fs := []) rfl rfl (TOp.callB (CallAs.func ent93 rfl rfl) (Bors.cons (Bor.agg (bP (bP (bS bN)))) (bP (bP (bP (bP (Bors.cons (Bor.own (f := f32) (fun _ => rfl) rfl hl4) bN)))))) rfl rfl (K1k_ok a0 a1 a2 e6 v5 x7 a1 L3 r8 hf6)) <|
    (tl rfl (agg (mXc a0 a1 a2)) (yL agg27 siz27) <|
    (tm rfl (i64 v5) <|
    (tm rfl (i64 v5) <|
    (TR.d (r := f32 r9) (fs := []) rfl rfl (TOp.callB (CallAs.func ent46 rfl rfl) (Bors.cons (Bor.agg (bP (bP (bS bN)))) (bP bN0)) rfl rfl (K0p_ok a0 a1 a2 v5 v5 r9 hf7)) <|
    (TR.d (r := f32 x10) (fs := []) rfl rfl (TOp.eqr (TOp.fop (.inr (.inr (.inr rfl))) rfl (OpF.tmp rfl) (OpF.tmp rfl)) (congrArg (f .f32) hx8)) <|
    (TR.d (r := optr 0 1 v5.toNat) (fs := []) rfl rfl (TOp.ixo und25 siz30 rfl rfl rfl (set_in he9 hl4) rfl) <|
    TR.nil)))))))))))))))))))) rfl (by kernel_rfl) rfl fills_nil rfl ?_
   iterate 20 refine ROps.dropS ?_
   refine ROps.drop0<|ROps.st (f := f32) (i := v5) (Γ' := [oF 1 L11]) rfl siz30 rfl rfl rfl aR rfl rfl rfl he9 rfl<|zN ?_
   refine RunC.wl (τ' := [(2, ptr (mXc a0 a1 a2)), (5, oref 0 1 0 r1.length), (6, i64 v5)]) (Γ' := [oF 1 L11]) ⟨aR, aR, aR, trivial⟩ ⟨⟨rfl, .inr rfl⟩, trivial⟩ ?_
   obtain ⟨x12, hx10, h2_⟩ := oL h2_
   refine yW<|ym rfl (i64 v5)<|yl rfl (i64 x12) (LOp.eqr (LOp.sub rfl rfl rfl) (congrArg (ik .i64) hx10))<|ya rfl (i64 x12)<|zN ?_
   cases oI h2_
   exact ⟨_, rfl, ((setAt?_len he9).trans hl4), ⟨aR, aR, aR, trivial⟩, ⟨⟨rfl, .inr rfl⟩, trivial⟩⟩
  ·refine yW<|ym rfl (i64 v5)<|yl rfl (b false) (LOp.eqb (LOp.geq rfl rfl rfl) hc3)<|zN ?_
   refine yF<|RunC.exit ?_
   cases oI h2_
   have hx := ho2 _ rfl
   exact ⟨L3, hl4, ⟨aR, trivial⟩, ⟨⟨rfl, .inr rfl⟩, trivial⟩, hx⟩
 ·rintro τ3 Γ3 ⟨L13, hl14, hw3, hd3, rfl⟩
  refine RunC.wl hw3 hd3 ?_
  replace h : K1l_k1 L13 = some q0 := h
  unfold K1l_k1 at h
  refine zQ<|ym rfl (oref 0 1 0 r1.length)<|ya rfl (oref 0 1 0 r1.length)<|zN ?_
  refine RunC.ret ?_
  have hq := oI h
  subst q0
  exact yB (oref 0 1 0 L13.length) [(0, 1)] (Res.eq (Res.one rfl (RV.tmp rfl)) (by first | rfl | (rw [(show L13.length = r1.length from hl14)] <;> rfl))) (sA rfl trivial)
def K1m_b1 (a3 : List Int) (a4 : List F) (L3 : List F) (v4 : Int) : Option (LR ((List F) × Int) ((List F)) ((List F))) :=
 bsel (decide (v4 < (a3.length : Int))) (
  obind (at? a3 v4) fun (e5 : Int) =>
  obind (at? a4 e5) fun (e6 : F) =>
  need (apok 4 L3.length 1) <|
  olet (IntKind.i64.wrap (v4 + 1)) fun (x7 : Int) =>
  some (LR.next ((L3 ++ ([e6] : List F)), x7))) (
  some (LR.out L3))
def K1m_s1 (a3 : List Int) (a4 : List F) : ((List F) × Int) → Option (LR ((List F) × Int) ((List F)) ((List F))) := fun s => K1m_b1 a3 a4 s.1 s.2
def K1m_b2 (a0 : Int) (a1 : Int) (a2 : List F) (L11 : List F) (v13 : Int) : Option (LR ((List F) × Int) ((List F)) ((List F))) :=
 bsel (decide (v13 < a0)) (
  obind (at? L11 v13) fun (e14 : F) =>
  obind (K1k a0 a1 a2 e14 v13 0 v13 L11) fun (r15 : F) =>
  obind (setAt? L11 v13 r15) fun (L16 : List F) =>
  olet (IntKind.i64.wrap (v13 + 1)) fun (x17 : Int) =>
  some (LR.next (L16, x17))) (
  some (LR.out L11))
def K1m_s2 (a0 : Int) (a1 : Int) (a2 : List F) : ((List F) × Int) → Option (LR ((List F) × Int) ((List F)) ((List F))) := fun s => K1m_b2 a0 a1 a2 s.1 s.2
def K1m_k2 (a0 : Int) (a1 : Int) (a2 : List F) (L18 : List F) : Option ((List F)) :=
 obind (K1l a0 a1 a2 L18) fun (r20 : List F) =>
 some r20
def K1m_k1 (a0 : Int) (a1 : Int) (a2 : List F) (L10 : List F) : Option ((List F)) :=
 obind (loopM (K1m_s2 a0 a1 a2) (L10, 1)) fun z => osum z (fun e => K1m_k2 a0 a1 a2 e) (fun r => some r)
def K1m (a0 : Int) (a1 : Int) (a2 : List F) (a3 : List Int) (a4 : List F) : Option ((List F)) :=
 obind (loopM (K1m_s1 a3 a4) (([] : List F), 0)) fun z => osum z (fun e => K1m_k1 a0 a1 a2 e) (fun r => some r)
theorem K1m_ok (a0 : Int) (a1 : Int) (a2 : List F) (a3 : List Int) (a4 : List F) (q0 : List F) (h : K1m a0 a1 a2 a3 a4 = some q0) : Ev Tryz.prog 66 [agg [i64 a0, i64 a1, (sFc a2), sl a3.length (a3.map i64)], (sFc a4)] [] (oref 0 0 0 q0.length) [oF 0 q0] := by
 refine yE Tryz.func66 2 103 0 ([(0, agg [i64 a0, i64 a1, (sFc a2), sl a3.length (a3.map i64)]), (1, (sFc a4))]) [o0, o0] rfl ?_
 unfold K1m at h
 refine zQ<|yd rfl (ptr [i64 a0, i64 a1, (sFc a2), sl a3.length (a3.map i64)]) (TOp.box_s rfl rfl rfl)<|ya rfl nilsl<|zN ?_
 refine zQ<|yl rfl (ptr [i64 a0, i64 a1, (sFc a2), sl a3.length (a3.map i64)]) (LOp.fap und41 rfl siz27 rfl rfl rfl)<|yl rfl (ptr [i64 a0, i64 a1, (sFc a2), sl a3.length (a3.map i64)]) (LOp.fap und27 rfl siz2 rfl rfl rfl)<|yl rfl (i64 a0) (y2 agg2)<|ye rfl (oref 0 1 0 0) ([⟨1, some (([] : List F).map f32)⟩, o0]) (TOp.buildSlice_o (g := o0) (za := f32 (some 0)) (qs := []) 0 rfl und25 siz30 zer30 rfl zel30 rfl rfl trivial rfl)<|ya rfl (i64 a0)<|ya rfl (oref 0 1 0 0)<|zN ?_
 refine yS<|zQ<|yl rfl (ptr [sl a3.length (a3.map i64)]) (LOp.fap und41 rfl siz39 rfl rfl rfl)<|yl rfl (sl a3.length (a3.map i64)) (y2 agg39)<|yl rfl (i64 (a3.length : Int)) (LOp.len_sl und39 rfl rfl)<|ym rfl (i64 0)<|zN ?_
 obtain ⟨z3, hz_3, h⟩ := oS h
 refine RunC.cutN (fun τ Γ => ∃ (L10 : List F) (u8 : Nat) (u9 : Nat), WeakLe τ [(2, ptr [i64 a0, i64 a1, (sFc a2), sl a3.length (a3.map i64)]), (5, i64 a0), (6, oref 0 u8 0 L10.length)] ∧ DeadLe Γ [⟨u8, some (L10.map f32)⟩, ⟨u9, none⟩] ∧ z3 = .inl L10) ?_ ?_
 ·refine RunC.block (RunC.loop (RunL.loopM (x := z3) (K1m_s1 a3 a4) (fun (s : (List F) × Int) τ Γ => ∃ (u1 : Nat) (u2 : Nat), WeakLe τ [(1, (sFc a4)), (2, ptr [i64 a0, i64 a1, (sFc a2), sl a3.length (a3.map i64)]), (5, i64 a0), (6, oref 0 u1 0 s.1.length), (15, sl a3.length (a3.map i64)), (16, i64 (a3.length : Int)), (17, i64 s.2)] ∧ DeadLe Γ [⟨u1, some (s.1.map f32)⟩, ⟨u2, none⟩]) ?_ _ _ _ hz_3 ⟨1, 0, ⟨aR, aR, aR, aR, aR, aR, aR, trivial⟩, ⟨⟨rfl, .inr rfl⟩, ⟨rfl, .inl rfl⟩, trivial⟩⟩))
  rintro ⟨L3, v4⟩ τ3 Γ3 y3_ ⟨u1, u2, hw3, hd3⟩ h3_ ho3 hr3
  refine RunC.wl (τ' := [(1, (sFc a4)), (2, ptr [i64 a0, i64 a1, (sFc a2), sl a3.length (a3.map i64)]), (5, i64 a0), (6, oref 0 u1 0 L3.length), (15, sl a3.length (a3.map i64)), (16, i64 (a3.length : Int)), (17, i64 v4)]) (Γ' := [⟨u1, some (L3.map f32)⟩, ⟨u2, none⟩]) hw3 hd3 ?_
  replace h3_ : K1m_b1 a3 a4 L3 v4 = some y3_ := h3_
  unfold K1m_b1 at h3_
  refine yS ?_
  rcases oB h3_ with ⟨hc1, h3_⟩ | ⟨hc1, h3_⟩
  ·refine yW<|yl rfl (b true) (LOp.eqb (LOp.lss rfl rfl rfl) hc1)<|zN ?_
   refine yS<|yT<|RunC.skip<|yS<|RunC.block<|yS ?_
   obtain ⟨e5, he2, h3_⟩ := oS h3_
   refine yW<|yl rfl (ptr [i64 e5]) (LOp.le (LOp.ix (f := i64) und39 siz2 rfl rfl rfl rfl he2) ALe.ptr)<|yl rfl (i64 e5) (y2 agg2)<|ya rfl (i64 e5)<|zN ?_
   obtain ⟨e6, he3, h3_⟩ := oS h3_
   obtain ⟨hm4, h3_⟩ := need_some h3_
   refine yW<|ym rfl (oref 0 u1 0 L3.length)<|ym rfl (sFc a4)<|ym rfl (i64 e5)<|yl rfl (ptr [f32 e6]) (LOp.le (LOp.ix (f := f32) und25 siz30 rfl rfl rfl rfl he3) ALe.ptr)<|yl rfl (f32 e6) (y2 agg30)<|ye rfl (oref 1 (u2 + 1) 0 1) ([⟨u1, some (L3.map f32)⟩, ⟨(u2 + 1), some (([e6] : List F).map f32)⟩]) (TOp.buildSlice_o (g := ⟨u2, none⟩) (za := f32 (some 0)) (qs := [(0, [f32 e6])]) 1 rfl und25 siz30 zer30 rfl zel30 rfl rfl ⟨rfl, ⟨_, ALe.refl _, rfl⟩, trivial⟩ rfl)<|ROps.app (f := f32) (xs := L3) (ys := ([e6] : List F)) (Γ' := [⟨(u1 + 1), some ((L3 ++ ([e6] : List F)).map f32)⟩, ⟨(u2 + 1), some (([e6] : List F).map f32)⟩]) rfl pun25 inf30 rfl rfl rfl rfl rfl rfl rfl rfl rfl (by simp) (ReadAs.own rfl (by simp)) (ones_map (fun _ => rfl)) (ap_by hm4) (ap_mx hm4) rfl<|ya rfl (oref 0 (u1 + 1) 0 (L3.length + 1))<|zN ?_
   refine RunC.wl (τ' := [(1, (sFc a4)), (2, ptr [i64 a0, i64 a1, (sFc a2), sl a3.length (a3.map i64)]), (5, i64 a0), (6, oref 0 (u1 + 1) 0 (L3.length + 1)), (15, sl a3.length (a3.map i64)), (16, i64 (a3.length : Int)), (17, i64 v4)]) (Γ' := [⟨(u1 + 1), some ((L3 ++ ([e6] : List F)).map f32)⟩, ⟨(u2 + 1), none⟩]) ⟨aR, aR, aR, aR, aR, aR, aR, trivial⟩ ⟨⟨rfl, .inr rfl⟩, ⟨rfl, .inl rfl⟩, trivial⟩ ?_
   obtain ⟨x7, hx5, h3_⟩ := oL h3_
   refine yW<|yl rfl (i64 x7) (LOp.eqr (LOp.add rfl rfl rfl) (congrArg (ik .i64) hx5))<|ym rfl (i64 x7)<|zN ?_
   cases oI h3_
   exact ⟨_, rfl, (u1 + 1), (u2 + 1), ⟨aR, aR, aR, (ALe.eq (by rw [(app_len rfl rfl)] <;> rfl)), aR, aR, aR, trivial⟩, ⟨⟨rfl, .inr rfl⟩, ⟨rfl, .inl rfl⟩, trivial⟩⟩
  ·refine yW<|yl rfl (b false) (LOp.eqb (LOp.lss rfl rfl rfl) hc1)<|zN ?_
   refine yS<|yF<|RunC.exit ?_
   cases oI h3_
   have hx := ho3 _ rfl
   exact ⟨L3, u1, u2, ⟨aR, aR, aR, trivial⟩, ⟨⟨rfl, .inr rfl⟩, ⟨rfl, .inl rfl⟩, trivial⟩, hx⟩
 ·rintro τ4 Γ4 ⟨L10, u8, u9, hw4, hd4, rfl⟩
  refine RunC.wl hw4 hd4 ?_
  replace h : K1m_k1 a0 a1 a2 L10 = some q0 := h
  unfold K1m_k1 at h
  refine yS<|zQ<|ya rfl (i64 1)<|zN ?_
  obtain ⟨z5, hz_5, h⟩ := oS h
  refine RunC.cutN (fun τ Γ => ∃ (L18 : List F), L18.length = L10.length ∧ WeakLe τ [(2, ptr [i64 a0, i64 a1, (sFc a2), sl a3.length (a3.map i64)]), (6, oref 0 u8 0 L10.length)] ∧ DeadLe Γ [⟨u8, some (L18.map f32)⟩, ⟨u9, none⟩] ∧ z5 = .inl L18) ?_ ?_
  ·refine RunC.block (RunC.loop (RunL.loopM (x := z5) (K1m_s2 a0 a1 a2) (fun (s : (List F) × Int) τ Γ => s.1.length = L10.length ∧ WeakLe τ [(2, ptr [i64 a0, i64 a1, (sFc a2), sl a3.length (a3.map i64)]), (5, i64 a0), (6, oref 0 u8 0 L10.length), (9, i64 s.2)] ∧ DeadLe Γ [⟨u8, some (s.1.map f32)⟩, ⟨u9, none⟩]) ?_ _ _ _ hz_5 ⟨rfl, ⟨aR, aR, aR, aR, trivial⟩, ⟨⟨rfl, .inr rfl⟩, ⟨rfl, .inl rfl⟩, trivial⟩⟩))
   rintro ⟨L11, v13⟩ τ5 Γ5 y5_ ⟨hl12, hw5, hd5⟩ h5_ ho5 hr5
   refine RunC.wl (τ' := [(2, ptr [i64 a0, i64 a1, (sFc a2), sl a3.length (a3.map i64)]), (5, i64 a0), (6, oref 0 u8 0 L10.length), (9, i64 v13)]) (Γ' := [⟨u8, some (L11.map f32)⟩, ⟨u9, none⟩]) hw5 hd5 ?_
   replace hl12 : L11.length = L10.length := hl12
   replace h5_ : K1m_b2 a0 a1 a2 L11 v13 = some y5_ := h5_
   unfold K1m_b2 at h5_
   refine yS<|yS ?_
   rcases oB h5_ with ⟨hc6, h5_⟩ | ⟨hc6, h5_⟩
   ·refine yW<|ym rfl (i64 v13)<|ym rfl (i64 a0)<|yl rfl (b true) (LOp.eqb (LOp.lss rfl rfl rfl) hc6)<|zN ?_
    refine yT<|RunC.skip<|yS<|RunC.block ?_
    obtain ⟨e14, he7, h5_⟩ := oS h5_
    obtain ⟨r15, hf8, h5_⟩ := oS h5_
    obtain ⟨L16, he9, h5_⟩ := oS h5_
    refine RunC.region_draw (Γ' := [⟨u8, some (L11.map f32)⟩, ⟨u9, none⟩]) 13 mixed 
     (tm rfl (oref 0 u8 0 L10.length) <|
     (tm rfl (i64 v13) <|
     (tl rfl (ptr [i64 a0, i64 a1, (sFc a2), sl a3.length (a3.map i64)]) (LOp.fap und41 rfl siz27 rfl rfl rfl) <|
     (tl rfl (agg (mXc a0 a1 a2)) (yL agg27 siz27) <|
     (tm rfl (oref 0 u8 0 L10.length) <|
     (tm rfl (i64 v13) <|
     (TR.d (r := optr 0 u8 v13.toNat) (fs := []) rfl rfl (TOp.ixo und25 siz30 rfl rfl rfl (at_in he7 hl12) rfl) <|
     (TR.d (r := f32 e14) (fs := []) rfl rfl (TOp.load1_o rfl (at_cell he7) agg30 rfl rfl) <|
     (tm rfl (i64 v13) <|
     (tm rfl (i64 v13) <|
     (tm rfl (oref 0 u8 0 L10.length) <|
     (TR.d (r := f32 r15) (fs := []) rfl rfl (TOp.callB (CallAs.func ent93 rfl rfl) (Bors.cons (Bor.agg (bP (bP (bS bN)))) (bP (bP (bP (bP (Bors.cons (Bor.own (f := f32) (fun _ => rfl) rfl hl12) bN)))))) rfl rfl (K1k_ok a0 a1 a2 e14 v13 0 v13 L11 r15 hf8)) <|
     (TR.d (r := optr 0 u8 v13.toNat) (fs := []) rfl rfl (TOp.ixo und25 siz30 rfl rfl rfl (set_in he9 hl12) rfl) <|
     TR.nil))))))))))))) rfl (by kernel_rfl) rfl fills_nil rfl ?_
    iterate 13 refine ROps.dropS ?_
    refine ROps.drop0<|ROps.st (f := f32) (i := v13) (Γ' := [⟨u8, some (L16.map f32)⟩, ⟨u9, none⟩]) rfl siz30 rfl rfl rfl aR rfl rfl rfl he9 rfl<|zN ?_
    refine RunC.wl (τ' := [(2, ptr [i64 a0, i64 a1, (sFc a2), sl a3.length (a3.map i64)]), (5, i64 a0), (6, oref 0 u8 0 L10.length), (9, i64 v13)]) (Γ' := [⟨u8, some (L16.map f32)⟩, ⟨u9, none⟩]) ⟨aR, aR, aR, aR, trivial⟩ ⟨⟨rfl, .inr rfl⟩, ⟨rfl, .inl rfl⟩, trivial⟩ ?_
    obtain ⟨x17, hx10, h5_⟩ := oL h5_
    refine yW<|ym rfl (i64 v13)<|yl rfl (i64 x17) (LOp.eqr (LOp.add rfl rfl rfl) (congrArg (ik .i64) hx10))<|ya rfl (i64 x17)<|zN ?_
    cases oI h5_
    exact ⟨_, rfl, ((setAt?_len he9).trans hl12), ⟨aR, aR, aR, aR, trivial⟩, ⟨⟨rfl, .inr rfl⟩, ⟨rfl, .inl rfl⟩, trivial⟩⟩
   ·refine yW<|ym rfl (i64 v13)<|ym rfl (i64 a0)<|yl rfl (b false) (LOp.eqb (LOp.lss rfl rfl rfl) hc6)<|zN ?_
    refine yF<|RunC.exit ?_
    cases oI h5_
    have hx := ho5 _ rfl
    exact ⟨L11, hl12, ⟨aR, aR, trivial⟩, ⟨⟨rfl, .inr rfl⟩, ⟨rfl, .inl rfl⟩, trivial⟩, hx⟩
  ·rintro τ6 Γ6 ⟨L18, hl19, hw6, hd6, rfl⟩
   refine RunC.wl hw6 hd6 ?_
   replace h : K1m_k2 a0 a1 a2 L18 = some q0 := h
   unfold K1m_k2 at h
   refine yS ?_
   obtain ⟨r20, hf11, h⟩ := oS h
   refine yW<|yl rfl (ptr [i64 a0, i64 a1, (sFc a2), sl a3.length (a3.map i64)]) (LOp.fap und41 rfl siz27 rfl rfl rfl)<|yl rfl (agg (mXc a0 a1 a2)) (yL agg27 siz27)<|ym rfl (oref 0 u8 0 L10.length)<|ye rfl (oref 1 (u9 + 1) 0 r20.length) [⟨u8, some (L18.map f32)⟩, oF (u9 + 1) r20] (TOp.eqr (TOp.callBN (ls := [(r20.map f32)]) [1] (CallAs.func ent94 rfl rfl) (Bors.cons (Bor.agg (bP (bP (bS bN)))) (Bors.cons (Bor.own (f := f32) (fun _ => rfl) rfl hl19) bN)) rfl (K1l_ok a0 a1 a2 L18 r20 hf11) (and_all (lts0_map (f := f32) (fun _ => rfl) _) rfl) (and_all (noss_map (f := f32) (fun _ => rfl) _) rfl) rfl (by decide) (ns_of ⟨⟨_, rfl⟩, trivial⟩)) (by simp [ren, rens, sigma, newNames]))<|ya rfl (oref 1 (u9 + 1) 0 r20.length)<|zN ?_
   refine RunC.ret ?_
   have hq := oI h
   subst q0
   exact bodyQ.mk (r' := oref 1 (u9 + 1) 0 r20.length) [(1, (u9 + 1))] (.inr rfl) rfl (ndB_ok rfl) (by simp [ren, rens, sigma]) rfl (Res.one rfl (RV.tmp rfl)) (sA rfl trivial)
def K1n_b1 (a0 : Int) (a1 : Int) (a2 : Int) (a3 : List F) (a4 : List F) (L1 : List F) (v3 : Int) : Option (LR ((List F) × Int) ((List F)) ((List F))) :=
 bsel (decide (v3 < a0)) (
  obind (at? a3 v3) fun (e5 : F) =>
  obind (K0r a0 a1 v3 a2 e5 L1) fun (r6 : List F) =>
  need (decide (r6.length = a4.length)) <|
  olet (IntKind.i64.wrap (v3 + 1)) fun (x7 : Int) =>
  some (LR.next (r6, x7))) (
  some (LR.out L1))
def K1n_s1 (a0 : Int) (a1 : Int) (a2 : Int) (a3 : List F) (a4 : List F) : ((List F) × Int) → Option (LR ((List F) × Int) ((List F)) ((List F))) := fun s => K1n_b1 a0 a1 a2 a3 a4 s.1 s.2
def K1n_k1 (L8 : List F) : Option ((List F)) :=
 some L8
def K1n (a0 : Int) (a1 : Int) (a2 : Int) (a3 : List F) (a4 : List F) : Option ((List F)) :=
 obind (loopM (K1n_s1 a0 a1 a2 a3 a4) (a4, 0)) fun z => osum z (fun e => K1n_k1 e) (fun r => some r)
theorem K1n_ok (a0 : Int) (a1 : Int) (a2 : Int) (a3 : List F) (a4 : List F) (q0 : List F) (h : K1n a0 a1 a2 a3 a4 = some q0) : Ev Tryz.prog 65 [agg (oXc a0 a1 0 0 a4.length), i64 a2, (sFc a3)] [oF 0 a4] (tup []) [oF 0 q0] := by
 refine Ev.start Tryz.func65 rfl rfl 0 (τ := [(0, agg (oXc a0 a1 0 0 a4.length)), (1, i64 a2), (2, (sFc a3))]) rfl (Γ' := [oF 0 a4]) rfl (n := 42) rfl (g := 1) rfl (by decide) ?_
 unfold K1n at h
 refine zQ<|yd rfl (ptr (oXc a0 a1 0 0 a4.length)) (TOp.box_s rfl rfl rfl)<|zN ?_
 refine zQ<|yl rfl (ptr (oXc a0 a1 0 0 a4.length)) (LOp.fap und27 rfl siz2 rfl rfl rfl)<|yl rfl (i64 a0) (y2 agg2)<|ym rfl (i64 0)<|zN ?_
 obtain ⟨z2, hz_2, h⟩ := oS h
 refine RunC.cutN (fun τ Γ => ∃ (L8 : List F), L8.length = a4.length ∧ WeakLe τ [] ∧ DeadLe Γ [oF 0 L8] ∧ z2 = .inl L8) ?_ ?_
 ·refine RunC.block (RunC.loop (RunL.loopM (x := z2) (K1n_s1 a0 a1 a2 a3 a4) (fun (s : (List F) × Int) τ Γ => s.1.length = a4.length ∧ WeakLe τ [(1, i64 a2), (2, (sFc a3)), (3, ptr (oXc a0 a1 0 0 a4.length)), (8, i64 a0), (9, i64 s.2)] ∧ DeadLe Γ [⟨0, some (s.1.map f32)⟩]) ?_ _ _ _ hz_2 ⟨rfl, ⟨aR, aR, aR, aR, aR, trivial⟩, ⟨⟨rfl, .inr rfl⟩, trivial⟩⟩))
  rintro ⟨L1, v3⟩ τ2 Γ2 y2_ ⟨hl2, hw2, hd2⟩ h2_ ho2 hr2
  refine RunC.wl (τ' := [(1, i64 a2), (2, (sFc a3)), (3, ptr (oXc a0 a1 0 0 a4.length)), (8, i64 a0), (9, i64 v3)]) (Γ' := [oF 0 L1]) hw2 hd2 ?_
  replace hl2 : L1.length = a4.length := hl2
  replace h2_ : K1n_b1 a0 a1 a2 a3 a4 L1 v3 = some y2_ := h2_
  unfold K1n_b1 at h2_
  refine yS ?_
  rcases oB h2_ with ⟨hc1, h2_⟩ | ⟨hc1, h2_⟩
  ·refine yW<|yl rfl (b true) (LOp.eqb (LOp.lss rfl rfl rfl) hc1)<|zN ?_
   refine yS<|yT<|RunC.skip<|yS<|RunC.block<|zQ<|ym rfl (i64 v3)<|ya rfl (i64 v3)<|zN ?_
   obtain ⟨e5, he3, h2_⟩ := oS h2_
   obtain ⟨r6, hf4, h2_⟩ := oS h2_
   obtain ⟨hn5, h2_⟩ := need_some h2_
   refine RunC.region_draw (Γ' := [oF 0 L1]) 7 mixed 
    (tl rfl (agg (oXc a0 a1 0 0 a4.length)) (yL agg27 siz27) <|
    (tm rfl (i64 v3) <|
    (tm rfl (i64 a2) <|
    (tm rfl (sFc a3) <|
    (tm rfl (i64 v3) <|
    (tl rfl (ptr [f32 e5]) (LOp.le (LOp.ix (f := f32) und25 siz30 rfl rfl rfl rfl he3) ALe.ptr) <|
    (tl rfl (f32 e5) (y2 agg30) <|
    TR.nil))))))) rfl (by kernel_rfl) rfl fills_nil rfl ?_
   iterate 7 refine ROps.dropS ?_
   refine ROps.drop0<|ROps.callO (A := [agg (oXc a0 a1 0 0 a4.length), i64 v3, i64 a2, f32 e5]) (args := [agg (oXc a0 a1 0 0 L1.length), i64 v3, i64 a2, f32 e5]) (Γc := [oF 0 L1]) (Γc' := [oF 0 r6]) (r' := tup []) (Γ' := [oF 0 r6]) [(0, 0)] [] rfl (CallAs.func ent81 rfl rfl) rfl rfl (SelOk.of (ndB_ok rfl) (sA rfl trivial)) (live_of ⟨⟨_, _, rfl⟩, trivial⟩) (by simp [ren, rens, sigma, rens_f32, rens_f64, rens_i64, rens_ik, rens_str, rens_cp, hl2]) rfl (K0r_ok a0 a1 v3 a2 e5 L1 r6 hf4) rfl (news_of trivial) (ndB_ok rfl) (by simp [ren, rens, sigma, of_decide_eq_true hn5]) (by simp [backOb, sigma, ren, rens, rens_f32, rens_f64, rens_i64, rens_ik, rens_str, rens_cp] <;> omega)<|zN ?_
   obtain ⟨x7, hx6, h2_⟩ := oL h2_
   refine yW<|yl rfl (i64 x7) (LOp.eqr (LOp.add rfl rfl rfl) (congrArg (ik .i64) hx6))<|ym rfl (i64 x7)<|zN ?_
   cases oI h2_
   exact ⟨_, rfl, (of_decide_eq_true hn5), ⟨aR, aR, aR, aR, aR, trivial⟩, ⟨⟨rfl, .inr rfl⟩, trivial⟩⟩
  ·refine yW<|yl rfl (b false) (LOp.eqb (LOp.lss rfl rfl rfl) hc1)<|zN ?_
   refine yS<|yF<|RunC.exit ?_
   cases oI h2_
   have hx := ho2 _ rfl
   exact ⟨L1, hl2, trivial, ⟨⟨rfl, .inr rfl⟩, trivial⟩, hx⟩
 ·rintro τ3 Γ3 ⟨L8, hl9, hw3, hd3, rfl⟩
  replace h : K1n_k1 L8 = some q0 := h
  unfold K1n_k1 at h
  refine bodyQ.wl hw3 hd3 ?_
  have hq := oI h
  subst q0
  exact yB (tup []) [(0, 0)] (Res.zero rfl) (SelL.arr (f := f32) (fun _ => rfl) rfl trivial)
end
end Go.Proofs.YtcifbefhglffhaaGreat
