/- Generated. -/
import Derived.Test.YtfhbfpdeafpelaaTys
namespace Go.Proofs.Ytfhbfpdeafpelaa
open Go Go.AM Go.AM.AV
set_option maxRecDepth 20000
set_option maxHeartbeats 4000000
set_option linter.unusedVariables false
set_option linter.unusedSimpArgs false
noncomputable section

def K00 (a0 : List Int) (a1 : List Int) : Option (Bool) :=
 bsel (decide (1048576 < (a0.length : Int))) (
  some true) (
  some (decide (1048576 < (a1.length : Int))))
theorem K00_ok (a0 : List Int) (a1 : List Int) (q0 : Bool) (h : K00 a0 a1 = some q0) : Ev Try.prog 18 [sl a0.length (a0.map (ik .u8)), sl a1.length (a1.map (ik .u8))] [] (b q0) [] := by
 refine yE Try.func18 0 27 0 [(0, sl a0.length (a0.map (ik .u8))), (1, sl a1.length (a1.map (ik .u8)))] [] rfl ?_
 unfold K00 at h
 refine zQ<|ya rfl (b false)<|zN ?_
 refine yS ?_
 rcases oB h with ⟨hc1, h⟩ | ⟨hc1, h⟩
 ·refine yW<|ym rfl (sl a0.length (a0.map (ik .u8)))<|yl rfl (i64 (a0.length : Int)) (LOp.len_sl und38 rfl rfl)<|yl rfl (b true) (LOp.eqb (LOp.gtr rfl rfl rfl) hc1)<|ym rfl (b true)<|yR rfl<|yR rfl<|yR rfl<|yl rfl (b true) yq<|ya rfl (b true)<|zN ?_
  refine RunC.ret ?_
  have hq := oI h
  subst q0
  exact bR rfl
 ·refine yW<|ym rfl (sl a0.length (a0.map (ik .u8)))<|yl rfl (i64 (a0.length : Int)) (LOp.len_sl und38 rfl rfl)<|yl rfl (b false) (LOp.eqb (LOp.gtr rfl rfl rfl) hc1)<|ym rfl (b false)<|ym rfl (sl a1.length (a1.map (ik .u8)))<|yl rfl (i64 (a1.length : Int)) (LOp.len_sl und38 rfl rfl)<|yl rfl (b (decide (1048576 < (a1.length : Int)))) (LOp.gtr rfl rfl rfl)<|yl rfl (b (decide (1048576 < (a1.length : Int)))) yp<|ya rfl (b (decide (1048576 < (a1.length : Int))))<|zN ?_
  refine RunC.ret ?_
  have hq := oI h
  subst q0
  exact bR rfl

def K01 (a0 : List Int) : Option ((List Int) × Int × Int) :=
 some (a0, 0, 0)
theorem K01_ok (a0 : List Int) (q0 : List Int) (q1 : Int) (q2 : Int) (h : K01 a0 = some (q0, q1, q2)) : Ev Try.prog 94 [sl a0.length (a0.map (ik .u8))] [] (optr 0 0 0) [⟨0, some [sl q0.length (q0.map (ik .u8)), i64 q1, ik .u64 q2]⟩] := by
 refine yE Try.func94 1 13 0 [(0, sl a0.length (a0.map (ik .u8)))] [o0] rfl ?_
 unfold K01 at h
 refine zQ<|ya rfl (x (.pointer none))<|zN ?_
 refine zQ<|ym rfl (sl a0.length (a0.map (ik .u8)))<|yl rfl (agg [sl a0.length (a0.map (ik .u8)), i64 0, ik .u64 0]) (LOp.build (qs := [(0, [sl a0.length (a0.map (ik .u8))])]) zer168 zok168 und168 plc168 rfl ⟨rfl, ⟨_, ALe.refl _, rfl⟩, trivial⟩ rfl)<|ye rfl (optr 0 1 0) ([⟨1, some [sl a0.length (a0.map (ik .u8)), i64 0, ik .u64 0]⟩]) (TOp.box_o (g := o0) 0 rfl rfl rfl rfl)<|ya rfl (optr 0 1 0)<|zN ?_
 refine RunC.ret ?_
 have hq := oI h
 obtain ⟨hq0, hq⟩ := Prod.mk.inj hq
 obtain ⟨hq1, hq⟩ := Prod.mk.inj hq
 subst q0
 subst q1
 subst q2
 exact yB (optr 0 1 0) [(0, 1)] (Res.one rfl (RV.tmp rfl)) (SelL.cells0 rfl (by first | rfl | simp [ren, rens, sigma, rens_f32, rens_f64, rens_i64, rens_ik, rens_str, rens_cp]) (lts_cons (lt_slk (fun _ => rfl)) (lts_cons rfl (lts_cons rfl lts_nil))) trivial)

def K02_k1 (a0 : List Int) (a1 : Int) (a2 : Int) (v3 : Int) : Option (Int × Int × Int) :=
 olet (IntKind.i64.wrap (a1 + 1)) fun (x4 : Int) =>
 olet (IntKind.u64.wrap (a2 * 6364136223846793005)) fun (x5 : Int) =>
 olet (IntKind.u64.wrap v3) fun (x6 : Int) =>
 olet (IntKind.u64.wrap (x5 + x6)) fun (x7 : Int) =>
 olet (IntKind.u64.wrap (x7 + 1442695040888963407)) fun (x8 : Int) =>
 bsel (decide (x4 ≤ (a0.length : Int))) (
  some (v3, x4, x8)) (
  need (decide ((0 : Int) ≤ 40)) <|
  olet (ishr .u64 x8 40) fun (x9 : Int) =>
  olet (iand .u64 x9 255) fun (x10 : Int) =>
  olet (IntKind.i64.wrap x10) fun (x11 : Int) =>
  some (x11, x4, x8))
def K02 (a0 : List Int) (a1 : Int) (a2 : Int) : Option (Int × Int × Int) :=
 bsel (decide (a1 < (a0.length : Int))) (
  obind (at? a0 a1) fun (e1 : Int) =>
  olet (IntKind.i64.wrap e1) fun (x2 : Int) =>
  K02_k1 a0 a1 a2 x2) (
  K02_k1 a0 a1 a2 0)
abbrev z000 (a0 : List Int) (a1 : Int) (a2 : Int) : List Ob := [⟨0, some [sl a0.length (a0.map (ik .u8)), i64 a1, ik .u64 a2]⟩]
abbrev z001 (a0 : List Int) (x4 : Int) (x8 : Int) : List Ob := [⟨0, some [sl a0.length (a0.map (ik .u8)), i64 x4, ik .u64 x8]⟩]
theorem K02_ok (a0 : List Int) (a1 : Int) (a2 : Int) (q0 : Int) (q1 : Int) (q2 : Int) (h : K02 a0 a1 a2 = some (q0, q1, q2)) : Ev Try.prog 179 [optr 0 0 0] [⟨0, some [sl a0.length (a0.map (ik .u8)), i64 a1, ik .u64 a2]⟩] (i64 q0) [⟨0, some [sl a0.length (a0.map (ik .u8)), i64 q1, ik .u64 q2]⟩] := by
 refine Ev.start Try.func179 rfl rfl 0 (τ := [(0, optr 0 0 0)]) rfl (Γ' := (z000 a0 a1 a2)) rfl (n := 124) rfl (g := 1) rfl (by decide) ?_
 unfold K02 at h
 refine zQ<|ya rfl (i64 0)<|zN ?_
 refine zQ<|ya rfl (i64 0)<|zN ?_
 refine yS<|RunC.cutN (fun τ Γ => ∃ (v3 : Int), WeakLe τ [(0, optr 0 0 0), (3, i64 v3)] ∧ DeadLe Γ (z000 a0 a1 a2) ∧ K02_k1 a0 a1 a2 v3 = some (q0, q1, q2)) ?_ ?_
 ·refine yS ?_
  rcases oB h with ⟨hc1, h⟩ | ⟨hc1, h⟩
  ·refine RunC.region_draw (Γ' := (z000 a0 a1 a2)) 10 mixed 
    (tm rfl (optr 0 0 0) <|
    (tl rfl (optr 0 0 0) (LOp.nilCheck_optr rfl rfl) <|
    (tl rfl (optr 0 0 1) (LOp.fao und168 rfl siz3 rfl rfl rfl) <|
    (TR.d (r := i64 a1) (fs := []) rfl rfl (TOp.load1_o rfl rfl agg3 rfl rfl) <|
    (tm rfl (optr 0 0 0) <|
    (tl rfl (optr 0 0 0) (LOp.nilCheck_optr rfl rfl) <|
    (tl rfl (optr 0 0 0) (LOp.fao und168 rfl siz38 rfl rfl rfl) <|
    (TR.d (r := sl a0.length (a0.map (ik .u8))) (fs := []) rfl rfl (TOp.load1_o rfl rfl agg38 rfl rfl) <|
    (tl rfl (i64 (a0.length : Int)) (LOp.len_sl und38 rfl rfl) <|
    (tl rfl (b true) (LOp.eqb (LOp.lss rfl rfl rfl) hc1) <|
    TR.nil)))))))))) rfl (by kernel_rfl) rfl fills_nil rfl ?_
   iterate 10 refine ROps.dropS ?_
   refine ROps.drop0<|zN ?_
   refine yT ?_
   obtain ⟨e1, he2, h⟩ := oS h
   obtain ⟨x2, hx3, h⟩ := oL h
   refine RunC.region_draw (Γ' := (z000 a0 a1 a2)) 12 mixed 
    (tm rfl (optr 0 0 0) <|
    (tl rfl (optr 0 0 0) (LOp.nilCheck_optr rfl rfl) <|
    (tl rfl (optr 0 0 0) (LOp.fao und168 rfl siz38 rfl rfl rfl) <|
    (TR.d (r := sl a0.length (a0.map (ik .u8))) (fs := []) rfl rfl (TOp.load1_o rfl rfl agg38 rfl rfl) <|
    (tm rfl (optr 0 0 0) <|
    (tl rfl (optr 0 0 0) (LOp.nilCheck_optr rfl rfl) <|
    (tl rfl (optr 0 0 1) (LOp.fao und168 rfl siz3 rfl rfl rfl) <|
    (TR.d (r := i64 a1) (fs := []) rfl rfl (TOp.load1_o rfl rfl agg3 rfl rfl) <|
    (tl rfl (ptr [ik .u8 e1]) (LOp.le (LOp.ix (f := (ik .u8)) und38 siz5 rfl rfl rfl rfl he2) ALe.ptr) <|
    (tl rfl (ik .u8 e1) (n2 agg5) <|
    (tl rfl (i64 x2) (LOp.eqr (LOp.i2i (src := 5) (dst := 3) ⟨_, pun5⟩ pun3 rfl rfl) (congrArg (ik .i64) hx3)) <|
    (tl rfl (i64 x2) (LOp.assign rfl rfl) <|
    TR.nil)))))))))))) rfl (by kernel_rfl) rfl fills_nil rfl ?_
   iterate 12 refine ROps.dropS ?_
   refine ROps.drop0<|zN ?_
   exact ⟨x2, ⟨aR, aR, trivial⟩, ⟨dR, trivial⟩, h⟩
  ·refine RunC.region_draw (Γ' := (z000 a0 a1 a2)) 10 mixed 
    (tm rfl (optr 0 0 0) <|
    (tl rfl (optr 0 0 0) (LOp.nilCheck_optr rfl rfl) <|
    (tl rfl (optr 0 0 1) (LOp.fao und168 rfl siz3 rfl rfl rfl) <|
    (TR.d (r := i64 a1) (fs := []) rfl rfl (TOp.load1_o rfl rfl agg3 rfl rfl) <|
    (tm rfl (optr 0 0 0) <|
    (tl rfl (optr 0 0 0) (LOp.nilCheck_optr rfl rfl) <|
    (tl rfl (optr 0 0 0) (LOp.fao und168 rfl siz38 rfl rfl rfl) <|
    (TR.d (r := sl a0.length (a0.map (ik .u8))) (fs := []) rfl rfl (TOp.load1_o rfl rfl agg38 rfl rfl) <|
    (tl rfl (i64 (a0.length : Int)) (LOp.len_sl und38 rfl rfl) <|
    (tl rfl (b false) (LOp.eqb (LOp.lss rfl rfl rfl) hc1) <|
    TR.nil)))))))))) rfl (by kernel_rfl) rfl fills_nil rfl ?_
   iterate 10 refine ROps.dropS ?_
   refine ROps.drop0<|zN ?_
   refine yF<|RunC.skip ?_
   exact ⟨0, ⟨aR, aR, trivial⟩, ⟨dR, trivial⟩, h⟩
 ·rintro τ2 Γ2 ⟨v3, hw2, hd2, h⟩
  refine RunC.wl hw2 hd2 ?_
  unfold K02_k1 at h
  refine yS ?_
  obtain ⟨x4, hx4, h⟩ := oL h
  refine yW<|ym rfl (optr 0 0 0)<|yl rfl (optr 0 0 0) (LOp.nilCheck_optr rfl rfl)<|yl rfl (optr 0 0 1) (LOp.fao und168 rfl siz3 rfl rfl rfl)<|yd rfl (i64 a1) (TOp.load1_o rfl rfl agg3 rfl rfl)<|yl rfl (i64 x4) (LOp.eqr (LOp.add rfl rfl rfl) (congrArg (ik .i64) hx4))<|yl rfl (optr 0 0 0) (LOp.nilCheck_optr rfl rfl)<|yl rfl (optr 0 0 1) (LOp.fao und168 rfl siz3 rfl rfl rfl)<|ys (i64 x4) [sl a0.length (a0.map (ik .u8)), i64 x4, ik .u64 a2] ([⟨0, some [sl a0.length (a0.map (ik .u8)), i64 x4, ik .u64 a2]⟩]) siz3<|zN ?_
  refine yS ?_
  obtain ⟨x5, hx5, h⟩ := oL h
  obtain ⟨x6, hx6, h⟩ := oL h
  obtain ⟨x7, hx7, h⟩ := oL h
  obtain ⟨x8, hx8, h⟩ := oL h
  refine yW<|ym rfl (optr 0 0 0)<|ym rfl (optr 0 0 0)<|yl rfl (optr 0 0 0) (LOp.nilCheck_optr rfl rfl)<|yl rfl (optr 0 0 2) (LOp.fao und168 rfl siz129 rfl rfl rfl)<|yd rfl (ik .u64 a2) (TOp.load1_o rfl rfl agg129 rfl rfl)<|yl rfl (ik .u64 x5) (LOp.eqr (LOp.mul rfl rfl rfl) (congrArg (ik .u64) hx5))<|ym rfl (i64 v3)<|yl rfl (ik .u64 x6) (LOp.eqr (LOp.i2i (src := 3) (dst := 129) ⟨_, pun3⟩ pun129 rfl rfl) (congrArg (ik .u64) hx6))<|yl rfl (ik .u64 x7) (LOp.eqr (LOp.add rfl rfl rfl) (congrArg (ik .u64) hx7))<|yl rfl (ik .u64 x8) (LOp.eqr (LOp.add rfl rfl rfl) (congrArg (ik .u64) hx8))<|yl rfl (optr 0 0 0) (LOp.nilCheck_optr rfl rfl)<|yl rfl (optr 0 0 2) (LOp.fao und168 rfl siz129 rfl rfl rfl)<|ys (ik .u64 x8) [sl a0.length (a0.map (ik .u8)), i64 x4, ik .u64 x8] ((z001 a0 x4 x8)) siz129<|zN ?_
  refine RunC.wl (τ' := [(0, optr 0 0 0), (3, i64 v3)]) (Γ' := (z001 a0 x4 x8)) ⟨aR, aR, trivial⟩ ⟨dR, trivial⟩<|yS<|yS ?_
  rcases oB h with ⟨hc9, h⟩ | ⟨hc9, h⟩
  ·refine RunC.region_draw (Γ' := (z001 a0 x4 x8)) 10 mixed 
    (tm rfl (optr 0 0 0) <|
    (tl rfl (optr 0 0 0) (LOp.nilCheck_optr rfl rfl) <|
    (tl rfl (optr 0 0 1) (LOp.fao und168 rfl siz3 rfl rfl rfl) <|
    (TR.d (r := i64 x4) (fs := []) rfl rfl (TOp.load1_o rfl rfl agg3 rfl rfl) <|
    (tm rfl (optr 0 0 0) <|
    (tl rfl (optr 0 0 0) (LOp.nilCheck_optr rfl rfl) <|
    (tl rfl (optr 0 0 0) (LOp.fao und168 rfl siz38 rfl rfl rfl) <|
    (TR.d (r := sl a0.length (a0.map (ik .u8))) (fs := []) rfl rfl (TOp.load1_o rfl rfl agg38 rfl rfl) <|
    (tl rfl (i64 (a0.length : Int)) (LOp.len_sl und38 rfl rfl) <|
    (tl rfl (b true) (LOp.eqb (LOp.leq rfl rfl rfl) hc9) <|
    TR.nil)))))))))) rfl (by kernel_rfl) rfl fills_nil rfl ?_
   iterate 10 refine ROps.dropS ?_
   refine ROps.drop0<|zN ?_
   refine yT<|zQ<|ym rfl (i64 v3)<|ya rfl (i64 v3)<|zN ?_
   refine RunC.ret ?_
   have hq := oI h
   obtain ⟨hq0, hq⟩ := Prod.mk.inj hq
   obtain ⟨hq1, hq⟩ := Prod.mk.inj hq
   subst q0
   subst q1
   subst q2
   exact yB (i64 v3) [(0, 0)] (Res.one rfl (RV.tmp rfl)) (SelL.cells rfl (by first | rfl | simp [ren, rens, sigma, rens_f32, rens_f64, rens_i64, rens_ik, rens_str, rens_cp]) (lts_cons (lt_slk (fun _ => rfl)) (lts_cons rfl (lts_cons rfl lts_nil))) trivial)
  ·refine RunC.region_draw (Γ' := (z001 a0 x4 x8)) 10 mixed 
    (tm rfl (optr 0 0 0) <|
    (tl rfl (optr 0 0 0) (LOp.nilCheck_optr rfl rfl) <|
    (tl rfl (optr 0 0 1) (LOp.fao und168 rfl siz3 rfl rfl rfl) <|
    (TR.d (r := i64 x4) (fs := []) rfl rfl (TOp.load1_o rfl rfl agg3 rfl rfl) <|
    (tm rfl (optr 0 0 0) <|
    (tl rfl (optr 0 0 0) (LOp.nilCheck_optr rfl rfl) <|
    (tl rfl (optr 0 0 0) (LOp.fao und168 rfl siz38 rfl rfl rfl) <|
    (TR.d (r := sl a0.length (a0.map (ik .u8))) (fs := []) rfl rfl (TOp.load1_o rfl rfl agg38 rfl rfl) <|
    (tl rfl (i64 (a0.length : Int)) (LOp.len_sl und38 rfl rfl) <|
    (tl rfl (b false) (LOp.eqb (LOp.leq rfl rfl rfl) hc9) <|
    TR.nil)))))))))) rfl (by kernel_rfl) rfl fills_nil rfl ?_
   iterate 10 refine ROps.dropS ?_
   refine ROps.drop0<|zN ?_
   refine yF<|RunC.skip<|yS ?_
   obtain ⟨hz10, h⟩ := need_some h
   obtain ⟨x9, hx11, h⟩ := oL h
   obtain ⟨x10, hx12, h⟩ := oL h
   obtain ⟨x11, hx13, h⟩ := oL h
   refine yW<|ym rfl (optr 0 0 0)<|yl rfl (optr 0 0 0) (LOp.nilCheck_optr rfl rfl)<|yl rfl (optr 0 0 2) (LOp.fao und168 rfl siz129 rfl rfl rfl)<|yd rfl (ik .u64 x8) (TOp.load1_o rfl rfl agg129 rfl rfl)<|yl rfl (ik .u64 x9) (LOp.eqr (LOp.shr rfl rfl rfl (of_decide_eq_true hz10)) (congrArg (ik .u64) hx11))<|yl rfl (ik .u64 x10) (LOp.eqr (LOp.iand rfl rfl rfl) (congrArg (ik .u64) hx12))<|yl rfl (i64 x11) (LOp.eqr (LOp.i2i (src := 129) (dst := 2) ⟨_, pun129⟩ pun2 rfl rfl) (congrArg (ik .i64) hx13))<|ya rfl (i64 x11)<|zN ?_
   refine RunC.ret ?_
   have hq := oI h
   obtain ⟨hq0, hq⟩ := Prod.mk.inj hq
   obtain ⟨hq1, hq⟩ := Prod.mk.inj hq
   subst q0
   subst q1
   subst q2
   exact yB (i64 x11) [(0, 0)] (Res.one rfl (RV.tmp rfl)) (SelL.cells rfl (by first | rfl | simp [ren, rens, sigma, rens_f32, rens_f64, rens_i64, rens_ik, rens_str, rens_cp]) (lts_cons (lt_slk (fun _ => rfl)) (lts_cons rfl (lts_cons rfl lts_nil))) trivial)

def K03_k1 (a0 : Int) (v9 : Int) (v10 : Int) (v11 : Int) : Option (Int × Int × Int) :=
 need (!decide (a0 = 0)) <|
 olet (v11.tmod a0) fun (x12 : Int) =>
 some (x12, v9, v10)
def K03 (a0 : Int) (a1 : List Int) (a2 : Int) (a3 : Int) : Option (Int × Int × Int) :=
 bsel (decide (a0 ≤ 1)) (
  some (0, a2, a3)) (
  obind3 (K02 a1 a2 a3) fun (r1 : Int) (r2 : Int) (r3 : Int) =>
  bsel (decide (200 < a0)) (
   olet (IntKind.i64.wrap (r1 * 256)) fun (x4 : Int) =>
   obind3 (K02 a1 r2 r3) fun (r5 : Int) (r6 : Int) (r7 : Int) =>
   olet (IntKind.i64.wrap (x4 + r5)) fun (x8 : Int) =>
   K03_k1 a0 r6 r7 x8) (
   K03_k1 a0 r2 r3 r1))
theorem K03_ok (a0 : Int) (a1 : List Int) (a2 : Int) (a3 : Int) (q0 : Int) (q1 : Int) (q2 : Int) (h : K03 a0 a1 a2 a3 = some (q0, q1, q2)) : Ev Try.prog 95 [optr 0 0 0, i64 a0] [⟨0, some [sl a1.length (a1.map (ik .u8)), i64 a2, ik .u64 a3]⟩] (i64 q0) [⟨0, some [sl a1.length (a1.map (ik .u8)), i64 q1, ik .u64 q2]⟩] := by
 refine Ev.start Try.func95 rfl rfl 0 (τ := [(0, optr 0 0 0), (1, i64 a0)]) rfl (Γ' := [⟨0, some [sl a1.length (a1.map (ik .u8)), i64 a2, ik .u64 a3]⟩]) rfl (n := 40) rfl (g := 1) rfl (by decide) ?_
 unfold K03 at h
 refine zQ<|ya rfl (i64 0)<|zN ?_
 refine yS<|yS ?_
 rcases oB h with ⟨hc1, h⟩ | ⟨hc1, h⟩
 ·refine yW<|ym rfl (i64 a0)<|yl rfl (b true) (LOp.eqb (LOp.leq rfl rfl rfl) hc1)<|zN ?_
  refine yT<|zQ<|ya rfl (i64 0)<|zN ?_
  refine RunC.ret ?_
  have hq := oI h
  obtain ⟨hq0, hq⟩ := Prod.mk.inj hq
  obtain ⟨hq1, hq⟩ := Prod.mk.inj hq
  subst q0
  subst q1
  subst q2
  exact yB (i64 0) [(0, 0)] (Res.one rfl (RV.tmp rfl)) (SelL.cells rfl (by first | rfl | simp [ren, rens, sigma, rens_f32, rens_f64, rens_i64, rens_ik, rens_str, rens_cp]) (lts_cons (lt_slk (fun _ => rfl)) (lts_cons rfl (lts_cons rfl lts_nil))) trivial)
 ·refine yW<|ym rfl (i64 a0)<|yl rfl (b false) (LOp.eqb (LOp.leq rfl rfl rfl) hc1)<|zN ?_
  refine yF<|RunC.skip<|yS ?_
  obtain ⟨r1, r2, r3, hf2, h⟩ := obind3_some h
  refine yW<|ym rfl (optr 0 0 0)<|ROps.callO (A := [optr 0 0 0]) (args := [optr 0 0 0]) (Γc := [⟨0, some [sl a1.length (a1.map (ik .u8)), i64 a2, ik .u64 a3]⟩]) (Γc' := [⟨0, some [sl a1.length (a1.map (ik .u8)), i64 r2, ik .u64 r3]⟩]) (r' := i64 r1) (Γ' := [⟨0, some [sl a1.length (a1.map (ik .u8)), i64 r2, ik .u64 r3]⟩]) [(0, 0)] [] rfl (CallAs.func ent179 rfl rfl) rfl rfl (SelOk.of (ndB_ok rfl) (SelL.cells0 rfl (by simp [ren, rens, sigma, rens_f32, rens_f64, rens_i64, rens_ik, rens_str, rens_cp]) (lts_cons (lt_slk (fun _ => rfl)) (lts_cons rfl (lts_cons rfl lts_nil))) trivial)) (live_of ⟨⟨_, _, rfl⟩, trivial⟩) (by simp [ren, rens, sigma, rens_f32, rens_f64, rens_i64, rens_ik, rens_str, rens_cp]) rfl (K02_ok a1 a2 a3 r1 r2 r3 hf2) rfl (news_of trivial) (ndB_ok rfl) (by simp [ren, rens, sigma]) (by simp [backOb, sigma, ren, rens, rens_f32, rens_f64, rens_i64, rens_ik, rens_str, rens_cp] <;> omega)<|ya rfl (i64 r1)<|zN ?_
  refine yS<|RunC.cutN (fun τ Γ => ∃ (v9 : Int) (v10 : Int) (v11 : Int), WeakLe τ [(1, i64 a0), (5, i64 v11)] ∧ DeadLe Γ [⟨0, some [sl a1.length (a1.map (ik .u8)), i64 v9, ik .u64 v10]⟩] ∧ K03_k1 a0 v9 v10 v11 = some (q0, q1, q2)) ?_ ?_
  ·refine yS ?_
   rcases oB h with ⟨hc3, h⟩ | ⟨hc3, h⟩
   ·refine yW<|ym rfl (i64 a0)<|yl rfl (b true) (LOp.eqb (LOp.gtr rfl rfl rfl) hc3)<|zN ?_
    refine yT ?_
    obtain ⟨x4, hx4, h⟩ := oL h
    obtain ⟨r5, r6, r7, hf5, h⟩ := obind3_some h
    obtain ⟨x8, hx6, h⟩ := oL h
    refine yW<|ym rfl (i64 r1)<|yl rfl (i64 x4) (LOp.eqr (LOp.mul rfl rfl rfl) (congrArg (ik .i64) hx4))<|ym rfl (optr 0 0 0)<|ROps.callO (A := [optr 0 0 0]) (args := [optr 0 0 0]) (Γc := [⟨0, some [sl a1.length (a1.map (ik .u8)), i64 r2, ik .u64 r3]⟩]) (Γc' := [⟨0, some [sl a1.length (a1.map (ik .u8)), i64 r6, ik .u64 r7]⟩]) (r' := i64 r5) (Γ' := [⟨0, some [sl a1.length (a1.map (ik .u8)), i64 r6, ik .u64 r7]⟩]) [(0, 0)] [] rfl (CallAs.func ent179 rfl rfl) rfl rfl (SelOk.of (ndB_ok rfl) (SelL.cells0 rfl (by simp [ren, rens, sigma, rens_f32, rens_f64, rens_i64, rens_ik, rens_str, rens_cp]) (lts_cons (lt_slk (fun _ => rfl)) (lts_cons rfl (lts_cons rfl lts_nil))) trivial)) (live_of ⟨⟨_, _, rfl⟩, trivial⟩) (by simp [ren, rens, sigma, rens_f32, rens_f64, rens_i64, rens_ik, rens_str, rens_cp]) rfl (K02_ok a1 r2 r3 r5 r6 r7 hf5) rfl (news_of trivial) (ndB_ok rfl) (by simp [ren, rens, sigma]) (by simp [backOb, sigma, ren, rens, rens_f32, rens_f64, rens_i64, rens_ik, rens_str, rens_cp] <;> omega)<|yl rfl (i64 x8) (LOp.eqr (LOp.add rfl rfl rfl) (congrArg (ik .i64) hx6))<|ya rfl (i64 x8)<|zN ?_
    exact ⟨r6, r7, x8, ⟨aR, aR, trivial⟩, ⟨dR, trivial⟩, h⟩
   ·refine yW<|ym rfl (i64 a0)<|yl rfl (b false) (LOp.eqb (LOp.gtr rfl rfl rfl) hc3)<|zN ?_
    refine yF<|RunC.skip ?_
    exact ⟨r2, r3, r1, ⟨aR, aR, trivial⟩, ⟨dR, trivial⟩, h⟩
  ·rintro τ2 Γ2 ⟨v9, v10, v11, hw2, hd2, h⟩
   refine RunC.wl hw2 hd2 ?_
   unfold K03_k1 at h
   refine yS ?_
   obtain ⟨hz7, h⟩ := need_some h
   obtain ⟨x12, hx8, h⟩ := oL h
   refine yW<|ym rfl (i64 v11)<|ym rfl (i64 a0)<|yl rfl (i64 x12) (LOp.eqr (LOp.rem rfl rfl rfl (nz hz7)) (congrArg (ik .i64) hx8))<|ya rfl (i64 x12)<|zN ?_
   refine RunC.ret ?_
   have hq := oI h
   obtain ⟨hq0, hq⟩ := Prod.mk.inj hq
   obtain ⟨hq1, hq⟩ := Prod.mk.inj hq
   subst q0
   subst q1
   subst q2
   exact yB (i64 x12) [(0, 0)] (Res.one rfl (RV.tmp rfl)) (SelL.cells rfl (by first | rfl | simp [ren, rens, sigma, rens_f32, rens_f64, rens_i64, rens_ik, rens_str, rens_cp]) (lts_cons (lt_slk (fun _ => rfl)) (lts_cons rfl (lts_cons rfl lts_nil))) trivial)

def K04 (a0 : Int) (a1 : List Int) (a2 : Int) (a3 : Int) : Option (Bool × Int × Int) :=
 obind3 (K03 a0 a1 a2 a3) fun (r1 : Int) (r2 : Int) (r3 : Int) =>
 some ((decide (r1 = 0)), r2, r3)
theorem K04_ok (a0 : Int) (a1 : List Int) (a2 : Int) (a3 : Int) (q0 : Bool) (q1 : Int) (q2 : Int) (h : K04 a0 a1 a2 a3 = some (q0, q1, q2)) : Ev Try.prog 96 [optr 0 0 0, i64 a0] [⟨0, some [sl a1.length (a1.map (ik .u8)), i64 a2, ik .u64 a3]⟩] (b q0) [⟨0, some [sl a1.length (a1.map (ik .u8)), i64 q1, ik .u64 q2]⟩] := by
 refine Ev.start Try.func96 rfl rfl 0 (τ := [(0, optr 0 0 0), (1, i64 a0)]) rfl (Γ' := [⟨0, some [sl a1.length (a1.map (ik .u8)), i64 a2, ik .u64 a3]⟩]) rfl (n := 18) rfl (g := 1) rfl (by decide) ?_
 unfold K04 at h
 refine zQ<|ya rfl (b false)<|zN ?_
 refine yS ?_
 obtain ⟨r1, r2, r3, hf1, h⟩ := obind3_some h
 refine yW<|ym rfl (optr 0 0 0)<|ym rfl (i64 a0)<|ROps.callO (A := [optr 0 0 0, i64 a0]) (args := [optr 0 0 0, i64 a0]) (Γc := [⟨0, some [sl a1.length (a1.map (ik .u8)), i64 a2, ik .u64 a3]⟩]) (Γc' := [⟨0, some [sl a1.length (a1.map (ik .u8)), i64 r2, ik .u64 r3]⟩]) (r' := i64 r1) (Γ' := [⟨0, some [sl a1.length (a1.map (ik .u8)), i64 r2, ik .u64 r3]⟩]) [(0, 0)] [] rfl (CallAs.func ent95 rfl rfl) rfl rfl (SelOk.of (ndB_ok rfl) (SelL.cells0 rfl (by simp [ren, rens, sigma, rens_f32, rens_f64, rens_i64, rens_ik, rens_str, rens_cp]) (lts_cons (lt_slk (fun _ => rfl)) (lts_cons rfl (lts_cons rfl lts_nil))) trivial)) (live_of ⟨⟨_, _, rfl⟩, trivial⟩) (by simp [ren, rens, sigma, rens_f32, rens_f64, rens_i64, rens_ik, rens_str, rens_cp]) rfl (K03_ok a0 a1 a2 a3 r1 r2 r3 hf1) rfl (news_of trivial) (ndB_ok rfl) (by simp [ren, rens, sigma]) (by simp [backOb, sigma, ren, rens, rens_f32, rens_f64, rens_i64, rens_ik, rens_str, rens_cp] <;> omega)<|yl rfl (b (decide (r1 = 0))) (LOp.eql rfl rfl rfl)<|ya rfl (b (decide (r1 = 0)))<|zN ?_
 refine RunC.ret ?_
 have hq := oI h
 obtain ⟨hq0, hq⟩ := Prod.mk.inj hq
 obtain ⟨hq1, hq⟩ := Prod.mk.inj hq
 subst q0
 subst q1
 subst q2
 exact yB (b (decide (r1 = 0))) [(0, 0)] (Res.one rfl (RV.tmp rfl)) (SelL.cells rfl (by first | rfl | simp [ren, rens, sigma, rens_f32, rens_f64, rens_i64, rens_ik, rens_str, rens_cp]) (lts_cons (lt_slk (fun _ => rfl)) (lts_cons rfl (lts_cons rfl lts_nil))) trivial)

def K05 (a0 : Int) (a1 : Int) (a2 : Int) : Option (Bool) :=
 bsel (decide (a1 ≤ a0)) (
  some (decide (a0 ≤ a2))) (
  some false)
theorem K05_ok (a0 : Int) (a1 : Int) (a2 : Int) (q0 : Bool) (h : K05 a0 a1 a2 = some q0) : Ev Try.prog 73 [i64 a0, i64 a1, i64 a2] [] (b q0) [] := by
 refine yE Try.func73 0 31 0 [(0, i64 a0), (1, i64 a1), (2, i64 a2)] [] rfl ?_
 unfold K05 at h
 refine zQ<|ya rfl (b false)<|zN ?_
 refine yS ?_
 rcases oB h with ⟨hc1, h⟩ | ⟨hc1, h⟩
 ·refine yW<|ym rfl (i64 a0)<|ym rfl (i64 a1)<|yl rfl (b true) (LOp.eqb (LOp.geq rfl rfl rfl) hc1)<|ym rfl (b true)<|ym rfl (i64 a0)<|ym rfl (i64 a2)<|yl rfl (b (decide (a0 ≤ a2))) (LOp.leq rfl rfl rfl)<|yl rfl (b (decide (a0 ≤ a2))) yq<|ya rfl (b (decide (a0 ≤ a2)))<|zN ?_
  refine RunC.ret ?_
  have hq := oI h
  subst q0
  exact bR rfl
 ·refine yW<|ym rfl (i64 a0)<|ym rfl (i64 a1)<|yl rfl (b false) (LOp.eqb (LOp.geq rfl rfl rfl) hc1)<|ym rfl (b false)<|yR rfl<|yR rfl<|yR rfl<|yl rfl (b false) yp<|ya rfl (b false)<|zN ?_
  refine RunC.ret ?_
  have hq := oI h
  subst q0
  exact bR rfl

def K06 (a0 : Int) : Option (Int × (List Bool) × (List F)) :=
 olet (IntKind.i64.wrap (a0 * a0)) fun (x1 : Int) =>
 need (mkok 1 x1) <|
 olet (IntKind.i64.wrap (a0 * a0)) fun (x2 : Int) =>
 need (mkok 4 x2) <|
 some (a0, (List.replicate x1.toNat false), (List.replicate x2.toNat (some 0)))
theorem K06_ok (a0 : Int) (q0 : Int) (q1 : List Bool) (q2 : List F) (h : K06 a0 = some (q0, q1, q2)) : Ev Try.prog 97 [i64 a0] [] (agg [i64 q0, oref 0 0 0 q1.length, oref 1 0 0 q2.length]) [⟨0, some (q1.map b)⟩, oF 0 q2] := by
 refine yE Try.func97 3 27 0 [(0, i64 a0)] [o0, o0, o0] rfl ?_
 unfold K06 at h
 refine zQ<|ye rfl (optr 0 1 0) ([⟨1, some [i64 0, nilsl, nilsl]⟩, o0, o0]) (TOp.alloc_o (g := o0) 0 rfl zer91 zok91 rfl)<|zN ?_
 refine yS ?_
 obtain ⟨x1, hx1, h⟩ := oL h
 obtain ⟨hm2, h⟩ := need_some h
 obtain ⟨x2, hx3, h⟩ := oL h
 obtain ⟨hm4, h⟩ := need_some h
 refine RunC.region_draw (Γ' := [⟨1, some [i64 0, nilsl, nilsl]⟩, ⟨1, some ((List.replicate x1.toNat false).map b)⟩, ⟨1, some ((List.replicate x2.toNat (some 0)).map f32)⟩]) 10 mixed 
  (tm rfl (i64 a0) <|
  (tm rfl (i64 a0) <|
  (tm rfl (i64 a0) <|
  (tl rfl (i64 x1) (LOp.eqr (LOp.mul rfl rfl rfl) (congrArg (ik .i64) hx1)) <|
  (TR.d (r := oref 1 1 0 x1.toNat) (fs := [(1, ((List.replicate x1.toNat false).map b))]) rfl rfl (TOp.mkS (g := o0) (t := 89) (e := 4) (by_ := 1) (f := b) (zv := false) 1 rfl und89 tin4 rfl siz4 zer4 rfl zel4 rfl rfl rfl hm2) <|
  (tm rfl (i64 a0) <|
  (tm rfl (i64 a0) <|
  (tl rfl (i64 x2) (LOp.eqr (LOp.mul rfl rfl rfl) (congrArg (ik .i64) hx3)) <|
  (TR.d (r := oref 2 1 0 x2.toNat) (fs := [(2, ((List.replicate x2.toNat (some 0)).map f32))]) rfl rfl (TOp.mkS (g := o0) (t := 23) (e := 26) (by_ := 4) (f := f32) (zv := some 0) 2 rfl und23 tin26 rfl siz26 zer26 rfl zel26 rfl rfl rfl hm4) <|
  (tl rfl (agg [i64 a0, oref 1 1 0 x1.toNat, oref 2 1 0 x2.toNat]) (LOp.build (qs := [(0, [i64 a0]), (1, [oref 1 1 0 x1.toNat]), (2, [oref 2 1 0 x2.toNat])]) zer91 zok91 und91 plc91 rfl ⟨rfl, ⟨_, ALe.refl _, rfl⟩, ⟨rfl, ⟨_, ALe.refl _, rfl⟩, ⟨rfl, ⟨_, ALe.refl _, rfl⟩, trivial⟩⟩⟩ rfl) <|
  TR.nil)))))))))) rfl (by kernel_rfl) rfl (fills_of (by show List.Nodup [1, 2]; decide) ⟨⟨_, rfl⟩, ⟨_, rfl⟩, trivial⟩) rfl ?_
 iterate 10 refine ROps.dropS ?_
 refine ROps.drop0<|ys (agg [i64 a0, oref 1 1 0 x1.toNat, oref 2 1 0 x2.toNat]) [i64 a0, oref 1 1 0 x1.toNat, oref 2 1 0 x2.toNat] ([⟨1, some [i64 a0, oref 1 1 0 x1.toNat, oref 2 1 0 x2.toNat]⟩, ⟨1, some ((List.replicate x1.toNat false).map b)⟩, ⟨1, some ((List.replicate x2.toNat (some 0)).map f32)⟩]) siz91<|zN ?_
 refine RunC.ret ?_
 have hq := oI h
 obtain ⟨hq0, hq⟩ := Prod.mk.inj hq
 obtain ⟨hq1, hq⟩ := Prod.mk.inj hq
 subst q0
 subst q1
 subst q2
 exact yB (agg [i64 a0, oref 1 1 0 ((List.replicate x1.toNat false).length), oref 2 1 0 ((List.replicate x2.toNat (some 0)).length)]) [(1, 1), (2, 1)] (Res.eq (Res.one rfl (RV.cell agg91 siz91 rfl rfl rfl rfl)) (by first | rfl | (rw [(show (List.replicate x1.toNat false).length = x1.toNat from by simp), (show (List.replicate x2.toNat (some 0)).length = x2.toNat from by simp)] <;> rfl))) (SelL.arr0 (f := b) (fun _ => rfl) rfl (sA rfl trivial))

def K07 (a0 : F) : Option (Bool) :=
 olet (fop .sub .f32 a0 a0) fun (x1 : F) =>
 some (feq .f32 x1 (some 0))
theorem K07_ok (a0 : F) (q0 : Bool) (h : K07 a0 = some q0) : Ev Try.prog 78 [f32 a0] [] (b q0) [] := by
 refine yE Try.func78 0 15 0 [(0, f32 a0)] [] rfl ?_
 unfold K07 at h
 refine zQ<|ya rfl (b false)<|zN ?_
 refine yS ?_
 obtain ⟨x1, hx1, h⟩ := oL h
 refine yW<|ym rfl (f32 a0)<|ym rfl (f32 a0)<|yd rfl (f32 x1) (TOp.eqr (TOp.fop (.inr (.inl rfl)) rfl (OpF.tmp rfl) (OpF.tmp rfl)) (congrArg (f .f32) hx1))<|yl rfl (b (feq .f32 x1 (some 0))) (LOp.feq rfl (OpF.tmp rfl) (OpF.const rfl (by kernel_rfl) (by kernel_rfl)))<|ya rfl (b (feq .f32 x1 (some 0)))<|zN ?_
 refine RunC.ret ?_
 have hq := oI h
 subst q0
 exact bR rfl

def K08_b1 (a0 : List F) (v1 : Int) : Option (LR (Int) (Unit) (Bool)) :=
 bsel (decide (v1 < (a0.length : Int))) (
  obind (at? a0 v1) fun (e2 : F) =>
  obind (K07 e2) fun (r3 : Bool) =>
  bsel r3 (
   olet (IntKind.i64.wrap (v1 + 1)) fun (x4 : Int) =>
   some (LR.next x4)) (
   some (LR.ret false))) (
  some (LR.out ()))
def K08_s1 (a0 : List F) : (Int) → Option (LR (Int) (Unit) (Bool)) := fun s => K08_b1 a0 s
def K08_k1  : Option (Bool) :=
 some true
def K08 (a0 : List F) : Option (Bool) :=
 obind (loopM (K08_s1 a0) 0) fun z => osum z (fun _ => K08_k1) (fun r => some r)
theorem K08_ok (a0 : List F) (q0 : Bool) (h : K08 a0 = some q0) : Ev Try.prog 77 [(sFc a0)] [] (b q0) [] := by
 refine yE Try.func77 0 33 0 [(0, (sFc a0))] [] rfl ?_
 unfold K08 at h
 refine zQ<|ya rfl (b false)<|zN ?_
 refine yS<|zQ<|ya rfl (i64 0)<|zN ?_
 obtain ⟨z2, hz_2, h⟩ := oS h
 refine RunC.cutN (fun τ Γ => WeakLe τ [] ∧ DeadLe Γ [] ∧ z2 = .inl ()) ?_ ?_
 ·refine RunC.block (RunC.loop (RunL.loopM (x := z2) (K08_s1 a0) (fun (s : Int) τ Γ => WeakLe τ [(0, (sFc a0)), (3, i64 s)] ∧ DeadLe Γ []) ?_ _ _ _ hz_2 ⟨⟨aR, aR, trivial⟩, trivial⟩))
  rintro v1 τ2 Γ2 y2_ ⟨hw2, hd2⟩ h2_ ho2 hr2
  refine RunC.wl (τ' := [(0, (sFc a0)), (3, i64 v1)]) (Γ' := []) hw2 hd2 ?_
  replace h2_ : K08_b1 a0 v1 = some y2_ := h2_
  unfold K08_b1 at h2_
  refine yS<|yS ?_
  rcases oB h2_ with ⟨hc1, h2_⟩ | ⟨hc1, h2_⟩
  ·refine yW<|ym rfl (i64 v1)<|ym rfl (sFc a0)<|yl rfl (i64 (a0.length : Int)) (LOp.len_sl und23 rfl rfl)<|yl rfl (b true) (LOp.eqb (LOp.lss rfl rfl rfl) hc1)<|zN ?_
   refine yT<|RunC.skip<|yS<|RunC.block<|yS ?_
   obtain ⟨e2, he2, h2_⟩ := oS h2_
   obtain ⟨r3, hf3, h2_⟩ := oS h2_
   rcases oB h2_ with ⟨hc4, h2_⟩ | ⟨hc4, h2_⟩
   ·refine yW<|ym rfl (sFc a0)<|ym rfl (i64 v1)<|yl rfl (ptr [f32 e2]) (LOp.le (LOp.ix (f := f32) und23 siz26 rfl rfl rfl rfl he2) ALe.ptr)<|yl rfl (f32 e2) (n2 agg26)<|yd rfl (b true) (TOp.eqb (yc ent78 rfl rfl bN0 (K07_ok e2 r3 hf3)) hc4)<|yl rfl (b false) n1<|zN ?_
    refine yF<|RunC.skip ?_
    obtain ⟨x4, hx5, h2_⟩ := oL h2_
    refine yW<|ym rfl (i64 v1)<|yl rfl (i64 x4) (LOp.eqr (LOp.add rfl rfl rfl) (congrArg (ik .i64) hx5))<|ya rfl (i64 x4)<|zN ?_
    cases oI h2_
    exact ⟨_, rfl, ⟨aR, aR, trivial⟩, trivial⟩
   ·refine yW<|ym rfl (sFc a0)<|ym rfl (i64 v1)<|yl rfl (ptr [f32 e2]) (LOp.le (LOp.ix (f := f32) und23 siz26 rfl rfl rfl rfl he2) ALe.ptr)<|yl rfl (f32 e2) (n2 agg26)<|yd rfl (b false) (TOp.eqb (yc ent78 rfl rfl bN0 (K07_ok e2 r3 hf3)) hc4)<|yl rfl (b true) n0<|zN ?_
    refine yT<|zQ<|ya rfl (b false)<|zN ?_
    refine RunC.ret ?_
    cases oI h2_
    have hx3_ := hr2 _ rfl
    subst hx3_
    have hq := oI h
    subst q0
    exact bR rfl
  ·refine yW<|ym rfl (i64 v1)<|ym rfl (sFc a0)<|yl rfl (i64 (a0.length : Int)) (LOp.len_sl und23 rfl rfl)<|yl rfl (b false) (LOp.eqb (LOp.lss rfl rfl rfl) hc1)<|zN ?_
   refine yF<|RunC.exit ?_
   cases oI h2_
   have hx := ho2 _ rfl
   exact ⟨trivial, trivial, hx⟩
 ·rintro τ4 Γ4 ⟨hw4, hd4, rfl⟩
  refine RunC.wl hw4 hd4 ?_
  replace h : K08_k1 = some q0 := h
  unfold K08_k1 at h
  refine zQ<|ya rfl (b true)<|zN ?_
  refine RunC.ret ?_
  have hq := oI h
  subst q0
  exact bR rfl

def K09_k5 (v13 : Int) (w23 : Bool) (v24 : Int) : Option (LR (Int) (Unit) (Bool)) :=
 olet (IntKind.i64.wrap (v13 + 1)) fun (x25 : Int) =>
 some (LR.next x25)
def K09_b6 (a0 : Int) (a1 : List Int) (a2 : List Int) (v6 : Int) (v13 : Int) : Option (LR (Int) (Unit) (Bool)) :=
 olet (IntKind.i64.wrap (v6 + 1)) fun (x14 : Int) =>
 obind (at? a1 x14) fun (e15 : Int) =>
 bsel (decide (v13 < e15)) (
  obind (at? a2 v13) fun (e16 : Int) =>
  olet (IntKind.i64.wrap (a0 - 1)) fun (x17 : Int) =>
  obind (K05 e16 0 x17) fun (r18 : Bool) =>
  bsel r18 (
   obind (at? a1 v6) fun (e19 : Int) =>
   bsel (decide (e19 < v13)) (
    obind (at? a2 v13) fun (e20 : Int) =>
    olet (IntKind.i64.wrap (v13 - 1)) fun (x21 : Int) =>
    obind (at? a2 x21) fun (e22 : Int) =>
    bsel (decide (e20 ≤ e22)) (
     some (LR.ret false)) (
     K09_k5 v13 true e19)) (
    K09_k5 v13 false e19)) (
   some (LR.ret false))) (
  some (LR.out ()))
def K09_s6 (a0 : Int) (a1 : List Int) (a2 : List Int) (v6 : Int) : (Int) → Option (LR (Int) (Unit) (Bool)) := fun s => K09_b6 a0 a1 a2 v6 s
def K09_k6 (v6 : Int) : Option (LR (Int) (Unit) (Bool)) :=
 olet (IntKind.i64.wrap (v6 + 1)) fun (x26 : Int) =>
 some (LR.next x26)
def K09_b7 (a0 : Int) (a1 : List Int) (a2 : List Int) (v6 : Int) : Option (LR (Int) (Unit) (Bool)) :=
 bsel (decide (v6 < a0)) (
  olet (IntKind.i64.wrap (v6 + 1)) fun (x7 : Int) =>
  obind (at? a1 x7) fun (e8 : Int) =>
  obind (at? a1 v6) fun (e9 : Int) =>
  bsel (decide (e8 < e9)) (
   some (LR.ret false)) (
   olet (IntKind.i64.wrap (v6 + 1)) fun (x10 : Int) =>
   obind (at? a1 x10) fun (e11 : Int) =>
   bsel (decide ((a2.length : Int) < e11)) (
    some (LR.ret false)) (
    obind (at? a1 v6) fun (e12 : Int) =>
    obind (loopM (K09_s6 a0 a1 a2 v6) e12) fun z => osum z (fun e => K09_k6 v6) (fun r => some (LR.ret r))))) (
  some (LR.out ()))
def K09_s7 (a0 : Int) (a1 : List Int) (a2 : List Int) : (Int) → Option (LR (Int) (Unit) (Bool)) := fun s => K09_b7 a0 a1 a2 s
def K09_k7  : Option (Bool) :=
 some true
def K09 (a0 : Int) (a1 : List Int) (a2 : List Int) (a3 : List F) : Option (Bool) :=
 obind (K05 a0 1 32) fun (r1 : Bool) =>
 bsel r1 (
  olet (IntKind.i64.wrap (a0 + 1)) fun (x2 : Int) =>
  bsel (!decide ((a1.length : Int) = x2)) (
   some false) (
   bsel (decide (512 < (a2.length : Int))) (
    some false) (
    bsel (!decide ((a3.length : Int) = (a2.length : Int))) (
     some false) (
     obind (K08 a3) fun (r3 : Bool) =>
     bsel r3 (
      obind (at? a1 0) fun (e4 : Int) =>
      bsel (!decide (e4 = 0)) (
       some false) (
       obind (at? a1 a0) fun (e5 : Int) =>
       bsel (!decide (e5 = (a2.length : Int))) (
        some false) (
        obind (loopM (K09_s7 a0 a1 a2) 0) fun z => osum z (fun _ => K09_k7) (fun r => some r)))) (
      some false))))) (
  some false)
abbrev z002 (a0 : Int) (a1 : List Int) (a2 : List Int) (a3 : List F) : List AV := [i64 a0, sl a1.length (a1.map i64), sl a2.length (a2.map i64), (sFc a3)]
abbrev z003 (a1 : List Int) (a2 : List Int) (a3 : List F) : List AV := [sl a1.length (a1.map i64), sl a2.length (a2.map i64), (sFc a3)]
abbrev z004 (a1 : List Int) : AV := sl a1.length (a1.map i64)
abbrev z005 (a2 : List Int) (a3 : List F) : List AV := [sl a2.length (a2.map i64), (sFc a3)]
abbrev z006 (a2 : List Int) : AV := sl a2.length (a2.map i64)
theorem K09_ok (a0 : Int) (a1 : List Int) (a2 : List Int) (a3 : List F) (q0 : Bool) (h : K09 a0 a1 a2 a3 = some q0) : Ev Try.prog 111 [ptr [i64 a0, sl a1.length (a1.map i64), sl a2.length (a2.map i64), (sFc a3)]] [] (b q0) [] := by
 refine yE Try.func111 0 341 0 ([(0, ptr (z002 a0 a1 a2 a3))]) [] rfl ?_
 unfold K09 at h
 refine zQ<|ya rfl (b false)<|zN ?_
 refine zQ<|ym rfl (ptr (z002 a0 a1 a2 a3))<|yl rfl (ptr (z002 a0 a1 a2 a3)) n4<|yl rfl (ptr (z005 a2 a3)) (LOp.fap und30 rfl siz22 rfl rfl rfl)<|yl rfl (z006 a2) (n2 agg22)<|yl rfl (i64 (a2.length : Int)) (LOp.len_sl und22 rfl rfl)<|ya rfl (i64 (a2.length : Int))<|zN ?_
 refine yS<|yS ?_
 obtain ⟨r1, hf1, h⟩ := oS h
 rcases oB h with ⟨hc2, h⟩ | ⟨hc2, h⟩
 ·obtain ⟨x2, hx3, h⟩ := oL h
  rcases oB h with ⟨hc4, h⟩ | ⟨hc4, h⟩
  ·refine RunC.region_draw (Γ' := []) 40 mixed 
    (tm rfl (ptr (z002 a0 a1 a2 a3)) <|
    (tl rfl (ptr (z002 a0 a1 a2 a3)) n4 <|
    (tl rfl (ptr (z002 a0 a1 a2 a3)) (LOp.fap und30 rfl siz2 rfl rfl rfl) <|
    (tl rfl (i64 a0) (n2 agg2) <|
    (TR.d (r := b true) (fs := []) rfl rfl (TOp.eqb (yc ent73 rfl rfl (bP (bP bN0)) (K05_ok a0 1 32 r1 hf1)) hc2) <|
    (tl rfl (b false) (LOp.eqb (LOp.not rfl rfl) rfl) <|
    (tm rfl (b false) <|
    (tm rfl (ptr (z002 a0 a1 a2 a3)) <|
    (tl rfl (ptr (z002 a0 a1 a2 a3)) n4 <|
    (tl rfl (ptr (z003 a1 a2 a3)) (LOp.fap und30 rfl siz22 rfl rfl rfl) <|
    (tl rfl (z004 a1) (n2 agg22) <|
    (tl rfl (i64 (a1.length : Int)) (LOp.len_sl und22 rfl rfl) <|
    (tm rfl (ptr (z002 a0 a1 a2 a3)) <|
    (tl rfl (ptr (z002 a0 a1 a2 a3)) n4 <|
    (tl rfl (ptr (z002 a0 a1 a2 a3)) (LOp.fap und30 rfl siz2 rfl rfl rfl) <|
    (tl rfl (i64 a0) (n2 agg2) <|
    (tl rfl (i64 x2) (LOp.eqr (LOp.add rfl rfl rfl) (congrArg (ik .i64) hx3)) <|
    (tl rfl (b true) (LOp.eqb (LOp.neq rfl rfl rfl) hc4) <|
    (tl rfl (b true) yp <|
    (tm rfl (b true) <|
    (ts rfl <|
    (ts rfl <|
    (tl rfl (b true) yq <|
    (tm rfl (b true) <|
    (ts rfl <|
    (ts rfl <|
    (ts rfl <|
    (ts rfl <|
    (ts rfl <|
    (ts rfl <|
    (ts rfl <|
    (tl rfl (b true) yq <|
    (tm rfl (b true) <|
    (ts rfl <|
    (ts rfl <|
    (ts rfl <|
    (ts rfl <|
    (ts rfl <|
    (ts rfl <|
    (tl rfl (b true) yq <|
    TR.nil)))))))))))))))))))))))))))))))))))))))) rfl (by kernel_rfl) rfl fills_nil rfl ?_
   iterate 40 refine ROps.dropS ?_
   refine ROps.drop0<|zN ?_
   refine yT<|zQ<|ya rfl (b false)<|zN ?_
   refine RunC.ret ?_
   have hq := oI h
   subst q0
   exact bR rfl
  ·rcases oB h with ⟨hc5, h⟩ | ⟨hc5, h⟩
   ·refine RunC.region_draw (Γ' := []) 40 mixed 
     (tm rfl (ptr (z002 a0 a1 a2 a3)) <|
     (tl rfl (ptr (z002 a0 a1 a2 a3)) n4 <|
     (tl rfl (ptr (z002 a0 a1 a2 a3)) (LOp.fap und30 rfl siz2 rfl rfl rfl) <|
     (tl rfl (i64 a0) (n2 agg2) <|
     (TR.d (r := b true) (fs := []) rfl rfl (TOp.eqb (yc ent73 rfl rfl (bP (bP bN0)) (K05_ok a0 1 32 r1 hf1)) hc2) <|
     (tl rfl (b false) (LOp.eqb (LOp.not rfl rfl) rfl) <|
     (tm rfl (b false) <|
     (tm rfl (ptr (z002 a0 a1 a2 a3)) <|
     (tl rfl (ptr (z002 a0 a1 a2 a3)) n4 <|
     (tl rfl (ptr (z003 a1 a2 a3)) (LOp.fap und30 rfl siz22 rfl rfl rfl) <|
     (tl rfl (z004 a1) (n2 agg22) <|
     (tl rfl (i64 (a1.length : Int)) (LOp.len_sl und22 rfl rfl) <|
     (tm rfl (ptr (z002 a0 a1 a2 a3)) <|
     (tl rfl (ptr (z002 a0 a1 a2 a3)) n4 <|
     (tl rfl (ptr (z002 a0 a1 a2 a3)) (LOp.fap und30 rfl siz2 rfl rfl rfl) <|
     (tl rfl (i64 a0) (n2 agg2) <|
     (tl rfl (i64 x2) (LOp.eqr (LOp.add rfl rfl rfl) (congrArg (ik .i64) hx3)) <|
     (tl rfl (b false) (LOp.eqb (LOp.neq rfl rfl rfl) hc4) <|
     (tl rfl (b false) yp <|
     (tm rfl (b false) <|
     (tm rfl (i64 (a2.length : Int)) <|
     (tl rfl (b true) (LOp.eqb (LOp.gtr rfl rfl rfl) hc5) <|
     (tl rfl (b true) yp <|
     (tm rfl (b true) <|
     (ts rfl <|
     (ts rfl <|
     (ts rfl <|
     (ts rfl <|
     (ts rfl <|
     (ts rfl <|
     (ts rfl <|
     (tl rfl (b true) yq <|
     (tm rfl (b true) <|
     (ts rfl <|
     (ts rfl <|
     (ts rfl <|
     (ts rfl <|
     (ts rfl <|
     (ts rfl <|
     (tl rfl (b true) yq <|
     TR.nil)))))))))))))))))))))))))))))))))))))))) rfl (by kernel_rfl) rfl fills_nil rfl ?_
    iterate 40 refine ROps.dropS ?_
    refine ROps.drop0<|zN ?_
    refine yT<|zQ<|ya rfl (b false)<|zN ?_
    refine RunC.ret ?_
    have hq := oI h
    subst q0
    exact bR rfl
   ·rcases oB h with ⟨hc6, h⟩ | ⟨hc6, h⟩
    ·refine RunC.region_draw (Γ' := []) 40 mixed 
      (tm rfl (ptr (z002 a0 a1 a2 a3)) <|
      (tl rfl (ptr (z002 a0 a1 a2 a3)) n4 <|
      (tl rfl (ptr (z002 a0 a1 a2 a3)) (LOp.fap und30 rfl siz2 rfl rfl rfl) <|
      (tl rfl (i64 a0) (n2 agg2) <|
      (TR.d (r := b true) (fs := []) rfl rfl (TOp.eqb (yc ent73 rfl rfl (bP (bP bN0)) (K05_ok a0 1 32 r1 hf1)) hc2) <|
      (tl rfl (b false) (LOp.eqb (LOp.not rfl rfl) rfl) <|
      (tm rfl (b false) <|
      (tm rfl (ptr (z002 a0 a1 a2 a3)) <|
      (tl rfl (ptr (z002 a0 a1 a2 a3)) n4 <|
      (tl rfl (ptr (z003 a1 a2 a3)) (LOp.fap und30 rfl siz22 rfl rfl rfl) <|
      (tl rfl (z004 a1) (n2 agg22) <|
      (tl rfl (i64 (a1.length : Int)) (LOp.len_sl und22 rfl rfl) <|
      (tm rfl (ptr (z002 a0 a1 a2 a3)) <|
      (tl rfl (ptr (z002 a0 a1 a2 a3)) n4 <|
      (tl rfl (ptr (z002 a0 a1 a2 a3)) (LOp.fap und30 rfl siz2 rfl rfl rfl) <|
      (tl rfl (i64 a0) (n2 agg2) <|
      (tl rfl (i64 x2) (LOp.eqr (LOp.add rfl rfl rfl) (congrArg (ik .i64) hx3)) <|
      (tl rfl (b false) (LOp.eqb (LOp.neq rfl rfl rfl) hc4) <|
      (tl rfl (b false) yp <|
      (tm rfl (b false) <|
      (tm rfl (i64 (a2.length : Int)) <|
      (tl rfl (b false) (LOp.eqb (LOp.gtr rfl rfl rfl) hc5) <|
      (tl rfl (b false) yp <|
      (tm rfl (b false) <|
      (tm rfl (ptr (z002 a0 a1 a2 a3)) <|
      (tl rfl (ptr (z002 a0 a1 a2 a3)) n4 <|
      (tl rfl (ptr [(sFc a3)]) (LOp.fap und30 rfl siz23 rfl rfl rfl) <|
      (tl rfl (sFc a3) (n2 agg23) <|
      (tl rfl (i64 (a3.length : Int)) (LOp.len_sl und23 rfl rfl) <|
      (tm rfl (i64 (a2.length : Int)) <|
      (tl rfl (b true) (LOp.eqb (LOp.neq rfl rfl rfl) hc6) <|
      (tl rfl (b true) yp <|
      (tm rfl (b true) <|
      (ts rfl <|
      (ts rfl <|
      (ts rfl <|
      (ts rfl <|
      (ts rfl <|
      (ts rfl <|
      (tl rfl (b true) yq <|
      TR.nil)))))))))))))))))))))))))))))))))))))))) rfl (by kernel_rfl) rfl fills_nil rfl ?_
     iterate 40 refine ROps.dropS ?_
     refine ROps.drop0<|zN ?_
     refine yT<|zQ<|ya rfl (b false)<|zN ?_
     refine RunC.ret ?_
     have hq := oI h
     subst q0
     exact bR rfl
    ·obtain ⟨r3, hf7, h⟩ := oS h
     rcases oB h with ⟨hc8, h⟩ | ⟨hc8, h⟩
     ·refine RunC.region_draw (Γ' := []) 40 mixed 
       (tm rfl (ptr (z002 a0 a1 a2 a3)) <|
       (tl rfl (ptr (z002 a0 a1 a2 a3)) n4 <|
       (tl rfl (ptr (z002 a0 a1 a2 a3)) (LOp.fap und30 rfl siz2 rfl rfl rfl) <|
       (tl rfl (i64 a0) (n2 agg2) <|
       (TR.d (r := b true) (fs := []) rfl rfl (TOp.eqb (yc ent73 rfl rfl (bP (bP bN0)) (K05_ok a0 1 32 r1 hf1)) hc2) <|
       (tl rfl (b false) (LOp.eqb (LOp.not rfl rfl) rfl) <|
       (tm rfl (b false) <|
       (tm rfl (ptr (z002 a0 a1 a2 a3)) <|
       (tl rfl (ptr (z002 a0 a1 a2 a3)) n4 <|
       (tl rfl (ptr (z003 a1 a2 a3)) (LOp.fap und30 rfl siz22 rfl rfl rfl) <|
       (tl rfl (z004 a1) (n2 agg22) <|
       (tl rfl (i64 (a1.length : Int)) (LOp.len_sl und22 rfl rfl) <|
       (tm rfl (ptr (z002 a0 a1 a2 a3)) <|
       (tl rfl (ptr (z002 a0 a1 a2 a3)) n4 <|
       (tl rfl (ptr (z002 a0 a1 a2 a3)) (LOp.fap und30 rfl siz2 rfl rfl rfl) <|
       (tl rfl (i64 a0) (n2 agg2) <|
       (tl rfl (i64 x2) (LOp.eqr (LOp.add rfl rfl rfl) (congrArg (ik .i64) hx3)) <|
       (tl rfl (b false) (LOp.eqb (LOp.neq rfl rfl rfl) hc4) <|
       (tl rfl (b false) yp <|
       (tm rfl (b false) <|
       (tm rfl (i64 (a2.length : Int)) <|
       (tl rfl (b false) (LOp.eqb (LOp.gtr rfl rfl rfl) hc5) <|
       (tl rfl (b false) yp <|
       (tm rfl (b false) <|
       (tm rfl (ptr (z002 a0 a1 a2 a3)) <|
       (tl rfl (ptr (z002 a0 a1 a2 a3)) n4 <|
       (tl rfl (ptr [(sFc a3)]) (LOp.fap und30 rfl siz23 rfl rfl rfl) <|
       (tl rfl (sFc a3) (n2 agg23) <|
       (tl rfl (i64 (a3.length : Int)) (LOp.len_sl und23 rfl rfl) <|
       (tm rfl (i64 (a2.length : Int)) <|
       (tl rfl (b false) (LOp.eqb (LOp.neq rfl rfl rfl) hc6) <|
       (tl rfl (b false) yp <|
       (tm rfl (b false) <|
       (tm rfl (ptr (z002 a0 a1 a2 a3)) <|
       (tl rfl (ptr (z002 a0 a1 a2 a3)) n4 <|
       (tl rfl (ptr [(sFc a3)]) (LOp.fap und30 rfl siz23 rfl rfl rfl) <|
       (tl rfl (sFc a3) (n2 agg23) <|
       (TR.d (r := b true) (fs := []) rfl rfl (TOp.eqb (yc ent77 rfl rfl (bS bN) (K08_ok a3 r3 hf7)) hc8) <|
       (tl rfl (b false) (LOp.eqb (LOp.not rfl rfl) rfl) <|
       (tl rfl (b false) yp <|
       TR.nil)))))))))))))))))))))))))))))))))))))))) rfl (by kernel_rfl) rfl fills_nil rfl ?_
      iterate 40 refine ROps.dropS ?_
      refine ROps.drop0<|zN ?_
      refine yF<|RunC.skip<|yS<|yS ?_
      obtain ⟨e4, he9, h⟩ := oS h
      rcases oB h with ⟨hc10, h⟩ | ⟨hc10, h⟩
      ·refine RunC.region_draw (Γ' := []) 21 mixed 
        (tm rfl (ptr (z002 a0 a1 a2 a3)) <|
        (tl rfl (ptr (z002 a0 a1 a2 a3)) n4 <|
        (tl rfl (ptr (z003 a1 a2 a3)) (LOp.fap und30 rfl siz22 rfl rfl rfl) <|
        (tl rfl (z004 a1) (n2 agg22) <|
        (tl rfl (ptr [i64 e4]) (LOp.le (LOp.ix (f := i64) und22 siz2 rfl rfl rfl rfl he9) ALe.ptr) <|
        (tl rfl (i64 e4) (n2 agg2) <|
        (tl rfl (b true) (LOp.eqb (LOp.neq rfl rfl rfl) hc10) <|
        (tm rfl (b true) <|
        (ts rfl <|
        (ts rfl <|
        (ts rfl <|
        (ts rfl <|
        (ts rfl <|
        (ts rfl <|
        (ts rfl <|
        (ts rfl <|
        (ts rfl <|
        (ts rfl <|
        (ts rfl <|
        (ts rfl <|
        (tl rfl (b true) yq <|
        TR.nil))))))))))))))))))))) rfl (by kernel_rfl) rfl fills_nil rfl ?_
       iterate 21 refine ROps.dropS ?_
       refine ROps.drop0<|zN ?_
       refine RunC.wl (τ' := [(0, ptr (z002 a0 a1 a2 a3)), (3, i64 (a2.length : Int)), (71, b true)]) (Γ' := []) ⟨aR, aR, aR, trivial⟩ trivial<|yT<|zQ<|ya rfl (b false)<|zN ?_
       refine RunC.ret ?_
       have hq := oI h
       subst q0
       exact bR rfl
      ·obtain ⟨e5, he11, h⟩ := oS h
       rcases oB h with ⟨hc12, h⟩ | ⟨hc12, h⟩
       ·refine RunC.region_draw (Γ' := []) 21 mixed 
         (tm rfl (ptr (z002 a0 a1 a2 a3)) <|
         (tl rfl (ptr (z002 a0 a1 a2 a3)) n4 <|
         (tl rfl (ptr (z003 a1 a2 a3)) (LOp.fap und30 rfl siz22 rfl rfl rfl) <|
         (tl rfl (z004 a1) (n2 agg22) <|
         (tl rfl (ptr [i64 e4]) (LOp.le (LOp.ix (f := i64) und22 siz2 rfl rfl rfl rfl he9) ALe.ptr) <|
         (tl rfl (i64 e4) (n2 agg2) <|
         (tl rfl (b false) (LOp.eqb (LOp.neq rfl rfl rfl) hc10) <|
         (tm rfl (b false) <|
         (tm rfl (ptr (z002 a0 a1 a2 a3)) <|
         (tl rfl (ptr (z002 a0 a1 a2 a3)) n4 <|
         (tl rfl (ptr (z003 a1 a2 a3)) (LOp.fap und30 rfl siz22 rfl rfl rfl) <|
         (tl rfl (z004 a1) (n2 agg22) <|
         (tm rfl (ptr (z002 a0 a1 a2 a3)) <|
         (tl rfl (ptr (z002 a0 a1 a2 a3)) n4 <|
         (tl rfl (ptr (z002 a0 a1 a2 a3)) (LOp.fap und30 rfl siz2 rfl rfl rfl) <|
         (tl rfl (i64 a0) (n2 agg2) <|
         (tl rfl (ptr [i64 e5]) (LOp.le (LOp.ix (f := i64) und22 siz2 rfl rfl rfl rfl he11) ALe.ptr) <|
         (tl rfl (i64 e5) (n2 agg2) <|
         (tm rfl (i64 (a2.length : Int)) <|
         (tl rfl (b true) (LOp.eqb (LOp.neq rfl rfl rfl) hc12) <|
         (tl rfl (b true) yp <|
         TR.nil))))))))))))))))))))) rfl (by kernel_rfl) rfl fills_nil rfl ?_
        iterate 21 refine ROps.dropS ?_
        refine ROps.drop0<|zN ?_
        refine RunC.wl (τ' := [(0, ptr (z002 a0 a1 a2 a3)), (3, i64 (a2.length : Int)), (71, b true)]) (Γ' := []) ⟨aR, aR, aR, trivial⟩ trivial<|yT<|zQ<|ya rfl (b false)<|zN ?_
        refine RunC.ret ?_
        have hq := oI h
        subst q0
        exact bR rfl
       ·refine RunC.region_draw (Γ' := []) 21 mixed 
         (tm rfl (ptr (z002 a0 a1 a2 a3)) <|
         (tl rfl (ptr (z002 a0 a1 a2 a3)) n4 <|
         (tl rfl (ptr (z003 a1 a2 a3)) (LOp.fap und30 rfl siz22 rfl rfl rfl) <|
         (tl rfl (z004 a1) (n2 agg22) <|
         (tl rfl (ptr [i64 e4]) (LOp.le (LOp.ix (f := i64) und22 siz2 rfl rfl rfl rfl he9) ALe.ptr) <|
         (tl rfl (i64 e4) (n2 agg2) <|
         (tl rfl (b false) (LOp.eqb (LOp.neq rfl rfl rfl) hc10) <|
         (tm rfl (b false) <|
         (tm rfl (ptr (z002 a0 a1 a2 a3)) <|
         (tl rfl (ptr (z002 a0 a1 a2 a3)) n4 <|
         (tl rfl (ptr (z003 a1 a2 a3)) (LOp.fap und30 rfl siz22 rfl rfl rfl) <|
         (tl rfl (z004 a1) (n2 agg22) <|
         (tm rfl (ptr (z002 a0 a1 a2 a3)) <|
         (tl rfl (ptr (z002 a0 a1 a2 a3)) n4 <|
         (tl rfl (ptr (z002 a0 a1 a2 a3)) (LOp.fap und30 rfl siz2 rfl rfl rfl) <|
         (tl rfl (i64 a0) (n2 agg2) <|
         (tl rfl (ptr [i64 e5]) (LOp.le (LOp.ix (f := i64) und22 siz2 rfl rfl rfl rfl he11) ALe.ptr) <|
         (tl rfl (i64 e5) (n2 agg2) <|
         (tm rfl (i64 (a2.length : Int)) <|
         (tl rfl (b false) (LOp.eqb (LOp.neq rfl rfl rfl) hc12) <|
         (tl rfl (b false) yp <|
         TR.nil))))))))))))))))))))) rfl (by kernel_rfl) rfl fills_nil rfl ?_
        iterate 21 refine ROps.dropS ?_
        refine ROps.drop0<|zN ?_
        refine RunC.wl (τ' := [(0, ptr (z002 a0 a1 a2 a3)), (3, i64 (a2.length : Int)), (71, b false)]) (Γ' := []) ⟨aR, aR, aR, trivial⟩ trivial<|yF<|RunC.skip<|yS<|zQ<|ya rfl (i64 0)<|zN ?_
        obtain ⟨z8, hz_8, h⟩ := oS h
        refine RunC.cutN (fun τ Γ => WeakLe τ [] ∧ DeadLe Γ [] ∧ z8 = .inl ()) ?_ ?_
        ·refine RunC.block (RunC.loop (RunL.loopM (x := z8) (K09_s7 a0 a1 a2) (fun (s : Int) τ Γ => WeakLe τ [(0, ptr (z002 a0 a1 a2 a3)), (3, i64 (a2.length : Int)), (4, i64 s)] ∧ DeadLe Γ []) ?_ _ _ _ hz_8 ⟨⟨aR, aR, aR, trivial⟩, trivial⟩))
         rintro v6 τ8 Γ8 y8_ ⟨hw8, hd8⟩ h8_ ho8 hr8
         refine RunC.wl (τ' := [(0, ptr (z002 a0 a1 a2 a3)), (3, i64 (a2.length : Int)), (4, i64 v6)]) (Γ' := []) hw8 hd8 ?_
         replace h8_ : K09_b7 a0 a1 a2 v6 = some y8_ := h8_
         unfold K09_b7 at h8_
         refine yS<|yS ?_
         rcases oB h8_ with ⟨hc13, h8_⟩ | ⟨hc13, h8_⟩
         ·refine yW<|ym rfl (i64 v6)<|ym rfl (ptr (z002 a0 a1 a2 a3))<|yl rfl (ptr (z002 a0 a1 a2 a3)) n4<|yl rfl (ptr (z002 a0 a1 a2 a3)) (LOp.fap und30 rfl siz2 rfl rfl rfl)<|yl rfl (i64 a0) (n2 agg2)<|yl rfl (b true) (LOp.eqb (LOp.lss rfl rfl rfl) hc13)<|zN ?_
          refine yT<|RunC.skip<|yS<|RunC.block<|yS<|yS ?_
          obtain ⟨x7, hx14, h8_⟩ := oL h8_
          obtain ⟨e8, he15, h8_⟩ := oS h8_
          obtain ⟨e9, he16, h8_⟩ := oS h8_
          rcases oB h8_ with ⟨hc17, h8_⟩ | ⟨hc17, h8_⟩
          ·refine RunC.region_draw (Γ' := []) 28 mixed 
            (tm rfl (ptr (z002 a0 a1 a2 a3)) <|
            (tl rfl (ptr (z002 a0 a1 a2 a3)) n4 <|
            (tl rfl (ptr (z003 a1 a2 a3)) (LOp.fap und30 rfl siz22 rfl rfl rfl) <|
            (tl rfl (z004 a1) (n2 agg22) <|
            (tm rfl (i64 v6) <|
            (tl rfl (i64 x7) (LOp.eqr (LOp.add rfl rfl rfl) (congrArg (ik .i64) hx14)) <|
            (tl rfl (ptr [i64 e8]) (LOp.le (LOp.ix (f := i64) und22 siz2 rfl rfl rfl rfl he15) ALe.ptr) <|
            (tl rfl (i64 e8) (n2 agg2) <|
            (tm rfl (ptr (z002 a0 a1 a2 a3)) <|
            (tl rfl (ptr (z002 a0 a1 a2 a3)) n4 <|
            (tl rfl (ptr (z003 a1 a2 a3)) (LOp.fap und30 rfl siz22 rfl rfl rfl) <|
            (tl rfl (z004 a1) (n2 agg22) <|
            (tm rfl (i64 v6) <|
            (tl rfl (ptr [i64 e9]) (LOp.le (LOp.ix (f := i64) und22 siz2 rfl rfl rfl rfl he16) ALe.ptr) <|
            (tl rfl (i64 e9) (n2 agg2) <|
            (tl rfl (b true) (LOp.eqb (LOp.lss rfl rfl rfl) hc17) <|
            (tm rfl (b true) <|
            (ts rfl <|
            (ts rfl <|
            (ts rfl <|
            (ts rfl <|
            (ts rfl <|
            (ts rfl <|
            (ts rfl <|
            (ts rfl <|
            (ts rfl <|
            (ts rfl <|
            (tl rfl (b true) yq <|
            TR.nil)))))))))))))))))))))))))))) rfl (by kernel_rfl) rfl fills_nil rfl ?_
           iterate 28 refine ROps.dropS ?_
           refine ROps.drop0<|zN ?_
           refine yT<|zQ<|ya rfl (b false)<|zN ?_
           refine RunC.ret ?_
           cases oI h8_
           have hx9_ := hr8 _ rfl
           subst hx9_
           have hq := oI h
           subst q0
           exact bR rfl
          ·obtain ⟨x10, hx18, h8_⟩ := oL h8_
           obtain ⟨e11, he19, h8_⟩ := oS h8_
           rcases oB h8_ with ⟨hc20, h8_⟩ | ⟨hc20, h8_⟩
           ·refine RunC.region_draw (Γ' := []) 28 mixed 
             (tm rfl (ptr (z002 a0 a1 a2 a3)) <|
             (tl rfl (ptr (z002 a0 a1 a2 a3)) n4 <|
             (tl rfl (ptr (z003 a1 a2 a3)) (LOp.fap und30 rfl siz22 rfl rfl rfl) <|
             (tl rfl (z004 a1) (n2 agg22) <|
             (tm rfl (i64 v6) <|
             (tl rfl (i64 x7) (LOp.eqr (LOp.add rfl rfl rfl) (congrArg (ik .i64) hx14)) <|
             (tl rfl (ptr [i64 e8]) (LOp.le (LOp.ix (f := i64) und22 siz2 rfl rfl rfl rfl he15) ALe.ptr) <|
             (tl rfl (i64 e8) (n2 agg2) <|
             (tm rfl (ptr (z002 a0 a1 a2 a3)) <|
             (tl rfl (ptr (z002 a0 a1 a2 a3)) n4 <|
             (tl rfl (ptr (z003 a1 a2 a3)) (LOp.fap und30 rfl siz22 rfl rfl rfl) <|
             (tl rfl (z004 a1) (n2 agg22) <|
             (tm rfl (i64 v6) <|
             (tl rfl (ptr [i64 e9]) (LOp.le (LOp.ix (f := i64) und22 siz2 rfl rfl rfl rfl he16) ALe.ptr) <|
             (tl rfl (i64 e9) (n2 agg2) <|
             (tl rfl (b false) (LOp.eqb (LOp.lss rfl rfl rfl) hc17) <|
             (tm rfl (b false) <|
             (tm rfl (ptr (z002 a0 a1 a2 a3)) <|
             (tl rfl (ptr (z002 a0 a1 a2 a3)) n4 <|
             (tl rfl (ptr (z003 a1 a2 a3)) (LOp.fap und30 rfl siz22 rfl rfl rfl) <|
             (tl rfl (z004 a1) (n2 agg22) <|
             (tm rfl (i64 v6) <|
             (tl rfl (i64 x10) (LOp.eqr (LOp.add rfl rfl rfl) (congrArg (ik .i64) hx18)) <|
             (tl rfl (ptr [i64 e11]) (LOp.le (LOp.ix (f := i64) und22 siz2 rfl rfl rfl rfl he19) ALe.ptr) <|
             (tl rfl (i64 e11) (n2 agg2) <|
             (tm rfl (i64 (a2.length : Int)) <|
             (tl rfl (b true) (LOp.eqb (LOp.gtr rfl rfl rfl) hc20) <|
             (tl rfl (b true) yp <|
             TR.nil)))))))))))))))))))))))))))) rfl (by kernel_rfl) rfl fills_nil rfl ?_
            iterate 28 refine ROps.dropS ?_
            refine ROps.drop0<|zN ?_
            refine yT<|zQ<|ya rfl (b false)<|zN ?_
            refine RunC.ret ?_
            cases oI h8_
            have hx10_ := hr8 _ rfl
            subst hx10_
            have hq := oI h
            subst q0
            exact bR rfl
           ·refine RunC.region_draw (Γ' := []) 28 mixed 
             (tm rfl (ptr (z002 a0 a1 a2 a3)) <|
             (tl rfl (ptr (z002 a0 a1 a2 a3)) n4 <|
             (tl rfl (ptr (z003 a1 a2 a3)) (LOp.fap und30 rfl siz22 rfl rfl rfl) <|
             (tl rfl (z004 a1) (n2 agg22) <|
             (tm rfl (i64 v6) <|
             (tl rfl (i64 x7) (LOp.eqr (LOp.add rfl rfl rfl) (congrArg (ik .i64) hx14)) <|
             (tl rfl (ptr [i64 e8]) (LOp.le (LOp.ix (f := i64) und22 siz2 rfl rfl rfl rfl he15) ALe.ptr) <|
             (tl rfl (i64 e8) (n2 agg2) <|
             (tm rfl (ptr (z002 a0 a1 a2 a3)) <|
             (tl rfl (ptr (z002 a0 a1 a2 a3)) n4 <|
             (tl rfl (ptr (z003 a1 a2 a3)) (LOp.fap und30 rfl siz22 rfl rfl rfl) <|
             (tl rfl (z004 a1) (n2 agg22) <|
             (tm rfl (i64 v6) <|
             (tl rfl (ptr [i64 e9]) (LOp.le (LOp.ix (f := i64) und22 siz2 rfl rfl rfl rfl he16) ALe.ptr) <|
             (tl rfl (i64 e9) (n2 agg2) <|
             (tl rfl (b false) (LOp.eqb (LOp.lss rfl rfl rfl) hc17) <|
             (tm rfl (b false) <|
             (tm rfl (ptr (z002 a0 a1 a2 a3)) <|
             (tl rfl (ptr (z002 a0 a1 a2 a3)) n4 <|
             (tl rfl (ptr (z003 a1 a2 a3)) (LOp.fap und30 rfl siz22 rfl rfl rfl) <|
             (tl rfl (z004 a1) (n2 agg22) <|
             (tm rfl (i64 v6) <|
             (tl rfl (i64 x10) (LOp.eqr (LOp.add rfl rfl rfl) (congrArg (ik .i64) hx18)) <|
             (tl rfl (ptr [i64 e11]) (LOp.le (LOp.ix (f := i64) und22 siz2 rfl rfl rfl rfl he19) ALe.ptr) <|
             (tl rfl (i64 e11) (n2 agg2) <|
             (tm rfl (i64 (a2.length : Int)) <|
             (tl rfl (b false) (LOp.eqb (LOp.gtr rfl rfl rfl) hc20) <|
             (tl rfl (b false) yp <|
             TR.nil)))))))))))))))))))))))))))) rfl (by kernel_rfl) rfl fills_nil rfl ?_
            iterate 28 refine ROps.dropS ?_
            refine ROps.drop0<|zN ?_
            refine yF<|RunC.skip<|yS ?_
            obtain ⟨e12, he21, h8_⟩ := oS h8_
            refine yW<|ym rfl (ptr (z002 a0 a1 a2 a3))<|yl rfl (ptr (z002 a0 a1 a2 a3)) n4<|yl rfl (ptr (z003 a1 a2 a3)) (LOp.fap und30 rfl siz22 rfl rfl rfl)<|yl rfl (z004 a1) (n2 agg22)<|ym rfl (i64 v6)<|yl rfl (ptr [i64 e12]) (LOp.le (LOp.ix (f := i64) und22 siz2 rfl rfl rfl rfl he21) ALe.ptr)<|yl rfl (i64 e12) (n2 agg2)<|ya rfl (i64 e12)<|zN ?_
            obtain ⟨z11, hz_11, h8_⟩ := oS h8_
            refine RunC.cutN (fun τ Γ => WeakLe τ [(0, ptr (z002 a0 a1 a2 a3)), (3, i64 (a2.length : Int)), (4, i64 v6), (97, ptr (z002 a0 a1 a2 a3)), (98, ptr (z002 a0 a1 a2 a3)), (99, ptr (z003 a1 a2 a3)), (100, sl a1.length (a1.map i64)), (101, i64 v6), (102, i64 x10), (103, ptr [i64 e11]), (104, i64 e11), (105, i64 (a2.length : Int)), (106, b false)] ∧ DeadLe Γ [] ∧ z11 = .inl ()) ?_ ?_
            ·refine RunC.block (RunC.loop (RunL.loopM (x := z11) (K09_s6 a0 a1 a2 v6) (fun (s : Int) τ Γ => WeakLe τ [(0, ptr (z002 a0 a1 a2 a3)), (3, i64 (a2.length : Int)), (4, i64 v6), (5, i64 s), (97, ptr (z002 a0 a1 a2 a3)), (98, ptr (z002 a0 a1 a2 a3)), (99, ptr (z003 a1 a2 a3)), (100, sl a1.length (a1.map i64)), (101, i64 v6), (102, i64 x10), (103, ptr [i64 e11]), (104, i64 e11), (105, i64 (a2.length : Int)), (106, b false)] ∧ DeadLe Γ []) ?_ _ _ _ hz_11 ⟨⟨aR, aR, aR, aR, aR, aR, aR, aR, aR, aR, aR, aR, aR, aR, trivial⟩, trivial⟩))
             rintro v13 τ11 Γ11 y11_ ⟨hw11, hd11⟩ h11_ ho11 hr11
             refine RunC.wl (τ' := [(0, ptr (z002 a0 a1 a2 a3)), (3, i64 (a2.length : Int)), (4, i64 v6), (5, i64 v13), (97, ptr (z002 a0 a1 a2 a3)), (98, ptr (z002 a0 a1 a2 a3)), (99, ptr (z003 a1 a2 a3)), (100, sl a1.length (a1.map i64)), (101, i64 v6), (102, i64 x10), (103, ptr [i64 e11]), (104, i64 e11), (105, i64 (a2.length : Int)), (106, b false)]) (Γ' := []) hw11 hd11 ?_
             replace h11_ : K09_b6 a0 a1 a2 v6 v13 = some y11_ := h11_
             unfold K09_b6 at h11_
             refine yS<|yS ?_
             obtain ⟨x14, hx22, h11_⟩ := oL h11_
             obtain ⟨e15, he23, h11_⟩ := oS h11_
             rcases oB h11_ with ⟨hc24, h11_⟩ | ⟨hc24, h11_⟩
             ·refine yW<|ym rfl (i64 v13)<|ym rfl (ptr (z002 a0 a1 a2 a3))<|yl rfl (ptr (z002 a0 a1 a2 a3)) n4<|yl rfl (ptr (z003 a1 a2 a3)) (LOp.fap und30 rfl siz22 rfl rfl rfl)<|yl rfl (z004 a1) (n2 agg22)<|ym rfl (i64 v6)<|yl rfl (i64 x14) (LOp.eqr (LOp.add rfl rfl rfl) (congrArg (ik .i64) hx22))<|yl rfl (ptr [i64 e15]) (LOp.le (LOp.ix (f := i64) und22 siz2 rfl rfl rfl rfl he23) ALe.ptr)<|yl rfl (i64 e15) (n2 agg2)<|yl rfl (b true) (LOp.eqb (LOp.lss rfl rfl rfl) hc24)<|zN ?_
              refine yT<|RunC.skip<|yS<|RunC.cutN (fun τ Γ => ∃ (w23 : Bool) (v24 : Int), WeakLe τ [(0, ptr (z002 a0 a1 a2 a3)), (3, i64 (a2.length : Int)), (4, i64 v6), (5, i64 v13), (97, ptr (z002 a0 a1 a2 a3)), (98, ptr (z002 a0 a1 a2 a3)), (99, ptr (z003 a1 a2 a3)), (100, sl a1.length (a1.map i64)), (101, i64 v6), (102, i64 x10), (103, ptr [i64 e11]), (104, i64 e11), (105, i64 (a2.length : Int)), (106, b false), (142, i64 v13), (143, ptr (z002 a0 a1 a2 a3)), (144, ptr (z002 a0 a1 a2 a3)), (145, ptr (z003 a1 a2 a3)), (146, sl a1.length (a1.map i64)), (147, i64 v6), (148, ptr [i64 v24]), (149, i64 v24), (150, b w23), (151, b w23), (168, b false)] ∧ DeadLe Γ [] ∧ K09_k5 v13 w23 v24 = some y11_) ?_ ?_
              ·refine RunC.block<|yS ?_
               obtain ⟨e16, he25, h11_⟩ := oS h11_
               obtain ⟨x17, hx26, h11_⟩ := oL h11_
               obtain ⟨r18, hf27, h11_⟩ := oS h11_
               rcases oB h11_ with ⟨hc28, h11_⟩ | ⟨hc28, h11_⟩
               ·obtain ⟨e19, he29, h11_⟩ := oS h11_
                rcases oB h11_ with ⟨hc30, h11_⟩ | ⟨hc30, h11_⟩
                ·obtain ⟨e20, he31, h11_⟩ := oS h11_
                 obtain ⟨x21, hx32, h11_⟩ := oL h11_
                 obtain ⟨e22, he33, h11_⟩ := oS h11_
                 rcases oB h11_ with ⟨hc34, h11_⟩ | ⟨hc34, h11_⟩
                 ·refine RunC.region_draw (Γ' := []) 43 mixed 
                   (tm rfl (ptr (z002 a0 a1 a2 a3)) <|
                   (tl rfl (ptr (z002 a0 a1 a2 a3)) n4 <|
                   (tl rfl (ptr (z005 a2 a3)) (LOp.fap und30 rfl siz22 rfl rfl rfl) <|
                   (tl rfl (z006 a2) (n2 agg22) <|
                   (tm rfl (i64 v13) <|
                   (tl rfl (ptr [i64 e16]) (LOp.le (LOp.ix (f := i64) und22 siz2 rfl rfl rfl rfl he25) ALe.ptr) <|
                   (tl rfl (i64 e16) (n2 agg2) <|
                   (tm rfl (ptr (z002 a0 a1 a2 a3)) <|
                   (tl rfl (ptr (z002 a0 a1 a2 a3)) n4 <|
                   (tl rfl (ptr (z002 a0 a1 a2 a3)) (LOp.fap und30 rfl siz2 rfl rfl rfl) <|
                   (tl rfl (i64 a0) (n2 agg2) <|
                   (tl rfl (i64 x17) (LOp.eqr (LOp.sub rfl rfl rfl) (congrArg (ik .i64) hx26)) <|
                   (TR.d (r := b true) (fs := []) rfl rfl (TOp.eqb (yc ent73 rfl rfl (bP (bP bN0)) (K05_ok e16 0 x17 r18 hf27)) hc28) <|
                   (tl rfl (b false) (LOp.eqb (LOp.not rfl rfl) rfl) <|
                   (tm rfl (b false) <|
                   (tm rfl (i64 v13) <|
                   (tm rfl (ptr (z002 a0 a1 a2 a3)) <|
                   (tl rfl (ptr (z002 a0 a1 a2 a3)) n4 <|
                   (tl rfl (ptr (z003 a1 a2 a3)) (LOp.fap und30 rfl siz22 rfl rfl rfl) <|
                   (tl rfl (z004 a1) (n2 agg22) <|
                   (tm rfl (i64 v6) <|
                   (tl rfl (ptr [i64 e19]) (LOp.le (LOp.ix (f := i64) und22 siz2 rfl rfl rfl rfl he29) ALe.ptr) <|
                   (tl rfl (i64 e19) (n2 agg2) <|
                   (tl rfl (b true) (LOp.eqb (LOp.gtr rfl rfl rfl) hc30) <|
                   (tm rfl (b true) <|
                   (tm rfl (ptr (z002 a0 a1 a2 a3)) <|
                   (tl rfl (ptr (z002 a0 a1 a2 a3)) n4 <|
                   (tl rfl (ptr (z005 a2 a3)) (LOp.fap und30 rfl siz22 rfl rfl rfl) <|
                   (tl rfl (z006 a2) (n2 agg22) <|
                   (tm rfl (i64 v13) <|
                   (tl rfl (ptr [i64 e20]) (LOp.le (LOp.ix (f := i64) und22 siz2 rfl rfl rfl rfl he31) ALe.ptr) <|
                   (tl rfl (i64 e20) (n2 agg2) <|
                   (tm rfl (ptr (z002 a0 a1 a2 a3)) <|
                   (tl rfl (ptr (z002 a0 a1 a2 a3)) n4 <|
                   (tl rfl (ptr (z005 a2 a3)) (LOp.fap und30 rfl siz22 rfl rfl rfl) <|
                   (tl rfl (z006 a2) (n2 agg22) <|
                   (tm rfl (i64 v13) <|
                   (tl rfl (i64 x21) (LOp.eqr (LOp.sub rfl rfl rfl) (congrArg (ik .i64) hx32)) <|
                   (tl rfl (ptr [i64 e22]) (LOp.le (LOp.ix (f := i64) und22 siz2 rfl rfl rfl rfl he33) ALe.ptr) <|
                   (tl rfl (i64 e22) (n2 agg2) <|
                   (tl rfl (b true) (LOp.eqb (LOp.leq rfl rfl rfl) hc34) <|
                   (tl rfl (b true) yq <|
                   (tl rfl (b true) yp <|
                   TR.nil))))))))))))))))))))))))))))))))))))))))))) rfl (by kernel_rfl) rfl fills_nil rfl ?_
                  iterate 43 refine ROps.dropS ?_
                  refine ROps.drop0<|zN ?_
                  refine RunC.wl (τ' := [(0, ptr (z002 a0 a1 a2 a3)), (3, i64 (a2.length : Int)), (4, i64 v6), (5, i64 v13), (97, ptr (z002 a0 a1 a2 a3)), (98, ptr (z002 a0 a1 a2 a3)), (99, ptr (z003 a1 a2 a3)), (100, sl a1.length (a1.map i64)), (101, i64 v6), (102, i64 x10), (103, ptr [i64 e11]), (104, i64 e11), (105, i64 (a2.length : Int)), (106, b false), (142, i64 v13), (143, ptr (z002 a0 a1 a2 a3)), (144, ptr (z002 a0 a1 a2 a3)), (145, ptr (z003 a1 a2 a3)), (146, sl a1.length (a1.map i64)), (147, i64 v6), (148, ptr [i64 e19]), (149, i64 e19), (150, b true), (151, b true), (152, ptr (z002 a0 a1 a2 a3)), (153, ptr (z002 a0 a1 a2 a3)), (154, ptr (z005 a2 a3)), (155, sl a2.length (a2.map i64)), (156, i64 v13), (157, ptr [i64 e20]), (158, i64 e20), (159, ptr (z002 a0 a1 a2 a3)), (160, ptr (z002 a0 a1 a2 a3)), (161, ptr (z005 a2 a3)), (162, sl a2.length (a2.map i64)), (163, i64 v13), (164, i64 x21), (165, ptr [i64 e22]), (166, i64 e22), (167, b true), (168, b true), (169, b true)]) (Γ' := []) ⟨aR, aR, aR, aR, aR, aR, aR, aR, aR, aR, aR, aR, aR, aR, aR, aR, aR, aR, aR, aR, aR, aR, aR, aR, aR, aR, aR, aR, aR, aR, aR, aR, aR, aR, aR, aR, aR, aR, aR, aR, aR, aR, trivial⟩ trivial<|yT<|zQ<|ya rfl (b false)<|zN ?_
                  refine RunC.ret ?_
                  cases oI h11_
                  have hx12_ := hr11 _ rfl
                  subst hx12_
                  cases oI h8_
                  have hx13_ := hr8 _ rfl
                  subst hx13_
                  have hq := oI h
                  subst q0
                  exact bR rfl
                 ·refine RunC.region_draw (Γ' := []) 43 mixed 
                   (tm rfl (ptr (z002 a0 a1 a2 a3)) <|
                   (tl rfl (ptr (z002 a0 a1 a2 a3)) n4 <|
                   (tl rfl (ptr (z005 a2 a3)) (LOp.fap und30 rfl siz22 rfl rfl rfl) <|
                   (tl rfl (z006 a2) (n2 agg22) <|
                   (tm rfl (i64 v13) <|
                   (tl rfl (ptr [i64 e16]) (LOp.le (LOp.ix (f := i64) und22 siz2 rfl rfl rfl rfl he25) ALe.ptr) <|
                   (tl rfl (i64 e16) (n2 agg2) <|
                   (tm rfl (ptr (z002 a0 a1 a2 a3)) <|
                   (tl rfl (ptr (z002 a0 a1 a2 a3)) n4 <|
                   (tl rfl (ptr (z002 a0 a1 a2 a3)) (LOp.fap und30 rfl siz2 rfl rfl rfl) <|
                   (tl rfl (i64 a0) (n2 agg2) <|
                   (tl rfl (i64 x17) (LOp.eqr (LOp.sub rfl rfl rfl) (congrArg (ik .i64) hx26)) <|
                   (TR.d (r := b true) (fs := []) rfl rfl (TOp.eqb (yc ent73 rfl rfl (bP (bP bN0)) (K05_ok e16 0 x17 r18 hf27)) hc28) <|
                   (tl rfl (b false) (LOp.eqb (LOp.not rfl rfl) rfl) <|
                   (tm rfl (b false) <|
                   (tm rfl (i64 v13) <|
                   (tm rfl (ptr (z002 a0 a1 a2 a3)) <|
                   (tl rfl (ptr (z002 a0 a1 a2 a3)) n4 <|
                   (tl rfl (ptr (z003 a1 a2 a3)) (LOp.fap und30 rfl siz22 rfl rfl rfl) <|
                   (tl rfl (z004 a1) (n2 agg22) <|
                   (tm rfl (i64 v6) <|
                   (tl rfl (ptr [i64 e19]) (LOp.le (LOp.ix (f := i64) und22 siz2 rfl rfl rfl rfl he29) ALe.ptr) <|
                   (tl rfl (i64 e19) (n2 agg2) <|
                   (tl rfl (b true) (LOp.eqb (LOp.gtr rfl rfl rfl) hc30) <|
                   (tm rfl (b true) <|
                   (tm rfl (ptr (z002 a0 a1 a2 a3)) <|
                   (tl rfl (ptr (z002 a0 a1 a2 a3)) n4 <|
                   (tl rfl (ptr (z005 a2 a3)) (LOp.fap und30 rfl siz22 rfl rfl rfl) <|
                   (tl rfl (z006 a2) (n2 agg22) <|
                   (tm rfl (i64 v13) <|
                   (tl rfl (ptr [i64 e20]) (LOp.le (LOp.ix (f := i64) und22 siz2 rfl rfl rfl rfl he31) ALe.ptr) <|
                   (tl rfl (i64 e20) (n2 agg2) <|
                   (tm rfl (ptr (z002 a0 a1 a2 a3)) <|
                   (tl rfl (ptr (z002 a0 a1 a2 a3)) n4 <|
                   (tl rfl (ptr (z005 a2 a3)) (LOp.fap und30 rfl siz22 rfl rfl rfl) <|
                   (tl rfl (z006 a2) (n2 agg22) <|
                   (tm rfl (i64 v13) <|
                   (tl rfl (i64 x21) (LOp.eqr (LOp.sub rfl rfl rfl) (congrArg (ik .i64) hx32)) <|
                   (tl rfl (ptr [i64 e22]) (LOp.le (LOp.ix (f := i64) und22 siz2 rfl rfl rfl rfl he33) ALe.ptr) <|
                   (tl rfl (i64 e22) (n2 agg2) <|
                   (tl rfl (b false) (LOp.eqb (LOp.leq rfl rfl rfl) hc34) <|
                   (tl rfl (b false) yq <|
                   (tl rfl (b false) yp <|
                   TR.nil))))))))))))))))))))))))))))))))))))))))))) rfl (by kernel_rfl) rfl fills_nil rfl ?_
                  iterate 43 refine ROps.dropS ?_
                  refine ROps.drop0<|zN ?_
                  refine RunC.wl (τ' := [(0, ptr (z002 a0 a1 a2 a3)), (3, i64 (a2.length : Int)), (4, i64 v6), (5, i64 v13), (97, ptr (z002 a0 a1 a2 a3)), (98, ptr (z002 a0 a1 a2 a3)), (99, ptr (z003 a1 a2 a3)), (100, sl a1.length (a1.map i64)), (101, i64 v6), (102, i64 x10), (103, ptr [i64 e11]), (104, i64 e11), (105, i64 (a2.length : Int)), (106, b false), (142, i64 v13), (143, ptr (z002 a0 a1 a2 a3)), (144, ptr (z002 a0 a1 a2 a3)), (145, ptr (z003 a1 a2 a3)), (146, sl a1.length (a1.map i64)), (147, i64 v6), (148, ptr [i64 e19]), (149, i64 e19), (150, b true), (151, b true), (152, ptr (z002 a0 a1 a2 a3)), (153, ptr (z002 a0 a1 a2 a3)), (154, ptr (z005 a2 a3)), (155, sl a2.length (a2.map i64)), (156, i64 v13), (157, ptr [i64 e20]), (158, i64 e20), (159, ptr (z002 a0 a1 a2 a3)), (160, ptr (z002 a0 a1 a2 a3)), (161, ptr (z005 a2 a3)), (162, sl a2.length (a2.map i64)), (163, i64 v13), (164, i64 x21), (165, ptr [i64 e22]), (166, i64 e22), (167, b false), (168, b false), (169, b false)]) (Γ' := []) ⟨aR, aR, aR, aR, aR, aR, aR, aR, aR, aR, aR, aR, aR, aR, aR, aR, aR, aR, aR, aR, aR, aR, aR, aR, aR, aR, aR, aR, aR, aR, aR, aR, aR, aR, aR, aR, aR, aR, aR, aR, aR, aR, trivial⟩ trivial<|yF<|RunC.skip ?_
                  exact ⟨true, e19, ⟨aR, aR, aR, aR, aR, aR, aR, aR, aR, aR, aR, aR, aR, aR, aR, aR, aR, aR, aR, aR, aR, aR, aR, aR, aR, trivial⟩, trivial, h11_⟩
                ·refine RunC.region_draw (Γ' := []) 43 mixed 
                  (tm rfl (ptr (z002 a0 a1 a2 a3)) <|
                  (tl rfl (ptr (z002 a0 a1 a2 a3)) n4 <|
                  (tl rfl (ptr (z005 a2 a3)) (LOp.fap und30 rfl siz22 rfl rfl rfl) <|
                  (tl rfl (z006 a2) (n2 agg22) <|
                  (tm rfl (i64 v13) <|
                  (tl rfl (ptr [i64 e16]) (LOp.le (LOp.ix (f := i64) und22 siz2 rfl rfl rfl rfl he25) ALe.ptr) <|
                  (tl rfl (i64 e16) (n2 agg2) <|
                  (tm rfl (ptr (z002 a0 a1 a2 a3)) <|
                  (tl rfl (ptr (z002 a0 a1 a2 a3)) n4 <|
                  (tl rfl (ptr (z002 a0 a1 a2 a3)) (LOp.fap und30 rfl siz2 rfl rfl rfl) <|
                  (tl rfl (i64 a0) (n2 agg2) <|
                  (tl rfl (i64 x17) (LOp.eqr (LOp.sub rfl rfl rfl) (congrArg (ik .i64) hx26)) <|
                  (TR.d (r := b true) (fs := []) rfl rfl (TOp.eqb (yc ent73 rfl rfl (bP (bP bN0)) (K05_ok e16 0 x17 r18 hf27)) hc28) <|
                  (tl rfl (b false) (LOp.eqb (LOp.not rfl rfl) rfl) <|
                  (tm rfl (b false) <|
                  (tm rfl (i64 v13) <|
                  (tm rfl (ptr (z002 a0 a1 a2 a3)) <|
                  (tl rfl (ptr (z002 a0 a1 a2 a3)) n4 <|
                  (tl rfl (ptr (z003 a1 a2 a3)) (LOp.fap und30 rfl siz22 rfl rfl rfl) <|
                  (tl rfl (z004 a1) (n2 agg22) <|
                  (tm rfl (i64 v6) <|
                  (tl rfl (ptr [i64 e19]) (LOp.le (LOp.ix (f := i64) und22 siz2 rfl rfl rfl rfl he29) ALe.ptr) <|
                  (tl rfl (i64 e19) (n2 agg2) <|
                  (tl rfl (b false) (LOp.eqb (LOp.gtr rfl rfl rfl) hc30) <|
                  (tm rfl (b false) <|
                  (ts rfl <|
                  (ts rfl <|
                  (ts rfl <|
                  (ts rfl <|
                  (ts rfl <|
                  (ts rfl <|
                  (ts rfl <|
                  (ts rfl <|
                  (ts rfl <|
                  (ts rfl <|
                  (ts rfl <|
                  (ts rfl <|
                  (ts rfl <|
                  (ts rfl <|
                  (ts rfl <|
                  (ts rfl <|
                  (tl rfl (b false) yp <|
                  (tl rfl (b false) yp <|
                  TR.nil))))))))))))))))))))))))))))))))))))))))))) rfl (by kernel_rfl) rfl fills_nil rfl ?_
                 iterate 43 refine ROps.dropS ?_
                 refine ROps.drop0<|zN ?_
                 refine RunC.wl (τ' := [(0, ptr (z002 a0 a1 a2 a3)), (3, i64 (a2.length : Int)), (4, i64 v6), (5, i64 v13), (97, ptr (z002 a0 a1 a2 a3)), (98, ptr (z002 a0 a1 a2 a3)), (99, ptr (z003 a1 a2 a3)), (100, sl a1.length (a1.map i64)), (101, i64 v6), (102, i64 x10), (103, ptr [i64 e11]), (104, i64 e11), (105, i64 (a2.length : Int)), (106, b false), (142, i64 v13), (143, ptr (z002 a0 a1 a2 a3)), (144, ptr (z002 a0 a1 a2 a3)), (145, ptr (z003 a1 a2 a3)), (146, sl a1.length (a1.map i64)), (147, i64 v6), (148, ptr [i64 e19]), (149, i64 e19), (150, b false), (151, b false), (168, b false), (169, b false)]) (Γ' := []) ⟨aR, aR, aR, aR, aR, aR, aR, aR, aR, aR, aR, aR, aR, aR, aR, aR, aR, aR, aR, aR, aR, aR, aR, aR, aR, aR, trivial⟩ trivial<|yF<|RunC.skip ?_
                 exact ⟨false, e19, ⟨aR, aR, aR, aR, aR, aR, aR, aR, aR, aR, aR, aR, aR, aR, aR, aR, aR, aR, aR, aR, aR, aR, aR, aR, aR, trivial⟩, trivial, h11_⟩
               ·refine RunC.region_draw (Γ' := []) 43 mixed 
                 (tm rfl (ptr (z002 a0 a1 a2 a3)) <|
                 (tl rfl (ptr (z002 a0 a1 a2 a3)) n4 <|
                 (tl rfl (ptr (z005 a2 a3)) (LOp.fap und30 rfl siz22 rfl rfl rfl) <|
                 (tl rfl (z006 a2) (n2 agg22) <|
                 (tm rfl (i64 v13) <|
                 (tl rfl (ptr [i64 e16]) (LOp.le (LOp.ix (f := i64) und22 siz2 rfl rfl rfl rfl he25) ALe.ptr) <|
                 (tl rfl (i64 e16) (n2 agg2) <|
                 (tm rfl (ptr (z002 a0 a1 a2 a3)) <|
                 (tl rfl (ptr (z002 a0 a1 a2 a3)) n4 <|
                 (tl rfl (ptr (z002 a0 a1 a2 a3)) (LOp.fap und30 rfl siz2 rfl rfl rfl) <|
                 (tl rfl (i64 a0) (n2 agg2) <|
                 (tl rfl (i64 x17) (LOp.eqr (LOp.sub rfl rfl rfl) (congrArg (ik .i64) hx26)) <|
                 (TR.d (r := b false) (fs := []) rfl rfl (TOp.eqb (yc ent73 rfl rfl (bP (bP bN0)) (K05_ok e16 0 x17 r18 hf27)) hc28) <|
                 (tl rfl (b true) (LOp.eqb (LOp.not rfl rfl) rfl) <|
                 (tm rfl (b true) <|
                 (ts rfl <|
                 (ts rfl <|
                 (ts rfl <|
                 (ts rfl <|
                 (ts rfl <|
                 (ts rfl <|
                 (ts rfl <|
                 (ts rfl <|
                 (ts rfl <|
                 (ts rfl <|
                 (ts rfl <|
                 (ts rfl <|
                 (ts rfl <|
                 (ts rfl <|
                 (ts rfl <|
                 (ts rfl <|
                 (ts rfl <|
                 (ts rfl <|
                 (ts rfl <|
                 (ts rfl <|
                 (ts rfl <|
                 (ts rfl <|
                 (ts rfl <|
                 (ts rfl <|
                 (ts rfl <|
                 (ts rfl <|
                 (ts rfl <|
                 (tl rfl (b true) yq <|
                 TR.nil))))))))))))))))))))))))))))))))))))))))))) rfl (by kernel_rfl) rfl fills_nil rfl ?_
                iterate 43 refine ROps.dropS ?_
                refine ROps.drop0<|zN ?_
                refine RunC.wl (τ' := [(0, ptr (z002 a0 a1 a2 a3)), (3, i64 (a2.length : Int)), (4, i64 v6), (5, i64 v13), (97, ptr (z002 a0 a1 a2 a3)), (98, ptr (z002 a0 a1 a2 a3)), (99, ptr (z003 a1 a2 a3)), (100, sl a1.length (a1.map i64)), (101, i64 v6), (102, i64 x10), (103, ptr [i64 e11]), (104, i64 e11), (105, i64 (a2.length : Int)), (106, b false), (169, b true)]) (Γ' := []) ⟨aR, aR, aR, aR, aR, aR, aR, aR, aR, aR, aR, aR, aR, aR, aR, trivial⟩ trivial<|yT<|zQ<|ya rfl (b false)<|zN ?_
                refine RunC.ret ?_
                cases oI h11_
                have hx14_ := hr11 _ rfl
                subst hx14_
                cases oI h8_
                have hx15_ := hr8 _ rfl
                subst hx15_
                have hq := oI h
                subst q0
                exact bR rfl
              ·rintro τ16 Γ16 ⟨w23, v24, hw16, hd16, h11_⟩
               refine RunC.wl hw16 hd16 ?_
               unfold K09_k5 at h11_
               obtain ⟨x25, hx35, h11_⟩ := oL h11_
               refine yW<|ym rfl (i64 v13)<|yl rfl (i64 x25) (LOp.eqr (LOp.add rfl rfl rfl) (congrArg (ik .i64) hx35))<|ya rfl (i64 x25)<|zN ?_
               cases oI h11_
               exact ⟨_, rfl, ⟨aR, aR, aR, aR, aR, aR, aR, aR, aR, aR, aR, aR, aR, aR, trivial⟩, trivial⟩
             ·refine yW<|ym rfl (i64 v13)<|ym rfl (ptr (z002 a0 a1 a2 a3))<|yl rfl (ptr (z002 a0 a1 a2 a3)) n4<|yl rfl (ptr (z003 a1 a2 a3)) (LOp.fap und30 rfl siz22 rfl rfl rfl)<|yl rfl (z004 a1) (n2 agg22)<|ym rfl (i64 v6)<|yl rfl (i64 x14) (LOp.eqr (LOp.add rfl rfl rfl) (congrArg (ik .i64) hx22))<|yl rfl (ptr [i64 e15]) (LOp.le (LOp.ix (f := i64) und22 siz2 rfl rfl rfl rfl he23) ALe.ptr)<|yl rfl (i64 e15) (n2 agg2)<|yl rfl (b false) (LOp.eqb (LOp.lss rfl rfl rfl) hc24)<|zN ?_
              refine yF<|RunC.exit ?_
              cases oI h11_
              have hx := ho11 _ rfl
              exact ⟨⟨aR, aR, aR, aR, aR, aR, aR, aR, aR, aR, aR, aR, aR, trivial⟩, trivial, hx⟩
            ·rintro τ17 Γ17 ⟨hw17, hd17, rfl⟩
             refine RunC.wl hw17 hd17 ?_
             replace h8_ : K09_k6 v6 = some y8_ := h8_
             unfold K09_k6 at h8_
             obtain ⟨x26, hx36, h8_⟩ := oL h8_
             refine yW<|ym rfl (i64 v6)<|yl rfl (i64 x26) (LOp.eqr (LOp.add rfl rfl rfl) (congrArg (ik .i64) hx36))<|ya rfl (i64 x26)<|zN ?_
             cases oI h8_
             exact ⟨_, rfl, ⟨aR, aR, aR, trivial⟩, trivial⟩
         ·refine yW<|ym rfl (i64 v6)<|ym rfl (ptr (z002 a0 a1 a2 a3))<|yl rfl (ptr (z002 a0 a1 a2 a3)) n4<|yl rfl (ptr (z002 a0 a1 a2 a3)) (LOp.fap und30 rfl siz2 rfl rfl rfl)<|yl rfl (i64 a0) (n2 agg2)<|yl rfl (b false) (LOp.eqb (LOp.lss rfl rfl rfl) hc13)<|zN ?_
          refine yF<|RunC.exit ?_
          cases oI h8_
          have hx := ho8 _ rfl
          exact ⟨trivial, trivial, hx⟩
        ·rintro τ18 Γ18 ⟨hw18, hd18, rfl⟩
         refine RunC.wl hw18 hd18 ?_
         replace h : K09_k7 = some q0 := h
         unfold K09_k7 at h
         refine zQ<|ya rfl (b true)<|zN ?_
         refine RunC.ret ?_
         have hq := oI h
         subst q0
         exact bR rfl
     ·refine RunC.region_draw (Γ' := []) 40 mixed 
       (tm rfl (ptr (z002 a0 a1 a2 a3)) <|
       (tl rfl (ptr (z002 a0 a1 a2 a3)) n4 <|
       (tl rfl (ptr (z002 a0 a1 a2 a3)) (LOp.fap und30 rfl siz2 rfl rfl rfl) <|
       (tl rfl (i64 a0) (n2 agg2) <|
       (TR.d (r := b true) (fs := []) rfl rfl (TOp.eqb (yc ent73 rfl rfl (bP (bP bN0)) (K05_ok a0 1 32 r1 hf1)) hc2) <|
       (tl rfl (b false) (LOp.eqb (LOp.not rfl rfl) rfl) <|
       (tm rfl (b false) <|
       (tm rfl (ptr (z002 a0 a1 a2 a3)) <|
       (tl rfl (ptr (z002 a0 a1 a2 a3)) n4 <|
       (tl rfl (ptr (z003 a1 a2 a3)) (LOp.fap und30 rfl siz22 rfl rfl rfl) <|
       (tl rfl (z004 a1) (n2 agg22) <|
       (tl rfl (i64 (a1.length : Int)) (LOp.len_sl und22 rfl rfl) <|
       (tm rfl (ptr (z002 a0 a1 a2 a3)) <|
       (tl rfl (ptr (z002 a0 a1 a2 a3)) n4 <|
       (tl rfl (ptr (z002 a0 a1 a2 a3)) (LOp.fap und30 rfl siz2 rfl rfl rfl) <|
       (tl rfl (i64 a0) (n2 agg2) <|
       (tl rfl (i64 x2) (LOp.eqr (LOp.add rfl rfl rfl) (congrArg (ik .i64) hx3)) <|
       (tl rfl (b false) (LOp.eqb (LOp.neq rfl rfl rfl) hc4) <|
       (tl rfl (b false) yp <|
       (tm rfl (b false) <|
       (tm rfl (i64 (a2.length : Int)) <|
       (tl rfl (b false) (LOp.eqb (LOp.gtr rfl rfl rfl) hc5) <|
       (tl rfl (b false) yp <|
       (tm rfl (b false) <|
       (tm rfl (ptr (z002 a0 a1 a2 a3)) <|
       (tl rfl (ptr (z002 a0 a1 a2 a3)) n4 <|
       (tl rfl (ptr [(sFc a3)]) (LOp.fap und30 rfl siz23 rfl rfl rfl) <|
       (tl rfl (sFc a3) (n2 agg23) <|
       (tl rfl (i64 (a3.length : Int)) (LOp.len_sl und23 rfl rfl) <|
       (tm rfl (i64 (a2.length : Int)) <|
       (tl rfl (b false) (LOp.eqb (LOp.neq rfl rfl rfl) hc6) <|
       (tl rfl (b false) yp <|
       (tm rfl (b false) <|
       (tm rfl (ptr (z002 a0 a1 a2 a3)) <|
       (tl rfl (ptr (z002 a0 a1 a2 a3)) n4 <|
       (tl rfl (ptr [(sFc a3)]) (LOp.fap und30 rfl siz23 rfl rfl rfl) <|
       (tl rfl (sFc a3) (n2 agg23) <|
       (TR.d (r := b false) (fs := []) rfl rfl (TOp.eqb (yc ent77 rfl rfl (bS bN) (K08_ok a3 r3 hf7)) hc8) <|
       (tl rfl (b true) (LOp.eqb (LOp.not rfl rfl) rfl) <|
       (tl rfl (b true) yp <|
       TR.nil)))))))))))))))))))))))))))))))))))))))) rfl (by kernel_rfl) rfl fills_nil rfl ?_
      iterate 40 refine ROps.dropS ?_
      refine ROps.drop0<|zN ?_
      refine yT<|zQ<|ya rfl (b false)<|zN ?_
      refine RunC.ret ?_
      have hq := oI h
      subst q0
      exact bR rfl
 ·refine RunC.region_draw (Γ' := []) 40 mixed 
   (tm rfl (ptr (z002 a0 a1 a2 a3)) <|
   (tl rfl (ptr (z002 a0 a1 a2 a3)) n4 <|
   (tl rfl (ptr (z002 a0 a1 a2 a3)) (LOp.fap und30 rfl siz2 rfl rfl rfl) <|
   (tl rfl (i64 a0) (n2 agg2) <|
   (TR.d (r := b false) (fs := []) rfl rfl (TOp.eqb (yc ent73 rfl rfl (bP (bP bN0)) (K05_ok a0 1 32 r1 hf1)) hc2) <|
   (tl rfl (b true) (LOp.eqb (LOp.not rfl rfl) rfl) <|
   (tm rfl (b true) <|
   (ts rfl <|
   (ts rfl <|
   (ts rfl <|
   (ts rfl <|
   (ts rfl <|
   (ts rfl <|
   (ts rfl <|
   (ts rfl <|
   (ts rfl <|
   (ts rfl <|
   (ts rfl <|
   (tl rfl (b true) yq <|
   (tm rfl (b true) <|
   (ts rfl <|
   (ts rfl <|
   (tl rfl (b true) yq <|
   (tm rfl (b true) <|
   (ts rfl <|
   (ts rfl <|
   (ts rfl <|
   (ts rfl <|
   (ts rfl <|
   (ts rfl <|
   (ts rfl <|
   (tl rfl (b true) yq <|
   (tm rfl (b true) <|
   (ts rfl <|
   (ts rfl <|
   (ts rfl <|
   (ts rfl <|
   (ts rfl <|
   (ts rfl <|
   (tl rfl (b true) yq <|
   TR.nil)))))))))))))))))))))))))))))))))))))))) rfl (by kernel_rfl) rfl fills_nil rfl ?_
  iterate 40 refine ROps.dropS ?_
  refine ROps.drop0<|zN ?_
  refine yT<|zQ<|ya rfl (b false)<|zN ?_
  refine RunC.ret ?_
  have hq := oI h
  subst q0
  exact bR rfl

def K0a_k5 (v14 : Int) (L24 : List Int) (L25 : List F) : Option (LR ((List Int) × (List F) × Int) ((List Int) × (List F)) (Int × Bool × (List Int) × (List Int) × (List F))) :=
 olet (IntKind.i64.wrap (v14 + 1)) fun (x29 : Int) =>
 some (LR.next (L24, L25, x29))
def K0a_b6 (a0 : Int) (a1 : List Bool) (a2 : List F) (v8 : Int) (L12 : List Int) (L13 : List F) (v14 : Int) : Option (LR ((List Int) × (List F) × Int) ((List Int) × (List F)) (Int × Bool × (List Int) × (List Int) × (List F))) :=
 bsel (decide (v14 < a0)) (
  olet (IntKind.i64.wrap (v8 * a0)) fun (x15 : Int) =>
  olet (IntKind.i64.wrap (x15 + v14)) fun (x16 : Int) =>
  obind (at? a1 x16) fun (e17 : Bool) =>
  bsel e17 (
   need (apok 8 L12.length 1) <|
   olet (IntKind.i64.wrap (v8 * a0)) fun (x18 : Int) =>
   olet (IntKind.i64.wrap (x18 + v14)) fun (x19 : Int) =>
   obind (at? a2 x19) fun (e20 : F) =>
   need (apok 4 L13.length 1) <|
   K0a_k5 v14 (L12 ++ ([v14] : List Int)) (L13 ++ ([e20] : List F))) (
   K0a_k5 v14 L12 L13)) (
  some (LR.out (L12, L13)))
def K0a_s6 (a0 : Int) (a1 : List Bool) (a2 : List F) (v8 : Int) : ((List Int) × (List F) × Int) → Option (LR ((List Int) × (List F) × Int) ((List Int) × (List F)) (Int × Bool × (List Int) × (List Int) × (List F))) := fun s => K0a_b6 a0 a1 a2 v8 s.1 s.2.1 s.2.2
def K0a_k6 (L5 : List Int) (v8 : Int) (L36 : List Int) (L37 : List F) : Option (LR ((List Int) × (List Int) × (List F) × Int) ((List Int) × (List Int) × (List F)) (Int × Bool × (List Int) × (List Int) × (List F))) :=
 need (apok 8 L5.length 1) <|
 olet (IntKind.i64.wrap (v8 + 1)) fun (x38 : Int) =>
 some (LR.next ((L5 ++ ([((L36.length : Nat) : Int)] : List Int)), L36, L37, x38))
def K0a_b7 (a0 : Int) (a1 : List Bool) (a2 : List F) (L5 : List Int) (L6 : List Int) (L7 : List F) (v8 : Int) : Option (LR ((List Int) × (List Int) × (List F) × Int) ((List Int) × (List Int) × (List F)) (Int × Bool × (List Int) × (List Int) × (List F))) :=
 bsel (decide (v8 < a0)) (
  obind (loopM (K0a_s6 a0 a1 a2 v8) (L6, L7, 0)) fun z => osum z (fun e => K0a_k6 L5 v8 e.1 e.2) (fun r => some (LR.ret r))) (
  some (LR.out (L5, L6, L7)))
def K0a_s7 (a0 : Int) (a1 : List Bool) (a2 : List F) : ((List Int) × (List Int) × (List F) × Int) → Option (LR ((List Int) × (List Int) × (List F) × Int) ((List Int) × (List Int) × (List F)) (Int × Bool × (List Int) × (List Int) × (List F))) := fun s => K0a_b7 a0 a1 a2 s.1 s.2.1 s.2.2.1 s.2.2.2
def K0a_k7 (a0 : Int) (L43 : List Int) (L47 : List Int) (L48 : List F) : Option (Int × Bool × (List Int) × (List Int) × (List F)) :=
 obind (K09 a0 L43 L47 L48) fun (r49 : Bool) =>
 bsel r49 (
  some (a0, true, L43, L47, L48)) (
  some (0, false, ([] : List Int), ([] : List Int), ([] : List F)))
def K0a (a0 : Int) (a1 : List Bool) (a2 : List F) : Option (Int × Bool × (List Int) × (List Int) × (List F)) :=
 obind (loopM (K0a_s7 a0 a1 a2) (([0] : List Int), ([] : List Int), ([] : List F), 0)) fun z => osum z (fun e => K0a_k7 a0 e.1 e.2.1 e.2.2) (fun r => some r)
abbrev z007 : Ob := ⟨1, some [i64 0, oref 3 1 0 0, oref 4 1 0 0, oref 5 1 0 0]⟩
abbrev z008 (a0 : Int) (a1 : List Bool) (a2 : List F) : List AV := [i64 a0, sl a1.length (a1.map b), (sFc a2)]
abbrev z009 (u1 : Nat) (L5 : List Int) (a0 : Int) (u9 : Nat) (L12 : List Int) (u10 : Nat) (L13 : List F) (u11 : Nat) : List Ob := [z007, oJ u1 L5, ⟨1, some [i64 a0, oref 1 u1 0 L5.length, oref 6 u9 0 L12.length, oref 7 u10 0 L13.length]⟩, oJ 1 [], oJ 1 [], oF 1 [], oJ u9 L12, oF u10 L13, ⟨u11, none⟩, o0, o0]
abbrev z00a (a0 : Int) (u39 : Nat) (L43 : List Int) (u40 : Nat) (L47 : List Int) (u41 : Nat) (L48 : List F) : List AV := [i64 a0, oref 1 u39 0 L43.length, oref 6 u40 0 L47.length, oref 7 u41 0 L48.length]
abbrev z00b : List AV := [i64 0, nilsl, nilsl, nilsl]
abbrev z00c (a0 : Int) : List AV := [i64 a0, oref 1 1 0 1, nilsl, nilsl]
abbrev z00d (a0 : Int) (u1 : Nat) (L5 : List Int) (u9 : Nat) (L12 : List Int) (u10 : Nat) (L13 : List F) : List AV := [i64 a0, oref 1 u1 0 L5.length, oref 6 (u9 + 1) 0 (L12.length + 1), oref 7 u10 0 L13.length]
theorem K0a_ok (a0 : Int) (a1 : List Bool) (a2 : List F) (q0 : Int) (q1 : Bool) (q2 : List Int) (q3 : List Int) (q4 : List F) (h : K0a a0 a1 a2 = some (q0, q1, q2, q3, q4)) : Ev Try.prog 98 [ptr [i64 a0, sl a1.length (a1.map b), (sFc a2)]] [] (tup [agg [i64 q0, oref 0 0 0 q2.length, oref 1 0 0 q3.length, oref 2 0 0 q4.length], b q1]) [oJ 0 q2, oJ 0 q3, oF 0 q4] := by
 refine yE Try.func98 11 161 0 ([(0, ptr (z008 a0 a1 a2))]) [o0, o0, o0, o0, o0, o0, o0, o0, o0, o0, o0] rfl ?_
 unfold K0a at h
 refine zQ<|ye rfl (optr 0 1 0) ([⟨1, some z00b⟩, o0, o0, o0, o0, o0, o0, o0, o0, o0, o0]) (TOp.alloc_o (g := o0) 0 rfl zer30 zok30 rfl)<|ya rfl (b false)<|zN ?_
 refine zQ<|ym rfl (ptr (z008 a0 a1 a2))<|yl rfl (ptr (z008 a0 a1 a2)) n4<|yl rfl (ptr (z008 a0 a1 a2)) (LOp.fap und91 rfl siz2 rfl rfl rfl)<|yl rfl (i64 a0) (n2 agg2)<|ye rfl (oref 1 1 0 1) ([⟨1, some z00b⟩, oJ 1 [0], o0, o0, o0, o0, o0, o0, o0, o0, o0]) (TOp.buildSlice_o (g := o0) (za := i64 0) (qs := [(0, [i64 0])]) 1 rfl und22 siz2 zer2 rfl zel2 rfl rfl ⟨rfl, ⟨_, ALe.refl _, rfl⟩, trivial⟩ rfl)<|yl rfl (agg (z00c a0)) (LOp.build (qs := [(0, [i64 a0]), (1, [oref 1 1 0 1])]) zer30 zok30 und30 plc30 rfl ⟨rfl, ⟨_, ALe.refl _, rfl⟩, ⟨rfl, ⟨_, ALe.refl _, rfl⟩, trivial⟩⟩ rfl)<|ye rfl (optr 2 1 0) ([⟨1, some z00b⟩, oJ 1 [0], ⟨1, some z00b⟩, o0, o0, o0, o0, o0, o0, o0, o0]) (TOp.alloc_o (g := o0) 2 rfl zer30 zok30 rfl)<|ys (agg (z00c a0)) (z00c a0) ([⟨1, some z00b⟩, oJ 1 [0], ⟨1, some (z00c a0)⟩, o0, o0, o0, o0, o0, o0, o0, o0]) siz30<|zN ?_
 refine yS<|zQ<|ya rfl (i64 0)<|zN ?_
 refine RunC.nil_cell (l' := [i64 0, oref 3 1 0 0, nilsl, nilsl]) (Γ' := [⟨1, some [i64 0, oref 3 1 0 0, nilsl, nilsl]⟩, oJ 1 [0], ⟨1, some (z00c a0)⟩, oJ 1 [], o0, o0, o0, o0, o0, o0, o0]) 0 1 3 rfl rfl rfl rfl rfl<|RunC.nil_cell (l' := [i64 0, oref 3 1 0 0, oref 4 1 0 0, nilsl]) (Γ' := [⟨1, some [i64 0, oref 3 1 0 0, oref 4 1 0 0, nilsl]⟩, oJ 1 [0], ⟨1, some (z00c a0)⟩, oJ 1 [], oJ 1 [], o0, o0, o0, o0, o0, o0]) 0 2 4 rfl rfl rfl rfl rfl<|RunC.nil_cell (l' := [i64 0, oref 3 1 0 0, oref 4 1 0 0, oref 5 1 0 0]) (Γ' := [z007, oJ 1 [0], ⟨1, some (z00c a0)⟩, oJ 1 [], oJ 1 [], oF 1 [], o0, o0, o0, o0, o0]) 0 3 5 rfl rfl rfl rfl rfl<|RunC.nil_cell (l' := [i64 a0, oref 1 1 0 1, oref 6 1 0 0, nilsl]) (Γ' := [z007, oJ 1 [0], ⟨1, some [i64 a0, oref 1 1 0 1, oref 6 1 0 0, nilsl]⟩, oJ 1 [], oJ 1 [], oF 1 [], oJ 1 [], o0, o0, o0, o0]) 2 2 6 rfl rfl rfl rfl rfl<|RunC.nil_cell (l' := [i64 a0, oref 1 1 0 1, oref 6 1 0 0, oref 7 1 0 0]) (Γ' := [z007, oJ 1 [0], ⟨1, some [i64 a0, oref 1 1 0 1, oref 6 1 0 0, oref 7 1 0 0]⟩, oJ 1 [], oJ 1 [], oF 1 [], oJ 1 [], oF 1 [], o0, o0, o0]) 2 3 7 rfl rfl rfl rfl rfl ?_
 obtain ⟨z8, hz_8, h⟩ := oS h
 refine RunC.cutN (fun τ Γ => ∃ (L43 : List Int) (L47 : List Int) (L48 : List F) (u39 : Nat) (u40 : Nat) (u41 : Nat) (u42 : Nat), ([] : List Int).length = 0 ∧ ([] : List Int).length = 0 ∧ ([] : List F).length = 0 ∧ WeakLe τ [(2, optr 0 1 0), (4, optr 2 1 0)] ∧ DeadLe Γ [z007, oJ u39 L43, ⟨1, some (z00a a0 u39 L43 u40 L47 u41 L48)⟩, oJ 1 [], oJ 1 [], oF 1 [], oJ u40 L47, oF u41 L48, ⟨u42, none⟩, o0, o0] ∧ z8 = .inl (L43, L47, L48)) ?_ ?_
 ·refine RunC.block (RunC.loop (RunL.loopM (x := z8) (K0a_s7 a0 a1 a2) (fun (s : (List Int) × (List Int) × (List F) × Int) τ Γ => ∃ (u1 : Nat) (u2 : Nat) (u3 : Nat) (u4 : Nat), WeakLe τ [(0, ptr (z008 a0 a1 a2)), (2, optr 0 1 0), (4, optr 2 1 0), (5, i64 s.2.2.2)] ∧ DeadLe Γ [z007, ⟨u1, some (s.1.map i64)⟩, ⟨1, some [i64 a0, oref 1 u1 0 s.1.length, oref 6 u2 0 s.2.1.length, oref 7 u3 0 s.2.2.1.length]⟩, oJ 1 [], oJ 1 [], oF 1 [], ⟨u2, some (s.2.1.map i64)⟩, ⟨u3, some (s.2.2.1.map f32)⟩, ⟨u4, none⟩, o0, o0]) ?_ _ _ _ hz_8 ⟨1, 1, 1, 0, ⟨aR, aR, aR, aR, trivial⟩, ⟨dR, dR, ⟨rfl, .inr (by first | rfl | simp)⟩, dR, dR, dR, dR, dR, dL, dR, dR, trivial⟩⟩))
  rintro ⟨L5, L6, L7, v8⟩ τ8 Γ8 y8_ ⟨u1, u2, u3, u4, hw8, hd8⟩ h8_ ho8 hr8
  refine RunC.wl (τ' := [(0, ptr (z008 a0 a1 a2)), (2, optr 0 1 0), (4, optr 2 1 0), (5, i64 v8)]) (Γ' := [z007, oJ u1 L5, ⟨1, some [i64 a0, oref 1 u1 0 L5.length, oref 6 u2 0 L6.length, oref 7 u3 0 L7.length]⟩, oJ 1 [], oJ 1 [], oF 1 [], oJ u2 L6, oF u3 L7, ⟨u4, none⟩, o0, o0]) hw8 hd8 ?_
  replace h8_ : K0a_b7 a0 a1 a2 L5 L6 L7 v8 = some y8_ := h8_
  unfold K0a_b7 at h8_
  refine yS<|yS ?_
  rcases oB h8_ with ⟨hc1, h8_⟩ | ⟨hc1, h8_⟩
  ·refine yW<|ym rfl (i64 v8)<|ym rfl (ptr (z008 a0 a1 a2))<|yl rfl (ptr (z008 a0 a1 a2)) n4<|yl rfl (ptr (z008 a0 a1 a2)) (LOp.fap und91 rfl siz2 rfl rfl rfl)<|yl rfl (i64 a0) (n2 agg2)<|yl rfl (b true) (LOp.eqb (LOp.lss rfl rfl rfl) hc1)<|zN ?_
   refine yT<|RunC.skip<|yS<|RunC.block<|yS<|zQ<|ya rfl (i64 0)<|zN ?_
   obtain ⟨z9, hz_9, h8_⟩ := oS h8_
   refine RunC.cutN (fun τ Γ => ∃ (L36 : List Int) (L37 : List F) (u30 : Nat) (u31 : Nat) (u32 : Nat), ([] : List Int).length = 0 ∧ ([] : List Int).length = 0 ∧ ([] : List F).length = 0 ∧ WeakLe τ [(0, ptr (z008 a0 a1 a2)), (2, optr 0 1 0), (4, optr 2 1 0), (5, i64 v8)] ∧ DeadLe Γ [z007, oJ u1 L5, ⟨1, some [i64 a0, oref 1 u1 0 L5.length, oref 6 u30 0 L36.length, oref 7 u31 0 L37.length]⟩, oJ 1 [], oJ 1 [], oF 1 [], oJ u30 L36, oF u31 L37, ⟨u32, none⟩, o0, o0] ∧ z9 = .inl (L36, L37)) ?_ ?_
   ·refine RunC.block (RunC.loop (RunL.loopM (x := z9) (K0a_s6 a0 a1 a2 v8) (fun (s : (List Int) × (List F) × Int) τ Γ => ∃ (u9 : Nat) (u10 : Nat) (u11 : Nat), WeakLe τ [(0, ptr (z008 a0 a1 a2)), (2, optr 0 1 0), (4, optr 2 1 0), (5, i64 v8), (6, i64 s.2.2)] ∧ DeadLe Γ [z007, oJ u1 L5, ⟨1, some [i64 a0, oref 1 u1 0 L5.length, oref 6 u9 0 s.1.length, oref 7 u10 0 s.2.1.length]⟩, oJ 1 [], oJ 1 [], oF 1 [], ⟨u9, some (s.1.map i64)⟩, ⟨u10, some (s.2.1.map f32)⟩, ⟨u11, none⟩, o0, o0]) ?_ _ _ _ hz_9 ⟨u2, u3, u4, ⟨aR, aR, aR, aR, aR, trivial⟩, ⟨dR, dR, ⟨rfl, .inr (by first | rfl | simp)⟩, dR, dR, dR, dR, dR, dL, dR, dR, trivial⟩⟩))
    rintro ⟨L12, L13, v14⟩ τ9 Γ9 y9_ ⟨u9, u10, u11, hw9, hd9⟩ h9_ ho9 hr9
    refine RunC.wl (τ' := [(0, ptr (z008 a0 a1 a2)), (2, optr 0 1 0), (4, optr 2 1 0), (5, i64 v8), (6, i64 v14)]) (Γ' := (z009 u1 L5 a0 u9 L12 u10 L13 u11)) hw9 hd9 ?_
    replace h9_ : K0a_b6 a0 a1 a2 v8 L12 L13 v14 = some y9_ := h9_
    unfold K0a_b6 at h9_
    refine yS<|yS ?_
    rcases oB h9_ with ⟨hc2, h9_⟩ | ⟨hc2, h9_⟩
    ·refine yW<|ym rfl (i64 v14)<|ym rfl (ptr (z008 a0 a1 a2))<|yl rfl (ptr (z008 a0 a1 a2)) n4<|yl rfl (ptr (z008 a0 a1 a2)) (LOp.fap und91 rfl siz2 rfl rfl rfl)<|yl rfl (i64 a0) (n2 agg2)<|yl rfl (b true) (LOp.eqb (LOp.lss rfl rfl rfl) hc2)<|zN ?_
     refine yT<|RunC.skip<|yS<|RunC.cutN (fun τ Γ => ∃ (L24 : List Int) (L25 : List F) (u21 : Nat) (u22 : Nat) (u23 : Nat), ([] : List Int).length = 0 ∧ ([] : List Int).length = 0 ∧ ([] : List F).length = 0 ∧ WeakLe τ [(0, ptr (z008 a0 a1 a2)), (2, optr 0 1 0), (4, optr 2 1 0), (5, i64 v8), (6, i64 v14)] ∧ DeadLe Γ [z007, oJ u1 L5, ⟨1, some [i64 a0, oref 1 u1 0 L5.length, oref 6 u21 0 L24.length, oref 7 u22 0 L25.length]⟩, oJ 1 [], oJ 1 [], oF 1 [], oJ u21 L24, oF u22 L25, ⟨u23, none⟩, o0, o0] ∧ K0a_k5 v14 L24 L25 = some y9_) ?_ ?_
     ·refine RunC.block<|yS ?_
      obtain ⟨x15, hx3, h9_⟩ := oL h9_
      obtain ⟨x16, hx4, h9_⟩ := oL h9_
      obtain ⟨e17, he5, h9_⟩ := oS h9_
      rcases oB h9_ with ⟨hc6, h9_⟩ | ⟨hc6, h9_⟩
      ·refine RunC.region_draw (Γ' := (z009 u1 L5 a0 u9 L12 u10 L13 u11)) 14 mixed 
        (tm rfl (ptr (z008 a0 a1 a2)) <|
        (tl rfl (ptr (z008 a0 a1 a2)) n4 <|
        (tl rfl (ptr [sl a1.length (a1.map b), (sFc a2)]) (LOp.fap und91 rfl siz89 rfl rfl rfl) <|
        (tl rfl (sl a1.length (a1.map b)) (n2 agg89) <|
        (tm rfl (i64 v8) <|
        (tm rfl (ptr (z008 a0 a1 a2)) <|
        (tl rfl (ptr (z008 a0 a1 a2)) n4 <|
        (tl rfl (ptr (z008 a0 a1 a2)) (LOp.fap und91 rfl siz2 rfl rfl rfl) <|
        (tl rfl (i64 a0) (n2 agg2) <|
        (tl rfl (i64 x15) (LOp.eqr (LOp.mul rfl rfl rfl) (congrArg (ik .i64) hx3)) <|
        (tm rfl (i64 v14) <|
        (tl rfl (i64 x16) (LOp.eqr (LOp.add rfl rfl rfl) (congrArg (ik .i64) hx4)) <|
        (tl rfl (ptr [b e17]) (LOp.le (LOp.ix (f := b) und89 siz4 rfl rfl rfl rfl he5) ALe.ptr) <|
        (tl rfl (b true) (LOp.eqb (n2 agg4) hc6) <|
        TR.nil)))))))))))))) rfl (by kernel_rfl) rfl fills_nil rfl ?_
       iterate 14 refine ROps.dropS ?_
       refine ROps.drop0<|zN ?_
       refine RunC.wl (τ' := [(0, ptr (z008 a0 a1 a2)), (2, optr 0 1 0), (4, optr 2 1 0), (5, i64 v8), (6, i64 v14), (42, b true)]) (Γ' := (z009 u1 L5 a0 u9 L12 u10 L13 u11)) ⟨aR, aR, aR, aR, aR, aR, trivial⟩ ⟨dR, dR, dR, dR, dR, dR, dR, dR, dL, dR, dR, trivial⟩<|yT<|yS ?_
       obtain ⟨hm7, h9_⟩ := need_some h9_
       refine yW<|yl rfl (optr 2 1 2) (LOp.fao und30 rfl siz22 rfl rfl rfl)<|yd rfl (oref 6 u9 0 L12.length) (TOp.load1_o rfl rfl agg22 rfl rfl)<|ym rfl (i64 v14)<|ye rfl (oref 8 (u11 + 1) 0 1) ([z007, oJ u1 L5, ⟨1, some [i64 a0, oref 1 u1 0 L5.length, oref 6 u9 0 L12.length, oref 7 u10 0 L13.length]⟩, oJ 1 [], oJ 1 [], oF 1 [], oJ u9 L12, oF u10 L13, oJ (u11 + 1) [v14], o0, o0]) (TOp.buildSlice_o (g := ⟨u11, none⟩) (za := i64 0) (qs := [(0, [i64 v14])]) 8 rfl und22 siz2 zer2 rfl zel2 rfl rfl ⟨rfl, ⟨_, ALe.refl _, rfl⟩, trivial⟩ rfl)<|ROps.app (f := i64) (xs := L12) (ys := ([v14] : List Int)) (Γ' := [z007, oJ u1 L5, ⟨1, some [i64 a0, oref 1 u1 0 L5.length, oref 6 u9 0 L12.length, oref 7 u10 0 L13.length]⟩, oJ 1 [], oJ 1 [], oF 1 [], oJ (u9 + 1) (L12 ++ [v14]), oF u10 L13, oJ (u11 + 1) [v14], o0, o0]) rfl pun22 inf2 rfl rfl rfl rfl rfl rfl rfl rfl rfl (by simp) (ReadAs.own rfl (by simp)) (ones_map (fun _ => rfl)) (ap_by hm7) (ap_mx hm7) rfl<|yl rfl (optr 2 1 2) (LOp.fao und30 rfl siz22 rfl rfl rfl)<|ys (oref 6 (u9 + 1) 0 (L12.length + 1)) (z00d a0 u1 L5 u9 L12 u10 L13) ([z007, oJ u1 L5, ⟨1, some (z00d a0 u1 L5 u9 L12 u10 L13)⟩, oJ 1 [], oJ 1 [], oF 1 [], oJ (u9 + 1) (L12 ++ [v14]), oF u10 L13, oJ (u11 + 1) [v14], o0, o0]) siz22<|zN ?_
       refine RunC.wl (τ' := [(0, ptr (z008 a0 a1 a2)), (2, optr 0 1 0), (4, optr 2 1 0), (5, i64 v8), (6, i64 v14)]) (Γ' := [z007, oJ u1 L5, ⟨1, some (z00d a0 u1 L5 u9 L12 u10 L13)⟩, oJ 1 [], oJ 1 [], oF 1 [], oJ (u9 + 1) (L12 ++ [v14]), oF u10 L13, ⟨(u11 + 1), none⟩, o0, o0]) ⟨aR, aR, aR, aR, aR, trivial⟩ ⟨dR, dR, dR, dR, dR, dR, dR, dR, dL, dR, dR, trivial⟩ ?_
       obtain ⟨x18, hx8, h9_⟩ := oL h9_
       obtain ⟨x19, hx9, h9_⟩ := oL h9_
       obtain ⟨e20, he10, h9_⟩ := oS h9_
       obtain ⟨hm11, h9_⟩ := need_some h9_
       refine RunC.region_draw (Γ' := [z007, oJ u1 L5, ⟨1, some (z00d a0 u1 L5 u9 L12 u10 L13)⟩, oJ 1 [], oJ 1 [], oF 1 [], oJ (u9 + 1) (L12 ++ [v14]), oF u10 L13, oF (u11 + 2) [e20], o0, o0]) 17 mixed 
        (tl rfl (optr 2 1 3) (LOp.fao und30 rfl siz23 rfl rfl rfl) <|
        (TR.d (r := oref 7 u10 0 L13.length) (fs := []) rfl rfl (TOp.load1_o rfl rfl agg23 rfl rfl) <|
        (tm rfl (ptr (z008 a0 a1 a2)) <|
        (tl rfl (ptr (z008 a0 a1 a2)) n4 <|
        (tl rfl (ptr [(sFc a2)]) (LOp.fap und91 rfl siz23 rfl rfl rfl) <|
        (tl rfl (sFc a2) (n2 agg23) <|
        (tm rfl (i64 v8) <|
        (tm rfl (ptr (z008 a0 a1 a2)) <|
        (tl rfl (ptr (z008 a0 a1 a2)) n4 <|
        (tl rfl (ptr (z008 a0 a1 a2)) (LOp.fap und91 rfl siz2 rfl rfl rfl) <|
        (tl rfl (i64 a0) (n2 agg2) <|
        (tl rfl (i64 x18) (LOp.eqr (LOp.mul rfl rfl rfl) (congrArg (ik .i64) hx8)) <|
        (tm rfl (i64 v14) <|
        (tl rfl (i64 x19) (LOp.eqr (LOp.add rfl rfl rfl) (congrArg (ik .i64) hx9)) <|
        (tl rfl (ptr [f32 e20]) (LOp.le (LOp.ix (f := f32) und23 siz26 rfl rfl rfl rfl he10) ALe.ptr) <|
        (tl rfl (f32 e20) (n2 agg26) <|
        (TR.d (r := oref 8 (u11 + 2) 0 1) (fs := [(8, (([e20] : List F).map f32))]) rfl rfl (TOp.buildSlice_o (g := ⟨(u11 + 1), none⟩) (za := f32 (some 0)) (qs := [(0, [f32 e20])]) 8 rfl und23 siz26 zer26 rfl zel26 rfl rfl ⟨rfl, ⟨_, ALe.refl _, rfl⟩, trivial⟩ rfl) <|
        TR.nil))))))))))))))))) rfl (by kernel_rfl) rfl (fills_of (by show List.Nodup [8]; decide) ⟨⟨_, rfl⟩, trivial⟩) rfl ?_
       iterate 17 refine ROps.dropS ?_
       refine ROps.drop0<|ROps.app (f := f32) (xs := L13) (ys := ([e20] : List F)) (Γ' := [z007, oJ u1 L5, ⟨1, some (z00d a0 u1 L5 u9 L12 u10 L13)⟩, oJ 1 [], oJ 1 [], oF 1 [], oJ (u9 + 1) (L12 ++ [v14]), oF (u10 + 1) (L13 ++ [e20]), oF (u11 + 2) [e20], o0, o0]) rfl pun23 inf26 rfl rfl rfl rfl rfl rfl rfl rfl rfl (by simp) (ReadAs.own rfl (by simp)) (ones_map (fun _ => rfl)) (ap_by hm11) (ap_mx hm11) rfl<|yl rfl (optr 2 1 3) (LOp.fao und30 rfl siz23 rfl rfl rfl)<|ys (oref 7 (u10 + 1) 0 (L13.length + 1)) [i64 a0, oref 1 u1 0 L5.length, oref 6 (u9 + 1) 0 (L12.length + 1), oref 7 (u10 + 1) 0 (L13.length + 1)] ([z007, oJ u1 L5, ⟨1, some [i64 a0, oref 1 u1 0 L5.length, oref 6 (u9 + 1) 0 (L12.length + 1), oref 7 (u10 + 1) 0 (L13.length + 1)]⟩, oJ 1 [], oJ 1 [], oF 1 [], oJ (u9 + 1) (L12 ++ [v14]), oF (u10 + 1) (L13 ++ [e20]), oF (u11 + 2) [e20], o0, o0]) siz23<|zN ?_
       exact ⟨(L12 ++ ([v14] : List Int)), (L13 ++ ([e20] : List F)), (u9 + 1), (u10 + 1), (u11 + 2), rfl, rfl, rfl, ⟨aR, aR, aR, aR, aR, trivial⟩, ⟨dR, dR, ⟨rfl, .inr (by first | rfl | simp)⟩, dR, dR, dR, dR, dR, dL, dR, dR, trivial⟩, h9_⟩
      ·refine RunC.region_draw (Γ' := (z009 u1 L5 a0 u9 L12 u10 L13 u11)) 14 mixed 
        (tm rfl (ptr (z008 a0 a1 a2)) <|
        (tl rfl (ptr (z008 a0 a1 a2)) n4 <|
        (tl rfl (ptr [sl a1.length (a1.map b), (sFc a2)]) (LOp.fap und91 rfl siz89 rfl rfl rfl) <|
        (tl rfl (sl a1.length (a1.map b)) (n2 agg89) <|
        (tm rfl (i64 v8) <|
        (tm rfl (ptr (z008 a0 a1 a2)) <|
        (tl rfl (ptr (z008 a0 a1 a2)) n4 <|
        (tl rfl (ptr (z008 a0 a1 a2)) (LOp.fap und91 rfl siz2 rfl rfl rfl) <|
        (tl rfl (i64 a0) (n2 agg2) <|
        (tl rfl (i64 x15) (LOp.eqr (LOp.mul rfl rfl rfl) (congrArg (ik .i64) hx3)) <|
        (tm rfl (i64 v14) <|
        (tl rfl (i64 x16) (LOp.eqr (LOp.add rfl rfl rfl) (congrArg (ik .i64) hx4)) <|
        (tl rfl (ptr [b e17]) (LOp.le (LOp.ix (f := b) und89 siz4 rfl rfl rfl rfl he5) ALe.ptr) <|
        (tl rfl (b false) (LOp.eqb (n2 agg4) hc6) <|
        TR.nil)))))))))))))) rfl (by kernel_rfl) rfl fills_nil rfl ?_
       iterate 14 refine ROps.dropS ?_
       refine ROps.drop0<|zN ?_
       refine RunC.wl (τ' := [(0, ptr (z008 a0 a1 a2)), (2, optr 0 1 0), (4, optr 2 1 0), (5, i64 v8), (6, i64 v14), (42, b false)]) (Γ' := (z009 u1 L5 a0 u9 L12 u10 L13 u11)) ⟨aR, aR, aR, aR, aR, aR, trivial⟩ ⟨dR, dR, dR, dR, dR, dR, dR, dR, dL, dR, dR, trivial⟩<|yF<|RunC.skip ?_
       exact ⟨L12, L13, u9, u10, u11, rfl, rfl, rfl, ⟨aR, aR, aR, aR, aR, trivial⟩, ⟨dR, dR, ⟨rfl, .inr (by first | rfl | simp)⟩, dR, dR, dR, dR, dR, dL, dR, dR, trivial⟩, h9_⟩
     ·rintro τ10 Γ10 ⟨L24, L25, u21, u22, u23, hl26, hl27, hl28, hw10, hd10, h9_⟩
      refine RunC.wl hw10 hd10 ?_
      unfold K0a_k5 at h9_
      obtain ⟨x29, hx12, h9_⟩ := oL h9_
      refine yW<|ym rfl (i64 v14)<|yl rfl (i64 x29) (LOp.eqr (LOp.add rfl rfl rfl) (congrArg (ik .i64) hx12))<|ya rfl (i64 x29)<|zN ?_
      cases oI h9_
      exact ⟨_, rfl, u21, u22, u23, ⟨aR, aR, aR, aR, aR, trivial⟩, ⟨dR, dR, ⟨rfl, .inr (by first | rfl | simp)⟩, dR, dR, dR, dR, dR, dL, dR, dR, trivial⟩⟩
    ·refine yW<|ym rfl (i64 v14)<|ym rfl (ptr (z008 a0 a1 a2))<|yl rfl (ptr (z008 a0 a1 a2)) n4<|yl rfl (ptr (z008 a0 a1 a2)) (LOp.fap und91 rfl siz2 rfl rfl rfl)<|yl rfl (i64 a0) (n2 agg2)<|yl rfl (b false) (LOp.eqb (LOp.lss rfl rfl rfl) hc2)<|zN ?_
     refine yF<|RunC.exit ?_
     cases oI h9_
     have hx := ho9 _ rfl
     exact ⟨L12, L13, u9, u10, u11, rfl, rfl, rfl, ⟨aR, aR, aR, aR, trivial⟩, ⟨dR, dR, ⟨rfl, .inr (by first | rfl | simp)⟩, dR, dR, dR, dR, dR, dL, dR, dR, trivial⟩, hx⟩
   ·rintro τ11 Γ11 ⟨L36, L37, u30, u31, u32, hl33, hl34, hl35, hw11, hd11, rfl⟩
    refine RunC.wl hw11 hd11 ?_
    replace h8_ : K0a_k6 L5 v8 L36 L37 = some y8_ := h8_
    unfold K0a_k6 at h8_
    obtain ⟨hm13, h8_⟩ := need_some h8_
    refine yW<|yl rfl (optr 2 1 1) (LOp.fao und30 rfl siz22 rfl rfl rfl)<|yd rfl (oref 1 u1 0 L5.length) (TOp.load1_o rfl rfl agg22 rfl rfl)<|yl rfl (optr 2 1 2) (LOp.fao und30 rfl siz22 rfl rfl rfl)<|yd rfl (oref 6 u30 0 L36.length) (TOp.load1_o rfl rfl agg22 rfl rfl)<|yl rfl (i64 ((L36.length : Nat) : Int)) (LOp.len_oref und22 rfl rfl)<|ye rfl (oref 8 (u32 + 1) 0 1) ([z007, oJ u1 L5, ⟨1, some [i64 a0, oref 1 u1 0 L5.length, oref 6 u30 0 L36.length, oref 7 u31 0 L37.length]⟩, oJ 1 [], oJ 1 [], oF 1 [], oJ u30 L36, oF u31 L37, oJ (u32 + 1) [((L36.length : Nat) : Int)], o0, o0]) (TOp.buildSlice_o (g := ⟨u32, none⟩) (za := i64 0) (qs := [(0, [i64 ((L36.length : Nat) : Int)])]) 8 rfl und22 siz2 zer2 rfl zel2 rfl rfl ⟨rfl, ⟨_, ALe.refl _, rfl⟩, trivial⟩ rfl)<|ROps.app (f := i64) (xs := L5) (ys := ([((L36.length : Nat) : Int)] : List Int)) (Γ' := [z007, oJ (u1 + 1) (L5 ++ [((L36.length : Nat) : Int)]), ⟨1, some [i64 a0, oref 1 u1 0 L5.length, oref 6 u30 0 L36.length, oref 7 u31 0 L37.length]⟩, oJ 1 [], oJ 1 [], oF 1 [], oJ u30 L36, oF u31 L37, oJ (u32 + 1) [((L36.length : Nat) : Int)], o0, o0]) rfl pun22 inf2 rfl rfl rfl rfl rfl rfl rfl rfl rfl (by simp) (ReadAs.own rfl (by simp)) (ones_map (fun _ => rfl)) (ap_by hm13) (ap_mx hm13) rfl<|yl rfl (optr 2 1 1) (LOp.fao und30 rfl siz22 rfl rfl rfl)<|ys (oref 1 (u1 + 1) 0 (L5.length + 1)) [i64 a0, oref 1 (u1 + 1) 0 (L5.length + 1), oref 6 u30 0 L36.length, oref 7 u31 0 L37.length] ([z007, oJ (u1 + 1) (L5 ++ [((L36.length : Nat) : Int)]), ⟨1, some [i64 a0, oref 1 (u1 + 1) 0 (L5.length + 1), oref 6 u30 0 L36.length, oref 7 u31 0 L37.length]⟩, oJ 1 [], oJ 1 [], oF 1 [], oJ u30 L36, oF u31 L37, oJ (u32 + 1) [((L36.length : Nat) : Int)], o0, o0]) siz22<|zN ?_
    refine RunC.wl (τ' := [(0, ptr (z008 a0 a1 a2)), (2, optr 0 1 0), (4, optr 2 1 0), (5, i64 v8)]) (Γ' := [z007, oJ (u1 + 1) (L5 ++ [((L36.length : Nat) : Int)]), ⟨1, some [i64 a0, oref 1 (u1 + 1) 0 (L5.length + 1), oref 6 u30 0 L36.length, oref 7 u31 0 L37.length]⟩, oJ 1 [], oJ 1 [], oF 1 [], oJ u30 L36, oF u31 L37, ⟨(u32 + 1), none⟩, o0, o0]) ⟨aR, aR, aR, aR, trivial⟩ ⟨dR, dR, dR, dR, dR, dR, dR, dR, dL, dR, dR, trivial⟩ ?_
    obtain ⟨x38, hx14, h8_⟩ := oL h8_
    refine yW<|ym rfl (i64 v8)<|yl rfl (i64 x38) (LOp.eqr (LOp.add rfl rfl rfl) (congrArg (ik .i64) hx14))<|ya rfl (i64 x38)<|zN ?_
    cases oI h8_
    exact ⟨_, rfl, (u1 + 1), u30, u31, (u32 + 1), ⟨aR, aR, aR, aR, trivial⟩, ⟨dR, dR, ⟨rfl, .inr (by first | rfl | simp)⟩, dR, dR, dR, dR, dR, dL, dR, dR, trivial⟩⟩
  ·refine yW<|ym rfl (i64 v8)<|ym rfl (ptr (z008 a0 a1 a2))<|yl rfl (ptr (z008 a0 a1 a2)) n4<|yl rfl (ptr (z008 a0 a1 a2)) (LOp.fap und91 rfl siz2 rfl rfl rfl)<|yl rfl (i64 a0) (n2 agg2)<|yl rfl (b false) (LOp.eqb (LOp.lss rfl rfl rfl) hc1)<|zN ?_
   refine yF<|RunC.exit ?_
   cases oI h8_
   have hx := ho8 _ rfl
   exact ⟨L5, L6, L7, u1, u2, u3, u4, rfl, rfl, rfl, ⟨aR, aR, trivial⟩, ⟨dR, dR, ⟨rfl, .inr (by first | rfl | simp)⟩, dR, dR, dR, dR, dR, dL, dR, dR, trivial⟩, hx⟩
 ·rintro τ12 Γ12 ⟨L43, L47, L48, u39, u40, u41, u42, hl44, hl45, hl46, hw12, hd12, rfl⟩
  refine RunC.wl hw12 hd12 ?_
  replace h : K0a_k7 a0 L43 L47 L48 = some (q0, q1, q2, q3, q4) := h
  unfold K0a_k7 at h
  refine yS<|yS ?_
  obtain ⟨r49, hf15, h⟩ := oS h
  rcases oB h with ⟨hc16, h⟩ | ⟨hc16, h⟩
  ·refine yW<|yd rfl (b true) (TOp.eqb (TOp.callB (CallAs.func ent111 rfl rfl) (Bors.cons (Bor.optr rfl (Bors.p (bP (Bors.cons (Bor.own (f := i64) (fun _ => rfl) rfl rfl) (Bors.cons (Bor.own (f := i64) (fun _ => rfl) rfl rfl) (Bors.cons (Bor.own (f := f32) (fun _ => rfl) rfl rfl) bN))))) rfl) bN) rfl rfl (K09_ok a0 L43 L47 L48 r49 hf15)) hc16)<|yl rfl (b false) n1<|zN ?_
   refine yF<|RunC.skip<|zQ<|yd rfl (agg (z00a a0 u39 L43 u40 L47 u41 L48)) (yA agg30 siz30)<|ys (agg (z00a a0 u39 L43 u40 L47 u41 L48)) (z00a a0 u39 L43 u40 L47 u41 L48) ([⟨1, some (z00a a0 u39 L43 u40 L47 u41 L48)⟩, oJ u39 L43, ⟨1, some (z00a a0 u39 L43 u40 L47 u41 L48)⟩, oJ 1 [], oJ 1 [], oF 1 [], oJ u40 L47, oF u41 L48, ⟨u42, none⟩, o0, o0]) siz30<|ya rfl (b true)<|zN ?_
   refine RunC.ret ?_
   have hq := oI h
   obtain ⟨hq0, hq⟩ := Prod.mk.inj hq
   obtain ⟨hq1, hq⟩ := Prod.mk.inj hq
   obtain ⟨hq2, hq⟩ := Prod.mk.inj hq
   obtain ⟨hq3, hq⟩ := Prod.mk.inj hq
   subst q0
   subst q1
   subst q2
   subst q3
   subst q4
   exact bodyQ.mk (r' := tup [agg (z00a a0 u39 L43 u40 L47 u41 L48), b true]) [(1, u39), (6, u40), (7, u41)] (.inr rfl) rfl (show List.Nodup [1, 6, 7] from by decide) (by simp [ren, rens, sigma]) rfl (Res.two rfl (RV.cell agg30 siz30 rfl rfl rfl rfl) (RV.tmp rfl)) (SelL.arr0 (f := i64) (fun _ => rfl) rfl (SelL.arr0 (f := i64) (fun _ => rfl) rfl (sA rfl trivial)))
  ·refine yW<|yd rfl (b false) (TOp.eqb (TOp.callB (CallAs.func ent111 rfl rfl) (Bors.cons (Bor.optr rfl (Bors.p (bP (Bors.cons (Bor.own (f := i64) (fun _ => rfl) rfl rfl) (Bors.cons (Bor.own (f := i64) (fun _ => rfl) rfl rfl) (Bors.cons (Bor.own (f := f32) (fun _ => rfl) rfl rfl) bN))))) rfl) bN) rfl rfl (K09_ok a0 L43 L47 L48 r49 hf15)) hc16)<|yl rfl (b true) n0<|zN ?_
   refine yT<|zQ<|yl rfl (agg z00b) (LOp.build (qs := []) zer30 zok30 und30 plc30 rfl trivial rfl)<|ys (agg z00b) z00b ([⟨1, some z00b⟩, oJ u39 L43, ⟨1, some (z00a a0 u39 L43 u40 L47 u41 L48)⟩, oJ 1 [], oJ 1 [], oF 1 [], oJ u40 L47, oF u41 L48, ⟨u42, none⟩, o0, o0]) siz30<|ya rfl (b false)<|zN ?_
   refine RunC.nil_cell (l' := [i64 0, oref 8 (u42 + 1) 0 0, nilsl, nilsl]) (Γ' := [⟨1, some [i64 0, oref 8 (u42 + 1) 0 0, nilsl, nilsl]⟩, oJ u39 L43, ⟨1, some (z00a a0 u39 L43 u40 L47 u41 L48)⟩, oJ 1 [], oJ 1 [], oF 1 [], oJ u40 L47, oF u41 L48, oJ (u42 + 1) [], o0, o0]) 0 1 8 rfl rfl rfl rfl rfl<|RunC.nil_cell (l' := [i64 0, oref 8 (u42 + 1) 0 0, oref 9 1 0 0, nilsl]) (Γ' := [⟨1, some [i64 0, oref 8 (u42 + 1) 0 0, oref 9 1 0 0, nilsl]⟩, oJ u39 L43, ⟨1, some (z00a a0 u39 L43 u40 L47 u41 L48)⟩, oJ 1 [], oJ 1 [], oF 1 [], oJ u40 L47, oF u41 L48, oJ (u42 + 1) [], oJ 1 [], o0]) 0 2 9 rfl rfl rfl rfl rfl<|RunC.nil_cell (l' := [i64 0, oref 8 (u42 + 1) 0 0, oref 9 1 0 0, oref 10 1 0 0]) (Γ' := [⟨1, some [i64 0, oref 8 (u42 + 1) 0 0, oref 9 1 0 0, oref 10 1 0 0]⟩, oJ u39 L43, ⟨1, some (z00a a0 u39 L43 u40 L47 u41 L48)⟩, oJ 1 [], oJ 1 [], oF 1 [], oJ u40 L47, oF u41 L48, oJ (u42 + 1) [], oJ 1 [], oF 1 []]) 0 3 10 rfl rfl rfl rfl rfl<|RunC.ret ?_
   have hq := oI h
   obtain ⟨hq0, hq⟩ := Prod.mk.inj hq
   obtain ⟨hq1, hq⟩ := Prod.mk.inj hq
   obtain ⟨hq2, hq⟩ := Prod.mk.inj hq
   obtain ⟨hq3, hq⟩ := Prod.mk.inj hq
   subst q0
   subst q1
   subst q2
   subst q3
   subst q4
   exact bodyQ.mk (r' := tup [agg [i64 0, oref 8 (u42 + 1) 0 (([] : List Int).length), oref 9 1 0 (([] : List Int).length), oref 10 1 0 (([] : List F).length)], b false]) [(8, (u42 + 1)), (9, 1), (10, 1)] (.inr rfl) rfl (show List.Nodup [8, 9, 10] from by decide) (by simp [ren, rens, sigma]) rfl (Res.eq (Res.two rfl (RV.cell agg30 siz30 rfl rfl rfl rfl) (RV.tmp rfl)) (by first | rfl | (rw [(show ([] : List Int).length = 0 from rfl), (show ([] : List F).length = 0 from rfl)] <;> rfl))) (SelL.arr0 (f := i64) (fun _ => rfl) rfl (SelL.arr0 (f := i64) (fun _ => rfl) rfl (sA rfl trivial)))

def K0b_b1 (a0 : Int) (a1 : List (Int × Int × F)) (L5 : List Bool) (L7 : List F) (v9 : Int) : Option (LR ((List Bool) × (List F) × Int) ((List Bool) × (List F)) (Int × Bool × (List Int) × (List Int) × (List F))) :=
 bsel (decide (v9 < (a1.length : Int))) (
  obind (at? a1 v9) fun (e10 : (Int × Int × F)) =>
  olet (IntKind.i64.wrap (a0 - 1)) fun (x11 : Int) =>
  obind (K05 e10.1 0 x11) fun (r12 : Bool) =>
  bsel r12 (
   olet (IntKind.i64.wrap (a0 - 1)) fun (x13 : Int) =>
   obind (K05 e10.2.1 0 x13) fun (r14 : Bool) =>
   bsel r14 (
    obind (K07 e10.2.2) fun (r15 : Bool) =>
    bsel r15 (
     olet (IntKind.i64.wrap (e10.1 * a0)) fun (x16 : Int) =>
     olet (IntKind.i64.wrap (x16 + e10.2.1)) fun (x17 : Int) =>
     obind (setAt? L5 x17 true) fun (L18 : List Bool) =>
     obind (at? L7 x17) fun (e19 : F) =>
     olet (fop .add .f32 e19 e10.2.2) fun (x20 : F) =>
     obind (setAt? L7 x17 x20) fun (L21 : List F) =>
     olet (IntKind.i64.wrap (v9 + 1)) fun (x22 : Int) =>
     some (LR.next (L18, L21, x22))) (
     some (LR.ret (0, false, ([] : List Int), ([] : List Int), ([] : List F))))) (
    some (LR.ret (0, false, ([] : List Int), ([] : List Int), ([] : List F))))) (
   some (LR.ret (0, false, ([] : List Int), ([] : List Int), ([] : List F))))) (
  some (LR.out (L5, L7)))
def K0b_s1 (a0 : Int) (a1 : List (Int × Int × F)) : ((List Bool) × (List F) × Int) → Option (LR ((List Bool) × (List F) × Int) ((List Bool) × (List F)) (Int × Bool × (List Int) × (List Int) × (List F))) := fun s => K0b_b1 a0 a1 s.1 s.2.1 s.2.2
def K0b_k1 (r2 : Int) (L23 : List Bool) (L25 : List F) : Option (Int × Bool × (List Int) × (List Int) × (List F)) :=
 obind5 (K0a r2 L23 L25) fun (r27 : Int) (r28 : Bool) (r29 : List Int) (r30 : List Int) (r31 : List F) =>
 some (r27, r28, r29, r30, r31)
def K0b (a0 : Int) (a1 : List (Int × Int × F)) : Option (Int × Bool × (List Int) × (List Int) × (List F)) :=
 obind (K05 a0 1 32) fun (r1 : Bool) =>
 bsel r1 (
  bsel (decide (512 < (a1.length : Int))) (
   some (0, false, ([] : List Int), ([] : List Int), ([] : List F))) (
   obind3 (K06 a0) fun (r2 : Int) (r3 : List Bool) (r4 : List F) =>
   obind (loopM (K0b_s1 a0 a1) (r3, r4, 0)) fun z => osum z (fun e => K0b_k1 r2 e.1 e.2) (fun r => some r))) (
  some (0, false, ([] : List Int), ([] : List Int), ([] : List F)))
abbrev z00e (e10 : (Int × Int × F)) : List AV := [i64 e10.1, i64 e10.2.1, f32 e10.2.2]
abbrev z00f (r2 : Int) (r3 : List Bool) (r4 : List F) : Ob := ⟨1, some [i64 r2, oref 1 1 0 r3.length, oref 2 1 0 r4.length]⟩
abbrev z00g : List AV := [i64 0, nilsl, nilsl, nilsl]
abbrev z00h (L5 : List Bool) (L7 : List F) (r2 : Int) (r3 : List Bool) (r4 : List F) : List Ob := [⟨1, some z00g⟩, ⟨1, some (L5.map b)⟩, oF 1 L7, (z00f r2 r3 r4), o0, o0, o0]
abbrev z00i : AV := tup [agg [i64 0, oref 4 1 0 (([] : List Int).length), oref 5 1 0 (([] : List Int).length), oref 6 1 0 (([] : List F).length)], b false]
abbrev z00j : List AV := [i64 0, oref 4 1 0 0, oref 5 1 0 0, oref 6 1 0 0]
abbrev z00k (r27 : Int) (r29 : List Int) (r30 : List Int) (r31 : List F) : List AV := [i64 r27, oref 4 1 0 r29.length, oref 5 1 0 r30.length, oref 6 1 0 r31.length]
abbrev z00l : List AV := [i64 0, oref 4 1 0 0, oref 5 1 0 0, nilsl]
abbrev z00m : List AV := [i64 0, oref 4 1 0 0, nilsl, nilsl]
abbrev z00n : List AV := [i64 0, oref 1 1 0 0, oref 2 1 0 0, oref 3 1 0 0]
abbrev z00o : List AV := [i64 0, oref 1 1 0 0, oref 2 1 0 0, nilsl]
abbrev z00p (e10 : (Int × Int × F)) : List AV := [i64 e10.2.1, f32 e10.2.2]
abbrev z00q (L5 : List Bool) (L7 : List F) (r2 : Int) (r3 : List Bool) (r4 : List F) : List Ob := [⟨1, some z00j⟩, ⟨1, some (L5.map b)⟩, oF 1 L7, (z00f r2 r3 r4), oJ 1 [], oJ 1 [], oF 1 []]
theorem K0b_ok (a0 : Int) (a1 : List (Int × Int × F)) (q0 : Int) (q1 : Bool) (q2 : List Int) (q3 : List Int) (q4 : List F) (h : K0b a0 a1 = some (q0, q1, q2, q3, q4)) : Ev Try.prog 20 [i64 a0, sl a1.length (a1.flatMap enF)] [] (tup [agg [i64 q0, oref 0 0 0 q2.length, oref 1 0 0 q3.length, oref 2 0 0 q4.length], b q1]) [oJ 0 q2, oJ 0 q3, oF 0 q4] := by
 refine yE Try.func20 7 179 0 [(0, i64 a0), (1, sl a1.length (a1.flatMap enF))] [o0, o0, o0, o0, o0, o0, o0] rfl ?_
 unfold K0b at h
 refine zQ<|ye rfl (optr 0 1 0) ([⟨1, some z00g⟩, o0, o0, o0, o0, o0, o0]) (TOp.alloc_o (g := o0) 0 rfl zer30 zok30 rfl)<|ya rfl (b false)<|zN ?_
 refine yS<|yS ?_
 obtain ⟨r1, hf1, h⟩ := oS h
 rcases oB h with ⟨hc2, h⟩ | ⟨hc2, h⟩
 ·rcases oB h with ⟨hc3, h⟩ | ⟨hc3, h⟩
  ·refine yW<|ym rfl (i64 a0)<|yd rfl (b true) (TOp.eqb (yc ent73 rfl rfl (bP (bP bN0)) (K05_ok a0 1 32 r1 hf1)) hc2)<|yl rfl (b false) n1<|ym rfl (b false)<|ym rfl (sl a1.length (a1.flatMap enF))<|yl rfl (i64 (a1.length : Int)) (LOp.len_sl und43 rfl rfl)<|yl rfl (b true) (LOp.eqb (LOp.gtr rfl rfl rfl) hc3)<|yl rfl (b true) yp<|zN ?_
   refine yT<|zQ<|yl rfl (agg z00g) (LOp.build (qs := []) zer30 zok30 und30 plc30 rfl trivial rfl)<|ys (agg z00g) z00g ([⟨1, some z00g⟩, o0, o0, o0, o0, o0, o0]) siz30<|ya rfl (b false)<|zN ?_
   refine RunC.nil_cell (l' := [i64 0, oref 1 1 0 0, nilsl, nilsl]) (Γ' := [⟨1, some [i64 0, oref 1 1 0 0, nilsl, nilsl]⟩, oJ 1 [], o0, o0, o0, o0, o0]) 0 1 1 rfl rfl rfl rfl rfl<|RunC.nil_cell (l' := z00o) (Γ' := [⟨1, some z00o⟩, oJ 1 [], oJ 1 [], o0, o0, o0, o0]) 0 2 2 rfl rfl rfl rfl rfl<|RunC.nil_cell (l' := z00n) (Γ' := [⟨1, some z00n⟩, oJ 1 [], oJ 1 [], oF 1 [], o0, o0, o0]) 0 3 3 rfl rfl rfl rfl rfl<|RunC.ret ?_
   have hq := oI h
   obtain ⟨hq0, hq⟩ := Prod.mk.inj hq
   obtain ⟨hq1, hq⟩ := Prod.mk.inj hq
   obtain ⟨hq2, hq⟩ := Prod.mk.inj hq
   obtain ⟨hq3, hq⟩ := Prod.mk.inj hq
   subst q0
   subst q1
   subst q2
   subst q3
   subst q4
   exact yB (tup [agg [i64 0, oref 1 1 0 (([] : List Int).length), oref 2 1 0 (([] : List Int).length), oref 3 1 0 (([] : List F).length)], b false]) [(1, 1), (2, 1), (3, 1)] (Res.eq (Res.two rfl (RV.cell agg30 siz30 rfl rfl rfl rfl) (RV.tmp rfl)) (by first | rfl | (rw [(show ([] : List Int).length = 0 from rfl), (show ([] : List F).length = 0 from rfl)] <;> rfl))) (SelL.arr0 (f := i64) (fun _ => rfl) rfl (SelL.arr0 (f := i64) (fun _ => rfl) rfl (sA rfl trivial)))
  ·refine yW<|ym rfl (i64 a0)<|yd rfl (b true) (TOp.eqb (yc ent73 rfl rfl (bP (bP bN0)) (K05_ok a0 1 32 r1 hf1)) hc2)<|yl rfl (b false) n1<|ym rfl (b false)<|ym rfl (sl a1.length (a1.flatMap enF))<|yl rfl (i64 (a1.length : Int)) (LOp.len_sl und43 rfl rfl)<|yl rfl (b false) (LOp.eqb (LOp.gtr rfl rfl rfl) hc3)<|yl rfl (b false) yp<|zN ?_
   refine yF<|RunC.skip<|yS ?_
   obtain ⟨r2, r3, r4, hf4, h⟩ := obind3_some h
   refine yW<|ym rfl (i64 a0)<|ye rfl (agg [i64 r2, oref 1 1 0 r3.length, oref 2 1 0 r4.length]) ([⟨1, some z00g⟩, ⟨1, some (r3.map b)⟩, oF 1 r4, o0, o0, o0, o0]) (TOp.callBN (ls := [(r3.map b), (r4.map f32)]) [1, 2] (CallAs.func ent97 rfl rfl) bN0 rfl (K06_ok a0 r2 r3 r4 hf4) (and_all (lts0_map (f := b) (fun _ => rfl) _) (and_all (lts0_map (f := f32) (fun _ => rfl) _) rfl)) (and_all (noss_map (f := b) (fun _ => rfl) _) (and_all (noss_map (f := f32) (fun _ => rfl) _) rfl)) rfl (by decide) (ns_of ⟨⟨_, rfl⟩, ⟨_, rfl⟩, trivial⟩))<|ye rfl (optr 3 1 0) ([⟨1, some z00g⟩, ⟨1, some (r3.map b)⟩, oF 1 r4, ⟨1, some [i64 0, nilsl, nilsl]⟩, o0, o0, o0]) (TOp.alloc_o (g := o0) 3 rfl zer91 zok91 rfl)<|ys (agg [i64 r2, oref 1 1 0 r3.length, oref 2 1 0 r4.length]) [i64 r2, oref 1 1 0 r3.length, oref 2 1 0 r4.length] ([⟨1, some z00g⟩, ⟨1, some (r3.map b)⟩, oF 1 r4, (z00f r2 r3 r4), o0, o0, o0]) siz91<|zN ?_
   refine yS<|zQ<|ym rfl (sl a1.length (a1.flatMap enF))<|yl rfl (i64 (a1.length : Int)) (LOp.len_sl und43 rfl rfl)<|ym rfl (i64 0)<|zN ?_
   obtain ⟨z2, hz_2, h⟩ := oS h
   refine RunC.cutN (fun τ Γ => ∃ (L23 : List Bool) (L25 : List F), L23.length = r3.length ∧ L25.length = r4.length ∧ WeakLe τ [(4, optr 0 1 0), (6, optr 3 1 0)] ∧ DeadLe Γ [⟨1, some z00g⟩, ⟨1, some (L23.map b)⟩, oF 1 L25, (z00f r2 r3 r4), o0, o0, o0] ∧ z2 = .inl (L23, L25)) ?_ ?_
   ·refine RunC.block (RunC.loop (RunL.loopM (x := z2) (K0b_s1 a0 a1) (fun (s : (List Bool) × (List F) × Int) τ Γ => s.1.length = r3.length ∧ s.2.1.length = r4.length ∧ WeakLe τ [(0, i64 a0), (1, sl a1.length (a1.flatMap enF)), (4, optr 0 1 0), (6, optr 3 1 0), (22, i64 (a1.length : Int)), (23, i64 s.2.2)] ∧ DeadLe Γ [⟨1, some z00g⟩, ⟨1, some (s.1.map b)⟩, ⟨1, some (s.2.1.map f32)⟩, (z00f r2 r3 r4), o0, o0, o0]) ?_ _ _ _ hz_2 ⟨rfl, rfl, ⟨aR, aR, aR, aR, aR, aR, trivial⟩, ⟨dR, dR, dR, dR, dR, dR, dR, trivial⟩⟩))
    rintro ⟨L5, L7, v9⟩ τ2 Γ2 y2_ ⟨hl6, hl8, hw2, hd2⟩ h2_ ho2 hr2
    refine RunC.wl (τ' := [(0, i64 a0), (1, sl a1.length (a1.flatMap enF)), (4, optr 0 1 0), (6, optr 3 1 0), (22, i64 (a1.length : Int)), (23, i64 v9)]) (Γ' := (z00h L5 L7 r2 r3 r4)) hw2 hd2 ?_
    replace hl6 : L5.length = r3.length := hl6
    replace hl8 : L7.length = r4.length := hl8
    replace h2_ : K0b_b1 a0 a1 L5 L7 v9 = some y2_ := h2_
    unfold K0b_b1 at h2_
    refine yS ?_
    rcases oB h2_ with ⟨hc5, h2_⟩ | ⟨hc5, h2_⟩
    ·refine yW<|yl rfl (b true) (LOp.eqb (LOp.lss rfl rfl rfl) hc5)<|zN ?_
     refine yS<|yT<|RunC.skip<|yS<|RunC.block<|zQ<|ym rfl (i64 v9)<|ya rfl (i64 v9)<|zN ?_
     refine yS ?_
     obtain ⟨e10, he6, h2_⟩ := oS h2_
     refine yW<|ym rfl (sl a1.length (a1.flatMap enF))<|ym rfl (i64 v9)<|yl rfl (ptr (z00e e10)) (LOp.ixW (f := enF) (k := 2) (fun _ => rfl) und43 siz112 rfl rfl rfl rfl he6)<|ya rfl (ptr (z00e e10))<|zN ?_
     refine yS<|yS ?_
     obtain ⟨x11, hx7, h2_⟩ := oL h2_
     obtain ⟨r12, hf8, h2_⟩ := oS h2_
     rcases oB h2_ with ⟨hc9, h2_⟩ | ⟨hc9, h2_⟩
     ·obtain ⟨x13, hx10, h2_⟩ := oL h2_
      obtain ⟨r14, hf11, h2_⟩ := oS h2_
      rcases oB h2_ with ⟨hc12, h2_⟩ | ⟨hc12, h2_⟩
      ·obtain ⟨r15, hf13, h2_⟩ := oS h2_
       rcases oB h2_ with ⟨hc14, h2_⟩ | ⟨hc14, h2_⟩
       ·refine yW<|ym rfl (ptr (z00e e10))<|yl rfl (ptr (z00e e10)) n4<|yl rfl (ptr (z00e e10)) (LOp.fap und112 rfl siz2 rfl rfl rfl)<|yl rfl (i64 e10.1) (n2 agg2)<|ym rfl (i64 a0)<|yl rfl (i64 x11) (LOp.eqr (LOp.sub rfl rfl rfl) (congrArg (ik .i64) hx7))<|yd rfl (b true) (TOp.eqb (yc ent73 rfl rfl (bP (bP bN0)) (K05_ok e10.1 0 x11 r12 hf8)) hc9)<|yl rfl (b false) n1<|ym rfl (b false)<|ym rfl (ptr (z00e e10))<|yl rfl (ptr (z00e e10)) n4<|yl rfl (ptr (z00p e10)) (LOp.fap und112 rfl siz2 rfl rfl rfl)<|yl rfl (i64 e10.2.1) (n2 agg2)<|ym rfl (i64 a0)<|yl rfl (i64 x13) (LOp.eqr (LOp.sub rfl rfl rfl) (congrArg (ik .i64) hx10))<|yd rfl (b true) (TOp.eqb (yc ent73 rfl rfl (bP (bP bN0)) (K05_ok e10.2.1 0 x13 r14 hf11)) hc12)<|yl rfl (b false) n1<|yl rfl (b false) yp<|ym rfl (b false)<|ym rfl (ptr (z00e e10))<|yl rfl (ptr (z00e e10)) n4<|yl rfl (ptr [f32 e10.2.2]) (LOp.fap und112 rfl siz26 rfl rfl rfl)<|yl rfl (f32 e10.2.2) (n2 agg26)<|yd rfl (b true) (TOp.eqb (yc ent78 rfl rfl bN0 (K07_ok e10.2.2 r15 hf13)) hc14)<|yl rfl (b false) n1<|yl rfl (b false) yp<|zN ?_
        refine RunC.wl (τ' := [(0, i64 a0), (1, sl a1.length (a1.flatMap enF)), (4, optr 0 1 0), (6, optr 3 1 0), (8, ptr (z00e e10)), (22, i64 (a1.length : Int)), (23, i64 v9), (38, ptr (z00e e10)), (39, ptr (z00e e10)), (40, ptr (z00p e10)), (41, i64 e10.2.1), (42, i64 a0), (43, i64 x13), (44, b true), (45, b false), (48, ptr (z00e e10)), (49, ptr (z00e e10)), (50, ptr [f32 e10.2.2]), (51, f32 e10.2.2), (52, b true), (53, b false), (54, b false)]) (Γ' := (z00h L5 L7 r2 r3 r4)) ⟨aR, aR, aR, aR, aR, aR, aR, aR, aR, aR, aR, aR, aR, aR, aR, aR, aR, aR, aR, aR, aR, aR, trivial⟩ ⟨dR, dR, dR, dR, dR, dR, dR, trivial⟩<|yF<|RunC.skip<|yS ?_
        obtain ⟨x16, hx15, h2_⟩ := oL h2_
        obtain ⟨x17, hx16, h2_⟩ := oL h2_
        refine RunC.region_draw (Γ' := (z00h L5 L7 r2 r3 r4)) 12 mixed 
         (tm rfl (ptr (z00e e10)) <|
         (tl rfl (ptr (z00e e10)) n4 <|
         (tl rfl (ptr (z00e e10)) (LOp.fap und112 rfl siz2 rfl rfl rfl) <|
         (tl rfl (i64 e10.1) (n2 agg2) <|
         (tm rfl (i64 a0) <|
         (tl rfl (i64 x16) (LOp.eqr (LOp.mul rfl rfl rfl) (congrArg (ik .i64) hx15)) <|
         (tm rfl (ptr (z00e e10)) <|
         (tl rfl (ptr (z00e e10)) n4 <|
         (tl rfl (ptr (z00p e10)) (LOp.fap und112 rfl siz2 rfl rfl rfl) <|
         (tl rfl (i64 e10.2.1) (n2 agg2) <|
         (tl rfl (i64 x17) (LOp.eqr (LOp.add rfl rfl rfl) (congrArg (ik .i64) hx16)) <|
         (tl rfl (i64 x17) (LOp.assign rfl rfl) <|
         TR.nil)))))))))))) rfl (by kernel_rfl) rfl fills_nil rfl ?_
        iterate 12 refine ROps.dropS ?_
        refine ROps.drop0<|zN ?_
        refine yS ?_
        obtain ⟨L18, he17, h2_⟩ := oS h2_
        refine yW<|yl rfl (optr 3 1 1) (LOp.fao und91 rfl siz89 rfl rfl rfl)<|yd rfl (oref 1 1 0 r3.length) (TOp.load1_o rfl rfl agg89 rfl rfl)<|ym rfl (i64 x17)<|yd rfl (optr 1 1 x17.toNat) (TOp.ixo und89 siz4 rfl rfl rfl (set_in he17 hl6) rfl)<|ROps.st (f := b) (i := x17) (Γ' := [⟨1, some z00g⟩, ⟨1, some (L18.map b)⟩, oF 1 L7, (z00f r2 r3 r4), o0, o0, o0]) rfl siz4 rfl rfl rfl aR rfl rfl rfl he17 rfl<|zN ?_
        refine RunC.wl (τ' := [(0, i64 a0), (1, sl a1.length (a1.flatMap enF)), (4, optr 0 1 0), (6, optr 3 1 0), (8, ptr (z00e e10)), (9, i64 x17), (22, i64 (a1.length : Int)), (23, i64 v9), (38, ptr (z00e e10)), (39, ptr (z00e e10)), (40, ptr (z00p e10)), (41, i64 e10.2.1), (42, i64 a0), (43, i64 x13), (44, b true), (45, b false), (48, ptr (z00e e10)), (49, ptr (z00e e10)), (50, ptr [f32 e10.2.2]), (51, f32 e10.2.2), (52, b true), (53, b false)]) (Γ' := [⟨1, some z00g⟩, ⟨1, some (L18.map b)⟩, oF 1 L7, (z00f r2 r3 r4), o0, o0, o0]) ⟨aR, aR, aR, aR, aR, aR, aR, aR, aR, aR, aR, aR, aR, aR, aR, aR, aR, aR, aR, aR, aR, aR, trivial⟩ ⟨dR, dR, dR, dR, dR, dR, dR, trivial⟩ ?_
        obtain ⟨e19, he18, h2_⟩ := oS h2_
        obtain ⟨x20, hx19, h2_⟩ := oL h2_
        obtain ⟨L21, he20, h2_⟩ := oS h2_
        refine RunC.region_draw (Γ' := [⟨1, some z00g⟩, ⟨1, some (L18.map b)⟩, oF 1 L7, (z00f r2 r3 r4), o0, o0, o0]) 14 mixed 
         (tl rfl (optr 3 1 2) (LOp.fao und91 rfl siz23 rfl rfl rfl) <|
         (TR.d (r := oref 2 1 0 r4.length) (fs := []) rfl rfl (TOp.load1_o rfl rfl agg23 rfl rfl) <|
         (tm rfl (i64 x17) <|
         (tl rfl (optr 3 1 2) (LOp.fao und91 rfl siz23 rfl rfl rfl) <|
         (TR.d (r := oref 2 1 0 r4.length) (fs := []) rfl rfl (TOp.load1_o rfl rfl agg23 rfl rfl) <|
         (tm rfl (i64 x17) <|
         (TR.d (r := optr 2 1 x17.toNat) (fs := []) rfl rfl (TOp.ixo und23 siz26 rfl rfl rfl (at_in he18 hl8) rfl) <|
         (TR.d (r := f32 e19) (fs := []) rfl rfl (TOp.load1_o rfl (at_cell he18) agg26 rfl rfl) <|
         (tm rfl (ptr (z00e e10)) <|
         (tl rfl (ptr (z00e e10)) n4 <|
         (tl rfl (ptr [f32 e10.2.2]) (LOp.fap und112 rfl siz26 rfl rfl rfl) <|
         (tl rfl (f32 e10.2.2) (n2 agg26) <|
         (TR.d (r := f32 x20) (fs := []) rfl rfl (TOp.eqr (TOp.fop (.inl rfl) rfl (OpF.tmp rfl) (OpF.tmp rfl)) (congrArg (f .f32) hx19)) <|
         (TR.d (r := optr 2 1 x17.toNat) (fs := []) rfl rfl (TOp.ixo und23 siz26 rfl rfl rfl (set_in he20 hl8) rfl) <|
         TR.nil)))))))))))))) rfl (by kernel_rfl) rfl fills_nil rfl ?_
        iterate 14 refine ROps.dropS ?_
        refine ROps.drop0<|ROps.st (f := f32) (i := x17) (Γ' := [⟨1, some z00g⟩, ⟨1, some (L18.map b)⟩, oF 1 L21, (z00f r2 r3 r4), o0, o0, o0]) rfl siz26 rfl rfl rfl aR rfl rfl rfl he20 rfl<|zN ?_
        refine RunC.wl (τ' := [(0, i64 a0), (1, sl a1.length (a1.flatMap enF)), (4, optr 0 1 0), (6, optr 3 1 0), (22, i64 (a1.length : Int)), (23, i64 v9), (38, ptr (z00e e10)), (39, ptr (z00e e10)), (40, ptr (z00p e10)), (41, i64 e10.2.1), (42, i64 a0), (43, i64 x13), (44, b true), (45, b false), (48, ptr (z00e e10)), (49, ptr (z00e e10)), (50, ptr [f32 e10.2.2]), (51, f32 e10.2.2), (52, b true), (53, b false)]) (Γ' := [⟨1, some z00g⟩, ⟨1, some (L18.map b)⟩, oF 1 L21, (z00f r2 r3 r4), o0, o0, o0]) ⟨aR, aR, aR, aR, aR, aR, aR, aR, aR, aR, aR, aR, aR, aR, aR, aR, aR, aR, aR, aR, trivial⟩ ⟨dR, dR, dR, dR, dR, dR, dR, trivial⟩ ?_
        obtain ⟨x22, hx21, h2_⟩ := oL h2_
        refine yW<|yl rfl (i64 x22) (LOp.eqr (LOp.add rfl rfl rfl) (congrArg (ik .i64) hx21))<|ym rfl (i64 x22)<|zN ?_
        cases oI h2_
        exact ⟨_, rfl, ((setAt?_len he17).trans hl6), ((setAt?_len he20).trans hl8), ⟨aR, aR, aR, aR, aR, aR, trivial⟩, ⟨dR, dR, dR, dR, dR, dR, dR, trivial⟩⟩
       ·refine yW<|ym rfl (ptr (z00e e10))<|yl rfl (ptr (z00e e10)) n4<|yl rfl (ptr (z00e e10)) (LOp.fap und112 rfl siz2 rfl rfl rfl)<|yl rfl (i64 e10.1) (n2 agg2)<|ym rfl (i64 a0)<|yl rfl (i64 x11) (LOp.eqr (LOp.sub rfl rfl rfl) (congrArg (ik .i64) hx7))<|yd rfl (b true) (TOp.eqb (yc ent73 rfl rfl (bP (bP bN0)) (K05_ok e10.1 0 x11 r12 hf8)) hc9)<|yl rfl (b false) n1<|ym rfl (b false)<|ym rfl (ptr (z00e e10))<|yl rfl (ptr (z00e e10)) n4<|yl rfl (ptr (z00p e10)) (LOp.fap und112 rfl siz2 rfl rfl rfl)<|yl rfl (i64 e10.2.1) (n2 agg2)<|ym rfl (i64 a0)<|yl rfl (i64 x13) (LOp.eqr (LOp.sub rfl rfl rfl) (congrArg (ik .i64) hx10))<|yd rfl (b true) (TOp.eqb (yc ent73 rfl rfl (bP (bP bN0)) (K05_ok e10.2.1 0 x13 r14 hf11)) hc12)<|yl rfl (b false) n1<|yl rfl (b false) yp<|ym rfl (b false)<|ym rfl (ptr (z00e e10))<|yl rfl (ptr (z00e e10)) n4<|yl rfl (ptr [f32 e10.2.2]) (LOp.fap und112 rfl siz26 rfl rfl rfl)<|yl rfl (f32 e10.2.2) (n2 agg26)<|yd rfl (b false) (TOp.eqb (yc ent78 rfl rfl bN0 (K07_ok e10.2.2 r15 hf13)) hc14)<|yl rfl (b true) n0<|yl rfl (b true) yp<|zN ?_
        refine RunC.wl (τ' := [(0, i64 a0), (1, sl a1.length (a1.flatMap enF)), (4, optr 0 1 0), (6, optr 3 1 0), (8, ptr (z00e e10)), (22, i64 (a1.length : Int)), (23, i64 v9), (38, ptr (z00e e10)), (39, ptr (z00e e10)), (40, ptr (z00p e10)), (41, i64 e10.2.1), (42, i64 a0), (43, i64 x13), (44, b true), (45, b false), (48, ptr (z00e e10)), (49, ptr (z00e e10)), (50, ptr [f32 e10.2.2]), (51, f32 e10.2.2), (52, b false), (53, b true), (54, b true)]) (Γ' := (z00h L5 L7 r2 r3 r4)) ⟨aR, aR, aR, aR, aR, aR, aR, aR, aR, aR, aR, aR, aR, aR, aR, aR, aR, aR, aR, aR, aR, aR, trivial⟩ ⟨dR, dR, dR, dR, dR, dR, dR, trivial⟩<|yT<|zQ<|yl rfl (agg z00g) (LOp.build (qs := []) zer30 zok30 und30 plc30 rfl trivial rfl)<|ys (agg z00g) z00g ((z00h L5 L7 r2 r3 r4)) siz30<|ya rfl (b false)<|zN ?_
        refine RunC.nil_cell (l' := z00m) (Γ' := [⟨1, some z00m⟩, ⟨1, some (L5.map b)⟩, oF 1 L7, (z00f r2 r3 r4), oJ 1 [], o0, o0]) 0 1 4 rfl rfl rfl rfl rfl<|RunC.nil_cell (l' := z00l) (Γ' := [⟨1, some z00l⟩, ⟨1, some (L5.map b)⟩, oF 1 L7, (z00f r2 r3 r4), oJ 1 [], oJ 1 [], o0]) 0 2 5 rfl rfl rfl rfl rfl<|RunC.nil_cell (l' := z00j) (Γ' := (z00q L5 L7 r2 r3 r4)) 0 3 6 rfl rfl rfl rfl rfl<|RunC.ret ?_
        cases oI h2_
        have hx3_ := hr2 _ rfl
        subst hx3_
        have hq := oI h
        obtain ⟨hq0, hq⟩ := Prod.mk.inj hq
        obtain ⟨hq1, hq⟩ := Prod.mk.inj hq
        obtain ⟨hq2, hq⟩ := Prod.mk.inj hq
        obtain ⟨hq3, hq⟩ := Prod.mk.inj hq
        subst q0
        subst q1
        subst q2
        subst q3
        subst q4
        exact yB z00i [(4, 1), (5, 1), (6, 1)] (Res.eq (Res.two rfl (RV.cell agg30 siz30 rfl rfl rfl rfl) (RV.tmp rfl)) (by first | rfl | (rw [(show ([] : List Int).length = 0 from rfl), (show ([] : List F).length = 0 from rfl)] <;> rfl))) (SelL.arr0 (f := i64) (fun _ => rfl) rfl (SelL.arr0 (f := i64) (fun _ => rfl) rfl (sA rfl trivial)))
      ·refine yW<|ym rfl (ptr (z00e e10))<|yl rfl (ptr (z00e e10)) n4<|yl rfl (ptr (z00e e10)) (LOp.fap und112 rfl siz2 rfl rfl rfl)<|yl rfl (i64 e10.1) (n2 agg2)<|ym rfl (i64 a0)<|yl rfl (i64 x11) (LOp.eqr (LOp.sub rfl rfl rfl) (congrArg (ik .i64) hx7))<|yd rfl (b true) (TOp.eqb (yc ent73 rfl rfl (bP (bP bN0)) (K05_ok e10.1 0 x11 r12 hf8)) hc9)<|yl rfl (b false) n1<|ym rfl (b false)<|ym rfl (ptr (z00e e10))<|yl rfl (ptr (z00e e10)) n4<|yl rfl (ptr (z00p e10)) (LOp.fap und112 rfl siz2 rfl rfl rfl)<|yl rfl (i64 e10.2.1) (n2 agg2)<|ym rfl (i64 a0)<|yl rfl (i64 x13) (LOp.eqr (LOp.sub rfl rfl rfl) (congrArg (ik .i64) hx10))<|yd rfl (b false) (TOp.eqb (yc ent73 rfl rfl (bP (bP bN0)) (K05_ok e10.2.1 0 x13 r14 hf11)) hc12)<|yl rfl (b true) n0<|yl rfl (b true) yp<|ym rfl (b true)<|yR rfl<|yR rfl<|yR rfl<|yR rfl<|yR rfl<|yR rfl<|yl rfl (b true) yq<|zN ?_
       refine RunC.wl (τ' := [(0, i64 a0), (1, sl a1.length (a1.flatMap enF)), (4, optr 0 1 0), (6, optr 3 1 0), (8, ptr (z00e e10)), (22, i64 (a1.length : Int)), (23, i64 v9), (38, ptr (z00e e10)), (39, ptr (z00e e10)), (40, ptr (z00p e10)), (41, i64 e10.2.1), (42, i64 a0), (43, i64 x13), (44, b false), (45, b true), (54, b true)]) (Γ' := (z00h L5 L7 r2 r3 r4)) ⟨aR, aR, aR, aR, aR, aR, aR, aR, aR, aR, aR, aR, aR, aR, aR, aR, trivial⟩ ⟨dR, dR, dR, dR, dR, dR, dR, trivial⟩<|yT<|zQ<|yl rfl (agg z00g) (LOp.build (qs := []) zer30 zok30 und30 plc30 rfl trivial rfl)<|ys (agg z00g) z00g ((z00h L5 L7 r2 r3 r4)) siz30<|ya rfl (b false)<|zN ?_
       refine RunC.nil_cell (l' := z00m) (Γ' := [⟨1, some z00m⟩, ⟨1, some (L5.map b)⟩, oF 1 L7, (z00f r2 r3 r4), oJ 1 [], o0, o0]) 0 1 4 rfl rfl rfl rfl rfl<|RunC.nil_cell (l' := z00l) (Γ' := [⟨1, some z00l⟩, ⟨1, some (L5.map b)⟩, oF 1 L7, (z00f r2 r3 r4), oJ 1 [], oJ 1 [], o0]) 0 2 5 rfl rfl rfl rfl rfl<|RunC.nil_cell (l' := z00j) (Γ' := (z00q L5 L7 r2 r3 r4)) 0 3 6 rfl rfl rfl rfl rfl<|RunC.ret ?_
       cases oI h2_
       have hx4_ := hr2 _ rfl
       subst hx4_
       have hq := oI h
       obtain ⟨hq0, hq⟩ := Prod.mk.inj hq
       obtain ⟨hq1, hq⟩ := Prod.mk.inj hq
       obtain ⟨hq2, hq⟩ := Prod.mk.inj hq
       obtain ⟨hq3, hq⟩ := Prod.mk.inj hq
       subst q0
       subst q1
       subst q2
       subst q3
       subst q4
       exact yB z00i [(4, 1), (5, 1), (6, 1)] (Res.eq (Res.two rfl (RV.cell agg30 siz30 rfl rfl rfl rfl) (RV.tmp rfl)) (by first | rfl | (rw [(show ([] : List Int).length = 0 from rfl), (show ([] : List F).length = 0 from rfl)] <;> rfl))) (SelL.arr0 (f := i64) (fun _ => rfl) rfl (SelL.arr0 (f := i64) (fun _ => rfl) rfl (sA rfl trivial)))
     ·refine yW<|ym rfl (ptr (z00e e10))<|yl rfl (ptr (z00e e10)) n4<|yl rfl (ptr (z00e e10)) (LOp.fap und112 rfl siz2 rfl rfl rfl)<|yl rfl (i64 e10.1) (n2 agg2)<|ym rfl (i64 a0)<|yl rfl (i64 x11) (LOp.eqr (LOp.sub rfl rfl rfl) (congrArg (ik .i64) hx7))<|yd rfl (b false) (TOp.eqb (yc ent73 rfl rfl (bP (bP bN0)) (K05_ok e10.1 0 x11 r12 hf8)) hc9)<|yl rfl (b true) n0<|ym rfl (b true)<|yR rfl<|yR rfl<|yR rfl<|yR rfl<|yR rfl<|yR rfl<|yR rfl<|yR rfl<|yl rfl (b true) yq<|ym rfl (b true)<|yR rfl<|yR rfl<|yR rfl<|yR rfl<|yR rfl<|yR rfl<|yl rfl (b true) yq<|zN ?_
      refine RunC.wl (τ' := [(0, i64 a0), (1, sl a1.length (a1.flatMap enF)), (4, optr 0 1 0), (6, optr 3 1 0), (8, ptr (z00e e10)), (22, i64 (a1.length : Int)), (23, i64 v9), (54, b true)]) (Γ' := (z00h L5 L7 r2 r3 r4)) ⟨aR, aR, aR, aR, aR, aR, aR, aR, trivial⟩ ⟨dR, dR, dR, dR, dR, dR, dR, trivial⟩<|yT<|zQ<|yl rfl (agg z00g) (LOp.build (qs := []) zer30 zok30 und30 plc30 rfl trivial rfl)<|ys (agg z00g) z00g ((z00h L5 L7 r2 r3 r4)) siz30<|ya rfl (b false)<|zN ?_
      refine RunC.nil_cell (l' := z00m) (Γ' := [⟨1, some z00m⟩, ⟨1, some (L5.map b)⟩, oF 1 L7, (z00f r2 r3 r4), oJ 1 [], o0, o0]) 0 1 4 rfl rfl rfl rfl rfl<|RunC.nil_cell (l' := z00l) (Γ' := [⟨1, some z00l⟩, ⟨1, some (L5.map b)⟩, oF 1 L7, (z00f r2 r3 r4), oJ 1 [], oJ 1 [], o0]) 0 2 5 rfl rfl rfl rfl rfl<|RunC.nil_cell (l' := z00j) (Γ' := (z00q L5 L7 r2 r3 r4)) 0 3 6 rfl rfl rfl rfl rfl<|RunC.ret ?_
      cases oI h2_
      have hx5_ := hr2 _ rfl
      subst hx5_
      have hq := oI h
      obtain ⟨hq0, hq⟩ := Prod.mk.inj hq
      obtain ⟨hq1, hq⟩ := Prod.mk.inj hq
      obtain ⟨hq2, hq⟩ := Prod.mk.inj hq
      obtain ⟨hq3, hq⟩ := Prod.mk.inj hq
      subst q0
      subst q1
      subst q2
      subst q3
      subst q4
      exact yB z00i [(4, 1), (5, 1), (6, 1)] (Res.eq (Res.two rfl (RV.cell agg30 siz30 rfl rfl rfl rfl) (RV.tmp rfl)) (by first | rfl | (rw [(show ([] : List Int).length = 0 from rfl), (show ([] : List F).length = 0 from rfl)] <;> rfl))) (SelL.arr0 (f := i64) (fun _ => rfl) rfl (SelL.arr0 (f := i64) (fun _ => rfl) rfl (sA rfl trivial)))
    ·refine yW<|yl rfl (b false) (LOp.eqb (LOp.lss rfl rfl rfl) hc5)<|zN ?_
     refine yS<|yF<|RunC.exit ?_
     cases oI h2_
     have hx := ho2 _ rfl
     exact ⟨L5, L7, hl6, hl8, ⟨aR, aR, trivial⟩, ⟨dR, dR, dR, dR, dR, dR, dR, trivial⟩, hx⟩
   ·rintro τ6 Γ6 ⟨L23, L25, hl24, hl26, hw6, hd6, rfl⟩
    refine RunC.wl hw6 hd6 ?_
    replace h : K0b_k1 r2 L23 L25 = some (q0, q1, q2, q3, q4) := h
    unfold K0b_k1 at h
    refine yS ?_
    obtain ⟨r27, r28, r29, r30, r31, hf22, h⟩ := obind5_some h
    refine yW<|ye rfl (tup [agg (z00k r27 r29 r30 r31), b r28]) ([⟨1, some z00g⟩, ⟨1, some (L23.map b)⟩, oF 1 L25, (z00f r2 r3 r4), oJ 1 r29, oJ 1 r30, oF 1 r31]) (TOp.callBN (ls := [(r29.map i64), (r30.map i64), (r31.map f32)]) [4, 5, 6] (CallAs.func ent98 rfl rfl) (Bors.cons (Bor.optr rfl (Bors.p (bP (Bors.cons (Bor.own (f := b) (fun _ => rfl) rfl hl24) (Bors.cons (Bor.own (f := f32) (fun _ => rfl) rfl hl26) bN)))) rfl) bN) rfl (K0a_ok r2 L23 L25 r27 r28 r29 r30 r31 hf22) (and_all (lts0_map (f := i64) (fun _ => rfl) _) (and_all (lts0_map (f := i64) (fun _ => rfl) _) (and_all (lts0_map (f := f32) (fun _ => rfl) _) rfl))) (and_all (noss_map (f := i64) (fun _ => rfl) _) (and_all (noss_map (f := i64) (fun _ => rfl) _) (and_all (noss_map (f := f32) (fun _ => rfl) _) rfl))) rfl (by decide) (ns_of ⟨⟨_, rfl⟩, ⟨_, rfl⟩, ⟨_, rfl⟩, trivial⟩))<|yl rfl (agg (z00k r27 r29 r30 r31)) n3<|yl rfl (b r28) n3<|ys (agg (z00k r27 r29 r30 r31)) (z00k r27 r29 r30 r31) ([⟨1, some (z00k r27 r29 r30 r31)⟩, ⟨1, some (L23.map b)⟩, oF 1 L25, (z00f r2 r3 r4), oJ 1 r29, oJ 1 r30, oF 1 r31]) siz30<|ya rfl (b r28)<|zN ?_
    refine RunC.ret ?_
    have hq := oI h
    obtain ⟨hq0, hq⟩ := Prod.mk.inj hq
    obtain ⟨hq1, hq⟩ := Prod.mk.inj hq
    obtain ⟨hq2, hq⟩ := Prod.mk.inj hq
    obtain ⟨hq3, hq⟩ := Prod.mk.inj hq
    subst q0
    subst q1
    subst q2
    subst q3
    subst q4
    exact yB (tup [agg (z00k r27 r29 r30 r31), b r28]) [(4, 1), (5, 1), (6, 1)] (Res.two rfl (RV.cell agg30 siz30 rfl rfl rfl rfl) (RV.tmp rfl)) (SelL.arr0 (f := i64) (fun _ => rfl) rfl (SelL.arr0 (f := i64) (fun _ => rfl) rfl (sA rfl trivial)))
 ·refine yW<|ym rfl (i64 a0)<|yd rfl (b false) (TOp.eqb (yc ent73 rfl rfl (bP (bP bN0)) (K05_ok a0 1 32 r1 hf1)) hc2)<|yl rfl (b true) n0<|ym rfl (b true)<|yR rfl<|yR rfl<|yR rfl<|yl rfl (b true) yq<|zN ?_
  refine yT<|zQ<|yl rfl (agg z00g) (LOp.build (qs := []) zer30 zok30 und30 plc30 rfl trivial rfl)<|ys (agg z00g) z00g ([⟨1, some z00g⟩, o0, o0, o0, o0, o0, o0]) siz30<|ya rfl (b false)<|zN ?_
  refine RunC.nil_cell (l' := [i64 0, oref 1 1 0 0, nilsl, nilsl]) (Γ' := [⟨1, some [i64 0, oref 1 1 0 0, nilsl, nilsl]⟩, oJ 1 [], o0, o0, o0, o0, o0]) 0 1 1 rfl rfl rfl rfl rfl<|RunC.nil_cell (l' := z00o) (Γ' := [⟨1, some z00o⟩, oJ 1 [], oJ 1 [], o0, o0, o0, o0]) 0 2 2 rfl rfl rfl rfl rfl<|RunC.nil_cell (l' := z00n) (Γ' := [⟨1, some z00n⟩, oJ 1 [], oJ 1 [], oF 1 [], o0, o0, o0]) 0 3 3 rfl rfl rfl rfl rfl<|RunC.ret ?_
  have hq := oI h
  obtain ⟨hq0, hq⟩ := Prod.mk.inj hq
  obtain ⟨hq1, hq⟩ := Prod.mk.inj hq
  obtain ⟨hq2, hq⟩ := Prod.mk.inj hq
  obtain ⟨hq3, hq⟩ := Prod.mk.inj hq
  subst q0
  subst q1
  subst q2
  subst q3
  subst q4
  exact yB (tup [agg [i64 0, oref 1 1 0 (([] : List Int).length), oref 2 1 0 (([] : List Int).length), oref 3 1 0 (([] : List F).length)], b false]) [(1, 1), (2, 1), (3, 1)] (Res.eq (Res.two rfl (RV.cell agg30 siz30 rfl rfl rfl rfl) (RV.tmp rfl)) (by first | rfl | (rw [(show ([] : List Int).length = 0 from rfl), (show ([] : List F).length = 0 from rfl)] <;> rfl))) (SelL.arr0 (f := i64) (fun _ => rfl) rfl (SelL.arr0 (f := i64) (fun _ => rfl) rfl (sA rfl trivial)))

def K0c_k5 (v25 : Int) (L37 : List (Int × Int × F)) (v38 : Int) (v39 : Int) : Option (LR ((List (Int × Int × F)) × Int × Int × Int) ((List (Int × Int × F)) × Int × Int) (Int × (List Int) × (List Int) × (List F))) :=
 olet (IntKind.i64.wrap (v25 + 1)) fun (x40 : Int) =>
 some (LR.next (L37, v38, v39, x40))
def K0c_b6 (r1 : List Int) (v13 : Int) (L22 : List (Int × Int × F)) (v23 : Int) (v24 : Int) (v25 : Int) : Option (LR ((List (Int × Int × F)) × Int × Int × Int) ((List (Int × Int × F)) × Int × Int) (Int × (List Int) × (List Int) × (List F))) :=
 bsel (decide (v25 < v13)) (
  obind3 (K04 3 r1 v23 v24) fun (r26 : Bool) (r27 : Int) (r28 : Int) =>
  bsel r26 (
   obind3 (K03 9 r1 r27 r28) fun (r29 : Int) (r30 : Int) (r31 : Int) =>
   olet (IntKind.i64.wrap (r29 - 4)) fun (x32 : Int) =>
   olet (fint .f32 x32) fun (x33 : F) =>
   olet (fop .quo .f32 x33 (some 1082130432)) fun (x34 : F) =>
   need (apok 24 L22.length 2) <|
   K0c_k5 v25 (L22 ++ ([(v13, v25, x34), (v25, v13, x34)] : List (Int × Int × F))) r30 r31) (
   K0c_k5 v25 L22 r27 r28)) (
  some (LR.out (L22, v23, v24)))
def K0c_s6 (r1 : List Int) (v13 : Int) : ((List (Int × Int × F)) × Int × Int × Int) → Option (LR ((List (Int × Int × F)) × Int × Int × Int) ((List (Int × Int × F)) × Int × Int) (Int × (List Int) × (List Int) × (List F))) := fun s => K0c_b6 r1 v13 s.1 s.2.1 s.2.2.1 s.2.2.2
def K0c_k6 (v13 : Int) (L43 : List (Int × Int × F)) (v44 : Int) (v45 : Int) : Option (LR ((List (Int × Int × F)) × Int × Int × Int) ((List (Int × Int × F))) (Int × (List Int) × (List Int) × (List F))) :=
 olet (IntKind.i64.wrap (v13 + 1)) fun (x46 : Int) =>
 some (LR.next (L43, v44, v45, x46))
def K0c_b7 (r1 : List Int) (x7 : Int) (L10 : List (Int × Int × F)) (v11 : Int) (v12 : Int) (v13 : Int) : Option (LR ((List (Int × Int × F)) × Int × Int × Int) ((List (Int × Int × F))) (Int × (List Int) × (List Int) × (List F))) :=
 bsel (decide (v13 < x7)) (
  obind3 (K03 9 r1 v11 v12) fun (r14 : Int) (r15 : Int) (r16 : Int) =>
  olet (IntKind.i64.wrap (20 + r14)) fun (x17 : Int) =>
  olet (fint .f32 x17) fun (x18 : F) =>
  olet (fop .quo .f32 x18 (some 1073741824)) fun (x19 : F) =>
  need (apok 24 L10.length 1) <|
  obind (loopM (K0c_s6 r1 v13) ((L10 ++ ([(v13, v13, x19)] : List (Int × Int × F))), r15, r16, 0)) fun z => osum z (fun e => K0c_k6 v13 e.1 e.2.1 e.2.2) (fun r => some (LR.ret r))) (
  some (LR.out L10))
def K0c_s7 (r1 : List Int) (x7 : Int) : ((List (Int × Int × F)) × Int × Int × Int) → Option (LR ((List (Int × Int × F)) × Int × Int × Int) ((List (Int × Int × F))) (Int × (List Int) × (List Int) × (List F))) := fun s => K0c_b7 r1 x7 s.1 s.2.1 s.2.2.1 s.2.2.2
def K0c_k7 (x7 : Int) (L49 : List (Int × Int × F)) : Option (Int × (List Int) × (List Int) × (List F)) :=
 obind5 (K0b x7 L49) fun (r50 : Int) (r51 : Bool) (r52 : List Int) (r53 : List Int) (r54 : List F) =>
 some (r50, r52, r53, r54)
def K0c (a0 : List Int) : Option (Int × (List Int) × (List Int) × (List F)) :=
 obind3 (K01 a0) fun (r1 : List Int) (r2 : Int) (r3 : Int) =>
 obind3 (K03 8 r1 r2 r3) fun (r4 : Int) (r5 : Int) (r6 : Int) =>
 olet (IntKind.i64.wrap (1 + r4)) fun (x7 : Int) =>
 obind (loopM (K0c_s7 r1 x7) (([] : List (Int × Int × F)), r5, r6, 0)) fun z => osum z (fun e => K0c_k7 x7 e) (fun r => some r)
abbrev z00r : Ob := ⟨1, some [i64 0, nilsl, nilsl, nilsl]⟩
abbrev z00s (r50 : Int) (r52 : List Int) (u48 : Nat) (r53 : List Int) (r54 : List F) : List AV := [i64 r50, oref 1 2 0 r52.length, oref 3 (u48 + 1) 0 r53.length, oref 4 1 0 r54.length]
abbrev z00t (r1 : List Int) (r15 : Int) (r16 : Int) : Ob := ⟨1, some [sl r1.length (r1.map (ik .u8)), i64 r15, ik .u64 r16]⟩
theorem K0c_ok (a0 : List Int) (q0 : Int) (q1 : List Int) (q2 : List Int) (q3 : List F) (h : K0c a0 = some (q0, q1, q2, q3)) : Ev Try.prog 19 [sl a0.length (a0.map (ik .u8))] [] (agg [i64 q0, oref 0 0 0 q1.length, oref 1 0 0 q2.length, oref 2 0 0 q3.length]) [oJ 0 q1, oJ 0 q2, oF 0 q3] := by
 refine yE Try.func19 6 127 0 [(0, sl a0.length (a0.map (ik .u8)))] [o0, o0, o0, o0, o0, o0] rfl ?_
 unfold K0c at h
 refine zQ<|ye rfl (optr 0 1 0) ([z00r, o0, o0, o0, o0, o0]) (TOp.alloc_o (g := o0) 0 rfl zer30 zok30 rfl)<|zN ?_
 refine yS ?_
 obtain ⟨r1, r2, r3, hf1, h⟩ := obind3_some h
 refine yW<|ym rfl (sl a0.length (a0.map (ik .u8)))<|ye rfl (optr 1 1 0) ([z00r, ⟨1, some [sl r1.length (r1.map (ik .u8)), i64 r2, ik .u64 r3]⟩, o0, o0, o0, o0]) (TOp.callN (A := [sl a0.length (a0.map (ik .u8))]) (ls := [[sl r1.length (r1.map (ik .u8)), i64 r2, ik .u64 r3]]) [1] (by exact (CallAs.func ent94 rfl rfl)) (lts_cons (lt_sl (fun _ => rfl)) lts_nil) (K01_ok a0 r1 r2 r3 hf1) (and_all (lts_cons (lt_sl (fun _ => rfl)) (lts_cons rfl (lts_cons rfl lts_nil))) rfl) rfl (by decide) (ns_of ⟨⟨_, rfl⟩, trivial⟩))<|ya rfl (optr 1 1 0)<|zN ?_
 refine yS ?_
 obtain ⟨r4, r5, r6, hf2, h⟩ := obind3_some h
 obtain ⟨x7, hx3, h⟩ := oL h
 refine yW<|ym rfl (optr 1 1 0)<|ROps.callO (A := [optr 1 1 0, i64 8]) (args := [optr 0 0 0, i64 8]) (Γc := [⟨0, some [sl r1.length (r1.map (ik .u8)), i64 r2, ik .u64 r3]⟩]) (Γc' := [⟨0, some [sl r1.length (r1.map (ik .u8)), i64 r5, ik .u64 r6]⟩]) (r' := i64 r4) (Γ' := [z00r, ⟨1, some [sl r1.length (r1.map (ik .u8)), i64 r5, ik .u64 r6]⟩, o0, o0, o0, o0]) [(1, 1)] [] rfl (CallAs.func ent95 rfl rfl) rfl rfl (SelOk.of (ndB_ok rfl) (SelL.cells0 rfl (by simp [ren, rens, sigma, rens_f32, rens_f64, rens_i64, rens_ik, rens_str, rens_cp, rens_enF]) (lts_cons (lt_slk (fun _ => rfl)) (lts_cons rfl (lts_cons rfl lts_nil))) trivial)) (live_of ⟨⟨_, _, rfl⟩, trivial⟩) (by simp [ren, rens, sigma, rens_f32, rens_f64, rens_i64, rens_ik, rens_str, rens_cp, rens_enF]) rfl (K03_ok 8 r1 r2 r3 r4 r5 r6 hf2) rfl (news_of trivial) (ndB_ok rfl) (by simp [ren, rens, sigma]) (by simp [backOb, sigma, ren, rens, rens_f32, rens_f64, rens_i64, rens_ik, rens_str, rens_cp, rens_enF] <;> omega)<|yl rfl (i64 x7) (LOp.eqr (LOp.add rfl rfl rfl) (congrArg (ik .i64) hx3))<|ya rfl (i64 x7)<|zN ?_
 refine zQ<|ye rfl (oref 2 1 2 0) ([z00r, ⟨1, some [sl r1.length (r1.map (ik .u8)), i64 r5, ik .u64 r6]⟩, ⟨1, some (([] : List (Int × Int × F)).flatMap enF)⟩, o0, o0, o0]) (TOp.buildSlice_w (g := o0) (k := 2) (zc := [i64 0, i64 0, f32 (some 0)]) (qs := []) 2 rfl und43 siz112 zer112 rfl zc_enF rfl rfl trivial rfl)<|ya rfl (oref 2 1 2 0)<|zN ?_
 refine yS<|zQ<|ya rfl (i64 0)<|zN ?_
 obtain ⟨z8, hz_8, h⟩ := oS h
 refine RunC.cutN (fun τ Γ => ∃ (L49 : List (Int × Int × F)) (u47 : Nat) (u48 : Nat), WeakLe τ [(2, optr 0 1 0), (4, i64 x7), (5, oref 2 u47 2 L49.length)] ∧ DeadLe Γ [z00r, ⟨1, none⟩, ⟨u47, some (L49.flatMap enF)⟩, ⟨u48, none⟩, o0, o0] ∧ z8 = .inl L49) ?_ ?_
 ·refine RunC.block (RunC.loop (RunL.loopM (x := z8) (K0c_s7 r1 x7) (fun (s : (List (Int × Int × F)) × Int × Int × Int) τ Γ => ∃ (u8 : Nat) (u9 : Nat), WeakLe τ [(2, optr 0 1 0), (3, optr 1 1 0), (4, i64 x7), (5, oref 2 u8 2 s.1.length), (6, i64 s.2.2.2)] ∧ DeadLe Γ [z00r, ⟨1, some [sl r1.length (r1.map (ik .u8)), i64 s.2.1, ik .u64 s.2.2.1]⟩, ⟨u8, some (s.1.flatMap enF)⟩, ⟨u9, none⟩, o0, o0]) ?_ _ _ _ hz_8 ⟨1, 0, ⟨aR, aR, aR, aR, aR, trivial⟩, ⟨dR, dR, dR, dL, dR, dR, trivial⟩⟩))
  rintro ⟨L10, v11, v12, v13⟩ τ8 Γ8 y8_ ⟨u8, u9, hw8, hd8⟩ h8_ ho8 hr8
  refine RunC.wl (τ' := [(2, optr 0 1 0), (3, optr 1 1 0), (4, i64 x7), (5, oref 2 u8 2 L10.length), (6, i64 v13)]) (Γ' := [z00r, ⟨1, some [sl r1.length (r1.map (ik .u8)), i64 v11, ik .u64 v12]⟩, ⟨u8, some (L10.flatMap enF)⟩, ⟨u9, none⟩, o0, o0]) hw8 hd8 ?_
  replace h8_ : K0c_b7 r1 x7 L10 v11 v12 v13 = some y8_ := h8_
  unfold K0c_b7 at h8_
  refine yS<|yS ?_
  rcases oB h8_ with ⟨hc4, h8_⟩ | ⟨hc4, h8_⟩
  ·refine yW<|ym rfl (i64 v13)<|ym rfl (i64 x7)<|yl rfl (b true) (LOp.eqb (LOp.lss rfl rfl rfl) hc4)<|zN ?_
   refine yT<|RunC.skip<|yS<|RunC.block<|yS ?_
   obtain ⟨r14, r15, r16, hf5, h8_⟩ := obind3_some h8_
   obtain ⟨x17, hx6, h8_⟩ := oL h8_
   obtain ⟨x18, hx7, h8_⟩ := oL h8_
   obtain ⟨x19, hx8, h8_⟩ := oL h8_
   obtain ⟨hm9, h8_⟩ := need_some h8_
   refine yW<|ym rfl (oref 2 u8 2 L10.length)<|ym rfl (i64 v13)<|ym rfl (i64 v13)<|ym rfl (optr 1 1 0)<|ROps.callO (A := [optr 1 1 0, i64 9]) (args := [optr 0 0 0, i64 9]) (Γc := [⟨0, some [sl r1.length (r1.map (ik .u8)), i64 v11, ik .u64 v12]⟩]) (Γc' := [⟨0, some [sl r1.length (r1.map (ik .u8)), i64 r15, ik .u64 r16]⟩]) (r' := i64 r14) (Γ' := [z00r, (z00t r1 r15 r16), ⟨u8, some (L10.flatMap enF)⟩, ⟨u9, none⟩, o0, o0]) [(1, 1)] [] rfl (CallAs.func ent95 rfl rfl) rfl rfl (SelOk.of (ndB_ok rfl) (SelL.cells0 rfl (by simp [ren, rens, sigma, rens_f32, rens_f64, rens_i64, rens_ik, rens_str, rens_cp, rens_enF]) (lts_cons (lt_slk (fun _ => rfl)) (lts_cons rfl (lts_cons rfl lts_nil))) trivial)) (live_of ⟨⟨_, _, rfl⟩, trivial⟩) (by simp [ren, rens, sigma, rens_f32, rens_f64, rens_i64, rens_ik, rens_str, rens_cp, rens_enF]) rfl (K03_ok 9 r1 v11 v12 r14 r15 r16 hf5) rfl (news_of trivial) (ndB_ok rfl) (by simp [ren, rens, sigma]) (by simp [backOb, sigma, ren, rens, rens_f32, rens_f64, rens_i64, rens_ik, rens_str, rens_cp, rens_enF] <;> omega)<|yl rfl (i64 x17) (LOp.eqr (LOp.add rfl rfl rfl) (congrArg (ik .i64) hx6))<|yl rfl (f32 x18) (LOp.eqr (LOp.i2f (src := 2) (dst := 26) ⟨_, pun2⟩ pun26 rfl rfl) (congrArg (f .f32) hx7))<|yd rfl (f32 x19) (TOp.eqr (TOp.fop (.inr (.inr (.inr rfl))) rfl (OpF.tmp rfl) (OpF.const rfl (by kernel_rfl) (by kernel_rfl))) (congrArg (f .f32) hx8))<|yl rfl (agg [i64 v13, i64 v13, f32 x19]) (LOp.build (qs := [(0, [i64 v13]), (1, [i64 v13]), (2, [f32 x19])]) zer112 zok112 und112 plc112 rfl ⟨rfl, ⟨_, ALe.refl _, rfl⟩, ⟨rfl, ⟨_, ALe.refl _, rfl⟩, ⟨rfl, ⟨_, ALe.refl _, rfl⟩, trivial⟩⟩⟩ rfl)<|ye rfl (oref 3 (u9 + 1) 2 1) ([z00r, (z00t r1 r15 r16), ⟨u8, some (L10.flatMap enF)⟩, ⟨(u9 + 1), some (([(v13, v13, x19)] : List (Int × Int × F)).flatMap enF)⟩, o0, o0]) (TOp.buildSlice_w (g := ⟨u9, none⟩) (k := 2) (zc := [i64 0, i64 0, f32 (some 0)]) (qs := [(0, [i64 v13, i64 v13, f32 x19])]) 3 rfl und43 siz112 zer112 rfl zc_enF rfl rfl ⟨rfl, ⟨_, ALe.refl _, rfl⟩, trivial⟩ rfl)<|ROps.appW (f := enF) (xs := L10) (ys := ([(v13, v13, x19)] : List (Int × Int × F))) (k := 2) (Γ' := [z00r, (z00t r1 r15 r16), ⟨(u8 + 1), some ((L10 ++ ([(v13, v13, x19)] : List (Int × Int × F))).flatMap enF)⟩, ⟨(u9 + 1), some (([(v13, v13, x19)] : List (Int × Int × F)).flatMap enF)⟩, o0, o0]) (fun _ => rfl) rfl pun43 inf112 rfl rfl rfl rfl rfl rfl rfl rfl rfl rfl rfl rfl rfl (fun _ => rfl) (ap_by hm9) (ap_mx hm9) rfl<|ya rfl (oref 2 (u8 + 1) 2 (L10.length + 1))<|zN ?_
   refine RunC.wl (τ' := [(2, optr 0 1 0), (3, optr 1 1 0), (4, i64 x7), (5, oref 2 (u8 + 1) 2 (L10.length + 1)), (6, i64 v13)]) (Γ' := [z00r, (z00t r1 r15 r16), ⟨(u8 + 1), some ((L10 ++ ([(v13, v13, x19)] : List (Int × Int × F))).flatMap enF)⟩, ⟨(u9 + 1), none⟩, o0, o0]) ⟨aR, aR, aR, aR, aR, trivial⟩ ⟨dR, dR, dR, dL, dR, dR, trivial⟩<|zQ<|ya rfl (i64 0)<|zN ?_
   obtain ⟨z9, hz_9, h8_⟩ := oS h8_
   refine RunC.cutN (fun τ Γ => ∃ (L43 : List (Int × Int × F)) (v44 : Int) (v45 : Int) (u41 : Nat) (u42 : Nat), WeakLe τ [(2, optr 0 1 0), (3, optr 1 1 0), (4, i64 x7), (5, oref 2 u41 2 L43.length), (6, i64 v13)] ∧ DeadLe Γ [z00r, ⟨1, some [sl r1.length (r1.map (ik .u8)), i64 v44, ik .u64 v45]⟩, ⟨u41, some (L43.flatMap enF)⟩, ⟨u42, none⟩, o0, o0] ∧ z9 = .inl (L43, v44, v45)) ?_ ?_
   ·refine RunC.block (RunC.loop (RunL.loopM (x := z9) (K0c_s6 r1 v13) (fun (s : (List (Int × Int × F)) × Int × Int × Int) τ Γ => ∃ (u20 : Nat) (u21 : Nat), WeakLe τ [(2, optr 0 1 0), (3, optr 1 1 0), (4, i64 x7), (5, oref 2 u20 2 s.1.length), (6, i64 v13), (7, i64 s.2.2.2)] ∧ DeadLe Γ [z00r, ⟨1, some [sl r1.length (r1.map (ik .u8)), i64 s.2.1, ik .u64 s.2.2.1]⟩, ⟨u20, some (s.1.flatMap enF)⟩, ⟨u21, none⟩, o0, o0]) ?_ _ _ _ hz_9 ⟨(u8 + 1), (u9 + 1), ⟨aR, aR, aR, (ALe.eq (by rw [(app_len rfl rfl)] <;> rfl)), aR, aR, trivial⟩, ⟨dR, dR, dR, dL, dR, dR, trivial⟩⟩))
    rintro ⟨L22, v23, v24, v25⟩ τ9 Γ9 y9_ ⟨u20, u21, hw9, hd9⟩ h9_ ho9 hr9
    refine RunC.wl (τ' := [(2, optr 0 1 0), (3, optr 1 1 0), (4, i64 x7), (5, oref 2 u20 2 L22.length), (6, i64 v13), (7, i64 v25)]) (Γ' := [z00r, ⟨1, some [sl r1.length (r1.map (ik .u8)), i64 v23, ik .u64 v24]⟩, ⟨u20, some (L22.flatMap enF)⟩, ⟨u21, none⟩, o0, o0]) hw9 hd9 ?_
    replace h9_ : K0c_b6 r1 v13 L22 v23 v24 v25 = some y9_ := h9_
    unfold K0c_b6 at h9_
    refine yS<|yS ?_
    rcases oB h9_ with ⟨hc10, h9_⟩ | ⟨hc10, h9_⟩
    ·refine yW<|ym rfl (i64 v25)<|ym rfl (i64 v13)<|yl rfl (b true) (LOp.eqb (LOp.lss rfl rfl rfl) hc10)<|zN ?_
     refine yT<|RunC.skip<|yS<|RunC.cutN (fun τ Γ => ∃ (L37 : List (Int × Int × F)) (v38 : Int) (v39 : Int) (u35 : Nat) (u36 : Nat), WeakLe τ [(2, optr 0 1 0), (3, optr 1 1 0), (4, i64 x7), (5, oref 2 u35 2 L37.length), (6, i64 v13), (7, i64 v25)] ∧ DeadLe Γ [z00r, ⟨1, some [sl r1.length (r1.map (ik .u8)), i64 v38, ik .u64 v39]⟩, ⟨u35, some (L37.flatMap enF)⟩, ⟨u36, none⟩, o0, o0] ∧ K0c_k5 v25 L37 v38 v39 = some y9_) ?_ ?_
     ·refine RunC.block<|yS ?_
      obtain ⟨r26, r27, r28, hf11, h9_⟩ := obind3_some h9_
      refine yW<|ym rfl (optr 1 1 0)<|ROps.callO (A := [optr 1 1 0, i64 3]) (args := [optr 0 0 0, i64 3]) (Γc := [⟨0, some [sl r1.length (r1.map (ik .u8)), i64 v23, ik .u64 v24]⟩]) (Γc' := [⟨0, some [sl r1.length (r1.map (ik .u8)), i64 r27, ik .u64 r28]⟩]) (r' := b r26) (Γ' := [z00r, ⟨1, some [sl r1.length (r1.map (ik .u8)), i64 r27, ik .u64 r28]⟩, ⟨u20, some (L22.flatMap enF)⟩, ⟨u21, none⟩, o0, o0]) [(1, 1)] [] rfl (CallAs.func ent96 rfl rfl) rfl rfl (SelOk.of (ndB_ok rfl) (SelL.cells0 rfl (by simp [ren, rens, sigma, rens_f32, rens_f64, rens_i64, rens_ik, rens_str, rens_cp, rens_enF]) (lts_cons (lt_slk (fun _ => rfl)) (lts_cons rfl (lts_cons rfl lts_nil))) trivial)) (live_of ⟨⟨_, _, rfl⟩, trivial⟩) (by simp [ren, rens, sigma, rens_f32, rens_f64, rens_i64, rens_ik, rens_str, rens_cp, rens_enF]) rfl (K04_ok 3 r1 v23 v24 r26 r27 r28 hf11) rfl (news_of trivial) (ndB_ok rfl) (by simp [ren, rens, sigma]) (by simp [backOb, sigma, ren, rens, rens_f32, rens_f64, rens_i64, rens_ik, rens_str, rens_cp, rens_enF] <;> omega)<|zN ?_
      rcases oB h9_ with ⟨hc12, h9_⟩ | ⟨hc12, h9_⟩
      ·refine RunC.cond_true rfl hc12<|yS ?_
       obtain ⟨r29, r30, r31, hf13, h9_⟩ := obind3_some h9_
       obtain ⟨x32, hx14, h9_⟩ := oL h9_
       obtain ⟨x33, hx15, h9_⟩ := oL h9_
       obtain ⟨x34, hx16, h9_⟩ := oL h9_
       refine yW<|ym rfl (optr 1 1 0)<|ROps.callO (A := [optr 1 1 0, i64 9]) (args := [optr 0 0 0, i64 9]) (Γc := [⟨0, some [sl r1.length (r1.map (ik .u8)), i64 r27, ik .u64 r28]⟩]) (Γc' := [⟨0, some [sl r1.length (r1.map (ik .u8)), i64 r30, ik .u64 r31]⟩]) (r' := i64 r29) (Γ' := [z00r, ⟨1, some [sl r1.length (r1.map (ik .u8)), i64 r30, ik .u64 r31]⟩, ⟨u20, some (L22.flatMap enF)⟩, ⟨u21, none⟩, o0, o0]) [(1, 1)] [] rfl (CallAs.func ent95 rfl rfl) rfl rfl (SelOk.of (ndB_ok rfl) (SelL.cells0 rfl (by simp [ren, rens, sigma, rens_f32, rens_f64, rens_i64, rens_ik, rens_str, rens_cp, rens_enF]) (lts_cons (lt_slk (fun _ => rfl)) (lts_cons rfl (lts_cons rfl lts_nil))) trivial)) (live_of ⟨⟨_, _, rfl⟩, trivial⟩) (by simp [ren, rens, sigma, rens_f32, rens_f64, rens_i64, rens_ik, rens_str, rens_cp, rens_enF]) rfl (K03_ok 9 r1 r27 r28 r29 r30 r31 hf13) rfl (news_of trivial) (ndB_ok rfl) (by simp [ren, rens, sigma]) (by simp [backOb, sigma, ren, rens, rens_f32, rens_f64, rens_i64, rens_ik, rens_str, rens_cp, rens_enF] <;> omega)<|yl rfl (i64 x32) (LOp.eqr (LOp.sub rfl rfl rfl) (congrArg (ik .i64) hx14))<|yl rfl (f32 x33) (LOp.eqr (LOp.i2f (src := 2) (dst := 26) ⟨_, pun2⟩ pun26 rfl rfl) (congrArg (f .f32) hx15))<|yd rfl (f32 x34) (TOp.eqr (TOp.fop (.inr (.inr (.inr rfl))) rfl (OpF.tmp rfl) (OpF.const rfl (by kernel_rfl) (by kernel_rfl))) (congrArg (f .f32) hx16))<|ya rfl (f32 x34)<|zN ?_
       obtain ⟨hm17, h9_⟩ := need_some h9_
       refine yW<|ym rfl (oref 2 u20 2 L22.length)<|ym rfl (i64 v13)<|ym rfl (i64 v25)<|ym rfl (f32 x34)<|yl rfl (agg [i64 v13, i64 v25, f32 x34]) (LOp.build (qs := [(0, [i64 v13]), (1, [i64 v25]), (2, [f32 x34])]) zer112 zok112 und112 plc112 rfl ⟨rfl, ⟨_, ALe.refl _, rfl⟩, ⟨rfl, ⟨_, ALe.refl _, rfl⟩, ⟨rfl, ⟨_, ALe.refl _, rfl⟩, trivial⟩⟩⟩ rfl)<|ym rfl (i64 v25)<|ym rfl (i64 v13)<|ym rfl (f32 x34)<|yl rfl (agg [i64 v25, i64 v13, f32 x34]) (LOp.build (qs := [(0, [i64 v25]), (1, [i64 v13]), (2, [f32 x34])]) zer112 zok112 und112 plc112 rfl ⟨rfl, ⟨_, ALe.refl _, rfl⟩, ⟨rfl, ⟨_, ALe.refl _, rfl⟩, ⟨rfl, ⟨_, ALe.refl _, rfl⟩, trivial⟩⟩⟩ rfl)<|ye rfl (oref 3 (u21 + 1) 2 2) ([z00r, ⟨1, some [sl r1.length (r1.map (ik .u8)), i64 r30, ik .u64 r31]⟩, ⟨u20, some (L22.flatMap enF)⟩, ⟨(u21 + 1), some (([(v13, v25, x34), (v25, v13, x34)] : List (Int × Int × F)).flatMap enF)⟩, o0, o0]) (TOp.buildSlice_w (g := ⟨u21, none⟩) (k := 2) (zc := [i64 0, i64 0, f32 (some 0)]) (qs := [(0, [i64 v13, i64 v25, f32 x34]), (1, [i64 v25, i64 v13, f32 x34])]) 3 rfl und43 siz112 zer112 rfl zc_enF rfl rfl ⟨rfl, ⟨_, ALe.refl _, rfl⟩, ⟨rfl, ⟨_, ALe.refl _, rfl⟩, trivial⟩⟩ rfl)<|ROps.appW (f := enF) (xs := L22) (ys := ([(v13, v25, x34), (v25, v13, x34)] : List (Int × Int × F))) (k := 2) (Γ' := [z00r, ⟨1, some [sl r1.length (r1.map (ik .u8)), i64 r30, ik .u64 r31]⟩, ⟨(u20 + 1), some ((L22 ++ ([(v13, v25, x34), (v25, v13, x34)] : List (Int × Int × F))).flatMap enF)⟩, ⟨(u21 + 1), some (([(v13, v25, x34), (v25, v13, x34)] : List (Int × Int × F)).flatMap enF)⟩, o0, o0]) (fun _ => rfl) rfl pun43 inf112 rfl rfl rfl rfl rfl rfl rfl rfl rfl rfl rfl rfl rfl (fun _ => rfl) (ap_by hm17) (ap_mx hm17) rfl<|ya rfl (oref 2 (u20 + 1) 2 (L22.length + 2))<|zN ?_
       exact ⟨(L22 ++ ([(v13, v25, x34), (v25, v13, x34)] : List (Int × Int × F))), r30, r31, (u20 + 1), (u21 + 1), ⟨aR, aR, aR, (ALe.eq (by rw [(app_len rfl rfl)] <;> rfl)), aR, aR, trivial⟩, ⟨dR, dR, dR, dL, dR, dR, trivial⟩, h9_⟩
      ·refine RunC.cond_false rfl hc12<|RunC.skip ?_
       exact ⟨L22, r27, r28, u20, u21, ⟨aR, aR, aR, aR, aR, aR, trivial⟩, ⟨dR, dR, dR, dL, dR, dR, trivial⟩, h9_⟩
     ·rintro τ10 Γ10 ⟨L37, v38, v39, u35, u36, hw10, hd10, h9_⟩
      refine RunC.wl hw10 hd10 ?_
      unfold K0c_k5 at h9_
      obtain ⟨x40, hx18, h9_⟩ := oL h9_
      refine yW<|ym rfl (i64 v25)<|yl rfl (i64 x40) (LOp.eqr (LOp.add rfl rfl rfl) (congrArg (ik .i64) hx18))<|ya rfl (i64 x40)<|zN ?_
      cases oI h9_
      exact ⟨_, rfl, u35, u36, ⟨aR, aR, aR, aR, aR, aR, trivial⟩, ⟨dR, dR, dR, dL, dR, dR, trivial⟩⟩
    ·refine yW<|ym rfl (i64 v25)<|ym rfl (i64 v13)<|yl rfl (b false) (LOp.eqb (LOp.lss rfl rfl rfl) hc10)<|zN ?_
     refine yF<|RunC.exit ?_
     cases oI h9_
     have hx := ho9 _ rfl
     exact ⟨L22, v23, v24, u20, u21, ⟨aR, aR, aR, aR, aR, trivial⟩, ⟨dR, dR, dR, dL, dR, dR, trivial⟩, hx⟩
   ·rintro τ11 Γ11 ⟨L43, v44, v45, u41, u42, hw11, hd11, rfl⟩
    refine RunC.wl hw11 hd11 ?_
    replace h8_ : K0c_k6 v13 L43 v44 v45 = some y8_ := h8_
    unfold K0c_k6 at h8_
    obtain ⟨x46, hx19, h8_⟩ := oL h8_
    refine yW<|ym rfl (i64 v13)<|yl rfl (i64 x46) (LOp.eqr (LOp.add rfl rfl rfl) (congrArg (ik .i64) hx19))<|ya rfl (i64 x46)<|zN ?_
    cases oI h8_
    exact ⟨_, rfl, u41, u42, ⟨aR, aR, aR, aR, aR, trivial⟩, ⟨dR, dR, dR, dL, dR, dR, trivial⟩⟩
  ·refine yW<|ym rfl (i64 v13)<|ym rfl (i64 x7)<|yl rfl (b false) (LOp.eqb (LOp.lss rfl rfl rfl) hc4)<|zN ?_
   refine yF<|RunC.exit ?_
   cases oI h8_
   have hx := ho8 _ rfl
   exact ⟨L10, u8, u9, ⟨aR, aR, aR, trivial⟩, ⟨dR, dL, dR, dL, dR, dR, trivial⟩, hx⟩
 ·rintro τ12 Γ12 ⟨L49, u47, u48, hw12, hd12, rfl⟩
  refine RunC.wl hw12 hd12 ?_
  replace h : K0c_k7 x7 L49 = some (q0, q1, q2, q3) := h
  unfold K0c_k7 at h
  refine yS ?_
  obtain ⟨r50, r51, r52, r53, r54, hf20, h⟩ := obind5_some h
  refine yW<|ym rfl (i64 x7)<|ym rfl (oref 2 u47 2 L49.length)<|ye rfl (tup [agg (z00s r50 r52 u48 r53 r54), b r51]) ([z00r, oJ 2 r52, ⟨u47, some (L49.flatMap enF)⟩, oJ (u48 + 1) r53, oF 1 r54, o0]) (TOp.eqr (TOp.callBN (ls := [(r52.map i64), (r53.map i64), (r54.map f32)]) [1, 3, 4] (CallAs.func ent20 rfl rfl) (bP (Bors.cons (Bor.ownW (f := enF) (fun _ => (lts_cons rfl (lts_cons rfl (lts_cons rfl lts_nil)))) rfl rfl) bN)) rfl (K0b_ok x7 L49 r50 r51 r52 r53 r54 hf20) (and_all (lts0_map (f := i64) (fun _ => rfl) _) (and_all (lts0_map (f := i64) (fun _ => rfl) _) (and_all (lts0_map (f := f32) (fun _ => rfl) _) rfl))) (and_all (noss_map (f := i64) (fun _ => rfl) _) (and_all (noss_map (f := i64) (fun _ => rfl) _) (and_all (noss_map (f := f32) (fun _ => rfl) _) rfl))) rfl (by decide) (ns_of ⟨⟨_, rfl⟩, ⟨_, rfl⟩, ⟨_, rfl⟩, trivial⟩)) (by simp [ren, rens, sigma, newNames]))<|ym rfl (tup [agg (z00s r50 r52 u48 r53 r54), b r51])<|yl rfl (agg (z00s r50 r52 u48 r53 r54)) n3<|yl rfl (b r51) n3<|ye rfl (optr 5 1 0) ([z00r, oJ 2 r52, ⟨u47, some (L49.flatMap enF)⟩, oJ (u48 + 1) r53, oF 1 r54, z00r]) (TOp.alloc_o (g := o0) 5 rfl zer30 zok30 rfl)<|ys (agg (z00s r50 r52 u48 r53 r54)) (z00s r50 r52 u48 r53 r54) ([z00r, oJ 2 r52, ⟨u47, some (L49.flatMap enF)⟩, oJ (u48 + 1) r53, oF 1 r54, ⟨1, some (z00s r50 r52 u48 r53 r54)⟩]) siz30<|ya rfl (b r51)<|zN ?_
  refine RunC.wl (τ' := [(2, optr 0 1 0), (9, optr 5 1 0)]) (Γ' := [z00r, oJ 2 r52, ⟨u47, none⟩, oJ (u48 + 1) r53, oF 1 r54, ⟨1, some (z00s r50 r52 u48 r53 r54)⟩]) ⟨aR, aR, trivial⟩ ⟨dR, dR, dL, dR, dR, dR, trivial⟩<|zQ<|yd rfl (agg (z00s r50 r52 u48 r53 r54)) (yA agg30 siz30)<|ys (agg (z00s r50 r52 u48 r53 r54)) (z00s r50 r52 u48 r53 r54) ([⟨1, some (z00s r50 r52 u48 r53 r54)⟩, oJ 2 r52, ⟨u47, none⟩, oJ (u48 + 1) r53, oF 1 r54, ⟨1, some (z00s r50 r52 u48 r53 r54)⟩]) siz30<|zN ?_
  refine RunC.ret ?_
  have hq := oI h
  obtain ⟨hq0, hq⟩ := Prod.mk.inj hq
  obtain ⟨hq1, hq⟩ := Prod.mk.inj hq
  obtain ⟨hq2, hq⟩ := Prod.mk.inj hq
  subst q0
  subst q1
  subst q2
  subst q3
  exact bodyQ.mk (r' := agg (z00s r50 r52 u48 r53 r54)) [(1, 2), (3, (u48 + 1)), (4, 1)] (.inr rfl) rfl (show List.Nodup [1, 3, 4] from by decide) (by simp [ren, rens, sigma]) rfl (Res.one rfl (RV.cell agg30 siz30 rfl rfl rfl rfl)) (SelL.arr0 (f := i64) (fun _ => rfl) rfl (SelL.arr0 (f := i64) (fun _ => rfl) rfl (sA rfl trivial)))

def K0d_b1 (r1 : List Int) (L6 : List F) (v7 : Int) (v8 : Int) (v9 : Int) : Option (LR ((List F) × Int × Int × Int) ((List F)) ((List F))) :=
 bsel (decide (0 < v9)) (
  obind3 (K03 33 r1 v7 v8) fun (r10 : Int) (r11 : Int) (r12 : Int) =>
  olet (IntKind.i64.wrap (r10 - 16)) fun (x13 : Int) =>
  olet (fint .f32 x13) fun (x14 : F) =>
  olet (fop .quo .f32 x14 (some 1082130432)) fun (x15 : F) =>
  need (apok 4 L6.length 1) <|
  olet (IntKind.i64.wrap (v9 - 1)) fun (x16 : Int) =>
  some (LR.next ((L6 ++ ([x15] : List F)), r11, r12, x16))) (
  some (LR.out L6))
def K0d_s1 (r1 : List Int) : ((List F) × Int × Int × Int) → Option (LR ((List F) × Int × Int × Int) ((List F)) ((List F))) := fun s => K0d_b1 r1 s.1 s.2.1 s.2.2.1 s.2.2.2
def K0d_k1 (L19 : List F) : Option ((List F)) :=
 some L19
def K0d (a0 : List Int) (a1 : Int) : Option ((List F)) :=
 obind3 (K01 a0) fun (r1 : List Int) (r2 : Int) (r3 : Int) =>
 obind (loopM (K0d_s1 r1) (([] : List F), r2, r3, a1)) fun z => osum z (fun e => K0d_k1 e) (fun r => some r)
abbrev z00u (r1 : List Int) (r11 : Int) (r12 : Int) : Ob := ⟨1, some [sl r1.length (r1.map (ik .u8)), i64 r11, ik .u64 r12]⟩
theorem K0d_ok (a0 : List Int) (a1 : Int) (q0 : List F) (h : K0d a0 a1 = some q0) : Ev Try.prog 25 [sl a0.length (a0.map (ik .u8)), i64 a1] [] (oref 0 0 0 q0.length) [oF 0 q0] := by
 refine yE Try.func25 3 47 0 [(0, sl a0.length (a0.map (ik .u8))), (1, i64 a1)] [o0, o0, o0] rfl ?_
 unfold K0d at h
 refine zQ<|ya rfl nilsl<|zN ?_
 refine yS ?_
 obtain ⟨r1, r2, r3, hf1, h⟩ := obind3_some h
 refine yW<|ym rfl (sl a0.length (a0.map (ik .u8)))<|ye rfl (optr 0 1 0) ([⟨1, some [sl r1.length (r1.map (ik .u8)), i64 r2, ik .u64 r3]⟩, o0, o0]) (TOp.callN (A := [sl a0.length (a0.map (ik .u8))]) (ls := [[sl r1.length (r1.map (ik .u8)), i64 r2, ik .u64 r3]]) [0] (by exact (CallAs.func ent94 rfl rfl)) (lts_cons (lt_sl (fun _ => rfl)) lts_nil) (K01_ok a0 r1 r2 r3 hf1) (and_all (lts_cons (lt_sl (fun _ => rfl)) (lts_cons rfl (lts_cons rfl lts_nil))) rfl) rfl (by decide) (ns_of ⟨⟨_, rfl⟩, trivial⟩))<|ya rfl (optr 0 1 0)<|zN ?_
 refine zQ<|ye rfl (oref 1 1 0 0) ([⟨1, some [sl r1.length (r1.map (ik .u8)), i64 r2, ik .u64 r3]⟩, oF 1 [], o0]) (TOp.buildSlice_o (g := o0) (za := f32 (some 0)) (qs := []) 1 rfl und23 siz26 zer26 rfl zel26 rfl rfl trivial rfl)<|ya rfl (oref 1 1 0 0)<|zN ?_
 refine yS ?_
 obtain ⟨z2, hz_2, h⟩ := oS h
 refine RunC.cutN (fun τ Γ => ∃ (L19 : List F) (u17 : Nat) (u18 : Nat), WeakLe τ [(6, oref 1 u17 0 L19.length)] ∧ DeadLe Γ [⟨1, none⟩, oF u17 L19, ⟨u18, none⟩] ∧ z2 = .inl L19) ?_ ?_
 ·refine RunC.block (RunC.loop (RunL.loopM (x := z2) (K0d_s1 r1) (fun (s : (List F) × Int × Int × Int) τ Γ => ∃ (u4 : Nat) (u5 : Nat), WeakLe τ [(1, i64 s.2.2.2), (5, optr 0 1 0), (6, oref 1 u4 0 s.1.length)] ∧ DeadLe Γ [⟨1, some [sl r1.length (r1.map (ik .u8)), i64 s.2.1, ik .u64 s.2.2.1]⟩, ⟨u4, some (s.1.map f32)⟩, ⟨u5, none⟩]) ?_ _ _ _ hz_2 ⟨1, 0, ⟨aR, aR, aR, trivial⟩, ⟨dR, dR, dL, trivial⟩⟩))
  rintro ⟨L6, v7, v8, v9⟩ τ2 Γ2 y2_ ⟨u4, u5, hw2, hd2⟩ h2_ ho2 hr2
  refine RunC.wl (τ' := [(1, i64 v9), (5, optr 0 1 0), (6, oref 1 u4 0 L6.length)]) (Γ' := [⟨1, some [sl r1.length (r1.map (ik .u8)), i64 v7, ik .u64 v8]⟩, oF u4 L6, ⟨u5, none⟩]) hw2 hd2 ?_
  replace h2_ : K0d_b1 r1 L6 v7 v8 v9 = some y2_ := h2_
  unfold K0d_b1 at h2_
  refine yS<|yS ?_
  rcases oB h2_ with ⟨hc2, h2_⟩ | ⟨hc2, h2_⟩
  ·refine yW<|ym rfl (i64 v9)<|yl rfl (b true) (LOp.eqb (LOp.gtr rfl rfl rfl) hc2)<|zN ?_
   refine yT<|RunC.skip<|yS<|RunC.block ?_
   obtain ⟨r10, r11, r12, hf3, h2_⟩ := obind3_some h2_
   obtain ⟨x13, hx4, h2_⟩ := oL h2_
   obtain ⟨x14, hx5, h2_⟩ := oL h2_
   obtain ⟨x15, hx6, h2_⟩ := oL h2_
   obtain ⟨hm7, h2_⟩ := need_some h2_
   refine yW<|ym rfl (oref 1 u4 0 L6.length)<|ym rfl (optr 0 1 0)<|ROps.callO (A := [optr 0 1 0, i64 33]) (args := [optr 0 0 0, i64 33]) (Γc := [⟨0, some [sl r1.length (r1.map (ik .u8)), i64 v7, ik .u64 v8]⟩]) (Γc' := [⟨0, some [sl r1.length (r1.map (ik .u8)), i64 r11, ik .u64 r12]⟩]) (r' := i64 r10) (Γ' := [(z00u r1 r11 r12), oF u4 L6, ⟨u5, none⟩]) [(0, 1)] [] rfl (CallAs.func ent95 rfl rfl) rfl rfl (SelOk.of (ndB_ok rfl) (SelL.cells0 rfl (by simp [ren, rens, sigma, rens_f32, rens_f64, rens_i64, rens_ik, rens_str, rens_cp]) (lts_cons (lt_slk (fun _ => rfl)) (lts_cons rfl (lts_cons rfl lts_nil))) trivial)) (live_of ⟨⟨_, _, rfl⟩, trivial⟩) (by simp [ren, rens, sigma, rens_f32, rens_f64, rens_i64, rens_ik, rens_str, rens_cp]) rfl (K03_ok 33 r1 v7 v8 r10 r11 r12 hf3) rfl (news_of trivial) (ndB_ok rfl) (by simp [ren, rens, sigma]) (by simp [backOb, sigma, ren, rens, rens_f32, rens_f64, rens_i64, rens_ik, rens_str, rens_cp] <;> omega)<|yl rfl (i64 x13) (LOp.eqr (LOp.sub rfl rfl rfl) (congrArg (ik .i64) hx4))<|yl rfl (f32 x14) (LOp.eqr (LOp.i2f (src := 2) (dst := 26) ⟨_, pun2⟩ pun26 rfl rfl) (congrArg (f .f32) hx5))<|yd rfl (f32 x15) (TOp.eqr (TOp.fop (.inr (.inr (.inr rfl))) rfl (OpF.tmp rfl) (OpF.const rfl (by kernel_rfl) (by kernel_rfl))) (congrArg (f .f32) hx6))<|ye rfl (oref 2 (u5 + 1) 0 1) ([(z00u r1 r11 r12), oF u4 L6, oF (u5 + 1) [x15]]) (TOp.buildSlice_o (g := ⟨u5, none⟩) (za := f32 (some 0)) (qs := [(0, [f32 x15])]) 2 rfl und23 siz26 zer26 rfl zel26 rfl rfl ⟨rfl, ⟨_, ALe.refl _, rfl⟩, trivial⟩ rfl)<|ROps.app (f := f32) (xs := L6) (ys := ([x15] : List F)) (Γ' := [(z00u r1 r11 r12), oF (u4 + 1) (L6 ++ [x15]), oF (u5 + 1) [x15]]) rfl pun23 inf26 rfl rfl rfl rfl rfl rfl rfl rfl rfl (by simp) (ReadAs.own rfl (by simp)) (ones_map (fun _ => rfl)) (ap_by hm7) (ap_mx hm7) rfl<|ya rfl (oref 1 (u4 + 1) 0 (L6.length + 1))<|zN ?_
   refine RunC.wl (τ' := [(1, i64 v9), (5, optr 0 1 0), (6, oref 1 (u4 + 1) 0 (L6.length + 1))]) (Γ' := [(z00u r1 r11 r12), oF (u4 + 1) (L6 ++ [x15]), ⟨(u5 + 1), none⟩]) ⟨aR, aR, aR, trivial⟩ ⟨dR, dR, dL, trivial⟩ ?_
   obtain ⟨x16, hx8, h2_⟩ := oL h2_
   refine yW<|ym rfl (i64 v9)<|yl rfl (i64 x16) (LOp.eqr (LOp.sub rfl rfl rfl) (congrArg (ik .i64) hx8))<|ya rfl (i64 x16)<|zN ?_
   cases oI h2_
   exact ⟨_, rfl, (u4 + 1), (u5 + 1), ⟨aR, aR, (ALe.eq (by rw [(app_len rfl rfl)] <;> rfl)), trivial⟩, ⟨dR, dR, dL, trivial⟩⟩
  ·refine yW<|ym rfl (i64 v9)<|yl rfl (b false) (LOp.eqb (LOp.gtr rfl rfl rfl) hc2)<|zN ?_
   refine yF<|RunC.exit ?_
   cases oI h2_
   have hx := ho2 _ rfl
   exact ⟨L6, u4, u5, ⟨aR, trivial⟩, ⟨dL, dR, dL, trivial⟩, hx⟩
 ·rintro τ3 Γ3 ⟨L19, u17, u18, hw3, hd3, rfl⟩
  refine RunC.wl hw3 hd3 ?_
  replace h : K0d_k1 L19 = some q0 := h
  unfold K0d_k1 at h
  refine zQ<|ym rfl (oref 1 u17 0 L19.length)<|ya rfl (oref 1 u17 0 L19.length)<|zN ?_
  refine RunC.ret ?_
  have hq := oI h
  subst q0
  exact bodyQ.mk (r' := oref 1 u17 0 L19.length) [(1, u17)] (.inr rfl) rfl (ndB_ok rfl) (by simp [ren, rens, sigma]) rfl (Res.one rfl (RV.tmp rfl)) (sA rfl trivial)

def K0e (a0 : List Int) : Option (Int) :=
 some (a0.length : Int)
theorem K0e_ok (a0 : List Int) (q0 : Int) (h : K0e a0 = some q0) : Ev Try.prog 104 [sl a0.length (a0.map i64)] [] (i64 q0) [] := by
 refine yE Try.func104 0 11 0 [(0, sl a0.length (a0.map i64))] [] rfl ?_
 unfold K0e at h
 refine zQ<|ya rfl (i64 0)<|zN ?_
 refine zQ<|ym rfl (sl a0.length (a0.map i64))<|yl rfl (i64 (a0.length : Int)) (LOp.len_sl und22 rfl rfl)<|ya rfl (i64 (a0.length : Int))<|zN ?_
 refine RunC.ret ?_
 have hq := oI h
 subst q0
 exact bR rfl

def K0f (a0 : Int) (a1 : Int) (a2 : Int) : Option (Bool) :=
 bsel (decide (a1 ≤ a0)) (
  some (decide (a0 ≤ a2))) (
  some false)
theorem K0f_ok (a0 : Int) (a1 : Int) (a2 : Int) (q0 : Bool) (h : K0f a0 a1 a2 = some q0) : Ev Try.prog 82 [i64 a0, i64 a1, i64 a2] [] (b q0) [] := by
 refine yE Try.func82 0 31 0 [(0, i64 a0), (1, i64 a1), (2, i64 a2)] [] rfl ?_
 unfold K0f at h
 refine zQ<|ya rfl (b false)<|zN ?_
 refine yS ?_
 rcases oB h with ⟨hc1, h⟩ | ⟨hc1, h⟩
 ·refine yW<|ym rfl (i64 a1)<|ym rfl (i64 a0)<|yl rfl (b true) (LOp.eqb (LOp.leq rfl rfl rfl) hc1)<|ym rfl (b true)<|ym rfl (i64 a0)<|ym rfl (i64 a2)<|yl rfl (b (decide (a0 ≤ a2))) (LOp.leq rfl rfl rfl)<|yl rfl (b (decide (a0 ≤ a2))) yq<|ya rfl (b (decide (a0 ≤ a2)))<|zN ?_
  refine RunC.ret ?_
  have hq := oI h
  subst q0
  exact bR rfl
 ·refine yW<|ym rfl (i64 a1)<|ym rfl (i64 a0)<|yl rfl (b false) (LOp.eqb (LOp.leq rfl rfl rfl) hc1)<|ym rfl (b false)<|yR rfl<|yR rfl<|yR rfl<|yl rfl (b false) yp<|ya rfl (b false)<|zN ?_
  refine RunC.ret ?_
  have hq := oI h
  subst q0
  exact bR rfl

def K0g (a0 : Int) : Option (Bool) :=
 some (!decide (a0 = a0))
theorem K0g_ok (a0 : Int) (q0 : Bool) (h : K0g a0 = some q0) : Ev Try.prog 208 [i64 a0] [] (b q0) [] := by
 refine yE Try.func208 0 13 0 [(0, i64 a0)] [] rfl ?_
 unfold K0g at h
 refine zQ<|ya rfl (b false)<|zN ?_
 refine zQ<|ym rfl (i64 a0)<|ym rfl (i64 a0)<|yl rfl (b (!decide (a0 = a0))) (LOp.neq rfl rfl rfl)<|ya rfl (b (!decide (a0 = a0)))<|zN ?_
 refine RunC.ret ?_
 have hq := oI h
 subst q0
 exact bR rfl

def K0h (a0 : Int) (a1 : Int) : Option (Bool) :=
 obind (K0g a0) fun (r1 : Bool) =>
 bsel r1 (
  obind (K0g a1) fun (r2 : Bool) =>
  bsel r2 (
   some (decide (a0 < a1))) (
   some true)) (
  some (decide (a0 < a1)))
theorem K0h_ok (a0 : Int) (a1 : Int) (q0 : Bool) (h : K0h a0 a1 = some q0) : Ev Try.prog 180 [i64 a0, i64 a1] [] (b q0) [] := by
 refine yE Try.func180 0 35 0 [(0, i64 a0), (1, i64 a1)] [] rfl ?_
 unfold K0h at h
 refine zQ<|ya rfl (b false)<|zN ?_
 refine yS ?_
 obtain ⟨r1, hf1, h⟩ := oS h
 rcases oB h with ⟨hc2, h⟩ | ⟨hc2, h⟩
 ·obtain ⟨r2, hf3, h⟩ := oS h
  rcases oB h with ⟨hc4, h⟩ | ⟨hc4, h⟩
  ·refine yW<|ym rfl (i64 a0)<|yd rfl (b true) (TOp.eqb (yc ent208 rfl rfl bN0 (K0g_ok a0 r1 hf1)) hc2)<|ym rfl (b true)<|ym rfl (i64 a1)<|yd rfl (b true) (TOp.eqb (yc ent208 rfl rfl bN0 (K0g_ok a1 r2 hf3)) hc4)<|yl rfl (b false) n1<|yl rfl (b false) yq<|ym rfl (b false)<|ym rfl (i64 a0)<|ym rfl (i64 a1)<|yl rfl (b (decide (a0 < a1))) (LOp.lss rfl rfl rfl)<|yl rfl (b (decide (a0 < a1))) yp<|ya rfl (b (decide (a0 < a1)))<|zN ?_
   refine RunC.ret ?_
   have hq := oI h
   subst q0
   exact bR rfl
  ·refine yW<|ym rfl (i64 a0)<|yd rfl (b true) (TOp.eqb (yc ent208 rfl rfl bN0 (K0g_ok a0 r1 hf1)) hc2)<|ym rfl (b true)<|ym rfl (i64 a1)<|yd rfl (b false) (TOp.eqb (yc ent208 rfl rfl bN0 (K0g_ok a1 r2 hf3)) hc4)<|yl rfl (b true) n0<|yl rfl (b true) yq<|ym rfl (b true)<|yR rfl<|yR rfl<|yR rfl<|yl rfl (b true) yq<|ya rfl (b true)<|zN ?_
   refine RunC.ret ?_
   have hq := oI h
   subst q0
   exact bR rfl
 ·refine yW<|ym rfl (i64 a0)<|yd rfl (b false) (TOp.eqb (yc ent208 rfl rfl bN0 (K0g_ok a0 r1 hf1)) hc2)<|ym rfl (b false)<|yR rfl<|yR rfl<|yR rfl<|yl rfl (b false) yp<|ym rfl (b false)<|ym rfl (i64 a0)<|ym rfl (i64 a1)<|yl rfl (b (decide (a0 < a1))) (LOp.lss rfl rfl rfl)<|yl rfl (b (decide (a0 < a1))) yp<|ya rfl (b (decide (a0 < a1)))<|zN ?_
  refine RunC.ret ?_
  have hq := oI h
  subst q0
  exact bR rfl

def K0i_b1 (a0 : List Int) (v2 : Int) : Option (LR (Int) (Unit) (Bool)) :=
 bsel (decide (0 < v2)) (
  obind (at? a0 v2) fun (e3 : Int) =>
  olet (IntKind.i64.wrap (v2 - 1)) fun (x4 : Int) =>
  obind (at? a0 x4) fun (e5 : Int) =>
  obind (K0h e3 e5) fun (r6 : Bool) =>
  bsel r6 (
   some (LR.ret false)) (
   olet (IntKind.i64.wrap (v2 - 1)) fun (x7 : Int) =>
   some (LR.next x7))) (
  some (LR.out ()))
def K0i_s1 (a0 : List Int) : (Int) → Option (LR (Int) (Unit) (Bool)) := fun s => K0i_b1 a0 s
def K0i_k1  : Option (Bool) :=
 some true
def K0i (a0 : List Int) : Option (Bool) :=
 olet (IntKind.i64.wrap ((a0.length : Int) - 1)) fun (x1 : Int) =>
 obind (loopM (K0i_s1 a0) x1) fun z => osum z (fun _ => K0i_k1) (fun r => some r)
theorem K0i_ok (a0 : List Int) (q0 : Bool) (h : K0i a0 = some q0) : Ev Try.prog 105 [sl a0.length (a0.map i64)] [] (b q0) [] := by
 refine yE Try.func105 0 43 0 [(0, sl a0.length (a0.map i64))] [] rfl ?_
 unfold K0i at h
 refine zQ<|ya rfl (b false)<|zN ?_
 refine yS<|yS ?_
 obtain ⟨x1, hx1, h⟩ := oL h
 refine yW<|ym rfl (sl a0.length (a0.map i64))<|yl rfl (i64 (a0.length : Int)) (LOp.len_sl und22 rfl rfl)<|yl rfl (i64 x1) (LOp.eqr (LOp.sub rfl rfl rfl) (congrArg (ik .i64) hx1))<|ya rfl (i64 x1)<|zN ?_
 obtain ⟨z2, hz_2, h⟩ := oS h
 refine RunC.cutN (fun τ Γ => WeakLe τ [] ∧ DeadLe Γ [] ∧ z2 = .inl ()) ?_ ?_
 ·refine RunC.block (RunC.loop (RunL.loopM (x := z2) (K0i_s1 a0) (fun (s : Int) τ Γ => WeakLe τ [(0, sl a0.length (a0.map i64)), (3, i64 s)] ∧ DeadLe Γ []) ?_ _ _ _ hz_2 ⟨⟨aR, aR, trivial⟩, trivial⟩))
  rintro v2 τ2 Γ2 y2_ ⟨hw2, hd2⟩ h2_ ho2 hr2
  refine RunC.wl (τ' := [(0, sl a0.length (a0.map i64)), (3, i64 v2)]) (Γ' := []) hw2 hd2 ?_
  replace h2_ : K0i_b1 a0 v2 = some y2_ := h2_
  unfold K0i_b1 at h2_
  refine yS<|yS ?_
  rcases oB h2_ with ⟨hc2, h2_⟩ | ⟨hc2, h2_⟩
  ·refine yW<|ym rfl (i64 v2)<|yl rfl (b true) (LOp.eqb (LOp.gtr rfl rfl rfl) hc2)<|zN ?_
   refine yT<|RunC.skip<|yS<|RunC.block<|yS ?_
   obtain ⟨e3, he3, h2_⟩ := oS h2_
   obtain ⟨x4, hx4, h2_⟩ := oL h2_
   obtain ⟨e5, he5, h2_⟩ := oS h2_
   obtain ⟨r6, hf6, h2_⟩ := oS h2_
   rcases oB h2_ with ⟨hc7, h2_⟩ | ⟨hc7, h2_⟩
   ·refine RunC.region_draw (Γ' := []) 10 mixed 
     (tm rfl (sl a0.length (a0.map i64)) <|
     (tm rfl (i64 v2) <|
     (tl rfl (ptr [i64 e3]) (LOp.le (LOp.ix (f := i64) und22 siz2 rfl rfl rfl rfl he3) ALe.ptr) <|
     (tl rfl (i64 e3) (n2 agg2) <|
     (tm rfl (sl a0.length (a0.map i64)) <|
     (tm rfl (i64 v2) <|
     (tl rfl (i64 x4) (LOp.eqr (LOp.sub rfl rfl rfl) (congrArg (ik .i64) hx4)) <|
     (tl rfl (ptr [i64 e5]) (LOp.le (LOp.ix (f := i64) und22 siz2 rfl rfl rfl rfl he5) ALe.ptr) <|
     (tl rfl (i64 e5) (n2 agg2) <|
     (TR.d (r := b true) (fs := []) rfl rfl (TOp.eqb (yc ent180 rfl rfl (bP bN0) (K0h_ok e3 e5 r6 hf6)) hc7) <|
     TR.nil)))))))))) rfl (by kernel_rfl) rfl fills_nil rfl ?_
    iterate 10 refine ROps.dropS ?_
    refine ROps.drop0<|zN ?_
    refine yT<|zQ<|ya rfl (b false)<|zN ?_
    refine RunC.ret ?_
    cases oI h2_
    have hx3_ := hr2 _ rfl
    subst hx3_
    have hq := oI h
    subst q0
    exact bR rfl
   ·refine RunC.region_draw (Γ' := []) 10 mixed 
     (tm rfl (sl a0.length (a0.map i64)) <|
     (tm rfl (i64 v2) <|
     (tl rfl (ptr [i64 e3]) (LOp.le (LOp.ix (f := i64) und22 siz2 rfl rfl rfl rfl he3) ALe.ptr) <|
     (tl rfl (i64 e3) (n2 agg2) <|
     (tm rfl (sl a0.length (a0.map i64)) <|
     (tm rfl (i64 v2) <|
     (tl rfl (i64 x4) (LOp.eqr (LOp.sub rfl rfl rfl) (congrArg (ik .i64) hx4)) <|
     (tl rfl (ptr [i64 e5]) (LOp.le (LOp.ix (f := i64) und22 siz2 rfl rfl rfl rfl he5) ALe.ptr) <|
     (tl rfl (i64 e5) (n2 agg2) <|
     (TR.d (r := b false) (fs := []) rfl rfl (TOp.eqb (yc ent180 rfl rfl (bP bN0) (K0h_ok e3 e5 r6 hf6)) hc7) <|
     TR.nil)))))))))) rfl (by kernel_rfl) rfl fills_nil rfl ?_
    iterate 10 refine ROps.dropS ?_
    refine ROps.drop0<|zN ?_
    refine yF<|RunC.skip ?_
    obtain ⟨x7, hx8, h2_⟩ := oL h2_
    refine yW<|ym rfl (i64 v2)<|yl rfl (i64 x7) (LOp.eqr (LOp.sub rfl rfl rfl) (congrArg (ik .i64) hx8))<|ya rfl (i64 x7)<|zN ?_
    cases oI h2_
    exact ⟨_, rfl, ⟨aR, aR, trivial⟩, trivial⟩
  ·refine yW<|ym rfl (i64 v2)<|yl rfl (b false) (LOp.eqb (LOp.gtr rfl rfl rfl) hc2)<|zN ?_
   refine yF<|RunC.exit ?_
   cases oI h2_
   have hx := ho2 _ rfl
   exact ⟨trivial, trivial, hx⟩
 ·rintro τ4 Γ4 ⟨hw4, hd4, rfl⟩
  refine RunC.wl hw4 hd4 ?_
  replace h : K0i_k1 = some q0 := h
  unfold K0i_k1 at h
  refine zQ<|ya rfl (b true)<|zN ?_
  refine RunC.ret ?_
  have hq := oI h
  subst q0
  exact bR rfl

def K0j (a0 : Int) (a1 : Int) (a2 : Int) : Option (Bool) :=
 obind (K0f a0 a1 a2) fun (r1 : Bool) =>
 some (!r1)
theorem K0j_ok (a0 : Int) (a1 : Int) (a2 : Int) (q0 : Bool) (h : K0j a0 a1 a2 = some q0) : Ev Try.prog 182 [i64 a0, ptr [i64 a1], ptr [i64 a2]] [] (b q0) [] := by
 refine yE Try.func182 0 21 0 ([(0, i64 a0), (1, ptr [i64 a1]), (2, ptr [i64 a2])]) [] rfl ?_
 unfold K0j at h
 refine zQ<|ya rfl (b false)<|zN ?_
 refine yS ?_
 obtain ⟨r1, hf1, h⟩ := oS h
 refine yW<|ym rfl (i64 a0)<|yl rfl (i64 a1) (n2 agg2)<|yl rfl (i64 a2) (n2 agg2)<|yd rfl (b r1) (yc ent82 rfl rfl (bP (bP bN0)) (K0f_ok a0 a1 a2 r1 hf1))<|yl rfl (b (!r1)) (LOp.not rfl rfl)<|ya rfl (b (!r1))<|zN ?_
 refine RunC.ret ?_
 have hq := oI h
 subst q0
 exact bR rfl

def K0k_b1 (a0 : List Int) (a1 : Int) (a2 : Int) (v1 : Int) : Option (LR (Int) (Unit) (Int)) :=
 bsel (decide (v1 < (a0.length : Int))) (
  obind (at? a0 v1) fun (e2 : Int) =>
  obind (K0j e2 a1 a2) fun (r3 : Bool) =>
  bsel r3 (
   some (LR.ret v1)) (
   olet (IntKind.i64.wrap (v1 + 1)) fun (x4 : Int) =>
   some (LR.next x4))) (
  some (LR.out ()))
def K0k_s1 (a0 : List Int) (a1 : Int) (a2 : Int) : (Int) → Option (LR (Int) (Unit) (Int)) := fun s => K0k_b1 a0 a1 a2 s
def K0k_k1  : Option (Int) :=
 some (-1)
def K0k (a0 : List Int) (a1 : Int) (a2 : Int) : Option (Int) :=
 obind (loopM (K0k_s1 a0 a1 a2) 0) fun z => osum z (fun _ => K0k_k1) (fun r => some r)
theorem K0k_ok (a0 : List Int) (a1 : Int) (a2 : Int) (q0 : Int) (h : K0k a0 a1 a2 = some q0) : Ev Try.prog 209 [sl a0.length (a0.map i64), fn (.func 182) [] [ptr [i64 a1], ptr [i64 a2]]] [] (i64 q0) [] := by
 refine yE Try.func209 0 39 0 ([(0, sl a0.length (a0.map i64)), (1, fn (.func 182) [] [ptr [i64 a1], ptr [i64 a2]])]) [] rfl ?_
 unfold K0k at h
 refine zQ<|ya rfl (i64 0)<|zN ?_
 refine yS<|zQ<|ym rfl (sl a0.length (a0.map i64))<|yl rfl (i64 (a0.length : Int)) (LOp.len_sl und22 rfl rfl)<|ym rfl (i64 0)<|zN ?_
 obtain ⟨z2, hz_2, h⟩ := oS h
 refine RunC.cutN (fun τ Γ => WeakLe τ [] ∧ DeadLe Γ [] ∧ z2 = .inl ()) ?_ ?_
 ·refine RunC.block (RunC.loop (RunL.loopM (x := z2) (K0k_s1 a0 a1 a2) (fun (s : Int) τ Γ => WeakLe τ [(0, sl a0.length (a0.map i64)), (1, fn (.func 182) [] [ptr [i64 a1], ptr [i64 a2]]), (7, i64 (a0.length : Int)), (8, i64 s)] ∧ DeadLe Γ []) ?_ _ _ _ hz_2 ⟨⟨aR, aR, aR, aR, trivial⟩, trivial⟩))
  rintro v1 τ2 Γ2 y2_ ⟨hw2, hd2⟩ h2_ ho2 hr2
  refine RunC.wl (τ' := [(0, sl a0.length (a0.map i64)), (1, fn (.func 182) [] [ptr [i64 a1], ptr [i64 a2]]), (7, i64 (a0.length : Int)), (8, i64 v1)]) (Γ' := []) hw2 hd2 ?_
  replace h2_ : K0k_b1 a0 a1 a2 v1 = some y2_ := h2_
  unfold K0k_b1 at h2_
  refine yS ?_
  rcases oB h2_ with ⟨hc1, h2_⟩ | ⟨hc1, h2_⟩
  ·refine yW<|yl rfl (b true) (LOp.eqb (LOp.lss rfl rfl rfl) hc1)<|zN ?_
   refine yS<|yT<|RunC.skip<|yS<|RunC.block<|zQ<|ym rfl (i64 v1)<|ya rfl (i64 v1)<|zN ?_
   refine yS ?_
   obtain ⟨e2, he2, h2_⟩ := oS h2_
   obtain ⟨r3, hf3, h2_⟩ := oS h2_
   rcases oB h2_ with ⟨hc4, h2_⟩ | ⟨hc4, h2_⟩
   ·refine yW<|ym rfl (fn (.func 182) [] [ptr [i64 a1], ptr [i64 a2]])<|ym rfl (sl a0.length (a0.map i64))<|ym rfl (i64 v1)<|yl rfl (ptr [i64 e2]) (LOp.le (LOp.ix (f := i64) und22 siz2 rfl rfl rfl rfl he2) ALe.ptr)<|yl rfl (i64 e2) (n2 agg2)<|yd rfl (b true) (TOp.eqb (TOp.callB (CallAs.fn ent182 rfl rfl rfl rfl) (bP (Bors.cons (Bor.ptr bN0) (Bors.cons (Bor.ptr bN0) bN))) rfl rfl (K0j_ok e2 a1 a2 r3 hf3)) hc4)<|zN ?_
    refine yT<|zQ<|ym rfl (i64 v1)<|ya rfl (i64 v1)<|zN ?_
    refine RunC.ret ?_
    cases oI h2_
    have hx3_ := hr2 _ rfl
    subst hx3_
    have hq := oI h
    subst q0
    exact bR rfl
   ·refine yW<|ym rfl (fn (.func 182) [] [ptr [i64 a1], ptr [i64 a2]])<|ym rfl (sl a0.length (a0.map i64))<|ym rfl (i64 v1)<|yl rfl (ptr [i64 e2]) (LOp.le (LOp.ix (f := i64) und22 siz2 rfl rfl rfl rfl he2) ALe.ptr)<|yl rfl (i64 e2) (n2 agg2)<|yd rfl (b false) (TOp.eqb (TOp.callB (CallAs.fn ent182 rfl rfl rfl rfl) (bP (Bors.cons (Bor.ptr bN0) (Bors.cons (Bor.ptr bN0) bN))) rfl rfl (K0j_ok e2 a1 a2 r3 hf3)) hc4)<|zN ?_
    refine yF<|RunC.skip ?_
    obtain ⟨x4, hx5, h2_⟩ := oL h2_
    refine yW<|yl rfl (i64 x4) (LOp.eqr (LOp.add rfl rfl rfl) (congrArg (ik .i64) hx5))<|ym rfl (i64 x4)<|zN ?_
    cases oI h2_
    exact ⟨_, rfl, ⟨aR, aR, aR, aR, trivial⟩, trivial⟩
  ·refine yW<|yl rfl (b false) (LOp.eqb (LOp.lss rfl rfl rfl) hc1)<|zN ?_
   refine yS<|yF<|RunC.exit ?_
   cases oI h2_
   have hx := ho2 _ rfl
   exact ⟨trivial, trivial, hx⟩
 ·rintro τ4 Γ4 ⟨hw4, hd4, rfl⟩
  refine RunC.wl hw4 hd4 ?_
  replace h : K0k_k1 = some q0 := h
  unfold K0k_k1 at h
  refine zQ<|ya rfl (i64 (-1))<|zN ?_
  refine RunC.ret ?_
  have hq := oI h
  subst q0
  exact bR rfl

def K0l (a0 : List Int) (a1 : Int) (a2 : Int) : Option (Bool) :=
 obind (K0k a0 a1 a2) fun (r1 : Int) =>
 some (decide (0 ≤ r1))
theorem K0l_ok (a0 : List Int) (a1 : Int) (a2 : Int) (q0 : Bool) (h : K0l a0 a1 a2 = some q0) : Ev Try.prog 181 [sl a0.length (a0.map i64), fn (.func 182) [] [ptr [i64 a1], ptr [i64 a2]]] [] (b q0) [] := by
 refine yE Try.func181 0 19 0 ([(0, sl a0.length (a0.map i64)), (1, fn (.func 182) [] [ptr [i64 a1], ptr [i64 a2]])]) [] rfl ?_
 unfold K0l at h
 refine zQ<|ya rfl (b false)<|zN ?_
 refine yS ?_
 obtain ⟨r1, hf1, h⟩ := oS h
 refine yW<|ym rfl (sl a0.length (a0.map i64))<|ym rfl (fn (.func 182) [] [ptr [i64 a1], ptr [i64 a2]])<|yd rfl (i64 r1) (TOp.callB (CallAs.func ent209 rfl rfl) (bS (Bors.cons (Bor.fn bN (Bors.cons (Bor.ptr bN0) (Bors.cons (Bor.ptr bN0) bN))) bN)) rfl rfl (K0k_ok a0 a1 a2 r1 hf1))<|yl rfl (b (decide (0 ≤ r1))) (LOp.geq rfl rfl rfl)<|ya rfl (b (decide (0 ≤ r1)))<|zN ?_
 refine RunC.ret ?_
 have hq := oI h
 subst q0
 exact bR rfl

def K0m (a0 : List Int) (a1 : Int) (a2 : Int) : Option (Bool) :=
 obind (K0l a0 a1 a2) fun (r1 : Bool) =>
 some (!r1)
theorem K0m_ok (a0 : List Int) (a1 : Int) (a2 : Int) (q0 : Bool) (h : K0m a0 a1 a2 = some q0) : Ev Try.prog 106 [sl a0.length (a0.map i64), i64 a1, i64 a2] [] (b q0) [] := by
 refine yE Try.func106 0 23 0 [(0, sl a0.length (a0.map i64)), (1, i64 a1), (2, i64 a2)] [] rfl ?_
 unfold K0m at h
 refine zQ<|yd rfl (ptr [i64 a1]) (TOp.box_s rfl rfl rfl)<|yd rfl (ptr [i64 a2]) (TOp.box_s rfl rfl rfl)<|ya rfl (b false)<|zN ?_
 refine yS ?_
 obtain ⟨r1, hf1, h⟩ := oS h
 refine yW<|ym rfl (sl a0.length (a0.map i64))<|yl rfl (fn (.func 182) [] [ptr [i64 a1], ptr [i64 a2]]) (LOp.makeFunc rfl rfl)<|yd rfl (b r1) (TOp.callB (CallAs.func ent181 rfl rfl) (bS (Bors.cons (Bor.fn bN (Bors.cons (Bor.ptr bN0) (Bors.cons (Bor.ptr bN0) bN))) bN)) rfl rfl (K0l_ok a0 a1 a2 r1 hf1))<|yl rfl (b (!r1)) (LOp.not rfl rfl)<|ya rfl (b (!r1))<|zN ?_
 refine RunC.ret ?_
 have hq := oI h
 subst q0
 exact bR rfl

def K0n (a0 : F) : Option (Bool) :=
 some (!feq .f64 a0 a0)
theorem K0n_ok (a0 : F) (q0 : Bool) (h : K0n a0 = some q0) : Ev Try.prog 206 [f64 a0] [] (b q0) [] := by
 refine yE Try.func206 0 13 0 [(0, f64 a0)] [] rfl ?_
 unfold K0n at h
 refine zQ<|ya rfl (b false)<|zN ?_
 refine zQ<|ym rfl (f64 a0)<|ym rfl (f64 a0)<|yl rfl (b (!feq .f64 a0 a0)) (LOp.fne rfl (OpF.tmp rfl) (OpF.tmp rfl))<|ya rfl (b (!feq .f64 a0 a0))<|zN ?_
 refine RunC.ret ?_
 have hq := oI h
 subst q0
 exact bR rfl

def K0o (a0 : F) : Option (F) :=
 olet (fabs a0) fun (x1 : F) =>
 some x1
theorem K0o_ok (a0 : F) (q0 : F) (h : K0o a0 = some q0) : Ev Try.prog 213 [f64 a0] [] (f64 q0) [] := by
 refine yE Try.func213 0 15 0 [(0, f64 a0)] [] rfl ?_
 unfold K0o at h
 refine zQ<|yl rfl (f64 (some 0)) (LOp.le (LOp.assign rfl rfl) (ALe.fl (by kernel_rfl) (by kernel_rfl)))<|zN ?_
 refine yS ?_
 obtain ⟨x1, hx1, h⟩ := oL h
 refine yW<|ym rfl (f64 a0)<|yl rfl (bt .f64 .u64 a0) (LOp.fbits ext214 rfl (OpF.tmp rfl))<|yl rfl (bt .f64 .u64 x1) (LOp.eqr (LOp.andNot_bt rfl rfl rfl) (congrArg (bt .f64 .u64) hx1))<|yl rfl (f64 x1) (LOp.ffrom ext215 rfl rfl)<|ya rfl (f64 x1)<|zN ?_
 refine RunC.ret ?_
 have hq := oI h
 subst q0
 exact bR rfl

def K0p_k1 (y3 : F) : Option (Bool) :=
 some (flt .f64 (some 9218868437227405311) y3)
def K0p (a0 : F) (a1 : Int) : Option (Bool) :=
 bsel (decide (a1 = 0)) (
  obind (K0o a0) fun (r1 : F) =>
  K0p_k1 r1) (
  bsel (decide (a1 < 0)) (
   olet (fneg .f64 a0) fun (x2 : F) =>
   K0p_k1 x2) (
   K0p_k1 a0))
theorem K0p_ok (a0 : F) (a1 : Int) (q0 : Bool) (h : K0p a0 a1 = some q0) : Ev Try.prog 207 [f64 a0, i64 a1] [] (b q0) [] := by
 refine yE Try.func207 0 31 0 [(0, f64 a0), (1, i64 a1)] [] rfl ?_
 unfold K0p at h
 refine zQ<|ya rfl (b false)<|zN ?_
 refine yS<|RunC.cutN (fun τ Γ => ∃ (y3 : F), WeakLe τ [(0, f64 y3)] ∧ DeadLe Γ [] ∧ K0p_k1 y3 = some q0) ?_ ?_
 ·refine yS ?_
  rcases oB h with ⟨hc1, h⟩ | ⟨hc1, h⟩
  ·refine yW<|ym rfl (i64 a1)<|yl rfl (b true) (LOp.eqb (LOp.eql rfl rfl rfl) hc1)<|zN ?_
   refine yT ?_
   obtain ⟨r1, hf2, h⟩ := oS h
   refine yW<|ym rfl (f64 a0)<|yd rfl (f64 r1) (yc ent213 rfl rfl bN0 (K0o_ok a0 r1 hf2))<|ya rfl (f64 r1)<|zN ?_
   exact ⟨r1, ⟨aR, trivial⟩, trivial, h⟩
  ·refine yW<|ym rfl (i64 a1)<|yl rfl (b false) (LOp.eqb (LOp.eql rfl rfl rfl) hc1)<|zN ?_
   refine yF<|yS ?_
   rcases oB h with ⟨hc3, h⟩ | ⟨hc3, h⟩
   ·refine yW<|ym rfl (i64 a1)<|yl rfl (b true) (LOp.eqb (LOp.lss rfl rfl rfl) hc3)<|zN ?_
    refine yT ?_
    obtain ⟨x2, hx4, h⟩ := oL h
    refine yW<|ym rfl (f64 a0)<|yl rfl (f64 x2) (LOp.eqr (LOp.fneg rfl (OpF.tmp rfl)) (congrArg (f .f64) hx4))<|ya rfl (f64 x2)<|zN ?_
    exact ⟨x2, ⟨aR, trivial⟩, trivial, h⟩
   ·refine yW<|ym rfl (i64 a1)<|yl rfl (b false) (LOp.eqb (LOp.lss rfl rfl rfl) hc3)<|zN ?_
    refine yF<|RunC.skip ?_
    exact ⟨a0, ⟨aR, trivial⟩, trivial, h⟩
 ·rintro τ2 Γ2 ⟨y3, hw2, hd2, h⟩
  refine RunC.wl hw2 hd2 ?_
  unfold K0p_k1 at h
  refine zQ<|ym rfl (f64 y3)<|yl rfl (b (flt .f64 (some 9218868437227405311) y3)) (LOp.fgt rfl (OpF.tmp rfl) (OpF.const rfl (by kernel_rfl) (by kernel_rfl)))<|ya rfl (b (flt .f64 (some 9218868437227405311) y3))<|zN ?_
  refine RunC.ret ?_
  have hq := oI h
  subst q0
  exact bR rfl

def K0q (a0 : F) : Option (Bool) :=
 obind (K0n a0) fun (r1 : Bool) =>
 bsel r1 (
  some false) (
  obind (K0p a0 0) fun (r2 : Bool) =>
  some (!r2))
theorem K0q_ok (a0 : F) (q0 : Bool) (h : K0q a0 = some q0) : Ev Try.prog 178 [f64 a0] [] (b q0) [] := by
 refine yE Try.func178 0 23 0 [(0, f64 a0)] [] rfl ?_
 unfold K0q at h
 refine zQ<|ya rfl (b false)<|zN ?_
 refine yS ?_
 obtain ⟨r1, hf1, h⟩ := oS h
 rcases oB h with ⟨hc2, h⟩ | ⟨hc2, h⟩
 ·refine yW<|ym rfl (f64 a0)<|yd rfl (b true) (TOp.eqb (yc ent206 rfl rfl bN0 (K0n_ok a0 r1 hf1)) hc2)<|yl rfl (b false) n1<|ym rfl (b false)<|yR rfl<|yR rfl<|yR rfl<|yl rfl (b false) yp<|ya rfl (b false)<|zN ?_
  refine RunC.ret ?_
  have hq := oI h
  subst q0
  exact bR rfl
 ·obtain ⟨r2, hf3, h⟩ := oS h
  refine yW<|ym rfl (f64 a0)<|yd rfl (b false) (TOp.eqb (yc ent206 rfl rfl bN0 (K0n_ok a0 r1 hf1)) hc2)<|yl rfl (b true) n0<|ym rfl (b true)<|ym rfl (f64 a0)<|yd rfl (b r2) (yc ent207 rfl rfl (bP bN0) (K0p_ok a0 0 r2 hf3))<|yl rfl (b (!r2)) (LOp.not rfl rfl)<|yl rfl (b (!r2)) yq<|ya rfl (b (!r2))<|zN ?_
  refine RunC.ret ?_
  have hq := oI h
  subst q0
  exact bR rfl

def K0r (a0 : F) : Option (Bool) :=
 olet (fwiden a0) fun (x1 : F) =>
 obind (K0q x1) fun (r2 : Bool) =>
 some r2
theorem K0r_ok (a0 : F) (q0 : Bool) (h : K0r a0 = some q0) : Ev Try.prog 90 [f32 a0] [] (b q0) [] := by
 refine yE Try.func90 0 13 0 [(0, f32 a0)] [] rfl ?_
 unfold K0r at h
 refine zQ<|ya rfl (b false)<|zN ?_
 refine yS ?_
 obtain ⟨x1, hx1, h⟩ := oL h
 obtain ⟨r2, hf2, h⟩ := oS h
 refine yW<|ym rfl (f32 a0)<|yd rfl (f64 x1) (TOp.eqr (TOp.widen (src := 26) (dst := 56) ⟨_, pun26⟩ pun56 rfl (OpF.tmp rfl)) (congrArg (f .f64) hx1))<|yd rfl (b r2) (yc ent178 rfl rfl bN0 (K0q_ok x1 r2 hf2))<|ya rfl (b r2)<|zN ?_
 refine RunC.ret ?_
 have hq := oI h
 subst q0
 exact bR rfl

def K0s (a0 : F) : Option (Bool) :=
 obind (K0r a0) fun (r1 : Bool) =>
 some (!r1)
theorem K0s_ok (a0 : F) (q0 : Bool) (h : K0s a0 = some q0) : Ev Try.prog 175 [f32 a0] [] (b q0) [] := by
 refine yE Try.func175 0 13 0 [(0, f32 a0)] [] rfl ?_
 unfold K0s at h
 refine zQ<|ya rfl (b false)<|zN ?_
 refine yS ?_
 obtain ⟨r1, hf1, h⟩ := oS h
 refine yW<|ym rfl (f32 a0)<|yd rfl (b r1) (yc ent90 rfl rfl bN0 (K0r_ok a0 r1 hf1))<|yl rfl (b (!r1)) (LOp.not rfl rfl)<|ya rfl (b (!r1))<|zN ?_
 refine RunC.ret ?_
 have hq := oI h
 subst q0
 exact bR rfl

def K0t_b1 (a0 : List F) (v1 : Int) : Option (LR (Int) (Unit) (Int)) :=
 bsel (decide (v1 < (a0.length : Int))) (
  obind (at? a0 v1) fun (e2 : F) =>
  obind (K0s e2) fun (r3 : Bool) =>
  bsel r3 (
   some (LR.ret v1)) (
   olet (IntKind.i64.wrap (v1 + 1)) fun (x4 : Int) =>
   some (LR.next x4))) (
  some (LR.out ()))
def K0t_s1 (a0 : List F) : (Int) → Option (LR (Int) (Unit) (Int)) := fun s => K0t_b1 a0 s
def K0t_k1  : Option (Int) :=
 some (-1)
def K0t (a0 : List F) : Option (Int) :=
 obind (loopM (K0t_s1 a0) 0) fun z => osum z (fun _ => K0t_k1) (fun r => some r)
theorem K0t_ok (a0 : List F) (q0 : Int) (h : K0t a0 = some q0) : Ev Try.prog 196 [(sFc a0), fn (.func 175) [] []] [] (i64 q0) [] := by
 refine yE Try.func196 0 39 0 ([(0, (sFc a0)), (1, fn (.func 175) [] [])]) [] rfl ?_
 unfold K0t at h
 refine zQ<|ya rfl (i64 0)<|zN ?_
 refine yS<|zQ<|ym rfl (sFc a0)<|yl rfl (i64 (a0.length : Int)) (LOp.len_sl und23 rfl rfl)<|ym rfl (i64 0)<|zN ?_
 obtain ⟨z2, hz_2, h⟩ := oS h
 refine RunC.cutN (fun τ Γ => WeakLe τ [] ∧ DeadLe Γ [] ∧ z2 = .inl ()) ?_ ?_
 ·refine RunC.block (RunC.loop (RunL.loopM (x := z2) (K0t_s1 a0) (fun (s : Int) τ Γ => WeakLe τ [(0, (sFc a0)), (1, fn (.func 175) [] []), (7, i64 (a0.length : Int)), (8, i64 s)] ∧ DeadLe Γ []) ?_ _ _ _ hz_2 ⟨⟨aR, aR, aR, aR, trivial⟩, trivial⟩))
  rintro v1 τ2 Γ2 y2_ ⟨hw2, hd2⟩ h2_ ho2 hr2
  refine RunC.wl (τ' := [(0, (sFc a0)), (1, fn (.func 175) [] []), (7, i64 (a0.length : Int)), (8, i64 v1)]) (Γ' := []) hw2 hd2 ?_
  replace h2_ : K0t_b1 a0 v1 = some y2_ := h2_
  unfold K0t_b1 at h2_
  refine yS ?_
  rcases oB h2_ with ⟨hc1, h2_⟩ | ⟨hc1, h2_⟩
  ·refine yW<|yl rfl (b true) (LOp.eqb (LOp.lss rfl rfl rfl) hc1)<|zN ?_
   refine yS<|yT<|RunC.skip<|yS<|RunC.block<|zQ<|ym rfl (i64 v1)<|ya rfl (i64 v1)<|zN ?_
   refine yS ?_
   obtain ⟨e2, he2, h2_⟩ := oS h2_
   obtain ⟨r3, hf3, h2_⟩ := oS h2_
   rcases oB h2_ with ⟨hc4, h2_⟩ | ⟨hc4, h2_⟩
   ·refine yW<|ym rfl (fn (.func 175) [] [])<|ym rfl (sFc a0)<|ym rfl (i64 v1)<|yl rfl (ptr [f32 e2]) (LOp.le (LOp.ix (f := f32) und23 siz26 rfl rfl rfl rfl he2) ALe.ptr)<|yl rfl (f32 e2) (n2 agg26)<|yd rfl (b true) (TOp.eqb (TOp.callB (CallAs.fn ent175 rfl rfl rfl rfl) bN0 rfl rfl (K0s_ok e2 r3 hf3)) hc4)<|zN ?_
    refine yT<|zQ<|ym rfl (i64 v1)<|ya rfl (i64 v1)<|zN ?_
    refine RunC.ret ?_
    cases oI h2_
    have hx3_ := hr2 _ rfl
    subst hx3_
    have hq := oI h
    subst q0
    exact bR rfl
   ·refine yW<|ym rfl (fn (.func 175) [] [])<|ym rfl (sFc a0)<|ym rfl (i64 v1)<|yl rfl (ptr [f32 e2]) (LOp.le (LOp.ix (f := f32) und23 siz26 rfl rfl rfl rfl he2) ALe.ptr)<|yl rfl (f32 e2) (n2 agg26)<|yd rfl (b false) (TOp.eqb (TOp.callB (CallAs.fn ent175 rfl rfl rfl rfl) bN0 rfl rfl (K0s_ok e2 r3 hf3)) hc4)<|zN ?_
    refine yF<|RunC.skip ?_
    obtain ⟨x4, hx5, h2_⟩ := oL h2_
    refine yW<|yl rfl (i64 x4) (LOp.eqr (LOp.add rfl rfl rfl) (congrArg (ik .i64) hx5))<|ym rfl (i64 x4)<|zN ?_
    cases oI h2_
    exact ⟨_, rfl, ⟨aR, aR, aR, aR, trivial⟩, trivial⟩
  ·refine yW<|yl rfl (b false) (LOp.eqb (LOp.lss rfl rfl rfl) hc1)<|zN ?_
   refine yS<|yF<|RunC.exit ?_
   cases oI h2_
   have hx := ho2 _ rfl
   exact ⟨trivial, trivial, hx⟩
 ·rintro τ4 Γ4 ⟨hw4, hd4, rfl⟩
  refine RunC.wl hw4 hd4 ?_
  replace h : K0t_k1 = some q0 := h
  unfold K0t_k1 at h
  refine zQ<|ya rfl (i64 (-1))<|zN ?_
  refine RunC.ret ?_
  have hq := oI h
  subst q0
  exact bR rfl

def K0u (a0 : List F) : Option (Bool) :=
 obind (K0t a0) fun (r1 : Int) =>
 some (decide (0 ≤ r1))
theorem K0u_ok (a0 : List F) (q0 : Bool) (h : K0u a0 = some q0) : Ev Try.prog 152 [(sFc a0), fn (.func 175) [] []] [] (b q0) [] := by
 refine yE Try.func152 0 19 0 ([(0, (sFc a0)), (1, fn (.func 175) [] [])]) [] rfl ?_
 unfold K0u at h
 refine zQ<|ya rfl (b false)<|zN ?_
 refine yS ?_
 obtain ⟨r1, hf1, h⟩ := oS h
 refine yW<|ym rfl (sFc a0)<|ym rfl (fn (.func 175) [] [])<|yd rfl (i64 r1) (yc ent196 rfl rfl (bS (Bors.cons (Bor.fn bN bN) bN)) (K0t_ok a0 r1 hf1))<|yl rfl (b (decide (0 ≤ r1))) (LOp.geq rfl rfl rfl)<|ya rfl (b (decide (0 ≤ r1)))<|zN ?_
 refine RunC.ret ?_
 have hq := oI h
 subst q0
 exact bR rfl

def K0v (a0 : List F) : Option (Bool) :=
 obind (K0u a0) fun (r1 : Bool) =>
 some (!r1)
theorem K0v_ok (a0 : List F) (q0 : Bool) (h : K0v a0 = some q0) : Ev Try.prog 81 [(sFc a0)] [] (b q0) [] := by
 refine yE Try.func81 0 13 0 [(0, (sFc a0))] [] rfl ?_
 unfold K0v at h
 refine zQ<|ya rfl (b false)<|zN ?_
 refine yS ?_
 obtain ⟨r1, hf1, h⟩ := oS h
 refine yW<|ym rfl (sFc a0)<|yd rfl (b r1) (yc ent152 rfl rfl (bS (Bors.cons (Bor.fn bN bN) bN)) (K0u_ok a0 r1 hf1))<|yl rfl (b (!r1)) (LOp.not rfl rfl)<|ya rfl (b (!r1))<|zN ?_
 refine RunC.ret ?_
 have hq := oI h
 subst q0
 exact bR rfl

def K0w_b2 (a1 : List Int) (a2 : List Int) (v11 : Int) (v14 : Int) : Option (LR (Int) (Unit) (Bool)) :=
 olet (IntKind.i64.wrap (v11 + 1)) fun (x15 : Int) =>
 obind (at? a1 x15) fun (e16 : Int) =>
 bsel (decide (v14 < e16)) (
  olet (IntKind.i64.wrap (v14 - 1)) fun (x17 : Int) =>
  obind (at? a2 x17) fun (e18 : Int) =>
  obind (at? a2 v14) fun (e19 : Int) =>
  bsel (decide (e19 ≤ e18)) (
   some (LR.ret false)) (
   olet (IntKind.i64.wrap (v14 + 1)) fun (x20 : Int) =>
   some (LR.next x20))) (
  some (LR.out ()))
def K0w_s2 (a1 : List Int) (a2 : List Int) (v11 : Int) : (Int) → Option (LR (Int) (Unit) (Bool)) := fun s => K0w_b2 a1 a2 v11 s
def K0w_k2 (v11 : Int) : Option (LR (Int) (Unit) (Bool)) :=
 olet (IntKind.i64.wrap (v11 + 1)) fun (x21 : Int) =>
 some (LR.next x21)
def K0w_b3 (a0 : Int) (a1 : List Int) (a2 : List Int) (v11 : Int) : Option (LR (Int) (Unit) (Bool)) :=
 bsel (decide (v11 < a0)) (
  obind (at? a1 v11) fun (e12 : Int) =>
  olet (IntKind.i64.wrap (e12 + 1)) fun (x13 : Int) =>
  obind (loopM (K0w_s2 a1 a2 v11) x13) fun z => osum z (fun e => K0w_k2 v11) (fun r => some (LR.ret r))) (
  some (LR.out ()))
def K0w_s3 (a0 : Int) (a1 : List Int) (a2 : List Int) : (Int) → Option (LR (Int) (Unit) (Bool)) := fun s => K0w_b3 a0 a1 a2 s
def K0w_k3  : Option (Bool) :=
 some true
def K0w (a0 : Int) (a1 : List Int) (a2 : List Int) (a3 : List F) : Option (Bool) :=
 obind (K0e a2) fun (r1 : Int) =>
 obind (K0f a0 1 32) fun (r2 : Bool) =>
 bsel r2 (
  obind (K0e a1) fun (r3 : Int) =>
  olet (IntKind.i64.wrap (a0 + 1)) fun (x4 : Int) =>
  bsel (!decide (r3 = x4)) (
   some false) (
   bsel (decide (512 < r1)) (
    some false) (
    bsel (!decide ((a3.length : Int) = (a2.length : Int))) (
     some false) (
     obind (at? a1 0) fun (e5 : Int) =>
     bsel (!decide (e5 = 0)) (
      some false) (
      obind (at? a1 a0) fun (e6 : Int) =>
      bsel (!decide (e6 = r1)) (
       some false) (
       obind (K0i a1) fun (r7 : Bool) =>
       bsel r7 (
        olet (IntKind.i64.wrap (a0 - 1)) fun (x8 : Int) =>
        obind (K0m a2 0 x8) fun (r9 : Bool) =>
        bsel r9 (
         obind (K0v a3) fun (r10 : Bool) =>
         bsel r10 (
          obind (loopM (K0w_s3 a0 a1 a2) 0) fun z => osum z (fun _ => K0w_k3) (fun r => some r)) (
          some false)) (
         some false)) (
        some false))))))) (
  some false)
abbrev z00v (a0 : Int) (a1 : List Int) (a2 : List Int) (a3 : List F) : List AV := [i64 a0, sl a1.length (a1.map i64), sl a2.length (a2.map i64), (sFc a3)]
abbrev z00w (a1 : List Int) (a2 : List Int) (a3 : List F) : AV := ptr [sl a1.length (a1.map i64), sl a2.length (a2.map i64), (sFc a3)]
abbrev z00x (a2 : List Int) (a3 : List F) : AV := ptr [sl a2.length (a2.map i64), (sFc a3)]
abbrev z00y (a1 : List Int) : AV := sl a1.length (a1.map i64)
abbrev z00z (a2 : List Int) : AV := sl a2.length (a2.map i64)
theorem K0w_ok (a0 : Int) (a1 : List Int) (a2 : List Int) (a3 : List F) (q0 : Bool) (h : K0w a0 a1 a2 a3 = some q0) : Ev Try.prog 30 [agg [i64 a0, sl a1.length (a1.map i64), sl a2.length (a2.map i64), (sFc a3)]] [] (b q0) [] := by
 refine yE Try.func30 0 211 0 ([(0, agg (z00v a0 a1 a2 a3))]) [] rfl ?_
 unfold K0w at h
 refine zQ<|yd rfl (ptr (z00v a0 a1 a2 a3)) (TOp.box_s rfl rfl rfl)<|ya rfl (b false)<|zN ?_
 refine yS ?_
 obtain ⟨r1, hf1, h⟩ := oS h
 refine yW<|yl rfl (z00x a2 a3) (LOp.fap und30 rfl siz22 rfl rfl rfl)<|yl rfl (z00z a2) (n2 agg22)<|yd rfl (i64 r1) (yc ent104 rfl rfl (bS bN) (K0e_ok a2 r1 hf1))<|ya rfl (i64 r1)<|zN ?_
 refine yS<|yS ?_
 obtain ⟨r2, hf2, h⟩ := oS h
 rcases oB h with ⟨hc3, h⟩ | ⟨hc3, h⟩
 ·obtain ⟨r3, hf4, h⟩ := oS h
  obtain ⟨x4, hx5, h⟩ := oL h
  rcases oB h with ⟨hc6, h⟩ | ⟨hc6, h⟩
  ·refine RunC.region_draw (Γ' := []) 43 mixed 
    (tl rfl (ptr (z00v a0 a1 a2 a3)) (LOp.fap und30 rfl siz2 rfl rfl rfl) <|
    (tl rfl (i64 a0) (n2 agg2) <|
    (TR.d (r := b true) (fs := []) rfl rfl (TOp.eqb (yc ent82 rfl rfl (bP (bP bN0)) (K0f_ok a0 1 32 r2 hf2)) hc3) <|
    (tl rfl (b false) (LOp.eqb (LOp.not rfl rfl) rfl) <|
    (tm rfl (b false) <|
    (tl rfl (z00w a1 a2 a3) (LOp.fap und30 rfl siz22 rfl rfl rfl) <|
    (tl rfl (z00y a1) (n2 agg22) <|
    (TR.d (r := i64 r3) (fs := []) rfl rfl (yc ent104 rfl rfl (bS bN) (K0e_ok a1 r3 hf4)) <|
    (tl rfl (ptr (z00v a0 a1 a2 a3)) (LOp.fap und30 rfl siz2 rfl rfl rfl) <|
    (tl rfl (i64 a0) (n2 agg2) <|
    (tl rfl (i64 x4) (LOp.eqr (LOp.add rfl rfl rfl) (congrArg (ik .i64) hx5)) <|
    (tl rfl (b true) (LOp.eqb (LOp.neq rfl rfl rfl) hc6) <|
    (tl rfl (b true) yp <|
    (tm rfl (b true) <|
    (ts rfl <|
    (ts rfl <|
    (tl rfl (b true) yq <|
    (tm rfl (b true) <|
    (ts rfl <|
    (ts rfl <|
    (ts rfl <|
    (ts rfl <|
    (ts rfl <|
    (ts rfl <|
    (ts rfl <|
    (tl rfl (b true) yq <|
    (tm rfl (b true) <|
    (ts rfl <|
    (ts rfl <|
    (ts rfl <|
    (ts rfl <|
    (ts rfl <|
    (tl rfl (b true) yq <|
    (tm rfl (b true) <|
    (ts rfl <|
    (ts rfl <|
    (ts rfl <|
    (ts rfl <|
    (ts rfl <|
    (ts rfl <|
    (ts rfl <|
    (ts rfl <|
    (tl rfl (b true) yq <|
    TR.nil))))))))))))))))))))))))))))))))))))))))))) rfl (by kernel_rfl) rfl fills_nil rfl ?_
   iterate 43 refine ROps.dropS ?_
   refine ROps.drop0<|zN ?_
   refine RunC.wl (τ' := [(1, ptr (z00v a0 a1 a2 a3)), (51, b true)]) (Γ' := []) ⟨aR, aR, trivial⟩ trivial<|yT<|zQ<|ya rfl (b false)<|zN ?_
   refine RunC.ret ?_
   have hq := oI h
   subst q0
   exact bR rfl
  ·rcases oB h with ⟨hc7, h⟩ | ⟨hc7, h⟩
   ·refine RunC.region_draw (Γ' := []) 43 mixed 
     (tl rfl (ptr (z00v a0 a1 a2 a3)) (LOp.fap und30 rfl siz2 rfl rfl rfl) <|
     (tl rfl (i64 a0) (n2 agg2) <|
     (TR.d (r := b true) (fs := []) rfl rfl (TOp.eqb (yc ent82 rfl rfl (bP (bP bN0)) (K0f_ok a0 1 32 r2 hf2)) hc3) <|
     (tl rfl (b false) (LOp.eqb (LOp.not rfl rfl) rfl) <|
     (tm rfl (b false) <|
     (tl rfl (z00w a1 a2 a3) (LOp.fap und30 rfl siz22 rfl rfl rfl) <|
     (tl rfl (z00y a1) (n2 agg22) <|
     (TR.d (r := i64 r3) (fs := []) rfl rfl (yc ent104 rfl rfl (bS bN) (K0e_ok a1 r3 hf4)) <|
     (tl rfl (ptr (z00v a0 a1 a2 a3)) (LOp.fap und30 rfl siz2 rfl rfl rfl) <|
     (tl rfl (i64 a0) (n2 agg2) <|
     (tl rfl (i64 x4) (LOp.eqr (LOp.add rfl rfl rfl) (congrArg (ik .i64) hx5)) <|
     (tl rfl (b false) (LOp.eqb (LOp.neq rfl rfl rfl) hc6) <|
     (tl rfl (b false) yp <|
     (tm rfl (b false) <|
     (tm rfl (i64 r1) <|
     (tl rfl (b true) (LOp.eqb (LOp.gtr rfl rfl rfl) hc7) <|
     (tl rfl (b true) yp <|
     (tm rfl (b true) <|
     (ts rfl <|
     (ts rfl <|
     (ts rfl <|
     (ts rfl <|
     (ts rfl <|
     (ts rfl <|
     (ts rfl <|
     (tl rfl (b true) yq <|
     (tm rfl (b true) <|
     (ts rfl <|
     (ts rfl <|
     (ts rfl <|
     (ts rfl <|
     (ts rfl <|
     (tl rfl (b true) yq <|
     (tm rfl (b true) <|
     (ts rfl <|
     (ts rfl <|
     (ts rfl <|
     (ts rfl <|
     (ts rfl <|
     (ts rfl <|
     (ts rfl <|
     (ts rfl <|
     (tl rfl (b true) yq <|
     TR.nil))))))))))))))))))))))))))))))))))))))))))) rfl (by kernel_rfl) rfl fills_nil rfl ?_
    iterate 43 refine ROps.dropS ?_
    refine ROps.drop0<|zN ?_
    refine RunC.wl (τ' := [(1, ptr (z00v a0 a1 a2 a3)), (51, b true)]) (Γ' := []) ⟨aR, aR, trivial⟩ trivial<|yT<|zQ<|ya rfl (b false)<|zN ?_
    refine RunC.ret ?_
    have hq := oI h
    subst q0
    exact bR rfl
   ·rcases oB h with ⟨hc8, h⟩ | ⟨hc8, h⟩
    ·refine RunC.region_draw (Γ' := []) 43 mixed 
      (tl rfl (ptr (z00v a0 a1 a2 a3)) (LOp.fap und30 rfl siz2 rfl rfl rfl) <|
      (tl rfl (i64 a0) (n2 agg2) <|
      (TR.d (r := b true) (fs := []) rfl rfl (TOp.eqb (yc ent82 rfl rfl (bP (bP bN0)) (K0f_ok a0 1 32 r2 hf2)) hc3) <|
      (tl rfl (b false) (LOp.eqb (LOp.not rfl rfl) rfl) <|
      (tm rfl (b false) <|
      (tl rfl (z00w a1 a2 a3) (LOp.fap und30 rfl siz22 rfl rfl rfl) <|
      (tl rfl (z00y a1) (n2 agg22) <|
      (TR.d (r := i64 r3) (fs := []) rfl rfl (yc ent104 rfl rfl (bS bN) (K0e_ok a1 r3 hf4)) <|
      (tl rfl (ptr (z00v a0 a1 a2 a3)) (LOp.fap und30 rfl siz2 rfl rfl rfl) <|
      (tl rfl (i64 a0) (n2 agg2) <|
      (tl rfl (i64 x4) (LOp.eqr (LOp.add rfl rfl rfl) (congrArg (ik .i64) hx5)) <|
      (tl rfl (b false) (LOp.eqb (LOp.neq rfl rfl rfl) hc6) <|
      (tl rfl (b false) yp <|
      (tm rfl (b false) <|
      (tm rfl (i64 r1) <|
      (tl rfl (b false) (LOp.eqb (LOp.gtr rfl rfl rfl) hc7) <|
      (tl rfl (b false) yp <|
      (tm rfl (b false) <|
      (tl rfl (ptr [(sFc a3)]) (LOp.fap und30 rfl siz23 rfl rfl rfl) <|
      (tl rfl (sFc a3) (n2 agg23) <|
      (tl rfl (i64 (a3.length : Int)) (LOp.len_sl und23 rfl rfl) <|
      (tl rfl (z00x a2 a3) (LOp.fap und30 rfl siz22 rfl rfl rfl) <|
      (tl rfl (z00z a2) (n2 agg22) <|
      (tl rfl (i64 (a2.length : Int)) (LOp.len_sl und22 rfl rfl) <|
      (tl rfl (b true) (LOp.eqb (LOp.neq rfl rfl rfl) hc8) <|
      (tl rfl (b true) yp <|
      (tm rfl (b true) <|
      (ts rfl <|
      (ts rfl <|
      (ts rfl <|
      (ts rfl <|
      (ts rfl <|
      (tl rfl (b true) yq <|
      (tm rfl (b true) <|
      (ts rfl <|
      (ts rfl <|
      (ts rfl <|
      (ts rfl <|
      (ts rfl <|
      (ts rfl <|
      (ts rfl <|
      (ts rfl <|
      (tl rfl (b true) yq <|
      TR.nil))))))))))))))))))))))))))))))))))))))))))) rfl (by kernel_rfl) rfl fills_nil rfl ?_
     iterate 43 refine ROps.dropS ?_
     refine ROps.drop0<|zN ?_
     refine RunC.wl (τ' := [(1, ptr (z00v a0 a1 a2 a3)), (51, b true)]) (Γ' := []) ⟨aR, aR, trivial⟩ trivial<|yT<|zQ<|ya rfl (b false)<|zN ?_
     refine RunC.ret ?_
     have hq := oI h
     subst q0
     exact bR rfl
    ·obtain ⟨e5, he9, h⟩ := oS h
     rcases oB h with ⟨hc10, h⟩ | ⟨hc10, h⟩
     ·refine RunC.region_draw (Γ' := []) 43 mixed 
       (tl rfl (ptr (z00v a0 a1 a2 a3)) (LOp.fap und30 rfl siz2 rfl rfl rfl) <|
       (tl rfl (i64 a0) (n2 agg2) <|
       (TR.d (r := b true) (fs := []) rfl rfl (TOp.eqb (yc ent82 rfl rfl (bP (bP bN0)) (K0f_ok a0 1 32 r2 hf2)) hc3) <|
       (tl rfl (b false) (LOp.eqb (LOp.not rfl rfl) rfl) <|
       (tm rfl (b false) <|
       (tl rfl (z00w a1 a2 a3) (LOp.fap und30 rfl siz22 rfl rfl rfl) <|
       (tl rfl (z00y a1) (n2 agg22) <|
       (TR.d (r := i64 r3) (fs := []) rfl rfl (yc ent104 rfl rfl (bS bN) (K0e_ok a1 r3 hf4)) <|
       (tl rfl (ptr (z00v a0 a1 a2 a3)) (LOp.fap und30 rfl siz2 rfl rfl rfl) <|
       (tl rfl (i64 a0) (n2 agg2) <|
       (tl rfl (i64 x4) (LOp.eqr (LOp.add rfl rfl rfl) (congrArg (ik .i64) hx5)) <|
       (tl rfl (b false) (LOp.eqb (LOp.neq rfl rfl rfl) hc6) <|
       (tl rfl (b false) yp <|
       (tm rfl (b false) <|
       (tm rfl (i64 r1) <|
       (tl rfl (b false) (LOp.eqb (LOp.gtr rfl rfl rfl) hc7) <|
       (tl rfl (b false) yp <|
       (tm rfl (b false) <|
       (tl rfl (ptr [(sFc a3)]) (LOp.fap und30 rfl siz23 rfl rfl rfl) <|
       (tl rfl (sFc a3) (n2 agg23) <|
       (tl rfl (i64 (a3.length : Int)) (LOp.len_sl und23 rfl rfl) <|
       (tl rfl (z00x a2 a3) (LOp.fap und30 rfl siz22 rfl rfl rfl) <|
       (tl rfl (z00z a2) (n2 agg22) <|
       (tl rfl (i64 (a2.length : Int)) (LOp.len_sl und22 rfl rfl) <|
       (tl rfl (b false) (LOp.eqb (LOp.neq rfl rfl rfl) hc8) <|
       (tl rfl (b false) yp <|
       (tm rfl (b false) <|
       (tl rfl (z00w a1 a2 a3) (LOp.fap und30 rfl siz22 rfl rfl rfl) <|
       (tl rfl (z00y a1) (n2 agg22) <|
       (tl rfl (ptr [i64 e5]) (LOp.le (LOp.ix (f := i64) und22 siz2 rfl rfl rfl rfl he9) ALe.ptr) <|
       (tl rfl (i64 e5) (n2 agg2) <|
       (tl rfl (b true) (LOp.eqb (LOp.neq rfl rfl rfl) hc10) <|
       (tl rfl (b true) yp <|
       (tm rfl (b true) <|
       (ts rfl <|
       (ts rfl <|
       (ts rfl <|
       (ts rfl <|
       (ts rfl <|
       (ts rfl <|
       (ts rfl <|
       (ts rfl <|
       (tl rfl (b true) yq <|
       TR.nil))))))))))))))))))))))))))))))))))))))))))) rfl (by kernel_rfl) rfl fills_nil rfl ?_
      iterate 43 refine ROps.dropS ?_
      refine ROps.drop0<|zN ?_
      refine RunC.wl (τ' := [(1, ptr (z00v a0 a1 a2 a3)), (51, b true)]) (Γ' := []) ⟨aR, aR, trivial⟩ trivial<|yT<|zQ<|ya rfl (b false)<|zN ?_
      refine RunC.ret ?_
      have hq := oI h
      subst q0
      exact bR rfl
     ·obtain ⟨e6, he11, h⟩ := oS h
      rcases oB h with ⟨hc12, h⟩ | ⟨hc12, h⟩
      ·refine RunC.region_draw (Γ' := []) 43 mixed 
        (tl rfl (ptr (z00v a0 a1 a2 a3)) (LOp.fap und30 rfl siz2 rfl rfl rfl) <|
        (tl rfl (i64 a0) (n2 agg2) <|
        (TR.d (r := b true) (fs := []) rfl rfl (TOp.eqb (yc ent82 rfl rfl (bP (bP bN0)) (K0f_ok a0 1 32 r2 hf2)) hc3) <|
        (tl rfl (b false) (LOp.eqb (LOp.not rfl rfl) rfl) <|
        (tm rfl (b false) <|
        (tl rfl (z00w a1 a2 a3) (LOp.fap und30 rfl siz22 rfl rfl rfl) <|
        (tl rfl (z00y a1) (n2 agg22) <|
        (TR.d (r := i64 r3) (fs := []) rfl rfl (yc ent104 rfl rfl (bS bN) (K0e_ok a1 r3 hf4)) <|
        (tl rfl (ptr (z00v a0 a1 a2 a3)) (LOp.fap und30 rfl siz2 rfl rfl rfl) <|
        (tl rfl (i64 a0) (n2 agg2) <|
        (tl rfl (i64 x4) (LOp.eqr (LOp.add rfl rfl rfl) (congrArg (ik .i64) hx5)) <|
        (tl rfl (b false) (LOp.eqb (LOp.neq rfl rfl rfl) hc6) <|
        (tl rfl (b false) yp <|
        (tm rfl (b false) <|
        (tm rfl (i64 r1) <|
        (tl rfl (b false) (LOp.eqb (LOp.gtr rfl rfl rfl) hc7) <|
        (tl rfl (b false) yp <|
        (tm rfl (b false) <|
        (tl rfl (ptr [(sFc a3)]) (LOp.fap und30 rfl siz23 rfl rfl rfl) <|
        (tl rfl (sFc a3) (n2 agg23) <|
        (tl rfl (i64 (a3.length : Int)) (LOp.len_sl und23 rfl rfl) <|
        (tl rfl (z00x a2 a3) (LOp.fap und30 rfl siz22 rfl rfl rfl) <|
        (tl rfl (z00z a2) (n2 agg22) <|
        (tl rfl (i64 (a2.length : Int)) (LOp.len_sl und22 rfl rfl) <|
        (tl rfl (b false) (LOp.eqb (LOp.neq rfl rfl rfl) hc8) <|
        (tl rfl (b false) yp <|
        (tm rfl (b false) <|
        (tl rfl (z00w a1 a2 a3) (LOp.fap und30 rfl siz22 rfl rfl rfl) <|
        (tl rfl (z00y a1) (n2 agg22) <|
        (tl rfl (ptr [i64 e5]) (LOp.le (LOp.ix (f := i64) und22 siz2 rfl rfl rfl rfl he9) ALe.ptr) <|
        (tl rfl (i64 e5) (n2 agg2) <|
        (tl rfl (b false) (LOp.eqb (LOp.neq rfl rfl rfl) hc10) <|
        (tl rfl (b false) yp <|
        (tm rfl (b false) <|
        (tl rfl (z00w a1 a2 a3) (LOp.fap und30 rfl siz22 rfl rfl rfl) <|
        (tl rfl (z00y a1) (n2 agg22) <|
        (tl rfl (ptr (z00v a0 a1 a2 a3)) (LOp.fap und30 rfl siz2 rfl rfl rfl) <|
        (tl rfl (i64 a0) (n2 agg2) <|
        (tl rfl (ptr [i64 e6]) (LOp.le (LOp.ix (f := i64) und22 siz2 rfl rfl rfl rfl he11) ALe.ptr) <|
        (tl rfl (i64 e6) (n2 agg2) <|
        (tm rfl (i64 r1) <|
        (tl rfl (b true) (LOp.eqb (LOp.neq rfl rfl rfl) hc12) <|
        (tl rfl (b true) yp <|
        TR.nil))))))))))))))))))))))))))))))))))))))))))) rfl (by kernel_rfl) rfl fills_nil rfl ?_
       iterate 43 refine ROps.dropS ?_
       refine ROps.drop0<|zN ?_
       refine RunC.wl (τ' := [(1, ptr (z00v a0 a1 a2 a3)), (51, b true)]) (Γ' := []) ⟨aR, aR, trivial⟩ trivial<|yT<|zQ<|ya rfl (b false)<|zN ?_
       refine RunC.ret ?_
       have hq := oI h
       subst q0
       exact bR rfl
      ·refine RunC.region_draw (Γ' := []) 43 mixed 
        (tl rfl (ptr (z00v a0 a1 a2 a3)) (LOp.fap und30 rfl siz2 rfl rfl rfl) <|
        (tl rfl (i64 a0) (n2 agg2) <|
        (TR.d (r := b true) (fs := []) rfl rfl (TOp.eqb (yc ent82 rfl rfl (bP (bP bN0)) (K0f_ok a0 1 32 r2 hf2)) hc3) <|
        (tl rfl (b false) (LOp.eqb (LOp.not rfl rfl) rfl) <|
        (tm rfl (b false) <|
        (tl rfl (z00w a1 a2 a3) (LOp.fap und30 rfl siz22 rfl rfl rfl) <|
        (tl rfl (z00y a1) (n2 agg22) <|
        (TR.d (r := i64 r3) (fs := []) rfl rfl (yc ent104 rfl rfl (bS bN) (K0e_ok a1 r3 hf4)) <|
        (tl rfl (ptr (z00v a0 a1 a2 a3)) (LOp.fap und30 rfl siz2 rfl rfl rfl) <|
        (tl rfl (i64 a0) (n2 agg2) <|
        (tl rfl (i64 x4) (LOp.eqr (LOp.add rfl rfl rfl) (congrArg (ik .i64) hx5)) <|
        (tl rfl (b false) (LOp.eqb (LOp.neq rfl rfl rfl) hc6) <|
        (tl rfl (b false) yp <|
        (tm rfl (b false) <|
        (tm rfl (i64 r1) <|
        (tl rfl (b false) (LOp.eqb (LOp.gtr rfl rfl rfl) hc7) <|
        (tl rfl (b false) yp <|
        (tm rfl (b false) <|
        (tl rfl (ptr [(sFc a3)]) (LOp.fap und30 rfl siz23 rfl rfl rfl) <|
        (tl rfl (sFc a3) (n2 agg23) <|
        (tl rfl (i64 (a3.length : Int)) (LOp.len_sl und23 rfl rfl) <|
        (tl rfl (z00x a2 a3) (LOp.fap und30 rfl siz22 rfl rfl rfl) <|
        (tl rfl (z00z a2) (n2 agg22) <|
        (tl rfl (i64 (a2.length : Int)) (LOp.len_sl und22 rfl rfl) <|
        (tl rfl (b false) (LOp.eqb (LOp.neq rfl rfl rfl) hc8) <|
        (tl rfl (b false) yp <|
        (tm rfl (b false) <|
        (tl rfl (z00w a1 a2 a3) (LOp.fap und30 rfl siz22 rfl rfl rfl) <|
        (tl rfl (z00y a1) (n2 agg22) <|
        (tl rfl (ptr [i64 e5]) (LOp.le (LOp.ix (f := i64) und22 siz2 rfl rfl rfl rfl he9) ALe.ptr) <|
        (tl rfl (i64 e5) (n2 agg2) <|
        (tl rfl (b false) (LOp.eqb (LOp.neq rfl rfl rfl) hc10) <|
        (tl rfl (b false) yp <|
        (tm rfl (b false) <|
        (tl rfl (z00w a1 a2 a3) (LOp.fap und30 rfl siz22 rfl rfl rfl) <|
        (tl rfl (z00y a1) (n2 agg22) <|
        (tl rfl (ptr (z00v a0 a1 a2 a3)) (LOp.fap und30 rfl siz2 rfl rfl rfl) <|
        (tl rfl (i64 a0) (n2 agg2) <|
        (tl rfl (ptr [i64 e6]) (LOp.le (LOp.ix (f := i64) und22 siz2 rfl rfl rfl rfl he11) ALe.ptr) <|
        (tl rfl (i64 e6) (n2 agg2) <|
        (tm rfl (i64 r1) <|
        (tl rfl (b false) (LOp.eqb (LOp.neq rfl rfl rfl) hc12) <|
        (tl rfl (b false) yp <|
        TR.nil))))))))))))))))))))))))))))))))))))))))))) rfl (by kernel_rfl) rfl fills_nil rfl ?_
       iterate 43 refine ROps.dropS ?_
       refine ROps.drop0<|zN ?_
       refine RunC.wl (τ' := [(1, ptr (z00v a0 a1 a2 a3)), (51, b false)]) (Γ' := []) ⟨aR, aR, trivial⟩ trivial<|yF<|RunC.skip<|yS<|yS ?_
       obtain ⟨r7, hf13, h⟩ := oS h
       rcases oB h with ⟨hc14, h⟩ | ⟨hc14, h⟩
       ·obtain ⟨x8, hx15, h⟩ := oL h
        obtain ⟨r9, hf16, h⟩ := oS h
        rcases oB h with ⟨hc17, h⟩ | ⟨hc17, h⟩
        ·obtain ⟨r10, hf18, h⟩ := oS h
         rcases oB h with ⟨hc19, h⟩ | ⟨hc19, h⟩
         ·refine yW<|yl rfl (z00w a1 a2 a3) (LOp.fap und30 rfl siz22 rfl rfl rfl)<|yl rfl (z00y a1) (n2 agg22)<|yd rfl (b true) (TOp.eqb (yc ent105 rfl rfl (bS bN) (K0i_ok a1 r7 hf13)) hc14)<|yl rfl (b false) n1<|ym rfl (b false)<|yl rfl (z00x a2 a3) (LOp.fap und30 rfl siz22 rfl rfl rfl)<|yl rfl (z00z a2) (n2 agg22)<|yl rfl (ptr (z00v a0 a1 a2 a3)) (LOp.fap und30 rfl siz2 rfl rfl rfl)<|yl rfl (i64 a0) (n2 agg2)<|yl rfl (i64 x8) (LOp.eqr (LOp.sub rfl rfl rfl) (congrArg (ik .i64) hx15))<|yd rfl (b true) (TOp.eqb (yc ent106 rfl rfl (bS (bP bN0)) (K0m_ok a2 0 x8 r9 hf16)) hc17)<|yl rfl (b false) n1<|yl rfl (b false) yp<|ym rfl (b false)<|yl rfl (ptr [(sFc a3)]) (LOp.fap und30 rfl siz23 rfl rfl rfl)<|yl rfl (sFc a3) (n2 agg23)<|yd rfl (b true) (TOp.eqb (yc ent81 rfl rfl (bS bN) (K0v_ok a3 r10 hf18)) hc19)<|yl rfl (b false) n1<|yl rfl (b false) yp<|zN ?_
          refine RunC.wl (τ' := [(1, ptr (z00v a0 a1 a2 a3)), (70, b false)]) (Γ' := []) ⟨aR, aR, trivial⟩ trivial<|yF<|RunC.skip<|yS<|zQ<|yl rfl (ptr (z00v a0 a1 a2 a3)) (LOp.fap und30 rfl siz2 rfl rfl rfl)<|yl rfl (i64 a0) (n2 agg2)<|ym rfl (i64 0)<|zN ?_
          obtain ⟨z4, hz_4, h⟩ := oS h
          refine RunC.cutN (fun τ Γ => WeakLe τ [] ∧ DeadLe Γ [] ∧ z4 = .inl ()) ?_ ?_
          ·refine RunC.block (RunC.loop (RunL.loopM (x := z4) (K0w_s3 a0 a1 a2) (fun (s : Int) τ Γ => WeakLe τ [(1, ptr (z00v a0 a1 a2 a3)), (72, i64 a0), (73, i64 s)] ∧ DeadLe Γ []) ?_ _ _ _ hz_4 ⟨⟨aR, aR, aR, trivial⟩, trivial⟩))
           rintro v11 τ4 Γ4 y4_ ⟨hw4, hd4⟩ h4_ ho4 hr4
           refine RunC.wl (τ' := [(1, ptr (z00v a0 a1 a2 a3)), (72, i64 a0), (73, i64 v11)]) (Γ' := []) hw4 hd4 ?_
           replace h4_ : K0w_b3 a0 a1 a2 v11 = some y4_ := h4_
           unfold K0w_b3 at h4_
           refine yS ?_
           rcases oB h4_ with ⟨hc20, h4_⟩ | ⟨hc20, h4_⟩
           ·refine yW<|yl rfl (b true) (LOp.eqb (LOp.lss rfl rfl rfl) hc20)<|zN ?_
            refine yS<|yT<|RunC.skip<|yS<|RunC.block<|zQ<|ym rfl (i64 v11)<|ya rfl (i64 v11)<|zN ?_
            refine yS ?_
            obtain ⟨e12, he21, h4_⟩ := oS h4_
            obtain ⟨x13, hx22, h4_⟩ := oL h4_
            refine yW<|yl rfl (z00w a1 a2 a3) (LOp.fap und30 rfl siz22 rfl rfl rfl)<|yl rfl (z00y a1) (n2 agg22)<|ym rfl (i64 v11)<|yl rfl (ptr [i64 e12]) (LOp.le (LOp.ix (f := i64) und22 siz2 rfl rfl rfl rfl he21) ALe.ptr)<|yl rfl (i64 e12) (n2 agg2)<|yl rfl (i64 x13) (LOp.eqr (LOp.add rfl rfl rfl) (congrArg (ik .i64) hx22))<|ya rfl (i64 x13)<|zN ?_
            obtain ⟨z5, hz_5, h4_⟩ := oS h4_
            refine RunC.cutN (fun τ Γ => WeakLe τ [(1, ptr (z00v a0 a1 a2 a3)), (72, i64 a0), (73, i64 v11)] ∧ DeadLe Γ [] ∧ z5 = .inl ()) ?_ ?_
            ·refine RunC.block (RunC.loop (RunL.loopM (x := z5) (K0w_s2 a1 a2 v11) (fun (s : Int) τ Γ => WeakLe τ [(1, ptr (z00v a0 a1 a2 a3)), (4, i64 v11), (5, i64 s), (72, i64 a0), (73, i64 v11)] ∧ DeadLe Γ []) ?_ _ _ _ hz_5 ⟨⟨aR, aR, aR, aR, aR, trivial⟩, trivial⟩))
             rintro v14 τ5 Γ5 y5_ ⟨hw5, hd5⟩ h5_ ho5 hr5
             refine RunC.wl (τ' := [(1, ptr (z00v a0 a1 a2 a3)), (4, i64 v11), (5, i64 v14), (72, i64 a0), (73, i64 v11)]) (Γ' := []) hw5 hd5 ?_
             replace h5_ : K0w_b2 a1 a2 v11 v14 = some y5_ := h5_
             unfold K0w_b2 at h5_
             refine yS<|yS ?_
             obtain ⟨x15, hx23, h5_⟩ := oL h5_
             obtain ⟨e16, he24, h5_⟩ := oS h5_
             rcases oB h5_ with ⟨hc25, h5_⟩ | ⟨hc25, h5_⟩
             ·refine yW<|ym rfl (i64 v14)<|yl rfl (z00w a1 a2 a3) (LOp.fap und30 rfl siz22 rfl rfl rfl)<|yl rfl (z00y a1) (n2 agg22)<|ym rfl (i64 v11)<|yl rfl (i64 x15) (LOp.eqr (LOp.add rfl rfl rfl) (congrArg (ik .i64) hx23))<|yl rfl (ptr [i64 e16]) (LOp.le (LOp.ix (f := i64) und22 siz2 rfl rfl rfl rfl he24) ALe.ptr)<|yl rfl (i64 e16) (n2 agg2)<|yl rfl (b true) (LOp.eqb (LOp.lss rfl rfl rfl) hc25)<|zN ?_
              refine yT<|RunC.skip<|yS<|RunC.block<|yS ?_
              obtain ⟨x17, hx26, h5_⟩ := oL h5_
              obtain ⟨e18, he27, h5_⟩ := oS h5_
              obtain ⟨e19, he28, h5_⟩ := oS h5_
              rcases oB h5_ with ⟨hc29, h5_⟩ | ⟨hc29, h5_⟩
              ·refine RunC.region_draw (Γ' := []) 12 mixed 
                (tl rfl (z00x a2 a3) (LOp.fap und30 rfl siz22 rfl rfl rfl) <|
                (tl rfl (z00z a2) (n2 agg22) <|
                (tm rfl (i64 v14) <|
                (tl rfl (i64 x17) (LOp.eqr (LOp.sub rfl rfl rfl) (congrArg (ik .i64) hx26)) <|
                (tl rfl (ptr [i64 e18]) (LOp.le (LOp.ix (f := i64) und22 siz2 rfl rfl rfl rfl he27) ALe.ptr) <|
                (tl rfl (i64 e18) (n2 agg2) <|
                (tl rfl (z00x a2 a3) (LOp.fap und30 rfl siz22 rfl rfl rfl) <|
                (tl rfl (z00z a2) (n2 agg22) <|
                (tm rfl (i64 v14) <|
                (tl rfl (ptr [i64 e19]) (LOp.le (LOp.ix (f := i64) und22 siz2 rfl rfl rfl rfl he28) ALe.ptr) <|
                (tl rfl (i64 e19) (n2 agg2) <|
                (tl rfl (b true) (LOp.eqb (LOp.geq rfl rfl rfl) hc29) <|
                TR.nil)))))))))))) rfl (by kernel_rfl) rfl fills_nil rfl ?_
               iterate 12 refine ROps.dropS ?_
               refine ROps.drop0<|zN ?_
               refine RunC.wl (τ' := [(1, ptr (z00v a0 a1 a2 a3)), (4, i64 v11), (5, i64 v14), (72, i64 a0), (73, i64 v11), (103, b true)]) (Γ' := []) ⟨aR, aR, aR, aR, aR, aR, trivial⟩ trivial<|yT<|zQ<|ya rfl (b false)<|zN ?_
               refine RunC.ret ?_
               cases oI h5_
               have hx6_ := hr5 _ rfl
               subst hx6_
               cases oI h4_
               have hx7_ := hr4 _ rfl
               subst hx7_
               have hq := oI h
               subst q0
               exact bR rfl
              ·refine RunC.region_draw (Γ' := []) 12 mixed 
                (tl rfl (z00x a2 a3) (LOp.fap und30 rfl siz22 rfl rfl rfl) <|
                (tl rfl (z00z a2) (n2 agg22) <|
                (tm rfl (i64 v14) <|
                (tl rfl (i64 x17) (LOp.eqr (LOp.sub rfl rfl rfl) (congrArg (ik .i64) hx26)) <|
                (tl rfl (ptr [i64 e18]) (LOp.le (LOp.ix (f := i64) und22 siz2 rfl rfl rfl rfl he27) ALe.ptr) <|
                (tl rfl (i64 e18) (n2 agg2) <|
                (tl rfl (z00x a2 a3) (LOp.fap und30 rfl siz22 rfl rfl rfl) <|
                (tl rfl (z00z a2) (n2 agg22) <|
                (tm rfl (i64 v14) <|
                (tl rfl (ptr [i64 e19]) (LOp.le (LOp.ix (f := i64) und22 siz2 rfl rfl rfl rfl he28) ALe.ptr) <|
                (tl rfl (i64 e19) (n2 agg2) <|
                (tl rfl (b false) (LOp.eqb (LOp.geq rfl rfl rfl) hc29) <|
                TR.nil)))))))))))) rfl (by kernel_rfl) rfl fills_nil rfl ?_
               iterate 12 refine ROps.dropS ?_
               refine ROps.drop0<|zN ?_
               refine RunC.wl (τ' := [(1, ptr (z00v a0 a1 a2 a3)), (4, i64 v11), (5, i64 v14), (72, i64 a0), (73, i64 v11), (103, b false)]) (Γ' := []) ⟨aR, aR, aR, aR, aR, aR, trivial⟩ trivial<|yF<|RunC.skip ?_
               obtain ⟨x20, hx30, h5_⟩ := oL h5_
               refine yW<|ym rfl (i64 v14)<|yl rfl (i64 x20) (LOp.eqr (LOp.add rfl rfl rfl) (congrArg (ik .i64) hx30))<|ya rfl (i64 x20)<|zN ?_
               cases oI h5_
               exact ⟨_, rfl, ⟨aR, aR, aR, aR, aR, trivial⟩, trivial⟩
             ·refine yW<|ym rfl (i64 v14)<|yl rfl (z00w a1 a2 a3) (LOp.fap und30 rfl siz22 rfl rfl rfl)<|yl rfl (z00y a1) (n2 agg22)<|ym rfl (i64 v11)<|yl rfl (i64 x15) (LOp.eqr (LOp.add rfl rfl rfl) (congrArg (ik .i64) hx23))<|yl rfl (ptr [i64 e16]) (LOp.le (LOp.ix (f := i64) und22 siz2 rfl rfl rfl rfl he24) ALe.ptr)<|yl rfl (i64 e16) (n2 agg2)<|yl rfl (b false) (LOp.eqb (LOp.lss rfl rfl rfl) hc25)<|zN ?_
              refine yF<|RunC.exit ?_
              cases oI h5_
              have hx := ho5 _ rfl
              exact ⟨⟨aR, aR, aR, trivial⟩, trivial, hx⟩
            ·rintro τ8 Γ8 ⟨hw8, hd8, rfl⟩
             refine RunC.wl hw8 hd8 ?_
             replace h4_ : K0w_k2 v11 = some y4_ := h4_
             unfold K0w_k2 at h4_
             obtain ⟨x21, hx31, h4_⟩ := oL h4_
             refine yW<|yl rfl (i64 x21) (LOp.eqr (LOp.add rfl rfl rfl) (congrArg (ik .i64) hx31))<|ym rfl (i64 x21)<|zN ?_
             cases oI h4_
             exact ⟨_, rfl, ⟨aR, aR, aR, trivial⟩, trivial⟩
           ·refine yW<|yl rfl (b false) (LOp.eqb (LOp.lss rfl rfl rfl) hc20)<|zN ?_
            refine yS<|yF<|RunC.exit ?_
            cases oI h4_
            have hx := ho4 _ rfl
            exact ⟨trivial, trivial, hx⟩
          ·rintro τ9 Γ9 ⟨hw9, hd9, rfl⟩
           refine RunC.wl hw9 hd9 ?_
           replace h : K0w_k3 = some q0 := h
           unfold K0w_k3 at h
           refine zQ<|ya rfl (b true)<|zN ?_
           refine RunC.ret ?_
           have hq := oI h
           subst q0
           exact bR rfl
         ·refine yW<|yl rfl (z00w a1 a2 a3) (LOp.fap und30 rfl siz22 rfl rfl rfl)<|yl rfl (z00y a1) (n2 agg22)<|yd rfl (b true) (TOp.eqb (yc ent105 rfl rfl (bS bN) (K0i_ok a1 r7 hf13)) hc14)<|yl rfl (b false) n1<|ym rfl (b false)<|yl rfl (z00x a2 a3) (LOp.fap und30 rfl siz22 rfl rfl rfl)<|yl rfl (z00z a2) (n2 agg22)<|yl rfl (ptr (z00v a0 a1 a2 a3)) (LOp.fap und30 rfl siz2 rfl rfl rfl)<|yl rfl (i64 a0) (n2 agg2)<|yl rfl (i64 x8) (LOp.eqr (LOp.sub rfl rfl rfl) (congrArg (ik .i64) hx15))<|yd rfl (b true) (TOp.eqb (yc ent106 rfl rfl (bS (bP bN0)) (K0m_ok a2 0 x8 r9 hf16)) hc17)<|yl rfl (b false) n1<|yl rfl (b false) yp<|ym rfl (b false)<|yl rfl (ptr [(sFc a3)]) (LOp.fap und30 rfl siz23 rfl rfl rfl)<|yl rfl (sFc a3) (n2 agg23)<|yd rfl (b false) (TOp.eqb (yc ent81 rfl rfl (bS bN) (K0v_ok a3 r10 hf18)) hc19)<|yl rfl (b true) n0<|yl rfl (b true) yp<|zN ?_
          refine RunC.wl (τ' := [(1, ptr (z00v a0 a1 a2 a3)), (70, b true)]) (Γ' := []) ⟨aR, aR, trivial⟩ trivial<|yT<|zQ<|ya rfl (b false)<|zN ?_
          refine RunC.ret ?_
          have hq := oI h
          subst q0
          exact bR rfl
        ·refine yW<|yl rfl (z00w a1 a2 a3) (LOp.fap und30 rfl siz22 rfl rfl rfl)<|yl rfl (z00y a1) (n2 agg22)<|yd rfl (b true) (TOp.eqb (yc ent105 rfl rfl (bS bN) (K0i_ok a1 r7 hf13)) hc14)<|yl rfl (b false) n1<|ym rfl (b false)<|yl rfl (z00x a2 a3) (LOp.fap und30 rfl siz22 rfl rfl rfl)<|yl rfl (z00z a2) (n2 agg22)<|yl rfl (ptr (z00v a0 a1 a2 a3)) (LOp.fap und30 rfl siz2 rfl rfl rfl)<|yl rfl (i64 a0) (n2 agg2)<|yl rfl (i64 x8) (LOp.eqr (LOp.sub rfl rfl rfl) (congrArg (ik .i64) hx15))<|yd rfl (b false) (TOp.eqb (yc ent106 rfl rfl (bS (bP bN0)) (K0m_ok a2 0 x8 r9 hf16)) hc17)<|yl rfl (b true) n0<|yl rfl (b true) yp<|ym rfl (b true)<|yR rfl<|yR rfl<|yR rfl<|yR rfl<|yl rfl (b true) yq<|zN ?_
         refine RunC.wl (τ' := [(1, ptr (z00v a0 a1 a2 a3)), (70, b true)]) (Γ' := []) ⟨aR, aR, trivial⟩ trivial<|yT<|zQ<|ya rfl (b false)<|zN ?_
         refine RunC.ret ?_
         have hq := oI h
         subst q0
         exact bR rfl
       ·refine yW<|yl rfl (z00w a1 a2 a3) (LOp.fap und30 rfl siz22 rfl rfl rfl)<|yl rfl (z00y a1) (n2 agg22)<|yd rfl (b false) (TOp.eqb (yc ent105 rfl rfl (bS bN) (K0i_ok a1 r7 hf13)) hc14)<|yl rfl (b true) n0<|ym rfl (b true)<|yR rfl<|yR rfl<|yR rfl<|yR rfl<|yR rfl<|yR rfl<|yR rfl<|yl rfl (b true) yq<|ym rfl (b true)<|yR rfl<|yR rfl<|yR rfl<|yR rfl<|yl rfl (b true) yq<|zN ?_
        refine RunC.wl (τ' := [(1, ptr (z00v a0 a1 a2 a3)), (70, b true)]) (Γ' := []) ⟨aR, aR, trivial⟩ trivial<|yT<|zQ<|ya rfl (b false)<|zN ?_
        refine RunC.ret ?_
        have hq := oI h
        subst q0
        exact bR rfl
 ·refine RunC.region_draw (Γ' := []) 43 mixed 
   (tl rfl (ptr (z00v a0 a1 a2 a3)) (LOp.fap und30 rfl siz2 rfl rfl rfl) <|
   (tl rfl (i64 a0) (n2 agg2) <|
   (TR.d (r := b false) (fs := []) rfl rfl (TOp.eqb (yc ent82 rfl rfl (bP (bP bN0)) (K0f_ok a0 1 32 r2 hf2)) hc3) <|
   (tl rfl (b true) (LOp.eqb (LOp.not rfl rfl) rfl) <|
   (tm rfl (b true) <|
   (ts rfl <|
   (ts rfl <|
   (ts rfl <|
   (ts rfl <|
   (ts rfl <|
   (ts rfl <|
   (ts rfl <|
   (tl rfl (b true) yq <|
   (tm rfl (b true) <|
   (ts rfl <|
   (ts rfl <|
   (tl rfl (b true) yq <|
   (tm rfl (b true) <|
   (ts rfl <|
   (ts rfl <|
   (ts rfl <|
   (ts rfl <|
   (ts rfl <|
   (ts rfl <|
   (ts rfl <|
   (tl rfl (b true) yq <|
   (tm rfl (b true) <|
   (ts rfl <|
   (ts rfl <|
   (ts rfl <|
   (ts rfl <|
   (ts rfl <|
   (tl rfl (b true) yq <|
   (tm rfl (b true) <|
   (ts rfl <|
   (ts rfl <|
   (ts rfl <|
   (ts rfl <|
   (ts rfl <|
   (ts rfl <|
   (ts rfl <|
   (ts rfl <|
   (tl rfl (b true) yq <|
   TR.nil))))))))))))))))))))))))))))))))))))))))))) rfl (by kernel_rfl) rfl fills_nil rfl ?_
  iterate 43 refine ROps.dropS ?_
  refine ROps.drop0<|zN ?_
  refine RunC.wl (τ' := [(1, ptr (z00v a0 a1 a2 a3)), (51, b true)]) (Γ' := []) ⟨aR, aR, trivial⟩ trivial<|yT<|zQ<|ya rfl (b false)<|zN ?_
  refine RunC.ret ?_
  have hq := oI h
  subst q0
  exact bR rfl

def K0x (a0 : Int) (a1 : F) (a2 : List (Int × Int × F)) (a3 : Int) : Option ((List (Int × Int × F))) :=
 olet (mput a2 a3 a0 a1) fun (L1 : List (Int × Int × F)) =>
 some L1
theorem K0x_ok (a0 : Int) (a1 : F) (a2 : List (Int × Int × F)) (a3 : Int) (q0 : List (Int × Int × F)) (h : K0x a0 a1 a2 a3 = some q0) : Ev Try.prog 176 [i64 a0, f32 a1, optr 0 0 0, optr 2 0 0] [⟨0, some [mref 1 0]⟩, ⟨0, some (mpc a2)⟩, ⟨0, some [i64 a3]⟩] (tup []) [⟨0, some [mref 1 0]⟩, ⟨0, some (mpc q0)⟩, ⟨0, some [i64 a3]⟩] := by
 refine Ev.start Try.func176 rfl rfl 0 (τ := [(0, i64 a0), (1, f32 a1), (2, optr 0 0 0), (3, optr 2 0 0)]) rfl (Γ' := [⟨0, some [mref 1 0]⟩, ⟨0, some (mpc a2)⟩, ⟨0, some [i64 a3]⟩]) rfl (n := 22) rfl (g := 3) rfl (by decide) ?_
 unfold K0x at h
 obtain ⟨L1, hx1, h⟩ := oL h
 refine yW<|yd rfl (mref 1 0) (TOp.load1_o rfl rfl agg98 rfl rfl)<|yd rfl (i64 a3) (TOp.load1_o rfl rfl agg2 rfl rfl)<|ym rfl (i64 a0)<|yl rfl (agg [i64 a3, i64 a0]) (LOp.build (qs := [(0, [i64 a3]), (1, [i64 a0])]) zer101 zok101 und101 plc101 rfl ⟨rfl, ⟨_, ALe.refl _, rfl⟩, ⟨rfl, ⟨_, ALe.refl _, rfl⟩, trivial⟩⟩ rfl)<|ym rfl (f32 a1)<|ROps.mput (L' := L1) (Γ' := [⟨0, some [mref 1 0]⟩, ⟨0, some (mpc L1)⟩, ⟨0, some [i64 a3]⟩]) rfl und98 pky101 rfl rfl rfl rfl aR rfl hx1 rfl<|zN ?_
 have hq := oI h
 subst q0
 exact yB (tup []) [(0, 0), (1, 0), (2, 0)] (Res.zero rfl) (SelL.cells rfl (by first | rfl | simp [ren, rens, sigma, rens_f32, rens_f64, rens_i64, rens_ik, rens_str, rens_cp, rens_mpc]) rfl (SelL.map rfl (SelL.cells rfl (by first | rfl | simp [ren, rens, sigma, rens_f32, rens_f64, rens_i64, rens_ik, rens_str, rens_cp, rens_mpc]) rfl trivial)))

def K0y_b1 (a1 : List Int) (a2 : List Int) (a3 : List F) (a4 : Int) (a6 : Int) (L2 : List (Int × Int × F)) (v3 : Int) : Option (LR ((List (Int × Int × F)) × Int) ((List (Int × Int × F))) ((List (Int × Int × F)))) :=
 olet (IntKind.i64.wrap (a4 + 1)) fun (x4 : Int) =>
 obind (at? a1 x4) fun (e5 : Int) =>
 bsel (decide (v3 < e5)) (
  obind (at? a2 v3) fun (e8 : Int) =>
  obind (at? a3 v3) fun (e9 : F) =>
  obind (K0x e8 e9 L2 a6) fun (r10 : List (Int × Int × F)) =>
  olet (IntKind.i64.wrap (v3 + 1)) fun (x11 : Int) =>
  some (LR.next (r10, x11))) (
  some (LR.out L2))
def K0y_s1 (a1 : List Int) (a2 : List Int) (a3 : List F) (a4 : Int) (a6 : Int) : ((List (Int × Int × F)) × Int) → Option (LR ((List (Int × Int × F)) × Int) ((List (Int × Int × F))) ((List (Int × Int × F)))) := fun s => K0y_b1 a1 a2 a3 a4 a6 s.1 s.2
def K0y_k1 (L12 : List (Int × Int × F)) : Option ((List (Int × Int × F))) :=
 some L12
def K0y (a0 : Int) (a1 : List Int) (a2 : List Int) (a3 : List F) (a4 : Int) (a5 : List (Int × Int × F)) (a6 : Int) : Option ((List (Int × Int × F))) :=
 obind (at? a1 a4) fun (e1 : Int) =>
 obind (loopM (K0y_s1 a1 a2 a3 a4 a6) (a5, e1)) fun z => osum z (fun e => K0y_k1 e) (fun r => some r)
abbrev z010 (a0 : Int) (a1 : List Int) (a2 : List Int) (a3 : List F) : List AV := [i64 a0, sl a1.length (a1.map i64), sl a2.length (a2.map i64), (sFc a3)]
abbrev z011 (L2 : List (Int × Int × F)) (a6 : Int) : List Ob := [⟨0, some [mref 1 0]⟩, ⟨0, some (mpc L2)⟩, ⟨0, some [i64 a6]⟩]
abbrev z012 (r10 : List (Int × Int × F)) (a6 : Int) : List Ob := [⟨0, some [mref 1 0]⟩, ⟨0, some (mpc r10)⟩, ⟨0, some [i64 a6]⟩]
theorem K0y_ok (a0 : Int) (a1 : List Int) (a2 : List Int) (a3 : List F) (a4 : Int) (a5 : List (Int × Int × F)) (a6 : Int) (q0 : List (Int × Int × F)) (h : K0y a0 a1 a2 a3 a4 a5 a6 = some q0) : Ev Try.prog 84 [agg [i64 a0, sl a1.length (a1.map i64), sl a2.length (a2.map i64), (sFc a3)], i64 a4, fn (.func 176) [] [optr 0 0 0, optr 2 0 0]] [⟨0, some [mref 1 0]⟩, ⟨0, some (mpc a5)⟩, ⟨0, some [i64 a6]⟩] (tup []) [⟨0, some [mref 1 0]⟩, ⟨0, some (mpc q0)⟩, ⟨0, some [i64 a6]⟩] := by
 refine Ev.start Try.func84 rfl rfl 0 (τ := [(0, agg (z010 a0 a1 a2 a3)), (1, i64 a4), (2, fn (.func 176) [] [optr 0 0 0, optr 2 0 0])]) rfl (Γ' := [⟨0, some [mref 1 0]⟩, ⟨0, some (mpc a5)⟩, ⟨0, some [i64 a6]⟩]) rfl (n := 68) rfl (g := 3) rfl (by decide) ?_
 unfold K0y at h
 refine zQ<|yd rfl (ptr (z010 a0 a1 a2 a3)) (TOp.box_s rfl rfl rfl)<|zN ?_
 refine yS ?_
 obtain ⟨e1, he1, h⟩ := oS h
 refine yW<|yl rfl (ptr [sl a1.length (a1.map i64), sl a2.length (a2.map i64), (sFc a3)]) (LOp.fap und30 rfl siz22 rfl rfl rfl)<|yl rfl (sl a1.length (a1.map i64)) (n2 agg22)<|ym rfl (i64 a4)<|yl rfl (ptr [i64 e1]) (LOp.le (LOp.ix (f := i64) und22 siz2 rfl rfl rfl rfl he1) ALe.ptr)<|yl rfl (i64 e1) (n2 agg2)<|ya rfl (i64 e1)<|zN ?_
 obtain ⟨z2, hz_2, h⟩ := oS h
 refine RunC.cutN (fun τ Γ => ∃ (L12 : List (Int × Int × F)), WeakLe τ [] ∧ DeadLe Γ [⟨0, some [mref 1 0]⟩, ⟨0, some (mpc L12)⟩, ⟨0, some [i64 a6]⟩] ∧ z2 = .inl L12) ?_ ?_
 ·refine RunC.block (RunC.loop (RunL.loopM (x := z2) (K0y_s1 a1 a2 a3 a4 a6) (fun (s : (List (Int × Int × F)) × Int) τ Γ => WeakLe τ [(1, i64 a4), (2, fn (.func 176) [] [optr 0 0 0, optr 2 0 0]), (3, ptr (z010 a0 a1 a2 a3)), (6, i64 s.2)] ∧ DeadLe Γ [⟨0, some [mref 1 0]⟩, ⟨0, some (mpc s.1)⟩, ⟨0, some [i64 a6]⟩]) ?_ _ _ _ hz_2 ⟨⟨aR, aR, aR, aR, trivial⟩, ⟨dR, dR, dR, trivial⟩⟩))
  rintro ⟨L2, v3⟩ τ2 Γ2 y2_ ⟨hw2, hd2⟩ h2_ ho2 hr2
  refine RunC.wl (τ' := [(1, i64 a4), (2, fn (.func 176) [] [optr 0 0 0, optr 2 0 0]), (3, ptr (z010 a0 a1 a2 a3)), (6, i64 v3)]) (Γ' := (z011 L2 a6)) hw2 hd2 ?_
  replace h2_ : K0y_b1 a1 a2 a3 a4 a6 L2 v3 = some y2_ := h2_
  unfold K0y_b1 at h2_
  refine yS<|yS ?_
  obtain ⟨x4, hx2, h2_⟩ := oL h2_
  obtain ⟨e5, he3, h2_⟩ := oS h2_
  rcases oB h2_ with ⟨hc4, h2_⟩ | ⟨hc4, h2_⟩
  ·refine yW<|ym rfl (i64 v3)<|yl rfl (ptr [sl a1.length (a1.map i64), sl a2.length (a2.map i64), (sFc a3)]) (LOp.fap und30 rfl siz22 rfl rfl rfl)<|yl rfl (sl a1.length (a1.map i64)) (n2 agg22)<|ym rfl (i64 a4)<|yl rfl (i64 x4) (LOp.eqr (LOp.add rfl rfl rfl) (congrArg (ik .i64) hx2))<|yl rfl (ptr [i64 e5]) (LOp.le (LOp.ix (f := i64) und22 siz2 rfl rfl rfl rfl he3) ALe.ptr)<|yl rfl (i64 e5) (n2 agg2)<|yl rfl (b true) (LOp.eqb (LOp.lss rfl rfl rfl) hc4)<|zN ?_
   refine yT<|RunC.skip<|yS<|RunC.block ?_
   obtain ⟨e8, he7, h2_⟩ := oS h2_
   obtain ⟨e9, he8, h2_⟩ := oS h2_
   obtain ⟨r10, hf9, h2_⟩ := oS h2_
   refine RunC.region_draw (Γ' := (z011 L2 a6)) 11 mixed 
    (tm rfl (fn (.func 176) [] [optr 0 0 0, optr 2 0 0]) <|
    (tl rfl (ptr [sl a2.length (a2.map i64), (sFc a3)]) (LOp.fap und30 rfl siz22 rfl rfl rfl) <|
    (tl rfl (sl a2.length (a2.map i64)) (n2 agg22) <|
    (tm rfl (i64 v3) <|
    (tl rfl (ptr [i64 e8]) (LOp.le (LOp.ix (f := i64) und22 siz2 rfl rfl rfl rfl he7) ALe.ptr) <|
    (tl rfl (i64 e8) (n2 agg2) <|
    (tl rfl (ptr [(sFc a3)]) (LOp.fap und30 rfl siz23 rfl rfl rfl) <|
    (tl rfl (sFc a3) (n2 agg23) <|
    (tm rfl (i64 v3) <|
    (tl rfl (ptr [f32 e9]) (LOp.le (LOp.ix (f := f32) und23 siz26 rfl rfl rfl rfl he8) ALe.ptr) <|
    (tl rfl (f32 e9) (n2 agg26) <|
    TR.nil))))))))))) rfl (by kernel_rfl) rfl fills_nil rfl ?_
   iterate 11 refine ROps.dropS ?_
   refine ROps.drop0<|ROps.callO (A := [i64 e8, f32 e9, optr 0 0 0, optr 2 0 0]) (args := [i64 e8, f32 e9, optr 0 0 0, optr 2 0 0]) (Γc := (z011 L2 a6)) (Γc' := (z012 r10 a6)) (r' := tup []) (Γ' := (z012 r10 a6)) [(0, 0), (1, 0), (2, 0)] [] rfl (CallAs.fn ent176 rfl rfl rfl rfl) rfl rfl (SelOk.of (show List.Nodup [0, 1, 2] from by decide) (SelL.cells0 rfl (by simp [ren, rens, sigma, rens_f32, rens_f64, rens_i64, rens_ik, rens_str, rens_cp, rens_mpc]) rfl (SelL.map0 rfl (SelL.cells0 rfl (by simp [ren, rens, sigma, rens_f32, rens_f64, rens_i64, rens_ik, rens_str, rens_cp, rens_mpc]) rfl trivial)))) (live_of ⟨⟨_, _, rfl⟩, ⟨_, _, rfl⟩, ⟨_, _, rfl⟩, trivial⟩) (by simp [ren, rens, sigma, rens_f32, rens_f64, rens_i64, rens_ik, rens_str, rens_cp, rens_mpc]) rfl (K0x_ok e8 e9 L2 a6 r10 hf9) rfl (news_of trivial) (show List.Nodup [0, 1, 2] from by decide) (by simp [ren, rens, sigma]) (by simp [backOb, sigma, ren, rens, rens_f32, rens_f64, rens_i64, rens_ik, rens_str, rens_cp, rens_mpc] <;> omega)<|zN ?_
   refine RunC.wl (τ' := [(1, i64 a4), (2, fn (.func 176) [] [optr 0 0 0, optr 2 0 0]), (3, ptr (z010 a0 a1 a2 a3)), (6, i64 v3)]) (Γ' := (z012 r10 a6)) ⟨aR, aR, aR, aR, trivial⟩ ⟨dR, dR, dR, trivial⟩ ?_
   obtain ⟨x11, hx10, h2_⟩ := oL h2_
   refine yW<|ym rfl (i64 v3)<|yl rfl (i64 x11) (LOp.eqr (LOp.add rfl rfl rfl) (congrArg (ik .i64) hx10))<|ya rfl (i64 x11)<|zN ?_
   cases oI h2_
   exact ⟨_, rfl, ⟨aR, aR, aR, aR, trivial⟩, ⟨dR, dR, dR, trivial⟩⟩
  ·refine yW<|ym rfl (i64 v3)<|yl rfl (ptr [sl a1.length (a1.map i64), sl a2.length (a2.map i64), (sFc a3)]) (LOp.fap und30 rfl siz22 rfl rfl rfl)<|yl rfl (sl a1.length (a1.map i64)) (n2 agg22)<|ym rfl (i64 a4)<|yl rfl (i64 x4) (LOp.eqr (LOp.add rfl rfl rfl) (congrArg (ik .i64) hx2))<|yl rfl (ptr [i64 e5]) (LOp.le (LOp.ix (f := i64) und22 siz2 rfl rfl rfl rfl he3) ALe.ptr)<|yl rfl (i64 e5) (n2 agg2)<|yl rfl (b false) (LOp.eqb (LOp.lss rfl rfl rfl) hc4)<|zN ?_
   refine yF<|RunC.exit ?_
   cases oI h2_
   have hx := ho2 _ rfl
   exact ⟨L2, trivial, ⟨dR, dR, dR, trivial⟩, hx⟩
 ·rintro τ3 Γ3 ⟨L12, hw3, hd3, rfl⟩
  replace h : K0y_k1 L12 = some q0 := h
  unfold K0y_k1 at h
  refine bodyQ.wl hw3 hd3 ?_
  have hq := oI h
  subst q0
  exact yB (tup []) [(0, 0), (1, 0), (2, 0)] (Res.zero rfl) (SelL.cells rfl (by first | rfl | simp [ren, rens, sigma, rens_f32, rens_f64, rens_i64, rens_ik, rens_str, rens_cp, rens_mpc]) rfl (SelL.map rfl (SelL.cells rfl (by first | rfl | simp [ren, rens, sigma, rens_f32, rens_f64, rens_i64, rens_ik, rens_str, rens_cp, rens_mpc]) rfl trivial)))

def K0z_b1 (a0 : Int) (a1 : List Int) (a2 : List Int) (a3 : List F) (L2 : List (Int × Int × F)) (v3 : Int) : Option (LR ((List (Int × Int × F)) × Int) ((List (Int × Int × F))) ((List (Int × Int × F)))) :=
 bsel (decide (v3 < a0)) (
  obind (K0y a0 a1 a2 a3 v3 L2 v3) fun (r4 : List (Int × Int × F)) =>
  olet (IntKind.i64.wrap (v3 + 1)) fun (x5 : Int) =>
  some (LR.next (r4, x5))) (
  some (LR.out L2))
def K0z_s1 (a0 : Int) (a1 : List Int) (a2 : List Int) (a3 : List F) : ((List (Int × Int × F)) × Int) → Option (LR ((List (Int × Int × F)) × Int) ((List (Int × Int × F))) ((List (Int × Int × F)))) := fun s => K0z_b1 a0 a1 a2 a3 s.1 s.2
def K0z_k1 (L7 : List (Int × Int × F)) : Option ((List (Int × Int × F))) :=
 some L7
def K0z (a0 : Int) (a1 : List Int) (a2 : List Int) (a3 : List F) : Option ((List (Int × Int × F))) :=
 obind (loopM (K0z_s1 a0 a1 a2 a3) (([] : List (Int × Int × F)), 0)) fun z => osum z (fun e => K0z_k1 e) (fun r => some r)
abbrev z013 (a0 : Int) (a1 : List Int) (a2 : List Int) (a3 : List F) : List AV := [i64 a0, sl a1.length (a1.map i64), sl a2.length (a2.map i64), (sFc a3)]
theorem K0z_ok (a0 : Int) (a1 : List Int) (a2 : List Int) (a3 : List F) (q0 : List (Int × Int × F)) (h : K0z a0 a1 a2 a3 = some q0) : Ev Try.prog 83 [agg [i64 a0, sl a1.length (a1.map i64), sl a2.length (a2.map i64), (sFc a3)]] [] (mref 0 0) [⟨0, some (mpc q0)⟩] := by
 refine yE Try.func83 3 35 0 ([(0, agg (z013 a0 a1 a2 a3))]) [o0, o0, o0] rfl ?_
 unfold K0z at h
 refine zQ<|yd rfl (ptr (z013 a0 a1 a2 a3)) (TOp.box_s rfl rfl rfl)<|ya rfl (x (.map none))<|zN ?_
 refine zQ<|ye rfl (mref 0 1) ([⟨1, some (mpc ([] : List (Int × Int × F)))⟩, o0, o0]) (TOp.mkMap (g := o0) 0 rfl rfl)<|ye rfl (optr 1 1 0) ([⟨1, some (mpc ([] : List (Int × Int × F)))⟩, ⟨1, some [x (.map none)]⟩, o0]) (TOp.alloc_o (g := o0) 1 rfl zer98 zok98 rfl)<|ys (mref 0 1) [mref 0 1] ([⟨1, some (mpc ([] : List (Int × Int × F)))⟩, ⟨1, some [mref 0 1]⟩, o0]) siz98<|zN ?_
 refine yS<|zQ<|yl rfl (ptr (z013 a0 a1 a2 a3)) (LOp.fap und30 rfl siz2 rfl rfl rfl)<|yl rfl (i64 a0) (n2 agg2)<|ym rfl (i64 0)<|zN ?_
 obtain ⟨z2, hz_2, h⟩ := oS h
 refine RunC.cutN (fun τ Γ => ∃ (L7 : List (Int × Int × F)) (u6 : Nat), WeakLe τ [(3, optr 1 1 0)] ∧ DeadLe Γ [⟨1, some (mpc L7)⟩, ⟨1, some [mref 0 1]⟩, ⟨u6, none⟩] ∧ z2 = .inl L7) ?_ ?_
 ·refine RunC.block (RunC.loop (RunL.loopM (x := z2) (K0z_s1 a0 a1 a2 a3) (fun (s : (List (Int × Int × F)) × Int) τ Γ => ∃ (u1 : Nat), WeakLe τ [(1, ptr (z013 a0 a1 a2 a3)), (3, optr 1 1 0), (7, i64 a0), (8, i64 s.2)] ∧ DeadLe Γ [⟨1, some (mpc s.1)⟩, ⟨1, some [mref 0 1]⟩, ⟨u1, none⟩]) ?_ _ _ _ hz_2 ⟨0, ⟨aR, aR, aR, aR, trivial⟩, ⟨dR, dR, dL, trivial⟩⟩))
  rintro ⟨L2, v3⟩ τ2 Γ2 y2_ ⟨u1, hw2, hd2⟩ h2_ ho2 hr2
  refine RunC.wl (τ' := [(1, ptr (z013 a0 a1 a2 a3)), (3, optr 1 1 0), (7, i64 a0), (8, i64 v3)]) (Γ' := [⟨1, some (mpc L2)⟩, ⟨1, some [mref 0 1]⟩, ⟨u1, none⟩]) hw2 hd2 ?_
  replace h2_ : K0z_b1 a0 a1 a2 a3 L2 v3 = some y2_ := h2_
  unfold K0z_b1 at h2_
  refine yS ?_
  rcases oB h2_ with ⟨hc1, h2_⟩ | ⟨hc1, h2_⟩
  ·refine yW<|yl rfl (b true) (LOp.eqb (LOp.lss rfl rfl rfl) hc1)<|zN ?_
   refine yS<|yT<|RunC.skip<|yS<|RunC.block<|zQ<|ym rfl (i64 v3)<|ye rfl (optr 2 (u1 + 1) 0) ([⟨1, some (mpc L2)⟩, ⟨1, some [mref 0 1]⟩, ⟨(u1 + 1), some [i64 0]⟩]) (TOp.alloc_o (g := ⟨u1, none⟩) 2 rfl zer2 zok2 rfl)<|ys (i64 v3) [i64 v3] ([⟨1, some (mpc L2)⟩, ⟨1, some [mref 0 1]⟩, ⟨(u1 + 1), some [i64 v3]⟩]) siz2<|zN ?_
   obtain ⟨r4, hf2, h2_⟩ := oS h2_
   refine yW<|yl rfl (agg (z013 a0 a1 a2 a3)) (yL agg30 siz30)<|yd rfl (i64 v3) (TOp.load1_o rfl rfl agg2 rfl rfl)<|yl rfl (fn (.func 176) [] [optr 1 1 0, optr 2 (u1 + 1) 0]) (LOp.makeFunc rfl rfl)<|ROps.callO (A := [agg (z013 a0 a1 a2 a3), i64 v3, fn (.func 176) [] [optr 1 1 0, optr 2 (u1 + 1) 0]]) (args := [agg (z013 a0 a1 a2 a3), i64 v3, fn (.func 176) [] [optr 0 0 0, optr 2 0 0]]) (Γc := [⟨0, some [mref 1 0]⟩, ⟨0, some (mpc L2)⟩, ⟨0, some [i64 v3]⟩]) (Γc' := [⟨0, some [mref 1 0]⟩, ⟨0, some (mpc r4)⟩, ⟨0, some [i64 v3]⟩]) (r' := tup []) (Γ' := [⟨1, some (mpc r4)⟩, ⟨1, some [mref 0 1]⟩, ⟨(u1 + 1), some [i64 v3]⟩]) [(1, 1), (0, 1), (2, (u1 + 1))] [] rfl (CallAs.func ent84 rfl rfl) rfl rfl (SelOk.of (show List.Nodup [1, 0, 2] from by decide) (SelL.cells0 rfl (by simp [ren, rens, sigma, rens_f32, rens_f64, rens_i64, rens_ik, rens_str, rens_cp, rens_mpc]) rfl (SelL.map0 rfl (SelL.cells0 rfl (by simp [ren, rens, sigma, rens_f32, rens_f64, rens_i64, rens_ik, rens_str, rens_cp, rens_mpc]) rfl trivial)))) (live_of ⟨⟨_, _, rfl⟩, ⟨_, _, rfl⟩, ⟨_, _, rfl⟩, trivial⟩) (by simp [ren, rens, sigma, rens_f32, rens_f64, rens_i64, rens_ik, rens_str, rens_cp, rens_mpc]) (lts_cons (lt_agg (lts_cons rfl (lts_cons (lt_slk (fun _ => rfl)) (lts_cons (lt_slk (fun _ => rfl)) (lts_cons (lt_slk (fun _ => rfl)) lts_nil))))) (lts_cons rfl (lts_cons rfl lts_nil))) (K0y_ok a0 a1 a2 a3 v3 L2 v3 r4 hf2) rfl (news_of trivial) (show List.Nodup [1, 0, 2] from by decide) (by simp [ren, rens, sigma]) (by simp [backOb, sigma, ren, rens, rens_f32, rens_f64, rens_i64, rens_ik, rens_str, rens_cp, rens_mpc] <;> omega)<|zN ?_
   refine RunC.wl (τ' := [(1, ptr (z013 a0 a1 a2 a3)), (3, optr 1 1 0), (7, i64 a0), (8, i64 v3)]) (Γ' := [⟨1, some (mpc r4)⟩, ⟨1, some [mref 0 1]⟩, ⟨(u1 + 1), none⟩]) ⟨aR, aR, aR, aR, trivial⟩ ⟨dR, dR, dL, trivial⟩ ?_
   obtain ⟨x5, hx3, h2_⟩ := oL h2_
   refine yW<|yl rfl (i64 x5) (LOp.eqr (LOp.add rfl rfl rfl) (congrArg (ik .i64) hx3))<|ym rfl (i64 x5)<|zN ?_
   cases oI h2_
   exact ⟨_, rfl, (u1 + 1), ⟨aR, aR, aR, aR, trivial⟩, ⟨dR, dR, dL, trivial⟩⟩
  ·refine yW<|yl rfl (b false) (LOp.eqb (LOp.lss rfl rfl rfl) hc1)<|zN ?_
   refine yS<|yF<|RunC.exit ?_
   cases oI h2_
   have hx := ho2 _ rfl
   exact ⟨L2, u1, ⟨aR, trivial⟩, ⟨dR, dR, dL, trivial⟩, hx⟩
 ·rintro τ3 Γ3 ⟨L7, u6, hw3, hd3, rfl⟩
  refine RunC.wl hw3 hd3 ?_
  replace h : K0z_k1 L7 = some q0 := h
  unfold K0z_k1 at h
  refine zQ<|yd rfl (mref 0 1) (TOp.load1_o rfl rfl agg98 rfl rfl)<|ya rfl (mref 0 1)<|zN ?_
  refine RunC.ret ?_
  have hq := oI h
  subst q0
  exact yB (mref 0 1) [(0, 1)] (Res.one rfl (RV.tmp rfl)) (SelL.map0 rfl trivial)
end
end Go.Proofs.Ytfhbfpdeafpelaa
