/- Generated. -/
import Derived.Test.YtkdociaoknmgbaaTys
namespace Go.Proofs.Ytkdociaoknmgbaa
open Go Go.AM Go.AM.AV
set_option maxRecDepth 20000
set_option maxHeartbeats 4000000
set_option linter.unusedVariables false
set_option linter.unusedSimpArgs false
noncomputable section
def w_b10Long (a0 : List Int) (a1 : List Int) : Option (Bool) :=
 bsel (decide (1048576 < (a0.length : Int))) (
  some true) (
  some (decide (1048576 < (a1.length : Int))))
theorem w_b10Long_ok (a0 : List Int) (a1 : List Int) (q0 : Bool) (h : w_b10Long a0 a1 = some q0) : Ev Try.prog 7 [sl a0.length (a0.map (ik .u8)), sl a1.length (a1.map (ik .u8))] [] (b q0) [] := by
 refine yE Try.func7 0 27 0 [(0, sl a0.length (a0.map (ik .u8))), (1, sl a1.length (a1.map (ik .u8)))] [] rfl ?_
 unfold w_b10Long at h
 refine zQ<|ya rfl (b false)<|zN ?_
 refine yS ?_
 rcases oB h with ⟨hc1, h⟩ | ⟨hc1, h⟩
 ·refine yW<|ym rfl (sl a0.length (a0.map (ik .u8)))<|yl rfl (i64 (a0.length : Int)) (LOp.len_sl und22 rfl rfl)<|yl rfl (b true) (LOp.eqb (LOp.gtr rfl rfl rfl) hc1)<|ym rfl (b true)<|ROps.s rfl rfl rfl<|ROps.s rfl rfl rfl<|ROps.s rfl rfl rfl<|yl rfl (b true) yq<|ya rfl (b true)<|zN ?_
  refine RunC.ret ?_
  have hq := oI h
  subst q0
  exact bodyQ.pure (.inr rfl) rfl (Res.one rfl (RV.tmp rfl))
 ·refine yW<|ym rfl (sl a0.length (a0.map (ik .u8)))<|yl rfl (i64 (a0.length : Int)) (LOp.len_sl und22 rfl rfl)<|yl rfl (b false) (LOp.eqb (LOp.gtr rfl rfl rfl) hc1)<|ym rfl (b false)<|ym rfl (sl a1.length (a1.map (ik .u8)))<|yl rfl (i64 (a1.length : Int)) (LOp.len_sl und22 rfl rfl)<|yl rfl (b (decide (1048576 < (a1.length : Int)))) (LOp.gtr rfl rfl rfl)<|yl rfl (b (decide (1048576 < (a1.length : Int)))) yp<|ya rfl (b (decide (1048576 < (a1.length : Int))))<|zN ?_
  refine RunC.ret ?_
  have hq := oI h
  subst q0
  exact bodyQ.pure (.inr rfl) rfl (Res.one rfl (RV.tmp rfl))
def w_b10At (a0 : List Int) (a1 : Int) (a2 : Int) : Option (Int) :=
 bsel (decide (a2 ≤ 1)) (
  some 0) (
  bsel (decide (a1 < (a0.length : Int))) (
   obind (at? a0 a1) fun (e1 : Int) =>
   olet (IntKind.i64.wrap e1) fun (x2 : Int) =>
   need (!decide (a2 = 0)) <|
   olet (x2.tmod a2) fun (x3 : Int) =>
   some x3) (
   olet (IntKind.i64.wrap (a1 * 37)) fun (x4 : Int) =>
   olet (IntKind.i64.wrap (x4 + 11)) fun (x5 : Int) =>
   need (!decide (a2 = 0)) <|
   olet (x5.tmod a2) fun (x6 : Int) =>
   some x6))
theorem w_b10At_ok (a0 : List Int) (a1 : Int) (a2 : Int) (q0 : Int) (h : w_b10At a0 a1 a2 = some q0) : Ev Try.prog 8 [sl a0.length (a0.map (ik .u8)), i64 a1, i64 a2] [] (i64 q0) [] := by
 refine yE Try.func8 0 51 0 [(0, sl a0.length (a0.map (ik .u8))), (1, i64 a1), (2, i64 a2)] [] rfl ?_
 unfold w_b10At at h
 refine zQ<|ya rfl (i64 0)<|zN ?_
 refine yS<|yS ?_
 rcases oB h with ⟨hc1, h⟩ | ⟨hc1, h⟩
 ·refine yW<|ym rfl (i64 a2)<|yl rfl (b true) (LOp.eqb (LOp.leq rfl rfl rfl) hc1)<|zN ?_
  refine yT<|zQ<|ya rfl (i64 0)<|zN ?_
  refine RunC.ret ?_
  have hq := oI h
  subst q0
  exact bodyQ.pure (.inr rfl) rfl (Res.one rfl (RV.tmp rfl))
 ·refine yW<|ym rfl (i64 a2)<|yl rfl (b false) (LOp.eqb (LOp.leq rfl rfl rfl) hc1)<|zN ?_
  refine yF<|RunC.skip<|yS<|yS ?_
  rcases oB h with ⟨hc2, h⟩ | ⟨hc2, h⟩
  ·refine yW<|ym rfl (i64 a1)<|ym rfl (sl a0.length (a0.map (ik .u8)))<|yl rfl (i64 (a0.length : Int)) (LOp.len_sl und22 rfl rfl)<|yl rfl (b true) (LOp.eqb (LOp.lss rfl rfl rfl) hc2)<|zN ?_
   refine yT<|yS ?_
   obtain ⟨e1, he3, h⟩ := oS h
   obtain ⟨x2, hx4, h⟩ := oL h
   obtain ⟨hz5, h⟩ := need_some h
   obtain ⟨x3, hx6, h⟩ := oL h
   refine yW<|ym rfl (sl a0.length (a0.map (ik .u8)))<|ym rfl (i64 a1)<|yl rfl (ptr [ik .u8 e1]) (LOp.le (LOp.ix (f := (ik .u8)) und22 siz5 rfl rfl rfl rfl he3) ALe.ptr)<|yl rfl (ik .u8 e1) (y2 agg5)<|yl rfl (i64 x2) (LOp.eqr (LOp.i2i (src := 5) (dst := 2) ⟨_, pun5⟩ pun2 rfl rfl) (congrArg (ik .i64) hx4))<|ym rfl (i64 a2)<|yl rfl (i64 x3) (LOp.eqr (LOp.rem rfl rfl rfl (nz hz5)) (congrArg (ik .i64) hx6))<|ya rfl (i64 x3)<|zN ?_
   refine RunC.ret ?_
   have hq := oI h
   subst q0
   exact bodyQ.pure (.inr rfl) rfl (Res.one rfl (RV.tmp rfl))
  ·refine yW<|ym rfl (i64 a1)<|ym rfl (sl a0.length (a0.map (ik .u8)))<|yl rfl (i64 (a0.length : Int)) (LOp.len_sl und22 rfl rfl)<|yl rfl (b false) (LOp.eqb (LOp.lss rfl rfl rfl) hc2)<|zN ?_
   refine yF<|RunC.skip<|yS ?_
   obtain ⟨x4, hx7, h⟩ := oL h
   obtain ⟨x5, hx8, h⟩ := oL h
   obtain ⟨hz9, h⟩ := need_some h
   obtain ⟨x6, hx10, h⟩ := oL h
   refine yW<|ym rfl (i64 a1)<|yl rfl (i64 x4) (LOp.eqr (LOp.mul rfl rfl rfl) (congrArg (ik .i64) hx7))<|yl rfl (i64 x5) (LOp.eqr (LOp.add rfl rfl rfl) (congrArg (ik .i64) hx8))<|ym rfl (i64 a2)<|yl rfl (i64 x6) (LOp.eqr (LOp.rem rfl rfl rfl (nz hz9)) (congrArg (ik .i64) hx10))<|ya rfl (i64 x6)<|zN ?_
   refine RunC.ret ?_
   have hq := oI h
   subst q0
   exact bodyQ.pure (.inr rfl) rfl (Res.one rfl (RV.tmp rfl))
def i_length_complex64 (a0 : List (F × F)) : Option (Int) :=
 some (a0.length : Int)
theorem i_length_complex64_ok (a0 : List (F × F)) (q0 : Int) (h : i_length_complex64 a0 = some q0) : Ev Try.prog 126 [sl a0.length (a0.map (cp .f32))] [] (i64 q0) [] := by
 refine yE Try.func126 0 11 0 [(0, sl a0.length (a0.map (cp .f32)))] [] rfl ?_
 unfold i_length_complex64 at h
 refine zQ<|ya rfl (i64 0)<|zN ?_
 refine zQ<|ym rfl (sl a0.length (a0.map (cp .f32)))<|yl rfl (i64 (a0.length : Int)) (LOp.len_sl und25 rfl rfl)<|ya rfl (i64 (a0.length : Int))<|zN ?_
 refine RunC.ret ?_
 have hq := oI h
 subst q0
 exact bodyQ.pure (.inr rfl) rfl (Res.one rfl (RV.tmp rfl))
def i_inRange (a0 : Int) (a1 : Int) (a2 : Int) : Option (Bool) :=
 bsel (decide (a1 ≤ a0)) (
  some (decide (a0 ≤ a2))) (
  some false)
theorem i_inRange_ok (a0 : Int) (a1 : Int) (a2 : Int) (q0 : Bool) (h : i_inRange a0 a1 a2 = some q0) : Ev Try.prog 85 [i64 a0, i64 a1, i64 a2] [] (b q0) [] := by
 refine yE Try.func85 0 31 0 [(0, i64 a0), (1, i64 a1), (2, i64 a2)] [] rfl ?_
 unfold i_inRange at h
 refine zQ<|ya rfl (b false)<|zN ?_
 refine yS ?_
 rcases oB h with ⟨hc1, h⟩ | ⟨hc1, h⟩
 ·refine yW<|ym rfl (i64 a1)<|ym rfl (i64 a0)<|yl rfl (b true) (LOp.eqb (LOp.leq rfl rfl rfl) hc1)<|ym rfl (b true)<|ym rfl (i64 a0)<|ym rfl (i64 a2)<|yl rfl (b (decide (a0 ≤ a2))) (LOp.leq rfl rfl rfl)<|yl rfl (b (decide (a0 ≤ a2))) yq<|ya rfl (b (decide (a0 ≤ a2)))<|zN ?_
  refine RunC.ret ?_
  have hq := oI h
  subst q0
  exact bodyQ.pure (.inr rfl) rfl (Res.one rfl (RV.tmp rfl))
 ·refine yW<|ym rfl (i64 a1)<|ym rfl (i64 a0)<|yl rfl (b false) (LOp.eqb (LOp.leq rfl rfl rfl) hc1)<|ym rfl (b false)<|ROps.s rfl rfl rfl<|ROps.s rfl rfl rfl<|ROps.s rfl rfl rfl<|yl rfl (b false) yp<|ya rfl (b false)<|zN ?_
  refine RunC.ret ?_
  have hq := oI h
  subst q0
  exact bodyQ.pure (.inr rfl) rfl (Res.one rfl (RV.tmp rfl))
def x_math_IsNaN (a0 : F) : Option (Bool) :=
 some (!feq .f64 a0 a0)
theorem x_math_IsNaN_ok (a0 : F) (q0 : Bool) (h : x_math_IsNaN a0 = some q0) : Ev Try.prog 173 [f64 a0] [] (b q0) [] := by
 refine yE Try.func173 0 13 0 [(0, f64 a0)] [] rfl ?_
 unfold x_math_IsNaN at h
 refine zQ<|ya rfl (b false)<|zN ?_
 refine zQ<|ym rfl (f64 a0)<|ym rfl (f64 a0)<|yl rfl (b (!feq .f64 a0 a0)) (LOp.fne rfl (OpF.tmp rfl) (OpF.tmp rfl))<|ya rfl (b (!feq .f64 a0 a0))<|zN ?_
 refine RunC.ret ?_
 have hq := oI h
 subst q0
 exact bodyQ.pure (.inr rfl) rfl (Res.one rfl (RV.tmp rfl))
def x_math_Abs (a0 : F) : Option (F) :=
 olet (fabs a0) fun (x1 : F) =>
 some x1
theorem x_math_Abs_ok (a0 : F) (q0 : F) (h : x_math_Abs a0 = some q0) : Ev Try.prog 180 [f64 a0] [] (f64 q0) [] := by
 refine yE Try.func180 0 15 0 [(0, f64 a0)] [] rfl ?_
 unfold x_math_Abs at h
 refine zQ<|yl rfl (f64 (some 0)) (LOp.le (LOp.assign rfl rfl) (ALe.fl (by kernel_rfl) (by kernel_rfl)))<|zN ?_
 refine yS ?_
 obtain ⟨x1, hx1, h⟩ := oL h
 refine yW<|ym rfl (f64 a0)<|yl rfl (bt .f64 .u64 a0) (LOp.fbits ext183 rfl (OpF.tmp rfl))<|yl rfl (bt .f64 .u64 x1) (LOp.eqr (LOp.andNot_bt rfl rfl rfl) (congrArg (bt .f64 .u64) hx1))<|yl rfl (f64 x1) (LOp.ffrom ext157 rfl rfl)<|ya rfl (f64 x1)<|zN ?_
 refine RunC.ret ?_
 have hq := oI h
 subst q0
 exact bodyQ.pure (.inr rfl) rfl (Res.one rfl (RV.tmp rfl))
def x_math_IsInf_k1 (y3 : F) : Option (Bool) :=
 some (flt .f64 (some 9218868437227405311) y3)
def x_math_IsInf (a0 : F) (a1 : Int) : Option (Bool) :=
 bsel (decide (a1 = 0)) (
  obind (x_math_Abs a0) fun (r1 : F) =>
  x_math_IsInf_k1 r1) (
  bsel (decide (a1 < 0)) (
   olet (fneg .f64 a0) fun (x2 : F) =>
   x_math_IsInf_k1 x2) (
   x_math_IsInf_k1 a0))
theorem x_math_IsInf_ok (a0 : F) (a1 : Int) (q0 : Bool) (h : x_math_IsInf a0 a1 = some q0) : Ev Try.prog 174 [f64 a0, i64 a1] [] (b q0) [] := by
 refine yE Try.func174 0 31 0 [(0, f64 a0), (1, i64 a1)] [] rfl ?_
 unfold x_math_IsInf at h
 refine zQ<|ya rfl (b false)<|zN ?_
 refine yS<|RunC.cutN (fun τ Γ => ∃ (y3 : F), WeakLe τ [(0, f64 y3)] ∧ DeadLe Γ [] ∧ x_math_IsInf_k1 y3 = some q0) ?_ ?_
 ·refine yS ?_
  rcases oB h with ⟨hc1, h⟩ | ⟨hc1, h⟩
  ·refine yW<|ym rfl (i64 a1)<|yl rfl (b true) (LOp.eqb (LOp.eql rfl rfl rfl) hc1)<|zN ?_
   refine yT ?_
   obtain ⟨r1, hf2, h⟩ := oS h
   refine yW<|ym rfl (f64 a0)<|yd rfl (f64 r1) (yc ent180 rfl rfl bN0 (x_math_Abs_ok a0 r1 hf2))<|ya rfl (f64 r1)<|zN ?_
   exact ⟨r1, ⟨aR, trivial⟩, trivial, h⟩
  ·refine yW<|ym rfl (i64 a1)<|yl rfl (b false) (LOp.eqb (LOp.eql rfl rfl rfl) hc1)<|zN ?_
   refine yF<|yS ?_
   rcases oB h with ⟨hc3, h⟩ | ⟨hc3, h⟩
   ·refine yW<|ym rfl (i64 a1)<|yl rfl (b true) (LOp.eqb (LOp.lss rfl rfl rfl) hc3)<|zN ?_
    refine yT ?_
    obtain ⟨x2, hx4, h⟩ := oL h
    refine yW<|ym rfl (f64 a0)<|yl rfl (f64 x2) (LOp.eqr (LOp.fneg rfl (OpF.tmp rfl)) (congrArg (f .f64) hx4))<|ya rfl (f64 x2)<|zN ?_
    exact ⟨x2, ⟨aR, trivial⟩, trivial, h⟩
   ·refine yW<|ym rfl (i64 a1)<|yl rfl (b false) (LOp.eqb (LOp.lss rfl rfl rfl) hc3)<|zN ?_
    refine yF<|RunC.skip ?_
    exact ⟨a0, ⟨aR, trivial⟩, trivial, h⟩
 ·rintro τ2 Γ2 ⟨y3, hw2, hd2, h⟩
  refine RunC.wl hw2 hd2 ?_
  unfold x_math_IsInf_k1 at h
  refine zQ<|ym rfl (f64 y3)<|yl rfl (b (flt .f64 (some 9218868437227405311) y3)) (LOp.fgt rfl (OpF.tmp rfl) (OpF.const rfl (by kernel_rfl) (by kernel_rfl)))<|ya rfl (b (flt .f64 (some 9218868437227405311) y3))<|zN ?_
  refine RunC.ret ?_
  have hq := oI h
  subst q0
  exact bodyQ.pure (.inr rfl) rfl (Res.one rfl (RV.tmp rfl))
def i_isFinite64 (a0 : F) : Option (Bool) :=
 obind (x_math_IsNaN a0) fun (r1 : Bool) =>
 bsel r1 (
  some false) (
  obind (x_math_IsInf a0 0) fun (r2 : Bool) =>
  some (!r2))
theorem i_isFinite64_ok (a0 : F) (q0 : Bool) (h : i_isFinite64 a0 = some q0) : Ev Try.prog 145 [f64 a0] [] (b q0) [] := by
 refine yE Try.func145 0 23 0 [(0, f64 a0)] [] rfl ?_
 unfold i_isFinite64 at h
 refine zQ<|ya rfl (b false)<|zN ?_
 refine yS ?_
 obtain ⟨r1, hf1, h⟩ := oS h
 rcases oB h with ⟨hc2, h⟩ | ⟨hc2, h⟩
 ·refine yW<|ym rfl (f64 a0)<|yd rfl (b true) (TOp.eqb (yc ent173 rfl rfl bN0 (x_math_IsNaN_ok a0 r1 hf1)) hc2)<|yl rfl (b false) y1<|ym rfl (b false)<|ROps.s rfl rfl rfl<|ROps.s rfl rfl rfl<|ROps.s rfl rfl rfl<|yl rfl (b false) yp<|ya rfl (b false)<|zN ?_
  refine RunC.ret ?_
  have hq := oI h
  subst q0
  exact bodyQ.pure (.inr rfl) rfl (Res.one rfl (RV.tmp rfl))
 ·obtain ⟨r2, hf3, h⟩ := oS h
  refine yW<|ym rfl (f64 a0)<|yd rfl (b false) (TOp.eqb (yc ent173 rfl rfl bN0 (x_math_IsNaN_ok a0 r1 hf1)) hc2)<|yl rfl (b true) y0<|ym rfl (b true)<|ym rfl (f64 a0)<|yd rfl (b r2) (yc ent174 rfl rfl (bP bN0) (x_math_IsInf_ok a0 0 r2 hf3))<|yl rfl (b (!r2)) (LOp.not rfl rfl)<|yl rfl (b (!r2)) yq<|ya rfl (b (!r2))<|zN ?_
  refine RunC.ret ?_
  have hq := oI h
  subst q0
  exact bodyQ.pure (.inr rfl) rfl (Res.one rfl (RV.tmp rfl))
def i_IsFinite (a0 : F) : Option (Bool) :=
 olet (fwiden a0) fun (x1 : F) =>
 obind (i_isFinite64 x1) fun (r2 : Bool) =>
 some r2
theorem i_IsFinite_ok (a0 : F) (q0 : Bool) (h : i_IsFinite a0 = some q0) : Ev Try.prog 80 [f32 a0] [] (b q0) [] := by
 refine yE Try.func80 0 13 0 [(0, f32 a0)] [] rfl ?_
 unfold i_IsFinite at h
 refine zQ<|ya rfl (b false)<|zN ?_
 refine yS ?_
 obtain ⟨x1, hx1, h⟩ := oL h
 obtain ⟨r2, hf2, h⟩ := oS h
 refine yW<|ym rfl (f32 a0)<|yd rfl (f64 x1) (TOp.eqr (TOp.widen (src := 28) (dst := 40) ⟨_, pun28⟩ pun40 rfl (OpF.tmp rfl)) (congrArg (f .f64) hx1))<|yd rfl (b r2) (yc ent145 rfl rfl bN0 (i_isFinite64_ok x1 r2 hf2))<|ya rfl (b r2)<|zN ?_
 refine RunC.ret ?_
 have hq := oI h
 subst q0
 exact bodyQ.pure (.inr rfl) rfl (Res.one rfl (RV.tmp rfl))
def i_IsFiniteComplex (a0 : F) (a1 : F) : Option (Bool) :=
 obind (i_IsFinite a0) fun (r1 : Bool) =>
 bsel r1 (
  obind (i_IsFinite a1) fun (r2 : Bool) =>
  some r2) (
  some false)
theorem i_IsFiniteComplex_ok (a0 : F) (a1 : F) (q0 : Bool) (h : i_IsFiniteComplex a0 a1 = some q0) : Ev Try.prog 129 [cx .f32 a0 a1] [] (b q0) [] := by
 refine yE Try.func129 0 23 0 [(0, cx .f32 a0 a1)] [] rfl ?_
 unfold i_IsFiniteComplex at h
 refine zQ<|ya rfl (b false)<|zN ?_
 refine yS ?_
 obtain ⟨r1, hf1, h⟩ := oS h
 rcases oB h with ⟨hc2, h⟩ | ⟨hc2, h⟩
 ·obtain ⟨r2, hf3, h⟩ := oS h
  refine yW<|ym rfl (cx .f32 a0 a1)<|yl rfl (f32 a0) (LOp.real rfl rfl)<|yd rfl (b true) (TOp.eqb (yc ent80 rfl rfl bN0 (i_IsFinite_ok a0 r1 hf1)) hc2)<|ym rfl (b true)<|ym rfl (cx .f32 a0 a1)<|yl rfl (f32 a1) (LOp.imag rfl rfl)<|yd rfl (b r2) (yc ent80 rfl rfl bN0 (i_IsFinite_ok a1 r2 hf3))<|yl rfl (b r2) yq<|ya rfl (b r2)<|zN ?_
  refine RunC.ret ?_
  have hq := oI h
  subst q0
  exact bodyQ.pure (.inr rfl) rfl (Res.one rfl (RV.tmp rfl))
 ·refine yW<|ym rfl (cx .f32 a0 a1)<|yl rfl (f32 a0) (LOp.real rfl rfl)<|yd rfl (b false) (TOp.eqb (yc ent80 rfl rfl bN0 (i_IsFinite_ok a0 r1 hf1)) hc2)<|ym rfl (b false)<|ROps.s rfl rfl rfl<|ROps.s rfl rfl rfl<|ROps.s rfl rfl rfl<|yl rfl (b false) yp<|ya rfl (b false)<|zN ?_
  refine RunC.ret ?_
  have hq := oI h
  subst q0
  exact bodyQ.pure (.inr rfl) rfl (Res.one rfl (RV.tmp rfl))
def i_isRing_1 (a0 : F) (a1 : F) : Option (Bool) :=
 obind (i_IsFiniteComplex a0 a1) fun (r1 : Bool) =>
 some (!r1)
theorem i_isRing_1_ok (a0 : F) (a1 : F) (q0 : Bool) (h : i_isRing_1 a0 a1 = some q0) : Ev Try.prog 128 [cx .f32 a0 a1] [] (b q0) [] := by
 refine yE Try.func128 0 13 0 [(0, cx .f32 a0 a1)] [] rfl ?_
 unfold i_isRing_1 at h
 refine zQ<|ya rfl (b false)<|zN ?_
 refine yS ?_
 obtain ⟨r1, hf1, h⟩ := oS h
 refine yW<|ym rfl (cx .f32 a0 a1)<|yd rfl (b r1) (yc ent129 rfl rfl bN0 (i_IsFiniteComplex_ok a0 a1 r1 hf1))<|yl rfl (b (!r1)) (LOp.not rfl rfl)<|ya rfl (b (!r1))<|zN ?_
 refine RunC.ret ?_
 have hq := oI h
 subst q0
 exact bodyQ.pure (.inr rfl) rfl (Res.one rfl (RV.tmp rfl))
def x_slices_IndexFunc_complex64_complex64_1Fi_isRing_1_b1 (a0 : List (F × F)) (v1 : Int) : Option (LR (Int) (Unit) (Int)) :=
 bsel (decide (v1 < (a0.length : Int))) (
  obind (at? a0 v1) fun (e2 : (F × F)) =>
  obind (i_isRing_1 e2.1 e2.2) fun (r3 : Bool) =>
  bsel r3 (
   some (LR.ret v1)) (
   olet (IntKind.i64.wrap (v1 + 1)) fun (x4 : Int) =>
   some (LR.next x4))) (
  some (LR.out ()))
def x_slices_IndexFunc_complex64_complex64_1Fi_isRing_1_s1 (a0 : List (F × F)) : (Int) → Option (LR (Int) (Unit) (Int)) := fun s => x_slices_IndexFunc_complex64_complex64_1Fi_isRing_1_b1 a0 s
def x_slices_IndexFunc_complex64_complex64_1Fi_isRing_1_k1  : Option (Int) :=
 some (-1)
def x_slices_IndexFunc_complex64_complex64_1Fi_isRing_1 (a0 : List (F × F)) : Option (Int) :=
 obind (loopM (x_slices_IndexFunc_complex64_complex64_1Fi_isRing_1_s1 a0) 0) fun z => osum z (fun _ => x_slices_IndexFunc_complex64_complex64_1Fi_isRing_1_k1) (fun r => some r)
theorem x_slices_IndexFunc_complex64_complex64_1Fi_isRing_1_ok (a0 : List (F × F)) (q0 : Int) (h : x_slices_IndexFunc_complex64_complex64_1Fi_isRing_1 a0 = some q0) : Ev Try.prog 165 [sl a0.length (a0.map (cp .f32)), fn (.func 128) [] []] [] (i64 q0) [] := by
 refine yE Try.func165 0 39 0 ([(0, sl a0.length (a0.map (cp .f32))), (1, fn (.func 128) [] [])]) [] rfl ?_
 unfold x_slices_IndexFunc_complex64_complex64_1Fi_isRing_1 at h
 refine zQ<|ya rfl (i64 0)<|zN ?_
 refine yS<|zQ<|ym rfl (sl a0.length (a0.map (cp .f32)))<|yl rfl (i64 (a0.length : Int)) (LOp.len_sl und25 rfl rfl)<|ym rfl (i64 0)<|zN ?_
 obtain ⟨z2, hz_2, h⟩ := oS h
 refine RunC.cutN (fun τ Γ => WeakLe τ [] ∧ DeadLe Γ [] ∧ z2 = .inl ()) ?_ ?_
 ·refine RunC.block (RunC.loop (RunL.loopM (x := z2) (x_slices_IndexFunc_complex64_complex64_1Fi_isRing_1_s1 a0) (fun (s : Int) τ Γ => WeakLe τ [(0, sl a0.length (a0.map (cp .f32))), (1, fn (.func 128) [] []), (7, i64 (a0.length : Int)), (8, i64 s)] ∧ DeadLe Γ []) ?_ _ _ _ hz_2 ⟨⟨aR, aR, aR, aR, trivial⟩, trivial⟩))
  rintro v1 τ2 Γ2 y2_ ⟨hw2, hd2⟩ h2_ ho2 hr2
  refine RunC.wl (τ' := [(0, sl a0.length (a0.map (cp .f32))), (1, fn (.func 128) [] []), (7, i64 (a0.length : Int)), (8, i64 v1)]) (Γ' := []) hw2 hd2 ?_
  replace h2_ : x_slices_IndexFunc_complex64_complex64_1Fi_isRing_1_b1 a0 v1 = some y2_ := h2_
  unfold x_slices_IndexFunc_complex64_complex64_1Fi_isRing_1_b1 at h2_
  refine yS ?_
  rcases oB h2_ with ⟨hc1, h2_⟩ | ⟨hc1, h2_⟩
  ·refine yW<|yl rfl (b true) (LOp.eqb (LOp.lss rfl rfl rfl) hc1)<|zN ?_
   refine yS<|yT<|RunC.skip<|yS<|RunC.block<|zQ<|ym rfl (i64 v1)<|ya rfl (i64 v1)<|zN ?_
   refine yS ?_
   obtain ⟨e2, he2, h2_⟩ := oS h2_
   obtain ⟨r3, hf3, h2_⟩ := oS h2_
   rcases oB h2_ with ⟨hc4, h2_⟩ | ⟨hc4, h2_⟩
   ·refine yW<|ym rfl (fn (.func 128) [] [])<|ym rfl (sl a0.length (a0.map (cp .f32)))<|ym rfl (i64 v1)<|yl rfl (ptr [cx .f32 e2.1 e2.2]) (LOp.le (LOp.ix (f := (cp .f32)) und25 siz27 rfl rfl rfl rfl he2) ALe.ptr)<|yl rfl (cx .f32 e2.1 e2.2) (y2 agg27)<|yd rfl (b true) (TOp.eqb (TOp.callB (CallAs.fn ent128 rfl rfl rfl rfl) bN0 rfl rfl (i_isRing_1_ok e2.1 e2.2 r3 hf3)) hc4)<|zN ?_
    refine yT<|zQ<|ym rfl (i64 v1)<|ya rfl (i64 v1)<|zN ?_
    refine RunC.ret ?_
    cases oI h2_
    have hx3_ := hr2 _ rfl
    subst hx3_
    have hq := oI h
    subst q0
    exact bodyQ.pure (.inr rfl) rfl (Res.one rfl (RV.tmp rfl))
   ·refine yW<|ym rfl (fn (.func 128) [] [])<|ym rfl (sl a0.length (a0.map (cp .f32)))<|ym rfl (i64 v1)<|yl rfl (ptr [cx .f32 e2.1 e2.2]) (LOp.le (LOp.ix (f := (cp .f32)) und25 siz27 rfl rfl rfl rfl he2) ALe.ptr)<|yl rfl (cx .f32 e2.1 e2.2) (y2 agg27)<|yd rfl (b false) (TOp.eqb (TOp.callB (CallAs.fn ent128 rfl rfl rfl rfl) bN0 rfl rfl (i_isRing_1_ok e2.1 e2.2 r3 hf3)) hc4)<|zN ?_
    refine yF<|RunC.skip ?_
    obtain ⟨x4, hx5, h2_⟩ := oL h2_
    refine yW<|yl rfl (i64 x4) (LOp.eqr (LOp.add rfl rfl rfl) (congrArg (ik .i64) hx5))<|ym rfl (i64 x4)<|zN ?_
    cases oI h2_
    exact ⟨_, rfl, ⟨aR, aR, aR, aR, trivial⟩, trivial⟩
  ·refine yW<|yl rfl (b false) (LOp.eqb (LOp.lss rfl rfl rfl) hc1)<|zN ?_
   refine yS<|yF<|RunC.exit ?_
   cases oI h2_
   have hx := ho2 _ rfl
   exact ⟨trivial, trivial, hx⟩
 ·rintro τ4 Γ4 ⟨hw4, hd4, rfl⟩
  refine RunC.wl hw4 hd4 ?_
  replace h : x_slices_IndexFunc_complex64_complex64_1Fi_isRing_1_k1 = some q0 := h
  unfold x_slices_IndexFunc_complex64_complex64_1Fi_isRing_1_k1 at h
  refine zQ<|ya rfl (i64 (-1))<|zN ?_
  refine RunC.ret ?_
  have hq := oI h
  subst q0
  exact bodyQ.pure (.inr rfl) rfl (Res.one rfl (RV.tmp rfl))
def x_slices_ContainsFunc_complex64_complex64_1Fi_isRing_1 (a0 : List (F × F)) : Option (Bool) :=
 obind (x_slices_IndexFunc_complex64_complex64_1Fi_isRing_1 a0) fun (r1 : Int) =>
 some (decide (0 ≤ r1))
theorem x_slices_ContainsFunc_complex64_complex64_1Fi_isRing_1_ok (a0 : List (F × F)) (q0 : Bool) (h : x_slices_ContainsFunc_complex64_complex64_1Fi_isRing_1 a0 = some q0) : Ev Try.prog 127 [sl a0.length (a0.map (cp .f32)), fn (.func 128) [] []] [] (b q0) [] := by
 refine yE Try.func127 0 19 0 ([(0, sl a0.length (a0.map (cp .f32))), (1, fn (.func 128) [] [])]) [] rfl ?_
 unfold x_slices_ContainsFunc_complex64_complex64_1Fi_isRing_1 at h
 refine zQ<|ya rfl (b false)<|zN ?_
 refine yS ?_
 obtain ⟨r1, hf1, h⟩ := oS h
 refine yW<|ym rfl (sl a0.length (a0.map (cp .f32)))<|ym rfl (fn (.func 128) [] [])<|yd rfl (i64 r1) (yc ent165 rfl rfl (bS (Bors.cons (Bor.fn bN bN) bN)) (x_slices_IndexFunc_complex64_complex64_1Fi_isRing_1_ok a0 r1 hf1))<|yl rfl (b (decide (0 ≤ r1))) (LOp.geq rfl rfl rfl)<|ya rfl (b (decide (0 ≤ r1)))<|zN ?_
 refine RunC.ret ?_
 have hq := oI h
 subst q0
 exact bodyQ.pure (.inr rfl) rfl (Res.one rfl (RV.tmp rfl))
def i_isRing (a0 : List (F × F)) : Option (Bool) :=
 obind (i_length_complex64 a0) fun (r1 : Int) =>
 obind (i_inRange r1 1 32) fun (r2 : Bool) =>
 bsel r2 (
  obind (x_slices_ContainsFunc_complex64_complex64_1Fi_isRing_1 a0) fun (r3 : Bool) =>
  some (!r3)) (
  some false)
theorem i_isRing_ok (a0 : List (F × F)) (q0 : Bool) (h : i_isRing a0 = some q0) : Ev Try.prog 54 [sl a0.length (a0.map (cp .f32))] [] (b q0) [] := by
 refine yE Try.func54 0 23 0 [(0, sl a0.length (a0.map (cp .f32)))] [] rfl ?_
 unfold i_isRing at h
 refine zQ<|ya rfl (b false)<|zN ?_
 refine yS ?_
 obtain ⟨r1, hf1, h⟩ := oS h
 obtain ⟨r2, hf2, h⟩ := oS h
 rcases oB h with ⟨hc3, h⟩ | ⟨hc3, h⟩
 ·obtain ⟨r3, hf4, h⟩ := oS h
  refine yW<|ym rfl (sl a0.length (a0.map (cp .f32)))<|yd rfl (i64 r1) (yc ent126 rfl rfl (bS bN) (i_length_complex64_ok a0 r1 hf1))<|yd rfl (b true) (TOp.eqb (yc ent85 rfl rfl (bP (bP bN0)) (i_inRange_ok r1 1 32 r2 hf2)) hc3)<|ym rfl (b true)<|ym rfl (sl a0.length (a0.map (cp .f32)))<|yd rfl (b r3) (yc ent127 rfl rfl (bS (Bors.cons (Bor.fn bN bN) bN)) (x_slices_ContainsFunc_complex64_complex64_1Fi_isRing_1_ok a0 r3 hf4))<|yl rfl (b (!r3)) (LOp.not rfl rfl)<|yl rfl (b (!r3)) yq<|ya rfl (b (!r3))<|zN ?_
  refine RunC.ret ?_
  have hq := oI h
  subst q0
  exact bodyQ.pure (.inr rfl) rfl (Res.one rfl (RV.tmp rfl))
 ·refine yW<|ym rfl (sl a0.length (a0.map (cp .f32)))<|yd rfl (i64 r1) (yc ent126 rfl rfl (bS bN) (i_length_complex64_ok a0 r1 hf1))<|yd rfl (b false) (TOp.eqb (yc ent85 rfl rfl (bP (bP bN0)) (i_inRange_ok r1 1 32 r2 hf2)) hc3)<|ym rfl (b false)<|ROps.s rfl rfl rfl<|ROps.s rfl rfl rfl<|ROps.s rfl rfl rfl<|yl rfl (b false) yp<|ya rfl (b false)<|zN ?_
  refine RunC.ret ?_
  have hq := oI h
  subst q0
  exact bodyQ.pure (.inr rfl) rfl (Res.one rfl (RV.tmp rfl))
def x_math_NaN  : Option (F) :=
 need ((decide (0 ≤ 9221120237041090561) && decide ((9221120237041090561 : Int).toNat < 2 ^ FloatKind.f64.format.width))) <|
 some (ffb .f64 9221120237041090561)
theorem x_math_NaN_ok  (q0 : F) (h : x_math_NaN  = some q0) : Ev Try.prog 166 [] [] (f64 q0) [] := by
 refine yE Try.func166 0 5 0 [] [] rfl ?_
 unfold x_math_NaN at h
 refine zQ<|yl rfl (f64 (some 0)) (LOp.le (LOp.assign rfl rfl) (ALe.fl (by kernel_rfl) (by kernel_rfl)))<|zN ?_
 refine yS ?_
 obtain ⟨hz1, h⟩ := need_some h
 refine yW<|yl rfl (f64 (ffb .f64 9221120237041090561)) (LOp.ffromx ext157 rfl rfl hz1)<|ya rfl (f64 (ffb .f64 9221120237041090561))<|zN ?_
 refine RunC.ret ?_
 have hq := oI h
 subst q0
 exact bodyQ.pure (.inr rfl) rfl (Res.one rfl (RV.tmp rfl))
def i_isFar (a0 : F) : Option (Bool) :=
 obind (x_math_Abs a0) fun (r1 : F) =>
 some (fle .f64 (some 4841369599423283200) r1)
theorem i_isFar_ok (a0 : F) (q0 : Bool) (h : i_isFar a0 = some q0) : Ev Try.prog 167 [f64 a0] [] (b q0) [] := by
 refine yE Try.func167 0 13 0 [(0, f64 a0)] [] rfl ?_
 unfold i_isFar at h
 refine zQ<|ya rfl (b false)<|zN ?_
 refine yS ?_
 obtain ⟨r1, hf1, h⟩ := oS h
 refine yW<|ym rfl (f64 a0)<|yd rfl (f64 r1) (yc ent180 rfl rfl bN0 (x_math_Abs_ok a0 r1 hf1))<|yl rfl (b (fle .f64 (some 4841369599423283200) r1)) (LOp.fge rfl (OpF.tmp rfl) (OpF.const rfl (by kernel_rfl) (by kernel_rfl)))<|ya rfl (b (fle .f64 (some 4841369599423283200) r1))<|zN ?_
 refine RunC.ret ?_
 have hq := oI h
 subst q0
 exact bodyQ.pure (.inr rfl) rfl (Res.one rfl (RV.tmp rfl))
def x_math_Trunc (a0 : F) : Option (F) :=
 obind (ftrunc a0) fun (y1 : F) =>
 some y1
theorem x_math_Trunc_ok (a0 : F) (q0 : F) (h : x_math_Trunc a0 = some q0) : Ev Try.prog 181 [f64 a0] [] (f64 q0) [] := by
 refine yE Try.func181 0 15 0 [(0, f64 a0)] [] rfl ?_
 unfold x_math_Trunc at h
 refine zQ<|yl rfl (f64 (some 0)) (LOp.le (LOp.assign rfl rfl) (ALe.fl (by kernel_rfl) (by kernel_rfl)))<|zN ?_
 refine yS<|yT<|yS ?_
 obtain ⟨y1, hy1, h⟩ := oS h
 refine yW<|ym rfl (f64 a0)<|yl rfl (f64 y1) (LOp.ftrunc ext184 rfl (OpF.tmp rfl) hy1)<|ya rfl (f64 y1)<|zN ?_
 refine RunC.ret ?_
 have hq := oI h
 subst q0
 exact bodyQ.pure (.inr rfl) rfl (Res.one rfl (RV.tmp rfl))
def i_part_k2 (y6 : F) : Option (F) :=
 some y6
def i_part_k1 (a0 : F) (y3 : F) : Option (F) :=
 olet (fop .sub .f64 a0 y3) fun (x4 : F) =>
 bsel (flt .f64 x4 (some 0)) (
  olet (fop .add .f64 x4 (some 4607182418800017408)) fun (x5 : F) =>
  i_part_k2 x5) (
  i_part_k2 x4)
def i_part (a0 : F) : Option (F) :=
 obind (x_math_Trunc a0) fun (r1 : F) =>
 bsel (feq .f64 r1 (some 0)) (
  obind (x_math_Abs r1) fun (r2 : F) =>
  i_part_k1 a0 r2) (
  i_part_k1 a0 r1)
theorem i_part_ok (a0 : F) (q0 : F) (h : i_part a0 = some q0) : Ev Try.prog 168 [f64 a0] [] (f64 q0) [] := by
 refine yE Try.func168 0 39 0 [(0, f64 a0)] [] rfl ?_
 unfold i_part at h
 refine zQ<|yl rfl (f64 (some 0)) (LOp.le (LOp.assign rfl rfl) (ALe.fl (by kernel_rfl) (by kernel_rfl)))<|zN ?_
 refine yS ?_
 obtain ⟨r1, hf1, h⟩ := oS h
 refine yW<|ym rfl (f64 a0)<|yd rfl (f64 r1) (yc ent181 rfl rfl bN0 (x_math_Trunc_ok a0 r1 hf1))<|ya rfl (f64 r1)<|zN ?_
 refine yS<|RunC.cutN (fun τ Γ => ∃ (y3 : F), WeakLe τ [(0, f64 a0), (3, f64 y3)] ∧ DeadLe Γ [] ∧ i_part_k1 a0 y3 = some q0) ?_ ?_
 ·refine yS ?_
  rcases oB h with ⟨hc2, h⟩ | ⟨hc2, h⟩
  ·refine yW<|ym rfl (f64 r1)<|yl rfl (b true) (LOp.eqb (LOp.feq rfl (OpF.tmp rfl) (OpF.const rfl (by kernel_rfl) (by kernel_rfl))) hc2)<|zN ?_
   refine yT ?_
   obtain ⟨r2, hf3, h⟩ := oS h
   refine yW<|ym rfl (f64 r1)<|yd rfl (f64 r2) (yc ent180 rfl rfl bN0 (x_math_Abs_ok r1 r2 hf3))<|ya rfl (f64 r2)<|zN ?_
   exact ⟨r2, ⟨aR, aR, trivial⟩, trivial, h⟩
  ·refine yW<|ym rfl (f64 r1)<|yl rfl (b false) (LOp.eqb (LOp.feq rfl (OpF.tmp rfl) (OpF.const rfl (by kernel_rfl) (by kernel_rfl))) hc2)<|zN ?_
   refine yF<|RunC.skip ?_
   exact ⟨r1, ⟨aR, aR, trivial⟩, trivial, h⟩
 ·rintro τ3 Γ3 ⟨y3, hw3, hd3, h⟩
  refine RunC.wl hw3 hd3 ?_
  unfold i_part_k1 at h
  refine yS ?_
  obtain ⟨x4, hx4, h⟩ := oL h
  refine yW<|ym rfl (f64 a0)<|ym rfl (f64 y3)<|yd rfl (f64 x4) (TOp.eqr (TOp.fop (.inr (.inl rfl)) rfl (OpF.tmp rfl) (OpF.tmp rfl)) (congrArg (f .f64) hx4))<|ya rfl (f64 x4)<|zN ?_
  refine yS<|RunC.cutN (fun τ Γ => ∃ (y6 : F), WeakLe τ [(4, f64 y6)] ∧ DeadLe Γ [] ∧ i_part_k2 y6 = some q0) ?_ ?_
  ·refine yS ?_
   rcases oB h with ⟨hc5, h⟩ | ⟨hc5, h⟩
   ·refine yW<|ym rfl (f64 x4)<|yl rfl (b true) (LOp.eqb (LOp.flt rfl (OpF.tmp rfl) (OpF.const rfl (by kernel_rfl) (by kernel_rfl))) hc5)<|zN ?_
    refine yT ?_
    obtain ⟨x5, hx6, h⟩ := oL h
    refine yW<|ym rfl (f64 x4)<|yd rfl (f64 x5) (TOp.eqr (TOp.fop (.inl rfl) rfl (OpF.tmp rfl) (OpF.const rfl (by kernel_rfl) (by kernel_rfl))) (congrArg (f .f64) hx6))<|ya rfl (f64 x5)<|zN ?_
    exact ⟨x5, ⟨aR, trivial⟩, trivial, h⟩
   ·refine yW<|ym rfl (f64 x4)<|yl rfl (b false) (LOp.eqb (LOp.flt rfl (OpF.tmp rfl) (OpF.const rfl (by kernel_rfl) (by kernel_rfl))) hc5)<|zN ?_
    refine yF<|RunC.skip ?_
    exact ⟨x4, ⟨aR, trivial⟩, trivial, h⟩
  ·rintro τ4 Γ4 ⟨y6, hw4, hd4, h⟩
   refine RunC.wl hw4 hd4 ?_
   unfold i_part_k2 at h
   refine zQ<|ym rfl (f64 y6)<|ya rfl (f64 y6)<|zN ?_
   refine RunC.ret ?_
   have hq := oI h
   subst q0
   exact bodyQ.pure (.inr rfl) rfl (Res.one rfl (RV.tmp rfl))
def i_mul64 (a0 : F) (a1 : F) : Option (F) :=
 olet (fop .mul .f64 a0 a1) fun (x1 : F) =>
 some x1
theorem i_mul64_ok (a0 : F) (a1 : F) (q0 : F) (h : i_mul64 a0 a1 = some q0) : Ev Try.prog 105 [f64 a0, f64 a1] [] (f64 q0) [] := by
 refine yE Try.func105 0 17 0 [(0, f64 a0), (1, f64 a1)] [] rfl ?_
 unfold i_mul64 at h
 refine zQ<|yl rfl (f64 (some 0)) (LOp.le (LOp.assign rfl rfl) (ALe.fl (by kernel_rfl) (by kernel_rfl)))<|zN ?_
 refine yS ?_
 obtain ⟨x1, hx1, h⟩ := oL h
 refine yW<|ym rfl (f64 a0)<|ym rfl (f64 a1)<|yd rfl (f64 x1) (TOp.eqr (TOp.fop (.inr (.inr (.inl rfl))) rfl (OpF.tmp rfl) (OpF.tmp rfl)) (congrArg (f .f64) hx1))<|ya rfl (f64 x1)<|zN ?_
 refine RunC.ret ?_
 have hq := oI h
 subst q0
 exact bodyQ.pure (.inr rfl) rfl (Res.one rfl (RV.tmp rfl))
def i_sine_b3 (r8 : F) (y9 : F) (v10 : Int) : Option (LR (F × Int) (F) (F)) :=
 bsel (decide (1 ≤ v10)) (
  obind (i_mul64 r8 y9) fun (r11 : F) =>
  olet (IntKind.i64.wrap (2 * v10)) fun (x12 : Int) =>
  olet (IntKind.i64.wrap (2 * v10)) fun (x13 : Int) =>
  olet (IntKind.i64.wrap (x13 + 1)) fun (x14 : Int) =>
  olet (IntKind.i64.wrap (x12 * x14)) fun (x15 : Int) =>
  olet (fint .f64 x15) fun (x16 : F) =>
  olet (fop .quo .f64 r11 x16) fun (x17 : F) =>
  olet (fop .sub .f64 (some 4607182418800017408) x17) fun (x18 : F) =>
  olet (IntKind.i64.wrap (v10 - 1)) fun (x19 : Int) =>
  some (LR.next (x18, x19))) (
  some (LR.out y9))
def i_sine_s3 (r8 : F) : (F × Int) → Option (LR (F × Int) (F) (F)) := fun s => i_sine_b3 r8 s.1 s.2
def i_sine_k3 (w4 : Bool) (r7 : F) (y20 : F) : Option (F) :=
 bsel w4 (
  obind (i_mul64 r7 y20) fun (r21 : F) =>
  olet (fneg .f64 r21) fun (x22 : F) =>
  some x22) (
  obind (i_mul64 r7 y20) fun (r23 : F) =>
  some r23)
def i_sine_k2 (w4 : Bool) (y6 : F) : Option (F) :=
 obind (i_mul64 y6 (some 4618760256179416344)) fun (r7 : F) =>
 obind (i_mul64 r7 r7) fun (r8 : F) =>
 obind (loopM (i_sine_s3 r8) (some 4607182418800017408, 8)) fun z => osum z (fun e => i_sine_k3 w4 r7 e) (fun r => some r)
def i_sine_k1 (y3 : F) (w4 : Bool) : Option (F) :=
 bsel (flt .f64 (some 4598175219545276416) y3) (
  olet (fop .sub .f64 (some 4602678819172646912) y3) fun (x5 : F) =>
  i_sine_k2 w4 x5) (
  i_sine_k2 w4 y3)
def i_sine (a0 : F) : Option (F) :=
 obind (i_part a0) fun (r1 : F) =>
 bsel (fle .f64 (some 4602678819172646912) r1) (
  olet (fop .sub .f64 r1 (some 4602678819172646912)) fun (x2 : F) =>
  i_sine_k1 x2 true) (
  i_sine_k1 r1 false)
theorem i_sine_ok (a0 : F) (q0 : F) (h : i_sine a0 = some q0) : Ev Try.prog 169 [f64 a0] [] (f64 q0) [] := by
 refine yE Try.func169 0 97 0 [(0, f64 a0)] [] rfl ?_
 unfold i_sine at h
 refine zQ<|yl rfl (f64 (some 0)) (LOp.le (LOp.assign rfl rfl) (ALe.fl (by kernel_rfl) (by kernel_rfl)))<|zN ?_
 refine yS ?_
 obtain ⟨r1, hf1, h⟩ := oS h
 refine yW<|ym rfl (f64 a0)<|yd rfl (f64 r1) (yc ent168 rfl rfl bN0 (i_part_ok a0 r1 hf1))<|ya rfl (f64 r1)<|ya rfl (b false)<|zN ?_
 refine yS<|RunC.cutN (fun τ Γ => ∃ (y3 : F) (w4 : Bool), WeakLe τ [(3, f64 y3), (4, b w4)] ∧ DeadLe Γ [] ∧ i_sine_k1 y3 w4 = some q0) ?_ ?_
 ·refine yS ?_
  rcases oB h with ⟨hc2, h⟩ | ⟨hc2, h⟩
  ·refine yW<|ym rfl (f64 r1)<|yl rfl (b true) (LOp.eqb (LOp.fge rfl (OpF.tmp rfl) (OpF.const rfl (by kernel_rfl) (by kernel_rfl))) hc2)<|zN ?_
   refine yT<|yS ?_
   obtain ⟨x2, hx3, h⟩ := oL h
   refine yW<|ym rfl (f64 r1)<|yd rfl (f64 x2) (TOp.eqr (TOp.fop (.inr (.inl rfl)) rfl (OpF.tmp rfl) (OpF.const rfl (by kernel_rfl) (by kernel_rfl))) (congrArg (f .f64) hx3))<|ya rfl (f64 x2)<|zN ?_
   refine yW<|ya rfl (b true)<|zN ?_
   exact ⟨x2, true, ⟨aR, aR, trivial⟩, trivial, h⟩
  ·refine yW<|ym rfl (f64 r1)<|yl rfl (b false) (LOp.eqb (LOp.fge rfl (OpF.tmp rfl) (OpF.const rfl (by kernel_rfl) (by kernel_rfl))) hc2)<|zN ?_
   refine yF<|RunC.skip ?_
   exact ⟨r1, false, ⟨aR, aR, trivial⟩, trivial, h⟩
 ·rintro τ4 Γ4 ⟨y3, w4, hw4, hd4, h⟩
  refine RunC.wl hw4 hd4 ?_
  unfold i_sine_k1 at h
  refine yS<|RunC.cutN (fun τ Γ => ∃ (y6 : F), WeakLe τ [(3, f64 y6), (4, b w4)] ∧ DeadLe Γ [] ∧ i_sine_k2 w4 y6 = some q0) ?_ ?_
  ·refine yS ?_
   rcases oB h with ⟨hc4, h⟩ | ⟨hc4, h⟩
   ·refine yW<|ym rfl (f64 y3)<|yl rfl (b true) (LOp.eqb (LOp.fgt rfl (OpF.tmp rfl) (OpF.const rfl (by kernel_rfl) (by kernel_rfl))) hc4)<|zN ?_
    refine yT ?_
    obtain ⟨x5, hx5, h⟩ := oL h
    refine yW<|ym rfl (f64 y3)<|yd rfl (f64 x5) (TOp.eqr (TOp.fop (.inr (.inl rfl)) rfl (OpF.const rfl (by kernel_rfl) (by kernel_rfl)) (OpF.tmp rfl)) (congrArg (f .f64) hx5))<|ya rfl (f64 x5)<|zN ?_
    exact ⟨x5, ⟨aR, aR, trivial⟩, trivial, h⟩
   ·refine yW<|ym rfl (f64 y3)<|yl rfl (b false) (LOp.eqb (LOp.fgt rfl (OpF.tmp rfl) (OpF.const rfl (by kernel_rfl) (by kernel_rfl))) hc4)<|zN ?_
    refine yF<|RunC.skip ?_
    exact ⟨y3, ⟨aR, aR, trivial⟩, trivial, h⟩
  ·rintro τ5 Γ5 ⟨y6, hw5, hd5, h⟩
   refine RunC.wl hw5 hd5 ?_
   unfold i_sine_k2 at h
   refine yS ?_
   obtain ⟨r7, hf6, h⟩ := oS h
   refine yW<|ym rfl (f64 y6)<|yd rfl (f64 r7) (yc ent105 rfl rfl (bP (Bors.cons (Bor.le (ALe.fl (by kernel_rfl) (by kernel_rfl)) (Bor.pure rfl)) bN)) (i_mul64_ok y6 (some 4618760256179416344) r7 hf6))<|ya rfl (f64 r7)<|zN ?_
   refine yS ?_
   obtain ⟨r8, hf7, h⟩ := oS h
   refine yW<|ym rfl (f64 r7)<|ym rfl (f64 r7)<|yd rfl (f64 r8) (yc ent105 rfl rfl (bP bN0) (i_mul64_ok r7 r7 r8 hf7))<|ya rfl (f64 r8)<|yl rfl (f64 (some 4607182418800017408)) (LOp.le (LOp.assign rfl rfl) (ALe.fl (by kernel_rfl) (by kernel_rfl)))<|zN ?_
   refine yS<|zQ<|ya rfl (i64 8)<|zN ?_
   obtain ⟨z6, hz_6, h⟩ := oS h
   refine RunC.cutN (fun τ Γ => ∃ (y20 : F), WeakLe τ [(4, b w4), (5, f64 r7), (7, f64 y20)] ∧ DeadLe Γ [] ∧ z6 = .inl y20) ?_ ?_
   ·refine RunC.block (RunC.loop (RunL.loopM (x := z6) (i_sine_s3 r8) (fun (s : F × Int) τ Γ => WeakLe τ [(4, b w4), (5, f64 r7), (6, f64 r8), (7, f64 s.1), (8, i64 s.2)] ∧ DeadLe Γ []) ?_ _ _ _ hz_6 ⟨⟨aR, aR, aR, aR, aR, trivial⟩, trivial⟩))
    rintro ⟨y9, v10⟩ τ6 Γ6 y6_ ⟨hw6, hd6⟩ h6_ ho6 hr6
    refine RunC.wl (τ' := [(4, b w4), (5, f64 r7), (6, f64 r8), (7, f64 y9), (8, i64 v10)]) (Γ' := []) hw6 hd6 ?_
    replace h6_ : i_sine_b3 r8 y9 v10 = some y6_ := h6_
    unfold i_sine_b3 at h6_
    refine yS<|yS ?_
    rcases oB h6_ with ⟨hc8, h6_⟩ | ⟨hc8, h6_⟩
    ·refine yW<|ym rfl (i64 v10)<|yl rfl (b true) (LOp.eqb (LOp.geq rfl rfl rfl) hc8)<|zN ?_
     refine yT<|RunC.skip<|yS<|RunC.block ?_
     obtain ⟨r11, hf9, h6_⟩ := oS h6_
     obtain ⟨x12, hx10, h6_⟩ := oL h6_
     obtain ⟨x13, hx11, h6_⟩ := oL h6_
     obtain ⟨x14, hx12, h6_⟩ := oL h6_
     obtain ⟨x15, hx13, h6_⟩ := oL h6_
     obtain ⟨x16, hx14, h6_⟩ := oL h6_
     obtain ⟨x17, hx15, h6_⟩ := oL h6_
     obtain ⟨x18, hx16, h6_⟩ := oL h6_
     refine yW<|ym rfl (f64 r8)<|ym rfl (f64 y9)<|yd rfl (f64 r11) (yc ent105 rfl rfl (bP bN0) (i_mul64_ok r8 y9 r11 hf9))<|ym rfl (i64 v10)<|yl rfl (i64 x12) (LOp.eqr (LOp.mul rfl rfl rfl) (congrArg (ik .i64) hx10))<|ym rfl (i64 v10)<|yl rfl (i64 x13) (LOp.eqr (LOp.mul rfl rfl rfl) (congrArg (ik .i64) hx11))<|yl rfl (i64 x14) (LOp.eqr (LOp.add rfl rfl rfl) (congrArg (ik .i64) hx12))<|yl rfl (i64 x15) (LOp.eqr (LOp.mul rfl rfl rfl) (congrArg (ik .i64) hx13))<|yl rfl (f64 x16) (LOp.eqr (LOp.i2f (src := 3) (dst := 40) ⟨_, pun3⟩ pun40 rfl rfl) (congrArg (f .f64) hx14))<|yd rfl (f64 x17) (TOp.eqr (TOp.fop (.inr (.inr (.inr rfl))) rfl (OpF.tmp rfl) (OpF.tmp rfl)) (congrArg (f .f64) hx15))<|yd rfl (f64 x18) (TOp.eqr (TOp.fop (.inr (.inl rfl)) rfl (OpF.const rfl (by kernel_rfl) (by kernel_rfl)) (OpF.tmp rfl)) (congrArg (f .f64) hx16))<|ya rfl (f64 x18)<|zN ?_
     refine RunC.wl (τ' := [(4, b w4), (5, f64 r7), (6, f64 r8), (7, f64 x18), (8, i64 v10)]) (Γ' := []) ⟨aR, aR, aR, aR, aR, trivial⟩ trivial ?_
     obtain ⟨x19, hx17, h6_⟩ := oL h6_
     refine yW<|ym rfl (i64 v10)<|yl rfl (i64 x19) (LOp.eqr (LOp.sub rfl rfl rfl) (congrArg (ik .i64) hx17))<|ya rfl (i64 x19)<|zN ?_
     cases oI h6_
     exact ⟨_, rfl, ⟨aR, aR, aR, aR, aR, trivial⟩, trivial⟩
    ·refine yW<|ym rfl (i64 v10)<|yl rfl (b false) (LOp.eqb (LOp.geq rfl rfl rfl) hc8)<|zN ?_
     refine yF<|RunC.exit ?_
     cases oI h6_
     have hx := ho6 _ rfl
     exact ⟨y9, ⟨aR, aR, aR, trivial⟩, trivial, hx⟩
   ·rintro τ7 Γ7 ⟨y20, hw7, hd7, rfl⟩
    refine RunC.wl hw7 hd7 ?_
    replace h : i_sine_k3 w4 r7 y20 = some q0 := h
    unfold i_sine_k3 at h
    refine yS<|yS ?_
    rcases oB h with ⟨hc18, h⟩ | ⟨hc18, h⟩
    ·refine yW<|yl rfl (b true) (yv hc18)<|zN ?_
     refine yT<|yS ?_
     obtain ⟨r21, hf19, h⟩ := oS h
     obtain ⟨x22, hx20, h⟩ := oL h
     refine yW<|ym rfl (f64 r7)<|ym rfl (f64 y20)<|yd rfl (f64 r21) (yc ent105 rfl rfl (bP bN0) (i_mul64_ok r7 y20 r21 hf19))<|yl rfl (f64 x22) (LOp.eqr (LOp.fneg rfl (OpF.tmp rfl)) (congrArg (f .f64) hx20))<|ya rfl (f64 x22)<|zN ?_
     refine RunC.ret ?_
     have hq := oI h
     subst q0
     exact bodyQ.pure (.inr rfl) rfl (Res.one rfl (RV.tmp rfl))
    ·refine yW<|yl rfl (b false) (yv hc18)<|zN ?_
     refine yF<|RunC.skip<|yS ?_
     obtain ⟨r23, hf21, h⟩ := oS h
     refine yW<|ym rfl (f64 r7)<|ym rfl (f64 y20)<|yd rfl (f64 r23) (yc ent105 rfl rfl (bP bN0) (i_mul64_ok r7 y20 r23 hf21))<|ya rfl (f64 r23)<|zN ?_
     refine RunC.ret ?_
     have hq := oI h
     subst q0
     exact bodyQ.pure (.inr rfl) rfl (Res.one rfl (RV.tmp rfl))
def i_PhasorOf_b1 (y6 : F) (v7 : Int) : Option (LR (F × Int) (F × Int) (F × F)) :=
 bsel (fle .f64 (some 4598175219545276416) y6) (
  olet (fop .sub .f64 y6 (some 4598175219545276416)) fun (x8 : F) =>
  olet (IntKind.i64.wrap (v7 + 1)) fun (x9 : Int) =>
  some (LR.next (x8, x9))) (
  some (LR.out (y6, v7)))
def i_PhasorOf_s1  : (F × Int) → Option (LR (F × Int) (F × Int) (F × F)) := fun s => i_PhasorOf_b1 s.1 s.2
def i_PhasorOf_k2 (y19 : F) (y20 : F) : Option (F × F) :=
 obind (fnarrow y19) fun (y21 : F) =>
 obind (fnarrow y20) fun (y22 : F) =>
 some (y21, y22)
def i_PhasorOf_k1 (y10 : F) (v11 : Int) : Option (F × F) :=
 olet (fop .sub .f64 (some 4598175219545276416) y10) fun (x12 : F) =>
 obind (i_sine x12) fun (r13 : F) =>
 obind (i_sine y10) fun (r14 : F) =>
 bsel (decide (v11 = 1)) (
  olet (fop .sub .f64 (some 0) r14) fun (x15 : F) =>
  i_PhasorOf_k2 x15 r13) (
  bsel (decide (v11 = 2)) (
   olet (fop .sub .f64 (some 0) r13) fun (x16 : F) =>
   olet (fop .sub .f64 (some 0) r14) fun (x17 : F) =>
   i_PhasorOf_k2 x16 x17) (
   bsel (decide (v11 = 3)) (
    olet (fop .sub .f64 (some 0) r13) fun (x18 : F) =>
    i_PhasorOf_k2 r14 x18) (
    i_PhasorOf_k2 r13 r14)))
def i_PhasorOf (a0 : F) : Option (F × F) :=
 obind (i_isFinite64 a0) fun (r1 : Bool) =>
 bsel r1 (
  obind (i_isFar a0) fun (r4 : Bool) =>
  bsel r4 (
   some (some 1065353216, some 0)) (
   obind (i_part a0) fun (r5 : F) =>
   obind (loopM (i_PhasorOf_s1) (r5, 0)) fun z => osum z (fun e => i_PhasorOf_k1 e.1 e.2) (fun r => some r))) (
  obind (x_math_NaN) fun (r2 : F) =>
  obind (fnarrow r2) fun (y3 : F) =>
  some (y3, y3))
theorem i_PhasorOf_ok (a0 : F) (q0 : F) (q1 : F) (h : i_PhasorOf a0 = some (q0, q1)) : Ev Try.prog 130 [f64 a0] [] (cx .f32 q0 q1) [] := by
 refine yE Try.func130 0 107 0 [(0, f64 a0)] [] rfl ?_
 unfold i_PhasorOf at h
 refine zQ<|yl rfl (cx .f32 (some 0) (some 0)) (LOp.le (LOp.assign rfl rfl) (ALe.cpx (by kernel_rfl) (by kernel_rfl) (by kernel_rfl) (by kernel_rfl)))<|zN ?_
 refine yS<|yS ?_
 obtain ⟨r1, hf1, h⟩ := oS h
 rcases oB h with ⟨hc2, h⟩ | ⟨hc2, h⟩
 ·refine yW<|ym rfl (f64 a0)<|yd rfl (b true) (TOp.eqb (yc ent145 rfl rfl bN0 (i_isFinite64_ok a0 r1 hf1)) hc2)<|yl rfl (b false) y1<|zN ?_
  refine yF<|RunC.skip<|yS<|yS ?_
  obtain ⟨r4, hf5, h⟩ := oS h
  rcases oB h with ⟨hc6, h⟩ | ⟨hc6, h⟩
  ·refine yW<|ym rfl (f64 a0)<|yd rfl (b true) (TOp.eqb (yc ent167 rfl rfl bN0 (i_isFar_ok a0 r4 hf5)) hc6)<|zN ?_
   refine yT<|zQ<|yl rfl (cx .f32 (some 1065353216) (some 0)) (LOp.le (LOp.assign rfl rfl) (ALe.cpx (by kernel_rfl) (by kernel_rfl) (by kernel_rfl) (by kernel_rfl)))<|zN ?_
   refine RunC.ret ?_
   have hq := oI h
   obtain ⟨hq0, hq⟩ := Prod.mk.inj hq
   subst q0
   subst q1
   exact bodyQ.pure (.inr rfl) rfl (Res.one rfl (RV.tmp rfl))
  ·refine yW<|ym rfl (f64 a0)<|yd rfl (b false) (TOp.eqb (yc ent167 rfl rfl bN0 (i_isFar_ok a0 r4 hf5)) hc6)<|zN ?_
   refine yF<|RunC.skip<|yS ?_
   obtain ⟨r5, hf7, h⟩ := oS h
   refine yW<|ym rfl (f64 a0)<|yd rfl (f64 r5) (yc ent168 rfl rfl bN0 (i_part_ok a0 r5 hf7))<|ya rfl (f64 r5)<|ya rfl (i64 0)<|zN ?_
   refine yS ?_
   obtain ⟨z3, hz_3, h⟩ := oS h
   refine RunC.cutN (fun τ Γ => ∃ (y10 : F) (v11 : Int), WeakLe τ [(4, f64 y10), (5, i64 v11)] ∧ DeadLe Γ [] ∧ z3 = .inl (y10, v11)) ?_ ?_
   ·refine RunC.block (RunC.loop (RunL.loopM (x := z3) (i_PhasorOf_s1) (fun (s : F × Int) τ Γ => WeakLe τ [(4, f64 s.1), (5, i64 s.2)] ∧ DeadLe Γ []) ?_ _ _ _ hz_3 ⟨⟨aR, aR, trivial⟩, trivial⟩))
    rintro ⟨y6, v7⟩ τ3 Γ3 y3_ ⟨hw3, hd3⟩ h3_ ho3 hr3
    refine RunC.wl (τ' := [(4, f64 y6), (5, i64 v7)]) (Γ' := []) hw3 hd3 ?_
    replace h3_ : i_PhasorOf_b1 y6 v7 = some y3_ := h3_
    unfold i_PhasorOf_b1 at h3_
    refine yS<|yS ?_
    rcases oB h3_ with ⟨hc8, h3_⟩ | ⟨hc8, h3_⟩
    ·refine yW<|ym rfl (f64 y6)<|yl rfl (b true) (LOp.eqb (LOp.fge rfl (OpF.tmp rfl) (OpF.const rfl (by kernel_rfl) (by kernel_rfl))) hc8)<|zN ?_
     refine yT<|RunC.skip<|RunC.block<|yS ?_
     obtain ⟨x8, hx9, h3_⟩ := oL h3_
     refine yW<|ym rfl (f64 y6)<|yd rfl (f64 x8) (TOp.eqr (TOp.fop (.inr (.inl rfl)) rfl (OpF.tmp rfl) (OpF.const rfl (by kernel_rfl) (by kernel_rfl))) (congrArg (f .f64) hx9))<|ya rfl (f64 x8)<|zN ?_
     obtain ⟨x9, hx10, h3_⟩ := oL h3_
     refine yW<|ym rfl (i64 v7)<|yl rfl (i64 x9) (LOp.eqr (LOp.add rfl rfl rfl) (congrArg (ik .i64) hx10))<|ya rfl (i64 x9)<|zN ?_
     cases oI h3_
     exact ⟨_, rfl, ⟨aR, aR, trivial⟩, trivial⟩
    ·refine yW<|ym rfl (f64 y6)<|yl rfl (b false) (LOp.eqb (LOp.fge rfl (OpF.tmp rfl) (OpF.const rfl (by kernel_rfl) (by kernel_rfl))) hc8)<|zN ?_
     refine yF<|RunC.exit ?_
     cases oI h3_
     have hx := ho3 _ rfl
     exact ⟨y6, v7, ⟨aR, aR, trivial⟩, trivial, hx⟩
   ·rintro τ4 Γ4 ⟨y10, v11, hw4, hd4, rfl⟩
    refine RunC.wl hw4 hd4 ?_
    replace h : i_PhasorOf_k1 y10 v11 = some (q0, q1) := h
    unfold i_PhasorOf_k1 at h
    refine yS ?_
    obtain ⟨x12, hx11, h⟩ := oL h
    obtain ⟨r13, hf12, h⟩ := oS h
    obtain ⟨r14, hf13, h⟩ := oS h
    refine yW<|ym rfl (f64 y10)<|yd rfl (f64 x12) (TOp.eqr (TOp.fop (.inr (.inl rfl)) rfl (OpF.const rfl (by kernel_rfl) (by kernel_rfl)) (OpF.tmp rfl)) (congrArg (f .f64) hx11))<|yd rfl (f64 r13) (yc ent169 rfl rfl bN0 (i_sine_ok x12 r13 hf12))<|ym rfl (f64 y10)<|yd rfl (f64 r14) (yc ent169 rfl rfl bN0 (i_sine_ok y10 r14 hf13))<|ya rfl (f64 r13)<|ya rfl (f64 r14)<|zN ?_
    refine yS<|RunC.cutN (fun τ Γ => ∃ (y19 : F) (y20 : F), WeakLe τ [(6, f64 y19), (7, f64 y20)] ∧ DeadLe Γ [] ∧ i_PhasorOf_k2 y19 y20 = some (q0, q1)) ?_ ?_
    ·refine zQ<|ym rfl (i64 v11)<|zN ?_
     refine RunC.block<|yS ?_
     rcases oB h with ⟨hc14, h⟩ | ⟨hc14, h⟩
     ·refine yW<|yl rfl (b true) (LOp.eqb (LOp.eql rfl rfl rfl) hc14)<|ya rfl (b true)<|zN ?_
      refine yT ?_
      obtain ⟨x15, hx15, h⟩ := oL h
      refine yW<|ym rfl (f64 r14)<|yd rfl (f64 x15) (TOp.eqr (TOp.fop (.inr (.inl rfl)) rfl (OpF.const rfl (by kernel_rfl) (by kernel_rfl)) (OpF.tmp rfl)) (congrArg (f .f64) hx15))<|ym rfl (f64 r13)<|ya rfl (f64 x15)<|ya rfl (f64 r13)<|zN ?_
      exact ⟨x15, r13, ⟨aR, aR, trivial⟩, trivial, h⟩
     ·refine yW<|yl rfl (b false) (LOp.eqb (LOp.eql rfl rfl rfl) hc14)<|ya rfl (b false)<|zN ?_
      refine yF<|yS ?_
      rcases oB h with ⟨hc16, h⟩ | ⟨hc16, h⟩
      ·refine yW<|yl rfl (b true) (LOp.eqb (LOp.eql rfl rfl rfl) hc16)<|ya rfl (b true)<|zN ?_
       refine yT ?_
       obtain ⟨x16, hx17, h⟩ := oL h
       obtain ⟨x17, hx18, h⟩ := oL h
       refine yW<|ym rfl (f64 r13)<|yd rfl (f64 x16) (TOp.eqr (TOp.fop (.inr (.inl rfl)) rfl (OpF.const rfl (by kernel_rfl) (by kernel_rfl)) (OpF.tmp rfl)) (congrArg (f .f64) hx17))<|ym rfl (f64 r14)<|yd rfl (f64 x17) (TOp.eqr (TOp.fop (.inr (.inl rfl)) rfl (OpF.const rfl (by kernel_rfl) (by kernel_rfl)) (OpF.tmp rfl)) (congrArg (f .f64) hx18))<|ya rfl (f64 x16)<|ya rfl (f64 x17)<|zN ?_
       exact ⟨x16, x17, ⟨aR, aR, trivial⟩, trivial, h⟩
      ·refine yW<|yl rfl (b false) (LOp.eqb (LOp.eql rfl rfl rfl) hc16)<|ya rfl (b false)<|zN ?_
       refine yF<|yS ?_
       rcases oB h with ⟨hc19, h⟩ | ⟨hc19, h⟩
       ·refine yW<|yl rfl (b true) (LOp.eqb (LOp.eql rfl rfl rfl) hc19)<|ya rfl (b true)<|zN ?_
        refine RunC.wl (τ' := [(6, f64 r13), (7, f64 r14), (43, b true)]) (Γ' := []) ⟨aR, aR, aR, trivial⟩ trivial<|yT ?_
        obtain ⟨x18, hx20, h⟩ := oL h
        refine yW<|ym rfl (f64 r14)<|ym rfl (f64 r13)<|yd rfl (f64 x18) (TOp.eqr (TOp.fop (.inr (.inl rfl)) rfl (OpF.const rfl (by kernel_rfl) (by kernel_rfl)) (OpF.tmp rfl)) (congrArg (f .f64) hx20))<|ya rfl (f64 r14)<|ya rfl (f64 x18)<|zN ?_
        exact ⟨r14, x18, ⟨aR, aR, trivial⟩, trivial, h⟩
       ·refine yW<|yl rfl (b false) (LOp.eqb (LOp.eql rfl rfl rfl) hc19)<|ya rfl (b false)<|zN ?_
        refine RunC.wl (τ' := [(6, f64 r13), (7, f64 r14), (43, b false)]) (Γ' := []) ⟨aR, aR, aR, trivial⟩ trivial<|yF<|RunC.skip ?_
        exact ⟨r13, r14, ⟨aR, aR, trivial⟩, trivial, h⟩
    ·rintro τ5 Γ5 ⟨y19, y20, hw5, hd5, h⟩
     refine RunC.wl hw5 hd5 ?_
     unfold i_PhasorOf_k2 at h
     refine yS ?_
     obtain ⟨y21, hy21, h⟩ := oS h
     obtain ⟨y22, hy22, h⟩ := oS h
     refine yW<|ym rfl (f64 y19)<|yd rfl (f32 y21) (TOp.narrow (src := 40) (dst := 28) ⟨_, pun40⟩ pun28 rfl (OpF.tmp rfl) hy21)<|ym rfl (f64 y20)<|yd rfl (f32 y22) (TOp.narrow (src := 40) (dst := 28) ⟨_, pun40⟩ pun28 rfl (OpF.tmp rfl) hy22)<|yl rfl (cx .f32 y21 y22) (LOp.complex rfl (OpF.tmp rfl) (OpF.tmp rfl))<|ya rfl (cx .f32 y21 y22)<|zN ?_
     refine RunC.ret ?_
     have hq := oI h
     obtain ⟨hq0, hq⟩ := Prod.mk.inj hq
     subst q0
     subst q1
     exact bodyQ.pure (.inr rfl) rfl (Res.one rfl (RV.tmp rfl))
 ·refine yW<|ym rfl (f64 a0)<|yd rfl (b false) (TOp.eqb (yc ent145 rfl rfl bN0 (i_isFinite64_ok a0 r1 hf1)) hc2)<|yl rfl (b true) y0<|zN ?_
  refine yT<|yS ?_
  obtain ⟨r2, hf3, h⟩ := oS h
  obtain ⟨y3, hy4, h⟩ := oS h
  refine yW<|yd rfl (f64 r2) (yc ent166 rfl rfl bN (x_math_NaN_ok r2 hf3))<|yd rfl (f32 y3) (TOp.narrow (src := 40) (dst := 28) ⟨_, pun40⟩ pun28 rfl (OpF.tmp rfl) hy4)<|ya rfl (f32 y3)<|zN ?_
  refine zQ<|ym rfl (f32 y3)<|ym rfl (f32 y3)<|yl rfl (cx .f32 y3 y3) (LOp.complex rfl (OpF.tmp rfl) (OpF.tmp rfl))<|ya rfl (cx .f32 y3 y3)<|zN ?_
  refine RunC.ret ?_
  have hq := oI h
  obtain ⟨hq0, hq⟩ := Prod.mk.inj hq
  subst q0
  subst q1
  exact bodyQ.pure (.inr rfl) rfl (Res.one rfl (RV.tmp rfl))
def i_longProduct (a0 : F) (a1 : F) (a2 : F) (a3 : F) : Option (F × F) :=
 olet (fwiden a0) fun (x1 : F) =>
 olet (fwiden a1) fun (x2 : F) =>
 olet (fwiden a2) fun (x3 : F) =>
 olet (fwiden a3) fun (x4 : F) =>
 obind (i_mul64 x1 x3) fun (r5 : F) =>
 obind (i_mul64 x2 x4) fun (r6 : F) =>
 olet (fop .sub .f64 r5 r6) fun (x7 : F) =>
 obind (i_mul64 x1 x4) fun (r8 : F) =>
 obind (i_mul64 x2 x3) fun (r9 : F) =>
 olet (fop .add .f64 r8 r9) fun (x10 : F) =>
 some (x7, x10)
theorem i_longProduct_ok (a0 : F) (a1 : F) (a2 : F) (a3 : F) (q0 : F) (q1 : F) (h : i_longProduct a0 a1 a2 a3 = some (q0, q1)) : Ev Try.prog 131 [cx .f32 a0 a1, cx .f32 a2 a3] [] (tup [f64 q0, f64 q1]) [] := by
 refine yE Try.func131 0 73 0 [(0, cx .f32 a0 a1), (1, cx .f32 a2 a3)] [] rfl ?_
 unfold i_longProduct at h
 refine zQ<|yl rfl (f64 (some 0)) (LOp.le (LOp.assign rfl rfl) (ALe.fl (by kernel_rfl) (by kernel_rfl)))<|yl rfl (f64 (some 0)) (LOp.le (LOp.assign rfl rfl) (ALe.fl (by kernel_rfl) (by kernel_rfl)))<|zN ?_
 refine yS ?_
 obtain ⟨x1, hx1, h⟩ := oL h
 obtain ⟨x2, hx2, h⟩ := oL h
 refine yW<|ym rfl (cx .f32 a0 a1)<|yl rfl (f32 a0) (LOp.real rfl rfl)<|yd rfl (f64 x1) (TOp.eqr (TOp.widen (src := 28) (dst := 40) ⟨_, pun28⟩ pun40 rfl (OpF.tmp rfl)) (congrArg (f .f64) hx1))<|ym rfl (cx .f32 a0 a1)<|yl rfl (f32 a1) (LOp.imag rfl rfl)<|yd rfl (f64 x2) (TOp.eqr (TOp.widen (src := 28) (dst := 40) ⟨_, pun28⟩ pun40 rfl (OpF.tmp rfl)) (congrArg (f .f64) hx2))<|ya rfl (f64 x1)<|ya rfl (f64 x2)<|zN ?_
 refine yS ?_
 obtain ⟨x3, hx3, h⟩ := oL h
 obtain ⟨x4, hx4, h⟩ := oL h
 refine yW<|ym rfl (cx .f32 a2 a3)<|yl rfl (f32 a2) (LOp.real rfl rfl)<|yd rfl (f64 x3) (TOp.eqr (TOp.widen (src := 28) (dst := 40) ⟨_, pun28⟩ pun40 rfl (OpF.tmp rfl)) (congrArg (f .f64) hx3))<|ym rfl (cx .f32 a2 a3)<|yl rfl (f32 a3) (LOp.imag rfl rfl)<|yd rfl (f64 x4) (TOp.eqr (TOp.widen (src := 28) (dst := 40) ⟨_, pun28⟩ pun40 rfl (OpF.tmp rfl)) (congrArg (f .f64) hx4))<|ya rfl (f64 x3)<|ya rfl (f64 x4)<|zN ?_
 refine RunC.wl (τ' := [(6, f64 x1), (7, f64 x2), (8, f64 x3), (9, f64 x4)]) (Γ' := []) ⟨aR, aR, aR, aR, trivial⟩ trivial<|yS ?_
 obtain ⟨r5, hf5, h⟩ := oS h
 obtain ⟨r6, hf6, h⟩ := oS h
 obtain ⟨x7, hx7, h⟩ := oL h
 obtain ⟨r8, hf8, h⟩ := oS h
 obtain ⟨r9, hf9, h⟩ := oS h
 obtain ⟨x10, hx10, h⟩ := oL h
 refine yW<|ym rfl (f64 x1)<|ym rfl (f64 x3)<|yd rfl (f64 r5) (yc ent105 rfl rfl (bP bN0) (i_mul64_ok x1 x3 r5 hf5))<|ym rfl (f64 x2)<|ym rfl (f64 x4)<|yd rfl (f64 r6) (yc ent105 rfl rfl (bP bN0) (i_mul64_ok x2 x4 r6 hf6))<|yd rfl (f64 x7) (TOp.eqr (TOp.fop (.inr (.inl rfl)) rfl (OpF.tmp rfl) (OpF.tmp rfl)) (congrArg (f .f64) hx7))<|ym rfl (f64 x1)<|ym rfl (f64 x4)<|yd rfl (f64 r8) (yc ent105 rfl rfl (bP bN0) (i_mul64_ok x1 x4 r8 hf8))<|ym rfl (f64 x2)<|ym rfl (f64 x3)<|yd rfl (f64 r9) (yc ent105 rfl rfl (bP bN0) (i_mul64_ok x2 x3 r9 hf9))<|yd rfl (f64 x10) (TOp.eqr (TOp.fop (.inl rfl) rfl (OpF.tmp rfl) (OpF.tmp rfl)) (congrArg (f .f64) hx10))<|ya rfl (f64 x7)<|ya rfl (f64 x10)<|zN ?_
 refine RunC.ret ?_
 have hq := oI h
 obtain ⟨hq0, hq⟩ := Prod.mk.inj hq
 subst q0
 subst q1
 exact bodyQ.pure (.inr rfl) rfl (Res.two rfl (RV.tmp rfl) (RV.tmp rfl))
def i_MulComplex (a0 : F) (a1 : F) (a2 : F) (a3 : F) : Option (F × F) :=
 obind2 (i_longProduct a0 a1 a2 a3) fun (r1 : F) (r2 : F) =>
 obind (fnarrow r1) fun (y3 : F) =>
 obind (fnarrow r2) fun (y4 : F) =>
 some (y3, y4)
theorem i_MulComplex_ok (a0 : F) (a1 : F) (a2 : F) (a3 : F) (q0 : F) (q1 : F) (h : i_MulComplex a0 a1 a2 a3 = some (q0, q1)) : Ev Try.prog 60 [cx .f32 a0 a1, cx .f32 a2 a3] [] (cx .f32 q0 q1) [] := by
 refine yE Try.func60 0 37 0 [(0, cx .f32 a0 a1), (1, cx .f32 a2 a3)] [] rfl ?_
 unfold i_MulComplex at h
 refine zQ<|yl rfl (cx .f32 (some 0) (some 0)) (LOp.le (LOp.assign rfl rfl) (ALe.cpx (by kernel_rfl) (by kernel_rfl) (by kernel_rfl) (by kernel_rfl)))<|zN ?_
 refine yS ?_
 obtain ⟨r1, r2, hf1, h⟩ := obind2_some h
 refine yW<|ym rfl (cx .f32 a0 a1)<|ym rfl (cx .f32 a2 a3)<|yd rfl (tup [f64 r1, f64 r2]) (yc ent131 rfl rfl (bP bN0) (i_longProduct_ok a0 a1 a2 a3 r1 r2 hf1))<|ym rfl (tup [f64 r1, f64 r2])<|yl rfl (f64 r1) y3<|yl rfl (f64 r2) y3<|ya rfl (f64 r1)<|ya rfl (f64 r2)<|zN ?_
 refine yS ?_
 obtain ⟨y3, hy2, h⟩ := oS h
 obtain ⟨y4, hy3, h⟩ := oS h
 refine yW<|ym rfl (f64 r1)<|yd rfl (f32 y3) (TOp.narrow (src := 40) (dst := 28) ⟨_, pun40⟩ pun28 rfl (OpF.tmp rfl) hy2)<|ym rfl (f64 r2)<|yd rfl (f32 y4) (TOp.narrow (src := 40) (dst := 28) ⟨_, pun40⟩ pun28 rfl (OpF.tmp rfl) hy3)<|yl rfl (cx .f32 y3 y4) (LOp.complex rfl (OpF.tmp rfl) (OpF.tmp rfl))<|ya rfl (cx .f32 y3 y4)<|zN ?_
 refine RunC.ret ?_
 have hq := oI h
 obtain ⟨hq0, hq⟩ := Prod.mk.inj hq
 subst q0
 subst q1
 exact bodyQ.pure (.inr rfl) rfl (Res.one rfl (RV.tmp rfl))
def i_addComplex (a0 : F) (a1 : F) (a2 : F) (a3 : F) : Option (F × F) :=
 olet (fop .add .f32 a0 a2) fun (x1 : F) =>
 olet (fop .add .f32 a1 a3) fun (x2 : F) =>
 some (x1, x2)
theorem i_addComplex_ok (a0 : F) (a1 : F) (a2 : F) (a3 : F) (q0 : F) (q1 : F) (h : i_addComplex a0 a1 a2 a3 = some (q0, q1)) : Ev Try.prog 59 [cx .f32 a0 a1, cx .f32 a2 a3] [] (cx .f32 q0 q1) [] := by
 refine yE Try.func59 0 33 0 [(0, cx .f32 a0 a1), (1, cx .f32 a2 a3)] [] rfl ?_
 unfold i_addComplex at h
 refine zQ<|yl rfl (cx .f32 (some 0) (some 0)) (LOp.le (LOp.assign rfl rfl) (ALe.cpx (by kernel_rfl) (by kernel_rfl) (by kernel_rfl) (by kernel_rfl)))<|zN ?_
 refine yS ?_
 obtain ⟨x1, hx1, h⟩ := oL h
 obtain ⟨x2, hx2, h⟩ := oL h
 refine yW<|ym rfl (cx .f32 a0 a1)<|yl rfl (f32 a0) (LOp.real rfl rfl)<|ym rfl (cx .f32 a2 a3)<|yl rfl (f32 a2) (LOp.real rfl rfl)<|yd rfl (f32 x1) (TOp.eqr (TOp.fop (.inl rfl) rfl (OpF.tmp rfl) (OpF.tmp rfl)) (congrArg (f .f32) hx1))<|ym rfl (cx .f32 a0 a1)<|yl rfl (f32 a1) (LOp.imag rfl rfl)<|ym rfl (cx .f32 a2 a3)<|yl rfl (f32 a3) (LOp.imag rfl rfl)<|yd rfl (f32 x2) (TOp.eqr (TOp.fop (.inl rfl) rfl (OpF.tmp rfl) (OpF.tmp rfl)) (congrArg (f .f32) hx2))<|yl rfl (cx .f32 x1 x2) (LOp.complex rfl (OpF.tmp rfl) (OpF.tmp rfl))<|ya rfl (cx .f32 x1 x2)<|zN ?_
 refine RunC.ret ?_
 have hq := oI h
 obtain ⟨hq0, hq⟩ := Prod.mk.inj hq
 subst q0
 subst q1
 exact bodyQ.pure (.inr rfl) rfl (Res.one rfl (RV.tmp rfl))
def i_transformed_k5 (y6 : F) (y7 : F) (v8 : Int) (e9 : (F × F)) (y14 : F) : Option (LR (F × F × Int) (F × F) ((List (F × F)))) :=
 obind2 (i_PhasorOf y14) fun (r15 : F) (r16 : F) =>
 obind2 (i_MulComplex e9.1 e9.2 r15 r16) fun (r17 : F) (r18 : F) =>
 obind2 (i_addComplex y6 y7 r17 r18) fun (r19 : F) (r20 : F) =>
 olet (IntKind.i64.wrap (v8 + 1)) fun (x21 : Int) =>
 some (LR.next (r19, r20, x21))
def i_transformed_b6 (a0 : List (F × F)) (a1 : Bool) (x1 : F) (v5 : Int) (y6 : F) (y7 : F) (v8 : Int) : Option (LR (F × F × Int) (F × F) ((List (F × F)))) :=
 bsel (decide (v8 < (a0.length : Int))) (
  obind (at? a0 v8) fun (e9 : (F × F)) =>
  olet (IntKind.i64.wrap (v8 * v5)) fun (x10 : Int) =>
  olet (fint .f64 x10) fun (x11 : F) =>
  olet (fop .quo .f64 x11 x1) fun (x12 : F) =>
  bsel a1 (
   olet (fneg .f64 x12) fun (x13 : F) =>
   i_transformed_k5 y6 y7 v8 e9 x13) (
   i_transformed_k5 y6 y7 v8 e9 x12)) (
  some (LR.out (y6, y7)))
def i_transformed_s6 (a0 : List (F × F)) (a1 : Bool) (x1 : F) (v5 : Int) : (F × F × Int) → Option (LR (F × F × Int) (F × F) ((List (F × F)))) := fun s => i_transformed_b6 a0 a1 x1 v5 s.1 s.2.1 s.2.2
def i_transformed_k6 (L4 : List (F × F)) (v5 : Int) (y22 : F) (y23 : F) : Option (LR ((List (F × F)) × Int) ((List (F × F))) ((List (F × F)))) :=
 need (apok 8 L4.length 1) <|
 olet (IntKind.i64.wrap (v5 + 1)) fun (x24 : Int) =>
 some (LR.next ((L4 ++ ([(y22, y23)] : List (F × F))), x24))
def i_transformed_b7 (a0 : List (F × F)) (a1 : Bool) (x1 : F) (L4 : List (F × F)) (v5 : Int) : Option (LR ((List (F × F)) × Int) ((List (F × F))) ((List (F × F)))) :=
 bsel (decide (v5 < (a0.length : Int))) (
  obind (loopM (i_transformed_s6 a0 a1 x1 v5) (some 0, some 0, 0)) fun z => osum z (fun e => i_transformed_k6 L4 v5 e.1 e.2) (fun r => some (LR.ret r))) (
  some (LR.out L4))
def i_transformed_s7 (a0 : List (F × F)) (a1 : Bool) (x1 : F) : ((List (F × F)) × Int) → Option (LR ((List (F × F)) × Int) ((List (F × F))) ((List (F × F)))) := fun s => i_transformed_b7 a0 a1 x1 s.1 s.2
def i_transformed_k7 (L27 : List (F × F)) : Option ((List (F × F))) :=
 some L27
def i_transformed (a0 : List (F × F)) (a1 : Bool) : Option ((List (F × F))) :=
 olet (fint .f64 (a0.length : Int)) fun (x1 : F) =>
 obind (loopM (i_transformed_s7 a0 a1 x1) (([] : List (F × F)), 0)) fun z => osum z (fun e => i_transformed_k7 e) (fun r => some r)
theorem i_transformed_ok (a0 : List (F × F)) (a1 : Bool) (q0 : List (F × F)) (h : i_transformed a0 a1 = some q0) : Ev Try.prog 56 [sl a0.length (a0.map (cp .f32)), b a1] [] (oref 0 0 0 q0.length) [⟨0, some (q0.map (cp .f32))⟩] := by
 refine yE Try.func56 2 101 0 [(0, sl a0.length (a0.map (cp .f32))), (1, b a1)] [⟨0, none⟩, ⟨0, none⟩] rfl ?_
 unfold i_transformed at h
 refine zQ<|ya rfl nilsl<|zN ?_
 refine yS ?_
 obtain ⟨x1, hx1, h⟩ := oL h
 refine yW<|ye rfl (oref 0 1 0 0) ([⟨1, some (([] : List (F × F)).map (cp .f32))⟩, ⟨0, none⟩]) (TOp.buildSlice_o (g := ⟨0, none⟩) (za := cx .f32 (some 0) (some 0)) (qs := []) 0 rfl und25 siz27 zer27 rfl zel27 rfl rfl trivial rfl)<|ym rfl (sl a0.length (a0.map (cp .f32)))<|yl rfl (i64 (a0.length : Int)) (LOp.len_sl und25 rfl rfl)<|yl rfl (f64 x1) (LOp.eqr (LOp.i2f (src := 3) (dst := 40) ⟨_, pun3⟩ pun40 rfl rfl) (congrArg (f .f64) hx1))<|ya rfl (oref 0 1 0 0)<|ya rfl (f64 x1)<|zN ?_
 refine yS<|zQ<|ym rfl (sl a0.length (a0.map (cp .f32)))<|yl rfl (i64 (a0.length : Int)) (LOp.len_sl und25 rfl rfl)<|ym rfl (i64 0)<|zN ?_
 obtain ⟨z8, hz_8, h⟩ := oS h
 refine RunC.cutN (fun τ Γ => ∃ (L27 : List (F × F)) (u25 : Nat) (u26 : Nat), WeakLe τ [(5, oref 0 u25 0 L27.length)] ∧ DeadLe Γ [⟨u25, some (L27.map (cp .f32))⟩, ⟨u26, none⟩] ∧ z8 = .inl L27) ?_ ?_
 ·refine RunC.block (RunC.loop (RunL.loopM (x := z8) (i_transformed_s7 a0 a1 x1) (fun (s : (List (F × F)) × Int) τ Γ => ∃ (u2 : Nat) (u3 : Nat), WeakLe τ [(0, sl a0.length (a0.map (cp .f32))), (1, b a1), (5, oref 0 u2 0 s.1.length), (6, f64 x1), (17, i64 (a0.length : Int)), (18, i64 s.2)] ∧ DeadLe Γ [⟨u2, some (s.1.map (cp .f32))⟩, ⟨u3, none⟩]) ?_ _ _ _ hz_8 ⟨1, 0, ⟨aR, aR, aR, aR, aR, aR, trivial⟩, ⟨⟨rfl, .inr rfl⟩, ⟨rfl, .inl rfl⟩, trivial⟩⟩))
  rintro ⟨L4, v5⟩ τ8 Γ8 y8_ ⟨u2, u3, hw8, hd8⟩ h8_ ho8 hr8
  refine RunC.wl (τ' := [(0, sl a0.length (a0.map (cp .f32))), (1, b a1), (5, oref 0 u2 0 L4.length), (6, f64 x1), (17, i64 (a0.length : Int)), (18, i64 v5)]) (Γ' := [⟨u2, some (L4.map (cp .f32))⟩, ⟨u3, none⟩]) hw8 hd8 ?_
  replace h8_ : i_transformed_b7 a0 a1 x1 L4 v5 = some y8_ := h8_
  unfold i_transformed_b7 at h8_
  refine yS ?_
  rcases oB h8_ with ⟨hc2, h8_⟩ | ⟨hc2, h8_⟩
  ·refine yW<|yl rfl (b true) (LOp.eqb (LOp.lss rfl rfl rfl) hc2)<|zN ?_
   refine yS<|yT<|RunC.skip<|yS<|RunC.block<|zQ<|ym rfl (i64 v5)<|ya rfl (i64 v5)<|zN ?_
   refine zQ<|yl rfl (cx .f32 (some 0) (some 0)) (LOp.le (LOp.assign rfl rfl) (ALe.cpx (by kernel_rfl) (by kernel_rfl) (by kernel_rfl) (by kernel_rfl)))<|zN ?_
   refine yS<|zQ<|ym rfl (sl a0.length (a0.map (cp .f32)))<|yl rfl (i64 (a0.length : Int)) (LOp.len_sl und25 rfl rfl)<|ym rfl (i64 0)<|zN ?_
   obtain ⟨z9, hz_9, h8_⟩ := oS h8_
   refine RunC.cutN (fun τ Γ => ∃ (y22 : F) (y23 : F), WeakLe τ [(0, sl a0.length (a0.map (cp .f32))), (1, b a1), (5, oref 0 u2 0 L4.length), (6, f64 x1), (8, cx .f32 y22 y23), (17, i64 (a0.length : Int)), (18, i64 v5)] ∧ DeadLe Γ [⟨u2, some (L4.map (cp .f32))⟩, ⟨u3, none⟩] ∧ z9 = .inl (y22, y23)) ?_ ?_
   ·refine RunC.block (RunC.loop (RunL.loopM (x := z9) (i_transformed_s6 a0 a1 x1 v5) (fun (s : F × F × Int) τ Γ => WeakLe τ [(0, sl a0.length (a0.map (cp .f32))), (1, b a1), (5, oref 0 u2 0 L4.length), (6, f64 x1), (7, i64 v5), (8, cx .f32 s.1 s.2.1), (17, i64 (a0.length : Int)), (18, i64 v5), (21, sl a0.length (a0.map (cp .f32))), (22, i64 (a0.length : Int)), (23, i64 s.2.2)] ∧ DeadLe Γ [⟨u2, some (L4.map (cp .f32))⟩, ⟨u3, none⟩]) ?_ _ _ _ hz_9 ⟨⟨aR, aR, aR, aR, aR, aR, aR, aR, aR, aR, aR, trivial⟩, ⟨⟨rfl, .inr rfl⟩, ⟨rfl, .inl rfl⟩, trivial⟩⟩))
    rintro ⟨y6, y7, v8⟩ τ9 Γ9 y9_ ⟨hw9, hd9⟩ h9_ ho9 hr9
    refine RunC.wl (τ' := [(0, sl a0.length (a0.map (cp .f32))), (1, b a1), (5, oref 0 u2 0 L4.length), (6, f64 x1), (7, i64 v5), (8, cx .f32 y6 y7), (17, i64 (a0.length : Int)), (18, i64 v5), (21, sl a0.length (a0.map (cp .f32))), (22, i64 (a0.length : Int)), (23, i64 v8)]) (Γ' := [⟨u2, some (L4.map (cp .f32))⟩, ⟨u3, none⟩]) hw9 hd9 ?_
    replace h9_ : i_transformed_b6 a0 a1 x1 v5 y6 y7 v8 = some y9_ := h9_
    unfold i_transformed_b6 at h9_
    refine yS ?_
    rcases oB h9_ with ⟨hc3, h9_⟩ | ⟨hc3, h9_⟩
    ·refine yW<|yl rfl (b true) (LOp.eqb (LOp.lss rfl rfl rfl) hc3)<|zN ?_
     refine yS<|yT<|RunC.skip<|yS<|RunC.block<|yS ?_
     obtain ⟨e9, he4, h9_⟩ := oS h9_
     refine yW<|ym rfl (i64 v8)<|yl rfl (ptr [cx .f32 e9.1 e9.2]) (LOp.le (LOp.ix (f := (cp .f32)) und25 siz27 rfl rfl rfl rfl he4) ALe.ptr)<|yl rfl (cx .f32 e9.1 e9.2) (y2 agg27)<|ya rfl (i64 v8)<|ya rfl (cx .f32 e9.1 e9.2)<|zN ?_
     refine yS ?_
     obtain ⟨x10, hx5, h9_⟩ := oL h9_
     obtain ⟨x11, hx6, h9_⟩ := oL h9_
     obtain ⟨x12, hx7, h9_⟩ := oL h9_
     refine yW<|ym rfl (i64 v8)<|ym rfl (i64 v5)<|yl rfl (i64 x10) (LOp.eqr (LOp.mul rfl rfl rfl) (congrArg (ik .i64) hx5))<|yl rfl (f64 x11) (LOp.eqr (LOp.i2f (src := 3) (dst := 40) ⟨_, pun3⟩ pun40 rfl rfl) (congrArg (f .f64) hx6))<|ym rfl (f64 x1)<|yd rfl (f64 x12) (TOp.eqr (TOp.fop (.inr (.inr (.inr rfl))) rfl (OpF.tmp rfl) (OpF.tmp rfl)) (congrArg (f .f64) hx7))<|ya rfl (f64 x12)<|zN ?_
     refine yS<|RunC.cutN (fun τ Γ => ∃ (y14 : F), WeakLe τ [(0, sl a0.length (a0.map (cp .f32))), (1, b a1), (5, oref 0 u2 0 L4.length), (6, f64 x1), (7, i64 v5), (8, cx .f32 y6 y7), (10, cx .f32 e9.1 e9.2), (11, f64 y14), (17, i64 (a0.length : Int)), (18, i64 v5), (21, sl a0.length (a0.map (cp .f32))), (22, i64 (a0.length : Int)), (23, i64 v8)] ∧ DeadLe Γ [⟨u2, some (L4.map (cp .f32))⟩, ⟨u3, none⟩] ∧ i_transformed_k5 y6 y7 v8 e9 y14 = some y9_) ?_ ?_
     ·refine yS ?_
      rcases oB h9_ with ⟨hc8, h9_⟩ | ⟨hc8, h9_⟩
      ·refine yW<|yl rfl (b true) (yv hc8)<|zN ?_
       refine yT ?_
       obtain ⟨x13, hx9, h9_⟩ := oL h9_
       refine yW<|ym rfl (f64 x12)<|yl rfl (f64 x13) (LOp.eqr (LOp.fneg rfl (OpF.tmp rfl)) (congrArg (f .f64) hx9))<|ya rfl (f64 x13)<|zN ?_
       exact ⟨x13, ⟨aR, aR, aR, aR, aR, aR, aR, aR, aR, aR, aR, aR, aR, trivial⟩, ⟨⟨rfl, .inr rfl⟩, ⟨rfl, .inl rfl⟩, trivial⟩, h9_⟩
      ·refine yW<|yl rfl (b false) (yv hc8)<|zN ?_
       refine yF<|RunC.skip ?_
       exact ⟨x12, ⟨aR, aR, aR, aR, aR, aR, aR, aR, aR, aR, aR, aR, aR, trivial⟩, ⟨⟨rfl, .inr rfl⟩, ⟨rfl, .inl rfl⟩, trivial⟩, h9_⟩
     ·rintro τ10 Γ10 ⟨y14, hw10, hd10, h9_⟩
      refine RunC.wl hw10 hd10 ?_
      unfold i_transformed_k5 at h9_
      obtain ⟨r15, r16, hf10, h9_⟩ := obind2_some h9_
      obtain ⟨r17, r18, hf11, h9_⟩ := obind2_some h9_
      obtain ⟨r19, r20, hf12, h9_⟩ := obind2_some h9_
      refine yW<|ym rfl (cx .f32 y6 y7)<|ym rfl (cx .f32 e9.1 e9.2)<|ym rfl (f64 y14)<|yd rfl (cx .f32 r15 r16) (yc ent130 rfl rfl bN0 (i_PhasorOf_ok y14 r15 r16 hf10))<|yd rfl (cx .f32 r17 r18) (yc ent60 rfl rfl (bP bN0) (i_MulComplex_ok e9.1 e9.2 r15 r16 r17 r18 hf11))<|yd rfl (cx .f32 r19 r20) (yc ent59 rfl rfl (bP bN0) (i_addComplex_ok y6 y7 r17 r18 r19 r20 hf12))<|ya rfl (cx .f32 r19 r20)<|zN ?_
      obtain ⟨x21, hx13, h9_⟩ := oL h9_
      refine yW<|yl rfl (i64 x21) (LOp.eqr (LOp.add rfl rfl rfl) (congrArg (ik .i64) hx13))<|ym rfl (i64 x21)<|zN ?_
      cases oI h9_
      exact ⟨_, rfl, ⟨aR, aR, aR, aR, aR, aR, aR, aR, aR, aR, aR, trivial⟩, ⟨⟨rfl, .inr rfl⟩, ⟨rfl, .inl rfl⟩, trivial⟩⟩
    ·refine yW<|yl rfl (b false) (LOp.eqb (LOp.lss rfl rfl rfl) hc3)<|zN ?_
     refine yS<|yF<|RunC.exit ?_
     cases oI h9_
     have hx := ho9 _ rfl
     exact ⟨y6, y7, ⟨aR, aR, aR, aR, aR, aR, aR, trivial⟩, ⟨⟨rfl, .inr rfl⟩, ⟨rfl, .inl rfl⟩, trivial⟩, hx⟩
   ·rintro τ11 Γ11 ⟨y22, y23, hw11, hd11, rfl⟩
    refine RunC.wl hw11 hd11 ?_
    replace h8_ : i_transformed_k6 L4 v5 y22 y23 = some y8_ := h8_
    unfold i_transformed_k6 at h8_
    obtain ⟨hm14, h8_⟩ := need_some h8_
    refine yW<|ym rfl (oref 0 u2 0 L4.length)<|ym rfl (cx .f32 y22 y23)<|ye rfl (oref 1 (u3 + 1) 0 1) ([⟨u2, some (L4.map (cp .f32))⟩, ⟨(u3 + 1), some (([(y22, y23)] : List (F × F)).map (cp .f32))⟩]) (TOp.buildSlice_o (g := ⟨u3, none⟩) (za := cx .f32 (some 0) (some 0)) (qs := [(0, [cx .f32 y22 y23])]) 1 rfl und25 siz27 zer27 rfl zel27 rfl rfl ⟨rfl, ⟨_, ALe.refl _, rfl⟩, trivial⟩ rfl)<|ROps.app (f := (cp .f32)) (xs := L4) (ys := ([(y22, y23)] : List (F × F))) (Γ' := [⟨(u2 + 1), some ((L4 ++ ([(y22, y23)] : List (F × F))).map (cp .f32))⟩, ⟨(u3 + 1), some (([(y22, y23)] : List (F × F)).map (cp .f32))⟩]) rfl pun25 inf27 rfl rfl rfl rfl rfl rfl rfl rfl rfl (by simp) (ReadAs.own rfl (by simp)) (ones_map (fun _ => rfl)) (ap_by hm14) (ap_mx hm14) rfl<|ya rfl (oref 0 (u2 + 1) 0 (L4.length + 1))<|zN ?_
    refine RunC.wl (τ' := [(0, sl a0.length (a0.map (cp .f32))), (1, b a1), (5, oref 0 (u2 + 1) 0 (L4.length + 1)), (6, f64 x1), (17, i64 (a0.length : Int)), (18, i64 v5)]) (Γ' := [⟨(u2 + 1), some ((L4 ++ ([(y22, y23)] : List (F × F))).map (cp .f32))⟩, ⟨(u3 + 1), none⟩]) ⟨aR, aR, aR, aR, aR, aR, trivial⟩ ⟨⟨rfl, .inr rfl⟩, ⟨rfl, .inl rfl⟩, trivial⟩ ?_
    obtain ⟨x24, hx15, h8_⟩ := oL h8_
    refine yW<|yl rfl (i64 x24) (LOp.eqr (LOp.add rfl rfl rfl) (congrArg (ik .i64) hx15))<|ym rfl (i64 x24)<|zN ?_
    cases oI h8_
    exact ⟨_, rfl, (u2 + 1), (u3 + 1), ⟨aR, aR, (ALe.eq (by rw [(app_len rfl rfl)] <;> rfl)), aR, aR, aR, trivial⟩, ⟨⟨rfl, .inr rfl⟩, ⟨rfl, .inl rfl⟩, trivial⟩⟩
  ·refine yW<|yl rfl (b false) (LOp.eqb (LOp.lss rfl rfl rfl) hc2)<|zN ?_
   refine yS<|yF<|RunC.exit ?_
   cases oI h8_
   have hx := ho8 _ rfl
   exact ⟨L4, u2, u3, ⟨aR, trivial⟩, ⟨⟨rfl, .inr rfl⟩, ⟨rfl, .inl rfl⟩, trivial⟩, hx⟩
 ·rintro τ12 Γ12 ⟨L27, u25, u26, hw12, hd12, rfl⟩
  refine RunC.wl hw12 hd12 ?_
  replace h : i_transformed_k7 L27 = some q0 := h
  unfold i_transformed_k7 at h
  refine zQ<|ym rfl (oref 0 u25 0 L27.length)<|ya rfl (oref 0 u25 0 L27.length)<|zN ?_
  refine RunC.ret ?_
  have hq := oI h
  subst q0
  exact bodyQ.mk (r' := oref 0 u25 0 L27.length) [(0, u25)] (.inr rfl) rfl (ndB_ok rfl) (by simp [ren, rens, sigma]) rfl (Res.one rfl (RV.tmp rfl)) (SelL.arr0 (f := (cp .f32)) (fun _ => rfl) rfl trivial)
def i_ring_0o (a0 : List (F × F)) : Option ((Bool × (List (F × F))) ⊕ (Bool × (List (F × F)) × (List (F × F)))) :=
 obind (i_isRing a0) fun (r1 : Bool) =>
 bsel r1 (
  some (Sum.inl (true, a0))) (
  some (Sum.inr (false, a0, ([] : List (F × F)))))
theorem i_ring_0o_ok0 (a0 : List (F × F)) (q0 : Bool) (q1 : List (F × F)) (h : i_ring_0o a0 = some (Sum.inl (q0, q1))) : Ev Try.prog 55 [oref 0 0 0 a0.length] [⟨0, some (a0.map (cp .f32))⟩] (tup [oref 0 0 0 q1.length, b q0]) [⟨0, some (q1.map (cp .f32))⟩] := by
 refine Ev.start Try.func55 rfl rfl 1 (τ := [(0, oref 0 0 0 a0.length)]) rfl (Γ' := [⟨0, some (a0.map (cp .f32))⟩, ⟨0, none⟩]) rfl (n := 16) rfl (g := 1) rfl (by decide) ?_
 unfold i_ring_0o at h
 refine zQ<|ya rfl nilsl<|ya rfl (b false)<|zN ?_
 refine yS<|yS ?_
 obtain ⟨r1, hf1, h⟩ := oS h
 rcases oB h with ⟨hc2, h⟩ | ⟨hc2, h⟩
 ·refine yW<|ym rfl (oref 0 0 0 a0.length)<|yd rfl (b true) (TOp.eqb (yc ent54 rfl rfl (Bors.cons (Bor.own (f := (cp .f32)) (fun _ => rfl) rfl rfl) bN) (i_isRing_ok a0 r1 hf1)) hc2)<|yl rfl (b false) y1<|zN ?_
  refine yF<|RunC.skip<|zQ<|ym rfl (oref 0 0 0 a0.length)<|ya rfl (oref 0 0 0 a0.length)<|ya rfl (b true)<|zN ?_
  refine RunC.ret ?_
  have hq := oI h
  have hq := Sum.inl.inj hq
  obtain ⟨hq0, hq⟩ := Prod.mk.inj hq
  subst q0
  subst q1
  exact yB (tup [oref 0 0 0 a0.length, b true]) [(0, 0)] (Res.two rfl (RV.tmp rfl) (RV.tmp rfl)) (SelL.arr (f := (cp .f32)) (fun _ => rfl) rfl trivial)
 ·refine yW<|ym rfl (oref 0 0 0 a0.length)<|yd rfl (b false) (TOp.eqb (yc ent54 rfl rfl (Bors.cons (Bor.own (f := (cp .f32)) (fun _ => rfl) rfl rfl) bN) (i_isRing_ok a0 r1 hf1)) hc2)<|yl rfl (b true) y0<|zN ?_
  refine yT<|zQ<|ya rfl nilsl<|ya rfl (b false)<|zN ?_
  cases oI h
theorem i_ring_0o_ok1 (a0 : List (F × F)) (q0 : Bool) (q1 : List (F × F)) (q2 : List (F × F)) (h : i_ring_0o a0 = some (Sum.inr (q0, q1, q2))) : Ev Try.prog 55 [oref 0 0 0 a0.length] [⟨0, some (a0.map (cp .f32))⟩] (tup [oref 1 0 0 q2.length, b q0]) [⟨0, some (q1.map (cp .f32))⟩, ⟨0, some (q2.map (cp .f32))⟩] := by
 refine Ev.start Try.func55 rfl rfl 1 (τ := [(0, oref 0 0 0 a0.length)]) rfl (Γ' := [⟨0, some (a0.map (cp .f32))⟩, ⟨0, none⟩]) rfl (n := 16) rfl (g := 1) rfl (by decide) ?_
 unfold i_ring_0o at h
 refine zQ<|ya rfl nilsl<|ya rfl (b false)<|zN ?_
 refine yS<|yS ?_
 obtain ⟨r1, hf1, h⟩ := oS h
 rcases oB h with ⟨hc2, h⟩ | ⟨hc2, h⟩
 ·refine yW<|ym rfl (oref 0 0 0 a0.length)<|yd rfl (b true) (TOp.eqb (yc ent54 rfl rfl (Bors.cons (Bor.own (f := (cp .f32)) (fun _ => rfl) rfl rfl) bN) (i_isRing_ok a0 r1 hf1)) hc2)<|yl rfl (b false) y1<|zN ?_
  refine yF<|RunC.skip<|zQ<|ym rfl (oref 0 0 0 a0.length)<|ya rfl (oref 0 0 0 a0.length)<|ya rfl (b true)<|zN ?_
  cases oI h
 ·refine yW<|ym rfl (oref 0 0 0 a0.length)<|yd rfl (b false) (TOp.eqb (yc ent54 rfl rfl (Bors.cons (Bor.own (f := (cp .f32)) (fun _ => rfl) rfl rfl) bN) (i_isRing_ok a0 r1 hf1)) hc2)<|yl rfl (b true) y0<|zN ?_
  refine yT<|zQ<|ya rfl nilsl<|ya rfl (b false)<|zN ?_
  refine RunC.nil_slot (Γ' := [⟨0, some (a0.map (cp .f32))⟩, ⟨1, some (([] : List (F × F)).map (cp .f32))⟩]) 2 1 rfl rfl rfl<|RunC.ret ?_
  have hq := oI h
  have hq := Sum.inr.inj hq
  obtain ⟨hq0, hq⟩ := Prod.mk.inj hq
  obtain ⟨hq1, hq⟩ := Prod.mk.inj hq
  subst q0
  subst q1
  subst q2
  exact yB (tup [oref 1 1 0 (([] : List (F × F)).length), b false]) [(0, 0), (1, 1)] (Res.eq (Res.two rfl (RV.tmp rfl) (RV.tmp rfl)) (by first | rfl | (rw [(show ([] : List (F × F)).length = 0 from rfl)] <;> rfl))) (SelL.arr (f := (cp .f32)) (fun _ => rfl) rfl (SelL.arr0 (f := (cp .f32)) (fun _ => rfl) rfl trivial))
def i_SpectrumOf (a0 : List (F × F)) : Option (Bool × (List (F × F))) :=
 obind (i_isRing a0) fun (r1 : Bool) =>
 bsel r1 (
  obind (i_transformed a0 true) fun (r2 : List (F × F)) =>
  obind (i_ring_0o r2) (fun z => osum z (fun y => obind2 (some y) fun (r3 : Bool) (r4 : List (F × F)) =>
   need (decide (r4.length = r2.length)) <|
   some (r3, r4)) (fun y => obind3 (some y) fun (r5 : Bool) (r6 : List (F × F)) (r7 : List (F × F)) =>
   need (decide (r6.length = r2.length)) <|
   some (r5, r7)))) (
  some (false, ([] : List (F × F))))
theorem i_SpectrumOf_ok (a0 : List (F × F)) (q0 : Bool) (q1 : List (F × F)) (h : i_SpectrumOf a0 = some (q0, q1)) : Ev Try.prog 9 [sl a0.length (a0.map (cp .f32))] [] (tup [oref 0 0 0 q1.length, b q0]) [⟨0, some (q1.map (cp .f32))⟩] := by
 refine yE Try.func9 2 25 0 [(0, sl a0.length (a0.map (cp .f32)))] [⟨0, none⟩, ⟨0, none⟩] rfl ?_
 unfold i_SpectrumOf at h
 refine zQ<|ya rfl nilsl<|ya rfl (b false)<|zN ?_
 refine yS<|yS ?_
 obtain ⟨r1, hf1, h⟩ := oS h
 rcases oB h with ⟨hc2, h⟩ | ⟨hc2, h⟩
 ·refine yW<|ym rfl (sl a0.length (a0.map (cp .f32)))<|yd rfl (b true) (TOp.eqb (yc ent54 rfl rfl (bS bN) (i_isRing_ok a0 r1 hf1)) hc2)<|yl rfl (b false) y1<|zN ?_
  refine yF<|RunC.skip<|yS ?_
  obtain ⟨r2, hf3, h⟩ := oS h
  obtain ⟨z1, hf4, h⟩ := oS h
  rcases z1 with z1 | z1
  ·replace h := (osum_inl _ _ _).symm.trans h
   obtain ⟨r3, r4, hz2, h⟩ := obind2_some h
   cases hz2
   obtain ⟨hn5, h⟩ := need_some h
   refine yW<|ym rfl (sl a0.length (a0.map (cp .f32)))<|ye rfl (oref 0 1 0 r2.length) [⟨1, some (r2.map (cp .f32))⟩, ⟨0, none⟩] (TOp.callBN (ls := [(r2.map (cp .f32))]) [0] (CallAs.func ent56 rfl rfl) (bS bN0) rfl (i_transformed_ok a0 true r2 hf3) (and_all (lts0_map (f := (cp .f32)) (fun _ => rfl) _) rfl) (and_all (noss_map (f := (cp .f32)) (fun _ => rfl) _) rfl) rfl (by decide) (ns_of ⟨⟨_, rfl⟩, trivial⟩))<|ROps.callO (A := [oref 0 1 0 r2.length]) (args := [oref 0 0 0 r2.length]) (Γc := [⟨0, some (r2.map (cp .f32))⟩]) (Γc' := [⟨0, some (r4.map (cp .f32))⟩]) (r' := tup [oref 0 1 0 r2.length, b r3]) (Γ' := [⟨1, some (r4.map (cp .f32))⟩, ⟨0, none⟩]) [(0, 1)] [] rfl (CallAs.func ent55 rfl rfl) rfl rfl (SelOk.of (ndB_ok rfl) (SelL.arr0 (f := (cp .f32)) (fun _ => rfl) rfl trivial)) (live_of ⟨⟨_, _, rfl⟩, trivial⟩) (by simp [ren, rens, sigma, rens_f32, rens_f64, rens_i64, rens_ik, rens_str, rens_cp]) rfl (i_ring_0o_ok0 r2 r3 r4 hf4) rfl (news_of trivial) (ndB_ok rfl) (by simp [ren, rens, sigma, of_decide_eq_true hn5]) (by simp [backOb, sigma, ren, rens, rens_f32, rens_f64, rens_i64, rens_ik, rens_str, rens_cp] <;> omega)<|yl rfl (oref 0 1 0 r2.length) y3<|yl rfl (b r3) y3<|ya rfl (oref 0 1 0 r2.length)<|ya rfl (b r3)<|zN ?_
   refine RunC.ret ?_
   have hq := oI h
   obtain ⟨hq0, hq⟩ := Prod.mk.inj hq
   subst q0
   subst q1
   exact yB (tup [oref 0 1 0 r4.length, b r3]) [(0, 1)] (Res.eq (Res.two rfl (RV.tmp rfl) (RV.tmp rfl)) (by first | rfl | (rw [(show r4.length = r2.length from (of_decide_eq_true hn5))] <;> rfl))) (SelL.arr0 (f := (cp .f32)) (fun _ => rfl) rfl trivial)
  ·replace h := (osum_inr _ _ _).symm.trans h
   obtain ⟨r5, r6, r7, hz3, h⟩ := obind3_some h
   cases hz3
   obtain ⟨hn6, h⟩ := need_some h
   refine yW<|ym rfl (sl a0.length (a0.map (cp .f32)))<|ye rfl (oref 0 1 0 r2.length) [⟨1, some (r2.map (cp .f32))⟩, ⟨0, none⟩] (TOp.callBN (ls := [(r2.map (cp .f32))]) [0] (CallAs.func ent56 rfl rfl) (bS bN0) rfl (i_transformed_ok a0 true r2 hf3) (and_all (lts0_map (f := (cp .f32)) (fun _ => rfl) _) rfl) (and_all (noss_map (f := (cp .f32)) (fun _ => rfl) _) rfl) rfl (by decide) (ns_of ⟨⟨_, rfl⟩, trivial⟩))<|ROps.callO (A := [oref 0 1 0 r2.length]) (args := [oref 0 0 0 r2.length]) (Γc := [⟨0, some (r2.map (cp .f32))⟩]) (Γc' := [⟨0, some (r6.map (cp .f32))⟩, ⟨0, some (r7.map (cp .f32))⟩]) (r' := tup [oref 1 1 0 r7.length, b r5]) (Γ' := [⟨1, some (r6.map (cp .f32))⟩, ⟨1, some (r7.map (cp .f32))⟩]) [(0, 1)] [(1, 1)] rfl (CallAs.func ent55 rfl rfl) rfl rfl (SelOk.of (ndB_ok rfl) (SelL.arr0 (f := (cp .f32)) (fun _ => rfl) rfl trivial)) (live_of ⟨⟨_, _, rfl⟩, trivial⟩) (by simp [ren, rens, sigma, rens_f32, rens_f64, rens_i64, rens_ik, rens_str, rens_cp]) rfl (i_ring_0o_ok1 r2 r5 r6 r7 hf4) rfl (news_of ⟨⟨_, rfl, rfl⟩, trivial⟩) (show List.Nodup [0, 1] from by decide) (by simp [ren, rens, sigma, of_decide_eq_true hn6]) (by simp [backOb, sigma, ren, rens, rens_f32, rens_f64, rens_i64, rens_ik, rens_str, rens_cp] <;> omega)<|yl rfl (oref 1 1 0 r7.length) y3<|yl rfl (b r5) y3<|ya rfl (oref 1 1 0 r7.length)<|ya rfl (b r5)<|zN ?_
   refine RunC.ret ?_
   have hq := oI h
   obtain ⟨hq0, hq⟩ := Prod.mk.inj hq
   subst q0
   subst q1
   exact yB (tup [oref 1 1 0 r7.length, b r5]) [(1, 1)] (Res.two rfl (RV.tmp rfl) (RV.tmp rfl)) (SelL.arr0 (f := (cp .f32)) (fun _ => rfl) rfl trivial)
 ·refine yW<|ym rfl (sl a0.length (a0.map (cp .f32)))<|yd rfl (b false) (TOp.eqb (yc ent54 rfl rfl (bS bN) (i_isRing_ok a0 r1 hf1)) hc2)<|yl rfl (b true) y0<|zN ?_
  refine yT<|zQ<|ya rfl nilsl<|ya rfl (b false)<|zN ?_
  refine RunC.nil_slot (Γ' := [⟨1, some (([] : List (F × F)).map (cp .f32))⟩, ⟨0, none⟩]) 2 0 rfl rfl rfl<|RunC.ret ?_
  have hq := oI h
  obtain ⟨hq0, hq⟩ := Prod.mk.inj hq
  subst q0
  subst q1
  exact yB (tup [oref 0 1 0 (([] : List (F × F)).length), b false]) [(0, 1)] (Res.eq (Res.two rfl (RV.tmp rfl) (RV.tmp rfl)) (by first | rfl | (rw [(show ([] : List (F × F)).length = 0 from rfl)] <;> rfl))) (SelL.arr0 (f := (cp .f32)) (fun _ => rfl) rfl trivial)
def i_mul (a0 : F) (a1 : F) : Option (F) :=
 olet (fop .mul .f32 a0 a1) fun (x1 : F) =>
 some x1
theorem i_mul_ok (a0 : F) (a1 : F) (q0 : F) (h : i_mul a0 a1 = some q0) : Ev Try.prog 76 [f32 a0, f32 a1] [] (f32 q0) [] := by
 refine yE Try.func76 0 17 0 [(0, f32 a0), (1, f32 a1)] [] rfl ?_
 unfold i_mul at h
 refine zQ<|yl rfl (f32 (some 0)) (LOp.le (LOp.assign rfl rfl) (ALe.fl (by kernel_rfl) (by kernel_rfl)))<|zN ?_
 refine yS ?_
 obtain ⟨x1, hx1, h⟩ := oL h
 refine yW<|ym rfl (f32 a0)<|ym rfl (f32 a1)<|yd rfl (f32 x1) (TOp.eqr (TOp.fop (.inr (.inr (.inl rfl))) rfl (OpF.tmp rfl) (OpF.tmp rfl)) (congrArg (f .f32) hx1))<|ya rfl (f32 x1)<|zN ?_
 refine RunC.ret ?_
 have hq := oI h
 subst q0
 exact bodyQ.pure (.inr rfl) rfl (Res.one rfl (RV.tmp rfl))
def i_ScaleComplex (a0 : F) (a1 : F) (a2 : F) : Option (F × F) :=
 obind (i_mul a0 a2) fun (r1 : F) =>
 obind (i_mul a1 a2) fun (r2 : F) =>
 some (r1, r2)
theorem i_ScaleComplex_ok (a0 : F) (a1 : F) (a2 : F) (q0 : F) (q1 : F) (h : i_ScaleComplex a0 a1 a2 = some (q0, q1)) : Ev Try.prog 57 [cx .f32 a0 a1, f32 a2] [] (cx .f32 q0 q1) [] := by
 refine yE Try.func57 0 29 0 [(0, cx .f32 a0 a1), (1, f32 a2)] [] rfl ?_
 unfold i_ScaleComplex at h
 refine zQ<|yl rfl (cx .f32 (some 0) (some 0)) (LOp.le (LOp.assign rfl rfl) (ALe.cpx (by kernel_rfl) (by kernel_rfl) (by kernel_rfl) (by kernel_rfl)))<|zN ?_
 refine yS ?_
 obtain ⟨r1, hf1, h⟩ := oS h
 obtain ⟨r2, hf2, h⟩ := oS h
 refine yW<|ym rfl (cx .f32 a0 a1)<|yl rfl (f32 a0) (LOp.real rfl rfl)<|ym rfl (f32 a2)<|yd rfl (f32 r1) (yc ent76 rfl rfl (bP bN0) (i_mul_ok a0 a2 r1 hf1))<|ym rfl (cx .f32 a0 a1)<|yl rfl (f32 a1) (LOp.imag rfl rfl)<|ym rfl (f32 a2)<|yd rfl (f32 r2) (yc ent76 rfl rfl (bP bN0) (i_mul_ok a1 a2 r2 hf2))<|yl rfl (cx .f32 r1 r2) (LOp.complex rfl (OpF.tmp rfl) (OpF.tmp rfl))<|ya rfl (cx .f32 r1 r2)<|zN ?_
 refine RunC.ret ?_
 have hq := oI h
 obtain ⟨hq0, hq⟩ := Prod.mk.inj hq
 subst q0
 subst q1
 exact bodyQ.pure (.inr rfl) rfl (Res.one rfl (RV.tmp rfl))
def i_FromSpectrum_b1 (x3 : F) (r4 : List (F × F)) (L7 : List (F × F)) (v8 : Int) : Option (LR ((List (F × F)) × Int) ((List (F × F))) (Bool × (List (F × F)))) :=
 bsel (decide (v8 < ((r4.length : Nat) : Int))) (
  obind (at? r4 v8) fun (e9 : (F × F)) =>
  obind2 (i_ScaleComplex e9.1 e9.2 x3) fun (r10 : F) (r11 : F) =>
  need (apok 8 L7.length 1) <|
  olet (IntKind.i64.wrap (v8 + 1)) fun (x12 : Int) =>
  some (LR.next ((L7 ++ ([(r10, r11)] : List (F × F))), x12))) (
  some (LR.out L7))
def i_FromSpectrum_s1 (x3 : F) (r4 : List (F × F)) : ((List (F × F)) × Int) → Option (LR ((List (F × F)) × Int) ((List (F × F))) (Bool × (List (F × F)))) := fun s => i_FromSpectrum_b1 x3 r4 s.1 s.2
def i_FromSpectrum_k1 (L15 : List (F × F)) : Option (Bool × (List (F × F))) :=
 obind (i_ring_0o L15) (fun z => osum z (fun y => obind2 (some y) fun (r16 : Bool) (r17 : List (F × F)) =>
  need (decide (r17.length = L15.length)) <|
  some (r16, r17)) (fun y => obind3 (some y) fun (r18 : Bool) (r19 : List (F × F)) (r20 : List (F × F)) =>
  need (decide (r19.length = L15.length)) <|
  some (r18, r20)))
def i_FromSpectrum (a0 : List (F × F)) : Option (Bool × (List (F × F))) :=
 obind (i_isRing a0) fun (r1 : Bool) =>
 bsel r1 (
  olet (fint .f32 (a0.length : Int)) fun (x2 : F) =>
  olet (fop .quo .f32 (some 1065353216) x2) fun (x3 : F) =>
  obind (i_transformed a0 false) fun (r4 : List (F × F)) =>
  obind (loopM (i_FromSpectrum_s1 x3 r4) (([] : List (F × F)), 0)) fun z => osum z (fun e => i_FromSpectrum_k1 e) (fun r => some r)) (
  some (false, ([] : List (F × F))))
theorem i_FromSpectrum_ok (a0 : List (F × F)) (q0 : Bool) (q1 : List (F × F)) (h : i_FromSpectrum a0 = some (q0, q1)) : Ev Try.prog 10 [sl a0.length (a0.map (cp .f32))] [] (tup [oref 0 0 0 q1.length, b q0]) [⟨0, some (q1.map (cp .f32))⟩] := by
 refine yE Try.func10 3 69 0 [(0, sl a0.length (a0.map (cp .f32)))] [⟨0, none⟩, ⟨0, none⟩, ⟨0, none⟩] rfl ?_
 unfold i_FromSpectrum at h
 refine zQ<|ya rfl nilsl<|ya rfl (b false)<|zN ?_
 refine yS<|yS ?_
 obtain ⟨r1, hf1, h⟩ := oS h
 rcases oB h with ⟨hc2, h⟩ | ⟨hc2, h⟩
 ·refine yW<|ym rfl (sl a0.length (a0.map (cp .f32)))<|yd rfl (b true) (TOp.eqb (yc ent54 rfl rfl (bS bN) (i_isRing_ok a0 r1 hf1)) hc2)<|yl rfl (b false) y1<|zN ?_
  refine yF<|RunC.skip<|yS ?_
  obtain ⟨x2, hx3, h⟩ := oL h
  obtain ⟨x3, hx4, h⟩ := oL h
  refine yW<|ye rfl (oref 0 1 0 0) ([⟨1, some (([] : List (F × F)).map (cp .f32))⟩, ⟨0, none⟩, ⟨0, none⟩]) (TOp.buildSlice_o (g := ⟨0, none⟩) (za := cx .f32 (some 0) (some 0)) (qs := []) 0 rfl und25 siz27 zer27 rfl zel27 rfl rfl trivial rfl)<|ym rfl (sl a0.length (a0.map (cp .f32)))<|yl rfl (i64 (a0.length : Int)) (LOp.len_sl und25 rfl rfl)<|yl rfl (f32 x2) (LOp.eqr (LOp.i2f (src := 3) (dst := 28) ⟨_, pun3⟩ pun28 rfl rfl) (congrArg (f .f32) hx3))<|yd rfl (f32 x3) (TOp.eqr (TOp.fop (.inr (.inr (.inr rfl))) rfl (OpF.const rfl (by kernel_rfl) (by kernel_rfl)) (OpF.tmp rfl)) (congrArg (f .f32) hx4))<|ya rfl (oref 0 1 0 0)<|ya rfl (f32 x3)<|zN ?_
  refine yS<|yS ?_
  obtain ⟨r4, hf5, h⟩ := oS h
  refine yW<|ym rfl (sl a0.length (a0.map (cp .f32)))<|ye rfl (oref 1 1 0 r4.length) ([⟨1, some (([] : List (F × F)).map (cp .f32))⟩, ⟨1, some (r4.map (cp .f32))⟩, ⟨0, none⟩]) (TOp.callBN (ls := [(r4.map (cp .f32))]) [1] (CallAs.func ent56 rfl rfl) (bS bN0) rfl (i_transformed_ok a0 false r4 hf5) (and_all (lts0_map (f := (cp .f32)) (fun _ => rfl) _) rfl) (and_all (noss_map (f := (cp .f32)) (fun _ => rfl) _) rfl) rfl (by decide) (ns_of ⟨⟨_, rfl⟩, trivial⟩))<|yl rfl (i64 ((r4.length : Nat) : Int)) (LOp.len_oref und25 rfl rfl)<|ym rfl (i64 0)<|zN ?_
  obtain ⟨z2, hz_2, h⟩ := oS h
  refine RunC.cutN (fun τ Γ => ∃ (L15 : List (F × F)) (u13 : Nat) (u14 : Nat), WeakLe τ [(4, oref 0 u13 0 L15.length)] ∧ DeadLe Γ [⟨u13, some (L15.map (cp .f32))⟩, ⟨1, none⟩, ⟨u14, none⟩] ∧ z2 = .inl L15) ?_ ?_
  ·refine RunC.block (RunC.loop (RunL.loopM (x := z2) (i_FromSpectrum_s1 x3 r4) (fun (s : (List (F × F)) × Int) τ Γ => ∃ (u5 : Nat) (u6 : Nat), WeakLe τ [(4, oref 0 u5 0 s.1.length), (5, f32 x3), (17, oref 1 1 0 r4.length), (18, i64 ((r4.length : Nat) : Int)), (19, i64 s.2)] ∧ DeadLe Γ [⟨u5, some (s.1.map (cp .f32))⟩, ⟨1, some (r4.map (cp .f32))⟩, ⟨u6, none⟩]) ?_ _ _ _ hz_2 ⟨1, 0, ⟨aR, aR, aR, aR, aR, trivial⟩, ⟨⟨rfl, .inr rfl⟩, ⟨rfl, .inr rfl⟩, ⟨rfl, .inl rfl⟩, trivial⟩⟩))
   rintro ⟨L7, v8⟩ τ2 Γ2 y2_ ⟨u5, u6, hw2, hd2⟩ h2_ ho2 hr2
   refine RunC.wl (τ' := [(4, oref 0 u5 0 L7.length), (5, f32 x3), (17, oref 1 1 0 r4.length), (18, i64 ((r4.length : Nat) : Int)), (19, i64 v8)]) (Γ' := [⟨u5, some (L7.map (cp .f32))⟩, ⟨1, some (r4.map (cp .f32))⟩, ⟨u6, none⟩]) hw2 hd2 ?_
   replace h2_ : i_FromSpectrum_b1 x3 r4 L7 v8 = some y2_ := h2_
   unfold i_FromSpectrum_b1 at h2_
   refine yS ?_
   rcases oB h2_ with ⟨hc6, h2_⟩ | ⟨hc6, h2_⟩
   ·refine yW<|yl rfl (b true) (LOp.eqb (LOp.lss rfl rfl rfl) hc6)<|zN ?_
    refine yS<|yT<|RunC.skip<|yS<|RunC.block<|yS ?_
    obtain ⟨e9, he7, h2_⟩ := oS h2_
    refine yW<|yd rfl (optr 1 1 v8.toNat) (TOp.ixo und25 siz27 rfl rfl rfl (at_in he7 rfl) rfl)<|yd rfl (cx .f32 e9.1 e9.2) (TOp.load1_o rfl (at_cell (f := (cp .f32)) he7) agg27 rfl rfl)<|ya rfl (cx .f32 e9.1 e9.2)<|zN ?_
    obtain ⟨r10, r11, hf8, h2_⟩ := obind2_some h2_
    obtain ⟨hm9, h2_⟩ := need_some h2_
    refine yW<|ym rfl (oref 0 u5 0 L7.length)<|ym rfl (cx .f32 e9.1 e9.2)<|ym rfl (f32 x3)<|yd rfl (cx .f32 r10 r11) (yc ent57 rfl rfl (bP bN0) (i_ScaleComplex_ok e9.1 e9.2 x3 r10 r11 hf8))<|ye rfl (oref 2 (u6 + 1) 0 1) ([⟨u5, some (L7.map (cp .f32))⟩, ⟨1, some (r4.map (cp .f32))⟩, ⟨(u6 + 1), some (([(r10, r11)] : List (F × F)).map (cp .f32))⟩]) (TOp.buildSlice_o (g := ⟨u6, none⟩) (za := cx .f32 (some 0) (some 0)) (qs := [(0, [cx .f32 r10 r11])]) 2 rfl und25 siz27 zer27 rfl zel27 rfl rfl ⟨rfl, ⟨_, ALe.refl _, rfl⟩, trivial⟩ rfl)<|ROps.app (f := (cp .f32)) (xs := L7) (ys := ([(r10, r11)] : List (F × F))) (Γ' := [⟨(u5 + 1), some ((L7 ++ ([(r10, r11)] : List (F × F))).map (cp .f32))⟩, ⟨1, some (r4.map (cp .f32))⟩, ⟨(u6 + 1), some (([(r10, r11)] : List (F × F)).map (cp .f32))⟩]) rfl pun25 inf27 rfl rfl rfl rfl rfl rfl rfl rfl rfl (by simp) (ReadAs.own rfl (by simp)) (ones_map (fun _ => rfl)) (ap_by hm9) (ap_mx hm9) rfl<|ya rfl (oref 0 (u5 + 1) 0 (L7.length + 1))<|zN ?_
    refine RunC.wl (τ' := [(4, oref 0 (u5 + 1) 0 (L7.length + 1)), (5, f32 x3), (17, oref 1 1 0 r4.length), (18, i64 ((r4.length : Nat) : Int)), (19, i64 v8)]) (Γ' := [⟨(u5 + 1), some ((L7 ++ ([(r10, r11)] : List (F × F))).map (cp .f32))⟩, ⟨1, some (r4.map (cp .f32))⟩, ⟨(u6 + 1), none⟩]) ⟨aR, aR, aR, aR, aR, trivial⟩ ⟨⟨rfl, .inr rfl⟩, ⟨rfl, .inr rfl⟩, ⟨rfl, .inl rfl⟩, trivial⟩ ?_
    obtain ⟨x12, hx10, h2_⟩ := oL h2_
    refine yW<|yl rfl (i64 x12) (LOp.eqr (LOp.add rfl rfl rfl) (congrArg (ik .i64) hx10))<|ym rfl (i64 x12)<|zN ?_
    cases oI h2_
    exact ⟨_, rfl, (u5 + 1), (u6 + 1), ⟨(ALe.eq (by rw [(app_len rfl rfl)] <;> rfl)), aR, aR, aR, aR, trivial⟩, ⟨⟨rfl, .inr rfl⟩, ⟨rfl, .inr rfl⟩, ⟨rfl, .inl rfl⟩, trivial⟩⟩
   ·refine yW<|yl rfl (b false) (LOp.eqb (LOp.lss rfl rfl rfl) hc6)<|zN ?_
    refine yS<|yF<|RunC.exit ?_
    cases oI h2_
    have hx := ho2 _ rfl
    exact ⟨L7, u5, u6, ⟨aR, trivial⟩, ⟨⟨rfl, .inr rfl⟩, ⟨rfl, .inl rfl⟩, ⟨rfl, .inl rfl⟩, trivial⟩, hx⟩
  ·rintro τ3 Γ3 ⟨L15, u13, u14, hw3, hd3, rfl⟩
   refine RunC.wl hw3 hd3 ?_
   replace h : i_FromSpectrum_k1 L15 = some (q0, q1) := h
   unfold i_FromSpectrum_k1 at h
   refine yS ?_
   obtain ⟨z4, hf11, h⟩ := oS h
   rcases z4 with z4 | z4
   ·replace h := (osum_inl _ _ _).symm.trans h
    obtain ⟨r16, r17, hz5, h⟩ := obind2_some h
    cases hz5
    obtain ⟨hn12, h⟩ := need_some h
    refine yW<|ym rfl (oref 0 u13 0 L15.length)<|ROps.callO (A := [oref 0 u13 0 L15.length]) (args := [oref 0 0 0 L15.length]) (Γc := [⟨0, some (L15.map (cp .f32))⟩]) (Γc' := [⟨0, some (r17.map (cp .f32))⟩]) (r' := tup [oref 0 u13 0 L15.length, b r16]) (Γ' := [⟨u13, some (r17.map (cp .f32))⟩, ⟨1, none⟩, ⟨u14, none⟩]) [(0, u13)] [] rfl (CallAs.func ent55 rfl rfl) rfl rfl (SelOk.of (ndB_ok rfl) (SelL.arr0 (f := (cp .f32)) (fun _ => rfl) rfl trivial)) (live_of ⟨⟨_, _, rfl⟩, trivial⟩) (by simp [ren, rens, sigma, rens_f32, rens_f64, rens_i64, rens_ik, rens_str, rens_cp]) rfl (i_ring_0o_ok0 L15 r16 r17 hf11) rfl (news_of trivial) (ndB_ok rfl) (by simp [ren, rens, sigma, of_decide_eq_true hn12]) (by simp [backOb, sigma, ren, rens, rens_f32, rens_f64, rens_i64, rens_ik, rens_str, rens_cp] <;> omega)<|yl rfl (oref 0 u13 0 L15.length) y3<|yl rfl (b r16) y3<|ya rfl (oref 0 u13 0 L15.length)<|ya rfl (b r16)<|zN ?_
    refine RunC.ret ?_
    have hq := oI h
    obtain ⟨hq0, hq⟩ := Prod.mk.inj hq
    subst q0
    subst q1
    exact bodyQ.mk (r' := tup [oref 0 u13 0 r17.length, b r16]) [(0, u13)] (.inr rfl) rfl (ndB_ok rfl) (by simp [ren, rens, sigma]) rfl (Res.eq (Res.two rfl (RV.tmp rfl) (RV.tmp rfl)) (by first | rfl | (rw [(show r17.length = L15.length from (of_decide_eq_true hn12))] <;> rfl))) (SelL.arr0 (f := (cp .f32)) (fun _ => rfl) rfl trivial)
   ·replace h := (osum_inr _ _ _).symm.trans h
    obtain ⟨r18, r19, r20, hz6, h⟩ := obind3_some h
    cases hz6
    obtain ⟨hn13, h⟩ := need_some h
    refine yW<|ym rfl (oref 0 u13 0 L15.length)<|ROps.callO (A := [oref 0 u13 0 L15.length]) (args := [oref 0 0 0 L15.length]) (Γc := [⟨0, some (L15.map (cp .f32))⟩]) (Γc' := [⟨0, some (r19.map (cp .f32))⟩, ⟨0, some (r20.map (cp .f32))⟩]) (r' := tup [oref 1 2 0 r20.length, b r18]) (Γ' := [⟨u13, some (r19.map (cp .f32))⟩, ⟨2, some (r20.map (cp .f32))⟩, ⟨u14, none⟩]) [(0, u13)] [(1, 2)] rfl (CallAs.func ent55 rfl rfl) rfl rfl (SelOk.of (ndB_ok rfl) (SelL.arr0 (f := (cp .f32)) (fun _ => rfl) rfl trivial)) (live_of ⟨⟨_, _, rfl⟩, trivial⟩) (by simp [ren, rens, sigma, rens_f32, rens_f64, rens_i64, rens_ik, rens_str, rens_cp]) rfl (i_ring_0o_ok1 L15 r18 r19 r20 hf11) rfl (news_of ⟨⟨_, rfl, rfl⟩, trivial⟩) (show List.Nodup [0, 1] from by decide) (by simp [ren, rens, sigma, of_decide_eq_true hn13]) (by simp [backOb, sigma, ren, rens, rens_f32, rens_f64, rens_i64, rens_ik, rens_str, rens_cp] <;> omega)<|yl rfl (oref 1 2 0 r20.length) y3<|yl rfl (b r18) y3<|ya rfl (oref 1 2 0 r20.length)<|ya rfl (b r18)<|zN ?_
    refine RunC.ret ?_
    have hq := oI h
    obtain ⟨hq0, hq⟩ := Prod.mk.inj hq
    subst q0
    subst q1
    exact yB (tup [oref 1 2 0 r20.length, b r18]) [(1, 2)] (Res.two rfl (RV.tmp rfl) (RV.tmp rfl)) (SelL.arr0 (f := (cp .f32)) (fun _ => rfl) rfl trivial)
 ·refine yW<|ym rfl (sl a0.length (a0.map (cp .f32)))<|yd rfl (b false) (TOp.eqb (yc ent54 rfl rfl (bS bN) (i_isRing_ok a0 r1 hf1)) hc2)<|yl rfl (b true) y0<|zN ?_
  refine yT<|zQ<|ya rfl nilsl<|ya rfl (b false)<|zN ?_
  refine RunC.nil_slot (Γ' := [⟨1, some (([] : List (F × F)).map (cp .f32))⟩, ⟨0, none⟩, ⟨0, none⟩]) 2 0 rfl rfl rfl<|RunC.ret ?_
  have hq := oI h
  obtain ⟨hq0, hq⟩ := Prod.mk.inj hq
  subst q0
  subst q1
  exact yB (tup [oref 0 1 0 (([] : List (F × F)).length), b false]) [(0, 1)] (Res.eq (Res.two rfl (RV.tmp rfl) (RV.tmp rfl)) (by first | rfl | (rw [(show ([] : List (F × F)).length = 0 from rfl)] <;> rfl))) (SelL.arr0 (f := (cp .f32)) (fun _ => rfl) rfl trivial)
def i_areRings (a0 : List (F × F)) (a1 : List (F × F)) : Option (Bool) :=
 obind (i_isRing a0) fun (r1 : Bool) =>
 bsel r1 (
  obind (i_isRing a1) fun (r2 : Bool) =>
  bsel r2 (
   some (decide ((a0.length : Int) = (a1.length : Int)))) (
   some false)) (
  some false)
theorem i_areRings_ok (a0 : List (F × F)) (a1 : List (F × F)) (q0 : Bool) (h : i_areRings a0 a1 = some q0) : Ev Try.prog 58 [sl a0.length (a0.map (cp .f32)), sl a1.length (a1.map (cp .f32))] [] (b q0) [] := by
 refine yE Try.func58 0 37 0 [(0, sl a0.length (a0.map (cp .f32))), (1, sl a1.length (a1.map (cp .f32)))] [] rfl ?_
 unfold i_areRings at h
 refine zQ<|ya rfl (b false)<|zN ?_
 refine yS ?_
 obtain ⟨r1, hf1, h⟩ := oS h
 rcases oB h with ⟨hc2, h⟩ | ⟨hc2, h⟩
 ·obtain ⟨r2, hf3, h⟩ := oS h
  rcases oB h with ⟨hc4, h⟩ | ⟨hc4, h⟩
  ·refine yW<|ym rfl (sl a0.length (a0.map (cp .f32)))<|yd rfl (b true) (TOp.eqb (yc ent54 rfl rfl (bS bN) (i_isRing_ok a0 r1 hf1)) hc2)<|ym rfl (b true)<|ym rfl (sl a1.length (a1.map (cp .f32)))<|yd rfl (b true) (TOp.eqb (yc ent54 rfl rfl (bS bN) (i_isRing_ok a1 r2 hf3)) hc4)<|yl rfl (b true) yq<|ym rfl (b true)<|ym rfl (sl a0.length (a0.map (cp .f32)))<|yl rfl (i64 (a0.length : Int)) (LOp.len_sl und25 rfl rfl)<|ym rfl (sl a1.length (a1.map (cp .f32)))<|yl rfl (i64 (a1.length : Int)) (LOp.len_sl und25 rfl rfl)<|yl rfl (b (decide ((a0.length : Int) = (a1.length : Int)))) (LOp.eql rfl rfl rfl)<|yl rfl (b (decide ((a0.length : Int) = (a1.length : Int)))) yq<|ya rfl (b (decide ((a0.length : Int) = (a1.length : Int))))<|zN ?_
   refine RunC.ret ?_
   have hq := oI h
   subst q0
   exact bodyQ.pure (.inr rfl) rfl (Res.one rfl (RV.tmp rfl))
  ·refine yW<|ym rfl (sl a0.length (a0.map (cp .f32)))<|yd rfl (b true) (TOp.eqb (yc ent54 rfl rfl (bS bN) (i_isRing_ok a0 r1 hf1)) hc2)<|ym rfl (b true)<|ym rfl (sl a1.length (a1.map (cp .f32)))<|yd rfl (b false) (TOp.eqb (yc ent54 rfl rfl (bS bN) (i_isRing_ok a1 r2 hf3)) hc4)<|yl rfl (b false) yq<|ym rfl (b false)<|ROps.s rfl rfl rfl<|ROps.s rfl rfl rfl<|ROps.s rfl rfl rfl<|ROps.s rfl rfl rfl<|ROps.s rfl rfl rfl<|yl rfl (b false) yp<|ya rfl (b false)<|zN ?_
   refine RunC.ret ?_
   have hq := oI h
   subst q0
   exact bodyQ.pure (.inr rfl) rfl (Res.one rfl (RV.tmp rfl))
 ·refine yW<|ym rfl (sl a0.length (a0.map (cp .f32)))<|yd rfl (b false) (TOp.eqb (yc ent54 rfl rfl (bS bN) (i_isRing_ok a0 r1 hf1)) hc2)<|ym rfl (b false)<|ROps.s rfl rfl rfl<|ROps.s rfl rfl rfl<|yl rfl (b false) yp<|ym rfl (b false)<|ROps.s rfl rfl rfl<|ROps.s rfl rfl rfl<|ROps.s rfl rfl rfl<|ROps.s rfl rfl rfl<|ROps.s rfl rfl rfl<|yl rfl (b false) yp<|ya rfl (b false)<|zN ?_
  refine RunC.ret ?_
  have hq := oI h
  subst q0
  exact bodyQ.pure (.inr rfl) rfl (Res.one rfl (RV.tmp rfl))
def i_RingTimes_b2 (a0 : List (F × F)) (a1 : List (F × F)) (v5 : Int) (y6 : F) (y7 : F) (v8 : Int) : Option (LR (F × F × Int) (F × F) (Bool × (List (F × F)))) :=
 bsel (decide (v8 < (a1.length : Int))) (
  obind (at? a1 v8) fun (e9 : (F × F)) =>
  olet (IntKind.i64.wrap (v5 - v8)) fun (x10 : Int) =>
  olet (IntKind.i64.wrap (x10 + (a0.length : Int))) fun (x11 : Int) =>
  need (!decide ((a0.length : Int) = 0)) <|
  olet (x11.tmod (a0.length : Int)) fun (x12 : Int) =>
  obind (at? a0 x12) fun (e13 : (F × F)) =>
  obind2 (i_MulComplex e13.1 e13.2 e9.1 e9.2) fun (r14 : F) (r15 : F) =>
  obind2 (i_addComplex y6 y7 r14 r15) fun (r16 : F) (r17 : F) =>
  olet (IntKind.i64.wrap (v8 + 1)) fun (x18 : Int) =>
  some (LR.next (r16, r17, x18))) (
  some (LR.out (y6, y7)))
def i_RingTimes_s2 (a0 : List (F × F)) (a1 : List (F × F)) (v5 : Int) : (F × F × Int) → Option (LR (F × F × Int) (F × F) (Bool × (List (F × F)))) := fun s => i_RingTimes_b2 a0 a1 v5 s.1 s.2.1 s.2.2
def i_RingTimes_k2 (L4 : List (F × F)) (v5 : Int) (y19 : F) (y20 : F) : Option (LR ((List (F × F)) × Int) ((List (F × F))) (Bool × (List (F × F)))) :=
 need (apok 8 L4.length 1) <|
 olet (IntKind.i64.wrap (v5 + 1)) fun (x21 : Int) =>
 some (LR.next ((L4 ++ ([(y19, y20)] : List (F × F))), x21))
def i_RingTimes_b3 (a0 : List (F × F)) (a1 : List (F × F)) (L4 : List (F × F)) (v5 : Int) : Option (LR ((List (F × F)) × Int) ((List (F × F))) (Bool × (List (F × F)))) :=
 bsel (decide (v5 < (a0.length : Int))) (
  obind (loopM (i_RingTimes_s2 a0 a1 v5) (some 0, some 0, 0)) fun z => osum z (fun e => i_RingTimes_k2 L4 v5 e.1 e.2) (fun r => some (LR.ret r))) (
  some (LR.out L4))
def i_RingTimes_s3 (a0 : List (F × F)) (a1 : List (F × F)) : ((List (F × F)) × Int) → Option (LR ((List (F × F)) × Int) ((List (F × F))) (Bool × (List (F × F)))) := fun s => i_RingTimes_b3 a0 a1 s.1 s.2
def i_RingTimes_k3 (L24 : List (F × F)) : Option (Bool × (List (F × F))) :=
 obind (i_isRing L24) fun (r25 : Bool) =>
 bsel r25 (
  some (true, L24)) (
  some (false, ([] : List (F × F))))
def i_RingTimes (a0 : List (F × F)) (a1 : List (F × F)) : Option (Bool × (List (F × F))) :=
 obind (i_areRings a0 a1) fun (r1 : Bool) =>
 bsel r1 (
  obind (loopM (i_RingTimes_s3 a0 a1) (([] : List (F × F)), 0)) fun z => osum z (fun e => i_RingTimes_k3 e) (fun r => some r)) (
  some (false, ([] : List (F × F))))
theorem i_RingTimes_ok (a0 : List (F × F)) (a1 : List (F × F)) (q0 : Bool) (q1 : List (F × F)) (h : i_RingTimes a0 a1 = some (q0, q1)) : Ev Try.prog 11 [sl a0.length (a0.map (cp .f32)), sl a1.length (a1.map (cp .f32))] [] (tup [oref 0 0 0 q1.length, b q0]) [⟨0, some (q1.map (cp .f32))⟩] := by
 refine yE Try.func11 2 109 0 [(0, sl a0.length (a0.map (cp .f32))), (1, sl a1.length (a1.map (cp .f32)))] [⟨0, none⟩, ⟨0, none⟩] rfl ?_
 unfold i_RingTimes at h
 refine zQ<|ya rfl nilsl<|ya rfl (b false)<|zN ?_
 refine yS<|yS ?_
 obtain ⟨r1, hf1, h⟩ := oS h
 rcases oB h with ⟨hc2, h⟩ | ⟨hc2, h⟩
 ·refine yW<|ym rfl (sl a0.length (a0.map (cp .f32)))<|ym rfl (sl a1.length (a1.map (cp .f32)))<|yd rfl (b true) (TOp.eqb (yc ent58 rfl rfl (bS (bS bN)) (i_areRings_ok a0 a1 r1 hf1)) hc2)<|yl rfl (b false) y1<|zN ?_
  refine yF<|RunC.skip<|zQ<|ye rfl (oref 0 1 0 0) ([⟨1, some (([] : List (F × F)).map (cp .f32))⟩, ⟨0, none⟩]) (TOp.buildSlice_o (g := ⟨0, none⟩) (za := cx .f32 (some 0) (some 0)) (qs := []) 0 rfl und25 siz27 zer27 rfl zel27 rfl rfl trivial rfl)<|ym rfl (sl a0.length (a0.map (cp .f32)))<|yl rfl (i64 (a0.length : Int)) (LOp.len_sl und25 rfl rfl)<|ya rfl (oref 0 1 0 0)<|ya rfl (i64 (a0.length : Int))<|zN ?_
  refine yS<|zQ<|ym rfl (i64 (a0.length : Int))<|ym rfl (i64 0)<|zN ?_
  obtain ⟨z4, hz_4, h⟩ := oS h
  refine RunC.cutN (fun τ Γ => ∃ (L24 : List (F × F)) (u22 : Nat) (u23 : Nat), WeakLe τ [(6, oref 0 u22 0 L24.length)] ∧ DeadLe Γ [⟨u22, some (L24.map (cp .f32))⟩, ⟨u23, none⟩] ∧ z4 = .inl L24) ?_ ?_
  ·refine RunC.block (RunC.loop (RunL.loopM (x := z4) (i_RingTimes_s3 a0 a1) (fun (s : (List (F × F)) × Int) τ Γ => ∃ (u2 : Nat) (u3 : Nat), WeakLe τ [(0, sl a0.length (a0.map (cp .f32))), (1, sl a1.length (a1.map (cp .f32))), (6, oref 0 u2 0 s.1.length), (7, i64 (a0.length : Int)), (19, i64 (a0.length : Int)), (20, i64 s.2)] ∧ DeadLe Γ [⟨u2, some (s.1.map (cp .f32))⟩, ⟨u3, none⟩]) ?_ _ _ _ hz_4 ⟨1, 0, ⟨aR, aR, aR, aR, aR, aR, trivial⟩, ⟨⟨rfl, .inr rfl⟩, ⟨rfl, .inl rfl⟩, trivial⟩⟩))
   rintro ⟨L4, v5⟩ τ4 Γ4 y4_ ⟨u2, u3, hw4, hd4⟩ h4_ ho4 hr4
   refine RunC.wl (τ' := [(0, sl a0.length (a0.map (cp .f32))), (1, sl a1.length (a1.map (cp .f32))), (6, oref 0 u2 0 L4.length), (7, i64 (a0.length : Int)), (19, i64 (a0.length : Int)), (20, i64 v5)]) (Γ' := [⟨u2, some (L4.map (cp .f32))⟩, ⟨u3, none⟩]) hw4 hd4 ?_
   replace h4_ : i_RingTimes_b3 a0 a1 L4 v5 = some y4_ := h4_
   unfold i_RingTimes_b3 at h4_
   refine yS ?_
   rcases oB h4_ with ⟨hc3, h4_⟩ | ⟨hc3, h4_⟩
   ·refine yW<|yl rfl (b true) (LOp.eqb (LOp.lss rfl rfl rfl) hc3)<|zN ?_
    refine yS<|yT<|RunC.skip<|yS<|RunC.block<|zQ<|ym rfl (i64 v5)<|ya rfl (i64 v5)<|zN ?_
    refine zQ<|yl rfl (cx .f32 (some 0) (some 0)) (LOp.le (LOp.assign rfl rfl) (ALe.cpx (by kernel_rfl) (by kernel_rfl) (by kernel_rfl) (by kernel_rfl)))<|zN ?_
    refine yS<|zQ<|ym rfl (sl a1.length (a1.map (cp .f32)))<|yl rfl (i64 (a1.length : Int)) (LOp.len_sl und25 rfl rfl)<|ym rfl (i64 0)<|zN ?_
    obtain ⟨z5, hz_5, h4_⟩ := oS h4_
    refine RunC.cutN (fun τ Γ => ∃ (y19 : F) (y20 : F), WeakLe τ [(0, sl a0.length (a0.map (cp .f32))), (1, sl a1.length (a1.map (cp .f32))), (6, oref 0 u2 0 L4.length), (7, i64 (a0.length : Int)), (9, cx .f32 y19 y20), (19, i64 (a0.length : Int)), (20, i64 v5)] ∧ DeadLe Γ [⟨u2, some (L4.map (cp .f32))⟩, ⟨u3, none⟩] ∧ z5 = .inl (y19, y20)) ?_ ?_
    ·refine RunC.block (RunC.loop (RunL.loopM (x := z5) (i_RingTimes_s2 a0 a1 v5) (fun (s : F × F × Int) τ Γ => WeakLe τ [(0, sl a0.length (a0.map (cp .f32))), (1, sl a1.length (a1.map (cp .f32))), (6, oref 0 u2 0 L4.length), (7, i64 (a0.length : Int)), (8, i64 v5), (9, cx .f32 s.1 s.2.1), (19, i64 (a0.length : Int)), (20, i64 v5), (23, sl a1.length (a1.map (cp .f32))), (24, i64 (a1.length : Int)), (25, i64 s.2.2)] ∧ DeadLe Γ [⟨u2, some (L4.map (cp .f32))⟩, ⟨u3, none⟩]) ?_ _ _ _ hz_5 ⟨⟨aR, aR, aR, aR, aR, aR, aR, aR, aR, aR, aR, trivial⟩, ⟨⟨rfl, .inr rfl⟩, ⟨rfl, .inl rfl⟩, trivial⟩⟩))
     rintro ⟨y6, y7, v8⟩ τ5 Γ5 y5_ ⟨hw5, hd5⟩ h5_ ho5 hr5
     refine RunC.wl (τ' := [(0, sl a0.length (a0.map (cp .f32))), (1, sl a1.length (a1.map (cp .f32))), (6, oref 0 u2 0 L4.length), (7, i64 (a0.length : Int)), (8, i64 v5), (9, cx .f32 y6 y7), (19, i64 (a0.length : Int)), (20, i64 v5), (23, sl a1.length (a1.map (cp .f32))), (24, i64 (a1.length : Int)), (25, i64 v8)]) (Γ' := [⟨u2, some (L4.map (cp .f32))⟩, ⟨u3, none⟩]) hw5 hd5 ?_
     replace h5_ : i_RingTimes_b2 a0 a1 v5 y6 y7 v8 = some y5_ := h5_
     unfold i_RingTimes_b2 at h5_
     refine yS ?_
     rcases oB h5_ with ⟨hc4, h5_⟩ | ⟨hc4, h5_⟩
     ·refine yW<|yl rfl (b true) (LOp.eqb (LOp.lss rfl rfl rfl) hc4)<|zN ?_
      refine yS<|yT<|RunC.skip<|yS<|RunC.block<|yS ?_
      obtain ⟨e9, he5, h5_⟩ := oS h5_
      refine yW<|ym rfl (i64 v8)<|yl rfl (ptr [cx .f32 e9.1 e9.2]) (LOp.le (LOp.ix (f := (cp .f32)) und25 siz27 rfl rfl rfl rfl he5) ALe.ptr)<|yl rfl (cx .f32 e9.1 e9.2) (y2 agg27)<|ya rfl (i64 v8)<|ya rfl (cx .f32 e9.1 e9.2)<|zN ?_
      obtain ⟨x10, hx6, h5_⟩ := oL h5_
      obtain ⟨x11, hx7, h5_⟩ := oL h5_
      obtain ⟨hz8, h5_⟩ := need_some h5_
      obtain ⟨x12, hx9, h5_⟩ := oL h5_
      obtain ⟨e13, he10, h5_⟩ := oS h5_
      obtain ⟨r14, r15, hf11, h5_⟩ := obind2_some h5_
      obtain ⟨r16, r17, hf12, h5_⟩ := obind2_some h5_
      refine yW<|ym rfl (cx .f32 y6 y7)<|ym rfl (sl a0.length (a0.map (cp .f32)))<|ym rfl (i64 v5)<|ym rfl (i64 v8)<|yl rfl (i64 x10) (LOp.eqr (LOp.sub rfl rfl rfl) (congrArg (ik .i64) hx6))<|ym rfl (i64 (a0.length : Int))<|yl rfl (i64 x11) (LOp.eqr (LOp.add rfl rfl rfl) (congrArg (ik .i64) hx7))<|ym rfl (i64 (a0.length : Int))<|yl rfl (i64 x12) (LOp.eqr (LOp.rem rfl rfl rfl (nz hz8)) (congrArg (ik .i64) hx9))<|yl rfl (ptr [cx .f32 e13.1 e13.2]) (LOp.le (LOp.ix (f := (cp .f32)) und25 siz27 rfl rfl rfl rfl he10) ALe.ptr)<|yl rfl (cx .f32 e13.1 e13.2) (y2 agg27)<|ym rfl (cx .f32 e9.1 e9.2)<|yd rfl (cx .f32 r14 r15) (yc ent60 rfl rfl (bP bN0) (i_MulComplex_ok e13.1 e13.2 e9.1 e9.2 r14 r15 hf11))<|yd rfl (cx .f32 r16 r17) (yc ent59 rfl rfl (bP bN0) (i_addComplex_ok y6 y7 r14 r15 r16 r17 hf12))<|ya rfl (cx .f32 r16 r17)<|zN ?_
      refine RunC.wl (τ' := [(0, sl a0.length (a0.map (cp .f32))), (1, sl a1.length (a1.map (cp .f32))), (6, oref 0 u2 0 L4.length), (7, i64 (a0.length : Int)), (8, i64 v5), (9, cx .f32 r16 r17), (19, i64 (a0.length : Int)), (20, i64 v5), (23, sl a1.length (a1.map (cp .f32))), (24, i64 (a1.length : Int)), (25, i64 v8)]) (Γ' := [⟨u2, some (L4.map (cp .f32))⟩, ⟨u3, none⟩]) ⟨aR, aR, aR, aR, aR, aR, aR, aR, aR, aR, aR, trivial⟩ ⟨⟨rfl, .inr rfl⟩, ⟨rfl, .inl rfl⟩, trivial⟩ ?_
      obtain ⟨x18, hx13, h5_⟩ := oL h5_
      refine yW<|yl rfl (i64 x18) (LOp.eqr (LOp.add rfl rfl rfl) (congrArg (ik .i64) hx13))<|ym rfl (i64 x18)<|zN ?_
      cases oI h5_
      exact ⟨_, rfl, ⟨aR, aR, aR, aR, aR, aR, aR, aR, aR, aR, aR, trivial⟩, ⟨⟨rfl, .inr rfl⟩, ⟨rfl, .inl rfl⟩, trivial⟩⟩
     ·refine yW<|yl rfl (b false) (LOp.eqb (LOp.lss rfl rfl rfl) hc4)<|zN ?_
      refine yS<|yF<|RunC.exit ?_
      cases oI h5_
      have hx := ho5 _ rfl
      exact ⟨y6, y7, ⟨aR, aR, aR, aR, aR, aR, aR, trivial⟩, ⟨⟨rfl, .inr rfl⟩, ⟨rfl, .inl rfl⟩, trivial⟩, hx⟩
    ·rintro τ6 Γ6 ⟨y19, y20, hw6, hd6, rfl⟩
     refine RunC.wl hw6 hd6 ?_
     replace h4_ : i_RingTimes_k2 L4 v5 y19 y20 = some y4_ := h4_
     unfold i_RingTimes_k2 at h4_
     obtain ⟨hm14, h4_⟩ := need_some h4_
     refine yW<|ym rfl (oref 0 u2 0 L4.length)<|ym rfl (cx .f32 y19 y20)<|ye rfl (oref 1 (u3 + 1) 0 1) ([⟨u2, some (L4.map (cp .f32))⟩, ⟨(u3 + 1), some (([(y19, y20)] : List (F × F)).map (cp .f32))⟩]) (TOp.buildSlice_o (g := ⟨u3, none⟩) (za := cx .f32 (some 0) (some 0)) (qs := [(0, [cx .f32 y19 y20])]) 1 rfl und25 siz27 zer27 rfl zel27 rfl rfl ⟨rfl, ⟨_, ALe.refl _, rfl⟩, trivial⟩ rfl)<|ROps.app (f := (cp .f32)) (xs := L4) (ys := ([(y19, y20)] : List (F × F))) (Γ' := [⟨(u2 + 1), some ((L4 ++ ([(y19, y20)] : List (F × F))).map (cp .f32))⟩, ⟨(u3 + 1), some (([(y19, y20)] : List (F × F)).map (cp .f32))⟩]) rfl pun25 inf27 rfl rfl rfl rfl rfl rfl rfl rfl rfl (by simp) (ReadAs.own rfl (by simp)) (ones_map (fun _ => rfl)) (ap_by hm14) (ap_mx hm14) rfl<|ya rfl (oref 0 (u2 + 1) 0 (L4.length + 1))<|zN ?_
     refine RunC.wl (τ' := [(0, sl a0.length (a0.map (cp .f32))), (1, sl a1.length (a1.map (cp .f32))), (6, oref 0 (u2 + 1) 0 (L4.length + 1)), (7, i64 (a0.length : Int)), (19, i64 (a0.length : Int)), (20, i64 v5)]) (Γ' := [⟨(u2 + 1), some ((L4 ++ ([(y19, y20)] : List (F × F))).map (cp .f32))⟩, ⟨(u3 + 1), none⟩]) ⟨aR, aR, aR, aR, aR, aR, trivial⟩ ⟨⟨rfl, .inr rfl⟩, ⟨rfl, .inl rfl⟩, trivial⟩ ?_
     obtain ⟨x21, hx15, h4_⟩ := oL h4_
     refine yW<|yl rfl (i64 x21) (LOp.eqr (LOp.add rfl rfl rfl) (congrArg (ik .i64) hx15))<|ym rfl (i64 x21)<|zN ?_
     cases oI h4_
     exact ⟨_, rfl, (u2 + 1), (u3 + 1), ⟨aR, aR, (ALe.eq (by rw [(app_len rfl rfl)] <;> rfl)), aR, aR, aR, trivial⟩, ⟨⟨rfl, .inr rfl⟩, ⟨rfl, .inl rfl⟩, trivial⟩⟩
   ·refine yW<|yl rfl (b false) (LOp.eqb (LOp.lss rfl rfl rfl) hc3)<|zN ?_
    refine yS<|yF<|RunC.exit ?_
    cases oI h4_
    have hx := ho4 _ rfl
    exact ⟨L4, u2, u3, ⟨aR, trivial⟩, ⟨⟨rfl, .inr rfl⟩, ⟨rfl, .inl rfl⟩, trivial⟩, hx⟩
  ·rintro τ7 Γ7 ⟨L24, u22, u23, hw7, hd7, rfl⟩
   refine RunC.wl hw7 hd7 ?_
   replace h : i_RingTimes_k3 L24 = some (q0, q1) := h
   unfold i_RingTimes_k3 at h
   refine yS<|yS ?_
   obtain ⟨r25, hf16, h⟩ := oS h
   rcases oB h with ⟨hc17, h⟩ | ⟨hc17, h⟩
   ·refine yW<|ym rfl (oref 0 u22 0 L24.length)<|yd rfl (b true) (TOp.eqb (yc ent54 rfl rfl (Bors.cons (Bor.own (f := (cp .f32)) (fun _ => rfl) rfl rfl) bN) (i_isRing_ok L24 r25 hf16)) hc17)<|yl rfl (b false) y1<|zN ?_
    refine yF<|RunC.skip<|zQ<|ym rfl (oref 0 u22 0 L24.length)<|ya rfl (oref 0 u22 0 L24.length)<|ya rfl (b true)<|zN ?_
    refine RunC.ret ?_
    have hq := oI h
    obtain ⟨hq0, hq⟩ := Prod.mk.inj hq
    subst q0
    subst q1
    exact bodyQ.mk (r' := tup [oref 0 u22 0 L24.length, b true]) [(0, u22)] (.inr rfl) rfl (ndB_ok rfl) (by simp [ren, rens, sigma]) rfl (Res.two rfl (RV.tmp rfl) (RV.tmp rfl)) (SelL.arr0 (f := (cp .f32)) (fun _ => rfl) rfl trivial)
   ·refine yW<|ym rfl (oref 0 u22 0 L24.length)<|yd rfl (b false) (TOp.eqb (yc ent54 rfl rfl (Bors.cons (Bor.own (f := (cp .f32)) (fun _ => rfl) rfl rfl) bN) (i_isRing_ok L24 r25 hf16)) hc17)<|yl rfl (b true) y0<|zN ?_
    refine yT<|zQ<|ya rfl nilsl<|ya rfl (b false)<|zN ?_
    refine RunC.nil_slot (Γ' := [⟨u22, some (L24.map (cp .f32))⟩, ⟨(u23 + 1), some (([] : List (F × F)).map (cp .f32))⟩]) 4 1 rfl rfl rfl<|RunC.ret ?_
    have hq := oI h
    obtain ⟨hq0, hq⟩ := Prod.mk.inj hq
    subst q0
    subst q1
    exact bodyQ.mk (r' := tup [oref 1 (u23 + 1) 0 (([] : List (F × F)).length), b false]) [(1, (u23 + 1))] (.inr rfl) rfl (ndB_ok rfl) (by simp [ren, rens, sigma]) rfl (Res.eq (Res.two rfl (RV.tmp rfl) (RV.tmp rfl)) (by first | rfl | (rw [(show ([] : List (F × F)).length = 0 from rfl)] <;> rfl))) (SelL.arr0 (f := (cp .f32)) (fun _ => rfl) rfl trivial)
 ·refine yW<|ym rfl (sl a0.length (a0.map (cp .f32)))<|ym rfl (sl a1.length (a1.map (cp .f32)))<|yd rfl (b false) (TOp.eqb (yc ent58 rfl rfl (bS (bS bN)) (i_areRings_ok a0 a1 r1 hf1)) hc2)<|yl rfl (b true) y0<|zN ?_
  refine yT<|zQ<|ya rfl nilsl<|ya rfl (b false)<|zN ?_
  refine RunC.nil_slot (Γ' := [⟨1, some (([] : List (F × F)).map (cp .f32))⟩, ⟨0, none⟩]) 4 0 rfl rfl rfl<|RunC.ret ?_
  have hq := oI h
  obtain ⟨hq0, hq⟩ := Prod.mk.inj hq
  subst q0
  subst q1
  exact yB (tup [oref 0 1 0 (([] : List (F × F)).length), b false]) [(0, 1)] (Res.eq (Res.two rfl (RV.tmp rfl) (RV.tmp rfl)) (by first | rfl | (rw [(show ([] : List (F × F)).length = 0 from rfl)] <;> rfl))) (SelL.arr0 (f := (cp .f32)) (fun _ => rfl) rfl trivial)
def i_ConjugateOf (a0 : F) (a1 : F) : Option (F × F) :=
 olet (fneg .f32 a1) fun (x1 : F) =>
 some (a0, x1)
theorem i_ConjugateOf_ok (a0 : F) (a1 : F) (q0 : F) (q1 : F) (h : i_ConjugateOf a0 a1 = some (q0, q1)) : Ev Try.prog 132 [cx .f32 a0 a1] [] (cx .f32 q0 q1) [] := by
 refine yE Try.func132 0 19 0 [(0, cx .f32 a0 a1)] [] rfl ?_
 unfold i_ConjugateOf at h
 refine zQ<|yl rfl (cx .f32 (some 0) (some 0)) (LOp.le (LOp.assign rfl rfl) (ALe.cpx (by kernel_rfl) (by kernel_rfl) (by kernel_rfl) (by kernel_rfl)))<|zN ?_
 refine yS ?_
 obtain ⟨x1, hx1, h⟩ := oL h
 refine yW<|ym rfl (cx .f32 a0 a1)<|yl rfl (f32 a0) (LOp.real rfl rfl)<|ym rfl (cx .f32 a0 a1)<|yl rfl (f32 a1) (LOp.imag rfl rfl)<|yl rfl (f32 x1) (LOp.eqr (LOp.fneg rfl (OpF.tmp rfl)) (congrArg (f .f32) hx1))<|yl rfl (cx .f32 a0 x1) (LOp.complex rfl (OpF.tmp rfl) (OpF.tmp rfl))<|ya rfl (cx .f32 a0 x1)<|zN ?_
 refine RunC.ret ?_
 have hq := oI h
 obtain ⟨hq0, hq⟩ := Prod.mk.inj hq
 subst q0
 subst q1
 exact bodyQ.pure (.inr rfl) rfl (Res.one rfl (RV.tmp rfl))
def i_power (a0 : F) (a1 : F) : Option (F) :=
 olet (fwiden a0) fun (x1 : F) =>
 olet (fwiden a1) fun (x2 : F) =>
 obind (i_mul64 x1 x1) fun (r3 : F) =>
 obind (i_mul64 x2 x2) fun (r4 : F) =>
 olet (fop .add .f64 r3 r4) fun (x5 : F) =>
 some x5
theorem i_power_ok (a0 : F) (a1 : F) (q0 : F) (h : i_power a0 a1 = some q0) : Ev Try.prog 133 [cx .f32 a0 a1] [] (f64 q0) [] := by
 refine yE Try.func133 0 37 0 [(0, cx .f32 a0 a1)] [] rfl ?_
 unfold i_power at h
 refine zQ<|yl rfl (f64 (some 0)) (LOp.le (LOp.assign rfl rfl) (ALe.fl (by kernel_rfl) (by kernel_rfl)))<|zN ?_
 refine yS ?_
 obtain ⟨x1, hx1, h⟩ := oL h
 obtain ⟨x2, hx2, h⟩ := oL h
 refine yW<|ym rfl (cx .f32 a0 a1)<|yl rfl (f32 a0) (LOp.real rfl rfl)<|yd rfl (f64 x1) (TOp.eqr (TOp.widen (src := 28) (dst := 40) ⟨_, pun28⟩ pun40 rfl (OpF.tmp rfl)) (congrArg (f .f64) hx1))<|ym rfl (cx .f32 a0 a1)<|yl rfl (f32 a1) (LOp.imag rfl rfl)<|yd rfl (f64 x2) (TOp.eqr (TOp.widen (src := 28) (dst := 40) ⟨_, pun28⟩ pun40 rfl (OpF.tmp rfl)) (congrArg (f .f64) hx2))<|ya rfl (f64 x1)<|ya rfl (f64 x2)<|zN ?_
 refine yS ?_
 obtain ⟨r3, hf3, h⟩ := oS h
 obtain ⟨r4, hf4, h⟩ := oS h
 obtain ⟨x5, hx5, h⟩ := oL h
 refine yW<|ym rfl (f64 x1)<|ym rfl (f64 x1)<|yd rfl (f64 r3) (yc ent105 rfl rfl (bP bN0) (i_mul64_ok x1 x1 r3 hf3))<|ym rfl (f64 x2)<|ym rfl (f64 x2)<|yd rfl (f64 r4) (yc ent105 rfl rfl (bP bN0) (i_mul64_ok x2 x2 r4 hf4))<|yd rfl (f64 x5) (TOp.eqr (TOp.fop (.inl rfl) rfl (OpF.tmp rfl) (OpF.tmp rfl)) (congrArg (f .f64) hx5))<|ya rfl (f64 x5)<|zN ?_
 refine RunC.ret ?_
 have hq := oI h
 subst q0
 exact bodyQ.pure (.inr rfl) rfl (Res.one rfl (RV.tmp rfl))
def i_QuotientOf (a0 : F) (a1 : F) (a2 : F) (a3 : F) : Option (F × F) :=
 obind2 (i_ConjugateOf a2 a3) fun (r1 : F) (r2 : F) =>
 obind2 (i_longProduct a0 a1 r1 r2) fun (r3 : F) (r4 : F) =>
 obind (i_power a2 a3) fun (r5 : F) =>
 olet (fop .quo .f64 r3 r5) fun (x6 : F) =>
 obind (fnarrow x6) fun (y7 : F) =>
 obind (i_power a2 a3) fun (r8 : F) =>
 olet (fop .quo .f64 r4 r8) fun (x9 : F) =>
 obind (fnarrow x9) fun (y10 : F) =>
 some (y7, y10)
theorem i_QuotientOf_ok (a0 : F) (a1 : F) (a2 : F) (a3 : F) (q0 : F) (q1 : F) (h : i_QuotientOf a0 a1 a2 a3 = some (q0, q1)) : Ev Try.prog 61 [cx .f32 a0 a1, cx .f32 a2 a3] [] (cx .f32 q0 q1) [] := by
 refine yE Try.func61 0 51 0 [(0, cx .f32 a0 a1), (1, cx .f32 a2 a3)] [] rfl ?_
 unfold i_QuotientOf at h
 refine zQ<|yl rfl (cx .f32 (some 0) (some 0)) (LOp.le (LOp.assign rfl rfl) (ALe.cpx (by kernel_rfl) (by kernel_rfl) (by kernel_rfl) (by kernel_rfl)))<|zN ?_
 refine yS ?_
 obtain ⟨r1, r2, hf1, h⟩ := obind2_some h
 obtain ⟨r3, r4, hf2, h⟩ := obind2_some h
 refine yW<|ym rfl (cx .f32 a0 a1)<|ym rfl (cx .f32 a2 a3)<|yd rfl (cx .f32 r1 r2) (yc ent132 rfl rfl bN0 (i_ConjugateOf_ok a2 a3 r1 r2 hf1))<|yd rfl (tup [f64 r3, f64 r4]) (yc ent131 rfl rfl (bP bN0) (i_longProduct_ok a0 a1 r1 r2 r3 r4 hf2))<|ym rfl (tup [f64 r3, f64 r4])<|yl rfl (f64 r3) y3<|yl rfl (f64 r4) y3<|ya rfl (f64 r3)<|ya rfl (f64 r4)<|zN ?_
 refine yS ?_
 obtain ⟨r5, hf3, h⟩ := oS h
 obtain ⟨x6, hx4, h⟩ := oL h
 obtain ⟨y7, hy5, h⟩ := oS h
 obtain ⟨r8, hf6, h⟩ := oS h
 obtain ⟨x9, hx7, h⟩ := oL h
 obtain ⟨y10, hy8, h⟩ := oS h
 refine yW<|ym rfl (f64 r3)<|ym rfl (cx .f32 a2 a3)<|yd rfl (f64 r5) (yc ent133 rfl rfl bN0 (i_power_ok a2 a3 r5 hf3))<|yd rfl (f64 x6) (TOp.eqr (TOp.fop (.inr (.inr (.inr rfl))) rfl (OpF.tmp rfl) (OpF.tmp rfl)) (congrArg (f .f64) hx4))<|yd rfl (f32 y7) (TOp.narrow (src := 40) (dst := 28) ⟨_, pun40⟩ pun28 rfl (OpF.tmp rfl) hy5)<|ym rfl (f64 r4)<|ym rfl (cx .f32 a2 a3)<|yd rfl (f64 r8) (yc ent133 rfl rfl bN0 (i_power_ok a2 a3 r8 hf6))<|yd rfl (f64 x9) (TOp.eqr (TOp.fop (.inr (.inr (.inr rfl))) rfl (OpF.tmp rfl) (OpF.tmp rfl)) (congrArg (f .f64) hx7))<|yd rfl (f32 y10) (TOp.narrow (src := 40) (dst := 28) ⟨_, pun40⟩ pun28 rfl (OpF.tmp rfl) hy8)<|yl rfl (cx .f32 y7 y10) (LOp.complex rfl (OpF.tmp rfl) (OpF.tmp rfl))<|ya rfl (cx .f32 y7 y10)<|zN ?_
 refine RunC.ret ?_
 have hq := oI h
 obtain ⟨hq0, hq⟩ := Prod.mk.inj hq
 subst q0
 subst q1
 exact bodyQ.pure (.inr rfl) rfl (Res.one rfl (RV.tmp rfl))
def i_RingSolve_b1 (r3 : List (F × F)) (r5 : List (F × F)) (L8 : List (F × F)) (v9 : Int) : Option (LR ((List (F × F)) × Int) ((List (F × F))) (Bool × (List (F × F)))) :=
 bsel (decide (v9 < ((r3.length : Nat) : Int))) (
  obind (at? r3 v9) fun (e10 : (F × F)) =>
  obind (at? r5 v9) fun (e11 : (F × F)) =>
  obind2 (i_QuotientOf e10.1 e10.2 e11.1 e11.2) fun (r12 : F) (r13 : F) =>
  need (apok 8 L8.length 1) <|
  olet (IntKind.i64.wrap (v9 + 1)) fun (x14 : Int) =>
  some (LR.next ((L8 ++ ([(r12, r13)] : List (F × F))), x14))) (
  some (LR.out L8))
def i_RingSolve_s1 (r3 : List (F × F)) (r5 : List (F × F)) : ((List (F × F)) × Int) → Option (LR ((List (F × F)) × Int) ((List (F × F))) (Bool × (List (F × F)))) := fun s => i_RingSolve_b1 r3 r5 s.1 s.2
def i_RingSolve_k1 (L17 : List (F × F)) : Option (Bool × (List (F × F))) :=
 obind2 (i_FromSpectrum L17) fun (r18 : Bool) (r19 : List (F × F)) =>
 some (r18, r19)
def i_RingSolve (a0 : List (F × F)) (a1 : List (F × F)) : Option (Bool × (List (F × F))) :=
 obind (i_areRings a0 a1) fun (r1 : Bool) =>
 bsel r1 (
  obind2 (i_SpectrumOf a1) fun (r2 : Bool) (r3 : List (F × F)) =>
  bsel r2 (
   obind2 (i_SpectrumOf a0) fun (r4 : Bool) (r5 : List (F × F)) =>
   bsel r4 (
    obind (loopM (i_RingSolve_s1 r3 r5) (([] : List (F × F)), 0)) fun z => osum z (fun e => i_RingSolve_k1 e) (fun r => some r)) (
    some (false, ([] : List (F × F))))) (
   obind2 (i_SpectrumOf a0) fun (r20 : Bool) (r21 : List (F × F)) =>
   bsel r20 (
    some (false, ([] : List (F × F)))) (
    some (false, ([] : List (F × F)))))) (
  some (false, ([] : List (F × F))))
theorem i_RingSolve_ok (a0 : List (F × F)) (a1 : List (F × F)) (q0 : Bool) (q1 : List (F × F)) (h : i_RingSolve a0 a1 = some (q0, q1)) : Ev Try.prog 12 [sl a0.length (a0.map (cp .f32)), sl a1.length (a1.map (cp .f32))] [] (tup [oref 0 0 0 q1.length, b q0]) [⟨0, some (q1.map (cp .f32))⟩] := by
 refine yE Try.func12 4 111 0 [(0, sl a0.length (a0.map (cp .f32))), (1, sl a1.length (a1.map (cp .f32)))] [⟨0, none⟩, ⟨0, none⟩, ⟨0, none⟩, ⟨0, none⟩] rfl ?_
 unfold i_RingSolve at h
 refine zQ<|ya rfl nilsl<|ya rfl (b false)<|zN ?_
 refine yS<|yS ?_
 obtain ⟨r1, hf1, h⟩ := oS h
 rcases oB h with ⟨hc2, h⟩ | ⟨hc2, h⟩
 ·refine yW<|ym rfl (sl a0.length (a0.map (cp .f32)))<|ym rfl (sl a1.length (a1.map (cp .f32)))<|yd rfl (b true) (TOp.eqb (yc ent58 rfl rfl (bS (bS bN)) (i_areRings_ok a0 a1 r1 hf1)) hc2)<|yl rfl (b false) y1<|zN ?_
  refine yF<|RunC.skip<|yS ?_
  obtain ⟨r2, r3, hf3, h⟩ := obind2_some h
  rcases oB h with ⟨hc4, h⟩ | ⟨hc4, h⟩
  ·refine yW<|ym rfl (sl a1.length (a1.map (cp .f32)))<|ye rfl (tup [oref 0 1 0 r3.length, b r2]) [⟨1, some (r3.map (cp .f32))⟩, ⟨0, none⟩, ⟨0, none⟩, ⟨0, none⟩] (TOp.callBN (ls := [(r3.map (cp .f32))]) [0] (CallAs.func ent9 rfl rfl) (bS bN) rfl (i_SpectrumOf_ok a1 r2 r3 hf3) (and_all (lts0_map (f := (cp .f32)) (fun _ => rfl) _) rfl) (and_all (noss_map (f := (cp .f32)) (fun _ => rfl) _) rfl) rfl (by decide) (ns_of ⟨⟨_, rfl⟩, trivial⟩))<|ym rfl (tup [oref 0 1 0 r3.length, b r2])<|yl rfl (oref 0 1 0 r3.length) y3<|yl rfl (b true) (LOp.eqb y3 hc4)<|ya rfl (oref 0 1 0 r3.length)<|ya rfl (b true)<|zN ?_
   refine yS ?_
   obtain ⟨r4, r5, hf5, h⟩ := obind2_some h
   rcases oB h with ⟨hc6, h⟩ | ⟨hc6, h⟩
   ·refine yW<|ym rfl (sl a0.length (a0.map (cp .f32)))<|ye rfl (tup [oref 1 1 0 r5.length, b r4]) [⟨1, some (r3.map (cp .f32))⟩, ⟨1, some (r5.map (cp .f32))⟩, ⟨0, none⟩, ⟨0, none⟩] (TOp.callBN (ls := [(r5.map (cp .f32))]) [1] (CallAs.func ent9 rfl rfl) (bS bN) rfl (i_SpectrumOf_ok a0 r4 r5 hf5) (and_all (lts0_map (f := (cp .f32)) (fun _ => rfl) _) rfl) (and_all (noss_map (f := (cp .f32)) (fun _ => rfl) _) rfl) rfl (by decide) (ns_of ⟨⟨_, rfl⟩, trivial⟩))<|ym rfl (tup [oref 1 1 0 r5.length, b r4])<|yl rfl (oref 1 1 0 r5.length) y3<|yl rfl (b true) (LOp.eqb y3 hc6)<|ya rfl (oref 1 1 0 r5.length)<|ya rfl (b true)<|zN ?_
    refine RunC.wl (τ' := [(6, oref 0 1 0 r3.length), (7, b true), (8, oref 1 1 0 r5.length), (9, b true)]) (Γ' := [⟨1, some (r3.map (cp .f32))⟩, ⟨1, some (r5.map (cp .f32))⟩, ⟨0, none⟩, ⟨0, none⟩]) ⟨aR, aR, aR, aR, trivial⟩ ⟨⟨rfl, .inr rfl⟩, ⟨rfl, .inr rfl⟩, ⟨rfl, .inr rfl⟩, ⟨rfl, .inr rfl⟩, trivial⟩<|yS<|zQ<|ym rfl (b true)<|yl rfl (b false) y1<|ym rfl (b false)<|ym rfl (b true)<|yl rfl (b false) y1<|yl rfl (b false) yp<|zN ?_
    refine yF<|RunC.skip<|zQ<|ye rfl (oref 2 1 0 0) ([⟨1, some (r3.map (cp .f32))⟩, ⟨1, some (r5.map (cp .f32))⟩, ⟨1, some (([] : List (F × F)).map (cp .f32))⟩, ⟨0, none⟩]) (TOp.buildSlice_o (g := ⟨0, none⟩) (za := cx .f32 (some 0) (some 0)) (qs := []) 2 rfl und25 siz27 zer27 rfl zel27 rfl rfl trivial rfl)<|ya rfl (oref 2 1 0 0)<|zN ?_
    refine yS<|zQ<|ym rfl (oref 0 1 0 r3.length)<|yl rfl (i64 ((r3.length : Nat) : Int)) (LOp.len_oref und25 rfl rfl)<|ym rfl (i64 0)<|zN ?_
    obtain ⟨z2, hz_2, h⟩ := oS h
    refine RunC.cutN (fun τ Γ => ∃ (L17 : List (F × F)) (u15 : Nat) (u16 : Nat), WeakLe τ [(10, oref 2 u15 0 L17.length)] ∧ DeadLe Γ [⟨1, none⟩, ⟨1, none⟩, ⟨u15, some (L17.map (cp .f32))⟩, ⟨u16, none⟩] ∧ z2 = .inl L17) ?_ ?_
    ·refine RunC.block (RunC.loop (RunL.loopM (x := z2) (i_RingSolve_s1 r3 r5) (fun (s : (List (F × F)) × Int) τ Γ => ∃ (u6 : Nat) (u7 : Nat), WeakLe τ [(8, oref 1 1 0 r5.length), (10, oref 2 u6 0 s.1.length), (34, oref 0 1 0 r3.length), (35, i64 ((r3.length : Nat) : Int)), (36, i64 s.2)] ∧ DeadLe Γ [⟨1, some (r3.map (cp .f32))⟩, ⟨1, some (r5.map (cp .f32))⟩, ⟨u6, some (s.1.map (cp .f32))⟩, ⟨u7, none⟩]) ?_ _ _ _ hz_2 ⟨1, 0, ⟨aR, aR, aR, aR, aR, trivial⟩, ⟨⟨rfl, .inr rfl⟩, ⟨rfl, .inr rfl⟩, ⟨rfl, .inr rfl⟩, ⟨rfl, .inl rfl⟩, trivial⟩⟩))
     rintro ⟨L8, v9⟩ τ2 Γ2 y2_ ⟨u6, u7, hw2, hd2⟩ h2_ ho2 hr2
     refine RunC.wl (τ' := [(8, oref 1 1 0 r5.length), (10, oref 2 u6 0 L8.length), (34, oref 0 1 0 r3.length), (35, i64 ((r3.length : Nat) : Int)), (36, i64 v9)]) (Γ' := [⟨1, some (r3.map (cp .f32))⟩, ⟨1, some (r5.map (cp .f32))⟩, ⟨u6, some (L8.map (cp .f32))⟩, ⟨u7, none⟩]) hw2 hd2 ?_
     replace h2_ : i_RingSolve_b1 r3 r5 L8 v9 = some y2_ := h2_
     unfold i_RingSolve_b1 at h2_
     refine yS ?_
     rcases oB h2_ with ⟨hc7, h2_⟩ | ⟨hc7, h2_⟩
     ·refine yW<|yl rfl (b true) (LOp.eqb (LOp.lss rfl rfl rfl) hc7)<|zN ?_
      refine yS<|yT<|RunC.skip<|yS<|RunC.block<|yS ?_
      obtain ⟨e10, he8, h2_⟩ := oS h2_
      refine yW<|ym rfl (i64 v9)<|yd rfl (optr 0 1 v9.toNat) (TOp.ixo und25 siz27 rfl rfl rfl (at_in he8 rfl) rfl)<|yd rfl (cx .f32 e10.1 e10.2) (TOp.load1_o rfl (at_cell (f := (cp .f32)) he8) agg27 rfl rfl)<|ya rfl (i64 v9)<|ya rfl (cx .f32 e10.1 e10.2)<|zN ?_
      obtain ⟨e11, he9, h2_⟩ := oS h2_
      obtain ⟨r12, r13, hf10, h2_⟩ := obind2_some h2_
      obtain ⟨hm11, h2_⟩ := need_some h2_
      refine yW<|ym rfl (oref 2 u6 0 L8.length)<|ym rfl (cx .f32 e10.1 e10.2)<|ym rfl (oref 1 1 0 r5.length)<|ym rfl (i64 v9)<|yd rfl (optr 1 1 v9.toNat) (TOp.ixo und25 siz27 rfl rfl rfl (at_in he9 rfl) rfl)<|yd rfl (cx .f32 e11.1 e11.2) (TOp.load1_o rfl (at_cell (f := (cp .f32)) he9) agg27 rfl rfl)<|yd rfl (cx .f32 r12 r13) (yc ent61 rfl rfl (bP bN0) (i_QuotientOf_ok e10.1 e10.2 e11.1 e11.2 r12 r13 hf10))<|ye rfl (oref 3 (u7 + 1) 0 1) ([⟨1, some (r3.map (cp .f32))⟩, ⟨1, some (r5.map (cp .f32))⟩, ⟨u6, some (L8.map (cp .f32))⟩, ⟨(u7 + 1), some (([(r12, r13)] : List (F × F)).map (cp .f32))⟩]) (TOp.buildSlice_o (g := ⟨u7, none⟩) (za := cx .f32 (some 0) (some 0)) (qs := [(0, [cx .f32 r12 r13])]) 3 rfl und25 siz27 zer27 rfl zel27 rfl rfl ⟨rfl, ⟨_, ALe.refl _, rfl⟩, trivial⟩ rfl)<|ROps.app (f := (cp .f32)) (xs := L8) (ys := ([(r12, r13)] : List (F × F))) (Γ' := [⟨1, some (r3.map (cp .f32))⟩, ⟨1, some (r5.map (cp .f32))⟩, ⟨(u6 + 1), some ((L8 ++ ([(r12, r13)] : List (F × F))).map (cp .f32))⟩, ⟨(u7 + 1), some (([(r12, r13)] : List (F × F)).map (cp .f32))⟩]) rfl pun25 inf27 rfl rfl rfl rfl rfl rfl rfl rfl rfl (by simp) (ReadAs.own rfl (by simp)) (ones_map (fun _ => rfl)) (ap_by hm11) (ap_mx hm11) rfl<|ya rfl (oref 2 (u6 + 1) 0 (L8.length + 1))<|zN ?_
      refine RunC.wl (τ' := [(8, oref 1 1 0 r5.length), (10, oref 2 (u6 + 1) 0 (L8.length + 1)), (34, oref 0 1 0 r3.length), (35, i64 ((r3.length : Nat) : Int)), (36, i64 v9)]) (Γ' := [⟨1, some (r3.map (cp .f32))⟩, ⟨1, some (r5.map (cp .f32))⟩, ⟨(u6 + 1), some ((L8 ++ ([(r12, r13)] : List (F × F))).map (cp .f32))⟩, ⟨(u7 + 1), none⟩]) ⟨aR, aR, aR, aR, aR, trivial⟩ ⟨⟨rfl, .inr rfl⟩, ⟨rfl, .inr rfl⟩, ⟨rfl, .inr rfl⟩, ⟨rfl, .inl rfl⟩, trivial⟩ ?_
      obtain ⟨x14, hx12, h2_⟩ := oL h2_
      refine yW<|yl rfl (i64 x14) (LOp.eqr (LOp.add rfl rfl rfl) (congrArg (ik .i64) hx12))<|ym rfl (i64 x14)<|zN ?_
      cases oI h2_
      exact ⟨_, rfl, (u6 + 1), (u7 + 1), ⟨aR, (ALe.eq (by rw [(app_len rfl rfl)] <;> rfl)), aR, aR, aR, trivial⟩, ⟨⟨rfl, .inr rfl⟩, ⟨rfl, .inr rfl⟩, ⟨rfl, .inr rfl⟩, ⟨rfl, .inl rfl⟩, trivial⟩⟩
     ·refine yW<|yl rfl (b false) (LOp.eqb (LOp.lss rfl rfl rfl) hc7)<|zN ?_
      refine yS<|yF<|RunC.exit ?_
      cases oI h2_
      have hx := ho2 _ rfl
      exact ⟨L8, u6, u7, ⟨aR, trivial⟩, ⟨⟨rfl, .inl rfl⟩, ⟨rfl, .inl rfl⟩, ⟨rfl, .inr rfl⟩, ⟨rfl, .inl rfl⟩, trivial⟩, hx⟩
    ·rintro τ3 Γ3 ⟨L17, u15, u16, hw3, hd3, rfl⟩
     refine RunC.wl hw3 hd3 ?_
     replace h : i_RingSolve_k1 L17 = some (q0, q1) := h
     unfold i_RingSolve_k1 at h
     refine yS ?_
     obtain ⟨r18, r19, hf13, h⟩ := obind2_some h
     refine yW<|ym rfl (oref 2 u15 0 L17.length)<|ye rfl (tup [oref 0 2 0 r19.length, b r18]) [⟨2, some (r19.map (cp .f32))⟩, ⟨1, none⟩, ⟨u15, some (L17.map (cp .f32))⟩, ⟨u16, none⟩] (TOp.callBN (ls := [(r19.map (cp .f32))]) [0] (CallAs.func ent10 rfl rfl) (Bors.cons (Bor.own (f := (cp .f32)) (fun _ => rfl) rfl rfl) bN) rfl (i_FromSpectrum_ok L17 r18 r19 hf13) (and_all (lts0_map (f := (cp .f32)) (fun _ => rfl) _) rfl) (and_all (noss_map (f := (cp .f32)) (fun _ => rfl) _) rfl) rfl (by decide) (ns_of ⟨⟨_, rfl⟩, trivial⟩))<|yl rfl (oref 0 2 0 r19.length) y3<|yl rfl (b r18) y3<|ya rfl (oref 0 2 0 r19.length)<|ya rfl (b r18)<|zN ?_
     refine RunC.ret ?_
     have hq := oI h
     obtain ⟨hq0, hq⟩ := Prod.mk.inj hq
     subst q0
     subst q1
     exact yB (tup [oref 0 2 0 r19.length, b r18]) [(0, 2)] (Res.two rfl (RV.tmp rfl) (RV.tmp rfl)) (SelL.arr0 (f := (cp .f32)) (fun _ => rfl) rfl trivial)
   ·refine yW<|ym rfl (sl a0.length (a0.map (cp .f32)))<|ye rfl (tup [oref 1 1 0 r5.length, b r4]) [⟨1, some (r3.map (cp .f32))⟩, ⟨1, some (r5.map (cp .f32))⟩, ⟨0, none⟩, ⟨0, none⟩] (TOp.callBN (ls := [(r5.map (cp .f32))]) [1] (CallAs.func ent9 rfl rfl) (bS bN) rfl (i_SpectrumOf_ok a0 r4 r5 hf5) (and_all (lts0_map (f := (cp .f32)) (fun _ => rfl) _) rfl) (and_all (noss_map (f := (cp .f32)) (fun _ => rfl) _) rfl) rfl (by decide) (ns_of ⟨⟨_, rfl⟩, trivial⟩))<|ym rfl (tup [oref 1 1 0 r5.length, b r4])<|yl rfl (oref 1 1 0 r5.length) y3<|yl rfl (b false) (LOp.eqb y3 hc6)<|ya rfl (oref 1 1 0 r5.length)<|ya rfl (b false)<|zN ?_
    refine RunC.wl (τ' := [(6, oref 0 1 0 r3.length), (7, b true), (8, oref 1 1 0 r5.length), (9, b false)]) (Γ' := [⟨1, some (r3.map (cp .f32))⟩, ⟨1, some (r5.map (cp .f32))⟩, ⟨0, none⟩, ⟨0, none⟩]) ⟨aR, aR, aR, aR, trivial⟩ ⟨⟨rfl, .inr rfl⟩, ⟨rfl, .inr rfl⟩, ⟨rfl, .inr rfl⟩, ⟨rfl, .inr rfl⟩, trivial⟩<|yS<|zQ<|ym rfl (b true)<|yl rfl (b false) y1<|ym rfl (b false)<|ym rfl (b false)<|yl rfl (b true) y0<|yl rfl (b true) yp<|zN ?_
    refine yT<|zQ<|ya rfl nilsl<|ya rfl (b false)<|zN ?_
    refine RunC.nil_slot (Γ' := [⟨1, some (r3.map (cp .f32))⟩, ⟨1, some (r5.map (cp .f32))⟩, ⟨1, some (([] : List (F × F)).map (cp .f32))⟩, ⟨0, none⟩]) 4 2 rfl rfl rfl<|RunC.ret ?_
    have hq := oI h
    obtain ⟨hq0, hq⟩ := Prod.mk.inj hq
    subst q0
    subst q1
    exact yB (tup [oref 2 1 0 (([] : List (F × F)).length), b false]) [(2, 1)] (Res.eq (Res.two rfl (RV.tmp rfl) (RV.tmp rfl)) (by first | rfl | (rw [(show ([] : List (F × F)).length = 0 from rfl)] <;> rfl))) (SelL.arr0 (f := (cp .f32)) (fun _ => rfl) rfl trivial)
  ·refine yW<|ym rfl (sl a1.length (a1.map (cp .f32)))<|ye rfl (tup [oref 0 1 0 r3.length, b r2]) [⟨1, some (r3.map (cp .f32))⟩, ⟨0, none⟩, ⟨0, none⟩, ⟨0, none⟩] (TOp.callBN (ls := [(r3.map (cp .f32))]) [0] (CallAs.func ent9 rfl rfl) (bS bN) rfl (i_SpectrumOf_ok a1 r2 r3 hf3) (and_all (lts0_map (f := (cp .f32)) (fun _ => rfl) _) rfl) (and_all (noss_map (f := (cp .f32)) (fun _ => rfl) _) rfl) rfl (by decide) (ns_of ⟨⟨_, rfl⟩, trivial⟩))<|ym rfl (tup [oref 0 1 0 r3.length, b r2])<|yl rfl (oref 0 1 0 r3.length) y3<|yl rfl (b false) (LOp.eqb y3 hc4)<|ya rfl (oref 0 1 0 r3.length)<|ya rfl (b false)<|zN ?_
   refine yS ?_
   obtain ⟨r20, r21, hf14, h⟩ := obind2_some h
   rcases oB h with ⟨hc15, h⟩ | ⟨hc15, h⟩
   ·refine yW<|ym rfl (sl a0.length (a0.map (cp .f32)))<|ye rfl (tup [oref 1 1 0 r21.length, b r20]) [⟨1, some (r3.map (cp .f32))⟩, ⟨1, some (r21.map (cp .f32))⟩, ⟨0, none⟩, ⟨0, none⟩] (TOp.callBN (ls := [(r21.map (cp .f32))]) [1] (CallAs.func ent9 rfl rfl) (bS bN) rfl (i_SpectrumOf_ok a0 r20 r21 hf14) (and_all (lts0_map (f := (cp .f32)) (fun _ => rfl) _) rfl) (and_all (noss_map (f := (cp .f32)) (fun _ => rfl) _) rfl) rfl (by decide) (ns_of ⟨⟨_, rfl⟩, trivial⟩))<|ym rfl (tup [oref 1 1 0 r21.length, b r20])<|yl rfl (oref 1 1 0 r21.length) y3<|yl rfl (b true) (LOp.eqb y3 hc15)<|ya rfl (oref 1 1 0 r21.length)<|ya rfl (b true)<|zN ?_
    refine RunC.wl (τ' := [(6, oref 0 1 0 r3.length), (7, b false), (8, oref 1 1 0 r21.length), (9, b true)]) (Γ' := [⟨1, some (r3.map (cp .f32))⟩, ⟨1, some (r21.map (cp .f32))⟩, ⟨0, none⟩, ⟨0, none⟩]) ⟨aR, aR, aR, aR, trivial⟩ ⟨⟨rfl, .inr rfl⟩, ⟨rfl, .inr rfl⟩, ⟨rfl, .inr rfl⟩, ⟨rfl, .inr rfl⟩, trivial⟩<|yS<|zQ<|ym rfl (b false)<|yl rfl (b true) y0<|ym rfl (b true)<|ROps.s rfl rfl rfl<|ROps.s rfl rfl rfl<|yl rfl (b true) yq<|zN ?_
    refine yT<|zQ<|ya rfl nilsl<|ya rfl (b false)<|zN ?_
    refine RunC.nil_slot (Γ' := [⟨1, some (r3.map (cp .f32))⟩, ⟨1, some (r21.map (cp .f32))⟩, ⟨1, some (([] : List (F × F)).map (cp .f32))⟩, ⟨0, none⟩]) 4 2 rfl rfl rfl<|RunC.ret ?_
    have hq := oI h
    obtain ⟨hq0, hq⟩ := Prod.mk.inj hq
    subst q0
    subst q1
    exact yB (tup [oref 2 1 0 (([] : List (F × F)).length), b false]) [(2, 1)] (Res.eq (Res.two rfl (RV.tmp rfl) (RV.tmp rfl)) (by first | rfl | (rw [(show ([] : List (F × F)).length = 0 from rfl)] <;> rfl))) (SelL.arr0 (f := (cp .f32)) (fun _ => rfl) rfl trivial)
   ·refine yW<|ym rfl (sl a0.length (a0.map (cp .f32)))<|ye rfl (tup [oref 1 1 0 r21.length, b r20]) [⟨1, some (r3.map (cp .f32))⟩, ⟨1, some (r21.map (cp .f32))⟩, ⟨0, none⟩, ⟨0, none⟩] (TOp.callBN (ls := [(r21.map (cp .f32))]) [1] (CallAs.func ent9 rfl rfl) (bS bN) rfl (i_SpectrumOf_ok a0 r20 r21 hf14) (and_all (lts0_map (f := (cp .f32)) (fun _ => rfl) _) rfl) (and_all (noss_map (f := (cp .f32)) (fun _ => rfl) _) rfl) rfl (by decide) (ns_of ⟨⟨_, rfl⟩, trivial⟩))<|ym rfl (tup [oref 1 1 0 r21.length, b r20])<|yl rfl (oref 1 1 0 r21.length) y3<|yl rfl (b false) (LOp.eqb y3 hc15)<|ya rfl (oref 1 1 0 r21.length)<|ya rfl (b false)<|zN ?_
    refine RunC.wl (τ' := [(6, oref 0 1 0 r3.length), (7, b false), (8, oref 1 1 0 r21.length), (9, b false)]) (Γ' := [⟨1, some (r3.map (cp .f32))⟩, ⟨1, some (r21.map (cp .f32))⟩, ⟨0, none⟩, ⟨0, none⟩]) ⟨aR, aR, aR, aR, trivial⟩ ⟨⟨rfl, .inr rfl⟩, ⟨rfl, .inr rfl⟩, ⟨rfl, .inr rfl⟩, ⟨rfl, .inr rfl⟩, trivial⟩<|yS<|zQ<|ym rfl (b false)<|yl rfl (b true) y0<|ym rfl (b true)<|ROps.s rfl rfl rfl<|ROps.s rfl rfl rfl<|yl rfl (b true) yq<|zN ?_
    refine yT<|zQ<|ya rfl nilsl<|ya rfl (b false)<|zN ?_
    refine RunC.nil_slot (Γ' := [⟨1, some (r3.map (cp .f32))⟩, ⟨1, some (r21.map (cp .f32))⟩, ⟨1, some (([] : List (F × F)).map (cp .f32))⟩, ⟨0, none⟩]) 4 2 rfl rfl rfl<|RunC.ret ?_
    have hq := oI h
    obtain ⟨hq0, hq⟩ := Prod.mk.inj hq
    subst q0
    subst q1
    exact yB (tup [oref 2 1 0 (([] : List (F × F)).length), b false]) [(2, 1)] (Res.eq (Res.two rfl (RV.tmp rfl) (RV.tmp rfl)) (by first | rfl | (rw [(show ([] : List (F × F)).length = 0 from rfl)] <;> rfl))) (SelL.arr0 (f := (cp .f32)) (fun _ => rfl) rfl trivial)
 ·refine yW<|ym rfl (sl a0.length (a0.map (cp .f32)))<|ym rfl (sl a1.length (a1.map (cp .f32)))<|yd rfl (b false) (TOp.eqb (yc ent58 rfl rfl (bS (bS bN)) (i_areRings_ok a0 a1 r1 hf1)) hc2)<|yl rfl (b true) y0<|zN ?_
  refine yT<|zQ<|ya rfl nilsl<|ya rfl (b false)<|zN ?_
  refine RunC.nil_slot (Γ' := [⟨1, some (([] : List (F × F)).map (cp .f32))⟩, ⟨0, none⟩, ⟨0, none⟩, ⟨0, none⟩]) 4 0 rfl rfl rfl<|RunC.ret ?_
  have hq := oI h
  obtain ⟨hq0, hq⟩ := Prod.mk.inj hq
  subst q0
  subst q1
  exact yB (tup [oref 0 1 0 (([] : List (F × F)).length), b false]) [(0, 1)] (Res.eq (Res.two rfl (RV.tmp rfl) (RV.tmp rfl)) (by first | rfl | (rw [(show ([] : List (F × F)).length = 0 from rfl)] <;> rfl))) (SelL.arr0 (f := (cp .f32)) (fun _ => rfl) rfl trivial)
def i_length_float32 (a0 : List F) : Option (Int) :=
 some (a0.length : Int)
theorem i_length_float32_ok (a0 : List F) (q0 : Int) (h : i_length_float32 a0 = some q0) : Ev Try.prog 62 [(sFc a0)] [] (i64 q0) [] := by
 refine yE Try.func62 0 11 0 [(0, (sFc a0))] [] rfl ?_
 unfold i_length_float32 at h
 refine zQ<|ya rfl (i64 0)<|zN ?_
 refine zQ<|ym rfl (sFc a0)<|yl rfl (i64 (a0.length : Int)) (LOp.len_sl und26 rfl rfl)<|ya rfl (i64 (a0.length : Int))<|zN ?_
 refine RunC.ret ?_
 have hq := oI h
 subst q0
 exact bodyQ.pure (.inr rfl) rfl (Res.one rfl (RV.tmp rfl))
def i_areFinite_1 (a0 : F) : Option (Bool) :=
 obind (i_IsFinite a0) fun (r1 : Bool) =>
 some (!r1)
theorem i_areFinite_1_ok (a0 : F) (q0 : Bool) (h : i_areFinite_1 a0 = some q0) : Ev Try.prog 141 [f32 a0] [] (b q0) [] := by
 refine yE Try.func141 0 13 0 [(0, f32 a0)] [] rfl ?_
 unfold i_areFinite_1 at h
 refine zQ<|ya rfl (b false)<|zN ?_
 refine yS ?_
 obtain ⟨r1, hf1, h⟩ := oS h
 refine yW<|ym rfl (f32 a0)<|yd rfl (b r1) (yc ent80 rfl rfl bN0 (i_IsFinite_ok a0 r1 hf1))<|yl rfl (b (!r1)) (LOp.not rfl rfl)<|ya rfl (b (!r1))<|zN ?_
 refine RunC.ret ?_
 have hq := oI h
 subst q0
 exact bodyQ.pure (.inr rfl) rfl (Res.one rfl (RV.tmp rfl))
def x_slices_IndexFunc_float32_float32_1Fi_areFinite_1_b1 (a0 : List F) (v1 : Int) : Option (LR (Int) (Unit) (Int)) :=
 bsel (decide (v1 < (a0.length : Int))) (
  obind (at? a0 v1) fun (e2 : F) =>
  obind (i_areFinite_1 e2) fun (r3 : Bool) =>
  bsel r3 (
   some (LR.ret v1)) (
   olet (IntKind.i64.wrap (v1 + 1)) fun (x4 : Int) =>
   some (LR.next x4))) (
  some (LR.out ()))
def x_slices_IndexFunc_float32_float32_1Fi_areFinite_1_s1 (a0 : List F) : (Int) → Option (LR (Int) (Unit) (Int)) := fun s => x_slices_IndexFunc_float32_float32_1Fi_areFinite_1_b1 a0 s
def x_slices_IndexFunc_float32_float32_1Fi_areFinite_1_k1  : Option (Int) :=
 some (-1)
def x_slices_IndexFunc_float32_float32_1Fi_areFinite_1 (a0 : List F) : Option (Int) :=
 obind (loopM (x_slices_IndexFunc_float32_float32_1Fi_areFinite_1_s1 a0) 0) fun z => osum z (fun _ => x_slices_IndexFunc_float32_float32_1Fi_areFinite_1_k1) (fun r => some r)
theorem x_slices_IndexFunc_float32_float32_1Fi_areFinite_1_ok (a0 : List F) (q0 : Int) (h : x_slices_IndexFunc_float32_float32_1Fi_areFinite_1 a0 = some q0) : Ev Try.prog 164 [(sFc a0), fn (.func 141) [] []] [] (i64 q0) [] := by
 refine yE Try.func164 0 39 0 ([(0, (sFc a0)), (1, fn (.func 141) [] [])]) [] rfl ?_
 unfold x_slices_IndexFunc_float32_float32_1Fi_areFinite_1 at h
 refine zQ<|ya rfl (i64 0)<|zN ?_
 refine yS<|zQ<|ym rfl (sFc a0)<|yl rfl (i64 (a0.length : Int)) (LOp.len_sl und26 rfl rfl)<|ym rfl (i64 0)<|zN ?_
 obtain ⟨z2, hz_2, h⟩ := oS h
 refine RunC.cutN (fun τ Γ => WeakLe τ [] ∧ DeadLe Γ [] ∧ z2 = .inl ()) ?_ ?_
 ·refine RunC.block (RunC.loop (RunL.loopM (x := z2) (x_slices_IndexFunc_float32_float32_1Fi_areFinite_1_s1 a0) (fun (s : Int) τ Γ => WeakLe τ [(0, (sFc a0)), (1, fn (.func 141) [] []), (7, i64 (a0.length : Int)), (8, i64 s)] ∧ DeadLe Γ []) ?_ _ _ _ hz_2 ⟨⟨aR, aR, aR, aR, trivial⟩, trivial⟩))
  rintro v1 τ2 Γ2 y2_ ⟨hw2, hd2⟩ h2_ ho2 hr2
  refine RunC.wl (τ' := [(0, (sFc a0)), (1, fn (.func 141) [] []), (7, i64 (a0.length : Int)), (8, i64 v1)]) (Γ' := []) hw2 hd2 ?_
  replace h2_ : x_slices_IndexFunc_float32_float32_1Fi_areFinite_1_b1 a0 v1 = some y2_ := h2_
  unfold x_slices_IndexFunc_float32_float32_1Fi_areFinite_1_b1 at h2_
  refine yS ?_
  rcases oB h2_ with ⟨hc1, h2_⟩ | ⟨hc1, h2_⟩
  ·refine yW<|yl rfl (b true) (LOp.eqb (LOp.lss rfl rfl rfl) hc1)<|zN ?_
   refine yS<|yT<|RunC.skip<|yS<|RunC.block<|zQ<|ym rfl (i64 v1)<|ya rfl (i64 v1)<|zN ?_
   refine yS ?_
   obtain ⟨e2, he2, h2_⟩ := oS h2_
   obtain ⟨r3, hf3, h2_⟩ := oS h2_
   rcases oB h2_ with ⟨hc4, h2_⟩ | ⟨hc4, h2_⟩
   ·refine yW<|ym rfl (fn (.func 141) [] [])<|ym rfl (sFc a0)<|ym rfl (i64 v1)<|yl rfl (ptr [f32 e2]) (LOp.le (LOp.ix (f := f32) und26 siz28 rfl rfl rfl rfl he2) ALe.ptr)<|yl rfl (f32 e2) (y2 agg28)<|yd rfl (b true) (TOp.eqb (TOp.callB (CallAs.fn ent141 rfl rfl rfl rfl) bN0 rfl rfl (i_areFinite_1_ok e2 r3 hf3)) hc4)<|zN ?_
    refine yT<|zQ<|ym rfl (i64 v1)<|ya rfl (i64 v1)<|zN ?_
    refine RunC.ret ?_
    cases oI h2_
    have hx3_ := hr2 _ rfl
    subst hx3_
    have hq := oI h
    subst q0
    exact bodyQ.pure (.inr rfl) rfl (Res.one rfl (RV.tmp rfl))
   ·refine yW<|ym rfl (fn (.func 141) [] [])<|ym rfl (sFc a0)<|ym rfl (i64 v1)<|yl rfl (ptr [f32 e2]) (LOp.le (LOp.ix (f := f32) und26 siz28 rfl rfl rfl rfl he2) ALe.ptr)<|yl rfl (f32 e2) (y2 agg28)<|yd rfl (b false) (TOp.eqb (TOp.callB (CallAs.fn ent141 rfl rfl rfl rfl) bN0 rfl rfl (i_areFinite_1_ok e2 r3 hf3)) hc4)<|zN ?_
    refine yF<|RunC.skip ?_
    obtain ⟨x4, hx5, h2_⟩ := oL h2_
    refine yW<|yl rfl (i64 x4) (LOp.eqr (LOp.add rfl rfl rfl) (congrArg (ik .i64) hx5))<|ym rfl (i64 x4)<|zN ?_
    cases oI h2_
    exact ⟨_, rfl, ⟨aR, aR, aR, aR, trivial⟩, trivial⟩
  ·refine yW<|yl rfl (b false) (LOp.eqb (LOp.lss rfl rfl rfl) hc1)<|zN ?_
   refine yS<|yF<|RunC.exit ?_
   cases oI h2_
   have hx := ho2 _ rfl
   exact ⟨trivial, trivial, hx⟩
 ·rintro τ4 Γ4 ⟨hw4, hd4, rfl⟩
  refine RunC.wl hw4 hd4 ?_
  replace h : x_slices_IndexFunc_float32_float32_1Fi_areFinite_1_k1 = some q0 := h
  unfold x_slices_IndexFunc_float32_float32_1Fi_areFinite_1_k1 at h
  refine zQ<|ya rfl (i64 (-1))<|zN ?_
  refine RunC.ret ?_
  have hq := oI h
  subst q0
  exact bodyQ.pure (.inr rfl) rfl (Res.one rfl (RV.tmp rfl))
def x_slices_ContainsFunc_float32_float32_1Fi_areFinite_1 (a0 : List F) : Option (Bool) :=
 obind (x_slices_IndexFunc_float32_float32_1Fi_areFinite_1 a0) fun (r1 : Int) =>
 some (decide (0 ≤ r1))
theorem x_slices_ContainsFunc_float32_float32_1Fi_areFinite_1_ok (a0 : List F) (q0 : Bool) (h : x_slices_ContainsFunc_float32_float32_1Fi_areFinite_1 a0 = some q0) : Ev Try.prog 121 [(sFc a0), fn (.func 141) [] []] [] (b q0) [] := by
 refine yE Try.func121 0 19 0 ([(0, (sFc a0)), (1, fn (.func 141) [] [])]) [] rfl ?_
 unfold x_slices_ContainsFunc_float32_float32_1Fi_areFinite_1 at h
 refine zQ<|ya rfl (b false)<|zN ?_
 refine yS ?_
 obtain ⟨r1, hf1, h⟩ := oS h
 refine yW<|ym rfl (sFc a0)<|ym rfl (fn (.func 141) [] [])<|yd rfl (i64 r1) (yc ent164 rfl rfl (bS (Bors.cons (Bor.fn bN bN) bN)) (x_slices_IndexFunc_float32_float32_1Fi_areFinite_1_ok a0 r1 hf1))<|yl rfl (b (decide (0 ≤ r1))) (LOp.geq rfl rfl rfl)<|ya rfl (b (decide (0 ≤ r1)))<|zN ?_
 refine RunC.ret ?_
 have hq := oI h
 subst q0
 exact bodyQ.pure (.inr rfl) rfl (Res.one rfl (RV.tmp rfl))
def i_areFinite (a0 : List F) : Option (Bool) :=
 obind (x_slices_ContainsFunc_float32_float32_1Fi_areFinite_1 a0) fun (r1 : Bool) =>
 some (!r1)
theorem i_areFinite_ok (a0 : List F) (q0 : Bool) (h : i_areFinite a0 = some q0) : Ev Try.prog 74 [(sFc a0)] [] (b q0) [] := by
 refine yE Try.func74 0 13 0 [(0, (sFc a0))] [] rfl ?_
 unfold i_areFinite at h
 refine zQ<|ya rfl (b false)<|zN ?_
 refine yS ?_
 obtain ⟨r1, hf1, h⟩ := oS h
 refine yW<|ym rfl (sFc a0)<|yd rfl (b r1) (yc ent121 rfl rfl (bS (Bors.cons (Bor.fn bN bN) bN)) (x_slices_ContainsFunc_float32_float32_1Fi_areFinite_1_ok a0 r1 hf1))<|yl rfl (b (!r1)) (LOp.not rfl rfl)<|ya rfl (b (!r1))<|zN ?_
 refine RunC.ret ?_
 have hq := oI h
 subst q0
 exact bodyQ.pure (.inr rfl) rfl (Res.one rfl (RV.tmp rfl))
def i_isList (a0 : List F) (a1 : Int) : Option (Bool) :=
 obind (i_length_float32 a0) fun (r1 : Int) =>
 obind (i_inRange r1 1 a1) fun (r2 : Bool) =>
 bsel r2 (
  obind (i_areFinite a0) fun (r3 : Bool) =>
  some r3) (
  some false)
theorem i_isList_ok (a0 : List F) (a1 : Int) (q0 : Bool) (h : i_isList a0 a1 = some q0) : Ev Try.prog 63 [(sFc a0), i64 a1] [] (b q0) [] := by
 refine yE Try.func63 0 27 0 [(0, (sFc a0)), (1, i64 a1)] [] rfl ?_
 unfold i_isList at h
 refine zQ<|ya rfl (b false)<|zN ?_
 refine yS ?_
 obtain ⟨r1, hf1, h⟩ := oS h
 obtain ⟨r2, hf2, h⟩ := oS h
 rcases oB h with ⟨hc3, h⟩ | ⟨hc3, h⟩
 ·obtain ⟨r3, hf4, h⟩ := oS h
  refine yW<|ym rfl (sFc a0)<|yd rfl (i64 r1) (yc ent62 rfl rfl (bS bN) (i_length_float32_ok a0 r1 hf1))<|ym rfl (i64 a1)<|yd rfl (b true) (TOp.eqb (yc ent85 rfl rfl (bP (bP bN0)) (i_inRange_ok r1 1 a1 r2 hf2)) hc3)<|ym rfl (b true)<|ym rfl (sFc a0)<|yd rfl (b r3) (yc ent74 rfl rfl (bS bN) (i_areFinite_ok a0 r3 hf4))<|yl rfl (b r3) yq<|ya rfl (b r3)<|zN ?_
  refine RunC.ret ?_
  have hq := oI h
  subst q0
  exact bodyQ.pure (.inr rfl) rfl (Res.one rfl (RV.tmp rfl))
 ·refine yW<|ym rfl (sFc a0)<|yd rfl (i64 r1) (yc ent62 rfl rfl (bS bN) (i_length_float32_ok a0 r1 hf1))<|ym rfl (i64 a1)<|yd rfl (b false) (TOp.eqb (yc ent85 rfl rfl (bP (bP bN0)) (i_inRange_ok r1 1 a1 r2 hf2)) hc3)<|ym rfl (b false)<|ROps.s rfl rfl rfl<|ROps.s rfl rfl rfl<|yl rfl (b false) yp<|ya rfl (b false)<|zN ?_
  refine RunC.ret ?_
  have hq := oI h
  subst q0
  exact bodyQ.pure (.inr rfl) rfl (Res.one rfl (RV.tmp rfl))
def i_newMatrix (a0 : Int) (a1 : Int) : Option (Int × Int × (List F)) :=
 olet (IntKind.i64.wrap (a0 * a1)) fun (x1 : Int) =>
 need (mkok 4 x1) <|
 some (a0, a1, (List.replicate x1.toNat (some 0)))
theorem i_newMatrix_ok (a0 : Int) (a1 : Int) (q0 : Int) (q1 : Int) (q2 : List F) (h : i_newMatrix a0 a1 = some (q0, q1, q2)) : Ev Try.prog 113 [i64 a0, i64 a1] [] (agg (oXc q0 q1 0 0 q2.length)) [⟨0, some (q2.map f32)⟩] := by
 refine yE Try.func113 2 25 0 [(0, i64 a0), (1, i64 a1)] [⟨0, none⟩, ⟨0, none⟩] rfl ?_
 unfold i_newMatrix at h
 refine zQ<|ye rfl (optr 0 1 0) [⟨1, some zMx⟩, ⟨0, none⟩] (TOp.alloc_o (g := ⟨0, none⟩) 0 rfl zer33 zok33 rfl)<|zN ?_
 refine yS ?_
 obtain ⟨x1, hx1, h⟩ := oL h
 obtain ⟨hm2, h⟩ := need_some h
 refine yW<|ym rfl (i64 a0)<|ym rfl (i64 a1)<|ym rfl (i64 a0)<|ym rfl (i64 a1)<|yl rfl (i64 x1) (LOp.eqr (LOp.mul rfl rfl rfl) (congrArg (ik .i64) hx1))<|ye rfl (oref 1 1 0 x1.toNat) [⟨1, some zMx⟩, ⟨1, some ((List.replicate x1.toNat (some 0)).map f32)⟩] (TOp.mkS (g := ⟨0, none⟩) (t := 26) (e := 28) (by_ := 4) (f := f32) (zv := some 0) 1 rfl und26 tin28 rfl siz28 zer28 rfl zel28 rfl rfl rfl hm2)<|yl rfl (agg [i64 a0, i64 a1, oref 1 1 0 x1.toNat]) (LOp.build (qs := [(0, [i64 a0]), (1, [i64 a1]), (2, [oref 1 1 0 x1.toNat])]) zer33 zok33 und33 plc33 rfl ⟨rfl, ⟨_, ALe.refl _, rfl⟩, ⟨rfl, ⟨_, ALe.refl _, rfl⟩, ⟨rfl, ⟨_, ALe.refl _, rfl⟩, trivial⟩⟩⟩ rfl)<|ys (agg [i64 a0, i64 a1, oref 1 1 0 x1.toNat]) [i64 a0, i64 a1, oref 1 1 0 x1.toNat] ([⟨1, some [i64 a0, i64 a1, oref 1 1 0 x1.toNat]⟩, ⟨1, some ((List.replicate x1.toNat (some 0)).map f32)⟩]) siz33<|zN ?_
 refine RunC.ret ?_
 have hq := oI h
 obtain ⟨hq0, hq⟩ := Prod.mk.inj hq
 obtain ⟨hq1, hq⟩ := Prod.mk.inj hq
 subst q0
 subst q1
 subst q2
 exact yB (agg [i64 a0, i64 a1, oref 1 1 0 ((List.replicate x1.toNat (some 0)).length)]) [(1, 1)] (Res.eq (Res.one rfl (RV.cell agg33 siz33 rfl rfl rfl rfl)) (by first | rfl | (rw [(show (List.replicate x1.toNat (some 0)).length = x1.toNat from by simp)] <;> rfl))) (SelL.arr0 (f := f32) (fun _ => rfl) rfl trivial)
def i_RingMatrix_1 (a0 : Int) (a1 : Int) (a2 : List F) (a3 : Int) : Option (F) :=
 olet (IntKind.i64.wrap (a0 - a1)) fun (x1 : Int) =>
 olet (IntKind.i64.wrap (x1 + a3)) fun (x2 : Int) =>
 need (!decide (a3 = 0)) <|
 olet (x2.tmod a3) fun (x3 : Int) =>
 obind (at? a2 x3) fun (e4 : F) =>
 some e4
theorem i_RingMatrix_1_ok (a0 : Int) (a1 : Int) (a2 : List F) (a3 : Int) (q0 : F) (h : i_RingMatrix_1 a0 a1 a2 a3 = some q0) : Ev Try.prog 65 [i64 a0, i64 a1, ptr [(sFc a2)], ptr [i64 a3]] [] (f32 q0) [] := by
 refine yE Try.func65 0 35 0 ([(0, i64 a0), (1, i64 a1), (2, ptr [(sFc a2)]), (3, ptr [i64 a3])]) [] rfl ?_
 unfold i_RingMatrix_1 at h
 refine zQ<|yl rfl (f32 (some 0)) (LOp.le (LOp.assign rfl rfl) (ALe.fl (by kernel_rfl) (by kernel_rfl)))<|zN ?_
 refine yS ?_
 obtain ⟨x1, hx1, h⟩ := oL h
 obtain ⟨x2, hx2, h⟩ := oL h
 obtain ⟨hz3, h⟩ := need_some h
 obtain ⟨x3, hx4, h⟩ := oL h
 obtain ⟨e4, he5, h⟩ := oS h
 refine RunC.region_draw (Γ' := []) 11 mixed 
  (tl rfl (sFc a2) (y2 agg26) <|
  (tm rfl (i64 a0) <|
  (tm rfl (i64 a1) <|
  (tl rfl (i64 x1) (LOp.eqr (LOp.sub rfl rfl rfl) (congrArg (ik .i64) hx1)) <|
  (tl rfl (i64 a3) (y2 agg2) <|
  (tl rfl (i64 x2) (LOp.eqr (LOp.add rfl rfl rfl) (congrArg (ik .i64) hx2)) <|
  (tl rfl (i64 a3) (y2 agg2) <|
  (tl rfl (i64 x3) (LOp.eqr (LOp.rem rfl rfl rfl (nz hz3)) (congrArg (ik .i64) hx4)) <|
  (tl rfl (ptr [f32 e4]) (LOp.le (LOp.ix (f := f32) und26 siz28 rfl rfl rfl rfl he5) ALe.ptr) <|
  (tl rfl (f32 e4) (y2 agg28) <|
  (tl rfl (f32 e4) (LOp.assign rfl rfl) <|
  TR.nil))))))))))) rfl (by kernel_rfl) rfl fills_nil rfl ?_
 iterate 11 refine ROps.dropS ?_
 refine ROps.drop0<|zN ?_
 refine RunC.ret ?_
 have hq := oI h
 subst q0
 exact bodyQ.pure (.inr rfl) rfl (Res.one rfl (RV.tmp rfl))
def i_Matrix_set_02o (a0 : Int) (a1 : Int) (a2 : Int) (a3 : Int) (a4 : F) (a5 : List F) : Option ((List F)) :=
 olet (IntKind.i64.wrap (a2 * a1)) fun (x1 : Int) =>
 olet (IntKind.i64.wrap (x1 + a3)) fun (x2 : Int) =>
 obind (setAt? a5 x2 a4) fun (L3 : List F) =>
 some L3
theorem i_Matrix_set_02o_ok (a0 : Int) (a1 : Int) (a2 : Int) (a3 : Int) (a4 : F) (a5 : List F) (q0 : List F) (h : i_Matrix_set_02o a0 a1 a2 a3 a4 a5 = some q0) : Ev Try.prog 93 [agg (oXc a0 a1 0 0 a5.length), i64 a2, i64 a3, f32 a4] [⟨0, some (a5.map f32)⟩] (tup []) [⟨0, some (q0.map f32)⟩] := by
 refine Ev.start Try.func93 rfl rfl 0 (τ := [(0, agg (oXc a0 a1 0 0 a5.length)), (1, i64 a2), (2, i64 a3), (3, f32 a4)]) rfl (Γ' := [⟨0, some (a5.map f32)⟩]) rfl (n := 36) rfl (g := 1) rfl (by decide) ?_
 unfold i_Matrix_set_02o at h
 refine zQ<|yd rfl (ptr (oXc a0 a1 0 0 a5.length)) (TOp.box_s rfl rfl rfl)<|zN ?_
 obtain ⟨x1, hx1, h⟩ := oL h
 obtain ⟨x2, hx2, h⟩ := oL h
 obtain ⟨L3, he3, h⟩ := oS h
 refine yW<|yl rfl (ptr [oref 0 0 0 a5.length]) (LOp.fap und33 rfl siz26 rfl rfl rfl)<|yl rfl (oref 0 0 0 a5.length) (y2 agg26)<|ym rfl (i64 a2)<|yl rfl (ptr [i64 a1, oref 0 0 0 a5.length]) (LOp.fap und33 rfl siz2 rfl rfl rfl)<|yl rfl (i64 a1) (y2 agg2)<|yl rfl (i64 x1) (LOp.eqr (LOp.mul rfl rfl rfl) (congrArg (ik .i64) hx1))<|ym rfl (i64 a3)<|yl rfl (i64 x2) (LOp.eqr (LOp.add rfl rfl rfl) (congrArg (ik .i64) hx2))<|ym rfl (f32 a4)<|yd rfl (optr 0 0 x2.toNat) (TOp.ixo und26 siz28 rfl rfl rfl (set_in he3 rfl) rfl)<|ROps.st (f := f32) (i := x2) (Γ' := [⟨0, some (L3.map f32)⟩]) rfl siz28 rfl rfl rfl aR rfl rfl rfl he3 rfl<|zN ?_
 have hq := oI h
 subst q0
 exact yB (tup []) [(0, 0)] (Res.zero rfl) (SelL.arr (f := f32) (fun _ => rfl) rfl trivial)
def i_made_2Fi_RingMatrix_1_b2 (a1 : Int) (a2 : List F) (a3 : Int) (r1 : Int) (r2 : Int) (r3 : List F) (v6 : Int) (L7 : List F) (v9 : Int) : Option (LR ((List F) × Int) ((List F)) (Int × Int × (List F))) :=
 bsel (decide (v9 < a1)) (
  obind (i_RingMatrix_1 v6 v9 a2 a3) fun (r11 : F) =>
  obind (i_Matrix_set_02o r1 r2 v6 v9 r11 L7) fun (r12 : List F) =>
  need (decide (r12.length = r3.length)) <|
  olet (IntKind.i64.wrap (v9 + 1)) fun (x13 : Int) =>
  some (LR.next (r12, x13))) (
  some (LR.out L7))
def i_made_2Fi_RingMatrix_1_s2 (a1 : Int) (a2 : List F) (a3 : Int) (r1 : Int) (r2 : Int) (r3 : List F) (v6 : Int) : ((List F) × Int) → Option (LR ((List F) × Int) ((List F)) (Int × Int × (List F))) := fun s => i_made_2Fi_RingMatrix_1_b2 a1 a2 a3 r1 r2 r3 v6 s.1 s.2
def i_made_2Fi_RingMatrix_1_k2 (v6 : Int) (L14 : List F) : Option (LR ((List F) × Int) ((List F)) (Int × Int × (List F))) :=
 olet (IntKind.i64.wrap (v6 + 1)) fun (x16 : Int) =>
 some (LR.next (L14, x16))
def i_made_2Fi_RingMatrix_1_b3 (a0 : Int) (a1 : Int) (a2 : List F) (a3 : Int) (r1 : Int) (r2 : Int) (r3 : List F) (L4 : List F) (v6 : Int) : Option (LR ((List F) × Int) ((List F)) (Int × Int × (List F))) :=
 bsel (decide (v6 < a0)) (
  obind (loopM (i_made_2Fi_RingMatrix_1_s2 a1 a2 a3 r1 r2 r3 v6) (L4, 0)) fun z => osum z (fun e => i_made_2Fi_RingMatrix_1_k2 v6 e) (fun r => some (LR.ret r))) (
  some (LR.out L4))
def i_made_2Fi_RingMatrix_1_s3 (a0 : Int) (a1 : Int) (a2 : List F) (a3 : Int) (r1 : Int) (r2 : Int) (r3 : List F) : ((List F) × Int) → Option (LR ((List F) × Int) ((List F)) (Int × Int × (List F))) := fun s => i_made_2Fi_RingMatrix_1_b3 a0 a1 a2 a3 r1 r2 r3 s.1 s.2
def i_made_2Fi_RingMatrix_1_k3 (r1 : Int) (r2 : Int) (L17 : List F) : Option (Int × Int × (List F)) :=
 some (r1, r2, L17)
def i_made_2Fi_RingMatrix_1 (a0 : Int) (a1 : Int) (a2 : List F) (a3 : Int) : Option (Int × Int × (List F)) :=
 obind3 (i_newMatrix a0 a1) fun (r1 : Int) (r2 : Int) (r3 : List F) =>
 obind (loopM (i_made_2Fi_RingMatrix_1_s3 a0 a1 a2 a3 r1 r2 r3) (r3, 0)) fun z => osum z (fun e => i_made_2Fi_RingMatrix_1_k3 r1 r2 e) (fun r => some r)
theorem i_made_2Fi_RingMatrix_1_ok (a0 : Int) (a1 : Int) (a2 : List F) (a3 : Int) (q0 : Int) (q1 : Int) (q2 : List F) (h : i_made_2Fi_RingMatrix_1 a0 a1 a2 a3 = some (q0, q1, q2)) : Ev Try.prog 64 [i64 a0, i64 a1, fn (.func 65) [] [ptr [(sFc a2)], ptr [i64 a3]]] [] (agg (oXc q0 q1 0 0 q2.length)) [⟨0, some (q2.map f32)⟩] := by
 refine yE Try.func64 3 65 0 ([(0, i64 a0), (1, i64 a1), (2, fn (.func 65) [] [ptr [(sFc a2)], ptr [i64 a3]])]) [⟨0, none⟩, ⟨0, none⟩, ⟨0, none⟩] rfl ?_
 unfold i_made_2Fi_RingMatrix_1 at h
 refine zQ<|ye rfl (optr 0 1 0) [⟨1, some zMx⟩, ⟨0, none⟩, ⟨0, none⟩] (TOp.alloc_o (g := ⟨0, none⟩) 0 rfl zer33 zok33 rfl)<|zN ?_
 refine yS ?_
 obtain ⟨r1, r2, r3, hf1, h⟩ := obind3_some h
 refine yW<|ym rfl (i64 a0)<|ym rfl (i64 a1)<|ye rfl (agg (oXc r1 r2 1 1 r3.length)) [⟨1, some zMx⟩, ⟨1, some (r3.map f32)⟩, ⟨0, none⟩] (TOp.callBN (ls := [(r3.map f32)]) [1] (CallAs.func ent113 rfl rfl) (bP bN0) rfl (i_newMatrix_ok a0 a1 r1 r2 r3 hf1) (and_all (lts0_map (f := f32) (fun _ => rfl) _) rfl) (and_all (noss_map (f := f32) (fun _ => rfl) _) rfl) rfl (by decide) (ns_of ⟨⟨_, rfl⟩, trivial⟩))<|ye rfl (optr 2 1 0) [⟨1, some zMx⟩, ⟨1, some (r3.map f32)⟩, ⟨1, some zMx⟩] (TOp.alloc_o (g := ⟨0, none⟩) 2 rfl zer33 zok33 rfl)<|ys (agg (oXc r1 r2 1 1 r3.length)) (oXc r1 r2 1 1 r3.length) [⟨1, some zMx⟩, ⟨1, some (r3.map f32)⟩, ⟨1, some (oXc r1 r2 1 1 r3.length)⟩] siz33<|zN ?_
 refine yS<|zQ<|ym rfl (i64 a0)<|ym rfl (i64 0)<|zN ?_
 obtain ⟨z4, hz_4, h⟩ := oS h
 refine RunC.cutN (fun τ Γ => ∃ (L17 : List F), L17.length = r3.length ∧ WeakLe τ [(6, optr 0 1 0), (7, optr 2 1 0)] ∧ DeadLe Γ [⟨1, some zMx⟩, ⟨1, some (L17.map f32)⟩, ⟨1, some (oXc r1 r2 1 1 r3.length)⟩] ∧ z4 = .inl L17) ?_ ?_
 ·refine RunC.block (RunC.loop (RunL.loopM (x := z4) (i_made_2Fi_RingMatrix_1_s3 a0 a1 a2 a3 r1 r2 r3) (fun (s : (List F) × Int) τ Γ => s.1.length = r3.length ∧ WeakLe τ [(1, i64 a1), (2, fn (.func 65) [] [ptr [(sFc a2)], ptr [i64 a3]]), (6, optr 0 1 0), (7, optr 2 1 0), (13, i64 a0), (14, i64 s.2)] ∧ DeadLe Γ [⟨1, some zMx⟩, ⟨1, some (s.1.map f32)⟩, ⟨1, some (oXc r1 r2 1 1 r3.length)⟩]) ?_ _ _ _ hz_4 ⟨rfl, ⟨aR, aR, aR, aR, aR, aR, trivial⟩, ⟨⟨rfl, .inr rfl⟩, ⟨rfl, .inr rfl⟩, ⟨rfl, .inr rfl⟩, trivial⟩⟩))
  rintro ⟨L4, v6⟩ τ4 Γ4 y4_ ⟨hl5, hw4, hd4⟩ h4_ ho4 hr4
  refine RunC.wl (τ' := [(1, i64 a1), (2, fn (.func 65) [] [ptr [(sFc a2)], ptr [i64 a3]]), (6, optr 0 1 0), (7, optr 2 1 0), (13, i64 a0), (14, i64 v6)]) (Γ' := [⟨1, some zMx⟩, ⟨1, some (L4.map f32)⟩, ⟨1, some (oXc r1 r2 1 1 r3.length)⟩]) hw4 hd4 ?_
  replace hl5 : L4.length = r3.length := hl5
  replace h4_ : i_made_2Fi_RingMatrix_1_b3 a0 a1 a2 a3 r1 r2 r3 L4 v6 = some y4_ := h4_
  unfold i_made_2Fi_RingMatrix_1_b3 at h4_
  refine yS ?_
  rcases oB h4_ with ⟨hc2, h4_⟩ | ⟨hc2, h4_⟩
  ·refine yW<|yl rfl (b true) (LOp.eqb (LOp.lss rfl rfl rfl) hc2)<|zN ?_
   refine yS<|yT<|RunC.skip<|yS<|RunC.block<|zQ<|ym rfl (i64 v6)<|ya rfl (i64 v6)<|zN ?_
   refine zQ<|ym rfl (i64 a1)<|ym rfl (i64 0)<|zN ?_
   obtain ⟨z5, hz_5, h4_⟩ := oS h4_
   refine RunC.cutN (fun τ Γ => ∃ (L14 : List F), L14.length = r3.length ∧ WeakLe τ [(1, i64 a1), (2, fn (.func 65) [] [ptr [(sFc a2)], ptr [i64 a3]]), (6, optr 0 1 0), (7, optr 2 1 0), (13, i64 a0), (14, i64 v6)] ∧ DeadLe Γ [⟨1, some zMx⟩, ⟨1, some (L14.map f32)⟩, ⟨1, some (oXc r1 r2 1 1 r3.length)⟩] ∧ z5 = .inl L14) ?_ ?_
   ·refine RunC.block (RunC.loop (RunL.loopM (x := z5) (i_made_2Fi_RingMatrix_1_s2 a1 a2 a3 r1 r2 r3 v6) (fun (s : (List F) × Int) τ Γ => s.1.length = r3.length ∧ WeakLe τ [(1, i64 a1), (2, fn (.func 65) [] [ptr [(sFc a2)], ptr [i64 a3]]), (6, optr 0 1 0), (7, optr 2 1 0), (8, i64 v6), (13, i64 a0), (14, i64 v6), (17, i64 a1), (18, i64 s.2)] ∧ DeadLe Γ [⟨1, some zMx⟩, ⟨1, some (s.1.map f32)⟩, ⟨1, some (oXc r1 r2 1 1 r3.length)⟩]) ?_ _ _ _ hz_5 ⟨hl5, ⟨aR, aR, aR, aR, aR, aR, aR, aR, aR, trivial⟩, ⟨⟨rfl, .inr rfl⟩, ⟨rfl, .inr rfl⟩, ⟨rfl, .inr rfl⟩, trivial⟩⟩))
    rintro ⟨L7, v9⟩ τ5 Γ5 y5_ ⟨hl8, hw5, hd5⟩ h5_ ho5 hr5
    refine RunC.wl (τ' := [(1, i64 a1), (2, fn (.func 65) [] [ptr [(sFc a2)], ptr [i64 a3]]), (6, optr 0 1 0), (7, optr 2 1 0), (8, i64 v6), (13, i64 a0), (14, i64 v6), (17, i64 a1), (18, i64 v9)]) (Γ' := [⟨1, some zMx⟩, ⟨1, some (L7.map f32)⟩, ⟨1, some (oXc r1 r2 1 1 r3.length)⟩]) hw5 hd5 ?_
    replace hl8 : L7.length = r3.length := hl8
    replace h5_ : i_made_2Fi_RingMatrix_1_b2 a1 a2 a3 r1 r2 r3 v6 L7 v9 = some y5_ := h5_
    unfold i_made_2Fi_RingMatrix_1_b2 at h5_
    refine yS ?_
    rcases oB h5_ with ⟨hc3, h5_⟩ | ⟨hc3, h5_⟩
    ·refine yW<|yl rfl (b true) (LOp.eqb (LOp.lss rfl rfl rfl) hc3)<|zN ?_
     refine yS<|yT<|RunC.skip<|yS<|RunC.block<|zQ<|ym rfl (i64 v9)<|ya rfl (i64 v9)<|zN ?_
     obtain ⟨r11, hf5, h5_⟩ := oS h5_
     obtain ⟨r12, hf6, h5_⟩ := oS h5_
     obtain ⟨hn7, h5_⟩ := need_some h5_
     refine RunC.region_draw (Γ' := [⟨1, some zMx⟩, ⟨1, some (L7.map f32)⟩, ⟨1, some (oXc r1 r2 1 1 r3.length)⟩]) 7 mixed 
      (TR.d (r := agg (oXc r1 r2 1 1 r3.length)) (fs := []) rfl rfl (TOp.loadAgg_o rfl agg33 siz33 rfl rfl rfl rfl) <|
      (tm rfl (i64 v6) <|
      (tm rfl (i64 v9) <|
      (tm rfl (fn (.func 65) [] [ptr [(sFc a2)], ptr [i64 a3]]) <|
      (tm rfl (i64 v6) <|
      (tm rfl (i64 v9) <|
      (TR.d (r := f32 r11) (fs := []) rfl rfl (TOp.callB (CallAs.fn ent65 rfl rfl rfl rfl) (bP (bP (Bors.cons (Bor.ptr (bS bN)) (Bors.cons (Bor.ptr bN0) bN)))) rfl rfl (i_RingMatrix_1_ok v6 v9 a2 a3 r11 hf5)) <|
      TR.nil))))))) rfl (by kernel_rfl) rfl fills_nil rfl ?_
     iterate 7 refine ROps.dropS ?_
     refine ROps.drop0<|ROps.callO (A := [agg (oXc r1 r2 1 1 r3.length), i64 v6, i64 v9, f32 r11]) (args := [agg (oXc r1 r2 0 0 L7.length), i64 v6, i64 v9, f32 r11]) (Γc := [⟨0, some (L7.map f32)⟩]) (Γc' := [⟨0, some (r12.map f32)⟩]) (r' := tup []) (Γ' := [⟨1, some zMx⟩, ⟨1, some (r12.map f32)⟩, ⟨1, some (oXc r1 r2 1 1 r3.length)⟩]) [(1, 1)] [] rfl (CallAs.func ent93 rfl rfl) rfl rfl (SelOk.of (ndB_ok rfl) (SelL.arr0 (f := f32) (fun _ => rfl) rfl trivial)) (live_of ⟨⟨_, _, rfl⟩, trivial⟩) (by simp [ren, rens, sigma, rens_f32, rens_f64, rens_i64, rens_ik, rens_str, rens_cp, hl8]) rfl (i_Matrix_set_02o_ok r1 r2 v6 v9 r11 L7 r12 hf6) rfl (news_of trivial) (ndB_ok rfl) (by simp [ren, rens, sigma, of_decide_eq_true hn7]) (by simp [backOb, sigma, ren, rens, rens_f32, rens_f64, rens_i64, rens_ik, rens_str, rens_cp] <;> omega)<|zN ?_
     obtain ⟨x13, hx8, h5_⟩ := oL h5_
     refine yW<|yl rfl (i64 x13) (LOp.eqr (LOp.add rfl rfl rfl) (congrArg (ik .i64) hx8))<|ym rfl (i64 x13)<|zN ?_
     cases oI h5_
     exact ⟨_, rfl, (of_decide_eq_true hn7), ⟨aR, aR, aR, aR, aR, aR, aR, aR, aR, trivial⟩, ⟨⟨rfl, .inr rfl⟩, ⟨rfl, .inr rfl⟩, ⟨rfl, .inr rfl⟩, trivial⟩⟩
    ·refine yW<|yl rfl (b false) (LOp.eqb (LOp.lss rfl rfl rfl) hc3)<|zN ?_
     refine yS<|yF<|RunC.exit ?_
     cases oI h5_
     have hx := ho5 _ rfl
     exact ⟨L7, hl8, ⟨aR, aR, aR, aR, aR, aR, trivial⟩, ⟨⟨rfl, .inr rfl⟩, ⟨rfl, .inr rfl⟩, ⟨rfl, .inr rfl⟩, trivial⟩, hx⟩
   ·rintro τ6 Γ6 ⟨L14, hl15, hw6, hd6, rfl⟩
    refine RunC.wl hw6 hd6 ?_
    replace h4_ : i_made_2Fi_RingMatrix_1_k2 v6 L14 = some y4_ := h4_
    unfold i_made_2Fi_RingMatrix_1_k2 at h4_
    obtain ⟨x16, hx9, h4_⟩ := oL h4_
    refine yW<|yl rfl (i64 x16) (LOp.eqr (LOp.add rfl rfl rfl) (congrArg (ik .i64) hx9))<|ym rfl (i64 x16)<|zN ?_
    cases oI h4_
    exact ⟨_, rfl, hl15, ⟨aR, aR, aR, aR, aR, aR, trivial⟩, ⟨⟨rfl, .inr rfl⟩, ⟨rfl, .inr rfl⟩, ⟨rfl, .inr rfl⟩, trivial⟩⟩
  ·refine yW<|yl rfl (b false) (LOp.eqb (LOp.lss rfl rfl rfl) hc2)<|zN ?_
   refine yS<|yF<|RunC.exit ?_
   cases oI h4_
   have hx := ho4 _ rfl
   exact ⟨L4, hl5, ⟨aR, aR, trivial⟩, ⟨⟨rfl, .inr rfl⟩, ⟨rfl, .inr rfl⟩, ⟨rfl, .inr rfl⟩, trivial⟩, hx⟩
 ·rintro τ7 Γ7 ⟨L17, hl18, hw7, hd7, rfl⟩
  refine RunC.wl hw7 hd7 ?_
  replace h : i_made_2Fi_RingMatrix_1_k3 r1 r2 L17 = some (q0, q1, q2) := h
  unfold i_made_2Fi_RingMatrix_1_k3 at h
  refine zQ<|yd rfl (agg (oXc r1 r2 1 1 r3.length)) (TOp.loadAgg_o rfl agg33 siz33 rfl rfl rfl rfl)<|ys (agg (oXc r1 r2 1 1 r3.length)) (oXc r1 r2 1 1 r3.length) [⟨1, some (oXc r1 r2 1 1 r3.length)⟩, ⟨1, some (L17.map f32)⟩, ⟨1, some (oXc r1 r2 1 1 r3.length)⟩] siz33<|zN ?_
  refine RunC.ret ?_
  have hq := oI h
  obtain ⟨hq0, hq⟩ := Prod.mk.inj hq
  obtain ⟨hq1, hq⟩ := Prod.mk.inj hq
  subst q0
  subst q1
  subst q2
  exact yB (agg (oXc r1 r2 1 1 L17.length)) [(1, 1)] (Res.eq (Res.one rfl (RV.cell agg33 siz33 rfl rfl rfl rfl)) (by first | rfl | (rw [(show L17.length = r3.length from hl18)] <;> rfl))) (SelL.arr0 (f := f32) (fun _ => rfl) rfl trivial)
def i_RingMatrix (a0 : List F) : Option (Int × Int × Bool × (List F)) :=
 obind (i_length_float32 a0) fun (r1 : Int) =>
 obind (i_isList a0 12) fun (r2 : Bool) =>
 bsel r2 (
  obind3 (i_made_2Fi_RingMatrix_1 r1 r1 a0 r1) fun (r3 : Int) (r4 : Int) (r5 : List F) =>
  some (r3, r4, true, r5)) (
  some (0, 0, false, ([] : List F)))
theorem i_RingMatrix_ok (a0 : List F) (q0 : Int) (q1 : Int) (q2 : Bool) (q3 : List F) (h : i_RingMatrix a0 = some (q0, q1, q2, q3)) : Ev Try.prog 13 [(sFc a0)] [] (tup [agg (oXc q0 q1 0 0 q3.length), b q2]) [⟨0, some (q3.map f32)⟩] := by
 refine yE Try.func13 3 31 0 [(0, (sFc a0))] [⟨0, none⟩, ⟨0, none⟩, ⟨0, none⟩] rfl ?_
 unfold i_RingMatrix at h
 refine zQ<|yd rfl (ptr [(sFc a0)]) (TOp.box_s rfl rfl rfl)<|ye rfl (optr 0 1 0) [⟨1, some zMx⟩, ⟨0, none⟩, ⟨0, none⟩] (TOp.alloc_o (g := ⟨0, none⟩) 0 rfl zer33 zok33 rfl)<|ya rfl (b false)<|zN ?_
 refine yS ?_
 obtain ⟨r1, hf1, h⟩ := oS h
 refine yW<|yl rfl (sFc a0) (y2 agg26)<|yd rfl (i64 r1) (yc ent62 rfl rfl (bS bN) (i_length_float32_ok a0 r1 hf1))<|ye rfl (optr 1 1 0) ([⟨1, some zMx⟩, ⟨1, some [i64 0]⟩, ⟨0, none⟩]) (TOp.alloc_o (g := ⟨0, none⟩) 1 rfl zer2 zok2 rfl)<|ys (i64 r1) [i64 r1] ([⟨1, some zMx⟩, ⟨1, some [i64 r1]⟩, ⟨0, none⟩]) siz2<|zN ?_
 refine yS<|yS ?_
 obtain ⟨r2, hf2, h⟩ := oS h
 rcases oB h with ⟨hc3, h⟩ | ⟨hc3, h⟩
 ·refine yW<|yl rfl (sFc a0) (y2 agg26)<|yd rfl (b true) (TOp.eqb (yc ent63 rfl rfl (bS bN0) (i_isList_ok a0 12 r2 hf2)) hc3)<|yl rfl (b false) y1<|zN ?_
  refine yF<|RunC.skip<|yS ?_
  obtain ⟨r3, r4, r5, hf4, h⟩ := obind3_some h
  refine yW<|yd rfl (i64 r1) (TOp.load1_o rfl rfl agg2 rfl rfl)<|yd rfl (i64 r1) (TOp.load1_o rfl rfl agg2 rfl rfl)<|yl rfl (fn (.func 65) [] [ptr [(sFc a0)], optr 1 1 0]) (LOp.makeFunc rfl rfl)<|ye rfl (agg (oXc r3 r4 2 1 r5.length)) ([⟨1, some zMx⟩, ⟨1, some [i64 r1]⟩, ⟨1, some (r5.map f32)⟩]) (TOp.callBN (ls := [(r5.map f32)]) [2] (CallAs.func ent64 rfl rfl) (bP (bP (Bors.cons (Bor.fn bN (Bors.cons (Bor.ptr (bS bN)) (Bors.cons (Bor.optr rfl (Bors.p bN0) rfl) bN))) bN))) rfl (i_made_2Fi_RingMatrix_1_ok r1 r1 a0 r1 r3 r4 r5 hf4) (and_all (lts0_map (f := f32) (fun _ => rfl) _) rfl) (and_all (noss_map (f := f32) (fun _ => rfl) _) rfl) rfl (by decide) (ns_of ⟨⟨_, rfl⟩, trivial⟩))<|ys (agg (oXc r3 r4 2 1 r5.length)) (oXc r3 r4 2 1 r5.length) ([⟨1, some (oXc r3 r4 2 1 r5.length)⟩, ⟨1, some [i64 r1]⟩, ⟨1, some (r5.map f32)⟩]) siz33<|ya rfl (b true)<|zN ?_
  refine RunC.ret ?_
  have hq := oI h
  obtain ⟨hq0, hq⟩ := Prod.mk.inj hq
  obtain ⟨hq1, hq⟩ := Prod.mk.inj hq
  obtain ⟨hq2, hq⟩ := Prod.mk.inj hq
  subst q0
  subst q1
  subst q2
  subst q3
  exact yB (tup [agg (oXc r3 r4 2 1 r5.length), b true]) [(2, 1)] (Res.two rfl (RV.cell agg33 siz33 rfl rfl rfl rfl) (RV.tmp rfl)) (SelL.arr0 (f := f32) (fun _ => rfl) rfl trivial)
 ·refine yW<|yl rfl (sFc a0) (y2 agg26)<|yd rfl (b false) (TOp.eqb (yc ent63 rfl rfl (bS bN0) (i_isList_ok a0 12 r2 hf2)) hc3)<|yl rfl (b true) y0<|zN ?_
  refine yT<|zQ<|yl rfl (agg zMx) (LOp.build (qs := []) zer33 zok33 und33 plc33 rfl trivial rfl)<|ys (agg zMx) zMx ([⟨1, some zMx⟩, ⟨1, some [i64 r1]⟩, ⟨0, none⟩]) siz33<|ya rfl (b false)<|zN ?_
  refine RunC.nil_cell (l' := [i64 0, i64 0, oref 2 1 0 0]) (Γ' := [⟨1, some [i64 0, i64 0, oref 2 1 0 0]⟩, ⟨1, some [i64 r1]⟩, ⟨1, some (([] : List F).map f32)⟩]) 0 2 2 rfl rfl rfl rfl rfl<|RunC.ret ?_
  have hq := oI h
  obtain ⟨hq0, hq⟩ := Prod.mk.inj hq
  obtain ⟨hq1, hq⟩ := Prod.mk.inj hq
  obtain ⟨hq2, hq⟩ := Prod.mk.inj hq
  subst q0
  subst q1
  subst q2
  subst q3
  exact yB (tup [agg [i64 0, i64 0, oref 2 1 0 (([] : List F).length)], b false]) [(2, 1)] (Res.eq (Res.two rfl (RV.cell agg33 siz33 rfl rfl rfl rfl) (RV.tmp rfl)) (by first | rfl | (rw [(show ([] : List F).length = 0 from rfl)] <;> rfl))) (SelL.arr0 (f := f32) (fun _ => rfl) rfl trivial)
def s_l01PowerWide (a0 : F) (a1 : F) : Option (F) :=
 olet (fwiden a0) fun (x1 : F) =>
 olet (fwiden a1) fun (x2 : F) =>
 olet (fop .mul .f64 x1 x1) fun (x3 : F) =>
 olet (fop .mul .f64 x2 x2) fun (x4 : F) =>
 olet (fop .add .f64 x3 x4) fun (x5 : F) =>
 some x5
theorem s_l01PowerWide_ok (a0 : F) (a1 : F) (q0 : F) (h : s_l01PowerWide a0 a1 = some q0) : Ev Try.prog 139 [cx .f32 a0 a1] [] (f64 q0) [] := by
 refine yE Try.func139 0 37 0 [(0, cx .f32 a0 a1)] [] rfl ?_
 unfold s_l01PowerWide at h
 refine zQ<|yl rfl (f64 (some 0)) (LOp.le (LOp.assign rfl rfl) (ALe.fl (by kernel_rfl) (by kernel_rfl)))<|zN ?_
 refine yS ?_
 obtain ⟨x1, hx1, h⟩ := oL h
 refine yW<|ym rfl (cx .f32 a0 a1)<|yl rfl (f32 a0) (LOp.real rfl rfl)<|yd rfl (f64 x1) (TOp.eqr (TOp.widen (src := 28) (dst := 40) ⟨_, pun28⟩ pun40 rfl (OpF.tmp rfl)) (congrArg (f .f64) hx1))<|ya rfl (f64 x1)<|zN ?_
 refine yS ?_
 obtain ⟨x2, hx2, h⟩ := oL h
 refine yW<|ym rfl (cx .f32 a0 a1)<|yl rfl (f32 a1) (LOp.imag rfl rfl)<|yd rfl (f64 x2) (TOp.eqr (TOp.widen (src := 28) (dst := 40) ⟨_, pun28⟩ pun40 rfl (OpF.tmp rfl)) (congrArg (f .f64) hx2))<|ya rfl (f64 x2)<|zN ?_
 refine yS ?_
 obtain ⟨x3, hx3, h⟩ := oL h
 obtain ⟨x4, hx4, h⟩ := oL h
 obtain ⟨x5, hx5, h⟩ := oL h
 refine yW<|ym rfl (f64 x1)<|ym rfl (f64 x1)<|yd rfl (f64 x3) (TOp.eqr (TOp.fop (.inr (.inr (.inl rfl))) rfl (OpF.tmp rfl) (OpF.tmp rfl)) (congrArg (f .f64) hx3))<|ym rfl (f64 x2)<|ym rfl (f64 x2)<|yd rfl (f64 x4) (TOp.eqr (TOp.fop (.inr (.inr (.inl rfl))) rfl (OpF.tmp rfl) (OpF.tmp rfl)) (congrArg (f .f64) hx4))<|yd rfl (f64 x5) (TOp.eqr (TOp.fop (.inl rfl) rfl (OpF.tmp rfl) (OpF.tmp rfl)) (congrArg (f .f64) hx5))<|ya rfl (f64 x5)<|zN ?_
 refine RunC.ret ?_
 have hq := oI h
 subst q0
 exact bodyQ.pure (.inr rfl) rfl (Res.one rfl (RV.tmp rfl))
def x_math_Sqrt (a0 : F) : Option (F) :=
 olet (fsqrt a0) fun (x1 : F) =>
 some x1
theorem x_math_Sqrt_ok (a0 : F) (q0 : F) (h : x_math_Sqrt a0 = some q0) : Ev Try.prog 138 [f64 a0] [] (f64 q0) [] := by
 refine yE Try.func138 0 11 0 [(0, f64 a0)] [] rfl ?_
 unfold x_math_Sqrt at h
 refine zQ<|yl rfl (f64 (some 0)) (LOp.le (LOp.assign rfl rfl) (ALe.fl (by kernel_rfl) (by kernel_rfl)))<|zN ?_
 refine yS ?_
 obtain ⟨x1, hx1, h⟩ := oL h
 refine yW<|ym rfl (f64 a0)<|yd rfl (f64 x1) (TOp.eqr (TOp.fsqrt ext172 rfl (OpF.tmp rfl)) (congrArg (f .f64) hx1))<|ya rfl (f64 x1)<|zN ?_
 refine RunC.ret ?_
 have hq := oI h
 subst q0
 exact bodyQ.pure (.inr rfl) rfl (Res.one rfl (RV.tmp rfl))
def s_l01Narrow (a0 : F) : Option (F) :=
 obind (fnarrow a0) fun (y1 : F) =>
 some y1
theorem s_l01Narrow_ok (a0 : F) (q0 : F) (h : s_l01Narrow a0 = some q0) : Ev Try.prog 137 [f64 a0] [] (f32 q0) [] := by
 refine yE Try.func137 0 11 0 [(0, f64 a0)] [] rfl ?_
 unfold s_l01Narrow at h
 refine zQ<|yl rfl (f32 (some 0)) (LOp.le (LOp.assign rfl rfl) (ALe.fl (by kernel_rfl) (by kernel_rfl)))<|zN ?_
 refine yS ?_
 obtain ⟨y1, hy1, h⟩ := oS h
 refine yW<|ym rfl (f64 a0)<|yd rfl (f32 y1) (TOp.narrow (src := 40) (dst := 28) ⟨_, pun40⟩ pun28 rfl (OpF.tmp rfl) hy1)<|ya rfl (f32 y1)<|zN ?_
 refine RunC.ret ?_
 have hq := oI h
 subst q0
 exact bodyQ.pure (.inr rfl) rfl (Res.one rfl (RV.tmp rfl))
def s_l01Long (a0 : F) (a1 : F) : Option (F) :=
 obind (s_l01PowerWide a0 a1) fun (r1 : F) =>
 obind (x_math_Sqrt r1) fun (r2 : F) =>
 obind (s_l01Narrow r2) fun (r3 : F) =>
 some r3
theorem s_l01Long_ok (a0 : F) (a1 : F) (q0 : F) (h : s_l01Long a0 a1 = some q0) : Ev Try.prog 70 [cx .f32 a0 a1] [] (f32 q0) [] := by
 refine yE Try.func70 0 15 0 [(0, cx .f32 a0 a1)] [] rfl ?_
 unfold s_l01Long at h
 refine zQ<|yl rfl (f32 (some 0)) (LOp.le (LOp.assign rfl rfl) (ALe.fl (by kernel_rfl) (by kernel_rfl)))<|zN ?_
 refine yS ?_
 obtain ⟨r1, hf1, h⟩ := oS h
 obtain ⟨r2, hf2, h⟩ := oS h
 obtain ⟨r3, hf3, h⟩ := oS h
 refine yW<|ym rfl (cx .f32 a0 a1)<|yd rfl (f64 r1) (yc ent139 rfl rfl bN0 (s_l01PowerWide_ok a0 a1 r1 hf1))<|yd rfl (f64 r2) (yc ent138 rfl rfl bN0 (x_math_Sqrt_ok r1 r2 hf2))<|yd rfl (f32 r3) (yc ent137 rfl rfl bN0 (s_l01Narrow_ok r2 r3 hf3))<|ya rfl (f32 r3)<|zN ?_
 refine RunC.ret ?_
 have hq := oI h
 subst q0
 exact bodyQ.pure (.inr rfl) rfl (Res.one rfl (RV.tmp rfl))
def s_LongOf (a0 : F) (a1 : F) : Option (F) :=
 obind (s_l01Long a0 a1) fun (r1 : F) =>
 some r1
theorem s_LongOf_ok (a0 : F) (a1 : F) (q0 : F) (h : s_LongOf a0 a1 = some q0) : Ev Try.prog 17 [cx .f32 a0 a1] [] (f32 q0) [] := by
 refine yE Try.func17 0 11 0 [(0, cx .f32 a0 a1)] [] rfl ?_
 unfold s_LongOf at h
 refine zQ<|yl rfl (f32 (some 0)) (LOp.le (LOp.assign rfl rfl) (ALe.fl (by kernel_rfl) (by kernel_rfl)))<|zN ?_
 refine yS ?_
 obtain ⟨r1, hf1, h⟩ := oS h
 refine yW<|ym rfl (cx .f32 a0 a1)<|yd rfl (f32 r1) (yc ent70 rfl rfl bN0 (s_l01Long_ok a0 a1 r1 hf1))<|ya rfl (f32 r1)<|zN ?_
 refine RunC.ret ?_
 have hq := oI h
 subst q0
 exact bodyQ.pure (.inr rfl) rfl (Res.one rfl (RV.tmp rfl))
def w_b10FarRing_b1 (a0 : List (F × F)) (a1 : List (F × F)) (v1 : Int) : Option (LR (Int) (Unit) (Bool)) :=
 bsel (decide (v1 < (a0.length : Int))) (
  obind (at? a0 v1) fun (e2 : (F × F)) =>
  obind (at? a1 v1) fun (e3 : (F × F)) =>
  obind (s_LongOf (fop .sub .f32 e2.1 e3.1) (fop .sub .f32 e2.2 e3.2)) fun (r4 : F) =>
  olet (fwiden r4) fun (x5 : F) =>
  bsel (fle .f64 x5 (some 4562254508917369340)) (
   olet (IntKind.i64.wrap (v1 + 1)) fun (x6 : Int) =>
   some (LR.next x6)) (
   some (LR.ret true))) (
  some (LR.out ()))
def w_b10FarRing_s1 (a0 : List (F × F)) (a1 : List (F × F)) : (Int) → Option (LR (Int) (Unit) (Bool)) := fun s => w_b10FarRing_b1 a0 a1 s
def w_b10FarRing_k1  : Option (Bool) :=
 some false
def w_b10FarRing (a0 : List (F × F)) (a1 : List (F × F)) : Option (Bool) :=
 bsel (!decide ((a0.length : Int) = (a1.length : Int))) (
  some true) (
  obind (loopM (w_b10FarRing_s1 a0 a1) 0) fun z => osum z (fun _ => w_b10FarRing_k1) (fun r => some r))
theorem w_b10FarRing_ok (a0 : List (F × F)) (a1 : List (F × F)) (q0 : Bool) (h : w_b10FarRing a0 a1 = some q0) : Ev Try.prog 14 [sl a0.length (a0.map (cp .f32)), sl a1.length (a1.map (cp .f32))] [] (b q0) [] := by
 refine yE Try.func14 0 61 0 [(0, sl a0.length (a0.map (cp .f32))), (1, sl a1.length (a1.map (cp .f32)))] [] rfl ?_
 unfold w_b10FarRing at h
 refine zQ<|ya rfl (b false)<|zN ?_
 refine yS<|yS ?_
 rcases oB h with ⟨hc1, h⟩ | ⟨hc1, h⟩
 ·refine yW<|ym rfl (sl a0.length (a0.map (cp .f32)))<|yl rfl (i64 (a0.length : Int)) (LOp.len_sl und25 rfl rfl)<|ym rfl (sl a1.length (a1.map (cp .f32)))<|yl rfl (i64 (a1.length : Int)) (LOp.len_sl und25 rfl rfl)<|yl rfl (b true) (LOp.eqb (LOp.neq rfl rfl rfl) hc1)<|zN ?_
  refine yT<|zQ<|ya rfl (b true)<|zN ?_
  refine RunC.ret ?_
  have hq := oI h
  subst q0
  exact bodyQ.pure (.inr rfl) rfl (Res.one rfl (RV.tmp rfl))
 ·refine yW<|ym rfl (sl a0.length (a0.map (cp .f32)))<|yl rfl (i64 (a0.length : Int)) (LOp.len_sl und25 rfl rfl)<|ym rfl (sl a1.length (a1.map (cp .f32)))<|yl rfl (i64 (a1.length : Int)) (LOp.len_sl und25 rfl rfl)<|yl rfl (b false) (LOp.eqb (LOp.neq rfl rfl rfl) hc1)<|zN ?_
  refine yF<|RunC.skip<|yS<|zQ<|ym rfl (sl a0.length (a0.map (cp .f32)))<|yl rfl (i64 (a0.length : Int)) (LOp.len_sl und25 rfl rfl)<|ym rfl (i64 0)<|zN ?_
  obtain ⟨z2, hz_2, h⟩ := oS h
  refine RunC.cutN (fun τ Γ => WeakLe τ [] ∧ DeadLe Γ [] ∧ z2 = .inl ()) ?_ ?_
  ·refine RunC.block (RunC.loop (RunL.loopM (x := z2) (w_b10FarRing_s1 a0 a1) (fun (s : Int) τ Γ => WeakLe τ [(0, sl a0.length (a0.map (cp .f32))), (1, sl a1.length (a1.map (cp .f32))), (12, i64 (a0.length : Int)), (13, i64 s)] ∧ DeadLe Γ []) ?_ _ _ _ hz_2 ⟨⟨aR, aR, aR, aR, trivial⟩, trivial⟩))
   rintro v1 τ2 Γ2 y2_ ⟨hw2, hd2⟩ h2_ ho2 hr2
   refine RunC.wl (τ' := [(0, sl a0.length (a0.map (cp .f32))), (1, sl a1.length (a1.map (cp .f32))), (12, i64 (a0.length : Int)), (13, i64 v1)]) (Γ' := []) hw2 hd2 ?_
   replace h2_ : w_b10FarRing_b1 a0 a1 v1 = some y2_ := h2_
   unfold w_b10FarRing_b1 at h2_
   refine yS ?_
   rcases oB h2_ with ⟨hc2, h2_⟩ | ⟨hc2, h2_⟩
   ·refine yW<|yl rfl (b true) (LOp.eqb (LOp.lss rfl rfl rfl) hc2)<|zN ?_
    refine yS<|yT<|RunC.skip<|yS<|RunC.block<|zQ<|ym rfl (i64 v1)<|ya rfl (i64 v1)<|zN ?_
    refine yS ?_
    obtain ⟨e2, he3, h2_⟩ := oS h2_
    obtain ⟨e3, he4, h2_⟩ := oS h2_
    obtain ⟨r4, hf5, h2_⟩ := oS h2_
    obtain ⟨x5, hx6, h2_⟩ := oL h2_
    rcases oB h2_ with ⟨hc7, h2_⟩ | ⟨hc7, h2_⟩
    ·refine RunC.region_draw (Γ' := []) 13 mixed 
      (tm rfl (sl a0.length (a0.map (cp .f32))) <|
      (tm rfl (i64 v1) <|
      (tl rfl (ptr [cx .f32 e2.1 e2.2]) (LOp.le (LOp.ix (f := (cp .f32)) und25 siz27 rfl rfl rfl rfl he3) ALe.ptr) <|
      (tl rfl (cx .f32 e2.1 e2.2) (y2 agg27) <|
      (tm rfl (sl a1.length (a1.map (cp .f32))) <|
      (tm rfl (i64 v1) <|
      (tl rfl (ptr [cx .f32 e3.1 e3.2]) (LOp.le (LOp.ix (f := (cp .f32)) und25 siz27 rfl rfl rfl rfl he4) ALe.ptr) <|
      (tl rfl (cx .f32 e3.1 e3.2) (y2 agg27) <|
      (TR.d (r := cx .f32 (fop .sub .f32 e2.1 e3.1) (fop .sub .f32 e2.2 e3.2)) (fs := []) rfl rfl (TOp.csub rfl (OpC.tmp rfl) (OpC.tmp rfl)) <|
      (TR.d (r := f32 r4) (fs := []) rfl rfl (yc ent17 rfl rfl bN0 (s_LongOf_ok (fop .sub .f32 e2.1 e3.1) (fop .sub .f32 e2.2 e3.2) r4 hf5)) <|
      (TR.d (r := f64 x5) (fs := []) rfl rfl (TOp.eqr (TOp.widen (src := 28) (dst := 40) ⟨_, pun28⟩ pun40 rfl (OpF.tmp rfl)) (congrArg (f .f64) hx6)) <|
      (tl rfl (b true) (LOp.eqb (LOp.fle rfl (OpF.tmp rfl) (OpF.const rfl (by kernel_rfl) (by kernel_rfl))) hc7) <|
      (tl rfl (b false) (LOp.eqb (LOp.not rfl rfl) rfl) <|
      TR.nil))))))))))))) rfl (by kernel_rfl) rfl fills_nil rfl ?_
     iterate 13 refine ROps.dropS ?_
     refine ROps.drop0<|zN ?_
     refine RunC.wl (τ' := [(0, sl a0.length (a0.map (cp .f32))), (1, sl a1.length (a1.map (cp .f32))), (12, i64 (a0.length : Int)), (13, i64 v1), (28, b false)]) (Γ' := []) ⟨aR, aR, aR, aR, aR, trivial⟩ trivial<|yF<|RunC.skip ?_
     obtain ⟨x6, hx8, h2_⟩ := oL h2_
     refine yW<|yl rfl (i64 x6) (LOp.eqr (LOp.add rfl rfl rfl) (congrArg (ik .i64) hx8))<|ym rfl (i64 x6)<|zN ?_
     cases oI h2_
     exact ⟨_, rfl, ⟨aR, aR, aR, aR, trivial⟩, trivial⟩
    ·refine RunC.region_draw (Γ' := []) 13 mixed 
      (tm rfl (sl a0.length (a0.map (cp .f32))) <|
      (tm rfl (i64 v1) <|
      (tl rfl (ptr [cx .f32 e2.1 e2.2]) (LOp.le (LOp.ix (f := (cp .f32)) und25 siz27 rfl rfl rfl rfl he3) ALe.ptr) <|
      (tl rfl (cx .f32 e2.1 e2.2) (y2 agg27) <|
      (tm rfl (sl a1.length (a1.map (cp .f32))) <|
      (tm rfl (i64 v1) <|
      (tl rfl (ptr [cx .f32 e3.1 e3.2]) (LOp.le (LOp.ix (f := (cp .f32)) und25 siz27 rfl rfl rfl rfl he4) ALe.ptr) <|
      (tl rfl (cx .f32 e3.1 e3.2) (y2 agg27) <|
      (TR.d (r := cx .f32 (fop .sub .f32 e2.1 e3.1) (fop .sub .f32 e2.2 e3.2)) (fs := []) rfl rfl (TOp.csub rfl (OpC.tmp rfl) (OpC.tmp rfl)) <|
      (TR.d (r := f32 r4) (fs := []) rfl rfl (yc ent17 rfl rfl bN0 (s_LongOf_ok (fop .sub .f32 e2.1 e3.1) (fop .sub .f32 e2.2 e3.2) r4 hf5)) <|
      (TR.d (r := f64 x5) (fs := []) rfl rfl (TOp.eqr (TOp.widen (src := 28) (dst := 40) ⟨_, pun28⟩ pun40 rfl (OpF.tmp rfl)) (congrArg (f .f64) hx6)) <|
      (tl rfl (b false) (LOp.eqb (LOp.fle rfl (OpF.tmp rfl) (OpF.const rfl (by kernel_rfl) (by kernel_rfl))) hc7) <|
      (tl rfl (b true) (LOp.eqb (LOp.not rfl rfl) rfl) <|
      TR.nil))))))))))))) rfl (by kernel_rfl) rfl fills_nil rfl ?_
     iterate 13 refine ROps.dropS ?_
     refine ROps.drop0<|zN ?_
     refine RunC.wl (τ' := [(0, sl a0.length (a0.map (cp .f32))), (1, sl a1.length (a1.map (cp .f32))), (12, i64 (a0.length : Int)), (13, i64 v1), (28, b true)]) (Γ' := []) ⟨aR, aR, aR, aR, aR, trivial⟩ trivial<|yT<|zQ<|ya rfl (b true)<|zN ?_
     refine RunC.ret ?_
     cases oI h2_
     have hx3_ := hr2 _ rfl
     subst hx3_
     have hq := oI h
     subst q0
     exact bodyQ.pure (.inr rfl) rfl (Res.one rfl (RV.tmp rfl))
   ·refine yW<|yl rfl (b false) (LOp.eqb (LOp.lss rfl rfl rfl) hc2)<|zN ?_
    refine yS<|yF<|RunC.exit ?_
    cases oI h2_
    have hx := ho2 _ rfl
    exact ⟨trivial, trivial, hx⟩
  ·rintro τ4 Γ4 ⟨hw4, hd4, rfl⟩
   refine RunC.wl hw4 hd4 ?_
   replace h : w_b10FarRing_k1 = some q0 := h
   unfold w_b10FarRing_k1 at h
   refine zQ<|ya rfl (b false)<|zN ?_
   refine RunC.ret ?_
   have hq := oI h
   subst q0
   exact bodyQ.pure (.inr rfl) rfl (Res.one rfl (RV.tmp rfl))
def s_l00In (a0 : Int) (a1 : Int) (a2 : Int) : Option (Bool) :=
 bsel (decide (a1 ≤ a0)) (
  some (decide (a0 ≤ a2))) (
  some false)
theorem s_l00In_ok (a0 : Int) (a1 : Int) (a2 : Int) (q0 : Bool) (h : s_l00In a0 a1 a2 = some q0) : Ev Try.prog 170 [i64 a0, i64 a1, i64 a2] [] (b q0) [] := by
 refine yE Try.func170 0 31 0 [(0, i64 a0), (1, i64 a1), (2, i64 a2)] [] rfl ?_
 unfold s_l00In at h
 refine zQ<|ya rfl (b false)<|zN ?_
 refine yS ?_
 rcases oB h with ⟨hc1, h⟩ | ⟨hc1, h⟩
 ·refine yW<|ym rfl (i64 a0)<|ym rfl (i64 a1)<|yl rfl (b true) (LOp.eqb (LOp.geq rfl rfl rfl) hc1)<|ym rfl (b true)<|ym rfl (i64 a0)<|ym rfl (i64 a2)<|yl rfl (b (decide (a0 ≤ a2))) (LOp.leq rfl rfl rfl)<|yl rfl (b (decide (a0 ≤ a2))) yq<|ya rfl (b (decide (a0 ≤ a2)))<|zN ?_
  refine RunC.ret ?_
  have hq := oI h
  subst q0
  exact bodyQ.pure (.inr rfl) rfl (Res.one rfl (RV.tmp rfl))
 ·refine yW<|ym rfl (i64 a0)<|ym rfl (i64 a1)<|yl rfl (b false) (LOp.eqb (LOp.geq rfl rfl rfl) hc1)<|ym rfl (b false)<|ROps.s rfl rfl rfl<|ROps.s rfl rfl rfl<|ROps.s rfl rfl rfl<|yl rfl (b false) yp<|ya rfl (b false)<|zN ?_
  refine RunC.ret ?_
  have hq := oI h
  subst q0
  exact bodyQ.pure (.inr rfl) rfl (Res.one rfl (RV.tmp rfl))
def s_l02Sides (a0 : Int) (a1 : Int) : Option (Bool) :=
 obind (s_l00In a0 1 12) fun (r1 : Bool) =>
 bsel r1 (
  obind (s_l00In a1 1 12) fun (r2 : Bool) =>
  some r2) (
  some false)
theorem s_l02Sides_ok (a0 : Int) (a1 : Int) (q0 : Bool) (h : s_l02Sides a0 a1 = some q0) : Ev Try.prog 134 [i64 a0, i64 a1] [] (b q0) [] := by
 refine yE Try.func134 0 23 0 [(0, i64 a0), (1, i64 a1)] [] rfl ?_
 unfold s_l02Sides at h
 refine zQ<|ya rfl (b false)<|zN ?_
 refine yS ?_
 obtain ⟨r1, hf1, h⟩ := oS h
 rcases oB h with ⟨hc2, h⟩ | ⟨hc2, h⟩
 ·obtain ⟨r2, hf3, h⟩ := oS h
  refine yW<|ym rfl (i64 a0)<|yd rfl (b true) (TOp.eqb (yc ent170 rfl rfl (bP (bP bN0)) (s_l00In_ok a0 1 12 r1 hf1)) hc2)<|ym rfl (b true)<|ym rfl (i64 a1)<|yd rfl (b r2) (yc ent170 rfl rfl (bP (bP bN0)) (s_l00In_ok a1 1 12 r2 hf3))<|yl rfl (b r2) yq<|ya rfl (b r2)<|zN ?_
  refine RunC.ret ?_
  have hq := oI h
  subst q0
  exact bodyQ.pure (.inr rfl) rfl (Res.one rfl (RV.tmp rfl))
 ·refine yW<|ym rfl (i64 a0)<|yd rfl (b false) (TOp.eqb (yc ent170 rfl rfl (bP (bP bN0)) (s_l00In_ok a0 1 12 r1 hf1)) hc2)<|ym rfl (b false)<|ROps.s rfl rfl rfl<|ROps.s rfl rfl rfl<|yl rfl (b false) yp<|ya rfl (b false)<|zN ?_
  refine RunC.ret ?_
  have hq := oI h
  subst q0
  exact bodyQ.pure (.inr rfl) rfl (Res.one rfl (RV.tmp rfl))
def s_l01Finite (a0 : F) : Option (Bool) :=
 olet (fop .sub .f32 a0 a0) fun (x1 : F) =>
 some (feq .f32 x1 (some 0))
theorem s_l01Finite_ok (a0 : F) (q0 : Bool) (h : s_l01Finite a0 = some q0) : Ev Try.prog 171 [f32 a0] [] (b q0) [] := by
 refine yE Try.func171 0 15 0 [(0, f32 a0)] [] rfl ?_
 unfold s_l01Finite at h
 refine zQ<|ya rfl (b false)<|zN ?_
 refine yS ?_
 obtain ⟨x1, hx1, h⟩ := oL h
 refine yW<|ym rfl (f32 a0)<|ym rfl (f32 a0)<|yd rfl (f32 x1) (TOp.eqr (TOp.fop (.inr (.inl rfl)) rfl (OpF.tmp rfl) (OpF.tmp rfl)) (congrArg (f .f32) hx1))<|yl rfl (b (feq .f32 x1 (some 0))) (LOp.feq rfl (OpF.tmp rfl) (OpF.const rfl (by kernel_rfl) (by kernel_rfl)))<|ya rfl (b (feq .f32 x1 (some 0)))<|zN ?_
 refine RunC.ret ?_
 have hq := oI h
 subst q0
 exact bodyQ.pure (.inr rfl) rfl (Res.one rfl (RV.tmp rfl))
def s_l02Finite_b1 (a0 : List F) (v1 : Int) : Option (LR (Int) (Unit) (Bool)) :=
 bsel (decide (v1 < (a0.length : Int))) (
  obind (at? a0 v1) fun (e2 : F) =>
  obind (s_l01Finite e2) fun (r3 : Bool) =>
  bsel r3 (
   olet (IntKind.i64.wrap (v1 + 1)) fun (x4 : Int) =>
   some (LR.next x4)) (
   some (LR.ret false))) (
  some (LR.out ()))
def s_l02Finite_s1 (a0 : List F) : (Int) → Option (LR (Int) (Unit) (Bool)) := fun s => s_l02Finite_b1 a0 s
def s_l02Finite_k1  : Option (Bool) :=
 some true
def s_l02Finite (a0 : List F) : Option (Bool) :=
 obind (loopM (s_l02Finite_s1 a0) 0) fun z => osum z (fun _ => s_l02Finite_k1) (fun r => some r)
theorem s_l02Finite_ok (a0 : List F) (q0 : Bool) (h : s_l02Finite a0 = some q0) : Ev Try.prog 135 [(sFc a0)] [] (b q0) [] := by
 refine yE Try.func135 0 33 0 [(0, (sFc a0))] [] rfl ?_
 unfold s_l02Finite at h
 refine zQ<|ya rfl (b false)<|zN ?_
 refine yS<|zQ<|ya rfl (i64 0)<|zN ?_
 obtain ⟨z2, hz_2, h⟩ := oS h
 refine RunC.cutN (fun τ Γ => WeakLe τ [] ∧ DeadLe Γ [] ∧ z2 = .inl ()) ?_ ?_
 ·refine RunC.block (RunC.loop (RunL.loopM (x := z2) (s_l02Finite_s1 a0) (fun (s : Int) τ Γ => WeakLe τ [(0, (sFc a0)), (3, i64 s)] ∧ DeadLe Γ []) ?_ _ _ _ hz_2 ⟨⟨aR, aR, trivial⟩, trivial⟩))
  rintro v1 τ2 Γ2 y2_ ⟨hw2, hd2⟩ h2_ ho2 hr2
  refine RunC.wl (τ' := [(0, (sFc a0)), (3, i64 v1)]) (Γ' := []) hw2 hd2 ?_
  replace h2_ : s_l02Finite_b1 a0 v1 = some y2_ := h2_
  unfold s_l02Finite_b1 at h2_
  refine yS<|yS ?_
  rcases oB h2_ with ⟨hc1, h2_⟩ | ⟨hc1, h2_⟩
  ·refine yW<|ym rfl (i64 v1)<|ym rfl (sFc a0)<|yl rfl (i64 (a0.length : Int)) (LOp.len_sl und26 rfl rfl)<|yl rfl (b true) (LOp.eqb (LOp.lss rfl rfl rfl) hc1)<|zN ?_
   refine yT<|RunC.skip<|yS<|RunC.block<|yS ?_
   obtain ⟨e2, he2, h2_⟩ := oS h2_
   obtain ⟨r3, hf3, h2_⟩ := oS h2_
   rcases oB h2_ with ⟨hc4, h2_⟩ | ⟨hc4, h2_⟩
   ·refine yW<|ym rfl (sFc a0)<|ym rfl (i64 v1)<|yl rfl (ptr [f32 e2]) (LOp.le (LOp.ix (f := f32) und26 siz28 rfl rfl rfl rfl he2) ALe.ptr)<|yl rfl (f32 e2) (y2 agg28)<|yd rfl (b true) (TOp.eqb (yc ent171 rfl rfl bN0 (s_l01Finite_ok e2 r3 hf3)) hc4)<|yl rfl (b false) y1<|zN ?_
    refine yF<|RunC.skip ?_
    obtain ⟨x4, hx5, h2_⟩ := oL h2_
    refine yW<|ym rfl (i64 v1)<|yl rfl (i64 x4) (LOp.eqr (LOp.add rfl rfl rfl) (congrArg (ik .i64) hx5))<|ya rfl (i64 x4)<|zN ?_
    cases oI h2_
    exact ⟨_, rfl, ⟨aR, aR, trivial⟩, trivial⟩
   ·refine yW<|ym rfl (sFc a0)<|ym rfl (i64 v1)<|yl rfl (ptr [f32 e2]) (LOp.le (LOp.ix (f := f32) und26 siz28 rfl rfl rfl rfl he2) ALe.ptr)<|yl rfl (f32 e2) (y2 agg28)<|yd rfl (b false) (TOp.eqb (yc ent171 rfl rfl bN0 (s_l01Finite_ok e2 r3 hf3)) hc4)<|yl rfl (b true) y0<|zN ?_
    refine yT<|zQ<|ya rfl (b false)<|zN ?_
    refine RunC.ret ?_
    cases oI h2_
    have hx3_ := hr2 _ rfl
    subst hx3_
    have hq := oI h
    subst q0
    exact bodyQ.pure (.inr rfl) rfl (Res.one rfl (RV.tmp rfl))
  ·refine yW<|ym rfl (i64 v1)<|ym rfl (sFc a0)<|yl rfl (i64 (a0.length : Int)) (LOp.len_sl und26 rfl rfl)<|yl rfl (b false) (LOp.eqb (LOp.lss rfl rfl rfl) hc1)<|zN ?_
   refine yF<|RunC.exit ?_
   cases oI h2_
   have hx := ho2 _ rfl
   exact ⟨trivial, trivial, hx⟩
 ·rintro τ4 Γ4 ⟨hw4, hd4, rfl⟩
  refine RunC.wl hw4 hd4 ?_
  replace h : s_l02Finite_k1 = some q0 := h
  unfold s_l02Finite_k1 at h
  refine zQ<|ya rfl (b true)<|zN ?_
  refine RunC.ret ?_
  have hq := oI h
  subst q0
  exact bodyQ.pure (.inr rfl) rfl (Res.one rfl (RV.tmp rfl))
def s_l02Is (a0 : Int) (a1 : Int) (a2 : List F) : Option (Bool) :=
 obind (s_l02Sides a0 a1) fun (r1 : Bool) =>
 bsel r1 (
  olet (IntKind.i64.wrap (a0 * a1)) fun (x2 : Int) =>
  bsel (decide ((a2.length : Int) = x2)) (
   obind (s_l02Finite a2) fun (r3 : Bool) =>
   some r3) (
   some false)) (
  some false)
theorem s_l02Is_ok (a0 : Int) (a1 : Int) (a2 : List F) (q0 : Bool) (h : s_l02Is a0 a1 a2 = some q0) : Ev Try.prog 66 [ptr (mXc a0 a1 a2)] [] (b q0) [] := by
 refine yE Try.func66 0 73 0 [(0, ptr (mXc a0 a1 a2))] [] rfl ?_
 unfold s_l02Is at h
 refine zQ<|ya rfl (b false)<|zN ?_
 refine yS ?_
 obtain ⟨r1, hf1, h⟩ := oS h
 rcases oB h with ⟨hc2, h⟩ | ⟨hc2, h⟩
 ·obtain ⟨x2, hx3, h⟩ := oL h
  rcases oB h with ⟨hc4, h⟩ | ⟨hc4, h⟩
  ·obtain ⟨r3, hf5, h⟩ := oS h
   refine RunC.region_draw (Γ' := []) 34 mixed 
    (tm rfl (ptr (mXc a0 a1 a2)) <|
    (tl rfl (ptr (mXc a0 a1 a2)) (LOp.nilCheck_ptr rfl rfl) <|
    (tl rfl (ptr (mXc a0 a1 a2)) (LOp.fap und33 rfl siz2 rfl rfl rfl) <|
    (tl rfl (i64 a0) (y2 agg2) <|
    (tm rfl (ptr (mXc a0 a1 a2)) <|
    (tl rfl (ptr (mXc a0 a1 a2)) (LOp.nilCheck_ptr rfl rfl) <|
    (tl rfl (ptr [i64 a1, (sFc a2)]) (LOp.fap und33 rfl siz2 rfl rfl rfl) <|
    (tl rfl (i64 a1) (y2 agg2) <|
    (TR.d (r := b true) (fs := []) rfl rfl (TOp.eqb (yc ent134 rfl rfl (bP bN0) (s_l02Sides_ok a0 a1 r1 hf1)) hc2) <|
    (tm rfl (b true) <|
    (tm rfl (ptr (mXc a0 a1 a2)) <|
    (tl rfl (ptr (mXc a0 a1 a2)) (LOp.nilCheck_ptr rfl rfl) <|
    (tl rfl (ptr [(sFc a2)]) (LOp.fap und33 rfl siz26 rfl rfl rfl) <|
    (tl rfl (sFc a2) (y2 agg26) <|
    (tl rfl (i64 (a2.length : Int)) (LOp.len_sl und26 rfl rfl) <|
    (tm rfl (ptr (mXc a0 a1 a2)) <|
    (tl rfl (ptr (mXc a0 a1 a2)) (LOp.nilCheck_ptr rfl rfl) <|
    (tl rfl (ptr (mXc a0 a1 a2)) (LOp.fap und33 rfl siz2 rfl rfl rfl) <|
    (tl rfl (i64 a0) (y2 agg2) <|
    (tm rfl (ptr (mXc a0 a1 a2)) <|
    (tl rfl (ptr (mXc a0 a1 a2)) (LOp.nilCheck_ptr rfl rfl) <|
    (tl rfl (ptr [i64 a1, (sFc a2)]) (LOp.fap und33 rfl siz2 rfl rfl rfl) <|
    (tl rfl (i64 a1) (y2 agg2) <|
    (tl rfl (i64 x2) (LOp.eqr (LOp.mul rfl rfl rfl) (congrArg (ik .i64) hx3)) <|
    (tl rfl (b true) (LOp.eqb (LOp.eql rfl rfl rfl) hc4) <|
    (tl rfl (b true) yq <|
    (tm rfl (b true) <|
    (tm rfl (ptr (mXc a0 a1 a2)) <|
    (tl rfl (ptr (mXc a0 a1 a2)) (LOp.nilCheck_ptr rfl rfl) <|
    (tl rfl (ptr [(sFc a2)]) (LOp.fap und33 rfl siz26 rfl rfl rfl) <|
    (tl rfl (sFc a2) (y2 agg26) <|
    (TR.d (r := b r3) (fs := []) rfl rfl (yc ent135 rfl rfl (bS bN) (s_l02Finite_ok a2 r3 hf5)) <|
    (tl rfl (b r3) yq <|
    (tl rfl (b r3) (LOp.assign rfl rfl) <|
    TR.nil)))))))))))))))))))))))))))))))))) rfl (by kernel_rfl) rfl fills_nil rfl ?_
   iterate 34 refine ROps.dropS ?_
   refine ROps.drop0<|zN ?_
   refine RunC.ret ?_
   have hq := oI h
   subst q0
   exact bodyQ.pure (.inr rfl) rfl (Res.one rfl (RV.tmp rfl))
  ·refine RunC.region_draw (Γ' := []) 34 mixed 
    (tm rfl (ptr (mXc a0 a1 a2)) <|
    (tl rfl (ptr (mXc a0 a1 a2)) (LOp.nilCheck_ptr rfl rfl) <|
    (tl rfl (ptr (mXc a0 a1 a2)) (LOp.fap und33 rfl siz2 rfl rfl rfl) <|
    (tl rfl (i64 a0) (y2 agg2) <|
    (tm rfl (ptr (mXc a0 a1 a2)) <|
    (tl rfl (ptr (mXc a0 a1 a2)) (LOp.nilCheck_ptr rfl rfl) <|
    (tl rfl (ptr [i64 a1, (sFc a2)]) (LOp.fap und33 rfl siz2 rfl rfl rfl) <|
    (tl rfl (i64 a1) (y2 agg2) <|
    (TR.d (r := b true) (fs := []) rfl rfl (TOp.eqb (yc ent134 rfl rfl (bP bN0) (s_l02Sides_ok a0 a1 r1 hf1)) hc2) <|
    (tm rfl (b true) <|
    (tm rfl (ptr (mXc a0 a1 a2)) <|
    (tl rfl (ptr (mXc a0 a1 a2)) (LOp.nilCheck_ptr rfl rfl) <|
    (tl rfl (ptr [(sFc a2)]) (LOp.fap und33 rfl siz26 rfl rfl rfl) <|
    (tl rfl (sFc a2) (y2 agg26) <|
    (tl rfl (i64 (a2.length : Int)) (LOp.len_sl und26 rfl rfl) <|
    (tm rfl (ptr (mXc a0 a1 a2)) <|
    (tl rfl (ptr (mXc a0 a1 a2)) (LOp.nilCheck_ptr rfl rfl) <|
    (tl rfl (ptr (mXc a0 a1 a2)) (LOp.fap und33 rfl siz2 rfl rfl rfl) <|
    (tl rfl (i64 a0) (y2 agg2) <|
    (tm rfl (ptr (mXc a0 a1 a2)) <|
    (tl rfl (ptr (mXc a0 a1 a2)) (LOp.nilCheck_ptr rfl rfl) <|
    (tl rfl (ptr [i64 a1, (sFc a2)]) (LOp.fap und33 rfl siz2 rfl rfl rfl) <|
    (tl rfl (i64 a1) (y2 agg2) <|
    (tl rfl (i64 x2) (LOp.eqr (LOp.mul rfl rfl rfl) (congrArg (ik .i64) hx3)) <|
    (tl rfl (b false) (LOp.eqb (LOp.eql rfl rfl rfl) hc4) <|
    (tl rfl (b false) yq <|
    (tm rfl (b false) <|
    (ts rfl <|
    (ts rfl <|
    (ts rfl <|
    (ts rfl <|
    (ts rfl <|
    (tl rfl (b false) yp <|
    (tl rfl (b false) (LOp.assign rfl rfl) <|
    TR.nil)))))))))))))))))))))))))))))))))) rfl (by kernel_rfl) rfl fills_nil rfl ?_
   iterate 34 refine ROps.dropS ?_
   refine ROps.drop0<|zN ?_
   refine RunC.ret ?_
   have hq := oI h
   subst q0
   exact bodyQ.pure (.inr rfl) rfl (Res.one rfl (RV.tmp rfl))
 ·refine RunC.region_draw (Γ' := []) 34 mixed 
   (tm rfl (ptr (mXc a0 a1 a2)) <|
   (tl rfl (ptr (mXc a0 a1 a2)) (LOp.nilCheck_ptr rfl rfl) <|
   (tl rfl (ptr (mXc a0 a1 a2)) (LOp.fap und33 rfl siz2 rfl rfl rfl) <|
   (tl rfl (i64 a0) (y2 agg2) <|
   (tm rfl (ptr (mXc a0 a1 a2)) <|
   (tl rfl (ptr (mXc a0 a1 a2)) (LOp.nilCheck_ptr rfl rfl) <|
   (tl rfl (ptr [i64 a1, (sFc a2)]) (LOp.fap und33 rfl siz2 rfl rfl rfl) <|
   (tl rfl (i64 a1) (y2 agg2) <|
   (TR.d (r := b false) (fs := []) rfl rfl (TOp.eqb (yc ent134 rfl rfl (bP bN0) (s_l02Sides_ok a0 a1 r1 hf1)) hc2) <|
   (tm rfl (b false) <|
   (ts rfl <|
   (ts rfl <|
   (ts rfl <|
   (ts rfl <|
   (ts rfl <|
   (ts rfl <|
   (ts rfl <|
   (ts rfl <|
   (ts rfl <|
   (ts rfl <|
   (ts rfl <|
   (ts rfl <|
   (ts rfl <|
   (ts rfl <|
   (ts rfl <|
   (tl rfl (b false) yp <|
   (tm rfl (b false) <|
   (ts rfl <|
   (ts rfl <|
   (ts rfl <|
   (ts rfl <|
   (ts rfl <|
   (tl rfl (b false) yp <|
   (tl rfl (b false) (LOp.assign rfl rfl) <|
   TR.nil)))))))))))))))))))))))))))))))))) rfl (by kernel_rfl) rfl fills_nil rfl ?_
  iterate 34 refine ROps.dropS ?_
  refine ROps.drop0<|zN ?_
  refine RunC.ret ?_
  have hq := oI h
  subst q0
  exact bodyQ.pure (.inr rfl) rfl (Res.one rfl (RV.tmp rfl))
def s_l02Vector (a0 : List F) : Option (Bool) :=
 bsel (decide (1 ≤ (a0.length : Int))) (
  bsel (decide ((a0.length : Int) ≤ 256)) (
   obind (s_l02Finite a0) fun (r1 : Bool) =>
   some r1) (
   some false)) (
  some false)
theorem s_l02Vector_ok (a0 : List F) (q0 : Bool) (h : s_l02Vector a0 = some q0) : Ev Try.prog 67 [(sFc a0)] [] (b q0) [] := by
 refine yE Try.func67 0 31 0 [(0, (sFc a0))] [] rfl ?_
 unfold s_l02Vector at h
 refine zQ<|ya rfl (b false)<|zN ?_
 refine yS ?_
 rcases oB h with ⟨hc1, h⟩ | ⟨hc1, h⟩
 ·rcases oB h with ⟨hc2, h⟩ | ⟨hc2, h⟩
  ·obtain ⟨r1, hf3, h⟩ := oS h
   refine yW<|ym rfl (sFc a0)<|yl rfl (i64 (a0.length : Int)) (LOp.len_sl und26 rfl rfl)<|yl rfl (b true) (LOp.eqb (LOp.geq rfl rfl rfl) hc1)<|ym rfl (b true)<|ym rfl (sFc a0)<|yl rfl (i64 (a0.length : Int)) (LOp.len_sl und26 rfl rfl)<|yl rfl (b true) (LOp.eqb (LOp.leq rfl rfl rfl) hc2)<|yl rfl (b true) yq<|ym rfl (b true)<|ym rfl (sFc a0)<|yd rfl (b r1) (yc ent135 rfl rfl (bS bN) (s_l02Finite_ok a0 r1 hf3))<|yl rfl (b r1) yq<|ya rfl (b r1)<|zN ?_
   refine RunC.ret ?_
   have hq := oI h
   subst q0
   exact bodyQ.pure (.inr rfl) rfl (Res.one rfl (RV.tmp rfl))
  ·refine yW<|ym rfl (sFc a0)<|yl rfl (i64 (a0.length : Int)) (LOp.len_sl und26 rfl rfl)<|yl rfl (b true) (LOp.eqb (LOp.geq rfl rfl rfl) hc1)<|ym rfl (b true)<|ym rfl (sFc a0)<|yl rfl (i64 (a0.length : Int)) (LOp.len_sl und26 rfl rfl)<|yl rfl (b false) (LOp.eqb (LOp.leq rfl rfl rfl) hc2)<|yl rfl (b false) yq<|ym rfl (b false)<|ROps.s rfl rfl rfl<|ROps.s rfl rfl rfl<|yl rfl (b false) yp<|ya rfl (b false)<|zN ?_
   refine RunC.ret ?_
   have hq := oI h
   subst q0
   exact bodyQ.pure (.inr rfl) rfl (Res.one rfl (RV.tmp rfl))
 ·refine yW<|ym rfl (sFc a0)<|yl rfl (i64 (a0.length : Int)) (LOp.len_sl und26 rfl rfl)<|yl rfl (b false) (LOp.eqb (LOp.geq rfl rfl rfl) hc1)<|ym rfl (b false)<|ROps.s rfl rfl rfl<|ROps.s rfl rfl rfl<|ROps.s rfl rfl rfl<|yl rfl (b false) yp<|ym rfl (b false)<|ROps.s rfl rfl rfl<|ROps.s rfl rfl rfl<|yl rfl (b false) yp<|ya rfl (b false)<|zN ?_
  refine RunC.ret ?_
  have hq := oI h
  subst q0
  exact bodyQ.pure (.inr rfl) rfl (Res.one rfl (RV.tmp rfl))
def s_l02Dot_b1 (a0 : List F) (a1 : List F) (y1 : F) (v2 : Int) : Option (LR (F × Int) (F) (F)) :=
 bsel (decide (v2 < (a0.length : Int))) (
  obind (at? a0 v2) fun (e3 : F) =>
  obind (at? a1 v2) fun (e4 : F) =>
  olet (fop .mul .f32 e3 e4) fun (x5 : F) =>
  olet (fop .add .f32 y1 x5) fun (x6 : F) =>
  olet (IntKind.i64.wrap (v2 + 1)) fun (x7 : Int) =>
  some (LR.next (x6, x7))) (
  some (LR.out y1))
def s_l02Dot_s1 (a0 : List F) (a1 : List F) : (F × Int) → Option (LR (F × Int) (F) (F)) := fun s => s_l02Dot_b1 a0 a1 s.1 s.2
def s_l02Dot_k1 (y8 : F) : Option (F) :=
 some y8
def s_l02Dot (a0 : List F) (a1 : List F) : Option (F) :=
 obind (loopM (s_l02Dot_s1 a0 a1) (some 0, 0)) fun z => osum z (fun e => s_l02Dot_k1 e) (fun r => some r)
theorem s_l02Dot_ok (a0 : List F) (a1 : List F) (q0 : F) (h : s_l02Dot a0 a1 = some q0) : Ev Try.prog 136 [(sFc a0), (sFc a1)] [] (f32 q0) [] := by
 refine yE Try.func136 0 51 0 [(0, (sFc a0)), (1, (sFc a1))] [] rfl ?_
 unfold s_l02Dot at h
 refine zQ<|yl rfl (f32 (some 0)) (LOp.le (LOp.assign rfl rfl) (ALe.fl (by kernel_rfl) (by kernel_rfl)))<|zN ?_
 refine zQ<|yl rfl (f32 (some 0)) (LOp.le (LOp.assign rfl rfl) (ALe.fl (by kernel_rfl) (by kernel_rfl)))<|zN ?_
 refine yS<|zQ<|ya rfl (i64 0)<|zN ?_
 obtain ⟨z2, hz_2, h⟩ := oS h
 refine RunC.cutN (fun τ Γ => ∃ (y8 : F), WeakLe τ [(5, f32 y8)] ∧ DeadLe Γ [] ∧ z2 = .inl y8) ?_ ?_
 ·refine RunC.block (RunC.loop (RunL.loopM (x := z2) (s_l02Dot_s1 a0 a1) (fun (s : F × Int) τ Γ => WeakLe τ [(0, (sFc a0)), (1, (sFc a1)), (5, f32 s.1), (6, i64 s.2)] ∧ DeadLe Γ []) ?_ _ _ _ hz_2 ⟨⟨aR, aR, aR, aR, trivial⟩, trivial⟩))
  rintro ⟨y1, v2⟩ τ2 Γ2 y2_ ⟨hw2, hd2⟩ h2_ ho2 hr2
  refine RunC.wl (τ' := [(0, (sFc a0)), (1, (sFc a1)), (5, f32 y1), (6, i64 v2)]) (Γ' := []) hw2 hd2 ?_
  replace h2_ : s_l02Dot_b1 a0 a1 y1 v2 = some y2_ := h2_
  unfold s_l02Dot_b1 at h2_
  refine yS<|yS ?_
  rcases oB h2_ with ⟨hc1, h2_⟩ | ⟨hc1, h2_⟩
  ·refine yW<|ym rfl (i64 v2)<|ym rfl (sFc a0)<|yl rfl (i64 (a0.length : Int)) (LOp.len_sl und26 rfl rfl)<|yl rfl (b true) (LOp.eqb (LOp.lss rfl rfl rfl) hc1)<|zN ?_
   refine yT<|RunC.skip<|yS<|RunC.block ?_
   obtain ⟨e3, he2, h2_⟩ := oS h2_
   obtain ⟨e4, he3, h2_⟩ := oS h2_
   obtain ⟨x5, hx4, h2_⟩ := oL h2_
   obtain ⟨x6, hx5, h2_⟩ := oL h2_
   refine RunC.region_draw (Γ' := []) 12 mixed 
    (tm rfl (f32 y1) <|
    (tm rfl (sFc a0) <|
    (tm rfl (i64 v2) <|
    (tl rfl (ptr [f32 e3]) (LOp.le (LOp.ix (f := f32) und26 siz28 rfl rfl rfl rfl he2) ALe.ptr) <|
    (tl rfl (f32 e3) (y2 agg28) <|
    (tm rfl (sFc a1) <|
    (tm rfl (i64 v2) <|
    (tl rfl (ptr [f32 e4]) (LOp.le (LOp.ix (f := f32) und26 siz28 rfl rfl rfl rfl he3) ALe.ptr) <|
    (tl rfl (f32 e4) (y2 agg28) <|
    (TR.d (r := f32 x5) (fs := []) rfl rfl (TOp.eqr (TOp.fop (.inr (.inr (.inl rfl))) rfl (OpF.tmp rfl) (OpF.tmp rfl)) (congrArg (f .f32) hx4)) <|
    (TR.d (r := f32 x6) (fs := []) rfl rfl (TOp.eqr (TOp.fop (.inl rfl) rfl (OpF.tmp rfl) (OpF.tmp rfl)) (congrArg (f .f32) hx5)) <|
    (tl rfl (f32 x6) (LOp.assign rfl rfl) <|
    TR.nil)))))))))))) rfl (by kernel_rfl) rfl fills_nil rfl ?_
   iterate 12 refine ROps.dropS ?_
   refine ROps.drop0<|zN ?_
   refine RunC.wl (τ' := [(0, (sFc a0)), (1, (sFc a1)), (5, f32 x6), (6, i64 v2)]) (Γ' := []) ⟨aR, aR, aR, aR, trivial⟩ trivial ?_
   obtain ⟨x7, hx6, h2_⟩ := oL h2_
   refine yW<|ym rfl (i64 v2)<|yl rfl (i64 x7) (LOp.eqr (LOp.add rfl rfl rfl) (congrArg (ik .i64) hx6))<|ya rfl (i64 x7)<|zN ?_
   cases oI h2_
   exact ⟨_, rfl, ⟨aR, aR, aR, aR, trivial⟩, trivial⟩
  ·refine yW<|ym rfl (i64 v2)<|ym rfl (sFc a0)<|yl rfl (i64 (a0.length : Int)) (LOp.len_sl und26 rfl rfl)<|yl rfl (b false) (LOp.eqb (LOp.lss rfl rfl rfl) hc1)<|zN ?_
   refine yF<|RunC.exit ?_
   cases oI h2_
   have hx := ho2 _ rfl
   exact ⟨y1, ⟨aR, trivial⟩, trivial, hx⟩
 ·rintro τ3 Γ3 ⟨y8, hw3, hd3, rfl⟩
  refine RunC.wl hw3 hd3 ?_
  replace h : s_l02Dot_k1 y8 = some q0 := h
  unfold s_l02Dot_k1 at h
  refine zQ<|ym rfl (f32 y8)<|ya rfl (f32 y8)<|zN ?_
  refine RunC.ret ?_
  have hq := oI h
  subst q0
  exact bodyQ.pure (.inr rfl) rfl (Res.one rfl (RV.tmp rfl))
def s_l02Times_b1 (a0 : Int) (a1 : Int) (a2 : List F) (a3 : List F) (L3 : List F) (v4 : Int) : Option (LR ((List F) × Int) ((List F)) ((List F))) :=
 bsel (decide (v4 < a0)) (
  olet (IntKind.i64.wrap (v4 * a1)) fun (x5 : Int) =>
  olet (IntKind.i64.wrap (v4 + 1)) fun (x6 : Int) =>
  olet (IntKind.i64.wrap (x6 * a1)) fun (x7 : Int) =>
  obind (sub? a2 x5 x7) fun (l8 : List F) =>
  obind (s_l02Dot l8 a3) fun (r9 : F) =>
  need (apok 4 L3.length 1) <|
  olet (IntKind.i64.wrap (v4 + 1)) fun (x10 : Int) =>
  some (LR.next ((L3 ++ ([r9] : List F)), x10))) (
  some (LR.out L3))
def s_l02Times_s1 (a0 : Int) (a1 : Int) (a2 : List F) (a3 : List F) : ((List F) × Int) → Option (LR ((List F) × Int) ((List F)) ((List F))) := fun s => s_l02Times_b1 a0 a1 a2 a3 s.1 s.2
def s_l02Times_k1 (L13 : List F) : Option ((List F)) :=
 some L13
def s_l02Times (a0 : Int) (a1 : Int) (a2 : List F) (a3 : List F) : Option ((List F)) :=
 obind (loopM (s_l02Times_s1 a0 a1 a2 a3) (([] : List F), 0)) fun z => osum z (fun e => s_l02Times_k1 e) (fun r => some r)
theorem s_l02Times_ok (a0 : Int) (a1 : Int) (a2 : List F) (a3 : List F) (q0 : List F) (h : s_l02Times a0 a1 a2 a3 = some q0) : Ev Try.prog 69 [ptr (mXc a0 a1 a2), (sFc a3)] [] (oref 0 0 0 q0.length) [⟨0, some (q0.map f32)⟩] := by
 refine yE Try.func69 2 81 0 [(0, ptr (mXc a0 a1 a2)), (1, (sFc a3))] [⟨0, none⟩, ⟨0, none⟩] rfl ?_
 unfold s_l02Times at h
 refine zQ<|ya rfl nilsl<|zN ?_
 refine zQ<|ye rfl (oref 0 1 0 0) ([⟨1, some (([] : List F).map f32)⟩, ⟨0, none⟩]) (TOp.buildSlice_o (g := ⟨0, none⟩) (za := f32 (some 0)) (qs := []) 0 rfl und26 siz28 zer28 rfl zel28 rfl rfl trivial rfl)<|ya rfl (oref 0 1 0 0)<|zN ?_
 refine yS<|zQ<|ya rfl (i64 0)<|zN ?_
 obtain ⟨z2, hz_2, h⟩ := oS h
 refine RunC.cutN (fun τ Γ => ∃ (L13 : List F) (u11 : Nat) (u12 : Nat), WeakLe τ [(5, oref 0 u11 0 L13.length)] ∧ DeadLe Γ [⟨u11, some (L13.map f32)⟩, ⟨u12, none⟩] ∧ z2 = .inl L13) ?_ ?_
 ·refine RunC.block (RunC.loop (RunL.loopM (x := z2) (s_l02Times_s1 a0 a1 a2 a3) (fun (s : (List F) × Int) τ Γ => ∃ (u1 : Nat) (u2 : Nat), WeakLe τ [(0, ptr (mXc a0 a1 a2)), (1, (sFc a3)), (5, oref 0 u1 0 s.1.length), (6, i64 s.2)] ∧ DeadLe Γ [⟨u1, some (s.1.map f32)⟩, ⟨u2, none⟩]) ?_ _ _ _ hz_2 ⟨1, 0, ⟨aR, aR, aR, aR, trivial⟩, ⟨⟨rfl, .inr rfl⟩, ⟨rfl, .inl rfl⟩, trivial⟩⟩))
  rintro ⟨L3, v4⟩ τ2 Γ2 y2_ ⟨u1, u2, hw2, hd2⟩ h2_ ho2 hr2
  refine RunC.wl (τ' := [(0, ptr (mXc a0 a1 a2)), (1, (sFc a3)), (5, oref 0 u1 0 L3.length), (6, i64 v4)]) (Γ' := [⟨u1, some (L3.map f32)⟩, ⟨u2, none⟩]) hw2 hd2 ?_
  replace h2_ : s_l02Times_b1 a0 a1 a2 a3 L3 v4 = some y2_ := h2_
  unfold s_l02Times_b1 at h2_
  refine yS<|yS ?_
  rcases oB h2_ with ⟨hc1, h2_⟩ | ⟨hc1, h2_⟩
  ·refine yW<|ym rfl (i64 v4)<|ym rfl (ptr (mXc a0 a1 a2))<|yl rfl (ptr (mXc a0 a1 a2)) (LOp.nilCheck_ptr rfl rfl)<|yl rfl (ptr (mXc a0 a1 a2)) (LOp.fap und33 rfl siz2 rfl rfl rfl)<|yl rfl (i64 a0) (y2 agg2)<|yl rfl (b true) (LOp.eqb (LOp.lss rfl rfl rfl) hc1)<|zN ?_
   refine yT<|RunC.skip<|yS<|RunC.block ?_
   obtain ⟨x5, hx2, h2_⟩ := oL h2_
   obtain ⟨x6, hx3, h2_⟩ := oL h2_
   obtain ⟨x7, hx4, h2_⟩ := oL h2_
   obtain ⟨l8, hs5, h2_⟩ := oS h2_
   obtain ⟨r9, hf6, h2_⟩ := oS h2_
   obtain ⟨hm7, h2_⟩ := need_some h2_
   refine RunC.region_draw (Γ' := [⟨u1, some (L3.map f32)⟩, ⟨(u2 + 1), some (([r9] : List F).map f32)⟩]) 22 mixed 
    (tm rfl (oref 0 u1 0 L3.length) <|
    (tm rfl (ptr (mXc a0 a1 a2)) <|
    (tl rfl (ptr (mXc a0 a1 a2)) (LOp.nilCheck_ptr rfl rfl) <|
    (tl rfl (ptr [(sFc a2)]) (LOp.fap und33 rfl siz26 rfl rfl rfl) <|
    (tl rfl (sFc a2) (y2 agg26) <|
    (tm rfl (i64 v4) <|
    (tm rfl (ptr (mXc a0 a1 a2)) <|
    (tl rfl (ptr (mXc a0 a1 a2)) (LOp.nilCheck_ptr rfl rfl) <|
    (tl rfl (ptr [i64 a1, (sFc a2)]) (LOp.fap und33 rfl siz2 rfl rfl rfl) <|
    (tl rfl (i64 a1) (y2 agg2) <|
    (tl rfl (i64 x5) (LOp.eqr (LOp.mul rfl rfl rfl) (congrArg (ik .i64) hx2)) <|
    (tm rfl (i64 v4) <|
    (tl rfl (i64 x6) (LOp.eqr (LOp.add rfl rfl rfl) (congrArg (ik .i64) hx3)) <|
    (tm rfl (ptr (mXc a0 a1 a2)) <|
    (tl rfl (ptr (mXc a0 a1 a2)) (LOp.nilCheck_ptr rfl rfl) <|
    (tl rfl (ptr [i64 a1, (sFc a2)]) (LOp.fap und33 rfl siz2 rfl rfl rfl) <|
    (tl rfl (i64 a1) (y2 agg2) <|
    (tl rfl (i64 x7) (LOp.eqr (LOp.mul rfl rfl rfl) (congrArg (ik .i64) hx4)) <|
    (tl rfl (sFc l8) (LOp.slice_sl (f := f32) und26 siz28 rfl rfl rfl rfl rfl hs5) <|
    (tm rfl (sFc a3) <|
    (TR.d (r := f32 r9) (fs := []) rfl rfl (yc ent136 rfl rfl (bS (bS bN)) (s_l02Dot_ok l8 a3 r9 hf6)) <|
    (TR.d (r := oref 1 (u2 + 1) 0 1) (fs := [(1, (([r9] : List F).map f32))]) rfl rfl (TOp.buildSlice_o (g := ⟨u2, none⟩) (za := f32 (some 0)) (qs := [(0, [f32 r9])]) 1 rfl und26 siz28 zer28 rfl zel28 rfl rfl ⟨rfl, ⟨_, ALe.refl _, rfl⟩, trivial⟩ rfl) <|
    TR.nil)))))))))))))))))))))) rfl (by kernel_rfl) rfl (fills_of (by show List.Nodup [1]; decide) ⟨⟨_, rfl⟩, trivial⟩) rfl ?_
   iterate 22 refine ROps.dropS ?_
   refine ROps.drop0<|ROps.app (f := f32) (xs := L3) (ys := ([r9] : List F)) (Γ' := [⟨(u1 + 1), some ((L3 ++ ([r9] : List F)).map f32)⟩, ⟨(u2 + 1), some (([r9] : List F).map f32)⟩]) rfl pun26 inf28 rfl rfl rfl rfl rfl rfl rfl rfl rfl (by simp) (ReadAs.own rfl (by simp)) (ones_map (fun _ => rfl)) (ap_by hm7) (ap_mx hm7) rfl<|ya rfl (oref 0 (u1 + 1) 0 (L3.length + 1))<|zN ?_
   refine RunC.wl (τ' := [(0, ptr (mXc a0 a1 a2)), (1, (sFc a3)), (5, oref 0 (u1 + 1) 0 (L3.length + 1)), (6, i64 v4)]) (Γ' := [⟨(u1 + 1), some ((L3 ++ ([r9] : List F)).map f32)⟩, ⟨(u2 + 1), none⟩]) ⟨aR, aR, aR, aR, trivial⟩ ⟨⟨rfl, .inr rfl⟩, ⟨rfl, .inl rfl⟩, trivial⟩ ?_
   obtain ⟨x10, hx8, h2_⟩ := oL h2_
   refine yW<|ym rfl (i64 v4)<|yl rfl (i64 x10) (LOp.eqr (LOp.add rfl rfl rfl) (congrArg (ik .i64) hx8))<|ya rfl (i64 x10)<|zN ?_
   cases oI h2_
   exact ⟨_, rfl, (u1 + 1), (u2 + 1), ⟨aR, aR, (ALe.eq (by rw [(app_len rfl rfl)] <;> rfl)), aR, trivial⟩, ⟨⟨rfl, .inr rfl⟩, ⟨rfl, .inl rfl⟩, trivial⟩⟩
  ·refine yW<|ym rfl (i64 v4)<|ym rfl (ptr (mXc a0 a1 a2))<|yl rfl (ptr (mXc a0 a1 a2)) (LOp.nilCheck_ptr rfl rfl)<|yl rfl (ptr (mXc a0 a1 a2)) (LOp.fap und33 rfl siz2 rfl rfl rfl)<|yl rfl (i64 a0) (y2 agg2)<|yl rfl (b false) (LOp.eqb (LOp.lss rfl rfl rfl) hc1)<|zN ?_
   refine yF<|RunC.exit ?_
   cases oI h2_
   have hx := ho2 _ rfl
   exact ⟨L3, u1, u2, ⟨aR, trivial⟩, ⟨⟨rfl, .inr rfl⟩, ⟨rfl, .inl rfl⟩, trivial⟩, hx⟩
 ·rintro τ3 Γ3 ⟨L13, u11, u12, hw3, hd3, rfl⟩
  refine RunC.wl hw3 hd3 ?_
  replace h : s_l02Times_k1 L13 = some q0 := h
  unfold s_l02Times_k1 at h
  refine zQ<|ym rfl (oref 0 u11 0 L13.length)<|ya rfl (oref 0 u11 0 L13.length)<|zN ?_
  refine RunC.ret ?_
  have hq := oI h
  subst q0
  exact bodyQ.mk (r' := oref 0 u11 0 L13.length) [(0, u11)] (.inr rfl) rfl (ndB_ok rfl) (by simp [ren, rens, sigma]) rfl (Res.one rfl (RV.tmp rfl)) (SelL.arr0 (f := f32) (fun _ => rfl) rfl trivial)
def s_l02List_0o (a0 : List F) : Option ((Bool × (List F)) ⊕ (Bool × (List F) × (List F))) :=
 obind (s_l02Finite a0) fun (r1 : Bool) =>
 bsel r1 (
  some (Sum.inl (true, a0))) (
  some (Sum.inr (false, a0, ([] : List F))))
theorem s_l02List_0o_ok0 (a0 : List F) (q0 : Bool) (q1 : List F) (h : s_l02List_0o a0 = some (Sum.inl (q0, q1))) : Ev Try.prog 68 [oref 0 0 0 a0.length] [⟨0, some (a0.map f32)⟩] (tup [oref 0 0 0 q1.length, b q0]) [⟨0, some (q1.map f32)⟩] := by
 refine Ev.start Try.func68 rfl rfl 1 (τ := [(0, oref 0 0 0 a0.length)]) rfl (Γ' := [⟨0, some (a0.map f32)⟩, ⟨0, none⟩]) rfl (n := 16) rfl (g := 1) rfl (by decide) ?_
 unfold s_l02List_0o at h
 refine zQ<|ya rfl nilsl<|ya rfl (b false)<|zN ?_
 refine yS<|yS ?_
 obtain ⟨r1, hf1, h⟩ := oS h
 rcases oB h with ⟨hc2, h⟩ | ⟨hc2, h⟩
 ·refine yW<|ym rfl (oref 0 0 0 a0.length)<|yd rfl (b true) (TOp.eqb (yc ent135 rfl rfl (Bors.cons (Bor.own (f := f32) (fun _ => rfl) rfl rfl) bN) (s_l02Finite_ok a0 r1 hf1)) hc2)<|yl rfl (b false) y1<|zN ?_
  refine yF<|RunC.skip<|zQ<|ym rfl (oref 0 0 0 a0.length)<|ya rfl (oref 0 0 0 a0.length)<|ya rfl (b true)<|zN ?_
  refine RunC.ret ?_
  have hq := oI h
  have hq := Sum.inl.inj hq
  obtain ⟨hq0, hq⟩ := Prod.mk.inj hq
  subst q0
  subst q1
  exact yB (tup [oref 0 0 0 a0.length, b true]) [(0, 0)] (Res.two rfl (RV.tmp rfl) (RV.tmp rfl)) (SelL.arr (f := f32) (fun _ => rfl) rfl trivial)
 ·refine yW<|ym rfl (oref 0 0 0 a0.length)<|yd rfl (b false) (TOp.eqb (yc ent135 rfl rfl (Bors.cons (Bor.own (f := f32) (fun _ => rfl) rfl rfl) bN) (s_l02Finite_ok a0 r1 hf1)) hc2)<|yl rfl (b true) y0<|zN ?_
  refine yT<|zQ<|ya rfl nilsl<|ya rfl (b false)<|zN ?_
  cases oI h
theorem s_l02List_0o_ok1 (a0 : List F) (q0 : Bool) (q1 : List F) (q2 : List F) (h : s_l02List_0o a0 = some (Sum.inr (q0, q1, q2))) : Ev Try.prog 68 [oref 0 0 0 a0.length] [⟨0, some (a0.map f32)⟩] (tup [oref 1 0 0 q2.length, b q0]) [⟨0, some (q1.map f32)⟩, ⟨0, some (q2.map f32)⟩] := by
 refine Ev.start Try.func68 rfl rfl 1 (τ := [(0, oref 0 0 0 a0.length)]) rfl (Γ' := [⟨0, some (a0.map f32)⟩, ⟨0, none⟩]) rfl (n := 16) rfl (g := 1) rfl (by decide) ?_
 unfold s_l02List_0o at h
 refine zQ<|ya rfl nilsl<|ya rfl (b false)<|zN ?_
 refine yS<|yS ?_
 obtain ⟨r1, hf1, h⟩ := oS h
 rcases oB h with ⟨hc2, h⟩ | ⟨hc2, h⟩
 ·refine yW<|ym rfl (oref 0 0 0 a0.length)<|yd rfl (b true) (TOp.eqb (yc ent135 rfl rfl (Bors.cons (Bor.own (f := f32) (fun _ => rfl) rfl rfl) bN) (s_l02Finite_ok a0 r1 hf1)) hc2)<|yl rfl (b false) y1<|zN ?_
  refine yF<|RunC.skip<|zQ<|ym rfl (oref 0 0 0 a0.length)<|ya rfl (oref 0 0 0 a0.length)<|ya rfl (b true)<|zN ?_
  cases oI h
 ·refine yW<|ym rfl (oref 0 0 0 a0.length)<|yd rfl (b false) (TOp.eqb (yc ent135 rfl rfl (Bors.cons (Bor.own (f := f32) (fun _ => rfl) rfl rfl) bN) (s_l02Finite_ok a0 r1 hf1)) hc2)<|yl rfl (b true) y0<|zN ?_
  refine yT<|zQ<|ya rfl nilsl<|ya rfl (b false)<|zN ?_
  refine RunC.nil_slot (Γ' := [⟨0, some (a0.map f32)⟩, ⟨1, some (([] : List F).map f32)⟩]) 2 1 rfl rfl rfl<|RunC.ret ?_
  have hq := oI h
  have hq := Sum.inr.inj hq
  obtain ⟨hq0, hq⟩ := Prod.mk.inj hq
  obtain ⟨hq1, hq⟩ := Prod.mk.inj hq
  subst q0
  subst q1
  subst q2
  exact yB (tup [oref 1 1 0 (([] : List F).length), b false]) [(0, 0), (1, 1)] (Res.eq (Res.two rfl (RV.tmp rfl) (RV.tmp rfl)) (by first | rfl | (rw [(show ([] : List F).length = 0 from rfl)] <;> rfl))) (SelL.arr (f := f32) (fun _ => rfl) rfl (SelL.arr0 (f := f32) (fun _ => rfl) rfl trivial))
def s_TimesVector (a0 : Int) (a1 : Int) (a2 : List F) (a3 : List F) : Option (Bool × (List F)) :=
 obind (s_l02Is a0 a1 a2) fun (r1 : Bool) =>
 bsel r1 (
  obind (s_l02Vector a3) fun (r2 : Bool) =>
  bsel r2 (
   bsel (!decide ((a3.length : Int) = a1)) (
    some (false, ([] : List F))) (
    obind (s_l02Times a0 a1 a2 a3) fun (r3 : List F) =>
    obind (s_l02List_0o r3) (fun z => osum z (fun y => obind2 (some y) fun (r4 : Bool) (r5 : List F) =>
     need (decide (r5.length = r3.length)) <|
     some (r4, r5)) (fun y => obind3 (some y) fun (r6 : Bool) (r7 : List F) (r8 : List F) =>
     need (decide (r7.length = r3.length)) <|
     some (r6, r8))))) (
   some (false, ([] : List F)))) (
  some (false, ([] : List F)))
theorem s_TimesVector_ok (a0 : Int) (a1 : Int) (a2 : List F) (a3 : List F) (q0 : Bool) (q1 : List F) (h : s_TimesVector a0 a1 a2 a3 = some (q0, q1)) : Ev Try.prog 15 [agg (mXc a0 a1 a2), (sFc a3)] [] (tup [oref 0 0 0 q1.length, b q0]) [⟨0, some (q1.map f32)⟩] := by
 refine yE Try.func15 2 51 0 [(0, agg (mXc a0 a1 a2)), (1, (sFc a3))] [⟨0, none⟩, ⟨0, none⟩] rfl ?_
 unfold s_TimesVector at h
 refine zQ<|yd rfl (ptr (mXc a0 a1 a2)) (TOp.box_s rfl rfl rfl)<|ya rfl nilsl<|ya rfl (b false)<|zN ?_
 refine yS<|yS ?_
 obtain ⟨r1, hf1, h⟩ := oS h
 rcases oB h with ⟨hc2, h⟩ | ⟨hc2, h⟩
 ·obtain ⟨r2, hf3, h⟩ := oS h
  rcases oB h with ⟨hc4, h⟩ | ⟨hc4, h⟩
  ·rcases oB h with ⟨hc5, h⟩ | ⟨hc5, h⟩
   ·refine yW<|yd rfl (b true) (TOp.eqb (TOp.callB (CallAs.func ent66 rfl rfl) (Bors.cons (Bor.ptr (bP (bP (bS bN)))) bN) rfl rfl (s_l02Is_ok a0 a1 a2 r1 hf1)) hc2)<|yl rfl (b false) y1<|ym rfl (b false)<|ym rfl (sFc a3)<|yd rfl (b true) (TOp.eqb (yc ent67 rfl rfl (bS bN) (s_l02Vector_ok a3 r2 hf3)) hc4)<|yl rfl (b false) y1<|yl rfl (b false) yp<|ym rfl (b false)<|ym rfl (sFc a3)<|yl rfl (i64 (a3.length : Int)) (LOp.len_sl und26 rfl rfl)<|yl rfl (ptr [i64 a1, (sFc a2)]) (LOp.fap und33 rfl siz2 rfl rfl rfl)<|yl rfl (i64 a1) (y2 agg2)<|yl rfl (b true) (LOp.eqb (LOp.neq rfl rfl rfl) hc5)<|yl rfl (b true) yp<|zN ?_
    refine RunC.wl (τ' := [(1, (sFc a3)), (2, ptr (mXc a0 a1 a2)), (19, b true)]) (Γ' := [⟨0, none⟩, ⟨0, none⟩]) ⟨aR, aR, aR, trivial⟩ ⟨⟨rfl, .inr rfl⟩, ⟨rfl, .inr rfl⟩, trivial⟩<|yT<|zQ<|ya rfl nilsl<|ya rfl (b false)<|zN ?_
    refine RunC.nil_slot (Γ' := [⟨1, some (([] : List F).map f32)⟩, ⟨0, none⟩]) 4 0 rfl rfl rfl<|RunC.ret ?_
    have hq := oI h
    obtain ⟨hq0, hq⟩ := Prod.mk.inj hq
    subst q0
    subst q1
    exact yB (tup [oref 0 1 0 (([] : List F).length), b false]) [(0, 1)] (Res.eq (Res.two rfl (RV.tmp rfl) (RV.tmp rfl)) (by first | rfl | (rw [(show ([] : List F).length = 0 from rfl)] <;> rfl))) (SelL.arr0 (f := f32) (fun _ => rfl) rfl trivial)
   ·refine yW<|yd rfl (b true) (TOp.eqb (TOp.callB (CallAs.func ent66 rfl rfl) (Bors.cons (Bor.ptr (bP (bP (bS bN)))) bN) rfl rfl (s_l02Is_ok a0 a1 a2 r1 hf1)) hc2)<|yl rfl (b false) y1<|ym rfl (b false)<|ym rfl (sFc a3)<|yd rfl (b true) (TOp.eqb (yc ent67 rfl rfl (bS bN) (s_l02Vector_ok a3 r2 hf3)) hc4)<|yl rfl (b false) y1<|yl rfl (b false) yp<|ym rfl (b false)<|ym rfl (sFc a3)<|yl rfl (i64 (a3.length : Int)) (LOp.len_sl und26 rfl rfl)<|yl rfl (ptr [i64 a1, (sFc a2)]) (LOp.fap und33 rfl siz2 rfl rfl rfl)<|yl rfl (i64 a1) (y2 agg2)<|yl rfl (b false) (LOp.eqb (LOp.neq rfl rfl rfl) hc5)<|yl rfl (b false) yp<|zN ?_
    refine RunC.wl (τ' := [(1, (sFc a3)), (2, ptr (mXc a0 a1 a2)), (19, b false)]) (Γ' := [⟨0, none⟩, ⟨0, none⟩]) ⟨aR, aR, aR, trivial⟩ ⟨⟨rfl, .inr rfl⟩, ⟨rfl, .inr rfl⟩, trivial⟩<|yF<|RunC.skip<|yS ?_
    obtain ⟨r3, hf6, h⟩ := oS h
    obtain ⟨z1, hf7, h⟩ := oS h
    rcases z1 with z1 | z1
    ·replace h := (osum_inl _ _ _).symm.trans h
     obtain ⟨r4, r5, hz2, h⟩ := obind2_some h
     cases hz2
     obtain ⟨hn8, h⟩ := need_some h
     refine yW<|ym rfl (sFc a3)<|ye rfl (oref 0 1 0 r3.length) [⟨1, some (r3.map f32)⟩, ⟨0, none⟩] (TOp.callBN (ls := [(r3.map f32)]) [0] (CallAs.func ent69 rfl rfl) (Bors.cons (Bor.ptr (bP (bP (bS bN)))) (bS bN)) rfl (s_l02Times_ok a0 a1 a2 a3 r3 hf6) (and_all (lts0_map (f := f32) (fun _ => rfl) _) rfl) (and_all (noss_map (f := f32) (fun _ => rfl) _) rfl) rfl (by decide) (ns_of ⟨⟨_, rfl⟩, trivial⟩))<|ROps.callO (A := [oref 0 1 0 r3.length]) (args := [oref 0 0 0 r3.length]) (Γc := [⟨0, some (r3.map f32)⟩]) (Γc' := [⟨0, some (r5.map f32)⟩]) (r' := tup [oref 0 1 0 r3.length, b r4]) (Γ' := [⟨1, some (r5.map f32)⟩, ⟨0, none⟩]) [(0, 1)] [] rfl (CallAs.func ent68 rfl rfl) rfl rfl (SelOk.of (ndB_ok rfl) (SelL.arr0 (f := f32) (fun _ => rfl) rfl trivial)) (live_of ⟨⟨_, _, rfl⟩, trivial⟩) (by simp [ren, rens, sigma, rens_f32, rens_f64, rens_i64, rens_ik, rens_str, rens_cp]) rfl (s_l02List_0o_ok0 r3 r4 r5 hf7) rfl (news_of trivial) (ndB_ok rfl) (by simp [ren, rens, sigma, of_decide_eq_true hn8]) (by simp [backOb, sigma, ren, rens, rens_f32, rens_f64, rens_i64, rens_ik, rens_str, rens_cp] <;> omega)<|yl rfl (oref 0 1 0 r3.length) y3<|yl rfl (b r4) y3<|ya rfl (oref 0 1 0 r3.length)<|ya rfl (b r4)<|zN ?_
     refine RunC.ret ?_
     have hq := oI h
     obtain ⟨hq0, hq⟩ := Prod.mk.inj hq
     subst q0
     subst q1
     exact yB (tup [oref 0 1 0 r5.length, b r4]) [(0, 1)] (Res.eq (Res.two rfl (RV.tmp rfl) (RV.tmp rfl)) (by first | rfl | (rw [(show r5.length = r3.length from (of_decide_eq_true hn8))] <;> rfl))) (SelL.arr0 (f := f32) (fun _ => rfl) rfl trivial)
    ·replace h := (osum_inr _ _ _).symm.trans h
     obtain ⟨r6, r7, r8, hz3, h⟩ := obind3_some h
     cases hz3
     obtain ⟨hn9, h⟩ := need_some h
     refine yW<|ym rfl (sFc a3)<|ye rfl (oref 0 1 0 r3.length) [⟨1, some (r3.map f32)⟩, ⟨0, none⟩] (TOp.callBN (ls := [(r3.map f32)]) [0] (CallAs.func ent69 rfl rfl) (Bors.cons (Bor.ptr (bP (bP (bS bN)))) (bS bN)) rfl (s_l02Times_ok a0 a1 a2 a3 r3 hf6) (and_all (lts0_map (f := f32) (fun _ => rfl) _) rfl) (and_all (noss_map (f := f32) (fun _ => rfl) _) rfl) rfl (by decide) (ns_of ⟨⟨_, rfl⟩, trivial⟩))<|ROps.callO (A := [oref 0 1 0 r3.length]) (args := [oref 0 0 0 r3.length]) (Γc := [⟨0, some (r3.map f32)⟩]) (Γc' := [⟨0, some (r7.map f32)⟩, ⟨0, some (r8.map f32)⟩]) (r' := tup [oref 1 1 0 r8.length, b r6]) (Γ' := [⟨1, some (r7.map f32)⟩, ⟨1, some (r8.map f32)⟩]) [(0, 1)] [(1, 1)] rfl (CallAs.func ent68 rfl rfl) rfl rfl (SelOk.of (ndB_ok rfl) (SelL.arr0 (f := f32) (fun _ => rfl) rfl trivial)) (live_of ⟨⟨_, _, rfl⟩, trivial⟩) (by simp [ren, rens, sigma, rens_f32, rens_f64, rens_i64, rens_ik, rens_str, rens_cp]) rfl (s_l02List_0o_ok1 r3 r6 r7 r8 hf7) rfl (news_of ⟨⟨_, rfl, rfl⟩, trivial⟩) (show List.Nodup [0, 1] from by decide) (by simp [ren, rens, sigma, of_decide_eq_true hn9]) (by simp [backOb, sigma, ren, rens, rens_f32, rens_f64, rens_i64, rens_ik, rens_str, rens_cp] <;> omega)<|yl rfl (oref 1 1 0 r8.length) y3<|yl rfl (b r6) y3<|ya rfl (oref 1 1 0 r8.length)<|ya rfl (b r6)<|zN ?_
     refine RunC.ret ?_
     have hq := oI h
     obtain ⟨hq0, hq⟩ := Prod.mk.inj hq
     subst q0
     subst q1
     exact yB (tup [oref 1 1 0 r8.length, b r6]) [(1, 1)] (Res.two rfl (RV.tmp rfl) (RV.tmp rfl)) (SelL.arr0 (f := f32) (fun _ => rfl) rfl trivial)
  ·refine yW<|yd rfl (b true) (TOp.eqb (TOp.callB (CallAs.func ent66 rfl rfl) (Bors.cons (Bor.ptr (bP (bP (bS bN)))) bN) rfl rfl (s_l02Is_ok a0 a1 a2 r1 hf1)) hc2)<|yl rfl (b false) y1<|ym rfl (b false)<|ym rfl (sFc a3)<|yd rfl (b false) (TOp.eqb (yc ent67 rfl rfl (bS bN) (s_l02Vector_ok a3 r2 hf3)) hc4)<|yl rfl (b true) y0<|yl rfl (b true) yp<|ym rfl (b true)<|ROps.s rfl rfl rfl<|ROps.s rfl rfl rfl<|ROps.s rfl rfl rfl<|ROps.s rfl rfl rfl<|ROps.s rfl rfl rfl<|yl rfl (b true) yq<|zN ?_
   refine RunC.wl (τ' := [(1, (sFc a3)), (2, ptr (mXc a0 a1 a2)), (19, b true)]) (Γ' := [⟨0, none⟩, ⟨0, none⟩]) ⟨aR, aR, aR, trivial⟩ ⟨⟨rfl, .inr rfl⟩, ⟨rfl, .inr rfl⟩, trivial⟩<|yT<|zQ<|ya rfl nilsl<|ya rfl (b false)<|zN ?_
   refine RunC.nil_slot (Γ' := [⟨1, some (([] : List F).map f32)⟩, ⟨0, none⟩]) 4 0 rfl rfl rfl<|RunC.ret ?_
   have hq := oI h
   obtain ⟨hq0, hq⟩ := Prod.mk.inj hq
   subst q0
   subst q1
   exact yB (tup [oref 0 1 0 (([] : List F).length), b false]) [(0, 1)] (Res.eq (Res.two rfl (RV.tmp rfl) (RV.tmp rfl)) (by first | rfl | (rw [(show ([] : List F).length = 0 from rfl)] <;> rfl))) (SelL.arr0 (f := f32) (fun _ => rfl) rfl trivial)
 ·refine yW<|yd rfl (b false) (TOp.eqb (TOp.callB (CallAs.func ent66 rfl rfl) (Bors.cons (Bor.ptr (bP (bP (bS bN)))) bN) rfl rfl (s_l02Is_ok a0 a1 a2 r1 hf1)) hc2)<|yl rfl (b true) y0<|ym rfl (b true)<|ROps.s rfl rfl rfl<|ROps.s rfl rfl rfl<|ROps.s rfl rfl rfl<|yl rfl (b true) yq<|ym rfl (b true)<|ROps.s rfl rfl rfl<|ROps.s rfl rfl rfl<|ROps.s rfl rfl rfl<|ROps.s rfl rfl rfl<|ROps.s rfl rfl rfl<|yl rfl (b true) yq<|zN ?_
  refine RunC.wl (τ' := [(1, (sFc a3)), (2, ptr (mXc a0 a1 a2)), (19, b true)]) (Γ' := [⟨0, none⟩, ⟨0, none⟩]) ⟨aR, aR, aR, trivial⟩ ⟨⟨rfl, .inr rfl⟩, ⟨rfl, .inr rfl⟩, trivial⟩<|yT<|zQ<|ya rfl nilsl<|ya rfl (b false)<|zN ?_
  refine RunC.nil_slot (Γ' := [⟨1, some (([] : List F).map f32)⟩, ⟨0, none⟩]) 4 0 rfl rfl rfl<|RunC.ret ?_
  have hq := oI h
  obtain ⟨hq0, hq⟩ := Prod.mk.inj hq
  subst q0
  subst q1
  exact yB (tup [oref 0 1 0 (([] : List F).length), b false]) [(0, 1)] (Res.eq (Res.two rfl (RV.tmp rfl) (RV.tmp rfl)) (by first | rfl | (rw [(show ([] : List F).length = 0 from rfl)] <;> rfl))) (SelL.arr0 (f := f32) (fun _ => rfl) rfl trivial)
def w_b10Gap (a0 : F) (a1 : F) : Option (F) :=
 bsel (flt .f64 a0 a1) (
  olet (fop .sub .f64 a1 a0) fun (x1 : F) =>
  some x1) (
  olet (fop .sub .f64 a0 a1) fun (x2 : F) =>
  some x2)
theorem w_b10Gap_ok (a0 : F) (a1 : F) (q0 : F) (h : w_b10Gap a0 a1 = some q0) : Ev Try.prog 53 [f64 a0, f64 a1] [] (f64 q0) [] := by
 refine yE Try.func53 0 29 0 [(0, f64 a0), (1, f64 a1)] [] rfl ?_
 unfold w_b10Gap at h
 refine zQ<|yl rfl (f64 (some 0)) (LOp.le (LOp.assign rfl rfl) (ALe.fl (by kernel_rfl) (by kernel_rfl)))<|zN ?_
 refine yS<|yS ?_
 rcases oB h with ⟨hc1, h⟩ | ⟨hc1, h⟩
 ·refine yW<|ym rfl (f64 a0)<|ym rfl (f64 a1)<|yl rfl (b true) (LOp.eqb (LOp.flt rfl (OpF.tmp rfl) (OpF.tmp rfl)) hc1)<|zN ?_
  refine yT<|yS ?_
  obtain ⟨x1, hx2, h⟩ := oL h
  refine yW<|ym rfl (f64 a1)<|ym rfl (f64 a0)<|yd rfl (f64 x1) (TOp.eqr (TOp.fop (.inr (.inl rfl)) rfl (OpF.tmp rfl) (OpF.tmp rfl)) (congrArg (f .f64) hx2))<|ya rfl (f64 x1)<|zN ?_
  refine RunC.ret ?_
  have hq := oI h
  subst q0
  exact bodyQ.pure (.inr rfl) rfl (Res.one rfl (RV.tmp rfl))
 ·refine yW<|ym rfl (f64 a0)<|ym rfl (f64 a1)<|yl rfl (b false) (LOp.eqb (LOp.flt rfl (OpF.tmp rfl) (OpF.tmp rfl)) hc1)<|zN ?_
  refine yF<|RunC.skip<|yS ?_
  obtain ⟨x2, hx3, h⟩ := oL h
  refine yW<|ym rfl (f64 a0)<|ym rfl (f64 a1)<|yd rfl (f64 x2) (TOp.eqr (TOp.fop (.inr (.inl rfl)) rfl (OpF.tmp rfl) (OpF.tmp rfl)) (congrArg (f .f64) hx3))<|ya rfl (f64 x2)<|zN ?_
  refine RunC.ret ?_
  have hq := oI h
  subst q0
  exact bodyQ.pure (.inr rfl) rfl (Res.one rfl (RV.tmp rfl))
def w_b10Far_b1 (a0 : List F) (a1 : List F) (a2 : F) (v1 : Int) : Option (LR (Int) (Unit) (Bool)) :=
 bsel (decide (v1 < (a0.length : Int))) (
  obind (at? a0 v1) fun (e2 : F) =>
  olet (fwiden e2) fun (x3 : F) =>
  obind (at? a1 v1) fun (e4 : F) =>
  olet (fwiden e4) fun (x5 : F) =>
  obind (w_b10Gap x3 x5) fun (r6 : F) =>
  bsel (fle .f64 r6 a2) (
   olet (IntKind.i64.wrap (v1 + 1)) fun (x7 : Int) =>
   some (LR.next x7)) (
   some (LR.ret true))) (
  some (LR.out ()))
def w_b10Far_s1 (a0 : List F) (a1 : List F) (a2 : F) : (Int) → Option (LR (Int) (Unit) (Bool)) := fun s => w_b10Far_b1 a0 a1 a2 s
def w_b10Far_k1  : Option (Bool) :=
 some false
def w_b10Far (a0 : List F) (a1 : List F) (a2 : F) : Option (Bool) :=
 bsel (!decide ((a0.length : Int) = (a1.length : Int))) (
  some true) (
  obind (loopM (w_b10Far_s1 a0 a1 a2) 0) fun z => osum z (fun _ => w_b10Far_k1) (fun r => some r))
theorem w_b10Far_ok (a0 : List F) (a1 : List F) (a2 : F) (q0 : Bool) (h : w_b10Far a0 a1 a2 = some q0) : Ev Try.prog 16 [(sFc a0), (sFc a1), f64 a2] [] (b q0) [] := by
 refine yE Try.func16 0 67 0 [(0, (sFc a0)), (1, (sFc a1)), (2, f64 a2)] [] rfl ?_
 unfold w_b10Far at h
 refine zQ<|ya rfl (b false)<|zN ?_
 refine yS<|yS ?_
 rcases oB h with ⟨hc1, h⟩ | ⟨hc1, h⟩
 ·refine yW<|ym rfl (sFc a0)<|yl rfl (i64 (a0.length : Int)) (LOp.len_sl und26 rfl rfl)<|ym rfl (sFc a1)<|yl rfl (i64 (a1.length : Int)) (LOp.len_sl und26 rfl rfl)<|yl rfl (b true) (LOp.eqb (LOp.neq rfl rfl rfl) hc1)<|zN ?_
  refine yT<|zQ<|ya rfl (b true)<|zN ?_
  refine RunC.ret ?_
  have hq := oI h
  subst q0
  exact bodyQ.pure (.inr rfl) rfl (Res.one rfl (RV.tmp rfl))
 ·refine yW<|ym rfl (sFc a0)<|yl rfl (i64 (a0.length : Int)) (LOp.len_sl und26 rfl rfl)<|ym rfl (sFc a1)<|yl rfl (i64 (a1.length : Int)) (LOp.len_sl und26 rfl rfl)<|yl rfl (b false) (LOp.eqb (LOp.neq rfl rfl rfl) hc1)<|zN ?_
  refine yF<|RunC.skip<|yS<|zQ<|ym rfl (sFc a0)<|yl rfl (i64 (a0.length : Int)) (LOp.len_sl und26 rfl rfl)<|ym rfl (i64 0)<|zN ?_
  obtain ⟨z2, hz_2, h⟩ := oS h
  refine RunC.cutN (fun τ Γ => WeakLe τ [] ∧ DeadLe Γ [] ∧ z2 = .inl ()) ?_ ?_
  ·refine RunC.block (RunC.loop (RunL.loopM (x := z2) (w_b10Far_s1 a0 a1 a2) (fun (s : Int) τ Γ => WeakLe τ [(0, (sFc a0)), (1, (sFc a1)), (2, f64 a2), (14, i64 (a0.length : Int)), (15, i64 s)] ∧ DeadLe Γ []) ?_ _ _ _ hz_2 ⟨⟨aR, aR, aR, aR, aR, trivial⟩, trivial⟩))
   rintro v1 τ2 Γ2 y2_ ⟨hw2, hd2⟩ h2_ ho2 hr2
   refine RunC.wl (τ' := [(0, (sFc a0)), (1, (sFc a1)), (2, f64 a2), (14, i64 (a0.length : Int)), (15, i64 v1)]) (Γ' := []) hw2 hd2 ?_
   replace h2_ : w_b10Far_b1 a0 a1 a2 v1 = some y2_ := h2_
   unfold w_b10Far_b1 at h2_
   refine yS ?_
   rcases oB h2_ with ⟨hc2, h2_⟩ | ⟨hc2, h2_⟩
   ·refine yW<|yl rfl (b true) (LOp.eqb (LOp.lss rfl rfl rfl) hc2)<|zN ?_
    refine yS<|yT<|RunC.skip<|yS<|RunC.block<|zQ<|ym rfl (i64 v1)<|ya rfl (i64 v1)<|zN ?_
    refine yS ?_
    obtain ⟨e2, he3, h2_⟩ := oS h2_
    obtain ⟨x3, hx4, h2_⟩ := oL h2_
    obtain ⟨e4, he5, h2_⟩ := oS h2_
    obtain ⟨x5, hx6, h2_⟩ := oL h2_
    obtain ⟨r6, hf7, h2_⟩ := oS h2_
    rcases oB h2_ with ⟨hc8, h2_⟩ | ⟨hc8, h2_⟩
    ·refine RunC.region_draw (Γ' := []) 14 mixed 
      (tm rfl (sFc a0) <|
      (tm rfl (i64 v1) <|
      (tl rfl (ptr [f32 e2]) (LOp.le (LOp.ix (f := f32) und26 siz28 rfl rfl rfl rfl he3) ALe.ptr) <|
      (tl rfl (f32 e2) (y2 agg28) <|
      (TR.d (r := f64 x3) (fs := []) rfl rfl (TOp.eqr (TOp.widen (src := 28) (dst := 40) ⟨_, pun28⟩ pun40 rfl (OpF.tmp rfl)) (congrArg (f .f64) hx4)) <|
      (tm rfl (sFc a1) <|
      (tm rfl (i64 v1) <|
      (tl rfl (ptr [f32 e4]) (LOp.le (LOp.ix (f := f32) und26 siz28 rfl rfl rfl rfl he5) ALe.ptr) <|
      (tl rfl (f32 e4) (y2 agg28) <|
      (TR.d (r := f64 x5) (fs := []) rfl rfl (TOp.eqr (TOp.widen (src := 28) (dst := 40) ⟨_, pun28⟩ pun40 rfl (OpF.tmp rfl)) (congrArg (f .f64) hx6)) <|
      (TR.d (r := f64 r6) (fs := []) rfl rfl (yc ent53 rfl rfl (bP bN0) (w_b10Gap_ok x3 x5 r6 hf7)) <|
      (tm rfl (f64 a2) <|
      (tl rfl (b true) (LOp.eqb (LOp.fle rfl (OpF.tmp rfl) (OpF.tmp rfl)) hc8) <|
      (tl rfl (b false) (LOp.eqb (LOp.not rfl rfl) rfl) <|
      TR.nil)))))))))))))) rfl (by kernel_rfl) rfl fills_nil rfl ?_
     iterate 14 refine ROps.dropS ?_
     refine ROps.drop0<|zN ?_
     refine RunC.wl (τ' := [(0, (sFc a0)), (1, (sFc a1)), (2, f64 a2), (14, i64 (a0.length : Int)), (15, i64 v1), (31, b false)]) (Γ' := []) ⟨aR, aR, aR, aR, aR, aR, trivial⟩ trivial<|yF<|RunC.skip ?_
     obtain ⟨x7, hx9, h2_⟩ := oL h2_
     refine yW<|yl rfl (i64 x7) (LOp.eqr (LOp.add rfl rfl rfl) (congrArg (ik .i64) hx9))<|ym rfl (i64 x7)<|zN ?_
     cases oI h2_
     exact ⟨_, rfl, ⟨aR, aR, aR, aR, aR, trivial⟩, trivial⟩
    ·refine RunC.region_draw (Γ' := []) 14 mixed 
      (tm rfl (sFc a0) <|
      (tm rfl (i64 v1) <|
      (tl rfl (ptr [f32 e2]) (LOp.le (LOp.ix (f := f32) und26 siz28 rfl rfl rfl rfl he3) ALe.ptr) <|
      (tl rfl (f32 e2) (y2 agg28) <|
      (TR.d (r := f64 x3) (fs := []) rfl rfl (TOp.eqr (TOp.widen (src := 28) (dst := 40) ⟨_, pun28⟩ pun40 rfl (OpF.tmp rfl)) (congrArg (f .f64) hx4)) <|
      (tm rfl (sFc a1) <|
      (tm rfl (i64 v1) <|
      (tl rfl (ptr [f32 e4]) (LOp.le (LOp.ix (f := f32) und26 siz28 rfl rfl rfl rfl he5) ALe.ptr) <|
      (tl rfl (f32 e4) (y2 agg28) <|
      (TR.d (r := f64 x5) (fs := []) rfl rfl (TOp.eqr (TOp.widen (src := 28) (dst := 40) ⟨_, pun28⟩ pun40 rfl (OpF.tmp rfl)) (congrArg (f .f64) hx6)) <|
      (TR.d (r := f64 r6) (fs := []) rfl rfl (yc ent53 rfl rfl (bP bN0) (w_b10Gap_ok x3 x5 r6 hf7)) <|
      (tm rfl (f64 a2) <|
      (tl rfl (b false) (LOp.eqb (LOp.fle rfl (OpF.tmp rfl) (OpF.tmp rfl)) hc8) <|
      (tl rfl (b true) (LOp.eqb (LOp.not rfl rfl) rfl) <|
      TR.nil)))))))))))))) rfl (by kernel_rfl) rfl fills_nil rfl ?_
     iterate 14 refine ROps.dropS ?_
     refine ROps.drop0<|zN ?_
     refine RunC.wl (τ' := [(0, (sFc a0)), (1, (sFc a1)), (2, f64 a2), (14, i64 (a0.length : Int)), (15, i64 v1), (31, b true)]) (Γ' := []) ⟨aR, aR, aR, aR, aR, aR, trivial⟩ trivial<|yT<|zQ<|ya rfl (b true)<|zN ?_
     refine RunC.ret ?_
     cases oI h2_
     have hx3_ := hr2 _ rfl
     subst hx3_
     have hq := oI h
     subst q0
     exact bodyQ.pure (.inr rfl) rfl (Res.one rfl (RV.tmp rfl))
   ·refine yW<|yl rfl (b false) (LOp.eqb (LOp.lss rfl rfl rfl) hc2)<|zN ?_
    refine yS<|yF<|RunC.exit ?_
    cases oI h2_
    have hx := ho2 _ rfl
    exact ⟨trivial, trivial, hx⟩
  ·rintro τ4 Γ4 ⟨hw4, hd4, rfl⟩
   refine RunC.wl hw4 hd4 ?_
   replace h : w_b10Far_k1 = some q0 := h
   unfold w_b10Far_k1 at h
   refine zQ<|ya rfl (b false)<|zN ?_
   refine RunC.ret ?_
   have hq := oI h
   subst q0
   exact bodyQ.pure (.inr rfl) rfl (Res.one rfl (RV.tmp rfl))
end
end Go.Proofs.Ytkdociaoknmgbaa
