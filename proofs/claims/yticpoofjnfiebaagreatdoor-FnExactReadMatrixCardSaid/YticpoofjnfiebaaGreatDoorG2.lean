/- Generated. -/
import Derived.Test.YticpoofjnfiebaaGreatDoorG1
namespace Go.Proofs.YticpoofjnfiebaaGreatDoor
open Go Go.AM Go.AM.AV
set_option maxRecDepth 20000
set_option maxHeartbeats 4000000
set_option linter.unusedVariables false
set_option linter.unusedSimpArgs false
noncomputable def x_math_Abs (a0 : F) : Option (F) :=
 olet (fabs a0) fun (x1 : F) =>
 some x1
theorem x_math_Abs_ok (a0 : F) (q0 : F) (h : x_math_Abs a0 = some q0) : Ev Tryz.prog 110 [f64 a0] [] (f64 q0) [] := by
 refine Ev.start Tryz.func110 rfl rfl 0 (τ := [(0, f64 a0)]) rfl (Γ' := []) rfl (n := 15) rfl (g := 0) rfl (fun _ => rfl) ?_
 unfold x_math_Abs at h
 refine zQ ?_
 refine zL (r := f64 (some 0)) rfl rfl rfl (LOp.le (LOp.assign rfl rfl) (ALe.fl (by kernel_rfl) (by kernel_rfl))) ?_
 refine zN ?_
 refine RunC.seq ?_
 obtain ⟨x1, hx1, h⟩ := olet_some h
 refine RunC.regionW ?_
 refine zM (r := f64 a0) rfl rfl rfl rfl rfl ?_
 refine zL (r := bt .f64 .u64 a0) rfl rfl rfl (LOp.fbits ext120 rfl (OpF.tmp rfl)) ?_
 refine zL (r := bt .f64 .u64 x1) rfl rfl rfl (LOp.eqr (LOp.andNot_bt rfl rfl rfl) (congrArg (bt .f64 .u64) hx1)) ?_
 refine zL (r := f64 x1) rfl rfl rfl (LOp.ffrom ext119 rfl rfl) ?_
 refine zA (r := f64 x1) rfl rfl rfl rfl rfl ?_
 refine zN ?_
 refine RunC.ret ?_
 have hq := Option.some.inj h
 subst q0
 exact bodyQ.pure (.inr rfl) rfl (Res.one rfl (RV.tmp rfl))
noncomputable def x_math_IsInf_k1 (y3 : F) : Option (Bool) :=
 some (flt .f64 (some 9218868437227405311) y3)
noncomputable def x_math_IsInf (a0 : F) (a1 : Int) : Option (Bool) :=
 bsel (decide (a1 = 0)) (
  obind (x_math_Abs a0) fun (r1 : F) =>
  x_math_IsInf_k1 r1) (
  bsel (decide (a1 < 0)) (
   olet (fneg .f64 a0) fun (x2 : F) =>
   x_math_IsInf_k1 x2) (
   x_math_IsInf_k1 a0))
theorem x_math_IsInf_ok (a0 : F) (a1 : Int) (q0 : Bool) (h : x_math_IsInf a0 a1 = some q0) : Ev Tryz.prog 93 [f64 a0, i64 a1] [] (b q0) [] := by
 refine Ev.start Tryz.func93 rfl rfl 0 (τ := [(0, f64 a0), (1, i64 a1)]) rfl (Γ' := []) rfl (n := 31) rfl (g := 0) rfl (fun _ => rfl) ?_
 unfold x_math_IsInf at h
 refine zQ ?_
 refine zA (r := b false) rfl rfl rfl rfl rfl ?_
 refine zN ?_
 refine RunC.seq ?_
 refine RunC.cutN (fun τ Γ => ∃ (y3 : F), WeakLe τ [(0, f64 y3)] ∧ DeadLe Γ [] ∧ x_math_IsInf_k1 y3 = some q0) ?_ ?_
 ·refine RunC.seq ?_
  rcases bsel_some h with ⟨hc1, h⟩ | ⟨hc1, h⟩
  ·refine RunC.regionW ?_
   refine zM (r := i64 a1) rfl rfl rfl rfl rfl ?_
   refine zL (r := b true) rfl rfl rfl (LOp.eqb (LOp.eql rfl rfl rfl) hc1) ?_
   refine zN ?_
   refine RunC.cond_true rfl rfl ?_
   obtain ⟨r1, hf2, h⟩ := obind_some h
   refine RunC.regionW ?_
   refine zM (r := f64 a0) rfl rfl rfl rfl rfl ?_
   refine ROps.d (r := f64 r1) (fs := []) (Γ' := []) rfl rfl rfl (TOp.callB (CallAs.func ent110 rfl rfl) (Bors.cons (Bor.pure rfl) Bors.nil) rfl rfl (x_math_Abs_ok a0 r1 hf2)) rfl ?_
   refine zA (r := f64 r1) rfl rfl rfl rfl rfl ?_
   refine zN ?_
   exact ⟨r1, ⟨aR, trivial⟩, trivial, h⟩
  ·refine RunC.regionW ?_
   refine zM (r := i64 a1) rfl rfl rfl rfl rfl ?_
   refine zL (r := b false) rfl rfl rfl (LOp.eqb (LOp.eql rfl rfl rfl) hc1) ?_
   refine zN ?_
   refine RunC.cond_false rfl rfl ?_
   refine RunC.seq ?_
   rcases bsel_some h with ⟨hc3, h⟩ | ⟨hc3, h⟩
   ·refine RunC.regionW ?_
    refine zM (r := i64 a1) rfl rfl rfl rfl rfl ?_
    refine zL (r := b true) rfl rfl rfl (LOp.eqb (LOp.lss rfl rfl rfl) hc3) ?_
    refine zN ?_
    refine RunC.cond_true rfl rfl ?_
    obtain ⟨x2, hx4, h⟩ := olet_some h
    refine RunC.regionW ?_
    refine zM (r := f64 a0) rfl rfl rfl rfl rfl ?_
    refine zL (r := f64 x2) rfl rfl rfl (LOp.eqr (LOp.fneg rfl (OpF.tmp rfl)) (congrArg (f .f64) hx4)) ?_
    refine zA (r := f64 x2) rfl rfl rfl rfl rfl ?_
    refine zN ?_
    exact ⟨x2, ⟨aR, trivial⟩, trivial, h⟩
   ·refine RunC.regionW ?_
    refine zM (r := i64 a1) rfl rfl rfl rfl rfl ?_
    refine zL (r := b false) rfl rfl rfl (LOp.eqb (LOp.lss rfl rfl rfl) hc3) ?_
    refine zN ?_
    refine RunC.cond_false rfl rfl ?_
    refine RunC.skip ?_
    exact ⟨a0, ⟨aR, trivial⟩, trivial, h⟩
 ·rintro τ2 Γ2 ⟨y3, hw2, hd2, h⟩
  refine RunC.wl hw2 hd2 ?_
  unfold x_math_IsInf_k1 at h
  refine zQ ?_
  refine zM (r := f64 y3) rfl rfl rfl rfl rfl ?_
  refine zL (r := b (flt .f64 (some 9218868437227405311) y3)) rfl rfl rfl (LOp.fgt rfl (OpF.tmp rfl) (OpF.const rfl (by kernel_rfl) (by kernel_rfl))) ?_
  refine zA (r := b (flt .f64 (some 9218868437227405311) y3)) rfl rfl rfl rfl rfl ?_
  refine zN ?_
  refine RunC.ret ?_
  have hq := Option.some.inj h
  subst q0
  exact bodyQ.pure (.inr rfl) rfl (Res.one rfl (RV.tmp rfl))
noncomputable def i_isFinite64 (a0 : F) : Option (Bool) :=
 obind (x_math_IsNaN a0) fun (r1 : Bool) =>
 bsel r1 (
  some false) (
  obind (x_math_IsInf a0 0) fun (r2 : Bool) =>
  some (!r2))
theorem i_isFinite64_ok (a0 : F) (q0 : Bool) (h : i_isFinite64 a0 = some q0) : Ev Tryz.prog 69 [f64 a0] [] (b q0) [] := by
 refine Ev.start Tryz.func69 rfl rfl 0 (τ := [(0, f64 a0)]) rfl (Γ' := []) rfl (n := 23) rfl (g := 0) rfl (fun _ => rfl) ?_
 unfold i_isFinite64 at h
 refine zQ ?_
 refine zA (r := b false) rfl rfl rfl rfl rfl ?_
 refine zN ?_
 refine RunC.seq ?_
 obtain ⟨r1, hf1, h⟩ := obind_some h
 rcases bsel_some h with ⟨hc2, h⟩ | ⟨hc2, h⟩
 ·refine RunC.regionW ?_
  refine zM (r := f64 a0) rfl rfl rfl rfl rfl ?_
  refine ROps.d (r := b true) (fs := []) (Γ' := []) rfl rfl rfl (TOp.eqb (TOp.callB (CallAs.func ent92 rfl rfl) (Bors.cons (Bor.pure rfl) Bors.nil) rfl rfl (x_math_IsNaN_ok a0 r1 hf1)) hc2) rfl ?_
  refine zL (r := b false) rfl rfl rfl (LOp.eqb (LOp.not rfl rfl) rfl) ?_
  refine zM (r := b false) rfl rfl rfl rfl rfl ?_
  refine ROps.s rfl rfl rfl ?_
  refine ROps.s rfl rfl rfl ?_
  refine ROps.s rfl rfl rfl ?_
  refine zL (r := b false) rfl rfl rfl (LOp.pick_false rfl rfl rfl) ?_
  refine zA (r := b false) rfl rfl rfl rfl rfl ?_
  refine zN ?_
  refine RunC.ret ?_
  have hq := Option.some.inj h
  subst q0
  exact bodyQ.pure (.inr rfl) rfl (Res.one rfl (RV.tmp rfl))
 ·obtain ⟨r2, hf3, h⟩ := obind_some h
  refine RunC.regionW ?_
  refine zM (r := f64 a0) rfl rfl rfl rfl rfl ?_
  refine ROps.d (r := b false) (fs := []) (Γ' := []) rfl rfl rfl (TOp.eqb (TOp.callB (CallAs.func ent92 rfl rfl) (Bors.cons (Bor.pure rfl) Bors.nil) rfl rfl (x_math_IsNaN_ok a0 r1 hf1)) hc2) rfl ?_
  refine zL (r := b true) rfl rfl rfl (LOp.eqb (LOp.not rfl rfl) rfl) ?_
  refine zM (r := b true) rfl rfl rfl rfl rfl ?_
  refine zM (r := f64 a0) rfl rfl rfl rfl rfl ?_
  refine ROps.d (r := b r2) (fs := []) (Γ' := []) rfl rfl rfl (TOp.callB (CallAs.func ent93 rfl rfl) (Bors.cons (Bor.pure rfl) (Bors.cons (Bor.pure rfl) Bors.nil)) rfl rfl (x_math_IsInf_ok a0 0 r2 hf3)) rfl ?_
  refine zL (r := b (!r2)) rfl rfl rfl (LOp.not rfl rfl) ?_
  refine zL (r := b (!r2)) rfl rfl rfl (LOp.pick_true rfl rfl rfl) ?_
  refine zA (r := b (!r2)) rfl rfl rfl rfl rfl ?_
  refine zN ?_
  refine RunC.ret ?_
  have hq := Option.some.inj h
  subst q0
  exact bodyQ.pure (.inr rfl) rfl (Res.one rfl (RV.tmp rfl))
noncomputable def i_IsFinite (a0 : F) : Option (Bool) :=
 olet (fwiden a0) fun (x1 : F) =>
 obind (i_isFinite64 x1) fun (r2 : Bool) =>
 some r2
theorem i_IsFinite_ok (a0 : F) (q0 : Bool) (h : i_IsFinite a0 = some q0) : Ev Tryz.prog 50 [f32 a0] [] (b q0) [] := by
 refine Ev.start Tryz.func50 rfl rfl 0 (τ := [(0, f32 a0)]) rfl (Γ' := []) rfl (n := 13) rfl (g := 0) rfl (fun _ => rfl) ?_
 unfold i_IsFinite at h
 refine zQ ?_
 refine zA (r := b false) rfl rfl rfl rfl rfl ?_
 refine zN ?_
 refine RunC.seq ?_
 obtain ⟨x1, hx1, h⟩ := olet_some h
 obtain ⟨r2, hf2, h⟩ := obind_some h
 refine RunC.regionW ?_
 refine zM (r := f32 a0) rfl rfl rfl rfl rfl ?_
 refine ROps.d (r := f64 x1) (fs := []) (Γ' := []) rfl rfl rfl (TOp.eqr (TOp.widen (src := 51) (dst := 58) ⟨_, pun51⟩ pun58 rfl (OpF.tmp rfl)) (congrArg (f .f64) hx1)) rfl ?_
 refine ROps.d (r := b r2) (fs := []) (Γ' := []) rfl rfl rfl (TOp.callB (CallAs.func ent69 rfl rfl) (Bors.cons (Bor.pure rfl) Bors.nil) rfl rfl (i_isFinite64_ok x1 r2 hf2)) rfl ?_
 refine zA (r := b r2) rfl rfl rfl rfl rfl ?_
 refine zN ?_
 refine RunC.ret ?_
 have hq := Option.some.inj h
 subst q0
 exact bodyQ.pure (.inr rfl) rfl (Res.one rfl (RV.tmp rfl))
noncomputable def i_areFinite_1 (a0 : F) : Option (Bool) :=
 obind (i_IsFinite a0) fun (r1 : Bool) =>
 some (!r1)
theorem i_areFinite_1_ok (a0 : F) (q0 : Bool) (h : i_areFinite_1 a0 = some q0) : Ev Tryz.prog 49 [f32 a0] [] (b q0) [] := by
 refine Ev.start Tryz.func49 rfl rfl 0 (τ := [(0, f32 a0)]) rfl (Γ' := []) rfl (n := 13) rfl (g := 0) rfl (fun _ => rfl) ?_
 unfold i_areFinite_1 at h
 refine zQ ?_
 refine zA (r := b false) rfl rfl rfl rfl rfl ?_
 refine zN ?_
 refine RunC.seq ?_
 obtain ⟨r1, hf1, h⟩ := obind_some h
 refine RunC.regionW ?_
 refine zM (r := f32 a0) rfl rfl rfl rfl rfl ?_
 refine ROps.d (r := b r1) (fs := []) (Γ' := []) rfl rfl rfl (TOp.callB (CallAs.func ent50 rfl rfl) (Bors.cons (Bor.pure rfl) Bors.nil) rfl rfl (i_IsFinite_ok a0 r1 hf1)) rfl ?_
 refine zL (r := b (!r1)) rfl rfl rfl (LOp.not rfl rfl) ?_
 refine zA (r := b (!r1)) rfl rfl rfl rfl rfl ?_
 refine zN ?_
 refine RunC.ret ?_
 have hq := Option.some.inj h
 subst q0
 exact bodyQ.pure (.inr rfl) rfl (Res.one rfl (RV.tmp rfl))
noncomputable def x_slices_IndexFunc_float32_float32_1Fi_areFinite_1_b1 (a0 : List F) (v1 : Int) : Option (LR (Int) (Unit) (Int)) :=
 bsel (decide (v1 < (a0.length : Int))) (
  obind (at? a0 v1) fun (e2 : F) =>
  obind (i_areFinite_1 e2) fun (r3 : Bool) =>
  bsel r3 (
   some (LR.ret v1)) (
   olet (IntKind.i64.wrap (v1 + 1)) fun (x4 : Int) =>
   some (LR.next x4))) (
  some (LR.out ()))
noncomputable def x_slices_IndexFunc_float32_float32_1Fi_areFinite_1_s1 (a0 : List F) : (Int) → Option (LR (Int) (Unit) (Int)) := fun s => x_slices_IndexFunc_float32_float32_1Fi_areFinite_1_b1 a0 s
noncomputable def x_slices_IndexFunc_float32_float32_1Fi_areFinite_1_k1  : Option (Int) :=
 some (-1)
noncomputable def x_slices_IndexFunc_float32_float32_1Fi_areFinite_1 (a0 : List F) : Option (Int) :=
 obind (loopM (x_slices_IndexFunc_float32_float32_1Fi_areFinite_1_s1 a0) 0) fun z => osum z (fun _ => x_slices_IndexFunc_float32_float32_1Fi_areFinite_1_k1) (fun r => some r)
theorem x_slices_IndexFunc_float32_float32_1Fi_areFinite_1_ok (a0 : List F) (q0 : Int) (h : x_slices_IndexFunc_float32_float32_1Fi_areFinite_1 a0 = some q0) : Ev Tryz.prog 68 [sl a0.length (a0.map f32), fn (.func 49) [] []] [] (i64 q0) [] := by
 refine Ev.start Tryz.func68 rfl rfl 0 (τ := [(0, sl a0.length (a0.map f32)), (1, fn (.func 49) [] [])]) rfl (Γ' := []) rfl (n := 39) rfl (g := 0) rfl (fun _ => rfl) ?_
 unfold x_slices_IndexFunc_float32_float32_1Fi_areFinite_1 at h
 refine zQ ?_
 refine zA (r := i64 0) rfl rfl rfl rfl rfl ?_
 refine zN ?_
 refine RunC.seq ?_
 refine zQ ?_
 refine zM (r := sl a0.length (a0.map f32)) rfl rfl rfl rfl rfl ?_
 refine zL (r := i64 (a0.length : Int)) rfl rfl rfl (LOp.len_sl und22 rfl rfl) ?_
 refine zM (r := i64 0) rfl rfl rfl rfl rfl ?_
 refine zN ?_
 obtain ⟨z2, hz_2, h⟩ := obind_some h
 refine RunC.cutN (fun τ Γ => WeakLe τ [] ∧ DeadLe Γ [] ∧ z2 = .inl ()) ?_ ?_
 ·refine RunC.block (RunC.loop (RunL.loopM (x := z2) (x_slices_IndexFunc_float32_float32_1Fi_areFinite_1_s1 a0) (fun (s : Int) τ Γ => WeakLe τ [(0, sl a0.length (a0.map f32)), (1, fn (.func 49) [] []), (7, i64 (a0.length : Int)), (8, i64 s)] ∧ DeadLe Γ []) ?_ _ _ _ hz_2 ⟨⟨aR, aR, aR, aR, trivial⟩, trivial⟩))
  rintro v1 τ2 Γ2 y2_ ⟨hw2, hd2⟩ h2_ ho2 hr2
  refine RunC.wl (τ' := [(0, sl a0.length (a0.map f32)), (1, fn (.func 49) [] []), (7, i64 (a0.length : Int)), (8, i64 v1)]) (Γ' := []) hw2 hd2 ?_
  replace h2_ : x_slices_IndexFunc_float32_float32_1Fi_areFinite_1_b1 a0 v1 = some y2_ := h2_
  unfold x_slices_IndexFunc_float32_float32_1Fi_areFinite_1_b1 at h2_
  refine RunC.seq ?_
  rcases bsel_some h2_ with ⟨hc1, h2_⟩ | ⟨hc1, h2_⟩
  ·refine RunC.regionW ?_
   refine zL (r := b true) rfl rfl rfl (LOp.eqb (LOp.lss rfl rfl rfl) hc1) ?_
   refine zN ?_
   refine RunC.seq ?_
   refine RunC.cond_true rfl rfl ?_
   refine RunC.skip ?_
   refine RunC.seq ?_
   refine RunC.block ?_
   refine zQ ?_
   refine zM (r := i64 v1) rfl rfl rfl rfl rfl ?_
   refine zA (r := i64 v1) rfl rfl rfl rfl rfl ?_
   refine zN ?_
   refine RunC.seq ?_
   obtain ⟨e2, he2, h2_⟩ := obind_some h2_
   obtain ⟨r3, hf3, h2_⟩ := obind_some h2_
   rcases bsel_some h2_ with ⟨hc4, h2_⟩ | ⟨hc4, h2_⟩
   ·refine RunC.regionW ?_
    refine zM (r := fn (.func 49) [] []) rfl rfl rfl rfl rfl ?_
    refine zM (r := sl a0.length (a0.map f32)) rfl rfl rfl rfl rfl ?_
    refine zM (r := i64 v1) rfl rfl rfl rfl rfl ?_
    refine zL (r := ptr [f32 e2]) rfl rfl rfl (LOp.le (LOp.ix (f := f32) und22 siz51 rfl rfl rfl rfl he2) ALe.ptr) ?_
    refine zL (r := f32 e2) rfl rfl rfl (LOp.load1 agg51 rfl rfl) ?_
    refine ROps.d (r := b true) (fs := []) (Γ' := []) rfl rfl rfl (TOp.eqb (TOp.callB (CallAs.fn ent49 rfl rfl rfl rfl) (Bors.cons (Bor.pure rfl) Bors.nil) rfl rfl (i_areFinite_1_ok e2 r3 hf3)) hc4) rfl ?_
    refine zN ?_
    refine RunC.cond_true rfl rfl ?_
    refine zQ ?_
    refine zM (r := i64 v1) rfl rfl rfl rfl rfl ?_
    refine zA (r := i64 v1) rfl rfl rfl rfl rfl ?_
    refine zN ?_
    refine RunC.ret ?_
    cases Option.some.inj h2_
    have hx3_ := hr2 _ rfl
    subst hx3_
    have hq := Option.some.inj h
    subst q0
    exact bodyQ.pure (.inr rfl) rfl (Res.one rfl (RV.tmp rfl))
   ·refine RunC.regionW ?_
    refine zM (r := fn (.func 49) [] []) rfl rfl rfl rfl rfl ?_
    refine zM (r := sl a0.length (a0.map f32)) rfl rfl rfl rfl rfl ?_
    refine zM (r := i64 v1) rfl rfl rfl rfl rfl ?_
    refine zL (r := ptr [f32 e2]) rfl rfl rfl (LOp.le (LOp.ix (f := f32) und22 siz51 rfl rfl rfl rfl he2) ALe.ptr) ?_
    refine zL (r := f32 e2) rfl rfl rfl (LOp.load1 agg51 rfl rfl) ?_
    refine ROps.d (r := b false) (fs := []) (Γ' := []) rfl rfl rfl (TOp.eqb (TOp.callB (CallAs.fn ent49 rfl rfl rfl rfl) (Bors.cons (Bor.pure rfl) Bors.nil) rfl rfl (i_areFinite_1_ok e2 r3 hf3)) hc4) rfl ?_
    refine zN ?_
    refine RunC.cond_false rfl rfl ?_
    refine RunC.skip ?_
    obtain ⟨x4, hx5, h2_⟩ := olet_some h2_
    refine RunC.regionW ?_
    refine zL (r := i64 x4) rfl rfl rfl (LOp.eqr (LOp.add rfl rfl rfl) (congrArg (ik .i64) hx5)) ?_
    refine zM (r := i64 x4) rfl rfl rfl rfl rfl ?_
    refine zN ?_
    cases Option.some.inj h2_
    exact ⟨_, rfl, ⟨aR, aR, aR, aR, trivial⟩, trivial⟩
  ·refine RunC.regionW ?_
   refine zL (r := b false) rfl rfl rfl (LOp.eqb (LOp.lss rfl rfl rfl) hc1) ?_
   refine zN ?_
   refine RunC.seq ?_
   refine RunC.cond_false rfl rfl ?_
   refine RunC.exit ?_
   cases Option.some.inj h2_
   have hx := ho2 _ rfl
   exact ⟨trivial, trivial, hx⟩
 ·rintro τ4 Γ4 ⟨hw4, hd4, rfl⟩
  refine RunC.wl hw4 hd4 ?_
  replace h : x_slices_IndexFunc_float32_float32_1Fi_areFinite_1_k1 = some q0 := h
  unfold x_slices_IndexFunc_float32_float32_1Fi_areFinite_1_k1 at h
  refine zQ ?_
  refine zA (r := i64 (-1)) rfl rfl rfl rfl rfl ?_
  refine zN ?_
  refine RunC.ret ?_
  have hq := Option.some.inj h
  subst q0
  exact bodyQ.pure (.inr rfl) rfl (Res.one rfl (RV.tmp rfl))
noncomputable def x_slices_ContainsFunc_float32_float32_1Fi_areFinite_1 (a0 : List F) : Option (Bool) :=
 obind (x_slices_IndexFunc_float32_float32_1Fi_areFinite_1 a0) fun (r1 : Int) =>
 some (decide (0 ≤ r1))
theorem x_slices_ContainsFunc_float32_float32_1Fi_areFinite_1_ok (a0 : List F) (q0 : Bool) (h : x_slices_ContainsFunc_float32_float32_1Fi_areFinite_1 a0 = some q0) : Ev Tryz.prog 48 [sl a0.length (a0.map f32), fn (.func 49) [] []] [] (b q0) [] := by
 refine Ev.start Tryz.func48 rfl rfl 0 (τ := [(0, sl a0.length (a0.map f32)), (1, fn (.func 49) [] [])]) rfl (Γ' := []) rfl (n := 19) rfl (g := 0) rfl (fun _ => rfl) ?_
 unfold x_slices_ContainsFunc_float32_float32_1Fi_areFinite_1 at h
 refine zQ ?_
 refine zA (r := b false) rfl rfl rfl rfl rfl ?_
 refine zN ?_
 refine RunC.seq ?_
 obtain ⟨r1, hf1, h⟩ := obind_some h
 refine RunC.regionW ?_
 refine zM (r := sl a0.length (a0.map f32)) rfl rfl rfl rfl rfl ?_
 refine zM (r := fn (.func 49) [] []) rfl rfl rfl rfl rfl ?_
 refine ROps.d (r := i64 r1) (fs := []) (Γ' := []) rfl rfl rfl (TOp.callB (CallAs.func ent68 rfl rfl) (Bors.cons (Bor.sl (fun _ => rfl)) (Bors.cons (Bor.fn Bors.nil Bors.nil) Bors.nil)) rfl rfl (x_slices_IndexFunc_float32_float32_1Fi_areFinite_1_ok a0 r1 hf1)) rfl ?_
 refine zL (r := b (decide (0 ≤ r1))) rfl rfl rfl (LOp.geq rfl rfl rfl) ?_
 refine zA (r := b (decide (0 ≤ r1))) rfl rfl rfl rfl rfl ?_
 refine zN ?_
 refine RunC.ret ?_
 have hq := Option.some.inj h
 subst q0
 exact bodyQ.pure (.inr rfl) rfl (Res.one rfl (RV.tmp rfl))
noncomputable def i_areFinite (a0 : List F) : Option (Bool) :=
 obind (x_slices_ContainsFunc_float32_float32_1Fi_areFinite_1 a0) fun (r1 : Bool) =>
 some (!r1)
theorem i_areFinite_ok (a0 : List F) (q0 : Bool) (h : i_areFinite a0 = some q0) : Ev Tryz.prog 33 [sl a0.length (a0.map f32)] [] (b q0) [] := by
 refine Ev.start Tryz.func33 rfl rfl 0 (τ := [(0, sl a0.length (a0.map f32))]) rfl (Γ' := []) rfl (n := 13) rfl (g := 0) rfl (fun _ => rfl) ?_
 unfold i_areFinite at h
 refine zQ ?_
 refine zA (r := b false) rfl rfl rfl rfl rfl ?_
 refine zN ?_
 refine RunC.seq ?_
 obtain ⟨r1, hf1, h⟩ := obind_some h
 refine RunC.regionW ?_
 refine zM (r := sl a0.length (a0.map f32)) rfl rfl rfl rfl rfl ?_
 refine ROps.d (r := b r1) (fs := []) (Γ' := []) rfl rfl rfl (TOp.callB (CallAs.func ent48 rfl rfl) (Bors.cons (Bor.sl (fun _ => rfl)) (Bors.cons (Bor.fn Bors.nil Bors.nil) Bors.nil)) rfl rfl (x_slices_ContainsFunc_float32_float32_1Fi_areFinite_1_ok a0 r1 hf1)) rfl ?_
 refine zL (r := b (!r1)) rfl rfl rfl (LOp.not rfl rfl) ?_
 refine zA (r := b (!r1)) rfl rfl rfl rfl rfl ?_
 refine zN ?_
 refine RunC.ret ?_
 have hq := Option.some.inj h
 subst q0
 exact bodyQ.pure (.inr rfl) rfl (Res.one rfl (RV.tmp rfl))
noncomputable def i_ValidMatrix (a0 : Int) (a1 : Int) (a2 : List F) : Option (Bool) :=
 obind (i_isSide a0) fun (r1 : Bool) =>
 bsel r1 (
  obind (i_isSide a1) fun (r2 : Bool) =>
  bsel r2 (
   obind (i_length_float32 a2) fun (r3 : Int) =>
   olet (IntKind.i64.wrap (a0 * a1)) fun (x4 : Int) =>
   bsel (decide (r3 = x4)) (
    obind (i_areFinite a2) fun (r5 : Bool) =>
    some r5) (
    some false)) (
   some false)) (
  some false)
theorem i_ValidMatrix_ok (a0 : Int) (a1 : Int) (a2 : List F) (q0 : Bool) (h : i_ValidMatrix a0 a1 a2 = some q0) : Ev Tryz.prog 38 [agg [i64 a0, i64 a1, sl a2.length (a2.map f32)]] [] (b q0) [] := by
 refine Ev.start Tryz.func38 rfl rfl 0 (τ := [(0, agg [i64 a0, i64 a1, sl a2.length (a2.map f32)])]) rfl (Γ' := []) rfl (n := 55) rfl (g := 0) rfl (fun _ => rfl) ?_
 unfold i_ValidMatrix at h
 refine zQ ?_
 refine ROps.d (r := ptr [i64 a0, i64 a1, sl a2.length (a2.map f32)]) (fs := []) (Γ' := []) rfl rfl rfl (TOp.box_s rfl rfl rfl) rfl ?_
 refine zA (r := b false) rfl rfl rfl rfl rfl ?_
 refine zN ?_
 refine RunC.seq ?_
 obtain ⟨r1, hf1, h⟩ := obind_some h
 rcases bsel_some h with ⟨hc2, h⟩ | ⟨hc2, h⟩
 ·obtain ⟨r2, hf3, h⟩ := obind_some h
  rcases bsel_some h with ⟨hc4, h⟩ | ⟨hc4, h⟩
  ·obtain ⟨r3, hf5, h⟩ := obind_some h
   obtain ⟨x4, hx6, h⟩ := olet_some h
   rcases bsel_some h with ⟨hc7, h⟩ | ⟨hc7, h⟩
   ·obtain ⟨r5, hf8, h⟩ := obind_some h
    refine RunC.region_draw (Γ' := []) 25 mixed 
     (TR.l (r := ptr [i64 a0, i64 a1, sl a2.length (a2.map f32)]) rfl rfl (LOp.fap und31 rfl siz2 rfl rfl rfl) <|
     (TR.l (r := i64 a0) rfl rfl (LOp.load1 agg2 rfl rfl) <|
     (TR.d (r := b true) (fs := []) rfl rfl (TOp.eqb (TOp.callB (CallAs.func ent31 rfl rfl) (Bors.cons (Bor.pure rfl) Bors.nil) rfl rfl (i_isSide_ok a0 r1 hf1)) hc2) <|
     (TR.l (r := b true) rfl rfl (LOp.move rfl rfl) <|
     (TR.l (r := ptr [i64 a1, sl a2.length (a2.map f32)]) rfl rfl (LOp.fap und31 rfl siz2 rfl rfl rfl) <|
     (TR.l (r := i64 a1) rfl rfl (LOp.load1 agg2 rfl rfl) <|
     (TR.d (r := b true) (fs := []) rfl rfl (TOp.eqb (TOp.callB (CallAs.func ent31 rfl rfl) (Bors.cons (Bor.pure rfl) Bors.nil) rfl rfl (i_isSide_ok a1 r2 hf3)) hc4) <|
     (TR.l (r := b true) rfl rfl (LOp.pick_true rfl rfl rfl) <|
     (TR.l (r := b true) rfl rfl (LOp.move rfl rfl) <|
     (TR.l (r := ptr [sl a2.length (a2.map f32)]) rfl rfl (LOp.fap und31 rfl siz22 rfl rfl rfl) <|
     (TR.l (r := sl a2.length (a2.map f32)) rfl rfl (LOp.load1 agg22 rfl rfl) <|
     (TR.d (r := i64 r3) (fs := []) rfl rfl (TOp.callB (CallAs.func ent32 rfl rfl) (Bors.cons (Bor.sl (fun _ => rfl)) Bors.nil) rfl rfl (i_length_float32_ok a2 r3 hf5)) <|
     (TR.l (r := ptr [i64 a0, i64 a1, sl a2.length (a2.map f32)]) rfl rfl (LOp.fap und31 rfl siz2 rfl rfl rfl) <|
     (TR.l (r := i64 a0) rfl rfl (LOp.load1 agg2 rfl rfl) <|
     (TR.l (r := ptr [i64 a1, sl a2.length (a2.map f32)]) rfl rfl (LOp.fap und31 rfl siz2 rfl rfl rfl) <|
     (TR.l (r := i64 a1) rfl rfl (LOp.load1 agg2 rfl rfl) <|
     (TR.l (r := i64 x4) rfl rfl (LOp.eqr (LOp.mul rfl rfl rfl) (congrArg (ik .i64) hx6)) <|
     (TR.l (r := b true) rfl rfl (LOp.eqb (LOp.eql rfl rfl rfl) hc7) <|
     (TR.l (r := b true) rfl rfl (LOp.pick_true rfl rfl rfl) <|
     (TR.l (r := b true) rfl rfl (LOp.move rfl rfl) <|
     (TR.l (r := ptr [sl a2.length (a2.map f32)]) rfl rfl (LOp.fap und31 rfl siz22 rfl rfl rfl) <|
     (TR.l (r := sl a2.length (a2.map f32)) rfl rfl (LOp.load1 agg22 rfl rfl) <|
     (TR.d (r := b r5) (fs := []) rfl rfl (TOp.callB (CallAs.func ent33 rfl rfl) (Bors.cons (Bor.sl (fun _ => rfl)) Bors.nil) rfl rfl (i_areFinite_ok a2 r5 hf8)) <|
     (TR.l (r := b r5) rfl rfl (LOp.pick_true rfl rfl rfl) <|
     (TR.l (r := b r5) rfl rfl (LOp.assign rfl rfl) <|
     TR.nil))))))))))))))))))))))))) rfl (by kernel_rfl) rfl fills_nil rfl ?_
    iterate 25 refine ROps.dropS ?_
    refine ROps.drop0 ?_
    refine zN ?_
    refine RunC.ret ?_
    have hq := Option.some.inj h
    subst q0
    exact bodyQ.pure (.inr rfl) rfl (Res.one rfl (RV.tmp rfl))
   ·refine RunC.region_draw (Γ' := []) 25 mixed 
     (TR.l (r := ptr [i64 a0, i64 a1, sl a2.length (a2.map f32)]) rfl rfl (LOp.fap und31 rfl siz2 rfl rfl rfl) <|
     (TR.l (r := i64 a0) rfl rfl (LOp.load1 agg2 rfl rfl) <|
     (TR.d (r := b true) (fs := []) rfl rfl (TOp.eqb (TOp.callB (CallAs.func ent31 rfl rfl) (Bors.cons (Bor.pure rfl) Bors.nil) rfl rfl (i_isSide_ok a0 r1 hf1)) hc2) <|
     (TR.l (r := b true) rfl rfl (LOp.move rfl rfl) <|
     (TR.l (r := ptr [i64 a1, sl a2.length (a2.map f32)]) rfl rfl (LOp.fap und31 rfl siz2 rfl rfl rfl) <|
     (TR.l (r := i64 a1) rfl rfl (LOp.load1 agg2 rfl rfl) <|
     (TR.d (r := b true) (fs := []) rfl rfl (TOp.eqb (TOp.callB (CallAs.func ent31 rfl rfl) (Bors.cons (Bor.pure rfl) Bors.nil) rfl rfl (i_isSide_ok a1 r2 hf3)) hc4) <|
     (TR.l (r := b true) rfl rfl (LOp.pick_true rfl rfl rfl) <|
     (TR.l (r := b true) rfl rfl (LOp.move rfl rfl) <|
     (TR.l (r := ptr [sl a2.length (a2.map f32)]) rfl rfl (LOp.fap und31 rfl siz22 rfl rfl rfl) <|
     (TR.l (r := sl a2.length (a2.map f32)) rfl rfl (LOp.load1 agg22 rfl rfl) <|
     (TR.d (r := i64 r3) (fs := []) rfl rfl (TOp.callB (CallAs.func ent32 rfl rfl) (Bors.cons (Bor.sl (fun _ => rfl)) Bors.nil) rfl rfl (i_length_float32_ok a2 r3 hf5)) <|
     (TR.l (r := ptr [i64 a0, i64 a1, sl a2.length (a2.map f32)]) rfl rfl (LOp.fap und31 rfl siz2 rfl rfl rfl) <|
     (TR.l (r := i64 a0) rfl rfl (LOp.load1 agg2 rfl rfl) <|
     (TR.l (r := ptr [i64 a1, sl a2.length (a2.map f32)]) rfl rfl (LOp.fap und31 rfl siz2 rfl rfl rfl) <|
     (TR.l (r := i64 a1) rfl rfl (LOp.load1 agg2 rfl rfl) <|
     (TR.l (r := i64 x4) rfl rfl (LOp.eqr (LOp.mul rfl rfl rfl) (congrArg (ik .i64) hx6)) <|
     (TR.l (r := b false) rfl rfl (LOp.eqb (LOp.eql rfl rfl rfl) hc7) <|
     (TR.l (r := b false) rfl rfl (LOp.pick_true rfl rfl rfl) <|
     (TR.l (r := b false) rfl rfl (LOp.move rfl rfl) <|
     (TR.s rfl rfl <|
     (TR.s rfl rfl <|
     (TR.s rfl rfl <|
     (TR.l (r := b false) rfl rfl (LOp.pick_false rfl rfl rfl) <|
     (TR.l (r := b false) rfl rfl (LOp.assign rfl rfl) <|
     TR.nil))))))))))))))))))))))))) rfl (by kernel_rfl) rfl fills_nil rfl ?_
    iterate 25 refine ROps.dropS ?_
    refine ROps.drop0 ?_
    refine zN ?_
    refine RunC.ret ?_
    have hq := Option.some.inj h
    subst q0
    exact bodyQ.pure (.inr rfl) rfl (Res.one rfl (RV.tmp rfl))
  ·refine RunC.region_draw (Γ' := []) 25 mixed 
    (TR.l (r := ptr [i64 a0, i64 a1, sl a2.length (a2.map f32)]) rfl rfl (LOp.fap und31 rfl siz2 rfl rfl rfl) <|
    (TR.l (r := i64 a0) rfl rfl (LOp.load1 agg2 rfl rfl) <|
    (TR.d (r := b true) (fs := []) rfl rfl (TOp.eqb (TOp.callB (CallAs.func ent31 rfl rfl) (Bors.cons (Bor.pure rfl) Bors.nil) rfl rfl (i_isSide_ok a0 r1 hf1)) hc2) <|
    (TR.l (r := b true) rfl rfl (LOp.move rfl rfl) <|
    (TR.l (r := ptr [i64 a1, sl a2.length (a2.map f32)]) rfl rfl (LOp.fap und31 rfl siz2 rfl rfl rfl) <|
    (TR.l (r := i64 a1) rfl rfl (LOp.load1 agg2 rfl rfl) <|
    (TR.d (r := b false) (fs := []) rfl rfl (TOp.eqb (TOp.callB (CallAs.func ent31 rfl rfl) (Bors.cons (Bor.pure rfl) Bors.nil) rfl rfl (i_isSide_ok a1 r2 hf3)) hc4) <|
    (TR.l (r := b false) rfl rfl (LOp.pick_true rfl rfl rfl) <|
    (TR.l (r := b false) rfl rfl (LOp.move rfl rfl) <|
    (TR.s rfl rfl <|
    (TR.s rfl rfl <|
    (TR.s rfl rfl <|
    (TR.s rfl rfl <|
    (TR.s rfl rfl <|
    (TR.s rfl rfl <|
    (TR.s rfl rfl <|
    (TR.s rfl rfl <|
    (TR.s rfl rfl <|
    (TR.l (r := b false) rfl rfl (LOp.pick_false rfl rfl rfl) <|
    (TR.l (r := b false) rfl rfl (LOp.move rfl rfl) <|
    (TR.s rfl rfl <|
    (TR.s rfl rfl <|
    (TR.s rfl rfl <|
    (TR.l (r := b false) rfl rfl (LOp.pick_false rfl rfl rfl) <|
    (TR.l (r := b false) rfl rfl (LOp.assign rfl rfl) <|
    TR.nil))))))))))))))))))))))))) rfl (by kernel_rfl) rfl fills_nil rfl ?_
   iterate 25 refine ROps.dropS ?_
   refine ROps.drop0 ?_
   refine zN ?_
   refine RunC.ret ?_
   have hq := Option.some.inj h
   subst q0
   exact bodyQ.pure (.inr rfl) rfl (Res.one rfl (RV.tmp rfl))
 ·refine RunC.region_draw (Γ' := []) 25 mixed 
   (TR.l (r := ptr [i64 a0, i64 a1, sl a2.length (a2.map f32)]) rfl rfl (LOp.fap und31 rfl siz2 rfl rfl rfl) <|
   (TR.l (r := i64 a0) rfl rfl (LOp.load1 agg2 rfl rfl) <|
   (TR.d (r := b false) (fs := []) rfl rfl (TOp.eqb (TOp.callB (CallAs.func ent31 rfl rfl) (Bors.cons (Bor.pure rfl) Bors.nil) rfl rfl (i_isSide_ok a0 r1 hf1)) hc2) <|
   (TR.l (r := b false) rfl rfl (LOp.move rfl rfl) <|
   (TR.s rfl rfl <|
   (TR.s rfl rfl <|
   (TR.s rfl rfl <|
   (TR.l (r := b false) rfl rfl (LOp.pick_false rfl rfl rfl) <|
   (TR.l (r := b false) rfl rfl (LOp.move rfl rfl) <|
   (TR.s rfl rfl <|
   (TR.s rfl rfl <|
   (TR.s rfl rfl <|
   (TR.s rfl rfl <|
   (TR.s rfl rfl <|
   (TR.s rfl rfl <|
   (TR.s rfl rfl <|
   (TR.s rfl rfl <|
   (TR.s rfl rfl <|
   (TR.l (r := b false) rfl rfl (LOp.pick_false rfl rfl rfl) <|
   (TR.l (r := b false) rfl rfl (LOp.move rfl rfl) <|
   (TR.s rfl rfl <|
   (TR.s rfl rfl <|
   (TR.s rfl rfl <|
   (TR.l (r := b false) rfl rfl (LOp.pick_false rfl rfl rfl) <|
   (TR.l (r := b false) rfl rfl (LOp.assign rfl rfl) <|
   TR.nil))))))))))))))))))))))))) rfl (by kernel_rfl) rfl fills_nil rfl ?_
  iterate 25 refine ROps.dropS ?_
  refine ROps.drop0 ?_
  refine zN ?_
  refine RunC.ret ?_
  have hq := Option.some.inj h
  subst q0
  exact bodyQ.pure (.inr rfl) rfl (Res.one rfl (RV.tmp rfl))
noncomputable def i_Matrix_valid_02o (a0 : Int) (a1 : Int) (a2 : List F) : Option ((Int × Int × Bool × (List F)) ⊕ (Int × Int × Bool × (List F) × (List F))) :=
 obind (i_ValidMatrix a0 a1 a2) fun (r1 : Bool) =>
 bsel r1 (
  some (Sum.inl (a0, a1, true, a2))) (
  some (Sum.inr (0, 0, false, a2, ([] : List F))))
theorem i_Matrix_valid_02o_ok0 (a0 : Int) (a1 : Int) (a2 : List F) (q0 : Int) (q1 : Int) (q2 : Bool) (q3 : List F) (h : i_Matrix_valid_02o a0 a1 a2 = some (Sum.inl (q0, q1, q2, q3))) : Ev Tryz.prog 24 [agg [i64 a0, i64 a1, oref 0 0 0 a2.length]] [⟨0, some (a2.map f32)⟩] (tup [agg [i64 q0, i64 q1, oref 0 0 0 q3.length], b q2]) [⟨0, some (q3.map f32)⟩] := by
 refine Ev.start Tryz.func24 rfl rfl 2 (τ := [(0, agg [i64 a0, i64 a1, oref 0 0 0 a2.length])]) rfl (Γ' := [⟨0, some (a2.map f32)⟩, ⟨0, none⟩, ⟨0, none⟩]) rfl (n := 18) rfl (g := 1) rfl (by decide) ?_
 unfold i_Matrix_valid_02o at h
 refine zQ ?_
 refine ROps.d (r := ptr [i64 a0, i64 a1, oref 0 0 0 a2.length]) (fs := []) (Γ' := [⟨0, some (a2.map f32)⟩, ⟨0, none⟩, ⟨0, none⟩]) rfl rfl rfl (TOp.box_s rfl rfl rfl) rfl ?_
 refine ROps.d (r := optr 1 1 0) (fs := [(1, [i64 0, i64 0, nilsl])]) (Γ' := [⟨0, some (a2.map f32)⟩, ⟨1, some [i64 0, i64 0, nilsl]⟩, ⟨0, none⟩]) rfl rfl rfl (TOp.alloc_o (g := ⟨0, none⟩) 1 rfl zer31 zok31 rfl) rfl ?_
 refine zA (r := b false) rfl rfl rfl rfl rfl ?_
 refine zN ?_
 refine RunC.seq ?_
 refine RunC.seq ?_
 obtain ⟨r1, hf1, h⟩ := obind_some h
 rcases bsel_some h with ⟨hc2, h⟩ | ⟨hc2, h⟩
 ·refine RunC.regionW ?_
  refine zL (r := agg [i64 a0, i64 a1, oref 0 0 0 a2.length]) rfl rfl rfl (LOp.loadAgg agg31 siz31 rfl rfl rfl rfl) ?_
  refine ROps.d (r := b true) (fs := []) (Γ' := [⟨0, some (a2.map f32)⟩, ⟨1, some [i64 0, i64 0, nilsl]⟩, ⟨0, none⟩]) rfl rfl rfl (TOp.eqb (TOp.callB (CallAs.func ent38 rfl rfl) (Bors.cons (Bor.agg (Bors.cons (Bor.pure rfl) (Bors.cons (Bor.pure rfl) (Bors.cons (Bor.own (f := f32) (fun _ => rfl) rfl rfl) Bors.nil)))) Bors.nil) rfl rfl (i_ValidMatrix_ok a0 a1 a2 r1 hf1)) hc2) rfl ?_
  refine zL (r := b false) rfl rfl rfl (LOp.eqb (LOp.not rfl rfl) rfl) ?_
  refine zN ?_
  refine RunC.cond_false rfl rfl ?_
  refine RunC.skip ?_
  refine zQ ?_
  refine zL (r := agg [i64 a0, i64 a1, oref 0 0 0 a2.length]) rfl rfl rfl (LOp.loadAgg agg31 siz31 rfl rfl rfl rfl) ?_
  refine ROps.store_le (r := agg [i64 a0, i64 a1, oref 0 0 0 a2.length]) (l' := [i64 a0, i64 a1, oref 0 0 0 a2.length]) (Γ' := [⟨0, some (a2.map f32)⟩, ⟨1, some [i64 a0, i64 a1, oref 0 0 0 a2.length]⟩, ⟨0, none⟩]) rfl siz31 rfl rfl rfl aR rfl rfl rfl rfl (Nat.le_of_ble_eq_true rfl) rfl rfl ?_
  refine zA (r := b true) rfl rfl rfl rfl rfl ?_
  refine zN ?_
  refine RunC.ret ?_
  have hq := Option.some.inj h
  have hq := Sum.inl.inj hq
  obtain ⟨hq0, hq⟩ := Prod.mk.inj hq
  obtain ⟨hq1, hq⟩ := Prod.mk.inj hq
  obtain ⟨hq2, hq⟩ := Prod.mk.inj hq
  subst q0
  subst q1
  subst q2
  subst q3
  exact bodyQ.mk (r' := tup [agg [i64 a0, i64 a1, oref 0 0 0 a2.length], b true]) [(0, 0)] (.inr rfl) rfl (show List.Nodup [0] from by decide) rfl rfl (Res.two rfl (RV.cell agg31 siz31 rfl rfl rfl rfl) (RV.tmp rfl)) (SelL.arr (f := f32) (fun _ => rfl) rfl trivial)
 ·refine RunC.regionW ?_
  refine zL (r := agg [i64 a0, i64 a1, oref 0 0 0 a2.length]) rfl rfl rfl (LOp.loadAgg agg31 siz31 rfl rfl rfl rfl) ?_
  refine ROps.d (r := b false) (fs := []) (Γ' := [⟨0, some (a2.map f32)⟩, ⟨1, some [i64 0, i64 0, nilsl]⟩, ⟨0, none⟩]) rfl rfl rfl (TOp.eqb (TOp.callB (CallAs.func ent38 rfl rfl) (Bors.cons (Bor.agg (Bors.cons (Bor.pure rfl) (Bors.cons (Bor.pure rfl) (Bors.cons (Bor.own (f := f32) (fun _ => rfl) rfl rfl) Bors.nil)))) Bors.nil) rfl rfl (i_ValidMatrix_ok a0 a1 a2 r1 hf1)) hc2) rfl ?_
  refine zL (r := b true) rfl rfl rfl (LOp.eqb (LOp.not rfl rfl) rfl) ?_
  refine zN ?_
  refine RunC.cond_true rfl rfl ?_
  refine zQ ?_
  refine zL (r := agg [i64 0, i64 0, nilsl]) rfl rfl rfl (LOp.build (qs := []) zer31 zok31 und31 plc31 rfl trivial rfl) ?_
  refine ROps.store_le (r := agg [i64 0, i64 0, nilsl]) (l' := [i64 0, i64 0, nilsl]) (Γ' := [⟨0, some (a2.map f32)⟩, ⟨1, some [i64 0, i64 0, nilsl]⟩, ⟨0, none⟩]) rfl siz31 rfl rfl rfl aR rfl rfl rfl rfl (Nat.le_of_ble_eq_true rfl) rfl rfl ?_
  refine zA (r := b false) rfl rfl rfl rfl rfl ?_
  refine zN ?_
  cases Option.some.inj h
theorem i_Matrix_valid_02o_ok1 (a0 : Int) (a1 : Int) (a2 : List F) (q0 : Int) (q1 : Int) (q2 : Bool) (q3 : List F) (q4 : List F) (h : i_Matrix_valid_02o a0 a1 a2 = some (Sum.inr (q0, q1, q2, q3, q4))) : Ev Tryz.prog 24 [agg [i64 a0, i64 a1, oref 0 0 0 a2.length]] [⟨0, some (a2.map f32)⟩] (tup [agg [i64 q0, i64 q1, oref 1 0 0 q4.length], b q2]) [⟨0, some (q3.map f32)⟩, ⟨0, some (q4.map f32)⟩] := by
 refine Ev.start Tryz.func24 rfl rfl 2 (τ := [(0, agg [i64 a0, i64 a1, oref 0 0 0 a2.length])]) rfl (Γ' := [⟨0, some (a2.map f32)⟩, ⟨0, none⟩, ⟨0, none⟩]) rfl (n := 18) rfl (g := 1) rfl (by decide) ?_
 unfold i_Matrix_valid_02o at h
 refine zQ ?_
 refine ROps.d (r := ptr [i64 a0, i64 a1, oref 0 0 0 a2.length]) (fs := []) (Γ' := [⟨0, some (a2.map f32)⟩, ⟨0, none⟩, ⟨0, none⟩]) rfl rfl rfl (TOp.box_s rfl rfl rfl) rfl ?_
 refine ROps.d (r := optr 1 1 0) (fs := [(1, [i64 0, i64 0, nilsl])]) (Γ' := [⟨0, some (a2.map f32)⟩, ⟨1, some [i64 0, i64 0, nilsl]⟩, ⟨0, none⟩]) rfl rfl rfl (TOp.alloc_o (g := ⟨0, none⟩) 1 rfl zer31 zok31 rfl) rfl ?_
 refine zA (r := b false) rfl rfl rfl rfl rfl ?_
 refine zN ?_
 refine RunC.seq ?_
 refine RunC.seq ?_
 obtain ⟨r1, hf1, h⟩ := obind_some h
 rcases bsel_some h with ⟨hc2, h⟩ | ⟨hc2, h⟩
 ·refine RunC.regionW ?_
  refine zL (r := agg [i64 a0, i64 a1, oref 0 0 0 a2.length]) rfl rfl rfl (LOp.loadAgg agg31 siz31 rfl rfl rfl rfl) ?_
  refine ROps.d (r := b true) (fs := []) (Γ' := [⟨0, some (a2.map f32)⟩, ⟨1, some [i64 0, i64 0, nilsl]⟩, ⟨0, none⟩]) rfl rfl rfl (TOp.eqb (TOp.callB (CallAs.func ent38 rfl rfl) (Bors.cons (Bor.agg (Bors.cons (Bor.pure rfl) (Bors.cons (Bor.pure rfl) (Bors.cons (Bor.own (f := f32) (fun _ => rfl) rfl rfl) Bors.nil)))) Bors.nil) rfl rfl (i_ValidMatrix_ok a0 a1 a2 r1 hf1)) hc2) rfl ?_
  refine zL (r := b false) rfl rfl rfl (LOp.eqb (LOp.not rfl rfl) rfl) ?_
  refine zN ?_
  refine RunC.cond_false rfl rfl ?_
  refine RunC.skip ?_
  refine zQ ?_
  refine zL (r := agg [i64 a0, i64 a1, oref 0 0 0 a2.length]) rfl rfl rfl (LOp.loadAgg agg31 siz31 rfl rfl rfl rfl) ?_
  refine ROps.store_le (r := agg [i64 a0, i64 a1, oref 0 0 0 a2.length]) (l' := [i64 a0, i64 a1, oref 0 0 0 a2.length]) (Γ' := [⟨0, some (a2.map f32)⟩, ⟨1, some [i64 a0, i64 a1, oref 0 0 0 a2.length]⟩, ⟨0, none⟩]) rfl siz31 rfl rfl rfl aR rfl rfl rfl rfl (Nat.le_of_ble_eq_true rfl) rfl rfl ?_
  refine zA (r := b true) rfl rfl rfl rfl rfl ?_
  refine zN ?_
  cases Option.some.inj h
 ·refine RunC.regionW ?_
  refine zL (r := agg [i64 a0, i64 a1, oref 0 0 0 a2.length]) rfl rfl rfl (LOp.loadAgg agg31 siz31 rfl rfl rfl rfl) ?_
  refine ROps.d (r := b false) (fs := []) (Γ' := [⟨0, some (a2.map f32)⟩, ⟨1, some [i64 0, i64 0, nilsl]⟩, ⟨0, none⟩]) rfl rfl rfl (TOp.eqb (TOp.callB (CallAs.func ent38 rfl rfl) (Bors.cons (Bor.agg (Bors.cons (Bor.pure rfl) (Bors.cons (Bor.pure rfl) (Bors.cons (Bor.own (f := f32) (fun _ => rfl) rfl rfl) Bors.nil)))) Bors.nil) rfl rfl (i_ValidMatrix_ok a0 a1 a2 r1 hf1)) hc2) rfl ?_
  refine zL (r := b true) rfl rfl rfl (LOp.eqb (LOp.not rfl rfl) rfl) ?_
  refine zN ?_
  refine RunC.cond_true rfl rfl ?_
  refine zQ ?_
  refine zL (r := agg [i64 0, i64 0, nilsl]) rfl rfl rfl (LOp.build (qs := []) zer31 zok31 und31 plc31 rfl trivial rfl) ?_
  refine ROps.store_le (r := agg [i64 0, i64 0, nilsl]) (l' := [i64 0, i64 0, nilsl]) (Γ' := [⟨0, some (a2.map f32)⟩, ⟨1, some [i64 0, i64 0, nilsl]⟩, ⟨0, none⟩]) rfl siz31 rfl rfl rfl aR rfl rfl rfl rfl (Nat.le_of_ble_eq_true rfl) rfl rfl ?_
  refine zA (r := b false) rfl rfl rfl rfl rfl ?_
  refine zN ?_
  refine RunC.nil_cell (l' := [i64 0, i64 0, oref 2 1 0 0]) (Γ' := [⟨0, some (a2.map f32)⟩, ⟨1, some [i64 0, i64 0, oref 2 1 0 0]⟩, ⟨1, some (([] : List F).map f32)⟩]) 1 2 2 rfl rfl rfl rfl rfl ?_
  refine RunC.ret ?_
  have hq := Option.some.inj h
  have hq := Sum.inr.inj hq
  obtain ⟨hq0, hq⟩ := Prod.mk.inj hq
  obtain ⟨hq1, hq⟩ := Prod.mk.inj hq
  obtain ⟨hq2, hq⟩ := Prod.mk.inj hq
  obtain ⟨hq3, hq⟩ := Prod.mk.inj hq
  subst q0
  subst q1
  subst q2
  subst q3
  subst q4
  exact bodyQ.mk (r' := tup [agg [i64 0, i64 0, oref 2 1 0 (([] : List F).length)], b false]) [(0, 0), (2, 1)] (.inr rfl) rfl (show List.Nodup [0, 2] from by decide) rfl rfl (Res.eq (Res.two rfl (RV.cell agg31 siz31 rfl rfl rfl rfl) (RV.tmp rfl)) (by rw [(show ([] : List F).length = 0 from rfl)] <;> rfl)) (SelL.arr (f := f32) (fun _ => rfl) rfl (SelL.arr0 (f := f32) (fun _ => rfl) rfl trivial))
noncomputable def i_ReadMatrix (a0 : ByteArray) : Option (Int × Int × Bool × (List F)) :=
 obind4 (i_readSides a0) fun (r1 : Int) (r2 : Int) (r3 : ByteArray) (r4 : Bool) =>
 bsel r4 (
  obind2 (i_ReadNumbers r3) fun (r5 : Bool) (r6 : List F) =>
  bsel r5 (
   obind (i_Matrix_valid_02o r1 r2 r6) (fun z => osum z (fun y => obind4 (some y) fun (r7 : Int) (r8 : Int) (r9 : Bool) (r10 : List F) =>
    need (decide (r10.length = r6.length)) <|
    some (r7, r8, r9, r10)) (fun y => obind5 (some y) fun (r11 : Int) (r12 : Int) (r13 : Bool) (r14 : List F) (r15 : List F) =>
    need (decide (r14.length = r6.length)) <|
    some (r11, r12, r13, r15)))) (
   some (0, 0, false, ([] : List F)))) (
  obind2 (i_ReadNumbers r3) fun (r16 : Bool) (r17 : List F) =>
  bsel r16 (
   some (0, 0, false, ([] : List F))) (
   some (0, 0, false, ([] : List F))))
theorem i_ReadMatrix_ok (a0 : ByteArray) (q0 : Int) (q1 : Int) (q2 : Bool) (q3 : List F) (h : i_ReadMatrix a0 = some (q0, q1, q2, q3)) : Ev Tryz.prog 11 [str a0] [] (tup [agg [i64 q0, i64 q1, oref 0 0 0 q3.length], b q2]) [⟨0, some (q3.map f32)⟩] := by
 refine Ev.start Tryz.func11 rfl rfl 3 (τ := [(0, str a0)]) rfl (Γ' := [⟨0, none⟩, ⟨0, none⟩, ⟨0, none⟩]) rfl (n := 73) rfl (g := 0) rfl (fun _ => rfl) ?_
 unfold i_ReadMatrix at h
 refine zQ ?_
 refine ROps.d (r := optr 0 1 0) (fs := [(0, [i64 0, i64 0, nilsl])]) (Γ' := [⟨1, some [i64 0, i64 0, nilsl]⟩, ⟨0, none⟩, ⟨0, none⟩]) rfl rfl rfl (TOp.alloc_o (g := ⟨0, none⟩) 0 rfl zer31 zok31 rfl) rfl ?_
 refine zA (r := b false) rfl rfl rfl rfl rfl ?_
 refine zN ?_
 refine RunC.seq ?_
 obtain ⟨r1, r2, r3, r4, hf1, h⟩ := obind4_some h
 rcases bsel_some h with ⟨hc2, h⟩ | ⟨hc2, h⟩
 ·refine RunC.regionW ?_
  refine zM (r := str a0) rfl rfl rfl rfl rfl ?_
  refine ROps.d (r := tup [i64 r1, i64 r2, str r3, b r4]) (fs := []) (Γ' := [⟨1, some [i64 0, i64 0, nilsl]⟩, ⟨0, none⟩, ⟨0, none⟩]) rfl rfl rfl (TOp.callB (CallAs.func ent23 rfl rfl) (Bors.cons (Bor.pure rfl) Bors.nil) rfl rfl (i_readSides_ok a0 r1 r2 r3 r4 hf1)) rfl ?_
  refine zM (r := tup [i64 r1, i64 r2, str r3, b r4]) rfl rfl rfl rfl rfl ?_
  refine zL (r := i64 r1) rfl rfl rfl (LOp.extract rfl rfl rfl) ?_
  refine zL (r := i64 r2) rfl rfl rfl (LOp.extract rfl rfl rfl) ?_
  refine zL (r := str r3) rfl rfl rfl (LOp.extract rfl rfl rfl) ?_
  refine zL (r := b true) rfl rfl rfl (LOp.eqb (LOp.extract rfl rfl rfl) hc2) ?_
  refine zA (r := i64 r1) rfl rfl rfl rfl rfl ?_
  refine zA (r := i64 r2) rfl rfl rfl rfl rfl ?_
  refine zA (r := str r3) rfl rfl rfl rfl rfl ?_
  refine zA (r := b true) rfl rfl rfl rfl rfl ?_
  refine zN ?_
  refine RunC.seq ?_
  obtain ⟨r5, r6, hf3, h⟩ := obind2_some h
  rcases bsel_some h with ⟨hc4, h⟩ | ⟨hc4, h⟩
  ·refine RunC.regionW ?_
   refine zM (r := str r3) rfl rfl rfl rfl rfl ?_
   refine ROps.d (r := tup [oref 1 1 0 r6.length, b r5]) (fs := [(1, (r6.map f32))]) (Γ' := [⟨1, some [i64 0, i64 0, nilsl]⟩, ⟨1, some (r6.map f32)⟩, ⟨0, none⟩]) rfl rfl rfl (TOp.callBN (ls := [(r6.map f32)]) [1] (CallAs.func ent17 rfl rfl) (Bors.cons (Bor.pure rfl) Bors.nil) rfl (i_ReadNumbers_ok r3 r5 r6 hf3) (and_all (lts0_map (f := f32) (fun _ => rfl) _) rfl) (and_all (noss_map (f := f32) (fun _ => rfl) _) rfl) rfl (by decide) (ns_of ⟨⟨_, rfl⟩, trivial⟩)) rfl ?_
   refine zM (r := tup [oref 1 1 0 r6.length, b r5]) rfl rfl rfl rfl rfl ?_
   refine zL (r := oref 1 1 0 r6.length) rfl rfl rfl (LOp.extract rfl rfl rfl) ?_
   refine zL (r := b true) rfl rfl rfl (LOp.eqb (LOp.extract rfl rfl rfl) hc4) ?_
   refine zA (r := oref 1 1 0 r6.length) rfl rfl rfl rfl rfl ?_
   refine zA (r := b true) rfl rfl rfl rfl rfl ?_
   refine zN ?_
   refine RunC.wl (τ' := [(2, optr 0 1 0), (4, i64 r1), (5, i64 r2), (7, b true), (8, oref 1 1 0 r6.length), (9, b true)]) (Γ' := [⟨1, some [i64 0, i64 0, nilsl]⟩, ⟨1, some (r6.map f32)⟩, ⟨0, none⟩]) ⟨aR, aR, aR, aR, aR, aR, trivial⟩ ⟨⟨rfl, .inr rfl⟩, ⟨rfl, .inr rfl⟩, ⟨rfl, .inr rfl⟩, trivial⟩ ?_
   refine RunC.seq ?_
   refine zQ ?_
   refine zM (r := b true) rfl rfl rfl rfl rfl ?_
   refine zL (r := b false) rfl rfl rfl (LOp.eqb (LOp.not rfl rfl) rfl) ?_
   refine zM (r := b false) rfl rfl rfl rfl rfl ?_
   refine zM (r := b true) rfl rfl rfl rfl rfl ?_
   refine zL (r := b false) rfl rfl rfl (LOp.eqb (LOp.not rfl rfl) rfl) ?_
   refine zL (r := b false) rfl rfl rfl (LOp.pick_false rfl rfl rfl) ?_
   refine zN ?_
   refine RunC.cond_false rfl rfl ?_
   refine RunC.skip ?_
   refine RunC.seq ?_
   obtain ⟨z1, hf5, h⟩ := obind_some h
   rcases z1 with z1 | z1
   ·replace h := (osum_inl _ _ _).symm.trans h
    obtain ⟨r7, r8, r9, r10, hz2, h⟩ := obind4_some h
    cases hz2
    obtain ⟨hn6, h⟩ := need_some h
    refine RunC.regionW ?_
    refine zM (r := i64 r1) rfl rfl rfl rfl rfl ?_
    refine zM (r := i64 r2) rfl rfl rfl rfl rfl ?_
    refine zM (r := oref 1 1 0 r6.length) rfl rfl rfl rfl rfl ?_
    refine zL (r := agg [i64 r1, i64 r2, oref 1 1 0 r6.length]) rfl rfl rfl (LOp.build (qs := [(0, [i64 r1]), (1, [i64 r2]), (2, [oref 1 1 0 r6.length])]) zer31 zok31 und31 plc31 rfl ⟨rfl, ⟨_, ALe.refl _, rfl⟩, ⟨rfl, ⟨_, ALe.refl _, rfl⟩, ⟨rfl, ⟨_, ALe.refl _, rfl⟩, trivial⟩⟩⟩ rfl) ?_
    refine ROps.callO (A := [agg [i64 r1, i64 r2, oref 1 1 0 r6.length]]) (args := [agg [i64 r1, i64 r2, oref 0 0 0 r6.length]]) (Γc := [⟨0, some (r6.map f32)⟩]) (Γc' := [⟨0, some (r10.map f32)⟩]) (r' := tup [agg [i64 r7, i64 r8, oref 1 1 0 r6.length], b r9]) (Γ' := [⟨1, some [i64 0, i64 0, nilsl]⟩, ⟨1, some (r10.map f32)⟩, ⟨0, none⟩]) [(1, 1)] [] rfl (CallAs.func ent24 rfl rfl) rfl rfl (SelOk.of (show List.Nodup [1] from by decide) (SelL.arr0 (f := f32) (fun _ => rfl) rfl trivial)) (live_of ⟨⟨_, _, rfl⟩, trivial⟩) (by simp [ren, rens, sigma, rens_f32, rens_f64, rens_i64, rens_ik, rens_str, rens_cp]) rfl (i_Matrix_valid_02o_ok0 r1 r2 r6 r7 r8 r9 r10 hf5) rfl (news_of trivial) (show List.Nodup [1] from by decide) (by simp [ren, rens, sigma, of_decide_eq_true hn6]) (by simp [backOb, sigma, ren, rens, rens_f32, rens_f64, rens_i64, rens_ik, rens_str, rens_cp]) ?_
    refine zL (r := agg [i64 r7, i64 r8, oref 1 1 0 r6.length]) rfl rfl rfl (LOp.extract rfl rfl rfl) ?_
    refine zL (r := b r9) rfl rfl rfl (LOp.extract rfl rfl rfl) ?_
    refine ROps.store_le (r := agg [i64 r7, i64 r8, oref 1 1 0 r6.length]) (l' := [i64 r7, i64 r8, oref 1 1 0 r6.length]) (Γ' := [⟨1, some [i64 r7, i64 r8, oref 1 1 0 r6.length]⟩, ⟨1, some (r10.map f32)⟩, ⟨0, none⟩]) rfl siz31 rfl rfl rfl aR rfl rfl rfl rfl (Nat.le_of_ble_eq_true rfl) rfl rfl ?_
    refine zA (r := b r9) rfl rfl rfl rfl rfl ?_
    refine zN ?_
    refine RunC.ret ?_
    have hq := Option.some.inj h
    obtain ⟨hq0, hq⟩ := Prod.mk.inj hq
    obtain ⟨hq1, hq⟩ := Prod.mk.inj hq
    obtain ⟨hq2, hq⟩ := Prod.mk.inj hq
    subst q0
    subst q1
    subst q2
    subst q3
    exact bodyQ.mk (r' := tup [agg [i64 r7, i64 r8, oref 1 1 0 r10.length], b r9]) [(1, 1)] (.inr rfl) rfl (show List.Nodup [1] from by decide) rfl rfl (Res.eq (Res.two rfl (RV.cell agg31 siz31 rfl rfl rfl rfl) (RV.tmp rfl)) (by rw [(show r10.length = r6.length from (of_decide_eq_true hn6))] <;> rfl)) (SelL.arr0 (f := f32) (fun _ => rfl) rfl trivial)
   ·replace h := (osum_inr _ _ _).symm.trans h
    obtain ⟨r11, r12, r13, r14, r15, hz3, h⟩ := obind5_some h
    cases hz3
    obtain ⟨hn7, h⟩ := need_some h
    refine RunC.regionW ?_
    refine zM (r := i64 r1) rfl rfl rfl rfl rfl ?_
    refine zM (r := i64 r2) rfl rfl rfl rfl rfl ?_
    refine zM (r := oref 1 1 0 r6.length) rfl rfl rfl rfl rfl ?_
    refine zL (r := agg [i64 r1, i64 r2, oref 1 1 0 r6.length]) rfl rfl rfl (LOp.build (qs := [(0, [i64 r1]), (1, [i64 r2]), (2, [oref 1 1 0 r6.length])]) zer31 zok31 und31 plc31 rfl ⟨rfl, ⟨_, ALe.refl _, rfl⟩, ⟨rfl, ⟨_, ALe.refl _, rfl⟩, ⟨rfl, ⟨_, ALe.refl _, rfl⟩, trivial⟩⟩⟩ rfl) ?_
    refine ROps.callO (A := [agg [i64 r1, i64 r2, oref 1 1 0 r6.length]]) (args := [agg [i64 r1, i64 r2, oref 0 0 0 r6.length]]) (Γc := [⟨0, some (r6.map f32)⟩]) (Γc' := [⟨0, some (r14.map f32)⟩, ⟨0, some (r15.map f32)⟩]) (r' := tup [agg [i64 r11, i64 r12, oref 2 1 0 r15.length], b r13]) (Γ' := [⟨1, some [i64 0, i64 0, nilsl]⟩, ⟨1, some (r14.map f32)⟩, ⟨1, some (r15.map f32)⟩]) [(1, 1)] [(2, 1)] rfl (CallAs.func ent24 rfl rfl) rfl rfl (SelOk.of (show List.Nodup [1] from by decide) (SelL.arr0 (f := f32) (fun _ => rfl) rfl trivial)) (live_of ⟨⟨_, _, rfl⟩, trivial⟩) (by simp [ren, rens, sigma, rens_f32, rens_f64, rens_i64, rens_ik, rens_str, rens_cp]) rfl (i_Matrix_valid_02o_ok1 r1 r2 r6 r11 r12 r13 r14 r15 hf5) rfl (news_of ⟨⟨_, rfl, rfl⟩, trivial⟩) (show List.Nodup [1, 2] from by decide) (by simp [ren, rens, sigma, of_decide_eq_true hn7]) (by simp [backOb, sigma, ren, rens, rens_f32, rens_f64, rens_i64, rens_ik, rens_str, rens_cp]) ?_
    refine zL (r := agg [i64 r11, i64 r12, oref 2 1 0 r15.length]) rfl rfl rfl (LOp.extract rfl rfl rfl) ?_
    refine zL (r := b r13) rfl rfl rfl (LOp.extract rfl rfl rfl) ?_
    refine ROps.store_le (r := agg [i64 r11, i64 r12, oref 2 1 0 r15.length]) (l' := [i64 r11, i64 r12, oref 2 1 0 r15.length]) (Γ' := [⟨1, some [i64 r11, i64 r12, oref 2 1 0 r15.length]⟩, ⟨1, some (r14.map f32)⟩, ⟨1, some (r15.map f32)⟩]) rfl siz31 rfl rfl rfl aR rfl rfl rfl rfl (Nat.le_of_ble_eq_true rfl) rfl rfl ?_
    refine zA (r := b r13) rfl rfl rfl rfl rfl ?_
    refine zN ?_
    refine RunC.ret ?_
    have hq := Option.some.inj h
    obtain ⟨hq0, hq⟩ := Prod.mk.inj hq
    obtain ⟨hq1, hq⟩ := Prod.mk.inj hq
    obtain ⟨hq2, hq⟩ := Prod.mk.inj hq
    subst q0
    subst q1
    subst q2
    subst q3
    exact bodyQ.mk (r' := tup [agg [i64 r11, i64 r12, oref 2 1 0 r15.length], b r13]) [(2, 1)] (.inr rfl) rfl (show List.Nodup [2] from by decide) rfl rfl (Res.two rfl (RV.cell agg31 siz31 rfl rfl rfl rfl) (RV.tmp rfl)) (SelL.arr0 (f := f32) (fun _ => rfl) rfl trivial)
  ·refine RunC.regionW ?_
   refine zM (r := str r3) rfl rfl rfl rfl rfl ?_
   refine ROps.d (r := tup [oref 1 1 0 r6.length, b r5]) (fs := [(1, (r6.map f32))]) (Γ' := [⟨1, some [i64 0, i64 0, nilsl]⟩, ⟨1, some (r6.map f32)⟩, ⟨0, none⟩]) rfl rfl rfl (TOp.callBN (ls := [(r6.map f32)]) [1] (CallAs.func ent17 rfl rfl) (Bors.cons (Bor.pure rfl) Bors.nil) rfl (i_ReadNumbers_ok r3 r5 r6 hf3) (and_all (lts0_map (f := f32) (fun _ => rfl) _) rfl) (and_all (noss_map (f := f32) (fun _ => rfl) _) rfl) rfl (by decide) (ns_of ⟨⟨_, rfl⟩, trivial⟩)) rfl ?_
   refine zM (r := tup [oref 1 1 0 r6.length, b r5]) rfl rfl rfl rfl rfl ?_
   refine zL (r := oref 1 1 0 r6.length) rfl rfl rfl (LOp.extract rfl rfl rfl) ?_
   refine zL (r := b false) rfl rfl rfl (LOp.eqb (LOp.extract rfl rfl rfl) hc4) ?_
   refine zA (r := oref 1 1 0 r6.length) rfl rfl rfl rfl rfl ?_
   refine zA (r := b false) rfl rfl rfl rfl rfl ?_
   refine zN ?_
   refine RunC.wl (τ' := [(2, optr 0 1 0), (4, i64 r1), (5, i64 r2), (7, b true), (8, oref 1 1 0 r6.length), (9, b false)]) (Γ' := [⟨1, some [i64 0, i64 0, nilsl]⟩, ⟨1, some (r6.map f32)⟩, ⟨0, none⟩]) ⟨aR, aR, aR, aR, aR, aR, trivial⟩ ⟨⟨rfl, .inr rfl⟩, ⟨rfl, .inr rfl⟩, ⟨rfl, .inr rfl⟩, trivial⟩ ?_
   refine RunC.seq ?_
   refine zQ ?_
   refine zM (r := b true) rfl rfl rfl rfl rfl ?_
   refine zL (r := b false) rfl rfl rfl (LOp.eqb (LOp.not rfl rfl) rfl) ?_
   refine zM (r := b false) rfl rfl rfl rfl rfl ?_
   refine zM (r := b false) rfl rfl rfl rfl rfl ?_
   refine zL (r := b true) rfl rfl rfl (LOp.eqb (LOp.not rfl rfl) rfl) ?_
   refine zL (r := b true) rfl rfl rfl (LOp.pick_false rfl rfl rfl) ?_
   refine zN ?_
   refine RunC.cond_true rfl rfl ?_
   refine zQ ?_
   refine zL (r := agg [i64 0, i64 0, nilsl]) rfl rfl rfl (LOp.build (qs := []) zer31 zok31 und31 plc31 rfl trivial rfl) ?_
   refine ROps.store_le (r := agg [i64 0, i64 0, nilsl]) (l' := [i64 0, i64 0, nilsl]) (Γ' := [⟨1, some [i64 0, i64 0, nilsl]⟩, ⟨1, some (r6.map f32)⟩, ⟨0, none⟩]) rfl siz31 rfl rfl rfl aR rfl rfl rfl rfl (Nat.le_of_ble_eq_true rfl) rfl rfl ?_
   refine zA (r := b false) rfl rfl rfl rfl rfl ?_
   refine zN ?_
   refine RunC.nil_cell (l' := [i64 0, i64 0, oref 2 1 0 0]) (Γ' := [⟨1, some [i64 0, i64 0, oref 2 1 0 0]⟩, ⟨1, some (r6.map f32)⟩, ⟨1, some (([] : List F).map f32)⟩]) 0 2 2 rfl rfl rfl rfl rfl ?_
   refine RunC.ret ?_
   have hq := Option.some.inj h
   obtain ⟨hq0, hq⟩ := Prod.mk.inj hq
   obtain ⟨hq1, hq⟩ := Prod.mk.inj hq
   obtain ⟨hq2, hq⟩ := Prod.mk.inj hq
   subst q0
   subst q1
   subst q2
   subst q3
   exact bodyQ.mk (r' := tup [agg [i64 0, i64 0, oref 2 1 0 (([] : List F).length)], b false]) [(2, 1)] (.inr rfl) rfl (show List.Nodup [2] from by decide) rfl rfl (Res.eq (Res.two rfl (RV.cell agg31 siz31 rfl rfl rfl rfl) (RV.tmp rfl)) (by rw [(show ([] : List F).length = 0 from rfl)] <;> rfl)) (SelL.arr0 (f := f32) (fun _ => rfl) rfl trivial)
 ·refine RunC.regionW ?_
  refine zM (r := str a0) rfl rfl rfl rfl rfl ?_
  refine ROps.d (r := tup [i64 r1, i64 r2, str r3, b r4]) (fs := []) (Γ' := [⟨1, some [i64 0, i64 0, nilsl]⟩, ⟨0, none⟩, ⟨0, none⟩]) rfl rfl rfl (TOp.callB (CallAs.func ent23 rfl rfl) (Bors.cons (Bor.pure rfl) Bors.nil) rfl rfl (i_readSides_ok a0 r1 r2 r3 r4 hf1)) rfl ?_
  refine zM (r := tup [i64 r1, i64 r2, str r3, b r4]) rfl rfl rfl rfl rfl ?_
  refine zL (r := i64 r1) rfl rfl rfl (LOp.extract rfl rfl rfl) ?_
  refine zL (r := i64 r2) rfl rfl rfl (LOp.extract rfl rfl rfl) ?_
  refine zL (r := str r3) rfl rfl rfl (LOp.extract rfl rfl rfl) ?_
  refine zL (r := b false) rfl rfl rfl (LOp.eqb (LOp.extract rfl rfl rfl) hc2) ?_
  refine zA (r := i64 r1) rfl rfl rfl rfl rfl ?_
  refine zA (r := i64 r2) rfl rfl rfl rfl rfl ?_
  refine zA (r := str r3) rfl rfl rfl rfl rfl ?_
  refine zA (r := b false) rfl rfl rfl rfl rfl ?_
  refine zN ?_
  refine RunC.seq ?_
  obtain ⟨r16, r17, hf8, h⟩ := obind2_some h
  rcases bsel_some h with ⟨hc9, h⟩ | ⟨hc9, h⟩
  ·refine RunC.regionW ?_
   refine zM (r := str r3) rfl rfl rfl rfl rfl ?_
   refine ROps.d (r := tup [oref 1 1 0 r17.length, b r16]) (fs := [(1, (r17.map f32))]) (Γ' := [⟨1, some [i64 0, i64 0, nilsl]⟩, ⟨1, some (r17.map f32)⟩, ⟨0, none⟩]) rfl rfl rfl (TOp.callBN (ls := [(r17.map f32)]) [1] (CallAs.func ent17 rfl rfl) (Bors.cons (Bor.pure rfl) Bors.nil) rfl (i_ReadNumbers_ok r3 r16 r17 hf8) (and_all (lts0_map (f := f32) (fun _ => rfl) _) rfl) (and_all (noss_map (f := f32) (fun _ => rfl) _) rfl) rfl (by decide) (ns_of ⟨⟨_, rfl⟩, trivial⟩)) rfl ?_
   refine zM (r := tup [oref 1 1 0 r17.length, b r16]) rfl rfl rfl rfl rfl ?_
   refine zL (r := oref 1 1 0 r17.length) rfl rfl rfl (LOp.extract rfl rfl rfl) ?_
   refine zL (r := b true) rfl rfl rfl (LOp.eqb (LOp.extract rfl rfl rfl) hc9) ?_
   refine zA (r := oref 1 1 0 r17.length) rfl rfl rfl rfl rfl ?_
   refine zA (r := b true) rfl rfl rfl rfl rfl ?_
   refine zN ?_
   refine RunC.wl (τ' := [(2, optr 0 1 0), (4, i64 r1), (5, i64 r2), (7, b false), (8, oref 1 1 0 r17.length), (9, b true)]) (Γ' := [⟨1, some [i64 0, i64 0, nilsl]⟩, ⟨1, some (r17.map f32)⟩, ⟨0, none⟩]) ⟨aR, aR, aR, aR, aR, aR, trivial⟩ ⟨⟨rfl, .inr rfl⟩, ⟨rfl, .inr rfl⟩, ⟨rfl, .inr rfl⟩, trivial⟩ ?_
   refine RunC.seq ?_
   refine zQ ?_
   refine zM (r := b false) rfl rfl rfl rfl rfl ?_
   refine zL (r := b true) rfl rfl rfl (LOp.eqb (LOp.not rfl rfl) rfl) ?_
   refine zM (r := b true) rfl rfl rfl rfl rfl ?_
   refine ROps.s rfl rfl rfl ?_
   refine ROps.s rfl rfl rfl ?_
   refine zL (r := b true) rfl rfl rfl (LOp.pick_true rfl rfl rfl) ?_
   refine zN ?_
   refine RunC.cond_true rfl rfl ?_
   refine zQ ?_
   refine zL (r := agg [i64 0, i64 0, nilsl]) rfl rfl rfl (LOp.build (qs := []) zer31 zok31 und31 plc31 rfl trivial rfl) ?_
   refine ROps.store_le (r := agg [i64 0, i64 0, nilsl]) (l' := [i64 0, i64 0, nilsl]) (Γ' := [⟨1, some [i64 0, i64 0, nilsl]⟩, ⟨1, some (r17.map f32)⟩, ⟨0, none⟩]) rfl siz31 rfl rfl rfl aR rfl rfl rfl rfl (Nat.le_of_ble_eq_true rfl) rfl rfl ?_
   refine zA (r := b false) rfl rfl rfl rfl rfl ?_
   refine zN ?_
   refine RunC.nil_cell (l' := [i64 0, i64 0, oref 2 1 0 0]) (Γ' := [⟨1, some [i64 0, i64 0, oref 2 1 0 0]⟩, ⟨1, some (r17.map f32)⟩, ⟨1, some (([] : List F).map f32)⟩]) 0 2 2 rfl rfl rfl rfl rfl ?_
   refine RunC.ret ?_
   have hq := Option.some.inj h
   obtain ⟨hq0, hq⟩ := Prod.mk.inj hq
   obtain ⟨hq1, hq⟩ := Prod.mk.inj hq
   obtain ⟨hq2, hq⟩ := Prod.mk.inj hq
   subst q0
   subst q1
   subst q2
   subst q3
   exact bodyQ.mk (r' := tup [agg [i64 0, i64 0, oref 2 1 0 (([] : List F).length)], b false]) [(2, 1)] (.inr rfl) rfl (show List.Nodup [2] from by decide) rfl rfl (Res.eq (Res.two rfl (RV.cell agg31 siz31 rfl rfl rfl rfl) (RV.tmp rfl)) (by rw [(show ([] : List F).length = 0 from rfl)] <;> rfl)) (SelL.arr0 (f := f32) (fun _ => rfl) rfl trivial)
  ·refine RunC.regionW ?_
   refine zM (r := str r3) rfl rfl rfl rfl rfl ?_
   refine ROps.d (r := tup [oref 1 1 0 r17.length, b r16]) (fs := [(1, (r17.map f32))]) (Γ' := [⟨1, some [i64 0, i64 0, nilsl]⟩, ⟨1, some (r17.map f32)⟩, ⟨0, none⟩]) rfl rfl rfl (TOp.callBN (ls := [(r17.map f32)]) [1] (CallAs.func ent17 rfl rfl) (Bors.cons (Bor.pure rfl) Bors.nil) rfl (i_ReadNumbers_ok r3 r16 r17 hf8) (and_all (lts0_map (f := f32) (fun _ => rfl) _) rfl) (and_all (noss_map (f := f32) (fun _ => rfl) _) rfl) rfl (by decide) (ns_of ⟨⟨_, rfl⟩, trivial⟩)) rfl ?_
   refine zM (r := tup [oref 1 1 0 r17.length, b r16]) rfl rfl rfl rfl rfl ?_
   refine zL (r := oref 1 1 0 r17.length) rfl rfl rfl (LOp.extract rfl rfl rfl) ?_
   refine zL (r := b false) rfl rfl rfl (LOp.eqb (LOp.extract rfl rfl rfl) hc9) ?_
   refine zA (r := oref 1 1 0 r17.length) rfl rfl rfl rfl rfl ?_
   refine zA (r := b false) rfl rfl rfl rfl rfl ?_
   refine zN ?_
   refine RunC.wl (τ' := [(2, optr 0 1 0), (4, i64 r1), (5, i64 r2), (7, b false), (8, oref 1 1 0 r17.length), (9, b false)]) (Γ' := [⟨1, some [i64 0, i64 0, nilsl]⟩, ⟨1, some (r17.map f32)⟩, ⟨0, none⟩]) ⟨aR, aR, aR, aR, aR, aR, trivial⟩ ⟨⟨rfl, .inr rfl⟩, ⟨rfl, .inr rfl⟩, ⟨rfl, .inr rfl⟩, trivial⟩ ?_
   refine RunC.seq ?_
   refine zQ ?_
   refine zM (r := b false) rfl rfl rfl rfl rfl ?_
   refine zL (r := b true) rfl rfl rfl (LOp.eqb (LOp.not rfl rfl) rfl) ?_
   refine zM (r := b true) rfl rfl rfl rfl rfl ?_
   refine ROps.s rfl rfl rfl ?_
   refine ROps.s rfl rfl rfl ?_
   refine zL (r := b true) rfl rfl rfl (LOp.pick_true rfl rfl rfl) ?_
   refine zN ?_
   refine RunC.cond_true rfl rfl ?_
   refine zQ ?_
   refine zL (r := agg [i64 0, i64 0, nilsl]) rfl rfl rfl (LOp.build (qs := []) zer31 zok31 und31 plc31 rfl trivial rfl) ?_
   refine ROps.store_le (r := agg [i64 0, i64 0, nilsl]) (l' := [i64 0, i64 0, nilsl]) (Γ' := [⟨1, some [i64 0, i64 0, nilsl]⟩, ⟨1, some (r17.map f32)⟩, ⟨0, none⟩]) rfl siz31 rfl rfl rfl aR rfl rfl rfl rfl (Nat.le_of_ble_eq_true rfl) rfl rfl ?_
   refine zA (r := b false) rfl rfl rfl rfl rfl ?_
   refine zN ?_
   refine RunC.nil_cell (l' := [i64 0, i64 0, oref 2 1 0 0]) (Γ' := [⟨1, some [i64 0, i64 0, oref 2 1 0 0]⟩, ⟨1, some (r17.map f32)⟩, ⟨1, some (([] : List F).map f32)⟩]) 0 2 2 rfl rfl rfl rfl rfl ?_
   refine RunC.ret ?_
   have hq := Option.some.inj h
   obtain ⟨hq0, hq⟩ := Prod.mk.inj hq
   obtain ⟨hq1, hq⟩ := Prod.mk.inj hq
   obtain ⟨hq2, hq⟩ := Prod.mk.inj hq
   subst q0
   subst q1
   subst q2
   subst q3
   exact bodyQ.mk (r' := tup [agg [i64 0, i64 0, oref 2 1 0 (([] : List F).length)], b false]) [(2, 1)] (.inr rfl) rfl (show List.Nodup [2] from by decide) rfl rfl (Res.eq (Res.two rfl (RV.cell agg31 siz31 rfl rfl rfl rfl) (RV.tmp rfl)) (by rw [(show ([] : List F).length = 0 from rfl)] <;> rfl)) (SelL.arr0 (f := f32) (fun _ => rfl) rfl trivial)
noncomputable def w_sameFloat_k1 (a0 : F) (a1 : F) : Option (Bool) :=
 some (feq .f64 a0 a1)
noncomputable def w_sameFloat (a0 : F) (a1 : F) : Option (Bool) :=
 bsel (!feq .f64 a0 a0) (
  some (!feq .f64 a1 a1)) (
  bsel (!feq .f64 a1 a1) (
   some false) (
   bsel (feq .f64 a0 (some 0)) (
    bsel (feq .f64 a1 (some 0)) (
     olet (fop .quo .f64 (some 4607182418800017408) a0) fun (x1 : F) =>
     olet (fop .quo .f64 (some 4607182418800017408) a1) fun (x2 : F) =>
     some ((flt .f64 (some 0) x1) == (flt .f64 (some 0) x2))) (
     w_sameFloat_k1 a0 a1)) (
    w_sameFloat_k1 a0 a1)))
theorem w_sameFloat_ok (a0 : F) (a1 : F) (q0 : Bool) (h : w_sameFloat a0 a1 = some q0) : Ev Tryz.prog 34 [f64 a0, f64 a1] [] (b q0) [] := by
 refine Ev.start Tryz.func34 rfl rfl 0 (τ := [(0, f64 a0), (1, f64 a1)]) rfl (Γ' := []) rfl (n := 75) rfl (g := 0) rfl (fun _ => rfl) ?_
 unfold w_sameFloat at h
 refine zQ ?_
 refine zA (r := b false) rfl rfl rfl rfl rfl ?_
 refine zN ?_
 refine RunC.seq ?_
 refine RunC.seq ?_
 rcases bsel_some h with ⟨hc1, h⟩ | ⟨hc1, h⟩
 ·refine RunC.regionW ?_
  refine zM (r := f64 a0) rfl rfl rfl rfl rfl ?_
  refine zM (r := f64 a0) rfl rfl rfl rfl rfl ?_
  refine zL (r := b true) rfl rfl rfl (LOp.eqb (LOp.fne rfl (OpF.tmp rfl) (OpF.tmp rfl)) hc1) ?_
  refine zM (r := b true) rfl rfl rfl rfl rfl ?_
  refine ROps.s rfl rfl rfl ?_
  refine ROps.s rfl rfl rfl ?_
  refine ROps.s rfl rfl rfl ?_
  refine zL (r := b true) rfl rfl rfl (LOp.pick_true rfl rfl rfl) ?_
  refine zN ?_
  refine RunC.cond_true rfl rfl ?_
  refine zQ ?_
  refine zM (r := f64 a0) rfl rfl rfl rfl rfl ?_
  refine zM (r := f64 a0) rfl rfl rfl rfl rfl ?_
  refine zL (r := b true) rfl rfl rfl (LOp.eqb (LOp.fne rfl (OpF.tmp rfl) (OpF.tmp rfl)) hc1) ?_
  refine zM (r := b true) rfl rfl rfl rfl rfl ?_
  refine zM (r := f64 a1) rfl rfl rfl rfl rfl ?_
  refine zM (r := f64 a1) rfl rfl rfl rfl rfl ?_
  refine zL (r := b (!feq .f64 a1 a1)) rfl rfl rfl (LOp.fne rfl (OpF.tmp rfl) (OpF.tmp rfl)) ?_
  refine zL (r := b (!feq .f64 a1 a1)) rfl rfl rfl (LOp.pick_true rfl rfl rfl) ?_
  refine zA (r := b (!feq .f64 a1 a1)) rfl rfl rfl rfl rfl ?_
  refine zN ?_
  refine RunC.ret ?_
  have hq := Option.some.inj h
  subst q0
  exact bodyQ.pure (.inr rfl) rfl (Res.one rfl (RV.tmp rfl))
 ·rcases bsel_some h with ⟨hc2, h⟩ | ⟨hc2, h⟩
  ·refine RunC.regionW ?_
   refine zM (r := f64 a0) rfl rfl rfl rfl rfl ?_
   refine zM (r := f64 a0) rfl rfl rfl rfl rfl ?_
   refine zL (r := b false) rfl rfl rfl (LOp.eqb (LOp.fne rfl (OpF.tmp rfl) (OpF.tmp rfl)) hc1) ?_
   refine zM (r := b false) rfl rfl rfl rfl rfl ?_
   refine zM (r := f64 a1) rfl rfl rfl rfl rfl ?_
   refine zM (r := f64 a1) rfl rfl rfl rfl rfl ?_
   refine zL (r := b true) rfl rfl rfl (LOp.eqb (LOp.fne rfl (OpF.tmp rfl) (OpF.tmp rfl)) hc2) ?_
   refine zL (r := b true) rfl rfl rfl (LOp.pick_false rfl rfl rfl) ?_
   refine zN ?_
   refine RunC.cond_true rfl rfl ?_
   refine zQ ?_
   refine zM (r := f64 a0) rfl rfl rfl rfl rfl ?_
   refine zM (r := f64 a0) rfl rfl rfl rfl rfl ?_
   refine zL (r := b false) rfl rfl rfl (LOp.eqb (LOp.fne rfl (OpF.tmp rfl) (OpF.tmp rfl)) hc1) ?_
   refine zM (r := b false) rfl rfl rfl rfl rfl ?_
   refine ROps.s rfl rfl rfl ?_
   refine ROps.s rfl rfl rfl ?_
   refine ROps.s rfl rfl rfl ?_
   refine zL (r := b false) rfl rfl rfl (LOp.pick_false rfl rfl rfl) ?_
   refine zA (r := b false) rfl rfl rfl rfl rfl ?_
   refine zN ?_
   refine RunC.ret ?_
   have hq := Option.some.inj h
   subst q0
   exact bodyQ.pure (.inr rfl) rfl (Res.one rfl (RV.tmp rfl))
  ·refine RunC.regionW ?_
   refine zM (r := f64 a0) rfl rfl rfl rfl rfl ?_
   refine zM (r := f64 a0) rfl rfl rfl rfl rfl ?_
   refine zL (r := b false) rfl rfl rfl (LOp.eqb (LOp.fne rfl (OpF.tmp rfl) (OpF.tmp rfl)) hc1) ?_
   refine zM (r := b false) rfl rfl rfl rfl rfl ?_
   refine zM (r := f64 a1) rfl rfl rfl rfl rfl ?_
   refine zM (r := f64 a1) rfl rfl rfl rfl rfl ?_
   refine zL (r := b false) rfl rfl rfl (LOp.eqb (LOp.fne rfl (OpF.tmp rfl) (OpF.tmp rfl)) hc2) ?_
   refine zL (r := b false) rfl rfl rfl (LOp.pick_false rfl rfl rfl) ?_
   refine zN ?_
   refine RunC.cond_false rfl rfl ?_
   refine RunC.skip ?_
   refine RunC.seq ?_
   refine RunC.cutN (fun τ Γ =>  WeakLe τ [(0, f64 a0), (1, f64 a1)] ∧ DeadLe Γ [] ∧ w_sameFloat_k1 a0 a1 = some q0) ?_ ?_
   ·refine RunC.seq ?_
    rcases bsel_some h with ⟨hc3, h⟩ | ⟨hc3, h⟩
    ·rcases bsel_some h with ⟨hc4, h⟩ | ⟨hc4, h⟩
     ·refine RunC.regionW ?_
      refine zM (r := f64 a0) rfl rfl rfl rfl rfl ?_
      refine zL (r := b true) rfl rfl rfl (LOp.eqb (LOp.feq rfl (OpF.tmp rfl) (OpF.const rfl (by kernel_rfl) (by kernel_rfl))) hc3) ?_
      refine zM (r := b true) rfl rfl rfl rfl rfl ?_
      refine zM (r := f64 a1) rfl rfl rfl rfl rfl ?_
      refine zL (r := b true) rfl rfl rfl (LOp.eqb (LOp.feq rfl (OpF.tmp rfl) (OpF.const rfl (by kernel_rfl) (by kernel_rfl))) hc4) ?_
      refine zL (r := b true) rfl rfl rfl (LOp.pick_true rfl rfl rfl) ?_
      refine zN ?_
      refine RunC.wl (τ' := [(0, f64 a0), (1, f64 a1), (26, b true)]) (Γ' := []) ⟨aR, aR, aR, trivial⟩ trivial ?_
      refine RunC.cond_true rfl rfl ?_
      refine RunC.seq ?_
      obtain ⟨x1, hx5, h⟩ := olet_some h
      obtain ⟨x2, hx6, h⟩ := olet_some h
      refine RunC.regionW ?_
      refine zM (r := f64 a0) rfl rfl rfl rfl rfl ?_
      refine ROps.d (r := f64 x1) (fs := []) (Γ' := []) rfl rfl rfl (TOp.eqr (TOp.fop (.inr (.inr (.inr rfl))) rfl (OpF.const rfl (by kernel_rfl) (by kernel_rfl)) (OpF.tmp rfl)) (congrArg (f .f64) hx5)) rfl ?_
      refine zL (r := b (flt .f64 (some 0) x1)) rfl rfl rfl (LOp.fgt rfl (OpF.tmp rfl) (OpF.const rfl (by kernel_rfl) (by kernel_rfl))) ?_
      refine zM (r := f64 a1) rfl rfl rfl rfl rfl ?_
      refine ROps.d (r := f64 x2) (fs := []) (Γ' := []) rfl rfl rfl (TOp.eqr (TOp.fop (.inr (.inr (.inr rfl))) rfl (OpF.const rfl (by kernel_rfl) (by kernel_rfl)) (OpF.tmp rfl)) (congrArg (f .f64) hx6)) rfl ?_
      refine zL (r := b (flt .f64 (some 0) x2)) rfl rfl rfl (LOp.fgt rfl (OpF.tmp rfl) (OpF.const rfl (by kernel_rfl) (by kernel_rfl))) ?_
      refine zL (r := b ((flt .f64 (some 0) x1) == (flt .f64 (some 0) x2))) rfl rfl rfl (LOp.eqlb pun4 rfl rfl rfl) ?_
      refine zA (r := b ((flt .f64 (some 0) x1) == (flt .f64 (some 0) x2))) rfl rfl rfl rfl rfl ?_
      refine zN ?_
      refine RunC.ret ?_
      have hq := Option.some.inj h
      subst q0
      exact bodyQ.pure (.inr rfl) rfl (Res.one rfl (RV.tmp rfl))
     ·refine RunC.regionW ?_
      refine zM (r := f64 a0) rfl rfl rfl rfl rfl ?_
      refine zL (r := b true) rfl rfl rfl (LOp.eqb (LOp.feq rfl (OpF.tmp rfl) (OpF.const rfl (by kernel_rfl) (by kernel_rfl))) hc3) ?_
      refine zM (r := b true) rfl rfl rfl rfl rfl ?_
      refine zM (r := f64 a1) rfl rfl rfl rfl rfl ?_
      refine zL (r := b false) rfl rfl rfl (LOp.eqb (LOp.feq rfl (OpF.tmp rfl) (OpF.const rfl (by kernel_rfl) (by kernel_rfl))) hc4) ?_
      refine zL (r := b false) rfl rfl rfl (LOp.pick_true rfl rfl rfl) ?_
      refine zN ?_
      refine RunC.wl (τ' := [(0, f64 a0), (1, f64 a1), (26, b false)]) (Γ' := []) ⟨aR, aR, aR, trivial⟩ trivial ?_
      refine RunC.cond_false rfl rfl ?_
      refine RunC.skip ?_
      exact ⟨⟨aR, aR, trivial⟩, trivial, h⟩
    ·refine RunC.regionW ?_
     refine zM (r := f64 a0) rfl rfl rfl rfl rfl ?_
     refine zL (r := b false) rfl rfl rfl (LOp.eqb (LOp.feq rfl (OpF.tmp rfl) (OpF.const rfl (by kernel_rfl) (by kernel_rfl))) hc3) ?_
     refine zM (r := b false) rfl rfl rfl rfl rfl ?_
     refine ROps.s rfl rfl rfl ?_
     refine ROps.s rfl rfl rfl ?_
     refine zL (r := b false) rfl rfl rfl (LOp.pick_false rfl rfl rfl) ?_
     refine zN ?_
     refine RunC.wl (τ' := [(0, f64 a0), (1, f64 a1), (26, b false)]) (Γ' := []) ⟨aR, aR, aR, trivial⟩ trivial ?_
     refine RunC.cond_false rfl rfl ?_
     refine RunC.skip ?_
     exact ⟨⟨aR, aR, trivial⟩, trivial, h⟩
   ·rintro τ2 Γ2 ⟨hw2, hd2, h⟩
    refine RunC.wl hw2 hd2 ?_
    unfold w_sameFloat_k1 at h
    refine zQ ?_
    refine zM (r := f64 a0) rfl rfl rfl rfl rfl ?_
    refine zM (r := f64 a1) rfl rfl rfl rfl rfl ?_
    refine zL (r := b (feq .f64 a0 a1)) rfl rfl rfl (LOp.feq rfl (OpF.tmp rfl) (OpF.tmp rfl)) ?_
    refine zA (r := b (feq .f64 a0 a1)) rfl rfl rfl rfl rfl ?_
    refine zN ?_
    refine RunC.ret ?_
    have hq := Option.some.inj h
    subst q0
    exact bodyQ.pure (.inr rfl) rfl (Res.one rfl (RV.tmp rfl))
noncomputable def w_eqFloat32S_b1 (a0 : List F) (a1 : List F) (v1 : Int) : Option (LR (Int) (Unit) (Bool)) :=
 bsel (decide (v1 < (a0.length : Int))) (
  obind (at? a0 v1) fun (e2 : F) =>
  olet (fwiden e2) fun (x3 : F) =>
  obind (at? a1 v1) fun (e4 : F) =>
  olet (fwiden e4) fun (x5 : F) =>
  obind (w_sameFloat x3 x5) fun (r6 : Bool) =>
  bsel r6 (
   olet (IntKind.i64.wrap (v1 + 1)) fun (x7 : Int) =>
   some (LR.next x7)) (
   some (LR.ret false))) (
  some (LR.out ()))
noncomputable def w_eqFloat32S_s1 (a0 : List F) (a1 : List F) : (Int) → Option (LR (Int) (Unit) (Bool)) := fun s => w_eqFloat32S_b1 a0 a1 s
noncomputable def w_eqFloat32S_k1  : Option (Bool) :=
 some true
noncomputable def w_eqFloat32S (a0 : List F) (a1 : List F) : Option (Bool) :=
 bsel (!decide ((a0.length : Int) = (a1.length : Int))) (
  some false) (
  obind (loopM (w_eqFloat32S_s1 a0 a1) 0) fun z => osum z (fun _ => w_eqFloat32S_k1) (fun r => some r))
theorem w_eqFloat32S_ok (a0 : List F) (a1 : List F) (q0 : Bool) (h : w_eqFloat32S a0 a1 = some q0) : Ev Tryz.prog 19 [sl a0.length (a0.map f32), sl a1.length (a1.map f32)] [] (b q0) [] := by
 refine Ev.start Tryz.func19 rfl rfl 0 (τ := [(0, sl a0.length (a0.map f32)), (1, sl a1.length (a1.map f32))]) rfl (Γ' := []) rfl (n := 59) rfl (g := 0) rfl (fun _ => rfl) ?_
 unfold w_eqFloat32S at h
 refine zQ ?_
 refine zA (r := b false) rfl rfl rfl rfl rfl ?_
 refine zN ?_
 refine RunC.seq ?_
 refine RunC.seq ?_
 rcases bsel_some h with ⟨hc1, h⟩ | ⟨hc1, h⟩
 ·refine RunC.regionW ?_
  refine zM (r := sl a0.length (a0.map f32)) rfl rfl rfl rfl rfl ?_
  refine zL (r := i64 (a0.length : Int)) rfl rfl rfl (LOp.len_sl und22 rfl rfl) ?_
  refine zM (r := sl a1.length (a1.map f32)) rfl rfl rfl rfl rfl ?_
  refine zL (r := i64 (a1.length : Int)) rfl rfl rfl (LOp.len_sl und22 rfl rfl) ?_
  refine zL (r := b true) rfl rfl rfl (LOp.eqb (LOp.neq rfl rfl rfl) hc1) ?_
  refine zN ?_
  refine RunC.cond_true rfl rfl ?_
  refine zQ ?_
  refine zA (r := b false) rfl rfl rfl rfl rfl ?_
  refine zN ?_
  refine RunC.ret ?_
  have hq := Option.some.inj h
  subst q0
  exact bodyQ.pure (.inr rfl) rfl (Res.one rfl (RV.tmp rfl))
 ·refine RunC.regionW ?_
  refine zM (r := sl a0.length (a0.map f32)) rfl rfl rfl rfl rfl ?_
  refine zL (r := i64 (a0.length : Int)) rfl rfl rfl (LOp.len_sl und22 rfl rfl) ?_
  refine zM (r := sl a1.length (a1.map f32)) rfl rfl rfl rfl rfl ?_
  refine zL (r := i64 (a1.length : Int)) rfl rfl rfl (LOp.len_sl und22 rfl rfl) ?_
  refine zL (r := b false) rfl rfl rfl (LOp.eqb (LOp.neq rfl rfl rfl) hc1) ?_
  refine zN ?_
  refine RunC.cond_false rfl rfl ?_
  refine RunC.skip ?_
  refine RunC.seq ?_
  refine zQ ?_
  refine zA (r := i64 0) rfl rfl rfl rfl rfl ?_
  refine zN ?_
  obtain ⟨z2, hz_2, h⟩ := obind_some h
  refine RunC.cutN (fun τ Γ => WeakLe τ [] ∧ DeadLe Γ [] ∧ z2 = .inl ()) ?_ ?_
  ·refine RunC.block (RunC.loop (RunL.loopM (x := z2) (w_eqFloat32S_s1 a0 a1) (fun (s : Int) τ Γ => WeakLe τ [(0, sl a0.length (a0.map f32)), (1, sl a1.length (a1.map f32)), (5, i64 s)] ∧ DeadLe Γ []) ?_ _ _ _ hz_2 ⟨⟨aR, aR, aR, trivial⟩, trivial⟩))
   rintro v1 τ2 Γ2 y2_ ⟨hw2, hd2⟩ h2_ ho2 hr2
   refine RunC.wl (τ' := [(0, sl a0.length (a0.map f32)), (1, sl a1.length (a1.map f32)), (5, i64 v1)]) (Γ' := []) hw2 hd2 ?_
   replace h2_ : w_eqFloat32S_b1 a0 a1 v1 = some y2_ := h2_
   unfold w_eqFloat32S_b1 at h2_
   refine RunC.seq ?_
   refine RunC.seq ?_
   rcases bsel_some h2_ with ⟨hc2, h2_⟩ | ⟨hc2, h2_⟩
   ·refine RunC.regionW ?_
    refine zM (r := i64 v1) rfl rfl rfl rfl rfl ?_
    refine zM (r := sl a0.length (a0.map f32)) rfl rfl rfl rfl rfl ?_
    refine zL (r := i64 (a0.length : Int)) rfl rfl rfl (LOp.len_sl und22 rfl rfl) ?_
    refine zL (r := b true) rfl rfl rfl (LOp.eqb (LOp.lss rfl rfl rfl) hc2) ?_
    refine zN ?_
    refine RunC.cond_true rfl rfl ?_
    refine RunC.skip ?_
    refine RunC.seq ?_
    refine RunC.block ?_
    refine RunC.seq ?_
    obtain ⟨e2, he3, h2_⟩ := obind_some h2_
    obtain ⟨x3, hx4, h2_⟩ := olet_some h2_
    obtain ⟨e4, he5, h2_⟩ := obind_some h2_
    obtain ⟨x5, hx6, h2_⟩ := olet_some h2_
    obtain ⟨r6, hf7, h2_⟩ := obind_some h2_
    rcases bsel_some h2_ with ⟨hc8, h2_⟩ | ⟨hc8, h2_⟩
    ·refine RunC.region_draw (Γ' := []) 12 mixed 
      (TR.l (r := sl a0.length (a0.map f32)) rfl rfl (LOp.move rfl rfl) <|
      (TR.l (r := i64 v1) rfl rfl (LOp.move rfl rfl) <|
      (TR.l (r := ptr [f32 e2]) rfl rfl (LOp.le (LOp.ix (f := f32) und22 siz51 rfl rfl rfl rfl he3) ALe.ptr) <|
      (TR.l (r := f32 e2) rfl rfl (LOp.load1 agg51 rfl rfl) <|
      (TR.d (r := f64 x3) (fs := []) rfl rfl (TOp.eqr (TOp.widen (src := 51) (dst := 58) ⟨_, pun51⟩ pun58 rfl (OpF.tmp rfl)) (congrArg (f .f64) hx4)) <|
      (TR.l (r := sl a1.length (a1.map f32)) rfl rfl (LOp.move rfl rfl) <|
      (TR.l (r := i64 v1) rfl rfl (LOp.move rfl rfl) <|
      (TR.l (r := ptr [f32 e4]) rfl rfl (LOp.le (LOp.ix (f := f32) und22 siz51 rfl rfl rfl rfl he5) ALe.ptr) <|
      (TR.l (r := f32 e4) rfl rfl (LOp.load1 agg51 rfl rfl) <|
      (TR.d (r := f64 x5) (fs := []) rfl rfl (TOp.eqr (TOp.widen (src := 51) (dst := 58) ⟨_, pun51⟩ pun58 rfl (OpF.tmp rfl)) (congrArg (f .f64) hx6)) <|
      (TR.d (r := b true) (fs := []) rfl rfl (TOp.eqb (TOp.callB (CallAs.func ent34 rfl rfl) (Bors.cons (Bor.pure rfl) (Bors.cons (Bor.pure rfl) Bors.nil)) rfl rfl (w_sameFloat_ok x3 x5 r6 hf7)) hc8) <|
      (TR.l (r := b false) rfl rfl (LOp.eqb (LOp.not rfl rfl) rfl) <|
      TR.nil)))))))))))) rfl (by kernel_rfl) rfl fills_nil rfl ?_
     iterate 12 refine ROps.dropS ?_
     refine ROps.drop0 ?_
     refine zN ?_
     refine RunC.wl (τ' := [(0, sl a0.length (a0.map f32)), (1, sl a1.length (a1.map f32)), (5, i64 v1), (28, b false)]) (Γ' := []) ⟨aR, aR, aR, aR, trivial⟩ trivial ?_
     refine RunC.cond_false rfl rfl ?_
     refine RunC.skip ?_
     obtain ⟨x7, hx9, h2_⟩ := olet_some h2_
     refine RunC.regionW ?_
     refine zM (r := i64 v1) rfl rfl rfl rfl rfl ?_
     refine zL (r := i64 x7) rfl rfl rfl (LOp.eqr (LOp.add rfl rfl rfl) (congrArg (ik .i64) hx9)) ?_
     refine zA (r := i64 x7) rfl rfl rfl rfl rfl ?_
     refine zN ?_
     cases Option.some.inj h2_
     exact ⟨_, rfl, ⟨aR, aR, aR, trivial⟩, trivial⟩
    ·refine RunC.region_draw (Γ' := []) 12 mixed 
      (TR.l (r := sl a0.length (a0.map f32)) rfl rfl (LOp.move rfl rfl) <|
      (TR.l (r := i64 v1) rfl rfl (LOp.move rfl rfl) <|
      (TR.l (r := ptr [f32 e2]) rfl rfl (LOp.le (LOp.ix (f := f32) und22 siz51 rfl rfl rfl rfl he3) ALe.ptr) <|
      (TR.l (r := f32 e2) rfl rfl (LOp.load1 agg51 rfl rfl) <|
      (TR.d (r := f64 x3) (fs := []) rfl rfl (TOp.eqr (TOp.widen (src := 51) (dst := 58) ⟨_, pun51⟩ pun58 rfl (OpF.tmp rfl)) (congrArg (f .f64) hx4)) <|
      (TR.l (r := sl a1.length (a1.map f32)) rfl rfl (LOp.move rfl rfl) <|
      (TR.l (r := i64 v1) rfl rfl (LOp.move rfl rfl) <|
      (TR.l (r := ptr [f32 e4]) rfl rfl (LOp.le (LOp.ix (f := f32) und22 siz51 rfl rfl rfl rfl he5) ALe.ptr) <|
      (TR.l (r := f32 e4) rfl rfl (LOp.load1 agg51 rfl rfl) <|
      (TR.d (r := f64 x5) (fs := []) rfl rfl (TOp.eqr (TOp.widen (src := 51) (dst := 58) ⟨_, pun51⟩ pun58 rfl (OpF.tmp rfl)) (congrArg (f .f64) hx6)) <|
      (TR.d (r := b false) (fs := []) rfl rfl (TOp.eqb (TOp.callB (CallAs.func ent34 rfl rfl) (Bors.cons (Bor.pure rfl) (Bors.cons (Bor.pure rfl) Bors.nil)) rfl rfl (w_sameFloat_ok x3 x5 r6 hf7)) hc8) <|
      (TR.l (r := b true) rfl rfl (LOp.eqb (LOp.not rfl rfl) rfl) <|
      TR.nil)))))))))))) rfl (by kernel_rfl) rfl fills_nil rfl ?_
     iterate 12 refine ROps.dropS ?_
     refine ROps.drop0 ?_
     refine zN ?_
     refine RunC.wl (τ' := [(0, sl a0.length (a0.map f32)), (1, sl a1.length (a1.map f32)), (5, i64 v1), (28, b true)]) (Γ' := []) ⟨aR, aR, aR, aR, trivial⟩ trivial ?_
     refine RunC.cond_true rfl rfl ?_
     refine zQ ?_
     refine zA (r := b false) rfl rfl rfl rfl rfl ?_
     refine zN ?_
     refine RunC.ret ?_
     cases Option.some.inj h2_
     have hx3_ := hr2 _ rfl
     subst hx3_
     have hq := Option.some.inj h
     subst q0
     exact bodyQ.pure (.inr rfl) rfl (Res.one rfl (RV.tmp rfl))
   ·refine RunC.regionW ?_
    refine zM (r := i64 v1) rfl rfl rfl rfl rfl ?_
    refine zM (r := sl a0.length (a0.map f32)) rfl rfl rfl rfl rfl ?_
    refine zL (r := i64 (a0.length : Int)) rfl rfl rfl (LOp.len_sl und22 rfl rfl) ?_
    refine zL (r := b false) rfl rfl rfl (LOp.eqb (LOp.lss rfl rfl rfl) hc2) ?_
    refine zN ?_
    refine RunC.cond_false rfl rfl ?_
    refine RunC.exit ?_
    cases Option.some.inj h2_
    have hx := ho2 _ rfl
    exact ⟨trivial, trivial, hx⟩
  ·rintro τ4 Γ4 ⟨hw4, hd4, rfl⟩
   refine RunC.wl hw4 hd4 ?_
   replace h : w_eqFloat32S_k1 = some q0 := h
   unfold w_eqFloat32S_k1 at h
   refine zQ ?_
   refine zA (r := b true) rfl rfl rfl rfl rfl ?_
   refine zN ?_
   refine RunC.ret ?_
   have hq := Option.some.inj h
   subst q0
   exact bodyQ.pure (.inr rfl) rfl (Res.one rfl (RV.tmp rfl))
noncomputable def w_eqMatrix (a0 : Int) (a1 : Int) (a2 : List F) (a3 : Int) (a4 : Int) (a5 : List F) : Option (Bool) :=
 bsel (!decide (a0 = a3)) (
  some false) (
  bsel (!decide (a1 = a4)) (
   some false) (
   obind (w_eqFloat32S a2 a5) fun (r1 : Bool) =>
   bsel r1 (
    some true) (
    some false)))
theorem w_eqMatrix_ok (a0 : Int) (a1 : Int) (a2 : List F) (a3 : Int) (a4 : Int) (a5 : List F) (q0 : Bool) (h : w_eqMatrix a0 a1 a2 a3 a4 a5 = some q0) : Ev Tryz.prog 12 [agg [i64 a0, i64 a1, sl a2.length (a2.map f32)], agg [i64 a3, i64 a4, sl a5.length (a5.map f32)]] [] (b q0) [] := by
 refine Ev.start Tryz.func12 rfl rfl 0 (τ := [(0, agg [i64 a0, i64 a1, sl a2.length (a2.map f32)]), (1, agg [i64 a3, i64 a4, sl a5.length (a5.map f32)])]) rfl (Γ' := []) rfl (n := 43) rfl (g := 0) rfl (fun _ => rfl) ?_
 unfold w_eqMatrix at h
 refine zQ ?_
 refine ROps.d (r := ptr [i64 a0, i64 a1, sl a2.length (a2.map f32)]) (fs := []) (Γ' := []) rfl rfl rfl (TOp.box_s rfl rfl rfl) rfl ?_
 refine ROps.d (r := ptr [i64 a3, i64 a4, sl a5.length (a5.map f32)]) (fs := []) (Γ' := []) rfl rfl rfl (TOp.box_s rfl rfl rfl) rfl ?_
 refine zA (r := b false) rfl rfl rfl rfl rfl ?_
 refine zN ?_
 refine RunC.seq ?_
 refine RunC.seq ?_
 rcases bsel_some h with ⟨hc1, h⟩ | ⟨hc1, h⟩
 ·refine RunC.regionW ?_
  refine zL (r := ptr [i64 a0, i64 a1, sl a2.length (a2.map f32)]) rfl rfl rfl (LOp.fap und31 rfl siz2 rfl rfl rfl) ?_
  refine zL (r := i64 a0) rfl rfl rfl (LOp.load1 agg2 rfl rfl) ?_
  refine zL (r := ptr [i64 a3, i64 a4, sl a5.length (a5.map f32)]) rfl rfl rfl (LOp.fap und31 rfl siz2 rfl rfl rfl) ?_
  refine zL (r := i64 a3) rfl rfl rfl (LOp.load1 agg2 rfl rfl) ?_
  refine zL (r := b true) rfl rfl rfl (LOp.eqb (LOp.neq rfl rfl rfl) hc1) ?_
  refine zN ?_
  refine RunC.cond_true rfl rfl ?_
  refine zQ ?_
  refine zA (r := b false) rfl rfl rfl rfl rfl ?_
  refine zN ?_
  refine RunC.ret ?_
  have hq := Option.some.inj h
  subst q0
  exact bodyQ.pure (.inr rfl) rfl (Res.one rfl (RV.tmp rfl))
 ·refine RunC.regionW ?_
  refine zL (r := ptr [i64 a0, i64 a1, sl a2.length (a2.map f32)]) rfl rfl rfl (LOp.fap und31 rfl siz2 rfl rfl rfl) ?_
  refine zL (r := i64 a0) rfl rfl rfl (LOp.load1 agg2 rfl rfl) ?_
  refine zL (r := ptr [i64 a3, i64 a4, sl a5.length (a5.map f32)]) rfl rfl rfl (LOp.fap und31 rfl siz2 rfl rfl rfl) ?_
  refine zL (r := i64 a3) rfl rfl rfl (LOp.load1 agg2 rfl rfl) ?_
  refine zL (r := b false) rfl rfl rfl (LOp.eqb (LOp.neq rfl rfl rfl) hc1) ?_
  refine zN ?_
  refine RunC.cond_false rfl rfl ?_
  refine RunC.skip ?_
  refine RunC.seq ?_
  refine RunC.seq ?_
  rcases bsel_some h with ⟨hc2, h⟩ | ⟨hc2, h⟩
  ·refine RunC.regionW ?_
   refine zL (r := ptr [i64 a1, sl a2.length (a2.map f32)]) rfl rfl rfl (LOp.fap und31 rfl siz2 rfl rfl rfl) ?_
   refine zL (r := i64 a1) rfl rfl rfl (LOp.load1 agg2 rfl rfl) ?_
   refine zL (r := ptr [i64 a4, sl a5.length (a5.map f32)]) rfl rfl rfl (LOp.fap und31 rfl siz2 rfl rfl rfl) ?_
   refine zL (r := i64 a4) rfl rfl rfl (LOp.load1 agg2 rfl rfl) ?_
   refine zL (r := b true) rfl rfl rfl (LOp.eqb (LOp.neq rfl rfl rfl) hc2) ?_
   refine zN ?_
   refine RunC.cond_true rfl rfl ?_
   refine zQ ?_
   refine zA (r := b false) rfl rfl rfl rfl rfl ?_
   refine zN ?_
   refine RunC.ret ?_
   have hq := Option.some.inj h
   subst q0
   exact bodyQ.pure (.inr rfl) rfl (Res.one rfl (RV.tmp rfl))
  ·refine RunC.regionW ?_
   refine zL (r := ptr [i64 a1, sl a2.length (a2.map f32)]) rfl rfl rfl (LOp.fap und31 rfl siz2 rfl rfl rfl) ?_
   refine zL (r := i64 a1) rfl rfl rfl (LOp.load1 agg2 rfl rfl) ?_
   refine zL (r := ptr [i64 a4, sl a5.length (a5.map f32)]) rfl rfl rfl (LOp.fap und31 rfl siz2 rfl rfl rfl) ?_
   refine zL (r := i64 a4) rfl rfl rfl (LOp.load1 agg2 rfl rfl) ?_
   refine zL (r := b false) rfl rfl rfl (LOp.eqb (LOp.neq rfl rfl rfl) hc2) ?_
   refine zN ?_
   refine RunC.cond_false rfl rfl ?_
   refine RunC.skip ?_
   refine RunC.wl (τ' := [(2, ptr [i64 a0, i64 a1, sl a2.length (a2.map f32)]), (3, ptr [i64 a3, i64 a4, sl a5.length (a5.map f32)])]) (Γ' := []) ⟨aR, aR, trivial⟩ trivial ?_
   refine RunC.seq ?_
   refine RunC.seq ?_
   obtain ⟨r1, hf3, h⟩ := obind_some h
   rcases bsel_some h with ⟨hc4, h⟩ | ⟨hc4, h⟩
   ·refine RunC.regionW ?_
    refine zL (r := ptr [sl a2.length (a2.map f32)]) rfl rfl rfl (LOp.fap und31 rfl siz22 rfl rfl rfl) ?_
    refine zL (r := sl a2.length (a2.map f32)) rfl rfl rfl (LOp.load1 agg22 rfl rfl) ?_
    refine zL (r := ptr [sl a5.length (a5.map f32)]) rfl rfl rfl (LOp.fap und31 rfl siz22 rfl rfl rfl) ?_
    refine zL (r := sl a5.length (a5.map f32)) rfl rfl rfl (LOp.load1 agg22 rfl rfl) ?_
    refine ROps.d (r := b true) (fs := []) (Γ' := []) rfl rfl rfl (TOp.eqb (TOp.callB (CallAs.func ent19 rfl rfl) (Bors.cons (Bor.sl (fun _ => rfl)) (Bors.cons (Bor.sl (fun _ => rfl)) Bors.nil)) rfl rfl (w_eqFloat32S_ok a2 a5 r1 hf3)) hc4) rfl ?_
    refine zL (r := b false) rfl rfl rfl (LOp.eqb (LOp.not rfl rfl) rfl) ?_
    refine zN ?_
    refine RunC.cond_false rfl rfl ?_
    refine RunC.skip ?_
    refine zQ ?_
    refine zA (r := b true) rfl rfl rfl rfl rfl ?_
    refine zN ?_
    refine RunC.ret ?_
    have hq := Option.some.inj h
    subst q0
    exact bodyQ.pure (.inr rfl) rfl (Res.one rfl (RV.tmp rfl))
   ·refine RunC.regionW ?_
    refine zL (r := ptr [sl a2.length (a2.map f32)]) rfl rfl rfl (LOp.fap und31 rfl siz22 rfl rfl rfl) ?_
    refine zL (r := sl a2.length (a2.map f32)) rfl rfl rfl (LOp.load1 agg22 rfl rfl) ?_
    refine zL (r := ptr [sl a5.length (a5.map f32)]) rfl rfl rfl (LOp.fap und31 rfl siz22 rfl rfl rfl) ?_
    refine zL (r := sl a5.length (a5.map f32)) rfl rfl rfl (LOp.load1 agg22 rfl rfl) ?_
    refine ROps.d (r := b false) (fs := []) (Γ' := []) rfl rfl rfl (TOp.eqb (TOp.callB (CallAs.func ent19 rfl rfl) (Bors.cons (Bor.sl (fun _ => rfl)) (Bors.cons (Bor.sl (fun _ => rfl)) Bors.nil)) rfl rfl (w_eqFloat32S_ok a2 a5 r1 hf3)) hc4) rfl ?_
    refine zL (r := b true) rfl rfl rfl (LOp.eqb (LOp.not rfl rfl) rfl) ?_
    refine zN ?_
    refine RunC.cond_true rfl rfl ?_
    refine zQ ?_
    refine zA (r := b false) rfl rfl rfl rfl rfl ?_
    refine zN ?_
    refine RunC.ret ?_
    have hq := Option.some.inj h
    subst q0
    exact bodyQ.pure (.inr rfl) rfl (Res.one rfl (RV.tmp rfl))
noncomputable def w_markFloat32S_0o_b1 (a1 : List F) (L1 : List F) (v3 : Int) (v4 : Int) : Option (LR ((List F) × Int × Int) ((List F) × Int) (Int × (List F))) :=
 bsel (decide (v4 < ((a1.length : Nat) : Int))) (
  olet (fint .f32 v3) fun (x5 : F) =>
  obind (setAt? L1 v4 x5) fun (L6 : List F) =>
  olet (IntKind.i64.wrap (v3 + 1)) fun (x7 : Int) =>
  olet (IntKind.i64.wrap (v4 + 1)) fun (x8 : Int) =>
  some (LR.next (L6, x7, x8))) (
  some (LR.out (L1, v3)))
noncomputable def w_markFloat32S_0o_s1 (a1 : List F) : ((List F) × Int × Int) → Option (LR ((List F) × Int × Int) ((List F) × Int) (Int × (List F))) := fun s => w_markFloat32S_0o_b1 a1 s.1 s.2.1 s.2.2
noncomputable def w_markFloat32S_0o_k1 (L9 : List F) (v11 : Int) : Option (Int × (List F)) :=
 some (v11, L9)
noncomputable def w_markFloat32S_0o (a0 : Int) (a1 : List F) : Option (Int × (List F)) :=
 obind (loopM (w_markFloat32S_0o_s1 a1) (a1, a0, 0)) fun z => osum z (fun e => w_markFloat32S_0o_k1 e.1 e.2) (fun r => some r)
theorem w_markFloat32S_0o_ok (a0 : Int) (a1 : List F) (q0 : Int) (q1 : List F) (h : w_markFloat32S_0o a0 a1 = some (q0, q1)) : Ev Tryz.prog 20 [oref 0 0 0 a1.length, i64 a0] [⟨0, some (a1.map f32)⟩] (i64 q0) [⟨0, some (q1.map f32)⟩] := by
 refine Ev.start Tryz.func20 rfl rfl 0 (τ := [(0, oref 0 0 0 a1.length), (1, i64 a0)]) rfl (Γ' := [⟨0, some (a1.map f32)⟩]) rfl (n := 40) rfl (g := 1) rfl (by decide) ?_
 unfold w_markFloat32S_0o at h
 refine zQ ?_
 refine zA (r := i64 0) rfl rfl rfl rfl rfl ?_
 refine zN ?_
 refine RunC.seq ?_
 refine zQ ?_
 refine zA (r := i64 0) rfl rfl rfl rfl rfl ?_
 refine zN ?_
 obtain ⟨z2, hz_2, h⟩ := obind_some h
 refine RunC.cutN (fun τ Γ => ∃ (L9 : List F) (v11 : Int), L9.length = a1.length ∧ WeakLe τ [(1, i64 v11)] ∧ DeadLe Γ [⟨0, some (L9.map f32)⟩] ∧ z2 = .inl (L9, v11)) ?_ ?_
 ·refine RunC.block (RunC.loop (RunL.loopM (x := z2) (w_markFloat32S_0o_s1 a1) (fun (s : (List F) × Int × Int) τ Γ => s.1.length = a1.length ∧ WeakLe τ [(0, oref 0 0 0 a1.length), (1, i64 s.2.1), (5, i64 s.2.2)] ∧ DeadLe Γ [⟨0, some (s.1.map f32)⟩]) ?_ _ _ _ hz_2 ⟨rfl, ⟨aR, aR, aR, trivial⟩, ⟨⟨rfl, .inr rfl⟩, trivial⟩⟩))
  rintro ⟨L1, v3, v4⟩ τ2 Γ2 y2_ ⟨hl2, hw2, hd2⟩ h2_ ho2 hr2
  refine RunC.wl (τ' := [(0, oref 0 0 0 a1.length), (1, i64 v3), (5, i64 v4)]) (Γ' := [⟨0, some (L1.map f32)⟩]) hw2 hd2 ?_
  replace hl2 : L1.length = a1.length := hl2
  replace h2_ : w_markFloat32S_0o_b1 a1 L1 v3 v4 = some y2_ := h2_
  unfold w_markFloat32S_0o_b1 at h2_
  refine RunC.seq ?_
  refine RunC.seq ?_
  rcases bsel_some h2_ with ⟨hc1, h2_⟩ | ⟨hc1, h2_⟩
  ·refine RunC.regionW ?_
   refine zM (r := i64 v4) rfl rfl rfl rfl rfl ?_
   refine zM (r := oref 0 0 0 a1.length) rfl rfl rfl rfl rfl ?_
   refine zL (r := i64 ((a1.length : Nat) : Int)) rfl rfl rfl (LOp.len_oref und22 rfl rfl) ?_
   refine zL (r := b true) rfl rfl rfl (LOp.eqb (LOp.lss rfl rfl rfl) hc1) ?_
   refine zN ?_
   refine RunC.cond_true rfl rfl ?_
   refine RunC.skip ?_
   refine RunC.seq ?_
   refine RunC.block ?_
   refine RunC.seq ?_
   obtain ⟨x5, hx2, h2_⟩ := olet_some h2_
   obtain ⟨L6, he3, h2_⟩ := obind_some h2_
   refine RunC.regionW ?_
   refine zM (r := oref 0 0 0 a1.length) rfl rfl rfl rfl rfl ?_
   refine zM (r := i64 v4) rfl rfl rfl rfl rfl ?_
   refine zM (r := i64 v3) rfl rfl rfl rfl rfl ?_
   refine zL (r := f32 x5) rfl rfl rfl (LOp.eqr (LOp.i2f (src := 3) (dst := 51) ⟨_, pun3⟩ pun51 rfl rfl) (congrArg (f .f32) hx2)) ?_
   refine ROps.d (r := optr 0 0 v4.toNat) (fs := []) (Γ' := [⟨0, some (L1.map f32)⟩]) rfl rfl rfl (TOp.ixo und22 siz51 rfl rfl rfl (set_in he3 hl2) rfl) rfl ?_
   refine ROps.st (f := f32) (i := v4) (Γ' := [⟨0, some (L6.map f32)⟩]) rfl siz51 rfl rfl rfl aR rfl rfl rfl he3 rfl ?_
   refine zN ?_
   obtain ⟨x7, hx4, h2_⟩ := olet_some h2_
   refine RunC.regionW ?_
   refine zM (r := i64 v3) rfl rfl rfl rfl rfl ?_
   refine zL (r := i64 x7) rfl rfl rfl (LOp.eqr (LOp.add rfl rfl rfl) (congrArg (ik .i64) hx4)) ?_
   refine zA (r := i64 x7) rfl rfl rfl rfl rfl ?_
   refine zN ?_
   obtain ⟨x8, hx5, h2_⟩ := olet_some h2_
   refine RunC.regionW ?_
   refine zM (r := i64 v4) rfl rfl rfl rfl rfl ?_
   refine zL (r := i64 x8) rfl rfl rfl (LOp.eqr (LOp.add rfl rfl rfl) (congrArg (ik .i64) hx5)) ?_
   refine zA (r := i64 x8) rfl rfl rfl rfl rfl ?_
   refine zN ?_
   cases Option.some.inj h2_
   exact ⟨_, rfl, ((setAt?_len he3).trans hl2), ⟨aR, aR, aR, trivial⟩, ⟨⟨rfl, .inr rfl⟩, trivial⟩⟩
  ·refine RunC.regionW ?_
   refine zM (r := i64 v4) rfl rfl rfl rfl rfl ?_
   refine zM (r := oref 0 0 0 a1.length) rfl rfl rfl rfl rfl ?_
   refine zL (r := i64 ((a1.length : Nat) : Int)) rfl rfl rfl (LOp.len_oref und22 rfl rfl) ?_
   refine zL (r := b false) rfl rfl rfl (LOp.eqb (LOp.lss rfl rfl rfl) hc1) ?_
   refine zN ?_
   refine RunC.cond_false rfl rfl ?_
   refine RunC.exit ?_
   cases Option.some.inj h2_
   have hx := ho2 _ rfl
   exact ⟨L1, v3, hl2, ⟨aR, trivial⟩, ⟨⟨rfl, .inr rfl⟩, trivial⟩, hx⟩
 ·rintro τ3 Γ3 ⟨L9, v11, hl10, hw3, hd3, rfl⟩
  refine RunC.wl hw3 hd3 ?_
  replace h : w_markFloat32S_0o_k1 L9 v11 = some (q0, q1) := h
  unfold w_markFloat32S_0o_k1 at h
  refine zQ ?_
  refine zM (r := i64 v11) rfl rfl rfl rfl rfl ?_
  refine zA (r := i64 v11) rfl rfl rfl rfl rfl ?_
  refine zN ?_
  refine RunC.ret ?_
  have hq := Option.some.inj h
  obtain ⟨hq0, hq⟩ := Prod.mk.inj hq
  subst q0
  subst q1
  exact bodyQ.mk (r' := i64 v11) [(0, 0)] (.inr rfl) rfl (show List.Nodup [0] from by decide) rfl rfl (Res.one rfl (RV.tmp rfl)) (SelL.arr (f := f32) (fun _ => rfl) rfl trivial)
noncomputable def w_markMatrix_02o (a0 : Int) (a1 : Int) (a2 : Int) (a3 : List F) : Option (Int × (List F)) :=
 obind2 (w_markFloat32S_0o a2 a3) fun (r1 : Int) (r2 : List F) =>
 need (decide (r2.length = a3.length)) <|
 some (r1, r2)
theorem w_markMatrix_02o_ok (a0 : Int) (a1 : Int) (a2 : Int) (a3 : List F) (q0 : Int) (q1 : List F) (h : w_markMatrix_02o a0 a1 a2 a3 = some (q0, q1)) : Ev Tryz.prog 13 [agg [i64 a0, i64 a1, oref 0 0 0 a3.length], i64 a2] [⟨0, some (a3.map f32)⟩] (i64 q0) [⟨0, some (q1.map f32)⟩] := by
 refine Ev.start Tryz.func13 rfl rfl 0 (τ := [(0, agg [i64 a0, i64 a1, oref 0 0 0 a3.length]), (1, i64 a2)]) rfl (Γ' := [⟨0, some (a3.map f32)⟩]) rfl (n := 20) rfl (g := 1) rfl (by decide) ?_
 unfold w_markMatrix_02o at h
 refine zQ ?_
 refine ROps.d (r := ptr [i64 a0, i64 a1, oref 0 0 0 a3.length]) (fs := []) (Γ' := [⟨0, some (a3.map f32)⟩]) rfl rfl rfl (TOp.box_s rfl rfl rfl) rfl ?_
 refine zA (r := i64 0) rfl rfl rfl rfl rfl ?_
 refine zN ?_
 refine RunC.seq ?_
 obtain ⟨r1, r2, hf1, h⟩ := obind2_some h
 obtain ⟨hn2, h⟩ := need_some h
 refine RunC.regionW ?_
 refine zL (r := ptr [oref 0 0 0 a3.length]) rfl rfl rfl (LOp.fap und31 rfl siz22 rfl rfl rfl) ?_
 refine zL (r := oref 0 0 0 a3.length) rfl rfl rfl (LOp.load1 agg22 rfl rfl) ?_
 refine zM (r := i64 a2) rfl rfl rfl rfl rfl ?_
 refine ROps.callO (A := [oref 0 0 0 a3.length, i64 a2]) (args := [oref 0 0 0 a3.length, i64 a2]) (Γc := [⟨0, some (a3.map f32)⟩]) (Γc' := [⟨0, some (r2.map f32)⟩]) (r' := i64 r1) (Γ' := [⟨0, some (r2.map f32)⟩]) [(0, 0)] [] rfl (CallAs.func ent20 rfl rfl) rfl rfl (SelOk.of (show List.Nodup [0] from by decide) (SelL.arr0 (f := f32) (fun _ => rfl) rfl trivial)) (live_of ⟨⟨_, _, rfl⟩, trivial⟩) (by simp [ren, rens, sigma, rens_f32, rens_f64, rens_i64, rens_ik, rens_str, rens_cp]) rfl (w_markFloat32S_0o_ok a2 a3 r1 r2 hf1) rfl (news_of trivial) (show List.Nodup [0] from by decide) (by simp [ren, rens, sigma, of_decide_eq_true hn2]) (by simp [backOb, sigma, ren, rens, rens_f32, rens_f64, rens_i64, rens_ik, rens_str, rens_cp]) ?_
 refine zA (r := i64 r1) rfl rfl rfl rfl rfl ?_
 refine zN ?_
 refine zQ ?_
 refine zM (r := i64 r1) rfl rfl rfl rfl rfl ?_
 refine zA (r := i64 r1) rfl rfl rfl rfl rfl ?_
 refine zN ?_
 refine RunC.ret ?_
 have hq := Option.some.inj h
 obtain ⟨hq0, hq⟩ := Prod.mk.inj hq
 subst q0
 subst q1
 exact bodyQ.mk (r' := i64 r1) [(0, 0)] (.inr rfl) rfl (show List.Nodup [0] from by decide) rfl rfl (Res.one rfl (RV.tmp rfl)) (SelL.arr (f := f32) (fun _ => rfl) rfl trivial)
noncomputable def w_heldFloat32S_b1 (a0 : List F) (v1 : Int) (v2 : Int) : Option (LR (Int × Int) (Int) (Int)) :=
 bsel (decide (v2 < (a0.length : Int))) (
  obind (at? a0 v2) fun (e3 : F) =>
  olet (fint .f32 v1) fun (x4 : F) =>
  bsel (!feq .f32 e3 x4) (
   some (LR.ret (-1))) (
   olet (IntKind.i64.wrap (v1 + 1)) fun (x5 : Int) =>
   olet (IntKind.i64.wrap (v2 + 1)) fun (x6 : Int) =>
   some (LR.next (x5, x6)))) (
  some (LR.out v1))
noncomputable def w_heldFloat32S_s1 (a0 : List F) : (Int × Int) → Option (LR (Int × Int) (Int) (Int)) := fun s => w_heldFloat32S_b1 a0 s.1 s.2
noncomputable def w_heldFloat32S_k1 (v7 : Int) : Option (Int) :=
 some v7
noncomputable def w_heldFloat32S (a0 : List F) (a1 : Int) : Option (Int) :=
 obind (loopM (w_heldFloat32S_s1 a0) (a1, 0)) fun z => osum z (fun e => w_heldFloat32S_k1 e) (fun r => some r)
theorem w_heldFloat32S_ok (a0 : List F) (a1 : Int) (q0 : Int) (h : w_heldFloat32S a0 a1 = some q0) : Ev Tryz.prog 21 [sl a0.length (a0.map f32), i64 a1] [] (i64 q0) [] := by
 refine Ev.start Tryz.func21 rfl rfl 0 (τ := [(0, sl a0.length (a0.map f32)), (1, i64 a1)]) rfl (Γ' := []) rfl (n := 45) rfl (g := 0) rfl (fun _ => rfl) ?_
 unfold w_heldFloat32S at h
 refine zQ ?_
 refine zA (r := i64 0) rfl rfl rfl rfl rfl ?_
 refine zN ?_
 refine RunC.seq ?_
 refine zQ ?_
 refine zA (r := i64 0) rfl rfl rfl rfl rfl ?_
 refine zN ?_
 obtain ⟨z2, hz_2, h⟩ := obind_some h
 refine RunC.cutN (fun τ Γ => ∃ (v7 : Int), WeakLe τ [(1, i64 v7)] ∧ DeadLe Γ [] ∧ z2 = .inl v7) ?_ ?_
 ·refine RunC.block (RunC.loop (RunL.loopM (x := z2) (w_heldFloat32S_s1 a0) (fun (s : Int × Int) τ Γ => WeakLe τ [(0, sl a0.length (a0.map f32)), (1, i64 s.1), (5, i64 s.2)] ∧ DeadLe Γ []) ?_ _ _ _ hz_2 ⟨⟨aR, aR, aR, trivial⟩, trivial⟩))
  rintro ⟨v1, v2⟩ τ2 Γ2 y2_ ⟨hw2, hd2⟩ h2_ ho2 hr2
  refine RunC.wl (τ' := [(0, sl a0.length (a0.map f32)), (1, i64 v1), (5, i64 v2)]) (Γ' := []) hw2 hd2 ?_
  replace h2_ : w_heldFloat32S_b1 a0 v1 v2 = some y2_ := h2_
  unfold w_heldFloat32S_b1 at h2_
  refine RunC.seq ?_
  refine RunC.seq ?_
  rcases bsel_some h2_ with ⟨hc1, h2_⟩ | ⟨hc1, h2_⟩
  ·refine RunC.regionW ?_
   refine zM (r := i64 v2) rfl rfl rfl rfl rfl ?_
   refine zM (r := sl a0.length (a0.map f32)) rfl rfl rfl rfl rfl ?_
   refine zL (r := i64 (a0.length : Int)) rfl rfl rfl (LOp.len_sl und22 rfl rfl) ?_
   refine zL (r := b true) rfl rfl rfl (LOp.eqb (LOp.lss rfl rfl rfl) hc1) ?_
   refine zN ?_
   refine RunC.cond_true rfl rfl ?_
   refine RunC.skip ?_
   refine RunC.seq ?_
   refine RunC.block ?_
   refine RunC.seq ?_
   refine RunC.seq ?_
   obtain ⟨e3, he2, h2_⟩ := obind_some h2_
   obtain ⟨x4, hx3, h2_⟩ := olet_some h2_
   rcases bsel_some h2_ with ⟨hc4, h2_⟩ | ⟨hc4, h2_⟩
   ·refine RunC.regionW ?_
    refine zM (r := sl a0.length (a0.map f32)) rfl rfl rfl rfl rfl ?_
    refine zM (r := i64 v2) rfl rfl rfl rfl rfl ?_
    refine zL (r := ptr [f32 e3]) rfl rfl rfl (LOp.le (LOp.ix (f := f32) und22 siz51 rfl rfl rfl rfl he2) ALe.ptr) ?_
    refine zL (r := f32 e3) rfl rfl rfl (LOp.load1 agg51 rfl rfl) ?_
    refine zM (r := i64 v1) rfl rfl rfl rfl rfl ?_
    refine zL (r := f32 x4) rfl rfl rfl (LOp.eqr (LOp.i2f (src := 3) (dst := 51) ⟨_, pun3⟩ pun51 rfl rfl) (congrArg (f .f32) hx3)) ?_
    refine zL (r := b true) rfl rfl rfl (LOp.eqb (LOp.fne rfl (OpF.tmp rfl) (OpF.tmp rfl)) hc4) ?_
    refine zN ?_
    refine RunC.cond_true rfl rfl ?_
    refine zQ ?_
    refine zA (r := i64 (-1)) rfl rfl rfl rfl rfl ?_
    refine zN ?_
    refine RunC.ret ?_
    cases Option.some.inj h2_
    have hx3_ := hr2 _ rfl
    subst hx3_
    have hq := Option.some.inj h
    subst q0
    exact bodyQ.pure (.inr rfl) rfl (Res.one rfl (RV.tmp rfl))
   ·refine RunC.regionW ?_
    refine zM (r := sl a0.length (a0.map f32)) rfl rfl rfl rfl rfl ?_
    refine zM (r := i64 v2) rfl rfl rfl rfl rfl ?_
    refine zL (r := ptr [f32 e3]) rfl rfl rfl (LOp.le (LOp.ix (f := f32) und22 siz51 rfl rfl rfl rfl he2) ALe.ptr) ?_
    refine zL (r := f32 e3) rfl rfl rfl (LOp.load1 agg51 rfl rfl) ?_
    refine zM (r := i64 v1) rfl rfl rfl rfl rfl ?_
    refine zL (r := f32 x4) rfl rfl rfl (LOp.eqr (LOp.i2f (src := 3) (dst := 51) ⟨_, pun3⟩ pun51 rfl rfl) (congrArg (f .f32) hx3)) ?_
    refine zL (r := b false) rfl rfl rfl (LOp.eqb (LOp.fne rfl (OpF.tmp rfl) (OpF.tmp rfl)) hc4) ?_
    refine zN ?_
    refine RunC.cond_false rfl rfl ?_
    refine RunC.skip ?_
    obtain ⟨x5, hx5, h2_⟩ := olet_some h2_
    refine RunC.regionW ?_
    refine zM (r := i64 v1) rfl rfl rfl rfl rfl ?_
    refine zL (r := i64 x5) rfl rfl rfl (LOp.eqr (LOp.add rfl rfl rfl) (congrArg (ik .i64) hx5)) ?_
    refine zA (r := i64 x5) rfl rfl rfl rfl rfl ?_
    refine zN ?_
    refine RunC.wl (τ' := [(0, sl a0.length (a0.map f32)), (1, i64 x5), (5, i64 v2)]) (Γ' := []) ⟨aR, aR, aR, trivial⟩ trivial ?_
    obtain ⟨x6, hx6, h2_⟩ := olet_some h2_
    refine RunC.regionW ?_
    refine zM (r := i64 v2) rfl rfl rfl rfl rfl ?_
    refine zL (r := i64 x6) rfl rfl rfl (LOp.eqr (LOp.add rfl rfl rfl) (congrArg (ik .i64) hx6)) ?_
    refine zA (r := i64 x6) rfl rfl rfl rfl rfl ?_
    refine zN ?_
    cases Option.some.inj h2_
    exact ⟨_, rfl, ⟨aR, aR, aR, trivial⟩, trivial⟩
  ·refine RunC.regionW ?_
   refine zM (r := i64 v2) rfl rfl rfl rfl rfl ?_
   refine zM (r := sl a0.length (a0.map f32)) rfl rfl rfl rfl rfl ?_
   refine zL (r := i64 (a0.length : Int)) rfl rfl rfl (LOp.len_sl und22 rfl rfl) ?_
   refine zL (r := b false) rfl rfl rfl (LOp.eqb (LOp.lss rfl rfl rfl) hc1) ?_
   refine zN ?_
   refine RunC.cond_false rfl rfl ?_
   refine RunC.exit ?_
   cases Option.some.inj h2_
   have hx := ho2 _ rfl
   exact ⟨v1, ⟨aR, trivial⟩, trivial, hx⟩
 ·rintro τ4 Γ4 ⟨v7, hw4, hd4, rfl⟩
  refine RunC.wl hw4 hd4 ?_
  replace h : w_heldFloat32S_k1 v7 = some q0 := h
  unfold w_heldFloat32S_k1 at h
  refine zQ ?_
  refine zM (r := i64 v7) rfl rfl rfl rfl rfl ?_
  refine zA (r := i64 v7) rfl rfl rfl rfl rfl ?_
  refine zN ?_
  refine RunC.ret ?_
  have hq := Option.some.inj h
  subst q0
  exact bodyQ.pure (.inr rfl) rfl (Res.one rfl (RV.tmp rfl))
noncomputable def w_heldMatrix (a0 : Int) (a1 : Int) (a2 : List F) (a3 : Int) : Option (Int) :=
 obind (w_heldFloat32S a2 a3) fun (r1 : Int) =>
 bsel (decide (r1 < 0)) (
  some (-1)) (
  some r1)
theorem w_heldMatrix_ok (a0 : Int) (a1 : Int) (a2 : List F) (a3 : Int) (q0 : Int) (h : w_heldMatrix a0 a1 a2 a3 = some q0) : Ev Tryz.prog 14 [agg [i64 a0, i64 a1, sl a2.length (a2.map f32)], i64 a3] [] (i64 q0) [] := by
 refine Ev.start Tryz.func14 rfl rfl 0 (τ := [(0, agg [i64 a0, i64 a1, sl a2.length (a2.map f32)]), (1, i64 a3)]) rfl (Γ' := []) rfl (n := 25) rfl (g := 0) rfl (fun _ => rfl) ?_
 unfold w_heldMatrix at h
 refine zQ ?_
 refine ROps.d (r := ptr [i64 a0, i64 a1, sl a2.length (a2.map f32)]) (fs := []) (Γ' := []) rfl rfl rfl (TOp.box_s rfl rfl rfl) rfl ?_
 refine zA (r := i64 0) rfl rfl rfl rfl rfl ?_
 refine zN ?_
 refine RunC.seq ?_
 obtain ⟨r1, hf1, h⟩ := obind_some h
 refine RunC.regionW ?_
 refine zL (r := ptr [sl a2.length (a2.map f32)]) rfl rfl rfl (LOp.fap und31 rfl siz22 rfl rfl rfl) ?_
 refine zL (r := sl a2.length (a2.map f32)) rfl rfl rfl (LOp.load1 agg22 rfl rfl) ?_
 refine zM (r := i64 a3) rfl rfl rfl rfl rfl ?_
 refine ROps.d (r := i64 r1) (fs := []) (Γ' := []) rfl rfl rfl (TOp.callB (CallAs.func ent21 rfl rfl) (Bors.cons (Bor.sl (fun _ => rfl)) (Bors.cons (Bor.pure rfl) Bors.nil)) rfl rfl (w_heldFloat32S_ok a2 a3 r1 hf1)) rfl ?_
 refine zA (r := i64 r1) rfl rfl rfl rfl rfl ?_
 refine zN ?_
 refine RunC.seq ?_
 refine RunC.seq ?_
 rcases bsel_some h with ⟨hc2, h⟩ | ⟨hc2, h⟩
 ·refine RunC.regionW ?_
  refine zM (r := i64 r1) rfl rfl rfl rfl rfl ?_
  refine zL (r := b true) rfl rfl rfl (LOp.eqb (LOp.lss rfl rfl rfl) hc2) ?_
  refine zN ?_
  refine RunC.cond_true rfl rfl ?_
  refine zQ ?_
  refine zA (r := i64 (-1)) rfl rfl rfl rfl rfl ?_
  refine zN ?_
  refine RunC.ret ?_
  have hq := Option.some.inj h
  subst q0
  exact bodyQ.pure (.inr rfl) rfl (Res.one rfl (RV.tmp rfl))
 ·refine RunC.regionW ?_
  refine zM (r := i64 r1) rfl rfl rfl rfl rfl ?_
  refine zL (r := b false) rfl rfl rfl (LOp.eqb (LOp.lss rfl rfl rfl) hc2) ?_
  refine zN ?_
  refine RunC.cond_false rfl rfl ?_
  refine RunC.skip ?_
  refine zQ ?_
  refine zM (r := i64 r1) rfl rfl rfl rfl rfl ?_
  refine zA (r := i64 r1) rfl rfl rfl rfl rfl ?_
  refine zN ?_
  refine RunC.ret ?_
  have hq := Option.some.inj h
  subst q0
  exact bodyQ.pure (.inr rfl) rfl (Res.one rfl (RV.tmp rfl))
noncomputable def w_FnExactReadMatrix (a0 : ByteArray) : Option (Bool) :=
 bsel (decide (1048576 < (a0.size : Int))) (
  some true) (
  obind4 (s_ReadMatrix a0) fun (r1 : Int) (r2 : Int) (r3 : Bool) (r4 : List F) =>
  obind4 (i_ReadMatrix a0) fun (r5 : Int) (r6 : Int) (r7 : Bool) (r8 : List F) =>
  obind (w_eqMatrix r5 r6 r8 r1 r2 r4) fun (r9 : Bool) =>
  bsel r9 (
   bsel (!(r7 == r3)) (
    some false) (
    obind2 (w_markMatrix_02o r5 r6 1 r8) fun (r10 : Int) (r11 : List F) =>
    need (decide (r11.length = r8.length)) <|
    obind (w_heldMatrix r5 r6 r11 1) fun (r12 : Int) =>
    bsel (decide (r12 < 0)) (
     some false) (
     bsel (!decide (r12 = r10)) (
      some false) (
      obind4 (i_ReadMatrix a0) fun (r13 : Int) (r14 : Int) (r15 : Bool) (r16 : List F) =>
      obind (w_eqMatrix r13 r14 r16 r1 r2 r4) fun (r17 : Bool) =>
      bsel r17 (
       bsel (!(r15 == r3)) (
        some false) (
        obind (w_heldMatrix r5 r6 r11 1) fun (r18 : Int) =>
        bsel (decide (r18 < 0)) (
         some false) (
         bsel (!decide (r18 = r10)) (
          some false) (
          some true)))) (
       some false))))) (
   some false))
theorem w_FnExactReadMatrix_ok (a0 : ByteArray) (q0 : Bool) (h : w_FnExactReadMatrix a0 = some q0) : Ev Tryz.prog 4 [str a0] [] (b q0) [] := by
 refine Ev.start Tryz.func4 rfl rfl 6 (τ := [(0, str a0)]) rfl (Γ' := [⟨0, none⟩, ⟨0, none⟩, ⟨0, none⟩, ⟨0, none⟩, ⟨0, none⟩, ⟨0, none⟩]) rfl (n := 133) rfl (g := 0) rfl (fun _ => rfl) ?_
 unfold w_FnExactReadMatrix at h
 refine zQ ?_
 refine zA (r := b false) rfl rfl rfl rfl rfl ?_
 refine zN ?_
 refine RunC.seq ?_
 refine RunC.seq ?_
 rcases bsel_some h with ⟨hc1, h⟩ | ⟨hc1, h⟩
 ·refine RunC.regionW ?_
  refine zM (r := str a0) rfl rfl rfl rfl rfl ?_
  refine zL (r := i64 (a0.size : Int)) rfl rfl rfl (LOp.len_str und9 rfl rfl) ?_
  refine zL (r := b true) rfl rfl rfl (LOp.eqb (LOp.gtr rfl rfl rfl) hc1) ?_
  refine zN ?_
  refine RunC.cond_true rfl rfl ?_
  refine zQ ?_
  refine zA (r := b true) rfl rfl rfl rfl rfl ?_
  refine zN ?_
  refine RunC.ret ?_
  have hq := Option.some.inj h
  subst q0
  exact bodyQ.pure (.inr rfl) rfl (Res.one rfl (RV.tmp rfl))
 ·refine RunC.regionW ?_
  refine zM (r := str a0) rfl rfl rfl rfl rfl ?_
  refine zL (r := i64 (a0.size : Int)) rfl rfl rfl (LOp.len_str und9 rfl rfl) ?_
  refine zL (r := b false) rfl rfl rfl (LOp.eqb (LOp.gtr rfl rfl rfl) hc1) ?_
  refine zN ?_
  refine RunC.cond_false rfl rfl ?_
  refine RunC.skip ?_
  refine RunC.seq ?_
  obtain ⟨r1, r2, r3, r4, hf2, h⟩ := obind4_some h
  refine RunC.regionW ?_
  refine zM (r := str a0) rfl rfl rfl rfl rfl ?_
  refine ROps.d (r := tup [agg [i64 r1, i64 r2, oref 0 1 0 r4.length], b r3]) (fs := [(0, (r4.map f32))]) (Γ' := [⟨1, some (r4.map f32)⟩, ⟨0, none⟩, ⟨0, none⟩, ⟨0, none⟩, ⟨0, none⟩, ⟨0, none⟩]) rfl rfl rfl (TOp.callBN (ls := [(r4.map f32)]) [0] (CallAs.func ent10 rfl rfl) (Bors.cons (Bor.pure rfl) Bors.nil) rfl (s_ReadMatrix_ok a0 r1 r2 r3 r4 hf2) (and_all (lts0_map (f := f32) (fun _ => rfl) _) rfl) (and_all (noss_map (f := f32) (fun _ => rfl) _) rfl) rfl (by decide) (ns_of ⟨⟨_, rfl⟩, trivial⟩)) rfl ?_
  refine zM (r := tup [agg [i64 r1, i64 r2, oref 0 1 0 r4.length], b r3]) rfl rfl rfl rfl rfl ?_
  refine zL (r := agg [i64 r1, i64 r2, oref 0 1 0 r4.length]) rfl rfl rfl (LOp.extract rfl rfl rfl) ?_
  refine zL (r := b r3) rfl rfl rfl (LOp.extract rfl rfl rfl) ?_
  refine ROps.d (r := optr 1 1 0) (fs := [(1, [i64 0, i64 0, nilsl])]) (Γ' := [⟨1, some (r4.map f32)⟩, ⟨1, some [i64 0, i64 0, nilsl]⟩, ⟨0, none⟩, ⟨0, none⟩, ⟨0, none⟩, ⟨0, none⟩]) rfl rfl rfl (TOp.alloc_o (g := ⟨0, none⟩) 1 rfl zer31 zok31 rfl) rfl ?_
  refine ROps.store_le (r := agg [i64 r1, i64 r2, oref 0 1 0 r4.length]) (l' := [i64 r1, i64 r2, oref 0 1 0 r4.length]) (Γ' := [⟨1, some (r4.map f32)⟩, ⟨1, some [i64 r1, i64 r2, oref 0 1 0 r4.length]⟩, ⟨0, none⟩, ⟨0, none⟩, ⟨0, none⟩, ⟨0, none⟩]) rfl siz31 rfl rfl rfl aR rfl rfl rfl rfl (Nat.le_of_ble_eq_true rfl) rfl rfl ?_
  refine zA (r := b r3) rfl rfl rfl rfl rfl ?_
  refine zN ?_
  refine RunC.seq ?_
  obtain ⟨r5, r6, r7, r8, hf3, h⟩ := obind4_some h
  refine RunC.regionW ?_
  refine zM (r := str a0) rfl rfl rfl rfl rfl ?_
  refine ROps.d (r := tup [agg [i64 r5, i64 r6, oref 2 1 0 r8.length], b r7]) (fs := [(2, (r8.map f32))]) (Γ' := [⟨1, some (r4.map f32)⟩, ⟨1, some [i64 r1, i64 r2, oref 0 1 0 r4.length]⟩, ⟨1, some (r8.map f32)⟩, ⟨0, none⟩, ⟨0, none⟩, ⟨0, none⟩]) rfl rfl rfl (TOp.callBN (ls := [(r8.map f32)]) [2] (CallAs.func ent11 rfl rfl) (Bors.cons (Bor.pure rfl) Bors.nil) rfl (i_ReadMatrix_ok a0 r5 r6 r7 r8 hf3) (and_all (lts0_map (f := f32) (fun _ => rfl) _) rfl) (and_all (noss_map (f := f32) (fun _ => rfl) _) rfl) rfl (by decide) (ns_of ⟨⟨_, rfl⟩, trivial⟩)) rfl ?_
  refine zM (r := tup [agg [i64 r5, i64 r6, oref 2 1 0 r8.length], b r7]) rfl rfl rfl rfl rfl ?_
  refine zL (r := agg [i64 r5, i64 r6, oref 2 1 0 r8.length]) rfl rfl rfl (LOp.extract rfl rfl rfl) ?_
  refine zL (r := b r7) rfl rfl rfl (LOp.extract rfl rfl rfl) ?_
  refine ROps.d (r := optr 3 1 0) (fs := [(3, [i64 0, i64 0, nilsl])]) (Γ' := [⟨1, some (r4.map f32)⟩, ⟨1, some [i64 r1, i64 r2, oref 0 1 0 r4.length]⟩, ⟨1, some (r8.map f32)⟩, ⟨1, some [i64 0, i64 0, nilsl]⟩, ⟨0, none⟩, ⟨0, none⟩]) rfl rfl rfl (TOp.alloc_o (g := ⟨0, none⟩) 3 rfl zer31 zok31 rfl) rfl ?_
  refine ROps.store_le (r := agg [i64 r5, i64 r6, oref 2 1 0 r8.length]) (l' := [i64 r5, i64 r6, oref 2 1 0 r8.length]) (Γ' := [⟨1, some (r4.map f32)⟩, ⟨1, some [i64 r1, i64 r2, oref 0 1 0 r4.length]⟩, ⟨1, some (r8.map f32)⟩, ⟨1, some [i64 r5, i64 r6, oref 2 1 0 r8.length]⟩, ⟨0, none⟩, ⟨0, none⟩]) rfl siz31 rfl rfl rfl aR rfl rfl rfl rfl (Nat.le_of_ble_eq_true rfl) rfl rfl ?_
  refine zA (r := b r7) rfl rfl rfl rfl rfl ?_
  refine zN ?_
  refine RunC.seq ?_
  refine RunC.seq ?_
  obtain ⟨r9, hf4, h⟩ := obind_some h
  rcases bsel_some h with ⟨hc5, h⟩ | ⟨hc5, h⟩
  ·rcases bsel_some h with ⟨hc6, h⟩ | ⟨hc6, h⟩
   ·refine RunC.regionW ?_
    refine ROps.d (r := agg [i64 r5, i64 r6, oref 2 1 0 r8.length]) (fs := []) (Γ' := [⟨1, some (r4.map f32)⟩, ⟨1, some [i64 r1, i64 r2, oref 0 1 0 r4.length]⟩, ⟨1, some (r8.map f32)⟩, ⟨1, some [i64 r5, i64 r6, oref 2 1 0 r8.length]⟩, ⟨0, none⟩, ⟨0, none⟩]) rfl rfl rfl (TOp.loadAgg_o rfl agg31 siz31 rfl rfl rfl rfl) rfl ?_
    refine ROps.d (r := agg [i64 r1, i64 r2, oref 0 1 0 r4.length]) (fs := []) (Γ' := [⟨1, some (r4.map f32)⟩, ⟨1, some [i64 r1, i64 r2, oref 0 1 0 r4.length]⟩, ⟨1, some (r8.map f32)⟩, ⟨1, some [i64 r5, i64 r6, oref 2 1 0 r8.length]⟩, ⟨0, none⟩, ⟨0, none⟩]) rfl rfl rfl (TOp.loadAgg_o rfl agg31 siz31 rfl rfl rfl rfl) rfl ?_
    refine ROps.d (r := b true) (fs := []) (Γ' := [⟨1, some (r4.map f32)⟩, ⟨1, some [i64 r1, i64 r2, oref 0 1 0 r4.length]⟩, ⟨1, some (r8.map f32)⟩, ⟨1, some [i64 r5, i64 r6, oref 2 1 0 r8.length]⟩, ⟨0, none⟩, ⟨0, none⟩]) rfl rfl rfl (TOp.eqb (TOp.callB (CallAs.func ent12 rfl rfl) (Bors.cons (Bor.agg (Bors.cons (Bor.pure rfl) (Bors.cons (Bor.pure rfl) (Bors.cons (Bor.own (f := f32) (fun _ => rfl) rfl rfl) Bors.nil)))) (Bors.cons (Bor.agg (Bors.cons (Bor.pure rfl) (Bors.cons (Bor.pure rfl) (Bors.cons (Bor.own (f := f32) (fun _ => rfl) rfl rfl) Bors.nil)))) Bors.nil)) rfl rfl (w_eqMatrix_ok r5 r6 r8 r1 r2 r4 r9 hf4)) hc5) rfl ?_
    refine zL (r := b false) rfl rfl rfl (LOp.eqb (LOp.not rfl rfl) rfl) ?_
    refine zM (r := b false) rfl rfl rfl rfl rfl ?_
    refine zM (r := b r7) rfl rfl rfl rfl rfl ?_
    refine zM (r := b r3) rfl rfl rfl rfl rfl ?_
    refine zL (r := b true) rfl rfl rfl (LOp.eqb (LOp.neqb pun4 rfl rfl rfl) hc6) ?_
    refine zL (r := b true) rfl rfl rfl (LOp.pick_false rfl rfl rfl) ?_
    refine zN ?_
    refine RunC.wl (τ' := [(0, str a0), (3, optr 1 1 0), (4, b r3), (5, optr 3 1 0), (32, b true)]) (Γ' := [⟨1, some (r4.map f32)⟩, ⟨1, some [i64 r1, i64 r2, oref 0 1 0 r4.length]⟩, ⟨1, some (r8.map f32)⟩, ⟨1, some [i64 r5, i64 r6, oref 2 1 0 r8.length]⟩, ⟨0, none⟩, ⟨0, none⟩]) ⟨aR, aR, aR, aR, aR, trivial⟩ ⟨⟨rfl, .inr rfl⟩, ⟨rfl, .inr rfl⟩, ⟨rfl, .inr rfl⟩, ⟨rfl, .inr rfl⟩, ⟨rfl, .inr rfl⟩, ⟨rfl, .inr rfl⟩, trivial⟩ ?_
    refine RunC.cond_true rfl rfl ?_
    refine zQ ?_
    refine zA (r := b false) rfl rfl rfl rfl rfl ?_
    refine zN ?_
    refine RunC.ret ?_
    have hq := Option.some.inj h
    subst q0
    exact bodyQ.pure (.inr rfl) rfl (Res.one rfl (RV.tmp rfl))
   ·refine RunC.regionW ?_
    refine ROps.d (r := agg [i64 r5, i64 r6, oref 2 1 0 r8.length]) (fs := []) (Γ' := [⟨1, some (r4.map f32)⟩, ⟨1, some [i64 r1, i64 r2, oref 0 1 0 r4.length]⟩, ⟨1, some (r8.map f32)⟩, ⟨1, some [i64 r5, i64 r6, oref 2 1 0 r8.length]⟩, ⟨0, none⟩, ⟨0, none⟩]) rfl rfl rfl (TOp.loadAgg_o rfl agg31 siz31 rfl rfl rfl rfl) rfl ?_
    refine ROps.d (r := agg [i64 r1, i64 r2, oref 0 1 0 r4.length]) (fs := []) (Γ' := [⟨1, some (r4.map f32)⟩, ⟨1, some [i64 r1, i64 r2, oref 0 1 0 r4.length]⟩, ⟨1, some (r8.map f32)⟩, ⟨1, some [i64 r5, i64 r6, oref 2 1 0 r8.length]⟩, ⟨0, none⟩, ⟨0, none⟩]) rfl rfl rfl (TOp.loadAgg_o rfl agg31 siz31 rfl rfl rfl rfl) rfl ?_
    refine ROps.d (r := b true) (fs := []) (Γ' := [⟨1, some (r4.map f32)⟩, ⟨1, some [i64 r1, i64 r2, oref 0 1 0 r4.length]⟩, ⟨1, some (r8.map f32)⟩, ⟨1, some [i64 r5, i64 r6, oref 2 1 0 r8.length]⟩, ⟨0, none⟩, ⟨0, none⟩]) rfl rfl rfl (TOp.eqb (TOp.callB (CallAs.func ent12 rfl rfl) (Bors.cons (Bor.agg (Bors.cons (Bor.pure rfl) (Bors.cons (Bor.pure rfl) (Bors.cons (Bor.own (f := f32) (fun _ => rfl) rfl rfl) Bors.nil)))) (Bors.cons (Bor.agg (Bors.cons (Bor.pure rfl) (Bors.cons (Bor.pure rfl) (Bors.cons (Bor.own (f := f32) (fun _ => rfl) rfl rfl) Bors.nil)))) Bors.nil)) rfl rfl (w_eqMatrix_ok r5 r6 r8 r1 r2 r4 r9 hf4)) hc5) rfl ?_
    refine zL (r := b false) rfl rfl rfl (LOp.eqb (LOp.not rfl rfl) rfl) ?_
    refine zM (r := b false) rfl rfl rfl rfl rfl ?_
    refine zM (r := b r7) rfl rfl rfl rfl rfl ?_
    refine zM (r := b r3) rfl rfl rfl rfl rfl ?_
    refine zL (r := b false) rfl rfl rfl (LOp.eqb (LOp.neqb pun4 rfl rfl rfl) hc6) ?_
    refine zL (r := b false) rfl rfl rfl (LOp.pick_false rfl rfl rfl) ?_
    refine zN ?_
    refine RunC.wl (τ' := [(0, str a0), (3, optr 1 1 0), (4, b r3), (5, optr 3 1 0), (32, b false)]) (Γ' := [⟨1, some (r4.map f32)⟩, ⟨1, some [i64 r1, i64 r2, oref 0 1 0 r4.length]⟩, ⟨1, some (r8.map f32)⟩, ⟨1, some [i64 r5, i64 r6, oref 2 1 0 r8.length]⟩, ⟨0, none⟩, ⟨0, none⟩]) ⟨aR, aR, aR, aR, aR, trivial⟩ ⟨⟨rfl, .inr rfl⟩, ⟨rfl, .inr rfl⟩, ⟨rfl, .inr rfl⟩, ⟨rfl, .inr rfl⟩, ⟨rfl, .inr rfl⟩, ⟨rfl, .inr rfl⟩, trivial⟩ ?_
    refine RunC.cond_false rfl rfl ?_
    refine RunC.skip ?_
    refine zQ ?_
    refine zA (r := i64 1) rfl rfl rfl rfl rfl ?_
    refine zN ?_
    refine RunC.seq ?_
    obtain ⟨r10, r11, hf7, h⟩ := obind2_some h
    obtain ⟨hn8, h⟩ := need_some h
    refine RunC.regionW ?_
    refine ROps.d (r := agg [i64 r5, i64 r6, oref 2 1 0 r8.length]) (fs := []) (Γ' := [⟨1, some (r4.map f32)⟩, ⟨1, some [i64 r1, i64 r2, oref 0 1 0 r4.length]⟩, ⟨1, some (r8.map f32)⟩, ⟨1, some [i64 r5, i64 r6, oref 2 1 0 r8.length]⟩, ⟨0, none⟩, ⟨0, none⟩]) rfl rfl rfl (TOp.loadAgg_o rfl agg31 siz31 rfl rfl rfl rfl) rfl ?_
    refine zM (r := i64 1) rfl rfl rfl rfl rfl ?_
    refine ROps.callO (A := [agg [i64 r5, i64 r6, oref 2 1 0 r8.length], i64 1]) (args := [agg [i64 r5, i64 r6, oref 0 0 0 r8.length], i64 1]) (Γc := [⟨0, some (r8.map f32)⟩]) (Γc' := [⟨0, some (r11.map f32)⟩]) (r' := i64 r10) (Γ' := [⟨1, some (r4.map f32)⟩, ⟨1, some [i64 r1, i64 r2, oref 0 1 0 r4.length]⟩, ⟨1, some (r11.map f32)⟩, ⟨1, some [i64 r5, i64 r6, oref 2 1 0 r8.length]⟩, ⟨0, none⟩, ⟨0, none⟩]) [(2, 1)] [] rfl (CallAs.func ent13 rfl rfl) rfl rfl (SelOk.of (show List.Nodup [2] from by decide) (SelL.arr0 (f := f32) (fun _ => rfl) rfl trivial)) (live_of ⟨⟨_, _, rfl⟩, trivial⟩) (by simp [ren, rens, sigma, rens_f32, rens_f64, rens_i64, rens_ik, rens_str, rens_cp]) rfl (w_markMatrix_02o_ok r5 r6 1 r8 r10 r11 hf7) rfl (news_of trivial) (show List.Nodup [2] from by decide) (by simp [ren, rens, sigma, of_decide_eq_true hn8]) (by simp [backOb, sigma, ren, rens, rens_f32, rens_f64, rens_i64, rens_ik, rens_str, rens_cp]) ?_
    refine zA (r := i64 r10) rfl rfl rfl rfl rfl ?_
    refine zN ?_
    refine zQ ?_
    refine zA (r := i64 1) rfl rfl rfl rfl rfl ?_
    refine zN ?_
    refine RunC.seq ?_
    obtain ⟨r12, hf9, h⟩ := obind_some h
    refine RunC.regionW ?_
    refine ROps.d (r := agg [i64 r5, i64 r6, oref 2 1 0 r8.length]) (fs := []) (Γ' := [⟨1, some (r4.map f32)⟩, ⟨1, some [i64 r1, i64 r2, oref 0 1 0 r4.length]⟩, ⟨1, some (r11.map f32)⟩, ⟨1, some [i64 r5, i64 r6, oref 2 1 0 r8.length]⟩, ⟨0, none⟩, ⟨0, none⟩]) rfl rfl rfl (TOp.loadAgg_o rfl agg31 siz31 rfl rfl rfl rfl) rfl ?_
    refine zM (r := i64 1) rfl rfl rfl rfl rfl ?_
    refine ROps.d (r := i64 r12) (fs := []) (Γ' := [⟨1, some (r4.map f32)⟩, ⟨1, some [i64 r1, i64 r2, oref 0 1 0 r4.length]⟩, ⟨1, some (r11.map f32)⟩, ⟨1, some [i64 r5, i64 r6, oref 2 1 0 r8.length]⟩, ⟨0, none⟩, ⟨0, none⟩]) rfl rfl rfl (TOp.callB (CallAs.func ent14 rfl rfl) (Bors.cons (Bor.agg (Bors.cons (Bor.pure rfl) (Bors.cons (Bor.pure rfl) (Bors.cons (Bor.own (f := f32) (fun _ => rfl) rfl (of_decide_eq_true hn8)) Bors.nil)))) (Bors.cons (Bor.pure rfl) Bors.nil)) rfl rfl (w_heldMatrix_ok r5 r6 r11 1 r12 hf9)) rfl ?_
    refine zA (r := i64 r12) rfl rfl rfl rfl rfl ?_
    refine zN ?_
    refine RunC.seq ?_
    refine RunC.seq ?_
    rcases bsel_some h with ⟨hc10, h⟩ | ⟨hc10, h⟩
    ·refine RunC.regionW ?_
     refine zM (r := i64 r12) rfl rfl rfl rfl rfl ?_
     refine zL (r := b true) rfl rfl rfl (LOp.eqb (LOp.lss rfl rfl rfl) hc10) ?_
     refine zN ?_
     refine RunC.cond_true rfl rfl ?_
     refine zQ ?_
     refine zA (r := b false) rfl rfl rfl rfl rfl ?_
     refine zN ?_
     refine RunC.ret ?_
     have hq := Option.some.inj h
     subst q0
     exact bodyQ.pure (.inr rfl) rfl (Res.one rfl (RV.tmp rfl))
    ·refine RunC.regionW ?_
     refine zM (r := i64 r12) rfl rfl rfl rfl rfl ?_
     refine zL (r := b false) rfl rfl rfl (LOp.eqb (LOp.lss rfl rfl rfl) hc10) ?_
     refine zN ?_
     refine RunC.cond_false rfl rfl ?_
     refine RunC.skip ?_
     refine RunC.seq ?_
     refine RunC.seq ?_
     rcases bsel_some h with ⟨hc11, h⟩ | ⟨hc11, h⟩
     ·refine RunC.regionW ?_
      refine zM (r := i64 r12) rfl rfl rfl rfl rfl ?_
      refine zM (r := i64 r10) rfl rfl rfl rfl rfl ?_
      refine zL (r := b true) rfl rfl rfl (LOp.eqb (LOp.neq rfl rfl rfl) hc11) ?_
      refine zN ?_
      refine RunC.cond_true rfl rfl ?_
      refine zQ ?_
      refine zA (r := b false) rfl rfl rfl rfl rfl ?_
      refine zN ?_
      refine RunC.ret ?_
      have hq := Option.some.inj h
      subst q0
      exact bodyQ.pure (.inr rfl) rfl (Res.one rfl (RV.tmp rfl))
     ·refine RunC.regionW ?_
      refine zM (r := i64 r12) rfl rfl rfl rfl rfl ?_
      refine zM (r := i64 r10) rfl rfl rfl rfl rfl ?_
      refine zL (r := b false) rfl rfl rfl (LOp.eqb (LOp.neq rfl rfl rfl) hc11) ?_
      refine zN ?_
      refine RunC.cond_false rfl rfl ?_
      refine RunC.skip ?_
      refine RunC.seq ?_
      obtain ⟨r13, r14, r15, r16, hf12, h⟩ := obind4_some h
      refine RunC.regionW ?_
      refine zM (r := str a0) rfl rfl rfl rfl rfl ?_
      refine ROps.d (r := tup [agg [i64 r13, i64 r14, oref 4 1 0 r16.length], b r15]) (fs := [(4, (r16.map f32))]) (Γ' := [⟨1, some (r4.map f32)⟩, ⟨1, some [i64 r1, i64 r2, oref 0 1 0 r4.length]⟩, ⟨1, some (r11.map f32)⟩, ⟨1, some [i64 r5, i64 r6, oref 2 1 0 r8.length]⟩, ⟨1, some (r16.map f32)⟩, ⟨0, none⟩]) rfl rfl rfl (TOp.callBN (ls := [(r16.map f32)]) [4] (CallAs.func ent11 rfl rfl) (Bors.cons (Bor.pure rfl) Bors.nil) rfl (i_ReadMatrix_ok a0 r13 r14 r15 r16 hf12) (and_all (lts0_map (f := f32) (fun _ => rfl) _) rfl) (and_all (noss_map (f := f32) (fun _ => rfl) _) rfl) rfl (by decide) (ns_of ⟨⟨_, rfl⟩, trivial⟩)) rfl ?_
      refine zM (r := tup [agg [i64 r13, i64 r14, oref 4 1 0 r16.length], b r15]) rfl rfl rfl rfl rfl ?_
      refine zL (r := agg [i64 r13, i64 r14, oref 4 1 0 r16.length]) rfl rfl rfl (LOp.extract rfl rfl rfl) ?_
      refine zL (r := b r15) rfl rfl rfl (LOp.extract rfl rfl rfl) ?_
      refine ROps.d (r := optr 5 1 0) (fs := [(5, [i64 0, i64 0, nilsl])]) (Γ' := [⟨1, some (r4.map f32)⟩, ⟨1, some [i64 r1, i64 r2, oref 0 1 0 r4.length]⟩, ⟨1, some (r11.map f32)⟩, ⟨1, some [i64 r5, i64 r6, oref 2 1 0 r8.length]⟩, ⟨1, some (r16.map f32)⟩, ⟨1, some [i64 0, i64 0, nilsl]⟩]) rfl rfl rfl (TOp.alloc_o (g := ⟨0, none⟩) 5 rfl zer31 zok31 rfl) rfl ?_
      refine ROps.store_le (r := agg [i64 r13, i64 r14, oref 4 1 0 r16.length]) (l' := [i64 r13, i64 r14, oref 4 1 0 r16.length]) (Γ' := [⟨1, some (r4.map f32)⟩, ⟨1, some [i64 r1, i64 r2, oref 0 1 0 r4.length]⟩, ⟨1, some (r11.map f32)⟩, ⟨1, some [i64 r5, i64 r6, oref 2 1 0 r8.length]⟩, ⟨1, some (r16.map f32)⟩, ⟨1, some [i64 r13, i64 r14, oref 4 1 0 r16.length]⟩]) rfl siz31 rfl rfl rfl aR rfl rfl rfl rfl (Nat.le_of_ble_eq_true rfl) rfl rfl ?_
      refine zA (r := b r15) rfl rfl rfl rfl rfl ?_
      refine zN ?_
      refine RunC.wl (τ' := [(3, optr 1 1 0), (4, b r3), (5, optr 3 1 0), (7, i64 r10), (9, optr 5 1 0), (10, b r15)]) (Γ' := [⟨1, some (r4.map f32)⟩, ⟨1, some [i64 r1, i64 r2, oref 0 1 0 r4.length]⟩, ⟨1, some (r11.map f32)⟩, ⟨1, some [i64 r5, i64 r6, oref 2 1 0 r8.length]⟩, ⟨1, some (r16.map f32)⟩, ⟨1, some [i64 r13, i64 r14, oref 4 1 0 r16.length]⟩]) ⟨aR, aR, aR, aR, aR, aR, trivial⟩ ⟨⟨rfl, .inr rfl⟩, ⟨rfl, .inr rfl⟩, ⟨rfl, .inr rfl⟩, ⟨rfl, .inr rfl⟩, ⟨rfl, .inr rfl⟩, ⟨rfl, .inr rfl⟩, trivial⟩ ?_
      refine RunC.seq ?_
      refine RunC.seq ?_
      obtain ⟨r17, hf13, h⟩ := obind_some h
      rcases bsel_some h with ⟨hc14, h⟩ | ⟨hc14, h⟩
      ·rcases bsel_some h with ⟨hc15, h⟩ | ⟨hc15, h⟩
       ·refine RunC.regionW ?_
        refine ROps.d (r := agg [i64 r13, i64 r14, oref 4 1 0 r16.length]) (fs := []) (Γ' := [⟨1, some (r4.map f32)⟩, ⟨1, some [i64 r1, i64 r2, oref 0 1 0 r4.length]⟩, ⟨1, some (r11.map f32)⟩, ⟨1, some [i64 r5, i64 r6, oref 2 1 0 r8.length]⟩, ⟨1, some (r16.map f32)⟩, ⟨1, some [i64 r13, i64 r14, oref 4 1 0 r16.length]⟩]) rfl rfl rfl (TOp.loadAgg_o rfl agg31 siz31 rfl rfl rfl rfl) rfl ?_
        refine ROps.d (r := agg [i64 r1, i64 r2, oref 0 1 0 r4.length]) (fs := []) (Γ' := [⟨1, some (r4.map f32)⟩, ⟨1, some [i64 r1, i64 r2, oref 0 1 0 r4.length]⟩, ⟨1, some (r11.map f32)⟩, ⟨1, some [i64 r5, i64 r6, oref 2 1 0 r8.length]⟩, ⟨1, some (r16.map f32)⟩, ⟨1, some [i64 r13, i64 r14, oref 4 1 0 r16.length]⟩]) rfl rfl rfl (TOp.loadAgg_o rfl agg31 siz31 rfl rfl rfl rfl) rfl ?_
        refine ROps.d (r := b true) (fs := []) (Γ' := [⟨1, some (r4.map f32)⟩, ⟨1, some [i64 r1, i64 r2, oref 0 1 0 r4.length]⟩, ⟨1, some (r11.map f32)⟩, ⟨1, some [i64 r5, i64 r6, oref 2 1 0 r8.length]⟩, ⟨1, some (r16.map f32)⟩, ⟨1, some [i64 r13, i64 r14, oref 4 1 0 r16.length]⟩]) rfl rfl rfl (TOp.eqb (TOp.callB (CallAs.func ent12 rfl rfl) (Bors.cons (Bor.agg (Bors.cons (Bor.pure rfl) (Bors.cons (Bor.pure rfl) (Bors.cons (Bor.own (f := f32) (fun _ => rfl) rfl rfl) Bors.nil)))) (Bors.cons (Bor.agg (Bors.cons (Bor.pure rfl) (Bors.cons (Bor.pure rfl) (Bors.cons (Bor.own (f := f32) (fun _ => rfl) rfl rfl) Bors.nil)))) Bors.nil)) rfl rfl (w_eqMatrix_ok r13 r14 r16 r1 r2 r4 r17 hf13)) hc14) rfl ?_
        refine zL (r := b false) rfl rfl rfl (LOp.eqb (LOp.not rfl rfl) rfl) ?_
        refine zM (r := b false) rfl rfl rfl rfl rfl ?_
        refine zM (r := b r15) rfl rfl rfl rfl rfl ?_
        refine zM (r := b r3) rfl rfl rfl rfl rfl ?_
        refine zL (r := b true) rfl rfl rfl (LOp.eqb (LOp.neqb pun4 rfl rfl rfl) hc15) ?_
        refine zL (r := b true) rfl rfl rfl (LOp.pick_false rfl rfl rfl) ?_
        refine zN ?_
        refine RunC.wl (τ' := [(5, optr 3 1 0), (7, i64 r10), (57, b true)]) (Γ' := [⟨1, none⟩, ⟨1, none⟩, ⟨1, some (r11.map f32)⟩, ⟨1, some [i64 r5, i64 r6, oref 2 1 0 r8.length]⟩, ⟨1, none⟩, ⟨1, none⟩]) ⟨aR, aR, aR, trivial⟩ ⟨⟨rfl, .inl rfl⟩, ⟨rfl, .inl rfl⟩, ⟨rfl, .inr rfl⟩, ⟨rfl, .inr rfl⟩, ⟨rfl, .inl rfl⟩, ⟨rfl, .inl rfl⟩, trivial⟩ ?_
        refine RunC.cond_true rfl rfl ?_
        refine zQ ?_
        refine zA (r := b false) rfl rfl rfl rfl rfl ?_
        refine zN ?_
        refine RunC.ret ?_
        have hq := Option.some.inj h
        subst q0
        exact bodyQ.pure (.inr rfl) rfl (Res.one rfl (RV.tmp rfl))
       ·refine RunC.regionW ?_
        refine ROps.d (r := agg [i64 r13, i64 r14, oref 4 1 0 r16.length]) (fs := []) (Γ' := [⟨1, some (r4.map f32)⟩, ⟨1, some [i64 r1, i64 r2, oref 0 1 0 r4.length]⟩, ⟨1, some (r11.map f32)⟩, ⟨1, some [i64 r5, i64 r6, oref 2 1 0 r8.length]⟩, ⟨1, some (r16.map f32)⟩, ⟨1, some [i64 r13, i64 r14, oref 4 1 0 r16.length]⟩]) rfl rfl rfl (TOp.loadAgg_o rfl agg31 siz31 rfl rfl rfl rfl) rfl ?_
        refine ROps.d (r := agg [i64 r1, i64 r2, oref 0 1 0 r4.length]) (fs := []) (Γ' := [⟨1, some (r4.map f32)⟩, ⟨1, some [i64 r1, i64 r2, oref 0 1 0 r4.length]⟩, ⟨1, some (r11.map f32)⟩, ⟨1, some [i64 r5, i64 r6, oref 2 1 0 r8.length]⟩, ⟨1, some (r16.map f32)⟩, ⟨1, some [i64 r13, i64 r14, oref 4 1 0 r16.length]⟩]) rfl rfl rfl (TOp.loadAgg_o rfl agg31 siz31 rfl rfl rfl rfl) rfl ?_
        refine ROps.d (r := b true) (fs := []) (Γ' := [⟨1, some (r4.map f32)⟩, ⟨1, some [i64 r1, i64 r2, oref 0 1 0 r4.length]⟩, ⟨1, some (r11.map f32)⟩, ⟨1, some [i64 r5, i64 r6, oref 2 1 0 r8.length]⟩, ⟨1, some (r16.map f32)⟩, ⟨1, some [i64 r13, i64 r14, oref 4 1 0 r16.length]⟩]) rfl rfl rfl (TOp.eqb (TOp.callB (CallAs.func ent12 rfl rfl) (Bors.cons (Bor.agg (Bors.cons (Bor.pure rfl) (Bors.cons (Bor.pure rfl) (Bors.cons (Bor.own (f := f32) (fun _ => rfl) rfl rfl) Bors.nil)))) (Bors.cons (Bor.agg (Bors.cons (Bor.pure rfl) (Bors.cons (Bor.pure rfl) (Bors.cons (Bor.own (f := f32) (fun _ => rfl) rfl rfl) Bors.nil)))) Bors.nil)) rfl rfl (w_eqMatrix_ok r13 r14 r16 r1 r2 r4 r17 hf13)) hc14) rfl ?_
        refine zL (r := b false) rfl rfl rfl (LOp.eqb (LOp.not rfl rfl) rfl) ?_
        refine zM (r := b false) rfl rfl rfl rfl rfl ?_
        refine zM (r := b r15) rfl rfl rfl rfl rfl ?_
        refine zM (r := b r3) rfl rfl rfl rfl rfl ?_
        refine zL (r := b false) rfl rfl rfl (LOp.eqb (LOp.neqb pun4 rfl rfl rfl) hc15) ?_
        refine zL (r := b false) rfl rfl rfl (LOp.pick_false rfl rfl rfl) ?_
        refine zN ?_
        refine RunC.wl (τ' := [(5, optr 3 1 0), (7, i64 r10), (57, b false)]) (Γ' := [⟨1, none⟩, ⟨1, none⟩, ⟨1, some (r11.map f32)⟩, ⟨1, some [i64 r5, i64 r6, oref 2 1 0 r8.length]⟩, ⟨1, none⟩, ⟨1, none⟩]) ⟨aR, aR, aR, trivial⟩ ⟨⟨rfl, .inl rfl⟩, ⟨rfl, .inl rfl⟩, ⟨rfl, .inr rfl⟩, ⟨rfl, .inr rfl⟩, ⟨rfl, .inl rfl⟩, ⟨rfl, .inl rfl⟩, trivial⟩ ?_
        refine RunC.cond_false rfl rfl ?_
        refine RunC.skip ?_
        refine zQ ?_
        refine zA (r := i64 1) rfl rfl rfl rfl rfl ?_
        refine zN ?_
        refine RunC.seq ?_
        obtain ⟨r18, hf16, h⟩ := obind_some h
        refine RunC.regionW ?_
        refine ROps.d (r := agg [i64 r5, i64 r6, oref 2 1 0 r8.length]) (fs := []) (Γ' := [⟨1, none⟩, ⟨1, none⟩, ⟨1, some (r11.map f32)⟩, ⟨1, some [i64 r5, i64 r6, oref 2 1 0 r8.length]⟩, ⟨1, none⟩, ⟨1, none⟩]) rfl rfl rfl (TOp.loadAgg_o rfl agg31 siz31 rfl rfl rfl rfl) rfl ?_
        refine zM (r := i64 1) rfl rfl rfl rfl rfl ?_
        refine ROps.d (r := i64 r18) (fs := []) (Γ' := [⟨1, none⟩, ⟨1, none⟩, ⟨1, some (r11.map f32)⟩, ⟨1, some [i64 r5, i64 r6, oref 2 1 0 r8.length]⟩, ⟨1, none⟩, ⟨1, none⟩]) rfl rfl rfl (TOp.callB (CallAs.func ent14 rfl rfl) (Bors.cons (Bor.agg (Bors.cons (Bor.pure rfl) (Bors.cons (Bor.pure rfl) (Bors.cons (Bor.own (f := f32) (fun _ => rfl) rfl (of_decide_eq_true hn8)) Bors.nil)))) (Bors.cons (Bor.pure rfl) Bors.nil)) rfl rfl (w_heldMatrix_ok r5 r6 r11 1 r18 hf16)) rfl ?_
        refine zA (r := i64 r18) rfl rfl rfl rfl rfl ?_
        refine zN ?_
        refine RunC.wl (τ' := [(7, i64 r10), (8, i64 r18)]) (Γ' := [⟨1, none⟩, ⟨1, none⟩, ⟨1, none⟩, ⟨1, none⟩, ⟨1, none⟩, ⟨1, none⟩]) ⟨aR, aR, trivial⟩ ⟨⟨rfl, .inl rfl⟩, ⟨rfl, .inl rfl⟩, ⟨rfl, .inl rfl⟩, ⟨rfl, .inl rfl⟩, ⟨rfl, .inl rfl⟩, ⟨rfl, .inl rfl⟩, trivial⟩ ?_
        refine RunC.seq ?_
        refine RunC.seq ?_
        rcases bsel_some h with ⟨hc17, h⟩ | ⟨hc17, h⟩
        ·refine RunC.regionW ?_
         refine zM (r := i64 r18) rfl rfl rfl rfl rfl ?_
         refine zL (r := b true) rfl rfl rfl (LOp.eqb (LOp.lss rfl rfl rfl) hc17) ?_
         refine zN ?_
         refine RunC.cond_true rfl rfl ?_
         refine zQ ?_
         refine zA (r := b false) rfl rfl rfl rfl rfl ?_
         refine zN ?_
         refine RunC.ret ?_
         have hq := Option.some.inj h
         subst q0
         exact bodyQ.pure (.inr rfl) rfl (Res.one rfl (RV.tmp rfl))
        ·refine RunC.regionW ?_
         refine zM (r := i64 r18) rfl rfl rfl rfl rfl ?_
         refine zL (r := b false) rfl rfl rfl (LOp.eqb (LOp.lss rfl rfl rfl) hc17) ?_
         refine zN ?_
         refine RunC.cond_false rfl rfl ?_
         refine RunC.skip ?_
         refine RunC.seq ?_
         refine RunC.seq ?_
         rcases bsel_some h with ⟨hc18, h⟩ | ⟨hc18, h⟩
         ·refine RunC.regionW ?_
          refine zM (r := i64 r18) rfl rfl rfl rfl rfl ?_
          refine zM (r := i64 r10) rfl rfl rfl rfl rfl ?_
          refine zL (r := b true) rfl rfl rfl (LOp.eqb (LOp.neq rfl rfl rfl) hc18) ?_
          refine zN ?_
          refine RunC.cond_true rfl rfl ?_
          refine zQ ?_
          refine zA (r := b false) rfl rfl rfl rfl rfl ?_
          refine zN ?_
          refine RunC.ret ?_
          have hq := Option.some.inj h
          subst q0
          exact bodyQ.pure (.inr rfl) rfl (Res.one rfl (RV.tmp rfl))
         ·refine RunC.regionW ?_
          refine zM (r := i64 r18) rfl rfl rfl rfl rfl ?_
          refine zM (r := i64 r10) rfl rfl rfl rfl rfl ?_
          refine zL (r := b false) rfl rfl rfl (LOp.eqb (LOp.neq rfl rfl rfl) hc18) ?_
          refine zN ?_
          refine RunC.cond_false rfl rfl ?_
          refine RunC.skip ?_
          refine zQ ?_
          refine zA (r := b true) rfl rfl rfl rfl rfl ?_
          refine zN ?_
          refine RunC.ret ?_
          have hq := Option.some.inj h
          subst q0
          exact bodyQ.pure (.inr rfl) rfl (Res.one rfl (RV.tmp rfl))
      ·refine RunC.regionW ?_
       refine ROps.d (r := agg [i64 r13, i64 r14, oref 4 1 0 r16.length]) (fs := []) (Γ' := [⟨1, some (r4.map f32)⟩, ⟨1, some [i64 r1, i64 r2, oref 0 1 0 r4.length]⟩, ⟨1, some (r11.map f32)⟩, ⟨1, some [i64 r5, i64 r6, oref 2 1 0 r8.length]⟩, ⟨1, some (r16.map f32)⟩, ⟨1, some [i64 r13, i64 r14, oref 4 1 0 r16.length]⟩]) rfl rfl rfl (TOp.loadAgg_o rfl agg31 siz31 rfl rfl rfl rfl) rfl ?_
       refine ROps.d (r := agg [i64 r1, i64 r2, oref 0 1 0 r4.length]) (fs := []) (Γ' := [⟨1, some (r4.map f32)⟩, ⟨1, some [i64 r1, i64 r2, oref 0 1 0 r4.length]⟩, ⟨1, some (r11.map f32)⟩, ⟨1, some [i64 r5, i64 r6, oref 2 1 0 r8.length]⟩, ⟨1, some (r16.map f32)⟩, ⟨1, some [i64 r13, i64 r14, oref 4 1 0 r16.length]⟩]) rfl rfl rfl (TOp.loadAgg_o rfl agg31 siz31 rfl rfl rfl rfl) rfl ?_
       refine ROps.d (r := b false) (fs := []) (Γ' := [⟨1, some (r4.map f32)⟩, ⟨1, some [i64 r1, i64 r2, oref 0 1 0 r4.length]⟩, ⟨1, some (r11.map f32)⟩, ⟨1, some [i64 r5, i64 r6, oref 2 1 0 r8.length]⟩, ⟨1, some (r16.map f32)⟩, ⟨1, some [i64 r13, i64 r14, oref 4 1 0 r16.length]⟩]) rfl rfl rfl (TOp.eqb (TOp.callB (CallAs.func ent12 rfl rfl) (Bors.cons (Bor.agg (Bors.cons (Bor.pure rfl) (Bors.cons (Bor.pure rfl) (Bors.cons (Bor.own (f := f32) (fun _ => rfl) rfl rfl) Bors.nil)))) (Bors.cons (Bor.agg (Bors.cons (Bor.pure rfl) (Bors.cons (Bor.pure rfl) (Bors.cons (Bor.own (f := f32) (fun _ => rfl) rfl rfl) Bors.nil)))) Bors.nil)) rfl rfl (w_eqMatrix_ok r13 r14 r16 r1 r2 r4 r17 hf13)) hc14) rfl ?_
       refine zL (r := b true) rfl rfl rfl (LOp.eqb (LOp.not rfl rfl) rfl) ?_
       refine zM (r := b true) rfl rfl rfl rfl rfl ?_
       refine ROps.s rfl rfl rfl ?_
       refine ROps.s rfl rfl rfl ?_
       refine ROps.s rfl rfl rfl ?_
       refine zL (r := b true) rfl rfl rfl (LOp.pick_true rfl rfl rfl) ?_
       refine zN ?_
       refine RunC.wl (τ' := [(5, optr 3 1 0), (7, i64 r10), (57, b true)]) (Γ' := [⟨1, none⟩, ⟨1, none⟩, ⟨1, some (r11.map f32)⟩, ⟨1, some [i64 r5, i64 r6, oref 2 1 0 r8.length]⟩, ⟨1, none⟩, ⟨1, none⟩]) ⟨aR, aR, aR, trivial⟩ ⟨⟨rfl, .inl rfl⟩, ⟨rfl, .inl rfl⟩, ⟨rfl, .inr rfl⟩, ⟨rfl, .inr rfl⟩, ⟨rfl, .inl rfl⟩, ⟨rfl, .inl rfl⟩, trivial⟩ ?_
       refine RunC.cond_true rfl rfl ?_
       refine zQ ?_
       refine zA (r := b false) rfl rfl rfl rfl rfl ?_
       refine zN ?_
       refine RunC.ret ?_
       have hq := Option.some.inj h
       subst q0
       exact bodyQ.pure (.inr rfl) rfl (Res.one rfl (RV.tmp rfl))
  ·refine RunC.regionW ?_
   refine ROps.d (r := agg [i64 r5, i64 r6, oref 2 1 0 r8.length]) (fs := []) (Γ' := [⟨1, some (r4.map f32)⟩, ⟨1, some [i64 r1, i64 r2, oref 0 1 0 r4.length]⟩, ⟨1, some (r8.map f32)⟩, ⟨1, some [i64 r5, i64 r6, oref 2 1 0 r8.length]⟩, ⟨0, none⟩, ⟨0, none⟩]) rfl rfl rfl (TOp.loadAgg_o rfl agg31 siz31 rfl rfl rfl rfl) rfl ?_
   refine ROps.d (r := agg [i64 r1, i64 r2, oref 0 1 0 r4.length]) (fs := []) (Γ' := [⟨1, some (r4.map f32)⟩, ⟨1, some [i64 r1, i64 r2, oref 0 1 0 r4.length]⟩, ⟨1, some (r8.map f32)⟩, ⟨1, some [i64 r5, i64 r6, oref 2 1 0 r8.length]⟩, ⟨0, none⟩, ⟨0, none⟩]) rfl rfl rfl (TOp.loadAgg_o rfl agg31 siz31 rfl rfl rfl rfl) rfl ?_
   refine ROps.d (r := b false) (fs := []) (Γ' := [⟨1, some (r4.map f32)⟩, ⟨1, some [i64 r1, i64 r2, oref 0 1 0 r4.length]⟩, ⟨1, some (r8.map f32)⟩, ⟨1, some [i64 r5, i64 r6, oref 2 1 0 r8.length]⟩, ⟨0, none⟩, ⟨0, none⟩]) rfl rfl rfl (TOp.eqb (TOp.callB (CallAs.func ent12 rfl rfl) (Bors.cons (Bor.agg (Bors.cons (Bor.pure rfl) (Bors.cons (Bor.pure rfl) (Bors.cons (Bor.own (f := f32) (fun _ => rfl) rfl rfl) Bors.nil)))) (Bors.cons (Bor.agg (Bors.cons (Bor.pure rfl) (Bors.cons (Bor.pure rfl) (Bors.cons (Bor.own (f := f32) (fun _ => rfl) rfl rfl) Bors.nil)))) Bors.nil)) rfl rfl (w_eqMatrix_ok r5 r6 r8 r1 r2 r4 r9 hf4)) hc5) rfl ?_
   refine zL (r := b true) rfl rfl rfl (LOp.eqb (LOp.not rfl rfl) rfl) ?_
   refine zM (r := b true) rfl rfl rfl rfl rfl ?_
   refine ROps.s rfl rfl rfl ?_
   refine ROps.s rfl rfl rfl ?_
   refine ROps.s rfl rfl rfl ?_
   refine zL (r := b true) rfl rfl rfl (LOp.pick_true rfl rfl rfl) ?_
   refine zN ?_
   refine RunC.wl (τ' := [(0, str a0), (3, optr 1 1 0), (4, b r3), (5, optr 3 1 0), (32, b true)]) (Γ' := [⟨1, some (r4.map f32)⟩, ⟨1, some [i64 r1, i64 r2, oref 0 1 0 r4.length]⟩, ⟨1, some (r8.map f32)⟩, ⟨1, some [i64 r5, i64 r6, oref 2 1 0 r8.length]⟩, ⟨0, none⟩, ⟨0, none⟩]) ⟨aR, aR, aR, aR, aR, trivial⟩ ⟨⟨rfl, .inr rfl⟩, ⟨rfl, .inr rfl⟩, ⟨rfl, .inr rfl⟩, ⟨rfl, .inr rfl⟩, ⟨rfl, .inr rfl⟩, ⟨rfl, .inr rfl⟩, trivial⟩ ?_
   refine RunC.cond_true rfl rfl ?_
   refine zQ ?_
   refine zA (r := b false) rfl rfl rfl rfl rfl ?_
   refine zN ?_
   refine RunC.ret ?_
   have hq := Option.some.inj h
   subst q0
   exact bodyQ.pure (.inr rfl) rfl (Res.one rfl (RV.tmp rfl))
end Go.Proofs.YticpoofjnfiebaaGreatDoor
