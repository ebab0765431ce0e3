/- Generated. -/
import Derived.Test.YtmgjiomflefedaaGTys
namespace Go.Proofs.Ytmgjiomflefedaa
open Go Go.AM
set_option maxRecDepth 20000
set_option maxHeartbeats 4000000
set_option linter.unusedVariables false
set_option linter.unusedSimpArgs false
noncomputable def f57 (a0 : List F) (a1 : Int) : Option (Int) :=
  olet (IntKind.i64.wrap (a1 - (a0.length : Int))) fun (x1 : Int) =>
  bsel (decide (x1 < 0)) (
    some (-1)) (
    some x1)
theorem f57_ok (a0 : List F) (a1 : Int) (q0 : Int) (h : f57 a0 a1 = some q0) : Ev Try.prog 57 [AV.sl a0.length (a0.map AV.f32), AV.i64 a1] [] (AV.i64 q0) [] := by
  refine Ev.start Try.func57 rfl rfl 0 (τ := [(0, AV.sl a0.length (a0.map AV.f32)), (1, AV.i64 a1)]) rfl (Γ' := []) rfl (n := 12) rfl (g := 0) rfl ?_
  unfold f57 at h
  refine RunC.seq ?_
  refine RunC.regionW ?_
  refine ROps.l (r := AV.i64 0) rfl rfl rfl (LOp.assign rfl rfl) ?_
  refine ROps.nil ?_
  refine RunC.seq ?_
  obtain ⟨x1, hx1, h⟩ := olet_some h
  refine RunC.regionW ?_
  refine ROps.l (r := AV.i64 a1) rfl rfl rfl (LOp.move rfl rfl) ?_
  refine ROps.l (r := AV.sl a0.length (a0.map AV.f32)) rfl rfl rfl (LOp.move rfl rfl) ?_
  refine ROps.l (r := AV.i64 (a0.length : Int)) rfl rfl rfl (LOp.len_sl und38 rfl rfl) ?_
  refine ROps.l (r := AV.i64 x1) rfl rfl rfl (LOp.eqr (LOp.sub rfl rfl rfl) (congrArg (AV.ik .i64) hx1)) ?_
  refine ROps.l (r := AV.i64 x1) rfl rfl rfl (LOp.assign rfl rfl) ?_
  refine ROps.nil ?_
  refine RunC.seq ?_
  refine RunC.seq ?_
  rcases bsel_some h with ⟨hc2, h⟩ | ⟨hc2, h⟩
  · refine RunC.regionW ?_
    refine ROps.l (r := AV.i64 x1) rfl rfl rfl (LOp.move rfl rfl) ?_
    refine ROps.l (r := AV.b true) rfl rfl rfl (LOp.eqb (LOp.lss rfl rfl rfl) hc2) ?_
    refine ROps.nil ?_
    refine RunC.cond_true rfl rfl ?_
    refine RunC.seq ?_
    refine RunC.regionW ?_
    refine ROps.l (r := AV.i64 (-1)) rfl rfl rfl (LOp.assign rfl rfl) ?_
    refine ROps.nil ?_
    refine RunC.ret ?_
    have hq := Option.some.inj h
    subst q0
    exact bodyQ.pure (.inr rfl) rfl (Res.one rfl (RV.tmp rfl))
  · refine RunC.regionW ?_
    refine ROps.l (r := AV.i64 x1) rfl rfl rfl (LOp.move rfl rfl) ?_
    refine ROps.l (r := AV.b false) rfl rfl rfl (LOp.eqb (LOp.lss rfl rfl rfl) hc2) ?_
    refine ROps.nil ?_
    refine RunC.cond_false rfl rfl ?_
    refine RunC.skip ?_
    refine RunC.seq ?_
    refine RunC.regionW ?_
    refine ROps.l (r := AV.i64 x1) rfl rfl rfl (LOp.move rfl rfl) ?_
    refine ROps.l (r := AV.i64 x1) rfl rfl rfl (LOp.assign rfl rfl) ?_
    refine ROps.nil ?_
    refine RunC.ret ?_
    have hq := Option.some.inj h
    subst q0
    exact bodyQ.pure (.inr rfl) rfl (Res.one rfl (RV.tmp rfl))
noncomputable def f24 (a0 : Int) (a1 : Int) (a2 : List F) (a3 : Int) : Option (Int) :=
  obind (f57 a2 a3) fun (r1 : Int) =>
  bsel (decide (r1 < 0)) (
    some (-1)) (
    some r1)
theorem f24_ok (a0 : Int) (a1 : Int) (a2 : List F) (a3 : Int) (q0 : Int) (h : f24 a0 a1 a2 a3 = some q0) : Ev Try.prog 24 [AV.agg [AV.i64 a0, AV.i64 a1, AV.sl a2.length (a2.map AV.f32)], AV.i64 a3] [] (AV.i64 q0) [] := by
  refine Ev.start Try.func24 rfl rfl 0 (τ := [(0, AV.agg [AV.i64 a0, AV.i64 a1, AV.sl a2.length (a2.map AV.f32)]), (1, AV.i64 a3)]) rfl (Γ' := []) rfl (n := 12) rfl (g := 0) rfl ?_
  unfold f24 at h
  refine RunC.seq ?_
  refine RunC.regionW ?_
  refine ROps.d (r := AV.ptr [AV.i64 a0, AV.i64 a1, AV.sl a2.length (a2.map AV.f32)]) (fs := []) (Γ' := []) rfl rfl rfl (TOp.box_s rfl rfl rfl) rfl ?_
  refine ROps.l (r := AV.i64 0) rfl rfl rfl (LOp.assign rfl rfl) ?_
  refine ROps.nil ?_
  refine RunC.seq ?_
  obtain ⟨r1, hf1, h⟩ := obind_some h
  refine RunC.regionW ?_
  refine ROps.l (r := AV.ptr [AV.sl a2.length (a2.map AV.f32)]) rfl rfl rfl (LOp.fap und52 rfl siz38 rfl rfl rfl) ?_
  refine ROps.l (r := AV.sl a2.length (a2.map AV.f32)) rfl rfl rfl (LOp.load1 agg38 rfl rfl) ?_
  refine ROps.l (r := AV.i64 a3) rfl rfl rfl (LOp.move rfl rfl) ?_
  refine ROps.d (r := AV.i64 r1) (fs := []) (Γ' := []) rfl rfl rfl (TOp.callB (CallAs.func ent57 rfl rfl) (Bors.cons (Bor.sl (fun _ => rfl)) (Bors.cons (Bor.pure rfl) Bors.nil)) rfl rfl (f57_ok a2 a3 r1 hf1)) rfl ?_
  refine ROps.l (r := AV.i64 r1) rfl rfl rfl (LOp.assign rfl rfl) ?_
  refine ROps.nil ?_
  refine RunC.seq ?_
  refine RunC.seq ?_
  rcases bsel_some h with ⟨hc2, h⟩ | ⟨hc2, h⟩
  · refine RunC.regionW ?_
    refine ROps.l (r := AV.i64 r1) rfl rfl rfl (LOp.move rfl rfl) ?_
    refine ROps.l (r := AV.b true) rfl rfl rfl (LOp.eqb (LOp.lss rfl rfl rfl) hc2) ?_
    refine ROps.nil ?_
    refine RunC.cond_true rfl rfl ?_
    refine RunC.seq ?_
    refine RunC.regionW ?_
    refine ROps.l (r := AV.i64 (-1)) rfl rfl rfl (LOp.assign rfl rfl) ?_
    refine ROps.nil ?_
    refine RunC.ret ?_
    have hq := Option.some.inj h
    subst q0
    exact bodyQ.pure (.inr rfl) rfl (Res.one rfl (RV.tmp rfl))
  · refine RunC.regionW ?_
    refine ROps.l (r := AV.i64 r1) rfl rfl rfl (LOp.move rfl rfl) ?_
    refine ROps.l (r := AV.b false) rfl rfl rfl (LOp.eqb (LOp.lss rfl rfl rfl) hc2) ?_
    refine ROps.nil ?_
    refine RunC.cond_false rfl rfl ?_
    refine RunC.skip ?_
    refine RunC.seq ?_
    refine RunC.regionW ?_
    refine ROps.l (r := AV.i64 r1) rfl rfl rfl (LOp.move rfl rfl) ?_
    refine ROps.l (r := AV.i64 r1) rfl rfl rfl (LOp.assign rfl rfl) ?_
    refine ROps.nil ?_
    refine RunC.ret ?_
    have hq := Option.some.inj h
    subst q0
    exact bodyQ.pure (.inr rfl) rfl (Res.one rfl (RV.tmp rfl))
noncomputable def f67 (a0 : List F) (a1 : List F) (a2 : Int) : Option (Int) :=
  obind (f57 a0 a2) fun (r1 : Int) =>
  bsel (decide (r1 < 0)) (
    some (-1)) (
    obind (f57 a1 r1) fun (r2 : Int) =>
    bsel (decide (r2 < 0)) (
      some (-1)) (
      some r2))
theorem f67_ok (a0 : List F) (a1 : List F) (a2 : Int) (q0 : Int) (h : f67 a0 a1 a2 = some q0) : Ev Try.prog 67 [AV.agg [AV.sl a0.length (a0.map AV.f32), AV.sl a1.length (a1.map AV.f32)], AV.i64 a2] [] (AV.i64 q0) [] := by
  refine Ev.start Try.func67 rfl rfl 0 (τ := [(0, AV.agg [AV.sl a0.length (a0.map AV.f32), AV.sl a1.length (a1.map AV.f32)]), (1, AV.i64 a2)]) rfl (Γ' := []) rfl (n := 18) rfl (g := 0) rfl ?_
  unfold f67 at h
  refine RunC.seq ?_
  refine RunC.regionW ?_
  refine ROps.d (r := AV.ptr [AV.sl a0.length (a0.map AV.f32), AV.sl a1.length (a1.map AV.f32)]) (fs := []) (Γ' := []) rfl rfl rfl (TOp.box_s rfl rfl rfl) rfl ?_
  refine ROps.l (r := AV.i64 0) rfl rfl rfl (LOp.assign rfl rfl) ?_
  refine ROps.nil ?_
  refine RunC.seq ?_
  obtain ⟨r1, hf1, h⟩ := obind_some h
  refine RunC.regionW ?_
  refine ROps.l (r := AV.ptr [AV.sl a0.length (a0.map AV.f32), AV.sl a1.length (a1.map AV.f32)]) rfl rfl rfl (LOp.fap und60 rfl siz38 rfl rfl rfl) ?_
  refine ROps.l (r := AV.sl a0.length (a0.map AV.f32)) rfl rfl rfl (LOp.load1 agg38 rfl rfl) ?_
  refine ROps.l (r := AV.i64 a2) rfl rfl rfl (LOp.move rfl rfl) ?_
  refine ROps.d (r := AV.i64 r1) (fs := []) (Γ' := []) rfl rfl rfl (TOp.callB (CallAs.func ent57 rfl rfl) (Bors.cons (Bor.sl (fun _ => rfl)) (Bors.cons (Bor.pure rfl) Bors.nil)) rfl rfl (f57_ok a0 a2 r1 hf1)) rfl ?_
  refine ROps.l (r := AV.i64 r1) rfl rfl rfl (LOp.assign rfl rfl) ?_
  refine ROps.nil ?_
  refine RunC.seq ?_
  refine RunC.seq ?_
  rcases bsel_some h with ⟨hc2, h⟩ | ⟨hc2, h⟩
  · refine RunC.regionW ?_
    refine ROps.l (r := AV.i64 r1) rfl rfl rfl (LOp.move rfl rfl) ?_
    refine ROps.l (r := AV.b true) rfl rfl rfl (LOp.eqb (LOp.lss rfl rfl rfl) hc2) ?_
    refine ROps.nil ?_
    refine RunC.cond_true rfl rfl ?_
    refine RunC.seq ?_
    refine RunC.regionW ?_
    refine ROps.l (r := AV.i64 (-1)) rfl rfl rfl (LOp.assign rfl rfl) ?_
    refine ROps.nil ?_
    refine RunC.ret ?_
    have hq := Option.some.inj h
    subst q0
    exact bodyQ.pure (.inr rfl) rfl (Res.one rfl (RV.tmp rfl))
  · refine RunC.regionW ?_
    refine ROps.l (r := AV.i64 r1) rfl rfl rfl (LOp.move rfl rfl) ?_
    refine ROps.l (r := AV.b false) rfl rfl rfl (LOp.eqb (LOp.lss rfl rfl rfl) hc2) ?_
    refine ROps.nil ?_
    refine RunC.cond_false rfl rfl ?_
    refine RunC.skip ?_
    refine RunC.seq ?_
    obtain ⟨r2, hf3, h⟩ := obind_some h
    refine RunC.regionW ?_
    refine ROps.l (r := AV.ptr [AV.sl a1.length (a1.map AV.f32)]) rfl rfl rfl (LOp.fap und60 rfl siz38 rfl rfl rfl) ?_
    refine ROps.l (r := AV.sl a1.length (a1.map AV.f32)) rfl rfl rfl (LOp.load1 agg38 rfl rfl) ?_
    refine ROps.l (r := AV.i64 r1) rfl rfl rfl (LOp.move rfl rfl) ?_
    refine ROps.d (r := AV.i64 r2) (fs := []) (Γ' := []) rfl rfl rfl (TOp.callB (CallAs.func ent57 rfl rfl) (Bors.cons (Bor.sl (fun _ => rfl)) (Bors.cons (Bor.pure rfl) Bors.nil)) rfl rfl (f57_ok a1 r1 r2 hf3)) rfl ?_
    refine ROps.l (r := AV.i64 r2) rfl rfl rfl (LOp.assign rfl rfl) ?_
    refine ROps.nil ?_
    refine RunC.wl (τ' := [(1, AV.i64 r2)]) (Γ' := []) ⟨(ALe.refl _), trivial⟩ trivial ?_
    refine RunC.seq ?_
    refine RunC.seq ?_
    rcases bsel_some h with ⟨hc4, h⟩ | ⟨hc4, h⟩
    · refine RunC.regionW ?_
      refine ROps.l (r := AV.i64 r2) rfl rfl rfl (LOp.move rfl rfl) ?_
      refine ROps.l (r := AV.b true) rfl rfl rfl (LOp.eqb (LOp.lss rfl rfl rfl) hc4) ?_
      refine ROps.nil ?_
      refine RunC.cond_true rfl rfl ?_
      refine RunC.seq ?_
      refine RunC.regionW ?_
      refine ROps.l (r := AV.i64 (-1)) rfl rfl rfl (LOp.assign rfl rfl) ?_
      refine ROps.nil ?_
      refine RunC.ret ?_
      have hq := Option.some.inj h
      subst q0
      exact bodyQ.pure (.inr rfl) rfl (Res.one rfl (RV.tmp rfl))
    · refine RunC.regionW ?_
      refine ROps.l (r := AV.i64 r2) rfl rfl rfl (LOp.move rfl rfl) ?_
      refine ROps.l (r := AV.b false) rfl rfl rfl (LOp.eqb (LOp.lss rfl rfl rfl) hc4) ?_
      refine ROps.nil ?_
      refine RunC.cond_false rfl rfl ?_
      refine RunC.skip ?_
      refine RunC.seq ?_
      refine RunC.regionW ?_
      refine ROps.l (r := AV.i64 r2) rfl rfl rfl (LOp.move rfl rfl) ?_
      refine ROps.l (r := AV.i64 r2) rfl rfl rfl (LOp.assign rfl rfl) ?_
      refine ROps.nil ?_
      refine RunC.ret ?_
      have hq := Option.some.inj h
      subst q0
      exact bodyQ.pure (.inr rfl) rfl (Res.one rfl (RV.tmp rfl))
noncomputable def f105 (a0 : List Int) (a1 : Int) : Option (Int) :=
  olet (IntKind.i64.wrap (a1 - (a0.length : Int))) fun (x1 : Int) =>
  bsel (decide (x1 < 0)) (
    some (-1)) (
    some x1)
theorem f105_ok (a0 : List Int) (a1 : Int) (q0 : Int) (h : f105 a0 a1 = some q0) : Ev Try.prog 105 [AV.sl a0.length (a0.map AV.i64), AV.i64 a1] [] (AV.i64 q0) [] := by
  refine Ev.start Try.func105 rfl rfl 0 (τ := [(0, AV.sl a0.length (a0.map AV.i64)), (1, AV.i64 a1)]) rfl (Γ' := []) rfl (n := 12) rfl (g := 0) rfl ?_
  unfold f105 at h
  refine RunC.seq ?_
  refine RunC.regionW ?_
  refine ROps.l (r := AV.i64 0) rfl rfl rfl (LOp.assign rfl rfl) ?_
  refine ROps.nil ?_
  refine RunC.seq ?_
  obtain ⟨x1, hx1, h⟩ := olet_some h
  refine RunC.regionW ?_
  refine ROps.l (r := AV.i64 a1) rfl rfl rfl (LOp.move rfl rfl) ?_
  refine ROps.l (r := AV.sl a0.length (a0.map AV.i64)) rfl rfl rfl (LOp.move rfl rfl) ?_
  refine ROps.l (r := AV.i64 (a0.length : Int)) rfl rfl rfl (LOp.len_sl und43 rfl rfl) ?_
  refine ROps.l (r := AV.i64 x1) rfl rfl rfl (LOp.eqr (LOp.sub rfl rfl rfl) (congrArg (AV.ik .i64) hx1)) ?_
  refine ROps.l (r := AV.i64 x1) rfl rfl rfl (LOp.assign rfl rfl) ?_
  refine ROps.nil ?_
  refine RunC.seq ?_
  refine RunC.seq ?_
  rcases bsel_some h with ⟨hc2, h⟩ | ⟨hc2, h⟩
  · refine RunC.regionW ?_
    refine ROps.l (r := AV.i64 x1) rfl rfl rfl (LOp.move rfl rfl) ?_
    refine ROps.l (r := AV.b true) rfl rfl rfl (LOp.eqb (LOp.lss rfl rfl rfl) hc2) ?_
    refine ROps.nil ?_
    refine RunC.cond_true rfl rfl ?_
    refine RunC.seq ?_
    refine RunC.regionW ?_
    refine ROps.l (r := AV.i64 (-1)) rfl rfl rfl (LOp.assign rfl rfl) ?_
    refine ROps.nil ?_
    refine RunC.ret ?_
    have hq := Option.some.inj h
    subst q0
    exact bodyQ.pure (.inr rfl) rfl (Res.one rfl (RV.tmp rfl))
  · refine RunC.regionW ?_
    refine ROps.l (r := AV.i64 x1) rfl rfl rfl (LOp.move rfl rfl) ?_
    refine ROps.l (r := AV.b false) rfl rfl rfl (LOp.eqb (LOp.lss rfl rfl rfl) hc2) ?_
    refine ROps.nil ?_
    refine RunC.cond_false rfl rfl ?_
    refine RunC.skip ?_
    refine RunC.seq ?_
    refine RunC.regionW ?_
    refine ROps.l (r := AV.i64 x1) rfl rfl rfl (LOp.move rfl rfl) ?_
    refine ROps.l (r := AV.i64 x1) rfl rfl rfl (LOp.assign rfl rfl) ?_
    refine ROps.nil ?_
    refine RunC.ret ?_
    have hq := Option.some.inj h
    subst q0
    exact bodyQ.pure (.inr rfl) rfl (Res.one rfl (RV.tmp rfl))
noncomputable def f68 (a0 : Int) (a1 : Int) (a2 : List Int) (a3 : Int) : Option (Int) :=
  obind (f105 a2 a3) fun (r1 : Int) =>
  bsel (decide (r1 < 0)) (
    some (-1)) (
    some r1)
theorem f68_ok (a0 : Int) (a1 : Int) (a2 : List Int) (a3 : Int) (q0 : Int) (h : f68 a0 a1 a2 a3 = some q0) : Ev Try.prog 68 [AV.agg [AV.i64 a0, AV.i64 a1, AV.sl a2.length (a2.map AV.i64)], AV.i64 a3] [] (AV.i64 q0) [] := by
  refine Ev.start Try.func68 rfl rfl 0 (τ := [(0, AV.agg [AV.i64 a0, AV.i64 a1, AV.sl a2.length (a2.map AV.i64)]), (1, AV.i64 a3)]) rfl (Γ' := []) rfl (n := 12) rfl (g := 0) rfl ?_
  unfold f68 at h
  refine RunC.seq ?_
  refine RunC.regionW ?_
  refine ROps.d (r := AV.ptr [AV.i64 a0, AV.i64 a1, AV.sl a2.length (a2.map AV.i64)]) (fs := []) (Γ' := []) rfl rfl rfl (TOp.box_s rfl rfl rfl) rfl ?_
  refine ROps.l (r := AV.i64 0) rfl rfl rfl (LOp.assign rfl rfl) ?_
  refine ROps.nil ?_
  refine RunC.seq ?_
  obtain ⟨r1, hf1, h⟩ := obind_some h
  refine RunC.regionW ?_
  refine ROps.l (r := AV.ptr [AV.sl a2.length (a2.map AV.i64)]) rfl rfl rfl (LOp.fap und61 rfl siz43 rfl rfl rfl) ?_
  refine ROps.l (r := AV.sl a2.length (a2.map AV.i64)) rfl rfl rfl (LOp.load1 agg43 rfl rfl) ?_
  refine ROps.l (r := AV.i64 a3) rfl rfl rfl (LOp.move rfl rfl) ?_
  refine ROps.d (r := AV.i64 r1) (fs := []) (Γ' := []) rfl rfl rfl (TOp.callB (CallAs.func ent105 rfl rfl) (Bors.cons (Bor.sl (fun _ => rfl)) (Bors.cons (Bor.pure rfl) Bors.nil)) rfl rfl (f105_ok a2 a3 r1 hf1)) rfl ?_
  refine ROps.l (r := AV.i64 r1) rfl rfl rfl (LOp.assign rfl rfl) ?_
  refine ROps.nil ?_
  refine RunC.seq ?_
  refine RunC.seq ?_
  rcases bsel_some h with ⟨hc2, h⟩ | ⟨hc2, h⟩
  · refine RunC.regionW ?_
    refine ROps.l (r := AV.i64 r1) rfl rfl rfl (LOp.move rfl rfl) ?_
    refine ROps.l (r := AV.b true) rfl rfl rfl (LOp.eqb (LOp.lss rfl rfl rfl) hc2) ?_
    refine ROps.nil ?_
    refine RunC.cond_true rfl rfl ?_
    refine RunC.seq ?_
    refine RunC.regionW ?_
    refine ROps.l (r := AV.i64 (-1)) rfl rfl rfl (LOp.assign rfl rfl) ?_
    refine ROps.nil ?_
    refine RunC.ret ?_
    have hq := Option.some.inj h
    subst q0
    exact bodyQ.pure (.inr rfl) rfl (Res.one rfl (RV.tmp rfl))
  · refine RunC.regionW ?_
    refine ROps.l (r := AV.i64 r1) rfl rfl rfl (LOp.move rfl rfl) ?_
    refine ROps.l (r := AV.b false) rfl rfl rfl (LOp.eqb (LOp.lss rfl rfl rfl) hc2) ?_
    refine ROps.nil ?_
    refine RunC.cond_false rfl rfl ?_
    refine RunC.skip ?_
    refine RunC.seq ?_
    refine RunC.regionW ?_
    refine ROps.l (r := AV.i64 r1) rfl rfl rfl (LOp.move rfl rfl) ?_
    refine ROps.l (r := AV.i64 r1) rfl rfl rfl (LOp.assign rfl rfl) ?_
    refine ROps.nil ?_
    refine RunC.ret ?_
    have hq := Option.some.inj h
    subst q0
    exact bodyQ.pure (.inr rfl) rfl (Res.one rfl (RV.tmp rfl))
noncomputable def f31 (a0 : Int) (a1 : Int) (a2 : List F) (a3 : List F) (a4 : List F) (a5 : List F) (a6 : Int) (a7 : Int) (a8 : List Int) (a9 : Int) : Option (Int) :=
  obind (f24 a0 a1 a2 a9) fun (r1 : Int) =>
  bsel (decide (r1 < 0)) (
    some (-1)) (
    obind (f57 a3 r1) fun (r2 : Int) =>
    bsel (decide (r2 < 0)) (
      some (-1)) (
      obind (f67 a4 a5 r2) fun (r3 : Int) =>
      bsel (decide (r3 < 0)) (
        some (-1)) (
        obind (f68 a6 a7 a8 r3) fun (r4 : Int) =>
        bsel (decide (r4 < 0)) (
          some (-1)) (
          some r4))))
theorem f31_ok (a0 : Int) (a1 : Int) (a2 : List F) (a3 : List F) (a4 : List F) (a5 : List F) (a6 : Int) (a7 : Int) (a8 : List Int) (a9 : Int) (q0 : Int) (h : f31 a0 a1 a2 a3 a4 a5 a6 a7 a8 a9 = some q0) : Ev Try.prog 31 [AV.agg [AV.i64 a0, AV.i64 a1, AV.sl a2.length (a2.map AV.f32), AV.sl a3.length (a3.map AV.f32), AV.sl a4.length (a4.map AV.f32), AV.sl a5.length (a5.map AV.f32), AV.i64 a6, AV.i64 a7, AV.sl a8.length (a8.map AV.i64)], AV.i64 a9] [] (AV.i64 q0) [] := by
  refine Ev.start Try.func31 rfl rfl 0 (τ := [(0, AV.agg [AV.i64 a0, AV.i64 a1, AV.sl a2.length (a2.map AV.f32), AV.sl a3.length (a3.map AV.f32), AV.sl a4.length (a4.map AV.f32), AV.sl a5.length (a5.map AV.f32), AV.i64 a6, AV.i64 a7, AV.sl a8.length (a8.map AV.i64)]), (1, AV.i64 a9)]) rfl (Γ' := []) rfl (n := 30) rfl (g := 0) rfl ?_
  unfold f31 at h
  refine RunC.seq ?_
  refine RunC.regionW ?_
  refine ROps.d (r := AV.ptr [AV.i64 a0, AV.i64 a1, AV.sl a2.length (a2.map AV.f32), AV.sl a3.length (a3.map AV.f32), AV.sl a4.length (a4.map AV.f32), AV.sl a5.length (a5.map AV.f32), AV.i64 a6, AV.i64 a7, AV.sl a8.length (a8.map AV.i64)]) (fs := []) (Γ' := []) rfl rfl rfl (TOp.box_s rfl rfl rfl) rfl ?_
  refine ROps.l (r := AV.i64 0) rfl rfl rfl (LOp.assign rfl rfl) ?_
  refine ROps.nil ?_
  refine RunC.seq ?_
  obtain ⟨r1, hf1, h⟩ := obind_some h
  refine RunC.regionW ?_
  refine ROps.l (r := AV.ptr [AV.i64 a0, AV.i64 a1, AV.sl a2.length (a2.map AV.f32), AV.sl a3.length (a3.map AV.f32), AV.sl a4.length (a4.map AV.f32), AV.sl a5.length (a5.map AV.f32), AV.i64 a6, AV.i64 a7, AV.sl a8.length (a8.map AV.i64)]) rfl rfl rfl (LOp.fap und63 rfl siz52 rfl rfl rfl) ?_
  refine ROps.l (r := AV.agg [AV.i64 a0, AV.i64 a1, AV.sl a2.length (a2.map AV.f32)]) rfl rfl rfl (LOp.loadAgg agg52 siz52 rfl rfl rfl rfl) ?_
  refine ROps.l (r := AV.i64 a9) rfl rfl rfl (LOp.move rfl rfl) ?_
  refine ROps.d (r := AV.i64 r1) (fs := []) (Γ' := []) rfl rfl rfl (TOp.callB (CallAs.func ent24 rfl rfl) (Bors.cons (Bor.agg (Bors.cons (Bor.pure rfl) (Bors.cons (Bor.pure rfl) (Bors.cons (Bor.sl (fun _ => rfl)) Bors.nil)))) (Bors.cons (Bor.pure rfl) Bors.nil)) rfl rfl (f24_ok a0 a1 a2 a9 r1 hf1)) rfl ?_
  refine ROps.l (r := AV.i64 r1) rfl rfl rfl (LOp.assign rfl rfl) ?_
  refine ROps.nil ?_
  refine RunC.seq ?_
  refine RunC.seq ?_
  rcases bsel_some h with ⟨hc2, h⟩ | ⟨hc2, h⟩
  · refine RunC.regionW ?_
    refine ROps.l (r := AV.i64 r1) rfl rfl rfl (LOp.move rfl rfl) ?_
    refine ROps.l (r := AV.b true) rfl rfl rfl (LOp.eqb (LOp.lss rfl rfl rfl) hc2) ?_
    refine ROps.nil ?_
    refine RunC.cond_true rfl rfl ?_
    refine RunC.seq ?_
    refine RunC.regionW ?_
    refine ROps.l (r := AV.i64 (-1)) rfl rfl rfl (LOp.assign rfl rfl) ?_
    refine ROps.nil ?_
    refine RunC.ret ?_
    have hq := Option.some.inj h
    subst q0
    exact bodyQ.pure (.inr rfl) rfl (Res.one rfl (RV.tmp rfl))
  · refine RunC.regionW ?_
    refine ROps.l (r := AV.i64 r1) rfl rfl rfl (LOp.move rfl rfl) ?_
    refine ROps.l (r := AV.b false) rfl rfl rfl (LOp.eqb (LOp.lss rfl rfl rfl) hc2) ?_
    refine ROps.nil ?_
    refine RunC.cond_false rfl rfl ?_
    refine RunC.skip ?_
    refine RunC.seq ?_
    obtain ⟨r2, hf3, h⟩ := obind_some h
    refine RunC.regionW ?_
    refine ROps.l (r := AV.ptr [AV.sl a3.length (a3.map AV.f32), AV.sl a4.length (a4.map AV.f32), AV.sl a5.length (a5.map AV.f32), AV.i64 a6, AV.i64 a7, AV.sl a8.length (a8.map AV.i64)]) rfl rfl rfl (LOp.fap und63 rfl siz38 rfl rfl rfl) ?_
    refine ROps.l (r := AV.sl a3.length (a3.map AV.f32)) rfl rfl rfl (LOp.load1 agg38 rfl rfl) ?_
    refine ROps.l (r := AV.i64 r1) rfl rfl rfl (LOp.move rfl rfl) ?_
    refine ROps.d (r := AV.i64 r2) (fs := []) (Γ' := []) rfl rfl rfl (TOp.callB (CallAs.func ent57 rfl rfl) (Bors.cons (Bor.sl (fun _ => rfl)) (Bors.cons (Bor.pure rfl) Bors.nil)) rfl rfl (f57_ok a3 r1 r2 hf3)) rfl ?_
    refine ROps.l (r := AV.i64 r2) rfl rfl rfl (LOp.assign rfl rfl) ?_
    refine ROps.nil ?_
    refine RunC.seq ?_
    refine RunC.seq ?_
    rcases bsel_some h with ⟨hc4, h⟩ | ⟨hc4, h⟩
    · refine RunC.regionW ?_
      refine ROps.l (r := AV.i64 r2) rfl rfl rfl (LOp.move rfl rfl) ?_
      refine ROps.l (r := AV.b true) rfl rfl rfl (LOp.eqb (LOp.lss rfl rfl rfl) hc4) ?_
      refine ROps.nil ?_
      refine RunC.wl (τ' := [(1, AV.i64 r2), (2, AV.ptr [AV.i64 a0, AV.i64 a1, AV.sl a2.length (a2.map AV.f32), AV.sl a3.length (a3.map AV.f32), AV.sl a4.length (a4.map AV.f32), AV.sl a5.length (a5.map AV.f32), AV.i64 a6, AV.i64 a7, AV.sl a8.length (a8.map AV.i64)]), (16, AV.b true)]) (Γ' := []) ⟨(ALe.refl _), (ALe.refl _), (ALe.refl _), trivial⟩ trivial ?_
      refine RunC.cond_true rfl rfl ?_
      refine RunC.seq ?_
      refine RunC.regionW ?_
      refine ROps.l (r := AV.i64 (-1)) rfl rfl rfl (LOp.assign rfl rfl) ?_
      refine ROps.nil ?_
      refine RunC.ret ?_
      have hq := Option.some.inj h
      subst q0
      exact bodyQ.pure (.inr rfl) rfl (Res.one rfl (RV.tmp rfl))
    · refine RunC.regionW ?_
      refine ROps.l (r := AV.i64 r2) rfl rfl rfl (LOp.move rfl rfl) ?_
      refine ROps.l (r := AV.b false) rfl rfl rfl (LOp.eqb (LOp.lss rfl rfl rfl) hc4) ?_
      refine ROps.nil ?_
      refine RunC.wl (τ' := [(1, AV.i64 r2), (2, AV.ptr [AV.i64 a0, AV.i64 a1, AV.sl a2.length (a2.map AV.f32), AV.sl a3.length (a3.map AV.f32), AV.sl a4.length (a4.map AV.f32), AV.sl a5.length (a5.map AV.f32), AV.i64 a6, AV.i64 a7, AV.sl a8.length (a8.map AV.i64)]), (16, AV.b false)]) (Γ' := []) ⟨(ALe.refl _), (ALe.refl _), (ALe.refl _), trivial⟩ trivial ?_
      refine RunC.cond_false rfl rfl ?_
      refine RunC.skip ?_
      refine RunC.seq ?_
      obtain ⟨r3, hf5, h⟩ := obind_some h
      refine RunC.regionW ?_
      refine ROps.l (r := AV.ptr [AV.sl a4.length (a4.map AV.f32), AV.sl a5.length (a5.map AV.f32), AV.i64 a6, AV.i64 a7, AV.sl a8.length (a8.map AV.i64)]) rfl rfl rfl (LOp.fap und63 rfl siz60 rfl rfl rfl) ?_
      refine ROps.l (r := AV.agg [AV.sl a4.length (a4.map AV.f32), AV.sl a5.length (a5.map AV.f32)]) rfl rfl rfl (LOp.loadAgg agg60 siz60 rfl rfl rfl rfl) ?_
      refine ROps.l (r := AV.i64 r2) rfl rfl rfl (LOp.move rfl rfl) ?_
      refine ROps.d (r := AV.i64 r3) (fs := []) (Γ' := []) rfl rfl rfl (TOp.callB (CallAs.func ent67 rfl rfl) (Bors.cons (Bor.agg (Bors.cons (Bor.sl (fun _ => rfl)) (Bors.cons (Bor.sl (fun _ => rfl)) Bors.nil))) (Bors.cons (Bor.pure rfl) Bors.nil)) rfl rfl (f67_ok a4 a5 r2 r3 hf5)) rfl ?_
      refine ROps.l (r := AV.i64 r3) rfl rfl rfl (LOp.assign rfl rfl) ?_
      refine ROps.nil ?_
      refine RunC.seq ?_
      refine RunC.seq ?_
      rcases bsel_some h with ⟨hc6, h⟩ | ⟨hc6, h⟩
      · refine RunC.regionW ?_
        refine ROps.l (r := AV.i64 r3) rfl rfl rfl (LOp.move rfl rfl) ?_
        refine ROps.l (r := AV.b true) rfl rfl rfl (LOp.eqb (LOp.lss rfl rfl rfl) hc6) ?_
        refine ROps.nil ?_
        refine RunC.cond_true rfl rfl ?_
        refine RunC.seq ?_
        refine RunC.regionW ?_
        refine ROps.l (r := AV.i64 (-1)) rfl rfl rfl (LOp.assign rfl rfl) ?_
        refine ROps.nil ?_
        refine RunC.ret ?_
        have hq := Option.some.inj h
        subst q0
        exact bodyQ.pure (.inr rfl) rfl (Res.one rfl (RV.tmp rfl))
      · refine RunC.regionW ?_
        refine ROps.l (r := AV.i64 r3) rfl rfl rfl (LOp.move rfl rfl) ?_
        refine ROps.l (r := AV.b false) rfl rfl rfl (LOp.eqb (LOp.lss rfl rfl rfl) hc6) ?_
        refine ROps.nil ?_
        refine RunC.cond_false rfl rfl ?_
        refine RunC.skip ?_
        refine RunC.seq ?_
        obtain ⟨r4, hf7, h⟩ := obind_some h
        refine RunC.regionW ?_
        refine ROps.l (r := AV.ptr [AV.i64 a6, AV.i64 a7, AV.sl a8.length (a8.map AV.i64)]) rfl rfl rfl (LOp.fap und63 rfl siz61 rfl rfl rfl) ?_
        refine ROps.l (r := AV.agg [AV.i64 a6, AV.i64 a7, AV.sl a8.length (a8.map AV.i64)]) rfl rfl rfl (LOp.loadAgg agg61 siz61 rfl rfl rfl rfl) ?_
        refine ROps.l (r := AV.i64 r3) rfl rfl rfl (LOp.move rfl rfl) ?_
        refine ROps.d (r := AV.i64 r4) (fs := []) (Γ' := []) rfl rfl rfl (TOp.callB (CallAs.func ent68 rfl rfl) (Bors.cons (Bor.agg (Bors.cons (Bor.pure rfl) (Bors.cons (Bor.pure rfl) (Bors.cons (Bor.sl (fun _ => rfl)) Bors.nil)))) (Bors.cons (Bor.pure rfl) Bors.nil)) rfl rfl (f68_ok a6 a7 a8 r3 r4 hf7)) rfl ?_
        refine ROps.l (r := AV.i64 r4) rfl rfl rfl (LOp.assign rfl rfl) ?_
        refine ROps.nil ?_
        refine RunC.seq ?_
        refine RunC.seq ?_
        rcases bsel_some h with ⟨hc8, h⟩ | ⟨hc8, h⟩
        · refine RunC.regionW ?_
          refine ROps.l (r := AV.i64 r4) rfl rfl rfl (LOp.move rfl rfl) ?_
          refine ROps.l (r := AV.b true) rfl rfl rfl (LOp.eqb (LOp.lss rfl rfl rfl) hc8) ?_
          refine ROps.nil ?_
          refine RunC.wl (τ' := [(1, AV.i64 r4), (28, AV.b true)]) (Γ' := []) ⟨(ALe.refl _), (ALe.refl _), trivial⟩ trivial ?_
          refine RunC.cond_true rfl rfl ?_
          refine RunC.seq ?_
          refine RunC.regionW ?_
          refine ROps.l (r := AV.i64 (-1)) rfl rfl rfl (LOp.assign rfl rfl) ?_
          refine ROps.nil ?_
          refine RunC.ret ?_
          have hq := Option.some.inj h
          subst q0
          exact bodyQ.pure (.inr rfl) rfl (Res.one rfl (RV.tmp rfl))
        · refine RunC.regionW ?_
          refine ROps.l (r := AV.i64 r4) rfl rfl rfl (LOp.move rfl rfl) ?_
          refine ROps.l (r := AV.b false) rfl rfl rfl (LOp.eqb (LOp.lss rfl rfl rfl) hc8) ?_
          refine ROps.nil ?_
          refine RunC.wl (τ' := [(1, AV.i64 r4), (28, AV.b false)]) (Γ' := []) ⟨(ALe.refl _), (ALe.refl _), trivial⟩ trivial ?_
          refine RunC.cond_false rfl rfl ?_
          refine RunC.skip ?_
          refine RunC.seq ?_
          refine RunC.regionW ?_
          refine ROps.l (r := AV.i64 r4) rfl rfl rfl (LOp.move rfl rfl) ?_
          refine ROps.l (r := AV.i64 r4) rfl rfl rfl (LOp.assign rfl rfl) ?_
          refine ROps.nil ?_
          refine RunC.ret ?_
          have hq := Option.some.inj h
          subst q0
          exact bodyQ.pure (.inr rfl) rfl (Res.one rfl (RV.tmp rfl))
noncomputable def f61_b1 (a0 : List F) (L1 : List F) (v3 : Int) : Option (LR ((List F) × Int) ((List F)) ((List F))) :=
  bsel (decide (v3 < (a0.length : Int))) (
    obind (at? a0 v3) fun (e4 : F) =>
    obind (setAt? L1 v3 e4) fun (L5 : List F) =>
    olet (IntKind.i64.wrap (v3 + 1)) fun (x6 : Int) =>
    some (LR.next (L5, x6))) (
    some (LR.out L1))
noncomputable def f61_s1 (a0 : List F) : ((List F) × Int) → Option (LR ((List F) × Int) ((List F)) ((List F))) := fun s => f61_b1 a0 s.1 s.2
noncomputable def f61_k1 (L7 : List F) : Option ((List F)) :=
  some L7
noncomputable def f61 (a0 : List F) : Option ((List F)) :=
  need (mkok 4 (a0.length : Int)) <|
  obind (loopM (f61_s1 a0) ((List.replicate (a0.length : Int).toNat (some 0)), 0)) fun z => osum z (fun e => f61_k1 e) (fun r => some r)
theorem f61_ok (a0 : List F) (q0 : List F) (h : f61 a0 = some q0) : Ev Try.prog 61 [AV.sl a0.length (a0.map AV.f32)] [] (AV.oref 0 0 0 q0.length) [⟨0, some (q0.map AV.f32)⟩] := by
  refine Ev.start Try.func61 rfl rfl 1 (τ := [(0, AV.sl a0.length (a0.map AV.f32))]) rfl (Γ' := [⟨0, none⟩]) rfl (n := 22) rfl (g := 0) rfl ?_
  unfold f61 at h
  refine RunC.seq ?_
  refine RunC.regionW ?_
  refine ROps.l (r := AV.nilsl) rfl rfl rfl (LOp.assign rfl rfl) ?_
  refine ROps.nil ?_
  refine RunC.seq ?_
  obtain ⟨hm1, h⟩ := need_some h
  refine RunC.regionW ?_
  refine ROps.l (r := AV.sl a0.length (a0.map AV.f32)) rfl rfl rfl (LOp.move rfl rfl) ?_
  refine ROps.l (r := AV.i64 (a0.length : Int)) rfl rfl rfl (LOp.len_sl und38 rfl rfl) ?_
  refine ROps.d (r := AV.oref 0 1 0 ((a0.length : Int).toNat)) (fs := [(0, ((List.replicate (a0.length : Int).toNat (some 0)).map AV.f32))]) (Γ' := [⟨1, some ((List.replicate (a0.length : Int).toNat (some 0)).map AV.f32)⟩]) rfl rfl rfl (TOp.mkS (g := ⟨0, none⟩) (t := 38) (e := 34) (by_ := 4) (f := AV.f32) (zv := some 0) 0 rfl und38 tin34 rfl siz34 zer34 rfl zel34 rfl rfl rfl hm1) rfl ?_
  refine ROps.l (r := AV.oref 0 1 0 ((a0.length : Int).toNat)) rfl rfl rfl (LOp.assign rfl rfl) ?_
  refine ROps.nil ?_
  refine RunC.seq ?_
  refine RunC.seq ?_
  refine RunC.regionW ?_
  refine ROps.l (r := AV.i64 0) rfl rfl rfl (LOp.assign rfl rfl) ?_
  refine ROps.nil ?_
  obtain ⟨z2, hz_2, h⟩ := obind_some h
  refine RunC.cutN (fun τ Γ => ∃ (L7 : List F), L7.length = (a0.length : Int).toNat ∧ WeakLe τ [(3, AV.oref 0 1 0 ((a0.length : Int).toNat))] ∧ DeadLe Γ [⟨1, some (L7.map AV.f32)⟩] ∧ z2 = .inl L7) ?_ ?_
  · refine RunC.block (RunC.loop (RunL.loopM (x := z2) (f61_s1 a0) (fun (s : (List F) × Int) τ Γ => s.1.length = (a0.length : Int).toNat ∧ WeakLe τ [(0, AV.sl a0.length (a0.map AV.f32)), (3, AV.oref 0 1 0 ((a0.length : Int).toNat)), (4, AV.i64 s.2)] ∧ DeadLe Γ [⟨1, some (s.1.map AV.f32)⟩]) ?_ _ _ _ hz_2 ⟨List.length_replicate, ⟨(ALe.refl _), (ALe.refl _), (ALe.refl _), trivial⟩, ⟨⟨rfl, .inr rfl⟩, trivial⟩⟩))
    rintro ⟨L1, v3⟩ τ2 Γ2 y2_ ⟨hl2, hw2, hd2⟩ h2_ ho2 hr2
    refine RunC.wl (τ' := [(0, AV.sl a0.length (a0.map AV.f32)), (3, AV.oref 0 1 0 ((a0.length : Int).toNat)), (4, AV.i64 v3)]) (Γ' := [⟨1, some (L1.map AV.f32)⟩]) hw2 hd2 ?_
    replace hl2 : L1.length = (a0.length : Int).toNat := hl2
    replace h2_ : f61_b1 a0 L1 v3 = some y2_ := h2_
    unfold f61_b1 at h2_
    refine RunC.seq ?_
    refine RunC.seq ?_
    rcases bsel_some h2_ with ⟨hc2, h2_⟩ | ⟨hc2, h2_⟩
    · refine RunC.regionW ?_
      refine ROps.l (r := AV.i64 v3) rfl rfl rfl (LOp.move rfl rfl) ?_
      refine ROps.l (r := AV.sl a0.length (a0.map AV.f32)) rfl rfl rfl (LOp.move rfl rfl) ?_
      refine ROps.l (r := AV.i64 (a0.length : Int)) rfl rfl rfl (LOp.len_sl und38 rfl rfl) ?_
      refine ROps.l (r := AV.b true) rfl rfl rfl (LOp.eqb (LOp.lss rfl rfl rfl) hc2) ?_
      refine ROps.nil ?_
      refine RunC.cond_true rfl rfl ?_
      refine RunC.skip ?_
      refine RunC.seq ?_
      refine RunC.block ?_
      obtain ⟨e4, he3, h2_⟩ := obind_some h2_
      obtain ⟨L5, he4, h2_⟩ := obind_some h2_
      refine RunC.regionW ?_
      refine ROps.l (r := AV.oref 0 1 0 ((a0.length : Int).toNat)) rfl rfl rfl (LOp.move rfl rfl) ?_
      refine ROps.l (r := AV.i64 v3) rfl rfl rfl (LOp.move rfl rfl) ?_
      refine ROps.l (r := AV.sl a0.length (a0.map AV.f32)) rfl rfl rfl (LOp.move rfl rfl) ?_
      refine ROps.l (r := AV.i64 v3) rfl rfl rfl (LOp.move rfl rfl) ?_
      refine ROps.l (r := AV.ptr [AV.f32 e4]) rfl rfl rfl (LOp.le (LOp.ix (f := AV.f32) und38 siz34 rfl rfl rfl rfl he3) ALe.ptr) ?_
      refine ROps.l (r := AV.f32 e4) rfl rfl rfl (LOp.load1 agg34 rfl rfl) ?_
      refine ROps.d (r := AV.optr 0 1 v3.toNat) (fs := []) (Γ' := [⟨1, some (L1.map AV.f32)⟩]) rfl rfl rfl (TOp.ixo und38 siz34 rfl rfl rfl (set_in he4 hl2) rfl) rfl ?_
      refine ROps.st (f := AV.f32) (i := v3) (Γ' := [⟨1, some (L5.map AV.f32)⟩]) rfl siz34 rfl rfl rfl (ALe.refl _) rfl rfl rfl he4 rfl ?_
      refine ROps.nil ?_
      obtain ⟨x6, hx5, h2_⟩ := olet_some h2_
      refine RunC.regionW ?_
      refine ROps.l (r := AV.i64 v3) rfl rfl rfl (LOp.move rfl rfl) ?_
      refine ROps.l (r := AV.i64 x6) rfl rfl rfl (LOp.eqr (LOp.add rfl rfl rfl) (congrArg (AV.ik .i64) hx5)) ?_
      refine ROps.l (r := AV.i64 x6) rfl rfl rfl (LOp.assign rfl rfl) ?_
      refine ROps.nil ?_
      cases Option.some.inj h2_
      exact ⟨_, rfl, ((setAt?_len he4).trans hl2), ⟨(ALe.refl _), (ALe.refl _), (ALe.refl _), trivial⟩, ⟨⟨rfl, .inr rfl⟩, trivial⟩⟩
    · refine RunC.regionW ?_
      refine ROps.l (r := AV.i64 v3) rfl rfl rfl (LOp.move rfl rfl) ?_
      refine ROps.l (r := AV.sl a0.length (a0.map AV.f32)) rfl rfl rfl (LOp.move rfl rfl) ?_
      refine ROps.l (r := AV.i64 (a0.length : Int)) rfl rfl rfl (LOp.len_sl und38 rfl rfl) ?_
      refine ROps.l (r := AV.b false) rfl rfl rfl (LOp.eqb (LOp.lss rfl rfl rfl) hc2) ?_
      refine ROps.nil ?_
      refine RunC.cond_false rfl rfl ?_
      refine RunC.exit ?_
      cases Option.some.inj h2_
      have hx := ho2 _ rfl
      exact ⟨L1, hl2, ⟨(ALe.refl _), trivial⟩, ⟨⟨rfl, .inr rfl⟩, trivial⟩, hx⟩
  · rintro τ3 Γ3 ⟨L7, hl8, hw3, hd3, rfl⟩
    refine RunC.wl (τ' := [(3, AV.oref 0 1 0 ((a0.length : Int).toNat))]) (Γ' := [⟨1, some (L7.map AV.f32)⟩]) hw3 hd3 ?_
    replace h : f61_k1 L7 = some q0 := h
    unfold f61_k1 at h
    refine RunC.seq ?_
    refine RunC.regionW ?_
    refine ROps.l (r := AV.oref 0 1 0 ((a0.length : Int).toNat)) rfl rfl rfl (LOp.move rfl rfl) ?_
    refine ROps.l (r := AV.oref 0 1 0 ((a0.length : Int).toNat)) rfl rfl rfl (LOp.assign rfl rfl) ?_
    refine ROps.nil ?_
    refine RunC.ret ?_
    have hq := Option.some.inj h
    subst q0
    exact bodyQ.mk (r' := AV.oref 0 1 0 L7.length) [(0, 1)] (.inr rfl) rfl (by decide) rfl rfl (Res.eq (Res.one rfl (RV.tmp rfl)) (by rw [(show L7.length = (a0.length : Int).toNat from hl8)] <;> rfl)) (SelL.arr0 (f := AV.f32) (fun _ => rfl) rfl trivial)
noncomputable def f26 (a0 : Int) (a1 : Int) (a2 : List F) : Option (Int × Int × (List F)) :=
  obind (f61 a2) fun (r1 : List F) =>
  some (a0, a1, r1)
theorem f26_ok (a0 : Int) (a1 : Int) (a2 : List F) (q0 : Int) (q1 : Int) (q2 : List F) (h : f26 a0 a1 a2 = some (q0, q1, q2)) : Ev Try.prog 26 [AV.agg [AV.i64 a0, AV.i64 a1, AV.sl a2.length (a2.map AV.f32)]] [] (AV.agg [AV.i64 q0, AV.i64 q1, AV.oref 0 0 0 q2.length]) [⟨0, some (q2.map AV.f32)⟩] := by
  refine Ev.start Try.func26 rfl rfl 3 (τ := [(0, AV.agg [AV.i64 a0, AV.i64 a1, AV.sl a2.length (a2.map AV.f32)])]) rfl (Γ' := [⟨0, none⟩, ⟨0, none⟩, ⟨0, none⟩]) rfl (n := 15) rfl (g := 0) rfl ?_
  unfold f26 at h
  refine RunC.seq ?_
  refine RunC.regionW ?_
  refine ROps.d (r := AV.ptr [AV.i64 a0, AV.i64 a1, AV.sl a2.length (a2.map AV.f32)]) (fs := []) (Γ' := [⟨0, none⟩, ⟨0, none⟩, ⟨0, none⟩]) rfl rfl rfl (TOp.box_s rfl rfl rfl) rfl ?_
  refine ROps.d (r := AV.optr 0 1 0) (fs := [(0, [AV.i64 0, AV.i64 0, AV.nilsl])]) (Γ' := [⟨1, some [AV.i64 0, AV.i64 0, AV.nilsl]⟩, ⟨0, none⟩, ⟨0, none⟩]) rfl rfl rfl (TOp.alloc_o (g := ⟨0, none⟩) 0 rfl zer40 zok40 rfl) rfl ?_
  refine ROps.nil ?_
  refine RunC.seq ?_
  refine RunC.regionW ?_
  refine ROps.d (r := AV.optr 1 1 0) (fs := [(1, [AV.i64 0, AV.i64 0, AV.nilsl])]) (Γ' := [⟨1, some [AV.i64 0, AV.i64 0, AV.nilsl]⟩, ⟨1, some [AV.i64 0, AV.i64 0, AV.nilsl]⟩, ⟨0, none⟩]) rfl rfl rfl (TOp.alloc_o (g := ⟨0, none⟩) 1 rfl zer40 zok40 rfl) rfl ?_
  refine ROps.nil ?_
  refine RunC.seq ?_
  refine RunC.regionW ?_
  refine ROps.l (r := AV.ptr [AV.i64 a0, AV.i64 a1, AV.sl a2.length (a2.map AV.f32)]) rfl rfl rfl (LOp.fap und52 rfl siz2 rfl rfl rfl) ?_
  refine ROps.l (r := AV.i64 a0) rfl rfl rfl (LOp.load1 agg2 rfl rfl) ?_
  refine ROps.l (r := AV.optr 1 1 0) rfl rfl rfl (LOp.fao und40 rfl siz2 rfl rfl rfl) ?_
  refine ROps.store_le (r := AV.i64 a0) (l' := [AV.i64 a0, AV.i64 0, AV.nilsl]) (Γ' := [⟨1, some [AV.i64 0, AV.i64 0, AV.nilsl]⟩, ⟨1, some [AV.i64 a0, AV.i64 0, AV.nilsl]⟩, ⟨0, none⟩]) rfl siz2 rfl rfl rfl (ALe.refl _) rfl rfl rfl rfl (Nat.le_of_ble_eq_true rfl) rfl rfl ?_
  refine ROps.nil ?_
  refine RunC.seq ?_
  refine RunC.regionW ?_
  refine ROps.l (r := AV.ptr [AV.i64 a1, AV.sl a2.length (a2.map AV.f32)]) rfl rfl rfl (LOp.fap und52 rfl siz2 rfl rfl rfl) ?_
  refine ROps.l (r := AV.i64 a1) rfl rfl rfl (LOp.load1 agg2 rfl rfl) ?_
  refine ROps.l (r := AV.optr 1 1 1) rfl rfl rfl (LOp.fao und40 rfl siz2 rfl rfl rfl) ?_
  refine ROps.store_le (r := AV.i64 a1) (l' := [AV.i64 a0, AV.i64 a1, AV.nilsl]) (Γ' := [⟨1, some [AV.i64 0, AV.i64 0, AV.nilsl]⟩, ⟨1, some [AV.i64 a0, AV.i64 a1, AV.nilsl]⟩, ⟨0, none⟩]) rfl siz2 rfl rfl rfl (ALe.refl _) rfl rfl rfl rfl (Nat.le_of_ble_eq_true rfl) rfl rfl ?_
  refine ROps.nil ?_
  refine RunC.seq ?_
  obtain ⟨r1, hf1, h⟩ := obind_some h
  refine RunC.regionW ?_
  refine ROps.l (r := AV.ptr [AV.sl a2.length (a2.map AV.f32)]) rfl rfl rfl (LOp.fap und52 rfl siz38 rfl rfl rfl) ?_
  refine ROps.l (r := AV.sl a2.length (a2.map AV.f32)) rfl rfl rfl (LOp.load1 agg38 rfl rfl) ?_
  refine ROps.d (r := AV.oref 2 1 0 r1.length) (fs := [(2, (r1.map AV.f32))]) (Γ' := [⟨1, some [AV.i64 0, AV.i64 0, AV.nilsl]⟩, ⟨1, some [AV.i64 a0, AV.i64 a1, AV.nilsl]⟩, ⟨1, some (r1.map AV.f32)⟩]) rfl rfl rfl (TOp.callBN (ls := [(r1.map AV.f32)]) [2] (CallAs.func ent61 rfl rfl) (Bors.cons (Bor.sl (fun _ => rfl)) Bors.nil) rfl (f61_ok a2 r1 hf1) (and_all (lts0_map (f := AV.f32) (fun _ => rfl) _) rfl) (and_all (noss_map (f := AV.f32) (fun _ => rfl) _) rfl) rfl (by decide) (ns_of ⟨⟨_, rfl⟩, trivial⟩)) rfl ?_
  refine ROps.l (r := AV.optr 1 1 2) rfl rfl rfl (LOp.fao und40 rfl siz38 rfl rfl rfl) ?_
  refine ROps.store_le (r := AV.oref 2 1 0 r1.length) (l' := [AV.i64 a0, AV.i64 a1, AV.oref 2 1 0 r1.length]) (Γ' := [⟨1, some [AV.i64 0, AV.i64 0, AV.nilsl]⟩, ⟨1, some [AV.i64 a0, AV.i64 a1, AV.oref 2 1 0 r1.length]⟩, ⟨1, some (r1.map AV.f32)⟩]) rfl siz38 rfl rfl rfl (ALe.refl _) rfl rfl rfl rfl (Nat.le_of_ble_eq_true rfl) rfl rfl ?_
  refine ROps.nil ?_
  refine RunC.seq ?_
  refine RunC.regionW ?_
  refine ROps.d (r := AV.agg [AV.i64 a0, AV.i64 a1, AV.oref 2 1 0 r1.length]) (fs := []) (Γ' := [⟨1, some [AV.i64 0, AV.i64 0, AV.nilsl]⟩, ⟨1, some [AV.i64 a0, AV.i64 a1, AV.oref 2 1 0 r1.length]⟩, ⟨1, some (r1.map AV.f32)⟩]) rfl rfl rfl (TOp.loadAgg_o rfl agg40 siz40 rfl rfl rfl rfl) rfl ?_
  refine ROps.store_le (r := AV.agg [AV.i64 a0, AV.i64 a1, AV.oref 2 1 0 r1.length]) (l' := [AV.i64 a0, AV.i64 a1, AV.oref 2 1 0 r1.length]) (Γ' := [⟨1, some [AV.i64 a0, AV.i64 a1, AV.oref 2 1 0 r1.length]⟩, ⟨1, some [AV.i64 a0, AV.i64 a1, AV.oref 2 1 0 r1.length]⟩, ⟨1, some (r1.map AV.f32)⟩]) rfl siz40 rfl rfl rfl (ALe.refl _) rfl rfl rfl rfl (Nat.le_of_ble_eq_true rfl) rfl rfl ?_
  refine ROps.nil ?_
  refine RunC.ret ?_
  have hq := Option.some.inj h
  obtain ⟨hq0, hq⟩ := Prod.mk.inj hq
  obtain ⟨hq1, hq⟩ := Prod.mk.inj hq
  subst q0
  subst q1
  subst q2
  exact bodyQ.mk (r' := AV.agg [AV.i64 a0, AV.i64 a1, AV.oref 2 1 0 r1.length]) [(2, 1)] (.inr rfl) rfl (by decide) rfl rfl (Res.one rfl (RV.cell agg40 siz40 rfl rfl rfl rfl)) (SelL.arr0 (f := AV.f32) (fun _ => rfl) rfl trivial)
noncomputable def f73 (a0 : List F) (a1 : List F) : Option ((List F) × (List F)) :=
  obind (f61 a0) fun (r1 : List F) =>
  obind (f61 a1) fun (r2 : List F) =>
  some (r1, r2)
theorem f73_ok (a0 : List F) (a1 : List F) (q0 : List F) (q1 : List F) (h : f73 a0 a1 = some (q0, q1)) : Ev Try.prog 73 [AV.agg [AV.sl a0.length (a0.map AV.f32), AV.sl a1.length (a1.map AV.f32)]] [] (AV.agg [AV.oref 0 0 0 q0.length, AV.oref 1 0 0 q1.length]) [⟨0, some (q0.map AV.f32)⟩, ⟨0, some (q1.map AV.f32)⟩] := by
  refine Ev.start Try.func73 rfl rfl 4 (τ := [(0, AV.agg [AV.sl a0.length (a0.map AV.f32), AV.sl a1.length (a1.map AV.f32)])]) rfl (Γ' := [⟨0, none⟩, ⟨0, none⟩, ⟨0, none⟩, ⟨0, none⟩]) rfl (n := 13) rfl (g := 0) rfl ?_
  unfold f73 at h
  refine RunC.seq ?_
  refine RunC.regionW ?_
  refine ROps.d (r := AV.ptr [AV.sl a0.length (a0.map AV.f32), AV.sl a1.length (a1.map AV.f32)]) (fs := []) (Γ' := [⟨0, none⟩, ⟨0, none⟩, ⟨0, none⟩, ⟨0, none⟩]) rfl rfl rfl (TOp.box_s rfl rfl rfl) rfl ?_
  refine ROps.d (r := AV.optr 0 1 0) (fs := [(0, [AV.nilsl, AV.nilsl])]) (Γ' := [⟨1, some [AV.nilsl, AV.nilsl]⟩, ⟨0, none⟩, ⟨0, none⟩, ⟨0, none⟩]) rfl rfl rfl (TOp.alloc_o (g := ⟨0, none⟩) 0 rfl zer42 zok42 rfl) rfl ?_
  refine ROps.nil ?_
  refine RunC.seq ?_
  refine RunC.regionW ?_
  refine ROps.d (r := AV.optr 1 1 0) (fs := [(1, [AV.nilsl, AV.nilsl])]) (Γ' := [⟨1, some [AV.nilsl, AV.nilsl]⟩, ⟨1, some [AV.nilsl, AV.nilsl]⟩, ⟨0, none⟩, ⟨0, none⟩]) rfl rfl rfl (TOp.alloc_o (g := ⟨0, none⟩) 1 rfl zer42 zok42 rfl) rfl ?_
  refine ROps.nil ?_
  refine RunC.seq ?_
  obtain ⟨r1, hf1, h⟩ := obind_some h
  refine RunC.regionW ?_
  refine ROps.l (r := AV.ptr [AV.sl a0.length (a0.map AV.f32), AV.sl a1.length (a1.map AV.f32)]) rfl rfl rfl (LOp.fap und60 rfl siz38 rfl rfl rfl) ?_
  refine ROps.l (r := AV.sl a0.length (a0.map AV.f32)) rfl rfl rfl (LOp.load1 agg38 rfl rfl) ?_
  refine ROps.d (r := AV.oref 2 1 0 r1.length) (fs := [(2, (r1.map AV.f32))]) (Γ' := [⟨1, some [AV.nilsl, AV.nilsl]⟩, ⟨1, some [AV.nilsl, AV.nilsl]⟩, ⟨1, some (r1.map AV.f32)⟩, ⟨0, none⟩]) rfl rfl rfl (TOp.callBN (ls := [(r1.map AV.f32)]) [2] (CallAs.func ent61 rfl rfl) (Bors.cons (Bor.sl (fun _ => rfl)) Bors.nil) rfl (f61_ok a0 r1 hf1) (and_all (lts0_map (f := AV.f32) (fun _ => rfl) _) rfl) (and_all (noss_map (f := AV.f32) (fun _ => rfl) _) rfl) rfl (by decide) (ns_of ⟨⟨_, rfl⟩, trivial⟩)) rfl ?_
  refine ROps.l (r := AV.optr 1 1 0) rfl rfl rfl (LOp.fao und42 rfl siz38 rfl rfl rfl) ?_
  refine ROps.store_le (r := AV.oref 2 1 0 r1.length) (l' := [AV.oref 2 1 0 r1.length, AV.nilsl]) (Γ' := [⟨1, some [AV.nilsl, AV.nilsl]⟩, ⟨1, some [AV.oref 2 1 0 r1.length, AV.nilsl]⟩, ⟨1, some (r1.map AV.f32)⟩, ⟨0, none⟩]) rfl siz38 rfl rfl rfl (ALe.refl _) rfl rfl rfl rfl (Nat.le_of_ble_eq_true rfl) rfl rfl ?_
  refine ROps.nil ?_
  refine RunC.seq ?_
  obtain ⟨r2, hf2, h⟩ := obind_some h
  refine RunC.regionW ?_
  refine ROps.l (r := AV.ptr [AV.sl a1.length (a1.map AV.f32)]) rfl rfl rfl (LOp.fap und60 rfl siz38 rfl rfl rfl) ?_
  refine ROps.l (r := AV.sl a1.length (a1.map AV.f32)) rfl rfl rfl (LOp.load1 agg38 rfl rfl) ?_
  refine ROps.d (r := AV.oref 3 1 0 r2.length) (fs := [(3, (r2.map AV.f32))]) (Γ' := [⟨1, some [AV.nilsl, AV.nilsl]⟩, ⟨1, some [AV.oref 2 1 0 r1.length, AV.nilsl]⟩, ⟨1, some (r1.map AV.f32)⟩, ⟨1, some (r2.map AV.f32)⟩]) rfl rfl rfl (TOp.callBN (ls := [(r2.map AV.f32)]) [3] (CallAs.func ent61 rfl rfl) (Bors.cons (Bor.sl (fun _ => rfl)) Bors.nil) rfl (f61_ok a1 r2 hf2) (and_all (lts0_map (f := AV.f32) (fun _ => rfl) _) rfl) (and_all (noss_map (f := AV.f32) (fun _ => rfl) _) rfl) rfl (by decide) (ns_of ⟨⟨_, rfl⟩, trivial⟩)) rfl ?_
  refine ROps.l (r := AV.optr 1 1 1) rfl rfl rfl (LOp.fao und42 rfl siz38 rfl rfl rfl) ?_
  refine ROps.store_le (r := AV.oref 3 1 0 r2.length) (l' := [AV.oref 2 1 0 r1.length, AV.oref 3 1 0 r2.length]) (Γ' := [⟨1, some [AV.nilsl, AV.nilsl]⟩, ⟨1, some [AV.oref 2 1 0 r1.length, AV.oref 3 1 0 r2.length]⟩, ⟨1, some (r1.map AV.f32)⟩, ⟨1, some (r2.map AV.f32)⟩]) rfl siz38 rfl rfl rfl (ALe.refl _) rfl rfl rfl rfl (Nat.le_of_ble_eq_true rfl) rfl rfl ?_
  refine ROps.nil ?_
  refine RunC.seq ?_
  refine RunC.regionW ?_
  refine ROps.d (r := AV.agg [AV.oref 2 1 0 r1.length, AV.oref 3 1 0 r2.length]) (fs := []) (Γ' := [⟨1, some [AV.nilsl, AV.nilsl]⟩, ⟨1, some [AV.oref 2 1 0 r1.length, AV.oref 3 1 0 r2.length]⟩, ⟨1, some (r1.map AV.f32)⟩, ⟨1, some (r2.map AV.f32)⟩]) rfl rfl rfl (TOp.loadAgg_o rfl agg42 siz42 rfl rfl rfl rfl) rfl ?_
  refine ROps.store_le (r := AV.agg [AV.oref 2 1 0 r1.length, AV.oref 3 1 0 r2.length]) (l' := [AV.oref 2 1 0 r1.length, AV.oref 3 1 0 r2.length]) (Γ' := [⟨1, some [AV.oref 2 1 0 r1.length, AV.oref 3 1 0 r2.length]⟩, ⟨1, some [AV.oref 2 1 0 r1.length, AV.oref 3 1 0 r2.length]⟩, ⟨1, some (r1.map AV.f32)⟩, ⟨1, some (r2.map AV.f32)⟩]) rfl siz42 rfl rfl rfl (ALe.refl _) rfl rfl rfl rfl (Nat.le_of_ble_eq_true rfl) rfl rfl ?_
  refine ROps.nil ?_
  refine RunC.ret ?_
  have hq := Option.some.inj h
  obtain ⟨hq0, hq⟩ := Prod.mk.inj hq
  subst q0
  subst q1
  exact bodyQ.mk (r' := AV.agg [AV.oref 2 1 0 r1.length, AV.oref 3 1 0 r2.length]) [(2, 1), (3, 1)] (.inr rfl) rfl (by decide) rfl rfl (Res.one rfl (RV.cell agg42 siz42 rfl rfl rfl rfl)) (SelL.arr0 (f := AV.f32) (fun _ => rfl) rfl (SelL.arr0 (f := AV.f32) (fun _ => rfl) rfl trivial))
noncomputable def f106_b1 (a0 : List Int) (L1 : List Int) (v3 : Int) : Option (LR ((List Int) × Int) ((List Int)) ((List Int))) :=
  bsel (decide (v3 < (a0.length : Int))) (
    obind (at? a0 v3) fun (e4 : Int) =>
    obind (setAt? L1 v3 e4) fun (L5 : List Int) =>
    olet (IntKind.i64.wrap (v3 + 1)) fun (x6 : Int) =>
    some (LR.next (L5, x6))) (
    some (LR.out L1))
noncomputable def f106_s1 (a0 : List Int) : ((List Int) × Int) → Option (LR ((List Int) × Int) ((List Int)) ((List Int))) := fun s => f106_b1 a0 s.1 s.2
noncomputable def f106_k1 (L7 : List Int) : Option ((List Int)) :=
  some L7
noncomputable def f106 (a0 : List Int) : Option ((List Int)) :=
  need (mkok 8 (a0.length : Int)) <|
  obind (loopM (f106_s1 a0) ((List.replicate (a0.length : Int).toNat 0), 0)) fun z => osum z (fun e => f106_k1 e) (fun r => some r)
theorem f106_ok (a0 : List Int) (q0 : List Int) (h : f106 a0 = some q0) : Ev Try.prog 106 [AV.sl a0.length (a0.map AV.i64)] [] (AV.oref 0 0 0 q0.length) [⟨0, some (q0.map AV.i64)⟩] := by
  refine Ev.start Try.func106 rfl rfl 1 (τ := [(0, AV.sl a0.length (a0.map AV.i64))]) rfl (Γ' := [⟨0, none⟩]) rfl (n := 22) rfl (g := 0) rfl ?_
  unfold f106 at h
  refine RunC.seq ?_
  refine RunC.regionW ?_
  refine ROps.l (r := AV.nilsl) rfl rfl rfl (LOp.assign rfl rfl) ?_
  refine ROps.nil ?_
  refine RunC.seq ?_
  obtain ⟨hm1, h⟩ := need_some h
  refine RunC.regionW ?_
  refine ROps.l (r := AV.sl a0.length (a0.map AV.i64)) rfl rfl rfl (LOp.move rfl rfl) ?_
  refine ROps.l (r := AV.i64 (a0.length : Int)) rfl rfl rfl (LOp.len_sl und43 rfl rfl) ?_
  refine ROps.d (r := AV.oref 0 1 0 ((a0.length : Int).toNat)) (fs := [(0, ((List.replicate (a0.length : Int).toNat 0).map AV.i64))]) (Γ' := [⟨1, some ((List.replicate (a0.length : Int).toNat 0).map AV.i64)⟩]) rfl rfl rfl (TOp.mkS (g := ⟨0, none⟩) (t := 43) (e := 2) (by_ := 8) (f := AV.i64) (zv := 0) 0 rfl und43 tin2 rfl siz2 zer2 rfl zel2 rfl rfl rfl hm1) rfl ?_
  refine ROps.l (r := AV.oref 0 1 0 ((a0.length : Int).toNat)) rfl rfl rfl (LOp.assign rfl rfl) ?_
  refine ROps.nil ?_
  refine RunC.seq ?_
  refine RunC.seq ?_
  refine RunC.regionW ?_
  refine ROps.l (r := AV.i64 0) rfl rfl rfl (LOp.assign rfl rfl) ?_
  refine ROps.nil ?_
  obtain ⟨z2, hz_2, h⟩ := obind_some h
  refine RunC.cutN (fun τ Γ => ∃ (L7 : List Int), L7.length = (a0.length : Int).toNat ∧ WeakLe τ [(3, AV.oref 0 1 0 ((a0.length : Int).toNat))] ∧ DeadLe Γ [⟨1, some (L7.map AV.i64)⟩] ∧ z2 = .inl L7) ?_ ?_
  · refine RunC.block (RunC.loop (RunL.loopM (x := z2) (f106_s1 a0) (fun (s : (List Int) × Int) τ Γ => s.1.length = (a0.length : Int).toNat ∧ WeakLe τ [(0, AV.sl a0.length (a0.map AV.i64)), (3, AV.oref 0 1 0 ((a0.length : Int).toNat)), (4, AV.i64 s.2)] ∧ DeadLe Γ [⟨1, some (s.1.map AV.i64)⟩]) ?_ _ _ _ hz_2 ⟨List.length_replicate, ⟨(ALe.refl _), (ALe.refl _), (ALe.refl _), trivial⟩, ⟨⟨rfl, .inr rfl⟩, trivial⟩⟩))
    rintro ⟨L1, v3⟩ τ2 Γ2 y2_ ⟨hl2, hw2, hd2⟩ h2_ ho2 hr2
    refine RunC.wl (τ' := [(0, AV.sl a0.length (a0.map AV.i64)), (3, AV.oref 0 1 0 ((a0.length : Int).toNat)), (4, AV.i64 v3)]) (Γ' := [⟨1, some (L1.map AV.i64)⟩]) hw2 hd2 ?_
    replace hl2 : L1.length = (a0.length : Int).toNat := hl2
    replace h2_ : f106_b1 a0 L1 v3 = some y2_ := h2_
    unfold f106_b1 at h2_
    refine RunC.seq ?_
    refine RunC.seq ?_
    rcases bsel_some h2_ with ⟨hc2, h2_⟩ | ⟨hc2, h2_⟩
    · refine RunC.regionW ?_
      refine ROps.l (r := AV.i64 v3) rfl rfl rfl (LOp.move rfl rfl) ?_
      refine ROps.l (r := AV.sl a0.length (a0.map AV.i64)) rfl rfl rfl (LOp.move rfl rfl) ?_
      refine ROps.l (r := AV.i64 (a0.length : Int)) rfl rfl rfl (LOp.len_sl und43 rfl rfl) ?_
      refine ROps.l (r := AV.b true) rfl rfl rfl (LOp.eqb (LOp.lss rfl rfl rfl) hc2) ?_
      refine ROps.nil ?_
      refine RunC.cond_true rfl rfl ?_
      refine RunC.skip ?_
      refine RunC.seq ?_
      refine RunC.block ?_
      obtain ⟨e4, he3, h2_⟩ := obind_some h2_
      obtain ⟨L5, he4, h2_⟩ := obind_some h2_
      refine RunC.regionW ?_
      refine ROps.l (r := AV.oref 0 1 0 ((a0.length : Int).toNat)) rfl rfl rfl (LOp.move rfl rfl) ?_
      refine ROps.l (r := AV.i64 v3) rfl rfl rfl (LOp.move rfl rfl) ?_
      refine ROps.l (r := AV.sl a0.length (a0.map AV.i64)) rfl rfl rfl (LOp.move rfl rfl) ?_
      refine ROps.l (r := AV.i64 v3) rfl rfl rfl (LOp.move rfl rfl) ?_
      refine ROps.l (r := AV.ptr [AV.i64 e4]) rfl rfl rfl (LOp.le (LOp.ix (f := AV.i64) und43 siz2 rfl rfl rfl rfl he3) ALe.ptr) ?_
      refine ROps.l (r := AV.i64 e4) rfl rfl rfl (LOp.load1 agg2 rfl rfl) ?_
      refine ROps.d (r := AV.optr 0 1 v3.toNat) (fs := []) (Γ' := [⟨1, some (L1.map AV.i64)⟩]) rfl rfl rfl (TOp.ixo und43 siz2 rfl rfl rfl (set_in he4 hl2) rfl) rfl ?_
      refine ROps.st (f := AV.i64) (i := v3) (Γ' := [⟨1, some (L5.map AV.i64)⟩]) rfl siz2 rfl rfl rfl (ALe.refl _) rfl rfl rfl he4 rfl ?_
      refine ROps.nil ?_
      obtain ⟨x6, hx5, h2_⟩ := olet_some h2_
      refine RunC.regionW ?_
      refine ROps.l (r := AV.i64 v3) rfl rfl rfl (LOp.move rfl rfl) ?_
      refine ROps.l (r := AV.i64 x6) rfl rfl rfl (LOp.eqr (LOp.add rfl rfl rfl) (congrArg (AV.ik .i64) hx5)) ?_
      refine ROps.l (r := AV.i64 x6) rfl rfl rfl (LOp.assign rfl rfl) ?_
      refine ROps.nil ?_
      cases Option.some.inj h2_
      exact ⟨_, rfl, ((setAt?_len he4).trans hl2), ⟨(ALe.refl _), (ALe.refl _), (ALe.refl _), trivial⟩, ⟨⟨rfl, .inr rfl⟩, trivial⟩⟩
    · refine RunC.regionW ?_
      refine ROps.l (r := AV.i64 v3) rfl rfl rfl (LOp.move rfl rfl) ?_
      refine ROps.l (r := AV.sl a0.length (a0.map AV.i64)) rfl rfl rfl (LOp.move rfl rfl) ?_
      refine ROps.l (r := AV.i64 (a0.length : Int)) rfl rfl rfl (LOp.len_sl und43 rfl rfl) ?_
      refine ROps.l (r := AV.b false) rfl rfl rfl (LOp.eqb (LOp.lss rfl rfl rfl) hc2) ?_
      refine ROps.nil ?_
      refine RunC.cond_false rfl rfl ?_
      refine RunC.exit ?_
      cases Option.some.inj h2_
      have hx := ho2 _ rfl
      exact ⟨L1, hl2, ⟨(ALe.refl _), trivial⟩, ⟨⟨rfl, .inr rfl⟩, trivial⟩, hx⟩
  · rintro τ3 Γ3 ⟨L7, hl8, hw3, hd3, rfl⟩
    refine RunC.wl (τ' := [(3, AV.oref 0 1 0 ((a0.length : Int).toNat))]) (Γ' := [⟨1, some (L7.map AV.i64)⟩]) hw3 hd3 ?_
    replace h : f106_k1 L7 = some q0 := h
    unfold f106_k1 at h
    refine RunC.seq ?_
    refine RunC.regionW ?_
    refine ROps.l (r := AV.oref 0 1 0 ((a0.length : Int).toNat)) rfl rfl rfl (LOp.move rfl rfl) ?_
    refine ROps.l (r := AV.oref 0 1 0 ((a0.length : Int).toNat)) rfl rfl rfl (LOp.assign rfl rfl) ?_
    refine ROps.nil ?_
    refine RunC.ret ?_
    have hq := Option.some.inj h
    subst q0
    exact bodyQ.mk (r' := AV.oref 0 1 0 L7.length) [(0, 1)] (.inr rfl) rfl (by decide) rfl rfl (Res.eq (Res.one rfl (RV.tmp rfl)) (by rw [(show L7.length = (a0.length : Int).toNat from hl8)] <;> rfl)) (SelL.arr0 (f := AV.i64) (fun _ => rfl) rfl trivial)
noncomputable def f74 (a0 : Int) (a1 : Int) (a2 : List Int) : Option (Int × Int × (List Int)) :=
  obind (f106 a2) fun (r1 : List Int) =>
  some (a0, a1, r1)
theorem f74_ok (a0 : Int) (a1 : Int) (a2 : List Int) (q0 : Int) (q1 : Int) (q2 : List Int) (h : f74 a0 a1 a2 = some (q0, q1, q2)) : Ev Try.prog 74 [AV.agg [AV.i64 a0, AV.i64 a1, AV.sl a2.length (a2.map AV.i64)]] [] (AV.agg [AV.i64 q0, AV.i64 q1, AV.oref 0 0 0 q2.length]) [⟨0, some (q2.map AV.i64)⟩] := by
  refine Ev.start Try.func74 rfl rfl 3 (τ := [(0, AV.agg [AV.i64 a0, AV.i64 a1, AV.sl a2.length (a2.map AV.i64)])]) rfl (Γ' := [⟨0, none⟩, ⟨0, none⟩, ⟨0, none⟩]) rfl (n := 15) rfl (g := 0) rfl ?_
  unfold f74 at h
  refine RunC.seq ?_
  refine RunC.regionW ?_
  refine ROps.d (r := AV.ptr [AV.i64 a0, AV.i64 a1, AV.sl a2.length (a2.map AV.i64)]) (fs := []) (Γ' := [⟨0, none⟩, ⟨0, none⟩, ⟨0, none⟩]) rfl rfl rfl (TOp.box_s rfl rfl rfl) rfl ?_
  refine ROps.d (r := AV.optr 0 1 0) (fs := [(0, [AV.i64 0, AV.i64 0, AV.nilsl])]) (Γ' := [⟨1, some [AV.i64 0, AV.i64 0, AV.nilsl]⟩, ⟨0, none⟩, ⟨0, none⟩]) rfl rfl rfl (TOp.alloc_o (g := ⟨0, none⟩) 0 rfl zer45 zok45 rfl) rfl ?_
  refine ROps.nil ?_
  refine RunC.seq ?_
  refine RunC.regionW ?_
  refine ROps.d (r := AV.optr 1 1 0) (fs := [(1, [AV.i64 0, AV.i64 0, AV.nilsl])]) (Γ' := [⟨1, some [AV.i64 0, AV.i64 0, AV.nilsl]⟩, ⟨1, some [AV.i64 0, AV.i64 0, AV.nilsl]⟩, ⟨0, none⟩]) rfl rfl rfl (TOp.alloc_o (g := ⟨0, none⟩) 1 rfl zer45 zok45 rfl) rfl ?_
  refine ROps.nil ?_
  refine RunC.seq ?_
  refine RunC.regionW ?_
  refine ROps.l (r := AV.ptr [AV.i64 a0, AV.i64 a1, AV.sl a2.length (a2.map AV.i64)]) rfl rfl rfl (LOp.fap und61 rfl siz2 rfl rfl rfl) ?_
  refine ROps.l (r := AV.i64 a0) rfl rfl rfl (LOp.load1 agg2 rfl rfl) ?_
  refine ROps.l (r := AV.optr 1 1 0) rfl rfl rfl (LOp.fao und45 rfl siz2 rfl rfl rfl) ?_
  refine ROps.store_le (r := AV.i64 a0) (l' := [AV.i64 a0, AV.i64 0, AV.nilsl]) (Γ' := [⟨1, some [AV.i64 0, AV.i64 0, AV.nilsl]⟩, ⟨1, some [AV.i64 a0, AV.i64 0, AV.nilsl]⟩, ⟨0, none⟩]) rfl siz2 rfl rfl rfl (ALe.refl _) rfl rfl rfl rfl (Nat.le_of_ble_eq_true rfl) rfl rfl ?_
  refine ROps.nil ?_
  refine RunC.seq ?_
  refine RunC.regionW ?_
  refine ROps.l (r := AV.ptr [AV.i64 a1, AV.sl a2.length (a2.map AV.i64)]) rfl rfl rfl (LOp.fap und61 rfl siz2 rfl rfl rfl) ?_
  refine ROps.l (r := AV.i64 a1) rfl rfl rfl (LOp.load1 agg2 rfl rfl) ?_
  refine ROps.l (r := AV.optr 1 1 1) rfl rfl rfl (LOp.fao und45 rfl siz2 rfl rfl rfl) ?_
  refine ROps.store_le (r := AV.i64 a1) (l' := [AV.i64 a0, AV.i64 a1, AV.nilsl]) (Γ' := [⟨1, some [AV.i64 0, AV.i64 0, AV.nilsl]⟩, ⟨1, some [AV.i64 a0, AV.i64 a1, AV.nilsl]⟩, ⟨0, none⟩]) rfl siz2 rfl rfl rfl (ALe.refl _) rfl rfl rfl rfl (Nat.le_of_ble_eq_true rfl) rfl rfl ?_
  refine ROps.nil ?_
  refine RunC.seq ?_
  obtain ⟨r1, hf1, h⟩ := obind_some h
  refine RunC.regionW ?_
  refine ROps.l (r := AV.ptr [AV.sl a2.length (a2.map AV.i64)]) rfl rfl rfl (LOp.fap und61 rfl siz43 rfl rfl rfl) ?_
  refine ROps.l (r := AV.sl a2.length (a2.map AV.i64)) rfl rfl rfl (LOp.load1 agg43 rfl rfl) ?_
  refine ROps.d (r := AV.oref 2 1 0 r1.length) (fs := [(2, (r1.map AV.i64))]) (Γ' := [⟨1, some [AV.i64 0, AV.i64 0, AV.nilsl]⟩, ⟨1, some [AV.i64 a0, AV.i64 a1, AV.nilsl]⟩, ⟨1, some (r1.map AV.i64)⟩]) rfl rfl rfl (TOp.callBN (ls := [(r1.map AV.i64)]) [2] (CallAs.func ent106 rfl rfl) (Bors.cons (Bor.sl (fun _ => rfl)) Bors.nil) rfl (f106_ok a2 r1 hf1) (and_all (lts0_map (f := AV.i64) (fun _ => rfl) _) rfl) (and_all (noss_map (f := AV.i64) (fun _ => rfl) _) rfl) rfl (by decide) (ns_of ⟨⟨_, rfl⟩, trivial⟩)) rfl ?_
  refine ROps.l (r := AV.optr 1 1 2) rfl rfl rfl (LOp.fao und45 rfl siz43 rfl rfl rfl) ?_
  refine ROps.store_le (r := AV.oref 2 1 0 r1.length) (l' := [AV.i64 a0, AV.i64 a1, AV.oref 2 1 0 r1.length]) (Γ' := [⟨1, some [AV.i64 0, AV.i64 0, AV.nilsl]⟩, ⟨1, some [AV.i64 a0, AV.i64 a1, AV.oref 2 1 0 r1.length]⟩, ⟨1, some (r1.map AV.i64)⟩]) rfl siz43 rfl rfl rfl (ALe.refl _) rfl rfl rfl rfl (Nat.le_of_ble_eq_true rfl) rfl rfl ?_
  refine ROps.nil ?_
  refine RunC.seq ?_
  refine RunC.regionW ?_
  refine ROps.d (r := AV.agg [AV.i64 a0, AV.i64 a1, AV.oref 2 1 0 r1.length]) (fs := []) (Γ' := [⟨1, some [AV.i64 0, AV.i64 0, AV.nilsl]⟩, ⟨1, some [AV.i64 a0, AV.i64 a1, AV.oref 2 1 0 r1.length]⟩, ⟨1, some (r1.map AV.i64)⟩]) rfl rfl rfl (TOp.loadAgg_o rfl agg45 siz45 rfl rfl rfl rfl) rfl ?_
  refine ROps.store_le (r := AV.agg [AV.i64 a0, AV.i64 a1, AV.oref 2 1 0 r1.length]) (l' := [AV.i64 a0, AV.i64 a1, AV.oref 2 1 0 r1.length]) (Γ' := [⟨1, some [AV.i64 a0, AV.i64 a1, AV.oref 2 1 0 r1.length]⟩, ⟨1, some [AV.i64 a0, AV.i64 a1, AV.oref 2 1 0 r1.length]⟩, ⟨1, some (r1.map AV.i64)⟩]) rfl siz45 rfl rfl rfl (ALe.refl _) rfl rfl rfl rfl (Nat.le_of_ble_eq_true rfl) rfl rfl ?_
  refine ROps.nil ?_
  refine RunC.ret ?_
  have hq := Option.some.inj h
  obtain ⟨hq0, hq⟩ := Prod.mk.inj hq
  obtain ⟨hq1, hq⟩ := Prod.mk.inj hq
  subst q0
  subst q1
  subst q2
  exact bodyQ.mk (r' := AV.agg [AV.i64 a0, AV.i64 a1, AV.oref 2 1 0 r1.length]) [(2, 1)] (.inr rfl) rfl (by decide) rfl rfl (Res.one rfl (RV.cell agg45 siz45 rfl rfl rfl rfl)) (SelL.arr0 (f := AV.i64) (fun _ => rfl) rfl trivial)
noncomputable def f33 (a0 : Int) (a1 : Int) (a2 : List F) (a3 : List F) (a4 : List F) (a5 : List F) (a6 : Int) (a7 : Int) (a8 : List Int) : Option (Int × Int × Int × Int × (List F) × (List F) × (List F) × (List F) × (List Int)) :=
  obind3 (f26 a0 a1 a2) fun (r1 : Int) (r2 : Int) (r3 : List F) =>
  obind (f61 a3) fun (r4 : List F) =>
  obind2 (f73 a4 a5) fun (r5 : List F) (r6 : List F) =>
  obind3 (f74 a6 a7 a8) fun (r7 : Int) (r8 : Int) (r9 : List Int) =>
  some (r1, r2, r7, r8, r3, r4, r5, r6, r9)
theorem f33_ok (a0 : Int) (a1 : Int) (a2 : List F) (a3 : List F) (a4 : List F) (a5 : List F) (a6 : Int) (a7 : Int) (a8 : List Int) (q0 : Int) (q1 : Int) (q2 : Int) (q3 : Int) (q4 : List F) (q5 : List F) (q6 : List F) (q7 : List F) (q8 : List Int) (h : f33 a0 a1 a2 a3 a4 a5 a6 a7 a8 = some (q0, q1, q2, q3, q4, q5, q6, q7, q8)) : Ev Try.prog 33 [AV.agg [AV.i64 a0, AV.i64 a1, AV.sl a2.length (a2.map AV.f32), AV.sl a3.length (a3.map AV.f32), AV.sl a4.length (a4.map AV.f32), AV.sl a5.length (a5.map AV.f32), AV.i64 a6, AV.i64 a7, AV.sl a8.length (a8.map AV.i64)]] [] (AV.agg [AV.i64 q0, AV.i64 q1, AV.oref 0 0 0 q4.length, AV.oref 1 0 0 q5.length, AV.oref 2 0 0 q6.length, AV.oref 3 0 0 q7.length, AV.i64 q2, AV.i64 q3, AV.oref 4 0 0 q8.length]) [⟨0, some (q4.map AV.f32)⟩, ⟨0, some (q5.map AV.f32)⟩, ⟨0, some (q6.map AV.f32)⟩, ⟨0, some (q7.map AV.f32)⟩, ⟨0, some (q8.map AV.i64)⟩] := by
  refine Ev.start Try.func33 rfl rfl 7 (τ := [(0, AV.agg [AV.i64 a0, AV.i64 a1, AV.sl a2.length (a2.map AV.f32), AV.sl a3.length (a3.map AV.f32), AV.sl a4.length (a4.map AV.f32), AV.sl a5.length (a5.map AV.f32), AV.i64 a6, AV.i64 a7, AV.sl a8.length (a8.map AV.i64)])]) rfl (Γ' := [⟨0, none⟩, ⟨0, none⟩, ⟨0, none⟩, ⟨0, none⟩, ⟨0, none⟩, ⟨0, none⟩, ⟨0, none⟩]) rfl (n := 21) rfl (g := 0) rfl ?_
  unfold f33 at h
  refine RunC.seq ?_
  refine RunC.regionW ?_
  refine ROps.d (r := AV.ptr [AV.i64 a0, AV.i64 a1, AV.sl a2.length (a2.map AV.f32), AV.sl a3.length (a3.map AV.f32), AV.sl a4.length (a4.map AV.f32), AV.sl a5.length (a5.map AV.f32), AV.i64 a6, AV.i64 a7, AV.sl a8.length (a8.map AV.i64)]) (fs := []) (Γ' := [⟨0, none⟩, ⟨0, none⟩, ⟨0, none⟩, ⟨0, none⟩, ⟨0, none⟩, ⟨0, none⟩, ⟨0, none⟩]) rfl rfl rfl (TOp.box_s rfl rfl rfl) rfl ?_
  refine ROps.d (r := AV.optr 0 1 0) (fs := [(0, [AV.i64 0, AV.i64 0, AV.nilsl, AV.nilsl, AV.nilsl, AV.nilsl, AV.i64 0, AV.i64 0, AV.nilsl])]) (Γ' := [⟨1, some [AV.i64 0, AV.i64 0, AV.nilsl, AV.nilsl, AV.nilsl, AV.nilsl, AV.i64 0, AV.i64 0, AV.nilsl]⟩, ⟨0, none⟩, ⟨0, none⟩, ⟨0, none⟩, ⟨0, none⟩, ⟨0, none⟩, ⟨0, none⟩]) rfl rfl rfl (TOp.alloc_o (g := ⟨0, none⟩) 0 rfl zer47 zok47 rfl) rfl ?_
  refine ROps.nil ?_
  refine RunC.seq ?_
  refine RunC.regionW ?_
  refine ROps.d (r := AV.optr 1 1 0) (fs := [(1, [AV.i64 0, AV.i64 0, AV.nilsl, AV.nilsl, AV.nilsl, AV.nilsl, AV.i64 0, AV.i64 0, AV.nilsl])]) (Γ' := [⟨1, some [AV.i64 0, AV.i64 0, AV.nilsl, AV.nilsl, AV.nilsl, AV.nilsl, AV.i64 0, AV.i64 0, AV.nilsl]⟩, ⟨1, some [AV.i64 0, AV.i64 0, AV.nilsl, AV.nilsl, AV.nilsl, AV.nilsl, AV.i64 0, AV.i64 0, AV.nilsl]⟩, ⟨0, none⟩, ⟨0, none⟩, ⟨0, none⟩, ⟨0, none⟩, ⟨0, none⟩]) rfl rfl rfl (TOp.alloc_o (g := ⟨0, none⟩) 1 rfl zer47 zok47 rfl) rfl ?_
  refine ROps.nil ?_
  refine RunC.seq ?_
  obtain ⟨r1, r2, r3, hf1, h⟩ := obind3_some h
  refine RunC.regionW ?_
  refine ROps.l (r := AV.ptr [AV.i64 a0, AV.i64 a1, AV.sl a2.length (a2.map AV.f32), AV.sl a3.length (a3.map AV.f32), AV.sl a4.length (a4.map AV.f32), AV.sl a5.length (a5.map AV.f32), AV.i64 a6, AV.i64 a7, AV.sl a8.length (a8.map AV.i64)]) rfl rfl rfl (LOp.fap und63 rfl siz52 rfl rfl rfl) ?_
  refine ROps.l (r := AV.agg [AV.i64 a0, AV.i64 a1, AV.sl a2.length (a2.map AV.f32)]) rfl rfl rfl (LOp.loadAgg agg52 siz52 rfl rfl rfl rfl) ?_
  refine ROps.d (r := AV.agg [AV.i64 r1, AV.i64 r2, AV.oref 2 1 0 r3.length]) (fs := [(2, (r3.map AV.f32))]) (Γ' := [⟨1, some [AV.i64 0, AV.i64 0, AV.nilsl, AV.nilsl, AV.nilsl, AV.nilsl, AV.i64 0, AV.i64 0, AV.nilsl]⟩, ⟨1, some [AV.i64 0, AV.i64 0, AV.nilsl, AV.nilsl, AV.nilsl, AV.nilsl, AV.i64 0, AV.i64 0, AV.nilsl]⟩, ⟨1, some (r3.map AV.f32)⟩, ⟨0, none⟩, ⟨0, none⟩, ⟨0, none⟩, ⟨0, none⟩]) rfl rfl rfl (TOp.callBN (ls := [(r3.map AV.f32)]) [2] (CallAs.func ent26 rfl rfl) (Bors.cons (Bor.agg (Bors.cons (Bor.pure rfl) (Bors.cons (Bor.pure rfl) (Bors.cons (Bor.sl (fun _ => rfl)) Bors.nil)))) Bors.nil) rfl (f26_ok a0 a1 a2 r1 r2 r3 hf1) (and_all (lts0_map (f := AV.f32) (fun _ => rfl) _) rfl) (and_all (noss_map (f := AV.f32) (fun _ => rfl) _) rfl) rfl (by decide) (ns_of ⟨⟨_, rfl⟩, trivial⟩)) rfl ?_
  refine ROps.l (r := AV.optr 1 1 0) rfl rfl rfl (LOp.fao und47 rfl siz40 rfl rfl rfl) ?_
  refine ROps.store_le (r := AV.agg [AV.i64 r1, AV.i64 r2, AV.oref 2 1 0 r3.length]) (l' := [AV.i64 r1, AV.i64 r2, AV.oref 2 1 0 r3.length, AV.nilsl, AV.nilsl, AV.nilsl, AV.i64 0, AV.i64 0, AV.nilsl]) (Γ' := [⟨1, some [AV.i64 0, AV.i64 0, AV.nilsl, AV.nilsl, AV.nilsl, AV.nilsl, AV.i64 0, AV.i64 0, AV.nilsl]⟩, ⟨1, some [AV.i64 r1, AV.i64 r2, AV.oref 2 1 0 r3.length, AV.nilsl, AV.nilsl, AV.nilsl, AV.i64 0, AV.i64 0, AV.nilsl]⟩, ⟨1, some (r3.map AV.f32)⟩, ⟨0, none⟩, ⟨0, none⟩, ⟨0, none⟩, ⟨0, none⟩]) rfl siz40 rfl rfl rfl (ALe.refl _) rfl rfl rfl rfl (Nat.le_of_ble_eq_true rfl) rfl rfl ?_
  refine ROps.nil ?_
  refine RunC.seq ?_
  obtain ⟨r4, hf2, h⟩ := obind_some h
  refine RunC.regionW ?_
  refine ROps.l (r := AV.ptr [AV.sl a3.length (a3.map AV.f32), AV.sl a4.length (a4.map AV.f32), AV.sl a5.length (a5.map AV.f32), AV.i64 a6, AV.i64 a7, AV.sl a8.length (a8.map AV.i64)]) rfl rfl rfl (LOp.fap und63 rfl siz38 rfl rfl rfl) ?_
  refine ROps.l (r := AV.sl a3.length (a3.map AV.f32)) rfl rfl rfl (LOp.load1 agg38 rfl rfl) ?_
  refine ROps.d (r := AV.oref 3 1 0 r4.length) (fs := [(3, (r4.map AV.f32))]) (Γ' := [⟨1, some [AV.i64 0, AV.i64 0, AV.nilsl, AV.nilsl, AV.nilsl, AV.nilsl, AV.i64 0, AV.i64 0, AV.nilsl]⟩, ⟨1, some [AV.i64 r1, AV.i64 r2, AV.oref 2 1 0 r3.length, AV.nilsl, AV.nilsl, AV.nilsl, AV.i64 0, AV.i64 0, AV.nilsl]⟩, ⟨1, some (r3.map AV.f32)⟩, ⟨1, some (r4.map AV.f32)⟩, ⟨0, none⟩, ⟨0, none⟩, ⟨0, none⟩]) rfl rfl rfl (TOp.callBN (ls := [(r4.map AV.f32)]) [3] (CallAs.func ent61 rfl rfl) (Bors.cons (Bor.sl (fun _ => rfl)) Bors.nil) rfl (f61_ok a3 r4 hf2) (and_all (lts0_map (f := AV.f32) (fun _ => rfl) _) rfl) (and_all (noss_map (f := AV.f32) (fun _ => rfl) _) rfl) rfl (by decide) (ns_of ⟨⟨_, rfl⟩, trivial⟩)) rfl ?_
  refine ROps.l (r := AV.optr 1 1 3) rfl rfl rfl (LOp.fao und47 rfl siz38 rfl rfl rfl) ?_
  refine ROps.store_le (r := AV.oref 3 1 0 r4.length) (l' := [AV.i64 r1, AV.i64 r2, AV.oref 2 1 0 r3.length, AV.oref 3 1 0 r4.length, AV.nilsl, AV.nilsl, AV.i64 0, AV.i64 0, AV.nilsl]) (Γ' := [⟨1, some [AV.i64 0, AV.i64 0, AV.nilsl, AV.nilsl, AV.nilsl, AV.nilsl, AV.i64 0, AV.i64 0, AV.nilsl]⟩, ⟨1, some [AV.i64 r1, AV.i64 r2, AV.oref 2 1 0 r3.length, AV.oref 3 1 0 r4.length, AV.nilsl, AV.nilsl, AV.i64 0, AV.i64 0, AV.nilsl]⟩, ⟨1, some (r3.map AV.f32)⟩, ⟨1, some (r4.map AV.f32)⟩, ⟨0, none⟩, ⟨0, none⟩, ⟨0, none⟩]) rfl siz38 rfl rfl rfl (ALe.refl _) rfl rfl rfl rfl (Nat.le_of_ble_eq_true rfl) rfl rfl ?_
  refine ROps.nil ?_
  refine RunC.seq ?_
  obtain ⟨r5, r6, hf3, h⟩ := obind2_some h
  refine RunC.regionW ?_
  refine ROps.l (r := AV.ptr [AV.sl a4.length (a4.map AV.f32), AV.sl a5.length (a5.map AV.f32), AV.i64 a6, AV.i64 a7, AV.sl a8.length (a8.map AV.i64)]) rfl rfl rfl (LOp.fap und63 rfl siz60 rfl rfl rfl) ?_
  refine ROps.l (r := AV.agg [AV.sl a4.length (a4.map AV.f32), AV.sl a5.length (a5.map AV.f32)]) rfl rfl rfl (LOp.loadAgg agg60 siz60 rfl rfl rfl rfl) ?_
  refine ROps.d (r := AV.agg [AV.oref 4 1 0 r5.length, AV.oref 5 1 0 r6.length]) (fs := [(4, (r5.map AV.f32)), (5, (r6.map AV.f32))]) (Γ' := [⟨1, some [AV.i64 0, AV.i64 0, AV.nilsl, AV.nilsl, AV.nilsl, AV.nilsl, AV.i64 0, AV.i64 0, AV.nilsl]⟩, ⟨1, some [AV.i64 r1, AV.i64 r2, AV.oref 2 1 0 r3.length, AV.oref 3 1 0 r4.length, AV.nilsl, AV.nilsl, AV.i64 0, AV.i64 0, AV.nilsl]⟩, ⟨1, some (r3.map AV.f32)⟩, ⟨1, some (r4.map AV.f32)⟩, ⟨1, some (r5.map AV.f32)⟩, ⟨1, some (r6.map AV.f32)⟩, ⟨0, none⟩]) rfl rfl rfl (TOp.callBN (ls := [(r5.map AV.f32), (r6.map AV.f32)]) [4, 5] (CallAs.func ent73 rfl rfl) (Bors.cons (Bor.agg (Bors.cons (Bor.sl (fun _ => rfl)) (Bors.cons (Bor.sl (fun _ => rfl)) Bors.nil))) Bors.nil) rfl (f73_ok a4 a5 r5 r6 hf3) (and_all (lts0_map (f := AV.f32) (fun _ => rfl) _) (and_all (lts0_map (f := AV.f32) (fun _ => rfl) _) rfl)) (and_all (noss_map (f := AV.f32) (fun _ => rfl) _) (and_all (noss_map (f := AV.f32) (fun _ => rfl) _) rfl)) rfl (by decide) (ns_of ⟨⟨_, rfl⟩, ⟨_, rfl⟩, trivial⟩)) rfl ?_
  refine ROps.l (r := AV.optr 1 1 4) rfl rfl rfl (LOp.fao und47 rfl siz42 rfl rfl rfl) ?_
  refine ROps.store_le (r := AV.agg [AV.oref 4 1 0 r5.length, AV.oref 5 1 0 r6.length]) (l' := [AV.i64 r1, AV.i64 r2, AV.oref 2 1 0 r3.length, AV.oref 3 1 0 r4.length, AV.oref 4 1 0 r5.length, AV.oref 5 1 0 r6.length, AV.i64 0, AV.i64 0, AV.nilsl]) (Γ' := [⟨1, some [AV.i64 0, AV.i64 0, AV.nilsl, AV.nilsl, AV.nilsl, AV.nilsl, AV.i64 0, AV.i64 0, AV.nilsl]⟩, ⟨1, some [AV.i64 r1, AV.i64 r2, AV.oref 2 1 0 r3.length, AV.oref 3 1 0 r4.length, AV.oref 4 1 0 r5.length, AV.oref 5 1 0 r6.length, AV.i64 0, AV.i64 0, AV.nilsl]⟩, ⟨1, some (r3.map AV.f32)⟩, ⟨1, some (r4.map AV.f32)⟩, ⟨1, some (r5.map AV.f32)⟩, ⟨1, some (r6.map AV.f32)⟩, ⟨0, none⟩]) rfl siz42 rfl rfl rfl (ALe.refl _) rfl rfl rfl rfl (Nat.le_of_ble_eq_true rfl) rfl rfl ?_
  refine ROps.nil ?_
  refine RunC.wl (τ' := [(1, AV.ptr [AV.i64 a0, AV.i64 a1, AV.sl a2.length (a2.map AV.f32), AV.sl a3.length (a3.map AV.f32), AV.sl a4.length (a4.map AV.f32), AV.sl a5.length (a5.map AV.f32), AV.i64 a6, AV.i64 a7, AV.sl a8.length (a8.map AV.i64)]), (2, AV.optr 0 1 0), (3, AV.optr 1 1 0)]) (Γ' := [⟨1, some [AV.i64 0, AV.i64 0, AV.nilsl, AV.nilsl, AV.nilsl, AV.nilsl, AV.i64 0, AV.i64 0, AV.nilsl]⟩, ⟨1, some [AV.i64 r1, AV.i64 r2, AV.oref 2 1 0 r3.length, AV.oref 3 1 0 r4.length, AV.oref 4 1 0 r5.length, AV.oref 5 1 0 r6.length, AV.i64 0, AV.i64 0, AV.nilsl]⟩, ⟨1, some (r3.map AV.f32)⟩, ⟨1, some (r4.map AV.f32)⟩, ⟨1, some (r5.map AV.f32)⟩, ⟨1, some (r6.map AV.f32)⟩, ⟨0, none⟩]) ⟨(ALe.refl _), (ALe.refl _), (ALe.refl _), trivial⟩ ⟨⟨rfl, .inr rfl⟩, ⟨rfl, .inr rfl⟩, ⟨rfl, .inr rfl⟩, ⟨rfl, .inr rfl⟩, ⟨rfl, .inr rfl⟩, ⟨rfl, .inr rfl⟩, ⟨rfl, .inr rfl⟩, trivial⟩ ?_
  refine RunC.seq ?_
  obtain ⟨r7, r8, r9, hf4, h⟩ := obind3_some h
  refine RunC.regionW ?_
  refine ROps.l (r := AV.ptr [AV.i64 a6, AV.i64 a7, AV.sl a8.length (a8.map AV.i64)]) rfl rfl rfl (LOp.fap und63 rfl siz61 rfl rfl rfl) ?_
  refine ROps.l (r := AV.agg [AV.i64 a6, AV.i64 a7, AV.sl a8.length (a8.map AV.i64)]) rfl rfl rfl (LOp.loadAgg agg61 siz61 rfl rfl rfl rfl) ?_
  refine ROps.d (r := AV.agg [AV.i64 r7, AV.i64 r8, AV.oref 6 1 0 r9.length]) (fs := [(6, (r9.map AV.i64))]) (Γ' := [⟨1, some [AV.i64 0, AV.i64 0, AV.nilsl, AV.nilsl, AV.nilsl, AV.nilsl, AV.i64 0, AV.i64 0, AV.nilsl]⟩, ⟨1, some [AV.i64 r1, AV.i64 r2, AV.oref 2 1 0 r3.length, AV.oref 3 1 0 r4.length, AV.oref 4 1 0 r5.length, AV.oref 5 1 0 r6.length, AV.i64 0, AV.i64 0, AV.nilsl]⟩, ⟨1, some (r3.map AV.f32)⟩, ⟨1, some (r4.map AV.f32)⟩, ⟨1, some (r5.map AV.f32)⟩, ⟨1, some (r6.map AV.f32)⟩, ⟨1, some (r9.map AV.i64)⟩]) rfl rfl rfl (TOp.callBN (ls := [(r9.map AV.i64)]) [6] (CallAs.func ent74 rfl rfl) (Bors.cons (Bor.agg (Bors.cons (Bor.pure rfl) (Bors.cons (Bor.pure rfl) (Bors.cons (Bor.sl (fun _ => rfl)) Bors.nil)))) Bors.nil) rfl (f74_ok a6 a7 a8 r7 r8 r9 hf4) (and_all (lts0_map (f := AV.i64) (fun _ => rfl) _) rfl) (and_all (noss_map (f := AV.i64) (fun _ => rfl) _) rfl) rfl (by decide) (ns_of ⟨⟨_, rfl⟩, trivial⟩)) rfl ?_
  refine ROps.l (r := AV.optr 1 1 6) rfl rfl rfl (LOp.fao und47 rfl siz45 rfl rfl rfl) ?_
  refine ROps.store_le (r := AV.agg [AV.i64 r7, AV.i64 r8, AV.oref 6 1 0 r9.length]) (l' := [AV.i64 r1, AV.i64 r2, AV.oref 2 1 0 r3.length, AV.oref 3 1 0 r4.length, AV.oref 4 1 0 r5.length, AV.oref 5 1 0 r6.length, AV.i64 r7, AV.i64 r8, AV.oref 6 1 0 r9.length]) (Γ' := [⟨1, some [AV.i64 0, AV.i64 0, AV.nilsl, AV.nilsl, AV.nilsl, AV.nilsl, AV.i64 0, AV.i64 0, AV.nilsl]⟩, ⟨1, some [AV.i64 r1, AV.i64 r2, AV.oref 2 1 0 r3.length, AV.oref 3 1 0 r4.length, AV.oref 4 1 0 r5.length, AV.oref 5 1 0 r6.length, AV.i64 r7, AV.i64 r8, AV.oref 6 1 0 r9.length]⟩, ⟨1, some (r3.map AV.f32)⟩, ⟨1, some (r4.map AV.f32)⟩, ⟨1, some (r5.map AV.f32)⟩, ⟨1, some (r6.map AV.f32)⟩, ⟨1, some (r9.map AV.i64)⟩]) rfl siz45 rfl rfl rfl (ALe.refl _) rfl rfl rfl rfl (Nat.le_of_ble_eq_true rfl) rfl rfl ?_
  refine ROps.nil ?_
  refine RunC.seq ?_
  refine RunC.regionW ?_
  refine ROps.d (r := AV.agg [AV.i64 r1, AV.i64 r2, AV.oref 2 1 0 r3.length, AV.oref 3 1 0 r4.length, AV.oref 4 1 0 r5.length, AV.oref 5 1 0 r6.length, AV.i64 r7, AV.i64 r8, AV.oref 6 1 0 r9.length]) (fs := []) (Γ' := [⟨1, some [AV.i64 0, AV.i64 0, AV.nilsl, AV.nilsl, AV.nilsl, AV.nilsl, AV.i64 0, AV.i64 0, AV.nilsl]⟩, ⟨1, some [AV.i64 r1, AV.i64 r2, AV.oref 2 1 0 r3.length, AV.oref 3 1 0 r4.length, AV.oref 4 1 0 r5.length, AV.oref 5 1 0 r6.length, AV.i64 r7, AV.i64 r8, AV.oref 6 1 0 r9.length]⟩, ⟨1, some (r3.map AV.f32)⟩, ⟨1, some (r4.map AV.f32)⟩, ⟨1, some (r5.map AV.f32)⟩, ⟨1, some (r6.map AV.f32)⟩, ⟨1, some (r9.map AV.i64)⟩]) rfl rfl rfl (TOp.loadAgg_o rfl agg47 siz47 rfl rfl rfl rfl) rfl ?_
  refine ROps.store_le (r := AV.agg [AV.i64 r1, AV.i64 r2, AV.oref 2 1 0 r3.length, AV.oref 3 1 0 r4.length, AV.oref 4 1 0 r5.length, AV.oref 5 1 0 r6.length, AV.i64 r7, AV.i64 r8, AV.oref 6 1 0 r9.length]) (l' := [AV.i64 r1, AV.i64 r2, AV.oref 2 1 0 r3.length, AV.oref 3 1 0 r4.length, AV.oref 4 1 0 r5.length, AV.oref 5 1 0 r6.length, AV.i64 r7, AV.i64 r8, AV.oref 6 1 0 r9.length]) (Γ' := [⟨1, some [AV.i64 r1, AV.i64 r2, AV.oref 2 1 0 r3.length, AV.oref 3 1 0 r4.length, AV.oref 4 1 0 r5.length, AV.oref 5 1 0 r6.length, AV.i64 r7, AV.i64 r8, AV.oref 6 1 0 r9.length]⟩, ⟨1, some [AV.i64 r1, AV.i64 r2, AV.oref 2 1 0 r3.length, AV.oref 3 1 0 r4.length, AV.oref 4 1 0 r5.length, AV.oref 5 1 0 r6.length, AV.i64 r7, AV.i64 r8, AV.oref 6 1 0 r9.length]⟩, ⟨1, some (r3.map AV.f32)⟩, ⟨1, some (r4.map AV.f32)⟩, ⟨1, some (r5.map AV.f32)⟩, ⟨1, some (r6.map AV.f32)⟩, ⟨1, some (r9.map AV.i64)⟩]) rfl siz47 rfl rfl rfl (ALe.refl _) rfl rfl rfl rfl (Nat.le_of_ble_eq_true rfl) rfl rfl ?_
  refine ROps.nil ?_
  refine RunC.ret ?_
  have hq := Option.some.inj h
  obtain ⟨hq0, hq⟩ := Prod.mk.inj hq
  obtain ⟨hq1, hq⟩ := Prod.mk.inj hq
  obtain ⟨hq2, hq⟩ := Prod.mk.inj hq
  obtain ⟨hq3, hq⟩ := Prod.mk.inj hq
  obtain ⟨hq4, hq⟩ := Prod.mk.inj hq
  obtain ⟨hq5, hq⟩ := Prod.mk.inj hq
  obtain ⟨hq6, hq⟩ := Prod.mk.inj hq
  obtain ⟨hq7, hq⟩ := Prod.mk.inj hq
  subst q0
  subst q1
  subst q2
  subst q3
  subst q4
  subst q5
  subst q6
  subst q7
  subst q8
  exact bodyQ.mk (r' := AV.agg [AV.i64 r1, AV.i64 r2, AV.oref 2 1 0 r3.length, AV.oref 3 1 0 r4.length, AV.oref 4 1 0 r5.length, AV.oref 5 1 0 r6.length, AV.i64 r7, AV.i64 r8, AV.oref 6 1 0 r9.length]) [(2, 1), (3, 1), (4, 1), (5, 1), (6, 1)] (.inr rfl) rfl (by decide) rfl rfl (Res.one rfl (RV.cell agg47 siz47 rfl rfl rfl rfl)) (SelL.arr0 (f := AV.f32) (fun _ => rfl) rfl (SelL.arr0 (f := AV.f32) (fun _ => rfl) rfl (SelL.arr0 (f := AV.f32) (fun _ => rfl) rfl (SelL.arr0 (f := AV.f32) (fun _ => rfl) rfl (SelL.arr0 (f := AV.i64) (fun _ => rfl) rfl trivial)))))
noncomputable def f117 (a0 : F) : Option (Int) :=
  bsel (!feq .f32 a0 a0) (
    some 2143289344) (
    obind (a0) fun (b1 : Nat) =>
    olet (IntKind.i64.wrap (b1 : Int)) fun (x2 : Int) =>
    some x2)
theorem f117_ok (a0 : F) (q0 : Int) (h : f117 a0 = some q0) : Ev Try.prog 117 [AV.f32 a0] [] (AV.i64 q0) [] := by
  refine Ev.start Try.func117 rfl rfl 0 (τ := [(0, AV.f32 a0)]) rfl (Γ' := []) rfl (n := 9) rfl (g := 0) rfl ?_
  unfold f117 at h
  refine RunC.seq ?_
  refine RunC.regionW ?_
  refine ROps.l (r := AV.i64 0) rfl rfl rfl (LOp.assign rfl rfl) ?_
  refine ROps.nil ?_
  refine RunC.seq ?_
  refine RunC.seq ?_
  rcases bsel_some h with ⟨hc1, h⟩ | ⟨hc1, h⟩
  · refine RunC.regionW ?_
    refine ROps.l (r := AV.f32 a0) rfl rfl rfl (LOp.move rfl rfl) ?_
    refine ROps.l (r := AV.f32 a0) rfl rfl rfl (LOp.move rfl rfl) ?_
    refine ROps.l (r := AV.b true) rfl rfl rfl (LOp.eqb (LOp.fne rfl (OpF.tmp rfl) (OpF.tmp rfl)) hc1) ?_
    refine ROps.nil ?_
    refine RunC.cond_true rfl rfl ?_
    refine RunC.seq ?_
    refine RunC.regionW ?_
    refine ROps.l (r := AV.i64 2143289344) rfl rfl rfl (LOp.assign rfl rfl) ?_
    refine ROps.nil ?_
    refine RunC.ret ?_
    have hq := Option.some.inj h
    subst q0
    exact bodyQ.pure (.inr rfl) rfl (Res.one rfl (RV.tmp rfl))
  · refine RunC.regionW ?_
    refine ROps.l (r := AV.f32 a0) rfl rfl rfl (LOp.move rfl rfl) ?_
    refine ROps.l (r := AV.f32 a0) rfl rfl rfl (LOp.move rfl rfl) ?_
    refine ROps.l (r := AV.b false) rfl rfl rfl (LOp.eqb (LOp.fne rfl (OpF.tmp rfl) (OpF.tmp rfl)) hc1) ?_
    refine ROps.nil ?_
    refine RunC.cond_false rfl rfl ?_
    refine RunC.skip ?_
    refine RunC.seq ?_
    obtain ⟨b1, he2, h⟩ := obind_some h
    obtain ⟨x2, hx3, h⟩ := olet_some h
    refine RunC.regionW ?_
    refine ROps.l (r := AV.f32 a0) rfl rfl rfl (LOp.move rfl rfl) ?_
    refine ROps.l (r := AV.ik .u32 (b1 : Int)) rfl rfl rfl (LOp.fbx ext129 rfl (OpF.tmp rfl) he2) ?_
    refine ROps.l (r := AV.i64 x2) rfl rfl rfl (LOp.eqr (LOp.i2i (src := 144) (dst := 2) ⟨_, pun144⟩ pun2 rfl rfl) (congrArg (AV.ik .i64) hx3)) ?_
    refine ROps.l (r := AV.i64 x2) rfl rfl rfl (LOp.assign rfl rfl) ?_
    refine ROps.nil ?_
    refine RunC.ret ?_
    have hq := Option.some.inj h
    subst q0
    exact bodyQ.pure (.inr rfl) rfl (Res.one rfl (RV.tmp rfl))
noncomputable def f92 (a0 : F) (a1 : F) : Option (Bool) :=
  obind (f117 a0) fun (r1 : Int) =>
  obind (f117 a1) fun (r2 : Int) =>
  some (decide (r1 = r2))
theorem f92_ok (a0 : F) (a1 : F) (q0 : Bool) (h : f92 a0 a1 = some q0) : Ev Try.prog 92 [AV.f32 a0, AV.f32 a1] [] (AV.b q0) [] := by
  refine Ev.start Try.func92 rfl rfl 0 (τ := [(0, AV.f32 a0), (1, AV.f32 a1)]) rfl (Γ' := []) rfl (n := 10) rfl (g := 0) rfl ?_
  unfold f92 at h
  refine RunC.seq ?_
  refine RunC.regionW ?_
  refine ROps.l (r := AV.b false) rfl rfl rfl (LOp.assign rfl rfl) ?_
  refine ROps.nil ?_
  refine RunC.seq ?_
  obtain ⟨r1, hf1, h⟩ := obind_some h
  obtain ⟨r2, hf2, h⟩ := obind_some h
  refine RunC.regionW ?_
  refine ROps.l (r := AV.f32 a0) rfl rfl rfl (LOp.move rfl rfl) ?_
  refine ROps.d (r := AV.i64 r1) (fs := []) (Γ' := []) rfl rfl rfl (TOp.callB (CallAs.func ent117 rfl rfl) (Bors.cons (Bor.pure rfl) Bors.nil) rfl rfl (f117_ok a0 r1 hf1)) rfl ?_
  refine ROps.l (r := AV.f32 a1) rfl rfl rfl (LOp.move rfl rfl) ?_
  refine ROps.d (r := AV.i64 r2) (fs := []) (Γ' := []) rfl rfl rfl (TOp.callB (CallAs.func ent117 rfl rfl) (Bors.cons (Bor.pure rfl) Bors.nil) rfl rfl (f117_ok a1 r2 hf2)) rfl ?_
  refine ROps.l (r := AV.b (decide (r1 = r2))) rfl rfl rfl (LOp.eql rfl rfl rfl) ?_
  refine ROps.l (r := AV.b (decide (r1 = r2))) rfl rfl rfl (LOp.assign rfl rfl) ?_
  refine ROps.nil ?_
  refine RunC.ret ?_
  have hq := Option.some.inj h
  subst q0
  exact bodyQ.pure (.inr rfl) rfl (Res.one rfl (RV.tmp rfl))
noncomputable def f70_b1 (a0 : List F) (a1 : List F) (v1 : Int) : Option (LR (Int) (Unit) (Bool)) :=
  bsel (decide (v1 < (a0.length : Int))) (
    obind (at? a0 v1) fun (e2 : F) =>
    obind (at? a1 v1) fun (e3 : F) =>
    obind (f92 e2 e3) fun (r4 : Bool) =>
    bsel r4 (
      olet (IntKind.i64.wrap (v1 + 1)) fun (x5 : Int) =>
      some (LR.next x5)) (
      some (LR.ret false))) (
    some (LR.out ()))
noncomputable def f70_s1 (a0 : List F) (a1 : List F) : (Int) → Option (LR (Int) (Unit) (Bool)) := fun s => f70_b1 a0 a1 s
noncomputable def f70_k1  : Option (Bool) :=
  some true
noncomputable def f70 (a0 : List F) (a1 : List F) : Option (Bool) :=
  bsel (!decide ((a0.length : Int) = (a1.length : Int))) (
    some false) (
    obind (loopM (f70_s1 a0 a1) 0) fun z => osum z (fun _ => f70_k1) (fun r => some r))
theorem f70_ok (a0 : List F) (a1 : List F) (q0 : Bool) (h : f70 a0 a1 = some q0) : Ev Try.prog 70 [AV.sl a0.length (a0.map AV.f32), AV.sl a1.length (a1.map AV.f32)] [] (AV.b q0) [] := by
  refine Ev.start Try.func70 rfl rfl 0 (τ := [(0, AV.sl a0.length (a0.map AV.f32)), (1, AV.sl a1.length (a1.map AV.f32))]) rfl (Γ' := []) rfl (n := 27) rfl (g := 0) rfl ?_
  unfold f70 at h
  refine RunC.seq ?_
  refine RunC.regionW ?_
  refine ROps.l (r := AV.b false) rfl rfl rfl (LOp.assign rfl rfl) ?_
  refine ROps.nil ?_
  refine RunC.seq ?_
  refine RunC.seq ?_
  rcases bsel_some h with ⟨hc1, h⟩ | ⟨hc1, h⟩
  · refine RunC.regionW ?_
    refine ROps.l (r := AV.sl a0.length (a0.map AV.f32)) rfl rfl rfl (LOp.move rfl rfl) ?_
    refine ROps.l (r := AV.i64 (a0.length : Int)) rfl rfl rfl (LOp.len_sl und38 rfl rfl) ?_
    refine ROps.l (r := AV.sl a1.length (a1.map AV.f32)) rfl rfl rfl (LOp.move rfl rfl) ?_
    refine ROps.l (r := AV.i64 (a1.length : Int)) rfl rfl rfl (LOp.len_sl und38 rfl rfl) ?_
    refine ROps.l (r := AV.b true) rfl rfl rfl (LOp.eqb (LOp.neq rfl rfl rfl) hc1) ?_
    refine ROps.nil ?_
    refine RunC.cond_true rfl rfl ?_
    refine RunC.seq ?_
    refine RunC.regionW ?_
    refine ROps.l (r := AV.b false) rfl rfl rfl (LOp.assign rfl rfl) ?_
    refine ROps.nil ?_
    refine RunC.ret ?_
    have hq := Option.some.inj h
    subst q0
    exact bodyQ.pure (.inr rfl) rfl (Res.one rfl (RV.tmp rfl))
  · refine RunC.regionW ?_
    refine ROps.l (r := AV.sl a0.length (a0.map AV.f32)) rfl rfl rfl (LOp.move rfl rfl) ?_
    refine ROps.l (r := AV.i64 (a0.length : Int)) rfl rfl rfl (LOp.len_sl und38 rfl rfl) ?_
    refine ROps.l (r := AV.sl a1.length (a1.map AV.f32)) rfl rfl rfl (LOp.move rfl rfl) ?_
    refine ROps.l (r := AV.i64 (a1.length : Int)) rfl rfl rfl (LOp.len_sl und38 rfl rfl) ?_
    refine ROps.l (r := AV.b false) rfl rfl rfl (LOp.eqb (LOp.neq rfl rfl rfl) hc1) ?_
    refine ROps.nil ?_
    refine RunC.cond_false rfl rfl ?_
    refine RunC.skip ?_
    refine RunC.seq ?_
    refine RunC.seq ?_
    refine RunC.regionW ?_
    refine ROps.l (r := AV.i64 0) rfl rfl rfl (LOp.assign rfl rfl) ?_
    refine ROps.nil ?_
    obtain ⟨z2, hz_2, h⟩ := obind_some h
    refine RunC.cutN (fun τ Γ => WeakLe τ [] ∧ DeadLe Γ [] ∧ z2 = .inl ()) ?_ ?_
    · refine RunC.block (RunC.loop (RunL.loopM (x := z2) (f70_s1 a0 a1) (fun (s : Int) τ Γ => WeakLe τ [(0, AV.sl a0.length (a0.map AV.f32)), (1, AV.sl a1.length (a1.map AV.f32)), (5, AV.i64 s)] ∧ DeadLe Γ []) ?_ _ _ _ hz_2 ⟨⟨(ALe.refl _), (ALe.refl _), (ALe.refl _), trivial⟩, trivial⟩))
      rintro v1 τ2 Γ2 y2_ ⟨hw2, hd2⟩ h2_ ho2 hr2
      refine RunC.wl (τ' := [(0, AV.sl a0.length (a0.map AV.f32)), (1, AV.sl a1.length (a1.map AV.f32)), (5, AV.i64 v1)]) (Γ' := []) hw2 hd2 ?_
      replace h2_ : f70_b1 a0 a1 v1 = some y2_ := h2_
      unfold f70_b1 at h2_
      refine RunC.seq ?_
      refine RunC.seq ?_
      rcases bsel_some h2_ with ⟨hc2, h2_⟩ | ⟨hc2, h2_⟩
      · refine RunC.regionW ?_
        refine ROps.l (r := AV.i64 v1) rfl rfl rfl (LOp.move rfl rfl) ?_
        refine ROps.l (r := AV.sl a0.length (a0.map AV.f32)) rfl rfl rfl (LOp.move rfl rfl) ?_
        refine ROps.l (r := AV.i64 (a0.length : Int)) rfl rfl rfl (LOp.len_sl und38 rfl rfl) ?_
        refine ROps.l (r := AV.b true) rfl rfl rfl (LOp.eqb (LOp.lss rfl rfl rfl) hc2) ?_
        refine ROps.nil ?_
        refine RunC.cond_true rfl rfl ?_
        refine RunC.skip ?_
        refine RunC.seq ?_
        refine RunC.block ?_
        refine RunC.seq ?_
        obtain ⟨e2, he3, h2_⟩ := obind_some h2_
        obtain ⟨e3, he4, h2_⟩ := obind_some h2_
        obtain ⟨r4, hf5, h2_⟩ := obind_some h2_
        rcases bsel_some h2_ with ⟨hc6, h2_⟩ | ⟨hc6, h2_⟩
        · refine RunC.region_draw (Γ' := []) 10 mixed 
            (TR.l (r := AV.sl a0.length (a0.map AV.f32)) rfl rfl (LOp.move rfl rfl) <|
            (TR.l (r := AV.i64 v1) rfl rfl (LOp.move rfl rfl) <|
            (TR.l (r := AV.ptr [AV.f32 e2]) rfl rfl (LOp.le (LOp.ix (f := AV.f32) und38 siz34 rfl rfl rfl rfl he3) ALe.ptr) <|
            (TR.l (r := AV.f32 e2) rfl rfl (LOp.load1 agg34 rfl rfl) <|
            (TR.l (r := AV.sl a1.length (a1.map AV.f32)) rfl rfl (LOp.move rfl rfl) <|
            (TR.l (r := AV.i64 v1) rfl rfl (LOp.move rfl rfl) <|
            (TR.l (r := AV.ptr [AV.f32 e3]) rfl rfl (LOp.le (LOp.ix (f := AV.f32) und38 siz34 rfl rfl rfl rfl he4) ALe.ptr) <|
            (TR.l (r := AV.f32 e3) rfl rfl (LOp.load1 agg34 rfl rfl) <|
            (TR.d (r := AV.b true) (fs := []) rfl rfl (TOp.eqb (TOp.callB (CallAs.func ent92 rfl rfl) (Bors.cons (Bor.pure rfl) (Bors.cons (Bor.pure rfl) Bors.nil)) rfl rfl (f92_ok e2 e3 r4 hf5)) hc6) <|
            (TR.l (r := AV.b false) rfl rfl (LOp.eqb (LOp.not rfl rfl) rfl) <|
            TR.nil)))))))))) rfl (by kernel_rfl) rfl fills_nil rfl ?_
          iterate 10 refine ROps.dropS ?_
          refine ROps.drop0 ?_
          refine ROps.nil ?_
          refine RunC.wl (τ' := [(0, AV.sl a0.length (a0.map AV.f32)), (1, AV.sl a1.length (a1.map AV.f32)), (5, AV.i64 v1), (26, AV.b false)]) (Γ' := []) ⟨(ALe.refl _), (ALe.refl _), (ALe.refl _), (ALe.refl _), trivial⟩ trivial ?_
          refine RunC.cond_false rfl rfl ?_
          refine RunC.skip ?_
          obtain ⟨x5, hx7, h2_⟩ := olet_some h2_
          refine RunC.regionW ?_
          refine ROps.l (r := AV.i64 v1) rfl rfl rfl (LOp.move rfl rfl) ?_
          refine ROps.l (r := AV.i64 x5) rfl rfl rfl (LOp.eqr (LOp.add rfl rfl rfl) (congrArg (AV.ik .i64) hx7)) ?_
          refine ROps.l (r := AV.i64 x5) rfl rfl rfl (LOp.assign rfl rfl) ?_
          refine ROps.nil ?_
          cases Option.some.inj h2_
          exact ⟨_, rfl, ⟨(ALe.refl _), (ALe.refl _), (ALe.refl _), trivial⟩, trivial⟩
        · refine RunC.region_draw (Γ' := []) 10 mixed 
            (TR.l (r := AV.sl a0.length (a0.map AV.f32)) rfl rfl (LOp.move rfl rfl) <|
            (TR.l (r := AV.i64 v1) rfl rfl (LOp.move rfl rfl) <|
            (TR.l (r := AV.ptr [AV.f32 e2]) rfl rfl (LOp.le (LOp.ix (f := AV.f32) und38 siz34 rfl rfl rfl rfl he3) ALe.ptr) <|
            (TR.l (r := AV.f32 e2) rfl rfl (LOp.load1 agg34 rfl rfl) <|
            (TR.l (r := AV.sl a1.length (a1.map AV.f32)) rfl rfl (LOp.move rfl rfl) <|
            (TR.l (r := AV.i64 v1) rfl rfl (LOp.move rfl rfl) <|
            (TR.l (r := AV.ptr [AV.f32 e3]) rfl rfl (LOp.le (LOp.ix (f := AV.f32) und38 siz34 rfl rfl rfl rfl he4) ALe.ptr) <|
            (TR.l (r := AV.f32 e3) rfl rfl (LOp.load1 agg34 rfl rfl) <|
            (TR.d (r := AV.b false) (fs := []) rfl rfl (TOp.eqb (TOp.callB (CallAs.func ent92 rfl rfl) (Bors.cons (Bor.pure rfl) (Bors.cons (Bor.pure rfl) Bors.nil)) rfl rfl (f92_ok e2 e3 r4 hf5)) hc6) <|
            (TR.l (r := AV.b true) rfl rfl (LOp.eqb (LOp.not rfl rfl) rfl) <|
            TR.nil)))))))))) rfl (by kernel_rfl) rfl fills_nil rfl ?_
          iterate 10 refine ROps.dropS ?_
          refine ROps.drop0 ?_
          refine ROps.nil ?_
          refine RunC.wl (τ' := [(0, AV.sl a0.length (a0.map AV.f32)), (1, AV.sl a1.length (a1.map AV.f32)), (5, AV.i64 v1), (26, AV.b true)]) (Γ' := []) ⟨(ALe.refl _), (ALe.refl _), (ALe.refl _), (ALe.refl _), trivial⟩ trivial ?_
          refine RunC.cond_true rfl rfl ?_
          refine RunC.seq ?_
          refine RunC.regionW ?_
          refine ROps.l (r := AV.b false) rfl rfl rfl (LOp.assign rfl rfl) ?_
          refine ROps.nil ?_
          refine RunC.ret ?_
          cases Option.some.inj h2_
          have hx3_ := hr2 _ rfl
          subst hx3_
          have hq := Option.some.inj h
          subst q0
          exact bodyQ.pure (.inr rfl) rfl (Res.one rfl (RV.tmp rfl))
      · refine RunC.regionW ?_
        refine ROps.l (r := AV.i64 v1) rfl rfl rfl (LOp.move rfl rfl) ?_
        refine ROps.l (r := AV.sl a0.length (a0.map AV.f32)) rfl rfl rfl (LOp.move rfl rfl) ?_
        refine ROps.l (r := AV.i64 (a0.length : Int)) rfl rfl rfl (LOp.len_sl und38 rfl rfl) ?_
        refine ROps.l (r := AV.b false) rfl rfl rfl (LOp.eqb (LOp.lss rfl rfl rfl) hc2) ?_
        refine ROps.nil ?_
        refine RunC.cond_false rfl rfl ?_
        refine RunC.exit ?_
        cases Option.some.inj h2_
        have hx := ho2 _ rfl
        exact ⟨trivial, trivial, hx⟩
    · rintro τ4 Γ4 ⟨hw4, hd4, rfl⟩
      refine RunC.wl (τ' := []) (Γ' := []) hw4 hd4 ?_
      replace h : f70_k1 = some q0 := h
      unfold f70_k1 at h
      refine RunC.seq ?_
      refine RunC.regionW ?_
      refine ROps.l (r := AV.b true) rfl rfl rfl (LOp.assign rfl rfl) ?_
      refine ROps.nil ?_
      refine RunC.ret ?_
      have hq := Option.some.inj h
      subst q0
      exact bodyQ.pure (.inr rfl) rfl (Res.one rfl (RV.tmp rfl))
noncomputable def f69 (a0 : Int) (a1 : Int) (a2 : List F) (a3 : List F) (a4 : List F) (a5 : List F) (a6 : Int) (a7 : Int) (a8 : List Int) (a9 : Int) (a10 : Int) (a11 : List F) (a12 : List F) (a13 : List F) (a14 : List F) (a15 : Int) (a16 : Int) (a17 : List Int) : Option (Bool) :=
  bsel (decide (a0 = a9)) (
    bsel (decide (a1 = a10)) (
      obind (f70 a2 a11) fun (r1 : Bool) =>
      some r1) (
      some false)) (
    some false)
theorem f69_ok (a0 : Int) (a1 : Int) (a2 : List F) (a3 : List F) (a4 : List F) (a5 : List F) (a6 : Int) (a7 : Int) (a8 : List Int) (a9 : Int) (a10 : Int) (a11 : List F) (a12 : List F) (a13 : List F) (a14 : List F) (a15 : Int) (a16 : Int) (a17 : List Int) (q0 : Bool) (h : f69 a0 a1 a2 a3 a4 a5 a6 a7 a8 a9 a10 a11 a12 a13 a14 a15 a16 a17 = some q0) : Ev Try.prog 69 [AV.ptr [AV.i64 a0, AV.i64 a1, AV.sl a2.length (a2.map AV.f32), AV.sl a3.length (a3.map AV.f32), AV.sl a4.length (a4.map AV.f32), AV.sl a5.length (a5.map AV.f32), AV.i64 a6, AV.i64 a7, AV.sl a8.length (a8.map AV.i64)], AV.ptr [AV.i64 a9, AV.i64 a10, AV.sl a11.length (a11.map AV.f32), AV.sl a12.length (a12.map AV.f32), AV.sl a13.length (a13.map AV.f32), AV.sl a14.length (a14.map AV.f32), AV.i64 a15, AV.i64 a16, AV.sl a17.length (a17.map AV.i64)]] [] (AV.b q0) [] := by
  refine Ev.start Try.func69 rfl rfl 0 (τ := [(0, AV.ptr [AV.i64 a0, AV.i64 a1, AV.sl a2.length (a2.map AV.f32), AV.sl a3.length (a3.map AV.f32), AV.sl a4.length (a4.map AV.f32), AV.sl a5.length (a5.map AV.f32), AV.i64 a6, AV.i64 a7, AV.sl a8.length (a8.map AV.i64)]), (1, AV.ptr [AV.i64 a9, AV.i64 a10, AV.sl a11.length (a11.map AV.f32), AV.sl a12.length (a12.map AV.f32), AV.sl a13.length (a13.map AV.f32), AV.sl a14.length (a14.map AV.f32), AV.i64 a15, AV.i64 a16, AV.sl a17.length (a17.map AV.i64)])]) rfl (Γ' := []) rfl (n := 36) rfl (g := 0) rfl ?_
  unfold f69 at h
  refine RunC.seq ?_
  refine RunC.regionW ?_
  refine ROps.l (r := AV.b false) rfl rfl rfl (LOp.assign rfl rfl) ?_
  refine ROps.nil ?_
  refine RunC.seq ?_
  rcases bsel_some h with ⟨hc1, h⟩ | ⟨hc1, h⟩
  · rcases bsel_some h with ⟨hc2, h⟩ | ⟨hc2, h⟩
    · obtain ⟨r1, hf3, h⟩ := obind_some h
      refine RunC.region_draw (Γ' := []) 32 mixed 
        (TR.l (r := AV.ptr [AV.i64 a0, AV.i64 a1, AV.sl a2.length (a2.map AV.f32), AV.sl a3.length (a3.map AV.f32), AV.sl a4.length (a4.map AV.f32), AV.sl a5.length (a5.map AV.f32), AV.i64 a6, AV.i64 a7, AV.sl a8.length (a8.map AV.i64)]) rfl rfl (LOp.move rfl rfl) <|
        (TR.l (r := AV.ptr [AV.i64 a0, AV.i64 a1, AV.sl a2.length (a2.map AV.f32), AV.sl a3.length (a3.map AV.f32), AV.sl a4.length (a4.map AV.f32), AV.sl a5.length (a5.map AV.f32), AV.i64 a6, AV.i64 a7, AV.sl a8.length (a8.map AV.i64)]) rfl rfl (LOp.nilCheck_ptr rfl rfl) <|
        (TR.l (r := AV.ptr [AV.i64 a0, AV.i64 a1, AV.sl a2.length (a2.map AV.f32), AV.sl a3.length (a3.map AV.f32), AV.sl a4.length (a4.map AV.f32), AV.sl a5.length (a5.map AV.f32), AV.i64 a6, AV.i64 a7, AV.sl a8.length (a8.map AV.i64)]) rfl rfl (LOp.fap und40 rfl siz2 rfl rfl rfl) <|
        (TR.l (r := AV.i64 a0) rfl rfl (LOp.load1 agg2 rfl rfl) <|
        (TR.l (r := AV.ptr [AV.i64 a9, AV.i64 a10, AV.sl a11.length (a11.map AV.f32), AV.sl a12.length (a12.map AV.f32), AV.sl a13.length (a13.map AV.f32), AV.sl a14.length (a14.map AV.f32), AV.i64 a15, AV.i64 a16, AV.sl a17.length (a17.map AV.i64)]) rfl rfl (LOp.move rfl rfl) <|
        (TR.l (r := AV.ptr [AV.i64 a9, AV.i64 a10, AV.sl a11.length (a11.map AV.f32), AV.sl a12.length (a12.map AV.f32), AV.sl a13.length (a13.map AV.f32), AV.sl a14.length (a14.map AV.f32), AV.i64 a15, AV.i64 a16, AV.sl a17.length (a17.map AV.i64)]) rfl rfl (LOp.nilCheck_ptr rfl rfl) <|
        (TR.l (r := AV.ptr [AV.i64 a9, AV.i64 a10, AV.sl a11.length (a11.map AV.f32), AV.sl a12.length (a12.map AV.f32), AV.sl a13.length (a13.map AV.f32), AV.sl a14.length (a14.map AV.f32), AV.i64 a15, AV.i64 a16, AV.sl a17.length (a17.map AV.i64)]) rfl rfl (LOp.fap und40 rfl siz2 rfl rfl rfl) <|
        (TR.l (r := AV.i64 a9) rfl rfl (LOp.load1 agg2 rfl rfl) <|
        (TR.l (r := AV.b true) rfl rfl (LOp.eqb (LOp.eql rfl rfl rfl) hc1) <|
        (TR.l (r := AV.b true) rfl rfl (LOp.move rfl rfl) <|
        (TR.l (r := AV.ptr [AV.i64 a0, AV.i64 a1, AV.sl a2.length (a2.map AV.f32), AV.sl a3.length (a3.map AV.f32), AV.sl a4.length (a4.map AV.f32), AV.sl a5.length (a5.map AV.f32), AV.i64 a6, AV.i64 a7, AV.sl a8.length (a8.map AV.i64)]) rfl rfl (LOp.move rfl rfl) <|
        (TR.l (r := AV.ptr [AV.i64 a0, AV.i64 a1, AV.sl a2.length (a2.map AV.f32), AV.sl a3.length (a3.map AV.f32), AV.sl a4.length (a4.map AV.f32), AV.sl a5.length (a5.map AV.f32), AV.i64 a6, AV.i64 a7, AV.sl a8.length (a8.map AV.i64)]) rfl rfl (LOp.nilCheck_ptr rfl rfl) <|
        (TR.l (r := AV.ptr [AV.i64 a1, AV.sl a2.length (a2.map AV.f32), AV.sl a3.length (a3.map AV.f32), AV.sl a4.length (a4.map AV.f32), AV.sl a5.length (a5.map AV.f32), AV.i64 a6, AV.i64 a7, AV.sl a8.length (a8.map AV.i64)]) rfl rfl (LOp.fap und40 rfl siz2 rfl rfl rfl) <|
        (TR.l (r := AV.i64 a1) rfl rfl (LOp.load1 agg2 rfl rfl) <|
        (TR.l (r := AV.ptr [AV.i64 a9, AV.i64 a10, AV.sl a11.length (a11.map AV.f32), AV.sl a12.length (a12.map AV.f32), AV.sl a13.length (a13.map AV.f32), AV.sl a14.length (a14.map AV.f32), AV.i64 a15, AV.i64 a16, AV.sl a17.length (a17.map AV.i64)]) rfl rfl (LOp.move rfl rfl) <|
        (TR.l (r := AV.ptr [AV.i64 a9, AV.i64 a10, AV.sl a11.length (a11.map AV.f32), AV.sl a12.length (a12.map AV.f32), AV.sl a13.length (a13.map AV.f32), AV.sl a14.length (a14.map AV.f32), AV.i64 a15, AV.i64 a16, AV.sl a17.length (a17.map AV.i64)]) rfl rfl (LOp.nilCheck_ptr rfl rfl) <|
        (TR.l (r := AV.ptr [AV.i64 a10, AV.sl a11.length (a11.map AV.f32), AV.sl a12.length (a12.map AV.f32), AV.sl a13.length (a13.map AV.f32), AV.sl a14.length (a14.map AV.f32), AV.i64 a15, AV.i64 a16, AV.sl a17.length (a17.map AV.i64)]) rfl rfl (LOp.fap und40 rfl siz2 rfl rfl rfl) <|
        (TR.l (r := AV.i64 a10) rfl rfl (LOp.load1 agg2 rfl rfl) <|
        (TR.l (r := AV.b true) rfl rfl (LOp.eqb (LOp.eql rfl rfl rfl) hc2) <|
        (TR.l (r := AV.b true) rfl rfl (LOp.pick_true rfl rfl rfl) <|
        (TR.l (r := AV.b true) rfl rfl (LOp.move rfl rfl) <|
        (TR.l (r := AV.ptr [AV.i64 a0, AV.i64 a1, AV.sl a2.length (a2.map AV.f32), AV.sl a3.length (a3.map AV.f32), AV.sl a4.length (a4.map AV.f32), AV.sl a5.length (a5.map AV.f32), AV.i64 a6, AV.i64 a7, AV.sl a8.length (a8.map AV.i64)]) rfl rfl (LOp.move rfl rfl) <|
        (TR.l (r := AV.ptr [AV.i64 a0, AV.i64 a1, AV.sl a2.length (a2.map AV.f32), AV.sl a3.length (a3.map AV.f32), AV.sl a4.length (a4.map AV.f32), AV.sl a5.length (a5.map AV.f32), AV.i64 a6, AV.i64 a7, AV.sl a8.length (a8.map AV.i64)]) rfl rfl (LOp.nilCheck_ptr rfl rfl) <|
        (TR.l (r := AV.ptr [AV.sl a2.length (a2.map AV.f32), AV.sl a3.length (a3.map AV.f32), AV.sl a4.length (a4.map AV.f32), AV.sl a5.length (a5.map AV.f32), AV.i64 a6, AV.i64 a7, AV.sl a8.length (a8.map AV.i64)]) rfl rfl (LOp.fap und40 rfl siz38 rfl rfl rfl) <|
        (TR.l (r := AV.sl a2.length (a2.map AV.f32)) rfl rfl (LOp.load1 agg38 rfl rfl) <|
        (TR.l (r := AV.ptr [AV.i64 a9, AV.i64 a10, AV.sl a11.length (a11.map AV.f32), AV.sl a12.length (a12.map AV.f32), AV.sl a13.length (a13.map AV.f32), AV.sl a14.length (a14.map AV.f32), AV.i64 a15, AV.i64 a16, AV.sl a17.length (a17.map AV.i64)]) rfl rfl (LOp.move rfl rfl) <|
        (TR.l (r := AV.ptr [AV.i64 a9, AV.i64 a10, AV.sl a11.length (a11.map AV.f32), AV.sl a12.length (a12.map AV.f32), AV.sl a13.length (a13.map AV.f32), AV.sl a14.length (a14.map AV.f32), AV.i64 a15, AV.i64 a16, AV.sl a17.length (a17.map AV.i64)]) rfl rfl (LOp.nilCheck_ptr rfl rfl) <|
        (TR.l (r := AV.ptr [AV.sl a11.length (a11.map AV.f32), AV.sl a12.length (a12.map AV.f32), AV.sl a13.length (a13.map AV.f32), AV.sl a14.length (a14.map AV.f32), AV.i64 a15, AV.i64 a16, AV.sl a17.length (a17.map AV.i64)]) rfl rfl (LOp.fap und40 rfl siz38 rfl rfl rfl) <|
        (TR.l (r := AV.sl a11.length (a11.map AV.f32)) rfl rfl (LOp.load1 agg38 rfl rfl) <|
        (TR.d (r := AV.b r1) (fs := []) rfl rfl (TOp.callB (CallAs.func ent70 rfl rfl) (Bors.cons (Bor.sl (fun _ => rfl)) (Bors.cons (Bor.sl (fun _ => rfl)) Bors.nil)) rfl rfl (f70_ok a2 a11 r1 hf3)) <|
        (TR.l (r := AV.b r1) rfl rfl (LOp.pick_true rfl rfl rfl) <|
        (TR.l (r := AV.b r1) rfl rfl (LOp.assign rfl rfl) <|
        TR.nil)))))))))))))))))))))))))))))))) rfl (by kernel_rfl) rfl fills_nil rfl ?_
      iterate 32 refine ROps.dropS ?_
      refine ROps.drop0 ?_
      refine ROps.nil ?_
      refine RunC.ret ?_
      have hq := Option.some.inj h
      subst q0
      exact bodyQ.pure (.inr rfl) rfl (Res.one rfl (RV.tmp rfl))
    · refine RunC.region_draw (Γ' := []) 32 mixed 
        (TR.l (r := AV.ptr [AV.i64 a0, AV.i64 a1, AV.sl a2.length (a2.map AV.f32), AV.sl a3.length (a3.map AV.f32), AV.sl a4.length (a4.map AV.f32), AV.sl a5.length (a5.map AV.f32), AV.i64 a6, AV.i64 a7, AV.sl a8.length (a8.map AV.i64)]) rfl rfl (LOp.move rfl rfl) <|
        (TR.l (r := AV.ptr [AV.i64 a0, AV.i64 a1, AV.sl a2.length (a2.map AV.f32), AV.sl a3.length (a3.map AV.f32), AV.sl a4.length (a4.map AV.f32), AV.sl a5.length (a5.map AV.f32), AV.i64 a6, AV.i64 a7, AV.sl a8.length (a8.map AV.i64)]) rfl rfl (LOp.nilCheck_ptr rfl rfl) <|
        (TR.l (r := AV.ptr [AV.i64 a0, AV.i64 a1, AV.sl a2.length (a2.map AV.f32), AV.sl a3.length (a3.map AV.f32), AV.sl a4.length (a4.map AV.f32), AV.sl a5.length (a5.map AV.f32), AV.i64 a6, AV.i64 a7, AV.sl a8.length (a8.map AV.i64)]) rfl rfl (LOp.fap und40 rfl siz2 rfl rfl rfl) <|
        (TR.l (r := AV.i64 a0) rfl rfl (LOp.load1 agg2 rfl rfl) <|
        (TR.l (r := AV.ptr [AV.i64 a9, AV.i64 a10, AV.sl a11.length (a11.map AV.f32), AV.sl a12.length (a12.map AV.f32), AV.sl a13.length (a13.map AV.f32), AV.sl a14.length (a14.map AV.f32), AV.i64 a15, AV.i64 a16, AV.sl a17.length (a17.map AV.i64)]) rfl rfl (LOp.move rfl rfl) <|
        (TR.l (r := AV.ptr [AV.i64 a9, AV.i64 a10, AV.sl a11.length (a11.map AV.f32), AV.sl a12.length (a12.map AV.f32), AV.sl a13.length (a13.map AV.f32), AV.sl a14.length (a14.map AV.f32), AV.i64 a15, AV.i64 a16, AV.sl a17.length (a17.map AV.i64)]) rfl rfl (LOp.nilCheck_ptr rfl rfl) <|
        (TR.l (r := AV.ptr [AV.i64 a9, AV.i64 a10, AV.sl a11.length (a11.map AV.f32), AV.sl a12.length (a12.map AV.f32), AV.sl a13.length (a13.map AV.f32), AV.sl a14.length (a14.map AV.f32), AV.i64 a15, AV.i64 a16, AV.sl a17.length (a17.map AV.i64)]) rfl rfl (LOp.fap und40 rfl siz2 rfl rfl rfl) <|
        (TR.l (r := AV.i64 a9) rfl rfl (LOp.load1 agg2 rfl rfl) <|
        (TR.l (r := AV.b true) rfl rfl (LOp.eqb (LOp.eql rfl rfl rfl) hc1) <|
        (TR.l (r := AV.b true) rfl rfl (LOp.move rfl rfl) <|
        (TR.l (r := AV.ptr [AV.i64 a0, AV.i64 a1, AV.sl a2.length (a2.map AV.f32), AV.sl a3.length (a3.map AV.f32), AV.sl a4.length (a4.map AV.f32), AV.sl a5.length (a5.map AV.f32), AV.i64 a6, AV.i64 a7, AV.sl a8.length (a8.map AV.i64)]) rfl rfl (LOp.move rfl rfl) <|
        (TR.l (r := AV.ptr [AV.i64 a0, AV.i64 a1, AV.sl a2.length (a2.map AV.f32), AV.sl a3.length (a3.map AV.f32), AV.sl a4.length (a4.map AV.f32), AV.sl a5.length (a5.map AV.f32), AV.i64 a6, AV.i64 a7, AV.sl a8.length (a8.map AV.i64)]) rfl rfl (LOp.nilCheck_ptr rfl rfl) <|
        (TR.l (r := AV.ptr [AV.i64 a1, AV.sl a2.length (a2.map AV.f32), AV.sl a3.length (a3.map AV.f32), AV.sl a4.length (a4.map AV.f32), AV.sl a5.length (a5.map AV.f32), AV.i64 a6, AV.i64 a7, AV.sl a8.length (a8.map AV.i64)]) rfl rfl (LOp.fap und40 rfl siz2 rfl rfl rfl) <|
        (TR.l (r := AV.i64 a1) rfl rfl (LOp.load1 agg2 rfl rfl) <|
        (TR.l (r := AV.ptr [AV.i64 a9, AV.i64 a10, AV.sl a11.length (a11.map AV.f32), AV.sl a12.length (a12.map AV.f32), AV.sl a13.length (a13.map AV.f32), AV.sl a14.length (a14.map AV.f32), AV.i64 a15, AV.i64 a16, AV.sl a17.length (a17.map AV.i64)]) rfl rfl (LOp.move rfl rfl) <|
        (TR.l (r := AV.ptr [AV.i64 a9, AV.i64 a10, AV.sl a11.length (a11.map AV.f32), AV.sl a12.length (a12.map AV.f32), AV.sl a13.length (a13.map AV.f32), AV.sl a14.length (a14.map AV.f32), AV.i64 a15, AV.i64 a16, AV.sl a17.length (a17.map AV.i64)]) rfl rfl (LOp.nilCheck_ptr rfl rfl) <|
        (TR.l (r := AV.ptr [AV.i64 a10, AV.sl a11.length (a11.map AV.f32), AV.sl a12.length (a12.map AV.f32), AV.sl a13.length (a13.map AV.f32), AV.sl a14.length (a14.map AV.f32), AV.i64 a15, AV.i64 a16, AV.sl a17.length (a17.map AV.i64)]) rfl rfl (LOp.fap und40 rfl siz2 rfl rfl rfl) <|
        (TR.l (r := AV.i64 a10) rfl rfl (LOp.load1 agg2 rfl rfl) <|
        (TR.l (r := AV.b false) rfl rfl (LOp.eqb (LOp.eql rfl rfl rfl) hc2) <|
        (TR.l (r := AV.b false) rfl rfl (LOp.pick_true rfl rfl rfl) <|
        (TR.l (r := AV.b false) rfl rfl (LOp.move rfl rfl) <|
        (TR.s rfl rfl <|
        (TR.s rfl rfl <|
        (TR.s rfl rfl <|
        (TR.s rfl rfl <|
        (TR.s rfl rfl <|
        (TR.s rfl rfl <|
        (TR.s rfl rfl <|
        (TR.s rfl rfl <|
        (TR.s rfl rfl <|
        (TR.l (r := AV.b false) rfl rfl (LOp.pick_false rfl rfl rfl) <|
        (TR.l (r := AV.b false) rfl rfl (LOp.assign rfl rfl) <|
        TR.nil)))))))))))))))))))))))))))))))) rfl (by kernel_rfl) rfl fills_nil rfl ?_
      iterate 32 refine ROps.dropS ?_
      refine ROps.drop0 ?_
      refine ROps.nil ?_
      refine RunC.ret ?_
      have hq := Option.some.inj h
      subst q0
      exact bodyQ.pure (.inr rfl) rfl (Res.one rfl (RV.tmp rfl))
  · refine RunC.region_draw (Γ' := []) 32 mixed 
      (TR.l (r := AV.ptr [AV.i64 a0, AV.i64 a1, AV.sl a2.length (a2.map AV.f32), AV.sl a3.length (a3.map AV.f32), AV.sl a4.length (a4.map AV.f32), AV.sl a5.length (a5.map AV.f32), AV.i64 a6, AV.i64 a7, AV.sl a8.length (a8.map AV.i64)]) rfl rfl (LOp.move rfl rfl) <|
      (TR.l (r := AV.ptr [AV.i64 a0, AV.i64 a1, AV.sl a2.length (a2.map AV.f32), AV.sl a3.length (a3.map AV.f32), AV.sl a4.length (a4.map AV.f32), AV.sl a5.length (a5.map AV.f32), AV.i64 a6, AV.i64 a7, AV.sl a8.length (a8.map AV.i64)]) rfl rfl (LOp.nilCheck_ptr rfl rfl) <|
      (TR.l (r := AV.ptr [AV.i64 a0, AV.i64 a1, AV.sl a2.length (a2.map AV.f32), AV.sl a3.length (a3.map AV.f32), AV.sl a4.length (a4.map AV.f32), AV.sl a5.length (a5.map AV.f32), AV.i64 a6, AV.i64 a7, AV.sl a8.length (a8.map AV.i64)]) rfl rfl (LOp.fap und40 rfl siz2 rfl rfl rfl) <|
      (TR.l (r := AV.i64 a0) rfl rfl (LOp.load1 agg2 rfl rfl) <|
      (TR.l (r := AV.ptr [AV.i64 a9, AV.i64 a10, AV.sl a11.length (a11.map AV.f32), AV.sl a12.length (a12.map AV.f32), AV.sl a13.length (a13.map AV.f32), AV.sl a14.length (a14.map AV.f32), AV.i64 a15, AV.i64 a16, AV.sl a17.length (a17.map AV.i64)]) rfl rfl (LOp.move rfl rfl) <|
      (TR.l (r := AV.ptr [AV.i64 a9, AV.i64 a10, AV.sl a11.length (a11.map AV.f32), AV.sl a12.length (a12.map AV.f32), AV.sl a13.length (a13.map AV.f32), AV.sl a14.length (a14.map AV.f32), AV.i64 a15, AV.i64 a16, AV.sl a17.length (a17.map AV.i64)]) rfl rfl (LOp.nilCheck_ptr rfl rfl) <|
      (TR.l (r := AV.ptr [AV.i64 a9, AV.i64 a10, AV.sl a11.length (a11.map AV.f32), AV.sl a12.length (a12.map AV.f32), AV.sl a13.length (a13.map AV.f32), AV.sl a14.length (a14.map AV.f32), AV.i64 a15, AV.i64 a16, AV.sl a17.length (a17.map AV.i64)]) rfl rfl (LOp.fap und40 rfl siz2 rfl rfl rfl) <|
      (TR.l (r := AV.i64 a9) rfl rfl (LOp.load1 agg2 rfl rfl) <|
      (TR.l (r := AV.b false) rfl rfl (LOp.eqb (LOp.eql rfl rfl rfl) hc1) <|
      (TR.l (r := AV.b false) rfl rfl (LOp.move rfl rfl) <|
      (TR.s rfl rfl <|
      (TR.s rfl rfl <|
      (TR.s rfl rfl <|
      (TR.s rfl rfl <|
      (TR.s rfl rfl <|
      (TR.s rfl rfl <|
      (TR.s rfl rfl <|
      (TR.s rfl rfl <|
      (TR.s rfl rfl <|
      (TR.l (r := AV.b false) rfl rfl (LOp.pick_false rfl rfl rfl) <|
      (TR.l (r := AV.b false) rfl rfl (LOp.move rfl rfl) <|
      (TR.s rfl rfl <|
      (TR.s rfl rfl <|
      (TR.s rfl rfl <|
      (TR.s rfl rfl <|
      (TR.s rfl rfl <|
      (TR.s rfl rfl <|
      (TR.s rfl rfl <|
      (TR.s rfl rfl <|
      (TR.s rfl rfl <|
      (TR.l (r := AV.b false) rfl rfl (LOp.pick_false rfl rfl rfl) <|
      (TR.l (r := AV.b false) rfl rfl (LOp.assign rfl rfl) <|
      TR.nil)))))))))))))))))))))))))))))))) rfl (by kernel_rfl) rfl fills_nil rfl ?_
    iterate 32 refine ROps.dropS ?_
    refine ROps.drop0 ?_
    refine ROps.nil ?_
    refine RunC.ret ?_
    have hq := Option.some.inj h
    subst q0
    exact bodyQ.pure (.inr rfl) rfl (Res.one rfl (RV.tmp rfl))
noncomputable def f71 (a0 : List F) (a1 : List F) (a2 : Int) (a3 : Int) (a4 : List Int) (a5 : List F) (a6 : List F) (a7 : Int) (a8 : Int) (a9 : List Int) : Option (Bool) :=
  obind (f70 a0 a5) fun (r1 : Bool) =>
  bsel r1 (
    obind (f70 a1 a6) fun (r2 : Bool) =>
    some r2) (
    some false)
theorem f71_ok (a0 : List F) (a1 : List F) (a2 : Int) (a3 : Int) (a4 : List Int) (a5 : List F) (a6 : List F) (a7 : Int) (a8 : Int) (a9 : List Int) (q0 : Bool) (h : f71 a0 a1 a2 a3 a4 a5 a6 a7 a8 a9 = some q0) : Ev Try.prog 71 [AV.ptr [AV.sl a0.length (a0.map AV.f32), AV.sl a1.length (a1.map AV.f32), AV.i64 a2, AV.i64 a3, AV.sl a4.length (a4.map AV.i64)], AV.ptr [AV.sl a5.length (a5.map AV.f32), AV.sl a6.length (a6.map AV.f32), AV.i64 a7, AV.i64 a8, AV.sl a9.length (a9.map AV.i64)]] [] (AV.b q0) [] := by
  refine Ev.start Try.func71 rfl rfl 0 (τ := [(0, AV.ptr [AV.sl a0.length (a0.map AV.f32), AV.sl a1.length (a1.map AV.f32), AV.i64 a2, AV.i64 a3, AV.sl a4.length (a4.map AV.i64)]), (1, AV.ptr [AV.sl a5.length (a5.map AV.f32), AV.sl a6.length (a6.map AV.f32), AV.i64 a7, AV.i64 a8, AV.sl a9.length (a9.map AV.i64)])]) rfl (Γ' := []) rfl (n := 25) rfl (g := 0) rfl ?_
  unfold f71 at h
  refine RunC.seq ?_
  refine RunC.regionW ?_
  refine ROps.l (r := AV.b false) rfl rfl rfl (LOp.assign rfl rfl) ?_
  refine ROps.nil ?_
  refine RunC.seq ?_
  obtain ⟨r1, hf1, h⟩ := obind_some h
  rcases bsel_some h with ⟨hc2, h⟩ | ⟨hc2, h⟩
  · obtain ⟨r2, hf3, h⟩ := obind_some h
    refine RunC.region_draw (Γ' := []) 21 mixed 
      (TR.l (r := AV.ptr [AV.sl a0.length (a0.map AV.f32), AV.sl a1.length (a1.map AV.f32), AV.i64 a2, AV.i64 a3, AV.sl a4.length (a4.map AV.i64)]) rfl rfl (LOp.move rfl rfl) <|
      (TR.l (r := AV.ptr [AV.sl a0.length (a0.map AV.f32), AV.sl a1.length (a1.map AV.f32), AV.i64 a2, AV.i64 a3, AV.sl a4.length (a4.map AV.i64)]) rfl rfl (LOp.nilCheck_ptr rfl rfl) <|
      (TR.l (r := AV.ptr [AV.sl a0.length (a0.map AV.f32), AV.sl a1.length (a1.map AV.f32), AV.i64 a2, AV.i64 a3, AV.sl a4.length (a4.map AV.i64)]) rfl rfl (LOp.fap und42 rfl siz38 rfl rfl rfl) <|
      (TR.l (r := AV.sl a0.length (a0.map AV.f32)) rfl rfl (LOp.load1 agg38 rfl rfl) <|
      (TR.l (r := AV.ptr [AV.sl a5.length (a5.map AV.f32), AV.sl a6.length (a6.map AV.f32), AV.i64 a7, AV.i64 a8, AV.sl a9.length (a9.map AV.i64)]) rfl rfl (LOp.move rfl rfl) <|
      (TR.l (r := AV.ptr [AV.sl a5.length (a5.map AV.f32), AV.sl a6.length (a6.map AV.f32), AV.i64 a7, AV.i64 a8, AV.sl a9.length (a9.map AV.i64)]) rfl rfl (LOp.nilCheck_ptr rfl rfl) <|
      (TR.l (r := AV.ptr [AV.sl a5.length (a5.map AV.f32), AV.sl a6.length (a6.map AV.f32), AV.i64 a7, AV.i64 a8, AV.sl a9.length (a9.map AV.i64)]) rfl rfl (LOp.fap und42 rfl siz38 rfl rfl rfl) <|
      (TR.l (r := AV.sl a5.length (a5.map AV.f32)) rfl rfl (LOp.load1 agg38 rfl rfl) <|
      (TR.d (r := AV.b true) (fs := []) rfl rfl (TOp.eqb (TOp.callB (CallAs.func ent70 rfl rfl) (Bors.cons (Bor.sl (fun _ => rfl)) (Bors.cons (Bor.sl (fun _ => rfl)) Bors.nil)) rfl rfl (f70_ok a0 a5 r1 hf1)) hc2) <|
      (TR.l (r := AV.b true) rfl rfl (LOp.move rfl rfl) <|
      (TR.l (r := AV.ptr [AV.sl a0.length (a0.map AV.f32), AV.sl a1.length (a1.map AV.f32), AV.i64 a2, AV.i64 a3, AV.sl a4.length (a4.map AV.i64)]) rfl rfl (LOp.move rfl rfl) <|
      (TR.l (r := AV.ptr [AV.sl a0.length (a0.map AV.f32), AV.sl a1.length (a1.map AV.f32), AV.i64 a2, AV.i64 a3, AV.sl a4.length (a4.map AV.i64)]) rfl rfl (LOp.nilCheck_ptr rfl rfl) <|
      (TR.l (r := AV.ptr [AV.sl a1.length (a1.map AV.f32), AV.i64 a2, AV.i64 a3, AV.sl a4.length (a4.map AV.i64)]) rfl rfl (LOp.fap und42 rfl siz38 rfl rfl rfl) <|
      (TR.l (r := AV.sl a1.length (a1.map AV.f32)) rfl rfl (LOp.load1 agg38 rfl rfl) <|
      (TR.l (r := AV.ptr [AV.sl a5.length (a5.map AV.f32), AV.sl a6.length (a6.map AV.f32), AV.i64 a7, AV.i64 a8, AV.sl a9.length (a9.map AV.i64)]) rfl rfl (LOp.move rfl rfl) <|
      (TR.l (r := AV.ptr [AV.sl a5.length (a5.map AV.f32), AV.sl a6.length (a6.map AV.f32), AV.i64 a7, AV.i64 a8, AV.sl a9.length (a9.map AV.i64)]) rfl rfl (LOp.nilCheck_ptr rfl rfl) <|
      (TR.l (r := AV.ptr [AV.sl a6.length (a6.map AV.f32), AV.i64 a7, AV.i64 a8, AV.sl a9.length (a9.map AV.i64)]) rfl rfl (LOp.fap und42 rfl siz38 rfl rfl rfl) <|
      (TR.l (r := AV.sl a6.length (a6.map AV.f32)) rfl rfl (LOp.load1 agg38 rfl rfl) <|
      (TR.d (r := AV.b r2) (fs := []) rfl rfl (TOp.callB (CallAs.func ent70 rfl rfl) (Bors.cons (Bor.sl (fun _ => rfl)) (Bors.cons (Bor.sl (fun _ => rfl)) Bors.nil)) rfl rfl (f70_ok a1 a6 r2 hf3)) <|
      (TR.l (r := AV.b r2) rfl rfl (LOp.pick_true rfl rfl rfl) <|
      (TR.l (r := AV.b r2) rfl rfl (LOp.assign rfl rfl) <|
      TR.nil))))))))))))))))))))) rfl (by kernel_rfl) rfl fills_nil rfl ?_
    iterate 21 refine ROps.dropS ?_
    refine ROps.drop0 ?_
    refine ROps.nil ?_
    refine RunC.ret ?_
    have hq := Option.some.inj h
    subst q0
    exact bodyQ.pure (.inr rfl) rfl (Res.one rfl (RV.tmp rfl))
  · refine RunC.region_draw (Γ' := []) 21 mixed 
      (TR.l (r := AV.ptr [AV.sl a0.length (a0.map AV.f32), AV.sl a1.length (a1.map AV.f32), AV.i64 a2, AV.i64 a3, AV.sl a4.length (a4.map AV.i64)]) rfl rfl (LOp.move rfl rfl) <|
      (TR.l (r := AV.ptr [AV.sl a0.length (a0.map AV.f32), AV.sl a1.length (a1.map AV.f32), AV.i64 a2, AV.i64 a3, AV.sl a4.length (a4.map AV.i64)]) rfl rfl (LOp.nilCheck_ptr rfl rfl) <|
      (TR.l (r := AV.ptr [AV.sl a0.length (a0.map AV.f32), AV.sl a1.length (a1.map AV.f32), AV.i64 a2, AV.i64 a3, AV.sl a4.length (a4.map AV.i64)]) rfl rfl (LOp.fap und42 rfl siz38 rfl rfl rfl) <|
      (TR.l (r := AV.sl a0.length (a0.map AV.f32)) rfl rfl (LOp.load1 agg38 rfl rfl) <|
      (TR.l (r := AV.ptr [AV.sl a5.length (a5.map AV.f32), AV.sl a6.length (a6.map AV.f32), AV.i64 a7, AV.i64 a8, AV.sl a9.length (a9.map AV.i64)]) rfl rfl (LOp.move rfl rfl) <|
      (TR.l (r := AV.ptr [AV.sl a5.length (a5.map AV.f32), AV.sl a6.length (a6.map AV.f32), AV.i64 a7, AV.i64 a8, AV.sl a9.length (a9.map AV.i64)]) rfl rfl (LOp.nilCheck_ptr rfl rfl) <|
      (TR.l (r := AV.ptr [AV.sl a5.length (a5.map AV.f32), AV.sl a6.length (a6.map AV.f32), AV.i64 a7, AV.i64 a8, AV.sl a9.length (a9.map AV.i64)]) rfl rfl (LOp.fap und42 rfl siz38 rfl rfl rfl) <|
      (TR.l (r := AV.sl a5.length (a5.map AV.f32)) rfl rfl (LOp.load1 agg38 rfl rfl) <|
      (TR.d (r := AV.b false) (fs := []) rfl rfl (TOp.eqb (TOp.callB (CallAs.func ent70 rfl rfl) (Bors.cons (Bor.sl (fun _ => rfl)) (Bors.cons (Bor.sl (fun _ => rfl)) Bors.nil)) rfl rfl (f70_ok a0 a5 r1 hf1)) hc2) <|
      (TR.l (r := AV.b false) rfl rfl (LOp.move rfl rfl) <|
      (TR.s rfl rfl <|
      (TR.s rfl rfl <|
      (TR.s rfl rfl <|
      (TR.s rfl rfl <|
      (TR.s rfl rfl <|
      (TR.s rfl rfl <|
      (TR.s rfl rfl <|
      (TR.s rfl rfl <|
      (TR.s rfl rfl <|
      (TR.l (r := AV.b false) rfl rfl (LOp.pick_false rfl rfl rfl) <|
      (TR.l (r := AV.b false) rfl rfl (LOp.assign rfl rfl) <|
      TR.nil))))))))))))))))))))) rfl (by kernel_rfl) rfl fills_nil rfl ?_
    iterate 21 refine ROps.dropS ?_
    refine ROps.drop0 ?_
    refine ROps.nil ?_
    refine RunC.ret ?_
    have hq := Option.some.inj h
    subst q0
    exact bodyQ.pure (.inr rfl) rfl (Res.one rfl (RV.tmp rfl))
noncomputable def f72_b1 (a2 : List Int) (a5 : List Int) (v1 : Int) : Option (LR (Int) (Unit) (Bool)) :=
  bsel (decide (v1 < (a2.length : Int))) (
    obind (at? a2 v1) fun (e2 : Int) =>
    obind (at? a5 v1) fun (e3 : Int) =>
    bsel (!decide (e2 = e3)) (
      some (LR.ret false)) (
      olet (IntKind.i64.wrap (v1 + 1)) fun (x4 : Int) =>
      some (LR.next x4))) (
    some (LR.out ()))
noncomputable def f72_s1 (a2 : List Int) (a5 : List Int) : (Int) → Option (LR (Int) (Unit) (Bool)) := fun s => f72_b1 a2 a5 s
noncomputable def f72_k1  : Option (Bool) :=
  some true
noncomputable def f72 (a0 : Int) (a1 : Int) (a2 : List Int) (a3 : Int) (a4 : Int) (a5 : List Int) : Option (Bool) :=
  bsel (!decide (a0 = a3)) (
    some false) (
    bsel (!decide (a1 = a4)) (
      some false) (
      bsel (!decide ((a2.length : Int) = (a5.length : Int))) (
        some false) (
        obind (loopM (f72_s1 a2 a5) 0) fun z => osum z (fun _ => f72_k1) (fun r => some r))))
theorem f72_ok (a0 : Int) (a1 : Int) (a2 : List Int) (a3 : Int) (a4 : Int) (a5 : List Int) (q0 : Bool) (h : f72 a0 a1 a2 a3 a4 a5 = some q0) : Ev Try.prog 72 [AV.ptr [AV.i64 a0, AV.i64 a1, AV.sl a2.length (a2.map AV.i64)], AV.ptr [AV.i64 a3, AV.i64 a4, AV.sl a5.length (a5.map AV.i64)]] [] (AV.b q0) [] := by
  refine Ev.start Try.func72 rfl rfl 0 (τ := [(0, AV.ptr [AV.i64 a0, AV.i64 a1, AV.sl a2.length (a2.map AV.i64)]), (1, AV.ptr [AV.i64 a3, AV.i64 a4, AV.sl a5.length (a5.map AV.i64)])]) rfl (Γ' := []) rfl (n := 63) rfl (g := 0) rfl ?_
  unfold f72 at h
  refine RunC.seq ?_
  refine RunC.regionW ?_
  refine ROps.l (r := AV.b false) rfl rfl rfl (LOp.assign rfl rfl) ?_
  refine ROps.nil ?_
  refine RunC.seq ?_
  refine RunC.seq ?_
  rcases bsel_some h with ⟨hc1, h⟩ | ⟨hc1, h⟩
  · refine RunC.region_draw (Γ' := []) 33 mixed 
      (TR.l (r := AV.ptr [AV.i64 a0, AV.i64 a1, AV.sl a2.length (a2.map AV.i64)]) rfl rfl (LOp.move rfl rfl) <|
      (TR.l (r := AV.ptr [AV.i64 a0, AV.i64 a1, AV.sl a2.length (a2.map AV.i64)]) rfl rfl (LOp.nilCheck_ptr rfl rfl) <|
      (TR.l (r := AV.ptr [AV.i64 a0, AV.i64 a1, AV.sl a2.length (a2.map AV.i64)]) rfl rfl (LOp.fap und45 rfl siz2 rfl rfl rfl) <|
      (TR.l (r := AV.i64 a0) rfl rfl (LOp.load1 agg2 rfl rfl) <|
      (TR.l (r := AV.ptr [AV.i64 a3, AV.i64 a4, AV.sl a5.length (a5.map AV.i64)]) rfl rfl (LOp.move rfl rfl) <|
      (TR.l (r := AV.ptr [AV.i64 a3, AV.i64 a4, AV.sl a5.length (a5.map AV.i64)]) rfl rfl (LOp.nilCheck_ptr rfl rfl) <|
      (TR.l (r := AV.ptr [AV.i64 a3, AV.i64 a4, AV.sl a5.length (a5.map AV.i64)]) rfl rfl (LOp.fap und45 rfl siz2 rfl rfl rfl) <|
      (TR.l (r := AV.i64 a3) rfl rfl (LOp.load1 agg2 rfl rfl) <|
      (TR.l (r := AV.b true) rfl rfl (LOp.eqb (LOp.neq rfl rfl rfl) hc1) <|
      (TR.l (r := AV.b true) rfl rfl (LOp.move rfl rfl) <|
      (TR.s rfl rfl <|
      (TR.s rfl rfl <|
      (TR.s rfl rfl <|
      (TR.s rfl rfl <|
      (TR.s rfl rfl <|
      (TR.s rfl rfl <|
      (TR.s rfl rfl <|
      (TR.s rfl rfl <|
      (TR.s rfl rfl <|
      (TR.l (r := AV.b true) rfl rfl (LOp.pick_true rfl rfl rfl) <|
      (TR.l (r := AV.b true) rfl rfl (LOp.move rfl rfl) <|
      (TR.s rfl rfl <|
      (TR.s rfl rfl <|
      (TR.s rfl rfl <|
      (TR.s rfl rfl <|
      (TR.s rfl rfl <|
      (TR.s rfl rfl <|
      (TR.s rfl rfl <|
      (TR.s rfl rfl <|
      (TR.s rfl rfl <|
      (TR.s rfl rfl <|
      (TR.s rfl rfl <|
      (TR.l (r := AV.b true) rfl rfl (LOp.pick_true rfl rfl rfl) <|
      TR.nil))))))))))))))))))))))))))))))))) rfl (by kernel_rfl) rfl fills_nil rfl ?_
    iterate 33 refine ROps.dropS ?_
    refine ROps.drop0 ?_
    refine ROps.nil ?_
    refine RunC.wl (τ' := [(0, AV.ptr [AV.i64 a0, AV.i64 a1, AV.sl a2.length (a2.map AV.i64)]), (1, AV.ptr [AV.i64 a3, AV.i64 a4, AV.sl a5.length (a5.map AV.i64)]), (38, AV.b true)]) (Γ' := []) ⟨(ALe.refl _), (ALe.refl _), (ALe.refl _), trivial⟩ trivial ?_
    refine RunC.cond_true rfl rfl ?_
    refine RunC.seq ?_
    refine RunC.regionW ?_
    refine ROps.l (r := AV.b false) rfl rfl rfl (LOp.assign rfl rfl) ?_
    refine ROps.nil ?_
    refine RunC.ret ?_
    have hq := Option.some.inj h
    subst q0
    exact bodyQ.pure (.inr rfl) rfl (Res.one rfl (RV.tmp rfl))
  · rcases bsel_some h with ⟨hc2, h⟩ | ⟨hc2, h⟩
    · refine RunC.region_draw (Γ' := []) 33 mixed 
        (TR.l (r := AV.ptr [AV.i64 a0, AV.i64 a1, AV.sl a2.length (a2.map AV.i64)]) rfl rfl (LOp.move rfl rfl) <|
        (TR.l (r := AV.ptr [AV.i64 a0, AV.i64 a1, AV.sl a2.length (a2.map AV.i64)]) rfl rfl (LOp.nilCheck_ptr rfl rfl) <|
        (TR.l (r := AV.ptr [AV.i64 a0, AV.i64 a1, AV.sl a2.length (a2.map AV.i64)]) rfl rfl (LOp.fap und45 rfl siz2 rfl rfl rfl) <|
        (TR.l (r := AV.i64 a0) rfl rfl (LOp.load1 agg2 rfl rfl) <|
        (TR.l (r := AV.ptr [AV.i64 a3, AV.i64 a4, AV.sl a5.length (a5.map AV.i64)]) rfl rfl (LOp.move rfl rfl) <|
        (TR.l (r := AV.ptr [AV.i64 a3, AV.i64 a4, AV.sl a5.length (a5.map AV.i64)]) rfl rfl (LOp.nilCheck_ptr rfl rfl) <|
        (TR.l (r := AV.ptr [AV.i64 a3, AV.i64 a4, AV.sl a5.length (a5.map AV.i64)]) rfl rfl (LOp.fap und45 rfl siz2 rfl rfl rfl) <|
        (TR.l (r := AV.i64 a3) rfl rfl (LOp.load1 agg2 rfl rfl) <|
        (TR.l (r := AV.b false) rfl rfl (LOp.eqb (LOp.neq rfl rfl rfl) hc1) <|
        (TR.l (r := AV.b false) rfl rfl (LOp.move rfl rfl) <|
        (TR.l (r := AV.ptr [AV.i64 a0, AV.i64 a1, AV.sl a2.length (a2.map AV.i64)]) rfl rfl (LOp.move rfl rfl) <|
        (TR.l (r := AV.ptr [AV.i64 a0, AV.i64 a1, AV.sl a2.length (a2.map AV.i64)]) rfl rfl (LOp.nilCheck_ptr rfl rfl) <|
        (TR.l (r := AV.ptr [AV.i64 a1, AV.sl a2.length (a2.map AV.i64)]) rfl rfl (LOp.fap und45 rfl siz2 rfl rfl rfl) <|
        (TR.l (r := AV.i64 a1) rfl rfl (LOp.load1 agg2 rfl rfl) <|
        (TR.l (r := AV.ptr [AV.i64 a3, AV.i64 a4, AV.sl a5.length (a5.map AV.i64)]) rfl rfl (LOp.move rfl rfl) <|
        (TR.l (r := AV.ptr [AV.i64 a3, AV.i64 a4, AV.sl a5.length (a5.map AV.i64)]) rfl rfl (LOp.nilCheck_ptr rfl rfl) <|
        (TR.l (r := AV.ptr [AV.i64 a4, AV.sl a5.length (a5.map AV.i64)]) rfl rfl (LOp.fap und45 rfl siz2 rfl rfl rfl) <|
        (TR.l (r := AV.i64 a4) rfl rfl (LOp.load1 agg2 rfl rfl) <|
        (TR.l (r := AV.b true) rfl rfl (LOp.eqb (LOp.neq rfl rfl rfl) hc2) <|
        (TR.l (r := AV.b true) rfl rfl (LOp.pick_false rfl rfl rfl) <|
        (TR.l (r := AV.b true) rfl rfl (LOp.move rfl rfl) <|
        (TR.s rfl rfl <|
        (TR.s rfl rfl <|
        (TR.s rfl rfl <|
        (TR.s rfl rfl <|
        (TR.s rfl rfl <|
        (TR.s rfl rfl <|
        (TR.s rfl rfl <|
        (TR.s rfl rfl <|
        (TR.s rfl rfl <|
        (TR.s rfl rfl <|
        (TR.s rfl rfl <|
        (TR.l (r := AV.b true) rfl rfl (LOp.pick_true rfl rfl rfl) <|
        TR.nil))))))))))))))))))))))))))))))))) rfl (by kernel_rfl) rfl fills_nil rfl ?_
      iterate 33 refine ROps.dropS ?_
      refine ROps.drop0 ?_
      refine ROps.nil ?_
      refine RunC.wl (τ' := [(0, AV.ptr [AV.i64 a0, AV.i64 a1, AV.sl a2.length (a2.map AV.i64)]), (1, AV.ptr [AV.i64 a3, AV.i64 a4, AV.sl a5.length (a5.map AV.i64)]), (38, AV.b true)]) (Γ' := []) ⟨(ALe.refl _), (ALe.refl _), (ALe.refl _), trivial⟩ trivial ?_
      refine RunC.cond_true rfl rfl ?_
      refine RunC.seq ?_
      refine RunC.regionW ?_
      refine ROps.l (r := AV.b false) rfl rfl rfl (LOp.assign rfl rfl) ?_
      refine ROps.nil ?_
      refine RunC.ret ?_
      have hq := Option.some.inj h
      subst q0
      exact bodyQ.pure (.inr rfl) rfl (Res.one rfl (RV.tmp rfl))
    · rcases bsel_some h with ⟨hc3, h⟩ | ⟨hc3, h⟩
      · refine RunC.region_draw (Γ' := []) 33 mixed 
          (TR.l (r := AV.ptr [AV.i64 a0, AV.i64 a1, AV.sl a2.length (a2.map AV.i64)]) rfl rfl (LOp.move rfl rfl) <|
          (TR.l (r := AV.ptr [AV.i64 a0, AV.i64 a1, AV.sl a2.length (a2.map AV.i64)]) rfl rfl (LOp.nilCheck_ptr rfl rfl) <|
          (TR.l (r := AV.ptr [AV.i64 a0, AV.i64 a1, AV.sl a2.length (a2.map AV.i64)]) rfl rfl (LOp.fap und45 rfl siz2 rfl rfl rfl) <|
          (TR.l (r := AV.i64 a0) rfl rfl (LOp.load1 agg2 rfl rfl) <|
          (TR.l (r := AV.ptr [AV.i64 a3, AV.i64 a4, AV.sl a5.length (a5.map AV.i64)]) rfl rfl (LOp.move rfl rfl) <|
          (TR.l (r := AV.ptr [AV.i64 a3, AV.i64 a4, AV.sl a5.length (a5.map AV.i64)]) rfl rfl (LOp.nilCheck_ptr rfl rfl) <|
          (TR.l (r := AV.ptr [AV.i64 a3, AV.i64 a4, AV.sl a5.length (a5.map AV.i64)]) rfl rfl (LOp.fap und45 rfl siz2 rfl rfl rfl) <|
          (TR.l (r := AV.i64 a3) rfl rfl (LOp.load1 agg2 rfl rfl) <|
          (TR.l (r := AV.b false) rfl rfl (LOp.eqb (LOp.neq rfl rfl rfl) hc1) <|
          (TR.l (r := AV.b false) rfl rfl (LOp.move rfl rfl) <|
          (TR.l (r := AV.ptr [AV.i64 a0, AV.i64 a1, AV.sl a2.length (a2.map AV.i64)]) rfl rfl (LOp.move rfl rfl) <|
          (TR.l (r := AV.ptr [AV.i64 a0, AV.i64 a1, AV.sl a2.length (a2.map AV.i64)]) rfl rfl (LOp.nilCheck_ptr rfl rfl) <|
          (TR.l (r := AV.ptr [AV.i64 a1, AV.sl a2.length (a2.map AV.i64)]) rfl rfl (LOp.fap und45 rfl siz2 rfl rfl rfl) <|
          (TR.l (r := AV.i64 a1) rfl rfl (LOp.load1 agg2 rfl rfl) <|
          (TR.l (r := AV.ptr [AV.i64 a3, AV.i64 a4, AV.sl a5.length (a5.map AV.i64)]) rfl rfl (LOp.move rfl rfl) <|
          (TR.l (r := AV.ptr [AV.i64 a3, AV.i64 a4, AV.sl a5.length (a5.map AV.i64)]) rfl rfl (LOp.nilCheck_ptr rfl rfl) <|
          (TR.l (r := AV.ptr [AV.i64 a4, AV.sl a5.length (a5.map AV.i64)]) rfl rfl (LOp.fap und45 rfl siz2 rfl rfl rfl) <|
          (TR.l (r := AV.i64 a4) rfl rfl (LOp.load1 agg2 rfl rfl) <|
          (TR.l (r := AV.b false) rfl rfl (LOp.eqb (LOp.neq rfl rfl rfl) hc2) <|
          (TR.l (r := AV.b false) rfl rfl (LOp.pick_false rfl rfl rfl) <|
          (TR.l (r := AV.b false) rfl rfl (LOp.move rfl rfl) <|
          (TR.l (r := AV.ptr [AV.i64 a0, AV.i64 a1, AV.sl a2.length (a2.map AV.i64)]) rfl rfl (LOp.move rfl rfl) <|
          (TR.l (r := AV.ptr [AV.i64 a0, AV.i64 a1, AV.sl a2.length (a2.map AV.i64)]) rfl rfl (LOp.nilCheck_ptr rfl rfl) <|
          (TR.l (r := AV.ptr [AV.sl a2.length (a2.map AV.i64)]) rfl rfl (LOp.fap und45 rfl siz43 rfl rfl rfl) <|
          (TR.l (r := AV.sl a2.length (a2.map AV.i64)) rfl rfl (LOp.load1 agg43 rfl rfl) <|
          (TR.l (r := AV.i64 (a2.length : Int)) rfl rfl (LOp.len_sl und43 rfl rfl) <|
          (TR.l (r := AV.ptr [AV.i64 a3, AV.i64 a4, AV.sl a5.length (a5.map AV.i64)]) rfl rfl (LOp.move rfl rfl) <|
          (TR.l (r := AV.ptr [AV.i64 a3, AV.i64 a4, AV.sl a5.length (a5.map AV.i64)]) rfl rfl (LOp.nilCheck_ptr rfl rfl) <|
          (TR.l (r := AV.ptr [AV.sl a5.length (a5.map AV.i64)]) rfl rfl (LOp.fap und45 rfl siz43 rfl rfl rfl) <|
          (TR.l (r := AV.sl a5.length (a5.map AV.i64)) rfl rfl (LOp.load1 agg43 rfl rfl) <|
          (TR.l (r := AV.i64 (a5.length : Int)) rfl rfl (LOp.len_sl und43 rfl rfl) <|
          (TR.l (r := AV.b true) rfl rfl (LOp.eqb (LOp.neq rfl rfl rfl) hc3) <|
          (TR.l (r := AV.b true) rfl rfl (LOp.pick_false rfl rfl rfl) <|
          TR.nil))))))))))))))))))))))))))))))))) rfl (by kernel_rfl) rfl fills_nil rfl ?_
        iterate 33 refine ROps.dropS ?_
        refine ROps.drop0 ?_
        refine ROps.nil ?_
        refine RunC.wl (τ' := [(0, AV.ptr [AV.i64 a0, AV.i64 a1, AV.sl a2.length (a2.map AV.i64)]), (1, AV.ptr [AV.i64 a3, AV.i64 a4, AV.sl a5.length (a5.map AV.i64)]), (38, AV.b true)]) (Γ' := []) ⟨(ALe.refl _), (ALe.refl _), (ALe.refl _), trivial⟩ trivial ?_
        refine RunC.cond_true rfl rfl ?_
        refine RunC.seq ?_
        refine RunC.regionW ?_
        refine ROps.l (r := AV.b false) rfl rfl rfl (LOp.assign rfl rfl) ?_
        refine ROps.nil ?_
        refine RunC.ret ?_
        have hq := Option.some.inj h
        subst q0
        exact bodyQ.pure (.inr rfl) rfl (Res.one rfl (RV.tmp rfl))
      · refine RunC.region_draw (Γ' := []) 33 mixed 
          (TR.l (r := AV.ptr [AV.i64 a0, AV.i64 a1, AV.sl a2.length (a2.map AV.i64)]) rfl rfl (LOp.move rfl rfl) <|
          (TR.l (r := AV.ptr [AV.i64 a0, AV.i64 a1, AV.sl a2.length (a2.map AV.i64)]) rfl rfl (LOp.nilCheck_ptr rfl rfl) <|
          (TR.l (r := AV.ptr [AV.i64 a0, AV.i64 a1, AV.sl a2.length (a2.map AV.i64)]) rfl rfl (LOp.fap und45 rfl siz2 rfl rfl rfl) <|
          (TR.l (r := AV.i64 a0) rfl rfl (LOp.load1 agg2 rfl rfl) <|
          (TR.l (r := AV.ptr [AV.i64 a3, AV.i64 a4, AV.sl a5.length (a5.map AV.i64)]) rfl rfl (LOp.move rfl rfl) <|
          (TR.l (r := AV.ptr [AV.i64 a3, AV.i64 a4, AV.sl a5.length (a5.map AV.i64)]) rfl rfl (LOp.nilCheck_ptr rfl rfl) <|
          (TR.l (r := AV.ptr [AV.i64 a3, AV.i64 a4, AV.sl a5.length (a5.map AV.i64)]) rfl rfl (LOp.fap und45 rfl siz2 rfl rfl rfl) <|
          (TR.l (r := AV.i64 a3) rfl rfl (LOp.load1 agg2 rfl rfl) <|
          (TR.l (r := AV.b false) rfl rfl (LOp.eqb (LOp.neq rfl rfl rfl) hc1) <|
          (TR.l (r := AV.b false) rfl rfl (LOp.move rfl rfl) <|
          (TR.l (r := AV.ptr [AV.i64 a0, AV.i64 a1, AV.sl a2.length (a2.map AV.i64)]) rfl rfl (LOp.move rfl rfl) <|
          (TR.l (r := AV.ptr [AV.i64 a0, AV.i64 a1, AV.sl a2.length (a2.map AV.i64)]) rfl rfl (LOp.nilCheck_ptr rfl rfl) <|
          (TR.l (r := AV.ptr [AV.i64 a1, AV.sl a2.length (a2.map AV.i64)]) rfl rfl (LOp.fap und45 rfl siz2 rfl rfl rfl) <|
          (TR.l (r := AV.i64 a1) rfl rfl (LOp.load1 agg2 rfl rfl) <|
          (TR.l (r := AV.ptr [AV.i64 a3, AV.i64 a4, AV.sl a5.length (a5.map AV.i64)]) rfl rfl (LOp.move rfl rfl) <|
          (TR.l (r := AV.ptr [AV.i64 a3, AV.i64 a4, AV.sl a5.length (a5.map AV.i64)]) rfl rfl (LOp.nilCheck_ptr rfl rfl) <|
          (TR.l (r := AV.ptr [AV.i64 a4, AV.sl a5.length (a5.map AV.i64)]) rfl rfl (LOp.fap und45 rfl siz2 rfl rfl rfl) <|
          (TR.l (r := AV.i64 a4) rfl rfl (LOp.load1 agg2 rfl rfl) <|
          (TR.l (r := AV.b false) rfl rfl (LOp.eqb (LOp.neq rfl rfl rfl) hc2) <|
          (TR.l (r := AV.b false) rfl rfl (LOp.pick_false rfl rfl rfl) <|
          (TR.l (r := AV.b false) rfl rfl (LOp.move rfl rfl) <|
          (TR.l (r := AV.ptr [AV.i64 a0, AV.i64 a1, AV.sl a2.length (a2.map AV.i64)]) rfl rfl (LOp.move rfl rfl) <|
          (TR.l (r := AV.ptr [AV.i64 a0, AV.i64 a1, AV.sl a2.length (a2.map AV.i64)]) rfl rfl (LOp.nilCheck_ptr rfl rfl) <|
          (TR.l (r := AV.ptr [AV.sl a2.length (a2.map AV.i64)]) rfl rfl (LOp.fap und45 rfl siz43 rfl rfl rfl) <|
          (TR.l (r := AV.sl a2.length (a2.map AV.i64)) rfl rfl (LOp.load1 agg43 rfl rfl) <|
          (TR.l (r := AV.i64 (a2.length : Int)) rfl rfl (LOp.len_sl und43 rfl rfl) <|
          (TR.l (r := AV.ptr [AV.i64 a3, AV.i64 a4, AV.sl a5.length (a5.map AV.i64)]) rfl rfl (LOp.move rfl rfl) <|
          (TR.l (r := AV.ptr [AV.i64 a3, AV.i64 a4, AV.sl a5.length (a5.map AV.i64)]) rfl rfl (LOp.nilCheck_ptr rfl rfl) <|
          (TR.l (r := AV.ptr [AV.sl a5.length (a5.map AV.i64)]) rfl rfl (LOp.fap und45 rfl siz43 rfl rfl rfl) <|
          (TR.l (r := AV.sl a5.length (a5.map AV.i64)) rfl rfl (LOp.load1 agg43 rfl rfl) <|
          (TR.l (r := AV.i64 (a5.length : Int)) rfl rfl (LOp.len_sl und43 rfl rfl) <|
          (TR.l (r := AV.b false) rfl rfl (LOp.eqb (LOp.neq rfl rfl rfl) hc3) <|
          (TR.l (r := AV.b false) rfl rfl (LOp.pick_false rfl rfl rfl) <|
          TR.nil))))))))))))))))))))))))))))))))) rfl (by kernel_rfl) rfl fills_nil rfl ?_
        iterate 33 refine ROps.dropS ?_
        refine ROps.drop0 ?_
        refine ROps.nil ?_
        refine RunC.wl (τ' := [(0, AV.ptr [AV.i64 a0, AV.i64 a1, AV.sl a2.length (a2.map AV.i64)]), (1, AV.ptr [AV.i64 a3, AV.i64 a4, AV.sl a5.length (a5.map AV.i64)]), (38, AV.b false)]) (Γ' := []) ⟨(ALe.refl _), (ALe.refl _), (ALe.refl _), trivial⟩ trivial ?_
        refine RunC.cond_false rfl rfl ?_
        refine RunC.skip ?_
        refine RunC.seq ?_
        refine RunC.seq ?_
        refine RunC.regionW ?_
        refine ROps.l (r := AV.i64 0) rfl rfl rfl (LOp.assign rfl rfl) ?_
        refine ROps.nil ?_
        obtain ⟨z2, hz_2, h⟩ := obind_some h
        refine RunC.cutN (fun τ Γ => WeakLe τ [] ∧ DeadLe Γ [] ∧ z2 = .inl ()) ?_ ?_
        · refine RunC.block (RunC.loop (RunL.loopM (x := z2) (f72_s1 a2 a5) (fun (s : Int) τ Γ => WeakLe τ [(0, AV.ptr [AV.i64 a0, AV.i64 a1, AV.sl a2.length (a2.map AV.i64)]), (1, AV.ptr [AV.i64 a3, AV.i64 a4, AV.sl a5.length (a5.map AV.i64)]), (5, AV.i64 s)] ∧ DeadLe Γ []) ?_ _ _ _ hz_2 ⟨⟨(ALe.refl _), (ALe.refl _), (ALe.refl _), trivial⟩, trivial⟩))
          rintro v1 τ2 Γ2 y2_ ⟨hw2, hd2⟩ h2_ ho2 hr2
          refine RunC.wl (τ' := [(0, AV.ptr [AV.i64 a0, AV.i64 a1, AV.sl a2.length (a2.map AV.i64)]), (1, AV.ptr [AV.i64 a3, AV.i64 a4, AV.sl a5.length (a5.map AV.i64)]), (5, AV.i64 v1)]) (Γ' := []) hw2 hd2 ?_
          replace h2_ : f72_b1 a2 a5 v1 = some y2_ := h2_
          unfold f72_b1 at h2_
          refine RunC.seq ?_
          refine RunC.seq ?_
          rcases bsel_some h2_ with ⟨hc4, h2_⟩ | ⟨hc4, h2_⟩
          · refine RunC.regionW ?_
            refine ROps.l (r := AV.i64 v1) rfl rfl rfl (LOp.move rfl rfl) ?_
            refine ROps.l (r := AV.ptr [AV.i64 a0, AV.i64 a1, AV.sl a2.length (a2.map AV.i64)]) rfl rfl rfl (LOp.move rfl rfl) ?_
            refine ROps.l (r := AV.ptr [AV.i64 a0, AV.i64 a1, AV.sl a2.length (a2.map AV.i64)]) rfl rfl rfl (LOp.nilCheck_ptr rfl rfl) ?_
            refine ROps.l (r := AV.ptr [AV.sl a2.length (a2.map AV.i64)]) rfl rfl rfl (LOp.fap und45 rfl siz43 rfl rfl rfl) ?_
            refine ROps.l (r := AV.sl a2.length (a2.map AV.i64)) rfl rfl rfl (LOp.load1 agg43 rfl rfl) ?_
            refine ROps.l (r := AV.i64 (a2.length : Int)) rfl rfl rfl (LOp.len_sl und43 rfl rfl) ?_
            refine ROps.l (r := AV.b true) rfl rfl rfl (LOp.eqb (LOp.lss rfl rfl rfl) hc4) ?_
            refine ROps.nil ?_
            refine RunC.cond_true rfl rfl ?_
            refine RunC.skip ?_
            refine RunC.seq ?_
            refine RunC.block ?_
            refine RunC.seq ?_
            obtain ⟨e2, he5, h2_⟩ := obind_some h2_
            obtain ⟨e3, he6, h2_⟩ := obind_some h2_
            rcases bsel_some h2_ with ⟨hc7, h2_⟩ | ⟨hc7, h2_⟩
            · refine RunC.region_draw (Γ' := []) 15 mixed 
                (TR.l (r := AV.ptr [AV.i64 a0, AV.i64 a1, AV.sl a2.length (a2.map AV.i64)]) rfl rfl (LOp.move rfl rfl) <|
                (TR.l (r := AV.ptr [AV.i64 a0, AV.i64 a1, AV.sl a2.length (a2.map AV.i64)]) rfl rfl (LOp.nilCheck_ptr rfl rfl) <|
                (TR.l (r := AV.ptr [AV.sl a2.length (a2.map AV.i64)]) rfl rfl (LOp.fap und45 rfl siz43 rfl rfl rfl) <|
                (TR.l (r := AV.sl a2.length (a2.map AV.i64)) rfl rfl (LOp.load1 agg43 rfl rfl) <|
                (TR.l (r := AV.i64 v1) rfl rfl (LOp.move rfl rfl) <|
                (TR.l (r := AV.ptr [AV.i64 e2]) rfl rfl (LOp.le (LOp.ix (f := AV.i64) und43 siz2 rfl rfl rfl rfl he5) ALe.ptr) <|
                (TR.l (r := AV.i64 e2) rfl rfl (LOp.load1 agg2 rfl rfl) <|
                (TR.l (r := AV.ptr [AV.i64 a3, AV.i64 a4, AV.sl a5.length (a5.map AV.i64)]) rfl rfl (LOp.move rfl rfl) <|
                (TR.l (r := AV.ptr [AV.i64 a3, AV.i64 a4, AV.sl a5.length (a5.map AV.i64)]) rfl rfl (LOp.nilCheck_ptr rfl rfl) <|
                (TR.l (r := AV.ptr [AV.sl a5.length (a5.map AV.i64)]) rfl rfl (LOp.fap und45 rfl siz43 rfl rfl rfl) <|
                (TR.l (r := AV.sl a5.length (a5.map AV.i64)) rfl rfl (LOp.load1 agg43 rfl rfl) <|
                (TR.l (r := AV.i64 v1) rfl rfl (LOp.move rfl rfl) <|
                (TR.l (r := AV.ptr [AV.i64 e3]) rfl rfl (LOp.le (LOp.ix (f := AV.i64) und43 siz2 rfl rfl rfl rfl he6) ALe.ptr) <|
                (TR.l (r := AV.i64 e3) rfl rfl (LOp.load1 agg2 rfl rfl) <|
                (TR.l (r := AV.b true) rfl rfl (LOp.eqb (LOp.neq rfl rfl rfl) hc7) <|
                TR.nil))))))))))))))) rfl (by kernel_rfl) rfl fills_nil rfl ?_
              iterate 15 refine ROps.dropS ?_
              refine ROps.drop0 ?_
              refine ROps.nil ?_
              refine RunC.wl (τ' := [(0, AV.ptr [AV.i64 a0, AV.i64 a1, AV.sl a2.length (a2.map AV.i64)]), (1, AV.ptr [AV.i64 a3, AV.i64 a4, AV.sl a5.length (a5.map AV.i64)]), (5, AV.i64 v1), (62, AV.b true)]) (Γ' := []) ⟨(ALe.refl _), (ALe.refl _), (ALe.refl _), (ALe.refl _), trivial⟩ trivial ?_
              refine RunC.cond_true rfl rfl ?_
              refine RunC.seq ?_
              refine RunC.regionW ?_
              refine ROps.l (r := AV.b false) rfl rfl rfl (LOp.assign rfl rfl) ?_
              refine ROps.nil ?_
              refine RunC.ret ?_
              cases Option.some.inj h2_
              have hx3_ := hr2 _ rfl
              subst hx3_
              have hq := Option.some.inj h
              subst q0
              exact bodyQ.pure (.inr rfl) rfl (Res.one rfl (RV.tmp rfl))
            · refine RunC.region_draw (Γ' := []) 15 mixed 
                (TR.l (r := AV.ptr [AV.i64 a0, AV.i64 a1, AV.sl a2.length (a2.map AV.i64)]) rfl rfl (LOp.move rfl rfl) <|
                (TR.l (r := AV.ptr [AV.i64 a0, AV.i64 a1, AV.sl a2.length (a2.map AV.i64)]) rfl rfl (LOp.nilCheck_ptr rfl rfl) <|
                (TR.l (r := AV.ptr [AV.sl a2.length (a2.map AV.i64)]) rfl rfl (LOp.fap und45 rfl siz43 rfl rfl rfl) <|
                (TR.l (r := AV.sl a2.length (a2.map AV.i64)) rfl rfl (LOp.load1 agg43 rfl rfl) <|
                (TR.l (r := AV.i64 v1) rfl rfl (LOp.move rfl rfl) <|
                (TR.l (r := AV.ptr [AV.i64 e2]) rfl rfl (LOp.le (LOp.ix (f := AV.i64) und43 siz2 rfl rfl rfl rfl he5) ALe.ptr) <|
                (TR.l (r := AV.i64 e2) rfl rfl (LOp.load1 agg2 rfl rfl) <|
                (TR.l (r := AV.ptr [AV.i64 a3, AV.i64 a4, AV.sl a5.length (a5.map AV.i64)]) rfl rfl (LOp.move rfl rfl) <|
                (TR.l (r := AV.ptr [AV.i64 a3, AV.i64 a4, AV.sl a5.length (a5.map AV.i64)]) rfl rfl (LOp.nilCheck_ptr rfl rfl) <|
                (TR.l (r := AV.ptr [AV.sl a5.length (a5.map AV.i64)]) rfl rfl (LOp.fap und45 rfl siz43 rfl rfl rfl) <|
                (TR.l (r := AV.sl a5.length (a5.map AV.i64)) rfl rfl (LOp.load1 agg43 rfl rfl) <|
                (TR.l (r := AV.i64 v1) rfl rfl (LOp.move rfl rfl) <|
                (TR.l (r := AV.ptr [AV.i64 e3]) rfl rfl (LOp.le (LOp.ix (f := AV.i64) und43 siz2 rfl rfl rfl rfl he6) ALe.ptr) <|
                (TR.l (r := AV.i64 e3) rfl rfl (LOp.load1 agg2 rfl rfl) <|
                (TR.l (r := AV.b false) rfl rfl (LOp.eqb (LOp.neq rfl rfl rfl) hc7) <|
                TR.nil))))))))))))))) rfl (by kernel_rfl) rfl fills_nil rfl ?_
              iterate 15 refine ROps.dropS ?_
              refine ROps.drop0 ?_
              refine ROps.nil ?_
              refine RunC.wl (τ' := [(0, AV.ptr [AV.i64 a0, AV.i64 a1, AV.sl a2.length (a2.map AV.i64)]), (1, AV.ptr [AV.i64 a3, AV.i64 a4, AV.sl a5.length (a5.map AV.i64)]), (5, AV.i64 v1), (62, AV.b false)]) (Γ' := []) ⟨(ALe.refl _), (ALe.refl _), (ALe.refl _), (ALe.refl _), trivial⟩ trivial ?_
              refine RunC.cond_false rfl rfl ?_
              refine RunC.skip ?_
              obtain ⟨x4, hx8, h2_⟩ := olet_some h2_
              refine RunC.regionW ?_
              refine ROps.l (r := AV.i64 v1) rfl rfl rfl (LOp.move rfl rfl) ?_
              refine ROps.l (r := AV.i64 x4) rfl rfl rfl (LOp.eqr (LOp.add rfl rfl rfl) (congrArg (AV.ik .i64) hx8)) ?_
              refine ROps.l (r := AV.i64 x4) rfl rfl rfl (LOp.assign rfl rfl) ?_
              refine ROps.nil ?_
              cases Option.some.inj h2_
              exact ⟨_, rfl, ⟨(ALe.refl _), (ALe.refl _), (ALe.refl _), trivial⟩, trivial⟩
          · refine RunC.regionW ?_
            refine ROps.l (r := AV.i64 v1) rfl rfl rfl (LOp.move rfl rfl) ?_
            refine ROps.l (r := AV.ptr [AV.i64 a0, AV.i64 a1, AV.sl a2.length (a2.map AV.i64)]) rfl rfl rfl (LOp.move rfl rfl) ?_
            refine ROps.l (r := AV.ptr [AV.i64 a0, AV.i64 a1, AV.sl a2.length (a2.map AV.i64)]) rfl rfl rfl (LOp.nilCheck_ptr rfl rfl) ?_
            refine ROps.l (r := AV.ptr [AV.sl a2.length (a2.map AV.i64)]) rfl rfl rfl (LOp.fap und45 rfl siz43 rfl rfl rfl) ?_
            refine ROps.l (r := AV.sl a2.length (a2.map AV.i64)) rfl rfl rfl (LOp.load1 agg43 rfl rfl) ?_
            refine ROps.l (r := AV.i64 (a2.length : Int)) rfl rfl rfl (LOp.len_sl und43 rfl rfl) ?_
            refine ROps.l (r := AV.b false) rfl rfl rfl (LOp.eqb (LOp.lss rfl rfl rfl) hc4) ?_
            refine ROps.nil ?_
            refine RunC.cond_false rfl rfl ?_
            refine RunC.exit ?_
            cases Option.some.inj h2_
            have hx := ho2 _ rfl
            exact ⟨trivial, trivial, hx⟩
        · rintro τ4 Γ4 ⟨hw4, hd4, rfl⟩
          refine RunC.wl (τ' := []) (Γ' := []) hw4 hd4 ?_
          replace h : f72_k1 = some q0 := h
          unfold f72_k1 at h
          refine RunC.seq ?_
          refine RunC.regionW ?_
          refine ROps.l (r := AV.b true) rfl rfl rfl (LOp.assign rfl rfl) ?_
          refine ROps.nil ?_
          refine RunC.ret ?_
          have hq := Option.some.inj h
          subst q0
          exact bodyQ.pure (.inr rfl) rfl (Res.one rfl (RV.tmp rfl))
noncomputable def f32 (a0 : Int) (a1 : Int) (a2 : List F) (a3 : List F) (a4 : List F) (a5 : List F) (a6 : Int) (a7 : Int) (a8 : List Int) (a9 : Int) (a10 : Int) (a11 : List F) (a12 : List F) (a13 : List F) (a14 : List F) (a15 : Int) (a16 : Int) (a17 : List Int) : Option (Bool) :=
  obind (f69 a0 a1 a2 a3 a4 a5 a6 a7 a8 a9 a10 a11 a12 a13 a14 a15 a16 a17) fun (r1 : Bool) =>
  bsel r1 (
    obind (f70 a3 a12) fun (r2 : Bool) =>
    bsel r2 (
      obind (f71 a4 a5 a6 a7 a8 a13 a14 a15 a16 a17) fun (r3 : Bool) =>
      bsel r3 (
        obind (f72 a6 a7 a8 a15 a16 a17) fun (r4 : Bool) =>
        some r4) (
        some false)) (
      some false)) (
    some false)
theorem f32_ok (a0 : Int) (a1 : Int) (a2 : List F) (a3 : List F) (a4 : List F) (a5 : List F) (a6 : Int) (a7 : Int) (a8 : List Int) (a9 : Int) (a10 : Int) (a11 : List F) (a12 : List F) (a13 : List F) (a14 : List F) (a15 : Int) (a16 : Int) (a17 : List Int) (q0 : Bool) (h : f32 a0 a1 a2 a3 a4 a5 a6 a7 a8 a9 a10 a11 a12 a13 a14 a15 a16 a17 = some q0) : Ev Try.prog 32 [AV.agg [AV.i64 a0, AV.i64 a1, AV.sl a2.length (a2.map AV.f32), AV.sl a3.length (a3.map AV.f32), AV.sl a4.length (a4.map AV.f32), AV.sl a5.length (a5.map AV.f32), AV.i64 a6, AV.i64 a7, AV.sl a8.length (a8.map AV.i64)], AV.agg [AV.i64 a9, AV.i64 a10, AV.sl a11.length (a11.map AV.f32), AV.sl a12.length (a12.map AV.f32), AV.sl a13.length (a13.map AV.f32), AV.sl a14.length (a14.map AV.f32), AV.i64 a15, AV.i64 a16, AV.sl a17.length (a17.map AV.i64)]] [] (AV.b q0) [] := by
  refine Ev.start Try.func32 rfl rfl 0 (τ := [(0, AV.agg [AV.i64 a0, AV.i64 a1, AV.sl a2.length (a2.map AV.f32), AV.sl a3.length (a3.map AV.f32), AV.sl a4.length (a4.map AV.f32), AV.sl a5.length (a5.map AV.f32), AV.i64 a6, AV.i64 a7, AV.sl a8.length (a8.map AV.i64)]), (1, AV.agg [AV.i64 a9, AV.i64 a10, AV.sl a11.length (a11.map AV.f32), AV.sl a12.length (a12.map AV.f32), AV.sl a13.length (a13.map AV.f32), AV.sl a14.length (a14.map AV.f32), AV.i64 a15, AV.i64 a16, AV.sl a17.length (a17.map AV.i64)])]) rfl (Γ' := []) rfl (n := 25) rfl (g := 0) rfl ?_
  unfold f32 at h
  refine RunC.seq ?_
  refine RunC.regionW ?_
  refine ROps.d (r := AV.ptr [AV.i64 a0, AV.i64 a1, AV.sl a2.length (a2.map AV.f32), AV.sl a3.length (a3.map AV.f32), AV.sl a4.length (a4.map AV.f32), AV.sl a5.length (a5.map AV.f32), AV.i64 a6, AV.i64 a7, AV.sl a8.length (a8.map AV.i64)]) (fs := []) (Γ' := []) rfl rfl rfl (TOp.box_s rfl rfl rfl) rfl ?_
  refine ROps.d (r := AV.ptr [AV.i64 a9, AV.i64 a10, AV.sl a11.length (a11.map AV.f32), AV.sl a12.length (a12.map AV.f32), AV.sl a13.length (a13.map AV.f32), AV.sl a14.length (a14.map AV.f32), AV.i64 a15, AV.i64 a16, AV.sl a17.length (a17.map AV.i64)]) (fs := []) (Γ' := []) rfl rfl rfl (TOp.box_s rfl rfl rfl) rfl ?_
  refine ROps.l (r := AV.b false) rfl rfl rfl (LOp.assign rfl rfl) ?_
  refine ROps.nil ?_
  refine RunC.seq ?_
  obtain ⟨r1, hf1, h⟩ := obind_some h
  rcases bsel_some h with ⟨hc2, h⟩ | ⟨hc2, h⟩
  · obtain ⟨r2, hf3, h⟩ := obind_some h
    rcases bsel_some h with ⟨hc4, h⟩ | ⟨hc4, h⟩
    · obtain ⟨r3, hf5, h⟩ := obind_some h
      rcases bsel_some h with ⟨hc6, h⟩ | ⟨hc6, h⟩
      · obtain ⟨r4, hf7, h⟩ := obind_some h
        refine RunC.regionW ?_
        refine ROps.l (r := AV.ptr [AV.i64 a0, AV.i64 a1, AV.sl a2.length (a2.map AV.f32), AV.sl a3.length (a3.map AV.f32), AV.sl a4.length (a4.map AV.f32), AV.sl a5.length (a5.map AV.f32), AV.i64 a6, AV.i64 a7, AV.sl a8.length (a8.map AV.i64)]) rfl rfl rfl (LOp.fap und47 rfl siz40 rfl rfl rfl) ?_
        refine ROps.l (r := AV.ptr [AV.i64 a9, AV.i64 a10, AV.sl a11.length (a11.map AV.f32), AV.sl a12.length (a12.map AV.f32), AV.sl a13.length (a13.map AV.f32), AV.sl a14.length (a14.map AV.f32), AV.i64 a15, AV.i64 a16, AV.sl a17.length (a17.map AV.i64)]) rfl rfl rfl (LOp.fap und47 rfl siz40 rfl rfl rfl) ?_
        refine ROps.d (r := AV.b true) (fs := []) (Γ' := []) rfl rfl rfl (TOp.eqb (TOp.callB (CallAs.func ent69 rfl rfl) (Bors.cons (Bor.ptr (Bors.cons (Bor.pure rfl) (Bors.cons (Bor.pure rfl) (Bors.cons (Bor.sl (fun _ => rfl)) (Bors.cons (Bor.sl (fun _ => rfl)) (Bors.cons (Bor.sl (fun _ => rfl)) (Bors.cons (Bor.sl (fun _ => rfl)) (Bors.cons (Bor.pure rfl) (Bors.cons (Bor.pure rfl) (Bors.cons (Bor.sl (fun _ => rfl)) Bors.nil)))))))))) (Bors.cons (Bor.ptr (Bors.cons (Bor.pure rfl) (Bors.cons (Bor.pure rfl) (Bors.cons (Bor.sl (fun _ => rfl)) (Bors.cons (Bor.sl (fun _ => rfl)) (Bors.cons (Bor.sl (fun _ => rfl)) (Bors.cons (Bor.sl (fun _ => rfl)) (Bors.cons (Bor.pure rfl) (Bors.cons (Bor.pure rfl) (Bors.cons (Bor.sl (fun _ => rfl)) Bors.nil)))))))))) Bors.nil)) rfl rfl (f69_ok a0 a1 a2 a3 a4 a5 a6 a7 a8 a9 a10 a11 a12 a13 a14 a15 a16 a17 r1 hf1)) hc2) rfl ?_
        refine ROps.l (r := AV.b true) rfl rfl rfl (LOp.move rfl rfl) ?_
        refine ROps.l (r := AV.ptr [AV.sl a3.length (a3.map AV.f32), AV.sl a4.length (a4.map AV.f32), AV.sl a5.length (a5.map AV.f32), AV.i64 a6, AV.i64 a7, AV.sl a8.length (a8.map AV.i64)]) rfl rfl rfl (LOp.fap und47 rfl siz38 rfl rfl rfl) ?_
        refine ROps.l (r := AV.sl a3.length (a3.map AV.f32)) rfl rfl rfl (LOp.load1 agg38 rfl rfl) ?_
        refine ROps.l (r := AV.ptr [AV.sl a12.length (a12.map AV.f32), AV.sl a13.length (a13.map AV.f32), AV.sl a14.length (a14.map AV.f32), AV.i64 a15, AV.i64 a16, AV.sl a17.length (a17.map AV.i64)]) rfl rfl rfl (LOp.fap und47 rfl siz38 rfl rfl rfl) ?_
        refine ROps.l (r := AV.sl a12.length (a12.map AV.f32)) rfl rfl rfl (LOp.load1 agg38 rfl rfl) ?_
        refine ROps.d (r := AV.b true) (fs := []) (Γ' := []) rfl rfl rfl (TOp.eqb (TOp.callB (CallAs.func ent70 rfl rfl) (Bors.cons (Bor.sl (fun _ => rfl)) (Bors.cons (Bor.sl (fun _ => rfl)) Bors.nil)) rfl rfl (f70_ok a3 a12 r2 hf3)) hc4) rfl ?_
        refine ROps.l (r := AV.b true) rfl rfl rfl (LOp.pick_true rfl rfl rfl) ?_
        refine ROps.l (r := AV.b true) rfl rfl rfl (LOp.move rfl rfl) ?_
        refine ROps.l (r := AV.ptr [AV.sl a4.length (a4.map AV.f32), AV.sl a5.length (a5.map AV.f32), AV.i64 a6, AV.i64 a7, AV.sl a8.length (a8.map AV.i64)]) rfl rfl rfl (LOp.fap und47 rfl siz42 rfl rfl rfl) ?_
        refine ROps.l (r := AV.ptr [AV.sl a13.length (a13.map AV.f32), AV.sl a14.length (a14.map AV.f32), AV.i64 a15, AV.i64 a16, AV.sl a17.length (a17.map AV.i64)]) rfl rfl rfl (LOp.fap und47 rfl siz42 rfl rfl rfl) ?_
        refine ROps.d (r := AV.b true) (fs := []) (Γ' := []) rfl rfl rfl (TOp.eqb (TOp.callB (CallAs.func ent71 rfl rfl) (Bors.cons (Bor.ptr (Bors.cons (Bor.sl (fun _ => rfl)) (Bors.cons (Bor.sl (fun _ => rfl)) (Bors.cons (Bor.pure rfl) (Bors.cons (Bor.pure rfl) (Bors.cons (Bor.sl (fun _ => rfl)) Bors.nil)))))) (Bors.cons (Bor.ptr (Bors.cons (Bor.sl (fun _ => rfl)) (Bors.cons (Bor.sl (fun _ => rfl)) (Bors.cons (Bor.pure rfl) (Bors.cons (Bor.pure rfl) (Bors.cons (Bor.sl (fun _ => rfl)) Bors.nil)))))) Bors.nil)) rfl rfl (f71_ok a4 a5 a6 a7 a8 a13 a14 a15 a16 a17 r3 hf5)) hc6) rfl ?_
        refine ROps.l (r := AV.b true) rfl rfl rfl (LOp.pick_true rfl rfl rfl) ?_
        refine ROps.l (r := AV.b true) rfl rfl rfl (LOp.move rfl rfl) ?_
        refine ROps.l (r := AV.ptr [AV.i64 a6, AV.i64 a7, AV.sl a8.length (a8.map AV.i64)]) rfl rfl rfl (LOp.fap und47 rfl siz45 rfl rfl rfl) ?_
        refine ROps.l (r := AV.ptr [AV.i64 a15, AV.i64 a16, AV.sl a17.length (a17.map AV.i64)]) rfl rfl rfl (LOp.fap und47 rfl siz45 rfl rfl rfl) ?_
        refine ROps.d (r := AV.b r4) (fs := []) (Γ' := []) rfl rfl rfl (TOp.callB (CallAs.func ent72 rfl rfl) (Bors.cons (Bor.ptr (Bors.cons (Bor.pure rfl) (Bors.cons (Bor.pure rfl) (Bors.cons (Bor.sl (fun _ => rfl)) Bors.nil)))) (Bors.cons (Bor.ptr (Bors.cons (Bor.pure rfl) (Bors.cons (Bor.pure rfl) (Bors.cons (Bor.sl (fun _ => rfl)) Bors.nil)))) Bors.nil)) rfl rfl (f72_ok a6 a7 a8 a15 a16 a17 r4 hf7)) rfl ?_
        refine ROps.l (r := AV.b r4) rfl rfl rfl (LOp.pick_true rfl rfl rfl) ?_
        refine ROps.l (r := AV.b r4) rfl rfl rfl (LOp.assign rfl rfl) ?_
        refine ROps.nil ?_
        refine RunC.ret ?_
        have hq := Option.some.inj h
        subst q0
        exact bodyQ.pure (.inr rfl) rfl (Res.one rfl (RV.tmp rfl))
      · refine RunC.regionW ?_
        refine ROps.l (r := AV.ptr [AV.i64 a0, AV.i64 a1, AV.sl a2.length (a2.map AV.f32), AV.sl a3.length (a3.map AV.f32), AV.sl a4.length (a4.map AV.f32), AV.sl a5.length (a5.map AV.f32), AV.i64 a6, AV.i64 a7, AV.sl a8.length (a8.map AV.i64)]) rfl rfl rfl (LOp.fap und47 rfl siz40 rfl rfl rfl) ?_
        refine ROps.l (r := AV.ptr [AV.i64 a9, AV.i64 a10, AV.sl a11.length (a11.map AV.f32), AV.sl a12.length (a12.map AV.f32), AV.sl a13.length (a13.map AV.f32), AV.sl a14.length (a14.map AV.f32), AV.i64 a15, AV.i64 a16, AV.sl a17.length (a17.map AV.i64)]) rfl rfl rfl (LOp.fap und47 rfl siz40 rfl rfl rfl) ?_
        refine ROps.d (r := AV.b true) (fs := []) (Γ' := []) rfl rfl rfl (TOp.eqb (TOp.callB (CallAs.func ent69 rfl rfl) (Bors.cons (Bor.ptr (Bors.cons (Bor.pure rfl) (Bors.cons (Bor.pure rfl) (Bors.cons (Bor.sl (fun _ => rfl)) (Bors.cons (Bor.sl (fun _ => rfl)) (Bors.cons (Bor.sl (fun _ => rfl)) (Bors.cons (Bor.sl (fun _ => rfl)) (Bors.cons (Bor.pure rfl) (Bors.cons (Bor.pure rfl) (Bors.cons (Bor.sl (fun _ => rfl)) Bors.nil)))))))))) (Bors.cons (Bor.ptr (Bors.cons (Bor.pure rfl) (Bors.cons (Bor.pure rfl) (Bors.cons (Bor.sl (fun _ => rfl)) (Bors.cons (Bor.sl (fun _ => rfl)) (Bors.cons (Bor.sl (fun _ => rfl)) (Bors.cons (Bor.sl (fun _ => rfl)) (Bors.cons (Bor.pure rfl) (Bors.cons (Bor.pure rfl) (Bors.cons (Bor.sl (fun _ => rfl)) Bors.nil)))))))))) Bors.nil)) rfl rfl (f69_ok a0 a1 a2 a3 a4 a5 a6 a7 a8 a9 a10 a11 a12 a13 a14 a15 a16 a17 r1 hf1)) hc2) rfl ?_
        refine ROps.l (r := AV.b true) rfl rfl rfl (LOp.move rfl rfl) ?_
        refine ROps.l (r := AV.ptr [AV.sl a3.length (a3.map AV.f32), AV.sl a4.length (a4.map AV.f32), AV.sl a5.length (a5.map AV.f32), AV.i64 a6, AV.i64 a7, AV.sl a8.length (a8.map AV.i64)]) rfl rfl rfl (LOp.fap und47 rfl siz38 rfl rfl rfl) ?_
        refine ROps.l (r := AV.sl a3.length (a3.map AV.f32)) rfl rfl rfl (LOp.load1 agg38 rfl rfl) ?_
        refine ROps.l (r := AV.ptr [AV.sl a12.length (a12.map AV.f32), AV.sl a13.length (a13.map AV.f32), AV.sl a14.length (a14.map AV.f32), AV.i64 a15, AV.i64 a16, AV.sl a17.length (a17.map AV.i64)]) rfl rfl rfl (LOp.fap und47 rfl siz38 rfl rfl rfl) ?_
        refine ROps.l (r := AV.sl a12.length (a12.map AV.f32)) rfl rfl rfl (LOp.load1 agg38 rfl rfl) ?_
        refine ROps.d (r := AV.b true) (fs := []) (Γ' := []) rfl rfl rfl (TOp.eqb (TOp.callB (CallAs.func ent70 rfl rfl) (Bors.cons (Bor.sl (fun _ => rfl)) (Bors.cons (Bor.sl (fun _ => rfl)) Bors.nil)) rfl rfl (f70_ok a3 a12 r2 hf3)) hc4) rfl ?_
        refine ROps.l (r := AV.b true) rfl rfl rfl (LOp.pick_true rfl rfl rfl) ?_
        refine ROps.l (r := AV.b true) rfl rfl rfl (LOp.move rfl rfl) ?_
        refine ROps.l (r := AV.ptr [AV.sl a4.length (a4.map AV.f32), AV.sl a5.length (a5.map AV.f32), AV.i64 a6, AV.i64 a7, AV.sl a8.length (a8.map AV.i64)]) rfl rfl rfl (LOp.fap und47 rfl siz42 rfl rfl rfl) ?_
        refine ROps.l (r := AV.ptr [AV.sl a13.length (a13.map AV.f32), AV.sl a14.length (a14.map AV.f32), AV.i64 a15, AV.i64 a16, AV.sl a17.length (a17.map AV.i64)]) rfl rfl rfl (LOp.fap und47 rfl siz42 rfl rfl rfl) ?_
        refine ROps.d (r := AV.b false) (fs := []) (Γ' := []) rfl rfl rfl (TOp.eqb (TOp.callB (CallAs.func ent71 rfl rfl) (Bors.cons (Bor.ptr (Bors.cons (Bor.sl (fun _ => rfl)) (Bors.cons (Bor.sl (fun _ => rfl)) (Bors.cons (Bor.pure rfl) (Bors.cons (Bor.pure rfl) (Bors.cons (Bor.sl (fun _ => rfl)) Bors.nil)))))) (Bors.cons (Bor.ptr (Bors.cons (Bor.sl (fun _ => rfl)) (Bors.cons (Bor.sl (fun _ => rfl)) (Bors.cons (Bor.pure rfl) (Bors.cons (Bor.pure rfl) (Bors.cons (Bor.sl (fun _ => rfl)) Bors.nil)))))) Bors.nil)) rfl rfl (f71_ok a4 a5 a6 a7 a8 a13 a14 a15 a16 a17 r3 hf5)) hc6) rfl ?_
        refine ROps.l (r := AV.b false) rfl rfl rfl (LOp.pick_true rfl rfl rfl) ?_
        refine ROps.l (r := AV.b false) rfl rfl rfl (LOp.move rfl rfl) ?_
        refine ROps.s rfl rfl rfl ?_
        refine ROps.s rfl rfl rfl ?_
        refine ROps.s rfl rfl rfl ?_
        refine ROps.l (r := AV.b false) rfl rfl rfl (LOp.pick_false rfl rfl rfl) ?_
        refine ROps.l (r := AV.b false) rfl rfl rfl (LOp.assign rfl rfl) ?_
        refine ROps.nil ?_
        refine RunC.ret ?_
        have hq := Option.some.inj h
        subst q0
        exact bodyQ.pure (.inr rfl) rfl (Res.one rfl (RV.tmp rfl))
    · refine RunC.regionW ?_
      refine ROps.l (r := AV.ptr [AV.i64 a0, AV.i64 a1, AV.sl a2.length (a2.map AV.f32), AV.sl a3.length (a3.map AV.f32), AV.sl a4.length (a4.map AV.f32), AV.sl a5.length (a5.map AV.f32), AV.i64 a6, AV.i64 a7, AV.sl a8.length (a8.map AV.i64)]) rfl rfl rfl (LOp.fap und47 rfl siz40 rfl rfl rfl) ?_
      refine ROps.l (r := AV.ptr [AV.i64 a9, AV.i64 a10, AV.sl a11.length (a11.map AV.f32), AV.sl a12.length (a12.map AV.f32), AV.sl a13.length (a13.map AV.f32), AV.sl a14.length (a14.map AV.f32), AV.i64 a15, AV.i64 a16, AV.sl a17.length (a17.map AV.i64)]) rfl rfl rfl (LOp.fap und47 rfl siz40 rfl rfl rfl) ?_
      refine ROps.d (r := AV.b true) (fs := []) (Γ' := []) rfl rfl rfl (TOp.eqb (TOp.callB (CallAs.func ent69 rfl rfl) (Bors.cons (Bor.ptr (Bors.cons (Bor.pure rfl) (Bors.cons (Bor.pure rfl) (Bors.cons (Bor.sl (fun _ => rfl)) (Bors.cons (Bor.sl (fun _ => rfl)) (Bors.cons (Bor.sl (fun _ => rfl)) (Bors.cons (Bor.sl (fun _ => rfl)) (Bors.cons (Bor.pure rfl) (Bors.cons (Bor.pure rfl) (Bors.cons (Bor.sl (fun _ => rfl)) Bors.nil)))))))))) (Bors.cons (Bor.ptr (Bors.cons (Bor.pure rfl) (Bors.cons (Bor.pure rfl) (Bors.cons (Bor.sl (fun _ => rfl)) (Bors.cons (Bor.sl (fun _ => rfl)) (Bors.cons (Bor.sl (fun _ => rfl)) (Bors.cons (Bor.sl (fun _ => rfl)) (Bors.cons (Bor.pure rfl) (Bors.cons (Bor.pure rfl) (Bors.cons (Bor.sl (fun _ => rfl)) Bors.nil)))))))))) Bors.nil)) rfl rfl (f69_ok a0 a1 a2 a3 a4 a5 a6 a7 a8 a9 a10 a11 a12 a13 a14 a15 a16 a17 r1 hf1)) hc2) rfl ?_
      refine ROps.l (r := AV.b true) rfl rfl rfl (LOp.move rfl rfl) ?_
      refine ROps.l (r := AV.ptr [AV.sl a3.length (a3.map AV.f32), AV.sl a4.length (a4.map AV.f32), AV.sl a5.length (a5.map AV.f32), AV.i64 a6, AV.i64 a7, AV.sl a8.length (a8.map AV.i64)]) rfl rfl rfl (LOp.fap und47 rfl siz38 rfl rfl rfl) ?_
      refine ROps.l (r := AV.sl a3.length (a3.map AV.f32)) rfl rfl rfl (LOp.load1 agg38 rfl rfl) ?_
      refine ROps.l (r := AV.ptr [AV.sl a12.length (a12.map AV.f32), AV.sl a13.length (a13.map AV.f32), AV.sl a14.length (a14.map AV.f32), AV.i64 a15, AV.i64 a16, AV.sl a17.length (a17.map AV.i64)]) rfl rfl rfl (LOp.fap und47 rfl siz38 rfl rfl rfl) ?_
      refine ROps.l (r := AV.sl a12.length (a12.map AV.f32)) rfl rfl rfl (LOp.load1 agg38 rfl rfl) ?_
      refine ROps.d (r := AV.b false) (fs := []) (Γ' := []) rfl rfl rfl (TOp.eqb (TOp.callB (CallAs.func ent70 rfl rfl) (Bors.cons (Bor.sl (fun _ => rfl)) (Bors.cons (Bor.sl (fun _ => rfl)) Bors.nil)) rfl rfl (f70_ok a3 a12 r2 hf3)) hc4) rfl ?_
      refine ROps.l (r := AV.b false) rfl rfl rfl (LOp.pick_true rfl rfl rfl) ?_
      refine ROps.l (r := AV.b false) rfl rfl rfl (LOp.move rfl rfl) ?_
      refine ROps.s rfl rfl rfl ?_
      refine ROps.s rfl rfl rfl ?_
      refine ROps.s rfl rfl rfl ?_
      refine ROps.l (r := AV.b false) rfl rfl rfl (LOp.pick_false rfl rfl rfl) ?_
      refine ROps.l (r := AV.b false) rfl rfl rfl (LOp.move rfl rfl) ?_
      refine ROps.s rfl rfl rfl ?_
      refine ROps.s rfl rfl rfl ?_
      refine ROps.s rfl rfl rfl ?_
      refine ROps.l (r := AV.b false) rfl rfl rfl (LOp.pick_false rfl rfl rfl) ?_
      refine ROps.l (r := AV.b false) rfl rfl rfl (LOp.assign rfl rfl) ?_
      refine ROps.nil ?_
      refine RunC.ret ?_
      have hq := Option.some.inj h
      subst q0
      exact bodyQ.pure (.inr rfl) rfl (Res.one rfl (RV.tmp rfl))
  · refine RunC.regionW ?_
    refine ROps.l (r := AV.ptr [AV.i64 a0, AV.i64 a1, AV.sl a2.length (a2.map AV.f32), AV.sl a3.length (a3.map AV.f32), AV.sl a4.length (a4.map AV.f32), AV.sl a5.length (a5.map AV.f32), AV.i64 a6, AV.i64 a7, AV.sl a8.length (a8.map AV.i64)]) rfl rfl rfl (LOp.fap und47 rfl siz40 rfl rfl rfl) ?_
    refine ROps.l (r := AV.ptr [AV.i64 a9, AV.i64 a10, AV.sl a11.length (a11.map AV.f32), AV.sl a12.length (a12.map AV.f32), AV.sl a13.length (a13.map AV.f32), AV.sl a14.length (a14.map AV.f32), AV.i64 a15, AV.i64 a16, AV.sl a17.length (a17.map AV.i64)]) rfl rfl rfl (LOp.fap und47 rfl siz40 rfl rfl rfl) ?_
    refine ROps.d (r := AV.b false) (fs := []) (Γ' := []) rfl rfl rfl (TOp.eqb (TOp.callB (CallAs.func ent69 rfl rfl) (Bors.cons (Bor.ptr (Bors.cons (Bor.pure rfl) (Bors.cons (Bor.pure rfl) (Bors.cons (Bor.sl (fun _ => rfl)) (Bors.cons (Bor.sl (fun _ => rfl)) (Bors.cons (Bor.sl (fun _ => rfl)) (Bors.cons (Bor.sl (fun _ => rfl)) (Bors.cons (Bor.pure rfl) (Bors.cons (Bor.pure rfl) (Bors.cons (Bor.sl (fun _ => rfl)) Bors.nil)))))))))) (Bors.cons (Bor.ptr (Bors.cons (Bor.pure rfl) (Bors.cons (Bor.pure rfl) (Bors.cons (Bor.sl (fun _ => rfl)) (Bors.cons (Bor.sl (fun _ => rfl)) (Bors.cons (Bor.sl (fun _ => rfl)) (Bors.cons (Bor.sl (fun _ => rfl)) (Bors.cons (Bor.pure rfl) (Bors.cons (Bor.pure rfl) (Bors.cons (Bor.sl (fun _ => rfl)) Bors.nil)))))))))) Bors.nil)) rfl rfl (f69_ok a0 a1 a2 a3 a4 a5 a6 a7 a8 a9 a10 a11 a12 a13 a14 a15 a16 a17 r1 hf1)) hc2) rfl ?_
    refine ROps.l (r := AV.b false) rfl rfl rfl (LOp.move rfl rfl) ?_
    refine ROps.s rfl rfl rfl ?_
    refine ROps.s rfl rfl rfl ?_
    refine ROps.s rfl rfl rfl ?_
    refine ROps.s rfl rfl rfl ?_
    refine ROps.s rfl rfl rfl ?_
    refine ROps.l (r := AV.b false) rfl rfl rfl (LOp.pick_false rfl rfl rfl) ?_
    refine ROps.l (r := AV.b false) rfl rfl rfl (LOp.move rfl rfl) ?_
    refine ROps.s rfl rfl rfl ?_
    refine ROps.s rfl rfl rfl ?_
    refine ROps.s rfl rfl rfl ?_
    refine ROps.l (r := AV.b false) rfl rfl rfl (LOp.pick_false rfl rfl rfl) ?_
    refine ROps.l (r := AV.b false) rfl rfl rfl (LOp.move rfl rfl) ?_
    refine ROps.s rfl rfl rfl ?_
    refine ROps.s rfl rfl rfl ?_
    refine ROps.s rfl rfl rfl ?_
    refine ROps.l (r := AV.b false) rfl rfl rfl (LOp.pick_false rfl rfl rfl) ?_
    refine ROps.l (r := AV.b false) rfl rfl rfl (LOp.assign rfl rfl) ?_
    refine ROps.nil ?_
    refine RunC.ret ?_
    have hq := Option.some.inj h
    subst q0
    exact bodyQ.pure (.inr rfl) rfl (Res.one rfl (RV.tmp rfl))
noncomputable def f122 (a0 : F) : Option (Bool) :=
  obind (a0) fun (b1 : Nat) =>
  olet (IntKind.i64.wrap (b1 : Int)) fun (x2 : Int) =>
  some (decide (x2 < 0))
theorem f122_ok (a0 : F) (q0 : Bool) (h : f122 a0 = some q0) : Ev Try.prog 122 [AV.f64 a0] [] (AV.b q0) [] := by
  refine Ev.start Try.func122 rfl rfl 0 (τ := [(0, AV.f64 a0)]) rfl (Γ' := []) rfl (n := 7) rfl (g := 0) rfl ?_
  unfold f122 at h
  refine RunC.seq ?_
  refine RunC.regionW ?_
  refine ROps.l (r := AV.b false) rfl rfl rfl (LOp.assign rfl rfl) ?_
  refine ROps.nil ?_
  refine RunC.seq ?_
  obtain ⟨b1, he1, h⟩ := obind_some h
  obtain ⟨x2, hx2, h⟩ := olet_some h
  refine RunC.regionW ?_
  refine ROps.l (r := AV.f64 a0) rfl rfl rfl (LOp.move rfl rfl) ?_
  refine ROps.l (r := AV.ik .u64 (b1 : Int)) rfl rfl rfl (LOp.fbx ext132 rfl (OpF.tmp rfl) he1) ?_
  refine ROps.l (r := AV.i64 x2) rfl rfl rfl (LOp.eqr (LOp.i2i (src := 107) (dst := 2) ⟨_, pun107⟩ pun2 rfl rfl) (congrArg (AV.ik .i64) hx2)) ?_
  refine ROps.l (r := AV.b (decide (x2 < 0))) rfl rfl rfl (LOp.lss rfl rfl rfl) ?_
  refine ROps.l (r := AV.b (decide (x2 < 0))) rfl rfl rfl (LOp.assign rfl rfl) ?_
  refine ROps.nil ?_
  refine RunC.ret ?_
  have hq := Option.some.inj h
  subst q0
  exact bodyQ.pure (.inr rfl) rfl (Res.one rfl (RV.tmp rfl))
noncomputable def f108 (a0 : F) (a1 : F) : Option (Bool) :=
  bsel (!feq .f32 a0 a0) (
    some (!feq .f32 a1 a1)) (
    bsel (!feq .f32 a1 a1) (
      some false) (
      bsel (feq .f32 a0 a1) (
        olet (fwiden a0) fun (x1 : F) =>
        obind (f122 x1) fun (r2 : Bool) =>
        olet (fwiden a1) fun (x3 : F) =>
        obind (f122 x3) fun (r4 : Bool) =>
        some (r2 == r4)) (
        some false)))
theorem f108_ok (a0 : F) (a1 : F) (q0 : Bool) (h : f108 a0 a1 = some q0) : Ev Try.prog 108 [AV.f32 a0, AV.f32 a1] [] (AV.b q0) [] := by
  refine Ev.start Try.func108 rfl rfl 0 (τ := [(0, AV.f32 a0), (1, AV.f32 a1)]) rfl (Γ' := []) rfl (n := 33) rfl (g := 0) rfl ?_
  unfold f108 at h
  refine RunC.seq ?_
  refine RunC.regionW ?_
  refine ROps.l (r := AV.b false) rfl rfl rfl (LOp.assign rfl rfl) ?_
  refine ROps.nil ?_
  refine RunC.seq ?_
  refine RunC.seq ?_
  rcases bsel_some h with ⟨hc1, h⟩ | ⟨hc1, h⟩
  · refine RunC.regionW ?_
    refine ROps.l (r := AV.f32 a0) rfl rfl rfl (LOp.move rfl rfl) ?_
    refine ROps.l (r := AV.f32 a0) rfl rfl rfl (LOp.move rfl rfl) ?_
    refine ROps.l (r := AV.b true) rfl rfl rfl (LOp.eqb (LOp.fne rfl (OpF.tmp rfl) (OpF.tmp rfl)) hc1) ?_
    refine ROps.l (r := AV.b true) rfl rfl rfl (LOp.move rfl rfl) ?_
    refine ROps.s rfl rfl rfl ?_
    refine ROps.s rfl rfl rfl ?_
    refine ROps.s rfl rfl rfl ?_
    refine ROps.l (r := AV.b true) rfl rfl rfl (LOp.pick_true rfl rfl rfl) ?_
    refine ROps.nil ?_
    refine RunC.cond_true rfl rfl ?_
    refine RunC.seq ?_
    refine RunC.regionW ?_
    refine ROps.l (r := AV.f32 a0) rfl rfl rfl (LOp.move rfl rfl) ?_
    refine ROps.l (r := AV.f32 a0) rfl rfl rfl (LOp.move rfl rfl) ?_
    refine ROps.l (r := AV.b true) rfl rfl rfl (LOp.eqb (LOp.fne rfl (OpF.tmp rfl) (OpF.tmp rfl)) hc1) ?_
    refine ROps.l (r := AV.b true) rfl rfl rfl (LOp.move rfl rfl) ?_
    refine ROps.l (r := AV.f32 a1) rfl rfl rfl (LOp.move rfl rfl) ?_
    refine ROps.l (r := AV.f32 a1) rfl rfl rfl (LOp.move rfl rfl) ?_
    refine ROps.l (r := AV.b (!feq .f32 a1 a1)) rfl rfl rfl (LOp.fne rfl (OpF.tmp rfl) (OpF.tmp rfl)) ?_
    refine ROps.l (r := AV.b (!feq .f32 a1 a1)) rfl rfl rfl (LOp.pick_true rfl rfl rfl) ?_
    refine ROps.l (r := AV.b (!feq .f32 a1 a1)) rfl rfl rfl (LOp.assign rfl rfl) ?_
    refine ROps.nil ?_
    refine RunC.ret ?_
    have hq := Option.some.inj h
    subst q0
    exact bodyQ.pure (.inr rfl) rfl (Res.one rfl (RV.tmp rfl))
  · rcases bsel_some h with ⟨hc2, h⟩ | ⟨hc2, h⟩
    · refine RunC.regionW ?_
      refine ROps.l (r := AV.f32 a0) rfl rfl rfl (LOp.move rfl rfl) ?_
      refine ROps.l (r := AV.f32 a0) rfl rfl rfl (LOp.move rfl rfl) ?_
      refine ROps.l (r := AV.b false) rfl rfl rfl (LOp.eqb (LOp.fne rfl (OpF.tmp rfl) (OpF.tmp rfl)) hc1) ?_
      refine ROps.l (r := AV.b false) rfl rfl rfl (LOp.move rfl rfl) ?_
      refine ROps.l (r := AV.f32 a1) rfl rfl rfl (LOp.move rfl rfl) ?_
      refine ROps.l (r := AV.f32 a1) rfl rfl rfl (LOp.move rfl rfl) ?_
      refine ROps.l (r := AV.b true) rfl rfl rfl (LOp.eqb (LOp.fne rfl (OpF.tmp rfl) (OpF.tmp rfl)) hc2) ?_
      refine ROps.l (r := AV.b true) rfl rfl rfl (LOp.pick_false rfl rfl rfl) ?_
      refine ROps.nil ?_
      refine RunC.cond_true rfl rfl ?_
      refine RunC.seq ?_
      refine RunC.regionW ?_
      refine ROps.l (r := AV.f32 a0) rfl rfl rfl (LOp.move rfl rfl) ?_
      refine ROps.l (r := AV.f32 a0) rfl rfl rfl (LOp.move rfl rfl) ?_
      refine ROps.l (r := AV.b false) rfl rfl rfl (LOp.eqb (LOp.fne rfl (OpF.tmp rfl) (OpF.tmp rfl)) hc1) ?_
      refine ROps.l (r := AV.b false) rfl rfl rfl (LOp.move rfl rfl) ?_
      refine ROps.s rfl rfl rfl ?_
      refine ROps.s rfl rfl rfl ?_
      refine ROps.s rfl rfl rfl ?_
      refine ROps.l (r := AV.b false) rfl rfl rfl (LOp.pick_false rfl rfl rfl) ?_
      refine ROps.l (r := AV.b false) rfl rfl rfl (LOp.assign rfl rfl) ?_
      refine ROps.nil ?_
      refine RunC.ret ?_
      have hq := Option.some.inj h
      subst q0
      exact bodyQ.pure (.inr rfl) rfl (Res.one rfl (RV.tmp rfl))
    · refine RunC.regionW ?_
      refine ROps.l (r := AV.f32 a0) rfl rfl rfl (LOp.move rfl rfl) ?_
      refine ROps.l (r := AV.f32 a0) rfl rfl rfl (LOp.move rfl rfl) ?_
      refine ROps.l (r := AV.b false) rfl rfl rfl (LOp.eqb (LOp.fne rfl (OpF.tmp rfl) (OpF.tmp rfl)) hc1) ?_
      refine ROps.l (r := AV.b false) rfl rfl rfl (LOp.move rfl rfl) ?_
      refine ROps.l (r := AV.f32 a1) rfl rfl rfl (LOp.move rfl rfl) ?_
      refine ROps.l (r := AV.f32 a1) rfl rfl rfl (LOp.move rfl rfl) ?_
      refine ROps.l (r := AV.b false) rfl rfl rfl (LOp.eqb (LOp.fne rfl (OpF.tmp rfl) (OpF.tmp rfl)) hc2) ?_
      refine ROps.l (r := AV.b false) rfl rfl rfl (LOp.pick_false rfl rfl rfl) ?_
      refine ROps.nil ?_
      refine RunC.cond_false rfl rfl ?_
      refine RunC.skip ?_
      refine RunC.seq ?_
      rcases bsel_some h with ⟨hc3, h⟩ | ⟨hc3, h⟩
      · obtain ⟨x1, hx4, h⟩ := olet_some h
        obtain ⟨r2, hf5, h⟩ := obind_some h
        obtain ⟨x3, hx6, h⟩ := olet_some h
        obtain ⟨r4, hf7, h⟩ := obind_some h
        refine RunC.regionW ?_
        refine ROps.l (r := AV.f32 a0) rfl rfl rfl (LOp.move rfl rfl) ?_
        refine ROps.l (r := AV.f32 a1) rfl rfl rfl (LOp.move rfl rfl) ?_
        refine ROps.l (r := AV.b true) rfl rfl rfl (LOp.eqb (LOp.feq rfl (OpF.tmp rfl) (OpF.tmp rfl)) hc3) ?_
        refine ROps.l (r := AV.b true) rfl rfl rfl (LOp.move rfl rfl) ?_
        refine ROps.l (r := AV.f32 a0) rfl rfl rfl (LOp.move rfl rfl) ?_
        refine ROps.d (r := AV.f64 x1) (fs := []) (Γ' := []) rfl rfl rfl (TOp.eqr (TOp.widen (src := 34) (dst := 75) ⟨_, pun34⟩ pun75 rfl (OpF.tmp rfl)) (congrArg (AV.f .f64) hx4)) rfl ?_
        refine ROps.d (r := AV.b r2) (fs := []) (Γ' := []) rfl rfl rfl (TOp.callB (CallAs.func ent122 rfl rfl) (Bors.cons (Bor.pure rfl) Bors.nil) rfl rfl (f122_ok x1 r2 hf5)) rfl ?_
        refine ROps.l (r := AV.f32 a1) rfl rfl rfl (LOp.move rfl rfl) ?_
        refine ROps.d (r := AV.f64 x3) (fs := []) (Γ' := []) rfl rfl rfl (TOp.eqr (TOp.widen (src := 34) (dst := 75) ⟨_, pun34⟩ pun75 rfl (OpF.tmp rfl)) (congrArg (AV.f .f64) hx6)) rfl ?_
        refine ROps.d (r := AV.b r4) (fs := []) (Γ' := []) rfl rfl rfl (TOp.callB (CallAs.func ent122 rfl rfl) (Bors.cons (Bor.pure rfl) Bors.nil) rfl rfl (f122_ok x3 r4 hf7)) rfl ?_
        refine ROps.l (r := AV.b (r2 == r4)) rfl rfl rfl (LOp.eqlb pun4 rfl rfl rfl) ?_
        refine ROps.l (r := AV.b (r2 == r4)) rfl rfl rfl (LOp.pick_true rfl rfl rfl) ?_
        refine ROps.l (r := AV.b (r2 == r4)) rfl rfl rfl (LOp.assign rfl rfl) ?_
        refine ROps.nil ?_
        refine RunC.ret ?_
        have hq := Option.some.inj h
        subst q0
        exact bodyQ.pure (.inr rfl) rfl (Res.one rfl (RV.tmp rfl))
      · refine RunC.regionW ?_
        refine ROps.l (r := AV.f32 a0) rfl rfl rfl (LOp.move rfl rfl) ?_
        refine ROps.l (r := AV.f32 a1) rfl rfl rfl (LOp.move rfl rfl) ?_
        refine ROps.l (r := AV.b false) rfl rfl rfl (LOp.eqb (LOp.feq rfl (OpF.tmp rfl) (OpF.tmp rfl)) hc3) ?_
        refine ROps.l (r := AV.b false) rfl rfl rfl (LOp.move rfl rfl) ?_
        refine ROps.s rfl rfl rfl ?_
        refine ROps.s rfl rfl rfl ?_
        refine ROps.s rfl rfl rfl ?_
        refine ROps.s rfl rfl rfl ?_
        refine ROps.s rfl rfl rfl ?_
        refine ROps.s rfl rfl rfl ?_
        refine ROps.s rfl rfl rfl ?_
        refine ROps.l (r := AV.b false) rfl rfl rfl (LOp.pick_false rfl rfl rfl) ?_
        refine ROps.l (r := AV.b false) rfl rfl rfl (LOp.assign rfl rfl) ?_
        refine ROps.nil ?_
        refine RunC.ret ?_
        have hq := Option.some.inj h
        subst q0
        exact bodyQ.pure (.inr rfl) rfl (Res.one rfl (RV.tmp rfl))
noncomputable def f107_b1 (a0 : List F) (a1 : List F) (v1 : Int) : Option (LR (Int) (Unit) (Bool)) :=
  bsel (decide (v1 < (a0.length : Int))) (
    obind (at? a0 v1) fun (e2 : F) =>
    obind (at? a1 v1) fun (e3 : F) =>
    obind (f108 e2 e3) fun (r4 : Bool) =>
    bsel r4 (
      olet (IntKind.i64.wrap (v1 + 1)) fun (x5 : Int) =>
      some (LR.next x5)) (
      some (LR.ret false))) (
    some (LR.out ()))
noncomputable def f107_s1 (a0 : List F) (a1 : List F) : (Int) → Option (LR (Int) (Unit) (Bool)) := fun s => f107_b1 a0 a1 s
noncomputable def f107_k1  : Option (Bool) :=
  some true
noncomputable def f107 (a0 : List F) (a1 : List F) : Option (Bool) :=
  bsel (!decide ((a0.length : Int) = (a1.length : Int))) (
    some false) (
    obind (loopM (f107_s1 a0 a1) 0) fun z => osum z (fun _ => f107_k1) (fun r => some r))
theorem f107_ok (a0 : List F) (a1 : List F) (q0 : Bool) (h : f107 a0 a1 = some q0) : Ev Try.prog 107 [AV.sl a0.length (a0.map AV.f32), AV.sl a1.length (a1.map AV.f32), AV.fn (.func 108) [] []] [] (AV.b q0) [] := by
  refine Ev.start Try.func107 rfl rfl 0 (τ := [(0, AV.sl a0.length (a0.map AV.f32)), (1, AV.sl a1.length (a1.map AV.f32)), (2, AV.fn (.func 108) [] [])]) rfl (Γ' := []) rfl (n := 32) rfl (g := 0) rfl ?_
  unfold f107 at h
  refine RunC.seq ?_
  refine RunC.regionW ?_
  refine ROps.l (r := AV.b false) rfl rfl rfl (LOp.assign rfl rfl) ?_
  refine ROps.nil ?_
  refine RunC.seq ?_
  refine RunC.seq ?_
  rcases bsel_some h with ⟨hc1, h⟩ | ⟨hc1, h⟩
  · refine RunC.regionW ?_
    refine ROps.l (r := AV.sl a0.length (a0.map AV.f32)) rfl rfl rfl (LOp.move rfl rfl) ?_
    refine ROps.l (r := AV.i64 (a0.length : Int)) rfl rfl rfl (LOp.len_sl und38 rfl rfl) ?_
    refine ROps.l (r := AV.sl a1.length (a1.map AV.f32)) rfl rfl rfl (LOp.move rfl rfl) ?_
    refine ROps.l (r := AV.i64 (a1.length : Int)) rfl rfl rfl (LOp.len_sl und38 rfl rfl) ?_
    refine ROps.l (r := AV.b true) rfl rfl rfl (LOp.eqb (LOp.neq rfl rfl rfl) hc1) ?_
    refine ROps.nil ?_
    refine RunC.cond_true rfl rfl ?_
    refine RunC.seq ?_
    refine RunC.regionW ?_
    refine ROps.l (r := AV.b false) rfl rfl rfl (LOp.assign rfl rfl) ?_
    refine ROps.nil ?_
    refine RunC.ret ?_
    have hq := Option.some.inj h
    subst q0
    exact bodyQ.pure (.inr rfl) rfl (Res.one rfl (RV.tmp rfl))
  · refine RunC.regionW ?_
    refine ROps.l (r := AV.sl a0.length (a0.map AV.f32)) rfl rfl rfl (LOp.move rfl rfl) ?_
    refine ROps.l (r := AV.i64 (a0.length : Int)) rfl rfl rfl (LOp.len_sl und38 rfl rfl) ?_
    refine ROps.l (r := AV.sl a1.length (a1.map AV.f32)) rfl rfl rfl (LOp.move rfl rfl) ?_
    refine ROps.l (r := AV.i64 (a1.length : Int)) rfl rfl rfl (LOp.len_sl und38 rfl rfl) ?_
    refine ROps.l (r := AV.b false) rfl rfl rfl (LOp.eqb (LOp.neq rfl rfl rfl) hc1) ?_
    refine ROps.nil ?_
    refine RunC.cond_false rfl rfl ?_
    refine RunC.skip ?_
    refine RunC.seq ?_
    refine RunC.seq ?_
    refine RunC.regionW ?_
    refine ROps.l (r := AV.sl a0.length (a0.map AV.f32)) rfl rfl rfl (LOp.move rfl rfl) ?_
    refine ROps.l (r := AV.i64 (a0.length : Int)) rfl rfl rfl (LOp.len_sl und38 rfl rfl) ?_
    refine ROps.l (r := AV.i64 0) rfl rfl rfl (LOp.move rfl rfl) ?_
    refine ROps.nil ?_
    obtain ⟨z2, hz_2, h⟩ := obind_some h
    refine RunC.cutN (fun τ Γ => WeakLe τ [] ∧ DeadLe Γ [] ∧ z2 = .inl ()) ?_ ?_
    · refine RunC.block (RunC.loop (RunL.loopM (x := z2) (f107_s1 a0 a1) (fun (s : Int) τ Γ => WeakLe τ [(1, AV.sl a1.length (a1.map AV.f32)), (2, AV.fn (.func 108) [] []), (15, AV.sl a0.length (a0.map AV.f32)), (16, AV.i64 (a0.length : Int)), (17, AV.i64 s)] ∧ DeadLe Γ []) ?_ _ _ _ hz_2 ⟨⟨(ALe.refl _), (ALe.refl _), (ALe.refl _), (ALe.refl _), (ALe.refl _), trivial⟩, trivial⟩))
      rintro v1 τ2 Γ2 y2_ ⟨hw2, hd2⟩ h2_ ho2 hr2
      refine RunC.wl (τ' := [(1, AV.sl a1.length (a1.map AV.f32)), (2, AV.fn (.func 108) [] []), (15, AV.sl a0.length (a0.map AV.f32)), (16, AV.i64 (a0.length : Int)), (17, AV.i64 v1)]) (Γ' := []) hw2 hd2 ?_
      replace h2_ : f107_b1 a0 a1 v1 = some y2_ := h2_
      unfold f107_b1 at h2_
      refine RunC.seq ?_
      rcases bsel_some h2_ with ⟨hc2, h2_⟩ | ⟨hc2, h2_⟩
      · refine RunC.regionW ?_
        refine ROps.l (r := AV.b true) rfl rfl rfl (LOp.eqb (LOp.lss rfl rfl rfl) hc2) ?_
        refine ROps.nil ?_
        refine RunC.seq ?_
        refine RunC.cond_true rfl rfl ?_
        refine RunC.skip ?_
        refine RunC.seq ?_
        refine RunC.block ?_
        refine RunC.seq ?_
        obtain ⟨e2, he3, h2_⟩ := obind_some h2_
        refine RunC.regionW ?_
        refine ROps.l (r := AV.i64 v1) rfl rfl rfl (LOp.move rfl rfl) ?_
        refine ROps.l (r := AV.ptr [AV.f32 e2]) rfl rfl rfl (LOp.le (LOp.ix (f := AV.f32) und38 siz34 rfl rfl rfl rfl he3) ALe.ptr) ?_
        refine ROps.l (r := AV.f32 e2) rfl rfl rfl (LOp.load1 agg34 rfl rfl) ?_
        refine ROps.l (r := AV.i64 v1) rfl rfl rfl (LOp.assign rfl rfl) ?_
        refine ROps.l (r := AV.f32 e2) rfl rfl rfl (LOp.assign rfl rfl) ?_
        refine ROps.nil ?_
        refine RunC.seq ?_
        obtain ⟨e3, he4, h2_⟩ := obind_some h2_
        refine RunC.regionW ?_
        refine ROps.l (r := AV.sl a1.length (a1.map AV.f32)) rfl rfl rfl (LOp.move rfl rfl) ?_
        refine ROps.l (r := AV.i64 v1) rfl rfl rfl (LOp.move rfl rfl) ?_
        refine ROps.l (r := AV.ptr [AV.f32 e3]) rfl rfl rfl (LOp.le (LOp.ix (f := AV.f32) und38 siz34 rfl rfl rfl rfl he4) ALe.ptr) ?_
        refine ROps.l (r := AV.f32 e3) rfl rfl rfl (LOp.load1 agg34 rfl rfl) ?_
        refine ROps.l (r := AV.f32 e3) rfl rfl rfl (LOp.assign rfl rfl) ?_
        refine ROps.nil ?_
        refine RunC.seq ?_
        obtain ⟨r4, hf5, h2_⟩ := obind_some h2_
        rcases bsel_some h2_ with ⟨hc6, h2_⟩ | ⟨hc6, h2_⟩
        · refine RunC.regionW ?_
          refine ROps.l (r := AV.fn (.func 108) [] []) rfl rfl rfl (LOp.move rfl rfl) ?_
          refine ROps.l (r := AV.f32 e2) rfl rfl rfl (LOp.move rfl rfl) ?_
          refine ROps.l (r := AV.f32 e3) rfl rfl rfl (LOp.move rfl rfl) ?_
          refine ROps.d (r := AV.b true) (fs := []) (Γ' := []) rfl rfl rfl (TOp.eqb (TOp.callB (CallAs.fn ent108 rfl rfl rfl rfl) (Bors.cons (Bor.pure rfl) (Bors.cons (Bor.pure rfl) Bors.nil)) rfl rfl (f108_ok e2 e3 r4 hf5)) hc6) rfl ?_
          refine ROps.l (r := AV.b false) rfl rfl rfl (LOp.eqb (LOp.not rfl rfl) rfl) ?_
          refine ROps.nil ?_
          refine RunC.wl (τ' := [(1, AV.sl a1.length (a1.map AV.f32)), (2, AV.fn (.func 108) [] []), (15, AV.sl a0.length (a0.map AV.f32)), (16, AV.i64 (a0.length : Int)), (17, AV.i64 v1), (30, AV.b false)]) (Γ' := []) ⟨(ALe.refl _), (ALe.refl _), (ALe.refl _), (ALe.refl _), (ALe.refl _), (ALe.refl _), trivial⟩ trivial ?_
          refine RunC.cond_false rfl rfl ?_
          refine RunC.skip ?_
          obtain ⟨x5, hx7, h2_⟩ := olet_some h2_
          refine RunC.regionW ?_
          refine ROps.l (r := AV.i64 x5) rfl rfl rfl (LOp.eqr (LOp.add rfl rfl rfl) (congrArg (AV.ik .i64) hx7)) ?_
          refine ROps.l (r := AV.i64 x5) rfl rfl rfl (LOp.move rfl rfl) ?_
          refine ROps.nil ?_
          cases Option.some.inj h2_
          exact ⟨_, rfl, ⟨(ALe.refl _), (ALe.refl _), (ALe.refl _), (ALe.refl _), (ALe.refl _), trivial⟩, trivial⟩
        · refine RunC.regionW ?_
          refine ROps.l (r := AV.fn (.func 108) [] []) rfl rfl rfl (LOp.move rfl rfl) ?_
          refine ROps.l (r := AV.f32 e2) rfl rfl rfl (LOp.move rfl rfl) ?_
          refine ROps.l (r := AV.f32 e3) rfl rfl rfl (LOp.move rfl rfl) ?_
          refine ROps.d (r := AV.b false) (fs := []) (Γ' := []) rfl rfl rfl (TOp.eqb (TOp.callB (CallAs.fn ent108 rfl rfl rfl rfl) (Bors.cons (Bor.pure rfl) (Bors.cons (Bor.pure rfl) Bors.nil)) rfl rfl (f108_ok e2 e3 r4 hf5)) hc6) rfl ?_
          refine ROps.l (r := AV.b true) rfl rfl rfl (LOp.eqb (LOp.not rfl rfl) rfl) ?_
          refine ROps.nil ?_
          refine RunC.wl (τ' := [(1, AV.sl a1.length (a1.map AV.f32)), (2, AV.fn (.func 108) [] []), (15, AV.sl a0.length (a0.map AV.f32)), (16, AV.i64 (a0.length : Int)), (17, AV.i64 v1), (30, AV.b true)]) (Γ' := []) ⟨(ALe.refl _), (ALe.refl _), (ALe.refl _), (ALe.refl _), (ALe.refl _), (ALe.refl _), trivial⟩ trivial ?_
          refine RunC.cond_true rfl rfl ?_
          refine RunC.seq ?_
          refine RunC.regionW ?_
          refine ROps.l (r := AV.b false) rfl rfl rfl (LOp.assign rfl rfl) ?_
          refine ROps.nil ?_
          refine RunC.ret ?_
          cases Option.some.inj h2_
          have hx3_ := hr2 _ rfl
          subst hx3_
          have hq := Option.some.inj h
          subst q0
          exact bodyQ.pure (.inr rfl) rfl (Res.one rfl (RV.tmp rfl))
      · refine RunC.regionW ?_
        refine ROps.l (r := AV.b false) rfl rfl rfl (LOp.eqb (LOp.lss rfl rfl rfl) hc2) ?_
        refine ROps.nil ?_
        refine RunC.seq ?_
        refine RunC.cond_false rfl rfl ?_
        refine RunC.exit ?_
        cases Option.some.inj h2_
        have hx := ho2 _ rfl
        exact ⟨trivial, trivial, hx⟩
    · rintro τ4 Γ4 ⟨hw4, hd4, rfl⟩
      refine RunC.wl (τ' := []) (Γ' := []) hw4 hd4 ?_
      replace h : f107_k1 = some q0 := h
      unfold f107_k1 at h
      refine RunC.seq ?_
      refine RunC.regionW ?_
      refine ROps.l (r := AV.b true) rfl rfl rfl (LOp.assign rfl rfl) ?_
      refine ROps.nil ?_
      refine RunC.ret ?_
      have hq := Option.some.inj h
      subst q0
      exact bodyQ.pure (.inr rfl) rfl (Res.one rfl (RV.tmp rfl))
noncomputable def f76 (a0 : List F) (a1 : List F) : Option (Bool) :=
  obind (f107 a0 a1) fun (r1 : Bool) =>
  some r1
theorem f76_ok (a0 : List F) (a1 : List F) (q0 : Bool) (h : f76 a0 a1 = some q0) : Ev Try.prog 76 [AV.sl a0.length (a0.map AV.f32), AV.sl a1.length (a1.map AV.f32)] [] (AV.b q0) [] := by
  refine Ev.start Try.func76 rfl rfl 0 (τ := [(0, AV.sl a0.length (a0.map AV.f32)), (1, AV.sl a1.length (a1.map AV.f32))]) rfl (Γ' := []) rfl (n := 8) rfl (g := 0) rfl ?_
  unfold f76 at h
  refine RunC.seq ?_
  refine RunC.regionW ?_
  refine ROps.l (r := AV.b false) rfl rfl rfl (LOp.assign rfl rfl) ?_
  refine ROps.nil ?_
  refine RunC.seq ?_
  obtain ⟨r1, hf1, h⟩ := obind_some h
  refine RunC.regionW ?_
  refine ROps.l (r := AV.sl a0.length (a0.map AV.f32)) rfl rfl rfl (LOp.move rfl rfl) ?_
  refine ROps.l (r := AV.sl a1.length (a1.map AV.f32)) rfl rfl rfl (LOp.move rfl rfl) ?_
  refine ROps.d (r := AV.b r1) (fs := []) (Γ' := []) rfl rfl rfl (TOp.callB (CallAs.func ent107 rfl rfl) (Bors.cons (Bor.sl (fun _ => rfl)) (Bors.cons (Bor.sl (fun _ => rfl)) (Bors.cons (Bor.fn Bors.nil Bors.nil) Bors.nil))) rfl rfl (f107_ok a0 a1 r1 hf1)) rfl ?_
  refine ROps.l (r := AV.b r1) rfl rfl rfl (LOp.assign rfl rfl) ?_
  refine ROps.nil ?_
  refine RunC.ret ?_
  have hq := Option.some.inj h
  subst q0
  exact bodyQ.pure (.inr rfl) rfl (Res.one rfl (RV.tmp rfl))
noncomputable def f75 (a0 : Int) (a1 : Int) (a2 : List F) (a3 : Int) (a4 : Int) (a5 : List F) : Option (Bool) :=
  bsel (decide (a0 = a3)) (
    bsel (decide (a1 = a4)) (
      obind (f76 a2 a5) fun (r1 : Bool) =>
      some r1) (
      some false)) (
    some false)
theorem f75_ok (a0 : Int) (a1 : Int) (a2 : List F) (a3 : Int) (a4 : Int) (a5 : List F) (q0 : Bool) (h : f75 a0 a1 a2 a3 a4 a5 = some q0) : Ev Try.prog 75 [AV.agg [AV.i64 a0, AV.i64 a1, AV.sl a2.length (a2.map AV.f32)], AV.agg [AV.i64 a3, AV.i64 a4, AV.sl a5.length (a5.map AV.f32)]] [] (AV.b q0) [] := by
  refine Ev.start Try.func75 rfl rfl 0 (τ := [(0, AV.agg [AV.i64 a0, AV.i64 a1, AV.sl a2.length (a2.map AV.f32)]), (1, AV.agg [AV.i64 a3, AV.i64 a4, AV.sl a5.length (a5.map AV.f32)])]) rfl (Γ' := []) rfl (n := 24) rfl (g := 0) rfl ?_
  unfold f75 at h
  refine RunC.seq ?_
  refine RunC.regionW ?_
  refine ROps.d (r := AV.ptr [AV.i64 a0, AV.i64 a1, AV.sl a2.length (a2.map AV.f32)]) (fs := []) (Γ' := []) rfl rfl rfl (TOp.box_s rfl rfl rfl) rfl ?_
  refine ROps.d (r := AV.ptr [AV.i64 a3, AV.i64 a4, AV.sl a5.length (a5.map AV.f32)]) (fs := []) (Γ' := []) rfl rfl rfl (TOp.box_s rfl rfl rfl) rfl ?_
  refine ROps.l (r := AV.b false) rfl rfl rfl (LOp.assign rfl rfl) ?_
  refine ROps.nil ?_
  refine RunC.seq ?_
  rcases bsel_some h with ⟨hc1, h⟩ | ⟨hc1, h⟩
  · rcases bsel_some h with ⟨hc2, h⟩ | ⟨hc2, h⟩
    · obtain ⟨r1, hf3, h⟩ := obind_some h
      refine RunC.regionW ?_
      refine ROps.l (r := AV.ptr [AV.i64 a0, AV.i64 a1, AV.sl a2.length (a2.map AV.f32)]) rfl rfl rfl (LOp.fap und40 rfl siz2 rfl rfl rfl) ?_
      refine ROps.l (r := AV.i64 a0) rfl rfl rfl (LOp.load1 agg2 rfl rfl) ?_
      refine ROps.l (r := AV.ptr [AV.i64 a3, AV.i64 a4, AV.sl a5.length (a5.map AV.f32)]) rfl rfl rfl (LOp.fap und40 rfl siz2 rfl rfl rfl) ?_
      refine ROps.l (r := AV.i64 a3) rfl rfl rfl (LOp.load1 agg2 rfl rfl) ?_
      refine ROps.l (r := AV.b true) rfl rfl rfl (LOp.eqb (LOp.eql rfl rfl rfl) hc1) ?_
      refine ROps.l (r := AV.b true) rfl rfl rfl (LOp.move rfl rfl) ?_
      refine ROps.l (r := AV.ptr [AV.i64 a1, AV.sl a2.length (a2.map AV.f32)]) rfl rfl rfl (LOp.fap und40 rfl siz2 rfl rfl rfl) ?_
      refine ROps.l (r := AV.i64 a1) rfl rfl rfl (LOp.load1 agg2 rfl rfl) ?_
      refine ROps.l (r := AV.ptr [AV.i64 a4, AV.sl a5.length (a5.map AV.f32)]) rfl rfl rfl (LOp.fap und40 rfl siz2 rfl rfl rfl) ?_
      refine ROps.l (r := AV.i64 a4) rfl rfl rfl (LOp.load1 agg2 rfl rfl) ?_
      refine ROps.l (r := AV.b true) rfl rfl rfl (LOp.eqb (LOp.eql rfl rfl rfl) hc2) ?_
      refine ROps.l (r := AV.b true) rfl rfl rfl (LOp.pick_true rfl rfl rfl) ?_
      refine ROps.l (r := AV.b true) rfl rfl rfl (LOp.move rfl rfl) ?_
      refine ROps.l (r := AV.ptr [AV.sl a2.length (a2.map AV.f32)]) rfl rfl rfl (LOp.fap und40 rfl siz38 rfl rfl rfl) ?_
      refine ROps.l (r := AV.sl a2.length (a2.map AV.f32)) rfl rfl rfl (LOp.load1 agg38 rfl rfl) ?_
      refine ROps.l (r := AV.ptr [AV.sl a5.length (a5.map AV.f32)]) rfl rfl rfl (LOp.fap und40 rfl siz38 rfl rfl rfl) ?_
      refine ROps.l (r := AV.sl a5.length (a5.map AV.f32)) rfl rfl rfl (LOp.load1 agg38 rfl rfl) ?_
      refine ROps.d (r := AV.b r1) (fs := []) (Γ' := []) rfl rfl rfl (TOp.callB (CallAs.func ent76 rfl rfl) (Bors.cons (Bor.sl (fun _ => rfl)) (Bors.cons (Bor.sl (fun _ => rfl)) Bors.nil)) rfl rfl (f76_ok a2 a5 r1 hf3)) rfl ?_
      refine ROps.l (r := AV.b r1) rfl rfl rfl (LOp.pick_true rfl rfl rfl) ?_
      refine ROps.l (r := AV.b r1) rfl rfl rfl (LOp.assign rfl rfl) ?_
      refine ROps.nil ?_
      refine RunC.ret ?_
      have hq := Option.some.inj h
      subst q0
      exact bodyQ.pure (.inr rfl) rfl (Res.one rfl (RV.tmp rfl))
    · refine RunC.regionW ?_
      refine ROps.l (r := AV.ptr [AV.i64 a0, AV.i64 a1, AV.sl a2.length (a2.map AV.f32)]) rfl rfl rfl (LOp.fap und40 rfl siz2 rfl rfl rfl) ?_
      refine ROps.l (r := AV.i64 a0) rfl rfl rfl (LOp.load1 agg2 rfl rfl) ?_
      refine ROps.l (r := AV.ptr [AV.i64 a3, AV.i64 a4, AV.sl a5.length (a5.map AV.f32)]) rfl rfl rfl (LOp.fap und40 rfl siz2 rfl rfl rfl) ?_
      refine ROps.l (r := AV.i64 a3) rfl rfl rfl (LOp.load1 agg2 rfl rfl) ?_
      refine ROps.l (r := AV.b true) rfl rfl rfl (LOp.eqb (LOp.eql rfl rfl rfl) hc1) ?_
      refine ROps.l (r := AV.b true) rfl rfl rfl (LOp.move rfl rfl) ?_
      refine ROps.l (r := AV.ptr [AV.i64 a1, AV.sl a2.length (a2.map AV.f32)]) rfl rfl rfl (LOp.fap und40 rfl siz2 rfl rfl rfl) ?_
      refine ROps.l (r := AV.i64 a1) rfl rfl rfl (LOp.load1 agg2 rfl rfl) ?_
      refine ROps.l (r := AV.ptr [AV.i64 a4, AV.sl a5.length (a5.map AV.f32)]) rfl rfl rfl (LOp.fap und40 rfl siz2 rfl rfl rfl) ?_
      refine ROps.l (r := AV.i64 a4) rfl rfl rfl (LOp.load1 agg2 rfl rfl) ?_
      refine ROps.l (r := AV.b false) rfl rfl rfl (LOp.eqb (LOp.eql rfl rfl rfl) hc2) ?_
      refine ROps.l (r := AV.b false) rfl rfl rfl (LOp.pick_true rfl rfl rfl) ?_
      refine ROps.l (r := AV.b false) rfl rfl rfl (LOp.move rfl rfl) ?_
      refine ROps.s rfl rfl rfl ?_
      refine ROps.s rfl rfl rfl ?_
      refine ROps.s rfl rfl rfl ?_
      refine ROps.s rfl rfl rfl ?_
      refine ROps.s rfl rfl rfl ?_
      refine ROps.l (r := AV.b false) rfl rfl rfl (LOp.pick_false rfl rfl rfl) ?_
      refine ROps.l (r := AV.b false) rfl rfl rfl (LOp.assign rfl rfl) ?_
      refine ROps.nil ?_
      refine RunC.ret ?_
      have hq := Option.some.inj h
      subst q0
      exact bodyQ.pure (.inr rfl) rfl (Res.one rfl (RV.tmp rfl))
  · refine RunC.regionW ?_
    refine ROps.l (r := AV.ptr [AV.i64 a0, AV.i64 a1, AV.sl a2.length (a2.map AV.f32)]) rfl rfl rfl (LOp.fap und40 rfl siz2 rfl rfl rfl) ?_
    refine ROps.l (r := AV.i64 a0) rfl rfl rfl (LOp.load1 agg2 rfl rfl) ?_
    refine ROps.l (r := AV.ptr [AV.i64 a3, AV.i64 a4, AV.sl a5.length (a5.map AV.f32)]) rfl rfl rfl (LOp.fap und40 rfl siz2 rfl rfl rfl) ?_
    refine ROps.l (r := AV.i64 a3) rfl rfl rfl (LOp.load1 agg2 rfl rfl) ?_
    refine ROps.l (r := AV.b false) rfl rfl rfl (LOp.eqb (LOp.eql rfl rfl rfl) hc1) ?_
    refine ROps.l (r := AV.b false) rfl rfl rfl (LOp.move rfl rfl) ?_
    refine ROps.s rfl rfl rfl ?_
    refine ROps.s rfl rfl rfl ?_
    refine ROps.s rfl rfl rfl ?_
    refine ROps.s rfl rfl rfl ?_
    refine ROps.s rfl rfl rfl ?_
    refine ROps.l (r := AV.b false) rfl rfl rfl (LOp.pick_false rfl rfl rfl) ?_
    refine ROps.l (r := AV.b false) rfl rfl rfl (LOp.move rfl rfl) ?_
    refine ROps.s rfl rfl rfl ?_
    refine ROps.s rfl rfl rfl ?_
    refine ROps.s rfl rfl rfl ?_
    refine ROps.s rfl rfl rfl ?_
    refine ROps.s rfl rfl rfl ?_
    refine ROps.l (r := AV.b false) rfl rfl rfl (LOp.pick_false rfl rfl rfl) ?_
    refine ROps.l (r := AV.b false) rfl rfl rfl (LOp.assign rfl rfl) ?_
    refine ROps.nil ?_
    refine RunC.ret ?_
    have hq := Option.some.inj h
    subst q0
    exact bodyQ.pure (.inr rfl) rfl (Res.one rfl (RV.tmp rfl))
noncomputable def f77 (a0 : List F) (a1 : List F) (a2 : List F) (a3 : List F) : Option (Bool) :=
  obind (f76 a0 a2) fun (r1 : Bool) =>
  bsel r1 (
    obind (f76 a1 a3) fun (r2 : Bool) =>
    some r2) (
    some false)
theorem f77_ok (a0 : List F) (a1 : List F) (a2 : List F) (a3 : List F) (q0 : Bool) (h : f77 a0 a1 a2 a3 = some q0) : Ev Try.prog 77 [AV.agg [AV.sl a0.length (a0.map AV.f32), AV.sl a1.length (a1.map AV.f32)], AV.agg [AV.sl a2.length (a2.map AV.f32), AV.sl a3.length (a3.map AV.f32)]] [] (AV.b q0) [] := by
  refine Ev.start Try.func77 rfl rfl 0 (τ := [(0, AV.agg [AV.sl a0.length (a0.map AV.f32), AV.sl a1.length (a1.map AV.f32)]), (1, AV.agg [AV.sl a2.length (a2.map AV.f32), AV.sl a3.length (a3.map AV.f32)])]) rfl (Γ' := []) rfl (n := 17) rfl (g := 0) rfl ?_
  unfold f77 at h
  refine RunC.seq ?_
  refine RunC.regionW ?_
  refine ROps.d (r := AV.ptr [AV.sl a0.length (a0.map AV.f32), AV.sl a1.length (a1.map AV.f32)]) (fs := []) (Γ' := []) rfl rfl rfl (TOp.box_s rfl rfl rfl) rfl ?_
  refine ROps.d (r := AV.ptr [AV.sl a2.length (a2.map AV.f32), AV.sl a3.length (a3.map AV.f32)]) (fs := []) (Γ' := []) rfl rfl rfl (TOp.box_s rfl rfl rfl) rfl ?_
  refine ROps.l (r := AV.b false) rfl rfl rfl (LOp.assign rfl rfl) ?_
  refine ROps.nil ?_
  refine RunC.seq ?_
  obtain ⟨r1, hf1, h⟩ := obind_some h
  rcases bsel_some h with ⟨hc2, h⟩ | ⟨hc2, h⟩
  · obtain ⟨r2, hf3, h⟩ := obind_some h
    refine RunC.regionW ?_
    refine ROps.l (r := AV.ptr [AV.sl a0.length (a0.map AV.f32), AV.sl a1.length (a1.map AV.f32)]) rfl rfl rfl (LOp.fap und42 rfl siz38 rfl rfl rfl) ?_
    refine ROps.l (r := AV.sl a0.length (a0.map AV.f32)) rfl rfl rfl (LOp.load1 agg38 rfl rfl) ?_
    refine ROps.l (r := AV.ptr [AV.sl a2.length (a2.map AV.f32), AV.sl a3.length (a3.map AV.f32)]) rfl rfl rfl (LOp.fap und42 rfl siz38 rfl rfl rfl) ?_
    refine ROps.l (r := AV.sl a2.length (a2.map AV.f32)) rfl rfl rfl (LOp.load1 agg38 rfl rfl) ?_
    refine ROps.d (r := AV.b true) (fs := []) (Γ' := []) rfl rfl rfl (TOp.eqb (TOp.callB (CallAs.func ent76 rfl rfl) (Bors.cons (Bor.sl (fun _ => rfl)) (Bors.cons (Bor.sl (fun _ => rfl)) Bors.nil)) rfl rfl (f76_ok a0 a2 r1 hf1)) hc2) rfl ?_
    refine ROps.l (r := AV.b true) rfl rfl rfl (LOp.move rfl rfl) ?_
    refine ROps.l (r := AV.ptr [AV.sl a1.length (a1.map AV.f32)]) rfl rfl rfl (LOp.fap und42 rfl siz38 rfl rfl rfl) ?_
    refine ROps.l (r := AV.sl a1.length (a1.map AV.f32)) rfl rfl rfl (LOp.load1 agg38 rfl rfl) ?_
    refine ROps.l (r := AV.ptr [AV.sl a3.length (a3.map AV.f32)]) rfl rfl rfl (LOp.fap und42 rfl siz38 rfl rfl rfl) ?_
    refine ROps.l (r := AV.sl a3.length (a3.map AV.f32)) rfl rfl rfl (LOp.load1 agg38 rfl rfl) ?_
    refine ROps.d (r := AV.b r2) (fs := []) (Γ' := []) rfl rfl rfl (TOp.callB (CallAs.func ent76 rfl rfl) (Bors.cons (Bor.sl (fun _ => rfl)) (Bors.cons (Bor.sl (fun _ => rfl)) Bors.nil)) rfl rfl (f76_ok a1 a3 r2 hf3)) rfl ?_
    refine ROps.l (r := AV.b r2) rfl rfl rfl (LOp.pick_true rfl rfl rfl) ?_
    refine ROps.l (r := AV.b r2) rfl rfl rfl (LOp.assign rfl rfl) ?_
    refine ROps.nil ?_
    refine RunC.ret ?_
    have hq := Option.some.inj h
    subst q0
    exact bodyQ.pure (.inr rfl) rfl (Res.one rfl (RV.tmp rfl))
  · refine RunC.regionW ?_
    refine ROps.l (r := AV.ptr [AV.sl a0.length (a0.map AV.f32), AV.sl a1.length (a1.map AV.f32)]) rfl rfl rfl (LOp.fap und42 rfl siz38 rfl rfl rfl) ?_
    refine ROps.l (r := AV.sl a0.length (a0.map AV.f32)) rfl rfl rfl (LOp.load1 agg38 rfl rfl) ?_
    refine ROps.l (r := AV.ptr [AV.sl a2.length (a2.map AV.f32), AV.sl a3.length (a3.map AV.f32)]) rfl rfl rfl (LOp.fap und42 rfl siz38 rfl rfl rfl) ?_
    refine ROps.l (r := AV.sl a2.length (a2.map AV.f32)) rfl rfl rfl (LOp.load1 agg38 rfl rfl) ?_
    refine ROps.d (r := AV.b false) (fs := []) (Γ' := []) rfl rfl rfl (TOp.eqb (TOp.callB (CallAs.func ent76 rfl rfl) (Bors.cons (Bor.sl (fun _ => rfl)) (Bors.cons (Bor.sl (fun _ => rfl)) Bors.nil)) rfl rfl (f76_ok a0 a2 r1 hf1)) hc2) rfl ?_
    refine ROps.l (r := AV.b false) rfl rfl rfl (LOp.move rfl rfl) ?_
    refine ROps.s rfl rfl rfl ?_
    refine ROps.s rfl rfl rfl ?_
    refine ROps.s rfl rfl rfl ?_
    refine ROps.s rfl rfl rfl ?_
    refine ROps.s rfl rfl rfl ?_
    refine ROps.l (r := AV.b false) rfl rfl rfl (LOp.pick_false rfl rfl rfl) ?_
    refine ROps.l (r := AV.b false) rfl rfl rfl (LOp.assign rfl rfl) ?_
    refine ROps.nil ?_
    refine RunC.ret ?_
    have hq := Option.some.inj h
    subst q0
    exact bodyQ.pure (.inr rfl) rfl (Res.one rfl (RV.tmp rfl))
noncomputable def f109_b1 (a0 : List Int) (a1 : List Int) (v1 : Int) : Option (LR (Int) (Unit) (Bool)) :=
  bsel (decide (v1 < (a0.length : Int))) (
    obind (at? a0 v1) fun (e2 : Int) =>
    obind (at? a1 v1) fun (e3 : Int) =>
    bsel (!decide (e2 = e3)) (
      some (LR.ret false)) (
      olet (IntKind.i64.wrap (v1 + 1)) fun (x4 : Int) =>
      some (LR.next x4))) (
    some (LR.out ()))
noncomputable def f109_s1 (a0 : List Int) (a1 : List Int) : (Int) → Option (LR (Int) (Unit) (Bool)) := fun s => f109_b1 a0 a1 s
noncomputable def f109_k1  : Option (Bool) :=
  some true
noncomputable def f109 (a0 : List Int) (a1 : List Int) : Option (Bool) :=
  bsel (!decide ((a0.length : Int) = (a1.length : Int))) (
    some false) (
    obind (loopM (f109_s1 a0 a1) 0) fun z => osum z (fun _ => f109_k1) (fun r => some r))
theorem f109_ok (a0 : List Int) (a1 : List Int) (q0 : Bool) (h : f109 a0 a1 = some q0) : Ev Try.prog 109 [AV.sl a0.length (a0.map AV.i64), AV.sl a1.length (a1.map AV.i64)] [] (AV.b q0) [] := by
  refine Ev.start Try.func109 rfl rfl 0 (τ := [(0, AV.sl a0.length (a0.map AV.i64)), (1, AV.sl a1.length (a1.map AV.i64))]) rfl (Γ' := []) rfl (n := 26) rfl (g := 0) rfl ?_
  unfold f109 at h
  refine RunC.seq ?_
  refine RunC.regionW ?_
  refine ROps.l (r := AV.b false) rfl rfl rfl (LOp.assign rfl rfl) ?_
  refine ROps.nil ?_
  refine RunC.seq ?_
  refine RunC.seq ?_
  rcases bsel_some h with ⟨hc1, h⟩ | ⟨hc1, h⟩
  · refine RunC.regionW ?_
    refine ROps.l (r := AV.sl a0.length (a0.map AV.i64)) rfl rfl rfl (LOp.move rfl rfl) ?_
    refine ROps.l (r := AV.i64 (a0.length : Int)) rfl rfl rfl (LOp.len_sl und43 rfl rfl) ?_
    refine ROps.l (r := AV.sl a1.length (a1.map AV.i64)) rfl rfl rfl (LOp.move rfl rfl) ?_
    refine ROps.l (r := AV.i64 (a1.length : Int)) rfl rfl rfl (LOp.len_sl und43 rfl rfl) ?_
    refine ROps.l (r := AV.b true) rfl rfl rfl (LOp.eqb (LOp.neq rfl rfl rfl) hc1) ?_
    refine ROps.nil ?_
    refine RunC.cond_true rfl rfl ?_
    refine RunC.seq ?_
    refine RunC.regionW ?_
    refine ROps.l (r := AV.b false) rfl rfl rfl (LOp.assign rfl rfl) ?_
    refine ROps.nil ?_
    refine RunC.ret ?_
    have hq := Option.some.inj h
    subst q0
    exact bodyQ.pure (.inr rfl) rfl (Res.one rfl (RV.tmp rfl))
  · refine RunC.regionW ?_
    refine ROps.l (r := AV.sl a0.length (a0.map AV.i64)) rfl rfl rfl (LOp.move rfl rfl) ?_
    refine ROps.l (r := AV.i64 (a0.length : Int)) rfl rfl rfl (LOp.len_sl und43 rfl rfl) ?_
    refine ROps.l (r := AV.sl a1.length (a1.map AV.i64)) rfl rfl rfl (LOp.move rfl rfl) ?_
    refine ROps.l (r := AV.i64 (a1.length : Int)) rfl rfl rfl (LOp.len_sl und43 rfl rfl) ?_
    refine ROps.l (r := AV.b false) rfl rfl rfl (LOp.eqb (LOp.neq rfl rfl rfl) hc1) ?_
    refine ROps.nil ?_
    refine RunC.cond_false rfl rfl ?_
    refine RunC.skip ?_
    refine RunC.seq ?_
    refine RunC.seq ?_
    refine RunC.regionW ?_
    refine ROps.l (r := AV.sl a0.length (a0.map AV.i64)) rfl rfl rfl (LOp.move rfl rfl) ?_
    refine ROps.l (r := AV.i64 (a0.length : Int)) rfl rfl rfl (LOp.len_sl und43 rfl rfl) ?_
    refine ROps.l (r := AV.i64 0) rfl rfl rfl (LOp.move rfl rfl) ?_
    refine ROps.nil ?_
    obtain ⟨z2, hz_2, h⟩ := obind_some h
    refine RunC.cutN (fun τ Γ => WeakLe τ [] ∧ DeadLe Γ [] ∧ z2 = .inl ()) ?_ ?_
    · refine RunC.block (RunC.loop (RunL.loopM (x := z2) (f109_s1 a0 a1) (fun (s : Int) τ Γ => WeakLe τ [(0, AV.sl a0.length (a0.map AV.i64)), (1, AV.sl a1.length (a1.map AV.i64)), (12, AV.i64 (a0.length : Int)), (13, AV.i64 s)] ∧ DeadLe Γ []) ?_ _ _ _ hz_2 ⟨⟨(ALe.refl _), (ALe.refl _), (ALe.refl _), (ALe.refl _), trivial⟩, trivial⟩))
      rintro v1 τ2 Γ2 y2_ ⟨hw2, hd2⟩ h2_ ho2 hr2
      refine RunC.wl (τ' := [(0, AV.sl a0.length (a0.map AV.i64)), (1, AV.sl a1.length (a1.map AV.i64)), (12, AV.i64 (a0.length : Int)), (13, AV.i64 v1)]) (Γ' := []) hw2 hd2 ?_
      replace h2_ : f109_b1 a0 a1 v1 = some y2_ := h2_
      unfold f109_b1 at h2_
      refine RunC.seq ?_
      rcases bsel_some h2_ with ⟨hc2, h2_⟩ | ⟨hc2, h2_⟩
      · refine RunC.regionW ?_
        refine ROps.l (r := AV.b true) rfl rfl rfl (LOp.eqb (LOp.lss rfl rfl rfl) hc2) ?_
        refine ROps.nil ?_
        refine RunC.seq ?_
        refine RunC.cond_true rfl rfl ?_
        refine RunC.skip ?_
        refine RunC.seq ?_
        refine RunC.block ?_
        refine RunC.seq ?_
        refine RunC.regionW ?_
        refine ROps.l (r := AV.i64 v1) rfl rfl rfl (LOp.move rfl rfl) ?_
        refine ROps.l (r := AV.i64 v1) rfl rfl rfl (LOp.assign rfl rfl) ?_
        refine ROps.nil ?_
        refine RunC.seq ?_
        obtain ⟨e2, he3, h2_⟩ := obind_some h2_
        obtain ⟨e3, he4, h2_⟩ := obind_some h2_
        rcases bsel_some h2_ with ⟨hc5, h2_⟩ | ⟨hc5, h2_⟩
        · refine RunC.region_draw (Γ' := []) 9 mixed 
            (TR.l (r := AV.sl a0.length (a0.map AV.i64)) rfl rfl (LOp.move rfl rfl) <|
            (TR.l (r := AV.i64 v1) rfl rfl (LOp.move rfl rfl) <|
            (TR.l (r := AV.ptr [AV.i64 e2]) rfl rfl (LOp.le (LOp.ix (f := AV.i64) und43 siz2 rfl rfl rfl rfl he3) ALe.ptr) <|
            (TR.l (r := AV.i64 e2) rfl rfl (LOp.load1 agg2 rfl rfl) <|
            (TR.l (r := AV.sl a1.length (a1.map AV.i64)) rfl rfl (LOp.move rfl rfl) <|
            (TR.l (r := AV.i64 v1) rfl rfl (LOp.move rfl rfl) <|
            (TR.l (r := AV.ptr [AV.i64 e3]) rfl rfl (LOp.le (LOp.ix (f := AV.i64) und43 siz2 rfl rfl rfl rfl he4) ALe.ptr) <|
            (TR.l (r := AV.i64 e3) rfl rfl (LOp.load1 agg2 rfl rfl) <|
            (TR.l (r := AV.b true) rfl rfl (LOp.eqb (LOp.neq rfl rfl rfl) hc5) <|
            TR.nil))))))))) rfl (by kernel_rfl) rfl fills_nil rfl ?_
          iterate 9 refine ROps.dropS ?_
          refine ROps.drop0 ?_
          refine ROps.nil ?_
          refine RunC.cond_true rfl rfl ?_
          refine RunC.seq ?_
          refine RunC.regionW ?_
          refine ROps.l (r := AV.b false) rfl rfl rfl (LOp.assign rfl rfl) ?_
          refine ROps.nil ?_
          refine RunC.ret ?_
          cases Option.some.inj h2_
          have hx3_ := hr2 _ rfl
          subst hx3_
          have hq := Option.some.inj h
          subst q0
          exact bodyQ.pure (.inr rfl) rfl (Res.one rfl (RV.tmp rfl))
        · refine RunC.region_draw (Γ' := []) 9 mixed 
            (TR.l (r := AV.sl a0.length (a0.map AV.i64)) rfl rfl (LOp.move rfl rfl) <|
            (TR.l (r := AV.i64 v1) rfl rfl (LOp.move rfl rfl) <|
            (TR.l (r := AV.ptr [AV.i64 e2]) rfl rfl (LOp.le (LOp.ix (f := AV.i64) und43 siz2 rfl rfl rfl rfl he3) ALe.ptr) <|
            (TR.l (r := AV.i64 e2) rfl rfl (LOp.load1 agg2 rfl rfl) <|
            (TR.l (r := AV.sl a1.length (a1.map AV.i64)) rfl rfl (LOp.move rfl rfl) <|
            (TR.l (r := AV.i64 v1) rfl rfl (LOp.move rfl rfl) <|
            (TR.l (r := AV.ptr [AV.i64 e3]) rfl rfl (LOp.le (LOp.ix (f := AV.i64) und43 siz2 rfl rfl rfl rfl he4) ALe.ptr) <|
            (TR.l (r := AV.i64 e3) rfl rfl (LOp.load1 agg2 rfl rfl) <|
            (TR.l (r := AV.b false) rfl rfl (LOp.eqb (LOp.neq rfl rfl rfl) hc5) <|
            TR.nil))))))))) rfl (by kernel_rfl) rfl fills_nil rfl ?_
          iterate 9 refine ROps.dropS ?_
          refine ROps.drop0 ?_
          refine ROps.nil ?_
          refine RunC.cond_false rfl rfl ?_
          refine RunC.skip ?_
          obtain ⟨x4, hx6, h2_⟩ := olet_some h2_
          refine RunC.regionW ?_
          refine ROps.l (r := AV.i64 x4) rfl rfl rfl (LOp.eqr (LOp.add rfl rfl rfl) (congrArg (AV.ik .i64) hx6)) ?_
          refine ROps.l (r := AV.i64 x4) rfl rfl rfl (LOp.move rfl rfl) ?_
          refine ROps.nil ?_
          cases Option.some.inj h2_
          exact ⟨_, rfl, ⟨(ALe.refl _), (ALe.refl _), (ALe.refl _), (ALe.refl _), trivial⟩, trivial⟩
      · refine RunC.regionW ?_
        refine ROps.l (r := AV.b false) rfl rfl rfl (LOp.eqb (LOp.lss rfl rfl rfl) hc2) ?_
        refine ROps.nil ?_
        refine RunC.seq ?_
        refine RunC.cond_false rfl rfl ?_
        refine RunC.exit ?_
        cases Option.some.inj h2_
        have hx := ho2 _ rfl
        exact ⟨trivial, trivial, hx⟩
    · rintro τ4 Γ4 ⟨hw4, hd4, rfl⟩
      refine RunC.wl (τ' := []) (Γ' := []) hw4 hd4 ?_
      replace h : f109_k1 = some q0 := h
      unfold f109_k1 at h
      refine RunC.seq ?_
      refine RunC.regionW ?_
      refine ROps.l (r := AV.b true) rfl rfl rfl (LOp.assign rfl rfl) ?_
      refine ROps.nil ?_
      refine RunC.ret ?_
      have hq := Option.some.inj h
      subst q0
      exact bodyQ.pure (.inr rfl) rfl (Res.one rfl (RV.tmp rfl))
noncomputable def f78 (a0 : Int) (a1 : Int) (a2 : List Int) (a3 : Int) (a4 : Int) (a5 : List Int) : Option (Bool) :=
  bsel (decide (a0 = a3)) (
    bsel (decide (a1 = a4)) (
      obind (f109 a2 a5) fun (r1 : Bool) =>
      some r1) (
      some false)) (
    some false)
theorem f78_ok (a0 : Int) (a1 : Int) (a2 : List Int) (a3 : Int) (a4 : Int) (a5 : List Int) (q0 : Bool) (h : f78 a0 a1 a2 a3 a4 a5 = some q0) : Ev Try.prog 78 [AV.agg [AV.i64 a0, AV.i64 a1, AV.sl a2.length (a2.map AV.i64)], AV.agg [AV.i64 a3, AV.i64 a4, AV.sl a5.length (a5.map AV.i64)]] [] (AV.b q0) [] := by
  refine Ev.start Try.func78 rfl rfl 0 (τ := [(0, AV.agg [AV.i64 a0, AV.i64 a1, AV.sl a2.length (a2.map AV.i64)]), (1, AV.agg [AV.i64 a3, AV.i64 a4, AV.sl a5.length (a5.map AV.i64)])]) rfl (Γ' := []) rfl (n := 24) rfl (g := 0) rfl ?_
  unfold f78 at h
  refine RunC.seq ?_
  refine RunC.regionW ?_
  refine ROps.d (r := AV.ptr [AV.i64 a0, AV.i64 a1, AV.sl a2.length (a2.map AV.i64)]) (fs := []) (Γ' := []) rfl rfl rfl (TOp.box_s rfl rfl rfl) rfl ?_
  refine ROps.d (r := AV.ptr [AV.i64 a3, AV.i64 a4, AV.sl a5.length (a5.map AV.i64)]) (fs := []) (Γ' := []) rfl rfl rfl (TOp.box_s rfl rfl rfl) rfl ?_
  refine ROps.l (r := AV.b false) rfl rfl rfl (LOp.assign rfl rfl) ?_
  refine ROps.nil ?_
  refine RunC.seq ?_
  rcases bsel_some h with ⟨hc1, h⟩ | ⟨hc1, h⟩
  · rcases bsel_some h with ⟨hc2, h⟩ | ⟨hc2, h⟩
    · obtain ⟨r1, hf3, h⟩ := obind_some h
      refine RunC.regionW ?_
      refine ROps.l (r := AV.ptr [AV.i64 a0, AV.i64 a1, AV.sl a2.length (a2.map AV.i64)]) rfl rfl rfl (LOp.fap und45 rfl siz2 rfl rfl rfl) ?_
      refine ROps.l (r := AV.i64 a0) rfl rfl rfl (LOp.load1 agg2 rfl rfl) ?_
      refine ROps.l (r := AV.ptr [AV.i64 a3, AV.i64 a4, AV.sl a5.length (a5.map AV.i64)]) rfl rfl rfl (LOp.fap und45 rfl siz2 rfl rfl rfl) ?_
      refine ROps.l (r := AV.i64 a3) rfl rfl rfl (LOp.load1 agg2 rfl rfl) ?_
      refine ROps.l (r := AV.b true) rfl rfl rfl (LOp.eqb (LOp.eql rfl rfl rfl) hc1) ?_
      refine ROps.l (r := AV.b true) rfl rfl rfl (LOp.move rfl rfl) ?_
      refine ROps.l (r := AV.ptr [AV.i64 a1, AV.sl a2.length (a2.map AV.i64)]) rfl rfl rfl (LOp.fap und45 rfl siz2 rfl rfl rfl) ?_
      refine ROps.l (r := AV.i64 a1) rfl rfl rfl (LOp.load1 agg2 rfl rfl) ?_
      refine ROps.l (r := AV.ptr [AV.i64 a4, AV.sl a5.length (a5.map AV.i64)]) rfl rfl rfl (LOp.fap und45 rfl siz2 rfl rfl rfl) ?_
      refine ROps.l (r := AV.i64 a4) rfl rfl rfl (LOp.load1 agg2 rfl rfl) ?_
      refine ROps.l (r := AV.b true) rfl rfl rfl (LOp.eqb (LOp.eql rfl rfl rfl) hc2) ?_
      refine ROps.l (r := AV.b true) rfl rfl rfl (LOp.pick_true rfl rfl rfl) ?_
      refine ROps.l (r := AV.b true) rfl rfl rfl (LOp.move rfl rfl) ?_
      refine ROps.l (r := AV.ptr [AV.sl a2.length (a2.map AV.i64)]) rfl rfl rfl (LOp.fap und45 rfl siz43 rfl rfl rfl) ?_
      refine ROps.l (r := AV.sl a2.length (a2.map AV.i64)) rfl rfl rfl (LOp.load1 agg43 rfl rfl) ?_
      refine ROps.l (r := AV.ptr [AV.sl a5.length (a5.map AV.i64)]) rfl rfl rfl (LOp.fap und45 rfl siz43 rfl rfl rfl) ?_
      refine ROps.l (r := AV.sl a5.length (a5.map AV.i64)) rfl rfl rfl (LOp.load1 agg43 rfl rfl) ?_
      refine ROps.d (r := AV.b r1) (fs := []) (Γ' := []) rfl rfl rfl (TOp.callB (CallAs.func ent109 rfl rfl) (Bors.cons (Bor.sl (fun _ => rfl)) (Bors.cons (Bor.sl (fun _ => rfl)) Bors.nil)) rfl rfl (f109_ok a2 a5 r1 hf3)) rfl ?_
      refine ROps.l (r := AV.b r1) rfl rfl rfl (LOp.pick_true rfl rfl rfl) ?_
      refine ROps.l (r := AV.b r1) rfl rfl rfl (LOp.assign rfl rfl) ?_
      refine ROps.nil ?_
      refine RunC.ret ?_
      have hq := Option.some.inj h
      subst q0
      exact bodyQ.pure (.inr rfl) rfl (Res.one rfl (RV.tmp rfl))
    · refine RunC.regionW ?_
      refine ROps.l (r := AV.ptr [AV.i64 a0, AV.i64 a1, AV.sl a2.length (a2.map AV.i64)]) rfl rfl rfl (LOp.fap und45 rfl siz2 rfl rfl rfl) ?_
      refine ROps.l (r := AV.i64 a0) rfl rfl rfl (LOp.load1 agg2 rfl rfl) ?_
      refine ROps.l (r := AV.ptr [AV.i64 a3, AV.i64 a4, AV.sl a5.length (a5.map AV.i64)]) rfl rfl rfl (LOp.fap und45 rfl siz2 rfl rfl rfl) ?_
      refine ROps.l (r := AV.i64 a3) rfl rfl rfl (LOp.load1 agg2 rfl rfl) ?_
      refine ROps.l (r := AV.b true) rfl rfl rfl (LOp.eqb (LOp.eql rfl rfl rfl) hc1) ?_
      refine ROps.l (r := AV.b true) rfl rfl rfl (LOp.move rfl rfl) ?_
      refine ROps.l (r := AV.ptr [AV.i64 a1, AV.sl a2.length (a2.map AV.i64)]) rfl rfl rfl (LOp.fap und45 rfl siz2 rfl rfl rfl) ?_
      refine ROps.l (r := AV.i64 a1) rfl rfl rfl (LOp.load1 agg2 rfl rfl) ?_
      refine ROps.l (r := AV.ptr [AV.i64 a4, AV.sl a5.length (a5.map AV.i64)]) rfl rfl rfl (LOp.fap und45 rfl siz2 rfl rfl rfl) ?_
      refine ROps.l (r := AV.i64 a4) rfl rfl rfl (LOp.load1 agg2 rfl rfl) ?_
      refine ROps.l (r := AV.b false) rfl rfl rfl (LOp.eqb (LOp.eql rfl rfl rfl) hc2) ?_
      refine ROps.l (r := AV.b false) rfl rfl rfl (LOp.pick_true rfl rfl rfl) ?_
      refine ROps.l (r := AV.b false) rfl rfl rfl (LOp.move rfl rfl) ?_
      refine ROps.s rfl rfl rfl ?_
      refine ROps.s rfl rfl rfl ?_
      refine ROps.s rfl rfl rfl ?_
      refine ROps.s rfl rfl rfl ?_
      refine ROps.s rfl rfl rfl ?_
      refine ROps.l (r := AV.b false) rfl rfl rfl (LOp.pick_false rfl rfl rfl) ?_
      refine ROps.l (r := AV.b false) rfl rfl rfl (LOp.assign rfl rfl) ?_
      refine ROps.nil ?_
      refine RunC.ret ?_
      have hq := Option.some.inj h
      subst q0
      exact bodyQ.pure (.inr rfl) rfl (Res.one rfl (RV.tmp rfl))
  · refine RunC.regionW ?_
    refine ROps.l (r := AV.ptr [AV.i64 a0, AV.i64 a1, AV.sl a2.length (a2.map AV.i64)]) rfl rfl rfl (LOp.fap und45 rfl siz2 rfl rfl rfl) ?_
    refine ROps.l (r := AV.i64 a0) rfl rfl rfl (LOp.load1 agg2 rfl rfl) ?_
    refine ROps.l (r := AV.ptr [AV.i64 a3, AV.i64 a4, AV.sl a5.length (a5.map AV.i64)]) rfl rfl rfl (LOp.fap und45 rfl siz2 rfl rfl rfl) ?_
    refine ROps.l (r := AV.i64 a3) rfl rfl rfl (LOp.load1 agg2 rfl rfl) ?_
    refine ROps.l (r := AV.b false) rfl rfl rfl (LOp.eqb (LOp.eql rfl rfl rfl) hc1) ?_
    refine ROps.l (r := AV.b false) rfl rfl rfl (LOp.move rfl rfl) ?_
    refine ROps.s rfl rfl rfl ?_
    refine ROps.s rfl rfl rfl ?_
    refine ROps.s rfl rfl rfl ?_
    refine ROps.s rfl rfl rfl ?_
    refine ROps.s rfl rfl rfl ?_
    refine ROps.l (r := AV.b false) rfl rfl rfl (LOp.pick_false rfl rfl rfl) ?_
    refine ROps.l (r := AV.b false) rfl rfl rfl (LOp.move rfl rfl) ?_
    refine ROps.s rfl rfl rfl ?_
    refine ROps.s rfl rfl rfl ?_
    refine ROps.s rfl rfl rfl ?_
    refine ROps.s rfl rfl rfl ?_
    refine ROps.s rfl rfl rfl ?_
    refine ROps.l (r := AV.b false) rfl rfl rfl (LOp.pick_false rfl rfl rfl) ?_
    refine ROps.l (r := AV.b false) rfl rfl rfl (LOp.assign rfl rfl) ?_
    refine ROps.nil ?_
    refine RunC.ret ?_
    have hq := Option.some.inj h
    subst q0
    exact bodyQ.pure (.inr rfl) rfl (Res.one rfl (RV.tmp rfl))
noncomputable def f34 (a0 : Int) (a1 : Int) (a2 : List F) (a3 : List F) (a4 : List F) (a5 : List F) (a6 : Int) (a7 : Int) (a8 : List Int) (a9 : Int) (a10 : Int) (a11 : List F) (a12 : List F) (a13 : List F) (a14 : List F) (a15 : Int) (a16 : Int) (a17 : List Int) : Option (Bool) :=
  obind (f75 a0 a1 a2 a9 a10 a11) fun (r1 : Bool) =>
  bsel r1 (
    obind (f76 a3 a12) fun (r2 : Bool) =>
    bsel r2 (
      obind (f77 a4 a5 a13 a14) fun (r3 : Bool) =>
      bsel r3 (
        obind (f78 a6 a7 a8 a15 a16 a17) fun (r4 : Bool) =>
        some r4) (
        some false)) (
      some false)) (
    some false)
theorem f34_ok (a0 : Int) (a1 : Int) (a2 : List F) (a3 : List F) (a4 : List F) (a5 : List F) (a6 : Int) (a7 : Int) (a8 : List Int) (a9 : Int) (a10 : Int) (a11 : List F) (a12 : List F) (a13 : List F) (a14 : List F) (a15 : Int) (a16 : Int) (a17 : List Int) (q0 : Bool) (h : f34 a0 a1 a2 a3 a4 a5 a6 a7 a8 a9 a10 a11 a12 a13 a14 a15 a16 a17 = some q0) : Ev Try.prog 34 [AV.agg [AV.i64 a0, AV.i64 a1, AV.sl a2.length (a2.map AV.f32), AV.sl a3.length (a3.map AV.f32), AV.sl a4.length (a4.map AV.f32), AV.sl a5.length (a5.map AV.f32), AV.i64 a6, AV.i64 a7, AV.sl a8.length (a8.map AV.i64)], AV.agg [AV.i64 a9, AV.i64 a10, AV.sl a11.length (a11.map AV.f32), AV.sl a12.length (a12.map AV.f32), AV.sl a13.length (a13.map AV.f32), AV.sl a14.length (a14.map AV.f32), AV.i64 a15, AV.i64 a16, AV.sl a17.length (a17.map AV.i64)]] [] (AV.b q0) [] := by
  refine Ev.start Try.func34 rfl rfl 0 (τ := [(0, AV.agg [AV.i64 a0, AV.i64 a1, AV.sl a2.length (a2.map AV.f32), AV.sl a3.length (a3.map AV.f32), AV.sl a4.length (a4.map AV.f32), AV.sl a5.length (a5.map AV.f32), AV.i64 a6, AV.i64 a7, AV.sl a8.length (a8.map AV.i64)]), (1, AV.agg [AV.i64 a9, AV.i64 a10, AV.sl a11.length (a11.map AV.f32), AV.sl a12.length (a12.map AV.f32), AV.sl a13.length (a13.map AV.f32), AV.sl a14.length (a14.map AV.f32), AV.i64 a15, AV.i64 a16, AV.sl a17.length (a17.map AV.i64)])]) rfl (Γ' := []) rfl (n := 31) rfl (g := 0) rfl ?_
  unfold f34 at h
  refine RunC.seq ?_
  refine RunC.regionW ?_
  refine ROps.d (r := AV.ptr [AV.i64 a0, AV.i64 a1, AV.sl a2.length (a2.map AV.f32), AV.sl a3.length (a3.map AV.f32), AV.sl a4.length (a4.map AV.f32), AV.sl a5.length (a5.map AV.f32), AV.i64 a6, AV.i64 a7, AV.sl a8.length (a8.map AV.i64)]) (fs := []) (Γ' := []) rfl rfl rfl (TOp.box_s rfl rfl rfl) rfl ?_
  refine ROps.d (r := AV.ptr [AV.i64 a9, AV.i64 a10, AV.sl a11.length (a11.map AV.f32), AV.sl a12.length (a12.map AV.f32), AV.sl a13.length (a13.map AV.f32), AV.sl a14.length (a14.map AV.f32), AV.i64 a15, AV.i64 a16, AV.sl a17.length (a17.map AV.i64)]) (fs := []) (Γ' := []) rfl rfl rfl (TOp.box_s rfl rfl rfl) rfl ?_
  refine ROps.l (r := AV.b false) rfl rfl rfl (LOp.assign rfl rfl) ?_
  refine ROps.nil ?_
  refine RunC.seq ?_
  obtain ⟨r1, hf1, h⟩ := obind_some h
  rcases bsel_some h with ⟨hc2, h⟩ | ⟨hc2, h⟩
  · obtain ⟨r2, hf3, h⟩ := obind_some h
    rcases bsel_some h with ⟨hc4, h⟩ | ⟨hc4, h⟩
    · obtain ⟨r3, hf5, h⟩ := obind_some h
      rcases bsel_some h with ⟨hc6, h⟩ | ⟨hc6, h⟩
      · obtain ⟨r4, hf7, h⟩ := obind_some h
        refine RunC.regionW ?_
        refine ROps.l (r := AV.ptr [AV.i64 a0, AV.i64 a1, AV.sl a2.length (a2.map AV.f32), AV.sl a3.length (a3.map AV.f32), AV.sl a4.length (a4.map AV.f32), AV.sl a5.length (a5.map AV.f32), AV.i64 a6, AV.i64 a7, AV.sl a8.length (a8.map AV.i64)]) rfl rfl rfl (LOp.fap und47 rfl siz40 rfl rfl rfl) ?_
        refine ROps.l (r := AV.agg [AV.i64 a0, AV.i64 a1, AV.sl a2.length (a2.map AV.f32)]) rfl rfl rfl (LOp.loadAgg agg40 siz40 rfl rfl rfl rfl) ?_
        refine ROps.l (r := AV.ptr [AV.i64 a9, AV.i64 a10, AV.sl a11.length (a11.map AV.f32), AV.sl a12.length (a12.map AV.f32), AV.sl a13.length (a13.map AV.f32), AV.sl a14.length (a14.map AV.f32), AV.i64 a15, AV.i64 a16, AV.sl a17.length (a17.map AV.i64)]) rfl rfl rfl (LOp.fap und47 rfl siz40 rfl rfl rfl) ?_
        refine ROps.l (r := AV.agg [AV.i64 a9, AV.i64 a10, AV.sl a11.length (a11.map AV.f32)]) rfl rfl rfl (LOp.loadAgg agg40 siz40 rfl rfl rfl rfl) ?_
        refine ROps.d (r := AV.b true) (fs := []) (Γ' := []) rfl rfl rfl (TOp.eqb (TOp.callB (CallAs.func ent75 rfl rfl) (Bors.cons (Bor.agg (Bors.cons (Bor.pure rfl) (Bors.cons (Bor.pure rfl) (Bors.cons (Bor.sl (fun _ => rfl)) Bors.nil)))) (Bors.cons (Bor.agg (Bors.cons (Bor.pure rfl) (Bors.cons (Bor.pure rfl) (Bors.cons (Bor.sl (fun _ => rfl)) Bors.nil)))) Bors.nil)) rfl rfl (f75_ok a0 a1 a2 a9 a10 a11 r1 hf1)) hc2) rfl ?_
        refine ROps.l (r := AV.b true) rfl rfl rfl (LOp.move rfl rfl) ?_
        refine ROps.l (r := AV.ptr [AV.sl a3.length (a3.map AV.f32), AV.sl a4.length (a4.map AV.f32), AV.sl a5.length (a5.map AV.f32), AV.i64 a6, AV.i64 a7, AV.sl a8.length (a8.map AV.i64)]) rfl rfl rfl (LOp.fap und47 rfl siz38 rfl rfl rfl) ?_
        refine ROps.l (r := AV.sl a3.length (a3.map AV.f32)) rfl rfl rfl (LOp.load1 agg38 rfl rfl) ?_
        refine ROps.l (r := AV.ptr [AV.sl a12.length (a12.map AV.f32), AV.sl a13.length (a13.map AV.f32), AV.sl a14.length (a14.map AV.f32), AV.i64 a15, AV.i64 a16, AV.sl a17.length (a17.map AV.i64)]) rfl rfl rfl (LOp.fap und47 rfl siz38 rfl rfl rfl) ?_
        refine ROps.l (r := AV.sl a12.length (a12.map AV.f32)) rfl rfl rfl (LOp.load1 agg38 rfl rfl) ?_
        refine ROps.d (r := AV.b true) (fs := []) (Γ' := []) rfl rfl rfl (TOp.eqb (TOp.callB (CallAs.func ent76 rfl rfl) (Bors.cons (Bor.sl (fun _ => rfl)) (Bors.cons (Bor.sl (fun _ => rfl)) Bors.nil)) rfl rfl (f76_ok a3 a12 r2 hf3)) hc4) rfl ?_
        refine ROps.l (r := AV.b true) rfl rfl rfl (LOp.pick_true rfl rfl rfl) ?_
        refine ROps.l (r := AV.b true) rfl rfl rfl (LOp.move rfl rfl) ?_
        refine ROps.l (r := AV.ptr [AV.sl a4.length (a4.map AV.f32), AV.sl a5.length (a5.map AV.f32), AV.i64 a6, AV.i64 a7, AV.sl a8.length (a8.map AV.i64)]) rfl rfl rfl (LOp.fap und47 rfl siz42 rfl rfl rfl) ?_
        refine ROps.l (r := AV.agg [AV.sl a4.length (a4.map AV.f32), AV.sl a5.length (a5.map AV.f32)]) rfl rfl rfl (LOp.loadAgg agg42 siz42 rfl rfl rfl rfl) ?_
        refine ROps.l (r := AV.ptr [AV.sl a13.length (a13.map AV.f32), AV.sl a14.length (a14.map AV.f32), AV.i64 a15, AV.i64 a16, AV.sl a17.length (a17.map AV.i64)]) rfl rfl rfl (LOp.fap und47 rfl siz42 rfl rfl rfl) ?_
        refine ROps.l (r := AV.agg [AV.sl a13.length (a13.map AV.f32), AV.sl a14.length (a14.map AV.f32)]) rfl rfl rfl (LOp.loadAgg agg42 siz42 rfl rfl rfl rfl) ?_
        refine ROps.d (r := AV.b true) (fs := []) (Γ' := []) rfl rfl rfl (TOp.eqb (TOp.callB (CallAs.func ent77 rfl rfl) (Bors.cons (Bor.agg (Bors.cons (Bor.sl (fun _ => rfl)) (Bors.cons (Bor.sl (fun _ => rfl)) Bors.nil))) (Bors.cons (Bor.agg (Bors.cons (Bor.sl (fun _ => rfl)) (Bors.cons (Bor.sl (fun _ => rfl)) Bors.nil))) Bors.nil)) rfl rfl (f77_ok a4 a5 a13 a14 r3 hf5)) hc6) rfl ?_
        refine ROps.l (r := AV.b true) rfl rfl rfl (LOp.pick_true rfl rfl rfl) ?_
        refine ROps.l (r := AV.b true) rfl rfl rfl (LOp.move rfl rfl) ?_
        refine ROps.l (r := AV.ptr [AV.i64 a6, AV.i64 a7, AV.sl a8.length (a8.map AV.i64)]) rfl rfl rfl (LOp.fap und47 rfl siz45 rfl rfl rfl) ?_
        refine ROps.l (r := AV.agg [AV.i64 a6, AV.i64 a7, AV.sl a8.length (a8.map AV.i64)]) rfl rfl rfl (LOp.loadAgg agg45 siz45 rfl rfl rfl rfl) ?_
        refine ROps.l (r := AV.ptr [AV.i64 a15, AV.i64 a16, AV.sl a17.length (a17.map AV.i64)]) rfl rfl rfl (LOp.fap und47 rfl siz45 rfl rfl rfl) ?_
        refine ROps.l (r := AV.agg [AV.i64 a15, AV.i64 a16, AV.sl a17.length (a17.map AV.i64)]) rfl rfl rfl (LOp.loadAgg agg45 siz45 rfl rfl rfl rfl) ?_
        refine ROps.d (r := AV.b r4) (fs := []) (Γ' := []) rfl rfl rfl (TOp.callB (CallAs.func ent78 rfl rfl) (Bors.cons (Bor.agg (Bors.cons (Bor.pure rfl) (Bors.cons (Bor.pure rfl) (Bors.cons (Bor.sl (fun _ => rfl)) Bors.nil)))) (Bors.cons (Bor.agg (Bors.cons (Bor.pure rfl) (Bors.cons (Bor.pure rfl) (Bors.cons (Bor.sl (fun _ => rfl)) Bors.nil)))) Bors.nil)) rfl rfl (f78_ok a6 a7 a8 a15 a16 a17 r4 hf7)) rfl ?_
        refine ROps.l (r := AV.b r4) rfl rfl rfl (LOp.pick_true rfl rfl rfl) ?_
        refine ROps.l (r := AV.b r4) rfl rfl rfl (LOp.assign rfl rfl) ?_
        refine ROps.nil ?_
        refine RunC.ret ?_
        have hq := Option.some.inj h
        subst q0
        exact bodyQ.pure (.inr rfl) rfl (Res.one rfl (RV.tmp rfl))
      · refine RunC.regionW ?_
        refine ROps.l (r := AV.ptr [AV.i64 a0, AV.i64 a1, AV.sl a2.length (a2.map AV.f32), AV.sl a3.length (a3.map AV.f32), AV.sl a4.length (a4.map AV.f32), AV.sl a5.length (a5.map AV.f32), AV.i64 a6, AV.i64 a7, AV.sl a8.length (a8.map AV.i64)]) rfl rfl rfl (LOp.fap und47 rfl siz40 rfl rfl rfl) ?_
        refine ROps.l (r := AV.agg [AV.i64 a0, AV.i64 a1, AV.sl a2.length (a2.map AV.f32)]) rfl rfl rfl (LOp.loadAgg agg40 siz40 rfl rfl rfl rfl) ?_
        refine ROps.l (r := AV.ptr [AV.i64 a9, AV.i64 a10, AV.sl a11.length (a11.map AV.f32), AV.sl a12.length (a12.map AV.f32), AV.sl a13.length (a13.map AV.f32), AV.sl a14.length (a14.map AV.f32), AV.i64 a15, AV.i64 a16, AV.sl a17.length (a17.map AV.i64)]) rfl rfl rfl (LOp.fap und47 rfl siz40 rfl rfl rfl) ?_
        refine ROps.l (r := AV.agg [AV.i64 a9, AV.i64 a10, AV.sl a11.length (a11.map AV.f32)]) rfl rfl rfl (LOp.loadAgg agg40 siz40 rfl rfl rfl rfl) ?_
        refine ROps.d (r := AV.b true) (fs := []) (Γ' := []) rfl rfl rfl (TOp.eqb (TOp.callB (CallAs.func ent75 rfl rfl) (Bors.cons (Bor.agg (Bors.cons (Bor.pure rfl) (Bors.cons (Bor.pure rfl) (Bors.cons (Bor.sl (fun _ => rfl)) Bors.nil)))) (Bors.cons (Bor.agg (Bors.cons (Bor.pure rfl) (Bors.cons (Bor.pure rfl) (Bors.cons (Bor.sl (fun _ => rfl)) Bors.nil)))) Bors.nil)) rfl rfl (f75_ok a0 a1 a2 a9 a10 a11 r1 hf1)) hc2) rfl ?_
        refine ROps.l (r := AV.b true) rfl rfl rfl (LOp.move rfl rfl) ?_
        refine ROps.l (r := AV.ptr [AV.sl a3.length (a3.map AV.f32), AV.sl a4.length (a4.map AV.f32), AV.sl a5.length (a5.map AV.f32), AV.i64 a6, AV.i64 a7, AV.sl a8.length (a8.map AV.i64)]) rfl rfl rfl (LOp.fap und47 rfl siz38 rfl rfl rfl) ?_
        refine ROps.l (r := AV.sl a3.length (a3.map AV.f32)) rfl rfl rfl (LOp.load1 agg38 rfl rfl) ?_
        refine ROps.l (r := AV.ptr [AV.sl a12.length (a12.map AV.f32), AV.sl a13.length (a13.map AV.f32), AV.sl a14.length (a14.map AV.f32), AV.i64 a15, AV.i64 a16, AV.sl a17.length (a17.map AV.i64)]) rfl rfl rfl (LOp.fap und47 rfl siz38 rfl rfl rfl) ?_
        refine ROps.l (r := AV.sl a12.length (a12.map AV.f32)) rfl rfl rfl (LOp.load1 agg38 rfl rfl) ?_
        refine ROps.d (r := AV.b true) (fs := []) (Γ' := []) rfl rfl rfl (TOp.eqb (TOp.callB (CallAs.func ent76 rfl rfl) (Bors.cons (Bor.sl (fun _ => rfl)) (Bors.cons (Bor.sl (fun _ => rfl)) Bors.nil)) rfl rfl (f76_ok a3 a12 r2 hf3)) hc4) rfl ?_
        refine ROps.l (r := AV.b true) rfl rfl rfl (LOp.pick_true rfl rfl rfl) ?_
        refine ROps.l (r := AV.b true) rfl rfl rfl (LOp.move rfl rfl) ?_
        refine ROps.l (r := AV.ptr [AV.sl a4.length (a4.map AV.f32), AV.sl a5.length (a5.map AV.f32), AV.i64 a6, AV.i64 a7, AV.sl a8.length (a8.map AV.i64)]) rfl rfl rfl (LOp.fap und47 rfl siz42 rfl rfl rfl) ?_
        refine ROps.l (r := AV.agg [AV.sl a4.length (a4.map AV.f32), AV.sl a5.length (a5.map AV.f32)]) rfl rfl rfl (LOp.loadAgg agg42 siz42 rfl rfl rfl rfl) ?_
        refine ROps.l (r := AV.ptr [AV.sl a13.length (a13.map AV.f32), AV.sl a14.length (a14.map AV.f32), AV.i64 a15, AV.i64 a16, AV.sl a17.length (a17.map AV.i64)]) rfl rfl rfl (LOp.fap und47 rfl siz42 rfl rfl rfl) ?_
        refine ROps.l (r := AV.agg [AV.sl a13.length (a13.map AV.f32), AV.sl a14.length (a14.map AV.f32)]) rfl rfl rfl (LOp.loadAgg agg42 siz42 rfl rfl rfl rfl) ?_
        refine ROps.d (r := AV.b false) (fs := []) (Γ' := []) rfl rfl rfl (TOp.eqb (TOp.callB (CallAs.func ent77 rfl rfl) (Bors.cons (Bor.agg (Bors.cons (Bor.sl (fun _ => rfl)) (Bors.cons (Bor.sl (fun _ => rfl)) Bors.nil))) (Bors.cons (Bor.agg (Bors.cons (Bor.sl (fun _ => rfl)) (Bors.cons (Bor.sl (fun _ => rfl)) Bors.nil))) Bors.nil)) rfl rfl (f77_ok a4 a5 a13 a14 r3 hf5)) hc6) rfl ?_
        refine ROps.l (r := AV.b false) rfl rfl rfl (LOp.pick_true rfl rfl rfl) ?_
        refine ROps.l (r := AV.b false) rfl rfl rfl (LOp.move rfl rfl) ?_
        refine ROps.s rfl rfl rfl ?_
        refine ROps.s rfl rfl rfl ?_
        refine ROps.s rfl rfl rfl ?_
        refine ROps.s rfl rfl rfl ?_
        refine ROps.s rfl rfl rfl ?_
        refine ROps.l (r := AV.b false) rfl rfl rfl (LOp.pick_false rfl rfl rfl) ?_
        refine ROps.l (r := AV.b false) rfl rfl rfl (LOp.assign rfl rfl) ?_
        refine ROps.nil ?_
        refine RunC.ret ?_
        have hq := Option.some.inj h
        subst q0
        exact bodyQ.pure (.inr rfl) rfl (Res.one rfl (RV.tmp rfl))
    · refine RunC.regionW ?_
      refine ROps.l (r := AV.ptr [AV.i64 a0, AV.i64 a1, AV.sl a2.length (a2.map AV.f32), AV.sl a3.length (a3.map AV.f32), AV.sl a4.length (a4.map AV.f32), AV.sl a5.length (a5.map AV.f32), AV.i64 a6, AV.i64 a7, AV.sl a8.length (a8.map AV.i64)]) rfl rfl rfl (LOp.fap und47 rfl siz40 rfl rfl rfl) ?_
      refine ROps.l (r := AV.agg [AV.i64 a0, AV.i64 a1, AV.sl a2.length (a2.map AV.f32)]) rfl rfl rfl (LOp.loadAgg agg40 siz40 rfl rfl rfl rfl) ?_
      refine ROps.l (r := AV.ptr [AV.i64 a9, AV.i64 a10, AV.sl a11.length (a11.map AV.f32), AV.sl a12.length (a12.map AV.f32), AV.sl a13.length (a13.map AV.f32), AV.sl a14.length (a14.map AV.f32), AV.i64 a15, AV.i64 a16, AV.sl a17.length (a17.map AV.i64)]) rfl rfl rfl (LOp.fap und47 rfl siz40 rfl rfl rfl) ?_
      refine ROps.l (r := AV.agg [AV.i64 a9, AV.i64 a10, AV.sl a11.length (a11.map AV.f32)]) rfl rfl rfl (LOp.loadAgg agg40 siz40 rfl rfl rfl rfl) ?_
      refine ROps.d (r := AV.b true) (fs := []) (Γ' := []) rfl rfl rfl (TOp.eqb (TOp.callB (CallAs.func ent75 rfl rfl) (Bors.cons (Bor.agg (Bors.cons (Bor.pure rfl) (Bors.cons (Bor.pure rfl) (Bors.cons (Bor.sl (fun _ => rfl)) Bors.nil)))) (Bors.cons (Bor.agg (Bors.cons (Bor.pure rfl) (Bors.cons (Bor.pure rfl) (Bors.cons (Bor.sl (fun _ => rfl)) Bors.nil)))) Bors.nil)) rfl rfl (f75_ok a0 a1 a2 a9 a10 a11 r1 hf1)) hc2) rfl ?_
      refine ROps.l (r := AV.b true) rfl rfl rfl (LOp.move rfl rfl) ?_
      refine ROps.l (r := AV.ptr [AV.sl a3.length (a3.map AV.f32), AV.sl a4.length (a4.map AV.f32), AV.sl a5.length (a5.map AV.f32), AV.i64 a6, AV.i64 a7, AV.sl a8.length (a8.map AV.i64)]) rfl rfl rfl (LOp.fap und47 rfl siz38 rfl rfl rfl) ?_
      refine ROps.l (r := AV.sl a3.length (a3.map AV.f32)) rfl rfl rfl (LOp.load1 agg38 rfl rfl) ?_
      refine ROps.l (r := AV.ptr [AV.sl a12.length (a12.map AV.f32), AV.sl a13.length (a13.map AV.f32), AV.sl a14.length (a14.map AV.f32), AV.i64 a15, AV.i64 a16, AV.sl a17.length (a17.map AV.i64)]) rfl rfl rfl (LOp.fap und47 rfl siz38 rfl rfl rfl) ?_
      refine ROps.l (r := AV.sl a12.length (a12.map AV.f32)) rfl rfl rfl (LOp.load1 agg38 rfl rfl) ?_
      refine ROps.d (r := AV.b false) (fs := []) (Γ' := []) rfl rfl rfl (TOp.eqb (TOp.callB (CallAs.func ent76 rfl rfl) (Bors.cons (Bor.sl (fun _ => rfl)) (Bors.cons (Bor.sl (fun _ => rfl)) Bors.nil)) rfl rfl (f76_ok a3 a12 r2 hf3)) hc4) rfl ?_
      refine ROps.l (r := AV.b false) rfl rfl rfl (LOp.pick_true rfl rfl rfl) ?_
      refine ROps.l (r := AV.b false) rfl rfl rfl (LOp.move rfl rfl) ?_
      refine ROps.s rfl rfl rfl ?_
      refine ROps.s rfl rfl rfl ?_
      refine ROps.s rfl rfl rfl ?_
      refine ROps.s rfl rfl rfl ?_
      refine ROps.s rfl rfl rfl ?_
      refine ROps.l (r := AV.b false) rfl rfl rfl (LOp.pick_false rfl rfl rfl) ?_
      refine ROps.l (r := AV.b false) rfl rfl rfl (LOp.move rfl rfl) ?_
      refine ROps.s rfl rfl rfl ?_
      refine ROps.s rfl rfl rfl ?_
      refine ROps.s rfl rfl rfl ?_
      refine ROps.s rfl rfl rfl ?_
      refine ROps.s rfl rfl rfl ?_
      refine ROps.l (r := AV.b false) rfl rfl rfl (LOp.pick_false rfl rfl rfl) ?_
      refine ROps.l (r := AV.b false) rfl rfl rfl (LOp.assign rfl rfl) ?_
      refine ROps.nil ?_
      refine RunC.ret ?_
      have hq := Option.some.inj h
      subst q0
      exact bodyQ.pure (.inr rfl) rfl (Res.one rfl (RV.tmp rfl))
  · refine RunC.regionW ?_
    refine ROps.l (r := AV.ptr [AV.i64 a0, AV.i64 a1, AV.sl a2.length (a2.map AV.f32), AV.sl a3.length (a3.map AV.f32), AV.sl a4.length (a4.map AV.f32), AV.sl a5.length (a5.map AV.f32), AV.i64 a6, AV.i64 a7, AV.sl a8.length (a8.map AV.i64)]) rfl rfl rfl (LOp.fap und47 rfl siz40 rfl rfl rfl) ?_
    refine ROps.l (r := AV.agg [AV.i64 a0, AV.i64 a1, AV.sl a2.length (a2.map AV.f32)]) rfl rfl rfl (LOp.loadAgg agg40 siz40 rfl rfl rfl rfl) ?_
    refine ROps.l (r := AV.ptr [AV.i64 a9, AV.i64 a10, AV.sl a11.length (a11.map AV.f32), AV.sl a12.length (a12.map AV.f32), AV.sl a13.length (a13.map AV.f32), AV.sl a14.length (a14.map AV.f32), AV.i64 a15, AV.i64 a16, AV.sl a17.length (a17.map AV.i64)]) rfl rfl rfl (LOp.fap und47 rfl siz40 rfl rfl rfl) ?_
    refine ROps.l (r := AV.agg [AV.i64 a9, AV.i64 a10, AV.sl a11.length (a11.map AV.f32)]) rfl rfl rfl (LOp.loadAgg agg40 siz40 rfl rfl rfl rfl) ?_
    refine ROps.d (r := AV.b false) (fs := []) (Γ' := []) rfl rfl rfl (TOp.eqb (TOp.callB (CallAs.func ent75 rfl rfl) (Bors.cons (Bor.agg (Bors.cons (Bor.pure rfl) (Bors.cons (Bor.pure rfl) (Bors.cons (Bor.sl (fun _ => rfl)) Bors.nil)))) (Bors.cons (Bor.agg (Bors.cons (Bor.pure rfl) (Bors.cons (Bor.pure rfl) (Bors.cons (Bor.sl (fun _ => rfl)) Bors.nil)))) Bors.nil)) rfl rfl (f75_ok a0 a1 a2 a9 a10 a11 r1 hf1)) hc2) rfl ?_
    refine ROps.l (r := AV.b false) rfl rfl rfl (LOp.move rfl rfl) ?_
    refine ROps.s rfl rfl rfl ?_
    refine ROps.s rfl rfl rfl ?_
    refine ROps.s rfl rfl rfl ?_
    refine ROps.s rfl rfl rfl ?_
    refine ROps.s rfl rfl rfl ?_
    refine ROps.l (r := AV.b false) rfl rfl rfl (LOp.pick_false rfl rfl rfl) ?_
    refine ROps.l (r := AV.b false) rfl rfl rfl (LOp.move rfl rfl) ?_
    refine ROps.s rfl rfl rfl ?_
    refine ROps.s rfl rfl rfl ?_
    refine ROps.s rfl rfl rfl ?_
    refine ROps.s rfl rfl rfl ?_
    refine ROps.s rfl rfl rfl ?_
    refine ROps.l (r := AV.b false) rfl rfl rfl (LOp.pick_false rfl rfl rfl) ?_
    refine ROps.l (r := AV.b false) rfl rfl rfl (LOp.move rfl rfl) ?_
    refine ROps.s rfl rfl rfl ?_
    refine ROps.s rfl rfl rfl ?_
    refine ROps.s rfl rfl rfl ?_
    refine ROps.s rfl rfl rfl ?_
    refine ROps.s rfl rfl rfl ?_
    refine ROps.l (r := AV.b false) rfl rfl rfl (LOp.pick_false rfl rfl rfl) ?_
    refine ROps.l (r := AV.b false) rfl rfl rfl (LOp.assign rfl rfl) ?_
    refine ROps.nil ?_
    refine RunC.ret ?_
    have hq := Option.some.inj h
    subst q0
    exact bodyQ.pure (.inr rfl) rfl (Res.one rfl (RV.tmp rfl))
noncomputable def f93_k1 (a0 : F) (a1 : F) : Option (Bool) :=
  some (feq .f64 a0 a1)
noncomputable def f93 (a0 : F) (a1 : F) : Option (Bool) :=
  bsel (!feq .f64 a0 a0) (
    some (!feq .f64 a1 a1)) (
    bsel (!feq .f64 a1 a1) (
      some false) (
      bsel (feq .f64 a0 (some 0)) (
        bsel (feq .f64 a1 (some 0)) (
          olet (fop .quo .f64 (some 4607182418800017408) a0) fun (x1 : F) =>
          olet (fop .quo .f64 (some 4607182418800017408) a1) fun (x2 : F) =>
          some ((flt .f64 (some 0) x1) == (flt .f64 (some 0) x2))) (
          f93_k1 a0 a1)) (
        f93_k1 a0 a1)))
theorem f93_ok (a0 : F) (a1 : F) (q0 : Bool) (h : f93 a0 a1 = some q0) : Ev Try.prog 93 [AV.f64 a0, AV.f64 a1] [] (AV.b q0) [] := by
  refine Ev.start Try.func93 rfl rfl 0 (τ := [(0, AV.f64 a0), (1, AV.f64 a1)]) rfl (Γ' := []) rfl (n := 37) rfl (g := 0) rfl ?_
  unfold f93 at h
  refine RunC.seq ?_
  refine RunC.regionW ?_
  refine ROps.l (r := AV.b false) rfl rfl rfl (LOp.assign rfl rfl) ?_
  refine ROps.nil ?_
  refine RunC.seq ?_
  refine RunC.seq ?_
  rcases bsel_some h with ⟨hc1, h⟩ | ⟨hc1, h⟩
  · refine RunC.regionW ?_
    refine ROps.l (r := AV.f64 a0) rfl rfl rfl (LOp.move rfl rfl) ?_
    refine ROps.l (r := AV.f64 a0) rfl rfl rfl (LOp.move rfl rfl) ?_
    refine ROps.l (r := AV.b true) rfl rfl rfl (LOp.eqb (LOp.fne rfl (OpF.tmp rfl) (OpF.tmp rfl)) hc1) ?_
    refine ROps.l (r := AV.b true) rfl rfl rfl (LOp.move rfl rfl) ?_
    refine ROps.s rfl rfl rfl ?_
    refine ROps.s rfl rfl rfl ?_
    refine ROps.s rfl rfl rfl ?_
    refine ROps.l (r := AV.b true) rfl rfl rfl (LOp.pick_true rfl rfl rfl) ?_
    refine ROps.nil ?_
    refine RunC.cond_true rfl rfl ?_
    refine RunC.seq ?_
    refine RunC.regionW ?_
    refine ROps.l (r := AV.f64 a0) rfl rfl rfl (LOp.move rfl rfl) ?_
    refine ROps.l (r := AV.f64 a0) rfl rfl rfl (LOp.move rfl rfl) ?_
    refine ROps.l (r := AV.b true) rfl rfl rfl (LOp.eqb (LOp.fne rfl (OpF.tmp rfl) (OpF.tmp rfl)) hc1) ?_
    refine ROps.l (r := AV.b true) rfl rfl rfl (LOp.move rfl rfl) ?_
    refine ROps.l (r := AV.f64 a1) rfl rfl rfl (LOp.move rfl rfl) ?_
    refine ROps.l (r := AV.f64 a1) rfl rfl rfl (LOp.move rfl rfl) ?_
    refine ROps.l (r := AV.b (!feq .f64 a1 a1)) rfl rfl rfl (LOp.fne rfl (OpF.tmp rfl) (OpF.tmp rfl)) ?_
    refine ROps.l (r := AV.b (!feq .f64 a1 a1)) rfl rfl rfl (LOp.pick_true rfl rfl rfl) ?_
    refine ROps.l (r := AV.b (!feq .f64 a1 a1)) rfl rfl rfl (LOp.assign rfl rfl) ?_
    refine ROps.nil ?_
    refine RunC.ret ?_
    have hq := Option.some.inj h
    subst q0
    exact bodyQ.pure (.inr rfl) rfl (Res.one rfl (RV.tmp rfl))
  · rcases bsel_some h with ⟨hc2, h⟩ | ⟨hc2, h⟩
    · refine RunC.regionW ?_
      refine ROps.l (r := AV.f64 a0) rfl rfl rfl (LOp.move rfl rfl) ?_
      refine ROps.l (r := AV.f64 a0) rfl rfl rfl (LOp.move rfl rfl) ?_
      refine ROps.l (r := AV.b false) rfl rfl rfl (LOp.eqb (LOp.fne rfl (OpF.tmp rfl) (OpF.tmp rfl)) hc1) ?_
      refine ROps.l (r := AV.b false) rfl rfl rfl (LOp.move rfl rfl) ?_
      refine ROps.l (r := AV.f64 a1) rfl rfl rfl (LOp.move rfl rfl) ?_
      refine ROps.l (r := AV.f64 a1) rfl rfl rfl (LOp.move rfl rfl) ?_
      refine ROps.l (r := AV.b true) rfl rfl rfl (LOp.eqb (LOp.fne rfl (OpF.tmp rfl) (OpF.tmp rfl)) hc2) ?_
      refine ROps.l (r := AV.b true) rfl rfl rfl (LOp.pick_false rfl rfl rfl) ?_
      refine ROps.nil ?_
      refine RunC.cond_true rfl rfl ?_
      refine RunC.seq ?_
      refine RunC.regionW ?_
      refine ROps.l (r := AV.f64 a0) rfl rfl rfl (LOp.move rfl rfl) ?_
      refine ROps.l (r := AV.f64 a0) rfl rfl rfl (LOp.move rfl rfl) ?_
      refine ROps.l (r := AV.b false) rfl rfl rfl (LOp.eqb (LOp.fne rfl (OpF.tmp rfl) (OpF.tmp rfl)) hc1) ?_
      refine ROps.l (r := AV.b false) rfl rfl rfl (LOp.move rfl rfl) ?_
      refine ROps.s rfl rfl rfl ?_
      refine ROps.s rfl rfl rfl ?_
      refine ROps.s rfl rfl rfl ?_
      refine ROps.l (r := AV.b false) rfl rfl rfl (LOp.pick_false rfl rfl rfl) ?_
      refine ROps.l (r := AV.b false) rfl rfl rfl (LOp.assign rfl rfl) ?_
      refine ROps.nil ?_
      refine RunC.ret ?_
      have hq := Option.some.inj h
      subst q0
      exact bodyQ.pure (.inr rfl) rfl (Res.one rfl (RV.tmp rfl))
    · refine RunC.regionW ?_
      refine ROps.l (r := AV.f64 a0) rfl rfl rfl (LOp.move rfl rfl) ?_
      refine ROps.l (r := AV.f64 a0) rfl rfl rfl (LOp.move rfl rfl) ?_
      refine ROps.l (r := AV.b false) rfl rfl rfl (LOp.eqb (LOp.fne rfl (OpF.tmp rfl) (OpF.tmp rfl)) hc1) ?_
      refine ROps.l (r := AV.b false) rfl rfl rfl (LOp.move rfl rfl) ?_
      refine ROps.l (r := AV.f64 a1) rfl rfl rfl (LOp.move rfl rfl) ?_
      refine ROps.l (r := AV.f64 a1) rfl rfl rfl (LOp.move rfl rfl) ?_
      refine ROps.l (r := AV.b false) rfl rfl rfl (LOp.eqb (LOp.fne rfl (OpF.tmp rfl) (OpF.tmp rfl)) hc2) ?_
      refine ROps.l (r := AV.b false) rfl rfl rfl (LOp.pick_false rfl rfl rfl) ?_
      refine ROps.nil ?_
      refine RunC.cond_false rfl rfl ?_
      refine RunC.skip ?_
      refine RunC.seq ?_
      refine RunC.cutN (fun τ Γ =>  WeakLe τ [(0, AV.f64 a0), (1, AV.f64 a1)] ∧ DeadLe Γ [] ∧ f93_k1 a0 a1 = some q0) ?_ ?_
      · refine RunC.seq ?_
        rcases bsel_some h with ⟨hc3, h⟩ | ⟨hc3, h⟩
        · rcases bsel_some h with ⟨hc4, h⟩ | ⟨hc4, h⟩
          · refine RunC.regionW ?_
            refine ROps.l (r := AV.f64 a0) rfl rfl rfl (LOp.move rfl rfl) ?_
            refine ROps.l (r := AV.b true) rfl rfl rfl (LOp.eqb (LOp.feq rfl (OpF.tmp rfl) (OpF.const rfl (by kernel_rfl) (by kernel_rfl))) hc3) ?_
            refine ROps.l (r := AV.b true) rfl rfl rfl (LOp.move rfl rfl) ?_
            refine ROps.l (r := AV.f64 a1) rfl rfl rfl (LOp.move rfl rfl) ?_
            refine ROps.l (r := AV.b true) rfl rfl rfl (LOp.eqb (LOp.feq rfl (OpF.tmp rfl) (OpF.const rfl (by kernel_rfl) (by kernel_rfl))) hc4) ?_
            refine ROps.l (r := AV.b true) rfl rfl rfl (LOp.pick_true rfl rfl rfl) ?_
            refine ROps.nil ?_
            refine RunC.wl (τ' := [(0, AV.f64 a0), (1, AV.f64 a1), (26, AV.b true)]) (Γ' := []) ⟨(ALe.refl _), (ALe.refl _), (ALe.refl _), trivial⟩ trivial ?_
            refine RunC.cond_true rfl rfl ?_
            refine RunC.seq ?_
            obtain ⟨x1, hx5, h⟩ := olet_some h
            obtain ⟨x2, hx6, h⟩ := olet_some h
            refine RunC.regionW ?_
            refine ROps.l (r := AV.f64 a0) rfl rfl rfl (LOp.move rfl rfl) ?_
            refine ROps.d (r := AV.f64 x1) (fs := []) (Γ' := []) rfl rfl rfl (TOp.eqr (TOp.fop (.inr (.inr (.inr rfl))) rfl (OpF.const rfl (by kernel_rfl) (by kernel_rfl)) (OpF.tmp rfl)) (congrArg (AV.f .f64) hx5)) rfl ?_
            refine ROps.l (r := AV.b (flt .f64 (some 0) x1)) rfl rfl rfl (LOp.fgt rfl (OpF.tmp rfl) (OpF.const rfl (by kernel_rfl) (by kernel_rfl))) ?_
            refine ROps.l (r := AV.f64 a1) rfl rfl rfl (LOp.move rfl rfl) ?_
            refine ROps.d (r := AV.f64 x2) (fs := []) (Γ' := []) rfl rfl rfl (TOp.eqr (TOp.fop (.inr (.inr (.inr rfl))) rfl (OpF.const rfl (by kernel_rfl) (by kernel_rfl)) (OpF.tmp rfl)) (congrArg (AV.f .f64) hx6)) rfl ?_
            refine ROps.l (r := AV.b (flt .f64 (some 0) x2)) rfl rfl rfl (LOp.fgt rfl (OpF.tmp rfl) (OpF.const rfl (by kernel_rfl) (by kernel_rfl))) ?_
            refine ROps.l (r := AV.b ((flt .f64 (some 0) x1) == (flt .f64 (some 0) x2))) rfl rfl rfl (LOp.eqlb pun4 rfl rfl rfl) ?_
            refine ROps.l (r := AV.b ((flt .f64 (some 0) x1) == (flt .f64 (some 0) x2))) rfl rfl rfl (LOp.assign rfl rfl) ?_
            refine ROps.nil ?_
            refine RunC.ret ?_
            have hq := Option.some.inj h
            subst q0
            exact bodyQ.pure (.inr rfl) rfl (Res.one rfl (RV.tmp rfl))
          · refine RunC.regionW ?_
            refine ROps.l (r := AV.f64 a0) rfl rfl rfl (LOp.move rfl rfl) ?_
            refine ROps.l (r := AV.b true) rfl rfl rfl (LOp.eqb (LOp.feq rfl (OpF.tmp rfl) (OpF.const rfl (by kernel_rfl) (by kernel_rfl))) hc3) ?_
            refine ROps.l (r := AV.b true) rfl rfl rfl (LOp.move rfl rfl) ?_
            refine ROps.l (r := AV.f64 a1) rfl rfl rfl (LOp.move rfl rfl) ?_
            refine ROps.l (r := AV.b false) rfl rfl rfl (LOp.eqb (LOp.feq rfl (OpF.tmp rfl) (OpF.const rfl (by kernel_rfl) (by kernel_rfl))) hc4) ?_
            refine ROps.l (r := AV.b false) rfl rfl rfl (LOp.pick_true rfl rfl rfl) ?_
            refine ROps.nil ?_
            refine RunC.wl (τ' := [(0, AV.f64 a0), (1, AV.f64 a1), (26, AV.b false)]) (Γ' := []) ⟨(ALe.refl _), (ALe.refl _), (ALe.refl _), trivial⟩ trivial ?_
            refine RunC.cond_false rfl rfl ?_
            refine RunC.skip ?_
            exact ⟨⟨(ALe.refl _), (ALe.refl _), trivial⟩, trivial, h⟩
        · refine RunC.regionW ?_
          refine ROps.l (r := AV.f64 a0) rfl rfl rfl (LOp.move rfl rfl) ?_
          refine ROps.l (r := AV.b false) rfl rfl rfl (LOp.eqb (LOp.feq rfl (OpF.tmp rfl) (OpF.const rfl (by kernel_rfl) (by kernel_rfl))) hc3) ?_
          refine ROps.l (r := AV.b false) rfl rfl rfl (LOp.move rfl rfl) ?_
          refine ROps.s rfl rfl rfl ?_
          refine ROps.s rfl rfl rfl ?_
          refine ROps.l (r := AV.b false) rfl rfl rfl (LOp.pick_false rfl rfl rfl) ?_
          refine ROps.nil ?_
          refine RunC.wl (τ' := [(0, AV.f64 a0), (1, AV.f64 a1), (26, AV.b false)]) (Γ' := []) ⟨(ALe.refl _), (ALe.refl _), (ALe.refl _), trivial⟩ trivial ?_
          refine RunC.cond_false rfl rfl ?_
          refine RunC.skip ?_
          exact ⟨⟨(ALe.refl _), (ALe.refl _), trivial⟩, trivial, h⟩
      · rintro τ2 Γ2 ⟨hw2, hd2, h⟩
        refine RunC.wl (τ' := [(0, AV.f64 a0), (1, AV.f64 a1)]) (Γ' := []) hw2 hd2 ?_
        unfold f93_k1 at h
        refine RunC.seq ?_
        refine RunC.regionW ?_
        refine ROps.l (r := AV.f64 a0) rfl rfl rfl (LOp.move rfl rfl) ?_
        refine ROps.l (r := AV.f64 a1) rfl rfl rfl (LOp.move rfl rfl) ?_
        refine ROps.l (r := AV.b (feq .f64 a0 a1)) rfl rfl rfl (LOp.feq rfl (OpF.tmp rfl) (OpF.tmp rfl)) ?_
        refine ROps.l (r := AV.b (feq .f64 a0 a1)) rfl rfl rfl (LOp.assign rfl rfl) ?_
        refine ROps.nil ?_
        refine RunC.ret ?_
        have hq := Option.some.inj h
        subst q0
        exact bodyQ.pure (.inr rfl) rfl (Res.one rfl (RV.tmp rfl))
noncomputable def f48_b1 (a0 : List F) (a1 : List F) (v1 : Int) : Option (LR (Int) (Unit) (Bool)) :=
  bsel (decide (v1 < (a0.length : Int))) (
    obind (at? a0 v1) fun (e2 : F) =>
    olet (fwiden e2) fun (x3 : F) =>
    obind (at? a1 v1) fun (e4 : F) =>
    olet (fwiden e4) fun (x5 : F) =>
    obind (f93 x3 x5) fun (r6 : Bool) =>
    bsel r6 (
      olet (IntKind.i64.wrap (v1 + 1)) fun (x7 : Int) =>
      some (LR.next x7)) (
      some (LR.ret false))) (
    some (LR.out ()))
noncomputable def f48_s1 (a0 : List F) (a1 : List F) : (Int) → Option (LR (Int) (Unit) (Bool)) := fun s => f48_b1 a0 a1 s
noncomputable def f48_k1  : Option (Bool) :=
  some true
noncomputable def f48 (a0 : List F) (a1 : List F) : Option (Bool) :=
  bsel (!decide ((a0.length : Int) = (a1.length : Int))) (
    some false) (
    obind (loopM (f48_s1 a0 a1) 0) fun z => osum z (fun _ => f48_k1) (fun r => some r))
theorem f48_ok (a0 : List F) (a1 : List F) (q0 : Bool) (h : f48 a0 a1 = some q0) : Ev Try.prog 48 [AV.sl a0.length (a0.map AV.f32), AV.sl a1.length (a1.map AV.f32)] [] (AV.b q0) [] := by
  refine Ev.start Try.func48 rfl rfl 0 (τ := [(0, AV.sl a0.length (a0.map AV.f32)), (1, AV.sl a1.length (a1.map AV.f32))]) rfl (Γ' := []) rfl (n := 29) rfl (g := 0) rfl ?_
  unfold f48 at h
  refine RunC.seq ?_
  refine RunC.regionW ?_
  refine ROps.l (r := AV.b false) rfl rfl rfl (LOp.assign rfl rfl) ?_
  refine ROps.nil ?_
  refine RunC.seq ?_
  refine RunC.seq ?_
  rcases bsel_some h with ⟨hc1, h⟩ | ⟨hc1, h⟩
  · refine RunC.regionW ?_
    refine ROps.l (r := AV.sl a0.length (a0.map AV.f32)) rfl rfl rfl (LOp.move rfl rfl) ?_
    refine ROps.l (r := AV.i64 (a0.length : Int)) rfl rfl rfl (LOp.len_sl und38 rfl rfl) ?_
    refine ROps.l (r := AV.sl a1.length (a1.map AV.f32)) rfl rfl rfl (LOp.move rfl rfl) ?_
    refine ROps.l (r := AV.i64 (a1.length : Int)) rfl rfl rfl (LOp.len_sl und38 rfl rfl) ?_
    refine ROps.l (r := AV.b true) rfl rfl rfl (LOp.eqb (LOp.neq rfl rfl rfl) hc1) ?_
    refine ROps.nil ?_
    refine RunC.cond_true rfl rfl ?_
    refine RunC.seq ?_
    refine RunC.regionW ?_
    refine ROps.l (r := AV.b false) rfl rfl rfl (LOp.assign rfl rfl) ?_
    refine ROps.nil ?_
    refine RunC.ret ?_
    have hq := Option.some.inj h
    subst q0
    exact bodyQ.pure (.inr rfl) rfl (Res.one rfl (RV.tmp rfl))
  · refine RunC.regionW ?_
    refine ROps.l (r := AV.sl a0.length (a0.map AV.f32)) rfl rfl rfl (LOp.move rfl rfl) ?_
    refine ROps.l (r := AV.i64 (a0.length : Int)) rfl rfl rfl (LOp.len_sl und38 rfl rfl) ?_
    refine ROps.l (r := AV.sl a1.length (a1.map AV.f32)) rfl rfl rfl (LOp.move rfl rfl) ?_
    refine ROps.l (r := AV.i64 (a1.length : Int)) rfl rfl rfl (LOp.len_sl und38 rfl rfl) ?_
    refine ROps.l (r := AV.b false) rfl rfl rfl (LOp.eqb (LOp.neq rfl rfl rfl) hc1) ?_
    refine ROps.nil ?_
    refine RunC.cond_false rfl rfl ?_
    refine RunC.skip ?_
    refine RunC.seq ?_
    refine RunC.seq ?_
    refine RunC.regionW ?_
    refine ROps.l (r := AV.i64 0) rfl rfl rfl (LOp.assign rfl rfl) ?_
    refine ROps.nil ?_
    obtain ⟨z2, hz_2, h⟩ := obind_some h
    refine RunC.cutN (fun τ Γ => WeakLe τ [] ∧ DeadLe Γ [] ∧ z2 = .inl ()) ?_ ?_
    · refine RunC.block (RunC.loop (RunL.loopM (x := z2) (f48_s1 a0 a1) (fun (s : Int) τ Γ => WeakLe τ [(0, AV.sl a0.length (a0.map AV.f32)), (1, AV.sl a1.length (a1.map AV.f32)), (5, AV.i64 s)] ∧ DeadLe Γ []) ?_ _ _ _ hz_2 ⟨⟨(ALe.refl _), (ALe.refl _), (ALe.refl _), trivial⟩, trivial⟩))
      rintro v1 τ2 Γ2 y2_ ⟨hw2, hd2⟩ h2_ ho2 hr2
      refine RunC.wl (τ' := [(0, AV.sl a0.length (a0.map AV.f32)), (1, AV.sl a1.length (a1.map AV.f32)), (5, AV.i64 v1)]) (Γ' := []) hw2 hd2 ?_
      replace h2_ : f48_b1 a0 a1 v1 = some y2_ := h2_
      unfold f48_b1 at h2_
      refine RunC.seq ?_
      refine RunC.seq ?_
      rcases bsel_some h2_ with ⟨hc2, h2_⟩ | ⟨hc2, h2_⟩
      · refine RunC.regionW ?_
        refine ROps.l (r := AV.i64 v1) rfl rfl rfl (LOp.move rfl rfl) ?_
        refine ROps.l (r := AV.sl a0.length (a0.map AV.f32)) rfl rfl rfl (LOp.move rfl rfl) ?_
        refine ROps.l (r := AV.i64 (a0.length : Int)) rfl rfl rfl (LOp.len_sl und38 rfl rfl) ?_
        refine ROps.l (r := AV.b true) rfl rfl rfl (LOp.eqb (LOp.lss rfl rfl rfl) hc2) ?_
        refine ROps.nil ?_
        refine RunC.cond_true rfl rfl ?_
        refine RunC.skip ?_
        refine RunC.seq ?_
        refine RunC.block ?_
        refine RunC.seq ?_
        obtain ⟨e2, he3, h2_⟩ := obind_some h2_
        obtain ⟨x3, hx4, h2_⟩ := olet_some h2_
        obtain ⟨e4, he5, h2_⟩ := obind_some h2_
        obtain ⟨x5, hx6, h2_⟩ := olet_some h2_
        obtain ⟨r6, hf7, h2_⟩ := obind_some h2_
        rcases bsel_some h2_ with ⟨hc8, h2_⟩ | ⟨hc8, h2_⟩
        · refine RunC.region_draw (Γ' := []) 12 mixed 
            (TR.l (r := AV.sl a0.length (a0.map AV.f32)) rfl rfl (LOp.move rfl rfl) <|
            (TR.l (r := AV.i64 v1) rfl rfl (LOp.move rfl rfl) <|
            (TR.l (r := AV.ptr [AV.f32 e2]) rfl rfl (LOp.le (LOp.ix (f := AV.f32) und38 siz34 rfl rfl rfl rfl he3) ALe.ptr) <|
            (TR.l (r := AV.f32 e2) rfl rfl (LOp.load1 agg34 rfl rfl) <|
            (TR.d (r := AV.f64 x3) (fs := []) rfl rfl (TOp.eqr (TOp.widen (src := 34) (dst := 75) ⟨_, pun34⟩ pun75 rfl (OpF.tmp rfl)) (congrArg (AV.f .f64) hx4)) <|
            (TR.l (r := AV.sl a1.length (a1.map AV.f32)) rfl rfl (LOp.move rfl rfl) <|
            (TR.l (r := AV.i64 v1) rfl rfl (LOp.move rfl rfl) <|
            (TR.l (r := AV.ptr [AV.f32 e4]) rfl rfl (LOp.le (LOp.ix (f := AV.f32) und38 siz34 rfl rfl rfl rfl he5) ALe.ptr) <|
            (TR.l (r := AV.f32 e4) rfl rfl (LOp.load1 agg34 rfl rfl) <|
            (TR.d (r := AV.f64 x5) (fs := []) rfl rfl (TOp.eqr (TOp.widen (src := 34) (dst := 75) ⟨_, pun34⟩ pun75 rfl (OpF.tmp rfl)) (congrArg (AV.f .f64) hx6)) <|
            (TR.d (r := AV.b true) (fs := []) rfl rfl (TOp.eqb (TOp.callB (CallAs.func ent93 rfl rfl) (Bors.cons (Bor.pure rfl) (Bors.cons (Bor.pure rfl) Bors.nil)) rfl rfl (f93_ok x3 x5 r6 hf7)) hc8) <|
            (TR.l (r := AV.b false) rfl rfl (LOp.eqb (LOp.not rfl rfl) rfl) <|
            TR.nil)))))))))))) rfl (by kernel_rfl) rfl fills_nil rfl ?_
          iterate 12 refine ROps.dropS ?_
          refine ROps.drop0 ?_
          refine ROps.nil ?_
          refine RunC.wl (τ' := [(0, AV.sl a0.length (a0.map AV.f32)), (1, AV.sl a1.length (a1.map AV.f32)), (5, AV.i64 v1), (28, AV.b false)]) (Γ' := []) ⟨(ALe.refl _), (ALe.refl _), (ALe.refl _), (ALe.refl _), trivial⟩ trivial ?_
          refine RunC.cond_false rfl rfl ?_
          refine RunC.skip ?_
          obtain ⟨x7, hx9, h2_⟩ := olet_some h2_
          refine RunC.regionW ?_
          refine ROps.l (r := AV.i64 v1) rfl rfl rfl (LOp.move rfl rfl) ?_
          refine ROps.l (r := AV.i64 x7) rfl rfl rfl (LOp.eqr (LOp.add rfl rfl rfl) (congrArg (AV.ik .i64) hx9)) ?_
          refine ROps.l (r := AV.i64 x7) rfl rfl rfl (LOp.assign rfl rfl) ?_
          refine ROps.nil ?_
          cases Option.some.inj h2_
          exact ⟨_, rfl, ⟨(ALe.refl _), (ALe.refl _), (ALe.refl _), trivial⟩, trivial⟩
        · refine RunC.region_draw (Γ' := []) 12 mixed 
            (TR.l (r := AV.sl a0.length (a0.map AV.f32)) rfl rfl (LOp.move rfl rfl) <|
            (TR.l (r := AV.i64 v1) rfl rfl (LOp.move rfl rfl) <|
            (TR.l (r := AV.ptr [AV.f32 e2]) rfl rfl (LOp.le (LOp.ix (f := AV.f32) und38 siz34 rfl rfl rfl rfl he3) ALe.ptr) <|
            (TR.l (r := AV.f32 e2) rfl rfl (LOp.load1 agg34 rfl rfl) <|
            (TR.d (r := AV.f64 x3) (fs := []) rfl rfl (TOp.eqr (TOp.widen (src := 34) (dst := 75) ⟨_, pun34⟩ pun75 rfl (OpF.tmp rfl)) (congrArg (AV.f .f64) hx4)) <|
            (TR.l (r := AV.sl a1.length (a1.map AV.f32)) rfl rfl (LOp.move rfl rfl) <|
            (TR.l (r := AV.i64 v1) rfl rfl (LOp.move rfl rfl) <|
            (TR.l (r := AV.ptr [AV.f32 e4]) rfl rfl (LOp.le (LOp.ix (f := AV.f32) und38 siz34 rfl rfl rfl rfl he5) ALe.ptr) <|
            (TR.l (r := AV.f32 e4) rfl rfl (LOp.load1 agg34 rfl rfl) <|
            (TR.d (r := AV.f64 x5) (fs := []) rfl rfl (TOp.eqr (TOp.widen (src := 34) (dst := 75) ⟨_, pun34⟩ pun75 rfl (OpF.tmp rfl)) (congrArg (AV.f .f64) hx6)) <|
            (TR.d (r := AV.b false) (fs := []) rfl rfl (TOp.eqb (TOp.callB (CallAs.func ent93 rfl rfl) (Bors.cons (Bor.pure rfl) (Bors.cons (Bor.pure rfl) Bors.nil)) rfl rfl (f93_ok x3 x5 r6 hf7)) hc8) <|
            (TR.l (r := AV.b true) rfl rfl (LOp.eqb (LOp.not rfl rfl) rfl) <|
            TR.nil)))))))))))) rfl (by kernel_rfl) rfl fills_nil rfl ?_
          iterate 12 refine ROps.dropS ?_
          refine ROps.drop0 ?_
          refine ROps.nil ?_
          refine RunC.wl (τ' := [(0, AV.sl a0.length (a0.map AV.f32)), (1, AV.sl a1.length (a1.map AV.f32)), (5, AV.i64 v1), (28, AV.b true)]) (Γ' := []) ⟨(ALe.refl _), (ALe.refl _), (ALe.refl _), (ALe.refl _), trivial⟩ trivial ?_
          refine RunC.cond_true rfl rfl ?_
          refine RunC.seq ?_
          refine RunC.regionW ?_
          refine ROps.l (r := AV.b false) rfl rfl rfl (LOp.assign rfl rfl) ?_
          refine ROps.nil ?_
          refine RunC.ret ?_
          cases Option.some.inj h2_
          have hx3_ := hr2 _ rfl
          subst hx3_
          have hq := Option.some.inj h
          subst q0
          exact bodyQ.pure (.inr rfl) rfl (Res.one rfl (RV.tmp rfl))
      · refine RunC.regionW ?_
        refine ROps.l (r := AV.i64 v1) rfl rfl rfl (LOp.move rfl rfl) ?_
        refine ROps.l (r := AV.sl a0.length (a0.map AV.f32)) rfl rfl rfl (LOp.move rfl rfl) ?_
        refine ROps.l (r := AV.i64 (a0.length : Int)) rfl rfl rfl (LOp.len_sl und38 rfl rfl) ?_
        refine ROps.l (r := AV.b false) rfl rfl rfl (LOp.eqb (LOp.lss rfl rfl rfl) hc2) ?_
        refine ROps.nil ?_
        refine RunC.cond_false rfl rfl ?_
        refine RunC.exit ?_
        cases Option.some.inj h2_
        have hx := ho2 _ rfl
        exact ⟨trivial, trivial, hx⟩
    · rintro τ4 Γ4 ⟨hw4, hd4, rfl⟩
      refine RunC.wl (τ' := []) (Γ' := []) hw4 hd4 ?_
      replace h : f48_k1 = some q0 := h
      unfold f48_k1 at h
      refine RunC.seq ?_
      refine RunC.regionW ?_
      refine ROps.l (r := AV.b true) rfl rfl rfl (LOp.assign rfl rfl) ?_
      refine ROps.nil ?_
      refine RunC.ret ?_
      have hq := Option.some.inj h
      subst q0
      exact bodyQ.pure (.inr rfl) rfl (Res.one rfl (RV.tmp rfl))
noncomputable def f28 (a0 : Int) (a1 : Int) (a2 : List F) (a3 : Int) (a4 : Int) (a5 : List F) : Option (Bool) :=
  bsel (!decide (a0 = a3)) (
    some false) (
    bsel (!decide (a1 = a4)) (
      some false) (
      obind (f48 a2 a5) fun (r1 : Bool) =>
      bsel r1 (
        some true) (
        some false)))
theorem f28_ok (a0 : Int) (a1 : Int) (a2 : List F) (a3 : Int) (a4 : Int) (a5 : List F) (q0 : Bool) (h : f28 a0 a1 a2 a3 a4 a5 = some q0) : Ev Try.prog 28 [AV.agg [AV.i64 a0, AV.i64 a1, AV.sl a2.length (a2.map AV.f32)], AV.agg [AV.i64 a3, AV.i64 a4, AV.sl a5.length (a5.map AV.f32)]] [] (AV.b q0) [] := by
  refine Ev.start Try.func28 rfl rfl 0 (τ := [(0, AV.agg [AV.i64 a0, AV.i64 a1, AV.sl a2.length (a2.map AV.f32)]), (1, AV.agg [AV.i64 a3, AV.i64 a4, AV.sl a5.length (a5.map AV.f32)])]) rfl (Γ' := []) rfl (n := 21) rfl (g := 0) rfl ?_
  unfold f28 at h
  refine RunC.seq ?_
  refine RunC.regionW ?_
  refine ROps.d (r := AV.ptr [AV.i64 a0, AV.i64 a1, AV.sl a2.length (a2.map AV.f32)]) (fs := []) (Γ' := []) rfl rfl rfl (TOp.box_s rfl rfl rfl) rfl ?_
  refine ROps.d (r := AV.ptr [AV.i64 a3, AV.i64 a4, AV.sl a5.length (a5.map AV.f32)]) (fs := []) (Γ' := []) rfl rfl rfl (TOp.box_s rfl rfl rfl) rfl ?_
  refine ROps.l (r := AV.b false) rfl rfl rfl (LOp.assign rfl rfl) ?_
  refine ROps.nil ?_
  refine RunC.seq ?_
  refine RunC.seq ?_
  rcases bsel_some h with ⟨hc1, h⟩ | ⟨hc1, h⟩
  · refine RunC.regionW ?_
    refine ROps.l (r := AV.ptr [AV.i64 a0, AV.i64 a1, AV.sl a2.length (a2.map AV.f32)]) rfl rfl rfl (LOp.fap und40 rfl siz2 rfl rfl rfl) ?_
    refine ROps.l (r := AV.i64 a0) rfl rfl rfl (LOp.load1 agg2 rfl rfl) ?_
    refine ROps.l (r := AV.ptr [AV.i64 a3, AV.i64 a4, AV.sl a5.length (a5.map AV.f32)]) rfl rfl rfl (LOp.fap und40 rfl siz2 rfl rfl rfl) ?_
    refine ROps.l (r := AV.i64 a3) rfl rfl rfl (LOp.load1 agg2 rfl rfl) ?_
    refine ROps.l (r := AV.b true) rfl rfl rfl (LOp.eqb (LOp.neq rfl rfl rfl) hc1) ?_
    refine ROps.nil ?_
    refine RunC.cond_true rfl rfl ?_
    refine RunC.seq ?_
    refine RunC.regionW ?_
    refine ROps.l (r := AV.b false) rfl rfl rfl (LOp.assign rfl rfl) ?_
    refine ROps.nil ?_
    refine RunC.ret ?_
    have hq := Option.some.inj h
    subst q0
    exact bodyQ.pure (.inr rfl) rfl (Res.one rfl (RV.tmp rfl))
  · refine RunC.regionW ?_
    refine ROps.l (r := AV.ptr [AV.i64 a0, AV.i64 a1, AV.sl a2.length (a2.map AV.f32)]) rfl rfl rfl (LOp.fap und40 rfl siz2 rfl rfl rfl) ?_
    refine ROps.l (r := AV.i64 a0) rfl rfl rfl (LOp.load1 agg2 rfl rfl) ?_
    refine ROps.l (r := AV.ptr [AV.i64 a3, AV.i64 a4, AV.sl a5.length (a5.map AV.f32)]) rfl rfl rfl (LOp.fap und40 rfl siz2 rfl rfl rfl) ?_
    refine ROps.l (r := AV.i64 a3) rfl rfl rfl (LOp.load1 agg2 rfl rfl) ?_
    refine ROps.l (r := AV.b false) rfl rfl rfl (LOp.eqb (LOp.neq rfl rfl rfl) hc1) ?_
    refine ROps.nil ?_
    refine RunC.cond_false rfl rfl ?_
    refine RunC.skip ?_
    refine RunC.seq ?_
    refine RunC.seq ?_
    rcases bsel_some h with ⟨hc2, h⟩ | ⟨hc2, h⟩
    · refine RunC.regionW ?_
      refine ROps.l (r := AV.ptr [AV.i64 a1, AV.sl a2.length (a2.map AV.f32)]) rfl rfl rfl (LOp.fap und40 rfl siz2 rfl rfl rfl) ?_
      refine ROps.l (r := AV.i64 a1) rfl rfl rfl (LOp.load1 agg2 rfl rfl) ?_
      refine ROps.l (r := AV.ptr [AV.i64 a4, AV.sl a5.length (a5.map AV.f32)]) rfl rfl rfl (LOp.fap und40 rfl siz2 rfl rfl rfl) ?_
      refine ROps.l (r := AV.i64 a4) rfl rfl rfl (LOp.load1 agg2 rfl rfl) ?_
      refine ROps.l (r := AV.b true) rfl rfl rfl (LOp.eqb (LOp.neq rfl rfl rfl) hc2) ?_
      refine ROps.nil ?_
      refine RunC.cond_true rfl rfl ?_
      refine RunC.seq ?_
      refine RunC.regionW ?_
      refine ROps.l (r := AV.b false) rfl rfl rfl (LOp.assign rfl rfl) ?_
      refine ROps.nil ?_
      refine RunC.ret ?_
      have hq := Option.some.inj h
      subst q0
      exact bodyQ.pure (.inr rfl) rfl (Res.one rfl (RV.tmp rfl))
    · refine RunC.regionW ?_
      refine ROps.l (r := AV.ptr [AV.i64 a1, AV.sl a2.length (a2.map AV.f32)]) rfl rfl rfl (LOp.fap und40 rfl siz2 rfl rfl rfl) ?_
      refine ROps.l (r := AV.i64 a1) rfl rfl rfl (LOp.load1 agg2 rfl rfl) ?_
      refine ROps.l (r := AV.ptr [AV.i64 a4, AV.sl a5.length (a5.map AV.f32)]) rfl rfl rfl (LOp.fap und40 rfl siz2 rfl rfl rfl) ?_
      refine ROps.l (r := AV.i64 a4) rfl rfl rfl (LOp.load1 agg2 rfl rfl) ?_
      refine ROps.l (r := AV.b false) rfl rfl rfl (LOp.eqb (LOp.neq rfl rfl rfl) hc2) ?_
      refine ROps.nil ?_
      refine RunC.cond_false rfl rfl ?_
      refine RunC.skip ?_
      refine RunC.wl (τ' := [(2, AV.ptr [AV.i64 a0, AV.i64 a1, AV.sl a2.length (a2.map AV.f32)]), (3, AV.ptr [AV.i64 a3, AV.i64 a4, AV.sl a5.length (a5.map AV.f32)])]) (Γ' := []) ⟨(ALe.refl _), (ALe.refl _), trivial⟩ trivial ?_
      refine RunC.seq ?_
      refine RunC.seq ?_
      obtain ⟨r1, hf3, h⟩ := obind_some h
      rcases bsel_some h with ⟨hc4, h⟩ | ⟨hc4, h⟩
      · refine RunC.regionW ?_
        refine ROps.l (r := AV.ptr [AV.sl a2.length (a2.map AV.f32)]) rfl rfl rfl (LOp.fap und40 rfl siz38 rfl rfl rfl) ?_
        refine ROps.l (r := AV.sl a2.length (a2.map AV.f32)) rfl rfl rfl (LOp.load1 agg38 rfl rfl) ?_
        refine ROps.l (r := AV.ptr [AV.sl a5.length (a5.map AV.f32)]) rfl rfl rfl (LOp.fap und40 rfl siz38 rfl rfl rfl) ?_
        refine ROps.l (r := AV.sl a5.length (a5.map AV.f32)) rfl rfl rfl (LOp.load1 agg38 rfl rfl) ?_
        refine ROps.d (r := AV.b true) (fs := []) (Γ' := []) rfl rfl rfl (TOp.eqb (TOp.callB (CallAs.func ent48 rfl rfl) (Bors.cons (Bor.sl (fun _ => rfl)) (Bors.cons (Bor.sl (fun _ => rfl)) Bors.nil)) rfl rfl (f48_ok a2 a5 r1 hf3)) hc4) rfl ?_
        refine ROps.l (r := AV.b false) rfl rfl rfl (LOp.eqb (LOp.not rfl rfl) rfl) ?_
        refine ROps.nil ?_
        refine RunC.cond_false rfl rfl ?_
        refine RunC.skip ?_
        refine RunC.seq ?_
        refine RunC.regionW ?_
        refine ROps.l (r := AV.b true) rfl rfl rfl (LOp.assign rfl rfl) ?_
        refine ROps.nil ?_
        refine RunC.ret ?_
        have hq := Option.some.inj h
        subst q0
        exact bodyQ.pure (.inr rfl) rfl (Res.one rfl (RV.tmp rfl))
      · refine RunC.regionW ?_
        refine ROps.l (r := AV.ptr [AV.sl a2.length (a2.map AV.f32)]) rfl rfl rfl (LOp.fap und40 rfl siz38 rfl rfl rfl) ?_
        refine ROps.l (r := AV.sl a2.length (a2.map AV.f32)) rfl rfl rfl (LOp.load1 agg38 rfl rfl) ?_
        refine ROps.l (r := AV.ptr [AV.sl a5.length (a5.map AV.f32)]) rfl rfl rfl (LOp.fap und40 rfl siz38 rfl rfl rfl) ?_
        refine ROps.l (r := AV.sl a5.length (a5.map AV.f32)) rfl rfl rfl (LOp.load1 agg38 rfl rfl) ?_
        refine ROps.d (r := AV.b false) (fs := []) (Γ' := []) rfl rfl rfl (TOp.eqb (TOp.callB (CallAs.func ent48 rfl rfl) (Bors.cons (Bor.sl (fun _ => rfl)) (Bors.cons (Bor.sl (fun _ => rfl)) Bors.nil)) rfl rfl (f48_ok a2 a5 r1 hf3)) hc4) rfl ?_
        refine ROps.l (r := AV.b true) rfl rfl rfl (LOp.eqb (LOp.not rfl rfl) rfl) ?_
        refine ROps.nil ?_
        refine RunC.cond_true rfl rfl ?_
        refine RunC.seq ?_
        refine RunC.regionW ?_
        refine ROps.l (r := AV.b false) rfl rfl rfl (LOp.assign rfl rfl) ?_
        refine ROps.nil ?_
        refine RunC.ret ?_
        have hq := Option.some.inj h
        subst q0
        exact bodyQ.pure (.inr rfl) rfl (Res.one rfl (RV.tmp rfl))
noncomputable def f49 (a0 : List F) (a1 : List F) (a2 : List F) (a3 : List F) : Option (Bool) :=
  obind (f48 a0 a2) fun (r1 : Bool) =>
  bsel r1 (
    obind (f48 a1 a3) fun (r2 : Bool) =>
    bsel r2 (
      some true) (
      some false)) (
    some false)
theorem f49_ok (a0 : List F) (a1 : List F) (a2 : List F) (a3 : List F) (q0 : Bool) (h : f49 a0 a1 a2 a3 = some q0) : Ev Try.prog 49 [AV.agg [AV.sl a0.length (a0.map AV.f32), AV.sl a1.length (a1.map AV.f32)], AV.agg [AV.sl a2.length (a2.map AV.f32), AV.sl a3.length (a3.map AV.f32)]] [] (AV.b q0) [] := by
  refine Ev.start Try.func49 rfl rfl 0 (τ := [(0, AV.agg [AV.sl a0.length (a0.map AV.f32), AV.sl a1.length (a1.map AV.f32)]), (1, AV.agg [AV.sl a2.length (a2.map AV.f32), AV.sl a3.length (a3.map AV.f32)])]) rfl (Γ' := []) rfl (n := 17) rfl (g := 0) rfl ?_
  unfold f49 at h
  refine RunC.seq ?_
  refine RunC.regionW ?_
  refine ROps.d (r := AV.ptr [AV.sl a0.length (a0.map AV.f32), AV.sl a1.length (a1.map AV.f32)]) (fs := []) (Γ' := []) rfl rfl rfl (TOp.box_s rfl rfl rfl) rfl ?_
  refine ROps.d (r := AV.ptr [AV.sl a2.length (a2.map AV.f32), AV.sl a3.length (a3.map AV.f32)]) (fs := []) (Γ' := []) rfl rfl rfl (TOp.box_s rfl rfl rfl) rfl ?_
  refine ROps.l (r := AV.b false) rfl rfl rfl (LOp.assign rfl rfl) ?_
  refine ROps.nil ?_
  refine RunC.seq ?_
  refine RunC.seq ?_
  obtain ⟨r1, hf1, h⟩ := obind_some h
  rcases bsel_some h with ⟨hc2, h⟩ | ⟨hc2, h⟩
  · refine RunC.regionW ?_
    refine ROps.l (r := AV.ptr [AV.sl a0.length (a0.map AV.f32), AV.sl a1.length (a1.map AV.f32)]) rfl rfl rfl (LOp.fap und42 rfl siz38 rfl rfl rfl) ?_
    refine ROps.l (r := AV.sl a0.length (a0.map AV.f32)) rfl rfl rfl (LOp.load1 agg38 rfl rfl) ?_
    refine ROps.l (r := AV.ptr [AV.sl a2.length (a2.map AV.f32), AV.sl a3.length (a3.map AV.f32)]) rfl rfl rfl (LOp.fap und42 rfl siz38 rfl rfl rfl) ?_
    refine ROps.l (r := AV.sl a2.length (a2.map AV.f32)) rfl rfl rfl (LOp.load1 agg38 rfl rfl) ?_
    refine ROps.d (r := AV.b true) (fs := []) (Γ' := []) rfl rfl rfl (TOp.eqb (TOp.callB (CallAs.func ent48 rfl rfl) (Bors.cons (Bor.sl (fun _ => rfl)) (Bors.cons (Bor.sl (fun _ => rfl)) Bors.nil)) rfl rfl (f48_ok a0 a2 r1 hf1)) hc2) rfl ?_
    refine ROps.l (r := AV.b false) rfl rfl rfl (LOp.eqb (LOp.not rfl rfl) rfl) ?_
    refine ROps.nil ?_
    refine RunC.cond_false rfl rfl ?_
    refine RunC.skip ?_
    refine RunC.seq ?_
    refine RunC.seq ?_
    obtain ⟨r2, hf3, h⟩ := obind_some h
    rcases bsel_some h with ⟨hc4, h⟩ | ⟨hc4, h⟩
    · refine RunC.regionW ?_
      refine ROps.l (r := AV.ptr [AV.sl a1.length (a1.map AV.f32)]) rfl rfl rfl (LOp.fap und42 rfl siz38 rfl rfl rfl) ?_
      refine ROps.l (r := AV.sl a1.length (a1.map AV.f32)) rfl rfl rfl (LOp.load1 agg38 rfl rfl) ?_
      refine ROps.l (r := AV.ptr [AV.sl a3.length (a3.map AV.f32)]) rfl rfl rfl (LOp.fap und42 rfl siz38 rfl rfl rfl) ?_
      refine ROps.l (r := AV.sl a3.length (a3.map AV.f32)) rfl rfl rfl (LOp.load1 agg38 rfl rfl) ?_
      refine ROps.d (r := AV.b true) (fs := []) (Γ' := []) rfl rfl rfl (TOp.eqb (TOp.callB (CallAs.func ent48 rfl rfl) (Bors.cons (Bor.sl (fun _ => rfl)) (Bors.cons (Bor.sl (fun _ => rfl)) Bors.nil)) rfl rfl (f48_ok a1 a3 r2 hf3)) hc4) rfl ?_
      refine ROps.l (r := AV.b false) rfl rfl rfl (LOp.eqb (LOp.not rfl rfl) rfl) ?_
      refine ROps.nil ?_
      refine RunC.wl (τ' := [(16, AV.b false)]) (Γ' := []) ⟨(ALe.refl _), trivial⟩ trivial ?_
      refine RunC.cond_false rfl rfl ?_
      refine RunC.skip ?_
      refine RunC.seq ?_
      refine RunC.regionW ?_
      refine ROps.l (r := AV.b true) rfl rfl rfl (LOp.assign rfl rfl) ?_
      refine ROps.nil ?_
      refine RunC.ret ?_
      have hq := Option.some.inj h
      subst q0
      exact bodyQ.pure (.inr rfl) rfl (Res.one rfl (RV.tmp rfl))
    · refine RunC.regionW ?_
      refine ROps.l (r := AV.ptr [AV.sl a1.length (a1.map AV.f32)]) rfl rfl rfl (LOp.fap und42 rfl siz38 rfl rfl rfl) ?_
      refine ROps.l (r := AV.sl a1.length (a1.map AV.f32)) rfl rfl rfl (LOp.load1 agg38 rfl rfl) ?_
      refine ROps.l (r := AV.ptr [AV.sl a3.length (a3.map AV.f32)]) rfl rfl rfl (LOp.fap und42 rfl siz38 rfl rfl rfl) ?_
      refine ROps.l (r := AV.sl a3.length (a3.map AV.f32)) rfl rfl rfl (LOp.load1 agg38 rfl rfl) ?_
      refine ROps.d (r := AV.b false) (fs := []) (Γ' := []) rfl rfl rfl (TOp.eqb (TOp.callB (CallAs.func ent48 rfl rfl) (Bors.cons (Bor.sl (fun _ => rfl)) (Bors.cons (Bor.sl (fun _ => rfl)) Bors.nil)) rfl rfl (f48_ok a1 a3 r2 hf3)) hc4) rfl ?_
      refine ROps.l (r := AV.b true) rfl rfl rfl (LOp.eqb (LOp.not rfl rfl) rfl) ?_
      refine ROps.nil ?_
      refine RunC.wl (τ' := [(16, AV.b true)]) (Γ' := []) ⟨(ALe.refl _), trivial⟩ trivial ?_
      refine RunC.cond_true rfl rfl ?_
      refine RunC.seq ?_
      refine RunC.regionW ?_
      refine ROps.l (r := AV.b false) rfl rfl rfl (LOp.assign rfl rfl) ?_
      refine ROps.nil ?_
      refine RunC.ret ?_
      have hq := Option.some.inj h
      subst q0
      exact bodyQ.pure (.inr rfl) rfl (Res.one rfl (RV.tmp rfl))
  · refine RunC.regionW ?_
    refine ROps.l (r := AV.ptr [AV.sl a0.length (a0.map AV.f32), AV.sl a1.length (a1.map AV.f32)]) rfl rfl rfl (LOp.fap und42 rfl siz38 rfl rfl rfl) ?_
    refine ROps.l (r := AV.sl a0.length (a0.map AV.f32)) rfl rfl rfl (LOp.load1 agg38 rfl rfl) ?_
    refine ROps.l (r := AV.ptr [AV.sl a2.length (a2.map AV.f32), AV.sl a3.length (a3.map AV.f32)]) rfl rfl rfl (LOp.fap und42 rfl siz38 rfl rfl rfl) ?_
    refine ROps.l (r := AV.sl a2.length (a2.map AV.f32)) rfl rfl rfl (LOp.load1 agg38 rfl rfl) ?_
    refine ROps.d (r := AV.b false) (fs := []) (Γ' := []) rfl rfl rfl (TOp.eqb (TOp.callB (CallAs.func ent48 rfl rfl) (Bors.cons (Bor.sl (fun _ => rfl)) (Bors.cons (Bor.sl (fun _ => rfl)) Bors.nil)) rfl rfl (f48_ok a0 a2 r1 hf1)) hc2) rfl ?_
    refine ROps.l (r := AV.b true) rfl rfl rfl (LOp.eqb (LOp.not rfl rfl) rfl) ?_
    refine ROps.nil ?_
    refine RunC.cond_true rfl rfl ?_
    refine RunC.seq ?_
    refine RunC.regionW ?_
    refine ROps.l (r := AV.b false) rfl rfl rfl (LOp.assign rfl rfl) ?_
    refine ROps.nil ?_
    refine RunC.ret ?_
    have hq := Option.some.inj h
    subst q0
    exact bodyQ.pure (.inr rfl) rfl (Res.one rfl (RV.tmp rfl))
noncomputable def f94_b1 (a0 : List Int) (a1 : List Int) (v1 : Int) : Option (LR (Int) (Unit) (Bool)) :=
  bsel (decide (v1 < (a0.length : Int))) (
    obind (at? a0 v1) fun (e2 : Int) =>
    obind (at? a1 v1) fun (e3 : Int) =>
    bsel (!decide (e2 = e3)) (
      some (LR.ret false)) (
      olet (IntKind.i64.wrap (v1 + 1)) fun (x4 : Int) =>
      some (LR.next x4))) (
    some (LR.out ()))
noncomputable def f94_s1 (a0 : List Int) (a1 : List Int) : (Int) → Option (LR (Int) (Unit) (Bool)) := fun s => f94_b1 a0 a1 s
noncomputable def f94_k1  : Option (Bool) :=
  some true
noncomputable def f94 (a0 : List Int) (a1 : List Int) : Option (Bool) :=
  bsel (!decide ((a0.length : Int) = (a1.length : Int))) (
    some false) (
    obind (loopM (f94_s1 a0 a1) 0) fun z => osum z (fun _ => f94_k1) (fun r => some r))
theorem f94_ok (a0 : List Int) (a1 : List Int) (q0 : Bool) (h : f94 a0 a1 = some q0) : Ev Try.prog 94 [AV.sl a0.length (a0.map AV.i64), AV.sl a1.length (a1.map AV.i64)] [] (AV.b q0) [] := by
  refine Ev.start Try.func94 rfl rfl 0 (τ := [(0, AV.sl a0.length (a0.map AV.i64)), (1, AV.sl a1.length (a1.map AV.i64))]) rfl (Γ' := []) rfl (n := 26) rfl (g := 0) rfl ?_
  unfold f94 at h
  refine RunC.seq ?_
  refine RunC.regionW ?_
  refine ROps.l (r := AV.b false) rfl rfl rfl (LOp.assign rfl rfl) ?_
  refine ROps.nil ?_
  refine RunC.seq ?_
  refine RunC.seq ?_
  rcases bsel_some h with ⟨hc1, h⟩ | ⟨hc1, h⟩
  · refine RunC.regionW ?_
    refine ROps.l (r := AV.sl a0.length (a0.map AV.i64)) rfl rfl rfl (LOp.move rfl rfl) ?_
    refine ROps.l (r := AV.i64 (a0.length : Int)) rfl rfl rfl (LOp.len_sl und43 rfl rfl) ?_
    refine ROps.l (r := AV.sl a1.length (a1.map AV.i64)) rfl rfl rfl (LOp.move rfl rfl) ?_
    refine ROps.l (r := AV.i64 (a1.length : Int)) rfl rfl rfl (LOp.len_sl und43 rfl rfl) ?_
    refine ROps.l (r := AV.b true) rfl rfl rfl (LOp.eqb (LOp.neq rfl rfl rfl) hc1) ?_
    refine ROps.nil ?_
    refine RunC.cond_true rfl rfl ?_
    refine RunC.seq ?_
    refine RunC.regionW ?_
    refine ROps.l (r := AV.b false) rfl rfl rfl (LOp.assign rfl rfl) ?_
    refine ROps.nil ?_
    refine RunC.ret ?_
    have hq := Option.some.inj h
    subst q0
    exact bodyQ.pure (.inr rfl) rfl (Res.one rfl (RV.tmp rfl))
  · refine RunC.regionW ?_
    refine ROps.l (r := AV.sl a0.length (a0.map AV.i64)) rfl rfl rfl (LOp.move rfl rfl) ?_
    refine ROps.l (r := AV.i64 (a0.length : Int)) rfl rfl rfl (LOp.len_sl und43 rfl rfl) ?_
    refine ROps.l (r := AV.sl a1.length (a1.map AV.i64)) rfl rfl rfl (LOp.move rfl rfl) ?_
    refine ROps.l (r := AV.i64 (a1.length : Int)) rfl rfl rfl (LOp.len_sl und43 rfl rfl) ?_
    refine ROps.l (r := AV.b false) rfl rfl rfl (LOp.eqb (LOp.neq rfl rfl rfl) hc1) ?_
    refine ROps.nil ?_
    refine RunC.cond_false rfl rfl ?_
    refine RunC.skip ?_
    refine RunC.seq ?_
    refine RunC.seq ?_
    refine RunC.regionW ?_
    refine ROps.l (r := AV.i64 0) rfl rfl rfl (LOp.assign rfl rfl) ?_
    refine ROps.nil ?_
    obtain ⟨z2, hz_2, h⟩ := obind_some h
    refine RunC.cutN (fun τ Γ => WeakLe τ [] ∧ DeadLe Γ [] ∧ z2 = .inl ()) ?_ ?_
    · refine RunC.block (RunC.loop (RunL.loopM (x := z2) (f94_s1 a0 a1) (fun (s : Int) τ Γ => WeakLe τ [(0, AV.sl a0.length (a0.map AV.i64)), (1, AV.sl a1.length (a1.map AV.i64)), (5, AV.i64 s)] ∧ DeadLe Γ []) ?_ _ _ _ hz_2 ⟨⟨(ALe.refl _), (ALe.refl _), (ALe.refl _), trivial⟩, trivial⟩))
      rintro v1 τ2 Γ2 y2_ ⟨hw2, hd2⟩ h2_ ho2 hr2
      refine RunC.wl (τ' := [(0, AV.sl a0.length (a0.map AV.i64)), (1, AV.sl a1.length (a1.map AV.i64)), (5, AV.i64 v1)]) (Γ' := []) hw2 hd2 ?_
      replace h2_ : f94_b1 a0 a1 v1 = some y2_ := h2_
      unfold f94_b1 at h2_
      refine RunC.seq ?_
      refine RunC.seq ?_
      rcases bsel_some h2_ with ⟨hc2, h2_⟩ | ⟨hc2, h2_⟩
      · refine RunC.regionW ?_
        refine ROps.l (r := AV.i64 v1) rfl rfl rfl (LOp.move rfl rfl) ?_
        refine ROps.l (r := AV.sl a0.length (a0.map AV.i64)) rfl rfl rfl (LOp.move rfl rfl) ?_
        refine ROps.l (r := AV.i64 (a0.length : Int)) rfl rfl rfl (LOp.len_sl und43 rfl rfl) ?_
        refine ROps.l (r := AV.b true) rfl rfl rfl (LOp.eqb (LOp.lss rfl rfl rfl) hc2) ?_
        refine ROps.nil ?_
        refine RunC.cond_true rfl rfl ?_
        refine RunC.skip ?_
        refine RunC.seq ?_
        refine RunC.block ?_
        refine RunC.seq ?_
        obtain ⟨e2, he3, h2_⟩ := obind_some h2_
        obtain ⟨e3, he4, h2_⟩ := obind_some h2_
        rcases bsel_some h2_ with ⟨hc5, h2_⟩ | ⟨hc5, h2_⟩
        · refine RunC.region_draw (Γ' := []) 9 mixed 
            (TR.l (r := AV.sl a0.length (a0.map AV.i64)) rfl rfl (LOp.move rfl rfl) <|
            (TR.l (r := AV.i64 v1) rfl rfl (LOp.move rfl rfl) <|
            (TR.l (r := AV.ptr [AV.i64 e2]) rfl rfl (LOp.le (LOp.ix (f := AV.i64) und43 siz2 rfl rfl rfl rfl he3) ALe.ptr) <|
            (TR.l (r := AV.i64 e2) rfl rfl (LOp.load1 agg2 rfl rfl) <|
            (TR.l (r := AV.sl a1.length (a1.map AV.i64)) rfl rfl (LOp.move rfl rfl) <|
            (TR.l (r := AV.i64 v1) rfl rfl (LOp.move rfl rfl) <|
            (TR.l (r := AV.ptr [AV.i64 e3]) rfl rfl (LOp.le (LOp.ix (f := AV.i64) und43 siz2 rfl rfl rfl rfl he4) ALe.ptr) <|
            (TR.l (r := AV.i64 e3) rfl rfl (LOp.load1 agg2 rfl rfl) <|
            (TR.l (r := AV.b true) rfl rfl (LOp.eqb (LOp.neq rfl rfl rfl) hc5) <|
            TR.nil))))))))) rfl (by kernel_rfl) rfl fills_nil rfl ?_
          iterate 9 refine ROps.dropS ?_
          refine ROps.drop0 ?_
          refine ROps.nil ?_
          refine RunC.cond_true rfl rfl ?_
          refine RunC.seq ?_
          refine RunC.regionW ?_
          refine ROps.l (r := AV.b false) rfl rfl rfl (LOp.assign rfl rfl) ?_
          refine ROps.nil ?_
          refine RunC.ret ?_
          cases Option.some.inj h2_
          have hx3_ := hr2 _ rfl
          subst hx3_
          have hq := Option.some.inj h
          subst q0
          exact bodyQ.pure (.inr rfl) rfl (Res.one rfl (RV.tmp rfl))
        · refine RunC.region_draw (Γ' := []) 9 mixed 
            (TR.l (r := AV.sl a0.length (a0.map AV.i64)) rfl rfl (LOp.move rfl rfl) <|
            (TR.l (r := AV.i64 v1) rfl rfl (LOp.move rfl rfl) <|
            (TR.l (r := AV.ptr [AV.i64 e2]) rfl rfl (LOp.le (LOp.ix (f := AV.i64) und43 siz2 rfl rfl rfl rfl he3) ALe.ptr) <|
            (TR.l (r := AV.i64 e2) rfl rfl (LOp.load1 agg2 rfl rfl) <|
            (TR.l (r := AV.sl a1.length (a1.map AV.i64)) rfl rfl (LOp.move rfl rfl) <|
            (TR.l (r := AV.i64 v1) rfl rfl (LOp.move rfl rfl) <|
            (TR.l (r := AV.ptr [AV.i64 e3]) rfl rfl (LOp.le (LOp.ix (f := AV.i64) und43 siz2 rfl rfl rfl rfl he4) ALe.ptr) <|
            (TR.l (r := AV.i64 e3) rfl rfl (LOp.load1 agg2 rfl rfl) <|
            (TR.l (r := AV.b false) rfl rfl (LOp.eqb (LOp.neq rfl rfl rfl) hc5) <|
            TR.nil))))))))) rfl (by kernel_rfl) rfl fills_nil rfl ?_
          iterate 9 refine ROps.dropS ?_
          refine ROps.drop0 ?_
          refine ROps.nil ?_
          refine RunC.cond_false rfl rfl ?_
          refine RunC.skip ?_
          refine RunC.wl (τ' := [(0, AV.sl a0.length (a0.map AV.i64)), (1, AV.sl a1.length (a1.map AV.i64)), (5, AV.i64 v1)]) (Γ' := []) ⟨(ALe.refl _), (ALe.refl _), (ALe.refl _), trivial⟩ trivial ?_
          obtain ⟨x4, hx6, h2_⟩ := olet_some h2_
          refine RunC.regionW ?_
          refine ROps.l (r := AV.i64 v1) rfl rfl rfl (LOp.move rfl rfl) ?_
          refine ROps.l (r := AV.i64 x4) rfl rfl rfl (LOp.eqr (LOp.add rfl rfl rfl) (congrArg (AV.ik .i64) hx6)) ?_
          refine ROps.l (r := AV.i64 x4) rfl rfl rfl (LOp.assign rfl rfl) ?_
          refine ROps.nil ?_
          cases Option.some.inj h2_
          exact ⟨_, rfl, ⟨(ALe.refl _), (ALe.refl _), (ALe.refl _), trivial⟩, trivial⟩
      · refine RunC.regionW ?_
        refine ROps.l (r := AV.i64 v1) rfl rfl rfl (LOp.move rfl rfl) ?_
        refine ROps.l (r := AV.sl a0.length (a0.map AV.i64)) rfl rfl rfl (LOp.move rfl rfl) ?_
        refine ROps.l (r := AV.i64 (a0.length : Int)) rfl rfl rfl (LOp.len_sl und43 rfl rfl) ?_
        refine ROps.l (r := AV.b false) rfl rfl rfl (LOp.eqb (LOp.lss rfl rfl rfl) hc2) ?_
        refine ROps.nil ?_
        refine RunC.cond_false rfl rfl ?_
        refine RunC.exit ?_
        cases Option.some.inj h2_
        have hx := ho2 _ rfl
        exact ⟨trivial, trivial, hx⟩
    · rintro τ4 Γ4 ⟨hw4, hd4, rfl⟩
      refine RunC.wl (τ' := []) (Γ' := []) hw4 hd4 ?_
      replace h : f94_k1 = some q0 := h
      unfold f94_k1 at h
      refine RunC.seq ?_
      refine RunC.regionW ?_
      refine ROps.l (r := AV.b true) rfl rfl rfl (LOp.assign rfl rfl) ?_
      refine ROps.nil ?_
      refine RunC.ret ?_
      have hq := Option.some.inj h
      subst q0
      exact bodyQ.pure (.inr rfl) rfl (Res.one rfl (RV.tmp rfl))
noncomputable def f50 (a0 : Int) (a1 : Int) (a2 : List Int) (a3 : Int) (a4 : Int) (a5 : List Int) : Option (Bool) :=
  bsel (!decide (a0 = a3)) (
    some false) (
    bsel (!decide (a1 = a4)) (
      some false) (
      obind (f94 a2 a5) fun (r1 : Bool) =>
      bsel r1 (
        some true) (
        some false)))
theorem f50_ok (a0 : Int) (a1 : Int) (a2 : List Int) (a3 : Int) (a4 : Int) (a5 : List Int) (q0 : Bool) (h : f50 a0 a1 a2 a3 a4 a5 = some q0) : Ev Try.prog 50 [AV.agg [AV.i64 a0, AV.i64 a1, AV.sl a2.length (a2.map AV.i64)], AV.agg [AV.i64 a3, AV.i64 a4, AV.sl a5.length (a5.map AV.i64)]] [] (AV.b q0) [] := by
  refine Ev.start Try.func50 rfl rfl 0 (τ := [(0, AV.agg [AV.i64 a0, AV.i64 a1, AV.sl a2.length (a2.map AV.i64)]), (1, AV.agg [AV.i64 a3, AV.i64 a4, AV.sl a5.length (a5.map AV.i64)])]) rfl (Γ' := []) rfl (n := 21) rfl (g := 0) rfl ?_
  unfold f50 at h
  refine RunC.seq ?_
  refine RunC.regionW ?_
  refine ROps.d (r := AV.ptr [AV.i64 a0, AV.i64 a1, AV.sl a2.length (a2.map AV.i64)]) (fs := []) (Γ' := []) rfl rfl rfl (TOp.box_s rfl rfl rfl) rfl ?_
  refine ROps.d (r := AV.ptr [AV.i64 a3, AV.i64 a4, AV.sl a5.length (a5.map AV.i64)]) (fs := []) (Γ' := []) rfl rfl rfl (TOp.box_s rfl rfl rfl) rfl ?_
  refine ROps.l (r := AV.b false) rfl rfl rfl (LOp.assign rfl rfl) ?_
  refine ROps.nil ?_
  refine RunC.seq ?_
  refine RunC.seq ?_
  rcases bsel_some h with ⟨hc1, h⟩ | ⟨hc1, h⟩
  · refine RunC.regionW ?_
    refine ROps.l (r := AV.ptr [AV.i64 a0, AV.i64 a1, AV.sl a2.length (a2.map AV.i64)]) rfl rfl rfl (LOp.fap und45 rfl siz2 rfl rfl rfl) ?_
    refine ROps.l (r := AV.i64 a0) rfl rfl rfl (LOp.load1 agg2 rfl rfl) ?_
    refine ROps.l (r := AV.ptr [AV.i64 a3, AV.i64 a4, AV.sl a5.length (a5.map AV.i64)]) rfl rfl rfl (LOp.fap und45 rfl siz2 rfl rfl rfl) ?_
    refine ROps.l (r := AV.i64 a3) rfl rfl rfl (LOp.load1 agg2 rfl rfl) ?_
    refine ROps.l (r := AV.b true) rfl rfl rfl (LOp.eqb (LOp.neq rfl rfl rfl) hc1) ?_
    refine ROps.nil ?_
    refine RunC.cond_true rfl rfl ?_
    refine RunC.seq ?_
    refine RunC.regionW ?_
    refine ROps.l (r := AV.b false) rfl rfl rfl (LOp.assign rfl rfl) ?_
    refine ROps.nil ?_
    refine RunC.ret ?_
    have hq := Option.some.inj h
    subst q0
    exact bodyQ.pure (.inr rfl) rfl (Res.one rfl (RV.tmp rfl))
  · refine RunC.regionW ?_
    refine ROps.l (r := AV.ptr [AV.i64 a0, AV.i64 a1, AV.sl a2.length (a2.map AV.i64)]) rfl rfl rfl (LOp.fap und45 rfl siz2 rfl rfl rfl) ?_
    refine ROps.l (r := AV.i64 a0) rfl rfl rfl (LOp.load1 agg2 rfl rfl) ?_
    refine ROps.l (r := AV.ptr [AV.i64 a3, AV.i64 a4, AV.sl a5.length (a5.map AV.i64)]) rfl rfl rfl (LOp.fap und45 rfl siz2 rfl rfl rfl) ?_
    refine ROps.l (r := AV.i64 a3) rfl rfl rfl (LOp.load1 agg2 rfl rfl) ?_
    refine ROps.l (r := AV.b false) rfl rfl rfl (LOp.eqb (LOp.neq rfl rfl rfl) hc1) ?_
    refine ROps.nil ?_
    refine RunC.cond_false rfl rfl ?_
    refine RunC.skip ?_
    refine RunC.seq ?_
    refine RunC.seq ?_
    rcases bsel_some h with ⟨hc2, h⟩ | ⟨hc2, h⟩
    · refine RunC.regionW ?_
      refine ROps.l (r := AV.ptr [AV.i64 a1, AV.sl a2.length (a2.map AV.i64)]) rfl rfl rfl (LOp.fap und45 rfl siz2 rfl rfl rfl) ?_
      refine ROps.l (r := AV.i64 a1) rfl rfl rfl (LOp.load1 agg2 rfl rfl) ?_
      refine ROps.l (r := AV.ptr [AV.i64 a4, AV.sl a5.length (a5.map AV.i64)]) rfl rfl rfl (LOp.fap und45 rfl siz2 rfl rfl rfl) ?_
      refine ROps.l (r := AV.i64 a4) rfl rfl rfl (LOp.load1 agg2 rfl rfl) ?_
      refine ROps.l (r := AV.b true) rfl rfl rfl (LOp.eqb (LOp.neq rfl rfl rfl) hc2) ?_
      refine ROps.nil ?_
      refine RunC.cond_true rfl rfl ?_
      refine RunC.seq ?_
      refine RunC.regionW ?_
      refine ROps.l (r := AV.b false) rfl rfl rfl (LOp.assign rfl rfl) ?_
      refine ROps.nil ?_
      refine RunC.ret ?_
      have hq := Option.some.inj h
      subst q0
      exact bodyQ.pure (.inr rfl) rfl (Res.one rfl (RV.tmp rfl))
    · refine RunC.regionW ?_
      refine ROps.l (r := AV.ptr [AV.i64 a1, AV.sl a2.length (a2.map AV.i64)]) rfl rfl rfl (LOp.fap und45 rfl siz2 rfl rfl rfl) ?_
      refine ROps.l (r := AV.i64 a1) rfl rfl rfl (LOp.load1 agg2 rfl rfl) ?_
      refine ROps.l (r := AV.ptr [AV.i64 a4, AV.sl a5.length (a5.map AV.i64)]) rfl rfl rfl (LOp.fap und45 rfl siz2 rfl rfl rfl) ?_
      refine ROps.l (r := AV.i64 a4) rfl rfl rfl (LOp.load1 agg2 rfl rfl) ?_
      refine ROps.l (r := AV.b false) rfl rfl rfl (LOp.eqb (LOp.neq rfl rfl rfl) hc2) ?_
      refine ROps.nil ?_
      refine RunC.cond_false rfl rfl ?_
      refine RunC.skip ?_
      refine RunC.wl (τ' := [(2, AV.ptr [AV.i64 a0, AV.i64 a1, AV.sl a2.length (a2.map AV.i64)]), (3, AV.ptr [AV.i64 a3, AV.i64 a4, AV.sl a5.length (a5.map AV.i64)])]) (Γ' := []) ⟨(ALe.refl _), (ALe.refl _), trivial⟩ trivial ?_
      refine RunC.seq ?_
      refine RunC.seq ?_
      obtain ⟨r1, hf3, h⟩ := obind_some h
      rcases bsel_some h with ⟨hc4, h⟩ | ⟨hc4, h⟩
      · refine RunC.regionW ?_
        refine ROps.l (r := AV.ptr [AV.sl a2.length (a2.map AV.i64)]) rfl rfl rfl (LOp.fap und45 rfl siz43 rfl rfl rfl) ?_
        refine ROps.l (r := AV.sl a2.length (a2.map AV.i64)) rfl rfl rfl (LOp.load1 agg43 rfl rfl) ?_
        refine ROps.l (r := AV.ptr [AV.sl a5.length (a5.map AV.i64)]) rfl rfl rfl (LOp.fap und45 rfl siz43 rfl rfl rfl) ?_
        refine ROps.l (r := AV.sl a5.length (a5.map AV.i64)) rfl rfl rfl (LOp.load1 agg43 rfl rfl) ?_
        refine ROps.d (r := AV.b true) (fs := []) (Γ' := []) rfl rfl rfl (TOp.eqb (TOp.callB (CallAs.func ent94 rfl rfl) (Bors.cons (Bor.sl (fun _ => rfl)) (Bors.cons (Bor.sl (fun _ => rfl)) Bors.nil)) rfl rfl (f94_ok a2 a5 r1 hf3)) hc4) rfl ?_
        refine ROps.l (r := AV.b false) rfl rfl rfl (LOp.eqb (LOp.not rfl rfl) rfl) ?_
        refine ROps.nil ?_
        refine RunC.cond_false rfl rfl ?_
        refine RunC.skip ?_
        refine RunC.seq ?_
        refine RunC.regionW ?_
        refine ROps.l (r := AV.b true) rfl rfl rfl (LOp.assign rfl rfl) ?_
        refine ROps.nil ?_
        refine RunC.ret ?_
        have hq := Option.some.inj h
        subst q0
        exact bodyQ.pure (.inr rfl) rfl (Res.one rfl (RV.tmp rfl))
      · refine RunC.regionW ?_
        refine ROps.l (r := AV.ptr [AV.sl a2.length (a2.map AV.i64)]) rfl rfl rfl (LOp.fap und45 rfl siz43 rfl rfl rfl) ?_
        refine ROps.l (r := AV.sl a2.length (a2.map AV.i64)) rfl rfl rfl (LOp.load1 agg43 rfl rfl) ?_
        refine ROps.l (r := AV.ptr [AV.sl a5.length (a5.map AV.i64)]) rfl rfl rfl (LOp.fap und45 rfl siz43 rfl rfl rfl) ?_
        refine ROps.l (r := AV.sl a5.length (a5.map AV.i64)) rfl rfl rfl (LOp.load1 agg43 rfl rfl) ?_
        refine ROps.d (r := AV.b false) (fs := []) (Γ' := []) rfl rfl rfl (TOp.eqb (TOp.callB (CallAs.func ent94 rfl rfl) (Bors.cons (Bor.sl (fun _ => rfl)) (Bors.cons (Bor.sl (fun _ => rfl)) Bors.nil)) rfl rfl (f94_ok a2 a5 r1 hf3)) hc4) rfl ?_
        refine ROps.l (r := AV.b true) rfl rfl rfl (LOp.eqb (LOp.not rfl rfl) rfl) ?_
        refine ROps.nil ?_
        refine RunC.cond_true rfl rfl ?_
        refine RunC.seq ?_
        refine RunC.regionW ?_
        refine ROps.l (r := AV.b false) rfl rfl rfl (LOp.assign rfl rfl) ?_
        refine ROps.nil ?_
        refine RunC.ret ?_
        have hq := Option.some.inj h
        subst q0
        exact bodyQ.pure (.inr rfl) rfl (Res.one rfl (RV.tmp rfl))
end Go.Proofs.Ytmgjiomflefedaa
