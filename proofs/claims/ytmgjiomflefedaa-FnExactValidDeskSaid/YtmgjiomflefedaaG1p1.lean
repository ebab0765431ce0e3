/- Generated. -/
import Derived.Test.YtmgjiomflefedaaG1p0
namespace Go.Proofs.Ytmgjiomflefedaa
open Go Go.AM
set_option maxRecDepth 20000
set_option maxHeartbeats 4000000
set_option linter.unusedVariables false
set_option linter.unusedSimpArgs false
noncomputable def f21 (a0 : Int) (a1 : Int) (a2 : List F) (a3 : List F) (a4 : List F) (a5 : List F) (a6 : Int) (a7 : Int) (a8 : List Int) (a9 : Int) (a10 : Int) (a11 : List F) (a12 : List F) (a13 : List F) (a14 : List F) (a15 : Int) (a16 : Int) (a17 : List Int) : Option (Bool) :=
  obind (f28 a0 a1 a2 a9 a10 a11) fun (r1 : Bool) =>
  bsel r1 (
    obind (f48 a3 a12) fun (r2 : Bool) =>
    bsel r2 (
      obind (f49 a4 a5 a13 a14) fun (r3 : Bool) =>
      bsel r3 (
        obind (f50 a6 a7 a8 a15 a16 a17) fun (r4 : Bool) =>
        bsel r4 (
          some true) (
          some false)) (
        some false)) (
      some false)) (
    some false)
theorem f21_ok (a0 : Int) (a1 : Int) (a2 : List F) (a3 : List F) (a4 : List F) (a5 : List F) (a6 : Int) (a7 : Int) (a8 : List Int) (a9 : Int) (a10 : Int) (a11 : List F) (a12 : List F) (a13 : List F) (a14 : List F) (a15 : Int) (a16 : Int) (a17 : List Int) (q0 : Bool) (h : f21 a0 a1 a2 a3 a4 a5 a6 a7 a8 a9 a10 a11 a12 a13 a14 a15 a16 a17 = some q0) : Ev Try.prog 21 [AV.agg [AV.i64 a0, AV.i64 a1, AV.sl a2.length (a2.map AV.f32), AV.sl a3.length (a3.map AV.f32), AV.sl a4.length (a4.map AV.f32), AV.sl a5.length (a5.map AV.f32), AV.i64 a6, AV.i64 a7, AV.sl a8.length (a8.map AV.i64)], AV.agg [AV.i64 a9, AV.i64 a10, AV.sl a11.length (a11.map AV.f32), AV.sl a12.length (a12.map AV.f32), AV.sl a13.length (a13.map AV.f32), AV.sl a14.length (a14.map AV.f32), AV.i64 a15, AV.i64 a16, AV.sl a17.length (a17.map AV.i64)]] [] (AV.b q0) [] := by
  refine Ev.start Try.func21 rfl rfl 0 (τ := [(0, AV.agg [AV.i64 a0, AV.i64 a1, AV.sl a2.length (a2.map AV.f32), AV.sl a3.length (a3.map AV.f32), AV.sl a4.length (a4.map AV.f32), AV.sl a5.length (a5.map AV.f32), AV.i64 a6, AV.i64 a7, AV.sl a8.length (a8.map AV.i64)]), (1, AV.agg [AV.i64 a9, AV.i64 a10, AV.sl a11.length (a11.map AV.f32), AV.sl a12.length (a12.map AV.f32), AV.sl a13.length (a13.map AV.f32), AV.sl a14.length (a14.map AV.f32), AV.i64 a15, AV.i64 a16, AV.sl a17.length (a17.map AV.i64)])]) rfl (Γ' := []) rfl (n := 29) rfl (g := 0) rfl ?_
  unfold f21 at h
  refine RunC.seq ?_
  refine RunC.regionW ?_
  refine ROps.d (r := AV.ptr [AV.i64 a0, AV.i64 a1, AV.sl a2.length (a2.map AV.f32), AV.sl a3.length (a3.map AV.f32), AV.sl a4.length (a4.map AV.f32), AV.sl a5.length (a5.map AV.f32), AV.i64 a6, AV.i64 a7, AV.sl a8.length (a8.map AV.i64)]) (fs := []) (Γ' := []) rfl rfl rfl (TOp.box_s rfl rfl rfl) rfl ?_
  refine ROps.d (r := AV.ptr [AV.i64 a9, AV.i64 a10, AV.sl a11.length (a11.map AV.f32), AV.sl a12.length (a12.map AV.f32), AV.sl a13.length (a13.map AV.f32), AV.sl a14.length (a14.map AV.f32), AV.i64 a15, AV.i64 a16, AV.sl a17.length (a17.map AV.i64)]) (fs := []) (Γ' := []) rfl rfl rfl (TOp.box_s rfl rfl rfl) rfl ?_
  refine ROps.l (r := AV.b false) rfl rfl rfl (LOp.assign rfl rfl) ?_
  refine ROps.nil ?_
  refine RunC.seq ?_
  refine RunC.seq ?_
  obtain ⟨r1, hf1, h⟩ := obind_some h
  rcases bsel_some h with ⟨hc2, h⟩ | ⟨hc2, h⟩
  · refine RunC.regionW ?_
    refine ROps.l (r := AV.ptr [AV.i64 a0, AV.i64 a1, AV.sl a2.length (a2.map AV.f32), AV.sl a3.length (a3.map AV.f32), AV.sl a4.length (a4.map AV.f32), AV.sl a5.length (a5.map AV.f32), AV.i64 a6, AV.i64 a7, AV.sl a8.length (a8.map AV.i64)]) rfl rfl rfl (LOp.fap und47 rfl siz40 rfl rfl rfl) ?_
    refine ROps.l (r := AV.agg [AV.i64 a0, AV.i64 a1, AV.sl a2.length (a2.map AV.f32)]) rfl rfl rfl (LOp.loadAgg agg40 siz40 rfl rfl rfl rfl) ?_
    refine ROps.l (r := AV.ptr [AV.i64 a9, AV.i64 a10, AV.sl a11.length (a11.map AV.f32), AV.sl a12.length (a12.map AV.f32), AV.sl a13.length (a13.map AV.f32), AV.sl a14.length (a14.map AV.f32), AV.i64 a15, AV.i64 a16, AV.sl a17.length (a17.map AV.i64)]) rfl rfl rfl (LOp.fap und47 rfl siz40 rfl rfl rfl) ?_
    refine ROps.l (r := AV.agg [AV.i64 a9, AV.i64 a10, AV.sl a11.length (a11.map AV.f32)]) rfl rfl rfl (LOp.loadAgg agg40 siz40 rfl rfl rfl rfl) ?_
    refine ROps.d (r := AV.b true) (fs := []) (Γ' := []) rfl rfl rfl (TOp.eqb (TOp.callB (CallAs.func ent28 rfl rfl) (Bors.cons (Bor.agg (Bors.cons (Bor.pure rfl) (Bors.cons (Bor.pure rfl) (Bors.cons (Bor.sl (fun _ => rfl)) Bors.nil)))) (Bors.cons (Bor.agg (Bors.cons (Bor.pure rfl) (Bors.cons (Bor.pure rfl) (Bors.cons (Bor.sl (fun _ => rfl)) Bors.nil)))) Bors.nil)) rfl rfl (f28_ok a0 a1 a2 a9 a10 a11 r1 hf1)) hc2) rfl ?_
    refine ROps.l (r := AV.b false) rfl rfl rfl (LOp.eqb (LOp.not rfl rfl) rfl) ?_
    refine ROps.nil ?_
    refine RunC.cond_false rfl rfl ?_
    refine RunC.skip ?_
    refine RunC.seq ?_
    refine RunC.seq ?_
    obtain ⟨r2, hf3, h⟩ := obind_some h
    rcases bsel_some h with ⟨hc4, h⟩ | ⟨hc4, h⟩
    · refine RunC.regionW ?_
      refine ROps.l (r := AV.ptr [AV.sl a3.length (a3.map AV.f32), AV.sl a4.length (a4.map AV.f32), AV.sl a5.length (a5.map AV.f32), AV.i64 a6, AV.i64 a7, AV.sl a8.length (a8.map AV.i64)]) rfl rfl rfl (LOp.fap und47 rfl siz38 rfl rfl rfl) ?_
      refine ROps.l (r := AV.sl a3.length (a3.map AV.f32)) rfl rfl rfl (LOp.load1 agg38 rfl rfl) ?_
      refine ROps.l (r := AV.ptr [AV.sl a12.length (a12.map AV.f32), AV.sl a13.length (a13.map AV.f32), AV.sl a14.length (a14.map AV.f32), AV.i64 a15, AV.i64 a16, AV.sl a17.length (a17.map AV.i64)]) rfl rfl rfl (LOp.fap und47 rfl siz38 rfl rfl rfl) ?_
      refine ROps.l (r := AV.sl a12.length (a12.map AV.f32)) rfl rfl rfl (LOp.load1 agg38 rfl rfl) ?_
      refine ROps.d (r := AV.b true) (fs := []) (Γ' := []) rfl rfl rfl (TOp.eqb (TOp.callB (CallAs.func ent48 rfl rfl) (Bors.cons (Bor.sl (fun _ => rfl)) (Bors.cons (Bor.sl (fun _ => rfl)) Bors.nil)) rfl rfl (f48_ok a3 a12 r2 hf3)) hc4) rfl ?_
      refine ROps.l (r := AV.b false) rfl rfl rfl (LOp.eqb (LOp.not rfl rfl) rfl) ?_
      refine ROps.nil ?_
      refine RunC.wl (τ' := [(2, AV.ptr [AV.i64 a0, AV.i64 a1, AV.sl a2.length (a2.map AV.f32), AV.sl a3.length (a3.map AV.f32), AV.sl a4.length (a4.map AV.f32), AV.sl a5.length (a5.map AV.f32), AV.i64 a6, AV.i64 a7, AV.sl a8.length (a8.map AV.i64)]), (3, AV.ptr [AV.i64 a9, AV.i64 a10, AV.sl a11.length (a11.map AV.f32), AV.sl a12.length (a12.map AV.f32), AV.sl a13.length (a13.map AV.f32), AV.sl a14.length (a14.map AV.f32), AV.i64 a15, AV.i64 a16, AV.sl a17.length (a17.map AV.i64)]), (16, AV.b false)]) (Γ' := []) ⟨(ALe.refl _), (ALe.refl _), (ALe.refl _), trivial⟩ trivial ?_
      refine RunC.cond_false rfl rfl ?_
      refine RunC.skip ?_
      refine RunC.seq ?_
      refine RunC.seq ?_
      obtain ⟨r3, hf5, h⟩ := obind_some h
      rcases bsel_some h with ⟨hc6, h⟩ | ⟨hc6, h⟩
      · refine RunC.regionW ?_
        refine ROps.l (r := AV.ptr [AV.sl a4.length (a4.map AV.f32), AV.sl a5.length (a5.map AV.f32), AV.i64 a6, AV.i64 a7, AV.sl a8.length (a8.map AV.i64)]) rfl rfl rfl (LOp.fap und47 rfl siz42 rfl rfl rfl) ?_
        refine ROps.l (r := AV.agg [AV.sl a4.length (a4.map AV.f32), AV.sl a5.length (a5.map AV.f32)]) rfl rfl rfl (LOp.loadAgg agg42 siz42 rfl rfl rfl rfl) ?_
        refine ROps.l (r := AV.ptr [AV.sl a13.length (a13.map AV.f32), AV.sl a14.length (a14.map AV.f32), AV.i64 a15, AV.i64 a16, AV.sl a17.length (a17.map AV.i64)]) rfl rfl rfl (LOp.fap und47 rfl siz42 rfl rfl rfl) ?_
        refine ROps.l (r := AV.agg [AV.sl a13.length (a13.map AV.f32), AV.sl a14.length (a14.map AV.f32)]) rfl rfl rfl (LOp.loadAgg agg42 siz42 rfl rfl rfl rfl) ?_
        refine ROps.d (r := AV.b true) (fs := []) (Γ' := []) rfl rfl rfl (TOp.eqb (TOp.callB (CallAs.func ent49 rfl rfl) (Bors.cons (Bor.agg (Bors.cons (Bor.sl (fun _ => rfl)) (Bors.cons (Bor.sl (fun _ => rfl)) Bors.nil))) (Bors.cons (Bor.agg (Bors.cons (Bor.sl (fun _ => rfl)) (Bors.cons (Bor.sl (fun _ => rfl)) Bors.nil))) Bors.nil)) rfl rfl (f49_ok a4 a5 a13 a14 r3 hf5)) hc6) rfl ?_
        refine ROps.l (r := AV.b false) rfl rfl rfl (LOp.eqb (LOp.not rfl rfl) rfl) ?_
        refine ROps.nil ?_
        refine RunC.cond_false rfl rfl ?_
        refine RunC.skip ?_
        refine RunC.seq ?_
        refine RunC.seq ?_
        obtain ⟨r4, hf7, h⟩ := obind_some h
        rcases bsel_some h with ⟨hc8, h⟩ | ⟨hc8, h⟩
        · refine RunC.regionW ?_
          refine ROps.l (r := AV.ptr [AV.i64 a6, AV.i64 a7, AV.sl a8.length (a8.map AV.i64)]) rfl rfl rfl (LOp.fap und47 rfl siz45 rfl rfl rfl) ?_
          refine ROps.l (r := AV.agg [AV.i64 a6, AV.i64 a7, AV.sl a8.length (a8.map AV.i64)]) rfl rfl rfl (LOp.loadAgg agg45 siz45 rfl rfl rfl rfl) ?_
          refine ROps.l (r := AV.ptr [AV.i64 a15, AV.i64 a16, AV.sl a17.length (a17.map AV.i64)]) rfl rfl rfl (LOp.fap und47 rfl siz45 rfl rfl rfl) ?_
          refine ROps.l (r := AV.agg [AV.i64 a15, AV.i64 a16, AV.sl a17.length (a17.map AV.i64)]) rfl rfl rfl (LOp.loadAgg agg45 siz45 rfl rfl rfl rfl) ?_
          refine ROps.d (r := AV.b true) (fs := []) (Γ' := []) rfl rfl rfl (TOp.eqb (TOp.callB (CallAs.func ent50 rfl rfl) (Bors.cons (Bor.agg (Bors.cons (Bor.pure rfl) (Bors.cons (Bor.pure rfl) (Bors.cons (Bor.sl (fun _ => rfl)) Bors.nil)))) (Bors.cons (Bor.agg (Bors.cons (Bor.pure rfl) (Bors.cons (Bor.pure rfl) (Bors.cons (Bor.sl (fun _ => rfl)) Bors.nil)))) Bors.nil)) rfl rfl (f50_ok a6 a7 a8 a15 a16 a17 r4 hf7)) hc8) rfl ?_
          refine ROps.l (r := AV.b false) rfl rfl rfl (LOp.eqb (LOp.not rfl rfl) rfl) ?_
          refine ROps.nil ?_
          refine RunC.wl (τ' := [(28, AV.b false)]) (Γ' := []) ⟨(ALe.refl _), trivial⟩ trivial ?_
          refine RunC.cond_false rfl rfl ?_
          refine RunC.skip ?_
          refine RunC.seq ?_
          refine RunC.regionW ?_
          refine ROps.l (r := AV.b true) rfl rfl rfl (LOp.assign rfl rfl) ?_
          refine ROps.nil ?_
          refine RunC.ret ?_
          have hq := Option.some.inj h
          subst q0
          exact bodyQ.pure (.inr rfl) rfl (Res.one rfl (RV.tmp rfl))
        · refine RunC.regionW ?_
          refine ROps.l (r := AV.ptr [AV.i64 a6, AV.i64 a7, AV.sl a8.length (a8.map AV.i64)]) rfl rfl rfl (LOp.fap und47 rfl siz45 rfl rfl rfl) ?_
          refine ROps.l (r := AV.agg [AV.i64 a6, AV.i64 a7, AV.sl a8.length (a8.map AV.i64)]) rfl rfl rfl (LOp.loadAgg agg45 siz45 rfl rfl rfl rfl) ?_
          refine ROps.l (r := AV.ptr [AV.i64 a15, AV.i64 a16, AV.sl a17.length (a17.map AV.i64)]) rfl rfl rfl (LOp.fap und47 rfl siz45 rfl rfl rfl) ?_
          refine ROps.l (r := AV.agg [AV.i64 a15, AV.i64 a16, AV.sl a17.length (a17.map AV.i64)]) rfl rfl rfl (LOp.loadAgg agg45 siz45 rfl rfl rfl rfl) ?_
          refine ROps.d (r := AV.b false) (fs := []) (Γ' := []) rfl rfl rfl (TOp.eqb (TOp.callB (CallAs.func ent50 rfl rfl) (Bors.cons (Bor.agg (Bors.cons (Bor.pure rfl) (Bors.cons (Bor.pure rfl) (Bors.cons (Bor.sl (fun _ => rfl)) Bors.nil)))) (Bors.cons (Bor.agg (Bors.cons (Bor.pure rfl) (Bors.cons (Bor.pure rfl) (Bors.cons (Bor.sl (fun _ => rfl)) Bors.nil)))) Bors.nil)) rfl rfl (f50_ok a6 a7 a8 a15 a16 a17 r4 hf7)) hc8) rfl ?_
          refine ROps.l (r := AV.b true) rfl rfl rfl (LOp.eqb (LOp.not rfl rfl) rfl) ?_
          refine ROps.nil ?_
          refine RunC.wl (τ' := [(28, AV.b true)]) (Γ' := []) ⟨(ALe.refl _), trivial⟩ trivial ?_
          refine RunC.cond_true rfl rfl ?_
          refine RunC.seq ?_
          refine RunC.regionW ?_
          refine ROps.l (r := AV.b false) rfl rfl rfl (LOp.assign rfl rfl) ?_
          refine ROps.nil ?_
          refine RunC.ret ?_
          have hq := Option.some.inj h
          subst q0
          exact bodyQ.pure (.inr rfl) rfl (Res.one rfl (RV.tmp rfl))
      · refine RunC.regionW ?_
        refine ROps.l (r := AV.ptr [AV.sl a4.length (a4.map AV.f32), AV.sl a5.length (a5.map AV.f32), AV.i64 a6, AV.i64 a7, AV.sl a8.length (a8.map AV.i64)]) rfl rfl rfl (LOp.fap und47 rfl siz42 rfl rfl rfl) ?_
        refine ROps.l (r := AV.agg [AV.sl a4.length (a4.map AV.f32), AV.sl a5.length (a5.map AV.f32)]) rfl rfl rfl (LOp.loadAgg agg42 siz42 rfl rfl rfl rfl) ?_
        refine ROps.l (r := AV.ptr [AV.sl a13.length (a13.map AV.f32), AV.sl a14.length (a14.map AV.f32), AV.i64 a15, AV.i64 a16, AV.sl a17.length (a17.map AV.i64)]) rfl rfl rfl (LOp.fap und47 rfl siz42 rfl rfl rfl) ?_
        refine ROps.l (r := AV.agg [AV.sl a13.length (a13.map AV.f32), AV.sl a14.length (a14.map AV.f32)]) rfl rfl rfl (LOp.loadAgg agg42 siz42 rfl rfl rfl rfl) ?_
        refine ROps.d (r := AV.b false) (fs := []) (Γ' := []) rfl rfl rfl (TOp.eqb (TOp.callB (CallAs.func ent49 rfl rfl) (Bors.cons (Bor.agg (Bors.cons (Bor.sl (fun _ => rfl)) (Bors.cons (Bor.sl (fun _ => rfl)) Bors.nil))) (Bors.cons (Bor.agg (Bors.cons (Bor.sl (fun _ => rfl)) (Bors.cons (Bor.sl (fun _ => rfl)) Bors.nil))) Bors.nil)) rfl rfl (f49_ok a4 a5 a13 a14 r3 hf5)) hc6) rfl ?_
        refine ROps.l (r := AV.b true) rfl rfl rfl (LOp.eqb (LOp.not rfl rfl) rfl) ?_
        refine ROps.nil ?_
        refine RunC.cond_true rfl rfl ?_
        refine RunC.seq ?_
        refine RunC.regionW ?_
        refine ROps.l (r := AV.b false) rfl rfl rfl (LOp.assign rfl rfl) ?_
        refine ROps.nil ?_
        refine RunC.ret ?_
        have hq := Option.some.inj h
        subst q0
        exact bodyQ.pure (.inr rfl) rfl (Res.one rfl (RV.tmp rfl))
    · refine RunC.regionW ?_
      refine ROps.l (r := AV.ptr [AV.sl a3.length (a3.map AV.f32), AV.sl a4.length (a4.map AV.f32), AV.sl a5.length (a5.map AV.f32), AV.i64 a6, AV.i64 a7, AV.sl a8.length (a8.map AV.i64)]) rfl rfl rfl (LOp.fap und47 rfl siz38 rfl rfl rfl) ?_
      refine ROps.l (r := AV.sl a3.length (a3.map AV.f32)) rfl rfl rfl (LOp.load1 agg38 rfl rfl) ?_
      refine ROps.l (r := AV.ptr [AV.sl a12.length (a12.map AV.f32), AV.sl a13.length (a13.map AV.f32), AV.sl a14.length (a14.map AV.f32), AV.i64 a15, AV.i64 a16, AV.sl a17.length (a17.map AV.i64)]) rfl rfl rfl (LOp.fap und47 rfl siz38 rfl rfl rfl) ?_
      refine ROps.l (r := AV.sl a12.length (a12.map AV.f32)) rfl rfl rfl (LOp.load1 agg38 rfl rfl) ?_
      refine ROps.d (r := AV.b false) (fs := []) (Γ' := []) rfl rfl rfl (TOp.eqb (TOp.callB (CallAs.func ent48 rfl rfl) (Bors.cons (Bor.sl (fun _ => rfl)) (Bors.cons (Bor.sl (fun _ => rfl)) Bors.nil)) rfl rfl (f48_ok a3 a12 r2 hf3)) hc4) rfl ?_
      refine ROps.l (r := AV.b true) rfl rfl rfl (LOp.eqb (LOp.not rfl rfl) rfl) ?_
      refine ROps.nil ?_
      refine RunC.wl (τ' := [(2, AV.ptr [AV.i64 a0, AV.i64 a1, AV.sl a2.length (a2.map AV.f32), AV.sl a3.length (a3.map AV.f32), AV.sl a4.length (a4.map AV.f32), AV.sl a5.length (a5.map AV.f32), AV.i64 a6, AV.i64 a7, AV.sl a8.length (a8.map AV.i64)]), (3, AV.ptr [AV.i64 a9, AV.i64 a10, AV.sl a11.length (a11.map AV.f32), AV.sl a12.length (a12.map AV.f32), AV.sl a13.length (a13.map AV.f32), AV.sl a14.length (a14.map AV.f32), AV.i64 a15, AV.i64 a16, AV.sl a17.length (a17.map AV.i64)]), (16, AV.b true)]) (Γ' := []) ⟨(ALe.refl _), (ALe.refl _), (ALe.refl _), trivial⟩ trivial ?_
      refine RunC.cond_true rfl rfl ?_
      refine RunC.seq ?_
      refine RunC.regionW ?_
      refine ROps.l (r := AV.b false) rfl rfl rfl (LOp.assign rfl rfl) ?_
      refine ROps.nil ?_
      refine RunC.ret ?_
      have hq := Option.some.inj h
      subst q0
      exact bodyQ.pure (.inr rfl) rfl (Res.one rfl (RV.tmp rfl))
  · refine RunC.regionW ?_
    refine ROps.l (r := AV.ptr [AV.i64 a0, AV.i64 a1, AV.sl a2.length (a2.map AV.f32), AV.sl a3.length (a3.map AV.f32), AV.sl a4.length (a4.map AV.f32), AV.sl a5.length (a5.map AV.f32), AV.i64 a6, AV.i64 a7, AV.sl a8.length (a8.map AV.i64)]) rfl rfl rfl (LOp.fap und47 rfl siz40 rfl rfl rfl) ?_
    refine ROps.l (r := AV.agg [AV.i64 a0, AV.i64 a1, AV.sl a2.length (a2.map AV.f32)]) rfl rfl rfl (LOp.loadAgg agg40 siz40 rfl rfl rfl rfl) ?_
    refine ROps.l (r := AV.ptr [AV.i64 a9, AV.i64 a10, AV.sl a11.length (a11.map AV.f32), AV.sl a12.length (a12.map AV.f32), AV.sl a13.length (a13.map AV.f32), AV.sl a14.length (a14.map AV.f32), AV.i64 a15, AV.i64 a16, AV.sl a17.length (a17.map AV.i64)]) rfl rfl rfl (LOp.fap und47 rfl siz40 rfl rfl rfl) ?_
    refine ROps.l (r := AV.agg [AV.i64 a9, AV.i64 a10, AV.sl a11.length (a11.map AV.f32)]) rfl rfl rfl (LOp.loadAgg agg40 siz40 rfl rfl rfl rfl) ?_
    refine ROps.d (r := AV.b false) (fs := []) (Γ' := []) rfl rfl rfl (TOp.eqb (TOp.callB (CallAs.func ent28 rfl rfl) (Bors.cons (Bor.agg (Bors.cons (Bor.pure rfl) (Bors.cons (Bor.pure rfl) (Bors.cons (Bor.sl (fun _ => rfl)) Bors.nil)))) (Bors.cons (Bor.agg (Bors.cons (Bor.pure rfl) (Bors.cons (Bor.pure rfl) (Bors.cons (Bor.sl (fun _ => rfl)) Bors.nil)))) Bors.nil)) rfl rfl (f28_ok a0 a1 a2 a9 a10 a11 r1 hf1)) hc2) rfl ?_
    refine ROps.l (r := AV.b true) rfl rfl rfl (LOp.eqb (LOp.not rfl rfl) rfl) ?_
    refine ROps.nil ?_
    refine RunC.cond_true rfl rfl ?_
    refine RunC.seq ?_
    refine RunC.regionW ?_
    refine ROps.l (r := AV.b false) rfl rfl rfl (LOp.assign rfl rfl) ?_
    refine ROps.nil ?_
    refine RunC.ret ?_
    have hq := Option.some.inj h
    subst q0
    exact bodyQ.pure (.inr rfl) rfl (Res.one rfl (RV.tmp rfl))
noncomputable def f6 (a0 : Int) (a1 : Int) (a2 : List F) (a3 : List F) (a4 : List F) (a5 : List F) (a6 : Int) (a7 : Int) (a8 : List Int) (a9 : Int) (a10 : Int) (a11 : List F) (a12 : List F) (a13 : List F) (a14 : List F) (a15 : Int) (a16 : Int) (a17 : List Int) : Option (Bool) :=
  obind (f31 a0 a1 a2 a3 a4 a5 a6 a7 a8 1048576) fun (r1 : Int) =>
  bsel (decide (r1 < 0)) (
    some true) (
    obind (f31 a9 a10 a11 a12 a13 a14 a15 a16 a17 r1) fun (r2 : Int) =>
    bsel (decide (r2 < 0)) (
      some true) (
      obind9 (f33 a0 a1 a2 a3 a4 a5 a6 a7 a8) fun (r3 : Int) (r4 : Int) (r5 : Int) (r6 : Int) (r7 : List F) (r8 : List F) (r9 : List F) (r10 : List F) (r11 : List Int) =>
      obind9 (f33 a9 a10 a11 a12 a13 a14 a15 a16 a17) fun (r12 : Int) (r13 : Int) (r14 : Int) (r15 : Int) (r16 : List F) (r17 : List F) (r18 : List F) (r19 : List F) (r20 : List Int) =>
      obind (f32 r3 r4 r7 r8 r9 r10 r5 r6 r11 r12 r13 r16 r17 r18 r19 r14 r15 r20) fun (r21 : Bool) =>
      obind9 (f33 a0 a1 a2 a3 a4 a5 a6 a7 a8) fun (r22 : Int) (r23 : Int) (r24 : Int) (r25 : Int) (r26 : List F) (r27 : List F) (r28 : List F) (r29 : List F) (r30 : List Int) =>
      obind9 (f33 a9 a10 a11 a12 a13 a14 a15 a16 a17) fun (r31 : Int) (r32 : Int) (r33 : Int) (r34 : Int) (r35 : List F) (r36 : List F) (r37 : List F) (r38 : List F) (r39 : List Int) =>
      obind (f34 r22 r23 r26 r27 r28 r29 r24 r25 r30 r31 r32 r35 r36 r37 r38 r33 r34 r39) fun (r40 : Bool) =>
      bsel (!(r40 == r21)) (
        some false) (
        obind9 (f33 a0 a1 a2 a3 a4 a5 a6 a7 a8) fun (r41 : Int) (r42 : Int) (r43 : Int) (r44 : Int) (r45 : List F) (r46 : List F) (r47 : List F) (r48 : List F) (r49 : List Int) =>
        obind (f21 r22 r23 r26 r27 r28 r29 r24 r25 r30 r41 r42 r45 r46 r47 r48 r43 r44 r49) fun (r50 : Bool) =>
        bsel r50 (
          obind9 (f33 a9 a10 a11 a12 a13 a14 a15 a16 a17) fun (r51 : Int) (r52 : Int) (r53 : Int) (r54 : Int) (r55 : List F) (r56 : List F) (r57 : List F) (r58 : List F) (r59 : List Int) =>
          obind (f21 r31 r32 r35 r36 r37 r38 r33 r34 r39 r51 r52 r55 r56 r57 r58 r53 r54 r59) fun (r60 : Bool) =>
          bsel r60 (
            some true) (
            some false)) (
          some false))))
theorem f6_ok (a0 : Int) (a1 : Int) (a2 : List F) (a3 : List F) (a4 : List F) (a5 : List F) (a6 : Int) (a7 : Int) (a8 : List Int) (a9 : Int) (a10 : Int) (a11 : List F) (a12 : List F) (a13 : List F) (a14 : List F) (a15 : Int) (a16 : Int) (a17 : List Int) (q0 : Bool) (h : f6 a0 a1 a2 a3 a4 a5 a6 a7 a8 a9 a10 a11 a12 a13 a14 a15 a16 a17 = some q0) : Ev Try.prog 6 [AV.agg [AV.i64 a0, AV.i64 a1, AV.sl a2.length (a2.map AV.f32), AV.sl a3.length (a3.map AV.f32), AV.sl a4.length (a4.map AV.f32), AV.sl a5.length (a5.map AV.f32), AV.i64 a6, AV.i64 a7, AV.sl a8.length (a8.map AV.i64)], AV.agg [AV.i64 a9, AV.i64 a10, AV.sl a11.length (a11.map AV.f32), AV.sl a12.length (a12.map AV.f32), AV.sl a13.length (a13.map AV.f32), AV.sl a14.length (a14.map AV.f32), AV.i64 a15, AV.i64 a16, AV.sl a17.length (a17.map AV.i64)]] [] (AV.b q0) [] := by
  refine Ev.start Try.func6 rfl rfl 12 (τ := [(0, AV.agg [AV.i64 a0, AV.i64 a1, AV.sl a2.length (a2.map AV.f32), AV.sl a3.length (a3.map AV.f32), AV.sl a4.length (a4.map AV.f32), AV.sl a5.length (a5.map AV.f32), AV.i64 a6, AV.i64 a7, AV.sl a8.length (a8.map AV.i64)]), (1, AV.agg [AV.i64 a9, AV.i64 a10, AV.sl a11.length (a11.map AV.f32), AV.sl a12.length (a12.map AV.f32), AV.sl a13.length (a13.map AV.f32), AV.sl a14.length (a14.map AV.f32), AV.i64 a15, AV.i64 a16, AV.sl a17.length (a17.map AV.i64)])]) rfl (Γ' := [⟨0, none⟩, ⟨0, none⟩, ⟨0, none⟩, ⟨0, none⟩, ⟨0, none⟩, ⟨0, none⟩, ⟨0, none⟩, ⟨0, none⟩, ⟨0, none⟩, ⟨0, none⟩, ⟨0, none⟩, ⟨0, none⟩]) rfl (n := 45) rfl (g := 0) rfl ?_
  unfold f6 at h
  refine RunC.seq ?_
  refine RunC.regionW ?_
  refine ROps.d (r := AV.ptr [AV.i64 a0, AV.i64 a1, AV.sl a2.length (a2.map AV.f32), AV.sl a3.length (a3.map AV.f32), AV.sl a4.length (a4.map AV.f32), AV.sl a5.length (a5.map AV.f32), AV.i64 a6, AV.i64 a7, AV.sl a8.length (a8.map AV.i64)]) (fs := []) (Γ' := [⟨0, none⟩, ⟨0, none⟩, ⟨0, none⟩, ⟨0, none⟩, ⟨0, none⟩, ⟨0, none⟩, ⟨0, none⟩, ⟨0, none⟩, ⟨0, none⟩, ⟨0, none⟩, ⟨0, none⟩, ⟨0, none⟩]) rfl rfl rfl (TOp.box_s rfl rfl rfl) rfl ?_
  refine ROps.d (r := AV.ptr [AV.i64 a9, AV.i64 a10, AV.sl a11.length (a11.map AV.f32), AV.sl a12.length (a12.map AV.f32), AV.sl a13.length (a13.map AV.f32), AV.sl a14.length (a14.map AV.f32), AV.i64 a15, AV.i64 a16, AV.sl a17.length (a17.map AV.i64)]) (fs := []) (Γ' := [⟨0, none⟩, ⟨0, none⟩, ⟨0, none⟩, ⟨0, none⟩, ⟨0, none⟩, ⟨0, none⟩, ⟨0, none⟩, ⟨0, none⟩, ⟨0, none⟩, ⟨0, none⟩, ⟨0, none⟩, ⟨0, none⟩]) rfl rfl rfl (TOp.box_s rfl rfl rfl) rfl ?_
  refine ROps.l (r := AV.b false) rfl rfl rfl (LOp.assign rfl rfl) ?_
  refine ROps.nil ?_
  refine RunC.seq ?_
  refine RunC.regionW ?_
  refine ROps.l (r := AV.i64 1048576) rfl rfl rfl (LOp.assign rfl rfl) ?_
  refine ROps.nil ?_
  refine RunC.seq ?_
  obtain ⟨r1, hf1, h⟩ := obind_some h
  refine RunC.regionW ?_
  refine ROps.l (r := AV.agg [AV.i64 a0, AV.i64 a1, AV.sl a2.length (a2.map AV.f32), AV.sl a3.length (a3.map AV.f32), AV.sl a4.length (a4.map AV.f32), AV.sl a5.length (a5.map AV.f32), AV.i64 a6, AV.i64 a7, AV.sl a8.length (a8.map AV.i64)]) rfl rfl rfl (LOp.loadAgg agg63 siz63 rfl rfl rfl rfl) ?_
  refine ROps.l (r := AV.i64 1048576) rfl rfl rfl (LOp.move rfl rfl) ?_
  refine ROps.d (r := AV.i64 r1) (fs := []) (Γ' := [⟨0, none⟩, ⟨0, none⟩, ⟨0, none⟩, ⟨0, none⟩, ⟨0, none⟩, ⟨0, none⟩, ⟨0, none⟩, ⟨0, none⟩, ⟨0, none⟩, ⟨0, none⟩, ⟨0, none⟩, ⟨0, none⟩]) rfl rfl rfl (TOp.callB (CallAs.func ent31 rfl rfl) (Bors.cons (Bor.agg (Bors.cons (Bor.pure rfl) (Bors.cons (Bor.pure rfl) (Bors.cons (Bor.sl (fun _ => rfl)) (Bors.cons (Bor.sl (fun _ => rfl)) (Bors.cons (Bor.sl (fun _ => rfl)) (Bors.cons (Bor.sl (fun _ => rfl)) (Bors.cons (Bor.pure rfl) (Bors.cons (Bor.pure rfl) (Bors.cons (Bor.sl (fun _ => rfl)) Bors.nil)))))))))) (Bors.cons (Bor.pure rfl) Bors.nil)) rfl rfl (f31_ok a0 a1 a2 a3 a4 a5 a6 a7 a8 1048576 r1 hf1)) rfl ?_
  refine ROps.l (r := AV.i64 r1) rfl rfl rfl (LOp.assign rfl rfl) ?_
  refine ROps.nil ?_
  refine RunC.seq ?_
  refine RunC.seq ?_
  rcases bsel_some h with ⟨hc2, h⟩ | ⟨hc2, h⟩
  · refine RunC.regionW ?_
    refine ROps.l (r := AV.i64 r1) rfl rfl rfl (LOp.move rfl rfl) ?_
    refine ROps.l (r := AV.b true) rfl rfl rfl (LOp.eqb (LOp.lss rfl rfl rfl) hc2) ?_
    refine ROps.nil ?_
    refine RunC.cond_true rfl rfl ?_
    refine RunC.seq ?_
    refine RunC.regionW ?_
    refine ROps.l (r := AV.b true) rfl rfl rfl (LOp.assign rfl rfl) ?_
    refine ROps.nil ?_
    refine RunC.ret ?_
    have hq := Option.some.inj h
    subst q0
    exact bodyQ.pure (.inr rfl) rfl (Res.one rfl (RV.tmp rfl))
  · refine RunC.regionW ?_
    refine ROps.l (r := AV.i64 r1) rfl rfl rfl (LOp.move rfl rfl) ?_
    refine ROps.l (r := AV.b false) rfl rfl rfl (LOp.eqb (LOp.lss rfl rfl rfl) hc2) ?_
    refine ROps.nil ?_
    refine RunC.cond_false rfl rfl ?_
    refine RunC.skip ?_
    refine RunC.seq ?_
    obtain ⟨r2, hf3, h⟩ := obind_some h
    refine RunC.regionW ?_
    refine ROps.l (r := AV.agg [AV.i64 a9, AV.i64 a10, AV.sl a11.length (a11.map AV.f32), AV.sl a12.length (a12.map AV.f32), AV.sl a13.length (a13.map AV.f32), AV.sl a14.length (a14.map AV.f32), AV.i64 a15, AV.i64 a16, AV.sl a17.length (a17.map AV.i64)]) rfl rfl rfl (LOp.loadAgg agg63 siz63 rfl rfl rfl rfl) ?_
    refine ROps.l (r := AV.i64 r1) rfl rfl rfl (LOp.move rfl rfl) ?_
    refine ROps.d (r := AV.i64 r2) (fs := []) (Γ' := [⟨0, none⟩, ⟨0, none⟩, ⟨0, none⟩, ⟨0, none⟩, ⟨0, none⟩, ⟨0, none⟩, ⟨0, none⟩, ⟨0, none⟩, ⟨0, none⟩, ⟨0, none⟩, ⟨0, none⟩, ⟨0, none⟩]) rfl rfl rfl (TOp.callB (CallAs.func ent31 rfl rfl) (Bors.cons (Bor.agg (Bors.cons (Bor.pure rfl) (Bors.cons (Bor.pure rfl) (Bors.cons (Bor.sl (fun _ => rfl)) (Bors.cons (Bor.sl (fun _ => rfl)) (Bors.cons (Bor.sl (fun _ => rfl)) (Bors.cons (Bor.sl (fun _ => rfl)) (Bors.cons (Bor.pure rfl) (Bors.cons (Bor.pure rfl) (Bors.cons (Bor.sl (fun _ => rfl)) Bors.nil)))))))))) (Bors.cons (Bor.pure rfl) Bors.nil)) rfl rfl (f31_ok a9 a10 a11 a12 a13 a14 a15 a16 a17 r1 r2 hf3)) rfl ?_
    refine ROps.l (r := AV.i64 r2) rfl rfl rfl (LOp.assign rfl rfl) ?_
    refine ROps.nil ?_
    refine RunC.seq ?_
    refine RunC.seq ?_
    rcases bsel_some h with ⟨hc4, h⟩ | ⟨hc4, h⟩
    · refine RunC.regionW ?_
      refine ROps.l (r := AV.i64 r2) rfl rfl rfl (LOp.move rfl rfl) ?_
      refine ROps.l (r := AV.b true) rfl rfl rfl (LOp.eqb (LOp.lss rfl rfl rfl) hc4) ?_
      refine ROps.nil ?_
      refine RunC.wl (τ' := [(2, AV.ptr [AV.i64 a0, AV.i64 a1, AV.sl a2.length (a2.map AV.f32), AV.sl a3.length (a3.map AV.f32), AV.sl a4.length (a4.map AV.f32), AV.sl a5.length (a5.map AV.f32), AV.i64 a6, AV.i64 a7, AV.sl a8.length (a8.map AV.i64)]), (3, AV.ptr [AV.i64 a9, AV.i64 a10, AV.sl a11.length (a11.map AV.f32), AV.sl a12.length (a12.map AV.f32), AV.sl a13.length (a13.map AV.f32), AV.sl a14.length (a14.map AV.f32), AV.i64 a15, AV.i64 a16, AV.sl a17.length (a17.map AV.i64)]), (19, AV.b true)]) (Γ' := [⟨0, none⟩, ⟨0, none⟩, ⟨0, none⟩, ⟨0, none⟩, ⟨0, none⟩, ⟨0, none⟩, ⟨0, none⟩, ⟨0, none⟩, ⟨0, none⟩, ⟨0, none⟩, ⟨0, none⟩, ⟨0, none⟩]) ⟨(ALe.refl _), (ALe.refl _), (ALe.refl _), trivial⟩ ⟨⟨rfl, .inr rfl⟩, ⟨rfl, .inr rfl⟩, ⟨rfl, .inr rfl⟩, ⟨rfl, .inr rfl⟩, ⟨rfl, .inr rfl⟩, ⟨rfl, .inr rfl⟩, ⟨rfl, .inr rfl⟩, ⟨rfl, .inr rfl⟩, ⟨rfl, .inr rfl⟩, ⟨rfl, .inr rfl⟩, ⟨rfl, .inr rfl⟩, ⟨rfl, .inr rfl⟩, trivial⟩ ?_
      refine RunC.cond_true rfl rfl ?_
      refine RunC.seq ?_
      refine RunC.regionW ?_
      refine ROps.l (r := AV.b true) rfl rfl rfl (LOp.assign rfl rfl) ?_
      refine ROps.nil ?_
      refine RunC.ret ?_
      have hq := Option.some.inj h
      subst q0
      exact bodyQ.pure (.inr rfl) rfl (Res.one rfl (RV.tmp rfl))
    · refine RunC.regionW ?_
      refine ROps.l (r := AV.i64 r2) rfl rfl rfl (LOp.move rfl rfl) ?_
      refine ROps.l (r := AV.b false) rfl rfl rfl (LOp.eqb (LOp.lss rfl rfl rfl) hc4) ?_
      refine ROps.nil ?_
      refine RunC.wl (τ' := [(2, AV.ptr [AV.i64 a0, AV.i64 a1, AV.sl a2.length (a2.map AV.f32), AV.sl a3.length (a3.map AV.f32), AV.sl a4.length (a4.map AV.f32), AV.sl a5.length (a5.map AV.f32), AV.i64 a6, AV.i64 a7, AV.sl a8.length (a8.map AV.i64)]), (3, AV.ptr [AV.i64 a9, AV.i64 a10, AV.sl a11.length (a11.map AV.f32), AV.sl a12.length (a12.map AV.f32), AV.sl a13.length (a13.map AV.f32), AV.sl a14.length (a14.map AV.f32), AV.i64 a15, AV.i64 a16, AV.sl a17.length (a17.map AV.i64)]), (19, AV.b false)]) (Γ' := [⟨0, none⟩, ⟨0, none⟩, ⟨0, none⟩, ⟨0, none⟩, ⟨0, none⟩, ⟨0, none⟩, ⟨0, none⟩, ⟨0, none⟩, ⟨0, none⟩, ⟨0, none⟩, ⟨0, none⟩, ⟨0, none⟩]) ⟨(ALe.refl _), (ALe.refl _), (ALe.refl _), trivial⟩ ⟨⟨rfl, .inr rfl⟩, ⟨rfl, .inr rfl⟩, ⟨rfl, .inr rfl⟩, ⟨rfl, .inr rfl⟩, ⟨rfl, .inr rfl⟩, ⟨rfl, .inr rfl⟩, ⟨rfl, .inr rfl⟩, ⟨rfl, .inr rfl⟩, ⟨rfl, .inr rfl⟩, ⟨rfl, .inr rfl⟩, ⟨rfl, .inr rfl⟩, ⟨rfl, .inr rfl⟩, trivial⟩ ?_
      refine RunC.cond_false rfl rfl ?_
      refine RunC.skip ?_
      refine RunC.seq ?_
      obtain ⟨r3, r4, r5, r6, r7, r8, r9, r10, r11, hf5, h⟩ := obind9_some h
      obtain ⟨r12, r13, r14, r15, r16, r17, r18, r19, r20, hf6, h⟩ := obind9_some h
      obtain ⟨r21, hf7, h⟩ := obind_some h
      refine RunC.region_draw (Γ' := [⟨0, none⟩, ⟨0, none⟩, ⟨0, none⟩, ⟨0, none⟩, ⟨0, none⟩, ⟨0, none⟩, ⟨0, none⟩, ⟨0, none⟩, ⟨0, none⟩, ⟨0, none⟩, ⟨0, none⟩, ⟨0, none⟩]) 6 mixed 
        (TR.l (r := AV.agg [AV.i64 a0, AV.i64 a1, AV.sl a2.length (a2.map AV.f32), AV.sl a3.length (a3.map AV.f32), AV.sl a4.length (a4.map AV.f32), AV.sl a5.length (a5.map AV.f32), AV.i64 a6, AV.i64 a7, AV.sl a8.length (a8.map AV.i64)]) rfl rfl (LOp.loadAgg agg63 siz63 rfl rfl rfl rfl) <|
        (TR.d (r := AV.agg [AV.i64 r3, AV.i64 r4, AV.sl r7.length (r7.map AV.f32), AV.sl r8.length (r8.map AV.f32), AV.sl r9.length (r9.map AV.f32), AV.sl r10.length (r10.map AV.f32), AV.i64 r5, AV.i64 r6, AV.sl r11.length (r11.map AV.i64)]) (fs := []) rfl rfl (TOp.callS (CallAs.func ent33 rfl rfl) (ALes.cons (ALe.refl _) ALes.nil) (lts_cons (lt_agg (lts_cons rfl (lts_cons rfl (lts_cons (lt_sl (fun _ => rfl)) (lts_cons (lt_sl (fun _ => rfl)) (lts_cons (lt_sl (fun _ => rfl)) (lts_cons (lt_sl (fun _ => rfl)) (lts_cons rfl (lts_cons rfl (lts_cons (lt_sl (fun _ => rfl)) lts_nil)))))))))) lts_nil) (lt_agg (lts_cons rfl (lts_cons rfl (lts_cons (lt_sl (fun _ => rfl)) (lts_cons (lt_sl (fun _ => rfl)) (lts_cons (lt_sl (fun _ => rfl)) (lts_cons (lt_sl (fun _ => rfl)) (lts_cons rfl (lts_cons rfl (lts_cons (lt_sl (fun _ => rfl)) lts_nil)))))))))) (f33_ok a0 a1 a2 a3 a4 a5 a6 a7 a8 r3 r4 r5 r6 r7 r8 r9 r10 r11 hf5) (Bor.agg (Bors.cons (Bor.pure rfl) (Bors.cons (Bor.pure rfl) (Bors.cons (Bor.own (f := AV.f32) (fun _ => rfl) rfl rfl) (Bors.cons (Bor.own (f := AV.f32) (fun _ => rfl) rfl rfl) (Bors.cons (Bor.own (f := AV.f32) (fun _ => rfl) rfl rfl) (Bors.cons (Bor.own (f := AV.f32) (fun _ => rfl) rfl rfl) (Bors.cons (Bor.pure rfl) (Bors.cons (Bor.pure rfl) (Bors.cons (Bor.own (f := AV.i64) (fun _ => rfl) rfl rfl) Bors.nil))))))))))) <|
        (TR.l (r := AV.agg [AV.i64 a9, AV.i64 a10, AV.sl a11.length (a11.map AV.f32), AV.sl a12.length (a12.map AV.f32), AV.sl a13.length (a13.map AV.f32), AV.sl a14.length (a14.map AV.f32), AV.i64 a15, AV.i64 a16, AV.sl a17.length (a17.map AV.i64)]) rfl rfl (LOp.loadAgg agg63 siz63 rfl rfl rfl rfl) <|
        (TR.d (r := AV.agg [AV.i64 r12, AV.i64 r13, AV.sl r16.length (r16.map AV.f32), AV.sl r17.length (r17.map AV.f32), AV.sl r18.length (r18.map AV.f32), AV.sl r19.length (r19.map AV.f32), AV.i64 r14, AV.i64 r15, AV.sl r20.length (r20.map AV.i64)]) (fs := []) rfl rfl (TOp.callS (CallAs.func ent33 rfl rfl) (ALes.cons (ALe.refl _) ALes.nil) (lts_cons (lt_agg (lts_cons rfl (lts_cons rfl (lts_cons (lt_sl (fun _ => rfl)) (lts_cons (lt_sl (fun _ => rfl)) (lts_cons (lt_sl (fun _ => rfl)) (lts_cons (lt_sl (fun _ => rfl)) (lts_cons rfl (lts_cons rfl (lts_cons (lt_sl (fun _ => rfl)) lts_nil)))))))))) lts_nil) (lt_agg (lts_cons rfl (lts_cons rfl (lts_cons (lt_sl (fun _ => rfl)) (lts_cons (lt_sl (fun _ => rfl)) (lts_cons (lt_sl (fun _ => rfl)) (lts_cons (lt_sl (fun _ => rfl)) (lts_cons rfl (lts_cons rfl (lts_cons (lt_sl (fun _ => rfl)) lts_nil)))))))))) (f33_ok a9 a10 a11 a12 a13 a14 a15 a16 a17 r12 r13 r14 r15 r16 r17 r18 r19 r20 hf6) (Bor.agg (Bors.cons (Bor.pure rfl) (Bors.cons (Bor.pure rfl) (Bors.cons (Bor.own (f := AV.f32) (fun _ => rfl) rfl rfl) (Bors.cons (Bor.own (f := AV.f32) (fun _ => rfl) rfl rfl) (Bors.cons (Bor.own (f := AV.f32) (fun _ => rfl) rfl rfl) (Bors.cons (Bor.own (f := AV.f32) (fun _ => rfl) rfl rfl) (Bors.cons (Bor.pure rfl) (Bors.cons (Bor.pure rfl) (Bors.cons (Bor.own (f := AV.i64) (fun _ => rfl) rfl rfl) Bors.nil))))))))))) <|
        (TR.d (r := AV.b r21) (fs := []) rfl rfl (TOp.callB (CallAs.func ent32 rfl rfl) (Bors.cons (Bor.agg (Bors.cons (Bor.pure rfl) (Bors.cons (Bor.pure rfl) (Bors.cons (Bor.sl (fun _ => rfl)) (Bors.cons (Bor.sl (fun _ => rfl)) (Bors.cons (Bor.sl (fun _ => rfl)) (Bors.cons (Bor.sl (fun _ => rfl)) (Bors.cons (Bor.pure rfl) (Bors.cons (Bor.pure rfl) (Bors.cons (Bor.sl (fun _ => rfl)) Bors.nil)))))))))) (Bors.cons (Bor.agg (Bors.cons (Bor.pure rfl) (Bors.cons (Bor.pure rfl) (Bors.cons (Bor.sl (fun _ => rfl)) (Bors.cons (Bor.sl (fun _ => rfl)) (Bors.cons (Bor.sl (fun _ => rfl)) (Bors.cons (Bor.sl (fun _ => rfl)) (Bors.cons (Bor.pure rfl) (Bors.cons (Bor.pure rfl) (Bors.cons (Bor.sl (fun _ => rfl)) Bors.nil)))))))))) Bors.nil)) rfl rfl (f32_ok r3 r4 r7 r8 r9 r10 r5 r6 r11 r12 r13 r16 r17 r18 r19 r14 r15 r20 r21 hf7)) <|
        (TR.l (r := AV.b r21) rfl rfl (LOp.assign rfl rfl) <|
        TR.nil)))))) rfl (by kernel_rfl) rfl fills_nil rfl ?_
      iterate 6 refine ROps.dropS ?_
      refine ROps.drop0 ?_
      refine ROps.nil ?_
      refine RunC.seq ?_
      obtain ⟨r22, r23, r24, r25, r26, r27, r28, r29, r30, hf8, h⟩ := obind9_some h
      refine RunC.regionW ?_
      refine ROps.l (r := AV.agg [AV.i64 a0, AV.i64 a1, AV.sl a2.length (a2.map AV.f32), AV.sl a3.length (a3.map AV.f32), AV.sl a4.length (a4.map AV.f32), AV.sl a5.length (a5.map AV.f32), AV.i64 a6, AV.i64 a7, AV.sl a8.length (a8.map AV.i64)]) rfl rfl rfl (LOp.loadAgg agg63 siz63 rfl rfl rfl rfl) ?_
      refine ROps.d (r := AV.agg [AV.i64 r22, AV.i64 r23, AV.oref 0 1 0 r26.length, AV.oref 1 1 0 r27.length, AV.oref 2 1 0 r28.length, AV.oref 3 1 0 r29.length, AV.i64 r24, AV.i64 r25, AV.oref 4 1 0 r30.length]) (fs := [(0, (r26.map AV.f32)), (1, (r27.map AV.f32)), (2, (r28.map AV.f32)), (3, (r29.map AV.f32)), (4, (r30.map AV.i64))]) (Γ' := [⟨1, some (r26.map AV.f32)⟩, ⟨1, some (r27.map AV.f32)⟩, ⟨1, some (r28.map AV.f32)⟩, ⟨1, some (r29.map AV.f32)⟩, ⟨1, some (r30.map AV.i64)⟩, ⟨0, none⟩, ⟨0, none⟩, ⟨0, none⟩, ⟨0, none⟩, ⟨0, none⟩, ⟨0, none⟩, ⟨0, none⟩]) rfl rfl rfl (TOp.callBN (ls := [(r26.map AV.f32), (r27.map AV.f32), (r28.map AV.f32), (r29.map AV.f32), (r30.map AV.i64)]) [0, 1, 2, 3, 4] (CallAs.func ent33 rfl rfl) (Bors.cons (Bor.agg (Bors.cons (Bor.pure rfl) (Bors.cons (Bor.pure rfl) (Bors.cons (Bor.sl (fun _ => rfl)) (Bors.cons (Bor.sl (fun _ => rfl)) (Bors.cons (Bor.sl (fun _ => rfl)) (Bors.cons (Bor.sl (fun _ => rfl)) (Bors.cons (Bor.pure rfl) (Bors.cons (Bor.pure rfl) (Bors.cons (Bor.sl (fun _ => rfl)) Bors.nil)))))))))) Bors.nil) rfl (f33_ok a0 a1 a2 a3 a4 a5 a6 a7 a8 r22 r23 r24 r25 r26 r27 r28 r29 r30 hf8) (and_all (lts0_map (f := AV.f32) (fun _ => rfl) _) (and_all (lts0_map (f := AV.f32) (fun _ => rfl) _) (and_all (lts0_map (f := AV.f32) (fun _ => rfl) _) (and_all (lts0_map (f := AV.f32) (fun _ => rfl) _) (and_all (lts0_map (f := AV.i64) (fun _ => rfl) _) rfl))))) (and_all (noss_map (f := AV.f32) (fun _ => rfl) _) (and_all (noss_map (f := AV.f32) (fun _ => rfl) _) (and_all (noss_map (f := AV.f32) (fun _ => rfl) _) (and_all (noss_map (f := AV.f32) (fun _ => rfl) _) (and_all (noss_map (f := AV.i64) (fun _ => rfl) _) rfl))))) rfl (by decide) (ns_of ⟨⟨_, rfl⟩, ⟨_, rfl⟩, ⟨_, rfl⟩, ⟨_, rfl⟩, ⟨_, rfl⟩, trivial⟩)) rfl ?_
      refine ROps.d (r := AV.optr 5 1 0) (fs := [(5, [AV.i64 0, AV.i64 0, AV.nilsl, AV.nilsl, AV.nilsl, AV.nilsl, AV.i64 0, AV.i64 0, AV.nilsl])]) (Γ' := [⟨1, some (r26.map AV.f32)⟩, ⟨1, some (r27.map AV.f32)⟩, ⟨1, some (r28.map AV.f32)⟩, ⟨1, some (r29.map AV.f32)⟩, ⟨1, some (r30.map AV.i64)⟩, ⟨1, some [AV.i64 0, AV.i64 0, AV.nilsl, AV.nilsl, AV.nilsl, AV.nilsl, AV.i64 0, AV.i64 0, AV.nilsl]⟩, ⟨0, none⟩, ⟨0, none⟩, ⟨0, none⟩, ⟨0, none⟩, ⟨0, none⟩, ⟨0, none⟩]) rfl rfl rfl (TOp.alloc_o (g := ⟨0, none⟩) 5 rfl zer47 zok47 rfl) rfl ?_
      refine ROps.store_le (r := AV.agg [AV.i64 r22, AV.i64 r23, AV.oref 0 1 0 r26.length, AV.oref 1 1 0 r27.length, AV.oref 2 1 0 r28.length, AV.oref 3 1 0 r29.length, AV.i64 r24, AV.i64 r25, AV.oref 4 1 0 r30.length]) (l' := [AV.i64 r22, AV.i64 r23, AV.oref 0 1 0 r26.length, AV.oref 1 1 0 r27.length, AV.oref 2 1 0 r28.length, AV.oref 3 1 0 r29.length, AV.i64 r24, AV.i64 r25, AV.oref 4 1 0 r30.length]) (Γ' := [⟨1, some (r26.map AV.f32)⟩, ⟨1, some (r27.map AV.f32)⟩, ⟨1, some (r28.map AV.f32)⟩, ⟨1, some (r29.map AV.f32)⟩, ⟨1, some (r30.map AV.i64)⟩, ⟨1, some [AV.i64 r22, AV.i64 r23, AV.oref 0 1 0 r26.length, AV.oref 1 1 0 r27.length, AV.oref 2 1 0 r28.length, AV.oref 3 1 0 r29.length, AV.i64 r24, AV.i64 r25, AV.oref 4 1 0 r30.length]⟩, ⟨0, none⟩, ⟨0, none⟩, ⟨0, none⟩, ⟨0, none⟩, ⟨0, none⟩, ⟨0, none⟩]) rfl siz47 rfl rfl rfl (ALe.refl _) rfl rfl rfl rfl (Nat.le_of_ble_eq_true rfl) rfl rfl ?_
      refine ROps.nil ?_
      refine RunC.seq ?_
      obtain ⟨r31, r32, r33, r34, r35, r36, r37, r38, r39, hf9, h⟩ := obind9_some h
      refine RunC.regionW ?_
      refine ROps.l (r := AV.agg [AV.i64 a9, AV.i64 a10, AV.sl a11.length (a11.map AV.f32), AV.sl a12.length (a12.map AV.f32), AV.sl a13.length (a13.map AV.f32), AV.sl a14.length (a14.map AV.f32), AV.i64 a15, AV.i64 a16, AV.sl a17.length (a17.map AV.i64)]) rfl rfl rfl (LOp.loadAgg agg63 siz63 rfl rfl rfl rfl) ?_
      refine ROps.d (r := AV.agg [AV.i64 r31, AV.i64 r32, AV.oref 6 1 0 r35.length, AV.oref 7 1 0 r36.length, AV.oref 8 1 0 r37.length, AV.oref 9 1 0 r38.length, AV.i64 r33, AV.i64 r34, AV.oref 10 1 0 r39.length]) (fs := [(6, (r35.map AV.f32)), (7, (r36.map AV.f32)), (8, (r37.map AV.f32)), (9, (r38.map AV.f32)), (10, (r39.map AV.i64))]) (Γ' := [⟨1, some (r26.map AV.f32)⟩, ⟨1, some (r27.map AV.f32)⟩, ⟨1, some (r28.map AV.f32)⟩, ⟨1, some (r29.map AV.f32)⟩, ⟨1, some (r30.map AV.i64)⟩, ⟨1, some [AV.i64 r22, AV.i64 r23, AV.oref 0 1 0 r26.length, AV.oref 1 1 0 r27.length, AV.oref 2 1 0 r28.length, AV.oref 3 1 0 r29.length, AV.i64 r24, AV.i64 r25, AV.oref 4 1 0 r30.length]⟩, ⟨1, some (r35.map AV.f32)⟩, ⟨1, some (r36.map AV.f32)⟩, ⟨1, some (r37.map AV.f32)⟩, ⟨1, some (r38.map AV.f32)⟩, ⟨1, some (r39.map AV.i64)⟩, ⟨0, none⟩]) rfl rfl rfl (TOp.callBN (ls := [(r35.map AV.f32), (r36.map AV.f32), (r37.map AV.f32), (r38.map AV.f32), (r39.map AV.i64)]) [6, 7, 8, 9, 10] (CallAs.func ent33 rfl rfl) (Bors.cons (Bor.agg (Bors.cons (Bor.pure rfl) (Bors.cons (Bor.pure rfl) (Bors.cons (Bor.sl (fun _ => rfl)) (Bors.cons (Bor.sl (fun _ => rfl)) (Bors.cons (Bor.sl (fun _ => rfl)) (Bors.cons (Bor.sl (fun _ => rfl)) (Bors.cons (Bor.pure rfl) (Bors.cons (Bor.pure rfl) (Bors.cons (Bor.sl (fun _ => rfl)) Bors.nil)))))))))) Bors.nil) rfl (f33_ok a9 a10 a11 a12 a13 a14 a15 a16 a17 r31 r32 r33 r34 r35 r36 r37 r38 r39 hf9) (and_all (lts0_map (f := AV.f32) (fun _ => rfl) _) (and_all (lts0_map (f := AV.f32) (fun _ => rfl) _) (and_all (lts0_map (f := AV.f32) (fun _ => rfl) _) (and_all (lts0_map (f := AV.f32) (fun _ => rfl) _) (and_all (lts0_map (f := AV.i64) (fun _ => rfl) _) rfl))))) (and_all (noss_map (f := AV.f32) (fun _ => rfl) _) (and_all (noss_map (f := AV.f32) (fun _ => rfl) _) (and_all (noss_map (f := AV.f32) (fun _ => rfl) _) (and_all (noss_map (f := AV.f32) (fun _ => rfl) _) (and_all (noss_map (f := AV.i64) (fun _ => rfl) _) rfl))))) rfl (by decide) (ns_of ⟨⟨_, rfl⟩, ⟨_, rfl⟩, ⟨_, rfl⟩, ⟨_, rfl⟩, ⟨_, rfl⟩, trivial⟩)) rfl ?_
      refine ROps.d (r := AV.optr 11 1 0) (fs := [(11, [AV.i64 0, AV.i64 0, AV.nilsl, AV.nilsl, AV.nilsl, AV.nilsl, AV.i64 0, AV.i64 0, AV.nilsl])]) (Γ' := [⟨1, some (r26.map AV.f32)⟩, ⟨1, some (r27.map AV.f32)⟩, ⟨1, some (r28.map AV.f32)⟩, ⟨1, some (r29.map AV.f32)⟩, ⟨1, some (r30.map AV.i64)⟩, ⟨1, some [AV.i64 r22, AV.i64 r23, AV.oref 0 1 0 r26.length, AV.oref 1 1 0 r27.length, AV.oref 2 1 0 r28.length, AV.oref 3 1 0 r29.length, AV.i64 r24, AV.i64 r25, AV.oref 4 1 0 r30.length]⟩, ⟨1, some (r35.map AV.f32)⟩, ⟨1, some (r36.map AV.f32)⟩, ⟨1, some (r37.map AV.f32)⟩, ⟨1, some (r38.map AV.f32)⟩, ⟨1, some (r39.map AV.i64)⟩, ⟨1, some [AV.i64 0, AV.i64 0, AV.nilsl, AV.nilsl, AV.nilsl, AV.nilsl, AV.i64 0, AV.i64 0, AV.nilsl]⟩]) rfl rfl rfl (TOp.alloc_o (g := ⟨0, none⟩) 11 rfl zer47 zok47 rfl) rfl ?_
      refine ROps.store_le (r := AV.agg [AV.i64 r31, AV.i64 r32, AV.oref 6 1 0 r35.length, AV.oref 7 1 0 r36.length, AV.oref 8 1 0 r37.length, AV.oref 9 1 0 r38.length, AV.i64 r33, AV.i64 r34, AV.oref 10 1 0 r39.length]) (l' := [AV.i64 r31, AV.i64 r32, AV.oref 6 1 0 r35.length, AV.oref 7 1 0 r36.length, AV.oref 8 1 0 r37.length, AV.oref 9 1 0 r38.length, AV.i64 r33, AV.i64 r34, AV.oref 10 1 0 r39.length]) (Γ' := [⟨1, some (r26.map AV.f32)⟩, ⟨1, some (r27.map AV.f32)⟩, ⟨1, some (r28.map AV.f32)⟩, ⟨1, some (r29.map AV.f32)⟩, ⟨1, some (r30.map AV.i64)⟩, ⟨1, some [AV.i64 r22, AV.i64 r23, AV.oref 0 1 0 r26.length, AV.oref 1 1 0 r27.length, AV.oref 2 1 0 r28.length, AV.oref 3 1 0 r29.length, AV.i64 r24, AV.i64 r25, AV.oref 4 1 0 r30.length]⟩, ⟨1, some (r35.map AV.f32)⟩, ⟨1, some (r36.map AV.f32)⟩, ⟨1, some (r37.map AV.f32)⟩, ⟨1, some (r38.map AV.f32)⟩, ⟨1, some (r39.map AV.i64)⟩, ⟨1, some [AV.i64 r31, AV.i64 r32, AV.oref 6 1 0 r35.length, AV.oref 7 1 0 r36.length, AV.oref 8 1 0 r37.length, AV.oref 9 1 0 r38.length, AV.i64 r33, AV.i64 r34, AV.oref 10 1 0 r39.length]⟩]) rfl siz47 rfl rfl rfl (ALe.refl _) rfl rfl rfl rfl (Nat.le_of_ble_eq_true rfl) rfl rfl ?_
      refine ROps.nil ?_
      refine RunC.seq ?_
      obtain ⟨r40, hf10, h⟩ := obind_some h
      refine RunC.regionW ?_
      refine ROps.d (r := AV.agg [AV.i64 r22, AV.i64 r23, AV.oref 0 1 0 r26.length, AV.oref 1 1 0 r27.length, AV.oref 2 1 0 r28.length, AV.oref 3 1 0 r29.length, AV.i64 r24, AV.i64 r25, AV.oref 4 1 0 r30.length]) (fs := []) (Γ' := [⟨1, some (r26.map AV.f32)⟩, ⟨1, some (r27.map AV.f32)⟩, ⟨1, some (r28.map AV.f32)⟩, ⟨1, some (r29.map AV.f32)⟩, ⟨1, some (r30.map AV.i64)⟩, ⟨1, some [AV.i64 r22, AV.i64 r23, AV.oref 0 1 0 r26.length, AV.oref 1 1 0 r27.length, AV.oref 2 1 0 r28.length, AV.oref 3 1 0 r29.length, AV.i64 r24, AV.i64 r25, AV.oref 4 1 0 r30.length]⟩, ⟨1, some (r35.map AV.f32)⟩, ⟨1, some (r36.map AV.f32)⟩, ⟨1, some (r37.map AV.f32)⟩, ⟨1, some (r38.map AV.f32)⟩, ⟨1, some (r39.map AV.i64)⟩, ⟨1, some [AV.i64 r31, AV.i64 r32, AV.oref 6 1 0 r35.length, AV.oref 7 1 0 r36.length, AV.oref 8 1 0 r37.length, AV.oref 9 1 0 r38.length, AV.i64 r33, AV.i64 r34, AV.oref 10 1 0 r39.length]⟩]) rfl rfl rfl (TOp.loadAgg_o rfl agg47 siz47 rfl rfl rfl rfl) rfl ?_
      refine ROps.d (r := AV.agg [AV.i64 r31, AV.i64 r32, AV.oref 6 1 0 r35.length, AV.oref 7 1 0 r36.length, AV.oref 8 1 0 r37.length, AV.oref 9 1 0 r38.length, AV.i64 r33, AV.i64 r34, AV.oref 10 1 0 r39.length]) (fs := []) (Γ' := [⟨1, some (r26.map AV.f32)⟩, ⟨1, some (r27.map AV.f32)⟩, ⟨1, some (r28.map AV.f32)⟩, ⟨1, some (r29.map AV.f32)⟩, ⟨1, some (r30.map AV.i64)⟩, ⟨1, some [AV.i64 r22, AV.i64 r23, AV.oref 0 1 0 r26.length, AV.oref 1 1 0 r27.length, AV.oref 2 1 0 r28.length, AV.oref 3 1 0 r29.length, AV.i64 r24, AV.i64 r25, AV.oref 4 1 0 r30.length]⟩, ⟨1, some (r35.map AV.f32)⟩, ⟨1, some (r36.map AV.f32)⟩, ⟨1, some (r37.map AV.f32)⟩, ⟨1, some (r38.map AV.f32)⟩, ⟨1, some (r39.map AV.i64)⟩, ⟨1, some [AV.i64 r31, AV.i64 r32, AV.oref 6 1 0 r35.length, AV.oref 7 1 0 r36.length, AV.oref 8 1 0 r37.length, AV.oref 9 1 0 r38.length, AV.i64 r33, AV.i64 r34, AV.oref 10 1 0 r39.length]⟩]) rfl rfl rfl (TOp.loadAgg_o rfl agg47 siz47 rfl rfl rfl rfl) rfl ?_
      refine ROps.d (r := AV.b r40) (fs := []) (Γ' := [⟨1, some (r26.map AV.f32)⟩, ⟨1, some (r27.map AV.f32)⟩, ⟨1, some (r28.map AV.f32)⟩, ⟨1, some (r29.map AV.f32)⟩, ⟨1, some (r30.map AV.i64)⟩, ⟨1, some [AV.i64 r22, AV.i64 r23, AV.oref 0 1 0 r26.length, AV.oref 1 1 0 r27.length, AV.oref 2 1 0 r28.length, AV.oref 3 1 0 r29.length, AV.i64 r24, AV.i64 r25, AV.oref 4 1 0 r30.length]⟩, ⟨1, some (r35.map AV.f32)⟩, ⟨1, some (r36.map AV.f32)⟩, ⟨1, some (r37.map AV.f32)⟩, ⟨1, some (r38.map AV.f32)⟩, ⟨1, some (r39.map AV.i64)⟩, ⟨1, some [AV.i64 r31, AV.i64 r32, AV.oref 6 1 0 r35.length, AV.oref 7 1 0 r36.length, AV.oref 8 1 0 r37.length, AV.oref 9 1 0 r38.length, AV.i64 r33, AV.i64 r34, AV.oref 10 1 0 r39.length]⟩]) rfl rfl rfl (TOp.callB (CallAs.func ent34 rfl rfl) (Bors.cons (Bor.agg (Bors.cons (Bor.pure rfl) (Bors.cons (Bor.pure rfl) (Bors.cons (Bor.own (f := AV.f32) (fun _ => rfl) rfl rfl) (Bors.cons (Bor.own (f := AV.f32) (fun _ => rfl) rfl rfl) (Bors.cons (Bor.own (f := AV.f32) (fun _ => rfl) rfl rfl) (Bors.cons (Bor.own (f := AV.f32) (fun _ => rfl) rfl rfl) (Bors.cons (Bor.pure rfl) (Bors.cons (Bor.pure rfl) (Bors.cons (Bor.own (f := AV.i64) (fun _ => rfl) rfl rfl) Bors.nil)))))))))) (Bors.cons (Bor.agg (Bors.cons (Bor.pure rfl) (Bors.cons (Bor.pure rfl) (Bors.cons (Bor.own (f := AV.f32) (fun _ => rfl) rfl rfl) (Bors.cons (Bor.own (f := AV.f32) (fun _ => rfl) rfl rfl) (Bors.cons (Bor.own (f := AV.f32) (fun _ => rfl) rfl rfl) (Bors.cons (Bor.own (f := AV.f32) (fun _ => rfl) rfl rfl) (Bors.cons (Bor.pure rfl) (Bors.cons (Bor.pure rfl) (Bors.cons (Bor.own (f := AV.i64) (fun _ => rfl) rfl rfl) Bors.nil)))))))))) Bors.nil)) rfl rfl (f34_ok r22 r23 r26 r27 r28 r29 r24 r25 r30 r31 r32 r35 r36 r37 r38 r33 r34 r39 r40 hf10)) rfl ?_
      refine ROps.l (r := AV.b r40) rfl rfl rfl (LOp.assign rfl rfl) ?_
      refine ROps.nil ?_
      refine RunC.wl (τ' := [(2, AV.ptr [AV.i64 a0, AV.i64 a1, AV.sl a2.length (a2.map AV.f32), AV.sl a3.length (a3.map AV.f32), AV.sl a4.length (a4.map AV.f32), AV.sl a5.length (a5.map AV.f32), AV.i64 a6, AV.i64 a7, AV.sl a8.length (a8.map AV.i64)]), (3, AV.ptr [AV.i64 a9, AV.i64 a10, AV.sl a11.length (a11.map AV.f32), AV.sl a12.length (a12.map AV.f32), AV.sl a13.length (a13.map AV.f32), AV.sl a14.length (a14.map AV.f32), AV.i64 a15, AV.i64 a16, AV.sl a17.length (a17.map AV.i64)]), (6, AV.b r21), (7, AV.optr 5 1 0), (8, AV.optr 11 1 0), (9, AV.b r40)]) (Γ' := [⟨1, some (r26.map AV.f32)⟩, ⟨1, some (r27.map AV.f32)⟩, ⟨1, some (r28.map AV.f32)⟩, ⟨1, some (r29.map AV.f32)⟩, ⟨1, some (r30.map AV.i64)⟩, ⟨1, some [AV.i64 r22, AV.i64 r23, AV.oref 0 1 0 r26.length, AV.oref 1 1 0 r27.length, AV.oref 2 1 0 r28.length, AV.oref 3 1 0 r29.length, AV.i64 r24, AV.i64 r25, AV.oref 4 1 0 r30.length]⟩, ⟨1, some (r35.map AV.f32)⟩, ⟨1, some (r36.map AV.f32)⟩, ⟨1, some (r37.map AV.f32)⟩, ⟨1, some (r38.map AV.f32)⟩, ⟨1, some (r39.map AV.i64)⟩, ⟨1, some [AV.i64 r31, AV.i64 r32, AV.oref 6 1 0 r35.length, AV.oref 7 1 0 r36.length, AV.oref 8 1 0 r37.length, AV.oref 9 1 0 r38.length, AV.i64 r33, AV.i64 r34, AV.oref 10 1 0 r39.length]⟩]) ⟨(ALe.refl _), (ALe.refl _), (ALe.refl _), (ALe.refl _), (ALe.refl _), (ALe.refl _), trivial⟩ ⟨⟨rfl, .inr rfl⟩, ⟨rfl, .inr rfl⟩, ⟨rfl, .inr rfl⟩, ⟨rfl, .inr rfl⟩, ⟨rfl, .inr rfl⟩, ⟨rfl, .inr rfl⟩, ⟨rfl, .inr rfl⟩, ⟨rfl, .inr rfl⟩, ⟨rfl, .inr rfl⟩, ⟨rfl, .inr rfl⟩, ⟨rfl, .inr rfl⟩, ⟨rfl, .inr rfl⟩, trivial⟩ ?_
      refine RunC.seq ?_
      refine RunC.seq ?_
      rcases bsel_some h with ⟨hc11, h⟩ | ⟨hc11, h⟩
      · refine RunC.regionW ?_
        refine ROps.l (r := AV.b r40) rfl rfl rfl (LOp.move rfl rfl) ?_
        refine ROps.l (r := AV.b r21) rfl rfl rfl (LOp.move rfl rfl) ?_
        refine ROps.l (r := AV.b true) rfl rfl rfl (LOp.eqb (LOp.neqb pun4 rfl rfl rfl) hc11) ?_
        refine ROps.nil ?_
        refine RunC.cond_true rfl rfl ?_
        refine RunC.seq ?_
        refine RunC.regionW ?_
        refine ROps.l (r := AV.b false) rfl rfl rfl (LOp.assign rfl rfl) ?_
        refine ROps.nil ?_
        refine RunC.ret ?_
        have hq := Option.some.inj h
        subst q0
        exact bodyQ.pure (.inr rfl) rfl (Res.one rfl (RV.tmp rfl))
      · refine RunC.regionW ?_
        refine ROps.l (r := AV.b r40) rfl rfl rfl (LOp.move rfl rfl) ?_
        refine ROps.l (r := AV.b r21) rfl rfl rfl (LOp.move rfl rfl) ?_
        refine ROps.l (r := AV.b false) rfl rfl rfl (LOp.eqb (LOp.neqb pun4 rfl rfl rfl) hc11) ?_
        refine ROps.nil ?_
        refine RunC.cond_false rfl rfl ?_
        refine RunC.skip ?_
        refine RunC.seq ?_
        refine RunC.seq ?_
        obtain ⟨r41, r42, r43, r44, r45, r46, r47, r48, r49, hf12, h⟩ := obind9_some h
        obtain ⟨r50, hf13, h⟩ := obind_some h
        rcases bsel_some h with ⟨hc14, h⟩ | ⟨hc14, h⟩
        · refine RunC.region_draw (Γ' := [⟨1, some (r26.map AV.f32)⟩, ⟨1, some (r27.map AV.f32)⟩, ⟨1, some (r28.map AV.f32)⟩, ⟨1, some (r29.map AV.f32)⟩, ⟨1, some (r30.map AV.i64)⟩, ⟨1, some [AV.i64 r22, AV.i64 r23, AV.oref 0 1 0 r26.length, AV.oref 1 1 0 r27.length, AV.oref 2 1 0 r28.length, AV.oref 3 1 0 r29.length, AV.i64 r24, AV.i64 r25, AV.oref 4 1 0 r30.length]⟩, ⟨1, some (r35.map AV.f32)⟩, ⟨1, some (r36.map AV.f32)⟩, ⟨1, some (r37.map AV.f32)⟩, ⟨1, some (r38.map AV.f32)⟩, ⟨1, some (r39.map AV.i64)⟩, ⟨1, some [AV.i64 r31, AV.i64 r32, AV.oref 6 1 0 r35.length, AV.oref 7 1 0 r36.length, AV.oref 8 1 0 r37.length, AV.oref 9 1 0 r38.length, AV.i64 r33, AV.i64 r34, AV.oref 10 1 0 r39.length]⟩]) 5 mixed 
            (TR.d (r := AV.agg [AV.i64 r22, AV.i64 r23, AV.oref 0 1 0 r26.length, AV.oref 1 1 0 r27.length, AV.oref 2 1 0 r28.length, AV.oref 3 1 0 r29.length, AV.i64 r24, AV.i64 r25, AV.oref 4 1 0 r30.length]) (fs := []) rfl rfl (TOp.loadAgg_o rfl agg47 siz47 rfl rfl rfl rfl) <|
            (TR.l (r := AV.agg [AV.i64 a0, AV.i64 a1, AV.sl a2.length (a2.map AV.f32), AV.sl a3.length (a3.map AV.f32), AV.sl a4.length (a4.map AV.f32), AV.sl a5.length (a5.map AV.f32), AV.i64 a6, AV.i64 a7, AV.sl a8.length (a8.map AV.i64)]) rfl rfl (LOp.loadAgg agg63 siz63 rfl rfl rfl rfl) <|
            (TR.d (r := AV.agg [AV.i64 r41, AV.i64 r42, AV.sl r45.length (r45.map AV.f32), AV.sl r46.length (r46.map AV.f32), AV.sl r47.length (r47.map AV.f32), AV.sl r48.length (r48.map AV.f32), AV.i64 r43, AV.i64 r44, AV.sl r49.length (r49.map AV.i64)]) (fs := []) rfl rfl (TOp.callS (CallAs.func ent33 rfl rfl) (ALes.cons (ALe.refl _) ALes.nil) (lts_cons (lt_agg (lts_cons rfl (lts_cons rfl (lts_cons (lt_sl (fun _ => rfl)) (lts_cons (lt_sl (fun _ => rfl)) (lts_cons (lt_sl (fun _ => rfl)) (lts_cons (lt_sl (fun _ => rfl)) (lts_cons rfl (lts_cons rfl (lts_cons (lt_sl (fun _ => rfl)) lts_nil)))))))))) lts_nil) (lt_agg (lts_cons rfl (lts_cons rfl (lts_cons (lt_sl (fun _ => rfl)) (lts_cons (lt_sl (fun _ => rfl)) (lts_cons (lt_sl (fun _ => rfl)) (lts_cons (lt_sl (fun _ => rfl)) (lts_cons rfl (lts_cons rfl (lts_cons (lt_sl (fun _ => rfl)) lts_nil)))))))))) (f33_ok a0 a1 a2 a3 a4 a5 a6 a7 a8 r41 r42 r43 r44 r45 r46 r47 r48 r49 hf12) (Bor.agg (Bors.cons (Bor.pure rfl) (Bors.cons (Bor.pure rfl) (Bors.cons (Bor.own (f := AV.f32) (fun _ => rfl) rfl rfl) (Bors.cons (Bor.own (f := AV.f32) (fun _ => rfl) rfl rfl) (Bors.cons (Bor.own (f := AV.f32) (fun _ => rfl) rfl rfl) (Bors.cons (Bor.own (f := AV.f32) (fun _ => rfl) rfl rfl) (Bors.cons (Bor.pure rfl) (Bors.cons (Bor.pure rfl) (Bors.cons (Bor.own (f := AV.i64) (fun _ => rfl) rfl rfl) Bors.nil))))))))))) <|
            (TR.d (r := AV.b true) (fs := []) rfl rfl (TOp.eqb (TOp.callB (CallAs.func ent21 rfl rfl) (Bors.cons (Bor.agg (Bors.cons (Bor.pure rfl) (Bors.cons (Bor.pure rfl) (Bors.cons (Bor.own (f := AV.f32) (fun _ => rfl) rfl rfl) (Bors.cons (Bor.own (f := AV.f32) (fun _ => rfl) rfl rfl) (Bors.cons (Bor.own (f := AV.f32) (fun _ => rfl) rfl rfl) (Bors.cons (Bor.own (f := AV.f32) (fun _ => rfl) rfl rfl) (Bors.cons (Bor.pure rfl) (Bors.cons (Bor.pure rfl) (Bors.cons (Bor.own (f := AV.i64) (fun _ => rfl) rfl rfl) Bors.nil)))))))))) (Bors.cons (Bor.agg (Bors.cons (Bor.pure rfl) (Bors.cons (Bor.pure rfl) (Bors.cons (Bor.sl (fun _ => rfl)) (Bors.cons (Bor.sl (fun _ => rfl)) (Bors.cons (Bor.sl (fun _ => rfl)) (Bors.cons (Bor.sl (fun _ => rfl)) (Bors.cons (Bor.pure rfl) (Bors.cons (Bor.pure rfl) (Bors.cons (Bor.sl (fun _ => rfl)) Bors.nil)))))))))) Bors.nil)) rfl rfl (f21_ok r22 r23 r26 r27 r28 r29 r24 r25 r30 r41 r42 r45 r46 r47 r48 r43 r44 r49 r50 hf13)) hc14) <|
            (TR.l (r := AV.b false) rfl rfl (LOp.eqb (LOp.not rfl rfl) rfl) <|
            TR.nil))))) rfl (by kernel_rfl) rfl fills_nil rfl ?_
          iterate 5 refine ROps.dropS ?_
          refine ROps.drop0 ?_
          refine ROps.nil ?_
          refine RunC.wl (τ' := [(3, AV.ptr [AV.i64 a9, AV.i64 a10, AV.sl a11.length (a11.map AV.f32), AV.sl a12.length (a12.map AV.f32), AV.sl a13.length (a13.map AV.f32), AV.sl a14.length (a14.map AV.f32), AV.i64 a15, AV.i64 a16, AV.sl a17.length (a17.map AV.i64)]), (8, AV.optr 11 1 0), (39, AV.b false)]) (Γ' := [⟨1, none⟩, ⟨1, none⟩, ⟨1, none⟩, ⟨1, none⟩, ⟨1, none⟩, ⟨1, none⟩, ⟨1, some (r35.map AV.f32)⟩, ⟨1, some (r36.map AV.f32)⟩, ⟨1, some (r37.map AV.f32)⟩, ⟨1, some (r38.map AV.f32)⟩, ⟨1, some (r39.map AV.i64)⟩, ⟨1, some [AV.i64 r31, AV.i64 r32, AV.oref 6 1 0 r35.length, AV.oref 7 1 0 r36.length, AV.oref 8 1 0 r37.length, AV.oref 9 1 0 r38.length, AV.i64 r33, AV.i64 r34, AV.oref 10 1 0 r39.length]⟩]) ⟨(ALe.refl _), (ALe.refl _), (ALe.refl _), trivial⟩ ⟨⟨rfl, .inl rfl⟩, ⟨rfl, .inl rfl⟩, ⟨rfl, .inl rfl⟩, ⟨rfl, .inl rfl⟩, ⟨rfl, .inl rfl⟩, ⟨rfl, .inl rfl⟩, ⟨rfl, .inr rfl⟩, ⟨rfl, .inr rfl⟩, ⟨rfl, .inr rfl⟩, ⟨rfl, .inr rfl⟩, ⟨rfl, .inr rfl⟩, ⟨rfl, .inr rfl⟩, trivial⟩ ?_
          refine RunC.cond_false rfl rfl ?_
          refine RunC.skip ?_
          refine RunC.seq ?_
          refine RunC.seq ?_
          obtain ⟨r51, r52, r53, r54, r55, r56, r57, r58, r59, hf15, h⟩ := obind9_some h
          obtain ⟨r60, hf16, h⟩ := obind_some h
          rcases bsel_some h with ⟨hc17, h⟩ | ⟨hc17, h⟩
          · refine RunC.region_draw (Γ' := [⟨1, none⟩, ⟨1, none⟩, ⟨1, none⟩, ⟨1, none⟩, ⟨1, none⟩, ⟨1, none⟩, ⟨1, some (r35.map AV.f32)⟩, ⟨1, some (r36.map AV.f32)⟩, ⟨1, some (r37.map AV.f32)⟩, ⟨1, some (r38.map AV.f32)⟩, ⟨1, some (r39.map AV.i64)⟩, ⟨1, some [AV.i64 r31, AV.i64 r32, AV.oref 6 1 0 r35.length, AV.oref 7 1 0 r36.length, AV.oref 8 1 0 r37.length, AV.oref 9 1 0 r38.length, AV.i64 r33, AV.i64 r34, AV.oref 10 1 0 r39.length]⟩]) 5 mixed 
              (TR.d (r := AV.agg [AV.i64 r31, AV.i64 r32, AV.oref 6 1 0 r35.length, AV.oref 7 1 0 r36.length, AV.oref 8 1 0 r37.length, AV.oref 9 1 0 r38.length, AV.i64 r33, AV.i64 r34, AV.oref 10 1 0 r39.length]) (fs := []) rfl rfl (TOp.loadAgg_o rfl agg47 siz47 rfl rfl rfl rfl) <|
              (TR.l (r := AV.agg [AV.i64 a9, AV.i64 a10, AV.sl a11.length (a11.map AV.f32), AV.sl a12.length (a12.map AV.f32), AV.sl a13.length (a13.map AV.f32), AV.sl a14.length (a14.map AV.f32), AV.i64 a15, AV.i64 a16, AV.sl a17.length (a17.map AV.i64)]) rfl rfl (LOp.loadAgg agg63 siz63 rfl rfl rfl rfl) <|
              (TR.d (r := AV.agg [AV.i64 r51, AV.i64 r52, AV.sl r55.length (r55.map AV.f32), AV.sl r56.length (r56.map AV.f32), AV.sl r57.length (r57.map AV.f32), AV.sl r58.length (r58.map AV.f32), AV.i64 r53, AV.i64 r54, AV.sl r59.length (r59.map AV.i64)]) (fs := []) rfl rfl (TOp.callS (CallAs.func ent33 rfl rfl) (ALes.cons (ALe.refl _) ALes.nil) (lts_cons (lt_agg (lts_cons rfl (lts_cons rfl (lts_cons (lt_sl (fun _ => rfl)) (lts_cons (lt_sl (fun _ => rfl)) (lts_cons (lt_sl (fun _ => rfl)) (lts_cons (lt_sl (fun _ => rfl)) (lts_cons rfl (lts_cons rfl (lts_cons (lt_sl (fun _ => rfl)) lts_nil)))))))))) lts_nil) (lt_agg (lts_cons rfl (lts_cons rfl (lts_cons (lt_sl (fun _ => rfl)) (lts_cons (lt_sl (fun _ => rfl)) (lts_cons (lt_sl (fun _ => rfl)) (lts_cons (lt_sl (fun _ => rfl)) (lts_cons rfl (lts_cons rfl (lts_cons (lt_sl (fun _ => rfl)) lts_nil)))))))))) (f33_ok a9 a10 a11 a12 a13 a14 a15 a16 a17 r51 r52 r53 r54 r55 r56 r57 r58 r59 hf15) (Bor.agg (Bors.cons (Bor.pure rfl) (Bors.cons (Bor.pure rfl) (Bors.cons (Bor.own (f := AV.f32) (fun _ => rfl) rfl rfl) (Bors.cons (Bor.own (f := AV.f32) (fun _ => rfl) rfl rfl) (Bors.cons (Bor.own (f := AV.f32) (fun _ => rfl) rfl rfl) (Bors.cons (Bor.own (f := AV.f32) (fun _ => rfl) rfl rfl) (Bors.cons (Bor.pure rfl) (Bors.cons (Bor.pure rfl) (Bors.cons (Bor.own (f := AV.i64) (fun _ => rfl) rfl rfl) Bors.nil))))))))))) <|
              (TR.d (r := AV.b true) (fs := []) rfl rfl (TOp.eqb (TOp.callB (CallAs.func ent21 rfl rfl) (Bors.cons (Bor.agg (Bors.cons (Bor.pure rfl) (Bors.cons (Bor.pure rfl) (Bors.cons (Bor.own (f := AV.f32) (fun _ => rfl) rfl rfl) (Bors.cons (Bor.own (f := AV.f32) (fun _ => rfl) rfl rfl) (Bors.cons (Bor.own (f := AV.f32) (fun _ => rfl) rfl rfl) (Bors.cons (Bor.own (f := AV.f32) (fun _ => rfl) rfl rfl) (Bors.cons (Bor.pure rfl) (Bors.cons (Bor.pure rfl) (Bors.cons (Bor.own (f := AV.i64) (fun _ => rfl) rfl rfl) Bors.nil)))))))))) (Bors.cons (Bor.agg (Bors.cons (Bor.pure rfl) (Bors.cons (Bor.pure rfl) (Bors.cons (Bor.sl (fun _ => rfl)) (Bors.cons (Bor.sl (fun _ => rfl)) (Bors.cons (Bor.sl (fun _ => rfl)) (Bors.cons (Bor.sl (fun _ => rfl)) (Bors.cons (Bor.pure rfl) (Bors.cons (Bor.pure rfl) (Bors.cons (Bor.sl (fun _ => rfl)) Bors.nil)))))))))) Bors.nil)) rfl rfl (f21_ok r31 r32 r35 r36 r37 r38 r33 r34 r39 r51 r52 r55 r56 r57 r58 r53 r54 r59 r60 hf16)) hc17) <|
              (TR.l (r := AV.b false) rfl rfl (LOp.eqb (LOp.not rfl rfl) rfl) <|
              TR.nil))))) rfl (by kernel_rfl) rfl fills_nil rfl ?_
            iterate 5 refine ROps.dropS ?_
            refine ROps.drop0 ?_
            refine ROps.nil ?_
            refine RunC.wl (τ' := [(44, AV.b false)]) (Γ' := [⟨1, none⟩, ⟨1, none⟩, ⟨1, none⟩, ⟨1, none⟩, ⟨1, none⟩, ⟨1, none⟩, ⟨1, none⟩, ⟨1, none⟩, ⟨1, none⟩, ⟨1, none⟩, ⟨1, none⟩, ⟨1, none⟩]) ⟨(ALe.refl _), trivial⟩ ⟨⟨rfl, .inl rfl⟩, ⟨rfl, .inl rfl⟩, ⟨rfl, .inl rfl⟩, ⟨rfl, .inl rfl⟩, ⟨rfl, .inl rfl⟩, ⟨rfl, .inl rfl⟩, ⟨rfl, .inl rfl⟩, ⟨rfl, .inl rfl⟩, ⟨rfl, .inl rfl⟩, ⟨rfl, .inl rfl⟩, ⟨rfl, .inl rfl⟩, ⟨rfl, .inl rfl⟩, trivial⟩ ?_
            refine RunC.cond_false rfl rfl ?_
            refine RunC.skip ?_
            refine RunC.seq ?_
            refine RunC.regionW ?_
            refine ROps.l (r := AV.b true) rfl rfl rfl (LOp.assign rfl rfl) ?_
            refine ROps.nil ?_
            refine RunC.ret ?_
            have hq := Option.some.inj h
            subst q0
            exact bodyQ.pure (.inr rfl) rfl (Res.one rfl (RV.tmp rfl))
          · refine RunC.region_draw (Γ' := [⟨1, none⟩, ⟨1, none⟩, ⟨1, none⟩, ⟨1, none⟩, ⟨1, none⟩, ⟨1, none⟩, ⟨1, some (r35.map AV.f32)⟩, ⟨1, some (r36.map AV.f32)⟩, ⟨1, some (r37.map AV.f32)⟩, ⟨1, some (r38.map AV.f32)⟩, ⟨1, some (r39.map AV.i64)⟩, ⟨1, some [AV.i64 r31, AV.i64 r32, AV.oref 6 1 0 r35.length, AV.oref 7 1 0 r36.length, AV.oref 8 1 0 r37.length, AV.oref 9 1 0 r38.length, AV.i64 r33, AV.i64 r34, AV.oref 10 1 0 r39.length]⟩]) 5 mixed 
              (TR.d (r := AV.agg [AV.i64 r31, AV.i64 r32, AV.oref 6 1 0 r35.length, AV.oref 7 1 0 r36.length, AV.oref 8 1 0 r37.length, AV.oref 9 1 0 r38.length, AV.i64 r33, AV.i64 r34, AV.oref 10 1 0 r39.length]) (fs := []) rfl rfl (TOp.loadAgg_o rfl agg47 siz47 rfl rfl rfl rfl) <|
              (TR.l (r := AV.agg [AV.i64 a9, AV.i64 a10, AV.sl a11.length (a11.map AV.f32), AV.sl a12.length (a12.map AV.f32), AV.sl a13.length (a13.map AV.f32), AV.sl a14.length (a14.map AV.f32), AV.i64 a15, AV.i64 a16, AV.sl a17.length (a17.map AV.i64)]) rfl rfl (LOp.loadAgg agg63 siz63 rfl rfl rfl rfl) <|
              (TR.d (r := AV.agg [AV.i64 r51, AV.i64 r52, AV.sl r55.length (r55.map AV.f32), AV.sl r56.length (r56.map AV.f32), AV.sl r57.length (r57.map AV.f32), AV.sl r58.length (r58.map AV.f32), AV.i64 r53, AV.i64 r54, AV.sl r59.length (r59.map AV.i64)]) (fs := []) rfl rfl (TOp.callS (CallAs.func ent33 rfl rfl) (ALes.cons (ALe.refl _) ALes.nil) (lts_cons (lt_agg (lts_cons rfl (lts_cons rfl (lts_cons (lt_sl (fun _ => rfl)) (lts_cons (lt_sl (fun _ => rfl)) (lts_cons (lt_sl (fun _ => rfl)) (lts_cons (lt_sl (fun _ => rfl)) (lts_cons rfl (lts_cons rfl (lts_cons (lt_sl (fun _ => rfl)) lts_nil)))))))))) lts_nil) (lt_agg (lts_cons rfl (lts_cons rfl (lts_cons (lt_sl (fun _ => rfl)) (lts_cons (lt_sl (fun _ => rfl)) (lts_cons (lt_sl (fun _ => rfl)) (lts_cons (lt_sl (fun _ => rfl)) (lts_cons rfl (lts_cons rfl (lts_cons (lt_sl (fun _ => rfl)) lts_nil)))))))))) (f33_ok a9 a10 a11 a12 a13 a14 a15 a16 a17 r51 r52 r53 r54 r55 r56 r57 r58 r59 hf15) (Bor.agg (Bors.cons (Bor.pure rfl) (Bors.cons (Bor.pure rfl) (Bors.cons (Bor.own (f := AV.f32) (fun _ => rfl) rfl rfl) (Bors.cons (Bor.own (f := AV.f32) (fun _ => rfl) rfl rfl) (Bors.cons (Bor.own (f := AV.f32) (fun _ => rfl) rfl rfl) (Bors.cons (Bor.own (f := AV.f32) (fun _ => rfl) rfl rfl) (Bors.cons (Bor.pure rfl) (Bors.cons (Bor.pure rfl) (Bors.cons (Bor.own (f := AV.i64) (fun _ => rfl) rfl rfl) Bors.nil))))))))))) <|
              (TR.d (r := AV.b false) (fs := []) rfl rfl (TOp.eqb (TOp.callB (CallAs.func ent21 rfl rfl) (Bors.cons (Bor.agg (Bors.cons (Bor.pure rfl) (Bors.cons (Bor.pure rfl) (Bors.cons (Bor.own (f := AV.f32) (fun _ => rfl) rfl rfl) (Bors.cons (Bor.own (f := AV.f32) (fun _ => rfl) rfl rfl) (Bors.cons (Bor.own (f := AV.f32) (fun _ => rfl) rfl rfl) (Bors.cons (Bor.own (f := AV.f32) (fun _ => rfl) rfl rfl) (Bors.cons (Bor.pure rfl) (Bors.cons (Bor.pure rfl) (Bors.cons (Bor.own (f := AV.i64) (fun _ => rfl) rfl rfl) Bors.nil)))))))))) (Bors.cons (Bor.agg (Bors.cons (Bor.pure rfl) (Bors.cons (Bor.pure rfl) (Bors.cons (Bor.sl (fun _ => rfl)) (Bors.cons (Bor.sl (fun _ => rfl)) (Bors.cons (Bor.sl (fun _ => rfl)) (Bors.cons (Bor.sl (fun _ => rfl)) (Bors.cons (Bor.pure rfl) (Bors.cons (Bor.pure rfl) (Bors.cons (Bor.sl (fun _ => rfl)) Bors.nil)))))))))) Bors.nil)) rfl rfl (f21_ok r31 r32 r35 r36 r37 r38 r33 r34 r39 r51 r52 r55 r56 r57 r58 r53 r54 r59 r60 hf16)) hc17) <|
              (TR.l (r := AV.b true) rfl rfl (LOp.eqb (LOp.not rfl rfl) rfl) <|
              TR.nil))))) rfl (by kernel_rfl) rfl fills_nil rfl ?_
            iterate 5 refine ROps.dropS ?_
            refine ROps.drop0 ?_
            refine ROps.nil ?_
            refine RunC.wl (τ' := [(44, AV.b true)]) (Γ' := [⟨1, none⟩, ⟨1, none⟩, ⟨1, none⟩, ⟨1, none⟩, ⟨1, none⟩, ⟨1, none⟩, ⟨1, none⟩, ⟨1, none⟩, ⟨1, none⟩, ⟨1, none⟩, ⟨1, none⟩, ⟨1, none⟩]) ⟨(ALe.refl _), trivial⟩ ⟨⟨rfl, .inl rfl⟩, ⟨rfl, .inl rfl⟩, ⟨rfl, .inl rfl⟩, ⟨rfl, .inl rfl⟩, ⟨rfl, .inl rfl⟩, ⟨rfl, .inl rfl⟩, ⟨rfl, .inl rfl⟩, ⟨rfl, .inl rfl⟩, ⟨rfl, .inl rfl⟩, ⟨rfl, .inl rfl⟩, ⟨rfl, .inl rfl⟩, ⟨rfl, .inl rfl⟩, trivial⟩ ?_
            refine RunC.cond_true rfl rfl ?_
            refine RunC.seq ?_
            refine RunC.regionW ?_
            refine ROps.l (r := AV.b false) rfl rfl rfl (LOp.assign rfl rfl) ?_
            refine ROps.nil ?_
            refine RunC.ret ?_
            have hq := Option.some.inj h
            subst q0
            exact bodyQ.pure (.inr rfl) rfl (Res.one rfl (RV.tmp rfl))
        · refine RunC.region_draw (Γ' := [⟨1, some (r26.map AV.f32)⟩, ⟨1, some (r27.map AV.f32)⟩, ⟨1, some (r28.map AV.f32)⟩, ⟨1, some (r29.map AV.f32)⟩, ⟨1, some (r30.map AV.i64)⟩, ⟨1, some [AV.i64 r22, AV.i64 r23, AV.oref 0 1 0 r26.length, AV.oref 1 1 0 r27.length, AV.oref 2 1 0 r28.length, AV.oref 3 1 0 r29.length, AV.i64 r24, AV.i64 r25, AV.oref 4 1 0 r30.length]⟩, ⟨1, some (r35.map AV.f32)⟩, ⟨1, some (r36.map AV.f32)⟩, ⟨1, some (r37.map AV.f32)⟩, ⟨1, some (r38.map AV.f32)⟩, ⟨1, some (r39.map AV.i64)⟩, ⟨1, some [AV.i64 r31, AV.i64 r32, AV.oref 6 1 0 r35.length, AV.oref 7 1 0 r36.length, AV.oref 8 1 0 r37.length, AV.oref 9 1 0 r38.length, AV.i64 r33, AV.i64 r34, AV.oref 10 1 0 r39.length]⟩]) 5 mixed 
            (TR.d (r := AV.agg [AV.i64 r22, AV.i64 r23, AV.oref 0 1 0 r26.length, AV.oref 1 1 0 r27.length, AV.oref 2 1 0 r28.length, AV.oref 3 1 0 r29.length, AV.i64 r24, AV.i64 r25, AV.oref 4 1 0 r30.length]) (fs := []) rfl rfl (TOp.loadAgg_o rfl agg47 siz47 rfl rfl rfl rfl) <|
            (TR.l (r := AV.agg [AV.i64 a0, AV.i64 a1, AV.sl a2.length (a2.map AV.f32), AV.sl a3.length (a3.map AV.f32), AV.sl a4.length (a4.map AV.f32), AV.sl a5.length (a5.map AV.f32), AV.i64 a6, AV.i64 a7, AV.sl a8.length (a8.map AV.i64)]) rfl rfl (LOp.loadAgg agg63 siz63 rfl rfl rfl rfl) <|
            (TR.d (r := AV.agg [AV.i64 r41, AV.i64 r42, AV.sl r45.length (r45.map AV.f32), AV.sl r46.length (r46.map AV.f32), AV.sl r47.length (r47.map AV.f32), AV.sl r48.length (r48.map AV.f32), AV.i64 r43, AV.i64 r44, AV.sl r49.length (r49.map AV.i64)]) (fs := []) rfl rfl (TOp.callS (CallAs.func ent33 rfl rfl) (ALes.cons (ALe.refl _) ALes.nil) (lts_cons (lt_agg (lts_cons rfl (lts_cons rfl (lts_cons (lt_sl (fun _ => rfl)) (lts_cons (lt_sl (fun _ => rfl)) (lts_cons (lt_sl (fun _ => rfl)) (lts_cons (lt_sl (fun _ => rfl)) (lts_cons rfl (lts_cons rfl (lts_cons (lt_sl (fun _ => rfl)) lts_nil)))))))))) lts_nil) (lt_agg (lts_cons rfl (lts_cons rfl (lts_cons (lt_sl (fun _ => rfl)) (lts_cons (lt_sl (fun _ => rfl)) (lts_cons (lt_sl (fun _ => rfl)) (lts_cons (lt_sl (fun _ => rfl)) (lts_cons rfl (lts_cons rfl (lts_cons (lt_sl (fun _ => rfl)) lts_nil)))))))))) (f33_ok a0 a1 a2 a3 a4 a5 a6 a7 a8 r41 r42 r43 r44 r45 r46 r47 r48 r49 hf12) (Bor.agg (Bors.cons (Bor.pure rfl) (Bors.cons (Bor.pure rfl) (Bors.cons (Bor.own (f := AV.f32) (fun _ => rfl) rfl rfl) (Bors.cons (Bor.own (f := AV.f32) (fun _ => rfl) rfl rfl) (Bors.cons (Bor.own (f := AV.f32) (fun _ => rfl) rfl rfl) (Bors.cons (Bor.own (f := AV.f32) (fun _ => rfl) rfl rfl) (Bors.cons (Bor.pure rfl) (Bors.cons (Bor.pure rfl) (Bors.cons (Bor.own (f := AV.i64) (fun _ => rfl) rfl rfl) Bors.nil))))))))))) <|
            (TR.d (r := AV.b false) (fs := []) rfl rfl (TOp.eqb (TOp.callB (CallAs.func ent21 rfl rfl) (Bors.cons (Bor.agg (Bors.cons (Bor.pure rfl) (Bors.cons (Bor.pure rfl) (Bors.cons (Bor.own (f := AV.f32) (fun _ => rfl) rfl rfl) (Bors.cons (Bor.own (f := AV.f32) (fun _ => rfl) rfl rfl) (Bors.cons (Bor.own (f := AV.f32) (fun _ => rfl) rfl rfl) (Bors.cons (Bor.own (f := AV.f32) (fun _ => rfl) rfl rfl) (Bors.cons (Bor.pure rfl) (Bors.cons (Bor.pure rfl) (Bors.cons (Bor.own (f := AV.i64) (fun _ => rfl) rfl rfl) Bors.nil)))))))))) (Bors.cons (Bor.agg (Bors.cons (Bor.pure rfl) (Bors.cons (Bor.pure rfl) (Bors.cons (Bor.sl (fun _ => rfl)) (Bors.cons (Bor.sl (fun _ => rfl)) (Bors.cons (Bor.sl (fun _ => rfl)) (Bors.cons (Bor.sl (fun _ => rfl)) (Bors.cons (Bor.pure rfl) (Bors.cons (Bor.pure rfl) (Bors.cons (Bor.sl (fun _ => rfl)) Bors.nil)))))))))) Bors.nil)) rfl rfl (f21_ok r22 r23 r26 r27 r28 r29 r24 r25 r30 r41 r42 r45 r46 r47 r48 r43 r44 r49 r50 hf13)) hc14) <|
            (TR.l (r := AV.b true) rfl rfl (LOp.eqb (LOp.not rfl rfl) rfl) <|
            TR.nil))))) rfl (by kernel_rfl) rfl fills_nil rfl ?_
          iterate 5 refine ROps.dropS ?_
          refine ROps.drop0 ?_
          refine ROps.nil ?_
          refine RunC.wl (τ' := [(3, AV.ptr [AV.i64 a9, AV.i64 a10, AV.sl a11.length (a11.map AV.f32), AV.sl a12.length (a12.map AV.f32), AV.sl a13.length (a13.map AV.f32), AV.sl a14.length (a14.map AV.f32), AV.i64 a15, AV.i64 a16, AV.sl a17.length (a17.map AV.i64)]), (8, AV.optr 11 1 0), (39, AV.b true)]) (Γ' := [⟨1, none⟩, ⟨1, none⟩, ⟨1, none⟩, ⟨1, none⟩, ⟨1, none⟩, ⟨1, none⟩, ⟨1, some (r35.map AV.f32)⟩, ⟨1, some (r36.map AV.f32)⟩, ⟨1, some (r37.map AV.f32)⟩, ⟨1, some (r38.map AV.f32)⟩, ⟨1, some (r39.map AV.i64)⟩, ⟨1, some [AV.i64 r31, AV.i64 r32, AV.oref 6 1 0 r35.length, AV.oref 7 1 0 r36.length, AV.oref 8 1 0 r37.length, AV.oref 9 1 0 r38.length, AV.i64 r33, AV.i64 r34, AV.oref 10 1 0 r39.length]⟩]) ⟨(ALe.refl _), (ALe.refl _), (ALe.refl _), trivial⟩ ⟨⟨rfl, .inl rfl⟩, ⟨rfl, .inl rfl⟩, ⟨rfl, .inl rfl⟩, ⟨rfl, .inl rfl⟩, ⟨rfl, .inl rfl⟩, ⟨rfl, .inl rfl⟩, ⟨rfl, .inr rfl⟩, ⟨rfl, .inr rfl⟩, ⟨rfl, .inr rfl⟩, ⟨rfl, .inr rfl⟩, ⟨rfl, .inr rfl⟩, ⟨rfl, .inr rfl⟩, trivial⟩ ?_
          refine RunC.cond_true rfl rfl ?_
          refine RunC.seq ?_
          refine RunC.regionW ?_
          refine ROps.l (r := AV.b false) rfl rfl rfl (LOp.assign rfl rfl) ?_
          refine ROps.nil ?_
          refine RunC.ret ?_
          have hq := Option.some.inj h
          subst q0
          exact bodyQ.pure (.inr rfl) rfl (Res.one rfl (RV.tmp rfl))
noncomputable def f99 (a0 : Int) (a1 : Int) (a2 : Int) : Option (Bool) :=
  bsel (decide (a1 ≤ a0)) (
    some (decide (a0 ≤ a2))) (
    some false)
theorem f99_ok (a0 : Int) (a1 : Int) (a2 : Int) (q0 : Bool) (h : f99 a0 a1 a2 = some q0) : Ev Try.prog 99 [AV.i64 a0, AV.i64 a1, AV.i64 a2] [] (AV.b q0) [] := by
  refine Ev.start Try.func99 rfl rfl 0 (τ := [(0, AV.i64 a0), (1, AV.i64 a1), (2, AV.i64 a2)]) rfl (Γ' := []) rfl (n := 15) rfl (g := 0) rfl ?_
  unfold f99 at h
  refine RunC.seq ?_
  refine RunC.regionW ?_
  refine ROps.l (r := AV.b false) rfl rfl rfl (LOp.assign rfl rfl) ?_
  refine ROps.nil ?_
  refine RunC.seq ?_
  rcases bsel_some h with ⟨hc1, h⟩ | ⟨hc1, h⟩
  · refine RunC.regionW ?_
    refine ROps.l (r := AV.i64 a0) rfl rfl rfl (LOp.move rfl rfl) ?_
    refine ROps.l (r := AV.i64 a1) rfl rfl rfl (LOp.move rfl rfl) ?_
    refine ROps.l (r := AV.b true) rfl rfl rfl (LOp.eqb (LOp.geq rfl rfl rfl) hc1) ?_
    refine ROps.l (r := AV.b true) rfl rfl rfl (LOp.move rfl rfl) ?_
    refine ROps.l (r := AV.i64 a0) rfl rfl rfl (LOp.move rfl rfl) ?_
    refine ROps.l (r := AV.i64 a2) rfl rfl rfl (LOp.move rfl rfl) ?_
    refine ROps.l (r := AV.b (decide (a0 ≤ a2))) rfl rfl rfl (LOp.leq rfl rfl rfl) ?_
    refine ROps.l (r := AV.b (decide (a0 ≤ a2))) rfl rfl rfl (LOp.pick_true rfl rfl rfl) ?_
    refine ROps.l (r := AV.b (decide (a0 ≤ a2))) rfl rfl rfl (LOp.assign rfl rfl) ?_
    refine ROps.nil ?_
    refine RunC.ret ?_
    have hq := Option.some.inj h
    subst q0
    exact bodyQ.pure (.inr rfl) rfl (Res.one rfl (RV.tmp rfl))
  · refine RunC.regionW ?_
    refine ROps.l (r := AV.i64 a0) rfl rfl rfl (LOp.move rfl rfl) ?_
    refine ROps.l (r := AV.i64 a1) rfl rfl rfl (LOp.move rfl rfl) ?_
    refine ROps.l (r := AV.b false) rfl rfl rfl (LOp.eqb (LOp.geq rfl rfl rfl) hc1) ?_
    refine ROps.l (r := AV.b false) rfl rfl rfl (LOp.move rfl rfl) ?_
    refine ROps.s rfl rfl rfl ?_
    refine ROps.s rfl rfl rfl ?_
    refine ROps.s rfl rfl rfl ?_
    refine ROps.l (r := AV.b false) rfl rfl rfl (LOp.pick_false rfl rfl rfl) ?_
    refine ROps.l (r := AV.b false) rfl rfl rfl (LOp.assign rfl rfl) ?_
    refine ROps.nil ?_
    refine RunC.ret ?_
    have hq := Option.some.inj h
    subst q0
    exact bodyQ.pure (.inr rfl) rfl (Res.one rfl (RV.tmp rfl))
noncomputable def f97 (a0 : Int) (a1 : Int) : Option (Bool) :=
  obind (f99 a0 1 12) fun (r1 : Bool) =>
  bsel r1 (
    obind (f99 a1 1 12) fun (r2 : Bool) =>
    some r2) (
    some false)
theorem f97_ok (a0 : Int) (a1 : Int) (q0 : Bool) (h : f97 a0 a1 = some q0) : Ev Try.prog 97 [AV.i64 a0, AV.i64 a1] [] (AV.b q0) [] := by
  refine Ev.start Try.func97 rfl rfl 0 (τ := [(0, AV.i64 a0), (1, AV.i64 a1)]) rfl (Γ' := []) rfl (n := 11) rfl (g := 0) rfl ?_
  unfold f97 at h
  refine RunC.seq ?_
  refine RunC.regionW ?_
  refine ROps.l (r := AV.b false) rfl rfl rfl (LOp.assign rfl rfl) ?_
  refine ROps.nil ?_
  refine RunC.seq ?_
  obtain ⟨r1, hf1, h⟩ := obind_some h
  rcases bsel_some h with ⟨hc2, h⟩ | ⟨hc2, h⟩
  · obtain ⟨r2, hf3, h⟩ := obind_some h
    refine RunC.regionW ?_
    refine ROps.l (r := AV.i64 a0) rfl rfl rfl (LOp.move rfl rfl) ?_
    refine ROps.d (r := AV.b true) (fs := []) (Γ' := []) rfl rfl rfl (TOp.eqb (TOp.callB (CallAs.func ent99 rfl rfl) (Bors.cons (Bor.pure rfl) (Bors.cons (Bor.pure rfl) (Bors.cons (Bor.pure rfl) Bors.nil))) rfl rfl (f99_ok a0 1 12 r1 hf1)) hc2) rfl ?_
    refine ROps.l (r := AV.b true) rfl rfl rfl (LOp.move rfl rfl) ?_
    refine ROps.l (r := AV.i64 a1) rfl rfl rfl (LOp.move rfl rfl) ?_
    refine ROps.d (r := AV.b r2) (fs := []) (Γ' := []) rfl rfl rfl (TOp.callB (CallAs.func ent99 rfl rfl) (Bors.cons (Bor.pure rfl) (Bors.cons (Bor.pure rfl) (Bors.cons (Bor.pure rfl) Bors.nil))) rfl rfl (f99_ok a1 1 12 r2 hf3)) rfl ?_
    refine ROps.l (r := AV.b r2) rfl rfl rfl (LOp.pick_true rfl rfl rfl) ?_
    refine ROps.l (r := AV.b r2) rfl rfl rfl (LOp.assign rfl rfl) ?_
    refine ROps.nil ?_
    refine RunC.ret ?_
    have hq := Option.some.inj h
    subst q0
    exact bodyQ.pure (.inr rfl) rfl (Res.one rfl (RV.tmp rfl))
  · refine RunC.regionW ?_
    refine ROps.l (r := AV.i64 a0) rfl rfl rfl (LOp.move rfl rfl) ?_
    refine ROps.d (r := AV.b false) (fs := []) (Γ' := []) rfl rfl rfl (TOp.eqb (TOp.callB (CallAs.func ent99 rfl rfl) (Bors.cons (Bor.pure rfl) (Bors.cons (Bor.pure rfl) (Bors.cons (Bor.pure rfl) Bors.nil))) rfl rfl (f99_ok a0 1 12 r1 hf1)) hc2) rfl ?_
    refine ROps.l (r := AV.b false) rfl rfl rfl (LOp.move rfl rfl) ?_
    refine ROps.s rfl rfl rfl ?_
    refine ROps.s rfl rfl rfl ?_
    refine ROps.l (r := AV.b false) rfl rfl rfl (LOp.pick_false rfl rfl rfl) ?_
    refine ROps.l (r := AV.b false) rfl rfl rfl (LOp.assign rfl rfl) ?_
    refine ROps.nil ?_
    refine RunC.ret ?_
    have hq := Option.some.inj h
    subst q0
    exact bodyQ.pure (.inr rfl) rfl (Res.one rfl (RV.tmp rfl))
noncomputable def f118 (a0 : F) : Option (Bool) :=
  olet (fop .sub .f32 a0 a0) fun (x1 : F) =>
  some (feq .f32 x1 (some 0))
theorem f118_ok (a0 : F) (q0 : Bool) (h : f118 a0 = some q0) : Ev Try.prog 118 [AV.f32 a0] [] (AV.b q0) [] := by
  refine Ev.start Try.func118 rfl rfl 0 (τ := [(0, AV.f32 a0)]) rfl (Γ' := []) rfl (n := 7) rfl (g := 0) rfl ?_
  unfold f118 at h
  refine RunC.seq ?_
  refine RunC.regionW ?_
  refine ROps.l (r := AV.b false) rfl rfl rfl (LOp.assign rfl rfl) ?_
  refine ROps.nil ?_
  refine RunC.seq ?_
  obtain ⟨x1, hx1, h⟩ := olet_some h
  refine RunC.regionW ?_
  refine ROps.l (r := AV.f32 a0) rfl rfl rfl (LOp.move rfl rfl) ?_
  refine ROps.l (r := AV.f32 a0) rfl rfl rfl (LOp.move rfl rfl) ?_
  refine ROps.d (r := AV.f32 x1) (fs := []) (Γ' := []) rfl rfl rfl (TOp.eqr (TOp.fop (.inr (.inl rfl)) rfl (OpF.tmp rfl) (OpF.tmp rfl)) (congrArg (AV.f .f32) hx1)) rfl ?_
  refine ROps.l (r := AV.b (feq .f32 x1 (some 0))) rfl rfl rfl (LOp.feq rfl (OpF.tmp rfl) (OpF.const rfl (by kernel_rfl) (by kernel_rfl))) ?_
  refine ROps.l (r := AV.b (feq .f32 x1 (some 0))) rfl rfl rfl (LOp.assign rfl rfl) ?_
  refine ROps.nil ?_
  refine RunC.ret ?_
  have hq := Option.some.inj h
  subst q0
  exact bodyQ.pure (.inr rfl) rfl (Res.one rfl (RV.tmp rfl))
noncomputable def f98_b1 (a0 : List F) (v1 : Int) : Option (LR (Int) (Unit) (Bool)) :=
  bsel (decide (v1 < (a0.length : Int))) (
    obind (at? a0 v1) fun (e2 : F) =>
    obind (f118 e2) fun (r3 : Bool) =>
    bsel r3 (
      olet (IntKind.i64.wrap (v1 + 1)) fun (x4 : Int) =>
      some (LR.next x4)) (
      some (LR.ret false))) (
    some (LR.out ()))
noncomputable def f98_s1 (a0 : List F) : (Int) → Option (LR (Int) (Unit) (Bool)) := fun s => f98_b1 a0 s
noncomputable def f98_k1  : Option (Bool) :=
  some true
noncomputable def f98 (a0 : List F) : Option (Bool) :=
  obind (loopM (f98_s1 a0) 0) fun z => osum z (fun _ => f98_k1) (fun r => some r)
theorem f98_ok (a0 : List F) (q0 : Bool) (h : f98 a0 = some q0) : Ev Try.prog 98 [AV.sl a0.length (a0.map AV.f32)] [] (AV.b q0) [] := by
  refine Ev.start Try.func98 rfl rfl 0 (τ := [(0, AV.sl a0.length (a0.map AV.f32))]) rfl (Γ' := []) rfl (n := 16) rfl (g := 0) rfl ?_
  unfold f98 at h
  refine RunC.seq ?_
  refine RunC.regionW ?_
  refine ROps.l (r := AV.b false) rfl rfl rfl (LOp.assign rfl rfl) ?_
  refine ROps.nil ?_
  refine RunC.seq ?_
  refine RunC.seq ?_
  refine RunC.regionW ?_
  refine ROps.l (r := AV.i64 0) rfl rfl rfl (LOp.assign rfl rfl) ?_
  refine ROps.nil ?_
  obtain ⟨z2, hz_2, h⟩ := obind_some h
  refine RunC.cutN (fun τ Γ => WeakLe τ [] ∧ DeadLe Γ [] ∧ z2 = .inl ()) ?_ ?_
  · refine RunC.block (RunC.loop (RunL.loopM (x := z2) (f98_s1 a0) (fun (s : Int) τ Γ => WeakLe τ [(0, AV.sl a0.length (a0.map AV.f32)), (3, AV.i64 s)] ∧ DeadLe Γ []) ?_ _ _ _ hz_2 ⟨⟨(ALe.refl _), (ALe.refl _), trivial⟩, trivial⟩))
    rintro v1 τ2 Γ2 y2_ ⟨hw2, hd2⟩ h2_ ho2 hr2
    refine RunC.wl (τ' := [(0, AV.sl a0.length (a0.map AV.f32)), (3, AV.i64 v1)]) (Γ' := []) hw2 hd2 ?_
    replace h2_ : f98_b1 a0 v1 = some y2_ := h2_
    unfold f98_b1 at h2_
    refine RunC.seq ?_
    refine RunC.seq ?_
    rcases bsel_some h2_ with ⟨hc1, h2_⟩ | ⟨hc1, h2_⟩
    · refine RunC.regionW ?_
      refine ROps.l (r := AV.i64 v1) rfl rfl rfl (LOp.move rfl rfl) ?_
      refine ROps.l (r := AV.sl a0.length (a0.map AV.f32)) rfl rfl rfl (LOp.move rfl rfl) ?_
      refine ROps.l (r := AV.i64 (a0.length : Int)) rfl rfl rfl (LOp.len_sl und38 rfl rfl) ?_
      refine ROps.l (r := AV.b true) rfl rfl rfl (LOp.eqb (LOp.lss rfl rfl rfl) hc1) ?_
      refine ROps.nil ?_
      refine RunC.cond_true rfl rfl ?_
      refine RunC.skip ?_
      refine RunC.seq ?_
      refine RunC.block ?_
      refine RunC.seq ?_
      obtain ⟨e2, he2, h2_⟩ := obind_some h2_
      obtain ⟨r3, hf3, h2_⟩ := obind_some h2_
      rcases bsel_some h2_ with ⟨hc4, h2_⟩ | ⟨hc4, h2_⟩
      · refine RunC.regionW ?_
        refine ROps.l (r := AV.sl a0.length (a0.map AV.f32)) rfl rfl rfl (LOp.move rfl rfl) ?_
        refine ROps.l (r := AV.i64 v1) rfl rfl rfl (LOp.move rfl rfl) ?_
        refine ROps.l (r := AV.ptr [AV.f32 e2]) rfl rfl rfl (LOp.le (LOp.ix (f := AV.f32) und38 siz34 rfl rfl rfl rfl he2) ALe.ptr) ?_
        refine ROps.l (r := AV.f32 e2) rfl rfl rfl (LOp.load1 agg34 rfl rfl) ?_
        refine ROps.d (r := AV.b true) (fs := []) (Γ' := []) rfl rfl rfl (TOp.eqb (TOp.callB (CallAs.func ent118 rfl rfl) (Bors.cons (Bor.pure rfl) Bors.nil) rfl rfl (f118_ok e2 r3 hf3)) hc4) rfl ?_
        refine ROps.l (r := AV.b false) rfl rfl rfl (LOp.eqb (LOp.not rfl rfl) rfl) ?_
        refine ROps.nil ?_
        refine RunC.cond_false rfl rfl ?_
        refine RunC.skip ?_
        obtain ⟨x4, hx5, h2_⟩ := olet_some h2_
        refine RunC.regionW ?_
        refine ROps.l (r := AV.i64 v1) rfl rfl rfl (LOp.move rfl rfl) ?_
        refine ROps.l (r := AV.i64 x4) rfl rfl rfl (LOp.eqr (LOp.add rfl rfl rfl) (congrArg (AV.ik .i64) hx5)) ?_
        refine ROps.l (r := AV.i64 x4) rfl rfl rfl (LOp.assign rfl rfl) ?_
        refine ROps.nil ?_
        cases Option.some.inj h2_
        exact ⟨_, rfl, ⟨(ALe.refl _), (ALe.refl _), trivial⟩, trivial⟩
      · refine RunC.regionW ?_
        refine ROps.l (r := AV.sl a0.length (a0.map AV.f32)) rfl rfl rfl (LOp.move rfl rfl) ?_
        refine ROps.l (r := AV.i64 v1) rfl rfl rfl (LOp.move rfl rfl) ?_
        refine ROps.l (r := AV.ptr [AV.f32 e2]) rfl rfl rfl (LOp.le (LOp.ix (f := AV.f32) und38 siz34 rfl rfl rfl rfl he2) ALe.ptr) ?_
        refine ROps.l (r := AV.f32 e2) rfl rfl rfl (LOp.load1 agg34 rfl rfl) ?_
        refine ROps.d (r := AV.b false) (fs := []) (Γ' := []) rfl rfl rfl (TOp.eqb (TOp.callB (CallAs.func ent118 rfl rfl) (Bors.cons (Bor.pure rfl) Bors.nil) rfl rfl (f118_ok e2 r3 hf3)) hc4) rfl ?_
        refine ROps.l (r := AV.b true) rfl rfl rfl (LOp.eqb (LOp.not rfl rfl) rfl) ?_
        refine ROps.nil ?_
        refine RunC.cond_true rfl rfl ?_
        refine RunC.seq ?_
        refine RunC.regionW ?_
        refine ROps.l (r := AV.b false) rfl rfl rfl (LOp.assign rfl rfl) ?_
        refine ROps.nil ?_
        refine RunC.ret ?_
        cases Option.some.inj h2_
        have hx3_ := hr2 _ rfl
        subst hx3_
        have hq := Option.some.inj h
        subst q0
        exact bodyQ.pure (.inr rfl) rfl (Res.one rfl (RV.tmp rfl))
    · refine RunC.regionW ?_
      refine ROps.l (r := AV.i64 v1) rfl rfl rfl (LOp.move rfl rfl) ?_
      refine ROps.l (r := AV.sl a0.length (a0.map AV.f32)) rfl rfl rfl (LOp.move rfl rfl) ?_
      refine ROps.l (r := AV.i64 (a0.length : Int)) rfl rfl rfl (LOp.len_sl und38 rfl rfl) ?_
      refine ROps.l (r := AV.b false) rfl rfl rfl (LOp.eqb (LOp.lss rfl rfl rfl) hc1) ?_
      refine ROps.nil ?_
      refine RunC.cond_false rfl rfl ?_
      refine RunC.exit ?_
      cases Option.some.inj h2_
      have hx := ho2 _ rfl
      exact ⟨trivial, trivial, hx⟩
  · rintro τ4 Γ4 ⟨hw4, hd4, rfl⟩
    refine RunC.wl (τ' := []) (Γ' := []) hw4 hd4 ?_
    replace h : f98_k1 = some q0 := h
    unfold f98_k1 at h
    refine RunC.seq ?_
    refine RunC.regionW ?_
    refine ROps.l (r := AV.b true) rfl rfl rfl (LOp.assign rfl rfl) ?_
    refine ROps.nil ?_
    refine RunC.ret ?_
    have hq := Option.some.inj h
    subst q0
    exact bodyQ.pure (.inr rfl) rfl (Res.one rfl (RV.tmp rfl))
noncomputable def f58 (a0 : Int) (a1 : Int) (a2 : List F) (a3 : List F) (a4 : List F) (a5 : List F) (a6 : Int) (a7 : Int) (a8 : List Int) : Option (Bool) :=
  obind (f97 a0 a1) fun (r1 : Bool) =>
  bsel r1 (
    olet (IntKind.i64.wrap (a0 * a1)) fun (x2 : Int) =>
    bsel (decide ((a2.length : Int) = x2)) (
      obind (f98 a2) fun (r3 : Bool) =>
      some r3) (
      some false)) (
    some false)
theorem f58_ok (a0 : Int) (a1 : Int) (a2 : List F) (a3 : List F) (a4 : List F) (a5 : List F) (a6 : Int) (a7 : Int) (a8 : List Int) (q0 : Bool) (h : f58 a0 a1 a2 a3 a4 a5 a6 a7 a8 = some q0) : Ev Try.prog 58 [AV.ptr [AV.i64 a0, AV.i64 a1, AV.sl a2.length (a2.map AV.f32), AV.sl a3.length (a3.map AV.f32), AV.sl a4.length (a4.map AV.f32), AV.sl a5.length (a5.map AV.f32), AV.i64 a6, AV.i64 a7, AV.sl a8.length (a8.map AV.i64)]] [] (AV.b q0) [] := by
  refine Ev.start Try.func58 rfl rfl 0 (τ := [(0, AV.ptr [AV.i64 a0, AV.i64 a1, AV.sl a2.length (a2.map AV.f32), AV.sl a3.length (a3.map AV.f32), AV.sl a4.length (a4.map AV.f32), AV.sl a5.length (a5.map AV.f32), AV.i64 a6, AV.i64 a7, AV.sl a8.length (a8.map AV.i64)])]) rfl (Γ' := []) rfl (n := 36) rfl (g := 0) rfl ?_
  unfold f58 at h
  refine RunC.seq ?_
  refine RunC.regionW ?_
  refine ROps.l (r := AV.b false) rfl rfl rfl (LOp.assign rfl rfl) ?_
  refine ROps.nil ?_
  refine RunC.seq ?_
  obtain ⟨r1, hf1, h⟩ := obind_some h
  rcases bsel_some h with ⟨hc2, h⟩ | ⟨hc2, h⟩
  · obtain ⟨x2, hx3, h⟩ := olet_some h
    rcases bsel_some h with ⟨hc4, h⟩ | ⟨hc4, h⟩
    · obtain ⟨r3, hf5, h⟩ := obind_some h
      refine RunC.region_draw (Γ' := []) 34 mixed 
        (TR.l (r := AV.ptr [AV.i64 a0, AV.i64 a1, AV.sl a2.length (a2.map AV.f32), AV.sl a3.length (a3.map AV.f32), AV.sl a4.length (a4.map AV.f32), AV.sl a5.length (a5.map AV.f32), AV.i64 a6, AV.i64 a7, AV.sl a8.length (a8.map AV.i64)]) rfl rfl (LOp.move rfl rfl) <|
        (TR.l (r := AV.ptr [AV.i64 a0, AV.i64 a1, AV.sl a2.length (a2.map AV.f32), AV.sl a3.length (a3.map AV.f32), AV.sl a4.length (a4.map AV.f32), AV.sl a5.length (a5.map AV.f32), AV.i64 a6, AV.i64 a7, AV.sl a8.length (a8.map AV.i64)]) rfl rfl (LOp.nilCheck_ptr rfl rfl) <|
        (TR.l (r := AV.ptr [AV.i64 a0, AV.i64 a1, AV.sl a2.length (a2.map AV.f32), AV.sl a3.length (a3.map AV.f32), AV.sl a4.length (a4.map AV.f32), AV.sl a5.length (a5.map AV.f32), AV.i64 a6, AV.i64 a7, AV.sl a8.length (a8.map AV.i64)]) rfl rfl (LOp.fap und40 rfl siz2 rfl rfl rfl) <|
        (TR.l (r := AV.i64 a0) rfl rfl (LOp.load1 agg2 rfl rfl) <|
        (TR.l (r := AV.ptr [AV.i64 a0, AV.i64 a1, AV.sl a2.length (a2.map AV.f32), AV.sl a3.length (a3.map AV.f32), AV.sl a4.length (a4.map AV.f32), AV.sl a5.length (a5.map AV.f32), AV.i64 a6, AV.i64 a7, AV.sl a8.length (a8.map AV.i64)]) rfl rfl (LOp.move rfl rfl) <|
        (TR.l (r := AV.ptr [AV.i64 a0, AV.i64 a1, AV.sl a2.length (a2.map AV.f32), AV.sl a3.length (a3.map AV.f32), AV.sl a4.length (a4.map AV.f32), AV.sl a5.length (a5.map AV.f32), AV.i64 a6, AV.i64 a7, AV.sl a8.length (a8.map AV.i64)]) rfl rfl (LOp.nilCheck_ptr rfl rfl) <|
        (TR.l (r := AV.ptr [AV.i64 a1, AV.sl a2.length (a2.map AV.f32), AV.sl a3.length (a3.map AV.f32), AV.sl a4.length (a4.map AV.f32), AV.sl a5.length (a5.map AV.f32), AV.i64 a6, AV.i64 a7, AV.sl a8.length (a8.map AV.i64)]) rfl rfl (LOp.fap und40 rfl siz2 rfl rfl rfl) <|
        (TR.l (r := AV.i64 a1) rfl rfl (LOp.load1 agg2 rfl rfl) <|
        (TR.d (r := AV.b true) (fs := []) rfl rfl (TOp.eqb (TOp.callB (CallAs.func ent97 rfl rfl) (Bors.cons (Bor.pure rfl) (Bors.cons (Bor.pure rfl) Bors.nil)) rfl rfl (f97_ok a0 a1 r1 hf1)) hc2) <|
        (TR.l (r := AV.b true) rfl rfl (LOp.move rfl rfl) <|
        (TR.l (r := AV.ptr [AV.i64 a0, AV.i64 a1, AV.sl a2.length (a2.map AV.f32), AV.sl a3.length (a3.map AV.f32), AV.sl a4.length (a4.map AV.f32), AV.sl a5.length (a5.map AV.f32), AV.i64 a6, AV.i64 a7, AV.sl a8.length (a8.map AV.i64)]) rfl rfl (LOp.move rfl rfl) <|
        (TR.l (r := AV.ptr [AV.i64 a0, AV.i64 a1, AV.sl a2.length (a2.map AV.f32), AV.sl a3.length (a3.map AV.f32), AV.sl a4.length (a4.map AV.f32), AV.sl a5.length (a5.map AV.f32), AV.i64 a6, AV.i64 a7, AV.sl a8.length (a8.map AV.i64)]) rfl rfl (LOp.nilCheck_ptr rfl rfl) <|
        (TR.l (r := AV.ptr [AV.sl a2.length (a2.map AV.f32), AV.sl a3.length (a3.map AV.f32), AV.sl a4.length (a4.map AV.f32), AV.sl a5.length (a5.map AV.f32), AV.i64 a6, AV.i64 a7, AV.sl a8.length (a8.map AV.i64)]) rfl rfl (LOp.fap und40 rfl siz38 rfl rfl rfl) <|
        (TR.l (r := AV.sl a2.length (a2.map AV.f32)) rfl rfl (LOp.load1 agg38 rfl rfl) <|
        (TR.l (r := AV.i64 (a2.length : Int)) rfl rfl (LOp.len_sl und38 rfl rfl) <|
        (TR.l (r := AV.ptr [AV.i64 a0, AV.i64 a1, AV.sl a2.length (a2.map AV.f32), AV.sl a3.length (a3.map AV.f32), AV.sl a4.length (a4.map AV.f32), AV.sl a5.length (a5.map AV.f32), AV.i64 a6, AV.i64 a7, AV.sl a8.length (a8.map AV.i64)]) rfl rfl (LOp.move rfl rfl) <|
        (TR.l (r := AV.ptr [AV.i64 a0, AV.i64 a1, AV.sl a2.length (a2.map AV.f32), AV.sl a3.length (a3.map AV.f32), AV.sl a4.length (a4.map AV.f32), AV.sl a5.length (a5.map AV.f32), AV.i64 a6, AV.i64 a7, AV.sl a8.length (a8.map AV.i64)]) rfl rfl (LOp.nilCheck_ptr rfl rfl) <|
        (TR.l (r := AV.ptr [AV.i64 a0, AV.i64 a1, AV.sl a2.length (a2.map AV.f32), AV.sl a3.length (a3.map AV.f32), AV.sl a4.length (a4.map AV.f32), AV.sl a5.length (a5.map AV.f32), AV.i64 a6, AV.i64 a7, AV.sl a8.length (a8.map AV.i64)]) rfl rfl (LOp.fap und40 rfl siz2 rfl rfl rfl) <|
        (TR.l (r := AV.i64 a0) rfl rfl (LOp.load1 agg2 rfl rfl) <|
        (TR.l (r := AV.ptr [AV.i64 a0, AV.i64 a1, AV.sl a2.length (a2.map AV.f32), AV.sl a3.length (a3.map AV.f32), AV.sl a4.length (a4.map AV.f32), AV.sl a5.length (a5.map AV.f32), AV.i64 a6, AV.i64 a7, AV.sl a8.length (a8.map AV.i64)]) rfl rfl (LOp.move rfl rfl) <|
        (TR.l (r := AV.ptr [AV.i64 a0, AV.i64 a1, AV.sl a2.length (a2.map AV.f32), AV.sl a3.length (a3.map AV.f32), AV.sl a4.length (a4.map AV.f32), AV.sl a5.length (a5.map AV.f32), AV.i64 a6, AV.i64 a7, AV.sl a8.length (a8.map AV.i64)]) rfl rfl (LOp.nilCheck_ptr rfl rfl) <|
        (TR.l (r := AV.ptr [AV.i64 a1, AV.sl a2.length (a2.map AV.f32), AV.sl a3.length (a3.map AV.f32), AV.sl a4.length (a4.map AV.f32), AV.sl a5.length (a5.map AV.f32), AV.i64 a6, AV.i64 a7, AV.sl a8.length (a8.map AV.i64)]) rfl rfl (LOp.fap und40 rfl siz2 rfl rfl rfl) <|
        (TR.l (r := AV.i64 a1) rfl rfl (LOp.load1 agg2 rfl rfl) <|
        (TR.l (r := AV.i64 x2) rfl rfl (LOp.eqr (LOp.mul rfl rfl rfl) (congrArg (AV.ik .i64) hx3)) <|
        (TR.l (r := AV.b true) rfl rfl (LOp.eqb (LOp.eql rfl rfl rfl) hc4) <|
        (TR.l (r := AV.b true) rfl rfl (LOp.pick_true rfl rfl rfl) <|
        (TR.l (r := AV.b true) rfl rfl (LOp.move rfl rfl) <|
        (TR.l (r := AV.ptr [AV.i64 a0, AV.i64 a1, AV.sl a2.length (a2.map AV.f32), AV.sl a3.length (a3.map AV.f32), AV.sl a4.length (a4.map AV.f32), AV.sl a5.length (a5.map AV.f32), AV.i64 a6, AV.i64 a7, AV.sl a8.length (a8.map AV.i64)]) rfl rfl (LOp.move rfl rfl) <|
        (TR.l (r := AV.ptr [AV.i64 a0, AV.i64 a1, AV.sl a2.length (a2.map AV.f32), AV.sl a3.length (a3.map AV.f32), AV.sl a4.length (a4.map AV.f32), AV.sl a5.length (a5.map AV.f32), AV.i64 a6, AV.i64 a7, AV.sl a8.length (a8.map AV.i64)]) rfl rfl (LOp.nilCheck_ptr rfl rfl) <|
        (TR.l (r := AV.ptr [AV.sl a2.length (a2.map AV.f32), AV.sl a3.length (a3.map AV.f32), AV.sl a4.length (a4.map AV.f32), AV.sl a5.length (a5.map AV.f32), AV.i64 a6, AV.i64 a7, AV.sl a8.length (a8.map AV.i64)]) rfl rfl (LOp.fap und40 rfl siz38 rfl rfl rfl) <|
        (TR.l (r := AV.sl a2.length (a2.map AV.f32)) rfl rfl (LOp.load1 agg38 rfl rfl) <|
        (TR.d (r := AV.b r3) (fs := []) rfl rfl (TOp.callB (CallAs.func ent98 rfl rfl) (Bors.cons (Bor.sl (fun _ => rfl)) Bors.nil) rfl rfl (f98_ok a2 r3 hf5)) <|
        (TR.l (r := AV.b r3) rfl rfl (LOp.pick_true rfl rfl rfl) <|
        (TR.l (r := AV.b r3) rfl rfl (LOp.assign rfl rfl) <|
        TR.nil)))))))))))))))))))))))))))))))))) rfl (by kernel_rfl) rfl fills_nil rfl ?_
      iterate 34 refine ROps.dropS ?_
      refine ROps.drop0 ?_
      refine ROps.nil ?_
      refine RunC.ret ?_
      have hq := Option.some.inj h
      subst q0
      exact bodyQ.pure (.inr rfl) rfl (Res.one rfl (RV.tmp rfl))
    · refine RunC.region_draw (Γ' := []) 34 mixed 
        (TR.l (r := AV.ptr [AV.i64 a0, AV.i64 a1, AV.sl a2.length (a2.map AV.f32), AV.sl a3.length (a3.map AV.f32), AV.sl a4.length (a4.map AV.f32), AV.sl a5.length (a5.map AV.f32), AV.i64 a6, AV.i64 a7, AV.sl a8.length (a8.map AV.i64)]) rfl rfl (LOp.move rfl rfl) <|
        (TR.l (r := AV.ptr [AV.i64 a0, AV.i64 a1, AV.sl a2.length (a2.map AV.f32), AV.sl a3.length (a3.map AV.f32), AV.sl a4.length (a4.map AV.f32), AV.sl a5.length (a5.map AV.f32), AV.i64 a6, AV.i64 a7, AV.sl a8.length (a8.map AV.i64)]) rfl rfl (LOp.nilCheck_ptr rfl rfl) <|
        (TR.l (r := AV.ptr [AV.i64 a0, AV.i64 a1, AV.sl a2.length (a2.map AV.f32), AV.sl a3.length (a3.map AV.f32), AV.sl a4.length (a4.map AV.f32), AV.sl a5.length (a5.map AV.f32), AV.i64 a6, AV.i64 a7, AV.sl a8.length (a8.map AV.i64)]) rfl rfl (LOp.fap und40 rfl siz2 rfl rfl rfl) <|
        (TR.l (r := AV.i64 a0) rfl rfl (LOp.load1 agg2 rfl rfl) <|
        (TR.l (r := AV.ptr [AV.i64 a0, AV.i64 a1, AV.sl a2.length (a2.map AV.f32), AV.sl a3.length (a3.map AV.f32), AV.sl a4.length (a4.map AV.f32), AV.sl a5.length (a5.map AV.f32), AV.i64 a6, AV.i64 a7, AV.sl a8.length (a8.map AV.i64)]) rfl rfl (LOp.move rfl rfl) <|
        (TR.l (r := AV.ptr [AV.i64 a0, AV.i64 a1, AV.sl a2.length (a2.map AV.f32), AV.sl a3.length (a3.map AV.f32), AV.sl a4.length (a4.map AV.f32), AV.sl a5.length (a5.map AV.f32), AV.i64 a6, AV.i64 a7, AV.sl a8.length (a8.map AV.i64)]) rfl rfl (LOp.nilCheck_ptr rfl rfl) <|
        (TR.l (r := AV.ptr [AV.i64 a1, AV.sl a2.length (a2.map AV.f32), AV.sl a3.length (a3.map AV.f32), AV.sl a4.length (a4.map AV.f32), AV.sl a5.length (a5.map AV.f32), AV.i64 a6, AV.i64 a7, AV.sl a8.length (a8.map AV.i64)]) rfl rfl (LOp.fap und40 rfl siz2 rfl rfl rfl) <|
        (TR.l (r := AV.i64 a1) rfl rfl (LOp.load1 agg2 rfl rfl) <|
        (TR.d (r := AV.b true) (fs := []) rfl rfl (TOp.eqb (TOp.callB (CallAs.func ent97 rfl rfl) (Bors.cons (Bor.pure rfl) (Bors.cons (Bor.pure rfl) Bors.nil)) rfl rfl (f97_ok a0 a1 r1 hf1)) hc2) <|
        (TR.l (r := AV.b true) rfl rfl (LOp.move rfl rfl) <|
        (TR.l (r := AV.ptr [AV.i64 a0, AV.i64 a1, AV.sl a2.length (a2.map AV.f32), AV.sl a3.length (a3.map AV.f32), AV.sl a4.length (a4.map AV.f32), AV.sl a5.length (a5.map AV.f32), AV.i64 a6, AV.i64 a7, AV.sl a8.length (a8.map AV.i64)]) rfl rfl (LOp.move rfl rfl) <|
        (TR.l (r := AV.ptr [AV.i64 a0, AV.i64 a1, AV.sl a2.length (a2.map AV.f32), AV.sl a3.length (a3.map AV.f32), AV.sl a4.length (a4.map AV.f32), AV.sl a5.length (a5.map AV.f32), AV.i64 a6, AV.i64 a7, AV.sl a8.length (a8.map AV.i64)]) rfl rfl (LOp.nilCheck_ptr rfl rfl) <|
        (TR.l (r := AV.ptr [AV.sl a2.length (a2.map AV.f32), AV.sl a3.length (a3.map AV.f32), AV.sl a4.length (a4.map AV.f32), AV.sl a5.length (a5.map AV.f32), AV.i64 a6, AV.i64 a7, AV.sl a8.length (a8.map AV.i64)]) rfl rfl (LOp.fap und40 rfl siz38 rfl rfl rfl) <|
        (TR.l (r := AV.sl a2.length (a2.map AV.f32)) rfl rfl (LOp.load1 agg38 rfl rfl) <|
        (TR.l (r := AV.i64 (a2.length : Int)) rfl rfl (LOp.len_sl und38 rfl rfl) <|
        (TR.l (r := AV.ptr [AV.i64 a0, AV.i64 a1, AV.sl a2.length (a2.map AV.f32), AV.sl a3.length (a3.map AV.f32), AV.sl a4.length (a4.map AV.f32), AV.sl a5.length (a5.map AV.f32), AV.i64 a6, AV.i64 a7, AV.sl a8.length (a8.map AV.i64)]) rfl rfl (LOp.move rfl rfl) <|
        (TR.l (r := AV.ptr [AV.i64 a0, AV.i64 a1, AV.sl a2.length (a2.map AV.f32), AV.sl a3.length (a3.map AV.f32), AV.sl a4.length (a4.map AV.f32), AV.sl a5.length (a5.map AV.f32), AV.i64 a6, AV.i64 a7, AV.sl a8.length (a8.map AV.i64)]) rfl rfl (LOp.nilCheck_ptr rfl rfl) <|
        (TR.l (r := AV.ptr [AV.i64 a0, AV.i64 a1, AV.sl a2.length (a2.map AV.f32), AV.sl a3.length (a3.map AV.f32), AV.sl a4.length (a4.map AV.f32), AV.sl a5.length (a5.map AV.f32), AV.i64 a6, AV.i64 a7, AV.sl a8.length (a8.map AV.i64)]) rfl rfl (LOp.fap und40 rfl siz2 rfl rfl rfl) <|
        (TR.l (r := AV.i64 a0) rfl rfl (LOp.load1 agg2 rfl rfl) <|
        (TR.l (r := AV.ptr [AV.i64 a0, AV.i64 a1, AV.sl a2.length (a2.map AV.f32), AV.sl a3.length (a3.map AV.f32), AV.sl a4.length (a4.map AV.f32), AV.sl a5.length (a5.map AV.f32), AV.i64 a6, AV.i64 a7, AV.sl a8.length (a8.map AV.i64)]) rfl rfl (LOp.move rfl rfl) <|
        (TR.l (r := AV.ptr [AV.i64 a0, AV.i64 a1, AV.sl a2.length (a2.map AV.f32), AV.sl a3.length (a3.map AV.f32), AV.sl a4.length (a4.map AV.f32), AV.sl a5.length (a5.map AV.f32), AV.i64 a6, AV.i64 a7, AV.sl a8.length (a8.map AV.i64)]) rfl rfl (LOp.nilCheck_ptr rfl rfl) <|
        (TR.l (r := AV.ptr [AV.i64 a1, AV.sl a2.length (a2.map AV.f32), AV.sl a3.length (a3.map AV.f32), AV.sl a4.length (a4.map AV.f32), AV.sl a5.length (a5.map AV.f32), AV.i64 a6, AV.i64 a7, AV.sl a8.length (a8.map AV.i64)]) rfl rfl (LOp.fap und40 rfl siz2 rfl rfl rfl) <|
        (TR.l (r := AV.i64 a1) rfl rfl (LOp.load1 agg2 rfl rfl) <|
        (TR.l (r := AV.i64 x2) rfl rfl (LOp.eqr (LOp.mul rfl rfl rfl) (congrArg (AV.ik .i64) hx3)) <|
        (TR.l (r := AV.b false) rfl rfl (LOp.eqb (LOp.eql rfl rfl rfl) hc4) <|
        (TR.l (r := AV.b false) rfl rfl (LOp.pick_true rfl rfl rfl) <|
        (TR.l (r := AV.b false) rfl rfl (LOp.move rfl rfl) <|
        (TR.s rfl rfl <|
        (TR.s rfl rfl <|
        (TR.s rfl rfl <|
        (TR.s rfl rfl <|
        (TR.s rfl rfl <|
        (TR.l (r := AV.b false) rfl rfl (LOp.pick_false rfl rfl rfl) <|
        (TR.l (r := AV.b false) rfl rfl (LOp.assign rfl rfl) <|
        TR.nil)))))))))))))))))))))))))))))))))) rfl (by kernel_rfl) rfl fills_nil rfl ?_
      iterate 34 refine ROps.dropS ?_
      refine ROps.drop0 ?_
      refine ROps.nil ?_
      refine RunC.ret ?_
      have hq := Option.some.inj h
      subst q0
      exact bodyQ.pure (.inr rfl) rfl (Res.one rfl (RV.tmp rfl))
  · refine RunC.region_draw (Γ' := []) 34 mixed 
      (TR.l (r := AV.ptr [AV.i64 a0, AV.i64 a1, AV.sl a2.length (a2.map AV.f32), AV.sl a3.length (a3.map AV.f32), AV.sl a4.length (a4.map AV.f32), AV.sl a5.length (a5.map AV.f32), AV.i64 a6, AV.i64 a7, AV.sl a8.length (a8.map AV.i64)]) rfl rfl (LOp.move rfl rfl) <|
      (TR.l (r := AV.ptr [AV.i64 a0, AV.i64 a1, AV.sl a2.length (a2.map AV.f32), AV.sl a3.length (a3.map AV.f32), AV.sl a4.length (a4.map AV.f32), AV.sl a5.length (a5.map AV.f32), AV.i64 a6, AV.i64 a7, AV.sl a8.length (a8.map AV.i64)]) rfl rfl (LOp.nilCheck_ptr rfl rfl) <|
      (TR.l (r := AV.ptr [AV.i64 a0, AV.i64 a1, AV.sl a2.length (a2.map AV.f32), AV.sl a3.length (a3.map AV.f32), AV.sl a4.length (a4.map AV.f32), AV.sl a5.length (a5.map AV.f32), AV.i64 a6, AV.i64 a7, AV.sl a8.length (a8.map AV.i64)]) rfl rfl (LOp.fap und40 rfl siz2 rfl rfl rfl) <|
      (TR.l (r := AV.i64 a0) rfl rfl (LOp.load1 agg2 rfl rfl) <|
      (TR.l (r := AV.ptr [AV.i64 a0, AV.i64 a1, AV.sl a2.length (a2.map AV.f32), AV.sl a3.length (a3.map AV.f32), AV.sl a4.length (a4.map AV.f32), AV.sl a5.length (a5.map AV.f32), AV.i64 a6, AV.i64 a7, AV.sl a8.length (a8.map AV.i64)]) rfl rfl (LOp.move rfl rfl) <|
      (TR.l (r := AV.ptr [AV.i64 a0, AV.i64 a1, AV.sl a2.length (a2.map AV.f32), AV.sl a3.length (a3.map AV.f32), AV.sl a4.length (a4.map AV.f32), AV.sl a5.length (a5.map AV.f32), AV.i64 a6, AV.i64 a7, AV.sl a8.length (a8.map AV.i64)]) rfl rfl (LOp.nilCheck_ptr rfl rfl) <|
      (TR.l (r := AV.ptr [AV.i64 a1, AV.sl a2.length (a2.map AV.f32), AV.sl a3.length (a3.map AV.f32), AV.sl a4.length (a4.map AV.f32), AV.sl a5.length (a5.map AV.f32), AV.i64 a6, AV.i64 a7, AV.sl a8.length (a8.map AV.i64)]) rfl rfl (LOp.fap und40 rfl siz2 rfl rfl rfl) <|
      (TR.l (r := AV.i64 a1) rfl rfl (LOp.load1 agg2 rfl rfl) <|
      (TR.d (r := AV.b false) (fs := []) rfl rfl (TOp.eqb (TOp.callB (CallAs.func ent97 rfl rfl) (Bors.cons (Bor.pure rfl) (Bors.cons (Bor.pure rfl) Bors.nil)) rfl rfl (f97_ok a0 a1 r1 hf1)) hc2) <|
      (TR.l (r := AV.b false) rfl rfl (LOp.move rfl rfl) <|
      (TR.s rfl rfl <|
      (TR.s rfl rfl <|
      (TR.s rfl rfl <|
      (TR.s rfl rfl <|
      (TR.s rfl rfl <|
      (TR.s rfl rfl <|
      (TR.s rfl rfl <|
      (TR.s rfl rfl <|
      (TR.s rfl rfl <|
      (TR.s rfl rfl <|
      (TR.s rfl rfl <|
      (TR.s rfl rfl <|
      (TR.s rfl rfl <|
      (TR.s rfl rfl <|
      (TR.s rfl rfl <|
      (TR.l (r := AV.b false) rfl rfl (LOp.pick_false rfl rfl rfl) <|
      (TR.l (r := AV.b false) rfl rfl (LOp.move rfl rfl) <|
      (TR.s rfl rfl <|
      (TR.s rfl rfl <|
      (TR.s rfl rfl <|
      (TR.s rfl rfl <|
      (TR.s rfl rfl <|
      (TR.l (r := AV.b false) rfl rfl (LOp.pick_false rfl rfl rfl) <|
      (TR.l (r := AV.b false) rfl rfl (LOp.assign rfl rfl) <|
      TR.nil)))))))))))))))))))))))))))))))))) rfl (by kernel_rfl) rfl fills_nil rfl ?_
    iterate 34 refine ROps.dropS ?_
    refine ROps.drop0 ?_
    refine ROps.nil ?_
    refine RunC.ret ?_
    have hq := Option.some.inj h
    subst q0
    exact bodyQ.pure (.inr rfl) rfl (Res.one rfl (RV.tmp rfl))
noncomputable def f110 (a0 : List F) : Option (Bool) :=
  bsel (decide (1 ≤ (a0.length : Int))) (
    bsel (decide ((a0.length : Int) ≤ 256)) (
      obind (f98 a0) fun (r1 : Bool) =>
      some r1) (
      some false)) (
    some false)
theorem f110_ok (a0 : List F) (q0 : Bool) (h : f110 a0 = some q0) : Ev Try.prog 110 [AV.sl a0.length (a0.map AV.f32)] [] (AV.b q0) [] := by
  refine Ev.start Try.func110 rfl rfl 0 (τ := [(0, AV.sl a0.length (a0.map AV.f32))]) rfl (Γ' := []) rfl (n := 15) rfl (g := 0) rfl ?_
  unfold f110 at h
  refine RunC.seq ?_
  refine RunC.regionW ?_
  refine ROps.l (r := AV.b false) rfl rfl rfl (LOp.assign rfl rfl) ?_
  refine ROps.nil ?_
  refine RunC.seq ?_
  rcases bsel_some h with ⟨hc1, h⟩ | ⟨hc1, h⟩
  · rcases bsel_some h with ⟨hc2, h⟩ | ⟨hc2, h⟩
    · obtain ⟨r1, hf3, h⟩ := obind_some h
      refine RunC.regionW ?_
      refine ROps.l (r := AV.sl a0.length (a0.map AV.f32)) rfl rfl rfl (LOp.move rfl rfl) ?_
      refine ROps.l (r := AV.i64 (a0.length : Int)) rfl rfl rfl (LOp.len_sl und38 rfl rfl) ?_
      refine ROps.l (r := AV.b true) rfl rfl rfl (LOp.eqb (LOp.geq rfl rfl rfl) hc1) ?_
      refine ROps.l (r := AV.b true) rfl rfl rfl (LOp.move rfl rfl) ?_
      refine ROps.l (r := AV.sl a0.length (a0.map AV.f32)) rfl rfl rfl (LOp.move rfl rfl) ?_
      refine ROps.l (r := AV.i64 (a0.length : Int)) rfl rfl rfl (LOp.len_sl und38 rfl rfl) ?_
      refine ROps.l (r := AV.b true) rfl rfl rfl (LOp.eqb (LOp.leq rfl rfl rfl) hc2) ?_
      refine ROps.l (r := AV.b true) rfl rfl rfl (LOp.pick_true rfl rfl rfl) ?_
      refine ROps.l (r := AV.b true) rfl rfl rfl (LOp.move rfl rfl) ?_
      refine ROps.l (r := AV.sl a0.length (a0.map AV.f32)) rfl rfl rfl (LOp.move rfl rfl) ?_
      refine ROps.d (r := AV.b r1) (fs := []) (Γ' := []) rfl rfl rfl (TOp.callB (CallAs.func ent98 rfl rfl) (Bors.cons (Bor.sl (fun _ => rfl)) Bors.nil) rfl rfl (f98_ok a0 r1 hf3)) rfl ?_
      refine ROps.l (r := AV.b r1) rfl rfl rfl (LOp.pick_true rfl rfl rfl) ?_
      refine ROps.l (r := AV.b r1) rfl rfl rfl (LOp.assign rfl rfl) ?_
      refine ROps.nil ?_
      refine RunC.ret ?_
      have hq := Option.some.inj h
      subst q0
      exact bodyQ.pure (.inr rfl) rfl (Res.one rfl (RV.tmp rfl))
    · refine RunC.regionW ?_
      refine ROps.l (r := AV.sl a0.length (a0.map AV.f32)) rfl rfl rfl (LOp.move rfl rfl) ?_
      refine ROps.l (r := AV.i64 (a0.length : Int)) rfl rfl rfl (LOp.len_sl und38 rfl rfl) ?_
      refine ROps.l (r := AV.b true) rfl rfl rfl (LOp.eqb (LOp.geq rfl rfl rfl) hc1) ?_
      refine ROps.l (r := AV.b true) rfl rfl rfl (LOp.move rfl rfl) ?_
      refine ROps.l (r := AV.sl a0.length (a0.map AV.f32)) rfl rfl rfl (LOp.move rfl rfl) ?_
      refine ROps.l (r := AV.i64 (a0.length : Int)) rfl rfl rfl (LOp.len_sl und38 rfl rfl) ?_
      refine ROps.l (r := AV.b false) rfl rfl rfl (LOp.eqb (LOp.leq rfl rfl rfl) hc2) ?_
      refine ROps.l (r := AV.b false) rfl rfl rfl (LOp.pick_true rfl rfl rfl) ?_
      refine ROps.l (r := AV.b false) rfl rfl rfl (LOp.move rfl rfl) ?_
      refine ROps.s rfl rfl rfl ?_
      refine ROps.s rfl rfl rfl ?_
      refine ROps.l (r := AV.b false) rfl rfl rfl (LOp.pick_false rfl rfl rfl) ?_
      refine ROps.l (r := AV.b false) rfl rfl rfl (LOp.assign rfl rfl) ?_
      refine ROps.nil ?_
      refine RunC.ret ?_
      have hq := Option.some.inj h
      subst q0
      exact bodyQ.pure (.inr rfl) rfl (Res.one rfl (RV.tmp rfl))
  · refine RunC.regionW ?_
    refine ROps.l (r := AV.sl a0.length (a0.map AV.f32)) rfl rfl rfl (LOp.move rfl rfl) ?_
    refine ROps.l (r := AV.i64 (a0.length : Int)) rfl rfl rfl (LOp.len_sl und38 rfl rfl) ?_
    refine ROps.l (r := AV.b false) rfl rfl rfl (LOp.eqb (LOp.geq rfl rfl rfl) hc1) ?_
    refine ROps.l (r := AV.b false) rfl rfl rfl (LOp.move rfl rfl) ?_
    refine ROps.s rfl rfl rfl ?_
    refine ROps.s rfl rfl rfl ?_
    refine ROps.s rfl rfl rfl ?_
    refine ROps.l (r := AV.b false) rfl rfl rfl (LOp.pick_false rfl rfl rfl) ?_
    refine ROps.l (r := AV.b false) rfl rfl rfl (LOp.move rfl rfl) ?_
    refine ROps.s rfl rfl rfl ?_
    refine ROps.s rfl rfl rfl ?_
    refine ROps.l (r := AV.b false) rfl rfl rfl (LOp.pick_false rfl rfl rfl) ?_
    refine ROps.l (r := AV.b false) rfl rfl rfl (LOp.assign rfl rfl) ?_
    refine ROps.nil ?_
    refine RunC.ret ?_
    have hq := Option.some.inj h
    subst q0
    exact bodyQ.pure (.inr rfl) rfl (Res.one rfl (RV.tmp rfl))
noncomputable def f111 (a0 : List F) (a1 : List F) (a2 : Int) (a3 : Int) (a4 : List Int) : Option (Bool) :=
  bsel (decide (1 ≤ (a0.length : Int))) (
    bsel (decide ((a0.length : Int) ≤ 12)) (
      olet (IntKind.i64.wrap ((a0.length : Int) - 1)) fun (x1 : Int) =>
      bsel (decide ((a1.length : Int) = x1)) (
        obind (f98 a0) fun (r2 : Bool) =>
        bsel r2 (
          obind (f98 a1) fun (r3 : Bool) =>
          some r3) (
          some false)) (
        some false)) (
      some false)) (
    some false)
theorem f111_ok (a0 : List F) (a1 : List F) (a2 : Int) (a3 : Int) (a4 : List Int) (q0 : Bool) (h : f111 a0 a1 a2 a3 a4 = some q0) : Ev Try.prog 111 [AV.ptr [AV.sl a0.length (a0.map AV.f32), AV.sl a1.length (a1.map AV.f32), AV.i64 a2, AV.i64 a3, AV.sl a4.length (a4.map AV.i64)]] [] (AV.b q0) [] := by
  refine Ev.start Try.func111 rfl rfl 0 (τ := [(0, AV.ptr [AV.sl a0.length (a0.map AV.f32), AV.sl a1.length (a1.map AV.f32), AV.i64 a2, AV.i64 a3, AV.sl a4.length (a4.map AV.i64)])]) rfl (Γ' := []) rfl (n := 39) rfl (g := 0) rfl ?_
  unfold f111 at h
  refine RunC.seq ?_
  refine RunC.regionW ?_
  refine ROps.l (r := AV.b false) rfl rfl rfl (LOp.assign rfl rfl) ?_
  refine ROps.nil ?_
  refine RunC.seq ?_
  refine RunC.regionW ?_
  refine ROps.l (r := AV.ptr [AV.sl a0.length (a0.map AV.f32), AV.sl a1.length (a1.map AV.f32), AV.i64 a2, AV.i64 a3, AV.sl a4.length (a4.map AV.i64)]) rfl rfl rfl (LOp.move rfl rfl) ?_
  refine ROps.l (r := AV.ptr [AV.sl a0.length (a0.map AV.f32), AV.sl a1.length (a1.map AV.f32), AV.i64 a2, AV.i64 a3, AV.sl a4.length (a4.map AV.i64)]) rfl rfl rfl (LOp.nilCheck_ptr rfl rfl) ?_
  refine ROps.l (r := AV.ptr [AV.sl a0.length (a0.map AV.f32), AV.sl a1.length (a1.map AV.f32), AV.i64 a2, AV.i64 a3, AV.sl a4.length (a4.map AV.i64)]) rfl rfl rfl (LOp.fap und42 rfl siz38 rfl rfl rfl) ?_
  refine ROps.l (r := AV.sl a0.length (a0.map AV.f32)) rfl rfl rfl (LOp.load1 agg38 rfl rfl) ?_
  refine ROps.l (r := AV.i64 (a0.length : Int)) rfl rfl rfl (LOp.len_sl und38 rfl rfl) ?_
  refine ROps.l (r := AV.i64 (a0.length : Int)) rfl rfl rfl (LOp.assign rfl rfl) ?_
  refine ROps.nil ?_
  refine RunC.seq ?_
  rcases bsel_some h with ⟨hc1, h⟩ | ⟨hc1, h⟩
  · rcases bsel_some h with ⟨hc2, h⟩ | ⟨hc2, h⟩
    · obtain ⟨x1, hx3, h⟩ := olet_some h
      rcases bsel_some h with ⟨hc4, h⟩ | ⟨hc4, h⟩
      · obtain ⟨r2, hf5, h⟩ := obind_some h
        rcases bsel_some h with ⟨hc6, h⟩ | ⟨hc6, h⟩
        · obtain ⟨r3, hf7, h⟩ := obind_some h
          refine RunC.regionW ?_
          refine ROps.l (r := AV.i64 (a0.length : Int)) rfl rfl rfl (LOp.move rfl rfl) ?_
          refine ROps.l (r := AV.b true) rfl rfl rfl (LOp.eqb (LOp.geq rfl rfl rfl) hc1) ?_
          refine ROps.l (r := AV.b true) rfl rfl rfl (LOp.move rfl rfl) ?_
          refine ROps.l (r := AV.i64 (a0.length : Int)) rfl rfl rfl (LOp.move rfl rfl) ?_
          refine ROps.l (r := AV.b true) rfl rfl rfl (LOp.eqb (LOp.leq rfl rfl rfl) hc2) ?_
          refine ROps.l (r := AV.b true) rfl rfl rfl (LOp.pick_true rfl rfl rfl) ?_
          refine ROps.l (r := AV.b true) rfl rfl rfl (LOp.move rfl rfl) ?_
          refine ROps.l (r := AV.ptr [AV.sl a0.length (a0.map AV.f32), AV.sl a1.length (a1.map AV.f32), AV.i64 a2, AV.i64 a3, AV.sl a4.length (a4.map AV.i64)]) rfl rfl rfl (LOp.move rfl rfl) ?_
          refine ROps.l (r := AV.ptr [AV.sl a0.length (a0.map AV.f32), AV.sl a1.length (a1.map AV.f32), AV.i64 a2, AV.i64 a3, AV.sl a4.length (a4.map AV.i64)]) rfl rfl rfl (LOp.nilCheck_ptr rfl rfl) ?_
          refine ROps.l (r := AV.ptr [AV.sl a1.length (a1.map AV.f32), AV.i64 a2, AV.i64 a3, AV.sl a4.length (a4.map AV.i64)]) rfl rfl rfl (LOp.fap und42 rfl siz38 rfl rfl rfl) ?_
          refine ROps.l (r := AV.sl a1.length (a1.map AV.f32)) rfl rfl rfl (LOp.load1 agg38 rfl rfl) ?_
          refine ROps.l (r := AV.i64 (a1.length : Int)) rfl rfl rfl (LOp.len_sl und38 rfl rfl) ?_
          refine ROps.l (r := AV.i64 (a0.length : Int)) rfl rfl rfl (LOp.move rfl rfl) ?_
          refine ROps.l (r := AV.i64 x1) rfl rfl rfl (LOp.eqr (LOp.sub rfl rfl rfl) (congrArg (AV.ik .i64) hx3)) ?_
          refine ROps.l (r := AV.b true) rfl rfl rfl (LOp.eqb (LOp.eql rfl rfl rfl) hc4) ?_
          refine ROps.l (r := AV.b true) rfl rfl rfl (LOp.pick_true rfl rfl rfl) ?_
          refine ROps.l (r := AV.b true) rfl rfl rfl (LOp.move rfl rfl) ?_
          refine ROps.l (r := AV.ptr [AV.sl a0.length (a0.map AV.f32), AV.sl a1.length (a1.map AV.f32), AV.i64 a2, AV.i64 a3, AV.sl a4.length (a4.map AV.i64)]) rfl rfl rfl (LOp.move rfl rfl) ?_
          refine ROps.l (r := AV.ptr [AV.sl a0.length (a0.map AV.f32), AV.sl a1.length (a1.map AV.f32), AV.i64 a2, AV.i64 a3, AV.sl a4.length (a4.map AV.i64)]) rfl rfl rfl (LOp.nilCheck_ptr rfl rfl) ?_
          refine ROps.l (r := AV.ptr [AV.sl a0.length (a0.map AV.f32), AV.sl a1.length (a1.map AV.f32), AV.i64 a2, AV.i64 a3, AV.sl a4.length (a4.map AV.i64)]) rfl rfl rfl (LOp.fap und42 rfl siz38 rfl rfl rfl) ?_
          refine ROps.l (r := AV.sl a0.length (a0.map AV.f32)) rfl rfl rfl (LOp.load1 agg38 rfl rfl) ?_
          refine ROps.d (r := AV.b true) (fs := []) (Γ' := []) rfl rfl rfl (TOp.eqb (TOp.callB (CallAs.func ent98 rfl rfl) (Bors.cons (Bor.sl (fun _ => rfl)) Bors.nil) rfl rfl (f98_ok a0 r2 hf5)) hc6) rfl ?_
          refine ROps.l (r := AV.b true) rfl rfl rfl (LOp.pick_true rfl rfl rfl) ?_
          refine ROps.l (r := AV.b true) rfl rfl rfl (LOp.move rfl rfl) ?_
          refine ROps.l (r := AV.ptr [AV.sl a0.length (a0.map AV.f32), AV.sl a1.length (a1.map AV.f32), AV.i64 a2, AV.i64 a3, AV.sl a4.length (a4.map AV.i64)]) rfl rfl rfl (LOp.move rfl rfl) ?_
          refine ROps.l (r := AV.ptr [AV.sl a0.length (a0.map AV.f32), AV.sl a1.length (a1.map AV.f32), AV.i64 a2, AV.i64 a3, AV.sl a4.length (a4.map AV.i64)]) rfl rfl rfl (LOp.nilCheck_ptr rfl rfl) ?_
          refine ROps.l (r := AV.ptr [AV.sl a1.length (a1.map AV.f32), AV.i64 a2, AV.i64 a3, AV.sl a4.length (a4.map AV.i64)]) rfl rfl rfl (LOp.fap und42 rfl siz38 rfl rfl rfl) ?_
          refine ROps.l (r := AV.sl a1.length (a1.map AV.f32)) rfl rfl rfl (LOp.load1 agg38 rfl rfl) ?_
          refine ROps.d (r := AV.b r3) (fs := []) (Γ' := []) rfl rfl rfl (TOp.callB (CallAs.func ent98 rfl rfl) (Bors.cons (Bor.sl (fun _ => rfl)) Bors.nil) rfl rfl (f98_ok a1 r3 hf7)) rfl ?_
          refine ROps.l (r := AV.b r3) rfl rfl rfl (LOp.pick_true rfl rfl rfl) ?_
          refine ROps.l (r := AV.b r3) rfl rfl rfl (LOp.assign rfl rfl) ?_
          refine ROps.nil ?_
          refine RunC.ret ?_
          have hq := Option.some.inj h
          subst q0
          exact bodyQ.pure (.inr rfl) rfl (Res.one rfl (RV.tmp rfl))
        · refine RunC.regionW ?_
          refine ROps.l (r := AV.i64 (a0.length : Int)) rfl rfl rfl (LOp.move rfl rfl) ?_
          refine ROps.l (r := AV.b true) rfl rfl rfl (LOp.eqb (LOp.geq rfl rfl rfl) hc1) ?_
          refine ROps.l (r := AV.b true) rfl rfl rfl (LOp.move rfl rfl) ?_
          refine ROps.l (r := AV.i64 (a0.length : Int)) rfl rfl rfl (LOp.move rfl rfl) ?_
          refine ROps.l (r := AV.b true) rfl rfl rfl (LOp.eqb (LOp.leq rfl rfl rfl) hc2) ?_
          refine ROps.l (r := AV.b true) rfl rfl rfl (LOp.pick_true rfl rfl rfl) ?_
          refine ROps.l (r := AV.b true) rfl rfl rfl (LOp.move rfl rfl) ?_
          refine ROps.l (r := AV.ptr [AV.sl a0.length (a0.map AV.f32), AV.sl a1.length (a1.map AV.f32), AV.i64 a2, AV.i64 a3, AV.sl a4.length (a4.map AV.i64)]) rfl rfl rfl (LOp.move rfl rfl) ?_
          refine ROps.l (r := AV.ptr [AV.sl a0.length (a0.map AV.f32), AV.sl a1.length (a1.map AV.f32), AV.i64 a2, AV.i64 a3, AV.sl a4.length (a4.map AV.i64)]) rfl rfl rfl (LOp.nilCheck_ptr rfl rfl) ?_
          refine ROps.l (r := AV.ptr [AV.sl a1.length (a1.map AV.f32), AV.i64 a2, AV.i64 a3, AV.sl a4.length (a4.map AV.i64)]) rfl rfl rfl (LOp.fap und42 rfl siz38 rfl rfl rfl) ?_
          refine ROps.l (r := AV.sl a1.length (a1.map AV.f32)) rfl rfl rfl (LOp.load1 agg38 rfl rfl) ?_
          refine ROps.l (r := AV.i64 (a1.length : Int)) rfl rfl rfl (LOp.len_sl und38 rfl rfl) ?_
          refine ROps.l (r := AV.i64 (a0.length : Int)) rfl rfl rfl (LOp.move rfl rfl) ?_
          refine ROps.l (r := AV.i64 x1) rfl rfl rfl (LOp.eqr (LOp.sub rfl rfl rfl) (congrArg (AV.ik .i64) hx3)) ?_
          refine ROps.l (r := AV.b true) rfl rfl rfl (LOp.eqb (LOp.eql rfl rfl rfl) hc4) ?_
          refine ROps.l (r := AV.b true) rfl rfl rfl (LOp.pick_true rfl rfl rfl) ?_
          refine ROps.l (r := AV.b true) rfl rfl rfl (LOp.move rfl rfl) ?_
          refine ROps.l (r := AV.ptr [AV.sl a0.length (a0.map AV.f32), AV.sl a1.length (a1.map AV.f32), AV.i64 a2, AV.i64 a3, AV.sl a4.length (a4.map AV.i64)]) rfl rfl rfl (LOp.move rfl rfl) ?_
          refine ROps.l (r := AV.ptr [AV.sl a0.length (a0.map AV.f32), AV.sl a1.length (a1.map AV.f32), AV.i64 a2, AV.i64 a3, AV.sl a4.length (a4.map AV.i64)]) rfl rfl rfl (LOp.nilCheck_ptr rfl rfl) ?_
          refine ROps.l (r := AV.ptr [AV.sl a0.length (a0.map AV.f32), AV.sl a1.length (a1.map AV.f32), AV.i64 a2, AV.i64 a3, AV.sl a4.length (a4.map AV.i64)]) rfl rfl rfl (LOp.fap und42 rfl siz38 rfl rfl rfl) ?_
          refine ROps.l (r := AV.sl a0.length (a0.map AV.f32)) rfl rfl rfl (LOp.load1 agg38 rfl rfl) ?_
          refine ROps.d (r := AV.b false) (fs := []) (Γ' := []) rfl rfl rfl (TOp.eqb (TOp.callB (CallAs.func ent98 rfl rfl) (Bors.cons (Bor.sl (fun _ => rfl)) Bors.nil) rfl rfl (f98_ok a0 r2 hf5)) hc6) rfl ?_
          refine ROps.l (r := AV.b false) rfl rfl rfl (LOp.pick_true rfl rfl rfl) ?_
          refine ROps.l (r := AV.b false) rfl rfl rfl (LOp.move rfl rfl) ?_
          refine ROps.s rfl rfl rfl ?_
          refine ROps.s rfl rfl rfl ?_
          refine ROps.s rfl rfl rfl ?_
          refine ROps.s rfl rfl rfl ?_
          refine ROps.s rfl rfl rfl ?_
          refine ROps.l (r := AV.b false) rfl rfl rfl (LOp.pick_false rfl rfl rfl) ?_
          refine ROps.l (r := AV.b false) rfl rfl rfl (LOp.assign rfl rfl) ?_
          refine ROps.nil ?_
          refine RunC.ret ?_
          have hq := Option.some.inj h
          subst q0
          exact bodyQ.pure (.inr rfl) rfl (Res.one rfl (RV.tmp rfl))
      · refine RunC.regionW ?_
        refine ROps.l (r := AV.i64 (a0.length : Int)) rfl rfl rfl (LOp.move rfl rfl) ?_
        refine ROps.l (r := AV.b true) rfl rfl rfl (LOp.eqb (LOp.geq rfl rfl rfl) hc1) ?_
        refine ROps.l (r := AV.b true) rfl rfl rfl (LOp.move rfl rfl) ?_
        refine ROps.l (r := AV.i64 (a0.length : Int)) rfl rfl rfl (LOp.move rfl rfl) ?_
        refine ROps.l (r := AV.b true) rfl rfl rfl (LOp.eqb (LOp.leq rfl rfl rfl) hc2) ?_
        refine ROps.l (r := AV.b true) rfl rfl rfl (LOp.pick_true rfl rfl rfl) ?_
        refine ROps.l (r := AV.b true) rfl rfl rfl (LOp.move rfl rfl) ?_
        refine ROps.l (r := AV.ptr [AV.sl a0.length (a0.map AV.f32), AV.sl a1.length (a1.map AV.f32), AV.i64 a2, AV.i64 a3, AV.sl a4.length (a4.map AV.i64)]) rfl rfl rfl (LOp.move rfl rfl) ?_
        refine ROps.l (r := AV.ptr [AV.sl a0.length (a0.map AV.f32), AV.sl a1.length (a1.map AV.f32), AV.i64 a2, AV.i64 a3, AV.sl a4.length (a4.map AV.i64)]) rfl rfl rfl (LOp.nilCheck_ptr rfl rfl) ?_
        refine ROps.l (r := AV.ptr [AV.sl a1.length (a1.map AV.f32), AV.i64 a2, AV.i64 a3, AV.sl a4.length (a4.map AV.i64)]) rfl rfl rfl (LOp.fap und42 rfl siz38 rfl rfl rfl) ?_
        refine ROps.l (r := AV.sl a1.length (a1.map AV.f32)) rfl rfl rfl (LOp.load1 agg38 rfl rfl) ?_
        refine ROps.l (r := AV.i64 (a1.length : Int)) rfl rfl rfl (LOp.len_sl und38 rfl rfl) ?_
        refine ROps.l (r := AV.i64 (a0.length : Int)) rfl rfl rfl (LOp.move rfl rfl) ?_
        refine ROps.l (r := AV.i64 x1) rfl rfl rfl (LOp.eqr (LOp.sub rfl rfl rfl) (congrArg (AV.ik .i64) hx3)) ?_
        refine ROps.l (r := AV.b false) rfl rfl rfl (LOp.eqb (LOp.eql rfl rfl rfl) hc4) ?_
        refine ROps.l (r := AV.b false) rfl rfl rfl (LOp.pick_true rfl rfl rfl) ?_
        refine ROps.l (r := AV.b false) rfl rfl rfl (LOp.move rfl rfl) ?_
        refine ROps.s rfl rfl rfl ?_
        refine ROps.s rfl rfl rfl ?_
        refine ROps.s rfl rfl rfl ?_
        refine ROps.s rfl rfl rfl ?_
        refine ROps.s rfl rfl rfl ?_
        refine ROps.l (r := AV.b false) rfl rfl rfl (LOp.pick_false rfl rfl rfl) ?_
        refine ROps.l (r := AV.b false) rfl rfl rfl (LOp.move rfl rfl) ?_
        refine ROps.s rfl rfl rfl ?_
        refine ROps.s rfl rfl rfl ?_
        refine ROps.s rfl rfl rfl ?_
        refine ROps.s rfl rfl rfl ?_
        refine ROps.s rfl rfl rfl ?_
        refine ROps.l (r := AV.b false) rfl rfl rfl (LOp.pick_false rfl rfl rfl) ?_
        refine ROps.l (r := AV.b false) rfl rfl rfl (LOp.assign rfl rfl) ?_
        refine ROps.nil ?_
        refine RunC.ret ?_
        have hq := Option.some.inj h
        subst q0
        exact bodyQ.pure (.inr rfl) rfl (Res.one rfl (RV.tmp rfl))
    · refine RunC.regionW ?_
      refine ROps.l (r := AV.i64 (a0.length : Int)) rfl rfl rfl (LOp.move rfl rfl) ?_
      refine ROps.l (r := AV.b true) rfl rfl rfl (LOp.eqb (LOp.geq rfl rfl rfl) hc1) ?_
      refine ROps.l (r := AV.b true) rfl rfl rfl (LOp.move rfl rfl) ?_
      refine ROps.l (r := AV.i64 (a0.length : Int)) rfl rfl rfl (LOp.move rfl rfl) ?_
      refine ROps.l (r := AV.b false) rfl rfl rfl (LOp.eqb (LOp.leq rfl rfl rfl) hc2) ?_
      refine ROps.l (r := AV.b false) rfl rfl rfl (LOp.pick_true rfl rfl rfl) ?_
      refine ROps.l (r := AV.b false) rfl rfl rfl (LOp.move rfl rfl) ?_
      refine ROps.s rfl rfl rfl ?_
      refine ROps.s rfl rfl rfl ?_
      refine ROps.s rfl rfl rfl ?_
      refine ROps.s rfl rfl rfl ?_
      refine ROps.s rfl rfl rfl ?_
      refine ROps.s rfl rfl rfl ?_
      refine ROps.s rfl rfl rfl ?_
      refine ROps.s rfl rfl rfl ?_
      refine ROps.l (r := AV.b false) rfl rfl rfl (LOp.pick_false rfl rfl rfl) ?_
      refine ROps.l (r := AV.b false) rfl rfl rfl (LOp.move rfl rfl) ?_
      refine ROps.s rfl rfl rfl ?_
      refine ROps.s rfl rfl rfl ?_
      refine ROps.s rfl rfl rfl ?_
      refine ROps.s rfl rfl rfl ?_
      refine ROps.s rfl rfl rfl ?_
      refine ROps.l (r := AV.b false) rfl rfl rfl (LOp.pick_false rfl rfl rfl) ?_
      refine ROps.l (r := AV.b false) rfl rfl rfl (LOp.move rfl rfl) ?_
      refine ROps.s rfl rfl rfl ?_
      refine ROps.s rfl rfl rfl ?_
      refine ROps.s rfl rfl rfl ?_
      refine ROps.s rfl rfl rfl ?_
      refine ROps.s rfl rfl rfl ?_
      refine ROps.l (r := AV.b false) rfl rfl rfl (LOp.pick_false rfl rfl rfl) ?_
      refine ROps.l (r := AV.b false) rfl rfl rfl (LOp.assign rfl rfl) ?_
      refine ROps.nil ?_
      refine RunC.ret ?_
      have hq := Option.some.inj h
      subst q0
      exact bodyQ.pure (.inr rfl) rfl (Res.one rfl (RV.tmp rfl))
  · refine RunC.regionW ?_
    refine ROps.l (r := AV.i64 (a0.length : Int)) rfl rfl rfl (LOp.move rfl rfl) ?_
    refine ROps.l (r := AV.b false) rfl rfl rfl (LOp.eqb (LOp.geq rfl rfl rfl) hc1) ?_
    refine ROps.l (r := AV.b false) rfl rfl rfl (LOp.move rfl rfl) ?_
    refine ROps.s rfl rfl rfl ?_
    refine ROps.s rfl rfl rfl ?_
    refine ROps.l (r := AV.b false) rfl rfl rfl (LOp.pick_false rfl rfl rfl) ?_
    refine ROps.l (r := AV.b false) rfl rfl rfl (LOp.move rfl rfl) ?_
    refine ROps.s rfl rfl rfl ?_
    refine ROps.s rfl rfl rfl ?_
    refine ROps.s rfl rfl rfl ?_
    refine ROps.s rfl rfl rfl ?_
    refine ROps.s rfl rfl rfl ?_
    refine ROps.s rfl rfl rfl ?_
    refine ROps.s rfl rfl rfl ?_
    refine ROps.s rfl rfl rfl ?_
    refine ROps.l (r := AV.b false) rfl rfl rfl (LOp.pick_false rfl rfl rfl) ?_
    refine ROps.l (r := AV.b false) rfl rfl rfl (LOp.move rfl rfl) ?_
    refine ROps.s rfl rfl rfl ?_
    refine ROps.s rfl rfl rfl ?_
    refine ROps.s rfl rfl rfl ?_
    refine ROps.s rfl rfl rfl ?_
    refine ROps.s rfl rfl rfl ?_
    refine ROps.l (r := AV.b false) rfl rfl rfl (LOp.pick_false rfl rfl rfl) ?_
    refine ROps.l (r := AV.b false) rfl rfl rfl (LOp.move rfl rfl) ?_
    refine ROps.s rfl rfl rfl ?_
    refine ROps.s rfl rfl rfl ?_
    refine ROps.s rfl rfl rfl ?_
    refine ROps.s rfl rfl rfl ?_
    refine ROps.s rfl rfl rfl ?_
    refine ROps.l (r := AV.b false) rfl rfl rfl (LOp.pick_false rfl rfl rfl) ?_
    refine ROps.l (r := AV.b false) rfl rfl rfl (LOp.assign rfl rfl) ?_
    refine ROps.nil ?_
    refine RunC.ret ?_
    have hq := Option.some.inj h
    subst q0
    exact bodyQ.pure (.inr rfl) rfl (Res.one rfl (RV.tmp rfl))
noncomputable def f123_b1 (a0 : List Int) (a1 : Int) (v1 : Int) : Option (LR (Int) (Unit) (Bool)) :=
  bsel (decide (v1 < (a0.length : Int))) (
    obind (at? a0 v1) fun (e2 : Int) =>
    olet (IntKind.i64.wrap (0 - a1)) fun (x3 : Int) =>
    obind (f99 e2 x3 a1) fun (r4 : Bool) =>
    bsel r4 (
      olet (IntKind.i64.wrap (v1 + 1)) fun (x5 : Int) =>
      some (LR.next x5)) (
      some (LR.ret false))) (
    some (LR.out ()))
noncomputable def f123_s1 (a0 : List Int) (a1 : Int) : (Int) → Option (LR (Int) (Unit) (Bool)) := fun s => f123_b1 a0 a1 s
noncomputable def f123_k1  : Option (Bool) :=
  some true
noncomputable def f123 (a0 : List Int) (a1 : Int) : Option (Bool) :=
  obind (loopM (f123_s1 a0 a1) 0) fun z => osum z (fun _ => f123_k1) (fun r => some r)
theorem f123_ok (a0 : List Int) (a1 : Int) (q0 : Bool) (h : f123 a0 a1 = some q0) : Ev Try.prog 123 [AV.sl a0.length (a0.map AV.i64), AV.i64 a1] [] (AV.b q0) [] := by
  refine Ev.start Try.func123 rfl rfl 0 (τ := [(0, AV.sl a0.length (a0.map AV.i64)), (1, AV.i64 a1)]) rfl (Γ' := []) rfl (n := 21) rfl (g := 0) rfl ?_
  unfold f123 at h
  refine RunC.seq ?_
  refine RunC.regionW ?_
  refine ROps.l (r := AV.b false) rfl rfl rfl (LOp.assign rfl rfl) ?_
  refine ROps.nil ?_
  refine RunC.seq ?_
  refine RunC.seq ?_
  refine RunC.regionW ?_
  refine ROps.l (r := AV.i64 0) rfl rfl rfl (LOp.assign rfl rfl) ?_
  refine ROps.nil ?_
  obtain ⟨z2, hz_2, h⟩ := obind_some h
  refine RunC.cutN (fun τ Γ => WeakLe τ [] ∧ DeadLe Γ [] ∧ z2 = .inl ()) ?_ ?_
  · refine RunC.block (RunC.loop (RunL.loopM (x := z2) (f123_s1 a0 a1) (fun (s : Int) τ Γ => WeakLe τ [(0, AV.sl a0.length (a0.map AV.i64)), (1, AV.i64 a1), (5, AV.i64 s)] ∧ DeadLe Γ []) ?_ _ _ _ hz_2 ⟨⟨(ALe.refl _), (ALe.refl _), (ALe.refl _), trivial⟩, trivial⟩))
    rintro v1 τ2 Γ2 y2_ ⟨hw2, hd2⟩ h2_ ho2 hr2
    refine RunC.wl (τ' := [(0, AV.sl a0.length (a0.map AV.i64)), (1, AV.i64 a1), (5, AV.i64 v1)]) (Γ' := []) hw2 hd2 ?_
    replace h2_ : f123_b1 a0 a1 v1 = some y2_ := h2_
    unfold f123_b1 at h2_
    refine RunC.seq ?_
    refine RunC.seq ?_
    rcases bsel_some h2_ with ⟨hc1, h2_⟩ | ⟨hc1, h2_⟩
    · refine RunC.regionW ?_
      refine ROps.l (r := AV.i64 v1) rfl rfl rfl (LOp.move rfl rfl) ?_
      refine ROps.l (r := AV.sl a0.length (a0.map AV.i64)) rfl rfl rfl (LOp.move rfl rfl) ?_
      refine ROps.l (r := AV.i64 (a0.length : Int)) rfl rfl rfl (LOp.len_sl und43 rfl rfl) ?_
      refine ROps.l (r := AV.b true) rfl rfl rfl (LOp.eqb (LOp.lss rfl rfl rfl) hc1) ?_
      refine ROps.nil ?_
      refine RunC.cond_true rfl rfl ?_
      refine RunC.skip ?_
      refine RunC.seq ?_
      refine RunC.block ?_
      refine RunC.seq ?_
      obtain ⟨e2, he2, h2_⟩ := obind_some h2_
      obtain ⟨x3, hx3, h2_⟩ := olet_some h2_
      obtain ⟨r4, hf4, h2_⟩ := obind_some h2_
      rcases bsel_some h2_ with ⟨hc5, h2_⟩ | ⟨hc5, h2_⟩
      · refine RunC.regionW ?_
        refine ROps.l (r := AV.sl a0.length (a0.map AV.i64)) rfl rfl rfl (LOp.move rfl rfl) ?_
        refine ROps.l (r := AV.i64 v1) rfl rfl rfl (LOp.move rfl rfl) ?_
        refine ROps.l (r := AV.ptr [AV.i64 e2]) rfl rfl rfl (LOp.le (LOp.ix (f := AV.i64) und43 siz2 rfl rfl rfl rfl he2) ALe.ptr) ?_
        refine ROps.l (r := AV.i64 e2) rfl rfl rfl (LOp.load1 agg2 rfl rfl) ?_
        refine ROps.l (r := AV.i64 a1) rfl rfl rfl (LOp.move rfl rfl) ?_
        refine ROps.l (r := AV.i64 x3) rfl rfl rfl (LOp.eqr (LOp.neg_int rfl rfl) (congrArg (AV.ik .i64) hx3)) ?_
        refine ROps.l (r := AV.i64 a1) rfl rfl rfl (LOp.move rfl rfl) ?_
        refine ROps.d (r := AV.b true) (fs := []) (Γ' := []) rfl rfl rfl (TOp.eqb (TOp.callB (CallAs.func ent99 rfl rfl) (Bors.cons (Bor.pure rfl) (Bors.cons (Bor.pure rfl) (Bors.cons (Bor.pure rfl) Bors.nil))) rfl rfl (f99_ok e2 x3 a1 r4 hf4)) hc5) rfl ?_
        refine ROps.l (r := AV.b false) rfl rfl rfl (LOp.eqb (LOp.not rfl rfl) rfl) ?_
        refine ROps.nil ?_
        refine RunC.cond_false rfl rfl ?_
        refine RunC.skip ?_
        refine RunC.wl (τ' := [(0, AV.sl a0.length (a0.map AV.i64)), (1, AV.i64 a1), (5, AV.i64 v1)]) (Γ' := []) ⟨(ALe.refl _), (ALe.refl _), (ALe.refl _), trivial⟩ trivial ?_
        obtain ⟨x5, hx6, h2_⟩ := olet_some h2_
        refine RunC.regionW ?_
        refine ROps.l (r := AV.i64 v1) rfl rfl rfl (LOp.move rfl rfl) ?_
        refine ROps.l (r := AV.i64 x5) rfl rfl rfl (LOp.eqr (LOp.add rfl rfl rfl) (congrArg (AV.ik .i64) hx6)) ?_
        refine ROps.l (r := AV.i64 x5) rfl rfl rfl (LOp.assign rfl rfl) ?_
        refine ROps.nil ?_
        cases Option.some.inj h2_
        exact ⟨_, rfl, ⟨(ALe.refl _), (ALe.refl _), (ALe.refl _), trivial⟩, trivial⟩
      · refine RunC.regionW ?_
        refine ROps.l (r := AV.sl a0.length (a0.map AV.i64)) rfl rfl rfl (LOp.move rfl rfl) ?_
        refine ROps.l (r := AV.i64 v1) rfl rfl rfl (LOp.move rfl rfl) ?_
        refine ROps.l (r := AV.ptr [AV.i64 e2]) rfl rfl rfl (LOp.le (LOp.ix (f := AV.i64) und43 siz2 rfl rfl rfl rfl he2) ALe.ptr) ?_
        refine ROps.l (r := AV.i64 e2) rfl rfl rfl (LOp.load1 agg2 rfl rfl) ?_
        refine ROps.l (r := AV.i64 a1) rfl rfl rfl (LOp.move rfl rfl) ?_
        refine ROps.l (r := AV.i64 x3) rfl rfl rfl (LOp.eqr (LOp.neg_int rfl rfl) (congrArg (AV.ik .i64) hx3)) ?_
        refine ROps.l (r := AV.i64 a1) rfl rfl rfl (LOp.move rfl rfl) ?_
        refine ROps.d (r := AV.b false) (fs := []) (Γ' := []) rfl rfl rfl (TOp.eqb (TOp.callB (CallAs.func ent99 rfl rfl) (Bors.cons (Bor.pure rfl) (Bors.cons (Bor.pure rfl) (Bors.cons (Bor.pure rfl) Bors.nil))) rfl rfl (f99_ok e2 x3 a1 r4 hf4)) hc5) rfl ?_
        refine ROps.l (r := AV.b true) rfl rfl rfl (LOp.eqb (LOp.not rfl rfl) rfl) ?_
        refine ROps.nil ?_
        refine RunC.cond_true rfl rfl ?_
        refine RunC.seq ?_
        refine RunC.regionW ?_
        refine ROps.l (r := AV.b false) rfl rfl rfl (LOp.assign rfl rfl) ?_
        refine ROps.nil ?_
        refine RunC.ret ?_
        cases Option.some.inj h2_
        have hx3_ := hr2 _ rfl
        subst hx3_
        have hq := Option.some.inj h
        subst q0
        exact bodyQ.pure (.inr rfl) rfl (Res.one rfl (RV.tmp rfl))
    · refine RunC.regionW ?_
      refine ROps.l (r := AV.i64 v1) rfl rfl rfl (LOp.move rfl rfl) ?_
      refine ROps.l (r := AV.sl a0.length (a0.map AV.i64)) rfl rfl rfl (LOp.move rfl rfl) ?_
      refine ROps.l (r := AV.i64 (a0.length : Int)) rfl rfl rfl (LOp.len_sl und43 rfl rfl) ?_
      refine ROps.l (r := AV.b false) rfl rfl rfl (LOp.eqb (LOp.lss rfl rfl rfl) hc1) ?_
      refine ROps.nil ?_
      refine RunC.cond_false rfl rfl ?_
      refine RunC.exit ?_
      cases Option.some.inj h2_
      have hx := ho2 _ rfl
      exact ⟨trivial, trivial, hx⟩
  · rintro τ4 Γ4 ⟨hw4, hd4, rfl⟩
    refine RunC.wl (τ' := []) (Γ' := []) hw4 hd4 ?_
    replace h : f123_k1 = some q0 := h
    unfold f123_k1 at h
    refine RunC.seq ?_
    refine RunC.regionW ?_
    refine ROps.l (r := AV.b true) rfl rfl rfl (LOp.assign rfl rfl) ?_
    refine ROps.nil ?_
    refine RunC.ret ?_
    have hq := Option.some.inj h
    subst q0
    exact bodyQ.pure (.inr rfl) rfl (Res.one rfl (RV.tmp rfl))
noncomputable def f112 (a0 : Int) (a1 : Int) (a2 : List Int) (a3 : Int) : Option (Bool) :=
  obind (f99 a0 1 6) fun (r1 : Bool) =>
  bsel r1 (
    obind (f99 a1 1 6) fun (r2 : Bool) =>
    bsel r2 (
      olet (IntKind.i64.wrap (a0 * a1)) fun (x3 : Int) =>
      bsel (decide ((a2.length : Int) = x3)) (
        obind (f123 a2 a3) fun (r4 : Bool) =>
        some r4) (
        some false)) (
      some false)) (
    some false)
theorem f112_ok (a0 : Int) (a1 : Int) (a2 : List Int) (a3 : Int) (q0 : Bool) (h : f112 a0 a1 a2 a3 = some q0) : Ev Try.prog 112 [AV.ptr [AV.i64 a0, AV.i64 a1, AV.sl a2.length (a2.map AV.i64)], AV.i64 a3] [] (AV.b q0) [] := by
  refine Ev.start Try.func112 rfl rfl 0 (τ := [(0, AV.ptr [AV.i64 a0, AV.i64 a1, AV.sl a2.length (a2.map AV.i64)]), (1, AV.i64 a3)]) rfl (Γ' := []) rfl (n := 42) rfl (g := 0) rfl ?_
  unfold f112 at h
  refine RunC.seq ?_
  refine RunC.regionW ?_
  refine ROps.l (r := AV.b false) rfl rfl rfl (LOp.assign rfl rfl) ?_
  refine ROps.nil ?_
  refine RunC.seq ?_
  obtain ⟨r1, hf1, h⟩ := obind_some h
  rcases bsel_some h with ⟨hc2, h⟩ | ⟨hc2, h⟩
  · obtain ⟨r2, hf3, h⟩ := obind_some h
    rcases bsel_some h with ⟨hc4, h⟩ | ⟨hc4, h⟩
    · obtain ⟨x3, hx5, h⟩ := olet_some h
      rcases bsel_some h with ⟨hc6, h⟩ | ⟨hc6, h⟩
      · obtain ⟨r4, hf7, h⟩ := obind_some h
        refine RunC.region_draw (Γ' := []) 38 mixed 
          (TR.l (r := AV.ptr [AV.i64 a0, AV.i64 a1, AV.sl a2.length (a2.map AV.i64)]) rfl rfl (LOp.move rfl rfl) <|
          (TR.l (r := AV.ptr [AV.i64 a0, AV.i64 a1, AV.sl a2.length (a2.map AV.i64)]) rfl rfl (LOp.nilCheck_ptr rfl rfl) <|
          (TR.l (r := AV.ptr [AV.i64 a0, AV.i64 a1, AV.sl a2.length (a2.map AV.i64)]) rfl rfl (LOp.fap und45 rfl siz2 rfl rfl rfl) <|
          (TR.l (r := AV.i64 a0) rfl rfl (LOp.load1 agg2 rfl rfl) <|
          (TR.d (r := AV.b true) (fs := []) rfl rfl (TOp.eqb (TOp.callB (CallAs.func ent99 rfl rfl) (Bors.cons (Bor.pure rfl) (Bors.cons (Bor.pure rfl) (Bors.cons (Bor.pure rfl) Bors.nil))) rfl rfl (f99_ok a0 1 6 r1 hf1)) hc2) <|
          (TR.l (r := AV.b true) rfl rfl (LOp.move rfl rfl) <|
          (TR.l (r := AV.ptr [AV.i64 a0, AV.i64 a1, AV.sl a2.length (a2.map AV.i64)]) rfl rfl (LOp.move rfl rfl) <|
          (TR.l (r := AV.ptr [AV.i64 a0, AV.i64 a1, AV.sl a2.length (a2.map AV.i64)]) rfl rfl (LOp.nilCheck_ptr rfl rfl) <|
          (TR.l (r := AV.ptr [AV.i64 a1, AV.sl a2.length (a2.map AV.i64)]) rfl rfl (LOp.fap und45 rfl siz2 rfl rfl rfl) <|
          (TR.l (r := AV.i64 a1) rfl rfl (LOp.load1 agg2 rfl rfl) <|
          (TR.d (r := AV.b true) (fs := []) rfl rfl (TOp.eqb (TOp.callB (CallAs.func ent99 rfl rfl) (Bors.cons (Bor.pure rfl) (Bors.cons (Bor.pure rfl) (Bors.cons (Bor.pure rfl) Bors.nil))) rfl rfl (f99_ok a1 1 6 r2 hf3)) hc4) <|
          (TR.l (r := AV.b true) rfl rfl (LOp.pick_true rfl rfl rfl) <|
          (TR.l (r := AV.b true) rfl rfl (LOp.move rfl rfl) <|
          (TR.l (r := AV.ptr [AV.i64 a0, AV.i64 a1, AV.sl a2.length (a2.map AV.i64)]) rfl rfl (LOp.move rfl rfl) <|
          (TR.l (r := AV.ptr [AV.i64 a0, AV.i64 a1, AV.sl a2.length (a2.map AV.i64)]) rfl rfl (LOp.nilCheck_ptr rfl rfl) <|
          (TR.l (r := AV.ptr [AV.sl a2.length (a2.map AV.i64)]) rfl rfl (LOp.fap und45 rfl siz43 rfl rfl rfl) <|
          (TR.l (r := AV.sl a2.length (a2.map AV.i64)) rfl rfl (LOp.load1 agg43 rfl rfl) <|
          (TR.l (r := AV.i64 (a2.length : Int)) rfl rfl (LOp.len_sl und43 rfl rfl) <|
          (TR.l (r := AV.ptr [AV.i64 a0, AV.i64 a1, AV.sl a2.length (a2.map AV.i64)]) rfl rfl (LOp.move rfl rfl) <|
          (TR.l (r := AV.ptr [AV.i64 a0, AV.i64 a1, AV.sl a2.length (a2.map AV.i64)]) rfl rfl (LOp.nilCheck_ptr rfl rfl) <|
          (TR.l (r := AV.ptr [AV.i64 a0, AV.i64 a1, AV.sl a2.length (a2.map AV.i64)]) rfl rfl (LOp.fap und45 rfl siz2 rfl rfl rfl) <|
          (TR.l (r := AV.i64 a0) rfl rfl (LOp.load1 agg2 rfl rfl) <|
          (TR.l (r := AV.ptr [AV.i64 a0, AV.i64 a1, AV.sl a2.length (a2.map AV.i64)]) rfl rfl (LOp.move rfl rfl) <|
          (TR.l (r := AV.ptr [AV.i64 a0, AV.i64 a1, AV.sl a2.length (a2.map AV.i64)]) rfl rfl (LOp.nilCheck_ptr rfl rfl) <|
          (TR.l (r := AV.ptr [AV.i64 a1, AV.sl a2.length (a2.map AV.i64)]) rfl rfl (LOp.fap und45 rfl siz2 rfl rfl rfl) <|
          (TR.l (r := AV.i64 a1) rfl rfl (LOp.load1 agg2 rfl rfl) <|
          (TR.l (r := AV.i64 x3) rfl rfl (LOp.eqr (LOp.mul rfl rfl rfl) (congrArg (AV.ik .i64) hx5)) <|
          (TR.l (r := AV.b true) rfl rfl (LOp.eqb (LOp.eql rfl rfl rfl) hc6) <|
          (TR.l (r := AV.b true) rfl rfl (LOp.pick_true rfl rfl rfl) <|
          (TR.l (r := AV.b true) rfl rfl (LOp.move rfl rfl) <|
          (TR.l (r := AV.ptr [AV.i64 a0, AV.i64 a1, AV.sl a2.length (a2.map AV.i64)]) rfl rfl (LOp.move rfl rfl) <|
          (TR.l (r := AV.ptr [AV.i64 a0, AV.i64 a1, AV.sl a2.length (a2.map AV.i64)]) rfl rfl (LOp.nilCheck_ptr rfl rfl) <|
          (TR.l (r := AV.ptr [AV.sl a2.length (a2.map AV.i64)]) rfl rfl (LOp.fap und45 rfl siz43 rfl rfl rfl) <|
          (TR.l (r := AV.sl a2.length (a2.map AV.i64)) rfl rfl (LOp.load1 agg43 rfl rfl) <|
          (TR.l (r := AV.i64 a3) rfl rfl (LOp.move rfl rfl) <|
          (TR.d (r := AV.b r4) (fs := []) rfl rfl (TOp.callB (CallAs.func ent123 rfl rfl) (Bors.cons (Bor.sl (fun _ => rfl)) (Bors.cons (Bor.pure rfl) Bors.nil)) rfl rfl (f123_ok a2 a3 r4 hf7)) <|
          (TR.l (r := AV.b r4) rfl rfl (LOp.pick_true rfl rfl rfl) <|
          (TR.l (r := AV.b r4) rfl rfl (LOp.assign rfl rfl) <|
          TR.nil)))))))))))))))))))))))))))))))))))))) rfl (by kernel_rfl) rfl fills_nil rfl ?_
        iterate 38 refine ROps.dropS ?_
        refine ROps.drop0 ?_
        refine ROps.nil ?_
        refine RunC.ret ?_
        have hq := Option.some.inj h
        subst q0
        exact bodyQ.pure (.inr rfl) rfl (Res.one rfl (RV.tmp rfl))
      · refine RunC.region_draw (Γ' := []) 38 mixed 
          (TR.l (r := AV.ptr [AV.i64 a0, AV.i64 a1, AV.sl a2.length (a2.map AV.i64)]) rfl rfl (LOp.move rfl rfl) <|
          (TR.l (r := AV.ptr [AV.i64 a0, AV.i64 a1, AV.sl a2.length (a2.map AV.i64)]) rfl rfl (LOp.nilCheck_ptr rfl rfl) <|
          (TR.l (r := AV.ptr [AV.i64 a0, AV.i64 a1, AV.sl a2.length (a2.map AV.i64)]) rfl rfl (LOp.fap und45 rfl siz2 rfl rfl rfl) <|
          (TR.l (r := AV.i64 a0) rfl rfl (LOp.load1 agg2 rfl rfl) <|
          (TR.d (r := AV.b true) (fs := []) rfl rfl (TOp.eqb (TOp.callB (CallAs.func ent99 rfl rfl) (Bors.cons (Bor.pure rfl) (Bors.cons (Bor.pure rfl) (Bors.cons (Bor.pure rfl) Bors.nil))) rfl rfl (f99_ok a0 1 6 r1 hf1)) hc2) <|
          (TR.l (r := AV.b true) rfl rfl (LOp.move rfl rfl) <|
          (TR.l (r := AV.ptr [AV.i64 a0, AV.i64 a1, AV.sl a2.length (a2.map AV.i64)]) rfl rfl (LOp.move rfl rfl) <|
          (TR.l (r := AV.ptr [AV.i64 a0, AV.i64 a1, AV.sl a2.length (a2.map AV.i64)]) rfl rfl (LOp.nilCheck_ptr rfl rfl) <|
          (TR.l (r := AV.ptr [AV.i64 a1, AV.sl a2.length (a2.map AV.i64)]) rfl rfl (LOp.fap und45 rfl siz2 rfl rfl rfl) <|
          (TR.l (r := AV.i64 a1) rfl rfl (LOp.load1 agg2 rfl rfl) <|
          (TR.d (r := AV.b true) (fs := []) rfl rfl (TOp.eqb (TOp.callB (CallAs.func ent99 rfl rfl) (Bors.cons (Bor.pure rfl) (Bors.cons (Bor.pure rfl) (Bors.cons (Bor.pure rfl) Bors.nil))) rfl rfl (f99_ok a1 1 6 r2 hf3)) hc4) <|
          (TR.l (r := AV.b true) rfl rfl (LOp.pick_true rfl rfl rfl) <|
          (TR.l (r := AV.b true) rfl rfl (LOp.move rfl rfl) <|
          (TR.l (r := AV.ptr [AV.i64 a0, AV.i64 a1, AV.sl a2.length (a2.map AV.i64)]) rfl rfl (LOp.move rfl rfl) <|
          (TR.l (r := AV.ptr [AV.i64 a0, AV.i64 a1, AV.sl a2.length (a2.map AV.i64)]) rfl rfl (LOp.nilCheck_ptr rfl rfl) <|
          (TR.l (r := AV.ptr [AV.sl a2.length (a2.map AV.i64)]) rfl rfl (LOp.fap und45 rfl siz43 rfl rfl rfl) <|
          (TR.l (r := AV.sl a2.length (a2.map AV.i64)) rfl rfl (LOp.load1 agg43 rfl rfl) <|
          (TR.l (r := AV.i64 (a2.length : Int)) rfl rfl (LOp.len_sl und43 rfl rfl) <|
          (TR.l (r := AV.ptr [AV.i64 a0, AV.i64 a1, AV.sl a2.length (a2.map AV.i64)]) rfl rfl (LOp.move rfl rfl) <|
          (TR.l (r := AV.ptr [AV.i64 a0, AV.i64 a1, AV.sl a2.length (a2.map AV.i64)]) rfl rfl (LOp.nilCheck_ptr rfl rfl) <|
          (TR.l (r := AV.ptr [AV.i64 a0, AV.i64 a1, AV.sl a2.length (a2.map AV.i64)]) rfl rfl (LOp.fap und45 rfl siz2 rfl rfl rfl) <|
          (TR.l (r := AV.i64 a0) rfl rfl (LOp.load1 agg2 rfl rfl) <|
          (TR.l (r := AV.ptr [AV.i64 a0, AV.i64 a1, AV.sl a2.length (a2.map AV.i64)]) rfl rfl (LOp.move rfl rfl) <|
          (TR.l (r := AV.ptr [AV.i64 a0, AV.i64 a1, AV.sl a2.length (a2.map AV.i64)]) rfl rfl (LOp.nilCheck_ptr rfl rfl) <|
          (TR.l (r := AV.ptr [AV.i64 a1, AV.sl a2.length (a2.map AV.i64)]) rfl rfl (LOp.fap und45 rfl siz2 rfl rfl rfl) <|
          (TR.l (r := AV.i64 a1) rfl rfl (LOp.load1 agg2 rfl rfl) <|
          (TR.l (r := AV.i64 x3) rfl rfl (LOp.eqr (LOp.mul rfl rfl rfl) (congrArg (AV.ik .i64) hx5)) <|
          (TR.l (r := AV.b false) rfl rfl (LOp.eqb (LOp.eql rfl rfl rfl) hc6) <|
          (TR.l (r := AV.b false) rfl rfl (LOp.pick_true rfl rfl rfl) <|
          (TR.l (r := AV.b false) rfl rfl (LOp.move rfl rfl) <|
          (TR.s rfl rfl <|
          (TR.s rfl rfl <|
          (TR.s rfl rfl <|
          (TR.s rfl rfl <|
          (TR.s rfl rfl <|
          (TR.s rfl rfl <|
          (TR.l (r := AV.b false) rfl rfl (LOp.pick_false rfl rfl rfl) <|
          (TR.l (r := AV.b false) rfl rfl (LOp.assign rfl rfl) <|
          TR.nil)))))))))))))))))))))))))))))))))))))) rfl (by kernel_rfl) rfl fills_nil rfl ?_
        iterate 38 refine ROps.dropS ?_
        refine ROps.drop0 ?_
        refine ROps.nil ?_
        refine RunC.ret ?_
        have hq := Option.some.inj h
        subst q0
        exact bodyQ.pure (.inr rfl) rfl (Res.one rfl (RV.tmp rfl))
    · refine RunC.region_draw (Γ' := []) 38 mixed 
        (TR.l (r := AV.ptr [AV.i64 a0, AV.i64 a1, AV.sl a2.length (a2.map AV.i64)]) rfl rfl (LOp.move rfl rfl) <|
        (TR.l (r := AV.ptr [AV.i64 a0, AV.i64 a1, AV.sl a2.length (a2.map AV.i64)]) rfl rfl (LOp.nilCheck_ptr rfl rfl) <|
        (TR.l (r := AV.ptr [AV.i64 a0, AV.i64 a1, AV.sl a2.length (a2.map AV.i64)]) rfl rfl (LOp.fap und45 rfl siz2 rfl rfl rfl) <|
        (TR.l (r := AV.i64 a0) rfl rfl (LOp.load1 agg2 rfl rfl) <|
        (TR.d (r := AV.b true) (fs := []) rfl rfl (TOp.eqb (TOp.callB (CallAs.func ent99 rfl rfl) (Bors.cons (Bor.pure rfl) (Bors.cons (Bor.pure rfl) (Bors.cons (Bor.pure rfl) Bors.nil))) rfl rfl (f99_ok a0 1 6 r1 hf1)) hc2) <|
        (TR.l (r := AV.b true) rfl rfl (LOp.move rfl rfl) <|
        (TR.l (r := AV.ptr [AV.i64 a0, AV.i64 a1, AV.sl a2.length (a2.map AV.i64)]) rfl rfl (LOp.move rfl rfl) <|
        (TR.l (r := AV.ptr [AV.i64 a0, AV.i64 a1, AV.sl a2.length (a2.map AV.i64)]) rfl rfl (LOp.nilCheck_ptr rfl rfl) <|
        (TR.l (r := AV.ptr [AV.i64 a1, AV.sl a2.length (a2.map AV.i64)]) rfl rfl (LOp.fap und45 rfl siz2 rfl rfl rfl) <|
        (TR.l (r := AV.i64 a1) rfl rfl (LOp.load1 agg2 rfl rfl) <|
        (TR.d (r := AV.b false) (fs := []) rfl rfl (TOp.eqb (TOp.callB (CallAs.func ent99 rfl rfl) (Bors.cons (Bor.pure rfl) (Bors.cons (Bor.pure rfl) (Bors.cons (Bor.pure rfl) Bors.nil))) rfl rfl (f99_ok a1 1 6 r2 hf3)) hc4) <|
        (TR.l (r := AV.b false) rfl rfl (LOp.pick_true rfl rfl rfl) <|
        (TR.l (r := AV.b false) rfl rfl (LOp.move rfl rfl) <|
        (TR.s rfl rfl <|
        (TR.s rfl rfl <|
        (TR.s rfl rfl <|
        (TR.s rfl rfl <|
        (TR.s rfl rfl <|
        (TR.s rfl rfl <|
        (TR.s rfl rfl <|
        (TR.s rfl rfl <|
        (TR.s rfl rfl <|
        (TR.s rfl rfl <|
        (TR.s rfl rfl <|
        (TR.s rfl rfl <|
        (TR.s rfl rfl <|
        (TR.s rfl rfl <|
        (TR.s rfl rfl <|
        (TR.l (r := AV.b false) rfl rfl (LOp.pick_false rfl rfl rfl) <|
        (TR.l (r := AV.b false) rfl rfl (LOp.move rfl rfl) <|
        (TR.s rfl rfl <|
        (TR.s rfl rfl <|
        (TR.s rfl rfl <|
        (TR.s rfl rfl <|
        (TR.s rfl rfl <|
        (TR.s rfl rfl <|
        (TR.l (r := AV.b false) rfl rfl (LOp.pick_false rfl rfl rfl) <|
        (TR.l (r := AV.b false) rfl rfl (LOp.assign rfl rfl) <|
        TR.nil)))))))))))))))))))))))))))))))))))))) rfl (by kernel_rfl) rfl fills_nil rfl ?_
      iterate 38 refine ROps.dropS ?_
      refine ROps.drop0 ?_
      refine ROps.nil ?_
      refine RunC.ret ?_
      have hq := Option.some.inj h
      subst q0
      exact bodyQ.pure (.inr rfl) rfl (Res.one rfl (RV.tmp rfl))
  · refine RunC.region_draw (Γ' := []) 38 mixed 
      (TR.l (r := AV.ptr [AV.i64 a0, AV.i64 a1, AV.sl a2.length (a2.map AV.i64)]) rfl rfl (LOp.move rfl rfl) <|
      (TR.l (r := AV.ptr [AV.i64 a0, AV.i64 a1, AV.sl a2.length (a2.map AV.i64)]) rfl rfl (LOp.nilCheck_ptr rfl rfl) <|
      (TR.l (r := AV.ptr [AV.i64 a0, AV.i64 a1, AV.sl a2.length (a2.map AV.i64)]) rfl rfl (LOp.fap und45 rfl siz2 rfl rfl rfl) <|
      (TR.l (r := AV.i64 a0) rfl rfl (LOp.load1 agg2 rfl rfl) <|
      (TR.d (r := AV.b false) (fs := []) rfl rfl (TOp.eqb (TOp.callB (CallAs.func ent99 rfl rfl) (Bors.cons (Bor.pure rfl) (Bors.cons (Bor.pure rfl) (Bors.cons (Bor.pure rfl) Bors.nil))) rfl rfl (f99_ok a0 1 6 r1 hf1)) hc2) <|
      (TR.l (r := AV.b false) rfl rfl (LOp.move rfl rfl) <|
      (TR.s rfl rfl <|
      (TR.s rfl rfl <|
      (TR.s rfl rfl <|
      (TR.s rfl rfl <|
      (TR.s rfl rfl <|
      (TR.l (r := AV.b false) rfl rfl (LOp.pick_false rfl rfl rfl) <|
      (TR.l (r := AV.b false) rfl rfl (LOp.move rfl rfl) <|
      (TR.s rfl rfl <|
      (TR.s rfl rfl <|
      (TR.s rfl rfl <|
      (TR.s rfl rfl <|
      (TR.s rfl rfl <|
      (TR.s rfl rfl <|
      (TR.s rfl rfl <|
      (TR.s rfl rfl <|
      (TR.s rfl rfl <|
      (TR.s rfl rfl <|
      (TR.s rfl rfl <|
      (TR.s rfl rfl <|
      (TR.s rfl rfl <|
      (TR.s rfl rfl <|
      (TR.s rfl rfl <|
      (TR.l (r := AV.b false) rfl rfl (LOp.pick_false rfl rfl rfl) <|
      (TR.l (r := AV.b false) rfl rfl (LOp.move rfl rfl) <|
      (TR.s rfl rfl <|
      (TR.s rfl rfl <|
      (TR.s rfl rfl <|
      (TR.s rfl rfl <|
      (TR.s rfl rfl <|
      (TR.s rfl rfl <|
      (TR.l (r := AV.b false) rfl rfl (LOp.pick_false rfl rfl rfl) <|
      (TR.l (r := AV.b false) rfl rfl (LOp.assign rfl rfl) <|
      TR.nil)))))))))))))))))))))))))))))))))))))) rfl (by kernel_rfl) rfl fills_nil rfl ?_
    iterate 38 refine ROps.dropS ?_
    refine ROps.drop0 ?_
    refine ROps.nil ?_
    refine RunC.ret ?_
    have hq := Option.some.inj h
    subst q0
    exact bodyQ.pure (.inr rfl) rfl (Res.one rfl (RV.tmp rfl))
noncomputable def f79 (a0 : Int) (a1 : Int) (a2 : List F) (a3 : List F) (a4 : List F) (a5 : List F) (a6 : Int) (a7 : Int) (a8 : List Int) : Option (Bool) :=
  obind (f58 a0 a1 a2 a3 a4 a5 a6 a7 a8) fun (r1 : Bool) =>
  bsel r1 (
    obind (f110 a3) fun (r2 : Bool) =>
    bsel r2 (
      obind (f111 a4 a5 a6 a7 a8) fun (r3 : Bool) =>
      bsel r3 (
        obind (f112 a6 a7 a8 1000000) fun (r4 : Bool) =>
        some r4) (
        some false)) (
      some false)) (
    some false)
theorem f79_ok (a0 : Int) (a1 : Int) (a2 : List F) (a3 : List F) (a4 : List F) (a5 : List F) (a6 : Int) (a7 : Int) (a8 : List Int) (q0 : Bool) (h : f79 a0 a1 a2 a3 a4 a5 a6 a7 a8 = some q0) : Ev Try.prog 79 [AV.ptr [AV.i64 a0, AV.i64 a1, AV.sl a2.length (a2.map AV.f32), AV.sl a3.length (a3.map AV.f32), AV.sl a4.length (a4.map AV.f32), AV.sl a5.length (a5.map AV.f32), AV.i64 a6, AV.i64 a7, AV.sl a8.length (a8.map AV.i64)]] [] (AV.b q0) [] := by
  refine Ev.start Try.func79 rfl rfl 0 (τ := [(0, AV.ptr [AV.i64 a0, AV.i64 a1, AV.sl a2.length (a2.map AV.f32), AV.sl a3.length (a3.map AV.f32), AV.sl a4.length (a4.map AV.f32), AV.sl a5.length (a5.map AV.f32), AV.i64 a6, AV.i64 a7, AV.sl a8.length (a8.map AV.i64)])]) rfl (Γ' := []) rfl (n := 26) rfl (g := 0) rfl ?_
  unfold f79 at h
  refine RunC.seq ?_
  refine RunC.regionW ?_
  refine ROps.l (r := AV.b false) rfl rfl rfl (LOp.assign rfl rfl) ?_
  refine ROps.nil ?_
  refine RunC.seq ?_
  obtain ⟨r1, hf1, h⟩ := obind_some h
  rcases bsel_some h with ⟨hc2, h⟩ | ⟨hc2, h⟩
  · obtain ⟨r2, hf3, h⟩ := obind_some h
    rcases bsel_some h with ⟨hc4, h⟩ | ⟨hc4, h⟩
    · obtain ⟨r3, hf5, h⟩ := obind_some h
      rcases bsel_some h with ⟨hc6, h⟩ | ⟨hc6, h⟩
      · obtain ⟨r4, hf7, h⟩ := obind_some h
        refine RunC.regionW ?_
        refine ROps.l (r := AV.ptr [AV.i64 a0, AV.i64 a1, AV.sl a2.length (a2.map AV.f32), AV.sl a3.length (a3.map AV.f32), AV.sl a4.length (a4.map AV.f32), AV.sl a5.length (a5.map AV.f32), AV.i64 a6, AV.i64 a7, AV.sl a8.length (a8.map AV.i64)]) rfl rfl rfl (LOp.move rfl rfl) ?_
        refine ROps.l (r := AV.ptr [AV.i64 a0, AV.i64 a1, AV.sl a2.length (a2.map AV.f32), AV.sl a3.length (a3.map AV.f32), AV.sl a4.length (a4.map AV.f32), AV.sl a5.length (a5.map AV.f32), AV.i64 a6, AV.i64 a7, AV.sl a8.length (a8.map AV.i64)]) rfl rfl rfl (LOp.nilCheck_ptr rfl rfl) ?_
        refine ROps.l (r := AV.ptr [AV.i64 a0, AV.i64 a1, AV.sl a2.length (a2.map AV.f32), AV.sl a3.length (a3.map AV.f32), AV.sl a4.length (a4.map AV.f32), AV.sl a5.length (a5.map AV.f32), AV.i64 a6, AV.i64 a7, AV.sl a8.length (a8.map AV.i64)]) rfl rfl rfl (LOp.fap und47 rfl siz40 rfl rfl rfl) ?_
        refine ROps.d (r := AV.b true) (fs := []) (Γ' := []) rfl rfl rfl (TOp.eqb (TOp.callB (CallAs.func ent58 rfl rfl) (Bors.cons (Bor.ptr (Bors.cons (Bor.pure rfl) (Bors.cons (Bor.pure rfl) (Bors.cons (Bor.sl (fun _ => rfl)) (Bors.cons (Bor.sl (fun _ => rfl)) (Bors.cons (Bor.sl (fun _ => rfl)) (Bors.cons (Bor.sl (fun _ => rfl)) (Bors.cons (Bor.pure rfl) (Bors.cons (Bor.pure rfl) (Bors.cons (Bor.sl (fun _ => rfl)) Bors.nil)))))))))) Bors.nil) rfl rfl (f58_ok a0 a1 a2 a3 a4 a5 a6 a7 a8 r1 hf1)) hc2) rfl ?_
        refine ROps.l (r := AV.b true) rfl rfl rfl (LOp.move rfl rfl) ?_
        refine ROps.l (r := AV.ptr [AV.i64 a0, AV.i64 a1, AV.sl a2.length (a2.map AV.f32), AV.sl a3.length (a3.map AV.f32), AV.sl a4.length (a4.map AV.f32), AV.sl a5.length (a5.map AV.f32), AV.i64 a6, AV.i64 a7, AV.sl a8.length (a8.map AV.i64)]) rfl rfl rfl (LOp.move rfl rfl) ?_
        refine ROps.l (r := AV.ptr [AV.i64 a0, AV.i64 a1, AV.sl a2.length (a2.map AV.f32), AV.sl a3.length (a3.map AV.f32), AV.sl a4.length (a4.map AV.f32), AV.sl a5.length (a5.map AV.f32), AV.i64 a6, AV.i64 a7, AV.sl a8.length (a8.map AV.i64)]) rfl rfl rfl (LOp.nilCheck_ptr rfl rfl) ?_
        refine ROps.l (r := AV.ptr [AV.sl a3.length (a3.map AV.f32), AV.sl a4.length (a4.map AV.f32), AV.sl a5.length (a5.map AV.f32), AV.i64 a6, AV.i64 a7, AV.sl a8.length (a8.map AV.i64)]) rfl rfl rfl (LOp.fap und47 rfl siz38 rfl rfl rfl) ?_
        refine ROps.l (r := AV.sl a3.length (a3.map AV.f32)) rfl rfl rfl (LOp.load1 agg38 rfl rfl) ?_
        refine ROps.d (r := AV.b true) (fs := []) (Γ' := []) rfl rfl rfl (TOp.eqb (TOp.callB (CallAs.func ent110 rfl rfl) (Bors.cons (Bor.sl (fun _ => rfl)) Bors.nil) rfl rfl (f110_ok a3 r2 hf3)) hc4) rfl ?_
        refine ROps.l (r := AV.b true) rfl rfl rfl (LOp.pick_true rfl rfl rfl) ?_
        refine ROps.l (r := AV.b true) rfl rfl rfl (LOp.move rfl rfl) ?_
        refine ROps.l (r := AV.ptr [AV.i64 a0, AV.i64 a1, AV.sl a2.length (a2.map AV.f32), AV.sl a3.length (a3.map AV.f32), AV.sl a4.length (a4.map AV.f32), AV.sl a5.length (a5.map AV.f32), AV.i64 a6, AV.i64 a7, AV.sl a8.length (a8.map AV.i64)]) rfl rfl rfl (LOp.move rfl rfl) ?_
        refine ROps.l (r := AV.ptr [AV.i64 a0, AV.i64 a1, AV.sl a2.length (a2.map AV.f32), AV.sl a3.length (a3.map AV.f32), AV.sl a4.length (a4.map AV.f32), AV.sl a5.length (a5.map AV.f32), AV.i64 a6, AV.i64 a7, AV.sl a8.length (a8.map AV.i64)]) rfl rfl rfl (LOp.nilCheck_ptr rfl rfl) ?_
        refine ROps.l (r := AV.ptr [AV.sl a4.length (a4.map AV.f32), AV.sl a5.length (a5.map AV.f32), AV.i64 a6, AV.i64 a7, AV.sl a8.length (a8.map AV.i64)]) rfl rfl rfl (LOp.fap und47 rfl siz42 rfl rfl rfl) ?_
        refine ROps.d (r := AV.b true) (fs := []) (Γ' := []) rfl rfl rfl (TOp.eqb (TOp.callB (CallAs.func ent111 rfl rfl) (Bors.cons (Bor.ptr (Bors.cons (Bor.sl (fun _ => rfl)) (Bors.cons (Bor.sl (fun _ => rfl)) (Bors.cons (Bor.pure rfl) (Bors.cons (Bor.pure rfl) (Bors.cons (Bor.sl (fun _ => rfl)) Bors.nil)))))) Bors.nil) rfl rfl (f111_ok a4 a5 a6 a7 a8 r3 hf5)) hc6) rfl ?_
        refine ROps.l (r := AV.b true) rfl rfl rfl (LOp.pick_true rfl rfl rfl) ?_
        refine ROps.l (r := AV.b true) rfl rfl rfl (LOp.move rfl rfl) ?_
        refine ROps.l (r := AV.ptr [AV.i64 a0, AV.i64 a1, AV.sl a2.length (a2.map AV.f32), AV.sl a3.length (a3.map AV.f32), AV.sl a4.length (a4.map AV.f32), AV.sl a5.length (a5.map AV.f32), AV.i64 a6, AV.i64 a7, AV.sl a8.length (a8.map AV.i64)]) rfl rfl rfl (LOp.move rfl rfl) ?_
        refine ROps.l (r := AV.ptr [AV.i64 a0, AV.i64 a1, AV.sl a2.length (a2.map AV.f32), AV.sl a3.length (a3.map AV.f32), AV.sl a4.length (a4.map AV.f32), AV.sl a5.length (a5.map AV.f32), AV.i64 a6, AV.i64 a7, AV.sl a8.length (a8.map AV.i64)]) rfl rfl rfl (LOp.nilCheck_ptr rfl rfl) ?_
        refine ROps.l (r := AV.ptr [AV.i64 a6, AV.i64 a7, AV.sl a8.length (a8.map AV.i64)]) rfl rfl rfl (LOp.fap und47 rfl siz45 rfl rfl rfl) ?_
        refine ROps.d (r := AV.b r4) (fs := []) (Γ' := []) rfl rfl rfl (TOp.callB (CallAs.func ent112 rfl rfl) (Bors.cons (Bor.ptr (Bors.cons (Bor.pure rfl) (Bors.cons (Bor.pure rfl) (Bors.cons (Bor.sl (fun _ => rfl)) Bors.nil)))) (Bors.cons (Bor.pure rfl) Bors.nil)) rfl rfl (f112_ok a6 a7 a8 1000000 r4 hf7)) rfl ?_
        refine ROps.l (r := AV.b r4) rfl rfl rfl (LOp.pick_true rfl rfl rfl) ?_
        refine ROps.l (r := AV.b r4) rfl rfl rfl (LOp.assign rfl rfl) ?_
        refine ROps.nil ?_
        refine RunC.ret ?_
        have hq := Option.some.inj h
        subst q0
        exact bodyQ.pure (.inr rfl) rfl (Res.one rfl (RV.tmp rfl))
      · refine RunC.regionW ?_
        refine ROps.l (r := AV.ptr [AV.i64 a0, AV.i64 a1, AV.sl a2.length (a2.map AV.f32), AV.sl a3.length (a3.map AV.f32), AV.sl a4.length (a4.map AV.f32), AV.sl a5.length (a5.map AV.f32), AV.i64 a6, AV.i64 a7, AV.sl a8.length (a8.map AV.i64)]) rfl rfl rfl (LOp.move rfl rfl) ?_
        refine ROps.l (r := AV.ptr [AV.i64 a0, AV.i64 a1, AV.sl a2.length (a2.map AV.f32), AV.sl a3.length (a3.map AV.f32), AV.sl a4.length (a4.map AV.f32), AV.sl a5.length (a5.map AV.f32), AV.i64 a6, AV.i64 a7, AV.sl a8.length (a8.map AV.i64)]) rfl rfl rfl (LOp.nilCheck_ptr rfl rfl) ?_
        refine ROps.l (r := AV.ptr [AV.i64 a0, AV.i64 a1, AV.sl a2.length (a2.map AV.f32), AV.sl a3.length (a3.map AV.f32), AV.sl a4.length (a4.map AV.f32), AV.sl a5.length (a5.map AV.f32), AV.i64 a6, AV.i64 a7, AV.sl a8.length (a8.map AV.i64)]) rfl rfl rfl (LOp.fap und47 rfl siz40 rfl rfl rfl) ?_
        refine ROps.d (r := AV.b true) (fs := []) (Γ' := []) rfl rfl rfl (TOp.eqb (TOp.callB (CallAs.func ent58 rfl rfl) (Bors.cons (Bor.ptr (Bors.cons (Bor.pure rfl) (Bors.cons (Bor.pure rfl) (Bors.cons (Bor.sl (fun _ => rfl)) (Bors.cons (Bor.sl (fun _ => rfl)) (Bors.cons (Bor.sl (fun _ => rfl)) (Bors.cons (Bor.sl (fun _ => rfl)) (Bors.cons (Bor.pure rfl) (Bors.cons (Bor.pure rfl) (Bors.cons (Bor.sl (fun _ => rfl)) Bors.nil)))))))))) Bors.nil) rfl rfl (f58_ok a0 a1 a2 a3 a4 a5 a6 a7 a8 r1 hf1)) hc2) rfl ?_
        refine ROps.l (r := AV.b true) rfl rfl rfl (LOp.move rfl rfl) ?_
        refine ROps.l (r := AV.ptr [AV.i64 a0, AV.i64 a1, AV.sl a2.length (a2.map AV.f32), AV.sl a3.length (a3.map AV.f32), AV.sl a4.length (a4.map AV.f32), AV.sl a5.length (a5.map AV.f32), AV.i64 a6, AV.i64 a7, AV.sl a8.length (a8.map AV.i64)]) rfl rfl rfl (LOp.move rfl rfl) ?_
        refine ROps.l (r := AV.ptr [AV.i64 a0, AV.i64 a1, AV.sl a2.length (a2.map AV.f32), AV.sl a3.length (a3.map AV.f32), AV.sl a4.length (a4.map AV.f32), AV.sl a5.length (a5.map AV.f32), AV.i64 a6, AV.i64 a7, AV.sl a8.length (a8.map AV.i64)]) rfl rfl rfl (LOp.nilCheck_ptr rfl rfl) ?_
        refine ROps.l (r := AV.ptr [AV.sl a3.length (a3.map AV.f32), AV.sl a4.length (a4.map AV.f32), AV.sl a5.length (a5.map AV.f32), AV.i64 a6, AV.i64 a7, AV.sl a8.length (a8.map AV.i64)]) rfl rfl rfl (LOp.fap und47 rfl siz38 rfl rfl rfl) ?_
        refine ROps.l (r := AV.sl a3.length (a3.map AV.f32)) rfl rfl rfl (LOp.load1 agg38 rfl rfl) ?_
        refine ROps.d (r := AV.b true) (fs := []) (Γ' := []) rfl rfl rfl (TOp.eqb (TOp.callB (CallAs.func ent110 rfl rfl) (Bors.cons (Bor.sl (fun _ => rfl)) Bors.nil) rfl rfl (f110_ok a3 r2 hf3)) hc4) rfl ?_
        refine ROps.l (r := AV.b true) rfl rfl rfl (LOp.pick_true rfl rfl rfl) ?_
        refine ROps.l (r := AV.b true) rfl rfl rfl (LOp.move rfl rfl) ?_
        refine ROps.l (r := AV.ptr [AV.i64 a0, AV.i64 a1, AV.sl a2.length (a2.map AV.f32), AV.sl a3.length (a3.map AV.f32), AV.sl a4.length (a4.map AV.f32), AV.sl a5.length (a5.map AV.f32), AV.i64 a6, AV.i64 a7, AV.sl a8.length (a8.map AV.i64)]) rfl rfl rfl (LOp.move rfl rfl) ?_
        refine ROps.l (r := AV.ptr [AV.i64 a0, AV.i64 a1, AV.sl a2.length (a2.map AV.f32), AV.sl a3.length (a3.map AV.f32), AV.sl a4.length (a4.map AV.f32), AV.sl a5.length (a5.map AV.f32), AV.i64 a6, AV.i64 a7, AV.sl a8.length (a8.map AV.i64)]) rfl rfl rfl (LOp.nilCheck_ptr rfl rfl) ?_
        refine ROps.l (r := AV.ptr [AV.sl a4.length (a4.map AV.f32), AV.sl a5.length (a5.map AV.f32), AV.i64 a6, AV.i64 a7, AV.sl a8.length (a8.map AV.i64)]) rfl rfl rfl (LOp.fap und47 rfl siz42 rfl rfl rfl) ?_
        refine ROps.d (r := AV.b false) (fs := []) (Γ' := []) rfl rfl rfl (TOp.eqb (TOp.callB (CallAs.func ent111 rfl rfl) (Bors.cons (Bor.ptr (Bors.cons (Bor.sl (fun _ => rfl)) (Bors.cons (Bor.sl (fun _ => rfl)) (Bors.cons (Bor.pure rfl) (Bors.cons (Bor.pure rfl) (Bors.cons (Bor.sl (fun _ => rfl)) Bors.nil)))))) Bors.nil) rfl rfl (f111_ok a4 a5 a6 a7 a8 r3 hf5)) hc6) rfl ?_
        refine ROps.l (r := AV.b false) rfl rfl rfl (LOp.pick_true rfl rfl rfl) ?_
        refine ROps.l (r := AV.b false) rfl rfl rfl (LOp.move rfl rfl) ?_
        refine ROps.s rfl rfl rfl ?_
        refine ROps.s rfl rfl rfl ?_
        refine ROps.s rfl rfl rfl ?_
        refine ROps.s rfl rfl rfl ?_
        refine ROps.l (r := AV.b false) rfl rfl rfl (LOp.pick_false rfl rfl rfl) ?_
        refine ROps.l (r := AV.b false) rfl rfl rfl (LOp.assign rfl rfl) ?_
        refine ROps.nil ?_
        refine RunC.ret ?_
        have hq := Option.some.inj h
        subst q0
        exact bodyQ.pure (.inr rfl) rfl (Res.one rfl (RV.tmp rfl))
    · refine RunC.regionW ?_
      refine ROps.l (r := AV.ptr [AV.i64 a0, AV.i64 a1, AV.sl a2.length (a2.map AV.f32), AV.sl a3.length (a3.map AV.f32), AV.sl a4.length (a4.map AV.f32), AV.sl a5.length (a5.map AV.f32), AV.i64 a6, AV.i64 a7, AV.sl a8.length (a8.map AV.i64)]) rfl rfl rfl (LOp.move rfl rfl) ?_
      refine ROps.l (r := AV.ptr [AV.i64 a0, AV.i64 a1, AV.sl a2.length (a2.map AV.f32), AV.sl a3.length (a3.map AV.f32), AV.sl a4.length (a4.map AV.f32), AV.sl a5.length (a5.map AV.f32), AV.i64 a6, AV.i64 a7, AV.sl a8.length (a8.map AV.i64)]) rfl rfl rfl (LOp.nilCheck_ptr rfl rfl) ?_
      refine ROps.l (r := AV.ptr [AV.i64 a0, AV.i64 a1, AV.sl a2.length (a2.map AV.f32), AV.sl a3.length (a3.map AV.f32), AV.sl a4.length (a4.map AV.f32), AV.sl a5.length (a5.map AV.f32), AV.i64 a6, AV.i64 a7, AV.sl a8.length (a8.map AV.i64)]) rfl rfl rfl (LOp.fap und47 rfl siz40 rfl rfl rfl) ?_
      refine ROps.d (r := AV.b true) (fs := []) (Γ' := []) rfl rfl rfl (TOp.eqb (TOp.callB (CallAs.func ent58 rfl rfl) (Bors.cons (Bor.ptr (Bors.cons (Bor.pure rfl) (Bors.cons (Bor.pure rfl) (Bors.cons (Bor.sl (fun _ => rfl)) (Bors.cons (Bor.sl (fun _ => rfl)) (Bors.cons (Bor.sl (fun _ => rfl)) (Bors.cons (Bor.sl (fun _ => rfl)) (Bors.cons (Bor.pure rfl) (Bors.cons (Bor.pure rfl) (Bors.cons (Bor.sl (fun _ => rfl)) Bors.nil)))))))))) Bors.nil) rfl rfl (f58_ok a0 a1 a2 a3 a4 a5 a6 a7 a8 r1 hf1)) hc2) rfl ?_
      refine ROps.l (r := AV.b true) rfl rfl rfl (LOp.move rfl rfl) ?_
      refine ROps.l (r := AV.ptr [AV.i64 a0, AV.i64 a1, AV.sl a2.length (a2.map AV.f32), AV.sl a3.length (a3.map AV.f32), AV.sl a4.length (a4.map AV.f32), AV.sl a5.length (a5.map AV.f32), AV.i64 a6, AV.i64 a7, AV.sl a8.length (a8.map AV.i64)]) rfl rfl rfl (LOp.move rfl rfl) ?_
      refine ROps.l (r := AV.ptr [AV.i64 a0, AV.i64 a1, AV.sl a2.length (a2.map AV.f32), AV.sl a3.length (a3.map AV.f32), AV.sl a4.length (a4.map AV.f32), AV.sl a5.length (a5.map AV.f32), AV.i64 a6, AV.i64 a7, AV.sl a8.length (a8.map AV.i64)]) rfl rfl rfl (LOp.nilCheck_ptr rfl rfl) ?_
      refine ROps.l (r := AV.ptr [AV.sl a3.length (a3.map AV.f32), AV.sl a4.length (a4.map AV.f32), AV.sl a5.length (a5.map AV.f32), AV.i64 a6, AV.i64 a7, AV.sl a8.length (a8.map AV.i64)]) rfl rfl rfl (LOp.fap und47 rfl siz38 rfl rfl rfl) ?_
      refine ROps.l (r := AV.sl a3.length (a3.map AV.f32)) rfl rfl rfl (LOp.load1 agg38 rfl rfl) ?_
      refine ROps.d (r := AV.b false) (fs := []) (Γ' := []) rfl rfl rfl (TOp.eqb (TOp.callB (CallAs.func ent110 rfl rfl) (Bors.cons (Bor.sl (fun _ => rfl)) Bors.nil) rfl rfl (f110_ok a3 r2 hf3)) hc4) rfl ?_
      refine ROps.l (r := AV.b false) rfl rfl rfl (LOp.pick_true rfl rfl rfl) ?_
      refine ROps.l (r := AV.b false) rfl rfl rfl (LOp.move rfl rfl) ?_
      refine ROps.s rfl rfl rfl ?_
      refine ROps.s rfl rfl rfl ?_
      refine ROps.s rfl rfl rfl ?_
      refine ROps.s rfl rfl rfl ?_
      refine ROps.l (r := AV.b false) rfl rfl rfl (LOp.pick_false rfl rfl rfl) ?_
      refine ROps.l (r := AV.b false) rfl rfl rfl (LOp.move rfl rfl) ?_
      refine ROps.s rfl rfl rfl ?_
      refine ROps.s rfl rfl rfl ?_
      refine ROps.s rfl rfl rfl ?_
      refine ROps.s rfl rfl rfl ?_
      refine ROps.l (r := AV.b false) rfl rfl rfl (LOp.pick_false rfl rfl rfl) ?_
      refine ROps.l (r := AV.b false) rfl rfl rfl (LOp.assign rfl rfl) ?_
      refine ROps.nil ?_
      refine RunC.ret ?_
      have hq := Option.some.inj h
      subst q0
      exact bodyQ.pure (.inr rfl) rfl (Res.one rfl (RV.tmp rfl))
  · refine RunC.regionW ?_
    refine ROps.l (r := AV.ptr [AV.i64 a0, AV.i64 a1, AV.sl a2.length (a2.map AV.f32), AV.sl a3.length (a3.map AV.f32), AV.sl a4.length (a4.map AV.f32), AV.sl a5.length (a5.map AV.f32), AV.i64 a6, AV.i64 a7, AV.sl a8.length (a8.map AV.i64)]) rfl rfl rfl (LOp.move rfl rfl) ?_
    refine ROps.l (r := AV.ptr [AV.i64 a0, AV.i64 a1, AV.sl a2.length (a2.map AV.f32), AV.sl a3.length (a3.map AV.f32), AV.sl a4.length (a4.map AV.f32), AV.sl a5.length (a5.map AV.f32), AV.i64 a6, AV.i64 a7, AV.sl a8.length (a8.map AV.i64)]) rfl rfl rfl (LOp.nilCheck_ptr rfl rfl) ?_
    refine ROps.l (r := AV.ptr [AV.i64 a0, AV.i64 a1, AV.sl a2.length (a2.map AV.f32), AV.sl a3.length (a3.map AV.f32), AV.sl a4.length (a4.map AV.f32), AV.sl a5.length (a5.map AV.f32), AV.i64 a6, AV.i64 a7, AV.sl a8.length (a8.map AV.i64)]) rfl rfl rfl (LOp.fap und47 rfl siz40 rfl rfl rfl) ?_
    refine ROps.d (r := AV.b false) (fs := []) (Γ' := []) rfl rfl rfl (TOp.eqb (TOp.callB (CallAs.func ent58 rfl rfl) (Bors.cons (Bor.ptr (Bors.cons (Bor.pure rfl) (Bors.cons (Bor.pure rfl) (Bors.cons (Bor.sl (fun _ => rfl)) (Bors.cons (Bor.sl (fun _ => rfl)) (Bors.cons (Bor.sl (fun _ => rfl)) (Bors.cons (Bor.sl (fun _ => rfl)) (Bors.cons (Bor.pure rfl) (Bors.cons (Bor.pure rfl) (Bors.cons (Bor.sl (fun _ => rfl)) Bors.nil)))))))))) Bors.nil) rfl rfl (f58_ok a0 a1 a2 a3 a4 a5 a6 a7 a8 r1 hf1)) hc2) rfl ?_
    refine ROps.l (r := AV.b false) rfl rfl rfl (LOp.move rfl rfl) ?_
    refine ROps.s rfl rfl rfl ?_
    refine ROps.s rfl rfl rfl ?_
    refine ROps.s rfl rfl rfl ?_
    refine ROps.s rfl rfl rfl ?_
    refine ROps.s rfl rfl rfl ?_
    refine ROps.l (r := AV.b false) rfl rfl rfl (LOp.pick_false rfl rfl rfl) ?_
    refine ROps.l (r := AV.b false) rfl rfl rfl (LOp.move rfl rfl) ?_
    refine ROps.s rfl rfl rfl ?_
    refine ROps.s rfl rfl rfl ?_
    refine ROps.s rfl rfl rfl ?_
    refine ROps.s rfl rfl rfl ?_
    refine ROps.l (r := AV.b false) rfl rfl rfl (LOp.pick_false rfl rfl rfl) ?_
    refine ROps.l (r := AV.b false) rfl rfl rfl (LOp.move rfl rfl) ?_
    refine ROps.s rfl rfl rfl ?_
    refine ROps.s rfl rfl rfl ?_
    refine ROps.s rfl rfl rfl ?_
    refine ROps.s rfl rfl rfl ?_
    refine ROps.l (r := AV.b false) rfl rfl rfl (LOp.pick_false rfl rfl rfl) ?_
    refine ROps.l (r := AV.b false) rfl rfl rfl (LOp.assign rfl rfl) ?_
    refine ROps.nil ?_
    refine RunC.ret ?_
    have hq := Option.some.inj h
    subst q0
    exact bodyQ.pure (.inr rfl) rfl (Res.one rfl (RV.tmp rfl))
noncomputable def f35 (a0 : Int) (a1 : Int) (a2 : List F) (a3 : List F) (a4 : List F) (a5 : List F) (a6 : Int) (a7 : Int) (a8 : List Int) : Option (Bool) :=
  obind (f79 a0 a1 a2 a3 a4 a5 a6 a7 a8) fun (r1 : Bool) =>
  some r1
theorem f35_ok (a0 : Int) (a1 : Int) (a2 : List F) (a3 : List F) (a4 : List F) (a5 : List F) (a6 : Int) (a7 : Int) (a8 : List Int) (q0 : Bool) (h : f35 a0 a1 a2 a3 a4 a5 a6 a7 a8 = some q0) : Ev Try.prog 35 [AV.agg [AV.i64 a0, AV.i64 a1, AV.sl a2.length (a2.map AV.f32), AV.sl a3.length (a3.map AV.f32), AV.sl a4.length (a4.map AV.f32), AV.sl a5.length (a5.map AV.f32), AV.i64 a6, AV.i64 a7, AV.sl a8.length (a8.map AV.i64)]] [] (AV.b q0) [] := by
  refine Ev.start Try.func35 rfl rfl 0 (τ := [(0, AV.agg [AV.i64 a0, AV.i64 a1, AV.sl a2.length (a2.map AV.f32), AV.sl a3.length (a3.map AV.f32), AV.sl a4.length (a4.map AV.f32), AV.sl a5.length (a5.map AV.f32), AV.i64 a6, AV.i64 a7, AV.sl a8.length (a8.map AV.i64)])]) rfl (Γ' := []) rfl (n := 4) rfl (g := 0) rfl ?_
  unfold f35 at h
  refine RunC.seq ?_
  refine RunC.regionW ?_
  refine ROps.d (r := AV.ptr [AV.i64 a0, AV.i64 a1, AV.sl a2.length (a2.map AV.f32), AV.sl a3.length (a3.map AV.f32), AV.sl a4.length (a4.map AV.f32), AV.sl a5.length (a5.map AV.f32), AV.i64 a6, AV.i64 a7, AV.sl a8.length (a8.map AV.i64)]) (fs := []) (Γ' := []) rfl rfl rfl (TOp.box_s rfl rfl rfl) rfl ?_
  refine ROps.l (r := AV.b false) rfl rfl rfl (LOp.assign rfl rfl) ?_
  refine ROps.nil ?_
  refine RunC.seq ?_
  obtain ⟨r1, hf1, h⟩ := obind_some h
  refine RunC.regionW ?_
  refine ROps.d (r := AV.b r1) (fs := []) (Γ' := []) rfl rfl rfl (TOp.callB (CallAs.func ent79 rfl rfl) (Bors.cons (Bor.ptr (Bors.cons (Bor.pure rfl) (Bors.cons (Bor.pure rfl) (Bors.cons (Bor.sl (fun _ => rfl)) (Bors.cons (Bor.sl (fun _ => rfl)) (Bors.cons (Bor.sl (fun _ => rfl)) (Bors.cons (Bor.sl (fun _ => rfl)) (Bors.cons (Bor.pure rfl) (Bors.cons (Bor.pure rfl) (Bors.cons (Bor.sl (fun _ => rfl)) Bors.nil)))))))))) Bors.nil) rfl rfl (f79_ok a0 a1 a2 a3 a4 a5 a6 a7 a8 r1 hf1)) rfl ?_
  refine ROps.l (r := AV.b r1) rfl rfl rfl (LOp.assign rfl rfl) ?_
  refine ROps.nil ?_
  refine RunC.ret ?_
  have hq := Option.some.inj h
  subst q0
  exact bodyQ.pure (.inr rfl) rfl (Res.one rfl (RV.tmp rfl))
noncomputable def f103 (a0 : Int) (a1 : Int) (a2 : Int) : Option (Bool) :=
  bsel (decide (a1 ≤ a0)) (
    some (decide (a0 ≤ a2))) (
    some false)
theorem f103_ok (a0 : Int) (a1 : Int) (a2 : Int) (q0 : Bool) (h : f103 a0 a1 a2 = some q0) : Ev Try.prog 103 [AV.i64 a0, AV.i64 a1, AV.i64 a2] [] (AV.b q0) [] := by
  refine Ev.start Try.func103 rfl rfl 0 (τ := [(0, AV.i64 a0), (1, AV.i64 a1), (2, AV.i64 a2)]) rfl (Γ' := []) rfl (n := 15) rfl (g := 0) rfl ?_
  unfold f103 at h
  refine RunC.seq ?_
  refine RunC.regionW ?_
  refine ROps.l (r := AV.b false) rfl rfl rfl (LOp.assign rfl rfl) ?_
  refine ROps.nil ?_
  refine RunC.seq ?_
  rcases bsel_some h with ⟨hc1, h⟩ | ⟨hc1, h⟩
  · refine RunC.regionW ?_
    refine ROps.l (r := AV.i64 a1) rfl rfl rfl (LOp.move rfl rfl) ?_
    refine ROps.l (r := AV.i64 a0) rfl rfl rfl (LOp.move rfl rfl) ?_
    refine ROps.l (r := AV.b true) rfl rfl rfl (LOp.eqb (LOp.leq rfl rfl rfl) hc1) ?_
    refine ROps.l (r := AV.b true) rfl rfl rfl (LOp.move rfl rfl) ?_
    refine ROps.l (r := AV.i64 a0) rfl rfl rfl (LOp.move rfl rfl) ?_
    refine ROps.l (r := AV.i64 a2) rfl rfl rfl (LOp.move rfl rfl) ?_
    refine ROps.l (r := AV.b (decide (a0 ≤ a2))) rfl rfl rfl (LOp.leq rfl rfl rfl) ?_
    refine ROps.l (r := AV.b (decide (a0 ≤ a2))) rfl rfl rfl (LOp.pick_true rfl rfl rfl) ?_
    refine ROps.l (r := AV.b (decide (a0 ≤ a2))) rfl rfl rfl (LOp.assign rfl rfl) ?_
    refine ROps.nil ?_
    refine RunC.ret ?_
    have hq := Option.some.inj h
    subst q0
    exact bodyQ.pure (.inr rfl) rfl (Res.one rfl (RV.tmp rfl))
  · refine RunC.regionW ?_
    refine ROps.l (r := AV.i64 a1) rfl rfl rfl (LOp.move rfl rfl) ?_
    refine ROps.l (r := AV.i64 a0) rfl rfl rfl (LOp.move rfl rfl) ?_
    refine ROps.l (r := AV.b false) rfl rfl rfl (LOp.eqb (LOp.leq rfl rfl rfl) hc1) ?_
    refine ROps.l (r := AV.b false) rfl rfl rfl (LOp.move rfl rfl) ?_
    refine ROps.s rfl rfl rfl ?_
    refine ROps.s rfl rfl rfl ?_
    refine ROps.s rfl rfl rfl ?_
    refine ROps.l (r := AV.b false) rfl rfl rfl (LOp.pick_false rfl rfl rfl) ?_
    refine ROps.l (r := AV.b false) rfl rfl rfl (LOp.assign rfl rfl) ?_
    refine ROps.nil ?_
    refine RunC.ret ?_
    have hq := Option.some.inj h
    subst q0
    exact bodyQ.pure (.inr rfl) rfl (Res.one rfl (RV.tmp rfl))
noncomputable def f100 (a0 : Int) : Option (Bool) :=
  obind (f103 a0 1 12) fun (r1 : Bool) =>
  some r1
theorem f100_ok (a0 : Int) (q0 : Bool) (h : f100 a0 = some q0) : Ev Try.prog 100 [AV.i64 a0] [] (AV.b q0) [] := by
  refine Ev.start Try.func100 rfl rfl 0 (τ := [(0, AV.i64 a0)]) rfl (Γ' := []) rfl (n := 5) rfl (g := 0) rfl ?_
  unfold f100 at h
  refine RunC.seq ?_
  refine RunC.regionW ?_
  refine ROps.l (r := AV.b false) rfl rfl rfl (LOp.assign rfl rfl) ?_
  refine ROps.nil ?_
  refine RunC.seq ?_
  obtain ⟨r1, hf1, h⟩ := obind_some h
  refine RunC.regionW ?_
  refine ROps.l (r := AV.i64 a0) rfl rfl rfl (LOp.move rfl rfl) ?_
  refine ROps.d (r := AV.b r1) (fs := []) (Γ' := []) rfl rfl rfl (TOp.callB (CallAs.func ent103 rfl rfl) (Bors.cons (Bor.pure rfl) (Bors.cons (Bor.pure rfl) (Bors.cons (Bor.pure rfl) Bors.nil))) rfl rfl (f103_ok a0 1 12 r1 hf1)) rfl ?_
  refine ROps.l (r := AV.b r1) rfl rfl rfl (LOp.assign rfl rfl) ?_
  refine ROps.nil ?_
  refine RunC.ret ?_
  have hq := Option.some.inj h
  subst q0
  exact bodyQ.pure (.inr rfl) rfl (Res.one rfl (RV.tmp rfl))
noncomputable def f101 (a0 : List F) : Option (Int) :=
  some (a0.length : Int)
theorem f101_ok (a0 : List F) (q0 : Int) (h : f101 a0 = some q0) : Ev Try.prog 101 [AV.sl a0.length (a0.map AV.f32)] [] (AV.i64 q0) [] := by
  refine Ev.start Try.func101 rfl rfl 0 (τ := [(0, AV.sl a0.length (a0.map AV.f32))]) rfl (Γ' := []) rfl (n := 5) rfl (g := 0) rfl ?_
  unfold f101 at h
  refine RunC.seq ?_
  refine RunC.regionW ?_
  refine ROps.l (r := AV.i64 0) rfl rfl rfl (LOp.assign rfl rfl) ?_
  refine ROps.nil ?_
  refine RunC.seq ?_
  refine RunC.regionW ?_
  refine ROps.l (r := AV.sl a0.length (a0.map AV.f32)) rfl rfl rfl (LOp.move rfl rfl) ?_
  refine ROps.l (r := AV.i64 (a0.length : Int)) rfl rfl rfl (LOp.len_sl und38 rfl rfl) ?_
  refine ROps.l (r := AV.i64 (a0.length : Int)) rfl rfl rfl (LOp.assign rfl rfl) ?_
  refine ROps.nil ?_
  refine RunC.ret ?_
  have hq := Option.some.inj h
  subst q0
  exact bodyQ.pure (.inr rfl) rfl (Res.one rfl (RV.tmp rfl))
noncomputable def f136 (a0 : F) : Option (Bool) :=
  some (!feq .f64 a0 a0)
theorem f136_ok (a0 : F) (q0 : Bool) (h : f136 a0 = some q0) : Ev Try.prog 136 [AV.f64 a0] [] (AV.b q0) [] := by
  refine Ev.start Try.func136 rfl rfl 0 (τ := [(0, AV.f64 a0)]) rfl (Γ' := []) rfl (n := 6) rfl (g := 0) rfl ?_
  unfold f136 at h
  refine RunC.seq ?_
  refine RunC.regionW ?_
  refine ROps.l (r := AV.b false) rfl rfl rfl (LOp.assign rfl rfl) ?_
  refine ROps.nil ?_
  refine RunC.seq ?_
  refine RunC.regionW ?_
  refine ROps.l (r := AV.f64 a0) rfl rfl rfl (LOp.move rfl rfl) ?_
  refine ROps.l (r := AV.f64 a0) rfl rfl rfl (LOp.move rfl rfl) ?_
  refine ROps.l (r := AV.b (!feq .f64 a0 a0)) rfl rfl rfl (LOp.fne rfl (OpF.tmp rfl) (OpF.tmp rfl)) ?_
  refine ROps.l (r := AV.b (!feq .f64 a0 a0)) rfl rfl rfl (LOp.assign rfl rfl) ?_
  refine ROps.nil ?_
  refine RunC.ret ?_
  have hq := Option.some.inj h
  subst q0
  exact bodyQ.pure (.inr rfl) rfl (Res.one rfl (RV.tmp rfl))
noncomputable def f139 (a0 : F) : Option (F) :=
  olet (fabs a0) fun (x1 : F) =>
  some x1
theorem f139_ok (a0 : F) (q0 : F) (h : f139 a0 = some q0) : Ev Try.prog 139 [AV.f64 a0] [] (AV.f64 q0) [] := by
  refine Ev.start Try.func139 rfl rfl 0 (τ := [(0, AV.f64 a0)]) rfl (Γ' := []) rfl (n := 7) rfl (g := 0) rfl ?_
  unfold f139 at h
  refine RunC.seq ?_
  refine RunC.regionW ?_
  refine ROps.l (r := AV.f64 (some 0)) rfl rfl rfl (LOp.le (LOp.assign rfl rfl) (ALe.fl (by kernel_rfl) (by kernel_rfl))) ?_
  refine ROps.nil ?_
  refine RunC.seq ?_
  obtain ⟨x1, hx1, h⟩ := olet_some h
  refine RunC.regionW ?_
  refine ROps.l (r := AV.f64 a0) rfl rfl rfl (LOp.move rfl rfl) ?_
  refine ROps.l (r := AV.bt .f64 .u64 a0) rfl rfl rfl (LOp.fbits ext132 rfl (OpF.tmp rfl)) ?_
  refine ROps.l (r := AV.bt .f64 .u64 x1) rfl rfl rfl (LOp.eqr (LOp.andNot_bt rfl rfl rfl) (congrArg (AV.bt .f64 .u64) hx1)) ?_
  refine ROps.l (r := AV.f64 x1) rfl rfl rfl (LOp.ffrom ext140 rfl rfl) ?_
  refine ROps.l (r := AV.f64 x1) rfl rfl rfl (LOp.assign rfl rfl) ?_
  refine ROps.nil ?_
  refine RunC.ret ?_
  have hq := Option.some.inj h
  subst q0
  exact bodyQ.pure (.inr rfl) rfl (Res.one rfl (RV.tmp rfl))
noncomputable def f137_k1 (y3 : F) : Option (Bool) :=
  some (flt .f64 (some 9218868437227405311) y3)
noncomputable def f137 (a0 : F) (a1 : Int) : Option (Bool) :=
  bsel (decide (a1 = 0)) (
    obind (f139 a0) fun (r1 : F) =>
    f137_k1 r1) (
    bsel (decide (a1 < 0)) (
      olet (fneg .f64 a0) fun (x2 : F) =>
      f137_k1 x2) (
      f137_k1 a0))
theorem f137_ok (a0 : F) (a1 : Int) (q0 : Bool) (h : f137 a0 a1 = some q0) : Ev Try.prog 137 [AV.f64 a0, AV.i64 a1] [] (AV.b q0) [] := by
  refine Ev.start Try.func137 rfl rfl 0 (τ := [(0, AV.f64 a0), (1, AV.i64 a1)]) rfl (Γ' := []) rfl (n := 15) rfl (g := 0) rfl ?_
  unfold f137 at h
  refine RunC.seq ?_
  refine RunC.regionW ?_
  refine ROps.l (r := AV.b false) rfl rfl rfl (LOp.assign rfl rfl) ?_
  refine ROps.nil ?_
  refine RunC.seq ?_
  refine RunC.cutN (fun τ Γ => ∃ (y3 : F), WeakLe τ [(0, AV.f64 y3)] ∧ DeadLe Γ [] ∧ f137_k1 y3 = some q0) ?_ ?_
  · refine RunC.seq ?_
    rcases bsel_some h with ⟨hc1, h⟩ | ⟨hc1, h⟩
    · refine RunC.regionW ?_
      refine ROps.l (r := AV.i64 a1) rfl rfl rfl (LOp.move rfl rfl) ?_
      refine ROps.l (r := AV.b true) rfl rfl rfl (LOp.eqb (LOp.eql rfl rfl rfl) hc1) ?_
      refine ROps.nil ?_
      refine RunC.cond_true rfl rfl ?_
      obtain ⟨r1, hf2, h⟩ := obind_some h
      refine RunC.regionW ?_
      refine ROps.l (r := AV.f64 a0) rfl rfl rfl (LOp.move rfl rfl) ?_
      refine ROps.d (r := AV.f64 r1) (fs := []) (Γ' := []) rfl rfl rfl (TOp.callB (CallAs.func ent139 rfl rfl) (Bors.cons (Bor.pure rfl) Bors.nil) rfl rfl (f139_ok a0 r1 hf2)) rfl ?_
      refine ROps.l (r := AV.f64 r1) rfl rfl rfl (LOp.assign rfl rfl) ?_
      refine ROps.nil ?_
      exact ⟨r1, ⟨(ALe.refl _), trivial⟩, trivial, h⟩
    · refine RunC.regionW ?_
      refine ROps.l (r := AV.i64 a1) rfl rfl rfl (LOp.move rfl rfl) ?_
      refine ROps.l (r := AV.b false) rfl rfl rfl (LOp.eqb (LOp.eql rfl rfl rfl) hc1) ?_
      refine ROps.nil ?_
      refine RunC.cond_false rfl rfl ?_
      refine RunC.seq ?_
      rcases bsel_some h with ⟨hc3, h⟩ | ⟨hc3, h⟩
      · refine RunC.regionW ?_
        refine ROps.l (r := AV.i64 a1) rfl rfl rfl (LOp.move rfl rfl) ?_
        refine ROps.l (r := AV.b true) rfl rfl rfl (LOp.eqb (LOp.lss rfl rfl rfl) hc3) ?_
        refine ROps.nil ?_
        refine RunC.cond_true rfl rfl ?_
        obtain ⟨x2, hx4, h⟩ := olet_some h
        refine RunC.regionW ?_
        refine ROps.l (r := AV.f64 a0) rfl rfl rfl (LOp.move rfl rfl) ?_
        refine ROps.l (r := AV.f64 x2) rfl rfl rfl (LOp.eqr (LOp.fneg rfl (OpF.tmp rfl)) (congrArg (AV.f .f64) hx4)) ?_
        refine ROps.l (r := AV.f64 x2) rfl rfl rfl (LOp.assign rfl rfl) ?_
        refine ROps.nil ?_
        exact ⟨x2, ⟨(ALe.refl _), trivial⟩, trivial, h⟩
      · refine RunC.regionW ?_
        refine ROps.l (r := AV.i64 a1) rfl rfl rfl (LOp.move rfl rfl) ?_
        refine ROps.l (r := AV.b false) rfl rfl rfl (LOp.eqb (LOp.lss rfl rfl rfl) hc3) ?_
        refine ROps.nil ?_
        refine RunC.cond_false rfl rfl ?_
        refine RunC.skip ?_
        exact ⟨a0, ⟨(ALe.refl _), trivial⟩, trivial, h⟩
  · rintro τ2 Γ2 ⟨y3, hw2, hd2, h⟩
    refine RunC.wl (τ' := [(0, AV.f64 y3)]) (Γ' := []) hw2 hd2 ?_
    unfold f137_k1 at h
    refine RunC.seq ?_
    refine RunC.regionW ?_
    refine ROps.l (r := AV.f64 y3) rfl rfl rfl (LOp.move rfl rfl) ?_
    refine ROps.l (r := AV.b (flt .f64 (some 9218868437227405311) y3)) rfl rfl rfl (LOp.fgt rfl (OpF.tmp rfl) (OpF.const rfl (by kernel_rfl) (by kernel_rfl))) ?_
    refine ROps.l (r := AV.b (flt .f64 (some 9218868437227405311) y3)) rfl rfl rfl (LOp.assign rfl rfl) ?_
    refine ROps.nil ?_
    refine RunC.ret ?_
    have hq := Option.some.inj h
    subst q0
    exact bodyQ.pure (.inr rfl) rfl (Res.one rfl (RV.tmp rfl))
noncomputable def f131 (a0 : F) : Option (Bool) :=
  obind (f136 a0) fun (r1 : Bool) =>
  bsel r1 (
    some false) (
    obind (f137 a0 0) fun (r2 : Bool) =>
    some (!r2))
theorem f131_ok (a0 : F) (q0 : Bool) (h : f131 a0 = some q0) : Ev Try.prog 131 [AV.f64 a0] [] (AV.b q0) [] := by
  refine Ev.start Try.func131 rfl rfl 0 (τ := [(0, AV.f64 a0)]) rfl (Γ' := []) rfl (n := 11) rfl (g := 0) rfl ?_
  unfold f131 at h
  refine RunC.seq ?_
  refine RunC.regionW ?_
  refine ROps.l (r := AV.b false) rfl rfl rfl (LOp.assign rfl rfl) ?_
  refine ROps.nil ?_
  refine RunC.seq ?_
  obtain ⟨r1, hf1, h⟩ := obind_some h
  rcases bsel_some h with ⟨hc2, h⟩ | ⟨hc2, h⟩
  · refine RunC.regionW ?_
    refine ROps.l (r := AV.f64 a0) rfl rfl rfl (LOp.move rfl rfl) ?_
    refine ROps.d (r := AV.b true) (fs := []) (Γ' := []) rfl rfl rfl (TOp.eqb (TOp.callB (CallAs.func ent136 rfl rfl) (Bors.cons (Bor.pure rfl) Bors.nil) rfl rfl (f136_ok a0 r1 hf1)) hc2) rfl ?_
    refine ROps.l (r := AV.b false) rfl rfl rfl (LOp.eqb (LOp.not rfl rfl) rfl) ?_
    refine ROps.l (r := AV.b false) rfl rfl rfl (LOp.move rfl rfl) ?_
    refine ROps.s rfl rfl rfl ?_
    refine ROps.s rfl rfl rfl ?_
    refine ROps.s rfl rfl rfl ?_
    refine ROps.l (r := AV.b false) rfl rfl rfl (LOp.pick_false rfl rfl rfl) ?_
    refine ROps.l (r := AV.b false) rfl rfl rfl (LOp.assign rfl rfl) ?_
    refine ROps.nil ?_
    refine RunC.ret ?_
    have hq := Option.some.inj h
    subst q0
    exact bodyQ.pure (.inr rfl) rfl (Res.one rfl (RV.tmp rfl))
  · obtain ⟨r2, hf3, h⟩ := obind_some h
    refine RunC.regionW ?_
    refine ROps.l (r := AV.f64 a0) rfl rfl rfl (LOp.move rfl rfl) ?_
    refine ROps.d (r := AV.b false) (fs := []) (Γ' := []) rfl rfl rfl (TOp.eqb (TOp.callB (CallAs.func ent136 rfl rfl) (Bors.cons (Bor.pure rfl) Bors.nil) rfl rfl (f136_ok a0 r1 hf1)) hc2) rfl ?_
    refine ROps.l (r := AV.b true) rfl rfl rfl (LOp.eqb (LOp.not rfl rfl) rfl) ?_
    refine ROps.l (r := AV.b true) rfl rfl rfl (LOp.move rfl rfl) ?_
    refine ROps.l (r := AV.f64 a0) rfl rfl rfl (LOp.move rfl rfl) ?_
    refine ROps.d (r := AV.b r2) (fs := []) (Γ' := []) rfl rfl rfl (TOp.callB (CallAs.func ent137 rfl rfl) (Bors.cons (Bor.pure rfl) (Bors.cons (Bor.pure rfl) Bors.nil)) rfl rfl (f137_ok a0 0 r2 hf3)) rfl ?_
    refine ROps.l (r := AV.b (!r2)) rfl rfl rfl (LOp.not rfl rfl) ?_
    refine ROps.l (r := AV.b (!r2)) rfl rfl rfl (LOp.pick_true rfl rfl rfl) ?_
    refine ROps.l (r := AV.b (!r2)) rfl rfl rfl (LOp.assign rfl rfl) ?_
    refine ROps.nil ?_
    refine RunC.ret ?_
    have hq := Option.some.inj h
    subst q0
    exact bodyQ.pure (.inr rfl) rfl (Res.one rfl (RV.tmp rfl))
noncomputable def f121 (a0 : F) : Option (Bool) :=
  olet (fwiden a0) fun (x1 : F) =>
  obind (f131 x1) fun (r2 : Bool) =>
  some r2
theorem f121_ok (a0 : F) (q0 : Bool) (h : f121 a0 = some q0) : Ev Try.prog 121 [AV.f32 a0] [] (AV.b q0) [] := by
  refine Ev.start Try.func121 rfl rfl 0 (τ := [(0, AV.f32 a0)]) rfl (Γ' := []) rfl (n := 6) rfl (g := 0) rfl ?_
  unfold f121 at h
  refine RunC.seq ?_
  refine RunC.regionW ?_
  refine ROps.l (r := AV.b false) rfl rfl rfl (LOp.assign rfl rfl) ?_
  refine ROps.nil ?_
  refine RunC.seq ?_
  obtain ⟨x1, hx1, h⟩ := olet_some h
  obtain ⟨r2, hf2, h⟩ := obind_some h
  refine RunC.regionW ?_
  refine ROps.l (r := AV.f32 a0) rfl rfl rfl (LOp.move rfl rfl) ?_
  refine ROps.d (r := AV.f64 x1) (fs := []) (Γ' := []) rfl rfl rfl (TOp.eqr (TOp.widen (src := 34) (dst := 75) ⟨_, pun34⟩ pun75 rfl (OpF.tmp rfl)) (congrArg (AV.f .f64) hx1)) rfl ?_
  refine ROps.d (r := AV.b r2) (fs := []) (Γ' := []) rfl rfl rfl (TOp.callB (CallAs.func ent131 rfl rfl) (Bors.cons (Bor.pure rfl) Bors.nil) rfl rfl (f131_ok x1 r2 hf2)) rfl ?_
  refine ROps.l (r := AV.b r2) rfl rfl rfl (LOp.assign rfl rfl) ?_
  refine ROps.nil ?_
  refine RunC.ret ?_
  have hq := Option.some.inj h
  subst q0
  exact bodyQ.pure (.inr rfl) rfl (Res.one rfl (RV.tmp rfl))
noncomputable def f120 (a0 : F) : Option (Bool) :=
  obind (f121 a0) fun (r1 : Bool) =>
  some (!r1)
theorem f120_ok (a0 : F) (q0 : Bool) (h : f120 a0 = some q0) : Ev Try.prog 120 [AV.f32 a0] [] (AV.b q0) [] := by
  refine Ev.start Try.func120 rfl rfl 0 (τ := [(0, AV.f32 a0)]) rfl (Γ' := []) rfl (n := 6) rfl (g := 0) rfl ?_
  unfold f120 at h
  refine RunC.seq ?_
  refine RunC.regionW ?_
  refine ROps.l (r := AV.b false) rfl rfl rfl (LOp.assign rfl rfl) ?_
  refine ROps.nil ?_
  refine RunC.seq ?_
  obtain ⟨r1, hf1, h⟩ := obind_some h
  refine RunC.regionW ?_
  refine ROps.l (r := AV.f32 a0) rfl rfl rfl (LOp.move rfl rfl) ?_
  refine ROps.d (r := AV.b r1) (fs := []) (Γ' := []) rfl rfl rfl (TOp.callB (CallAs.func ent121 rfl rfl) (Bors.cons (Bor.pure rfl) Bors.nil) rfl rfl (f121_ok a0 r1 hf1)) rfl ?_
  refine ROps.l (r := AV.b (!r1)) rfl rfl rfl (LOp.not rfl rfl) ?_
  refine ROps.l (r := AV.b (!r1)) rfl rfl rfl (LOp.assign rfl rfl) ?_
  refine ROps.nil ?_
  refine RunC.ret ?_
  have hq := Option.some.inj h
  subst q0
  exact bodyQ.pure (.inr rfl) rfl (Res.one rfl (RV.tmp rfl))
noncomputable def f130_b1 (a0 : List F) (v1 : Int) : Option (LR (Int) (Unit) (Int)) :=
  bsel (decide (v1 < (a0.length : Int))) (
    obind (at? a0 v1) fun (e2 : F) =>
    obind (f120 e2) fun (r3 : Bool) =>
    bsel r3 (
      some (LR.ret v1)) (
      olet (IntKind.i64.wrap (v1 + 1)) fun (x4 : Int) =>
      some (LR.next x4))) (
    some (LR.out ()))
noncomputable def f130_s1 (a0 : List F) : (Int) → Option (LR (Int) (Unit) (Int)) := fun s => f130_b1 a0 s
noncomputable def f130_k1  : Option (Int) :=
  some (-1)
noncomputable def f130 (a0 : List F) : Option (Int) :=
  obind (loopM (f130_s1 a0) 0) fun z => osum z (fun _ => f130_k1) (fun r => some r)
theorem f130_ok (a0 : List F) (q0 : Int) (h : f130 a0 = some q0) : Ev Try.prog 130 [AV.sl a0.length (a0.map AV.f32), AV.fn (.func 120) [] []] [] (AV.i64 q0) [] := by
  refine Ev.start Try.func130 rfl rfl 0 (τ := [(0, AV.sl a0.length (a0.map AV.f32)), (1, AV.fn (.func 120) [] [])]) rfl (Γ' := []) rfl (n := 19) rfl (g := 0) rfl ?_
  unfold f130 at h
  refine RunC.seq ?_
  refine RunC.regionW ?_
  refine ROps.l (r := AV.i64 0) rfl rfl rfl (LOp.assign rfl rfl) ?_
  refine ROps.nil ?_
  refine RunC.seq ?_
  refine RunC.seq ?_
  refine RunC.regionW ?_
  refine ROps.l (r := AV.sl a0.length (a0.map AV.f32)) rfl rfl rfl (LOp.move rfl rfl) ?_
  refine ROps.l (r := AV.i64 (a0.length : Int)) rfl rfl rfl (LOp.len_sl und38 rfl rfl) ?_
  refine ROps.l (r := AV.i64 0) rfl rfl rfl (LOp.move rfl rfl) ?_
  refine ROps.nil ?_
  obtain ⟨z2, hz_2, h⟩ := obind_some h
  refine RunC.cutN (fun τ Γ => WeakLe τ [] ∧ DeadLe Γ [] ∧ z2 = .inl ()) ?_ ?_
  · refine RunC.block (RunC.loop (RunL.loopM (x := z2) (f130_s1 a0) (fun (s : Int) τ Γ => WeakLe τ [(0, AV.sl a0.length (a0.map AV.f32)), (1, AV.fn (.func 120) [] []), (7, AV.i64 (a0.length : Int)), (8, AV.i64 s)] ∧ DeadLe Γ []) ?_ _ _ _ hz_2 ⟨⟨(ALe.refl _), (ALe.refl _), (ALe.refl _), (ALe.refl _), trivial⟩, trivial⟩))
    rintro v1 τ2 Γ2 y2_ ⟨hw2, hd2⟩ h2_ ho2 hr2
    refine RunC.wl (τ' := [(0, AV.sl a0.length (a0.map AV.f32)), (1, AV.fn (.func 120) [] []), (7, AV.i64 (a0.length : Int)), (8, AV.i64 v1)]) (Γ' := []) hw2 hd2 ?_
    replace h2_ : f130_b1 a0 v1 = some y2_ := h2_
    unfold f130_b1 at h2_
    refine RunC.seq ?_
    rcases bsel_some h2_ with ⟨hc1, h2_⟩ | ⟨hc1, h2_⟩
    · refine RunC.regionW ?_
      refine ROps.l (r := AV.b true) rfl rfl rfl (LOp.eqb (LOp.lss rfl rfl rfl) hc1) ?_
      refine ROps.nil ?_
      refine RunC.seq ?_
      refine RunC.cond_true rfl rfl ?_
      refine RunC.skip ?_
      refine RunC.seq ?_
      refine RunC.block ?_
      refine RunC.seq ?_
      refine RunC.regionW ?_
      refine ROps.l (r := AV.i64 v1) rfl rfl rfl (LOp.move rfl rfl) ?_
      refine ROps.l (r := AV.i64 v1) rfl rfl rfl (LOp.assign rfl rfl) ?_
      refine ROps.nil ?_
      refine RunC.seq ?_
      obtain ⟨e2, he2, h2_⟩ := obind_some h2_
      obtain ⟨r3, hf3, h2_⟩ := obind_some h2_
      rcases bsel_some h2_ with ⟨hc4, h2_⟩ | ⟨hc4, h2_⟩
      · refine RunC.regionW ?_
        refine ROps.l (r := AV.fn (.func 120) [] []) rfl rfl rfl (LOp.move rfl rfl) ?_
        refine ROps.l (r := AV.sl a0.length (a0.map AV.f32)) rfl rfl rfl (LOp.move rfl rfl) ?_
        refine ROps.l (r := AV.i64 v1) rfl rfl rfl (LOp.move rfl rfl) ?_
        refine ROps.l (r := AV.ptr [AV.f32 e2]) rfl rfl rfl (LOp.le (LOp.ix (f := AV.f32) und38 siz34 rfl rfl rfl rfl he2) ALe.ptr) ?_
        refine ROps.l (r := AV.f32 e2) rfl rfl rfl (LOp.load1 agg34 rfl rfl) ?_
        refine ROps.d (r := AV.b true) (fs := []) (Γ' := []) rfl rfl rfl (TOp.eqb (TOp.callB (CallAs.fn ent120 rfl rfl rfl rfl) (Bors.cons (Bor.pure rfl) Bors.nil) rfl rfl (f120_ok e2 r3 hf3)) hc4) rfl ?_
        refine ROps.nil ?_
        refine RunC.cond_true rfl rfl ?_
        refine RunC.seq ?_
        refine RunC.regionW ?_
        refine ROps.l (r := AV.i64 v1) rfl rfl rfl (LOp.move rfl rfl) ?_
        refine ROps.l (r := AV.i64 v1) rfl rfl rfl (LOp.assign rfl rfl) ?_
        refine ROps.nil ?_
        refine RunC.ret ?_
        cases Option.some.inj h2_
        have hx3_ := hr2 _ rfl
        subst hx3_
        have hq := Option.some.inj h
        subst q0
        exact bodyQ.pure (.inr rfl) rfl (Res.one rfl (RV.tmp rfl))
      · refine RunC.regionW ?_
        refine ROps.l (r := AV.fn (.func 120) [] []) rfl rfl rfl (LOp.move rfl rfl) ?_
        refine ROps.l (r := AV.sl a0.length (a0.map AV.f32)) rfl rfl rfl (LOp.move rfl rfl) ?_
        refine ROps.l (r := AV.i64 v1) rfl rfl rfl (LOp.move rfl rfl) ?_
        refine ROps.l (r := AV.ptr [AV.f32 e2]) rfl rfl rfl (LOp.le (LOp.ix (f := AV.f32) und38 siz34 rfl rfl rfl rfl he2) ALe.ptr) ?_
        refine ROps.l (r := AV.f32 e2) rfl rfl rfl (LOp.load1 agg34 rfl rfl) ?_
        refine ROps.d (r := AV.b false) (fs := []) (Γ' := []) rfl rfl rfl (TOp.eqb (TOp.callB (CallAs.fn ent120 rfl rfl rfl rfl) (Bors.cons (Bor.pure rfl) Bors.nil) rfl rfl (f120_ok e2 r3 hf3)) hc4) rfl ?_
        refine ROps.nil ?_
        refine RunC.cond_false rfl rfl ?_
        refine RunC.skip ?_
        obtain ⟨x4, hx5, h2_⟩ := olet_some h2_
        refine RunC.regionW ?_
        refine ROps.l (r := AV.i64 x4) rfl rfl rfl (LOp.eqr (LOp.add rfl rfl rfl) (congrArg (AV.ik .i64) hx5)) ?_
        refine ROps.l (r := AV.i64 x4) rfl rfl rfl (LOp.move rfl rfl) ?_
        refine ROps.nil ?_
        cases Option.some.inj h2_
        exact ⟨_, rfl, ⟨(ALe.refl _), (ALe.refl _), (ALe.refl _), (ALe.refl _), trivial⟩, trivial⟩
    · refine RunC.regionW ?_
      refine ROps.l (r := AV.b false) rfl rfl rfl (LOp.eqb (LOp.lss rfl rfl rfl) hc1) ?_
      refine ROps.nil ?_
      refine RunC.seq ?_
      refine RunC.cond_false rfl rfl ?_
      refine RunC.exit ?_
      cases Option.some.inj h2_
      have hx := ho2 _ rfl
      exact ⟨trivial, trivial, hx⟩
  · rintro τ4 Γ4 ⟨hw4, hd4, rfl⟩
    refine RunC.wl (τ' := []) (Γ' := []) hw4 hd4 ?_
    replace h : f130_k1 = some q0 := h
    unfold f130_k1 at h
    refine RunC.seq ?_
    refine RunC.regionW ?_
    refine ROps.l (r := AV.i64 (-1)) rfl rfl rfl (LOp.assign rfl rfl) ?_
    refine ROps.nil ?_
    refine RunC.ret ?_
    have hq := Option.some.inj h
    subst q0
    exact bodyQ.pure (.inr rfl) rfl (Res.one rfl (RV.tmp rfl))
noncomputable def f119 (a0 : List F) : Option (Bool) :=
  obind (f130 a0) fun (r1 : Int) =>
  some (decide (0 ≤ r1))
theorem f119_ok (a0 : List F) (q0 : Bool) (h : f119 a0 = some q0) : Ev Try.prog 119 [AV.sl a0.length (a0.map AV.f32), AV.fn (.func 120) [] []] [] (AV.b q0) [] := by
  refine Ev.start Try.func119 rfl rfl 0 (τ := [(0, AV.sl a0.length (a0.map AV.f32)), (1, AV.fn (.func 120) [] [])]) rfl (Γ' := []) rfl (n := 9) rfl (g := 0) rfl ?_
  unfold f119 at h
  refine RunC.seq ?_
  refine RunC.regionW ?_
  refine ROps.l (r := AV.b false) rfl rfl rfl (LOp.assign rfl rfl) ?_
  refine ROps.nil ?_
  refine RunC.seq ?_
  obtain ⟨r1, hf1, h⟩ := obind_some h
  refine RunC.regionW ?_
  refine ROps.l (r := AV.sl a0.length (a0.map AV.f32)) rfl rfl rfl (LOp.move rfl rfl) ?_
  refine ROps.l (r := AV.fn (.func 120) [] []) rfl rfl rfl (LOp.move rfl rfl) ?_
  refine ROps.d (r := AV.i64 r1) (fs := []) (Γ' := []) rfl rfl rfl (TOp.callB (CallAs.func ent130 rfl rfl) (Bors.cons (Bor.sl (fun _ => rfl)) (Bors.cons (Bor.fn Bors.nil Bors.nil) Bors.nil)) rfl rfl (f130_ok a0 r1 hf1)) rfl ?_
  refine ROps.l (r := AV.b (decide (0 ≤ r1))) rfl rfl rfl (LOp.geq rfl rfl rfl) ?_
  refine ROps.l (r := AV.b (decide (0 ≤ r1))) rfl rfl rfl (LOp.assign rfl rfl) ?_
  refine ROps.nil ?_
  refine RunC.ret ?_
  have hq := Option.some.inj h
  subst q0
  exact bodyQ.pure (.inr rfl) rfl (Res.one rfl (RV.tmp rfl))
noncomputable def f102 (a0 : List F) : Option (Bool) :=
  obind (f119 a0) fun (r1 : Bool) =>
  some (!r1)
theorem f102_ok (a0 : List F) (q0 : Bool) (h : f102 a0 = some q0) : Ev Try.prog 102 [AV.sl a0.length (a0.map AV.f32)] [] (AV.b q0) [] := by
  refine Ev.start Try.func102 rfl rfl 0 (τ := [(0, AV.sl a0.length (a0.map AV.f32))]) rfl (Γ' := []) rfl (n := 6) rfl (g := 0) rfl ?_
  unfold f102 at h
  refine RunC.seq ?_
  refine RunC.regionW ?_
  refine ROps.l (r := AV.b false) rfl rfl rfl (LOp.assign rfl rfl) ?_
  refine ROps.nil ?_
  refine RunC.seq ?_
  obtain ⟨r1, hf1, h⟩ := obind_some h
  refine RunC.regionW ?_
  refine ROps.l (r := AV.sl a0.length (a0.map AV.f32)) rfl rfl rfl (LOp.move rfl rfl) ?_
  refine ROps.d (r := AV.b r1) (fs := []) (Γ' := []) rfl rfl rfl (TOp.callB (CallAs.func ent119 rfl rfl) (Bors.cons (Bor.sl (fun _ => rfl)) (Bors.cons (Bor.fn Bors.nil Bors.nil) Bors.nil)) rfl rfl (f119_ok a0 r1 hf1)) rfl ?_
  refine ROps.l (r := AV.b (!r1)) rfl rfl rfl (LOp.not rfl rfl) ?_
  refine ROps.l (r := AV.b (!r1)) rfl rfl rfl (LOp.assign rfl rfl) ?_
  refine ROps.nil ?_
  refine RunC.ret ?_
  have hq := Option.some.inj h
  subst q0
  exact bodyQ.pure (.inr rfl) rfl (Res.one rfl (RV.tmp rfl))
noncomputable def f62 (a0 : Int) (a1 : Int) (a2 : List F) : Option (Bool) :=
  obind (f100 a0) fun (r1 : Bool) =>
  bsel r1 (
    obind (f100 a1) fun (r2 : Bool) =>
    bsel r2 (
      obind (f101 a2) fun (r3 : Int) =>
      olet (IntKind.i64.wrap (a0 * a1)) fun (x4 : Int) =>
      bsel (decide (r3 = x4)) (
        obind (f102 a2) fun (r5 : Bool) =>
        some r5) (
        some false)) (
      some false)) (
    some false)
theorem f62_ok (a0 : Int) (a1 : Int) (a2 : List F) (q0 : Bool) (h : f62 a0 a1 a2 = some q0) : Ev Try.prog 62 [AV.agg [AV.i64 a0, AV.i64 a1, AV.sl a2.length (a2.map AV.f32)]] [] (AV.b q0) [] := by
  refine Ev.start Try.func62 rfl rfl 0 (τ := [(0, AV.agg [AV.i64 a0, AV.i64 a1, AV.sl a2.length (a2.map AV.f32)])]) rfl (Γ' := []) rfl (n := 27) rfl (g := 0) rfl ?_
  unfold f62 at h
  refine RunC.seq ?_
  refine RunC.regionW ?_
  refine ROps.d (r := AV.ptr [AV.i64 a0, AV.i64 a1, AV.sl a2.length (a2.map AV.f32)]) (fs := []) (Γ' := []) rfl rfl rfl (TOp.box_s rfl rfl rfl) rfl ?_
  refine ROps.l (r := AV.b false) rfl rfl rfl (LOp.assign rfl rfl) ?_
  refine ROps.nil ?_
  refine RunC.seq ?_
  obtain ⟨r1, hf1, h⟩ := obind_some h
  rcases bsel_some h with ⟨hc2, h⟩ | ⟨hc2, h⟩
  · obtain ⟨r2, hf3, h⟩ := obind_some h
    rcases bsel_some h with ⟨hc4, h⟩ | ⟨hc4, h⟩
    · obtain ⟨r3, hf5, h⟩ := obind_some h
      obtain ⟨x4, hx6, h⟩ := olet_some h
      rcases bsel_some h with ⟨hc7, h⟩ | ⟨hc7, h⟩
      · obtain ⟨r5, hf8, h⟩ := obind_some h
        refine RunC.region_draw (Γ' := []) 25 mixed 
          (TR.l (r := AV.ptr [AV.i64 a0, AV.i64 a1, AV.sl a2.length (a2.map AV.f32)]) rfl rfl (LOp.fap und40 rfl siz2 rfl rfl rfl) <|
          (TR.l (r := AV.i64 a0) rfl rfl (LOp.load1 agg2 rfl rfl) <|
          (TR.d (r := AV.b true) (fs := []) rfl rfl (TOp.eqb (TOp.callB (CallAs.func ent100 rfl rfl) (Bors.cons (Bor.pure rfl) Bors.nil) rfl rfl (f100_ok a0 r1 hf1)) hc2) <|
          (TR.l (r := AV.b true) rfl rfl (LOp.move rfl rfl) <|
          (TR.l (r := AV.ptr [AV.i64 a1, AV.sl a2.length (a2.map AV.f32)]) rfl rfl (LOp.fap und40 rfl siz2 rfl rfl rfl) <|
          (TR.l (r := AV.i64 a1) rfl rfl (LOp.load1 agg2 rfl rfl) <|
          (TR.d (r := AV.b true) (fs := []) rfl rfl (TOp.eqb (TOp.callB (CallAs.func ent100 rfl rfl) (Bors.cons (Bor.pure rfl) Bors.nil) rfl rfl (f100_ok a1 r2 hf3)) hc4) <|
          (TR.l (r := AV.b true) rfl rfl (LOp.pick_true rfl rfl rfl) <|
          (TR.l (r := AV.b true) rfl rfl (LOp.move rfl rfl) <|
          (TR.l (r := AV.ptr [AV.sl a2.length (a2.map AV.f32)]) rfl rfl (LOp.fap und40 rfl siz38 rfl rfl rfl) <|
          (TR.l (r := AV.sl a2.length (a2.map AV.f32)) rfl rfl (LOp.load1 agg38 rfl rfl) <|
          (TR.d (r := AV.i64 r3) (fs := []) rfl rfl (TOp.callB (CallAs.func ent101 rfl rfl) (Bors.cons (Bor.sl (fun _ => rfl)) Bors.nil) rfl rfl (f101_ok a2 r3 hf5)) <|
          (TR.l (r := AV.ptr [AV.i64 a0, AV.i64 a1, AV.sl a2.length (a2.map AV.f32)]) rfl rfl (LOp.fap und40 rfl siz2 rfl rfl rfl) <|
          (TR.l (r := AV.i64 a0) rfl rfl (LOp.load1 agg2 rfl rfl) <|
          (TR.l (r := AV.ptr [AV.i64 a1, AV.sl a2.length (a2.map AV.f32)]) rfl rfl (LOp.fap und40 rfl siz2 rfl rfl rfl) <|
          (TR.l (r := AV.i64 a1) rfl rfl (LOp.load1 agg2 rfl rfl) <|
          (TR.l (r := AV.i64 x4) rfl rfl (LOp.eqr (LOp.mul rfl rfl rfl) (congrArg (AV.ik .i64) hx6)) <|
          (TR.l (r := AV.b true) rfl rfl (LOp.eqb (LOp.eql rfl rfl rfl) hc7) <|
          (TR.l (r := AV.b true) rfl rfl (LOp.pick_true rfl rfl rfl) <|
          (TR.l (r := AV.b true) rfl rfl (LOp.move rfl rfl) <|
          (TR.l (r := AV.ptr [AV.sl a2.length (a2.map AV.f32)]) rfl rfl (LOp.fap und40 rfl siz38 rfl rfl rfl) <|
          (TR.l (r := AV.sl a2.length (a2.map AV.f32)) rfl rfl (LOp.load1 agg38 rfl rfl) <|
          (TR.d (r := AV.b r5) (fs := []) rfl rfl (TOp.callB (CallAs.func ent102 rfl rfl) (Bors.cons (Bor.sl (fun _ => rfl)) Bors.nil) rfl rfl (f102_ok a2 r5 hf8)) <|
          (TR.l (r := AV.b r5) rfl rfl (LOp.pick_true rfl rfl rfl) <|
          (TR.l (r := AV.b r5) rfl rfl (LOp.assign rfl rfl) <|
          TR.nil))))))))))))))))))))))))) rfl (by kernel_rfl) rfl fills_nil rfl ?_
        iterate 25 refine ROps.dropS ?_
        refine ROps.drop0 ?_
        refine ROps.nil ?_
        refine RunC.ret ?_
        have hq := Option.some.inj h
        subst q0
        exact bodyQ.pure (.inr rfl) rfl (Res.one rfl (RV.tmp rfl))
      · refine RunC.region_draw (Γ' := []) 25 mixed 
          (TR.l (r := AV.ptr [AV.i64 a0, AV.i64 a1, AV.sl a2.length (a2.map AV.f32)]) rfl rfl (LOp.fap und40 rfl siz2 rfl rfl rfl) <|
          (TR.l (r := AV.i64 a0) rfl rfl (LOp.load1 agg2 rfl rfl) <|
          (TR.d (r := AV.b true) (fs := []) rfl rfl (TOp.eqb (TOp.callB (CallAs.func ent100 rfl rfl) (Bors.cons (Bor.pure rfl) Bors.nil) rfl rfl (f100_ok a0 r1 hf1)) hc2) <|
          (TR.l (r := AV.b true) rfl rfl (LOp.move rfl rfl) <|
          (TR.l (r := AV.ptr [AV.i64 a1, AV.sl a2.length (a2.map AV.f32)]) rfl rfl (LOp.fap und40 rfl siz2 rfl rfl rfl) <|
          (TR.l (r := AV.i64 a1) rfl rfl (LOp.load1 agg2 rfl rfl) <|
          (TR.d (r := AV.b true) (fs := []) rfl rfl (TOp.eqb (TOp.callB (CallAs.func ent100 rfl rfl) (Bors.cons (Bor.pure rfl) Bors.nil) rfl rfl (f100_ok a1 r2 hf3)) hc4) <|
          (TR.l (r := AV.b true) rfl rfl (LOp.pick_true rfl rfl rfl) <|
          (TR.l (r := AV.b true) rfl rfl (LOp.move rfl rfl) <|
          (TR.l (r := AV.ptr [AV.sl a2.length (a2.map AV.f32)]) rfl rfl (LOp.fap und40 rfl siz38 rfl rfl rfl) <|
          (TR.l (r := AV.sl a2.length (a2.map AV.f32)) rfl rfl (LOp.load1 agg38 rfl rfl) <|
          (TR.d (r := AV.i64 r3) (fs := []) rfl rfl (TOp.callB (CallAs.func ent101 rfl rfl) (Bors.cons (Bor.sl (fun _ => rfl)) Bors.nil) rfl rfl (f101_ok a2 r3 hf5)) <|
          (TR.l (r := AV.ptr [AV.i64 a0, AV.i64 a1, AV.sl a2.length (a2.map AV.f32)]) rfl rfl (LOp.fap und40 rfl siz2 rfl rfl rfl) <|
          (TR.l (r := AV.i64 a0) rfl rfl (LOp.load1 agg2 rfl rfl) <|
          (TR.l (r := AV.ptr [AV.i64 a1, AV.sl a2.length (a2.map AV.f32)]) rfl rfl (LOp.fap und40 rfl siz2 rfl rfl rfl) <|
          (TR.l (r := AV.i64 a1) rfl rfl (LOp.load1 agg2 rfl rfl) <|
          (TR.l (r := AV.i64 x4) rfl rfl (LOp.eqr (LOp.mul rfl rfl rfl) (congrArg (AV.ik .i64) hx6)) <|
          (TR.l (r := AV.b false) rfl rfl (LOp.eqb (LOp.eql rfl rfl rfl) hc7) <|
          (TR.l (r := AV.b false) rfl rfl (LOp.pick_true rfl rfl rfl) <|
          (TR.l (r := AV.b false) rfl rfl (LOp.move rfl rfl) <|
          (TR.s rfl rfl <|
          (TR.s rfl rfl <|
          (TR.s rfl rfl <|
          (TR.l (r := AV.b false) rfl rfl (LOp.pick_false rfl rfl rfl) <|
          (TR.l (r := AV.b false) rfl rfl (LOp.assign rfl rfl) <|
          TR.nil))))))))))))))))))))))))) rfl (by kernel_rfl) rfl fills_nil rfl ?_
        iterate 25 refine ROps.dropS ?_
        refine ROps.drop0 ?_
        refine ROps.nil ?_
        refine RunC.ret ?_
        have hq := Option.some.inj h
        subst q0
        exact bodyQ.pure (.inr rfl) rfl (Res.one rfl (RV.tmp rfl))
    · refine RunC.region_draw (Γ' := []) 25 mixed 
        (TR.l (r := AV.ptr [AV.i64 a0, AV.i64 a1, AV.sl a2.length (a2.map AV.f32)]) rfl rfl (LOp.fap und40 rfl siz2 rfl rfl rfl) <|
        (TR.l (r := AV.i64 a0) rfl rfl (LOp.load1 agg2 rfl rfl) <|
        (TR.d (r := AV.b true) (fs := []) rfl rfl (TOp.eqb (TOp.callB (CallAs.func ent100 rfl rfl) (Bors.cons (Bor.pure rfl) Bors.nil) rfl rfl (f100_ok a0 r1 hf1)) hc2) <|
        (TR.l (r := AV.b true) rfl rfl (LOp.move rfl rfl) <|
        (TR.l (r := AV.ptr [AV.i64 a1, AV.sl a2.length (a2.map AV.f32)]) rfl rfl (LOp.fap und40 rfl siz2 rfl rfl rfl) <|
        (TR.l (r := AV.i64 a1) rfl rfl (LOp.load1 agg2 rfl rfl) <|
        (TR.d (r := AV.b false) (fs := []) rfl rfl (TOp.eqb (TOp.callB (CallAs.func ent100 rfl rfl) (Bors.cons (Bor.pure rfl) Bors.nil) rfl rfl (f100_ok a1 r2 hf3)) hc4) <|
        (TR.l (r := AV.b false) rfl rfl (LOp.pick_true rfl rfl rfl) <|
        (TR.l (r := AV.b false) rfl rfl (LOp.move rfl rfl) <|
        (TR.s rfl rfl <|
        (TR.s rfl rfl <|
        (TR.s rfl rfl <|
        (TR.s rfl rfl <|
        (TR.s rfl rfl <|
        (TR.s rfl rfl <|
        (TR.s rfl rfl <|
        (TR.s rfl rfl <|
        (TR.s rfl rfl <|
        (TR.l (r := AV.b false) rfl rfl (LOp.pick_false rfl rfl rfl) <|
        (TR.l (r := AV.b false) rfl rfl (LOp.move rfl rfl) <|
        (TR.s rfl rfl <|
        (TR.s rfl rfl <|
        (TR.s rfl rfl <|
        (TR.l (r := AV.b false) rfl rfl (LOp.pick_false rfl rfl rfl) <|
        (TR.l (r := AV.b false) rfl rfl (LOp.assign rfl rfl) <|
        TR.nil))))))))))))))))))))))))) rfl (by kernel_rfl) rfl fills_nil rfl ?_
      iterate 25 refine ROps.dropS ?_
      refine ROps.drop0 ?_
      refine ROps.nil ?_
      refine RunC.ret ?_
      have hq := Option.some.inj h
      subst q0
      exact bodyQ.pure (.inr rfl) rfl (Res.one rfl (RV.tmp rfl))
  · refine RunC.region_draw (Γ' := []) 25 mixed 
      (TR.l (r := AV.ptr [AV.i64 a0, AV.i64 a1, AV.sl a2.length (a2.map AV.f32)]) rfl rfl (LOp.fap und40 rfl siz2 rfl rfl rfl) <|
      (TR.l (r := AV.i64 a0) rfl rfl (LOp.load1 agg2 rfl rfl) <|
      (TR.d (r := AV.b false) (fs := []) rfl rfl (TOp.eqb (TOp.callB (CallAs.func ent100 rfl rfl) (Bors.cons (Bor.pure rfl) Bors.nil) rfl rfl (f100_ok a0 r1 hf1)) hc2) <|
      (TR.l (r := AV.b false) rfl rfl (LOp.move rfl rfl) <|
      (TR.s rfl rfl <|
      (TR.s rfl rfl <|
      (TR.s rfl rfl <|
      (TR.l (r := AV.b false) rfl rfl (LOp.pick_false rfl rfl rfl) <|
      (TR.l (r := AV.b false) rfl rfl (LOp.move rfl rfl) <|
      (TR.s rfl rfl <|
      (TR.s rfl rfl <|
      (TR.s rfl rfl <|
      (TR.s rfl rfl <|
      (TR.s rfl rfl <|
      (TR.s rfl rfl <|
      (TR.s rfl rfl <|
      (TR.s rfl rfl <|
      (TR.s rfl rfl <|
      (TR.l (r := AV.b false) rfl rfl (LOp.pick_false rfl rfl rfl) <|
      (TR.l (r := AV.b false) rfl rfl (LOp.move rfl rfl) <|
      (TR.s rfl rfl <|
      (TR.s rfl rfl <|
      (TR.s rfl rfl <|
      (TR.l (r := AV.b false) rfl rfl (LOp.pick_false rfl rfl rfl) <|
      (TR.l (r := AV.b false) rfl rfl (LOp.assign rfl rfl) <|
      TR.nil))))))))))))))))))))))))) rfl (by kernel_rfl) rfl fills_nil rfl ?_
    iterate 25 refine ROps.dropS ?_
    refine ROps.drop0 ?_
    refine ROps.nil ?_
    refine RunC.ret ?_
    have hq := Option.some.inj h
    subst q0
    exact bodyQ.pure (.inr rfl) rfl (Res.one rfl (RV.tmp rfl))
noncomputable def f80 (a0 : List F) : Option (Bool) :=
  obind (f101 a0) fun (r1 : Int) =>
  obind (f103 r1 1 256) fun (r2 : Bool) =>
  bsel r2 (
    obind (f102 a0) fun (r3 : Bool) =>
    some r3) (
    some false)
theorem f80_ok (a0 : List F) (q0 : Bool) (h : f80 a0 = some q0) : Ev Try.prog 80 [AV.sl a0.length (a0.map AV.f32)] [] (AV.b q0) [] := by
  refine Ev.start Try.func80 rfl rfl 0 (τ := [(0, AV.sl a0.length (a0.map AV.f32))]) rfl (Γ' := []) rfl (n := 10) rfl (g := 0) rfl ?_
  unfold f80 at h
  refine RunC.seq ?_
  refine RunC.regionW ?_
  refine ROps.l (r := AV.b false) rfl rfl rfl (LOp.assign rfl rfl) ?_
  refine ROps.nil ?_
  refine RunC.seq ?_
  obtain ⟨r1, hf1, h⟩ := obind_some h
  obtain ⟨r2, hf2, h⟩ := obind_some h
  rcases bsel_some h with ⟨hc3, h⟩ | ⟨hc3, h⟩
  · obtain ⟨r3, hf4, h⟩ := obind_some h
    refine RunC.regionW ?_
    refine ROps.l (r := AV.sl a0.length (a0.map AV.f32)) rfl rfl rfl (LOp.move rfl rfl) ?_
    refine ROps.d (r := AV.i64 r1) (fs := []) (Γ' := []) rfl rfl rfl (TOp.callB (CallAs.func ent101 rfl rfl) (Bors.cons (Bor.sl (fun _ => rfl)) Bors.nil) rfl rfl (f101_ok a0 r1 hf1)) rfl ?_
    refine ROps.d (r := AV.b true) (fs := []) (Γ' := []) rfl rfl rfl (TOp.eqb (TOp.callB (CallAs.func ent103 rfl rfl) (Bors.cons (Bor.pure rfl) (Bors.cons (Bor.pure rfl) (Bors.cons (Bor.pure rfl) Bors.nil))) rfl rfl (f103_ok r1 1 256 r2 hf2)) hc3) rfl ?_
    refine ROps.l (r := AV.b true) rfl rfl rfl (LOp.move rfl rfl) ?_
    refine ROps.l (r := AV.sl a0.length (a0.map AV.f32)) rfl rfl rfl (LOp.move rfl rfl) ?_
    refine ROps.d (r := AV.b r3) (fs := []) (Γ' := []) rfl rfl rfl (TOp.callB (CallAs.func ent102 rfl rfl) (Bors.cons (Bor.sl (fun _ => rfl)) Bors.nil) rfl rfl (f102_ok a0 r3 hf4)) rfl ?_
    refine ROps.l (r := AV.b r3) rfl rfl rfl (LOp.pick_true rfl rfl rfl) ?_
    refine ROps.l (r := AV.b r3) rfl rfl rfl (LOp.assign rfl rfl) ?_
    refine ROps.nil ?_
    refine RunC.ret ?_
    have hq := Option.some.inj h
    subst q0
    exact bodyQ.pure (.inr rfl) rfl (Res.one rfl (RV.tmp rfl))
  · refine RunC.regionW ?_
    refine ROps.l (r := AV.sl a0.length (a0.map AV.f32)) rfl rfl rfl (LOp.move rfl rfl) ?_
    refine ROps.d (r := AV.i64 r1) (fs := []) (Γ' := []) rfl rfl rfl (TOp.callB (CallAs.func ent101 rfl rfl) (Bors.cons (Bor.sl (fun _ => rfl)) Bors.nil) rfl rfl (f101_ok a0 r1 hf1)) rfl ?_
    refine ROps.d (r := AV.b false) (fs := []) (Γ' := []) rfl rfl rfl (TOp.eqb (TOp.callB (CallAs.func ent103 rfl rfl) (Bors.cons (Bor.pure rfl) (Bors.cons (Bor.pure rfl) (Bors.cons (Bor.pure rfl) Bors.nil))) rfl rfl (f103_ok r1 1 256 r2 hf2)) hc3) rfl ?_
    refine ROps.l (r := AV.b false) rfl rfl rfl (LOp.move rfl rfl) ?_
    refine ROps.s rfl rfl rfl ?_
    refine ROps.s rfl rfl rfl ?_
    refine ROps.l (r := AV.b false) rfl rfl rfl (LOp.pick_false rfl rfl rfl) ?_
    refine ROps.l (r := AV.b false) rfl rfl rfl (LOp.assign rfl rfl) ?_
    refine ROps.nil ?_
    refine RunC.ret ?_
    have hq := Option.some.inj h
    subst q0
    exact bodyQ.pure (.inr rfl) rfl (Res.one rfl (RV.tmp rfl))
noncomputable def f81 (a0 : List F) (a1 : List F) : Option (Bool) :=
  obind (f101 a0) fun (r1 : Int) =>
  obind (f100 r1) fun (r2 : Bool) =>
  bsel r2 (
    olet (IntKind.i64.wrap ((a0.length : Int) - 1)) fun (x3 : Int) =>
    bsel (decide ((a1.length : Int) = x3)) (
      obind (f102 a0) fun (r4 : Bool) =>
      bsel r4 (
        obind (f102 a1) fun (r5 : Bool) =>
        some r5) (
        some false)) (
      some false)) (
    some false)
theorem f81_ok (a0 : List F) (a1 : List F) (q0 : Bool) (h : f81 a0 a1 = some q0) : Ev Try.prog 81 [AV.agg [AV.sl a0.length (a0.map AV.f32), AV.sl a1.length (a1.map AV.f32)]] [] (AV.b q0) [] := by
  refine Ev.start Try.func81 rfl rfl 0 (τ := [(0, AV.agg [AV.sl a0.length (a0.map AV.f32), AV.sl a1.length (a1.map AV.f32)])]) rfl (Γ' := []) rfl (n := 27) rfl (g := 0) rfl ?_
  unfold f81 at h
  refine RunC.seq ?_
  refine RunC.regionW ?_
  refine ROps.d (r := AV.ptr [AV.sl a0.length (a0.map AV.f32), AV.sl a1.length (a1.map AV.f32)]) (fs := []) (Γ' := []) rfl rfl rfl (TOp.box_s rfl rfl rfl) rfl ?_
  refine ROps.l (r := AV.b false) rfl rfl rfl (LOp.assign rfl rfl) ?_
  refine ROps.nil ?_
  refine RunC.seq ?_
  obtain ⟨r1, hf1, h⟩ := obind_some h
  obtain ⟨r2, hf2, h⟩ := obind_some h
  rcases bsel_some h with ⟨hc3, h⟩ | ⟨hc3, h⟩
  · obtain ⟨x3, hx4, h⟩ := olet_some h
    rcases bsel_some h with ⟨hc5, h⟩ | ⟨hc5, h⟩
    · obtain ⟨r4, hf6, h⟩ := obind_some h
      rcases bsel_some h with ⟨hc7, h⟩ | ⟨hc7, h⟩
      · obtain ⟨r5, hf8, h⟩ := obind_some h
        refine RunC.regionW ?_
        refine ROps.l (r := AV.ptr [AV.sl a0.length (a0.map AV.f32), AV.sl a1.length (a1.map AV.f32)]) rfl rfl rfl (LOp.fap und42 rfl siz38 rfl rfl rfl) ?_
        refine ROps.l (r := AV.sl a0.length (a0.map AV.f32)) rfl rfl rfl (LOp.load1 agg38 rfl rfl) ?_
        refine ROps.d (r := AV.i64 r1) (fs := []) (Γ' := []) rfl rfl rfl (TOp.callB (CallAs.func ent101 rfl rfl) (Bors.cons (Bor.sl (fun _ => rfl)) Bors.nil) rfl rfl (f101_ok a0 r1 hf1)) rfl ?_
        refine ROps.d (r := AV.b true) (fs := []) (Γ' := []) rfl rfl rfl (TOp.eqb (TOp.callB (CallAs.func ent100 rfl rfl) (Bors.cons (Bor.pure rfl) Bors.nil) rfl rfl (f100_ok r1 r2 hf2)) hc3) rfl ?_
        refine ROps.l (r := AV.b true) rfl rfl rfl (LOp.move rfl rfl) ?_
        refine ROps.l (r := AV.ptr [AV.sl a1.length (a1.map AV.f32)]) rfl rfl rfl (LOp.fap und42 rfl siz38 rfl rfl rfl) ?_
        refine ROps.l (r := AV.sl a1.length (a1.map AV.f32)) rfl rfl rfl (LOp.load1 agg38 rfl rfl) ?_
        refine ROps.l (r := AV.i64 (a1.length : Int)) rfl rfl rfl (LOp.len_sl und38 rfl rfl) ?_
        refine ROps.l (r := AV.ptr [AV.sl a0.length (a0.map AV.f32), AV.sl a1.length (a1.map AV.f32)]) rfl rfl rfl (LOp.fap und42 rfl siz38 rfl rfl rfl) ?_
        refine ROps.l (r := AV.sl a0.length (a0.map AV.f32)) rfl rfl rfl (LOp.load1 agg38 rfl rfl) ?_
        refine ROps.l (r := AV.i64 (a0.length : Int)) rfl rfl rfl (LOp.len_sl und38 rfl rfl) ?_
        refine ROps.l (r := AV.i64 x3) rfl rfl rfl (LOp.eqr (LOp.sub rfl rfl rfl) (congrArg (AV.ik .i64) hx4)) ?_
        refine ROps.l (r := AV.b true) rfl rfl rfl (LOp.eqb (LOp.eql rfl rfl rfl) hc5) ?_
        refine ROps.l (r := AV.b true) rfl rfl rfl (LOp.pick_true rfl rfl rfl) ?_
        refine ROps.l (r := AV.b true) rfl rfl rfl (LOp.move rfl rfl) ?_
        refine ROps.l (r := AV.ptr [AV.sl a0.length (a0.map AV.f32), AV.sl a1.length (a1.map AV.f32)]) rfl rfl rfl (LOp.fap und42 rfl siz38 rfl rfl rfl) ?_
        refine ROps.l (r := AV.sl a0.length (a0.map AV.f32)) rfl rfl rfl (LOp.load1 agg38 rfl rfl) ?_
        refine ROps.d (r := AV.b true) (fs := []) (Γ' := []) rfl rfl rfl (TOp.eqb (TOp.callB (CallAs.func ent102 rfl rfl) (Bors.cons (Bor.sl (fun _ => rfl)) Bors.nil) rfl rfl (f102_ok a0 r4 hf6)) hc7) rfl ?_
        refine ROps.l (r := AV.b true) rfl rfl rfl (LOp.pick_true rfl rfl rfl) ?_
        refine ROps.l (r := AV.b true) rfl rfl rfl (LOp.move rfl rfl) ?_
        refine ROps.l (r := AV.ptr [AV.sl a1.length (a1.map AV.f32)]) rfl rfl rfl (LOp.fap und42 rfl siz38 rfl rfl rfl) ?_
        refine ROps.l (r := AV.sl a1.length (a1.map AV.f32)) rfl rfl rfl (LOp.load1 agg38 rfl rfl) ?_
        refine ROps.d (r := AV.b r5) (fs := []) (Γ' := []) rfl rfl rfl (TOp.callB (CallAs.func ent102 rfl rfl) (Bors.cons (Bor.sl (fun _ => rfl)) Bors.nil) rfl rfl (f102_ok a1 r5 hf8)) rfl ?_
        refine ROps.l (r := AV.b r5) rfl rfl rfl (LOp.pick_true rfl rfl rfl) ?_
        refine ROps.l (r := AV.b r5) rfl rfl rfl (LOp.assign rfl rfl) ?_
        refine ROps.nil ?_
        refine RunC.ret ?_
        have hq := Option.some.inj h
        subst q0
        exact bodyQ.pure (.inr rfl) rfl (Res.one rfl (RV.tmp rfl))
      · refine RunC.regionW ?_
        refine ROps.l (r := AV.ptr [AV.sl a0.length (a0.map AV.f32), AV.sl a1.length (a1.map AV.f32)]) rfl rfl rfl (LOp.fap und42 rfl siz38 rfl rfl rfl) ?_
        refine ROps.l (r := AV.sl a0.length (a0.map AV.f32)) rfl rfl rfl (LOp.load1 agg38 rfl rfl) ?_
        refine ROps.d (r := AV.i64 r1) (fs := []) (Γ' := []) rfl rfl rfl (TOp.callB (CallAs.func ent101 rfl rfl) (Bors.cons (Bor.sl (fun _ => rfl)) Bors.nil) rfl rfl (f101_ok a0 r1 hf1)) rfl ?_
        refine ROps.d (r := AV.b true) (fs := []) (Γ' := []) rfl rfl rfl (TOp.eqb (TOp.callB (CallAs.func ent100 rfl rfl) (Bors.cons (Bor.pure rfl) Bors.nil) rfl rfl (f100_ok r1 r2 hf2)) hc3) rfl ?_
        refine ROps.l (r := AV.b true) rfl rfl rfl (LOp.move rfl rfl) ?_
        refine ROps.l (r := AV.ptr [AV.sl a1.length (a1.map AV.f32)]) rfl rfl rfl (LOp.fap und42 rfl siz38 rfl rfl rfl) ?_
        refine ROps.l (r := AV.sl a1.length (a1.map AV.f32)) rfl rfl rfl (LOp.load1 agg38 rfl rfl) ?_
        refine ROps.l (r := AV.i64 (a1.length : Int)) rfl rfl rfl (LOp.len_sl und38 rfl rfl) ?_
        refine ROps.l (r := AV.ptr [AV.sl a0.length (a0.map AV.f32), AV.sl a1.length (a1.map AV.f32)]) rfl rfl rfl (LOp.fap und42 rfl siz38 rfl rfl rfl) ?_
        refine ROps.l (r := AV.sl a0.length (a0.map AV.f32)) rfl rfl rfl (LOp.load1 agg38 rfl rfl) ?_
        refine ROps.l (r := AV.i64 (a0.length : Int)) rfl rfl rfl (LOp.len_sl und38 rfl rfl) ?_
        refine ROps.l (r := AV.i64 x3) rfl rfl rfl (LOp.eqr (LOp.sub rfl rfl rfl) (congrArg (AV.ik .i64) hx4)) ?_
        refine ROps.l (r := AV.b true) rfl rfl rfl (LOp.eqb (LOp.eql rfl rfl rfl) hc5) ?_
        refine ROps.l (r := AV.b true) rfl rfl rfl (LOp.pick_true rfl rfl rfl) ?_
        refine ROps.l (r := AV.b true) rfl rfl rfl (LOp.move rfl rfl) ?_
        refine ROps.l (r := AV.ptr [AV.sl a0.length (a0.map AV.f32), AV.sl a1.length (a1.map AV.f32)]) rfl rfl rfl (LOp.fap und42 rfl siz38 rfl rfl rfl) ?_
        refine ROps.l (r := AV.sl a0.length (a0.map AV.f32)) rfl rfl rfl (LOp.load1 agg38 rfl rfl) ?_
        refine ROps.d (r := AV.b false) (fs := []) (Γ' := []) rfl rfl rfl (TOp.eqb (TOp.callB (CallAs.func ent102 rfl rfl) (Bors.cons (Bor.sl (fun _ => rfl)) Bors.nil) rfl rfl (f102_ok a0 r4 hf6)) hc7) rfl ?_
        refine ROps.l (r := AV.b false) rfl rfl rfl (LOp.pick_true rfl rfl rfl) ?_
        refine ROps.l (r := AV.b false) rfl rfl rfl (LOp.move rfl rfl) ?_
        refine ROps.s rfl rfl rfl ?_
        refine ROps.s rfl rfl rfl ?_
        refine ROps.s rfl rfl rfl ?_
        refine ROps.l (r := AV.b false) rfl rfl rfl (LOp.pick_false rfl rfl rfl) ?_
        refine ROps.l (r := AV.b false) rfl rfl rfl (LOp.assign rfl rfl) ?_
        refine ROps.nil ?_
        refine RunC.ret ?_
        have hq := Option.some.inj h
        subst q0
        exact bodyQ.pure (.inr rfl) rfl (Res.one rfl (RV.tmp rfl))
    · refine RunC.regionW ?_
      refine ROps.l (r := AV.ptr [AV.sl a0.length (a0.map AV.f32), AV.sl a1.length (a1.map AV.f32)]) rfl rfl rfl (LOp.fap und42 rfl siz38 rfl rfl rfl) ?_
      refine ROps.l (r := AV.sl a0.length (a0.map AV.f32)) rfl rfl rfl (LOp.load1 agg38 rfl rfl) ?_
      refine ROps.d (r := AV.i64 r1) (fs := []) (Γ' := []) rfl rfl rfl (TOp.callB (CallAs.func ent101 rfl rfl) (Bors.cons (Bor.sl (fun _ => rfl)) Bors.nil) rfl rfl (f101_ok a0 r1 hf1)) rfl ?_
      refine ROps.d (r := AV.b true) (fs := []) (Γ' := []) rfl rfl rfl (TOp.eqb (TOp.callB (CallAs.func ent100 rfl rfl) (Bors.cons (Bor.pure rfl) Bors.nil) rfl rfl (f100_ok r1 r2 hf2)) hc3) rfl ?_
      refine ROps.l (r := AV.b true) rfl rfl rfl (LOp.move rfl rfl) ?_
      refine ROps.l (r := AV.ptr [AV.sl a1.length (a1.map AV.f32)]) rfl rfl rfl (LOp.fap und42 rfl siz38 rfl rfl rfl) ?_
      refine ROps.l (r := AV.sl a1.length (a1.map AV.f32)) rfl rfl rfl (LOp.load1 agg38 rfl rfl) ?_
      refine ROps.l (r := AV.i64 (a1.length : Int)) rfl rfl rfl (LOp.len_sl und38 rfl rfl) ?_
      refine ROps.l (r := AV.ptr [AV.sl a0.length (a0.map AV.f32), AV.sl a1.length (a1.map AV.f32)]) rfl rfl rfl (LOp.fap und42 rfl siz38 rfl rfl rfl) ?_
      refine ROps.l (r := AV.sl a0.length (a0.map AV.f32)) rfl rfl rfl (LOp.load1 agg38 rfl rfl) ?_
      refine ROps.l (r := AV.i64 (a0.length : Int)) rfl rfl rfl (LOp.len_sl und38 rfl rfl) ?_
      refine ROps.l (r := AV.i64 x3) rfl rfl rfl (LOp.eqr (LOp.sub rfl rfl rfl) (congrArg (AV.ik .i64) hx4)) ?_
      refine ROps.l (r := AV.b false) rfl rfl rfl (LOp.eqb (LOp.eql rfl rfl rfl) hc5) ?_
      refine ROps.l (r := AV.b false) rfl rfl rfl (LOp.pick_true rfl rfl rfl) ?_
      refine ROps.l (r := AV.b false) rfl rfl rfl (LOp.move rfl rfl) ?_
      refine ROps.s rfl rfl rfl ?_
      refine ROps.s rfl rfl rfl ?_
      refine ROps.s rfl rfl rfl ?_
      refine ROps.l (r := AV.b false) rfl rfl rfl (LOp.pick_false rfl rfl rfl) ?_
      refine ROps.l (r := AV.b false) rfl rfl rfl (LOp.move rfl rfl) ?_
      refine ROps.s rfl rfl rfl ?_
      refine ROps.s rfl rfl rfl ?_
      refine ROps.s rfl rfl rfl ?_
      refine ROps.l (r := AV.b false) rfl rfl rfl (LOp.pick_false rfl rfl rfl) ?_
      refine ROps.l (r := AV.b false) rfl rfl rfl (LOp.assign rfl rfl) ?_
      refine ROps.nil ?_
      refine RunC.ret ?_
      have hq := Option.some.inj h
      subst q0
      exact bodyQ.pure (.inr rfl) rfl (Res.one rfl (RV.tmp rfl))
  · refine RunC.regionW ?_
    refine ROps.l (r := AV.ptr [AV.sl a0.length (a0.map AV.f32), AV.sl a1.length (a1.map AV.f32)]) rfl rfl rfl (LOp.fap und42 rfl siz38 rfl rfl rfl) ?_
    refine ROps.l (r := AV.sl a0.length (a0.map AV.f32)) rfl rfl rfl (LOp.load1 agg38 rfl rfl) ?_
    refine ROps.d (r := AV.i64 r1) (fs := []) (Γ' := []) rfl rfl rfl (TOp.callB (CallAs.func ent101 rfl rfl) (Bors.cons (Bor.sl (fun _ => rfl)) Bors.nil) rfl rfl (f101_ok a0 r1 hf1)) rfl ?_
    refine ROps.d (r := AV.b false) (fs := []) (Γ' := []) rfl rfl rfl (TOp.eqb (TOp.callB (CallAs.func ent100 rfl rfl) (Bors.cons (Bor.pure rfl) Bors.nil) rfl rfl (f100_ok r1 r2 hf2)) hc3) rfl ?_
    refine ROps.l (r := AV.b false) rfl rfl rfl (LOp.move rfl rfl) ?_
    refine ROps.s rfl rfl rfl ?_
    refine ROps.s rfl rfl rfl ?_
    refine ROps.s rfl rfl rfl ?_
    refine ROps.s rfl rfl rfl ?_
    refine ROps.s rfl rfl rfl ?_
    refine ROps.s rfl rfl rfl ?_
    refine ROps.s rfl rfl rfl ?_
    refine ROps.s rfl rfl rfl ?_
    refine ROps.l (r := AV.b false) rfl rfl rfl (LOp.pick_false rfl rfl rfl) ?_
    refine ROps.l (r := AV.b false) rfl rfl rfl (LOp.move rfl rfl) ?_
    refine ROps.s rfl rfl rfl ?_
    refine ROps.s rfl rfl rfl ?_
    refine ROps.s rfl rfl rfl ?_
    refine ROps.l (r := AV.b false) rfl rfl rfl (LOp.pick_false rfl rfl rfl) ?_
    refine ROps.l (r := AV.b false) rfl rfl rfl (LOp.move rfl rfl) ?_
    refine ROps.s rfl rfl rfl ?_
    refine ROps.s rfl rfl rfl ?_
    refine ROps.s rfl rfl rfl ?_
    refine ROps.l (r := AV.b false) rfl rfl rfl (LOp.pick_false rfl rfl rfl) ?_
    refine ROps.l (r := AV.b false) rfl rfl rfl (LOp.assign rfl rfl) ?_
    refine ROps.nil ?_
    refine RunC.ret ?_
    have hq := Option.some.inj h
    subst q0
    exact bodyQ.pure (.inr rfl) rfl (Res.one rfl (RV.tmp rfl))
noncomputable def f124 (a0 : List Int) : Option (Int) :=
  some (a0.length : Int)
theorem f124_ok (a0 : List Int) (q0 : Int) (h : f124 a0 = some q0) : Ev Try.prog 124 [AV.sl a0.length (a0.map AV.i64)] [] (AV.i64 q0) [] := by
  refine Ev.start Try.func124 rfl rfl 0 (τ := [(0, AV.sl a0.length (a0.map AV.i64))]) rfl (Γ' := []) rfl (n := 5) rfl (g := 0) rfl ?_
  unfold f124 at h
  refine RunC.seq ?_
  refine RunC.regionW ?_
  refine ROps.l (r := AV.i64 0) rfl rfl rfl (LOp.assign rfl rfl) ?_
  refine ROps.nil ?_
  refine RunC.seq ?_
  refine RunC.regionW ?_
  refine ROps.l (r := AV.sl a0.length (a0.map AV.i64)) rfl rfl rfl (LOp.move rfl rfl) ?_
  refine ROps.l (r := AV.i64 (a0.length : Int)) rfl rfl rfl (LOp.len_sl und43 rfl rfl) ?_
  refine ROps.l (r := AV.i64 (a0.length : Int)) rfl rfl rfl (LOp.assign rfl rfl) ?_
  refine ROps.nil ?_
  refine RunC.ret ?_
  have hq := Option.some.inj h
  subst q0
  exact bodyQ.pure (.inr rfl) rfl (Res.one rfl (RV.tmp rfl))
noncomputable def f134 (a0 : Int) (a1 : Int) (a2 : Int) : Option (Bool) :=
  obind (f103 a0 a1 a2) fun (r1 : Bool) =>
  some (!r1)
theorem f134_ok (a0 : Int) (a1 : Int) (a2 : Int) (q0 : Bool) (h : f134 a0 a1 a2 = some q0) : Ev Try.prog 134 [AV.i64 a0, AV.ptr [AV.i64 a1], AV.ptr [AV.i64 a2]] [] (AV.b q0) [] := by
  refine Ev.start Try.func134 rfl rfl 0 (τ := [(0, AV.i64 a0), (1, AV.ptr [AV.i64 a1]), (2, AV.ptr [AV.i64 a2])]) rfl (Γ' := []) rfl (n := 10) rfl (g := 0) rfl ?_
  unfold f134 at h
  refine RunC.seq ?_
  refine RunC.regionW ?_
  refine ROps.l (r := AV.b false) rfl rfl rfl (LOp.assign rfl rfl) ?_
  refine ROps.nil ?_
  refine RunC.seq ?_
  obtain ⟨r1, hf1, h⟩ := obind_some h
  refine RunC.regionW ?_
  refine ROps.l (r := AV.i64 a0) rfl rfl rfl (LOp.move rfl rfl) ?_
  refine ROps.l (r := AV.i64 a1) rfl rfl rfl (LOp.load1 agg2 rfl rfl) ?_
  refine ROps.l (r := AV.i64 a2) rfl rfl rfl (LOp.load1 agg2 rfl rfl) ?_
  refine ROps.d (r := AV.b r1) (fs := []) (Γ' := []) rfl rfl rfl (TOp.callB (CallAs.func ent103 rfl rfl) (Bors.cons (Bor.pure rfl) (Bors.cons (Bor.pure rfl) (Bors.cons (Bor.pure rfl) Bors.nil))) rfl rfl (f103_ok a0 a1 a2 r1 hf1)) rfl ?_
  refine ROps.l (r := AV.b (!r1)) rfl rfl rfl (LOp.not rfl rfl) ?_
  refine ROps.l (r := AV.b (!r1)) rfl rfl rfl (LOp.assign rfl rfl) ?_
  refine ROps.nil ?_
  refine RunC.ret ?_
  have hq := Option.some.inj h
  subst q0
  exact bodyQ.pure (.inr rfl) rfl (Res.one rfl (RV.tmp rfl))
noncomputable def f138_b1 (a0 : List Int) (a1 : Int) (a2 : Int) (v1 : Int) : Option (LR (Int) (Unit) (Int)) :=
  bsel (decide (v1 < (a0.length : Int))) (
    obind (at? a0 v1) fun (e2 : Int) =>
    obind (f134 e2 a1 a2) fun (r3 : Bool) =>
    bsel r3 (
      some (LR.ret v1)) (
      olet (IntKind.i64.wrap (v1 + 1)) fun (x4 : Int) =>
      some (LR.next x4))) (
    some (LR.out ()))
noncomputable def f138_s1 (a0 : List Int) (a1 : Int) (a2 : Int) : (Int) → Option (LR (Int) (Unit) (Int)) := fun s => f138_b1 a0 a1 a2 s
noncomputable def f138_k1  : Option (Int) :=
  some (-1)
noncomputable def f138 (a0 : List Int) (a1 : Int) (a2 : Int) : Option (Int) :=
  obind (loopM (f138_s1 a0 a1 a2) 0) fun z => osum z (fun _ => f138_k1) (fun r => some r)
theorem f138_ok (a0 : List Int) (a1 : Int) (a2 : Int) (q0 : Int) (h : f138 a0 a1 a2 = some q0) : Ev Try.prog 138 [AV.sl a0.length (a0.map AV.i64), AV.fn (.func 134) [] [AV.ptr [AV.i64 a1], AV.ptr [AV.i64 a2]]] [] (AV.i64 q0) [] := by
  refine Ev.start Try.func138 rfl rfl 0 (τ := [(0, AV.sl a0.length (a0.map AV.i64)), (1, AV.fn (.func 134) [] [AV.ptr [AV.i64 a1], AV.ptr [AV.i64 a2]])]) rfl (Γ' := []) rfl (n := 19) rfl (g := 0) rfl ?_
  unfold f138 at h
  refine RunC.seq ?_
  refine RunC.regionW ?_
  refine ROps.l (r := AV.i64 0) rfl rfl rfl (LOp.assign rfl rfl) ?_
  refine ROps.nil ?_
  refine RunC.seq ?_
  refine RunC.seq ?_
  refine RunC.regionW ?_
  refine ROps.l (r := AV.sl a0.length (a0.map AV.i64)) rfl rfl rfl (LOp.move rfl rfl) ?_
  refine ROps.l (r := AV.i64 (a0.length : Int)) rfl rfl rfl (LOp.len_sl und43 rfl rfl) ?_
  refine ROps.l (r := AV.i64 0) rfl rfl rfl (LOp.move rfl rfl) ?_
  refine ROps.nil ?_
  obtain ⟨z2, hz_2, h⟩ := obind_some h
  refine RunC.cutN (fun τ Γ => WeakLe τ [] ∧ DeadLe Γ [] ∧ z2 = .inl ()) ?_ ?_
  · refine RunC.block (RunC.loop (RunL.loopM (x := z2) (f138_s1 a0 a1 a2) (fun (s : Int) τ Γ => WeakLe τ [(0, AV.sl a0.length (a0.map AV.i64)), (1, AV.fn (.func 134) [] [AV.ptr [AV.i64 a1], AV.ptr [AV.i64 a2]]), (7, AV.i64 (a0.length : Int)), (8, AV.i64 s)] ∧ DeadLe Γ []) ?_ _ _ _ hz_2 ⟨⟨(ALe.refl _), (ALe.refl _), (ALe.refl _), (ALe.refl _), trivial⟩, trivial⟩))
    rintro v1 τ2 Γ2 y2_ ⟨hw2, hd2⟩ h2_ ho2 hr2
    refine RunC.wl (τ' := [(0, AV.sl a0.length (a0.map AV.i64)), (1, AV.fn (.func 134) [] [AV.ptr [AV.i64 a1], AV.ptr [AV.i64 a2]]), (7, AV.i64 (a0.length : Int)), (8, AV.i64 v1)]) (Γ' := []) hw2 hd2 ?_
    replace h2_ : f138_b1 a0 a1 a2 v1 = some y2_ := h2_
    unfold f138_b1 at h2_
    refine RunC.seq ?_
    rcases bsel_some h2_ with ⟨hc1, h2_⟩ | ⟨hc1, h2_⟩
    · refine RunC.regionW ?_
      refine ROps.l (r := AV.b true) rfl rfl rfl (LOp.eqb (LOp.lss rfl rfl rfl) hc1) ?_
      refine ROps.nil ?_
      refine RunC.seq ?_
      refine RunC.cond_true rfl rfl ?_
      refine RunC.skip ?_
      refine RunC.seq ?_
      refine RunC.block ?_
      refine RunC.seq ?_
      refine RunC.regionW ?_
      refine ROps.l (r := AV.i64 v1) rfl rfl rfl (LOp.move rfl rfl) ?_
      refine ROps.l (r := AV.i64 v1) rfl rfl rfl (LOp.assign rfl rfl) ?_
      refine ROps.nil ?_
      refine RunC.seq ?_
      obtain ⟨e2, he2, h2_⟩ := obind_some h2_
      obtain ⟨r3, hf3, h2_⟩ := obind_some h2_
      rcases bsel_some h2_ with ⟨hc4, h2_⟩ | ⟨hc4, h2_⟩
      · refine RunC.regionW ?_
        refine ROps.l (r := AV.fn (.func 134) [] [AV.ptr [AV.i64 a1], AV.ptr [AV.i64 a2]]) rfl rfl rfl (LOp.move rfl rfl) ?_
        refine ROps.l (r := AV.sl a0.length (a0.map AV.i64)) rfl rfl rfl (LOp.move rfl rfl) ?_
        refine ROps.l (r := AV.i64 v1) rfl rfl rfl (LOp.move rfl rfl) ?_
        refine ROps.l (r := AV.ptr [AV.i64 e2]) rfl rfl rfl (LOp.le (LOp.ix (f := AV.i64) und43 siz2 rfl rfl rfl rfl he2) ALe.ptr) ?_
        refine ROps.l (r := AV.i64 e2) rfl rfl rfl (LOp.load1 agg2 rfl rfl) ?_
        refine ROps.d (r := AV.b true) (fs := []) (Γ' := []) rfl rfl rfl (TOp.eqb (TOp.callB (CallAs.fn ent134 rfl rfl rfl rfl) (Bors.cons (Bor.pure rfl) (Bors.cons (Bor.ptr (Bors.cons (Bor.pure rfl) Bors.nil)) (Bors.cons (Bor.ptr (Bors.cons (Bor.pure rfl) Bors.nil)) Bors.nil))) rfl rfl (f134_ok e2 a1 a2 r3 hf3)) hc4) rfl ?_
        refine ROps.nil ?_
        refine RunC.cond_true rfl rfl ?_
        refine RunC.seq ?_
        refine RunC.regionW ?_
        refine ROps.l (r := AV.i64 v1) rfl rfl rfl (LOp.move rfl rfl) ?_
        refine ROps.l (r := AV.i64 v1) rfl rfl rfl (LOp.assign rfl rfl) ?_
        refine ROps.nil ?_
        refine RunC.ret ?_
        cases Option.some.inj h2_
        have hx3_ := hr2 _ rfl
        subst hx3_
        have hq := Option.some.inj h
        subst q0
        exact bodyQ.pure (.inr rfl) rfl (Res.one rfl (RV.tmp rfl))
      · refine RunC.regionW ?_
        refine ROps.l (r := AV.fn (.func 134) [] [AV.ptr [AV.i64 a1], AV.ptr [AV.i64 a2]]) rfl rfl rfl (LOp.move rfl rfl) ?_
        refine ROps.l (r := AV.sl a0.length (a0.map AV.i64)) rfl rfl rfl (LOp.move rfl rfl) ?_
        refine ROps.l (r := AV.i64 v1) rfl rfl rfl (LOp.move rfl rfl) ?_
        refine ROps.l (r := AV.ptr [AV.i64 e2]) rfl rfl rfl (LOp.le (LOp.ix (f := AV.i64) und43 siz2 rfl rfl rfl rfl he2) ALe.ptr) ?_
        refine ROps.l (r := AV.i64 e2) rfl rfl rfl (LOp.load1 agg2 rfl rfl) ?_
        refine ROps.d (r := AV.b false) (fs := []) (Γ' := []) rfl rfl rfl (TOp.eqb (TOp.callB (CallAs.fn ent134 rfl rfl rfl rfl) (Bors.cons (Bor.pure rfl) (Bors.cons (Bor.ptr (Bors.cons (Bor.pure rfl) Bors.nil)) (Bors.cons (Bor.ptr (Bors.cons (Bor.pure rfl) Bors.nil)) Bors.nil))) rfl rfl (f134_ok e2 a1 a2 r3 hf3)) hc4) rfl ?_
        refine ROps.nil ?_
        refine RunC.cond_false rfl rfl ?_
        refine RunC.skip ?_
        obtain ⟨x4, hx5, h2_⟩ := olet_some h2_
        refine RunC.regionW ?_
        refine ROps.l (r := AV.i64 x4) rfl rfl rfl (LOp.eqr (LOp.add rfl rfl rfl) (congrArg (AV.ik .i64) hx5)) ?_
        refine ROps.l (r := AV.i64 x4) rfl rfl rfl (LOp.move rfl rfl) ?_
        refine ROps.nil ?_
        cases Option.some.inj h2_
        exact ⟨_, rfl, ⟨(ALe.refl _), (ALe.refl _), (ALe.refl _), (ALe.refl _), trivial⟩, trivial⟩
    · refine RunC.regionW ?_
      refine ROps.l (r := AV.b false) rfl rfl rfl (LOp.eqb (LOp.lss rfl rfl rfl) hc1) ?_
      refine ROps.nil ?_
      refine RunC.seq ?_
      refine RunC.cond_false rfl rfl ?_
      refine RunC.exit ?_
      cases Option.some.inj h2_
      have hx := ho2 _ rfl
      exact ⟨trivial, trivial, hx⟩
  · rintro τ4 Γ4 ⟨hw4, hd4, rfl⟩
    refine RunC.wl (τ' := []) (Γ' := []) hw4 hd4 ?_
    replace h : f138_k1 = some q0 := h
    unfold f138_k1 at h
    refine RunC.seq ?_
    refine RunC.regionW ?_
    refine ROps.l (r := AV.i64 (-1)) rfl rfl rfl (LOp.assign rfl rfl) ?_
    refine ROps.nil ?_
    refine RunC.ret ?_
    have hq := Option.some.inj h
    subst q0
    exact bodyQ.pure (.inr rfl) rfl (Res.one rfl (RV.tmp rfl))
noncomputable def f133 (a0 : List Int) (a1 : Int) (a2 : Int) : Option (Bool) :=
  obind (f138 a0 a1 a2) fun (r1 : Int) =>
  some (decide (0 ≤ r1))
theorem f133_ok (a0 : List Int) (a1 : Int) (a2 : Int) (q0 : Bool) (h : f133 a0 a1 a2 = some q0) : Ev Try.prog 133 [AV.sl a0.length (a0.map AV.i64), AV.fn (.func 134) [] [AV.ptr [AV.i64 a1], AV.ptr [AV.i64 a2]]] [] (AV.b q0) [] := by
  refine Ev.start Try.func133 rfl rfl 0 (τ := [(0, AV.sl a0.length (a0.map AV.i64)), (1, AV.fn (.func 134) [] [AV.ptr [AV.i64 a1], AV.ptr [AV.i64 a2]])]) rfl (Γ' := []) rfl (n := 9) rfl (g := 0) rfl ?_
  unfold f133 at h
  refine RunC.seq ?_
  refine RunC.regionW ?_
  refine ROps.l (r := AV.b false) rfl rfl rfl (LOp.assign rfl rfl) ?_
  refine ROps.nil ?_
  refine RunC.seq ?_
  obtain ⟨r1, hf1, h⟩ := obind_some h
  refine RunC.regionW ?_
  refine ROps.l (r := AV.sl a0.length (a0.map AV.i64)) rfl rfl rfl (LOp.move rfl rfl) ?_
  refine ROps.l (r := AV.fn (.func 134) [] [AV.ptr [AV.i64 a1], AV.ptr [AV.i64 a2]]) rfl rfl rfl (LOp.move rfl rfl) ?_
  refine ROps.d (r := AV.i64 r1) (fs := []) (Γ' := []) rfl rfl rfl (TOp.callB (CallAs.func ent138 rfl rfl) (Bors.cons (Bor.sl (fun _ => rfl)) (Bors.cons (Bor.fn Bors.nil (Bors.cons (Bor.ptr (Bors.cons (Bor.pure rfl) Bors.nil)) (Bors.cons (Bor.ptr (Bors.cons (Bor.pure rfl) Bors.nil)) Bors.nil))) Bors.nil)) rfl rfl (f138_ok a0 a1 a2 r1 hf1)) rfl ?_
  refine ROps.l (r := AV.b (decide (0 ≤ r1))) rfl rfl rfl (LOp.geq rfl rfl rfl) ?_
  refine ROps.l (r := AV.b (decide (0 ≤ r1))) rfl rfl rfl (LOp.assign rfl rfl) ?_
  refine ROps.nil ?_
  refine RunC.ret ?_
  have hq := Option.some.inj h
  subst q0
  exact bodyQ.pure (.inr rfl) rfl (Res.one rfl (RV.tmp rfl))
noncomputable def f125 (a0 : List Int) (a1 : Int) (a2 : Int) : Option (Bool) :=
  obind (f133 a0 a1 a2) fun (r1 : Bool) =>
  some (!r1)
theorem f125_ok (a0 : List Int) (a1 : Int) (a2 : Int) (q0 : Bool) (h : f125 a0 a1 a2 = some q0) : Ev Try.prog 125 [AV.sl a0.length (a0.map AV.i64), AV.i64 a1, AV.i64 a2] [] (AV.b q0) [] := by
  refine Ev.start Try.func125 rfl rfl 0 (τ := [(0, AV.sl a0.length (a0.map AV.i64)), (1, AV.i64 a1), (2, AV.i64 a2)]) rfl (Γ' := []) rfl (n := 11) rfl (g := 0) rfl ?_
  unfold f125 at h
  refine RunC.seq ?_
  refine RunC.regionW ?_
  refine ROps.d (r := AV.ptr [AV.i64 a1]) (fs := []) (Γ' := []) rfl rfl rfl (TOp.box_s rfl rfl rfl) rfl ?_
  refine ROps.d (r := AV.ptr [AV.i64 a2]) (fs := []) (Γ' := []) rfl rfl rfl (TOp.box_s rfl rfl rfl) rfl ?_
  refine ROps.l (r := AV.b false) rfl rfl rfl (LOp.assign rfl rfl) ?_
  refine ROps.nil ?_
  refine RunC.seq ?_
  obtain ⟨r1, hf1, h⟩ := obind_some h
  refine RunC.regionW ?_
  refine ROps.l (r := AV.sl a0.length (a0.map AV.i64)) rfl rfl rfl (LOp.move rfl rfl) ?_
  refine ROps.l (r := AV.fn (.func 134) [] [AV.ptr [AV.i64 a1], AV.ptr [AV.i64 a2]]) rfl rfl rfl (LOp.makeFunc rfl rfl) ?_
  refine ROps.d (r := AV.b r1) (fs := []) (Γ' := []) rfl rfl rfl (TOp.callB (CallAs.func ent133 rfl rfl) (Bors.cons (Bor.sl (fun _ => rfl)) (Bors.cons (Bor.fn Bors.nil (Bors.cons (Bor.ptr (Bors.cons (Bor.pure rfl) Bors.nil)) (Bors.cons (Bor.ptr (Bors.cons (Bor.pure rfl) Bors.nil)) Bors.nil))) Bors.nil)) rfl rfl (f133_ok a0 a1 a2 r1 hf1)) rfl ?_
  refine ROps.l (r := AV.b (!r1)) rfl rfl rfl (LOp.not rfl rfl) ?_
  refine ROps.l (r := AV.b (!r1)) rfl rfl rfl (LOp.assign rfl rfl) ?_
  refine ROps.nil ?_
  refine RunC.ret ?_
  have hq := Option.some.inj h
  subst q0
  exact bodyQ.pure (.inr rfl) rfl (Res.one rfl (RV.tmp rfl))
noncomputable def f113 (a0 : Int) (a1 : Int) (a2 : List Int) (a3 : Int) : Option (Bool) :=
  obind (f103 a0 1 6) fun (r1 : Bool) =>
  bsel r1 (
    obind (f103 a1 1 6) fun (r2 : Bool) =>
    bsel r2 (
      obind (f124 a2) fun (r3 : Int) =>
      olet (IntKind.i64.wrap (a0 * a1)) fun (x4 : Int) =>
      bsel (decide (r3 = x4)) (
        olet (IntKind.i64.wrap (0 - a3)) fun (x5 : Int) =>
        obind (f125 a2 x5 a3) fun (r6 : Bool) =>
        some r6) (
        some false)) (
      some false)) (
    some false)
theorem f113_ok (a0 : Int) (a1 : Int) (a2 : List Int) (a3 : Int) (q0 : Bool) (h : f113 a0 a1 a2 a3 = some q0) : Ev Try.prog 113 [AV.agg [AV.i64 a0, AV.i64 a1, AV.sl a2.length (a2.map AV.i64)], AV.i64 a3] [] (AV.b q0) [] := by
  refine Ev.start Try.func113 rfl rfl 0 (τ := [(0, AV.agg [AV.i64 a0, AV.i64 a1, AV.sl a2.length (a2.map AV.i64)]), (1, AV.i64 a3)]) rfl (Γ' := []) rfl (n := 32) rfl (g := 0) rfl ?_
  unfold f113 at h
  refine RunC.seq ?_
  refine RunC.regionW ?_
  refine ROps.d (r := AV.ptr [AV.i64 a0, AV.i64 a1, AV.sl a2.length (a2.map AV.i64)]) (fs := []) (Γ' := []) rfl rfl rfl (TOp.box_s rfl rfl rfl) rfl ?_
  refine ROps.l (r := AV.b false) rfl rfl rfl (LOp.assign rfl rfl) ?_
  refine ROps.nil ?_
  refine RunC.seq ?_
  obtain ⟨r1, hf1, h⟩ := obind_some h
  rcases bsel_some h with ⟨hc2, h⟩ | ⟨hc2, h⟩
  · obtain ⟨r2, hf3, h⟩ := obind_some h
    rcases bsel_some h with ⟨hc4, h⟩ | ⟨hc4, h⟩
    · obtain ⟨r3, hf5, h⟩ := obind_some h
      obtain ⟨x4, hx6, h⟩ := olet_some h
      rcases bsel_some h with ⟨hc7, h⟩ | ⟨hc7, h⟩
      · obtain ⟨x5, hx8, h⟩ := olet_some h
        obtain ⟨r6, hf9, h⟩ := obind_some h
        refine RunC.region_draw (Γ' := []) 28 mixed 
          (TR.l (r := AV.ptr [AV.i64 a0, AV.i64 a1, AV.sl a2.length (a2.map AV.i64)]) rfl rfl (LOp.fap und45 rfl siz2 rfl rfl rfl) <|
          (TR.l (r := AV.i64 a0) rfl rfl (LOp.load1 agg2 rfl rfl) <|
          (TR.d (r := AV.b true) (fs := []) rfl rfl (TOp.eqb (TOp.callB (CallAs.func ent103 rfl rfl) (Bors.cons (Bor.pure rfl) (Bors.cons (Bor.pure rfl) (Bors.cons (Bor.pure rfl) Bors.nil))) rfl rfl (f103_ok a0 1 6 r1 hf1)) hc2) <|
          (TR.l (r := AV.b true) rfl rfl (LOp.move rfl rfl) <|
          (TR.l (r := AV.ptr [AV.i64 a1, AV.sl a2.length (a2.map AV.i64)]) rfl rfl (LOp.fap und45 rfl siz2 rfl rfl rfl) <|
          (TR.l (r := AV.i64 a1) rfl rfl (LOp.load1 agg2 rfl rfl) <|
          (TR.d (r := AV.b true) (fs := []) rfl rfl (TOp.eqb (TOp.callB (CallAs.func ent103 rfl rfl) (Bors.cons (Bor.pure rfl) (Bors.cons (Bor.pure rfl) (Bors.cons (Bor.pure rfl) Bors.nil))) rfl rfl (f103_ok a1 1 6 r2 hf3)) hc4) <|
          (TR.l (r := AV.b true) rfl rfl (LOp.pick_true rfl rfl rfl) <|
          (TR.l (r := AV.b true) rfl rfl (LOp.move rfl rfl) <|
          (TR.l (r := AV.ptr [AV.sl a2.length (a2.map AV.i64)]) rfl rfl (LOp.fap und45 rfl siz43 rfl rfl rfl) <|
          (TR.l (r := AV.sl a2.length (a2.map AV.i64)) rfl rfl (LOp.load1 agg43 rfl rfl) <|
          (TR.d (r := AV.i64 r3) (fs := []) rfl rfl (TOp.callB (CallAs.func ent124 rfl rfl) (Bors.cons (Bor.sl (fun _ => rfl)) Bors.nil) rfl rfl (f124_ok a2 r3 hf5)) <|
          (TR.l (r := AV.ptr [AV.i64 a0, AV.i64 a1, AV.sl a2.length (a2.map AV.i64)]) rfl rfl (LOp.fap und45 rfl siz2 rfl rfl rfl) <|
          (TR.l (r := AV.i64 a0) rfl rfl (LOp.load1 agg2 rfl rfl) <|
          (TR.l (r := AV.ptr [AV.i64 a1, AV.sl a2.length (a2.map AV.i64)]) rfl rfl (LOp.fap und45 rfl siz2 rfl rfl rfl) <|
          (TR.l (r := AV.i64 a1) rfl rfl (LOp.load1 agg2 rfl rfl) <|
          (TR.l (r := AV.i64 x4) rfl rfl (LOp.eqr (LOp.mul rfl rfl rfl) (congrArg (AV.ik .i64) hx6)) <|
          (TR.l (r := AV.b true) rfl rfl (LOp.eqb (LOp.eql rfl rfl rfl) hc7) <|
          (TR.l (r := AV.b true) rfl rfl (LOp.pick_true rfl rfl rfl) <|
          (TR.l (r := AV.b true) rfl rfl (LOp.move rfl rfl) <|
          (TR.l (r := AV.ptr [AV.sl a2.length (a2.map AV.i64)]) rfl rfl (LOp.fap und45 rfl siz43 rfl rfl rfl) <|
          (TR.l (r := AV.sl a2.length (a2.map AV.i64)) rfl rfl (LOp.load1 agg43 rfl rfl) <|
          (TR.l (r := AV.i64 a3) rfl rfl (LOp.move rfl rfl) <|
          (TR.l (r := AV.i64 x5) rfl rfl (LOp.eqr (LOp.neg_int rfl rfl) (congrArg (AV.ik .i64) hx8)) <|
          (TR.l (r := AV.i64 a3) rfl rfl (LOp.move rfl rfl) <|
          (TR.d (r := AV.b r6) (fs := []) rfl rfl (TOp.callB (CallAs.func ent125 rfl rfl) (Bors.cons (Bor.sl (fun _ => rfl)) (Bors.cons (Bor.pure rfl) (Bors.cons (Bor.pure rfl) Bors.nil))) rfl rfl (f125_ok a2 x5 a3 r6 hf9)) <|
          (TR.l (r := AV.b r6) rfl rfl (LOp.pick_true rfl rfl rfl) <|
          (TR.l (r := AV.b r6) rfl rfl (LOp.assign rfl rfl) <|
          TR.nil)))))))))))))))))))))))))))) rfl (by kernel_rfl) rfl fills_nil rfl ?_
        iterate 28 refine ROps.dropS ?_
        refine ROps.drop0 ?_
        refine ROps.nil ?_
        refine RunC.ret ?_
        have hq := Option.some.inj h
        subst q0
        exact bodyQ.pure (.inr rfl) rfl (Res.one rfl (RV.tmp rfl))
      · refine RunC.region_draw (Γ' := []) 28 mixed 
          (TR.l (r := AV.ptr [AV.i64 a0, AV.i64 a1, AV.sl a2.length (a2.map AV.i64)]) rfl rfl (LOp.fap und45 rfl siz2 rfl rfl rfl) <|
          (TR.l (r := AV.i64 a0) rfl rfl (LOp.load1 agg2 rfl rfl) <|
          (TR.d (r := AV.b true) (fs := []) rfl rfl (TOp.eqb (TOp.callB (CallAs.func ent103 rfl rfl) (Bors.cons (Bor.pure rfl) (Bors.cons (Bor.pure rfl) (Bors.cons (Bor.pure rfl) Bors.nil))) rfl rfl (f103_ok a0 1 6 r1 hf1)) hc2) <|
          (TR.l (r := AV.b true) rfl rfl (LOp.move rfl rfl) <|
          (TR.l (r := AV.ptr [AV.i64 a1, AV.sl a2.length (a2.map AV.i64)]) rfl rfl (LOp.fap und45 rfl siz2 rfl rfl rfl) <|
          (TR.l (r := AV.i64 a1) rfl rfl (LOp.load1 agg2 rfl rfl) <|
          (TR.d (r := AV.b true) (fs := []) rfl rfl (TOp.eqb (TOp.callB (CallAs.func ent103 rfl rfl) (Bors.cons (Bor.pure rfl) (Bors.cons (Bor.pure rfl) (Bors.cons (Bor.pure rfl) Bors.nil))) rfl rfl (f103_ok a1 1 6 r2 hf3)) hc4) <|
          (TR.l (r := AV.b true) rfl rfl (LOp.pick_true rfl rfl rfl) <|
          (TR.l (r := AV.b true) rfl rfl (LOp.move rfl rfl) <|
          (TR.l (r := AV.ptr [AV.sl a2.length (a2.map AV.i64)]) rfl rfl (LOp.fap und45 rfl siz43 rfl rfl rfl) <|
          (TR.l (r := AV.sl a2.length (a2.map AV.i64)) rfl rfl (LOp.load1 agg43 rfl rfl) <|
          (TR.d (r := AV.i64 r3) (fs := []) rfl rfl (TOp.callB (CallAs.func ent124 rfl rfl) (Bors.cons (Bor.sl (fun _ => rfl)) Bors.nil) rfl rfl (f124_ok a2 r3 hf5)) <|
          (TR.l (r := AV.ptr [AV.i64 a0, AV.i64 a1, AV.sl a2.length (a2.map AV.i64)]) rfl rfl (LOp.fap und45 rfl siz2 rfl rfl rfl) <|
          (TR.l (r := AV.i64 a0) rfl rfl (LOp.load1 agg2 rfl rfl) <|
          (TR.l (r := AV.ptr [AV.i64 a1, AV.sl a2.length (a2.map AV.i64)]) rfl rfl (LOp.fap und45 rfl siz2 rfl rfl rfl) <|
          (TR.l (r := AV.i64 a1) rfl rfl (LOp.load1 agg2 rfl rfl) <|
          (TR.l (r := AV.i64 x4) rfl rfl (LOp.eqr (LOp.mul rfl rfl rfl) (congrArg (AV.ik .i64) hx6)) <|
          (TR.l (r := AV.b false) rfl rfl (LOp.eqb (LOp.eql rfl rfl rfl) hc7) <|
          (TR.l (r := AV.b false) rfl rfl (LOp.pick_true rfl rfl rfl) <|
          (TR.l (r := AV.b false) rfl rfl (LOp.move rfl rfl) <|
          (TR.s rfl rfl <|
          (TR.s rfl rfl <|
          (TR.s rfl rfl <|
          (TR.s rfl rfl <|
          (TR.s rfl rfl <|
          (TR.s rfl rfl <|
          (TR.l (r := AV.b false) rfl rfl (LOp.pick_false rfl rfl rfl) <|
          (TR.l (r := AV.b false) rfl rfl (LOp.assign rfl rfl) <|
          TR.nil)))))))))))))))))))))))))))) rfl (by kernel_rfl) rfl fills_nil rfl ?_
        iterate 28 refine ROps.dropS ?_
        refine ROps.drop0 ?_
        refine ROps.nil ?_
        refine RunC.ret ?_
        have hq := Option.some.inj h
        subst q0
        exact bodyQ.pure (.inr rfl) rfl (Res.one rfl (RV.tmp rfl))
    · refine RunC.region_draw (Γ' := []) 28 mixed 
        (TR.l (r := AV.ptr [AV.i64 a0, AV.i64 a1, AV.sl a2.length (a2.map AV.i64)]) rfl rfl (LOp.fap und45 rfl siz2 rfl rfl rfl) <|
        (TR.l (r := AV.i64 a0) rfl rfl (LOp.load1 agg2 rfl rfl) <|
        (TR.d (r := AV.b true) (fs := []) rfl rfl (TOp.eqb (TOp.callB (CallAs.func ent103 rfl rfl) (Bors.cons (Bor.pure rfl) (Bors.cons (Bor.pure rfl) (Bors.cons (Bor.pure rfl) Bors.nil))) rfl rfl (f103_ok a0 1 6 r1 hf1)) hc2) <|
        (TR.l (r := AV.b true) rfl rfl (LOp.move rfl rfl) <|
        (TR.l (r := AV.ptr [AV.i64 a1, AV.sl a2.length (a2.map AV.i64)]) rfl rfl (LOp.fap und45 rfl siz2 rfl rfl rfl) <|
        (TR.l (r := AV.i64 a1) rfl rfl (LOp.load1 agg2 rfl rfl) <|
        (TR.d (r := AV.b false) (fs := []) rfl rfl (TOp.eqb (TOp.callB (CallAs.func ent103 rfl rfl) (Bors.cons (Bor.pure rfl) (Bors.cons (Bor.pure rfl) (Bors.cons (Bor.pure rfl) Bors.nil))) rfl rfl (f103_ok a1 1 6 r2 hf3)) hc4) <|
        (TR.l (r := AV.b false) rfl rfl (LOp.pick_true rfl rfl rfl) <|
        (TR.l (r := AV.b false) rfl rfl (LOp.move rfl rfl) <|
        (TR.s rfl rfl <|
        (TR.s rfl rfl <|
        (TR.s rfl rfl <|
        (TR.s rfl rfl <|
        (TR.s rfl rfl <|
        (TR.s rfl rfl <|
        (TR.s rfl rfl <|
        (TR.s rfl rfl <|
        (TR.s rfl rfl <|
        (TR.l (r := AV.b false) rfl rfl (LOp.pick_false rfl rfl rfl) <|
        (TR.l (r := AV.b false) rfl rfl (LOp.move rfl rfl) <|
        (TR.s rfl rfl <|
        (TR.s rfl rfl <|
        (TR.s rfl rfl <|
        (TR.s rfl rfl <|
        (TR.s rfl rfl <|
        (TR.s rfl rfl <|
        (TR.l (r := AV.b false) rfl rfl (LOp.pick_false rfl rfl rfl) <|
        (TR.l (r := AV.b false) rfl rfl (LOp.assign rfl rfl) <|
        TR.nil)))))))))))))))))))))))))))) rfl (by kernel_rfl) rfl fills_nil rfl ?_
      iterate 28 refine ROps.dropS ?_
      refine ROps.drop0 ?_
      refine ROps.nil ?_
      refine RunC.ret ?_
      have hq := Option.some.inj h
      subst q0
      exact bodyQ.pure (.inr rfl) rfl (Res.one rfl (RV.tmp rfl))
  · refine RunC.region_draw (Γ' := []) 28 mixed 
      (TR.l (r := AV.ptr [AV.i64 a0, AV.i64 a1, AV.sl a2.length (a2.map AV.i64)]) rfl rfl (LOp.fap und45 rfl siz2 rfl rfl rfl) <|
      (TR.l (r := AV.i64 a0) rfl rfl (LOp.load1 agg2 rfl rfl) <|
      (TR.d (r := AV.b false) (fs := []) rfl rfl (TOp.eqb (TOp.callB (CallAs.func ent103 rfl rfl) (Bors.cons (Bor.pure rfl) (Bors.cons (Bor.pure rfl) (Bors.cons (Bor.pure rfl) Bors.nil))) rfl rfl (f103_ok a0 1 6 r1 hf1)) hc2) <|
      (TR.l (r := AV.b false) rfl rfl (LOp.move rfl rfl) <|
      (TR.s rfl rfl <|
      (TR.s rfl rfl <|
      (TR.s rfl rfl <|
      (TR.l (r := AV.b false) rfl rfl (LOp.pick_false rfl rfl rfl) <|
      (TR.l (r := AV.b false) rfl rfl (LOp.move rfl rfl) <|
      (TR.s rfl rfl <|
      (TR.s rfl rfl <|
      (TR.s rfl rfl <|
      (TR.s rfl rfl <|
      (TR.s rfl rfl <|
      (TR.s rfl rfl <|
      (TR.s rfl rfl <|
      (TR.s rfl rfl <|
      (TR.s rfl rfl <|
      (TR.l (r := AV.b false) rfl rfl (LOp.pick_false rfl rfl rfl) <|
      (TR.l (r := AV.b false) rfl rfl (LOp.move rfl rfl) <|
      (TR.s rfl rfl <|
      (TR.s rfl rfl <|
      (TR.s rfl rfl <|
      (TR.s rfl rfl <|
      (TR.s rfl rfl <|
      (TR.s rfl rfl <|
      (TR.l (r := AV.b false) rfl rfl (LOp.pick_false rfl rfl rfl) <|
      (TR.l (r := AV.b false) rfl rfl (LOp.assign rfl rfl) <|
      TR.nil)))))))))))))))))))))))))))) rfl (by kernel_rfl) rfl fills_nil rfl ?_
    iterate 28 refine ROps.dropS ?_
    refine ROps.drop0 ?_
    refine ROps.nil ?_
    refine RunC.ret ?_
    have hq := Option.some.inj h
    subst q0
    exact bodyQ.pure (.inr rfl) rfl (Res.one rfl (RV.tmp rfl))
noncomputable def f82 (a0 : Int) (a1 : Int) (a2 : List Int) : Option (Bool) :=
  obind (f113 a0 a1 a2 1000000) fun (r1 : Bool) =>
  some r1
theorem f82_ok (a0 : Int) (a1 : Int) (a2 : List Int) (q0 : Bool) (h : f82 a0 a1 a2 = some q0) : Ev Try.prog 82 [AV.agg [AV.i64 a0, AV.i64 a1, AV.sl a2.length (a2.map AV.i64)]] [] (AV.b q0) [] := by
  refine Ev.start Try.func82 rfl rfl 0 (τ := [(0, AV.agg [AV.i64 a0, AV.i64 a1, AV.sl a2.length (a2.map AV.i64)])]) rfl (Γ' := []) rfl (n := 5) rfl (g := 0) rfl ?_
  unfold f82 at h
  refine RunC.seq ?_
  refine RunC.regionW ?_
  refine ROps.d (r := AV.ptr [AV.i64 a0, AV.i64 a1, AV.sl a2.length (a2.map AV.i64)]) (fs := []) (Γ' := []) rfl rfl rfl (TOp.box_s rfl rfl rfl) rfl ?_
  refine ROps.l (r := AV.b false) rfl rfl rfl (LOp.assign rfl rfl) ?_
  refine ROps.nil ?_
  refine RunC.seq ?_
  obtain ⟨r1, hf1, h⟩ := obind_some h
  refine RunC.regionW ?_
  refine ROps.l (r := AV.agg [AV.i64 a0, AV.i64 a1, AV.sl a2.length (a2.map AV.i64)]) rfl rfl rfl (LOp.loadAgg agg45 siz45 rfl rfl rfl rfl) ?_
  refine ROps.d (r := AV.b r1) (fs := []) (Γ' := []) rfl rfl rfl (TOp.callB (CallAs.func ent113 rfl rfl) (Bors.cons (Bor.agg (Bors.cons (Bor.pure rfl) (Bors.cons (Bor.pure rfl) (Bors.cons (Bor.sl (fun _ => rfl)) Bors.nil)))) (Bors.cons (Bor.pure rfl) Bors.nil)) rfl rfl (f113_ok a0 a1 a2 1000000 r1 hf1)) rfl ?_
  refine ROps.l (r := AV.b r1) rfl rfl rfl (LOp.assign rfl rfl) ?_
  refine ROps.nil ?_
  refine RunC.ret ?_
  have hq := Option.some.inj h
  subst q0
  exact bodyQ.pure (.inr rfl) rfl (Res.one rfl (RV.tmp rfl))
noncomputable def f36 (a0 : Int) (a1 : Int) (a2 : List F) (a3 : List F) (a4 : List F) (a5 : List F) (a6 : Int) (a7 : Int) (a8 : List Int) : Option (Bool) :=
  obind (f62 a0 a1 a2) fun (r1 : Bool) =>
  bsel r1 (
    obind (f80 a3) fun (r2 : Bool) =>
    bsel r2 (
      obind (f81 a4 a5) fun (r3 : Bool) =>
      bsel r3 (
        obind (f82 a6 a7 a8) fun (r4 : Bool) =>
        some r4) (
        some false)) (
      some false)) (
    some false)
theorem f36_ok (a0 : Int) (a1 : Int) (a2 : List F) (a3 : List F) (a4 : List F) (a5 : List F) (a6 : Int) (a7 : Int) (a8 : List Int) (q0 : Bool) (h : f36 a0 a1 a2 a3 a4 a5 a6 a7 a8 = some q0) : Ev Try.prog 36 [AV.agg [AV.i64 a0, AV.i64 a1, AV.sl a2.length (a2.map AV.f32), AV.sl a3.length (a3.map AV.f32), AV.sl a4.length (a4.map AV.f32), AV.sl a5.length (a5.map AV.f32), AV.i64 a6, AV.i64 a7, AV.sl a8.length (a8.map AV.i64)]] [] (AV.b q0) [] := by
  refine Ev.start Try.func36 rfl rfl 0 (τ := [(0, AV.agg [AV.i64 a0, AV.i64 a1, AV.sl a2.length (a2.map AV.f32), AV.sl a3.length (a3.map AV.f32), AV.sl a4.length (a4.map AV.f32), AV.sl a5.length (a5.map AV.f32), AV.i64 a6, AV.i64 a7, AV.sl a8.length (a8.map AV.i64)])]) rfl (Γ' := []) rfl (n := 21) rfl (g := 0) rfl ?_
  unfold f36 at h
  refine RunC.seq ?_
  refine RunC.regionW ?_
  refine ROps.d (r := AV.ptr [AV.i64 a0, AV.i64 a1, AV.sl a2.length (a2.map AV.f32), AV.sl a3.length (a3.map AV.f32), AV.sl a4.length (a4.map AV.f32), AV.sl a5.length (a5.map AV.f32), AV.i64 a6, AV.i64 a7, AV.sl a8.length (a8.map AV.i64)]) (fs := []) (Γ' := []) rfl rfl rfl (TOp.box_s rfl rfl rfl) rfl ?_
  refine ROps.l (r := AV.b false) rfl rfl rfl (LOp.assign rfl rfl) ?_
  refine ROps.nil ?_
  refine RunC.seq ?_
  obtain ⟨r1, hf1, h⟩ := obind_some h
  rcases bsel_some h with ⟨hc2, h⟩ | ⟨hc2, h⟩
  · obtain ⟨r2, hf3, h⟩ := obind_some h
    rcases bsel_some h with ⟨hc4, h⟩ | ⟨hc4, h⟩
    · obtain ⟨r3, hf5, h⟩ := obind_some h
      rcases bsel_some h with ⟨hc6, h⟩ | ⟨hc6, h⟩
      · obtain ⟨r4, hf7, h⟩ := obind_some h
        refine RunC.regionW ?_
        refine ROps.l (r := AV.ptr [AV.i64 a0, AV.i64 a1, AV.sl a2.length (a2.map AV.f32), AV.sl a3.length (a3.map AV.f32), AV.sl a4.length (a4.map AV.f32), AV.sl a5.length (a5.map AV.f32), AV.i64 a6, AV.i64 a7, AV.sl a8.length (a8.map AV.i64)]) rfl rfl rfl (LOp.fap und47 rfl siz40 rfl rfl rfl) ?_
        refine ROps.l (r := AV.agg [AV.i64 a0, AV.i64 a1, AV.sl a2.length (a2.map AV.f32)]) rfl rfl rfl (LOp.loadAgg agg40 siz40 rfl rfl rfl rfl) ?_
        refine ROps.d (r := AV.b true) (fs := []) (Γ' := []) rfl rfl rfl (TOp.eqb (TOp.callB (CallAs.func ent62 rfl rfl) (Bors.cons (Bor.agg (Bors.cons (Bor.pure rfl) (Bors.cons (Bor.pure rfl) (Bors.cons (Bor.sl (fun _ => rfl)) Bors.nil)))) Bors.nil) rfl rfl (f62_ok a0 a1 a2 r1 hf1)) hc2) rfl ?_
        refine ROps.l (r := AV.b true) rfl rfl rfl (LOp.move rfl rfl) ?_
        refine ROps.l (r := AV.ptr [AV.sl a3.length (a3.map AV.f32), AV.sl a4.length (a4.map AV.f32), AV.sl a5.length (a5.map AV.f32), AV.i64 a6, AV.i64 a7, AV.sl a8.length (a8.map AV.i64)]) rfl rfl rfl (LOp.fap und47 rfl siz38 rfl rfl rfl) ?_
        refine ROps.l (r := AV.sl a3.length (a3.map AV.f32)) rfl rfl rfl (LOp.load1 agg38 rfl rfl) ?_
        refine ROps.d (r := AV.b true) (fs := []) (Γ' := []) rfl rfl rfl (TOp.eqb (TOp.callB (CallAs.func ent80 rfl rfl) (Bors.cons (Bor.sl (fun _ => rfl)) Bors.nil) rfl rfl (f80_ok a3 r2 hf3)) hc4) rfl ?_
        refine ROps.l (r := AV.b true) rfl rfl rfl (LOp.pick_true rfl rfl rfl) ?_
        refine ROps.l (r := AV.b true) rfl rfl rfl (LOp.move rfl rfl) ?_
        refine ROps.l (r := AV.ptr [AV.sl a4.length (a4.map AV.f32), AV.sl a5.length (a5.map AV.f32), AV.i64 a6, AV.i64 a7, AV.sl a8.length (a8.map AV.i64)]) rfl rfl rfl (LOp.fap und47 rfl siz42 rfl rfl rfl) ?_
        refine ROps.l (r := AV.agg [AV.sl a4.length (a4.map AV.f32), AV.sl a5.length (a5.map AV.f32)]) rfl rfl rfl (LOp.loadAgg agg42 siz42 rfl rfl rfl rfl) ?_
        refine ROps.d (r := AV.b true) (fs := []) (Γ' := []) rfl rfl rfl (TOp.eqb (TOp.callB (CallAs.func ent81 rfl rfl) (Bors.cons (Bor.agg (Bors.cons (Bor.sl (fun _ => rfl)) (Bors.cons (Bor.sl (fun _ => rfl)) Bors.nil))) Bors.nil) rfl rfl (f81_ok a4 a5 r3 hf5)) hc6) rfl ?_
        refine ROps.l (r := AV.b true) rfl rfl rfl (LOp.pick_true rfl rfl rfl) ?_
        refine ROps.l (r := AV.b true) rfl rfl rfl (LOp.move rfl rfl) ?_
        refine ROps.l (r := AV.ptr [AV.i64 a6, AV.i64 a7, AV.sl a8.length (a8.map AV.i64)]) rfl rfl rfl (LOp.fap und47 rfl siz45 rfl rfl rfl) ?_
        refine ROps.l (r := AV.agg [AV.i64 a6, AV.i64 a7, AV.sl a8.length (a8.map AV.i64)]) rfl rfl rfl (LOp.loadAgg agg45 siz45 rfl rfl rfl rfl) ?_
        refine ROps.d (r := AV.b r4) (fs := []) (Γ' := []) rfl rfl rfl (TOp.callB (CallAs.func ent82 rfl rfl) (Bors.cons (Bor.agg (Bors.cons (Bor.pure rfl) (Bors.cons (Bor.pure rfl) (Bors.cons (Bor.sl (fun _ => rfl)) Bors.nil)))) Bors.nil) rfl rfl (f82_ok a6 a7 a8 r4 hf7)) rfl ?_
        refine ROps.l (r := AV.b r4) rfl rfl rfl (LOp.pick_true rfl rfl rfl) ?_
        refine ROps.l (r := AV.b r4) rfl rfl rfl (LOp.assign rfl rfl) ?_
        refine ROps.nil ?_
        refine RunC.ret ?_
        have hq := Option.some.inj h
        subst q0
        exact bodyQ.pure (.inr rfl) rfl (Res.one rfl (RV.tmp rfl))
      · refine RunC.regionW ?_
        refine ROps.l (r := AV.ptr [AV.i64 a0, AV.i64 a1, AV.sl a2.length (a2.map AV.f32), AV.sl a3.length (a3.map AV.f32), AV.sl a4.length (a4.map AV.f32), AV.sl a5.length (a5.map AV.f32), AV.i64 a6, AV.i64 a7, AV.sl a8.length (a8.map AV.i64)]) rfl rfl rfl (LOp.fap und47 rfl siz40 rfl rfl rfl) ?_
        refine ROps.l (r := AV.agg [AV.i64 a0, AV.i64 a1, AV.sl a2.length (a2.map AV.f32)]) rfl rfl rfl (LOp.loadAgg agg40 siz40 rfl rfl rfl rfl) ?_
        refine ROps.d (r := AV.b true) (fs := []) (Γ' := []) rfl rfl rfl (TOp.eqb (TOp.callB (CallAs.func ent62 rfl rfl) (Bors.cons (Bor.agg (Bors.cons (Bor.pure rfl) (Bors.cons (Bor.pure rfl) (Bors.cons (Bor.sl (fun _ => rfl)) Bors.nil)))) Bors.nil) rfl rfl (f62_ok a0 a1 a2 r1 hf1)) hc2) rfl ?_
        refine ROps.l (r := AV.b true) rfl rfl rfl (LOp.move rfl rfl) ?_
        refine ROps.l (r := AV.ptr [AV.sl a3.length (a3.map AV.f32), AV.sl a4.length (a4.map AV.f32), AV.sl a5.length (a5.map AV.f32), AV.i64 a6, AV.i64 a7, AV.sl a8.length (a8.map AV.i64)]) rfl rfl rfl (LOp.fap und47 rfl siz38 rfl rfl rfl) ?_
        refine ROps.l (r := AV.sl a3.length (a3.map AV.f32)) rfl rfl rfl (LOp.load1 agg38 rfl rfl) ?_
        refine ROps.d (r := AV.b true) (fs := []) (Γ' := []) rfl rfl rfl (TOp.eqb (TOp.callB (CallAs.func ent80 rfl rfl) (Bors.cons (Bor.sl (fun _ => rfl)) Bors.nil) rfl rfl (f80_ok a3 r2 hf3)) hc4) rfl ?_
        refine ROps.l (r := AV.b true) rfl rfl rfl (LOp.pick_true rfl rfl rfl) ?_
        refine ROps.l (r := AV.b true) rfl rfl rfl (LOp.move rfl rfl) ?_
        refine ROps.l (r := AV.ptr [AV.sl a4.length (a4.map AV.f32), AV.sl a5.length (a5.map AV.f32), AV.i64 a6, AV.i64 a7, AV.sl a8.length (a8.map AV.i64)]) rfl rfl rfl (LOp.fap und47 rfl siz42 rfl rfl rfl) ?_
        refine ROps.l (r := AV.agg [AV.sl a4.length (a4.map AV.f32), AV.sl a5.length (a5.map AV.f32)]) rfl rfl rfl (LOp.loadAgg agg42 siz42 rfl rfl rfl rfl) ?_
        refine ROps.d (r := AV.b false) (fs := []) (Γ' := []) rfl rfl rfl (TOp.eqb (TOp.callB (CallAs.func ent81 rfl rfl) (Bors.cons (Bor.agg (Bors.cons (Bor.sl (fun _ => rfl)) (Bors.cons (Bor.sl (fun _ => rfl)) Bors.nil))) Bors.nil) rfl rfl (f81_ok a4 a5 r3 hf5)) hc6) rfl ?_
        refine ROps.l (r := AV.b false) rfl rfl rfl (LOp.pick_true rfl rfl rfl) ?_
        refine ROps.l (r := AV.b false) rfl rfl rfl (LOp.move rfl rfl) ?_
        refine ROps.s rfl rfl rfl ?_
        refine ROps.s rfl rfl rfl ?_
        refine ROps.s rfl rfl rfl ?_
        refine ROps.l (r := AV.b false) rfl rfl rfl (LOp.pick_false rfl rfl rfl) ?_
        refine ROps.l (r := AV.b false) rfl rfl rfl (LOp.assign rfl rfl) ?_
        refine ROps.nil ?_
        refine RunC.ret ?_
        have hq := Option.some.inj h
        subst q0
        exact bodyQ.pure (.inr rfl) rfl (Res.one rfl (RV.tmp rfl))
    · refine RunC.regionW ?_
      refine ROps.l (r := AV.ptr [AV.i64 a0, AV.i64 a1, AV.sl a2.length (a2.map AV.f32), AV.sl a3.length (a3.map AV.f32), AV.sl a4.length (a4.map AV.f32), AV.sl a5.length (a5.map AV.f32), AV.i64 a6, AV.i64 a7, AV.sl a8.length (a8.map AV.i64)]) rfl rfl rfl (LOp.fap und47 rfl siz40 rfl rfl rfl) ?_
      refine ROps.l (r := AV.agg [AV.i64 a0, AV.i64 a1, AV.sl a2.length (a2.map AV.f32)]) rfl rfl rfl (LOp.loadAgg agg40 siz40 rfl rfl rfl rfl) ?_
      refine ROps.d (r := AV.b true) (fs := []) (Γ' := []) rfl rfl rfl (TOp.eqb (TOp.callB (CallAs.func ent62 rfl rfl) (Bors.cons (Bor.agg (Bors.cons (Bor.pure rfl) (Bors.cons (Bor.pure rfl) (Bors.cons (Bor.sl (fun _ => rfl)) Bors.nil)))) Bors.nil) rfl rfl (f62_ok a0 a1 a2 r1 hf1)) hc2) rfl ?_
      refine ROps.l (r := AV.b true) rfl rfl rfl (LOp.move rfl rfl) ?_
      refine ROps.l (r := AV.ptr [AV.sl a3.length (a3.map AV.f32), AV.sl a4.length (a4.map AV.f32), AV.sl a5.length (a5.map AV.f32), AV.i64 a6, AV.i64 a7, AV.sl a8.length (a8.map AV.i64)]) rfl rfl rfl (LOp.fap und47 rfl siz38 rfl rfl rfl) ?_
      refine ROps.l (r := AV.sl a3.length (a3.map AV.f32)) rfl rfl rfl (LOp.load1 agg38 rfl rfl) ?_
      refine ROps.d (r := AV.b false) (fs := []) (Γ' := []) rfl rfl rfl (TOp.eqb (TOp.callB (CallAs.func ent80 rfl rfl) (Bors.cons (Bor.sl (fun _ => rfl)) Bors.nil) rfl rfl (f80_ok a3 r2 hf3)) hc4) rfl ?_
      refine ROps.l (r := AV.b false) rfl rfl rfl (LOp.pick_true rfl rfl rfl) ?_
      refine ROps.l (r := AV.b false) rfl rfl rfl (LOp.move rfl rfl) ?_
      refine ROps.s rfl rfl rfl ?_
      refine ROps.s rfl rfl rfl ?_
      refine ROps.s rfl rfl rfl ?_
      refine ROps.l (r := AV.b false) rfl rfl rfl (LOp.pick_false rfl rfl rfl) ?_
      refine ROps.l (r := AV.b false) rfl rfl rfl (LOp.move rfl rfl) ?_
      refine ROps.s rfl rfl rfl ?_
      refine ROps.s rfl rfl rfl ?_
      refine ROps.s rfl rfl rfl ?_
      refine ROps.l (r := AV.b false) rfl rfl rfl (LOp.pick_false rfl rfl rfl) ?_
      refine ROps.l (r := AV.b false) rfl rfl rfl (LOp.assign rfl rfl) ?_
      refine ROps.nil ?_
      refine RunC.ret ?_
      have hq := Option.some.inj h
      subst q0
      exact bodyQ.pure (.inr rfl) rfl (Res.one rfl (RV.tmp rfl))
  · refine RunC.regionW ?_
    refine ROps.l (r := AV.ptr [AV.i64 a0, AV.i64 a1, AV.sl a2.length (a2.map AV.f32), AV.sl a3.length (a3.map AV.f32), AV.sl a4.length (a4.map AV.f32), AV.sl a5.length (a5.map AV.f32), AV.i64 a6, AV.i64 a7, AV.sl a8.length (a8.map AV.i64)]) rfl rfl rfl (LOp.fap und47 rfl siz40 rfl rfl rfl) ?_
    refine ROps.l (r := AV.agg [AV.i64 a0, AV.i64 a1, AV.sl a2.length (a2.map AV.f32)]) rfl rfl rfl (LOp.loadAgg agg40 siz40 rfl rfl rfl rfl) ?_
    refine ROps.d (r := AV.b false) (fs := []) (Γ' := []) rfl rfl rfl (TOp.eqb (TOp.callB (CallAs.func ent62 rfl rfl) (Bors.cons (Bor.agg (Bors.cons (Bor.pure rfl) (Bors.cons (Bor.pure rfl) (Bors.cons (Bor.sl (fun _ => rfl)) Bors.nil)))) Bors.nil) rfl rfl (f62_ok a0 a1 a2 r1 hf1)) hc2) rfl ?_
    refine ROps.l (r := AV.b false) rfl rfl rfl (LOp.move rfl rfl) ?_
    refine ROps.s rfl rfl rfl ?_
    refine ROps.s rfl rfl rfl ?_
    refine ROps.s rfl rfl rfl ?_
    refine ROps.l (r := AV.b false) rfl rfl rfl (LOp.pick_false rfl rfl rfl) ?_
    refine ROps.l (r := AV.b false) rfl rfl rfl (LOp.move rfl rfl) ?_
    refine ROps.s rfl rfl rfl ?_
    refine ROps.s rfl rfl rfl ?_
    refine ROps.s rfl rfl rfl ?_
    refine ROps.l (r := AV.b false) rfl rfl rfl (LOp.pick_false rfl rfl rfl) ?_
    refine ROps.l (r := AV.b false) rfl rfl rfl (LOp.move rfl rfl) ?_
    refine ROps.s rfl rfl rfl ?_
    refine ROps.s rfl rfl rfl ?_
    refine ROps.s rfl rfl rfl ?_
    refine ROps.l (r := AV.b false) rfl rfl rfl (LOp.pick_false rfl rfl rfl) ?_
    refine ROps.l (r := AV.b false) rfl rfl rfl (LOp.assign rfl rfl) ?_
    refine ROps.nil ?_
    refine RunC.ret ?_
    have hq := Option.some.inj h
    subst q0
    exact bodyQ.pure (.inr rfl) rfl (Res.one rfl (RV.tmp rfl))
end Go.Proofs.Ytmgjiomflefedaa
