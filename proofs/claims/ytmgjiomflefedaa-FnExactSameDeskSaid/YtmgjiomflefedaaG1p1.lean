/- Generated. -/
import Derived.Test.YtmgjiomflefedaaG1p0
namespace Go.Proofs.Ytmgjiomflefedaa
open Go Go.AM
set_option maxRecDepth 20000
set_option maxHeartbeats 4000000
noncomputable def f21 (a0 : Int) (a1 : Int) (a2 : List F) (a3 : List F) (a4 : List F) (a5 : List F) (a6 : Int) (a7 : Int) (a8 : List Int) (a9 : Int) (a10 : Int) (a11 : List F) (a12 : List F) (a13 : List F) (a14 : List F) (a15 : Int) (a16 : Int) (a17 : List Int) : Option (Bool) :=
  obind (f28 a0 a1 a2 a9 a10 a11) fun (r1 : Bool) =>
  bsel r1 (
    obind (f48 a3 a12) fun (r2 : Bool) =>
    bsel r2 (
      obind (f49 a4 a5 a13 a14) fun (r3 : Bool) =>
      bsel r3 (
        obind (f50 a6 a7 a8 a15 a16 a17) fun (r4 : Bool) =>
        bsel r4 (
          some true) (
          some false)) (
        some false)) (
      some false)) (
    some false)
theorem f21_ok (a0 : Int) (a1 : Int) (a2 : List F) (a3 : List F) (a4 : List F) (a5 : List F) (a6 : Int) (a7 : Int) (a8 : List Int) (a9 : Int) (a10 : Int) (a11 : List F) (a12 : List F) (a13 : List F) (a14 : List F) (a15 : Int) (a16 : Int) (a17 : List Int) (q0 : Bool) (h : f21 a0 a1 a2 a3 a4 a5 a6 a7 a8 a9 a10 a11 a12 a13 a14 a15 a16 a17 = some q0) : Ev Try.prog 21 [AV.agg [AV.i64 a0, AV.i64 a1, AV.sl a2.length (a2.map AV.f32), AV.sl a3.length (a3.map AV.f32), AV.sl a4.length (a4.map AV.f32), AV.sl a5.length (a5.map AV.f32), AV.i64 a6, AV.i64 a7, AV.sl a8.length (a8.map AV.i64)], AV.agg [AV.i64 a9, AV.i64 a10, AV.sl a11.length (a11.map AV.f32), AV.sl a12.length (a12.map AV.f32), AV.sl a13.length (a13.map AV.f32), AV.sl a14.length (a14.map AV.f32), AV.i64 a15, AV.i64 a16, AV.sl a17.length (a17.map AV.i64)]] [] (AV.b q0) [] := by
  refine Ev.start Try.func21 rfl rfl 0 (τ := [(0, AV.agg [AV.i64 a0, AV.i64 a1, AV.sl a2.length (a2.map AV.f32), AV.sl a3.length (a3.map AV.f32), AV.sl a4.length (a4.map AV.f32), AV.sl a5.length (a5.map AV.f32), AV.i64 a6, AV.i64 a7, AV.sl a8.length (a8.map AV.i64)]), (1, AV.agg [AV.i64 a9, AV.i64 a10, AV.sl a11.length (a11.map AV.f32), AV.sl a12.length (a12.map AV.f32), AV.sl a13.length (a13.map AV.f32), AV.sl a14.length (a14.map AV.f32), AV.i64 a15, AV.i64 a16, AV.sl a17.length (a17.map AV.i64)])]) rfl (Γ' := []) rfl (n := 29) rfl (g := 0) rfl ?_
  unfold f21 at h
  refine RunC.seq ?_
  refine RunC.regionW ?_
  refine ROps.d (r := AV.ptr [AV.i64 a0, AV.i64 a1, AV.sl a2.length (a2.map AV.f32), AV.sl a3.length (a3.map AV.f32), AV.sl a4.length (a4.map AV.f32), AV.sl a5.length (a5.map AV.f32), AV.i64 a6, AV.i64 a7, AV.sl a8.length (a8.map AV.i64)]) (fs := []) (Γ' := []) rfl rfl rfl (TOp.box_s rfl rfl rfl) rfl ?_
  refine ROps.d (r := AV.ptr [AV.i64 a9, AV.i64 a10, AV.sl a11.length (a11.map AV.f32), AV.sl a12.length (a12.map AV.f32), AV.sl a13.length (a13.map AV.f32), AV.sl a14.length (a14.map AV.f32), AV.i64 a15, AV.i64 a16, AV.sl a17.length (a17.map AV.i64)]) (fs := []) (Γ' := []) rfl rfl rfl (TOp.box_s rfl rfl rfl) rfl ?_
  refine ROps.l (r := AV.b false) rfl rfl rfl (LOp.assign rfl rfl) ?_
  refine ROps.nil ?_
  refine RunC.seq ?_
  refine RunC.seq ?_
  obtain ⟨r1, hf1, h⟩ := obind_some h
  rcases bsel_some h with ⟨hc2, h⟩ | ⟨hc2, h⟩
  · refine RunC.regionW ?_
    refine ROps.l (r := AV.ptr [AV.i64 a0, AV.i64 a1, AV.sl a2.length (a2.map AV.f32), AV.sl a3.length (a3.map AV.f32), AV.sl a4.length (a4.map AV.f32), AV.sl a5.length (a5.map AV.f32), AV.i64 a6, AV.i64 a7, AV.sl a8.length (a8.map AV.i64)]) rfl rfl rfl (LOp.fap und47 rfl siz40 rfl rfl rfl) ?_
    refine ROps.l (r := AV.agg [AV.i64 a0, AV.i64 a1, AV.sl a2.length (a2.map AV.f32)]) rfl rfl rfl (LOp.loadAgg agg40 siz40 rfl rfl rfl rfl) ?_
    refine ROps.l (r := AV.ptr [AV.i64 a9, AV.i64 a10, AV.sl a11.length (a11.map AV.f32), AV.sl a12.length (a12.map AV.f32), AV.sl a13.length (a13.map AV.f32), AV.sl a14.length (a14.map AV.f32), AV.i64 a15, AV.i64 a16, AV.sl a17.length (a17.map AV.i64)]) rfl rfl rfl (LOp.fap und47 rfl siz40 rfl rfl rfl) ?_
    refine ROps.l (r := AV.agg [AV.i64 a9, AV.i64 a10, AV.sl a11.length (a11.map AV.f32)]) rfl rfl rfl (LOp.loadAgg agg40 siz40 rfl rfl rfl rfl) ?_
    refine ROps.d (r := AV.b true) (fs := []) (Γ' := []) rfl rfl rfl (TOp.eqb (TOp.callB (CallAs.func ent28 rfl rfl) (Bors.cons (Bor.agg (Bors.cons (Bor.pure rfl) (Bors.cons (Bor.pure rfl) (Bors.cons (Bor.sl (fun _ => rfl)) Bors.nil)))) (Bors.cons (Bor.agg (Bors.cons (Bor.pure rfl) (Bors.cons (Bor.pure rfl) (Bors.cons (Bor.sl (fun _ => rfl)) Bors.nil)))) Bors.nil)) rfl rfl (f28_ok a0 a1 a2 a9 a10 a11 r1 hf1)) hc2) rfl ?_
    refine ROps.l (r := AV.b false) rfl rfl rfl (LOp.eqb (LOp.not rfl rfl) rfl) ?_
    refine ROps.nil ?_
    refine RunC.cond_false rfl rfl ?_
    refine RunC.skip ?_
    refine RunC.seq ?_
    refine RunC.seq ?_
    obtain ⟨r2, hf3, h⟩ := obind_some h
    rcases bsel_some h with ⟨hc4, h⟩ | ⟨hc4, h⟩
    · refine RunC.regionW ?_
      refine ROps.l (r := AV.ptr [AV.sl a3.length (a3.map AV.f32), AV.sl a4.length (a4.map AV.f32), AV.sl a5.length (a5.map AV.f32), AV.i64 a6, AV.i64 a7, AV.sl a8.length (a8.map AV.i64)]) rfl rfl rfl (LOp.fap und47 rfl siz38 rfl rfl rfl) ?_
      refine ROps.l (r := AV.sl a3.length (a3.map AV.f32)) rfl rfl rfl (LOp.load1 agg38 rfl rfl) ?_
      refine ROps.l (r := AV.ptr [AV.sl a12.length (a12.map AV.f32), AV.sl a13.length (a13.map AV.f32), AV.sl a14.length (a14.map AV.f32), AV.i64 a15, AV.i64 a16, AV.sl a17.length (a17.map AV.i64)]) rfl rfl rfl (LOp.fap und47 rfl siz38 rfl rfl rfl) ?_
      refine ROps.l (r := AV.sl a12.length (a12.map AV.f32)) rfl rfl rfl (LOp.load1 agg38 rfl rfl) ?_
      refine ROps.d (r := AV.b true) (fs := []) (Γ' := []) rfl rfl rfl (TOp.eqb (TOp.callB (CallAs.func ent48 rfl rfl) (Bors.cons (Bor.sl (fun _ => rfl)) (Bors.cons (Bor.sl (fun _ => rfl)) Bors.nil)) rfl rfl (f48_ok a3 a12 r2 hf3)) hc4) rfl ?_
      refine ROps.l (r := AV.b false) rfl rfl rfl (LOp.eqb (LOp.not rfl rfl) rfl) ?_
      refine ROps.nil ?_
      refine RunC.wl (τ' := [(2, AV.ptr [AV.i64 a0, AV.i64 a1, AV.sl a2.length (a2.map AV.f32), AV.sl a3.length (a3.map AV.f32), AV.sl a4.length (a4.map AV.f32), AV.sl a5.length (a5.map AV.f32), AV.i64 a6, AV.i64 a7, AV.sl a8.length (a8.map AV.i64)]), (3, AV.ptr [AV.i64 a9, AV.i64 a10, AV.sl a11.length (a11.map AV.f32), AV.sl a12.length (a12.map AV.f32), AV.sl a13.length (a13.map AV.f32), AV.sl a14.length (a14.map AV.f32), AV.i64 a15, AV.i64 a16, AV.sl a17.length (a17.map AV.i64)]), (16, AV.b false)]) (Γ' := []) ⟨(ALe.refl _), (ALe.refl _), (ALe.refl _), trivial⟩ trivial ?_
      refine RunC.cond_false rfl rfl ?_
      refine RunC.skip ?_
      refine RunC.seq ?_
      refine RunC.seq ?_
      obtain ⟨r3, hf5, h⟩ := obind_some h
      rcases bsel_some h with ⟨hc6, h⟩ | ⟨hc6, h⟩
      · refine RunC.regionW ?_
        refine ROps.l (r := AV.ptr [AV.sl a4.length (a4.map AV.f32), AV.sl a5.length (a5.map AV.f32), AV.i64 a6, AV.i64 a7, AV.sl a8.length (a8.map AV.i64)]) rfl rfl rfl (LOp.fap und47 rfl siz42 rfl rfl rfl) ?_
        refine ROps.l (r := AV.agg [AV.sl a4.length (a4.map AV.f32), AV.sl a5.length (a5.map AV.f32)]) rfl rfl rfl (LOp.loadAgg agg42 siz42 rfl rfl rfl rfl) ?_
        refine ROps.l (r := AV.ptr [AV.sl a13.length (a13.map AV.f32), AV.sl a14.length (a14.map AV.f32), AV.i64 a15, AV.i64 a16, AV.sl a17.length (a17.map AV.i64)]) rfl rfl rfl (LOp.fap und47 rfl siz42 rfl rfl rfl) ?_
        refine ROps.l (r := AV.agg [AV.sl a13.length (a13.map AV.f32), AV.sl a14.length (a14.map AV.f32)]) rfl rfl rfl (LOp.loadAgg agg42 siz42 rfl rfl rfl rfl) ?_
        refine ROps.d (r := AV.b true) (fs := []) (Γ' := []) rfl rfl rfl (TOp.eqb (TOp.callB (CallAs.func ent49 rfl rfl) (Bors.cons (Bor.agg (Bors.cons (Bor.sl (fun _ => rfl)) (Bors.cons (Bor.sl (fun _ => rfl)) Bors.nil))) (Bors.cons (Bor.agg (Bors.cons (Bor.sl (fun _ => rfl)) (Bors.cons (Bor.sl (fun _ => rfl)) Bors.nil))) Bors.nil)) rfl rfl (f49_ok a4 a5 a13 a14 r3 hf5)) hc6) rfl ?_
        refine ROps.l (r := AV.b false) rfl rfl rfl (LOp.eqb (LOp.not rfl rfl) rfl) ?_
        refine ROps.nil ?_
        refine RunC.cond_false rfl rfl ?_
        refine RunC.skip ?_
        refine RunC.seq ?_
        refine RunC.seq ?_
        obtain ⟨r4, hf7, h⟩ := obind_some h
        rcases bsel_some h with ⟨hc8, h⟩ | ⟨hc8, h⟩
        · refine RunC.regionW ?_
          refine ROps.l (r := AV.ptr [AV.i64 a6, AV.i64 a7, AV.sl a8.length (a8.map AV.i64)]) rfl rfl rfl (LOp.fap und47 rfl siz45 rfl rfl rfl) ?_
          refine ROps.l (r := AV.agg [AV.i64 a6, AV.i64 a7, AV.sl a8.length (a8.map AV.i64)]) rfl rfl rfl (LOp.loadAgg agg45 siz45 rfl rfl rfl rfl) ?_
          refine ROps.l (r := AV.ptr [AV.i64 a15, AV.i64 a16, AV.sl a17.length (a17.map AV.i64)]) rfl rfl rfl (LOp.fap und47 rfl siz45 rfl rfl rfl) ?_
          refine ROps.l (r := AV.agg [AV.i64 a15, AV.i64 a16, AV.sl a17.length (a17.map AV.i64)]) rfl rfl rfl (LOp.loadAgg agg45 siz45 rfl rfl rfl rfl) ?_
          refine ROps.d (r := AV.b true) (fs := []) (Γ' := []) rfl rfl rfl (TOp.eqb (TOp.callB (CallAs.func ent50 rfl rfl) (Bors.cons (Bor.agg (Bors.cons (Bor.pure rfl) (Bors.cons (Bor.pure rfl) (Bors.cons (Bor.sl (fun _ => rfl)) Bors.nil)))) (Bors.cons (Bor.agg (Bors.cons (Bor.pure rfl) (Bors.cons (Bor.pure rfl) (Bors.cons (Bor.sl (fun _ => rfl)) Bors.nil)))) Bors.nil)) rfl rfl (f50_ok a6 a7 a8 a15 a16 a17 r4 hf7)) hc8) rfl ?_
          refine ROps.l (r := AV.b false) rfl rfl rfl (LOp.eqb (LOp.not rfl rfl) rfl) ?_
          refine ROps.nil ?_
          refine RunC.wl (τ' := [(28, AV.b false)]) (Γ' := []) ⟨(ALe.refl _), trivial⟩ trivial ?_
          refine RunC.cond_false rfl rfl ?_
          refine RunC.skip ?_
          refine RunC.seq ?_
          refine RunC.regionW ?_
          refine ROps.l (r := AV.b true) rfl rfl rfl (LOp.assign rfl rfl) ?_
          refine ROps.nil ?_
          refine RunC.ret ?_
          have hq := Option.some.inj h
          subst q0
          exact bodyQ.pure (.inr rfl) rfl (Res.one rfl (RV.tmp rfl))
        · refine RunC.regionW ?_
          refine ROps.l (r := AV.ptr [AV.i64 a6, AV.i64 a7, AV.sl a8.length (a8.map AV.i64)]) rfl rfl rfl (LOp.fap und47 rfl siz45 rfl rfl rfl) ?_
          refine ROps.l (r := AV.agg [AV.i64 a6, AV.i64 a7, AV.sl a8.length (a8.map AV.i64)]) rfl rfl rfl (LOp.loadAgg agg45 siz45 rfl rfl rfl rfl) ?_
          refine ROps.l (r := AV.ptr [AV.i64 a15, AV.i64 a16, AV.sl a17.length (a17.map AV.i64)]) rfl rfl rfl (LOp.fap und47 rfl siz45 rfl rfl rfl) ?_
          refine ROps.l (r := AV.agg [AV.i64 a15, AV.i64 a16, AV.sl a17.length (a17.map AV.i64)]) rfl rfl rfl (LOp.loadAgg agg45 siz45 rfl rfl rfl rfl) ?_
          refine ROps.d (r := AV.b false) (fs := []) (Γ' := []) rfl rfl rfl (TOp.eqb (TOp.callB (CallAs.func ent50 rfl rfl) (Bors.cons (Bor.agg (Bors.cons (Bor.pure rfl) (Bors.cons (Bor.pure rfl) (Bors.cons (Bor.sl (fun _ => rfl)) Bors.nil)))) (Bors.cons (Bor.agg (Bors.cons (Bor.pure rfl) (Bors.cons (Bor.pure rfl) (Bors.cons (Bor.sl (fun _ => rfl)) Bors.nil)))) Bors.nil)) rfl rfl (f50_ok a6 a7 a8 a15 a16 a17 r4 hf7)) hc8) rfl ?_
          refine ROps.l (r := AV.b true) rfl rfl rfl (LOp.eqb (LOp.not rfl rfl) rfl) ?_
          refine ROps.nil ?_
          refine RunC.wl (τ' := [(28, AV.b true)]) (Γ' := []) ⟨(ALe.refl _), trivial⟩ trivial ?_
          refine RunC.cond_true rfl rfl ?_
          refine RunC.seq ?_
          refine RunC.regionW ?_
          refine ROps.l (r := AV.b false) rfl rfl rfl (LOp.assign rfl rfl) ?_
          refine ROps.nil ?_
          refine RunC.ret ?_
          have hq := Option.some.inj h
          subst q0
          exact bodyQ.pure (.inr rfl) rfl (Res.one rfl (RV.tmp rfl))
      · refine RunC.regionW ?_
        refine ROps.l (r := AV.ptr [AV.sl a4.length (a4.map AV.f32), AV.sl a5.length (a5.map AV.f32), AV.i64 a6, AV.i64 a7, AV.sl a8.length (a8.map AV.i64)]) rfl rfl rfl (LOp.fap und47 rfl siz42 rfl rfl rfl) ?_
        refine ROps.l (r := AV.agg [AV.sl a4.length (a4.map AV.f32), AV.sl a5.length (a5.map AV.f32)]) rfl rfl rfl (LOp.loadAgg agg42 siz42 rfl rfl rfl rfl) ?_
        refine ROps.l (r := AV.ptr [AV.sl a13.length (a13.map AV.f32), AV.sl a14.length (a14.map AV.f32), AV.i64 a15, AV.i64 a16, AV.sl a17.length (a17.map AV.i64)]) rfl rfl rfl (LOp.fap und47 rfl siz42 rfl rfl rfl) ?_
        refine ROps.l (r := AV.agg [AV.sl a13.length (a13.map AV.f32), AV.sl a14.length (a14.map AV.f32)]) rfl rfl rfl (LOp.loadAgg agg42 siz42 rfl rfl rfl rfl) ?_
        refine ROps.d (r := AV.b false) (fs := []) (Γ' := []) rfl rfl rfl (TOp.eqb (TOp.callB (CallAs.func ent49 rfl rfl) (Bors.cons (Bor.agg (Bors.cons (Bor.sl (fun _ => rfl)) (Bors.cons (Bor.sl (fun _ => rfl)) Bors.nil))) (Bors.cons (Bor.agg (Bors.cons (Bor.sl (fun _ => rfl)) (Bors.cons (Bor.sl (fun _ => rfl)) Bors.nil))) Bors.nil)) rfl rfl (f49_ok a4 a5 a13 a14 r3 hf5)) hc6) rfl ?_
        refine ROps.l (r := AV.b true) rfl rfl rfl (LOp.eqb (LOp.not rfl rfl) rfl) ?_
        refine ROps.nil ?_
        refine RunC.cond_true rfl rfl ?_
        refine RunC.seq ?_
        refine RunC.regionW ?_
        refine ROps.l (r := AV.b false) rfl rfl rfl (LOp.assign rfl rfl) ?_
        refine ROps.nil ?_
        refine RunC.ret ?_
        have hq := Option.some.inj h
        subst q0
        exact bodyQ.pure (.inr rfl) rfl (Res.one rfl (RV.tmp rfl))
    · refine RunC.regionW ?_
      refine ROps.l (r := AV.ptr [AV.sl a3.length (a3.map AV.f32), AV.sl a4.length (a4.map AV.f32), AV.sl a5.length (a5.map AV.f32), AV.i64 a6, AV.i64 a7, AV.sl a8.length (a8.map AV.i64)]) rfl rfl rfl (LOp.fap und47 rfl siz38 rfl rfl rfl) ?_
      refine ROps.l (r := AV.sl a3.length (a3.map AV.f32)) rfl rfl rfl (LOp.load1 agg38 rfl rfl) ?_
      refine ROps.l (r := AV.ptr [AV.sl a12.length (a12.map AV.f32), AV.sl a13.length (a13.map AV.f32), AV.sl a14.length (a14.map AV.f32), AV.i64 a15, AV.i64 a16, AV.sl a17.length (a17.map AV.i64)]) rfl rfl rfl (LOp.fap und47 rfl siz38 rfl rfl rfl) ?_
      refine ROps.l (r := AV.sl a12.length (a12.map AV.f32)) rfl rfl rfl (LOp.load1 agg38 rfl rfl) ?_
      refine ROps.d (r := AV.b false) (fs := []) (Γ' := []) rfl rfl rfl (TOp.eqb (TOp.callB (CallAs.func ent48 rfl rfl) (Bors.cons (Bor.sl (fun _ => rfl)) (Bors.cons (Bor.sl (fun _ => rfl)) Bors.nil)) rfl rfl (f48_ok a3 a12 r2 hf3)) hc4) rfl ?_
      refine ROps.l (r := AV.b true) rfl rfl rfl (LOp.eqb (LOp.not rfl rfl) rfl) ?_
      refine ROps.nil ?_
      refine RunC.wl (τ' := [(2, AV.ptr [AV.i64 a0, AV.i64 a1, AV.sl a2.length (a2.map AV.f32), AV.sl a3.length (a3.map AV.f32), AV.sl a4.length (a4.map AV.f32), AV.sl a5.length (a5.map AV.f32), AV.i64 a6, AV.i64 a7, AV.sl a8.length (a8.map AV.i64)]), (3, AV.ptr [AV.i64 a9, AV.i64 a10, AV.sl a11.length (a11.map AV.f32), AV.sl a12.length (a12.map AV.f32), AV.sl a13.length (a13.map AV.f32), AV.sl a14.length (a14.map AV.f32), AV.i64 a15, AV.i64 a16, AV.sl a17.length (a17.map AV.i64)]), (16, AV.b true)]) (Γ' := []) ⟨(ALe.refl _), (ALe.refl _), (ALe.refl _), trivial⟩ trivial ?_
      refine RunC.cond_true rfl rfl ?_
      refine RunC.seq ?_
      refine RunC.regionW ?_
      refine ROps.l (r := AV.b false) rfl rfl rfl (LOp.assign rfl rfl) ?_
      refine ROps.nil ?_
      refine RunC.ret ?_
      have hq := Option.some.inj h
      subst q0
      exact bodyQ.pure (.inr rfl) rfl (Res.one rfl (RV.tmp rfl))
  · refine RunC.regionW ?_
    refine ROps.l (r := AV.ptr [AV.i64 a0, AV.i64 a1, AV.sl a2.length (a2.map AV.f32), AV.sl a3.length (a3.map AV.f32), AV.sl a4.length (a4.map AV.f32), AV.sl a5.length (a5.map AV.f32), AV.i64 a6, AV.i64 a7, AV.sl a8.length (a8.map AV.i64)]) rfl rfl rfl (LOp.fap und47 rfl siz40 rfl rfl rfl) ?_
    refine ROps.l (r := AV.agg [AV.i64 a0, AV.i64 a1, AV.sl a2.length (a2.map AV.f32)]) rfl rfl rfl (LOp.loadAgg agg40 siz40 rfl rfl rfl rfl) ?_
    refine ROps.l (r := AV.ptr [AV.i64 a9, AV.i64 a10, AV.sl a11.length (a11.map AV.f32), AV.sl a12.length (a12.map AV.f32), AV.sl a13.length (a13.map AV.f32), AV.sl a14.length (a14.map AV.f32), AV.i64 a15, AV.i64 a16, AV.sl a17.length (a17.map AV.i64)]) rfl rfl rfl (LOp.fap und47 rfl siz40 rfl rfl rfl) ?_
    refine ROps.l (r := AV.agg [AV.i64 a9, AV.i64 a10, AV.sl a11.length (a11.map AV.f32)]) rfl rfl rfl (LOp.loadAgg agg40 siz40 rfl rfl rfl rfl) ?_
    refine ROps.d (r := AV.b false) (fs := []) (Γ' := []) rfl rfl rfl (TOp.eqb (TOp.callB (CallAs.func ent28 rfl rfl) (Bors.cons (Bor.agg (Bors.cons (Bor.pure rfl) (Bors.cons (Bor.pure rfl) (Bors.cons (Bor.sl (fun _ => rfl)) Bors.nil)))) (Bors.cons (Bor.agg (Bors.cons (Bor.pure rfl) (Bors.cons (Bor.pure rfl) (Bors.cons (Bor.sl (fun _ => rfl)) Bors.nil)))) Bors.nil)) rfl rfl (f28_ok a0 a1 a2 a9 a10 a11 r1 hf1)) hc2) rfl ?_
    refine ROps.l (r := AV.b true) rfl rfl rfl (LOp.eqb (LOp.not rfl rfl) rfl) ?_
    refine ROps.nil ?_
    refine RunC.cond_true rfl rfl ?_
    refine RunC.seq ?_
    refine RunC.regionW ?_
    refine ROps.l (r := AV.b false) rfl rfl rfl (LOp.assign rfl rfl) ?_
    refine ROps.nil ?_
    refine RunC.ret ?_
    have hq := Option.some.inj h
    subst q0
    exact bodyQ.pure (.inr rfl) rfl (Res.one rfl (RV.tmp rfl))
noncomputable def f6 (a0 : Int) (a1 : Int) (a2 : List F) (a3 : List F) (a4 : List F) (a5 : List F) (a6 : Int) (a7 : Int) (a8 : List Int) (a9 : Int) (a10 : Int) (a11 : List F) (a12 : List F) (a13 : List F) (a14 : List F) (a15 : Int) (a16 : Int) (a17 : List Int) : Option (Bool) :=
  obind (f31 a0 a1 a2 a3 a4 a5 a6 a7 a8 1048576) fun (r1 : Int) =>
  bsel (decide (r1 < 0)) (
    some true) (
    obind (f31 a9 a10 a11 a12 a13 a14 a15 a16 a17 r1) fun (r2 : Int) =>
    bsel (decide (r2 < 0)) (
      some true) (
      obind9 (f33 a0 a1 a2 a3 a4 a5 a6 a7 a8) fun (r3 : Int) (r4 : Int) (r5 : Int) (r6 : Int) (r7 : List F) (r8 : List F) (r9 : List F) (r10 : List F) (r11 : List Int) =>
      obind9 (f33 a9 a10 a11 a12 a13 a14 a15 a16 a17) fun (r12 : Int) (r13 : Int) (r14 : Int) (r15 : Int) (r16 : List F) (r17 : List F) (r18 : List F) (r19 : List F) (r20 : List Int) =>
      obind (f32 r3 r4 r7 r8 r9 r10 r5 r6 r11 r12 r13 r16 r17 r18 r19 r14 r15 r20) fun (r21 : Bool) =>
      obind9 (f33 a0 a1 a2 a3 a4 a5 a6 a7 a8) fun (r22 : Int) (r23 : Int) (r24 : Int) (r25 : Int) (r26 : List F) (r27 : List F) (r28 : List F) (r29 : List F) (r30 : List Int) =>
      obind9 (f33 a9 a10 a11 a12 a13 a14 a15 a16 a17) fun (r31 : Int) (r32 : Int) (r33 : Int) (r34 : Int) (r35 : List F) (r36 : List F) (r37 : List F) (r38 : List F) (r39 : List Int) =>
      obind (f34 r22 r23 r26 r27 r28 r29 r24 r25 r30 r31 r32 r35 r36 r37 r38 r33 r34 r39) fun (r40 : Bool) =>
      bsel (!(r40 == r21)) (
        some false) (
        obind9 (f33 a0 a1 a2 a3 a4 a5 a6 a7 a8) fun (r41 : Int) (r42 : Int) (r43 : Int) (r44 : Int) (r45 : List F) (r46 : List F) (r47 : List F) (r48 : List F) (r49 : List Int) =>
        obind (f21 r22 r23 r26 r27 r28 r29 r24 r25 r30 r41 r42 r45 r46 r47 r48 r43 r44 r49) fun (r50 : Bool) =>
        bsel r50 (
          obind9 (f33 a9 a10 a11 a12 a13 a14 a15 a16 a17) fun (r51 : Int) (r52 : Int) (r53 : Int) (r54 : Int) (r55 : List F) (r56 : List F) (r57 : List F) (r58 : List F) (r59 : List Int) =>
          obind (f21 r31 r32 r35 r36 r37 r38 r33 r34 r39 r51 r52 r55 r56 r57 r58 r53 r54 r59) fun (r60 : Bool) =>
          bsel r60 (
            some true) (
            some false)) (
          some false))))
theorem f6_ok (a0 : Int) (a1 : Int) (a2 : List F) (a3 : List F) (a4 : List F) (a5 : List F) (a6 : Int) (a7 : Int) (a8 : List Int) (a9 : Int) (a10 : Int) (a11 : List F) (a12 : List F) (a13 : List F) (a14 : List F) (a15 : Int) (a16 : Int) (a17 : List Int) (q0 : Bool) (h : f6 a0 a1 a2 a3 a4 a5 a6 a7 a8 a9 a10 a11 a12 a13 a14 a15 a16 a17 = some q0) : Ev Try.prog 6 [AV.agg [AV.i64 a0, AV.i64 a1, AV.sl a2.length (a2.map AV.f32), AV.sl a3.length (a3.map AV.f32), AV.sl a4.length (a4.map AV.f32), AV.sl a5.length (a5.map AV.f32), AV.i64 a6, AV.i64 a7, AV.sl a8.length (a8.map AV.i64)], AV.agg [AV.i64 a9, AV.i64 a10, AV.sl a11.length (a11.map AV.f32), AV.sl a12.length (a12.map AV.f32), AV.sl a13.length (a13.map AV.f32), AV.sl a14.length (a14.map AV.f32), AV.i64 a15, AV.i64 a16, AV.sl a17.length (a17.map AV.i64)]] [] (AV.b q0) [] := by
  refine Ev.start Try.func6 rfl rfl 12 (τ := [(0, AV.agg [AV.i64 a0, AV.i64 a1, AV.sl a2.length (a2.map AV.f32), AV.sl a3.length (a3.map AV.f32), AV.sl a4.length (a4.map AV.f32), AV.sl a5.length (a5.map AV.f32), AV.i64 a6, AV.i64 a7, AV.sl a8.length (a8.map AV.i64)]), (1, AV.agg [AV.i64 a9, AV.i64 a10, AV.sl a11.length (a11.map AV.f32), AV.sl a12.length (a12.map AV.f32), AV.sl a13.length (a13.map AV.f32), AV.sl a14.length (a14.map AV.f32), AV.i64 a15, AV.i64 a16, AV.sl a17.length (a17.map AV.i64)])]) rfl (Γ' := [⟨0, none⟩, ⟨0, none⟩, ⟨0, none⟩, ⟨0, none⟩, ⟨0, none⟩, ⟨0, none⟩, ⟨0, none⟩, ⟨0, none⟩, ⟨0, none⟩, ⟨0, none⟩, ⟨0, none⟩, ⟨0, none⟩]) rfl (n := 45) rfl (g := 0) rfl ?_
  unfold f6 at h
  refine RunC.seq ?_
  refine RunC.regionW ?_
  refine ROps.d (r := AV.ptr [AV.i64 a0, AV.i64 a1, AV.sl a2.length (a2.map AV.f32), AV.sl a3.length (a3.map AV.f32), AV.sl a4.length (a4.map AV.f32), AV.sl a5.length (a5.map AV.f32), AV.i64 a6, AV.i64 a7, AV.sl a8.length (a8.map AV.i64)]) (fs := []) (Γ' := [⟨0, none⟩, ⟨0, none⟩, ⟨0, none⟩, ⟨0, none⟩, ⟨0, none⟩, ⟨0, none⟩, ⟨0, none⟩, ⟨0, none⟩, ⟨0, none⟩, ⟨0, none⟩, ⟨0, none⟩, ⟨0, none⟩]) rfl rfl rfl (TOp.box_s rfl rfl rfl) rfl ?_
  refine ROps.d (r := AV.ptr [AV.i64 a9, AV.i64 a10, AV.sl a11.length (a11.map AV.f32), AV.sl a12.length (a12.map AV.f32), AV.sl a13.length (a13.map AV.f32), AV.sl a14.length (a14.map AV.f32), AV.i64 a15, AV.i64 a16, AV.sl a17.length (a17.map AV.i64)]) (fs := []) (Γ' := [⟨0, none⟩, ⟨0, none⟩, ⟨0, none⟩, ⟨0, none⟩, ⟨0, none⟩, ⟨0, none⟩, ⟨0, none⟩, ⟨0, none⟩, ⟨0, none⟩, ⟨0, none⟩, ⟨0, none⟩, ⟨0, none⟩]) rfl rfl rfl (TOp.box_s rfl rfl rfl) rfl ?_
  refine ROps.l (r := AV.b false) rfl rfl rfl (LOp.assign rfl rfl) ?_
  refine ROps.nil ?_
  refine RunC.seq ?_
  refine RunC.regionW ?_
  refine ROps.l (r := AV.i64 1048576) rfl rfl rfl (LOp.assign rfl rfl) ?_
  refine ROps.nil ?_
  refine RunC.seq ?_
  obtain ⟨r1, hf1, h⟩ := obind_some h
  refine RunC.regionW ?_
  refine ROps.l (r := AV.agg [AV.i64 a0, AV.i64 a1, AV.sl a2.length (a2.map AV.f32), AV.sl a3.length (a3.map AV.f32), AV.sl a4.length (a4.map AV.f32), AV.sl a5.length (a5.map AV.f32), AV.i64 a6, AV.i64 a7, AV.sl a8.length (a8.map AV.i64)]) rfl rfl rfl (LOp.loadAgg agg63 siz63 rfl rfl rfl rfl) ?_
  refine ROps.l (r := AV.i64 1048576) rfl rfl rfl (LOp.move rfl rfl) ?_
  refine ROps.d (r := AV.i64 r1) (fs := []) (Γ' := [⟨0, none⟩, ⟨0, none⟩, ⟨0, none⟩, ⟨0, none⟩, ⟨0, none⟩, ⟨0, none⟩, ⟨0, none⟩, ⟨0, none⟩, ⟨0, none⟩, ⟨0, none⟩, ⟨0, none⟩, ⟨0, none⟩]) rfl rfl rfl (TOp.callB (CallAs.func ent31 rfl rfl) (Bors.cons (Bor.agg (Bors.cons (Bor.pure rfl) (Bors.cons (Bor.pure rfl) (Bors.cons (Bor.sl (fun _ => rfl)) (Bors.cons (Bor.sl (fun _ => rfl)) (Bors.cons (Bor.sl (fun _ => rfl)) (Bors.cons (Bor.sl (fun _ => rfl)) (Bors.cons (Bor.pure rfl) (Bors.cons (Bor.pure rfl) (Bors.cons (Bor.sl (fun _ => rfl)) Bors.nil)))))))))) (Bors.cons (Bor.pure rfl) Bors.nil)) rfl rfl (f31_ok a0 a1 a2 a3 a4 a5 a6 a7 a8 1048576 r1 hf1)) rfl ?_
  refine ROps.l (r := AV.i64 r1) rfl rfl rfl (LOp.assign rfl rfl) ?_
  refine ROps.nil ?_
  refine RunC.seq ?_
  refine RunC.seq ?_
  rcases bsel_some h with ⟨hc2, h⟩ | ⟨hc2, h⟩
  · refine RunC.regionW ?_
    refine ROps.l (r := AV.i64 r1) rfl rfl rfl (LOp.move rfl rfl) ?_
    refine ROps.l (r := AV.b true) rfl rfl rfl (LOp.eqb (LOp.lss rfl rfl rfl) hc2) ?_
    refine ROps.nil ?_
    refine RunC.cond_true rfl rfl ?_
    refine RunC.seq ?_
    refine RunC.regionW ?_
    refine ROps.l (r := AV.b true) rfl rfl rfl (LOp.assign rfl rfl) ?_
    refine ROps.nil ?_
    refine RunC.ret ?_
    have hq := Option.some.inj h
    subst q0
    exact bodyQ.pure (.inr rfl) rfl (Res.one rfl (RV.tmp rfl))
  · refine RunC.regionW ?_
    refine ROps.l (r := AV.i64 r1) rfl rfl rfl (LOp.move rfl rfl) ?_
    refine ROps.l (r := AV.b false) rfl rfl rfl (LOp.eqb (LOp.lss rfl rfl rfl) hc2) ?_
    refine ROps.nil ?_
    refine RunC.cond_false rfl rfl ?_
    refine RunC.skip ?_
    refine RunC.seq ?_
    obtain ⟨r2, hf3, h⟩ := obind_some h
    refine RunC.regionW ?_
    refine ROps.l (r := AV.agg [AV.i64 a9, AV.i64 a10, AV.sl a11.length (a11.map AV.f32), AV.sl a12.length (a12.map AV.f32), AV.sl a13.length (a13.map AV.f32), AV.sl a14.length (a14.map AV.f32), AV.i64 a15, AV.i64 a16, AV.sl a17.length (a17.map AV.i64)]) rfl rfl rfl (LOp.loadAgg agg63 siz63 rfl rfl rfl rfl) ?_
    refine ROps.l (r := AV.i64 r1) rfl rfl rfl (LOp.move rfl rfl) ?_
    refine ROps.d (r := AV.i64 r2) (fs := []) (Γ' := [⟨0, none⟩, ⟨0, none⟩, ⟨0, none⟩, ⟨0, none⟩, ⟨0, none⟩, ⟨0, none⟩, ⟨0, none⟩, ⟨0, none⟩, ⟨0, none⟩, ⟨0, none⟩, ⟨0, none⟩, ⟨0, none⟩]) rfl rfl rfl (TOp.callB (CallAs.func ent31 rfl rfl) (Bors.cons (Bor.agg (Bors.cons (Bor.pure rfl) (Bors.cons (Bor.pure rfl) (Bors.cons (Bor.sl (fun _ => rfl)) (Bors.cons (Bor.sl (fun _ => rfl)) (Bors.cons (Bor.sl (fun _ => rfl)) (Bors.cons (Bor.sl (fun _ => rfl)) (Bors.cons (Bor.pure rfl) (Bors.cons (Bor.pure rfl) (Bors.cons (Bor.sl (fun _ => rfl)) Bors.nil)))))))))) (Bors.cons (Bor.pure rfl) Bors.nil)) rfl rfl (f31_ok a9 a10 a11 a12 a13 a14 a15 a16 a17 r1 r2 hf3)) rfl ?_
    refine ROps.l (r := AV.i64 r2) rfl rfl rfl (LOp.assign rfl rfl) ?_
    refine ROps.nil ?_
    refine RunC.seq ?_
    refine RunC.seq ?_
    rcases bsel_some h with ⟨hc4, h⟩ | ⟨hc4, h⟩
    · refine RunC.regionW ?_
      refine ROps.l (r := AV.i64 r2) rfl rfl rfl (LOp.move rfl rfl) ?_
      refine ROps.l (r := AV.b true) rfl rfl rfl (LOp.eqb (LOp.lss rfl rfl rfl) hc4) ?_
      refine ROps.nil ?_
      refine RunC.wl (τ' := [(2, AV.ptr [AV.i64 a0, AV.i64 a1, AV.sl a2.length (a2.map AV.f32), AV.sl a3.length (a3.map AV.f32), AV.sl a4.length (a4.map AV.f32), AV.sl a5.length (a5.map AV.f32), AV.i64 a6, AV.i64 a7, AV.sl a8.length (a8.map AV.i64)]), (3, AV.ptr [AV.i64 a9, AV.i64 a10, AV.sl a11.length (a11.map AV.f32), AV.sl a12.length (a12.map AV.f32), AV.sl a13.length (a13.map AV.f32), AV.sl a14.length (a14.map AV.f32), AV.i64 a15, AV.i64 a16, AV.sl a17.length (a17.map AV.i64)]), (19, AV.b true)]) (Γ' := [⟨0, none⟩, ⟨0, none⟩, ⟨0, none⟩, ⟨0, none⟩, ⟨0, none⟩, ⟨0, none⟩, ⟨0, none⟩, ⟨0, none⟩, ⟨0, none⟩, ⟨0, none⟩, ⟨0, none⟩, ⟨0, none⟩]) ⟨(ALe.refl _), (ALe.refl _), (ALe.refl _), trivial⟩ ⟨⟨rfl, .inr rfl⟩, ⟨rfl, .inr rfl⟩, ⟨rfl, .inr rfl⟩, ⟨rfl, .inr rfl⟩, ⟨rfl, .inr rfl⟩, ⟨rfl, .inr rfl⟩, ⟨rfl, .inr rfl⟩, ⟨rfl, .inr rfl⟩, ⟨rfl, .inr rfl⟩, ⟨rfl, .inr rfl⟩, ⟨rfl, .inr rfl⟩, ⟨rfl, .inr rfl⟩, trivial⟩ ?_
      refine RunC.cond_true rfl rfl ?_
      refine RunC.seq ?_
      refine RunC.regionW ?_
      refine ROps.l (r := AV.b true) rfl rfl rfl (LOp.assign rfl rfl) ?_
      refine ROps.nil ?_
      refine RunC.ret ?_
      have hq := Option.some.inj h
      subst q0
      exact bodyQ.pure (.inr rfl) rfl (Res.one rfl (RV.tmp rfl))
    · refine RunC.regionW ?_
      refine ROps.l (r := AV.i64 r2) rfl rfl rfl (LOp.move rfl rfl) ?_
      refine ROps.l (r := AV.b false) rfl rfl rfl (LOp.eqb (LOp.lss rfl rfl rfl) hc4) ?_
      refine ROps.nil ?_
      refine RunC.wl (τ' := [(2, AV.ptr [AV.i64 a0, AV.i64 a1, AV.sl a2.length (a2.map AV.f32), AV.sl a3.length (a3.map AV.f32), AV.sl a4.length (a4.map AV.f32), AV.sl a5.length (a5.map AV.f32), AV.i64 a6, AV.i64 a7, AV.sl a8.length (a8.map AV.i64)]), (3, AV.ptr [AV.i64 a9, AV.i64 a10, AV.sl a11.length (a11.map AV.f32), AV.sl a12.length (a12.map AV.f32), AV.sl a13.length (a13.map AV.f32), AV.sl a14.length (a14.map AV.f32), AV.i64 a15, AV.i64 a16, AV.sl a17.length (a17.map AV.i64)]), (19, AV.b false)]) (Γ' := [⟨0, none⟩, ⟨0, none⟩, ⟨0, none⟩, ⟨0, none⟩, ⟨0, none⟩, ⟨0, none⟩, ⟨0, none⟩, ⟨0, none⟩, ⟨0, none⟩, ⟨0, none⟩, ⟨0, none⟩, ⟨0, none⟩]) ⟨(ALe.refl _), (ALe.refl _), (ALe.refl _), trivial⟩ ⟨⟨rfl, .inr rfl⟩, ⟨rfl, .inr rfl⟩, ⟨rfl, .inr rfl⟩, ⟨rfl, .inr rfl⟩, ⟨rfl, .inr rfl⟩, ⟨rfl, .inr rfl⟩, ⟨rfl, .inr rfl⟩, ⟨rfl, .inr rfl⟩, ⟨rfl, .inr rfl⟩, ⟨rfl, .inr rfl⟩, ⟨rfl, .inr rfl⟩, ⟨rfl, .inr rfl⟩, trivial⟩ ?_
      refine RunC.cond_false rfl rfl ?_
      refine RunC.skip ?_
      refine RunC.seq ?_
      obtain ⟨r3, r4, r5, r6, r7, r8, r9, r10, r11, hf5, h⟩ := obind9_some h
      obtain ⟨r12, r13, r14, r15, r16, r17, r18, r19, r20, hf6, h⟩ := obind9_some h
      obtain ⟨r21, hf7, h⟩ := obind_some h
      refine RunC.region_draw (Γ' := [⟨0, none⟩, ⟨0, none⟩, ⟨0, none⟩, ⟨0, none⟩, ⟨0, none⟩, ⟨0, none⟩, ⟨0, none⟩, ⟨0, none⟩, ⟨0, none⟩, ⟨0, none⟩, ⟨0, none⟩, ⟨0, none⟩]) 6 mixed 
        (TR.l (r := AV.agg [AV.i64 a0, AV.i64 a1, AV.sl a2.length (a2.map AV.f32), AV.sl a3.length (a3.map AV.f32), AV.sl a4.length (a4.map AV.f32), AV.sl a5.length (a5.map AV.f32), AV.i64 a6, AV.i64 a7, AV.sl a8.length (a8.map AV.i64)]) rfl rfl (LOp.loadAgg agg63 siz63 rfl rfl rfl rfl) <|
        (TR.d (r := AV.agg [AV.i64 r3, AV.i64 r4, AV.sl r7.length (r7.map AV.f32), AV.sl r8.length (r8.map AV.f32), AV.sl r9.length (r9.map AV.f32), AV.sl r10.length (r10.map AV.f32), AV.i64 r5, AV.i64 r6, AV.sl r11.length (r11.map AV.i64)]) (fs := []) rfl rfl (TOp.callS (CallAs.func ent33 rfl rfl) (ALes.cons (ALe.refl _) ALes.nil) (lts_cons (lt_agg (lts_cons rfl (lts_cons rfl (lts_cons (lt_sl (fun _ => rfl)) (lts_cons (lt_sl (fun _ => rfl)) (lts_cons (lt_sl (fun _ => rfl)) (lts_cons (lt_sl (fun _ => rfl)) (lts_cons rfl (lts_cons rfl (lts_cons (lt_sl (fun _ => rfl)) lts_nil)))))))))) lts_nil) (lt_agg (lts_cons rfl (lts_cons rfl (lts_cons (lt_sl (fun _ => rfl)) (lts_cons (lt_sl (fun _ => rfl)) (lts_cons (lt_sl (fun _ => rfl)) (lts_cons (lt_sl (fun _ => rfl)) (lts_cons rfl (lts_cons rfl (lts_cons (lt_sl (fun _ => rfl)) lts_nil)))))))))) (f33_ok a0 a1 a2 a3 a4 a5 a6 a7 a8 r3 r4 r5 r6 r7 r8 r9 r10 r11 hf5) (Bor.agg (Bors.cons (Bor.pure rfl) (Bors.cons (Bor.pure rfl) (Bors.cons (Bor.own (f := AV.f32) (fun _ => rfl) rfl rfl) (Bors.cons (Bor.own (f := AV.f32) (fun _ => rfl) rfl rfl) (Bors.cons (Bor.own (f := AV.f32) (fun _ => rfl) rfl rfl) (Bors.cons (Bor.own (f := AV.f32) (fun _ => rfl) rfl rfl) (Bors.cons (Bor.pure rfl) (Bors.cons (Bor.pure rfl) (Bors.cons (Bor.own (f := AV.i64) (fun _ => rfl) rfl rfl) Bors.nil))))))))))) <|
        (TR.l (r := AV.agg [AV.i64 a9, AV.i64 a10, AV.sl a11.length (a11.map AV.f32), AV.sl a12.length (a12.map AV.f32), AV.sl a13.length (a13.map AV.f32), AV.sl a14.length (a14.map AV.f32), AV.i64 a15, AV.i64 a16, AV.sl a17.length (a17.map AV.i64)]) rfl rfl (LOp.loadAgg agg63 siz63 rfl rfl rfl rfl) <|
        (TR.d (r := AV.agg [AV.i64 r12, AV.i64 r13, AV.sl r16.length (r16.map AV.f32), AV.sl r17.length (r17.map AV.f32), AV.sl r18.length (r18.map AV.f32), AV.sl r19.length (r19.map AV.f32), AV.i64 r14, AV.i64 r15, AV.sl r20.length (r20.map AV.i64)]) (fs := []) rfl rfl (TOp.callS (CallAs.func ent33 rfl rfl) (ALes.cons (ALe.refl _) ALes.nil) (lts_cons (lt_agg (lts_cons rfl (lts_cons rfl (lts_cons (lt_sl (fun _ => rfl)) (lts_cons (lt_sl (fun _ => rfl)) (lts_cons (lt_sl (fun _ => rfl)) (lts_cons (lt_sl (fun _ => rfl)) (lts_cons rfl (lts_cons rfl (lts_cons (lt_sl (fun _ => rfl)) lts_nil)))))))))) lts_nil) (lt_agg (lts_cons rfl (lts_cons rfl (lts_cons (lt_sl (fun _ => rfl)) (lts_cons (lt_sl (fun _ => rfl)) (lts_cons (lt_sl (fun _ => rfl)) (lts_cons (lt_sl (fun _ => rfl)) (lts_cons rfl (lts_cons rfl (lts_cons (lt_sl (fun _ => rfl)) lts_nil)))))))))) (f33_ok a9 a10 a11 a12 a13 a14 a15 a16 a17 r12 r13 r14 r15 r16 r17 r18 r19 r20 hf6) (Bor.agg (Bors.cons (Bor.pure rfl) (Bors.cons (Bor.pure rfl) (Bors.cons (Bor.own (f := AV.f32) (fun _ => rfl) rfl rfl) (Bors.cons (Bor.own (f := AV.f32) (fun _ => rfl) rfl rfl) (Bors.cons (Bor.own (f := AV.f32) (fun _ => rfl) rfl rfl) (Bors.cons (Bor.own (f := AV.f32) (fun _ => rfl) rfl rfl) (Bors.cons (Bor.pure rfl) (Bors.cons (Bor.pure rfl) (Bors.cons (Bor.own (f := AV.i64) (fun _ => rfl) rfl rfl) Bors.nil))))))))))) <|
        (TR.d (r := AV.b r21) (fs := []) rfl rfl (TOp.callB (CallAs.func ent32 rfl rfl) (Bors.cons (Bor.agg (Bors.cons (Bor.pure rfl) (Bors.cons (Bor.pure rfl) (Bors.cons (Bor.sl (fun _ => rfl)) (Bors.cons (Bor.sl (fun _ => rfl)) (Bors.cons (Bor.sl (fun _ => rfl)) (Bors.cons (Bor.sl (fun _ => rfl)) (Bors.cons (Bor.pure rfl) (Bors.cons (Bor.pure rfl) (Bors.cons (Bor.sl (fun _ => rfl)) Bors.nil)))))))))) (Bors.cons (Bor.agg (Bors.cons (Bor.pure rfl) (Bors.cons (Bor.pure rfl) (Bors.cons (Bor.sl (fun _ => rfl)) (Bors.cons (Bor.sl (fun _ => rfl)) (Bors.cons (Bor.sl (fun _ => rfl)) (Bors.cons (Bor.sl (fun _ => rfl)) (Bors.cons (Bor.pure rfl) (Bors.cons (Bor.pure rfl) (Bors.cons (Bor.sl (fun _ => rfl)) Bors.nil)))))))))) Bors.nil)) rfl rfl (f32_ok r3 r4 r7 r8 r9 r10 r5 r6 r11 r12 r13 r16 r17 r18 r19 r14 r15 r20 r21 hf7)) <|
        (TR.l (r := AV.b r21) rfl rfl (LOp.assign rfl rfl) <|
        TR.nil)))))) rfl (by kernel_rfl) rfl fills_nil rfl ?_
      iterate 6 refine ROps.dropS ?_
      refine ROps.drop0 ?_
      refine ROps.nil ?_
      refine RunC.seq ?_
      obtain ⟨r22, r23, r24, r25, r26, r27, r28, r29, r30, hf8, h⟩ := obind9_some h
      refine RunC.regionW ?_
      refine ROps.l (r := AV.agg [AV.i64 a0, AV.i64 a1, AV.sl a2.length (a2.map AV.f32), AV.sl a3.length (a3.map AV.f32), AV.sl a4.length (a4.map AV.f32), AV.sl a5.length (a5.map AV.f32), AV.i64 a6, AV.i64 a7, AV.sl a8.length (a8.map AV.i64)]) rfl rfl rfl (LOp.loadAgg agg63 siz63 rfl rfl rfl rfl) ?_
      refine ROps.d (r := AV.agg [AV.i64 r22, AV.i64 r23, AV.oref 0 1 0 r26.length, AV.oref 1 1 0 r27.length, AV.oref 2 1 0 r28.length, AV.oref 3 1 0 r29.length, AV.i64 r24, AV.i64 r25, AV.oref 4 1 0 r30.length]) (fs := [(0, (r26.map AV.f32)), (1, (r27.map AV.f32)), (2, (r28.map AV.f32)), (3, (r29.map AV.f32)), (4, (r30.map AV.i64))]) (Γ' := [⟨1, some (r26.map AV.f32)⟩, ⟨1, some (r27.map AV.f32)⟩, ⟨1, some (r28.map AV.f32)⟩, ⟨1, some (r29.map AV.f32)⟩, ⟨1, some (r30.map AV.i64)⟩, ⟨0, none⟩, ⟨0, none⟩, ⟨0, none⟩, ⟨0, none⟩, ⟨0, none⟩, ⟨0, none⟩, ⟨0, none⟩]) rfl rfl rfl (TOp.callBN (ls := [(r26.map AV.f32), (r27.map AV.f32), (r28.map AV.f32), (r29.map AV.f32), (r30.map AV.i64)]) [0, 1, 2, 3, 4] (CallAs.func ent33 rfl rfl) (Bors.cons (Bor.agg (Bors.cons (Bor.pure rfl) (Bors.cons (Bor.pure rfl) (Bors.cons (Bor.sl (fun _ => rfl)) (Bors.cons (Bor.sl (fun _ => rfl)) (Bors.cons (Bor.sl (fun _ => rfl)) (Bors.cons (Bor.sl (fun _ => rfl)) (Bors.cons (Bor.pure rfl) (Bors.cons (Bor.pure rfl) (Bors.cons (Bor.sl (fun _ => rfl)) Bors.nil)))))))))) Bors.nil) rfl (f33_ok a0 a1 a2 a3 a4 a5 a6 a7 a8 r22 r23 r24 r25 r26 r27 r28 r29 r30 hf8) (and_all (lts0_map (f := AV.f32) (fun _ => rfl) _) (and_all (lts0_map (f := AV.f32) (fun _ => rfl) _) (and_all (lts0_map (f := AV.f32) (fun _ => rfl) _) (and_all (lts0_map (f := AV.f32) (fun _ => rfl) _) (and_all (lts0_map (f := AV.i64) (fun _ => rfl) _) rfl))))) (and_all (noss_map (f := AV.f32) (fun _ => rfl) _) (and_all (noss_map (f := AV.f32) (fun _ => rfl) _) (and_all (noss_map (f := AV.f32) (fun _ => rfl) _) (and_all (noss_map (f := AV.f32) (fun _ => rfl) _) (and_all (noss_map (f := AV.i64) (fun _ => rfl) _) rfl))))) rfl (by decide) (ns_of ⟨⟨_, rfl⟩, ⟨_, rfl⟩, ⟨_, rfl⟩, ⟨_, rfl⟩, ⟨_, rfl⟩, trivial⟩)) rfl ?_
      refine ROps.d (r := AV.optr 5 1 0) (fs := [(5, [AV.i64 0, AV.i64 0, AV.nilsl, AV.nilsl, AV.nilsl, AV.nilsl, AV.i64 0, AV.i64 0, AV.nilsl])]) (Γ' := [⟨1, some (r26.map AV.f32)⟩, ⟨1, some (r27.map AV.f32)⟩, ⟨1, some (r28.map AV.f32)⟩, ⟨1, some (r29.map AV.f32)⟩, ⟨1, some (r30.map AV.i64)⟩, ⟨1, some [AV.i64 0, AV.i64 0, AV.nilsl, AV.nilsl, AV.nilsl, AV.nilsl, AV.i64 0, AV.i64 0, AV.nilsl]⟩, ⟨0, none⟩, ⟨0, none⟩, ⟨0, none⟩, ⟨0, none⟩, ⟨0, none⟩, ⟨0, none⟩]) rfl rfl rfl (TOp.alloc_o (g := ⟨0, none⟩) 5 rfl zer47 zok47 rfl) rfl ?_
      refine ROps.store_le (r := AV.agg [AV.i64 r22, AV.i64 r23, AV.oref 0 1 0 r26.length, AV.oref 1 1 0 r27.length, AV.oref 2 1 0 r28.length, AV.oref 3 1 0 r29.length, AV.i64 r24, AV.i64 r25, AV.oref 4 1 0 r30.length]) (l' := [AV.i64 r22, AV.i64 r23, AV.oref 0 1 0 r26.length, AV.oref 1 1 0 r27.length, AV.oref 2 1 0 r28.length, AV.oref 3 1 0 r29.length, AV.i64 r24, AV.i64 r25, AV.oref 4 1 0 r30.length]) (Γ' := [⟨1, some (r26.map AV.f32)⟩, ⟨1, some (r27.map AV.f32)⟩, ⟨1, some (r28.map AV.f32)⟩, ⟨1, some (r29.map AV.f32)⟩, ⟨1, some (r30.map AV.i64)⟩, ⟨1, some [AV.i64 r22, AV.i64 r23, AV.oref 0 1 0 r26.length, AV.oref 1 1 0 r27.length, AV.oref 2 1 0 r28.length, AV.oref 3 1 0 r29.length, AV.i64 r24, AV.i64 r25, AV.oref 4 1 0 r30.length]⟩, ⟨0, none⟩, ⟨0, none⟩, ⟨0, none⟩, ⟨0, none⟩, ⟨0, none⟩, ⟨0, none⟩]) rfl siz47 rfl rfl rfl (ALe.refl _) rfl rfl rfl rfl (Nat.le_of_ble_eq_true rfl) rfl rfl ?_
      refine ROps.nil ?_
      refine RunC.seq ?_
      obtain ⟨r31, r32, r33, r34, r35, r36, r37, r38, r39, hf9, h⟩ := obind9_some h
      refine RunC.regionW ?_
      refine ROps.l (r := AV.agg [AV.i64 a9, AV.i64 a10, AV.sl a11.length (a11.map AV.f32), AV.sl a12.length (a12.map AV.f32), AV.sl a13.length (a13.map AV.f32), AV.sl a14.length (a14.map AV.f32), AV.i64 a15, AV.i64 a16, AV.sl a17.length (a17.map AV.i64)]) rfl rfl rfl (LOp.loadAgg agg63 siz63 rfl rfl rfl rfl) ?_
      refine ROps.d (r := AV.agg [AV.i64 r31, AV.i64 r32, AV.oref 6 1 0 r35.length, AV.oref 7 1 0 r36.length, AV.oref 8 1 0 r37.length, AV.oref 9 1 0 r38.length, AV.i64 r33, AV.i64 r34, AV.oref 10 1 0 r39.length]) (fs := [(6, (r35.map AV.f32)), (7, (r36.map AV.f32)), (8, (r37.map AV.f32)), (9, (r38.map AV.f32)), (10, (r39.map AV.i64))]) (Γ' := [⟨1, some (r26.map AV.f32)⟩, ⟨1, some (r27.map AV.f32)⟩, ⟨1, some (r28.map AV.f32)⟩, ⟨1, some (r29.map AV.f32)⟩, ⟨1, some (r30.map AV.i64)⟩, ⟨1, some [AV.i64 r22, AV.i64 r23, AV.oref 0 1 0 r26.length, AV.oref 1 1 0 r27.length, AV.oref 2 1 0 r28.length, AV.oref 3 1 0 r29.length, AV.i64 r24, AV.i64 r25, AV.oref 4 1 0 r30.length]⟩, ⟨1, some (r35.map AV.f32)⟩, ⟨1, some (r36.map AV.f32)⟩, ⟨1, some (r37.map AV.f32)⟩, ⟨1, some (r38.map AV.f32)⟩, ⟨1, some (r39.map AV.i64)⟩, ⟨0, none⟩]) rfl rfl rfl (TOp.callBN (ls := [(r35.map AV.f32), (r36.map AV.f32), (r37.map AV.f32), (r38.map AV.f32), (r39.map AV.i64)]) [6, 7, 8, 9, 10] (CallAs.func ent33 rfl rfl) (Bors.cons (Bor.agg (Bors.cons (Bor.pure rfl) (Bors.cons (Bor.pure rfl) (Bors.cons (Bor.sl (fun _ => rfl)) (Bors.cons (Bor.sl (fun _ => rfl)) (Bors.cons (Bor.sl (fun _ => rfl)) (Bors.cons (Bor.sl (fun _ => rfl)) (Bors.cons (Bor.pure rfl) (Bors.cons (Bor.pure rfl) (Bors.cons (Bor.sl (fun _ => rfl)) Bors.nil)))))))))) Bors.nil) rfl (f33_ok a9 a10 a11 a12 a13 a14 a15 a16 a17 r31 r32 r33 r34 r35 r36 r37 r38 r39 hf9) (and_all (lts0_map (f := AV.f32) (fun _ => rfl) _) (and_all (lts0_map (f := AV.f32) (fun _ => rfl) _) (and_all (lts0_map (f := AV.f32) (fun _ => rfl) _) (and_all (lts0_map (f := AV.f32) (fun _ => rfl) _) (and_all (lts0_map (f := AV.i64) (fun _ => rfl) _) rfl))))) (and_all (noss_map (f := AV.f32) (fun _ => rfl) _) (and_all (noss_map (f := AV.f32) (fun _ => rfl) _) (and_all (noss_map (f := AV.f32) (fun _ => rfl) _) (and_all (noss_map (f := AV.f32) (fun _ => rfl) _) (and_all (noss_map (f := AV.i64) (fun _ => rfl) _) rfl))))) rfl (by decide) (ns_of ⟨⟨_, rfl⟩, ⟨_, rfl⟩, ⟨_, rfl⟩, ⟨_, rfl⟩, ⟨_, rfl⟩, trivial⟩)) rfl ?_
      refine ROps.d (r := AV.optr 11 1 0) (fs := [(11, [AV.i64 0, AV.i64 0, AV.nilsl, AV.nilsl, AV.nilsl, AV.nilsl, AV.i64 0, AV.i64 0, AV.nilsl])]) (Γ' := [⟨1, some (r26.map AV.f32)⟩, ⟨1, some (r27.map AV.f32)⟩, ⟨1, some (r28.map AV.f32)⟩, ⟨1, some (r29.map AV.f32)⟩, ⟨1, some (r30.map AV.i64)⟩, ⟨1, some [AV.i64 r22, AV.i64 r23, AV.oref 0 1 0 r26.length, AV.oref 1 1 0 r27.length, AV.oref 2 1 0 r28.length, AV.oref 3 1 0 r29.length, AV.i64 r24, AV.i64 r25, AV.oref 4 1 0 r30.length]⟩, ⟨1, some (r35.map AV.f32)⟩, ⟨1, some (r36.map AV.f32)⟩, ⟨1, some (r37.map AV.f32)⟩, ⟨1, some (r38.map AV.f32)⟩, ⟨1, some (r39.map AV.i64)⟩, ⟨1, some [AV.i64 0, AV.i64 0, AV.nilsl, AV.nilsl, AV.nilsl, AV.nilsl, AV.i64 0, AV.i64 0, AV.nilsl]⟩]) rfl rfl rfl (TOp.alloc_o (g := ⟨0, none⟩) 11 rfl zer47 zok47 rfl) rfl ?_
      refine ROps.store_le (r := AV.agg [AV.i64 r31, AV.i64 r32, AV.oref 6 1 0 r35.length, AV.oref 7 1 0 r36.length, AV.oref 8 1 0 r37.length, AV.oref 9 1 0 r38.length, AV.i64 r33, AV.i64 r34, AV.oref 10 1 0 r39.length]) (l' := [AV.i64 r31, AV.i64 r32, AV.oref 6 1 0 r35.length, AV.oref 7 1 0 r36.length, AV.oref 8 1 0 r37.length, AV.oref 9 1 0 r38.length, AV.i64 r33, AV.i64 r34, AV.oref 10 1 0 r39.length]) (Γ' := [⟨1, some (r26.map AV.f32)⟩, ⟨1, some (r27.map AV.f32)⟩, ⟨1, some (r28.map AV.f32)⟩, ⟨1, some (r29.map AV.f32)⟩, ⟨1, some (r30.map AV.i64)⟩, ⟨1, some [AV.i64 r22, AV.i64 r23, AV.oref 0 1 0 r26.length, AV.oref 1 1 0 r27.length, AV.oref 2 1 0 r28.length, AV.oref 3 1 0 r29.length, AV.i64 r24, AV.i64 r25, AV.oref 4 1 0 r30.length]⟩, ⟨1, some (r35.map AV.f32)⟩, ⟨1, some (r36.map AV.f32)⟩, ⟨1, some (r37.map AV.f32)⟩, ⟨1, some (r38.map AV.f32)⟩, ⟨1, some (r39.map AV.i64)⟩, ⟨1, some [AV.i64 r31, AV.i64 r32, AV.oref 6 1 0 r35.length, AV.oref 7 1 0 r36.length, AV.oref 8 1 0 r37.length, AV.oref 9 1 0 r38.length, AV.i64 r33, AV.i64 r34, AV.oref 10 1 0 r39.length]⟩]) rfl siz47 rfl rfl rfl (ALe.refl _) rfl rfl rfl rfl (Nat.le_of_ble_eq_true rfl) rfl rfl ?_
      refine ROps.nil ?_
      refine RunC.seq ?_
      obtain ⟨r40, hf10, h⟩ := obind_some h
      refine RunC.regionW ?_
      refine ROps.d (r := AV.agg [AV.i64 r22, AV.i64 r23, AV.oref 0 1 0 r26.length, AV.oref 1 1 0 r27.length, AV.oref 2 1 0 r28.length, AV.oref 3 1 0 r29.length, AV.i64 r24, AV.i64 r25, AV.oref 4 1 0 r30.length]) (fs := []) (Γ' := [⟨1, some (r26.map AV.f32)⟩, ⟨1, some (r27.map AV.f32)⟩, ⟨1, some (r28.map AV.f32)⟩, ⟨1, some (r29.map AV.f32)⟩, ⟨1, some (r30.map AV.i64)⟩, ⟨1, some [AV.i64 r22, AV.i64 r23, AV.oref 0 1 0 r26.length, AV.oref 1 1 0 r27.length, AV.oref 2 1 0 r28.length, AV.oref 3 1 0 r29.length, AV.i64 r24, AV.i64 r25, AV.oref 4 1 0 r30.length]⟩, ⟨1, some (r35.map AV.f32)⟩, ⟨1, some (r36.map AV.f32)⟩, ⟨1, some (r37.map AV.f32)⟩, ⟨1, some (r38.map AV.f32)⟩, ⟨1, some (r39.map AV.i64)⟩, ⟨1, some [AV.i64 r31, AV.i64 r32, AV.oref 6 1 0 r35.length, AV.oref 7 1 0 r36.length, AV.oref 8 1 0 r37.length, AV.oref 9 1 0 r38.length, AV.i64 r33, AV.i64 r34, AV.oref 10 1 0 r39.length]⟩]) rfl rfl rfl (TOp.loadAgg_o rfl agg47 siz47 rfl rfl rfl rfl) rfl ?_
      refine ROps.d (r := AV.agg [AV.i64 r31, AV.i64 r32, AV.oref 6 1 0 r35.length, AV.oref 7 1 0 r36.length, AV.oref 8 1 0 r37.length, AV.oref 9 1 0 r38.length, AV.i64 r33, AV.i64 r34, AV.oref 10 1 0 r39.length]) (fs := []) (Γ' := [⟨1, some (r26.map AV.f32)⟩, ⟨1, some (r27.map AV.f32)⟩, ⟨1, some (r28.map AV.f32)⟩, ⟨1, some (r29.map AV.f32)⟩, ⟨1, some (r30.map AV.i64)⟩, ⟨1, some [AV.i64 r22, AV.i64 r23, AV.oref 0 1 0 r26.length, AV.oref 1 1 0 r27.length, AV.oref 2 1 0 r28.length, AV.oref 3 1 0 r29.length, AV.i64 r24, AV.i64 r25, AV.oref 4 1 0 r30.length]⟩, ⟨1, some (r35.map AV.f32)⟩, ⟨1, some (r36.map AV.f32)⟩, ⟨1, some (r37.map AV.f32)⟩, ⟨1, some (r38.map AV.f32)⟩, ⟨1, some (r39.map AV.i64)⟩, ⟨1, some [AV.i64 r31, AV.i64 r32, AV.oref 6 1 0 r35.length, AV.oref 7 1 0 r36.length, AV.oref 8 1 0 r37.length, AV.oref 9 1 0 r38.length, AV.i64 r33, AV.i64 r34, AV.oref 10 1 0 r39.length]⟩]) rfl rfl rfl (TOp.loadAgg_o rfl agg47 siz47 rfl rfl rfl rfl) rfl ?_
      refine ROps.d (r := AV.b r40) (fs := []) (Γ' := [⟨1, some (r26.map AV.f32)⟩, ⟨1, some (r27.map AV.f32)⟩, ⟨1, some (r28.map AV.f32)⟩, ⟨1, some (r29.map AV.f32)⟩, ⟨1, some (r30.map AV.i64)⟩, ⟨1, some [AV.i64 r22, AV.i64 r23, AV.oref 0 1 0 r26.length, AV.oref 1 1 0 r27.length, AV.oref 2 1 0 r28.length, AV.oref 3 1 0 r29.length, AV.i64 r24, AV.i64 r25, AV.oref 4 1 0 r30.length]⟩, ⟨1, some (r35.map AV.f32)⟩, ⟨1, some (r36.map AV.f32)⟩, ⟨1, some (r37.map AV.f32)⟩, ⟨1, some (r38.map AV.f32)⟩, ⟨1, some (r39.map AV.i64)⟩, ⟨1, some [AV.i64 r31, AV.i64 r32, AV.oref 6 1 0 r35.length, AV.oref 7 1 0 r36.length, AV.oref 8 1 0 r37.length, AV.oref 9 1 0 r38.length, AV.i64 r33, AV.i64 r34, AV.oref 10 1 0 r39.length]⟩]) rfl rfl rfl (TOp.callB (CallAs.func ent34 rfl rfl) (Bors.cons (Bor.agg (Bors.cons (Bor.pure rfl) (Bors.cons (Bor.pure rfl) (Bors.cons (Bor.own (f := AV.f32) (fun _ => rfl) rfl rfl) (Bors.cons (Bor.own (f := AV.f32) (fun _ => rfl) rfl rfl) (Bors.cons (Bor.own (f := AV.f32) (fun _ => rfl) rfl rfl) (Bors.cons (Bor.own (f := AV.f32) (fun _ => rfl) rfl rfl) (Bors.cons (Bor.pure rfl) (Bors.cons (Bor.pure rfl) (Bors.cons (Bor.own (f := AV.i64) (fun _ => rfl) rfl rfl) Bors.nil)))))))))) (Bors.cons (Bor.agg (Bors.cons (Bor.pure rfl) (Bors.cons (Bor.pure rfl) (Bors.cons (Bor.own (f := AV.f32) (fun _ => rfl) rfl rfl) (Bors.cons (Bor.own (f := AV.f32) (fun _ => rfl) rfl rfl) (Bors.cons (Bor.own (f := AV.f32) (fun _ => rfl) rfl rfl) (Bors.cons (Bor.own (f := AV.f32) (fun _ => rfl) rfl rfl) (Bors.cons (Bor.pure rfl) (Bors.cons (Bor.pure rfl) (Bors.cons (Bor.own (f := AV.i64) (fun _ => rfl) rfl rfl) Bors.nil)))))))))) Bors.nil)) rfl rfl (f34_ok r22 r23 r26 r27 r28 r29 r24 r25 r30 r31 r32 r35 r36 r37 r38 r33 r34 r39 r40 hf10)) rfl ?_
      refine ROps.l (r := AV.b r40) rfl rfl rfl (LOp.assign rfl rfl) ?_
      refine ROps.nil ?_
      refine RunC.wl (τ' := [(2, AV.ptr [AV.i64 a0, AV.i64 a1, AV.sl a2.length (a2.map AV.f32), AV.sl a3.length (a3.map AV.f32), AV.sl a4.length (a4.map AV.f32), AV.sl a5.length (a5.map AV.f32), AV.i64 a6, AV.i64 a7, AV.sl a8.length (a8.map AV.i64)]), (3, AV.ptr [AV.i64 a9, AV.i64 a10, AV.sl a11.length (a11.map AV.f32), AV.sl a12.length (a12.map AV.f32), AV.sl a13.length (a13.map AV.f32), AV.sl a14.length (a14.map AV.f32), AV.i64 a15, AV.i64 a16, AV.sl a17.length (a17.map AV.i64)]), (6, AV.b r21), (7, AV.optr 5 1 0), (8, AV.optr 11 1 0), (9, AV.b r40)]) (Γ' := [⟨1, some (r26.map AV.f32)⟩, ⟨1, some (r27.map AV.f32)⟩, ⟨1, some (r28.map AV.f32)⟩, ⟨1, some (r29.map AV.f32)⟩, ⟨1, some (r30.map AV.i64)⟩, ⟨1, some [AV.i64 r22, AV.i64 r23, AV.oref 0 1 0 r26.length, AV.oref 1 1 0 r27.length, AV.oref 2 1 0 r28.length, AV.oref 3 1 0 r29.length, AV.i64 r24, AV.i64 r25, AV.oref 4 1 0 r30.length]⟩, ⟨1, some (r35.map AV.f32)⟩, ⟨1, some (r36.map AV.f32)⟩, ⟨1, some (r37.map AV.f32)⟩, ⟨1, some (r38.map AV.f32)⟩, ⟨1, some (r39.map AV.i64)⟩, ⟨1, some [AV.i64 r31, AV.i64 r32, AV.oref 6 1 0 r35.length, AV.oref 7 1 0 r36.length, AV.oref 8 1 0 r37.length, AV.oref 9 1 0 r38.length, AV.i64 r33, AV.i64 r34, AV.oref 10 1 0 r39.length]⟩]) ⟨(ALe.refl _), (ALe.refl _), (ALe.refl _), (ALe.refl _), (ALe.refl _), (ALe.refl _), trivial⟩ ⟨⟨rfl, .inr rfl⟩, ⟨rfl, .inr rfl⟩, ⟨rfl, .inr rfl⟩, ⟨rfl, .inr rfl⟩, ⟨rfl, .inr rfl⟩, ⟨rfl, .inr rfl⟩, ⟨rfl, .inr rfl⟩, ⟨rfl, .inr rfl⟩, ⟨rfl, .inr rfl⟩, ⟨rfl, .inr rfl⟩, ⟨rfl, .inr rfl⟩, ⟨rfl, .inr rfl⟩, trivial⟩ ?_
      refine RunC.seq ?_
      refine RunC.seq ?_
      rcases bsel_some h with ⟨hc11, h⟩ | ⟨hc11, h⟩
      · refine RunC.regionW ?_
        refine ROps.l (r := AV.b r40) rfl rfl rfl (LOp.move rfl rfl) ?_
        refine ROps.l (r := AV.b r21) rfl rfl rfl (LOp.move rfl rfl) ?_
        refine ROps.l (r := AV.b true) rfl rfl rfl (LOp.eqb (LOp.neqb pun4 rfl rfl rfl) hc11) ?_
        refine ROps.nil ?_
        refine RunC.cond_true rfl rfl ?_
        refine RunC.seq ?_
        refine RunC.regionW ?_
        refine ROps.l (r := AV.b false) rfl rfl rfl (LOp.assign rfl rfl) ?_
        refine ROps.nil ?_
        refine RunC.ret ?_
        have hq := Option.some.inj h
        subst q0
        exact bodyQ.pure (.inr rfl) rfl (Res.one rfl (RV.tmp rfl))
      · refine RunC.regionW ?_
        refine ROps.l (r := AV.b r40) rfl rfl rfl (LOp.move rfl rfl) ?_
        refine ROps.l (r := AV.b r21) rfl rfl rfl (LOp.move rfl rfl) ?_
        refine ROps.l (r := AV.b false) rfl rfl rfl (LOp.eqb (LOp.neqb pun4 rfl rfl rfl) hc11) ?_
        refine ROps.nil ?_
        refine RunC.cond_false rfl rfl ?_
        refine RunC.skip ?_
        refine RunC.seq ?_
        refine RunC.seq ?_
        obtain ⟨r41, r42, r43, r44, r45, r46, r47, r48, r49, hf12, h⟩ := obind9_some h
        obtain ⟨r50, hf13, h⟩ := obind_some h
        rcases bsel_some h with ⟨hc14, h⟩ | ⟨hc14, h⟩
        · refine RunC.region_draw (Γ' := [⟨1, some (r26.map AV.f32)⟩, ⟨1, some (r27.map AV.f32)⟩, ⟨1, some (r28.map AV.f32)⟩, ⟨1, some (r29.map AV.f32)⟩, ⟨1, some (r30.map AV.i64)⟩, ⟨1, some [AV.i64 r22, AV.i64 r23, AV.oref 0 1 0 r26.length, AV.oref 1 1 0 r27.length, AV.oref 2 1 0 r28.length, AV.oref 3 1 0 r29.length, AV.i64 r24, AV.i64 r25, AV.oref 4 1 0 r30.length]⟩, ⟨1, some (r35.map AV.f32)⟩, ⟨1, some (r36.map AV.f32)⟩, ⟨1, some (r37.map AV.f32)⟩, ⟨1, some (r38.map AV.f32)⟩, ⟨1, some (r39.map AV.i64)⟩, ⟨1, some [AV.i64 r31, AV.i64 r32, AV.oref 6 1 0 r35.length, AV.oref 7 1 0 r36.length, AV.oref 8 1 0 r37.length, AV.oref 9 1 0 r38.length, AV.i64 r33, AV.i64 r34, AV.oref 10 1 0 r39.length]⟩]) 5 mixed 
            (TR.d (r := AV.agg [AV.i64 r22, AV.i64 r23, AV.oref 0 1 0 r26.length, AV.oref 1 1 0 r27.length, AV.oref 2 1 0 r28.length, AV.oref 3 1 0 r29.length, AV.i64 r24, AV.i64 r25, AV.oref 4 1 0 r30.length]) (fs := []) rfl rfl (TOp.loadAgg_o rfl agg47 siz47 rfl rfl rfl rfl) <|
            (TR.l (r := AV.agg [AV.i64 a0, AV.i64 a1, AV.sl a2.length (a2.map AV.f32), AV.sl a3.length (a3.map AV.f32), AV.sl a4.length (a4.map AV.f32), AV.sl a5.length (a5.map AV.f32), AV.i64 a6, AV.i64 a7, AV.sl a8.length (a8.map AV.i64)]) rfl rfl (LOp.loadAgg agg63 siz63 rfl rfl rfl rfl) <|
            (TR.d (r := AV.agg [AV.i64 r41, AV.i64 r42, AV.sl r45.length (r45.map AV.f32), AV.sl r46.length (r46.map AV.f32), AV.sl r47.length (r47.map AV.f32), AV.sl r48.length (r48.map AV.f32), AV.i64 r43, AV.i64 r44, AV.sl r49.length (r49.map AV.i64)]) (fs := []) rfl rfl (TOp.callS (CallAs.func ent33 rfl rfl) (ALes.cons (ALe.refl _) ALes.nil) (lts_cons (lt_agg (lts_cons rfl (lts_cons rfl (lts_cons (lt_sl (fun _ => rfl)) (lts_cons (lt_sl (fun _ => rfl)) (lts_cons (lt_sl (fun _ => rfl)) (lts_cons (lt_sl (fun _ => rfl)) (lts_cons rfl (lts_cons rfl (lts_cons (lt_sl (fun _ => rfl)) lts_nil)))))))))) lts_nil) (lt_agg (lts_cons rfl (lts_cons rfl (lts_cons (lt_sl (fun _ => rfl)) (lts_cons (lt_sl (fun _ => rfl)) (lts_cons (lt_sl (fun _ => rfl)) (lts_cons (lt_sl (fun _ => rfl)) (lts_cons rfl (lts_cons rfl (lts_cons (lt_sl (fun _ => rfl)) lts_nil)))))))))) (f33_ok a0 a1 a2 a3 a4 a5 a6 a7 a8 r41 r42 r43 r44 r45 r46 r47 r48 r49 hf12) (Bor.agg (Bors.cons (Bor.pure rfl) (Bors.cons (Bor.pure rfl) (Bors.cons (Bor.own (f := AV.f32) (fun _ => rfl) rfl rfl) (Bors.cons (Bor.own (f := AV.f32) (fun _ => rfl) rfl rfl) (Bors.cons (Bor.own (f := AV.f32) (fun _ => rfl) rfl rfl) (Bors.cons (Bor.own (f := AV.f32) (fun _ => rfl) rfl rfl) (Bors.cons (Bor.pure rfl) (Bors.cons (Bor.pure rfl) (Bors.cons (Bor.own (f := AV.i64) (fun _ => rfl) rfl rfl) Bors.nil))))))))))) <|
            (TR.d (r := AV.b true) (fs := []) rfl rfl (TOp.eqb (TOp.callB (CallAs.func ent21 rfl rfl) (Bors.cons (Bor.agg (Bors.cons (Bor.pure rfl) (Bors.cons (Bor.pure rfl) (Bors.cons (Bor.own (f := AV.f32) (fun _ => rfl) rfl rfl) (Bors.cons (Bor.own (f := AV.f32) (fun _ => rfl) rfl rfl) (Bors.cons (Bor.own (f := AV.f32) (fun _ => rfl) rfl rfl) (Bors.cons (Bor.own (f := AV.f32) (fun _ => rfl) rfl rfl) (Bors.cons (Bor.pure rfl) (Bors.cons (Bor.pure rfl) (Bors.cons (Bor.own (f := AV.i64) (fun _ => rfl) rfl rfl) Bors.nil)))))))))) (Bors.cons (Bor.agg (Bors.cons (Bor.pure rfl) (Bors.cons (Bor.pure rfl) (Bors.cons (Bor.sl (fun _ => rfl)) (Bors.cons (Bor.sl (fun _ => rfl)) (Bors.cons (Bor.sl (fun _ => rfl)) (Bors.cons (Bor.sl (fun _ => rfl)) (Bors.cons (Bor.pure rfl) (Bors.cons (Bor.pure rfl) (Bors.cons (Bor.sl (fun _ => rfl)) Bors.nil)))))))))) Bors.nil)) rfl rfl (f21_ok r22 r23 r26 r27 r28 r29 r24 r25 r30 r41 r42 r45 r46 r47 r48 r43 r44 r49 r50 hf13)) hc14) <|
            (TR.l (r := AV.b false) rfl rfl (LOp.eqb (LOp.not rfl rfl) rfl) <|
            TR.nil))))) rfl (by kernel_rfl) rfl fills_nil rfl ?_
          iterate 5 refine ROps.dropS ?_
          refine ROps.drop0 ?_
          refine ROps.nil ?_
          refine RunC.wl (τ' := [(3, AV.ptr [AV.i64 a9, AV.i64 a10, AV.sl a11.length (a11.map AV.f32), AV.sl a12.length (a12.map AV.f32), AV.sl a13.length (a13.map AV.f32), AV.sl a14.length (a14.map AV.f32), AV.i64 a15, AV.i64 a16, AV.sl a17.length (a17.map AV.i64)]), (8, AV.optr 11 1 0), (39, AV.b false)]) (Γ' := [⟨1, none⟩, ⟨1, none⟩, ⟨1, none⟩, ⟨1, none⟩, ⟨1, none⟩, ⟨1, none⟩, ⟨1, some (r35.map AV.f32)⟩, ⟨1, some (r36.map AV.f32)⟩, ⟨1, some (r37.map AV.f32)⟩, ⟨1, some (r38.map AV.f32)⟩, ⟨1, some (r39.map AV.i64)⟩, ⟨1, some [AV.i64 r31, AV.i64 r32, AV.oref 6 1 0 r35.length, AV.oref 7 1 0 r36.length, AV.oref 8 1 0 r37.length, AV.oref 9 1 0 r38.length, AV.i64 r33, AV.i64 r34, AV.oref 10 1 0 r39.length]⟩]) ⟨(ALe.refl _), (ALe.refl _), (ALe.refl _), trivial⟩ ⟨⟨rfl, .inl rfl⟩, ⟨rfl, .inl rfl⟩, ⟨rfl, .inl rfl⟩, ⟨rfl, .inl rfl⟩, ⟨rfl, .inl rfl⟩, ⟨rfl, .inl rfl⟩, ⟨rfl, .inr rfl⟩, ⟨rfl, .inr rfl⟩, ⟨rfl, .inr rfl⟩, ⟨rfl, .inr rfl⟩, ⟨rfl, .inr rfl⟩, ⟨rfl, .inr rfl⟩, trivial⟩ ?_
          refine RunC.cond_false rfl rfl ?_
          refine RunC.skip ?_
          refine RunC.seq ?_
          refine RunC.seq ?_
          obtain ⟨r51, r52, r53, r54, r55, r56, r57, r58, r59, hf15, h⟩ := obind9_some h
          obtain ⟨r60, hf16, h⟩ := obind_some h
          rcases bsel_some h with ⟨hc17, h⟩ | ⟨hc17, h⟩
          · refine RunC.region_draw (Γ' := [⟨1, none⟩, ⟨1, none⟩, ⟨1, none⟩, ⟨1, none⟩, ⟨1, none⟩, ⟨1, none⟩, ⟨1, some (r35.map AV.f32)⟩, ⟨1, some (r36.map AV.f32)⟩, ⟨1, some (r37.map AV.f32)⟩, ⟨1, some (r38.map AV.f32)⟩, ⟨1, some (r39.map AV.i64)⟩, ⟨1, some [AV.i64 r31, AV.i64 r32, AV.oref 6 1 0 r35.length, AV.oref 7 1 0 r36.length, AV.oref 8 1 0 r37.length, AV.oref 9 1 0 r38.length, AV.i64 r33, AV.i64 r34, AV.oref 10 1 0 r39.length]⟩]) 5 mixed 
              (TR.d (r := AV.agg [AV.i64 r31, AV.i64 r32, AV.oref 6 1 0 r35.length, AV.oref 7 1 0 r36.length, AV.oref 8 1 0 r37.length, AV.oref 9 1 0 r38.length, AV.i64 r33, AV.i64 r34, AV.oref 10 1 0 r39.length]) (fs := []) rfl rfl (TOp.loadAgg_o rfl agg47 siz47 rfl rfl rfl rfl) <|
              (TR.l (r := AV.agg [AV.i64 a9, AV.i64 a10, AV.sl a11.length (a11.map AV.f32), AV.sl a12.length (a12.map AV.f32), AV.sl a13.length (a13.map AV.f32), AV.sl a14.length (a14.map AV.f32), AV.i64 a15, AV.i64 a16, AV.sl a17.length (a17.map AV.i64)]) rfl rfl (LOp.loadAgg agg63 siz63 rfl rfl rfl rfl) <|
              (TR.d (r := AV.agg [AV.i64 r51, AV.i64 r52, AV.sl r55.length (r55.map AV.f32), AV.sl r56.length (r56.map AV.f32), AV.sl r57.length (r57.map AV.f32), AV.sl r58.length (r58.map AV.f32), AV.i64 r53, AV.i64 r54, AV.sl r59.length (r59.map AV.i64)]) (fs := []) rfl rfl (TOp.callS (CallAs.func ent33 rfl rfl) (ALes.cons (ALe.refl _) ALes.nil) (lts_cons (lt_agg (lts_cons rfl (lts_cons rfl (lts_cons (lt_sl (fun _ => rfl)) (lts_cons (lt_sl (fun _ => rfl)) (lts_cons (lt_sl (fun _ => rfl)) (lts_cons (lt_sl (fun _ => rfl)) (lts_cons rfl (lts_cons rfl (lts_cons (lt_sl (fun _ => rfl)) lts_nil)))))))))) lts_nil) (lt_agg (lts_cons rfl (lts_cons rfl (lts_cons (lt_sl (fun _ => rfl)) (lts_cons (lt_sl (fun _ => rfl)) (lts_cons (lt_sl (fun _ => rfl)) (lts_cons (lt_sl (fun _ => rfl)) (lts_cons rfl (lts_cons rfl (lts_cons (lt_sl (fun _ => rfl)) lts_nil)))))))))) (f33_ok a9 a10 a11 a12 a13 a14 a15 a16 a17 r51 r52 r53 r54 r55 r56 r57 r58 r59 hf15) (Bor.agg (Bors.cons (Bor.pure rfl) (Bors.cons (Bor.pure rfl) (Bors.cons (Bor.own (f := AV.f32) (fun _ => rfl) rfl rfl) (Bors.cons (Bor.own (f := AV.f32) (fun _ => rfl) rfl rfl) (Bors.cons (Bor.own (f := AV.f32) (fun _ => rfl) rfl rfl) (Bors.cons (Bor.own (f := AV.f32) (fun _ => rfl) rfl rfl) (Bors.cons (Bor.pure rfl) (Bors.cons (Bor.pure rfl) (Bors.cons (Bor.own (f := AV.i64) (fun _ => rfl) rfl rfl) Bors.nil))))))))))) <|
              (TR.d (r := AV.b true) (fs := []) rfl rfl (TOp.eqb (TOp.callB (CallAs.func ent21 rfl rfl) (Bors.cons (Bor.agg (Bors.cons (Bor.pure rfl) (Bors.cons (Bor.pure rfl) (Bors.cons (Bor.own (f := AV.f32) (fun _ => rfl) rfl rfl) (Bors.cons (Bor.own (f := AV.f32) (fun _ => rfl) rfl rfl) (Bors.cons (Bor.own (f := AV.f32) (fun _ => rfl) rfl rfl) (Bors.cons (Bor.own (f := AV.f32) (fun _ => rfl) rfl rfl) (Bors.cons (Bor.pure rfl) (Bors.cons (Bor.pure rfl) (Bors.cons (Bor.own (f := AV.i64) (fun _ => rfl) rfl rfl) Bors.nil)))))))))) (Bors.cons (Bor.agg (Bors.cons (Bor.pure rfl) (Bors.cons (Bor.pure rfl) (Bors.cons (Bor.sl (fun _ => rfl)) (Bors.cons (Bor.sl (fun _ => rfl)) (Bors.cons (Bor.sl (fun _ => rfl)) (Bors.cons (Bor.sl (fun _ => rfl)) (Bors.cons (Bor.pure rfl) (Bors.cons (Bor.pure rfl) (Bors.cons (Bor.sl (fun _ => rfl)) Bors.nil)))))))))) Bors.nil)) rfl rfl (f21_ok r31 r32 r35 r36 r37 r38 r33 r34 r39 r51 r52 r55 r56 r57 r58 r53 r54 r59 r60 hf16)) hc17) <|
              (TR.l (r := AV.b false) rfl rfl (LOp.eqb (LOp.not rfl rfl) rfl) <|
              TR.nil))))) rfl (by kernel_rfl) rfl fills_nil rfl ?_
            iterate 5 refine ROps.dropS ?_
            refine ROps.drop0 ?_
            refine ROps.nil ?_
            refine RunC.wl (τ' := [(44, AV.b false)]) (Γ' := [⟨1, none⟩, ⟨1, none⟩, ⟨1, none⟩, ⟨1, none⟩, ⟨1, none⟩, ⟨1, none⟩, ⟨1, none⟩, ⟨1, none⟩, ⟨1, none⟩, ⟨1, none⟩, ⟨1, none⟩, ⟨1, none⟩]) ⟨(ALe.refl _), trivial⟩ ⟨⟨rfl, .inl rfl⟩, ⟨rfl, .inl rfl⟩, ⟨rfl, .inl rfl⟩, ⟨rfl, .inl rfl⟩, ⟨rfl, .inl rfl⟩, ⟨rfl, .inl rfl⟩, ⟨rfl, .inl rfl⟩, ⟨rfl, .inl rfl⟩, ⟨rfl, .inl rfl⟩, ⟨rfl, .inl rfl⟩, ⟨rfl, .inl rfl⟩, ⟨rfl, .inl rfl⟩, trivial⟩ ?_
            refine RunC.cond_false rfl rfl ?_
            refine RunC.skip ?_
            refine RunC.seq ?_
            refine RunC.regionW ?_
            refine ROps.l (r := AV.b true) rfl rfl rfl (LOp.assign rfl rfl) ?_
            refine ROps.nil ?_
            refine RunC.ret ?_
            have hq := Option.some.inj h
            subst q0
            exact bodyQ.pure (.inr rfl) rfl (Res.one rfl (RV.tmp rfl))
          · refine RunC.region_draw (Γ' := [⟨1, none⟩, ⟨1, none⟩, ⟨1, none⟩, ⟨1, none⟩, ⟨1, none⟩, ⟨1, none⟩, ⟨1, some (r35.map AV.f32)⟩, ⟨1, some (r36.map AV.f32)⟩, ⟨1, some (r37.map AV.f32)⟩, ⟨1, some (r38.map AV.f32)⟩, ⟨1, some (r39.map AV.i64)⟩, ⟨1, some [AV.i64 r31, AV.i64 r32, AV.oref 6 1 0 r35.length, AV.oref 7 1 0 r36.length, AV.oref 8 1 0 r37.length, AV.oref 9 1 0 r38.length, AV.i64 r33, AV.i64 r34, AV.oref 10 1 0 r39.length]⟩]) 5 mixed 
              (TR.d (r := AV.agg [AV.i64 r31, AV.i64 r32, AV.oref 6 1 0 r35.length, AV.oref 7 1 0 r36.length, AV.oref 8 1 0 r37.length, AV.oref 9 1 0 r38.length, AV.i64 r33, AV.i64 r34, AV.oref 10 1 0 r39.length]) (fs := []) rfl rfl (TOp.loadAgg_o rfl agg47 siz47 rfl rfl rfl rfl) <|
              (TR.l (r := AV.agg [AV.i64 a9, AV.i64 a10, AV.sl a11.length (a11.map AV.f32), AV.sl a12.length (a12.map AV.f32), AV.sl a13.length (a13.map AV.f32), AV.sl a14.length (a14.map AV.f32), AV.i64 a15, AV.i64 a16, AV.sl a17.length (a17.map AV.i64)]) rfl rfl (LOp.loadAgg agg63 siz63 rfl rfl rfl rfl) <|
              (TR.d (r := AV.agg [AV.i64 r51, AV.i64 r52, AV.sl r55.length (r55.map AV.f32), AV.sl r56.length (r56.map AV.f32), AV.sl r57.length (r57.map AV.f32), AV.sl r58.length (r58.map AV.f32), AV.i64 r53, AV.i64 r54, AV.sl r59.length (r59.map AV.i64)]) (fs := []) rfl rfl (TOp.callS (CallAs.func ent33 rfl rfl) (ALes.cons (ALe.refl _) ALes.nil) (lts_cons (lt_agg (lts_cons rfl (lts_cons rfl (lts_cons (lt_sl (fun _ => rfl)) (lts_cons (lt_sl (fun _ => rfl)) (lts_cons (lt_sl (fun _ => rfl)) (lts_cons (lt_sl (fun _ => rfl)) (lts_cons rfl (lts_cons rfl (lts_cons (lt_sl (fun _ => rfl)) lts_nil)))))))))) lts_nil) (lt_agg (lts_cons rfl (lts_cons rfl (lts_cons (lt_sl (fun _ => rfl)) (lts_cons (lt_sl (fun _ => rfl)) (lts_cons (lt_sl (fun _ => rfl)) (lts_cons (lt_sl (fun _ => rfl)) (lts_cons rfl (lts_cons rfl (lts_cons (lt_sl (fun _ => rfl)) lts_nil)))))))))) (f33_ok a9 a10 a11 a12 a13 a14 a15 a16 a17 r51 r52 r53 r54 r55 r56 r57 r58 r59 hf15) (Bor.agg (Bors.cons (Bor.pure rfl) (Bors.cons (Bor.pure rfl) (Bors.cons (Bor.own (f := AV.f32) (fun _ => rfl) rfl rfl) (Bors.cons (Bor.own (f := AV.f32) (fun _ => rfl) rfl rfl) (Bors.cons (Bor.own (f := AV.f32) (fun _ => rfl) rfl rfl) (Bors.cons (Bor.own (f := AV.f32) (fun _ => rfl) rfl rfl) (Bors.cons (Bor.pure rfl) (Bors.cons (Bor.pure rfl) (Bors.cons (Bor.own (f := AV.i64) (fun _ => rfl) rfl rfl) Bors.nil))))))))))) <|
              (TR.d (r := AV.b false) (fs := []) rfl rfl (TOp.eqb (TOp.callB (CallAs.func ent21 rfl rfl) (Bors.cons (Bor.agg (Bors.cons (Bor.pure rfl) (Bors.cons (Bor.pure rfl) (Bors.cons (Bor.own (f := AV.f32) (fun _ => rfl) rfl rfl) (Bors.cons (Bor.own (f := AV.f32) (fun _ => rfl) rfl rfl) (Bors.cons (Bor.own (f := AV.f32) (fun _ => rfl) rfl rfl) (Bors.cons (Bor.own (f := AV.f32) (fun _ => rfl) rfl rfl) (Bors.cons (Bor.pure rfl) (Bors.cons (Bor.pure rfl) (Bors.cons (Bor.own (f := AV.i64) (fun _ => rfl) rfl rfl) Bors.nil)))))))))) (Bors.cons (Bor.agg (Bors.cons (Bor.pure rfl) (Bors.cons (Bor.pure rfl) (Bors.cons (Bor.sl (fun _ => rfl)) (Bors.cons (Bor.sl (fun _ => rfl)) (Bors.cons (Bor.sl (fun _ => rfl)) (Bors.cons (Bor.sl (fun _ => rfl)) (Bors.cons (Bor.pure rfl) (Bors.cons (Bor.pure rfl) (Bors.cons (Bor.sl (fun _ => rfl)) Bors.nil)))))))))) Bors.nil)) rfl rfl (f21_ok r31 r32 r35 r36 r37 r38 r33 r34 r39 r51 r52 r55 r56 r57 r58 r53 r54 r59 r60 hf16)) hc17) <|
              (TR.l (r := AV.b true) rfl rfl (LOp.eqb (LOp.not rfl rfl) rfl) <|
              TR.nil))))) rfl (by kernel_rfl) rfl fills_nil rfl ?_
            iterate 5 refine ROps.dropS ?_
            refine ROps.drop0 ?_
            refine ROps.nil ?_
            refine RunC.wl (τ' := [(44, AV.b true)]) (Γ' := [⟨1, none⟩, ⟨1, none⟩, ⟨1, none⟩, ⟨1, none⟩, ⟨1, none⟩, ⟨1, none⟩, ⟨1, none⟩, ⟨1, none⟩, ⟨1, none⟩, ⟨1, none⟩, ⟨1, none⟩, ⟨1, none⟩]) ⟨(ALe.refl _), trivial⟩ ⟨⟨rfl, .inl rfl⟩, ⟨rfl, .inl rfl⟩, ⟨rfl, .inl rfl⟩, ⟨rfl, .inl rfl⟩, ⟨rfl, .inl rfl⟩, ⟨rfl, .inl rfl⟩, ⟨rfl, .inl rfl⟩, ⟨rfl, .inl rfl⟩, ⟨rfl, .inl rfl⟩, ⟨rfl, .inl rfl⟩, ⟨rfl, .inl rfl⟩, ⟨rfl, .inl rfl⟩, trivial⟩ ?_
            refine RunC.cond_true rfl rfl ?_
            refine RunC.seq ?_
            refine RunC.regionW ?_
            refine ROps.l (r := AV.b false) rfl rfl rfl (LOp.assign rfl rfl) ?_
            refine ROps.nil ?_
            refine RunC.ret ?_
            have hq := Option.some.inj h
            subst q0
            exact bodyQ.pure (.inr rfl) rfl (Res.one rfl (RV.tmp rfl))
        · refine RunC.region_draw (Γ' := [⟨1, some (r26.map AV.f32)⟩, ⟨1, some (r27.map AV.f32)⟩, ⟨1, some (r28.map AV.f32)⟩, ⟨1, some (r29.map AV.f32)⟩, ⟨1, some (r30.map AV.i64)⟩, ⟨1, some [AV.i64 r22, AV.i64 r23, AV.oref 0 1 0 r26.length, AV.oref 1 1 0 r27.length, AV.oref 2 1 0 r28.length, AV.oref 3 1 0 r29.length, AV.i64 r24, AV.i64 r25, AV.oref 4 1 0 r30.length]⟩, ⟨1, some (r35.map AV.f32)⟩, ⟨1, some (r36.map AV.f32)⟩, ⟨1, some (r37.map AV.f32)⟩, ⟨1, some (r38.map AV.f32)⟩, ⟨1, some (r39.map AV.i64)⟩, ⟨1, some [AV.i64 r31, AV.i64 r32, AV.oref 6 1 0 r35.length, AV.oref 7 1 0 r36.length, AV.oref 8 1 0 r37.length, AV.oref 9 1 0 r38.length, AV.i64 r33, AV.i64 r34, AV.oref 10 1 0 r39.length]⟩]) 5 mixed 
            (TR.d (r := AV.agg [AV.i64 r22, AV.i64 r23, AV.oref 0 1 0 r26.length, AV.oref 1 1 0 r27.length, AV.oref 2 1 0 r28.length, AV.oref 3 1 0 r29.length, AV.i64 r24, AV.i64 r25, AV.oref 4 1 0 r30.length]) (fs := []) rfl rfl (TOp.loadAgg_o rfl agg47 siz47 rfl rfl rfl rfl) <|
            (TR.l (r := AV.agg [AV.i64 a0, AV.i64 a1, AV.sl a2.length (a2.map AV.f32), AV.sl a3.length (a3.map AV.f32), AV.sl a4.length (a4.map AV.f32), AV.sl a5.length (a5.map AV.f32), AV.i64 a6, AV.i64 a7, AV.sl a8.length (a8.map AV.i64)]) rfl rfl (LOp.loadAgg agg63 siz63 rfl rfl rfl rfl) <|
            (TR.d (r := AV.agg [AV.i64 r41, AV.i64 r42, AV.sl r45.length (r45.map AV.f32), AV.sl r46.length (r46.map AV.f32), AV.sl r47.length (r47.map AV.f32), AV.sl r48.length (r48.map AV.f32), AV.i64 r43, AV.i64 r44, AV.sl r49.length (r49.map AV.i64)]) (fs := []) rfl rfl (TOp.callS (CallAs.func ent33 rfl rfl) (ALes.cons (ALe.refl _) ALes.nil) (lts_cons (lt_agg (lts_cons rfl (lts_cons rfl (lts_cons (lt_sl (fun _ => rfl)) (lts_cons (lt_sl (fun _ => rfl)) (lts_cons (lt_sl (fun _ => rfl)) (lts_cons (lt_sl (fun _ => rfl)) (lts_cons rfl (lts_cons rfl (lts_cons (lt_sl (fun _ => rfl)) lts_nil)))))))))) lts_nil) (lt_agg (lts_cons rfl (lts_cons rfl (lts_cons (lt_sl (fun _ => rfl)) (lts_cons (lt_sl (fun _ => rfl)) (lts_cons (lt_sl (fun _ => rfl)) (lts_cons (lt_sl (fun _ => rfl)) (lts_cons rfl (lts_cons rfl (lts_cons (lt_sl (fun _ => rfl)) lts_nil)))))))))) (f33_ok a0 a1 a2 a3 a4 a5 a6 a7 a8 r41 r42 r43 r44 r45 r46 r47 r48 r49 hf12) (Bor.agg (Bors.cons (Bor.pure rfl) (Bors.cons (Bor.pure rfl) (Bors.cons (Bor.own (f := AV.f32) (fun _ => rfl) rfl rfl) (Bors.cons (Bor.own (f := AV.f32) (fun _ => rfl) rfl rfl) (Bors.cons (Bor.own (f := AV.f32) (fun _ => rfl) rfl rfl) (Bors.cons (Bor.own (f := AV.f32) (fun _ => rfl) rfl rfl) (Bors.cons (Bor.pure rfl) (Bors.cons (Bor.pure rfl) (Bors.cons (Bor.own (f := AV.i64) (fun _ => rfl) rfl rfl) Bors.nil))))))))))) <|
            (TR.d (r := AV.b false) (fs := []) rfl rfl (TOp.eqb (TOp.callB (CallAs.func ent21 rfl rfl) (Bors.cons (Bor.agg (Bors.cons (Bor.pure rfl) (Bors.cons (Bor.pure rfl) (Bors.cons (Bor.own (f := AV.f32) (fun _ => rfl) rfl rfl) (Bors.cons (Bor.own (f := AV.f32) (fun _ => rfl) rfl rfl) (Bors.cons (Bor.own (f := AV.f32) (fun _ => rfl) rfl rfl) (Bors.cons (Bor.own (f := AV.f32) (fun _ => rfl) rfl rfl) (Bors.cons (Bor.pure rfl) (Bors.cons (Bor.pure rfl) (Bors.cons (Bor.own (f := AV.i64) (fun _ => rfl) rfl rfl) Bors.nil)))))))))) (Bors.cons (Bor.agg (Bors.cons (Bor.pure rfl) (Bors.cons (Bor.pure rfl) (Bors.cons (Bor.sl (fun _ => rfl)) (Bors.cons (Bor.sl (fun _ => rfl)) (Bors.cons (Bor.sl (fun _ => rfl)) (Bors.cons (Bor.sl (fun _ => rfl)) (Bors.cons (Bor.pure rfl) (Bors.cons (Bor.pure rfl) (Bors.cons (Bor.sl (fun _ => rfl)) Bors.nil)))))))))) Bors.nil)) rfl rfl (f21_ok r22 r23 r26 r27 r28 r29 r24 r25 r30 r41 r42 r45 r46 r47 r48 r43 r44 r49 r50 hf13)) hc14) <|
            (TR.l (r := AV.b true) rfl rfl (LOp.eqb (LOp.not rfl rfl) rfl) <|
            TR.nil))))) rfl (by kernel_rfl) rfl fills_nil rfl ?_
          iterate 5 refine ROps.dropS ?_
          refine ROps.drop0 ?_
          refine ROps.nil ?_
          refine RunC.wl (τ' := [(3, AV.ptr [AV.i64 a9, AV.i64 a10, AV.sl a11.length (a11.map AV.f32), AV.sl a12.length (a12.map AV.f32), AV.sl a13.length (a13.map AV.f32), AV.sl a14.length (a14.map AV.f32), AV.i64 a15, AV.i64 a16, AV.sl a17.length (a17.map AV.i64)]), (8, AV.optr 11 1 0), (39, AV.b true)]) (Γ' := [⟨1, none⟩, ⟨1, none⟩, ⟨1, none⟩, ⟨1, none⟩, ⟨1, none⟩, ⟨1, none⟩, ⟨1, some (r35.map AV.f32)⟩, ⟨1, some (r36.map AV.f32)⟩, ⟨1, some (r37.map AV.f32)⟩, ⟨1, some (r38.map AV.f32)⟩, ⟨1, some (r39.map AV.i64)⟩, ⟨1, some [AV.i64 r31, AV.i64 r32, AV.oref 6 1 0 r35.length, AV.oref 7 1 0 r36.length, AV.oref 8 1 0 r37.length, AV.oref 9 1 0 r38.length, AV.i64 r33, AV.i64 r34, AV.oref 10 1 0 r39.length]⟩]) ⟨(ALe.refl _), (ALe.refl _), (ALe.refl _), trivial⟩ ⟨⟨rfl, .inl rfl⟩, ⟨rfl, .inl rfl⟩, ⟨rfl, .inl rfl⟩, ⟨rfl, .inl rfl⟩, ⟨rfl, .inl rfl⟩, ⟨rfl, .inl rfl⟩, ⟨rfl, .inr rfl⟩, ⟨rfl, .inr rfl⟩, ⟨rfl, .inr rfl⟩, ⟨rfl, .inr rfl⟩, ⟨rfl, .inr rfl⟩, ⟨rfl, .inr rfl⟩, trivial⟩ ?_
          refine RunC.cond_true rfl rfl ?_
          refine RunC.seq ?_
          refine RunC.regionW ?_
          refine ROps.l (r := AV.b false) rfl rfl rfl (LOp.assign rfl rfl) ?_
          refine ROps.nil ?_
          refine RunC.ret ?_
          have hq := Option.some.inj h
          subst q0
          exact bodyQ.pure (.inr rfl) rfl (Res.one rfl (RV.tmp rfl))
end Go.Proofs.Ytmgjiomflefedaa
