/- Generated. -/
import Derived.Test.YtddegdokdpeboaaDoorG0
namespace Go.Proofs.YtddegdokdpeboaaDoor
open Go Go.AM
set_option maxRecDepth 20000
set_option maxHeartbeats 4000000
set_option linter.unusedVariables false
set_option linter.unusedSimpArgs false
noncomputable def w_eqMatrix (a0 : Int) (a1 : Int) (a2 : List F) (a3 : Int) (a4 : Int) (a5 : List F) : Option (Bool) :=
  bsel (!decide (a0 = a3)) (
    some false) (
    bsel (!decide (a1 = a4)) (
      some false) (
      obind (w_eqFloat32S a2 a5) fun (r1 : Bool) =>
      bsel r1 (
        some true) (
        some false)))
theorem w_eqMatrix_ok (a0 : Int) (a1 : Int) (a2 : List F) (a3 : Int) (a4 : Int) (a5 : List F) (q0 : Bool) (h : w_eqMatrix a0 a1 a2 a3 a4 a5 = some q0) : Ev Tryd.prog 34 [AV.agg [AV.i64 a0, AV.i64 a1, AV.sl a2.length (a2.map AV.f32)], AV.agg [AV.i64 a3, AV.i64 a4, AV.sl a5.length (a5.map AV.f32)]] [] (AV.b q0) [] := by
  refine Ev.start Tryd.func34 rfl rfl 0 (τ := [(0, AV.agg [AV.i64 a0, AV.i64 a1, AV.sl a2.length (a2.map AV.f32)]), (1, AV.agg [AV.i64 a3, AV.i64 a4, AV.sl a5.length (a5.map AV.f32)])]) rfl (Γ' := []) rfl (n := 43) rfl (g := 0) rfl (fun _ => rfl) ?_
  unfold w_eqMatrix at h
  refine RunC.seq ?_
  refine RunC.regionW ?_
  refine ROps.d (r := AV.ptr [AV.i64 a0, AV.i64 a1, AV.sl a2.length (a2.map AV.f32)]) (fs := []) (Γ' := []) rfl rfl rfl (TOp.box_s rfl rfl rfl) rfl ?_
  refine ROps.d (r := AV.ptr [AV.i64 a3, AV.i64 a4, AV.sl a5.length (a5.map AV.f32)]) (fs := []) (Γ' := []) rfl rfl rfl (TOp.box_s rfl rfl rfl) rfl ?_
  refine ROps.l (r := AV.b false) rfl rfl rfl (LOp.assign rfl rfl) ?_
  refine ROps.nil ?_
  refine RunC.seq ?_
  refine RunC.seq ?_
  rcases bsel_some h with ⟨hc1, h⟩ | ⟨hc1, h⟩
  · refine RunC.regionW ?_
    refine ROps.l (r := AV.ptr [AV.i64 a0, AV.i64 a1, AV.sl a2.length (a2.map AV.f32)]) rfl rfl rfl (LOp.fap und56 rfl siz2 rfl rfl rfl) ?_
    refine ROps.l (r := AV.i64 a0) rfl rfl rfl (LOp.load1 agg2 rfl rfl) ?_
    refine ROps.l (r := AV.ptr [AV.i64 a3, AV.i64 a4, AV.sl a5.length (a5.map AV.f32)]) rfl rfl rfl (LOp.fap und56 rfl siz2 rfl rfl rfl) ?_
    refine ROps.l (r := AV.i64 a3) rfl rfl rfl (LOp.load1 agg2 rfl rfl) ?_
    refine ROps.l (r := AV.b true) rfl rfl rfl (LOp.eqb (LOp.neq rfl rfl rfl) hc1) ?_
    refine ROps.nil ?_
    refine RunC.cond_true rfl rfl ?_
    refine RunC.seq ?_
    refine RunC.regionW ?_
    refine ROps.l (r := AV.b false) rfl rfl rfl (LOp.assign rfl rfl) ?_
    refine ROps.nil ?_
    refine RunC.ret ?_
    have hq := Option.some.inj h
    subst q0
    exact bodyQ.pure (.inr rfl) rfl (Res.one rfl (RV.tmp rfl))
  · refine RunC.regionW ?_
    refine ROps.l (r := AV.ptr [AV.i64 a0, AV.i64 a1, AV.sl a2.length (a2.map AV.f32)]) rfl rfl rfl (LOp.fap und56 rfl siz2 rfl rfl rfl) ?_
    refine ROps.l (r := AV.i64 a0) rfl rfl rfl (LOp.load1 agg2 rfl rfl) ?_
    refine ROps.l (r := AV.ptr [AV.i64 a3, AV.i64 a4, AV.sl a5.length (a5.map AV.f32)]) rfl rfl rfl (LOp.fap und56 rfl siz2 rfl rfl rfl) ?_
    refine ROps.l (r := AV.i64 a3) rfl rfl rfl (LOp.load1 agg2 rfl rfl) ?_
    refine ROps.l (r := AV.b false) rfl rfl rfl (LOp.eqb (LOp.neq rfl rfl rfl) hc1) ?_
    refine ROps.nil ?_
    refine RunC.cond_false rfl rfl ?_
    refine RunC.skip ?_
    refine RunC.seq ?_
    refine RunC.seq ?_
    rcases bsel_some h with ⟨hc2, h⟩ | ⟨hc2, h⟩
    · refine RunC.regionW ?_
      refine ROps.l (r := AV.ptr [AV.i64 a1, AV.sl a2.length (a2.map AV.f32)]) rfl rfl rfl (LOp.fap und56 rfl siz2 rfl rfl rfl) ?_
      refine ROps.l (r := AV.i64 a1) rfl rfl rfl (LOp.load1 agg2 rfl rfl) ?_
      refine ROps.l (r := AV.ptr [AV.i64 a4, AV.sl a5.length (a5.map AV.f32)]) rfl rfl rfl (LOp.fap und56 rfl siz2 rfl rfl rfl) ?_
      refine ROps.l (r := AV.i64 a4) rfl rfl rfl (LOp.load1 agg2 rfl rfl) ?_
      refine ROps.l (r := AV.b true) rfl rfl rfl (LOp.eqb (LOp.neq rfl rfl rfl) hc2) ?_
      refine ROps.nil ?_
      refine RunC.cond_true rfl rfl ?_
      refine RunC.seq ?_
      refine RunC.regionW ?_
      refine ROps.l (r := AV.b false) rfl rfl rfl (LOp.assign rfl rfl) ?_
      refine ROps.nil ?_
      refine RunC.ret ?_
      have hq := Option.some.inj h
      subst q0
      exact bodyQ.pure (.inr rfl) rfl (Res.one rfl (RV.tmp rfl))
    · refine RunC.regionW ?_
      refine ROps.l (r := AV.ptr [AV.i64 a1, AV.sl a2.length (a2.map AV.f32)]) rfl rfl rfl (LOp.fap und56 rfl siz2 rfl rfl rfl) ?_
      refine ROps.l (r := AV.i64 a1) rfl rfl rfl (LOp.load1 agg2 rfl rfl) ?_
      refine ROps.l (r := AV.ptr [AV.i64 a4, AV.sl a5.length (a5.map AV.f32)]) rfl rfl rfl (LOp.fap und56 rfl siz2 rfl rfl rfl) ?_
      refine ROps.l (r := AV.i64 a4) rfl rfl rfl (LOp.load1 agg2 rfl rfl) ?_
      refine ROps.l (r := AV.b false) rfl rfl rfl (LOp.eqb (LOp.neq rfl rfl rfl) hc2) ?_
      refine ROps.nil ?_
      refine RunC.cond_false rfl rfl ?_
      refine RunC.skip ?_
      refine RunC.wl (τ' := [(2, AV.ptr [AV.i64 a0, AV.i64 a1, AV.sl a2.length (a2.map AV.f32)]), (3, AV.ptr [AV.i64 a3, AV.i64 a4, AV.sl a5.length (a5.map AV.f32)])]) (Γ' := []) ⟨(ALe.refl _), (ALe.refl _), trivial⟩ trivial ?_
      refine RunC.seq ?_
      refine RunC.seq ?_
      obtain ⟨r1, hf3, h⟩ := obind_some h
      rcases bsel_some h with ⟨hc4, h⟩ | ⟨hc4, h⟩
      · refine RunC.regionW ?_
        refine ROps.l (r := AV.ptr [AV.sl a2.length (a2.map AV.f32)]) rfl rfl rfl (LOp.fap und56 rfl siz43 rfl rfl rfl) ?_
        refine ROps.l (r := AV.sl a2.length (a2.map AV.f32)) rfl rfl rfl (LOp.load1 agg43 rfl rfl) ?_
        refine ROps.l (r := AV.ptr [AV.sl a5.length (a5.map AV.f32)]) rfl rfl rfl (LOp.fap und56 rfl siz43 rfl rfl rfl) ?_
        refine ROps.l (r := AV.sl a5.length (a5.map AV.f32)) rfl rfl rfl (LOp.load1 agg43 rfl rfl) ?_
        refine ROps.d (r := AV.b true) (fs := []) (Γ' := []) rfl rfl rfl (TOp.eqb (TOp.callB (CallAs.func ent61 rfl rfl) (Bors.cons (Bor.sl (fun _ => rfl)) (Bors.cons (Bor.sl (fun _ => rfl)) Bors.nil)) rfl rfl (w_eqFloat32S_ok a2 a5 r1 hf3)) hc4) rfl ?_
        refine ROps.l (r := AV.b false) rfl rfl rfl (LOp.eqb (LOp.not rfl rfl) rfl) ?_
        refine ROps.nil ?_
        refine RunC.cond_false rfl rfl ?_
        refine RunC.skip ?_
        refine RunC.seq ?_
        refine RunC.regionW ?_
        refine ROps.l (r := AV.b true) rfl rfl rfl (LOp.assign rfl rfl) ?_
        refine ROps.nil ?_
        refine RunC.ret ?_
        have hq := Option.some.inj h
        subst q0
        exact bodyQ.pure (.inr rfl) rfl (Res.one rfl (RV.tmp rfl))
      · refine RunC.regionW ?_
        refine ROps.l (r := AV.ptr [AV.sl a2.length (a2.map AV.f32)]) rfl rfl rfl (LOp.fap und56 rfl siz43 rfl rfl rfl) ?_
        refine ROps.l (r := AV.sl a2.length (a2.map AV.f32)) rfl rfl rfl (LOp.load1 agg43 rfl rfl) ?_
        refine ROps.l (r := AV.ptr [AV.sl a5.length (a5.map AV.f32)]) rfl rfl rfl (LOp.fap und56 rfl siz43 rfl rfl rfl) ?_
        refine ROps.l (r := AV.sl a5.length (a5.map AV.f32)) rfl rfl rfl (LOp.load1 agg43 rfl rfl) ?_
        refine ROps.d (r := AV.b false) (fs := []) (Γ' := []) rfl rfl rfl (TOp.eqb (TOp.callB (CallAs.func ent61 rfl rfl) (Bors.cons (Bor.sl (fun _ => rfl)) (Bors.cons (Bor.sl (fun _ => rfl)) Bors.nil)) rfl rfl (w_eqFloat32S_ok a2 a5 r1 hf3)) hc4) rfl ?_
        refine ROps.l (r := AV.b true) rfl rfl rfl (LOp.eqb (LOp.not rfl rfl) rfl) ?_
        refine ROps.nil ?_
        refine RunC.cond_true rfl rfl ?_
        refine RunC.seq ?_
        refine RunC.regionW ?_
        refine ROps.l (r := AV.b false) rfl rfl rfl (LOp.assign rfl rfl) ?_
        refine ROps.nil ?_
        refine RunC.ret ?_
        have hq := Option.some.inj h
        subst q0
        exact bodyQ.pure (.inr rfl) rfl (Res.one rfl (RV.tmp rfl))
noncomputable def w_FnExactMatrixText (a0 : Int) (a1 : Int) (a2 : List F) : Option (Bool) :=
  obind (w_szMatrix a0 a1 a2 1048576) fun (r1 : Int) =>
  bsel (decide (r1 < 0)) (
    some true) (
    obind3 (w_toMatrix a0 a1 a2) fun (r2 : Int) (r3 : Int) (r4 : List F) =>
    obind2 (s_MatrixText r2 r3 r4) fun (r5 : ByteArray) (r6 : Bool) =>
    obind3 (w_toMatrix a0 a1 a2) fun (r7 : Int) (r8 : Int) (r9 : List F) =>
    obind2 (i_MatrixText r7 r8 r9) fun (r10 : ByteArray) (r11 : Bool) =>
    bsel (!eqs r10 r5) (
      some false) (
      bsel (!(r11 == r6)) (
        some false) (
        obind3 (w_toMatrix a0 a1 a2) fun (r12 : Int) (r13 : Int) (r14 : List F) =>
        obind (w_eqMatrix r7 r8 r9 r12 r13 r14) fun (r15 : Bool) =>
        bsel r15 (
          some true) (
          some false))))
theorem w_FnExactMatrixText_ok (a0 : Int) (a1 : Int) (a2 : List F) (q0 : Bool) (h : w_FnExactMatrixText a0 a1 a2 = some q0) : Ev Tryd.prog 8 [AV.agg [AV.i64 a0, AV.i64 a1, AV.sl a2.length (a2.map AV.f32)]] [] (AV.b q0) [] := by
  refine Ev.start Tryd.func8 rfl rfl 2 (τ := [(0, AV.agg [AV.i64 a0, AV.i64 a1, AV.sl a2.length (a2.map AV.f32)])]) rfl (Γ' := [⟨0, none⟩, ⟨0, none⟩]) rfl (n := 81) rfl (g := 0) rfl (fun _ => rfl) ?_
  unfold w_FnExactMatrixText at h
  refine RunC.seq ?_
  refine RunC.regionW ?_
  refine ROps.d (r := AV.ptr [AV.i64 a0, AV.i64 a1, AV.sl a2.length (a2.map AV.f32)]) (fs := []) (Γ' := [⟨0, none⟩, ⟨0, none⟩]) rfl rfl rfl (TOp.box_s rfl rfl rfl) rfl ?_
  refine ROps.l (r := AV.b false) rfl rfl rfl (LOp.assign rfl rfl) ?_
  refine ROps.nil ?_
  refine RunC.seq ?_
  refine RunC.regionW ?_
  refine ROps.l (r := AV.i64 1048576) rfl rfl rfl (LOp.assign rfl rfl) ?_
  refine ROps.nil ?_
  refine RunC.seq ?_
  obtain ⟨r1, hf1, h⟩ := obind_some h
  refine RunC.regionW ?_
  refine ROps.l (r := AV.agg [AV.i64 a0, AV.i64 a1, AV.sl a2.length (a2.map AV.f32)]) rfl rfl rfl (LOp.loadAgg agg53 siz53 rfl rfl rfl rfl) ?_
  refine ROps.l (r := AV.i64 1048576) rfl rfl rfl (LOp.move rfl rfl) ?_
  refine ROps.d (r := AV.i64 r1) (fs := []) (Γ' := [⟨0, none⟩, ⟨0, none⟩]) rfl rfl rfl (TOp.callB (CallAs.func ent30 rfl rfl) (Bors.cons (Bor.agg (Bors.cons (Bor.pure rfl) (Bors.cons (Bor.pure rfl) (Bors.cons (Bor.sl (fun _ => rfl)) Bors.nil)))) (Bors.cons (Bor.pure rfl) Bors.nil)) rfl rfl (w_szMatrix_ok a0 a1 a2 1048576 r1 hf1)) rfl ?_
  refine ROps.l (r := AV.i64 r1) rfl rfl rfl (LOp.assign rfl rfl) ?_
  refine ROps.nil ?_
  refine RunC.seq ?_
  refine RunC.seq ?_
  rcases bsel_some h with ⟨hc2, h⟩ | ⟨hc2, h⟩
  · refine RunC.regionW ?_
    refine ROps.l (r := AV.i64 r1) rfl rfl rfl (LOp.move rfl rfl) ?_
    refine ROps.l (r := AV.b true) rfl rfl rfl (LOp.eqb (LOp.lss rfl rfl rfl) hc2) ?_
    refine ROps.nil ?_
    refine RunC.cond_true rfl rfl ?_
    refine RunC.seq ?_
    refine RunC.regionW ?_
    refine ROps.l (r := AV.b true) rfl rfl rfl (LOp.assign rfl rfl) ?_
    refine ROps.nil ?_
    refine RunC.ret ?_
    have hq := Option.some.inj h
    subst q0
    exact bodyQ.pure (.inr rfl) rfl (Res.one rfl (RV.tmp rfl))
  · refine RunC.regionW ?_
    refine ROps.l (r := AV.i64 r1) rfl rfl rfl (LOp.move rfl rfl) ?_
    refine ROps.l (r := AV.b false) rfl rfl rfl (LOp.eqb (LOp.lss rfl rfl rfl) hc2) ?_
    refine ROps.nil ?_
    refine RunC.cond_false rfl rfl ?_
    refine RunC.skip ?_
    refine RunC.seq ?_
    obtain ⟨r2, r3, r4, hf3, h⟩ := obind3_some h
    obtain ⟨r5, r6, hf4, h⟩ := obind2_some h
    refine RunC.regionW ?_
    refine ROps.l (r := AV.agg [AV.i64 a0, AV.i64 a1, AV.sl a2.length (a2.map AV.f32)]) rfl rfl rfl (LOp.loadAgg agg53 siz53 rfl rfl rfl rfl) ?_
    refine ROps.d (r := AV.agg [AV.i64 r2, AV.i64 r3, AV.oref 0 1 0 r4.length]) (fs := [(0, (r4.map AV.f32))]) (Γ' := [⟨1, some (r4.map AV.f32)⟩, ⟨0, none⟩]) rfl rfl rfl (TOp.callBN (ls := [(r4.map AV.f32)]) [0] (CallAs.func ent32 rfl rfl) (Bors.cons (Bor.agg (Bors.cons (Bor.pure rfl) (Bors.cons (Bor.pure rfl) (Bors.cons (Bor.sl (fun _ => rfl)) Bors.nil)))) Bors.nil) rfl (w_toMatrix_ok a0 a1 a2 r2 r3 r4 hf3) (and_all (lts0_map (f := AV.f32) (fun _ => rfl) _) rfl) (and_all (noss_map (f := AV.f32) (fun _ => rfl) _) rfl) rfl (by decide) (ns_of ⟨⟨_, rfl⟩, trivial⟩)) rfl ?_
    refine ROps.d (r := AV.tup [AV.str r5, AV.b r6]) (fs := []) (Γ' := [⟨1, some (r4.map AV.f32)⟩, ⟨0, none⟩]) rfl rfl rfl (TOp.callB (CallAs.func ent31 rfl rfl) (Bors.cons (Bor.agg (Bors.cons (Bor.pure rfl) (Bors.cons (Bor.pure rfl) (Bors.cons (Bor.own (f := AV.f32) (fun _ => rfl) rfl rfl) Bors.nil)))) Bors.nil) rfl rfl (s_MatrixText_ok r2 r3 r4 r5 r6 hf4)) rfl ?_
    refine ROps.l (r := AV.tup [AV.str r5, AV.b r6]) rfl rfl rfl (LOp.move rfl rfl) ?_
    refine ROps.l (r := AV.str r5) rfl rfl rfl (LOp.extract rfl rfl rfl) ?_
    refine ROps.l (r := AV.b r6) rfl rfl rfl (LOp.extract rfl rfl rfl) ?_
    refine ROps.l (r := AV.str r5) rfl rfl rfl (LOp.assign rfl rfl) ?_
    refine ROps.l (r := AV.b r6) rfl rfl rfl (LOp.assign rfl rfl) ?_
    refine ROps.nil ?_
    refine RunC.wl (τ' := [(1, AV.ptr [AV.i64 a0, AV.i64 a1, AV.sl a2.length (a2.map AV.f32)]), (4, AV.str r5), (5, AV.b r6)]) (Γ' := [⟨1, none⟩, ⟨0, none⟩]) ⟨(ALe.refl _), (ALe.refl _), (ALe.refl _), trivial⟩ ⟨⟨rfl, .inl rfl⟩, ⟨rfl, .inr rfl⟩, trivial⟩ ?_
    refine RunC.seq ?_
    obtain ⟨r7, r8, r9, hf5, h⟩ := obind3_some h
    refine RunC.regionW ?_
    refine ROps.l (r := AV.agg [AV.i64 a0, AV.i64 a1, AV.sl a2.length (a2.map AV.f32)]) rfl rfl rfl (LOp.loadAgg agg53 siz53 rfl rfl rfl rfl) ?_
    refine ROps.d (r := AV.agg [AV.i64 r7, AV.i64 r8, AV.oref 0 2 0 r9.length]) (fs := [(0, (r9.map AV.f32))]) (Γ' := [⟨2, some (r9.map AV.f32)⟩, ⟨0, none⟩]) rfl rfl rfl (TOp.callBN (ls := [(r9.map AV.f32)]) [0] (CallAs.func ent32 rfl rfl) (Bors.cons (Bor.agg (Bors.cons (Bor.pure rfl) (Bors.cons (Bor.pure rfl) (Bors.cons (Bor.sl (fun _ => rfl)) Bors.nil)))) Bors.nil) rfl (w_toMatrix_ok a0 a1 a2 r7 r8 r9 hf5) (and_all (lts0_map (f := AV.f32) (fun _ => rfl) _) rfl) (and_all (noss_map (f := AV.f32) (fun _ => rfl) _) rfl) rfl (by decide) (ns_of ⟨⟨_, rfl⟩, trivial⟩)) rfl ?_
    refine ROps.d (r := AV.optr 1 1 0) (fs := [(1, [AV.i64 0, AV.i64 0, AV.nilsl])]) (Γ' := [⟨2, some (r9.map AV.f32)⟩, ⟨1, some [AV.i64 0, AV.i64 0, AV.nilsl]⟩]) rfl rfl rfl (TOp.alloc_o (g := ⟨0, none⟩) 1 rfl zer56 zok56 rfl) rfl ?_
    refine ROps.store_le (r := AV.agg [AV.i64 r7, AV.i64 r8, AV.oref 0 2 0 r9.length]) (l' := [AV.i64 r7, AV.i64 r8, AV.oref 0 2 0 r9.length]) (Γ' := [⟨2, some (r9.map AV.f32)⟩, ⟨1, some [AV.i64 r7, AV.i64 r8, AV.oref 0 2 0 r9.length]⟩]) rfl siz56 rfl rfl rfl (ALe.refl _) rfl rfl rfl rfl (Nat.le_of_ble_eq_true rfl) rfl rfl ?_
    refine ROps.nil ?_
    refine RunC.seq ?_
    obtain ⟨r10, r11, hf6, h⟩ := obind2_some h
    refine RunC.regionW ?_
    refine ROps.d (r := AV.agg [AV.i64 r7, AV.i64 r8, AV.oref 0 2 0 r9.length]) (fs := []) (Γ' := [⟨2, some (r9.map AV.f32)⟩, ⟨1, some [AV.i64 r7, AV.i64 r8, AV.oref 0 2 0 r9.length]⟩]) rfl rfl rfl (TOp.loadAgg_o rfl agg56 siz56 rfl rfl rfl rfl) rfl ?_
    refine ROps.d (r := AV.tup [AV.str r10, AV.b r11]) (fs := []) (Γ' := [⟨2, some (r9.map AV.f32)⟩, ⟨1, some [AV.i64 r7, AV.i64 r8, AV.oref 0 2 0 r9.length]⟩]) rfl rfl rfl (TOp.callB (CallAs.func ent33 rfl rfl) (Bors.cons (Bor.agg (Bors.cons (Bor.pure rfl) (Bors.cons (Bor.pure rfl) (Bors.cons (Bor.own (f := AV.f32) (fun _ => rfl) rfl rfl) Bors.nil)))) Bors.nil) rfl rfl (i_MatrixText_ok r7 r8 r9 r10 r11 hf6)) rfl ?_
    refine ROps.l (r := AV.tup [AV.str r10, AV.b r11]) rfl rfl rfl (LOp.move rfl rfl) ?_
    refine ROps.l (r := AV.str r10) rfl rfl rfl (LOp.extract rfl rfl rfl) ?_
    refine ROps.l (r := AV.b r11) rfl rfl rfl (LOp.extract rfl rfl rfl) ?_
    refine ROps.l (r := AV.str r10) rfl rfl rfl (LOp.assign rfl rfl) ?_
    refine ROps.l (r := AV.b r11) rfl rfl rfl (LOp.assign rfl rfl) ?_
    refine ROps.nil ?_
    refine RunC.seq ?_
    refine RunC.seq ?_
    rcases bsel_some h with ⟨hc7, h⟩ | ⟨hc7, h⟩
    · refine RunC.regionW ?_
      refine ROps.l (r := AV.str r10) rfl rfl rfl (LOp.move rfl rfl) ?_
      refine ROps.l (r := AV.str r5) rfl rfl rfl (LOp.move rfl rfl) ?_
      refine ROps.l (r := AV.b true) rfl rfl rfl (LOp.eqb (LOp.neqs rfl rfl rfl) hc7) ?_
      refine ROps.l (r := AV.b true) rfl rfl rfl (LOp.move rfl rfl) ?_
      refine ROps.s rfl rfl rfl ?_
      refine ROps.s rfl rfl rfl ?_
      refine ROps.s rfl rfl rfl ?_
      refine ROps.l (r := AV.b true) rfl rfl rfl (LOp.pick_true rfl rfl rfl) ?_
      refine ROps.nil ?_
      refine RunC.wl (τ' := [(1, AV.ptr [AV.i64 a0, AV.i64 a1, AV.sl a2.length (a2.map AV.f32)]), (6, AV.optr 1 1 0), (34, AV.b true)]) (Γ' := [⟨2, some (r9.map AV.f32)⟩, ⟨1, some [AV.i64 r7, AV.i64 r8, AV.oref 0 2 0 r9.length]⟩]) ⟨(ALe.refl _), (ALe.refl _), (ALe.refl _), trivial⟩ ⟨⟨rfl, .inr rfl⟩, ⟨rfl, .inr rfl⟩, trivial⟩ ?_
      refine RunC.cond_true rfl rfl ?_
      refine RunC.seq ?_
      refine RunC.regionW ?_
      refine ROps.l (r := AV.b false) rfl rfl rfl (LOp.assign rfl rfl) ?_
      refine ROps.nil ?_
      refine RunC.ret ?_
      have hq := Option.some.inj h
      subst q0
      exact bodyQ.pure (.inr rfl) rfl (Res.one rfl (RV.tmp rfl))
    · rcases bsel_some h with ⟨hc8, h⟩ | ⟨hc8, h⟩
      · refine RunC.regionW ?_
        refine ROps.l (r := AV.str r10) rfl rfl rfl (LOp.move rfl rfl) ?_
        refine ROps.l (r := AV.str r5) rfl rfl rfl (LOp.move rfl rfl) ?_
        refine ROps.l (r := AV.b false) rfl rfl rfl (LOp.eqb (LOp.neqs rfl rfl rfl) hc7) ?_
        refine ROps.l (r := AV.b false) rfl rfl rfl (LOp.move rfl rfl) ?_
        refine ROps.l (r := AV.b r11) rfl rfl rfl (LOp.move rfl rfl) ?_
        refine ROps.l (r := AV.b r6) rfl rfl rfl (LOp.move rfl rfl) ?_
        refine ROps.l (r := AV.b true) rfl rfl rfl (LOp.eqb (LOp.neqb pun4 rfl rfl rfl) hc8) ?_
        refine ROps.l (r := AV.b true) rfl rfl rfl (LOp.pick_false rfl rfl rfl) ?_
        refine ROps.nil ?_
        refine RunC.wl (τ' := [(1, AV.ptr [AV.i64 a0, AV.i64 a1, AV.sl a2.length (a2.map AV.f32)]), (6, AV.optr 1 1 0), (34, AV.b true)]) (Γ' := [⟨2, some (r9.map AV.f32)⟩, ⟨1, some [AV.i64 r7, AV.i64 r8, AV.oref 0 2 0 r9.length]⟩]) ⟨(ALe.refl _), (ALe.refl _), (ALe.refl _), trivial⟩ ⟨⟨rfl, .inr rfl⟩, ⟨rfl, .inr rfl⟩, trivial⟩ ?_
        refine RunC.cond_true rfl rfl ?_
        refine RunC.seq ?_
        refine RunC.regionW ?_
        refine ROps.l (r := AV.b false) rfl rfl rfl (LOp.assign rfl rfl) ?_
        refine ROps.nil ?_
        refine RunC.ret ?_
        have hq := Option.some.inj h
        subst q0
        exact bodyQ.pure (.inr rfl) rfl (Res.one rfl (RV.tmp rfl))
      · refine RunC.regionW ?_
        refine ROps.l (r := AV.str r10) rfl rfl rfl (LOp.move rfl rfl) ?_
        refine ROps.l (r := AV.str r5) rfl rfl rfl (LOp.move rfl rfl) ?_
        refine ROps.l (r := AV.b false) rfl rfl rfl (LOp.eqb (LOp.neqs rfl rfl rfl) hc7) ?_
        refine ROps.l (r := AV.b false) rfl rfl rfl (LOp.move rfl rfl) ?_
        refine ROps.l (r := AV.b r11) rfl rfl rfl (LOp.move rfl rfl) ?_
        refine ROps.l (r := AV.b r6) rfl rfl rfl (LOp.move rfl rfl) ?_
        refine ROps.l (r := AV.b false) rfl rfl rfl (LOp.eqb (LOp.neqb pun4 rfl rfl rfl) hc8) ?_
        refine ROps.l (r := AV.b false) rfl rfl rfl (LOp.pick_false rfl rfl rfl) ?_
        refine ROps.nil ?_
        refine RunC.wl (τ' := [(1, AV.ptr [AV.i64 a0, AV.i64 a1, AV.sl a2.length (a2.map AV.f32)]), (6, AV.optr 1 1 0), (34, AV.b false)]) (Γ' := [⟨2, some (r9.map AV.f32)⟩, ⟨1, some [AV.i64 r7, AV.i64 r8, AV.oref 0 2 0 r9.length]⟩]) ⟨(ALe.refl _), (ALe.refl _), (ALe.refl _), trivial⟩ ⟨⟨rfl, .inr rfl⟩, ⟨rfl, .inr rfl⟩, trivial⟩ ?_
        refine RunC.cond_false rfl rfl ?_
        refine RunC.skip ?_
        refine RunC.seq ?_
        refine RunC.seq ?_
        obtain ⟨r12, r13, r14, hf9, h⟩ := obind3_some h
        obtain ⟨r15, hf10, h⟩ := obind_some h
        rcases bsel_some h with ⟨hc11, h⟩ | ⟨hc11, h⟩
        · refine RunC.region_draw (Γ' := [⟨2, some (r9.map AV.f32)⟩, ⟨1, some [AV.i64 r7, AV.i64 r8, AV.oref 0 2 0 r9.length]⟩]) 5 mixed 
            (TR.d (r := AV.agg [AV.i64 r7, AV.i64 r8, AV.oref 0 2 0 r9.length]) (fs := []) rfl rfl (TOp.loadAgg_o rfl agg56 siz56 rfl rfl rfl rfl) <|
            (TR.l (r := AV.agg [AV.i64 a0, AV.i64 a1, AV.sl a2.length (a2.map AV.f32)]) rfl rfl (LOp.loadAgg agg53 siz53 rfl rfl rfl rfl) <|
            (TR.d (r := AV.agg [AV.i64 r12, AV.i64 r13, AV.sl r14.length (r14.map AV.f32)]) (fs := []) rfl rfl (TOp.callS (CallAs.func ent32 rfl rfl) (ALes.cons (ALe.refl _) ALes.nil) (lts_cons (lt_agg (lts_cons rfl (lts_cons rfl (lts_cons (lt_sl (fun _ => rfl)) lts_nil)))) lts_nil) (lt_agg (lts_cons rfl (lts_cons rfl (lts_cons (lt_sl (fun _ => rfl)) lts_nil)))) (w_toMatrix_ok a0 a1 a2 r12 r13 r14 hf9) (Bor.agg (Bors.cons (Bor.pure rfl) (Bors.cons (Bor.pure rfl) (Bors.cons (Bor.own (f := AV.f32) (fun _ => rfl) rfl rfl) Bors.nil))))) <|
            (TR.d (r := AV.b true) (fs := []) rfl rfl (TOp.eqb (TOp.callB (CallAs.func ent34 rfl rfl) (Bors.cons (Bor.agg (Bors.cons (Bor.pure rfl) (Bors.cons (Bor.pure rfl) (Bors.cons (Bor.own (f := AV.f32) (fun _ => rfl) rfl rfl) Bors.nil)))) (Bors.cons (Bor.agg (Bors.cons (Bor.pure rfl) (Bors.cons (Bor.pure rfl) (Bors.cons (Bor.sl (fun _ => rfl)) Bors.nil)))) Bors.nil)) rfl rfl (w_eqMatrix_ok r7 r8 r9 r12 r13 r14 r15 hf10)) hc11) <|
            (TR.l (r := AV.b false) rfl rfl (LOp.eqb (LOp.not rfl rfl) rfl) <|
            TR.nil))))) rfl (by kernel_rfl) rfl fills_nil rfl ?_
          iterate 5 refine ROps.dropS ?_
          refine ROps.drop0 ?_
          refine ROps.nil ?_
          refine RunC.wl (τ' := [(39, AV.b false)]) (Γ' := [⟨2, none⟩, ⟨1, none⟩]) ⟨(ALe.refl _), trivial⟩ ⟨⟨rfl, .inl rfl⟩, ⟨rfl, .inl rfl⟩, trivial⟩ ?_
          refine RunC.cond_false rfl rfl ?_
          refine RunC.skip ?_
          refine RunC.seq ?_
          refine RunC.regionW ?_
          refine ROps.l (r := AV.b true) rfl rfl rfl (LOp.assign rfl rfl) ?_
          refine ROps.nil ?_
          refine RunC.ret ?_
          have hq := Option.some.inj h
          subst q0
          exact bodyQ.pure (.inr rfl) rfl (Res.one rfl (RV.tmp rfl))
        · refine RunC.region_draw (Γ' := [⟨2, some (r9.map AV.f32)⟩, ⟨1, some [AV.i64 r7, AV.i64 r8, AV.oref 0 2 0 r9.length]⟩]) 5 mixed 
            (TR.d (r := AV.agg [AV.i64 r7, AV.i64 r8, AV.oref 0 2 0 r9.length]) (fs := []) rfl rfl (TOp.loadAgg_o rfl agg56 siz56 rfl rfl rfl rfl) <|
            (TR.l (r := AV.agg [AV.i64 a0, AV.i64 a1, AV.sl a2.length (a2.map AV.f32)]) rfl rfl (LOp.loadAgg agg53 siz53 rfl rfl rfl rfl) <|
            (TR.d (r := AV.agg [AV.i64 r12, AV.i64 r13, AV.sl r14.length (r14.map AV.f32)]) (fs := []) rfl rfl (TOp.callS (CallAs.func ent32 rfl rfl) (ALes.cons (ALe.refl _) ALes.nil) (lts_cons (lt_agg (lts_cons rfl (lts_cons rfl (lts_cons (lt_sl (fun _ => rfl)) lts_nil)))) lts_nil) (lt_agg (lts_cons rfl (lts_cons rfl (lts_cons (lt_sl (fun _ => rfl)) lts_nil)))) (w_toMatrix_ok a0 a1 a2 r12 r13 r14 hf9) (Bor.agg (Bors.cons (Bor.pure rfl) (Bors.cons (Bor.pure rfl) (Bors.cons (Bor.own (f := AV.f32) (fun _ => rfl) rfl rfl) Bors.nil))))) <|
            (TR.d (r := AV.b false) (fs := []) rfl rfl (TOp.eqb (TOp.callB (CallAs.func ent34 rfl rfl) (Bors.cons (Bor.agg (Bors.cons (Bor.pure rfl) (Bors.cons (Bor.pure rfl) (Bors.cons (Bor.own (f := AV.f32) (fun _ => rfl) rfl rfl) Bors.nil)))) (Bors.cons (Bor.agg (Bors.cons (Bor.pure rfl) (Bors.cons (Bor.pure rfl) (Bors.cons (Bor.sl (fun _ => rfl)) Bors.nil)))) Bors.nil)) rfl rfl (w_eqMatrix_ok r7 r8 r9 r12 r13 r14 r15 hf10)) hc11) <|
            (TR.l (r := AV.b true) rfl rfl (LOp.eqb (LOp.not rfl rfl) rfl) <|
            TR.nil))))) rfl (by kernel_rfl) rfl fills_nil rfl ?_
          iterate 5 refine ROps.dropS ?_
          refine ROps.drop0 ?_
          refine ROps.nil ?_
          refine RunC.wl (τ' := [(39, AV.b true)]) (Γ' := [⟨2, none⟩, ⟨1, none⟩]) ⟨(ALe.refl _), trivial⟩ ⟨⟨rfl, .inl rfl⟩, ⟨rfl, .inl rfl⟩, trivial⟩ ?_
          refine RunC.cond_true rfl rfl ?_
          refine RunC.seq ?_
          refine RunC.regionW ?_
          refine ROps.l (r := AV.b false) rfl rfl rfl (LOp.assign rfl rfl) ?_
          refine ROps.nil ?_
          refine RunC.ret ?_
          have hq := Option.some.inj h
          subst q0
          exact bodyQ.pure (.inr rfl) rfl (Res.one rfl (RV.tmp rfl))
end Go.Proofs.YtddegdokdpeboaaDoor
