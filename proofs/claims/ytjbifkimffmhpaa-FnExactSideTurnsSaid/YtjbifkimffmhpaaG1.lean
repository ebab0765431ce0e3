/- Generated. -/
import Derived.Test.YtjbifkimffmhpaaG0
namespace Go.Proofs.Ytjbifkimffmhpaa
open Go Go.AM
set_option maxRecDepth 20000
set_option maxHeartbeats 4000000
set_option linter.unusedVariables false
set_option linter.unusedSimpArgs false
noncomputable def i_ValidMatrix (a0 : Int) (a1 : Int) (a2 : List F) : Option (Bool) :=
  obind (i_isSide a0) fun (r1 : Bool) =>
  bsel r1 (
    obind (i_isSide a1) fun (r2 : Bool) =>
    bsel r2 (
      obind (i_length_float32 a2) fun (r3 : Int) =>
      olet (IntKind.i64.wrap (a0 * a1)) fun (x4 : Int) =>
      bsel (decide (r3 = x4)) (
        obind (i_areFinite a2) fun (r5 : Bool) =>
        some r5) (
        some false)) (
      some false)) (
    some false)
theorem i_ValidMatrix_ok (a0 : Int) (a1 : Int) (a2 : List F) (q0 : Bool) (h : i_ValidMatrix a0 a1 a2 = some q0) : Ev Try.prog 45 [AV.agg [AV.i64 a0, AV.i64 a1, AV.sl a2.length (a2.map AV.f32)]] [] (AV.b q0) [] := by
  refine Ev.start Try.func45 rfl rfl 0 (τ := [(0, AV.agg [AV.i64 a0, AV.i64 a1, AV.sl a2.length (a2.map AV.f32)])]) rfl (Γ' := []) rfl (n := 27) rfl (g := 0) rfl ?_
  unfold i_ValidMatrix at h
  refine RunC.seq ?_
  refine RunC.regionW ?_
  refine ROps.d (r := AV.ptr [AV.i64 a0, AV.i64 a1, AV.sl a2.length (a2.map AV.f32)]) (fs := []) (Γ' := []) rfl rfl rfl (TOp.box_s rfl rfl rfl) rfl ?_
  refine ROps.l (r := AV.b false) rfl rfl rfl (LOp.assign rfl rfl) ?_
  refine ROps.nil ?_
  refine RunC.seq ?_
  obtain ⟨r1, hf1, h⟩ := obind_some h
  rcases bsel_some h with ⟨hc2, h⟩ | ⟨hc2, h⟩
  · obtain ⟨r2, hf3, h⟩ := obind_some h
    rcases bsel_some h with ⟨hc4, h⟩ | ⟨hc4, h⟩
    · obtain ⟨r3, hf5, h⟩ := obind_some h
      obtain ⟨x4, hx6, h⟩ := olet_some h
      rcases bsel_some h with ⟨hc7, h⟩ | ⟨hc7, h⟩
      · obtain ⟨r5, hf8, h⟩ := obind_some h
        refine RunC.region_draw (Γ' := []) 25 mixed 
          (TR.l (r := AV.ptr [AV.i64 a0, AV.i64 a1, AV.sl a2.length (a2.map AV.f32)]) rfl rfl (LOp.fap und27 rfl siz2 rfl rfl rfl) <|
          (TR.l (r := AV.i64 a0) rfl rfl (LOp.load1 agg2 rfl rfl) <|
          (TR.d (r := AV.b true) (fs := []) rfl rfl (TOp.eqb (TOp.callB (CallAs.func ent47 rfl rfl) (Bors.cons (Bor.pure rfl) Bors.nil) rfl rfl (i_isSide_ok a0 r1 hf1)) hc2) <|
          (TR.l (r := AV.b true) rfl rfl (LOp.move rfl rfl) <|
          (TR.l (r := AV.ptr [AV.i64 a1, AV.sl a2.length (a2.map AV.f32)]) rfl rfl (LOp.fap und27 rfl siz2 rfl rfl rfl) <|
          (TR.l (r := AV.i64 a1) rfl rfl (LOp.load1 agg2 rfl rfl) <|
          (TR.d (r := AV.b true) (fs := []) rfl rfl (TOp.eqb (TOp.callB (CallAs.func ent47 rfl rfl) (Bors.cons (Bor.pure rfl) Bors.nil) rfl rfl (i_isSide_ok a1 r2 hf3)) hc4) <|
          (TR.l (r := AV.b true) rfl rfl (LOp.pick_true rfl rfl rfl) <|
          (TR.l (r := AV.b true) rfl rfl (LOp.move rfl rfl) <|
          (TR.l (r := AV.ptr [AV.sl a2.length (a2.map AV.f32)]) rfl rfl (LOp.fap und27 rfl siz22 rfl rfl rfl) <|
          (TR.l (r := AV.sl a2.length (a2.map AV.f32)) rfl rfl (LOp.load1 agg22 rfl rfl) <|
          (TR.d (r := AV.i64 r3) (fs := []) rfl rfl (TOp.callB (CallAs.func ent89 rfl rfl) (Bors.cons (Bor.sl (fun _ => rfl)) Bors.nil) rfl rfl (i_length_float32_ok a2 r3 hf5)) <|
          (TR.l (r := AV.ptr [AV.i64 a0, AV.i64 a1, AV.sl a2.length (a2.map AV.f32)]) rfl rfl (LOp.fap und27 rfl siz2 rfl rfl rfl) <|
          (TR.l (r := AV.i64 a0) rfl rfl (LOp.load1 agg2 rfl rfl) <|
          (TR.l (r := AV.ptr [AV.i64 a1, AV.sl a2.length (a2.map AV.f32)]) rfl rfl (LOp.fap und27 rfl siz2 rfl rfl rfl) <|
          (TR.l (r := AV.i64 a1) rfl rfl (LOp.load1 agg2 rfl rfl) <|
          (TR.l (r := AV.i64 x4) rfl rfl (LOp.eqr (LOp.mul rfl rfl rfl) (congrArg (AV.ik .i64) hx6)) <|
          (TR.l (r := AV.b true) rfl rfl (LOp.eqb (LOp.eql rfl rfl rfl) hc7) <|
          (TR.l (r := AV.b true) rfl rfl (LOp.pick_true rfl rfl rfl) <|
          (TR.l (r := AV.b true) rfl rfl (LOp.move rfl rfl) <|
          (TR.l (r := AV.ptr [AV.sl a2.length (a2.map AV.f32)]) rfl rfl (LOp.fap und27 rfl siz22 rfl rfl rfl) <|
          (TR.l (r := AV.sl a2.length (a2.map AV.f32)) rfl rfl (LOp.load1 agg22 rfl rfl) <|
          (TR.d (r := AV.b r5) (fs := []) rfl rfl (TOp.callB (CallAs.func ent84 rfl rfl) (Bors.cons (Bor.sl (fun _ => rfl)) Bors.nil) rfl rfl (i_areFinite_ok a2 r5 hf8)) <|
          (TR.l (r := AV.b r5) rfl rfl (LOp.pick_true rfl rfl rfl) <|
          (TR.l (r := AV.b r5) rfl rfl (LOp.assign rfl rfl) <|
          TR.nil))))))))))))))))))))))))) rfl (by kernel_rfl) rfl fills_nil rfl ?_
        iterate 25 refine ROps.dropS ?_
        refine ROps.drop0 ?_
        refine ROps.nil ?_
        refine RunC.ret ?_
        have hq := Option.some.inj h
        subst q0
        exact bodyQ.pure (.inr rfl) rfl (Res.one rfl (RV.tmp rfl))
      · refine RunC.region_draw (Γ' := []) 25 mixed 
          (TR.l (r := AV.ptr [AV.i64 a0, AV.i64 a1, AV.sl a2.length (a2.map AV.f32)]) rfl rfl (LOp.fap und27 rfl siz2 rfl rfl rfl) <|
          (TR.l (r := AV.i64 a0) rfl rfl (LOp.load1 agg2 rfl rfl) <|
          (TR.d (r := AV.b true) (fs := []) rfl rfl (TOp.eqb (TOp.callB (CallAs.func ent47 rfl rfl) (Bors.cons (Bor.pure rfl) Bors.nil) rfl rfl (i_isSide_ok a0 r1 hf1)) hc2) <|
          (TR.l (r := AV.b true) rfl rfl (LOp.move rfl rfl) <|
          (TR.l (r := AV.ptr [AV.i64 a1, AV.sl a2.length (a2.map AV.f32)]) rfl rfl (LOp.fap und27 rfl siz2 rfl rfl rfl) <|
          (TR.l (r := AV.i64 a1) rfl rfl (LOp.load1 agg2 rfl rfl) <|
          (TR.d (r := AV.b true) (fs := []) rfl rfl (TOp.eqb (TOp.callB (CallAs.func ent47 rfl rfl) (Bors.cons (Bor.pure rfl) Bors.nil) rfl rfl (i_isSide_ok a1 r2 hf3)) hc4) <|
          (TR.l (r := AV.b true) rfl rfl (LOp.pick_true rfl rfl rfl) <|
          (TR.l (r := AV.b true) rfl rfl (LOp.move rfl rfl) <|
          (TR.l (r := AV.ptr [AV.sl a2.length (a2.map AV.f32)]) rfl rfl (LOp.fap und27 rfl siz22 rfl rfl rfl) <|
          (TR.l (r := AV.sl a2.length (a2.map AV.f32)) rfl rfl (LOp.load1 agg22 rfl rfl) <|
          (TR.d (r := AV.i64 r3) (fs := []) rfl rfl (TOp.callB (CallAs.func ent89 rfl rfl) (Bors.cons (Bor.sl (fun _ => rfl)) Bors.nil) rfl rfl (i_length_float32_ok a2 r3 hf5)) <|
          (TR.l (r := AV.ptr [AV.i64 a0, AV.i64 a1, AV.sl a2.length (a2.map AV.f32)]) rfl rfl (LOp.fap und27 rfl siz2 rfl rfl rfl) <|
          (TR.l (r := AV.i64 a0) rfl rfl (LOp.load1 agg2 rfl rfl) <|
          (TR.l (r := AV.ptr [AV.i64 a1, AV.sl a2.length (a2.map AV.f32)]) rfl rfl (LOp.fap und27 rfl siz2 rfl rfl rfl) <|
          (TR.l (r := AV.i64 a1) rfl rfl (LOp.load1 agg2 rfl rfl) <|
          (TR.l (r := AV.i64 x4) rfl rfl (LOp.eqr (LOp.mul rfl rfl rfl) (congrArg (AV.ik .i64) hx6)) <|
          (TR.l (r := AV.b false) rfl rfl (LOp.eqb (LOp.eql rfl rfl rfl) hc7) <|
          (TR.l (r := AV.b false) rfl rfl (LOp.pick_true rfl rfl rfl) <|
          (TR.l (r := AV.b false) rfl rfl (LOp.move rfl rfl) <|
          (TR.s rfl rfl <|
          (TR.s rfl rfl <|
          (TR.s rfl rfl <|
          (TR.l (r := AV.b false) rfl rfl (LOp.pick_false rfl rfl rfl) <|
          (TR.l (r := AV.b false) rfl rfl (LOp.assign rfl rfl) <|
          TR.nil))))))))))))))))))))))))) rfl (by kernel_rfl) rfl fills_nil rfl ?_
        iterate 25 refine ROps.dropS ?_
        refine ROps.drop0 ?_
        refine ROps.nil ?_
        refine RunC.ret ?_
        have hq := Option.some.inj h
        subst q0
        exact bodyQ.pure (.inr rfl) rfl (Res.one rfl (RV.tmp rfl))
    · refine RunC.region_draw (Γ' := []) 25 mixed 
        (TR.l (r := AV.ptr [AV.i64 a0, AV.i64 a1, AV.sl a2.length (a2.map AV.f32)]) rfl rfl (LOp.fap und27 rfl siz2 rfl rfl rfl) <|
        (TR.l (r := AV.i64 a0) rfl rfl (LOp.load1 agg2 rfl rfl) <|
        (TR.d (r := AV.b true) (fs := []) rfl rfl (TOp.eqb (TOp.callB (CallAs.func ent47 rfl rfl) (Bors.cons (Bor.pure rfl) Bors.nil) rfl rfl (i_isSide_ok a0 r1 hf1)) hc2) <|
        (TR.l (r := AV.b true) rfl rfl (LOp.move rfl rfl) <|
        (TR.l (r := AV.ptr [AV.i64 a1, AV.sl a2.length (a2.map AV.f32)]) rfl rfl (LOp.fap und27 rfl siz2 rfl rfl rfl) <|
        (TR.l (r := AV.i64 a1) rfl rfl (LOp.load1 agg2 rfl rfl) <|
        (TR.d (r := AV.b false) (fs := []) rfl rfl (TOp.eqb (TOp.callB (CallAs.func ent47 rfl rfl) (Bors.cons (Bor.pure rfl) Bors.nil) rfl rfl (i_isSide_ok a1 r2 hf3)) hc4) <|
        (TR.l (r := AV.b false) rfl rfl (LOp.pick_true rfl rfl rfl) <|
        (TR.l (r := AV.b false) rfl rfl (LOp.move rfl rfl) <|
        (TR.s rfl rfl <|
        (TR.s rfl rfl <|
        (TR.s rfl rfl <|
        (TR.s rfl rfl <|
        (TR.s rfl rfl <|
        (TR.s rfl rfl <|
        (TR.s rfl rfl <|
        (TR.s rfl rfl <|
        (TR.s rfl rfl <|
        (TR.l (r := AV.b false) rfl rfl (LOp.pick_false rfl rfl rfl) <|
        (TR.l (r := AV.b false) rfl rfl (LOp.move rfl rfl) <|
        (TR.s rfl rfl <|
        (TR.s rfl rfl <|
        (TR.s rfl rfl <|
        (TR.l (r := AV.b false) rfl rfl (LOp.pick_false rfl rfl rfl) <|
        (TR.l (r := AV.b false) rfl rfl (LOp.assign rfl rfl) <|
        TR.nil))))))))))))))))))))))))) rfl (by kernel_rfl) rfl fills_nil rfl ?_
      iterate 25 refine ROps.dropS ?_
      refine ROps.drop0 ?_
      refine ROps.nil ?_
      refine RunC.ret ?_
      have hq := Option.some.inj h
      subst q0
      exact bodyQ.pure (.inr rfl) rfl (Res.one rfl (RV.tmp rfl))
  · refine RunC.region_draw (Γ' := []) 25 mixed 
      (TR.l (r := AV.ptr [AV.i64 a0, AV.i64 a1, AV.sl a2.length (a2.map AV.f32)]) rfl rfl (LOp.fap und27 rfl siz2 rfl rfl rfl) <|
      (TR.l (r := AV.i64 a0) rfl rfl (LOp.load1 agg2 rfl rfl) <|
      (TR.d (r := AV.b false) (fs := []) rfl rfl (TOp.eqb (TOp.callB (CallAs.func ent47 rfl rfl) (Bors.cons (Bor.pure rfl) Bors.nil) rfl rfl (i_isSide_ok a0 r1 hf1)) hc2) <|
      (TR.l (r := AV.b false) rfl rfl (LOp.move rfl rfl) <|
      (TR.s rfl rfl <|
      (TR.s rfl rfl <|
      (TR.s rfl rfl <|
      (TR.l (r := AV.b false) rfl rfl (LOp.pick_false rfl rfl rfl) <|
      (TR.l (r := AV.b false) rfl rfl (LOp.move rfl rfl) <|
      (TR.s rfl rfl <|
      (TR.s rfl rfl <|
      (TR.s rfl rfl <|
      (TR.s rfl rfl <|
      (TR.s rfl rfl <|
      (TR.s rfl rfl <|
      (TR.s rfl rfl <|
      (TR.s rfl rfl <|
      (TR.s rfl rfl <|
      (TR.l (r := AV.b false) rfl rfl (LOp.pick_false rfl rfl rfl) <|
      (TR.l (r := AV.b false) rfl rfl (LOp.move rfl rfl) <|
      (TR.s rfl rfl <|
      (TR.s rfl rfl <|
      (TR.s rfl rfl <|
      (TR.l (r := AV.b false) rfl rfl (LOp.pick_false rfl rfl rfl) <|
      (TR.l (r := AV.b false) rfl rfl (LOp.assign rfl rfl) <|
      TR.nil))))))))))))))))))))))))) rfl (by kernel_rfl) rfl fills_nil rfl ?_
    iterate 25 refine ROps.dropS ?_
    refine ROps.drop0 ?_
    refine ROps.nil ?_
    refine RunC.ret ?_
    have hq := Option.some.inj h
    subst q0
    exact bodyQ.pure (.inr rfl) rfl (Res.one rfl (RV.tmp rfl))
noncomputable def i_isTall (a0 : Int) (a1 : Int) (a2 : List F) : Option (Bool) :=
  obind (i_ValidMatrix a0 a1 a2) fun (r1 : Bool) =>
  bsel r1 (
    some (decide (a1 ≤ a0))) (
    some false)
theorem i_isTall_ok (a0 : Int) (a1 : Int) (a2 : List F) (q0 : Bool) (h : i_isTall a0 a1 a2 = some q0) : Ev Try.prog 80 [AV.agg [AV.i64 a0, AV.i64 a1, AV.sl a2.length (a2.map AV.f32)]] [] (AV.b q0) [] := by
  refine Ev.start Try.func80 rfl rfl 0 (τ := [(0, AV.agg [AV.i64 a0, AV.i64 a1, AV.sl a2.length (a2.map AV.f32)])]) rfl (Γ' := []) rfl (n := 12) rfl (g := 0) rfl ?_
  unfold i_isTall at h
  refine RunC.seq ?_
  refine RunC.regionW ?_
  refine ROps.d (r := AV.ptr [AV.i64 a0, AV.i64 a1, AV.sl a2.length (a2.map AV.f32)]) (fs := []) (Γ' := []) rfl rfl rfl (TOp.box_s rfl rfl rfl) rfl ?_
  refine ROps.l (r := AV.b false) rfl rfl rfl (LOp.assign rfl rfl) ?_
  refine ROps.nil ?_
  refine RunC.seq ?_
  obtain ⟨r1, hf1, h⟩ := obind_some h
  rcases bsel_some h with ⟨hc2, h⟩ | ⟨hc2, h⟩
  · refine RunC.regionW ?_
    refine ROps.l (r := AV.agg [AV.i64 a0, AV.i64 a1, AV.sl a2.length (a2.map AV.f32)]) rfl rfl rfl (LOp.loadAgg agg27 siz27 rfl rfl rfl rfl) ?_
    refine ROps.d (r := AV.b true) (fs := []) (Γ' := []) rfl rfl rfl (TOp.eqb (TOp.callB (CallAs.func ent45 rfl rfl) (Bors.cons (Bor.agg (Bors.cons (Bor.pure rfl) (Bors.cons (Bor.pure rfl) (Bors.cons (Bor.sl (fun _ => rfl)) Bors.nil)))) Bors.nil) rfl rfl (i_ValidMatrix_ok a0 a1 a2 r1 hf1)) hc2) rfl ?_
    refine ROps.l (r := AV.b true) rfl rfl rfl (LOp.move rfl rfl) ?_
    refine ROps.l (r := AV.ptr [AV.i64 a0, AV.i64 a1, AV.sl a2.length (a2.map AV.f32)]) rfl rfl rfl (LOp.fap und27 rfl siz2 rfl rfl rfl) ?_
    refine ROps.l (r := AV.i64 a0) rfl rfl rfl (LOp.load1 agg2 rfl rfl) ?_
    refine ROps.l (r := AV.ptr [AV.i64 a1, AV.sl a2.length (a2.map AV.f32)]) rfl rfl rfl (LOp.fap und27 rfl siz2 rfl rfl rfl) ?_
    refine ROps.l (r := AV.i64 a1) rfl rfl rfl (LOp.load1 agg2 rfl rfl) ?_
    refine ROps.l (r := AV.b (decide (a1 ≤ a0))) rfl rfl rfl (LOp.geq rfl rfl rfl) ?_
    refine ROps.l (r := AV.b (decide (a1 ≤ a0))) rfl rfl rfl (LOp.pick_true rfl rfl rfl) ?_
    refine ROps.l (r := AV.b (decide (a1 ≤ a0))) rfl rfl rfl (LOp.assign rfl rfl) ?_
    refine ROps.nil ?_
    refine RunC.ret ?_
    have hq := Option.some.inj h
    subst q0
    exact bodyQ.pure (.inr rfl) rfl (Res.one rfl (RV.tmp rfl))
  · refine RunC.regionW ?_
    refine ROps.l (r := AV.agg [AV.i64 a0, AV.i64 a1, AV.sl a2.length (a2.map AV.f32)]) rfl rfl rfl (LOp.loadAgg agg27 siz27 rfl rfl rfl rfl) ?_
    refine ROps.d (r := AV.b false) (fs := []) (Γ' := []) rfl rfl rfl (TOp.eqb (TOp.callB (CallAs.func ent45 rfl rfl) (Bors.cons (Bor.agg (Bors.cons (Bor.pure rfl) (Bors.cons (Bor.pure rfl) (Bors.cons (Bor.sl (fun _ => rfl)) Bors.nil)))) Bors.nil) rfl rfl (i_ValidMatrix_ok a0 a1 a2 r1 hf1)) hc2) rfl ?_
    refine ROps.l (r := AV.b false) rfl rfl rfl (LOp.move rfl rfl) ?_
    refine ROps.s rfl rfl rfl ?_
    refine ROps.s rfl rfl rfl ?_
    refine ROps.s rfl rfl rfl ?_
    refine ROps.s rfl rfl rfl ?_
    refine ROps.s rfl rfl rfl ?_
    refine ROps.l (r := AV.b false) rfl rfl rfl (LOp.pick_false rfl rfl rfl) ?_
    refine ROps.l (r := AV.b false) rfl rfl rfl (LOp.assign rfl rfl) ?_
    refine ROps.nil ?_
    refine RunC.ret ?_
    have hq := Option.some.inj h
    subst q0
    exact bodyQ.pure (.inr rfl) rfl (Res.one rfl (RV.tmp rfl))
noncomputable def i_isRounds (a0 : Int) : Option (Bool) :=
  obind (i_inRange a0 0 64) fun (r1 : Bool) =>
  some r1
theorem i_isRounds_ok (a0 : Int) (q0 : Bool) (h : i_isRounds a0 = some q0) : Ev Try.prog 81 [AV.i64 a0] [] (AV.b q0) [] := by
  refine Ev.start Try.func81 rfl rfl 0 (τ := [(0, AV.i64 a0)]) rfl (Γ' := []) rfl (n := 5) rfl (g := 0) rfl ?_
  unfold i_isRounds at h
  refine RunC.seq ?_
  refine RunC.regionW ?_
  refine ROps.l (r := AV.b false) rfl rfl rfl (LOp.assign rfl rfl) ?_
  refine ROps.nil ?_
  refine RunC.seq ?_
  obtain ⟨r1, hf1, h⟩ := obind_some h
  refine RunC.regionW ?_
  refine ROps.l (r := AV.i64 a0) rfl rfl rfl (LOp.move rfl rfl) ?_
  refine ROps.d (r := AV.b r1) (fs := []) (Γ' := []) rfl rfl rfl (TOp.callB (CallAs.func ent91 rfl rfl) (Bors.cons (Bor.pure rfl) (Bors.cons (Bor.pure rfl) (Bors.cons (Bor.pure rfl) Bors.nil))) rfl rfl (i_inRange_ok a0 0 64 r1 hf1)) rfl ?_
  refine ROps.l (r := AV.b r1) rfl rfl rfl (LOp.assign rfl rfl) ?_
  refine ROps.nil ?_
  refine RunC.ret ?_
  have hq := Option.some.inj h
  subst q0
  exact bodyQ.pure (.inr rfl) rfl (Res.one rfl (RV.tmp rfl))
noncomputable def x_slices_Clone_float32_float32 (a0 : List F) : Option ((List F)) :=
  need (apok 4 0 a0.length) <|
  some (([] : List F) ++ a0)
theorem x_slices_Clone_float32_float32_ok (a0 : List F) (q0 : List F) (h : x_slices_Clone_float32_float32 a0 = some q0) : Ev Try.prog 92 [AV.sl a0.length (a0.map AV.f32)] [] (AV.oref 0 0 0 q0.length) [⟨0, some (q0.map AV.f32)⟩] := by
  refine Ev.start Try.func92 rfl rfl 1 (τ := [(0, AV.sl a0.length (a0.map AV.f32))]) rfl (Γ' := [⟨0, none⟩]) rfl (n := 8) rfl (g := 0) rfl ?_
  unfold x_slices_Clone_float32_float32 at h
  refine RunC.seq ?_
  refine RunC.regionW ?_
  refine ROps.l (r := AV.nilsl) rfl rfl rfl (LOp.assign rfl rfl) ?_
  refine ROps.nil ?_
  refine RunC.seq ?_
  refine RunC.seq ?_
  refine RunC.regionW ?_
  refine ROps.l (r := AV.sl a0.length (a0.map AV.f32)) rfl rfl rfl (LOp.move rfl rfl) ?_
  refine ROps.eqnil rfl pun22 rfl rfl rfl rfl rfl ?_ ?_
  · intro hnil1
    refine ROps.nil ?_
    refine RunC.cond_true rfl rfl ?_
    refine RunC.seq ?_
    refine RunC.regionW ?_
    refine ROps.l (r := AV.nilsl) rfl rfl rfl (LOp.assign rfl rfl) ?_
    refine ROps.nil ?_
    refine RunC.nil_slot (Γ' := [⟨1, some (([] : List F).map AV.f32)⟩]) 2 0 rfl rfl rfl ?_
    refine RunC.ret ?_
    have hnl := List.map_eq_nil_iff.1 hnil1
    have hq : some ([] : List F) = some q0 := by
      rw [← h]; subst hnl; simp [need, apok]
    have hq := Option.some.inj hq
    subst q0
    exact bodyQ.mk (r' := AV.oref 0 1 0 (([] : List F).length)) [(0, 1)] (.inr rfl) rfl (show List.Nodup [0] from by decide) rfl rfl (Res.eq (Res.one rfl (RV.tmp rfl)) (by rw [(show ([] : List F).length = 0 from rfl)] <;> rfl)) (SelL.arr0 (f := AV.f32) (fun _ => rfl) rfl trivial)
  · refine ROps.nil ?_
    refine RunC.cond_false rfl rfl ?_
    refine RunC.skip ?_
    refine RunC.seq ?_
    obtain ⟨hm2, h⟩ := need_some h
    refine RunC.regionW ?_
    refine ROps.d (r := AV.oref 0 1 0 0) (fs := [(0, (([] : List F).map AV.f32))]) (Γ' := [⟨1, some (([] : List F).map AV.f32)⟩]) rfl rfl rfl (TOp.buildSlice_o (g := ⟨0, none⟩) (za := AV.f32 (some 0)) (qs := []) 0 rfl und22 siz25 zer25 rfl zel25 rfl rfl trivial rfl) rfl ?_
    refine ROps.l (r := AV.sl a0.length (a0.map AV.f32)) rfl rfl rfl (LOp.move rfl rfl) ?_
    refine ROps.app (f := AV.f32) (xs := ([] : List F)) (ys := a0) (Γ' := [⟨2, some ((([] : List F) ++ a0).map AV.f32)⟩]) rfl pun22 inf25 rfl rfl rfl rfl rfl rfl rfl rfl rfl (by simp) (ReadAs.sl (by simp)) (ones_map (fun _ => rfl)) (ap_by hm2) (ap_mx hm2) rfl ?_
    refine ROps.l (r := AV.oref 0 2 0 (0 + a0.length)) rfl rfl rfl (LOp.assign rfl rfl) ?_
    refine ROps.nil ?_
    refine RunC.ret ?_
    have hq := Option.some.inj h
    subst q0
    exact bodyQ.mk (r' := AV.oref 0 2 0 ((([] : List F) ++ a0).length)) [(0, 2)] (.inr rfl) rfl (show List.Nodup [0] from by decide) rfl rfl (Res.eq (Res.one rfl (RV.tmp rfl)) (by rw [(show (([] : List F) ++ a0).length = (0 + a0.length) from (app_len rfl rfl))] <;> rfl)) (SelL.arr0 (f := AV.f32) (fun _ => rfl) rfl trivial)
noncomputable def i_Matrix_clone (a0 : Int) (a1 : Int) (a2 : List F) : Option (Int × Int × (List F)) :=
  obind (x_slices_Clone_float32_float32 a2) fun (r1 : List F) =>
  some (a0, a1, r1)
theorem i_Matrix_clone_ok (a0 : Int) (a1 : Int) (a2 : List F) (q0 : Int) (q1 : Int) (q2 : List F) (h : i_Matrix_clone a0 a1 a2 = some (q0, q1, q2)) : Ev Try.prog 48 [AV.agg [AV.i64 a0, AV.i64 a1, AV.sl a2.length (a2.map AV.f32)]] [] (AV.agg [AV.i64 q0, AV.i64 q1, AV.oref 0 0 0 q2.length]) [⟨0, some (q2.map AV.f32)⟩] := by
  refine Ev.start Try.func48 rfl rfl 2 (τ := [(0, AV.agg [AV.i64 a0, AV.i64 a1, AV.sl a2.length (a2.map AV.f32)])]) rfl (Γ' := [⟨0, none⟩, ⟨0, none⟩]) rfl (n := 11) rfl (g := 0) rfl ?_
  unfold i_Matrix_clone at h
  refine RunC.seq ?_
  refine RunC.regionW ?_
  refine ROps.d (r := AV.ptr [AV.i64 a0, AV.i64 a1, AV.sl a2.length (a2.map AV.f32)]) (fs := []) (Γ' := [⟨0, none⟩, ⟨0, none⟩]) rfl rfl rfl (TOp.box_s rfl rfl rfl) rfl ?_
  refine ROps.d (r := AV.optr 0 1 0) (fs := [(0, [AV.i64 0, AV.i64 0, AV.nilsl])]) (Γ' := [⟨1, some [AV.i64 0, AV.i64 0, AV.nilsl]⟩, ⟨0, none⟩]) rfl rfl rfl (TOp.alloc_o (g := ⟨0, none⟩) 0 rfl zer27 zok27 rfl) rfl ?_
  refine ROps.nil ?_
  refine RunC.seq ?_
  obtain ⟨r1, hf1, h⟩ := obind_some h
  refine RunC.region_draw (Γ' := [⟨1, some [AV.i64 0, AV.i64 0, AV.nilsl]⟩, ⟨1, some (r1.map AV.f32)⟩]) 8 mixed 
    (TR.l (r := AV.ptr [AV.i64 a0, AV.i64 a1, AV.sl a2.length (a2.map AV.f32)]) rfl rfl (LOp.fap und27 rfl siz2 rfl rfl rfl) <|
    (TR.l (r := AV.i64 a0) rfl rfl (LOp.load1 agg2 rfl rfl) <|
    (TR.l (r := AV.ptr [AV.i64 a1, AV.sl a2.length (a2.map AV.f32)]) rfl rfl (LOp.fap und27 rfl siz2 rfl rfl rfl) <|
    (TR.l (r := AV.i64 a1) rfl rfl (LOp.load1 agg2 rfl rfl) <|
    (TR.l (r := AV.ptr [AV.sl a2.length (a2.map AV.f32)]) rfl rfl (LOp.fap und27 rfl siz22 rfl rfl rfl) <|
    (TR.l (r := AV.sl a2.length (a2.map AV.f32)) rfl rfl (LOp.load1 agg22 rfl rfl) <|
    (TR.d (r := AV.oref 1 1 0 r1.length) (fs := [(1, (r1.map AV.f32))]) rfl rfl (TOp.callBN (ls := [(r1.map AV.f32)]) [1] (CallAs.func ent92 rfl rfl) (Bors.cons (Bor.sl (fun _ => rfl)) Bors.nil) rfl (x_slices_Clone_float32_float32_ok a2 r1 hf1) (and_all (lts0_map (f := AV.f32) (fun _ => rfl) _) rfl) (and_all (noss_map (f := AV.f32) (fun _ => rfl) _) rfl) rfl (by decide) (ns_of ⟨⟨_, rfl⟩, trivial⟩)) <|
    (TR.l (r := AV.agg [AV.i64 a0, AV.i64 a1, AV.oref 1 1 0 r1.length]) rfl rfl (LOp.build (qs := [(0, [AV.i64 a0]), (1, [AV.i64 a1]), (2, [AV.oref 1 1 0 r1.length])]) zer27 zok27 und27 plc27 rfl ⟨rfl, ⟨_, ALe.refl _, rfl⟩, ⟨rfl, ⟨_, ALe.refl _, rfl⟩, ⟨rfl, ⟨_, ALe.refl _, rfl⟩, trivial⟩⟩⟩ rfl) <|
    TR.nil)))))))) rfl (by kernel_rfl) rfl (fills_of (by show List.Nodup [1]; decide) ⟨⟨_, rfl⟩, trivial⟩) rfl ?_
  iterate 8 refine ROps.dropS ?_
  refine ROps.drop0 ?_
  refine ROps.store_le (r := AV.agg [AV.i64 a0, AV.i64 a1, AV.oref 1 1 0 r1.length]) (l' := [AV.i64 a0, AV.i64 a1, AV.oref 1 1 0 r1.length]) (Γ' := [⟨1, some [AV.i64 a0, AV.i64 a1, AV.oref 1 1 0 r1.length]⟩, ⟨1, some (r1.map AV.f32)⟩]) rfl siz27 rfl rfl rfl (ALe.refl _) rfl rfl rfl rfl (Nat.le_of_ble_eq_true rfl) rfl rfl ?_
  refine ROps.nil ?_
  refine RunC.ret ?_
  have hq := Option.some.inj h
  obtain ⟨hq0, hq⟩ := Prod.mk.inj hq
  obtain ⟨hq1, hq⟩ := Prod.mk.inj hq
  subst q0
  subst q1
  subst q2
  exact bodyQ.mk (r' := AV.agg [AV.i64 a0, AV.i64 a1, AV.oref 1 1 0 r1.length]) [(1, 1)] (.inr rfl) rfl (show List.Nodup [1] from by decide) rfl rfl (Res.one rfl (RV.cell agg27 siz27 rfl rfl rfl rfl)) (SelL.arr0 (f := AV.f32) (fun _ => rfl) rfl trivial)
noncomputable def i_newMatrix (a0 : Int) (a1 : Int) : Option (Int × Int × (List F)) :=
  olet (IntKind.i64.wrap (a0 * a1)) fun (x1 : Int) =>
  need (mkok 4 x1) <|
  some (a0, a1, (List.replicate x1.toNat (some 0)))
theorem i_newMatrix_ok (a0 : Int) (a1 : Int) (q0 : Int) (q1 : Int) (q2 : List F) (h : i_newMatrix a0 a1 = some (q0, q1, q2)) : Ev Try.prog 49 [AV.i64 a0, AV.i64 a1] [] (AV.agg [AV.i64 q0, AV.i64 q1, AV.oref 0 0 0 q2.length]) [⟨0, some (q2.map AV.f32)⟩] := by
  refine Ev.start Try.func49 rfl rfl 2 (τ := [(0, AV.i64 a0), (1, AV.i64 a1)]) rfl (Γ' := [⟨0, none⟩, ⟨0, none⟩]) rfl (n := 12) rfl (g := 0) rfl ?_
  unfold i_newMatrix at h
  refine RunC.seq ?_
  refine RunC.regionW ?_
  refine ROps.d (r := AV.optr 0 1 0) (fs := [(0, [AV.i64 0, AV.i64 0, AV.nilsl])]) (Γ' := [⟨1, some [AV.i64 0, AV.i64 0, AV.nilsl]⟩, ⟨0, none⟩]) rfl rfl rfl (TOp.alloc_o (g := ⟨0, none⟩) 0 rfl zer27 zok27 rfl) rfl ?_
  refine ROps.nil ?_
  refine RunC.seq ?_
  obtain ⟨x1, hx1, h⟩ := olet_some h
  obtain ⟨hm2, h⟩ := need_some h
  refine RunC.regionW ?_
  refine ROps.l (r := AV.i64 a0) rfl rfl rfl (LOp.move rfl rfl) ?_
  refine ROps.l (r := AV.i64 a1) rfl rfl rfl (LOp.move rfl rfl) ?_
  refine ROps.l (r := AV.i64 a0) rfl rfl rfl (LOp.move rfl rfl) ?_
  refine ROps.l (r := AV.i64 a1) rfl rfl rfl (LOp.move rfl rfl) ?_
  refine ROps.l (r := AV.i64 x1) rfl rfl rfl (LOp.eqr (LOp.mul rfl rfl rfl) (congrArg (AV.ik .i64) hx1)) ?_
  refine ROps.d (r := AV.oref 1 1 0 x1.toNat) (fs := [(1, ((List.replicate x1.toNat (some 0)).map AV.f32))]) (Γ' := [⟨1, some [AV.i64 0, AV.i64 0, AV.nilsl]⟩, ⟨1, some ((List.replicate x1.toNat (some 0)).map AV.f32)⟩]) rfl rfl rfl (TOp.mkS (g := ⟨0, none⟩) (t := 22) (e := 25) (by_ := 4) (f := AV.f32) (zv := some 0) 1 rfl und22 tin25 rfl siz25 zer25 rfl zel25 rfl rfl rfl hm2) rfl ?_
  refine ROps.l (r := AV.agg [AV.i64 a0, AV.i64 a1, AV.oref 1 1 0 x1.toNat]) rfl rfl rfl (LOp.build (qs := [(0, [AV.i64 a0]), (1, [AV.i64 a1]), (2, [AV.oref 1 1 0 x1.toNat])]) zer27 zok27 und27 plc27 rfl ⟨rfl, ⟨_, ALe.refl _, rfl⟩, ⟨rfl, ⟨_, ALe.refl _, rfl⟩, ⟨rfl, ⟨_, ALe.refl _, rfl⟩, trivial⟩⟩⟩ rfl) ?_
  refine ROps.store_le (r := AV.agg [AV.i64 a0, AV.i64 a1, AV.oref 1 1 0 x1.toNat]) (l' := [AV.i64 a0, AV.i64 a1, AV.oref 1 1 0 x1.toNat]) (Γ' := [⟨1, some [AV.i64 a0, AV.i64 a1, AV.oref 1 1 0 x1.toNat]⟩, ⟨1, some ((List.replicate x1.toNat (some 0)).map AV.f32)⟩]) rfl siz27 rfl rfl rfl (ALe.refl _) rfl rfl rfl rfl (Nat.le_of_ble_eq_true rfl) rfl rfl ?_
  refine ROps.nil ?_
  refine RunC.ret ?_
  have hq := Option.some.inj h
  obtain ⟨hq0, hq⟩ := Prod.mk.inj hq
  obtain ⟨hq1, hq⟩ := Prod.mk.inj hq
  subst q0
  subst q1
  subst q2
  exact bodyQ.mk (r' := AV.agg [AV.i64 a0, AV.i64 a1, AV.oref 1 1 0 ((List.replicate x1.toNat (some 0)).length)]) [(1, 1)] (.inr rfl) rfl (show List.Nodup [1] from by decide) rfl rfl (Res.eq (Res.one rfl (RV.cell agg27 siz27 rfl rfl rfl rfl)) (by rw [(show (List.replicate x1.toNat (some 0)).length = x1.toNat from by simp)] <;> rfl)) (SelL.arr0 (f := AV.f32) (fun _ => rfl) rfl trivial)
noncomputable def i_unit_1 (a0 : Int) (a1 : Int) : Option (F) :=
  bsel (decide (a0 = a1)) (
    some (some 1065353216)) (
    some (some 0))
theorem i_unit_1_ok (a0 : Int) (a1 : Int) (q0 : F) (h : i_unit_1 a0 a1 = some q0) : Ev Try.prog 111 [AV.i64 a0, AV.i64 a1] [] (AV.f32 q0) [] := by
  refine Ev.start Try.func111 rfl rfl 0 (τ := [(0, AV.i64 a0), (1, AV.i64 a1)]) rfl (Γ' := []) rfl (n := 8) rfl (g := 0) rfl ?_
  unfold i_unit_1 at h
  refine RunC.seq ?_
  refine RunC.regionW ?_
  refine ROps.l (r := AV.f32 (some 0)) rfl rfl rfl (LOp.le (LOp.assign rfl rfl) (ALe.fl (by kernel_rfl) (by kernel_rfl))) ?_
  refine ROps.nil ?_
  refine RunC.seq ?_
  refine RunC.seq ?_
  rcases bsel_some h with ⟨hc1, h⟩ | ⟨hc1, h⟩
  · refine RunC.regionW ?_
    refine ROps.l (r := AV.i64 a0) rfl rfl rfl (LOp.move rfl rfl) ?_
    refine ROps.l (r := AV.i64 a1) rfl rfl rfl (LOp.move rfl rfl) ?_
    refine ROps.l (r := AV.b true) rfl rfl rfl (LOp.eqb (LOp.eql rfl rfl rfl) hc1) ?_
    refine ROps.nil ?_
    refine RunC.cond_true rfl rfl ?_
    refine RunC.seq ?_
    refine RunC.regionW ?_
    refine ROps.l (r := AV.f32 (some 1065353216)) rfl rfl rfl (LOp.le (LOp.assign rfl rfl) (ALe.fl (by kernel_rfl) (by kernel_rfl))) ?_
    refine ROps.nil ?_
    refine RunC.ret ?_
    have hq := Option.some.inj h
    subst q0
    exact bodyQ.pure (.inr rfl) rfl (Res.one rfl (RV.tmp rfl))
  · refine RunC.regionW ?_
    refine ROps.l (r := AV.i64 a0) rfl rfl rfl (LOp.move rfl rfl) ?_
    refine ROps.l (r := AV.i64 a1) rfl rfl rfl (LOp.move rfl rfl) ?_
    refine ROps.l (r := AV.b false) rfl rfl rfl (LOp.eqb (LOp.eql rfl rfl rfl) hc1) ?_
    refine ROps.nil ?_
    refine RunC.cond_false rfl rfl ?_
    refine RunC.skip ?_
    refine RunC.seq ?_
    refine RunC.regionW ?_
    refine ROps.l (r := AV.f32 (some 0)) rfl rfl rfl (LOp.le (LOp.assign rfl rfl) (ALe.fl (by kernel_rfl) (by kernel_rfl))) ?_
    refine ROps.nil ?_
    refine RunC.ret ?_
    have hq := Option.some.inj h
    subst q0
    exact bodyQ.pure (.inr rfl) rfl (Res.one rfl (RV.tmp rfl))
noncomputable def i_Matrix_set_02o (a0 : Int) (a1 : Int) (a2 : Int) (a3 : Int) (a4 : F) (a5 : List F) : Option ((List F)) :=
  olet (IntKind.i64.wrap (a2 * a1)) fun (x1 : Int) =>
  olet (IntKind.i64.wrap (x1 + a3)) fun (x2 : Int) =>
  obind (setAt? a5 x2 a4) fun (L3 : List F) =>
  some L3
theorem i_Matrix_set_02o_ok (a0 : Int) (a1 : Int) (a2 : Int) (a3 : Int) (a4 : F) (a5 : List F) (q0 : List F) (h : i_Matrix_set_02o a0 a1 a2 a3 a4 a5 = some q0) : Ev Try.prog 60 [AV.agg [AV.i64 a0, AV.i64 a1, AV.oref 0 0 0 a5.length], AV.i64 a2, AV.i64 a3, AV.f32 a4] [⟨0, some (a5.map AV.f32)⟩] (AV.tup []) [⟨0, some (q0.map AV.f32)⟩] := by
  refine Ev.start Try.func60 rfl rfl 0 (τ := [(0, AV.agg [AV.i64 a0, AV.i64 a1, AV.oref 0 0 0 a5.length]), (1, AV.i64 a2), (2, AV.i64 a3), (3, AV.f32 a4)]) rfl (Γ' := [⟨0, some (a5.map AV.f32)⟩]) rfl (n := 18) rfl (g := 1) rfl ?_
  unfold i_Matrix_set_02o at h
  refine RunC.seq ?_
  refine RunC.regionW ?_
  refine ROps.d (r := AV.ptr [AV.i64 a0, AV.i64 a1, AV.oref 0 0 0 a5.length]) (fs := []) (Γ' := [⟨0, some (a5.map AV.f32)⟩]) rfl rfl rfl (TOp.box_s rfl rfl rfl) rfl ?_
  refine ROps.nil ?_
  obtain ⟨x1, hx1, h⟩ := olet_some h
  obtain ⟨x2, hx2, h⟩ := olet_some h
  obtain ⟨L3, he3, h⟩ := obind_some h
  refine RunC.regionW ?_
  refine ROps.l (r := AV.ptr [AV.oref 0 0 0 a5.length]) rfl rfl rfl (LOp.fap und27 rfl siz22 rfl rfl rfl) ?_
  refine ROps.l (r := AV.oref 0 0 0 a5.length) rfl rfl rfl (LOp.load1 agg22 rfl rfl) ?_
  refine ROps.l (r := AV.i64 a2) rfl rfl rfl (LOp.move rfl rfl) ?_
  refine ROps.l (r := AV.ptr [AV.i64 a1, AV.oref 0 0 0 a5.length]) rfl rfl rfl (LOp.fap und27 rfl siz2 rfl rfl rfl) ?_
  refine ROps.l (r := AV.i64 a1) rfl rfl rfl (LOp.load1 agg2 rfl rfl) ?_
  refine ROps.l (r := AV.i64 x1) rfl rfl rfl (LOp.eqr (LOp.mul rfl rfl rfl) (congrArg (AV.ik .i64) hx1)) ?_
  refine ROps.l (r := AV.i64 a3) rfl rfl rfl (LOp.move rfl rfl) ?_
  refine ROps.l (r := AV.i64 x2) rfl rfl rfl (LOp.eqr (LOp.add rfl rfl rfl) (congrArg (AV.ik .i64) hx2)) ?_
  refine ROps.l (r := AV.f32 a4) rfl rfl rfl (LOp.move rfl rfl) ?_
  refine ROps.d (r := AV.optr 0 0 x2.toNat) (fs := []) (Γ' := [⟨0, some (a5.map AV.f32)⟩]) rfl rfl rfl (TOp.ixo und22 siz25 rfl rfl rfl (set_in he3 rfl) rfl) rfl ?_
  refine ROps.st (f := AV.f32) (i := x2) (Γ' := [⟨0, some (L3.map AV.f32)⟩]) rfl siz25 rfl rfl rfl (ALe.refl _) rfl rfl rfl he3 rfl ?_
  refine ROps.nil ?_
  have hq := Option.some.inj h
  subst q0
  exact bodyQ.mk (r' := AV.tup []) [(0, 0)] (.inl rfl) rfl (show List.Nodup [0] from by decide) rfl rfl (Res.zero rfl) (SelL.arr (f := AV.f32) (fun _ => rfl) rfl trivial)
noncomputable def i_made_2Fi_unit_1_b2 (a1 : Int) (r1 : Int) (r2 : Int) (r3 : List F) (v6 : Int) (L7 : List F) (v9 : Int) : Option (LR ((List F) × Int) ((List F)) (Int × Int × (List F))) :=
  bsel (decide (v9 < a1)) (
    obind (i_unit_1 v6 v9) fun (r11 : F) =>
    obind (i_Matrix_set_02o r1 r2 v6 v9 r11 L7) fun (r12 : List F) =>
    need (decide (r12.length = r3.length)) <|
    olet (IntKind.i64.wrap (v9 + 1)) fun (x13 : Int) =>
    some (LR.next (r12, x13))) (
    some (LR.out L7))
noncomputable def i_made_2Fi_unit_1_s2 (a1 : Int) (r1 : Int) (r2 : Int) (r3 : List F) (v6 : Int) : ((List F) × Int) → Option (LR ((List F) × Int) ((List F)) (Int × Int × (List F))) := fun s => i_made_2Fi_unit_1_b2 a1 r1 r2 r3 v6 s.1 s.2
noncomputable def i_made_2Fi_unit_1_k2 (v6 : Int) (L14 : List F) : Option (LR ((List F) × Int) ((List F)) (Int × Int × (List F))) :=
  olet (IntKind.i64.wrap (v6 + 1)) fun (x16 : Int) =>
  some (LR.next (L14, x16))
noncomputable def i_made_2Fi_unit_1_b3 (a0 : Int) (a1 : Int) (r1 : Int) (r2 : Int) (r3 : List F) (L4 : List F) (v6 : Int) : Option (LR ((List F) × Int) ((List F)) (Int × Int × (List F))) :=
  bsel (decide (v6 < a0)) (
    obind (loopM (i_made_2Fi_unit_1_s2 a1 r1 r2 r3 v6) (L4, 0)) fun z => osum z (fun e => i_made_2Fi_unit_1_k2 v6 e) (fun r => some (LR.ret r))) (
    some (LR.out L4))
noncomputable def i_made_2Fi_unit_1_s3 (a0 : Int) (a1 : Int) (r1 : Int) (r2 : Int) (r3 : List F) : ((List F) × Int) → Option (LR ((List F) × Int) ((List F)) (Int × Int × (List F))) := fun s => i_made_2Fi_unit_1_b3 a0 a1 r1 r2 r3 s.1 s.2
noncomputable def i_made_2Fi_unit_1_k3 (r1 : Int) (r2 : Int) (L17 : List F) : Option (Int × Int × (List F)) :=
  some (r1, r2, L17)
noncomputable def i_made_2Fi_unit_1 (a0 : Int) (a1 : Int) : Option (Int × Int × (List F)) :=
  obind3 (i_newMatrix a0 a1) fun (r1 : Int) (r2 : Int) (r3 : List F) =>
  obind (loopM (i_made_2Fi_unit_1_s3 a0 a1 r1 r2 r3) (r3, 0)) fun z => osum z (fun e => i_made_2Fi_unit_1_k3 r1 r2 e) (fun r => some r)
theorem i_made_2Fi_unit_1_ok (a0 : Int) (a1 : Int) (q0 : Int) (q1 : Int) (q2 : List F) (h : i_made_2Fi_unit_1 a0 a1 = some (q0, q1, q2)) : Ev Try.prog 110 [AV.i64 a0, AV.i64 a1, AV.fn (.func 111) [] []] [] (AV.agg [AV.i64 q0, AV.i64 q1, AV.oref 0 0 0 q2.length]) [⟨0, some (q2.map AV.f32)⟩] := by
  refine Ev.start Try.func110 rfl rfl 3 (τ := [(0, AV.i64 a0), (1, AV.i64 a1), (2, AV.fn (.func 111) [] [])]) rfl (Γ' := [⟨0, none⟩, ⟨0, none⟩, ⟨0, none⟩]) rfl (n := 32) rfl (g := 0) rfl ?_
  unfold i_made_2Fi_unit_1 at h
  refine RunC.seq ?_
  refine RunC.regionW ?_
  refine ROps.d (r := AV.optr 0 1 0) (fs := [(0, [AV.i64 0, AV.i64 0, AV.nilsl])]) (Γ' := [⟨1, some [AV.i64 0, AV.i64 0, AV.nilsl]⟩, ⟨0, none⟩, ⟨0, none⟩]) rfl rfl rfl (TOp.alloc_o (g := ⟨0, none⟩) 0 rfl zer27 zok27 rfl) rfl ?_
  refine ROps.nil ?_
  refine RunC.seq ?_
  obtain ⟨r1, r2, r3, hf1, h⟩ := obind3_some h
  refine RunC.regionW ?_
  refine ROps.l (r := AV.i64 a0) rfl rfl rfl (LOp.move rfl rfl) ?_
  refine ROps.l (r := AV.i64 a1) rfl rfl rfl (LOp.move rfl rfl) ?_
  refine ROps.d (r := AV.agg [AV.i64 r1, AV.i64 r2, AV.oref 1 1 0 r3.length]) (fs := [(1, (r3.map AV.f32))]) (Γ' := [⟨1, some [AV.i64 0, AV.i64 0, AV.nilsl]⟩, ⟨1, some (r3.map AV.f32)⟩, ⟨0, none⟩]) rfl rfl rfl (TOp.callBN (ls := [(r3.map AV.f32)]) [1] (CallAs.func ent49 rfl rfl) (Bors.cons (Bor.pure rfl) (Bors.cons (Bor.pure rfl) Bors.nil)) rfl (i_newMatrix_ok a0 a1 r1 r2 r3 hf1) (and_all (lts0_map (f := AV.f32) (fun _ => rfl) _) rfl) (and_all (noss_map (f := AV.f32) (fun _ => rfl) _) rfl) rfl (by decide) (ns_of ⟨⟨_, rfl⟩, trivial⟩)) rfl ?_
  refine ROps.d (r := AV.optr 2 1 0) (fs := [(2, [AV.i64 0, AV.i64 0, AV.nilsl])]) (Γ' := [⟨1, some [AV.i64 0, AV.i64 0, AV.nilsl]⟩, ⟨1, some (r3.map AV.f32)⟩, ⟨1, some [AV.i64 0, AV.i64 0, AV.nilsl]⟩]) rfl rfl rfl (TOp.alloc_o (g := ⟨0, none⟩) 2 rfl zer27 zok27 rfl) rfl ?_
  refine ROps.store_le (r := AV.agg [AV.i64 r1, AV.i64 r2, AV.oref 1 1 0 r3.length]) (l' := [AV.i64 r1, AV.i64 r2, AV.oref 1 1 0 r3.length]) (Γ' := [⟨1, some [AV.i64 0, AV.i64 0, AV.nilsl]⟩, ⟨1, some (r3.map AV.f32)⟩, ⟨1, some [AV.i64 r1, AV.i64 r2, AV.oref 1 1 0 r3.length]⟩]) rfl siz27 rfl rfl rfl (ALe.refl _) rfl rfl rfl rfl (Nat.le_of_ble_eq_true rfl) rfl rfl ?_
  refine ROps.nil ?_
  refine RunC.seq ?_
  refine RunC.seq ?_
  refine RunC.regionW ?_
  refine ROps.l (r := AV.i64 a0) rfl rfl rfl (LOp.move rfl rfl) ?_
  refine ROps.l (r := AV.i64 0) rfl rfl rfl (LOp.move rfl rfl) ?_
  refine ROps.nil ?_
  obtain ⟨z4, hz_4, h⟩ := obind_some h
  refine RunC.cutN (fun τ Γ => ∃ (L17 : List F), L17.length = r3.length ∧ WeakLe τ [(6, AV.optr 0 1 0), (7, AV.optr 2 1 0)] ∧ DeadLe Γ [⟨1, some [AV.i64 0, AV.i64 0, AV.nilsl]⟩, ⟨1, some (L17.map AV.f32)⟩, ⟨1, some [AV.i64 r1, AV.i64 r2, AV.oref 1 1 0 r3.length]⟩] ∧ z4 = .inl L17) ?_ ?_
  · refine RunC.block (RunC.loop (RunL.loopM (x := z4) (i_made_2Fi_unit_1_s3 a0 a1 r1 r2 r3) (fun (s : (List F) × Int) τ Γ => s.1.length = r3.length ∧ WeakLe τ [(1, AV.i64 a1), (2, AV.fn (.func 111) [] []), (6, AV.optr 0 1 0), (7, AV.optr 2 1 0), (13, AV.i64 a0), (14, AV.i64 s.2)] ∧ DeadLe Γ [⟨1, some [AV.i64 0, AV.i64 0, AV.nilsl]⟩, ⟨1, some (s.1.map AV.f32)⟩, ⟨1, some [AV.i64 r1, AV.i64 r2, AV.oref 1 1 0 r3.length]⟩]) ?_ _ _ _ hz_4 ⟨rfl, ⟨(ALe.refl _), (ALe.refl _), (ALe.refl _), (ALe.refl _), (ALe.refl _), (ALe.refl _), trivial⟩, ⟨⟨rfl, .inr rfl⟩, ⟨rfl, .inr rfl⟩, ⟨rfl, .inr rfl⟩, trivial⟩⟩))
    rintro ⟨L4, v6⟩ τ4 Γ4 y4_ ⟨hl5, hw4, hd4⟩ h4_ ho4 hr4
    refine RunC.wl (τ' := [(1, AV.i64 a1), (2, AV.fn (.func 111) [] []), (6, AV.optr 0 1 0), (7, AV.optr 2 1 0), (13, AV.i64 a0), (14, AV.i64 v6)]) (Γ' := [⟨1, some [AV.i64 0, AV.i64 0, AV.nilsl]⟩, ⟨1, some (L4.map AV.f32)⟩, ⟨1, some [AV.i64 r1, AV.i64 r2, AV.oref 1 1 0 r3.length]⟩]) hw4 hd4 ?_
    replace hl5 : L4.length = r3.length := hl5
    replace h4_ : i_made_2Fi_unit_1_b3 a0 a1 r1 r2 r3 L4 v6 = some y4_ := h4_
    unfold i_made_2Fi_unit_1_b3 at h4_
    refine RunC.seq ?_
    rcases bsel_some h4_ with ⟨hc2, h4_⟩ | ⟨hc2, h4_⟩
    · refine RunC.regionW ?_
      refine ROps.l (r := AV.b true) rfl rfl rfl (LOp.eqb (LOp.lss rfl rfl rfl) hc2) ?_
      refine ROps.nil ?_
      refine RunC.seq ?_
      refine RunC.cond_true rfl rfl ?_
      refine RunC.skip ?_
      refine RunC.seq ?_
      refine RunC.block ?_
      refine RunC.seq ?_
      refine RunC.regionW ?_
      refine ROps.l (r := AV.i64 v6) rfl rfl rfl (LOp.move rfl rfl) ?_
      refine ROps.l (r := AV.i64 v6) rfl rfl rfl (LOp.assign rfl rfl) ?_
      refine ROps.nil ?_
      refine RunC.seq ?_
      refine RunC.regionW ?_
      refine ROps.l (r := AV.i64 a1) rfl rfl rfl (LOp.move rfl rfl) ?_
      refine ROps.l (r := AV.i64 0) rfl rfl rfl (LOp.move rfl rfl) ?_
      refine ROps.nil ?_
      obtain ⟨z5, hz_5, h4_⟩ := obind_some h4_
      refine RunC.cutN (fun τ Γ => ∃ (L14 : List F), L14.length = r3.length ∧ WeakLe τ [(1, AV.i64 a1), (2, AV.fn (.func 111) [] []), (6, AV.optr 0 1 0), (7, AV.optr 2 1 0), (13, AV.i64 a0), (14, AV.i64 v6)] ∧ DeadLe Γ [⟨1, some [AV.i64 0, AV.i64 0, AV.nilsl]⟩, ⟨1, some (L14.map AV.f32)⟩, ⟨1, some [AV.i64 r1, AV.i64 r2, AV.oref 1 1 0 r3.length]⟩] ∧ z5 = .inl L14) ?_ ?_
      · refine RunC.block (RunC.loop (RunL.loopM (x := z5) (i_made_2Fi_unit_1_s2 a1 r1 r2 r3 v6) (fun (s : (List F) × Int) τ Γ => s.1.length = r3.length ∧ WeakLe τ [(1, AV.i64 a1), (2, AV.fn (.func 111) [] []), (6, AV.optr 0 1 0), (7, AV.optr 2 1 0), (8, AV.i64 v6), (13, AV.i64 a0), (14, AV.i64 v6), (17, AV.i64 a1), (18, AV.i64 s.2)] ∧ DeadLe Γ [⟨1, some [AV.i64 0, AV.i64 0, AV.nilsl]⟩, ⟨1, some (s.1.map AV.f32)⟩, ⟨1, some [AV.i64 r1, AV.i64 r2, AV.oref 1 1 0 r3.length]⟩]) ?_ _ _ _ hz_5 ⟨hl5, ⟨(ALe.refl _), (ALe.refl _), (ALe.refl _), (ALe.refl _), (ALe.refl _), (ALe.refl _), (ALe.refl _), (ALe.refl _), (ALe.refl _), trivial⟩, ⟨⟨rfl, .inr rfl⟩, ⟨rfl, .inr rfl⟩, ⟨rfl, .inr rfl⟩, trivial⟩⟩))
        rintro ⟨L7, v9⟩ τ5 Γ5 y5_ ⟨hl8, hw5, hd5⟩ h5_ ho5 hr5
        refine RunC.wl (τ' := [(1, AV.i64 a1), (2, AV.fn (.func 111) [] []), (6, AV.optr 0 1 0), (7, AV.optr 2 1 0), (8, AV.i64 v6), (13, AV.i64 a0), (14, AV.i64 v6), (17, AV.i64 a1), (18, AV.i64 v9)]) (Γ' := [⟨1, some [AV.i64 0, AV.i64 0, AV.nilsl]⟩, ⟨1, some (L7.map AV.f32)⟩, ⟨1, some [AV.i64 r1, AV.i64 r2, AV.oref 1 1 0 r3.length]⟩]) hw5 hd5 ?_
        replace hl8 : L7.length = r3.length := hl8
        replace h5_ : i_made_2Fi_unit_1_b2 a1 r1 r2 r3 v6 L7 v9 = some y5_ := h5_
        unfold i_made_2Fi_unit_1_b2 at h5_
        refine RunC.seq ?_
        rcases bsel_some h5_ with ⟨hc3, h5_⟩ | ⟨hc3, h5_⟩
        · refine RunC.regionW ?_
          refine ROps.l (r := AV.b true) rfl rfl rfl (LOp.eqb (LOp.lss rfl rfl rfl) hc3) ?_
          refine ROps.nil ?_
          refine RunC.seq ?_
          refine RunC.cond_true rfl rfl ?_
          refine RunC.skip ?_
          refine RunC.seq ?_
          refine RunC.block ?_
          refine RunC.seq ?_
          refine RunC.regionW ?_
          refine ROps.l (r := AV.i64 v9) rfl rfl rfl (LOp.move rfl rfl) ?_
          refine ROps.l (r := AV.i64 v9) rfl rfl rfl (LOp.assign rfl rfl) ?_
          refine ROps.nil ?_
          obtain ⟨r11, hf5, h5_⟩ := obind_some h5_
          obtain ⟨r12, hf6, h5_⟩ := obind_some h5_
          obtain ⟨hn7, h5_⟩ := need_some h5_
          refine RunC.region_draw (Γ' := [⟨1, some [AV.i64 0, AV.i64 0, AV.nilsl]⟩, ⟨1, some (L7.map AV.f32)⟩, ⟨1, some [AV.i64 r1, AV.i64 r2, AV.oref 1 1 0 r3.length]⟩]) 7 mixed 
            (TR.d (r := AV.agg [AV.i64 r1, AV.i64 r2, AV.oref 1 1 0 r3.length]) (fs := []) rfl rfl (TOp.loadAgg_o rfl agg27 siz27 rfl rfl rfl rfl) <|
            (TR.l (r := AV.i64 v6) rfl rfl (LOp.move rfl rfl) <|
            (TR.l (r := AV.i64 v9) rfl rfl (LOp.move rfl rfl) <|
            (TR.l (r := AV.fn (.func 111) [] []) rfl rfl (LOp.move rfl rfl) <|
            (TR.l (r := AV.i64 v6) rfl rfl (LOp.move rfl rfl) <|
            (TR.l (r := AV.i64 v9) rfl rfl (LOp.move rfl rfl) <|
            (TR.d (r := AV.f32 r11) (fs := []) rfl rfl (TOp.callB (CallAs.fn ent111 rfl rfl rfl rfl) (Bors.cons (Bor.pure rfl) (Bors.cons (Bor.pure rfl) Bors.nil)) rfl rfl (i_unit_1_ok v6 v9 r11 hf5)) <|
            TR.nil))))))) rfl (by kernel_rfl) rfl fills_nil rfl ?_
          iterate 7 refine ROps.dropS ?_
          refine ROps.drop0 ?_
          refine ROps.callO (A := [AV.agg [AV.i64 r1, AV.i64 r2, AV.oref 1 1 0 r3.length], AV.i64 v6, AV.i64 v9, AV.f32 r11]) (args := [AV.agg [AV.i64 r1, AV.i64 r2, AV.oref 0 0 0 L7.length], AV.i64 v6, AV.i64 v9, AV.f32 r11]) (Γc := [⟨0, some (L7.map AV.f32)⟩]) (Γc' := [⟨0, some (r12.map AV.f32)⟩]) (r' := AV.tup []) (Γ' := [⟨1, some [AV.i64 0, AV.i64 0, AV.nilsl]⟩, ⟨1, some (r12.map AV.f32)⟩, ⟨1, some [AV.i64 r1, AV.i64 r2, AV.oref 1 1 0 r3.length]⟩]) [(1, 1)] [] rfl (CallAs.func ent60 rfl rfl) rfl rfl (SelOk.of (show List.Nodup [1] from by decide) (SelL.arr0 (f := AV.f32) (fun _ => rfl) rfl trivial)) (live_of ⟨⟨_, _, rfl⟩, trivial⟩) (by simp [AV.ren, AV.rens, sigma, rens_f32, rens_f64, rens_i64, rens_ik, rens_str, rens_cp, hl8]) rfl (i_Matrix_set_02o_ok r1 r2 v6 v9 r11 L7 r12 hf6) rfl (news_of trivial) (show List.Nodup [1] from by decide) (by simp [AV.ren, AV.rens, sigma, of_decide_eq_true hn7]) (by simp [backOb, sigma, AV.ren, AV.rens, rens_f32, rens_f64, rens_i64, rens_ik, rens_str, rens_cp]) ?_
          refine ROps.nil ?_
          obtain ⟨x13, hx8, h5_⟩ := olet_some h5_
          refine RunC.regionW ?_
          refine ROps.l (r := AV.i64 x13) rfl rfl rfl (LOp.eqr (LOp.add rfl rfl rfl) (congrArg (AV.ik .i64) hx8)) ?_
          refine ROps.l (r := AV.i64 x13) rfl rfl rfl (LOp.move rfl rfl) ?_
          refine ROps.nil ?_
          cases Option.some.inj h5_
          exact ⟨_, rfl, (of_decide_eq_true hn7), ⟨(ALe.refl _), (ALe.refl _), (ALe.refl _), (ALe.refl _), (ALe.refl _), (ALe.refl _), (ALe.refl _), (ALe.refl _), (ALe.refl _), trivial⟩, ⟨⟨rfl, .inr rfl⟩, ⟨rfl, .inr rfl⟩, ⟨rfl, .inr rfl⟩, trivial⟩⟩
        · refine RunC.regionW ?_
          refine ROps.l (r := AV.b false) rfl rfl rfl (LOp.eqb (LOp.lss rfl rfl rfl) hc3) ?_
          refine ROps.nil ?_
          refine RunC.seq ?_
          refine RunC.cond_false rfl rfl ?_
          refine RunC.exit ?_
          cases Option.some.inj h5_
          have hx := ho5 _ rfl
          exact ⟨L7, hl8, ⟨(ALe.refl _), (ALe.refl _), (ALe.refl _), (ALe.refl _), (ALe.refl _), (ALe.refl _), trivial⟩, ⟨⟨rfl, .inr rfl⟩, ⟨rfl, .inr rfl⟩, ⟨rfl, .inr rfl⟩, trivial⟩, hx⟩
      · rintro τ6 Γ6 ⟨L14, hl15, hw6, hd6, rfl⟩
        refine RunC.wl (τ' := [(1, AV.i64 a1), (2, AV.fn (.func 111) [] []), (6, AV.optr 0 1 0), (7, AV.optr 2 1 0), (13, AV.i64 a0), (14, AV.i64 v6)]) (Γ' := [⟨1, some [AV.i64 0, AV.i64 0, AV.nilsl]⟩, ⟨1, some (L14.map AV.f32)⟩, ⟨1, some [AV.i64 r1, AV.i64 r2, AV.oref 1 1 0 r3.length]⟩]) hw6 hd6 ?_
        replace h4_ : i_made_2Fi_unit_1_k2 v6 L14 = some y4_ := h4_
        unfold i_made_2Fi_unit_1_k2 at h4_
        obtain ⟨x16, hx9, h4_⟩ := olet_some h4_
        refine RunC.regionW ?_
        refine ROps.l (r := AV.i64 x16) rfl rfl rfl (LOp.eqr (LOp.add rfl rfl rfl) (congrArg (AV.ik .i64) hx9)) ?_
        refine ROps.l (r := AV.i64 x16) rfl rfl rfl (LOp.move rfl rfl) ?_
        refine ROps.nil ?_
        cases Option.some.inj h4_
        exact ⟨_, rfl, hl15, ⟨(ALe.refl _), (ALe.refl _), (ALe.refl _), (ALe.refl _), (ALe.refl _), (ALe.refl _), trivial⟩, ⟨⟨rfl, .inr rfl⟩, ⟨rfl, .inr rfl⟩, ⟨rfl, .inr rfl⟩, trivial⟩⟩
    · refine RunC.regionW ?_
      refine ROps.l (r := AV.b false) rfl rfl rfl (LOp.eqb (LOp.lss rfl rfl rfl) hc2) ?_
      refine ROps.nil ?_
      refine RunC.seq ?_
      refine RunC.cond_false rfl rfl ?_
      refine RunC.exit ?_
      cases Option.some.inj h4_
      have hx := ho4 _ rfl
      exact ⟨L4, hl5, ⟨(ALe.refl _), (ALe.refl _), trivial⟩, ⟨⟨rfl, .inr rfl⟩, ⟨rfl, .inr rfl⟩, ⟨rfl, .inr rfl⟩, trivial⟩, hx⟩
  · rintro τ7 Γ7 ⟨L17, hl18, hw7, hd7, rfl⟩
    refine RunC.wl (τ' := [(6, AV.optr 0 1 0), (7, AV.optr 2 1 0)]) (Γ' := [⟨1, some [AV.i64 0, AV.i64 0, AV.nilsl]⟩, ⟨1, some (L17.map AV.f32)⟩, ⟨1, some [AV.i64 r1, AV.i64 r2, AV.oref 1 1 0 r3.length]⟩]) hw7 hd7 ?_
    replace h : i_made_2Fi_unit_1_k3 r1 r2 L17 = some (q0, q1, q2) := h
    unfold i_made_2Fi_unit_1_k3 at h
    refine RunC.seq ?_
    refine RunC.regionW ?_
    refine ROps.d (r := AV.agg [AV.i64 r1, AV.i64 r2, AV.oref 1 1 0 r3.length]) (fs := []) (Γ' := [⟨1, some [AV.i64 0, AV.i64 0, AV.nilsl]⟩, ⟨1, some (L17.map AV.f32)⟩, ⟨1, some [AV.i64 r1, AV.i64 r2, AV.oref 1 1 0 r3.length]⟩]) rfl rfl rfl (TOp.loadAgg_o rfl agg27 siz27 rfl rfl rfl rfl) rfl ?_
    refine ROps.store_le (r := AV.agg [AV.i64 r1, AV.i64 r2, AV.oref 1 1 0 r3.length]) (l' := [AV.i64 r1, AV.i64 r2, AV.oref 1 1 0 r3.length]) (Γ' := [⟨1, some [AV.i64 r1, AV.i64 r2, AV.oref 1 1 0 r3.length]⟩, ⟨1, some (L17.map AV.f32)⟩, ⟨1, some [AV.i64 r1, AV.i64 r2, AV.oref 1 1 0 r3.length]⟩]) rfl siz27 rfl rfl rfl (ALe.refl _) rfl rfl rfl rfl (Nat.le_of_ble_eq_true rfl) rfl rfl ?_
    refine ROps.nil ?_
    refine RunC.ret ?_
    have hq := Option.some.inj h
    obtain ⟨hq0, hq⟩ := Prod.mk.inj hq
    obtain ⟨hq1, hq⟩ := Prod.mk.inj hq
    subst q0
    subst q1
    subst q2
    exact bodyQ.mk (r' := AV.agg [AV.i64 r1, AV.i64 r2, AV.oref 1 1 0 L17.length]) [(1, 1)] (.inr rfl) rfl (show List.Nodup [1] from by decide) rfl rfl (Res.eq (Res.one rfl (RV.cell agg27 siz27 rfl rfl rfl rfl)) (by rw [(show L17.length = r3.length from hl18)] <;> rfl)) (SelL.arr0 (f := AV.f32) (fun _ => rfl) rfl trivial)
noncomputable def i_unit (a0 : Int) : Option (Int × Int × (List F)) :=
  obind3 (i_made_2Fi_unit_1 a0 a0) fun (r1 : Int) (r2 : Int) (r3 : List F) =>
  some (r1, r2, r3)
theorem i_unit_ok (a0 : Int) (q0 : Int) (q1 : Int) (q2 : List F) (h : i_unit a0 = some (q0, q1, q2)) : Ev Try.prog 82 [AV.i64 a0] [] (AV.agg [AV.i64 q0, AV.i64 q1, AV.oref 0 0 0 q2.length]) [⟨0, some (q2.map AV.f32)⟩] := by
  refine Ev.start Try.func82 rfl rfl 2 (τ := [(0, AV.i64 a0)]) rfl (Γ' := [⟨0, none⟩, ⟨0, none⟩]) rfl (n := 6) rfl (g := 0) rfl ?_
  unfold i_unit at h
  refine RunC.seq ?_
  refine RunC.regionW ?_
  refine ROps.d (r := AV.optr 0 1 0) (fs := [(0, [AV.i64 0, AV.i64 0, AV.nilsl])]) (Γ' := [⟨1, some [AV.i64 0, AV.i64 0, AV.nilsl]⟩, ⟨0, none⟩]) rfl rfl rfl (TOp.alloc_o (g := ⟨0, none⟩) 0 rfl zer27 zok27 rfl) rfl ?_
  refine ROps.nil ?_
  refine RunC.seq ?_
  obtain ⟨r1, r2, r3, hf1, h⟩ := obind3_some h
  refine RunC.regionW ?_
  refine ROps.l (r := AV.i64 a0) rfl rfl rfl (LOp.move rfl rfl) ?_
  refine ROps.l (r := AV.i64 a0) rfl rfl rfl (LOp.move rfl rfl) ?_
  refine ROps.d (r := AV.agg [AV.i64 r1, AV.i64 r2, AV.oref 1 1 0 r3.length]) (fs := [(1, (r3.map AV.f32))]) (Γ' := [⟨1, some [AV.i64 0, AV.i64 0, AV.nilsl]⟩, ⟨1, some (r3.map AV.f32)⟩]) rfl rfl rfl (TOp.callBN (ls := [(r3.map AV.f32)]) [1] (CallAs.func ent110 rfl rfl) (Bors.cons (Bor.pure rfl) (Bors.cons (Bor.pure rfl) (Bors.cons (Bor.fn Bors.nil Bors.nil) Bors.nil))) rfl (i_made_2Fi_unit_1_ok a0 a0 r1 r2 r3 hf1) (and_all (lts0_map (f := AV.f32) (fun _ => rfl) _) rfl) (and_all (noss_map (f := AV.f32) (fun _ => rfl) _) rfl) rfl (by decide) (ns_of ⟨⟨_, rfl⟩, trivial⟩)) rfl ?_
  refine ROps.store_le (r := AV.agg [AV.i64 r1, AV.i64 r2, AV.oref 1 1 0 r3.length]) (l' := [AV.i64 r1, AV.i64 r2, AV.oref 1 1 0 r3.length]) (Γ' := [⟨1, some [AV.i64 r1, AV.i64 r2, AV.oref 1 1 0 r3.length]⟩, ⟨1, some (r3.map AV.f32)⟩]) rfl siz27 rfl rfl rfl (ALe.refl _) rfl rfl rfl rfl (Nat.le_of_ble_eq_true rfl) rfl rfl ?_
  refine ROps.nil ?_
  refine RunC.ret ?_
  have hq := Option.some.inj h
  obtain ⟨hq0, hq⟩ := Prod.mk.inj hq
  obtain ⟨hq1, hq⟩ := Prod.mk.inj hq
  subst q0
  subst q1
  subst q2
  exact bodyQ.mk (r' := AV.agg [AV.i64 r1, AV.i64 r2, AV.oref 1 1 0 r3.length]) [(1, 1)] (.inr rfl) rfl (show List.Nodup [1] from by decide) rfl rfl (Res.one rfl (RV.cell agg27 siz27 rfl rfl rfl rfl)) (SelL.arr0 (f := AV.f32) (fun _ => rfl) rfl trivial)
noncomputable def i_Matrix_at (a0 : Int) (a1 : Int) (a2 : List F) (a3 : Int) (a4 : Int) : Option (F) :=
  olet (IntKind.i64.wrap (a3 * a1)) fun (x1 : Int) =>
  olet (IntKind.i64.wrap (x1 + a4)) fun (x2 : Int) =>
  obind (at? a2 x2) fun (e3 : F) =>
  some e3
theorem i_Matrix_at_ok (a0 : Int) (a1 : Int) (a2 : List F) (a3 : Int) (a4 : Int) (q0 : F) (h : i_Matrix_at a0 a1 a2 a3 a4 = some q0) : Ev Try.prog 51 [AV.agg [AV.i64 a0, AV.i64 a1, AV.sl a2.length (a2.map AV.f32)], AV.i64 a3, AV.i64 a4] [] (AV.f32 q0) [] := by
  refine Ev.start Try.func51 rfl rfl 0 (τ := [(0, AV.agg [AV.i64 a0, AV.i64 a1, AV.sl a2.length (a2.map AV.f32)]), (1, AV.i64 a3), (2, AV.i64 a4)]) rfl (Γ' := []) rfl (n := 17) rfl (g := 0) rfl ?_
  unfold i_Matrix_at at h
  refine RunC.seq ?_
  refine RunC.regionW ?_
  refine ROps.d (r := AV.ptr [AV.i64 a0, AV.i64 a1, AV.sl a2.length (a2.map AV.f32)]) (fs := []) (Γ' := []) rfl rfl rfl (TOp.box_s rfl rfl rfl) rfl ?_
  refine ROps.l (r := AV.f32 (some 0)) rfl rfl rfl (LOp.le (LOp.assign rfl rfl) (ALe.fl (by kernel_rfl) (by kernel_rfl))) ?_
  refine ROps.nil ?_
  refine RunC.seq ?_
  obtain ⟨x1, hx1, h⟩ := olet_some h
  obtain ⟨x2, hx2, h⟩ := olet_some h
  obtain ⟨e3, he3, h⟩ := obind_some h
  refine RunC.regionW ?_
  refine ROps.l (r := AV.ptr [AV.sl a2.length (a2.map AV.f32)]) rfl rfl rfl (LOp.fap und27 rfl siz22 rfl rfl rfl) ?_
  refine ROps.l (r := AV.sl a2.length (a2.map AV.f32)) rfl rfl rfl (LOp.load1 agg22 rfl rfl) ?_
  refine ROps.l (r := AV.i64 a3) rfl rfl rfl (LOp.move rfl rfl) ?_
  refine ROps.l (r := AV.ptr [AV.i64 a1, AV.sl a2.length (a2.map AV.f32)]) rfl rfl rfl (LOp.fap und27 rfl siz2 rfl rfl rfl) ?_
  refine ROps.l (r := AV.i64 a1) rfl rfl rfl (LOp.load1 agg2 rfl rfl) ?_
  refine ROps.l (r := AV.i64 x1) rfl rfl rfl (LOp.eqr (LOp.mul rfl rfl rfl) (congrArg (AV.ik .i64) hx1)) ?_
  refine ROps.l (r := AV.i64 a4) rfl rfl rfl (LOp.move rfl rfl) ?_
  refine ROps.l (r := AV.i64 x2) rfl rfl rfl (LOp.eqr (LOp.add rfl rfl rfl) (congrArg (AV.ik .i64) hx2)) ?_
  refine ROps.l (r := AV.ptr [AV.f32 e3]) rfl rfl rfl (LOp.le (LOp.ix (f := AV.f32) und22 siz25 rfl rfl rfl rfl he3) ALe.ptr) ?_
  refine ROps.l (r := AV.f32 e3) rfl rfl rfl (LOp.load1 agg25 rfl rfl) ?_
  refine ROps.l (r := AV.f32 e3) rfl rfl rfl (LOp.assign rfl rfl) ?_
  refine ROps.nil ?_
  refine RunC.ret ?_
  have hq := Option.some.inj h
  subst q0
  exact bodyQ.pure (.inr rfl) rfl (Res.one rfl (RV.tmp rfl))
noncomputable def i_Matrix_column_b1 (a0 : Int) (a1 : Int) (a2 : List F) (a3 : Int) (L3 : List F) (v4 : Int) : Option (LR ((List F) × Int) ((List F)) ((List F))) :=
  bsel (decide (v4 < a0)) (
    obind (i_Matrix_at a0 a1 a2 v4 a3) fun (r5 : F) =>
    need (apok 4 L3.length 1) <|
    olet (IntKind.i64.wrap (v4 + 1)) fun (x6 : Int) =>
    some (LR.next ((L3 ++ ([r5] : List F)), x6))) (
    some (LR.out L3))
noncomputable def i_Matrix_column_s1 (a0 : Int) (a1 : Int) (a2 : List F) (a3 : Int) : ((List F) × Int) → Option (LR ((List F) × Int) ((List F)) ((List F))) := fun s => i_Matrix_column_b1 a0 a1 a2 a3 s.1 s.2
noncomputable def i_Matrix_column_k1 (L9 : List F) : Option ((List F)) :=
  some L9
noncomputable def i_Matrix_column (a0 : Int) (a1 : Int) (a2 : List F) (a3 : Int) : Option ((List F)) :=
  obind (loopM (i_Matrix_column_s1 a0 a1 a2 a3) (([] : List F), 0)) fun z => osum z (fun e => i_Matrix_column_k1 e) (fun r => some r)
theorem i_Matrix_column_ok (a0 : Int) (a1 : Int) (a2 : List F) (a3 : Int) (q0 : List F) (h : i_Matrix_column a0 a1 a2 a3 = some q0) : Ev Try.prog 53 [AV.agg [AV.i64 a0, AV.i64 a1, AV.sl a2.length (a2.map AV.f32)], AV.i64 a3] [] (AV.oref 0 0 0 q0.length) [⟨0, some (q0.map AV.f32)⟩] := by
  refine Ev.start Try.func53 rfl rfl 2 (τ := [(0, AV.agg [AV.i64 a0, AV.i64 a1, AV.sl a2.length (a2.map AV.f32)]), (1, AV.i64 a3)]) rfl (Γ' := [⟨0, none⟩, ⟨0, none⟩]) rfl (n := 22) rfl (g := 0) rfl ?_
  unfold i_Matrix_column at h
  refine RunC.seq ?_
  refine RunC.regionW ?_
  refine ROps.d (r := AV.ptr [AV.i64 a0, AV.i64 a1, AV.sl a2.length (a2.map AV.f32)]) (fs := []) (Γ' := [⟨0, none⟩, ⟨0, none⟩]) rfl rfl rfl (TOp.box_s rfl rfl rfl) rfl ?_
  refine ROps.l (r := AV.nilsl) rfl rfl rfl (LOp.assign rfl rfl) ?_
  refine ROps.nil ?_
  refine RunC.seq ?_
  refine RunC.regionW ?_
  refine ROps.d (r := AV.oref 0 1 0 0) (fs := [(0, (([] : List F).map AV.f32))]) (Γ' := [⟨1, some (([] : List F).map AV.f32)⟩, ⟨0, none⟩]) rfl rfl rfl (TOp.buildSlice_o (g := ⟨0, none⟩) (za := AV.f32 (some 0)) (qs := []) 0 rfl und22 siz25 zer25 rfl zel25 rfl rfl trivial rfl) rfl ?_
  refine ROps.l (r := AV.oref 0 1 0 0) rfl rfl rfl (LOp.assign rfl rfl) ?_
  refine ROps.nil ?_
  refine RunC.seq ?_
  refine RunC.seq ?_
  refine RunC.regionW ?_
  refine ROps.l (r := AV.ptr [AV.i64 a0, AV.i64 a1, AV.sl a2.length (a2.map AV.f32)]) rfl rfl rfl (LOp.fap und27 rfl siz2 rfl rfl rfl) ?_
  refine ROps.l (r := AV.i64 a0) rfl rfl rfl (LOp.load1 agg2 rfl rfl) ?_
  refine ROps.l (r := AV.i64 0) rfl rfl rfl (LOp.move rfl rfl) ?_
  refine ROps.nil ?_
  obtain ⟨z2, hz_2, h⟩ := obind_some h
  refine RunC.cutN (fun τ Γ => ∃ (L9 : List F) (u7 : Nat) (u8 : Nat), WeakLe τ [(5, AV.oref 0 u7 0 L9.length)] ∧ DeadLe Γ [⟨u7, some (L9.map AV.f32)⟩, ⟨u8, none⟩] ∧ z2 = .inl L9) ?_ ?_
  · refine RunC.block (RunC.loop (RunL.loopM (x := z2) (i_Matrix_column_s1 a0 a1 a2 a3) (fun (s : (List F) × Int) τ Γ => ∃ (u1 : Nat) (u2 : Nat), WeakLe τ [(1, AV.i64 a3), (2, AV.ptr [AV.i64 a0, AV.i64 a1, AV.sl a2.length (a2.map AV.f32)]), (5, AV.oref 0 u1 0 s.1.length), (9, AV.i64 a0), (10, AV.i64 s.2)] ∧ DeadLe Γ [⟨u1, some (s.1.map AV.f32)⟩, ⟨u2, none⟩]) ?_ _ _ _ hz_2 ⟨1, 0, ⟨(ALe.refl _), (ALe.refl _), (ALe.refl _), (ALe.refl _), (ALe.refl _), trivial⟩, ⟨⟨rfl, .inr rfl⟩, ⟨rfl, .inl rfl⟩, trivial⟩⟩))
    rintro ⟨L3, v4⟩ τ2 Γ2 y2_ ⟨u1, u2, hw2, hd2⟩ h2_ ho2 hr2
    refine RunC.wl (τ' := [(1, AV.i64 a3), (2, AV.ptr [AV.i64 a0, AV.i64 a1, AV.sl a2.length (a2.map AV.f32)]), (5, AV.oref 0 u1 0 L3.length), (9, AV.i64 a0), (10, AV.i64 v4)]) (Γ' := [⟨u1, some (L3.map AV.f32)⟩, ⟨u2, none⟩]) hw2 hd2 ?_
    replace h2_ : i_Matrix_column_b1 a0 a1 a2 a3 L3 v4 = some y2_ := h2_
    unfold i_Matrix_column_b1 at h2_
    refine RunC.seq ?_
    rcases bsel_some h2_ with ⟨hc1, h2_⟩ | ⟨hc1, h2_⟩
    · refine RunC.regionW ?_
      refine ROps.l (r := AV.b true) rfl rfl rfl (LOp.eqb (LOp.lss rfl rfl rfl) hc1) ?_
      refine ROps.nil ?_
      refine RunC.seq ?_
      refine RunC.cond_true rfl rfl ?_
      refine RunC.skip ?_
      refine RunC.seq ?_
      refine RunC.block ?_
      refine RunC.seq ?_
      refine RunC.regionW ?_
      refine ROps.l (r := AV.i64 v4) rfl rfl rfl (LOp.move rfl rfl) ?_
      refine ROps.l (r := AV.i64 v4) rfl rfl rfl (LOp.assign rfl rfl) ?_
      refine ROps.nil ?_
      obtain ⟨r5, hf2, h2_⟩ := obind_some h2_
      obtain ⟨hm3, h2_⟩ := need_some h2_
      refine RunC.regionW ?_
      refine ROps.l (r := AV.oref 0 u1 0 L3.length) rfl rfl rfl (LOp.move rfl rfl) ?_
      refine ROps.l (r := AV.agg [AV.i64 a0, AV.i64 a1, AV.sl a2.length (a2.map AV.f32)]) rfl rfl rfl (LOp.loadAgg agg27 siz27 rfl rfl rfl rfl) ?_
      refine ROps.l (r := AV.i64 v4) rfl rfl rfl (LOp.move rfl rfl) ?_
      refine ROps.l (r := AV.i64 a3) rfl rfl rfl (LOp.move rfl rfl) ?_
      refine ROps.d (r := AV.f32 r5) (fs := []) (Γ' := [⟨u1, some (L3.map AV.f32)⟩, ⟨u2, none⟩]) rfl rfl rfl (TOp.callB (CallAs.func ent51 rfl rfl) (Bors.cons (Bor.agg (Bors.cons (Bor.pure rfl) (Bors.cons (Bor.pure rfl) (Bors.cons (Bor.sl (fun _ => rfl)) Bors.nil)))) (Bors.cons (Bor.pure rfl) (Bors.cons (Bor.pure rfl) Bors.nil))) rfl rfl (i_Matrix_at_ok a0 a1 a2 v4 a3 r5 hf2)) rfl ?_
      refine ROps.d (r := AV.oref 1 (u2 + 1) 0 1) (fs := [(1, (([r5] : List F).map AV.f32))]) (Γ' := [⟨u1, some (L3.map AV.f32)⟩, ⟨(u2 + 1), some (([r5] : List F).map AV.f32)⟩]) rfl rfl rfl (TOp.buildSlice_o (g := ⟨u2, none⟩) (za := AV.f32 (some 0)) (qs := [(0, [AV.f32 r5])]) 1 rfl und22 siz25 zer25 rfl zel25 rfl rfl ⟨rfl, ⟨_, ALe.refl _, rfl⟩, trivial⟩ rfl) rfl ?_
      refine ROps.app (f := AV.f32) (xs := L3) (ys := ([r5] : List F)) (Γ' := [⟨(u1 + 1), some ((L3 ++ ([r5] : List F)).map AV.f32)⟩, ⟨(u2 + 1), some (([r5] : List F).map AV.f32)⟩]) rfl pun22 inf25 rfl rfl rfl rfl rfl rfl rfl rfl rfl (by simp) (ReadAs.own rfl (by simp)) (ones_map (fun _ => rfl)) (ap_by hm3) (ap_mx hm3) rfl ?_
      refine ROps.l (r := AV.oref 0 (u1 + 1) 0 (L3.length + 1)) rfl rfl rfl (LOp.assign rfl rfl) ?_
      refine ROps.nil ?_
      refine RunC.wl (τ' := [(1, AV.i64 a3), (2, AV.ptr [AV.i64 a0, AV.i64 a1, AV.sl a2.length (a2.map AV.f32)]), (5, AV.oref 0 (u1 + 1) 0 (L3.length + 1)), (9, AV.i64 a0), (10, AV.i64 v4)]) (Γ' := [⟨(u1 + 1), some ((L3 ++ ([r5] : List F)).map AV.f32)⟩, ⟨(u2 + 1), none⟩]) ⟨(ALe.refl _), (ALe.refl _), (ALe.refl _), (ALe.refl _), (ALe.refl _), trivial⟩ ⟨⟨rfl, .inr rfl⟩, ⟨rfl, .inl rfl⟩, trivial⟩ ?_
      obtain ⟨x6, hx4, h2_⟩ := olet_some h2_
      refine RunC.regionW ?_
      refine ROps.l (r := AV.i64 x6) rfl rfl rfl (LOp.eqr (LOp.add rfl rfl rfl) (congrArg (AV.ik .i64) hx4)) ?_
      refine ROps.l (r := AV.i64 x6) rfl rfl rfl (LOp.move rfl rfl) ?_
      refine ROps.nil ?_
      cases Option.some.inj h2_
      exact ⟨_, rfl, (u1 + 1), (u2 + 1), ⟨(ALe.refl _), (ALe.refl _), (ALe.eq (by rw [(app_len rfl rfl)] <;> rfl)), (ALe.refl _), (ALe.refl _), trivial⟩, ⟨⟨rfl, .inr rfl⟩, ⟨rfl, .inl rfl⟩, trivial⟩⟩
    · refine RunC.regionW ?_
      refine ROps.l (r := AV.b false) rfl rfl rfl (LOp.eqb (LOp.lss rfl rfl rfl) hc1) ?_
      refine ROps.nil ?_
      refine RunC.seq ?_
      refine RunC.cond_false rfl rfl ?_
      refine RunC.exit ?_
      cases Option.some.inj h2_
      have hx := ho2 _ rfl
      exact ⟨L3, u1, u2, ⟨(ALe.refl _), trivial⟩, ⟨⟨rfl, .inr rfl⟩, ⟨rfl, .inl rfl⟩, trivial⟩, hx⟩
  · rintro τ3 Γ3 ⟨L9, u7, u8, hw3, hd3, rfl⟩
    refine RunC.wl (τ' := [(5, AV.oref 0 u7 0 L9.length)]) (Γ' := [⟨u7, some (L9.map AV.f32)⟩, ⟨u8, none⟩]) hw3 hd3 ?_
    replace h : i_Matrix_column_k1 L9 = some q0 := h
    unfold i_Matrix_column_k1 at h
    refine RunC.seq ?_
    refine RunC.regionW ?_
    refine ROps.l (r := AV.oref 0 u7 0 L9.length) rfl rfl rfl (LOp.move rfl rfl) ?_
    refine ROps.l (r := AV.oref 0 u7 0 L9.length) rfl rfl rfl (LOp.assign rfl rfl) ?_
    refine ROps.nil ?_
    refine RunC.ret ?_
    have hq := Option.some.inj h
    subst q0
    exact bodyQ.mk (r' := AV.oref 0 u7 0 L9.length) [(0, u7)] (.inr rfl) rfl (show List.Nodup [0] from by decide) (by simp [AV.ren, AV.rens, sigma]) rfl (Res.one rfl (RV.tmp rfl)) (SelL.arr0 (f := AV.f32) (fun _ => rfl) rfl trivial)
noncomputable def i_mul (a0 : F) (a1 : F) : Option (F) :=
  olet (fop .mul .f32 a0 a1) fun (x1 : F) =>
  some x1
theorem i_mul_ok (a0 : F) (a1 : F) (q0 : F) (h : i_mul a0 a1 = some q0) : Ev Try.prog 54 [AV.f32 a0, AV.f32 a1] [] (AV.f32 q0) [] := by
  refine Ev.start Try.func54 rfl rfl 0 (τ := [(0, AV.f32 a0), (1, AV.f32 a1)]) rfl (Γ' := []) rfl (n := 8) rfl (g := 0) rfl ?_
  unfold i_mul at h
  refine RunC.seq ?_
  refine RunC.regionW ?_
  refine ROps.l (r := AV.f32 (some 0)) rfl rfl rfl (LOp.le (LOp.assign rfl rfl) (ALe.fl (by kernel_rfl) (by kernel_rfl))) ?_
  refine ROps.nil ?_
  refine RunC.seq ?_
  obtain ⟨x1, hx1, h⟩ := olet_some h
  refine RunC.regionW ?_
  refine ROps.l (r := AV.f32 a0) rfl rfl rfl (LOp.move rfl rfl) ?_
  refine ROps.l (r := AV.f32 a1) rfl rfl rfl (LOp.move rfl rfl) ?_
  refine ROps.d (r := AV.f32 x1) (fs := []) (Γ' := []) rfl rfl rfl (TOp.eqr (TOp.fop (.inr (.inr (.inl rfl))) rfl (OpF.tmp rfl) (OpF.tmp rfl)) (congrArg (AV.f .f32) hx1)) rfl ?_
  refine ROps.l (r := AV.f32 x1) rfl rfl rfl (LOp.assign rfl rfl) ?_
  refine ROps.nil ?_
  refine RunC.ret ?_
  have hq := Option.some.inj h
  subst q0
  exact bodyQ.pure (.inr rfl) rfl (Res.one rfl (RV.tmp rfl))
noncomputable def i_dot_b1 (a0 : List F) (a1 : List F) (y1 : F) (v2 : Int) : Option (LR (F × Int) (F) (F)) :=
  bsel (decide (v2 < (a0.length : Int))) (
    obind (at? a0 v2) fun (e3 : F) =>
    obind (at? a1 v2) fun (e4 : F) =>
    obind (i_mul e3 e4) fun (r5 : F) =>
    olet (fop .add .f32 y1 r5) fun (x6 : F) =>
    olet (IntKind.i64.wrap (v2 + 1)) fun (x7 : Int) =>
    some (LR.next (x6, x7))) (
    some (LR.out y1))
noncomputable def i_dot_s1 (a0 : List F) (a1 : List F) : (F × Int) → Option (LR (F × Int) (F) (F)) := fun s => i_dot_b1 a0 a1 s.1 s.2
noncomputable def i_dot_k1 (y8 : F) : Option (F) :=
  some y8
noncomputable def i_dot (a0 : List F) (a1 : List F) : Option (F) :=
  obind (loopM (i_dot_s1 a0 a1) (some 0, 0)) fun z => osum z (fun e => i_dot_k1 e) (fun r => some r)
theorem i_dot_ok (a0 : List F) (a1 : List F) (q0 : F) (h : i_dot a0 a1 = some q0) : Ev Try.prog 83 [AV.sl a0.length (a0.map AV.f32), AV.sl a1.length (a1.map AV.f32)] [] (AV.f32 q0) [] := by
  refine Ev.start Try.func83 rfl rfl 0 (τ := [(0, AV.sl a0.length (a0.map AV.f32)), (1, AV.sl a1.length (a1.map AV.f32))]) rfl (Γ' := []) rfl (n := 25) rfl (g := 0) rfl ?_
  unfold i_dot at h
  refine RunC.seq ?_
  refine RunC.regionW ?_
  refine ROps.l (r := AV.f32 (some 0)) rfl rfl rfl (LOp.le (LOp.assign rfl rfl) (ALe.fl (by kernel_rfl) (by kernel_rfl))) ?_
  refine ROps.nil ?_
  refine RunC.seq ?_
  refine RunC.regionW ?_
  refine ROps.l (r := AV.f32 (some 0)) rfl rfl rfl (LOp.le (LOp.assign rfl rfl) (ALe.fl (by kernel_rfl) (by kernel_rfl))) ?_
  refine ROps.nil ?_
  refine RunC.seq ?_
  refine RunC.seq ?_
  refine RunC.regionW ?_
  refine ROps.l (r := AV.sl a0.length (a0.map AV.f32)) rfl rfl rfl (LOp.move rfl rfl) ?_
  refine ROps.l (r := AV.i64 (a0.length : Int)) rfl rfl rfl (LOp.len_sl und22 rfl rfl) ?_
  refine ROps.l (r := AV.i64 0) rfl rfl rfl (LOp.move rfl rfl) ?_
  refine ROps.nil ?_
  obtain ⟨z2, hz_2, h⟩ := obind_some h
  refine RunC.cutN (fun τ Γ => ∃ (y8 : F), WeakLe τ [(5, AV.f32 y8)] ∧ DeadLe Γ [] ∧ z2 = .inl y8) ?_ ?_
  · refine RunC.block (RunC.loop (RunL.loopM (x := z2) (i_dot_s1 a0 a1) (fun (s : F × Int) τ Γ => WeakLe τ [(1, AV.sl a1.length (a1.map AV.f32)), (5, AV.f32 s.1), (8, AV.sl a0.length (a0.map AV.f32)), (9, AV.i64 (a0.length : Int)), (10, AV.i64 s.2)] ∧ DeadLe Γ []) ?_ _ _ _ hz_2 ⟨⟨(ALe.refl _), (ALe.refl _), (ALe.refl _), (ALe.refl _), (ALe.refl _), trivial⟩, trivial⟩))
    rintro ⟨y1, v2⟩ τ2 Γ2 y2_ ⟨hw2, hd2⟩ h2_ ho2 hr2
    refine RunC.wl (τ' := [(1, AV.sl a1.length (a1.map AV.f32)), (5, AV.f32 y1), (8, AV.sl a0.length (a0.map AV.f32)), (9, AV.i64 (a0.length : Int)), (10, AV.i64 v2)]) (Γ' := []) hw2 hd2 ?_
    replace h2_ : i_dot_b1 a0 a1 y1 v2 = some y2_ := h2_
    unfold i_dot_b1 at h2_
    refine RunC.seq ?_
    rcases bsel_some h2_ with ⟨hc1, h2_⟩ | ⟨hc1, h2_⟩
    · refine RunC.regionW ?_
      refine ROps.l (r := AV.b true) rfl rfl rfl (LOp.eqb (LOp.lss rfl rfl rfl) hc1) ?_
      refine ROps.nil ?_
      refine RunC.seq ?_
      refine RunC.cond_true rfl rfl ?_
      refine RunC.skip ?_
      refine RunC.seq ?_
      refine RunC.block ?_
      refine RunC.seq ?_
      obtain ⟨e3, he2, h2_⟩ := obind_some h2_
      refine RunC.regionW ?_
      refine ROps.l (r := AV.i64 v2) rfl rfl rfl (LOp.move rfl rfl) ?_
      refine ROps.l (r := AV.ptr [AV.f32 e3]) rfl rfl rfl (LOp.le (LOp.ix (f := AV.f32) und22 siz25 rfl rfl rfl rfl he2) ALe.ptr) ?_
      refine ROps.l (r := AV.f32 e3) rfl rfl rfl (LOp.load1 agg25 rfl rfl) ?_
      refine ROps.l (r := AV.i64 v2) rfl rfl rfl (LOp.assign rfl rfl) ?_
      refine ROps.l (r := AV.f32 e3) rfl rfl rfl (LOp.assign rfl rfl) ?_
      refine ROps.nil ?_
      obtain ⟨e4, he3, h2_⟩ := obind_some h2_
      obtain ⟨r5, hf4, h2_⟩ := obind_some h2_
      obtain ⟨x6, hx5, h2_⟩ := olet_some h2_
      refine RunC.regionW ?_
      refine ROps.l (r := AV.f32 y1) rfl rfl rfl (LOp.move rfl rfl) ?_
      refine ROps.l (r := AV.f32 e3) rfl rfl rfl (LOp.move rfl rfl) ?_
      refine ROps.l (r := AV.sl a1.length (a1.map AV.f32)) rfl rfl rfl (LOp.move rfl rfl) ?_
      refine ROps.l (r := AV.i64 v2) rfl rfl rfl (LOp.move rfl rfl) ?_
      refine ROps.l (r := AV.ptr [AV.f32 e4]) rfl rfl rfl (LOp.le (LOp.ix (f := AV.f32) und22 siz25 rfl rfl rfl rfl he3) ALe.ptr) ?_
      refine ROps.l (r := AV.f32 e4) rfl rfl rfl (LOp.load1 agg25 rfl rfl) ?_
      refine ROps.d (r := AV.f32 r5) (fs := []) (Γ' := []) rfl rfl rfl (TOp.callB (CallAs.func ent54 rfl rfl) (Bors.cons (Bor.pure rfl) (Bors.cons (Bor.pure rfl) Bors.nil)) rfl rfl (i_mul_ok e3 e4 r5 hf4)) rfl ?_
      refine ROps.d (r := AV.f32 x6) (fs := []) (Γ' := []) rfl rfl rfl (TOp.eqr (TOp.fop (.inl rfl) rfl (OpF.tmp rfl) (OpF.tmp rfl)) (congrArg (AV.f .f32) hx5)) rfl ?_
      refine ROps.l (r := AV.f32 x6) rfl rfl rfl (LOp.assign rfl rfl) ?_
      refine ROps.nil ?_
      refine RunC.wl (τ' := [(1, AV.sl a1.length (a1.map AV.f32)), (5, AV.f32 x6), (8, AV.sl a0.length (a0.map AV.f32)), (9, AV.i64 (a0.length : Int)), (10, AV.i64 v2)]) (Γ' := []) ⟨(ALe.refl _), (ALe.refl _), (ALe.refl _), (ALe.refl _), (ALe.refl _), trivial⟩ trivial ?_
      obtain ⟨x7, hx6, h2_⟩ := olet_some h2_
      refine RunC.regionW ?_
      refine ROps.l (r := AV.i64 x7) rfl rfl rfl (LOp.eqr (LOp.add rfl rfl rfl) (congrArg (AV.ik .i64) hx6)) ?_
      refine ROps.l (r := AV.i64 x7) rfl rfl rfl (LOp.move rfl rfl) ?_
      refine ROps.nil ?_
      cases Option.some.inj h2_
      exact ⟨_, rfl, ⟨(ALe.refl _), (ALe.refl _), (ALe.refl _), (ALe.refl _), (ALe.refl _), trivial⟩, trivial⟩
    · refine RunC.regionW ?_
      refine ROps.l (r := AV.b false) rfl rfl rfl (LOp.eqb (LOp.lss rfl rfl rfl) hc1) ?_
      refine ROps.nil ?_
      refine RunC.seq ?_
      refine RunC.cond_false rfl rfl ?_
      refine RunC.exit ?_
      cases Option.some.inj h2_
      have hx := ho2 _ rfl
      exact ⟨y1, ⟨(ALe.refl _), trivial⟩, trivial, hx⟩
  · rintro τ3 Γ3 ⟨y8, hw3, hd3, rfl⟩
    refine RunC.wl (τ' := [(5, AV.f32 y8)]) (Γ' := []) hw3 hd3 ?_
    replace h : i_dot_k1 y8 = some q0 := h
    unfold i_dot_k1 at h
    refine RunC.seq ?_
    refine RunC.regionW ?_
    refine ROps.l (r := AV.f32 y8) rfl rfl rfl (LOp.move rfl rfl) ?_
    refine ROps.l (r := AV.f32 y8) rfl rfl rfl (LOp.assign rfl rfl) ?_
    refine ROps.nil ?_
    refine RunC.ret ?_
    have hq := Option.some.inj h
    subst q0
    exact bodyQ.pure (.inr rfl) rfl (Res.one rfl (RV.tmp rfl))
noncomputable def i_absolute (a0 : F) : Option (F) :=
  olet (fwiden a0) fun (x1 : F) =>
  obind (x_math_Abs x1) fun (r2 : F) =>
  obind (fnarrow r2) fun (y3 : F) =>
  some y3
theorem i_absolute_ok (a0 : F) (q0 : F) (h : i_absolute a0 = some q0) : Ev Try.prog 50 [AV.f32 a0] [] (AV.f32 q0) [] := by
  refine Ev.start Try.func50 rfl rfl 0 (τ := [(0, AV.f32 a0)]) rfl (Γ' := []) rfl (n := 7) rfl (g := 0) rfl ?_
  unfold i_absolute at h
  refine RunC.seq ?_
  refine RunC.regionW ?_
  refine ROps.l (r := AV.f32 (some 0)) rfl rfl rfl (LOp.le (LOp.assign rfl rfl) (ALe.fl (by kernel_rfl) (by kernel_rfl))) ?_
  refine ROps.nil ?_
  refine RunC.seq ?_
  obtain ⟨x1, hx1, h⟩ := olet_some h
  obtain ⟨r2, hf2, h⟩ := obind_some h
  obtain ⟨y3, hy3, h⟩ := obind_some h
  refine RunC.regionW ?_
  refine ROps.l (r := AV.f32 a0) rfl rfl rfl (LOp.move rfl rfl) ?_
  refine ROps.d (r := AV.f64 x1) (fs := []) (Γ' := []) rfl rfl rfl (TOp.eqr (TOp.widen (src := 25) (dst := 40) ⟨_, pun25⟩ pun40 rfl (OpF.tmp rfl)) (congrArg (AV.f .f64) hx1)) rfl ?_
  refine ROps.d (r := AV.f64 r2) (fs := []) (Γ' := []) rfl rfl rfl (TOp.callB (CallAs.func ent93 rfl rfl) (Bors.cons (Bor.pure rfl) Bors.nil) rfl rfl (x_math_Abs_ok x1 r2 hf2)) rfl ?_
  refine ROps.d (r := AV.f32 y3) (fs := []) (Γ' := []) rfl rfl rfl (TOp.narrow (src := 40) (dst := 25) ⟨_, pun40⟩ pun25 rfl (OpF.tmp rfl) hy3) rfl ?_
  refine ROps.l (r := AV.f32 y3) rfl rfl rfl (LOp.assign rfl rfl) ?_
  refine ROps.nil ?_
  refine RunC.ret ?_
  have hq := Option.some.inj h
  subst q0
  exact bodyQ.pure (.inr rfl) rfl (Res.one rfl (RV.tmp rfl))
noncomputable def i_RootNumber (a0 : F) : Option (F) :=
  olet (fwiden a0) fun (x1 : F) =>
  obind (x_math_Sqrt x1) fun (r2 : F) =>
  obind (fnarrow r2) fun (y3 : F) =>
  some y3
theorem i_RootNumber_ok (a0 : F) (q0 : F) (h : i_RootNumber a0 = some q0) : Ev Try.prog 96 [AV.f32 a0] [] (AV.f32 q0) [] := by
  refine Ev.start Try.func96 rfl rfl 0 (τ := [(0, AV.f32 a0)]) rfl (Γ' := []) rfl (n := 7) rfl (g := 0) rfl ?_
  unfold i_RootNumber at h
  refine RunC.seq ?_
  refine RunC.regionW ?_
  refine ROps.l (r := AV.f32 (some 0)) rfl rfl rfl (LOp.le (LOp.assign rfl rfl) (ALe.fl (by kernel_rfl) (by kernel_rfl))) ?_
  refine ROps.nil ?_
  refine RunC.seq ?_
  obtain ⟨x1, hx1, h⟩ := olet_some h
  obtain ⟨r2, hf2, h⟩ := obind_some h
  obtain ⟨y3, hy3, h⟩ := obind_some h
  refine RunC.regionW ?_
  refine ROps.l (r := AV.f32 a0) rfl rfl rfl (LOp.move rfl rfl) ?_
  refine ROps.d (r := AV.f64 x1) (fs := []) (Γ' := []) rfl rfl rfl (TOp.eqr (TOp.widen (src := 25) (dst := 40) ⟨_, pun25⟩ pun40 rfl (OpF.tmp rfl)) (congrArg (AV.f .f64) hx1)) rfl ?_
  refine ROps.d (r := AV.f64 r2) (fs := []) (Γ' := []) rfl rfl rfl (TOp.callB (CallAs.func ent119 rfl rfl) (Bors.cons (Bor.pure rfl) Bors.nil) rfl rfl (x_math_Sqrt_ok x1 r2 hf2)) rfl ?_
  refine ROps.d (r := AV.f32 y3) (fs := []) (Γ' := []) rfl rfl rfl (TOp.narrow (src := 40) (dst := 25) ⟨_, pun40⟩ pun25 rfl (OpF.tmp rfl) hy3) rfl ?_
  refine ROps.l (r := AV.f32 y3) rfl rfl rfl (LOp.assign rfl rfl) ?_
  refine ROps.nil ?_
  refine RunC.ret ?_
  have hq := Option.some.inj h
  subst q0
  exact bodyQ.pure (.inr rfl) rfl (Res.one rfl (RV.tmp rfl))
noncomputable def i_turnFor_k1 (y8 : F) : Option (F × F) :=
  obind (i_mul y8 y8) fun (r9 : F) =>
  olet (fop .add .f32 r9 (some 1065353216)) fun (x10 : F) =>
  obind (i_RootNumber x10) fun (r11 : F) =>
  olet (fop .quo .f32 (some 1065353216) r11) fun (x12 : F) =>
  obind (i_mul y8 x12) fun (r13 : F) =>
  some (x12, r13)
noncomputable def i_turnFor (a0 : F) : Option (F × F) :=
  obind (i_absolute a0) fun (r1 : F) =>
  obind (i_mul a0 a0) fun (r2 : F) =>
  olet (fop .add .f32 r2 (some 1065353216)) fun (x3 : F) =>
  obind (i_RootNumber x3) fun (r4 : F) =>
  olet (fop .add .f32 r1 r4) fun (x5 : F) =>
  olet (fop .quo .f32 (some 1065353216) x5) fun (x6 : F) =>
  bsel (flt .f32 a0 (some 0)) (
    olet (fneg .f32 x6) fun (x7 : F) =>
    i_turnFor_k1 x7) (
    i_turnFor_k1 x6)
theorem i_turnFor_ok (a0 : F) (q0 : F) (q1 : F) (h : i_turnFor a0 = some (q0, q1)) : Ev Try.prog 85 [AV.f32 a0] [] (AV.tup [AV.f32 q0, AV.f32 q1]) [] := by
  refine Ev.start Try.func85 rfl rfl 0 (τ := [(0, AV.f32 a0)]) rfl (Γ' := []) rfl (n := 29) rfl (g := 0) rfl ?_
  unfold i_turnFor at h
  refine RunC.seq ?_
  refine RunC.regionW ?_
  refine ROps.l (r := AV.f32 (some 0)) rfl rfl rfl (LOp.le (LOp.assign rfl rfl) (ALe.fl (by kernel_rfl) (by kernel_rfl))) ?_
  refine ROps.l (r := AV.f32 (some 0)) rfl rfl rfl (LOp.le (LOp.assign rfl rfl) (ALe.fl (by kernel_rfl) (by kernel_rfl))) ?_
  refine ROps.nil ?_
  refine RunC.seq ?_
  obtain ⟨r1, hf1, h⟩ := obind_some h
  obtain ⟨r2, hf2, h⟩ := obind_some h
  obtain ⟨x3, hx3, h⟩ := olet_some h
  obtain ⟨r4, hf4, h⟩ := obind_some h
  obtain ⟨x5, hx5, h⟩ := olet_some h
  obtain ⟨x6, hx6, h⟩ := olet_some h
  refine RunC.regionW ?_
  refine ROps.l (r := AV.f32 a0) rfl rfl rfl (LOp.move rfl rfl) ?_
  refine ROps.d (r := AV.f32 r1) (fs := []) (Γ' := []) rfl rfl rfl (TOp.callB (CallAs.func ent50 rfl rfl) (Bors.cons (Bor.pure rfl) Bors.nil) rfl rfl (i_absolute_ok a0 r1 hf1)) rfl ?_
  refine ROps.l (r := AV.f32 a0) rfl rfl rfl (LOp.move rfl rfl) ?_
  refine ROps.l (r := AV.f32 a0) rfl rfl rfl (LOp.move rfl rfl) ?_
  refine ROps.d (r := AV.f32 r2) (fs := []) (Γ' := []) rfl rfl rfl (TOp.callB (CallAs.func ent54 rfl rfl) (Bors.cons (Bor.pure rfl) (Bors.cons (Bor.pure rfl) Bors.nil)) rfl rfl (i_mul_ok a0 a0 r2 hf2)) rfl ?_
  refine ROps.d (r := AV.f32 x3) (fs := []) (Γ' := []) rfl rfl rfl (TOp.eqr (TOp.fop (.inl rfl) rfl (OpF.tmp rfl) (OpF.const rfl (by kernel_rfl) (by kernel_rfl))) (congrArg (AV.f .f32) hx3)) rfl ?_
  refine ROps.d (r := AV.f32 r4) (fs := []) (Γ' := []) rfl rfl rfl (TOp.callB (CallAs.func ent96 rfl rfl) (Bors.cons (Bor.pure rfl) Bors.nil) rfl rfl (i_RootNumber_ok x3 r4 hf4)) rfl ?_
  refine ROps.d (r := AV.f32 x5) (fs := []) (Γ' := []) rfl rfl rfl (TOp.eqr (TOp.fop (.inl rfl) rfl (OpF.tmp rfl) (OpF.tmp rfl)) (congrArg (AV.f .f32) hx5)) rfl ?_
  refine ROps.d (r := AV.f32 x6) (fs := []) (Γ' := []) rfl rfl rfl (TOp.eqr (TOp.fop (.inr (.inr (.inr rfl))) rfl (OpF.const rfl (by kernel_rfl) (by kernel_rfl)) (OpF.tmp rfl)) (congrArg (AV.f .f32) hx6)) rfl ?_
  refine ROps.l (r := AV.f32 x6) rfl rfl rfl (LOp.assign rfl rfl) ?_
  refine ROps.nil ?_
  refine RunC.seq ?_
  refine RunC.cutN (fun τ Γ => ∃ (y8 : F), WeakLe τ [(4, AV.f32 y8)] ∧ DeadLe Γ [] ∧ i_turnFor_k1 y8 = some (q0, q1)) ?_ ?_
  · refine RunC.seq ?_
    rcases bsel_some h with ⟨hc7, h⟩ | ⟨hc7, h⟩
    · refine RunC.regionW ?_
      refine ROps.l (r := AV.f32 a0) rfl rfl rfl (LOp.move rfl rfl) ?_
      refine ROps.l (r := AV.b true) rfl rfl rfl (LOp.eqb (LOp.flt rfl (OpF.tmp rfl) (OpF.const rfl (by kernel_rfl) (by kernel_rfl))) hc7) ?_
      refine ROps.nil ?_
      refine RunC.wl (τ' := [(4, AV.f32 x6), (16, AV.b true)]) (Γ' := []) ⟨(ALe.refl _), (ALe.refl _), trivial⟩ trivial ?_
      refine RunC.cond_true rfl rfl ?_
      obtain ⟨x7, hx8, h⟩ := olet_some h
      refine RunC.regionW ?_
      refine ROps.l (r := AV.f32 x6) rfl rfl rfl (LOp.move rfl rfl) ?_
      refine ROps.l (r := AV.f32 x7) rfl rfl rfl (LOp.eqr (LOp.fneg rfl (OpF.tmp rfl)) (congrArg (AV.f .f32) hx8)) ?_
      refine ROps.l (r := AV.f32 x7) rfl rfl rfl (LOp.assign rfl rfl) ?_
      refine ROps.nil ?_
      exact ⟨x7, ⟨(ALe.refl _), trivial⟩, trivial, h⟩
    · refine RunC.regionW ?_
      refine ROps.l (r := AV.f32 a0) rfl rfl rfl (LOp.move rfl rfl) ?_
      refine ROps.l (r := AV.b false) rfl rfl rfl (LOp.eqb (LOp.flt rfl (OpF.tmp rfl) (OpF.const rfl (by kernel_rfl) (by kernel_rfl))) hc7) ?_
      refine ROps.nil ?_
      refine RunC.wl (τ' := [(4, AV.f32 x6), (16, AV.b false)]) (Γ' := []) ⟨(ALe.refl _), (ALe.refl _), trivial⟩ trivial ?_
      refine RunC.cond_false rfl rfl ?_
      refine RunC.skip ?_
      exact ⟨x6, ⟨(ALe.refl _), trivial⟩, trivial, h⟩
  · rintro τ2 Γ2 ⟨y8, hw2, hd2, h⟩
    refine RunC.wl (τ' := [(4, AV.f32 y8)]) (Γ' := []) hw2 hd2 ?_
    unfold i_turnFor_k1 at h
    refine RunC.seq ?_
    obtain ⟨r9, hf9, h⟩ := obind_some h
    obtain ⟨x10, hx10, h⟩ := olet_some h
    obtain ⟨r11, hf11, h⟩ := obind_some h
    obtain ⟨x12, hx12, h⟩ := olet_some h
    refine RunC.regionW ?_
    refine ROps.l (r := AV.f32 y8) rfl rfl rfl (LOp.move rfl rfl) ?_
    refine ROps.l (r := AV.f32 y8) rfl rfl rfl (LOp.move rfl rfl) ?_
    refine ROps.d (r := AV.f32 r9) (fs := []) (Γ' := []) rfl rfl rfl (TOp.callB (CallAs.func ent54 rfl rfl) (Bors.cons (Bor.pure rfl) (Bors.cons (Bor.pure rfl) Bors.nil)) rfl rfl (i_mul_ok y8 y8 r9 hf9)) rfl ?_
    refine ROps.d (r := AV.f32 x10) (fs := []) (Γ' := []) rfl rfl rfl (TOp.eqr (TOp.fop (.inl rfl) rfl (OpF.tmp rfl) (OpF.const rfl (by kernel_rfl) (by kernel_rfl))) (congrArg (AV.f .f32) hx10)) rfl ?_
    refine ROps.d (r := AV.f32 r11) (fs := []) (Γ' := []) rfl rfl rfl (TOp.callB (CallAs.func ent96 rfl rfl) (Bors.cons (Bor.pure rfl) Bors.nil) rfl rfl (i_RootNumber_ok x10 r11 hf11)) rfl ?_
    refine ROps.d (r := AV.f32 x12) (fs := []) (Γ' := []) rfl rfl rfl (TOp.eqr (TOp.fop (.inr (.inr (.inr rfl))) rfl (OpF.const rfl (by kernel_rfl) (by kernel_rfl)) (OpF.tmp rfl)) (congrArg (AV.f .f32) hx12)) rfl ?_
    refine ROps.l (r := AV.f32 x12) rfl rfl rfl (LOp.assign rfl rfl) ?_
    refine ROps.nil ?_
    refine RunC.seq ?_
    obtain ⟨r13, hf13, h⟩ := obind_some h
    refine RunC.regionW ?_
    refine ROps.l (r := AV.f32 x12) rfl rfl rfl (LOp.move rfl rfl) ?_
    refine ROps.l (r := AV.f32 y8) rfl rfl rfl (LOp.move rfl rfl) ?_
    refine ROps.l (r := AV.f32 x12) rfl rfl rfl (LOp.move rfl rfl) ?_
    refine ROps.d (r := AV.f32 r13) (fs := []) (Γ' := []) rfl rfl rfl (TOp.callB (CallAs.func ent54 rfl rfl) (Bors.cons (Bor.pure rfl) (Bors.cons (Bor.pure rfl) Bors.nil)) rfl rfl (i_mul_ok y8 x12 r13 hf13)) rfl ?_
    refine ROps.l (r := AV.f32 x12) rfl rfl rfl (LOp.assign rfl rfl) ?_
    refine ROps.l (r := AV.f32 r13) rfl rfl rfl (LOp.assign rfl rfl) ?_
    refine ROps.nil ?_
    refine RunC.ret ?_
    have hq := Option.some.inj h
    obtain ⟨hq0, hq⟩ := Prod.mk.inj hq
    subst q0
    subst q1
    exact bodyQ.pure (.inr rfl) rfl (Res.two rfl (RV.tmp rfl) (RV.tmp rfl))
noncomputable def i_Matrix_turnColumns_02o_b1 (a0 : Int) (a1 : Int) (a2 : Int) (a3 : Int) (a4 : F) (a5 : F) (a6 : List F) (L1 : List F) (v3 : Int) : Option (LR ((List F) × Int) ((List F)) ((List F))) :=
  bsel (decide (v3 < a0)) (
    obind (i_Matrix_at a0 a1 L1 v3 a2) fun (r4 : F) =>
    obind (i_Matrix_at a0 a1 L1 v3 a3) fun (r5 : F) =>
    obind (i_mul a4 r4) fun (r9 : F) =>
    obind (i_mul a5 r5) fun (r10 : F) =>
    olet (fop .sub .f32 r9 r10) fun (x11 : F) =>
    obind (i_Matrix_set_02o a0 a1 v3 a2 x11 L1) fun (r12 : List F) =>
    need (decide (r12.length = a6.length)) <|
    obind (i_mul a5 r4) fun (r16 : F) =>
    obind (i_mul a4 r5) fun (r17 : F) =>
    olet (fop .add .f32 r16 r17) fun (x18 : F) =>
    obind (i_Matrix_set_02o a0 a1 v3 a3 x18 r12) fun (r19 : List F) =>
    need (decide (r19.length = a6.length)) <|
    olet (IntKind.i64.wrap (v3 + 1)) fun (x20 : Int) =>
    some (LR.next (r19, x20))) (
    some (LR.out L1))
noncomputable def i_Matrix_turnColumns_02o_s1 (a0 : Int) (a1 : Int) (a2 : Int) (a3 : Int) (a4 : F) (a5 : F) (a6 : List F) : ((List F) × Int) → Option (LR ((List F) × Int) ((List F)) ((List F))) := fun s => i_Matrix_turnColumns_02o_b1 a0 a1 a2 a3 a4 a5 a6 s.1 s.2
noncomputable def i_Matrix_turnColumns_02o_k1 (L21 : List F) : Option ((List F)) :=
  some L21
noncomputable def i_Matrix_turnColumns_02o (a0 : Int) (a1 : Int) (a2 : Int) (a3 : Int) (a4 : F) (a5 : F) (a6 : List F) : Option ((List F)) :=
  obind (loopM (i_Matrix_turnColumns_02o_s1 a0 a1 a2 a3 a4 a5 a6) (a6, 0)) fun z => osum z (fun e => i_Matrix_turnColumns_02o_k1 e) (fun r => some r)
theorem i_Matrix_turnColumns_02o_ok (a0 : Int) (a1 : Int) (a2 : Int) (a3 : Int) (a4 : F) (a5 : F) (a6 : List F) (q0 : List F) (h : i_Matrix_turnColumns_02o a0 a1 a2 a3 a4 a5 a6 = some q0) : Ev Try.prog 86 [AV.agg [AV.i64 a0, AV.i64 a1, AV.oref 0 0 0 a6.length], AV.i64 a2, AV.i64 a3, AV.f32 a4, AV.f32 a5] [⟨0, some (a6.map AV.f32)⟩] (AV.tup []) [⟨0, some (q0.map AV.f32)⟩] := by
  refine Ev.start Try.func86 rfl rfl 0 (τ := [(0, AV.agg [AV.i64 a0, AV.i64 a1, AV.oref 0 0 0 a6.length]), (1, AV.i64 a2), (2, AV.i64 a3), (3, AV.f32 a4), (4, AV.f32 a5)]) rfl (Γ' := [⟨0, some (a6.map AV.f32)⟩]) rfl (n := 49) rfl (g := 1) rfl ?_
  unfold i_Matrix_turnColumns_02o at h
  refine RunC.seq ?_
  refine RunC.regionW ?_
  refine ROps.d (r := AV.ptr [AV.i64 a0, AV.i64 a1, AV.oref 0 0 0 a6.length]) (fs := []) (Γ' := [⟨0, some (a6.map AV.f32)⟩]) rfl rfl rfl (TOp.box_s rfl rfl rfl) rfl ?_
  refine ROps.nil ?_
  refine RunC.seq ?_
  refine RunC.regionW ?_
  refine ROps.l (r := AV.ptr [AV.i64 a0, AV.i64 a1, AV.oref 0 0 0 a6.length]) rfl rfl rfl (LOp.fap und27 rfl siz2 rfl rfl rfl) ?_
  refine ROps.l (r := AV.i64 a0) rfl rfl rfl (LOp.load1 agg2 rfl rfl) ?_
  refine ROps.l (r := AV.i64 0) rfl rfl rfl (LOp.move rfl rfl) ?_
  refine ROps.nil ?_
  obtain ⟨z2, hz_2, h⟩ := obind_some h
  refine RunC.cutN (fun τ Γ => ∃ (L21 : List F), L21.length = a6.length ∧ WeakLe τ [] ∧ DeadLe Γ [⟨0, some (L21.map AV.f32)⟩] ∧ z2 = .inl L21) ?_ ?_
  · refine RunC.block (RunC.loop (RunL.loopM (x := z2) (i_Matrix_turnColumns_02o_s1 a0 a1 a2 a3 a4 a5 a6) (fun (s : (List F) × Int) τ Γ => s.1.length = a6.length ∧ WeakLe τ [(1, AV.i64 a2), (2, AV.i64 a3), (3, AV.f32 a4), (4, AV.f32 a5), (5, AV.ptr [AV.i64 a0, AV.i64 a1, AV.oref 0 0 0 a6.length]), (14, AV.i64 a0), (15, AV.i64 s.2)] ∧ DeadLe Γ [⟨0, some (s.1.map AV.f32)⟩]) ?_ _ _ _ hz_2 ⟨rfl, ⟨(ALe.refl _), (ALe.refl _), (ALe.refl _), (ALe.refl _), (ALe.refl _), (ALe.refl _), (ALe.refl _), trivial⟩, ⟨⟨rfl, .inr rfl⟩, trivial⟩⟩))
    rintro ⟨L1, v3⟩ τ2 Γ2 y2_ ⟨hl2, hw2, hd2⟩ h2_ ho2 hr2
    refine RunC.wl (τ' := [(1, AV.i64 a2), (2, AV.i64 a3), (3, AV.f32 a4), (4, AV.f32 a5), (5, AV.ptr [AV.i64 a0, AV.i64 a1, AV.oref 0 0 0 a6.length]), (14, AV.i64 a0), (15, AV.i64 v3)]) (Γ' := [⟨0, some (L1.map AV.f32)⟩]) hw2 hd2 ?_
    replace hl2 : L1.length = a6.length := hl2
    replace h2_ : i_Matrix_turnColumns_02o_b1 a0 a1 a2 a3 a4 a5 a6 L1 v3 = some y2_ := h2_
    unfold i_Matrix_turnColumns_02o_b1 at h2_
    refine RunC.seq ?_
    rcases bsel_some h2_ with ⟨hc1, h2_⟩ | ⟨hc1, h2_⟩
    · refine RunC.regionW ?_
      refine ROps.l (r := AV.b true) rfl rfl rfl (LOp.eqb (LOp.lss rfl rfl rfl) hc1) ?_
      refine ROps.nil ?_
      refine RunC.seq ?_
      refine RunC.cond_true rfl rfl ?_
      refine RunC.skip ?_
      refine RunC.seq ?_
      refine RunC.block ?_
      refine RunC.seq ?_
      refine RunC.regionW ?_
      refine ROps.l (r := AV.i64 v3) rfl rfl rfl (LOp.move rfl rfl) ?_
      refine ROps.l (r := AV.i64 v3) rfl rfl rfl (LOp.assign rfl rfl) ?_
      refine ROps.nil ?_
      refine RunC.seq ?_
      obtain ⟨r4, hf2, h2_⟩ := obind_some h2_
      obtain ⟨r5, hf3, h2_⟩ := obind_some h2_
      refine RunC.region_draw (Γ' := [⟨0, some (L1.map AV.f32)⟩]) 10 mixed 
        (TR.l (r := AV.agg [AV.i64 a0, AV.i64 a1, AV.oref 0 0 0 a6.length]) rfl rfl (LOp.loadAgg agg27 siz27 rfl rfl rfl rfl) <|
        (TR.l (r := AV.i64 v3) rfl rfl (LOp.move rfl rfl) <|
        (TR.l (r := AV.i64 a2) rfl rfl (LOp.move rfl rfl) <|
        (TR.d (r := AV.f32 r4) (fs := []) rfl rfl (TOp.callB (CallAs.func ent51 rfl rfl) (Bors.cons (Bor.agg (Bors.cons (Bor.pure rfl) (Bors.cons (Bor.pure rfl) (Bors.cons (Bor.own (f := AV.f32) (fun _ => rfl) rfl hl2) Bors.nil)))) (Bors.cons (Bor.pure rfl) (Bors.cons (Bor.pure rfl) Bors.nil))) rfl rfl (i_Matrix_at_ok a0 a1 L1 v3 a2 r4 hf2)) <|
        (TR.l (r := AV.agg [AV.i64 a0, AV.i64 a1, AV.oref 0 0 0 a6.length]) rfl rfl (LOp.loadAgg agg27 siz27 rfl rfl rfl rfl) <|
        (TR.l (r := AV.i64 v3) rfl rfl (LOp.move rfl rfl) <|
        (TR.l (r := AV.i64 a3) rfl rfl (LOp.move rfl rfl) <|
        (TR.d (r := AV.f32 r5) (fs := []) rfl rfl (TOp.callB (CallAs.func ent51 rfl rfl) (Bors.cons (Bor.agg (Bors.cons (Bor.pure rfl) (Bors.cons (Bor.pure rfl) (Bors.cons (Bor.own (f := AV.f32) (fun _ => rfl) rfl hl2) Bors.nil)))) (Bors.cons (Bor.pure rfl) (Bors.cons (Bor.pure rfl) Bors.nil))) rfl rfl (i_Matrix_at_ok a0 a1 L1 v3 a3 r5 hf3)) <|
        (TR.l (r := AV.f32 r4) rfl rfl (LOp.assign rfl rfl) <|
        (TR.l (r := AV.f32 r5) rfl rfl (LOp.assign rfl rfl) <|
        TR.nil)))))))))) rfl (by kernel_rfl) rfl fills_nil rfl ?_
      iterate 10 refine ROps.dropS ?_
      refine ROps.drop0 ?_
      refine ROps.nil ?_
      refine RunC.seq ?_
      obtain ⟨r9, hf7, h2_⟩ := obind_some h2_
      obtain ⟨r10, hf8, h2_⟩ := obind_some h2_
      obtain ⟨x11, hx9, h2_⟩ := olet_some h2_
      obtain ⟨r12, hf10, h2_⟩ := obind_some h2_
      obtain ⟨hn11, h2_⟩ := need_some h2_
      refine RunC.region_draw (Γ' := [⟨0, some (L1.map AV.f32)⟩]) 10 mixed 
        (TR.l (r := AV.agg [AV.i64 a0, AV.i64 a1, AV.oref 0 0 0 a6.length]) rfl rfl (LOp.loadAgg agg27 siz27 rfl rfl rfl rfl) <|
        (TR.l (r := AV.i64 v3) rfl rfl (LOp.move rfl rfl) <|
        (TR.l (r := AV.i64 a2) rfl rfl (LOp.move rfl rfl) <|
        (TR.l (r := AV.f32 a4) rfl rfl (LOp.move rfl rfl) <|
        (TR.l (r := AV.f32 r4) rfl rfl (LOp.move rfl rfl) <|
        (TR.d (r := AV.f32 r9) (fs := []) rfl rfl (TOp.callB (CallAs.func ent54 rfl rfl) (Bors.cons (Bor.pure rfl) (Bors.cons (Bor.pure rfl) Bors.nil)) rfl rfl (i_mul_ok a4 r4 r9 hf7)) <|
        (TR.l (r := AV.f32 a5) rfl rfl (LOp.move rfl rfl) <|
        (TR.l (r := AV.f32 r5) rfl rfl (LOp.move rfl rfl) <|
        (TR.d (r := AV.f32 r10) (fs := []) rfl rfl (TOp.callB (CallAs.func ent54 rfl rfl) (Bors.cons (Bor.pure rfl) (Bors.cons (Bor.pure rfl) Bors.nil)) rfl rfl (i_mul_ok a5 r5 r10 hf8)) <|
        (TR.d (r := AV.f32 x11) (fs := []) rfl rfl (TOp.eqr (TOp.fop (.inr (.inl rfl)) rfl (OpF.tmp rfl) (OpF.tmp rfl)) (congrArg (AV.f .f32) hx9)) <|
        TR.nil)))))))))) rfl (by kernel_rfl) rfl fills_nil rfl ?_
      iterate 10 refine ROps.dropS ?_
      refine ROps.drop0 ?_
      refine ROps.callO (A := [AV.agg [AV.i64 a0, AV.i64 a1, AV.oref 0 0 0 a6.length], AV.i64 v3, AV.i64 a2, AV.f32 x11]) (args := [AV.agg [AV.i64 a0, AV.i64 a1, AV.oref 0 0 0 L1.length], AV.i64 v3, AV.i64 a2, AV.f32 x11]) (Γc := [⟨0, some (L1.map AV.f32)⟩]) (Γc' := [⟨0, some (r12.map AV.f32)⟩]) (r' := AV.tup []) (Γ' := [⟨0, some (r12.map AV.f32)⟩]) [(0, 0)] [] rfl (CallAs.func ent60 rfl rfl) rfl rfl (SelOk.of (show List.Nodup [0] from by decide) (SelL.arr0 (f := AV.f32) (fun _ => rfl) rfl trivial)) (live_of ⟨⟨_, _, rfl⟩, trivial⟩) (by simp [AV.ren, AV.rens, sigma, rens_f32, rens_f64, rens_i64, rens_ik, rens_str, rens_cp, hl2]) rfl (i_Matrix_set_02o_ok a0 a1 v3 a2 x11 L1 r12 hf10) rfl (news_of trivial) (show List.Nodup [0] from by decide) (by simp [AV.ren, AV.rens, sigma, of_decide_eq_true hn11]) (by simp [backOb, sigma, AV.ren, AV.rens, rens_f32, rens_f64, rens_i64, rens_ik, rens_str, rens_cp]) ?_
      refine ROps.nil ?_
      refine RunC.wl (τ' := [(1, AV.i64 a2), (2, AV.i64 a3), (3, AV.f32 a4), (4, AV.f32 a5), (5, AV.ptr [AV.i64 a0, AV.i64 a1, AV.oref 0 0 0 a6.length]), (10, AV.i64 v3), (11, AV.f32 r4), (12, AV.f32 r5), (14, AV.i64 a0), (15, AV.i64 v3)]) (Γ' := [⟨0, some (r12.map AV.f32)⟩]) ⟨(ALe.refl _), (ALe.refl _), (ALe.refl _), (ALe.refl _), (ALe.refl _), (ALe.refl _), (ALe.refl _), (ALe.refl _), (ALe.refl _), (ALe.refl _), trivial⟩ ⟨⟨rfl, .inr rfl⟩, trivial⟩ ?_
      obtain ⟨r16, hf15, h2_⟩ := obind_some h2_
      obtain ⟨r17, hf16, h2_⟩ := obind_some h2_
      obtain ⟨x18, hx17, h2_⟩ := olet_some h2_
      obtain ⟨r19, hf18, h2_⟩ := obind_some h2_
      obtain ⟨hn19, h2_⟩ := need_some h2_
      refine RunC.region_draw (Γ' := [⟨0, some (r12.map AV.f32)⟩]) 10 mixed 
        (TR.l (r := AV.agg [AV.i64 a0, AV.i64 a1, AV.oref 0 0 0 a6.length]) rfl rfl (LOp.loadAgg agg27 siz27 rfl rfl rfl rfl) <|
        (TR.l (r := AV.i64 v3) rfl rfl (LOp.move rfl rfl) <|
        (TR.l (r := AV.i64 a3) rfl rfl (LOp.move rfl rfl) <|
        (TR.l (r := AV.f32 a5) rfl rfl (LOp.move rfl rfl) <|
        (TR.l (r := AV.f32 r4) rfl rfl (LOp.move rfl rfl) <|
        (TR.d (r := AV.f32 r16) (fs := []) rfl rfl (TOp.callB (CallAs.func ent54 rfl rfl) (Bors.cons (Bor.pure rfl) (Bors.cons (Bor.pure rfl) Bors.nil)) rfl rfl (i_mul_ok a5 r4 r16 hf15)) <|
        (TR.l (r := AV.f32 a4) rfl rfl (LOp.move rfl rfl) <|
        (TR.l (r := AV.f32 r5) rfl rfl (LOp.move rfl rfl) <|
        (TR.d (r := AV.f32 r17) (fs := []) rfl rfl (TOp.callB (CallAs.func ent54 rfl rfl) (Bors.cons (Bor.pure rfl) (Bors.cons (Bor.pure rfl) Bors.nil)) rfl rfl (i_mul_ok a4 r5 r17 hf16)) <|
        (TR.d (r := AV.f32 x18) (fs := []) rfl rfl (TOp.eqr (TOp.fop (.inl rfl) rfl (OpF.tmp rfl) (OpF.tmp rfl)) (congrArg (AV.f .f32) hx17)) <|
        TR.nil)))))))))) rfl (by kernel_rfl) rfl fills_nil rfl ?_
      iterate 10 refine ROps.dropS ?_
      refine ROps.drop0 ?_
      refine ROps.callO (A := [AV.agg [AV.i64 a0, AV.i64 a1, AV.oref 0 0 0 a6.length], AV.i64 v3, AV.i64 a3, AV.f32 x18]) (args := [AV.agg [AV.i64 a0, AV.i64 a1, AV.oref 0 0 0 r12.length], AV.i64 v3, AV.i64 a3, AV.f32 x18]) (Γc := [⟨0, some (r12.map AV.f32)⟩]) (Γc' := [⟨0, some (r19.map AV.f32)⟩]) (r' := AV.tup []) (Γ' := [⟨0, some (r19.map AV.f32)⟩]) [(0, 0)] [] rfl (CallAs.func ent60 rfl rfl) rfl rfl (SelOk.of (show List.Nodup [0] from by decide) (SelL.arr0 (f := AV.f32) (fun _ => rfl) rfl trivial)) (live_of ⟨⟨_, _, rfl⟩, trivial⟩) (by simp [AV.ren, AV.rens, sigma, rens_f32, rens_f64, rens_i64, rens_ik, rens_str, rens_cp, (of_decide_eq_true hn11)]) rfl (i_Matrix_set_02o_ok a0 a1 v3 a3 x18 r12 r19 hf18) rfl (news_of trivial) (show List.Nodup [0] from by decide) (by simp [AV.ren, AV.rens, sigma, of_decide_eq_true hn19]) (by simp [backOb, sigma, AV.ren, AV.rens, rens_f32, rens_f64, rens_i64, rens_ik, rens_str, rens_cp]) ?_
      refine ROps.nil ?_
      refine RunC.wl (τ' := [(1, AV.i64 a2), (2, AV.i64 a3), (3, AV.f32 a4), (4, AV.f32 a5), (5, AV.ptr [AV.i64 a0, AV.i64 a1, AV.oref 0 0 0 a6.length]), (14, AV.i64 a0), (15, AV.i64 v3)]) (Γ' := [⟨0, some (r19.map AV.f32)⟩]) ⟨(ALe.refl _), (ALe.refl _), (ALe.refl _), (ALe.refl _), (ALe.refl _), (ALe.refl _), (ALe.refl _), trivial⟩ ⟨⟨rfl, .inr rfl⟩, trivial⟩ ?_
      obtain ⟨x20, hx20, h2_⟩ := olet_some h2_
      refine RunC.regionW ?_
      refine ROps.l (r := AV.i64 x20) rfl rfl rfl (LOp.eqr (LOp.add rfl rfl rfl) (congrArg (AV.ik .i64) hx20)) ?_
      refine ROps.l (r := AV.i64 x20) rfl rfl rfl (LOp.move rfl rfl) ?_
      refine ROps.nil ?_
      cases Option.some.inj h2_
      exact ⟨_, rfl, (of_decide_eq_true hn19), ⟨(ALe.refl _), (ALe.refl _), (ALe.refl _), (ALe.refl _), (ALe.refl _), (ALe.refl _), (ALe.refl _), trivial⟩, ⟨⟨rfl, .inr rfl⟩, trivial⟩⟩
    · refine RunC.regionW ?_
      refine ROps.l (r := AV.b false) rfl rfl rfl (LOp.eqb (LOp.lss rfl rfl rfl) hc1) ?_
      refine ROps.nil ?_
      refine RunC.seq ?_
      refine RunC.cond_false rfl rfl ?_
      refine RunC.exit ?_
      cases Option.some.inj h2_
      have hx := ho2 _ rfl
      exact ⟨L1, hl2, trivial, ⟨⟨rfl, .inr rfl⟩, trivial⟩, hx⟩
  · rintro τ3 Γ3 ⟨L21, hl22, hw3, hd3, rfl⟩
    replace h : i_Matrix_turnColumns_02o_k1 L21 = some q0 := h
    unfold i_Matrix_turnColumns_02o_k1 at h
    refine bodyQ.wl hw3 hd3 ?_
    have hq := Option.some.inj h
    subst q0
    exact bodyQ.mk (r' := AV.tup []) [(0, 0)] (.inl rfl) rfl (show List.Nodup [0] from by decide) rfl rfl (Res.zero rfl) (SelL.arr (f := AV.f32) (fun _ => rfl) rfl trivial)
noncomputable def i_SideTurns_k12 (v30 : Int) (L46 : List F) (L48 : List F) : Option (LR ((List F) × (List F) × Int) ((List F) × (List F)) (Int × Int × Int × Int × Bool × (List F) × (List F))) :=
  olet (IntKind.i64.wrap (v30 + 1)) fun (x50 : Int) =>
  some (LR.next (L46, L48, x50))
noncomputable def i_SideTurns_b13 (a1 : Int) (r3 : Int) (r4 : Int) (r5 : List F) (r6 : Int) (r7 : Int) (r8 : List F) (v22 : Int) (L26 : List F) (L28 : List F) (v30 : Int) : Option (LR ((List F) × (List F) × Int) ((List F) × (List F)) (Int × Int × Int × Int × Bool × (List F) × (List F))) :=
  bsel (decide (v30 < a1)) (
    obind (i_Matrix_column r3 r4 L26 v22) fun (r31 : List F) =>
    obind (i_Matrix_column r3 r4 L26 v30) fun (r32 : List F) =>
    obind (i_dot r31 r31) fun (r33 : F) =>
    obind (i_dot r32 r32) fun (r34 : F) =>
    obind (i_dot r31 r32) fun (r35 : F) =>
    obind (i_areFinite ([r33, r34, r35] : List F)) fun (r36 : Bool) =>
    bsel r36 (
      bsel (feq .f32 r35 (some 0)) (
        i_SideTurns_k12 v30 L26 L28) (
        olet (fop .sub .f32 r34 r33) fun (x37 : F) =>
        obind (i_mul (some 1073741824) r35) fun (r38 : F) =>
        olet (fop .quo .f32 x37 r38) fun (x39 : F) =>
        obind2 (i_turnFor x39) fun (r40 : F) (r41 : F) =>
        obind (i_Matrix_turnColumns_02o r3 r4 v22 v30 r40 r41 L26) fun (r42 : List F) =>
        need (decide (r42.length = r5.length)) <|
        obind (i_Matrix_turnColumns_02o r6 r7 v22 v30 r40 r41 L28) fun (r43 : List F) =>
        need (decide (r43.length = r8.length)) <|
        obind (i_ValidMatrix r3 r4 r42) fun (r44 : Bool) =>
        bsel r44 (
          obind (i_ValidMatrix r6 r7 r43) fun (r45 : Bool) =>
          bsel r45 (
            i_SideTurns_k12 v30 r42 r43) (
            some (LR.ret (0, 0, 0, 0, false, ([] : List F), ([] : List F))))) (
          some (LR.ret (0, 0, 0, 0, false, ([] : List F), ([] : List F)))))) (
      some (LR.ret (0, 0, 0, 0, false, ([] : List F), ([] : List F))))) (
    some (LR.out (L26, L28)))
noncomputable def i_SideTurns_s13 (a1 : Int) (r3 : Int) (r4 : Int) (r5 : List F) (r6 : Int) (r7 : Int) (r8 : List F) (v22 : Int) : ((List F) × (List F) × Int) → Option (LR ((List F) × (List F) × Int) ((List F) × (List F)) (Int × Int × Int × Int × Bool × (List F) × (List F))) := fun s => i_SideTurns_b13 a1 r3 r4 r5 r6 r7 r8 v22 s.1 s.2.1 s.2.2
noncomputable def i_SideTurns_k13 (v22 : Int) (L53 : List F) (L55 : List F) : Option (LR ((List F) × (List F) × Int) ((List F) × (List F)) (Int × Int × Int × Int × Bool × (List F) × (List F))) :=
  olet (IntKind.i64.wrap (v22 + 1)) fun (x57 : Int) =>
  some (LR.next (L53, L55, x57))
noncomputable def i_SideTurns_b14 (a1 : Int) (r3 : Int) (r4 : Int) (r5 : List F) (r6 : Int) (r7 : Int) (r8 : List F) (L18 : List F) (L20 : List F) (v22 : Int) : Option (LR ((List F) × (List F) × Int) ((List F) × (List F)) (Int × Int × Int × Int × Bool × (List F) × (List F))) :=
  bsel (decide (v22 < a1)) (
    olet (IntKind.i64.wrap (v22 + 1)) fun (x23 : Int) =>
    obind (loopM (i_SideTurns_s13 a1 r3 r4 r5 r6 r7 r8 v22) (L18, L20, x23)) fun z => osum z (fun e => i_SideTurns_k13 v22 e.1 e.2) (fun r => some (LR.ret r))) (
    some (LR.out (L18, L20)))
noncomputable def i_SideTurns_s14 (a1 : Int) (r3 : Int) (r4 : Int) (r5 : List F) (r6 : Int) (r7 : Int) (r8 : List F) : ((List F) × (List F) × Int) → Option (LR ((List F) × (List F) × Int) ((List F) × (List F)) (Int × Int × Int × Int × Bool × (List F) × (List F))) := fun s => i_SideTurns_b14 a1 r3 r4 r5 r6 r7 r8 s.1 s.2.1 s.2.2
noncomputable def i_SideTurns_k14 (v15 : Int) (L60 : List F) (L62 : List F) : Option (LR ((List F) × (List F) × Int) ((List F) × (List F)) (Int × Int × Int × Int × Bool × (List F) × (List F))) :=
  olet (IntKind.i64.wrap (v15 + 1)) fun (x64 : Int) =>
  some (LR.next (L60, L62, x64))
noncomputable def i_SideTurns_b15 (a1 : Int) (a3 : Int) (r3 : Int) (r4 : Int) (r5 : List F) (r6 : Int) (r7 : Int) (r8 : List F) (L11 : List F) (L13 : List F) (v15 : Int) : Option (LR ((List F) × (List F) × Int) ((List F) × (List F)) (Int × Int × Int × Int × Bool × (List F) × (List F))) :=
  bsel (decide (v15 < a3)) (
    obind (loopM (i_SideTurns_s14 a1 r3 r4 r5 r6 r7 r8) (L11, L13, 0)) fun z => osum z (fun e => i_SideTurns_k14 v15 e.1 e.2) (fun r => some (LR.ret r))) (
    some (LR.out (L11, L13)))
noncomputable def i_SideTurns_s15 (a1 : Int) (a3 : Int) (r3 : Int) (r4 : Int) (r5 : List F) (r6 : Int) (r7 : Int) (r8 : List F) : ((List F) × (List F) × Int) → Option (LR ((List F) × (List F) × Int) ((List F) × (List F)) (Int × Int × Int × Int × Bool × (List F) × (List F))) := fun s => i_SideTurns_b15 a1 a3 r3 r4 r5 r6 r7 r8 s.1 s.2.1 s.2.2
noncomputable def i_SideTurns_k15 (r3 : Int) (r4 : Int) (r6 : Int) (r7 : Int) (L67 : List F) (L69 : List F) : Option (Int × Int × Int × Int × Bool × (List F) × (List F)) :=
  some (r3, r4, r6, r7, true, L67, L69)
noncomputable def i_SideTurns (a0 : Int) (a1 : Int) (a2 : List F) (a3 : Int) : Option (Int × Int × Int × Int × Bool × (List F) × (List F)) :=
  obind (i_isTall a0 a1 a2) fun (r1 : Bool) =>
  bsel r1 (
    obind (i_isRounds a3) fun (r2 : Bool) =>
    bsel r2 (
      obind3 (i_Matrix_clone a0 a1 a2) fun (r3 : Int) (r4 : Int) (r5 : List F) =>
      obind3 (i_unit a1) fun (r6 : Int) (r7 : Int) (r8 : List F) =>
      obind (loopM (i_SideTurns_s15 a1 a3 r3 r4 r5 r6 r7 r8) (r5, r8, 0)) fun z => osum z (fun e => i_SideTurns_k15 r3 r4 r6 r7 e.1 e.2) (fun r => some r)) (
      some (0, 0, 0, 0, false, ([] : List F), ([] : List F)))) (
    some (0, 0, 0, 0, false, ([] : List F), ([] : List F)))
theorem i_SideTurns_ok (a0 : Int) (a1 : Int) (a2 : List F) (a3 : Int) (q0 : Int) (q1 : Int) (q2 : Int) (q3 : Int) (q4 : Bool) (q5 : List F) (q6 : List F) (h : i_SideTurns a0 a1 a2 a3 = some (q0, q1, q2, q3, q4, q5, q6)) : Ev Try.prog 35 [AV.agg [AV.i64 a0, AV.i64 a1, AV.sl a2.length (a2.map AV.f32)], AV.i64 a3] [] (AV.tup [AV.agg [AV.i64 q0, AV.i64 q1, AV.oref 0 0 0 q5.length], AV.agg [AV.i64 q2, AV.i64 q3, AV.oref 1 0 0 q6.length], AV.b q4]) [⟨0, some (q5.map AV.f32)⟩, ⟨0, some (q6.map AV.f32)⟩] := by
  refine Ev.start Try.func35 rfl rfl 8 (τ := [(0, AV.agg [AV.i64 a0, AV.i64 a1, AV.sl a2.length (a2.map AV.f32)]), (1, AV.i64 a3)]) rfl (Γ' := [⟨0, none⟩, ⟨0, none⟩, ⟨0, none⟩, ⟨0, none⟩, ⟨0, none⟩, ⟨0, none⟩, ⟨0, none⟩, ⟨0, none⟩]) rfl (n := 110) rfl (g := 0) rfl ?_
  unfold i_SideTurns at h
  refine RunC.seq ?_
  refine RunC.regionW ?_
  refine ROps.d (r := AV.ptr [AV.i64 a0, AV.i64 a1, AV.sl a2.length (a2.map AV.f32)]) (fs := []) (Γ' := [⟨0, none⟩, ⟨0, none⟩, ⟨0, none⟩, ⟨0, none⟩, ⟨0, none⟩, ⟨0, none⟩, ⟨0, none⟩, ⟨0, none⟩]) rfl rfl rfl (TOp.box_s rfl rfl rfl) rfl ?_
  refine ROps.d (r := AV.optr 0 1 0) (fs := [(0, [AV.i64 0, AV.i64 0, AV.nilsl])]) (Γ' := [⟨1, some [AV.i64 0, AV.i64 0, AV.nilsl]⟩, ⟨0, none⟩, ⟨0, none⟩, ⟨0, none⟩, ⟨0, none⟩, ⟨0, none⟩, ⟨0, none⟩, ⟨0, none⟩]) rfl rfl rfl (TOp.alloc_o (g := ⟨0, none⟩) 0 rfl zer27 zok27 rfl) rfl ?_
  refine ROps.d (r := AV.optr 1 1 0) (fs := [(1, [AV.i64 0, AV.i64 0, AV.nilsl])]) (Γ' := [⟨1, some [AV.i64 0, AV.i64 0, AV.nilsl]⟩, ⟨1, some [AV.i64 0, AV.i64 0, AV.nilsl]⟩, ⟨0, none⟩, ⟨0, none⟩, ⟨0, none⟩, ⟨0, none⟩, ⟨0, none⟩, ⟨0, none⟩]) rfl rfl rfl (TOp.alloc_o (g := ⟨0, none⟩) 1 rfl zer27 zok27 rfl) rfl ?_
  refine ROps.l (r := AV.b false) rfl rfl rfl (LOp.assign rfl rfl) ?_
  refine ROps.nil ?_
  refine RunC.seq ?_
  refine RunC.seq ?_
  obtain ⟨r1, hf1, h⟩ := obind_some h
  rcases bsel_some h with ⟨hc2, h⟩ | ⟨hc2, h⟩
  · obtain ⟨r2, hf3, h⟩ := obind_some h
    rcases bsel_some h with ⟨hc4, h⟩ | ⟨hc4, h⟩
    · refine RunC.regionW ?_
      refine ROps.l (r := AV.agg [AV.i64 a0, AV.i64 a1, AV.sl a2.length (a2.map AV.f32)]) rfl rfl rfl (LOp.loadAgg agg27 siz27 rfl rfl rfl rfl) ?_
      refine ROps.d (r := AV.b true) (fs := []) (Γ' := [⟨1, some [AV.i64 0, AV.i64 0, AV.nilsl]⟩, ⟨1, some [AV.i64 0, AV.i64 0, AV.nilsl]⟩, ⟨0, none⟩, ⟨0, none⟩, ⟨0, none⟩, ⟨0, none⟩, ⟨0, none⟩, ⟨0, none⟩]) rfl rfl rfl (TOp.eqb (TOp.callB (CallAs.func ent80 rfl rfl) (Bors.cons (Bor.agg (Bors.cons (Bor.pure rfl) (Bors.cons (Bor.pure rfl) (Bors.cons (Bor.sl (fun _ => rfl)) Bors.nil)))) Bors.nil) rfl rfl (i_isTall_ok a0 a1 a2 r1 hf1)) hc2) rfl ?_
      refine ROps.l (r := AV.b false) rfl rfl rfl (LOp.eqb (LOp.not rfl rfl) rfl) ?_
      refine ROps.l (r := AV.b false) rfl rfl rfl (LOp.move rfl rfl) ?_
      refine ROps.l (r := AV.i64 a3) rfl rfl rfl (LOp.move rfl rfl) ?_
      refine ROps.d (r := AV.b true) (fs := []) (Γ' := [⟨1, some [AV.i64 0, AV.i64 0, AV.nilsl]⟩, ⟨1, some [AV.i64 0, AV.i64 0, AV.nilsl]⟩, ⟨0, none⟩, ⟨0, none⟩, ⟨0, none⟩, ⟨0, none⟩, ⟨0, none⟩, ⟨0, none⟩]) rfl rfl rfl (TOp.eqb (TOp.callB (CallAs.func ent81 rfl rfl) (Bors.cons (Bor.pure rfl) Bors.nil) rfl rfl (i_isRounds_ok a3 r2 hf3)) hc4) rfl ?_
      refine ROps.l (r := AV.b false) rfl rfl rfl (LOp.eqb (LOp.not rfl rfl) rfl) ?_
      refine ROps.l (r := AV.b false) rfl rfl rfl (LOp.pick_false rfl rfl rfl) ?_
      refine ROps.nil ?_
      refine RunC.cond_false rfl rfl ?_
      refine RunC.skip ?_
      refine RunC.seq ?_
      obtain ⟨r3, r4, r5, hf5, h⟩ := obind3_some h
      obtain ⟨r6, r7, r8, hf6, h⟩ := obind3_some h
      refine RunC.region_draw (Γ' := [⟨1, some [AV.i64 0, AV.i64 0, AV.nilsl]⟩, ⟨1, some [AV.i64 0, AV.i64 0, AV.nilsl]⟩, ⟨1, some (r5.map AV.f32)⟩, ⟨1, some (r8.map AV.f32)⟩, ⟨1, some [AV.i64 0, AV.i64 0, AV.nilsl]⟩, ⟨1, some [AV.i64 0, AV.i64 0, AV.nilsl]⟩, ⟨0, none⟩, ⟨0, none⟩]) 7 mixed 
        (TR.l (r := AV.agg [AV.i64 a0, AV.i64 a1, AV.sl a2.length (a2.map AV.f32)]) rfl rfl (LOp.loadAgg agg27 siz27 rfl rfl rfl rfl) <|
        (TR.d (r := AV.agg [AV.i64 r3, AV.i64 r4, AV.oref 2 1 0 r5.length]) (fs := [(2, (r5.map AV.f32))]) rfl rfl (TOp.callBN (ls := [(r5.map AV.f32)]) [2] (CallAs.func ent48 rfl rfl) (Bors.cons (Bor.agg (Bors.cons (Bor.pure rfl) (Bors.cons (Bor.pure rfl) (Bors.cons (Bor.sl (fun _ => rfl)) Bors.nil)))) Bors.nil) rfl (i_Matrix_clone_ok a0 a1 a2 r3 r4 r5 hf5) (and_all (lts0_map (f := AV.f32) (fun _ => rfl) _) rfl) (and_all (noss_map (f := AV.f32) (fun _ => rfl) _) rfl) rfl (by decide) (ns_of ⟨⟨_, rfl⟩, trivial⟩)) <|
        (TR.l (r := AV.ptr [AV.i64 a1, AV.sl a2.length (a2.map AV.f32)]) rfl rfl (LOp.fap und27 rfl siz2 rfl rfl rfl) <|
        (TR.l (r := AV.i64 a1) rfl rfl (LOp.load1 agg2 rfl rfl) <|
        (TR.d (r := AV.agg [AV.i64 r6, AV.i64 r7, AV.oref 3 1 0 r8.length]) (fs := [(3, (r8.map AV.f32))]) rfl rfl (TOp.callBN (ls := [(r8.map AV.f32)]) [3] (CallAs.func ent82 rfl rfl) (Bors.cons (Bor.pure rfl) Bors.nil) rfl (i_unit_ok a1 r6 r7 r8 hf6) (and_all (lts0_map (f := AV.f32) (fun _ => rfl) _) rfl) (and_all (noss_map (f := AV.f32) (fun _ => rfl) _) rfl) rfl (by decide) (ns_of ⟨⟨_, rfl⟩, trivial⟩)) <|
        (TR.d (r := AV.optr 4 1 0) (fs := [(4, [AV.i64 0, AV.i64 0, AV.nilsl])]) rfl rfl (TOp.alloc_o (g := ⟨0, none⟩) 4 rfl zer27 zok27 rfl) <|
        (TR.d (r := AV.optr 5 1 0) (fs := [(5, [AV.i64 0, AV.i64 0, AV.nilsl])]) rfl rfl (TOp.alloc_o (g := ⟨0, none⟩) 5 rfl zer27 zok27 rfl) <|
        TR.nil))))))) rfl (by kernel_rfl) rfl (fills_of (by show List.Nodup [2, 3, 4, 5]; decide) ⟨⟨_, rfl⟩, ⟨_, rfl⟩, ⟨_, rfl⟩, ⟨_, rfl⟩, trivial⟩) rfl ?_
      iterate 7 refine ROps.dropS ?_
      refine ROps.drop0 ?_
      refine ROps.store_le (r := AV.agg [AV.i64 r3, AV.i64 r4, AV.oref 2 1 0 r5.length]) (l' := [AV.i64 r3, AV.i64 r4, AV.oref 2 1 0 r5.length]) (Γ' := [⟨1, some [AV.i64 0, AV.i64 0, AV.nilsl]⟩, ⟨1, some [AV.i64 0, AV.i64 0, AV.nilsl]⟩, ⟨1, some (r5.map AV.f32)⟩, ⟨1, some (r8.map AV.f32)⟩, ⟨1, some [AV.i64 r3, AV.i64 r4, AV.oref 2 1 0 r5.length]⟩, ⟨1, some [AV.i64 0, AV.i64 0, AV.nilsl]⟩, ⟨0, none⟩, ⟨0, none⟩]) rfl siz27 rfl rfl rfl (ALe.refl _) rfl rfl rfl rfl (Nat.le_of_ble_eq_true rfl) rfl rfl ?_
      refine ROps.store_le (r := AV.agg [AV.i64 r6, AV.i64 r7, AV.oref 3 1 0 r8.length]) (l' := [AV.i64 r6, AV.i64 r7, AV.oref 3 1 0 r8.length]) (Γ' := [⟨1, some [AV.i64 0, AV.i64 0, AV.nilsl]⟩, ⟨1, some [AV.i64 0, AV.i64 0, AV.nilsl]⟩, ⟨1, some (r5.map AV.f32)⟩, ⟨1, some (r8.map AV.f32)⟩, ⟨1, some [AV.i64 r3, AV.i64 r4, AV.oref 2 1 0 r5.length]⟩, ⟨1, some [AV.i64 r6, AV.i64 r7, AV.oref 3 1 0 r8.length]⟩, ⟨0, none⟩, ⟨0, none⟩]) rfl siz27 rfl rfl rfl (ALe.refl _) rfl rfl rfl rfl (Nat.le_of_ble_eq_true rfl) rfl rfl ?_
      refine ROps.nil ?_
      refine RunC.seq ?_
      refine RunC.seq ?_
      refine RunC.regionW ?_
      refine ROps.l (r := AV.i64 a3) rfl rfl rfl (LOp.move rfl rfl) ?_
      refine ROps.l (r := AV.i64 0) rfl rfl rfl (LOp.move rfl rfl) ?_
      refine ROps.nil ?_
      refine RunC.wl (τ' := [(2, AV.ptr [AV.i64 a0, AV.i64 a1, AV.sl a2.length (a2.map AV.f32)]), (4, AV.optr 0 1 0), (5, AV.optr 1 1 0), (7, AV.optr 4 1 0), (8, AV.optr 5 1 0), (33, AV.i64 a3), (34, AV.i64 0)]) (Γ' := [⟨1, some [AV.i64 0, AV.i64 0, AV.nilsl]⟩, ⟨1, some [AV.i64 0, AV.i64 0, AV.nilsl]⟩, ⟨1, some (r5.map AV.f32)⟩, ⟨1, some (r8.map AV.f32)⟩, ⟨1, some [AV.i64 r3, AV.i64 r4, AV.oref 2 1 0 r5.length]⟩, ⟨1, some [AV.i64 r6, AV.i64 r7, AV.oref 3 1 0 r8.length]⟩, ⟨0, none⟩, ⟨0, none⟩]) ⟨(ALe.refl _), (ALe.refl _), (ALe.refl _), (ALe.refl _), (ALe.refl _), (ALe.refl _), (ALe.refl _), trivial⟩ ⟨⟨rfl, .inr rfl⟩, ⟨rfl, .inr rfl⟩, ⟨rfl, .inr rfl⟩, ⟨rfl, .inr rfl⟩, ⟨rfl, .inr rfl⟩, ⟨rfl, .inr rfl⟩, ⟨rfl, .inr rfl⟩, ⟨rfl, .inr rfl⟩, trivial⟩ ?_
      obtain ⟨z16, hz_16, h⟩ := obind_some h
      refine RunC.cutN (fun τ Γ => ∃ (L67 : List F) (L69 : List F) (u65 : Nat) (u66 : Nat), L67.length = r5.length ∧ L69.length = r8.length ∧ WeakLe τ [(4, AV.optr 0 1 0), (5, AV.optr 1 1 0), (7, AV.optr 4 1 0), (8, AV.optr 5 1 0)] ∧ DeadLe Γ [⟨1, some [AV.i64 0, AV.i64 0, AV.nilsl]⟩, ⟨1, some [AV.i64 0, AV.i64 0, AV.nilsl]⟩, ⟨1, some (L67.map AV.f32)⟩, ⟨1, some (L69.map AV.f32)⟩, ⟨1, some [AV.i64 r3, AV.i64 r4, AV.oref 2 1 0 r5.length]⟩, ⟨1, some [AV.i64 r6, AV.i64 r7, AV.oref 3 1 0 r8.length]⟩, ⟨u65, none⟩, ⟨u66, none⟩] ∧ z16 = .inl (L67, L69)) ?_ ?_
      · refine RunC.block (RunC.loop (RunL.loopM (x := z16) (i_SideTurns_s15 a1 a3 r3 r4 r5 r6 r7 r8) (fun (s : (List F) × (List F) × Int) τ Γ => ∃ (u9 : Nat) (u10 : Nat), s.1.length = r5.length ∧ s.2.1.length = r8.length ∧ WeakLe τ [(2, AV.ptr [AV.i64 a0, AV.i64 a1, AV.sl a2.length (a2.map AV.f32)]), (4, AV.optr 0 1 0), (5, AV.optr 1 1 0), (7, AV.optr 4 1 0), (8, AV.optr 5 1 0), (33, AV.i64 a3), (34, AV.i64 s.2.2)] ∧ DeadLe Γ [⟨1, some [AV.i64 0, AV.i64 0, AV.nilsl]⟩, ⟨1, some [AV.i64 0, AV.i64 0, AV.nilsl]⟩, ⟨1, some (s.1.map AV.f32)⟩, ⟨1, some (s.2.1.map AV.f32)⟩, ⟨1, some [AV.i64 r3, AV.i64 r4, AV.oref 2 1 0 r5.length]⟩, ⟨1, some [AV.i64 r6, AV.i64 r7, AV.oref 3 1 0 r8.length]⟩, ⟨u9, none⟩, ⟨u10, none⟩]) ?_ _ _ _ hz_16 ⟨0, 0, rfl, rfl, ⟨(ALe.refl _), (ALe.refl _), (ALe.refl _), (ALe.refl _), (ALe.refl _), (ALe.refl _), (ALe.refl _), trivial⟩, ⟨⟨rfl, .inr rfl⟩, ⟨rfl, .inr rfl⟩, ⟨rfl, .inr rfl⟩, ⟨rfl, .inr rfl⟩, ⟨rfl, .inr rfl⟩, ⟨rfl, .inr rfl⟩, ⟨rfl, .inl rfl⟩, ⟨rfl, .inl rfl⟩, trivial⟩⟩))
        rintro ⟨L11, L13, v15⟩ τ16 Γ16 y16_ ⟨u9, u10, hl12, hl14, hw16, hd16⟩ h16_ ho16 hr16
        refine RunC.wl (τ' := [(2, AV.ptr [AV.i64 a0, AV.i64 a1, AV.sl a2.length (a2.map AV.f32)]), (4, AV.optr 0 1 0), (5, AV.optr 1 1 0), (7, AV.optr 4 1 0), (8, AV.optr 5 1 0), (33, AV.i64 a3), (34, AV.i64 v15)]) (Γ' := [⟨1, some [AV.i64 0, AV.i64 0, AV.nilsl]⟩, ⟨1, some [AV.i64 0, AV.i64 0, AV.nilsl]⟩, ⟨1, some (L11.map AV.f32)⟩, ⟨1, some (L13.map AV.f32)⟩, ⟨1, some [AV.i64 r3, AV.i64 r4, AV.oref 2 1 0 r5.length]⟩, ⟨1, some [AV.i64 r6, AV.i64 r7, AV.oref 3 1 0 r8.length]⟩, ⟨u9, none⟩, ⟨u10, none⟩]) hw16 hd16 ?_
        replace hl12 : L11.length = r5.length := hl12
        replace hl14 : L13.length = r8.length := hl14
        replace h16_ : i_SideTurns_b15 a1 a3 r3 r4 r5 r6 r7 r8 L11 L13 v15 = some y16_ := h16_
        unfold i_SideTurns_b15 at h16_
        refine RunC.seq ?_
        rcases bsel_some h16_ with ⟨hc7, h16_⟩ | ⟨hc7, h16_⟩
        · refine RunC.regionW ?_
          refine ROps.l (r := AV.b true) rfl rfl rfl (LOp.eqb (LOp.lss rfl rfl rfl) hc7) ?_
          refine ROps.nil ?_
          refine RunC.seq ?_
          refine RunC.cond_true rfl rfl ?_
          refine RunC.skip ?_
          refine RunC.seq ?_
          refine RunC.block ?_
          refine RunC.seq ?_
          refine RunC.regionW ?_
          refine ROps.l (r := AV.ptr [AV.i64 a1, AV.sl a2.length (a2.map AV.f32)]) rfl rfl rfl (LOp.fap und27 rfl siz2 rfl rfl rfl) ?_
          refine ROps.l (r := AV.i64 a1) rfl rfl rfl (LOp.load1 agg2 rfl rfl) ?_
          refine ROps.l (r := AV.i64 0) rfl rfl rfl (LOp.move rfl rfl) ?_
          refine ROps.nil ?_
          obtain ⟨z17, hz_17, h16_⟩ := obind_some h16_
          refine RunC.cutN (fun τ Γ => ∃ (L60 : List F) (L62 : List F) (u58 : Nat) (u59 : Nat), L60.length = r5.length ∧ L62.length = r8.length ∧ WeakLe τ [(2, AV.ptr [AV.i64 a0, AV.i64 a1, AV.sl a2.length (a2.map AV.f32)]), (4, AV.optr 0 1 0), (5, AV.optr 1 1 0), (7, AV.optr 4 1 0), (8, AV.optr 5 1 0), (33, AV.i64 a3), (34, AV.i64 v15)] ∧ DeadLe Γ [⟨1, some [AV.i64 0, AV.i64 0, AV.nilsl]⟩, ⟨1, some [AV.i64 0, AV.i64 0, AV.nilsl]⟩, ⟨1, some (L60.map AV.f32)⟩, ⟨1, some (L62.map AV.f32)⟩, ⟨1, some [AV.i64 r3, AV.i64 r4, AV.oref 2 1 0 r5.length]⟩, ⟨1, some [AV.i64 r6, AV.i64 r7, AV.oref 3 1 0 r8.length]⟩, ⟨u58, none⟩, ⟨u59, none⟩] ∧ z17 = .inl (L60, L62)) ?_ ?_
          · refine RunC.block (RunC.loop (RunL.loopM (x := z17) (i_SideTurns_s14 a1 r3 r4 r5 r6 r7 r8) (fun (s : (List F) × (List F) × Int) τ Γ => ∃ (u16 : Nat) (u17 : Nat), s.1.length = r5.length ∧ s.2.1.length = r8.length ∧ WeakLe τ [(2, AV.ptr [AV.i64 a0, AV.i64 a1, AV.sl a2.length (a2.map AV.f32)]), (4, AV.optr 0 1 0), (5, AV.optr 1 1 0), (7, AV.optr 4 1 0), (8, AV.optr 5 1 0), (33, AV.i64 a3), (34, AV.i64 v15), (37, AV.i64 a1), (38, AV.i64 s.2.2)] ∧ DeadLe Γ [⟨1, some [AV.i64 0, AV.i64 0, AV.nilsl]⟩, ⟨1, some [AV.i64 0, AV.i64 0, AV.nilsl]⟩, ⟨1, some (s.1.map AV.f32)⟩, ⟨1, some (s.2.1.map AV.f32)⟩, ⟨1, some [AV.i64 r3, AV.i64 r4, AV.oref 2 1 0 r5.length]⟩, ⟨1, some [AV.i64 r6, AV.i64 r7, AV.oref 3 1 0 r8.length]⟩, ⟨u16, none⟩, ⟨u17, none⟩]) ?_ _ _ _ hz_17 ⟨u9, u10, hl12, hl14, ⟨(ALe.refl _), (ALe.refl _), (ALe.refl _), (ALe.refl _), (ALe.refl _), (ALe.refl _), (ALe.refl _), (ALe.refl _), (ALe.refl _), trivial⟩, ⟨⟨rfl, .inr rfl⟩, ⟨rfl, .inr rfl⟩, ⟨rfl, .inr rfl⟩, ⟨rfl, .inr rfl⟩, ⟨rfl, .inr rfl⟩, ⟨rfl, .inr rfl⟩, ⟨rfl, .inl rfl⟩, ⟨rfl, .inl rfl⟩, trivial⟩⟩))
            rintro ⟨L18, L20, v22⟩ τ17 Γ17 y17_ ⟨u16, u17, hl19, hl21, hw17, hd17⟩ h17_ ho17 hr17
            refine RunC.wl (τ' := [(2, AV.ptr [AV.i64 a0, AV.i64 a1, AV.sl a2.length (a2.map AV.f32)]), (4, AV.optr 0 1 0), (5, AV.optr 1 1 0), (7, AV.optr 4 1 0), (8, AV.optr 5 1 0), (33, AV.i64 a3), (34, AV.i64 v15), (37, AV.i64 a1), (38, AV.i64 v22)]) (Γ' := [⟨1, some [AV.i64 0, AV.i64 0, AV.nilsl]⟩, ⟨1, some [AV.i64 0, AV.i64 0, AV.nilsl]⟩, ⟨1, some (L18.map AV.f32)⟩, ⟨1, some (L20.map AV.f32)⟩, ⟨1, some [AV.i64 r3, AV.i64 r4, AV.oref 2 1 0 r5.length]⟩, ⟨1, some [AV.i64 r6, AV.i64 r7, AV.oref 3 1 0 r8.length]⟩, ⟨u16, none⟩, ⟨u17, none⟩]) hw17 hd17 ?_
            replace hl19 : L18.length = r5.length := hl19
            replace hl21 : L20.length = r8.length := hl21
            replace h17_ : i_SideTurns_b14 a1 r3 r4 r5 r6 r7 r8 L18 L20 v22 = some y17_ := h17_
            unfold i_SideTurns_b14 at h17_
            refine RunC.seq ?_
            rcases bsel_some h17_ with ⟨hc8, h17_⟩ | ⟨hc8, h17_⟩
            · refine RunC.regionW ?_
              refine ROps.l (r := AV.b true) rfl rfl rfl (LOp.eqb (LOp.lss rfl rfl rfl) hc8) ?_
              refine ROps.nil ?_
              refine RunC.seq ?_
              refine RunC.cond_true rfl rfl ?_
              refine RunC.skip ?_
              refine RunC.seq ?_
              refine RunC.block ?_
              refine RunC.seq ?_
              refine RunC.regionW ?_
              refine ROps.l (r := AV.i64 v22) rfl rfl rfl (LOp.move rfl rfl) ?_
              refine ROps.l (r := AV.i64 v22) rfl rfl rfl (LOp.assign rfl rfl) ?_
              refine ROps.nil ?_
              refine RunC.seq ?_
              obtain ⟨x23, hx9, h17_⟩ := olet_some h17_
              refine RunC.regionW ?_
              refine ROps.l (r := AV.i64 v22) rfl rfl rfl (LOp.move rfl rfl) ?_
              refine ROps.l (r := AV.i64 x23) rfl rfl rfl (LOp.eqr (LOp.add rfl rfl rfl) (congrArg (AV.ik .i64) hx9)) ?_
              refine ROps.l (r := AV.i64 x23) rfl rfl rfl (LOp.assign rfl rfl) ?_
              refine ROps.nil ?_
              obtain ⟨z18, hz_18, h17_⟩ := obind_some h17_
              refine RunC.cutN (fun τ Γ => ∃ (L53 : List F) (L55 : List F) (u51 : Nat) (u52 : Nat), L53.length = r5.length ∧ L55.length = r8.length ∧ WeakLe τ [(2, AV.ptr [AV.i64 a0, AV.i64 a1, AV.sl a2.length (a2.map AV.f32)]), (4, AV.optr 0 1 0), (5, AV.optr 1 1 0), (7, AV.optr 4 1 0), (8, AV.optr 5 1 0), (33, AV.i64 a3), (34, AV.i64 v15), (37, AV.i64 a1), (38, AV.i64 v22)] ∧ DeadLe Γ [⟨1, some [AV.i64 0, AV.i64 0, AV.nilsl]⟩, ⟨1, some [AV.i64 0, AV.i64 0, AV.nilsl]⟩, ⟨1, some (L53.map AV.f32)⟩, ⟨1, some (L55.map AV.f32)⟩, ⟨1, some [AV.i64 r3, AV.i64 r4, AV.oref 2 1 0 r5.length]⟩, ⟨1, some [AV.i64 r6, AV.i64 r7, AV.oref 3 1 0 r8.length]⟩, ⟨u51, none⟩, ⟨u52, none⟩] ∧ z18 = .inl (L53, L55)) ?_ ?_
              · refine RunC.block (RunC.loop (RunL.loopM (x := z18) (i_SideTurns_s13 a1 r3 r4 r5 r6 r7 r8 v22) (fun (s : (List F) × (List F) × Int) τ Γ => ∃ (u24 : Nat) (u25 : Nat), s.1.length = r5.length ∧ s.2.1.length = r8.length ∧ WeakLe τ [(2, AV.ptr [AV.i64 a0, AV.i64 a1, AV.sl a2.length (a2.map AV.f32)]), (4, AV.optr 0 1 0), (5, AV.optr 1 1 0), (7, AV.optr 4 1 0), (8, AV.optr 5 1 0), (9, AV.i64 v22), (10, AV.i64 s.2.2), (33, AV.i64 a3), (34, AV.i64 v15), (37, AV.i64 a1), (38, AV.i64 v22)] ∧ DeadLe Γ [⟨1, some [AV.i64 0, AV.i64 0, AV.nilsl]⟩, ⟨1, some [AV.i64 0, AV.i64 0, AV.nilsl]⟩, ⟨1, some (s.1.map AV.f32)⟩, ⟨1, some (s.2.1.map AV.f32)⟩, ⟨1, some [AV.i64 r3, AV.i64 r4, AV.oref 2 1 0 r5.length]⟩, ⟨1, some [AV.i64 r6, AV.i64 r7, AV.oref 3 1 0 r8.length]⟩, ⟨u24, none⟩, ⟨u25, none⟩]) ?_ _ _ _ hz_18 ⟨u16, u17, hl19, hl21, ⟨(ALe.refl _), (ALe.refl _), (ALe.refl _), (ALe.refl _), (ALe.refl _), (ALe.refl _), (ALe.refl _), (ALe.refl _), (ALe.refl _), (ALe.refl _), (ALe.refl _), trivial⟩, ⟨⟨rfl, .inr rfl⟩, ⟨rfl, .inr rfl⟩, ⟨rfl, .inr rfl⟩, ⟨rfl, .inr rfl⟩, ⟨rfl, .inr rfl⟩, ⟨rfl, .inr rfl⟩, ⟨rfl, .inl rfl⟩, ⟨rfl, .inl rfl⟩, trivial⟩⟩))
                rintro ⟨L26, L28, v30⟩ τ18 Γ18 y18_ ⟨u24, u25, hl27, hl29, hw18, hd18⟩ h18_ ho18 hr18
                refine RunC.wl (τ' := [(2, AV.ptr [AV.i64 a0, AV.i64 a1, AV.sl a2.length (a2.map AV.f32)]), (4, AV.optr 0 1 0), (5, AV.optr 1 1 0), (7, AV.optr 4 1 0), (8, AV.optr 5 1 0), (9, AV.i64 v22), (10, AV.i64 v30), (33, AV.i64 a3), (34, AV.i64 v15), (37, AV.i64 a1), (38, AV.i64 v22)]) (Γ' := [⟨1, some [AV.i64 0, AV.i64 0, AV.nilsl]⟩, ⟨1, some [AV.i64 0, AV.i64 0, AV.nilsl]⟩, ⟨1, some (L26.map AV.f32)⟩, ⟨1, some (L28.map AV.f32)⟩, ⟨1, some [AV.i64 r3, AV.i64 r4, AV.oref 2 1 0 r5.length]⟩, ⟨1, some [AV.i64 r6, AV.i64 r7, AV.oref 3 1 0 r8.length]⟩, ⟨u24, none⟩, ⟨u25, none⟩]) hw18 hd18 ?_
                replace hl27 : L26.length = r5.length := hl27
                replace hl29 : L28.length = r8.length := hl29
                replace h18_ : i_SideTurns_b13 a1 r3 r4 r5 r6 r7 r8 v22 L26 L28 v30 = some y18_ := h18_
                unfold i_SideTurns_b13 at h18_
                refine RunC.seq ?_
                refine RunC.seq ?_
                rcases bsel_some h18_ with ⟨hc10, h18_⟩ | ⟨hc10, h18_⟩
                · refine RunC.regionW ?_
                  refine ROps.l (r := AV.i64 v30) rfl rfl rfl (LOp.move rfl rfl) ?_
                  refine ROps.l (r := AV.ptr [AV.i64 a1, AV.sl a2.length (a2.map AV.f32)]) rfl rfl rfl (LOp.fap und27 rfl siz2 rfl rfl rfl) ?_
                  refine ROps.l (r := AV.i64 a1) rfl rfl rfl (LOp.load1 agg2 rfl rfl) ?_
                  refine ROps.l (r := AV.b true) rfl rfl rfl (LOp.eqb (LOp.lss rfl rfl rfl) hc10) ?_
                  refine ROps.nil ?_
                  refine RunC.cond_true rfl rfl ?_
                  refine RunC.skip ?_
                  refine RunC.seq ?_
                  refine RunC.cutN (fun τ Γ => ∃ (L46 : List F) (L48 : List F), L46.length = r5.length ∧ L48.length = r8.length ∧ WeakLe τ [(2, AV.ptr [AV.i64 a0, AV.i64 a1, AV.sl a2.length (a2.map AV.f32)]), (4, AV.optr 0 1 0), (5, AV.optr 1 1 0), (7, AV.optr 4 1 0), (8, AV.optr 5 1 0), (9, AV.i64 v22), (10, AV.i64 v30), (33, AV.i64 a3), (34, AV.i64 v15), (37, AV.i64 a1), (38, AV.i64 v22)] ∧ DeadLe Γ [⟨1, some [AV.i64 0, AV.i64 0, AV.nilsl]⟩, ⟨1, some [AV.i64 0, AV.i64 0, AV.nilsl]⟩, ⟨1, some (L46.map AV.f32)⟩, ⟨1, some (L48.map AV.f32)⟩, ⟨1, some [AV.i64 r3, AV.i64 r4, AV.oref 2 1 0 r5.length]⟩, ⟨1, some [AV.i64 r6, AV.i64 r7, AV.oref 3 1 0 r8.length]⟩, ⟨(u24 + 2), none⟩, ⟨(u25 + 1), none⟩] ∧ i_SideTurns_k12 v30 L46 L48 = some y18_) ?_ ?_
                  · refine RunC.block ?_
                    refine RunC.seq ?_
                    obtain ⟨r31, hf11, h18_⟩ := obind_some h18_
                    obtain ⟨r32, hf12, h18_⟩ := obind_some h18_
                    refine RunC.region_draw (Γ' := [⟨1, some [AV.i64 0, AV.i64 0, AV.nilsl]⟩, ⟨1, some [AV.i64 0, AV.i64 0, AV.nilsl]⟩, ⟨1, some (L26.map AV.f32)⟩, ⟨1, some (L28.map AV.f32)⟩, ⟨1, some [AV.i64 r3, AV.i64 r4, AV.oref 2 1 0 r5.length]⟩, ⟨1, some [AV.i64 r6, AV.i64 r7, AV.oref 3 1 0 r8.length]⟩, ⟨(u24 + 1), some (r31.map AV.f32)⟩, ⟨(u25 + 1), some (r32.map AV.f32)⟩]) 8 mixed 
                      (TR.d (r := AV.agg [AV.i64 r3, AV.i64 r4, AV.oref 2 1 0 r5.length]) (fs := []) rfl rfl (TOp.loadAgg_o rfl agg27 siz27 rfl rfl rfl rfl) <|
                      (TR.l (r := AV.i64 v22) rfl rfl (LOp.move rfl rfl) <|
                      (TR.d (r := AV.oref 6 (u24 + 1) 0 r31.length) (fs := [(6, (r31.map AV.f32))]) rfl rfl (TOp.eqr (TOp.callBN (ls := [(r31.map AV.f32)]) [6] (CallAs.func ent53 rfl rfl) (Bors.cons (Bor.agg (Bors.cons (Bor.pure rfl) (Bors.cons (Bor.pure rfl) (Bors.cons (Bor.own (f := AV.f32) (fun _ => rfl) rfl hl27) Bors.nil)))) (Bors.cons (Bor.pure rfl) Bors.nil)) rfl (i_Matrix_column_ok r3 r4 L26 v22 r31 hf11) (and_all (lts0_map (f := AV.f32) (fun _ => rfl) _) rfl) (and_all (noss_map (f := AV.f32) (fun _ => rfl) _) rfl) rfl (by decide) (ns_of ⟨⟨_, rfl⟩, trivial⟩)) (by simp [AV.ren, AV.rens, sigma, newNames])) <|
                      (TR.d (r := AV.agg [AV.i64 r3, AV.i64 r4, AV.oref 2 1 0 r5.length]) (fs := []) rfl rfl (TOp.loadAgg_o rfl agg27 siz27 rfl rfl rfl rfl) <|
                      (TR.l (r := AV.i64 v30) rfl rfl (LOp.move rfl rfl) <|
                      (TR.d (r := AV.oref 7 (u25 + 1) 0 r32.length) (fs := [(7, (r32.map AV.f32))]) rfl rfl (TOp.eqr (TOp.callBN (ls := [(r32.map AV.f32)]) [7] (CallAs.func ent53 rfl rfl) (Bors.cons (Bor.agg (Bors.cons (Bor.pure rfl) (Bors.cons (Bor.pure rfl) (Bors.cons (Bor.own (f := AV.f32) (fun _ => rfl) rfl hl27) Bors.nil)))) (Bors.cons (Bor.pure rfl) Bors.nil)) rfl (i_Matrix_column_ok r3 r4 L26 v30 r32 hf12) (and_all (lts0_map (f := AV.f32) (fun _ => rfl) _) rfl) (and_all (noss_map (f := AV.f32) (fun _ => rfl) _) rfl) rfl (by decide) (ns_of ⟨⟨_, rfl⟩, trivial⟩)) (by simp [AV.ren, AV.rens, sigma, newNames])) <|
                      (TR.l (r := AV.oref 6 (u24 + 1) 0 r31.length) rfl rfl (LOp.assign rfl rfl) <|
                      (TR.l (r := AV.oref 7 (u25 + 1) 0 r32.length) rfl rfl (LOp.assign rfl rfl) <|
                      TR.nil)))))))) rfl (by kernel_rfl) rfl (fills_of (by show List.Nodup [6, 7]; decide) ⟨⟨_, rfl⟩, ⟨_, rfl⟩, trivial⟩) rfl ?_
                    iterate 8 refine ROps.dropS ?_
                    refine ROps.drop0 ?_
                    refine ROps.nil ?_
                    refine RunC.seq ?_
                    obtain ⟨r33, hf13, h18_⟩ := obind_some h18_
                    obtain ⟨r34, hf14, h18_⟩ := obind_some h18_
                    obtain ⟨r35, hf15, h18_⟩ := obind_some h18_
                    refine RunC.regionW ?_
                    refine ROps.l (r := AV.oref 6 (u24 + 1) 0 r31.length) rfl rfl rfl (LOp.move rfl rfl) ?_
                    refine ROps.l (r := AV.oref 6 (u24 + 1) 0 r31.length) rfl rfl rfl (LOp.move rfl rfl) ?_
                    refine ROps.d (r := AV.f32 r33) (fs := []) (Γ' := [⟨1, some [AV.i64 0, AV.i64 0, AV.nilsl]⟩, ⟨1, some [AV.i64 0, AV.i64 0, AV.nilsl]⟩, ⟨1, some (L26.map AV.f32)⟩, ⟨1, some (L28.map AV.f32)⟩, ⟨1, some [AV.i64 r3, AV.i64 r4, AV.oref 2 1 0 r5.length]⟩, ⟨1, some [AV.i64 r6, AV.i64 r7, AV.oref 3 1 0 r8.length]⟩, ⟨(u24 + 1), some (r31.map AV.f32)⟩, ⟨(u25 + 1), some (r32.map AV.f32)⟩]) rfl rfl rfl (TOp.callB (CallAs.func ent83 rfl rfl) (Bors.cons (Bor.own (f := AV.f32) (fun _ => rfl) rfl rfl) (Bors.cons (Bor.own (f := AV.f32) (fun _ => rfl) rfl rfl) Bors.nil)) rfl rfl (i_dot_ok r31 r31 r33 hf13)) rfl ?_
                    refine ROps.l (r := AV.oref 7 (u25 + 1) 0 r32.length) rfl rfl rfl (LOp.move rfl rfl) ?_
                    refine ROps.l (r := AV.oref 7 (u25 + 1) 0 r32.length) rfl rfl rfl (LOp.move rfl rfl) ?_
                    refine ROps.d (r := AV.f32 r34) (fs := []) (Γ' := [⟨1, some [AV.i64 0, AV.i64 0, AV.nilsl]⟩, ⟨1, some [AV.i64 0, AV.i64 0, AV.nilsl]⟩, ⟨1, some (L26.map AV.f32)⟩, ⟨1, some (L28.map AV.f32)⟩, ⟨1, some [AV.i64 r3, AV.i64 r4, AV.oref 2 1 0 r5.length]⟩, ⟨1, some [AV.i64 r6, AV.i64 r7, AV.oref 3 1 0 r8.length]⟩, ⟨(u24 + 1), some (r31.map AV.f32)⟩, ⟨(u25 + 1), some (r32.map AV.f32)⟩]) rfl rfl rfl (TOp.callB (CallAs.func ent83 rfl rfl) (Bors.cons (Bor.own (f := AV.f32) (fun _ => rfl) rfl rfl) (Bors.cons (Bor.own (f := AV.f32) (fun _ => rfl) rfl rfl) Bors.nil)) rfl rfl (i_dot_ok r32 r32 r34 hf14)) rfl ?_
                    refine ROps.l (r := AV.oref 6 (u24 + 1) 0 r31.length) rfl rfl rfl (LOp.move rfl rfl) ?_
                    refine ROps.l (r := AV.oref 7 (u25 + 1) 0 r32.length) rfl rfl rfl (LOp.move rfl rfl) ?_
                    refine ROps.d (r := AV.f32 r35) (fs := []) (Γ' := [⟨1, some [AV.i64 0, AV.i64 0, AV.nilsl]⟩, ⟨1, some [AV.i64 0, AV.i64 0, AV.nilsl]⟩, ⟨1, some (L26.map AV.f32)⟩, ⟨1, some (L28.map AV.f32)⟩, ⟨1, some [AV.i64 r3, AV.i64 r4, AV.oref 2 1 0 r5.length]⟩, ⟨1, some [AV.i64 r6, AV.i64 r7, AV.oref 3 1 0 r8.length]⟩, ⟨(u24 + 1), some (r31.map AV.f32)⟩, ⟨(u25 + 1), some (r32.map AV.f32)⟩]) rfl rfl rfl (TOp.callB (CallAs.func ent83 rfl rfl) (Bors.cons (Bor.own (f := AV.f32) (fun _ => rfl) rfl rfl) (Bors.cons (Bor.own (f := AV.f32) (fun _ => rfl) rfl rfl) Bors.nil)) rfl rfl (i_dot_ok r31 r32 r35 hf15)) rfl ?_
                    refine ROps.l (r := AV.f32 r33) rfl rfl rfl (LOp.assign rfl rfl) ?_
                    refine ROps.l (r := AV.f32 r34) rfl rfl rfl (LOp.assign rfl rfl) ?_
                    refine ROps.l (r := AV.f32 r35) rfl rfl rfl (LOp.assign rfl rfl) ?_
                    refine ROps.nil ?_
                    refine RunC.wl (τ' := [(2, AV.ptr [AV.i64 a0, AV.i64 a1, AV.sl a2.length (a2.map AV.f32)]), (4, AV.optr 0 1 0), (5, AV.optr 1 1 0), (7, AV.optr 4 1 0), (8, AV.optr 5 1 0), (9, AV.i64 v22), (10, AV.i64 v30), (13, AV.f32 r33), (14, AV.f32 r34), (15, AV.f32 r35), (33, AV.i64 a3), (34, AV.i64 v15), (37, AV.i64 a1), (38, AV.i64 v22)]) (Γ' := [⟨1, some [AV.i64 0, AV.i64 0, AV.nilsl]⟩, ⟨1, some [AV.i64 0, AV.i64 0, AV.nilsl]⟩, ⟨1, some (L26.map AV.f32)⟩, ⟨1, some (L28.map AV.f32)⟩, ⟨1, some [AV.i64 r3, AV.i64 r4, AV.oref 2 1 0 r5.length]⟩, ⟨1, some [AV.i64 r6, AV.i64 r7, AV.oref 3 1 0 r8.length]⟩, ⟨(u24 + 1), none⟩, ⟨(u25 + 1), none⟩]) ⟨(ALe.refl _), (ALe.refl _), (ALe.refl _), (ALe.refl _), (ALe.refl _), (ALe.refl _), (ALe.refl _), (ALe.refl _), (ALe.refl _), (ALe.refl _), (ALe.refl _), (ALe.refl _), (ALe.refl _), (ALe.refl _), trivial⟩ ⟨⟨rfl, .inr rfl⟩, ⟨rfl, .inr rfl⟩, ⟨rfl, .inr rfl⟩, ⟨rfl, .inr rfl⟩, ⟨rfl, .inr rfl⟩, ⟨rfl, .inr rfl⟩, ⟨rfl, .inl rfl⟩, ⟨rfl, .inl rfl⟩, trivial⟩ ?_
                    refine RunC.seq ?_
                    refine RunC.seq ?_
                    obtain ⟨r36, hf16, h18_⟩ := obind_some h18_
                    rcases bsel_some h18_ with ⟨hc17, h18_⟩ | ⟨hc17, h18_⟩
                    · refine RunC.regionW ?_
                      refine ROps.l (r := AV.f32 r33) rfl rfl rfl (LOp.move rfl rfl) ?_
                      refine ROps.l (r := AV.f32 r34) rfl rfl rfl (LOp.move rfl rfl) ?_
                      refine ROps.l (r := AV.f32 r35) rfl rfl rfl (LOp.move rfl rfl) ?_
                      refine ROps.d (r := AV.oref 6 (u24 + 2) 0 3) (fs := [(6, (([r33, r34, r35] : List F).map AV.f32))]) (Γ' := [⟨1, some [AV.i64 0, AV.i64 0, AV.nilsl]⟩, ⟨1, some [AV.i64 0, AV.i64 0, AV.nilsl]⟩, ⟨1, some (L26.map AV.f32)⟩, ⟨1, some (L28.map AV.f32)⟩, ⟨1, some [AV.i64 r3, AV.i64 r4, AV.oref 2 1 0 r5.length]⟩, ⟨1, some [AV.i64 r6, AV.i64 r7, AV.oref 3 1 0 r8.length]⟩, ⟨(u24 + 2), some (([r33, r34, r35] : List F).map AV.f32)⟩, ⟨(u25 + 1), none⟩]) rfl rfl rfl (TOp.buildSlice_o (g := ⟨(u24 + 1), none⟩) (za := AV.f32 (some 0)) (qs := [(0, [AV.f32 r33]), (1, [AV.f32 r34]), (2, [AV.f32 r35])]) 6 rfl und22 siz25 zer25 rfl zel25 rfl rfl ⟨rfl, ⟨_, ALe.refl _, rfl⟩, ⟨rfl, ⟨_, ALe.refl _, rfl⟩, ⟨rfl, ⟨_, ALe.refl _, rfl⟩, trivial⟩⟩⟩ rfl) rfl ?_
                      refine ROps.d (r := AV.b true) (fs := []) (Γ' := [⟨1, some [AV.i64 0, AV.i64 0, AV.nilsl]⟩, ⟨1, some [AV.i64 0, AV.i64 0, AV.nilsl]⟩, ⟨1, some (L26.map AV.f32)⟩, ⟨1, some (L28.map AV.f32)⟩, ⟨1, some [AV.i64 r3, AV.i64 r4, AV.oref 2 1 0 r5.length]⟩, ⟨1, some [AV.i64 r6, AV.i64 r7, AV.oref 3 1 0 r8.length]⟩, ⟨(u24 + 2), some (([r33, r34, r35] : List F).map AV.f32)⟩, ⟨(u25 + 1), none⟩]) rfl rfl rfl (TOp.eqb (TOp.callB (CallAs.func ent84 rfl rfl) (Bors.cons (Bor.own (f := AV.f32) (fun _ => rfl) rfl rfl) Bors.nil) rfl rfl (i_areFinite_ok ([r33, r34, r35] : List F) r36 hf16)) hc17) rfl ?_
                      refine ROps.l (r := AV.b false) rfl rfl rfl (LOp.eqb (LOp.not rfl rfl) rfl) ?_
                      refine ROps.nil ?_
                      refine RunC.wl (τ' := [(2, AV.ptr [AV.i64 a0, AV.i64 a1, AV.sl a2.length (a2.map AV.f32)]), (4, AV.optr 0 1 0), (5, AV.optr 1 1 0), (7, AV.optr 4 1 0), (8, AV.optr 5 1 0), (9, AV.i64 v22), (10, AV.i64 v30), (13, AV.f32 r33), (14, AV.f32 r34), (15, AV.f32 r35), (33, AV.i64 a3), (34, AV.i64 v15), (37, AV.i64 a1), (38, AV.i64 v22), (69, AV.b false)]) (Γ' := [⟨1, some [AV.i64 0, AV.i64 0, AV.nilsl]⟩, ⟨1, some [AV.i64 0, AV.i64 0, AV.nilsl]⟩, ⟨1, some (L26.map AV.f32)⟩, ⟨1, some (L28.map AV.f32)⟩, ⟨1, some [AV.i64 r3, AV.i64 r4, AV.oref 2 1 0 r5.length]⟩, ⟨1, some [AV.i64 r6, AV.i64 r7, AV.oref 3 1 0 r8.length]⟩, ⟨(u24 + 2), none⟩, ⟨(u25 + 1), none⟩]) ⟨(ALe.refl _), (ALe.refl _), (ALe.refl _), (ALe.refl _), (ALe.refl _), (ALe.refl _), (ALe.refl _), (ALe.refl _), (ALe.refl _), (ALe.refl _), (ALe.refl _), (ALe.refl _), (ALe.refl _), (ALe.refl _), (ALe.refl _), trivial⟩ ⟨⟨rfl, .inr rfl⟩, ⟨rfl, .inr rfl⟩, ⟨rfl, .inr rfl⟩, ⟨rfl, .inr rfl⟩, ⟨rfl, .inr rfl⟩, ⟨rfl, .inr rfl⟩, ⟨rfl, .inl rfl⟩, ⟨rfl, .inl rfl⟩, trivial⟩ ?_
                      refine RunC.cond_false rfl rfl ?_
                      refine RunC.skip ?_
                      refine RunC.seq ?_
                      refine RunC.seq ?_
                      rcases bsel_some h18_ with ⟨hc18, h18_⟩ | ⟨hc18, h18_⟩
                      · refine RunC.regionW ?_
                        refine ROps.l (r := AV.f32 r35) rfl rfl rfl (LOp.move rfl rfl) ?_
                        refine ROps.l (r := AV.b true) rfl rfl rfl (LOp.eqb (LOp.feq rfl (OpF.tmp rfl) (OpF.const rfl (by kernel_rfl) (by kernel_rfl))) hc18) ?_
                        refine ROps.nil ?_
                        refine RunC.cond_true rfl rfl ?_
                        refine RunC.exit ?_
                        exact ⟨L26, L28, hl27, hl29, ⟨(ALe.refl _), (ALe.refl _), (ALe.refl _), (ALe.refl _), (ALe.refl _), (ALe.refl _), (ALe.refl _), (ALe.refl _), (ALe.refl _), (ALe.refl _), (ALe.refl _), trivial⟩, ⟨⟨rfl, .inr rfl⟩, ⟨rfl, .inr rfl⟩, ⟨rfl, .inr rfl⟩, ⟨rfl, .inr rfl⟩, ⟨rfl, .inr rfl⟩, ⟨rfl, .inr rfl⟩, ⟨rfl, .inl rfl⟩, ⟨rfl, .inl rfl⟩, trivial⟩, h18_⟩
                      · refine RunC.regionW ?_
                        refine ROps.l (r := AV.f32 r35) rfl rfl rfl (LOp.move rfl rfl) ?_
                        refine ROps.l (r := AV.b false) rfl rfl rfl (LOp.eqb (LOp.feq rfl (OpF.tmp rfl) (OpF.const rfl (by kernel_rfl) (by kernel_rfl))) hc18) ?_
                        refine ROps.nil ?_
                        refine RunC.cond_false rfl rfl ?_
                        refine RunC.skip ?_
                        refine RunC.seq ?_
                        obtain ⟨x37, hx19, h18_⟩ := olet_some h18_
                        obtain ⟨r38, hf20, h18_⟩ := obind_some h18_
                        obtain ⟨x39, hx21, h18_⟩ := olet_some h18_
                        obtain ⟨r40, r41, hf22, h18_⟩ := obind2_some h18_
                        refine RunC.regionW ?_
                        refine ROps.l (r := AV.f32 r34) rfl rfl rfl (LOp.move rfl rfl) ?_
                        refine ROps.l (r := AV.f32 r33) rfl rfl rfl (LOp.move rfl rfl) ?_
                        refine ROps.d (r := AV.f32 x37) (fs := []) (Γ' := [⟨1, some [AV.i64 0, AV.i64 0, AV.nilsl]⟩, ⟨1, some [AV.i64 0, AV.i64 0, AV.nilsl]⟩, ⟨1, some (L26.map AV.f32)⟩, ⟨1, some (L28.map AV.f32)⟩, ⟨1, some [AV.i64 r3, AV.i64 r4, AV.oref 2 1 0 r5.length]⟩, ⟨1, some [AV.i64 r6, AV.i64 r7, AV.oref 3 1 0 r8.length]⟩, ⟨(u24 + 2), none⟩, ⟨(u25 + 1), none⟩]) rfl rfl rfl (TOp.eqr (TOp.fop (.inr (.inl rfl)) rfl (OpF.tmp rfl) (OpF.tmp rfl)) (congrArg (AV.f .f32) hx19)) rfl ?_
                        refine ROps.l (r := AV.f32 r35) rfl rfl rfl (LOp.move rfl rfl) ?_
                        refine ROps.d (r := AV.f32 r38) (fs := []) (Γ' := [⟨1, some [AV.i64 0, AV.i64 0, AV.nilsl]⟩, ⟨1, some [AV.i64 0, AV.i64 0, AV.nilsl]⟩, ⟨1, some (L26.map AV.f32)⟩, ⟨1, some (L28.map AV.f32)⟩, ⟨1, some [AV.i64 r3, AV.i64 r4, AV.oref 2 1 0 r5.length]⟩, ⟨1, some [AV.i64 r6, AV.i64 r7, AV.oref 3 1 0 r8.length]⟩, ⟨(u24 + 2), none⟩, ⟨(u25 + 1), none⟩]) rfl rfl rfl (TOp.callB (CallAs.func ent54 rfl rfl) (Bors.cons (Bor.le (ALe.fl (by kernel_rfl) (by kernel_rfl)) (Bor.pure rfl)) (Bors.cons (Bor.pure rfl) Bors.nil)) rfl rfl (i_mul_ok (some 1073741824) r35 r38 hf20)) rfl ?_
                        refine ROps.d (r := AV.f32 x39) (fs := []) (Γ' := [⟨1, some [AV.i64 0, AV.i64 0, AV.nilsl]⟩, ⟨1, some [AV.i64 0, AV.i64 0, AV.nilsl]⟩, ⟨1, some (L26.map AV.f32)⟩, ⟨1, some (L28.map AV.f32)⟩, ⟨1, some [AV.i64 r3, AV.i64 r4, AV.oref 2 1 0 r5.length]⟩, ⟨1, some [AV.i64 r6, AV.i64 r7, AV.oref 3 1 0 r8.length]⟩, ⟨(u24 + 2), none⟩, ⟨(u25 + 1), none⟩]) rfl rfl rfl (TOp.eqr (TOp.fop (.inr (.inr (.inr rfl))) rfl (OpF.tmp rfl) (OpF.tmp rfl)) (congrArg (AV.f .f32) hx21)) rfl ?_
                        refine ROps.d (r := AV.tup [AV.f32 r40, AV.f32 r41]) (fs := []) (Γ' := [⟨1, some [AV.i64 0, AV.i64 0, AV.nilsl]⟩, ⟨1, some [AV.i64 0, AV.i64 0, AV.nilsl]⟩, ⟨1, some (L26.map AV.f32)⟩, ⟨1, some (L28.map AV.f32)⟩, ⟨1, some [AV.i64 r3, AV.i64 r4, AV.oref 2 1 0 r5.length]⟩, ⟨1, some [AV.i64 r6, AV.i64 r7, AV.oref 3 1 0 r8.length]⟩, ⟨(u24 + 2), none⟩, ⟨(u25 + 1), none⟩]) rfl rfl rfl (TOp.callB (CallAs.func ent85 rfl rfl) (Bors.cons (Bor.pure rfl) Bors.nil) rfl rfl (i_turnFor_ok x39 r40 r41 hf22)) rfl ?_
                        refine ROps.l (r := AV.tup [AV.f32 r40, AV.f32 r41]) rfl rfl rfl (LOp.move rfl rfl) ?_
                        refine ROps.l (r := AV.f32 r40) rfl rfl rfl (LOp.extract rfl rfl rfl) ?_
                        refine ROps.l (r := AV.f32 r41) rfl rfl rfl (LOp.extract rfl rfl rfl) ?_
                        refine ROps.l (r := AV.f32 r40) rfl rfl rfl (LOp.assign rfl rfl) ?_
                        refine ROps.l (r := AV.f32 r41) rfl rfl rfl (LOp.assign rfl rfl) ?_
                        refine ROps.nil ?_
                        refine RunC.wl (τ' := [(2, AV.ptr [AV.i64 a0, AV.i64 a1, AV.sl a2.length (a2.map AV.f32)]), (4, AV.optr 0 1 0), (5, AV.optr 1 1 0), (7, AV.optr 4 1 0), (8, AV.optr 5 1 0), (9, AV.i64 v22), (10, AV.i64 v30), (16, AV.f32 r40), (17, AV.f32 r41), (33, AV.i64 a3), (34, AV.i64 v15), (37, AV.i64 a1), (38, AV.i64 v22)]) (Γ' := [⟨1, some [AV.i64 0, AV.i64 0, AV.nilsl]⟩, ⟨1, some [AV.i64 0, AV.i64 0, AV.nilsl]⟩, ⟨1, some (L26.map AV.f32)⟩, ⟨1, some (L28.map AV.f32)⟩, ⟨1, some [AV.i64 r3, AV.i64 r4, AV.oref 2 1 0 r5.length]⟩, ⟨1, some [AV.i64 r6, AV.i64 r7, AV.oref 3 1 0 r8.length]⟩, ⟨(u24 + 2), none⟩, ⟨(u25 + 1), none⟩]) ⟨(ALe.refl _), (ALe.refl _), (ALe.refl _), (ALe.refl _), (ALe.refl _), (ALe.refl _), (ALe.refl _), (ALe.refl _), (ALe.refl _), (ALe.refl _), (ALe.refl _), (ALe.refl _), (ALe.refl _), trivial⟩ ⟨⟨rfl, .inr rfl⟩, ⟨rfl, .inr rfl⟩, ⟨rfl, .inr rfl⟩, ⟨rfl, .inr rfl⟩, ⟨rfl, .inr rfl⟩, ⟨rfl, .inr rfl⟩, ⟨rfl, .inl rfl⟩, ⟨rfl, .inl rfl⟩, trivial⟩ ?_
                        refine RunC.seq ?_
                        obtain ⟨r42, hf23, h18_⟩ := obind_some h18_
                        obtain ⟨hn24, h18_⟩ := need_some h18_
                        refine RunC.regionW ?_
                        refine ROps.d (r := AV.agg [AV.i64 r3, AV.i64 r4, AV.oref 2 1 0 r5.length]) (fs := []) (Γ' := [⟨1, some [AV.i64 0, AV.i64 0, AV.nilsl]⟩, ⟨1, some [AV.i64 0, AV.i64 0, AV.nilsl]⟩, ⟨1, some (L26.map AV.f32)⟩, ⟨1, some (L28.map AV.f32)⟩, ⟨1, some [AV.i64 r3, AV.i64 r4, AV.oref 2 1 0 r5.length]⟩, ⟨1, some [AV.i64 r6, AV.i64 r7, AV.oref 3 1 0 r8.length]⟩, ⟨(u24 + 2), none⟩, ⟨(u25 + 1), none⟩]) rfl rfl rfl (TOp.loadAgg_o rfl agg27 siz27 rfl rfl rfl rfl) rfl ?_
                        refine ROps.l (r := AV.i64 v22) rfl rfl rfl (LOp.move rfl rfl) ?_
                        refine ROps.l (r := AV.i64 v30) rfl rfl rfl (LOp.move rfl rfl) ?_
                        refine ROps.l (r := AV.f32 r40) rfl rfl rfl (LOp.move rfl rfl) ?_
                        refine ROps.l (r := AV.f32 r41) rfl rfl rfl (LOp.move rfl rfl) ?_
                        refine ROps.callO (A := [AV.agg [AV.i64 r3, AV.i64 r4, AV.oref 2 1 0 r5.length], AV.i64 v22, AV.i64 v30, AV.f32 r40, AV.f32 r41]) (args := [AV.agg [AV.i64 r3, AV.i64 r4, AV.oref 0 0 0 L26.length], AV.i64 v22, AV.i64 v30, AV.f32 r40, AV.f32 r41]) (Γc := [⟨0, some (L26.map AV.f32)⟩]) (Γc' := [⟨0, some (r42.map AV.f32)⟩]) (r' := AV.tup []) (Γ' := [⟨1, some [AV.i64 0, AV.i64 0, AV.nilsl]⟩, ⟨1, some [AV.i64 0, AV.i64 0, AV.nilsl]⟩, ⟨1, some (r42.map AV.f32)⟩, ⟨1, some (L28.map AV.f32)⟩, ⟨1, some [AV.i64 r3, AV.i64 r4, AV.oref 2 1 0 r5.length]⟩, ⟨1, some [AV.i64 r6, AV.i64 r7, AV.oref 3 1 0 r8.length]⟩, ⟨(u24 + 2), none⟩, ⟨(u25 + 1), none⟩]) [(2, 1)] [] rfl (CallAs.func ent86 rfl rfl) rfl rfl (SelOk.of (show List.Nodup [2] from by decide) (SelL.arr0 (f := AV.f32) (fun _ => rfl) rfl trivial)) (live_of ⟨⟨_, _, rfl⟩, trivial⟩) (by simp [AV.ren, AV.rens, sigma, rens_f32, rens_f64, rens_i64, rens_ik, rens_str, rens_cp, hl27]) rfl (i_Matrix_turnColumns_02o_ok r3 r4 v22 v30 r40 r41 L26 r42 hf23) rfl (news_of trivial) (show List.Nodup [2] from by decide) (by simp [AV.ren, AV.rens, sigma, of_decide_eq_true hn24]) (by simp [backOb, sigma, AV.ren, AV.rens, rens_f32, rens_f64, rens_i64, rens_ik, rens_str, rens_cp]) ?_
                        refine ROps.nil ?_
                        refine RunC.seq ?_
                        obtain ⟨r43, hf25, h18_⟩ := obind_some h18_
                        obtain ⟨hn26, h18_⟩ := need_some h18_
                        refine RunC.regionW ?_
                        refine ROps.d (r := AV.agg [AV.i64 r6, AV.i64 r7, AV.oref 3 1 0 r8.length]) (fs := []) (Γ' := [⟨1, some [AV.i64 0, AV.i64 0, AV.nilsl]⟩, ⟨1, some [AV.i64 0, AV.i64 0, AV.nilsl]⟩, ⟨1, some (r42.map AV.f32)⟩, ⟨1, some (L28.map AV.f32)⟩, ⟨1, some [AV.i64 r3, AV.i64 r4, AV.oref 2 1 0 r5.length]⟩, ⟨1, some [AV.i64 r6, AV.i64 r7, AV.oref 3 1 0 r8.length]⟩, ⟨(u24 + 2), none⟩, ⟨(u25 + 1), none⟩]) rfl rfl rfl (TOp.loadAgg_o rfl agg27 siz27 rfl rfl rfl rfl) rfl ?_
                        refine ROps.l (r := AV.i64 v22) rfl rfl rfl (LOp.move rfl rfl) ?_
                        refine ROps.l (r := AV.i64 v30) rfl rfl rfl (LOp.move rfl rfl) ?_
                        refine ROps.l (r := AV.f32 r40) rfl rfl rfl (LOp.move rfl rfl) ?_
                        refine ROps.l (r := AV.f32 r41) rfl rfl rfl (LOp.move rfl rfl) ?_
                        refine ROps.callO (A := [AV.agg [AV.i64 r6, AV.i64 r7, AV.oref 3 1 0 r8.length], AV.i64 v22, AV.i64 v30, AV.f32 r40, AV.f32 r41]) (args := [AV.agg [AV.i64 r6, AV.i64 r7, AV.oref 0 0 0 L28.length], AV.i64 v22, AV.i64 v30, AV.f32 r40, AV.f32 r41]) (Γc := [⟨0, some (L28.map AV.f32)⟩]) (Γc' := [⟨0, some (r43.map AV.f32)⟩]) (r' := AV.tup []) (Γ' := [⟨1, some [AV.i64 0, AV.i64 0, AV.nilsl]⟩, ⟨1, some [AV.i64 0, AV.i64 0, AV.nilsl]⟩, ⟨1, some (r42.map AV.f32)⟩, ⟨1, some (r43.map AV.f32)⟩, ⟨1, some [AV.i64 r3, AV.i64 r4, AV.oref 2 1 0 r5.length]⟩, ⟨1, some [AV.i64 r6, AV.i64 r7, AV.oref 3 1 0 r8.length]⟩, ⟨(u24 + 2), none⟩, ⟨(u25 + 1), none⟩]) [(3, 1)] [] rfl (CallAs.func ent86 rfl rfl) rfl rfl (SelOk.of (show List.Nodup [3] from by decide) (SelL.arr0 (f := AV.f32) (fun _ => rfl) rfl trivial)) (live_of ⟨⟨_, _, rfl⟩, trivial⟩) (by simp [AV.ren, AV.rens, sigma, rens_f32, rens_f64, rens_i64, rens_ik, rens_str, rens_cp, hl29]) rfl (i_Matrix_turnColumns_02o_ok r6 r7 v22 v30 r40 r41 L28 r43 hf25) rfl (news_of trivial) (show List.Nodup [3] from by decide) (by simp [AV.ren, AV.rens, sigma, of_decide_eq_true hn26]) (by simp [backOb, sigma, AV.ren, AV.rens, rens_f32, rens_f64, rens_i64, rens_ik, rens_str, rens_cp]) ?_
                        refine ROps.nil ?_
                        refine RunC.seq ?_
                        obtain ⟨r44, hf27, h18_⟩ := obind_some h18_
                        rcases bsel_some h18_ with ⟨hc28, h18_⟩ | ⟨hc28, h18_⟩
                        · obtain ⟨r45, hf29, h18_⟩ := obind_some h18_
                          rcases bsel_some h18_ with ⟨hc30, h18_⟩ | ⟨hc30, h18_⟩
                          · refine RunC.regionW ?_
                            refine ROps.d (r := AV.agg [AV.i64 r3, AV.i64 r4, AV.oref 2 1 0 r5.length]) (fs := []) (Γ' := [⟨1, some [AV.i64 0, AV.i64 0, AV.nilsl]⟩, ⟨1, some [AV.i64 0, AV.i64 0, AV.nilsl]⟩, ⟨1, some (r42.map AV.f32)⟩, ⟨1, some (r43.map AV.f32)⟩, ⟨1, some [AV.i64 r3, AV.i64 r4, AV.oref 2 1 0 r5.length]⟩, ⟨1, some [AV.i64 r6, AV.i64 r7, AV.oref 3 1 0 r8.length]⟩, ⟨(u24 + 2), none⟩, ⟨(u25 + 1), none⟩]) rfl rfl rfl (TOp.loadAgg_o rfl agg27 siz27 rfl rfl rfl rfl) rfl ?_
                            refine ROps.d (r := AV.b true) (fs := []) (Γ' := [⟨1, some [AV.i64 0, AV.i64 0, AV.nilsl]⟩, ⟨1, some [AV.i64 0, AV.i64 0, AV.nilsl]⟩, ⟨1, some (r42.map AV.f32)⟩, ⟨1, some (r43.map AV.f32)⟩, ⟨1, some [AV.i64 r3, AV.i64 r4, AV.oref 2 1 0 r5.length]⟩, ⟨1, some [AV.i64 r6, AV.i64 r7, AV.oref 3 1 0 r8.length]⟩, ⟨(u24 + 2), none⟩, ⟨(u25 + 1), none⟩]) rfl rfl rfl (TOp.eqb (TOp.callB (CallAs.func ent45 rfl rfl) (Bors.cons (Bor.agg (Bors.cons (Bor.pure rfl) (Bors.cons (Bor.pure rfl) (Bors.cons (Bor.own (f := AV.f32) (fun _ => rfl) rfl (of_decide_eq_true hn24)) Bors.nil)))) Bors.nil) rfl rfl (i_ValidMatrix_ok r3 r4 r42 r44 hf27)) hc28) rfl ?_
                            refine ROps.l (r := AV.b false) rfl rfl rfl (LOp.eqb (LOp.not rfl rfl) rfl) ?_
                            refine ROps.l (r := AV.b false) rfl rfl rfl (LOp.move rfl rfl) ?_
                            refine ROps.d (r := AV.agg [AV.i64 r6, AV.i64 r7, AV.oref 3 1 0 r8.length]) (fs := []) (Γ' := [⟨1, some [AV.i64 0, AV.i64 0, AV.nilsl]⟩, ⟨1, some [AV.i64 0, AV.i64 0, AV.nilsl]⟩, ⟨1, some (r42.map AV.f32)⟩, ⟨1, some (r43.map AV.f32)⟩, ⟨1, some [AV.i64 r3, AV.i64 r4, AV.oref 2 1 0 r5.length]⟩, ⟨1, some [AV.i64 r6, AV.i64 r7, AV.oref 3 1 0 r8.length]⟩, ⟨(u24 + 2), none⟩, ⟨(u25 + 1), none⟩]) rfl rfl rfl (TOp.loadAgg_o rfl agg27 siz27 rfl rfl rfl rfl) rfl ?_
                            refine ROps.d (r := AV.b true) (fs := []) (Γ' := [⟨1, some [AV.i64 0, AV.i64 0, AV.nilsl]⟩, ⟨1, some [AV.i64 0, AV.i64 0, AV.nilsl]⟩, ⟨1, some (r42.map AV.f32)⟩, ⟨1, some (r43.map AV.f32)⟩, ⟨1, some [AV.i64 r3, AV.i64 r4, AV.oref 2 1 0 r5.length]⟩, ⟨1, some [AV.i64 r6, AV.i64 r7, AV.oref 3 1 0 r8.length]⟩, ⟨(u24 + 2), none⟩, ⟨(u25 + 1), none⟩]) rfl rfl rfl (TOp.eqb (TOp.callB (CallAs.func ent45 rfl rfl) (Bors.cons (Bor.agg (Bors.cons (Bor.pure rfl) (Bors.cons (Bor.pure rfl) (Bors.cons (Bor.own (f := AV.f32) (fun _ => rfl) rfl (of_decide_eq_true hn26)) Bors.nil)))) Bors.nil) rfl rfl (i_ValidMatrix_ok r6 r7 r43 r45 hf29)) hc30) rfl ?_
                            refine ROps.l (r := AV.b false) rfl rfl rfl (LOp.eqb (LOp.not rfl rfl) rfl) ?_
                            refine ROps.l (r := AV.b false) rfl rfl rfl (LOp.pick_false rfl rfl rfl) ?_
                            refine ROps.nil ?_
                            refine RunC.wl (τ' := [(2, AV.ptr [AV.i64 a0, AV.i64 a1, AV.sl a2.length (a2.map AV.f32)]), (4, AV.optr 0 1 0), (5, AV.optr 1 1 0), (7, AV.optr 4 1 0), (8, AV.optr 5 1 0), (9, AV.i64 v22), (10, AV.i64 v30), (33, AV.i64 a3), (34, AV.i64 v15), (37, AV.i64 a1), (38, AV.i64 v22), (100, AV.agg [AV.i64 r6, AV.i64 r7, AV.oref 3 1 0 r8.length]), (101, AV.b true), (102, AV.b false), (103, AV.b false)]) (Γ' := [⟨1, some [AV.i64 0, AV.i64 0, AV.nilsl]⟩, ⟨1, some [AV.i64 0, AV.i64 0, AV.nilsl]⟩, ⟨1, some (r42.map AV.f32)⟩, ⟨1, some (r43.map AV.f32)⟩, ⟨1, some [AV.i64 r3, AV.i64 r4, AV.oref 2 1 0 r5.length]⟩, ⟨1, some [AV.i64 r6, AV.i64 r7, AV.oref 3 1 0 r8.length]⟩, ⟨(u24 + 2), none⟩, ⟨(u25 + 1), none⟩]) ⟨(ALe.refl _), (ALe.refl _), (ALe.refl _), (ALe.refl _), (ALe.refl _), (ALe.refl _), (ALe.refl _), (ALe.refl _), (ALe.refl _), (ALe.refl _), (ALe.refl _), (ALe.refl _), (ALe.refl _), (ALe.refl _), (ALe.refl _), trivial⟩ ⟨⟨rfl, .inr rfl⟩, ⟨rfl, .inr rfl⟩, ⟨rfl, .inr rfl⟩, ⟨rfl, .inr rfl⟩, ⟨rfl, .inr rfl⟩, ⟨rfl, .inr rfl⟩, ⟨rfl, .inl rfl⟩, ⟨rfl, .inl rfl⟩, trivial⟩ ?_
                            refine RunC.cond_false rfl rfl ?_
                            refine RunC.skip ?_
                            exact ⟨r42, r43, (of_decide_eq_true hn24), (of_decide_eq_true hn26), ⟨(ALe.refl _), (ALe.refl _), (ALe.refl _), (ALe.refl _), (ALe.refl _), (ALe.refl _), (ALe.refl _), (ALe.refl _), (ALe.refl _), (ALe.refl _), (ALe.refl _), trivial⟩, ⟨⟨rfl, .inr rfl⟩, ⟨rfl, .inr rfl⟩, ⟨rfl, .inr rfl⟩, ⟨rfl, .inr rfl⟩, ⟨rfl, .inr rfl⟩, ⟨rfl, .inr rfl⟩, ⟨rfl, .inl rfl⟩, ⟨rfl, .inl rfl⟩, trivial⟩, h18_⟩
                          · refine RunC.regionW ?_
                            refine ROps.d (r := AV.agg [AV.i64 r3, AV.i64 r4, AV.oref 2 1 0 r5.length]) (fs := []) (Γ' := [⟨1, some [AV.i64 0, AV.i64 0, AV.nilsl]⟩, ⟨1, some [AV.i64 0, AV.i64 0, AV.nilsl]⟩, ⟨1, some (r42.map AV.f32)⟩, ⟨1, some (r43.map AV.f32)⟩, ⟨1, some [AV.i64 r3, AV.i64 r4, AV.oref 2 1 0 r5.length]⟩, ⟨1, some [AV.i64 r6, AV.i64 r7, AV.oref 3 1 0 r8.length]⟩, ⟨(u24 + 2), none⟩, ⟨(u25 + 1), none⟩]) rfl rfl rfl (TOp.loadAgg_o rfl agg27 siz27 rfl rfl rfl rfl) rfl ?_
                            refine ROps.d (r := AV.b true) (fs := []) (Γ' := [⟨1, some [AV.i64 0, AV.i64 0, AV.nilsl]⟩, ⟨1, some [AV.i64 0, AV.i64 0, AV.nilsl]⟩, ⟨1, some (r42.map AV.f32)⟩, ⟨1, some (r43.map AV.f32)⟩, ⟨1, some [AV.i64 r3, AV.i64 r4, AV.oref 2 1 0 r5.length]⟩, ⟨1, some [AV.i64 r6, AV.i64 r7, AV.oref 3 1 0 r8.length]⟩, ⟨(u24 + 2), none⟩, ⟨(u25 + 1), none⟩]) rfl rfl rfl (TOp.eqb (TOp.callB (CallAs.func ent45 rfl rfl) (Bors.cons (Bor.agg (Bors.cons (Bor.pure rfl) (Bors.cons (Bor.pure rfl) (Bors.cons (Bor.own (f := AV.f32) (fun _ => rfl) rfl (of_decide_eq_true hn24)) Bors.nil)))) Bors.nil) rfl rfl (i_ValidMatrix_ok r3 r4 r42 r44 hf27)) hc28) rfl ?_
                            refine ROps.l (r := AV.b false) rfl rfl rfl (LOp.eqb (LOp.not rfl rfl) rfl) ?_
                            refine ROps.l (r := AV.b false) rfl rfl rfl (LOp.move rfl rfl) ?_
                            refine ROps.d (r := AV.agg [AV.i64 r6, AV.i64 r7, AV.oref 3 1 0 r8.length]) (fs := []) (Γ' := [⟨1, some [AV.i64 0, AV.i64 0, AV.nilsl]⟩, ⟨1, some [AV.i64 0, AV.i64 0, AV.nilsl]⟩, ⟨1, some (r42.map AV.f32)⟩, ⟨1, some (r43.map AV.f32)⟩, ⟨1, some [AV.i64 r3, AV.i64 r4, AV.oref 2 1 0 r5.length]⟩, ⟨1, some [AV.i64 r6, AV.i64 r7, AV.oref 3 1 0 r8.length]⟩, ⟨(u24 + 2), none⟩, ⟨(u25 + 1), none⟩]) rfl rfl rfl (TOp.loadAgg_o rfl agg27 siz27 rfl rfl rfl rfl) rfl ?_
                            refine ROps.d (r := AV.b false) (fs := []) (Γ' := [⟨1, some [AV.i64 0, AV.i64 0, AV.nilsl]⟩, ⟨1, some [AV.i64 0, AV.i64 0, AV.nilsl]⟩, ⟨1, some (r42.map AV.f32)⟩, ⟨1, some (r43.map AV.f32)⟩, ⟨1, some [AV.i64 r3, AV.i64 r4, AV.oref 2 1 0 r5.length]⟩, ⟨1, some [AV.i64 r6, AV.i64 r7, AV.oref 3 1 0 r8.length]⟩, ⟨(u24 + 2), none⟩, ⟨(u25 + 1), none⟩]) rfl rfl rfl (TOp.eqb (TOp.callB (CallAs.func ent45 rfl rfl) (Bors.cons (Bor.agg (Bors.cons (Bor.pure rfl) (Bors.cons (Bor.pure rfl) (Bors.cons (Bor.own (f := AV.f32) (fun _ => rfl) rfl (of_decide_eq_true hn26)) Bors.nil)))) Bors.nil) rfl rfl (i_ValidMatrix_ok r6 r7 r43 r45 hf29)) hc30) rfl ?_
                            refine ROps.l (r := AV.b true) rfl rfl rfl (LOp.eqb (LOp.not rfl rfl) rfl) ?_
                            refine ROps.l (r := AV.b true) rfl rfl rfl (LOp.pick_false rfl rfl rfl) ?_
                            refine ROps.nil ?_
                            refine RunC.wl (τ' := [(2, AV.ptr [AV.i64 a0, AV.i64 a1, AV.sl a2.length (a2.map AV.f32)]), (4, AV.optr 0 1 0), (5, AV.optr 1 1 0), (7, AV.optr 4 1 0), (8, AV.optr 5 1 0), (9, AV.i64 v22), (10, AV.i64 v30), (33, AV.i64 a3), (34, AV.i64 v15), (37, AV.i64 a1), (38, AV.i64 v22), (100, AV.agg [AV.i64 r6, AV.i64 r7, AV.oref 3 1 0 r8.length]), (101, AV.b false), (102, AV.b true), (103, AV.b true)]) (Γ' := [⟨1, some [AV.i64 0, AV.i64 0, AV.nilsl]⟩, ⟨1, some [AV.i64 0, AV.i64 0, AV.nilsl]⟩, ⟨1, some (r42.map AV.f32)⟩, ⟨1, some (r43.map AV.f32)⟩, ⟨1, some [AV.i64 r3, AV.i64 r4, AV.oref 2 1 0 r5.length]⟩, ⟨1, some [AV.i64 r6, AV.i64 r7, AV.oref 3 1 0 r8.length]⟩, ⟨(u24 + 2), none⟩, ⟨(u25 + 1), none⟩]) ⟨(ALe.refl _), (ALe.refl _), (ALe.refl _), (ALe.refl _), (ALe.refl _), (ALe.refl _), (ALe.refl _), (ALe.refl _), (ALe.refl _), (ALe.refl _), (ALe.refl _), (ALe.refl _), (ALe.refl _), (ALe.refl _), (ALe.refl _), trivial⟩ ⟨⟨rfl, .inr rfl⟩, ⟨rfl, .inr rfl⟩, ⟨rfl, .inr rfl⟩, ⟨rfl, .inr rfl⟩, ⟨rfl, .inr rfl⟩, ⟨rfl, .inr rfl⟩, ⟨rfl, .inl rfl⟩, ⟨rfl, .inl rfl⟩, trivial⟩ ?_
                            refine RunC.cond_true rfl rfl ?_
                            refine RunC.seq ?_
                            refine RunC.regionW ?_
                            refine ROps.l (r := AV.agg [AV.i64 0, AV.i64 0, AV.nilsl]) rfl rfl rfl (LOp.build (qs := []) zer27 zok27 und27 plc27 rfl trivial rfl) ?_
                            refine ROps.l (r := AV.agg [AV.i64 0, AV.i64 0, AV.nilsl]) rfl rfl rfl (LOp.build (qs := []) zer27 zok27 und27 plc27 rfl trivial rfl) ?_
                            refine ROps.store_le (r := AV.agg [AV.i64 0, AV.i64 0, AV.nilsl]) (l' := [AV.i64 0, AV.i64 0, AV.nilsl]) (Γ' := [⟨1, some [AV.i64 0, AV.i64 0, AV.nilsl]⟩, ⟨1, some [AV.i64 0, AV.i64 0, AV.nilsl]⟩, ⟨1, some (r42.map AV.f32)⟩, ⟨1, some (r43.map AV.f32)⟩, ⟨1, some [AV.i64 r3, AV.i64 r4, AV.oref 2 1 0 r5.length]⟩, ⟨1, some [AV.i64 r6, AV.i64 r7, AV.oref 3 1 0 r8.length]⟩, ⟨(u24 + 2), none⟩, ⟨(u25 + 1), none⟩]) rfl siz27 rfl rfl rfl (ALe.refl _) rfl rfl rfl rfl (Nat.le_of_ble_eq_true rfl) rfl rfl ?_
                            refine ROps.store_le (r := AV.agg [AV.i64 0, AV.i64 0, AV.nilsl]) (l' := [AV.i64 0, AV.i64 0, AV.nilsl]) (Γ' := [⟨1, some [AV.i64 0, AV.i64 0, AV.nilsl]⟩, ⟨1, some [AV.i64 0, AV.i64 0, AV.nilsl]⟩, ⟨1, some (r42.map AV.f32)⟩, ⟨1, some (r43.map AV.f32)⟩, ⟨1, some [AV.i64 r3, AV.i64 r4, AV.oref 2 1 0 r5.length]⟩, ⟨1, some [AV.i64 r6, AV.i64 r7, AV.oref 3 1 0 r8.length]⟩, ⟨(u24 + 2), none⟩, ⟨(u25 + 1), none⟩]) rfl siz27 rfl rfl rfl (ALe.refl _) rfl rfl rfl rfl (Nat.le_of_ble_eq_true rfl) rfl rfl ?_
                            refine ROps.l (r := AV.b false) rfl rfl rfl (LOp.assign rfl rfl) ?_
                            refine ROps.nil ?_
                            refine RunC.nil_cell (l' := [AV.i64 0, AV.i64 0, AV.oref 6 (u24 + 3) 0 0]) (Γ' := [⟨1, some [AV.i64 0, AV.i64 0, AV.oref 6 (u24 + 3) 0 0]⟩, ⟨1, some [AV.i64 0, AV.i64 0, AV.nilsl]⟩, ⟨1, some (r42.map AV.f32)⟩, ⟨1, some (r43.map AV.f32)⟩, ⟨1, some [AV.i64 r3, AV.i64 r4, AV.oref 2 1 0 r5.length]⟩, ⟨1, some [AV.i64 r6, AV.i64 r7, AV.oref 3 1 0 r8.length]⟩, ⟨(u24 + 3), some (([] : List F).map AV.f32)⟩, ⟨(u25 + 1), none⟩]) 0 2 6 rfl rfl rfl rfl rfl ?_
                            refine RunC.nil_cell (l' := [AV.i64 0, AV.i64 0, AV.oref 7 (u25 + 2) 0 0]) (Γ' := [⟨1, some [AV.i64 0, AV.i64 0, AV.oref 6 (u24 + 3) 0 0]⟩, ⟨1, some [AV.i64 0, AV.i64 0, AV.oref 7 (u25 + 2) 0 0]⟩, ⟨1, some (r42.map AV.f32)⟩, ⟨1, some (r43.map AV.f32)⟩, ⟨1, some [AV.i64 r3, AV.i64 r4, AV.oref 2 1 0 r5.length]⟩, ⟨1, some [AV.i64 r6, AV.i64 r7, AV.oref 3 1 0 r8.length]⟩, ⟨(u24 + 3), some (([] : List F).map AV.f32)⟩, ⟨(u25 + 2), some (([] : List F).map AV.f32)⟩]) 1 2 7 rfl rfl rfl rfl rfl ?_
                            refine RunC.ret ?_
                            cases Option.some.inj h18_
                            have hx19_ := hr18 _ rfl
                            subst hx19_
                            cases Option.some.inj h17_
                            have hx20_ := hr17 _ rfl
                            subst hx20_
                            cases Option.some.inj h16_
                            have hx21_ := hr16 _ rfl
                            subst hx21_
                            have hq := Option.some.inj h
                            obtain ⟨hq0, hq⟩ := Prod.mk.inj hq
                            obtain ⟨hq1, hq⟩ := Prod.mk.inj hq
                            obtain ⟨hq2, hq⟩ := Prod.mk.inj hq
                            obtain ⟨hq3, hq⟩ := Prod.mk.inj hq
                            obtain ⟨hq4, hq⟩ := Prod.mk.inj hq
                            obtain ⟨hq5, hq⟩ := Prod.mk.inj hq
                            subst q0
                            subst q1
                            subst q2
                            subst q3
                            subst q4
                            subst q5
                            subst q6
                            exact bodyQ.mk (r' := AV.tup [AV.agg [AV.i64 0, AV.i64 0, AV.oref 6 (u24 + 3) 0 (([] : List F).length)], AV.agg [AV.i64 0, AV.i64 0, AV.oref 7 (u25 + 2) 0 (([] : List F).length)], AV.b false]) [(6, (u24 + 3)), (7, (u25 + 2))] (.inr rfl) rfl (show List.Nodup [6, 7] from by decide) (by simp [AV.ren, AV.rens, sigma]) rfl (Res.eq (Res.three rfl (RV.cell agg27 siz27 rfl rfl rfl rfl) (RV.cell agg27 siz27 rfl rfl rfl rfl) (RV.tmp rfl)) (by rw [(show ([] : List F).length = 0 from rfl)] <;> rfl)) (SelL.arr0 (f := AV.f32) (fun _ => rfl) rfl (SelL.arr0 (f := AV.f32) (fun _ => rfl) rfl trivial))
                        · refine RunC.regionW ?_
                          refine ROps.d (r := AV.agg [AV.i64 r3, AV.i64 r4, AV.oref 2 1 0 r5.length]) (fs := []) (Γ' := [⟨1, some [AV.i64 0, AV.i64 0, AV.nilsl]⟩, ⟨1, some [AV.i64 0, AV.i64 0, AV.nilsl]⟩, ⟨1, some (r42.map AV.f32)⟩, ⟨1, some (r43.map AV.f32)⟩, ⟨1, some [AV.i64 r3, AV.i64 r4, AV.oref 2 1 0 r5.length]⟩, ⟨1, some [AV.i64 r6, AV.i64 r7, AV.oref 3 1 0 r8.length]⟩, ⟨(u24 + 2), none⟩, ⟨(u25 + 1), none⟩]) rfl rfl rfl (TOp.loadAgg_o rfl agg27 siz27 rfl rfl rfl rfl) rfl ?_
                          refine ROps.d (r := AV.b false) (fs := []) (Γ' := [⟨1, some [AV.i64 0, AV.i64 0, AV.nilsl]⟩, ⟨1, some [AV.i64 0, AV.i64 0, AV.nilsl]⟩, ⟨1, some (r42.map AV.f32)⟩, ⟨1, some (r43.map AV.f32)⟩, ⟨1, some [AV.i64 r3, AV.i64 r4, AV.oref 2 1 0 r5.length]⟩, ⟨1, some [AV.i64 r6, AV.i64 r7, AV.oref 3 1 0 r8.length]⟩, ⟨(u24 + 2), none⟩, ⟨(u25 + 1), none⟩]) rfl rfl rfl (TOp.eqb (TOp.callB (CallAs.func ent45 rfl rfl) (Bors.cons (Bor.agg (Bors.cons (Bor.pure rfl) (Bors.cons (Bor.pure rfl) (Bors.cons (Bor.own (f := AV.f32) (fun _ => rfl) rfl (of_decide_eq_true hn24)) Bors.nil)))) Bors.nil) rfl rfl (i_ValidMatrix_ok r3 r4 r42 r44 hf27)) hc28) rfl ?_
                          refine ROps.l (r := AV.b true) rfl rfl rfl (LOp.eqb (LOp.not rfl rfl) rfl) ?_
                          refine ROps.l (r := AV.b true) rfl rfl rfl (LOp.move rfl rfl) ?_
                          refine ROps.s rfl rfl rfl ?_
                          refine ROps.s rfl rfl rfl ?_
                          refine ROps.s rfl rfl rfl ?_
                          refine ROps.l (r := AV.b true) rfl rfl rfl (LOp.pick_true rfl rfl rfl) ?_
                          refine ROps.nil ?_
                          refine RunC.wl (τ' := [(2, AV.ptr [AV.i64 a0, AV.i64 a1, AV.sl a2.length (a2.map AV.f32)]), (4, AV.optr 0 1 0), (5, AV.optr 1 1 0), (7, AV.optr 4 1 0), (8, AV.optr 5 1 0), (9, AV.i64 v22), (10, AV.i64 v30), (33, AV.i64 a3), (34, AV.i64 v15), (37, AV.i64 a1), (38, AV.i64 v22), (103, AV.b true)]) (Γ' := [⟨1, some [AV.i64 0, AV.i64 0, AV.nilsl]⟩, ⟨1, some [AV.i64 0, AV.i64 0, AV.nilsl]⟩, ⟨1, some (r42.map AV.f32)⟩, ⟨1, some (r43.map AV.f32)⟩, ⟨1, some [AV.i64 r3, AV.i64 r4, AV.oref 2 1 0 r5.length]⟩, ⟨1, some [AV.i64 r6, AV.i64 r7, AV.oref 3 1 0 r8.length]⟩, ⟨(u24 + 2), none⟩, ⟨(u25 + 1), none⟩]) ⟨(ALe.refl _), (ALe.refl _), (ALe.refl _), (ALe.refl _), (ALe.refl _), (ALe.refl _), (ALe.refl _), (ALe.refl _), (ALe.refl _), (ALe.refl _), (ALe.refl _), (ALe.refl _), trivial⟩ ⟨⟨rfl, .inr rfl⟩, ⟨rfl, .inr rfl⟩, ⟨rfl, .inr rfl⟩, ⟨rfl, .inr rfl⟩, ⟨rfl, .inr rfl⟩, ⟨rfl, .inr rfl⟩, ⟨rfl, .inl rfl⟩, ⟨rfl, .inl rfl⟩, trivial⟩ ?_
                          refine RunC.cond_true rfl rfl ?_
                          refine RunC.seq ?_
                          refine RunC.regionW ?_
                          refine ROps.l (r := AV.agg [AV.i64 0, AV.i64 0, AV.nilsl]) rfl rfl rfl (LOp.build (qs := []) zer27 zok27 und27 plc27 rfl trivial rfl) ?_
                          refine ROps.l (r := AV.agg [AV.i64 0, AV.i64 0, AV.nilsl]) rfl rfl rfl (LOp.build (qs := []) zer27 zok27 und27 plc27 rfl trivial rfl) ?_
                          refine ROps.store_le (r := AV.agg [AV.i64 0, AV.i64 0, AV.nilsl]) (l' := [AV.i64 0, AV.i64 0, AV.nilsl]) (Γ' := [⟨1, some [AV.i64 0, AV.i64 0, AV.nilsl]⟩, ⟨1, some [AV.i64 0, AV.i64 0, AV.nilsl]⟩, ⟨1, some (r42.map AV.f32)⟩, ⟨1, some (r43.map AV.f32)⟩, ⟨1, some [AV.i64 r3, AV.i64 r4, AV.oref 2 1 0 r5.length]⟩, ⟨1, some [AV.i64 r6, AV.i64 r7, AV.oref 3 1 0 r8.length]⟩, ⟨(u24 + 2), none⟩, ⟨(u25 + 1), none⟩]) rfl siz27 rfl rfl rfl (ALe.refl _) rfl rfl rfl rfl (Nat.le_of_ble_eq_true rfl) rfl rfl ?_
                          refine ROps.store_le (r := AV.agg [AV.i64 0, AV.i64 0, AV.nilsl]) (l' := [AV.i64 0, AV.i64 0, AV.nilsl]) (Γ' := [⟨1, some [AV.i64 0, AV.i64 0, AV.nilsl]⟩, ⟨1, some [AV.i64 0, AV.i64 0, AV.nilsl]⟩, ⟨1, some (r42.map AV.f32)⟩, ⟨1, some (r43.map AV.f32)⟩, ⟨1, some [AV.i64 r3, AV.i64 r4, AV.oref 2 1 0 r5.length]⟩, ⟨1, some [AV.i64 r6, AV.i64 r7, AV.oref 3 1 0 r8.length]⟩, ⟨(u24 + 2), none⟩, ⟨(u25 + 1), none⟩]) rfl siz27 rfl rfl rfl (ALe.refl _) rfl rfl rfl rfl (Nat.le_of_ble_eq_true rfl) rfl rfl ?_
                          refine ROps.l (r := AV.b false) rfl rfl rfl (LOp.assign rfl rfl) ?_
                          refine ROps.nil ?_
                          refine RunC.nil_cell (l' := [AV.i64 0, AV.i64 0, AV.oref 6 (u24 + 3) 0 0]) (Γ' := [⟨1, some [AV.i64 0, AV.i64 0, AV.oref 6 (u24 + 3) 0 0]⟩, ⟨1, some [AV.i64 0, AV.i64 0, AV.nilsl]⟩, ⟨1, some (r42.map AV.f32)⟩, ⟨1, some (r43.map AV.f32)⟩, ⟨1, some [AV.i64 r3, AV.i64 r4, AV.oref 2 1 0 r5.length]⟩, ⟨1, some [AV.i64 r6, AV.i64 r7, AV.oref 3 1 0 r8.length]⟩, ⟨(u24 + 3), some (([] : List F).map AV.f32)⟩, ⟨(u25 + 1), none⟩]) 0 2 6 rfl rfl rfl rfl rfl ?_
                          refine RunC.nil_cell (l' := [AV.i64 0, AV.i64 0, AV.oref 7 (u25 + 2) 0 0]) (Γ' := [⟨1, some [AV.i64 0, AV.i64 0, AV.oref 6 (u24 + 3) 0 0]⟩, ⟨1, some [AV.i64 0, AV.i64 0, AV.oref 7 (u25 + 2) 0 0]⟩, ⟨1, some (r42.map AV.f32)⟩, ⟨1, some (r43.map AV.f32)⟩, ⟨1, some [AV.i64 r3, AV.i64 r4, AV.oref 2 1 0 r5.length]⟩, ⟨1, some [AV.i64 r6, AV.i64 r7, AV.oref 3 1 0 r8.length]⟩, ⟨(u24 + 3), some (([] : List F).map AV.f32)⟩, ⟨(u25 + 2), some (([] : List F).map AV.f32)⟩]) 1 2 7 rfl rfl rfl rfl rfl ?_
                          refine RunC.ret ?_
                          cases Option.some.inj h18_
                          have hx22_ := hr18 _ rfl
                          subst hx22_
                          cases Option.some.inj h17_
                          have hx23_ := hr17 _ rfl
                          subst hx23_
                          cases Option.some.inj h16_
                          have hx24_ := hr16 _ rfl
                          subst hx24_
                          have hq := Option.some.inj h
                          obtain ⟨hq0, hq⟩ := Prod.mk.inj hq
                          obtain ⟨hq1, hq⟩ := Prod.mk.inj hq
                          obtain ⟨hq2, hq⟩ := Prod.mk.inj hq
                          obtain ⟨hq3, hq⟩ := Prod.mk.inj hq
                          obtain ⟨hq4, hq⟩ := Prod.mk.inj hq
                          obtain ⟨hq5, hq⟩ := Prod.mk.inj hq
                          subst q0
                          subst q1
                          subst q2
                          subst q3
                          subst q4
                          subst q5
                          subst q6
                          exact bodyQ.mk (r' := AV.tup [AV.agg [AV.i64 0, AV.i64 0, AV.oref 6 (u24 + 3) 0 (([] : List F).length)], AV.agg [AV.i64 0, AV.i64 0, AV.oref 7 (u25 + 2) 0 (([] : List F).length)], AV.b false]) [(6, (u24 + 3)), (7, (u25 + 2))] (.inr rfl) rfl (show List.Nodup [6, 7] from by decide) (by simp [AV.ren, AV.rens, sigma]) rfl (Res.eq (Res.three rfl (RV.cell agg27 siz27 rfl rfl rfl rfl) (RV.cell agg27 siz27 rfl rfl rfl rfl) (RV.tmp rfl)) (by rw [(show ([] : List F).length = 0 from rfl)] <;> rfl)) (SelL.arr0 (f := AV.f32) (fun _ => rfl) rfl (SelL.arr0 (f := AV.f32) (fun _ => rfl) rfl trivial))
                    · refine RunC.regionW ?_
                      refine ROps.l (r := AV.f32 r33) rfl rfl rfl (LOp.move rfl rfl) ?_
                      refine ROps.l (r := AV.f32 r34) rfl rfl rfl (LOp.move rfl rfl) ?_
                      refine ROps.l (r := AV.f32 r35) rfl rfl rfl (LOp.move rfl rfl) ?_
                      refine ROps.d (r := AV.oref 6 (u24 + 2) 0 3) (fs := [(6, (([r33, r34, r35] : List F).map AV.f32))]) (Γ' := [⟨1, some [AV.i64 0, AV.i64 0, AV.nilsl]⟩, ⟨1, some [AV.i64 0, AV.i64 0, AV.nilsl]⟩, ⟨1, some (L26.map AV.f32)⟩, ⟨1, some (L28.map AV.f32)⟩, ⟨1, some [AV.i64 r3, AV.i64 r4, AV.oref 2 1 0 r5.length]⟩, ⟨1, some [AV.i64 r6, AV.i64 r7, AV.oref 3 1 0 r8.length]⟩, ⟨(u24 + 2), some (([r33, r34, r35] : List F).map AV.f32)⟩, ⟨(u25 + 1), none⟩]) rfl rfl rfl (TOp.buildSlice_o (g := ⟨(u24 + 1), none⟩) (za := AV.f32 (some 0)) (qs := [(0, [AV.f32 r33]), (1, [AV.f32 r34]), (2, [AV.f32 r35])]) 6 rfl und22 siz25 zer25 rfl zel25 rfl rfl ⟨rfl, ⟨_, ALe.refl _, rfl⟩, ⟨rfl, ⟨_, ALe.refl _, rfl⟩, ⟨rfl, ⟨_, ALe.refl _, rfl⟩, trivial⟩⟩⟩ rfl) rfl ?_
                      refine ROps.d (r := AV.b false) (fs := []) (Γ' := [⟨1, some [AV.i64 0, AV.i64 0, AV.nilsl]⟩, ⟨1, some [AV.i64 0, AV.i64 0, AV.nilsl]⟩, ⟨1, some (L26.map AV.f32)⟩, ⟨1, some (L28.map AV.f32)⟩, ⟨1, some [AV.i64 r3, AV.i64 r4, AV.oref 2 1 0 r5.length]⟩, ⟨1, some [AV.i64 r6, AV.i64 r7, AV.oref 3 1 0 r8.length]⟩, ⟨(u24 + 2), some (([r33, r34, r35] : List F).map AV.f32)⟩, ⟨(u25 + 1), none⟩]) rfl rfl rfl (TOp.eqb (TOp.callB (CallAs.func ent84 rfl rfl) (Bors.cons (Bor.own (f := AV.f32) (fun _ => rfl) rfl rfl) Bors.nil) rfl rfl (i_areFinite_ok ([r33, r34, r35] : List F) r36 hf16)) hc17) rfl ?_
                      refine ROps.l (r := AV.b true) rfl rfl rfl (LOp.eqb (LOp.not rfl rfl) rfl) ?_
                      refine ROps.nil ?_
                      refine RunC.wl (τ' := [(2, AV.ptr [AV.i64 a0, AV.i64 a1, AV.sl a2.length (a2.map AV.f32)]), (4, AV.optr 0 1 0), (5, AV.optr 1 1 0), (7, AV.optr 4 1 0), (8, AV.optr 5 1 0), (9, AV.i64 v22), (10, AV.i64 v30), (13, AV.f32 r33), (14, AV.f32 r34), (15, AV.f32 r35), (33, AV.i64 a3), (34, AV.i64 v15), (37, AV.i64 a1), (38, AV.i64 v22), (69, AV.b true)]) (Γ' := [⟨1, some [AV.i64 0, AV.i64 0, AV.nilsl]⟩, ⟨1, some [AV.i64 0, AV.i64 0, AV.nilsl]⟩, ⟨1, some (L26.map AV.f32)⟩, ⟨1, some (L28.map AV.f32)⟩, ⟨1, some [AV.i64 r3, AV.i64 r4, AV.oref 2 1 0 r5.length]⟩, ⟨1, some [AV.i64 r6, AV.i64 r7, AV.oref 3 1 0 r8.length]⟩, ⟨(u24 + 2), none⟩, ⟨(u25 + 1), none⟩]) ⟨(ALe.refl _), (ALe.refl _), (ALe.refl _), (ALe.refl _), (ALe.refl _), (ALe.refl _), (ALe.refl _), (ALe.refl _), (ALe.refl _), (ALe.refl _), (ALe.refl _), (ALe.refl _), (ALe.refl _), (ALe.refl _), (ALe.refl _), trivial⟩ ⟨⟨rfl, .inr rfl⟩, ⟨rfl, .inr rfl⟩, ⟨rfl, .inr rfl⟩, ⟨rfl, .inr rfl⟩, ⟨rfl, .inr rfl⟩, ⟨rfl, .inr rfl⟩, ⟨rfl, .inl rfl⟩, ⟨rfl, .inl rfl⟩, trivial⟩ ?_
                      refine RunC.cond_true rfl rfl ?_
                      refine RunC.seq ?_
                      refine RunC.regionW ?_
                      refine ROps.l (r := AV.agg [AV.i64 0, AV.i64 0, AV.nilsl]) rfl rfl rfl (LOp.build (qs := []) zer27 zok27 und27 plc27 rfl trivial rfl) ?_
                      refine ROps.l (r := AV.agg [AV.i64 0, AV.i64 0, AV.nilsl]) rfl rfl rfl (LOp.build (qs := []) zer27 zok27 und27 plc27 rfl trivial rfl) ?_
                      refine ROps.store_le (r := AV.agg [AV.i64 0, AV.i64 0, AV.nilsl]) (l' := [AV.i64 0, AV.i64 0, AV.nilsl]) (Γ' := [⟨1, some [AV.i64 0, AV.i64 0, AV.nilsl]⟩, ⟨1, some [AV.i64 0, AV.i64 0, AV.nilsl]⟩, ⟨1, some (L26.map AV.f32)⟩, ⟨1, some (L28.map AV.f32)⟩, ⟨1, some [AV.i64 r3, AV.i64 r4, AV.oref 2 1 0 r5.length]⟩, ⟨1, some [AV.i64 r6, AV.i64 r7, AV.oref 3 1 0 r8.length]⟩, ⟨(u24 + 2), none⟩, ⟨(u25 + 1), none⟩]) rfl siz27 rfl rfl rfl (ALe.refl _) rfl rfl rfl rfl (Nat.le_of_ble_eq_true rfl) rfl rfl ?_
                      refine ROps.store_le (r := AV.agg [AV.i64 0, AV.i64 0, AV.nilsl]) (l' := [AV.i64 0, AV.i64 0, AV.nilsl]) (Γ' := [⟨1, some [AV.i64 0, AV.i64 0, AV.nilsl]⟩, ⟨1, some [AV.i64 0, AV.i64 0, AV.nilsl]⟩, ⟨1, some (L26.map AV.f32)⟩, ⟨1, some (L28.map AV.f32)⟩, ⟨1, some [AV.i64 r3, AV.i64 r4, AV.oref 2 1 0 r5.length]⟩, ⟨1, some [AV.i64 r6, AV.i64 r7, AV.oref 3 1 0 r8.length]⟩, ⟨(u24 + 2), none⟩, ⟨(u25 + 1), none⟩]) rfl siz27 rfl rfl rfl (ALe.refl _) rfl rfl rfl rfl (Nat.le_of_ble_eq_true rfl) rfl rfl ?_
                      refine ROps.l (r := AV.b false) rfl rfl rfl (LOp.assign rfl rfl) ?_
                      refine ROps.nil ?_
                      refine RunC.nil_cell (l' := [AV.i64 0, AV.i64 0, AV.oref 6 (u24 + 3) 0 0]) (Γ' := [⟨1, some [AV.i64 0, AV.i64 0, AV.oref 6 (u24 + 3) 0 0]⟩, ⟨1, some [AV.i64 0, AV.i64 0, AV.nilsl]⟩, ⟨1, some (L26.map AV.f32)⟩, ⟨1, some (L28.map AV.f32)⟩, ⟨1, some [AV.i64 r3, AV.i64 r4, AV.oref 2 1 0 r5.length]⟩, ⟨1, some [AV.i64 r6, AV.i64 r7, AV.oref 3 1 0 r8.length]⟩, ⟨(u24 + 3), some (([] : List F).map AV.f32)⟩, ⟨(u25 + 1), none⟩]) 0 2 6 rfl rfl rfl rfl rfl ?_
                      refine RunC.nil_cell (l' := [AV.i64 0, AV.i64 0, AV.oref 7 (u25 + 2) 0 0]) (Γ' := [⟨1, some [AV.i64 0, AV.i64 0, AV.oref 6 (u24 + 3) 0 0]⟩, ⟨1, some [AV.i64 0, AV.i64 0, AV.oref 7 (u25 + 2) 0 0]⟩, ⟨1, some (L26.map AV.f32)⟩, ⟨1, some (L28.map AV.f32)⟩, ⟨1, some [AV.i64 r3, AV.i64 r4, AV.oref 2 1 0 r5.length]⟩, ⟨1, some [AV.i64 r6, AV.i64 r7, AV.oref 3 1 0 r8.length]⟩, ⟨(u24 + 3), some (([] : List F).map AV.f32)⟩, ⟨(u25 + 2), some (([] : List F).map AV.f32)⟩]) 1 2 7 rfl rfl rfl rfl rfl ?_
                      refine RunC.ret ?_
                      cases Option.some.inj h18_
                      have hx25_ := hr18 _ rfl
                      subst hx25_
                      cases Option.some.inj h17_
                      have hx26_ := hr17 _ rfl
                      subst hx26_
                      cases Option.some.inj h16_
                      have hx27_ := hr16 _ rfl
                      subst hx27_
                      have hq := Option.some.inj h
                      obtain ⟨hq0, hq⟩ := Prod.mk.inj hq
                      obtain ⟨hq1, hq⟩ := Prod.mk.inj hq
                      obtain ⟨hq2, hq⟩ := Prod.mk.inj hq
                      obtain ⟨hq3, hq⟩ := Prod.mk.inj hq
                      obtain ⟨hq4, hq⟩ := Prod.mk.inj hq
                      obtain ⟨hq5, hq⟩ := Prod.mk.inj hq
                      subst q0
                      subst q1
                      subst q2
                      subst q3
                      subst q4
                      subst q5
                      subst q6
                      exact bodyQ.mk (r' := AV.tup [AV.agg [AV.i64 0, AV.i64 0, AV.oref 6 (u24 + 3) 0 (([] : List F).length)], AV.agg [AV.i64 0, AV.i64 0, AV.oref 7 (u25 + 2) 0 (([] : List F).length)], AV.b false]) [(6, (u24 + 3)), (7, (u25 + 2))] (.inr rfl) rfl (show List.Nodup [6, 7] from by decide) (by simp [AV.ren, AV.rens, sigma]) rfl (Res.eq (Res.three rfl (RV.cell agg27 siz27 rfl rfl rfl rfl) (RV.cell agg27 siz27 rfl rfl rfl rfl) (RV.tmp rfl)) (by rw [(show ([] : List F).length = 0 from rfl)] <;> rfl)) (SelL.arr0 (f := AV.f32) (fun _ => rfl) rfl (SelL.arr0 (f := AV.f32) (fun _ => rfl) rfl trivial))
                  · rintro τ28 Γ28 ⟨L46, L48, hl47, hl49, hw28, hd28, h18_⟩
                    refine RunC.wl (τ' := [(2, AV.ptr [AV.i64 a0, AV.i64 a1, AV.sl a2.length (a2.map AV.f32)]), (4, AV.optr 0 1 0), (5, AV.optr 1 1 0), (7, AV.optr 4 1 0), (8, AV.optr 5 1 0), (9, AV.i64 v22), (10, AV.i64 v30), (33, AV.i64 a3), (34, AV.i64 v15), (37, AV.i64 a1), (38, AV.i64 v22)]) (Γ' := [⟨1, some [AV.i64 0, AV.i64 0, AV.nilsl]⟩, ⟨1, some [AV.i64 0, AV.i64 0, AV.nilsl]⟩, ⟨1, some (L46.map AV.f32)⟩, ⟨1, some (L48.map AV.f32)⟩, ⟨1, some [AV.i64 r3, AV.i64 r4, AV.oref 2 1 0 r5.length]⟩, ⟨1, some [AV.i64 r6, AV.i64 r7, AV.oref 3 1 0 r8.length]⟩, ⟨(u24 + 2), none⟩, ⟨(u25 + 1), none⟩]) hw28 hd28 ?_
                    unfold i_SideTurns_k12 at h18_
                    obtain ⟨x50, hx31, h18_⟩ := olet_some h18_
                    refine RunC.regionW ?_
                    refine ROps.l (r := AV.i64 v30) rfl rfl rfl (LOp.move rfl rfl) ?_
                    refine ROps.l (r := AV.i64 x50) rfl rfl rfl (LOp.eqr (LOp.add rfl rfl rfl) (congrArg (AV.ik .i64) hx31)) ?_
                    refine ROps.l (r := AV.i64 x50) rfl rfl rfl (LOp.assign rfl rfl) ?_
                    refine ROps.nil ?_
                    cases Option.some.inj h18_
                    exact ⟨_, rfl, (u24 + 2), (u25 + 1), hl47, hl49, ⟨(ALe.refl _), (ALe.refl _), (ALe.refl _), (ALe.refl _), (ALe.refl _), (ALe.refl _), (ALe.refl _), (ALe.refl _), (ALe.refl _), (ALe.refl _), (ALe.refl _), trivial⟩, ⟨⟨rfl, .inr rfl⟩, ⟨rfl, .inr rfl⟩, ⟨rfl, .inr rfl⟩, ⟨rfl, .inr rfl⟩, ⟨rfl, .inr rfl⟩, ⟨rfl, .inr rfl⟩, ⟨rfl, .inl rfl⟩, ⟨rfl, .inl rfl⟩, trivial⟩⟩
                · refine RunC.regionW ?_
                  refine ROps.l (r := AV.i64 v30) rfl rfl rfl (LOp.move rfl rfl) ?_
                  refine ROps.l (r := AV.ptr [AV.i64 a1, AV.sl a2.length (a2.map AV.f32)]) rfl rfl rfl (LOp.fap und27 rfl siz2 rfl rfl rfl) ?_
                  refine ROps.l (r := AV.i64 a1) rfl rfl rfl (LOp.load1 agg2 rfl rfl) ?_
                  refine ROps.l (r := AV.b false) rfl rfl rfl (LOp.eqb (LOp.lss rfl rfl rfl) hc10) ?_
                  refine ROps.nil ?_
                  refine RunC.cond_false rfl rfl ?_
                  refine RunC.exit ?_
                  cases Option.some.inj h18_
                  have hx := ho18 _ rfl
                  exact ⟨L26, L28, u24, u25, hl27, hl29, ⟨(ALe.refl _), (ALe.refl _), (ALe.refl _), (ALe.refl _), (ALe.refl _), (ALe.refl _), (ALe.refl _), (ALe.refl _), (ALe.refl _), trivial⟩, ⟨⟨rfl, .inr rfl⟩, ⟨rfl, .inr rfl⟩, ⟨rfl, .inr rfl⟩, ⟨rfl, .inr rfl⟩, ⟨rfl, .inr rfl⟩, ⟨rfl, .inr rfl⟩, ⟨rfl, .inl rfl⟩, ⟨rfl, .inl rfl⟩, trivial⟩, hx⟩
              · rintro τ29 Γ29 ⟨L53, L55, u51, u52, hl54, hl56, hw29, hd29, rfl⟩
                refine RunC.wl (τ' := [(2, AV.ptr [AV.i64 a0, AV.i64 a1, AV.sl a2.length (a2.map AV.f32)]), (4, AV.optr 0 1 0), (5, AV.optr 1 1 0), (7, AV.optr 4 1 0), (8, AV.optr 5 1 0), (33, AV.i64 a3), (34, AV.i64 v15), (37, AV.i64 a1), (38, AV.i64 v22)]) (Γ' := [⟨1, some [AV.i64 0, AV.i64 0, AV.nilsl]⟩, ⟨1, some [AV.i64 0, AV.i64 0, AV.nilsl]⟩, ⟨1, some (L53.map AV.f32)⟩, ⟨1, some (L55.map AV.f32)⟩, ⟨1, some [AV.i64 r3, AV.i64 r4, AV.oref 2 1 0 r5.length]⟩, ⟨1, some [AV.i64 r6, AV.i64 r7, AV.oref 3 1 0 r8.length]⟩, ⟨u51, none⟩, ⟨u52, none⟩]) hw29 hd29 ?_
                replace h17_ : i_SideTurns_k13 v22 L53 L55 = some y17_ := h17_
                unfold i_SideTurns_k13 at h17_
                obtain ⟨x57, hx32, h17_⟩ := olet_some h17_
                refine RunC.regionW ?_
                refine ROps.l (r := AV.i64 x57) rfl rfl rfl (LOp.eqr (LOp.add rfl rfl rfl) (congrArg (AV.ik .i64) hx32)) ?_
                refine ROps.l (r := AV.i64 x57) rfl rfl rfl (LOp.move rfl rfl) ?_
                refine ROps.nil ?_
                cases Option.some.inj h17_
                exact ⟨_, rfl, u51, u52, hl54, hl56, ⟨(ALe.refl _), (ALe.refl _), (ALe.refl _), (ALe.refl _), (ALe.refl _), (ALe.refl _), (ALe.refl _), (ALe.refl _), (ALe.refl _), trivial⟩, ⟨⟨rfl, .inr rfl⟩, ⟨rfl, .inr rfl⟩, ⟨rfl, .inr rfl⟩, ⟨rfl, .inr rfl⟩, ⟨rfl, .inr rfl⟩, ⟨rfl, .inr rfl⟩, ⟨rfl, .inl rfl⟩, ⟨rfl, .inl rfl⟩, trivial⟩⟩
            · refine RunC.regionW ?_
              refine ROps.l (r := AV.b false) rfl rfl rfl (LOp.eqb (LOp.lss rfl rfl rfl) hc8) ?_
              refine ROps.nil ?_
              refine RunC.seq ?_
              refine RunC.cond_false rfl rfl ?_
              refine RunC.exit ?_
              cases Option.some.inj h17_
              have hx := ho17 _ rfl
              exact ⟨L18, L20, u16, u17, hl19, hl21, ⟨(ALe.refl _), (ALe.refl _), (ALe.refl _), (ALe.refl _), (ALe.refl _), (ALe.refl _), (ALe.refl _), trivial⟩, ⟨⟨rfl, .inr rfl⟩, ⟨rfl, .inr rfl⟩, ⟨rfl, .inr rfl⟩, ⟨rfl, .inr rfl⟩, ⟨rfl, .inr rfl⟩, ⟨rfl, .inr rfl⟩, ⟨rfl, .inl rfl⟩, ⟨rfl, .inl rfl⟩, trivial⟩, hx⟩
          · rintro τ30 Γ30 ⟨L60, L62, u58, u59, hl61, hl63, hw30, hd30, rfl⟩
            refine RunC.wl (τ' := [(2, AV.ptr [AV.i64 a0, AV.i64 a1, AV.sl a2.length (a2.map AV.f32)]), (4, AV.optr 0 1 0), (5, AV.optr 1 1 0), (7, AV.optr 4 1 0), (8, AV.optr 5 1 0), (33, AV.i64 a3), (34, AV.i64 v15)]) (Γ' := [⟨1, some [AV.i64 0, AV.i64 0, AV.nilsl]⟩, ⟨1, some [AV.i64 0, AV.i64 0, AV.nilsl]⟩, ⟨1, some (L60.map AV.f32)⟩, ⟨1, some (L62.map AV.f32)⟩, ⟨1, some [AV.i64 r3, AV.i64 r4, AV.oref 2 1 0 r5.length]⟩, ⟨1, some [AV.i64 r6, AV.i64 r7, AV.oref 3 1 0 r8.length]⟩, ⟨u58, none⟩, ⟨u59, none⟩]) hw30 hd30 ?_
            replace h16_ : i_SideTurns_k14 v15 L60 L62 = some y16_ := h16_
            unfold i_SideTurns_k14 at h16_
            obtain ⟨x64, hx33, h16_⟩ := olet_some h16_
            refine RunC.regionW ?_
            refine ROps.l (r := AV.i64 x64) rfl rfl rfl (LOp.eqr (LOp.add rfl rfl rfl) (congrArg (AV.ik .i64) hx33)) ?_
            refine ROps.l (r := AV.i64 x64) rfl rfl rfl (LOp.move rfl rfl) ?_
            refine ROps.nil ?_
            cases Option.some.inj h16_
            exact ⟨_, rfl, u58, u59, hl61, hl63, ⟨(ALe.refl _), (ALe.refl _), (ALe.refl _), (ALe.refl _), (ALe.refl _), (ALe.refl _), (ALe.refl _), trivial⟩, ⟨⟨rfl, .inr rfl⟩, ⟨rfl, .inr rfl⟩, ⟨rfl, .inr rfl⟩, ⟨rfl, .inr rfl⟩, ⟨rfl, .inr rfl⟩, ⟨rfl, .inr rfl⟩, ⟨rfl, .inl rfl⟩, ⟨rfl, .inl rfl⟩, trivial⟩⟩
        · refine RunC.regionW ?_
          refine ROps.l (r := AV.b false) rfl rfl rfl (LOp.eqb (LOp.lss rfl rfl rfl) hc7) ?_
          refine ROps.nil ?_
          refine RunC.seq ?_
          refine RunC.cond_false rfl rfl ?_
          refine RunC.exit ?_
          cases Option.some.inj h16_
          have hx := ho16 _ rfl
          exact ⟨L11, L13, u9, u10, hl12, hl14, ⟨(ALe.refl _), (ALe.refl _), (ALe.refl _), (ALe.refl _), trivial⟩, ⟨⟨rfl, .inr rfl⟩, ⟨rfl, .inr rfl⟩, ⟨rfl, .inr rfl⟩, ⟨rfl, .inr rfl⟩, ⟨rfl, .inr rfl⟩, ⟨rfl, .inr rfl⟩, ⟨rfl, .inl rfl⟩, ⟨rfl, .inl rfl⟩, trivial⟩, hx⟩
      · rintro τ31 Γ31 ⟨L67, L69, u65, u66, hl68, hl70, hw31, hd31, rfl⟩
        refine RunC.wl (τ' := [(4, AV.optr 0 1 0), (5, AV.optr 1 1 0), (7, AV.optr 4 1 0), (8, AV.optr 5 1 0)]) (Γ' := [⟨1, some [AV.i64 0, AV.i64 0, AV.nilsl]⟩, ⟨1, some [AV.i64 0, AV.i64 0, AV.nilsl]⟩, ⟨1, some (L67.map AV.f32)⟩, ⟨1, some (L69.map AV.f32)⟩, ⟨1, some [AV.i64 r3, AV.i64 r4, AV.oref 2 1 0 r5.length]⟩, ⟨1, some [AV.i64 r6, AV.i64 r7, AV.oref 3 1 0 r8.length]⟩, ⟨u65, none⟩, ⟨u66, none⟩]) hw31 hd31 ?_
        replace h : i_SideTurns_k15 r3 r4 r6 r7 L67 L69 = some (q0, q1, q2, q3, q4, q5, q6) := h
        unfold i_SideTurns_k15 at h
        refine RunC.seq ?_
        refine RunC.cutN (fun τ Γ => WeakLe τ [(4, AV.optr 0 1 0), (5, AV.optr 1 1 0), (6, AV.b true), (7, AV.optr 4 1 0), (8, AV.optr 5 1 0), (108, AV.agg [AV.i64 r3, AV.i64 r4, AV.oref 2 1 0 r5.length]), (109, AV.agg [AV.i64 r6, AV.i64 r7, AV.oref 3 1 0 r8.length])] ∧ DeadLe Γ [⟨1, some [AV.i64 r3, AV.i64 r4, AV.oref 2 1 0 r5.length]⟩, ⟨1, some [AV.i64 r6, AV.i64 r7, AV.oref 3 1 0 r8.length]⟩, ⟨1, some (L67.map AV.f32)⟩, ⟨1, some (L69.map AV.f32)⟩, ⟨1, some [AV.i64 r3, AV.i64 r4, AV.oref 2 1 0 r5.length]⟩, ⟨1, some [AV.i64 r6, AV.i64 r7, AV.oref 3 1 0 r8.length]⟩, ⟨u65, none⟩, ⟨u66, none⟩]) ?_ ?_
        · refine RunC.any (n := 5) rfl mixed ?_
          refine RAny.more (i0 := 0) (l := [1]) (by kernel_rfl) (RAnys.cons rfl ?_ (RAnys.cons rfl ?_ RAnys.nil))
          · refine ROps.d (r := AV.agg [AV.i64 r3, AV.i64 r4, AV.oref 2 1 0 r5.length]) (fs := []) (Γ' := [⟨1, some [AV.i64 0, AV.i64 0, AV.nilsl]⟩, ⟨1, some [AV.i64 0, AV.i64 0, AV.nilsl]⟩, ⟨1, some (L67.map AV.f32)⟩, ⟨1, some (L69.map AV.f32)⟩, ⟨1, some [AV.i64 r3, AV.i64 r4, AV.oref 2 1 0 r5.length]⟩, ⟨1, some [AV.i64 r6, AV.i64 r7, AV.oref 3 1 0 r8.length]⟩, ⟨u65, none⟩, ⟨u66, none⟩]) rfl rfl rfl (TOp.loadAgg_o rfl agg27 siz27 rfl rfl rfl rfl) rfl ?_
            refine ROps.nil ?_
            refine RAny.more (i0 := 1) (l := [2]) (by kernel_rfl) (RAnys.cons rfl ?_ (RAnys.cons rfl ?_ RAnys.nil))
            · refine ROps.d (r := AV.agg [AV.i64 r6, AV.i64 r7, AV.oref 3 1 0 r8.length]) (fs := []) (Γ' := [⟨1, some [AV.i64 0, AV.i64 0, AV.nilsl]⟩, ⟨1, some [AV.i64 0, AV.i64 0, AV.nilsl]⟩, ⟨1, some (L67.map AV.f32)⟩, ⟨1, some (L69.map AV.f32)⟩, ⟨1, some [AV.i64 r3, AV.i64 r4, AV.oref 2 1 0 r5.length]⟩, ⟨1, some [AV.i64 r6, AV.i64 r7, AV.oref 3 1 0 r8.length]⟩, ⟨u65, none⟩, ⟨u66, none⟩]) rfl rfl rfl (TOp.loadAgg_o rfl agg27 siz27 rfl rfl rfl rfl) rfl ?_
              refine ROps.nil ?_
              refine RAny.more (i0 := 2) (l := []) (by kernel_rfl) (RAnys.cons rfl ?_ RAnys.nil)
              refine ROps.store_le (r := AV.agg [AV.i64 r3, AV.i64 r4, AV.oref 2 1 0 r5.length]) (l' := [AV.i64 r3, AV.i64 r4, AV.oref 2 1 0 r5.length]) (Γ' := [⟨1, some [AV.i64 r3, AV.i64 r4, AV.oref 2 1 0 r5.length]⟩, ⟨1, some [AV.i64 0, AV.i64 0, AV.nilsl]⟩, ⟨1, some (L67.map AV.f32)⟩, ⟨1, some (L69.map AV.f32)⟩, ⟨1, some [AV.i64 r3, AV.i64 r4, AV.oref 2 1 0 r5.length]⟩, ⟨1, some [AV.i64 r6, AV.i64 r7, AV.oref 3 1 0 r8.length]⟩, ⟨u65, none⟩, ⟨u66, none⟩]) rfl siz27 rfl rfl rfl (ALe.refl _) rfl rfl rfl rfl (Nat.le_of_ble_eq_true rfl) rfl rfl ?_
              refine ROps.nil ?_
              refine RAny.more (i0 := 3) (l := []) (by kernel_rfl) (RAnys.cons rfl ?_ RAnys.nil)
              refine ROps.store_le (r := AV.agg [AV.i64 r6, AV.i64 r7, AV.oref 3 1 0 r8.length]) (l' := [AV.i64 r6, AV.i64 r7, AV.oref 3 1 0 r8.length]) (Γ' := [⟨1, some [AV.i64 r3, AV.i64 r4, AV.oref 2 1 0 r5.length]⟩, ⟨1, some [AV.i64 r6, AV.i64 r7, AV.oref 3 1 0 r8.length]⟩, ⟨1, some (L67.map AV.f32)⟩, ⟨1, some (L69.map AV.f32)⟩, ⟨1, some [AV.i64 r3, AV.i64 r4, AV.oref 2 1 0 r5.length]⟩, ⟨1, some [AV.i64 r6, AV.i64 r7, AV.oref 3 1 0 r8.length]⟩, ⟨u65, none⟩, ⟨u66, none⟩]) rfl siz27 rfl rfl rfl (ALe.refl _) rfl rfl rfl rfl (Nat.le_of_ble_eq_true rfl) rfl rfl ?_
              refine ROps.nil ?_
              refine RAny.more (i0 := 4) (l := []) (by kernel_rfl) (RAnys.cons rfl ?_ RAnys.nil)
              refine ROps.l (r := AV.b true) rfl rfl rfl (LOp.assign rfl rfl) ?_
              refine ROps.nil ?_
              refine RAny.done (by kernel_rfl) ?_
              exact ⟨⟨(ALe.refl _), (ALe.refl _), (ALe.refl _), (ALe.refl _), (ALe.refl _), (ALe.refl _), (ALe.refl _), trivial⟩, ⟨⟨rfl, .inr rfl⟩, ⟨rfl, .inr rfl⟩, ⟨rfl, .inr rfl⟩, ⟨rfl, .inr rfl⟩, ⟨rfl, .inr rfl⟩, ⟨rfl, .inr rfl⟩, ⟨rfl, .inl rfl⟩, ⟨rfl, .inl rfl⟩, trivial⟩⟩
            · refine ROps.store_le (r := AV.agg [AV.i64 r3, AV.i64 r4, AV.oref 2 1 0 r5.length]) (l' := [AV.i64 r3, AV.i64 r4, AV.oref 2 1 0 r5.length]) (Γ' := [⟨1, some [AV.i64 r3, AV.i64 r4, AV.oref 2 1 0 r5.length]⟩, ⟨1, some [AV.i64 0, AV.i64 0, AV.nilsl]⟩, ⟨1, some (L67.map AV.f32)⟩, ⟨1, some (L69.map AV.f32)⟩, ⟨1, some [AV.i64 r3, AV.i64 r4, AV.oref 2 1 0 r5.length]⟩, ⟨1, some [AV.i64 r6, AV.i64 r7, AV.oref 3 1 0 r8.length]⟩, ⟨u65, none⟩, ⟨u66, none⟩]) rfl siz27 rfl rfl rfl (ALe.refl _) rfl rfl rfl rfl (Nat.le_of_ble_eq_true rfl) rfl rfl ?_
              refine ROps.nil ?_
              refine RAny.more (i0 := 1) (l := []) (by kernel_rfl) (RAnys.cons rfl ?_ RAnys.nil)
              refine ROps.d (r := AV.agg [AV.i64 r6, AV.i64 r7, AV.oref 3 1 0 r8.length]) (fs := []) (Γ' := [⟨1, some [AV.i64 r3, AV.i64 r4, AV.oref 2 1 0 r5.length]⟩, ⟨1, some [AV.i64 0, AV.i64 0, AV.nilsl]⟩, ⟨1, some (L67.map AV.f32)⟩, ⟨1, some (L69.map AV.f32)⟩, ⟨1, some [AV.i64 r3, AV.i64 r4, AV.oref 2 1 0 r5.length]⟩, ⟨1, some [AV.i64 r6, AV.i64 r7, AV.oref 3 1 0 r8.length]⟩, ⟨u65, none⟩, ⟨u66, none⟩]) rfl rfl rfl (TOp.loadAgg_o rfl agg27 siz27 rfl rfl rfl rfl) rfl ?_
              refine ROps.nil ?_
              refine RAny.more (i0 := 3) (l := []) (by kernel_rfl) (RAnys.cons rfl ?_ RAnys.nil)
              refine ROps.store_le (r := AV.agg [AV.i64 r6, AV.i64 r7, AV.oref 3 1 0 r8.length]) (l' := [AV.i64 r6, AV.i64 r7, AV.oref 3 1 0 r8.length]) (Γ' := [⟨1, some [AV.i64 r3, AV.i64 r4, AV.oref 2 1 0 r5.length]⟩, ⟨1, some [AV.i64 r6, AV.i64 r7, AV.oref 3 1 0 r8.length]⟩, ⟨1, some (L67.map AV.f32)⟩, ⟨1, some (L69.map AV.f32)⟩, ⟨1, some [AV.i64 r3, AV.i64 r4, AV.oref 2 1 0 r5.length]⟩, ⟨1, some [AV.i64 r6, AV.i64 r7, AV.oref 3 1 0 r8.length]⟩, ⟨u65, none⟩, ⟨u66, none⟩]) rfl siz27 rfl rfl rfl (ALe.refl _) rfl rfl rfl rfl (Nat.le_of_ble_eq_true rfl) rfl rfl ?_
              refine ROps.nil ?_
              refine RAny.more (i0 := 4) (l := []) (by kernel_rfl) (RAnys.cons rfl ?_ RAnys.nil)
              refine ROps.l (r := AV.b true) rfl rfl rfl (LOp.assign rfl rfl) ?_
              refine ROps.nil ?_
              refine RAny.done (by kernel_rfl) ?_
              exact ⟨⟨(ALe.refl _), (ALe.refl _), (ALe.refl _), (ALe.refl _), (ALe.refl _), (ALe.refl _), (ALe.refl _), trivial⟩, ⟨⟨rfl, .inr rfl⟩, ⟨rfl, .inr rfl⟩, ⟨rfl, .inr rfl⟩, ⟨rfl, .inr rfl⟩, ⟨rfl, .inr rfl⟩, ⟨rfl, .inr rfl⟩, ⟨rfl, .inl rfl⟩, ⟨rfl, .inl rfl⟩, trivial⟩⟩
          · refine ROps.d (r := AV.agg [AV.i64 r6, AV.i64 r7, AV.oref 3 1 0 r8.length]) (fs := []) (Γ' := [⟨1, some [AV.i64 0, AV.i64 0, AV.nilsl]⟩, ⟨1, some [AV.i64 0, AV.i64 0, AV.nilsl]⟩, ⟨1, some (L67.map AV.f32)⟩, ⟨1, some (L69.map AV.f32)⟩, ⟨1, some [AV.i64 r3, AV.i64 r4, AV.oref 2 1 0 r5.length]⟩, ⟨1, some [AV.i64 r6, AV.i64 r7, AV.oref 3 1 0 r8.length]⟩, ⟨u65, none⟩, ⟨u66, none⟩]) rfl rfl rfl (TOp.loadAgg_o rfl agg27 siz27 rfl rfl rfl rfl) rfl ?_
            refine ROps.nil ?_
            refine RAny.more (i0 := 0) (l := []) (by kernel_rfl) (RAnys.cons rfl ?_ RAnys.nil)
            refine ROps.d (r := AV.agg [AV.i64 r3, AV.i64 r4, AV.oref 2 1 0 r5.length]) (fs := []) (Γ' := [⟨1, some [AV.i64 0, AV.i64 0, AV.nilsl]⟩, ⟨1, some [AV.i64 0, AV.i64 0, AV.nilsl]⟩, ⟨1, some (L67.map AV.f32)⟩, ⟨1, some (L69.map AV.f32)⟩, ⟨1, some [AV.i64 r3, AV.i64 r4, AV.oref 2 1 0 r5.length]⟩, ⟨1, some [AV.i64 r6, AV.i64 r7, AV.oref 3 1 0 r8.length]⟩, ⟨u65, none⟩, ⟨u66, none⟩]) rfl rfl rfl (TOp.loadAgg_o rfl agg27 siz27 rfl rfl rfl rfl) rfl ?_
            refine ROps.nil ?_
            refine RAny.more (i0 := 2) (l := []) (by kernel_rfl) (RAnys.cons rfl ?_ RAnys.nil)
            refine ROps.store_le (r := AV.agg [AV.i64 r3, AV.i64 r4, AV.oref 2 1 0 r5.length]) (l' := [AV.i64 r3, AV.i64 r4, AV.oref 2 1 0 r5.length]) (Γ' := [⟨1, some [AV.i64 r3, AV.i64 r4, AV.oref 2 1 0 r5.length]⟩, ⟨1, some [AV.i64 0, AV.i64 0, AV.nilsl]⟩, ⟨1, some (L67.map AV.f32)⟩, ⟨1, some (L69.map AV.f32)⟩, ⟨1, some [AV.i64 r3, AV.i64 r4, AV.oref 2 1 0 r5.length]⟩, ⟨1, some [AV.i64 r6, AV.i64 r7, AV.oref 3 1 0 r8.length]⟩, ⟨u65, none⟩, ⟨u66, none⟩]) rfl siz27 rfl rfl rfl (ALe.refl _) rfl rfl rfl rfl (Nat.le_of_ble_eq_true rfl) rfl rfl ?_
            refine ROps.nil ?_
            refine RAny.more (i0 := 3) (l := []) (by kernel_rfl) (RAnys.cons rfl ?_ RAnys.nil)
            refine ROps.store_le (r := AV.agg [AV.i64 r6, AV.i64 r7, AV.oref 3 1 0 r8.length]) (l' := [AV.i64 r6, AV.i64 r7, AV.oref 3 1 0 r8.length]) (Γ' := [⟨1, some [AV.i64 r3, AV.i64 r4, AV.oref 2 1 0 r5.length]⟩, ⟨1, some [AV.i64 r6, AV.i64 r7, AV.oref 3 1 0 r8.length]⟩, ⟨1, some (L67.map AV.f32)⟩, ⟨1, some (L69.map AV.f32)⟩, ⟨1, some [AV.i64 r3, AV.i64 r4, AV.oref 2 1 0 r5.length]⟩, ⟨1, some [AV.i64 r6, AV.i64 r7, AV.oref 3 1 0 r8.length]⟩, ⟨u65, none⟩, ⟨u66, none⟩]) rfl siz27 rfl rfl rfl (ALe.refl _) rfl rfl rfl rfl (Nat.le_of_ble_eq_true rfl) rfl rfl ?_
            refine ROps.nil ?_
            refine RAny.more (i0 := 4) (l := []) (by kernel_rfl) (RAnys.cons rfl ?_ RAnys.nil)
            refine ROps.l (r := AV.b true) rfl rfl rfl (LOp.assign rfl rfl) ?_
            refine ROps.nil ?_
            refine RAny.done (by kernel_rfl) ?_
            exact ⟨⟨(ALe.refl _), (ALe.refl _), (ALe.refl _), (ALe.refl _), (ALe.refl _), (ALe.refl _), (ALe.refl _), trivial⟩, ⟨⟨rfl, .inr rfl⟩, ⟨rfl, .inr rfl⟩, ⟨rfl, .inr rfl⟩, ⟨rfl, .inr rfl⟩, ⟨rfl, .inr rfl⟩, ⟨rfl, .inr rfl⟩, ⟨rfl, .inl rfl⟩, ⟨rfl, .inl rfl⟩, trivial⟩⟩
        · rintro τ32 Γ32 ⟨hw32, hd32⟩
          refine RunC.wl (τ' := [(4, AV.optr 0 1 0), (5, AV.optr 1 1 0), (6, AV.b true), (7, AV.optr 4 1 0), (8, AV.optr 5 1 0), (108, AV.agg [AV.i64 r3, AV.i64 r4, AV.oref 2 1 0 r5.length]), (109, AV.agg [AV.i64 r6, AV.i64 r7, AV.oref 3 1 0 r8.length])]) (Γ' := [⟨1, some [AV.i64 r3, AV.i64 r4, AV.oref 2 1 0 r5.length]⟩, ⟨1, some [AV.i64 r6, AV.i64 r7, AV.oref 3 1 0 r8.length]⟩, ⟨1, some (L67.map AV.f32)⟩, ⟨1, some (L69.map AV.f32)⟩, ⟨1, some [AV.i64 r3, AV.i64 r4, AV.oref 2 1 0 r5.length]⟩, ⟨1, some [AV.i64 r6, AV.i64 r7, AV.oref 3 1 0 r8.length]⟩, ⟨u65, none⟩, ⟨u66, none⟩]) hw32 hd32 ?_
          refine RunC.ret ?_
          have hq := Option.some.inj h
          obtain ⟨hq0, hq⟩ := Prod.mk.inj hq
          obtain ⟨hq1, hq⟩ := Prod.mk.inj hq
          obtain ⟨hq2, hq⟩ := Prod.mk.inj hq
          obtain ⟨hq3, hq⟩ := Prod.mk.inj hq
          obtain ⟨hq4, hq⟩ := Prod.mk.inj hq
          obtain ⟨hq5, hq⟩ := Prod.mk.inj hq
          subst q0
          subst q1
          subst q2
          subst q3
          subst q4
          subst q5
          subst q6
          exact bodyQ.mk (r' := AV.tup [AV.agg [AV.i64 r3, AV.i64 r4, AV.oref 2 1 0 L67.length], AV.agg [AV.i64 r6, AV.i64 r7, AV.oref 3 1 0 L69.length], AV.b true]) [(2, 1), (3, 1)] (.inr rfl) rfl (show List.Nodup [2, 3] from by decide) rfl rfl (Res.eq (Res.three rfl (RV.cell agg27 siz27 rfl rfl rfl rfl) (RV.cell agg27 siz27 rfl rfl rfl rfl) (RV.tmp rfl)) (by rw [(show L67.length = r5.length from hl68), (show L69.length = r8.length from hl70)] <;> rfl)) (SelL.arr0 (f := AV.f32) (fun _ => rfl) rfl (SelL.arr0 (f := AV.f32) (fun _ => rfl) rfl trivial))
    · refine RunC.regionW ?_
      refine ROps.l (r := AV.agg [AV.i64 a0, AV.i64 a1, AV.sl a2.length (a2.map AV.f32)]) rfl rfl rfl (LOp.loadAgg agg27 siz27 rfl rfl rfl rfl) ?_
      refine ROps.d (r := AV.b true) (fs := []) (Γ' := [⟨1, some [AV.i64 0, AV.i64 0, AV.nilsl]⟩, ⟨1, some [AV.i64 0, AV.i64 0, AV.nilsl]⟩, ⟨0, none⟩, ⟨0, none⟩, ⟨0, none⟩, ⟨0, none⟩, ⟨0, none⟩, ⟨0, none⟩]) rfl rfl rfl (TOp.eqb (TOp.callB (CallAs.func ent80 rfl rfl) (Bors.cons (Bor.agg (Bors.cons (Bor.pure rfl) (Bors.cons (Bor.pure rfl) (Bors.cons (Bor.sl (fun _ => rfl)) Bors.nil)))) Bors.nil) rfl rfl (i_isTall_ok a0 a1 a2 r1 hf1)) hc2) rfl ?_
      refine ROps.l (r := AV.b false) rfl rfl rfl (LOp.eqb (LOp.not rfl rfl) rfl) ?_
      refine ROps.l (r := AV.b false) rfl rfl rfl (LOp.move rfl rfl) ?_
      refine ROps.l (r := AV.i64 a3) rfl rfl rfl (LOp.move rfl rfl) ?_
      refine ROps.d (r := AV.b false) (fs := []) (Γ' := [⟨1, some [AV.i64 0, AV.i64 0, AV.nilsl]⟩, ⟨1, some [AV.i64 0, AV.i64 0, AV.nilsl]⟩, ⟨0, none⟩, ⟨0, none⟩, ⟨0, none⟩, ⟨0, none⟩, ⟨0, none⟩, ⟨0, none⟩]) rfl rfl rfl (TOp.eqb (TOp.callB (CallAs.func ent81 rfl rfl) (Bors.cons (Bor.pure rfl) Bors.nil) rfl rfl (i_isRounds_ok a3 r2 hf3)) hc4) rfl ?_
      refine ROps.l (r := AV.b true) rfl rfl rfl (LOp.eqb (LOp.not rfl rfl) rfl) ?_
      refine ROps.l (r := AV.b true) rfl rfl rfl (LOp.pick_false rfl rfl rfl) ?_
      refine ROps.nil ?_
      refine RunC.cond_true rfl rfl ?_
      refine RunC.seq ?_
      refine RunC.regionW ?_
      refine ROps.l (r := AV.agg [AV.i64 0, AV.i64 0, AV.nilsl]) rfl rfl rfl (LOp.build (qs := []) zer27 zok27 und27 plc27 rfl trivial rfl) ?_
      refine ROps.l (r := AV.agg [AV.i64 0, AV.i64 0, AV.nilsl]) rfl rfl rfl (LOp.build (qs := []) zer27 zok27 und27 plc27 rfl trivial rfl) ?_
      refine ROps.store_le (r := AV.agg [AV.i64 0, AV.i64 0, AV.nilsl]) (l' := [AV.i64 0, AV.i64 0, AV.nilsl]) (Γ' := [⟨1, some [AV.i64 0, AV.i64 0, AV.nilsl]⟩, ⟨1, some [AV.i64 0, AV.i64 0, AV.nilsl]⟩, ⟨0, none⟩, ⟨0, none⟩, ⟨0, none⟩, ⟨0, none⟩, ⟨0, none⟩, ⟨0, none⟩]) rfl siz27 rfl rfl rfl (ALe.refl _) rfl rfl rfl rfl (Nat.le_of_ble_eq_true rfl) rfl rfl ?_
      refine ROps.store_le (r := AV.agg [AV.i64 0, AV.i64 0, AV.nilsl]) (l' := [AV.i64 0, AV.i64 0, AV.nilsl]) (Γ' := [⟨1, some [AV.i64 0, AV.i64 0, AV.nilsl]⟩, ⟨1, some [AV.i64 0, AV.i64 0, AV.nilsl]⟩, ⟨0, none⟩, ⟨0, none⟩, ⟨0, none⟩, ⟨0, none⟩, ⟨0, none⟩, ⟨0, none⟩]) rfl siz27 rfl rfl rfl (ALe.refl _) rfl rfl rfl rfl (Nat.le_of_ble_eq_true rfl) rfl rfl ?_
      refine ROps.l (r := AV.b false) rfl rfl rfl (LOp.assign rfl rfl) ?_
      refine ROps.nil ?_
      refine RunC.nil_cell (l' := [AV.i64 0, AV.i64 0, AV.oref 2 1 0 0]) (Γ' := [⟨1, some [AV.i64 0, AV.i64 0, AV.oref 2 1 0 0]⟩, ⟨1, some [AV.i64 0, AV.i64 0, AV.nilsl]⟩, ⟨1, some (([] : List F).map AV.f32)⟩, ⟨0, none⟩, ⟨0, none⟩, ⟨0, none⟩, ⟨0, none⟩, ⟨0, none⟩]) 0 2 2 rfl rfl rfl rfl rfl ?_
      refine RunC.nil_cell (l' := [AV.i64 0, AV.i64 0, AV.oref 3 1 0 0]) (Γ' := [⟨1, some [AV.i64 0, AV.i64 0, AV.oref 2 1 0 0]⟩, ⟨1, some [AV.i64 0, AV.i64 0, AV.oref 3 1 0 0]⟩, ⟨1, some (([] : List F).map AV.f32)⟩, ⟨1, some (([] : List F).map AV.f32)⟩, ⟨0, none⟩, ⟨0, none⟩, ⟨0, none⟩, ⟨0, none⟩]) 1 2 3 rfl rfl rfl rfl rfl ?_
      refine RunC.ret ?_
      have hq := Option.some.inj h
      obtain ⟨hq0, hq⟩ := Prod.mk.inj hq
      obtain ⟨hq1, hq⟩ := Prod.mk.inj hq
      obtain ⟨hq2, hq⟩ := Prod.mk.inj hq
      obtain ⟨hq3, hq⟩ := Prod.mk.inj hq
      obtain ⟨hq4, hq⟩ := Prod.mk.inj hq
      obtain ⟨hq5, hq⟩ := Prod.mk.inj hq
      subst q0
      subst q1
      subst q2
      subst q3
      subst q4
      subst q5
      subst q6
      exact bodyQ.mk (r' := AV.tup [AV.agg [AV.i64 0, AV.i64 0, AV.oref 2 1 0 (([] : List F).length)], AV.agg [AV.i64 0, AV.i64 0, AV.oref 3 1 0 (([] : List F).length)], AV.b false]) [(2, 1), (3, 1)] (.inr rfl) rfl (show List.Nodup [2, 3] from by decide) rfl rfl (Res.eq (Res.three rfl (RV.cell agg27 siz27 rfl rfl rfl rfl) (RV.cell agg27 siz27 rfl rfl rfl rfl) (RV.tmp rfl)) (by rw [(show ([] : List F).length = 0 from rfl)] <;> rfl)) (SelL.arr0 (f := AV.f32) (fun _ => rfl) rfl (SelL.arr0 (f := AV.f32) (fun _ => rfl) rfl trivial))
  · refine RunC.regionW ?_
    refine ROps.l (r := AV.agg [AV.i64 a0, AV.i64 a1, AV.sl a2.length (a2.map AV.f32)]) rfl rfl rfl (LOp.loadAgg agg27 siz27 rfl rfl rfl rfl) ?_
    refine ROps.d (r := AV.b false) (fs := []) (Γ' := [⟨1, some [AV.i64 0, AV.i64 0, AV.nilsl]⟩, ⟨1, some [AV.i64 0, AV.i64 0, AV.nilsl]⟩, ⟨0, none⟩, ⟨0, none⟩, ⟨0, none⟩, ⟨0, none⟩, ⟨0, none⟩, ⟨0, none⟩]) rfl rfl rfl (TOp.eqb (TOp.callB (CallAs.func ent80 rfl rfl) (Bors.cons (Bor.agg (Bors.cons (Bor.pure rfl) (Bors.cons (Bor.pure rfl) (Bors.cons (Bor.sl (fun _ => rfl)) Bors.nil)))) Bors.nil) rfl rfl (i_isTall_ok a0 a1 a2 r1 hf1)) hc2) rfl ?_
    refine ROps.l (r := AV.b true) rfl rfl rfl (LOp.eqb (LOp.not rfl rfl) rfl) ?_
    refine ROps.l (r := AV.b true) rfl rfl rfl (LOp.move rfl rfl) ?_
    refine ROps.s rfl rfl rfl ?_
    refine ROps.s rfl rfl rfl ?_
    refine ROps.s rfl rfl rfl ?_
    refine ROps.l (r := AV.b true) rfl rfl rfl (LOp.pick_true rfl rfl rfl) ?_
    refine ROps.nil ?_
    refine RunC.cond_true rfl rfl ?_
    refine RunC.seq ?_
    refine RunC.regionW ?_
    refine ROps.l (r := AV.agg [AV.i64 0, AV.i64 0, AV.nilsl]) rfl rfl rfl (LOp.build (qs := []) zer27 zok27 und27 plc27 rfl trivial rfl) ?_
    refine ROps.l (r := AV.agg [AV.i64 0, AV.i64 0, AV.nilsl]) rfl rfl rfl (LOp.build (qs := []) zer27 zok27 und27 plc27 rfl trivial rfl) ?_
    refine ROps.store_le (r := AV.agg [AV.i64 0, AV.i64 0, AV.nilsl]) (l' := [AV.i64 0, AV.i64 0, AV.nilsl]) (Γ' := [⟨1, some [AV.i64 0, AV.i64 0, AV.nilsl]⟩, ⟨1, some [AV.i64 0, AV.i64 0, AV.nilsl]⟩, ⟨0, none⟩, ⟨0, none⟩, ⟨0, none⟩, ⟨0, none⟩, ⟨0, none⟩, ⟨0, none⟩]) rfl siz27 rfl rfl rfl (ALe.refl _) rfl rfl rfl rfl (Nat.le_of_ble_eq_true rfl) rfl rfl ?_
    refine ROps.store_le (r := AV.agg [AV.i64 0, AV.i64 0, AV.nilsl]) (l' := [AV.i64 0, AV.i64 0, AV.nilsl]) (Γ' := [⟨1, some [AV.i64 0, AV.i64 0, AV.nilsl]⟩, ⟨1, some [AV.i64 0, AV.i64 0, AV.nilsl]⟩, ⟨0, none⟩, ⟨0, none⟩, ⟨0, none⟩, ⟨0, none⟩, ⟨0, none⟩, ⟨0, none⟩]) rfl siz27 rfl rfl rfl (ALe.refl _) rfl rfl rfl rfl (Nat.le_of_ble_eq_true rfl) rfl rfl ?_
    refine ROps.l (r := AV.b false) rfl rfl rfl (LOp.assign rfl rfl) ?_
    refine ROps.nil ?_
    refine RunC.nil_cell (l' := [AV.i64 0, AV.i64 0, AV.oref 2 1 0 0]) (Γ' := [⟨1, some [AV.i64 0, AV.i64 0, AV.oref 2 1 0 0]⟩, ⟨1, some [AV.i64 0, AV.i64 0, AV.nilsl]⟩, ⟨1, some (([] : List F).map AV.f32)⟩, ⟨0, none⟩, ⟨0, none⟩, ⟨0, none⟩, ⟨0, none⟩, ⟨0, none⟩]) 0 2 2 rfl rfl rfl rfl rfl ?_
    refine RunC.nil_cell (l' := [AV.i64 0, AV.i64 0, AV.oref 3 1 0 0]) (Γ' := [⟨1, some [AV.i64 0, AV.i64 0, AV.oref 2 1 0 0]⟩, ⟨1, some [AV.i64 0, AV.i64 0, AV.oref 3 1 0 0]⟩, ⟨1, some (([] : List F).map AV.f32)⟩, ⟨1, some (([] : List F).map AV.f32)⟩, ⟨0, none⟩, ⟨0, none⟩, ⟨0, none⟩, ⟨0, none⟩]) 1 2 3 rfl rfl rfl rfl rfl ?_
    refine RunC.ret ?_
    have hq := Option.some.inj h
    obtain ⟨hq0, hq⟩ := Prod.mk.inj hq
    obtain ⟨hq1, hq⟩ := Prod.mk.inj hq
    obtain ⟨hq2, hq⟩ := Prod.mk.inj hq
    obtain ⟨hq3, hq⟩ := Prod.mk.inj hq
    obtain ⟨hq4, hq⟩ := Prod.mk.inj hq
    obtain ⟨hq5, hq⟩ := Prod.mk.inj hq
    subst q0
    subst q1
    subst q2
    subst q3
    subst q4
    subst q5
    subst q6
    exact bodyQ.mk (r' := AV.tup [AV.agg [AV.i64 0, AV.i64 0, AV.oref 2 1 0 (([] : List F).length)], AV.agg [AV.i64 0, AV.i64 0, AV.oref 3 1 0 (([] : List F).length)], AV.b false]) [(2, 1), (3, 1)] (.inr rfl) rfl (show List.Nodup [2, 3] from by decide) rfl rfl (Res.eq (Res.three rfl (RV.cell agg27 siz27 rfl rfl rfl rfl) (RV.cell agg27 siz27 rfl rfl rfl rfl) (RV.tmp rfl)) (by rw [(show ([] : List F).length = 0 from rfl)] <;> rfl)) (SelL.arr0 (f := AV.f32) (fun _ => rfl) rfl (SelL.arr0 (f := AV.f32) (fun _ => rfl) rfl trivial))
noncomputable def w_sameFloat_k1 (a0 : F) (a1 : F) : Option (Bool) :=
  some (feq .f64 a0 a1)
noncomputable def w_sameFloat (a0 : F) (a1 : F) : Option (Bool) :=
  bsel (!feq .f64 a0 a0) (
    some (!feq .f64 a1 a1)) (
    bsel (!feq .f64 a1 a1) (
      some false) (
      bsel (feq .f64 a0 (some 0)) (
        bsel (feq .f64 a1 (some 0)) (
          olet (fop .quo .f64 (some 4607182418800017408) a0) fun (x1 : F) =>
          olet (fop .quo .f64 (some 4607182418800017408) a1) fun (x2 : F) =>
          some ((flt .f64 (some 0) x1) == (flt .f64 (some 0) x2))) (
          w_sameFloat_k1 a0 a1)) (
        w_sameFloat_k1 a0 a1)))
theorem w_sameFloat_ok (a0 : F) (a1 : F) (q0 : Bool) (h : w_sameFloat a0 a1 = some q0) : Ev Try.prog 21 [AV.f64 a0, AV.f64 a1] [] (AV.b q0) [] := by
  refine Ev.start Try.func21 rfl rfl 0 (τ := [(0, AV.f64 a0), (1, AV.f64 a1)]) rfl (Γ' := []) rfl (n := 37) rfl (g := 0) rfl ?_
  unfold w_sameFloat at h
  refine RunC.seq ?_
  refine RunC.regionW ?_
  refine ROps.l (r := AV.b false) rfl rfl rfl (LOp.assign rfl rfl) ?_
  refine ROps.nil ?_
  refine RunC.seq ?_
  refine RunC.seq ?_
  rcases bsel_some h with ⟨hc1, h⟩ | ⟨hc1, h⟩
  · refine RunC.regionW ?_
    refine ROps.l (r := AV.f64 a0) rfl rfl rfl (LOp.move rfl rfl) ?_
    refine ROps.l (r := AV.f64 a0) rfl rfl rfl (LOp.move rfl rfl) ?_
    refine ROps.l (r := AV.b true) rfl rfl rfl (LOp.eqb (LOp.fne rfl (OpF.tmp rfl) (OpF.tmp rfl)) hc1) ?_
    refine ROps.l (r := AV.b true) rfl rfl rfl (LOp.move rfl rfl) ?_
    refine ROps.s rfl rfl rfl ?_
    refine ROps.s rfl rfl rfl ?_
    refine ROps.s rfl rfl rfl ?_
    refine ROps.l (r := AV.b true) rfl rfl rfl (LOp.pick_true rfl rfl rfl) ?_
    refine ROps.nil ?_
    refine RunC.cond_true rfl rfl ?_
    refine RunC.seq ?_
    refine RunC.regionW ?_
    refine ROps.l (r := AV.f64 a0) rfl rfl rfl (LOp.move rfl rfl) ?_
    refine ROps.l (r := AV.f64 a0) rfl rfl rfl (LOp.move rfl rfl) ?_
    refine ROps.l (r := AV.b true) rfl rfl rfl (LOp.eqb (LOp.fne rfl (OpF.tmp rfl) (OpF.tmp rfl)) hc1) ?_
    refine ROps.l (r := AV.b true) rfl rfl rfl (LOp.move rfl rfl) ?_
    refine ROps.l (r := AV.f64 a1) rfl rfl rfl (LOp.move rfl rfl) ?_
    refine ROps.l (r := AV.f64 a1) rfl rfl rfl (LOp.move rfl rfl) ?_
    refine ROps.l (r := AV.b (!feq .f64 a1 a1)) rfl rfl rfl (LOp.fne rfl (OpF.tmp rfl) (OpF.tmp rfl)) ?_
    refine ROps.l (r := AV.b (!feq .f64 a1 a1)) rfl rfl rfl (LOp.pick_true rfl rfl rfl) ?_
    refine ROps.l (r := AV.b (!feq .f64 a1 a1)) rfl rfl rfl (LOp.assign rfl rfl) ?_
    refine ROps.nil ?_
    refine RunC.ret ?_
    have hq := Option.some.inj h
    subst q0
    exact bodyQ.pure (.inr rfl) rfl (Res.one rfl (RV.tmp rfl))
  · rcases bsel_some h with ⟨hc2, h⟩ | ⟨hc2, h⟩
    · refine RunC.regionW ?_
      refine ROps.l (r := AV.f64 a0) rfl rfl rfl (LOp.move rfl rfl) ?_
      refine ROps.l (r := AV.f64 a0) rfl rfl rfl (LOp.move rfl rfl) ?_
      refine ROps.l (r := AV.b false) rfl rfl rfl (LOp.eqb (LOp.fne rfl (OpF.tmp rfl) (OpF.tmp rfl)) hc1) ?_
      refine ROps.l (r := AV.b false) rfl rfl rfl (LOp.move rfl rfl) ?_
      refine ROps.l (r := AV.f64 a1) rfl rfl rfl (LOp.move rfl rfl) ?_
      refine ROps.l (r := AV.f64 a1) rfl rfl rfl (LOp.move rfl rfl) ?_
      refine ROps.l (r := AV.b true) rfl rfl rfl (LOp.eqb (LOp.fne rfl (OpF.tmp rfl) (OpF.tmp rfl)) hc2) ?_
      refine ROps.l (r := AV.b true) rfl rfl rfl (LOp.pick_false rfl rfl rfl) ?_
      refine ROps.nil ?_
      refine RunC.cond_true rfl rfl ?_
      refine RunC.seq ?_
      refine RunC.regionW ?_
      refine ROps.l (r := AV.f64 a0) rfl rfl rfl (LOp.move rfl rfl) ?_
      refine ROps.l (r := AV.f64 a0) rfl rfl rfl (LOp.move rfl rfl) ?_
      refine ROps.l (r := AV.b false) rfl rfl rfl (LOp.eqb (LOp.fne rfl (OpF.tmp rfl) (OpF.tmp rfl)) hc1) ?_
      refine ROps.l (r := AV.b false) rfl rfl rfl (LOp.move rfl rfl) ?_
      refine ROps.s rfl rfl rfl ?_
      refine ROps.s rfl rfl rfl ?_
      refine ROps.s rfl rfl rfl ?_
      refine ROps.l (r := AV.b false) rfl rfl rfl (LOp.pick_false rfl rfl rfl) ?_
      refine ROps.l (r := AV.b false) rfl rfl rfl (LOp.assign rfl rfl) ?_
      refine ROps.nil ?_
      refine RunC.ret ?_
      have hq := Option.some.inj h
      subst q0
      exact bodyQ.pure (.inr rfl) rfl (Res.one rfl (RV.tmp rfl))
    · refine RunC.regionW ?_
      refine ROps.l (r := AV.f64 a0) rfl rfl rfl (LOp.move rfl rfl) ?_
      refine ROps.l (r := AV.f64 a0) rfl rfl rfl (LOp.move rfl rfl) ?_
      refine ROps.l (r := AV.b false) rfl rfl rfl (LOp.eqb (LOp.fne rfl (OpF.tmp rfl) (OpF.tmp rfl)) hc1) ?_
      refine ROps.l (r := AV.b false) rfl rfl rfl (LOp.move rfl rfl) ?_
      refine ROps.l (r := AV.f64 a1) rfl rfl rfl (LOp.move rfl rfl) ?_
      refine ROps.l (r := AV.f64 a1) rfl rfl rfl (LOp.move rfl rfl) ?_
      refine ROps.l (r := AV.b false) rfl rfl rfl (LOp.eqb (LOp.fne rfl (OpF.tmp rfl) (OpF.tmp rfl)) hc2) ?_
      refine ROps.l (r := AV.b false) rfl rfl rfl (LOp.pick_false rfl rfl rfl) ?_
      refine ROps.nil ?_
      refine RunC.cond_false rfl rfl ?_
      refine RunC.skip ?_
      refine RunC.seq ?_
      refine RunC.cutN (fun τ Γ =>  WeakLe τ [(0, AV.f64 a0), (1, AV.f64 a1)] ∧ DeadLe Γ [] ∧ w_sameFloat_k1 a0 a1 = some q0) ?_ ?_
      · refine RunC.seq ?_
        rcases bsel_some h with ⟨hc3, h⟩ | ⟨hc3, h⟩
        · rcases bsel_some h with ⟨hc4, h⟩ | ⟨hc4, h⟩
          · refine RunC.regionW ?_
            refine ROps.l (r := AV.f64 a0) rfl rfl rfl (LOp.move rfl rfl) ?_
            refine ROps.l (r := AV.b true) rfl rfl rfl (LOp.eqb (LOp.feq rfl (OpF.tmp rfl) (OpF.const rfl (by kernel_rfl) (by kernel_rfl))) hc3) ?_
            refine ROps.l (r := AV.b true) rfl rfl rfl (LOp.move rfl rfl) ?_
            refine ROps.l (r := AV.f64 a1) rfl rfl rfl (LOp.move rfl rfl) ?_
            refine ROps.l (r := AV.b true) rfl rfl rfl (LOp.eqb (LOp.feq rfl (OpF.tmp rfl) (OpF.const rfl (by kernel_rfl) (by kernel_rfl))) hc4) ?_
            refine ROps.l (r := AV.b true) rfl rfl rfl (LOp.pick_true rfl rfl rfl) ?_
            refine ROps.nil ?_
            refine RunC.wl (τ' := [(0, AV.f64 a0), (1, AV.f64 a1), (26, AV.b true)]) (Γ' := []) ⟨(ALe.refl _), (ALe.refl _), (ALe.refl _), trivial⟩ trivial ?_
            refine RunC.cond_true rfl rfl ?_
            refine RunC.seq ?_
            obtain ⟨x1, hx5, h⟩ := olet_some h
            obtain ⟨x2, hx6, h⟩ := olet_some h
            refine RunC.regionW ?_
            refine ROps.l (r := AV.f64 a0) rfl rfl rfl (LOp.move rfl rfl) ?_
            refine ROps.d (r := AV.f64 x1) (fs := []) (Γ' := []) rfl rfl rfl (TOp.eqr (TOp.fop (.inr (.inr (.inr rfl))) rfl (OpF.const rfl (by kernel_rfl) (by kernel_rfl)) (OpF.tmp rfl)) (congrArg (AV.f .f64) hx5)) rfl ?_
            refine ROps.l (r := AV.b (flt .f64 (some 0) x1)) rfl rfl rfl (LOp.fgt rfl (OpF.tmp rfl) (OpF.const rfl (by kernel_rfl) (by kernel_rfl))) ?_
            refine ROps.l (r := AV.f64 a1) rfl rfl rfl (LOp.move rfl rfl) ?_
            refine ROps.d (r := AV.f64 x2) (fs := []) (Γ' := []) rfl rfl rfl (TOp.eqr (TOp.fop (.inr (.inr (.inr rfl))) rfl (OpF.const rfl (by kernel_rfl) (by kernel_rfl)) (OpF.tmp rfl)) (congrArg (AV.f .f64) hx6)) rfl ?_
            refine ROps.l (r := AV.b (flt .f64 (some 0) x2)) rfl rfl rfl (LOp.fgt rfl (OpF.tmp rfl) (OpF.const rfl (by kernel_rfl) (by kernel_rfl))) ?_
            refine ROps.l (r := AV.b ((flt .f64 (some 0) x1) == (flt .f64 (some 0) x2))) rfl rfl rfl (LOp.eqlb pun4 rfl rfl rfl) ?_
            refine ROps.l (r := AV.b ((flt .f64 (some 0) x1) == (flt .f64 (some 0) x2))) rfl rfl rfl (LOp.assign rfl rfl) ?_
            refine ROps.nil ?_
            refine RunC.ret ?_
            have hq := Option.some.inj h
            subst q0
            exact bodyQ.pure (.inr rfl) rfl (Res.one rfl (RV.tmp rfl))
          · refine RunC.regionW ?_
            refine ROps.l (r := AV.f64 a0) rfl rfl rfl (LOp.move rfl rfl) ?_
            refine ROps.l (r := AV.b true) rfl rfl rfl (LOp.eqb (LOp.feq rfl (OpF.tmp rfl) (OpF.const rfl (by kernel_rfl) (by kernel_rfl))) hc3) ?_
            refine ROps.l (r := AV.b true) rfl rfl rfl (LOp.move rfl rfl) ?_
            refine ROps.l (r := AV.f64 a1) rfl rfl rfl (LOp.move rfl rfl) ?_
            refine ROps.l (r := AV.b false) rfl rfl rfl (LOp.eqb (LOp.feq rfl (OpF.tmp rfl) (OpF.const rfl (by kernel_rfl) (by kernel_rfl))) hc4) ?_
            refine ROps.l (r := AV.b false) rfl rfl rfl (LOp.pick_true rfl rfl rfl) ?_
            refine ROps.nil ?_
            refine RunC.wl (τ' := [(0, AV.f64 a0), (1, AV.f64 a1), (26, AV.b false)]) (Γ' := []) ⟨(ALe.refl _), (ALe.refl _), (ALe.refl _), trivial⟩ trivial ?_
            refine RunC.cond_false rfl rfl ?_
            refine RunC.skip ?_
            exact ⟨⟨(ALe.refl _), (ALe.refl _), trivial⟩, trivial, h⟩
        · refine RunC.regionW ?_
          refine ROps.l (r := AV.f64 a0) rfl rfl rfl (LOp.move rfl rfl) ?_
          refine ROps.l (r := AV.b false) rfl rfl rfl (LOp.eqb (LOp.feq rfl (OpF.tmp rfl) (OpF.const rfl (by kernel_rfl) (by kernel_rfl))) hc3) ?_
          refine ROps.l (r := AV.b false) rfl rfl rfl (LOp.move rfl rfl) ?_
          refine ROps.s rfl rfl rfl ?_
          refine ROps.s rfl rfl rfl ?_
          refine ROps.l (r := AV.b false) rfl rfl rfl (LOp.pick_false rfl rfl rfl) ?_
          refine ROps.nil ?_
          refine RunC.wl (τ' := [(0, AV.f64 a0), (1, AV.f64 a1), (26, AV.b false)]) (Γ' := []) ⟨(ALe.refl _), (ALe.refl _), (ALe.refl _), trivial⟩ trivial ?_
          refine RunC.cond_false rfl rfl ?_
          refine RunC.skip ?_
          exact ⟨⟨(ALe.refl _), (ALe.refl _), trivial⟩, trivial, h⟩
      · rintro τ2 Γ2 ⟨hw2, hd2, h⟩
        refine RunC.wl (τ' := [(0, AV.f64 a0), (1, AV.f64 a1)]) (Γ' := []) hw2 hd2 ?_
        unfold w_sameFloat_k1 at h
        refine RunC.seq ?_
        refine RunC.regionW ?_
        refine ROps.l (r := AV.f64 a0) rfl rfl rfl (LOp.move rfl rfl) ?_
        refine ROps.l (r := AV.f64 a1) rfl rfl rfl (LOp.move rfl rfl) ?_
        refine ROps.l (r := AV.b (feq .f64 a0 a1)) rfl rfl rfl (LOp.feq rfl (OpF.tmp rfl) (OpF.tmp rfl)) ?_
        refine ROps.l (r := AV.b (feq .f64 a0 a1)) rfl rfl rfl (LOp.assign rfl rfl) ?_
        refine ROps.nil ?_
        refine RunC.ret ?_
        have hq := Option.some.inj h
        subst q0
        exact bodyQ.pure (.inr rfl) rfl (Res.one rfl (RV.tmp rfl))
noncomputable def w_eqFloat32S_b1 (a0 : List F) (a1 : List F) (v1 : Int) : Option (LR (Int) (Unit) (Bool)) :=
  bsel (decide (v1 < (a0.length : Int))) (
    obind (at? a0 v1) fun (e2 : F) =>
    olet (fwiden e2) fun (x3 : F) =>
    obind (at? a1 v1) fun (e4 : F) =>
    olet (fwiden e4) fun (x5 : F) =>
    obind (w_sameFloat x3 x5) fun (r6 : Bool) =>
    bsel r6 (
      olet (IntKind.i64.wrap (v1 + 1)) fun (x7 : Int) =>
      some (LR.next x7)) (
      some (LR.ret false))) (
    some (LR.out ()))
noncomputable def w_eqFloat32S_s1 (a0 : List F) (a1 : List F) : (Int) → Option (LR (Int) (Unit) (Bool)) := fun s => w_eqFloat32S_b1 a0 a1 s
noncomputable def w_eqFloat32S_k1  : Option (Bool) :=
  some true
noncomputable def w_eqFloat32S (a0 : List F) (a1 : List F) : Option (Bool) :=
  bsel (!decide ((a0.length : Int) = (a1.length : Int))) (
    some false) (
    obind (loopM (w_eqFloat32S_s1 a0 a1) 0) fun z => osum z (fun _ => w_eqFloat32S_k1) (fun r => some r))
theorem w_eqFloat32S_ok (a0 : List F) (a1 : List F) (q0 : Bool) (h : w_eqFloat32S a0 a1 = some q0) : Ev Try.prog 24 [AV.sl a0.length (a0.map AV.f32), AV.sl a1.length (a1.map AV.f32)] [] (AV.b q0) [] := by
  refine Ev.start Try.func24 rfl rfl 0 (τ := [(0, AV.sl a0.length (a0.map AV.f32)), (1, AV.sl a1.length (a1.map AV.f32))]) rfl (Γ' := []) rfl (n := 29) rfl (g := 0) rfl ?_
  unfold w_eqFloat32S at h
  refine RunC.seq ?_
  refine RunC.regionW ?_
  refine ROps.l (r := AV.b false) rfl rfl rfl (LOp.assign rfl rfl) ?_
  refine ROps.nil ?_
  refine RunC.seq ?_
  refine RunC.seq ?_
  rcases bsel_some h with ⟨hc1, h⟩ | ⟨hc1, h⟩
  · refine RunC.regionW ?_
    refine ROps.l (r := AV.sl a0.length (a0.map AV.f32)) rfl rfl rfl (LOp.move rfl rfl) ?_
    refine ROps.l (r := AV.i64 (a0.length : Int)) rfl rfl rfl (LOp.len_sl und22 rfl rfl) ?_
    refine ROps.l (r := AV.sl a1.length (a1.map AV.f32)) rfl rfl rfl (LOp.move rfl rfl) ?_
    refine ROps.l (r := AV.i64 (a1.length : Int)) rfl rfl rfl (LOp.len_sl und22 rfl rfl) ?_
    refine ROps.l (r := AV.b true) rfl rfl rfl (LOp.eqb (LOp.neq rfl rfl rfl) hc1) ?_
    refine ROps.nil ?_
    refine RunC.cond_true rfl rfl ?_
    refine RunC.seq ?_
    refine RunC.regionW ?_
    refine ROps.l (r := AV.b false) rfl rfl rfl (LOp.assign rfl rfl) ?_
    refine ROps.nil ?_
    refine RunC.ret ?_
    have hq := Option.some.inj h
    subst q0
    exact bodyQ.pure (.inr rfl) rfl (Res.one rfl (RV.tmp rfl))
  · refine RunC.regionW ?_
    refine ROps.l (r := AV.sl a0.length (a0.map AV.f32)) rfl rfl rfl (LOp.move rfl rfl) ?_
    refine ROps.l (r := AV.i64 (a0.length : Int)) rfl rfl rfl (LOp.len_sl und22 rfl rfl) ?_
    refine ROps.l (r := AV.sl a1.length (a1.map AV.f32)) rfl rfl rfl (LOp.move rfl rfl) ?_
    refine ROps.l (r := AV.i64 (a1.length : Int)) rfl rfl rfl (LOp.len_sl und22 rfl rfl) ?_
    refine ROps.l (r := AV.b false) rfl rfl rfl (LOp.eqb (LOp.neq rfl rfl rfl) hc1) ?_
    refine ROps.nil ?_
    refine RunC.cond_false rfl rfl ?_
    refine RunC.skip ?_
    refine RunC.seq ?_
    refine RunC.seq ?_
    refine RunC.regionW ?_
    refine ROps.l (r := AV.i64 0) rfl rfl rfl (LOp.assign rfl rfl) ?_
    refine ROps.nil ?_
    obtain ⟨z2, hz_2, h⟩ := obind_some h
    refine RunC.cutN (fun τ Γ => WeakLe τ [] ∧ DeadLe Γ [] ∧ z2 = .inl ()) ?_ ?_
    · refine RunC.block (RunC.loop (RunL.loopM (x := z2) (w_eqFloat32S_s1 a0 a1) (fun (s : Int) τ Γ => WeakLe τ [(0, AV.sl a0.length (a0.map AV.f32)), (1, AV.sl a1.length (a1.map AV.f32)), (5, AV.i64 s)] ∧ DeadLe Γ []) ?_ _ _ _ hz_2 ⟨⟨(ALe.refl _), (ALe.refl _), (ALe.refl _), trivial⟩, trivial⟩))
      rintro v1 τ2 Γ2 y2_ ⟨hw2, hd2⟩ h2_ ho2 hr2
      refine RunC.wl (τ' := [(0, AV.sl a0.length (a0.map AV.f32)), (1, AV.sl a1.length (a1.map AV.f32)), (5, AV.i64 v1)]) (Γ' := []) hw2 hd2 ?_
      replace h2_ : w_eqFloat32S_b1 a0 a1 v1 = some y2_ := h2_
      unfold w_eqFloat32S_b1 at h2_
      refine RunC.seq ?_
      refine RunC.seq ?_
      rcases bsel_some h2_ with ⟨hc2, h2_⟩ | ⟨hc2, h2_⟩
      · refine RunC.regionW ?_
        refine ROps.l (r := AV.i64 v1) rfl rfl rfl (LOp.move rfl rfl) ?_
        refine ROps.l (r := AV.sl a0.length (a0.map AV.f32)) rfl rfl rfl (LOp.move rfl rfl) ?_
        refine ROps.l (r := AV.i64 (a0.length : Int)) rfl rfl rfl (LOp.len_sl und22 rfl rfl) ?_
        refine ROps.l (r := AV.b true) rfl rfl rfl (LOp.eqb (LOp.lss rfl rfl rfl) hc2) ?_
        refine ROps.nil ?_
        refine RunC.cond_true rfl rfl ?_
        refine RunC.skip ?_
        refine RunC.seq ?_
        refine RunC.block ?_
        refine RunC.seq ?_
        obtain ⟨e2, he3, h2_⟩ := obind_some h2_
        obtain ⟨x3, hx4, h2_⟩ := olet_some h2_
        obtain ⟨e4, he5, h2_⟩ := obind_some h2_
        obtain ⟨x5, hx6, h2_⟩ := olet_some h2_
        obtain ⟨r6, hf7, h2_⟩ := obind_some h2_
        rcases bsel_some h2_ with ⟨hc8, h2_⟩ | ⟨hc8, h2_⟩
        · refine RunC.region_draw (Γ' := []) 12 mixed 
            (TR.l (r := AV.sl a0.length (a0.map AV.f32)) rfl rfl (LOp.move rfl rfl) <|
            (TR.l (r := AV.i64 v1) rfl rfl (LOp.move rfl rfl) <|
            (TR.l (r := AV.ptr [AV.f32 e2]) rfl rfl (LOp.le (LOp.ix (f := AV.f32) und22 siz25 rfl rfl rfl rfl he3) ALe.ptr) <|
            (TR.l (r := AV.f32 e2) rfl rfl (LOp.load1 agg25 rfl rfl) <|
            (TR.d (r := AV.f64 x3) (fs := []) rfl rfl (TOp.eqr (TOp.widen (src := 25) (dst := 40) ⟨_, pun25⟩ pun40 rfl (OpF.tmp rfl)) (congrArg (AV.f .f64) hx4)) <|
            (TR.l (r := AV.sl a1.length (a1.map AV.f32)) rfl rfl (LOp.move rfl rfl) <|
            (TR.l (r := AV.i64 v1) rfl rfl (LOp.move rfl rfl) <|
            (TR.l (r := AV.ptr [AV.f32 e4]) rfl rfl (LOp.le (LOp.ix (f := AV.f32) und22 siz25 rfl rfl rfl rfl he5) ALe.ptr) <|
            (TR.l (r := AV.f32 e4) rfl rfl (LOp.load1 agg25 rfl rfl) <|
            (TR.d (r := AV.f64 x5) (fs := []) rfl rfl (TOp.eqr (TOp.widen (src := 25) (dst := 40) ⟨_, pun25⟩ pun40 rfl (OpF.tmp rfl)) (congrArg (AV.f .f64) hx6)) <|
            (TR.d (r := AV.b true) (fs := []) rfl rfl (TOp.eqb (TOp.callB (CallAs.func ent21 rfl rfl) (Bors.cons (Bor.pure rfl) (Bors.cons (Bor.pure rfl) Bors.nil)) rfl rfl (w_sameFloat_ok x3 x5 r6 hf7)) hc8) <|
            (TR.l (r := AV.b false) rfl rfl (LOp.eqb (LOp.not rfl rfl) rfl) <|
            TR.nil)))))))))))) rfl (by kernel_rfl) rfl fills_nil rfl ?_
          iterate 12 refine ROps.dropS ?_
          refine ROps.drop0 ?_
          refine ROps.nil ?_
          refine RunC.wl (τ' := [(0, AV.sl a0.length (a0.map AV.f32)), (1, AV.sl a1.length (a1.map AV.f32)), (5, AV.i64 v1), (28, AV.b false)]) (Γ' := []) ⟨(ALe.refl _), (ALe.refl _), (ALe.refl _), (ALe.refl _), trivial⟩ trivial ?_
          refine RunC.cond_false rfl rfl ?_
          refine RunC.skip ?_
          obtain ⟨x7, hx9, h2_⟩ := olet_some h2_
          refine RunC.regionW ?_
          refine ROps.l (r := AV.i64 v1) rfl rfl rfl (LOp.move rfl rfl) ?_
          refine ROps.l (r := AV.i64 x7) rfl rfl rfl (LOp.eqr (LOp.add rfl rfl rfl) (congrArg (AV.ik .i64) hx9)) ?_
          refine ROps.l (r := AV.i64 x7) rfl rfl rfl (LOp.assign rfl rfl) ?_
          refine ROps.nil ?_
          cases Option.some.inj h2_
          exact ⟨_, rfl, ⟨(ALe.refl _), (ALe.refl _), (ALe.refl _), trivial⟩, trivial⟩
        · refine RunC.region_draw (Γ' := []) 12 mixed 
            (TR.l (r := AV.sl a0.length (a0.map AV.f32)) rfl rfl (LOp.move rfl rfl) <|
            (TR.l (r := AV.i64 v1) rfl rfl (LOp.move rfl rfl) <|
            (TR.l (r := AV.ptr [AV.f32 e2]) rfl rfl (LOp.le (LOp.ix (f := AV.f32) und22 siz25 rfl rfl rfl rfl he3) ALe.ptr) <|
            (TR.l (r := AV.f32 e2) rfl rfl (LOp.load1 agg25 rfl rfl) <|
            (TR.d (r := AV.f64 x3) (fs := []) rfl rfl (TOp.eqr (TOp.widen (src := 25) (dst := 40) ⟨_, pun25⟩ pun40 rfl (OpF.tmp rfl)) (congrArg (AV.f .f64) hx4)) <|
            (TR.l (r := AV.sl a1.length (a1.map AV.f32)) rfl rfl (LOp.move rfl rfl) <|
            (TR.l (r := AV.i64 v1) rfl rfl (LOp.move rfl rfl) <|
            (TR.l (r := AV.ptr [AV.f32 e4]) rfl rfl (LOp.le (LOp.ix (f := AV.f32) und22 siz25 rfl rfl rfl rfl he5) ALe.ptr) <|
            (TR.l (r := AV.f32 e4) rfl rfl (LOp.load1 agg25 rfl rfl) <|
            (TR.d (r := AV.f64 x5) (fs := []) rfl rfl (TOp.eqr (TOp.widen (src := 25) (dst := 40) ⟨_, pun25⟩ pun40 rfl (OpF.tmp rfl)) (congrArg (AV.f .f64) hx6)) <|
            (TR.d (r := AV.b false) (fs := []) rfl rfl (TOp.eqb (TOp.callB (CallAs.func ent21 rfl rfl) (Bors.cons (Bor.pure rfl) (Bors.cons (Bor.pure rfl) Bors.nil)) rfl rfl (w_sameFloat_ok x3 x5 r6 hf7)) hc8) <|
            (TR.l (r := AV.b true) rfl rfl (LOp.eqb (LOp.not rfl rfl) rfl) <|
            TR.nil)))))))))))) rfl (by kernel_rfl) rfl fills_nil rfl ?_
          iterate 12 refine ROps.dropS ?_
          refine ROps.drop0 ?_
          refine ROps.nil ?_
          refine RunC.wl (τ' := [(0, AV.sl a0.length (a0.map AV.f32)), (1, AV.sl a1.length (a1.map AV.f32)), (5, AV.i64 v1), (28, AV.b true)]) (Γ' := []) ⟨(ALe.refl _), (ALe.refl _), (ALe.refl _), (ALe.refl _), trivial⟩ trivial ?_
          refine RunC.cond_true rfl rfl ?_
          refine RunC.seq ?_
          refine RunC.regionW ?_
          refine ROps.l (r := AV.b false) rfl rfl rfl (LOp.assign rfl rfl) ?_
          refine ROps.nil ?_
          refine RunC.ret ?_
          cases Option.some.inj h2_
          have hx3_ := hr2 _ rfl
          subst hx3_
          have hq := Option.some.inj h
          subst q0
          exact bodyQ.pure (.inr rfl) rfl (Res.one rfl (RV.tmp rfl))
      · refine RunC.regionW ?_
        refine ROps.l (r := AV.i64 v1) rfl rfl rfl (LOp.move rfl rfl) ?_
        refine ROps.l (r := AV.sl a0.length (a0.map AV.f32)) rfl rfl rfl (LOp.move rfl rfl) ?_
        refine ROps.l (r := AV.i64 (a0.length : Int)) rfl rfl rfl (LOp.len_sl und22 rfl rfl) ?_
        refine ROps.l (r := AV.b false) rfl rfl rfl (LOp.eqb (LOp.lss rfl rfl rfl) hc2) ?_
        refine ROps.nil ?_
        refine RunC.cond_false rfl rfl ?_
        refine RunC.exit ?_
        cases Option.some.inj h2_
        have hx := ho2 _ rfl
        exact ⟨trivial, trivial, hx⟩
    · rintro τ4 Γ4 ⟨hw4, hd4, rfl⟩
      refine RunC.wl (τ' := []) (Γ' := []) hw4 hd4 ?_
      replace h : w_eqFloat32S_k1 = some q0 := h
      unfold w_eqFloat32S_k1 at h
      refine RunC.seq ?_
      refine RunC.regionW ?_
      refine ROps.l (r := AV.b true) rfl rfl rfl (LOp.assign rfl rfl) ?_
      refine ROps.nil ?_
      refine RunC.ret ?_
      have hq := Option.some.inj h
      subst q0
      exact bodyQ.pure (.inr rfl) rfl (Res.one rfl (RV.tmp rfl))
noncomputable def w_eqMatrix (a0 : Int) (a1 : Int) (a2 : List F) (a3 : Int) (a4 : Int) (a5 : List F) : Option (Bool) :=
  bsel (!decide (a0 = a3)) (
    some false) (
    bsel (!decide (a1 = a4)) (
      some false) (
      obind (w_eqFloat32S a2 a5) fun (r1 : Bool) =>
      bsel r1 (
        some true) (
        some false)))
theorem w_eqMatrix_ok (a0 : Int) (a1 : Int) (a2 : List F) (a3 : Int) (a4 : Int) (a5 : List F) (q0 : Bool) (h : w_eqMatrix a0 a1 a2 a3 a4 a5 = some q0) : Ev Try.prog 13 [AV.agg [AV.i64 a0, AV.i64 a1, AV.sl a2.length (a2.map AV.f32)], AV.agg [AV.i64 a3, AV.i64 a4, AV.sl a5.length (a5.map AV.f32)]] [] (AV.b q0) [] := by
  refine Ev.start Try.func13 rfl rfl 0 (τ := [(0, AV.agg [AV.i64 a0, AV.i64 a1, AV.sl a2.length (a2.map AV.f32)]), (1, AV.agg [AV.i64 a3, AV.i64 a4, AV.sl a5.length (a5.map AV.f32)])]) rfl (Γ' := []) rfl (n := 21) rfl (g := 0) rfl ?_
  unfold w_eqMatrix at h
  refine RunC.seq ?_
  refine RunC.regionW ?_
  refine ROps.d (r := AV.ptr [AV.i64 a0, AV.i64 a1, AV.sl a2.length (a2.map AV.f32)]) (fs := []) (Γ' := []) rfl rfl rfl (TOp.box_s rfl rfl rfl) rfl ?_
  refine ROps.d (r := AV.ptr [AV.i64 a3, AV.i64 a4, AV.sl a5.length (a5.map AV.f32)]) (fs := []) (Γ' := []) rfl rfl rfl (TOp.box_s rfl rfl rfl) rfl ?_
  refine ROps.l (r := AV.b false) rfl rfl rfl (LOp.assign rfl rfl) ?_
  refine ROps.nil ?_
  refine RunC.seq ?_
  refine RunC.seq ?_
  rcases bsel_some h with ⟨hc1, h⟩ | ⟨hc1, h⟩
  · refine RunC.regionW ?_
    refine ROps.l (r := AV.ptr [AV.i64 a0, AV.i64 a1, AV.sl a2.length (a2.map AV.f32)]) rfl rfl rfl (LOp.fap und27 rfl siz2 rfl rfl rfl) ?_
    refine ROps.l (r := AV.i64 a0) rfl rfl rfl (LOp.load1 agg2 rfl rfl) ?_
    refine ROps.l (r := AV.ptr [AV.i64 a3, AV.i64 a4, AV.sl a5.length (a5.map AV.f32)]) rfl rfl rfl (LOp.fap und27 rfl siz2 rfl rfl rfl) ?_
    refine ROps.l (r := AV.i64 a3) rfl rfl rfl (LOp.load1 agg2 rfl rfl) ?_
    refine ROps.l (r := AV.b true) rfl rfl rfl (LOp.eqb (LOp.neq rfl rfl rfl) hc1) ?_
    refine ROps.nil ?_
    refine RunC.cond_true rfl rfl ?_
    refine RunC.seq ?_
    refine RunC.regionW ?_
    refine ROps.l (r := AV.b false) rfl rfl rfl (LOp.assign rfl rfl) ?_
    refine ROps.nil ?_
    refine RunC.ret ?_
    have hq := Option.some.inj h
    subst q0
    exact bodyQ.pure (.inr rfl) rfl (Res.one rfl (RV.tmp rfl))
  · refine RunC.regionW ?_
    refine ROps.l (r := AV.ptr [AV.i64 a0, AV.i64 a1, AV.sl a2.length (a2.map AV.f32)]) rfl rfl rfl (LOp.fap und27 rfl siz2 rfl rfl rfl) ?_
    refine ROps.l (r := AV.i64 a0) rfl rfl rfl (LOp.load1 agg2 rfl rfl) ?_
    refine ROps.l (r := AV.ptr [AV.i64 a3, AV.i64 a4, AV.sl a5.length (a5.map AV.f32)]) rfl rfl rfl (LOp.fap und27 rfl siz2 rfl rfl rfl) ?_
    refine ROps.l (r := AV.i64 a3) rfl rfl rfl (LOp.load1 agg2 rfl rfl) ?_
    refine ROps.l (r := AV.b false) rfl rfl rfl (LOp.eqb (LOp.neq rfl rfl rfl) hc1) ?_
    refine ROps.nil ?_
    refine RunC.cond_false rfl rfl ?_
    refine RunC.skip ?_
    refine RunC.seq ?_
    refine RunC.seq ?_
    rcases bsel_some h with ⟨hc2, h⟩ | ⟨hc2, h⟩
    · refine RunC.regionW ?_
      refine ROps.l (r := AV.ptr [AV.i64 a1, AV.sl a2.length (a2.map AV.f32)]) rfl rfl rfl (LOp.fap und27 rfl siz2 rfl rfl rfl) ?_
      refine ROps.l (r := AV.i64 a1) rfl rfl rfl (LOp.load1 agg2 rfl rfl) ?_
      refine ROps.l (r := AV.ptr [AV.i64 a4, AV.sl a5.length (a5.map AV.f32)]) rfl rfl rfl (LOp.fap und27 rfl siz2 rfl rfl rfl) ?_
      refine ROps.l (r := AV.i64 a4) rfl rfl rfl (LOp.load1 agg2 rfl rfl) ?_
      refine ROps.l (r := AV.b true) rfl rfl rfl (LOp.eqb (LOp.neq rfl rfl rfl) hc2) ?_
      refine ROps.nil ?_
      refine RunC.cond_true rfl rfl ?_
      refine RunC.seq ?_
      refine RunC.regionW ?_
      refine ROps.l (r := AV.b false) rfl rfl rfl (LOp.assign rfl rfl) ?_
      refine ROps.nil ?_
      refine RunC.ret ?_
      have hq := Option.some.inj h
      subst q0
      exact bodyQ.pure (.inr rfl) rfl (Res.one rfl (RV.tmp rfl))
    · refine RunC.regionW ?_
      refine ROps.l (r := AV.ptr [AV.i64 a1, AV.sl a2.length (a2.map AV.f32)]) rfl rfl rfl (LOp.fap und27 rfl siz2 rfl rfl rfl) ?_
      refine ROps.l (r := AV.i64 a1) rfl rfl rfl (LOp.load1 agg2 rfl rfl) ?_
      refine ROps.l (r := AV.ptr [AV.i64 a4, AV.sl a5.length (a5.map AV.f32)]) rfl rfl rfl (LOp.fap und27 rfl siz2 rfl rfl rfl) ?_
      refine ROps.l (r := AV.i64 a4) rfl rfl rfl (LOp.load1 agg2 rfl rfl) ?_
      refine ROps.l (r := AV.b false) rfl rfl rfl (LOp.eqb (LOp.neq rfl rfl rfl) hc2) ?_
      refine ROps.nil ?_
      refine RunC.cond_false rfl rfl ?_
      refine RunC.skip ?_
      refine RunC.wl (τ' := [(2, AV.ptr [AV.i64 a0, AV.i64 a1, AV.sl a2.length (a2.map AV.f32)]), (3, AV.ptr [AV.i64 a3, AV.i64 a4, AV.sl a5.length (a5.map AV.f32)])]) (Γ' := []) ⟨(ALe.refl _), (ALe.refl _), trivial⟩ trivial ?_
      refine RunC.seq ?_
      refine RunC.seq ?_
      obtain ⟨r1, hf3, h⟩ := obind_some h
      rcases bsel_some h with ⟨hc4, h⟩ | ⟨hc4, h⟩
      · refine RunC.regionW ?_
        refine ROps.l (r := AV.ptr [AV.sl a2.length (a2.map AV.f32)]) rfl rfl rfl (LOp.fap und27 rfl siz22 rfl rfl rfl) ?_
        refine ROps.l (r := AV.sl a2.length (a2.map AV.f32)) rfl rfl rfl (LOp.load1 agg22 rfl rfl) ?_
        refine ROps.l (r := AV.ptr [AV.sl a5.length (a5.map AV.f32)]) rfl rfl rfl (LOp.fap und27 rfl siz22 rfl rfl rfl) ?_
        refine ROps.l (r := AV.sl a5.length (a5.map AV.f32)) rfl rfl rfl (LOp.load1 agg22 rfl rfl) ?_
        refine ROps.d (r := AV.b true) (fs := []) (Γ' := []) rfl rfl rfl (TOp.eqb (TOp.callB (CallAs.func ent24 rfl rfl) (Bors.cons (Bor.sl (fun _ => rfl)) (Bors.cons (Bor.sl (fun _ => rfl)) Bors.nil)) rfl rfl (w_eqFloat32S_ok a2 a5 r1 hf3)) hc4) rfl ?_
        refine ROps.l (r := AV.b false) rfl rfl rfl (LOp.eqb (LOp.not rfl rfl) rfl) ?_
        refine ROps.nil ?_
        refine RunC.cond_false rfl rfl ?_
        refine RunC.skip ?_
        refine RunC.seq ?_
        refine RunC.regionW ?_
        refine ROps.l (r := AV.b true) rfl rfl rfl (LOp.assign rfl rfl) ?_
        refine ROps.nil ?_
        refine RunC.ret ?_
        have hq := Option.some.inj h
        subst q0
        exact bodyQ.pure (.inr rfl) rfl (Res.one rfl (RV.tmp rfl))
      · refine RunC.regionW ?_
        refine ROps.l (r := AV.ptr [AV.sl a2.length (a2.map AV.f32)]) rfl rfl rfl (LOp.fap und27 rfl siz22 rfl rfl rfl) ?_
        refine ROps.l (r := AV.sl a2.length (a2.map AV.f32)) rfl rfl rfl (LOp.load1 agg22 rfl rfl) ?_
        refine ROps.l (r := AV.ptr [AV.sl a5.length (a5.map AV.f32)]) rfl rfl rfl (LOp.fap und27 rfl siz22 rfl rfl rfl) ?_
        refine ROps.l (r := AV.sl a5.length (a5.map AV.f32)) rfl rfl rfl (LOp.load1 agg22 rfl rfl) ?_
        refine ROps.d (r := AV.b false) (fs := []) (Γ' := []) rfl rfl rfl (TOp.eqb (TOp.callB (CallAs.func ent24 rfl rfl) (Bors.cons (Bor.sl (fun _ => rfl)) (Bors.cons (Bor.sl (fun _ => rfl)) Bors.nil)) rfl rfl (w_eqFloat32S_ok a2 a5 r1 hf3)) hc4) rfl ?_
        refine ROps.l (r := AV.b true) rfl rfl rfl (LOp.eqb (LOp.not rfl rfl) rfl) ?_
        refine ROps.nil ?_
        refine RunC.cond_true rfl rfl ?_
        refine RunC.seq ?_
        refine RunC.regionW ?_
        refine ROps.l (r := AV.b false) rfl rfl rfl (LOp.assign rfl rfl) ?_
        refine ROps.nil ?_
        refine RunC.ret ?_
        have hq := Option.some.inj h
        subst q0
        exact bodyQ.pure (.inr rfl) rfl (Res.one rfl (RV.tmp rfl))
noncomputable def w_markFloat32S_0o_b1 (a1 : List F) (L1 : List F) (v3 : Int) (v4 : Int) : Option (LR ((List F) × Int × Int) ((List F) × Int) (Int × (List F))) :=
  bsel (decide (v4 < ((a1.length : Nat) : Int))) (
    olet (fint .f32 v3) fun (x5 : F) =>
    obind (setAt? L1 v4 x5) fun (L6 : List F) =>
    olet (IntKind.i64.wrap (v3 + 1)) fun (x7 : Int) =>
    olet (IntKind.i64.wrap (v4 + 1)) fun (x8 : Int) =>
    some (LR.next (L6, x7, x8))) (
    some (LR.out (L1, v3)))
noncomputable def w_markFloat32S_0o_s1 (a1 : List F) : ((List F) × Int × Int) → Option (LR ((List F) × Int × Int) ((List F) × Int) (Int × (List F))) := fun s => w_markFloat32S_0o_b1 a1 s.1 s.2.1 s.2.2
noncomputable def w_markFloat32S_0o_k1 (L9 : List F) (v11 : Int) : Option (Int × (List F)) :=
  some (v11, L9)
noncomputable def w_markFloat32S_0o (a0 : Int) (a1 : List F) : Option (Int × (List F)) :=
  obind (loopM (w_markFloat32S_0o_s1 a1) (a1, a0, 0)) fun z => osum z (fun e => w_markFloat32S_0o_k1 e.1 e.2) (fun r => some r)
theorem w_markFloat32S_0o_ok (a0 : Int) (a1 : List F) (q0 : Int) (q1 : List F) (h : w_markFloat32S_0o a0 a1 = some (q0, q1)) : Ev Try.prog 25 [AV.oref 0 0 0 a1.length, AV.i64 a0] [⟨0, some (a1.map AV.f32)⟩] (AV.i64 q0) [⟨0, some (q1.map AV.f32)⟩] := by
  refine Ev.start Try.func25 rfl rfl 0 (τ := [(0, AV.oref 0 0 0 a1.length), (1, AV.i64 a0)]) rfl (Γ' := [⟨0, some (a1.map AV.f32)⟩]) rfl (n := 20) rfl (g := 1) rfl ?_
  unfold w_markFloat32S_0o at h
  refine RunC.seq ?_
  refine RunC.regionW ?_
  refine ROps.l (r := AV.i64 0) rfl rfl rfl (LOp.assign rfl rfl) ?_
  refine ROps.nil ?_
  refine RunC.seq ?_
  refine RunC.seq ?_
  refine RunC.regionW ?_
  refine ROps.l (r := AV.i64 0) rfl rfl rfl (LOp.assign rfl rfl) ?_
  refine ROps.nil ?_
  obtain ⟨z2, hz_2, h⟩ := obind_some h
  refine RunC.cutN (fun τ Γ => ∃ (L9 : List F) (v11 : Int), L9.length = a1.length ∧ WeakLe τ [(1, AV.i64 v11)] ∧ DeadLe Γ [⟨0, some (L9.map AV.f32)⟩] ∧ z2 = .inl (L9, v11)) ?_ ?_
  · refine RunC.block (RunC.loop (RunL.loopM (x := z2) (w_markFloat32S_0o_s1 a1) (fun (s : (List F) × Int × Int) τ Γ => s.1.length = a1.length ∧ WeakLe τ [(0, AV.oref 0 0 0 a1.length), (1, AV.i64 s.2.1), (5, AV.i64 s.2.2)] ∧ DeadLe Γ [⟨0, some (s.1.map AV.f32)⟩]) ?_ _ _ _ hz_2 ⟨rfl, ⟨(ALe.refl _), (ALe.refl _), (ALe.refl _), trivial⟩, ⟨⟨rfl, .inr rfl⟩, trivial⟩⟩))
    rintro ⟨L1, v3, v4⟩ τ2 Γ2 y2_ ⟨hl2, hw2, hd2⟩ h2_ ho2 hr2
    refine RunC.wl (τ' := [(0, AV.oref 0 0 0 a1.length), (1, AV.i64 v3), (5, AV.i64 v4)]) (Γ' := [⟨0, some (L1.map AV.f32)⟩]) hw2 hd2 ?_
    replace hl2 : L1.length = a1.length := hl2
    replace h2_ : w_markFloat32S_0o_b1 a1 L1 v3 v4 = some y2_ := h2_
    unfold w_markFloat32S_0o_b1 at h2_
    refine RunC.seq ?_
    refine RunC.seq ?_
    rcases bsel_some h2_ with ⟨hc1, h2_⟩ | ⟨hc1, h2_⟩
    · refine RunC.regionW ?_
      refine ROps.l (r := AV.i64 v4) rfl rfl rfl (LOp.move rfl rfl) ?_
      refine ROps.l (r := AV.oref 0 0 0 a1.length) rfl rfl rfl (LOp.move rfl rfl) ?_
      refine ROps.l (r := AV.i64 ((a1.length : Nat) : Int)) rfl rfl rfl (LOp.len_oref und22 rfl rfl) ?_
      refine ROps.l (r := AV.b true) rfl rfl rfl (LOp.eqb (LOp.lss rfl rfl rfl) hc1) ?_
      refine ROps.nil ?_
      refine RunC.cond_true rfl rfl ?_
      refine RunC.skip ?_
      refine RunC.seq ?_
      refine RunC.block ?_
      refine RunC.seq ?_
      obtain ⟨x5, hx2, h2_⟩ := olet_some h2_
      obtain ⟨L6, he3, h2_⟩ := obind_some h2_
      refine RunC.regionW ?_
      refine ROps.l (r := AV.oref 0 0 0 a1.length) rfl rfl rfl (LOp.move rfl rfl) ?_
      refine ROps.l (r := AV.i64 v4) rfl rfl rfl (LOp.move rfl rfl) ?_
      refine ROps.l (r := AV.i64 v3) rfl rfl rfl (LOp.move rfl rfl) ?_
      refine ROps.l (r := AV.f32 x5) rfl rfl rfl (LOp.eqr (LOp.i2f (src := 3) (dst := 25) ⟨_, pun3⟩ pun25 rfl rfl) (congrArg (AV.f .f32) hx2)) ?_
      refine ROps.d (r := AV.optr 0 0 v4.toNat) (fs := []) (Γ' := [⟨0, some (L1.map AV.f32)⟩]) rfl rfl rfl (TOp.ixo und22 siz25 rfl rfl rfl (set_in he3 hl2) rfl) rfl ?_
      refine ROps.st (f := AV.f32) (i := v4) (Γ' := [⟨0, some (L6.map AV.f32)⟩]) rfl siz25 rfl rfl rfl (ALe.refl _) rfl rfl rfl he3 rfl ?_
      refine ROps.nil ?_
      obtain ⟨x7, hx4, h2_⟩ := olet_some h2_
      refine RunC.regionW ?_
      refine ROps.l (r := AV.i64 v3) rfl rfl rfl (LOp.move rfl rfl) ?_
      refine ROps.l (r := AV.i64 x7) rfl rfl rfl (LOp.eqr (LOp.add rfl rfl rfl) (congrArg (AV.ik .i64) hx4)) ?_
      refine ROps.l (r := AV.i64 x7) rfl rfl rfl (LOp.assign rfl rfl) ?_
      refine ROps.nil ?_
      obtain ⟨x8, hx5, h2_⟩ := olet_some h2_
      refine RunC.regionW ?_
      refine ROps.l (r := AV.i64 v4) rfl rfl rfl (LOp.move rfl rfl) ?_
      refine ROps.l (r := AV.i64 x8) rfl rfl rfl (LOp.eqr (LOp.add rfl rfl rfl) (congrArg (AV.ik .i64) hx5)) ?_
      refine ROps.l (r := AV.i64 x8) rfl rfl rfl (LOp.assign rfl rfl) ?_
      refine ROps.nil ?_
      cases Option.some.inj h2_
      exact ⟨_, rfl, ((setAt?_len he3).trans hl2), ⟨(ALe.refl _), (ALe.refl _), (ALe.refl _), trivial⟩, ⟨⟨rfl, .inr rfl⟩, trivial⟩⟩
    · refine RunC.regionW ?_
      refine ROps.l (r := AV.i64 v4) rfl rfl rfl (LOp.move rfl rfl) ?_
      refine ROps.l (r := AV.oref 0 0 0 a1.length) rfl rfl rfl (LOp.move rfl rfl) ?_
      refine ROps.l (r := AV.i64 ((a1.length : Nat) : Int)) rfl rfl rfl (LOp.len_oref und22 rfl rfl) ?_
      refine ROps.l (r := AV.b false) rfl rfl rfl (LOp.eqb (LOp.lss rfl rfl rfl) hc1) ?_
      refine ROps.nil ?_
      refine RunC.cond_false rfl rfl ?_
      refine RunC.exit ?_
      cases Option.some.inj h2_
      have hx := ho2 _ rfl
      exact ⟨L1, v3, hl2, ⟨(ALe.refl _), trivial⟩, ⟨⟨rfl, .inr rfl⟩, trivial⟩, hx⟩
  · rintro τ3 Γ3 ⟨L9, v11, hl10, hw3, hd3, rfl⟩
    refine RunC.wl (τ' := [(1, AV.i64 v11)]) (Γ' := [⟨0, some (L9.map AV.f32)⟩]) hw3 hd3 ?_
    replace h : w_markFloat32S_0o_k1 L9 v11 = some (q0, q1) := h
    unfold w_markFloat32S_0o_k1 at h
    refine RunC.seq ?_
    refine RunC.regionW ?_
    refine ROps.l (r := AV.i64 v11) rfl rfl rfl (LOp.move rfl rfl) ?_
    refine ROps.l (r := AV.i64 v11) rfl rfl rfl (LOp.assign rfl rfl) ?_
    refine ROps.nil ?_
    refine RunC.ret ?_
    have hq := Option.some.inj h
    obtain ⟨hq0, hq⟩ := Prod.mk.inj hq
    subst q0
    subst q1
    exact bodyQ.mk (r' := AV.i64 v11) [(0, 0)] (.inr rfl) rfl (show List.Nodup [0] from by decide) rfl rfl (Res.one rfl (RV.tmp rfl)) (SelL.arr (f := AV.f32) (fun _ => rfl) rfl trivial)
noncomputable def w_markMatrix_02o (a0 : Int) (a1 : Int) (a2 : Int) (a3 : List F) : Option (Int × (List F)) :=
  obind2 (w_markFloat32S_0o a2 a3) fun (r1 : Int) (r2 : List F) =>
  need (decide (r2.length = a3.length)) <|
  some (r1, r2)
theorem w_markMatrix_02o_ok (a0 : Int) (a1 : Int) (a2 : Int) (a3 : List F) (q0 : Int) (q1 : List F) (h : w_markMatrix_02o a0 a1 a2 a3 = some (q0, q1)) : Ev Try.prog 15 [AV.agg [AV.i64 a0, AV.i64 a1, AV.oref 0 0 0 a3.length], AV.i64 a2] [⟨0, some (a3.map AV.f32)⟩] (AV.i64 q0) [⟨0, some (q1.map AV.f32)⟩] := by
  refine Ev.start Try.func15 rfl rfl 0 (τ := [(0, AV.agg [AV.i64 a0, AV.i64 a1, AV.oref 0 0 0 a3.length]), (1, AV.i64 a2)]) rfl (Γ' := [⟨0, some (a3.map AV.f32)⟩]) rfl (n := 10) rfl (g := 1) rfl ?_
  unfold w_markMatrix_02o at h
  refine RunC.seq ?_
  refine RunC.regionW ?_
  refine ROps.d (r := AV.ptr [AV.i64 a0, AV.i64 a1, AV.oref 0 0 0 a3.length]) (fs := []) (Γ' := [⟨0, some (a3.map AV.f32)⟩]) rfl rfl rfl (TOp.box_s rfl rfl rfl) rfl ?_
  refine ROps.l (r := AV.i64 0) rfl rfl rfl (LOp.assign rfl rfl) ?_
  refine ROps.nil ?_
  refine RunC.seq ?_
  obtain ⟨r1, r2, hf1, h⟩ := obind2_some h
  obtain ⟨hn2, h⟩ := need_some h
  refine RunC.regionW ?_
  refine ROps.l (r := AV.ptr [AV.oref 0 0 0 a3.length]) rfl rfl rfl (LOp.fap und27 rfl siz22 rfl rfl rfl) ?_
  refine ROps.l (r := AV.oref 0 0 0 a3.length) rfl rfl rfl (LOp.load1 agg22 rfl rfl) ?_
  refine ROps.l (r := AV.i64 a2) rfl rfl rfl (LOp.move rfl rfl) ?_
  refine ROps.callO (A := [AV.oref 0 0 0 a3.length, AV.i64 a2]) (args := [AV.oref 0 0 0 a3.length, AV.i64 a2]) (Γc := [⟨0, some (a3.map AV.f32)⟩]) (Γc' := [⟨0, some (r2.map AV.f32)⟩]) (r' := AV.i64 r1) (Γ' := [⟨0, some (r2.map AV.f32)⟩]) [(0, 0)] [] rfl (CallAs.func ent25 rfl rfl) rfl rfl (SelOk.of (show List.Nodup [0] from by decide) (SelL.arr0 (f := AV.f32) (fun _ => rfl) rfl trivial)) (live_of ⟨⟨_, _, rfl⟩, trivial⟩) (by simp [AV.ren, AV.rens, sigma, rens_f32, rens_f64, rens_i64, rens_ik, rens_str, rens_cp]) rfl (w_markFloat32S_0o_ok a2 a3 r1 r2 hf1) rfl (news_of trivial) (show List.Nodup [0] from by decide) (by simp [AV.ren, AV.rens, sigma, of_decide_eq_true hn2]) (by simp [backOb, sigma, AV.ren, AV.rens, rens_f32, rens_f64, rens_i64, rens_ik, rens_str, rens_cp]) ?_
  refine ROps.l (r := AV.i64 r1) rfl rfl rfl (LOp.assign rfl rfl) ?_
  refine ROps.nil ?_
  refine RunC.seq ?_
  refine RunC.regionW ?_
  refine ROps.l (r := AV.i64 r1) rfl rfl rfl (LOp.move rfl rfl) ?_
  refine ROps.l (r := AV.i64 r1) rfl rfl rfl (LOp.assign rfl rfl) ?_
  refine ROps.nil ?_
  refine RunC.ret ?_
  have hq := Option.some.inj h
  obtain ⟨hq0, hq⟩ := Prod.mk.inj hq
  subst q0
  subst q1
  exact bodyQ.mk (r' := AV.i64 r1) [(0, 0)] (.inr rfl) rfl (show List.Nodup [0] from by decide) rfl rfl (Res.one rfl (RV.tmp rfl)) (SelL.arr (f := AV.f32) (fun _ => rfl) rfl trivial)
noncomputable def w_heldFloat32S_b1 (a0 : List F) (v1 : Int) (v2 : Int) : Option (LR (Int × Int) (Int) (Int)) :=
  bsel (decide (v2 < (a0.length : Int))) (
    obind (at? a0 v2) fun (e3 : F) =>
    olet (fint .f32 v1) fun (x4 : F) =>
    bsel (!feq .f32 e3 x4) (
      some (LR.ret (-1))) (
      olet (IntKind.i64.wrap (v1 + 1)) fun (x5 : Int) =>
      olet (IntKind.i64.wrap (v2 + 1)) fun (x6 : Int) =>
      some (LR.next (x5, x6)))) (
    some (LR.out v1))
noncomputable def w_heldFloat32S_s1 (a0 : List F) : (Int × Int) → Option (LR (Int × Int) (Int) (Int)) := fun s => w_heldFloat32S_b1 a0 s.1 s.2
noncomputable def w_heldFloat32S_k1 (v7 : Int) : Option (Int) :=
  some v7
noncomputable def w_heldFloat32S (a0 : List F) (a1 : Int) : Option (Int) :=
  obind (loopM (w_heldFloat32S_s1 a0) (a1, 0)) fun z => osum z (fun e => w_heldFloat32S_k1 e) (fun r => some r)
theorem w_heldFloat32S_ok (a0 : List F) (a1 : Int) (q0 : Int) (h : w_heldFloat32S a0 a1 = some q0) : Ev Try.prog 26 [AV.sl a0.length (a0.map AV.f32), AV.i64 a1] [] (AV.i64 q0) [] := by
  refine Ev.start Try.func26 rfl rfl 0 (τ := [(0, AV.sl a0.length (a0.map AV.f32)), (1, AV.i64 a1)]) rfl (Γ' := []) rfl (n := 22) rfl (g := 0) rfl ?_
  unfold w_heldFloat32S at h
  refine RunC.seq ?_
  refine RunC.regionW ?_
  refine ROps.l (r := AV.i64 0) rfl rfl rfl (LOp.assign rfl rfl) ?_
  refine ROps.nil ?_
  refine RunC.seq ?_
  refine RunC.seq ?_
  refine RunC.regionW ?_
  refine ROps.l (r := AV.i64 0) rfl rfl rfl (LOp.assign rfl rfl) ?_
  refine ROps.nil ?_
  obtain ⟨z2, hz_2, h⟩ := obind_some h
  refine RunC.cutN (fun τ Γ => ∃ (v7 : Int), WeakLe τ [(1, AV.i64 v7)] ∧ DeadLe Γ [] ∧ z2 = .inl v7) ?_ ?_
  · refine RunC.block (RunC.loop (RunL.loopM (x := z2) (w_heldFloat32S_s1 a0) (fun (s : Int × Int) τ Γ => WeakLe τ [(0, AV.sl a0.length (a0.map AV.f32)), (1, AV.i64 s.1), (5, AV.i64 s.2)] ∧ DeadLe Γ []) ?_ _ _ _ hz_2 ⟨⟨(ALe.refl _), (ALe.refl _), (ALe.refl _), trivial⟩, trivial⟩))
    rintro ⟨v1, v2⟩ τ2 Γ2 y2_ ⟨hw2, hd2⟩ h2_ ho2 hr2
    refine RunC.wl (τ' := [(0, AV.sl a0.length (a0.map AV.f32)), (1, AV.i64 v1), (5, AV.i64 v2)]) (Γ' := []) hw2 hd2 ?_
    replace h2_ : w_heldFloat32S_b1 a0 v1 v2 = some y2_ := h2_
    unfold w_heldFloat32S_b1 at h2_
    refine RunC.seq ?_
    refine RunC.seq ?_
    rcases bsel_some h2_ with ⟨hc1, h2_⟩ | ⟨hc1, h2_⟩
    · refine RunC.regionW ?_
      refine ROps.l (r := AV.i64 v2) rfl rfl rfl (LOp.move rfl rfl) ?_
      refine ROps.l (r := AV.sl a0.length (a0.map AV.f32)) rfl rfl rfl (LOp.move rfl rfl) ?_
      refine ROps.l (r := AV.i64 (a0.length : Int)) rfl rfl rfl (LOp.len_sl und22 rfl rfl) ?_
      refine ROps.l (r := AV.b true) rfl rfl rfl (LOp.eqb (LOp.lss rfl rfl rfl) hc1) ?_
      refine ROps.nil ?_
      refine RunC.cond_true rfl rfl ?_
      refine RunC.skip ?_
      refine RunC.seq ?_
      refine RunC.block ?_
      refine RunC.seq ?_
      refine RunC.seq ?_
      obtain ⟨e3, he2, h2_⟩ := obind_some h2_
      obtain ⟨x4, hx3, h2_⟩ := olet_some h2_
      rcases bsel_some h2_ with ⟨hc4, h2_⟩ | ⟨hc4, h2_⟩
      · refine RunC.regionW ?_
        refine ROps.l (r := AV.sl a0.length (a0.map AV.f32)) rfl rfl rfl (LOp.move rfl rfl) ?_
        refine ROps.l (r := AV.i64 v2) rfl rfl rfl (LOp.move rfl rfl) ?_
        refine ROps.l (r := AV.ptr [AV.f32 e3]) rfl rfl rfl (LOp.le (LOp.ix (f := AV.f32) und22 siz25 rfl rfl rfl rfl he2) ALe.ptr) ?_
        refine ROps.l (r := AV.f32 e3) rfl rfl rfl (LOp.load1 agg25 rfl rfl) ?_
        refine ROps.l (r := AV.i64 v1) rfl rfl rfl (LOp.move rfl rfl) ?_
        refine ROps.l (r := AV.f32 x4) rfl rfl rfl (LOp.eqr (LOp.i2f (src := 3) (dst := 25) ⟨_, pun3⟩ pun25 rfl rfl) (congrArg (AV.f .f32) hx3)) ?_
        refine ROps.l (r := AV.b true) rfl rfl rfl (LOp.eqb (LOp.fne rfl (OpF.tmp rfl) (OpF.tmp rfl)) hc4) ?_
        refine ROps.nil ?_
        refine RunC.cond_true rfl rfl ?_
        refine RunC.seq ?_
        refine RunC.regionW ?_
        refine ROps.l (r := AV.i64 (-1)) rfl rfl rfl (LOp.assign rfl rfl) ?_
        refine ROps.nil ?_
        refine RunC.ret ?_
        cases Option.some.inj h2_
        have hx3_ := hr2 _ rfl
        subst hx3_
        have hq := Option.some.inj h
        subst q0
        exact bodyQ.pure (.inr rfl) rfl (Res.one rfl (RV.tmp rfl))
      · refine RunC.regionW ?_
        refine ROps.l (r := AV.sl a0.length (a0.map AV.f32)) rfl rfl rfl (LOp.move rfl rfl) ?_
        refine ROps.l (r := AV.i64 v2) rfl rfl rfl (LOp.move rfl rfl) ?_
        refine ROps.l (r := AV.ptr [AV.f32 e3]) rfl rfl rfl (LOp.le (LOp.ix (f := AV.f32) und22 siz25 rfl rfl rfl rfl he2) ALe.ptr) ?_
        refine ROps.l (r := AV.f32 e3) rfl rfl rfl (LOp.load1 agg25 rfl rfl) ?_
        refine ROps.l (r := AV.i64 v1) rfl rfl rfl (LOp.move rfl rfl) ?_
        refine ROps.l (r := AV.f32 x4) rfl rfl rfl (LOp.eqr (LOp.i2f (src := 3) (dst := 25) ⟨_, pun3⟩ pun25 rfl rfl) (congrArg (AV.f .f32) hx3)) ?_
        refine ROps.l (r := AV.b false) rfl rfl rfl (LOp.eqb (LOp.fne rfl (OpF.tmp rfl) (OpF.tmp rfl)) hc4) ?_
        refine ROps.nil ?_
        refine RunC.cond_false rfl rfl ?_
        refine RunC.skip ?_
        obtain ⟨x5, hx5, h2_⟩ := olet_some h2_
        refine RunC.regionW ?_
        refine ROps.l (r := AV.i64 v1) rfl rfl rfl (LOp.move rfl rfl) ?_
        refine ROps.l (r := AV.i64 x5) rfl rfl rfl (LOp.eqr (LOp.add rfl rfl rfl) (congrArg (AV.ik .i64) hx5)) ?_
        refine ROps.l (r := AV.i64 x5) rfl rfl rfl (LOp.assign rfl rfl) ?_
        refine ROps.nil ?_
        refine RunC.wl (τ' := [(0, AV.sl a0.length (a0.map AV.f32)), (1, AV.i64 x5), (5, AV.i64 v2)]) (Γ' := []) ⟨(ALe.refl _), (ALe.refl _), (ALe.refl _), trivial⟩ trivial ?_
        obtain ⟨x6, hx6, h2_⟩ := olet_some h2_
        refine RunC.regionW ?_
        refine ROps.l (r := AV.i64 v2) rfl rfl rfl (LOp.move rfl rfl) ?_
        refine ROps.l (r := AV.i64 x6) rfl rfl rfl (LOp.eqr (LOp.add rfl rfl rfl) (congrArg (AV.ik .i64) hx6)) ?_
        refine ROps.l (r := AV.i64 x6) rfl rfl rfl (LOp.assign rfl rfl) ?_
        refine ROps.nil ?_
        cases Option.some.inj h2_
        exact ⟨_, rfl, ⟨(ALe.refl _), (ALe.refl _), (ALe.refl _), trivial⟩, trivial⟩
    · refine RunC.regionW ?_
      refine ROps.l (r := AV.i64 v2) rfl rfl rfl (LOp.move rfl rfl) ?_
      refine ROps.l (r := AV.sl a0.length (a0.map AV.f32)) rfl rfl rfl (LOp.move rfl rfl) ?_
      refine ROps.l (r := AV.i64 (a0.length : Int)) rfl rfl rfl (LOp.len_sl und22 rfl rfl) ?_
      refine ROps.l (r := AV.b false) rfl rfl rfl (LOp.eqb (LOp.lss rfl rfl rfl) hc1) ?_
      refine ROps.nil ?_
      refine RunC.cond_false rfl rfl ?_
      refine RunC.exit ?_
      cases Option.some.inj h2_
      have hx := ho2 _ rfl
      exact ⟨v1, ⟨(ALe.refl _), trivial⟩, trivial, hx⟩
  · rintro τ4 Γ4 ⟨v7, hw4, hd4, rfl⟩
    refine RunC.wl (τ' := [(1, AV.i64 v7)]) (Γ' := []) hw4 hd4 ?_
    replace h : w_heldFloat32S_k1 v7 = some q0 := h
    unfold w_heldFloat32S_k1 at h
    refine RunC.seq ?_
    refine RunC.regionW ?_
    refine ROps.l (r := AV.i64 v7) rfl rfl rfl (LOp.move rfl rfl) ?_
    refine ROps.l (r := AV.i64 v7) rfl rfl rfl (LOp.assign rfl rfl) ?_
    refine ROps.nil ?_
    refine RunC.ret ?_
    have hq := Option.some.inj h
    subst q0
    exact bodyQ.pure (.inr rfl) rfl (Res.one rfl (RV.tmp rfl))
noncomputable def w_heldMatrix (a0 : Int) (a1 : Int) (a2 : List F) (a3 : Int) : Option (Int) :=
  obind (w_heldFloat32S a2 a3) fun (r1 : Int) =>
  bsel (decide (r1 < 0)) (
    some (-1)) (
    some r1)
theorem w_heldMatrix_ok (a0 : Int) (a1 : Int) (a2 : List F) (a3 : Int) (q0 : Int) (h : w_heldMatrix a0 a1 a2 a3 = some q0) : Ev Try.prog 17 [AV.agg [AV.i64 a0, AV.i64 a1, AV.sl a2.length (a2.map AV.f32)], AV.i64 a3] [] (AV.i64 q0) [] := by
  refine Ev.start Try.func17 rfl rfl 0 (τ := [(0, AV.agg [AV.i64 a0, AV.i64 a1, AV.sl a2.length (a2.map AV.f32)]), (1, AV.i64 a3)]) rfl (Γ' := []) rfl (n := 12) rfl (g := 0) rfl ?_
  unfold w_heldMatrix at h
  refine RunC.seq ?_
  refine RunC.regionW ?_
  refine ROps.d (r := AV.ptr [AV.i64 a0, AV.i64 a1, AV.sl a2.length (a2.map AV.f32)]) (fs := []) (Γ' := []) rfl rfl rfl (TOp.box_s rfl rfl rfl) rfl ?_
  refine ROps.l (r := AV.i64 0) rfl rfl rfl (LOp.assign rfl rfl) ?_
  refine ROps.nil ?_
  refine RunC.seq ?_
  obtain ⟨r1, hf1, h⟩ := obind_some h
  refine RunC.regionW ?_
  refine ROps.l (r := AV.ptr [AV.sl a2.length (a2.map AV.f32)]) rfl rfl rfl (LOp.fap und27 rfl siz22 rfl rfl rfl) ?_
  refine ROps.l (r := AV.sl a2.length (a2.map AV.f32)) rfl rfl rfl (LOp.load1 agg22 rfl rfl) ?_
  refine ROps.l (r := AV.i64 a3) rfl rfl rfl (LOp.move rfl rfl) ?_
  refine ROps.d (r := AV.i64 r1) (fs := []) (Γ' := []) rfl rfl rfl (TOp.callB (CallAs.func ent26 rfl rfl) (Bors.cons (Bor.sl (fun _ => rfl)) (Bors.cons (Bor.pure rfl) Bors.nil)) rfl rfl (w_heldFloat32S_ok a2 a3 r1 hf1)) rfl ?_
  refine ROps.l (r := AV.i64 r1) rfl rfl rfl (LOp.assign rfl rfl) ?_
  refine ROps.nil ?_
  refine RunC.seq ?_
  refine RunC.seq ?_
  rcases bsel_some h with ⟨hc2, h⟩ | ⟨hc2, h⟩
  · refine RunC.regionW ?_
    refine ROps.l (r := AV.i64 r1) rfl rfl rfl (LOp.move rfl rfl) ?_
    refine ROps.l (r := AV.b true) rfl rfl rfl (LOp.eqb (LOp.lss rfl rfl rfl) hc2) ?_
    refine ROps.nil ?_
    refine RunC.cond_true rfl rfl ?_
    refine RunC.seq ?_
    refine RunC.regionW ?_
    refine ROps.l (r := AV.i64 (-1)) rfl rfl rfl (LOp.assign rfl rfl) ?_
    refine ROps.nil ?_
    refine RunC.ret ?_
    have hq := Option.some.inj h
    subst q0
    exact bodyQ.pure (.inr rfl) rfl (Res.one rfl (RV.tmp rfl))
  · refine RunC.regionW ?_
    refine ROps.l (r := AV.i64 r1) rfl rfl rfl (LOp.move rfl rfl) ?_
    refine ROps.l (r := AV.b false) rfl rfl rfl (LOp.eqb (LOp.lss rfl rfl rfl) hc2) ?_
    refine ROps.nil ?_
    refine RunC.cond_false rfl rfl ?_
    refine RunC.skip ?_
    refine RunC.seq ?_
    refine RunC.regionW ?_
    refine ROps.l (r := AV.i64 r1) rfl rfl rfl (LOp.move rfl rfl) ?_
    refine ROps.l (r := AV.i64 r1) rfl rfl rfl (LOp.assign rfl rfl) ?_
    refine ROps.nil ?_
    refine RunC.ret ?_
    have hq := Option.some.inj h
    subst q0
    exact bodyQ.pure (.inr rfl) rfl (Res.one rfl (RV.tmp rfl))
end Go.Proofs.Ytjbifkimffmhpaa
