/- Generated. -/
import Derived.Test.YtjbifkimffmhpaaG0
namespace Go.Proofs.Ytjbifkimffmhpaa
open Go Go.AM
set_option maxRecDepth 20000
set_option maxHeartbeats 4000000
set_option linter.unusedVariables false
set_option linter.unusedSimpArgs false
noncomputable def i_RootOfSquare_k9 (v11 : Int) (L30 : List F) : Option (LR ((List F) × Int) ((List F)) (Int × Int × Bool × (List F))) :=
  olet (IntKind.i64.wrap (v11 + 1)) fun (x32 : Int) =>
  some (LR.next (L30, x32))
noncomputable def i_RootOfSquare_b8 (r2 : Int) (r3 : Int) (v7 : Int) (L9 : List F) (v11 : Int) (y13 : F) (v14 : Int) : Option (LR (F × Int) (F) (Int × Int × Bool × (List F))) :=
  bsel (decide (v14 < v11)) (
    obind (i_Matrix_at r2 r3 L9 v7 v14) fun (r15 : F) =>
    obind (i_Matrix_at r2 r3 L9 v11 v14) fun (r16 : F) =>
    obind (i_mul r15 r16) fun (r17 : F) =>
    olet (fop .sub .f32 y13 r17) fun (x18 : F) =>
    olet (IntKind.i64.wrap (v14 + 1)) fun (x19 : Int) =>
    some (LR.next (x18, x19))) (
    some (LR.out y13))
noncomputable def i_RootOfSquare_s8 (r2 : Int) (r3 : Int) (v7 : Int) (L9 : List F) (v11 : Int) : (F × Int) → Option (LR (F × Int) (F) (Int × Int × Bool × (List F))) := fun s => i_RootOfSquare_b8 r2 r3 v7 L9 v11 s.1 s.2
noncomputable def i_RootOfSquare_k8 (r2 : Int) (r3 : Int) (r4 : List F) (v7 : Int) (L9 : List F) (v11 : Int) (y21 : F) : Option (LR ((List F) × Int) ((List F)) (Int × Int × Bool × (List F))) :=
  bsel (decide (v11 < v7)) (
    obind (i_Matrix_at r2 r3 L9 v11 v11) fun (r24 : F) =>
    olet (fop .quo .f32 y21 r24) fun (x25 : F) =>
    obind (i_Matrix_set_02o r2 r3 v7 v11 x25 L9) fun (r26 : List F) =>
    need (decide (r26.length = r4.length)) <|
    i_RootOfSquare_k9 v11 r26) (
    bsel (flt .f32 (some 0) y21) (
      obind (i_RootNumber y21) fun (r28 : F) =>
      obind (i_Matrix_set_02o r2 r3 v7 v11 r28 L9) fun (r29 : List F) =>
      need (decide (r29.length = r4.length)) <|
      i_RootOfSquare_k9 v11 r29) (
      some (LR.ret (0, 0, false, ([] : List F)))))
noncomputable def i_RootOfSquare_b10 (a0 : Int) (a1 : Int) (a2 : List F) (r2 : Int) (r3 : Int) (r4 : List F) (v7 : Int) (x8 : Int) (L9 : List F) (v11 : Int) : Option (LR ((List F) × Int) ((List F)) (Int × Int × Bool × (List F))) :=
  bsel (decide (v11 < x8)) (
    obind (i_Matrix_at a0 a1 a2 v7 v11) fun (r12 : F) =>
    obind (loopM (i_RootOfSquare_s8 r2 r3 v7 L9 v11) (r12, 0)) fun z => osum z (fun e => i_RootOfSquare_k8 r2 r3 r4 v7 L9 v11 e) (fun r => some (LR.ret r))) (
    some (LR.out L9))
noncomputable def i_RootOfSquare_s10 (a0 : Int) (a1 : Int) (a2 : List F) (r2 : Int) (r3 : Int) (r4 : List F) (v7 : Int) (x8 : Int) : ((List F) × Int) → Option (LR ((List F) × Int) ((List F)) (Int × Int × Bool × (List F))) := fun s => i_RootOfSquare_b10 a0 a1 a2 r2 r3 r4 v7 x8 s.1 s.2
noncomputable def i_RootOfSquare_k10 (v7 : Int) (L33 : List F) : Option (LR ((List F) × Int) ((List F)) (Int × Int × Bool × (List F))) :=
  olet (IntKind.i64.wrap (v7 + 1)) fun (x35 : Int) =>
  some (LR.next (L33, x35))
noncomputable def i_RootOfSquare_b11 (a0 : Int) (a1 : Int) (a2 : List F) (r2 : Int) (r3 : Int) (r4 : List F) (L5 : List F) (v7 : Int) : Option (LR ((List F) × Int) ((List F)) (Int × Int × Bool × (List F))) :=
  bsel (decide (v7 < a0)) (
    olet (IntKind.i64.wrap (v7 + 1)) fun (x8 : Int) =>
    obind (loopM (i_RootOfSquare_s10 a0 a1 a2 r2 r3 r4 v7 x8) (L5, 0)) fun z => osum z (fun e => i_RootOfSquare_k10 v7 e) (fun r => some (LR.ret r))) (
    some (LR.out L5))
noncomputable def i_RootOfSquare_s11 (a0 : Int) (a1 : Int) (a2 : List F) (r2 : Int) (r3 : Int) (r4 : List F) : ((List F) × Int) → Option (LR ((List F) × Int) ((List F)) (Int × Int × Bool × (List F))) := fun s => i_RootOfSquare_b11 a0 a1 a2 r2 r3 r4 s.1 s.2
noncomputable def i_RootOfSquare_k11 (r2 : Int) (r3 : Int) (r4 : List F) (L36 : List F) : Option (Int × Int × Bool × (List F)) :=
  obind (i_Matrix_valid_02o r2 r3 L36) (fun z => osum z (fun y => obind4 (some y) fun (r38 : Int) (r39 : Int) (r40 : Bool) (r41 : List F) =>
    need (decide (r41.length = r4.length)) <|
    some (r38, r39, r40, r41)) (fun y => obind5 (some y) fun (r42 : Int) (r43 : Int) (r44 : Bool) (r45 : List F) (r46 : List F) =>
    need (decide (r45.length = r4.length)) <|
    some (r42, r43, r44, r46)))
noncomputable def i_RootOfSquare (a0 : Int) (a1 : Int) (a2 : List F) : Option (Int × Int × Bool × (List F)) :=
  obind (i_isSquare a0 a1 a2) fun (r1 : Bool) =>
  bsel r1 (
    obind3 (i_newMatrix a0 a0) fun (r2 : Int) (r3 : Int) (r4 : List F) =>
    obind (loopM (i_RootOfSquare_s11 a0 a1 a2 r2 r3 r4) (r4, 0)) fun z => osum z (fun e => i_RootOfSquare_k11 r2 r3 r4 e) (fun r => some r)) (
    some (0, 0, false, ([] : List F)))
theorem i_RootOfSquare_ok (a0 : Int) (a1 : Int) (a2 : List F) (q0 : Int) (q1 : Int) (q2 : Bool) (q3 : List F) (h : i_RootOfSquare a0 a1 a2 = some (q0, q1, q2, q3)) : Ev Try.prog 61 [AV.agg [AV.i64 a0, AV.i64 a1, AV.sl a2.length (a2.map AV.f32)]] [] (AV.tup [AV.agg [AV.i64 q0, AV.i64 q1, AV.oref 0 0 0 q3.length], AV.b q2]) [⟨0, some (q3.map AV.f32)⟩] := by
  refine Ev.start Try.func61 rfl rfl 4 (τ := [(0, AV.agg [AV.i64 a0, AV.i64 a1, AV.sl a2.length (a2.map AV.f32)])]) rfl (Γ' := [⟨0, none⟩, ⟨0, none⟩, ⟨0, none⟩, ⟨0, none⟩]) rfl (n := 78) rfl (g := 0) rfl ?_
  unfold i_RootOfSquare at h
  refine RunC.seq ?_
  refine RunC.regionW ?_
  refine ROps.d (r := AV.ptr [AV.i64 a0, AV.i64 a1, AV.sl a2.length (a2.map AV.f32)]) (fs := []) (Γ' := [⟨0, none⟩, ⟨0, none⟩, ⟨0, none⟩, ⟨0, none⟩]) rfl rfl rfl (TOp.box_s rfl rfl rfl) rfl ?_
  refine ROps.d (r := AV.optr 0 1 0) (fs := [(0, [AV.i64 0, AV.i64 0, AV.nilsl])]) (Γ' := [⟨1, some [AV.i64 0, AV.i64 0, AV.nilsl]⟩, ⟨0, none⟩, ⟨0, none⟩, ⟨0, none⟩]) rfl rfl rfl (TOp.alloc_o (g := ⟨0, none⟩) 0 rfl zer27 zok27 rfl) rfl ?_
  refine ROps.l (r := AV.b false) rfl rfl rfl (LOp.assign rfl rfl) ?_
  refine ROps.nil ?_
  refine RunC.seq ?_
  refine RunC.seq ?_
  obtain ⟨r1, hf1, h⟩ := obind_some h
  rcases bsel_some h with ⟨hc2, h⟩ | ⟨hc2, h⟩
  · refine RunC.regionW ?_
    refine ROps.l (r := AV.agg [AV.i64 a0, AV.i64 a1, AV.sl a2.length (a2.map AV.f32)]) rfl rfl rfl (LOp.loadAgg agg27 siz27 rfl rfl rfl rfl) ?_
    refine ROps.d (r := AV.b true) (fs := []) (Γ' := [⟨1, some [AV.i64 0, AV.i64 0, AV.nilsl]⟩, ⟨0, none⟩, ⟨0, none⟩, ⟨0, none⟩]) rfl rfl rfl (TOp.eqb (TOp.callB (CallAs.func ent59 rfl rfl) (Bors.cons (Bor.agg (Bors.cons (Bor.pure rfl) (Bors.cons (Bor.pure rfl) (Bors.cons (Bor.sl (fun _ => rfl)) Bors.nil)))) Bors.nil) rfl rfl (i_isSquare_ok a0 a1 a2 r1 hf1)) hc2) rfl ?_
    refine ROps.l (r := AV.b false) rfl rfl rfl (LOp.eqb (LOp.not rfl rfl) rfl) ?_
    refine ROps.nil ?_
    refine RunC.cond_false rfl rfl ?_
    refine RunC.skip ?_
    refine RunC.seq ?_
    obtain ⟨r2, r3, r4, hf3, h⟩ := obind3_some h
    refine RunC.regionW ?_
    refine ROps.l (r := AV.ptr [AV.i64 a0, AV.i64 a1, AV.sl a2.length (a2.map AV.f32)]) rfl rfl rfl (LOp.fap und27 rfl siz2 rfl rfl rfl) ?_
    refine ROps.l (r := AV.i64 a0) rfl rfl rfl (LOp.load1 agg2 rfl rfl) ?_
    refine ROps.l (r := AV.ptr [AV.i64 a0, AV.i64 a1, AV.sl a2.length (a2.map AV.f32)]) rfl rfl rfl (LOp.fap und27 rfl siz2 rfl rfl rfl) ?_
    refine ROps.l (r := AV.i64 a0) rfl rfl rfl (LOp.load1 agg2 rfl rfl) ?_
    refine ROps.d (r := AV.agg [AV.i64 r2, AV.i64 r3, AV.oref 1 1 0 r4.length]) (fs := [(1, (r4.map AV.f32))]) (Γ' := [⟨1, some [AV.i64 0, AV.i64 0, AV.nilsl]⟩, ⟨1, some (r4.map AV.f32)⟩, ⟨0, none⟩, ⟨0, none⟩]) rfl rfl rfl (TOp.callBN (ls := [(r4.map AV.f32)]) [1] (CallAs.func ent49 rfl rfl) (Bors.cons (Bor.pure rfl) (Bors.cons (Bor.pure rfl) Bors.nil)) rfl (i_newMatrix_ok a0 a0 r2 r3 r4 hf3) (and_all (lts0_map (f := AV.f32) (fun _ => rfl) _) rfl) (and_all (noss_map (f := AV.f32) (fun _ => rfl) _) rfl) rfl (by decide) (ns_of ⟨⟨_, rfl⟩, trivial⟩)) rfl ?_
    refine ROps.d (r := AV.optr 2 1 0) (fs := [(2, [AV.i64 0, AV.i64 0, AV.nilsl])]) (Γ' := [⟨1, some [AV.i64 0, AV.i64 0, AV.nilsl]⟩, ⟨1, some (r4.map AV.f32)⟩, ⟨1, some [AV.i64 0, AV.i64 0, AV.nilsl]⟩, ⟨0, none⟩]) rfl rfl rfl (TOp.alloc_o (g := ⟨0, none⟩) 2 rfl zer27 zok27 rfl) rfl ?_
    refine ROps.store_le (r := AV.agg [AV.i64 r2, AV.i64 r3, AV.oref 1 1 0 r4.length]) (l' := [AV.i64 r2, AV.i64 r3, AV.oref 1 1 0 r4.length]) (Γ' := [⟨1, some [AV.i64 0, AV.i64 0, AV.nilsl]⟩, ⟨1, some (r4.map AV.f32)⟩, ⟨1, some [AV.i64 r2, AV.i64 r3, AV.oref 1 1 0 r4.length]⟩, ⟨0, none⟩]) rfl siz27 rfl rfl rfl (ALe.refl _) rfl rfl rfl rfl (Nat.le_of_ble_eq_true rfl) rfl rfl ?_
    refine ROps.nil ?_
    refine RunC.seq ?_
    refine RunC.seq ?_
    refine RunC.regionW ?_
    refine ROps.l (r := AV.ptr [AV.i64 a0, AV.i64 a1, AV.sl a2.length (a2.map AV.f32)]) rfl rfl rfl (LOp.fap und27 rfl siz2 rfl rfl rfl) ?_
    refine ROps.l (r := AV.i64 a0) rfl rfl rfl (LOp.load1 agg2 rfl rfl) ?_
    refine ROps.l (r := AV.i64 0) rfl rfl rfl (LOp.move rfl rfl) ?_
    refine ROps.nil ?_
    obtain ⟨z12, hz_12, h⟩ := obind_some h
    refine RunC.cutN (fun τ Γ => ∃ (L36 : List F), L36.length = r4.length ∧ WeakLe τ [(2, AV.optr 0 1 0), (4, AV.optr 2 1 0)] ∧ DeadLe Γ [⟨1, some [AV.i64 0, AV.i64 0, AV.nilsl]⟩, ⟨1, some (L36.map AV.f32)⟩, ⟨1, some [AV.i64 r2, AV.i64 r3, AV.oref 1 1 0 r4.length]⟩, ⟨0, none⟩] ∧ z12 = .inl L36) ?_ ?_
    · refine RunC.block (RunC.loop (RunL.loopM (x := z12) (i_RootOfSquare_s11 a0 a1 a2 r2 r3 r4) (fun (s : (List F) × Int) τ Γ => s.1.length = r4.length ∧ WeakLe τ [(1, AV.ptr [AV.i64 a0, AV.i64 a1, AV.sl a2.length (a2.map AV.f32)]), (2, AV.optr 0 1 0), (4, AV.optr 2 1 0), (19, AV.i64 a0), (20, AV.i64 s.2)] ∧ DeadLe Γ [⟨1, some [AV.i64 0, AV.i64 0, AV.nilsl]⟩, ⟨1, some (s.1.map AV.f32)⟩, ⟨1, some [AV.i64 r2, AV.i64 r3, AV.oref 1 1 0 r4.length]⟩, ⟨0, none⟩]) ?_ _ _ _ hz_12 ⟨rfl, ⟨(ALe.refl _), (ALe.refl _), (ALe.refl _), (ALe.refl _), (ALe.refl _), trivial⟩, ⟨⟨rfl, .inr rfl⟩, ⟨rfl, .inr rfl⟩, ⟨rfl, .inr rfl⟩, ⟨rfl, .inr rfl⟩, trivial⟩⟩))
      rintro ⟨L5, v7⟩ τ12 Γ12 y12_ ⟨hl6, hw12, hd12⟩ h12_ ho12 hr12
      refine RunC.wl (τ' := [(1, AV.ptr [AV.i64 a0, AV.i64 a1, AV.sl a2.length (a2.map AV.f32)]), (2, AV.optr 0 1 0), (4, AV.optr 2 1 0), (19, AV.i64 a0), (20, AV.i64 v7)]) (Γ' := [⟨1, some [AV.i64 0, AV.i64 0, AV.nilsl]⟩, ⟨1, some (L5.map AV.f32)⟩, ⟨1, some [AV.i64 r2, AV.i64 r3, AV.oref 1 1 0 r4.length]⟩, ⟨0, none⟩]) hw12 hd12 ?_
      replace hl6 : L5.length = r4.length := hl6
      replace h12_ : i_RootOfSquare_b11 a0 a1 a2 r2 r3 r4 L5 v7 = some y12_ := h12_
      unfold i_RootOfSquare_b11 at h12_
      refine RunC.seq ?_
      rcases bsel_some h12_ with ⟨hc4, h12_⟩ | ⟨hc4, h12_⟩
      · refine RunC.regionW ?_
        refine ROps.l (r := AV.b true) rfl rfl rfl (LOp.eqb (LOp.lss rfl rfl rfl) hc4) ?_
        refine ROps.nil ?_
        refine RunC.seq ?_
        refine RunC.cond_true rfl rfl ?_
        refine RunC.skip ?_
        refine RunC.seq ?_
        refine RunC.block ?_
        refine RunC.seq ?_
        refine RunC.regionW ?_
        refine ROps.l (r := AV.i64 v7) rfl rfl rfl (LOp.move rfl rfl) ?_
        refine ROps.l (r := AV.i64 v7) rfl rfl rfl (LOp.assign rfl rfl) ?_
        refine ROps.nil ?_
        refine RunC.seq ?_
        obtain ⟨x8, hx5, h12_⟩ := olet_some h12_
        refine RunC.regionW ?_
        refine ROps.l (r := AV.i64 v7) rfl rfl rfl (LOp.move rfl rfl) ?_
        refine ROps.l (r := AV.i64 x8) rfl rfl rfl (LOp.eqr (LOp.add rfl rfl rfl) (congrArg (AV.ik .i64) hx5)) ?_
        refine ROps.l (r := AV.i64 0) rfl rfl rfl (LOp.move rfl rfl) ?_
        refine ROps.nil ?_
        obtain ⟨z13, hz_13, h12_⟩ := obind_some h12_
        refine RunC.cutN (fun τ Γ => ∃ (L33 : List F), L33.length = r4.length ∧ WeakLe τ [(1, AV.ptr [AV.i64 a0, AV.i64 a1, AV.sl a2.length (a2.map AV.f32)]), (2, AV.optr 0 1 0), (4, AV.optr 2 1 0), (19, AV.i64 a0), (20, AV.i64 v7)] ∧ DeadLe Γ [⟨1, some [AV.i64 0, AV.i64 0, AV.nilsl]⟩, ⟨1, some (L33.map AV.f32)⟩, ⟨1, some [AV.i64 r2, AV.i64 r3, AV.oref 1 1 0 r4.length]⟩, ⟨0, none⟩] ∧ z13 = .inl L33) ?_ ?_
        · refine RunC.block (RunC.loop (RunL.loopM (x := z13) (i_RootOfSquare_s10 a0 a1 a2 r2 r3 r4 v7 x8) (fun (s : (List F) × Int) τ Γ => s.1.length = r4.length ∧ WeakLe τ [(1, AV.ptr [AV.i64 a0, AV.i64 a1, AV.sl a2.length (a2.map AV.f32)]), (2, AV.optr 0 1 0), (4, AV.optr 2 1 0), (5, AV.i64 v7), (19, AV.i64 a0), (20, AV.i64 v7), (24, AV.i64 x8), (25, AV.i64 s.2)] ∧ DeadLe Γ [⟨1, some [AV.i64 0, AV.i64 0, AV.nilsl]⟩, ⟨1, some (s.1.map AV.f32)⟩, ⟨1, some [AV.i64 r2, AV.i64 r3, AV.oref 1 1 0 r4.length]⟩, ⟨0, none⟩]) ?_ _ _ _ hz_13 ⟨hl6, ⟨(ALe.refl _), (ALe.refl _), (ALe.refl _), (ALe.refl _), (ALe.refl _), (ALe.refl _), (ALe.refl _), (ALe.refl _), trivial⟩, ⟨⟨rfl, .inr rfl⟩, ⟨rfl, .inr rfl⟩, ⟨rfl, .inr rfl⟩, ⟨rfl, .inr rfl⟩, trivial⟩⟩))
          rintro ⟨L9, v11⟩ τ13 Γ13 y13_ ⟨hl10, hw13, hd13⟩ h13_ ho13 hr13
          refine RunC.wl (τ' := [(1, AV.ptr [AV.i64 a0, AV.i64 a1, AV.sl a2.length (a2.map AV.f32)]), (2, AV.optr 0 1 0), (4, AV.optr 2 1 0), (5, AV.i64 v7), (19, AV.i64 a0), (20, AV.i64 v7), (24, AV.i64 x8), (25, AV.i64 v11)]) (Γ' := [⟨1, some [AV.i64 0, AV.i64 0, AV.nilsl]⟩, ⟨1, some (L9.map AV.f32)⟩, ⟨1, some [AV.i64 r2, AV.i64 r3, AV.oref 1 1 0 r4.length]⟩, ⟨0, none⟩]) hw13 hd13 ?_
          replace hl10 : L9.length = r4.length := hl10
          replace h13_ : i_RootOfSquare_b10 a0 a1 a2 r2 r3 r4 v7 x8 L9 v11 = some y13_ := h13_
          unfold i_RootOfSquare_b10 at h13_
          refine RunC.seq ?_
          rcases bsel_some h13_ with ⟨hc6, h13_⟩ | ⟨hc6, h13_⟩
          · refine RunC.regionW ?_
            refine ROps.l (r := AV.b true) rfl rfl rfl (LOp.eqb (LOp.lss rfl rfl rfl) hc6) ?_
            refine ROps.nil ?_
            refine RunC.seq ?_
            refine RunC.cond_true rfl rfl ?_
            refine RunC.skip ?_
            refine RunC.seq ?_
            refine RunC.cutN (fun τ Γ => ∃ (L30 : List F), L30.length = r4.length ∧ WeakLe τ [(1, AV.ptr [AV.i64 a0, AV.i64 a1, AV.sl a2.length (a2.map AV.f32)]), (2, AV.optr 0 1 0), (4, AV.optr 2 1 0), (5, AV.i64 v7), (19, AV.i64 a0), (20, AV.i64 v7), (24, AV.i64 x8), (25, AV.i64 v11)] ∧ DeadLe Γ [⟨1, some [AV.i64 0, AV.i64 0, AV.nilsl]⟩, ⟨1, some (L30.map AV.f32)⟩, ⟨1, some [AV.i64 r2, AV.i64 r3, AV.oref 1 1 0 r4.length]⟩, ⟨0, none⟩] ∧ i_RootOfSquare_k9 v11 L30 = some y13_) ?_ ?_
            · refine RunC.block ?_
              refine RunC.seq ?_
              refine RunC.regionW ?_
              refine ROps.l (r := AV.i64 v11) rfl rfl rfl (LOp.move rfl rfl) ?_
              refine ROps.l (r := AV.i64 v11) rfl rfl rfl (LOp.assign rfl rfl) ?_
              refine ROps.nil ?_
              refine RunC.seq ?_
              obtain ⟨r12, hf7, h13_⟩ := obind_some h13_
              refine RunC.regionW ?_
              refine ROps.l (r := AV.agg [AV.i64 a0, AV.i64 a1, AV.sl a2.length (a2.map AV.f32)]) rfl rfl rfl (LOp.loadAgg agg27 siz27 rfl rfl rfl rfl) ?_
              refine ROps.l (r := AV.i64 v7) rfl rfl rfl (LOp.move rfl rfl) ?_
              refine ROps.l (r := AV.i64 v11) rfl rfl rfl (LOp.move rfl rfl) ?_
              refine ROps.d (r := AV.f32 r12) (fs := []) (Γ' := [⟨1, some [AV.i64 0, AV.i64 0, AV.nilsl]⟩, ⟨1, some (L9.map AV.f32)⟩, ⟨1, some [AV.i64 r2, AV.i64 r3, AV.oref 1 1 0 r4.length]⟩, ⟨0, none⟩]) rfl rfl rfl (TOp.callB (CallAs.func ent51 rfl rfl) (Bors.cons (Bor.agg (Bors.cons (Bor.pure rfl) (Bors.cons (Bor.pure rfl) (Bors.cons (Bor.sl (fun _ => rfl)) Bors.nil)))) (Bors.cons (Bor.pure rfl) (Bors.cons (Bor.pure rfl) Bors.nil))) rfl rfl (i_Matrix_at_ok a0 a1 a2 v7 v11 r12 hf7)) rfl ?_
              refine ROps.l (r := AV.f32 r12) rfl rfl rfl (LOp.assign rfl rfl) ?_
              refine ROps.nil ?_
              refine RunC.seq ?_
              refine RunC.seq ?_
              refine RunC.regionW ?_
              refine ROps.l (r := AV.i64 v11) rfl rfl rfl (LOp.move rfl rfl) ?_
              refine ROps.l (r := AV.i64 0) rfl rfl rfl (LOp.move rfl rfl) ?_
              refine ROps.nil ?_
              obtain ⟨z14, hz_14, h13_⟩ := obind_some h13_
              refine RunC.cutN (fun τ Γ => ∃ (y21 : F), L9.length = r4.length ∧ WeakLe τ [(1, AV.ptr [AV.i64 a0, AV.i64 a1, AV.sl a2.length (a2.map AV.f32)]), (2, AV.optr 0 1 0), (4, AV.optr 2 1 0), (5, AV.i64 v7), (6, AV.i64 v11), (7, AV.f32 y21), (19, AV.i64 a0), (20, AV.i64 v7), (24, AV.i64 x8), (25, AV.i64 v11)] ∧ DeadLe Γ [⟨1, some [AV.i64 0, AV.i64 0, AV.nilsl]⟩, ⟨1, some (L9.map AV.f32)⟩, ⟨1, some [AV.i64 r2, AV.i64 r3, AV.oref 1 1 0 r4.length]⟩, ⟨0, none⟩] ∧ z14 = .inl y21) ?_ ?_
              · refine RunC.block (RunC.loop (RunL.loopM (x := z14) (i_RootOfSquare_s8 r2 r3 v7 L9 v11) (fun (s : F × Int) τ Γ => WeakLe τ [(1, AV.ptr [AV.i64 a0, AV.i64 a1, AV.sl a2.length (a2.map AV.f32)]), (2, AV.optr 0 1 0), (4, AV.optr 2 1 0), (5, AV.i64 v7), (6, AV.i64 v11), (7, AV.f32 s.1), (19, AV.i64 a0), (20, AV.i64 v7), (24, AV.i64 x8), (25, AV.i64 v11), (32, AV.i64 v11), (33, AV.i64 s.2)] ∧ DeadLe Γ [⟨1, some [AV.i64 0, AV.i64 0, AV.nilsl]⟩, ⟨1, some (L9.map AV.f32)⟩, ⟨1, some [AV.i64 r2, AV.i64 r3, AV.oref 1 1 0 r4.length]⟩, ⟨0, none⟩]) ?_ _ _ _ hz_14 ⟨⟨(ALe.refl _), (ALe.refl _), (ALe.refl _), (ALe.refl _), (ALe.refl _), (ALe.refl _), (ALe.refl _), (ALe.refl _), (ALe.refl _), (ALe.refl _), (ALe.refl _), (ALe.refl _), trivial⟩, ⟨⟨rfl, .inr rfl⟩, ⟨rfl, .inr rfl⟩, ⟨rfl, .inr rfl⟩, ⟨rfl, .inr rfl⟩, trivial⟩⟩))
                rintro ⟨y13, v14⟩ τ14 Γ14 y14_ ⟨hw14, hd14⟩ h14_ ho14 hr14
                refine RunC.wl (τ' := [(1, AV.ptr [AV.i64 a0, AV.i64 a1, AV.sl a2.length (a2.map AV.f32)]), (2, AV.optr 0 1 0), (4, AV.optr 2 1 0), (5, AV.i64 v7), (6, AV.i64 v11), (7, AV.f32 y13), (19, AV.i64 a0), (20, AV.i64 v7), (24, AV.i64 x8), (25, AV.i64 v11), (32, AV.i64 v11), (33, AV.i64 v14)]) (Γ' := [⟨1, some [AV.i64 0, AV.i64 0, AV.nilsl]⟩, ⟨1, some (L9.map AV.f32)⟩, ⟨1, some [AV.i64 r2, AV.i64 r3, AV.oref 1 1 0 r4.length]⟩, ⟨0, none⟩]) hw14 hd14 ?_
                replace h14_ : i_RootOfSquare_b8 r2 r3 v7 L9 v11 y13 v14 = some y14_ := h14_
                unfold i_RootOfSquare_b8 at h14_
                refine RunC.seq ?_
                rcases bsel_some h14_ with ⟨hc8, h14_⟩ | ⟨hc8, h14_⟩
                · refine RunC.regionW ?_
                  refine ROps.l (r := AV.b true) rfl rfl rfl (LOp.eqb (LOp.lss rfl rfl rfl) hc8) ?_
                  refine ROps.nil ?_
                  refine RunC.seq ?_
                  refine RunC.cond_true rfl rfl ?_
                  refine RunC.skip ?_
                  refine RunC.seq ?_
                  refine RunC.block ?_
                  refine RunC.seq ?_
                  refine RunC.regionW ?_
                  refine ROps.l (r := AV.i64 v14) rfl rfl rfl (LOp.move rfl rfl) ?_
                  refine ROps.l (r := AV.i64 v14) rfl rfl rfl (LOp.assign rfl rfl) ?_
                  refine ROps.nil ?_
                  obtain ⟨r15, hf9, h14_⟩ := obind_some h14_
                  obtain ⟨r16, hf10, h14_⟩ := obind_some h14_
                  obtain ⟨r17, hf11, h14_⟩ := obind_some h14_
                  obtain ⟨x18, hx12, h14_⟩ := olet_some h14_
                  refine RunC.region_draw (Γ' := [⟨1, some [AV.i64 0, AV.i64 0, AV.nilsl]⟩, ⟨1, some (L9.map AV.f32)⟩, ⟨1, some [AV.i64 r2, AV.i64 r3, AV.oref 1 1 0 r4.length]⟩, ⟨0, none⟩]) 12 mixed 
                    (TR.l (r := AV.f32 y13) rfl rfl (LOp.move rfl rfl) <|
                    (TR.d (r := AV.agg [AV.i64 r2, AV.i64 r3, AV.oref 1 1 0 r4.length]) (fs := []) rfl rfl (TOp.loadAgg_o rfl agg27 siz27 rfl rfl rfl rfl) <|
                    (TR.l (r := AV.i64 v7) rfl rfl (LOp.move rfl rfl) <|
                    (TR.l (r := AV.i64 v14) rfl rfl (LOp.move rfl rfl) <|
                    (TR.d (r := AV.f32 r15) (fs := []) rfl rfl (TOp.callB (CallAs.func ent51 rfl rfl) (Bors.cons (Bor.agg (Bors.cons (Bor.pure rfl) (Bors.cons (Bor.pure rfl) (Bors.cons (Bor.own (f := AV.f32) (fun _ => rfl) rfl hl10) Bors.nil)))) (Bors.cons (Bor.pure rfl) (Bors.cons (Bor.pure rfl) Bors.nil))) rfl rfl (i_Matrix_at_ok r2 r3 L9 v7 v14 r15 hf9)) <|
                    (TR.d (r := AV.agg [AV.i64 r2, AV.i64 r3, AV.oref 1 1 0 r4.length]) (fs := []) rfl rfl (TOp.loadAgg_o rfl agg27 siz27 rfl rfl rfl rfl) <|
                    (TR.l (r := AV.i64 v11) rfl rfl (LOp.move rfl rfl) <|
                    (TR.l (r := AV.i64 v14) rfl rfl (LOp.move rfl rfl) <|
                    (TR.d (r := AV.f32 r16) (fs := []) rfl rfl (TOp.callB (CallAs.func ent51 rfl rfl) (Bors.cons (Bor.agg (Bors.cons (Bor.pure rfl) (Bors.cons (Bor.pure rfl) (Bors.cons (Bor.own (f := AV.f32) (fun _ => rfl) rfl hl10) Bors.nil)))) (Bors.cons (Bor.pure rfl) (Bors.cons (Bor.pure rfl) Bors.nil))) rfl rfl (i_Matrix_at_ok r2 r3 L9 v11 v14 r16 hf10)) <|
                    (TR.d (r := AV.f32 r17) (fs := []) rfl rfl (TOp.callB (CallAs.func ent54 rfl rfl) (Bors.cons (Bor.pure rfl) (Bors.cons (Bor.pure rfl) Bors.nil)) rfl rfl (i_mul_ok r15 r16 r17 hf11)) <|
                    (TR.d (r := AV.f32 x18) (fs := []) rfl rfl (TOp.eqr (TOp.fop (.inr (.inl rfl)) rfl (OpF.tmp rfl) (OpF.tmp rfl)) (congrArg (AV.f .f32) hx12)) <|
                    (TR.l (r := AV.f32 x18) rfl rfl (LOp.assign rfl rfl) <|
                    TR.nil)))))))))))) rfl (by kernel_rfl) rfl fills_nil rfl ?_
                  iterate 12 refine ROps.dropS ?_
                  refine ROps.drop0 ?_
                  refine ROps.nil ?_
                  refine RunC.wl (τ' := [(1, AV.ptr [AV.i64 a0, AV.i64 a1, AV.sl a2.length (a2.map AV.f32)]), (2, AV.optr 0 1 0), (4, AV.optr 2 1 0), (5, AV.i64 v7), (6, AV.i64 v11), (7, AV.f32 x18), (19, AV.i64 a0), (20, AV.i64 v7), (24, AV.i64 x8), (25, AV.i64 v11), (32, AV.i64 v11), (33, AV.i64 v14)]) (Γ' := [⟨1, some [AV.i64 0, AV.i64 0, AV.nilsl]⟩, ⟨1, some (L9.map AV.f32)⟩, ⟨1, some [AV.i64 r2, AV.i64 r3, AV.oref 1 1 0 r4.length]⟩, ⟨0, none⟩]) ⟨(ALe.refl _), (ALe.refl _), (ALe.refl _), (ALe.refl _), (ALe.refl _), (ALe.refl _), (ALe.refl _), (ALe.refl _), (ALe.refl _), (ALe.refl _), (ALe.refl _), (ALe.refl _), trivial⟩ ⟨⟨rfl, .inr rfl⟩, ⟨rfl, .inr rfl⟩, ⟨rfl, .inr rfl⟩, ⟨rfl, .inr rfl⟩, trivial⟩ ?_
                  obtain ⟨x19, hx13, h14_⟩ := olet_some h14_
                  refine RunC.regionW ?_
                  refine ROps.l (r := AV.i64 x19) rfl rfl rfl (LOp.eqr (LOp.add rfl rfl rfl) (congrArg (AV.ik .i64) hx13)) ?_
                  refine ROps.l (r := AV.i64 x19) rfl rfl rfl (LOp.move rfl rfl) ?_
                  refine ROps.nil ?_
                  cases Option.some.inj h14_
                  exact ⟨_, rfl, ⟨(ALe.refl _), (ALe.refl _), (ALe.refl _), (ALe.refl _), (ALe.refl _), (ALe.refl _), (ALe.refl _), (ALe.refl _), (ALe.refl _), (ALe.refl _), (ALe.refl _), (ALe.refl _), trivial⟩, ⟨⟨rfl, .inr rfl⟩, ⟨rfl, .inr rfl⟩, ⟨rfl, .inr rfl⟩, ⟨rfl, .inr rfl⟩, trivial⟩⟩
                · refine RunC.regionW ?_
                  refine ROps.l (r := AV.b false) rfl rfl rfl (LOp.eqb (LOp.lss rfl rfl rfl) hc8) ?_
                  refine ROps.nil ?_
                  refine RunC.seq ?_
                  refine RunC.cond_false rfl rfl ?_
                  refine RunC.exit ?_
                  cases Option.some.inj h14_
                  have hx := ho14 _ rfl
                  exact ⟨y13, hl10, ⟨(ALe.refl _), (ALe.refl _), (ALe.refl _), (ALe.refl _), (ALe.refl _), (ALe.refl _), (ALe.refl _), (ALe.refl _), (ALe.refl _), (ALe.refl _), trivial⟩, ⟨⟨rfl, .inr rfl⟩, ⟨rfl, .inr rfl⟩, ⟨rfl, .inr rfl⟩, ⟨rfl, .inr rfl⟩, trivial⟩, hx⟩
              · rintro τ15 Γ15 ⟨y21, hl20, hw15, hd15, rfl⟩
                refine RunC.wl (τ' := [(1, AV.ptr [AV.i64 a0, AV.i64 a1, AV.sl a2.length (a2.map AV.f32)]), (2, AV.optr 0 1 0), (4, AV.optr 2 1 0), (5, AV.i64 v7), (6, AV.i64 v11), (7, AV.f32 y21), (19, AV.i64 a0), (20, AV.i64 v7), (24, AV.i64 x8), (25, AV.i64 v11)]) (Γ' := [⟨1, some [AV.i64 0, AV.i64 0, AV.nilsl]⟩, ⟨1, some (L9.map AV.f32)⟩, ⟨1, some [AV.i64 r2, AV.i64 r3, AV.oref 1 1 0 r4.length]⟩, ⟨0, none⟩]) hw15 hd15 ?_
                replace h13_ : i_RootOfSquare_k8 r2 r3 r4 v7 L9 v11 y21 = some y13_ := h13_
                unfold i_RootOfSquare_k8 at h13_
                refine RunC.block ?_
                refine RunC.seq ?_
                rcases bsel_some h13_ with ⟨hc14, h13_⟩ | ⟨hc14, h13_⟩
                · refine RunC.regionW ?_
                  refine ROps.l (r := AV.i64 v11) rfl rfl rfl (LOp.move rfl rfl) ?_
                  refine ROps.l (r := AV.i64 v7) rfl rfl rfl (LOp.move rfl rfl) ?_
                  refine ROps.l (r := AV.b true) rfl rfl rfl (LOp.eqb (LOp.lss rfl rfl rfl) hc14) ?_
                  refine ROps.l (r := AV.b true) rfl rfl rfl (LOp.assign rfl rfl) ?_
                  refine ROps.nil ?_
                  refine RunC.cond_true rfl rfl ?_
                  obtain ⟨r24, hf17, h13_⟩ := obind_some h13_
                  obtain ⟨x25, hx18, h13_⟩ := olet_some h13_
                  obtain ⟨r26, hf19, h13_⟩ := obind_some h13_
                  obtain ⟨hn20, h13_⟩ := need_some h13_
                  refine RunC.region_draw (Γ' := [⟨1, some [AV.i64 0, AV.i64 0, AV.nilsl]⟩, ⟨1, some (L9.map AV.f32)⟩, ⟨1, some [AV.i64 r2, AV.i64 r3, AV.oref 1 1 0 r4.length]⟩, ⟨0, none⟩]) 9 mixed 
                    (TR.d (r := AV.agg [AV.i64 r2, AV.i64 r3, AV.oref 1 1 0 r4.length]) (fs := []) rfl rfl (TOp.loadAgg_o rfl agg27 siz27 rfl rfl rfl rfl) <|
                    (TR.l (r := AV.i64 v7) rfl rfl (LOp.move rfl rfl) <|
                    (TR.l (r := AV.i64 v11) rfl rfl (LOp.move rfl rfl) <|
                    (TR.l (r := AV.f32 y21) rfl rfl (LOp.move rfl rfl) <|
                    (TR.d (r := AV.agg [AV.i64 r2, AV.i64 r3, AV.oref 1 1 0 r4.length]) (fs := []) rfl rfl (TOp.loadAgg_o rfl agg27 siz27 rfl rfl rfl rfl) <|
                    (TR.l (r := AV.i64 v11) rfl rfl (LOp.move rfl rfl) <|
                    (TR.l (r := AV.i64 v11) rfl rfl (LOp.move rfl rfl) <|
                    (TR.d (r := AV.f32 r24) (fs := []) rfl rfl (TOp.callB (CallAs.func ent51 rfl rfl) (Bors.cons (Bor.agg (Bors.cons (Bor.pure rfl) (Bors.cons (Bor.pure rfl) (Bors.cons (Bor.own (f := AV.f32) (fun _ => rfl) rfl hl20) Bors.nil)))) (Bors.cons (Bor.pure rfl) (Bors.cons (Bor.pure rfl) Bors.nil))) rfl rfl (i_Matrix_at_ok r2 r3 L9 v11 v11 r24 hf17)) <|
                    (TR.d (r := AV.f32 x25) (fs := []) rfl rfl (TOp.eqr (TOp.fop (.inr (.inr (.inr rfl))) rfl (OpF.tmp rfl) (OpF.tmp rfl)) (congrArg (AV.f .f32) hx18)) <|
                    TR.nil))))))))) rfl (by kernel_rfl) rfl fills_nil rfl ?_
                  iterate 9 refine ROps.dropS ?_
                  refine ROps.drop0 ?_
                  refine ROps.callO (A := [AV.agg [AV.i64 r2, AV.i64 r3, AV.oref 1 1 0 r4.length], AV.i64 v7, AV.i64 v11, AV.f32 x25]) (args := [AV.agg [AV.i64 r2, AV.i64 r3, AV.oref 0 0 0 L9.length], AV.i64 v7, AV.i64 v11, AV.f32 x25]) (Γc := [⟨0, some (L9.map AV.f32)⟩]) (Γc' := [⟨0, some (r26.map AV.f32)⟩]) (r' := AV.tup []) (Γ' := [⟨1, some [AV.i64 0, AV.i64 0, AV.nilsl]⟩, ⟨1, some (r26.map AV.f32)⟩, ⟨1, some [AV.i64 r2, AV.i64 r3, AV.oref 1 1 0 r4.length]⟩, ⟨0, none⟩]) [(1, 1)] [] rfl (CallAs.func ent60 rfl rfl) rfl rfl (SelOk.of (show List.Nodup [1] from by decide) (SelL.arr0 (f := AV.f32) (fun _ => rfl) rfl trivial)) (live_of ⟨⟨_, _, rfl⟩, trivial⟩) (by simp [AV.ren, AV.rens, sigma, rens_f32, rens_f64, rens_i64, rens_ik, rens_str, rens_cp, hl20]) rfl (i_Matrix_set_02o_ok r2 r3 v7 v11 x25 L9 r26 hf19) rfl (news_of trivial) (show List.Nodup [1] from by decide) (by simp [AV.ren, AV.rens, sigma, of_decide_eq_true hn20]) (by simp [backOb, sigma, AV.ren, AV.rens, rens_f32, rens_f64, rens_i64, rens_ik, rens_str, rens_cp]) ?_
                  refine ROps.nil ?_
                  exact ⟨r26, (of_decide_eq_true hn20), ⟨(ALe.refl _), (ALe.refl _), (ALe.refl _), (ALe.refl _), (ALe.refl _), (ALe.refl _), (ALe.refl _), (ALe.refl _), trivial⟩, ⟨⟨rfl, .inr rfl⟩, ⟨rfl, .inr rfl⟩, ⟨rfl, .inr rfl⟩, ⟨rfl, .inr rfl⟩, trivial⟩, h13_⟩
                · refine RunC.regionW ?_
                  refine ROps.l (r := AV.i64 v11) rfl rfl rfl (LOp.move rfl rfl) ?_
                  refine ROps.l (r := AV.i64 v7) rfl rfl rfl (LOp.move rfl rfl) ?_
                  refine ROps.l (r := AV.b false) rfl rfl rfl (LOp.eqb (LOp.lss rfl rfl rfl) hc14) ?_
                  refine ROps.l (r := AV.b false) rfl rfl rfl (LOp.assign rfl rfl) ?_
                  refine ROps.nil ?_
                  refine RunC.cond_false rfl rfl ?_
                  refine RunC.seq ?_
                  rcases bsel_some h13_ with ⟨hc21, h13_⟩ | ⟨hc21, h13_⟩
                  · refine RunC.regionW ?_
                    refine ROps.l (r := AV.f32 y21) rfl rfl rfl (LOp.move rfl rfl) ?_
                    refine ROps.l (r := AV.b true) rfl rfl rfl (LOp.eqb (LOp.fgt rfl (OpF.tmp rfl) (OpF.const rfl (by kernel_rfl) (by kernel_rfl))) hc21) ?_
                    refine ROps.l (r := AV.b true) rfl rfl rfl (LOp.assign rfl rfl) ?_
                    refine ROps.nil ?_
                    refine RunC.cond_true rfl rfl ?_
                    obtain ⟨r28, hf23, h13_⟩ := obind_some h13_
                    obtain ⟨r29, hf24, h13_⟩ := obind_some h13_
                    obtain ⟨hn25, h13_⟩ := need_some h13_
                    refine RunC.region_draw (Γ' := [⟨1, some [AV.i64 0, AV.i64 0, AV.nilsl]⟩, ⟨1, some (L9.map AV.f32)⟩, ⟨1, some [AV.i64 r2, AV.i64 r3, AV.oref 1 1 0 r4.length]⟩, ⟨0, none⟩]) 5 mixed 
                      (TR.d (r := AV.agg [AV.i64 r2, AV.i64 r3, AV.oref 1 1 0 r4.length]) (fs := []) rfl rfl (TOp.loadAgg_o rfl agg27 siz27 rfl rfl rfl rfl) <|
                      (TR.l (r := AV.i64 v7) rfl rfl (LOp.move rfl rfl) <|
                      (TR.l (r := AV.i64 v11) rfl rfl (LOp.move rfl rfl) <|
                      (TR.l (r := AV.f32 y21) rfl rfl (LOp.move rfl rfl) <|
                      (TR.d (r := AV.f32 r28) (fs := []) rfl rfl (TOp.callB (CallAs.func ent96 rfl rfl) (Bors.cons (Bor.pure rfl) Bors.nil) rfl rfl (i_RootNumber_ok y21 r28 hf23)) <|
                      TR.nil))))) rfl (by kernel_rfl) rfl fills_nil rfl ?_
                    iterate 5 refine ROps.dropS ?_
                    refine ROps.drop0 ?_
                    refine ROps.callO (A := [AV.agg [AV.i64 r2, AV.i64 r3, AV.oref 1 1 0 r4.length], AV.i64 v7, AV.i64 v11, AV.f32 r28]) (args := [AV.agg [AV.i64 r2, AV.i64 r3, AV.oref 0 0 0 L9.length], AV.i64 v7, AV.i64 v11, AV.f32 r28]) (Γc := [⟨0, some (L9.map AV.f32)⟩]) (Γc' := [⟨0, some (r29.map AV.f32)⟩]) (r' := AV.tup []) (Γ' := [⟨1, some [AV.i64 0, AV.i64 0, AV.nilsl]⟩, ⟨1, some (r29.map AV.f32)⟩, ⟨1, some [AV.i64 r2, AV.i64 r3, AV.oref 1 1 0 r4.length]⟩, ⟨0, none⟩]) [(1, 1)] [] rfl (CallAs.func ent60 rfl rfl) rfl rfl (SelOk.of (show List.Nodup [1] from by decide) (SelL.arr0 (f := AV.f32) (fun _ => rfl) rfl trivial)) (live_of ⟨⟨_, _, rfl⟩, trivial⟩) (by simp [AV.ren, AV.rens, sigma, rens_f32, rens_f64, rens_i64, rens_ik, rens_str, rens_cp, hl20]) rfl (i_Matrix_set_02o_ok r2 r3 v7 v11 r28 L9 r29 hf24) rfl (news_of trivial) (show List.Nodup [1] from by decide) (by simp [AV.ren, AV.rens, sigma, of_decide_eq_true hn25]) (by simp [backOb, sigma, AV.ren, AV.rens, rens_f32, rens_f64, rens_i64, rens_ik, rens_str, rens_cp]) ?_
                    refine ROps.nil ?_
                    exact ⟨r29, (of_decide_eq_true hn25), ⟨(ALe.refl _), (ALe.refl _), (ALe.refl _), (ALe.refl _), (ALe.refl _), (ALe.refl _), (ALe.refl _), (ALe.refl _), trivial⟩, ⟨⟨rfl, .inr rfl⟩, ⟨rfl, .inr rfl⟩, ⟨rfl, .inr rfl⟩, ⟨rfl, .inr rfl⟩, trivial⟩, h13_⟩
                  · refine RunC.regionW ?_
                    refine ROps.l (r := AV.f32 y21) rfl rfl rfl (LOp.move rfl rfl) ?_
                    refine ROps.l (r := AV.b false) rfl rfl rfl (LOp.eqb (LOp.fgt rfl (OpF.tmp rfl) (OpF.const rfl (by kernel_rfl) (by kernel_rfl))) hc21) ?_
                    refine ROps.l (r := AV.b false) rfl rfl rfl (LOp.assign rfl rfl) ?_
                    refine ROps.nil ?_
                    refine RunC.cond_false rfl rfl ?_
                    refine RunC.seq ?_
                    refine RunC.regionW ?_
                    refine ROps.l (r := AV.agg [AV.i64 0, AV.i64 0, AV.nilsl]) rfl rfl rfl (LOp.build (qs := []) zer27 zok27 und27 plc27 rfl trivial rfl) ?_
                    refine ROps.store_le (r := AV.agg [AV.i64 0, AV.i64 0, AV.nilsl]) (l' := [AV.i64 0, AV.i64 0, AV.nilsl]) (Γ' := [⟨1, some [AV.i64 0, AV.i64 0, AV.nilsl]⟩, ⟨1, some (L9.map AV.f32)⟩, ⟨1, some [AV.i64 r2, AV.i64 r3, AV.oref 1 1 0 r4.length]⟩, ⟨0, none⟩]) rfl siz27 rfl rfl rfl (ALe.refl _) rfl rfl rfl rfl (Nat.le_of_ble_eq_true rfl) rfl rfl ?_
                    refine ROps.l (r := AV.b false) rfl rfl rfl (LOp.assign rfl rfl) ?_
                    refine ROps.nil ?_
                    refine RunC.nil_cell (l' := [AV.i64 0, AV.i64 0, AV.oref 3 1 0 0]) (Γ' := [⟨1, some [AV.i64 0, AV.i64 0, AV.oref 3 1 0 0]⟩, ⟨1, some (L9.map AV.f32)⟩, ⟨1, some [AV.i64 r2, AV.i64 r3, AV.oref 1 1 0 r4.length]⟩, ⟨1, some (([] : List F).map AV.f32)⟩]) 0 2 3 rfl rfl rfl rfl rfl ?_
                    refine RunC.ret ?_
                    cases Option.some.inj h13_
                    have hx16_ := hr13 _ rfl
                    subst hx16_
                    cases Option.some.inj h12_
                    have hx17_ := hr12 _ rfl
                    subst hx17_
                    have hq := Option.some.inj h
                    obtain ⟨hq0, hq⟩ := Prod.mk.inj hq
                    obtain ⟨hq1, hq⟩ := Prod.mk.inj hq
                    obtain ⟨hq2, hq⟩ := Prod.mk.inj hq
                    subst q0
                    subst q1
                    subst q2
                    subst q3
                    exact bodyQ.mk (r' := AV.tup [AV.agg [AV.i64 0, AV.i64 0, AV.oref 3 1 0 (([] : List F).length)], AV.b false]) [(3, 1)] (.inr rfl) rfl (show List.Nodup [3] from by decide) rfl rfl (Res.eq (Res.two rfl (RV.cell agg27 siz27 rfl rfl rfl rfl) (RV.tmp rfl)) (by rw [(show ([] : List F).length = 0 from rfl)] <;> rfl)) (SelL.arr0 (f := AV.f32) (fun _ => rfl) rfl trivial)
            · rintro τ18 Γ18 ⟨L30, hl31, hw18, hd18, h13_⟩
              refine RunC.wl (τ' := [(1, AV.ptr [AV.i64 a0, AV.i64 a1, AV.sl a2.length (a2.map AV.f32)]), (2, AV.optr 0 1 0), (4, AV.optr 2 1 0), (5, AV.i64 v7), (19, AV.i64 a0), (20, AV.i64 v7), (24, AV.i64 x8), (25, AV.i64 v11)]) (Γ' := [⟨1, some [AV.i64 0, AV.i64 0, AV.nilsl]⟩, ⟨1, some (L30.map AV.f32)⟩, ⟨1, some [AV.i64 r2, AV.i64 r3, AV.oref 1 1 0 r4.length]⟩, ⟨0, none⟩]) hw18 hd18 ?_
              unfold i_RootOfSquare_k9 at h13_
              obtain ⟨x32, hx26, h13_⟩ := olet_some h13_
              refine RunC.regionW ?_
              refine ROps.l (r := AV.i64 x32) rfl rfl rfl (LOp.eqr (LOp.add rfl rfl rfl) (congrArg (AV.ik .i64) hx26)) ?_
              refine ROps.l (r := AV.i64 x32) rfl rfl rfl (LOp.move rfl rfl) ?_
              refine ROps.nil ?_
              cases Option.some.inj h13_
              exact ⟨_, rfl, hl31, ⟨(ALe.refl _), (ALe.refl _), (ALe.refl _), (ALe.refl _), (ALe.refl _), (ALe.refl _), (ALe.refl _), (ALe.refl _), trivial⟩, ⟨⟨rfl, .inr rfl⟩, ⟨rfl, .inr rfl⟩, ⟨rfl, .inr rfl⟩, ⟨rfl, .inr rfl⟩, trivial⟩⟩
          · refine RunC.regionW ?_
            refine ROps.l (r := AV.b false) rfl rfl rfl (LOp.eqb (LOp.lss rfl rfl rfl) hc6) ?_
            refine ROps.nil ?_
            refine RunC.seq ?_
            refine RunC.cond_false rfl rfl ?_
            refine RunC.exit ?_
            cases Option.some.inj h13_
            have hx := ho13 _ rfl
            exact ⟨L9, hl10, ⟨(ALe.refl _), (ALe.refl _), (ALe.refl _), (ALe.refl _), (ALe.refl _), trivial⟩, ⟨⟨rfl, .inr rfl⟩, ⟨rfl, .inr rfl⟩, ⟨rfl, .inr rfl⟩, ⟨rfl, .inr rfl⟩, trivial⟩, hx⟩
        · rintro τ19 Γ19 ⟨L33, hl34, hw19, hd19, rfl⟩
          refine RunC.wl (τ' := [(1, AV.ptr [AV.i64 a0, AV.i64 a1, AV.sl a2.length (a2.map AV.f32)]), (2, AV.optr 0 1 0), (4, AV.optr 2 1 0), (19, AV.i64 a0), (20, AV.i64 v7)]) (Γ' := [⟨1, some [AV.i64 0, AV.i64 0, AV.nilsl]⟩, ⟨1, some (L33.map AV.f32)⟩, ⟨1, some [AV.i64 r2, AV.i64 r3, AV.oref 1 1 0 r4.length]⟩, ⟨0, none⟩]) hw19 hd19 ?_
          replace h12_ : i_RootOfSquare_k10 v7 L33 = some y12_ := h12_
          unfold i_RootOfSquare_k10 at h12_
          obtain ⟨x35, hx27, h12_⟩ := olet_some h12_
          refine RunC.regionW ?_
          refine ROps.l (r := AV.i64 x35) rfl rfl rfl (LOp.eqr (LOp.add rfl rfl rfl) (congrArg (AV.ik .i64) hx27)) ?_
          refine ROps.l (r := AV.i64 x35) rfl rfl rfl (LOp.move rfl rfl) ?_
          refine ROps.nil ?_
          cases Option.some.inj h12_
          exact ⟨_, rfl, hl34, ⟨(ALe.refl _), (ALe.refl _), (ALe.refl _), (ALe.refl _), (ALe.refl _), trivial⟩, ⟨⟨rfl, .inr rfl⟩, ⟨rfl, .inr rfl⟩, ⟨rfl, .inr rfl⟩, ⟨rfl, .inr rfl⟩, trivial⟩⟩
      · refine RunC.regionW ?_
        refine ROps.l (r := AV.b false) rfl rfl rfl (LOp.eqb (LOp.lss rfl rfl rfl) hc4) ?_
        refine ROps.nil ?_
        refine RunC.seq ?_
        refine RunC.cond_false rfl rfl ?_
        refine RunC.exit ?_
        cases Option.some.inj h12_
        have hx := ho12 _ rfl
        exact ⟨L5, hl6, ⟨(ALe.refl _), (ALe.refl _), trivial⟩, ⟨⟨rfl, .inr rfl⟩, ⟨rfl, .inr rfl⟩, ⟨rfl, .inr rfl⟩, ⟨rfl, .inr rfl⟩, trivial⟩, hx⟩
    · rintro τ20 Γ20 ⟨L36, hl37, hw20, hd20, rfl⟩
      refine RunC.wl (τ' := [(2, AV.optr 0 1 0), (4, AV.optr 2 1 0)]) (Γ' := [⟨1, some [AV.i64 0, AV.i64 0, AV.nilsl]⟩, ⟨1, some (L36.map AV.f32)⟩, ⟨1, some [AV.i64 r2, AV.i64 r3, AV.oref 1 1 0 r4.length]⟩, ⟨0, none⟩]) hw20 hd20 ?_
      replace h : i_RootOfSquare_k11 r2 r3 r4 L36 = some (q0, q1, q2, q3) := h
      unfold i_RootOfSquare_k11 at h
      refine RunC.seq ?_
      obtain ⟨z21, hf28, h⟩ := obind_some h
      rcases z21 with z21 | z21
      · replace h := (osum_inl _ _ _).symm.trans h
        obtain ⟨r38, r39, r40, r41, hz22, h⟩ := obind4_some h
        cases hz22
        obtain ⟨hn29, h⟩ := need_some h
        refine RunC.regionW ?_
        refine ROps.d (r := AV.agg [AV.i64 r2, AV.i64 r3, AV.oref 1 1 0 r4.length]) (fs := []) (Γ' := [⟨1, some [AV.i64 0, AV.i64 0, AV.nilsl]⟩, ⟨1, some (L36.map AV.f32)⟩, ⟨1, some [AV.i64 r2, AV.i64 r3, AV.oref 1 1 0 r4.length]⟩, ⟨0, none⟩]) rfl rfl rfl (TOp.loadAgg_o rfl agg27 siz27 rfl rfl rfl rfl) rfl ?_
        refine ROps.callO (A := [AV.agg [AV.i64 r2, AV.i64 r3, AV.oref 1 1 0 r4.length]]) (args := [AV.agg [AV.i64 r2, AV.i64 r3, AV.oref 0 0 0 L36.length]]) (Γc := [⟨0, some (L36.map AV.f32)⟩]) (Γc' := [⟨0, some (r41.map AV.f32)⟩]) (r' := AV.tup [AV.agg [AV.i64 r38, AV.i64 r39, AV.oref 1 1 0 r4.length], AV.b r40]) (Γ' := [⟨1, some [AV.i64 0, AV.i64 0, AV.nilsl]⟩, ⟨1, some (r41.map AV.f32)⟩, ⟨1, some [AV.i64 r2, AV.i64 r3, AV.oref 1 1 0 r4.length]⟩, ⟨0, none⟩]) [(1, 1)] [] rfl (CallAs.func ent97 rfl rfl) rfl rfl (SelOk.of (show List.Nodup [1] from by decide) (SelL.arr0 (f := AV.f32) (fun _ => rfl) rfl trivial)) (live_of ⟨⟨_, _, rfl⟩, trivial⟩) (by simp [AV.ren, AV.rens, sigma, rens_f32, rens_f64, rens_i64, rens_ik, rens_str, rens_cp, hl37]) rfl (i_Matrix_valid_02o_ok0 r2 r3 L36 r38 r39 r40 r41 hf28) rfl (news_of trivial) (show List.Nodup [1] from by decide) (by simp [AV.ren, AV.rens, sigma, of_decide_eq_true hn29]) (by simp [backOb, sigma, AV.ren, AV.rens, rens_f32, rens_f64, rens_i64, rens_ik, rens_str, rens_cp]) ?_
        refine ROps.l (r := AV.agg [AV.i64 r38, AV.i64 r39, AV.oref 1 1 0 r4.length]) rfl rfl rfl (LOp.extract rfl rfl rfl) ?_
        refine ROps.l (r := AV.b r40) rfl rfl rfl (LOp.extract rfl rfl rfl) ?_
        refine ROps.store_le (r := AV.agg [AV.i64 r38, AV.i64 r39, AV.oref 1 1 0 r4.length]) (l' := [AV.i64 r38, AV.i64 r39, AV.oref 1 1 0 r4.length]) (Γ' := [⟨1, some [AV.i64 r38, AV.i64 r39, AV.oref 1 1 0 r4.length]⟩, ⟨1, some (r41.map AV.f32)⟩, ⟨1, some [AV.i64 r2, AV.i64 r3, AV.oref 1 1 0 r4.length]⟩, ⟨0, none⟩]) rfl siz27 rfl rfl rfl (ALe.refl _) rfl rfl rfl rfl (Nat.le_of_ble_eq_true rfl) rfl rfl ?_
        refine ROps.l (r := AV.b r40) rfl rfl rfl (LOp.assign rfl rfl) ?_
        refine ROps.nil ?_
        refine RunC.ret ?_
        have hq := Option.some.inj h
        obtain ⟨hq0, hq⟩ := Prod.mk.inj hq
        obtain ⟨hq1, hq⟩ := Prod.mk.inj hq
        obtain ⟨hq2, hq⟩ := Prod.mk.inj hq
        subst q0
        subst q1
        subst q2
        subst q3
        exact bodyQ.mk (r' := AV.tup [AV.agg [AV.i64 r38, AV.i64 r39, AV.oref 1 1 0 r41.length], AV.b r40]) [(1, 1)] (.inr rfl) rfl (show List.Nodup [1] from by decide) rfl rfl (Res.eq (Res.two rfl (RV.cell agg27 siz27 rfl rfl rfl rfl) (RV.tmp rfl)) (by rw [(show r41.length = r4.length from (of_decide_eq_true hn29))] <;> rfl)) (SelL.arr0 (f := AV.f32) (fun _ => rfl) rfl trivial)
      · replace h := (osum_inr _ _ _).symm.trans h
        obtain ⟨r42, r43, r44, r45, r46, hz23, h⟩ := obind5_some h
        cases hz23
        obtain ⟨hn30, h⟩ := need_some h
        refine RunC.regionW ?_
        refine ROps.d (r := AV.agg [AV.i64 r2, AV.i64 r3, AV.oref 1 1 0 r4.length]) (fs := []) (Γ' := [⟨1, some [AV.i64 0, AV.i64 0, AV.nilsl]⟩, ⟨1, some (L36.map AV.f32)⟩, ⟨1, some [AV.i64 r2, AV.i64 r3, AV.oref 1 1 0 r4.length]⟩, ⟨0, none⟩]) rfl rfl rfl (TOp.loadAgg_o rfl agg27 siz27 rfl rfl rfl rfl) rfl ?_
        refine ROps.callO (A := [AV.agg [AV.i64 r2, AV.i64 r3, AV.oref 1 1 0 r4.length]]) (args := [AV.agg [AV.i64 r2, AV.i64 r3, AV.oref 0 0 0 L36.length]]) (Γc := [⟨0, some (L36.map AV.f32)⟩]) (Γc' := [⟨0, some (r45.map AV.f32)⟩, ⟨0, some (r46.map AV.f32)⟩]) (r' := AV.tup [AV.agg [AV.i64 r42, AV.i64 r43, AV.oref 3 1 0 r46.length], AV.b r44]) (Γ' := [⟨1, some [AV.i64 0, AV.i64 0, AV.nilsl]⟩, ⟨1, some (r45.map AV.f32)⟩, ⟨1, some [AV.i64 r2, AV.i64 r3, AV.oref 1 1 0 r4.length]⟩, ⟨1, some (r46.map AV.f32)⟩]) [(1, 1)] [(3, 1)] rfl (CallAs.func ent97 rfl rfl) rfl rfl (SelOk.of (show List.Nodup [1] from by decide) (SelL.arr0 (f := AV.f32) (fun _ => rfl) rfl trivial)) (live_of ⟨⟨_, _, rfl⟩, trivial⟩) (by simp [AV.ren, AV.rens, sigma, rens_f32, rens_f64, rens_i64, rens_ik, rens_str, rens_cp, hl37]) rfl (i_Matrix_valid_02o_ok1 r2 r3 L36 r42 r43 r44 r45 r46 hf28) rfl (news_of ⟨⟨_, rfl, rfl⟩, trivial⟩) (show List.Nodup [1, 3] from by decide) (by simp [AV.ren, AV.rens, sigma, of_decide_eq_true hn30]) (by simp [backOb, sigma, AV.ren, AV.rens, rens_f32, rens_f64, rens_i64, rens_ik, rens_str, rens_cp]) ?_
        refine ROps.l (r := AV.agg [AV.i64 r42, AV.i64 r43, AV.oref 3 1 0 r46.length]) rfl rfl rfl (LOp.extract rfl rfl rfl) ?_
        refine ROps.l (r := AV.b r44) rfl rfl rfl (LOp.extract rfl rfl rfl) ?_
        refine ROps.store_le (r := AV.agg [AV.i64 r42, AV.i64 r43, AV.oref 3 1 0 r46.length]) (l' := [AV.i64 r42, AV.i64 r43, AV.oref 3 1 0 r46.length]) (Γ' := [⟨1, some [AV.i64 r42, AV.i64 r43, AV.oref 3 1 0 r46.length]⟩, ⟨1, some (r45.map AV.f32)⟩, ⟨1, some [AV.i64 r2, AV.i64 r3, AV.oref 1 1 0 r4.length]⟩, ⟨1, some (r46.map AV.f32)⟩]) rfl siz27 rfl rfl rfl (ALe.refl _) rfl rfl rfl rfl (Nat.le_of_ble_eq_true rfl) rfl rfl ?_
        refine ROps.l (r := AV.b r44) rfl rfl rfl (LOp.assign rfl rfl) ?_
        refine ROps.nil ?_
        refine RunC.ret ?_
        have hq := Option.some.inj h
        obtain ⟨hq0, hq⟩ := Prod.mk.inj hq
        obtain ⟨hq1, hq⟩ := Prod.mk.inj hq
        obtain ⟨hq2, hq⟩ := Prod.mk.inj hq
        subst q0
        subst q1
        subst q2
        subst q3
        exact bodyQ.mk (r' := AV.tup [AV.agg [AV.i64 r42, AV.i64 r43, AV.oref 3 1 0 r46.length], AV.b r44]) [(3, 1)] (.inr rfl) rfl (show List.Nodup [3] from by decide) rfl rfl (Res.two rfl (RV.cell agg27 siz27 rfl rfl rfl rfl) (RV.tmp rfl)) (SelL.arr0 (f := AV.f32) (fun _ => rfl) rfl trivial)
  · refine RunC.regionW ?_
    refine ROps.l (r := AV.agg [AV.i64 a0, AV.i64 a1, AV.sl a2.length (a2.map AV.f32)]) rfl rfl rfl (LOp.loadAgg agg27 siz27 rfl rfl rfl rfl) ?_
    refine ROps.d (r := AV.b false) (fs := []) (Γ' := [⟨1, some [AV.i64 0, AV.i64 0, AV.nilsl]⟩, ⟨0, none⟩, ⟨0, none⟩, ⟨0, none⟩]) rfl rfl rfl (TOp.eqb (TOp.callB (CallAs.func ent59 rfl rfl) (Bors.cons (Bor.agg (Bors.cons (Bor.pure rfl) (Bors.cons (Bor.pure rfl) (Bors.cons (Bor.sl (fun _ => rfl)) Bors.nil)))) Bors.nil) rfl rfl (i_isSquare_ok a0 a1 a2 r1 hf1)) hc2) rfl ?_
    refine ROps.l (r := AV.b true) rfl rfl rfl (LOp.eqb (LOp.not rfl rfl) rfl) ?_
    refine ROps.nil ?_
    refine RunC.cond_true rfl rfl ?_
    refine RunC.seq ?_
    refine RunC.regionW ?_
    refine ROps.l (r := AV.agg [AV.i64 0, AV.i64 0, AV.nilsl]) rfl rfl rfl (LOp.build (qs := []) zer27 zok27 und27 plc27 rfl trivial rfl) ?_
    refine ROps.store_le (r := AV.agg [AV.i64 0, AV.i64 0, AV.nilsl]) (l' := [AV.i64 0, AV.i64 0, AV.nilsl]) (Γ' := [⟨1, some [AV.i64 0, AV.i64 0, AV.nilsl]⟩, ⟨0, none⟩, ⟨0, none⟩, ⟨0, none⟩]) rfl siz27 rfl rfl rfl (ALe.refl _) rfl rfl rfl rfl (Nat.le_of_ble_eq_true rfl) rfl rfl ?_
    refine ROps.l (r := AV.b false) rfl rfl rfl (LOp.assign rfl rfl) ?_
    refine ROps.nil ?_
    refine RunC.nil_cell (l' := [AV.i64 0, AV.i64 0, AV.oref 1 1 0 0]) (Γ' := [⟨1, some [AV.i64 0, AV.i64 0, AV.oref 1 1 0 0]⟩, ⟨1, some (([] : List F).map AV.f32)⟩, ⟨0, none⟩, ⟨0, none⟩]) 0 2 1 rfl rfl rfl rfl rfl ?_
    refine RunC.ret ?_
    have hq := Option.some.inj h
    obtain ⟨hq0, hq⟩ := Prod.mk.inj hq
    obtain ⟨hq1, hq⟩ := Prod.mk.inj hq
    obtain ⟨hq2, hq⟩ := Prod.mk.inj hq
    subst q0
    subst q1
    subst q2
    subst q3
    exact bodyQ.mk (r' := AV.tup [AV.agg [AV.i64 0, AV.i64 0, AV.oref 1 1 0 (([] : List F).length)], AV.b false]) [(1, 1)] (.inr rfl) rfl (show List.Nodup [1] from by decide) rfl rfl (Res.eq (Res.two rfl (RV.cell agg27 siz27 rfl rfl rfl rfl) (RV.tmp rfl)) (by rw [(show ([] : List F).length = 0 from rfl)] <;> rfl)) (SelL.arr0 (f := AV.f32) (fun _ => rfl) rfl trivial)
noncomputable def i_RootShifted_k4 (v8 : Int) (y29 : F) : Option (LR (F × Int) (Unit) (Int × Int × F × Bool × (List F))) :=
  olet (IntKind.i64.wrap (v8 + 1)) fun (x30 : Int) =>
  some (LR.next (y29, x30))
noncomputable def i_RootShifted_b3 (a0 : Int) (a1 : Int) (a2 : List F) (y7 : F) (r10 : Int) (r11 : Int) (r12 : List F) (L13 : List F) (v15 : Int) : Option (LR ((List F) × Int) ((List F)) (Int × Int × F × Bool × (List F))) :=
  bsel (decide (v15 < a0)) (
    obind (i_Matrix_at a0 a1 a2 v15 v15) fun (r18 : F) =>
    olet (fop .add .f32 r18 y7) fun (x19 : F) =>
    obind (i_Matrix_set_02o r10 r11 v15 v15 x19 L13) fun (r20 : List F) =>
    need (decide (r20.length = r12.length)) <|
    olet (IntKind.i64.wrap (v15 + 1)) fun (x21 : Int) =>
    some (LR.next (r20, x21))) (
    some (LR.out L13))
noncomputable def i_RootShifted_s3 (a0 : Int) (a1 : Int) (a2 : List F) (y7 : F) (r10 : Int) (r11 : Int) (r12 : List F) : ((List F) × Int) → Option (LR ((List F) × Int) ((List F)) (Int × Int × F × Bool × (List F))) := fun s => i_RootShifted_b3 a0 a1 a2 y7 r10 r11 r12 s.1 s.2
noncomputable def i_RootShifted_k3 (a3 : F) (y7 : F) (v8 : Int) (r10 : Int) (r11 : Int) (L22 : List F) : Option (LR (F × Int) (Unit) (Int × Int × F × Bool × (List F))) :=
  obind4 (i_RootOfSquare r10 r11 L22) fun (r24 : Int) (r25 : Int) (r26 : Bool) (r27 : List F) =>
  bsel r26 (
    some (LR.ret (r24, r25, y7, true, r27))) (
    obind (i_mul (some 1073741824) y7) fun (r28 : F) =>
    bsel (decide (v8 = 0)) (
      i_RootShifted_k4 v8 a3) (
      i_RootShifted_k4 v8 r28))
noncomputable def i_RootShifted_b5 (a0 : Int) (a1 : Int) (a2 : List F) (a3 : F) (y7 : F) (v8 : Int) : Option (LR (F × Int) (Unit) (Int × Int × F × Bool × (List F))) :=
  bsel (decide (v8 < 24)) (
    obind (i_IsFinite y7) fun (r9 : Bool) =>
    bsel r9 (
      obind3 (i_Matrix_clone a0 a1 a2) fun (r10 : Int) (r11 : Int) (r12 : List F) =>
      obind (loopM (i_RootShifted_s3 a0 a1 a2 y7 r10 r11 r12) (r12, 0)) fun z => osum z (fun e => i_RootShifted_k3 a3 y7 v8 r10 r11 e) (fun r => some (LR.ret r))) (
      some (LR.out ()))) (
    some (LR.out ()))
noncomputable def i_RootShifted_s5 (a0 : Int) (a1 : Int) (a2 : List F) (a3 : F) : (F × Int) → Option (LR (F × Int) (Unit) (Int × Int × F × Bool × (List F))) := fun s => i_RootShifted_b5 a0 a1 a2 a3 s.1 s.2
noncomputable def i_RootShifted_k5  : Option (Int × Int × F × Bool × (List F)) :=
  some (0, 0, some 0, false, ([] : List F))
noncomputable def i_RootShifted (a0 : Int) (a1 : Int) (a2 : List F) (a3 : F) : Option (Int × Int × F × Bool × (List F)) :=
  obind (i_isSquare a0 a1 a2) fun (r1 : Bool) =>
  bsel r1 (
    obind (i_IsFinite a3) fun (r2 : Bool) =>
    bsel r2 (
      bsel (fle .f32 a3 (some 0)) (
        some (0, 0, some 0, false, ([] : List F))) (
        obind (loopM (i_RootShifted_s5 a0 a1 a2 a3) (some 0, 0)) fun z => osum z (fun _ => i_RootShifted_k5) (fun r => some r))) (
      some (0, 0, some 0, false, ([] : List F)))) (
    some (0, 0, some 0, false, ([] : List F)))
theorem i_RootShifted_ok (a0 : Int) (a1 : Int) (a2 : List F) (a3 : F) (q0 : Int) (q1 : Int) (q2 : F) (q3 : Bool) (q4 : List F) (h : i_RootShifted a0 a1 a2 a3 = some (q0, q1, q2, q3, q4)) : Ev Try.prog 20 [AV.agg [AV.i64 a0, AV.i64 a1, AV.sl a2.length (a2.map AV.f32)], AV.f32 a3] [] (AV.tup [AV.agg [AV.i64 q0, AV.i64 q1, AV.oref 0 0 0 q4.length], AV.f32 q2, AV.b q3]) [⟨0, some (q4.map AV.f32)⟩] := by
  refine Ev.start Try.func20 rfl rfl 5 (τ := [(0, AV.agg [AV.i64 a0, AV.i64 a1, AV.sl a2.length (a2.map AV.f32)]), (1, AV.f32 a3)]) rfl (Γ' := [⟨0, none⟩, ⟨0, none⟩, ⟨0, none⟩, ⟨0, none⟩, ⟨0, none⟩]) rfl (n := 65) rfl (g := 0) rfl ?_
  unfold i_RootShifted at h
  refine RunC.seq ?_
  refine RunC.regionW ?_
  refine ROps.d (r := AV.ptr [AV.i64 a0, AV.i64 a1, AV.sl a2.length (a2.map AV.f32)]) (fs := []) (Γ' := [⟨0, none⟩, ⟨0, none⟩, ⟨0, none⟩, ⟨0, none⟩, ⟨0, none⟩]) rfl rfl rfl (TOp.box_s rfl rfl rfl) rfl ?_
  refine ROps.d (r := AV.optr 0 1 0) (fs := [(0, [AV.i64 0, AV.i64 0, AV.nilsl])]) (Γ' := [⟨1, some [AV.i64 0, AV.i64 0, AV.nilsl]⟩, ⟨0, none⟩, ⟨0, none⟩, ⟨0, none⟩, ⟨0, none⟩]) rfl rfl rfl (TOp.alloc_o (g := ⟨0, none⟩) 0 rfl zer27 zok27 rfl) rfl ?_
  refine ROps.l (r := AV.f32 (some 0)) rfl rfl rfl (LOp.le (LOp.assign rfl rfl) (ALe.fl (by kernel_rfl) (by kernel_rfl))) ?_
  refine ROps.l (r := AV.b false) rfl rfl rfl (LOp.assign rfl rfl) ?_
  refine ROps.nil ?_
  refine RunC.seq ?_
  refine RunC.seq ?_
  obtain ⟨r1, hf1, h⟩ := obind_some h
  rcases bsel_some h with ⟨hc2, h⟩ | ⟨hc2, h⟩
  · obtain ⟨r2, hf3, h⟩ := obind_some h
    rcases bsel_some h with ⟨hc4, h⟩ | ⟨hc4, h⟩
    · rcases bsel_some h with ⟨hc5, h⟩ | ⟨hc5, h⟩
      · refine RunC.regionW ?_
        refine ROps.l (r := AV.agg [AV.i64 a0, AV.i64 a1, AV.sl a2.length (a2.map AV.f32)]) rfl rfl rfl (LOp.loadAgg agg27 siz27 rfl rfl rfl rfl) ?_
        refine ROps.d (r := AV.b true) (fs := []) (Γ' := [⟨1, some [AV.i64 0, AV.i64 0, AV.nilsl]⟩, ⟨0, none⟩, ⟨0, none⟩, ⟨0, none⟩, ⟨0, none⟩]) rfl rfl rfl (TOp.eqb (TOp.callB (CallAs.func ent59 rfl rfl) (Bors.cons (Bor.agg (Bors.cons (Bor.pure rfl) (Bors.cons (Bor.pure rfl) (Bors.cons (Bor.sl (fun _ => rfl)) Bors.nil)))) Bors.nil) rfl rfl (i_isSquare_ok a0 a1 a2 r1 hf1)) hc2) rfl ?_
        refine ROps.l (r := AV.b false) rfl rfl rfl (LOp.eqb (LOp.not rfl rfl) rfl) ?_
        refine ROps.l (r := AV.b false) rfl rfl rfl (LOp.move rfl rfl) ?_
        refine ROps.l (r := AV.f32 a3) rfl rfl rfl (LOp.move rfl rfl) ?_
        refine ROps.d (r := AV.b true) (fs := []) (Γ' := [⟨1, some [AV.i64 0, AV.i64 0, AV.nilsl]⟩, ⟨0, none⟩, ⟨0, none⟩, ⟨0, none⟩, ⟨0, none⟩]) rfl rfl rfl (TOp.eqb (TOp.callB (CallAs.func ent46 rfl rfl) (Bors.cons (Bor.pure rfl) Bors.nil) rfl rfl (i_IsFinite_ok a3 r2 hf3)) hc4) rfl ?_
        refine ROps.l (r := AV.b false) rfl rfl rfl (LOp.eqb (LOp.not rfl rfl) rfl) ?_
        refine ROps.l (r := AV.b false) rfl rfl rfl (LOp.pick_false rfl rfl rfl) ?_
        refine ROps.l (r := AV.b false) rfl rfl rfl (LOp.move rfl rfl) ?_
        refine ROps.l (r := AV.f32 a3) rfl rfl rfl (LOp.move rfl rfl) ?_
        refine ROps.l (r := AV.b true) rfl rfl rfl (LOp.eqb (LOp.fle rfl (OpF.tmp rfl) (OpF.const rfl (by kernel_rfl) (by kernel_rfl))) hc5) ?_
        refine ROps.l (r := AV.b true) rfl rfl rfl (LOp.pick_false rfl rfl rfl) ?_
        refine ROps.nil ?_
        refine RunC.wl (τ' := [(1, AV.f32 a3), (2, AV.ptr [AV.i64 a0, AV.i64 a1, AV.sl a2.length (a2.map AV.f32)]), (4, AV.optr 0 1 0), (24, AV.b true)]) (Γ' := [⟨1, some [AV.i64 0, AV.i64 0, AV.nilsl]⟩, ⟨0, none⟩, ⟨0, none⟩, ⟨0, none⟩, ⟨0, none⟩]) ⟨(ALe.refl _), (ALe.refl _), (ALe.refl _), (ALe.refl _), trivial⟩ ⟨⟨rfl, .inr rfl⟩, ⟨rfl, .inr rfl⟩, ⟨rfl, .inr rfl⟩, ⟨rfl, .inr rfl⟩, ⟨rfl, .inr rfl⟩, trivial⟩ ?_
        refine RunC.cond_true rfl rfl ?_
        refine RunC.seq ?_
        refine RunC.regionW ?_
        refine ROps.l (r := AV.agg [AV.i64 0, AV.i64 0, AV.nilsl]) rfl rfl rfl (LOp.build (qs := []) zer27 zok27 und27 plc27 rfl trivial rfl) ?_
        refine ROps.store_le (r := AV.agg [AV.i64 0, AV.i64 0, AV.nilsl]) (l' := [AV.i64 0, AV.i64 0, AV.nilsl]) (Γ' := [⟨1, some [AV.i64 0, AV.i64 0, AV.nilsl]⟩, ⟨0, none⟩, ⟨0, none⟩, ⟨0, none⟩, ⟨0, none⟩]) rfl siz27 rfl rfl rfl (ALe.refl _) rfl rfl rfl rfl (Nat.le_of_ble_eq_true rfl) rfl rfl ?_
        refine ROps.l (r := AV.f32 (some 0)) rfl rfl rfl (LOp.le (LOp.assign rfl rfl) (ALe.fl (by kernel_rfl) (by kernel_rfl))) ?_
        refine ROps.l (r := AV.b false) rfl rfl rfl (LOp.assign rfl rfl) ?_
        refine ROps.nil ?_
        refine RunC.nil_cell (l' := [AV.i64 0, AV.i64 0, AV.oref 1 1 0 0]) (Γ' := [⟨1, some [AV.i64 0, AV.i64 0, AV.oref 1 1 0 0]⟩, ⟨1, some (([] : List F).map AV.f32)⟩, ⟨0, none⟩, ⟨0, none⟩, ⟨0, none⟩]) 0 2 1 rfl rfl rfl rfl rfl ?_
        refine RunC.ret ?_
        have hq := Option.some.inj h
        obtain ⟨hq0, hq⟩ := Prod.mk.inj hq
        obtain ⟨hq1, hq⟩ := Prod.mk.inj hq
        obtain ⟨hq2, hq⟩ := Prod.mk.inj hq
        obtain ⟨hq3, hq⟩ := Prod.mk.inj hq
        subst q0
        subst q1
        subst q2
        subst q3
        subst q4
        exact bodyQ.mk (r' := AV.tup [AV.agg [AV.i64 0, AV.i64 0, AV.oref 1 1 0 (([] : List F).length)], AV.f32 (some 0), AV.b false]) [(1, 1)] (.inr rfl) rfl (show List.Nodup [1] from by decide) rfl rfl (Res.eq (Res.three rfl (RV.cell agg27 siz27 rfl rfl rfl rfl) (RV.tmp rfl) (RV.tmp rfl)) (by rw [(show ([] : List F).length = 0 from rfl)] <;> rfl)) (SelL.arr0 (f := AV.f32) (fun _ => rfl) rfl trivial)
      · refine RunC.regionW ?_
        refine ROps.l (r := AV.agg [AV.i64 a0, AV.i64 a1, AV.sl a2.length (a2.map AV.f32)]) rfl rfl rfl (LOp.loadAgg agg27 siz27 rfl rfl rfl rfl) ?_
        refine ROps.d (r := AV.b true) (fs := []) (Γ' := [⟨1, some [AV.i64 0, AV.i64 0, AV.nilsl]⟩, ⟨0, none⟩, ⟨0, none⟩, ⟨0, none⟩, ⟨0, none⟩]) rfl rfl rfl (TOp.eqb (TOp.callB (CallAs.func ent59 rfl rfl) (Bors.cons (Bor.agg (Bors.cons (Bor.pure rfl) (Bors.cons (Bor.pure rfl) (Bors.cons (Bor.sl (fun _ => rfl)) Bors.nil)))) Bors.nil) rfl rfl (i_isSquare_ok a0 a1 a2 r1 hf1)) hc2) rfl ?_
        refine ROps.l (r := AV.b false) rfl rfl rfl (LOp.eqb (LOp.not rfl rfl) rfl) ?_
        refine ROps.l (r := AV.b false) rfl rfl rfl (LOp.move rfl rfl) ?_
        refine ROps.l (r := AV.f32 a3) rfl rfl rfl (LOp.move rfl rfl) ?_
        refine ROps.d (r := AV.b true) (fs := []) (Γ' := [⟨1, some [AV.i64 0, AV.i64 0, AV.nilsl]⟩, ⟨0, none⟩, ⟨0, none⟩, ⟨0, none⟩, ⟨0, none⟩]) rfl rfl rfl (TOp.eqb (TOp.callB (CallAs.func ent46 rfl rfl) (Bors.cons (Bor.pure rfl) Bors.nil) rfl rfl (i_IsFinite_ok a3 r2 hf3)) hc4) rfl ?_
        refine ROps.l (r := AV.b false) rfl rfl rfl (LOp.eqb (LOp.not rfl rfl) rfl) ?_
        refine ROps.l (r := AV.b false) rfl rfl rfl (LOp.pick_false rfl rfl rfl) ?_
        refine ROps.l (r := AV.b false) rfl rfl rfl (LOp.move rfl rfl) ?_
        refine ROps.l (r := AV.f32 a3) rfl rfl rfl (LOp.move rfl rfl) ?_
        refine ROps.l (r := AV.b false) rfl rfl rfl (LOp.eqb (LOp.fle rfl (OpF.tmp rfl) (OpF.const rfl (by kernel_rfl) (by kernel_rfl))) hc5) ?_
        refine ROps.l (r := AV.b false) rfl rfl rfl (LOp.pick_false rfl rfl rfl) ?_
        refine ROps.nil ?_
        refine RunC.wl (τ' := [(1, AV.f32 a3), (2, AV.ptr [AV.i64 a0, AV.i64 a1, AV.sl a2.length (a2.map AV.f32)]), (4, AV.optr 0 1 0), (24, AV.b false)]) (Γ' := [⟨1, some [AV.i64 0, AV.i64 0, AV.nilsl]⟩, ⟨0, none⟩, ⟨0, none⟩, ⟨0, none⟩, ⟨0, none⟩]) ⟨(ALe.refl _), (ALe.refl _), (ALe.refl _), (ALe.refl _), trivial⟩ ⟨⟨rfl, .inr rfl⟩, ⟨rfl, .inr rfl⟩, ⟨rfl, .inr rfl⟩, ⟨rfl, .inr rfl⟩, ⟨rfl, .inr rfl⟩, trivial⟩ ?_
        refine RunC.cond_false rfl rfl ?_
        refine RunC.skip ?_
        refine RunC.seq ?_
        refine RunC.regionW ?_
        refine ROps.l (r := AV.f32 (some 0)) rfl rfl rfl (LOp.le (LOp.assign rfl rfl) (ALe.fl (by kernel_rfl) (by kernel_rfl))) ?_
        refine ROps.nil ?_
        refine RunC.seq ?_
        refine RunC.seq ?_
        refine RunC.regionW ?_
        refine ROps.l (r := AV.i64 0) rfl rfl rfl (LOp.move rfl rfl) ?_
        refine ROps.nil ?_
        obtain ⟨z6, hz_6, h⟩ := obind_some h
        refine RunC.cutN (fun τ Γ => ∃ (u31 : Nat) (u32 : Nat) (u33 : Nat) (u34 : Nat), WeakLe τ [(4, AV.optr 0 1 0)] ∧ DeadLe Γ [⟨1, some [AV.i64 0, AV.i64 0, AV.nilsl]⟩, ⟨u31, none⟩, ⟨u32, none⟩, ⟨u33, none⟩, ⟨u34, none⟩] ∧ z6 = .inl ()) ?_ ?_
        · refine RunC.block (RunC.loop (RunL.loopM (x := z6) (i_RootShifted_s5 a0 a1 a2 a3) (fun (s : F × Int) τ Γ => ∃ (u3 : Nat) (u4 : Nat) (u5 : Nat) (u6 : Nat), WeakLe τ [(1, AV.f32 a3), (2, AV.ptr [AV.i64 a0, AV.i64 a1, AV.sl a2.length (a2.map AV.f32)]), (4, AV.optr 0 1 0), (7, AV.f32 s.1), (26, AV.i64 s.2)] ∧ DeadLe Γ [⟨1, some [AV.i64 0, AV.i64 0, AV.nilsl]⟩, ⟨u3, none⟩, ⟨u4, none⟩, ⟨u5, none⟩, ⟨u6, none⟩]) ?_ _ _ _ hz_6 ⟨0, 0, 0, 0, ⟨(ALe.refl _), (ALe.refl _), (ALe.refl _), (ALe.refl _), (ALe.refl _), trivial⟩, ⟨⟨rfl, .inr rfl⟩, ⟨rfl, .inl rfl⟩, ⟨rfl, .inl rfl⟩, ⟨rfl, .inl rfl⟩, ⟨rfl, .inl rfl⟩, trivial⟩⟩))
          rintro ⟨y7, v8⟩ τ6 Γ6 y6_ ⟨u3, u4, u5, u6, hw6, hd6⟩ h6_ ho6 hr6
          refine RunC.wl (τ' := [(1, AV.f32 a3), (2, AV.ptr [AV.i64 a0, AV.i64 a1, AV.sl a2.length (a2.map AV.f32)]), (4, AV.optr 0 1 0), (7, AV.f32 y7), (26, AV.i64 v8)]) (Γ' := [⟨1, some [AV.i64 0, AV.i64 0, AV.nilsl]⟩, ⟨u3, none⟩, ⟨u4, none⟩, ⟨u5, none⟩, ⟨u6, none⟩]) hw6 hd6 ?_
          replace h6_ : i_RootShifted_b5 a0 a1 a2 a3 y7 v8 = some y6_ := h6_
          unfold i_RootShifted_b5 at h6_
          refine RunC.seq ?_
          rcases bsel_some h6_ with ⟨hc6, h6_⟩ | ⟨hc6, h6_⟩
          · refine RunC.regionW ?_
            refine ROps.l (r := AV.b true) rfl rfl rfl (LOp.eqb (LOp.lss rfl rfl rfl) hc6) ?_
            refine ROps.nil ?_
            refine RunC.seq ?_
            refine RunC.cond_true rfl rfl ?_
            refine RunC.skip ?_
            refine RunC.seq ?_
            refine RunC.cutN (fun τ Γ => ∃ (y29 : F), WeakLe τ [(1, AV.f32 a3), (2, AV.ptr [AV.i64 a0, AV.i64 a1, AV.sl a2.length (a2.map AV.f32)]), (4, AV.optr 0 1 0), (7, AV.f32 y29), (26, AV.i64 v8)] ∧ DeadLe Γ [⟨1, some [AV.i64 0, AV.i64 0, AV.nilsl]⟩, ⟨(u3 + 1), none⟩, ⟨(u4 + 1), none⟩, ⟨(u5 + 1), none⟩, ⟨(u6 + 1), none⟩] ∧ i_RootShifted_k4 v8 y29 = some y6_) ?_ ?_
            · refine RunC.block ?_
              refine RunC.seq ?_
              refine RunC.regionW ?_
              refine ROps.l (r := AV.i64 v8) rfl rfl rfl (LOp.move rfl rfl) ?_
              refine ROps.l (r := AV.i64 v8) rfl rfl rfl (LOp.assign rfl rfl) ?_
              refine ROps.nil ?_
              refine RunC.seq ?_
              refine RunC.seq ?_
              obtain ⟨r9, hf7, h6_⟩ := obind_some h6_
              rcases bsel_some h6_ with ⟨hc8, h6_⟩ | ⟨hc8, h6_⟩
              · refine RunC.regionW ?_
                refine ROps.l (r := AV.f32 y7) rfl rfl rfl (LOp.move rfl rfl) ?_
                refine ROps.d (r := AV.b true) (fs := []) (Γ' := [⟨1, some [AV.i64 0, AV.i64 0, AV.nilsl]⟩, ⟨u3, none⟩, ⟨u4, none⟩, ⟨u5, none⟩, ⟨u6, none⟩]) rfl rfl rfl (TOp.eqb (TOp.callB (CallAs.func ent46 rfl rfl) (Bors.cons (Bor.pure rfl) Bors.nil) rfl rfl (i_IsFinite_ok y7 r9 hf7)) hc8) rfl ?_
                refine ROps.l (r := AV.b false) rfl rfl rfl (LOp.eqb (LOp.not rfl rfl) rfl) ?_
                refine ROps.nil ?_
                refine RunC.cond_false rfl rfl ?_
                refine RunC.skip ?_
                refine RunC.seq ?_
                obtain ⟨r10, r11, r12, hf9, h6_⟩ := obind3_some h6_
                refine RunC.regionW ?_
                refine ROps.l (r := AV.agg [AV.i64 a0, AV.i64 a1, AV.sl a2.length (a2.map AV.f32)]) rfl rfl rfl (LOp.loadAgg agg27 siz27 rfl rfl rfl rfl) ?_
                refine ROps.d (r := AV.agg [AV.i64 r10, AV.i64 r11, AV.oref 1 (u3 + 1) 0 r12.length]) (fs := [(1, (r12.map AV.f32))]) (Γ' := [⟨1, some [AV.i64 0, AV.i64 0, AV.nilsl]⟩, ⟨(u3 + 1), some (r12.map AV.f32)⟩, ⟨u4, none⟩, ⟨u5, none⟩, ⟨u6, none⟩]) rfl rfl rfl (TOp.eqr (TOp.callBN (ls := [(r12.map AV.f32)]) [1] (CallAs.func ent48 rfl rfl) (Bors.cons (Bor.agg (Bors.cons (Bor.pure rfl) (Bors.cons (Bor.pure rfl) (Bors.cons (Bor.sl (fun _ => rfl)) Bors.nil)))) Bors.nil) rfl (i_Matrix_clone_ok a0 a1 a2 r10 r11 r12 hf9) (and_all (lts0_map (f := AV.f32) (fun _ => rfl) _) rfl) (and_all (noss_map (f := AV.f32) (fun _ => rfl) _) rfl) rfl (by decide) (ns_of ⟨⟨_, rfl⟩, trivial⟩)) (by simp [AV.ren, AV.rens, sigma, newNames])) rfl ?_
                refine ROps.d (r := AV.optr 2 (u4 + 1) 0) (fs := [(2, [AV.i64 0, AV.i64 0, AV.nilsl])]) (Γ' := [⟨1, some [AV.i64 0, AV.i64 0, AV.nilsl]⟩, ⟨(u3 + 1), some (r12.map AV.f32)⟩, ⟨(u4 + 1), some [AV.i64 0, AV.i64 0, AV.nilsl]⟩, ⟨u5, none⟩, ⟨u6, none⟩]) rfl rfl rfl (TOp.alloc_o (g := ⟨u4, none⟩) 2 rfl zer27 zok27 rfl) rfl ?_
                refine ROps.store_le (r := AV.agg [AV.i64 r10, AV.i64 r11, AV.oref 1 (u3 + 1) 0 r12.length]) (l' := [AV.i64 r10, AV.i64 r11, AV.oref 1 (u3 + 1) 0 r12.length]) (Γ' := [⟨1, some [AV.i64 0, AV.i64 0, AV.nilsl]⟩, ⟨(u3 + 1), some (r12.map AV.f32)⟩, ⟨(u4 + 1), some [AV.i64 r10, AV.i64 r11, AV.oref 1 (u3 + 1) 0 r12.length]⟩, ⟨u5, none⟩, ⟨u6, none⟩]) rfl siz27 rfl rfl rfl (ALe.refl _) rfl rfl rfl rfl (Nat.le_of_ble_eq_true rfl) rfl rfl ?_
                refine ROps.nil ?_
                refine RunC.seq ?_
                refine RunC.seq ?_
                refine RunC.regionW ?_
                refine ROps.l (r := AV.ptr [AV.i64 a0, AV.i64 a1, AV.sl a2.length (a2.map AV.f32)]) rfl rfl rfl (LOp.fap und27 rfl siz2 rfl rfl rfl) ?_
                refine ROps.l (r := AV.i64 a0) rfl rfl rfl (LOp.load1 agg2 rfl rfl) ?_
                refine ROps.l (r := AV.i64 0) rfl rfl rfl (LOp.move rfl rfl) ?_
                refine ROps.nil ?_
                obtain ⟨z7, hz_7, h6_⟩ := obind_some h6_
                refine RunC.cutN (fun τ Γ => ∃ (L22 : List F), L22.length = r12.length ∧ WeakLe τ [(1, AV.f32 a3), (2, AV.ptr [AV.i64 a0, AV.i64 a1, AV.sl a2.length (a2.map AV.f32)]), (4, AV.optr 0 1 0), (7, AV.f32 y7), (8, AV.i64 v8), (9, AV.optr 2 (u4 + 1) 0), (26, AV.i64 v8)] ∧ DeadLe Γ [⟨1, some [AV.i64 0, AV.i64 0, AV.nilsl]⟩, ⟨(u3 + 1), some (L22.map AV.f32)⟩, ⟨(u4 + 1), some [AV.i64 r10, AV.i64 r11, AV.oref 1 (u3 + 1) 0 r12.length]⟩, ⟨u5, none⟩, ⟨u6, none⟩] ∧ z7 = .inl L22) ?_ ?_
                · refine RunC.block (RunC.loop (RunL.loopM (x := z7) (i_RootShifted_s3 a0 a1 a2 y7 r10 r11 r12) (fun (s : (List F) × Int) τ Γ => s.1.length = r12.length ∧ WeakLe τ [(1, AV.f32 a3), (2, AV.ptr [AV.i64 a0, AV.i64 a1, AV.sl a2.length (a2.map AV.f32)]), (4, AV.optr 0 1 0), (7, AV.f32 y7), (8, AV.i64 v8), (9, AV.optr 2 (u4 + 1) 0), (26, AV.i64 v8), (35, AV.i64 a0), (36, AV.i64 s.2)] ∧ DeadLe Γ [⟨1, some [AV.i64 0, AV.i64 0, AV.nilsl]⟩, ⟨(u3 + 1), some (s.1.map AV.f32)⟩, ⟨(u4 + 1), some [AV.i64 r10, AV.i64 r11, AV.oref 1 (u3 + 1) 0 r12.length]⟩, ⟨u5, none⟩, ⟨u6, none⟩]) ?_ _ _ _ hz_7 ⟨rfl, ⟨(ALe.refl _), (ALe.refl _), (ALe.refl _), (ALe.refl _), (ALe.refl _), (ALe.refl _), (ALe.refl _), (ALe.refl _), (ALe.refl _), trivial⟩, ⟨⟨rfl, .inr rfl⟩, ⟨rfl, .inr rfl⟩, ⟨rfl, .inr rfl⟩, ⟨rfl, .inl rfl⟩, ⟨rfl, .inl rfl⟩, trivial⟩⟩))
                  rintro ⟨L13, v15⟩ τ7 Γ7 y7_ ⟨hl14, hw7, hd7⟩ h7_ ho7 hr7
                  refine RunC.wl (τ' := [(1, AV.f32 a3), (2, AV.ptr [AV.i64 a0, AV.i64 a1, AV.sl a2.length (a2.map AV.f32)]), (4, AV.optr 0 1 0), (7, AV.f32 y7), (8, AV.i64 v8), (9, AV.optr 2 (u4 + 1) 0), (26, AV.i64 v8), (35, AV.i64 a0), (36, AV.i64 v15)]) (Γ' := [⟨1, some [AV.i64 0, AV.i64 0, AV.nilsl]⟩, ⟨(u3 + 1), some (L13.map AV.f32)⟩, ⟨(u4 + 1), some [AV.i64 r10, AV.i64 r11, AV.oref 1 (u3 + 1) 0 r12.length]⟩, ⟨u5, none⟩, ⟨u6, none⟩]) hw7 hd7 ?_
                  replace hl14 : L13.length = r12.length := hl14
                  replace h7_ : i_RootShifted_b3 a0 a1 a2 y7 r10 r11 r12 L13 v15 = some y7_ := h7_
                  unfold i_RootShifted_b3 at h7_
                  refine RunC.seq ?_
                  rcases bsel_some h7_ with ⟨hc10, h7_⟩ | ⟨hc10, h7_⟩
                  · refine RunC.regionW ?_
                    refine ROps.l (r := AV.b true) rfl rfl rfl (LOp.eqb (LOp.lss rfl rfl rfl) hc10) ?_
                    refine ROps.nil ?_
                    refine RunC.seq ?_
                    refine RunC.cond_true rfl rfl ?_
                    refine RunC.skip ?_
                    refine RunC.seq ?_
                    refine RunC.block ?_
                    refine RunC.seq ?_
                    refine RunC.regionW ?_
                    refine ROps.l (r := AV.i64 v15) rfl rfl rfl (LOp.move rfl rfl) ?_
                    refine ROps.l (r := AV.i64 v15) rfl rfl rfl (LOp.assign rfl rfl) ?_
                    refine ROps.nil ?_
                    obtain ⟨r18, hf13, h7_⟩ := obind_some h7_
                    obtain ⟨x19, hx14, h7_⟩ := olet_some h7_
                    obtain ⟨r20, hf15, h7_⟩ := obind_some h7_
                    obtain ⟨hn16, h7_⟩ := need_some h7_
                    refine RunC.region_draw (Γ' := [⟨1, some [AV.i64 0, AV.i64 0, AV.nilsl]⟩, ⟨(u3 + 1), some (L13.map AV.f32)⟩, ⟨(u4 + 1), some [AV.i64 r10, AV.i64 r11, AV.oref 1 (u3 + 1) 0 r12.length]⟩, ⟨u5, none⟩, ⟨u6, none⟩]) 9 mixed 
                      (TR.d (r := AV.agg [AV.i64 r10, AV.i64 r11, AV.oref 1 (u3 + 1) 0 r12.length]) (fs := []) rfl rfl (TOp.loadAgg_o rfl agg27 siz27 rfl rfl rfl rfl) <|
                      (TR.l (r := AV.i64 v15) rfl rfl (LOp.move rfl rfl) <|
                      (TR.l (r := AV.i64 v15) rfl rfl (LOp.move rfl rfl) <|
                      (TR.l (r := AV.agg [AV.i64 a0, AV.i64 a1, AV.sl a2.length (a2.map AV.f32)]) rfl rfl (LOp.loadAgg agg27 siz27 rfl rfl rfl rfl) <|
                      (TR.l (r := AV.i64 v15) rfl rfl (LOp.move rfl rfl) <|
                      (TR.l (r := AV.i64 v15) rfl rfl (LOp.move rfl rfl) <|
                      (TR.d (r := AV.f32 r18) (fs := []) rfl rfl (TOp.callB (CallAs.func ent51 rfl rfl) (Bors.cons (Bor.agg (Bors.cons (Bor.pure rfl) (Bors.cons (Bor.pure rfl) (Bors.cons (Bor.sl (fun _ => rfl)) Bors.nil)))) (Bors.cons (Bor.pure rfl) (Bors.cons (Bor.pure rfl) Bors.nil))) rfl rfl (i_Matrix_at_ok a0 a1 a2 v15 v15 r18 hf13)) <|
                      (TR.l (r := AV.f32 y7) rfl rfl (LOp.move rfl rfl) <|
                      (TR.d (r := AV.f32 x19) (fs := []) rfl rfl (TOp.eqr (TOp.fop (.inl rfl) rfl (OpF.tmp rfl) (OpF.tmp rfl)) (congrArg (AV.f .f32) hx14)) <|
                      TR.nil))))))))) rfl (by kernel_rfl) rfl fills_nil rfl ?_
                    iterate 9 refine ROps.dropS ?_
                    refine ROps.drop0 ?_
                    refine ROps.callO (A := [AV.agg [AV.i64 r10, AV.i64 r11, AV.oref 1 (u3 + 1) 0 r12.length], AV.i64 v15, AV.i64 v15, AV.f32 x19]) (args := [AV.agg [AV.i64 r10, AV.i64 r11, AV.oref 0 0 0 L13.length], AV.i64 v15, AV.i64 v15, AV.f32 x19]) (Γc := [⟨0, some (L13.map AV.f32)⟩]) (Γc' := [⟨0, some (r20.map AV.f32)⟩]) (r' := AV.tup []) (Γ' := [⟨1, some [AV.i64 0, AV.i64 0, AV.nilsl]⟩, ⟨(u3 + 1), some (r20.map AV.f32)⟩, ⟨(u4 + 1), some [AV.i64 r10, AV.i64 r11, AV.oref 1 (u3 + 1) 0 r12.length]⟩, ⟨u5, none⟩, ⟨u6, none⟩]) [(1, (u3 + 1))] [] rfl (CallAs.func ent60 rfl rfl) rfl rfl (SelOk.of (show List.Nodup [1] from by decide) (SelL.arr0 (f := AV.f32) (fun _ => rfl) rfl trivial)) (live_of ⟨⟨_, _, rfl⟩, trivial⟩) (by simp [AV.ren, AV.rens, sigma, rens_f32, rens_f64, rens_i64, rens_ik, rens_str, rens_cp, hl14]) rfl (i_Matrix_set_02o_ok r10 r11 v15 v15 x19 L13 r20 hf15) rfl (news_of trivial) (show List.Nodup [1] from by decide) (by simp [AV.ren, AV.rens, sigma, of_decide_eq_true hn16]) (by simp [backOb, sigma, AV.ren, AV.rens, rens_f32, rens_f64, rens_i64, rens_ik, rens_str, rens_cp]) ?_
                    refine ROps.nil ?_
                    refine RunC.wl (τ' := [(1, AV.f32 a3), (2, AV.ptr [AV.i64 a0, AV.i64 a1, AV.sl a2.length (a2.map AV.f32)]), (4, AV.optr 0 1 0), (7, AV.f32 y7), (8, AV.i64 v8), (9, AV.optr 2 (u4 + 1) 0), (26, AV.i64 v8), (35, AV.i64 a0), (36, AV.i64 v15)]) (Γ' := [⟨1, some [AV.i64 0, AV.i64 0, AV.nilsl]⟩, ⟨(u3 + 1), some (r20.map AV.f32)⟩, ⟨(u4 + 1), some [AV.i64 r10, AV.i64 r11, AV.oref 1 (u3 + 1) 0 r12.length]⟩, ⟨u5, none⟩, ⟨u6, none⟩]) ⟨(ALe.refl _), (ALe.refl _), (ALe.refl _), (ALe.refl _), (ALe.refl _), (ALe.refl _), (ALe.refl _), (ALe.refl _), (ALe.refl _), trivial⟩ ⟨⟨rfl, .inr rfl⟩, ⟨rfl, .inr rfl⟩, ⟨rfl, .inr rfl⟩, ⟨rfl, .inl rfl⟩, ⟨rfl, .inl rfl⟩, trivial⟩ ?_
                    obtain ⟨x21, hx17, h7_⟩ := olet_some h7_
                    refine RunC.regionW ?_
                    refine ROps.l (r := AV.i64 x21) rfl rfl rfl (LOp.eqr (LOp.add rfl rfl rfl) (congrArg (AV.ik .i64) hx17)) ?_
                    refine ROps.l (r := AV.i64 x21) rfl rfl rfl (LOp.move rfl rfl) ?_
                    refine ROps.nil ?_
                    cases Option.some.inj h7_
                    exact ⟨_, rfl, (of_decide_eq_true hn16), ⟨(ALe.refl _), (ALe.refl _), (ALe.refl _), (ALe.refl _), (ALe.refl _), (ALe.refl _), (ALe.refl _), (ALe.refl _), (ALe.refl _), trivial⟩, ⟨⟨rfl, .inr rfl⟩, ⟨rfl, .inr rfl⟩, ⟨rfl, .inr rfl⟩, ⟨rfl, .inl rfl⟩, ⟨rfl, .inl rfl⟩, trivial⟩⟩
                  · refine RunC.regionW ?_
                    refine ROps.l (r := AV.b false) rfl rfl rfl (LOp.eqb (LOp.lss rfl rfl rfl) hc10) ?_
                    refine ROps.nil ?_
                    refine RunC.seq ?_
                    refine RunC.cond_false rfl rfl ?_
                    refine RunC.exit ?_
                    cases Option.some.inj h7_
                    have hx := ho7 _ rfl
                    exact ⟨L13, hl14, ⟨(ALe.refl _), (ALe.refl _), (ALe.refl _), (ALe.refl _), (ALe.refl _), (ALe.refl _), (ALe.refl _), trivial⟩, ⟨⟨rfl, .inr rfl⟩, ⟨rfl, .inr rfl⟩, ⟨rfl, .inr rfl⟩, ⟨rfl, .inl rfl⟩, ⟨rfl, .inl rfl⟩, trivial⟩, hx⟩
                · rintro τ8 Γ8 ⟨L22, hl23, hw8, hd8, rfl⟩
                  refine RunC.wl (τ' := [(1, AV.f32 a3), (2, AV.ptr [AV.i64 a0, AV.i64 a1, AV.sl a2.length (a2.map AV.f32)]), (4, AV.optr 0 1 0), (7, AV.f32 y7), (8, AV.i64 v8), (9, AV.optr 2 (u4 + 1) 0), (26, AV.i64 v8)]) (Γ' := [⟨1, some [AV.i64 0, AV.i64 0, AV.nilsl]⟩, ⟨(u3 + 1), some (L22.map AV.f32)⟩, ⟨(u4 + 1), some [AV.i64 r10, AV.i64 r11, AV.oref 1 (u3 + 1) 0 r12.length]⟩, ⟨u5, none⟩, ⟨u6, none⟩]) hw8 hd8 ?_
                  replace h6_ : i_RootShifted_k3 a3 y7 v8 r10 r11 L22 = some y6_ := h6_
                  unfold i_RootShifted_k3 at h6_
                  refine RunC.seq ?_
                  refine RunC.seq ?_
                  obtain ⟨r24, r25, r26, r27, hf18, h6_⟩ := obind4_some h6_
                  rcases bsel_some h6_ with ⟨hc19, h6_⟩ | ⟨hc19, h6_⟩
                  · refine RunC.regionW ?_
                    refine ROps.d (r := AV.agg [AV.i64 r10, AV.i64 r11, AV.oref 1 (u3 + 1) 0 r12.length]) (fs := []) (Γ' := [⟨1, some [AV.i64 0, AV.i64 0, AV.nilsl]⟩, ⟨(u3 + 1), some (L22.map AV.f32)⟩, ⟨(u4 + 1), some [AV.i64 r10, AV.i64 r11, AV.oref 1 (u3 + 1) 0 r12.length]⟩, ⟨u5, none⟩, ⟨u6, none⟩]) rfl rfl rfl (TOp.loadAgg_o rfl agg27 siz27 rfl rfl rfl rfl) rfl ?_
                    refine ROps.d (r := AV.tup [AV.agg [AV.i64 r24, AV.i64 r25, AV.oref 3 (u5 + 1) 0 r27.length], AV.b r26]) (fs := [(3, (r27.map AV.f32))]) (Γ' := [⟨1, some [AV.i64 0, AV.i64 0, AV.nilsl]⟩, ⟨(u3 + 1), some (L22.map AV.f32)⟩, ⟨(u4 + 1), some [AV.i64 r10, AV.i64 r11, AV.oref 1 (u3 + 1) 0 r12.length]⟩, ⟨(u5 + 1), some (r27.map AV.f32)⟩, ⟨u6, none⟩]) rfl rfl rfl (TOp.eqr (TOp.callBN (ls := [(r27.map AV.f32)]) [3] (CallAs.func ent61 rfl rfl) (Bors.cons (Bor.agg (Bors.cons (Bor.pure rfl) (Bors.cons (Bor.pure rfl) (Bors.cons (Bor.own (f := AV.f32) (fun _ => rfl) rfl hl23) Bors.nil)))) Bors.nil) rfl (i_RootOfSquare_ok r10 r11 L22 r24 r25 r26 r27 hf18) (and_all (lts0_map (f := AV.f32) (fun _ => rfl) _) rfl) (and_all (noss_map (f := AV.f32) (fun _ => rfl) _) rfl) rfl (by decide) (ns_of ⟨⟨_, rfl⟩, trivial⟩)) (by simp [AV.ren, AV.rens, sigma, newNames])) rfl ?_
                    refine ROps.l (r := AV.tup [AV.agg [AV.i64 r24, AV.i64 r25, AV.oref 3 (u5 + 1) 0 r27.length], AV.b r26]) rfl rfl rfl (LOp.move rfl rfl) ?_
                    refine ROps.l (r := AV.agg [AV.i64 r24, AV.i64 r25, AV.oref 3 (u5 + 1) 0 r27.length]) rfl rfl rfl (LOp.extract rfl rfl rfl) ?_
                    refine ROps.l (r := AV.b true) rfl rfl rfl (LOp.eqb (LOp.extract rfl rfl rfl) hc19) ?_
                    refine ROps.d (r := AV.optr 4 (u6 + 1) 0) (fs := [(4, [AV.i64 0, AV.i64 0, AV.nilsl])]) (Γ' := [⟨1, some [AV.i64 0, AV.i64 0, AV.nilsl]⟩, ⟨(u3 + 1), some (L22.map AV.f32)⟩, ⟨(u4 + 1), some [AV.i64 r10, AV.i64 r11, AV.oref 1 (u3 + 1) 0 r12.length]⟩, ⟨(u5 + 1), some (r27.map AV.f32)⟩, ⟨(u6 + 1), some [AV.i64 0, AV.i64 0, AV.nilsl]⟩]) rfl rfl rfl (TOp.alloc_o (g := ⟨u6, none⟩) 4 rfl zer27 zok27 rfl) rfl ?_
                    refine ROps.store_le (r := AV.agg [AV.i64 r24, AV.i64 r25, AV.oref 3 (u5 + 1) 0 r27.length]) (l' := [AV.i64 r24, AV.i64 r25, AV.oref 3 (u5 + 1) 0 r27.length]) (Γ' := [⟨1, some [AV.i64 0, AV.i64 0, AV.nilsl]⟩, ⟨(u3 + 1), some (L22.map AV.f32)⟩, ⟨(u4 + 1), some [AV.i64 r10, AV.i64 r11, AV.oref 1 (u3 + 1) 0 r12.length]⟩, ⟨(u5 + 1), some (r27.map AV.f32)⟩, ⟨(u6 + 1), some [AV.i64 r24, AV.i64 r25, AV.oref 3 (u5 + 1) 0 r27.length]⟩]) rfl siz27 rfl rfl rfl (ALe.refl _) rfl rfl rfl rfl (Nat.le_of_ble_eq_true rfl) rfl rfl ?_
                    refine ROps.l (r := AV.b true) rfl rfl rfl (LOp.assign rfl rfl) ?_
                    refine ROps.nil ?_
                    refine RunC.wl (τ' := [(1, AV.f32 a3), (2, AV.ptr [AV.i64 a0, AV.i64 a1, AV.sl a2.length (a2.map AV.f32)]), (4, AV.optr 0 1 0), (7, AV.f32 y7), (8, AV.i64 v8), (11, AV.optr 4 (u6 + 1) 0), (12, AV.b true), (26, AV.i64 v8)]) (Γ' := [⟨1, some [AV.i64 0, AV.i64 0, AV.nilsl]⟩, ⟨(u3 + 1), none⟩, ⟨(u4 + 1), none⟩, ⟨(u5 + 1), some (r27.map AV.f32)⟩, ⟨(u6 + 1), some [AV.i64 r24, AV.i64 r25, AV.oref 3 (u5 + 1) 0 r27.length]⟩]) ⟨(ALe.refl _), (ALe.refl _), (ALe.refl _), (ALe.refl _), (ALe.refl _), (ALe.refl _), (ALe.refl _), (ALe.refl _), trivial⟩ ⟨⟨rfl, .inr rfl⟩, ⟨rfl, .inl rfl⟩, ⟨rfl, .inl rfl⟩, ⟨rfl, .inr rfl⟩, ⟨rfl, .inr rfl⟩, trivial⟩ ?_
                    refine RunC.seq ?_
                    refine RunC.regionW ?_
                    refine ROps.l (r := AV.b true) rfl rfl rfl (LOp.move rfl rfl) ?_
                    refine ROps.nil ?_
                    refine RunC.cond_true rfl rfl ?_
                    refine RunC.seq ?_
                    refine RunC.regionW ?_
                    refine ROps.d (r := AV.agg [AV.i64 r24, AV.i64 r25, AV.oref 3 (u5 + 1) 0 r27.length]) (fs := []) (Γ' := [⟨1, some [AV.i64 0, AV.i64 0, AV.nilsl]⟩, ⟨(u3 + 1), none⟩, ⟨(u4 + 1), none⟩, ⟨(u5 + 1), some (r27.map AV.f32)⟩, ⟨(u6 + 1), some [AV.i64 r24, AV.i64 r25, AV.oref 3 (u5 + 1) 0 r27.length]⟩]) rfl rfl rfl (TOp.loadAgg_o rfl agg27 siz27 rfl rfl rfl rfl) rfl ?_
                    refine ROps.l (r := AV.f32 y7) rfl rfl rfl (LOp.move rfl rfl) ?_
                    refine ROps.store_le (r := AV.agg [AV.i64 r24, AV.i64 r25, AV.oref 3 (u5 + 1) 0 r27.length]) (l' := [AV.i64 r24, AV.i64 r25, AV.oref 3 (u5 + 1) 0 r27.length]) (Γ' := [⟨1, some [AV.i64 r24, AV.i64 r25, AV.oref 3 (u5 + 1) 0 r27.length]⟩, ⟨(u3 + 1), none⟩, ⟨(u4 + 1), none⟩, ⟨(u5 + 1), some (r27.map AV.f32)⟩, ⟨(u6 + 1), some [AV.i64 r24, AV.i64 r25, AV.oref 3 (u5 + 1) 0 r27.length]⟩]) rfl siz27 rfl rfl rfl (ALe.refl _) rfl rfl rfl rfl (Nat.le_of_ble_eq_true rfl) rfl rfl ?_
                    refine ROps.l (r := AV.f32 y7) rfl rfl rfl (LOp.assign rfl rfl) ?_
                    refine ROps.l (r := AV.b true) rfl rfl rfl (LOp.assign rfl rfl) ?_
                    refine ROps.nil ?_
                    refine RunC.ret ?_
                    cases Option.some.inj h6_
                    have hx9_ := hr6 _ rfl
                    subst hx9_
                    have hq := Option.some.inj h
                    obtain ⟨hq0, hq⟩ := Prod.mk.inj hq
                    obtain ⟨hq1, hq⟩ := Prod.mk.inj hq
                    obtain ⟨hq2, hq⟩ := Prod.mk.inj hq
                    obtain ⟨hq3, hq⟩ := Prod.mk.inj hq
                    subst q0
                    subst q1
                    subst q2
                    subst q3
                    subst q4
                    exact bodyQ.mk (r' := AV.tup [AV.agg [AV.i64 r24, AV.i64 r25, AV.oref 3 (u5 + 1) 0 r27.length], AV.f32 y7, AV.b true]) [(3, (u5 + 1))] (.inr rfl) rfl (show List.Nodup [3] from by decide) (by simp [AV.ren, AV.rens, sigma]) rfl (Res.three rfl (RV.cell agg27 siz27 rfl rfl rfl rfl) (RV.tmp rfl) (RV.tmp rfl)) (SelL.arr0 (f := AV.f32) (fun _ => rfl) rfl trivial)
                  · refine RunC.regionW ?_
                    refine ROps.d (r := AV.agg [AV.i64 r10, AV.i64 r11, AV.oref 1 (u3 + 1) 0 r12.length]) (fs := []) (Γ' := [⟨1, some [AV.i64 0, AV.i64 0, AV.nilsl]⟩, ⟨(u3 + 1), some (L22.map AV.f32)⟩, ⟨(u4 + 1), some [AV.i64 r10, AV.i64 r11, AV.oref 1 (u3 + 1) 0 r12.length]⟩, ⟨u5, none⟩, ⟨u6, none⟩]) rfl rfl rfl (TOp.loadAgg_o rfl agg27 siz27 rfl rfl rfl rfl) rfl ?_
                    refine ROps.d (r := AV.tup [AV.agg [AV.i64 r24, AV.i64 r25, AV.oref 3 (u5 + 1) 0 r27.length], AV.b r26]) (fs := [(3, (r27.map AV.f32))]) (Γ' := [⟨1, some [AV.i64 0, AV.i64 0, AV.nilsl]⟩, ⟨(u3 + 1), some (L22.map AV.f32)⟩, ⟨(u4 + 1), some [AV.i64 r10, AV.i64 r11, AV.oref 1 (u3 + 1) 0 r12.length]⟩, ⟨(u5 + 1), some (r27.map AV.f32)⟩, ⟨u6, none⟩]) rfl rfl rfl (TOp.eqr (TOp.callBN (ls := [(r27.map AV.f32)]) [3] (CallAs.func ent61 rfl rfl) (Bors.cons (Bor.agg (Bors.cons (Bor.pure rfl) (Bors.cons (Bor.pure rfl) (Bors.cons (Bor.own (f := AV.f32) (fun _ => rfl) rfl hl23) Bors.nil)))) Bors.nil) rfl (i_RootOfSquare_ok r10 r11 L22 r24 r25 r26 r27 hf18) (and_all (lts0_map (f := AV.f32) (fun _ => rfl) _) rfl) (and_all (noss_map (f := AV.f32) (fun _ => rfl) _) rfl) rfl (by decide) (ns_of ⟨⟨_, rfl⟩, trivial⟩)) (by simp [AV.ren, AV.rens, sigma, newNames])) rfl ?_
                    refine ROps.l (r := AV.tup [AV.agg [AV.i64 r24, AV.i64 r25, AV.oref 3 (u5 + 1) 0 r27.length], AV.b r26]) rfl rfl rfl (LOp.move rfl rfl) ?_
                    refine ROps.l (r := AV.agg [AV.i64 r24, AV.i64 r25, AV.oref 3 (u5 + 1) 0 r27.length]) rfl rfl rfl (LOp.extract rfl rfl rfl) ?_
                    refine ROps.l (r := AV.b false) rfl rfl rfl (LOp.eqb (LOp.extract rfl rfl rfl) hc19) ?_
                    refine ROps.d (r := AV.optr 4 (u6 + 1) 0) (fs := [(4, [AV.i64 0, AV.i64 0, AV.nilsl])]) (Γ' := [⟨1, some [AV.i64 0, AV.i64 0, AV.nilsl]⟩, ⟨(u3 + 1), some (L22.map AV.f32)⟩, ⟨(u4 + 1), some [AV.i64 r10, AV.i64 r11, AV.oref 1 (u3 + 1) 0 r12.length]⟩, ⟨(u5 + 1), some (r27.map AV.f32)⟩, ⟨(u6 + 1), some [AV.i64 0, AV.i64 0, AV.nilsl]⟩]) rfl rfl rfl (TOp.alloc_o (g := ⟨u6, none⟩) 4 rfl zer27 zok27 rfl) rfl ?_
                    refine ROps.store_le (r := AV.agg [AV.i64 r24, AV.i64 r25, AV.oref 3 (u5 + 1) 0 r27.length]) (l' := [AV.i64 r24, AV.i64 r25, AV.oref 3 (u5 + 1) 0 r27.length]) (Γ' := [⟨1, some [AV.i64 0, AV.i64 0, AV.nilsl]⟩, ⟨(u3 + 1), some (L22.map AV.f32)⟩, ⟨(u4 + 1), some [AV.i64 r10, AV.i64 r11, AV.oref 1 (u3 + 1) 0 r12.length]⟩, ⟨(u5 + 1), some (r27.map AV.f32)⟩, ⟨(u6 + 1), some [AV.i64 r24, AV.i64 r25, AV.oref 3 (u5 + 1) 0 r27.length]⟩]) rfl siz27 rfl rfl rfl (ALe.refl _) rfl rfl rfl rfl (Nat.le_of_ble_eq_true rfl) rfl rfl ?_
                    refine ROps.l (r := AV.b false) rfl rfl rfl (LOp.assign rfl rfl) ?_
                    refine ROps.nil ?_
                    refine RunC.wl (τ' := [(1, AV.f32 a3), (2, AV.ptr [AV.i64 a0, AV.i64 a1, AV.sl a2.length (a2.map AV.f32)]), (4, AV.optr 0 1 0), (7, AV.f32 y7), (8, AV.i64 v8), (11, AV.optr 4 (u6 + 1) 0), (12, AV.b false), (26, AV.i64 v8)]) (Γ' := [⟨1, some [AV.i64 0, AV.i64 0, AV.nilsl]⟩, ⟨(u3 + 1), none⟩, ⟨(u4 + 1), none⟩, ⟨(u5 + 1), some (r27.map AV.f32)⟩, ⟨(u6 + 1), some [AV.i64 r24, AV.i64 r25, AV.oref 3 (u5 + 1) 0 r27.length]⟩]) ⟨(ALe.refl _), (ALe.refl _), (ALe.refl _), (ALe.refl _), (ALe.refl _), (ALe.refl _), (ALe.refl _), (ALe.refl _), trivial⟩ ⟨⟨rfl, .inr rfl⟩, ⟨rfl, .inl rfl⟩, ⟨rfl, .inl rfl⟩, ⟨rfl, .inr rfl⟩, ⟨rfl, .inr rfl⟩, trivial⟩ ?_
                    refine RunC.seq ?_
                    refine RunC.regionW ?_
                    refine ROps.l (r := AV.b false) rfl rfl rfl (LOp.move rfl rfl) ?_
                    refine ROps.nil ?_
                    refine RunC.cond_false rfl rfl ?_
                    refine RunC.skip ?_
                    refine RunC.wl (τ' := [(1, AV.f32 a3), (2, AV.ptr [AV.i64 a0, AV.i64 a1, AV.sl a2.length (a2.map AV.f32)]), (4, AV.optr 0 1 0), (7, AV.f32 y7), (8, AV.i64 v8), (26, AV.i64 v8)]) (Γ' := [⟨1, some [AV.i64 0, AV.i64 0, AV.nilsl]⟩, ⟨(u3 + 1), none⟩, ⟨(u4 + 1), none⟩, ⟨(u5 + 1), none⟩, ⟨(u6 + 1), none⟩]) ⟨(ALe.refl _), (ALe.refl _), (ALe.refl _), (ALe.refl _), (ALe.refl _), (ALe.refl _), trivial⟩ ⟨⟨rfl, .inr rfl⟩, ⟨rfl, .inl rfl⟩, ⟨rfl, .inl rfl⟩, ⟨rfl, .inl rfl⟩, ⟨rfl, .inl rfl⟩, trivial⟩ ?_
                    refine RunC.seq ?_
                    obtain ⟨r28, hf20, h6_⟩ := obind_some h6_
                    refine RunC.regionW ?_
                    refine ROps.l (r := AV.f32 y7) rfl rfl rfl (LOp.move rfl rfl) ?_
                    refine ROps.d (r := AV.f32 r28) (fs := []) (Γ' := [⟨1, some [AV.i64 0, AV.i64 0, AV.nilsl]⟩, ⟨(u3 + 1), none⟩, ⟨(u4 + 1), none⟩, ⟨(u5 + 1), none⟩, ⟨(u6 + 1), none⟩]) rfl rfl rfl (TOp.callB (CallAs.func ent54 rfl rfl) (Bors.cons (Bor.le (ALe.fl (by kernel_rfl) (by kernel_rfl)) (Bor.pure rfl)) (Bors.cons (Bor.pure rfl) Bors.nil)) rfl rfl (i_mul_ok (some 1073741824) y7 r28 hf20)) rfl ?_
                    refine ROps.l (r := AV.f32 r28) rfl rfl rfl (LOp.assign rfl rfl) ?_
                    refine ROps.nil ?_
                    refine RunC.seq ?_
                    rcases bsel_some h6_ with ⟨hc21, h6_⟩ | ⟨hc21, h6_⟩
                    · refine RunC.regionW ?_
                      refine ROps.l (r := AV.i64 v8) rfl rfl rfl (LOp.move rfl rfl) ?_
                      refine ROps.l (r := AV.b true) rfl rfl rfl (LOp.eqb (LOp.eql rfl rfl rfl) hc21) ?_
                      refine ROps.nil ?_
                      refine RunC.cond_true rfl rfl ?_
                      refine RunC.regionW ?_
                      refine ROps.l (r := AV.f32 a3) rfl rfl rfl (LOp.move rfl rfl) ?_
                      refine ROps.l (r := AV.f32 a3) rfl rfl rfl (LOp.assign rfl rfl) ?_
                      refine ROps.nil ?_
                      exact ⟨a3, ⟨(ALe.refl _), (ALe.refl _), (ALe.refl _), (ALe.refl _), (ALe.refl _), trivial⟩, ⟨⟨rfl, .inr rfl⟩, ⟨rfl, .inl rfl⟩, ⟨rfl, .inl rfl⟩, ⟨rfl, .inl rfl⟩, ⟨rfl, .inl rfl⟩, trivial⟩, h6_⟩
                    · refine RunC.regionW ?_
                      refine ROps.l (r := AV.i64 v8) rfl rfl rfl (LOp.move rfl rfl) ?_
                      refine ROps.l (r := AV.b false) rfl rfl rfl (LOp.eqb (LOp.eql rfl rfl rfl) hc21) ?_
                      refine ROps.nil ?_
                      refine RunC.cond_false rfl rfl ?_
                      refine RunC.skip ?_
                      exact ⟨r28, ⟨(ALe.refl _), (ALe.refl _), (ALe.refl _), (ALe.refl _), (ALe.refl _), trivial⟩, ⟨⟨rfl, .inr rfl⟩, ⟨rfl, .inl rfl⟩, ⟨rfl, .inl rfl⟩, ⟨rfl, .inl rfl⟩, ⟨rfl, .inl rfl⟩, trivial⟩, h6_⟩
              · refine RunC.regionW ?_
                refine ROps.l (r := AV.f32 y7) rfl rfl rfl (LOp.move rfl rfl) ?_
                refine ROps.d (r := AV.b false) (fs := []) (Γ' := [⟨1, some [AV.i64 0, AV.i64 0, AV.nilsl]⟩, ⟨u3, none⟩, ⟨u4, none⟩, ⟨u5, none⟩, ⟨u6, none⟩]) rfl rfl rfl (TOp.eqb (TOp.callB (CallAs.func ent46 rfl rfl) (Bors.cons (Bor.pure rfl) Bors.nil) rfl rfl (i_IsFinite_ok y7 r9 hf7)) hc8) rfl ?_
                refine ROps.l (r := AV.b true) rfl rfl rfl (LOp.eqb (LOp.not rfl rfl) rfl) ?_
                refine ROps.nil ?_
                refine RunC.cond_true rfl rfl ?_
                refine RunC.exit ?_
                cases Option.some.inj h6_
                have hx := ho6 _ rfl
                exact ⟨u3, u4, u5, u6, ⟨(ALe.refl _), trivial⟩, ⟨⟨rfl, .inr rfl⟩, ⟨rfl, .inl rfl⟩, ⟨rfl, .inl rfl⟩, ⟨rfl, .inl rfl⟩, ⟨rfl, .inl rfl⟩, trivial⟩, hx⟩
            · rintro τ10 Γ10 ⟨y29, hw10, hd10, h6_⟩
              refine RunC.wl (τ' := [(1, AV.f32 a3), (2, AV.ptr [AV.i64 a0, AV.i64 a1, AV.sl a2.length (a2.map AV.f32)]), (4, AV.optr 0 1 0), (7, AV.f32 y29), (26, AV.i64 v8)]) (Γ' := [⟨1, some [AV.i64 0, AV.i64 0, AV.nilsl]⟩, ⟨(u3 + 1), none⟩, ⟨(u4 + 1), none⟩, ⟨(u5 + 1), none⟩, ⟨(u6 + 1), none⟩]) hw10 hd10 ?_
              unfold i_RootShifted_k4 at h6_
              obtain ⟨x30, hx22, h6_⟩ := olet_some h6_
              refine RunC.regionW ?_
              refine ROps.l (r := AV.i64 x30) rfl rfl rfl (LOp.eqr (LOp.add rfl rfl rfl) (congrArg (AV.ik .i64) hx22)) ?_
              refine ROps.l (r := AV.i64 x30) rfl rfl rfl (LOp.move rfl rfl) ?_
              refine ROps.nil ?_
              cases Option.some.inj h6_
              exact ⟨_, rfl, (u3 + 1), (u4 + 1), (u5 + 1), (u6 + 1), ⟨(ALe.refl _), (ALe.refl _), (ALe.refl _), (ALe.refl _), (ALe.refl _), trivial⟩, ⟨⟨rfl, .inr rfl⟩, ⟨rfl, .inl rfl⟩, ⟨rfl, .inl rfl⟩, ⟨rfl, .inl rfl⟩, ⟨rfl, .inl rfl⟩, trivial⟩⟩
          · refine RunC.regionW ?_
            refine ROps.l (r := AV.b false) rfl rfl rfl (LOp.eqb (LOp.lss rfl rfl rfl) hc6) ?_
            refine ROps.nil ?_
            refine RunC.seq ?_
            refine RunC.cond_false rfl rfl ?_
            refine RunC.exit ?_
            cases Option.some.inj h6_
            have hx := ho6 _ rfl
            exact ⟨u3, u4, u5, u6, ⟨(ALe.refl _), trivial⟩, ⟨⟨rfl, .inr rfl⟩, ⟨rfl, .inl rfl⟩, ⟨rfl, .inl rfl⟩, ⟨rfl, .inl rfl⟩, ⟨rfl, .inl rfl⟩, trivial⟩, hx⟩
        · rintro τ11 Γ11 ⟨u31, u32, u33, u34, hw11, hd11, rfl⟩
          refine RunC.wl (τ' := [(4, AV.optr 0 1 0)]) (Γ' := [⟨1, some [AV.i64 0, AV.i64 0, AV.nilsl]⟩, ⟨u31, none⟩, ⟨u32, none⟩, ⟨u33, none⟩, ⟨u34, none⟩]) hw11 hd11 ?_
          replace h : i_RootShifted_k5 = some (q0, q1, q2, q3, q4) := h
          unfold i_RootShifted_k5 at h
          refine RunC.seq ?_
          refine RunC.regionW ?_
          refine ROps.l (r := AV.agg [AV.i64 0, AV.i64 0, AV.nilsl]) rfl rfl rfl (LOp.build (qs := []) zer27 zok27 und27 plc27 rfl trivial rfl) ?_
          refine ROps.store_le (r := AV.agg [AV.i64 0, AV.i64 0, AV.nilsl]) (l' := [AV.i64 0, AV.i64 0, AV.nilsl]) (Γ' := [⟨1, some [AV.i64 0, AV.i64 0, AV.nilsl]⟩, ⟨u31, none⟩, ⟨u32, none⟩, ⟨u33, none⟩, ⟨u34, none⟩]) rfl siz27 rfl rfl rfl (ALe.refl _) rfl rfl rfl rfl (Nat.le_of_ble_eq_true rfl) rfl rfl ?_
          refine ROps.l (r := AV.f32 (some 0)) rfl rfl rfl (LOp.le (LOp.assign rfl rfl) (ALe.fl (by kernel_rfl) (by kernel_rfl))) ?_
          refine ROps.l (r := AV.b false) rfl rfl rfl (LOp.assign rfl rfl) ?_
          refine ROps.nil ?_
          refine RunC.nil_cell (l' := [AV.i64 0, AV.i64 0, AV.oref 1 (u31 + 1) 0 0]) (Γ' := [⟨1, some [AV.i64 0, AV.i64 0, AV.oref 1 (u31 + 1) 0 0]⟩, ⟨(u31 + 1), some (([] : List F).map AV.f32)⟩, ⟨u32, none⟩, ⟨u33, none⟩, ⟨u34, none⟩]) 0 2 1 rfl rfl rfl rfl rfl ?_
          refine RunC.ret ?_
          have hq := Option.some.inj h
          obtain ⟨hq0, hq⟩ := Prod.mk.inj hq
          obtain ⟨hq1, hq⟩ := Prod.mk.inj hq
          obtain ⟨hq2, hq⟩ := Prod.mk.inj hq
          obtain ⟨hq3, hq⟩ := Prod.mk.inj hq
          subst q0
          subst q1
          subst q2
          subst q3
          subst q4
          exact bodyQ.mk (r' := AV.tup [AV.agg [AV.i64 0, AV.i64 0, AV.oref 1 (u31 + 1) 0 (([] : List F).length)], AV.f32 (some 0), AV.b false]) [(1, (u31 + 1))] (.inr rfl) rfl (show List.Nodup [1] from by decide) (by simp [AV.ren, AV.rens, sigma]) rfl (Res.eq (Res.three rfl (RV.cell agg27 siz27 rfl rfl rfl rfl) (RV.tmp rfl) (RV.tmp rfl)) (by rw [(show ([] : List F).length = 0 from rfl)] <;> rfl)) (SelL.arr0 (f := AV.f32) (fun _ => rfl) rfl trivial)
    · refine RunC.regionW ?_
      refine ROps.l (r := AV.agg [AV.i64 a0, AV.i64 a1, AV.sl a2.length (a2.map AV.f32)]) rfl rfl rfl (LOp.loadAgg agg27 siz27 rfl rfl rfl rfl) ?_
      refine ROps.d (r := AV.b true) (fs := []) (Γ' := [⟨1, some [AV.i64 0, AV.i64 0, AV.nilsl]⟩, ⟨0, none⟩, ⟨0, none⟩, ⟨0, none⟩, ⟨0, none⟩]) rfl rfl rfl (TOp.eqb (TOp.callB (CallAs.func ent59 rfl rfl) (Bors.cons (Bor.agg (Bors.cons (Bor.pure rfl) (Bors.cons (Bor.pure rfl) (Bors.cons (Bor.sl (fun _ => rfl)) Bors.nil)))) Bors.nil) rfl rfl (i_isSquare_ok a0 a1 a2 r1 hf1)) hc2) rfl ?_
      refine ROps.l (r := AV.b false) rfl rfl rfl (LOp.eqb (LOp.not rfl rfl) rfl) ?_
      refine ROps.l (r := AV.b false) rfl rfl rfl (LOp.move rfl rfl) ?_
      refine ROps.l (r := AV.f32 a3) rfl rfl rfl (LOp.move rfl rfl) ?_
      refine ROps.d (r := AV.b false) (fs := []) (Γ' := [⟨1, some [AV.i64 0, AV.i64 0, AV.nilsl]⟩, ⟨0, none⟩, ⟨0, none⟩, ⟨0, none⟩, ⟨0, none⟩]) rfl rfl rfl (TOp.eqb (TOp.callB (CallAs.func ent46 rfl rfl) (Bors.cons (Bor.pure rfl) Bors.nil) rfl rfl (i_IsFinite_ok a3 r2 hf3)) hc4) rfl ?_
      refine ROps.l (r := AV.b true) rfl rfl rfl (LOp.eqb (LOp.not rfl rfl) rfl) ?_
      refine ROps.l (r := AV.b true) rfl rfl rfl (LOp.pick_false rfl rfl rfl) ?_
      refine ROps.l (r := AV.b true) rfl rfl rfl (LOp.move rfl rfl) ?_
      refine ROps.s rfl rfl rfl ?_
      refine ROps.s rfl rfl rfl ?_
      refine ROps.l (r := AV.b true) rfl rfl rfl (LOp.pick_true rfl rfl rfl) ?_
      refine ROps.nil ?_
      refine RunC.wl (τ' := [(1, AV.f32 a3), (2, AV.ptr [AV.i64 a0, AV.i64 a1, AV.sl a2.length (a2.map AV.f32)]), (4, AV.optr 0 1 0), (24, AV.b true)]) (Γ' := [⟨1, some [AV.i64 0, AV.i64 0, AV.nilsl]⟩, ⟨0, none⟩, ⟨0, none⟩, ⟨0, none⟩, ⟨0, none⟩]) ⟨(ALe.refl _), (ALe.refl _), (ALe.refl _), (ALe.refl _), trivial⟩ ⟨⟨rfl, .inr rfl⟩, ⟨rfl, .inr rfl⟩, ⟨rfl, .inr rfl⟩, ⟨rfl, .inr rfl⟩, ⟨rfl, .inr rfl⟩, trivial⟩ ?_
      refine RunC.cond_true rfl rfl ?_
      refine RunC.seq ?_
      refine RunC.regionW ?_
      refine ROps.l (r := AV.agg [AV.i64 0, AV.i64 0, AV.nilsl]) rfl rfl rfl (LOp.build (qs := []) zer27 zok27 und27 plc27 rfl trivial rfl) ?_
      refine ROps.store_le (r := AV.agg [AV.i64 0, AV.i64 0, AV.nilsl]) (l' := [AV.i64 0, AV.i64 0, AV.nilsl]) (Γ' := [⟨1, some [AV.i64 0, AV.i64 0, AV.nilsl]⟩, ⟨0, none⟩, ⟨0, none⟩, ⟨0, none⟩, ⟨0, none⟩]) rfl siz27 rfl rfl rfl (ALe.refl _) rfl rfl rfl rfl (Nat.le_of_ble_eq_true rfl) rfl rfl ?_
      refine ROps.l (r := AV.f32 (some 0)) rfl rfl rfl (LOp.le (LOp.assign rfl rfl) (ALe.fl (by kernel_rfl) (by kernel_rfl))) ?_
      refine ROps.l (r := AV.b false) rfl rfl rfl (LOp.assign rfl rfl) ?_
      refine ROps.nil ?_
      refine RunC.nil_cell (l' := [AV.i64 0, AV.i64 0, AV.oref 1 1 0 0]) (Γ' := [⟨1, some [AV.i64 0, AV.i64 0, AV.oref 1 1 0 0]⟩, ⟨1, some (([] : List F).map AV.f32)⟩, ⟨0, none⟩, ⟨0, none⟩, ⟨0, none⟩]) 0 2 1 rfl rfl rfl rfl rfl ?_
      refine RunC.ret ?_
      have hq := Option.some.inj h
      obtain ⟨hq0, hq⟩ := Prod.mk.inj hq
      obtain ⟨hq1, hq⟩ := Prod.mk.inj hq
      obtain ⟨hq2, hq⟩ := Prod.mk.inj hq
      obtain ⟨hq3, hq⟩ := Prod.mk.inj hq
      subst q0
      subst q1
      subst q2
      subst q3
      subst q4
      exact bodyQ.mk (r' := AV.tup [AV.agg [AV.i64 0, AV.i64 0, AV.oref 1 1 0 (([] : List F).length)], AV.f32 (some 0), AV.b false]) [(1, 1)] (.inr rfl) rfl (show List.Nodup [1] from by decide) rfl rfl (Res.eq (Res.three rfl (RV.cell agg27 siz27 rfl rfl rfl rfl) (RV.tmp rfl) (RV.tmp rfl)) (by rw [(show ([] : List F).length = 0 from rfl)] <;> rfl)) (SelL.arr0 (f := AV.f32) (fun _ => rfl) rfl trivial)
  · refine RunC.regionW ?_
    refine ROps.l (r := AV.agg [AV.i64 a0, AV.i64 a1, AV.sl a2.length (a2.map AV.f32)]) rfl rfl rfl (LOp.loadAgg agg27 siz27 rfl rfl rfl rfl) ?_
    refine ROps.d (r := AV.b false) (fs := []) (Γ' := [⟨1, some [AV.i64 0, AV.i64 0, AV.nilsl]⟩, ⟨0, none⟩, ⟨0, none⟩, ⟨0, none⟩, ⟨0, none⟩]) rfl rfl rfl (TOp.eqb (TOp.callB (CallAs.func ent59 rfl rfl) (Bors.cons (Bor.agg (Bors.cons (Bor.pure rfl) (Bors.cons (Bor.pure rfl) (Bors.cons (Bor.sl (fun _ => rfl)) Bors.nil)))) Bors.nil) rfl rfl (i_isSquare_ok a0 a1 a2 r1 hf1)) hc2) rfl ?_
    refine ROps.l (r := AV.b true) rfl rfl rfl (LOp.eqb (LOp.not rfl rfl) rfl) ?_
    refine ROps.l (r := AV.b true) rfl rfl rfl (LOp.move rfl rfl) ?_
    refine ROps.s rfl rfl rfl ?_
    refine ROps.s rfl rfl rfl ?_
    refine ROps.s rfl rfl rfl ?_
    refine ROps.l (r := AV.b true) rfl rfl rfl (LOp.pick_true rfl rfl rfl) ?_
    refine ROps.l (r := AV.b true) rfl rfl rfl (LOp.move rfl rfl) ?_
    refine ROps.s rfl rfl rfl ?_
    refine ROps.s rfl rfl rfl ?_
    refine ROps.l (r := AV.b true) rfl rfl rfl (LOp.pick_true rfl rfl rfl) ?_
    refine ROps.nil ?_
    refine RunC.wl (τ' := [(1, AV.f32 a3), (2, AV.ptr [AV.i64 a0, AV.i64 a1, AV.sl a2.length (a2.map AV.f32)]), (4, AV.optr 0 1 0), (24, AV.b true)]) (Γ' := [⟨1, some [AV.i64 0, AV.i64 0, AV.nilsl]⟩, ⟨0, none⟩, ⟨0, none⟩, ⟨0, none⟩, ⟨0, none⟩]) ⟨(ALe.refl _), (ALe.refl _), (ALe.refl _), (ALe.refl _), trivial⟩ ⟨⟨rfl, .inr rfl⟩, ⟨rfl, .inr rfl⟩, ⟨rfl, .inr rfl⟩, ⟨rfl, .inr rfl⟩, ⟨rfl, .inr rfl⟩, trivial⟩ ?_
    refine RunC.cond_true rfl rfl ?_
    refine RunC.seq ?_
    refine RunC.regionW ?_
    refine ROps.l (r := AV.agg [AV.i64 0, AV.i64 0, AV.nilsl]) rfl rfl rfl (LOp.build (qs := []) zer27 zok27 und27 plc27 rfl trivial rfl) ?_
    refine ROps.store_le (r := AV.agg [AV.i64 0, AV.i64 0, AV.nilsl]) (l' := [AV.i64 0, AV.i64 0, AV.nilsl]) (Γ' := [⟨1, some [AV.i64 0, AV.i64 0, AV.nilsl]⟩, ⟨0, none⟩, ⟨0, none⟩, ⟨0, none⟩, ⟨0, none⟩]) rfl siz27 rfl rfl rfl (ALe.refl _) rfl rfl rfl rfl (Nat.le_of_ble_eq_true rfl) rfl rfl ?_
    refine ROps.l (r := AV.f32 (some 0)) rfl rfl rfl (LOp.le (LOp.assign rfl rfl) (ALe.fl (by kernel_rfl) (by kernel_rfl))) ?_
    refine ROps.l (r := AV.b false) rfl rfl rfl (LOp.assign rfl rfl) ?_
    refine ROps.nil ?_
    refine RunC.nil_cell (l' := [AV.i64 0, AV.i64 0, AV.oref 1 1 0 0]) (Γ' := [⟨1, some [AV.i64 0, AV.i64 0, AV.oref 1 1 0 0]⟩, ⟨1, some (([] : List F).map AV.f32)⟩, ⟨0, none⟩, ⟨0, none⟩, ⟨0, none⟩]) 0 2 1 rfl rfl rfl rfl rfl ?_
    refine RunC.ret ?_
    have hq := Option.some.inj h
    obtain ⟨hq0, hq⟩ := Prod.mk.inj hq
    obtain ⟨hq1, hq⟩ := Prod.mk.inj hq
    obtain ⟨hq2, hq⟩ := Prod.mk.inj hq
    obtain ⟨hq3, hq⟩ := Prod.mk.inj hq
    subst q0
    subst q1
    subst q2
    subst q3
    subst q4
    exact bodyQ.mk (r' := AV.tup [AV.agg [AV.i64 0, AV.i64 0, AV.oref 1 1 0 (([] : List F).length)], AV.f32 (some 0), AV.b false]) [(1, 1)] (.inr rfl) rfl (show List.Nodup [1] from by decide) rfl rfl (Res.eq (Res.three rfl (RV.cell agg27 siz27 rfl rfl rfl rfl) (RV.tmp rfl) (RV.tmp rfl)) (by rw [(show ([] : List F).length = 0 from rfl)] <;> rfl)) (SelL.arr0 (f := AV.f32) (fun _ => rfl) rfl trivial)
noncomputable def w_sameFloat_k1 (a0 : F) (a1 : F) : Option (Bool) :=
  some (feq .f64 a0 a1)
noncomputable def w_sameFloat (a0 : F) (a1 : F) : Option (Bool) :=
  bsel (!feq .f64 a0 a0) (
    some (!feq .f64 a1 a1)) (
    bsel (!feq .f64 a1 a1) (
      some false) (
      bsel (feq .f64 a0 (some 0)) (
        bsel (feq .f64 a1 (some 0)) (
          olet (fop .quo .f64 (some 4607182418800017408) a0) fun (x1 : F) =>
          olet (fop .quo .f64 (some 4607182418800017408) a1) fun (x2 : F) =>
          some ((flt .f64 (some 0) x1) == (flt .f64 (some 0) x2))) (
          w_sameFloat_k1 a0 a1)) (
        w_sameFloat_k1 a0 a1)))
theorem w_sameFloat_ok (a0 : F) (a1 : F) (q0 : Bool) (h : w_sameFloat a0 a1 = some q0) : Ev Try.prog 21 [AV.f64 a0, AV.f64 a1] [] (AV.b q0) [] := by
  refine Ev.start Try.func21 rfl rfl 0 (τ := [(0, AV.f64 a0), (1, AV.f64 a1)]) rfl (Γ' := []) rfl (n := 37) rfl (g := 0) rfl ?_
  unfold w_sameFloat at h
  refine RunC.seq ?_
  refine RunC.regionW ?_
  refine ROps.l (r := AV.b false) rfl rfl rfl (LOp.assign rfl rfl) ?_
  refine ROps.nil ?_
  refine RunC.seq ?_
  refine RunC.seq ?_
  rcases bsel_some h with ⟨hc1, h⟩ | ⟨hc1, h⟩
  · refine RunC.regionW ?_
    refine ROps.l (r := AV.f64 a0) rfl rfl rfl (LOp.move rfl rfl) ?_
    refine ROps.l (r := AV.f64 a0) rfl rfl rfl (LOp.move rfl rfl) ?_
    refine ROps.l (r := AV.b true) rfl rfl rfl (LOp.eqb (LOp.fne rfl (OpF.tmp rfl) (OpF.tmp rfl)) hc1) ?_
    refine ROps.l (r := AV.b true) rfl rfl rfl (LOp.move rfl rfl) ?_
    refine ROps.s rfl rfl rfl ?_
    refine ROps.s rfl rfl rfl ?_
    refine ROps.s rfl rfl rfl ?_
    refine ROps.l (r := AV.b true) rfl rfl rfl (LOp.pick_true rfl rfl rfl) ?_
    refine ROps.nil ?_
    refine RunC.cond_true rfl rfl ?_
    refine RunC.seq ?_
    refine RunC.regionW ?_
    refine ROps.l (r := AV.f64 a0) rfl rfl rfl (LOp.move rfl rfl) ?_
    refine ROps.l (r := AV.f64 a0) rfl rfl rfl (LOp.move rfl rfl) ?_
    refine ROps.l (r := AV.b true) rfl rfl rfl (LOp.eqb (LOp.fne rfl (OpF.tmp rfl) (OpF.tmp rfl)) hc1) ?_
    refine ROps.l (r := AV.b true) rfl rfl rfl (LOp.move rfl rfl) ?_
    refine ROps.l (r := AV.f64 a1) rfl rfl rfl (LOp.move rfl rfl) ?_
    refine ROps.l (r := AV.f64 a1) rfl rfl rfl (LOp.move rfl rfl) ?_
    refine ROps.l (r := AV.b (!feq .f64 a1 a1)) rfl rfl rfl (LOp.fne rfl (OpF.tmp rfl) (OpF.tmp rfl)) ?_
    refine ROps.l (r := AV.b (!feq .f64 a1 a1)) rfl rfl rfl (LOp.pick_true rfl rfl rfl) ?_
    refine ROps.l (r := AV.b (!feq .f64 a1 a1)) rfl rfl rfl (LOp.assign rfl rfl) ?_
    refine ROps.nil ?_
    refine RunC.ret ?_
    have hq := Option.some.inj h
    subst q0
    exact bodyQ.pure (.inr rfl) rfl (Res.one rfl (RV.tmp rfl))
  · rcases bsel_some h with ⟨hc2, h⟩ | ⟨hc2, h⟩
    · refine RunC.regionW ?_
      refine ROps.l (r := AV.f64 a0) rfl rfl rfl (LOp.move rfl rfl) ?_
      refine ROps.l (r := AV.f64 a0) rfl rfl rfl (LOp.move rfl rfl) ?_
      refine ROps.l (r := AV.b false) rfl rfl rfl (LOp.eqb (LOp.fne rfl (OpF.tmp rfl) (OpF.tmp rfl)) hc1) ?_
      refine ROps.l (r := AV.b false) rfl rfl rfl (LOp.move rfl rfl) ?_
      refine ROps.l (r := AV.f64 a1) rfl rfl rfl (LOp.move rfl rfl) ?_
      refine ROps.l (r := AV.f64 a1) rfl rfl rfl (LOp.move rfl rfl) ?_
      refine ROps.l (r := AV.b true) rfl rfl rfl (LOp.eqb (LOp.fne rfl (OpF.tmp rfl) (OpF.tmp rfl)) hc2) ?_
      refine ROps.l (r := AV.b true) rfl rfl rfl (LOp.pick_false rfl rfl rfl) ?_
      refine ROps.nil ?_
      refine RunC.cond_true rfl rfl ?_
      refine RunC.seq ?_
      refine RunC.regionW ?_
      refine ROps.l (r := AV.f64 a0) rfl rfl rfl (LOp.move rfl rfl) ?_
      refine ROps.l (r := AV.f64 a0) rfl rfl rfl (LOp.move rfl rfl) ?_
      refine ROps.l (r := AV.b false) rfl rfl rfl (LOp.eqb (LOp.fne rfl (OpF.tmp rfl) (OpF.tmp rfl)) hc1) ?_
      refine ROps.l (r := AV.b false) rfl rfl rfl (LOp.move rfl rfl) ?_
      refine ROps.s rfl rfl rfl ?_
      refine ROps.s rfl rfl rfl ?_
      refine ROps.s rfl rfl rfl ?_
      refine ROps.l (r := AV.b false) rfl rfl rfl (LOp.pick_false rfl rfl rfl) ?_
      refine ROps.l (r := AV.b false) rfl rfl rfl (LOp.assign rfl rfl) ?_
      refine ROps.nil ?_
      refine RunC.ret ?_
      have hq := Option.some.inj h
      subst q0
      exact bodyQ.pure (.inr rfl) rfl (Res.one rfl (RV.tmp rfl))
    · refine RunC.regionW ?_
      refine ROps.l (r := AV.f64 a0) rfl rfl rfl (LOp.move rfl rfl) ?_
      refine ROps.l (r := AV.f64 a0) rfl rfl rfl (LOp.move rfl rfl) ?_
      refine ROps.l (r := AV.b false) rfl rfl rfl (LOp.eqb (LOp.fne rfl (OpF.tmp rfl) (OpF.tmp rfl)) hc1) ?_
      refine ROps.l (r := AV.b false) rfl rfl rfl (LOp.move rfl rfl) ?_
      refine ROps.l (r := AV.f64 a1) rfl rfl rfl (LOp.move rfl rfl) ?_
      refine ROps.l (r := AV.f64 a1) rfl rfl rfl (LOp.move rfl rfl) ?_
      refine ROps.l (r := AV.b false) rfl rfl rfl (LOp.eqb (LOp.fne rfl (OpF.tmp rfl) (OpF.tmp rfl)) hc2) ?_
      refine ROps.l (r := AV.b false) rfl rfl rfl (LOp.pick_false rfl rfl rfl) ?_
      refine ROps.nil ?_
      refine RunC.cond_false rfl rfl ?_
      refine RunC.skip ?_
      refine RunC.seq ?_
      refine RunC.cutN (fun τ Γ =>  WeakLe τ [(0, AV.f64 a0), (1, AV.f64 a1)] ∧ DeadLe Γ [] ∧ w_sameFloat_k1 a0 a1 = some q0) ?_ ?_
      · refine RunC.seq ?_
        rcases bsel_some h with ⟨hc3, h⟩ | ⟨hc3, h⟩
        · rcases bsel_some h with ⟨hc4, h⟩ | ⟨hc4, h⟩
          · refine RunC.regionW ?_
            refine ROps.l (r := AV.f64 a0) rfl rfl rfl (LOp.move rfl rfl) ?_
            refine ROps.l (r := AV.b true) rfl rfl rfl (LOp.eqb (LOp.feq rfl (OpF.tmp rfl) (OpF.const rfl (by kernel_rfl) (by kernel_rfl))) hc3) ?_
            refine ROps.l (r := AV.b true) rfl rfl rfl (LOp.move rfl rfl) ?_
            refine ROps.l (r := AV.f64 a1) rfl rfl rfl (LOp.move rfl rfl) ?_
            refine ROps.l (r := AV.b true) rfl rfl rfl (LOp.eqb (LOp.feq rfl (OpF.tmp rfl) (OpF.const rfl (by kernel_rfl) (by kernel_rfl))) hc4) ?_
            refine ROps.l (r := AV.b true) rfl rfl rfl (LOp.pick_true rfl rfl rfl) ?_
            refine ROps.nil ?_
            refine RunC.wl (τ' := [(0, AV.f64 a0), (1, AV.f64 a1), (26, AV.b true)]) (Γ' := []) ⟨(ALe.refl _), (ALe.refl _), (ALe.refl _), trivial⟩ trivial ?_
            refine RunC.cond_true rfl rfl ?_
            refine RunC.seq ?_
            obtain ⟨x1, hx5, h⟩ := olet_some h
            obtain ⟨x2, hx6, h⟩ := olet_some h
            refine RunC.regionW ?_
            refine ROps.l (r := AV.f64 a0) rfl rfl rfl (LOp.move rfl rfl) ?_
            refine ROps.d (r := AV.f64 x1) (fs := []) (Γ' := []) rfl rfl rfl (TOp.eqr (TOp.fop (.inr (.inr (.inr rfl))) rfl (OpF.const rfl (by kernel_rfl) (by kernel_rfl)) (OpF.tmp rfl)) (congrArg (AV.f .f64) hx5)) rfl ?_
            refine ROps.l (r := AV.b (flt .f64 (some 0) x1)) rfl rfl rfl (LOp.fgt rfl (OpF.tmp rfl) (OpF.const rfl (by kernel_rfl) (by kernel_rfl))) ?_
            refine ROps.l (r := AV.f64 a1) rfl rfl rfl (LOp.move rfl rfl) ?_
            refine ROps.d (r := AV.f64 x2) (fs := []) (Γ' := []) rfl rfl rfl (TOp.eqr (TOp.fop (.inr (.inr (.inr rfl))) rfl (OpF.const rfl (by kernel_rfl) (by kernel_rfl)) (OpF.tmp rfl)) (congrArg (AV.f .f64) hx6)) rfl ?_
            refine ROps.l (r := AV.b (flt .f64 (some 0) x2)) rfl rfl rfl (LOp.fgt rfl (OpF.tmp rfl) (OpF.const rfl (by kernel_rfl) (by kernel_rfl))) ?_
            refine ROps.l (r := AV.b ((flt .f64 (some 0) x1) == (flt .f64 (some 0) x2))) rfl rfl rfl (LOp.eqlb pun4 rfl rfl rfl) ?_
            refine ROps.l (r := AV.b ((flt .f64 (some 0) x1) == (flt .f64 (some 0) x2))) rfl rfl rfl (LOp.assign rfl rfl) ?_
            refine ROps.nil ?_
            refine RunC.ret ?_
            have hq := Option.some.inj h
            subst q0
            exact bodyQ.pure (.inr rfl) rfl (Res.one rfl (RV.tmp rfl))
          · refine RunC.regionW ?_
            refine ROps.l (r := AV.f64 a0) rfl rfl rfl (LOp.move rfl rfl) ?_
            refine ROps.l (r := AV.b true) rfl rfl rfl (LOp.eqb (LOp.feq rfl (OpF.tmp rfl) (OpF.const rfl (by kernel_rfl) (by kernel_rfl))) hc3) ?_
            refine ROps.l (r := AV.b true) rfl rfl rfl (LOp.move rfl rfl) ?_
            refine ROps.l (r := AV.f64 a1) rfl rfl rfl (LOp.move rfl rfl) ?_
            refine ROps.l (r := AV.b false) rfl rfl rfl (LOp.eqb (LOp.feq rfl (OpF.tmp rfl) (OpF.const rfl (by kernel_rfl) (by kernel_rfl))) hc4) ?_
            refine ROps.l (r := AV.b false) rfl rfl rfl (LOp.pick_true rfl rfl rfl) ?_
            refine ROps.nil ?_
            refine RunC.wl (τ' := [(0, AV.f64 a0), (1, AV.f64 a1), (26, AV.b false)]) (Γ' := []) ⟨(ALe.refl _), (ALe.refl _), (ALe.refl _), trivial⟩ trivial ?_
            refine RunC.cond_false rfl rfl ?_
            refine RunC.skip ?_
            exact ⟨⟨(ALe.refl _), (ALe.refl _), trivial⟩, trivial, h⟩
        · refine RunC.regionW ?_
          refine ROps.l (r := AV.f64 a0) rfl rfl rfl (LOp.move rfl rfl) ?_
          refine ROps.l (r := AV.b false) rfl rfl rfl (LOp.eqb (LOp.feq rfl (OpF.tmp rfl) (OpF.const rfl (by kernel_rfl) (by kernel_rfl))) hc3) ?_
          refine ROps.l (r := AV.b false) rfl rfl rfl (LOp.move rfl rfl) ?_
          refine ROps.s rfl rfl rfl ?_
          refine ROps.s rfl rfl rfl ?_
          refine ROps.l (r := AV.b false) rfl rfl rfl (LOp.pick_false rfl rfl rfl) ?_
          refine ROps.nil ?_
          refine RunC.wl (τ' := [(0, AV.f64 a0), (1, AV.f64 a1), (26, AV.b false)]) (Γ' := []) ⟨(ALe.refl _), (ALe.refl _), (ALe.refl _), trivial⟩ trivial ?_
          refine RunC.cond_false rfl rfl ?_
          refine RunC.skip ?_
          exact ⟨⟨(ALe.refl _), (ALe.refl _), trivial⟩, trivial, h⟩
      · rintro τ2 Γ2 ⟨hw2, hd2, h⟩
        refine RunC.wl (τ' := [(0, AV.f64 a0), (1, AV.f64 a1)]) (Γ' := []) hw2 hd2 ?_
        unfold w_sameFloat_k1 at h
        refine RunC.seq ?_
        refine RunC.regionW ?_
        refine ROps.l (r := AV.f64 a0) rfl rfl rfl (LOp.move rfl rfl) ?_
        refine ROps.l (r := AV.f64 a1) rfl rfl rfl (LOp.move rfl rfl) ?_
        refine ROps.l (r := AV.b (feq .f64 a0 a1)) rfl rfl rfl (LOp.feq rfl (OpF.tmp rfl) (OpF.tmp rfl)) ?_
        refine ROps.l (r := AV.b (feq .f64 a0 a1)) rfl rfl rfl (LOp.assign rfl rfl) ?_
        refine ROps.nil ?_
        refine RunC.ret ?_
        have hq := Option.some.inj h
        subst q0
        exact bodyQ.pure (.inr rfl) rfl (Res.one rfl (RV.tmp rfl))
noncomputable def w_eqFloat32S_b1 (a0 : List F) (a1 : List F) (v1 : Int) : Option (LR (Int) (Unit) (Bool)) :=
  bsel (decide (v1 < (a0.length : Int))) (
    obind (at? a0 v1) fun (e2 : F) =>
    olet (fwiden e2) fun (x3 : F) =>
    obind (at? a1 v1) fun (e4 : F) =>
    olet (fwiden e4) fun (x5 : F) =>
    obind (w_sameFloat x3 x5) fun (r6 : Bool) =>
    bsel r6 (
      olet (IntKind.i64.wrap (v1 + 1)) fun (x7 : Int) =>
      some (LR.next x7)) (
      some (LR.ret false))) (
    some (LR.out ()))
noncomputable def w_eqFloat32S_s1 (a0 : List F) (a1 : List F) : (Int) → Option (LR (Int) (Unit) (Bool)) := fun s => w_eqFloat32S_b1 a0 a1 s
noncomputable def w_eqFloat32S_k1  : Option (Bool) :=
  some true
noncomputable def w_eqFloat32S (a0 : List F) (a1 : List F) : Option (Bool) :=
  bsel (!decide ((a0.length : Int) = (a1.length : Int))) (
    some false) (
    obind (loopM (w_eqFloat32S_s1 a0 a1) 0) fun z => osum z (fun _ => w_eqFloat32S_k1) (fun r => some r))
theorem w_eqFloat32S_ok (a0 : List F) (a1 : List F) (q0 : Bool) (h : w_eqFloat32S a0 a1 = some q0) : Ev Try.prog 24 [AV.sl a0.length (a0.map AV.f32), AV.sl a1.length (a1.map AV.f32)] [] (AV.b q0) [] := by
  refine Ev.start Try.func24 rfl rfl 0 (τ := [(0, AV.sl a0.length (a0.map AV.f32)), (1, AV.sl a1.length (a1.map AV.f32))]) rfl (Γ' := []) rfl (n := 29) rfl (g := 0) rfl ?_
  unfold w_eqFloat32S at h
  refine RunC.seq ?_
  refine RunC.regionW ?_
  refine ROps.l (r := AV.b false) rfl rfl rfl (LOp.assign rfl rfl) ?_
  refine ROps.nil ?_
  refine RunC.seq ?_
  refine RunC.seq ?_
  rcases bsel_some h with ⟨hc1, h⟩ | ⟨hc1, h⟩
  · refine RunC.regionW ?_
    refine ROps.l (r := AV.sl a0.length (a0.map AV.f32)) rfl rfl rfl (LOp.move rfl rfl) ?_
    refine ROps.l (r := AV.i64 (a0.length : Int)) rfl rfl rfl (LOp.len_sl und22 rfl rfl) ?_
    refine ROps.l (r := AV.sl a1.length (a1.map AV.f32)) rfl rfl rfl (LOp.move rfl rfl) ?_
    refine ROps.l (r := AV.i64 (a1.length : Int)) rfl rfl rfl (LOp.len_sl und22 rfl rfl) ?_
    refine ROps.l (r := AV.b true) rfl rfl rfl (LOp.eqb (LOp.neq rfl rfl rfl) hc1) ?_
    refine ROps.nil ?_
    refine RunC.cond_true rfl rfl ?_
    refine RunC.seq ?_
    refine RunC.regionW ?_
    refine ROps.l (r := AV.b false) rfl rfl rfl (LOp.assign rfl rfl) ?_
    refine ROps.nil ?_
    refine RunC.ret ?_
    have hq := Option.some.inj h
    subst q0
    exact bodyQ.pure (.inr rfl) rfl (Res.one rfl (RV.tmp rfl))
  · refine RunC.regionW ?_
    refine ROps.l (r := AV.sl a0.length (a0.map AV.f32)) rfl rfl rfl (LOp.move rfl rfl) ?_
    refine ROps.l (r := AV.i64 (a0.length : Int)) rfl rfl rfl (LOp.len_sl und22 rfl rfl) ?_
    refine ROps.l (r := AV.sl a1.length (a1.map AV.f32)) rfl rfl rfl (LOp.move rfl rfl) ?_
    refine ROps.l (r := AV.i64 (a1.length : Int)) rfl rfl rfl (LOp.len_sl und22 rfl rfl) ?_
    refine ROps.l (r := AV.b false) rfl rfl rfl (LOp.eqb (LOp.neq rfl rfl rfl) hc1) ?_
    refine ROps.nil ?_
    refine RunC.cond_false rfl rfl ?_
    refine RunC.skip ?_
    refine RunC.seq ?_
    refine RunC.seq ?_
    refine RunC.regionW ?_
    refine ROps.l (r := AV.i64 0) rfl rfl rfl (LOp.assign rfl rfl) ?_
    refine ROps.nil ?_
    obtain ⟨z2, hz_2, h⟩ := obind_some h
    refine RunC.cutN (fun τ Γ => WeakLe τ [] ∧ DeadLe Γ [] ∧ z2 = .inl ()) ?_ ?_
    · refine RunC.block (RunC.loop (RunL.loopM (x := z2) (w_eqFloat32S_s1 a0 a1) (fun (s : Int) τ Γ => WeakLe τ [(0, AV.sl a0.length (a0.map AV.f32)), (1, AV.sl a1.length (a1.map AV.f32)), (5, AV.i64 s)] ∧ DeadLe Γ []) ?_ _ _ _ hz_2 ⟨⟨(ALe.refl _), (ALe.refl _), (ALe.refl _), trivial⟩, trivial⟩))
      rintro v1 τ2 Γ2 y2_ ⟨hw2, hd2⟩ h2_ ho2 hr2
      refine RunC.wl (τ' := [(0, AV.sl a0.length (a0.map AV.f32)), (1, AV.sl a1.length (a1.map AV.f32)), (5, AV.i64 v1)]) (Γ' := []) hw2 hd2 ?_
      replace h2_ : w_eqFloat32S_b1 a0 a1 v1 = some y2_ := h2_
      unfold w_eqFloat32S_b1 at h2_
      refine RunC.seq ?_
      refine RunC.seq ?_
      rcases bsel_some h2_ with ⟨hc2, h2_⟩ | ⟨hc2, h2_⟩
      · refine RunC.regionW ?_
        refine ROps.l (r := AV.i64 v1) rfl rfl rfl (LOp.move rfl rfl) ?_
        refine ROps.l (r := AV.sl a0.length (a0.map AV.f32)) rfl rfl rfl (LOp.move rfl rfl) ?_
        refine ROps.l (r := AV.i64 (a0.length : Int)) rfl rfl rfl (LOp.len_sl und22 rfl rfl) ?_
        refine ROps.l (r := AV.b true) rfl rfl rfl (LOp.eqb (LOp.lss rfl rfl rfl) hc2) ?_
        refine ROps.nil ?_
        refine RunC.cond_true rfl rfl ?_
        refine RunC.skip ?_
        refine RunC.seq ?_
        refine RunC.block ?_
        refine RunC.seq ?_
        obtain ⟨e2, he3, h2_⟩ := obind_some h2_
        obtain ⟨x3, hx4, h2_⟩ := olet_some h2_
        obtain ⟨e4, he5, h2_⟩ := obind_some h2_
        obtain ⟨x5, hx6, h2_⟩ := olet_some h2_
        obtain ⟨r6, hf7, h2_⟩ := obind_some h2_
        rcases bsel_some h2_ with ⟨hc8, h2_⟩ | ⟨hc8, h2_⟩
        · refine RunC.region_draw (Γ' := []) 12 mixed 
            (TR.l (r := AV.sl a0.length (a0.map AV.f32)) rfl rfl (LOp.move rfl rfl) <|
            (TR.l (r := AV.i64 v1) rfl rfl (LOp.move rfl rfl) <|
            (TR.l (r := AV.ptr [AV.f32 e2]) rfl rfl (LOp.le (LOp.ix (f := AV.f32) und22 siz25 rfl rfl rfl rfl he3) ALe.ptr) <|
            (TR.l (r := AV.f32 e2) rfl rfl (LOp.load1 agg25 rfl rfl) <|
            (TR.d (r := AV.f64 x3) (fs := []) rfl rfl (TOp.eqr (TOp.widen (src := 25) (dst := 40) ⟨_, pun25⟩ pun40 rfl (OpF.tmp rfl)) (congrArg (AV.f .f64) hx4)) <|
            (TR.l (r := AV.sl a1.length (a1.map AV.f32)) rfl rfl (LOp.move rfl rfl) <|
            (TR.l (r := AV.i64 v1) rfl rfl (LOp.move rfl rfl) <|
            (TR.l (r := AV.ptr [AV.f32 e4]) rfl rfl (LOp.le (LOp.ix (f := AV.f32) und22 siz25 rfl rfl rfl rfl he5) ALe.ptr) <|
            (TR.l (r := AV.f32 e4) rfl rfl (LOp.load1 agg25 rfl rfl) <|
            (TR.d (r := AV.f64 x5) (fs := []) rfl rfl (TOp.eqr (TOp.widen (src := 25) (dst := 40) ⟨_, pun25⟩ pun40 rfl (OpF.tmp rfl)) (congrArg (AV.f .f64) hx6)) <|
            (TR.d (r := AV.b true) (fs := []) rfl rfl (TOp.eqb (TOp.callB (CallAs.func ent21 rfl rfl) (Bors.cons (Bor.pure rfl) (Bors.cons (Bor.pure rfl) Bors.nil)) rfl rfl (w_sameFloat_ok x3 x5 r6 hf7)) hc8) <|
            (TR.l (r := AV.b false) rfl rfl (LOp.eqb (LOp.not rfl rfl) rfl) <|
            TR.nil)))))))))))) rfl (by kernel_rfl) rfl fills_nil rfl ?_
          iterate 12 refine ROps.dropS ?_
          refine ROps.drop0 ?_
          refine ROps.nil ?_
          refine RunC.wl (τ' := [(0, AV.sl a0.length (a0.map AV.f32)), (1, AV.sl a1.length (a1.map AV.f32)), (5, AV.i64 v1), (28, AV.b false)]) (Γ' := []) ⟨(ALe.refl _), (ALe.refl _), (ALe.refl _), (ALe.refl _), trivial⟩ trivial ?_
          refine RunC.cond_false rfl rfl ?_
          refine RunC.skip ?_
          obtain ⟨x7, hx9, h2_⟩ := olet_some h2_
          refine RunC.regionW ?_
          refine ROps.l (r := AV.i64 v1) rfl rfl rfl (LOp.move rfl rfl) ?_
          refine ROps.l (r := AV.i64 x7) rfl rfl rfl (LOp.eqr (LOp.add rfl rfl rfl) (congrArg (AV.ik .i64) hx9)) ?_
          refine ROps.l (r := AV.i64 x7) rfl rfl rfl (LOp.assign rfl rfl) ?_
          refine ROps.nil ?_
          cases Option.some.inj h2_
          exact ⟨_, rfl, ⟨(ALe.refl _), (ALe.refl _), (ALe.refl _), trivial⟩, trivial⟩
        · refine RunC.region_draw (Γ' := []) 12 mixed 
            (TR.l (r := AV.sl a0.length (a0.map AV.f32)) rfl rfl (LOp.move rfl rfl) <|
            (TR.l (r := AV.i64 v1) rfl rfl (LOp.move rfl rfl) <|
            (TR.l (r := AV.ptr [AV.f32 e2]) rfl rfl (LOp.le (LOp.ix (f := AV.f32) und22 siz25 rfl rfl rfl rfl he3) ALe.ptr) <|
            (TR.l (r := AV.f32 e2) rfl rfl (LOp.load1 agg25 rfl rfl) <|
            (TR.d (r := AV.f64 x3) (fs := []) rfl rfl (TOp.eqr (TOp.widen (src := 25) (dst := 40) ⟨_, pun25⟩ pun40 rfl (OpF.tmp rfl)) (congrArg (AV.f .f64) hx4)) <|
            (TR.l (r := AV.sl a1.length (a1.map AV.f32)) rfl rfl (LOp.move rfl rfl) <|
            (TR.l (r := AV.i64 v1) rfl rfl (LOp.move rfl rfl) <|
            (TR.l (r := AV.ptr [AV.f32 e4]) rfl rfl (LOp.le (LOp.ix (f := AV.f32) und22 siz25 rfl rfl rfl rfl he5) ALe.ptr) <|
            (TR.l (r := AV.f32 e4) rfl rfl (LOp.load1 agg25 rfl rfl) <|
            (TR.d (r := AV.f64 x5) (fs := []) rfl rfl (TOp.eqr (TOp.widen (src := 25) (dst := 40) ⟨_, pun25⟩ pun40 rfl (OpF.tmp rfl)) (congrArg (AV.f .f64) hx6)) <|
            (TR.d (r := AV.b false) (fs := []) rfl rfl (TOp.eqb (TOp.callB (CallAs.func ent21 rfl rfl) (Bors.cons (Bor.pure rfl) (Bors.cons (Bor.pure rfl) Bors.nil)) rfl rfl (w_sameFloat_ok x3 x5 r6 hf7)) hc8) <|
            (TR.l (r := AV.b true) rfl rfl (LOp.eqb (LOp.not rfl rfl) rfl) <|
            TR.nil)))))))))))) rfl (by kernel_rfl) rfl fills_nil rfl ?_
          iterate 12 refine ROps.dropS ?_
          refine ROps.drop0 ?_
          refine ROps.nil ?_
          refine RunC.wl (τ' := [(0, AV.sl a0.length (a0.map AV.f32)), (1, AV.sl a1.length (a1.map AV.f32)), (5, AV.i64 v1), (28, AV.b true)]) (Γ' := []) ⟨(ALe.refl _), (ALe.refl _), (ALe.refl _), (ALe.refl _), trivial⟩ trivial ?_
          refine RunC.cond_true rfl rfl ?_
          refine RunC.seq ?_
          refine RunC.regionW ?_
          refine ROps.l (r := AV.b false) rfl rfl rfl (LOp.assign rfl rfl) ?_
          refine ROps.nil ?_
          refine RunC.ret ?_
          cases Option.some.inj h2_
          have hx3_ := hr2 _ rfl
          subst hx3_
          have hq := Option.some.inj h
          subst q0
          exact bodyQ.pure (.inr rfl) rfl (Res.one rfl (RV.tmp rfl))
      · refine RunC.regionW ?_
        refine ROps.l (r := AV.i64 v1) rfl rfl rfl (LOp.move rfl rfl) ?_
        refine ROps.l (r := AV.sl a0.length (a0.map AV.f32)) rfl rfl rfl (LOp.move rfl rfl) ?_
        refine ROps.l (r := AV.i64 (a0.length : Int)) rfl rfl rfl (LOp.len_sl und22 rfl rfl) ?_
        refine ROps.l (r := AV.b false) rfl rfl rfl (LOp.eqb (LOp.lss rfl rfl rfl) hc2) ?_
        refine ROps.nil ?_
        refine RunC.cond_false rfl rfl ?_
        refine RunC.exit ?_
        cases Option.some.inj h2_
        have hx := ho2 _ rfl
        exact ⟨trivial, trivial, hx⟩
    · rintro τ4 Γ4 ⟨hw4, hd4, rfl⟩
      refine RunC.wl (τ' := []) (Γ' := []) hw4 hd4 ?_
      replace h : w_eqFloat32S_k1 = some q0 := h
      unfold w_eqFloat32S_k1 at h
      refine RunC.seq ?_
      refine RunC.regionW ?_
      refine ROps.l (r := AV.b true) rfl rfl rfl (LOp.assign rfl rfl) ?_
      refine ROps.nil ?_
      refine RunC.ret ?_
      have hq := Option.some.inj h
      subst q0
      exact bodyQ.pure (.inr rfl) rfl (Res.one rfl (RV.tmp rfl))
noncomputable def w_eqMatrix (a0 : Int) (a1 : Int) (a2 : List F) (a3 : Int) (a4 : Int) (a5 : List F) : Option (Bool) :=
  bsel (!decide (a0 = a3)) (
    some false) (
    bsel (!decide (a1 = a4)) (
      some false) (
      obind (w_eqFloat32S a2 a5) fun (r1 : Bool) =>
      bsel r1 (
        some true) (
        some false)))
theorem w_eqMatrix_ok (a0 : Int) (a1 : Int) (a2 : List F) (a3 : Int) (a4 : Int) (a5 : List F) (q0 : Bool) (h : w_eqMatrix a0 a1 a2 a3 a4 a5 = some q0) : Ev Try.prog 13 [AV.agg [AV.i64 a0, AV.i64 a1, AV.sl a2.length (a2.map AV.f32)], AV.agg [AV.i64 a3, AV.i64 a4, AV.sl a5.length (a5.map AV.f32)]] [] (AV.b q0) [] := by
  refine Ev.start Try.func13 rfl rfl 0 (τ := [(0, AV.agg [AV.i64 a0, AV.i64 a1, AV.sl a2.length (a2.map AV.f32)]), (1, AV.agg [AV.i64 a3, AV.i64 a4, AV.sl a5.length (a5.map AV.f32)])]) rfl (Γ' := []) rfl (n := 21) rfl (g := 0) rfl ?_
  unfold w_eqMatrix at h
  refine RunC.seq ?_
  refine RunC.regionW ?_
  refine ROps.d (r := AV.ptr [AV.i64 a0, AV.i64 a1, AV.sl a2.length (a2.map AV.f32)]) (fs := []) (Γ' := []) rfl rfl rfl (TOp.box_s rfl rfl rfl) rfl ?_
  refine ROps.d (r := AV.ptr [AV.i64 a3, AV.i64 a4, AV.sl a5.length (a5.map AV.f32)]) (fs := []) (Γ' := []) rfl rfl rfl (TOp.box_s rfl rfl rfl) rfl ?_
  refine ROps.l (r := AV.b false) rfl rfl rfl (LOp.assign rfl rfl) ?_
  refine ROps.nil ?_
  refine RunC.seq ?_
  refine RunC.seq ?_
  rcases bsel_some h with ⟨hc1, h⟩ | ⟨hc1, h⟩
  · refine RunC.regionW ?_
    refine ROps.l (r := AV.ptr [AV.i64 a0, AV.i64 a1, AV.sl a2.length (a2.map AV.f32)]) rfl rfl rfl (LOp.fap und27 rfl siz2 rfl rfl rfl) ?_
    refine ROps.l (r := AV.i64 a0) rfl rfl rfl (LOp.load1 agg2 rfl rfl) ?_
    refine ROps.l (r := AV.ptr [AV.i64 a3, AV.i64 a4, AV.sl a5.length (a5.map AV.f32)]) rfl rfl rfl (LOp.fap und27 rfl siz2 rfl rfl rfl) ?_
    refine ROps.l (r := AV.i64 a3) rfl rfl rfl (LOp.load1 agg2 rfl rfl) ?_
    refine ROps.l (r := AV.b true) rfl rfl rfl (LOp.eqb (LOp.neq rfl rfl rfl) hc1) ?_
    refine ROps.nil ?_
    refine RunC.cond_true rfl rfl ?_
    refine RunC.seq ?_
    refine RunC.regionW ?_
    refine ROps.l (r := AV.b false) rfl rfl rfl (LOp.assign rfl rfl) ?_
    refine ROps.nil ?_
    refine RunC.ret ?_
    have hq := Option.some.inj h
    subst q0
    exact bodyQ.pure (.inr rfl) rfl (Res.one rfl (RV.tmp rfl))
  · refine RunC.regionW ?_
    refine ROps.l (r := AV.ptr [AV.i64 a0, AV.i64 a1, AV.sl a2.length (a2.map AV.f32)]) rfl rfl rfl (LOp.fap und27 rfl siz2 rfl rfl rfl) ?_
    refine ROps.l (r := AV.i64 a0) rfl rfl rfl (LOp.load1 agg2 rfl rfl) ?_
    refine ROps.l (r := AV.ptr [AV.i64 a3, AV.i64 a4, AV.sl a5.length (a5.map AV.f32)]) rfl rfl rfl (LOp.fap und27 rfl siz2 rfl rfl rfl) ?_
    refine ROps.l (r := AV.i64 a3) rfl rfl rfl (LOp.load1 agg2 rfl rfl) ?_
    refine ROps.l (r := AV.b false) rfl rfl rfl (LOp.eqb (LOp.neq rfl rfl rfl) hc1) ?_
    refine ROps.nil ?_
    refine RunC.cond_false rfl rfl ?_
    refine RunC.skip ?_
    refine RunC.seq ?_
    refine RunC.seq ?_
    rcases bsel_some h with ⟨hc2, h⟩ | ⟨hc2, h⟩
    · refine RunC.regionW ?_
      refine ROps.l (r := AV.ptr [AV.i64 a1, AV.sl a2.length (a2.map AV.f32)]) rfl rfl rfl (LOp.fap und27 rfl siz2 rfl rfl rfl) ?_
      refine ROps.l (r := AV.i64 a1) rfl rfl rfl (LOp.load1 agg2 rfl rfl) ?_
      refine ROps.l (r := AV.ptr [AV.i64 a4, AV.sl a5.length (a5.map AV.f32)]) rfl rfl rfl (LOp.fap und27 rfl siz2 rfl rfl rfl) ?_
      refine ROps.l (r := AV.i64 a4) rfl rfl rfl (LOp.load1 agg2 rfl rfl) ?_
      refine ROps.l (r := AV.b true) rfl rfl rfl (LOp.eqb (LOp.neq rfl rfl rfl) hc2) ?_
      refine ROps.nil ?_
      refine RunC.cond_true rfl rfl ?_
      refine RunC.seq ?_
      refine RunC.regionW ?_
      refine ROps.l (r := AV.b false) rfl rfl rfl (LOp.assign rfl rfl) ?_
      refine ROps.nil ?_
      refine RunC.ret ?_
      have hq := Option.some.inj h
      subst q0
      exact bodyQ.pure (.inr rfl) rfl (Res.one rfl (RV.tmp rfl))
    · refine RunC.regionW ?_
      refine ROps.l (r := AV.ptr [AV.i64 a1, AV.sl a2.length (a2.map AV.f32)]) rfl rfl rfl (LOp.fap und27 rfl siz2 rfl rfl rfl) ?_
      refine ROps.l (r := AV.i64 a1) rfl rfl rfl (LOp.load1 agg2 rfl rfl) ?_
      refine ROps.l (r := AV.ptr [AV.i64 a4, AV.sl a5.length (a5.map AV.f32)]) rfl rfl rfl (LOp.fap und27 rfl siz2 rfl rfl rfl) ?_
      refine ROps.l (r := AV.i64 a4) rfl rfl rfl (LOp.load1 agg2 rfl rfl) ?_
      refine ROps.l (r := AV.b false) rfl rfl rfl (LOp.eqb (LOp.neq rfl rfl rfl) hc2) ?_
      refine ROps.nil ?_
      refine RunC.cond_false rfl rfl ?_
      refine RunC.skip ?_
      refine RunC.wl (τ' := [(2, AV.ptr [AV.i64 a0, AV.i64 a1, AV.sl a2.length (a2.map AV.f32)]), (3, AV.ptr [AV.i64 a3, AV.i64 a4, AV.sl a5.length (a5.map AV.f32)])]) (Γ' := []) ⟨(ALe.refl _), (ALe.refl _), trivial⟩ trivial ?_
      refine RunC.seq ?_
      refine RunC.seq ?_
      obtain ⟨r1, hf3, h⟩ := obind_some h
      rcases bsel_some h with ⟨hc4, h⟩ | ⟨hc4, h⟩
      · refine RunC.regionW ?_
        refine ROps.l (r := AV.ptr [AV.sl a2.length (a2.map AV.f32)]) rfl rfl rfl (LOp.fap und27 rfl siz22 rfl rfl rfl) ?_
        refine ROps.l (r := AV.sl a2.length (a2.map AV.f32)) rfl rfl rfl (LOp.load1 agg22 rfl rfl) ?_
        refine ROps.l (r := AV.ptr [AV.sl a5.length (a5.map AV.f32)]) rfl rfl rfl (LOp.fap und27 rfl siz22 rfl rfl rfl) ?_
        refine ROps.l (r := AV.sl a5.length (a5.map AV.f32)) rfl rfl rfl (LOp.load1 agg22 rfl rfl) ?_
        refine ROps.d (r := AV.b true) (fs := []) (Γ' := []) rfl rfl rfl (TOp.eqb (TOp.callB (CallAs.func ent24 rfl rfl) (Bors.cons (Bor.sl (fun _ => rfl)) (Bors.cons (Bor.sl (fun _ => rfl)) Bors.nil)) rfl rfl (w_eqFloat32S_ok a2 a5 r1 hf3)) hc4) rfl ?_
        refine ROps.l (r := AV.b false) rfl rfl rfl (LOp.eqb (LOp.not rfl rfl) rfl) ?_
        refine ROps.nil ?_
        refine RunC.cond_false rfl rfl ?_
        refine RunC.skip ?_
        refine RunC.seq ?_
        refine RunC.regionW ?_
        refine ROps.l (r := AV.b true) rfl rfl rfl (LOp.assign rfl rfl) ?_
        refine ROps.nil ?_
        refine RunC.ret ?_
        have hq := Option.some.inj h
        subst q0
        exact bodyQ.pure (.inr rfl) rfl (Res.one rfl (RV.tmp rfl))
      · refine RunC.regionW ?_
        refine ROps.l (r := AV.ptr [AV.sl a2.length (a2.map AV.f32)]) rfl rfl rfl (LOp.fap und27 rfl siz22 rfl rfl rfl) ?_
        refine ROps.l (r := AV.sl a2.length (a2.map AV.f32)) rfl rfl rfl (LOp.load1 agg22 rfl rfl) ?_
        refine ROps.l (r := AV.ptr [AV.sl a5.length (a5.map AV.f32)]) rfl rfl rfl (LOp.fap und27 rfl siz22 rfl rfl rfl) ?_
        refine ROps.l (r := AV.sl a5.length (a5.map AV.f32)) rfl rfl rfl (LOp.load1 agg22 rfl rfl) ?_
        refine ROps.d (r := AV.b false) (fs := []) (Γ' := []) rfl rfl rfl (TOp.eqb (TOp.callB (CallAs.func ent24 rfl rfl) (Bors.cons (Bor.sl (fun _ => rfl)) (Bors.cons (Bor.sl (fun _ => rfl)) Bors.nil)) rfl rfl (w_eqFloat32S_ok a2 a5 r1 hf3)) hc4) rfl ?_
        refine ROps.l (r := AV.b true) rfl rfl rfl (LOp.eqb (LOp.not rfl rfl) rfl) ?_
        refine ROps.nil ?_
        refine RunC.cond_true rfl rfl ?_
        refine RunC.seq ?_
        refine RunC.regionW ?_
        refine ROps.l (r := AV.b false) rfl rfl rfl (LOp.assign rfl rfl) ?_
        refine ROps.nil ?_
        refine RunC.ret ?_
        have hq := Option.some.inj h
        subst q0
        exact bodyQ.pure (.inr rfl) rfl (Res.one rfl (RV.tmp rfl))
noncomputable def w_markFloat32S_0o_b1 (a1 : List F) (L1 : List F) (v3 : Int) (v4 : Int) : Option (LR ((List F) × Int × Int) ((List F) × Int) (Int × (List F))) :=
  bsel (decide (v4 < ((a1.length : Nat) : Int))) (
    olet (fint .f32 v3) fun (x5 : F) =>
    obind (setAt? L1 v4 x5) fun (L6 : List F) =>
    olet (IntKind.i64.wrap (v3 + 1)) fun (x7 : Int) =>
    olet (IntKind.i64.wrap (v4 + 1)) fun (x8 : Int) =>
    some (LR.next (L6, x7, x8))) (
    some (LR.out (L1, v3)))
noncomputable def w_markFloat32S_0o_s1 (a1 : List F) : ((List F) × Int × Int) → Option (LR ((List F) × Int × Int) ((List F) × Int) (Int × (List F))) := fun s => w_markFloat32S_0o_b1 a1 s.1 s.2.1 s.2.2
noncomputable def w_markFloat32S_0o_k1 (L9 : List F) (v11 : Int) : Option (Int × (List F)) :=
  some (v11, L9)
noncomputable def w_markFloat32S_0o (a0 : Int) (a1 : List F) : Option (Int × (List F)) :=
  obind (loopM (w_markFloat32S_0o_s1 a1) (a1, a0, 0)) fun z => osum z (fun e => w_markFloat32S_0o_k1 e.1 e.2) (fun r => some r)
theorem w_markFloat32S_0o_ok (a0 : Int) (a1 : List F) (q0 : Int) (q1 : List F) (h : w_markFloat32S_0o a0 a1 = some (q0, q1)) : Ev Try.prog 25 [AV.oref 0 0 0 a1.length, AV.i64 a0] [⟨0, some (a1.map AV.f32)⟩] (AV.i64 q0) [⟨0, some (q1.map AV.f32)⟩] := by
  refine Ev.start Try.func25 rfl rfl 0 (τ := [(0, AV.oref 0 0 0 a1.length), (1, AV.i64 a0)]) rfl (Γ' := [⟨0, some (a1.map AV.f32)⟩]) rfl (n := 20) rfl (g := 1) rfl ?_
  unfold w_markFloat32S_0o at h
  refine RunC.seq ?_
  refine RunC.regionW ?_
  refine ROps.l (r := AV.i64 0) rfl rfl rfl (LOp.assign rfl rfl) ?_
  refine ROps.nil ?_
  refine RunC.seq ?_
  refine RunC.seq ?_
  refine RunC.regionW ?_
  refine ROps.l (r := AV.i64 0) rfl rfl rfl (LOp.assign rfl rfl) ?_
  refine ROps.nil ?_
  obtain ⟨z2, hz_2, h⟩ := obind_some h
  refine RunC.cutN (fun τ Γ => ∃ (L9 : List F) (v11 : Int), L9.length = a1.length ∧ WeakLe τ [(1, AV.i64 v11)] ∧ DeadLe Γ [⟨0, some (L9.map AV.f32)⟩] ∧ z2 = .inl (L9, v11)) ?_ ?_
  · refine RunC.block (RunC.loop (RunL.loopM (x := z2) (w_markFloat32S_0o_s1 a1) (fun (s : (List F) × Int × Int) τ Γ => s.1.length = a1.length ∧ WeakLe τ [(0, AV.oref 0 0 0 a1.length), (1, AV.i64 s.2.1), (5, AV.i64 s.2.2)] ∧ DeadLe Γ [⟨0, some (s.1.map AV.f32)⟩]) ?_ _ _ _ hz_2 ⟨rfl, ⟨(ALe.refl _), (ALe.refl _), (ALe.refl _), trivial⟩, ⟨⟨rfl, .inr rfl⟩, trivial⟩⟩))
    rintro ⟨L1, v3, v4⟩ τ2 Γ2 y2_ ⟨hl2, hw2, hd2⟩ h2_ ho2 hr2
    refine RunC.wl (τ' := [(0, AV.oref 0 0 0 a1.length), (1, AV.i64 v3), (5, AV.i64 v4)]) (Γ' := [⟨0, some (L1.map AV.f32)⟩]) hw2 hd2 ?_
    replace hl2 : L1.length = a1.length := hl2
    replace h2_ : w_markFloat32S_0o_b1 a1 L1 v3 v4 = some y2_ := h2_
    unfold w_markFloat32S_0o_b1 at h2_
    refine RunC.seq ?_
    refine RunC.seq ?_
    rcases bsel_some h2_ with ⟨hc1, h2_⟩ | ⟨hc1, h2_⟩
    · refine RunC.regionW ?_
      refine ROps.l (r := AV.i64 v4) rfl rfl rfl (LOp.move rfl rfl) ?_
      refine ROps.l (r := AV.oref 0 0 0 a1.length) rfl rfl rfl (LOp.move rfl rfl) ?_
      refine ROps.l (r := AV.i64 ((a1.length : Nat) : Int)) rfl rfl rfl (LOp.len_oref und22 rfl rfl) ?_
      refine ROps.l (r := AV.b true) rfl rfl rfl (LOp.eqb (LOp.lss rfl rfl rfl) hc1) ?_
      refine ROps.nil ?_
      refine RunC.cond_true rfl rfl ?_
      refine RunC.skip ?_
      refine RunC.seq ?_
      refine RunC.block ?_
      refine RunC.seq ?_
      obtain ⟨x5, hx2, h2_⟩ := olet_some h2_
      obtain ⟨L6, he3, h2_⟩ := obind_some h2_
      refine RunC.regionW ?_
      refine ROps.l (r := AV.oref 0 0 0 a1.length) rfl rfl rfl (LOp.move rfl rfl) ?_
      refine ROps.l (r := AV.i64 v4) rfl rfl rfl (LOp.move rfl rfl) ?_
      refine ROps.l (r := AV.i64 v3) rfl rfl rfl (LOp.move rfl rfl) ?_
      refine ROps.l (r := AV.f32 x5) rfl rfl rfl (LOp.eqr (LOp.i2f (src := 3) (dst := 25) ⟨_, pun3⟩ pun25 rfl rfl) (congrArg (AV.f .f32) hx2)) ?_
      refine ROps.d (r := AV.optr 0 0 v4.toNat) (fs := []) (Γ' := [⟨0, some (L1.map AV.f32)⟩]) rfl rfl rfl (TOp.ixo und22 siz25 rfl rfl rfl (set_in he3 hl2) rfl) rfl ?_
      refine ROps.st (f := AV.f32) (i := v4) (Γ' := [⟨0, some (L6.map AV.f32)⟩]) rfl siz25 rfl rfl rfl (ALe.refl _) rfl rfl rfl he3 rfl ?_
      refine ROps.nil ?_
      obtain ⟨x7, hx4, h2_⟩ := olet_some h2_
      refine RunC.regionW ?_
      refine ROps.l (r := AV.i64 v3) rfl rfl rfl (LOp.move rfl rfl) ?_
      refine ROps.l (r := AV.i64 x7) rfl rfl rfl (LOp.eqr (LOp.add rfl rfl rfl) (congrArg (AV.ik .i64) hx4)) ?_
      refine ROps.l (r := AV.i64 x7) rfl rfl rfl (LOp.assign rfl rfl) ?_
      refine ROps.nil ?_
      obtain ⟨x8, hx5, h2_⟩ := olet_some h2_
      refine RunC.regionW ?_
      refine ROps.l (r := AV.i64 v4) rfl rfl rfl (LOp.move rfl rfl) ?_
      refine ROps.l (r := AV.i64 x8) rfl rfl rfl (LOp.eqr (LOp.add rfl rfl rfl) (congrArg (AV.ik .i64) hx5)) ?_
      refine ROps.l (r := AV.i64 x8) rfl rfl rfl (LOp.assign rfl rfl) ?_
      refine ROps.nil ?_
      cases Option.some.inj h2_
      exact ⟨_, rfl, ((setAt?_len he3).trans hl2), ⟨(ALe.refl _), (ALe.refl _), (ALe.refl _), trivial⟩, ⟨⟨rfl, .inr rfl⟩, trivial⟩⟩
    · refine RunC.regionW ?_
      refine ROps.l (r := AV.i64 v4) rfl rfl rfl (LOp.move rfl rfl) ?_
      refine ROps.l (r := AV.oref 0 0 0 a1.length) rfl rfl rfl (LOp.move rfl rfl) ?_
      refine ROps.l (r := AV.i64 ((a1.length : Nat) : Int)) rfl rfl rfl (LOp.len_oref und22 rfl rfl) ?_
      refine ROps.l (r := AV.b false) rfl rfl rfl (LOp.eqb (LOp.lss rfl rfl rfl) hc1) ?_
      refine ROps.nil ?_
      refine RunC.cond_false rfl rfl ?_
      refine RunC.exit ?_
      cases Option.some.inj h2_
      have hx := ho2 _ rfl
      exact ⟨L1, v3, hl2, ⟨(ALe.refl _), trivial⟩, ⟨⟨rfl, .inr rfl⟩, trivial⟩, hx⟩
  · rintro τ3 Γ3 ⟨L9, v11, hl10, hw3, hd3, rfl⟩
    refine RunC.wl (τ' := [(1, AV.i64 v11)]) (Γ' := [⟨0, some (L9.map AV.f32)⟩]) hw3 hd3 ?_
    replace h : w_markFloat32S_0o_k1 L9 v11 = some (q0, q1) := h
    unfold w_markFloat32S_0o_k1 at h
    refine RunC.seq ?_
    refine RunC.regionW ?_
    refine ROps.l (r := AV.i64 v11) rfl rfl rfl (LOp.move rfl rfl) ?_
    refine ROps.l (r := AV.i64 v11) rfl rfl rfl (LOp.assign rfl rfl) ?_
    refine ROps.nil ?_
    refine RunC.ret ?_
    have hq := Option.some.inj h
    obtain ⟨hq0, hq⟩ := Prod.mk.inj hq
    subst q0
    subst q1
    exact bodyQ.mk (r' := AV.i64 v11) [(0, 0)] (.inr rfl) rfl (show List.Nodup [0] from by decide) rfl rfl (Res.one rfl (RV.tmp rfl)) (SelL.arr (f := AV.f32) (fun _ => rfl) rfl trivial)
noncomputable def w_markMatrix_02o (a0 : Int) (a1 : Int) (a2 : Int) (a3 : List F) : Option (Int × (List F)) :=
  obind2 (w_markFloat32S_0o a2 a3) fun (r1 : Int) (r2 : List F) =>
  need (decide (r2.length = a3.length)) <|
  some (r1, r2)
theorem w_markMatrix_02o_ok (a0 : Int) (a1 : Int) (a2 : Int) (a3 : List F) (q0 : Int) (q1 : List F) (h : w_markMatrix_02o a0 a1 a2 a3 = some (q0, q1)) : Ev Try.prog 15 [AV.agg [AV.i64 a0, AV.i64 a1, AV.oref 0 0 0 a3.length], AV.i64 a2] [⟨0, some (a3.map AV.f32)⟩] (AV.i64 q0) [⟨0, some (q1.map AV.f32)⟩] := by
  refine Ev.start Try.func15 rfl rfl 0 (τ := [(0, AV.agg [AV.i64 a0, AV.i64 a1, AV.oref 0 0 0 a3.length]), (1, AV.i64 a2)]) rfl (Γ' := [⟨0, some (a3.map AV.f32)⟩]) rfl (n := 10) rfl (g := 1) rfl ?_
  unfold w_markMatrix_02o at h
  refine RunC.seq ?_
  refine RunC.regionW ?_
  refine ROps.d (r := AV.ptr [AV.i64 a0, AV.i64 a1, AV.oref 0 0 0 a3.length]) (fs := []) (Γ' := [⟨0, some (a3.map AV.f32)⟩]) rfl rfl rfl (TOp.box_s rfl rfl rfl) rfl ?_
  refine ROps.l (r := AV.i64 0) rfl rfl rfl (LOp.assign rfl rfl) ?_
  refine ROps.nil ?_
  refine RunC.seq ?_
  obtain ⟨r1, r2, hf1, h⟩ := obind2_some h
  obtain ⟨hn2, h⟩ := need_some h
  refine RunC.regionW ?_
  refine ROps.l (r := AV.ptr [AV.oref 0 0 0 a3.length]) rfl rfl rfl (LOp.fap und27 rfl siz22 rfl rfl rfl) ?_
  refine ROps.l (r := AV.oref 0 0 0 a3.length) rfl rfl rfl (LOp.load1 agg22 rfl rfl) ?_
  refine ROps.l (r := AV.i64 a2) rfl rfl rfl (LOp.move rfl rfl) ?_
  refine ROps.callO (A := [AV.oref 0 0 0 a3.length, AV.i64 a2]) (args := [AV.oref 0 0 0 a3.length, AV.i64 a2]) (Γc := [⟨0, some (a3.map AV.f32)⟩]) (Γc' := [⟨0, some (r2.map AV.f32)⟩]) (r' := AV.i64 r1) (Γ' := [⟨0, some (r2.map AV.f32)⟩]) [(0, 0)] [] rfl (CallAs.func ent25 rfl rfl) rfl rfl (SelOk.of (show List.Nodup [0] from by decide) (SelL.arr0 (f := AV.f32) (fun _ => rfl) rfl trivial)) (live_of ⟨⟨_, _, rfl⟩, trivial⟩) (by simp [AV.ren, AV.rens, sigma, rens_f32, rens_f64, rens_i64, rens_ik, rens_str, rens_cp]) rfl (w_markFloat32S_0o_ok a2 a3 r1 r2 hf1) rfl (news_of trivial) (show List.Nodup [0] from by decide) (by simp [AV.ren, AV.rens, sigma, of_decide_eq_true hn2]) (by simp [backOb, sigma, AV.ren, AV.rens, rens_f32, rens_f64, rens_i64, rens_ik, rens_str, rens_cp]) ?_
  refine ROps.l (r := AV.i64 r1) rfl rfl rfl (LOp.assign rfl rfl) ?_
  refine ROps.nil ?_
  refine RunC.seq ?_
  refine RunC.regionW ?_
  refine ROps.l (r := AV.i64 r1) rfl rfl rfl (LOp.move rfl rfl) ?_
  refine ROps.l (r := AV.i64 r1) rfl rfl rfl (LOp.assign rfl rfl) ?_
  refine ROps.nil ?_
  refine RunC.ret ?_
  have hq := Option.some.inj h
  obtain ⟨hq0, hq⟩ := Prod.mk.inj hq
  subst q0
  subst q1
  exact bodyQ.mk (r' := AV.i64 r1) [(0, 0)] (.inr rfl) rfl (show List.Nodup [0] from by decide) rfl rfl (Res.one rfl (RV.tmp rfl)) (SelL.arr (f := AV.f32) (fun _ => rfl) rfl trivial)
noncomputable def w_heldFloat32S_b1 (a0 : List F) (v1 : Int) (v2 : Int) : Option (LR (Int × Int) (Int) (Int)) :=
  bsel (decide (v2 < (a0.length : Int))) (
    obind (at? a0 v2) fun (e3 : F) =>
    olet (fint .f32 v1) fun (x4 : F) =>
    bsel (!feq .f32 e3 x4) (
      some (LR.ret (-1))) (
      olet (IntKind.i64.wrap (v1 + 1)) fun (x5 : Int) =>
      olet (IntKind.i64.wrap (v2 + 1)) fun (x6 : Int) =>
      some (LR.next (x5, x6)))) (
    some (LR.out v1))
noncomputable def w_heldFloat32S_s1 (a0 : List F) : (Int × Int) → Option (LR (Int × Int) (Int) (Int)) := fun s => w_heldFloat32S_b1 a0 s.1 s.2
noncomputable def w_heldFloat32S_k1 (v7 : Int) : Option (Int) :=
  some v7
noncomputable def w_heldFloat32S (a0 : List F) (a1 : Int) : Option (Int) :=
  obind (loopM (w_heldFloat32S_s1 a0) (a1, 0)) fun z => osum z (fun e => w_heldFloat32S_k1 e) (fun r => some r)
theorem w_heldFloat32S_ok (a0 : List F) (a1 : Int) (q0 : Int) (h : w_heldFloat32S a0 a1 = some q0) : Ev Try.prog 26 [AV.sl a0.length (a0.map AV.f32), AV.i64 a1] [] (AV.i64 q0) [] := by
  refine Ev.start Try.func26 rfl rfl 0 (τ := [(0, AV.sl a0.length (a0.map AV.f32)), (1, AV.i64 a1)]) rfl (Γ' := []) rfl (n := 22) rfl (g := 0) rfl ?_
  unfold w_heldFloat32S at h
  refine RunC.seq ?_
  refine RunC.regionW ?_
  refine ROps.l (r := AV.i64 0) rfl rfl rfl (LOp.assign rfl rfl) ?_
  refine ROps.nil ?_
  refine RunC.seq ?_
  refine RunC.seq ?_
  refine RunC.regionW ?_
  refine ROps.l (r := AV.i64 0) rfl rfl rfl (LOp.assign rfl rfl) ?_
  refine ROps.nil ?_
  obtain ⟨z2, hz_2, h⟩ := obind_some h
  refine RunC.cutN (fun τ Γ => ∃ (v7 : Int), WeakLe τ [(1, AV.i64 v7)] ∧ DeadLe Γ [] ∧ z2 = .inl v7) ?_ ?_
  · refine RunC.block (RunC.loop (RunL.loopM (x := z2) (w_heldFloat32S_s1 a0) (fun (s : Int × Int) τ Γ => WeakLe τ [(0, AV.sl a0.length (a0.map AV.f32)), (1, AV.i64 s.1), (5, AV.i64 s.2)] ∧ DeadLe Γ []) ?_ _ _ _ hz_2 ⟨⟨(ALe.refl _), (ALe.refl _), (ALe.refl _), trivial⟩, trivial⟩))
    rintro ⟨v1, v2⟩ τ2 Γ2 y2_ ⟨hw2, hd2⟩ h2_ ho2 hr2
    refine RunC.wl (τ' := [(0, AV.sl a0.length (a0.map AV.f32)), (1, AV.i64 v1), (5, AV.i64 v2)]) (Γ' := []) hw2 hd2 ?_
    replace h2_ : w_heldFloat32S_b1 a0 v1 v2 = some y2_ := h2_
    unfold w_heldFloat32S_b1 at h2_
    refine RunC.seq ?_
    refine RunC.seq ?_
    rcases bsel_some h2_ with ⟨hc1, h2_⟩ | ⟨hc1, h2_⟩
    · refine RunC.regionW ?_
      refine ROps.l (r := AV.i64 v2) rfl rfl rfl (LOp.move rfl rfl) ?_
      refine ROps.l (r := AV.sl a0.length (a0.map AV.f32)) rfl rfl rfl (LOp.move rfl rfl) ?_
      refine ROps.l (r := AV.i64 (a0.length : Int)) rfl rfl rfl (LOp.len_sl und22 rfl rfl) ?_
      refine ROps.l (r := AV.b true) rfl rfl rfl (LOp.eqb (LOp.lss rfl rfl rfl) hc1) ?_
      refine ROps.nil ?_
      refine RunC.cond_true rfl rfl ?_
      refine RunC.skip ?_
      refine RunC.seq ?_
      refine RunC.block ?_
      refine RunC.seq ?_
      refine RunC.seq ?_
      obtain ⟨e3, he2, h2_⟩ := obind_some h2_
      obtain ⟨x4, hx3, h2_⟩ := olet_some h2_
      rcases bsel_some h2_ with ⟨hc4, h2_⟩ | ⟨hc4, h2_⟩
      · refine RunC.regionW ?_
        refine ROps.l (r := AV.sl a0.length (a0.map AV.f32)) rfl rfl rfl (LOp.move rfl rfl) ?_
        refine ROps.l (r := AV.i64 v2) rfl rfl rfl (LOp.move rfl rfl) ?_
        refine ROps.l (r := AV.ptr [AV.f32 e3]) rfl rfl rfl (LOp.le (LOp.ix (f := AV.f32) und22 siz25 rfl rfl rfl rfl he2) ALe.ptr) ?_
        refine ROps.l (r := AV.f32 e3) rfl rfl rfl (LOp.load1 agg25 rfl rfl) ?_
        refine ROps.l (r := AV.i64 v1) rfl rfl rfl (LOp.move rfl rfl) ?_
        refine ROps.l (r := AV.f32 x4) rfl rfl rfl (LOp.eqr (LOp.i2f (src := 3) (dst := 25) ⟨_, pun3⟩ pun25 rfl rfl) (congrArg (AV.f .f32) hx3)) ?_
        refine ROps.l (r := AV.b true) rfl rfl rfl (LOp.eqb (LOp.fne rfl (OpF.tmp rfl) (OpF.tmp rfl)) hc4) ?_
        refine ROps.nil ?_
        refine RunC.cond_true rfl rfl ?_
        refine RunC.seq ?_
        refine RunC.regionW ?_
        refine ROps.l (r := AV.i64 (-1)) rfl rfl rfl (LOp.assign rfl rfl) ?_
        refine ROps.nil ?_
        refine RunC.ret ?_
        cases Option.some.inj h2_
        have hx3_ := hr2 _ rfl
        subst hx3_
        have hq := Option.some.inj h
        subst q0
        exact bodyQ.pure (.inr rfl) rfl (Res.one rfl (RV.tmp rfl))
      · refine RunC.regionW ?_
        refine ROps.l (r := AV.sl a0.length (a0.map AV.f32)) rfl rfl rfl (LOp.move rfl rfl) ?_
        refine ROps.l (r := AV.i64 v2) rfl rfl rfl (LOp.move rfl rfl) ?_
        refine ROps.l (r := AV.ptr [AV.f32 e3]) rfl rfl rfl (LOp.le (LOp.ix (f := AV.f32) und22 siz25 rfl rfl rfl rfl he2) ALe.ptr) ?_
        refine ROps.l (r := AV.f32 e3) rfl rfl rfl (LOp.load1 agg25 rfl rfl) ?_
        refine ROps.l (r := AV.i64 v1) rfl rfl rfl (LOp.move rfl rfl) ?_
        refine ROps.l (r := AV.f32 x4) rfl rfl rfl (LOp.eqr (LOp.i2f (src := 3) (dst := 25) ⟨_, pun3⟩ pun25 rfl rfl) (congrArg (AV.f .f32) hx3)) ?_
        refine ROps.l (r := AV.b false) rfl rfl rfl (LOp.eqb (LOp.fne rfl (OpF.tmp rfl) (OpF.tmp rfl)) hc4) ?_
        refine ROps.nil ?_
        refine RunC.cond_false rfl rfl ?_
        refine RunC.skip ?_
        obtain ⟨x5, hx5, h2_⟩ := olet_some h2_
        refine RunC.regionW ?_
        refine ROps.l (r := AV.i64 v1) rfl rfl rfl (LOp.move rfl rfl) ?_
        refine ROps.l (r := AV.i64 x5) rfl rfl rfl (LOp.eqr (LOp.add rfl rfl rfl) (congrArg (AV.ik .i64) hx5)) ?_
        refine ROps.l (r := AV.i64 x5) rfl rfl rfl (LOp.assign rfl rfl) ?_
        refine ROps.nil ?_
        refine RunC.wl (τ' := [(0, AV.sl a0.length (a0.map AV.f32)), (1, AV.i64 x5), (5, AV.i64 v2)]) (Γ' := []) ⟨(ALe.refl _), (ALe.refl _), (ALe.refl _), trivial⟩ trivial ?_
        obtain ⟨x6, hx6, h2_⟩ := olet_some h2_
        refine RunC.regionW ?_
        refine ROps.l (r := AV.i64 v2) rfl rfl rfl (LOp.move rfl rfl) ?_
        refine ROps.l (r := AV.i64 x6) rfl rfl rfl (LOp.eqr (LOp.add rfl rfl rfl) (congrArg (AV.ik .i64) hx6)) ?_
        refine ROps.l (r := AV.i64 x6) rfl rfl rfl (LOp.assign rfl rfl) ?_
        refine ROps.nil ?_
        cases Option.some.inj h2_
        exact ⟨_, rfl, ⟨(ALe.refl _), (ALe.refl _), (ALe.refl _), trivial⟩, trivial⟩
    · refine RunC.regionW ?_
      refine ROps.l (r := AV.i64 v2) rfl rfl rfl (LOp.move rfl rfl) ?_
      refine ROps.l (r := AV.sl a0.length (a0.map AV.f32)) rfl rfl rfl (LOp.move rfl rfl) ?_
      refine ROps.l (r := AV.i64 (a0.length : Int)) rfl rfl rfl (LOp.len_sl und22 rfl rfl) ?_
      refine ROps.l (r := AV.b false) rfl rfl rfl (LOp.eqb (LOp.lss rfl rfl rfl) hc1) ?_
      refine ROps.nil ?_
      refine RunC.cond_false rfl rfl ?_
      refine RunC.exit ?_
      cases Option.some.inj h2_
      have hx := ho2 _ rfl
      exact ⟨v1, ⟨(ALe.refl _), trivial⟩, trivial, hx⟩
  · rintro τ4 Γ4 ⟨v7, hw4, hd4, rfl⟩
    refine RunC.wl (τ' := [(1, AV.i64 v7)]) (Γ' := []) hw4 hd4 ?_
    replace h : w_heldFloat32S_k1 v7 = some q0 := h
    unfold w_heldFloat32S_k1 at h
    refine RunC.seq ?_
    refine RunC.regionW ?_
    refine ROps.l (r := AV.i64 v7) rfl rfl rfl (LOp.move rfl rfl) ?_
    refine ROps.l (r := AV.i64 v7) rfl rfl rfl (LOp.assign rfl rfl) ?_
    refine ROps.nil ?_
    refine RunC.ret ?_
    have hq := Option.some.inj h
    subst q0
    exact bodyQ.pure (.inr rfl) rfl (Res.one rfl (RV.tmp rfl))
noncomputable def w_heldMatrix (a0 : Int) (a1 : Int) (a2 : List F) (a3 : Int) : Option (Int) :=
  obind (w_heldFloat32S a2 a3) fun (r1 : Int) =>
  bsel (decide (r1 < 0)) (
    some (-1)) (
    some r1)
theorem w_heldMatrix_ok (a0 : Int) (a1 : Int) (a2 : List F) (a3 : Int) (q0 : Int) (h : w_heldMatrix a0 a1 a2 a3 = some q0) : Ev Try.prog 17 [AV.agg [AV.i64 a0, AV.i64 a1, AV.sl a2.length (a2.map AV.f32)], AV.i64 a3] [] (AV.i64 q0) [] := by
  refine Ev.start Try.func17 rfl rfl 0 (τ := [(0, AV.agg [AV.i64 a0, AV.i64 a1, AV.sl a2.length (a2.map AV.f32)]), (1, AV.i64 a3)]) rfl (Γ' := []) rfl (n := 12) rfl (g := 0) rfl ?_
  unfold w_heldMatrix at h
  refine RunC.seq ?_
  refine RunC.regionW ?_
  refine ROps.d (r := AV.ptr [AV.i64 a0, AV.i64 a1, AV.sl a2.length (a2.map AV.f32)]) (fs := []) (Γ' := []) rfl rfl rfl (TOp.box_s rfl rfl rfl) rfl ?_
  refine ROps.l (r := AV.i64 0) rfl rfl rfl (LOp.assign rfl rfl) ?_
  refine ROps.nil ?_
  refine RunC.seq ?_
  obtain ⟨r1, hf1, h⟩ := obind_some h
  refine RunC.regionW ?_
  refine ROps.l (r := AV.ptr [AV.sl a2.length (a2.map AV.f32)]) rfl rfl rfl (LOp.fap und27 rfl siz22 rfl rfl rfl) ?_
  refine ROps.l (r := AV.sl a2.length (a2.map AV.f32)) rfl rfl rfl (LOp.load1 agg22 rfl rfl) ?_
  refine ROps.l (r := AV.i64 a3) rfl rfl rfl (LOp.move rfl rfl) ?_
  refine ROps.d (r := AV.i64 r1) (fs := []) (Γ' := []) rfl rfl rfl (TOp.callB (CallAs.func ent26 rfl rfl) (Bors.cons (Bor.sl (fun _ => rfl)) (Bors.cons (Bor.pure rfl) Bors.nil)) rfl rfl (w_heldFloat32S_ok a2 a3 r1 hf1)) rfl ?_
  refine ROps.l (r := AV.i64 r1) rfl rfl rfl (LOp.assign rfl rfl) ?_
  refine ROps.nil ?_
  refine RunC.seq ?_
  refine RunC.seq ?_
  rcases bsel_some h with ⟨hc2, h⟩ | ⟨hc2, h⟩
  · refine RunC.regionW ?_
    refine ROps.l (r := AV.i64 r1) rfl rfl rfl (LOp.move rfl rfl) ?_
    refine ROps.l (r := AV.b true) rfl rfl rfl (LOp.eqb (LOp.lss rfl rfl rfl) hc2) ?_
    refine ROps.nil ?_
    refine RunC.cond_true rfl rfl ?_
    refine RunC.seq ?_
    refine RunC.regionW ?_
    refine ROps.l (r := AV.i64 (-1)) rfl rfl rfl (LOp.assign rfl rfl) ?_
    refine ROps.nil ?_
    refine RunC.ret ?_
    have hq := Option.some.inj h
    subst q0
    exact bodyQ.pure (.inr rfl) rfl (Res.one rfl (RV.tmp rfl))
  · refine RunC.regionW ?_
    refine ROps.l (r := AV.i64 r1) rfl rfl rfl (LOp.move rfl rfl) ?_
    refine ROps.l (r := AV.b false) rfl rfl rfl (LOp.eqb (LOp.lss rfl rfl rfl) hc2) ?_
    refine ROps.nil ?_
    refine RunC.cond_false rfl rfl ?_
    refine RunC.skip ?_
    refine RunC.seq ?_
    refine RunC.regionW ?_
    refine ROps.l (r := AV.i64 r1) rfl rfl rfl (LOp.move rfl rfl) ?_
    refine ROps.l (r := AV.i64 r1) rfl rfl rfl (LOp.assign rfl rfl) ?_
    refine ROps.nil ?_
    refine RunC.ret ?_
    have hq := Option.some.inj h
    subst q0
    exact bodyQ.pure (.inr rfl) rfl (Res.one rfl (RV.tmp rfl))
noncomputable def w_FnExactRootShifted (a0 : Int) (a1 : Int) (a2 : List F) (a3 : F) : Option (Bool) :=
  obind (w_szMatrix a0 a1 a2 1048576) fun (r1 : Int) =>
  bsel (decide (r1 < 0)) (
    some true) (
    obind3 (w_toMatrix a0 a1 a2) fun (r2 : Int) (r3 : Int) (r4 : List F) =>
    obind5 (s_RootShifted r2 r3 r4 a3) fun (r5 : Int) (r6 : Int) (r7 : F) (r8 : Bool) (r9 : List F) =>
    obind3 (w_toMatrix a0 a1 a2) fun (r10 : Int) (r11 : Int) (r12 : List F) =>
    obind5 (i_RootShifted r10 r11 r12 a3) fun (r13 : Int) (r14 : Int) (r15 : F) (r16 : Bool) (r17 : List F) =>
    obind (w_eqMatrix r13 r14 r17 r5 r6 r9) fun (r18 : Bool) =>
    bsel r18 (
      olet (fwiden r15) fun (x19 : F) =>
      olet (fwiden r7) fun (x20 : F) =>
      obind (w_sameFloat x19 x20) fun (r21 : Bool) =>
      bsel r21 (
        bsel (!(r16 == r8)) (
          some false) (
          obind3 (w_toMatrix a0 a1 a2) fun (r22 : Int) (r23 : Int) (r24 : List F) =>
          obind (w_eqMatrix r10 r11 r12 r22 r23 r24) fun (r25 : Bool) =>
          bsel r25 (
            obind2 (w_markMatrix_02o r10 r11 1 r12) fun (r26 : Int) (r27 : List F) =>
            need (decide (r27.length = r12.length)) <|
            bsel (decide (r26 < 0)) (
              some false) (
              obind (w_eqMatrix r13 r14 r17 r5 r6 r9) fun (r28 : Bool) =>
              bsel r28 (
                olet (fwiden r15) fun (x29 : F) =>
                olet (fwiden r7) fun (x30 : F) =>
                obind (w_sameFloat x29 x30) fun (r31 : Bool) =>
                bsel r31 (
                  obind2 (w_markMatrix_02o r13 r14 1 r17) fun (r32 : Int) (r33 : List F) =>
                  need (decide (r33.length = r17.length)) <|
                  obind (w_heldMatrix r13 r14 r33 1) fun (r34 : Int) =>
                  bsel (decide (r34 < 0)) (
                    some false) (
                    bsel (!decide (r34 = r32)) (
                      some false) (
                      obind3 (w_toMatrix a0 a1 a2) fun (r35 : Int) (r36 : Int) (r37 : List F) =>
                      obind5 (i_RootShifted r35 r36 r37 a3) fun (r38 : Int) (r39 : Int) (r40 : F) (r41 : Bool) (r42 : List F) =>
                      obind (w_eqMatrix r38 r39 r42 r5 r6 r9) fun (r43 : Bool) =>
                      bsel r43 (
                        olet (fwiden r40) fun (x44 : F) =>
                        olet (fwiden r7) fun (x45 : F) =>
                        obind (w_sameFloat x44 x45) fun (r46 : Bool) =>
                        bsel r46 (
                          bsel (!(r41 == r8)) (
                            some false) (
                            obind (w_heldMatrix r13 r14 r33 1) fun (r47 : Int) =>
                            bsel (decide (r47 < 0)) (
                              some false) (
                              bsel (!decide (r47 = r32)) (
                                some false) (
                                some true)))) (
                          some false)) (
                        some false)))) (
                  some false)) (
                some false))) (
            some false))) (
        some false)) (
      some false))
theorem w_FnExactRootShifted_ok (a0 : Int) (a1 : Int) (a2 : List F) (a3 : F) (q0 : Bool) (h : w_FnExactRootShifted a0 a1 a2 a3 = some q0) : Ev Try.prog 4 [AV.agg [AV.i64 a0, AV.i64 a1, AV.sl a2.length (a2.map AV.f32)], AV.f32 a3] [] (AV.b q0) [] := by
  refine Ev.start Try.func4 rfl rfl 7 (τ := [(0, AV.agg [AV.i64 a0, AV.i64 a1, AV.sl a2.length (a2.map AV.f32)]), (1, AV.f32 a3)]) rfl (Γ' := [⟨0, none⟩, ⟨0, none⟩, ⟨0, none⟩, ⟨0, none⟩, ⟨0, none⟩, ⟨0, none⟩, ⟨0, none⟩]) rfl (n := 131) rfl (g := 0) rfl ?_
  unfold w_FnExactRootShifted at h
  refine RunC.seq ?_
  refine RunC.regionW ?_
  refine ROps.d (r := AV.ptr [AV.i64 a0, AV.i64 a1, AV.sl a2.length (a2.map AV.f32)]) (fs := []) (Γ' := [⟨0, none⟩, ⟨0, none⟩, ⟨0, none⟩, ⟨0, none⟩, ⟨0, none⟩, ⟨0, none⟩, ⟨0, none⟩]) rfl rfl rfl (TOp.box_s rfl rfl rfl) rfl ?_
  refine ROps.l (r := AV.b false) rfl rfl rfl (LOp.assign rfl rfl) ?_
  refine ROps.nil ?_
  refine RunC.seq ?_
  refine RunC.regionW ?_
  refine ROps.l (r := AV.i64 1048576) rfl rfl rfl (LOp.assign rfl rfl) ?_
  refine ROps.nil ?_
  refine RunC.seq ?_
  obtain ⟨r1, hf1, h⟩ := obind_some h
  refine RunC.regionW ?_
  refine ROps.l (r := AV.agg [AV.i64 a0, AV.i64 a1, AV.sl a2.length (a2.map AV.f32)]) rfl rfl rfl (LOp.loadAgg agg24 siz24 rfl rfl rfl rfl) ?_
  refine ROps.l (r := AV.i64 1048576) rfl rfl rfl (LOp.move rfl rfl) ?_
  refine ROps.d (r := AV.i64 r1) (fs := []) (Γ' := [⟨0, none⟩, ⟨0, none⟩, ⟨0, none⟩, ⟨0, none⟩, ⟨0, none⟩, ⟨0, none⟩, ⟨0, none⟩]) rfl rfl rfl (TOp.callB (CallAs.func ent9 rfl rfl) (Bors.cons (Bor.agg (Bors.cons (Bor.pure rfl) (Bors.cons (Bor.pure rfl) (Bors.cons (Bor.sl (fun _ => rfl)) Bors.nil)))) (Bors.cons (Bor.pure rfl) Bors.nil)) rfl rfl (w_szMatrix_ok a0 a1 a2 1048576 r1 hf1)) rfl ?_
  refine ROps.l (r := AV.i64 r1) rfl rfl rfl (LOp.assign rfl rfl) ?_
  refine ROps.nil ?_
  refine RunC.seq ?_
  refine RunC.seq ?_
  rcases bsel_some h with ⟨hc2, h⟩ | ⟨hc2, h⟩
  · refine RunC.regionW ?_
    refine ROps.l (r := AV.i64 r1) rfl rfl rfl (LOp.move rfl rfl) ?_
    refine ROps.l (r := AV.b true) rfl rfl rfl (LOp.eqb (LOp.lss rfl rfl rfl) hc2) ?_
    refine ROps.nil ?_
    refine RunC.cond_true rfl rfl ?_
    refine RunC.seq ?_
    refine RunC.regionW ?_
    refine ROps.l (r := AV.b true) rfl rfl rfl (LOp.assign rfl rfl) ?_
    refine ROps.nil ?_
    refine RunC.ret ?_
    have hq := Option.some.inj h
    subst q0
    exact bodyQ.pure (.inr rfl) rfl (Res.one rfl (RV.tmp rfl))
  · refine RunC.regionW ?_
    refine ROps.l (r := AV.i64 r1) rfl rfl rfl (LOp.move rfl rfl) ?_
    refine ROps.l (r := AV.b false) rfl rfl rfl (LOp.eqb (LOp.lss rfl rfl rfl) hc2) ?_
    refine ROps.nil ?_
    refine RunC.cond_false rfl rfl ?_
    refine RunC.skip ?_
    refine RunC.seq ?_
    obtain ⟨r2, r3, r4, hf3, h⟩ := obind3_some h
    obtain ⟨r5, r6, r7, r8, r9, hf4, h⟩ := obind5_some h
    refine RunC.regionW ?_
    refine ROps.l (r := AV.agg [AV.i64 a0, AV.i64 a1, AV.sl a2.length (a2.map AV.f32)]) rfl rfl rfl (LOp.loadAgg agg24 siz24 rfl rfl rfl rfl) ?_
    refine ROps.d (r := AV.agg [AV.i64 r2, AV.i64 r3, AV.oref 0 1 0 r4.length]) (fs := [(0, (r4.map AV.f32))]) (Γ' := [⟨1, some (r4.map AV.f32)⟩, ⟨0, none⟩, ⟨0, none⟩, ⟨0, none⟩, ⟨0, none⟩, ⟨0, none⟩, ⟨0, none⟩]) rfl rfl rfl (TOp.callBN (ls := [(r4.map AV.f32)]) [0] (CallAs.func ent11 rfl rfl) (Bors.cons (Bor.agg (Bors.cons (Bor.pure rfl) (Bors.cons (Bor.pure rfl) (Bors.cons (Bor.sl (fun _ => rfl)) Bors.nil)))) Bors.nil) rfl (w_toMatrix_ok a0 a1 a2 r2 r3 r4 hf3) (and_all (lts0_map (f := AV.f32) (fun _ => rfl) _) rfl) (and_all (noss_map (f := AV.f32) (fun _ => rfl) _) rfl) rfl (by decide) (ns_of ⟨⟨_, rfl⟩, trivial⟩)) rfl ?_
    refine ROps.l (r := AV.f32 a3) rfl rfl rfl (LOp.move rfl rfl) ?_
    refine ROps.d (r := AV.tup [AV.agg [AV.i64 r5, AV.i64 r6, AV.oref 1 1 0 r9.length], AV.f32 r7, AV.b r8]) (fs := [(1, (r9.map AV.f32))]) (Γ' := [⟨1, some (r4.map AV.f32)⟩, ⟨1, some (r9.map AV.f32)⟩, ⟨0, none⟩, ⟨0, none⟩, ⟨0, none⟩, ⟨0, none⟩, ⟨0, none⟩]) rfl rfl rfl (TOp.callBN (ls := [(r9.map AV.f32)]) [1] (CallAs.func ent19 rfl rfl) (Bors.cons (Bor.agg (Bors.cons (Bor.pure rfl) (Bors.cons (Bor.pure rfl) (Bors.cons (Bor.own (f := AV.f32) (fun _ => rfl) rfl rfl) Bors.nil)))) (Bors.cons (Bor.pure rfl) Bors.nil)) rfl (s_RootShifted_ok r2 r3 r4 a3 r5 r6 r7 r8 r9 hf4) (and_all (lts0_map (f := AV.f32) (fun _ => rfl) _) rfl) (and_all (noss_map (f := AV.f32) (fun _ => rfl) _) rfl) rfl (by decide) (ns_of ⟨⟨_, rfl⟩, trivial⟩)) rfl ?_
    refine ROps.l (r := AV.tup [AV.agg [AV.i64 r5, AV.i64 r6, AV.oref 1 1 0 r9.length], AV.f32 r7, AV.b r8]) rfl rfl rfl (LOp.move rfl rfl) ?_
    refine ROps.l (r := AV.agg [AV.i64 r5, AV.i64 r6, AV.oref 1 1 0 r9.length]) rfl rfl rfl (LOp.extract rfl rfl rfl) ?_
    refine ROps.l (r := AV.f32 r7) rfl rfl rfl (LOp.extract rfl rfl rfl) ?_
    refine ROps.l (r := AV.b r8) rfl rfl rfl (LOp.extract rfl rfl rfl) ?_
    refine ROps.d (r := AV.optr 2 1 0) (fs := [(2, [AV.i64 0, AV.i64 0, AV.nilsl])]) (Γ' := [⟨1, some (r4.map AV.f32)⟩, ⟨1, some (r9.map AV.f32)⟩, ⟨1, some [AV.i64 0, AV.i64 0, AV.nilsl]⟩, ⟨0, none⟩, ⟨0, none⟩, ⟨0, none⟩, ⟨0, none⟩]) rfl rfl rfl (TOp.alloc_o (g := ⟨0, none⟩) 2 rfl zer27 zok27 rfl) rfl ?_
    refine ROps.store_le (r := AV.agg [AV.i64 r5, AV.i64 r6, AV.oref 1 1 0 r9.length]) (l' := [AV.i64 r5, AV.i64 r6, AV.oref 1 1 0 r9.length]) (Γ' := [⟨1, some (r4.map AV.f32)⟩, ⟨1, some (r9.map AV.f32)⟩, ⟨1, some [AV.i64 r5, AV.i64 r6, AV.oref 1 1 0 r9.length]⟩, ⟨0, none⟩, ⟨0, none⟩, ⟨0, none⟩, ⟨0, none⟩]) rfl siz27 rfl rfl rfl (ALe.refl _) rfl rfl rfl rfl (Nat.le_of_ble_eq_true rfl) rfl rfl ?_
    refine ROps.l (r := AV.f32 r7) rfl rfl rfl (LOp.assign rfl rfl) ?_
    refine ROps.l (r := AV.b r8) rfl rfl rfl (LOp.assign rfl rfl) ?_
    refine ROps.nil ?_
    refine RunC.wl (τ' := [(1, AV.f32 a3), (2, AV.ptr [AV.i64 a0, AV.i64 a1, AV.sl a2.length (a2.map AV.f32)]), (6, AV.optr 2 1 0), (7, AV.f32 r7), (8, AV.b r8)]) (Γ' := [⟨1, none⟩, ⟨1, some (r9.map AV.f32)⟩, ⟨1, some [AV.i64 r5, AV.i64 r6, AV.oref 1 1 0 r9.length]⟩, ⟨0, none⟩, ⟨0, none⟩, ⟨0, none⟩, ⟨0, none⟩]) ⟨(ALe.refl _), (ALe.refl _), (ALe.refl _), (ALe.refl _), (ALe.refl _), trivial⟩ ⟨⟨rfl, .inl rfl⟩, ⟨rfl, .inr rfl⟩, ⟨rfl, .inr rfl⟩, ⟨rfl, .inr rfl⟩, ⟨rfl, .inr rfl⟩, ⟨rfl, .inr rfl⟩, ⟨rfl, .inr rfl⟩, trivial⟩ ?_
    refine RunC.seq ?_
    obtain ⟨r10, r11, r12, hf5, h⟩ := obind3_some h
    refine RunC.regionW ?_
    refine ROps.l (r := AV.agg [AV.i64 a0, AV.i64 a1, AV.sl a2.length (a2.map AV.f32)]) rfl rfl rfl (LOp.loadAgg agg24 siz24 rfl rfl rfl rfl) ?_
    refine ROps.d (r := AV.agg [AV.i64 r10, AV.i64 r11, AV.oref 0 2 0 r12.length]) (fs := [(0, (r12.map AV.f32))]) (Γ' := [⟨2, some (r12.map AV.f32)⟩, ⟨1, some (r9.map AV.f32)⟩, ⟨1, some [AV.i64 r5, AV.i64 r6, AV.oref 1 1 0 r9.length]⟩, ⟨0, none⟩, ⟨0, none⟩, ⟨0, none⟩, ⟨0, none⟩]) rfl rfl rfl (TOp.callBN (ls := [(r12.map AV.f32)]) [0] (CallAs.func ent11 rfl rfl) (Bors.cons (Bor.agg (Bors.cons (Bor.pure rfl) (Bors.cons (Bor.pure rfl) (Bors.cons (Bor.sl (fun _ => rfl)) Bors.nil)))) Bors.nil) rfl (w_toMatrix_ok a0 a1 a2 r10 r11 r12 hf5) (and_all (lts0_map (f := AV.f32) (fun _ => rfl) _) rfl) (and_all (noss_map (f := AV.f32) (fun _ => rfl) _) rfl) rfl (by decide) (ns_of ⟨⟨_, rfl⟩, trivial⟩)) rfl ?_
    refine ROps.d (r := AV.optr 3 1 0) (fs := [(3, [AV.i64 0, AV.i64 0, AV.nilsl])]) (Γ' := [⟨2, some (r12.map AV.f32)⟩, ⟨1, some (r9.map AV.f32)⟩, ⟨1, some [AV.i64 r5, AV.i64 r6, AV.oref 1 1 0 r9.length]⟩, ⟨1, some [AV.i64 0, AV.i64 0, AV.nilsl]⟩, ⟨0, none⟩, ⟨0, none⟩, ⟨0, none⟩]) rfl rfl rfl (TOp.alloc_o (g := ⟨0, none⟩) 3 rfl zer27 zok27 rfl) rfl ?_
    refine ROps.store_le (r := AV.agg [AV.i64 r10, AV.i64 r11, AV.oref 0 2 0 r12.length]) (l' := [AV.i64 r10, AV.i64 r11, AV.oref 0 2 0 r12.length]) (Γ' := [⟨2, some (r12.map AV.f32)⟩, ⟨1, some (r9.map AV.f32)⟩, ⟨1, some [AV.i64 r5, AV.i64 r6, AV.oref 1 1 0 r9.length]⟩, ⟨1, some [AV.i64 r10, AV.i64 r11, AV.oref 0 2 0 r12.length]⟩, ⟨0, none⟩, ⟨0, none⟩, ⟨0, none⟩]) rfl siz27 rfl rfl rfl (ALe.refl _) rfl rfl rfl rfl (Nat.le_of_ble_eq_true rfl) rfl rfl ?_
    refine ROps.nil ?_
    refine RunC.seq ?_
    obtain ⟨r13, r14, r15, r16, r17, hf6, h⟩ := obind5_some h
    refine RunC.regionW ?_
    refine ROps.d (r := AV.agg [AV.i64 r10, AV.i64 r11, AV.oref 0 2 0 r12.length]) (fs := []) (Γ' := [⟨2, some (r12.map AV.f32)⟩, ⟨1, some (r9.map AV.f32)⟩, ⟨1, some [AV.i64 r5, AV.i64 r6, AV.oref 1 1 0 r9.length]⟩, ⟨1, some [AV.i64 r10, AV.i64 r11, AV.oref 0 2 0 r12.length]⟩, ⟨0, none⟩, ⟨0, none⟩, ⟨0, none⟩]) rfl rfl rfl (TOp.loadAgg_o rfl agg27 siz27 rfl rfl rfl rfl) rfl ?_
    refine ROps.l (r := AV.f32 a3) rfl rfl rfl (LOp.move rfl rfl) ?_
    refine ROps.d (r := AV.tup [AV.agg [AV.i64 r13, AV.i64 r14, AV.oref 4 1 0 r17.length], AV.f32 r15, AV.b r16]) (fs := [(4, (r17.map AV.f32))]) (Γ' := [⟨2, some (r12.map AV.f32)⟩, ⟨1, some (r9.map AV.f32)⟩, ⟨1, some [AV.i64 r5, AV.i64 r6, AV.oref 1 1 0 r9.length]⟩, ⟨1, some [AV.i64 r10, AV.i64 r11, AV.oref 0 2 0 r12.length]⟩, ⟨1, some (r17.map AV.f32)⟩, ⟨0, none⟩, ⟨0, none⟩]) rfl rfl rfl (TOp.callBN (ls := [(r17.map AV.f32)]) [4] (CallAs.func ent20 rfl rfl) (Bors.cons (Bor.agg (Bors.cons (Bor.pure rfl) (Bors.cons (Bor.pure rfl) (Bors.cons (Bor.own (f := AV.f32) (fun _ => rfl) rfl rfl) Bors.nil)))) (Bors.cons (Bor.pure rfl) Bors.nil)) rfl (i_RootShifted_ok r10 r11 r12 a3 r13 r14 r15 r16 r17 hf6) (and_all (lts0_map (f := AV.f32) (fun _ => rfl) _) rfl) (and_all (noss_map (f := AV.f32) (fun _ => rfl) _) rfl) rfl (by decide) (ns_of ⟨⟨_, rfl⟩, trivial⟩)) rfl ?_
    refine ROps.l (r := AV.tup [AV.agg [AV.i64 r13, AV.i64 r14, AV.oref 4 1 0 r17.length], AV.f32 r15, AV.b r16]) rfl rfl rfl (LOp.move rfl rfl) ?_
    refine ROps.l (r := AV.agg [AV.i64 r13, AV.i64 r14, AV.oref 4 1 0 r17.length]) rfl rfl rfl (LOp.extract rfl rfl rfl) ?_
    refine ROps.l (r := AV.f32 r15) rfl rfl rfl (LOp.extract rfl rfl rfl) ?_
    refine ROps.l (r := AV.b r16) rfl rfl rfl (LOp.extract rfl rfl rfl) ?_
    refine ROps.d (r := AV.optr 5 1 0) (fs := [(5, [AV.i64 0, AV.i64 0, AV.nilsl])]) (Γ' := [⟨2, some (r12.map AV.f32)⟩, ⟨1, some (r9.map AV.f32)⟩, ⟨1, some [AV.i64 r5, AV.i64 r6, AV.oref 1 1 0 r9.length]⟩, ⟨1, some [AV.i64 r10, AV.i64 r11, AV.oref 0 2 0 r12.length]⟩, ⟨1, some (r17.map AV.f32)⟩, ⟨1, some [AV.i64 0, AV.i64 0, AV.nilsl]⟩, ⟨0, none⟩]) rfl rfl rfl (TOp.alloc_o (g := ⟨0, none⟩) 5 rfl zer27 zok27 rfl) rfl ?_
    refine ROps.store_le (r := AV.agg [AV.i64 r13, AV.i64 r14, AV.oref 4 1 0 r17.length]) (l' := [AV.i64 r13, AV.i64 r14, AV.oref 4 1 0 r17.length]) (Γ' := [⟨2, some (r12.map AV.f32)⟩, ⟨1, some (r9.map AV.f32)⟩, ⟨1, some [AV.i64 r5, AV.i64 r6, AV.oref 1 1 0 r9.length]⟩, ⟨1, some [AV.i64 r10, AV.i64 r11, AV.oref 0 2 0 r12.length]⟩, ⟨1, some (r17.map AV.f32)⟩, ⟨1, some [AV.i64 r13, AV.i64 r14, AV.oref 4 1 0 r17.length]⟩, ⟨0, none⟩]) rfl siz27 rfl rfl rfl (ALe.refl _) rfl rfl rfl rfl (Nat.le_of_ble_eq_true rfl) rfl rfl ?_
    refine ROps.l (r := AV.f32 r15) rfl rfl rfl (LOp.assign rfl rfl) ?_
    refine ROps.l (r := AV.b r16) rfl rfl rfl (LOp.assign rfl rfl) ?_
    refine ROps.nil ?_
    refine RunC.seq ?_
    refine RunC.seq ?_
    obtain ⟨r18, hf7, h⟩ := obind_some h
    rcases bsel_some h with ⟨hc8, h⟩ | ⟨hc8, h⟩
    · obtain ⟨x19, hx9, h⟩ := olet_some h
      obtain ⟨x20, hx10, h⟩ := olet_some h
      obtain ⟨r21, hf11, h⟩ := obind_some h
      rcases bsel_some h with ⟨hc12, h⟩ | ⟨hc12, h⟩
      · rcases bsel_some h with ⟨hc13, h⟩ | ⟨hc13, h⟩
        · refine RunC.regionW ?_
          refine ROps.d (r := AV.agg [AV.i64 r13, AV.i64 r14, AV.oref 4 1 0 r17.length]) (fs := []) (Γ' := [⟨2, some (r12.map AV.f32)⟩, ⟨1, some (r9.map AV.f32)⟩, ⟨1, some [AV.i64 r5, AV.i64 r6, AV.oref 1 1 0 r9.length]⟩, ⟨1, some [AV.i64 r10, AV.i64 r11, AV.oref 0 2 0 r12.length]⟩, ⟨1, some (r17.map AV.f32)⟩, ⟨1, some [AV.i64 r13, AV.i64 r14, AV.oref 4 1 0 r17.length]⟩, ⟨0, none⟩]) rfl rfl rfl (TOp.loadAgg_o rfl agg27 siz27 rfl rfl rfl rfl) rfl ?_
          refine ROps.d (r := AV.agg [AV.i64 r5, AV.i64 r6, AV.oref 1 1 0 r9.length]) (fs := []) (Γ' := [⟨2, some (r12.map AV.f32)⟩, ⟨1, some (r9.map AV.f32)⟩, ⟨1, some [AV.i64 r5, AV.i64 r6, AV.oref 1 1 0 r9.length]⟩, ⟨1, some [AV.i64 r10, AV.i64 r11, AV.oref 0 2 0 r12.length]⟩, ⟨1, some (r17.map AV.f32)⟩, ⟨1, some [AV.i64 r13, AV.i64 r14, AV.oref 4 1 0 r17.length]⟩, ⟨0, none⟩]) rfl rfl rfl (TOp.loadAgg_o rfl agg27 siz27 rfl rfl rfl rfl) rfl ?_
          refine ROps.d (r := AV.b true) (fs := []) (Γ' := [⟨2, some (r12.map AV.f32)⟩, ⟨1, some (r9.map AV.f32)⟩, ⟨1, some [AV.i64 r5, AV.i64 r6, AV.oref 1 1 0 r9.length]⟩, ⟨1, some [AV.i64 r10, AV.i64 r11, AV.oref 0 2 0 r12.length]⟩, ⟨1, some (r17.map AV.f32)⟩, ⟨1, some [AV.i64 r13, AV.i64 r14, AV.oref 4 1 0 r17.length]⟩, ⟨0, none⟩]) rfl rfl rfl (TOp.eqb (TOp.callB (CallAs.func ent13 rfl rfl) (Bors.cons (Bor.agg (Bors.cons (Bor.pure rfl) (Bors.cons (Bor.pure rfl) (Bors.cons (Bor.own (f := AV.f32) (fun _ => rfl) rfl rfl) Bors.nil)))) (Bors.cons (Bor.agg (Bors.cons (Bor.pure rfl) (Bors.cons (Bor.pure rfl) (Bors.cons (Bor.own (f := AV.f32) (fun _ => rfl) rfl rfl) Bors.nil)))) Bors.nil)) rfl rfl (w_eqMatrix_ok r13 r14 r17 r5 r6 r9 r18 hf7)) hc8) rfl ?_
          refine ROps.l (r := AV.b false) rfl rfl rfl (LOp.eqb (LOp.not rfl rfl) rfl) ?_
          refine ROps.l (r := AV.b false) rfl rfl rfl (LOp.move rfl rfl) ?_
          refine ROps.l (r := AV.f32 r15) rfl rfl rfl (LOp.move rfl rfl) ?_
          refine ROps.d (r := AV.f64 x19) (fs := []) (Γ' := [⟨2, some (r12.map AV.f32)⟩, ⟨1, some (r9.map AV.f32)⟩, ⟨1, some [AV.i64 r5, AV.i64 r6, AV.oref 1 1 0 r9.length]⟩, ⟨1, some [AV.i64 r10, AV.i64 r11, AV.oref 0 2 0 r12.length]⟩, ⟨1, some (r17.map AV.f32)⟩, ⟨1, some [AV.i64 r13, AV.i64 r14, AV.oref 4 1 0 r17.length]⟩, ⟨0, none⟩]) rfl rfl rfl (TOp.eqr (TOp.widen (src := 25) (dst := 40) ⟨_, pun25⟩ pun40 rfl (OpF.tmp rfl)) (congrArg (AV.f .f64) hx9)) rfl ?_
          refine ROps.l (r := AV.f32 r7) rfl rfl rfl (LOp.move rfl rfl) ?_
          refine ROps.d (r := AV.f64 x20) (fs := []) (Γ' := [⟨2, some (r12.map AV.f32)⟩, ⟨1, some (r9.map AV.f32)⟩, ⟨1, some [AV.i64 r5, AV.i64 r6, AV.oref 1 1 0 r9.length]⟩, ⟨1, some [AV.i64 r10, AV.i64 r11, AV.oref 0 2 0 r12.length]⟩, ⟨1, some (r17.map AV.f32)⟩, ⟨1, some [AV.i64 r13, AV.i64 r14, AV.oref 4 1 0 r17.length]⟩, ⟨0, none⟩]) rfl rfl rfl (TOp.eqr (TOp.widen (src := 25) (dst := 40) ⟨_, pun25⟩ pun40 rfl (OpF.tmp rfl)) (congrArg (AV.f .f64) hx10)) rfl ?_
          refine ROps.d (r := AV.b true) (fs := []) (Γ' := [⟨2, some (r12.map AV.f32)⟩, ⟨1, some (r9.map AV.f32)⟩, ⟨1, some [AV.i64 r5, AV.i64 r6, AV.oref 1 1 0 r9.length]⟩, ⟨1, some [AV.i64 r10, AV.i64 r11, AV.oref 0 2 0 r12.length]⟩, ⟨1, some (r17.map AV.f32)⟩, ⟨1, some [AV.i64 r13, AV.i64 r14, AV.oref 4 1 0 r17.length]⟩, ⟨0, none⟩]) rfl rfl rfl (TOp.eqb (TOp.callB (CallAs.func ent21 rfl rfl) (Bors.cons (Bor.pure rfl) (Bors.cons (Bor.pure rfl) Bors.nil)) rfl rfl (w_sameFloat_ok x19 x20 r21 hf11)) hc12) rfl ?_
          refine ROps.l (r := AV.b false) rfl rfl rfl (LOp.eqb (LOp.not rfl rfl) rfl) ?_
          refine ROps.l (r := AV.b false) rfl rfl rfl (LOp.pick_false rfl rfl rfl) ?_
          refine ROps.l (r := AV.b false) rfl rfl rfl (LOp.move rfl rfl) ?_
          refine ROps.l (r := AV.b r16) rfl rfl rfl (LOp.move rfl rfl) ?_
          refine ROps.l (r := AV.b r8) rfl rfl rfl (LOp.move rfl rfl) ?_
          refine ROps.l (r := AV.b true) rfl rfl rfl (LOp.eqb (LOp.neqb pun4 rfl rfl rfl) hc13) ?_
          refine ROps.l (r := AV.b true) rfl rfl rfl (LOp.pick_false rfl rfl rfl) ?_
          refine ROps.nil ?_
          refine RunC.cond_true rfl rfl ?_
          refine RunC.seq ?_
          refine RunC.regionW ?_
          refine ROps.l (r := AV.b false) rfl rfl rfl (LOp.assign rfl rfl) ?_
          refine ROps.nil ?_
          refine RunC.ret ?_
          have hq := Option.some.inj h
          subst q0
          exact bodyQ.pure (.inr rfl) rfl (Res.one rfl (RV.tmp rfl))
        · refine RunC.regionW ?_
          refine ROps.d (r := AV.agg [AV.i64 r13, AV.i64 r14, AV.oref 4 1 0 r17.length]) (fs := []) (Γ' := [⟨2, some (r12.map AV.f32)⟩, ⟨1, some (r9.map AV.f32)⟩, ⟨1, some [AV.i64 r5, AV.i64 r6, AV.oref 1 1 0 r9.length]⟩, ⟨1, some [AV.i64 r10, AV.i64 r11, AV.oref 0 2 0 r12.length]⟩, ⟨1, some (r17.map AV.f32)⟩, ⟨1, some [AV.i64 r13, AV.i64 r14, AV.oref 4 1 0 r17.length]⟩, ⟨0, none⟩]) rfl rfl rfl (TOp.loadAgg_o rfl agg27 siz27 rfl rfl rfl rfl) rfl ?_
          refine ROps.d (r := AV.agg [AV.i64 r5, AV.i64 r6, AV.oref 1 1 0 r9.length]) (fs := []) (Γ' := [⟨2, some (r12.map AV.f32)⟩, ⟨1, some (r9.map AV.f32)⟩, ⟨1, some [AV.i64 r5, AV.i64 r6, AV.oref 1 1 0 r9.length]⟩, ⟨1, some [AV.i64 r10, AV.i64 r11, AV.oref 0 2 0 r12.length]⟩, ⟨1, some (r17.map AV.f32)⟩, ⟨1, some [AV.i64 r13, AV.i64 r14, AV.oref 4 1 0 r17.length]⟩, ⟨0, none⟩]) rfl rfl rfl (TOp.loadAgg_o rfl agg27 siz27 rfl rfl rfl rfl) rfl ?_
          refine ROps.d (r := AV.b true) (fs := []) (Γ' := [⟨2, some (r12.map AV.f32)⟩, ⟨1, some (r9.map AV.f32)⟩, ⟨1, some [AV.i64 r5, AV.i64 r6, AV.oref 1 1 0 r9.length]⟩, ⟨1, some [AV.i64 r10, AV.i64 r11, AV.oref 0 2 0 r12.length]⟩, ⟨1, some (r17.map AV.f32)⟩, ⟨1, some [AV.i64 r13, AV.i64 r14, AV.oref 4 1 0 r17.length]⟩, ⟨0, none⟩]) rfl rfl rfl (TOp.eqb (TOp.callB (CallAs.func ent13 rfl rfl) (Bors.cons (Bor.agg (Bors.cons (Bor.pure rfl) (Bors.cons (Bor.pure rfl) (Bors.cons (Bor.own (f := AV.f32) (fun _ => rfl) rfl rfl) Bors.nil)))) (Bors.cons (Bor.agg (Bors.cons (Bor.pure rfl) (Bors.cons (Bor.pure rfl) (Bors.cons (Bor.own (f := AV.f32) (fun _ => rfl) rfl rfl) Bors.nil)))) Bors.nil)) rfl rfl (w_eqMatrix_ok r13 r14 r17 r5 r6 r9 r18 hf7)) hc8) rfl ?_
          refine ROps.l (r := AV.b false) rfl rfl rfl (LOp.eqb (LOp.not rfl rfl) rfl) ?_
          refine ROps.l (r := AV.b false) rfl rfl rfl (LOp.move rfl rfl) ?_
          refine ROps.l (r := AV.f32 r15) rfl rfl rfl (LOp.move rfl rfl) ?_
          refine ROps.d (r := AV.f64 x19) (fs := []) (Γ' := [⟨2, some (r12.map AV.f32)⟩, ⟨1, some (r9.map AV.f32)⟩, ⟨1, some [AV.i64 r5, AV.i64 r6, AV.oref 1 1 0 r9.length]⟩, ⟨1, some [AV.i64 r10, AV.i64 r11, AV.oref 0 2 0 r12.length]⟩, ⟨1, some (r17.map AV.f32)⟩, ⟨1, some [AV.i64 r13, AV.i64 r14, AV.oref 4 1 0 r17.length]⟩, ⟨0, none⟩]) rfl rfl rfl (TOp.eqr (TOp.widen (src := 25) (dst := 40) ⟨_, pun25⟩ pun40 rfl (OpF.tmp rfl)) (congrArg (AV.f .f64) hx9)) rfl ?_
          refine ROps.l (r := AV.f32 r7) rfl rfl rfl (LOp.move rfl rfl) ?_
          refine ROps.d (r := AV.f64 x20) (fs := []) (Γ' := [⟨2, some (r12.map AV.f32)⟩, ⟨1, some (r9.map AV.f32)⟩, ⟨1, some [AV.i64 r5, AV.i64 r6, AV.oref 1 1 0 r9.length]⟩, ⟨1, some [AV.i64 r10, AV.i64 r11, AV.oref 0 2 0 r12.length]⟩, ⟨1, some (r17.map AV.f32)⟩, ⟨1, some [AV.i64 r13, AV.i64 r14, AV.oref 4 1 0 r17.length]⟩, ⟨0, none⟩]) rfl rfl rfl (TOp.eqr (TOp.widen (src := 25) (dst := 40) ⟨_, pun25⟩ pun40 rfl (OpF.tmp rfl)) (congrArg (AV.f .f64) hx10)) rfl ?_
          refine ROps.d (r := AV.b true) (fs := []) (Γ' := [⟨2, some (r12.map AV.f32)⟩, ⟨1, some (r9.map AV.f32)⟩, ⟨1, some [AV.i64 r5, AV.i64 r6, AV.oref 1 1 0 r9.length]⟩, ⟨1, some [AV.i64 r10, AV.i64 r11, AV.oref 0 2 0 r12.length]⟩, ⟨1, some (r17.map AV.f32)⟩, ⟨1, some [AV.i64 r13, AV.i64 r14, AV.oref 4 1 0 r17.length]⟩, ⟨0, none⟩]) rfl rfl rfl (TOp.eqb (TOp.callB (CallAs.func ent21 rfl rfl) (Bors.cons (Bor.pure rfl) (Bors.cons (Bor.pure rfl) Bors.nil)) rfl rfl (w_sameFloat_ok x19 x20 r21 hf11)) hc12) rfl ?_
          refine ROps.l (r := AV.b false) rfl rfl rfl (LOp.eqb (LOp.not rfl rfl) rfl) ?_
          refine ROps.l (r := AV.b false) rfl rfl rfl (LOp.pick_false rfl rfl rfl) ?_
          refine ROps.l (r := AV.b false) rfl rfl rfl (LOp.move rfl rfl) ?_
          refine ROps.l (r := AV.b r16) rfl rfl rfl (LOp.move rfl rfl) ?_
          refine ROps.l (r := AV.b r8) rfl rfl rfl (LOp.move rfl rfl) ?_
          refine ROps.l (r := AV.b false) rfl rfl rfl (LOp.eqb (LOp.neqb pun4 rfl rfl rfl) hc13) ?_
          refine ROps.l (r := AV.b false) rfl rfl rfl (LOp.pick_false rfl rfl rfl) ?_
          refine ROps.nil ?_
          refine RunC.cond_false rfl rfl ?_
          refine RunC.skip ?_
          refine RunC.seq ?_
          refine RunC.seq ?_
          obtain ⟨r22, r23, r24, hf14, h⟩ := obind3_some h
          obtain ⟨r25, hf15, h⟩ := obind_some h
          rcases bsel_some h with ⟨hc16, h⟩ | ⟨hc16, h⟩
          · refine RunC.region_draw (Γ' := [⟨2, some (r12.map AV.f32)⟩, ⟨1, some (r9.map AV.f32)⟩, ⟨1, some [AV.i64 r5, AV.i64 r6, AV.oref 1 1 0 r9.length]⟩, ⟨1, some [AV.i64 r10, AV.i64 r11, AV.oref 0 2 0 r12.length]⟩, ⟨1, some (r17.map AV.f32)⟩, ⟨1, some [AV.i64 r13, AV.i64 r14, AV.oref 4 1 0 r17.length]⟩, ⟨0, none⟩]) 5 mixed 
              (TR.d (r := AV.agg [AV.i64 r10, AV.i64 r11, AV.oref 0 2 0 r12.length]) (fs := []) rfl rfl (TOp.loadAgg_o rfl agg27 siz27 rfl rfl rfl rfl) <|
              (TR.l (r := AV.agg [AV.i64 a0, AV.i64 a1, AV.sl a2.length (a2.map AV.f32)]) rfl rfl (LOp.loadAgg agg24 siz24 rfl rfl rfl rfl) <|
              (TR.d (r := AV.agg [AV.i64 r22, AV.i64 r23, AV.sl r24.length (r24.map AV.f32)]) (fs := []) rfl rfl (TOp.callS (CallAs.func ent11 rfl rfl) (ALes.cons (ALe.refl _) ALes.nil) (lts_cons (lt_agg (lts_cons rfl (lts_cons rfl (lts_cons (lt_sl (fun _ => rfl)) lts_nil)))) lts_nil) (lt_agg (lts_cons rfl (lts_cons rfl (lts_cons (lt_sl (fun _ => rfl)) lts_nil)))) (w_toMatrix_ok a0 a1 a2 r22 r23 r24 hf14) (Bor.agg (Bors.cons (Bor.pure rfl) (Bors.cons (Bor.pure rfl) (Bors.cons (Bor.own (f := AV.f32) (fun _ => rfl) rfl rfl) Bors.nil))))) <|
              (TR.d (r := AV.b true) (fs := []) rfl rfl (TOp.eqb (TOp.callB (CallAs.func ent13 rfl rfl) (Bors.cons (Bor.agg (Bors.cons (Bor.pure rfl) (Bors.cons (Bor.pure rfl) (Bors.cons (Bor.own (f := AV.f32) (fun _ => rfl) rfl rfl) Bors.nil)))) (Bors.cons (Bor.agg (Bors.cons (Bor.pure rfl) (Bors.cons (Bor.pure rfl) (Bors.cons (Bor.sl (fun _ => rfl)) Bors.nil)))) Bors.nil)) rfl rfl (w_eqMatrix_ok r10 r11 r12 r22 r23 r24 r25 hf15)) hc16) <|
              (TR.l (r := AV.b false) rfl rfl (LOp.eqb (LOp.not rfl rfl) rfl) <|
              TR.nil))))) rfl (by kernel_rfl) rfl fills_nil rfl ?_
            iterate 5 refine ROps.dropS ?_
            refine ROps.drop0 ?_
            refine ROps.nil ?_
            refine RunC.cond_false rfl rfl ?_
            refine RunC.skip ?_
            refine RunC.seq ?_
            refine RunC.regionW ?_
            refine ROps.l (r := AV.i64 1) rfl rfl rfl (LOp.assign rfl rfl) ?_
            refine ROps.nil ?_
            refine RunC.seq ?_
            obtain ⟨r26, r27, hf17, h⟩ := obind2_some h
            obtain ⟨hn18, h⟩ := need_some h
            refine RunC.regionW ?_
            refine ROps.d (r := AV.agg [AV.i64 r10, AV.i64 r11, AV.oref 0 2 0 r12.length]) (fs := []) (Γ' := [⟨2, some (r12.map AV.f32)⟩, ⟨1, some (r9.map AV.f32)⟩, ⟨1, some [AV.i64 r5, AV.i64 r6, AV.oref 1 1 0 r9.length]⟩, ⟨1, some [AV.i64 r10, AV.i64 r11, AV.oref 0 2 0 r12.length]⟩, ⟨1, some (r17.map AV.f32)⟩, ⟨1, some [AV.i64 r13, AV.i64 r14, AV.oref 4 1 0 r17.length]⟩, ⟨0, none⟩]) rfl rfl rfl (TOp.loadAgg_o rfl agg27 siz27 rfl rfl rfl rfl) rfl ?_
            refine ROps.l (r := AV.i64 1) rfl rfl rfl (LOp.move rfl rfl) ?_
            refine ROps.callO (A := [AV.agg [AV.i64 r10, AV.i64 r11, AV.oref 0 2 0 r12.length], AV.i64 1]) (args := [AV.agg [AV.i64 r10, AV.i64 r11, AV.oref 0 0 0 r12.length], AV.i64 1]) (Γc := [⟨0, some (r12.map AV.f32)⟩]) (Γc' := [⟨0, some (r27.map AV.f32)⟩]) (r' := AV.i64 r26) (Γ' := [⟨2, some (r27.map AV.f32)⟩, ⟨1, some (r9.map AV.f32)⟩, ⟨1, some [AV.i64 r5, AV.i64 r6, AV.oref 1 1 0 r9.length]⟩, ⟨1, some [AV.i64 r10, AV.i64 r11, AV.oref 0 2 0 r12.length]⟩, ⟨1, some (r17.map AV.f32)⟩, ⟨1, some [AV.i64 r13, AV.i64 r14, AV.oref 4 1 0 r17.length]⟩, ⟨0, none⟩]) [(0, 2)] [] rfl (CallAs.func ent15 rfl rfl) rfl rfl (SelOk.of (show List.Nodup [0] from by decide) (SelL.arr0 (f := AV.f32) (fun _ => rfl) rfl trivial)) (live_of ⟨⟨_, _, rfl⟩, trivial⟩) (by simp [AV.ren, AV.rens, sigma, rens_f32, rens_f64, rens_i64, rens_ik, rens_str, rens_cp]) rfl (w_markMatrix_02o_ok r10 r11 1 r12 r26 r27 hf17) rfl (news_of trivial) (show List.Nodup [0] from by decide) (by simp [AV.ren, AV.rens, sigma, of_decide_eq_true hn18]) (by simp [backOb, sigma, AV.ren, AV.rens, rens_f32, rens_f64, rens_i64, rens_ik, rens_str, rens_cp]) ?_
            refine ROps.l (r := AV.i64 r26) rfl rfl rfl (LOp.assign rfl rfl) ?_
            refine ROps.nil ?_
            refine RunC.wl (τ' := [(1, AV.f32 a3), (2, AV.ptr [AV.i64 a0, AV.i64 a1, AV.sl a2.length (a2.map AV.f32)]), (6, AV.optr 2 1 0), (7, AV.f32 r7), (8, AV.b r8), (10, AV.optr 5 1 0), (11, AV.f32 r15), (12, AV.b r16), (13, AV.i64 r26)]) (Γ' := [⟨2, none⟩, ⟨1, some (r9.map AV.f32)⟩, ⟨1, some [AV.i64 r5, AV.i64 r6, AV.oref 1 1 0 r9.length]⟩, ⟨1, none⟩, ⟨1, some (r17.map AV.f32)⟩, ⟨1, some [AV.i64 r13, AV.i64 r14, AV.oref 4 1 0 r17.length]⟩, ⟨0, none⟩]) ⟨(ALe.refl _), (ALe.refl _), (ALe.refl _), (ALe.refl _), (ALe.refl _), (ALe.refl _), (ALe.refl _), (ALe.refl _), (ALe.refl _), trivial⟩ ⟨⟨rfl, .inl rfl⟩, ⟨rfl, .inr rfl⟩, ⟨rfl, .inr rfl⟩, ⟨rfl, .inl rfl⟩, ⟨rfl, .inr rfl⟩, ⟨rfl, .inr rfl⟩, ⟨rfl, .inr rfl⟩, trivial⟩ ?_
            refine RunC.seq ?_
            refine RunC.seq ?_
            rcases bsel_some h with ⟨hc19, h⟩ | ⟨hc19, h⟩
            · refine RunC.regionW ?_
              refine ROps.l (r := AV.i64 r26) rfl rfl rfl (LOp.move rfl rfl) ?_
              refine ROps.l (r := AV.b true) rfl rfl rfl (LOp.eqb (LOp.lss rfl rfl rfl) hc19) ?_
              refine ROps.l (r := AV.b true) rfl rfl rfl (LOp.move rfl rfl) ?_
              refine ROps.s rfl rfl rfl ?_
              refine ROps.s rfl rfl rfl ?_
              refine ROps.s rfl rfl rfl ?_
              refine ROps.s rfl rfl rfl ?_
              refine ROps.l (r := AV.b true) rfl rfl rfl (LOp.pick_true rfl rfl rfl) ?_
              refine ROps.l (r := AV.b true) rfl rfl rfl (LOp.move rfl rfl) ?_
              refine ROps.s rfl rfl rfl ?_
              refine ROps.s rfl rfl rfl ?_
              refine ROps.s rfl rfl rfl ?_
              refine ROps.s rfl rfl rfl ?_
              refine ROps.s rfl rfl rfl ?_
              refine ROps.s rfl rfl rfl ?_
              refine ROps.l (r := AV.b true) rfl rfl rfl (LOp.pick_true rfl rfl rfl) ?_
              refine ROps.l (r := AV.b true) rfl rfl rfl (LOp.move rfl rfl) ?_
              refine ROps.s rfl rfl rfl ?_
              refine ROps.s rfl rfl rfl ?_
              refine ROps.s rfl rfl rfl ?_
              refine ROps.l (r := AV.b true) rfl rfl rfl (LOp.pick_true rfl rfl rfl) ?_
              refine ROps.nil ?_
              refine RunC.wl (τ' := [(1, AV.f32 a3), (2, AV.ptr [AV.i64 a0, AV.i64 a1, AV.sl a2.length (a2.map AV.f32)]), (6, AV.optr 2 1 0), (7, AV.f32 r7), (8, AV.b r8), (10, AV.optr 5 1 0), (86, AV.b true)]) (Γ' := [⟨2, none⟩, ⟨1, some (r9.map AV.f32)⟩, ⟨1, some [AV.i64 r5, AV.i64 r6, AV.oref 1 1 0 r9.length]⟩, ⟨1, none⟩, ⟨1, some (r17.map AV.f32)⟩, ⟨1, some [AV.i64 r13, AV.i64 r14, AV.oref 4 1 0 r17.length]⟩, ⟨0, none⟩]) ⟨(ALe.refl _), (ALe.refl _), (ALe.refl _), (ALe.refl _), (ALe.refl _), (ALe.refl _), (ALe.refl _), trivial⟩ ⟨⟨rfl, .inl rfl⟩, ⟨rfl, .inr rfl⟩, ⟨rfl, .inr rfl⟩, ⟨rfl, .inl rfl⟩, ⟨rfl, .inr rfl⟩, ⟨rfl, .inr rfl⟩, ⟨rfl, .inr rfl⟩, trivial⟩ ?_
              refine RunC.cond_true rfl rfl ?_
              refine RunC.seq ?_
              refine RunC.regionW ?_
              refine ROps.l (r := AV.b false) rfl rfl rfl (LOp.assign rfl rfl) ?_
              refine ROps.nil ?_
              refine RunC.ret ?_
              have hq := Option.some.inj h
              subst q0
              exact bodyQ.pure (.inr rfl) rfl (Res.one rfl (RV.tmp rfl))
            · obtain ⟨r28, hf20, h⟩ := obind_some h
              rcases bsel_some h with ⟨hc21, h⟩ | ⟨hc21, h⟩
              · obtain ⟨x29, hx22, h⟩ := olet_some h
                obtain ⟨x30, hx23, h⟩ := olet_some h
                obtain ⟨r31, hf24, h⟩ := obind_some h
                rcases bsel_some h with ⟨hc25, h⟩ | ⟨hc25, h⟩
                · refine RunC.regionW ?_
                  refine ROps.l (r := AV.i64 r26) rfl rfl rfl (LOp.move rfl rfl) ?_
                  refine ROps.l (r := AV.b false) rfl rfl rfl (LOp.eqb (LOp.lss rfl rfl rfl) hc19) ?_
                  refine ROps.l (r := AV.b false) rfl rfl rfl (LOp.move rfl rfl) ?_
                  refine ROps.d (r := AV.agg [AV.i64 r13, AV.i64 r14, AV.oref 4 1 0 r17.length]) (fs := []) (Γ' := [⟨2, none⟩, ⟨1, some (r9.map AV.f32)⟩, ⟨1, some [AV.i64 r5, AV.i64 r6, AV.oref 1 1 0 r9.length]⟩, ⟨1, none⟩, ⟨1, some (r17.map AV.f32)⟩, ⟨1, some [AV.i64 r13, AV.i64 r14, AV.oref 4 1 0 r17.length]⟩, ⟨0, none⟩]) rfl rfl rfl (TOp.loadAgg_o rfl agg27 siz27 rfl rfl rfl rfl) rfl ?_
                  refine ROps.d (r := AV.agg [AV.i64 r5, AV.i64 r6, AV.oref 1 1 0 r9.length]) (fs := []) (Γ' := [⟨2, none⟩, ⟨1, some (r9.map AV.f32)⟩, ⟨1, some [AV.i64 r5, AV.i64 r6, AV.oref 1 1 0 r9.length]⟩, ⟨1, none⟩, ⟨1, some (r17.map AV.f32)⟩, ⟨1, some [AV.i64 r13, AV.i64 r14, AV.oref 4 1 0 r17.length]⟩, ⟨0, none⟩]) rfl rfl rfl (TOp.loadAgg_o rfl agg27 siz27 rfl rfl rfl rfl) rfl ?_
                  refine ROps.d (r := AV.b true) (fs := []) (Γ' := [⟨2, none⟩, ⟨1, some (r9.map AV.f32)⟩, ⟨1, some [AV.i64 r5, AV.i64 r6, AV.oref 1 1 0 r9.length]⟩, ⟨1, none⟩, ⟨1, some (r17.map AV.f32)⟩, ⟨1, some [AV.i64 r13, AV.i64 r14, AV.oref 4 1 0 r17.length]⟩, ⟨0, none⟩]) rfl rfl rfl (TOp.eqb (TOp.callB (CallAs.func ent13 rfl rfl) (Bors.cons (Bor.agg (Bors.cons (Bor.pure rfl) (Bors.cons (Bor.pure rfl) (Bors.cons (Bor.own (f := AV.f32) (fun _ => rfl) rfl rfl) Bors.nil)))) (Bors.cons (Bor.agg (Bors.cons (Bor.pure rfl) (Bors.cons (Bor.pure rfl) (Bors.cons (Bor.own (f := AV.f32) (fun _ => rfl) rfl rfl) Bors.nil)))) Bors.nil)) rfl rfl (w_eqMatrix_ok r13 r14 r17 r5 r6 r9 r28 hf20)) hc21) rfl ?_
                  refine ROps.l (r := AV.b false) rfl rfl rfl (LOp.eqb (LOp.not rfl rfl) rfl) ?_
                  refine ROps.l (r := AV.b false) rfl rfl rfl (LOp.pick_false rfl rfl rfl) ?_
                  refine ROps.l (r := AV.b false) rfl rfl rfl (LOp.move rfl rfl) ?_
                  refine ROps.l (r := AV.f32 r15) rfl rfl rfl (LOp.move rfl rfl) ?_
                  refine ROps.d (r := AV.f64 x29) (fs := []) (Γ' := [⟨2, none⟩, ⟨1, some (r9.map AV.f32)⟩, ⟨1, some [AV.i64 r5, AV.i64 r6, AV.oref 1 1 0 r9.length]⟩, ⟨1, none⟩, ⟨1, some (r17.map AV.f32)⟩, ⟨1, some [AV.i64 r13, AV.i64 r14, AV.oref 4 1 0 r17.length]⟩, ⟨0, none⟩]) rfl rfl rfl (TOp.eqr (TOp.widen (src := 25) (dst := 40) ⟨_, pun25⟩ pun40 rfl (OpF.tmp rfl)) (congrArg (AV.f .f64) hx22)) rfl ?_
                  refine ROps.l (r := AV.f32 r7) rfl rfl rfl (LOp.move rfl rfl) ?_
                  refine ROps.d (r := AV.f64 x30) (fs := []) (Γ' := [⟨2, none⟩, ⟨1, some (r9.map AV.f32)⟩, ⟨1, some [AV.i64 r5, AV.i64 r6, AV.oref 1 1 0 r9.length]⟩, ⟨1, none⟩, ⟨1, some (r17.map AV.f32)⟩, ⟨1, some [AV.i64 r13, AV.i64 r14, AV.oref 4 1 0 r17.length]⟩, ⟨0, none⟩]) rfl rfl rfl (TOp.eqr (TOp.widen (src := 25) (dst := 40) ⟨_, pun25⟩ pun40 rfl (OpF.tmp rfl)) (congrArg (AV.f .f64) hx23)) rfl ?_
                  refine ROps.d (r := AV.b true) (fs := []) (Γ' := [⟨2, none⟩, ⟨1, some (r9.map AV.f32)⟩, ⟨1, some [AV.i64 r5, AV.i64 r6, AV.oref 1 1 0 r9.length]⟩, ⟨1, none⟩, ⟨1, some (r17.map AV.f32)⟩, ⟨1, some [AV.i64 r13, AV.i64 r14, AV.oref 4 1 0 r17.length]⟩, ⟨0, none⟩]) rfl rfl rfl (TOp.eqb (TOp.callB (CallAs.func ent21 rfl rfl) (Bors.cons (Bor.pure rfl) (Bors.cons (Bor.pure rfl) Bors.nil)) rfl rfl (w_sameFloat_ok x29 x30 r31 hf24)) hc25) rfl ?_
                  refine ROps.l (r := AV.b false) rfl rfl rfl (LOp.eqb (LOp.not rfl rfl) rfl) ?_
                  refine ROps.l (r := AV.b false) rfl rfl rfl (LOp.pick_false rfl rfl rfl) ?_
                  refine ROps.l (r := AV.b false) rfl rfl rfl (LOp.move rfl rfl) ?_
                  refine ROps.l (r := AV.b r16) rfl rfl rfl (LOp.move rfl rfl) ?_
                  refine ROps.l (r := AV.b r8) rfl rfl rfl (LOp.move rfl rfl) ?_
                  refine ROps.l (r := AV.b false) rfl rfl rfl (LOp.eqb (LOp.neqb pun4 rfl rfl rfl) hc13) ?_
                  refine ROps.l (r := AV.b false) rfl rfl rfl (LOp.pick_false rfl rfl rfl) ?_
                  refine ROps.nil ?_
                  refine RunC.wl (τ' := [(1, AV.f32 a3), (2, AV.ptr [AV.i64 a0, AV.i64 a1, AV.sl a2.length (a2.map AV.f32)]), (6, AV.optr 2 1 0), (7, AV.f32 r7), (8, AV.b r8), (10, AV.optr 5 1 0), (86, AV.b false)]) (Γ' := [⟨2, none⟩, ⟨1, some (r9.map AV.f32)⟩, ⟨1, some [AV.i64 r5, AV.i64 r6, AV.oref 1 1 0 r9.length]⟩, ⟨1, none⟩, ⟨1, some (r17.map AV.f32)⟩, ⟨1, some [AV.i64 r13, AV.i64 r14, AV.oref 4 1 0 r17.length]⟩, ⟨0, none⟩]) ⟨(ALe.refl _), (ALe.refl _), (ALe.refl _), (ALe.refl _), (ALe.refl _), (ALe.refl _), (ALe.refl _), trivial⟩ ⟨⟨rfl, .inl rfl⟩, ⟨rfl, .inr rfl⟩, ⟨rfl, .inr rfl⟩, ⟨rfl, .inl rfl⟩, ⟨rfl, .inr rfl⟩, ⟨rfl, .inr rfl⟩, ⟨rfl, .inr rfl⟩, trivial⟩ ?_
                  refine RunC.cond_false rfl rfl ?_
                  refine RunC.skip ?_
                  refine RunC.seq ?_
                  refine RunC.regionW ?_
                  refine ROps.l (r := AV.i64 1) rfl rfl rfl (LOp.assign rfl rfl) ?_
                  refine ROps.nil ?_
                  refine RunC.seq ?_
                  obtain ⟨r32, r33, hf26, h⟩ := obind2_some h
                  obtain ⟨hn27, h⟩ := need_some h
                  refine RunC.regionW ?_
                  refine ROps.d (r := AV.agg [AV.i64 r13, AV.i64 r14, AV.oref 4 1 0 r17.length]) (fs := []) (Γ' := [⟨2, none⟩, ⟨1, some (r9.map AV.f32)⟩, ⟨1, some [AV.i64 r5, AV.i64 r6, AV.oref 1 1 0 r9.length]⟩, ⟨1, none⟩, ⟨1, some (r17.map AV.f32)⟩, ⟨1, some [AV.i64 r13, AV.i64 r14, AV.oref 4 1 0 r17.length]⟩, ⟨0, none⟩]) rfl rfl rfl (TOp.loadAgg_o rfl agg27 siz27 rfl rfl rfl rfl) rfl ?_
                  refine ROps.l (r := AV.i64 1) rfl rfl rfl (LOp.move rfl rfl) ?_
                  refine ROps.callO (A := [AV.agg [AV.i64 r13, AV.i64 r14, AV.oref 4 1 0 r17.length], AV.i64 1]) (args := [AV.agg [AV.i64 r13, AV.i64 r14, AV.oref 0 0 0 r17.length], AV.i64 1]) (Γc := [⟨0, some (r17.map AV.f32)⟩]) (Γc' := [⟨0, some (r33.map AV.f32)⟩]) (r' := AV.i64 r32) (Γ' := [⟨2, none⟩, ⟨1, some (r9.map AV.f32)⟩, ⟨1, some [AV.i64 r5, AV.i64 r6, AV.oref 1 1 0 r9.length]⟩, ⟨1, none⟩, ⟨1, some (r33.map AV.f32)⟩, ⟨1, some [AV.i64 r13, AV.i64 r14, AV.oref 4 1 0 r17.length]⟩, ⟨0, none⟩]) [(4, 1)] [] rfl (CallAs.func ent15 rfl rfl) rfl rfl (SelOk.of (show List.Nodup [4] from by decide) (SelL.arr0 (f := AV.f32) (fun _ => rfl) rfl trivial)) (live_of ⟨⟨_, _, rfl⟩, trivial⟩) (by simp [AV.ren, AV.rens, sigma, rens_f32, rens_f64, rens_i64, rens_ik, rens_str, rens_cp]) rfl (w_markMatrix_02o_ok r13 r14 1 r17 r32 r33 hf26) rfl (news_of trivial) (show List.Nodup [4] from by decide) (by simp [AV.ren, AV.rens, sigma, of_decide_eq_true hn27]) (by simp [backOb, sigma, AV.ren, AV.rens, rens_f32, rens_f64, rens_i64, rens_ik, rens_str, rens_cp]) ?_
                  refine ROps.l (r := AV.i64 r32) rfl rfl rfl (LOp.assign rfl rfl) ?_
                  refine ROps.nil ?_
                  refine RunC.seq ?_
                  refine RunC.regionW ?_
                  refine ROps.l (r := AV.i64 1) rfl rfl rfl (LOp.assign rfl rfl) ?_
                  refine ROps.nil ?_
                  refine RunC.seq ?_
                  obtain ⟨r34, hf28, h⟩ := obind_some h
                  refine RunC.regionW ?_
                  refine ROps.d (r := AV.agg [AV.i64 r13, AV.i64 r14, AV.oref 4 1 0 r17.length]) (fs := []) (Γ' := [⟨2, none⟩, ⟨1, some (r9.map AV.f32)⟩, ⟨1, some [AV.i64 r5, AV.i64 r6, AV.oref 1 1 0 r9.length]⟩, ⟨1, none⟩, ⟨1, some (r33.map AV.f32)⟩, ⟨1, some [AV.i64 r13, AV.i64 r14, AV.oref 4 1 0 r17.length]⟩, ⟨0, none⟩]) rfl rfl rfl (TOp.loadAgg_o rfl agg27 siz27 rfl rfl rfl rfl) rfl ?_
                  refine ROps.l (r := AV.i64 1) rfl rfl rfl (LOp.move rfl rfl) ?_
                  refine ROps.d (r := AV.i64 r34) (fs := []) (Γ' := [⟨2, none⟩, ⟨1, some (r9.map AV.f32)⟩, ⟨1, some [AV.i64 r5, AV.i64 r6, AV.oref 1 1 0 r9.length]⟩, ⟨1, none⟩, ⟨1, some (r33.map AV.f32)⟩, ⟨1, some [AV.i64 r13, AV.i64 r14, AV.oref 4 1 0 r17.length]⟩, ⟨0, none⟩]) rfl rfl rfl (TOp.callB (CallAs.func ent17 rfl rfl) (Bors.cons (Bor.agg (Bors.cons (Bor.pure rfl) (Bors.cons (Bor.pure rfl) (Bors.cons (Bor.own (f := AV.f32) (fun _ => rfl) rfl (of_decide_eq_true hn27)) Bors.nil)))) (Bors.cons (Bor.pure rfl) Bors.nil)) rfl rfl (w_heldMatrix_ok r13 r14 r33 1 r34 hf28)) rfl ?_
                  refine ROps.l (r := AV.i64 r34) rfl rfl rfl (LOp.assign rfl rfl) ?_
                  refine ROps.nil ?_
                  refine RunC.seq ?_
                  refine RunC.seq ?_
                  rcases bsel_some h with ⟨hc29, h⟩ | ⟨hc29, h⟩
                  · refine RunC.regionW ?_
                    refine ROps.l (r := AV.i64 r34) rfl rfl rfl (LOp.move rfl rfl) ?_
                    refine ROps.l (r := AV.b true) rfl rfl rfl (LOp.eqb (LOp.lss rfl rfl rfl) hc29) ?_
                    refine ROps.nil ?_
                    refine RunC.cond_true rfl rfl ?_
                    refine RunC.seq ?_
                    refine RunC.regionW ?_
                    refine ROps.l (r := AV.b false) rfl rfl rfl (LOp.assign rfl rfl) ?_
                    refine ROps.nil ?_
                    refine RunC.ret ?_
                    have hq := Option.some.inj h
                    subst q0
                    exact bodyQ.pure (.inr rfl) rfl (Res.one rfl (RV.tmp rfl))
                  · refine RunC.regionW ?_
                    refine ROps.l (r := AV.i64 r34) rfl rfl rfl (LOp.move rfl rfl) ?_
                    refine ROps.l (r := AV.b false) rfl rfl rfl (LOp.eqb (LOp.lss rfl rfl rfl) hc29) ?_
                    refine ROps.nil ?_
                    refine RunC.cond_false rfl rfl ?_
                    refine RunC.skip ?_
                    refine RunC.seq ?_
                    refine RunC.seq ?_
                    rcases bsel_some h with ⟨hc30, h⟩ | ⟨hc30, h⟩
                    · refine RunC.regionW ?_
                      refine ROps.l (r := AV.i64 r34) rfl rfl rfl (LOp.move rfl rfl) ?_
                      refine ROps.l (r := AV.i64 r32) rfl rfl rfl (LOp.move rfl rfl) ?_
                      refine ROps.l (r := AV.b true) rfl rfl rfl (LOp.eqb (LOp.neq rfl rfl rfl) hc30) ?_
                      refine ROps.nil ?_
                      refine RunC.cond_true rfl rfl ?_
                      refine RunC.seq ?_
                      refine RunC.regionW ?_
                      refine ROps.l (r := AV.b false) rfl rfl rfl (LOp.assign rfl rfl) ?_
                      refine ROps.nil ?_
                      refine RunC.ret ?_
                      have hq := Option.some.inj h
                      subst q0
                      exact bodyQ.pure (.inr rfl) rfl (Res.one rfl (RV.tmp rfl))
                    · refine RunC.regionW ?_
                      refine ROps.l (r := AV.i64 r34) rfl rfl rfl (LOp.move rfl rfl) ?_
                      refine ROps.l (r := AV.i64 r32) rfl rfl rfl (LOp.move rfl rfl) ?_
                      refine ROps.l (r := AV.b false) rfl rfl rfl (LOp.eqb (LOp.neq rfl rfl rfl) hc30) ?_
                      refine ROps.nil ?_
                      refine RunC.cond_false rfl rfl ?_
                      refine RunC.skip ?_
                      refine RunC.seq ?_
                      obtain ⟨r35, r36, r37, hf31, h⟩ := obind3_some h
                      obtain ⟨r38, r39, r40, r41, r42, hf32, h⟩ := obind5_some h
                      refine RunC.regionW ?_
                      refine ROps.l (r := AV.agg [AV.i64 a0, AV.i64 a1, AV.sl a2.length (a2.map AV.f32)]) rfl rfl rfl (LOp.loadAgg agg24 siz24 rfl rfl rfl rfl) ?_
                      refine ROps.d (r := AV.agg [AV.i64 r35, AV.i64 r36, AV.oref 0 3 0 r37.length]) (fs := [(0, (r37.map AV.f32))]) (Γ' := [⟨3, some (r37.map AV.f32)⟩, ⟨1, some (r9.map AV.f32)⟩, ⟨1, some [AV.i64 r5, AV.i64 r6, AV.oref 1 1 0 r9.length]⟩, ⟨1, none⟩, ⟨1, some (r33.map AV.f32)⟩, ⟨1, some [AV.i64 r13, AV.i64 r14, AV.oref 4 1 0 r17.length]⟩, ⟨0, none⟩]) rfl rfl rfl (TOp.callBN (ls := [(r37.map AV.f32)]) [0] (CallAs.func ent11 rfl rfl) (Bors.cons (Bor.agg (Bors.cons (Bor.pure rfl) (Bors.cons (Bor.pure rfl) (Bors.cons (Bor.sl (fun _ => rfl)) Bors.nil)))) Bors.nil) rfl (w_toMatrix_ok a0 a1 a2 r35 r36 r37 hf31) (and_all (lts0_map (f := AV.f32) (fun _ => rfl) _) rfl) (and_all (noss_map (f := AV.f32) (fun _ => rfl) _) rfl) rfl (by decide) (ns_of ⟨⟨_, rfl⟩, trivial⟩)) rfl ?_
                      refine ROps.l (r := AV.f32 a3) rfl rfl rfl (LOp.move rfl rfl) ?_
                      refine ROps.d (r := AV.tup [AV.agg [AV.i64 r38, AV.i64 r39, AV.oref 3 2 0 r42.length], AV.f32 r40, AV.b r41]) (fs := [(3, (r42.map AV.f32))]) (Γ' := [⟨3, some (r37.map AV.f32)⟩, ⟨1, some (r9.map AV.f32)⟩, ⟨1, some [AV.i64 r5, AV.i64 r6, AV.oref 1 1 0 r9.length]⟩, ⟨2, some (r42.map AV.f32)⟩, ⟨1, some (r33.map AV.f32)⟩, ⟨1, some [AV.i64 r13, AV.i64 r14, AV.oref 4 1 0 r17.length]⟩, ⟨0, none⟩]) rfl rfl rfl (TOp.callBN (ls := [(r42.map AV.f32)]) [3] (CallAs.func ent20 rfl rfl) (Bors.cons (Bor.agg (Bors.cons (Bor.pure rfl) (Bors.cons (Bor.pure rfl) (Bors.cons (Bor.own (f := AV.f32) (fun _ => rfl) rfl rfl) Bors.nil)))) (Bors.cons (Bor.pure rfl) Bors.nil)) rfl (i_RootShifted_ok r35 r36 r37 a3 r38 r39 r40 r41 r42 hf32) (and_all (lts0_map (f := AV.f32) (fun _ => rfl) _) rfl) (and_all (noss_map (f := AV.f32) (fun _ => rfl) _) rfl) rfl (by decide) (ns_of ⟨⟨_, rfl⟩, trivial⟩)) rfl ?_
                      refine ROps.l (r := AV.tup [AV.agg [AV.i64 r38, AV.i64 r39, AV.oref 3 2 0 r42.length], AV.f32 r40, AV.b r41]) rfl rfl rfl (LOp.move rfl rfl) ?_
                      refine ROps.l (r := AV.agg [AV.i64 r38, AV.i64 r39, AV.oref 3 2 0 r42.length]) rfl rfl rfl (LOp.extract rfl rfl rfl) ?_
                      refine ROps.l (r := AV.f32 r40) rfl rfl rfl (LOp.extract rfl rfl rfl) ?_
                      refine ROps.l (r := AV.b r41) rfl rfl rfl (LOp.extract rfl rfl rfl) ?_
                      refine ROps.d (r := AV.optr 6 1 0) (fs := [(6, [AV.i64 0, AV.i64 0, AV.nilsl])]) (Γ' := [⟨3, some (r37.map AV.f32)⟩, ⟨1, some (r9.map AV.f32)⟩, ⟨1, some [AV.i64 r5, AV.i64 r6, AV.oref 1 1 0 r9.length]⟩, ⟨2, some (r42.map AV.f32)⟩, ⟨1, some (r33.map AV.f32)⟩, ⟨1, some [AV.i64 r13, AV.i64 r14, AV.oref 4 1 0 r17.length]⟩, ⟨1, some [AV.i64 0, AV.i64 0, AV.nilsl]⟩]) rfl rfl rfl (TOp.alloc_o (g := ⟨0, none⟩) 6 rfl zer27 zok27 rfl) rfl ?_
                      refine ROps.store_le (r := AV.agg [AV.i64 r38, AV.i64 r39, AV.oref 3 2 0 r42.length]) (l' := [AV.i64 r38, AV.i64 r39, AV.oref 3 2 0 r42.length]) (Γ' := [⟨3, some (r37.map AV.f32)⟩, ⟨1, some (r9.map AV.f32)⟩, ⟨1, some [AV.i64 r5, AV.i64 r6, AV.oref 1 1 0 r9.length]⟩, ⟨2, some (r42.map AV.f32)⟩, ⟨1, some (r33.map AV.f32)⟩, ⟨1, some [AV.i64 r13, AV.i64 r14, AV.oref 4 1 0 r17.length]⟩, ⟨1, some [AV.i64 r38, AV.i64 r39, AV.oref 3 2 0 r42.length]⟩]) rfl siz27 rfl rfl rfl (ALe.refl _) rfl rfl rfl rfl (Nat.le_of_ble_eq_true rfl) rfl rfl ?_
                      refine ROps.l (r := AV.f32 r40) rfl rfl rfl (LOp.assign rfl rfl) ?_
                      refine ROps.l (r := AV.b r41) rfl rfl rfl (LOp.assign rfl rfl) ?_
                      refine ROps.nil ?_
                      refine RunC.wl (τ' := [(6, AV.optr 2 1 0), (7, AV.f32 r7), (8, AV.b r8), (10, AV.optr 5 1 0), (14, AV.i64 r32), (16, AV.optr 6 1 0), (17, AV.f32 r40), (18, AV.b r41)]) (Γ' := [⟨3, none⟩, ⟨1, some (r9.map AV.f32)⟩, ⟨1, some [AV.i64 r5, AV.i64 r6, AV.oref 1 1 0 r9.length]⟩, ⟨2, some (r42.map AV.f32)⟩, ⟨1, some (r33.map AV.f32)⟩, ⟨1, some [AV.i64 r13, AV.i64 r14, AV.oref 4 1 0 r17.length]⟩, ⟨1, some [AV.i64 r38, AV.i64 r39, AV.oref 3 2 0 r42.length]⟩]) ⟨(ALe.refl _), (ALe.refl _), (ALe.refl _), (ALe.refl _), (ALe.refl _), (ALe.refl _), (ALe.refl _), (ALe.refl _), trivial⟩ ⟨⟨rfl, .inl rfl⟩, ⟨rfl, .inr rfl⟩, ⟨rfl, .inr rfl⟩, ⟨rfl, .inr rfl⟩, ⟨rfl, .inr rfl⟩, ⟨rfl, .inr rfl⟩, ⟨rfl, .inr rfl⟩, trivial⟩ ?_
                      refine RunC.seq ?_
                      refine RunC.seq ?_
                      obtain ⟨r43, hf33, h⟩ := obind_some h
                      rcases bsel_some h with ⟨hc34, h⟩ | ⟨hc34, h⟩
                      · obtain ⟨x44, hx35, h⟩ := olet_some h
                        obtain ⟨x45, hx36, h⟩ := olet_some h
                        obtain ⟨r46, hf37, h⟩ := obind_some h
                        rcases bsel_some h with ⟨hc38, h⟩ | ⟨hc38, h⟩
                        · rcases bsel_some h with ⟨hc39, h⟩ | ⟨hc39, h⟩
                          · refine RunC.regionW ?_
                            refine ROps.d (r := AV.agg [AV.i64 r38, AV.i64 r39, AV.oref 3 2 0 r42.length]) (fs := []) (Γ' := [⟨3, none⟩, ⟨1, some (r9.map AV.f32)⟩, ⟨1, some [AV.i64 r5, AV.i64 r6, AV.oref 1 1 0 r9.length]⟩, ⟨2, some (r42.map AV.f32)⟩, ⟨1, some (r33.map AV.f32)⟩, ⟨1, some [AV.i64 r13, AV.i64 r14, AV.oref 4 1 0 r17.length]⟩, ⟨1, some [AV.i64 r38, AV.i64 r39, AV.oref 3 2 0 r42.length]⟩]) rfl rfl rfl (TOp.loadAgg_o rfl agg27 siz27 rfl rfl rfl rfl) rfl ?_
                            refine ROps.d (r := AV.agg [AV.i64 r5, AV.i64 r6, AV.oref 1 1 0 r9.length]) (fs := []) (Γ' := [⟨3, none⟩, ⟨1, some (r9.map AV.f32)⟩, ⟨1, some [AV.i64 r5, AV.i64 r6, AV.oref 1 1 0 r9.length]⟩, ⟨2, some (r42.map AV.f32)⟩, ⟨1, some (r33.map AV.f32)⟩, ⟨1, some [AV.i64 r13, AV.i64 r14, AV.oref 4 1 0 r17.length]⟩, ⟨1, some [AV.i64 r38, AV.i64 r39, AV.oref 3 2 0 r42.length]⟩]) rfl rfl rfl (TOp.loadAgg_o rfl agg27 siz27 rfl rfl rfl rfl) rfl ?_
                            refine ROps.d (r := AV.b true) (fs := []) (Γ' := [⟨3, none⟩, ⟨1, some (r9.map AV.f32)⟩, ⟨1, some [AV.i64 r5, AV.i64 r6, AV.oref 1 1 0 r9.length]⟩, ⟨2, some (r42.map AV.f32)⟩, ⟨1, some (r33.map AV.f32)⟩, ⟨1, some [AV.i64 r13, AV.i64 r14, AV.oref 4 1 0 r17.length]⟩, ⟨1, some [AV.i64 r38, AV.i64 r39, AV.oref 3 2 0 r42.length]⟩]) rfl rfl rfl (TOp.eqb (TOp.callB (CallAs.func ent13 rfl rfl) (Bors.cons (Bor.agg (Bors.cons (Bor.pure rfl) (Bors.cons (Bor.pure rfl) (Bors.cons (Bor.own (f := AV.f32) (fun _ => rfl) rfl rfl) Bors.nil)))) (Bors.cons (Bor.agg (Bors.cons (Bor.pure rfl) (Bors.cons (Bor.pure rfl) (Bors.cons (Bor.own (f := AV.f32) (fun _ => rfl) rfl rfl) Bors.nil)))) Bors.nil)) rfl rfl (w_eqMatrix_ok r38 r39 r42 r5 r6 r9 r43 hf33)) hc34) rfl ?_
                            refine ROps.l (r := AV.b false) rfl rfl rfl (LOp.eqb (LOp.not rfl rfl) rfl) ?_
                            refine ROps.l (r := AV.b false) rfl rfl rfl (LOp.move rfl rfl) ?_
                            refine ROps.l (r := AV.f32 r40) rfl rfl rfl (LOp.move rfl rfl) ?_
                            refine ROps.d (r := AV.f64 x44) (fs := []) (Γ' := [⟨3, none⟩, ⟨1, some (r9.map AV.f32)⟩, ⟨1, some [AV.i64 r5, AV.i64 r6, AV.oref 1 1 0 r9.length]⟩, ⟨2, some (r42.map AV.f32)⟩, ⟨1, some (r33.map AV.f32)⟩, ⟨1, some [AV.i64 r13, AV.i64 r14, AV.oref 4 1 0 r17.length]⟩, ⟨1, some [AV.i64 r38, AV.i64 r39, AV.oref 3 2 0 r42.length]⟩]) rfl rfl rfl (TOp.eqr (TOp.widen (src := 25) (dst := 40) ⟨_, pun25⟩ pun40 rfl (OpF.tmp rfl)) (congrArg (AV.f .f64) hx35)) rfl ?_
                            refine ROps.l (r := AV.f32 r7) rfl rfl rfl (LOp.move rfl rfl) ?_
                            refine ROps.d (r := AV.f64 x45) (fs := []) (Γ' := [⟨3, none⟩, ⟨1, some (r9.map AV.f32)⟩, ⟨1, some [AV.i64 r5, AV.i64 r6, AV.oref 1 1 0 r9.length]⟩, ⟨2, some (r42.map AV.f32)⟩, ⟨1, some (r33.map AV.f32)⟩, ⟨1, some [AV.i64 r13, AV.i64 r14, AV.oref 4 1 0 r17.length]⟩, ⟨1, some [AV.i64 r38, AV.i64 r39, AV.oref 3 2 0 r42.length]⟩]) rfl rfl rfl (TOp.eqr (TOp.widen (src := 25) (dst := 40) ⟨_, pun25⟩ pun40 rfl (OpF.tmp rfl)) (congrArg (AV.f .f64) hx36)) rfl ?_
                            refine ROps.d (r := AV.b true) (fs := []) (Γ' := [⟨3, none⟩, ⟨1, some (r9.map AV.f32)⟩, ⟨1, some [AV.i64 r5, AV.i64 r6, AV.oref 1 1 0 r9.length]⟩, ⟨2, some (r42.map AV.f32)⟩, ⟨1, some (r33.map AV.f32)⟩, ⟨1, some [AV.i64 r13, AV.i64 r14, AV.oref 4 1 0 r17.length]⟩, ⟨1, some [AV.i64 r38, AV.i64 r39, AV.oref 3 2 0 r42.length]⟩]) rfl rfl rfl (TOp.eqb (TOp.callB (CallAs.func ent21 rfl rfl) (Bors.cons (Bor.pure rfl) (Bors.cons (Bor.pure rfl) Bors.nil)) rfl rfl (w_sameFloat_ok x44 x45 r46 hf37)) hc38) rfl ?_
                            refine ROps.l (r := AV.b false) rfl rfl rfl (LOp.eqb (LOp.not rfl rfl) rfl) ?_
                            refine ROps.l (r := AV.b false) rfl rfl rfl (LOp.pick_false rfl rfl rfl) ?_
                            refine ROps.l (r := AV.b false) rfl rfl rfl (LOp.move rfl rfl) ?_
                            refine ROps.l (r := AV.b r41) rfl rfl rfl (LOp.move rfl rfl) ?_
                            refine ROps.l (r := AV.b r8) rfl rfl rfl (LOp.move rfl rfl) ?_
                            refine ROps.l (r := AV.b true) rfl rfl rfl (LOp.eqb (LOp.neqb pun4 rfl rfl rfl) hc39) ?_
                            refine ROps.l (r := AV.b true) rfl rfl rfl (LOp.pick_false rfl rfl rfl) ?_
                            refine ROps.nil ?_
                            refine RunC.wl (τ' := [(10, AV.optr 5 1 0), (14, AV.i64 r32), (122, AV.b true)]) (Γ' := [⟨3, none⟩, ⟨1, none⟩, ⟨1, none⟩, ⟨2, none⟩, ⟨1, some (r33.map AV.f32)⟩, ⟨1, some [AV.i64 r13, AV.i64 r14, AV.oref 4 1 0 r17.length]⟩, ⟨1, none⟩]) ⟨(ALe.refl _), (ALe.refl _), (ALe.refl _), trivial⟩ ⟨⟨rfl, .inl rfl⟩, ⟨rfl, .inl rfl⟩, ⟨rfl, .inl rfl⟩, ⟨rfl, .inl rfl⟩, ⟨rfl, .inr rfl⟩, ⟨rfl, .inr rfl⟩, ⟨rfl, .inl rfl⟩, trivial⟩ ?_
                            refine RunC.cond_true rfl rfl ?_
                            refine RunC.seq ?_
                            refine RunC.regionW ?_
                            refine ROps.l (r := AV.b false) rfl rfl rfl (LOp.assign rfl rfl) ?_
                            refine ROps.nil ?_
                            refine RunC.ret ?_
                            have hq := Option.some.inj h
                            subst q0
                            exact bodyQ.pure (.inr rfl) rfl (Res.one rfl (RV.tmp rfl))
                          · refine RunC.regionW ?_
                            refine ROps.d (r := AV.agg [AV.i64 r38, AV.i64 r39, AV.oref 3 2 0 r42.length]) (fs := []) (Γ' := [⟨3, none⟩, ⟨1, some (r9.map AV.f32)⟩, ⟨1, some [AV.i64 r5, AV.i64 r6, AV.oref 1 1 0 r9.length]⟩, ⟨2, some (r42.map AV.f32)⟩, ⟨1, some (r33.map AV.f32)⟩, ⟨1, some [AV.i64 r13, AV.i64 r14, AV.oref 4 1 0 r17.length]⟩, ⟨1, some [AV.i64 r38, AV.i64 r39, AV.oref 3 2 0 r42.length]⟩]) rfl rfl rfl (TOp.loadAgg_o rfl agg27 siz27 rfl rfl rfl rfl) rfl ?_
                            refine ROps.d (r := AV.agg [AV.i64 r5, AV.i64 r6, AV.oref 1 1 0 r9.length]) (fs := []) (Γ' := [⟨3, none⟩, ⟨1, some (r9.map AV.f32)⟩, ⟨1, some [AV.i64 r5, AV.i64 r6, AV.oref 1 1 0 r9.length]⟩, ⟨2, some (r42.map AV.f32)⟩, ⟨1, some (r33.map AV.f32)⟩, ⟨1, some [AV.i64 r13, AV.i64 r14, AV.oref 4 1 0 r17.length]⟩, ⟨1, some [AV.i64 r38, AV.i64 r39, AV.oref 3 2 0 r42.length]⟩]) rfl rfl rfl (TOp.loadAgg_o rfl agg27 siz27 rfl rfl rfl rfl) rfl ?_
                            refine ROps.d (r := AV.b true) (fs := []) (Γ' := [⟨3, none⟩, ⟨1, some (r9.map AV.f32)⟩, ⟨1, some [AV.i64 r5, AV.i64 r6, AV.oref 1 1 0 r9.length]⟩, ⟨2, some (r42.map AV.f32)⟩, ⟨1, some (r33.map AV.f32)⟩, ⟨1, some [AV.i64 r13, AV.i64 r14, AV.oref 4 1 0 r17.length]⟩, ⟨1, some [AV.i64 r38, AV.i64 r39, AV.oref 3 2 0 r42.length]⟩]) rfl rfl rfl (TOp.eqb (TOp.callB (CallAs.func ent13 rfl rfl) (Bors.cons (Bor.agg (Bors.cons (Bor.pure rfl) (Bors.cons (Bor.pure rfl) (Bors.cons (Bor.own (f := AV.f32) (fun _ => rfl) rfl rfl) Bors.nil)))) (Bors.cons (Bor.agg (Bors.cons (Bor.pure rfl) (Bors.cons (Bor.pure rfl) (Bors.cons (Bor.own (f := AV.f32) (fun _ => rfl) rfl rfl) Bors.nil)))) Bors.nil)) rfl rfl (w_eqMatrix_ok r38 r39 r42 r5 r6 r9 r43 hf33)) hc34) rfl ?_
                            refine ROps.l (r := AV.b false) rfl rfl rfl (LOp.eqb (LOp.not rfl rfl) rfl) ?_
                            refine ROps.l (r := AV.b false) rfl rfl rfl (LOp.move rfl rfl) ?_
                            refine ROps.l (r := AV.f32 r40) rfl rfl rfl (LOp.move rfl rfl) ?_
                            refine ROps.d (r := AV.f64 x44) (fs := []) (Γ' := [⟨3, none⟩, ⟨1, some (r9.map AV.f32)⟩, ⟨1, some [AV.i64 r5, AV.i64 r6, AV.oref 1 1 0 r9.length]⟩, ⟨2, some (r42.map AV.f32)⟩, ⟨1, some (r33.map AV.f32)⟩, ⟨1, some [AV.i64 r13, AV.i64 r14, AV.oref 4 1 0 r17.length]⟩, ⟨1, some [AV.i64 r38, AV.i64 r39, AV.oref 3 2 0 r42.length]⟩]) rfl rfl rfl (TOp.eqr (TOp.widen (src := 25) (dst := 40) ⟨_, pun25⟩ pun40 rfl (OpF.tmp rfl)) (congrArg (AV.f .f64) hx35)) rfl ?_
                            refine ROps.l (r := AV.f32 r7) rfl rfl rfl (LOp.move rfl rfl) ?_
                            refine ROps.d (r := AV.f64 x45) (fs := []) (Γ' := [⟨3, none⟩, ⟨1, some (r9.map AV.f32)⟩, ⟨1, some [AV.i64 r5, AV.i64 r6, AV.oref 1 1 0 r9.length]⟩, ⟨2, some (r42.map AV.f32)⟩, ⟨1, some (r33.map AV.f32)⟩, ⟨1, some [AV.i64 r13, AV.i64 r14, AV.oref 4 1 0 r17.length]⟩, ⟨1, some [AV.i64 r38, AV.i64 r39, AV.oref 3 2 0 r42.length]⟩]) rfl rfl rfl (TOp.eqr (TOp.widen (src := 25) (dst := 40) ⟨_, pun25⟩ pun40 rfl (OpF.tmp rfl)) (congrArg (AV.f .f64) hx36)) rfl ?_
                            refine ROps.d (r := AV.b true) (fs := []) (Γ' := [⟨3, none⟩, ⟨1, some (r9.map AV.f32)⟩, ⟨1, some [AV.i64 r5, AV.i64 r6, AV.oref 1 1 0 r9.length]⟩, ⟨2, some (r42.map AV.f32)⟩, ⟨1, some (r33.map AV.f32)⟩, ⟨1, some [AV.i64 r13, AV.i64 r14, AV.oref 4 1 0 r17.length]⟩, ⟨1, some [AV.i64 r38, AV.i64 r39, AV.oref 3 2 0 r42.length]⟩]) rfl rfl rfl (TOp.eqb (TOp.callB (CallAs.func ent21 rfl rfl) (Bors.cons (Bor.pure rfl) (Bors.cons (Bor.pure rfl) Bors.nil)) rfl rfl (w_sameFloat_ok x44 x45 r46 hf37)) hc38) rfl ?_
                            refine ROps.l (r := AV.b false) rfl rfl rfl (LOp.eqb (LOp.not rfl rfl) rfl) ?_
                            refine ROps.l (r := AV.b false) rfl rfl rfl (LOp.pick_false rfl rfl rfl) ?_
                            refine ROps.l (r := AV.b false) rfl rfl rfl (LOp.move rfl rfl) ?_
                            refine ROps.l (r := AV.b r41) rfl rfl rfl (LOp.move rfl rfl) ?_
                            refine ROps.l (r := AV.b r8) rfl rfl rfl (LOp.move rfl rfl) ?_
                            refine ROps.l (r := AV.b false) rfl rfl rfl (LOp.eqb (LOp.neqb pun4 rfl rfl rfl) hc39) ?_
                            refine ROps.l (r := AV.b false) rfl rfl rfl (LOp.pick_false rfl rfl rfl) ?_
                            refine ROps.nil ?_
                            refine RunC.wl (τ' := [(10, AV.optr 5 1 0), (14, AV.i64 r32), (122, AV.b false)]) (Γ' := [⟨3, none⟩, ⟨1, none⟩, ⟨1, none⟩, ⟨2, none⟩, ⟨1, some (r33.map AV.f32)⟩, ⟨1, some [AV.i64 r13, AV.i64 r14, AV.oref 4 1 0 r17.length]⟩, ⟨1, none⟩]) ⟨(ALe.refl _), (ALe.refl _), (ALe.refl _), trivial⟩ ⟨⟨rfl, .inl rfl⟩, ⟨rfl, .inl rfl⟩, ⟨rfl, .inl rfl⟩, ⟨rfl, .inl rfl⟩, ⟨rfl, .inr rfl⟩, ⟨rfl, .inr rfl⟩, ⟨rfl, .inl rfl⟩, trivial⟩ ?_
                            refine RunC.cond_false rfl rfl ?_
                            refine RunC.skip ?_
                            refine RunC.seq ?_
                            refine RunC.regionW ?_
                            refine ROps.l (r := AV.i64 1) rfl rfl rfl (LOp.assign rfl rfl) ?_
                            refine ROps.nil ?_
                            refine RunC.seq ?_
                            obtain ⟨r47, hf40, h⟩ := obind_some h
                            refine RunC.regionW ?_
                            refine ROps.d (r := AV.agg [AV.i64 r13, AV.i64 r14, AV.oref 4 1 0 r17.length]) (fs := []) (Γ' := [⟨3, none⟩, ⟨1, none⟩, ⟨1, none⟩, ⟨2, none⟩, ⟨1, some (r33.map AV.f32)⟩, ⟨1, some [AV.i64 r13, AV.i64 r14, AV.oref 4 1 0 r17.length]⟩, ⟨1, none⟩]) rfl rfl rfl (TOp.loadAgg_o rfl agg27 siz27 rfl rfl rfl rfl) rfl ?_
                            refine ROps.l (r := AV.i64 1) rfl rfl rfl (LOp.move rfl rfl) ?_
                            refine ROps.d (r := AV.i64 r47) (fs := []) (Γ' := [⟨3, none⟩, ⟨1, none⟩, ⟨1, none⟩, ⟨2, none⟩, ⟨1, some (r33.map AV.f32)⟩, ⟨1, some [AV.i64 r13, AV.i64 r14, AV.oref 4 1 0 r17.length]⟩, ⟨1, none⟩]) rfl rfl rfl (TOp.callB (CallAs.func ent17 rfl rfl) (Bors.cons (Bor.agg (Bors.cons (Bor.pure rfl) (Bors.cons (Bor.pure rfl) (Bors.cons (Bor.own (f := AV.f32) (fun _ => rfl) rfl (of_decide_eq_true hn27)) Bors.nil)))) (Bors.cons (Bor.pure rfl) Bors.nil)) rfl rfl (w_heldMatrix_ok r13 r14 r33 1 r47 hf40)) rfl ?_
                            refine ROps.l (r := AV.i64 r47) rfl rfl rfl (LOp.assign rfl rfl) ?_
                            refine ROps.nil ?_
                            refine RunC.wl (τ' := [(14, AV.i64 r32), (15, AV.i64 r47)]) (Γ' := [⟨3, none⟩, ⟨1, none⟩, ⟨1, none⟩, ⟨2, none⟩, ⟨1, none⟩, ⟨1, none⟩, ⟨1, none⟩]) ⟨(ALe.refl _), (ALe.refl _), trivial⟩ ⟨⟨rfl, .inl rfl⟩, ⟨rfl, .inl rfl⟩, ⟨rfl, .inl rfl⟩, ⟨rfl, .inl rfl⟩, ⟨rfl, .inl rfl⟩, ⟨rfl, .inl rfl⟩, ⟨rfl, .inl rfl⟩, trivial⟩ ?_
                            refine RunC.seq ?_
                            refine RunC.seq ?_
                            rcases bsel_some h with ⟨hc41, h⟩ | ⟨hc41, h⟩
                            · refine RunC.regionW ?_
                              refine ROps.l (r := AV.i64 r47) rfl rfl rfl (LOp.move rfl rfl) ?_
                              refine ROps.l (r := AV.b true) rfl rfl rfl (LOp.eqb (LOp.lss rfl rfl rfl) hc41) ?_
                              refine ROps.nil ?_
                              refine RunC.cond_true rfl rfl ?_
                              refine RunC.seq ?_
                              refine RunC.regionW ?_
                              refine ROps.l (r := AV.b false) rfl rfl rfl (LOp.assign rfl rfl) ?_
                              refine ROps.nil ?_
                              refine RunC.ret ?_
                              have hq := Option.some.inj h
                              subst q0
                              exact bodyQ.pure (.inr rfl) rfl (Res.one rfl (RV.tmp rfl))
                            · refine RunC.regionW ?_
                              refine ROps.l (r := AV.i64 r47) rfl rfl rfl (LOp.move rfl rfl) ?_
                              refine ROps.l (r := AV.b false) rfl rfl rfl (LOp.eqb (LOp.lss rfl rfl rfl) hc41) ?_
                              refine ROps.nil ?_
                              refine RunC.cond_false rfl rfl ?_
                              refine RunC.skip ?_
                              refine RunC.seq ?_
                              refine RunC.seq ?_
                              rcases bsel_some h with ⟨hc42, h⟩ | ⟨hc42, h⟩
                              · refine RunC.regionW ?_
                                refine ROps.l (r := AV.i64 r47) rfl rfl rfl (LOp.move rfl rfl) ?_
                                refine ROps.l (r := AV.i64 r32) rfl rfl rfl (LOp.move rfl rfl) ?_
                                refine ROps.l (r := AV.b true) rfl rfl rfl (LOp.eqb (LOp.neq rfl rfl rfl) hc42) ?_
                                refine ROps.nil ?_
                                refine RunC.cond_true rfl rfl ?_
                                refine RunC.seq ?_
                                refine RunC.regionW ?_
                                refine ROps.l (r := AV.b false) rfl rfl rfl (LOp.assign rfl rfl) ?_
                                refine ROps.nil ?_
                                refine RunC.ret ?_
                                have hq := Option.some.inj h
                                subst q0
                                exact bodyQ.pure (.inr rfl) rfl (Res.one rfl (RV.tmp rfl))
                              · refine RunC.regionW ?_
                                refine ROps.l (r := AV.i64 r47) rfl rfl rfl (LOp.move rfl rfl) ?_
                                refine ROps.l (r := AV.i64 r32) rfl rfl rfl (LOp.move rfl rfl) ?_
                                refine ROps.l (r := AV.b false) rfl rfl rfl (LOp.eqb (LOp.neq rfl rfl rfl) hc42) ?_
                                refine ROps.nil ?_
                                refine RunC.cond_false rfl rfl ?_
                                refine RunC.skip ?_
                                refine RunC.seq ?_
                                refine RunC.regionW ?_
                                refine ROps.l (r := AV.b true) rfl rfl rfl (LOp.assign rfl rfl) ?_
                                refine ROps.nil ?_
                                refine RunC.ret ?_
                                have hq := Option.some.inj h
                                subst q0
                                exact bodyQ.pure (.inr rfl) rfl (Res.one rfl (RV.tmp rfl))
                        · refine RunC.regionW ?_
                          refine ROps.d (r := AV.agg [AV.i64 r38, AV.i64 r39, AV.oref 3 2 0 r42.length]) (fs := []) (Γ' := [⟨3, none⟩, ⟨1, some (r9.map AV.f32)⟩, ⟨1, some [AV.i64 r5, AV.i64 r6, AV.oref 1 1 0 r9.length]⟩, ⟨2, some (r42.map AV.f32)⟩, ⟨1, some (r33.map AV.f32)⟩, ⟨1, some [AV.i64 r13, AV.i64 r14, AV.oref 4 1 0 r17.length]⟩, ⟨1, some [AV.i64 r38, AV.i64 r39, AV.oref 3 2 0 r42.length]⟩]) rfl rfl rfl (TOp.loadAgg_o rfl agg27 siz27 rfl rfl rfl rfl) rfl ?_
                          refine ROps.d (r := AV.agg [AV.i64 r5, AV.i64 r6, AV.oref 1 1 0 r9.length]) (fs := []) (Γ' := [⟨3, none⟩, ⟨1, some (r9.map AV.f32)⟩, ⟨1, some [AV.i64 r5, AV.i64 r6, AV.oref 1 1 0 r9.length]⟩, ⟨2, some (r42.map AV.f32)⟩, ⟨1, some (r33.map AV.f32)⟩, ⟨1, some [AV.i64 r13, AV.i64 r14, AV.oref 4 1 0 r17.length]⟩, ⟨1, some [AV.i64 r38, AV.i64 r39, AV.oref 3 2 0 r42.length]⟩]) rfl rfl rfl (TOp.loadAgg_o rfl agg27 siz27 rfl rfl rfl rfl) rfl ?_
                          refine ROps.d (r := AV.b true) (fs := []) (Γ' := [⟨3, none⟩, ⟨1, some (r9.map AV.f32)⟩, ⟨1, some [AV.i64 r5, AV.i64 r6, AV.oref 1 1 0 r9.length]⟩, ⟨2, some (r42.map AV.f32)⟩, ⟨1, some (r33.map AV.f32)⟩, ⟨1, some [AV.i64 r13, AV.i64 r14, AV.oref 4 1 0 r17.length]⟩, ⟨1, some [AV.i64 r38, AV.i64 r39, AV.oref 3 2 0 r42.length]⟩]) rfl rfl rfl (TOp.eqb (TOp.callB (CallAs.func ent13 rfl rfl) (Bors.cons (Bor.agg (Bors.cons (Bor.pure rfl) (Bors.cons (Bor.pure rfl) (Bors.cons (Bor.own (f := AV.f32) (fun _ => rfl) rfl rfl) Bors.nil)))) (Bors.cons (Bor.agg (Bors.cons (Bor.pure rfl) (Bors.cons (Bor.pure rfl) (Bors.cons (Bor.own (f := AV.f32) (fun _ => rfl) rfl rfl) Bors.nil)))) Bors.nil)) rfl rfl (w_eqMatrix_ok r38 r39 r42 r5 r6 r9 r43 hf33)) hc34) rfl ?_
                          refine ROps.l (r := AV.b false) rfl rfl rfl (LOp.eqb (LOp.not rfl rfl) rfl) ?_
                          refine ROps.l (r := AV.b false) rfl rfl rfl (LOp.move rfl rfl) ?_
                          refine ROps.l (r := AV.f32 r40) rfl rfl rfl (LOp.move rfl rfl) ?_
                          refine ROps.d (r := AV.f64 x44) (fs := []) (Γ' := [⟨3, none⟩, ⟨1, some (r9.map AV.f32)⟩, ⟨1, some [AV.i64 r5, AV.i64 r6, AV.oref 1 1 0 r9.length]⟩, ⟨2, some (r42.map AV.f32)⟩, ⟨1, some (r33.map AV.f32)⟩, ⟨1, some [AV.i64 r13, AV.i64 r14, AV.oref 4 1 0 r17.length]⟩, ⟨1, some [AV.i64 r38, AV.i64 r39, AV.oref 3 2 0 r42.length]⟩]) rfl rfl rfl (TOp.eqr (TOp.widen (src := 25) (dst := 40) ⟨_, pun25⟩ pun40 rfl (OpF.tmp rfl)) (congrArg (AV.f .f64) hx35)) rfl ?_
                          refine ROps.l (r := AV.f32 r7) rfl rfl rfl (LOp.move rfl rfl) ?_
                          refine ROps.d (r := AV.f64 x45) (fs := []) (Γ' := [⟨3, none⟩, ⟨1, some (r9.map AV.f32)⟩, ⟨1, some [AV.i64 r5, AV.i64 r6, AV.oref 1 1 0 r9.length]⟩, ⟨2, some (r42.map AV.f32)⟩, ⟨1, some (r33.map AV.f32)⟩, ⟨1, some [AV.i64 r13, AV.i64 r14, AV.oref 4 1 0 r17.length]⟩, ⟨1, some [AV.i64 r38, AV.i64 r39, AV.oref 3 2 0 r42.length]⟩]) rfl rfl rfl (TOp.eqr (TOp.widen (src := 25) (dst := 40) ⟨_, pun25⟩ pun40 rfl (OpF.tmp rfl)) (congrArg (AV.f .f64) hx36)) rfl ?_
                          refine ROps.d (r := AV.b false) (fs := []) (Γ' := [⟨3, none⟩, ⟨1, some (r9.map AV.f32)⟩, ⟨1, some [AV.i64 r5, AV.i64 r6, AV.oref 1 1 0 r9.length]⟩, ⟨2, some (r42.map AV.f32)⟩, ⟨1, some (r33.map AV.f32)⟩, ⟨1, some [AV.i64 r13, AV.i64 r14, AV.oref 4 1 0 r17.length]⟩, ⟨1, some [AV.i64 r38, AV.i64 r39, AV.oref 3 2 0 r42.length]⟩]) rfl rfl rfl (TOp.eqb (TOp.callB (CallAs.func ent21 rfl rfl) (Bors.cons (Bor.pure rfl) (Bors.cons (Bor.pure rfl) Bors.nil)) rfl rfl (w_sameFloat_ok x44 x45 r46 hf37)) hc38) rfl ?_
                          refine ROps.l (r := AV.b true) rfl rfl rfl (LOp.eqb (LOp.not rfl rfl) rfl) ?_
                          refine ROps.l (r := AV.b true) rfl rfl rfl (LOp.pick_false rfl rfl rfl) ?_
                          refine ROps.l (r := AV.b true) rfl rfl rfl (LOp.move rfl rfl) ?_
                          refine ROps.s rfl rfl rfl ?_
                          refine ROps.s rfl rfl rfl ?_
                          refine ROps.s rfl rfl rfl ?_
                          refine ROps.l (r := AV.b true) rfl rfl rfl (LOp.pick_true rfl rfl rfl) ?_
                          refine ROps.nil ?_
                          refine RunC.wl (τ' := [(10, AV.optr 5 1 0), (14, AV.i64 r32), (122, AV.b true)]) (Γ' := [⟨3, none⟩, ⟨1, none⟩, ⟨1, none⟩, ⟨2, none⟩, ⟨1, some (r33.map AV.f32)⟩, ⟨1, some [AV.i64 r13, AV.i64 r14, AV.oref 4 1 0 r17.length]⟩, ⟨1, none⟩]) ⟨(ALe.refl _), (ALe.refl _), (ALe.refl _), trivial⟩ ⟨⟨rfl, .inl rfl⟩, ⟨rfl, .inl rfl⟩, ⟨rfl, .inl rfl⟩, ⟨rfl, .inl rfl⟩, ⟨rfl, .inr rfl⟩, ⟨rfl, .inr rfl⟩, ⟨rfl, .inl rfl⟩, trivial⟩ ?_
                          refine RunC.cond_true rfl rfl ?_
                          refine RunC.seq ?_
                          refine RunC.regionW ?_
                          refine ROps.l (r := AV.b false) rfl rfl rfl (LOp.assign rfl rfl) ?_
                          refine ROps.nil ?_
                          refine RunC.ret ?_
                          have hq := Option.some.inj h
                          subst q0
                          exact bodyQ.pure (.inr rfl) rfl (Res.one rfl (RV.tmp rfl))
                      · refine RunC.regionW ?_
                        refine ROps.d (r := AV.agg [AV.i64 r38, AV.i64 r39, AV.oref 3 2 0 r42.length]) (fs := []) (Γ' := [⟨3, none⟩, ⟨1, some (r9.map AV.f32)⟩, ⟨1, some [AV.i64 r5, AV.i64 r6, AV.oref 1 1 0 r9.length]⟩, ⟨2, some (r42.map AV.f32)⟩, ⟨1, some (r33.map AV.f32)⟩, ⟨1, some [AV.i64 r13, AV.i64 r14, AV.oref 4 1 0 r17.length]⟩, ⟨1, some [AV.i64 r38, AV.i64 r39, AV.oref 3 2 0 r42.length]⟩]) rfl rfl rfl (TOp.loadAgg_o rfl agg27 siz27 rfl rfl rfl rfl) rfl ?_
                        refine ROps.d (r := AV.agg [AV.i64 r5, AV.i64 r6, AV.oref 1 1 0 r9.length]) (fs := []) (Γ' := [⟨3, none⟩, ⟨1, some (r9.map AV.f32)⟩, ⟨1, some [AV.i64 r5, AV.i64 r6, AV.oref 1 1 0 r9.length]⟩, ⟨2, some (r42.map AV.f32)⟩, ⟨1, some (r33.map AV.f32)⟩, ⟨1, some [AV.i64 r13, AV.i64 r14, AV.oref 4 1 0 r17.length]⟩, ⟨1, some [AV.i64 r38, AV.i64 r39, AV.oref 3 2 0 r42.length]⟩]) rfl rfl rfl (TOp.loadAgg_o rfl agg27 siz27 rfl rfl rfl rfl) rfl ?_
                        refine ROps.d (r := AV.b false) (fs := []) (Γ' := [⟨3, none⟩, ⟨1, some (r9.map AV.f32)⟩, ⟨1, some [AV.i64 r5, AV.i64 r6, AV.oref 1 1 0 r9.length]⟩, ⟨2, some (r42.map AV.f32)⟩, ⟨1, some (r33.map AV.f32)⟩, ⟨1, some [AV.i64 r13, AV.i64 r14, AV.oref 4 1 0 r17.length]⟩, ⟨1, some [AV.i64 r38, AV.i64 r39, AV.oref 3 2 0 r42.length]⟩]) rfl rfl rfl (TOp.eqb (TOp.callB (CallAs.func ent13 rfl rfl) (Bors.cons (Bor.agg (Bors.cons (Bor.pure rfl) (Bors.cons (Bor.pure rfl) (Bors.cons (Bor.own (f := AV.f32) (fun _ => rfl) rfl rfl) Bors.nil)))) (Bors.cons (Bor.agg (Bors.cons (Bor.pure rfl) (Bors.cons (Bor.pure rfl) (Bors.cons (Bor.own (f := AV.f32) (fun _ => rfl) rfl rfl) Bors.nil)))) Bors.nil)) rfl rfl (w_eqMatrix_ok r38 r39 r42 r5 r6 r9 r43 hf33)) hc34) rfl ?_
                        refine ROps.l (r := AV.b true) rfl rfl rfl (LOp.eqb (LOp.not rfl rfl) rfl) ?_
                        refine ROps.l (r := AV.b true) rfl rfl rfl (LOp.move rfl rfl) ?_
                        refine ROps.s rfl rfl rfl ?_
                        refine ROps.s rfl rfl rfl ?_
                        refine ROps.s rfl rfl rfl ?_
                        refine ROps.s rfl rfl rfl ?_
                        refine ROps.s rfl rfl rfl ?_
                        refine ROps.s rfl rfl rfl ?_
                        refine ROps.l (r := AV.b true) rfl rfl rfl (LOp.pick_true rfl rfl rfl) ?_
                        refine ROps.l (r := AV.b true) rfl rfl rfl (LOp.move rfl rfl) ?_
                        refine ROps.s rfl rfl rfl ?_
                        refine ROps.s rfl rfl rfl ?_
                        refine ROps.s rfl rfl rfl ?_
                        refine ROps.l (r := AV.b true) rfl rfl rfl (LOp.pick_true rfl rfl rfl) ?_
                        refine ROps.nil ?_
                        refine RunC.wl (τ' := [(10, AV.optr 5 1 0), (14, AV.i64 r32), (122, AV.b true)]) (Γ' := [⟨3, none⟩, ⟨1, none⟩, ⟨1, none⟩, ⟨2, none⟩, ⟨1, some (r33.map AV.f32)⟩, ⟨1, some [AV.i64 r13, AV.i64 r14, AV.oref 4 1 0 r17.length]⟩, ⟨1, none⟩]) ⟨(ALe.refl _), (ALe.refl _), (ALe.refl _), trivial⟩ ⟨⟨rfl, .inl rfl⟩, ⟨rfl, .inl rfl⟩, ⟨rfl, .inl rfl⟩, ⟨rfl, .inl rfl⟩, ⟨rfl, .inr rfl⟩, ⟨rfl, .inr rfl⟩, ⟨rfl, .inl rfl⟩, trivial⟩ ?_
                        refine RunC.cond_true rfl rfl ?_
                        refine RunC.seq ?_
                        refine RunC.regionW ?_
                        refine ROps.l (r := AV.b false) rfl rfl rfl (LOp.assign rfl rfl) ?_
                        refine ROps.nil ?_
                        refine RunC.ret ?_
                        have hq := Option.some.inj h
                        subst q0
                        exact bodyQ.pure (.inr rfl) rfl (Res.one rfl (RV.tmp rfl))
                · refine RunC.regionW ?_
                  refine ROps.l (r := AV.i64 r26) rfl rfl rfl (LOp.move rfl rfl) ?_
                  refine ROps.l (r := AV.b false) rfl rfl rfl (LOp.eqb (LOp.lss rfl rfl rfl) hc19) ?_
                  refine ROps.l (r := AV.b false) rfl rfl rfl (LOp.move rfl rfl) ?_
                  refine ROps.d (r := AV.agg [AV.i64 r13, AV.i64 r14, AV.oref 4 1 0 r17.length]) (fs := []) (Γ' := [⟨2, none⟩, ⟨1, some (r9.map AV.f32)⟩, ⟨1, some [AV.i64 r5, AV.i64 r6, AV.oref 1 1 0 r9.length]⟩, ⟨1, none⟩, ⟨1, some (r17.map AV.f32)⟩, ⟨1, some [AV.i64 r13, AV.i64 r14, AV.oref 4 1 0 r17.length]⟩, ⟨0, none⟩]) rfl rfl rfl (TOp.loadAgg_o rfl agg27 siz27 rfl rfl rfl rfl) rfl ?_
                  refine ROps.d (r := AV.agg [AV.i64 r5, AV.i64 r6, AV.oref 1 1 0 r9.length]) (fs := []) (Γ' := [⟨2, none⟩, ⟨1, some (r9.map AV.f32)⟩, ⟨1, some [AV.i64 r5, AV.i64 r6, AV.oref 1 1 0 r9.length]⟩, ⟨1, none⟩, ⟨1, some (r17.map AV.f32)⟩, ⟨1, some [AV.i64 r13, AV.i64 r14, AV.oref 4 1 0 r17.length]⟩, ⟨0, none⟩]) rfl rfl rfl (TOp.loadAgg_o rfl agg27 siz27 rfl rfl rfl rfl) rfl ?_
                  refine ROps.d (r := AV.b true) (fs := []) (Γ' := [⟨2, none⟩, ⟨1, some (r9.map AV.f32)⟩, ⟨1, some [AV.i64 r5, AV.i64 r6, AV.oref 1 1 0 r9.length]⟩, ⟨1, none⟩, ⟨1, some (r17.map AV.f32)⟩, ⟨1, some [AV.i64 r13, AV.i64 r14, AV.oref 4 1 0 r17.length]⟩, ⟨0, none⟩]) rfl rfl rfl (TOp.eqb (TOp.callB (CallAs.func ent13 rfl rfl) (Bors.cons (Bor.agg (Bors.cons (Bor.pure rfl) (Bors.cons (Bor.pure rfl) (Bors.cons (Bor.own (f := AV.f32) (fun _ => rfl) rfl rfl) Bors.nil)))) (Bors.cons (Bor.agg (Bors.cons (Bor.pure rfl) (Bors.cons (Bor.pure rfl) (Bors.cons (Bor.own (f := AV.f32) (fun _ => rfl) rfl rfl) Bors.nil)))) Bors.nil)) rfl rfl (w_eqMatrix_ok r13 r14 r17 r5 r6 r9 r28 hf20)) hc21) rfl ?_
                  refine ROps.l (r := AV.b false) rfl rfl rfl (LOp.eqb (LOp.not rfl rfl) rfl) ?_
                  refine ROps.l (r := AV.b false) rfl rfl rfl (LOp.pick_false rfl rfl rfl) ?_
                  refine ROps.l (r := AV.b false) rfl rfl rfl (LOp.move rfl rfl) ?_
                  refine ROps.l (r := AV.f32 r15) rfl rfl rfl (LOp.move rfl rfl) ?_
                  refine ROps.d (r := AV.f64 x29) (fs := []) (Γ' := [⟨2, none⟩, ⟨1, some (r9.map AV.f32)⟩, ⟨1, some [AV.i64 r5, AV.i64 r6, AV.oref 1 1 0 r9.length]⟩, ⟨1, none⟩, ⟨1, some (r17.map AV.f32)⟩, ⟨1, some [AV.i64 r13, AV.i64 r14, AV.oref 4 1 0 r17.length]⟩, ⟨0, none⟩]) rfl rfl rfl (TOp.eqr (TOp.widen (src := 25) (dst := 40) ⟨_, pun25⟩ pun40 rfl (OpF.tmp rfl)) (congrArg (AV.f .f64) hx22)) rfl ?_
                  refine ROps.l (r := AV.f32 r7) rfl rfl rfl (LOp.move rfl rfl) ?_
                  refine ROps.d (r := AV.f64 x30) (fs := []) (Γ' := [⟨2, none⟩, ⟨1, some (r9.map AV.f32)⟩, ⟨1, some [AV.i64 r5, AV.i64 r6, AV.oref 1 1 0 r9.length]⟩, ⟨1, none⟩, ⟨1, some (r17.map AV.f32)⟩, ⟨1, some [AV.i64 r13, AV.i64 r14, AV.oref 4 1 0 r17.length]⟩, ⟨0, none⟩]) rfl rfl rfl (TOp.eqr (TOp.widen (src := 25) (dst := 40) ⟨_, pun25⟩ pun40 rfl (OpF.tmp rfl)) (congrArg (AV.f .f64) hx23)) rfl ?_
                  refine ROps.d (r := AV.b false) (fs := []) (Γ' := [⟨2, none⟩, ⟨1, some (r9.map AV.f32)⟩, ⟨1, some [AV.i64 r5, AV.i64 r6, AV.oref 1 1 0 r9.length]⟩, ⟨1, none⟩, ⟨1, some (r17.map AV.f32)⟩, ⟨1, some [AV.i64 r13, AV.i64 r14, AV.oref 4 1 0 r17.length]⟩, ⟨0, none⟩]) rfl rfl rfl (TOp.eqb (TOp.callB (CallAs.func ent21 rfl rfl) (Bors.cons (Bor.pure rfl) (Bors.cons (Bor.pure rfl) Bors.nil)) rfl rfl (w_sameFloat_ok x29 x30 r31 hf24)) hc25) rfl ?_
                  refine ROps.l (r := AV.b true) rfl rfl rfl (LOp.eqb (LOp.not rfl rfl) rfl) ?_
                  refine ROps.l (r := AV.b true) rfl rfl rfl (LOp.pick_false rfl rfl rfl) ?_
                  refine ROps.l (r := AV.b true) rfl rfl rfl (LOp.move rfl rfl) ?_
                  refine ROps.s rfl rfl rfl ?_
                  refine ROps.s rfl rfl rfl ?_
                  refine ROps.s rfl rfl rfl ?_
                  refine ROps.l (r := AV.b true) rfl rfl rfl (LOp.pick_true rfl rfl rfl) ?_
                  refine ROps.nil ?_
                  refine RunC.wl (τ' := [(1, AV.f32 a3), (2, AV.ptr [AV.i64 a0, AV.i64 a1, AV.sl a2.length (a2.map AV.f32)]), (6, AV.optr 2 1 0), (7, AV.f32 r7), (8, AV.b r8), (10, AV.optr 5 1 0), (86, AV.b true)]) (Γ' := [⟨2, none⟩, ⟨1, some (r9.map AV.f32)⟩, ⟨1, some [AV.i64 r5, AV.i64 r6, AV.oref 1 1 0 r9.length]⟩, ⟨1, none⟩, ⟨1, some (r17.map AV.f32)⟩, ⟨1, some [AV.i64 r13, AV.i64 r14, AV.oref 4 1 0 r17.length]⟩, ⟨0, none⟩]) ⟨(ALe.refl _), (ALe.refl _), (ALe.refl _), (ALe.refl _), (ALe.refl _), (ALe.refl _), (ALe.refl _), trivial⟩ ⟨⟨rfl, .inl rfl⟩, ⟨rfl, .inr rfl⟩, ⟨rfl, .inr rfl⟩, ⟨rfl, .inl rfl⟩, ⟨rfl, .inr rfl⟩, ⟨rfl, .inr rfl⟩, ⟨rfl, .inr rfl⟩, trivial⟩ ?_
                  refine RunC.cond_true rfl rfl ?_
                  refine RunC.seq ?_
                  refine RunC.regionW ?_
                  refine ROps.l (r := AV.b false) rfl rfl rfl (LOp.assign rfl rfl) ?_
                  refine ROps.nil ?_
                  refine RunC.ret ?_
                  have hq := Option.some.inj h
                  subst q0
                  exact bodyQ.pure (.inr rfl) rfl (Res.one rfl (RV.tmp rfl))
              · refine RunC.regionW ?_
                refine ROps.l (r := AV.i64 r26) rfl rfl rfl (LOp.move rfl rfl) ?_
                refine ROps.l (r := AV.b false) rfl rfl rfl (LOp.eqb (LOp.lss rfl rfl rfl) hc19) ?_
                refine ROps.l (r := AV.b false) rfl rfl rfl (LOp.move rfl rfl) ?_
                refine ROps.d (r := AV.agg [AV.i64 r13, AV.i64 r14, AV.oref 4 1 0 r17.length]) (fs := []) (Γ' := [⟨2, none⟩, ⟨1, some (r9.map AV.f32)⟩, ⟨1, some [AV.i64 r5, AV.i64 r6, AV.oref 1 1 0 r9.length]⟩, ⟨1, none⟩, ⟨1, some (r17.map AV.f32)⟩, ⟨1, some [AV.i64 r13, AV.i64 r14, AV.oref 4 1 0 r17.length]⟩, ⟨0, none⟩]) rfl rfl rfl (TOp.loadAgg_o rfl agg27 siz27 rfl rfl rfl rfl) rfl ?_
                refine ROps.d (r := AV.agg [AV.i64 r5, AV.i64 r6, AV.oref 1 1 0 r9.length]) (fs := []) (Γ' := [⟨2, none⟩, ⟨1, some (r9.map AV.f32)⟩, ⟨1, some [AV.i64 r5, AV.i64 r6, AV.oref 1 1 0 r9.length]⟩, ⟨1, none⟩, ⟨1, some (r17.map AV.f32)⟩, ⟨1, some [AV.i64 r13, AV.i64 r14, AV.oref 4 1 0 r17.length]⟩, ⟨0, none⟩]) rfl rfl rfl (TOp.loadAgg_o rfl agg27 siz27 rfl rfl rfl rfl) rfl ?_
                refine ROps.d (r := AV.b false) (fs := []) (Γ' := [⟨2, none⟩, ⟨1, some (r9.map AV.f32)⟩, ⟨1, some [AV.i64 r5, AV.i64 r6, AV.oref 1 1 0 r9.length]⟩, ⟨1, none⟩, ⟨1, some (r17.map AV.f32)⟩, ⟨1, some [AV.i64 r13, AV.i64 r14, AV.oref 4 1 0 r17.length]⟩, ⟨0, none⟩]) rfl rfl rfl (TOp.eqb (TOp.callB (CallAs.func ent13 rfl rfl) (Bors.cons (Bor.agg (Bors.cons (Bor.pure rfl) (Bors.cons (Bor.pure rfl) (Bors.cons (Bor.own (f := AV.f32) (fun _ => rfl) rfl rfl) Bors.nil)))) (Bors.cons (Bor.agg (Bors.cons (Bor.pure rfl) (Bors.cons (Bor.pure rfl) (Bors.cons (Bor.own (f := AV.f32) (fun _ => rfl) rfl rfl) Bors.nil)))) Bors.nil)) rfl rfl (w_eqMatrix_ok r13 r14 r17 r5 r6 r9 r28 hf20)) hc21) rfl ?_
                refine ROps.l (r := AV.b true) rfl rfl rfl (LOp.eqb (LOp.not rfl rfl) rfl) ?_
                refine ROps.l (r := AV.b true) rfl rfl rfl (LOp.pick_false rfl rfl rfl) ?_
                refine ROps.l (r := AV.b true) rfl rfl rfl (LOp.move rfl rfl) ?_
                refine ROps.s rfl rfl rfl ?_
                refine ROps.s rfl rfl rfl ?_
                refine ROps.s rfl rfl rfl ?_
                refine ROps.s rfl rfl rfl ?_
                refine ROps.s rfl rfl rfl ?_
                refine ROps.s rfl rfl rfl ?_
                refine ROps.l (r := AV.b true) rfl rfl rfl (LOp.pick_true rfl rfl rfl) ?_
                refine ROps.l (r := AV.b true) rfl rfl rfl (LOp.move rfl rfl) ?_
                refine ROps.s rfl rfl rfl ?_
                refine ROps.s rfl rfl rfl ?_
                refine ROps.s rfl rfl rfl ?_
                refine ROps.l (r := AV.b true) rfl rfl rfl (LOp.pick_true rfl rfl rfl) ?_
                refine ROps.nil ?_
                refine RunC.wl (τ' := [(1, AV.f32 a3), (2, AV.ptr [AV.i64 a0, AV.i64 a1, AV.sl a2.length (a2.map AV.f32)]), (6, AV.optr 2 1 0), (7, AV.f32 r7), (8, AV.b r8), (10, AV.optr 5 1 0), (86, AV.b true)]) (Γ' := [⟨2, none⟩, ⟨1, some (r9.map AV.f32)⟩, ⟨1, some [AV.i64 r5, AV.i64 r6, AV.oref 1 1 0 r9.length]⟩, ⟨1, none⟩, ⟨1, some (r17.map AV.f32)⟩, ⟨1, some [AV.i64 r13, AV.i64 r14, AV.oref 4 1 0 r17.length]⟩, ⟨0, none⟩]) ⟨(ALe.refl _), (ALe.refl _), (ALe.refl _), (ALe.refl _), (ALe.refl _), (ALe.refl _), (ALe.refl _), trivial⟩ ⟨⟨rfl, .inl rfl⟩, ⟨rfl, .inr rfl⟩, ⟨rfl, .inr rfl⟩, ⟨rfl, .inl rfl⟩, ⟨rfl, .inr rfl⟩, ⟨rfl, .inr rfl⟩, ⟨rfl, .inr rfl⟩, trivial⟩ ?_
                refine RunC.cond_true rfl rfl ?_
                refine RunC.seq ?_
                refine RunC.regionW ?_
                refine ROps.l (r := AV.b false) rfl rfl rfl (LOp.assign rfl rfl) ?_
                refine ROps.nil ?_
                refine RunC.ret ?_
                have hq := Option.some.inj h
                subst q0
                exact bodyQ.pure (.inr rfl) rfl (Res.one rfl (RV.tmp rfl))
          · refine RunC.region_draw (Γ' := [⟨2, some (r12.map AV.f32)⟩, ⟨1, some (r9.map AV.f32)⟩, ⟨1, some [AV.i64 r5, AV.i64 r6, AV.oref 1 1 0 r9.length]⟩, ⟨1, some [AV.i64 r10, AV.i64 r11, AV.oref 0 2 0 r12.length]⟩, ⟨1, some (r17.map AV.f32)⟩, ⟨1, some [AV.i64 r13, AV.i64 r14, AV.oref 4 1 0 r17.length]⟩, ⟨0, none⟩]) 5 mixed 
              (TR.d (r := AV.agg [AV.i64 r10, AV.i64 r11, AV.oref 0 2 0 r12.length]) (fs := []) rfl rfl (TOp.loadAgg_o rfl agg27 siz27 rfl rfl rfl rfl) <|
              (TR.l (r := AV.agg [AV.i64 a0, AV.i64 a1, AV.sl a2.length (a2.map AV.f32)]) rfl rfl (LOp.loadAgg agg24 siz24 rfl rfl rfl rfl) <|
              (TR.d (r := AV.agg [AV.i64 r22, AV.i64 r23, AV.sl r24.length (r24.map AV.f32)]) (fs := []) rfl rfl (TOp.callS (CallAs.func ent11 rfl rfl) (ALes.cons (ALe.refl _) ALes.nil) (lts_cons (lt_agg (lts_cons rfl (lts_cons rfl (lts_cons (lt_sl (fun _ => rfl)) lts_nil)))) lts_nil) (lt_agg (lts_cons rfl (lts_cons rfl (lts_cons (lt_sl (fun _ => rfl)) lts_nil)))) (w_toMatrix_ok a0 a1 a2 r22 r23 r24 hf14) (Bor.agg (Bors.cons (Bor.pure rfl) (Bors.cons (Bor.pure rfl) (Bors.cons (Bor.own (f := AV.f32) (fun _ => rfl) rfl rfl) Bors.nil))))) <|
              (TR.d (r := AV.b false) (fs := []) rfl rfl (TOp.eqb (TOp.callB (CallAs.func ent13 rfl rfl) (Bors.cons (Bor.agg (Bors.cons (Bor.pure rfl) (Bors.cons (Bor.pure rfl) (Bors.cons (Bor.own (f := AV.f32) (fun _ => rfl) rfl rfl) Bors.nil)))) (Bors.cons (Bor.agg (Bors.cons (Bor.pure rfl) (Bors.cons (Bor.pure rfl) (Bors.cons (Bor.sl (fun _ => rfl)) Bors.nil)))) Bors.nil)) rfl rfl (w_eqMatrix_ok r10 r11 r12 r22 r23 r24 r25 hf15)) hc16) <|
              (TR.l (r := AV.b true) rfl rfl (LOp.eqb (LOp.not rfl rfl) rfl) <|
              TR.nil))))) rfl (by kernel_rfl) rfl fills_nil rfl ?_
            iterate 5 refine ROps.dropS ?_
            refine ROps.drop0 ?_
            refine ROps.nil ?_
            refine RunC.cond_true rfl rfl ?_
            refine RunC.seq ?_
            refine RunC.regionW ?_
            refine ROps.l (r := AV.b false) rfl rfl rfl (LOp.assign rfl rfl) ?_
            refine ROps.nil ?_
            refine RunC.ret ?_
            have hq := Option.some.inj h
            subst q0
            exact bodyQ.pure (.inr rfl) rfl (Res.one rfl (RV.tmp rfl))
      · refine RunC.regionW ?_
        refine ROps.d (r := AV.agg [AV.i64 r13, AV.i64 r14, AV.oref 4 1 0 r17.length]) (fs := []) (Γ' := [⟨2, some (r12.map AV.f32)⟩, ⟨1, some (r9.map AV.f32)⟩, ⟨1, some [AV.i64 r5, AV.i64 r6, AV.oref 1 1 0 r9.length]⟩, ⟨1, some [AV.i64 r10, AV.i64 r11, AV.oref 0 2 0 r12.length]⟩, ⟨1, some (r17.map AV.f32)⟩, ⟨1, some [AV.i64 r13, AV.i64 r14, AV.oref 4 1 0 r17.length]⟩, ⟨0, none⟩]) rfl rfl rfl (TOp.loadAgg_o rfl agg27 siz27 rfl rfl rfl rfl) rfl ?_
        refine ROps.d (r := AV.agg [AV.i64 r5, AV.i64 r6, AV.oref 1 1 0 r9.length]) (fs := []) (Γ' := [⟨2, some (r12.map AV.f32)⟩, ⟨1, some (r9.map AV.f32)⟩, ⟨1, some [AV.i64 r5, AV.i64 r6, AV.oref 1 1 0 r9.length]⟩, ⟨1, some [AV.i64 r10, AV.i64 r11, AV.oref 0 2 0 r12.length]⟩, ⟨1, some (r17.map AV.f32)⟩, ⟨1, some [AV.i64 r13, AV.i64 r14, AV.oref 4 1 0 r17.length]⟩, ⟨0, none⟩]) rfl rfl rfl (TOp.loadAgg_o rfl agg27 siz27 rfl rfl rfl rfl) rfl ?_
        refine ROps.d (r := AV.b true) (fs := []) (Γ' := [⟨2, some (r12.map AV.f32)⟩, ⟨1, some (r9.map AV.f32)⟩, ⟨1, some [AV.i64 r5, AV.i64 r6, AV.oref 1 1 0 r9.length]⟩, ⟨1, some [AV.i64 r10, AV.i64 r11, AV.oref 0 2 0 r12.length]⟩, ⟨1, some (r17.map AV.f32)⟩, ⟨1, some [AV.i64 r13, AV.i64 r14, AV.oref 4 1 0 r17.length]⟩, ⟨0, none⟩]) rfl rfl rfl (TOp.eqb (TOp.callB (CallAs.func ent13 rfl rfl) (Bors.cons (Bor.agg (Bors.cons (Bor.pure rfl) (Bors.cons (Bor.pure rfl) (Bors.cons (Bor.own (f := AV.f32) (fun _ => rfl) rfl rfl) Bors.nil)))) (Bors.cons (Bor.agg (Bors.cons (Bor.pure rfl) (Bors.cons (Bor.pure rfl) (Bors.cons (Bor.own (f := AV.f32) (fun _ => rfl) rfl rfl) Bors.nil)))) Bors.nil)) rfl rfl (w_eqMatrix_ok r13 r14 r17 r5 r6 r9 r18 hf7)) hc8) rfl ?_
        refine ROps.l (r := AV.b false) rfl rfl rfl (LOp.eqb (LOp.not rfl rfl) rfl) ?_
        refine ROps.l (r := AV.b false) rfl rfl rfl (LOp.move rfl rfl) ?_
        refine ROps.l (r := AV.f32 r15) rfl rfl rfl (LOp.move rfl rfl) ?_
        refine ROps.d (r := AV.f64 x19) (fs := []) (Γ' := [⟨2, some (r12.map AV.f32)⟩, ⟨1, some (r9.map AV.f32)⟩, ⟨1, some [AV.i64 r5, AV.i64 r6, AV.oref 1 1 0 r9.length]⟩, ⟨1, some [AV.i64 r10, AV.i64 r11, AV.oref 0 2 0 r12.length]⟩, ⟨1, some (r17.map AV.f32)⟩, ⟨1, some [AV.i64 r13, AV.i64 r14, AV.oref 4 1 0 r17.length]⟩, ⟨0, none⟩]) rfl rfl rfl (TOp.eqr (TOp.widen (src := 25) (dst := 40) ⟨_, pun25⟩ pun40 rfl (OpF.tmp rfl)) (congrArg (AV.f .f64) hx9)) rfl ?_
        refine ROps.l (r := AV.f32 r7) rfl rfl rfl (LOp.move rfl rfl) ?_
        refine ROps.d (r := AV.f64 x20) (fs := []) (Γ' := [⟨2, some (r12.map AV.f32)⟩, ⟨1, some (r9.map AV.f32)⟩, ⟨1, some [AV.i64 r5, AV.i64 r6, AV.oref 1 1 0 r9.length]⟩, ⟨1, some [AV.i64 r10, AV.i64 r11, AV.oref 0 2 0 r12.length]⟩, ⟨1, some (r17.map AV.f32)⟩, ⟨1, some [AV.i64 r13, AV.i64 r14, AV.oref 4 1 0 r17.length]⟩, ⟨0, none⟩]) rfl rfl rfl (TOp.eqr (TOp.widen (src := 25) (dst := 40) ⟨_, pun25⟩ pun40 rfl (OpF.tmp rfl)) (congrArg (AV.f .f64) hx10)) rfl ?_
        refine ROps.d (r := AV.b false) (fs := []) (Γ' := [⟨2, some (r12.map AV.f32)⟩, ⟨1, some (r9.map AV.f32)⟩, ⟨1, some [AV.i64 r5, AV.i64 r6, AV.oref 1 1 0 r9.length]⟩, ⟨1, some [AV.i64 r10, AV.i64 r11, AV.oref 0 2 0 r12.length]⟩, ⟨1, some (r17.map AV.f32)⟩, ⟨1, some [AV.i64 r13, AV.i64 r14, AV.oref 4 1 0 r17.length]⟩, ⟨0, none⟩]) rfl rfl rfl (TOp.eqb (TOp.callB (CallAs.func ent21 rfl rfl) (Bors.cons (Bor.pure rfl) (Bors.cons (Bor.pure rfl) Bors.nil)) rfl rfl (w_sameFloat_ok x19 x20 r21 hf11)) hc12) rfl ?_
        refine ROps.l (r := AV.b true) rfl rfl rfl (LOp.eqb (LOp.not rfl rfl) rfl) ?_
        refine ROps.l (r := AV.b true) rfl rfl rfl (LOp.pick_false rfl rfl rfl) ?_
        refine ROps.l (r := AV.b true) rfl rfl rfl (LOp.move rfl rfl) ?_
        refine ROps.s rfl rfl rfl ?_
        refine ROps.s rfl rfl rfl ?_
        refine ROps.s rfl rfl rfl ?_
        refine ROps.l (r := AV.b true) rfl rfl rfl (LOp.pick_true rfl rfl rfl) ?_
        refine ROps.nil ?_
        refine RunC.cond_true rfl rfl ?_
        refine RunC.seq ?_
        refine RunC.regionW ?_
        refine ROps.l (r := AV.b false) rfl rfl rfl (LOp.assign rfl rfl) ?_
        refine ROps.nil ?_
        refine RunC.ret ?_
        have hq := Option.some.inj h
        subst q0
        exact bodyQ.pure (.inr rfl) rfl (Res.one rfl (RV.tmp rfl))
    · refine RunC.regionW ?_
      refine ROps.d (r := AV.agg [AV.i64 r13, AV.i64 r14, AV.oref 4 1 0 r17.length]) (fs := []) (Γ' := [⟨2, some (r12.map AV.f32)⟩, ⟨1, some (r9.map AV.f32)⟩, ⟨1, some [AV.i64 r5, AV.i64 r6, AV.oref 1 1 0 r9.length]⟩, ⟨1, some [AV.i64 r10, AV.i64 r11, AV.oref 0 2 0 r12.length]⟩, ⟨1, some (r17.map AV.f32)⟩, ⟨1, some [AV.i64 r13, AV.i64 r14, AV.oref 4 1 0 r17.length]⟩, ⟨0, none⟩]) rfl rfl rfl (TOp.loadAgg_o rfl agg27 siz27 rfl rfl rfl rfl) rfl ?_
      refine ROps.d (r := AV.agg [AV.i64 r5, AV.i64 r6, AV.oref 1 1 0 r9.length]) (fs := []) (Γ' := [⟨2, some (r12.map AV.f32)⟩, ⟨1, some (r9.map AV.f32)⟩, ⟨1, some [AV.i64 r5, AV.i64 r6, AV.oref 1 1 0 r9.length]⟩, ⟨1, some [AV.i64 r10, AV.i64 r11, AV.oref 0 2 0 r12.length]⟩, ⟨1, some (r17.map AV.f32)⟩, ⟨1, some [AV.i64 r13, AV.i64 r14, AV.oref 4 1 0 r17.length]⟩, ⟨0, none⟩]) rfl rfl rfl (TOp.loadAgg_o rfl agg27 siz27 rfl rfl rfl rfl) rfl ?_
      refine ROps.d (r := AV.b false) (fs := []) (Γ' := [⟨2, some (r12.map AV.f32)⟩, ⟨1, some (r9.map AV.f32)⟩, ⟨1, some [AV.i64 r5, AV.i64 r6, AV.oref 1 1 0 r9.length]⟩, ⟨1, some [AV.i64 r10, AV.i64 r11, AV.oref 0 2 0 r12.length]⟩, ⟨1, some (r17.map AV.f32)⟩, ⟨1, some [AV.i64 r13, AV.i64 r14, AV.oref 4 1 0 r17.length]⟩, ⟨0, none⟩]) rfl rfl rfl (TOp.eqb (TOp.callB (CallAs.func ent13 rfl rfl) (Bors.cons (Bor.agg (Bors.cons (Bor.pure rfl) (Bors.cons (Bor.pure rfl) (Bors.cons (Bor.own (f := AV.f32) (fun _ => rfl) rfl rfl) Bors.nil)))) (Bors.cons (Bor.agg (Bors.cons (Bor.pure rfl) (Bors.cons (Bor.pure rfl) (Bors.cons (Bor.own (f := AV.f32) (fun _ => rfl) rfl rfl) Bors.nil)))) Bors.nil)) rfl rfl (w_eqMatrix_ok r13 r14 r17 r5 r6 r9 r18 hf7)) hc8) rfl ?_
      refine ROps.l (r := AV.b true) rfl rfl rfl (LOp.eqb (LOp.not rfl rfl) rfl) ?_
      refine ROps.l (r := AV.b true) rfl rfl rfl (LOp.move rfl rfl) ?_
      refine ROps.s rfl rfl rfl ?_
      refine ROps.s rfl rfl rfl ?_
      refine ROps.s rfl rfl rfl ?_
      refine ROps.s rfl rfl rfl ?_
      refine ROps.s rfl rfl rfl ?_
      refine ROps.s rfl rfl rfl ?_
      refine ROps.l (r := AV.b true) rfl rfl rfl (LOp.pick_true rfl rfl rfl) ?_
      refine ROps.l (r := AV.b true) rfl rfl rfl (LOp.move rfl rfl) ?_
      refine ROps.s rfl rfl rfl ?_
      refine ROps.s rfl rfl rfl ?_
      refine ROps.s rfl rfl rfl ?_
      refine ROps.l (r := AV.b true) rfl rfl rfl (LOp.pick_true rfl rfl rfl) ?_
      refine ROps.nil ?_
      refine RunC.cond_true rfl rfl ?_
      refine RunC.seq ?_
      refine RunC.regionW ?_
      refine ROps.l (r := AV.b false) rfl rfl rfl (LOp.assign rfl rfl) ?_
      refine ROps.nil ?_
      refine RunC.ret ?_
      have hq := Option.some.inj h
      subst q0
      exact bodyQ.pure (.inr rfl) rfl (Res.one rfl (RV.tmp rfl))
end Go.Proofs.Ytjbifkimffmhpaa
