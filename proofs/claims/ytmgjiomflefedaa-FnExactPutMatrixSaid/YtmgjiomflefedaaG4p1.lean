/- Generated. -/
import Derived.Test.YtmgjiomflefedaaG4p0
namespace Go.Proofs.Ytmgjiomflefedaa
open Go Go.AM
set_option maxRecDepth 20000
set_option maxHeartbeats 4000000
set_option linter.unusedVariables false
set_option linter.unusedSimpArgs false
noncomputable def f25_b1 (a1 : Int) (a3 : Int) (a4 : Int) (a5 : List F) (a6 : Int) (a7 : Int) (L7 : List F) (v9 : Int) : Option (LR ((List F) × Int) ((List F)) (Int × Int × Bool × (List F))) :=
  olet (IntKind.i64.wrap (a3 * a4)) fun (x10 : Int) =>
  bsel (decide (v9 < x10)) (
    need (!decide (a4 = 0)) <|
    olet (IntKind.i64.wrap (v9.tdiv a4)) fun (x11 : Int) =>
    olet (IntKind.i64.wrap (a6 + x11)) fun (x12 : Int) =>
    olet (IntKind.i64.wrap (x12 * a1)) fun (x13 : Int) =>
    olet (IntKind.i64.wrap (x13 + a7)) fun (x14 : Int) =>
    need (!decide (a4 = 0)) <|
    olet (v9.tmod a4) fun (x15 : Int) =>
    olet (IntKind.i64.wrap (x14 + x15)) fun (x16 : Int) =>
    obind (at? a5 v9) fun (e17 : F) =>
    obind (setAt? L7 x16 e17) fun (L18 : List F) =>
    olet (IntKind.i64.wrap (v9 + 1)) fun (x19 : Int) =>
    some (LR.next (L18, x19))) (
    some (LR.out L7))
noncomputable def f25_s1 (a1 : Int) (a3 : Int) (a4 : Int) (a5 : List F) (a6 : Int) (a7 : Int) : ((List F) × Int) → Option (LR ((List F) × Int) ((List F)) (Int × Int × Bool × (List F))) := fun s => f25_b1 a1 a3 a4 a5 a6 a7 s.1 s.2
noncomputable def f25_k1 (r4 : Int) (r5 : Int) (L20 : List F) : Option (Int × Int × Bool × (List F)) :=
  some (r4, r5, true, L20)
noncomputable def f25 (a0 : Int) (a1 : Int) (a2 : List F) (a3 : Int) (a4 : Int) (a5 : List F) (a6 : Int) (a7 : Int) : Option (Int × Int × Bool × (List F)) :=
  obind (f58 a0 a1 a2) fun (r1 : Bool) =>
  bsel r1 (
    obind (f58 a3 a4 a5) fun (r2 : Bool) =>
    bsel r2 (
      obind (f59 a0 a1 a2 a6 a7 a3 a4) fun (r3 : Bool) =>
      bsel r3 (
        obind3 (f60 a0 a1 a2) fun (r4 : Int) (r5 : Int) (r6 : List F) =>
        obind (loopM (f25_s1 a1 a3 a4 a5 a6 a7) (r6, 0)) fun z => osum z (fun e => f25_k1 r4 r5 e) (fun r => some r)) (
        some (0, 0, false, ([] : List F)))) (
      some (0, 0, false, ([] : List F)))) (
    some (0, 0, false, ([] : List F)))
theorem f25_ok (a0 : Int) (a1 : Int) (a2 : List F) (a3 : Int) (a4 : Int) (a5 : List F) (a6 : Int) (a7 : Int) (q0 : Int) (q1 : Int) (q2 : Bool) (q3 : List F) (h : f25 a0 a1 a2 a3 a4 a5 a6 a7 = some (q0, q1, q2, q3)) : Ev Try.prog 25 [AV.agg [AV.i64 a0, AV.i64 a1, AV.sl a2.length (a2.map AV.f32)], AV.agg [AV.i64 a3, AV.i64 a4, AV.sl a5.length (a5.map AV.f32)], AV.i64 a6, AV.i64 a7] [] (AV.tup [AV.agg [AV.i64 q0, AV.i64 q1, AV.oref 0 0 0 q3.length], AV.b q2]) [⟨0, some (q3.map AV.f32)⟩] := by
  refine Ev.start Try.func25 rfl rfl 3 (τ := [(0, AV.agg [AV.i64 a0, AV.i64 a1, AV.sl a2.length (a2.map AV.f32)]), (1, AV.agg [AV.i64 a3, AV.i64 a4, AV.sl a5.length (a5.map AV.f32)]), (2, AV.i64 a6), (3, AV.i64 a7)]) rfl (Γ' := [⟨0, none⟩, ⟨0, none⟩, ⟨0, none⟩]) rfl (n := 64) rfl (g := 0) rfl ?_
  unfold f25 at h
  refine RunC.seq ?_
  refine RunC.regionW ?_
  refine ROps.d (r := AV.ptr [AV.i64 a0, AV.i64 a1, AV.sl a2.length (a2.map AV.f32)]) (fs := []) (Γ' := [⟨0, none⟩, ⟨0, none⟩, ⟨0, none⟩]) rfl rfl rfl (TOp.box_s rfl rfl rfl) rfl ?_
  refine ROps.d (r := AV.ptr [AV.i64 a3, AV.i64 a4, AV.sl a5.length (a5.map AV.f32)]) (fs := []) (Γ' := [⟨0, none⟩, ⟨0, none⟩, ⟨0, none⟩]) rfl rfl rfl (TOp.box_s rfl rfl rfl) rfl ?_
  refine ROps.d (r := AV.optr 0 1 0) (fs := [(0, [AV.i64 0, AV.i64 0, AV.nilsl])]) (Γ' := [⟨1, some [AV.i64 0, AV.i64 0, AV.nilsl]⟩, ⟨0, none⟩, ⟨0, none⟩]) rfl rfl rfl (TOp.alloc_o (g := ⟨0, none⟩) 0 rfl zer40 zok40 rfl) rfl ?_
  refine ROps.l (r := AV.b false) rfl rfl rfl (LOp.assign rfl rfl) ?_
  refine ROps.nil ?_
  refine RunC.seq ?_
  refine RunC.seq ?_
  obtain ⟨r1, hf1, h⟩ := obind_some h
  rcases bsel_some h with ⟨hc2, h⟩ | ⟨hc2, h⟩
  · obtain ⟨r2, hf3, h⟩ := obind_some h
    rcases bsel_some h with ⟨hc4, h⟩ | ⟨hc4, h⟩
    · obtain ⟨r3, hf5, h⟩ := obind_some h
      rcases bsel_some h with ⟨hc6, h⟩ | ⟨hc6, h⟩
      · refine RunC.regionW ?_
        refine ROps.d (r := AV.b true) (fs := []) (Γ' := [⟨1, some [AV.i64 0, AV.i64 0, AV.nilsl]⟩, ⟨0, none⟩, ⟨0, none⟩]) rfl rfl rfl (TOp.eqb (TOp.callB (CallAs.func ent58 rfl rfl) (Bors.cons (Bor.ptr (Bors.cons (Bor.pure rfl) (Bors.cons (Bor.pure rfl) (Bors.cons (Bor.sl (fun _ => rfl)) Bors.nil)))) Bors.nil) rfl rfl (f58_ok a0 a1 a2 r1 hf1)) hc2) rfl ?_
        refine ROps.l (r := AV.b false) rfl rfl rfl (LOp.eqb (LOp.not rfl rfl) rfl) ?_
        refine ROps.l (r := AV.b false) rfl rfl rfl (LOp.move rfl rfl) ?_
        refine ROps.d (r := AV.b true) (fs := []) (Γ' := [⟨1, some [AV.i64 0, AV.i64 0, AV.nilsl]⟩, ⟨0, none⟩, ⟨0, none⟩]) rfl rfl rfl (TOp.eqb (TOp.callB (CallAs.func ent58 rfl rfl) (Bors.cons (Bor.ptr (Bors.cons (Bor.pure rfl) (Bors.cons (Bor.pure rfl) (Bors.cons (Bor.sl (fun _ => rfl)) Bors.nil)))) Bors.nil) rfl rfl (f58_ok a3 a4 a5 r2 hf3)) hc4) rfl ?_
        refine ROps.l (r := AV.b false) rfl rfl rfl (LOp.eqb (LOp.not rfl rfl) rfl) ?_
        refine ROps.l (r := AV.b false) rfl rfl rfl (LOp.pick_false rfl rfl rfl) ?_
        refine ROps.l (r := AV.b false) rfl rfl rfl (LOp.move rfl rfl) ?_
        refine ROps.l (r := AV.i64 a6) rfl rfl rfl (LOp.move rfl rfl) ?_
        refine ROps.l (r := AV.i64 a7) rfl rfl rfl (LOp.move rfl rfl) ?_
        refine ROps.l (r := AV.ptr [AV.i64 a3, AV.i64 a4, AV.sl a5.length (a5.map AV.f32)]) rfl rfl rfl (LOp.fap und40 rfl siz2 rfl rfl rfl) ?_
        refine ROps.l (r := AV.i64 a3) rfl rfl rfl (LOp.load1 agg2 rfl rfl) ?_
        refine ROps.l (r := AV.ptr [AV.i64 a4, AV.sl a5.length (a5.map AV.f32)]) rfl rfl rfl (LOp.fap und40 rfl siz2 rfl rfl rfl) ?_
        refine ROps.l (r := AV.i64 a4) rfl rfl rfl (LOp.load1 agg2 rfl rfl) ?_
        refine ROps.d (r := AV.b true) (fs := []) (Γ' := [⟨1, some [AV.i64 0, AV.i64 0, AV.nilsl]⟩, ⟨0, none⟩, ⟨0, none⟩]) rfl rfl rfl (TOp.eqb (TOp.callB (CallAs.func ent59 rfl rfl) (Bors.cons (Bor.ptr (Bors.cons (Bor.pure rfl) (Bors.cons (Bor.pure rfl) (Bors.cons (Bor.sl (fun _ => rfl)) Bors.nil)))) (Bors.cons (Bor.pure rfl) (Bors.cons (Bor.pure rfl) (Bors.cons (Bor.pure rfl) (Bors.cons (Bor.pure rfl) Bors.nil))))) rfl rfl (f59_ok a0 a1 a2 a6 a7 a3 a4 r3 hf5)) hc6) rfl ?_
        refine ROps.l (r := AV.b false) rfl rfl rfl (LOp.eqb (LOp.not rfl rfl) rfl) ?_
        refine ROps.l (r := AV.b false) rfl rfl rfl (LOp.pick_false rfl rfl rfl) ?_
        refine ROps.nil ?_
        refine RunC.wl (τ' := [(2, AV.i64 a6), (3, AV.i64 a7), (4, AV.ptr [AV.i64 a0, AV.i64 a1, AV.sl a2.length (a2.map AV.f32)]), (5, AV.ptr [AV.i64 a3, AV.i64 a4, AV.sl a5.length (a5.map AV.f32)]), (8, AV.optr 0 1 0), (27, AV.b false)]) (Γ' := [⟨1, some [AV.i64 0, AV.i64 0, AV.nilsl]⟩, ⟨0, none⟩, ⟨0, none⟩]) ⟨(ALe.refl _), (ALe.refl _), (ALe.refl _), (ALe.refl _), (ALe.refl _), (ALe.refl _), trivial⟩ ⟨⟨rfl, .inr rfl⟩, ⟨rfl, .inr rfl⟩, ⟨rfl, .inr rfl⟩, trivial⟩ ?_
        refine RunC.cond_false rfl rfl ?_
        refine RunC.skip ?_
        refine RunC.seq ?_
        obtain ⟨r4, r5, r6, hf7, h⟩ := obind3_some h
        refine RunC.regionW ?_
        refine ROps.d (r := AV.agg [AV.i64 r4, AV.i64 r5, AV.oref 1 1 0 r6.length]) (fs := [(1, (r6.map AV.f32))]) (Γ' := [⟨1, some [AV.i64 0, AV.i64 0, AV.nilsl]⟩, ⟨1, some (r6.map AV.f32)⟩, ⟨0, none⟩]) rfl rfl rfl (TOp.callBN (ls := [(r6.map AV.f32)]) [1] (CallAs.func ent60 rfl rfl) (Bors.cons (Bor.ptr (Bors.cons (Bor.pure rfl) (Bors.cons (Bor.pure rfl) (Bors.cons (Bor.sl (fun _ => rfl)) Bors.nil)))) Bors.nil) rfl (f60_ok a0 a1 a2 r4 r5 r6 hf7) (and_all (lts0_map (f := AV.f32) (fun _ => rfl) _) rfl) (and_all (noss_map (f := AV.f32) (fun _ => rfl) _) rfl) rfl (by decide) (ns_of ⟨⟨_, rfl⟩, trivial⟩)) rfl ?_
        refine ROps.d (r := AV.optr 2 1 0) (fs := [(2, [AV.i64 0, AV.i64 0, AV.nilsl])]) (Γ' := [⟨1, some [AV.i64 0, AV.i64 0, AV.nilsl]⟩, ⟨1, some (r6.map AV.f32)⟩, ⟨1, some [AV.i64 0, AV.i64 0, AV.nilsl]⟩]) rfl rfl rfl (TOp.alloc_o (g := ⟨0, none⟩) 2 rfl zer40 zok40 rfl) rfl ?_
        refine ROps.store_le (r := AV.agg [AV.i64 r4, AV.i64 r5, AV.oref 1 1 0 r6.length]) (l' := [AV.i64 r4, AV.i64 r5, AV.oref 1 1 0 r6.length]) (Γ' := [⟨1, some [AV.i64 0, AV.i64 0, AV.nilsl]⟩, ⟨1, some (r6.map AV.f32)⟩, ⟨1, some [AV.i64 r4, AV.i64 r5, AV.oref 1 1 0 r6.length]⟩]) rfl siz40 rfl rfl rfl (ALe.refl _) rfl rfl rfl rfl (Nat.le_of_ble_eq_true rfl) rfl rfl ?_
        refine ROps.nil ?_
        refine RunC.seq ?_
        refine RunC.seq ?_
        refine RunC.regionW ?_
        refine ROps.l (r := AV.i64 0) rfl rfl rfl (LOp.assign rfl rfl) ?_
        refine ROps.nil ?_
        obtain ⟨z2, hz_2, h⟩ := obind_some h
        refine RunC.cutN (fun τ Γ => ∃ (L20 : List F), L20.length = r6.length ∧ WeakLe τ [(8, AV.optr 0 1 0), (10, AV.optr 2 1 0)] ∧ DeadLe Γ [⟨1, some [AV.i64 0, AV.i64 0, AV.nilsl]⟩, ⟨1, some (L20.map AV.f32)⟩, ⟨1, some [AV.i64 r4, AV.i64 r5, AV.oref 1 1 0 r6.length]⟩] ∧ z2 = .inl L20) ?_ ?_
        · refine RunC.block (RunC.loop (RunL.loopM (x := z2) (f25_s1 a1 a3 a4 a5 a6 a7) (fun (s : (List F) × Int) τ Γ => s.1.length = r6.length ∧ WeakLe τ [(2, AV.i64 a6), (3, AV.i64 a7), (4, AV.ptr [AV.i64 a0, AV.i64 a1, AV.sl a2.length (a2.map AV.f32)]), (5, AV.ptr [AV.i64 a3, AV.i64 a4, AV.sl a5.length (a5.map AV.f32)]), (8, AV.optr 0 1 0), (10, AV.optr 2 1 0), (11, AV.i64 s.2)] ∧ DeadLe Γ [⟨1, some [AV.i64 0, AV.i64 0, AV.nilsl]⟩, ⟨1, some (s.1.map AV.f32)⟩, ⟨1, some [AV.i64 r4, AV.i64 r5, AV.oref 1 1 0 r6.length]⟩]) ?_ _ _ _ hz_2 ⟨rfl, ⟨(ALe.refl _), (ALe.refl _), (ALe.refl _), (ALe.refl _), (ALe.refl _), (ALe.refl _), (ALe.refl _), trivial⟩, ⟨⟨rfl, .inr rfl⟩, ⟨rfl, .inr rfl⟩, ⟨rfl, .inr rfl⟩, trivial⟩⟩))
          rintro ⟨L7, v9⟩ τ2 Γ2 y2_ ⟨hl8, hw2, hd2⟩ h2_ ho2 hr2
          refine RunC.wl (τ' := [(2, AV.i64 a6), (3, AV.i64 a7), (4, AV.ptr [AV.i64 a0, AV.i64 a1, AV.sl a2.length (a2.map AV.f32)]), (5, AV.ptr [AV.i64 a3, AV.i64 a4, AV.sl a5.length (a5.map AV.f32)]), (8, AV.optr 0 1 0), (10, AV.optr 2 1 0), (11, AV.i64 v9)]) (Γ' := [⟨1, some [AV.i64 0, AV.i64 0, AV.nilsl]⟩, ⟨1, some (L7.map AV.f32)⟩, ⟨1, some [AV.i64 r4, AV.i64 r5, AV.oref 1 1 0 r6.length]⟩]) hw2 hd2 ?_
          replace hl8 : L7.length = r6.length := hl8
          replace h2_ : f25_b1 a1 a3 a4 a5 a6 a7 L7 v9 = some y2_ := h2_
          unfold f25_b1 at h2_
          refine RunC.seq ?_
          refine RunC.seq ?_
          obtain ⟨x10, hx8, h2_⟩ := olet_some h2_
          rcases bsel_some h2_ with ⟨hc9, h2_⟩ | ⟨hc9, h2_⟩
          · refine RunC.regionW ?_
            refine ROps.l (r := AV.i64 v9) rfl rfl rfl (LOp.move rfl rfl) ?_
            refine ROps.l (r := AV.ptr [AV.i64 a3, AV.i64 a4, AV.sl a5.length (a5.map AV.f32)]) rfl rfl rfl (LOp.fap und40 rfl siz2 rfl rfl rfl) ?_
            refine ROps.l (r := AV.i64 a3) rfl rfl rfl (LOp.load1 agg2 rfl rfl) ?_
            refine ROps.l (r := AV.ptr [AV.i64 a4, AV.sl a5.length (a5.map AV.f32)]) rfl rfl rfl (LOp.fap und40 rfl siz2 rfl rfl rfl) ?_
            refine ROps.l (r := AV.i64 a4) rfl rfl rfl (LOp.load1 agg2 rfl rfl) ?_
            refine ROps.l (r := AV.i64 x10) rfl rfl rfl (LOp.eqr (LOp.mul rfl rfl rfl) (congrArg (AV.ik .i64) hx8)) ?_
            refine ROps.l (r := AV.b true) rfl rfl rfl (LOp.eqb (LOp.lss rfl rfl rfl) hc9) ?_
            refine ROps.nil ?_
            refine RunC.cond_true rfl rfl ?_
            refine RunC.skip ?_
            refine RunC.seq ?_
            refine RunC.block ?_
            obtain ⟨hz10, h2_⟩ := need_some h2_
            obtain ⟨x11, hx11, h2_⟩ := olet_some h2_
            obtain ⟨x12, hx12, h2_⟩ := olet_some h2_
            obtain ⟨x13, hx13, h2_⟩ := olet_some h2_
            obtain ⟨x14, hx14, h2_⟩ := olet_some h2_
            obtain ⟨hz15, h2_⟩ := need_some h2_
            obtain ⟨x15, hx16, h2_⟩ := olet_some h2_
            obtain ⟨x16, hx17, h2_⟩ := olet_some h2_
            obtain ⟨e17, he18, h2_⟩ := obind_some h2_
            obtain ⟨L18, he19, h2_⟩ := obind_some h2_
            refine RunC.region_draw (Γ' := [⟨1, some [AV.i64 0, AV.i64 0, AV.nilsl]⟩, ⟨1, some (L7.map AV.f32)⟩, ⟨1, some [AV.i64 r4, AV.i64 r5, AV.oref 1 1 0 r6.length]⟩]) 24 mixed 
              (TR.l (r := AV.optr 2 1 2) rfl rfl (LOp.fao und40 rfl siz38 rfl rfl rfl) <|
              (TR.d (r := AV.oref 1 1 0 r6.length) (fs := []) rfl rfl (TOp.load1_o rfl rfl agg38 rfl rfl) <|
              (TR.l (r := AV.i64 a6) rfl rfl (LOp.move rfl rfl) <|
              (TR.l (r := AV.i64 v9) rfl rfl (LOp.move rfl rfl) <|
              (TR.l (r := AV.ptr [AV.i64 a4, AV.sl a5.length (a5.map AV.f32)]) rfl rfl (LOp.fap und40 rfl siz2 rfl rfl rfl) <|
              (TR.l (r := AV.i64 a4) rfl rfl (LOp.load1 agg2 rfl rfl) <|
              (TR.l (r := AV.i64 x11) rfl rfl (LOp.eqr (LOp.quo rfl rfl rfl (nz hz10)) (congrArg (AV.ik .i64) hx11)) <|
              (TR.l (r := AV.i64 x12) rfl rfl (LOp.eqr (LOp.add rfl rfl rfl) (congrArg (AV.ik .i64) hx12)) <|
              (TR.l (r := AV.ptr [AV.i64 a1, AV.sl a2.length (a2.map AV.f32)]) rfl rfl (LOp.fap und40 rfl siz2 rfl rfl rfl) <|
              (TR.l (r := AV.i64 a1) rfl rfl (LOp.load1 agg2 rfl rfl) <|
              (TR.l (r := AV.i64 x13) rfl rfl (LOp.eqr (LOp.mul rfl rfl rfl) (congrArg (AV.ik .i64) hx13)) <|
              (TR.l (r := AV.i64 a7) rfl rfl (LOp.move rfl rfl) <|
              (TR.l (r := AV.i64 x14) rfl rfl (LOp.eqr (LOp.add rfl rfl rfl) (congrArg (AV.ik .i64) hx14)) <|
              (TR.l (r := AV.i64 v9) rfl rfl (LOp.move rfl rfl) <|
              (TR.l (r := AV.ptr [AV.i64 a4, AV.sl a5.length (a5.map AV.f32)]) rfl rfl (LOp.fap und40 rfl siz2 rfl rfl rfl) <|
              (TR.l (r := AV.i64 a4) rfl rfl (LOp.load1 agg2 rfl rfl) <|
              (TR.l (r := AV.i64 x15) rfl rfl (LOp.eqr (LOp.rem rfl rfl rfl (nz hz15)) (congrArg (AV.ik .i64) hx16)) <|
              (TR.l (r := AV.i64 x16) rfl rfl (LOp.eqr (LOp.add rfl rfl rfl) (congrArg (AV.ik .i64) hx17)) <|
              (TR.l (r := AV.ptr [AV.sl a5.length (a5.map AV.f32)]) rfl rfl (LOp.fap und40 rfl siz38 rfl rfl rfl) <|
              (TR.l (r := AV.sl a5.length (a5.map AV.f32)) rfl rfl (LOp.load1 agg38 rfl rfl) <|
              (TR.l (r := AV.i64 v9) rfl rfl (LOp.move rfl rfl) <|
              (TR.l (r := AV.ptr [AV.f32 e17]) rfl rfl (LOp.le (LOp.ix (f := AV.f32) und38 siz34 rfl rfl rfl rfl he18) ALe.ptr) <|
              (TR.l (r := AV.f32 e17) rfl rfl (LOp.load1 agg34 rfl rfl) <|
              (TR.d (r := AV.optr 1 1 x16.toNat) (fs := []) rfl rfl (TOp.ixo und38 siz34 rfl rfl rfl (set_in he19 hl8) rfl) <|
              TR.nil)))))))))))))))))))))))) rfl (by kernel_rfl) rfl fills_nil rfl ?_
            iterate 24 refine ROps.dropS ?_
            refine ROps.drop0 ?_
            refine ROps.st (f := AV.f32) (i := x16) (Γ' := [⟨1, some [AV.i64 0, AV.i64 0, AV.nilsl]⟩, ⟨1, some (L18.map AV.f32)⟩, ⟨1, some [AV.i64 r4, AV.i64 r5, AV.oref 1 1 0 r6.length]⟩]) rfl siz34 rfl rfl rfl (ALe.refl _) rfl rfl rfl he19 rfl ?_
            refine ROps.nil ?_
            refine RunC.wl (τ' := [(2, AV.i64 a6), (3, AV.i64 a7), (4, AV.ptr [AV.i64 a0, AV.i64 a1, AV.sl a2.length (a2.map AV.f32)]), (5, AV.ptr [AV.i64 a3, AV.i64 a4, AV.sl a5.length (a5.map AV.f32)]), (8, AV.optr 0 1 0), (10, AV.optr 2 1 0), (11, AV.i64 v9)]) (Γ' := [⟨1, some [AV.i64 0, AV.i64 0, AV.nilsl]⟩, ⟨1, some (L18.map AV.f32)⟩, ⟨1, some [AV.i64 r4, AV.i64 r5, AV.oref 1 1 0 r6.length]⟩]) ⟨(ALe.refl _), (ALe.refl _), (ALe.refl _), (ALe.refl _), (ALe.refl _), (ALe.refl _), (ALe.refl _), trivial⟩ ⟨⟨rfl, .inr rfl⟩, ⟨rfl, .inr rfl⟩, ⟨rfl, .inr rfl⟩, trivial⟩ ?_
            obtain ⟨x19, hx20, h2_⟩ := olet_some h2_
            refine RunC.regionW ?_
            refine ROps.l (r := AV.i64 v9) rfl rfl rfl (LOp.move rfl rfl) ?_
            refine ROps.l (r := AV.i64 x19) rfl rfl rfl (LOp.eqr (LOp.add rfl rfl rfl) (congrArg (AV.ik .i64) hx20)) ?_
            refine ROps.l (r := AV.i64 x19) rfl rfl rfl (LOp.assign rfl rfl) ?_
            refine ROps.nil ?_
            cases Option.some.inj h2_
            exact ⟨_, rfl, ((setAt?_len he19).trans hl8), ⟨(ALe.refl _), (ALe.refl _), (ALe.refl _), (ALe.refl _), (ALe.refl _), (ALe.refl _), (ALe.refl _), trivial⟩, ⟨⟨rfl, .inr rfl⟩, ⟨rfl, .inr rfl⟩, ⟨rfl, .inr rfl⟩, trivial⟩⟩
          · refine RunC.regionW ?_
            refine ROps.l (r := AV.i64 v9) rfl rfl rfl (LOp.move rfl rfl) ?_
            refine ROps.l (r := AV.ptr [AV.i64 a3, AV.i64 a4, AV.sl a5.length (a5.map AV.f32)]) rfl rfl rfl (LOp.fap und40 rfl siz2 rfl rfl rfl) ?_
            refine ROps.l (r := AV.i64 a3) rfl rfl rfl (LOp.load1 agg2 rfl rfl) ?_
            refine ROps.l (r := AV.ptr [AV.i64 a4, AV.sl a5.length (a5.map AV.f32)]) rfl rfl rfl (LOp.fap und40 rfl siz2 rfl rfl rfl) ?_
            refine ROps.l (r := AV.i64 a4) rfl rfl rfl (LOp.load1 agg2 rfl rfl) ?_
            refine ROps.l (r := AV.i64 x10) rfl rfl rfl (LOp.eqr (LOp.mul rfl rfl rfl) (congrArg (AV.ik .i64) hx8)) ?_
            refine ROps.l (r := AV.b false) rfl rfl rfl (LOp.eqb (LOp.lss rfl rfl rfl) hc9) ?_
            refine ROps.nil ?_
            refine RunC.cond_false rfl rfl ?_
            refine RunC.exit ?_
            cases Option.some.inj h2_
            have hx := ho2 _ rfl
            exact ⟨L7, hl8, ⟨(ALe.refl _), (ALe.refl _), trivial⟩, ⟨⟨rfl, .inr rfl⟩, ⟨rfl, .inr rfl⟩, ⟨rfl, .inr rfl⟩, trivial⟩, hx⟩
        · rintro τ3 Γ3 ⟨L20, hl21, hw3, hd3, rfl⟩
          refine RunC.wl (τ' := [(8, AV.optr 0 1 0), (10, AV.optr 2 1 0)]) (Γ' := [⟨1, some [AV.i64 0, AV.i64 0, AV.nilsl]⟩, ⟨1, some (L20.map AV.f32)⟩, ⟨1, some [AV.i64 r4, AV.i64 r5, AV.oref 1 1 0 r6.length]⟩]) hw3 hd3 ?_
          replace h : f25_k1 r4 r5 L20 = some (q0, q1, q2, q3) := h
          unfold f25_k1 at h
          refine RunC.seq ?_
          refine RunC.regionW ?_
          refine ROps.d (r := AV.agg [AV.i64 r4, AV.i64 r5, AV.oref 1 1 0 r6.length]) (fs := []) (Γ' := [⟨1, some [AV.i64 0, AV.i64 0, AV.nilsl]⟩, ⟨1, some (L20.map AV.f32)⟩, ⟨1, some [AV.i64 r4, AV.i64 r5, AV.oref 1 1 0 r6.length]⟩]) rfl rfl rfl (TOp.loadAgg_o rfl agg40 siz40 rfl rfl rfl rfl) rfl ?_
          refine ROps.store_le (r := AV.agg [AV.i64 r4, AV.i64 r5, AV.oref 1 1 0 r6.length]) (l' := [AV.i64 r4, AV.i64 r5, AV.oref 1 1 0 r6.length]) (Γ' := [⟨1, some [AV.i64 r4, AV.i64 r5, AV.oref 1 1 0 r6.length]⟩, ⟨1, some (L20.map AV.f32)⟩, ⟨1, some [AV.i64 r4, AV.i64 r5, AV.oref 1 1 0 r6.length]⟩]) rfl siz40 rfl rfl rfl (ALe.refl _) rfl rfl rfl rfl (Nat.le_of_ble_eq_true rfl) rfl rfl ?_
          refine ROps.l (r := AV.b true) rfl rfl rfl (LOp.assign rfl rfl) ?_
          refine ROps.nil ?_
          refine RunC.ret ?_
          have hq := Option.some.inj h
          obtain ⟨hq0, hq⟩ := Prod.mk.inj hq
          obtain ⟨hq1, hq⟩ := Prod.mk.inj hq
          obtain ⟨hq2, hq⟩ := Prod.mk.inj hq
          subst q0
          subst q1
          subst q2
          subst q3
          exact bodyQ.mk (r' := AV.tup [AV.agg [AV.i64 r4, AV.i64 r5, AV.oref 1 1 0 L20.length], AV.b true]) [(1, 1)] (.inr rfl) rfl (by decide) rfl rfl (Res.eq (Res.two rfl (RV.cell agg40 siz40 rfl rfl rfl rfl) (RV.tmp rfl)) (by rw [(show L20.length = r6.length from hl21)] <;> rfl)) (SelL.arr0 (f := AV.f32) (fun _ => rfl) rfl trivial)
      · refine RunC.regionW ?_
        refine ROps.d (r := AV.b true) (fs := []) (Γ' := [⟨1, some [AV.i64 0, AV.i64 0, AV.nilsl]⟩, ⟨0, none⟩, ⟨0, none⟩]) rfl rfl rfl (TOp.eqb (TOp.callB (CallAs.func ent58 rfl rfl) (Bors.cons (Bor.ptr (Bors.cons (Bor.pure rfl) (Bors.cons (Bor.pure rfl) (Bors.cons (Bor.sl (fun _ => rfl)) Bors.nil)))) Bors.nil) rfl rfl (f58_ok a0 a1 a2 r1 hf1)) hc2) rfl ?_
        refine ROps.l (r := AV.b false) rfl rfl rfl (LOp.eqb (LOp.not rfl rfl) rfl) ?_
        refine ROps.l (r := AV.b false) rfl rfl rfl (LOp.move rfl rfl) ?_
        refine ROps.d (r := AV.b true) (fs := []) (Γ' := [⟨1, some [AV.i64 0, AV.i64 0, AV.nilsl]⟩, ⟨0, none⟩, ⟨0, none⟩]) rfl rfl rfl (TOp.eqb (TOp.callB (CallAs.func ent58 rfl rfl) (Bors.cons (Bor.ptr (Bors.cons (Bor.pure rfl) (Bors.cons (Bor.pure rfl) (Bors.cons (Bor.sl (fun _ => rfl)) Bors.nil)))) Bors.nil) rfl rfl (f58_ok a3 a4 a5 r2 hf3)) hc4) rfl ?_
        refine ROps.l (r := AV.b false) rfl rfl rfl (LOp.eqb (LOp.not rfl rfl) rfl) ?_
        refine ROps.l (r := AV.b false) rfl rfl rfl (LOp.pick_false rfl rfl rfl) ?_
        refine ROps.l (r := AV.b false) rfl rfl rfl (LOp.move rfl rfl) ?_
        refine ROps.l (r := AV.i64 a6) rfl rfl rfl (LOp.move rfl rfl) ?_
        refine ROps.l (r := AV.i64 a7) rfl rfl rfl (LOp.move rfl rfl) ?_
        refine ROps.l (r := AV.ptr [AV.i64 a3, AV.i64 a4, AV.sl a5.length (a5.map AV.f32)]) rfl rfl rfl (LOp.fap und40 rfl siz2 rfl rfl rfl) ?_
        refine ROps.l (r := AV.i64 a3) rfl rfl rfl (LOp.load1 agg2 rfl rfl) ?_
        refine ROps.l (r := AV.ptr [AV.i64 a4, AV.sl a5.length (a5.map AV.f32)]) rfl rfl rfl (LOp.fap und40 rfl siz2 rfl rfl rfl) ?_
        refine ROps.l (r := AV.i64 a4) rfl rfl rfl (LOp.load1 agg2 rfl rfl) ?_
        refine ROps.d (r := AV.b false) (fs := []) (Γ' := [⟨1, some [AV.i64 0, AV.i64 0, AV.nilsl]⟩, ⟨0, none⟩, ⟨0, none⟩]) rfl rfl rfl (TOp.eqb (TOp.callB (CallAs.func ent59 rfl rfl) (Bors.cons (Bor.ptr (Bors.cons (Bor.pure rfl) (Bors.cons (Bor.pure rfl) (Bors.cons (Bor.sl (fun _ => rfl)) Bors.nil)))) (Bors.cons (Bor.pure rfl) (Bors.cons (Bor.pure rfl) (Bors.cons (Bor.pure rfl) (Bors.cons (Bor.pure rfl) Bors.nil))))) rfl rfl (f59_ok a0 a1 a2 a6 a7 a3 a4 r3 hf5)) hc6) rfl ?_
        refine ROps.l (r := AV.b true) rfl rfl rfl (LOp.eqb (LOp.not rfl rfl) rfl) ?_
        refine ROps.l (r := AV.b true) rfl rfl rfl (LOp.pick_false rfl rfl rfl) ?_
        refine ROps.nil ?_
        refine RunC.wl (τ' := [(2, AV.i64 a6), (3, AV.i64 a7), (4, AV.ptr [AV.i64 a0, AV.i64 a1, AV.sl a2.length (a2.map AV.f32)]), (5, AV.ptr [AV.i64 a3, AV.i64 a4, AV.sl a5.length (a5.map AV.f32)]), (8, AV.optr 0 1 0), (27, AV.b true)]) (Γ' := [⟨1, some [AV.i64 0, AV.i64 0, AV.nilsl]⟩, ⟨0, none⟩, ⟨0, none⟩]) ⟨(ALe.refl _), (ALe.refl _), (ALe.refl _), (ALe.refl _), (ALe.refl _), (ALe.refl _), trivial⟩ ⟨⟨rfl, .inr rfl⟩, ⟨rfl, .inr rfl⟩, ⟨rfl, .inr rfl⟩, trivial⟩ ?_
        refine RunC.cond_true rfl rfl ?_
        refine RunC.seq ?_
        refine RunC.regionW ?_
        refine ROps.l (r := AV.agg [AV.i64 0, AV.i64 0, AV.nilsl]) rfl rfl rfl (LOp.build (qs := []) zer40 zok40 und40 plc40 rfl trivial rfl) ?_
        refine ROps.store_le (r := AV.agg [AV.i64 0, AV.i64 0, AV.nilsl]) (l' := [AV.i64 0, AV.i64 0, AV.nilsl]) (Γ' := [⟨1, some [AV.i64 0, AV.i64 0, AV.nilsl]⟩, ⟨0, none⟩, ⟨0, none⟩]) rfl siz40 rfl rfl rfl (ALe.refl _) rfl rfl rfl rfl (Nat.le_of_ble_eq_true rfl) rfl rfl ?_
        refine ROps.l (r := AV.b false) rfl rfl rfl (LOp.assign rfl rfl) ?_
        refine ROps.nil ?_
        refine RunC.nil_cell (l' := [AV.i64 0, AV.i64 0, AV.oref 1 1 0 0]) (Γ' := [⟨1, some [AV.i64 0, AV.i64 0, AV.oref 1 1 0 0]⟩, ⟨1, some (([] : List F).map AV.f32)⟩, ⟨0, none⟩]) 0 2 1 rfl rfl rfl rfl rfl ?_
        refine RunC.ret ?_
        have hq := Option.some.inj h
        obtain ⟨hq0, hq⟩ := Prod.mk.inj hq
        obtain ⟨hq1, hq⟩ := Prod.mk.inj hq
        obtain ⟨hq2, hq⟩ := Prod.mk.inj hq
        subst q0
        subst q1
        subst q2
        subst q3
        exact bodyQ.mk (r' := AV.tup [AV.agg [AV.i64 0, AV.i64 0, AV.oref 1 1 0 (([] : List F).length)], AV.b false]) [(1, 1)] (.inr rfl) rfl (by decide) rfl rfl (Res.eq (Res.two rfl (RV.cell agg40 siz40 rfl rfl rfl rfl) (RV.tmp rfl)) (by rw [(show ([] : List F).length = 0 from rfl)] <;> rfl)) (SelL.arr0 (f := AV.f32) (fun _ => rfl) rfl trivial)
    · refine RunC.regionW ?_
      refine ROps.d (r := AV.b true) (fs := []) (Γ' := [⟨1, some [AV.i64 0, AV.i64 0, AV.nilsl]⟩, ⟨0, none⟩, ⟨0, none⟩]) rfl rfl rfl (TOp.eqb (TOp.callB (CallAs.func ent58 rfl rfl) (Bors.cons (Bor.ptr (Bors.cons (Bor.pure rfl) (Bors.cons (Bor.pure rfl) (Bors.cons (Bor.sl (fun _ => rfl)) Bors.nil)))) Bors.nil) rfl rfl (f58_ok a0 a1 a2 r1 hf1)) hc2) rfl ?_
      refine ROps.l (r := AV.b false) rfl rfl rfl (LOp.eqb (LOp.not rfl rfl) rfl) ?_
      refine ROps.l (r := AV.b false) rfl rfl rfl (LOp.move rfl rfl) ?_
      refine ROps.d (r := AV.b false) (fs := []) (Γ' := [⟨1, some [AV.i64 0, AV.i64 0, AV.nilsl]⟩, ⟨0, none⟩, ⟨0, none⟩]) rfl rfl rfl (TOp.eqb (TOp.callB (CallAs.func ent58 rfl rfl) (Bors.cons (Bor.ptr (Bors.cons (Bor.pure rfl) (Bors.cons (Bor.pure rfl) (Bors.cons (Bor.sl (fun _ => rfl)) Bors.nil)))) Bors.nil) rfl rfl (f58_ok a3 a4 a5 r2 hf3)) hc4) rfl ?_
      refine ROps.l (r := AV.b true) rfl rfl rfl (LOp.eqb (LOp.not rfl rfl) rfl) ?_
      refine ROps.l (r := AV.b true) rfl rfl rfl (LOp.pick_false rfl rfl rfl) ?_
      refine ROps.l (r := AV.b true) rfl rfl rfl (LOp.move rfl rfl) ?_
      refine ROps.s rfl rfl rfl ?_
      refine ROps.s rfl rfl rfl ?_
      refine ROps.s rfl rfl rfl ?_
      refine ROps.s rfl rfl rfl ?_
      refine ROps.s rfl rfl rfl ?_
      refine ROps.s rfl rfl rfl ?_
      refine ROps.s rfl rfl rfl ?_
      refine ROps.s rfl rfl rfl ?_
      refine ROps.l (r := AV.b true) rfl rfl rfl (LOp.pick_true rfl rfl rfl) ?_
      refine ROps.nil ?_
      refine RunC.wl (τ' := [(2, AV.i64 a6), (3, AV.i64 a7), (4, AV.ptr [AV.i64 a0, AV.i64 a1, AV.sl a2.length (a2.map AV.f32)]), (5, AV.ptr [AV.i64 a3, AV.i64 a4, AV.sl a5.length (a5.map AV.f32)]), (8, AV.optr 0 1 0), (27, AV.b true)]) (Γ' := [⟨1, some [AV.i64 0, AV.i64 0, AV.nilsl]⟩, ⟨0, none⟩, ⟨0, none⟩]) ⟨(ALe.refl _), (ALe.refl _), (ALe.refl _), (ALe.refl _), (ALe.refl _), (ALe.refl _), trivial⟩ ⟨⟨rfl, .inr rfl⟩, ⟨rfl, .inr rfl⟩, ⟨rfl, .inr rfl⟩, trivial⟩ ?_
      refine RunC.cond_true rfl rfl ?_
      refine RunC.seq ?_
      refine RunC.regionW ?_
      refine ROps.l (r := AV.agg [AV.i64 0, AV.i64 0, AV.nilsl]) rfl rfl rfl (LOp.build (qs := []) zer40 zok40 und40 plc40 rfl trivial rfl) ?_
      refine ROps.store_le (r := AV.agg [AV.i64 0, AV.i64 0, AV.nilsl]) (l' := [AV.i64 0, AV.i64 0, AV.nilsl]) (Γ' := [⟨1, some [AV.i64 0, AV.i64 0, AV.nilsl]⟩, ⟨0, none⟩, ⟨0, none⟩]) rfl siz40 rfl rfl rfl (ALe.refl _) rfl rfl rfl rfl (Nat.le_of_ble_eq_true rfl) rfl rfl ?_
      refine ROps.l (r := AV.b false) rfl rfl rfl (LOp.assign rfl rfl) ?_
      refine ROps.nil ?_
      refine RunC.nil_cell (l' := [AV.i64 0, AV.i64 0, AV.oref 1 1 0 0]) (Γ' := [⟨1, some [AV.i64 0, AV.i64 0, AV.oref 1 1 0 0]⟩, ⟨1, some (([] : List F).map AV.f32)⟩, ⟨0, none⟩]) 0 2 1 rfl rfl rfl rfl rfl ?_
      refine RunC.ret ?_
      have hq := Option.some.inj h
      obtain ⟨hq0, hq⟩ := Prod.mk.inj hq
      obtain ⟨hq1, hq⟩ := Prod.mk.inj hq
      obtain ⟨hq2, hq⟩ := Prod.mk.inj hq
      subst q0
      subst q1
      subst q2
      subst q3
      exact bodyQ.mk (r' := AV.tup [AV.agg [AV.i64 0, AV.i64 0, AV.oref 1 1 0 (([] : List F).length)], AV.b false]) [(1, 1)] (.inr rfl) rfl (by decide) rfl rfl (Res.eq (Res.two rfl (RV.cell agg40 siz40 rfl rfl rfl rfl) (RV.tmp rfl)) (by rw [(show ([] : List F).length = 0 from rfl)] <;> rfl)) (SelL.arr0 (f := AV.f32) (fun _ => rfl) rfl trivial)
  · refine RunC.regionW ?_
    refine ROps.d (r := AV.b false) (fs := []) (Γ' := [⟨1, some [AV.i64 0, AV.i64 0, AV.nilsl]⟩, ⟨0, none⟩, ⟨0, none⟩]) rfl rfl rfl (TOp.eqb (TOp.callB (CallAs.func ent58 rfl rfl) (Bors.cons (Bor.ptr (Bors.cons (Bor.pure rfl) (Bors.cons (Bor.pure rfl) (Bors.cons (Bor.sl (fun _ => rfl)) Bors.nil)))) Bors.nil) rfl rfl (f58_ok a0 a1 a2 r1 hf1)) hc2) rfl ?_
    refine ROps.l (r := AV.b true) rfl rfl rfl (LOp.eqb (LOp.not rfl rfl) rfl) ?_
    refine ROps.l (r := AV.b true) rfl rfl rfl (LOp.move rfl rfl) ?_
    refine ROps.s rfl rfl rfl ?_
    refine ROps.s rfl rfl rfl ?_
    refine ROps.l (r := AV.b true) rfl rfl rfl (LOp.pick_true rfl rfl rfl) ?_
    refine ROps.l (r := AV.b true) rfl rfl rfl (LOp.move rfl rfl) ?_
    refine ROps.s rfl rfl rfl ?_
    refine ROps.s rfl rfl rfl ?_
    refine ROps.s rfl rfl rfl ?_
    refine ROps.s rfl rfl rfl ?_
    refine ROps.s rfl rfl rfl ?_
    refine ROps.s rfl rfl rfl ?_
    refine ROps.s rfl rfl rfl ?_
    refine ROps.s rfl rfl rfl ?_
    refine ROps.l (r := AV.b true) rfl rfl rfl (LOp.pick_true rfl rfl rfl) ?_
    refine ROps.nil ?_
    refine RunC.wl (τ' := [(2, AV.i64 a6), (3, AV.i64 a7), (4, AV.ptr [AV.i64 a0, AV.i64 a1, AV.sl a2.length (a2.map AV.f32)]), (5, AV.ptr [AV.i64 a3, AV.i64 a4, AV.sl a5.length (a5.map AV.f32)]), (8, AV.optr 0 1 0), (27, AV.b true)]) (Γ' := [⟨1, some [AV.i64 0, AV.i64 0, AV.nilsl]⟩, ⟨0, none⟩, ⟨0, none⟩]) ⟨(ALe.refl _), (ALe.refl _), (ALe.refl _), (ALe.refl _), (ALe.refl _), (ALe.refl _), trivial⟩ ⟨⟨rfl, .inr rfl⟩, ⟨rfl, .inr rfl⟩, ⟨rfl, .inr rfl⟩, trivial⟩ ?_
    refine RunC.cond_true rfl rfl ?_
    refine RunC.seq ?_
    refine RunC.regionW ?_
    refine ROps.l (r := AV.agg [AV.i64 0, AV.i64 0, AV.nilsl]) rfl rfl rfl (LOp.build (qs := []) zer40 zok40 und40 plc40 rfl trivial rfl) ?_
    refine ROps.store_le (r := AV.agg [AV.i64 0, AV.i64 0, AV.nilsl]) (l' := [AV.i64 0, AV.i64 0, AV.nilsl]) (Γ' := [⟨1, some [AV.i64 0, AV.i64 0, AV.nilsl]⟩, ⟨0, none⟩, ⟨0, none⟩]) rfl siz40 rfl rfl rfl (ALe.refl _) rfl rfl rfl rfl (Nat.le_of_ble_eq_true rfl) rfl rfl ?_
    refine ROps.l (r := AV.b false) rfl rfl rfl (LOp.assign rfl rfl) ?_
    refine ROps.nil ?_
    refine RunC.nil_cell (l' := [AV.i64 0, AV.i64 0, AV.oref 1 1 0 0]) (Γ' := [⟨1, some [AV.i64 0, AV.i64 0, AV.oref 1 1 0 0]⟩, ⟨1, some (([] : List F).map AV.f32)⟩, ⟨0, none⟩]) 0 2 1 rfl rfl rfl rfl rfl ?_
    refine RunC.ret ?_
    have hq := Option.some.inj h
    obtain ⟨hq0, hq⟩ := Prod.mk.inj hq
    obtain ⟨hq1, hq⟩ := Prod.mk.inj hq
    obtain ⟨hq2, hq⟩ := Prod.mk.inj hq
    subst q0
    subst q1
    subst q2
    subst q3
    exact bodyQ.mk (r' := AV.tup [AV.agg [AV.i64 0, AV.i64 0, AV.oref 1 1 0 (([] : List F).length)], AV.b false]) [(1, 1)] (.inr rfl) rfl (by decide) rfl rfl (Res.eq (Res.two rfl (RV.cell agg40 siz40 rfl rfl rfl rfl) (RV.tmp rfl)) (by rw [(show ([] : List F).length = 0 from rfl)] <;> rfl)) (SelL.arr0 (f := AV.f32) (fun _ => rfl) rfl trivial)
noncomputable def f103 (a0 : Int) (a1 : Int) (a2 : Int) : Option (Bool) :=
  bsel (decide (a1 ≤ a0)) (
    some (decide (a0 ≤ a2))) (
    some false)
theorem f103_ok (a0 : Int) (a1 : Int) (a2 : Int) (q0 : Bool) (h : f103 a0 a1 a2 = some q0) : Ev Try.prog 103 [AV.i64 a0, AV.i64 a1, AV.i64 a2] [] (AV.b q0) [] := by
  refine Ev.start Try.func103 rfl rfl 0 (τ := [(0, AV.i64 a0), (1, AV.i64 a1), (2, AV.i64 a2)]) rfl (Γ' := []) rfl (n := 15) rfl (g := 0) rfl ?_
  unfold f103 at h
  refine RunC.seq ?_
  refine RunC.regionW ?_
  refine ROps.l (r := AV.b false) rfl rfl rfl (LOp.assign rfl rfl) ?_
  refine ROps.nil ?_
  refine RunC.seq ?_
  rcases bsel_some h with ⟨hc1, h⟩ | ⟨hc1, h⟩
  · refine RunC.regionW ?_
    refine ROps.l (r := AV.i64 a1) rfl rfl rfl (LOp.move rfl rfl) ?_
    refine ROps.l (r := AV.i64 a0) rfl rfl rfl (LOp.move rfl rfl) ?_
    refine ROps.l (r := AV.b true) rfl rfl rfl (LOp.eqb (LOp.leq rfl rfl rfl) hc1) ?_
    refine ROps.l (r := AV.b true) rfl rfl rfl (LOp.move rfl rfl) ?_
    refine ROps.l (r := AV.i64 a0) rfl rfl rfl (LOp.move rfl rfl) ?_
    refine ROps.l (r := AV.i64 a2) rfl rfl rfl (LOp.move rfl rfl) ?_
    refine ROps.l (r := AV.b (decide (a0 ≤ a2))) rfl rfl rfl (LOp.leq rfl rfl rfl) ?_
    refine ROps.l (r := AV.b (decide (a0 ≤ a2))) rfl rfl rfl (LOp.pick_true rfl rfl rfl) ?_
    refine ROps.l (r := AV.b (decide (a0 ≤ a2))) rfl rfl rfl (LOp.assign rfl rfl) ?_
    refine ROps.nil ?_
    refine RunC.ret ?_
    have hq := Option.some.inj h
    subst q0
    exact bodyQ.pure (.inr rfl) rfl (Res.one rfl (RV.tmp rfl))
  · refine RunC.regionW ?_
    refine ROps.l (r := AV.i64 a1) rfl rfl rfl (LOp.move rfl rfl) ?_
    refine ROps.l (r := AV.i64 a0) rfl rfl rfl (LOp.move rfl rfl) ?_
    refine ROps.l (r := AV.b false) rfl rfl rfl (LOp.eqb (LOp.leq rfl rfl rfl) hc1) ?_
    refine ROps.l (r := AV.b false) rfl rfl rfl (LOp.move rfl rfl) ?_
    refine ROps.s rfl rfl rfl ?_
    refine ROps.s rfl rfl rfl ?_
    refine ROps.s rfl rfl rfl ?_
    refine ROps.l (r := AV.b false) rfl rfl rfl (LOp.pick_false rfl rfl rfl) ?_
    refine ROps.l (r := AV.b false) rfl rfl rfl (LOp.assign rfl rfl) ?_
    refine ROps.nil ?_
    refine RunC.ret ?_
    have hq := Option.some.inj h
    subst q0
    exact bodyQ.pure (.inr rfl) rfl (Res.one rfl (RV.tmp rfl))
noncomputable def f100 (a0 : Int) : Option (Bool) :=
  obind (f103 a0 1 12) fun (r1 : Bool) =>
  some r1
theorem f100_ok (a0 : Int) (q0 : Bool) (h : f100 a0 = some q0) : Ev Try.prog 100 [AV.i64 a0] [] (AV.b q0) [] := by
  refine Ev.start Try.func100 rfl rfl 0 (τ := [(0, AV.i64 a0)]) rfl (Γ' := []) rfl (n := 5) rfl (g := 0) rfl ?_
  unfold f100 at h
  refine RunC.seq ?_
  refine RunC.regionW ?_
  refine ROps.l (r := AV.b false) rfl rfl rfl (LOp.assign rfl rfl) ?_
  refine ROps.nil ?_
  refine RunC.seq ?_
  obtain ⟨r1, hf1, h⟩ := obind_some h
  refine RunC.regionW ?_
  refine ROps.l (r := AV.i64 a0) rfl rfl rfl (LOp.move rfl rfl) ?_
  refine ROps.d (r := AV.b r1) (fs := []) (Γ' := []) rfl rfl rfl (TOp.callB (CallAs.func ent103 rfl rfl) (Bors.cons (Bor.pure rfl) (Bors.cons (Bor.pure rfl) (Bors.cons (Bor.pure rfl) Bors.nil))) rfl rfl (f103_ok a0 1 12 r1 hf1)) rfl ?_
  refine ROps.l (r := AV.b r1) rfl rfl rfl (LOp.assign rfl rfl) ?_
  refine ROps.nil ?_
  refine RunC.ret ?_
  have hq := Option.some.inj h
  subst q0
  exact bodyQ.pure (.inr rfl) rfl (Res.one rfl (RV.tmp rfl))
noncomputable def f101 (a0 : List F) : Option (Int) :=
  some (a0.length : Int)
theorem f101_ok (a0 : List F) (q0 : Int) (h : f101 a0 = some q0) : Ev Try.prog 101 [AV.sl a0.length (a0.map AV.f32)] [] (AV.i64 q0) [] := by
  refine Ev.start Try.func101 rfl rfl 0 (τ := [(0, AV.sl a0.length (a0.map AV.f32))]) rfl (Γ' := []) rfl (n := 5) rfl (g := 0) rfl ?_
  unfold f101 at h
  refine RunC.seq ?_
  refine RunC.regionW ?_
  refine ROps.l (r := AV.i64 0) rfl rfl rfl (LOp.assign rfl rfl) ?_
  refine ROps.nil ?_
  refine RunC.seq ?_
  refine RunC.regionW ?_
  refine ROps.l (r := AV.sl a0.length (a0.map AV.f32)) rfl rfl rfl (LOp.move rfl rfl) ?_
  refine ROps.l (r := AV.i64 (a0.length : Int)) rfl rfl rfl (LOp.len_sl und38 rfl rfl) ?_
  refine ROps.l (r := AV.i64 (a0.length : Int)) rfl rfl rfl (LOp.assign rfl rfl) ?_
  refine ROps.nil ?_
  refine RunC.ret ?_
  have hq := Option.some.inj h
  subst q0
  exact bodyQ.pure (.inr rfl) rfl (Res.one rfl (RV.tmp rfl))
noncomputable def f136 (a0 : F) : Option (Bool) :=
  some (!feq .f64 a0 a0)
theorem f136_ok (a0 : F) (q0 : Bool) (h : f136 a0 = some q0) : Ev Try.prog 136 [AV.f64 a0] [] (AV.b q0) [] := by
  refine Ev.start Try.func136 rfl rfl 0 (τ := [(0, AV.f64 a0)]) rfl (Γ' := []) rfl (n := 6) rfl (g := 0) rfl ?_
  unfold f136 at h
  refine RunC.seq ?_
  refine RunC.regionW ?_
  refine ROps.l (r := AV.b false) rfl rfl rfl (LOp.assign rfl rfl) ?_
  refine ROps.nil ?_
  refine RunC.seq ?_
  refine RunC.regionW ?_
  refine ROps.l (r := AV.f64 a0) rfl rfl rfl (LOp.move rfl rfl) ?_
  refine ROps.l (r := AV.f64 a0) rfl rfl rfl (LOp.move rfl rfl) ?_
  refine ROps.l (r := AV.b (!feq .f64 a0 a0)) rfl rfl rfl (LOp.fne rfl (OpF.tmp rfl) (OpF.tmp rfl)) ?_
  refine ROps.l (r := AV.b (!feq .f64 a0 a0)) rfl rfl rfl (LOp.assign rfl rfl) ?_
  refine ROps.nil ?_
  refine RunC.ret ?_
  have hq := Option.some.inj h
  subst q0
  exact bodyQ.pure (.inr rfl) rfl (Res.one rfl (RV.tmp rfl))
noncomputable def f139 (a0 : F) : Option (F) :=
  olet (fabs a0) fun (x1 : F) =>
  some x1
theorem f139_ok (a0 : F) (q0 : F) (h : f139 a0 = some q0) : Ev Try.prog 139 [AV.f64 a0] [] (AV.f64 q0) [] := by
  refine Ev.start Try.func139 rfl rfl 0 (τ := [(0, AV.f64 a0)]) rfl (Γ' := []) rfl (n := 7) rfl (g := 0) rfl ?_
  unfold f139 at h
  refine RunC.seq ?_
  refine RunC.regionW ?_
  refine ROps.l (r := AV.f64 (some 0)) rfl rfl rfl (LOp.le (LOp.assign rfl rfl) (ALe.fl (by kernel_rfl) (by kernel_rfl))) ?_
  refine ROps.nil ?_
  refine RunC.seq ?_
  obtain ⟨x1, hx1, h⟩ := olet_some h
  refine RunC.regionW ?_
  refine ROps.l (r := AV.f64 a0) rfl rfl rfl (LOp.move rfl rfl) ?_
  refine ROps.l (r := AV.bt .f64 .u64 a0) rfl rfl rfl (LOp.fbits ext132 rfl (OpF.tmp rfl)) ?_
  refine ROps.l (r := AV.bt .f64 .u64 x1) rfl rfl rfl (LOp.eqr (LOp.andNot_bt rfl rfl rfl) (congrArg (AV.bt .f64 .u64) hx1)) ?_
  refine ROps.l (r := AV.f64 x1) rfl rfl rfl (LOp.ffrom ext140 rfl rfl) ?_
  refine ROps.l (r := AV.f64 x1) rfl rfl rfl (LOp.assign rfl rfl) ?_
  refine ROps.nil ?_
  refine RunC.ret ?_
  have hq := Option.some.inj h
  subst q0
  exact bodyQ.pure (.inr rfl) rfl (Res.one rfl (RV.tmp rfl))
noncomputable def f137_k1 (y3 : F) : Option (Bool) :=
  some (flt .f64 (some 9218868437227405311) y3)
noncomputable def f137 (a0 : F) (a1 : Int) : Option (Bool) :=
  bsel (decide (a1 = 0)) (
    obind (f139 a0) fun (r1 : F) =>
    f137_k1 r1) (
    bsel (decide (a1 < 0)) (
      olet (fneg .f64 a0) fun (x2 : F) =>
      f137_k1 x2) (
      f137_k1 a0))
theorem f137_ok (a0 : F) (a1 : Int) (q0 : Bool) (h : f137 a0 a1 = some q0) : Ev Try.prog 137 [AV.f64 a0, AV.i64 a1] [] (AV.b q0) [] := by
  refine Ev.start Try.func137 rfl rfl 0 (τ := [(0, AV.f64 a0), (1, AV.i64 a1)]) rfl (Γ' := []) rfl (n := 15) rfl (g := 0) rfl ?_
  unfold f137 at h
  refine RunC.seq ?_
  refine RunC.regionW ?_
  refine ROps.l (r := AV.b false) rfl rfl rfl (LOp.assign rfl rfl) ?_
  refine ROps.nil ?_
  refine RunC.seq ?_
  refine RunC.cutN (fun τ Γ => ∃ (y3 : F), WeakLe τ [(0, AV.f64 y3)] ∧ DeadLe Γ [] ∧ f137_k1 y3 = some q0) ?_ ?_
  · refine RunC.seq ?_
    rcases bsel_some h with ⟨hc1, h⟩ | ⟨hc1, h⟩
    · refine RunC.regionW ?_
      refine ROps.l (r := AV.i64 a1) rfl rfl rfl (LOp.move rfl rfl) ?_
      refine ROps.l (r := AV.b true) rfl rfl rfl (LOp.eqb (LOp.eql rfl rfl rfl) hc1) ?_
      refine ROps.nil ?_
      refine RunC.cond_true rfl rfl ?_
      obtain ⟨r1, hf2, h⟩ := obind_some h
      refine RunC.regionW ?_
      refine ROps.l (r := AV.f64 a0) rfl rfl rfl (LOp.move rfl rfl) ?_
      refine ROps.d (r := AV.f64 r1) (fs := []) (Γ' := []) rfl rfl rfl (TOp.callB (CallAs.func ent139 rfl rfl) (Bors.cons (Bor.pure rfl) Bors.nil) rfl rfl (f139_ok a0 r1 hf2)) rfl ?_
      refine ROps.l (r := AV.f64 r1) rfl rfl rfl (LOp.assign rfl rfl) ?_
      refine ROps.nil ?_
      exact ⟨r1, ⟨(ALe.refl _), trivial⟩, trivial, h⟩
    · refine RunC.regionW ?_
      refine ROps.l (r := AV.i64 a1) rfl rfl rfl (LOp.move rfl rfl) ?_
      refine ROps.l (r := AV.b false) rfl rfl rfl (LOp.eqb (LOp.eql rfl rfl rfl) hc1) ?_
      refine ROps.nil ?_
      refine RunC.cond_false rfl rfl ?_
      refine RunC.seq ?_
      rcases bsel_some h with ⟨hc3, h⟩ | ⟨hc3, h⟩
      · refine RunC.regionW ?_
        refine ROps.l (r := AV.i64 a1) rfl rfl rfl (LOp.move rfl rfl) ?_
        refine ROps.l (r := AV.b true) rfl rfl rfl (LOp.eqb (LOp.lss rfl rfl rfl) hc3) ?_
        refine ROps.nil ?_
        refine RunC.cond_true rfl rfl ?_
        obtain ⟨x2, hx4, h⟩ := olet_some h
        refine RunC.regionW ?_
        refine ROps.l (r := AV.f64 a0) rfl rfl rfl (LOp.move rfl rfl) ?_
        refine ROps.l (r := AV.f64 x2) rfl rfl rfl (LOp.eqr (LOp.fneg rfl (OpF.tmp rfl)) (congrArg (AV.f .f64) hx4)) ?_
        refine ROps.l (r := AV.f64 x2) rfl rfl rfl (LOp.assign rfl rfl) ?_
        refine ROps.nil ?_
        exact ⟨x2, ⟨(ALe.refl _), trivial⟩, trivial, h⟩
      · refine RunC.regionW ?_
        refine ROps.l (r := AV.i64 a1) rfl rfl rfl (LOp.move rfl rfl) ?_
        refine ROps.l (r := AV.b false) rfl rfl rfl (LOp.eqb (LOp.lss rfl rfl rfl) hc3) ?_
        refine ROps.nil ?_
        refine RunC.cond_false rfl rfl ?_
        refine RunC.skip ?_
        exact ⟨a0, ⟨(ALe.refl _), trivial⟩, trivial, h⟩
  · rintro τ2 Γ2 ⟨y3, hw2, hd2, h⟩
    refine RunC.wl (τ' := [(0, AV.f64 y3)]) (Γ' := []) hw2 hd2 ?_
    unfold f137_k1 at h
    refine RunC.seq ?_
    refine RunC.regionW ?_
    refine ROps.l (r := AV.f64 y3) rfl rfl rfl (LOp.move rfl rfl) ?_
    refine ROps.l (r := AV.b (flt .f64 (some 9218868437227405311) y3)) rfl rfl rfl (LOp.fgt rfl (OpF.tmp rfl) (OpF.const rfl (by kernel_rfl) (by kernel_rfl))) ?_
    refine ROps.l (r := AV.b (flt .f64 (some 9218868437227405311) y3)) rfl rfl rfl (LOp.assign rfl rfl) ?_
    refine ROps.nil ?_
    refine RunC.ret ?_
    have hq := Option.some.inj h
    subst q0
    exact bodyQ.pure (.inr rfl) rfl (Res.one rfl (RV.tmp rfl))
noncomputable def f131 (a0 : F) : Option (Bool) :=
  obind (f136 a0) fun (r1 : Bool) =>
  bsel r1 (
    some false) (
    obind (f137 a0 0) fun (r2 : Bool) =>
    some (!r2))
theorem f131_ok (a0 : F) (q0 : Bool) (h : f131 a0 = some q0) : Ev Try.prog 131 [AV.f64 a0] [] (AV.b q0) [] := by
  refine Ev.start Try.func131 rfl rfl 0 (τ := [(0, AV.f64 a0)]) rfl (Γ' := []) rfl (n := 11) rfl (g := 0) rfl ?_
  unfold f131 at h
  refine RunC.seq ?_
  refine RunC.regionW ?_
  refine ROps.l (r := AV.b false) rfl rfl rfl (LOp.assign rfl rfl) ?_
  refine ROps.nil ?_
  refine RunC.seq ?_
  obtain ⟨r1, hf1, h⟩ := obind_some h
  rcases bsel_some h with ⟨hc2, h⟩ | ⟨hc2, h⟩
  · refine RunC.regionW ?_
    refine ROps.l (r := AV.f64 a0) rfl rfl rfl (LOp.move rfl rfl) ?_
    refine ROps.d (r := AV.b true) (fs := []) (Γ' := []) rfl rfl rfl (TOp.eqb (TOp.callB (CallAs.func ent136 rfl rfl) (Bors.cons (Bor.pure rfl) Bors.nil) rfl rfl (f136_ok a0 r1 hf1)) hc2) rfl ?_
    refine ROps.l (r := AV.b false) rfl rfl rfl (LOp.eqb (LOp.not rfl rfl) rfl) ?_
    refine ROps.l (r := AV.b false) rfl rfl rfl (LOp.move rfl rfl) ?_
    refine ROps.s rfl rfl rfl ?_
    refine ROps.s rfl rfl rfl ?_
    refine ROps.s rfl rfl rfl ?_
    refine ROps.l (r := AV.b false) rfl rfl rfl (LOp.pick_false rfl rfl rfl) ?_
    refine ROps.l (r := AV.b false) rfl rfl rfl (LOp.assign rfl rfl) ?_
    refine ROps.nil ?_
    refine RunC.ret ?_
    have hq := Option.some.inj h
    subst q0
    exact bodyQ.pure (.inr rfl) rfl (Res.one rfl (RV.tmp rfl))
  · obtain ⟨r2, hf3, h⟩ := obind_some h
    refine RunC.regionW ?_
    refine ROps.l (r := AV.f64 a0) rfl rfl rfl (LOp.move rfl rfl) ?_
    refine ROps.d (r := AV.b false) (fs := []) (Γ' := []) rfl rfl rfl (TOp.eqb (TOp.callB (CallAs.func ent136 rfl rfl) (Bors.cons (Bor.pure rfl) Bors.nil) rfl rfl (f136_ok a0 r1 hf1)) hc2) rfl ?_
    refine ROps.l (r := AV.b true) rfl rfl rfl (LOp.eqb (LOp.not rfl rfl) rfl) ?_
    refine ROps.l (r := AV.b true) rfl rfl rfl (LOp.move rfl rfl) ?_
    refine ROps.l (r := AV.f64 a0) rfl rfl rfl (LOp.move rfl rfl) ?_
    refine ROps.d (r := AV.b r2) (fs := []) (Γ' := []) rfl rfl rfl (TOp.callB (CallAs.func ent137 rfl rfl) (Bors.cons (Bor.pure rfl) (Bors.cons (Bor.pure rfl) Bors.nil)) rfl rfl (f137_ok a0 0 r2 hf3)) rfl ?_
    refine ROps.l (r := AV.b (!r2)) rfl rfl rfl (LOp.not rfl rfl) ?_
    refine ROps.l (r := AV.b (!r2)) rfl rfl rfl (LOp.pick_true rfl rfl rfl) ?_
    refine ROps.l (r := AV.b (!r2)) rfl rfl rfl (LOp.assign rfl rfl) ?_
    refine ROps.nil ?_
    refine RunC.ret ?_
    have hq := Option.some.inj h
    subst q0
    exact bodyQ.pure (.inr rfl) rfl (Res.one rfl (RV.tmp rfl))
noncomputable def f121 (a0 : F) : Option (Bool) :=
  olet (fwiden a0) fun (x1 : F) =>
  obind (f131 x1) fun (r2 : Bool) =>
  some r2
theorem f121_ok (a0 : F) (q0 : Bool) (h : f121 a0 = some q0) : Ev Try.prog 121 [AV.f32 a0] [] (AV.b q0) [] := by
  refine Ev.start Try.func121 rfl rfl 0 (τ := [(0, AV.f32 a0)]) rfl (Γ' := []) rfl (n := 6) rfl (g := 0) rfl ?_
  unfold f121 at h
  refine RunC.seq ?_
  refine RunC.regionW ?_
  refine ROps.l (r := AV.b false) rfl rfl rfl (LOp.assign rfl rfl) ?_
  refine ROps.nil ?_
  refine RunC.seq ?_
  obtain ⟨x1, hx1, h⟩ := olet_some h
  obtain ⟨r2, hf2, h⟩ := obind_some h
  refine RunC.regionW ?_
  refine ROps.l (r := AV.f32 a0) rfl rfl rfl (LOp.move rfl rfl) ?_
  refine ROps.d (r := AV.f64 x1) (fs := []) (Γ' := []) rfl rfl rfl (TOp.eqr (TOp.widen (src := 34) (dst := 75) ⟨_, pun34⟩ pun75 rfl (OpF.tmp rfl)) (congrArg (AV.f .f64) hx1)) rfl ?_
  refine ROps.d (r := AV.b r2) (fs := []) (Γ' := []) rfl rfl rfl (TOp.callB (CallAs.func ent131 rfl rfl) (Bors.cons (Bor.pure rfl) Bors.nil) rfl rfl (f131_ok x1 r2 hf2)) rfl ?_
  refine ROps.l (r := AV.b r2) rfl rfl rfl (LOp.assign rfl rfl) ?_
  refine ROps.nil ?_
  refine RunC.ret ?_
  have hq := Option.some.inj h
  subst q0
  exact bodyQ.pure (.inr rfl) rfl (Res.one rfl (RV.tmp rfl))
noncomputable def f120 (a0 : F) : Option (Bool) :=
  obind (f121 a0) fun (r1 : Bool) =>
  some (!r1)
theorem f120_ok (a0 : F) (q0 : Bool) (h : f120 a0 = some q0) : Ev Try.prog 120 [AV.f32 a0] [] (AV.b q0) [] := by
  refine Ev.start Try.func120 rfl rfl 0 (τ := [(0, AV.f32 a0)]) rfl (Γ' := []) rfl (n := 6) rfl (g := 0) rfl ?_
  unfold f120 at h
  refine RunC.seq ?_
  refine RunC.regionW ?_
  refine ROps.l (r := AV.b false) rfl rfl rfl (LOp.assign rfl rfl) ?_
  refine ROps.nil ?_
  refine RunC.seq ?_
  obtain ⟨r1, hf1, h⟩ := obind_some h
  refine RunC.regionW ?_
  refine ROps.l (r := AV.f32 a0) rfl rfl rfl (LOp.move rfl rfl) ?_
  refine ROps.d (r := AV.b r1) (fs := []) (Γ' := []) rfl rfl rfl (TOp.callB (CallAs.func ent121 rfl rfl) (Bors.cons (Bor.pure rfl) Bors.nil) rfl rfl (f121_ok a0 r1 hf1)) rfl ?_
  refine ROps.l (r := AV.b (!r1)) rfl rfl rfl (LOp.not rfl rfl) ?_
  refine ROps.l (r := AV.b (!r1)) rfl rfl rfl (LOp.assign rfl rfl) ?_
  refine ROps.nil ?_
  refine RunC.ret ?_
  have hq := Option.some.inj h
  subst q0
  exact bodyQ.pure (.inr rfl) rfl (Res.one rfl (RV.tmp rfl))
noncomputable def f130_b1 (a0 : List F) (v1 : Int) : Option (LR (Int) (Unit) (Int)) :=
  bsel (decide (v1 < (a0.length : Int))) (
    obind (at? a0 v1) fun (e2 : F) =>
    obind (f120 e2) fun (r3 : Bool) =>
    bsel r3 (
      some (LR.ret v1)) (
      olet (IntKind.i64.wrap (v1 + 1)) fun (x4 : Int) =>
      some (LR.next x4))) (
    some (LR.out ()))
noncomputable def f130_s1 (a0 : List F) : (Int) → Option (LR (Int) (Unit) (Int)) := fun s => f130_b1 a0 s
noncomputable def f130_k1  : Option (Int) :=
  some (-1)
noncomputable def f130 (a0 : List F) : Option (Int) :=
  obind (loopM (f130_s1 a0) 0) fun z => osum z (fun _ => f130_k1) (fun r => some r)
theorem f130_ok (a0 : List F) (q0 : Int) (h : f130 a0 = some q0) : Ev Try.prog 130 [AV.sl a0.length (a0.map AV.f32), AV.fn (.func 120) [] []] [] (AV.i64 q0) [] := by
  refine Ev.start Try.func130 rfl rfl 0 (τ := [(0, AV.sl a0.length (a0.map AV.f32)), (1, AV.fn (.func 120) [] [])]) rfl (Γ' := []) rfl (n := 19) rfl (g := 0) rfl ?_
  unfold f130 at h
  refine RunC.seq ?_
  refine RunC.regionW ?_
  refine ROps.l (r := AV.i64 0) rfl rfl rfl (LOp.assign rfl rfl) ?_
  refine ROps.nil ?_
  refine RunC.seq ?_
  refine RunC.seq ?_
  refine RunC.regionW ?_
  refine ROps.l (r := AV.sl a0.length (a0.map AV.f32)) rfl rfl rfl (LOp.move rfl rfl) ?_
  refine ROps.l (r := AV.i64 (a0.length : Int)) rfl rfl rfl (LOp.len_sl und38 rfl rfl) ?_
  refine ROps.l (r := AV.i64 0) rfl rfl rfl (LOp.move rfl rfl) ?_
  refine ROps.nil ?_
  obtain ⟨z2, hz_2, h⟩ := obind_some h
  refine RunC.cutN (fun τ Γ => WeakLe τ [] ∧ DeadLe Γ [] ∧ z2 = .inl ()) ?_ ?_
  · refine RunC.block (RunC.loop (RunL.loopM (x := z2) (f130_s1 a0) (fun (s : Int) τ Γ => WeakLe τ [(0, AV.sl a0.length (a0.map AV.f32)), (1, AV.fn (.func 120) [] []), (7, AV.i64 (a0.length : Int)), (8, AV.i64 s)] ∧ DeadLe Γ []) ?_ _ _ _ hz_2 ⟨⟨(ALe.refl _), (ALe.refl _), (ALe.refl _), (ALe.refl _), trivial⟩, trivial⟩))
    rintro v1 τ2 Γ2 y2_ ⟨hw2, hd2⟩ h2_ ho2 hr2
    refine RunC.wl (τ' := [(0, AV.sl a0.length (a0.map AV.f32)), (1, AV.fn (.func 120) [] []), (7, AV.i64 (a0.length : Int)), (8, AV.i64 v1)]) (Γ' := []) hw2 hd2 ?_
    replace h2_ : f130_b1 a0 v1 = some y2_ := h2_
    unfold f130_b1 at h2_
    refine RunC.seq ?_
    rcases bsel_some h2_ with ⟨hc1, h2_⟩ | ⟨hc1, h2_⟩
    · refine RunC.regionW ?_
      refine ROps.l (r := AV.b true) rfl rfl rfl (LOp.eqb (LOp.lss rfl rfl rfl) hc1) ?_
      refine ROps.nil ?_
      refine RunC.seq ?_
      refine RunC.cond_true rfl rfl ?_
      refine RunC.skip ?_
      refine RunC.seq ?_
      refine RunC.block ?_
      refine RunC.seq ?_
      refine RunC.regionW ?_
      refine ROps.l (r := AV.i64 v1) rfl rfl rfl (LOp.move rfl rfl) ?_
      refine ROps.l (r := AV.i64 v1) rfl rfl rfl (LOp.assign rfl rfl) ?_
      refine ROps.nil ?_
      refine RunC.seq ?_
      obtain ⟨e2, he2, h2_⟩ := obind_some h2_
      obtain ⟨r3, hf3, h2_⟩ := obind_some h2_
      rcases bsel_some h2_ with ⟨hc4, h2_⟩ | ⟨hc4, h2_⟩
      · refine RunC.regionW ?_
        refine ROps.l (r := AV.fn (.func 120) [] []) rfl rfl rfl (LOp.move rfl rfl) ?_
        refine ROps.l (r := AV.sl a0.length (a0.map AV.f32)) rfl rfl rfl (LOp.move rfl rfl) ?_
        refine ROps.l (r := AV.i64 v1) rfl rfl rfl (LOp.move rfl rfl) ?_
        refine ROps.l (r := AV.ptr [AV.f32 e2]) rfl rfl rfl (LOp.le (LOp.ix (f := AV.f32) und38 siz34 rfl rfl rfl rfl he2) ALe.ptr) ?_
        refine ROps.l (r := AV.f32 e2) rfl rfl rfl (LOp.load1 agg34 rfl rfl) ?_
        refine ROps.d (r := AV.b true) (fs := []) (Γ' := []) rfl rfl rfl (TOp.eqb (TOp.callB (CallAs.fn ent120 rfl rfl rfl rfl) (Bors.cons (Bor.pure rfl) Bors.nil) rfl rfl (f120_ok e2 r3 hf3)) hc4) rfl ?_
        refine ROps.nil ?_
        refine RunC.cond_true rfl rfl ?_
        refine RunC.seq ?_
        refine RunC.regionW ?_
        refine ROps.l (r := AV.i64 v1) rfl rfl rfl (LOp.move rfl rfl) ?_
        refine ROps.l (r := AV.i64 v1) rfl rfl rfl (LOp.assign rfl rfl) ?_
        refine ROps.nil ?_
        refine RunC.ret ?_
        cases Option.some.inj h2_
        have hx3_ := hr2 _ rfl
        subst hx3_
        have hq := Option.some.inj h
        subst q0
        exact bodyQ.pure (.inr rfl) rfl (Res.one rfl (RV.tmp rfl))
      · refine RunC.regionW ?_
        refine ROps.l (r := AV.fn (.func 120) [] []) rfl rfl rfl (LOp.move rfl rfl) ?_
        refine ROps.l (r := AV.sl a0.length (a0.map AV.f32)) rfl rfl rfl (LOp.move rfl rfl) ?_
        refine ROps.l (r := AV.i64 v1) rfl rfl rfl (LOp.move rfl rfl) ?_
        refine ROps.l (r := AV.ptr [AV.f32 e2]) rfl rfl rfl (LOp.le (LOp.ix (f := AV.f32) und38 siz34 rfl rfl rfl rfl he2) ALe.ptr) ?_
        refine ROps.l (r := AV.f32 e2) rfl rfl rfl (LOp.load1 agg34 rfl rfl) ?_
        refine ROps.d (r := AV.b false) (fs := []) (Γ' := []) rfl rfl rfl (TOp.eqb (TOp.callB (CallAs.fn ent120 rfl rfl rfl rfl) (Bors.cons (Bor.pure rfl) Bors.nil) rfl rfl (f120_ok e2 r3 hf3)) hc4) rfl ?_
        refine ROps.nil ?_
        refine RunC.cond_false rfl rfl ?_
        refine RunC.skip ?_
        obtain ⟨x4, hx5, h2_⟩ := olet_some h2_
        refine RunC.regionW ?_
        refine ROps.l (r := AV.i64 x4) rfl rfl rfl (LOp.eqr (LOp.add rfl rfl rfl) (congrArg (AV.ik .i64) hx5)) ?_
        refine ROps.l (r := AV.i64 x4) rfl rfl rfl (LOp.move rfl rfl) ?_
        refine ROps.nil ?_
        cases Option.some.inj h2_
        exact ⟨_, rfl, ⟨(ALe.refl _), (ALe.refl _), (ALe.refl _), (ALe.refl _), trivial⟩, trivial⟩
    · refine RunC.regionW ?_
      refine ROps.l (r := AV.b false) rfl rfl rfl (LOp.eqb (LOp.lss rfl rfl rfl) hc1) ?_
      refine ROps.nil ?_
      refine RunC.seq ?_
      refine RunC.cond_false rfl rfl ?_
      refine RunC.exit ?_
      cases Option.some.inj h2_
      have hx := ho2 _ rfl
      exact ⟨trivial, trivial, hx⟩
  · rintro τ4 Γ4 ⟨hw4, hd4, rfl⟩
    refine RunC.wl (τ' := []) (Γ' := []) hw4 hd4 ?_
    replace h : f130_k1 = some q0 := h
    unfold f130_k1 at h
    refine RunC.seq ?_
    refine RunC.regionW ?_
    refine ROps.l (r := AV.i64 (-1)) rfl rfl rfl (LOp.assign rfl rfl) ?_
    refine ROps.nil ?_
    refine RunC.ret ?_
    have hq := Option.some.inj h
    subst q0
    exact bodyQ.pure (.inr rfl) rfl (Res.one rfl (RV.tmp rfl))
noncomputable def f119 (a0 : List F) : Option (Bool) :=
  obind (f130 a0) fun (r1 : Int) =>
  some (decide (0 ≤ r1))
theorem f119_ok (a0 : List F) (q0 : Bool) (h : f119 a0 = some q0) : Ev Try.prog 119 [AV.sl a0.length (a0.map AV.f32), AV.fn (.func 120) [] []] [] (AV.b q0) [] := by
  refine Ev.start Try.func119 rfl rfl 0 (τ := [(0, AV.sl a0.length (a0.map AV.f32)), (1, AV.fn (.func 120) [] [])]) rfl (Γ' := []) rfl (n := 9) rfl (g := 0) rfl ?_
  unfold f119 at h
  refine RunC.seq ?_
  refine RunC.regionW ?_
  refine ROps.l (r := AV.b false) rfl rfl rfl (LOp.assign rfl rfl) ?_
  refine ROps.nil ?_
  refine RunC.seq ?_
  obtain ⟨r1, hf1, h⟩ := obind_some h
  refine RunC.regionW ?_
  refine ROps.l (r := AV.sl a0.length (a0.map AV.f32)) rfl rfl rfl (LOp.move rfl rfl) ?_
  refine ROps.l (r := AV.fn (.func 120) [] []) rfl rfl rfl (LOp.move rfl rfl) ?_
  refine ROps.d (r := AV.i64 r1) (fs := []) (Γ' := []) rfl rfl rfl (TOp.callB (CallAs.func ent130 rfl rfl) (Bors.cons (Bor.sl (fun _ => rfl)) (Bors.cons (Bor.fn Bors.nil Bors.nil) Bors.nil)) rfl rfl (f130_ok a0 r1 hf1)) rfl ?_
  refine ROps.l (r := AV.b (decide (0 ≤ r1))) rfl rfl rfl (LOp.geq rfl rfl rfl) ?_
  refine ROps.l (r := AV.b (decide (0 ≤ r1))) rfl rfl rfl (LOp.assign rfl rfl) ?_
  refine ROps.nil ?_
  refine RunC.ret ?_
  have hq := Option.some.inj h
  subst q0
  exact bodyQ.pure (.inr rfl) rfl (Res.one rfl (RV.tmp rfl))
noncomputable def f102 (a0 : List F) : Option (Bool) :=
  obind (f119 a0) fun (r1 : Bool) =>
  some (!r1)
theorem f102_ok (a0 : List F) (q0 : Bool) (h : f102 a0 = some q0) : Ev Try.prog 102 [AV.sl a0.length (a0.map AV.f32)] [] (AV.b q0) [] := by
  refine Ev.start Try.func102 rfl rfl 0 (τ := [(0, AV.sl a0.length (a0.map AV.f32))]) rfl (Γ' := []) rfl (n := 6) rfl (g := 0) rfl ?_
  unfold f102 at h
  refine RunC.seq ?_
  refine RunC.regionW ?_
  refine ROps.l (r := AV.b false) rfl rfl rfl (LOp.assign rfl rfl) ?_
  refine ROps.nil ?_
  refine RunC.seq ?_
  obtain ⟨r1, hf1, h⟩ := obind_some h
  refine RunC.regionW ?_
  refine ROps.l (r := AV.sl a0.length (a0.map AV.f32)) rfl rfl rfl (LOp.move rfl rfl) ?_
  refine ROps.d (r := AV.b r1) (fs := []) (Γ' := []) rfl rfl rfl (TOp.callB (CallAs.func ent119 rfl rfl) (Bors.cons (Bor.sl (fun _ => rfl)) (Bors.cons (Bor.fn Bors.nil Bors.nil) Bors.nil)) rfl rfl (f119_ok a0 r1 hf1)) rfl ?_
  refine ROps.l (r := AV.b (!r1)) rfl rfl rfl (LOp.not rfl rfl) ?_
  refine ROps.l (r := AV.b (!r1)) rfl rfl rfl (LOp.assign rfl rfl) ?_
  refine ROps.nil ?_
  refine RunC.ret ?_
  have hq := Option.some.inj h
  subst q0
  exact bodyQ.pure (.inr rfl) rfl (Res.one rfl (RV.tmp rfl))
noncomputable def f62 (a0 : Int) (a1 : Int) (a2 : List F) : Option (Bool) :=
  obind (f100 a0) fun (r1 : Bool) =>
  bsel r1 (
    obind (f100 a1) fun (r2 : Bool) =>
    bsel r2 (
      obind (f101 a2) fun (r3 : Int) =>
      olet (IntKind.i64.wrap (a0 * a1)) fun (x4 : Int) =>
      bsel (decide (r3 = x4)) (
        obind (f102 a2) fun (r5 : Bool) =>
        some r5) (
        some false)) (
      some false)) (
    some false)
theorem f62_ok (a0 : Int) (a1 : Int) (a2 : List F) (q0 : Bool) (h : f62 a0 a1 a2 = some q0) : Ev Try.prog 62 [AV.agg [AV.i64 a0, AV.i64 a1, AV.sl a2.length (a2.map AV.f32)]] [] (AV.b q0) [] := by
  refine Ev.start Try.func62 rfl rfl 0 (τ := [(0, AV.agg [AV.i64 a0, AV.i64 a1, AV.sl a2.length (a2.map AV.f32)])]) rfl (Γ' := []) rfl (n := 27) rfl (g := 0) rfl ?_
  unfold f62 at h
  refine RunC.seq ?_
  refine RunC.regionW ?_
  refine ROps.d (r := AV.ptr [AV.i64 a0, AV.i64 a1, AV.sl a2.length (a2.map AV.f32)]) (fs := []) (Γ' := []) rfl rfl rfl (TOp.box_s rfl rfl rfl) rfl ?_
  refine ROps.l (r := AV.b false) rfl rfl rfl (LOp.assign rfl rfl) ?_
  refine ROps.nil ?_
  refine RunC.seq ?_
  obtain ⟨r1, hf1, h⟩ := obind_some h
  rcases bsel_some h with ⟨hc2, h⟩ | ⟨hc2, h⟩
  · obtain ⟨r2, hf3, h⟩ := obind_some h
    rcases bsel_some h with ⟨hc4, h⟩ | ⟨hc4, h⟩
    · obtain ⟨r3, hf5, h⟩ := obind_some h
      obtain ⟨x4, hx6, h⟩ := olet_some h
      rcases bsel_some h with ⟨hc7, h⟩ | ⟨hc7, h⟩
      · obtain ⟨r5, hf8, h⟩ := obind_some h
        refine RunC.region_draw (Γ' := []) 25 mixed 
          (TR.l (r := AV.ptr [AV.i64 a0, AV.i64 a1, AV.sl a2.length (a2.map AV.f32)]) rfl rfl (LOp.fap und40 rfl siz2 rfl rfl rfl) <|
          (TR.l (r := AV.i64 a0) rfl rfl (LOp.load1 agg2 rfl rfl) <|
          (TR.d (r := AV.b true) (fs := []) rfl rfl (TOp.eqb (TOp.callB (CallAs.func ent100 rfl rfl) (Bors.cons (Bor.pure rfl) Bors.nil) rfl rfl (f100_ok a0 r1 hf1)) hc2) <|
          (TR.l (r := AV.b true) rfl rfl (LOp.move rfl rfl) <|
          (TR.l (r := AV.ptr [AV.i64 a1, AV.sl a2.length (a2.map AV.f32)]) rfl rfl (LOp.fap und40 rfl siz2 rfl rfl rfl) <|
          (TR.l (r := AV.i64 a1) rfl rfl (LOp.load1 agg2 rfl rfl) <|
          (TR.d (r := AV.b true) (fs := []) rfl rfl (TOp.eqb (TOp.callB (CallAs.func ent100 rfl rfl) (Bors.cons (Bor.pure rfl) Bors.nil) rfl rfl (f100_ok a1 r2 hf3)) hc4) <|
          (TR.l (r := AV.b true) rfl rfl (LOp.pick_true rfl rfl rfl) <|
          (TR.l (r := AV.b true) rfl rfl (LOp.move rfl rfl) <|
          (TR.l (r := AV.ptr [AV.sl a2.length (a2.map AV.f32)]) rfl rfl (LOp.fap und40 rfl siz38 rfl rfl rfl) <|
          (TR.l (r := AV.sl a2.length (a2.map AV.f32)) rfl rfl (LOp.load1 agg38 rfl rfl) <|
          (TR.d (r := AV.i64 r3) (fs := []) rfl rfl (TOp.callB (CallAs.func ent101 rfl rfl) (Bors.cons (Bor.sl (fun _ => rfl)) Bors.nil) rfl rfl (f101_ok a2 r3 hf5)) <|
          (TR.l (r := AV.ptr [AV.i64 a0, AV.i64 a1, AV.sl a2.length (a2.map AV.f32)]) rfl rfl (LOp.fap und40 rfl siz2 rfl rfl rfl) <|
          (TR.l (r := AV.i64 a0) rfl rfl (LOp.load1 agg2 rfl rfl) <|
          (TR.l (r := AV.ptr [AV.i64 a1, AV.sl a2.length (a2.map AV.f32)]) rfl rfl (LOp.fap und40 rfl siz2 rfl rfl rfl) <|
          (TR.l (r := AV.i64 a1) rfl rfl (LOp.load1 agg2 rfl rfl) <|
          (TR.l (r := AV.i64 x4) rfl rfl (LOp.eqr (LOp.mul rfl rfl rfl) (congrArg (AV.ik .i64) hx6)) <|
          (TR.l (r := AV.b true) rfl rfl (LOp.eqb (LOp.eql rfl rfl rfl) hc7) <|
          (TR.l (r := AV.b true) rfl rfl (LOp.pick_true rfl rfl rfl) <|
          (TR.l (r := AV.b true) rfl rfl (LOp.move rfl rfl) <|
          (TR.l (r := AV.ptr [AV.sl a2.length (a2.map AV.f32)]) rfl rfl (LOp.fap und40 rfl siz38 rfl rfl rfl) <|
          (TR.l (r := AV.sl a2.length (a2.map AV.f32)) rfl rfl (LOp.load1 agg38 rfl rfl) <|
          (TR.d (r := AV.b r5) (fs := []) rfl rfl (TOp.callB (CallAs.func ent102 rfl rfl) (Bors.cons (Bor.sl (fun _ => rfl)) Bors.nil) rfl rfl (f102_ok a2 r5 hf8)) <|
          (TR.l (r := AV.b r5) rfl rfl (LOp.pick_true rfl rfl rfl) <|
          (TR.l (r := AV.b r5) rfl rfl (LOp.assign rfl rfl) <|
          TR.nil))))))))))))))))))))))))) rfl (by kernel_rfl) rfl fills_nil rfl ?_
        iterate 25 refine ROps.dropS ?_
        refine ROps.drop0 ?_
        refine ROps.nil ?_
        refine RunC.ret ?_
        have hq := Option.some.inj h
        subst q0
        exact bodyQ.pure (.inr rfl) rfl (Res.one rfl (RV.tmp rfl))
      · refine RunC.region_draw (Γ' := []) 25 mixed 
          (TR.l (r := AV.ptr [AV.i64 a0, AV.i64 a1, AV.sl a2.length (a2.map AV.f32)]) rfl rfl (LOp.fap und40 rfl siz2 rfl rfl rfl) <|
          (TR.l (r := AV.i64 a0) rfl rfl (LOp.load1 agg2 rfl rfl) <|
          (TR.d (r := AV.b true) (fs := []) rfl rfl (TOp.eqb (TOp.callB (CallAs.func ent100 rfl rfl) (Bors.cons (Bor.pure rfl) Bors.nil) rfl rfl (f100_ok a0 r1 hf1)) hc2) <|
          (TR.l (r := AV.b true) rfl rfl (LOp.move rfl rfl) <|
          (TR.l (r := AV.ptr [AV.i64 a1, AV.sl a2.length (a2.map AV.f32)]) rfl rfl (LOp.fap und40 rfl siz2 rfl rfl rfl) <|
          (TR.l (r := AV.i64 a1) rfl rfl (LOp.load1 agg2 rfl rfl) <|
          (TR.d (r := AV.b true) (fs := []) rfl rfl (TOp.eqb (TOp.callB (CallAs.func ent100 rfl rfl) (Bors.cons (Bor.pure rfl) Bors.nil) rfl rfl (f100_ok a1 r2 hf3)) hc4) <|
          (TR.l (r := AV.b true) rfl rfl (LOp.pick_true rfl rfl rfl) <|
          (TR.l (r := AV.b true) rfl rfl (LOp.move rfl rfl) <|
          (TR.l (r := AV.ptr [AV.sl a2.length (a2.map AV.f32)]) rfl rfl (LOp.fap und40 rfl siz38 rfl rfl rfl) <|
          (TR.l (r := AV.sl a2.length (a2.map AV.f32)) rfl rfl (LOp.load1 agg38 rfl rfl) <|
          (TR.d (r := AV.i64 r3) (fs := []) rfl rfl (TOp.callB (CallAs.func ent101 rfl rfl) (Bors.cons (Bor.sl (fun _ => rfl)) Bors.nil) rfl rfl (f101_ok a2 r3 hf5)) <|
          (TR.l (r := AV.ptr [AV.i64 a0, AV.i64 a1, AV.sl a2.length (a2.map AV.f32)]) rfl rfl (LOp.fap und40 rfl siz2 rfl rfl rfl) <|
          (TR.l (r := AV.i64 a0) rfl rfl (LOp.load1 agg2 rfl rfl) <|
          (TR.l (r := AV.ptr [AV.i64 a1, AV.sl a2.length (a2.map AV.f32)]) rfl rfl (LOp.fap und40 rfl siz2 rfl rfl rfl) <|
          (TR.l (r := AV.i64 a1) rfl rfl (LOp.load1 agg2 rfl rfl) <|
          (TR.l (r := AV.i64 x4) rfl rfl (LOp.eqr (LOp.mul rfl rfl rfl) (congrArg (AV.ik .i64) hx6)) <|
          (TR.l (r := AV.b false) rfl rfl (LOp.eqb (LOp.eql rfl rfl rfl) hc7) <|
          (TR.l (r := AV.b false) rfl rfl (LOp.pick_true rfl rfl rfl) <|
          (TR.l (r := AV.b false) rfl rfl (LOp.move rfl rfl) <|
          (TR.s rfl rfl <|
          (TR.s rfl rfl <|
          (TR.s rfl rfl <|
          (TR.l (r := AV.b false) rfl rfl (LOp.pick_false rfl rfl rfl) <|
          (TR.l (r := AV.b false) rfl rfl (LOp.assign rfl rfl) <|
          TR.nil))))))))))))))))))))))))) rfl (by kernel_rfl) rfl fills_nil rfl ?_
        iterate 25 refine ROps.dropS ?_
        refine ROps.drop0 ?_
        refine ROps.nil ?_
        refine RunC.ret ?_
        have hq := Option.some.inj h
        subst q0
        exact bodyQ.pure (.inr rfl) rfl (Res.one rfl (RV.tmp rfl))
    · refine RunC.region_draw (Γ' := []) 25 mixed 
        (TR.l (r := AV.ptr [AV.i64 a0, AV.i64 a1, AV.sl a2.length (a2.map AV.f32)]) rfl rfl (LOp.fap und40 rfl siz2 rfl rfl rfl) <|
        (TR.l (r := AV.i64 a0) rfl rfl (LOp.load1 agg2 rfl rfl) <|
        (TR.d (r := AV.b true) (fs := []) rfl rfl (TOp.eqb (TOp.callB (CallAs.func ent100 rfl rfl) (Bors.cons (Bor.pure rfl) Bors.nil) rfl rfl (f100_ok a0 r1 hf1)) hc2) <|
        (TR.l (r := AV.b true) rfl rfl (LOp.move rfl rfl) <|
        (TR.l (r := AV.ptr [AV.i64 a1, AV.sl a2.length (a2.map AV.f32)]) rfl rfl (LOp.fap und40 rfl siz2 rfl rfl rfl) <|
        (TR.l (r := AV.i64 a1) rfl rfl (LOp.load1 agg2 rfl rfl) <|
        (TR.d (r := AV.b false) (fs := []) rfl rfl (TOp.eqb (TOp.callB (CallAs.func ent100 rfl rfl) (Bors.cons (Bor.pure rfl) Bors.nil) rfl rfl (f100_ok a1 r2 hf3)) hc4) <|
        (TR.l (r := AV.b false) rfl rfl (LOp.pick_true rfl rfl rfl) <|
        (TR.l (r := AV.b false) rfl rfl (LOp.move rfl rfl) <|
        (TR.s rfl rfl <|
        (TR.s rfl rfl <|
        (TR.s rfl rfl <|
        (TR.s rfl rfl <|
        (TR.s rfl rfl <|
        (TR.s rfl rfl <|
        (TR.s rfl rfl <|
        (TR.s rfl rfl <|
        (TR.s rfl rfl <|
        (TR.l (r := AV.b false) rfl rfl (LOp.pick_false rfl rfl rfl) <|
        (TR.l (r := AV.b false) rfl rfl (LOp.move rfl rfl) <|
        (TR.s rfl rfl <|
        (TR.s rfl rfl <|
        (TR.s rfl rfl <|
        (TR.l (r := AV.b false) rfl rfl (LOp.pick_false rfl rfl rfl) <|
        (TR.l (r := AV.b false) rfl rfl (LOp.assign rfl rfl) <|
        TR.nil))))))))))))))))))))))))) rfl (by kernel_rfl) rfl fills_nil rfl ?_
      iterate 25 refine ROps.dropS ?_
      refine ROps.drop0 ?_
      refine ROps.nil ?_
      refine RunC.ret ?_
      have hq := Option.some.inj h
      subst q0
      exact bodyQ.pure (.inr rfl) rfl (Res.one rfl (RV.tmp rfl))
  · refine RunC.region_draw (Γ' := []) 25 mixed 
      (TR.l (r := AV.ptr [AV.i64 a0, AV.i64 a1, AV.sl a2.length (a2.map AV.f32)]) rfl rfl (LOp.fap und40 rfl siz2 rfl rfl rfl) <|
      (TR.l (r := AV.i64 a0) rfl rfl (LOp.load1 agg2 rfl rfl) <|
      (TR.d (r := AV.b false) (fs := []) rfl rfl (TOp.eqb (TOp.callB (CallAs.func ent100 rfl rfl) (Bors.cons (Bor.pure rfl) Bors.nil) rfl rfl (f100_ok a0 r1 hf1)) hc2) <|
      (TR.l (r := AV.b false) rfl rfl (LOp.move rfl rfl) <|
      (TR.s rfl rfl <|
      (TR.s rfl rfl <|
      (TR.s rfl rfl <|
      (TR.l (r := AV.b false) rfl rfl (LOp.pick_false rfl rfl rfl) <|
      (TR.l (r := AV.b false) rfl rfl (LOp.move rfl rfl) <|
      (TR.s rfl rfl <|
      (TR.s rfl rfl <|
      (TR.s rfl rfl <|
      (TR.s rfl rfl <|
      (TR.s rfl rfl <|
      (TR.s rfl rfl <|
      (TR.s rfl rfl <|
      (TR.s rfl rfl <|
      (TR.s rfl rfl <|
      (TR.l (r := AV.b false) rfl rfl (LOp.pick_false rfl rfl rfl) <|
      (TR.l (r := AV.b false) rfl rfl (LOp.move rfl rfl) <|
      (TR.s rfl rfl <|
      (TR.s rfl rfl <|
      (TR.s rfl rfl <|
      (TR.l (r := AV.b false) rfl rfl (LOp.pick_false rfl rfl rfl) <|
      (TR.l (r := AV.b false) rfl rfl (LOp.assign rfl rfl) <|
      TR.nil))))))))))))))))))))))))) rfl (by kernel_rfl) rfl fills_nil rfl ?_
    iterate 25 refine ROps.dropS ?_
    refine ROps.drop0 ?_
    refine ROps.nil ?_
    refine RunC.ret ?_
    have hq := Option.some.inj h
    subst q0
    exact bodyQ.pure (.inr rfl) rfl (Res.one rfl (RV.tmp rfl))
noncomputable def f63 (a0 : Int) (a1 : Int) (a2 : List F) (a3 : Int) (a4 : Int) (a5 : Int) (a6 : Int) : Option (Bool) :=
  obind (f100 a5) fun (r1 : Bool) =>
  bsel r1 (
    obind (f100 a6) fun (r2 : Bool) =>
    bsel r2 (
      olet (IntKind.i64.wrap (a0 - a5)) fun (x3 : Int) =>
      obind (f103 a3 0 x3) fun (r4 : Bool) =>
      bsel r4 (
        olet (IntKind.i64.wrap (a1 - a6)) fun (x5 : Int) =>
        obind (f103 a4 0 x5) fun (r6 : Bool) =>
        some r6) (
        some false)) (
      some false)) (
    some false)
theorem f63_ok (a0 : Int) (a1 : Int) (a2 : List F) (a3 : Int) (a4 : Int) (a5 : Int) (a6 : Int) (q0 : Bool) (h : f63 a0 a1 a2 a3 a4 a5 a6 = some q0) : Ev Try.prog 63 [AV.agg [AV.i64 a0, AV.i64 a1, AV.sl a2.length (a2.map AV.f32)], AV.i64 a3, AV.i64 a4, AV.i64 a5, AV.i64 a6] [] (AV.b q0) [] := by
  refine Ev.start Try.func63 rfl rfl 0 (τ := [(0, AV.agg [AV.i64 a0, AV.i64 a1, AV.sl a2.length (a2.map AV.f32)]), (1, AV.i64 a3), (2, AV.i64 a4), (3, AV.i64 a5), (4, AV.i64 a6)]) rfl (Γ' := []) rfl (n := 33) rfl (g := 0) rfl ?_
  unfold f63 at h
  refine RunC.seq ?_
  refine RunC.regionW ?_
  refine ROps.d (r := AV.ptr [AV.i64 a0, AV.i64 a1, AV.sl a2.length (a2.map AV.f32)]) (fs := []) (Γ' := []) rfl rfl rfl (TOp.box_s rfl rfl rfl) rfl ?_
  refine ROps.l (r := AV.b false) rfl rfl rfl (LOp.assign rfl rfl) ?_
  refine ROps.nil ?_
  refine RunC.seq ?_
  obtain ⟨r1, hf1, h⟩ := obind_some h
  rcases bsel_some h with ⟨hc2, h⟩ | ⟨hc2, h⟩
  · obtain ⟨r2, hf3, h⟩ := obind_some h
    rcases bsel_some h with ⟨hc4, h⟩ | ⟨hc4, h⟩
    · obtain ⟨x3, hx5, h⟩ := olet_some h
      obtain ⟨r4, hf6, h⟩ := obind_some h
      rcases bsel_some h with ⟨hc7, h⟩ | ⟨hc7, h⟩
      · obtain ⟨x5, hx8, h⟩ := olet_some h
        obtain ⟨r6, hf9, h⟩ := obind_some h
        refine RunC.regionW ?_
        refine ROps.l (r := AV.i64 a5) rfl rfl rfl (LOp.move rfl rfl) ?_
        refine ROps.d (r := AV.b true) (fs := []) (Γ' := []) rfl rfl rfl (TOp.eqb (TOp.callB (CallAs.func ent100 rfl rfl) (Bors.cons (Bor.pure rfl) Bors.nil) rfl rfl (f100_ok a5 r1 hf1)) hc2) rfl ?_
        refine ROps.l (r := AV.b true) rfl rfl rfl (LOp.move rfl rfl) ?_
        refine ROps.l (r := AV.i64 a6) rfl rfl rfl (LOp.move rfl rfl) ?_
        refine ROps.d (r := AV.b true) (fs := []) (Γ' := []) rfl rfl rfl (TOp.eqb (TOp.callB (CallAs.func ent100 rfl rfl) (Bors.cons (Bor.pure rfl) Bors.nil) rfl rfl (f100_ok a6 r2 hf3)) hc4) rfl ?_
        refine ROps.l (r := AV.b true) rfl rfl rfl (LOp.pick_true rfl rfl rfl) ?_
        refine ROps.l (r := AV.b true) rfl rfl rfl (LOp.move rfl rfl) ?_
        refine ROps.l (r := AV.i64 a3) rfl rfl rfl (LOp.move rfl rfl) ?_
        refine ROps.l (r := AV.ptr [AV.i64 a0, AV.i64 a1, AV.sl a2.length (a2.map AV.f32)]) rfl rfl rfl (LOp.fap und40 rfl siz2 rfl rfl rfl) ?_
        refine ROps.l (r := AV.i64 a0) rfl rfl rfl (LOp.load1 agg2 rfl rfl) ?_
        refine ROps.l (r := AV.i64 a5) rfl rfl rfl (LOp.move rfl rfl) ?_
        refine ROps.l (r := AV.i64 x3) rfl rfl rfl (LOp.eqr (LOp.sub rfl rfl rfl) (congrArg (AV.ik .i64) hx5)) ?_
        refine ROps.d (r := AV.b true) (fs := []) (Γ' := []) rfl rfl rfl (TOp.eqb (TOp.callB (CallAs.func ent103 rfl rfl) (Bors.cons (Bor.pure rfl) (Bors.cons (Bor.pure rfl) (Bors.cons (Bor.pure rfl) Bors.nil))) rfl rfl (f103_ok a3 0 x3 r4 hf6)) hc7) rfl ?_
        refine ROps.l (r := AV.b true) rfl rfl rfl (LOp.pick_true rfl rfl rfl) ?_
        refine ROps.l (r := AV.b true) rfl rfl rfl (LOp.move rfl rfl) ?_
        refine ROps.l (r := AV.i64 a4) rfl rfl rfl (LOp.move rfl rfl) ?_
        refine ROps.l (r := AV.ptr [AV.i64 a1, AV.sl a2.length (a2.map AV.f32)]) rfl rfl rfl (LOp.fap und40 rfl siz2 rfl rfl rfl) ?_
        refine ROps.l (r := AV.i64 a1) rfl rfl rfl (LOp.load1 agg2 rfl rfl) ?_
        refine ROps.l (r := AV.i64 a6) rfl rfl rfl (LOp.move rfl rfl) ?_
        refine ROps.l (r := AV.i64 x5) rfl rfl rfl (LOp.eqr (LOp.sub rfl rfl rfl) (congrArg (AV.ik .i64) hx8)) ?_
        refine ROps.d (r := AV.b r6) (fs := []) (Γ' := []) rfl rfl rfl (TOp.callB (CallAs.func ent103 rfl rfl) (Bors.cons (Bor.pure rfl) (Bors.cons (Bor.pure rfl) (Bors.cons (Bor.pure rfl) Bors.nil))) rfl rfl (f103_ok a4 0 x5 r6 hf9)) rfl ?_
        refine ROps.l (r := AV.b r6) rfl rfl rfl (LOp.pick_true rfl rfl rfl) ?_
        refine ROps.l (r := AV.b r6) rfl rfl rfl (LOp.assign rfl rfl) ?_
        refine ROps.nil ?_
        refine RunC.ret ?_
        have hq := Option.some.inj h
        subst q0
        exact bodyQ.pure (.inr rfl) rfl (Res.one rfl (RV.tmp rfl))
      · refine RunC.regionW ?_
        refine ROps.l (r := AV.i64 a5) rfl rfl rfl (LOp.move rfl rfl) ?_
        refine ROps.d (r := AV.b true) (fs := []) (Γ' := []) rfl rfl rfl (TOp.eqb (TOp.callB (CallAs.func ent100 rfl rfl) (Bors.cons (Bor.pure rfl) Bors.nil) rfl rfl (f100_ok a5 r1 hf1)) hc2) rfl ?_
        refine ROps.l (r := AV.b true) rfl rfl rfl (LOp.move rfl rfl) ?_
        refine ROps.l (r := AV.i64 a6) rfl rfl rfl (LOp.move rfl rfl) ?_
        refine ROps.d (r := AV.b true) (fs := []) (Γ' := []) rfl rfl rfl (TOp.eqb (TOp.callB (CallAs.func ent100 rfl rfl) (Bors.cons (Bor.pure rfl) Bors.nil) rfl rfl (f100_ok a6 r2 hf3)) hc4) rfl ?_
        refine ROps.l (r := AV.b true) rfl rfl rfl (LOp.pick_true rfl rfl rfl) ?_
        refine ROps.l (r := AV.b true) rfl rfl rfl (LOp.move rfl rfl) ?_
        refine ROps.l (r := AV.i64 a3) rfl rfl rfl (LOp.move rfl rfl) ?_
        refine ROps.l (r := AV.ptr [AV.i64 a0, AV.i64 a1, AV.sl a2.length (a2.map AV.f32)]) rfl rfl rfl (LOp.fap und40 rfl siz2 rfl rfl rfl) ?_
        refine ROps.l (r := AV.i64 a0) rfl rfl rfl (LOp.load1 agg2 rfl rfl) ?_
        refine ROps.l (r := AV.i64 a5) rfl rfl rfl (LOp.move rfl rfl) ?_
        refine ROps.l (r := AV.i64 x3) rfl rfl rfl (LOp.eqr (LOp.sub rfl rfl rfl) (congrArg (AV.ik .i64) hx5)) ?_
        refine ROps.d (r := AV.b false) (fs := []) (Γ' := []) rfl rfl rfl (TOp.eqb (TOp.callB (CallAs.func ent103 rfl rfl) (Bors.cons (Bor.pure rfl) (Bors.cons (Bor.pure rfl) (Bors.cons (Bor.pure rfl) Bors.nil))) rfl rfl (f103_ok a3 0 x3 r4 hf6)) hc7) rfl ?_
        refine ROps.l (r := AV.b false) rfl rfl rfl (LOp.pick_true rfl rfl rfl) ?_
        refine ROps.l (r := AV.b false) rfl rfl rfl (LOp.move rfl rfl) ?_
        refine ROps.s rfl rfl rfl ?_
        refine ROps.s rfl rfl rfl ?_
        refine ROps.s rfl rfl rfl ?_
        refine ROps.s rfl rfl rfl ?_
        refine ROps.s rfl rfl rfl ?_
        refine ROps.s rfl rfl rfl ?_
        refine ROps.l (r := AV.b false) rfl rfl rfl (LOp.pick_false rfl rfl rfl) ?_
        refine ROps.l (r := AV.b false) rfl rfl rfl (LOp.assign rfl rfl) ?_
        refine ROps.nil ?_
        refine RunC.ret ?_
        have hq := Option.some.inj h
        subst q0
        exact bodyQ.pure (.inr rfl) rfl (Res.one rfl (RV.tmp rfl))
    · refine RunC.regionW ?_
      refine ROps.l (r := AV.i64 a5) rfl rfl rfl (LOp.move rfl rfl) ?_
      refine ROps.d (r := AV.b true) (fs := []) (Γ' := []) rfl rfl rfl (TOp.eqb (TOp.callB (CallAs.func ent100 rfl rfl) (Bors.cons (Bor.pure rfl) Bors.nil) rfl rfl (f100_ok a5 r1 hf1)) hc2) rfl ?_
      refine ROps.l (r := AV.b true) rfl rfl rfl (LOp.move rfl rfl) ?_
      refine ROps.l (r := AV.i64 a6) rfl rfl rfl (LOp.move rfl rfl) ?_
      refine ROps.d (r := AV.b false) (fs := []) (Γ' := []) rfl rfl rfl (TOp.eqb (TOp.callB (CallAs.func ent100 rfl rfl) (Bors.cons (Bor.pure rfl) Bors.nil) rfl rfl (f100_ok a6 r2 hf3)) hc4) rfl ?_
      refine ROps.l (r := AV.b false) rfl rfl rfl (LOp.pick_true rfl rfl rfl) ?_
      refine ROps.l (r := AV.b false) rfl rfl rfl (LOp.move rfl rfl) ?_
      refine ROps.s rfl rfl rfl ?_
      refine ROps.s rfl rfl rfl ?_
      refine ROps.s rfl rfl rfl ?_
      refine ROps.s rfl rfl rfl ?_
      refine ROps.s rfl rfl rfl ?_
      refine ROps.s rfl rfl rfl ?_
      refine ROps.l (r := AV.b false) rfl rfl rfl (LOp.pick_false rfl rfl rfl) ?_
      refine ROps.l (r := AV.b false) rfl rfl rfl (LOp.move rfl rfl) ?_
      refine ROps.s rfl rfl rfl ?_
      refine ROps.s rfl rfl rfl ?_
      refine ROps.s rfl rfl rfl ?_
      refine ROps.s rfl rfl rfl ?_
      refine ROps.s rfl rfl rfl ?_
      refine ROps.s rfl rfl rfl ?_
      refine ROps.l (r := AV.b false) rfl rfl rfl (LOp.pick_false rfl rfl rfl) ?_
      refine ROps.l (r := AV.b false) rfl rfl rfl (LOp.assign rfl rfl) ?_
      refine ROps.nil ?_
      refine RunC.ret ?_
      have hq := Option.some.inj h
      subst q0
      exact bodyQ.pure (.inr rfl) rfl (Res.one rfl (RV.tmp rfl))
  · refine RunC.regionW ?_
    refine ROps.l (r := AV.i64 a5) rfl rfl rfl (LOp.move rfl rfl) ?_
    refine ROps.d (r := AV.b false) (fs := []) (Γ' := []) rfl rfl rfl (TOp.eqb (TOp.callB (CallAs.func ent100 rfl rfl) (Bors.cons (Bor.pure rfl) Bors.nil) rfl rfl (f100_ok a5 r1 hf1)) hc2) rfl ?_
    refine ROps.l (r := AV.b false) rfl rfl rfl (LOp.move rfl rfl) ?_
    refine ROps.s rfl rfl rfl ?_
    refine ROps.s rfl rfl rfl ?_
    refine ROps.l (r := AV.b false) rfl rfl rfl (LOp.pick_false rfl rfl rfl) ?_
    refine ROps.l (r := AV.b false) rfl rfl rfl (LOp.move rfl rfl) ?_
    refine ROps.s rfl rfl rfl ?_
    refine ROps.s rfl rfl rfl ?_
    refine ROps.s rfl rfl rfl ?_
    refine ROps.s rfl rfl rfl ?_
    refine ROps.s rfl rfl rfl ?_
    refine ROps.s rfl rfl rfl ?_
    refine ROps.l (r := AV.b false) rfl rfl rfl (LOp.pick_false rfl rfl rfl) ?_
    refine ROps.l (r := AV.b false) rfl rfl rfl (LOp.move rfl rfl) ?_
    refine ROps.s rfl rfl rfl ?_
    refine ROps.s rfl rfl rfl ?_
    refine ROps.s rfl rfl rfl ?_
    refine ROps.s rfl rfl rfl ?_
    refine ROps.s rfl rfl rfl ?_
    refine ROps.s rfl rfl rfl ?_
    refine ROps.l (r := AV.b false) rfl rfl rfl (LOp.pick_false rfl rfl rfl) ?_
    refine ROps.l (r := AV.b false) rfl rfl rfl (LOp.assign rfl rfl) ?_
    refine ROps.nil ?_
    refine RunC.ret ?_
    have hq := Option.some.inj h
    subst q0
    exact bodyQ.pure (.inr rfl) rfl (Res.one rfl (RV.tmp rfl))
noncomputable def f104 (a0 : List F) : Option ((List F)) :=
  need (apok 4 0 a0.length) <|
  some (([] : List F) ++ a0)
theorem f104_ok (a0 : List F) (q0 : List F) (h : f104 a0 = some q0) : Ev Try.prog 104 [AV.sl a0.length (a0.map AV.f32)] [] (AV.oref 0 0 0 q0.length) [⟨0, some (q0.map AV.f32)⟩] := by
  refine Ev.start Try.func104 rfl rfl 1 (τ := [(0, AV.sl a0.length (a0.map AV.f32))]) rfl (Γ' := [⟨0, none⟩]) rfl (n := 8) rfl (g := 0) rfl ?_
  unfold f104 at h
  refine RunC.seq ?_
  refine RunC.regionW ?_
  refine ROps.l (r := AV.nilsl) rfl rfl rfl (LOp.assign rfl rfl) ?_
  refine ROps.nil ?_
  refine RunC.seq ?_
  refine RunC.seq ?_
  refine RunC.regionW ?_
  refine ROps.l (r := AV.sl a0.length (a0.map AV.f32)) rfl rfl rfl (LOp.move rfl rfl) ?_
  refine ROps.eqnil rfl pun38 rfl rfl rfl rfl rfl ?_ ?_
  · intro hnil1
    refine ROps.nil ?_
    refine RunC.cond_true rfl rfl ?_
    refine RunC.seq ?_
    refine RunC.regionW ?_
    refine ROps.l (r := AV.nilsl) rfl rfl rfl (LOp.assign rfl rfl) ?_
    refine ROps.nil ?_
    refine RunC.nil_slot (Γ' := [⟨1, some (([] : List F).map AV.f32)⟩]) 2 0 rfl rfl rfl ?_
    refine RunC.ret ?_
    have hnl := List.map_eq_nil_iff.1 hnil1
    have hq : some ([] : List F) = some q0 := by
      rw [← h]; subst hnl; simp [need, apok]
    have hq := Option.some.inj hq
    subst q0
    exact bodyQ.mk (r' := AV.oref 0 1 0 (([] : List F).length)) [(0, 1)] (.inr rfl) rfl (by decide) rfl rfl (Res.eq (Res.one rfl (RV.tmp rfl)) (by rw [(show ([] : List F).length = 0 from rfl)] <;> rfl)) (SelL.arr0 (f := AV.f32) (fun _ => rfl) rfl trivial)
  · refine ROps.nil ?_
    refine RunC.cond_false rfl rfl ?_
    refine RunC.skip ?_
    refine RunC.seq ?_
    obtain ⟨hm2, h⟩ := need_some h
    refine RunC.regionW ?_
    refine ROps.d (r := AV.oref 0 1 0 0) (fs := [(0, (([] : List F).map AV.f32))]) (Γ' := [⟨1, some (([] : List F).map AV.f32)⟩]) rfl rfl rfl (TOp.buildSlice_o (g := ⟨0, none⟩) (za := AV.f32 (some 0)) (qs := []) 0 rfl und38 siz34 zer34 rfl zel34 rfl rfl trivial rfl) rfl ?_
    refine ROps.l (r := AV.sl a0.length (a0.map AV.f32)) rfl rfl rfl (LOp.move rfl rfl) ?_
    refine ROps.app (f := AV.f32) (xs := ([] : List F)) (ys := a0) (Γ' := [⟨2, some ((([] : List F) ++ a0).map AV.f32)⟩]) rfl pun38 inf34 rfl rfl rfl rfl rfl rfl rfl rfl rfl (by simp) (ReadAs.sl (by simp)) (ones_map (fun _ => rfl)) (ap_by hm2) (ap_mx hm2) rfl ?_
    refine ROps.l (r := AV.oref 0 2 0 (0 + a0.length)) rfl rfl rfl (LOp.assign rfl rfl) ?_
    refine ROps.nil ?_
    refine RunC.ret ?_
    have hq := Option.some.inj h
    subst q0
    exact bodyQ.mk (r' := AV.oref 0 2 0 ((([] : List F) ++ a0).length)) [(0, 2)] (.inr rfl) rfl (by decide) rfl rfl (Res.eq (Res.one rfl (RV.tmp rfl)) (by rw [(show (([] : List F) ++ a0).length = (0 + a0.length) from (app_len rfl rfl))] <;> rfl)) (SelL.arr0 (f := AV.f32) (fun _ => rfl) rfl trivial)
noncomputable def f64 (a0 : Int) (a1 : Int) (a2 : List F) : Option (Int × Int × (List F)) :=
  obind (f104 a2) fun (r1 : List F) =>
  some (a0, a1, r1)
theorem f64_ok (a0 : Int) (a1 : Int) (a2 : List F) (q0 : Int) (q1 : Int) (q2 : List F) (h : f64 a0 a1 a2 = some (q0, q1, q2)) : Ev Try.prog 64 [AV.agg [AV.i64 a0, AV.i64 a1, AV.sl a2.length (a2.map AV.f32)]] [] (AV.agg [AV.i64 q0, AV.i64 q1, AV.oref 0 0 0 q2.length]) [⟨0, some (q2.map AV.f32)⟩] := by
  refine Ev.start Try.func64 rfl rfl 2 (τ := [(0, AV.agg [AV.i64 a0, AV.i64 a1, AV.sl a2.length (a2.map AV.f32)])]) rfl (Γ' := [⟨0, none⟩, ⟨0, none⟩]) rfl (n := 11) rfl (g := 0) rfl ?_
  unfold f64 at h
  refine RunC.seq ?_
  refine RunC.regionW ?_
  refine ROps.d (r := AV.ptr [AV.i64 a0, AV.i64 a1, AV.sl a2.length (a2.map AV.f32)]) (fs := []) (Γ' := [⟨0, none⟩, ⟨0, none⟩]) rfl rfl rfl (TOp.box_s rfl rfl rfl) rfl ?_
  refine ROps.d (r := AV.optr 0 1 0) (fs := [(0, [AV.i64 0, AV.i64 0, AV.nilsl])]) (Γ' := [⟨1, some [AV.i64 0, AV.i64 0, AV.nilsl]⟩, ⟨0, none⟩]) rfl rfl rfl (TOp.alloc_o (g := ⟨0, none⟩) 0 rfl zer40 zok40 rfl) rfl ?_
  refine ROps.nil ?_
  refine RunC.seq ?_
  obtain ⟨r1, hf1, h⟩ := obind_some h
  refine RunC.region_draw (Γ' := [⟨1, some [AV.i64 0, AV.i64 0, AV.nilsl]⟩, ⟨1, some (r1.map AV.f32)⟩]) 8 mixed 
    (TR.l (r := AV.ptr [AV.i64 a0, AV.i64 a1, AV.sl a2.length (a2.map AV.f32)]) rfl rfl (LOp.fap und40 rfl siz2 rfl rfl rfl) <|
    (TR.l (r := AV.i64 a0) rfl rfl (LOp.load1 agg2 rfl rfl) <|
    (TR.l (r := AV.ptr [AV.i64 a1, AV.sl a2.length (a2.map AV.f32)]) rfl rfl (LOp.fap und40 rfl siz2 rfl rfl rfl) <|
    (TR.l (r := AV.i64 a1) rfl rfl (LOp.load1 agg2 rfl rfl) <|
    (TR.l (r := AV.ptr [AV.sl a2.length (a2.map AV.f32)]) rfl rfl (LOp.fap und40 rfl siz38 rfl rfl rfl) <|
    (TR.l (r := AV.sl a2.length (a2.map AV.f32)) rfl rfl (LOp.load1 agg38 rfl rfl) <|
    (TR.d (r := AV.oref 1 1 0 r1.length) (fs := [(1, (r1.map AV.f32))]) rfl rfl (TOp.callBN (ls := [(r1.map AV.f32)]) [1] (CallAs.func ent104 rfl rfl) (Bors.cons (Bor.sl (fun _ => rfl)) Bors.nil) rfl (f104_ok a2 r1 hf1) (and_all (lts0_map (f := AV.f32) (fun _ => rfl) _) rfl) (and_all (noss_map (f := AV.f32) (fun _ => rfl) _) rfl) rfl (by decide) (ns_of ⟨⟨_, rfl⟩, trivial⟩)) <|
    (TR.l (r := AV.agg [AV.i64 a0, AV.i64 a1, AV.oref 1 1 0 r1.length]) rfl rfl (LOp.build (qs := [(0, [AV.i64 a0]), (1, [AV.i64 a1]), (2, [AV.oref 1 1 0 r1.length])]) zer40 zok40 und40 plc40 rfl ⟨rfl, ⟨_, ALe.refl _, rfl⟩, ⟨rfl, ⟨_, ALe.refl _, rfl⟩, ⟨rfl, ⟨_, ALe.refl _, rfl⟩, trivial⟩⟩⟩ rfl) <|
    TR.nil)))))))) rfl (by kernel_rfl) rfl (fills_of (by show List.Nodup [1]; decide) ⟨⟨_, rfl⟩, trivial⟩) rfl ?_
  iterate 8 refine ROps.dropS ?_
  refine ROps.drop0 ?_
  refine ROps.store_le (r := AV.agg [AV.i64 a0, AV.i64 a1, AV.oref 1 1 0 r1.length]) (l' := [AV.i64 a0, AV.i64 a1, AV.oref 1 1 0 r1.length]) (Γ' := [⟨1, some [AV.i64 a0, AV.i64 a1, AV.oref 1 1 0 r1.length]⟩, ⟨1, some (r1.map AV.f32)⟩]) rfl siz40 rfl rfl rfl (ALe.refl _) rfl rfl rfl rfl (Nat.le_of_ble_eq_true rfl) rfl rfl ?_
  refine ROps.nil ?_
  refine RunC.ret ?_
  have hq := Option.some.inj h
  obtain ⟨hq0, hq⟩ := Prod.mk.inj hq
  obtain ⟨hq1, hq⟩ := Prod.mk.inj hq
  subst q0
  subst q1
  subst q2
  exact bodyQ.mk (r' := AV.agg [AV.i64 a0, AV.i64 a1, AV.oref 1 1 0 r1.length]) [(1, 1)] (.inr rfl) rfl (by decide) rfl rfl (Res.one rfl (RV.cell agg40 siz40 rfl rfl rfl rfl)) (SelL.arr0 (f := AV.f32) (fun _ => rfl) rfl trivial)
noncomputable def f66 (a0 : Int) (a1 : Int) (a2 : List F) (a3 : Int) (a4 : Int) : Option (F) :=
  olet (IntKind.i64.wrap (a3 * a1)) fun (x1 : Int) =>
  olet (IntKind.i64.wrap (x1 + a4)) fun (x2 : Int) =>
  obind (at? a2 x2) fun (e3 : F) =>
  some e3
theorem f66_ok (a0 : Int) (a1 : Int) (a2 : List F) (a3 : Int) (a4 : Int) (q0 : F) (h : f66 a0 a1 a2 a3 a4 = some q0) : Ev Try.prog 66 [AV.agg [AV.i64 a0, AV.i64 a1, AV.sl a2.length (a2.map AV.f32)], AV.i64 a3, AV.i64 a4] [] (AV.f32 q0) [] := by
  refine Ev.start Try.func66 rfl rfl 0 (τ := [(0, AV.agg [AV.i64 a0, AV.i64 a1, AV.sl a2.length (a2.map AV.f32)]), (1, AV.i64 a3), (2, AV.i64 a4)]) rfl (Γ' := []) rfl (n := 17) rfl (g := 0) rfl ?_
  unfold f66 at h
  refine RunC.seq ?_
  refine RunC.regionW ?_
  refine ROps.d (r := AV.ptr [AV.i64 a0, AV.i64 a1, AV.sl a2.length (a2.map AV.f32)]) (fs := []) (Γ' := []) rfl rfl rfl (TOp.box_s rfl rfl rfl) rfl ?_
  refine ROps.l (r := AV.f32 (some 0)) rfl rfl rfl (LOp.le (LOp.assign rfl rfl) (ALe.fl (by kernel_rfl) (by kernel_rfl))) ?_
  refine ROps.nil ?_
  refine RunC.seq ?_
  obtain ⟨x1, hx1, h⟩ := olet_some h
  obtain ⟨x2, hx2, h⟩ := olet_some h
  obtain ⟨e3, he3, h⟩ := obind_some h
  refine RunC.regionW ?_
  refine ROps.l (r := AV.ptr [AV.sl a2.length (a2.map AV.f32)]) rfl rfl rfl (LOp.fap und40 rfl siz38 rfl rfl rfl) ?_
  refine ROps.l (r := AV.sl a2.length (a2.map AV.f32)) rfl rfl rfl (LOp.load1 agg38 rfl rfl) ?_
  refine ROps.l (r := AV.i64 a3) rfl rfl rfl (LOp.move rfl rfl) ?_
  refine ROps.l (r := AV.ptr [AV.i64 a1, AV.sl a2.length (a2.map AV.f32)]) rfl rfl rfl (LOp.fap und40 rfl siz2 rfl rfl rfl) ?_
  refine ROps.l (r := AV.i64 a1) rfl rfl rfl (LOp.load1 agg2 rfl rfl) ?_
  refine ROps.l (r := AV.i64 x1) rfl rfl rfl (LOp.eqr (LOp.mul rfl rfl rfl) (congrArg (AV.ik .i64) hx1)) ?_
  refine ROps.l (r := AV.i64 a4) rfl rfl rfl (LOp.move rfl rfl) ?_
  refine ROps.l (r := AV.i64 x2) rfl rfl rfl (LOp.eqr (LOp.add rfl rfl rfl) (congrArg (AV.ik .i64) hx2)) ?_
  refine ROps.l (r := AV.ptr [AV.f32 e3]) rfl rfl rfl (LOp.le (LOp.ix (f := AV.f32) und38 siz34 rfl rfl rfl rfl he3) ALe.ptr) ?_
  refine ROps.l (r := AV.f32 e3) rfl rfl rfl (LOp.load1 agg34 rfl rfl) ?_
  refine ROps.l (r := AV.f32 e3) rfl rfl rfl (LOp.assign rfl rfl) ?_
  refine ROps.nil ?_
  refine RunC.ret ?_
  have hq := Option.some.inj h
  subst q0
  exact bodyQ.pure (.inr rfl) rfl (Res.one rfl (RV.tmp rfl))
noncomputable def f65_1 (a0 : Int) (a1 : Int) (a2 : Int) (a3 : Int) (a4 : F) (a5 : List F) : Option ((List F)) :=
  olet (IntKind.i64.wrap (a2 * a1)) fun (x1 : Int) =>
  olet (IntKind.i64.wrap (x1 + a3)) fun (x2 : Int) =>
  obind (setAt? a5 x2 a4) fun (L3 : List F) =>
  some L3
theorem f65_1_ok (a0 : Int) (a1 : Int) (a2 : Int) (a3 : Int) (a4 : F) (a5 : List F) (q0 : List F) (h : f65_1 a0 a1 a2 a3 a4 a5 = some q0) : Ev Try.prog 65 [AV.agg [AV.i64 a0, AV.i64 a1, AV.oref 0 0 0 a5.length], AV.i64 a2, AV.i64 a3, AV.f32 a4] [⟨0, some (a5.map AV.f32)⟩] (AV.tup []) [⟨0, some (q0.map AV.f32)⟩] := by
  refine Ev.start Try.func65 rfl rfl 0 (τ := [(0, AV.agg [AV.i64 a0, AV.i64 a1, AV.oref 0 0 0 a5.length]), (1, AV.i64 a2), (2, AV.i64 a3), (3, AV.f32 a4)]) rfl (Γ' := [⟨0, some (a5.map AV.f32)⟩]) rfl (n := 18) rfl (g := 1) rfl ?_
  unfold f65_1 at h
  refine RunC.seq ?_
  refine RunC.regionW ?_
  refine ROps.d (r := AV.ptr [AV.i64 a0, AV.i64 a1, AV.oref 0 0 0 a5.length]) (fs := []) (Γ' := [⟨0, some (a5.map AV.f32)⟩]) rfl rfl rfl (TOp.box_s rfl rfl rfl) rfl ?_
  refine ROps.nil ?_
  obtain ⟨x1, hx1, h⟩ := olet_some h
  obtain ⟨x2, hx2, h⟩ := olet_some h
  obtain ⟨L3, he3, h⟩ := obind_some h
  refine RunC.regionW ?_
  refine ROps.l (r := AV.ptr [AV.oref 0 0 0 a5.length]) rfl rfl rfl (LOp.fap und40 rfl siz38 rfl rfl rfl) ?_
  refine ROps.l (r := AV.oref 0 0 0 a5.length) rfl rfl rfl (LOp.load1 agg38 rfl rfl) ?_
  refine ROps.l (r := AV.i64 a2) rfl rfl rfl (LOp.move rfl rfl) ?_
  refine ROps.l (r := AV.ptr [AV.i64 a1, AV.oref 0 0 0 a5.length]) rfl rfl rfl (LOp.fap und40 rfl siz2 rfl rfl rfl) ?_
  refine ROps.l (r := AV.i64 a1) rfl rfl rfl (LOp.load1 agg2 rfl rfl) ?_
  refine ROps.l (r := AV.i64 x1) rfl rfl rfl (LOp.eqr (LOp.mul rfl rfl rfl) (congrArg (AV.ik .i64) hx1)) ?_
  refine ROps.l (r := AV.i64 a3) rfl rfl rfl (LOp.move rfl rfl) ?_
  refine ROps.l (r := AV.i64 x2) rfl rfl rfl (LOp.eqr (LOp.add rfl rfl rfl) (congrArg (AV.ik .i64) hx2)) ?_
  refine ROps.l (r := AV.f32 a4) rfl rfl rfl (LOp.move rfl rfl) ?_
  refine ROps.d (r := AV.optr 0 0 x2.toNat) (fs := []) (Γ' := [⟨0, some (a5.map AV.f32)⟩]) rfl rfl rfl (TOp.ixo und38 siz34 rfl rfl rfl (set_in he3 rfl) rfl) rfl ?_
  refine ROps.st (f := AV.f32) (i := x2) (Γ' := [⟨0, some (L3.map AV.f32)⟩]) rfl siz34 rfl rfl rfl (ALe.refl _) rfl rfl rfl he3 rfl ?_
  refine ROps.nil ?_
  have hq := Option.some.inj h
  subst q0
  exact bodyQ.mk (r' := AV.tup []) [(0, 0)] (.inl rfl) rfl (by decide) rfl rfl (Res.zero rfl) (SelL.arr (f := AV.f32) (fun _ => rfl) rfl trivial)
noncomputable def f27_b2 (a3 : Int) (a4 : Int) (a5 : List F) (a6 : Int) (a7 : Int) (r4 : Int) (r5 : Int) (r6 : List F) (v9 : Int) (L10 : List F) (v12 : Int) : Option (LR ((List F) × Int) ((List F)) (Int × Int × Bool × (List F))) :=
  bsel (decide (v12 < a4)) (
    olet (IntKind.i64.wrap (a6 + v9)) fun (x16 : Int) =>
    olet (IntKind.i64.wrap (a7 + v12)) fun (x17 : Int) =>
    obind (f66 a3 a4 a5 v9 v12) fun (r18 : F) =>
    obind (f65_1 r4 r5 x16 x17 r18 L10) fun (r19 : List F) =>
    need (decide (r19.length = r6.length)) <|
    olet (IntKind.i64.wrap (v12 + 1)) fun (x20 : Int) =>
    some (LR.next (r19, x20))) (
    some (LR.out L10))
noncomputable def f27_s2 (a3 : Int) (a4 : Int) (a5 : List F) (a6 : Int) (a7 : Int) (r4 : Int) (r5 : Int) (r6 : List F) (v9 : Int) : ((List F) × Int) → Option (LR ((List F) × Int) ((List F)) (Int × Int × Bool × (List F))) := fun s => f27_b2 a3 a4 a5 a6 a7 r4 r5 r6 v9 s.1 s.2
noncomputable def f27_k2 (v9 : Int) (L21 : List F) : Option (LR ((List F) × Int) ((List F)) (Int × Int × Bool × (List F))) :=
  olet (IntKind.i64.wrap (v9 + 1)) fun (x23 : Int) =>
  some (LR.next (L21, x23))
noncomputable def f27_b3 (a3 : Int) (a4 : Int) (a5 : List F) (a6 : Int) (a7 : Int) (r4 : Int) (r5 : Int) (r6 : List F) (L7 : List F) (v9 : Int) : Option (LR ((List F) × Int) ((List F)) (Int × Int × Bool × (List F))) :=
  bsel (decide (v9 < a3)) (
    obind (loopM (f27_s2 a3 a4 a5 a6 a7 r4 r5 r6 v9) (L7, 0)) fun z => osum z (fun e => f27_k2 v9 e) (fun r => some (LR.ret r))) (
    some (LR.out L7))
noncomputable def f27_s3 (a3 : Int) (a4 : Int) (a5 : List F) (a6 : Int) (a7 : Int) (r4 : Int) (r5 : Int) (r6 : List F) : ((List F) × Int) → Option (LR ((List F) × Int) ((List F)) (Int × Int × Bool × (List F))) := fun s => f27_b3 a3 a4 a5 a6 a7 r4 r5 r6 s.1 s.2
noncomputable def f27_k3 (r4 : Int) (r5 : Int) (L24 : List F) : Option (Int × Int × Bool × (List F)) :=
  some (r4, r5, true, L24)
noncomputable def f27 (a0 : Int) (a1 : Int) (a2 : List F) (a3 : Int) (a4 : Int) (a5 : List F) (a6 : Int) (a7 : Int) : Option (Int × Int × Bool × (List F)) :=
  obind (f62 a0 a1 a2) fun (r1 : Bool) =>
  bsel r1 (
    obind (f62 a3 a4 a5) fun (r2 : Bool) =>
    bsel r2 (
      obind (f63 a0 a1 a2 a6 a7 a3 a4) fun (r3 : Bool) =>
      bsel r3 (
        obind3 (f64 a0 a1 a2) fun (r4 : Int) (r5 : Int) (r6 : List F) =>
        obind (loopM (f27_s3 a3 a4 a5 a6 a7 r4 r5 r6) (r6, 0)) fun z => osum z (fun e => f27_k3 r4 r5 e) (fun r => some r)) (
        some (0, 0, false, ([] : List F)))) (
      some (0, 0, false, ([] : List F)))) (
    some (0, 0, false, ([] : List F)))
theorem f27_ok (a0 : Int) (a1 : Int) (a2 : List F) (a3 : Int) (a4 : Int) (a5 : List F) (a6 : Int) (a7 : Int) (q0 : Int) (q1 : Int) (q2 : Bool) (q3 : List F) (h : f27 a0 a1 a2 a3 a4 a5 a6 a7 = some (q0, q1, q2, q3)) : Ev Try.prog 27 [AV.agg [AV.i64 a0, AV.i64 a1, AV.sl a2.length (a2.map AV.f32)], AV.agg [AV.i64 a3, AV.i64 a4, AV.sl a5.length (a5.map AV.f32)], AV.i64 a6, AV.i64 a7] [] (AV.tup [AV.agg [AV.i64 q0, AV.i64 q1, AV.oref 0 0 0 q3.length], AV.b q2]) [⟨0, some (q3.map AV.f32)⟩] := by
  refine Ev.start Try.func27 rfl rfl 3 (τ := [(0, AV.agg [AV.i64 a0, AV.i64 a1, AV.sl a2.length (a2.map AV.f32)]), (1, AV.agg [AV.i64 a3, AV.i64 a4, AV.sl a5.length (a5.map AV.f32)]), (2, AV.i64 a6), (3, AV.i64 a7)]) rfl (Γ' := [⟨0, none⟩, ⟨0, none⟩, ⟨0, none⟩]) rfl (n := 60) rfl (g := 0) rfl ?_
  unfold f27 at h
  refine RunC.seq ?_
  refine RunC.regionW ?_
  refine ROps.d (r := AV.ptr [AV.i64 a0, AV.i64 a1, AV.sl a2.length (a2.map AV.f32)]) (fs := []) (Γ' := [⟨0, none⟩, ⟨0, none⟩, ⟨0, none⟩]) rfl rfl rfl (TOp.box_s rfl rfl rfl) rfl ?_
  refine ROps.d (r := AV.ptr [AV.i64 a3, AV.i64 a4, AV.sl a5.length (a5.map AV.f32)]) (fs := []) (Γ' := [⟨0, none⟩, ⟨0, none⟩, ⟨0, none⟩]) rfl rfl rfl (TOp.box_s rfl rfl rfl) rfl ?_
  refine ROps.d (r := AV.optr 0 1 0) (fs := [(0, [AV.i64 0, AV.i64 0, AV.nilsl])]) (Γ' := [⟨1, some [AV.i64 0, AV.i64 0, AV.nilsl]⟩, ⟨0, none⟩, ⟨0, none⟩]) rfl rfl rfl (TOp.alloc_o (g := ⟨0, none⟩) 0 rfl zer40 zok40 rfl) rfl ?_
  refine ROps.l (r := AV.b false) rfl rfl rfl (LOp.assign rfl rfl) ?_
  refine ROps.nil ?_
  refine RunC.seq ?_
  refine RunC.seq ?_
  obtain ⟨r1, hf1, h⟩ := obind_some h
  rcases bsel_some h with ⟨hc2, h⟩ | ⟨hc2, h⟩
  · obtain ⟨r2, hf3, h⟩ := obind_some h
    rcases bsel_some h with ⟨hc4, h⟩ | ⟨hc4, h⟩
    · obtain ⟨r3, hf5, h⟩ := obind_some h
      rcases bsel_some h with ⟨hc6, h⟩ | ⟨hc6, h⟩
      · refine RunC.regionW ?_
        refine ROps.l (r := AV.agg [AV.i64 a0, AV.i64 a1, AV.sl a2.length (a2.map AV.f32)]) rfl rfl rfl (LOp.loadAgg agg40 siz40 rfl rfl rfl rfl) ?_
        refine ROps.d (r := AV.b true) (fs := []) (Γ' := [⟨1, some [AV.i64 0, AV.i64 0, AV.nilsl]⟩, ⟨0, none⟩, ⟨0, none⟩]) rfl rfl rfl (TOp.eqb (TOp.callB (CallAs.func ent62 rfl rfl) (Bors.cons (Bor.agg (Bors.cons (Bor.pure rfl) (Bors.cons (Bor.pure rfl) (Bors.cons (Bor.sl (fun _ => rfl)) Bors.nil)))) Bors.nil) rfl rfl (f62_ok a0 a1 a2 r1 hf1)) hc2) rfl ?_
        refine ROps.l (r := AV.b false) rfl rfl rfl (LOp.eqb (LOp.not rfl rfl) rfl) ?_
        refine ROps.l (r := AV.b false) rfl rfl rfl (LOp.move rfl rfl) ?_
        refine ROps.l (r := AV.agg [AV.i64 a3, AV.i64 a4, AV.sl a5.length (a5.map AV.f32)]) rfl rfl rfl (LOp.loadAgg agg40 siz40 rfl rfl rfl rfl) ?_
        refine ROps.d (r := AV.b true) (fs := []) (Γ' := [⟨1, some [AV.i64 0, AV.i64 0, AV.nilsl]⟩, ⟨0, none⟩, ⟨0, none⟩]) rfl rfl rfl (TOp.eqb (TOp.callB (CallAs.func ent62 rfl rfl) (Bors.cons (Bor.agg (Bors.cons (Bor.pure rfl) (Bors.cons (Bor.pure rfl) (Bors.cons (Bor.sl (fun _ => rfl)) Bors.nil)))) Bors.nil) rfl rfl (f62_ok a3 a4 a5 r2 hf3)) hc4) rfl ?_
        refine ROps.l (r := AV.b false) rfl rfl rfl (LOp.eqb (LOp.not rfl rfl) rfl) ?_
        refine ROps.l (r := AV.b false) rfl rfl rfl (LOp.pick_false rfl rfl rfl) ?_
        refine ROps.l (r := AV.b false) rfl rfl rfl (LOp.move rfl rfl) ?_
        refine ROps.l (r := AV.agg [AV.i64 a0, AV.i64 a1, AV.sl a2.length (a2.map AV.f32)]) rfl rfl rfl (LOp.loadAgg agg40 siz40 rfl rfl rfl rfl) ?_
        refine ROps.l (r := AV.i64 a6) rfl rfl rfl (LOp.move rfl rfl) ?_
        refine ROps.l (r := AV.i64 a7) rfl rfl rfl (LOp.move rfl rfl) ?_
        refine ROps.l (r := AV.ptr [AV.i64 a3, AV.i64 a4, AV.sl a5.length (a5.map AV.f32)]) rfl rfl rfl (LOp.fap und40 rfl siz2 rfl rfl rfl) ?_
        refine ROps.l (r := AV.i64 a3) rfl rfl rfl (LOp.load1 agg2 rfl rfl) ?_
        refine ROps.l (r := AV.ptr [AV.i64 a4, AV.sl a5.length (a5.map AV.f32)]) rfl rfl rfl (LOp.fap und40 rfl siz2 rfl rfl rfl) ?_
        refine ROps.l (r := AV.i64 a4) rfl rfl rfl (LOp.load1 agg2 rfl rfl) ?_
        refine ROps.d (r := AV.b true) (fs := []) (Γ' := [⟨1, some [AV.i64 0, AV.i64 0, AV.nilsl]⟩, ⟨0, none⟩, ⟨0, none⟩]) rfl rfl rfl (TOp.eqb (TOp.callB (CallAs.func ent63 rfl rfl) (Bors.cons (Bor.agg (Bors.cons (Bor.pure rfl) (Bors.cons (Bor.pure rfl) (Bors.cons (Bor.sl (fun _ => rfl)) Bors.nil)))) (Bors.cons (Bor.pure rfl) (Bors.cons (Bor.pure rfl) (Bors.cons (Bor.pure rfl) (Bors.cons (Bor.pure rfl) Bors.nil))))) rfl rfl (f63_ok a0 a1 a2 a6 a7 a3 a4 r3 hf5)) hc6) rfl ?_
        refine ROps.l (r := AV.b false) rfl rfl rfl (LOp.eqb (LOp.not rfl rfl) rfl) ?_
        refine ROps.l (r := AV.b false) rfl rfl rfl (LOp.pick_false rfl rfl rfl) ?_
        refine ROps.nil ?_
        refine RunC.wl (τ' := [(2, AV.i64 a6), (3, AV.i64 a7), (4, AV.ptr [AV.i64 a0, AV.i64 a1, AV.sl a2.length (a2.map AV.f32)]), (5, AV.ptr [AV.i64 a3, AV.i64 a4, AV.sl a5.length (a5.map AV.f32)]), (8, AV.optr 0 1 0), (31, AV.b false)]) (Γ' := [⟨1, some [AV.i64 0, AV.i64 0, AV.nilsl]⟩, ⟨0, none⟩, ⟨0, none⟩]) ⟨(ALe.refl _), (ALe.refl _), (ALe.refl _), (ALe.refl _), (ALe.refl _), (ALe.refl _), trivial⟩ ⟨⟨rfl, .inr rfl⟩, ⟨rfl, .inr rfl⟩, ⟨rfl, .inr rfl⟩, trivial⟩ ?_
        refine RunC.cond_false rfl rfl ?_
        refine RunC.skip ?_
        refine RunC.seq ?_
        obtain ⟨r4, r5, r6, hf7, h⟩ := obind3_some h
        refine RunC.regionW ?_
        refine ROps.l (r := AV.agg [AV.i64 a0, AV.i64 a1, AV.sl a2.length (a2.map AV.f32)]) rfl rfl rfl (LOp.loadAgg agg40 siz40 rfl rfl rfl rfl) ?_
        refine ROps.d (r := AV.agg [AV.i64 r4, AV.i64 r5, AV.oref 1 1 0 r6.length]) (fs := [(1, (r6.map AV.f32))]) (Γ' := [⟨1, some [AV.i64 0, AV.i64 0, AV.nilsl]⟩, ⟨1, some (r6.map AV.f32)⟩, ⟨0, none⟩]) rfl rfl rfl (TOp.callBN (ls := [(r6.map AV.f32)]) [1] (CallAs.func ent64 rfl rfl) (Bors.cons (Bor.agg (Bors.cons (Bor.pure rfl) (Bors.cons (Bor.pure rfl) (Bors.cons (Bor.sl (fun _ => rfl)) Bors.nil)))) Bors.nil) rfl (f64_ok a0 a1 a2 r4 r5 r6 hf7) (and_all (lts0_map (f := AV.f32) (fun _ => rfl) _) rfl) (and_all (noss_map (f := AV.f32) (fun _ => rfl) _) rfl) rfl (by decide) (ns_of ⟨⟨_, rfl⟩, trivial⟩)) rfl ?_
        refine ROps.d (r := AV.optr 2 1 0) (fs := [(2, [AV.i64 0, AV.i64 0, AV.nilsl])]) (Γ' := [⟨1, some [AV.i64 0, AV.i64 0, AV.nilsl]⟩, ⟨1, some (r6.map AV.f32)⟩, ⟨1, some [AV.i64 0, AV.i64 0, AV.nilsl]⟩]) rfl rfl rfl (TOp.alloc_o (g := ⟨0, none⟩) 2 rfl zer40 zok40 rfl) rfl ?_
        refine ROps.store_le (r := AV.agg [AV.i64 r4, AV.i64 r5, AV.oref 1 1 0 r6.length]) (l' := [AV.i64 r4, AV.i64 r5, AV.oref 1 1 0 r6.length]) (Γ' := [⟨1, some [AV.i64 0, AV.i64 0, AV.nilsl]⟩, ⟨1, some (r6.map AV.f32)⟩, ⟨1, some [AV.i64 r4, AV.i64 r5, AV.oref 1 1 0 r6.length]⟩]) rfl siz40 rfl rfl rfl (ALe.refl _) rfl rfl rfl rfl (Nat.le_of_ble_eq_true rfl) rfl rfl ?_
        refine ROps.nil ?_
        refine RunC.seq ?_
        refine RunC.seq ?_
        refine RunC.regionW ?_
        refine ROps.l (r := AV.ptr [AV.i64 a3, AV.i64 a4, AV.sl a5.length (a5.map AV.f32)]) rfl rfl rfl (LOp.fap und40 rfl siz2 rfl rfl rfl) ?_
        refine ROps.l (r := AV.i64 a3) rfl rfl rfl (LOp.load1 agg2 rfl rfl) ?_
        refine ROps.l (r := AV.i64 0) rfl rfl rfl (LOp.move rfl rfl) ?_
        refine ROps.nil ?_
        obtain ⟨z4, hz_4, h⟩ := obind_some h
        refine RunC.cutN (fun τ Γ => ∃ (L24 : List F), L24.length = r6.length ∧ WeakLe τ [(8, AV.optr 0 1 0), (10, AV.optr 2 1 0)] ∧ DeadLe Γ [⟨1, some [AV.i64 0, AV.i64 0, AV.nilsl]⟩, ⟨1, some (L24.map AV.f32)⟩, ⟨1, some [AV.i64 r4, AV.i64 r5, AV.oref 1 1 0 r6.length]⟩] ∧ z4 = .inl L24) ?_ ?_
        · refine RunC.block (RunC.loop (RunL.loopM (x := z4) (f27_s3 a3 a4 a5 a6 a7 r4 r5 r6) (fun (s : (List F) × Int) τ Γ => s.1.length = r6.length ∧ WeakLe τ [(2, AV.i64 a6), (3, AV.i64 a7), (5, AV.ptr [AV.i64 a3, AV.i64 a4, AV.sl a5.length (a5.map AV.f32)]), (8, AV.optr 0 1 0), (10, AV.optr 2 1 0), (36, AV.i64 a3), (37, AV.i64 s.2)] ∧ DeadLe Γ [⟨1, some [AV.i64 0, AV.i64 0, AV.nilsl]⟩, ⟨1, some (s.1.map AV.f32)⟩, ⟨1, some [AV.i64 r4, AV.i64 r5, AV.oref 1 1 0 r6.length]⟩]) ?_ _ _ _ hz_4 ⟨rfl, ⟨(ALe.refl _), (ALe.refl _), (ALe.refl _), (ALe.refl _), (ALe.refl _), (ALe.refl _), (ALe.refl _), trivial⟩, ⟨⟨rfl, .inr rfl⟩, ⟨rfl, .inr rfl⟩, ⟨rfl, .inr rfl⟩, trivial⟩⟩))
          rintro ⟨L7, v9⟩ τ4 Γ4 y4_ ⟨hl8, hw4, hd4⟩ h4_ ho4 hr4
          refine RunC.wl (τ' := [(2, AV.i64 a6), (3, AV.i64 a7), (5, AV.ptr [AV.i64 a3, AV.i64 a4, AV.sl a5.length (a5.map AV.f32)]), (8, AV.optr 0 1 0), (10, AV.optr 2 1 0), (36, AV.i64 a3), (37, AV.i64 v9)]) (Γ' := [⟨1, some [AV.i64 0, AV.i64 0, AV.nilsl]⟩, ⟨1, some (L7.map AV.f32)⟩, ⟨1, some [AV.i64 r4, AV.i64 r5, AV.oref 1 1 0 r6.length]⟩]) hw4 hd4 ?_
          replace hl8 : L7.length = r6.length := hl8
          replace h4_ : f27_b3 a3 a4 a5 a6 a7 r4 r5 r6 L7 v9 = some y4_ := h4_
          unfold f27_b3 at h4_
          refine RunC.seq ?_
          rcases bsel_some h4_ with ⟨hc8, h4_⟩ | ⟨hc8, h4_⟩
          · refine RunC.regionW ?_
            refine ROps.l (r := AV.b true) rfl rfl rfl (LOp.eqb (LOp.lss rfl rfl rfl) hc8) ?_
            refine ROps.nil ?_
            refine RunC.seq ?_
            refine RunC.cond_true rfl rfl ?_
            refine RunC.skip ?_
            refine RunC.seq ?_
            refine RunC.block ?_
            refine RunC.seq ?_
            refine RunC.regionW ?_
            refine ROps.l (r := AV.i64 v9) rfl rfl rfl (LOp.move rfl rfl) ?_
            refine ROps.l (r := AV.i64 v9) rfl rfl rfl (LOp.assign rfl rfl) ?_
            refine ROps.nil ?_
            refine RunC.seq ?_
            refine RunC.regionW ?_
            refine ROps.l (r := AV.ptr [AV.i64 a4, AV.sl a5.length (a5.map AV.f32)]) rfl rfl rfl (LOp.fap und40 rfl siz2 rfl rfl rfl) ?_
            refine ROps.l (r := AV.i64 a4) rfl rfl rfl (LOp.load1 agg2 rfl rfl) ?_
            refine ROps.l (r := AV.i64 0) rfl rfl rfl (LOp.move rfl rfl) ?_
            refine ROps.nil ?_
            obtain ⟨z5, hz_5, h4_⟩ := obind_some h4_
            refine RunC.cutN (fun τ Γ => ∃ (L21 : List F), L21.length = r6.length ∧ WeakLe τ [(2, AV.i64 a6), (3, AV.i64 a7), (5, AV.ptr [AV.i64 a3, AV.i64 a4, AV.sl a5.length (a5.map AV.f32)]), (8, AV.optr 0 1 0), (10, AV.optr 2 1 0), (36, AV.i64 a3), (37, AV.i64 v9)] ∧ DeadLe Γ [⟨1, some [AV.i64 0, AV.i64 0, AV.nilsl]⟩, ⟨1, some (L21.map AV.f32)⟩, ⟨1, some [AV.i64 r4, AV.i64 r5, AV.oref 1 1 0 r6.length]⟩] ∧ z5 = .inl L21) ?_ ?_
            · refine RunC.block (RunC.loop (RunL.loopM (x := z5) (f27_s2 a3 a4 a5 a6 a7 r4 r5 r6 v9) (fun (s : (List F) × Int) τ Γ => s.1.length = r6.length ∧ WeakLe τ [(2, AV.i64 a6), (3, AV.i64 a7), (5, AV.ptr [AV.i64 a3, AV.i64 a4, AV.sl a5.length (a5.map AV.f32)]), (8, AV.optr 0 1 0), (10, AV.optr 2 1 0), (11, AV.i64 v9), (36, AV.i64 a3), (37, AV.i64 v9), (41, AV.i64 a4), (42, AV.i64 s.2)] ∧ DeadLe Γ [⟨1, some [AV.i64 0, AV.i64 0, AV.nilsl]⟩, ⟨1, some (s.1.map AV.f32)⟩, ⟨1, some [AV.i64 r4, AV.i64 r5, AV.oref 1 1 0 r6.length]⟩]) ?_ _ _ _ hz_5 ⟨hl8, ⟨(ALe.refl _), (ALe.refl _), (ALe.refl _), (ALe.refl _), (ALe.refl _), (ALe.refl _), (ALe.refl _), (ALe.refl _), (ALe.refl _), (ALe.refl _), trivial⟩, ⟨⟨rfl, .inr rfl⟩, ⟨rfl, .inr rfl⟩, ⟨rfl, .inr rfl⟩, trivial⟩⟩))
              rintro ⟨L10, v12⟩ τ5 Γ5 y5_ ⟨hl11, hw5, hd5⟩ h5_ ho5 hr5
              refine RunC.wl (τ' := [(2, AV.i64 a6), (3, AV.i64 a7), (5, AV.ptr [AV.i64 a3, AV.i64 a4, AV.sl a5.length (a5.map AV.f32)]), (8, AV.optr 0 1 0), (10, AV.optr 2 1 0), (11, AV.i64 v9), (36, AV.i64 a3), (37, AV.i64 v9), (41, AV.i64 a4), (42, AV.i64 v12)]) (Γ' := [⟨1, some [AV.i64 0, AV.i64 0, AV.nilsl]⟩, ⟨1, some (L10.map AV.f32)⟩, ⟨1, some [AV.i64 r4, AV.i64 r5, AV.oref 1 1 0 r6.length]⟩]) hw5 hd5 ?_
              replace hl11 : L10.length = r6.length := hl11
              replace h5_ : f27_b2 a3 a4 a5 a6 a7 r4 r5 r6 v9 L10 v12 = some y5_ := h5_
              unfold f27_b2 at h5_
              refine RunC.seq ?_
              rcases bsel_some h5_ with ⟨hc9, h5_⟩ | ⟨hc9, h5_⟩
              · refine RunC.regionW ?_
                refine ROps.l (r := AV.b true) rfl rfl rfl (LOp.eqb (LOp.lss rfl rfl rfl) hc9) ?_
                refine ROps.nil ?_
                refine RunC.seq ?_
                refine RunC.cond_true rfl rfl ?_
                refine RunC.skip ?_
                refine RunC.seq ?_
                refine RunC.block ?_
                refine RunC.seq ?_
                refine RunC.regionW ?_
                refine ROps.l (r := AV.i64 v12) rfl rfl rfl (LOp.move rfl rfl) ?_
                refine ROps.l (r := AV.i64 v12) rfl rfl rfl (LOp.assign rfl rfl) ?_
                refine ROps.nil ?_
                obtain ⟨x16, hx13, h5_⟩ := olet_some h5_
                obtain ⟨x17, hx14, h5_⟩ := olet_some h5_
                obtain ⟨r18, hf15, h5_⟩ := obind_some h5_
                obtain ⟨r19, hf16, h5_⟩ := obind_some h5_
                obtain ⟨hn17, h5_⟩ := need_some h5_
                refine RunC.region_draw (Γ' := [⟨1, some [AV.i64 0, AV.i64 0, AV.nilsl]⟩, ⟨1, some (L10.map AV.f32)⟩, ⟨1, some [AV.i64 r4, AV.i64 r5, AV.oref 1 1 0 r6.length]⟩]) 11 mixed 
                  (TR.d (r := AV.agg [AV.i64 r4, AV.i64 r5, AV.oref 1 1 0 r6.length]) (fs := []) rfl rfl (TOp.loadAgg_o rfl agg40 siz40 rfl rfl rfl rfl) <|
                  (TR.l (r := AV.i64 a6) rfl rfl (LOp.move rfl rfl) <|
                  (TR.l (r := AV.i64 v9) rfl rfl (LOp.move rfl rfl) <|
                  (TR.l (r := AV.i64 x16) rfl rfl (LOp.eqr (LOp.add rfl rfl rfl) (congrArg (AV.ik .i64) hx13)) <|
                  (TR.l (r := AV.i64 a7) rfl rfl (LOp.move rfl rfl) <|
                  (TR.l (r := AV.i64 v12) rfl rfl (LOp.move rfl rfl) <|
                  (TR.l (r := AV.i64 x17) rfl rfl (LOp.eqr (LOp.add rfl rfl rfl) (congrArg (AV.ik .i64) hx14)) <|
                  (TR.l (r := AV.agg [AV.i64 a3, AV.i64 a4, AV.sl a5.length (a5.map AV.f32)]) rfl rfl (LOp.loadAgg agg40 siz40 rfl rfl rfl rfl) <|
                  (TR.l (r := AV.i64 v9) rfl rfl (LOp.move rfl rfl) <|
                  (TR.l (r := AV.i64 v12) rfl rfl (LOp.move rfl rfl) <|
                  (TR.d (r := AV.f32 r18) (fs := []) rfl rfl (TOp.callB (CallAs.func ent66 rfl rfl) (Bors.cons (Bor.agg (Bors.cons (Bor.pure rfl) (Bors.cons (Bor.pure rfl) (Bors.cons (Bor.sl (fun _ => rfl)) Bors.nil)))) (Bors.cons (Bor.pure rfl) (Bors.cons (Bor.pure rfl) Bors.nil))) rfl rfl (f66_ok a3 a4 a5 v9 v12 r18 hf15)) <|
                  TR.nil))))))))))) rfl (by kernel_rfl) rfl fills_nil rfl ?_
                iterate 11 refine ROps.dropS ?_
                refine ROps.drop0 ?_
                refine ROps.callO (A := [AV.agg [AV.i64 r4, AV.i64 r5, AV.oref 1 1 0 r6.length], AV.i64 x16, AV.i64 x17, AV.f32 r18]) (args := [AV.agg [AV.i64 r4, AV.i64 r5, AV.oref 0 0 0 L10.length], AV.i64 x16, AV.i64 x17, AV.f32 r18]) (Γc := [⟨0, some (L10.map AV.f32)⟩]) (Γc' := [⟨0, some (r19.map AV.f32)⟩]) (r' := AV.tup []) (Γ' := [⟨1, some [AV.i64 0, AV.i64 0, AV.nilsl]⟩, ⟨1, some (r19.map AV.f32)⟩, ⟨1, some [AV.i64 r4, AV.i64 r5, AV.oref 1 1 0 r6.length]⟩]) [(1, 1)] [] rfl (CallAs.func ent65 rfl rfl) rfl rfl (SelOk.of (by decide) (SelL.arr0 (f := AV.f32) (fun _ => rfl) rfl trivial)) (live_of ⟨⟨_, _, rfl⟩, trivial⟩) (by simp [AV.ren, AV.rens, sigma, hl11]) rfl (f65_1_ok r4 r5 x16 x17 r18 L10 r19 hf16) rfl (news_of trivial) (by decide) (by simp [AV.ren, AV.rens, sigma, of_decide_eq_true hn17]) (by simp [backOb, sigma, rens_f32, rens_f64, rens_i64, rens_ik, rens_str, rens_cp]) ?_
                refine ROps.nil ?_
                refine RunC.wl (τ' := [(2, AV.i64 a6), (3, AV.i64 a7), (5, AV.ptr [AV.i64 a3, AV.i64 a4, AV.sl a5.length (a5.map AV.f32)]), (8, AV.optr 0 1 0), (10, AV.optr 2 1 0), (11, AV.i64 v9), (36, AV.i64 a3), (37, AV.i64 v9), (41, AV.i64 a4), (42, AV.i64 v12)]) (Γ' := [⟨1, some [AV.i64 0, AV.i64 0, AV.nilsl]⟩, ⟨1, some (r19.map AV.f32)⟩, ⟨1, some [AV.i64 r4, AV.i64 r5, AV.oref 1 1 0 r6.length]⟩]) ⟨(ALe.refl _), (ALe.refl _), (ALe.refl _), (ALe.refl _), (ALe.refl _), (ALe.refl _), (ALe.refl _), (ALe.refl _), (ALe.refl _), (ALe.refl _), trivial⟩ ⟨⟨rfl, .inr rfl⟩, ⟨rfl, .inr rfl⟩, ⟨rfl, .inr rfl⟩, trivial⟩ ?_
                obtain ⟨x20, hx18, h5_⟩ := olet_some h5_
                refine RunC.regionW ?_
                refine ROps.l (r := AV.i64 x20) rfl rfl rfl (LOp.eqr (LOp.add rfl rfl rfl) (congrArg (AV.ik .i64) hx18)) ?_
                refine ROps.l (r := AV.i64 x20) rfl rfl rfl (LOp.move rfl rfl) ?_
                refine ROps.nil ?_
                cases Option.some.inj h5_
                exact ⟨_, rfl, (of_decide_eq_true hn17), ⟨(ALe.refl _), (ALe.refl _), (ALe.refl _), (ALe.refl _), (ALe.refl _), (ALe.refl _), (ALe.refl _), (ALe.refl _), (ALe.refl _), (ALe.refl _), trivial⟩, ⟨⟨rfl, .inr rfl⟩, ⟨rfl, .inr rfl⟩, ⟨rfl, .inr rfl⟩, trivial⟩⟩
              · refine RunC.regionW ?_
                refine ROps.l (r := AV.b false) rfl rfl rfl (LOp.eqb (LOp.lss rfl rfl rfl) hc9) ?_
                refine ROps.nil ?_
                refine RunC.seq ?_
                refine RunC.cond_false rfl rfl ?_
                refine RunC.exit ?_
                cases Option.some.inj h5_
                have hx := ho5 _ rfl
                exact ⟨L10, hl11, ⟨(ALe.refl _), (ALe.refl _), (ALe.refl _), (ALe.refl _), (ALe.refl _), (ALe.refl _), (ALe.refl _), trivial⟩, ⟨⟨rfl, .inr rfl⟩, ⟨rfl, .inr rfl⟩, ⟨rfl, .inr rfl⟩, trivial⟩, hx⟩
            · rintro τ6 Γ6 ⟨L21, hl22, hw6, hd6, rfl⟩
              refine RunC.wl (τ' := [(2, AV.i64 a6), (3, AV.i64 a7), (5, AV.ptr [AV.i64 a3, AV.i64 a4, AV.sl a5.length (a5.map AV.f32)]), (8, AV.optr 0 1 0), (10, AV.optr 2 1 0), (36, AV.i64 a3), (37, AV.i64 v9)]) (Γ' := [⟨1, some [AV.i64 0, AV.i64 0, AV.nilsl]⟩, ⟨1, some (L21.map AV.f32)⟩, ⟨1, some [AV.i64 r4, AV.i64 r5, AV.oref 1 1 0 r6.length]⟩]) hw6 hd6 ?_
              replace h4_ : f27_k2 v9 L21 = some y4_ := h4_
              unfold f27_k2 at h4_
              obtain ⟨x23, hx19, h4_⟩ := olet_some h4_
              refine RunC.regionW ?_
              refine ROps.l (r := AV.i64 x23) rfl rfl rfl (LOp.eqr (LOp.add rfl rfl rfl) (congrArg (AV.ik .i64) hx19)) ?_
              refine ROps.l (r := AV.i64 x23) rfl rfl rfl (LOp.move rfl rfl) ?_
              refine ROps.nil ?_
              cases Option.some.inj h4_
              exact ⟨_, rfl, hl22, ⟨(ALe.refl _), (ALe.refl _), (ALe.refl _), (ALe.refl _), (ALe.refl _), (ALe.refl _), (ALe.refl _), trivial⟩, ⟨⟨rfl, .inr rfl⟩, ⟨rfl, .inr rfl⟩, ⟨rfl, .inr rfl⟩, trivial⟩⟩
          · refine RunC.regionW ?_
            refine ROps.l (r := AV.b false) rfl rfl rfl (LOp.eqb (LOp.lss rfl rfl rfl) hc8) ?_
            refine ROps.nil ?_
            refine RunC.seq ?_
            refine RunC.cond_false rfl rfl ?_
            refine RunC.exit ?_
            cases Option.some.inj h4_
            have hx := ho4 _ rfl
            exact ⟨L7, hl8, ⟨(ALe.refl _), (ALe.refl _), trivial⟩, ⟨⟨rfl, .inr rfl⟩, ⟨rfl, .inr rfl⟩, ⟨rfl, .inr rfl⟩, trivial⟩, hx⟩
        · rintro τ7 Γ7 ⟨L24, hl25, hw7, hd7, rfl⟩
          refine RunC.wl (τ' := [(8, AV.optr 0 1 0), (10, AV.optr 2 1 0)]) (Γ' := [⟨1, some [AV.i64 0, AV.i64 0, AV.nilsl]⟩, ⟨1, some (L24.map AV.f32)⟩, ⟨1, some [AV.i64 r4, AV.i64 r5, AV.oref 1 1 0 r6.length]⟩]) hw7 hd7 ?_
          replace h : f27_k3 r4 r5 L24 = some (q0, q1, q2, q3) := h
          unfold f27_k3 at h
          refine RunC.seq ?_
          refine RunC.regionW ?_
          refine ROps.d (r := AV.agg [AV.i64 r4, AV.i64 r5, AV.oref 1 1 0 r6.length]) (fs := []) (Γ' := [⟨1, some [AV.i64 0, AV.i64 0, AV.nilsl]⟩, ⟨1, some (L24.map AV.f32)⟩, ⟨1, some [AV.i64 r4, AV.i64 r5, AV.oref 1 1 0 r6.length]⟩]) rfl rfl rfl (TOp.loadAgg_o rfl agg40 siz40 rfl rfl rfl rfl) rfl ?_
          refine ROps.store_le (r := AV.agg [AV.i64 r4, AV.i64 r5, AV.oref 1 1 0 r6.length]) (l' := [AV.i64 r4, AV.i64 r5, AV.oref 1 1 0 r6.length]) (Γ' := [⟨1, some [AV.i64 r4, AV.i64 r5, AV.oref 1 1 0 r6.length]⟩, ⟨1, some (L24.map AV.f32)⟩, ⟨1, some [AV.i64 r4, AV.i64 r5, AV.oref 1 1 0 r6.length]⟩]) rfl siz40 rfl rfl rfl (ALe.refl _) rfl rfl rfl rfl (Nat.le_of_ble_eq_true rfl) rfl rfl ?_
          refine ROps.l (r := AV.b true) rfl rfl rfl (LOp.assign rfl rfl) ?_
          refine ROps.nil ?_
          refine RunC.ret ?_
          have hq := Option.some.inj h
          obtain ⟨hq0, hq⟩ := Prod.mk.inj hq
          obtain ⟨hq1, hq⟩ := Prod.mk.inj hq
          obtain ⟨hq2, hq⟩ := Prod.mk.inj hq
          subst q0
          subst q1
          subst q2
          subst q3
          exact bodyQ.mk (r' := AV.tup [AV.agg [AV.i64 r4, AV.i64 r5, AV.oref 1 1 0 L24.length], AV.b true]) [(1, 1)] (.inr rfl) rfl (by decide) rfl rfl (Res.eq (Res.two rfl (RV.cell agg40 siz40 rfl rfl rfl rfl) (RV.tmp rfl)) (by rw [(show L24.length = r6.length from hl25)] <;> rfl)) (SelL.arr0 (f := AV.f32) (fun _ => rfl) rfl trivial)
      · refine RunC.regionW ?_
        refine ROps.l (r := AV.agg [AV.i64 a0, AV.i64 a1, AV.sl a2.length (a2.map AV.f32)]) rfl rfl rfl (LOp.loadAgg agg40 siz40 rfl rfl rfl rfl) ?_
        refine ROps.d (r := AV.b true) (fs := []) (Γ' := [⟨1, some [AV.i64 0, AV.i64 0, AV.nilsl]⟩, ⟨0, none⟩, ⟨0, none⟩]) rfl rfl rfl (TOp.eqb (TOp.callB (CallAs.func ent62 rfl rfl) (Bors.cons (Bor.agg (Bors.cons (Bor.pure rfl) (Bors.cons (Bor.pure rfl) (Bors.cons (Bor.sl (fun _ => rfl)) Bors.nil)))) Bors.nil) rfl rfl (f62_ok a0 a1 a2 r1 hf1)) hc2) rfl ?_
        refine ROps.l (r := AV.b false) rfl rfl rfl (LOp.eqb (LOp.not rfl rfl) rfl) ?_
        refine ROps.l (r := AV.b false) rfl rfl rfl (LOp.move rfl rfl) ?_
        refine ROps.l (r := AV.agg [AV.i64 a3, AV.i64 a4, AV.sl a5.length (a5.map AV.f32)]) rfl rfl rfl (LOp.loadAgg agg40 siz40 rfl rfl rfl rfl) ?_
        refine ROps.d (r := AV.b true) (fs := []) (Γ' := [⟨1, some [AV.i64 0, AV.i64 0, AV.nilsl]⟩, ⟨0, none⟩, ⟨0, none⟩]) rfl rfl rfl (TOp.eqb (TOp.callB (CallAs.func ent62 rfl rfl) (Bors.cons (Bor.agg (Bors.cons (Bor.pure rfl) (Bors.cons (Bor.pure rfl) (Bors.cons (Bor.sl (fun _ => rfl)) Bors.nil)))) Bors.nil) rfl rfl (f62_ok a3 a4 a5 r2 hf3)) hc4) rfl ?_
        refine ROps.l (r := AV.b false) rfl rfl rfl (LOp.eqb (LOp.not rfl rfl) rfl) ?_
        refine ROps.l (r := AV.b false) rfl rfl rfl (LOp.pick_false rfl rfl rfl) ?_
        refine ROps.l (r := AV.b false) rfl rfl rfl (LOp.move rfl rfl) ?_
        refine ROps.l (r := AV.agg [AV.i64 a0, AV.i64 a1, AV.sl a2.length (a2.map AV.f32)]) rfl rfl rfl (LOp.loadAgg agg40 siz40 rfl rfl rfl rfl) ?_
        refine ROps.l (r := AV.i64 a6) rfl rfl rfl (LOp.move rfl rfl) ?_
        refine ROps.l (r := AV.i64 a7) rfl rfl rfl (LOp.move rfl rfl) ?_
        refine ROps.l (r := AV.ptr [AV.i64 a3, AV.i64 a4, AV.sl a5.length (a5.map AV.f32)]) rfl rfl rfl (LOp.fap und40 rfl siz2 rfl rfl rfl) ?_
        refine ROps.l (r := AV.i64 a3) rfl rfl rfl (LOp.load1 agg2 rfl rfl) ?_
        refine ROps.l (r := AV.ptr [AV.i64 a4, AV.sl a5.length (a5.map AV.f32)]) rfl rfl rfl (LOp.fap und40 rfl siz2 rfl rfl rfl) ?_
        refine ROps.l (r := AV.i64 a4) rfl rfl rfl (LOp.load1 agg2 rfl rfl) ?_
        refine ROps.d (r := AV.b false) (fs := []) (Γ' := [⟨1, some [AV.i64 0, AV.i64 0, AV.nilsl]⟩, ⟨0, none⟩, ⟨0, none⟩]) rfl rfl rfl (TOp.eqb (TOp.callB (CallAs.func ent63 rfl rfl) (Bors.cons (Bor.agg (Bors.cons (Bor.pure rfl) (Bors.cons (Bor.pure rfl) (Bors.cons (Bor.sl (fun _ => rfl)) Bors.nil)))) (Bors.cons (Bor.pure rfl) (Bors.cons (Bor.pure rfl) (Bors.cons (Bor.pure rfl) (Bors.cons (Bor.pure rfl) Bors.nil))))) rfl rfl (f63_ok a0 a1 a2 a6 a7 a3 a4 r3 hf5)) hc6) rfl ?_
        refine ROps.l (r := AV.b true) rfl rfl rfl (LOp.eqb (LOp.not rfl rfl) rfl) ?_
        refine ROps.l (r := AV.b true) rfl rfl rfl (LOp.pick_false rfl rfl rfl) ?_
        refine ROps.nil ?_
        refine RunC.wl (τ' := [(2, AV.i64 a6), (3, AV.i64 a7), (4, AV.ptr [AV.i64 a0, AV.i64 a1, AV.sl a2.length (a2.map AV.f32)]), (5, AV.ptr [AV.i64 a3, AV.i64 a4, AV.sl a5.length (a5.map AV.f32)]), (8, AV.optr 0 1 0), (31, AV.b true)]) (Γ' := [⟨1, some [AV.i64 0, AV.i64 0, AV.nilsl]⟩, ⟨0, none⟩, ⟨0, none⟩]) ⟨(ALe.refl _), (ALe.refl _), (ALe.refl _), (ALe.refl _), (ALe.refl _), (ALe.refl _), trivial⟩ ⟨⟨rfl, .inr rfl⟩, ⟨rfl, .inr rfl⟩, ⟨rfl, .inr rfl⟩, trivial⟩ ?_
        refine RunC.cond_true rfl rfl ?_
        refine RunC.seq ?_
        refine RunC.regionW ?_
        refine ROps.l (r := AV.agg [AV.i64 0, AV.i64 0, AV.nilsl]) rfl rfl rfl (LOp.build (qs := []) zer40 zok40 und40 plc40 rfl trivial rfl) ?_
        refine ROps.store_le (r := AV.agg [AV.i64 0, AV.i64 0, AV.nilsl]) (l' := [AV.i64 0, AV.i64 0, AV.nilsl]) (Γ' := [⟨1, some [AV.i64 0, AV.i64 0, AV.nilsl]⟩, ⟨0, none⟩, ⟨0, none⟩]) rfl siz40 rfl rfl rfl (ALe.refl _) rfl rfl rfl rfl (Nat.le_of_ble_eq_true rfl) rfl rfl ?_
        refine ROps.l (r := AV.b false) rfl rfl rfl (LOp.assign rfl rfl) ?_
        refine ROps.nil ?_
        refine RunC.nil_cell (l' := [AV.i64 0, AV.i64 0, AV.oref 1 1 0 0]) (Γ' := [⟨1, some [AV.i64 0, AV.i64 0, AV.oref 1 1 0 0]⟩, ⟨1, some (([] : List F).map AV.f32)⟩, ⟨0, none⟩]) 0 2 1 rfl rfl rfl rfl rfl ?_
        refine RunC.ret ?_
        have hq := Option.some.inj h
        obtain ⟨hq0, hq⟩ := Prod.mk.inj hq
        obtain ⟨hq1, hq⟩ := Prod.mk.inj hq
        obtain ⟨hq2, hq⟩ := Prod.mk.inj hq
        subst q0
        subst q1
        subst q2
        subst q3
        exact bodyQ.mk (r' := AV.tup [AV.agg [AV.i64 0, AV.i64 0, AV.oref 1 1 0 (([] : List F).length)], AV.b false]) [(1, 1)] (.inr rfl) rfl (by decide) rfl rfl (Res.eq (Res.two rfl (RV.cell agg40 siz40 rfl rfl rfl rfl) (RV.tmp rfl)) (by rw [(show ([] : List F).length = 0 from rfl)] <;> rfl)) (SelL.arr0 (f := AV.f32) (fun _ => rfl) rfl trivial)
    · refine RunC.regionW ?_
      refine ROps.l (r := AV.agg [AV.i64 a0, AV.i64 a1, AV.sl a2.length (a2.map AV.f32)]) rfl rfl rfl (LOp.loadAgg agg40 siz40 rfl rfl rfl rfl) ?_
      refine ROps.d (r := AV.b true) (fs := []) (Γ' := [⟨1, some [AV.i64 0, AV.i64 0, AV.nilsl]⟩, ⟨0, none⟩, ⟨0, none⟩]) rfl rfl rfl (TOp.eqb (TOp.callB (CallAs.func ent62 rfl rfl) (Bors.cons (Bor.agg (Bors.cons (Bor.pure rfl) (Bors.cons (Bor.pure rfl) (Bors.cons (Bor.sl (fun _ => rfl)) Bors.nil)))) Bors.nil) rfl rfl (f62_ok a0 a1 a2 r1 hf1)) hc2) rfl ?_
      refine ROps.l (r := AV.b false) rfl rfl rfl (LOp.eqb (LOp.not rfl rfl) rfl) ?_
      refine ROps.l (r := AV.b false) rfl rfl rfl (LOp.move rfl rfl) ?_
      refine ROps.l (r := AV.agg [AV.i64 a3, AV.i64 a4, AV.sl a5.length (a5.map AV.f32)]) rfl rfl rfl (LOp.loadAgg agg40 siz40 rfl rfl rfl rfl) ?_
      refine ROps.d (r := AV.b false) (fs := []) (Γ' := [⟨1, some [AV.i64 0, AV.i64 0, AV.nilsl]⟩, ⟨0, none⟩, ⟨0, none⟩]) rfl rfl rfl (TOp.eqb (TOp.callB (CallAs.func ent62 rfl rfl) (Bors.cons (Bor.agg (Bors.cons (Bor.pure rfl) (Bors.cons (Bor.pure rfl) (Bors.cons (Bor.sl (fun _ => rfl)) Bors.nil)))) Bors.nil) rfl rfl (f62_ok a3 a4 a5 r2 hf3)) hc4) rfl ?_
      refine ROps.l (r := AV.b true) rfl rfl rfl (LOp.eqb (LOp.not rfl rfl) rfl) ?_
      refine ROps.l (r := AV.b true) rfl rfl rfl (LOp.pick_false rfl rfl rfl) ?_
      refine ROps.l (r := AV.b true) rfl rfl rfl (LOp.move rfl rfl) ?_
      refine ROps.s rfl rfl rfl ?_
      refine ROps.s rfl rfl rfl ?_
      refine ROps.s rfl rfl rfl ?_
      refine ROps.s rfl rfl rfl ?_
      refine ROps.s rfl rfl rfl ?_
      refine ROps.s rfl rfl rfl ?_
      refine ROps.s rfl rfl rfl ?_
      refine ROps.s rfl rfl rfl ?_
      refine ROps.s rfl rfl rfl ?_
      refine ROps.l (r := AV.b true) rfl rfl rfl (LOp.pick_true rfl rfl rfl) ?_
      refine ROps.nil ?_
      refine RunC.wl (τ' := [(2, AV.i64 a6), (3, AV.i64 a7), (4, AV.ptr [AV.i64 a0, AV.i64 a1, AV.sl a2.length (a2.map AV.f32)]), (5, AV.ptr [AV.i64 a3, AV.i64 a4, AV.sl a5.length (a5.map AV.f32)]), (8, AV.optr 0 1 0), (31, AV.b true)]) (Γ' := [⟨1, some [AV.i64 0, AV.i64 0, AV.nilsl]⟩, ⟨0, none⟩, ⟨0, none⟩]) ⟨(ALe.refl _), (ALe.refl _), (ALe.refl _), (ALe.refl _), (ALe.refl _), (ALe.refl _), trivial⟩ ⟨⟨rfl, .inr rfl⟩, ⟨rfl, .inr rfl⟩, ⟨rfl, .inr rfl⟩, trivial⟩ ?_
      refine RunC.cond_true rfl rfl ?_
      refine RunC.seq ?_
      refine RunC.regionW ?_
      refine ROps.l (r := AV.agg [AV.i64 0, AV.i64 0, AV.nilsl]) rfl rfl rfl (LOp.build (qs := []) zer40 zok40 und40 plc40 rfl trivial rfl) ?_
      refine ROps.store_le (r := AV.agg [AV.i64 0, AV.i64 0, AV.nilsl]) (l' := [AV.i64 0, AV.i64 0, AV.nilsl]) (Γ' := [⟨1, some [AV.i64 0, AV.i64 0, AV.nilsl]⟩, ⟨0, none⟩, ⟨0, none⟩]) rfl siz40 rfl rfl rfl (ALe.refl _) rfl rfl rfl rfl (Nat.le_of_ble_eq_true rfl) rfl rfl ?_
      refine ROps.l (r := AV.b false) rfl rfl rfl (LOp.assign rfl rfl) ?_
      refine ROps.nil ?_
      refine RunC.nil_cell (l' := [AV.i64 0, AV.i64 0, AV.oref 1 1 0 0]) (Γ' := [⟨1, some [AV.i64 0, AV.i64 0, AV.oref 1 1 0 0]⟩, ⟨1, some (([] : List F).map AV.f32)⟩, ⟨0, none⟩]) 0 2 1 rfl rfl rfl rfl rfl ?_
      refine RunC.ret ?_
      have hq := Option.some.inj h
      obtain ⟨hq0, hq⟩ := Prod.mk.inj hq
      obtain ⟨hq1, hq⟩ := Prod.mk.inj hq
      obtain ⟨hq2, hq⟩ := Prod.mk.inj hq
      subst q0
      subst q1
      subst q2
      subst q3
      exact bodyQ.mk (r' := AV.tup [AV.agg [AV.i64 0, AV.i64 0, AV.oref 1 1 0 (([] : List F).length)], AV.b false]) [(1, 1)] (.inr rfl) rfl (by decide) rfl rfl (Res.eq (Res.two rfl (RV.cell agg40 siz40 rfl rfl rfl rfl) (RV.tmp rfl)) (by rw [(show ([] : List F).length = 0 from rfl)] <;> rfl)) (SelL.arr0 (f := AV.f32) (fun _ => rfl) rfl trivial)
  · refine RunC.regionW ?_
    refine ROps.l (r := AV.agg [AV.i64 a0, AV.i64 a1, AV.sl a2.length (a2.map AV.f32)]) rfl rfl rfl (LOp.loadAgg agg40 siz40 rfl rfl rfl rfl) ?_
    refine ROps.d (r := AV.b false) (fs := []) (Γ' := [⟨1, some [AV.i64 0, AV.i64 0, AV.nilsl]⟩, ⟨0, none⟩, ⟨0, none⟩]) rfl rfl rfl (TOp.eqb (TOp.callB (CallAs.func ent62 rfl rfl) (Bors.cons (Bor.agg (Bors.cons (Bor.pure rfl) (Bors.cons (Bor.pure rfl) (Bors.cons (Bor.sl (fun _ => rfl)) Bors.nil)))) Bors.nil) rfl rfl (f62_ok a0 a1 a2 r1 hf1)) hc2) rfl ?_
    refine ROps.l (r := AV.b true) rfl rfl rfl (LOp.eqb (LOp.not rfl rfl) rfl) ?_
    refine ROps.l (r := AV.b true) rfl rfl rfl (LOp.move rfl rfl) ?_
    refine ROps.s rfl rfl rfl ?_
    refine ROps.s rfl rfl rfl ?_
    refine ROps.s rfl rfl rfl ?_
    refine ROps.l (r := AV.b true) rfl rfl rfl (LOp.pick_true rfl rfl rfl) ?_
    refine ROps.l (r := AV.b true) rfl rfl rfl (LOp.move rfl rfl) ?_
    refine ROps.s rfl rfl rfl ?_
    refine ROps.s rfl rfl rfl ?_
    refine ROps.s rfl rfl rfl ?_
    refine ROps.s rfl rfl rfl ?_
    refine ROps.s rfl rfl rfl ?_
    refine ROps.s rfl rfl rfl ?_
    refine ROps.s rfl rfl rfl ?_
    refine ROps.s rfl rfl rfl ?_
    refine ROps.s rfl rfl rfl ?_
    refine ROps.l (r := AV.b true) rfl rfl rfl (LOp.pick_true rfl rfl rfl) ?_
    refine ROps.nil ?_
    refine RunC.wl (τ' := [(2, AV.i64 a6), (3, AV.i64 a7), (4, AV.ptr [AV.i64 a0, AV.i64 a1, AV.sl a2.length (a2.map AV.f32)]), (5, AV.ptr [AV.i64 a3, AV.i64 a4, AV.sl a5.length (a5.map AV.f32)]), (8, AV.optr 0 1 0), (31, AV.b true)]) (Γ' := [⟨1, some [AV.i64 0, AV.i64 0, AV.nilsl]⟩, ⟨0, none⟩, ⟨0, none⟩]) ⟨(ALe.refl _), (ALe.refl _), (ALe.refl _), (ALe.refl _), (ALe.refl _), (ALe.refl _), trivial⟩ ⟨⟨rfl, .inr rfl⟩, ⟨rfl, .inr rfl⟩, ⟨rfl, .inr rfl⟩, trivial⟩ ?_
    refine RunC.cond_true rfl rfl ?_
    refine RunC.seq ?_
    refine RunC.regionW ?_
    refine ROps.l (r := AV.agg [AV.i64 0, AV.i64 0, AV.nilsl]) rfl rfl rfl (LOp.build (qs := []) zer40 zok40 und40 plc40 rfl trivial rfl) ?_
    refine ROps.store_le (r := AV.agg [AV.i64 0, AV.i64 0, AV.nilsl]) (l' := [AV.i64 0, AV.i64 0, AV.nilsl]) (Γ' := [⟨1, some [AV.i64 0, AV.i64 0, AV.nilsl]⟩, ⟨0, none⟩, ⟨0, none⟩]) rfl siz40 rfl rfl rfl (ALe.refl _) rfl rfl rfl rfl (Nat.le_of_ble_eq_true rfl) rfl rfl ?_
    refine ROps.l (r := AV.b false) rfl rfl rfl (LOp.assign rfl rfl) ?_
    refine ROps.nil ?_
    refine RunC.nil_cell (l' := [AV.i64 0, AV.i64 0, AV.oref 1 1 0 0]) (Γ' := [⟨1, some [AV.i64 0, AV.i64 0, AV.oref 1 1 0 0]⟩, ⟨1, some (([] : List F).map AV.f32)⟩, ⟨0, none⟩]) 0 2 1 rfl rfl rfl rfl rfl ?_
    refine RunC.ret ?_
    have hq := Option.some.inj h
    obtain ⟨hq0, hq⟩ := Prod.mk.inj hq
    obtain ⟨hq1, hq⟩ := Prod.mk.inj hq
    obtain ⟨hq2, hq⟩ := Prod.mk.inj hq
    subst q0
    subst q1
    subst q2
    subst q3
    exact bodyQ.mk (r' := AV.tup [AV.agg [AV.i64 0, AV.i64 0, AV.oref 1 1 0 (([] : List F).length)], AV.b false]) [(1, 1)] (.inr rfl) rfl (by decide) rfl rfl (Res.eq (Res.two rfl (RV.cell agg40 siz40 rfl rfl rfl rfl) (RV.tmp rfl)) (by rw [(show ([] : List F).length = 0 from rfl)] <;> rfl)) (SelL.arr0 (f := AV.f32) (fun _ => rfl) rfl trivial)
noncomputable def f5 (a0 : Int) (a1 : Int) (a2 : List F) (a3 : Int) (a4 : Int) (a5 : List F) (a6 : Int) (a7 : Int) : Option (Bool) :=
  obind (f24 a0 a1 a2 1048576) fun (r1 : Int) =>
  bsel (decide (r1 < 0)) (
    some true) (
    obind (f24 a3 a4 a5 r1) fun (r2 : Int) =>
    bsel (decide (r2 < 0)) (
      some true) (
      obind3 (f26 a0 a1 a2) fun (r3 : Int) (r4 : Int) (r5 : List F) =>
      obind3 (f26 a3 a4 a5) fun (r6 : Int) (r7 : Int) (r8 : List F) =>
      obind4 (f25 r3 r4 r5 r6 r7 r8 a6 a7) fun (r9 : Int) (r10 : Int) (r11 : Bool) (r12 : List F) =>
      obind3 (f26 a0 a1 a2) fun (r13 : Int) (r14 : Int) (r15 : List F) =>
      obind3 (f26 a3 a4 a5) fun (r16 : Int) (r17 : Int) (r18 : List F) =>
      obind4 (f27 r13 r14 r15 r16 r17 r18 a6 a7) fun (r19 : Int) (r20 : Int) (r21 : Bool) (r22 : List F) =>
      obind (f28 r19 r20 r22 r9 r10 r12) fun (r23 : Bool) =>
      bsel r23 (
        bsel (!(r21 == r11)) (
          some false) (
          obind3 (f26 a0 a1 a2) fun (r24 : Int) (r25 : Int) (r26 : List F) =>
          obind (f28 r13 r14 r15 r24 r25 r26) fun (r27 : Bool) =>
          bsel r27 (
            obind3 (f26 a3 a4 a5) fun (r28 : Int) (r29 : Int) (r30 : List F) =>
            obind (f28 r16 r17 r18 r28 r29 r30) fun (r31 : Bool) =>
            bsel r31 (
              obind2 (f29_1 r13 r14 1 r15) fun (r32 : Int) (r33 : List F) =>
              need (decide (r33.length = r15.length)) <|
              obind2 (f29_1 r16 r17 r32 r18) fun (r34 : Int) (r35 : List F) =>
              need (decide (r35.length = r18.length)) <|
              bsel (decide (r34 < 0)) (
                some false) (
                obind (f28 r19 r20 r22 r9 r10 r12) fun (r36 : Bool) =>
                bsel r36 (
                  obind2 (f29_1 r19 r20 1 r22) fun (r37 : Int) (r38 : List F) =>
                  need (decide (r38.length = r22.length)) <|
                  obind (f30 r19 r20 r38 1) fun (r39 : Int) =>
                  bsel (decide (r39 < 0)) (
                    some false) (
                    bsel (!decide (r39 = r37)) (
                      some false) (
                      obind3 (f26 a0 a1 a2) fun (r40 : Int) (r41 : Int) (r42 : List F) =>
                      obind3 (f26 a3 a4 a5) fun (r43 : Int) (r44 : Int) (r45 : List F) =>
                      obind4 (f27 r40 r41 r42 r43 r44 r45 a6 a7) fun (r46 : Int) (r47 : Int) (r48 : Bool) (r49 : List F) =>
                      obind (f28 r46 r47 r49 r9 r10 r12) fun (r50 : Bool) =>
                      bsel r50 (
                        bsel (!(r48 == r11)) (
                          some false) (
                          obind (f30 r19 r20 r38 1) fun (r51 : Int) =>
                          bsel (decide (r51 < 0)) (
                            some false) (
                            bsel (!decide (r51 = r37)) (
                              some false) (
                              some true)))) (
                        some false)))) (
                  some false))) (
              some false)) (
            some false))) (
        some false)))
theorem f5_ok (a0 : Int) (a1 : Int) (a2 : List F) (a3 : Int) (a4 : Int) (a5 : List F) (a6 : Int) (a7 : Int) (q0 : Bool) (h : f5 a0 a1 a2 a3 a4 a5 a6 a7 = some q0) : Ev Try.prog 5 [AV.agg [AV.i64 a0, AV.i64 a1, AV.sl a2.length (a2.map AV.f32)], AV.agg [AV.i64 a3, AV.i64 a4, AV.sl a5.length (a5.map AV.f32)], AV.i64 a6, AV.i64 a7] [] (AV.b q0) [] := by
  refine Ev.start Try.func5 rfl rfl 7 (τ := [(0, AV.agg [AV.i64 a0, AV.i64 a1, AV.sl a2.length (a2.map AV.f32)]), (1, AV.agg [AV.i64 a3, AV.i64 a4, AV.sl a5.length (a5.map AV.f32)]), (2, AV.i64 a6), (3, AV.i64 a7)]) rfl (Γ' := [⟨0, none⟩, ⟨0, none⟩, ⟨0, none⟩, ⟨0, none⟩, ⟨0, none⟩, ⟨0, none⟩, ⟨0, none⟩]) rfl (n := 129) rfl (g := 0) rfl ?_
  unfold f5 at h
  refine RunC.seq ?_
  refine RunC.regionW ?_
  refine ROps.d (r := AV.ptr [AV.i64 a0, AV.i64 a1, AV.sl a2.length (a2.map AV.f32)]) (fs := []) (Γ' := [⟨0, none⟩, ⟨0, none⟩, ⟨0, none⟩, ⟨0, none⟩, ⟨0, none⟩, ⟨0, none⟩, ⟨0, none⟩]) rfl rfl rfl (TOp.box_s rfl rfl rfl) rfl ?_
  refine ROps.d (r := AV.ptr [AV.i64 a3, AV.i64 a4, AV.sl a5.length (a5.map AV.f32)]) (fs := []) (Γ' := [⟨0, none⟩, ⟨0, none⟩, ⟨0, none⟩, ⟨0, none⟩, ⟨0, none⟩, ⟨0, none⟩, ⟨0, none⟩]) rfl rfl rfl (TOp.box_s rfl rfl rfl) rfl ?_
  refine ROps.l (r := AV.b false) rfl rfl rfl (LOp.assign rfl rfl) ?_
  refine ROps.nil ?_
  refine RunC.seq ?_
  refine RunC.regionW ?_
  refine ROps.l (r := AV.i64 1048576) rfl rfl rfl (LOp.assign rfl rfl) ?_
  refine ROps.nil ?_
  refine RunC.seq ?_
  obtain ⟨r1, hf1, h⟩ := obind_some h
  refine RunC.regionW ?_
  refine ROps.l (r := AV.agg [AV.i64 a0, AV.i64 a1, AV.sl a2.length (a2.map AV.f32)]) rfl rfl rfl (LOp.loadAgg agg52 siz52 rfl rfl rfl rfl) ?_
  refine ROps.l (r := AV.i64 1048576) rfl rfl rfl (LOp.move rfl rfl) ?_
  refine ROps.d (r := AV.i64 r1) (fs := []) (Γ' := [⟨0, none⟩, ⟨0, none⟩, ⟨0, none⟩, ⟨0, none⟩, ⟨0, none⟩, ⟨0, none⟩, ⟨0, none⟩]) rfl rfl rfl (TOp.callB (CallAs.func ent24 rfl rfl) (Bors.cons (Bor.agg (Bors.cons (Bor.pure rfl) (Bors.cons (Bor.pure rfl) (Bors.cons (Bor.sl (fun _ => rfl)) Bors.nil)))) (Bors.cons (Bor.pure rfl) Bors.nil)) rfl rfl (f24_ok a0 a1 a2 1048576 r1 hf1)) rfl ?_
  refine ROps.l (r := AV.i64 r1) rfl rfl rfl (LOp.assign rfl rfl) ?_
  refine ROps.nil ?_
  refine RunC.seq ?_
  refine RunC.seq ?_
  rcases bsel_some h with ⟨hc2, h⟩ | ⟨hc2, h⟩
  · refine RunC.regionW ?_
    refine ROps.l (r := AV.i64 r1) rfl rfl rfl (LOp.move rfl rfl) ?_
    refine ROps.l (r := AV.b true) rfl rfl rfl (LOp.eqb (LOp.lss rfl rfl rfl) hc2) ?_
    refine ROps.nil ?_
    refine RunC.cond_true rfl rfl ?_
    refine RunC.seq ?_
    refine RunC.regionW ?_
    refine ROps.l (r := AV.b true) rfl rfl rfl (LOp.assign rfl rfl) ?_
    refine ROps.nil ?_
    refine RunC.ret ?_
    have hq := Option.some.inj h
    subst q0
    exact bodyQ.pure (.inr rfl) rfl (Res.one rfl (RV.tmp rfl))
  · refine RunC.regionW ?_
    refine ROps.l (r := AV.i64 r1) rfl rfl rfl (LOp.move rfl rfl) ?_
    refine ROps.l (r := AV.b false) rfl rfl rfl (LOp.eqb (LOp.lss rfl rfl rfl) hc2) ?_
    refine ROps.nil ?_
    refine RunC.cond_false rfl rfl ?_
    refine RunC.skip ?_
    refine RunC.seq ?_
    obtain ⟨r2, hf3, h⟩ := obind_some h
    refine RunC.regionW ?_
    refine ROps.l (r := AV.agg [AV.i64 a3, AV.i64 a4, AV.sl a5.length (a5.map AV.f32)]) rfl rfl rfl (LOp.loadAgg agg52 siz52 rfl rfl rfl rfl) ?_
    refine ROps.l (r := AV.i64 r1) rfl rfl rfl (LOp.move rfl rfl) ?_
    refine ROps.d (r := AV.i64 r2) (fs := []) (Γ' := [⟨0, none⟩, ⟨0, none⟩, ⟨0, none⟩, ⟨0, none⟩, ⟨0, none⟩, ⟨0, none⟩, ⟨0, none⟩]) rfl rfl rfl (TOp.callB (CallAs.func ent24 rfl rfl) (Bors.cons (Bor.agg (Bors.cons (Bor.pure rfl) (Bors.cons (Bor.pure rfl) (Bors.cons (Bor.sl (fun _ => rfl)) Bors.nil)))) (Bors.cons (Bor.pure rfl) Bors.nil)) rfl rfl (f24_ok a3 a4 a5 r1 r2 hf3)) rfl ?_
    refine ROps.l (r := AV.i64 r2) rfl rfl rfl (LOp.assign rfl rfl) ?_
    refine ROps.nil ?_
    refine RunC.seq ?_
    refine RunC.seq ?_
    rcases bsel_some h with ⟨hc4, h⟩ | ⟨hc4, h⟩
    · refine RunC.regionW ?_
      refine ROps.l (r := AV.i64 r2) rfl rfl rfl (LOp.move rfl rfl) ?_
      refine ROps.l (r := AV.b true) rfl rfl rfl (LOp.eqb (LOp.lss rfl rfl rfl) hc4) ?_
      refine ROps.nil ?_
      refine RunC.cond_true rfl rfl ?_
      refine RunC.seq ?_
      refine RunC.regionW ?_
      refine ROps.l (r := AV.b true) rfl rfl rfl (LOp.assign rfl rfl) ?_
      refine ROps.nil ?_
      refine RunC.ret ?_
      have hq := Option.some.inj h
      subst q0
      exact bodyQ.pure (.inr rfl) rfl (Res.one rfl (RV.tmp rfl))
    · refine RunC.regionW ?_
      refine ROps.l (r := AV.i64 r2) rfl rfl rfl (LOp.move rfl rfl) ?_
      refine ROps.l (r := AV.b false) rfl rfl rfl (LOp.eqb (LOp.lss rfl rfl rfl) hc4) ?_
      refine ROps.nil ?_
      refine RunC.cond_false rfl rfl ?_
      refine RunC.skip ?_
      refine RunC.seq ?_
      obtain ⟨r3, r4, r5, hf5, h⟩ := obind3_some h
      obtain ⟨r6, r7, r8, hf6, h⟩ := obind3_some h
      obtain ⟨r9, r10, r11, r12, hf7, h⟩ := obind4_some h
      refine RunC.region_draw (Γ' := [⟨1, some [AV.i64 0, AV.i64 0, AV.nilsl]⟩, ⟨0, none⟩, ⟨0, none⟩, ⟨0, none⟩, ⟨0, none⟩, ⟨0, none⟩, ⟨0, none⟩]) 11 mixed 
        (TR.l (r := AV.agg [AV.i64 a0, AV.i64 a1, AV.sl a2.length (a2.map AV.f32)]) rfl rfl (LOp.loadAgg agg52 siz52 rfl rfl rfl rfl) <|
        (TR.d (r := AV.agg [AV.i64 r3, AV.i64 r4, AV.sl r5.length (r5.map AV.f32)]) (fs := []) rfl rfl (TOp.callS (CallAs.func ent26 rfl rfl) (ALes.cons (ALe.refl _) ALes.nil) (lts_cons (lt_agg (lts_cons rfl (lts_cons rfl (lts_cons (lt_sl (fun _ => rfl)) lts_nil)))) lts_nil) (lt_agg (lts_cons rfl (lts_cons rfl (lts_cons (lt_sl (fun _ => rfl)) lts_nil)))) (f26_ok a0 a1 a2 r3 r4 r5 hf5) (Bor.agg (Bors.cons (Bor.pure rfl) (Bors.cons (Bor.pure rfl) (Bors.cons (Bor.own (f := AV.f32) (fun _ => rfl) rfl rfl) Bors.nil))))) <|
        (TR.l (r := AV.agg [AV.i64 a3, AV.i64 a4, AV.sl a5.length (a5.map AV.f32)]) rfl rfl (LOp.loadAgg agg52 siz52 rfl rfl rfl rfl) <|
        (TR.d (r := AV.agg [AV.i64 r6, AV.i64 r7, AV.sl r8.length (r8.map AV.f32)]) (fs := []) rfl rfl (TOp.callS (CallAs.func ent26 rfl rfl) (ALes.cons (ALe.refl _) ALes.nil) (lts_cons (lt_agg (lts_cons rfl (lts_cons rfl (lts_cons (lt_sl (fun _ => rfl)) lts_nil)))) lts_nil) (lt_agg (lts_cons rfl (lts_cons rfl (lts_cons (lt_sl (fun _ => rfl)) lts_nil)))) (f26_ok a3 a4 a5 r6 r7 r8 hf6) (Bor.agg (Bors.cons (Bor.pure rfl) (Bors.cons (Bor.pure rfl) (Bors.cons (Bor.own (f := AV.f32) (fun _ => rfl) rfl rfl) Bors.nil))))) <|
        (TR.l (r := AV.i64 a6) rfl rfl (LOp.move rfl rfl) <|
        (TR.l (r := AV.i64 a7) rfl rfl (LOp.move rfl rfl) <|
        (TR.d (r := AV.tup [AV.agg [AV.i64 r9, AV.i64 r10, AV.sl r12.length (r12.map AV.f32)], AV.b r11]) (fs := []) rfl rfl (TOp.callS (CallAs.func ent25 rfl rfl) (ALes.cons (ALe.refl _) (ALes.cons (ALe.refl _) (ALes.cons (ALe.refl _) (ALes.cons (ALe.refl _) ALes.nil)))) (lts_cons (lt_agg (lts_cons rfl (lts_cons rfl (lts_cons (lt_sl (fun _ => rfl)) lts_nil)))) (lts_cons (lt_agg (lts_cons rfl (lts_cons rfl (lts_cons (lt_sl (fun _ => rfl)) lts_nil)))) (lts_cons rfl (lts_cons rfl lts_nil)))) (lt_tup (lts_cons (lt_agg (lts_cons rfl (lts_cons rfl (lts_cons (lt_sl (fun _ => rfl)) lts_nil)))) (lts_cons rfl lts_nil))) (f25_ok r3 r4 r5 r6 r7 r8 a6 a7 r9 r10 r11 r12 hf7) (Bor.tup (Bors.cons (Bor.agg (Bors.cons (Bor.pure rfl) (Bors.cons (Bor.pure rfl) (Bors.cons (Bor.own (f := AV.f32) (fun _ => rfl) rfl rfl) Bors.nil)))) (Bors.cons (Bor.pure rfl) Bors.nil)))) <|
        (TR.l (r := AV.tup [AV.agg [AV.i64 r9, AV.i64 r10, AV.sl r12.length (r12.map AV.f32)], AV.b r11]) rfl rfl (LOp.move rfl rfl) <|
        (TR.l (r := AV.agg [AV.i64 r9, AV.i64 r10, AV.sl r12.length (r12.map AV.f32)]) rfl rfl (LOp.extract rfl rfl rfl) <|
        (TR.loose (r := AV.b r11) rfl rfl (LOp.extract rfl rfl rfl) <|
        (TR.d (r := AV.optr 0 1 0) (fs := [(0, [AV.i64 0, AV.i64 0, AV.nilsl])]) rfl rfl (TOp.alloc_o (g := ⟨0, none⟩) 0 rfl zer40 zok40 rfl) <|
        TR.nil))))))))))) rfl (by kernel_rfl) rfl (fills_of (by show List.Nodup [0]; decide) ⟨⟨_, rfl⟩, trivial⟩) rfl ?_
      iterate 11 refine ROps.dropS ?_
      refine ROps.drop0 ?_
      refine ROps.store_le (r := AV.agg [AV.i64 r9, AV.i64 r10, AV.sl r12.length (r12.map AV.f32)]) (l' := [AV.i64 r9, AV.i64 r10, AV.sl r12.length (r12.map AV.f32)]) (Γ' := [⟨1, some [AV.i64 r9, AV.i64 r10, AV.sl r12.length (r12.map AV.f32)]⟩, ⟨0, none⟩, ⟨0, none⟩, ⟨0, none⟩, ⟨0, none⟩, ⟨0, none⟩, ⟨0, none⟩]) rfl siz40 rfl rfl rfl (ALe.refl _) rfl rfl rfl rfl (Nat.le_of_ble_eq_true rfl) rfl rfl ?_
      refine ROps.l (r := AV.b r11) rfl rfl rfl (LOp.assign rfl rfl) ?_
      refine ROps.nil ?_
      refine RunC.seq ?_
      obtain ⟨r13, r14, r15, hf8, h⟩ := obind3_some h
      refine RunC.regionW ?_
      refine ROps.l (r := AV.agg [AV.i64 a0, AV.i64 a1, AV.sl a2.length (a2.map AV.f32)]) rfl rfl rfl (LOp.loadAgg agg52 siz52 rfl rfl rfl rfl) ?_
      refine ROps.d (r := AV.agg [AV.i64 r13, AV.i64 r14, AV.oref 1 1 0 r15.length]) (fs := [(1, (r15.map AV.f32))]) (Γ' := [⟨1, some [AV.i64 r9, AV.i64 r10, AV.sl r12.length (r12.map AV.f32)]⟩, ⟨1, some (r15.map AV.f32)⟩, ⟨0, none⟩, ⟨0, none⟩, ⟨0, none⟩, ⟨0, none⟩, ⟨0, none⟩]) rfl rfl rfl (TOp.callBN (ls := [(r15.map AV.f32)]) [1] (CallAs.func ent26 rfl rfl) (Bors.cons (Bor.agg (Bors.cons (Bor.pure rfl) (Bors.cons (Bor.pure rfl) (Bors.cons (Bor.sl (fun _ => rfl)) Bors.nil)))) Bors.nil) rfl (f26_ok a0 a1 a2 r13 r14 r15 hf8) (and_all (lts0_map (f := AV.f32) (fun _ => rfl) _) rfl) (and_all (noss_map (f := AV.f32) (fun _ => rfl) _) rfl) rfl (by decide) (ns_of ⟨⟨_, rfl⟩, trivial⟩)) rfl ?_
      refine ROps.d (r := AV.optr 2 1 0) (fs := [(2, [AV.i64 0, AV.i64 0, AV.nilsl])]) (Γ' := [⟨1, some [AV.i64 r9, AV.i64 r10, AV.sl r12.length (r12.map AV.f32)]⟩, ⟨1, some (r15.map AV.f32)⟩, ⟨1, some [AV.i64 0, AV.i64 0, AV.nilsl]⟩, ⟨0, none⟩, ⟨0, none⟩, ⟨0, none⟩, ⟨0, none⟩]) rfl rfl rfl (TOp.alloc_o (g := ⟨0, none⟩) 2 rfl zer40 zok40 rfl) rfl ?_
      refine ROps.store_le (r := AV.agg [AV.i64 r13, AV.i64 r14, AV.oref 1 1 0 r15.length]) (l' := [AV.i64 r13, AV.i64 r14, AV.oref 1 1 0 r15.length]) (Γ' := [⟨1, some [AV.i64 r9, AV.i64 r10, AV.sl r12.length (r12.map AV.f32)]⟩, ⟨1, some (r15.map AV.f32)⟩, ⟨1, some [AV.i64 r13, AV.i64 r14, AV.oref 1 1 0 r15.length]⟩, ⟨0, none⟩, ⟨0, none⟩, ⟨0, none⟩, ⟨0, none⟩]) rfl siz40 rfl rfl rfl (ALe.refl _) rfl rfl rfl rfl (Nat.le_of_ble_eq_true rfl) rfl rfl ?_
      refine ROps.nil ?_
      refine RunC.wl (τ' := [(2, AV.i64 a6), (3, AV.i64 a7), (4, AV.ptr [AV.i64 a0, AV.i64 a1, AV.sl a2.length (a2.map AV.f32)]), (5, AV.ptr [AV.i64 a3, AV.i64 a4, AV.sl a5.length (a5.map AV.f32)]), (10, AV.optr 0 1 0), (11, AV.b r11), (12, AV.optr 2 1 0)]) (Γ' := [⟨1, some [AV.i64 r9, AV.i64 r10, AV.sl r12.length (r12.map AV.f32)]⟩, ⟨1, some (r15.map AV.f32)⟩, ⟨1, some [AV.i64 r13, AV.i64 r14, AV.oref 1 1 0 r15.length]⟩, ⟨0, none⟩, ⟨0, none⟩, ⟨0, none⟩, ⟨0, none⟩]) ⟨(ALe.refl _), (ALe.refl _), (ALe.refl _), (ALe.refl _), (ALe.refl _), (ALe.refl _), (ALe.refl _), trivial⟩ ⟨⟨rfl, .inr rfl⟩, ⟨rfl, .inr rfl⟩, ⟨rfl, .inr rfl⟩, ⟨rfl, .inr rfl⟩, ⟨rfl, .inr rfl⟩, ⟨rfl, .inr rfl⟩, ⟨rfl, .inr rfl⟩, trivial⟩ ?_
      refine RunC.seq ?_
      obtain ⟨r16, r17, r18, hf9, h⟩ := obind3_some h
      refine RunC.regionW ?_
      refine ROps.l (r := AV.agg [AV.i64 a3, AV.i64 a4, AV.sl a5.length (a5.map AV.f32)]) rfl rfl rfl (LOp.loadAgg agg52 siz52 rfl rfl rfl rfl) ?_
      refine ROps.d (r := AV.agg [AV.i64 r16, AV.i64 r17, AV.oref 3 1 0 r18.length]) (fs := [(3, (r18.map AV.f32))]) (Γ' := [⟨1, some [AV.i64 r9, AV.i64 r10, AV.sl r12.length (r12.map AV.f32)]⟩, ⟨1, some (r15.map AV.f32)⟩, ⟨1, some [AV.i64 r13, AV.i64 r14, AV.oref 1 1 0 r15.length]⟩, ⟨1, some (r18.map AV.f32)⟩, ⟨0, none⟩, ⟨0, none⟩, ⟨0, none⟩]) rfl rfl rfl (TOp.callBN (ls := [(r18.map AV.f32)]) [3] (CallAs.func ent26 rfl rfl) (Bors.cons (Bor.agg (Bors.cons (Bor.pure rfl) (Bors.cons (Bor.pure rfl) (Bors.cons (Bor.sl (fun _ => rfl)) Bors.nil)))) Bors.nil) rfl (f26_ok a3 a4 a5 r16 r17 r18 hf9) (and_all (lts0_map (f := AV.f32) (fun _ => rfl) _) rfl) (and_all (noss_map (f := AV.f32) (fun _ => rfl) _) rfl) rfl (by decide) (ns_of ⟨⟨_, rfl⟩, trivial⟩)) rfl ?_
      refine ROps.d (r := AV.optr 4 1 0) (fs := [(4, [AV.i64 0, AV.i64 0, AV.nilsl])]) (Γ' := [⟨1, some [AV.i64 r9, AV.i64 r10, AV.sl r12.length (r12.map AV.f32)]⟩, ⟨1, some (r15.map AV.f32)⟩, ⟨1, some [AV.i64 r13, AV.i64 r14, AV.oref 1 1 0 r15.length]⟩, ⟨1, some (r18.map AV.f32)⟩, ⟨1, some [AV.i64 0, AV.i64 0, AV.nilsl]⟩, ⟨0, none⟩, ⟨0, none⟩]) rfl rfl rfl (TOp.alloc_o (g := ⟨0, none⟩) 4 rfl zer40 zok40 rfl) rfl ?_
      refine ROps.store_le (r := AV.agg [AV.i64 r16, AV.i64 r17, AV.oref 3 1 0 r18.length]) (l' := [AV.i64 r16, AV.i64 r17, AV.oref 3 1 0 r18.length]) (Γ' := [⟨1, some [AV.i64 r9, AV.i64 r10, AV.sl r12.length (r12.map AV.f32)]⟩, ⟨1, some (r15.map AV.f32)⟩, ⟨1, some [AV.i64 r13, AV.i64 r14, AV.oref 1 1 0 r15.length]⟩, ⟨1, some (r18.map AV.f32)⟩, ⟨1, some [AV.i64 r16, AV.i64 r17, AV.oref 3 1 0 r18.length]⟩, ⟨0, none⟩, ⟨0, none⟩]) rfl siz40 rfl rfl rfl (ALe.refl _) rfl rfl rfl rfl (Nat.le_of_ble_eq_true rfl) rfl rfl ?_
      refine ROps.nil ?_
      refine RunC.seq ?_
      obtain ⟨r19, r20, r21, r22, hf10, h⟩ := obind4_some h
      refine RunC.regionW ?_
      refine ROps.d (r := AV.agg [AV.i64 r13, AV.i64 r14, AV.oref 1 1 0 r15.length]) (fs := []) (Γ' := [⟨1, some [AV.i64 r9, AV.i64 r10, AV.sl r12.length (r12.map AV.f32)]⟩, ⟨1, some (r15.map AV.f32)⟩, ⟨1, some [AV.i64 r13, AV.i64 r14, AV.oref 1 1 0 r15.length]⟩, ⟨1, some (r18.map AV.f32)⟩, ⟨1, some [AV.i64 r16, AV.i64 r17, AV.oref 3 1 0 r18.length]⟩, ⟨0, none⟩, ⟨0, none⟩]) rfl rfl rfl (TOp.loadAgg_o rfl agg40 siz40 rfl rfl rfl rfl) rfl ?_
      refine ROps.d (r := AV.agg [AV.i64 r16, AV.i64 r17, AV.oref 3 1 0 r18.length]) (fs := []) (Γ' := [⟨1, some [AV.i64 r9, AV.i64 r10, AV.sl r12.length (r12.map AV.f32)]⟩, ⟨1, some (r15.map AV.f32)⟩, ⟨1, some [AV.i64 r13, AV.i64 r14, AV.oref 1 1 0 r15.length]⟩, ⟨1, some (r18.map AV.f32)⟩, ⟨1, some [AV.i64 r16, AV.i64 r17, AV.oref 3 1 0 r18.length]⟩, ⟨0, none⟩, ⟨0, none⟩]) rfl rfl rfl (TOp.loadAgg_o rfl agg40 siz40 rfl rfl rfl rfl) rfl ?_
      refine ROps.l (r := AV.i64 a6) rfl rfl rfl (LOp.move rfl rfl) ?_
      refine ROps.l (r := AV.i64 a7) rfl rfl rfl (LOp.move rfl rfl) ?_
      refine ROps.d (r := AV.tup [AV.agg [AV.i64 r19, AV.i64 r20, AV.oref 5 1 0 r22.length], AV.b r21]) (fs := [(5, (r22.map AV.f32))]) (Γ' := [⟨1, some [AV.i64 r9, AV.i64 r10, AV.sl r12.length (r12.map AV.f32)]⟩, ⟨1, some (r15.map AV.f32)⟩, ⟨1, some [AV.i64 r13, AV.i64 r14, AV.oref 1 1 0 r15.length]⟩, ⟨1, some (r18.map AV.f32)⟩, ⟨1, some [AV.i64 r16, AV.i64 r17, AV.oref 3 1 0 r18.length]⟩, ⟨1, some (r22.map AV.f32)⟩, ⟨0, none⟩]) rfl rfl rfl (TOp.callBN (ls := [(r22.map AV.f32)]) [5] (CallAs.func ent27 rfl rfl) (Bors.cons (Bor.agg (Bors.cons (Bor.pure rfl) (Bors.cons (Bor.pure rfl) (Bors.cons (Bor.own (f := AV.f32) (fun _ => rfl) rfl rfl) Bors.nil)))) (Bors.cons (Bor.agg (Bors.cons (Bor.pure rfl) (Bors.cons (Bor.pure rfl) (Bors.cons (Bor.own (f := AV.f32) (fun _ => rfl) rfl rfl) Bors.nil)))) (Bors.cons (Bor.pure rfl) (Bors.cons (Bor.pure rfl) Bors.nil)))) rfl (f27_ok r13 r14 r15 r16 r17 r18 a6 a7 r19 r20 r21 r22 hf10) (and_all (lts0_map (f := AV.f32) (fun _ => rfl) _) rfl) (and_all (noss_map (f := AV.f32) (fun _ => rfl) _) rfl) rfl (by decide) (ns_of ⟨⟨_, rfl⟩, trivial⟩)) rfl ?_
      refine ROps.l (r := AV.tup [AV.agg [AV.i64 r19, AV.i64 r20, AV.oref 5 1 0 r22.length], AV.b r21]) rfl rfl rfl (LOp.move rfl rfl) ?_
      refine ROps.l (r := AV.agg [AV.i64 r19, AV.i64 r20, AV.oref 5 1 0 r22.length]) rfl rfl rfl (LOp.extract rfl rfl rfl) ?_
      refine ROps.l (r := AV.b r21) rfl rfl rfl (LOp.extract rfl rfl rfl) ?_
      refine ROps.d (r := AV.optr 6 1 0) (fs := [(6, [AV.i64 0, AV.i64 0, AV.nilsl])]) (Γ' := [⟨1, some [AV.i64 r9, AV.i64 r10, AV.sl r12.length (r12.map AV.f32)]⟩, ⟨1, some (r15.map AV.f32)⟩, ⟨1, some [AV.i64 r13, AV.i64 r14, AV.oref 1 1 0 r15.length]⟩, ⟨1, some (r18.map AV.f32)⟩, ⟨1, some [AV.i64 r16, AV.i64 r17, AV.oref 3 1 0 r18.length]⟩, ⟨1, some (r22.map AV.f32)⟩, ⟨1, some [AV.i64 0, AV.i64 0, AV.nilsl]⟩]) rfl rfl rfl (TOp.alloc_o (g := ⟨0, none⟩) 6 rfl zer40 zok40 rfl) rfl ?_
      refine ROps.store_le (r := AV.agg [AV.i64 r19, AV.i64 r20, AV.oref 5 1 0 r22.length]) (l' := [AV.i64 r19, AV.i64 r20, AV.oref 5 1 0 r22.length]) (Γ' := [⟨1, some [AV.i64 r9, AV.i64 r10, AV.sl r12.length (r12.map AV.f32)]⟩, ⟨1, some (r15.map AV.f32)⟩, ⟨1, some [AV.i64 r13, AV.i64 r14, AV.oref 1 1 0 r15.length]⟩, ⟨1, some (r18.map AV.f32)⟩, ⟨1, some [AV.i64 r16, AV.i64 r17, AV.oref 3 1 0 r18.length]⟩, ⟨1, some (r22.map AV.f32)⟩, ⟨1, some [AV.i64 r19, AV.i64 r20, AV.oref 5 1 0 r22.length]⟩]) rfl siz40 rfl rfl rfl (ALe.refl _) rfl rfl rfl rfl (Nat.le_of_ble_eq_true rfl) rfl rfl ?_
      refine ROps.l (r := AV.b r21) rfl rfl rfl (LOp.assign rfl rfl) ?_
      refine ROps.nil ?_
      refine RunC.seq ?_
      refine RunC.seq ?_
      obtain ⟨r23, hf11, h⟩ := obind_some h
      rcases bsel_some h with ⟨hc12, h⟩ | ⟨hc12, h⟩
      · rcases bsel_some h with ⟨hc13, h⟩ | ⟨hc13, h⟩
        · refine RunC.regionW ?_
          refine ROps.d (r := AV.agg [AV.i64 r19, AV.i64 r20, AV.oref 5 1 0 r22.length]) (fs := []) (Γ' := [⟨1, some [AV.i64 r9, AV.i64 r10, AV.sl r12.length (r12.map AV.f32)]⟩, ⟨1, some (r15.map AV.f32)⟩, ⟨1, some [AV.i64 r13, AV.i64 r14, AV.oref 1 1 0 r15.length]⟩, ⟨1, some (r18.map AV.f32)⟩, ⟨1, some [AV.i64 r16, AV.i64 r17, AV.oref 3 1 0 r18.length]⟩, ⟨1, some (r22.map AV.f32)⟩, ⟨1, some [AV.i64 r19, AV.i64 r20, AV.oref 5 1 0 r22.length]⟩]) rfl rfl rfl (TOp.loadAgg_o rfl agg40 siz40 rfl rfl rfl rfl) rfl ?_
          refine ROps.d (r := AV.agg [AV.i64 r9, AV.i64 r10, AV.sl r12.length (r12.map AV.f32)]) (fs := []) (Γ' := [⟨1, some [AV.i64 r9, AV.i64 r10, AV.sl r12.length (r12.map AV.f32)]⟩, ⟨1, some (r15.map AV.f32)⟩, ⟨1, some [AV.i64 r13, AV.i64 r14, AV.oref 1 1 0 r15.length]⟩, ⟨1, some (r18.map AV.f32)⟩, ⟨1, some [AV.i64 r16, AV.i64 r17, AV.oref 3 1 0 r18.length]⟩, ⟨1, some (r22.map AV.f32)⟩, ⟨1, some [AV.i64 r19, AV.i64 r20, AV.oref 5 1 0 r22.length]⟩]) rfl rfl rfl (TOp.loadAgg_o rfl agg40 siz40 rfl rfl rfl rfl) rfl ?_
          refine ROps.d (r := AV.b true) (fs := []) (Γ' := [⟨1, some [AV.i64 r9, AV.i64 r10, AV.sl r12.length (r12.map AV.f32)]⟩, ⟨1, some (r15.map AV.f32)⟩, ⟨1, some [AV.i64 r13, AV.i64 r14, AV.oref 1 1 0 r15.length]⟩, ⟨1, some (r18.map AV.f32)⟩, ⟨1, some [AV.i64 r16, AV.i64 r17, AV.oref 3 1 0 r18.length]⟩, ⟨1, some (r22.map AV.f32)⟩, ⟨1, some [AV.i64 r19, AV.i64 r20, AV.oref 5 1 0 r22.length]⟩]) rfl rfl rfl (TOp.eqb (TOp.callB (CallAs.func ent28 rfl rfl) (Bors.cons (Bor.agg (Bors.cons (Bor.pure rfl) (Bors.cons (Bor.pure rfl) (Bors.cons (Bor.own (f := AV.f32) (fun _ => rfl) rfl rfl) Bors.nil)))) (Bors.cons (Bor.agg (Bors.cons (Bor.pure rfl) (Bors.cons (Bor.pure rfl) (Bors.cons (Bor.sl (fun _ => rfl)) Bors.nil)))) Bors.nil)) rfl rfl (f28_ok r19 r20 r22 r9 r10 r12 r23 hf11)) hc12) rfl ?_
          refine ROps.l (r := AV.b false) rfl rfl rfl (LOp.eqb (LOp.not rfl rfl) rfl) ?_
          refine ROps.l (r := AV.b false) rfl rfl rfl (LOp.move rfl rfl) ?_
          refine ROps.l (r := AV.b r21) rfl rfl rfl (LOp.move rfl rfl) ?_
          refine ROps.l (r := AV.b r11) rfl rfl rfl (LOp.move rfl rfl) ?_
          refine ROps.l (r := AV.b true) rfl rfl rfl (LOp.eqb (LOp.neqb pun4 rfl rfl rfl) hc13) ?_
          refine ROps.l (r := AV.b true) rfl rfl rfl (LOp.pick_false rfl rfl rfl) ?_
          refine ROps.nil ?_
          refine RunC.cond_true rfl rfl ?_
          refine RunC.seq ?_
          refine RunC.regionW ?_
          refine ROps.l (r := AV.b false) rfl rfl rfl (LOp.assign rfl rfl) ?_
          refine ROps.nil ?_
          refine RunC.ret ?_
          have hq := Option.some.inj h
          subst q0
          exact bodyQ.pure (.inr rfl) rfl (Res.one rfl (RV.tmp rfl))
        · refine RunC.regionW ?_
          refine ROps.d (r := AV.agg [AV.i64 r19, AV.i64 r20, AV.oref 5 1 0 r22.length]) (fs := []) (Γ' := [⟨1, some [AV.i64 r9, AV.i64 r10, AV.sl r12.length (r12.map AV.f32)]⟩, ⟨1, some (r15.map AV.f32)⟩, ⟨1, some [AV.i64 r13, AV.i64 r14, AV.oref 1 1 0 r15.length]⟩, ⟨1, some (r18.map AV.f32)⟩, ⟨1, some [AV.i64 r16, AV.i64 r17, AV.oref 3 1 0 r18.length]⟩, ⟨1, some (r22.map AV.f32)⟩, ⟨1, some [AV.i64 r19, AV.i64 r20, AV.oref 5 1 0 r22.length]⟩]) rfl rfl rfl (TOp.loadAgg_o rfl agg40 siz40 rfl rfl rfl rfl) rfl ?_
          refine ROps.d (r := AV.agg [AV.i64 r9, AV.i64 r10, AV.sl r12.length (r12.map AV.f32)]) (fs := []) (Γ' := [⟨1, some [AV.i64 r9, AV.i64 r10, AV.sl r12.length (r12.map AV.f32)]⟩, ⟨1, some (r15.map AV.f32)⟩, ⟨1, some [AV.i64 r13, AV.i64 r14, AV.oref 1 1 0 r15.length]⟩, ⟨1, some (r18.map AV.f32)⟩, ⟨1, some [AV.i64 r16, AV.i64 r17, AV.oref 3 1 0 r18.length]⟩, ⟨1, some (r22.map AV.f32)⟩, ⟨1, some [AV.i64 r19, AV.i64 r20, AV.oref 5 1 0 r22.length]⟩]) rfl rfl rfl (TOp.loadAgg_o rfl agg40 siz40 rfl rfl rfl rfl) rfl ?_
          refine ROps.d (r := AV.b true) (fs := []) (Γ' := [⟨1, some [AV.i64 r9, AV.i64 r10, AV.sl r12.length (r12.map AV.f32)]⟩, ⟨1, some (r15.map AV.f32)⟩, ⟨1, some [AV.i64 r13, AV.i64 r14, AV.oref 1 1 0 r15.length]⟩, ⟨1, some (r18.map AV.f32)⟩, ⟨1, some [AV.i64 r16, AV.i64 r17, AV.oref 3 1 0 r18.length]⟩, ⟨1, some (r22.map AV.f32)⟩, ⟨1, some [AV.i64 r19, AV.i64 r20, AV.oref 5 1 0 r22.length]⟩]) rfl rfl rfl (TOp.eqb (TOp.callB (CallAs.func ent28 rfl rfl) (Bors.cons (Bor.agg (Bors.cons (Bor.pure rfl) (Bors.cons (Bor.pure rfl) (Bors.cons (Bor.own (f := AV.f32) (fun _ => rfl) rfl rfl) Bors.nil)))) (Bors.cons (Bor.agg (Bors.cons (Bor.pure rfl) (Bors.cons (Bor.pure rfl) (Bors.cons (Bor.sl (fun _ => rfl)) Bors.nil)))) Bors.nil)) rfl rfl (f28_ok r19 r20 r22 r9 r10 r12 r23 hf11)) hc12) rfl ?_
          refine ROps.l (r := AV.b false) rfl rfl rfl (LOp.eqb (LOp.not rfl rfl) rfl) ?_
          refine ROps.l (r := AV.b false) rfl rfl rfl (LOp.move rfl rfl) ?_
          refine ROps.l (r := AV.b r21) rfl rfl rfl (LOp.move rfl rfl) ?_
          refine ROps.l (r := AV.b r11) rfl rfl rfl (LOp.move rfl rfl) ?_
          refine ROps.l (r := AV.b false) rfl rfl rfl (LOp.eqb (LOp.neqb pun4 rfl rfl rfl) hc13) ?_
          refine ROps.l (r := AV.b false) rfl rfl rfl (LOp.pick_false rfl rfl rfl) ?_
          refine ROps.nil ?_
          refine RunC.cond_false rfl rfl ?_
          refine RunC.skip ?_
          refine RunC.seq ?_
          refine RunC.seq ?_
          obtain ⟨r24, r25, r26, hf14, h⟩ := obind3_some h
          obtain ⟨r27, hf15, h⟩ := obind_some h
          rcases bsel_some h with ⟨hc16, h⟩ | ⟨hc16, h⟩
          · refine RunC.region_draw (Γ' := [⟨1, some [AV.i64 r9, AV.i64 r10, AV.sl r12.length (r12.map AV.f32)]⟩, ⟨1, some (r15.map AV.f32)⟩, ⟨1, some [AV.i64 r13, AV.i64 r14, AV.oref 1 1 0 r15.length]⟩, ⟨1, some (r18.map AV.f32)⟩, ⟨1, some [AV.i64 r16, AV.i64 r17, AV.oref 3 1 0 r18.length]⟩, ⟨1, some (r22.map AV.f32)⟩, ⟨1, some [AV.i64 r19, AV.i64 r20, AV.oref 5 1 0 r22.length]⟩]) 5 mixed 
              (TR.d (r := AV.agg [AV.i64 r13, AV.i64 r14, AV.oref 1 1 0 r15.length]) (fs := []) rfl rfl (TOp.loadAgg_o rfl agg40 siz40 rfl rfl rfl rfl) <|
              (TR.l (r := AV.agg [AV.i64 a0, AV.i64 a1, AV.sl a2.length (a2.map AV.f32)]) rfl rfl (LOp.loadAgg agg52 siz52 rfl rfl rfl rfl) <|
              (TR.d (r := AV.agg [AV.i64 r24, AV.i64 r25, AV.sl r26.length (r26.map AV.f32)]) (fs := []) rfl rfl (TOp.callS (CallAs.func ent26 rfl rfl) (ALes.cons (ALe.refl _) ALes.nil) (lts_cons (lt_agg (lts_cons rfl (lts_cons rfl (lts_cons (lt_sl (fun _ => rfl)) lts_nil)))) lts_nil) (lt_agg (lts_cons rfl (lts_cons rfl (lts_cons (lt_sl (fun _ => rfl)) lts_nil)))) (f26_ok a0 a1 a2 r24 r25 r26 hf14) (Bor.agg (Bors.cons (Bor.pure rfl) (Bors.cons (Bor.pure rfl) (Bors.cons (Bor.own (f := AV.f32) (fun _ => rfl) rfl rfl) Bors.nil))))) <|
              (TR.d (r := AV.b true) (fs := []) rfl rfl (TOp.eqb (TOp.callB (CallAs.func ent28 rfl rfl) (Bors.cons (Bor.agg (Bors.cons (Bor.pure rfl) (Bors.cons (Bor.pure rfl) (Bors.cons (Bor.own (f := AV.f32) (fun _ => rfl) rfl rfl) Bors.nil)))) (Bors.cons (Bor.agg (Bors.cons (Bor.pure rfl) (Bors.cons (Bor.pure rfl) (Bors.cons (Bor.sl (fun _ => rfl)) Bors.nil)))) Bors.nil)) rfl rfl (f28_ok r13 r14 r15 r24 r25 r26 r27 hf15)) hc16) <|
              (TR.l (r := AV.b false) rfl rfl (LOp.eqb (LOp.not rfl rfl) rfl) <|
              TR.nil))))) rfl (by kernel_rfl) rfl fills_nil rfl ?_
            iterate 5 refine ROps.dropS ?_
            refine ROps.drop0 ?_
            refine ROps.nil ?_
            refine RunC.wl (τ' := [(2, AV.i64 a6), (3, AV.i64 a7), (4, AV.ptr [AV.i64 a0, AV.i64 a1, AV.sl a2.length (a2.map AV.f32)]), (5, AV.ptr [AV.i64 a3, AV.i64 a4, AV.sl a5.length (a5.map AV.f32)]), (10, AV.optr 0 1 0), (11, AV.b r11), (12, AV.optr 2 1 0), (13, AV.optr 4 1 0), (14, AV.optr 6 1 0), (15, AV.b r21), (66, AV.b false)]) (Γ' := [⟨1, some [AV.i64 r9, AV.i64 r10, AV.sl r12.length (r12.map AV.f32)]⟩, ⟨1, some (r15.map AV.f32)⟩, ⟨1, some [AV.i64 r13, AV.i64 r14, AV.oref 1 1 0 r15.length]⟩, ⟨1, some (r18.map AV.f32)⟩, ⟨1, some [AV.i64 r16, AV.i64 r17, AV.oref 3 1 0 r18.length]⟩, ⟨1, some (r22.map AV.f32)⟩, ⟨1, some [AV.i64 r19, AV.i64 r20, AV.oref 5 1 0 r22.length]⟩]) ⟨(ALe.refl _), (ALe.refl _), (ALe.refl _), (ALe.refl _), (ALe.refl _), (ALe.refl _), (ALe.refl _), (ALe.refl _), (ALe.refl _), (ALe.refl _), (ALe.refl _), trivial⟩ ⟨⟨rfl, .inr rfl⟩, ⟨rfl, .inr rfl⟩, ⟨rfl, .inr rfl⟩, ⟨rfl, .inr rfl⟩, ⟨rfl, .inr rfl⟩, ⟨rfl, .inr rfl⟩, ⟨rfl, .inr rfl⟩, trivial⟩ ?_
            refine RunC.cond_false rfl rfl ?_
            refine RunC.skip ?_
            refine RunC.seq ?_
            refine RunC.seq ?_
            obtain ⟨r28, r29, r30, hf17, h⟩ := obind3_some h
            obtain ⟨r31, hf18, h⟩ := obind_some h
            rcases bsel_some h with ⟨hc19, h⟩ | ⟨hc19, h⟩
            · refine RunC.region_draw (Γ' := [⟨1, some [AV.i64 r9, AV.i64 r10, AV.sl r12.length (r12.map AV.f32)]⟩, ⟨1, some (r15.map AV.f32)⟩, ⟨1, some [AV.i64 r13, AV.i64 r14, AV.oref 1 1 0 r15.length]⟩, ⟨1, some (r18.map AV.f32)⟩, ⟨1, some [AV.i64 r16, AV.i64 r17, AV.oref 3 1 0 r18.length]⟩, ⟨1, some (r22.map AV.f32)⟩, ⟨1, some [AV.i64 r19, AV.i64 r20, AV.oref 5 1 0 r22.length]⟩]) 5 mixed 
                (TR.d (r := AV.agg [AV.i64 r16, AV.i64 r17, AV.oref 3 1 0 r18.length]) (fs := []) rfl rfl (TOp.loadAgg_o rfl agg40 siz40 rfl rfl rfl rfl) <|
                (TR.l (r := AV.agg [AV.i64 a3, AV.i64 a4, AV.sl a5.length (a5.map AV.f32)]) rfl rfl (LOp.loadAgg agg52 siz52 rfl rfl rfl rfl) <|
                (TR.d (r := AV.agg [AV.i64 r28, AV.i64 r29, AV.sl r30.length (r30.map AV.f32)]) (fs := []) rfl rfl (TOp.callS (CallAs.func ent26 rfl rfl) (ALes.cons (ALe.refl _) ALes.nil) (lts_cons (lt_agg (lts_cons rfl (lts_cons rfl (lts_cons (lt_sl (fun _ => rfl)) lts_nil)))) lts_nil) (lt_agg (lts_cons rfl (lts_cons rfl (lts_cons (lt_sl (fun _ => rfl)) lts_nil)))) (f26_ok a3 a4 a5 r28 r29 r30 hf17) (Bor.agg (Bors.cons (Bor.pure rfl) (Bors.cons (Bor.pure rfl) (Bors.cons (Bor.own (f := AV.f32) (fun _ => rfl) rfl rfl) Bors.nil))))) <|
                (TR.d (r := AV.b true) (fs := []) rfl rfl (TOp.eqb (TOp.callB (CallAs.func ent28 rfl rfl) (Bors.cons (Bor.agg (Bors.cons (Bor.pure rfl) (Bors.cons (Bor.pure rfl) (Bors.cons (Bor.own (f := AV.f32) (fun _ => rfl) rfl rfl) Bors.nil)))) (Bors.cons (Bor.agg (Bors.cons (Bor.pure rfl) (Bors.cons (Bor.pure rfl) (Bors.cons (Bor.sl (fun _ => rfl)) Bors.nil)))) Bors.nil)) rfl rfl (f28_ok r16 r17 r18 r28 r29 r30 r31 hf18)) hc19) <|
                (TR.l (r := AV.b false) rfl rfl (LOp.eqb (LOp.not rfl rfl) rfl) <|
                TR.nil))))) rfl (by kernel_rfl) rfl fills_nil rfl ?_
              iterate 5 refine ROps.dropS ?_
              refine ROps.drop0 ?_
              refine ROps.nil ?_
              refine RunC.cond_false rfl rfl ?_
              refine RunC.skip ?_
              refine RunC.seq ?_
              refine RunC.regionW ?_
              refine ROps.l (r := AV.i64 1) rfl rfl rfl (LOp.assign rfl rfl) ?_
              refine ROps.nil ?_
              refine RunC.seq ?_
              obtain ⟨r32, r33, hf20, h⟩ := obind2_some h
              obtain ⟨hn21, h⟩ := need_some h
              refine RunC.regionW ?_
              refine ROps.d (r := AV.agg [AV.i64 r13, AV.i64 r14, AV.oref 1 1 0 r15.length]) (fs := []) (Γ' := [⟨1, some [AV.i64 r9, AV.i64 r10, AV.sl r12.length (r12.map AV.f32)]⟩, ⟨1, some (r15.map AV.f32)⟩, ⟨1, some [AV.i64 r13, AV.i64 r14, AV.oref 1 1 0 r15.length]⟩, ⟨1, some (r18.map AV.f32)⟩, ⟨1, some [AV.i64 r16, AV.i64 r17, AV.oref 3 1 0 r18.length]⟩, ⟨1, some (r22.map AV.f32)⟩, ⟨1, some [AV.i64 r19, AV.i64 r20, AV.oref 5 1 0 r22.length]⟩]) rfl rfl rfl (TOp.loadAgg_o rfl agg40 siz40 rfl rfl rfl rfl) rfl ?_
              refine ROps.l (r := AV.i64 1) rfl rfl rfl (LOp.move rfl rfl) ?_
              refine ROps.callO (A := [AV.agg [AV.i64 r13, AV.i64 r14, AV.oref 1 1 0 r15.length], AV.i64 1]) (args := [AV.agg [AV.i64 r13, AV.i64 r14, AV.oref 0 0 0 r15.length], AV.i64 1]) (Γc := [⟨0, some (r15.map AV.f32)⟩]) (Γc' := [⟨0, some (r33.map AV.f32)⟩]) (r' := AV.i64 r32) (Γ' := [⟨1, some [AV.i64 r9, AV.i64 r10, AV.sl r12.length (r12.map AV.f32)]⟩, ⟨1, some (r33.map AV.f32)⟩, ⟨1, some [AV.i64 r13, AV.i64 r14, AV.oref 1 1 0 r15.length]⟩, ⟨1, some (r18.map AV.f32)⟩, ⟨1, some [AV.i64 r16, AV.i64 r17, AV.oref 3 1 0 r18.length]⟩, ⟨1, some (r22.map AV.f32)⟩, ⟨1, some [AV.i64 r19, AV.i64 r20, AV.oref 5 1 0 r22.length]⟩]) [(1, 1)] [] rfl (CallAs.func ent29 rfl rfl) rfl rfl (SelOk.of (by decide) (SelL.arr0 (f := AV.f32) (fun _ => rfl) rfl trivial)) (live_of ⟨⟨_, _, rfl⟩, trivial⟩) (by simp [AV.ren, AV.rens, sigma]) rfl (f29_1_ok r13 r14 1 r15 r32 r33 hf20) rfl (news_of trivial) (by decide) (by simp [AV.ren, AV.rens, sigma, of_decide_eq_true hn21]) (by simp [backOb, sigma, rens_f32, rens_f64, rens_i64, rens_ik, rens_str, rens_cp]) ?_
              refine ROps.l (r := AV.i64 r32) rfl rfl rfl (LOp.assign rfl rfl) ?_
              refine ROps.nil ?_
              refine RunC.wl (τ' := [(2, AV.i64 a6), (3, AV.i64 a7), (4, AV.ptr [AV.i64 a0, AV.i64 a1, AV.sl a2.length (a2.map AV.f32)]), (5, AV.ptr [AV.i64 a3, AV.i64 a4, AV.sl a5.length (a5.map AV.f32)]), (10, AV.optr 0 1 0), (11, AV.b r11), (13, AV.optr 4 1 0), (14, AV.optr 6 1 0), (15, AV.b r21), (16, AV.i64 r32)]) (Γ' := [⟨1, some [AV.i64 r9, AV.i64 r10, AV.sl r12.length (r12.map AV.f32)]⟩, ⟨1, none⟩, ⟨1, none⟩, ⟨1, some (r18.map AV.f32)⟩, ⟨1, some [AV.i64 r16, AV.i64 r17, AV.oref 3 1 0 r18.length]⟩, ⟨1, some (r22.map AV.f32)⟩, ⟨1, some [AV.i64 r19, AV.i64 r20, AV.oref 5 1 0 r22.length]⟩]) ⟨(ALe.refl _), (ALe.refl _), (ALe.refl _), (ALe.refl _), (ALe.refl _), (ALe.refl _), (ALe.refl _), (ALe.refl _), (ALe.refl _), (ALe.refl _), trivial⟩ ⟨⟨rfl, .inr rfl⟩, ⟨rfl, .inl rfl⟩, ⟨rfl, .inl rfl⟩, ⟨rfl, .inr rfl⟩, ⟨rfl, .inr rfl⟩, ⟨rfl, .inr rfl⟩, ⟨rfl, .inr rfl⟩, trivial⟩ ?_
              refine RunC.seq ?_
              obtain ⟨r34, r35, hf22, h⟩ := obind2_some h
              obtain ⟨hn23, h⟩ := need_some h
              refine RunC.regionW ?_
              refine ROps.d (r := AV.agg [AV.i64 r16, AV.i64 r17, AV.oref 3 1 0 r18.length]) (fs := []) (Γ' := [⟨1, some [AV.i64 r9, AV.i64 r10, AV.sl r12.length (r12.map AV.f32)]⟩, ⟨1, none⟩, ⟨1, none⟩, ⟨1, some (r18.map AV.f32)⟩, ⟨1, some [AV.i64 r16, AV.i64 r17, AV.oref 3 1 0 r18.length]⟩, ⟨1, some (r22.map AV.f32)⟩, ⟨1, some [AV.i64 r19, AV.i64 r20, AV.oref 5 1 0 r22.length]⟩]) rfl rfl rfl (TOp.loadAgg_o rfl agg40 siz40 rfl rfl rfl rfl) rfl ?_
              refine ROps.l (r := AV.i64 r32) rfl rfl rfl (LOp.move rfl rfl) ?_
              refine ROps.callO (A := [AV.agg [AV.i64 r16, AV.i64 r17, AV.oref 3 1 0 r18.length], AV.i64 r32]) (args := [AV.agg [AV.i64 r16, AV.i64 r17, AV.oref 0 0 0 r18.length], AV.i64 r32]) (Γc := [⟨0, some (r18.map AV.f32)⟩]) (Γc' := [⟨0, some (r35.map AV.f32)⟩]) (r' := AV.i64 r34) (Γ' := [⟨1, some [AV.i64 r9, AV.i64 r10, AV.sl r12.length (r12.map AV.f32)]⟩, ⟨1, none⟩, ⟨1, none⟩, ⟨1, some (r35.map AV.f32)⟩, ⟨1, some [AV.i64 r16, AV.i64 r17, AV.oref 3 1 0 r18.length]⟩, ⟨1, some (r22.map AV.f32)⟩, ⟨1, some [AV.i64 r19, AV.i64 r20, AV.oref 5 1 0 r22.length]⟩]) [(3, 1)] [] rfl (CallAs.func ent29 rfl rfl) rfl rfl (SelOk.of (by decide) (SelL.arr0 (f := AV.f32) (fun _ => rfl) rfl trivial)) (live_of ⟨⟨_, _, rfl⟩, trivial⟩) (by simp [AV.ren, AV.rens, sigma]) rfl (f29_1_ok r16 r17 r32 r18 r34 r35 hf22) rfl (news_of trivial) (by decide) (by simp [AV.ren, AV.rens, sigma, of_decide_eq_true hn23]) (by simp [backOb, sigma, rens_f32, rens_f64, rens_i64, rens_ik, rens_str, rens_cp]) ?_
              refine ROps.l (r := AV.i64 r34) rfl rfl rfl (LOp.assign rfl rfl) ?_
              refine ROps.nil ?_
              refine RunC.wl (τ' := [(2, AV.i64 a6), (3, AV.i64 a7), (4, AV.ptr [AV.i64 a0, AV.i64 a1, AV.sl a2.length (a2.map AV.f32)]), (5, AV.ptr [AV.i64 a3, AV.i64 a4, AV.sl a5.length (a5.map AV.f32)]), (10, AV.optr 0 1 0), (11, AV.b r11), (14, AV.optr 6 1 0), (15, AV.b r21), (16, AV.i64 r34)]) (Γ' := [⟨1, some [AV.i64 r9, AV.i64 r10, AV.sl r12.length (r12.map AV.f32)]⟩, ⟨1, none⟩, ⟨1, none⟩, ⟨1, none⟩, ⟨1, none⟩, ⟨1, some (r22.map AV.f32)⟩, ⟨1, some [AV.i64 r19, AV.i64 r20, AV.oref 5 1 0 r22.length]⟩]) ⟨(ALe.refl _), (ALe.refl _), (ALe.refl _), (ALe.refl _), (ALe.refl _), (ALe.refl _), (ALe.refl _), (ALe.refl _), (ALe.refl _), trivial⟩ ⟨⟨rfl, .inr rfl⟩, ⟨rfl, .inl rfl⟩, ⟨rfl, .inl rfl⟩, ⟨rfl, .inl rfl⟩, ⟨rfl, .inl rfl⟩, ⟨rfl, .inr rfl⟩, ⟨rfl, .inr rfl⟩, trivial⟩ ?_
              refine RunC.seq ?_
              refine RunC.seq ?_
              rcases bsel_some h with ⟨hc24, h⟩ | ⟨hc24, h⟩
              · refine RunC.regionW ?_
                refine ROps.l (r := AV.i64 r34) rfl rfl rfl (LOp.move rfl rfl) ?_
                refine ROps.l (r := AV.b true) rfl rfl rfl (LOp.eqb (LOp.lss rfl rfl rfl) hc24) ?_
                refine ROps.l (r := AV.b true) rfl rfl rfl (LOp.move rfl rfl) ?_
                refine ROps.s rfl rfl rfl ?_
                refine ROps.s rfl rfl rfl ?_
                refine ROps.s rfl rfl rfl ?_
                refine ROps.s rfl rfl rfl ?_
                refine ROps.l (r := AV.b true) rfl rfl rfl (LOp.pick_true rfl rfl rfl) ?_
                refine ROps.l (r := AV.b true) rfl rfl rfl (LOp.move rfl rfl) ?_
                refine ROps.s rfl rfl rfl ?_
                refine ROps.s rfl rfl rfl ?_
                refine ROps.s rfl rfl rfl ?_
                refine ROps.l (r := AV.b true) rfl rfl rfl (LOp.pick_true rfl rfl rfl) ?_
                refine ROps.nil ?_
                refine RunC.cond_true rfl rfl ?_
                refine RunC.seq ?_
                refine RunC.regionW ?_
                refine ROps.l (r := AV.b false) rfl rfl rfl (LOp.assign rfl rfl) ?_
                refine ROps.nil ?_
                refine RunC.ret ?_
                have hq := Option.some.inj h
                subst q0
                exact bodyQ.pure (.inr rfl) rfl (Res.one rfl (RV.tmp rfl))
              · obtain ⟨r36, hf25, h⟩ := obind_some h
                rcases bsel_some h with ⟨hc26, h⟩ | ⟨hc26, h⟩
                · refine RunC.regionW ?_
                  refine ROps.l (r := AV.i64 r34) rfl rfl rfl (LOp.move rfl rfl) ?_
                  refine ROps.l (r := AV.b false) rfl rfl rfl (LOp.eqb (LOp.lss rfl rfl rfl) hc24) ?_
                  refine ROps.l (r := AV.b false) rfl rfl rfl (LOp.move rfl rfl) ?_
                  refine ROps.d (r := AV.agg [AV.i64 r19, AV.i64 r20, AV.oref 5 1 0 r22.length]) (fs := []) (Γ' := [⟨1, some [AV.i64 r9, AV.i64 r10, AV.sl r12.length (r12.map AV.f32)]⟩, ⟨1, none⟩, ⟨1, none⟩, ⟨1, none⟩, ⟨1, none⟩, ⟨1, some (r22.map AV.f32)⟩, ⟨1, some [AV.i64 r19, AV.i64 r20, AV.oref 5 1 0 r22.length]⟩]) rfl rfl rfl (TOp.loadAgg_o rfl agg40 siz40 rfl rfl rfl rfl) rfl ?_
                  refine ROps.d (r := AV.agg [AV.i64 r9, AV.i64 r10, AV.sl r12.length (r12.map AV.f32)]) (fs := []) (Γ' := [⟨1, some [AV.i64 r9, AV.i64 r10, AV.sl r12.length (r12.map AV.f32)]⟩, ⟨1, none⟩, ⟨1, none⟩, ⟨1, none⟩, ⟨1, none⟩, ⟨1, some (r22.map AV.f32)⟩, ⟨1, some [AV.i64 r19, AV.i64 r20, AV.oref 5 1 0 r22.length]⟩]) rfl rfl rfl (TOp.loadAgg_o rfl agg40 siz40 rfl rfl rfl rfl) rfl ?_
                  refine ROps.d (r := AV.b true) (fs := []) (Γ' := [⟨1, some [AV.i64 r9, AV.i64 r10, AV.sl r12.length (r12.map AV.f32)]⟩, ⟨1, none⟩, ⟨1, none⟩, ⟨1, none⟩, ⟨1, none⟩, ⟨1, some (r22.map AV.f32)⟩, ⟨1, some [AV.i64 r19, AV.i64 r20, AV.oref 5 1 0 r22.length]⟩]) rfl rfl rfl (TOp.eqb (TOp.callB (CallAs.func ent28 rfl rfl) (Bors.cons (Bor.agg (Bors.cons (Bor.pure rfl) (Bors.cons (Bor.pure rfl) (Bors.cons (Bor.own (f := AV.f32) (fun _ => rfl) rfl rfl) Bors.nil)))) (Bors.cons (Bor.agg (Bors.cons (Bor.pure rfl) (Bors.cons (Bor.pure rfl) (Bors.cons (Bor.sl (fun _ => rfl)) Bors.nil)))) Bors.nil)) rfl rfl (f28_ok r19 r20 r22 r9 r10 r12 r36 hf25)) hc26) rfl ?_
                  refine ROps.l (r := AV.b false) rfl rfl rfl (LOp.eqb (LOp.not rfl rfl) rfl) ?_
                  refine ROps.l (r := AV.b false) rfl rfl rfl (LOp.pick_false rfl rfl rfl) ?_
                  refine ROps.l (r := AV.b false) rfl rfl rfl (LOp.move rfl rfl) ?_
                  refine ROps.l (r := AV.b r21) rfl rfl rfl (LOp.move rfl rfl) ?_
                  refine ROps.l (r := AV.b r11) rfl rfl rfl (LOp.move rfl rfl) ?_
                  refine ROps.l (r := AV.b false) rfl rfl rfl (LOp.eqb (LOp.neqb pun4 rfl rfl rfl) hc13) ?_
                  refine ROps.l (r := AV.b false) rfl rfl rfl (LOp.pick_false rfl rfl rfl) ?_
                  refine ROps.nil ?_
                  refine RunC.cond_false rfl rfl ?_
                  refine RunC.skip ?_
                  refine RunC.seq ?_
                  refine RunC.regionW ?_
                  refine ROps.l (r := AV.i64 1) rfl rfl rfl (LOp.assign rfl rfl) ?_
                  refine ROps.nil ?_
                  refine RunC.seq ?_
                  obtain ⟨r37, r38, hf27, h⟩ := obind2_some h
                  obtain ⟨hn28, h⟩ := need_some h
                  refine RunC.regionW ?_
                  refine ROps.d (r := AV.agg [AV.i64 r19, AV.i64 r20, AV.oref 5 1 0 r22.length]) (fs := []) (Γ' := [⟨1, some [AV.i64 r9, AV.i64 r10, AV.sl r12.length (r12.map AV.f32)]⟩, ⟨1, none⟩, ⟨1, none⟩, ⟨1, none⟩, ⟨1, none⟩, ⟨1, some (r22.map AV.f32)⟩, ⟨1, some [AV.i64 r19, AV.i64 r20, AV.oref 5 1 0 r22.length]⟩]) rfl rfl rfl (TOp.loadAgg_o rfl agg40 siz40 rfl rfl rfl rfl) rfl ?_
                  refine ROps.l (r := AV.i64 1) rfl rfl rfl (LOp.move rfl rfl) ?_
                  refine ROps.callO (A := [AV.agg [AV.i64 r19, AV.i64 r20, AV.oref 5 1 0 r22.length], AV.i64 1]) (args := [AV.agg [AV.i64 r19, AV.i64 r20, AV.oref 0 0 0 r22.length], AV.i64 1]) (Γc := [⟨0, some (r22.map AV.f32)⟩]) (Γc' := [⟨0, some (r38.map AV.f32)⟩]) (r' := AV.i64 r37) (Γ' := [⟨1, some [AV.i64 r9, AV.i64 r10, AV.sl r12.length (r12.map AV.f32)]⟩, ⟨1, none⟩, ⟨1, none⟩, ⟨1, none⟩, ⟨1, none⟩, ⟨1, some (r38.map AV.f32)⟩, ⟨1, some [AV.i64 r19, AV.i64 r20, AV.oref 5 1 0 r22.length]⟩]) [(5, 1)] [] rfl (CallAs.func ent29 rfl rfl) rfl rfl (SelOk.of (by decide) (SelL.arr0 (f := AV.f32) (fun _ => rfl) rfl trivial)) (live_of ⟨⟨_, _, rfl⟩, trivial⟩) (by simp [AV.ren, AV.rens, sigma]) rfl (f29_1_ok r19 r20 1 r22 r37 r38 hf27) rfl (news_of trivial) (by decide) (by simp [AV.ren, AV.rens, sigma, of_decide_eq_true hn28]) (by simp [backOb, sigma, rens_f32, rens_f64, rens_i64, rens_ik, rens_str, rens_cp]) ?_
                  refine ROps.l (r := AV.i64 r37) rfl rfl rfl (LOp.assign rfl rfl) ?_
                  refine ROps.nil ?_
                  refine RunC.wl (τ' := [(2, AV.i64 a6), (3, AV.i64 a7), (4, AV.ptr [AV.i64 a0, AV.i64 a1, AV.sl a2.length (a2.map AV.f32)]), (5, AV.ptr [AV.i64 a3, AV.i64 a4, AV.sl a5.length (a5.map AV.f32)]), (10, AV.optr 0 1 0), (11, AV.b r11), (14, AV.optr 6 1 0), (17, AV.i64 r37)]) (Γ' := [⟨1, some [AV.i64 r9, AV.i64 r10, AV.sl r12.length (r12.map AV.f32)]⟩, ⟨1, none⟩, ⟨1, none⟩, ⟨1, none⟩, ⟨1, none⟩, ⟨1, some (r38.map AV.f32)⟩, ⟨1, some [AV.i64 r19, AV.i64 r20, AV.oref 5 1 0 r22.length]⟩]) ⟨(ALe.refl _), (ALe.refl _), (ALe.refl _), (ALe.refl _), (ALe.refl _), (ALe.refl _), (ALe.refl _), (ALe.refl _), trivial⟩ ⟨⟨rfl, .inr rfl⟩, ⟨rfl, .inl rfl⟩, ⟨rfl, .inl rfl⟩, ⟨rfl, .inl rfl⟩, ⟨rfl, .inl rfl⟩, ⟨rfl, .inr rfl⟩, ⟨rfl, .inr rfl⟩, trivial⟩ ?_
                  refine RunC.seq ?_
                  refine RunC.regionW ?_
                  refine ROps.l (r := AV.i64 1) rfl rfl rfl (LOp.assign rfl rfl) ?_
                  refine ROps.nil ?_
                  refine RunC.seq ?_
                  obtain ⟨r39, hf29, h⟩ := obind_some h
                  refine RunC.regionW ?_
                  refine ROps.d (r := AV.agg [AV.i64 r19, AV.i64 r20, AV.oref 5 1 0 r22.length]) (fs := []) (Γ' := [⟨1, some [AV.i64 r9, AV.i64 r10, AV.sl r12.length (r12.map AV.f32)]⟩, ⟨1, none⟩, ⟨1, none⟩, ⟨1, none⟩, ⟨1, none⟩, ⟨1, some (r38.map AV.f32)⟩, ⟨1, some [AV.i64 r19, AV.i64 r20, AV.oref 5 1 0 r22.length]⟩]) rfl rfl rfl (TOp.loadAgg_o rfl agg40 siz40 rfl rfl rfl rfl) rfl ?_
                  refine ROps.l (r := AV.i64 1) rfl rfl rfl (LOp.move rfl rfl) ?_
                  refine ROps.d (r := AV.i64 r39) (fs := []) (Γ' := [⟨1, some [AV.i64 r9, AV.i64 r10, AV.sl r12.length (r12.map AV.f32)]⟩, ⟨1, none⟩, ⟨1, none⟩, ⟨1, none⟩, ⟨1, none⟩, ⟨1, some (r38.map AV.f32)⟩, ⟨1, some [AV.i64 r19, AV.i64 r20, AV.oref 5 1 0 r22.length]⟩]) rfl rfl rfl (TOp.callB (CallAs.func ent30 rfl rfl) (Bors.cons (Bor.agg (Bors.cons (Bor.pure rfl) (Bors.cons (Bor.pure rfl) (Bors.cons (Bor.own (f := AV.f32) (fun _ => rfl) rfl (of_decide_eq_true hn28)) Bors.nil)))) (Bors.cons (Bor.pure rfl) Bors.nil)) rfl rfl (f30_ok r19 r20 r38 1 r39 hf29)) rfl ?_
                  refine ROps.l (r := AV.i64 r39) rfl rfl rfl (LOp.assign rfl rfl) ?_
                  refine ROps.nil ?_
                  refine RunC.seq ?_
                  refine RunC.seq ?_
                  rcases bsel_some h with ⟨hc30, h⟩ | ⟨hc30, h⟩
                  · refine RunC.regionW ?_
                    refine ROps.l (r := AV.i64 r39) rfl rfl rfl (LOp.move rfl rfl) ?_
                    refine ROps.l (r := AV.b true) rfl rfl rfl (LOp.eqb (LOp.lss rfl rfl rfl) hc30) ?_
                    refine ROps.nil ?_
                    refine RunC.cond_true rfl rfl ?_
                    refine RunC.seq ?_
                    refine RunC.regionW ?_
                    refine ROps.l (r := AV.b false) rfl rfl rfl (LOp.assign rfl rfl) ?_
                    refine ROps.nil ?_
                    refine RunC.ret ?_
                    have hq := Option.some.inj h
                    subst q0
                    exact bodyQ.pure (.inr rfl) rfl (Res.one rfl (RV.tmp rfl))
                  · refine RunC.regionW ?_
                    refine ROps.l (r := AV.i64 r39) rfl rfl rfl (LOp.move rfl rfl) ?_
                    refine ROps.l (r := AV.b false) rfl rfl rfl (LOp.eqb (LOp.lss rfl rfl rfl) hc30) ?_
                    refine ROps.nil ?_
                    refine RunC.cond_false rfl rfl ?_
                    refine RunC.skip ?_
                    refine RunC.seq ?_
                    refine RunC.seq ?_
                    rcases bsel_some h with ⟨hc31, h⟩ | ⟨hc31, h⟩
                    · refine RunC.regionW ?_
                      refine ROps.l (r := AV.i64 r39) rfl rfl rfl (LOp.move rfl rfl) ?_
                      refine ROps.l (r := AV.i64 r37) rfl rfl rfl (LOp.move rfl rfl) ?_
                      refine ROps.l (r := AV.b true) rfl rfl rfl (LOp.eqb (LOp.neq rfl rfl rfl) hc31) ?_
                      refine ROps.nil ?_
                      refine RunC.cond_true rfl rfl ?_
                      refine RunC.seq ?_
                      refine RunC.regionW ?_
                      refine ROps.l (r := AV.b false) rfl rfl rfl (LOp.assign rfl rfl) ?_
                      refine ROps.nil ?_
                      refine RunC.ret ?_
                      have hq := Option.some.inj h
                      subst q0
                      exact bodyQ.pure (.inr rfl) rfl (Res.one rfl (RV.tmp rfl))
                    · refine RunC.regionW ?_
                      refine ROps.l (r := AV.i64 r39) rfl rfl rfl (LOp.move rfl rfl) ?_
                      refine ROps.l (r := AV.i64 r37) rfl rfl rfl (LOp.move rfl rfl) ?_
                      refine ROps.l (r := AV.b false) rfl rfl rfl (LOp.eqb (LOp.neq rfl rfl rfl) hc31) ?_
                      refine ROps.nil ?_
                      refine RunC.cond_false rfl rfl ?_
                      refine RunC.skip ?_
                      refine RunC.seq ?_
                      obtain ⟨r40, r41, r42, hf32, h⟩ := obind3_some h
                      obtain ⟨r43, r44, r45, hf33, h⟩ := obind3_some h
                      obtain ⟨r46, r47, r48, r49, hf34, h⟩ := obind4_some h
                      refine RunC.region_draw (Γ' := [⟨1, some [AV.i64 r9, AV.i64 r10, AV.sl r12.length (r12.map AV.f32)]⟩, ⟨2, some [AV.i64 0, AV.i64 0, AV.nilsl]⟩, ⟨1, none⟩, ⟨1, none⟩, ⟨1, none⟩, ⟨1, some (r38.map AV.f32)⟩, ⟨1, some [AV.i64 r19, AV.i64 r20, AV.oref 5 1 0 r22.length]⟩]) 11 mixed 
                        (TR.l (r := AV.agg [AV.i64 a0, AV.i64 a1, AV.sl a2.length (a2.map AV.f32)]) rfl rfl (LOp.loadAgg agg52 siz52 rfl rfl rfl rfl) <|
                        (TR.d (r := AV.agg [AV.i64 r40, AV.i64 r41, AV.sl r42.length (r42.map AV.f32)]) (fs := []) rfl rfl (TOp.callS (CallAs.func ent26 rfl rfl) (ALes.cons (ALe.refl _) ALes.nil) (lts_cons (lt_agg (lts_cons rfl (lts_cons rfl (lts_cons (lt_sl (fun _ => rfl)) lts_nil)))) lts_nil) (lt_agg (lts_cons rfl (lts_cons rfl (lts_cons (lt_sl (fun _ => rfl)) lts_nil)))) (f26_ok a0 a1 a2 r40 r41 r42 hf32) (Bor.agg (Bors.cons (Bor.pure rfl) (Bors.cons (Bor.pure rfl) (Bors.cons (Bor.own (f := AV.f32) (fun _ => rfl) rfl rfl) Bors.nil))))) <|
                        (TR.l (r := AV.agg [AV.i64 a3, AV.i64 a4, AV.sl a5.length (a5.map AV.f32)]) rfl rfl (LOp.loadAgg agg52 siz52 rfl rfl rfl rfl) <|
                        (TR.d (r := AV.agg [AV.i64 r43, AV.i64 r44, AV.sl r45.length (r45.map AV.f32)]) (fs := []) rfl rfl (TOp.callS (CallAs.func ent26 rfl rfl) (ALes.cons (ALe.refl _) ALes.nil) (lts_cons (lt_agg (lts_cons rfl (lts_cons rfl (lts_cons (lt_sl (fun _ => rfl)) lts_nil)))) lts_nil) (lt_agg (lts_cons rfl (lts_cons rfl (lts_cons (lt_sl (fun _ => rfl)) lts_nil)))) (f26_ok a3 a4 a5 r43 r44 r45 hf33) (Bor.agg (Bors.cons (Bor.pure rfl) (Bors.cons (Bor.pure rfl) (Bors.cons (Bor.own (f := AV.f32) (fun _ => rfl) rfl rfl) Bors.nil))))) <|
                        (TR.l (r := AV.i64 a6) rfl rfl (LOp.move rfl rfl) <|
                        (TR.l (r := AV.i64 a7) rfl rfl (LOp.move rfl rfl) <|
                        (TR.d (r := AV.tup [AV.agg [AV.i64 r46, AV.i64 r47, AV.sl r49.length (r49.map AV.f32)], AV.b r48]) (fs := []) rfl rfl (TOp.callS (CallAs.func ent27 rfl rfl) (ALes.cons (ALe.refl _) (ALes.cons (ALe.refl _) (ALes.cons (ALe.refl _) (ALes.cons (ALe.refl _) ALes.nil)))) (lts_cons (lt_agg (lts_cons rfl (lts_cons rfl (lts_cons (lt_sl (fun _ => rfl)) lts_nil)))) (lts_cons (lt_agg (lts_cons rfl (lts_cons rfl (lts_cons (lt_sl (fun _ => rfl)) lts_nil)))) (lts_cons rfl (lts_cons rfl lts_nil)))) (lt_tup (lts_cons (lt_agg (lts_cons rfl (lts_cons rfl (lts_cons (lt_sl (fun _ => rfl)) lts_nil)))) (lts_cons rfl lts_nil))) (f27_ok r40 r41 r42 r43 r44 r45 a6 a7 r46 r47 r48 r49 hf34) (Bor.tup (Bors.cons (Bor.agg (Bors.cons (Bor.pure rfl) (Bors.cons (Bor.pure rfl) (Bors.cons (Bor.own (f := AV.f32) (fun _ => rfl) rfl rfl) Bors.nil)))) (Bors.cons (Bor.pure rfl) Bors.nil)))) <|
                        (TR.l (r := AV.tup [AV.agg [AV.i64 r46, AV.i64 r47, AV.sl r49.length (r49.map AV.f32)], AV.b r48]) rfl rfl (LOp.move rfl rfl) <|
                        (TR.l (r := AV.agg [AV.i64 r46, AV.i64 r47, AV.sl r49.length (r49.map AV.f32)]) rfl rfl (LOp.extract rfl rfl rfl) <|
                        (TR.loose (r := AV.b r48) rfl rfl (LOp.extract rfl rfl rfl) <|
                        (TR.d (r := AV.optr 1 2 0) (fs := [(1, [AV.i64 0, AV.i64 0, AV.nilsl])]) rfl rfl (TOp.alloc_o (g := ⟨1, none⟩) 1 rfl zer40 zok40 rfl) <|
                        TR.nil))))))))))) rfl (by kernel_rfl) rfl (fills_of (by show List.Nodup [1]; decide) ⟨⟨_, rfl⟩, trivial⟩) rfl ?_
                      iterate 11 refine ROps.dropS ?_
                      refine ROps.drop0 ?_
                      refine ROps.store_le (r := AV.agg [AV.i64 r46, AV.i64 r47, AV.sl r49.length (r49.map AV.f32)]) (l' := [AV.i64 r46, AV.i64 r47, AV.sl r49.length (r49.map AV.f32)]) (Γ' := [⟨1, some [AV.i64 r9, AV.i64 r10, AV.sl r12.length (r12.map AV.f32)]⟩, ⟨2, some [AV.i64 r46, AV.i64 r47, AV.sl r49.length (r49.map AV.f32)]⟩, ⟨1, none⟩, ⟨1, none⟩, ⟨1, none⟩, ⟨1, some (r38.map AV.f32)⟩, ⟨1, some [AV.i64 r19, AV.i64 r20, AV.oref 5 1 0 r22.length]⟩]) rfl siz40 rfl rfl rfl (ALe.refl _) rfl rfl rfl rfl (Nat.le_of_ble_eq_true rfl) rfl rfl ?_
                      refine ROps.l (r := AV.b r48) rfl rfl rfl (LOp.assign rfl rfl) ?_
                      refine ROps.nil ?_
                      refine RunC.wl (τ' := [(10, AV.optr 0 1 0), (11, AV.b r11), (14, AV.optr 6 1 0), (17, AV.i64 r37), (19, AV.optr 1 2 0), (20, AV.b r48)]) (Γ' := [⟨1, some [AV.i64 r9, AV.i64 r10, AV.sl r12.length (r12.map AV.f32)]⟩, ⟨2, some [AV.i64 r46, AV.i64 r47, AV.sl r49.length (r49.map AV.f32)]⟩, ⟨1, none⟩, ⟨1, none⟩, ⟨1, none⟩, ⟨1, some (r38.map AV.f32)⟩, ⟨1, some [AV.i64 r19, AV.i64 r20, AV.oref 5 1 0 r22.length]⟩]) ⟨(ALe.refl _), (ALe.refl _), (ALe.refl _), (ALe.refl _), (ALe.refl _), (ALe.refl _), trivial⟩ ⟨⟨rfl, .inr rfl⟩, ⟨rfl, .inr rfl⟩, ⟨rfl, .inl rfl⟩, ⟨rfl, .inl rfl⟩, ⟨rfl, .inl rfl⟩, ⟨rfl, .inr rfl⟩, ⟨rfl, .inr rfl⟩, trivial⟩ ?_
                      refine RunC.seq ?_
                      refine RunC.seq ?_
                      obtain ⟨r50, hf35, h⟩ := obind_some h
                      rcases bsel_some h with ⟨hc36, h⟩ | ⟨hc36, h⟩
                      · rcases bsel_some h with ⟨hc37, h⟩ | ⟨hc37, h⟩
                        · refine RunC.regionW ?_
                          refine ROps.d (r := AV.agg [AV.i64 r46, AV.i64 r47, AV.sl r49.length (r49.map AV.f32)]) (fs := []) (Γ' := [⟨1, some [AV.i64 r9, AV.i64 r10, AV.sl r12.length (r12.map AV.f32)]⟩, ⟨2, some [AV.i64 r46, AV.i64 r47, AV.sl r49.length (r49.map AV.f32)]⟩, ⟨1, none⟩, ⟨1, none⟩, ⟨1, none⟩, ⟨1, some (r38.map AV.f32)⟩, ⟨1, some [AV.i64 r19, AV.i64 r20, AV.oref 5 1 0 r22.length]⟩]) rfl rfl rfl (TOp.loadAgg_o rfl agg40 siz40 rfl rfl rfl rfl) rfl ?_
                          refine ROps.d (r := AV.agg [AV.i64 r9, AV.i64 r10, AV.sl r12.length (r12.map AV.f32)]) (fs := []) (Γ' := [⟨1, some [AV.i64 r9, AV.i64 r10, AV.sl r12.length (r12.map AV.f32)]⟩, ⟨2, some [AV.i64 r46, AV.i64 r47, AV.sl r49.length (r49.map AV.f32)]⟩, ⟨1, none⟩, ⟨1, none⟩, ⟨1, none⟩, ⟨1, some (r38.map AV.f32)⟩, ⟨1, some [AV.i64 r19, AV.i64 r20, AV.oref 5 1 0 r22.length]⟩]) rfl rfl rfl (TOp.loadAgg_o rfl agg40 siz40 rfl rfl rfl rfl) rfl ?_
                          refine ROps.d (r := AV.b true) (fs := []) (Γ' := [⟨1, some [AV.i64 r9, AV.i64 r10, AV.sl r12.length (r12.map AV.f32)]⟩, ⟨2, some [AV.i64 r46, AV.i64 r47, AV.sl r49.length (r49.map AV.f32)]⟩, ⟨1, none⟩, ⟨1, none⟩, ⟨1, none⟩, ⟨1, some (r38.map AV.f32)⟩, ⟨1, some [AV.i64 r19, AV.i64 r20, AV.oref 5 1 0 r22.length]⟩]) rfl rfl rfl (TOp.eqb (TOp.callB (CallAs.func ent28 rfl rfl) (Bors.cons (Bor.agg (Bors.cons (Bor.pure rfl) (Bors.cons (Bor.pure rfl) (Bors.cons (Bor.sl (fun _ => rfl)) Bors.nil)))) (Bors.cons (Bor.agg (Bors.cons (Bor.pure rfl) (Bors.cons (Bor.pure rfl) (Bors.cons (Bor.sl (fun _ => rfl)) Bors.nil)))) Bors.nil)) rfl rfl (f28_ok r46 r47 r49 r9 r10 r12 r50 hf35)) hc36) rfl ?_
                          refine ROps.l (r := AV.b false) rfl rfl rfl (LOp.eqb (LOp.not rfl rfl) rfl) ?_
                          refine ROps.l (r := AV.b false) rfl rfl rfl (LOp.move rfl rfl) ?_
                          refine ROps.l (r := AV.b r48) rfl rfl rfl (LOp.move rfl rfl) ?_
                          refine ROps.l (r := AV.b r11) rfl rfl rfl (LOp.move rfl rfl) ?_
                          refine ROps.l (r := AV.b true) rfl rfl rfl (LOp.eqb (LOp.neqb pun4 rfl rfl rfl) hc37) ?_
                          refine ROps.l (r := AV.b true) rfl rfl rfl (LOp.pick_false rfl rfl rfl) ?_
                          refine ROps.nil ?_
                          refine RunC.wl (τ' := [(14, AV.optr 6 1 0), (17, AV.i64 r37), (120, AV.b true)]) (Γ' := [⟨1, none⟩, ⟨2, none⟩, ⟨1, none⟩, ⟨1, none⟩, ⟨1, none⟩, ⟨1, some (r38.map AV.f32)⟩, ⟨1, some [AV.i64 r19, AV.i64 r20, AV.oref 5 1 0 r22.length]⟩]) ⟨(ALe.refl _), (ALe.refl _), (ALe.refl _), trivial⟩ ⟨⟨rfl, .inl rfl⟩, ⟨rfl, .inl rfl⟩, ⟨rfl, .inl rfl⟩, ⟨rfl, .inl rfl⟩, ⟨rfl, .inl rfl⟩, ⟨rfl, .inr rfl⟩, ⟨rfl, .inr rfl⟩, trivial⟩ ?_
                          refine RunC.cond_true rfl rfl ?_
                          refine RunC.seq ?_
                          refine RunC.regionW ?_
                          refine ROps.l (r := AV.b false) rfl rfl rfl (LOp.assign rfl rfl) ?_
                          refine ROps.nil ?_
                          refine RunC.ret ?_
                          have hq := Option.some.inj h
                          subst q0
                          exact bodyQ.pure (.inr rfl) rfl (Res.one rfl (RV.tmp rfl))
                        · refine RunC.regionW ?_
                          refine ROps.d (r := AV.agg [AV.i64 r46, AV.i64 r47, AV.sl r49.length (r49.map AV.f32)]) (fs := []) (Γ' := [⟨1, some [AV.i64 r9, AV.i64 r10, AV.sl r12.length (r12.map AV.f32)]⟩, ⟨2, some [AV.i64 r46, AV.i64 r47, AV.sl r49.length (r49.map AV.f32)]⟩, ⟨1, none⟩, ⟨1, none⟩, ⟨1, none⟩, ⟨1, some (r38.map AV.f32)⟩, ⟨1, some [AV.i64 r19, AV.i64 r20, AV.oref 5 1 0 r22.length]⟩]) rfl rfl rfl (TOp.loadAgg_o rfl agg40 siz40 rfl rfl rfl rfl) rfl ?_
                          refine ROps.d (r := AV.agg [AV.i64 r9, AV.i64 r10, AV.sl r12.length (r12.map AV.f32)]) (fs := []) (Γ' := [⟨1, some [AV.i64 r9, AV.i64 r10, AV.sl r12.length (r12.map AV.f32)]⟩, ⟨2, some [AV.i64 r46, AV.i64 r47, AV.sl r49.length (r49.map AV.f32)]⟩, ⟨1, none⟩, ⟨1, none⟩, ⟨1, none⟩, ⟨1, some (r38.map AV.f32)⟩, ⟨1, some [AV.i64 r19, AV.i64 r20, AV.oref 5 1 0 r22.length]⟩]) rfl rfl rfl (TOp.loadAgg_o rfl agg40 siz40 rfl rfl rfl rfl) rfl ?_
                          refine ROps.d (r := AV.b true) (fs := []) (Γ' := [⟨1, some [AV.i64 r9, AV.i64 r10, AV.sl r12.length (r12.map AV.f32)]⟩, ⟨2, some [AV.i64 r46, AV.i64 r47, AV.sl r49.length (r49.map AV.f32)]⟩, ⟨1, none⟩, ⟨1, none⟩, ⟨1, none⟩, ⟨1, some (r38.map AV.f32)⟩, ⟨1, some [AV.i64 r19, AV.i64 r20, AV.oref 5 1 0 r22.length]⟩]) rfl rfl rfl (TOp.eqb (TOp.callB (CallAs.func ent28 rfl rfl) (Bors.cons (Bor.agg (Bors.cons (Bor.pure rfl) (Bors.cons (Bor.pure rfl) (Bors.cons (Bor.sl (fun _ => rfl)) Bors.nil)))) (Bors.cons (Bor.agg (Bors.cons (Bor.pure rfl) (Bors.cons (Bor.pure rfl) (Bors.cons (Bor.sl (fun _ => rfl)) Bors.nil)))) Bors.nil)) rfl rfl (f28_ok r46 r47 r49 r9 r10 r12 r50 hf35)) hc36) rfl ?_
                          refine ROps.l (r := AV.b false) rfl rfl rfl (LOp.eqb (LOp.not rfl rfl) rfl) ?_
                          refine ROps.l (r := AV.b false) rfl rfl rfl (LOp.move rfl rfl) ?_
                          refine ROps.l (r := AV.b r48) rfl rfl rfl (LOp.move rfl rfl) ?_
                          refine ROps.l (r := AV.b r11) rfl rfl rfl (LOp.move rfl rfl) ?_
                          refine ROps.l (r := AV.b false) rfl rfl rfl (LOp.eqb (LOp.neqb pun4 rfl rfl rfl) hc37) ?_
                          refine ROps.l (r := AV.b false) rfl rfl rfl (LOp.pick_false rfl rfl rfl) ?_
                          refine ROps.nil ?_
                          refine RunC.wl (τ' := [(14, AV.optr 6 1 0), (17, AV.i64 r37), (120, AV.b false)]) (Γ' := [⟨1, none⟩, ⟨2, none⟩, ⟨1, none⟩, ⟨1, none⟩, ⟨1, none⟩, ⟨1, some (r38.map AV.f32)⟩, ⟨1, some [AV.i64 r19, AV.i64 r20, AV.oref 5 1 0 r22.length]⟩]) ⟨(ALe.refl _), (ALe.refl _), (ALe.refl _), trivial⟩ ⟨⟨rfl, .inl rfl⟩, ⟨rfl, .inl rfl⟩, ⟨rfl, .inl rfl⟩, ⟨rfl, .inl rfl⟩, ⟨rfl, .inl rfl⟩, ⟨rfl, .inr rfl⟩, ⟨rfl, .inr rfl⟩, trivial⟩ ?_
                          refine RunC.cond_false rfl rfl ?_
                          refine RunC.skip ?_
                          refine RunC.seq ?_
                          refine RunC.regionW ?_
                          refine ROps.l (r := AV.i64 1) rfl rfl rfl (LOp.assign rfl rfl) ?_
                          refine ROps.nil ?_
                          refine RunC.seq ?_
                          obtain ⟨r51, hf38, h⟩ := obind_some h
                          refine RunC.regionW ?_
                          refine ROps.d (r := AV.agg [AV.i64 r19, AV.i64 r20, AV.oref 5 1 0 r22.length]) (fs := []) (Γ' := [⟨1, none⟩, ⟨2, none⟩, ⟨1, none⟩, ⟨1, none⟩, ⟨1, none⟩, ⟨1, some (r38.map AV.f32)⟩, ⟨1, some [AV.i64 r19, AV.i64 r20, AV.oref 5 1 0 r22.length]⟩]) rfl rfl rfl (TOp.loadAgg_o rfl agg40 siz40 rfl rfl rfl rfl) rfl ?_
                          refine ROps.l (r := AV.i64 1) rfl rfl rfl (LOp.move rfl rfl) ?_
                          refine ROps.d (r := AV.i64 r51) (fs := []) (Γ' := [⟨1, none⟩, ⟨2, none⟩, ⟨1, none⟩, ⟨1, none⟩, ⟨1, none⟩, ⟨1, some (r38.map AV.f32)⟩, ⟨1, some [AV.i64 r19, AV.i64 r20, AV.oref 5 1 0 r22.length]⟩]) rfl rfl rfl (TOp.callB (CallAs.func ent30 rfl rfl) (Bors.cons (Bor.agg (Bors.cons (Bor.pure rfl) (Bors.cons (Bor.pure rfl) (Bors.cons (Bor.own (f := AV.f32) (fun _ => rfl) rfl (of_decide_eq_true hn28)) Bors.nil)))) (Bors.cons (Bor.pure rfl) Bors.nil)) rfl rfl (f30_ok r19 r20 r38 1 r51 hf38)) rfl ?_
                          refine ROps.l (r := AV.i64 r51) rfl rfl rfl (LOp.assign rfl rfl) ?_
                          refine ROps.nil ?_
                          refine RunC.wl (τ' := [(17, AV.i64 r37), (18, AV.i64 r51)]) (Γ' := [⟨1, none⟩, ⟨2, none⟩, ⟨1, none⟩, ⟨1, none⟩, ⟨1, none⟩, ⟨1, none⟩, ⟨1, none⟩]) ⟨(ALe.refl _), (ALe.refl _), trivial⟩ ⟨⟨rfl, .inl rfl⟩, ⟨rfl, .inl rfl⟩, ⟨rfl, .inl rfl⟩, ⟨rfl, .inl rfl⟩, ⟨rfl, .inl rfl⟩, ⟨rfl, .inl rfl⟩, ⟨rfl, .inl rfl⟩, trivial⟩ ?_
                          refine RunC.seq ?_
                          refine RunC.seq ?_
                          rcases bsel_some h with ⟨hc39, h⟩ | ⟨hc39, h⟩
                          · refine RunC.regionW ?_
                            refine ROps.l (r := AV.i64 r51) rfl rfl rfl (LOp.move rfl rfl) ?_
                            refine ROps.l (r := AV.b true) rfl rfl rfl (LOp.eqb (LOp.lss rfl rfl rfl) hc39) ?_
                            refine ROps.nil ?_
                            refine RunC.cond_true rfl rfl ?_
                            refine RunC.seq ?_
                            refine RunC.regionW ?_
                            refine ROps.l (r := AV.b false) rfl rfl rfl (LOp.assign rfl rfl) ?_
                            refine ROps.nil ?_
                            refine RunC.ret ?_
                            have hq := Option.some.inj h
                            subst q0
                            exact bodyQ.pure (.inr rfl) rfl (Res.one rfl (RV.tmp rfl))
                          · refine RunC.regionW ?_
                            refine ROps.l (r := AV.i64 r51) rfl rfl rfl (LOp.move rfl rfl) ?_
                            refine ROps.l (r := AV.b false) rfl rfl rfl (LOp.eqb (LOp.lss rfl rfl rfl) hc39) ?_
                            refine ROps.nil ?_
                            refine RunC.cond_false rfl rfl ?_
                            refine RunC.skip ?_
                            refine RunC.seq ?_
                            refine RunC.seq ?_
                            rcases bsel_some h with ⟨hc40, h⟩ | ⟨hc40, h⟩
                            · refine RunC.regionW ?_
                              refine ROps.l (r := AV.i64 r51) rfl rfl rfl (LOp.move rfl rfl) ?_
                              refine ROps.l (r := AV.i64 r37) rfl rfl rfl (LOp.move rfl rfl) ?_
                              refine ROps.l (r := AV.b true) rfl rfl rfl (LOp.eqb (LOp.neq rfl rfl rfl) hc40) ?_
                              refine ROps.nil ?_
                              refine RunC.cond_true rfl rfl ?_
                              refine RunC.seq ?_
                              refine RunC.regionW ?_
                              refine ROps.l (r := AV.b false) rfl rfl rfl (LOp.assign rfl rfl) ?_
                              refine ROps.nil ?_
                              refine RunC.ret ?_
                              have hq := Option.some.inj h
                              subst q0
                              exact bodyQ.pure (.inr rfl) rfl (Res.one rfl (RV.tmp rfl))
                            · refine RunC.regionW ?_
                              refine ROps.l (r := AV.i64 r51) rfl rfl rfl (LOp.move rfl rfl) ?_
                              refine ROps.l (r := AV.i64 r37) rfl rfl rfl (LOp.move rfl rfl) ?_
                              refine ROps.l (r := AV.b false) rfl rfl rfl (LOp.eqb (LOp.neq rfl rfl rfl) hc40) ?_
                              refine ROps.nil ?_
                              refine RunC.cond_false rfl rfl ?_
                              refine RunC.skip ?_
                              refine RunC.seq ?_
                              refine RunC.regionW ?_
                              refine ROps.l (r := AV.b true) rfl rfl rfl (LOp.assign rfl rfl) ?_
                              refine ROps.nil ?_
                              refine RunC.ret ?_
                              have hq := Option.some.inj h
                              subst q0
                              exact bodyQ.pure (.inr rfl) rfl (Res.one rfl (RV.tmp rfl))
                      · refine RunC.regionW ?_
                        refine ROps.d (r := AV.agg [AV.i64 r46, AV.i64 r47, AV.sl r49.length (r49.map AV.f32)]) (fs := []) (Γ' := [⟨1, some [AV.i64 r9, AV.i64 r10, AV.sl r12.length (r12.map AV.f32)]⟩, ⟨2, some [AV.i64 r46, AV.i64 r47, AV.sl r49.length (r49.map AV.f32)]⟩, ⟨1, none⟩, ⟨1, none⟩, ⟨1, none⟩, ⟨1, some (r38.map AV.f32)⟩, ⟨1, some [AV.i64 r19, AV.i64 r20, AV.oref 5 1 0 r22.length]⟩]) rfl rfl rfl (TOp.loadAgg_o rfl agg40 siz40 rfl rfl rfl rfl) rfl ?_
                        refine ROps.d (r := AV.agg [AV.i64 r9, AV.i64 r10, AV.sl r12.length (r12.map AV.f32)]) (fs := []) (Γ' := [⟨1, some [AV.i64 r9, AV.i64 r10, AV.sl r12.length (r12.map AV.f32)]⟩, ⟨2, some [AV.i64 r46, AV.i64 r47, AV.sl r49.length (r49.map AV.f32)]⟩, ⟨1, none⟩, ⟨1, none⟩, ⟨1, none⟩, ⟨1, some (r38.map AV.f32)⟩, ⟨1, some [AV.i64 r19, AV.i64 r20, AV.oref 5 1 0 r22.length]⟩]) rfl rfl rfl (TOp.loadAgg_o rfl agg40 siz40 rfl rfl rfl rfl) rfl ?_
                        refine ROps.d (r := AV.b false) (fs := []) (Γ' := [⟨1, some [AV.i64 r9, AV.i64 r10, AV.sl r12.length (r12.map AV.f32)]⟩, ⟨2, some [AV.i64 r46, AV.i64 r47, AV.sl r49.length (r49.map AV.f32)]⟩, ⟨1, none⟩, ⟨1, none⟩, ⟨1, none⟩, ⟨1, some (r38.map AV.f32)⟩, ⟨1, some [AV.i64 r19, AV.i64 r20, AV.oref 5 1 0 r22.length]⟩]) rfl rfl rfl (TOp.eqb (TOp.callB (CallAs.func ent28 rfl rfl) (Bors.cons (Bor.agg (Bors.cons (Bor.pure rfl) (Bors.cons (Bor.pure rfl) (Bors.cons (Bor.sl (fun _ => rfl)) Bors.nil)))) (Bors.cons (Bor.agg (Bors.cons (Bor.pure rfl) (Bors.cons (Bor.pure rfl) (Bors.cons (Bor.sl (fun _ => rfl)) Bors.nil)))) Bors.nil)) rfl rfl (f28_ok r46 r47 r49 r9 r10 r12 r50 hf35)) hc36) rfl ?_
                        refine ROps.l (r := AV.b true) rfl rfl rfl (LOp.eqb (LOp.not rfl rfl) rfl) ?_
                        refine ROps.l (r := AV.b true) rfl rfl rfl (LOp.move rfl rfl) ?_
                        refine ROps.s rfl rfl rfl ?_
                        refine ROps.s rfl rfl rfl ?_
                        refine ROps.s rfl rfl rfl ?_
                        refine ROps.l (r := AV.b true) rfl rfl rfl (LOp.pick_true rfl rfl rfl) ?_
                        refine ROps.nil ?_
                        refine RunC.wl (τ' := [(14, AV.optr 6 1 0), (17, AV.i64 r37), (120, AV.b true)]) (Γ' := [⟨1, none⟩, ⟨2, none⟩, ⟨1, none⟩, ⟨1, none⟩, ⟨1, none⟩, ⟨1, some (r38.map AV.f32)⟩, ⟨1, some [AV.i64 r19, AV.i64 r20, AV.oref 5 1 0 r22.length]⟩]) ⟨(ALe.refl _), (ALe.refl _), (ALe.refl _), trivial⟩ ⟨⟨rfl, .inl rfl⟩, ⟨rfl, .inl rfl⟩, ⟨rfl, .inl rfl⟩, ⟨rfl, .inl rfl⟩, ⟨rfl, .inl rfl⟩, ⟨rfl, .inr rfl⟩, ⟨rfl, .inr rfl⟩, trivial⟩ ?_
                        refine RunC.cond_true rfl rfl ?_
                        refine RunC.seq ?_
                        refine RunC.regionW ?_
                        refine ROps.l (r := AV.b false) rfl rfl rfl (LOp.assign rfl rfl) ?_
                        refine ROps.nil ?_
                        refine RunC.ret ?_
                        have hq := Option.some.inj h
                        subst q0
                        exact bodyQ.pure (.inr rfl) rfl (Res.one rfl (RV.tmp rfl))
                · refine RunC.regionW ?_
                  refine ROps.l (r := AV.i64 r34) rfl rfl rfl (LOp.move rfl rfl) ?_
                  refine ROps.l (r := AV.b false) rfl rfl rfl (LOp.eqb (LOp.lss rfl rfl rfl) hc24) ?_
                  refine ROps.l (r := AV.b false) rfl rfl rfl (LOp.move rfl rfl) ?_
                  refine ROps.d (r := AV.agg [AV.i64 r19, AV.i64 r20, AV.oref 5 1 0 r22.length]) (fs := []) (Γ' := [⟨1, some [AV.i64 r9, AV.i64 r10, AV.sl r12.length (r12.map AV.f32)]⟩, ⟨1, none⟩, ⟨1, none⟩, ⟨1, none⟩, ⟨1, none⟩, ⟨1, some (r22.map AV.f32)⟩, ⟨1, some [AV.i64 r19, AV.i64 r20, AV.oref 5 1 0 r22.length]⟩]) rfl rfl rfl (TOp.loadAgg_o rfl agg40 siz40 rfl rfl rfl rfl) rfl ?_
                  refine ROps.d (r := AV.agg [AV.i64 r9, AV.i64 r10, AV.sl r12.length (r12.map AV.f32)]) (fs := []) (Γ' := [⟨1, some [AV.i64 r9, AV.i64 r10, AV.sl r12.length (r12.map AV.f32)]⟩, ⟨1, none⟩, ⟨1, none⟩, ⟨1, none⟩, ⟨1, none⟩, ⟨1, some (r22.map AV.f32)⟩, ⟨1, some [AV.i64 r19, AV.i64 r20, AV.oref 5 1 0 r22.length]⟩]) rfl rfl rfl (TOp.loadAgg_o rfl agg40 siz40 rfl rfl rfl rfl) rfl ?_
                  refine ROps.d (r := AV.b false) (fs := []) (Γ' := [⟨1, some [AV.i64 r9, AV.i64 r10, AV.sl r12.length (r12.map AV.f32)]⟩, ⟨1, none⟩, ⟨1, none⟩, ⟨1, none⟩, ⟨1, none⟩, ⟨1, some (r22.map AV.f32)⟩, ⟨1, some [AV.i64 r19, AV.i64 r20, AV.oref 5 1 0 r22.length]⟩]) rfl rfl rfl (TOp.eqb (TOp.callB (CallAs.func ent28 rfl rfl) (Bors.cons (Bor.agg (Bors.cons (Bor.pure rfl) (Bors.cons (Bor.pure rfl) (Bors.cons (Bor.own (f := AV.f32) (fun _ => rfl) rfl rfl) Bors.nil)))) (Bors.cons (Bor.agg (Bors.cons (Bor.pure rfl) (Bors.cons (Bor.pure rfl) (Bors.cons (Bor.sl (fun _ => rfl)) Bors.nil)))) Bors.nil)) rfl rfl (f28_ok r19 r20 r22 r9 r10 r12 r36 hf25)) hc26) rfl ?_
                  refine ROps.l (r := AV.b true) rfl rfl rfl (LOp.eqb (LOp.not rfl rfl) rfl) ?_
                  refine ROps.l (r := AV.b true) rfl rfl rfl (LOp.pick_false rfl rfl rfl) ?_
                  refine ROps.l (r := AV.b true) rfl rfl rfl (LOp.move rfl rfl) ?_
                  refine ROps.s rfl rfl rfl ?_
                  refine ROps.s rfl rfl rfl ?_
                  refine ROps.s rfl rfl rfl ?_
                  refine ROps.l (r := AV.b true) rfl rfl rfl (LOp.pick_true rfl rfl rfl) ?_
                  refine ROps.nil ?_
                  refine RunC.cond_true rfl rfl ?_
                  refine RunC.seq ?_
                  refine RunC.regionW ?_
                  refine ROps.l (r := AV.b false) rfl rfl rfl (LOp.assign rfl rfl) ?_
                  refine ROps.nil ?_
                  refine RunC.ret ?_
                  have hq := Option.some.inj h
                  subst q0
                  exact bodyQ.pure (.inr rfl) rfl (Res.one rfl (RV.tmp rfl))
            · refine RunC.region_draw (Γ' := [⟨1, some [AV.i64 r9, AV.i64 r10, AV.sl r12.length (r12.map AV.f32)]⟩, ⟨1, some (r15.map AV.f32)⟩, ⟨1, some [AV.i64 r13, AV.i64 r14, AV.oref 1 1 0 r15.length]⟩, ⟨1, some (r18.map AV.f32)⟩, ⟨1, some [AV.i64 r16, AV.i64 r17, AV.oref 3 1 0 r18.length]⟩, ⟨1, some (r22.map AV.f32)⟩, ⟨1, some [AV.i64 r19, AV.i64 r20, AV.oref 5 1 0 r22.length]⟩]) 5 mixed 
                (TR.d (r := AV.agg [AV.i64 r16, AV.i64 r17, AV.oref 3 1 0 r18.length]) (fs := []) rfl rfl (TOp.loadAgg_o rfl agg40 siz40 rfl rfl rfl rfl) <|
                (TR.l (r := AV.agg [AV.i64 a3, AV.i64 a4, AV.sl a5.length (a5.map AV.f32)]) rfl rfl (LOp.loadAgg agg52 siz52 rfl rfl rfl rfl) <|
                (TR.d (r := AV.agg [AV.i64 r28, AV.i64 r29, AV.sl r30.length (r30.map AV.f32)]) (fs := []) rfl rfl (TOp.callS (CallAs.func ent26 rfl rfl) (ALes.cons (ALe.refl _) ALes.nil) (lts_cons (lt_agg (lts_cons rfl (lts_cons rfl (lts_cons (lt_sl (fun _ => rfl)) lts_nil)))) lts_nil) (lt_agg (lts_cons rfl (lts_cons rfl (lts_cons (lt_sl (fun _ => rfl)) lts_nil)))) (f26_ok a3 a4 a5 r28 r29 r30 hf17) (Bor.agg (Bors.cons (Bor.pure rfl) (Bors.cons (Bor.pure rfl) (Bors.cons (Bor.own (f := AV.f32) (fun _ => rfl) rfl rfl) Bors.nil))))) <|
                (TR.d (r := AV.b false) (fs := []) rfl rfl (TOp.eqb (TOp.callB (CallAs.func ent28 rfl rfl) (Bors.cons (Bor.agg (Bors.cons (Bor.pure rfl) (Bors.cons (Bor.pure rfl) (Bors.cons (Bor.own (f := AV.f32) (fun _ => rfl) rfl rfl) Bors.nil)))) (Bors.cons (Bor.agg (Bors.cons (Bor.pure rfl) (Bors.cons (Bor.pure rfl) (Bors.cons (Bor.sl (fun _ => rfl)) Bors.nil)))) Bors.nil)) rfl rfl (f28_ok r16 r17 r18 r28 r29 r30 r31 hf18)) hc19) <|
                (TR.l (r := AV.b true) rfl rfl (LOp.eqb (LOp.not rfl rfl) rfl) <|
                TR.nil))))) rfl (by kernel_rfl) rfl fills_nil rfl ?_
              iterate 5 refine ROps.dropS ?_
              refine ROps.drop0 ?_
              refine ROps.nil ?_
              refine RunC.cond_true rfl rfl ?_
              refine RunC.seq ?_
              refine RunC.regionW ?_
              refine ROps.l (r := AV.b false) rfl rfl rfl (LOp.assign rfl rfl) ?_
              refine ROps.nil ?_
              refine RunC.ret ?_
              have hq := Option.some.inj h
              subst q0
              exact bodyQ.pure (.inr rfl) rfl (Res.one rfl (RV.tmp rfl))
          · refine RunC.region_draw (Γ' := [⟨1, some [AV.i64 r9, AV.i64 r10, AV.sl r12.length (r12.map AV.f32)]⟩, ⟨1, some (r15.map AV.f32)⟩, ⟨1, some [AV.i64 r13, AV.i64 r14, AV.oref 1 1 0 r15.length]⟩, ⟨1, some (r18.map AV.f32)⟩, ⟨1, some [AV.i64 r16, AV.i64 r17, AV.oref 3 1 0 r18.length]⟩, ⟨1, some (r22.map AV.f32)⟩, ⟨1, some [AV.i64 r19, AV.i64 r20, AV.oref 5 1 0 r22.length]⟩]) 5 mixed 
              (TR.d (r := AV.agg [AV.i64 r13, AV.i64 r14, AV.oref 1 1 0 r15.length]) (fs := []) rfl rfl (TOp.loadAgg_o rfl agg40 siz40 rfl rfl rfl rfl) <|
              (TR.l (r := AV.agg [AV.i64 a0, AV.i64 a1, AV.sl a2.length (a2.map AV.f32)]) rfl rfl (LOp.loadAgg agg52 siz52 rfl rfl rfl rfl) <|
              (TR.d (r := AV.agg [AV.i64 r24, AV.i64 r25, AV.sl r26.length (r26.map AV.f32)]) (fs := []) rfl rfl (TOp.callS (CallAs.func ent26 rfl rfl) (ALes.cons (ALe.refl _) ALes.nil) (lts_cons (lt_agg (lts_cons rfl (lts_cons rfl (lts_cons (lt_sl (fun _ => rfl)) lts_nil)))) lts_nil) (lt_agg (lts_cons rfl (lts_cons rfl (lts_cons (lt_sl (fun _ => rfl)) lts_nil)))) (f26_ok a0 a1 a2 r24 r25 r26 hf14) (Bor.agg (Bors.cons (Bor.pure rfl) (Bors.cons (Bor.pure rfl) (Bors.cons (Bor.own (f := AV.f32) (fun _ => rfl) rfl rfl) Bors.nil))))) <|
              (TR.d (r := AV.b false) (fs := []) rfl rfl (TOp.eqb (TOp.callB (CallAs.func ent28 rfl rfl) (Bors.cons (Bor.agg (Bors.cons (Bor.pure rfl) (Bors.cons (Bor.pure rfl) (Bors.cons (Bor.own (f := AV.f32) (fun _ => rfl) rfl rfl) Bors.nil)))) (Bors.cons (Bor.agg (Bors.cons (Bor.pure rfl) (Bors.cons (Bor.pure rfl) (Bors.cons (Bor.sl (fun _ => rfl)) Bors.nil)))) Bors.nil)) rfl rfl (f28_ok r13 r14 r15 r24 r25 r26 r27 hf15)) hc16) <|
              (TR.l (r := AV.b true) rfl rfl (LOp.eqb (LOp.not rfl rfl) rfl) <|
              TR.nil))))) rfl (by kernel_rfl) rfl fills_nil rfl ?_
            iterate 5 refine ROps.dropS ?_
            refine ROps.drop0 ?_
            refine ROps.nil ?_
            refine RunC.wl (τ' := [(2, AV.i64 a6), (3, AV.i64 a7), (4, AV.ptr [AV.i64 a0, AV.i64 a1, AV.sl a2.length (a2.map AV.f32)]), (5, AV.ptr [AV.i64 a3, AV.i64 a4, AV.sl a5.length (a5.map AV.f32)]), (10, AV.optr 0 1 0), (11, AV.b r11), (12, AV.optr 2 1 0), (13, AV.optr 4 1 0), (14, AV.optr 6 1 0), (15, AV.b r21), (66, AV.b true)]) (Γ' := [⟨1, some [AV.i64 r9, AV.i64 r10, AV.sl r12.length (r12.map AV.f32)]⟩, ⟨1, some (r15.map AV.f32)⟩, ⟨1, some [AV.i64 r13, AV.i64 r14, AV.oref 1 1 0 r15.length]⟩, ⟨1, some (r18.map AV.f32)⟩, ⟨1, some [AV.i64 r16, AV.i64 r17, AV.oref 3 1 0 r18.length]⟩, ⟨1, some (r22.map AV.f32)⟩, ⟨1, some [AV.i64 r19, AV.i64 r20, AV.oref 5 1 0 r22.length]⟩]) ⟨(ALe.refl _), (ALe.refl _), (ALe.refl _), (ALe.refl _), (ALe.refl _), (ALe.refl _), (ALe.refl _), (ALe.refl _), (ALe.refl _), (ALe.refl _), (ALe.refl _), trivial⟩ ⟨⟨rfl, .inr rfl⟩, ⟨rfl, .inr rfl⟩, ⟨rfl, .inr rfl⟩, ⟨rfl, .inr rfl⟩, ⟨rfl, .inr rfl⟩, ⟨rfl, .inr rfl⟩, ⟨rfl, .inr rfl⟩, trivial⟩ ?_
            refine RunC.cond_true rfl rfl ?_
            refine RunC.seq ?_
            refine RunC.regionW ?_
            refine ROps.l (r := AV.b false) rfl rfl rfl (LOp.assign rfl rfl) ?_
            refine ROps.nil ?_
            refine RunC.ret ?_
            have hq := Option.some.inj h
            subst q0
            exact bodyQ.pure (.inr rfl) rfl (Res.one rfl (RV.tmp rfl))
      · refine RunC.regionW ?_
        refine ROps.d (r := AV.agg [AV.i64 r19, AV.i64 r20, AV.oref 5 1 0 r22.length]) (fs := []) (Γ' := [⟨1, some [AV.i64 r9, AV.i64 r10, AV.sl r12.length (r12.map AV.f32)]⟩, ⟨1, some (r15.map AV.f32)⟩, ⟨1, some [AV.i64 r13, AV.i64 r14, AV.oref 1 1 0 r15.length]⟩, ⟨1, some (r18.map AV.f32)⟩, ⟨1, some [AV.i64 r16, AV.i64 r17, AV.oref 3 1 0 r18.length]⟩, ⟨1, some (r22.map AV.f32)⟩, ⟨1, some [AV.i64 r19, AV.i64 r20, AV.oref 5 1 0 r22.length]⟩]) rfl rfl rfl (TOp.loadAgg_o rfl agg40 siz40 rfl rfl rfl rfl) rfl ?_
        refine ROps.d (r := AV.agg [AV.i64 r9, AV.i64 r10, AV.sl r12.length (r12.map AV.f32)]) (fs := []) (Γ' := [⟨1, some [AV.i64 r9, AV.i64 r10, AV.sl r12.length (r12.map AV.f32)]⟩, ⟨1, some (r15.map AV.f32)⟩, ⟨1, some [AV.i64 r13, AV.i64 r14, AV.oref 1 1 0 r15.length]⟩, ⟨1, some (r18.map AV.f32)⟩, ⟨1, some [AV.i64 r16, AV.i64 r17, AV.oref 3 1 0 r18.length]⟩, ⟨1, some (r22.map AV.f32)⟩, ⟨1, some [AV.i64 r19, AV.i64 r20, AV.oref 5 1 0 r22.length]⟩]) rfl rfl rfl (TOp.loadAgg_o rfl agg40 siz40 rfl rfl rfl rfl) rfl ?_
        refine ROps.d (r := AV.b false) (fs := []) (Γ' := [⟨1, some [AV.i64 r9, AV.i64 r10, AV.sl r12.length (r12.map AV.f32)]⟩, ⟨1, some (r15.map AV.f32)⟩, ⟨1, some [AV.i64 r13, AV.i64 r14, AV.oref 1 1 0 r15.length]⟩, ⟨1, some (r18.map AV.f32)⟩, ⟨1, some [AV.i64 r16, AV.i64 r17, AV.oref 3 1 0 r18.length]⟩, ⟨1, some (r22.map AV.f32)⟩, ⟨1, some [AV.i64 r19, AV.i64 r20, AV.oref 5 1 0 r22.length]⟩]) rfl rfl rfl (TOp.eqb (TOp.callB (CallAs.func ent28 rfl rfl) (Bors.cons (Bor.agg (Bors.cons (Bor.pure rfl) (Bors.cons (Bor.pure rfl) (Bors.cons (Bor.own (f := AV.f32) (fun _ => rfl) rfl rfl) Bors.nil)))) (Bors.cons (Bor.agg (Bors.cons (Bor.pure rfl) (Bors.cons (Bor.pure rfl) (Bors.cons (Bor.sl (fun _ => rfl)) Bors.nil)))) Bors.nil)) rfl rfl (f28_ok r19 r20 r22 r9 r10 r12 r23 hf11)) hc12) rfl ?_
        refine ROps.l (r := AV.b true) rfl rfl rfl (LOp.eqb (LOp.not rfl rfl) rfl) ?_
        refine ROps.l (r := AV.b true) rfl rfl rfl (LOp.move rfl rfl) ?_
        refine ROps.s rfl rfl rfl ?_
        refine ROps.s rfl rfl rfl ?_
        refine ROps.s rfl rfl rfl ?_
        refine ROps.l (r := AV.b true) rfl rfl rfl (LOp.pick_true rfl rfl rfl) ?_
        refine ROps.nil ?_
        refine RunC.cond_true rfl rfl ?_
        refine RunC.seq ?_
        refine RunC.regionW ?_
        refine ROps.l (r := AV.b false) rfl rfl rfl (LOp.assign rfl rfl) ?_
        refine ROps.nil ?_
        refine RunC.ret ?_
        have hq := Option.some.inj h
        subst q0
        exact bodyQ.pure (.inr rfl) rfl (Res.one rfl (RV.tmp rfl))
end Go.Proofs.Ytmgjiomflefedaa
