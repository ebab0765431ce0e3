/- Generated. -/
import Derived.Test.YtmgjiomflefedaaG1p1
namespace Go.Proofs.Ytmgjiomflefedaa
open Go Go.AM
set_option maxRecDepth 20000
set_option maxHeartbeats 4000000
set_option linter.unusedVariables false
set_option linter.unusedSimpArgs false
noncomputable def f7 (a0 : Int) (a1 : Int) (a2 : List F) (a3 : List F) (a4 : List F) (a5 : List F) (a6 : Int) (a7 : Int) (a8 : List Int) : Option (Bool) :=
  obind (f31 a0 a1 a2 a3 a4 a5 a6 a7 a8 1048576) fun (r1 : Int) =>
  bsel (decide (r1 < 0)) (
    some true) (
    obind9 (f33 a0 a1 a2 a3 a4 a5 a6 a7 a8) fun (r2 : Int) (r3 : Int) (r4 : Int) (r5 : Int) (r6 : List F) (r7 : List F) (r8 : List F) (r9 : List F) (r10 : List Int) =>
    obind (f35 r2 r3 r6 r7 r8 r9 r4 r5 r10) fun (r11 : Bool) =>
    obind9 (f33 a0 a1 a2 a3 a4 a5 a6 a7 a8) fun (r12 : Int) (r13 : Int) (r14 : Int) (r15 : Int) (r16 : List F) (r17 : List F) (r18 : List F) (r19 : List F) (r20 : List Int) =>
    obind (f36 r12 r13 r16 r17 r18 r19 r14 r15 r20) fun (r21 : Bool) =>
    bsel (!(r21 == r11)) (
      some false) (
      obind9 (f33 a0 a1 a2 a3 a4 a5 a6 a7 a8) fun (r22 : Int) (r23 : Int) (r24 : Int) (r25 : Int) (r26 : List F) (r27 : List F) (r28 : List F) (r29 : List F) (r30 : List Int) =>
      obind (f21 r12 r13 r16 r17 r18 r19 r14 r15 r20 r22 r23 r26 r27 r28 r29 r24 r25 r30) fun (r31 : Bool) =>
      bsel r31 (
        some true) (
        some false)))
theorem f7_ok (a0 : Int) (a1 : Int) (a2 : List F) (a3 : List F) (a4 : List F) (a5 : List F) (a6 : Int) (a7 : Int) (a8 : List Int) (q0 : Bool) (h : f7 a0 a1 a2 a3 a4 a5 a6 a7 a8 = some q0) : Ev Try.prog 7 [AV.agg [AV.i64 a0, AV.i64 a1, AV.sl a2.length (a2.map AV.f32), AV.sl a3.length (a3.map AV.f32), AV.sl a4.length (a4.map AV.f32), AV.sl a5.length (a5.map AV.f32), AV.i64 a6, AV.i64 a7, AV.sl a8.length (a8.map AV.i64)]] [] (AV.b q0) [] := by
  refine Ev.start Try.func7 rfl rfl 6 (τ := [(0, AV.agg [AV.i64 a0, AV.i64 a1, AV.sl a2.length (a2.map AV.f32), AV.sl a3.length (a3.map AV.f32), AV.sl a4.length (a4.map AV.f32), AV.sl a5.length (a5.map AV.f32), AV.i64 a6, AV.i64 a7, AV.sl a8.length (a8.map AV.i64)])]) rfl (Γ' := [⟨0, none⟩, ⟨0, none⟩, ⟨0, none⟩, ⟨0, none⟩, ⟨0, none⟩, ⟨0, none⟩]) rfl (n := 27) rfl (g := 0) rfl ?_
  unfold f7 at h
  refine RunC.seq ?_
  refine RunC.regionW ?_
  refine ROps.d (r := AV.ptr [AV.i64 a0, AV.i64 a1, AV.sl a2.length (a2.map AV.f32), AV.sl a3.length (a3.map AV.f32), AV.sl a4.length (a4.map AV.f32), AV.sl a5.length (a5.map AV.f32), AV.i64 a6, AV.i64 a7, AV.sl a8.length (a8.map AV.i64)]) (fs := []) (Γ' := [⟨0, none⟩, ⟨0, none⟩, ⟨0, none⟩, ⟨0, none⟩, ⟨0, none⟩, ⟨0, none⟩]) rfl rfl rfl (TOp.box_s rfl rfl rfl) rfl ?_
  refine ROps.l (r := AV.b false) rfl rfl rfl (LOp.assign rfl rfl) ?_
  refine ROps.nil ?_
  refine RunC.seq ?_
  refine RunC.regionW ?_
  refine ROps.l (r := AV.i64 1048576) rfl rfl rfl (LOp.assign rfl rfl) ?_
  refine ROps.nil ?_
  refine RunC.seq ?_
  obtain ⟨r1, hf1, h⟩ := obind_some h
  refine RunC.regionW ?_
  refine ROps.l (r := AV.agg [AV.i64 a0, AV.i64 a1, AV.sl a2.length (a2.map AV.f32), AV.sl a3.length (a3.map AV.f32), AV.sl a4.length (a4.map AV.f32), AV.sl a5.length (a5.map AV.f32), AV.i64 a6, AV.i64 a7, AV.sl a8.length (a8.map AV.i64)]) rfl rfl rfl (LOp.loadAgg agg63 siz63 rfl rfl rfl rfl) ?_
  refine ROps.l (r := AV.i64 1048576) rfl rfl rfl (LOp.move rfl rfl) ?_
  refine ROps.d (r := AV.i64 r1) (fs := []) (Γ' := [⟨0, none⟩, ⟨0, none⟩, ⟨0, none⟩, ⟨0, none⟩, ⟨0, none⟩, ⟨0, none⟩]) rfl rfl rfl (TOp.callB (CallAs.func ent31 rfl rfl) (Bors.cons (Bor.agg (Bors.cons (Bor.pure rfl) (Bors.cons (Bor.pure rfl) (Bors.cons (Bor.sl (fun _ => rfl)) (Bors.cons (Bor.sl (fun _ => rfl)) (Bors.cons (Bor.sl (fun _ => rfl)) (Bors.cons (Bor.sl (fun _ => rfl)) (Bors.cons (Bor.pure rfl) (Bors.cons (Bor.pure rfl) (Bors.cons (Bor.sl (fun _ => rfl)) Bors.nil)))))))))) (Bors.cons (Bor.pure rfl) Bors.nil)) rfl rfl (f31_ok a0 a1 a2 a3 a4 a5 a6 a7 a8 1048576 r1 hf1)) rfl ?_
  refine ROps.l (r := AV.i64 r1) rfl rfl rfl (LOp.assign rfl rfl) ?_
  refine ROps.nil ?_
  refine RunC.seq ?_
  refine RunC.seq ?_
  rcases bsel_some h with ⟨hc2, h⟩ | ⟨hc2, h⟩
  · refine RunC.regionW ?_
    refine ROps.l (r := AV.i64 r1) rfl rfl rfl (LOp.move rfl rfl) ?_
    refine ROps.l (r := AV.b true) rfl rfl rfl (LOp.eqb (LOp.lss rfl rfl rfl) hc2) ?_
    refine ROps.nil ?_
    refine RunC.cond_true rfl rfl ?_
    refine RunC.seq ?_
    refine RunC.regionW ?_
    refine ROps.l (r := AV.b true) rfl rfl rfl (LOp.assign rfl rfl) ?_
    refine ROps.nil ?_
    refine RunC.ret ?_
    have hq := Option.some.inj h
    subst q0
    exact bodyQ.pure (.inr rfl) rfl (Res.one rfl (RV.tmp rfl))
  · refine RunC.regionW ?_
    refine ROps.l (r := AV.i64 r1) rfl rfl rfl (LOp.move rfl rfl) ?_
    refine ROps.l (r := AV.b false) rfl rfl rfl (LOp.eqb (LOp.lss rfl rfl rfl) hc2) ?_
    refine ROps.nil ?_
    refine RunC.cond_false rfl rfl ?_
    refine RunC.skip ?_
    refine RunC.seq ?_
    obtain ⟨r2, r3, r4, r5, r6, r7, r8, r9, r10, hf3, h⟩ := obind9_some h
    obtain ⟨r11, hf4, h⟩ := obind_some h
    refine RunC.regionW ?_
    refine ROps.l (r := AV.agg [AV.i64 a0, AV.i64 a1, AV.sl a2.length (a2.map AV.f32), AV.sl a3.length (a3.map AV.f32), AV.sl a4.length (a4.map AV.f32), AV.sl a5.length (a5.map AV.f32), AV.i64 a6, AV.i64 a7, AV.sl a8.length (a8.map AV.i64)]) rfl rfl rfl (LOp.loadAgg agg63 siz63 rfl rfl rfl rfl) ?_
    refine ROps.d (r := AV.agg [AV.i64 r2, AV.i64 r3, AV.oref 0 1 0 r6.length, AV.oref 1 1 0 r7.length, AV.oref 2 1 0 r8.length, AV.oref 3 1 0 r9.length, AV.i64 r4, AV.i64 r5, AV.oref 4 1 0 r10.length]) (fs := [(0, (r6.map AV.f32)), (1, (r7.map AV.f32)), (2, (r8.map AV.f32)), (3, (r9.map AV.f32)), (4, (r10.map AV.i64))]) (Γ' := [⟨1, some (r6.map AV.f32)⟩, ⟨1, some (r7.map AV.f32)⟩, ⟨1, some (r8.map AV.f32)⟩, ⟨1, some (r9.map AV.f32)⟩, ⟨1, some (r10.map AV.i64)⟩, ⟨0, none⟩]) rfl rfl rfl (TOp.callBN (ls := [(r6.map AV.f32), (r7.map AV.f32), (r8.map AV.f32), (r9.map AV.f32), (r10.map AV.i64)]) [0, 1, 2, 3, 4] (CallAs.func ent33 rfl rfl) (Bors.cons (Bor.agg (Bors.cons (Bor.pure rfl) (Bors.cons (Bor.pure rfl) (Bors.cons (Bor.sl (fun _ => rfl)) (Bors.cons (Bor.sl (fun _ => rfl)) (Bors.cons (Bor.sl (fun _ => rfl)) (Bors.cons (Bor.sl (fun _ => rfl)) (Bors.cons (Bor.pure rfl) (Bors.cons (Bor.pure rfl) (Bors.cons (Bor.sl (fun _ => rfl)) Bors.nil)))))))))) Bors.nil) rfl (f33_ok a0 a1 a2 a3 a4 a5 a6 a7 a8 r2 r3 r4 r5 r6 r7 r8 r9 r10 hf3) (and_all (lts0_map (f := AV.f32) (fun _ => rfl) _) (and_all (lts0_map (f := AV.f32) (fun _ => rfl) _) (and_all (lts0_map (f := AV.f32) (fun _ => rfl) _) (and_all (lts0_map (f := AV.f32) (fun _ => rfl) _) (and_all (lts0_map (f := AV.i64) (fun _ => rfl) _) rfl))))) (and_all (noss_map (f := AV.f32) (fun _ => rfl) _) (and_all (noss_map (f := AV.f32) (fun _ => rfl) _) (and_all (noss_map (f := AV.f32) (fun _ => rfl) _) (and_all (noss_map (f := AV.f32) (fun _ => rfl) _) (and_all (noss_map (f := AV.i64) (fun _ => rfl) _) rfl))))) rfl (by decide) (ns_of ⟨⟨_, rfl⟩, ⟨_, rfl⟩, ⟨_, rfl⟩, ⟨_, rfl⟩, ⟨_, rfl⟩, trivial⟩)) rfl ?_
    refine ROps.d (r := AV.b r11) (fs := []) (Γ' := [⟨1, some (r6.map AV.f32)⟩, ⟨1, some (r7.map AV.f32)⟩, ⟨1, some (r8.map AV.f32)⟩, ⟨1, some (r9.map AV.f32)⟩, ⟨1, some (r10.map AV.i64)⟩, ⟨0, none⟩]) rfl rfl rfl (TOp.callB (CallAs.func ent35 rfl rfl) (Bors.cons (Bor.agg (Bors.cons (Bor.pure rfl) (Bors.cons (Bor.pure rfl) (Bors.cons (Bor.own (f := AV.f32) (fun _ => rfl) rfl rfl) (Bors.cons (Bor.own (f := AV.f32) (fun _ => rfl) rfl rfl) (Bors.cons (Bor.own (f := AV.f32) (fun _ => rfl) rfl rfl) (Bors.cons (Bor.own (f := AV.f32) (fun _ => rfl) rfl rfl) (Bors.cons (Bor.pure rfl) (Bors.cons (Bor.pure rfl) (Bors.cons (Bor.own (f := AV.i64) (fun _ => rfl) rfl rfl) Bors.nil)))))))))) Bors.nil) rfl rfl (f35_ok r2 r3 r6 r7 r8 r9 r4 r5 r10 r11 hf4)) rfl ?_
    refine ROps.l (r := AV.b r11) rfl rfl rfl (LOp.assign rfl rfl) ?_
    refine ROps.nil ?_
    refine RunC.wl (τ' := [(1, AV.ptr [AV.i64 a0, AV.i64 a1, AV.sl a2.length (a2.map AV.f32), AV.sl a3.length (a3.map AV.f32), AV.sl a4.length (a4.map AV.f32), AV.sl a5.length (a5.map AV.f32), AV.i64 a6, AV.i64 a7, AV.sl a8.length (a8.map AV.i64)]), (4, AV.b r11)]) (Γ' := [⟨1, none⟩, ⟨1, none⟩, ⟨1, none⟩, ⟨1, none⟩, ⟨1, none⟩, ⟨0, none⟩]) ⟨(ALe.refl _), (ALe.refl _), trivial⟩ ⟨⟨rfl, .inl rfl⟩, ⟨rfl, .inl rfl⟩, ⟨rfl, .inl rfl⟩, ⟨rfl, .inl rfl⟩, ⟨rfl, .inl rfl⟩, ⟨rfl, .inr rfl⟩, trivial⟩ ?_
    refine RunC.seq ?_
    obtain ⟨r12, r13, r14, r15, r16, r17, r18, r19, r20, hf5, h⟩ := obind9_some h
    refine RunC.regionW ?_
    refine ROps.l (r := AV.agg [AV.i64 a0, AV.i64 a1, AV.sl a2.length (a2.map AV.f32), AV.sl a3.length (a3.map AV.f32), AV.sl a4.length (a4.map AV.f32), AV.sl a5.length (a5.map AV.f32), AV.i64 a6, AV.i64 a7, AV.sl a8.length (a8.map AV.i64)]) rfl rfl rfl (LOp.loadAgg agg63 siz63 rfl rfl rfl rfl) ?_
    refine ROps.d (r := AV.agg [AV.i64 r12, AV.i64 r13, AV.oref 0 2 0 r16.length, AV.oref 1 2 0 r17.length, AV.oref 2 2 0 r18.length, AV.oref 3 2 0 r19.length, AV.i64 r14, AV.i64 r15, AV.oref 4 2 0 r20.length]) (fs := [(0, (r16.map AV.f32)), (1, (r17.map AV.f32)), (2, (r18.map AV.f32)), (3, (r19.map AV.f32)), (4, (r20.map AV.i64))]) (Γ' := [⟨2, some (r16.map AV.f32)⟩, ⟨2, some (r17.map AV.f32)⟩, ⟨2, some (r18.map AV.f32)⟩, ⟨2, some (r19.map AV.f32)⟩, ⟨2, some (r20.map AV.i64)⟩, ⟨0, none⟩]) rfl rfl rfl (TOp.callBN (ls := [(r16.map AV.f32), (r17.map AV.f32), (r18.map AV.f32), (r19.map AV.f32), (r20.map AV.i64)]) [0, 1, 2, 3, 4] (CallAs.func ent33 rfl rfl) (Bors.cons (Bor.agg (Bors.cons (Bor.pure rfl) (Bors.cons (Bor.pure rfl) (Bors.cons (Bor.sl (fun _ => rfl)) (Bors.cons (Bor.sl (fun _ => rfl)) (Bors.cons (Bor.sl (fun _ => rfl)) (Bors.cons (Bor.sl (fun _ => rfl)) (Bors.cons (Bor.pure rfl) (Bors.cons (Bor.pure rfl) (Bors.cons (Bor.sl (fun _ => rfl)) Bors.nil)))))))))) Bors.nil) rfl (f33_ok a0 a1 a2 a3 a4 a5 a6 a7 a8 r12 r13 r14 r15 r16 r17 r18 r19 r20 hf5) (and_all (lts0_map (f := AV.f32) (fun _ => rfl) _) (and_all (lts0_map (f := AV.f32) (fun _ => rfl) _) (and_all (lts0_map (f := AV.f32) (fun _ => rfl) _) (and_all (lts0_map (f := AV.f32) (fun _ => rfl) _) (and_all (lts0_map (f := AV.i64) (fun _ => rfl) _) rfl))))) (and_all (noss_map (f := AV.f32) (fun _ => rfl) _) (and_all (noss_map (f := AV.f32) (fun _ => rfl) _) (and_all (noss_map (f := AV.f32) (fun _ => rfl) _) (and_all (noss_map (f := AV.f32) (fun _ => rfl) _) (and_all (noss_map (f := AV.i64) (fun _ => rfl) _) rfl))))) rfl (by decide) (ns_of ⟨⟨_, rfl⟩, ⟨_, rfl⟩, ⟨_, rfl⟩, ⟨_, rfl⟩, ⟨_, rfl⟩, trivial⟩)) rfl ?_
    refine ROps.d (r := AV.optr 5 1 0) (fs := [(5, [AV.i64 0, AV.i64 0, AV.nilsl, AV.nilsl, AV.nilsl, AV.nilsl, AV.i64 0, AV.i64 0, AV.nilsl])]) (Γ' := [⟨2, some (r16.map AV.f32)⟩, ⟨2, some (r17.map AV.f32)⟩, ⟨2, some (r18.map AV.f32)⟩, ⟨2, some (r19.map AV.f32)⟩, ⟨2, some (r20.map AV.i64)⟩, ⟨1, some [AV.i64 0, AV.i64 0, AV.nilsl, AV.nilsl, AV.nilsl, AV.nilsl, AV.i64 0, AV.i64 0, AV.nilsl]⟩]) rfl rfl rfl (TOp.alloc_o (g := ⟨0, none⟩) 5 rfl zer47 zok47 rfl) rfl ?_
    refine ROps.store_le (r := AV.agg [AV.i64 r12, AV.i64 r13, AV.oref 0 2 0 r16.length, AV.oref 1 2 0 r17.length, AV.oref 2 2 0 r18.length, AV.oref 3 2 0 r19.length, AV.i64 r14, AV.i64 r15, AV.oref 4 2 0 r20.length]) (l' := [AV.i64 r12, AV.i64 r13, AV.oref 0 2 0 r16.length, AV.oref 1 2 0 r17.length, AV.oref 2 2 0 r18.length, AV.oref 3 2 0 r19.length, AV.i64 r14, AV.i64 r15, AV.oref 4 2 0 r20.length]) (Γ' := [⟨2, some (r16.map AV.f32)⟩, ⟨2, some (r17.map AV.f32)⟩, ⟨2, some (r18.map AV.f32)⟩, ⟨2, some (r19.map AV.f32)⟩, ⟨2, some (r20.map AV.i64)⟩, ⟨1, some [AV.i64 r12, AV.i64 r13, AV.oref 0 2 0 r16.length, AV.oref 1 2 0 r17.length, AV.oref 2 2 0 r18.length, AV.oref 3 2 0 r19.length, AV.i64 r14, AV.i64 r15, AV.oref 4 2 0 r20.length]⟩]) rfl siz47 rfl rfl rfl (ALe.refl _) rfl rfl rfl rfl (Nat.le_of_ble_eq_true rfl) rfl rfl ?_
    refine ROps.nil ?_
    refine RunC.seq ?_
    obtain ⟨r21, hf6, h⟩ := obind_some h
    refine RunC.regionW ?_
    refine ROps.d (r := AV.agg [AV.i64 r12, AV.i64 r13, AV.oref 0 2 0 r16.length, AV.oref 1 2 0 r17.length, AV.oref 2 2 0 r18.length, AV.oref 3 2 0 r19.length, AV.i64 r14, AV.i64 r15, AV.oref 4 2 0 r20.length]) (fs := []) (Γ' := [⟨2, some (r16.map AV.f32)⟩, ⟨2, some (r17.map AV.f32)⟩, ⟨2, some (r18.map AV.f32)⟩, ⟨2, some (r19.map AV.f32)⟩, ⟨2, some (r20.map AV.i64)⟩, ⟨1, some [AV.i64 r12, AV.i64 r13, AV.oref 0 2 0 r16.length, AV.oref 1 2 0 r17.length, AV.oref 2 2 0 r18.length, AV.oref 3 2 0 r19.length, AV.i64 r14, AV.i64 r15, AV.oref 4 2 0 r20.length]⟩]) rfl rfl rfl (TOp.loadAgg_o rfl agg47 siz47 rfl rfl rfl rfl) rfl ?_
    refine ROps.d (r := AV.b r21) (fs := []) (Γ' := [⟨2, some (r16.map AV.f32)⟩, ⟨2, some (r17.map AV.f32)⟩, ⟨2, some (r18.map AV.f32)⟩, ⟨2, some (r19.map AV.f32)⟩, ⟨2, some (r20.map AV.i64)⟩, ⟨1, some [AV.i64 r12, AV.i64 r13, AV.oref 0 2 0 r16.length, AV.oref 1 2 0 r17.length, AV.oref 2 2 0 r18.length, AV.oref 3 2 0 r19.length, AV.i64 r14, AV.i64 r15, AV.oref 4 2 0 r20.length]⟩]) rfl rfl rfl (TOp.callB (CallAs.func ent36 rfl rfl) (Bors.cons (Bor.agg (Bors.cons (Bor.pure rfl) (Bors.cons (Bor.pure rfl) (Bors.cons (Bor.own (f := AV.f32) (fun _ => rfl) rfl rfl) (Bors.cons (Bor.own (f := AV.f32) (fun _ => rfl) rfl rfl) (Bors.cons (Bor.own (f := AV.f32) (fun _ => rfl) rfl rfl) (Bors.cons (Bor.own (f := AV.f32) (fun _ => rfl) rfl rfl) (Bors.cons (Bor.pure rfl) (Bors.cons (Bor.pure rfl) (Bors.cons (Bor.own (f := AV.i64) (fun _ => rfl) rfl rfl) Bors.nil)))))))))) Bors.nil) rfl rfl (f36_ok r12 r13 r16 r17 r18 r19 r14 r15 r20 r21 hf6)) rfl ?_
    refine ROps.l (r := AV.b r21) rfl rfl rfl (LOp.assign rfl rfl) ?_
    refine ROps.nil ?_
    refine RunC.seq ?_
    refine RunC.seq ?_
    rcases bsel_some h with ⟨hc7, h⟩ | ⟨hc7, h⟩
    · refine RunC.regionW ?_
      refine ROps.l (r := AV.b r21) rfl rfl rfl (LOp.move rfl rfl) ?_
      refine ROps.l (r := AV.b r11) rfl rfl rfl (LOp.move rfl rfl) ?_
      refine ROps.l (r := AV.b true) rfl rfl rfl (LOp.eqb (LOp.neqb pun4 rfl rfl rfl) hc7) ?_
      refine ROps.nil ?_
      refine RunC.cond_true rfl rfl ?_
      refine RunC.seq ?_
      refine RunC.regionW ?_
      refine ROps.l (r := AV.b false) rfl rfl rfl (LOp.assign rfl rfl) ?_
      refine ROps.nil ?_
      refine RunC.ret ?_
      have hq := Option.some.inj h
      subst q0
      exact bodyQ.pure (.inr rfl) rfl (Res.one rfl (RV.tmp rfl))
    · refine RunC.regionW ?_
      refine ROps.l (r := AV.b r21) rfl rfl rfl (LOp.move rfl rfl) ?_
      refine ROps.l (r := AV.b r11) rfl rfl rfl (LOp.move rfl rfl) ?_
      refine ROps.l (r := AV.b false) rfl rfl rfl (LOp.eqb (LOp.neqb pun4 rfl rfl rfl) hc7) ?_
      refine ROps.nil ?_
      refine RunC.cond_false rfl rfl ?_
      refine RunC.skip ?_
      refine RunC.seq ?_
      refine RunC.seq ?_
      obtain ⟨r22, r23, r24, r25, r26, r27, r28, r29, r30, hf8, h⟩ := obind9_some h
      obtain ⟨r31, hf9, h⟩ := obind_some h
      rcases bsel_some h with ⟨hc10, h⟩ | ⟨hc10, h⟩
      · refine RunC.region_draw (Γ' := [⟨2, some (r16.map AV.f32)⟩, ⟨2, some (r17.map AV.f32)⟩, ⟨2, some (r18.map AV.f32)⟩, ⟨2, some (r19.map AV.f32)⟩, ⟨2, some (r20.map AV.i64)⟩, ⟨1, some [AV.i64 r12, AV.i64 r13, AV.oref 0 2 0 r16.length, AV.oref 1 2 0 r17.length, AV.oref 2 2 0 r18.length, AV.oref 3 2 0 r19.length, AV.i64 r14, AV.i64 r15, AV.oref 4 2 0 r20.length]⟩]) 5 mixed 
          (TR.d (r := AV.agg [AV.i64 r12, AV.i64 r13, AV.oref 0 2 0 r16.length, AV.oref 1 2 0 r17.length, AV.oref 2 2 0 r18.length, AV.oref 3 2 0 r19.length, AV.i64 r14, AV.i64 r15, AV.oref 4 2 0 r20.length]) (fs := []) rfl rfl (TOp.loadAgg_o rfl agg47 siz47 rfl rfl rfl rfl) <|
          (TR.l (r := AV.agg [AV.i64 a0, AV.i64 a1, AV.sl a2.length (a2.map AV.f32), AV.sl a3.length (a3.map AV.f32), AV.sl a4.length (a4.map AV.f32), AV.sl a5.length (a5.map AV.f32), AV.i64 a6, AV.i64 a7, AV.sl a8.length (a8.map AV.i64)]) rfl rfl (LOp.loadAgg agg63 siz63 rfl rfl rfl rfl) <|
          (TR.d (r := AV.agg [AV.i64 r22, AV.i64 r23, AV.sl r26.length (r26.map AV.f32), AV.sl r27.length (r27.map AV.f32), AV.sl r28.length (r28.map AV.f32), AV.sl r29.length (r29.map AV.f32), AV.i64 r24, AV.i64 r25, AV.sl r30.length (r30.map AV.i64)]) (fs := []) rfl rfl (TOp.callS (CallAs.func ent33 rfl rfl) (ALes.cons (ALe.refl _) ALes.nil) (lts_cons (lt_agg (lts_cons rfl (lts_cons rfl (lts_cons (lt_sl (fun _ => rfl)) (lts_cons (lt_sl (fun _ => rfl)) (lts_cons (lt_sl (fun _ => rfl)) (lts_cons (lt_sl (fun _ => rfl)) (lts_cons rfl (lts_cons rfl (lts_cons (lt_sl (fun _ => rfl)) lts_nil)))))))))) lts_nil) (lt_agg (lts_cons rfl (lts_cons rfl (lts_cons (lt_sl (fun _ => rfl)) (lts_cons (lt_sl (fun _ => rfl)) (lts_cons (lt_sl (fun _ => rfl)) (lts_cons (lt_sl (fun _ => rfl)) (lts_cons rfl (lts_cons rfl (lts_cons (lt_sl (fun _ => rfl)) lts_nil)))))))))) (f33_ok a0 a1 a2 a3 a4 a5 a6 a7 a8 r22 r23 r24 r25 r26 r27 r28 r29 r30 hf8) (Bor.agg (Bors.cons (Bor.pure rfl) (Bors.cons (Bor.pure rfl) (Bors.cons (Bor.own (f := AV.f32) (fun _ => rfl) rfl rfl) (Bors.cons (Bor.own (f := AV.f32) (fun _ => rfl) rfl rfl) (Bors.cons (Bor.own (f := AV.f32) (fun _ => rfl) rfl rfl) (Bors.cons (Bor.own (f := AV.f32) (fun _ => rfl) rfl rfl) (Bors.cons (Bor.pure rfl) (Bors.cons (Bor.pure rfl) (Bors.cons (Bor.own (f := AV.i64) (fun _ => rfl) rfl rfl) Bors.nil))))))))))) <|
          (TR.d (r := AV.b true) (fs := []) rfl rfl (TOp.eqb (TOp.callB (CallAs.func ent21 rfl rfl) (Bors.cons (Bor.agg (Bors.cons (Bor.pure rfl) (Bors.cons (Bor.pure rfl) (Bors.cons (Bor.own (f := AV.f32) (fun _ => rfl) rfl rfl) (Bors.cons (Bor.own (f := AV.f32) (fun _ => rfl) rfl rfl) (Bors.cons (Bor.own (f := AV.f32) (fun _ => rfl) rfl rfl) (Bors.cons (Bor.own (f := AV.f32) (fun _ => rfl) rfl rfl) (Bors.cons (Bor.pure rfl) (Bors.cons (Bor.pure rfl) (Bors.cons (Bor.own (f := AV.i64) (fun _ => rfl) rfl rfl) Bors.nil)))))))))) (Bors.cons (Bor.agg (Bors.cons (Bor.pure rfl) (Bors.cons (Bor.pure rfl) (Bors.cons (Bor.sl (fun _ => rfl)) (Bors.cons (Bor.sl (fun _ => rfl)) (Bors.cons (Bor.sl (fun _ => rfl)) (Bors.cons (Bor.sl (fun _ => rfl)) (Bors.cons (Bor.pure rfl) (Bors.cons (Bor.pure rfl) (Bors.cons (Bor.sl (fun _ => rfl)) Bors.nil)))))))))) Bors.nil)) rfl rfl (f21_ok r12 r13 r16 r17 r18 r19 r14 r15 r20 r22 r23 r26 r27 r28 r29 r24 r25 r30 r31 hf9)) hc10) <|
          (TR.l (r := AV.b false) rfl rfl (LOp.eqb (LOp.not rfl rfl) rfl) <|
          TR.nil))))) rfl (by kernel_rfl) rfl fills_nil rfl ?_
        iterate 5 refine ROps.dropS ?_
        refine ROps.drop0 ?_
        refine ROps.nil ?_
        refine RunC.wl (τ' := [(26, AV.b false)]) (Γ' := [⟨2, none⟩, ⟨2, none⟩, ⟨2, none⟩, ⟨2, none⟩, ⟨2, none⟩, ⟨1, none⟩]) ⟨(ALe.refl _), trivial⟩ ⟨⟨rfl, .inl rfl⟩, ⟨rfl, .inl rfl⟩, ⟨rfl, .inl rfl⟩, ⟨rfl, .inl rfl⟩, ⟨rfl, .inl rfl⟩, ⟨rfl, .inl rfl⟩, trivial⟩ ?_
        refine RunC.cond_false rfl rfl ?_
        refine RunC.skip ?_
        refine RunC.seq ?_
        refine RunC.regionW ?_
        refine ROps.l (r := AV.b true) rfl rfl rfl (LOp.assign rfl rfl) ?_
        refine ROps.nil ?_
        refine RunC.ret ?_
        have hq := Option.some.inj h
        subst q0
        exact bodyQ.pure (.inr rfl) rfl (Res.one rfl (RV.tmp rfl))
      · refine RunC.region_draw (Γ' := [⟨2, some (r16.map AV.f32)⟩, ⟨2, some (r17.map AV.f32)⟩, ⟨2, some (r18.map AV.f32)⟩, ⟨2, some (r19.map AV.f32)⟩, ⟨2, some (r20.map AV.i64)⟩, ⟨1, some [AV.i64 r12, AV.i64 r13, AV.oref 0 2 0 r16.length, AV.oref 1 2 0 r17.length, AV.oref 2 2 0 r18.length, AV.oref 3 2 0 r19.length, AV.i64 r14, AV.i64 r15, AV.oref 4 2 0 r20.length]⟩]) 5 mixed 
          (TR.d (r := AV.agg [AV.i64 r12, AV.i64 r13, AV.oref 0 2 0 r16.length, AV.oref 1 2 0 r17.length, AV.oref 2 2 0 r18.length, AV.oref 3 2 0 r19.length, AV.i64 r14, AV.i64 r15, AV.oref 4 2 0 r20.length]) (fs := []) rfl rfl (TOp.loadAgg_o rfl agg47 siz47 rfl rfl rfl rfl) <|
          (TR.l (r := AV.agg [AV.i64 a0, AV.i64 a1, AV.sl a2.length (a2.map AV.f32), AV.sl a3.length (a3.map AV.f32), AV.sl a4.length (a4.map AV.f32), AV.sl a5.length (a5.map AV.f32), AV.i64 a6, AV.i64 a7, AV.sl a8.length (a8.map AV.i64)]) rfl rfl (LOp.loadAgg agg63 siz63 rfl rfl rfl rfl) <|
          (TR.d (r := AV.agg [AV.i64 r22, AV.i64 r23, AV.sl r26.length (r26.map AV.f32), AV.sl r27.length (r27.map AV.f32), AV.sl r28.length (r28.map AV.f32), AV.sl r29.length (r29.map AV.f32), AV.i64 r24, AV.i64 r25, AV.sl r30.length (r30.map AV.i64)]) (fs := []) rfl rfl (TOp.callS (CallAs.func ent33 rfl rfl) (ALes.cons (ALe.refl _) ALes.nil) (lts_cons (lt_agg (lts_cons rfl (lts_cons rfl (lts_cons (lt_sl (fun _ => rfl)) (lts_cons (lt_sl (fun _ => rfl)) (lts_cons (lt_sl (fun _ => rfl)) (lts_cons (lt_sl (fun _ => rfl)) (lts_cons rfl (lts_cons rfl (lts_cons (lt_sl (fun _ => rfl)) lts_nil)))))))))) lts_nil) (lt_agg (lts_cons rfl (lts_cons rfl (lts_cons (lt_sl (fun _ => rfl)) (lts_cons (lt_sl (fun _ => rfl)) (lts_cons (lt_sl (fun _ => rfl)) (lts_cons (lt_sl (fun _ => rfl)) (lts_cons rfl (lts_cons rfl (lts_cons (lt_sl (fun _ => rfl)) lts_nil)))))))))) (f33_ok a0 a1 a2 a3 a4 a5 a6 a7 a8 r22 r23 r24 r25 r26 r27 r28 r29 r30 hf8) (Bor.agg (Bors.cons (Bor.pure rfl) (Bors.cons (Bor.pure rfl) (Bors.cons (Bor.own (f := AV.f32) (fun _ => rfl) rfl rfl) (Bors.cons (Bor.own (f := AV.f32) (fun _ => rfl) rfl rfl) (Bors.cons (Bor.own (f := AV.f32) (fun _ => rfl) rfl rfl) (Bors.cons (Bor.own (f := AV.f32) (fun _ => rfl) rfl rfl) (Bors.cons (Bor.pure rfl) (Bors.cons (Bor.pure rfl) (Bors.cons (Bor.own (f := AV.i64) (fun _ => rfl) rfl rfl) Bors.nil))))))))))) <|
          (TR.d (r := AV.b false) (fs := []) rfl rfl (TOp.eqb (TOp.callB (CallAs.func ent21 rfl rfl) (Bors.cons (Bor.agg (Bors.cons (Bor.pure rfl) (Bors.cons (Bor.pure rfl) (Bors.cons (Bor.own (f := AV.f32) (fun _ => rfl) rfl rfl) (Bors.cons (Bor.own (f := AV.f32) (fun _ => rfl) rfl rfl) (Bors.cons (Bor.own (f := AV.f32) (fun _ => rfl) rfl rfl) (Bors.cons (Bor.own (f := AV.f32) (fun _ => rfl) rfl rfl) (Bors.cons (Bor.pure rfl) (Bors.cons (Bor.pure rfl) (Bors.cons (Bor.own (f := AV.i64) (fun _ => rfl) rfl rfl) Bors.nil)))))))))) (Bors.cons (Bor.agg (Bors.cons (Bor.pure rfl) (Bors.cons (Bor.pure rfl) (Bors.cons (Bor.sl (fun _ => rfl)) (Bors.cons (Bor.sl (fun _ => rfl)) (Bors.cons (Bor.sl (fun _ => rfl)) (Bors.cons (Bor.sl (fun _ => rfl)) (Bors.cons (Bor.pure rfl) (Bors.cons (Bor.pure rfl) (Bors.cons (Bor.sl (fun _ => rfl)) Bors.nil)))))))))) Bors.nil)) rfl rfl (f21_ok r12 r13 r16 r17 r18 r19 r14 r15 r20 r22 r23 r26 r27 r28 r29 r24 r25 r30 r31 hf9)) hc10) <|
          (TR.l (r := AV.b true) rfl rfl (LOp.eqb (LOp.not rfl rfl) rfl) <|
          TR.nil))))) rfl (by kernel_rfl) rfl fills_nil rfl ?_
        iterate 5 refine ROps.dropS ?_
        refine ROps.drop0 ?_
        refine ROps.nil ?_
        refine RunC.wl (τ' := [(26, AV.b true)]) (Γ' := [⟨2, none⟩, ⟨2, none⟩, ⟨2, none⟩, ⟨2, none⟩, ⟨2, none⟩, ⟨1, none⟩]) ⟨(ALe.refl _), trivial⟩ ⟨⟨rfl, .inl rfl⟩, ⟨rfl, .inl rfl⟩, ⟨rfl, .inl rfl⟩, ⟨rfl, .inl rfl⟩, ⟨rfl, .inl rfl⟩, ⟨rfl, .inl rfl⟩, trivial⟩ ?_
        refine RunC.cond_true rfl rfl ?_
        refine RunC.seq ?_
        refine RunC.regionW ?_
        refine ROps.l (r := AV.b false) rfl rfl rfl (LOp.assign rfl rfl) ?_
        refine ROps.nil ?_
        refine RunC.ret ?_
        have hq := Option.some.inj h
        subst q0
        exact bodyQ.pure (.inr rfl) rfl (Res.one rfl (RV.tmp rfl))
end Go.Proofs.Ytmgjiomflefedaa
