/- Generated. -/
import Derived.Test.YtcoookgeialmnaaG2
namespace Go.Proofs.Ytcoookgeialmnaa
open Go Go.AM
set_option maxRecDepth 20000
set_option maxHeartbeats 4000000
set_option linter.unusedVariables false
set_option linter.unusedSimpArgs false
noncomputable def w_FnExactSparseGradient (a0 : Int) (a1 : List Int) (a2 : List Int) (a3 : List F) (a4 : List F) (a5 : F) (a6 : Int) : Option (Bool) :=
  bsel (decide (1048576 < (a4.length : Int))) (
    some true) (
    obind (w_szSparse a0 a1 a2 a3 1048576) fun (r1 : Int) =>
    bsel (decide (r1 < 0)) (
      some true) (
      obind4 (w_toSparse a0 a1 a2 a3) fun (r2 : Int) (r3 : List Int) (r4 : List Int) (r5 : List F) =>
      obind (w_toFloat32S a4) fun (r6 : List F) =>
      obind3 (s_SparseGradient r2 r3 r4 r5 r6 a5 a6) fun (r7 : Int) (r8 : Bool) (r9 : List F) =>
      obind4 (w_toSparse a0 a1 a2 a3) fun (r10 : Int) (r11 : List Int) (r12 : List Int) (r13 : List F) =>
      obind (w_toFloat32S a4) fun (r14 : List F) =>
      obind3 (i_SparseGradient r10 r11 r12 r13 r14 a5 a6) fun (r15 : Int) (r16 : Bool) (r17 : List F) =>
      obind (w_eqFloat32S r17 r9) fun (r18 : Bool) =>
      bsel r18 (
        bsel (!decide (r15 = r7)) (
          some false) (
          bsel (!(r16 == r8)) (
            some false) (
            obind4 (w_toSparse a0 a1 a2 a3) fun (r19 : Int) (r20 : List Int) (r21 : List Int) (r22 : List F) =>
            obind (w_eqSparse r10 r11 r12 r13 r19 r20 r21 r22) fun (r23 : Bool) =>
            bsel r23 (
              obind (w_toFloat32S a4) fun (r24 : List F) =>
              obind (w_eqFloat32S r14 r24) fun (r25 : Bool) =>
              bsel r25 (
                obind4 (w_markSparse_01o_02o1_03o2 r10 1 r11 r12 r13) fun (r26 : Int) (r27 : List Int) (r28 : List Int) (r29 : List F) =>
                need (decide (r27.length = r11.length)) <|
                need (decide (r28.length = r12.length)) <|
                need (decide (r29.length = r13.length)) <|
                obind2 (w_markFloat32S_0o r26 r14) fun (r30 : Int) (r31 : List F) =>
                need (decide (r31.length = r14.length)) <|
                bsel (decide (r30 < 0)) (
                  some false) (
                  obind (w_eqFloat32S r17 r9) fun (r32 : Bool) =>
                  bsel r32 (
                    obind2 (w_markFloat32S_0o 1 r17) fun (r33 : Int) (r34 : List F) =>
                    need (decide (r34.length = r17.length)) <|
                    obind (w_heldFloat32S r34 1) fun (r35 : Int) =>
                    bsel (decide (r35 < 0)) (
                      some false) (
                      bsel (!decide (r35 = r33)) (
                        some false) (
                        obind4 (w_toSparse a0 a1 a2 a3) fun (r36 : Int) (r37 : List Int) (r38 : List Int) (r39 : List F) =>
                        obind (w_toFloat32S a4) fun (r40 : List F) =>
                        obind3 (i_SparseGradient r36 r37 r38 r39 r40 a5 a6) fun (r41 : Int) (r42 : Bool) (r43 : List F) =>
                        obind (w_eqFloat32S r43 r9) fun (r44 : Bool) =>
                        bsel r44 (
                          bsel (!decide (r41 = r7)) (
                            some false) (
                            bsel (!(r42 == r8)) (
                              some false) (
                              obind (w_heldFloat32S r34 1) fun (r45 : Int) =>
                              bsel (decide (r45 < 0)) (
                                some false) (
                                bsel (!decide (r45 = r33)) (
                                  some false) (
                                  some true))))) (
                          some false)))) (
                    some false))) (
                some false)) (
              some false)))) (
        some false)))
theorem w_FnExactSparseGradient_ok (a0 : Int) (a1 : List Int) (a2 : List Int) (a3 : List F) (a4 : List F) (a5 : F) (a6 : Int) (q0 : Bool) (h : w_FnExactSparseGradient a0 a1 a2 a3 a4 a5 a6 = some q0) : Ev Try.prog 3 [AV.agg [AV.i64 a0, AV.sl a1.length (a1.map AV.i64), AV.sl a2.length (a2.map AV.i64), AV.sl a3.length (a3.map AV.f32)], AV.sl a4.length (a4.map AV.f32), AV.f32 a5, AV.i64 a6] [] (AV.b q0) [] := by
  refine Ev.start Try.func3 rfl rfl 8 (τ := [(0, AV.agg [AV.i64 a0, AV.sl a1.length (a1.map AV.i64), AV.sl a2.length (a2.map AV.i64), AV.sl a3.length (a3.map AV.f32)]), (1, AV.sl a4.length (a4.map AV.f32)), (2, AV.f32 a5), (3, AV.i64 a6)]) rfl (Γ' := [⟨0, none⟩, ⟨0, none⟩, ⟨0, none⟩, ⟨0, none⟩, ⟨0, none⟩, ⟨0, none⟩, ⟨0, none⟩, ⟨0, none⟩]) rfl (n := 297) rfl (g := 0) rfl (fun _ => rfl) ?_
  unfold w_FnExactSparseGradient at h
  refine RunC.seq ?_
  refine RunC.regionW ?_
  refine ROps.d (r := AV.ptr [AV.i64 a0, AV.sl a1.length (a1.map AV.i64), AV.sl a2.length (a2.map AV.i64), AV.sl a3.length (a3.map AV.f32)]) (fs := []) (Γ' := [⟨0, none⟩, ⟨0, none⟩, ⟨0, none⟩, ⟨0, none⟩, ⟨0, none⟩, ⟨0, none⟩, ⟨0, none⟩, ⟨0, none⟩]) rfl rfl rfl (TOp.box_s rfl rfl rfl) rfl ?_
  refine ROps.l (r := AV.b false) rfl rfl rfl (LOp.assign rfl rfl) ?_
  refine ROps.nil ?_
  refine RunC.seq ?_
  refine RunC.seq ?_
  rcases bsel_some h with ⟨hc1, h⟩ | ⟨hc1, h⟩
  · refine RunC.regionW ?_
    refine ROps.l (r := AV.sl a4.length (a4.map AV.f32)) rfl rfl rfl (LOp.move rfl rfl) ?_
    refine ROps.l (r := AV.i64 (a4.length : Int)) rfl rfl rfl (LOp.len_sl und23 rfl rfl) ?_
    refine ROps.l (r := AV.b true) rfl rfl rfl (LOp.eqb (LOp.gtr rfl rfl rfl) hc1) ?_
    refine ROps.nil ?_
    refine RunC.cond_true rfl rfl ?_
    refine RunC.seq ?_
    refine RunC.regionW ?_
    refine ROps.l (r := AV.b true) rfl rfl rfl (LOp.assign rfl rfl) ?_
    refine ROps.nil ?_
    refine RunC.ret ?_
    have hq := Option.some.inj h
    subst q0
    exact bodyQ.pure (.inr rfl) rfl (Res.one rfl (RV.tmp rfl))
  · refine RunC.regionW ?_
    refine ROps.l (r := AV.sl a4.length (a4.map AV.f32)) rfl rfl rfl (LOp.move rfl rfl) ?_
    refine ROps.l (r := AV.i64 (a4.length : Int)) rfl rfl rfl (LOp.len_sl und23 rfl rfl) ?_
    refine ROps.l (r := AV.b false) rfl rfl rfl (LOp.eqb (LOp.gtr rfl rfl rfl) hc1) ?_
    refine ROps.nil ?_
    refine RunC.cond_false rfl rfl ?_
    refine RunC.skip ?_
    refine RunC.seq ?_
    refine RunC.regionW ?_
    refine ROps.l (r := AV.i64 1048576) rfl rfl rfl (LOp.assign rfl rfl) ?_
    refine ROps.nil ?_
    refine RunC.seq ?_
    obtain ⟨r1, hf2, h⟩ := obind_some h
    refine RunC.regionW ?_
    refine ROps.l (r := AV.agg [AV.i64 a0, AV.sl a1.length (a1.map AV.i64), AV.sl a2.length (a2.map AV.i64), AV.sl a3.length (a3.map AV.f32)]) rfl rfl rfl (LOp.loadAgg agg25 siz25 rfl rfl rfl rfl) ?_
    refine ROps.l (r := AV.i64 1048576) rfl rfl rfl (LOp.move rfl rfl) ?_
    refine ROps.d (r := AV.i64 r1) (fs := []) (Γ' := [⟨0, none⟩, ⟨0, none⟩, ⟨0, none⟩, ⟨0, none⟩, ⟨0, none⟩, ⟨0, none⟩, ⟨0, none⟩, ⟨0, none⟩]) rfl rfl rfl (TOp.callB (CallAs.func ent7 rfl rfl) (Bors.cons (Bor.agg (Bors.cons (Bor.pure rfl) (Bors.cons (Bor.sl (fun _ => rfl)) (Bors.cons (Bor.sl (fun _ => rfl)) (Bors.cons (Bor.sl (fun _ => rfl)) Bors.nil))))) (Bors.cons (Bor.pure rfl) Bors.nil)) rfl rfl (w_szSparse_ok a0 a1 a2 a3 1048576 r1 hf2)) rfl ?_
    refine ROps.l (r := AV.i64 r1) rfl rfl rfl (LOp.assign rfl rfl) ?_
    refine ROps.nil ?_
    refine RunC.seq ?_
    refine RunC.seq ?_
    rcases bsel_some h with ⟨hc3, h⟩ | ⟨hc3, h⟩
    · refine RunC.regionW ?_
      refine ROps.l (r := AV.i64 r1) rfl rfl rfl (LOp.move rfl rfl) ?_
      refine ROps.l (r := AV.b true) rfl rfl rfl (LOp.eqb (LOp.lss rfl rfl rfl) hc3) ?_
      refine ROps.nil ?_
      refine RunC.cond_true rfl rfl ?_
      refine RunC.seq ?_
      refine RunC.regionW ?_
      refine ROps.l (r := AV.b true) rfl rfl rfl (LOp.assign rfl rfl) ?_
      refine ROps.nil ?_
      refine RunC.ret ?_
      have hq := Option.some.inj h
      subst q0
      exact bodyQ.pure (.inr rfl) rfl (Res.one rfl (RV.tmp rfl))
    · refine RunC.regionW ?_
      refine ROps.l (r := AV.i64 r1) rfl rfl rfl (LOp.move rfl rfl) ?_
      refine ROps.l (r := AV.b false) rfl rfl rfl (LOp.eqb (LOp.lss rfl rfl rfl) hc3) ?_
      refine ROps.nil ?_
      refine RunC.cond_false rfl rfl ?_
      refine RunC.skip ?_
      refine RunC.seq ?_
      obtain ⟨r2, r3, r4, r5, hf4, h⟩ := obind4_some h
      obtain ⟨r6, hf5, h⟩ := obind_some h
      obtain ⟨r7, r8, r9, hf6, h⟩ := obind3_some h
      refine RunC.regionW ?_
      refine ROps.l (r := AV.agg [AV.i64 a0, AV.sl a1.length (a1.map AV.i64), AV.sl a2.length (a2.map AV.i64), AV.sl a3.length (a3.map AV.f32)]) rfl rfl rfl (LOp.loadAgg agg25 siz25 rfl rfl rfl rfl) ?_
      refine ROps.d (r := AV.agg [AV.i64 r2, AV.oref 0 1 0 r3.length, AV.oref 1 1 0 r4.length, AV.oref 2 1 0 r5.length]) (fs := [(0, (r3.map AV.i64)), (1, (r4.map AV.i64)), (2, (r5.map AV.f32))]) (Γ' := [⟨1, some (r3.map AV.i64)⟩, ⟨1, some (r4.map AV.i64)⟩, ⟨1, some (r5.map AV.f32)⟩, ⟨0, none⟩, ⟨0, none⟩, ⟨0, none⟩, ⟨0, none⟩, ⟨0, none⟩]) rfl rfl rfl (TOp.callBN (ls := [(r3.map AV.i64), (r4.map AV.i64), (r5.map AV.f32)]) [0, 1, 2] (CallAs.func ent9 rfl rfl) (Bors.cons (Bor.agg (Bors.cons (Bor.pure rfl) (Bors.cons (Bor.sl (fun _ => rfl)) (Bors.cons (Bor.sl (fun _ => rfl)) (Bors.cons (Bor.sl (fun _ => rfl)) Bors.nil))))) Bors.nil) rfl (w_toSparse_ok a0 a1 a2 a3 r2 r3 r4 r5 hf4) (and_all (lts0_map (f := AV.i64) (fun _ => rfl) _) (and_all (lts0_map (f := AV.i64) (fun _ => rfl) _) (and_all (lts0_map (f := AV.f32) (fun _ => rfl) _) rfl))) (and_all (noss_map (f := AV.i64) (fun _ => rfl) _) (and_all (noss_map (f := AV.i64) (fun _ => rfl) _) (and_all (noss_map (f := AV.f32) (fun _ => rfl) _) rfl))) rfl (by decide) (ns_of ⟨⟨_, rfl⟩, ⟨_, rfl⟩, ⟨_, rfl⟩, trivial⟩)) rfl ?_
      refine ROps.l (r := AV.sl a4.length (a4.map AV.f32)) rfl rfl rfl (LOp.move rfl rfl) ?_
      refine ROps.d (r := AV.oref 3 1 0 r6.length) (fs := [(3, (r6.map AV.f32))]) (Γ' := [⟨1, some (r3.map AV.i64)⟩, ⟨1, some (r4.map AV.i64)⟩, ⟨1, some (r5.map AV.f32)⟩, ⟨1, some (r6.map AV.f32)⟩, ⟨0, none⟩, ⟨0, none⟩, ⟨0, none⟩, ⟨0, none⟩]) rfl rfl rfl (TOp.callBN (ls := [(r6.map AV.f32)]) [3] (CallAs.func ent10 rfl rfl) (Bors.cons (Bor.sl (fun _ => rfl)) Bors.nil) rfl (w_toFloat32S_ok a4 r6 hf5) (and_all (lts0_map (f := AV.f32) (fun _ => rfl) _) rfl) (and_all (noss_map (f := AV.f32) (fun _ => rfl) _) rfl) rfl (by decide) (ns_of ⟨⟨_, rfl⟩, trivial⟩)) rfl ?_
      refine ROps.l (r := AV.f32 a5) rfl rfl rfl (LOp.move rfl rfl) ?_
      refine ROps.l (r := AV.i64 a6) rfl rfl rfl (LOp.move rfl rfl) ?_
      refine ROps.d (r := AV.tup [AV.oref 4 1 0 r9.length, AV.i64 r7, AV.b r8]) (fs := [(4, (r9.map AV.f32))]) (Γ' := [⟨1, some (r3.map AV.i64)⟩, ⟨1, some (r4.map AV.i64)⟩, ⟨1, some (r5.map AV.f32)⟩, ⟨1, some (r6.map AV.f32)⟩, ⟨1, some (r9.map AV.f32)⟩, ⟨0, none⟩, ⟨0, none⟩, ⟨0, none⟩]) rfl rfl rfl (TOp.callBN (ls := [(r9.map AV.f32)]) [4] (CallAs.func ent8 rfl rfl) (Bors.cons (Bor.agg (Bors.cons (Bor.pure rfl) (Bors.cons (Bor.own (f := AV.i64) (fun _ => rfl) rfl rfl) (Bors.cons (Bor.own (f := AV.i64) (fun _ => rfl) rfl rfl) (Bors.cons (Bor.own (f := AV.f32) (fun _ => rfl) rfl rfl) Bors.nil))))) (Bors.cons (Bor.own (f := AV.f32) (fun _ => rfl) rfl rfl) (Bors.cons (Bor.pure rfl) (Bors.cons (Bor.pure rfl) Bors.nil)))) rfl (s_SparseGradient_ok r2 r3 r4 r5 r6 a5 a6 r7 r8 r9 hf6) (and_all (lts0_map (f := AV.f32) (fun _ => rfl) _) rfl) (and_all (noss_map (f := AV.f32) (fun _ => rfl) _) rfl) rfl (by decide) (ns_of ⟨⟨_, rfl⟩, trivial⟩)) rfl ?_
      refine ROps.l (r := AV.tup [AV.oref 4 1 0 r9.length, AV.i64 r7, AV.b r8]) rfl rfl rfl (LOp.move rfl rfl) ?_
      refine ROps.l (r := AV.oref 4 1 0 r9.length) rfl rfl rfl (LOp.extract rfl rfl rfl) ?_
      refine ROps.l (r := AV.i64 r7) rfl rfl rfl (LOp.extract rfl rfl rfl) ?_
      refine ROps.l (r := AV.b r8) rfl rfl rfl (LOp.extract rfl rfl rfl) ?_
      refine ROps.l (r := AV.oref 4 1 0 r9.length) rfl rfl rfl (LOp.assign rfl rfl) ?_
      refine ROps.l (r := AV.i64 r7) rfl rfl rfl (LOp.assign rfl rfl) ?_
      refine ROps.l (r := AV.b r8) rfl rfl rfl (LOp.assign rfl rfl) ?_
      refine ROps.nil ?_
      refine RunC.wl (τ' := [(1, AV.sl a4.length (a4.map AV.f32)), (2, AV.f32 a5), (3, AV.i64 a6), (4, AV.ptr [AV.i64 a0, AV.sl a1.length (a1.map AV.i64), AV.sl a2.length (a2.map AV.i64), AV.sl a3.length (a3.map AV.f32)]), (10, AV.oref 4 1 0 r9.length), (11, AV.i64 r7), (12, AV.b r8)]) (Γ' := [⟨1, none⟩, ⟨1, none⟩, ⟨1, none⟩, ⟨1, none⟩, ⟨1, some (r9.map AV.f32)⟩, ⟨0, none⟩, ⟨0, none⟩, ⟨0, none⟩]) ⟨(ALe.refl _), (ALe.refl _), (ALe.refl _), (ALe.refl _), (ALe.refl _), (ALe.refl _), (ALe.refl _), trivial⟩ ⟨⟨rfl, .inl rfl⟩, ⟨rfl, .inl rfl⟩, ⟨rfl, .inl rfl⟩, ⟨rfl, .inl rfl⟩, ⟨rfl, .inr rfl⟩, ⟨rfl, .inr rfl⟩, ⟨rfl, .inr rfl⟩, ⟨rfl, .inr rfl⟩, trivial⟩ ?_
      refine RunC.seq ?_
      obtain ⟨r10, r11, r12, r13, hf7, h⟩ := obind4_some h
      refine RunC.regionW ?_
      refine ROps.l (r := AV.agg [AV.i64 a0, AV.sl a1.length (a1.map AV.i64), AV.sl a2.length (a2.map AV.i64), AV.sl a3.length (a3.map AV.f32)]) rfl rfl rfl (LOp.loadAgg agg25 siz25 rfl rfl rfl rfl) ?_
      refine ROps.d (r := AV.agg [AV.i64 r10, AV.oref 0 2 0 r11.length, AV.oref 1 2 0 r12.length, AV.oref 2 2 0 r13.length]) (fs := [(0, (r11.map AV.i64)), (1, (r12.map AV.i64)), (2, (r13.map AV.f32))]) (Γ' := [⟨2, some (r11.map AV.i64)⟩, ⟨2, some (r12.map AV.i64)⟩, ⟨2, some (r13.map AV.f32)⟩, ⟨1, none⟩, ⟨1, some (r9.map AV.f32)⟩, ⟨0, none⟩, ⟨0, none⟩, ⟨0, none⟩]) rfl rfl rfl (TOp.callBN (ls := [(r11.map AV.i64), (r12.map AV.i64), (r13.map AV.f32)]) [0, 1, 2] (CallAs.func ent9 rfl rfl) (Bors.cons (Bor.agg (Bors.cons (Bor.pure rfl) (Bors.cons (Bor.sl (fun _ => rfl)) (Bors.cons (Bor.sl (fun _ => rfl)) (Bors.cons (Bor.sl (fun _ => rfl)) Bors.nil))))) Bors.nil) rfl (w_toSparse_ok a0 a1 a2 a3 r10 r11 r12 r13 hf7) (and_all (lts0_map (f := AV.i64) (fun _ => rfl) _) (and_all (lts0_map (f := AV.i64) (fun _ => rfl) _) (and_all (lts0_map (f := AV.f32) (fun _ => rfl) _) rfl))) (and_all (noss_map (f := AV.i64) (fun _ => rfl) _) (and_all (noss_map (f := AV.i64) (fun _ => rfl) _) (and_all (noss_map (f := AV.f32) (fun _ => rfl) _) rfl))) rfl (by decide) (ns_of ⟨⟨_, rfl⟩, ⟨_, rfl⟩, ⟨_, rfl⟩, trivial⟩)) rfl ?_
      refine ROps.d (r := AV.optr 3 2 0) (fs := [(3, [AV.i64 0, AV.nilsl, AV.nilsl, AV.nilsl])]) (Γ' := [⟨2, some (r11.map AV.i64)⟩, ⟨2, some (r12.map AV.i64)⟩, ⟨2, some (r13.map AV.f32)⟩, ⟨2, some [AV.i64 0, AV.nilsl, AV.nilsl, AV.nilsl]⟩, ⟨1, some (r9.map AV.f32)⟩, ⟨0, none⟩, ⟨0, none⟩, ⟨0, none⟩]) rfl rfl rfl (TOp.alloc_o (g := ⟨1, none⟩) 3 rfl zer30 zok30 rfl) rfl ?_
      refine ROps.store_le (r := AV.agg [AV.i64 r10, AV.oref 0 2 0 r11.length, AV.oref 1 2 0 r12.length, AV.oref 2 2 0 r13.length]) (l' := [AV.i64 r10, AV.oref 0 2 0 r11.length, AV.oref 1 2 0 r12.length, AV.oref 2 2 0 r13.length]) (Γ' := [⟨2, some (r11.map AV.i64)⟩, ⟨2, some (r12.map AV.i64)⟩, ⟨2, some (r13.map AV.f32)⟩, ⟨2, some [AV.i64 r10, AV.oref 0 2 0 r11.length, AV.oref 1 2 0 r12.length, AV.oref 2 2 0 r13.length]⟩, ⟨1, some (r9.map AV.f32)⟩, ⟨0, none⟩, ⟨0, none⟩, ⟨0, none⟩]) rfl siz30 rfl rfl rfl (ALe.refl _) rfl rfl rfl rfl (Nat.le_of_ble_eq_true rfl) rfl rfl ?_
      refine ROps.nil ?_
      refine RunC.seq ?_
      obtain ⟨r14, hf8, h⟩ := obind_some h
      refine RunC.regionW ?_
      refine ROps.l (r := AV.sl a4.length (a4.map AV.f32)) rfl rfl rfl (LOp.move rfl rfl) ?_
      refine ROps.d (r := AV.oref 5 1 0 r14.length) (fs := [(5, (r14.map AV.f32))]) (Γ' := [⟨2, some (r11.map AV.i64)⟩, ⟨2, some (r12.map AV.i64)⟩, ⟨2, some (r13.map AV.f32)⟩, ⟨2, some [AV.i64 r10, AV.oref 0 2 0 r11.length, AV.oref 1 2 0 r12.length, AV.oref 2 2 0 r13.length]⟩, ⟨1, some (r9.map AV.f32)⟩, ⟨1, some (r14.map AV.f32)⟩, ⟨0, none⟩, ⟨0, none⟩]) rfl rfl rfl (TOp.callBN (ls := [(r14.map AV.f32)]) [5] (CallAs.func ent10 rfl rfl) (Bors.cons (Bor.sl (fun _ => rfl)) Bors.nil) rfl (w_toFloat32S_ok a4 r14 hf8) (and_all (lts0_map (f := AV.f32) (fun _ => rfl) _) rfl) (and_all (noss_map (f := AV.f32) (fun _ => rfl) _) rfl) rfl (by decide) (ns_of ⟨⟨_, rfl⟩, trivial⟩)) rfl ?_
      refine ROps.l (r := AV.oref 5 1 0 r14.length) rfl rfl rfl (LOp.assign rfl rfl) ?_
      refine ROps.nil ?_
      refine RunC.seq ?_
      obtain ⟨r15, r16, r17, hf9, h⟩ := obind3_some h
      refine RunC.regionW ?_
      refine ROps.d (r := AV.agg [AV.i64 r10, AV.oref 0 2 0 r11.length, AV.oref 1 2 0 r12.length, AV.oref 2 2 0 r13.length]) (fs := []) (Γ' := [⟨2, some (r11.map AV.i64)⟩, ⟨2, some (r12.map AV.i64)⟩, ⟨2, some (r13.map AV.f32)⟩, ⟨2, some [AV.i64 r10, AV.oref 0 2 0 r11.length, AV.oref 1 2 0 r12.length, AV.oref 2 2 0 r13.length]⟩, ⟨1, some (r9.map AV.f32)⟩, ⟨1, some (r14.map AV.f32)⟩, ⟨0, none⟩, ⟨0, none⟩]) rfl rfl rfl (TOp.loadAgg_o rfl agg30 siz30 rfl rfl rfl rfl) rfl ?_
      refine ROps.l (r := AV.oref 5 1 0 r14.length) rfl rfl rfl (LOp.move rfl rfl) ?_
      refine ROps.l (r := AV.f32 a5) rfl rfl rfl (LOp.move rfl rfl) ?_
      refine ROps.l (r := AV.i64 a6) rfl rfl rfl (LOp.move rfl rfl) ?_
      refine ROps.d (r := AV.tup [AV.oref 6 1 0 r17.length, AV.i64 r15, AV.b r16]) (fs := [(6, (r17.map AV.f32))]) (Γ' := [⟨2, some (r11.map AV.i64)⟩, ⟨2, some (r12.map AV.i64)⟩, ⟨2, some (r13.map AV.f32)⟩, ⟨2, some [AV.i64 r10, AV.oref 0 2 0 r11.length, AV.oref 1 2 0 r12.length, AV.oref 2 2 0 r13.length]⟩, ⟨1, some (r9.map AV.f32)⟩, ⟨1, some (r14.map AV.f32)⟩, ⟨1, some (r17.map AV.f32)⟩, ⟨0, none⟩]) rfl rfl rfl (TOp.callBN (ls := [(r17.map AV.f32)]) [6] (CallAs.func ent11 rfl rfl) (Bors.cons (Bor.agg (Bors.cons (Bor.pure rfl) (Bors.cons (Bor.own (f := AV.i64) (fun _ => rfl) rfl rfl) (Bors.cons (Bor.own (f := AV.i64) (fun _ => rfl) rfl rfl) (Bors.cons (Bor.own (f := AV.f32) (fun _ => rfl) rfl rfl) Bors.nil))))) (Bors.cons (Bor.own (f := AV.f32) (fun _ => rfl) rfl rfl) (Bors.cons (Bor.pure rfl) (Bors.cons (Bor.pure rfl) Bors.nil)))) rfl (i_SparseGradient_ok r10 r11 r12 r13 r14 a5 a6 r15 r16 r17 hf9) (and_all (lts0_map (f := AV.f32) (fun _ => rfl) _) rfl) (and_all (noss_map (f := AV.f32) (fun _ => rfl) _) rfl) rfl (by decide) (ns_of ⟨⟨_, rfl⟩, trivial⟩)) rfl ?_
      refine ROps.l (r := AV.tup [AV.oref 6 1 0 r17.length, AV.i64 r15, AV.b r16]) rfl rfl rfl (LOp.move rfl rfl) ?_
      refine ROps.l (r := AV.oref 6 1 0 r17.length) rfl rfl rfl (LOp.extract rfl rfl rfl) ?_
      refine ROps.l (r := AV.i64 r15) rfl rfl rfl (LOp.extract rfl rfl rfl) ?_
      refine ROps.l (r := AV.b r16) rfl rfl rfl (LOp.extract rfl rfl rfl) ?_
      refine ROps.l (r := AV.oref 6 1 0 r17.length) rfl rfl rfl (LOp.assign rfl rfl) ?_
      refine ROps.l (r := AV.i64 r15) rfl rfl rfl (LOp.assign rfl rfl) ?_
      refine ROps.l (r := AV.b r16) rfl rfl rfl (LOp.assign rfl rfl) ?_
      refine ROps.nil ?_
      refine RunC.seq ?_
      refine RunC.seq ?_
      obtain ⟨r18, hf10, h⟩ := obind_some h
      rcases bsel_some h with ⟨hc11, h⟩ | ⟨hc11, h⟩
      · rcases bsel_some h with ⟨hc12, h⟩ | ⟨hc12, h⟩
        · refine RunC.regionW ?_
          refine ROps.l (r := AV.oref 6 1 0 r17.length) rfl rfl rfl (LOp.move rfl rfl) ?_
          refine ROps.l (r := AV.oref 4 1 0 r9.length) rfl rfl rfl (LOp.move rfl rfl) ?_
          refine ROps.d (r := AV.b true) (fs := []) (Γ' := [⟨2, some (r11.map AV.i64)⟩, ⟨2, some (r12.map AV.i64)⟩, ⟨2, some (r13.map AV.f32)⟩, ⟨2, some [AV.i64 r10, AV.oref 0 2 0 r11.length, AV.oref 1 2 0 r12.length, AV.oref 2 2 0 r13.length]⟩, ⟨1, some (r9.map AV.f32)⟩, ⟨1, some (r14.map AV.f32)⟩, ⟨1, some (r17.map AV.f32)⟩, ⟨0, none⟩]) rfl rfl rfl (TOp.eqb (TOp.callB (CallAs.func ent12 rfl rfl) (Bors.cons (Bor.own (f := AV.f32) (fun _ => rfl) rfl rfl) (Bors.cons (Bor.own (f := AV.f32) (fun _ => rfl) rfl rfl) Bors.nil)) rfl rfl (w_eqFloat32S_ok r17 r9 r18 hf10)) hc11) rfl ?_
          refine ROps.l (r := AV.b false) rfl rfl rfl (LOp.eqb (LOp.not rfl rfl) rfl) ?_
          refine ROps.l (r := AV.b false) rfl rfl rfl (LOp.move rfl rfl) ?_
          refine ROps.l (r := AV.i64 r15) rfl rfl rfl (LOp.move rfl rfl) ?_
          refine ROps.l (r := AV.i64 r7) rfl rfl rfl (LOp.move rfl rfl) ?_
          refine ROps.l (r := AV.b true) rfl rfl rfl (LOp.eqb (LOp.neq rfl rfl rfl) hc12) ?_
          refine ROps.l (r := AV.b true) rfl rfl rfl (LOp.pick_false rfl rfl rfl) ?_
          refine ROps.l (r := AV.b true) rfl rfl rfl (LOp.move rfl rfl) ?_
          refine ROps.s rfl rfl rfl ?_
          refine ROps.s rfl rfl rfl ?_
          refine ROps.s rfl rfl rfl ?_
          refine ROps.l (r := AV.b true) rfl rfl rfl (LOp.pick_true rfl rfl rfl) ?_
          refine ROps.nil ?_
          refine RunC.cond_true rfl rfl ?_
          refine RunC.seq ?_
          refine RunC.regionW ?_
          refine ROps.l (r := AV.b false) rfl rfl rfl (LOp.assign rfl rfl) ?_
          refine ROps.nil ?_
          refine RunC.ret ?_
          have hq := Option.some.inj h
          subst q0
          exact bodyQ.pure (.inr rfl) rfl (Res.one rfl (RV.tmp rfl))
        · rcases bsel_some h with ⟨hc13, h⟩ | ⟨hc13, h⟩
          · refine RunC.regionW ?_
            refine ROps.l (r := AV.oref 6 1 0 r17.length) rfl rfl rfl (LOp.move rfl rfl) ?_
            refine ROps.l (r := AV.oref 4 1 0 r9.length) rfl rfl rfl (LOp.move rfl rfl) ?_
            refine ROps.d (r := AV.b true) (fs := []) (Γ' := [⟨2, some (r11.map AV.i64)⟩, ⟨2, some (r12.map AV.i64)⟩, ⟨2, some (r13.map AV.f32)⟩, ⟨2, some [AV.i64 r10, AV.oref 0 2 0 r11.length, AV.oref 1 2 0 r12.length, AV.oref 2 2 0 r13.length]⟩, ⟨1, some (r9.map AV.f32)⟩, ⟨1, some (r14.map AV.f32)⟩, ⟨1, some (r17.map AV.f32)⟩, ⟨0, none⟩]) rfl rfl rfl (TOp.eqb (TOp.callB (CallAs.func ent12 rfl rfl) (Bors.cons (Bor.own (f := AV.f32) (fun _ => rfl) rfl rfl) (Bors.cons (Bor.own (f := AV.f32) (fun _ => rfl) rfl rfl) Bors.nil)) rfl rfl (w_eqFloat32S_ok r17 r9 r18 hf10)) hc11) rfl ?_
            refine ROps.l (r := AV.b false) rfl rfl rfl (LOp.eqb (LOp.not rfl rfl) rfl) ?_
            refine ROps.l (r := AV.b false) rfl rfl rfl (LOp.move rfl rfl) ?_
            refine ROps.l (r := AV.i64 r15) rfl rfl rfl (LOp.move rfl rfl) ?_
            refine ROps.l (r := AV.i64 r7) rfl rfl rfl (LOp.move rfl rfl) ?_
            refine ROps.l (r := AV.b false) rfl rfl rfl (LOp.eqb (LOp.neq rfl rfl rfl) hc12) ?_
            refine ROps.l (r := AV.b false) rfl rfl rfl (LOp.pick_false rfl rfl rfl) ?_
            refine ROps.l (r := AV.b false) rfl rfl rfl (LOp.move rfl rfl) ?_
            refine ROps.l (r := AV.b r16) rfl rfl rfl (LOp.move rfl rfl) ?_
            refine ROps.l (r := AV.b r8) rfl rfl rfl (LOp.move rfl rfl) ?_
            refine ROps.l (r := AV.b true) rfl rfl rfl (LOp.eqb (LOp.neqb pun4 rfl rfl rfl) hc13) ?_
            refine ROps.l (r := AV.b true) rfl rfl rfl (LOp.pick_false rfl rfl rfl) ?_
            refine ROps.nil ?_
            refine RunC.cond_true rfl rfl ?_
            refine RunC.seq ?_
            refine RunC.regionW ?_
            refine ROps.l (r := AV.b false) rfl rfl rfl (LOp.assign rfl rfl) ?_
            refine ROps.nil ?_
            refine RunC.ret ?_
            have hq := Option.some.inj h
            subst q0
            exact bodyQ.pure (.inr rfl) rfl (Res.one rfl (RV.tmp rfl))
          · refine RunC.regionW ?_
            refine ROps.l (r := AV.oref 6 1 0 r17.length) rfl rfl rfl (LOp.move rfl rfl) ?_
            refine ROps.l (r := AV.oref 4 1 0 r9.length) rfl rfl rfl (LOp.move rfl rfl) ?_
            refine ROps.d (r := AV.b true) (fs := []) (Γ' := [⟨2, some (r11.map AV.i64)⟩, ⟨2, some (r12.map AV.i64)⟩, ⟨2, some (r13.map AV.f32)⟩, ⟨2, some [AV.i64 r10, AV.oref 0 2 0 r11.length, AV.oref 1 2 0 r12.length, AV.oref 2 2 0 r13.length]⟩, ⟨1, some (r9.map AV.f32)⟩, ⟨1, some (r14.map AV.f32)⟩, ⟨1, some (r17.map AV.f32)⟩, ⟨0, none⟩]) rfl rfl rfl (TOp.eqb (TOp.callB (CallAs.func ent12 rfl rfl) (Bors.cons (Bor.own (f := AV.f32) (fun _ => rfl) rfl rfl) (Bors.cons (Bor.own (f := AV.f32) (fun _ => rfl) rfl rfl) Bors.nil)) rfl rfl (w_eqFloat32S_ok r17 r9 r18 hf10)) hc11) rfl ?_
            refine ROps.l (r := AV.b false) rfl rfl rfl (LOp.eqb (LOp.not rfl rfl) rfl) ?_
            refine ROps.l (r := AV.b false) rfl rfl rfl (LOp.move rfl rfl) ?_
            refine ROps.l (r := AV.i64 r15) rfl rfl rfl (LOp.move rfl rfl) ?_
            refine ROps.l (r := AV.i64 r7) rfl rfl rfl (LOp.move rfl rfl) ?_
            refine ROps.l (r := AV.b false) rfl rfl rfl (LOp.eqb (LOp.neq rfl rfl rfl) hc12) ?_
            refine ROps.l (r := AV.b false) rfl rfl rfl (LOp.pick_false rfl rfl rfl) ?_
            refine ROps.l (r := AV.b false) rfl rfl rfl (LOp.move rfl rfl) ?_
            refine ROps.l (r := AV.b r16) rfl rfl rfl (LOp.move rfl rfl) ?_
            refine ROps.l (r := AV.b r8) rfl rfl rfl (LOp.move rfl rfl) ?_
            refine ROps.l (r := AV.b false) rfl rfl rfl (LOp.eqb (LOp.neqb pun4 rfl rfl rfl) hc13) ?_
            refine ROps.l (r := AV.b false) rfl rfl rfl (LOp.pick_false rfl rfl rfl) ?_
            refine ROps.nil ?_
            refine RunC.cond_false rfl rfl ?_
            refine RunC.skip ?_
            refine RunC.seq ?_
            refine RunC.seq ?_
            obtain ⟨r19, r20, r21, r22, hf14, h⟩ := obind4_some h
            obtain ⟨r23, hf15, h⟩ := obind_some h
            rcases bsel_some h with ⟨hc16, h⟩ | ⟨hc16, h⟩
            · refine RunC.region_draw (Γ' := [⟨2, some (r11.map AV.i64)⟩, ⟨2, some (r12.map AV.i64)⟩, ⟨2, some (r13.map AV.f32)⟩, ⟨2, some [AV.i64 r10, AV.oref 0 2 0 r11.length, AV.oref 1 2 0 r12.length, AV.oref 2 2 0 r13.length]⟩, ⟨1, some (r9.map AV.f32)⟩, ⟨1, some (r14.map AV.f32)⟩, ⟨1, some (r17.map AV.f32)⟩, ⟨0, none⟩]) 5 mixed 
                (TR.d (r := AV.agg [AV.i64 r10, AV.oref 0 2 0 r11.length, AV.oref 1 2 0 r12.length, AV.oref 2 2 0 r13.length]) (fs := []) rfl rfl (TOp.loadAgg_o rfl agg30 siz30 rfl rfl rfl rfl) <|
                (TR.l (r := AV.agg [AV.i64 a0, AV.sl a1.length (a1.map AV.i64), AV.sl a2.length (a2.map AV.i64), AV.sl a3.length (a3.map AV.f32)]) rfl rfl (LOp.loadAgg agg25 siz25 rfl rfl rfl rfl) <|
                (TR.d (r := AV.agg [AV.i64 r19, AV.sl r20.length (r20.map AV.i64), AV.sl r21.length (r21.map AV.i64), AV.sl r22.length (r22.map AV.f32)]) (fs := []) rfl rfl (TOp.callS (CallAs.func ent9 rfl rfl) (ALes.cons (ALe.refl _) ALes.nil) (lts_cons (lt_agg (lts_cons rfl (lts_cons (lt_sl (fun _ => rfl)) (lts_cons (lt_sl (fun _ => rfl)) (lts_cons (lt_sl (fun _ => rfl)) lts_nil))))) lts_nil) (lt_agg (lts_cons rfl (lts_cons (lt_sl (fun _ => rfl)) (lts_cons (lt_sl (fun _ => rfl)) (lts_cons (lt_sl (fun _ => rfl)) lts_nil))))) (w_toSparse_ok a0 a1 a2 a3 r19 r20 r21 r22 hf14) (Bor.agg (Bors.cons (Bor.pure rfl) (Bors.cons (Bor.own (f := AV.i64) (fun _ => rfl) rfl rfl) (Bors.cons (Bor.own (f := AV.i64) (fun _ => rfl) rfl rfl) (Bors.cons (Bor.own (f := AV.f32) (fun _ => rfl) rfl rfl) Bors.nil)))))) <|
                (TR.d (r := AV.b true) (fs := []) rfl rfl (TOp.eqb (TOp.callB (CallAs.func ent13 rfl rfl) (Bors.cons (Bor.agg (Bors.cons (Bor.pure rfl) (Bors.cons (Bor.own (f := AV.i64) (fun _ => rfl) rfl rfl) (Bors.cons (Bor.own (f := AV.i64) (fun _ => rfl) rfl rfl) (Bors.cons (Bor.own (f := AV.f32) (fun _ => rfl) rfl rfl) Bors.nil))))) (Bors.cons (Bor.agg (Bors.cons (Bor.pure rfl) (Bors.cons (Bor.sl (fun _ => rfl)) (Bors.cons (Bor.sl (fun _ => rfl)) (Bors.cons (Bor.sl (fun _ => rfl)) Bors.nil))))) Bors.nil)) rfl rfl (w_eqSparse_ok r10 r11 r12 r13 r19 r20 r21 r22 r23 hf15)) hc16) <|
                (TR.l (r := AV.b false) rfl rfl (LOp.eqb (LOp.not rfl rfl) rfl) <|
                TR.nil))))) rfl (by kernel_rfl) rfl fills_nil rfl ?_
              iterate 5 refine ROps.dropS ?_
              refine ROps.drop0 ?_
              refine ROps.nil ?_
              refine RunC.wl (τ' := [(1, AV.sl a4.length (a4.map AV.f32)), (2, AV.f32 a5), (3, AV.i64 a6), (4, AV.ptr [AV.i64 a0, AV.sl a1.length (a1.map AV.i64), AV.sl a2.length (a2.map AV.i64), AV.sl a3.length (a3.map AV.f32)]), (10, AV.oref 4 1 0 r9.length), (11, AV.i64 r7), (12, AV.b r8), (13, AV.optr 3 2 0), (14, AV.oref 5 1 0 r14.length), (15, AV.oref 6 1 0 r17.length), (16, AV.i64 r15), (17, AV.b r16), (74, AV.b false)]) (Γ' := [⟨2, some (r11.map AV.i64)⟩, ⟨2, some (r12.map AV.i64)⟩, ⟨2, some (r13.map AV.f32)⟩, ⟨2, some [AV.i64 r10, AV.oref 0 2 0 r11.length, AV.oref 1 2 0 r12.length, AV.oref 2 2 0 r13.length]⟩, ⟨1, some (r9.map AV.f32)⟩, ⟨1, some (r14.map AV.f32)⟩, ⟨1, some (r17.map AV.f32)⟩, ⟨0, none⟩]) ⟨(ALe.refl _), (ALe.refl _), (ALe.refl _), (ALe.refl _), (ALe.refl _), (ALe.refl _), (ALe.refl _), (ALe.refl _), (ALe.refl _), (ALe.refl _), (ALe.refl _), (ALe.refl _), (ALe.refl _), trivial⟩ ⟨⟨rfl, .inr rfl⟩, ⟨rfl, .inr rfl⟩, ⟨rfl, .inr rfl⟩, ⟨rfl, .inr rfl⟩, ⟨rfl, .inr rfl⟩, ⟨rfl, .inr rfl⟩, ⟨rfl, .inr rfl⟩, ⟨rfl, .inr rfl⟩, trivial⟩ ?_
              refine RunC.cond_false rfl rfl ?_
              refine RunC.skip ?_
              refine RunC.seq ?_
              refine RunC.seq ?_
              obtain ⟨r24, hf17, h⟩ := obind_some h
              obtain ⟨r25, hf18, h⟩ := obind_some h
              rcases bsel_some h with ⟨hc19, h⟩ | ⟨hc19, h⟩
              · refine RunC.regionW ?_
                refine ROps.l (r := AV.oref 5 1 0 r14.length) rfl rfl rfl (LOp.move rfl rfl) ?_
                refine ROps.l (r := AV.sl a4.length (a4.map AV.f32)) rfl rfl rfl (LOp.move rfl rfl) ?_
                refine ROps.d (r := AV.oref 7 1 0 r24.length) (fs := [(7, (r24.map AV.f32))]) (Γ' := [⟨2, some (r11.map AV.i64)⟩, ⟨2, some (r12.map AV.i64)⟩, ⟨2, some (r13.map AV.f32)⟩, ⟨2, some [AV.i64 r10, AV.oref 0 2 0 r11.length, AV.oref 1 2 0 r12.length, AV.oref 2 2 0 r13.length]⟩, ⟨1, some (r9.map AV.f32)⟩, ⟨1, some (r14.map AV.f32)⟩, ⟨1, some (r17.map AV.f32)⟩, ⟨1, some (r24.map AV.f32)⟩]) rfl rfl rfl (TOp.callBN (ls := [(r24.map AV.f32)]) [7] (CallAs.func ent10 rfl rfl) (Bors.cons (Bor.sl (fun _ => rfl)) Bors.nil) rfl (w_toFloat32S_ok a4 r24 hf17) (and_all (lts0_map (f := AV.f32) (fun _ => rfl) _) rfl) (and_all (noss_map (f := AV.f32) (fun _ => rfl) _) rfl) rfl (by decide) (ns_of ⟨⟨_, rfl⟩, trivial⟩)) rfl ?_
                refine ROps.d (r := AV.b true) (fs := []) (Γ' := [⟨2, some (r11.map AV.i64)⟩, ⟨2, some (r12.map AV.i64)⟩, ⟨2, some (r13.map AV.f32)⟩, ⟨2, some [AV.i64 r10, AV.oref 0 2 0 r11.length, AV.oref 1 2 0 r12.length, AV.oref 2 2 0 r13.length]⟩, ⟨1, some (r9.map AV.f32)⟩, ⟨1, some (r14.map AV.f32)⟩, ⟨1, some (r17.map AV.f32)⟩, ⟨1, some (r24.map AV.f32)⟩]) rfl rfl rfl (TOp.eqb (TOp.callB (CallAs.func ent12 rfl rfl) (Bors.cons (Bor.own (f := AV.f32) (fun _ => rfl) rfl rfl) (Bors.cons (Bor.own (f := AV.f32) (fun _ => rfl) rfl rfl) Bors.nil)) rfl rfl (w_eqFloat32S_ok r14 r24 r25 hf18)) hc19) rfl ?_
                refine ROps.l (r := AV.b false) rfl rfl rfl (LOp.eqb (LOp.not rfl rfl) rfl) ?_
                refine ROps.nil ?_
                refine RunC.wl (τ' := [(1, AV.sl a4.length (a4.map AV.f32)), (2, AV.f32 a5), (3, AV.i64 a6), (4, AV.ptr [AV.i64 a0, AV.sl a1.length (a1.map AV.i64), AV.sl a2.length (a2.map AV.i64), AV.sl a3.length (a3.map AV.f32)]), (10, AV.oref 4 1 0 r9.length), (11, AV.i64 r7), (12, AV.b r8), (13, AV.optr 3 2 0), (14, AV.oref 5 1 0 r14.length), (15, AV.oref 6 1 0 r17.length), (16, AV.i64 r15), (17, AV.b r16), (79, AV.b false)]) (Γ' := [⟨2, some (r11.map AV.i64)⟩, ⟨2, some (r12.map AV.i64)⟩, ⟨2, some (r13.map AV.f32)⟩, ⟨2, some [AV.i64 r10, AV.oref 0 2 0 r11.length, AV.oref 1 2 0 r12.length, AV.oref 2 2 0 r13.length]⟩, ⟨1, some (r9.map AV.f32)⟩, ⟨1, some (r14.map AV.f32)⟩, ⟨1, some (r17.map AV.f32)⟩, ⟨1, none⟩]) ⟨(ALe.refl _), (ALe.refl _), (ALe.refl _), (ALe.refl _), (ALe.refl _), (ALe.refl _), (ALe.refl _), (ALe.refl _), (ALe.refl _), (ALe.refl _), (ALe.refl _), (ALe.refl _), (ALe.refl _), trivial⟩ ⟨⟨rfl, .inr rfl⟩, ⟨rfl, .inr rfl⟩, ⟨rfl, .inr rfl⟩, ⟨rfl, .inr rfl⟩, ⟨rfl, .inr rfl⟩, ⟨rfl, .inr rfl⟩, ⟨rfl, .inr rfl⟩, ⟨rfl, .inl rfl⟩, trivial⟩ ?_
                refine RunC.cond_false rfl rfl ?_
                refine RunC.skip ?_
                refine RunC.seq ?_
                refine RunC.regionW ?_
                refine ROps.l (r := AV.i64 1) rfl rfl rfl (LOp.assign rfl rfl) ?_
                refine ROps.nil ?_
                refine RunC.seq ?_
                obtain ⟨r26, r27, r28, r29, hf20, h⟩ := obind4_some h
                obtain ⟨hn21, h⟩ := need_some h
                obtain ⟨hn22, h⟩ := need_some h
                obtain ⟨hn23, h⟩ := need_some h
                refine RunC.regionW ?_
                refine ROps.d (r := AV.agg [AV.i64 r10, AV.oref 0 2 0 r11.length, AV.oref 1 2 0 r12.length, AV.oref 2 2 0 r13.length]) (fs := []) (Γ' := [⟨2, some (r11.map AV.i64)⟩, ⟨2, some (r12.map AV.i64)⟩, ⟨2, some (r13.map AV.f32)⟩, ⟨2, some [AV.i64 r10, AV.oref 0 2 0 r11.length, AV.oref 1 2 0 r12.length, AV.oref 2 2 0 r13.length]⟩, ⟨1, some (r9.map AV.f32)⟩, ⟨1, some (r14.map AV.f32)⟩, ⟨1, some (r17.map AV.f32)⟩, ⟨1, none⟩]) rfl rfl rfl (TOp.loadAgg_o rfl agg30 siz30 rfl rfl rfl rfl) rfl ?_
                refine ROps.l (r := AV.i64 1) rfl rfl rfl (LOp.move rfl rfl) ?_
                refine ROps.callO (A := [AV.agg [AV.i64 r10, AV.oref 0 2 0 r11.length, AV.oref 1 2 0 r12.length, AV.oref 2 2 0 r13.length], AV.i64 1]) (args := [AV.agg [AV.i64 r10, AV.oref 0 0 0 r11.length, AV.oref 1 0 0 r12.length, AV.oref 2 0 0 r13.length], AV.i64 1]) (Γc := [⟨0, some (r11.map AV.i64)⟩, ⟨0, some (r12.map AV.i64)⟩, ⟨0, some (r13.map AV.f32)⟩]) (Γc' := [⟨0, some (r27.map AV.i64)⟩, ⟨0, some (r28.map AV.i64)⟩, ⟨0, some (r29.map AV.f32)⟩]) (r' := AV.i64 r26) (Γ' := [⟨2, some (r27.map AV.i64)⟩, ⟨2, some (r28.map AV.i64)⟩, ⟨2, some (r29.map AV.f32)⟩, ⟨2, some [AV.i64 r10, AV.oref 0 2 0 r11.length, AV.oref 1 2 0 r12.length, AV.oref 2 2 0 r13.length]⟩, ⟨1, some (r9.map AV.f32)⟩, ⟨1, some (r14.map AV.f32)⟩, ⟨1, some (r17.map AV.f32)⟩, ⟨1, none⟩]) [(0, 2), (1, 2), (2, 2)] [] rfl (CallAs.func ent14 rfl rfl) rfl rfl (SelOk.of (show List.Nodup [0, 1, 2] from by decide) (SelL.arr0 (f := AV.i64) (fun _ => rfl) rfl (SelL.arr0 (f := AV.i64) (fun _ => rfl) rfl (SelL.arr0 (f := AV.f32) (fun _ => rfl) rfl trivial)))) (live_of ⟨⟨_, _, rfl⟩, ⟨_, _, rfl⟩, ⟨_, _, rfl⟩, trivial⟩) (by simp [AV.ren, AV.rens, sigma, rens_f32, rens_f64, rens_i64, rens_ik, rens_str, rens_cp]) rfl (w_markSparse_01o_02o1_03o2_ok r10 1 r11 r12 r13 r26 r27 r28 r29 hf20) rfl (news_of trivial) (show List.Nodup [0, 1, 2] from by decide) (by simp [AV.ren, AV.rens, sigma, of_decide_eq_true hn21, of_decide_eq_true hn22, of_decide_eq_true hn23]) (by simp [backOb, sigma, AV.ren, AV.rens, rens_f32, rens_f64, rens_i64, rens_ik, rens_str, rens_cp]) ?_
                refine ROps.l (r := AV.i64 r26) rfl rfl rfl (LOp.assign rfl rfl) ?_
                refine ROps.nil ?_
                refine RunC.wl (τ' := [(1, AV.sl a4.length (a4.map AV.f32)), (2, AV.f32 a5), (3, AV.i64 a6), (4, AV.ptr [AV.i64 a0, AV.sl a1.length (a1.map AV.i64), AV.sl a2.length (a2.map AV.i64), AV.sl a3.length (a3.map AV.f32)]), (10, AV.oref 4 1 0 r9.length), (11, AV.i64 r7), (12, AV.b r8), (14, AV.oref 5 1 0 r14.length), (15, AV.oref 6 1 0 r17.length), (16, AV.i64 r15), (17, AV.b r16), (18, AV.i64 r26)]) (Γ' := [⟨2, none⟩, ⟨2, none⟩, ⟨2, none⟩, ⟨2, none⟩, ⟨1, some (r9.map AV.f32)⟩, ⟨1, some (r14.map AV.f32)⟩, ⟨1, some (r17.map AV.f32)⟩, ⟨1, none⟩]) ⟨(ALe.refl _), (ALe.refl _), (ALe.refl _), (ALe.refl _), (ALe.refl _), (ALe.refl _), (ALe.refl _), (ALe.refl _), (ALe.refl _), (ALe.refl _), (ALe.refl _), (ALe.refl _), trivial⟩ ⟨⟨rfl, .inl rfl⟩, ⟨rfl, .inl rfl⟩, ⟨rfl, .inl rfl⟩, ⟨rfl, .inl rfl⟩, ⟨rfl, .inr rfl⟩, ⟨rfl, .inr rfl⟩, ⟨rfl, .inr rfl⟩, ⟨rfl, .inl rfl⟩, trivial⟩ ?_
                refine RunC.seq ?_
                obtain ⟨r30, r31, hf24, h⟩ := obind2_some h
                obtain ⟨hn25, h⟩ := need_some h
                refine RunC.regionW ?_
                refine ROps.l (r := AV.oref 5 1 0 r14.length) rfl rfl rfl (LOp.move rfl rfl) ?_
                refine ROps.l (r := AV.i64 r26) rfl rfl rfl (LOp.move rfl rfl) ?_
                refine ROps.callO (A := [AV.oref 5 1 0 r14.length, AV.i64 r26]) (args := [AV.oref 0 0 0 r14.length, AV.i64 r26]) (Γc := [⟨0, some (r14.map AV.f32)⟩]) (Γc' := [⟨0, some (r31.map AV.f32)⟩]) (r' := AV.i64 r30) (Γ' := [⟨2, none⟩, ⟨2, none⟩, ⟨2, none⟩, ⟨2, none⟩, ⟨1, some (r9.map AV.f32)⟩, ⟨1, some (r31.map AV.f32)⟩, ⟨1, some (r17.map AV.f32)⟩, ⟨1, none⟩]) [(5, 1)] [] rfl (CallAs.func ent15 rfl rfl) rfl rfl (SelOk.of (show List.Nodup [5] from by decide) (SelL.arr0 (f := AV.f32) (fun _ => rfl) rfl trivial)) (live_of ⟨⟨_, _, rfl⟩, trivial⟩) (by simp [AV.ren, AV.rens, sigma, rens_f32, rens_f64, rens_i64, rens_ik, rens_str, rens_cp]) rfl (w_markFloat32S_0o_ok r26 r14 r30 r31 hf24) rfl (news_of trivial) (show List.Nodup [5] from by decide) (by simp [AV.ren, AV.rens, sigma, of_decide_eq_true hn25]) (by simp [backOb, sigma, AV.ren, AV.rens, rens_f32, rens_f64, rens_i64, rens_ik, rens_str, rens_cp]) ?_
                refine ROps.l (r := AV.i64 r30) rfl rfl rfl (LOp.assign rfl rfl) ?_
                refine ROps.nil ?_
                refine RunC.wl (τ' := [(1, AV.sl a4.length (a4.map AV.f32)), (2, AV.f32 a5), (3, AV.i64 a6), (4, AV.ptr [AV.i64 a0, AV.sl a1.length (a1.map AV.i64), AV.sl a2.length (a2.map AV.i64), AV.sl a3.length (a3.map AV.f32)]), (10, AV.oref 4 1 0 r9.length), (11, AV.i64 r7), (12, AV.b r8), (15, AV.oref 6 1 0 r17.length), (16, AV.i64 r15), (17, AV.b r16), (18, AV.i64 r30)]) (Γ' := [⟨2, none⟩, ⟨2, none⟩, ⟨2, none⟩, ⟨2, none⟩, ⟨1, some (r9.map AV.f32)⟩, ⟨1, none⟩, ⟨1, some (r17.map AV.f32)⟩, ⟨1, none⟩]) ⟨(ALe.refl _), (ALe.refl _), (ALe.refl _), (ALe.refl _), (ALe.refl _), (ALe.refl _), (ALe.refl _), (ALe.refl _), (ALe.refl _), (ALe.refl _), (ALe.refl _), trivial⟩ ⟨⟨rfl, .inl rfl⟩, ⟨rfl, .inl rfl⟩, ⟨rfl, .inl rfl⟩, ⟨rfl, .inl rfl⟩, ⟨rfl, .inr rfl⟩, ⟨rfl, .inl rfl⟩, ⟨rfl, .inr rfl⟩, ⟨rfl, .inl rfl⟩, trivial⟩ ?_
                refine RunC.seq ?_
                refine RunC.seq ?_
                rcases bsel_some h with ⟨hc26, h⟩ | ⟨hc26, h⟩
                · refine RunC.regionW ?_
                  refine ROps.l (r := AV.i64 r30) rfl rfl rfl (LOp.move rfl rfl) ?_
                  refine ROps.l (r := AV.b true) rfl rfl rfl (LOp.eqb (LOp.lss rfl rfl rfl) hc26) ?_
                  refine ROps.l (r := AV.b true) rfl rfl rfl (LOp.move rfl rfl) ?_
                  refine ROps.s rfl rfl rfl ?_
                  refine ROps.s rfl rfl rfl ?_
                  refine ROps.s rfl rfl rfl ?_
                  refine ROps.s rfl rfl rfl ?_
                  refine ROps.l (r := AV.b true) rfl rfl rfl (LOp.pick_true rfl rfl rfl) ?_
                  refine ROps.l (r := AV.b true) rfl rfl rfl (LOp.move rfl rfl) ?_
                  refine ROps.s rfl rfl rfl ?_
                  refine ROps.s rfl rfl rfl ?_
                  refine ROps.s rfl rfl rfl ?_
                  refine ROps.l (r := AV.b true) rfl rfl rfl (LOp.pick_true rfl rfl rfl) ?_
                  refine ROps.l (r := AV.b true) rfl rfl rfl (LOp.move rfl rfl) ?_
                  refine ROps.s rfl rfl rfl ?_
                  refine ROps.s rfl rfl rfl ?_
                  refine ROps.s rfl rfl rfl ?_
                  refine ROps.l (r := AV.b true) rfl rfl rfl (LOp.pick_true rfl rfl rfl) ?_
                  refine ROps.nil ?_
                  refine RunC.wl (τ' := [(1, AV.sl a4.length (a4.map AV.f32)), (2, AV.f32 a5), (3, AV.i64 a6), (4, AV.ptr [AV.i64 a0, AV.sl a1.length (a1.map AV.i64), AV.sl a2.length (a2.map AV.i64), AV.sl a3.length (a3.map AV.f32)]), (10, AV.oref 4 1 0 r9.length), (11, AV.i64 r7), (12, AV.b r8), (15, AV.oref 6 1 0 r17.length), (103, AV.b true)]) (Γ' := [⟨2, none⟩, ⟨2, none⟩, ⟨2, none⟩, ⟨2, none⟩, ⟨1, some (r9.map AV.f32)⟩, ⟨1, none⟩, ⟨1, some (r17.map AV.f32)⟩, ⟨1, none⟩]) ⟨(ALe.refl _), (ALe.refl _), (ALe.refl _), (ALe.refl _), (ALe.refl _), (ALe.refl _), (ALe.refl _), (ALe.refl _), (ALe.refl _), trivial⟩ ⟨⟨rfl, .inl rfl⟩, ⟨rfl, .inl rfl⟩, ⟨rfl, .inl rfl⟩, ⟨rfl, .inl rfl⟩, ⟨rfl, .inr rfl⟩, ⟨rfl, .inl rfl⟩, ⟨rfl, .inr rfl⟩, ⟨rfl, .inl rfl⟩, trivial⟩ ?_
                  refine RunC.cond_true rfl rfl ?_
                  refine RunC.seq ?_
                  refine RunC.regionW ?_
                  refine ROps.l (r := AV.b false) rfl rfl rfl (LOp.assign rfl rfl) ?_
                  refine ROps.nil ?_
                  refine RunC.ret ?_
                  have hq := Option.some.inj h
                  subst q0
                  exact bodyQ.pure (.inr rfl) rfl (Res.one rfl (RV.tmp rfl))
                · obtain ⟨r32, hf27, h⟩ := obind_some h
                  rcases bsel_some h with ⟨hc28, h⟩ | ⟨hc28, h⟩
                  · refine RunC.regionW ?_
                    refine ROps.l (r := AV.i64 r30) rfl rfl rfl (LOp.move rfl rfl) ?_
                    refine ROps.l (r := AV.b false) rfl rfl rfl (LOp.eqb (LOp.lss rfl rfl rfl) hc26) ?_
                    refine ROps.l (r := AV.b false) rfl rfl rfl (LOp.move rfl rfl) ?_
                    refine ROps.l (r := AV.oref 6 1 0 r17.length) rfl rfl rfl (LOp.move rfl rfl) ?_
                    refine ROps.l (r := AV.oref 4 1 0 r9.length) rfl rfl rfl (LOp.move rfl rfl) ?_
                    refine ROps.d (r := AV.b true) (fs := []) (Γ' := [⟨2, none⟩, ⟨2, none⟩, ⟨2, none⟩, ⟨2, none⟩, ⟨1, some (r9.map AV.f32)⟩, ⟨1, none⟩, ⟨1, some (r17.map AV.f32)⟩, ⟨1, none⟩]) rfl rfl rfl (TOp.eqb (TOp.callB (CallAs.func ent12 rfl rfl) (Bors.cons (Bor.own (f := AV.f32) (fun _ => rfl) rfl rfl) (Bors.cons (Bor.own (f := AV.f32) (fun _ => rfl) rfl rfl) Bors.nil)) rfl rfl (w_eqFloat32S_ok r17 r9 r32 hf27)) hc28) rfl ?_
                    refine ROps.l (r := AV.b false) rfl rfl rfl (LOp.eqb (LOp.not rfl rfl) rfl) ?_
                    refine ROps.l (r := AV.b false) rfl rfl rfl (LOp.pick_false rfl rfl rfl) ?_
                    refine ROps.l (r := AV.b false) rfl rfl rfl (LOp.move rfl rfl) ?_
                    refine ROps.l (r := AV.i64 r15) rfl rfl rfl (LOp.move rfl rfl) ?_
                    refine ROps.l (r := AV.i64 r7) rfl rfl rfl (LOp.move rfl rfl) ?_
                    refine ROps.l (r := AV.b false) rfl rfl rfl (LOp.eqb (LOp.neq rfl rfl rfl) hc12) ?_
                    refine ROps.l (r := AV.b false) rfl rfl rfl (LOp.pick_false rfl rfl rfl) ?_
                    refine ROps.l (r := AV.b false) rfl rfl rfl (LOp.move rfl rfl) ?_
                    refine ROps.l (r := AV.b r16) rfl rfl rfl (LOp.move rfl rfl) ?_
                    refine ROps.l (r := AV.b r8) rfl rfl rfl (LOp.move rfl rfl) ?_
                    refine ROps.l (r := AV.b false) rfl rfl rfl (LOp.eqb (LOp.neqb pun4 rfl rfl rfl) hc13) ?_
                    refine ROps.l (r := AV.b false) rfl rfl rfl (LOp.pick_false rfl rfl rfl) ?_
                    refine ROps.nil ?_
                    refine RunC.wl (τ' := [(1, AV.sl a4.length (a4.map AV.f32)), (2, AV.f32 a5), (3, AV.i64 a6), (4, AV.ptr [AV.i64 a0, AV.sl a1.length (a1.map AV.i64), AV.sl a2.length (a2.map AV.i64), AV.sl a3.length (a3.map AV.f32)]), (10, AV.oref 4 1 0 r9.length), (11, AV.i64 r7), (12, AV.b r8), (15, AV.oref 6 1 0 r17.length), (103, AV.b false)]) (Γ' := [⟨2, none⟩, ⟨2, none⟩, ⟨2, none⟩, ⟨2, none⟩, ⟨1, some (r9.map AV.f32)⟩, ⟨1, none⟩, ⟨1, some (r17.map AV.f32)⟩, ⟨1, none⟩]) ⟨(ALe.refl _), (ALe.refl _), (ALe.refl _), (ALe.refl _), (ALe.refl _), (ALe.refl _), (ALe.refl _), (ALe.refl _), (ALe.refl _), trivial⟩ ⟨⟨rfl, .inl rfl⟩, ⟨rfl, .inl rfl⟩, ⟨rfl, .inl rfl⟩, ⟨rfl, .inl rfl⟩, ⟨rfl, .inr rfl⟩, ⟨rfl, .inl rfl⟩, ⟨rfl, .inr rfl⟩, ⟨rfl, .inl rfl⟩, trivial⟩ ?_
                    refine RunC.cond_false rfl rfl ?_
                    refine RunC.skip ?_
                    refine RunC.seq ?_
                    refine RunC.regionW ?_
                    refine ROps.l (r := AV.i64 1) rfl rfl rfl (LOp.assign rfl rfl) ?_
                    refine ROps.nil ?_
                    refine RunC.seq ?_
                    obtain ⟨r33, r34, hf29, h⟩ := obind2_some h
                    obtain ⟨hn30, h⟩ := need_some h
                    refine RunC.regionW ?_
                    refine ROps.l (r := AV.oref 6 1 0 r17.length) rfl rfl rfl (LOp.move rfl rfl) ?_
                    refine ROps.l (r := AV.i64 1) rfl rfl rfl (LOp.move rfl rfl) ?_
                    refine ROps.callO (A := [AV.oref 6 1 0 r17.length, AV.i64 1]) (args := [AV.oref 0 0 0 r17.length, AV.i64 1]) (Γc := [⟨0, some (r17.map AV.f32)⟩]) (Γc' := [⟨0, some (r34.map AV.f32)⟩]) (r' := AV.i64 r33) (Γ' := [⟨2, none⟩, ⟨2, none⟩, ⟨2, none⟩, ⟨2, none⟩, ⟨1, some (r9.map AV.f32)⟩, ⟨1, none⟩, ⟨1, some (r34.map AV.f32)⟩, ⟨1, none⟩]) [(6, 1)] [] rfl (CallAs.func ent15 rfl rfl) rfl rfl (SelOk.of (show List.Nodup [6] from by decide) (SelL.arr0 (f := AV.f32) (fun _ => rfl) rfl trivial)) (live_of ⟨⟨_, _, rfl⟩, trivial⟩) (by simp [AV.ren, AV.rens, sigma, rens_f32, rens_f64, rens_i64, rens_ik, rens_str, rens_cp]) rfl (w_markFloat32S_0o_ok 1 r17 r33 r34 hf29) rfl (news_of trivial) (show List.Nodup [6] from by decide) (by simp [AV.ren, AV.rens, sigma, of_decide_eq_true hn30]) (by simp [backOb, sigma, AV.ren, AV.rens, rens_f32, rens_f64, rens_i64, rens_ik, rens_str, rens_cp]) ?_
                    refine ROps.l (r := AV.i64 r33) rfl rfl rfl (LOp.assign rfl rfl) ?_
                    refine ROps.nil ?_
                    refine RunC.seq ?_
                    refine RunC.regionW ?_
                    refine ROps.l (r := AV.i64 1) rfl rfl rfl (LOp.assign rfl rfl) ?_
                    refine ROps.nil ?_
                    refine RunC.seq ?_
                    obtain ⟨r35, hf31, h⟩ := obind_some h
                    refine RunC.regionW ?_
                    refine ROps.l (r := AV.oref 6 1 0 r17.length) rfl rfl rfl (LOp.move rfl rfl) ?_
                    refine ROps.l (r := AV.i64 1) rfl rfl rfl (LOp.move rfl rfl) ?_
                    refine ROps.d (r := AV.i64 r35) (fs := []) (Γ' := [⟨2, none⟩, ⟨2, none⟩, ⟨2, none⟩, ⟨2, none⟩, ⟨1, some (r9.map AV.f32)⟩, ⟨1, none⟩, ⟨1, some (r34.map AV.f32)⟩, ⟨1, none⟩]) rfl rfl rfl (TOp.callB (CallAs.func ent16 rfl rfl) (Bors.cons (Bor.own (f := AV.f32) (fun _ => rfl) rfl (of_decide_eq_true hn30)) (Bors.cons (Bor.pure rfl) Bors.nil)) rfl rfl (w_heldFloat32S_ok r34 1 r35 hf31)) rfl ?_
                    refine ROps.l (r := AV.i64 r35) rfl rfl rfl (LOp.assign rfl rfl) ?_
                    refine ROps.nil ?_
                    refine RunC.seq ?_
                    refine RunC.seq ?_
                    rcases bsel_some h with ⟨hc32, h⟩ | ⟨hc32, h⟩
                    · refine RunC.regionW ?_
                      refine ROps.l (r := AV.i64 r35) rfl rfl rfl (LOp.move rfl rfl) ?_
                      refine ROps.l (r := AV.b true) rfl rfl rfl (LOp.eqb (LOp.lss rfl rfl rfl) hc32) ?_
                      refine ROps.nil ?_
                      refine RunC.cond_true rfl rfl ?_
                      refine RunC.seq ?_
                      refine RunC.regionW ?_
                      refine ROps.l (r := AV.b false) rfl rfl rfl (LOp.assign rfl rfl) ?_
                      refine ROps.nil ?_
                      refine RunC.ret ?_
                      have hq := Option.some.inj h
                      subst q0
                      exact bodyQ.pure (.inr rfl) rfl (Res.one rfl (RV.tmp rfl))
                    · refine RunC.regionW ?_
                      refine ROps.l (r := AV.i64 r35) rfl rfl rfl (LOp.move rfl rfl) ?_
                      refine ROps.l (r := AV.b false) rfl rfl rfl (LOp.eqb (LOp.lss rfl rfl rfl) hc32) ?_
                      refine ROps.nil ?_
                      refine RunC.cond_false rfl rfl ?_
                      refine RunC.skip ?_
                      refine RunC.seq ?_
                      refine RunC.seq ?_
                      rcases bsel_some h with ⟨hc33, h⟩ | ⟨hc33, h⟩
                      · refine RunC.regionW ?_
                        refine ROps.l (r := AV.i64 r35) rfl rfl rfl (LOp.move rfl rfl) ?_
                        refine ROps.l (r := AV.i64 r33) rfl rfl rfl (LOp.move rfl rfl) ?_
                        refine ROps.l (r := AV.b true) rfl rfl rfl (LOp.eqb (LOp.neq rfl rfl rfl) hc33) ?_
                        refine ROps.nil ?_
                        refine RunC.cond_true rfl rfl ?_
                        refine RunC.seq ?_
                        refine RunC.regionW ?_
                        refine ROps.l (r := AV.b false) rfl rfl rfl (LOp.assign rfl rfl) ?_
                        refine ROps.nil ?_
                        refine RunC.ret ?_
                        have hq := Option.some.inj h
                        subst q0
                        exact bodyQ.pure (.inr rfl) rfl (Res.one rfl (RV.tmp rfl))
                      · refine RunC.regionW ?_
                        refine ROps.l (r := AV.i64 r35) rfl rfl rfl (LOp.move rfl rfl) ?_
                        refine ROps.l (r := AV.i64 r33) rfl rfl rfl (LOp.move rfl rfl) ?_
                        refine ROps.l (r := AV.b false) rfl rfl rfl (LOp.eqb (LOp.neq rfl rfl rfl) hc33) ?_
                        refine ROps.nil ?_
                        refine RunC.cond_false rfl rfl ?_
                        refine RunC.skip ?_
                        refine RunC.seq ?_
                        obtain ⟨r36, r37, r38, r39, hf34, h⟩ := obind4_some h
                        obtain ⟨r40, hf35, h⟩ := obind_some h
                        obtain ⟨r41, r42, r43, hf36, h⟩ := obind3_some h
                        refine RunC.regionW ?_
                        refine ROps.l (r := AV.agg [AV.i64 a0, AV.sl a1.length (a1.map AV.i64), AV.sl a2.length (a2.map AV.i64), AV.sl a3.length (a3.map AV.f32)]) rfl rfl rfl (LOp.loadAgg agg25 siz25 rfl rfl rfl rfl) ?_
                        refine ROps.d (r := AV.agg [AV.i64 r36, AV.oref 0 3 0 r37.length, AV.oref 1 3 0 r38.length, AV.oref 2 3 0 r39.length]) (fs := [(0, (r37.map AV.i64)), (1, (r38.map AV.i64)), (2, (r39.map AV.f32))]) (Γ' := [⟨3, some (r37.map AV.i64)⟩, ⟨3, some (r38.map AV.i64)⟩, ⟨3, some (r39.map AV.f32)⟩, ⟨2, none⟩, ⟨1, some (r9.map AV.f32)⟩, ⟨1, none⟩, ⟨1, some (r34.map AV.f32)⟩, ⟨1, none⟩]) rfl rfl rfl (TOp.callBN (ls := [(r37.map AV.i64), (r38.map AV.i64), (r39.map AV.f32)]) [0, 1, 2] (CallAs.func ent9 rfl rfl) (Bors.cons (Bor.agg (Bors.cons (Bor.pure rfl) (Bors.cons (Bor.sl (fun _ => rfl)) (Bors.cons (Bor.sl (fun _ => rfl)) (Bors.cons (Bor.sl (fun _ => rfl)) Bors.nil))))) Bors.nil) rfl (w_toSparse_ok a0 a1 a2 a3 r36 r37 r38 r39 hf34) (and_all (lts0_map (f := AV.i64) (fun _ => rfl) _) (and_all (lts0_map (f := AV.i64) (fun _ => rfl) _) (and_all (lts0_map (f := AV.f32) (fun _ => rfl) _) rfl))) (and_all (noss_map (f := AV.i64) (fun _ => rfl) _) (and_all (noss_map (f := AV.i64) (fun _ => rfl) _) (and_all (noss_map (f := AV.f32) (fun _ => rfl) _) rfl))) rfl (by decide) (ns_of ⟨⟨_, rfl⟩, ⟨_, rfl⟩, ⟨_, rfl⟩, trivial⟩)) rfl ?_
                        refine ROps.l (r := AV.sl a4.length (a4.map AV.f32)) rfl rfl rfl (LOp.move rfl rfl) ?_
                        refine ROps.d (r := AV.oref 3 3 0 r40.length) (fs := [(3, (r40.map AV.f32))]) (Γ' := [⟨3, some (r37.map AV.i64)⟩, ⟨3, some (r38.map AV.i64)⟩, ⟨3, some (r39.map AV.f32)⟩, ⟨3, some (r40.map AV.f32)⟩, ⟨1, some (r9.map AV.f32)⟩, ⟨1, none⟩, ⟨1, some (r34.map AV.f32)⟩, ⟨1, none⟩]) rfl rfl rfl (TOp.callBN (ls := [(r40.map AV.f32)]) [3] (CallAs.func ent10 rfl rfl) (Bors.cons (Bor.sl (fun _ => rfl)) Bors.nil) rfl (w_toFloat32S_ok a4 r40 hf35) (and_all (lts0_map (f := AV.f32) (fun _ => rfl) _) rfl) (and_all (noss_map (f := AV.f32) (fun _ => rfl) _) rfl) rfl (by decide) (ns_of ⟨⟨_, rfl⟩, trivial⟩)) rfl ?_
                        refine ROps.l (r := AV.f32 a5) rfl rfl rfl (LOp.move rfl rfl) ?_
                        refine ROps.l (r := AV.i64 a6) rfl rfl rfl (LOp.move rfl rfl) ?_
                        refine ROps.d (r := AV.tup [AV.oref 5 2 0 r43.length, AV.i64 r41, AV.b r42]) (fs := [(5, (r43.map AV.f32))]) (Γ' := [⟨3, some (r37.map AV.i64)⟩, ⟨3, some (r38.map AV.i64)⟩, ⟨3, some (r39.map AV.f32)⟩, ⟨3, some (r40.map AV.f32)⟩, ⟨1, some (r9.map AV.f32)⟩, ⟨2, some (r43.map AV.f32)⟩, ⟨1, some (r34.map AV.f32)⟩, ⟨1, none⟩]) rfl rfl rfl (TOp.callBN (ls := [(r43.map AV.f32)]) [5] (CallAs.func ent11 rfl rfl) (Bors.cons (Bor.agg (Bors.cons (Bor.pure rfl) (Bors.cons (Bor.own (f := AV.i64) (fun _ => rfl) rfl rfl) (Bors.cons (Bor.own (f := AV.i64) (fun _ => rfl) rfl rfl) (Bors.cons (Bor.own (f := AV.f32) (fun _ => rfl) rfl rfl) Bors.nil))))) (Bors.cons (Bor.own (f := AV.f32) (fun _ => rfl) rfl rfl) (Bors.cons (Bor.pure rfl) (Bors.cons (Bor.pure rfl) Bors.nil)))) rfl (i_SparseGradient_ok r36 r37 r38 r39 r40 a5 a6 r41 r42 r43 hf36) (and_all (lts0_map (f := AV.f32) (fun _ => rfl) _) rfl) (and_all (noss_map (f := AV.f32) (fun _ => rfl) _) rfl) rfl (by decide) (ns_of ⟨⟨_, rfl⟩, trivial⟩)) rfl ?_
                        refine ROps.l (r := AV.tup [AV.oref 5 2 0 r43.length, AV.i64 r41, AV.b r42]) rfl rfl rfl (LOp.move rfl rfl) ?_
                        refine ROps.l (r := AV.oref 5 2 0 r43.length) rfl rfl rfl (LOp.extract rfl rfl rfl) ?_
                        refine ROps.l (r := AV.i64 r41) rfl rfl rfl (LOp.extract rfl rfl rfl) ?_
                        refine ROps.l (r := AV.b r42) rfl rfl rfl (LOp.extract rfl rfl rfl) ?_
                        refine ROps.l (r := AV.oref 5 2 0 r43.length) rfl rfl rfl (LOp.assign rfl rfl) ?_
                        refine ROps.l (r := AV.i64 r41) rfl rfl rfl (LOp.assign rfl rfl) ?_
                        refine ROps.l (r := AV.b r42) rfl rfl rfl (LOp.assign rfl rfl) ?_
                        refine ROps.nil ?_
                        refine RunC.wl (τ' := [(10, AV.oref 4 1 0 r9.length), (11, AV.i64 r7), (12, AV.b r8), (15, AV.oref 6 1 0 r17.length), (19, AV.i64 r33), (21, AV.oref 5 2 0 r43.length), (22, AV.i64 r41), (23, AV.b r42)]) (Γ' := [⟨3, none⟩, ⟨3, none⟩, ⟨3, none⟩, ⟨3, none⟩, ⟨1, some (r9.map AV.f32)⟩, ⟨2, some (r43.map AV.f32)⟩, ⟨1, some (r34.map AV.f32)⟩, ⟨1, none⟩]) ⟨(ALe.refl _), (ALe.refl _), (ALe.refl _), (ALe.refl _), (ALe.refl _), (ALe.refl _), (ALe.refl _), (ALe.refl _), trivial⟩ ⟨⟨rfl, .inl rfl⟩, ⟨rfl, .inl rfl⟩, ⟨rfl, .inl rfl⟩, ⟨rfl, .inl rfl⟩, ⟨rfl, .inr rfl⟩, ⟨rfl, .inr rfl⟩, ⟨rfl, .inr rfl⟩, ⟨rfl, .inl rfl⟩, trivial⟩ ?_
                        refine RunC.seq ?_
                        refine RunC.seq ?_
                        obtain ⟨r44, hf37, h⟩ := obind_some h
                        rcases bsel_some h with ⟨hc38, h⟩ | ⟨hc38, h⟩
                        · rcases bsel_some h with ⟨hc39, h⟩ | ⟨hc39, h⟩
                          · refine RunC.regionW ?_
                            refine ROps.l (r := AV.oref 5 2 0 r43.length) rfl rfl rfl (LOp.move rfl rfl) ?_
                            refine ROps.l (r := AV.oref 4 1 0 r9.length) rfl rfl rfl (LOp.move rfl rfl) ?_
                            refine ROps.d (r := AV.b true) (fs := []) (Γ' := [⟨3, none⟩, ⟨3, none⟩, ⟨3, none⟩, ⟨3, none⟩, ⟨1, some (r9.map AV.f32)⟩, ⟨2, some (r43.map AV.f32)⟩, ⟨1, some (r34.map AV.f32)⟩, ⟨1, none⟩]) rfl rfl rfl (TOp.eqb (TOp.callB (CallAs.func ent12 rfl rfl) (Bors.cons (Bor.own (f := AV.f32) (fun _ => rfl) rfl rfl) (Bors.cons (Bor.own (f := AV.f32) (fun _ => rfl) rfl rfl) Bors.nil)) rfl rfl (w_eqFloat32S_ok r43 r9 r44 hf37)) hc38) rfl ?_
                            refine ROps.l (r := AV.b false) rfl rfl rfl (LOp.eqb (LOp.not rfl rfl) rfl) ?_
                            refine ROps.l (r := AV.b false) rfl rfl rfl (LOp.move rfl rfl) ?_
                            refine ROps.l (r := AV.i64 r41) rfl rfl rfl (LOp.move rfl rfl) ?_
                            refine ROps.l (r := AV.i64 r7) rfl rfl rfl (LOp.move rfl rfl) ?_
                            refine ROps.l (r := AV.b true) rfl rfl rfl (LOp.eqb (LOp.neq rfl rfl rfl) hc39) ?_
                            refine ROps.l (r := AV.b true) rfl rfl rfl (LOp.pick_false rfl rfl rfl) ?_
                            refine ROps.l (r := AV.b true) rfl rfl rfl (LOp.move rfl rfl) ?_
                            refine ROps.s rfl rfl rfl ?_
                            refine ROps.s rfl rfl rfl ?_
                            refine ROps.s rfl rfl rfl ?_
                            refine ROps.l (r := AV.b true) rfl rfl rfl (LOp.pick_true rfl rfl rfl) ?_
                            refine ROps.nil ?_
                            refine RunC.wl (τ' := [(15, AV.oref 6 1 0 r17.length), (19, AV.i64 r33), (139, AV.b true)]) (Γ' := [⟨3, none⟩, ⟨3, none⟩, ⟨3, none⟩, ⟨3, none⟩, ⟨1, none⟩, ⟨2, none⟩, ⟨1, some (r34.map AV.f32)⟩, ⟨1, none⟩]) ⟨(ALe.refl _), (ALe.refl _), (ALe.refl _), trivial⟩ ⟨⟨rfl, .inl rfl⟩, ⟨rfl, .inl rfl⟩, ⟨rfl, .inl rfl⟩, ⟨rfl, .inl rfl⟩, ⟨rfl, .inl rfl⟩, ⟨rfl, .inl rfl⟩, ⟨rfl, .inr rfl⟩, ⟨rfl, .inl rfl⟩, trivial⟩ ?_
                            refine RunC.cond_true rfl rfl ?_
                            refine RunC.seq ?_
                            refine RunC.regionW ?_
                            refine ROps.l (r := AV.b false) rfl rfl rfl (LOp.assign rfl rfl) ?_
                            refine ROps.nil ?_
                            refine RunC.ret ?_
                            have hq := Option.some.inj h
                            subst q0
                            exact bodyQ.pure (.inr rfl) rfl (Res.one rfl (RV.tmp rfl))
                          · rcases bsel_some h with ⟨hc40, h⟩ | ⟨hc40, h⟩
                            · refine RunC.regionW ?_
                              refine ROps.l (r := AV.oref 5 2 0 r43.length) rfl rfl rfl (LOp.move rfl rfl) ?_
                              refine ROps.l (r := AV.oref 4 1 0 r9.length) rfl rfl rfl (LOp.move rfl rfl) ?_
                              refine ROps.d (r := AV.b true) (fs := []) (Γ' := [⟨3, none⟩, ⟨3, none⟩, ⟨3, none⟩, ⟨3, none⟩, ⟨1, some (r9.map AV.f32)⟩, ⟨2, some (r43.map AV.f32)⟩, ⟨1, some (r34.map AV.f32)⟩, ⟨1, none⟩]) rfl rfl rfl (TOp.eqb (TOp.callB (CallAs.func ent12 rfl rfl) (Bors.cons (Bor.own (f := AV.f32) (fun _ => rfl) rfl rfl) (Bors.cons (Bor.own (f := AV.f32) (fun _ => rfl) rfl rfl) Bors.nil)) rfl rfl (w_eqFloat32S_ok r43 r9 r44 hf37)) hc38) rfl ?_
                              refine ROps.l (r := AV.b false) rfl rfl rfl (LOp.eqb (LOp.not rfl rfl) rfl) ?_
                              refine ROps.l (r := AV.b false) rfl rfl rfl (LOp.move rfl rfl) ?_
                              refine ROps.l (r := AV.i64 r41) rfl rfl rfl (LOp.move rfl rfl) ?_
                              refine ROps.l (r := AV.i64 r7) rfl rfl rfl (LOp.move rfl rfl) ?_
                              refine ROps.l (r := AV.b false) rfl rfl rfl (LOp.eqb (LOp.neq rfl rfl rfl) hc39) ?_
                              refine ROps.l (r := AV.b false) rfl rfl rfl (LOp.pick_false rfl rfl rfl) ?_
                              refine ROps.l (r := AV.b false) rfl rfl rfl (LOp.move rfl rfl) ?_
                              refine ROps.l (r := AV.b r42) rfl rfl rfl (LOp.move rfl rfl) ?_
                              refine ROps.l (r := AV.b r8) rfl rfl rfl (LOp.move rfl rfl) ?_
                              refine ROps.l (r := AV.b true) rfl rfl rfl (LOp.eqb (LOp.neqb pun4 rfl rfl rfl) hc40) ?_
                              refine ROps.l (r := AV.b true) rfl rfl rfl (LOp.pick_false rfl rfl rfl) ?_
                              refine ROps.nil ?_
                              refine RunC.wl (τ' := [(15, AV.oref 6 1 0 r17.length), (19, AV.i64 r33), (139, AV.b true)]) (Γ' := [⟨3, none⟩, ⟨3, none⟩, ⟨3, none⟩, ⟨3, none⟩, ⟨1, none⟩, ⟨2, none⟩, ⟨1, some (r34.map AV.f32)⟩, ⟨1, none⟩]) ⟨(ALe.refl _), (ALe.refl _), (ALe.refl _), trivial⟩ ⟨⟨rfl, .inl rfl⟩, ⟨rfl, .inl rfl⟩, ⟨rfl, .inl rfl⟩, ⟨rfl, .inl rfl⟩, ⟨rfl, .inl rfl⟩, ⟨rfl, .inl rfl⟩, ⟨rfl, .inr rfl⟩, ⟨rfl, .inl rfl⟩, trivial⟩ ?_
                              refine RunC.cond_true rfl rfl ?_
                              refine RunC.seq ?_
                              refine RunC.regionW ?_
                              refine ROps.l (r := AV.b false) rfl rfl rfl (LOp.assign rfl rfl) ?_
                              refine ROps.nil ?_
                              refine RunC.ret ?_
                              have hq := Option.some.inj h
                              subst q0
                              exact bodyQ.pure (.inr rfl) rfl (Res.one rfl (RV.tmp rfl))
                            · refine RunC.regionW ?_
                              refine ROps.l (r := AV.oref 5 2 0 r43.length) rfl rfl rfl (LOp.move rfl rfl) ?_
                              refine ROps.l (r := AV.oref 4 1 0 r9.length) rfl rfl rfl (LOp.move rfl rfl) ?_
                              refine ROps.d (r := AV.b true) (fs := []) (Γ' := [⟨3, none⟩, ⟨3, none⟩, ⟨3, none⟩, ⟨3, none⟩, ⟨1, some (r9.map AV.f32)⟩, ⟨2, some (r43.map AV.f32)⟩, ⟨1, some (r34.map AV.f32)⟩, ⟨1, none⟩]) rfl rfl rfl (TOp.eqb (TOp.callB (CallAs.func ent12 rfl rfl) (Bors.cons (Bor.own (f := AV.f32) (fun _ => rfl) rfl rfl) (Bors.cons (Bor.own (f := AV.f32) (fun _ => rfl) rfl rfl) Bors.nil)) rfl rfl (w_eqFloat32S_ok r43 r9 r44 hf37)) hc38) rfl ?_
                              refine ROps.l (r := AV.b false) rfl rfl rfl (LOp.eqb (LOp.not rfl rfl) rfl) ?_
                              refine ROps.l (r := AV.b false) rfl rfl rfl (LOp.move rfl rfl) ?_
                              refine ROps.l (r := AV.i64 r41) rfl rfl rfl (LOp.move rfl rfl) ?_
                              refine ROps.l (r := AV.i64 r7) rfl rfl rfl (LOp.move rfl rfl) ?_
                              refine ROps.l (r := AV.b false) rfl rfl rfl (LOp.eqb (LOp.neq rfl rfl rfl) hc39) ?_
                              refine ROps.l (r := AV.b false) rfl rfl rfl (LOp.pick_false rfl rfl rfl) ?_
                              refine ROps.l (r := AV.b false) rfl rfl rfl (LOp.move rfl rfl) ?_
                              refine ROps.l (r := AV.b r42) rfl rfl rfl (LOp.move rfl rfl) ?_
                              refine ROps.l (r := AV.b r8) rfl rfl rfl (LOp.move rfl rfl) ?_
                              refine ROps.l (r := AV.b false) rfl rfl rfl (LOp.eqb (LOp.neqb pun4 rfl rfl rfl) hc40) ?_
                              refine ROps.l (r := AV.b false) rfl rfl rfl (LOp.pick_false rfl rfl rfl) ?_
                              refine ROps.nil ?_
                              refine RunC.wl (τ' := [(15, AV.oref 6 1 0 r17.length), (19, AV.i64 r33), (139, AV.b false)]) (Γ' := [⟨3, none⟩, ⟨3, none⟩, ⟨3, none⟩, ⟨3, none⟩, ⟨1, none⟩, ⟨2, none⟩, ⟨1, some (r34.map AV.f32)⟩, ⟨1, none⟩]) ⟨(ALe.refl _), (ALe.refl _), (ALe.refl _), trivial⟩ ⟨⟨rfl, .inl rfl⟩, ⟨rfl, .inl rfl⟩, ⟨rfl, .inl rfl⟩, ⟨rfl, .inl rfl⟩, ⟨rfl, .inl rfl⟩, ⟨rfl, .inl rfl⟩, ⟨rfl, .inr rfl⟩, ⟨rfl, .inl rfl⟩, trivial⟩ ?_
                              refine RunC.cond_false rfl rfl ?_
                              refine RunC.skip ?_
                              refine RunC.seq ?_
                              refine RunC.regionW ?_
                              refine ROps.l (r := AV.i64 1) rfl rfl rfl (LOp.assign rfl rfl) ?_
                              refine ROps.nil ?_
                              refine RunC.seq ?_
                              obtain ⟨r45, hf41, h⟩ := obind_some h
                              refine RunC.regionW ?_
                              refine ROps.l (r := AV.oref 6 1 0 r17.length) rfl rfl rfl (LOp.move rfl rfl) ?_
                              refine ROps.l (r := AV.i64 1) rfl rfl rfl (LOp.move rfl rfl) ?_
                              refine ROps.d (r := AV.i64 r45) (fs := []) (Γ' := [⟨3, none⟩, ⟨3, none⟩, ⟨3, none⟩, ⟨3, none⟩, ⟨1, none⟩, ⟨2, none⟩, ⟨1, some (r34.map AV.f32)⟩, ⟨1, none⟩]) rfl rfl rfl (TOp.callB (CallAs.func ent16 rfl rfl) (Bors.cons (Bor.own (f := AV.f32) (fun _ => rfl) rfl (of_decide_eq_true hn30)) (Bors.cons (Bor.pure rfl) Bors.nil)) rfl rfl (w_heldFloat32S_ok r34 1 r45 hf41)) rfl ?_
                              refine ROps.l (r := AV.i64 r45) rfl rfl rfl (LOp.assign rfl rfl) ?_
                              refine ROps.nil ?_
                              refine RunC.wl (τ' := [(19, AV.i64 r33), (20, AV.i64 r45)]) (Γ' := [⟨3, none⟩, ⟨3, none⟩, ⟨3, none⟩, ⟨3, none⟩, ⟨1, none⟩, ⟨2, none⟩, ⟨1, none⟩, ⟨1, none⟩]) ⟨(ALe.refl _), (ALe.refl _), trivial⟩ ⟨⟨rfl, .inl rfl⟩, ⟨rfl, .inl rfl⟩, ⟨rfl, .inl rfl⟩, ⟨rfl, .inl rfl⟩, ⟨rfl, .inl rfl⟩, ⟨rfl, .inl rfl⟩, ⟨rfl, .inl rfl⟩, ⟨rfl, .inl rfl⟩, trivial⟩ ?_
                              refine RunC.seq ?_
                              refine RunC.seq ?_
                              rcases bsel_some h with ⟨hc42, h⟩ | ⟨hc42, h⟩
                              · refine RunC.regionW ?_
                                refine ROps.l (r := AV.i64 r45) rfl rfl rfl (LOp.move rfl rfl) ?_
                                refine ROps.l (r := AV.b true) rfl rfl rfl (LOp.eqb (LOp.lss rfl rfl rfl) hc42) ?_
                                refine ROps.nil ?_
                                refine RunC.cond_true rfl rfl ?_
                                refine RunC.seq ?_
                                refine RunC.regionW ?_
                                refine ROps.l (r := AV.b false) rfl rfl rfl (LOp.assign rfl rfl) ?_
                                refine ROps.nil ?_
                                refine RunC.ret ?_
                                have hq := Option.some.inj h
                                subst q0
                                exact bodyQ.pure (.inr rfl) rfl (Res.one rfl (RV.tmp rfl))
                              · refine RunC.regionW ?_
                                refine ROps.l (r := AV.i64 r45) rfl rfl rfl (LOp.move rfl rfl) ?_
                                refine ROps.l (r := AV.b false) rfl rfl rfl (LOp.eqb (LOp.lss rfl rfl rfl) hc42) ?_
                                refine ROps.nil ?_
                                refine RunC.cond_false rfl rfl ?_
                                refine RunC.skip ?_
                                refine RunC.seq ?_
                                refine RunC.seq ?_
                                rcases bsel_some h with ⟨hc43, h⟩ | ⟨hc43, h⟩
                                · refine RunC.regionW ?_
                                  refine ROps.l (r := AV.i64 r45) rfl rfl rfl (LOp.move rfl rfl) ?_
                                  refine ROps.l (r := AV.i64 r33) rfl rfl rfl (LOp.move rfl rfl) ?_
                                  refine ROps.l (r := AV.b true) rfl rfl rfl (LOp.eqb (LOp.neq rfl rfl rfl) hc43) ?_
                                  refine ROps.nil ?_
                                  refine RunC.cond_true rfl rfl ?_
                                  refine RunC.seq ?_
                                  refine RunC.regionW ?_
                                  refine ROps.l (r := AV.b false) rfl rfl rfl (LOp.assign rfl rfl) ?_
                                  refine ROps.nil ?_
                                  refine RunC.ret ?_
                                  have hq := Option.some.inj h
                                  subst q0
                                  exact bodyQ.pure (.inr rfl) rfl (Res.one rfl (RV.tmp rfl))
                                · refine RunC.regionW ?_
                                  refine ROps.l (r := AV.i64 r45) rfl rfl rfl (LOp.move rfl rfl) ?_
                                  refine ROps.l (r := AV.i64 r33) rfl rfl rfl (LOp.move rfl rfl) ?_
                                  refine ROps.l (r := AV.b false) rfl rfl rfl (LOp.eqb (LOp.neq rfl rfl rfl) hc43) ?_
                                  refine ROps.nil ?_
                                  refine RunC.cond_false rfl rfl ?_
                                  refine RunC.skip ?_
                                  refine RunC.seq ?_
                                  refine RunC.regionW ?_
                                  refine ROps.l (r := AV.b true) rfl rfl rfl (LOp.assign rfl rfl) ?_
                                  refine ROps.nil ?_
                                  refine RunC.ret ?_
                                  have hq := Option.some.inj h
                                  subst q0
                                  exact bodyQ.pure (.inr rfl) rfl (Res.one rfl (RV.tmp rfl))
                        · refine RunC.regionW ?_
                          refine ROps.l (r := AV.oref 5 2 0 r43.length) rfl rfl rfl (LOp.move rfl rfl) ?_
                          refine ROps.l (r := AV.oref 4 1 0 r9.length) rfl rfl rfl (LOp.move rfl rfl) ?_
                          refine ROps.d (r := AV.b false) (fs := []) (Γ' := [⟨3, none⟩, ⟨3, none⟩, ⟨3, none⟩, ⟨3, none⟩, ⟨1, some (r9.map AV.f32)⟩, ⟨2, some (r43.map AV.f32)⟩, ⟨1, some (r34.map AV.f32)⟩, ⟨1, none⟩]) rfl rfl rfl (TOp.eqb (TOp.callB (CallAs.func ent12 rfl rfl) (Bors.cons (Bor.own (f := AV.f32) (fun _ => rfl) rfl rfl) (Bors.cons (Bor.own (f := AV.f32) (fun _ => rfl) rfl rfl) Bors.nil)) rfl rfl (w_eqFloat32S_ok r43 r9 r44 hf37)) hc38) rfl ?_
                          refine ROps.l (r := AV.b true) rfl rfl rfl (LOp.eqb (LOp.not rfl rfl) rfl) ?_
                          refine ROps.l (r := AV.b true) rfl rfl rfl (LOp.move rfl rfl) ?_
                          refine ROps.s rfl rfl rfl ?_
                          refine ROps.s rfl rfl rfl ?_
                          refine ROps.s rfl rfl rfl ?_
                          refine ROps.l (r := AV.b true) rfl rfl rfl (LOp.pick_true rfl rfl rfl) ?_
                          refine ROps.l (r := AV.b true) rfl rfl rfl (LOp.move rfl rfl) ?_
                          refine ROps.s rfl rfl rfl ?_
                          refine ROps.s rfl rfl rfl ?_
                          refine ROps.s rfl rfl rfl ?_
                          refine ROps.l (r := AV.b true) rfl rfl rfl (LOp.pick_true rfl rfl rfl) ?_
                          refine ROps.nil ?_
                          refine RunC.wl (τ' := [(15, AV.oref 6 1 0 r17.length), (19, AV.i64 r33), (139, AV.b true)]) (Γ' := [⟨3, none⟩, ⟨3, none⟩, ⟨3, none⟩, ⟨3, none⟩, ⟨1, none⟩, ⟨2, none⟩, ⟨1, some (r34.map AV.f32)⟩, ⟨1, none⟩]) ⟨(ALe.refl _), (ALe.refl _), (ALe.refl _), trivial⟩ ⟨⟨rfl, .inl rfl⟩, ⟨rfl, .inl rfl⟩, ⟨rfl, .inl rfl⟩, ⟨rfl, .inl rfl⟩, ⟨rfl, .inl rfl⟩, ⟨rfl, .inl rfl⟩, ⟨rfl, .inr rfl⟩, ⟨rfl, .inl rfl⟩, trivial⟩ ?_
                          refine RunC.cond_true rfl rfl ?_
                          refine RunC.seq ?_
                          refine RunC.regionW ?_
                          refine ROps.l (r := AV.b false) rfl rfl rfl (LOp.assign rfl rfl) ?_
                          refine ROps.nil ?_
                          refine RunC.ret ?_
                          have hq := Option.some.inj h
                          subst q0
                          exact bodyQ.pure (.inr rfl) rfl (Res.one rfl (RV.tmp rfl))
                  · refine RunC.regionW ?_
                    refine ROps.l (r := AV.i64 r30) rfl rfl rfl (LOp.move rfl rfl) ?_
                    refine ROps.l (r := AV.b false) rfl rfl rfl (LOp.eqb (LOp.lss rfl rfl rfl) hc26) ?_
                    refine ROps.l (r := AV.b false) rfl rfl rfl (LOp.move rfl rfl) ?_
                    refine ROps.l (r := AV.oref 6 1 0 r17.length) rfl rfl rfl (LOp.move rfl rfl) ?_
                    refine ROps.l (r := AV.oref 4 1 0 r9.length) rfl rfl rfl (LOp.move rfl rfl) ?_
                    refine ROps.d (r := AV.b false) (fs := []) (Γ' := [⟨2, none⟩, ⟨2, none⟩, ⟨2, none⟩, ⟨2, none⟩, ⟨1, some (r9.map AV.f32)⟩, ⟨1, none⟩, ⟨1, some (r17.map AV.f32)⟩, ⟨1, none⟩]) rfl rfl rfl (TOp.eqb (TOp.callB (CallAs.func ent12 rfl rfl) (Bors.cons (Bor.own (f := AV.f32) (fun _ => rfl) rfl rfl) (Bors.cons (Bor.own (f := AV.f32) (fun _ => rfl) rfl rfl) Bors.nil)) rfl rfl (w_eqFloat32S_ok r17 r9 r32 hf27)) hc28) rfl ?_
                    refine ROps.l (r := AV.b true) rfl rfl rfl (LOp.eqb (LOp.not rfl rfl) rfl) ?_
                    refine ROps.l (r := AV.b true) rfl rfl rfl (LOp.pick_false rfl rfl rfl) ?_
                    refine ROps.l (r := AV.b true) rfl rfl rfl (LOp.move rfl rfl) ?_
                    refine ROps.s rfl rfl rfl ?_
                    refine ROps.s rfl rfl rfl ?_
                    refine ROps.s rfl rfl rfl ?_
                    refine ROps.l (r := AV.b true) rfl rfl rfl (LOp.pick_true rfl rfl rfl) ?_
                    refine ROps.l (r := AV.b true) rfl rfl rfl (LOp.move rfl rfl) ?_
                    refine ROps.s rfl rfl rfl ?_
                    refine ROps.s rfl rfl rfl ?_
                    refine ROps.s rfl rfl rfl ?_
                    refine ROps.l (r := AV.b true) rfl rfl rfl (LOp.pick_true rfl rfl rfl) ?_
                    refine ROps.nil ?_
                    refine RunC.wl (τ' := [(1, AV.sl a4.length (a4.map AV.f32)), (2, AV.f32 a5), (3, AV.i64 a6), (4, AV.ptr [AV.i64 a0, AV.sl a1.length (a1.map AV.i64), AV.sl a2.length (a2.map AV.i64), AV.sl a3.length (a3.map AV.f32)]), (10, AV.oref 4 1 0 r9.length), (11, AV.i64 r7), (12, AV.b r8), (15, AV.oref 6 1 0 r17.length), (103, AV.b true)]) (Γ' := [⟨2, none⟩, ⟨2, none⟩, ⟨2, none⟩, ⟨2, none⟩, ⟨1, some (r9.map AV.f32)⟩, ⟨1, none⟩, ⟨1, some (r17.map AV.f32)⟩, ⟨1, none⟩]) ⟨(ALe.refl _), (ALe.refl _), (ALe.refl _), (ALe.refl _), (ALe.refl _), (ALe.refl _), (ALe.refl _), (ALe.refl _), (ALe.refl _), trivial⟩ ⟨⟨rfl, .inl rfl⟩, ⟨rfl, .inl rfl⟩, ⟨rfl, .inl rfl⟩, ⟨rfl, .inl rfl⟩, ⟨rfl, .inr rfl⟩, ⟨rfl, .inl rfl⟩, ⟨rfl, .inr rfl⟩, ⟨rfl, .inl rfl⟩, trivial⟩ ?_
                    refine RunC.cond_true rfl rfl ?_
                    refine RunC.seq ?_
                    refine RunC.regionW ?_
                    refine ROps.l (r := AV.b false) rfl rfl rfl (LOp.assign rfl rfl) ?_
                    refine ROps.nil ?_
                    refine RunC.ret ?_
                    have hq := Option.some.inj h
                    subst q0
                    exact bodyQ.pure (.inr rfl) rfl (Res.one rfl (RV.tmp rfl))
              · refine RunC.regionW ?_
                refine ROps.l (r := AV.oref 5 1 0 r14.length) rfl rfl rfl (LOp.move rfl rfl) ?_
                refine ROps.l (r := AV.sl a4.length (a4.map AV.f32)) rfl rfl rfl (LOp.move rfl rfl) ?_
                refine ROps.d (r := AV.oref 7 1 0 r24.length) (fs := [(7, (r24.map AV.f32))]) (Γ' := [⟨2, some (r11.map AV.i64)⟩, ⟨2, some (r12.map AV.i64)⟩, ⟨2, some (r13.map AV.f32)⟩, ⟨2, some [AV.i64 r10, AV.oref 0 2 0 r11.length, AV.oref 1 2 0 r12.length, AV.oref 2 2 0 r13.length]⟩, ⟨1, some (r9.map AV.f32)⟩, ⟨1, some (r14.map AV.f32)⟩, ⟨1, some (r17.map AV.f32)⟩, ⟨1, some (r24.map AV.f32)⟩]) rfl rfl rfl (TOp.callBN (ls := [(r24.map AV.f32)]) [7] (CallAs.func ent10 rfl rfl) (Bors.cons (Bor.sl (fun _ => rfl)) Bors.nil) rfl (w_toFloat32S_ok a4 r24 hf17) (and_all (lts0_map (f := AV.f32) (fun _ => rfl) _) rfl) (and_all (noss_map (f := AV.f32) (fun _ => rfl) _) rfl) rfl (by decide) (ns_of ⟨⟨_, rfl⟩, trivial⟩)) rfl ?_
                refine ROps.d (r := AV.b false) (fs := []) (Γ' := [⟨2, some (r11.map AV.i64)⟩, ⟨2, some (r12.map AV.i64)⟩, ⟨2, some (r13.map AV.f32)⟩, ⟨2, some [AV.i64 r10, AV.oref 0 2 0 r11.length, AV.oref 1 2 0 r12.length, AV.oref 2 2 0 r13.length]⟩, ⟨1, some (r9.map AV.f32)⟩, ⟨1, some (r14.map AV.f32)⟩, ⟨1, some (r17.map AV.f32)⟩, ⟨1, some (r24.map AV.f32)⟩]) rfl rfl rfl (TOp.eqb (TOp.callB (CallAs.func ent12 rfl rfl) (Bors.cons (Bor.own (f := AV.f32) (fun _ => rfl) rfl rfl) (Bors.cons (Bor.own (f := AV.f32) (fun _ => rfl) rfl rfl) Bors.nil)) rfl rfl (w_eqFloat32S_ok r14 r24 r25 hf18)) hc19) rfl ?_
                refine ROps.l (r := AV.b true) rfl rfl rfl (LOp.eqb (LOp.not rfl rfl) rfl) ?_
                refine ROps.nil ?_
                refine RunC.wl (τ' := [(1, AV.sl a4.length (a4.map AV.f32)), (2, AV.f32 a5), (3, AV.i64 a6), (4, AV.ptr [AV.i64 a0, AV.sl a1.length (a1.map AV.i64), AV.sl a2.length (a2.map AV.i64), AV.sl a3.length (a3.map AV.f32)]), (10, AV.oref 4 1 0 r9.length), (11, AV.i64 r7), (12, AV.b r8), (13, AV.optr 3 2 0), (14, AV.oref 5 1 0 r14.length), (15, AV.oref 6 1 0 r17.length), (16, AV.i64 r15), (17, AV.b r16), (79, AV.b true)]) (Γ' := [⟨2, some (r11.map AV.i64)⟩, ⟨2, some (r12.map AV.i64)⟩, ⟨2, some (r13.map AV.f32)⟩, ⟨2, some [AV.i64 r10, AV.oref 0 2 0 r11.length, AV.oref 1 2 0 r12.length, AV.oref 2 2 0 r13.length]⟩, ⟨1, some (r9.map AV.f32)⟩, ⟨1, some (r14.map AV.f32)⟩, ⟨1, some (r17.map AV.f32)⟩, ⟨1, none⟩]) ⟨(ALe.refl _), (ALe.refl _), (ALe.refl _), (ALe.refl _), (ALe.refl _), (ALe.refl _), (ALe.refl _), (ALe.refl _), (ALe.refl _), (ALe.refl _), (ALe.refl _), (ALe.refl _), (ALe.refl _), trivial⟩ ⟨⟨rfl, .inr rfl⟩, ⟨rfl, .inr rfl⟩, ⟨rfl, .inr rfl⟩, ⟨rfl, .inr rfl⟩, ⟨rfl, .inr rfl⟩, ⟨rfl, .inr rfl⟩, ⟨rfl, .inr rfl⟩, ⟨rfl, .inl rfl⟩, trivial⟩ ?_
                refine RunC.cond_true rfl rfl ?_
                refine RunC.seq ?_
                refine RunC.regionW ?_
                refine ROps.l (r := AV.b false) rfl rfl rfl (LOp.assign rfl rfl) ?_
                refine ROps.nil ?_
                refine RunC.ret ?_
                have hq := Option.some.inj h
                subst q0
                exact bodyQ.pure (.inr rfl) rfl (Res.one rfl (RV.tmp rfl))
            · refine RunC.region_draw (Γ' := [⟨2, some (r11.map AV.i64)⟩, ⟨2, some (r12.map AV.i64)⟩, ⟨2, some (r13.map AV.f32)⟩, ⟨2, some [AV.i64 r10, AV.oref 0 2 0 r11.length, AV.oref 1 2 0 r12.length, AV.oref 2 2 0 r13.length]⟩, ⟨1, some (r9.map AV.f32)⟩, ⟨1, some (r14.map AV.f32)⟩, ⟨1, some (r17.map AV.f32)⟩, ⟨0, none⟩]) 5 mixed 
                (TR.d (r := AV.agg [AV.i64 r10, AV.oref 0 2 0 r11.length, AV.oref 1 2 0 r12.length, AV.oref 2 2 0 r13.length]) (fs := []) rfl rfl (TOp.loadAgg_o rfl agg30 siz30 rfl rfl rfl rfl) <|
                (TR.l (r := AV.agg [AV.i64 a0, AV.sl a1.length (a1.map AV.i64), AV.sl a2.length (a2.map AV.i64), AV.sl a3.length (a3.map AV.f32)]) rfl rfl (LOp.loadAgg agg25 siz25 rfl rfl rfl rfl) <|
                (TR.d (r := AV.agg [AV.i64 r19, AV.sl r20.length (r20.map AV.i64), AV.sl r21.length (r21.map AV.i64), AV.sl r22.length (r22.map AV.f32)]) (fs := []) rfl rfl (TOp.callS (CallAs.func ent9 rfl rfl) (ALes.cons (ALe.refl _) ALes.nil) (lts_cons (lt_agg (lts_cons rfl (lts_cons (lt_sl (fun _ => rfl)) (lts_cons (lt_sl (fun _ => rfl)) (lts_cons (lt_sl (fun _ => rfl)) lts_nil))))) lts_nil) (lt_agg (lts_cons rfl (lts_cons (lt_sl (fun _ => rfl)) (lts_cons (lt_sl (fun _ => rfl)) (lts_cons (lt_sl (fun _ => rfl)) lts_nil))))) (w_toSparse_ok a0 a1 a2 a3 r19 r20 r21 r22 hf14) (Bor.agg (Bors.cons (Bor.pure rfl) (Bors.cons (Bor.own (f := AV.i64) (fun _ => rfl) rfl rfl) (Bors.cons (Bor.own (f := AV.i64) (fun _ => rfl) rfl rfl) (Bors.cons (Bor.own (f := AV.f32) (fun _ => rfl) rfl rfl) Bors.nil)))))) <|
                (TR.d (r := AV.b false) (fs := []) rfl rfl (TOp.eqb (TOp.callB (CallAs.func ent13 rfl rfl) (Bors.cons (Bor.agg (Bors.cons (Bor.pure rfl) (Bors.cons (Bor.own (f := AV.i64) (fun _ => rfl) rfl rfl) (Bors.cons (Bor.own (f := AV.i64) (fun _ => rfl) rfl rfl) (Bors.cons (Bor.own (f := AV.f32) (fun _ => rfl) rfl rfl) Bors.nil))))) (Bors.cons (Bor.agg (Bors.cons (Bor.pure rfl) (Bors.cons (Bor.sl (fun _ => rfl)) (Bors.cons (Bor.sl (fun _ => rfl)) (Bors.cons (Bor.sl (fun _ => rfl)) Bors.nil))))) Bors.nil)) rfl rfl (w_eqSparse_ok r10 r11 r12 r13 r19 r20 r21 r22 r23 hf15)) hc16) <|
                (TR.l (r := AV.b true) rfl rfl (LOp.eqb (LOp.not rfl rfl) rfl) <|
                TR.nil))))) rfl (by kernel_rfl) rfl fills_nil rfl ?_
              iterate 5 refine ROps.dropS ?_
              refine ROps.drop0 ?_
              refine ROps.nil ?_
              refine RunC.wl (τ' := [(1, AV.sl a4.length (a4.map AV.f32)), (2, AV.f32 a5), (3, AV.i64 a6), (4, AV.ptr [AV.i64 a0, AV.sl a1.length (a1.map AV.i64), AV.sl a2.length (a2.map AV.i64), AV.sl a3.length (a3.map AV.f32)]), (10, AV.oref 4 1 0 r9.length), (11, AV.i64 r7), (12, AV.b r8), (13, AV.optr 3 2 0), (14, AV.oref 5 1 0 r14.length), (15, AV.oref 6 1 0 r17.length), (16, AV.i64 r15), (17, AV.b r16), (74, AV.b true)]) (Γ' := [⟨2, some (r11.map AV.i64)⟩, ⟨2, some (r12.map AV.i64)⟩, ⟨2, some (r13.map AV.f32)⟩, ⟨2, some [AV.i64 r10, AV.oref 0 2 0 r11.length, AV.oref 1 2 0 r12.length, AV.oref 2 2 0 r13.length]⟩, ⟨1, some (r9.map AV.f32)⟩, ⟨1, some (r14.map AV.f32)⟩, ⟨1, some (r17.map AV.f32)⟩, ⟨0, none⟩]) ⟨(ALe.refl _), (ALe.refl _), (ALe.refl _), (ALe.refl _), (ALe.refl _), (ALe.refl _), (ALe.refl _), (ALe.refl _), (ALe.refl _), (ALe.refl _), (ALe.refl _), (ALe.refl _), (ALe.refl _), trivial⟩ ⟨⟨rfl, .inr rfl⟩, ⟨rfl, .inr rfl⟩, ⟨rfl, .inr rfl⟩, ⟨rfl, .inr rfl⟩, ⟨rfl, .inr rfl⟩, ⟨rfl, .inr rfl⟩, ⟨rfl, .inr rfl⟩, ⟨rfl, .inr rfl⟩, trivial⟩ ?_
              refine RunC.cond_true rfl rfl ?_
              refine RunC.seq ?_
              refine RunC.regionW ?_
              refine ROps.l (r := AV.b false) rfl rfl rfl (LOp.assign rfl rfl) ?_
              refine ROps.nil ?_
              refine RunC.ret ?_
              have hq := Option.some.inj h
              subst q0
              exact bodyQ.pure (.inr rfl) rfl (Res.one rfl (RV.tmp rfl))
      · refine RunC.regionW ?_
        refine ROps.l (r := AV.oref 6 1 0 r17.length) rfl rfl rfl (LOp.move rfl rfl) ?_
        refine ROps.l (r := AV.oref 4 1 0 r9.length) rfl rfl rfl (LOp.move rfl rfl) ?_
        refine ROps.d (r := AV.b false) (fs := []) (Γ' := [⟨2, some (r11.map AV.i64)⟩, ⟨2, some (r12.map AV.i64)⟩, ⟨2, some (r13.map AV.f32)⟩, ⟨2, some [AV.i64 r10, AV.oref 0 2 0 r11.length, AV.oref 1 2 0 r12.length, AV.oref 2 2 0 r13.length]⟩, ⟨1, some (r9.map AV.f32)⟩, ⟨1, some (r14.map AV.f32)⟩, ⟨1, some (r17.map AV.f32)⟩, ⟨0, none⟩]) rfl rfl rfl (TOp.eqb (TOp.callB (CallAs.func ent12 rfl rfl) (Bors.cons (Bor.own (f := AV.f32) (fun _ => rfl) rfl rfl) (Bors.cons (Bor.own (f := AV.f32) (fun _ => rfl) rfl rfl) Bors.nil)) rfl rfl (w_eqFloat32S_ok r17 r9 r18 hf10)) hc11) rfl ?_
        refine ROps.l (r := AV.b true) rfl rfl rfl (LOp.eqb (LOp.not rfl rfl) rfl) ?_
        refine ROps.l (r := AV.b true) rfl rfl rfl (LOp.move rfl rfl) ?_
        refine ROps.s rfl rfl rfl ?_
        refine ROps.s rfl rfl rfl ?_
        refine ROps.s rfl rfl rfl ?_
        refine ROps.l (r := AV.b true) rfl rfl rfl (LOp.pick_true rfl rfl rfl) ?_
        refine ROps.l (r := AV.b true) rfl rfl rfl (LOp.move rfl rfl) ?_
        refine ROps.s rfl rfl rfl ?_
        refine ROps.s rfl rfl rfl ?_
        refine ROps.s rfl rfl rfl ?_
        refine ROps.l (r := AV.b true) rfl rfl rfl (LOp.pick_true rfl rfl rfl) ?_
        refine ROps.nil ?_
        refine RunC.cond_true rfl rfl ?_
        refine RunC.seq ?_
        refine RunC.regionW ?_
        refine ROps.l (r := AV.b false) rfl rfl rfl (LOp.assign rfl rfl) ?_
        refine ROps.nil ?_
        refine RunC.ret ?_
        have hq := Option.some.inj h
        subst q0
        exact bodyQ.pure (.inr rfl) rfl (Res.one rfl (RV.tmp rfl))
end Go.Proofs.Ytcoookgeialmnaa
