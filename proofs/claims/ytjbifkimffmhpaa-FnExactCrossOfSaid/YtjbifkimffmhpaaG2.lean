/- Generated. -/
import Derived.Test.YtjbifkimffmhpaaG1
namespace Go.Proofs.Ytjbifkimffmhpaa
open Go Go.AM
set_option maxRecDepth 20000
set_option maxHeartbeats 4000000
set_option linter.unusedVariables false
set_option linter.unusedSimpArgs false
noncomputable def w_FnExactCrossOf (a0 : Int) (a1 : Int) (a2 : List F) (a3 : F) (a4 : Int) : Option (Bool) :=
  obind (w_szMatrix a0 a1 a2 1048576) fun (r1 : Int) =>
  bsel (decide (r1 < 0)) (
    some true) (
    obind3 (w_toMatrix a0 a1 a2) fun (r2 : Int) (r3 : Int) (r4 : List F) =>
    obind6 (s_CrossOf r2 r3 r4 a3 a4) fun (r5 : Int) (r6 : Int) (r7 : Bool) (r8 : List F) (r9 : List Int) (r10 : List Int) =>
    obind3 (w_toMatrix a0 a1 a2) fun (r11 : Int) (r12 : Int) (r13 : List F) =>
    obind6 (i_CrossOf r11 r12 r13 a3 a4) fun (r14 : Int) (r15 : Int) (r16 : Bool) (r17 : List F) (r18 : List Int) (r19 : List Int) =>
    obind (w_eqMatrix r14 r15 r17 r5 r6 r8) fun (r20 : Bool) =>
    bsel r20 (
      obind (w_eqInt64S r18 r9) fun (r21 : Bool) =>
      bsel r21 (
        obind (w_eqInt64S r19 r10) fun (r22 : Bool) =>
        bsel r22 (
          bsel (!(r16 == r7)) (
            some false) (
            obind3 (w_toMatrix a0 a1 a2) fun (r23 : Int) (r24 : Int) (r25 : List F) =>
            obind (w_eqMatrix r11 r12 r13 r23 r24 r25) fun (r26 : Bool) =>
            bsel r26 (
              obind2 (w_markMatrix_02o r11 r12 1 r13) fun (r27 : Int) (r28 : List F) =>
              need (decide (r28.length = r13.length)) <|
              bsel (decide (r27 < 0)) (
                some false) (
                obind (w_eqMatrix r14 r15 r17 r5 r6 r8) fun (r29 : Bool) =>
                bsel r29 (
                  obind (w_eqInt64S r18 r9) fun (r30 : Bool) =>
                  bsel r30 (
                    obind (w_eqInt64S r19 r10) fun (r31 : Bool) =>
                    bsel r31 (
                      obind2 (w_markMatrix_02o r14 r15 1 r17) fun (r32 : Int) (r33 : List F) =>
                      need (decide (r33.length = r17.length)) <|
                      obind2 (w_markInt64S_0o r32 r18) fun (r34 : Int) (r35 : List Int) =>
                      need (decide (r35.length = r18.length)) <|
                      obind2 (w_markInt64S_0o r34 r19) fun (r36 : Int) (r37 : List Int) =>
                      need (decide (r37.length = r19.length)) <|
                      obind (w_heldMatrix r14 r15 r33 1) fun (r38 : Int) =>
                      bsel (decide (r38 < 0)) (
                        some false) (
                        obind (w_heldInt64S r35 r38) fun (r39 : Int) =>
                        bsel (decide (r39 < 0)) (
                          some false) (
                          obind (w_heldInt64S r37 r39) fun (r40 : Int) =>
                          bsel (decide (r40 < 0)) (
                            some false) (
                            bsel (!decide (r40 = r36)) (
                              some false) (
                              obind3 (w_toMatrix a0 a1 a2) fun (r41 : Int) (r42 : Int) (r43 : List F) =>
                              obind6 (i_CrossOf r41 r42 r43 a3 a4) fun (r44 : Int) (r45 : Int) (r46 : Bool) (r47 : List F) (r48 : List Int) (r49 : List Int) =>
                              obind (w_eqMatrix r44 r45 r47 r5 r6 r8) fun (r50 : Bool) =>
                              bsel r50 (
                                obind (w_eqInt64S r48 r9) fun (r51 : Bool) =>
                                bsel r51 (
                                  obind (w_eqInt64S r49 r10) fun (r52 : Bool) =>
                                  bsel r52 (
                                    bsel (!(r46 == r7)) (
                                      some false) (
                                      obind (w_heldMatrix r14 r15 r33 1) fun (r53 : Int) =>
                                      bsel (decide (r53 < 0)) (
                                        some false) (
                                        obind (w_heldInt64S r35 r53) fun (r54 : Int) =>
                                        bsel (decide (r54 < 0)) (
                                          some false) (
                                          obind (w_heldInt64S r37 r54) fun (r55 : Int) =>
                                          bsel (decide (r55 < 0)) (
                                            some false) (
                                            bsel (!decide (r55 = r36)) (
                                              some false) (
                                              some true)))))) (
                                    some false)) (
                                  some false)) (
                                some false)))))) (
                      some false)) (
                    some false)) (
                  some false))) (
              some false))) (
          some false)) (
        some false)) (
      some false))
theorem w_FnExactCrossOf_ok (a0 : Int) (a1 : Int) (a2 : List F) (a3 : F) (a4 : Int) (q0 : Bool) (h : w_FnExactCrossOf a0 a1 a2 a3 a4 = some q0) : Ev Try.prog 3 [AV.agg [AV.i64 a0, AV.i64 a1, AV.sl a2.length (a2.map AV.f32)], AV.f32 a3, AV.i64 a4] [] (AV.b q0) [] := by
  refine Ev.start Try.func3 rfl rfl 13 (τ := [(0, AV.agg [AV.i64 a0, AV.i64 a1, AV.sl a2.length (a2.map AV.f32)]), (1, AV.f32 a3), (2, AV.i64 a4)]) rfl (Γ' := [⟨0, none⟩, ⟨0, none⟩, ⟨0, none⟩, ⟨0, none⟩, ⟨0, none⟩, ⟨0, none⟩, ⟨0, none⟩, ⟨0, none⟩, ⟨0, none⟩, ⟨0, none⟩, ⟨0, none⟩, ⟨0, none⟩, ⟨0, none⟩]) rfl (n := 180) rfl (g := 0) rfl ?_
  unfold w_FnExactCrossOf at h
  refine RunC.seq ?_
  refine RunC.regionW ?_
  refine ROps.d (r := AV.ptr [AV.i64 a0, AV.i64 a1, AV.sl a2.length (a2.map AV.f32)]) (fs := []) (Γ' := [⟨0, none⟩, ⟨0, none⟩, ⟨0, none⟩, ⟨0, none⟩, ⟨0, none⟩, ⟨0, none⟩, ⟨0, none⟩, ⟨0, none⟩, ⟨0, none⟩, ⟨0, none⟩, ⟨0, none⟩, ⟨0, none⟩, ⟨0, none⟩]) rfl rfl rfl (TOp.box_s rfl rfl rfl) rfl ?_
  refine ROps.l (r := AV.b false) rfl rfl rfl (LOp.assign rfl rfl) ?_
  refine ROps.nil ?_
  refine RunC.seq ?_
  refine RunC.regionW ?_
  refine ROps.l (r := AV.i64 1048576) rfl rfl rfl (LOp.assign rfl rfl) ?_
  refine ROps.nil ?_
  refine RunC.seq ?_
  obtain ⟨r1, hf1, h⟩ := obind_some h
  refine RunC.regionW ?_
  refine ROps.l (r := AV.agg [AV.i64 a0, AV.i64 a1, AV.sl a2.length (a2.map AV.f32)]) rfl rfl rfl (LOp.loadAgg agg24 siz24 rfl rfl rfl rfl) ?_
  refine ROps.l (r := AV.i64 1048576) rfl rfl rfl (LOp.move rfl rfl) ?_
  refine ROps.d (r := AV.i64 r1) (fs := []) (Γ' := [⟨0, none⟩, ⟨0, none⟩, ⟨0, none⟩, ⟨0, none⟩, ⟨0, none⟩, ⟨0, none⟩, ⟨0, none⟩, ⟨0, none⟩, ⟨0, none⟩, ⟨0, none⟩, ⟨0, none⟩, ⟨0, none⟩, ⟨0, none⟩]) rfl rfl rfl (TOp.callB (CallAs.func ent9 rfl rfl) (Bors.cons (Bor.agg (Bors.cons (Bor.pure rfl) (Bors.cons (Bor.pure rfl) (Bors.cons (Bor.sl (fun _ => rfl)) Bors.nil)))) (Bors.cons (Bor.pure rfl) Bors.nil)) rfl rfl (w_szMatrix_ok a0 a1 a2 1048576 r1 hf1)) rfl ?_
  refine ROps.l (r := AV.i64 r1) rfl rfl rfl (LOp.assign rfl rfl) ?_
  refine ROps.nil ?_
  refine RunC.seq ?_
  refine RunC.seq ?_
  rcases bsel_some h with ⟨hc2, h⟩ | ⟨hc2, h⟩
  · refine RunC.regionW ?_
    refine ROps.l (r := AV.i64 r1) rfl rfl rfl (LOp.move rfl rfl) ?_
    refine ROps.l (r := AV.b true) rfl rfl rfl (LOp.eqb (LOp.lss rfl rfl rfl) hc2) ?_
    refine ROps.nil ?_
    refine RunC.cond_true rfl rfl ?_
    refine RunC.seq ?_
    refine RunC.regionW ?_
    refine ROps.l (r := AV.b true) rfl rfl rfl (LOp.assign rfl rfl) ?_
    refine ROps.nil ?_
    refine RunC.ret ?_
    have hq := Option.some.inj h
    subst q0
    exact bodyQ.pure (.inr rfl) rfl (Res.one rfl (RV.tmp rfl))
  · refine RunC.regionW ?_
    refine ROps.l (r := AV.i64 r1) rfl rfl rfl (LOp.move rfl rfl) ?_
    refine ROps.l (r := AV.b false) rfl rfl rfl (LOp.eqb (LOp.lss rfl rfl rfl) hc2) ?_
    refine ROps.nil ?_
    refine RunC.cond_false rfl rfl ?_
    refine RunC.skip ?_
    refine RunC.seq ?_
    obtain ⟨r2, r3, r4, hf3, h⟩ := obind3_some h
    obtain ⟨r5, r6, r7, r8, r9, r10, hf4, h⟩ := obind6_some h
    refine RunC.regionW ?_
    refine ROps.l (r := AV.agg [AV.i64 a0, AV.i64 a1, AV.sl a2.length (a2.map AV.f32)]) rfl rfl rfl (LOp.loadAgg agg24 siz24 rfl rfl rfl rfl) ?_
    refine ROps.d (r := AV.agg [AV.i64 r2, AV.i64 r3, AV.oref 0 1 0 r4.length]) (fs := [(0, (r4.map AV.f32))]) (Γ' := [⟨1, some (r4.map AV.f32)⟩, ⟨0, none⟩, ⟨0, none⟩, ⟨0, none⟩, ⟨0, none⟩, ⟨0, none⟩, ⟨0, none⟩, ⟨0, none⟩, ⟨0, none⟩, ⟨0, none⟩, ⟨0, none⟩, ⟨0, none⟩, ⟨0, none⟩]) rfl rfl rfl (TOp.callBN (ls := [(r4.map AV.f32)]) [0] (CallAs.func ent11 rfl rfl) (Bors.cons (Bor.agg (Bors.cons (Bor.pure rfl) (Bors.cons (Bor.pure rfl) (Bors.cons (Bor.sl (fun _ => rfl)) Bors.nil)))) Bors.nil) rfl (w_toMatrix_ok a0 a1 a2 r2 r3 r4 hf3) (and_all (lts0_map (f := AV.f32) (fun _ => rfl) _) rfl) (and_all (noss_map (f := AV.f32) (fun _ => rfl) _) rfl) rfl (by decide) (ns_of ⟨⟨_, rfl⟩, trivial⟩)) rfl ?_
    refine ROps.l (r := AV.f32 a3) rfl rfl rfl (LOp.move rfl rfl) ?_
    refine ROps.l (r := AV.i64 a4) rfl rfl rfl (LOp.move rfl rfl) ?_
    refine ROps.d (r := AV.tup [AV.agg [AV.i64 r5, AV.i64 r6, AV.oref 1 1 0 r8.length], AV.oref 2 1 0 r9.length, AV.oref 3 1 0 r10.length, AV.b r7]) (fs := [(1, (r8.map AV.f32)), (2, (r9.map AV.i64)), (3, (r10.map AV.i64))]) (Γ' := [⟨1, some (r4.map AV.f32)⟩, ⟨1, some (r8.map AV.f32)⟩, ⟨1, some (r9.map AV.i64)⟩, ⟨1, some (r10.map AV.i64)⟩, ⟨0, none⟩, ⟨0, none⟩, ⟨0, none⟩, ⟨0, none⟩, ⟨0, none⟩, ⟨0, none⟩, ⟨0, none⟩, ⟨0, none⟩, ⟨0, none⟩]) rfl rfl rfl (TOp.callBN (ls := [(r8.map AV.f32), (r9.map AV.i64), (r10.map AV.i64)]) [1, 2, 3] (CallAs.func ent10 rfl rfl) (Bors.cons (Bor.agg (Bors.cons (Bor.pure rfl) (Bors.cons (Bor.pure rfl) (Bors.cons (Bor.own (f := AV.f32) (fun _ => rfl) rfl rfl) Bors.nil)))) (Bors.cons (Bor.pure rfl) (Bors.cons (Bor.pure rfl) Bors.nil))) rfl (s_CrossOf_ok r2 r3 r4 a3 a4 r5 r6 r7 r8 r9 r10 hf4) (and_all (lts0_map (f := AV.f32) (fun _ => rfl) _) (and_all (lts0_map (f := AV.i64) (fun _ => rfl) _) (and_all (lts0_map (f := AV.i64) (fun _ => rfl) _) rfl))) (and_all (noss_map (f := AV.f32) (fun _ => rfl) _) (and_all (noss_map (f := AV.i64) (fun _ => rfl) _) (and_all (noss_map (f := AV.i64) (fun _ => rfl) _) rfl))) rfl (by decide) (ns_of ⟨⟨_, rfl⟩, ⟨_, rfl⟩, ⟨_, rfl⟩, trivial⟩)) rfl ?_
    refine ROps.l (r := AV.tup [AV.agg [AV.i64 r5, AV.i64 r6, AV.oref 1 1 0 r8.length], AV.oref 2 1 0 r9.length, AV.oref 3 1 0 r10.length, AV.b r7]) rfl rfl rfl (LOp.move rfl rfl) ?_
    refine ROps.l (r := AV.agg [AV.i64 r5, AV.i64 r6, AV.oref 1 1 0 r8.length]) rfl rfl rfl (LOp.extract rfl rfl rfl) ?_
    refine ROps.l (r := AV.oref 2 1 0 r9.length) rfl rfl rfl (LOp.extract rfl rfl rfl) ?_
    refine ROps.l (r := AV.oref 3 1 0 r10.length) rfl rfl rfl (LOp.extract rfl rfl rfl) ?_
    refine ROps.l (r := AV.b r7) rfl rfl rfl (LOp.extract rfl rfl rfl) ?_
    refine ROps.d (r := AV.optr 4 1 0) (fs := [(4, [AV.i64 0, AV.i64 0, AV.nilsl])]) (Γ' := [⟨1, some (r4.map AV.f32)⟩, ⟨1, some (r8.map AV.f32)⟩, ⟨1, some (r9.map AV.i64)⟩, ⟨1, some (r10.map AV.i64)⟩, ⟨1, some [AV.i64 0, AV.i64 0, AV.nilsl]⟩, ⟨0, none⟩, ⟨0, none⟩, ⟨0, none⟩, ⟨0, none⟩, ⟨0, none⟩, ⟨0, none⟩, ⟨0, none⟩, ⟨0, none⟩]) rfl rfl rfl (TOp.alloc_o (g := ⟨0, none⟩) 4 rfl zer27 zok27 rfl) rfl ?_
    refine ROps.store_le (r := AV.agg [AV.i64 r5, AV.i64 r6, AV.oref 1 1 0 r8.length]) (l' := [AV.i64 r5, AV.i64 r6, AV.oref 1 1 0 r8.length]) (Γ' := [⟨1, some (r4.map AV.f32)⟩, ⟨1, some (r8.map AV.f32)⟩, ⟨1, some (r9.map AV.i64)⟩, ⟨1, some (r10.map AV.i64)⟩, ⟨1, some [AV.i64 r5, AV.i64 r6, AV.oref 1 1 0 r8.length]⟩, ⟨0, none⟩, ⟨0, none⟩, ⟨0, none⟩, ⟨0, none⟩, ⟨0, none⟩, ⟨0, none⟩, ⟨0, none⟩, ⟨0, none⟩]) rfl siz27 rfl rfl rfl (ALe.refl _) rfl rfl rfl rfl (Nat.le_of_ble_eq_true rfl) rfl rfl ?_
    refine ROps.l (r := AV.oref 2 1 0 r9.length) rfl rfl rfl (LOp.assign rfl rfl) ?_
    refine ROps.l (r := AV.oref 3 1 0 r10.length) rfl rfl rfl (LOp.assign rfl rfl) ?_
    refine ROps.l (r := AV.b r7) rfl rfl rfl (LOp.assign rfl rfl) ?_
    refine ROps.nil ?_
    refine RunC.wl (τ' := [(1, AV.f32 a3), (2, AV.i64 a4), (3, AV.ptr [AV.i64 a0, AV.i64 a1, AV.sl a2.length (a2.map AV.f32)]), (8, AV.optr 4 1 0), (9, AV.oref 2 1 0 r9.length), (10, AV.oref 3 1 0 r10.length), (11, AV.b r7)]) (Γ' := [⟨1, none⟩, ⟨1, some (r8.map AV.f32)⟩, ⟨1, some (r9.map AV.i64)⟩, ⟨1, some (r10.map AV.i64)⟩, ⟨1, some [AV.i64 r5, AV.i64 r6, AV.oref 1 1 0 r8.length]⟩, ⟨0, none⟩, ⟨0, none⟩, ⟨0, none⟩, ⟨0, none⟩, ⟨0, none⟩, ⟨0, none⟩, ⟨0, none⟩, ⟨0, none⟩]) ⟨(ALe.refl _), (ALe.refl _), (ALe.refl _), (ALe.refl _), (ALe.refl _), (ALe.refl _), (ALe.refl _), trivial⟩ ⟨⟨rfl, .inl rfl⟩, ⟨rfl, .inr rfl⟩, ⟨rfl, .inr rfl⟩, ⟨rfl, .inr rfl⟩, ⟨rfl, .inr rfl⟩, ⟨rfl, .inr rfl⟩, ⟨rfl, .inr rfl⟩, ⟨rfl, .inr rfl⟩, ⟨rfl, .inr rfl⟩, ⟨rfl, .inr rfl⟩, ⟨rfl, .inr rfl⟩, ⟨rfl, .inr rfl⟩, ⟨rfl, .inr rfl⟩, trivial⟩ ?_
    refine RunC.seq ?_
    obtain ⟨r11, r12, r13, hf5, h⟩ := obind3_some h
    refine RunC.regionW ?_
    refine ROps.l (r := AV.agg [AV.i64 a0, AV.i64 a1, AV.sl a2.length (a2.map AV.f32)]) rfl rfl rfl (LOp.loadAgg agg24 siz24 rfl rfl rfl rfl) ?_
    refine ROps.d (r := AV.agg [AV.i64 r11, AV.i64 r12, AV.oref 0 2 0 r13.length]) (fs := [(0, (r13.map AV.f32))]) (Γ' := [⟨2, some (r13.map AV.f32)⟩, ⟨1, some (r8.map AV.f32)⟩, ⟨1, some (r9.map AV.i64)⟩, ⟨1, some (r10.map AV.i64)⟩, ⟨1, some [AV.i64 r5, AV.i64 r6, AV.oref 1 1 0 r8.length]⟩, ⟨0, none⟩, ⟨0, none⟩, ⟨0, none⟩, ⟨0, none⟩, ⟨0, none⟩, ⟨0, none⟩, ⟨0, none⟩, ⟨0, none⟩]) rfl rfl rfl (TOp.callBN (ls := [(r13.map AV.f32)]) [0] (CallAs.func ent11 rfl rfl) (Bors.cons (Bor.agg (Bors.cons (Bor.pure rfl) (Bors.cons (Bor.pure rfl) (Bors.cons (Bor.sl (fun _ => rfl)) Bors.nil)))) Bors.nil) rfl (w_toMatrix_ok a0 a1 a2 r11 r12 r13 hf5) (and_all (lts0_map (f := AV.f32) (fun _ => rfl) _) rfl) (and_all (noss_map (f := AV.f32) (fun _ => rfl) _) rfl) rfl (by decide) (ns_of ⟨⟨_, rfl⟩, trivial⟩)) rfl ?_
    refine ROps.d (r := AV.optr 5 1 0) (fs := [(5, [AV.i64 0, AV.i64 0, AV.nilsl])]) (Γ' := [⟨2, some (r13.map AV.f32)⟩, ⟨1, some (r8.map AV.f32)⟩, ⟨1, some (r9.map AV.i64)⟩, ⟨1, some (r10.map AV.i64)⟩, ⟨1, some [AV.i64 r5, AV.i64 r6, AV.oref 1 1 0 r8.length]⟩, ⟨1, some [AV.i64 0, AV.i64 0, AV.nilsl]⟩, ⟨0, none⟩, ⟨0, none⟩, ⟨0, none⟩, ⟨0, none⟩, ⟨0, none⟩, ⟨0, none⟩, ⟨0, none⟩]) rfl rfl rfl (TOp.alloc_o (g := ⟨0, none⟩) 5 rfl zer27 zok27 rfl) rfl ?_
    refine ROps.store_le (r := AV.agg [AV.i64 r11, AV.i64 r12, AV.oref 0 2 0 r13.length]) (l' := [AV.i64 r11, AV.i64 r12, AV.oref 0 2 0 r13.length]) (Γ' := [⟨2, some (r13.map AV.f32)⟩, ⟨1, some (r8.map AV.f32)⟩, ⟨1, some (r9.map AV.i64)⟩, ⟨1, some (r10.map AV.i64)⟩, ⟨1, some [AV.i64 r5, AV.i64 r6, AV.oref 1 1 0 r8.length]⟩, ⟨1, some [AV.i64 r11, AV.i64 r12, AV.oref 0 2 0 r13.length]⟩, ⟨0, none⟩, ⟨0, none⟩, ⟨0, none⟩, ⟨0, none⟩, ⟨0, none⟩, ⟨0, none⟩, ⟨0, none⟩]) rfl siz27 rfl rfl rfl (ALe.refl _) rfl rfl rfl rfl (Nat.le_of_ble_eq_true rfl) rfl rfl ?_
    refine ROps.nil ?_
    refine RunC.seq ?_
    obtain ⟨r14, r15, r16, r17, r18, r19, hf6, h⟩ := obind6_some h
    refine RunC.regionW ?_
    refine ROps.d (r := AV.agg [AV.i64 r11, AV.i64 r12, AV.oref 0 2 0 r13.length]) (fs := []) (Γ' := [⟨2, some (r13.map AV.f32)⟩, ⟨1, some (r8.map AV.f32)⟩, ⟨1, some (r9.map AV.i64)⟩, ⟨1, some (r10.map AV.i64)⟩, ⟨1, some [AV.i64 r5, AV.i64 r6, AV.oref 1 1 0 r8.length]⟩, ⟨1, some [AV.i64 r11, AV.i64 r12, AV.oref 0 2 0 r13.length]⟩, ⟨0, none⟩, ⟨0, none⟩, ⟨0, none⟩, ⟨0, none⟩, ⟨0, none⟩, ⟨0, none⟩, ⟨0, none⟩]) rfl rfl rfl (TOp.loadAgg_o rfl agg27 siz27 rfl rfl rfl rfl) rfl ?_
    refine ROps.l (r := AV.f32 a3) rfl rfl rfl (LOp.move rfl rfl) ?_
    refine ROps.l (r := AV.i64 a4) rfl rfl rfl (LOp.move rfl rfl) ?_
    refine ROps.d (r := AV.tup [AV.agg [AV.i64 r14, AV.i64 r15, AV.oref 6 1 0 r17.length], AV.oref 7 1 0 r18.length, AV.oref 8 1 0 r19.length, AV.b r16]) (fs := [(6, (r17.map AV.f32)), (7, (r18.map AV.i64)), (8, (r19.map AV.i64))]) (Γ' := [⟨2, some (r13.map AV.f32)⟩, ⟨1, some (r8.map AV.f32)⟩, ⟨1, some (r9.map AV.i64)⟩, ⟨1, some (r10.map AV.i64)⟩, ⟨1, some [AV.i64 r5, AV.i64 r6, AV.oref 1 1 0 r8.length]⟩, ⟨1, some [AV.i64 r11, AV.i64 r12, AV.oref 0 2 0 r13.length]⟩, ⟨1, some (r17.map AV.f32)⟩, ⟨1, some (r18.map AV.i64)⟩, ⟨1, some (r19.map AV.i64)⟩, ⟨0, none⟩, ⟨0, none⟩, ⟨0, none⟩, ⟨0, none⟩]) rfl rfl rfl (TOp.callBN (ls := [(r17.map AV.f32), (r18.map AV.i64), (r19.map AV.i64)]) [6, 7, 8] (CallAs.func ent12 rfl rfl) (Bors.cons (Bor.agg (Bors.cons (Bor.pure rfl) (Bors.cons (Bor.pure rfl) (Bors.cons (Bor.own (f := AV.f32) (fun _ => rfl) rfl rfl) Bors.nil)))) (Bors.cons (Bor.pure rfl) (Bors.cons (Bor.pure rfl) Bors.nil))) rfl (i_CrossOf_ok r11 r12 r13 a3 a4 r14 r15 r16 r17 r18 r19 hf6) (and_all (lts0_map (f := AV.f32) (fun _ => rfl) _) (and_all (lts0_map (f := AV.i64) (fun _ => rfl) _) (and_all (lts0_map (f := AV.i64) (fun _ => rfl) _) rfl))) (and_all (noss_map (f := AV.f32) (fun _ => rfl) _) (and_all (noss_map (f := AV.i64) (fun _ => rfl) _) (and_all (noss_map (f := AV.i64) (fun _ => rfl) _) rfl))) rfl (by decide) (ns_of ⟨⟨_, rfl⟩, ⟨_, rfl⟩, ⟨_, rfl⟩, trivial⟩)) rfl ?_
    refine ROps.l (r := AV.tup [AV.agg [AV.i64 r14, AV.i64 r15, AV.oref 6 1 0 r17.length], AV.oref 7 1 0 r18.length, AV.oref 8 1 0 r19.length, AV.b r16]) rfl rfl rfl (LOp.move rfl rfl) ?_
    refine ROps.l (r := AV.agg [AV.i64 r14, AV.i64 r15, AV.oref 6 1 0 r17.length]) rfl rfl rfl (LOp.extract rfl rfl rfl) ?_
    refine ROps.l (r := AV.oref 7 1 0 r18.length) rfl rfl rfl (LOp.extract rfl rfl rfl) ?_
    refine ROps.l (r := AV.oref 8 1 0 r19.length) rfl rfl rfl (LOp.extract rfl rfl rfl) ?_
    refine ROps.l (r := AV.b r16) rfl rfl rfl (LOp.extract rfl rfl rfl) ?_
    refine ROps.d (r := AV.optr 9 1 0) (fs := [(9, [AV.i64 0, AV.i64 0, AV.nilsl])]) (Γ' := [⟨2, some (r13.map AV.f32)⟩, ⟨1, some (r8.map AV.f32)⟩, ⟨1, some (r9.map AV.i64)⟩, ⟨1, some (r10.map AV.i64)⟩, ⟨1, some [AV.i64 r5, AV.i64 r6, AV.oref 1 1 0 r8.length]⟩, ⟨1, some [AV.i64 r11, AV.i64 r12, AV.oref 0 2 0 r13.length]⟩, ⟨1, some (r17.map AV.f32)⟩, ⟨1, some (r18.map AV.i64)⟩, ⟨1, some (r19.map AV.i64)⟩, ⟨1, some [AV.i64 0, AV.i64 0, AV.nilsl]⟩, ⟨0, none⟩, ⟨0, none⟩, ⟨0, none⟩]) rfl rfl rfl (TOp.alloc_o (g := ⟨0, none⟩) 9 rfl zer27 zok27 rfl) rfl ?_
    refine ROps.store_le (r := AV.agg [AV.i64 r14, AV.i64 r15, AV.oref 6 1 0 r17.length]) (l' := [AV.i64 r14, AV.i64 r15, AV.oref 6 1 0 r17.length]) (Γ' := [⟨2, some (r13.map AV.f32)⟩, ⟨1, some (r8.map AV.f32)⟩, ⟨1, some (r9.map AV.i64)⟩, ⟨1, some (r10.map AV.i64)⟩, ⟨1, some [AV.i64 r5, AV.i64 r6, AV.oref 1 1 0 r8.length]⟩, ⟨1, some [AV.i64 r11, AV.i64 r12, AV.oref 0 2 0 r13.length]⟩, ⟨1, some (r17.map AV.f32)⟩, ⟨1, some (r18.map AV.i64)⟩, ⟨1, some (r19.map AV.i64)⟩, ⟨1, some [AV.i64 r14, AV.i64 r15, AV.oref 6 1 0 r17.length]⟩, ⟨0, none⟩, ⟨0, none⟩, ⟨0, none⟩]) rfl siz27 rfl rfl rfl (ALe.refl _) rfl rfl rfl rfl (Nat.le_of_ble_eq_true rfl) rfl rfl ?_
    refine ROps.l (r := AV.oref 7 1 0 r18.length) rfl rfl rfl (LOp.assign rfl rfl) ?_
    refine ROps.l (r := AV.oref 8 1 0 r19.length) rfl rfl rfl (LOp.assign rfl rfl) ?_
    refine ROps.l (r := AV.b r16) rfl rfl rfl (LOp.assign rfl rfl) ?_
    refine ROps.nil ?_
    refine RunC.seq ?_
    refine RunC.seq ?_
    obtain ⟨r20, hf7, h⟩ := obind_some h
    rcases bsel_some h with ⟨hc8, h⟩ | ⟨hc8, h⟩
    · obtain ⟨r21, hf9, h⟩ := obind_some h
      rcases bsel_some h with ⟨hc10, h⟩ | ⟨hc10, h⟩
      · obtain ⟨r22, hf11, h⟩ := obind_some h
        rcases bsel_some h with ⟨hc12, h⟩ | ⟨hc12, h⟩
        · rcases bsel_some h with ⟨hc13, h⟩ | ⟨hc13, h⟩
          · refine RunC.regionW ?_
            refine ROps.d (r := AV.agg [AV.i64 r14, AV.i64 r15, AV.oref 6 1 0 r17.length]) (fs := []) (Γ' := [⟨2, some (r13.map AV.f32)⟩, ⟨1, some (r8.map AV.f32)⟩, ⟨1, some (r9.map AV.i64)⟩, ⟨1, some (r10.map AV.i64)⟩, ⟨1, some [AV.i64 r5, AV.i64 r6, AV.oref 1 1 0 r8.length]⟩, ⟨1, some [AV.i64 r11, AV.i64 r12, AV.oref 0 2 0 r13.length]⟩, ⟨1, some (r17.map AV.f32)⟩, ⟨1, some (r18.map AV.i64)⟩, ⟨1, some (r19.map AV.i64)⟩, ⟨1, some [AV.i64 r14, AV.i64 r15, AV.oref 6 1 0 r17.length]⟩, ⟨0, none⟩, ⟨0, none⟩, ⟨0, none⟩]) rfl rfl rfl (TOp.loadAgg_o rfl agg27 siz27 rfl rfl rfl rfl) rfl ?_
            refine ROps.d (r := AV.agg [AV.i64 r5, AV.i64 r6, AV.oref 1 1 0 r8.length]) (fs := []) (Γ' := [⟨2, some (r13.map AV.f32)⟩, ⟨1, some (r8.map AV.f32)⟩, ⟨1, some (r9.map AV.i64)⟩, ⟨1, some (r10.map AV.i64)⟩, ⟨1, some [AV.i64 r5, AV.i64 r6, AV.oref 1 1 0 r8.length]⟩, ⟨1, some [AV.i64 r11, AV.i64 r12, AV.oref 0 2 0 r13.length]⟩, ⟨1, some (r17.map AV.f32)⟩, ⟨1, some (r18.map AV.i64)⟩, ⟨1, some (r19.map AV.i64)⟩, ⟨1, some [AV.i64 r14, AV.i64 r15, AV.oref 6 1 0 r17.length]⟩, ⟨0, none⟩, ⟨0, none⟩, ⟨0, none⟩]) rfl rfl rfl (TOp.loadAgg_o rfl agg27 siz27 rfl rfl rfl rfl) rfl ?_
            refine ROps.d (r := AV.b true) (fs := []) (Γ' := [⟨2, some (r13.map AV.f32)⟩, ⟨1, some (r8.map AV.f32)⟩, ⟨1, some (r9.map AV.i64)⟩, ⟨1, some (r10.map AV.i64)⟩, ⟨1, some [AV.i64 r5, AV.i64 r6, AV.oref 1 1 0 r8.length]⟩, ⟨1, some [AV.i64 r11, AV.i64 r12, AV.oref 0 2 0 r13.length]⟩, ⟨1, some (r17.map AV.f32)⟩, ⟨1, some (r18.map AV.i64)⟩, ⟨1, some (r19.map AV.i64)⟩, ⟨1, some [AV.i64 r14, AV.i64 r15, AV.oref 6 1 0 r17.length]⟩, ⟨0, none⟩, ⟨0, none⟩, ⟨0, none⟩]) rfl rfl rfl (TOp.eqb (TOp.callB (CallAs.func ent13 rfl rfl) (Bors.cons (Bor.agg (Bors.cons (Bor.pure rfl) (Bors.cons (Bor.pure rfl) (Bors.cons (Bor.own (f := AV.f32) (fun _ => rfl) rfl rfl) Bors.nil)))) (Bors.cons (Bor.agg (Bors.cons (Bor.pure rfl) (Bors.cons (Bor.pure rfl) (Bors.cons (Bor.own (f := AV.f32) (fun _ => rfl) rfl rfl) Bors.nil)))) Bors.nil)) rfl rfl (w_eqMatrix_ok r14 r15 r17 r5 r6 r8 r20 hf7)) hc8) rfl ?_
            refine ROps.l (r := AV.b false) rfl rfl rfl (LOp.eqb (LOp.not rfl rfl) rfl) ?_
            refine ROps.l (r := AV.b false) rfl rfl rfl (LOp.move rfl rfl) ?_
            refine ROps.l (r := AV.oref 7 1 0 r18.length) rfl rfl rfl (LOp.move rfl rfl) ?_
            refine ROps.l (r := AV.oref 2 1 0 r9.length) rfl rfl rfl (LOp.move rfl rfl) ?_
            refine ROps.d (r := AV.b true) (fs := []) (Γ' := [⟨2, some (r13.map AV.f32)⟩, ⟨1, some (r8.map AV.f32)⟩, ⟨1, some (r9.map AV.i64)⟩, ⟨1, some (r10.map AV.i64)⟩, ⟨1, some [AV.i64 r5, AV.i64 r6, AV.oref 1 1 0 r8.length]⟩, ⟨1, some [AV.i64 r11, AV.i64 r12, AV.oref 0 2 0 r13.length]⟩, ⟨1, some (r17.map AV.f32)⟩, ⟨1, some (r18.map AV.i64)⟩, ⟨1, some (r19.map AV.i64)⟩, ⟨1, some [AV.i64 r14, AV.i64 r15, AV.oref 6 1 0 r17.length]⟩, ⟨0, none⟩, ⟨0, none⟩, ⟨0, none⟩]) rfl rfl rfl (TOp.eqb (TOp.callB (CallAs.func ent14 rfl rfl) (Bors.cons (Bor.own (f := AV.i64) (fun _ => rfl) rfl rfl) (Bors.cons (Bor.own (f := AV.i64) (fun _ => rfl) rfl rfl) Bors.nil)) rfl rfl (w_eqInt64S_ok r18 r9 r21 hf9)) hc10) rfl ?_
            refine ROps.l (r := AV.b false) rfl rfl rfl (LOp.eqb (LOp.not rfl rfl) rfl) ?_
            refine ROps.l (r := AV.b false) rfl rfl rfl (LOp.pick_false rfl rfl rfl) ?_
            refine ROps.l (r := AV.b false) rfl rfl rfl (LOp.move rfl rfl) ?_
            refine ROps.l (r := AV.oref 8 1 0 r19.length) rfl rfl rfl (LOp.move rfl rfl) ?_
            refine ROps.l (r := AV.oref 3 1 0 r10.length) rfl rfl rfl (LOp.move rfl rfl) ?_
            refine ROps.d (r := AV.b true) (fs := []) (Γ' := [⟨2, some (r13.map AV.f32)⟩, ⟨1, some (r8.map AV.f32)⟩, ⟨1, some (r9.map AV.i64)⟩, ⟨1, some (r10.map AV.i64)⟩, ⟨1, some [AV.i64 r5, AV.i64 r6, AV.oref 1 1 0 r8.length]⟩, ⟨1, some [AV.i64 r11, AV.i64 r12, AV.oref 0 2 0 r13.length]⟩, ⟨1, some (r17.map AV.f32)⟩, ⟨1, some (r18.map AV.i64)⟩, ⟨1, some (r19.map AV.i64)⟩, ⟨1, some [AV.i64 r14, AV.i64 r15, AV.oref 6 1 0 r17.length]⟩, ⟨0, none⟩, ⟨0, none⟩, ⟨0, none⟩]) rfl rfl rfl (TOp.eqb (TOp.callB (CallAs.func ent14 rfl rfl) (Bors.cons (Bor.own (f := AV.i64) (fun _ => rfl) rfl rfl) (Bors.cons (Bor.own (f := AV.i64) (fun _ => rfl) rfl rfl) Bors.nil)) rfl rfl (w_eqInt64S_ok r19 r10 r22 hf11)) hc12) rfl ?_
            refine ROps.l (r := AV.b false) rfl rfl rfl (LOp.eqb (LOp.not rfl rfl) rfl) ?_
            refine ROps.l (r := AV.b false) rfl rfl rfl (LOp.pick_false rfl rfl rfl) ?_
            refine ROps.l (r := AV.b false) rfl rfl rfl (LOp.move rfl rfl) ?_
            refine ROps.l (r := AV.b r16) rfl rfl rfl (LOp.move rfl rfl) ?_
            refine ROps.l (r := AV.b r7) rfl rfl rfl (LOp.move rfl rfl) ?_
            refine ROps.l (r := AV.b true) rfl rfl rfl (LOp.eqb (LOp.neqb pun4 rfl rfl rfl) hc13) ?_
            refine ROps.l (r := AV.b true) rfl rfl rfl (LOp.pick_false rfl rfl rfl) ?_
            refine ROps.nil ?_
            refine RunC.cond_true rfl rfl ?_
            refine RunC.seq ?_
            refine RunC.regionW ?_
            refine ROps.l (r := AV.b false) rfl rfl rfl (LOp.assign rfl rfl) ?_
            refine ROps.nil ?_
            refine RunC.ret ?_
            have hq := Option.some.inj h
            subst q0
            exact bodyQ.pure (.inr rfl) rfl (Res.one rfl (RV.tmp rfl))
          · refine RunC.regionW ?_
            refine ROps.d (r := AV.agg [AV.i64 r14, AV.i64 r15, AV.oref 6 1 0 r17.length]) (fs := []) (Γ' := [⟨2, some (r13.map AV.f32)⟩, ⟨1, some (r8.map AV.f32)⟩, ⟨1, some (r9.map AV.i64)⟩, ⟨1, some (r10.map AV.i64)⟩, ⟨1, some [AV.i64 r5, AV.i64 r6, AV.oref 1 1 0 r8.length]⟩, ⟨1, some [AV.i64 r11, AV.i64 r12, AV.oref 0 2 0 r13.length]⟩, ⟨1, some (r17.map AV.f32)⟩, ⟨1, some (r18.map AV.i64)⟩, ⟨1, some (r19.map AV.i64)⟩, ⟨1, some [AV.i64 r14, AV.i64 r15, AV.oref 6 1 0 r17.length]⟩, ⟨0, none⟩, ⟨0, none⟩, ⟨0, none⟩]) rfl rfl rfl (TOp.loadAgg_o rfl agg27 siz27 rfl rfl rfl rfl) rfl ?_
            refine ROps.d (r := AV.agg [AV.i64 r5, AV.i64 r6, AV.oref 1 1 0 r8.length]) (fs := []) (Γ' := [⟨2, some (r13.map AV.f32)⟩, ⟨1, some (r8.map AV.f32)⟩, ⟨1, some (r9.map AV.i64)⟩, ⟨1, some (r10.map AV.i64)⟩, ⟨1, some [AV.i64 r5, AV.i64 r6, AV.oref 1 1 0 r8.length]⟩, ⟨1, some [AV.i64 r11, AV.i64 r12, AV.oref 0 2 0 r13.length]⟩, ⟨1, some (r17.map AV.f32)⟩, ⟨1, some (r18.map AV.i64)⟩, ⟨1, some (r19.map AV.i64)⟩, ⟨1, some [AV.i64 r14, AV.i64 r15, AV.oref 6 1 0 r17.length]⟩, ⟨0, none⟩, ⟨0, none⟩, ⟨0, none⟩]) rfl rfl rfl (TOp.loadAgg_o rfl agg27 siz27 rfl rfl rfl rfl) rfl ?_
            refine ROps.d (r := AV.b true) (fs := []) (Γ' := [⟨2, some (r13.map AV.f32)⟩, ⟨1, some (r8.map AV.f32)⟩, ⟨1, some (r9.map AV.i64)⟩, ⟨1, some (r10.map AV.i64)⟩, ⟨1, some [AV.i64 r5, AV.i64 r6, AV.oref 1 1 0 r8.length]⟩, ⟨1, some [AV.i64 r11, AV.i64 r12, AV.oref 0 2 0 r13.length]⟩, ⟨1, some (r17.map AV.f32)⟩, ⟨1, some (r18.map AV.i64)⟩, ⟨1, some (r19.map AV.i64)⟩, ⟨1, some [AV.i64 r14, AV.i64 r15, AV.oref 6 1 0 r17.length]⟩, ⟨0, none⟩, ⟨0, none⟩, ⟨0, none⟩]) rfl rfl rfl (TOp.eqb (TOp.callB (CallAs.func ent13 rfl rfl) (Bors.cons (Bor.agg (Bors.cons (Bor.pure rfl) (Bors.cons (Bor.pure rfl) (Bors.cons (Bor.own (f := AV.f32) (fun _ => rfl) rfl rfl) Bors.nil)))) (Bors.cons (Bor.agg (Bors.cons (Bor.pure rfl) (Bors.cons (Bor.pure rfl) (Bors.cons (Bor.own (f := AV.f32) (fun _ => rfl) rfl rfl) Bors.nil)))) Bors.nil)) rfl rfl (w_eqMatrix_ok r14 r15 r17 r5 r6 r8 r20 hf7)) hc8) rfl ?_
            refine ROps.l (r := AV.b false) rfl rfl rfl (LOp.eqb (LOp.not rfl rfl) rfl) ?_
            refine ROps.l (r := AV.b false) rfl rfl rfl (LOp.move rfl rfl) ?_
            refine ROps.l (r := AV.oref 7 1 0 r18.length) rfl rfl rfl (LOp.move rfl rfl) ?_
            refine ROps.l (r := AV.oref 2 1 0 r9.length) rfl rfl rfl (LOp.move rfl rfl) ?_
            refine ROps.d (r := AV.b true) (fs := []) (Γ' := [⟨2, some (r13.map AV.f32)⟩, ⟨1, some (r8.map AV.f32)⟩, ⟨1, some (r9.map AV.i64)⟩, ⟨1, some (r10.map AV.i64)⟩, ⟨1, some [AV.i64 r5, AV.i64 r6, AV.oref 1 1 0 r8.length]⟩, ⟨1, some [AV.i64 r11, AV.i64 r12, AV.oref 0 2 0 r13.length]⟩, ⟨1, some (r17.map AV.f32)⟩, ⟨1, some (r18.map AV.i64)⟩, ⟨1, some (r19.map AV.i64)⟩, ⟨1, some [AV.i64 r14, AV.i64 r15, AV.oref 6 1 0 r17.length]⟩, ⟨0, none⟩, ⟨0, none⟩, ⟨0, none⟩]) rfl rfl rfl (TOp.eqb (TOp.callB (CallAs.func ent14 rfl rfl) (Bors.cons (Bor.own (f := AV.i64) (fun _ => rfl) rfl rfl) (Bors.cons (Bor.own (f := AV.i64) (fun _ => rfl) rfl rfl) Bors.nil)) rfl rfl (w_eqInt64S_ok r18 r9 r21 hf9)) hc10) rfl ?_
            refine ROps.l (r := AV.b false) rfl rfl rfl (LOp.eqb (LOp.not rfl rfl) rfl) ?_
            refine ROps.l (r := AV.b false) rfl rfl rfl (LOp.pick_false rfl rfl rfl) ?_
            refine ROps.l (r := AV.b false) rfl rfl rfl (LOp.move rfl rfl) ?_
            refine ROps.l (r := AV.oref 8 1 0 r19.length) rfl rfl rfl (LOp.move rfl rfl) ?_
            refine ROps.l (r := AV.oref 3 1 0 r10.length) rfl rfl rfl (LOp.move rfl rfl) ?_
            refine ROps.d (r := AV.b true) (fs := []) (Γ' := [⟨2, some (r13.map AV.f32)⟩, ⟨1, some (r8.map AV.f32)⟩, ⟨1, some (r9.map AV.i64)⟩, ⟨1, some (r10.map AV.i64)⟩, ⟨1, some [AV.i64 r5, AV.i64 r6, AV.oref 1 1 0 r8.length]⟩, ⟨1, some [AV.i64 r11, AV.i64 r12, AV.oref 0 2 0 r13.length]⟩, ⟨1, some (r17.map AV.f32)⟩, ⟨1, some (r18.map AV.i64)⟩, ⟨1, some (r19.map AV.i64)⟩, ⟨1, some [AV.i64 r14, AV.i64 r15, AV.oref 6 1 0 r17.length]⟩, ⟨0, none⟩, ⟨0, none⟩, ⟨0, none⟩]) rfl rfl rfl (TOp.eqb (TOp.callB (CallAs.func ent14 rfl rfl) (Bors.cons (Bor.own (f := AV.i64) (fun _ => rfl) rfl rfl) (Bors.cons (Bor.own (f := AV.i64) (fun _ => rfl) rfl rfl) Bors.nil)) rfl rfl (w_eqInt64S_ok r19 r10 r22 hf11)) hc12) rfl ?_
            refine ROps.l (r := AV.b false) rfl rfl rfl (LOp.eqb (LOp.not rfl rfl) rfl) ?_
            refine ROps.l (r := AV.b false) rfl rfl rfl (LOp.pick_false rfl rfl rfl) ?_
            refine ROps.l (r := AV.b false) rfl rfl rfl (LOp.move rfl rfl) ?_
            refine ROps.l (r := AV.b r16) rfl rfl rfl (LOp.move rfl rfl) ?_
            refine ROps.l (r := AV.b r7) rfl rfl rfl (LOp.move rfl rfl) ?_
            refine ROps.l (r := AV.b false) rfl rfl rfl (LOp.eqb (LOp.neqb pun4 rfl rfl rfl) hc13) ?_
            refine ROps.l (r := AV.b false) rfl rfl rfl (LOp.pick_false rfl rfl rfl) ?_
            refine ROps.nil ?_
            refine RunC.cond_false rfl rfl ?_
            refine RunC.skip ?_
            refine RunC.seq ?_
            refine RunC.seq ?_
            obtain ⟨r23, r24, r25, hf14, h⟩ := obind3_some h
            obtain ⟨r26, hf15, h⟩ := obind_some h
            rcases bsel_some h with ⟨hc16, h⟩ | ⟨hc16, h⟩
            · refine RunC.region_draw (Γ' := [⟨2, some (r13.map AV.f32)⟩, ⟨1, some (r8.map AV.f32)⟩, ⟨1, some (r9.map AV.i64)⟩, ⟨1, some (r10.map AV.i64)⟩, ⟨1, some [AV.i64 r5, AV.i64 r6, AV.oref 1 1 0 r8.length]⟩, ⟨1, some [AV.i64 r11, AV.i64 r12, AV.oref 0 2 0 r13.length]⟩, ⟨1, some (r17.map AV.f32)⟩, ⟨1, some (r18.map AV.i64)⟩, ⟨1, some (r19.map AV.i64)⟩, ⟨1, some [AV.i64 r14, AV.i64 r15, AV.oref 6 1 0 r17.length]⟩, ⟨0, none⟩, ⟨0, none⟩, ⟨0, none⟩]) 5 mixed 
                (TR.d (r := AV.agg [AV.i64 r11, AV.i64 r12, AV.oref 0 2 0 r13.length]) (fs := []) rfl rfl (TOp.loadAgg_o rfl agg27 siz27 rfl rfl rfl rfl) <|
                (TR.l (r := AV.agg [AV.i64 a0, AV.i64 a1, AV.sl a2.length (a2.map AV.f32)]) rfl rfl (LOp.loadAgg agg24 siz24 rfl rfl rfl rfl) <|
                (TR.d (r := AV.agg [AV.i64 r23, AV.i64 r24, AV.sl r25.length (r25.map AV.f32)]) (fs := []) rfl rfl (TOp.callS (CallAs.func ent11 rfl rfl) (ALes.cons (ALe.refl _) ALes.nil) (lts_cons (lt_agg (lts_cons rfl (lts_cons rfl (lts_cons (lt_sl (fun _ => rfl)) lts_nil)))) lts_nil) (lt_agg (lts_cons rfl (lts_cons rfl (lts_cons (lt_sl (fun _ => rfl)) lts_nil)))) (w_toMatrix_ok a0 a1 a2 r23 r24 r25 hf14) (Bor.agg (Bors.cons (Bor.pure rfl) (Bors.cons (Bor.pure rfl) (Bors.cons (Bor.own (f := AV.f32) (fun _ => rfl) rfl rfl) Bors.nil))))) <|
                (TR.d (r := AV.b true) (fs := []) rfl rfl (TOp.eqb (TOp.callB (CallAs.func ent13 rfl rfl) (Bors.cons (Bor.agg (Bors.cons (Bor.pure rfl) (Bors.cons (Bor.pure rfl) (Bors.cons (Bor.own (f := AV.f32) (fun _ => rfl) rfl rfl) Bors.nil)))) (Bors.cons (Bor.agg (Bors.cons (Bor.pure rfl) (Bors.cons (Bor.pure rfl) (Bors.cons (Bor.sl (fun _ => rfl)) Bors.nil)))) Bors.nil)) rfl rfl (w_eqMatrix_ok r11 r12 r13 r23 r24 r25 r26 hf15)) hc16) <|
                (TR.l (r := AV.b false) rfl rfl (LOp.eqb (LOp.not rfl rfl) rfl) <|
                TR.nil))))) rfl (by kernel_rfl) rfl fills_nil rfl ?_
              iterate 5 refine ROps.dropS ?_
              refine ROps.drop0 ?_
              refine ROps.nil ?_
              refine RunC.cond_false rfl rfl ?_
              refine RunC.skip ?_
              refine RunC.seq ?_
              refine RunC.regionW ?_
              refine ROps.l (r := AV.i64 1) rfl rfl rfl (LOp.assign rfl rfl) ?_
              refine ROps.nil ?_
              refine RunC.seq ?_
              obtain ⟨r27, r28, hf17, h⟩ := obind2_some h
              obtain ⟨hn18, h⟩ := need_some h
              refine RunC.regionW ?_
              refine ROps.d (r := AV.agg [AV.i64 r11, AV.i64 r12, AV.oref 0 2 0 r13.length]) (fs := []) (Γ' := [⟨2, some (r13.map AV.f32)⟩, ⟨1, some (r8.map AV.f32)⟩, ⟨1, some (r9.map AV.i64)⟩, ⟨1, some (r10.map AV.i64)⟩, ⟨1, some [AV.i64 r5, AV.i64 r6, AV.oref 1 1 0 r8.length]⟩, ⟨1, some [AV.i64 r11, AV.i64 r12, AV.oref 0 2 0 r13.length]⟩, ⟨1, some (r17.map AV.f32)⟩, ⟨1, some (r18.map AV.i64)⟩, ⟨1, some (r19.map AV.i64)⟩, ⟨1, some [AV.i64 r14, AV.i64 r15, AV.oref 6 1 0 r17.length]⟩, ⟨0, none⟩, ⟨0, none⟩, ⟨0, none⟩]) rfl rfl rfl (TOp.loadAgg_o rfl agg27 siz27 rfl rfl rfl rfl) rfl ?_
              refine ROps.l (r := AV.i64 1) rfl rfl rfl (LOp.move rfl rfl) ?_
              refine ROps.callO (A := [AV.agg [AV.i64 r11, AV.i64 r12, AV.oref 0 2 0 r13.length], AV.i64 1]) (args := [AV.agg [AV.i64 r11, AV.i64 r12, AV.oref 0 0 0 r13.length], AV.i64 1]) (Γc := [⟨0, some (r13.map AV.f32)⟩]) (Γc' := [⟨0, some (r28.map AV.f32)⟩]) (r' := AV.i64 r27) (Γ' := [⟨2, some (r28.map AV.f32)⟩, ⟨1, some (r8.map AV.f32)⟩, ⟨1, some (r9.map AV.i64)⟩, ⟨1, some (r10.map AV.i64)⟩, ⟨1, some [AV.i64 r5, AV.i64 r6, AV.oref 1 1 0 r8.length]⟩, ⟨1, some [AV.i64 r11, AV.i64 r12, AV.oref 0 2 0 r13.length]⟩, ⟨1, some (r17.map AV.f32)⟩, ⟨1, some (r18.map AV.i64)⟩, ⟨1, some (r19.map AV.i64)⟩, ⟨1, some [AV.i64 r14, AV.i64 r15, AV.oref 6 1 0 r17.length]⟩, ⟨0, none⟩, ⟨0, none⟩, ⟨0, none⟩]) [(0, 2)] [] rfl (CallAs.func ent15 rfl rfl) rfl rfl (SelOk.of (show List.Nodup [0] from by decide) (SelL.arr0 (f := AV.f32) (fun _ => rfl) rfl trivial)) (live_of ⟨⟨_, _, rfl⟩, trivial⟩) (by simp [AV.ren, AV.rens, sigma, rens_f32, rens_f64, rens_i64, rens_ik, rens_str, rens_cp]) rfl (w_markMatrix_02o_ok r11 r12 1 r13 r27 r28 hf17) rfl (news_of trivial) (show List.Nodup [0] from by decide) (by simp [AV.ren, AV.rens, sigma, of_decide_eq_true hn18]) (by simp [backOb, sigma, AV.ren, AV.rens, rens_f32, rens_f64, rens_i64, rens_ik, rens_str, rens_cp]) ?_
              refine ROps.l (r := AV.i64 r27) rfl rfl rfl (LOp.assign rfl rfl) ?_
              refine ROps.nil ?_
              refine RunC.wl (τ' := [(1, AV.f32 a3), (2, AV.i64 a4), (3, AV.ptr [AV.i64 a0, AV.i64 a1, AV.sl a2.length (a2.map AV.f32)]), (8, AV.optr 4 1 0), (9, AV.oref 2 1 0 r9.length), (10, AV.oref 3 1 0 r10.length), (11, AV.b r7), (13, AV.optr 9 1 0), (14, AV.oref 7 1 0 r18.length), (15, AV.oref 8 1 0 r19.length), (16, AV.b r16), (17, AV.i64 r27)]) (Γ' := [⟨2, none⟩, ⟨1, some (r8.map AV.f32)⟩, ⟨1, some (r9.map AV.i64)⟩, ⟨1, some (r10.map AV.i64)⟩, ⟨1, some [AV.i64 r5, AV.i64 r6, AV.oref 1 1 0 r8.length]⟩, ⟨1, none⟩, ⟨1, some (r17.map AV.f32)⟩, ⟨1, some (r18.map AV.i64)⟩, ⟨1, some (r19.map AV.i64)⟩, ⟨1, some [AV.i64 r14, AV.i64 r15, AV.oref 6 1 0 r17.length]⟩, ⟨0, none⟩, ⟨0, none⟩, ⟨0, none⟩]) ⟨(ALe.refl _), (ALe.refl _), (ALe.refl _), (ALe.refl _), (ALe.refl _), (ALe.refl _), (ALe.refl _), (ALe.refl _), (ALe.refl _), (ALe.refl _), (ALe.refl _), (ALe.refl _), trivial⟩ ⟨⟨rfl, .inl rfl⟩, ⟨rfl, .inr rfl⟩, ⟨rfl, .inr rfl⟩, ⟨rfl, .inr rfl⟩, ⟨rfl, .inr rfl⟩, ⟨rfl, .inl rfl⟩, ⟨rfl, .inr rfl⟩, ⟨rfl, .inr rfl⟩, ⟨rfl, .inr rfl⟩, ⟨rfl, .inr rfl⟩, ⟨rfl, .inr rfl⟩, ⟨rfl, .inr rfl⟩, ⟨rfl, .inr rfl⟩, trivial⟩ ?_
              refine RunC.seq ?_
              refine RunC.seq ?_
              rcases bsel_some h with ⟨hc19, h⟩ | ⟨hc19, h⟩
              · refine RunC.regionW ?_
                refine ROps.l (r := AV.i64 r27) rfl rfl rfl (LOp.move rfl rfl) ?_
                refine ROps.l (r := AV.b true) rfl rfl rfl (LOp.eqb (LOp.lss rfl rfl rfl) hc19) ?_
                refine ROps.l (r := AV.b true) rfl rfl rfl (LOp.move rfl rfl) ?_
                refine ROps.s rfl rfl rfl ?_
                refine ROps.s rfl rfl rfl ?_
                refine ROps.s rfl rfl rfl ?_
                refine ROps.s rfl rfl rfl ?_
                refine ROps.l (r := AV.b true) rfl rfl rfl (LOp.pick_true rfl rfl rfl) ?_
                refine ROps.l (r := AV.b true) rfl rfl rfl (LOp.move rfl rfl) ?_
                refine ROps.s rfl rfl rfl ?_
                refine ROps.s rfl rfl rfl ?_
                refine ROps.s rfl rfl rfl ?_
                refine ROps.s rfl rfl rfl ?_
                refine ROps.l (r := AV.b true) rfl rfl rfl (LOp.pick_true rfl rfl rfl) ?_
                refine ROps.l (r := AV.b true) rfl rfl rfl (LOp.move rfl rfl) ?_
                refine ROps.s rfl rfl rfl ?_
                refine ROps.s rfl rfl rfl ?_
                refine ROps.s rfl rfl rfl ?_
                refine ROps.s rfl rfl rfl ?_
                refine ROps.l (r := AV.b true) rfl rfl rfl (LOp.pick_true rfl rfl rfl) ?_
                refine ROps.l (r := AV.b true) rfl rfl rfl (LOp.move rfl rfl) ?_
                refine ROps.s rfl rfl rfl ?_
                refine ROps.s rfl rfl rfl ?_
                refine ROps.s rfl rfl rfl ?_
                refine ROps.l (r := AV.b true) rfl rfl rfl (LOp.pick_true rfl rfl rfl) ?_
                refine ROps.nil ?_
                refine RunC.wl (τ' := [(1, AV.f32 a3), (2, AV.i64 a4), (3, AV.ptr [AV.i64 a0, AV.i64 a1, AV.sl a2.length (a2.map AV.f32)]), (8, AV.optr 4 1 0), (9, AV.oref 2 1 0 r9.length), (10, AV.oref 3 1 0 r10.length), (11, AV.b r7), (13, AV.optr 9 1 0), (14, AV.oref 7 1 0 r18.length), (15, AV.oref 8 1 0 r19.length), (103, AV.b true)]) (Γ' := [⟨2, none⟩, ⟨1, some (r8.map AV.f32)⟩, ⟨1, some (r9.map AV.i64)⟩, ⟨1, some (r10.map AV.i64)⟩, ⟨1, some [AV.i64 r5, AV.i64 r6, AV.oref 1 1 0 r8.length]⟩, ⟨1, none⟩, ⟨1, some (r17.map AV.f32)⟩, ⟨1, some (r18.map AV.i64)⟩, ⟨1, some (r19.map AV.i64)⟩, ⟨1, some [AV.i64 r14, AV.i64 r15, AV.oref 6 1 0 r17.length]⟩, ⟨0, none⟩, ⟨0, none⟩, ⟨0, none⟩]) ⟨(ALe.refl _), (ALe.refl _), (ALe.refl _), (ALe.refl _), (ALe.refl _), (ALe.refl _), (ALe.refl _), (ALe.refl _), (ALe.refl _), (ALe.refl _), (ALe.refl _), trivial⟩ ⟨⟨rfl, .inl rfl⟩, ⟨rfl, .inr rfl⟩, ⟨rfl, .inr rfl⟩, ⟨rfl, .inr rfl⟩, ⟨rfl, .inr rfl⟩, ⟨rfl, .inl rfl⟩, ⟨rfl, .inr rfl⟩, ⟨rfl, .inr rfl⟩, ⟨rfl, .inr rfl⟩, ⟨rfl, .inr rfl⟩, ⟨rfl, .inr rfl⟩, ⟨rfl, .inr rfl⟩, ⟨rfl, .inr rfl⟩, trivial⟩ ?_
                refine RunC.cond_true rfl rfl ?_
                refine RunC.seq ?_
                refine RunC.regionW ?_
                refine ROps.l (r := AV.b false) rfl rfl rfl (LOp.assign rfl rfl) ?_
                refine ROps.nil ?_
                refine RunC.ret ?_
                have hq := Option.some.inj h
                subst q0
                exact bodyQ.pure (.inr rfl) rfl (Res.one rfl (RV.tmp rfl))
              · obtain ⟨r29, hf20, h⟩ := obind_some h
                rcases bsel_some h with ⟨hc21, h⟩ | ⟨hc21, h⟩
                · obtain ⟨r30, hf22, h⟩ := obind_some h
                  rcases bsel_some h with ⟨hc23, h⟩ | ⟨hc23, h⟩
                  · obtain ⟨r31, hf24, h⟩ := obind_some h
                    rcases bsel_some h with ⟨hc25, h⟩ | ⟨hc25, h⟩
                    · refine RunC.regionW ?_
                      refine ROps.l (r := AV.i64 r27) rfl rfl rfl (LOp.move rfl rfl) ?_
                      refine ROps.l (r := AV.b false) rfl rfl rfl (LOp.eqb (LOp.lss rfl rfl rfl) hc19) ?_
                      refine ROps.l (r := AV.b false) rfl rfl rfl (LOp.move rfl rfl) ?_
                      refine ROps.d (r := AV.agg [AV.i64 r14, AV.i64 r15, AV.oref 6 1 0 r17.length]) (fs := []) (Γ' := [⟨2, none⟩, ⟨1, some (r8.map AV.f32)⟩, ⟨1, some (r9.map AV.i64)⟩, ⟨1, some (r10.map AV.i64)⟩, ⟨1, some [AV.i64 r5, AV.i64 r6, AV.oref 1 1 0 r8.length]⟩, ⟨1, none⟩, ⟨1, some (r17.map AV.f32)⟩, ⟨1, some (r18.map AV.i64)⟩, ⟨1, some (r19.map AV.i64)⟩, ⟨1, some [AV.i64 r14, AV.i64 r15, AV.oref 6 1 0 r17.length]⟩, ⟨0, none⟩, ⟨0, none⟩, ⟨0, none⟩]) rfl rfl rfl (TOp.loadAgg_o rfl agg27 siz27 rfl rfl rfl rfl) rfl ?_
                      refine ROps.d (r := AV.agg [AV.i64 r5, AV.i64 r6, AV.oref 1 1 0 r8.length]) (fs := []) (Γ' := [⟨2, none⟩, ⟨1, some (r8.map AV.f32)⟩, ⟨1, some (r9.map AV.i64)⟩, ⟨1, some (r10.map AV.i64)⟩, ⟨1, some [AV.i64 r5, AV.i64 r6, AV.oref 1 1 0 r8.length]⟩, ⟨1, none⟩, ⟨1, some (r17.map AV.f32)⟩, ⟨1, some (r18.map AV.i64)⟩, ⟨1, some (r19.map AV.i64)⟩, ⟨1, some [AV.i64 r14, AV.i64 r15, AV.oref 6 1 0 r17.length]⟩, ⟨0, none⟩, ⟨0, none⟩, ⟨0, none⟩]) rfl rfl rfl (TOp.loadAgg_o rfl agg27 siz27 rfl rfl rfl rfl) rfl ?_
                      refine ROps.d (r := AV.b true) (fs := []) (Γ' := [⟨2, none⟩, ⟨1, some (r8.map AV.f32)⟩, ⟨1, some (r9.map AV.i64)⟩, ⟨1, some (r10.map AV.i64)⟩, ⟨1, some [AV.i64 r5, AV.i64 r6, AV.oref 1 1 0 r8.length]⟩, ⟨1, none⟩, ⟨1, some (r17.map AV.f32)⟩, ⟨1, some (r18.map AV.i64)⟩, ⟨1, some (r19.map AV.i64)⟩, ⟨1, some [AV.i64 r14, AV.i64 r15, AV.oref 6 1 0 r17.length]⟩, ⟨0, none⟩, ⟨0, none⟩, ⟨0, none⟩]) rfl rfl rfl (TOp.eqb (TOp.callB (CallAs.func ent13 rfl rfl) (Bors.cons (Bor.agg (Bors.cons (Bor.pure rfl) (Bors.cons (Bor.pure rfl) (Bors.cons (Bor.own (f := AV.f32) (fun _ => rfl) rfl rfl) Bors.nil)))) (Bors.cons (Bor.agg (Bors.cons (Bor.pure rfl) (Bors.cons (Bor.pure rfl) (Bors.cons (Bor.own (f := AV.f32) (fun _ => rfl) rfl rfl) Bors.nil)))) Bors.nil)) rfl rfl (w_eqMatrix_ok r14 r15 r17 r5 r6 r8 r29 hf20)) hc21) rfl ?_
                      refine ROps.l (r := AV.b false) rfl rfl rfl (LOp.eqb (LOp.not rfl rfl) rfl) ?_
                      refine ROps.l (r := AV.b false) rfl rfl rfl (LOp.pick_false rfl rfl rfl) ?_
                      refine ROps.l (r := AV.b false) rfl rfl rfl (LOp.move rfl rfl) ?_
                      refine ROps.l (r := AV.oref 7 1 0 r18.length) rfl rfl rfl (LOp.move rfl rfl) ?_
                      refine ROps.l (r := AV.oref 2 1 0 r9.length) rfl rfl rfl (LOp.move rfl rfl) ?_
                      refine ROps.d (r := AV.b true) (fs := []) (Γ' := [⟨2, none⟩, ⟨1, some (r8.map AV.f32)⟩, ⟨1, some (r9.map AV.i64)⟩, ⟨1, some (r10.map AV.i64)⟩, ⟨1, some [AV.i64 r5, AV.i64 r6, AV.oref 1 1 0 r8.length]⟩, ⟨1, none⟩, ⟨1, some (r17.map AV.f32)⟩, ⟨1, some (r18.map AV.i64)⟩, ⟨1, some (r19.map AV.i64)⟩, ⟨1, some [AV.i64 r14, AV.i64 r15, AV.oref 6 1 0 r17.length]⟩, ⟨0, none⟩, ⟨0, none⟩, ⟨0, none⟩]) rfl rfl rfl (TOp.eqb (TOp.callB (CallAs.func ent14 rfl rfl) (Bors.cons (Bor.own (f := AV.i64) (fun _ => rfl) rfl rfl) (Bors.cons (Bor.own (f := AV.i64) (fun _ => rfl) rfl rfl) Bors.nil)) rfl rfl (w_eqInt64S_ok r18 r9 r30 hf22)) hc23) rfl ?_
                      refine ROps.l (r := AV.b false) rfl rfl rfl (LOp.eqb (LOp.not rfl rfl) rfl) ?_
                      refine ROps.l (r := AV.b false) rfl rfl rfl (LOp.pick_false rfl rfl rfl) ?_
                      refine ROps.l (r := AV.b false) rfl rfl rfl (LOp.move rfl rfl) ?_
                      refine ROps.l (r := AV.oref 8 1 0 r19.length) rfl rfl rfl (LOp.move rfl rfl) ?_
                      refine ROps.l (r := AV.oref 3 1 0 r10.length) rfl rfl rfl (LOp.move rfl rfl) ?_
                      refine ROps.d (r := AV.b true) (fs := []) (Γ' := [⟨2, none⟩, ⟨1, some (r8.map AV.f32)⟩, ⟨1, some (r9.map AV.i64)⟩, ⟨1, some (r10.map AV.i64)⟩, ⟨1, some [AV.i64 r5, AV.i64 r6, AV.oref 1 1 0 r8.length]⟩, ⟨1, none⟩, ⟨1, some (r17.map AV.f32)⟩, ⟨1, some (r18.map AV.i64)⟩, ⟨1, some (r19.map AV.i64)⟩, ⟨1, some [AV.i64 r14, AV.i64 r15, AV.oref 6 1 0 r17.length]⟩, ⟨0, none⟩, ⟨0, none⟩, ⟨0, none⟩]) rfl rfl rfl (TOp.eqb (TOp.callB (CallAs.func ent14 rfl rfl) (Bors.cons (Bor.own (f := AV.i64) (fun _ => rfl) rfl rfl) (Bors.cons (Bor.own (f := AV.i64) (fun _ => rfl) rfl rfl) Bors.nil)) rfl rfl (w_eqInt64S_ok r19 r10 r31 hf24)) hc25) rfl ?_
                      refine ROps.l (r := AV.b false) rfl rfl rfl (LOp.eqb (LOp.not rfl rfl) rfl) ?_
                      refine ROps.l (r := AV.b false) rfl rfl rfl (LOp.pick_false rfl rfl rfl) ?_
                      refine ROps.l (r := AV.b false) rfl rfl rfl (LOp.move rfl rfl) ?_
                      refine ROps.l (r := AV.b r16) rfl rfl rfl (LOp.move rfl rfl) ?_
                      refine ROps.l (r := AV.b r7) rfl rfl rfl (LOp.move rfl rfl) ?_
                      refine ROps.l (r := AV.b false) rfl rfl rfl (LOp.eqb (LOp.neqb pun4 rfl rfl rfl) hc13) ?_
                      refine ROps.l (r := AV.b false) rfl rfl rfl (LOp.pick_false rfl rfl rfl) ?_
                      refine ROps.nil ?_
                      refine RunC.wl (τ' := [(1, AV.f32 a3), (2, AV.i64 a4), (3, AV.ptr [AV.i64 a0, AV.i64 a1, AV.sl a2.length (a2.map AV.f32)]), (8, AV.optr 4 1 0), (9, AV.oref 2 1 0 r9.length), (10, AV.oref 3 1 0 r10.length), (11, AV.b r7), (13, AV.optr 9 1 0), (14, AV.oref 7 1 0 r18.length), (15, AV.oref 8 1 0 r19.length), (103, AV.b false)]) (Γ' := [⟨2, none⟩, ⟨1, some (r8.map AV.f32)⟩, ⟨1, some (r9.map AV.i64)⟩, ⟨1, some (r10.map AV.i64)⟩, ⟨1, some [AV.i64 r5, AV.i64 r6, AV.oref 1 1 0 r8.length]⟩, ⟨1, none⟩, ⟨1, some (r17.map AV.f32)⟩, ⟨1, some (r18.map AV.i64)⟩, ⟨1, some (r19.map AV.i64)⟩, ⟨1, some [AV.i64 r14, AV.i64 r15, AV.oref 6 1 0 r17.length]⟩, ⟨0, none⟩, ⟨0, none⟩, ⟨0, none⟩]) ⟨(ALe.refl _), (ALe.refl _), (ALe.refl _), (ALe.refl _), (ALe.refl _), (ALe.refl _), (ALe.refl _), (ALe.refl _), (ALe.refl _), (ALe.refl _), (ALe.refl _), trivial⟩ ⟨⟨rfl, .inl rfl⟩, ⟨rfl, .inr rfl⟩, ⟨rfl, .inr rfl⟩, ⟨rfl, .inr rfl⟩, ⟨rfl, .inr rfl⟩, ⟨rfl, .inl rfl⟩, ⟨rfl, .inr rfl⟩, ⟨rfl, .inr rfl⟩, ⟨rfl, .inr rfl⟩, ⟨rfl, .inr rfl⟩, ⟨rfl, .inr rfl⟩, ⟨rfl, .inr rfl⟩, ⟨rfl, .inr rfl⟩, trivial⟩ ?_
                      refine RunC.cond_false rfl rfl ?_
                      refine RunC.skip ?_
                      refine RunC.seq ?_
                      refine RunC.regionW ?_
                      refine ROps.l (r := AV.i64 1) rfl rfl rfl (LOp.assign rfl rfl) ?_
                      refine ROps.nil ?_
                      refine RunC.seq ?_
                      obtain ⟨r32, r33, hf26, h⟩ := obind2_some h
                      obtain ⟨hn27, h⟩ := need_some h
                      refine RunC.regionW ?_
                      refine ROps.d (r := AV.agg [AV.i64 r14, AV.i64 r15, AV.oref 6 1 0 r17.length]) (fs := []) (Γ' := [⟨2, none⟩, ⟨1, some (r8.map AV.f32)⟩, ⟨1, some (r9.map AV.i64)⟩, ⟨1, some (r10.map AV.i64)⟩, ⟨1, some [AV.i64 r5, AV.i64 r6, AV.oref 1 1 0 r8.length]⟩, ⟨1, none⟩, ⟨1, some (r17.map AV.f32)⟩, ⟨1, some (r18.map AV.i64)⟩, ⟨1, some (r19.map AV.i64)⟩, ⟨1, some [AV.i64 r14, AV.i64 r15, AV.oref 6 1 0 r17.length]⟩, ⟨0, none⟩, ⟨0, none⟩, ⟨0, none⟩]) rfl rfl rfl (TOp.loadAgg_o rfl agg27 siz27 rfl rfl rfl rfl) rfl ?_
                      refine ROps.l (r := AV.i64 1) rfl rfl rfl (LOp.move rfl rfl) ?_
                      refine ROps.callO (A := [AV.agg [AV.i64 r14, AV.i64 r15, AV.oref 6 1 0 r17.length], AV.i64 1]) (args := [AV.agg [AV.i64 r14, AV.i64 r15, AV.oref 0 0 0 r17.length], AV.i64 1]) (Γc := [⟨0, some (r17.map AV.f32)⟩]) (Γc' := [⟨0, some (r33.map AV.f32)⟩]) (r' := AV.i64 r32) (Γ' := [⟨2, none⟩, ⟨1, some (r8.map AV.f32)⟩, ⟨1, some (r9.map AV.i64)⟩, ⟨1, some (r10.map AV.i64)⟩, ⟨1, some [AV.i64 r5, AV.i64 r6, AV.oref 1 1 0 r8.length]⟩, ⟨1, none⟩, ⟨1, some (r33.map AV.f32)⟩, ⟨1, some (r18.map AV.i64)⟩, ⟨1, some (r19.map AV.i64)⟩, ⟨1, some [AV.i64 r14, AV.i64 r15, AV.oref 6 1 0 r17.length]⟩, ⟨0, none⟩, ⟨0, none⟩, ⟨0, none⟩]) [(6, 1)] [] rfl (CallAs.func ent15 rfl rfl) rfl rfl (SelOk.of (show List.Nodup [6] from by decide) (SelL.arr0 (f := AV.f32) (fun _ => rfl) rfl trivial)) (live_of ⟨⟨_, _, rfl⟩, trivial⟩) (by simp [AV.ren, AV.rens, sigma, rens_f32, rens_f64, rens_i64, rens_ik, rens_str, rens_cp]) rfl (w_markMatrix_02o_ok r14 r15 1 r17 r32 r33 hf26) rfl (news_of trivial) (show List.Nodup [6] from by decide) (by simp [AV.ren, AV.rens, sigma, of_decide_eq_true hn27]) (by simp [backOb, sigma, AV.ren, AV.rens, rens_f32, rens_f64, rens_i64, rens_ik, rens_str, rens_cp]) ?_
                      refine ROps.l (r := AV.i64 r32) rfl rfl rfl (LOp.assign rfl rfl) ?_
                      refine ROps.nil ?_
                      refine RunC.seq ?_
                      obtain ⟨r34, r35, hf28, h⟩ := obind2_some h
                      obtain ⟨hn29, h⟩ := need_some h
                      refine RunC.regionW ?_
                      refine ROps.l (r := AV.oref 7 1 0 r18.length) rfl rfl rfl (LOp.move rfl rfl) ?_
                      refine ROps.l (r := AV.i64 r32) rfl rfl rfl (LOp.move rfl rfl) ?_
                      refine ROps.callO (A := [AV.oref 7 1 0 r18.length, AV.i64 r32]) (args := [AV.oref 0 0 0 r18.length, AV.i64 r32]) (Γc := [⟨0, some (r18.map AV.i64)⟩]) (Γc' := [⟨0, some (r35.map AV.i64)⟩]) (r' := AV.i64 r34) (Γ' := [⟨2, none⟩, ⟨1, some (r8.map AV.f32)⟩, ⟨1, some (r9.map AV.i64)⟩, ⟨1, some (r10.map AV.i64)⟩, ⟨1, some [AV.i64 r5, AV.i64 r6, AV.oref 1 1 0 r8.length]⟩, ⟨1, none⟩, ⟨1, some (r33.map AV.f32)⟩, ⟨1, some (r35.map AV.i64)⟩, ⟨1, some (r19.map AV.i64)⟩, ⟨1, some [AV.i64 r14, AV.i64 r15, AV.oref 6 1 0 r17.length]⟩, ⟨0, none⟩, ⟨0, none⟩, ⟨0, none⟩]) [(7, 1)] [] rfl (CallAs.func ent16 rfl rfl) rfl rfl (SelOk.of (show List.Nodup [7] from by decide) (SelL.arr0 (f := AV.i64) (fun _ => rfl) rfl trivial)) (live_of ⟨⟨_, _, rfl⟩, trivial⟩) (by simp [AV.ren, AV.rens, sigma, rens_f32, rens_f64, rens_i64, rens_ik, rens_str, rens_cp]) rfl (w_markInt64S_0o_ok r32 r18 r34 r35 hf28) rfl (news_of trivial) (show List.Nodup [7] from by decide) (by simp [AV.ren, AV.rens, sigma, of_decide_eq_true hn29]) (by simp [backOb, sigma, AV.ren, AV.rens, rens_f32, rens_f64, rens_i64, rens_ik, rens_str, rens_cp]) ?_
                      refine ROps.l (r := AV.i64 r34) rfl rfl rfl (LOp.assign rfl rfl) ?_
                      refine ROps.nil ?_
                      refine RunC.seq ?_
                      obtain ⟨r36, r37, hf30, h⟩ := obind2_some h
                      obtain ⟨hn31, h⟩ := need_some h
                      refine RunC.regionW ?_
                      refine ROps.l (r := AV.oref 8 1 0 r19.length) rfl rfl rfl (LOp.move rfl rfl) ?_
                      refine ROps.l (r := AV.i64 r34) rfl rfl rfl (LOp.move rfl rfl) ?_
                      refine ROps.callO (A := [AV.oref 8 1 0 r19.length, AV.i64 r34]) (args := [AV.oref 0 0 0 r19.length, AV.i64 r34]) (Γc := [⟨0, some (r19.map AV.i64)⟩]) (Γc' := [⟨0, some (r37.map AV.i64)⟩]) (r' := AV.i64 r36) (Γ' := [⟨2, none⟩, ⟨1, some (r8.map AV.f32)⟩, ⟨1, some (r9.map AV.i64)⟩, ⟨1, some (r10.map AV.i64)⟩, ⟨1, some [AV.i64 r5, AV.i64 r6, AV.oref 1 1 0 r8.length]⟩, ⟨1, none⟩, ⟨1, some (r33.map AV.f32)⟩, ⟨1, some (r35.map AV.i64)⟩, ⟨1, some (r37.map AV.i64)⟩, ⟨1, some [AV.i64 r14, AV.i64 r15, AV.oref 6 1 0 r17.length]⟩, ⟨0, none⟩, ⟨0, none⟩, ⟨0, none⟩]) [(8, 1)] [] rfl (CallAs.func ent16 rfl rfl) rfl rfl (SelOk.of (show List.Nodup [8] from by decide) (SelL.arr0 (f := AV.i64) (fun _ => rfl) rfl trivial)) (live_of ⟨⟨_, _, rfl⟩, trivial⟩) (by simp [AV.ren, AV.rens, sigma, rens_f32, rens_f64, rens_i64, rens_ik, rens_str, rens_cp]) rfl (w_markInt64S_0o_ok r34 r19 r36 r37 hf30) rfl (news_of trivial) (show List.Nodup [8] from by decide) (by simp [AV.ren, AV.rens, sigma, of_decide_eq_true hn31]) (by simp [backOb, sigma, AV.ren, AV.rens, rens_f32, rens_f64, rens_i64, rens_ik, rens_str, rens_cp]) ?_
                      refine ROps.l (r := AV.i64 r36) rfl rfl rfl (LOp.assign rfl rfl) ?_
                      refine ROps.nil ?_
                      refine RunC.seq ?_
                      refine RunC.regionW ?_
                      refine ROps.l (r := AV.i64 1) rfl rfl rfl (LOp.assign rfl rfl) ?_
                      refine ROps.nil ?_
                      refine RunC.seq ?_
                      obtain ⟨r38, hf32, h⟩ := obind_some h
                      refine RunC.regionW ?_
                      refine ROps.d (r := AV.agg [AV.i64 r14, AV.i64 r15, AV.oref 6 1 0 r17.length]) (fs := []) (Γ' := [⟨2, none⟩, ⟨1, some (r8.map AV.f32)⟩, ⟨1, some (r9.map AV.i64)⟩, ⟨1, some (r10.map AV.i64)⟩, ⟨1, some [AV.i64 r5, AV.i64 r6, AV.oref 1 1 0 r8.length]⟩, ⟨1, none⟩, ⟨1, some (r33.map AV.f32)⟩, ⟨1, some (r35.map AV.i64)⟩, ⟨1, some (r37.map AV.i64)⟩, ⟨1, some [AV.i64 r14, AV.i64 r15, AV.oref 6 1 0 r17.length]⟩, ⟨0, none⟩, ⟨0, none⟩, ⟨0, none⟩]) rfl rfl rfl (TOp.loadAgg_o rfl agg27 siz27 rfl rfl rfl rfl) rfl ?_
                      refine ROps.l (r := AV.i64 1) rfl rfl rfl (LOp.move rfl rfl) ?_
                      refine ROps.d (r := AV.i64 r38) (fs := []) (Γ' := [⟨2, none⟩, ⟨1, some (r8.map AV.f32)⟩, ⟨1, some (r9.map AV.i64)⟩, ⟨1, some (r10.map AV.i64)⟩, ⟨1, some [AV.i64 r5, AV.i64 r6, AV.oref 1 1 0 r8.length]⟩, ⟨1, none⟩, ⟨1, some (r33.map AV.f32)⟩, ⟨1, some (r35.map AV.i64)⟩, ⟨1, some (r37.map AV.i64)⟩, ⟨1, some [AV.i64 r14, AV.i64 r15, AV.oref 6 1 0 r17.length]⟩, ⟨0, none⟩, ⟨0, none⟩, ⟨0, none⟩]) rfl rfl rfl (TOp.callB (CallAs.func ent17 rfl rfl) (Bors.cons (Bor.agg (Bors.cons (Bor.pure rfl) (Bors.cons (Bor.pure rfl) (Bors.cons (Bor.own (f := AV.f32) (fun _ => rfl) rfl (of_decide_eq_true hn27)) Bors.nil)))) (Bors.cons (Bor.pure rfl) Bors.nil)) rfl rfl (w_heldMatrix_ok r14 r15 r33 1 r38 hf32)) rfl ?_
                      refine ROps.l (r := AV.i64 r38) rfl rfl rfl (LOp.assign rfl rfl) ?_
                      refine ROps.nil ?_
                      refine RunC.seq ?_
                      refine RunC.seq ?_
                      rcases bsel_some h with ⟨hc33, h⟩ | ⟨hc33, h⟩
                      · refine RunC.regionW ?_
                        refine ROps.l (r := AV.i64 r38) rfl rfl rfl (LOp.move rfl rfl) ?_
                        refine ROps.l (r := AV.b true) rfl rfl rfl (LOp.eqb (LOp.lss rfl rfl rfl) hc33) ?_
                        refine ROps.nil ?_
                        refine RunC.cond_true rfl rfl ?_
                        refine RunC.seq ?_
                        refine RunC.regionW ?_
                        refine ROps.l (r := AV.b false) rfl rfl rfl (LOp.assign rfl rfl) ?_
                        refine ROps.nil ?_
                        refine RunC.ret ?_
                        have hq := Option.some.inj h
                        subst q0
                        exact bodyQ.pure (.inr rfl) rfl (Res.one rfl (RV.tmp rfl))
                      · refine RunC.regionW ?_
                        refine ROps.l (r := AV.i64 r38) rfl rfl rfl (LOp.move rfl rfl) ?_
                        refine ROps.l (r := AV.b false) rfl rfl rfl (LOp.eqb (LOp.lss rfl rfl rfl) hc33) ?_
                        refine ROps.nil ?_
                        refine RunC.cond_false rfl rfl ?_
                        refine RunC.skip ?_
                        refine RunC.seq ?_
                        obtain ⟨r39, hf34, h⟩ := obind_some h
                        refine RunC.regionW ?_
                        refine ROps.l (r := AV.oref 7 1 0 r18.length) rfl rfl rfl (LOp.move rfl rfl) ?_
                        refine ROps.l (r := AV.i64 r38) rfl rfl rfl (LOp.move rfl rfl) ?_
                        refine ROps.d (r := AV.i64 r39) (fs := []) (Γ' := [⟨2, none⟩, ⟨1, some (r8.map AV.f32)⟩, ⟨1, some (r9.map AV.i64)⟩, ⟨1, some (r10.map AV.i64)⟩, ⟨1, some [AV.i64 r5, AV.i64 r6, AV.oref 1 1 0 r8.length]⟩, ⟨1, none⟩, ⟨1, some (r33.map AV.f32)⟩, ⟨1, some (r35.map AV.i64)⟩, ⟨1, some (r37.map AV.i64)⟩, ⟨1, some [AV.i64 r14, AV.i64 r15, AV.oref 6 1 0 r17.length]⟩, ⟨0, none⟩, ⟨0, none⟩, ⟨0, none⟩]) rfl rfl rfl (TOp.callB (CallAs.func ent18 rfl rfl) (Bors.cons (Bor.own (f := AV.i64) (fun _ => rfl) rfl (of_decide_eq_true hn29)) (Bors.cons (Bor.pure rfl) Bors.nil)) rfl rfl (w_heldInt64S_ok r35 r38 r39 hf34)) rfl ?_
                        refine ROps.l (r := AV.i64 r39) rfl rfl rfl (LOp.assign rfl rfl) ?_
                        refine ROps.nil ?_
                        refine RunC.seq ?_
                        refine RunC.seq ?_
                        rcases bsel_some h with ⟨hc35, h⟩ | ⟨hc35, h⟩
                        · refine RunC.regionW ?_
                          refine ROps.l (r := AV.i64 r39) rfl rfl rfl (LOp.move rfl rfl) ?_
                          refine ROps.l (r := AV.b true) rfl rfl rfl (LOp.eqb (LOp.lss rfl rfl rfl) hc35) ?_
                          refine ROps.nil ?_
                          refine RunC.cond_true rfl rfl ?_
                          refine RunC.seq ?_
                          refine RunC.regionW ?_
                          refine ROps.l (r := AV.b false) rfl rfl rfl (LOp.assign rfl rfl) ?_
                          refine ROps.nil ?_
                          refine RunC.ret ?_
                          have hq := Option.some.inj h
                          subst q0
                          exact bodyQ.pure (.inr rfl) rfl (Res.one rfl (RV.tmp rfl))
                        · refine RunC.regionW ?_
                          refine ROps.l (r := AV.i64 r39) rfl rfl rfl (LOp.move rfl rfl) ?_
                          refine ROps.l (r := AV.b false) rfl rfl rfl (LOp.eqb (LOp.lss rfl rfl rfl) hc35) ?_
                          refine ROps.nil ?_
                          refine RunC.cond_false rfl rfl ?_
                          refine RunC.skip ?_
                          refine RunC.seq ?_
                          obtain ⟨r40, hf36, h⟩ := obind_some h
                          refine RunC.regionW ?_
                          refine ROps.l (r := AV.oref 8 1 0 r19.length) rfl rfl rfl (LOp.move rfl rfl) ?_
                          refine ROps.l (r := AV.i64 r39) rfl rfl rfl (LOp.move rfl rfl) ?_
                          refine ROps.d (r := AV.i64 r40) (fs := []) (Γ' := [⟨2, none⟩, ⟨1, some (r8.map AV.f32)⟩, ⟨1, some (r9.map AV.i64)⟩, ⟨1, some (r10.map AV.i64)⟩, ⟨1, some [AV.i64 r5, AV.i64 r6, AV.oref 1 1 0 r8.length]⟩, ⟨1, none⟩, ⟨1, some (r33.map AV.f32)⟩, ⟨1, some (r35.map AV.i64)⟩, ⟨1, some (r37.map AV.i64)⟩, ⟨1, some [AV.i64 r14, AV.i64 r15, AV.oref 6 1 0 r17.length]⟩, ⟨0, none⟩, ⟨0, none⟩, ⟨0, none⟩]) rfl rfl rfl (TOp.callB (CallAs.func ent18 rfl rfl) (Bors.cons (Bor.own (f := AV.i64) (fun _ => rfl) rfl (of_decide_eq_true hn31)) (Bors.cons (Bor.pure rfl) Bors.nil)) rfl rfl (w_heldInt64S_ok r37 r39 r40 hf36)) rfl ?_
                          refine ROps.l (r := AV.i64 r40) rfl rfl rfl (LOp.assign rfl rfl) ?_
                          refine ROps.nil ?_
                          refine RunC.seq ?_
                          refine RunC.seq ?_
                          rcases bsel_some h with ⟨hc37, h⟩ | ⟨hc37, h⟩
                          · refine RunC.regionW ?_
                            refine ROps.l (r := AV.i64 r40) rfl rfl rfl (LOp.move rfl rfl) ?_
                            refine ROps.l (r := AV.b true) rfl rfl rfl (LOp.eqb (LOp.lss rfl rfl rfl) hc37) ?_
                            refine ROps.nil ?_
                            refine RunC.wl (τ' := [(1, AV.f32 a3), (2, AV.i64 a4), (3, AV.ptr [AV.i64 a0, AV.i64 a1, AV.sl a2.length (a2.map AV.f32)]), (8, AV.optr 4 1 0), (9, AV.oref 2 1 0 r9.length), (10, AV.oref 3 1 0 r10.length), (11, AV.b r7), (13, AV.optr 9 1 0), (14, AV.oref 7 1 0 r18.length), (15, AV.oref 8 1 0 r19.length), (18, AV.i64 r36), (19, AV.i64 r40), (127, AV.b true)]) (Γ' := [⟨2, none⟩, ⟨1, some (r8.map AV.f32)⟩, ⟨1, some (r9.map AV.i64)⟩, ⟨1, some (r10.map AV.i64)⟩, ⟨1, some [AV.i64 r5, AV.i64 r6, AV.oref 1 1 0 r8.length]⟩, ⟨1, none⟩, ⟨1, some (r33.map AV.f32)⟩, ⟨1, some (r35.map AV.i64)⟩, ⟨1, some (r37.map AV.i64)⟩, ⟨1, some [AV.i64 r14, AV.i64 r15, AV.oref 6 1 0 r17.length]⟩, ⟨0, none⟩, ⟨0, none⟩, ⟨0, none⟩]) ⟨(ALe.refl _), (ALe.refl _), (ALe.refl _), (ALe.refl _), (ALe.refl _), (ALe.refl _), (ALe.refl _), (ALe.refl _), (ALe.refl _), (ALe.refl _), (ALe.refl _), (ALe.refl _), (ALe.refl _), trivial⟩ ⟨⟨rfl, .inl rfl⟩, ⟨rfl, .inr rfl⟩, ⟨rfl, .inr rfl⟩, ⟨rfl, .inr rfl⟩, ⟨rfl, .inr rfl⟩, ⟨rfl, .inl rfl⟩, ⟨rfl, .inr rfl⟩, ⟨rfl, .inr rfl⟩, ⟨rfl, .inr rfl⟩, ⟨rfl, .inr rfl⟩, ⟨rfl, .inr rfl⟩, ⟨rfl, .inr rfl⟩, ⟨rfl, .inr rfl⟩, trivial⟩ ?_
                            refine RunC.cond_true rfl rfl ?_
                            refine RunC.seq ?_
                            refine RunC.regionW ?_
                            refine ROps.l (r := AV.b false) rfl rfl rfl (LOp.assign rfl rfl) ?_
                            refine ROps.nil ?_
                            refine RunC.ret ?_
                            have hq := Option.some.inj h
                            subst q0
                            exact bodyQ.pure (.inr rfl) rfl (Res.one rfl (RV.tmp rfl))
                          · refine RunC.regionW ?_
                            refine ROps.l (r := AV.i64 r40) rfl rfl rfl (LOp.move rfl rfl) ?_
                            refine ROps.l (r := AV.b false) rfl rfl rfl (LOp.eqb (LOp.lss rfl rfl rfl) hc37) ?_
                            refine ROps.nil ?_
                            refine RunC.wl (τ' := [(1, AV.f32 a3), (2, AV.i64 a4), (3, AV.ptr [AV.i64 a0, AV.i64 a1, AV.sl a2.length (a2.map AV.f32)]), (8, AV.optr 4 1 0), (9, AV.oref 2 1 0 r9.length), (10, AV.oref 3 1 0 r10.length), (11, AV.b r7), (13, AV.optr 9 1 0), (14, AV.oref 7 1 0 r18.length), (15, AV.oref 8 1 0 r19.length), (18, AV.i64 r36), (19, AV.i64 r40), (127, AV.b false)]) (Γ' := [⟨2, none⟩, ⟨1, some (r8.map AV.f32)⟩, ⟨1, some (r9.map AV.i64)⟩, ⟨1, some (r10.map AV.i64)⟩, ⟨1, some [AV.i64 r5, AV.i64 r6, AV.oref 1 1 0 r8.length]⟩, ⟨1, none⟩, ⟨1, some (r33.map AV.f32)⟩, ⟨1, some (r35.map AV.i64)⟩, ⟨1, some (r37.map AV.i64)⟩, ⟨1, some [AV.i64 r14, AV.i64 r15, AV.oref 6 1 0 r17.length]⟩, ⟨0, none⟩, ⟨0, none⟩, ⟨0, none⟩]) ⟨(ALe.refl _), (ALe.refl _), (ALe.refl _), (ALe.refl _), (ALe.refl _), (ALe.refl _), (ALe.refl _), (ALe.refl _), (ALe.refl _), (ALe.refl _), (ALe.refl _), (ALe.refl _), (ALe.refl _), trivial⟩ ⟨⟨rfl, .inl rfl⟩, ⟨rfl, .inr rfl⟩, ⟨rfl, .inr rfl⟩, ⟨rfl, .inr rfl⟩, ⟨rfl, .inr rfl⟩, ⟨rfl, .inl rfl⟩, ⟨rfl, .inr rfl⟩, ⟨rfl, .inr rfl⟩, ⟨rfl, .inr rfl⟩, ⟨rfl, .inr rfl⟩, ⟨rfl, .inr rfl⟩, ⟨rfl, .inr rfl⟩, ⟨rfl, .inr rfl⟩, trivial⟩ ?_
                            refine RunC.cond_false rfl rfl ?_
                            refine RunC.skip ?_
                            refine RunC.seq ?_
                            refine RunC.seq ?_
                            rcases bsel_some h with ⟨hc38, h⟩ | ⟨hc38, h⟩
                            · refine RunC.regionW ?_
                              refine ROps.l (r := AV.i64 r40) rfl rfl rfl (LOp.move rfl rfl) ?_
                              refine ROps.l (r := AV.i64 r36) rfl rfl rfl (LOp.move rfl rfl) ?_
                              refine ROps.l (r := AV.b true) rfl rfl rfl (LOp.eqb (LOp.neq rfl rfl rfl) hc38) ?_
                              refine ROps.nil ?_
                              refine RunC.cond_true rfl rfl ?_
                              refine RunC.seq ?_
                              refine RunC.regionW ?_
                              refine ROps.l (r := AV.b false) rfl rfl rfl (LOp.assign rfl rfl) ?_
                              refine ROps.nil ?_
                              refine RunC.ret ?_
                              have hq := Option.some.inj h
                              subst q0
                              exact bodyQ.pure (.inr rfl) rfl (Res.one rfl (RV.tmp rfl))
                            · refine RunC.regionW ?_
                              refine ROps.l (r := AV.i64 r40) rfl rfl rfl (LOp.move rfl rfl) ?_
                              refine ROps.l (r := AV.i64 r36) rfl rfl rfl (LOp.move rfl rfl) ?_
                              refine ROps.l (r := AV.b false) rfl rfl rfl (LOp.eqb (LOp.neq rfl rfl rfl) hc38) ?_
                              refine ROps.nil ?_
                              refine RunC.cond_false rfl rfl ?_
                              refine RunC.skip ?_
                              refine RunC.seq ?_
                              obtain ⟨r41, r42, r43, hf39, h⟩ := obind3_some h
                              obtain ⟨r44, r45, r46, r47, r48, r49, hf40, h⟩ := obind6_some h
                              refine RunC.regionW ?_
                              refine ROps.l (r := AV.agg [AV.i64 a0, AV.i64 a1, AV.sl a2.length (a2.map AV.f32)]) rfl rfl rfl (LOp.loadAgg agg24 siz24 rfl rfl rfl rfl) ?_
                              refine ROps.d (r := AV.agg [AV.i64 r41, AV.i64 r42, AV.oref 0 3 0 r43.length]) (fs := [(0, (r43.map AV.f32))]) (Γ' := [⟨3, some (r43.map AV.f32)⟩, ⟨1, some (r8.map AV.f32)⟩, ⟨1, some (r9.map AV.i64)⟩, ⟨1, some (r10.map AV.i64)⟩, ⟨1, some [AV.i64 r5, AV.i64 r6, AV.oref 1 1 0 r8.length]⟩, ⟨1, none⟩, ⟨1, some (r33.map AV.f32)⟩, ⟨1, some (r35.map AV.i64)⟩, ⟨1, some (r37.map AV.i64)⟩, ⟨1, some [AV.i64 r14, AV.i64 r15, AV.oref 6 1 0 r17.length]⟩, ⟨0, none⟩, ⟨0, none⟩, ⟨0, none⟩]) rfl rfl rfl (TOp.callBN (ls := [(r43.map AV.f32)]) [0] (CallAs.func ent11 rfl rfl) (Bors.cons (Bor.agg (Bors.cons (Bor.pure rfl) (Bors.cons (Bor.pure rfl) (Bors.cons (Bor.sl (fun _ => rfl)) Bors.nil)))) Bors.nil) rfl (w_toMatrix_ok a0 a1 a2 r41 r42 r43 hf39) (and_all (lts0_map (f := AV.f32) (fun _ => rfl) _) rfl) (and_all (noss_map (f := AV.f32) (fun _ => rfl) _) rfl) rfl (by decide) (ns_of ⟨⟨_, rfl⟩, trivial⟩)) rfl ?_
                              refine ROps.l (r := AV.f32 a3) rfl rfl rfl (LOp.move rfl rfl) ?_
                              refine ROps.l (r := AV.i64 a4) rfl rfl rfl (LOp.move rfl rfl) ?_
                              refine ROps.d (r := AV.tup [AV.agg [AV.i64 r44, AV.i64 r45, AV.oref 5 2 0 r47.length], AV.oref 10 1 0 r48.length, AV.oref 11 1 0 r49.length, AV.b r46]) (fs := [(5, (r47.map AV.f32)), (10, (r48.map AV.i64)), (11, (r49.map AV.i64))]) (Γ' := [⟨3, some (r43.map AV.f32)⟩, ⟨1, some (r8.map AV.f32)⟩, ⟨1, some (r9.map AV.i64)⟩, ⟨1, some (r10.map AV.i64)⟩, ⟨1, some [AV.i64 r5, AV.i64 r6, AV.oref 1 1 0 r8.length]⟩, ⟨2, some (r47.map AV.f32)⟩, ⟨1, some (r33.map AV.f32)⟩, ⟨1, some (r35.map AV.i64)⟩, ⟨1, some (r37.map AV.i64)⟩, ⟨1, some [AV.i64 r14, AV.i64 r15, AV.oref 6 1 0 r17.length]⟩, ⟨1, some (r48.map AV.i64)⟩, ⟨1, some (r49.map AV.i64)⟩, ⟨0, none⟩]) rfl rfl rfl (TOp.callBN (ls := [(r47.map AV.f32), (r48.map AV.i64), (r49.map AV.i64)]) [5, 10, 11] (CallAs.func ent12 rfl rfl) (Bors.cons (Bor.agg (Bors.cons (Bor.pure rfl) (Bors.cons (Bor.pure rfl) (Bors.cons (Bor.own (f := AV.f32) (fun _ => rfl) rfl rfl) Bors.nil)))) (Bors.cons (Bor.pure rfl) (Bors.cons (Bor.pure rfl) Bors.nil))) rfl (i_CrossOf_ok r41 r42 r43 a3 a4 r44 r45 r46 r47 r48 r49 hf40) (and_all (lts0_map (f := AV.f32) (fun _ => rfl) _) (and_all (lts0_map (f := AV.i64) (fun _ => rfl) _) (and_all (lts0_map (f := AV.i64) (fun _ => rfl) _) rfl))) (and_all (noss_map (f := AV.f32) (fun _ => rfl) _) (and_all (noss_map (f := AV.i64) (fun _ => rfl) _) (and_all (noss_map (f := AV.i64) (fun _ => rfl) _) rfl))) rfl (by decide) (ns_of ⟨⟨_, rfl⟩, ⟨_, rfl⟩, ⟨_, rfl⟩, trivial⟩)) rfl ?_
                              refine ROps.l (r := AV.tup [AV.agg [AV.i64 r44, AV.i64 r45, AV.oref 5 2 0 r47.length], AV.oref 10 1 0 r48.length, AV.oref 11 1 0 r49.length, AV.b r46]) rfl rfl rfl (LOp.move rfl rfl) ?_
                              refine ROps.l (r := AV.agg [AV.i64 r44, AV.i64 r45, AV.oref 5 2 0 r47.length]) rfl rfl rfl (LOp.extract rfl rfl rfl) ?_
                              refine ROps.l (r := AV.oref 10 1 0 r48.length) rfl rfl rfl (LOp.extract rfl rfl rfl) ?_
                              refine ROps.l (r := AV.oref 11 1 0 r49.length) rfl rfl rfl (LOp.extract rfl rfl rfl) ?_
                              refine ROps.l (r := AV.b r46) rfl rfl rfl (LOp.extract rfl rfl rfl) ?_
                              refine ROps.d (r := AV.optr 12 1 0) (fs := [(12, [AV.i64 0, AV.i64 0, AV.nilsl])]) (Γ' := [⟨3, some (r43.map AV.f32)⟩, ⟨1, some (r8.map AV.f32)⟩, ⟨1, some (r9.map AV.i64)⟩, ⟨1, some (r10.map AV.i64)⟩, ⟨1, some [AV.i64 r5, AV.i64 r6, AV.oref 1 1 0 r8.length]⟩, ⟨2, some (r47.map AV.f32)⟩, ⟨1, some (r33.map AV.f32)⟩, ⟨1, some (r35.map AV.i64)⟩, ⟨1, some (r37.map AV.i64)⟩, ⟨1, some [AV.i64 r14, AV.i64 r15, AV.oref 6 1 0 r17.length]⟩, ⟨1, some (r48.map AV.i64)⟩, ⟨1, some (r49.map AV.i64)⟩, ⟨1, some [AV.i64 0, AV.i64 0, AV.nilsl]⟩]) rfl rfl rfl (TOp.alloc_o (g := ⟨0, none⟩) 12 rfl zer27 zok27 rfl) rfl ?_
                              refine ROps.store_le (r := AV.agg [AV.i64 r44, AV.i64 r45, AV.oref 5 2 0 r47.length]) (l' := [AV.i64 r44, AV.i64 r45, AV.oref 5 2 0 r47.length]) (Γ' := [⟨3, some (r43.map AV.f32)⟩, ⟨1, some (r8.map AV.f32)⟩, ⟨1, some (r9.map AV.i64)⟩, ⟨1, some (r10.map AV.i64)⟩, ⟨1, some [AV.i64 r5, AV.i64 r6, AV.oref 1 1 0 r8.length]⟩, ⟨2, some (r47.map AV.f32)⟩, ⟨1, some (r33.map AV.f32)⟩, ⟨1, some (r35.map AV.i64)⟩, ⟨1, some (r37.map AV.i64)⟩, ⟨1, some [AV.i64 r14, AV.i64 r15, AV.oref 6 1 0 r17.length]⟩, ⟨1, some (r48.map AV.i64)⟩, ⟨1, some (r49.map AV.i64)⟩, ⟨1, some [AV.i64 r44, AV.i64 r45, AV.oref 5 2 0 r47.length]⟩]) rfl siz27 rfl rfl rfl (ALe.refl _) rfl rfl rfl rfl (Nat.le_of_ble_eq_true rfl) rfl rfl ?_
                              refine ROps.l (r := AV.oref 10 1 0 r48.length) rfl rfl rfl (LOp.assign rfl rfl) ?_
                              refine ROps.l (r := AV.oref 11 1 0 r49.length) rfl rfl rfl (LOp.assign rfl rfl) ?_
                              refine ROps.l (r := AV.b r46) rfl rfl rfl (LOp.assign rfl rfl) ?_
                              refine ROps.nil ?_
                              refine RunC.wl (τ' := [(8, AV.optr 4 1 0), (9, AV.oref 2 1 0 r9.length), (10, AV.oref 3 1 0 r10.length), (11, AV.b r7), (13, AV.optr 9 1 0), (14, AV.oref 7 1 0 r18.length), (15, AV.oref 8 1 0 r19.length), (18, AV.i64 r36), (20, AV.optr 12 1 0), (21, AV.oref 10 1 0 r48.length), (22, AV.oref 11 1 0 r49.length), (23, AV.b r46)]) (Γ' := [⟨3, none⟩, ⟨1, some (r8.map AV.f32)⟩, ⟨1, some (r9.map AV.i64)⟩, ⟨1, some (r10.map AV.i64)⟩, ⟨1, some [AV.i64 r5, AV.i64 r6, AV.oref 1 1 0 r8.length]⟩, ⟨2, some (r47.map AV.f32)⟩, ⟨1, some (r33.map AV.f32)⟩, ⟨1, some (r35.map AV.i64)⟩, ⟨1, some (r37.map AV.i64)⟩, ⟨1, some [AV.i64 r14, AV.i64 r15, AV.oref 6 1 0 r17.length]⟩, ⟨1, some (r48.map AV.i64)⟩, ⟨1, some (r49.map AV.i64)⟩, ⟨1, some [AV.i64 r44, AV.i64 r45, AV.oref 5 2 0 r47.length]⟩]) ⟨(ALe.refl _), (ALe.refl _), (ALe.refl _), (ALe.refl _), (ALe.refl _), (ALe.refl _), (ALe.refl _), (ALe.refl _), (ALe.refl _), (ALe.refl _), (ALe.refl _), (ALe.refl _), trivial⟩ ⟨⟨rfl, .inl rfl⟩, ⟨rfl, .inr rfl⟩, ⟨rfl, .inr rfl⟩, ⟨rfl, .inr rfl⟩, ⟨rfl, .inr rfl⟩, ⟨rfl, .inr rfl⟩, ⟨rfl, .inr rfl⟩, ⟨rfl, .inr rfl⟩, ⟨rfl, .inr rfl⟩, ⟨rfl, .inr rfl⟩, ⟨rfl, .inr rfl⟩, ⟨rfl, .inr rfl⟩, ⟨rfl, .inr rfl⟩, trivial⟩ ?_
                              refine RunC.seq ?_
                              refine RunC.seq ?_
                              obtain ⟨r50, hf41, h⟩ := obind_some h
                              rcases bsel_some h with ⟨hc42, h⟩ | ⟨hc42, h⟩
                              · obtain ⟨r51, hf43, h⟩ := obind_some h
                                rcases bsel_some h with ⟨hc44, h⟩ | ⟨hc44, h⟩
                                · obtain ⟨r52, hf45, h⟩ := obind_some h
                                  rcases bsel_some h with ⟨hc46, h⟩ | ⟨hc46, h⟩
                                  · rcases bsel_some h with ⟨hc47, h⟩ | ⟨hc47, h⟩
                                    · refine RunC.regionW ?_
                                      refine ROps.d (r := AV.agg [AV.i64 r44, AV.i64 r45, AV.oref 5 2 0 r47.length]) (fs := []) (Γ' := [⟨3, none⟩, ⟨1, some (r8.map AV.f32)⟩, ⟨1, some (r9.map AV.i64)⟩, ⟨1, some (r10.map AV.i64)⟩, ⟨1, some [AV.i64 r5, AV.i64 r6, AV.oref 1 1 0 r8.length]⟩, ⟨2, some (r47.map AV.f32)⟩, ⟨1, some (r33.map AV.f32)⟩, ⟨1, some (r35.map AV.i64)⟩, ⟨1, some (r37.map AV.i64)⟩, ⟨1, some [AV.i64 r14, AV.i64 r15, AV.oref 6 1 0 r17.length]⟩, ⟨1, some (r48.map AV.i64)⟩, ⟨1, some (r49.map AV.i64)⟩, ⟨1, some [AV.i64 r44, AV.i64 r45, AV.oref 5 2 0 r47.length]⟩]) rfl rfl rfl (TOp.loadAgg_o rfl agg27 siz27 rfl rfl rfl rfl) rfl ?_
                                      refine ROps.d (r := AV.agg [AV.i64 r5, AV.i64 r6, AV.oref 1 1 0 r8.length]) (fs := []) (Γ' := [⟨3, none⟩, ⟨1, some (r8.map AV.f32)⟩, ⟨1, some (r9.map AV.i64)⟩, ⟨1, some (r10.map AV.i64)⟩, ⟨1, some [AV.i64 r5, AV.i64 r6, AV.oref 1 1 0 r8.length]⟩, ⟨2, some (r47.map AV.f32)⟩, ⟨1, some (r33.map AV.f32)⟩, ⟨1, some (r35.map AV.i64)⟩, ⟨1, some (r37.map AV.i64)⟩, ⟨1, some [AV.i64 r14, AV.i64 r15, AV.oref 6 1 0 r17.length]⟩, ⟨1, some (r48.map AV.i64)⟩, ⟨1, some (r49.map AV.i64)⟩, ⟨1, some [AV.i64 r44, AV.i64 r45, AV.oref 5 2 0 r47.length]⟩]) rfl rfl rfl (TOp.loadAgg_o rfl agg27 siz27 rfl rfl rfl rfl) rfl ?_
                                      refine ROps.d (r := AV.b true) (fs := []) (Γ' := [⟨3, none⟩, ⟨1, some (r8.map AV.f32)⟩, ⟨1, some (r9.map AV.i64)⟩, ⟨1, some (r10.map AV.i64)⟩, ⟨1, some [AV.i64 r5, AV.i64 r6, AV.oref 1 1 0 r8.length]⟩, ⟨2, some (r47.map AV.f32)⟩, ⟨1, some (r33.map AV.f32)⟩, ⟨1, some (r35.map AV.i64)⟩, ⟨1, some (r37.map AV.i64)⟩, ⟨1, some [AV.i64 r14, AV.i64 r15, AV.oref 6 1 0 r17.length]⟩, ⟨1, some (r48.map AV.i64)⟩, ⟨1, some (r49.map AV.i64)⟩, ⟨1, some [AV.i64 r44, AV.i64 r45, AV.oref 5 2 0 r47.length]⟩]) rfl rfl rfl (TOp.eqb (TOp.callB (CallAs.func ent13 rfl rfl) (Bors.cons (Bor.agg (Bors.cons (Bor.pure rfl) (Bors.cons (Bor.pure rfl) (Bors.cons (Bor.own (f := AV.f32) (fun _ => rfl) rfl rfl) Bors.nil)))) (Bors.cons (Bor.agg (Bors.cons (Bor.pure rfl) (Bors.cons (Bor.pure rfl) (Bors.cons (Bor.own (f := AV.f32) (fun _ => rfl) rfl rfl) Bors.nil)))) Bors.nil)) rfl rfl (w_eqMatrix_ok r44 r45 r47 r5 r6 r8 r50 hf41)) hc42) rfl ?_
                                      refine ROps.l (r := AV.b false) rfl rfl rfl (LOp.eqb (LOp.not rfl rfl) rfl) ?_
                                      refine ROps.l (r := AV.b false) rfl rfl rfl (LOp.move rfl rfl) ?_
                                      refine ROps.l (r := AV.oref 10 1 0 r48.length) rfl rfl rfl (LOp.move rfl rfl) ?_
                                      refine ROps.l (r := AV.oref 2 1 0 r9.length) rfl rfl rfl (LOp.move rfl rfl) ?_
                                      refine ROps.d (r := AV.b true) (fs := []) (Γ' := [⟨3, none⟩, ⟨1, some (r8.map AV.f32)⟩, ⟨1, some (r9.map AV.i64)⟩, ⟨1, some (r10.map AV.i64)⟩, ⟨1, some [AV.i64 r5, AV.i64 r6, AV.oref 1 1 0 r8.length]⟩, ⟨2, some (r47.map AV.f32)⟩, ⟨1, some (r33.map AV.f32)⟩, ⟨1, some (r35.map AV.i64)⟩, ⟨1, some (r37.map AV.i64)⟩, ⟨1, some [AV.i64 r14, AV.i64 r15, AV.oref 6 1 0 r17.length]⟩, ⟨1, some (r48.map AV.i64)⟩, ⟨1, some (r49.map AV.i64)⟩, ⟨1, some [AV.i64 r44, AV.i64 r45, AV.oref 5 2 0 r47.length]⟩]) rfl rfl rfl (TOp.eqb (TOp.callB (CallAs.func ent14 rfl rfl) (Bors.cons (Bor.own (f := AV.i64) (fun _ => rfl) rfl rfl) (Bors.cons (Bor.own (f := AV.i64) (fun _ => rfl) rfl rfl) Bors.nil)) rfl rfl (w_eqInt64S_ok r48 r9 r51 hf43)) hc44) rfl ?_
                                      refine ROps.l (r := AV.b false) rfl rfl rfl (LOp.eqb (LOp.not rfl rfl) rfl) ?_
                                      refine ROps.l (r := AV.b false) rfl rfl rfl (LOp.pick_false rfl rfl rfl) ?_
                                      refine ROps.l (r := AV.b false) rfl rfl rfl (LOp.move rfl rfl) ?_
                                      refine ROps.l (r := AV.oref 11 1 0 r49.length) rfl rfl rfl (LOp.move rfl rfl) ?_
                                      refine ROps.l (r := AV.oref 3 1 0 r10.length) rfl rfl rfl (LOp.move rfl rfl) ?_
                                      refine ROps.d (r := AV.b true) (fs := []) (Γ' := [⟨3, none⟩, ⟨1, some (r8.map AV.f32)⟩, ⟨1, some (r9.map AV.i64)⟩, ⟨1, some (r10.map AV.i64)⟩, ⟨1, some [AV.i64 r5, AV.i64 r6, AV.oref 1 1 0 r8.length]⟩, ⟨2, some (r47.map AV.f32)⟩, ⟨1, some (r33.map AV.f32)⟩, ⟨1, some (r35.map AV.i64)⟩, ⟨1, some (r37.map AV.i64)⟩, ⟨1, some [AV.i64 r14, AV.i64 r15, AV.oref 6 1 0 r17.length]⟩, ⟨1, some (r48.map AV.i64)⟩, ⟨1, some (r49.map AV.i64)⟩, ⟨1, some [AV.i64 r44, AV.i64 r45, AV.oref 5 2 0 r47.length]⟩]) rfl rfl rfl (TOp.eqb (TOp.callB (CallAs.func ent14 rfl rfl) (Bors.cons (Bor.own (f := AV.i64) (fun _ => rfl) rfl rfl) (Bors.cons (Bor.own (f := AV.i64) (fun _ => rfl) rfl rfl) Bors.nil)) rfl rfl (w_eqInt64S_ok r49 r10 r52 hf45)) hc46) rfl ?_
                                      refine ROps.l (r := AV.b false) rfl rfl rfl (LOp.eqb (LOp.not rfl rfl) rfl) ?_
                                      refine ROps.l (r := AV.b false) rfl rfl rfl (LOp.pick_false rfl rfl rfl) ?_
                                      refine ROps.l (r := AV.b false) rfl rfl rfl (LOp.move rfl rfl) ?_
                                      refine ROps.l (r := AV.b r46) rfl rfl rfl (LOp.move rfl rfl) ?_
                                      refine ROps.l (r := AV.b r7) rfl rfl rfl (LOp.move rfl rfl) ?_
                                      refine ROps.l (r := AV.b true) rfl rfl rfl (LOp.eqb (LOp.neqb pun4 rfl rfl rfl) hc47) ?_
                                      refine ROps.l (r := AV.b true) rfl rfl rfl (LOp.pick_false rfl rfl rfl) ?_
                                      refine ROps.nil ?_
                                      refine RunC.wl (τ' := [(13, AV.optr 9 1 0), (14, AV.oref 7 1 0 r18.length), (15, AV.oref 8 1 0 r19.length), (18, AV.i64 r36), (161, AV.b true)]) (Γ' := [⟨3, none⟩, ⟨1, none⟩, ⟨1, none⟩, ⟨1, none⟩, ⟨1, none⟩, ⟨2, none⟩, ⟨1, some (r33.map AV.f32)⟩, ⟨1, some (r35.map AV.i64)⟩, ⟨1, some (r37.map AV.i64)⟩, ⟨1, some [AV.i64 r14, AV.i64 r15, AV.oref 6 1 0 r17.length]⟩, ⟨1, none⟩, ⟨1, none⟩, ⟨1, none⟩]) ⟨(ALe.refl _), (ALe.refl _), (ALe.refl _), (ALe.refl _), (ALe.refl _), trivial⟩ ⟨⟨rfl, .inl rfl⟩, ⟨rfl, .inl rfl⟩, ⟨rfl, .inl rfl⟩, ⟨rfl, .inl rfl⟩, ⟨rfl, .inl rfl⟩, ⟨rfl, .inl rfl⟩, ⟨rfl, .inr rfl⟩, ⟨rfl, .inr rfl⟩, ⟨rfl, .inr rfl⟩, ⟨rfl, .inr rfl⟩, ⟨rfl, .inl rfl⟩, ⟨rfl, .inl rfl⟩, ⟨rfl, .inl rfl⟩, trivial⟩ ?_
                                      refine RunC.cond_true rfl rfl ?_
                                      refine RunC.seq ?_
                                      refine RunC.regionW ?_
                                      refine ROps.l (r := AV.b false) rfl rfl rfl (LOp.assign rfl rfl) ?_
                                      refine ROps.nil ?_
                                      refine RunC.ret ?_
                                      have hq := Option.some.inj h
                                      subst q0
                                      exact bodyQ.pure (.inr rfl) rfl (Res.one rfl (RV.tmp rfl))
                                    · refine RunC.regionW ?_
                                      refine ROps.d (r := AV.agg [AV.i64 r44, AV.i64 r45, AV.oref 5 2 0 r47.length]) (fs := []) (Γ' := [⟨3, none⟩, ⟨1, some (r8.map AV.f32)⟩, ⟨1, some (r9.map AV.i64)⟩, ⟨1, some (r10.map AV.i64)⟩, ⟨1, some [AV.i64 r5, AV.i64 r6, AV.oref 1 1 0 r8.length]⟩, ⟨2, some (r47.map AV.f32)⟩, ⟨1, some (r33.map AV.f32)⟩, ⟨1, some (r35.map AV.i64)⟩, ⟨1, some (r37.map AV.i64)⟩, ⟨1, some [AV.i64 r14, AV.i64 r15, AV.oref 6 1 0 r17.length]⟩, ⟨1, some (r48.map AV.i64)⟩, ⟨1, some (r49.map AV.i64)⟩, ⟨1, some [AV.i64 r44, AV.i64 r45, AV.oref 5 2 0 r47.length]⟩]) rfl rfl rfl (TOp.loadAgg_o rfl agg27 siz27 rfl rfl rfl rfl) rfl ?_
                                      refine ROps.d (r := AV.agg [AV.i64 r5, AV.i64 r6, AV.oref 1 1 0 r8.length]) (fs := []) (Γ' := [⟨3, none⟩, ⟨1, some (r8.map AV.f32)⟩, ⟨1, some (r9.map AV.i64)⟩, ⟨1, some (r10.map AV.i64)⟩, ⟨1, some [AV.i64 r5, AV.i64 r6, AV.oref 1 1 0 r8.length]⟩, ⟨2, some (r47.map AV.f32)⟩, ⟨1, some (r33.map AV.f32)⟩, ⟨1, some (r35.map AV.i64)⟩, ⟨1, some (r37.map AV.i64)⟩, ⟨1, some [AV.i64 r14, AV.i64 r15, AV.oref 6 1 0 r17.length]⟩, ⟨1, some (r48.map AV.i64)⟩, ⟨1, some (r49.map AV.i64)⟩, ⟨1, some [AV.i64 r44, AV.i64 r45, AV.oref 5 2 0 r47.length]⟩]) rfl rfl rfl (TOp.loadAgg_o rfl agg27 siz27 rfl rfl rfl rfl) rfl ?_
                                      refine ROps.d (r := AV.b true) (fs := []) (Γ' := [⟨3, none⟩, ⟨1, some (r8.map AV.f32)⟩, ⟨1, some (r9.map AV.i64)⟩, ⟨1, some (r10.map AV.i64)⟩, ⟨1, some [AV.i64 r5, AV.i64 r6, AV.oref 1 1 0 r8.length]⟩, ⟨2, some (r47.map AV.f32)⟩, ⟨1, some (r33.map AV.f32)⟩, ⟨1, some (r35.map AV.i64)⟩, ⟨1, some (r37.map AV.i64)⟩, ⟨1, some [AV.i64 r14, AV.i64 r15, AV.oref 6 1 0 r17.length]⟩, ⟨1, some (r48.map AV.i64)⟩, ⟨1, some (r49.map AV.i64)⟩, ⟨1, some [AV.i64 r44, AV.i64 r45, AV.oref 5 2 0 r47.length]⟩]) rfl rfl rfl (TOp.eqb (TOp.callB (CallAs.func ent13 rfl rfl) (Bors.cons (Bor.agg (Bors.cons (Bor.pure rfl) (Bors.cons (Bor.pure rfl) (Bors.cons (Bor.own (f := AV.f32) (fun _ => rfl) rfl rfl) Bors.nil)))) (Bors.cons (Bor.agg (Bors.cons (Bor.pure rfl) (Bors.cons (Bor.pure rfl) (Bors.cons (Bor.own (f := AV.f32) (fun _ => rfl) rfl rfl) Bors.nil)))) Bors.nil)) rfl rfl (w_eqMatrix_ok r44 r45 r47 r5 r6 r8 r50 hf41)) hc42) rfl ?_
                                      refine ROps.l (r := AV.b false) rfl rfl rfl (LOp.eqb (LOp.not rfl rfl) rfl) ?_
                                      refine ROps.l (r := AV.b false) rfl rfl rfl (LOp.move rfl rfl) ?_
                                      refine ROps.l (r := AV.oref 10 1 0 r48.length) rfl rfl rfl (LOp.move rfl rfl) ?_
                                      refine ROps.l (r := AV.oref 2 1 0 r9.length) rfl rfl rfl (LOp.move rfl rfl) ?_
                                      refine ROps.d (r := AV.b true) (fs := []) (Γ' := [⟨3, none⟩, ⟨1, some (r8.map AV.f32)⟩, ⟨1, some (r9.map AV.i64)⟩, ⟨1, some (r10.map AV.i64)⟩, ⟨1, some [AV.i64 r5, AV.i64 r6, AV.oref 1 1 0 r8.length]⟩, ⟨2, some (r47.map AV.f32)⟩, ⟨1, some (r33.map AV.f32)⟩, ⟨1, some (r35.map AV.i64)⟩, ⟨1, some (r37.map AV.i64)⟩, ⟨1, some [AV.i64 r14, AV.i64 r15, AV.oref 6 1 0 r17.length]⟩, ⟨1, some (r48.map AV.i64)⟩, ⟨1, some (r49.map AV.i64)⟩, ⟨1, some [AV.i64 r44, AV.i64 r45, AV.oref 5 2 0 r47.length]⟩]) rfl rfl rfl (TOp.eqb (TOp.callB (CallAs.func ent14 rfl rfl) (Bors.cons (Bor.own (f := AV.i64) (fun _ => rfl) rfl rfl) (Bors.cons (Bor.own (f := AV.i64) (fun _ => rfl) rfl rfl) Bors.nil)) rfl rfl (w_eqInt64S_ok r48 r9 r51 hf43)) hc44) rfl ?_
                                      refine ROps.l (r := AV.b false) rfl rfl rfl (LOp.eqb (LOp.not rfl rfl) rfl) ?_
                                      refine ROps.l (r := AV.b false) rfl rfl rfl (LOp.pick_false rfl rfl rfl) ?_
                                      refine ROps.l (r := AV.b false) rfl rfl rfl (LOp.move rfl rfl) ?_
                                      refine ROps.l (r := AV.oref 11 1 0 r49.length) rfl rfl rfl (LOp.move rfl rfl) ?_
                                      refine ROps.l (r := AV.oref 3 1 0 r10.length) rfl rfl rfl (LOp.move rfl rfl) ?_
                                      refine ROps.d (r := AV.b true) (fs := []) (Γ' := [⟨3, none⟩, ⟨1, some (r8.map AV.f32)⟩, ⟨1, some (r9.map AV.i64)⟩, ⟨1, some (r10.map AV.i64)⟩, ⟨1, some [AV.i64 r5, AV.i64 r6, AV.oref 1 1 0 r8.length]⟩, ⟨2, some (r47.map AV.f32)⟩, ⟨1, some (r33.map AV.f32)⟩, ⟨1, some (r35.map AV.i64)⟩, ⟨1, some (r37.map AV.i64)⟩, ⟨1, some [AV.i64 r14, AV.i64 r15, AV.oref 6 1 0 r17.length]⟩, ⟨1, some (r48.map AV.i64)⟩, ⟨1, some (r49.map AV.i64)⟩, ⟨1, some [AV.i64 r44, AV.i64 r45, AV.oref 5 2 0 r47.length]⟩]) rfl rfl rfl (TOp.eqb (TOp.callB (CallAs.func ent14 rfl rfl) (Bors.cons (Bor.own (f := AV.i64) (fun _ => rfl) rfl rfl) (Bors.cons (Bor.own (f := AV.i64) (fun _ => rfl) rfl rfl) Bors.nil)) rfl rfl (w_eqInt64S_ok r49 r10 r52 hf45)) hc46) rfl ?_
                                      refine ROps.l (r := AV.b false) rfl rfl rfl (LOp.eqb (LOp.not rfl rfl) rfl) ?_
                                      refine ROps.l (r := AV.b false) rfl rfl rfl (LOp.pick_false rfl rfl rfl) ?_
                                      refine ROps.l (r := AV.b false) rfl rfl rfl (LOp.move rfl rfl) ?_
                                      refine ROps.l (r := AV.b r46) rfl rfl rfl (LOp.move rfl rfl) ?_
                                      refine ROps.l (r := AV.b r7) rfl rfl rfl (LOp.move rfl rfl) ?_
                                      refine ROps.l (r := AV.b false) rfl rfl rfl (LOp.eqb (LOp.neqb pun4 rfl rfl rfl) hc47) ?_
                                      refine ROps.l (r := AV.b false) rfl rfl rfl (LOp.pick_false rfl rfl rfl) ?_
                                      refine ROps.nil ?_
                                      refine RunC.wl (τ' := [(13, AV.optr 9 1 0), (14, AV.oref 7 1 0 r18.length), (15, AV.oref 8 1 0 r19.length), (18, AV.i64 r36), (161, AV.b false)]) (Γ' := [⟨3, none⟩, ⟨1, none⟩, ⟨1, none⟩, ⟨1, none⟩, ⟨1, none⟩, ⟨2, none⟩, ⟨1, some (r33.map AV.f32)⟩, ⟨1, some (r35.map AV.i64)⟩, ⟨1, some (r37.map AV.i64)⟩, ⟨1, some [AV.i64 r14, AV.i64 r15, AV.oref 6 1 0 r17.length]⟩, ⟨1, none⟩, ⟨1, none⟩, ⟨1, none⟩]) ⟨(ALe.refl _), (ALe.refl _), (ALe.refl _), (ALe.refl _), (ALe.refl _), trivial⟩ ⟨⟨rfl, .inl rfl⟩, ⟨rfl, .inl rfl⟩, ⟨rfl, .inl rfl⟩, ⟨rfl, .inl rfl⟩, ⟨rfl, .inl rfl⟩, ⟨rfl, .inl rfl⟩, ⟨rfl, .inr rfl⟩, ⟨rfl, .inr rfl⟩, ⟨rfl, .inr rfl⟩, ⟨rfl, .inr rfl⟩, ⟨rfl, .inl rfl⟩, ⟨rfl, .inl rfl⟩, ⟨rfl, .inl rfl⟩, trivial⟩ ?_
                                      refine RunC.cond_false rfl rfl ?_
                                      refine RunC.skip ?_
                                      refine RunC.seq ?_
                                      refine RunC.regionW ?_
                                      refine ROps.l (r := AV.i64 1) rfl rfl rfl (LOp.assign rfl rfl) ?_
                                      refine ROps.nil ?_
                                      refine RunC.seq ?_
                                      obtain ⟨r53, hf48, h⟩ := obind_some h
                                      refine RunC.regionW ?_
                                      refine ROps.d (r := AV.agg [AV.i64 r14, AV.i64 r15, AV.oref 6 1 0 r17.length]) (fs := []) (Γ' := [⟨3, none⟩, ⟨1, none⟩, ⟨1, none⟩, ⟨1, none⟩, ⟨1, none⟩, ⟨2, none⟩, ⟨1, some (r33.map AV.f32)⟩, ⟨1, some (r35.map AV.i64)⟩, ⟨1, some (r37.map AV.i64)⟩, ⟨1, some [AV.i64 r14, AV.i64 r15, AV.oref 6 1 0 r17.length]⟩, ⟨1, none⟩, ⟨1, none⟩, ⟨1, none⟩]) rfl rfl rfl (TOp.loadAgg_o rfl agg27 siz27 rfl rfl rfl rfl) rfl ?_
                                      refine ROps.l (r := AV.i64 1) rfl rfl rfl (LOp.move rfl rfl) ?_
                                      refine ROps.d (r := AV.i64 r53) (fs := []) (Γ' := [⟨3, none⟩, ⟨1, none⟩, ⟨1, none⟩, ⟨1, none⟩, ⟨1, none⟩, ⟨2, none⟩, ⟨1, some (r33.map AV.f32)⟩, ⟨1, some (r35.map AV.i64)⟩, ⟨1, some (r37.map AV.i64)⟩, ⟨1, some [AV.i64 r14, AV.i64 r15, AV.oref 6 1 0 r17.length]⟩, ⟨1, none⟩, ⟨1, none⟩, ⟨1, none⟩]) rfl rfl rfl (TOp.callB (CallAs.func ent17 rfl rfl) (Bors.cons (Bor.agg (Bors.cons (Bor.pure rfl) (Bors.cons (Bor.pure rfl) (Bors.cons (Bor.own (f := AV.f32) (fun _ => rfl) rfl (of_decide_eq_true hn27)) Bors.nil)))) (Bors.cons (Bor.pure rfl) Bors.nil)) rfl rfl (w_heldMatrix_ok r14 r15 r33 1 r53 hf48)) rfl ?_
                                      refine ROps.l (r := AV.i64 r53) rfl rfl rfl (LOp.assign rfl rfl) ?_
                                      refine ROps.nil ?_
                                      refine RunC.wl (τ' := [(14, AV.oref 7 1 0 r18.length), (15, AV.oref 8 1 0 r19.length), (18, AV.i64 r36), (19, AV.i64 r53)]) (Γ' := [⟨3, none⟩, ⟨1, none⟩, ⟨1, none⟩, ⟨1, none⟩, ⟨1, none⟩, ⟨2, none⟩, ⟨1, none⟩, ⟨1, some (r35.map AV.i64)⟩, ⟨1, some (r37.map AV.i64)⟩, ⟨1, none⟩, ⟨1, none⟩, ⟨1, none⟩, ⟨1, none⟩]) ⟨(ALe.refl _), (ALe.refl _), (ALe.refl _), (ALe.refl _), trivial⟩ ⟨⟨rfl, .inl rfl⟩, ⟨rfl, .inl rfl⟩, ⟨rfl, .inl rfl⟩, ⟨rfl, .inl rfl⟩, ⟨rfl, .inl rfl⟩, ⟨rfl, .inl rfl⟩, ⟨rfl, .inl rfl⟩, ⟨rfl, .inr rfl⟩, ⟨rfl, .inr rfl⟩, ⟨rfl, .inl rfl⟩, ⟨rfl, .inl rfl⟩, ⟨rfl, .inl rfl⟩, ⟨rfl, .inl rfl⟩, trivial⟩ ?_
                                      refine RunC.seq ?_
                                      refine RunC.seq ?_
                                      rcases bsel_some h with ⟨hc49, h⟩ | ⟨hc49, h⟩
                                      · refine RunC.regionW ?_
                                        refine ROps.l (r := AV.i64 r53) rfl rfl rfl (LOp.move rfl rfl) ?_
                                        refine ROps.l (r := AV.b true) rfl rfl rfl (LOp.eqb (LOp.lss rfl rfl rfl) hc49) ?_
                                        refine ROps.nil ?_
                                        refine RunC.cond_true rfl rfl ?_
                                        refine RunC.seq ?_
                                        refine RunC.regionW ?_
                                        refine ROps.l (r := AV.b false) rfl rfl rfl (LOp.assign rfl rfl) ?_
                                        refine ROps.nil ?_
                                        refine RunC.ret ?_
                                        have hq := Option.some.inj h
                                        subst q0
                                        exact bodyQ.pure (.inr rfl) rfl (Res.one rfl (RV.tmp rfl))
                                      · refine RunC.regionW ?_
                                        refine ROps.l (r := AV.i64 r53) rfl rfl rfl (LOp.move rfl rfl) ?_
                                        refine ROps.l (r := AV.b false) rfl rfl rfl (LOp.eqb (LOp.lss rfl rfl rfl) hc49) ?_
                                        refine ROps.nil ?_
                                        refine RunC.cond_false rfl rfl ?_
                                        refine RunC.skip ?_
                                        refine RunC.seq ?_
                                        obtain ⟨r54, hf50, h⟩ := obind_some h
                                        refine RunC.regionW ?_
                                        refine ROps.l (r := AV.oref 7 1 0 r18.length) rfl rfl rfl (LOp.move rfl rfl) ?_
                                        refine ROps.l (r := AV.i64 r53) rfl rfl rfl (LOp.move rfl rfl) ?_
                                        refine ROps.d (r := AV.i64 r54) (fs := []) (Γ' := [⟨3, none⟩, ⟨1, none⟩, ⟨1, none⟩, ⟨1, none⟩, ⟨1, none⟩, ⟨2, none⟩, ⟨1, none⟩, ⟨1, some (r35.map AV.i64)⟩, ⟨1, some (r37.map AV.i64)⟩, ⟨1, none⟩, ⟨1, none⟩, ⟨1, none⟩, ⟨1, none⟩]) rfl rfl rfl (TOp.callB (CallAs.func ent18 rfl rfl) (Bors.cons (Bor.own (f := AV.i64) (fun _ => rfl) rfl (of_decide_eq_true hn29)) (Bors.cons (Bor.pure rfl) Bors.nil)) rfl rfl (w_heldInt64S_ok r35 r53 r54 hf50)) rfl ?_
                                        refine ROps.l (r := AV.i64 r54) rfl rfl rfl (LOp.assign rfl rfl) ?_
                                        refine ROps.nil ?_
                                        refine RunC.wl (τ' := [(15, AV.oref 8 1 0 r19.length), (18, AV.i64 r36), (19, AV.i64 r54)]) (Γ' := [⟨3, none⟩, ⟨1, none⟩, ⟨1, none⟩, ⟨1, none⟩, ⟨1, none⟩, ⟨2, none⟩, ⟨1, none⟩, ⟨1, none⟩, ⟨1, some (r37.map AV.i64)⟩, ⟨1, none⟩, ⟨1, none⟩, ⟨1, none⟩, ⟨1, none⟩]) ⟨(ALe.refl _), (ALe.refl _), (ALe.refl _), trivial⟩ ⟨⟨rfl, .inl rfl⟩, ⟨rfl, .inl rfl⟩, ⟨rfl, .inl rfl⟩, ⟨rfl, .inl rfl⟩, ⟨rfl, .inl rfl⟩, ⟨rfl, .inl rfl⟩, ⟨rfl, .inl rfl⟩, ⟨rfl, .inl rfl⟩, ⟨rfl, .inr rfl⟩, ⟨rfl, .inl rfl⟩, ⟨rfl, .inl rfl⟩, ⟨rfl, .inl rfl⟩, ⟨rfl, .inl rfl⟩, trivial⟩ ?_
                                        refine RunC.seq ?_
                                        refine RunC.seq ?_
                                        rcases bsel_some h with ⟨hc51, h⟩ | ⟨hc51, h⟩
                                        · refine RunC.regionW ?_
                                          refine ROps.l (r := AV.i64 r54) rfl rfl rfl (LOp.move rfl rfl) ?_
                                          refine ROps.l (r := AV.b true) rfl rfl rfl (LOp.eqb (LOp.lss rfl rfl rfl) hc51) ?_
                                          refine ROps.nil ?_
                                          refine RunC.cond_true rfl rfl ?_
                                          refine RunC.seq ?_
                                          refine RunC.regionW ?_
                                          refine ROps.l (r := AV.b false) rfl rfl rfl (LOp.assign rfl rfl) ?_
                                          refine ROps.nil ?_
                                          refine RunC.ret ?_
                                          have hq := Option.some.inj h
                                          subst q0
                                          exact bodyQ.pure (.inr rfl) rfl (Res.one rfl (RV.tmp rfl))
                                        · refine RunC.regionW ?_
                                          refine ROps.l (r := AV.i64 r54) rfl rfl rfl (LOp.move rfl rfl) ?_
                                          refine ROps.l (r := AV.b false) rfl rfl rfl (LOp.eqb (LOp.lss rfl rfl rfl) hc51) ?_
                                          refine ROps.nil ?_
                                          refine RunC.cond_false rfl rfl ?_
                                          refine RunC.skip ?_
                                          refine RunC.seq ?_
                                          obtain ⟨r55, hf52, h⟩ := obind_some h
                                          refine RunC.regionW ?_
                                          refine ROps.l (r := AV.oref 8 1 0 r19.length) rfl rfl rfl (LOp.move rfl rfl) ?_
                                          refine ROps.l (r := AV.i64 r54) rfl rfl rfl (LOp.move rfl rfl) ?_
                                          refine ROps.d (r := AV.i64 r55) (fs := []) (Γ' := [⟨3, none⟩, ⟨1, none⟩, ⟨1, none⟩, ⟨1, none⟩, ⟨1, none⟩, ⟨2, none⟩, ⟨1, none⟩, ⟨1, none⟩, ⟨1, some (r37.map AV.i64)⟩, ⟨1, none⟩, ⟨1, none⟩, ⟨1, none⟩, ⟨1, none⟩]) rfl rfl rfl (TOp.callB (CallAs.func ent18 rfl rfl) (Bors.cons (Bor.own (f := AV.i64) (fun _ => rfl) rfl (of_decide_eq_true hn31)) (Bors.cons (Bor.pure rfl) Bors.nil)) rfl rfl (w_heldInt64S_ok r37 r54 r55 hf52)) rfl ?_
                                          refine ROps.l (r := AV.i64 r55) rfl rfl rfl (LOp.assign rfl rfl) ?_
                                          refine ROps.nil ?_
                                          refine RunC.wl (τ' := [(18, AV.i64 r36), (19, AV.i64 r55)]) (Γ' := [⟨3, none⟩, ⟨1, none⟩, ⟨1, none⟩, ⟨1, none⟩, ⟨1, none⟩, ⟨2, none⟩, ⟨1, none⟩, ⟨1, none⟩, ⟨1, none⟩, ⟨1, none⟩, ⟨1, none⟩, ⟨1, none⟩, ⟨1, none⟩]) ⟨(ALe.refl _), (ALe.refl _), trivial⟩ ⟨⟨rfl, .inl rfl⟩, ⟨rfl, .inl rfl⟩, ⟨rfl, .inl rfl⟩, ⟨rfl, .inl rfl⟩, ⟨rfl, .inl rfl⟩, ⟨rfl, .inl rfl⟩, ⟨rfl, .inl rfl⟩, ⟨rfl, .inl rfl⟩, ⟨rfl, .inl rfl⟩, ⟨rfl, .inl rfl⟩, ⟨rfl, .inl rfl⟩, ⟨rfl, .inl rfl⟩, ⟨rfl, .inl rfl⟩, trivial⟩ ?_
                                          refine RunC.seq ?_
                                          refine RunC.seq ?_
                                          rcases bsel_some h with ⟨hc53, h⟩ | ⟨hc53, h⟩
                                          · refine RunC.regionW ?_
                                            refine ROps.l (r := AV.i64 r55) rfl rfl rfl (LOp.move rfl rfl) ?_
                                            refine ROps.l (r := AV.b true) rfl rfl rfl (LOp.eqb (LOp.lss rfl rfl rfl) hc53) ?_
                                            refine ROps.nil ?_
                                            refine RunC.cond_true rfl rfl ?_
                                            refine RunC.seq ?_
                                            refine RunC.regionW ?_
                                            refine ROps.l (r := AV.b false) rfl rfl rfl (LOp.assign rfl rfl) ?_
                                            refine ROps.nil ?_
                                            refine RunC.ret ?_
                                            have hq := Option.some.inj h
                                            subst q0
                                            exact bodyQ.pure (.inr rfl) rfl (Res.one rfl (RV.tmp rfl))
                                          · refine RunC.regionW ?_
                                            refine ROps.l (r := AV.i64 r55) rfl rfl rfl (LOp.move rfl rfl) ?_
                                            refine ROps.l (r := AV.b false) rfl rfl rfl (LOp.eqb (LOp.lss rfl rfl rfl) hc53) ?_
                                            refine ROps.nil ?_
                                            refine RunC.cond_false rfl rfl ?_
                                            refine RunC.skip ?_
                                            refine RunC.seq ?_
                                            refine RunC.seq ?_
                                            rcases bsel_some h with ⟨hc54, h⟩ | ⟨hc54, h⟩
                                            · refine RunC.regionW ?_
                                              refine ROps.l (r := AV.i64 r55) rfl rfl rfl (LOp.move rfl rfl) ?_
                                              refine ROps.l (r := AV.i64 r36) rfl rfl rfl (LOp.move rfl rfl) ?_
                                              refine ROps.l (r := AV.b true) rfl rfl rfl (LOp.eqb (LOp.neq rfl rfl rfl) hc54) ?_
                                              refine ROps.nil ?_
                                              refine RunC.cond_true rfl rfl ?_
                                              refine RunC.seq ?_
                                              refine RunC.regionW ?_
                                              refine ROps.l (r := AV.b false) rfl rfl rfl (LOp.assign rfl rfl) ?_
                                              refine ROps.nil ?_
                                              refine RunC.ret ?_
                                              have hq := Option.some.inj h
                                              subst q0
                                              exact bodyQ.pure (.inr rfl) rfl (Res.one rfl (RV.tmp rfl))
                                            · refine RunC.regionW ?_
                                              refine ROps.l (r := AV.i64 r55) rfl rfl rfl (LOp.move rfl rfl) ?_
                                              refine ROps.l (r := AV.i64 r36) rfl rfl rfl (LOp.move rfl rfl) ?_
                                              refine ROps.l (r := AV.b false) rfl rfl rfl (LOp.eqb (LOp.neq rfl rfl rfl) hc54) ?_
                                              refine ROps.nil ?_
                                              refine RunC.cond_false rfl rfl ?_
                                              refine RunC.skip ?_
                                              refine RunC.seq ?_
                                              refine RunC.regionW ?_
                                              refine ROps.l (r := AV.b true) rfl rfl rfl (LOp.assign rfl rfl) ?_
                                              refine ROps.nil ?_
                                              refine RunC.ret ?_
                                              have hq := Option.some.inj h
                                              subst q0
                                              exact bodyQ.pure (.inr rfl) rfl (Res.one rfl (RV.tmp rfl))
                                  · refine RunC.regionW ?_
                                    refine ROps.d (r := AV.agg [AV.i64 r44, AV.i64 r45, AV.oref 5 2 0 r47.length]) (fs := []) (Γ' := [⟨3, none⟩, ⟨1, some (r8.map AV.f32)⟩, ⟨1, some (r9.map AV.i64)⟩, ⟨1, some (r10.map AV.i64)⟩, ⟨1, some [AV.i64 r5, AV.i64 r6, AV.oref 1 1 0 r8.length]⟩, ⟨2, some (r47.map AV.f32)⟩, ⟨1, some (r33.map AV.f32)⟩, ⟨1, some (r35.map AV.i64)⟩, ⟨1, some (r37.map AV.i64)⟩, ⟨1, some [AV.i64 r14, AV.i64 r15, AV.oref 6 1 0 r17.length]⟩, ⟨1, some (r48.map AV.i64)⟩, ⟨1, some (r49.map AV.i64)⟩, ⟨1, some [AV.i64 r44, AV.i64 r45, AV.oref 5 2 0 r47.length]⟩]) rfl rfl rfl (TOp.loadAgg_o rfl agg27 siz27 rfl rfl rfl rfl) rfl ?_
                                    refine ROps.d (r := AV.agg [AV.i64 r5, AV.i64 r6, AV.oref 1 1 0 r8.length]) (fs := []) (Γ' := [⟨3, none⟩, ⟨1, some (r8.map AV.f32)⟩, ⟨1, some (r9.map AV.i64)⟩, ⟨1, some (r10.map AV.i64)⟩, ⟨1, some [AV.i64 r5, AV.i64 r6, AV.oref 1 1 0 r8.length]⟩, ⟨2, some (r47.map AV.f32)⟩, ⟨1, some (r33.map AV.f32)⟩, ⟨1, some (r35.map AV.i64)⟩, ⟨1, some (r37.map AV.i64)⟩, ⟨1, some [AV.i64 r14, AV.i64 r15, AV.oref 6 1 0 r17.length]⟩, ⟨1, some (r48.map AV.i64)⟩, ⟨1, some (r49.map AV.i64)⟩, ⟨1, some [AV.i64 r44, AV.i64 r45, AV.oref 5 2 0 r47.length]⟩]) rfl rfl rfl (TOp.loadAgg_o rfl agg27 siz27 rfl rfl rfl rfl) rfl ?_
                                    refine ROps.d (r := AV.b true) (fs := []) (Γ' := [⟨3, none⟩, ⟨1, some (r8.map AV.f32)⟩, ⟨1, some (r9.map AV.i64)⟩, ⟨1, some (r10.map AV.i64)⟩, ⟨1, some [AV.i64 r5, AV.i64 r6, AV.oref 1 1 0 r8.length]⟩, ⟨2, some (r47.map AV.f32)⟩, ⟨1, some (r33.map AV.f32)⟩, ⟨1, some (r35.map AV.i64)⟩, ⟨1, some (r37.map AV.i64)⟩, ⟨1, some [AV.i64 r14, AV.i64 r15, AV.oref 6 1 0 r17.length]⟩, ⟨1, some (r48.map AV.i64)⟩, ⟨1, some (r49.map AV.i64)⟩, ⟨1, some [AV.i64 r44, AV.i64 r45, AV.oref 5 2 0 r47.length]⟩]) rfl rfl rfl (TOp.eqb (TOp.callB (CallAs.func ent13 rfl rfl) (Bors.cons (Bor.agg (Bors.cons (Bor.pure rfl) (Bors.cons (Bor.pure rfl) (Bors.cons (Bor.own (f := AV.f32) (fun _ => rfl) rfl rfl) Bors.nil)))) (Bors.cons (Bor.agg (Bors.cons (Bor.pure rfl) (Bors.cons (Bor.pure rfl) (Bors.cons (Bor.own (f := AV.f32) (fun _ => rfl) rfl rfl) Bors.nil)))) Bors.nil)) rfl rfl (w_eqMatrix_ok r44 r45 r47 r5 r6 r8 r50 hf41)) hc42) rfl ?_
                                    refine ROps.l (r := AV.b false) rfl rfl rfl (LOp.eqb (LOp.not rfl rfl) rfl) ?_
                                    refine ROps.l (r := AV.b false) rfl rfl rfl (LOp.move rfl rfl) ?_
                                    refine ROps.l (r := AV.oref 10 1 0 r48.length) rfl rfl rfl (LOp.move rfl rfl) ?_
                                    refine ROps.l (r := AV.oref 2 1 0 r9.length) rfl rfl rfl (LOp.move rfl rfl) ?_
                                    refine ROps.d (r := AV.b true) (fs := []) (Γ' := [⟨3, none⟩, ⟨1, some (r8.map AV.f32)⟩, ⟨1, some (r9.map AV.i64)⟩, ⟨1, some (r10.map AV.i64)⟩, ⟨1, some [AV.i64 r5, AV.i64 r6, AV.oref 1 1 0 r8.length]⟩, ⟨2, some (r47.map AV.f32)⟩, ⟨1, some (r33.map AV.f32)⟩, ⟨1, some (r35.map AV.i64)⟩, ⟨1, some (r37.map AV.i64)⟩, ⟨1, some [AV.i64 r14, AV.i64 r15, AV.oref 6 1 0 r17.length]⟩, ⟨1, some (r48.map AV.i64)⟩, ⟨1, some (r49.map AV.i64)⟩, ⟨1, some [AV.i64 r44, AV.i64 r45, AV.oref 5 2 0 r47.length]⟩]) rfl rfl rfl (TOp.eqb (TOp.callB (CallAs.func ent14 rfl rfl) (Bors.cons (Bor.own (f := AV.i64) (fun _ => rfl) rfl rfl) (Bors.cons (Bor.own (f := AV.i64) (fun _ => rfl) rfl rfl) Bors.nil)) rfl rfl (w_eqInt64S_ok r48 r9 r51 hf43)) hc44) rfl ?_
                                    refine ROps.l (r := AV.b false) rfl rfl rfl (LOp.eqb (LOp.not rfl rfl) rfl) ?_
                                    refine ROps.l (r := AV.b false) rfl rfl rfl (LOp.pick_false rfl rfl rfl) ?_
                                    refine ROps.l (r := AV.b false) rfl rfl rfl (LOp.move rfl rfl) ?_
                                    refine ROps.l (r := AV.oref 11 1 0 r49.length) rfl rfl rfl (LOp.move rfl rfl) ?_
                                    refine ROps.l (r := AV.oref 3 1 0 r10.length) rfl rfl rfl (LOp.move rfl rfl) ?_
                                    refine ROps.d (r := AV.b false) (fs := []) (Γ' := [⟨3, none⟩, ⟨1, some (r8.map AV.f32)⟩, ⟨1, some (r9.map AV.i64)⟩, ⟨1, some (r10.map AV.i64)⟩, ⟨1, some [AV.i64 r5, AV.i64 r6, AV.oref 1 1 0 r8.length]⟩, ⟨2, some (r47.map AV.f32)⟩, ⟨1, some (r33.map AV.f32)⟩, ⟨1, some (r35.map AV.i64)⟩, ⟨1, some (r37.map AV.i64)⟩, ⟨1, some [AV.i64 r14, AV.i64 r15, AV.oref 6 1 0 r17.length]⟩, ⟨1, some (r48.map AV.i64)⟩, ⟨1, some (r49.map AV.i64)⟩, ⟨1, some [AV.i64 r44, AV.i64 r45, AV.oref 5 2 0 r47.length]⟩]) rfl rfl rfl (TOp.eqb (TOp.callB (CallAs.func ent14 rfl rfl) (Bors.cons (Bor.own (f := AV.i64) (fun _ => rfl) rfl rfl) (Bors.cons (Bor.own (f := AV.i64) (fun _ => rfl) rfl rfl) Bors.nil)) rfl rfl (w_eqInt64S_ok r49 r10 r52 hf45)) hc46) rfl ?_
                                    refine ROps.l (r := AV.b true) rfl rfl rfl (LOp.eqb (LOp.not rfl rfl) rfl) ?_
                                    refine ROps.l (r := AV.b true) rfl rfl rfl (LOp.pick_false rfl rfl rfl) ?_
                                    refine ROps.l (r := AV.b true) rfl rfl rfl (LOp.move rfl rfl) ?_
                                    refine ROps.s rfl rfl rfl ?_
                                    refine ROps.s rfl rfl rfl ?_
                                    refine ROps.s rfl rfl rfl ?_
                                    refine ROps.l (r := AV.b true) rfl rfl rfl (LOp.pick_true rfl rfl rfl) ?_
                                    refine ROps.nil ?_
                                    refine RunC.wl (τ' := [(13, AV.optr 9 1 0), (14, AV.oref 7 1 0 r18.length), (15, AV.oref 8 1 0 r19.length), (18, AV.i64 r36), (161, AV.b true)]) (Γ' := [⟨3, none⟩, ⟨1, none⟩, ⟨1, none⟩, ⟨1, none⟩, ⟨1, none⟩, ⟨2, none⟩, ⟨1, some (r33.map AV.f32)⟩, ⟨1, some (r35.map AV.i64)⟩, ⟨1, some (r37.map AV.i64)⟩, ⟨1, some [AV.i64 r14, AV.i64 r15, AV.oref 6 1 0 r17.length]⟩, ⟨1, none⟩, ⟨1, none⟩, ⟨1, none⟩]) ⟨(ALe.refl _), (ALe.refl _), (ALe.refl _), (ALe.refl _), (ALe.refl _), trivial⟩ ⟨⟨rfl, .inl rfl⟩, ⟨rfl, .inl rfl⟩, ⟨rfl, .inl rfl⟩, ⟨rfl, .inl rfl⟩, ⟨rfl, .inl rfl⟩, ⟨rfl, .inl rfl⟩, ⟨rfl, .inr rfl⟩, ⟨rfl, .inr rfl⟩, ⟨rfl, .inr rfl⟩, ⟨rfl, .inr rfl⟩, ⟨rfl, .inl rfl⟩, ⟨rfl, .inl rfl⟩, ⟨rfl, .inl rfl⟩, trivial⟩ ?_
                                    refine RunC.cond_true rfl rfl ?_
                                    refine RunC.seq ?_
                                    refine RunC.regionW ?_
                                    refine ROps.l (r := AV.b false) rfl rfl rfl (LOp.assign rfl rfl) ?_
                                    refine ROps.nil ?_
                                    refine RunC.ret ?_
                                    have hq := Option.some.inj h
                                    subst q0
                                    exact bodyQ.pure (.inr rfl) rfl (Res.one rfl (RV.tmp rfl))
                                · refine RunC.regionW ?_
                                  refine ROps.d (r := AV.agg [AV.i64 r44, AV.i64 r45, AV.oref 5 2 0 r47.length]) (fs := []) (Γ' := [⟨3, none⟩, ⟨1, some (r8.map AV.f32)⟩, ⟨1, some (r9.map AV.i64)⟩, ⟨1, some (r10.map AV.i64)⟩, ⟨1, some [AV.i64 r5, AV.i64 r6, AV.oref 1 1 0 r8.length]⟩, ⟨2, some (r47.map AV.f32)⟩, ⟨1, some (r33.map AV.f32)⟩, ⟨1, some (r35.map AV.i64)⟩, ⟨1, some (r37.map AV.i64)⟩, ⟨1, some [AV.i64 r14, AV.i64 r15, AV.oref 6 1 0 r17.length]⟩, ⟨1, some (r48.map AV.i64)⟩, ⟨1, some (r49.map AV.i64)⟩, ⟨1, some [AV.i64 r44, AV.i64 r45, AV.oref 5 2 0 r47.length]⟩]) rfl rfl rfl (TOp.loadAgg_o rfl agg27 siz27 rfl rfl rfl rfl) rfl ?_
                                  refine ROps.d (r := AV.agg [AV.i64 r5, AV.i64 r6, AV.oref 1 1 0 r8.length]) (fs := []) (Γ' := [⟨3, none⟩, ⟨1, some (r8.map AV.f32)⟩, ⟨1, some (r9.map AV.i64)⟩, ⟨1, some (r10.map AV.i64)⟩, ⟨1, some [AV.i64 r5, AV.i64 r6, AV.oref 1 1 0 r8.length]⟩, ⟨2, some (r47.map AV.f32)⟩, ⟨1, some (r33.map AV.f32)⟩, ⟨1, some (r35.map AV.i64)⟩, ⟨1, some (r37.map AV.i64)⟩, ⟨1, some [AV.i64 r14, AV.i64 r15, AV.oref 6 1 0 r17.length]⟩, ⟨1, some (r48.map AV.i64)⟩, ⟨1, some (r49.map AV.i64)⟩, ⟨1, some [AV.i64 r44, AV.i64 r45, AV.oref 5 2 0 r47.length]⟩]) rfl rfl rfl (TOp.loadAgg_o rfl agg27 siz27 rfl rfl rfl rfl) rfl ?_
                                  refine ROps.d (r := AV.b true) (fs := []) (Γ' := [⟨3, none⟩, ⟨1, some (r8.map AV.f32)⟩, ⟨1, some (r9.map AV.i64)⟩, ⟨1, some (r10.map AV.i64)⟩, ⟨1, some [AV.i64 r5, AV.i64 r6, AV.oref 1 1 0 r8.length]⟩, ⟨2, some (r47.map AV.f32)⟩, ⟨1, some (r33.map AV.f32)⟩, ⟨1, some (r35.map AV.i64)⟩, ⟨1, some (r37.map AV.i64)⟩, ⟨1, some [AV.i64 r14, AV.i64 r15, AV.oref 6 1 0 r17.length]⟩, ⟨1, some (r48.map AV.i64)⟩, ⟨1, some (r49.map AV.i64)⟩, ⟨1, some [AV.i64 r44, AV.i64 r45, AV.oref 5 2 0 r47.length]⟩]) rfl rfl rfl (TOp.eqb (TOp.callB (CallAs.func ent13 rfl rfl) (Bors.cons (Bor.agg (Bors.cons (Bor.pure rfl) (Bors.cons (Bor.pure rfl) (Bors.cons (Bor.own (f := AV.f32) (fun _ => rfl) rfl rfl) Bors.nil)))) (Bors.cons (Bor.agg (Bors.cons (Bor.pure rfl) (Bors.cons (Bor.pure rfl) (Bors.cons (Bor.own (f := AV.f32) (fun _ => rfl) rfl rfl) Bors.nil)))) Bors.nil)) rfl rfl (w_eqMatrix_ok r44 r45 r47 r5 r6 r8 r50 hf41)) hc42) rfl ?_
                                  refine ROps.l (r := AV.b false) rfl rfl rfl (LOp.eqb (LOp.not rfl rfl) rfl) ?_
                                  refine ROps.l (r := AV.b false) rfl rfl rfl (LOp.move rfl rfl) ?_
                                  refine ROps.l (r := AV.oref 10 1 0 r48.length) rfl rfl rfl (LOp.move rfl rfl) ?_
                                  refine ROps.l (r := AV.oref 2 1 0 r9.length) rfl rfl rfl (LOp.move rfl rfl) ?_
                                  refine ROps.d (r := AV.b false) (fs := []) (Γ' := [⟨3, none⟩, ⟨1, some (r8.map AV.f32)⟩, ⟨1, some (r9.map AV.i64)⟩, ⟨1, some (r10.map AV.i64)⟩, ⟨1, some [AV.i64 r5, AV.i64 r6, AV.oref 1 1 0 r8.length]⟩, ⟨2, some (r47.map AV.f32)⟩, ⟨1, some (r33.map AV.f32)⟩, ⟨1, some (r35.map AV.i64)⟩, ⟨1, some (r37.map AV.i64)⟩, ⟨1, some [AV.i64 r14, AV.i64 r15, AV.oref 6 1 0 r17.length]⟩, ⟨1, some (r48.map AV.i64)⟩, ⟨1, some (r49.map AV.i64)⟩, ⟨1, some [AV.i64 r44, AV.i64 r45, AV.oref 5 2 0 r47.length]⟩]) rfl rfl rfl (TOp.eqb (TOp.callB (CallAs.func ent14 rfl rfl) (Bors.cons (Bor.own (f := AV.i64) (fun _ => rfl) rfl rfl) (Bors.cons (Bor.own (f := AV.i64) (fun _ => rfl) rfl rfl) Bors.nil)) rfl rfl (w_eqInt64S_ok r48 r9 r51 hf43)) hc44) rfl ?_
                                  refine ROps.l (r := AV.b true) rfl rfl rfl (LOp.eqb (LOp.not rfl rfl) rfl) ?_
                                  refine ROps.l (r := AV.b true) rfl rfl rfl (LOp.pick_false rfl rfl rfl) ?_
                                  refine ROps.l (r := AV.b true) rfl rfl rfl (LOp.move rfl rfl) ?_
                                  refine ROps.s rfl rfl rfl ?_
                                  refine ROps.s rfl rfl rfl ?_
                                  refine ROps.s rfl rfl rfl ?_
                                  refine ROps.s rfl rfl rfl ?_
                                  refine ROps.l (r := AV.b true) rfl rfl rfl (LOp.pick_true rfl rfl rfl) ?_
                                  refine ROps.l (r := AV.b true) rfl rfl rfl (LOp.move rfl rfl) ?_
                                  refine ROps.s rfl rfl rfl ?_
                                  refine ROps.s rfl rfl rfl ?_
                                  refine ROps.s rfl rfl rfl ?_
                                  refine ROps.l (r := AV.b true) rfl rfl rfl (LOp.pick_true rfl rfl rfl) ?_
                                  refine ROps.nil ?_
                                  refine RunC.wl (τ' := [(13, AV.optr 9 1 0), (14, AV.oref 7 1 0 r18.length), (15, AV.oref 8 1 0 r19.length), (18, AV.i64 r36), (161, AV.b true)]) (Γ' := [⟨3, none⟩, ⟨1, none⟩, ⟨1, none⟩, ⟨1, none⟩, ⟨1, none⟩, ⟨2, none⟩, ⟨1, some (r33.map AV.f32)⟩, ⟨1, some (r35.map AV.i64)⟩, ⟨1, some (r37.map AV.i64)⟩, ⟨1, some [AV.i64 r14, AV.i64 r15, AV.oref 6 1 0 r17.length]⟩, ⟨1, none⟩, ⟨1, none⟩, ⟨1, none⟩]) ⟨(ALe.refl _), (ALe.refl _), (ALe.refl _), (ALe.refl _), (ALe.refl _), trivial⟩ ⟨⟨rfl, .inl rfl⟩, ⟨rfl, .inl rfl⟩, ⟨rfl, .inl rfl⟩, ⟨rfl, .inl rfl⟩, ⟨rfl, .inl rfl⟩, ⟨rfl, .inl rfl⟩, ⟨rfl, .inr rfl⟩, ⟨rfl, .inr rfl⟩, ⟨rfl, .inr rfl⟩, ⟨rfl, .inr rfl⟩, ⟨rfl, .inl rfl⟩, ⟨rfl, .inl rfl⟩, ⟨rfl, .inl rfl⟩, trivial⟩ ?_
                                  refine RunC.cond_true rfl rfl ?_
                                  refine RunC.seq ?_
                                  refine RunC.regionW ?_
                                  refine ROps.l (r := AV.b false) rfl rfl rfl (LOp.assign rfl rfl) ?_
                                  refine ROps.nil ?_
                                  refine RunC.ret ?_
                                  have hq := Option.some.inj h
                                  subst q0
                                  exact bodyQ.pure (.inr rfl) rfl (Res.one rfl (RV.tmp rfl))
                              · refine RunC.regionW ?_
                                refine ROps.d (r := AV.agg [AV.i64 r44, AV.i64 r45, AV.oref 5 2 0 r47.length]) (fs := []) (Γ' := [⟨3, none⟩, ⟨1, some (r8.map AV.f32)⟩, ⟨1, some (r9.map AV.i64)⟩, ⟨1, some (r10.map AV.i64)⟩, ⟨1, some [AV.i64 r5, AV.i64 r6, AV.oref 1 1 0 r8.length]⟩, ⟨2, some (r47.map AV.f32)⟩, ⟨1, some (r33.map AV.f32)⟩, ⟨1, some (r35.map AV.i64)⟩, ⟨1, some (r37.map AV.i64)⟩, ⟨1, some [AV.i64 r14, AV.i64 r15, AV.oref 6 1 0 r17.length]⟩, ⟨1, some (r48.map AV.i64)⟩, ⟨1, some (r49.map AV.i64)⟩, ⟨1, some [AV.i64 r44, AV.i64 r45, AV.oref 5 2 0 r47.length]⟩]) rfl rfl rfl (TOp.loadAgg_o rfl agg27 siz27 rfl rfl rfl rfl) rfl ?_
                                refine ROps.d (r := AV.agg [AV.i64 r5, AV.i64 r6, AV.oref 1 1 0 r8.length]) (fs := []) (Γ' := [⟨3, none⟩, ⟨1, some (r8.map AV.f32)⟩, ⟨1, some (r9.map AV.i64)⟩, ⟨1, some (r10.map AV.i64)⟩, ⟨1, some [AV.i64 r5, AV.i64 r6, AV.oref 1 1 0 r8.length]⟩, ⟨2, some (r47.map AV.f32)⟩, ⟨1, some (r33.map AV.f32)⟩, ⟨1, some (r35.map AV.i64)⟩, ⟨1, some (r37.map AV.i64)⟩, ⟨1, some [AV.i64 r14, AV.i64 r15, AV.oref 6 1 0 r17.length]⟩, ⟨1, some (r48.map AV.i64)⟩, ⟨1, some (r49.map AV.i64)⟩, ⟨1, some [AV.i64 r44, AV.i64 r45, AV.oref 5 2 0 r47.length]⟩]) rfl rfl rfl (TOp.loadAgg_o rfl agg27 siz27 rfl rfl rfl rfl) rfl ?_
                                refine ROps.d (r := AV.b false) (fs := []) (Γ' := [⟨3, none⟩, ⟨1, some (r8.map AV.f32)⟩, ⟨1, some (r9.map AV.i64)⟩, ⟨1, some (r10.map AV.i64)⟩, ⟨1, some [AV.i64 r5, AV.i64 r6, AV.oref 1 1 0 r8.length]⟩, ⟨2, some (r47.map AV.f32)⟩, ⟨1, some (r33.map AV.f32)⟩, ⟨1, some (r35.map AV.i64)⟩, ⟨1, some (r37.map AV.i64)⟩, ⟨1, some [AV.i64 r14, AV.i64 r15, AV.oref 6 1 0 r17.length]⟩, ⟨1, some (r48.map AV.i64)⟩, ⟨1, some (r49.map AV.i64)⟩, ⟨1, some [AV.i64 r44, AV.i64 r45, AV.oref 5 2 0 r47.length]⟩]) rfl rfl rfl (TOp.eqb (TOp.callB (CallAs.func ent13 rfl rfl) (Bors.cons (Bor.agg (Bors.cons (Bor.pure rfl) (Bors.cons (Bor.pure rfl) (Bors.cons (Bor.own (f := AV.f32) (fun _ => rfl) rfl rfl) Bors.nil)))) (Bors.cons (Bor.agg (Bors.cons (Bor.pure rfl) (Bors.cons (Bor.pure rfl) (Bors.cons (Bor.own (f := AV.f32) (fun _ => rfl) rfl rfl) Bors.nil)))) Bors.nil)) rfl rfl (w_eqMatrix_ok r44 r45 r47 r5 r6 r8 r50 hf41)) hc42) rfl ?_
                                refine ROps.l (r := AV.b true) rfl rfl rfl (LOp.eqb (LOp.not rfl rfl) rfl) ?_
                                refine ROps.l (r := AV.b true) rfl rfl rfl (LOp.move rfl rfl) ?_
                                refine ROps.s rfl rfl rfl ?_
                                refine ROps.s rfl rfl rfl ?_
                                refine ROps.s rfl rfl rfl ?_
                                refine ROps.s rfl rfl rfl ?_
                                refine ROps.l (r := AV.b true) rfl rfl rfl (LOp.pick_true rfl rfl rfl) ?_
                                refine ROps.l (r := AV.b true) rfl rfl rfl (LOp.move rfl rfl) ?_
                                refine ROps.s rfl rfl rfl ?_
                                refine ROps.s rfl rfl rfl ?_
                                refine ROps.s rfl rfl rfl ?_
                                refine ROps.s rfl rfl rfl ?_
                                refine ROps.l (r := AV.b true) rfl rfl rfl (LOp.pick_true rfl rfl rfl) ?_
                                refine ROps.l (r := AV.b true) rfl rfl rfl (LOp.move rfl rfl) ?_
                                refine ROps.s rfl rfl rfl ?_
                                refine ROps.s rfl rfl rfl ?_
                                refine ROps.s rfl rfl rfl ?_
                                refine ROps.l (r := AV.b true) rfl rfl rfl (LOp.pick_true rfl rfl rfl) ?_
                                refine ROps.nil ?_
                                refine RunC.wl (τ' := [(13, AV.optr 9 1 0), (14, AV.oref 7 1 0 r18.length), (15, AV.oref 8 1 0 r19.length), (18, AV.i64 r36), (161, AV.b true)]) (Γ' := [⟨3, none⟩, ⟨1, none⟩, ⟨1, none⟩, ⟨1, none⟩, ⟨1, none⟩, ⟨2, none⟩, ⟨1, some (r33.map AV.f32)⟩, ⟨1, some (r35.map AV.i64)⟩, ⟨1, some (r37.map AV.i64)⟩, ⟨1, some [AV.i64 r14, AV.i64 r15, AV.oref 6 1 0 r17.length]⟩, ⟨1, none⟩, ⟨1, none⟩, ⟨1, none⟩]) ⟨(ALe.refl _), (ALe.refl _), (ALe.refl _), (ALe.refl _), (ALe.refl _), trivial⟩ ⟨⟨rfl, .inl rfl⟩, ⟨rfl, .inl rfl⟩, ⟨rfl, .inl rfl⟩, ⟨rfl, .inl rfl⟩, ⟨rfl, .inl rfl⟩, ⟨rfl, .inl rfl⟩, ⟨rfl, .inr rfl⟩, ⟨rfl, .inr rfl⟩, ⟨rfl, .inr rfl⟩, ⟨rfl, .inr rfl⟩, ⟨rfl, .inl rfl⟩, ⟨rfl, .inl rfl⟩, ⟨rfl, .inl rfl⟩, trivial⟩ ?_
                                refine RunC.cond_true rfl rfl ?_
                                refine RunC.seq ?_
                                refine RunC.regionW ?_
                                refine ROps.l (r := AV.b false) rfl rfl rfl (LOp.assign rfl rfl) ?_
                                refine ROps.nil ?_
                                refine RunC.ret ?_
                                have hq := Option.some.inj h
                                subst q0
                                exact bodyQ.pure (.inr rfl) rfl (Res.one rfl (RV.tmp rfl))
                    · refine RunC.regionW ?_
                      refine ROps.l (r := AV.i64 r27) rfl rfl rfl (LOp.move rfl rfl) ?_
                      refine ROps.l (r := AV.b false) rfl rfl rfl (LOp.eqb (LOp.lss rfl rfl rfl) hc19) ?_
                      refine ROps.l (r := AV.b false) rfl rfl rfl (LOp.move rfl rfl) ?_
                      refine ROps.d (r := AV.agg [AV.i64 r14, AV.i64 r15, AV.oref 6 1 0 r17.length]) (fs := []) (Γ' := [⟨2, none⟩, ⟨1, some (r8.map AV.f32)⟩, ⟨1, some (r9.map AV.i64)⟩, ⟨1, some (r10.map AV.i64)⟩, ⟨1, some [AV.i64 r5, AV.i64 r6, AV.oref 1 1 0 r8.length]⟩, ⟨1, none⟩, ⟨1, some (r17.map AV.f32)⟩, ⟨1, some (r18.map AV.i64)⟩, ⟨1, some (r19.map AV.i64)⟩, ⟨1, some [AV.i64 r14, AV.i64 r15, AV.oref 6 1 0 r17.length]⟩, ⟨0, none⟩, ⟨0, none⟩, ⟨0, none⟩]) rfl rfl rfl (TOp.loadAgg_o rfl agg27 siz27 rfl rfl rfl rfl) rfl ?_
                      refine ROps.d (r := AV.agg [AV.i64 r5, AV.i64 r6, AV.oref 1 1 0 r8.length]) (fs := []) (Γ' := [⟨2, none⟩, ⟨1, some (r8.map AV.f32)⟩, ⟨1, some (r9.map AV.i64)⟩, ⟨1, some (r10.map AV.i64)⟩, ⟨1, some [AV.i64 r5, AV.i64 r6, AV.oref 1 1 0 r8.length]⟩, ⟨1, none⟩, ⟨1, some (r17.map AV.f32)⟩, ⟨1, some (r18.map AV.i64)⟩, ⟨1, some (r19.map AV.i64)⟩, ⟨1, some [AV.i64 r14, AV.i64 r15, AV.oref 6 1 0 r17.length]⟩, ⟨0, none⟩, ⟨0, none⟩, ⟨0, none⟩]) rfl rfl rfl (TOp.loadAgg_o rfl agg27 siz27 rfl rfl rfl rfl) rfl ?_
                      refine ROps.d (r := AV.b true) (fs := []) (Γ' := [⟨2, none⟩, ⟨1, some (r8.map AV.f32)⟩, ⟨1, some (r9.map AV.i64)⟩, ⟨1, some (r10.map AV.i64)⟩, ⟨1, some [AV.i64 r5, AV.i64 r6, AV.oref 1 1 0 r8.length]⟩, ⟨1, none⟩, ⟨1, some (r17.map AV.f32)⟩, ⟨1, some (r18.map AV.i64)⟩, ⟨1, some (r19.map AV.i64)⟩, ⟨1, some [AV.i64 r14, AV.i64 r15, AV.oref 6 1 0 r17.length]⟩, ⟨0, none⟩, ⟨0, none⟩, ⟨0, none⟩]) rfl rfl rfl (TOp.eqb (TOp.callB (CallAs.func ent13 rfl rfl) (Bors.cons (Bor.agg (Bors.cons (Bor.pure rfl) (Bors.cons (Bor.pure rfl) (Bors.cons (Bor.own (f := AV.f32) (fun _ => rfl) rfl rfl) Bors.nil)))) (Bors.cons (Bor.agg (Bors.cons (Bor.pure rfl) (Bors.cons (Bor.pure rfl) (Bors.cons (Bor.own (f := AV.f32) (fun _ => rfl) rfl rfl) Bors.nil)))) Bors.nil)) rfl rfl (w_eqMatrix_ok r14 r15 r17 r5 r6 r8 r29 hf20)) hc21) rfl ?_
                      refine ROps.l (r := AV.b false) rfl rfl rfl (LOp.eqb (LOp.not rfl rfl) rfl) ?_
                      refine ROps.l (r := AV.b false) rfl rfl rfl (LOp.pick_false rfl rfl rfl) ?_
                      refine ROps.l (r := AV.b false) rfl rfl rfl (LOp.move rfl rfl) ?_
                      refine ROps.l (r := AV.oref 7 1 0 r18.length) rfl rfl rfl (LOp.move rfl rfl) ?_
                      refine ROps.l (r := AV.oref 2 1 0 r9.length) rfl rfl rfl (LOp.move rfl rfl) ?_
                      refine ROps.d (r := AV.b true) (fs := []) (Γ' := [⟨2, none⟩, ⟨1, some (r8.map AV.f32)⟩, ⟨1, some (r9.map AV.i64)⟩, ⟨1, some (r10.map AV.i64)⟩, ⟨1, some [AV.i64 r5, AV.i64 r6, AV.oref 1 1 0 r8.length]⟩, ⟨1, none⟩, ⟨1, some (r17.map AV.f32)⟩, ⟨1, some (r18.map AV.i64)⟩, ⟨1, some (r19.map AV.i64)⟩, ⟨1, some [AV.i64 r14, AV.i64 r15, AV.oref 6 1 0 r17.length]⟩, ⟨0, none⟩, ⟨0, none⟩, ⟨0, none⟩]) rfl rfl rfl (TOp.eqb (TOp.callB (CallAs.func ent14 rfl rfl) (Bors.cons (Bor.own (f := AV.i64) (fun _ => rfl) rfl rfl) (Bors.cons (Bor.own (f := AV.i64) (fun _ => rfl) rfl rfl) Bors.nil)) rfl rfl (w_eqInt64S_ok r18 r9 r30 hf22)) hc23) rfl ?_
                      refine ROps.l (r := AV.b false) rfl rfl rfl (LOp.eqb (LOp.not rfl rfl) rfl) ?_
                      refine ROps.l (r := AV.b false) rfl rfl rfl (LOp.pick_false rfl rfl rfl) ?_
                      refine ROps.l (r := AV.b false) rfl rfl rfl (LOp.move rfl rfl) ?_
                      refine ROps.l (r := AV.oref 8 1 0 r19.length) rfl rfl rfl (LOp.move rfl rfl) ?_
                      refine ROps.l (r := AV.oref 3 1 0 r10.length) rfl rfl rfl (LOp.move rfl rfl) ?_
                      refine ROps.d (r := AV.b false) (fs := []) (Γ' := [⟨2, none⟩, ⟨1, some (r8.map AV.f32)⟩, ⟨1, some (r9.map AV.i64)⟩, ⟨1, some (r10.map AV.i64)⟩, ⟨1, some [AV.i64 r5, AV.i64 r6, AV.oref 1 1 0 r8.length]⟩, ⟨1, none⟩, ⟨1, some (r17.map AV.f32)⟩, ⟨1, some (r18.map AV.i64)⟩, ⟨1, some (r19.map AV.i64)⟩, ⟨1, some [AV.i64 r14, AV.i64 r15, AV.oref 6 1 0 r17.length]⟩, ⟨0, none⟩, ⟨0, none⟩, ⟨0, none⟩]) rfl rfl rfl (TOp.eqb (TOp.callB (CallAs.func ent14 rfl rfl) (Bors.cons (Bor.own (f := AV.i64) (fun _ => rfl) rfl rfl) (Bors.cons (Bor.own (f := AV.i64) (fun _ => rfl) rfl rfl) Bors.nil)) rfl rfl (w_eqInt64S_ok r19 r10 r31 hf24)) hc25) rfl ?_
                      refine ROps.l (r := AV.b true) rfl rfl rfl (LOp.eqb (LOp.not rfl rfl) rfl) ?_
                      refine ROps.l (r := AV.b true) rfl rfl rfl (LOp.pick_false rfl rfl rfl) ?_
                      refine ROps.l (r := AV.b true) rfl rfl rfl (LOp.move rfl rfl) ?_
                      refine ROps.s rfl rfl rfl ?_
                      refine ROps.s rfl rfl rfl ?_
                      refine ROps.s rfl rfl rfl ?_
                      refine ROps.l (r := AV.b true) rfl rfl rfl (LOp.pick_true rfl rfl rfl) ?_
                      refine ROps.nil ?_
                      refine RunC.wl (τ' := [(1, AV.f32 a3), (2, AV.i64 a4), (3, AV.ptr [AV.i64 a0, AV.i64 a1, AV.sl a2.length (a2.map AV.f32)]), (8, AV.optr 4 1 0), (9, AV.oref 2 1 0 r9.length), (10, AV.oref 3 1 0 r10.length), (11, AV.b r7), (13, AV.optr 9 1 0), (14, AV.oref 7 1 0 r18.length), (15, AV.oref 8 1 0 r19.length), (103, AV.b true)]) (Γ' := [⟨2, none⟩, ⟨1, some (r8.map AV.f32)⟩, ⟨1, some (r9.map AV.i64)⟩, ⟨1, some (r10.map AV.i64)⟩, ⟨1, some [AV.i64 r5, AV.i64 r6, AV.oref 1 1 0 r8.length]⟩, ⟨1, none⟩, ⟨1, some (r17.map AV.f32)⟩, ⟨1, some (r18.map AV.i64)⟩, ⟨1, some (r19.map AV.i64)⟩, ⟨1, some [AV.i64 r14, AV.i64 r15, AV.oref 6 1 0 r17.length]⟩, ⟨0, none⟩, ⟨0, none⟩, ⟨0, none⟩]) ⟨(ALe.refl _), (ALe.refl _), (ALe.refl _), (ALe.refl _), (ALe.refl _), (ALe.refl _), (ALe.refl _), (ALe.refl _), (ALe.refl _), (ALe.refl _), (ALe.refl _), trivial⟩ ⟨⟨rfl, .inl rfl⟩, ⟨rfl, .inr rfl⟩, ⟨rfl, .inr rfl⟩, ⟨rfl, .inr rfl⟩, ⟨rfl, .inr rfl⟩, ⟨rfl, .inl rfl⟩, ⟨rfl, .inr rfl⟩, ⟨rfl, .inr rfl⟩, ⟨rfl, .inr rfl⟩, ⟨rfl, .inr rfl⟩, ⟨rfl, .inr rfl⟩, ⟨rfl, .inr rfl⟩, ⟨rfl, .inr rfl⟩, trivial⟩ ?_
                      refine RunC.cond_true rfl rfl ?_
                      refine RunC.seq ?_
                      refine RunC.regionW ?_
                      refine ROps.l (r := AV.b false) rfl rfl rfl (LOp.assign rfl rfl) ?_
                      refine ROps.nil ?_
                      refine RunC.ret ?_
                      have hq := Option.some.inj h
                      subst q0
                      exact bodyQ.pure (.inr rfl) rfl (Res.one rfl (RV.tmp rfl))
                  · refine RunC.regionW ?_
                    refine ROps.l (r := AV.i64 r27) rfl rfl rfl (LOp.move rfl rfl) ?_
                    refine ROps.l (r := AV.b false) rfl rfl rfl (LOp.eqb (LOp.lss rfl rfl rfl) hc19) ?_
                    refine ROps.l (r := AV.b false) rfl rfl rfl (LOp.move rfl rfl) ?_
                    refine ROps.d (r := AV.agg [AV.i64 r14, AV.i64 r15, AV.oref 6 1 0 r17.length]) (fs := []) (Γ' := [⟨2, none⟩, ⟨1, some (r8.map AV.f32)⟩, ⟨1, some (r9.map AV.i64)⟩, ⟨1, some (r10.map AV.i64)⟩, ⟨1, some [AV.i64 r5, AV.i64 r6, AV.oref 1 1 0 r8.length]⟩, ⟨1, none⟩, ⟨1, some (r17.map AV.f32)⟩, ⟨1, some (r18.map AV.i64)⟩, ⟨1, some (r19.map AV.i64)⟩, ⟨1, some [AV.i64 r14, AV.i64 r15, AV.oref 6 1 0 r17.length]⟩, ⟨0, none⟩, ⟨0, none⟩, ⟨0, none⟩]) rfl rfl rfl (TOp.loadAgg_o rfl agg27 siz27 rfl rfl rfl rfl) rfl ?_
                    refine ROps.d (r := AV.agg [AV.i64 r5, AV.i64 r6, AV.oref 1 1 0 r8.length]) (fs := []) (Γ' := [⟨2, none⟩, ⟨1, some (r8.map AV.f32)⟩, ⟨1, some (r9.map AV.i64)⟩, ⟨1, some (r10.map AV.i64)⟩, ⟨1, some [AV.i64 r5, AV.i64 r6, AV.oref 1 1 0 r8.length]⟩, ⟨1, none⟩, ⟨1, some (r17.map AV.f32)⟩, ⟨1, some (r18.map AV.i64)⟩, ⟨1, some (r19.map AV.i64)⟩, ⟨1, some [AV.i64 r14, AV.i64 r15, AV.oref 6 1 0 r17.length]⟩, ⟨0, none⟩, ⟨0, none⟩, ⟨0, none⟩]) rfl rfl rfl (TOp.loadAgg_o rfl agg27 siz27 rfl rfl rfl rfl) rfl ?_
                    refine ROps.d (r := AV.b true) (fs := []) (Γ' := [⟨2, none⟩, ⟨1, some (r8.map AV.f32)⟩, ⟨1, some (r9.map AV.i64)⟩, ⟨1, some (r10.map AV.i64)⟩, ⟨1, some [AV.i64 r5, AV.i64 r6, AV.oref 1 1 0 r8.length]⟩, ⟨1, none⟩, ⟨1, some (r17.map AV.f32)⟩, ⟨1, some (r18.map AV.i64)⟩, ⟨1, some (r19.map AV.i64)⟩, ⟨1, some [AV.i64 r14, AV.i64 r15, AV.oref 6 1 0 r17.length]⟩, ⟨0, none⟩, ⟨0, none⟩, ⟨0, none⟩]) rfl rfl rfl (TOp.eqb (TOp.callB (CallAs.func ent13 rfl rfl) (Bors.cons (Bor.agg (Bors.cons (Bor.pure rfl) (Bors.cons (Bor.pure rfl) (Bors.cons (Bor.own (f := AV.f32) (fun _ => rfl) rfl rfl) Bors.nil)))) (Bors.cons (Bor.agg (Bors.cons (Bor.pure rfl) (Bors.cons (Bor.pure rfl) (Bors.cons (Bor.own (f := AV.f32) (fun _ => rfl) rfl rfl) Bors.nil)))) Bors.nil)) rfl rfl (w_eqMatrix_ok r14 r15 r17 r5 r6 r8 r29 hf20)) hc21) rfl ?_
                    refine ROps.l (r := AV.b false) rfl rfl rfl (LOp.eqb (LOp.not rfl rfl) rfl) ?_
                    refine ROps.l (r := AV.b false) rfl rfl rfl (LOp.pick_false rfl rfl rfl) ?_
                    refine ROps.l (r := AV.b false) rfl rfl rfl (LOp.move rfl rfl) ?_
                    refine ROps.l (r := AV.oref 7 1 0 r18.length) rfl rfl rfl (LOp.move rfl rfl) ?_
                    refine ROps.l (r := AV.oref 2 1 0 r9.length) rfl rfl rfl (LOp.move rfl rfl) ?_
                    refine ROps.d (r := AV.b false) (fs := []) (Γ' := [⟨2, none⟩, ⟨1, some (r8.map AV.f32)⟩, ⟨1, some (r9.map AV.i64)⟩, ⟨1, some (r10.map AV.i64)⟩, ⟨1, some [AV.i64 r5, AV.i64 r6, AV.oref 1 1 0 r8.length]⟩, ⟨1, none⟩, ⟨1, some (r17.map AV.f32)⟩, ⟨1, some (r18.map AV.i64)⟩, ⟨1, some (r19.map AV.i64)⟩, ⟨1, some [AV.i64 r14, AV.i64 r15, AV.oref 6 1 0 r17.length]⟩, ⟨0, none⟩, ⟨0, none⟩, ⟨0, none⟩]) rfl rfl rfl (TOp.eqb (TOp.callB (CallAs.func ent14 rfl rfl) (Bors.cons (Bor.own (f := AV.i64) (fun _ => rfl) rfl rfl) (Bors.cons (Bor.own (f := AV.i64) (fun _ => rfl) rfl rfl) Bors.nil)) rfl rfl (w_eqInt64S_ok r18 r9 r30 hf22)) hc23) rfl ?_
                    refine ROps.l (r := AV.b true) rfl rfl rfl (LOp.eqb (LOp.not rfl rfl) rfl) ?_
                    refine ROps.l (r := AV.b true) rfl rfl rfl (LOp.pick_false rfl rfl rfl) ?_
                    refine ROps.l (r := AV.b true) rfl rfl rfl (LOp.move rfl rfl) ?_
                    refine ROps.s rfl rfl rfl ?_
                    refine ROps.s rfl rfl rfl ?_
                    refine ROps.s rfl rfl rfl ?_
                    refine ROps.s rfl rfl rfl ?_
                    refine ROps.l (r := AV.b true) rfl rfl rfl (LOp.pick_true rfl rfl rfl) ?_
                    refine ROps.l (r := AV.b true) rfl rfl rfl (LOp.move rfl rfl) ?_
                    refine ROps.s rfl rfl rfl ?_
                    refine ROps.s rfl rfl rfl ?_
                    refine ROps.s rfl rfl rfl ?_
                    refine ROps.l (r := AV.b true) rfl rfl rfl (LOp.pick_true rfl rfl rfl) ?_
                    refine ROps.nil ?_
                    refine RunC.wl (τ' := [(1, AV.f32 a3), (2, AV.i64 a4), (3, AV.ptr [AV.i64 a0, AV.i64 a1, AV.sl a2.length (a2.map AV.f32)]), (8, AV.optr 4 1 0), (9, AV.oref 2 1 0 r9.length), (10, AV.oref 3 1 0 r10.length), (11, AV.b r7), (13, AV.optr 9 1 0), (14, AV.oref 7 1 0 r18.length), (15, AV.oref 8 1 0 r19.length), (103, AV.b true)]) (Γ' := [⟨2, none⟩, ⟨1, some (r8.map AV.f32)⟩, ⟨1, some (r9.map AV.i64)⟩, ⟨1, some (r10.map AV.i64)⟩, ⟨1, some [AV.i64 r5, AV.i64 r6, AV.oref 1 1 0 r8.length]⟩, ⟨1, none⟩, ⟨1, some (r17.map AV.f32)⟩, ⟨1, some (r18.map AV.i64)⟩, ⟨1, some (r19.map AV.i64)⟩, ⟨1, some [AV.i64 r14, AV.i64 r15, AV.oref 6 1 0 r17.length]⟩, ⟨0, none⟩, ⟨0, none⟩, ⟨0, none⟩]) ⟨(ALe.refl _), (ALe.refl _), (ALe.refl _), (ALe.refl _), (ALe.refl _), (ALe.refl _), (ALe.refl _), (ALe.refl _), (ALe.refl _), (ALe.refl _), (ALe.refl _), trivial⟩ ⟨⟨rfl, .inl rfl⟩, ⟨rfl, .inr rfl⟩, ⟨rfl, .inr rfl⟩, ⟨rfl, .inr rfl⟩, ⟨rfl, .inr rfl⟩, ⟨rfl, .inl rfl⟩, ⟨rfl, .inr rfl⟩, ⟨rfl, .inr rfl⟩, ⟨rfl, .inr rfl⟩, ⟨rfl, .inr rfl⟩, ⟨rfl, .inr rfl⟩, ⟨rfl, .inr rfl⟩, ⟨rfl, .inr rfl⟩, trivial⟩ ?_
                    refine RunC.cond_true rfl rfl ?_
                    refine RunC.seq ?_
                    refine RunC.regionW ?_
                    refine ROps.l (r := AV.b false) rfl rfl rfl (LOp.assign rfl rfl) ?_
                    refine ROps.nil ?_
                    refine RunC.ret ?_
                    have hq := Option.some.inj h
                    subst q0
                    exact bodyQ.pure (.inr rfl) rfl (Res.one rfl (RV.tmp rfl))
                · refine RunC.regionW ?_
                  refine ROps.l (r := AV.i64 r27) rfl rfl rfl (LOp.move rfl rfl) ?_
                  refine ROps.l (r := AV.b false) rfl rfl rfl (LOp.eqb (LOp.lss rfl rfl rfl) hc19) ?_
                  refine ROps.l (r := AV.b false) rfl rfl rfl (LOp.move rfl rfl) ?_
                  refine ROps.d (r := AV.agg [AV.i64 r14, AV.i64 r15, AV.oref 6 1 0 r17.length]) (fs := []) (Γ' := [⟨2, none⟩, ⟨1, some (r8.map AV.f32)⟩, ⟨1, some (r9.map AV.i64)⟩, ⟨1, some (r10.map AV.i64)⟩, ⟨1, some [AV.i64 r5, AV.i64 r6, AV.oref 1 1 0 r8.length]⟩, ⟨1, none⟩, ⟨1, some (r17.map AV.f32)⟩, ⟨1, some (r18.map AV.i64)⟩, ⟨1, some (r19.map AV.i64)⟩, ⟨1, some [AV.i64 r14, AV.i64 r15, AV.oref 6 1 0 r17.length]⟩, ⟨0, none⟩, ⟨0, none⟩, ⟨0, none⟩]) rfl rfl rfl (TOp.loadAgg_o rfl agg27 siz27 rfl rfl rfl rfl) rfl ?_
                  refine ROps.d (r := AV.agg [AV.i64 r5, AV.i64 r6, AV.oref 1 1 0 r8.length]) (fs := []) (Γ' := [⟨2, none⟩, ⟨1, some (r8.map AV.f32)⟩, ⟨1, some (r9.map AV.i64)⟩, ⟨1, some (r10.map AV.i64)⟩, ⟨1, some [AV.i64 r5, AV.i64 r6, AV.oref 1 1 0 r8.length]⟩, ⟨1, none⟩, ⟨1, some (r17.map AV.f32)⟩, ⟨1, some (r18.map AV.i64)⟩, ⟨1, some (r19.map AV.i64)⟩, ⟨1, some [AV.i64 r14, AV.i64 r15, AV.oref 6 1 0 r17.length]⟩, ⟨0, none⟩, ⟨0, none⟩, ⟨0, none⟩]) rfl rfl rfl (TOp.loadAgg_o rfl agg27 siz27 rfl rfl rfl rfl) rfl ?_
                  refine ROps.d (r := AV.b false) (fs := []) (Γ' := [⟨2, none⟩, ⟨1, some (r8.map AV.f32)⟩, ⟨1, some (r9.map AV.i64)⟩, ⟨1, some (r10.map AV.i64)⟩, ⟨1, some [AV.i64 r5, AV.i64 r6, AV.oref 1 1 0 r8.length]⟩, ⟨1, none⟩, ⟨1, some (r17.map AV.f32)⟩, ⟨1, some (r18.map AV.i64)⟩, ⟨1, some (r19.map AV.i64)⟩, ⟨1, some [AV.i64 r14, AV.i64 r15, AV.oref 6 1 0 r17.length]⟩, ⟨0, none⟩, ⟨0, none⟩, ⟨0, none⟩]) rfl rfl rfl (TOp.eqb (TOp.callB (CallAs.func ent13 rfl rfl) (Bors.cons (Bor.agg (Bors.cons (Bor.pure rfl) (Bors.cons (Bor.pure rfl) (Bors.cons (Bor.own (f := AV.f32) (fun _ => rfl) rfl rfl) Bors.nil)))) (Bors.cons (Bor.agg (Bors.cons (Bor.pure rfl) (Bors.cons (Bor.pure rfl) (Bors.cons (Bor.own (f := AV.f32) (fun _ => rfl) rfl rfl) Bors.nil)))) Bors.nil)) rfl rfl (w_eqMatrix_ok r14 r15 r17 r5 r6 r8 r29 hf20)) hc21) rfl ?_
                  refine ROps.l (r := AV.b true) rfl rfl rfl (LOp.eqb (LOp.not rfl rfl) rfl) ?_
                  refine ROps.l (r := AV.b true) rfl rfl rfl (LOp.pick_false rfl rfl rfl) ?_
                  refine ROps.l (r := AV.b true) rfl rfl rfl (LOp.move rfl rfl) ?_
                  refine ROps.s rfl rfl rfl ?_
                  refine ROps.s rfl rfl rfl ?_
                  refine ROps.s rfl rfl rfl ?_
                  refine ROps.s rfl rfl rfl ?_
                  refine ROps.l (r := AV.b true) rfl rfl rfl (LOp.pick_true rfl rfl rfl) ?_
                  refine ROps.l (r := AV.b true) rfl rfl rfl (LOp.move rfl rfl) ?_
                  refine ROps.s rfl rfl rfl ?_
                  refine ROps.s rfl rfl rfl ?_
                  refine ROps.s rfl rfl rfl ?_
                  refine ROps.s rfl rfl rfl ?_
                  refine ROps.l (r := AV.b true) rfl rfl rfl (LOp.pick_true rfl rfl rfl) ?_
                  refine ROps.l (r := AV.b true) rfl rfl rfl (LOp.move rfl rfl) ?_
                  refine ROps.s rfl rfl rfl ?_
                  refine ROps.s rfl rfl rfl ?_
                  refine ROps.s rfl rfl rfl ?_
                  refine ROps.l (r := AV.b true) rfl rfl rfl (LOp.pick_true rfl rfl rfl) ?_
                  refine ROps.nil ?_
                  refine RunC.wl (τ' := [(1, AV.f32 a3), (2, AV.i64 a4), (3, AV.ptr [AV.i64 a0, AV.i64 a1, AV.sl a2.length (a2.map AV.f32)]), (8, AV.optr 4 1 0), (9, AV.oref 2 1 0 r9.length), (10, AV.oref 3 1 0 r10.length), (11, AV.b r7), (13, AV.optr 9 1 0), (14, AV.oref 7 1 0 r18.length), (15, AV.oref 8 1 0 r19.length), (103, AV.b true)]) (Γ' := [⟨2, none⟩, ⟨1, some (r8.map AV.f32)⟩, ⟨1, some (r9.map AV.i64)⟩, ⟨1, some (r10.map AV.i64)⟩, ⟨1, some [AV.i64 r5, AV.i64 r6, AV.oref 1 1 0 r8.length]⟩, ⟨1, none⟩, ⟨1, some (r17.map AV.f32)⟩, ⟨1, some (r18.map AV.i64)⟩, ⟨1, some (r19.map AV.i64)⟩, ⟨1, some [AV.i64 r14, AV.i64 r15, AV.oref 6 1 0 r17.length]⟩, ⟨0, none⟩, ⟨0, none⟩, ⟨0, none⟩]) ⟨(ALe.refl _), (ALe.refl _), (ALe.refl _), (ALe.refl _), (ALe.refl _), (ALe.refl _), (ALe.refl _), (ALe.refl _), (ALe.refl _), (ALe.refl _), (ALe.refl _), trivial⟩ ⟨⟨rfl, .inl rfl⟩, ⟨rfl, .inr rfl⟩, ⟨rfl, .inr rfl⟩, ⟨rfl, .inr rfl⟩, ⟨rfl, .inr rfl⟩, ⟨rfl, .inl rfl⟩, ⟨rfl, .inr rfl⟩, ⟨rfl, .inr rfl⟩, ⟨rfl, .inr rfl⟩, ⟨rfl, .inr rfl⟩, ⟨rfl, .inr rfl⟩, ⟨rfl, .inr rfl⟩, ⟨rfl, .inr rfl⟩, trivial⟩ ?_
                  refine RunC.cond_true rfl rfl ?_
                  refine RunC.seq ?_
                  refine RunC.regionW ?_
                  refine ROps.l (r := AV.b false) rfl rfl rfl (LOp.assign rfl rfl) ?_
                  refine ROps.nil ?_
                  refine RunC.ret ?_
                  have hq := Option.some.inj h
                  subst q0
                  exact bodyQ.pure (.inr rfl) rfl (Res.one rfl (RV.tmp rfl))
            · refine RunC.region_draw (Γ' := [⟨2, some (r13.map AV.f32)⟩, ⟨1, some (r8.map AV.f32)⟩, ⟨1, some (r9.map AV.i64)⟩, ⟨1, some (r10.map AV.i64)⟩, ⟨1, some [AV.i64 r5, AV.i64 r6, AV.oref 1 1 0 r8.length]⟩, ⟨1, some [AV.i64 r11, AV.i64 r12, AV.oref 0 2 0 r13.length]⟩, ⟨1, some (r17.map AV.f32)⟩, ⟨1, some (r18.map AV.i64)⟩, ⟨1, some (r19.map AV.i64)⟩, ⟨1, some [AV.i64 r14, AV.i64 r15, AV.oref 6 1 0 r17.length]⟩, ⟨0, none⟩, ⟨0, none⟩, ⟨0, none⟩]) 5 mixed 
                (TR.d (r := AV.agg [AV.i64 r11, AV.i64 r12, AV.oref 0 2 0 r13.length]) (fs := []) rfl rfl (TOp.loadAgg_o rfl agg27 siz27 rfl rfl rfl rfl) <|
                (TR.l (r := AV.agg [AV.i64 a0, AV.i64 a1, AV.sl a2.length (a2.map AV.f32)]) rfl rfl (LOp.loadAgg agg24 siz24 rfl rfl rfl rfl) <|
                (TR.d (r := AV.agg [AV.i64 r23, AV.i64 r24, AV.sl r25.length (r25.map AV.f32)]) (fs := []) rfl rfl (TOp.callS (CallAs.func ent11 rfl rfl) (ALes.cons (ALe.refl _) ALes.nil) (lts_cons (lt_agg (lts_cons rfl (lts_cons rfl (lts_cons (lt_sl (fun _ => rfl)) lts_nil)))) lts_nil) (lt_agg (lts_cons rfl (lts_cons rfl (lts_cons (lt_sl (fun _ => rfl)) lts_nil)))) (w_toMatrix_ok a0 a1 a2 r23 r24 r25 hf14) (Bor.agg (Bors.cons (Bor.pure rfl) (Bors.cons (Bor.pure rfl) (Bors.cons (Bor.own (f := AV.f32) (fun _ => rfl) rfl rfl) Bors.nil))))) <|
                (TR.d (r := AV.b false) (fs := []) rfl rfl (TOp.eqb (TOp.callB (CallAs.func ent13 rfl rfl) (Bors.cons (Bor.agg (Bors.cons (Bor.pure rfl) (Bors.cons (Bor.pure rfl) (Bors.cons (Bor.own (f := AV.f32) (fun _ => rfl) rfl rfl) Bors.nil)))) (Bors.cons (Bor.agg (Bors.cons (Bor.pure rfl) (Bors.cons (Bor.pure rfl) (Bors.cons (Bor.sl (fun _ => rfl)) Bors.nil)))) Bors.nil)) rfl rfl (w_eqMatrix_ok r11 r12 r13 r23 r24 r25 r26 hf15)) hc16) <|
                (TR.l (r := AV.b true) rfl rfl (LOp.eqb (LOp.not rfl rfl) rfl) <|
                TR.nil))))) rfl (by kernel_rfl) rfl fills_nil rfl ?_
              iterate 5 refine ROps.dropS ?_
              refine ROps.drop0 ?_
              refine ROps.nil ?_
              refine RunC.cond_true rfl rfl ?_
              refine RunC.seq ?_
              refine RunC.regionW ?_
              refine ROps.l (r := AV.b false) rfl rfl rfl (LOp.assign rfl rfl) ?_
              refine ROps.nil ?_
              refine RunC.ret ?_
              have hq := Option.some.inj h
              subst q0
              exact bodyQ.pure (.inr rfl) rfl (Res.one rfl (RV.tmp rfl))
        · refine RunC.regionW ?_
          refine ROps.d (r := AV.agg [AV.i64 r14, AV.i64 r15, AV.oref 6 1 0 r17.length]) (fs := []) (Γ' := [⟨2, some (r13.map AV.f32)⟩, ⟨1, some (r8.map AV.f32)⟩, ⟨1, some (r9.map AV.i64)⟩, ⟨1, some (r10.map AV.i64)⟩, ⟨1, some [AV.i64 r5, AV.i64 r6, AV.oref 1 1 0 r8.length]⟩, ⟨1, some [AV.i64 r11, AV.i64 r12, AV.oref 0 2 0 r13.length]⟩, ⟨1, some (r17.map AV.f32)⟩, ⟨1, some (r18.map AV.i64)⟩, ⟨1, some (r19.map AV.i64)⟩, ⟨1, some [AV.i64 r14, AV.i64 r15, AV.oref 6 1 0 r17.length]⟩, ⟨0, none⟩, ⟨0, none⟩, ⟨0, none⟩]) rfl rfl rfl (TOp.loadAgg_o rfl agg27 siz27 rfl rfl rfl rfl) rfl ?_
          refine ROps.d (r := AV.agg [AV.i64 r5, AV.i64 r6, AV.oref 1 1 0 r8.length]) (fs := []) (Γ' := [⟨2, some (r13.map AV.f32)⟩, ⟨1, some (r8.map AV.f32)⟩, ⟨1, some (r9.map AV.i64)⟩, ⟨1, some (r10.map AV.i64)⟩, ⟨1, some [AV.i64 r5, AV.i64 r6, AV.oref 1 1 0 r8.length]⟩, ⟨1, some [AV.i64 r11, AV.i64 r12, AV.oref 0 2 0 r13.length]⟩, ⟨1, some (r17.map AV.f32)⟩, ⟨1, some (r18.map AV.i64)⟩, ⟨1, some (r19.map AV.i64)⟩, ⟨1, some [AV.i64 r14, AV.i64 r15, AV.oref 6 1 0 r17.length]⟩, ⟨0, none⟩, ⟨0, none⟩, ⟨0, none⟩]) rfl rfl rfl (TOp.loadAgg_o rfl agg27 siz27 rfl rfl rfl rfl) rfl ?_
          refine ROps.d (r := AV.b true) (fs := []) (Γ' := [⟨2, some (r13.map AV.f32)⟩, ⟨1, some (r8.map AV.f32)⟩, ⟨1, some (r9.map AV.i64)⟩, ⟨1, some (r10.map AV.i64)⟩, ⟨1, some [AV.i64 r5, AV.i64 r6, AV.oref 1 1 0 r8.length]⟩, ⟨1, some [AV.i64 r11, AV.i64 r12, AV.oref 0 2 0 r13.length]⟩, ⟨1, some (r17.map AV.f32)⟩, ⟨1, some (r18.map AV.i64)⟩, ⟨1, some (r19.map AV.i64)⟩, ⟨1, some [AV.i64 r14, AV.i64 r15, AV.oref 6 1 0 r17.length]⟩, ⟨0, none⟩, ⟨0, none⟩, ⟨0, none⟩]) rfl rfl rfl (TOp.eqb (TOp.callB (CallAs.func ent13 rfl rfl) (Bors.cons (Bor.agg (Bors.cons (Bor.pure rfl) (Bors.cons (Bor.pure rfl) (Bors.cons (Bor.own (f := AV.f32) (fun _ => rfl) rfl rfl) Bors.nil)))) (Bors.cons (Bor.agg (Bors.cons (Bor.pure rfl) (Bors.cons (Bor.pure rfl) (Bors.cons (Bor.own (f := AV.f32) (fun _ => rfl) rfl rfl) Bors.nil)))) Bors.nil)) rfl rfl (w_eqMatrix_ok r14 r15 r17 r5 r6 r8 r20 hf7)) hc8) rfl ?_
          refine ROps.l (r := AV.b false) rfl rfl rfl (LOp.eqb (LOp.not rfl rfl) rfl) ?_
          refine ROps.l (r := AV.b false) rfl rfl rfl (LOp.move rfl rfl) ?_
          refine ROps.l (r := AV.oref 7 1 0 r18.length) rfl rfl rfl (LOp.move rfl rfl) ?_
          refine ROps.l (r := AV.oref 2 1 0 r9.length) rfl rfl rfl (LOp.move rfl rfl) ?_
          refine ROps.d (r := AV.b true) (fs := []) (Γ' := [⟨2, some (r13.map AV.f32)⟩, ⟨1, some (r8.map AV.f32)⟩, ⟨1, some (r9.map AV.i64)⟩, ⟨1, some (r10.map AV.i64)⟩, ⟨1, some [AV.i64 r5, AV.i64 r6, AV.oref 1 1 0 r8.length]⟩, ⟨1, some [AV.i64 r11, AV.i64 r12, AV.oref 0 2 0 r13.length]⟩, ⟨1, some (r17.map AV.f32)⟩, ⟨1, some (r18.map AV.i64)⟩, ⟨1, some (r19.map AV.i64)⟩, ⟨1, some [AV.i64 r14, AV.i64 r15, AV.oref 6 1 0 r17.length]⟩, ⟨0, none⟩, ⟨0, none⟩, ⟨0, none⟩]) rfl rfl rfl (TOp.eqb (TOp.callB (CallAs.func ent14 rfl rfl) (Bors.cons (Bor.own (f := AV.i64) (fun _ => rfl) rfl rfl) (Bors.cons (Bor.own (f := AV.i64) (fun _ => rfl) rfl rfl) Bors.nil)) rfl rfl (w_eqInt64S_ok r18 r9 r21 hf9)) hc10) rfl ?_
          refine ROps.l (r := AV.b false) rfl rfl rfl (LOp.eqb (LOp.not rfl rfl) rfl) ?_
          refine ROps.l (r := AV.b false) rfl rfl rfl (LOp.pick_false rfl rfl rfl) ?_
          refine ROps.l (r := AV.b false) rfl rfl rfl (LOp.move rfl rfl) ?_
          refine ROps.l (r := AV.oref 8 1 0 r19.length) rfl rfl rfl (LOp.move rfl rfl) ?_
          refine ROps.l (r := AV.oref 3 1 0 r10.length) rfl rfl rfl (LOp.move rfl rfl) ?_
          refine ROps.d (r := AV.b false) (fs := []) (Γ' := [⟨2, some (r13.map AV.f32)⟩, ⟨1, some (r8.map AV.f32)⟩, ⟨1, some (r9.map AV.i64)⟩, ⟨1, some (r10.map AV.i64)⟩, ⟨1, some [AV.i64 r5, AV.i64 r6, AV.oref 1 1 0 r8.length]⟩, ⟨1, some [AV.i64 r11, AV.i64 r12, AV.oref 0 2 0 r13.length]⟩, ⟨1, some (r17.map AV.f32)⟩, ⟨1, some (r18.map AV.i64)⟩, ⟨1, some (r19.map AV.i64)⟩, ⟨1, some [AV.i64 r14, AV.i64 r15, AV.oref 6 1 0 r17.length]⟩, ⟨0, none⟩, ⟨0, none⟩, ⟨0, none⟩]) rfl rfl rfl (TOp.eqb (TOp.callB (CallAs.func ent14 rfl rfl) (Bors.cons (Bor.own (f := AV.i64) (fun _ => rfl) rfl rfl) (Bors.cons (Bor.own (f := AV.i64) (fun _ => rfl) rfl rfl) Bors.nil)) rfl rfl (w_eqInt64S_ok r19 r10 r22 hf11)) hc12) rfl ?_
          refine ROps.l (r := AV.b true) rfl rfl rfl (LOp.eqb (LOp.not rfl rfl) rfl) ?_
          refine ROps.l (r := AV.b true) rfl rfl rfl (LOp.pick_false rfl rfl rfl) ?_
          refine ROps.l (r := AV.b true) rfl rfl rfl (LOp.move rfl rfl) ?_
          refine ROps.s rfl rfl rfl ?_
          refine ROps.s rfl rfl rfl ?_
          refine ROps.s rfl rfl rfl ?_
          refine ROps.l (r := AV.b true) rfl rfl rfl (LOp.pick_true rfl rfl rfl) ?_
          refine ROps.nil ?_
          refine RunC.cond_true rfl rfl ?_
          refine RunC.seq ?_
          refine RunC.regionW ?_
          refine ROps.l (r := AV.b false) rfl rfl rfl (LOp.assign rfl rfl) ?_
          refine ROps.nil ?_
          refine RunC.ret ?_
          have hq := Option.some.inj h
          subst q0
          exact bodyQ.pure (.inr rfl) rfl (Res.one rfl (RV.tmp rfl))
      · refine RunC.regionW ?_
        refine ROps.d (r := AV.agg [AV.i64 r14, AV.i64 r15, AV.oref 6 1 0 r17.length]) (fs := []) (Γ' := [⟨2, some (r13.map AV.f32)⟩, ⟨1, some (r8.map AV.f32)⟩, ⟨1, some (r9.map AV.i64)⟩, ⟨1, some (r10.map AV.i64)⟩, ⟨1, some [AV.i64 r5, AV.i64 r6, AV.oref 1 1 0 r8.length]⟩, ⟨1, some [AV.i64 r11, AV.i64 r12, AV.oref 0 2 0 r13.length]⟩, ⟨1, some (r17.map AV.f32)⟩, ⟨1, some (r18.map AV.i64)⟩, ⟨1, some (r19.map AV.i64)⟩, ⟨1, some [AV.i64 r14, AV.i64 r15, AV.oref 6 1 0 r17.length]⟩, ⟨0, none⟩, ⟨0, none⟩, ⟨0, none⟩]) rfl rfl rfl (TOp.loadAgg_o rfl agg27 siz27 rfl rfl rfl rfl) rfl ?_
        refine ROps.d (r := AV.agg [AV.i64 r5, AV.i64 r6, AV.oref 1 1 0 r8.length]) (fs := []) (Γ' := [⟨2, some (r13.map AV.f32)⟩, ⟨1, some (r8.map AV.f32)⟩, ⟨1, some (r9.map AV.i64)⟩, ⟨1, some (r10.map AV.i64)⟩, ⟨1, some [AV.i64 r5, AV.i64 r6, AV.oref 1 1 0 r8.length]⟩, ⟨1, some [AV.i64 r11, AV.i64 r12, AV.oref 0 2 0 r13.length]⟩, ⟨1, some (r17.map AV.f32)⟩, ⟨1, some (r18.map AV.i64)⟩, ⟨1, some (r19.map AV.i64)⟩, ⟨1, some [AV.i64 r14, AV.i64 r15, AV.oref 6 1 0 r17.length]⟩, ⟨0, none⟩, ⟨0, none⟩, ⟨0, none⟩]) rfl rfl rfl (TOp.loadAgg_o rfl agg27 siz27 rfl rfl rfl rfl) rfl ?_
        refine ROps.d (r := AV.b true) (fs := []) (Γ' := [⟨2, some (r13.map AV.f32)⟩, ⟨1, some (r8.map AV.f32)⟩, ⟨1, some (r9.map AV.i64)⟩, ⟨1, some (r10.map AV.i64)⟩, ⟨1, some [AV.i64 r5, AV.i64 r6, AV.oref 1 1 0 r8.length]⟩, ⟨1, some [AV.i64 r11, AV.i64 r12, AV.oref 0 2 0 r13.length]⟩, ⟨1, some (r17.map AV.f32)⟩, ⟨1, some (r18.map AV.i64)⟩, ⟨1, some (r19.map AV.i64)⟩, ⟨1, some [AV.i64 r14, AV.i64 r15, AV.oref 6 1 0 r17.length]⟩, ⟨0, none⟩, ⟨0, none⟩, ⟨0, none⟩]) rfl rfl rfl (TOp.eqb (TOp.callB (CallAs.func ent13 rfl rfl) (Bors.cons (Bor.agg (Bors.cons (Bor.pure rfl) (Bors.cons (Bor.pure rfl) (Bors.cons (Bor.own (f := AV.f32) (fun _ => rfl) rfl rfl) Bors.nil)))) (Bors.cons (Bor.agg (Bors.cons (Bor.pure rfl) (Bors.cons (Bor.pure rfl) (Bors.cons (Bor.own (f := AV.f32) (fun _ => rfl) rfl rfl) Bors.nil)))) Bors.nil)) rfl rfl (w_eqMatrix_ok r14 r15 r17 r5 r6 r8 r20 hf7)) hc8) rfl ?_
        refine ROps.l (r := AV.b false) rfl rfl rfl (LOp.eqb (LOp.not rfl rfl) rfl) ?_
        refine ROps.l (r := AV.b false) rfl rfl rfl (LOp.move rfl rfl) ?_
        refine ROps.l (r := AV.oref 7 1 0 r18.length) rfl rfl rfl (LOp.move rfl rfl) ?_
        refine ROps.l (r := AV.oref 2 1 0 r9.length) rfl rfl rfl (LOp.move rfl rfl) ?_
        refine ROps.d (r := AV.b false) (fs := []) (Γ' := [⟨2, some (r13.map AV.f32)⟩, ⟨1, some (r8.map AV.f32)⟩, ⟨1, some (r9.map AV.i64)⟩, ⟨1, some (r10.map AV.i64)⟩, ⟨1, some [AV.i64 r5, AV.i64 r6, AV.oref 1 1 0 r8.length]⟩, ⟨1, some [AV.i64 r11, AV.i64 r12, AV.oref 0 2 0 r13.length]⟩, ⟨1, some (r17.map AV.f32)⟩, ⟨1, some (r18.map AV.i64)⟩, ⟨1, some (r19.map AV.i64)⟩, ⟨1, some [AV.i64 r14, AV.i64 r15, AV.oref 6 1 0 r17.length]⟩, ⟨0, none⟩, ⟨0, none⟩, ⟨0, none⟩]) rfl rfl rfl (TOp.eqb (TOp.callB (CallAs.func ent14 rfl rfl) (Bors.cons (Bor.own (f := AV.i64) (fun _ => rfl) rfl rfl) (Bors.cons (Bor.own (f := AV.i64) (fun _ => rfl) rfl rfl) Bors.nil)) rfl rfl (w_eqInt64S_ok r18 r9 r21 hf9)) hc10) rfl ?_
        refine ROps.l (r := AV.b true) rfl rfl rfl (LOp.eqb (LOp.not rfl rfl) rfl) ?_
        refine ROps.l (r := AV.b true) rfl rfl rfl (LOp.pick_false rfl rfl rfl) ?_
        refine ROps.l (r := AV.b true) rfl rfl rfl (LOp.move rfl rfl) ?_
        refine ROps.s rfl rfl rfl ?_
        refine ROps.s rfl rfl rfl ?_
        refine ROps.s rfl rfl rfl ?_
        refine ROps.s rfl rfl rfl ?_
        refine ROps.l (r := AV.b true) rfl rfl rfl (LOp.pick_true rfl rfl rfl) ?_
        refine ROps.l (r := AV.b true) rfl rfl rfl (LOp.move rfl rfl) ?_
        refine ROps.s rfl rfl rfl ?_
        refine ROps.s rfl rfl rfl ?_
        refine ROps.s rfl rfl rfl ?_
        refine ROps.l (r := AV.b true) rfl rfl rfl (LOp.pick_true rfl rfl rfl) ?_
        refine ROps.nil ?_
        refine RunC.cond_true rfl rfl ?_
        refine RunC.seq ?_
        refine RunC.regionW ?_
        refine ROps.l (r := AV.b false) rfl rfl rfl (LOp.assign rfl rfl) ?_
        refine ROps.nil ?_
        refine RunC.ret ?_
        have hq := Option.some.inj h
        subst q0
        exact bodyQ.pure (.inr rfl) rfl (Res.one rfl (RV.tmp rfl))
    · refine RunC.regionW ?_
      refine ROps.d (r := AV.agg [AV.i64 r14, AV.i64 r15, AV.oref 6 1 0 r17.length]) (fs := []) (Γ' := [⟨2, some (r13.map AV.f32)⟩, ⟨1, some (r8.map AV.f32)⟩, ⟨1, some (r9.map AV.i64)⟩, ⟨1, some (r10.map AV.i64)⟩, ⟨1, some [AV.i64 r5, AV.i64 r6, AV.oref 1 1 0 r8.length]⟩, ⟨1, some [AV.i64 r11, AV.i64 r12, AV.oref 0 2 0 r13.length]⟩, ⟨1, some (r17.map AV.f32)⟩, ⟨1, some (r18.map AV.i64)⟩, ⟨1, some (r19.map AV.i64)⟩, ⟨1, some [AV.i64 r14, AV.i64 r15, AV.oref 6 1 0 r17.length]⟩, ⟨0, none⟩, ⟨0, none⟩, ⟨0, none⟩]) rfl rfl rfl (TOp.loadAgg_o rfl agg27 siz27 rfl rfl rfl rfl) rfl ?_
      refine ROps.d (r := AV.agg [AV.i64 r5, AV.i64 r6, AV.oref 1 1 0 r8.length]) (fs := []) (Γ' := [⟨2, some (r13.map AV.f32)⟩, ⟨1, some (r8.map AV.f32)⟩, ⟨1, some (r9.map AV.i64)⟩, ⟨1, some (r10.map AV.i64)⟩, ⟨1, some [AV.i64 r5, AV.i64 r6, AV.oref 1 1 0 r8.length]⟩, ⟨1, some [AV.i64 r11, AV.i64 r12, AV.oref 0 2 0 r13.length]⟩, ⟨1, some (r17.map AV.f32)⟩, ⟨1, some (r18.map AV.i64)⟩, ⟨1, some (r19.map AV.i64)⟩, ⟨1, some [AV.i64 r14, AV.i64 r15, AV.oref 6 1 0 r17.length]⟩, ⟨0, none⟩, ⟨0, none⟩, ⟨0, none⟩]) rfl rfl rfl (TOp.loadAgg_o rfl agg27 siz27 rfl rfl rfl rfl) rfl ?_
      refine ROps.d (r := AV.b false) (fs := []) (Γ' := [⟨2, some (r13.map AV.f32)⟩, ⟨1, some (r8.map AV.f32)⟩, ⟨1, some (r9.map AV.i64)⟩, ⟨1, some (r10.map AV.i64)⟩, ⟨1, some [AV.i64 r5, AV.i64 r6, AV.oref 1 1 0 r8.length]⟩, ⟨1, some [AV.i64 r11, AV.i64 r12, AV.oref 0 2 0 r13.length]⟩, ⟨1, some (r17.map AV.f32)⟩, ⟨1, some (r18.map AV.i64)⟩, ⟨1, some (r19.map AV.i64)⟩, ⟨1, some [AV.i64 r14, AV.i64 r15, AV.oref 6 1 0 r17.length]⟩, ⟨0, none⟩, ⟨0, none⟩, ⟨0, none⟩]) rfl rfl rfl (TOp.eqb (TOp.callB (CallAs.func ent13 rfl rfl) (Bors.cons (Bor.agg (Bors.cons (Bor.pure rfl) (Bors.cons (Bor.pure rfl) (Bors.cons (Bor.own (f := AV.f32) (fun _ => rfl) rfl rfl) Bors.nil)))) (Bors.cons (Bor.agg (Bors.cons (Bor.pure rfl) (Bors.cons (Bor.pure rfl) (Bors.cons (Bor.own (f := AV.f32) (fun _ => rfl) rfl rfl) Bors.nil)))) Bors.nil)) rfl rfl (w_eqMatrix_ok r14 r15 r17 r5 r6 r8 r20 hf7)) hc8) rfl ?_
      refine ROps.l (r := AV.b true) rfl rfl rfl (LOp.eqb (LOp.not rfl rfl) rfl) ?_
      refine ROps.l (r := AV.b true) rfl rfl rfl (LOp.move rfl rfl) ?_
      refine ROps.s rfl rfl rfl ?_
      refine ROps.s rfl rfl rfl ?_
      refine ROps.s rfl rfl rfl ?_
      refine ROps.s rfl rfl rfl ?_
      refine ROps.l (r := AV.b true) rfl rfl rfl (LOp.pick_true rfl rfl rfl) ?_
      refine ROps.l (r := AV.b true) rfl rfl rfl (LOp.move rfl rfl) ?_
      refine ROps.s rfl rfl rfl ?_
      refine ROps.s rfl rfl rfl ?_
      refine ROps.s rfl rfl rfl ?_
      refine ROps.s rfl rfl rfl ?_
      refine ROps.l (r := AV.b true) rfl rfl rfl (LOp.pick_true rfl rfl rfl) ?_
      refine ROps.l (r := AV.b true) rfl rfl rfl (LOp.move rfl rfl) ?_
      refine ROps.s rfl rfl rfl ?_
      refine ROps.s rfl rfl rfl ?_
      refine ROps.s rfl rfl rfl ?_
      refine ROps.l (r := AV.b true) rfl rfl rfl (LOp.pick_true rfl rfl rfl) ?_
      refine ROps.nil ?_
      refine RunC.cond_true rfl rfl ?_
      refine RunC.seq ?_
      refine RunC.regionW ?_
      refine ROps.l (r := AV.b false) rfl rfl rfl (LOp.assign rfl rfl) ?_
      refine ROps.nil ?_
      refine RunC.ret ?_
      have hq := Option.some.inj h
      subst q0
      exact bodyQ.pure (.inr rfl) rfl (Res.one rfl (RV.tmp rfl))
end Go.Proofs.Ytjbifkimffmhpaa
